/- A part of the proof of a statement of this seat (see the text that ends in Proof): LwBase, LwBitB, LwLe, LwBits, LwRef02, LwCut, LwUn, LwRice, LwDual, LwVal, LwI32, LwFil, LwUnm, LwSam, LwCrc, LwFrm, LwEc1, LwEc2, LwC64, LwWby, LwId, LwApe, LwStrip, LwLen, LwHead, LwSeek, LwOpen, LwFrame. No conditions of its own. -/
import Derived.Test.YtidigmkmfmopgaaGreatDoorDfBA
import Derived.Test.YtidigmkmfmopgaaGreatDoorDfPA
set_option linter.unusedVariables false
set_option linter.unusedSimpArgs false
namespace Go.Lv
theorem Ag{a b:Int}(h: -9223372036854775808≤a+b)(h':a+b≤9223372036854775807):Ad a b=a+b:=by rw[Cjz,Br h h']
theorem Az{a b:Int}(h: -9223372036854775808≤a-b)(h':a-b≤9223372036854775807):Aj a b=a-b:=by rw[Ckt,Br h h']
theorem Fb{a b:Int}(h: -9223372036854775808≤a*b)(h':a*b≤9223372036854775807):Au a b=a*b:=by rw[Cbw,Br h h']
theorem Ako(c:UInt8):(Af c:Int)=(c.toNat:Int):=by rw[Cdr,Br]<;>have:=c.toNat_lt<;>omega
theorem Bi9(c:UInt32):(Af c:Int)=(c.toNat:Int):=by rw[Byp,Br]<;>have:=c.toNat_lt<;>omega
theorem Az2(c:UInt8):(Af c:UInt64)=UInt64.ofNat c.toNat:=by simp only[Af,Zq,Gp]
theorem Ci(c:UInt32):(Af c:UInt64)=UInt64.ofNat c.toNat:=by simp only[Af,Wo,Gp]
theorem Alf(c:UInt64):(Af c:UInt8)=UInt8.ofNat c.toNat:=by simp only[Af,Hw,Mb]
theorem Bar(c:UInt32):(Af c:UInt8)=UInt8.ofNat c.toNat:=by simp only[Af,Wo,Mb]
theorem Te(n:Nat):(Af (n:Int):UInt64)=UInt64.ofNat n:=by simp only[Af];exact Gp n
theorem Blw(n:Nat):(Af (n:Int):UInt32)=UInt32.ofNat n:=by simp only[Af];exact Ea n
theorem Cco(n:Nat):(Af (n:Int):UInt8)=UInt8.ofNat n:=by simp only[Af];exact Mb n
theorem Bdy{c:UInt64}(h:c.toNat<9223372036854775808):(Af c:Int)=(c.toNat:Int):=by rw[Cao,Br]<;>omega
theorem Bxl:LIM=17179869184:=by decide
theorem Al:36893488147419103231<FUEL:=by decide
theorem Bm{α:Type}{l:List α}{n:Nat}(h:n<l.length):getI l (n:Int)=some l[n]:=by simp[getI,h]
theorem Qj{α:Type}{l:List α}{n:Nat}(x:α)(h:n<l.length):Jj l (n:Int) x=some (l.set n x):=by simp[Jj,h]
theorem Me{α:Type}{l:List α}{a b:Int}(h:0≤a)(h1:a≤b)(h2:b≤l.length):Bo l a b=some ((l.take b.toNat).drop a.toNat):=by rw[Bo,if_pos ⟨h,h1,h2⟩]
theorem Cb{α:Type}{l:List α}{a:Int}(h:0≤a)(h1:a≤l.length):Bo l a (Ac l)=some (l.drop a.toNat):=by
 unfold Ac;rw[Me h h1 (Int.le_refl _),Int.toNat_natCast,List.take_length]
theorem Gz{α:Type}{l:List α}{b:Int}(h:0≤b)(h1:b≤l.length):Bo l 0 b=some (l.take b.toNat):=by rw[Me (Int.le_refl _) h h1];rfl
theorem Ce{α:Type}{l m:List α}(h:l.length+m.length≤17179869184):Ek l m=some (l++m):=by rw[Ek,Bxl,if_pos h]
theorem Bcw{α:Type}{n:Int}{z:α}(h:0≤n)(h':n≤17179869184):mkI n z=some (List.replicate n.toNat z):=by rw[mkI,Bxl,if_pos ⟨h,h'⟩]
theorem Ci2:Hu true=some ():=rfl
theorem Ba{b:Bool}(h:b=true):Hu b=some ():=by rw[h];rfl
theorem Aa{α β:Type}(a:α)(f:α→Option β):Option.bind (some a) f=f a:=rfl
theorem drop_cons{α:Type}{l:List α}{n:Nat}(h:n<l.length):l.drop n=l[n]::l.drop (n+1):=List.drop_eq_getElem_cons h
theorem Ir{α:Type}{l:List α}{n:Nat}(h:n<l.length):l.take (n+1)=l.take n++[l[n]]:=by rw[List.take_add_one,List.getElem?_eq_getElem h];rfl
def leN:List UInt8→Nat
 |[]=>0
 |x::r=>x.toNat+256*leN r
theorem Bas:∀l:List UInt8,leN l<256^l.length
 |[]=>by simp[leN]
 |x::r=>by
  have h:=Bas r
  have:=x.toNat_lt
  simp only[leN,List.length_cons,Nat.pow_succ]
  omega
theorem Az6:∀l m:List UInt8,leN (l++m)=leN l+256^l.length*leN m
 |[],m=>by simp[leN]
 |x::r,m=>by
  simp only[leN,List.cons_append,Az6 r m,List.length_cons,Nat.pow_succ,Nat.mul_add]
  rw[Nat.mul_comm (256^r.length) 256,Nat.mul_assoc];omega
def leU(l:List UInt8):UInt64:=UInt64.ofNat (leN l)
theorem Chi{l:List UInt8}(h:l.length≤8):leN l<18446744073709551616:=by
 have h1:=Bas l
 have h2:256^l.length≤256^8:=Nat.pow_le_pow_right (by omega) h
 exact Nat.lt_of_lt_of_le h1 (by simpa using h2)
theorem Bph{l:List UInt8}(h:l.length≤4):leN l<4294967296:=by
 have h1:=Bas l
 have h2:256^l.length≤256^4:=Nat.pow_le_pow_right (by omega) h
 exact Nat.lt_of_lt_of_le h1 (by simpa using h2)
theorem Aob{l:List UInt8}(h:l.length≤8):(leU l).toNat=leN l:=by
 rw[leU,UInt64.toNat_ofNat',Nat.mod_eq_of_lt (Chi h)]
theorem Agl{l:List UInt8}(h:l.length≤4):(Af (leU l):Int)=(leN l:Int):=by
 have:=Bph h
 rw[Bdy]<;>rw[Aob (by omega)];omega
def Ns(n:Nat):Nat→List UInt8
 |0=>[]
 |w+1=>UInt8.ofNat n::Ns (n/256) w
theorem Bb:∀(w n:Nat),(Ns n w).length=w
 |0,_=>rfl
 |w+1,n=>by simp[Ns,Bb w]
theorem Bqj:∀(w n:Nat),Ns n (w+1)=Ns n w++[UInt8.ofNat (n/256^w)]
 |0,n=>by simp[Ns]
 |w+1,n=>by
  rw[Ns,Bqj w (n/256),Ns]
  simp[Nat.div_div_eq_div_mul,Nat.pow_succ,Nat.mul_comm]
end Go.Lv
set_option linter.unusedVariables false
set_option linter.unusedSimpArgs false
namespace Go.Lv
def Fh(p:List UInt8)(i:Nat):Nat:=(p.getD (i/8) 0).toNat/2^(i %8) %2
theorem Yk(p:List UInt8)(i:Nat):Fh p i<2:=Nat.mod_lt _ (by omega)
def Be(p:List UInt8):Nat→Nat→Nat
 |_,0=>0
 |a,n+1=>Fh p a+2*Be p (a+1) n
theorem Mw(p:List UInt8):∀(n a:Nat),Be p a n<2^n
 |0,_=>by simp[Be]
 |n+1,a=>by
  have:=Mw p n (a+1)
  have:=Yk p a
  rw[Be,Nat.pow_succ];omega
theorem Aht(p:List UInt8):∀(m n a:Nat),Be p a (m+n)=Be p a m+2^m*Be p (a+m) n
 |0,n,a=>by simp[Be]
 |m+1,n,a=>by
  rw[show m+1+n=(m+n)+1 by omega,Be,Be,Aht p m n (a+1),show a+1+m=a+(m+1) by omega,Nat.pow_succ,Nat.mul_add,Nat.mul_comm (2^m) 2,Nat.mul_assoc];omega
theorem Bbh(p:List UInt8)(a:Nat):Be p a 1=Fh p a:=by simp[Be]
theorem Ayt(p:List UInt8)(a n:Nat):Be p a (n+1)=Be p a n+2^n*Fh p (a+n):=by rw[Aht p n 1 a,Bbh]
theorem Aqr(p:List UInt8)(a:Nat):∀t:Nat,a %8+t≤8→Be p a t=(p.getD (a/8) 0).toNat/2^(a %8) %2^t
 |0,_=>by simp[Be,Nat.mod_one]
 |t+1,h=>by
  have h1:(a+t)/8=a/8:=by omega
  have h2:(a+t) %8=a %8+t:=by omega
  rw[Ayt,Aqr p a t (by omega),Fh,h1,h2,Nat.mod_pow_succ,Nat.pow_add,Nat.div_div_eq_div_mul]
theorem Bdr{p:List UInt8}:∀(n a:Nat),(∀k,k<n→Fh p (a+k)=0)→Be p a n=0
 |0,_,_=>rfl
 |n+1,a,h=>by
  have h0:=h 0 (by omega)
  rw[Be,Bdr n (a+1) fun k hk=>by have:=h (k+1) (by omega);rwa [show a+1+k=a+(k+1) by omega]]
  rw[Nat.add_zero]at h0;omega
def okB(p:List UInt8)(n:Nat):Prop:=n≤330000∧p.length=(n+7)/8∧∀k,n≤k→k<8*p.length→Fh p k=0
def Nt(p:List UInt8)(a n:Nat):List UInt8:=(List.range ((n+7)/8)).map fun j=>UInt8.ofNat (Be p (a+8*j) (min 8 (n-8*j)))
theorem Hg(p:List UInt8)(a n:Nat):(Nt p a n).length=(n+7)/8:=by simp[Nt]
theorem Bp5(p:List UInt8):∀(n a k:Nat),k<n→Be p a n/2^k %2=Fh p (a+k)
 |n+1,a,0,_=>by have:=Yk p a;rw[Be];simp;omega
 |n+1,a,k+1,h=>by
  have hb:=Yk p a
  have e:(Fh p a+2*Be p (a+1) n)/2=Be p (a+1) n:=by omega
  rw[Be,Nat.pow_succ,Nat.mul_comm (2^k) 2,←Nat.div_div_eq_div_mul,e,Bp5 p n (a+1) k (by omega),show a+1+k=a+(k+1) by omega]
theorem Caw(p:List UInt8)(n a k:Nat)(h:n≤k):Be p a n/2^k %2=0:=by
 have:=Mw p n a
 rw[Nat.div_eq_of_lt (Nat.lt_of_lt_of_le this (Nat.pow_le_pow_right (by omega) h))]
theorem Bbi(p:List UInt8)(a n k:Nat):Fh (Nt p a n) k=if k<n then Fh p (a+k)else 0:=by
 rw[Fh]
 by_cases hj:k/8<(n+7)/8
 ·have e:(Nt p a n).getD (k/8) 0=UInt8.ofNat (Be p (a+8*(k/8)) (min 8 (n-8*(k/8)))):=by
   rw[List.getD_eq_getElem?_getD,List.getElem?_eq_getElem (by rw[Hg];exact hj)];simp[Nt]
  have hlt:Be p (a+8*(k/8)) (min 8 (n-8*(k/8)))<256:=by
   have:=Mw p (min 8 (n-8*(k/8))) (a+8*(k/8))
   have h2:2^(min 8 (n-8*(k/8)))≤2^8:=Nat.pow_le_pow_right (by omega) (by omega)
   omega
  have hu:(UInt8.ofNat (Be p (a+8*(k/8)) (min 8 (n-8*(k/8))))).toNat=Be p (a+8*(k/8)) (min 8 (n-8*(k/8))):=by
   rw[UInt8.toNat_ofNat'];exact Nat.mod_eq_of_lt hlt
  rw[e,hu]
  by_cases hk:k<n
  ·rw[if_pos hk,Bp5 p _ _ _ (by omega),show a+8*(k/8)+k %8=a+k by omega]
  ·rw[if_neg hk,Caw p _ _ _ (by omega)]
 ·have e:(Nt p a n).getD (k/8) 0=0:=by
   rw[List.getD_eq_getElem?_getD,List.getElem?_eq_none (by rw[Hg];omega)];rfl
  rw[e,if_neg (by omega)];simp
theorem Bbg(p:List UInt8)(a n:Nat)(h:n≤330000):okB (Nt p a n) n:=⟨h,Hg p a n,fun k hk _=>by rw[Bbi,if_neg (by omega)]⟩
theorem Bqz{p q:List UInt8}(hl:p.length=q.length)(h:∀k,k<8*p.length→Fh p k=Fh q k):p=q:=by
 apply List.ext_getElem hl
 intro i h1 h2
 have hp:Be p (8*i) 8=Be q (8*i) 8:=by
  have key:∀(n a:Nat),a+n≤8*p.length→Be p a n=Be q a n:=by
   intro n
   induction n with
   |zero=>intros;rfl
   |succ n ih=>intro a ha;rw[Be,Be,h a (by omega),ih (a+1) (by omega)]
  exact key 8 (8*i) (by omega)
 rw[Aqr p _ 8 (by omega),Aqr q _ 8 (by omega)]at hp
 have e1:8*i/8=i:=by omega
 have e2:8*i %8=0:=by omega
 rw[e1,e2]at hp
 have a1:p.getD i 0=p[i]:=by simp[List.getD_eq_getElem?_getD,h1]
 have a2:q.getD i 0=q[i]:=by simp[List.getD_eq_getElem?_getD,h2]
 rw[a1,a2]at hp
 apply UInt8.toNat_inj.1
 have:=p[i].toNat_lt
 have:=q[i].toNat_lt
 simp at hp;omega
end Go.Lv
set_option linter.unusedVariables false
set_option linter.unusedSimpArgs false
namespace Go.Pl
open Go Go.Lv
theorem Cct(b:List UInt8)(hb:b.length<4611686018427387904):∀(j q:Nat),j≤b.length→j<q→Ml b q (leU (b.drop j)) ((j:Int)-1)=some (leU b)
 |0,q+1,_,_=>by
  rw[Ml,Zl,if_neg (by rw[Cu];simp)]
  simp[Ani,Anq]
 |j+1,q+1,hj,hq=>by
  rw[Ml,Zl,if_pos (by rw[Cu];simp),show((j+1:Nat):Int)-1=(j:Int) by omega,Bm (by omega),Aa,Az (by omega) (by omega)]
  have h:Ad (Au (256:UInt64) (leU (b.drop (j+1)))) (Af b[j]:UInt64)=leU (b.drop j):=by
   rw[Ahs,Ahz,Az2,drop_cons (n:=j) (by omega),leU,leU,leN,UInt64.ofNat_add,UInt64.ofNat_mul]
   exact UInt64.add_comm _ _
  rw[h]
  exact Cct b hb j q (by omega) (by omega)
theorem Bsx(b:List UInt8)(hb:b.length<4611686018427387904):Cs b=some (leU b):=by
 have h:=Cct b hb b.length FUEL (Nat.le_refl _) (by have:=Al;omega)
 rw[Cs,Amy,Ams]
 have e:Aj (Ac b) 1=(b.length:Int)-1:=Az (by unfold Ac;omega) (by unfold Ac;omega)
 rw[e,←h,List.drop_length];rfl
theorem Cbj{n c:UInt64}{i:Nat}(hn:n.toNat<2^i)(hc:c.toNat*2^i<18446744073709551616):gor n (Cp c i)=UInt64.ofNat (n.toNat+c.toNat*2^i):=by
 rw[Cf9];apply UInt64.toNat_inj.1
 rw[UInt64.toNat_or,Anp,Nat.mod_eq_of_lt hc,Nat.mul_comm,Nat.or_comm,←Nat.two_pow_add_eq_or_of_lt hn,UInt64.toNat_ofNat',Nat.mod_eq_of_lt,Nat.add_comm,Nat.mul_comm]
 have h:=Nat.two_pow_add_eq_or_of_lt hn c.toNat
 have h2:2^i*c.toNat+n.toNat<2^64:=by
  rw[h]
  exact Nat.or_lt_two_pow (by rw[Nat.mul_comm];simpa using hc) n.toNat_lt
 rw[Nat.add_comm];first|exact h2|(rw[Nat.mul_comm];exact h2)
theorem Bm6(b:List UInt8)(hb:b.length≤8):∀(j i q:Nat),i+j=b.length→j<q→Aah b q (leU (b.take i)) (i:Int)=some (leU b,0)
 |0,i,q+1,hi,_=>by
  rw[Aah,Aop,if_neg (by rw[Ae,Ac];simp;omega),show i=b.length by omega,List.take_length];rfl
 |j+1,i,q+1,hi,hq=>by
  have hlt:i<b.length:=by omega
  rw[Aah,Aop,if_pos (by rw[Ae,Ac];simp;omega),Bm hlt,Aa,Fb (by omega) (by omega),Ba (by rw[Cu];simp;omega),Aa,Ag (by omega) (by omega)]
  have h:gor (leU (b.take i)) (Cp (Af b[i]:UInt64) (GI.toZ ((8:Int)*(i:Int))).toNat)=leU (b.take (i+1)):=by
   have e:(GI.toZ ((8:Int)*(i:Int))).toNat=8*i:=by show((8:Int)*(i:Int)).toNat=_;omega
   have e2:(2:Nat)^(8*i)=256^i:=by rw[Nat.pow_mul]
   have h1:=Bas (b.take i)
   rw[List.length_take,Nat.min_eq_left (by omega)]at h1
   have h3:=b[i].toNat_lt
   have hle:(256:Nat)^(i+1)≤256^8:=Nat.pow_le_pow_right (by omega) (by omega)
   rw[Nat.pow_succ]at hle
   have h4:(Af b[i]:UInt64).toNat=b[i].toNat:=by rw[Az2,UInt64.toNat_ofNat'];omega
   have h5:b[i].toNat*256^i<18446744073709551616:=by
    have:b[i].toNat*256^i<256*256^i:=Nat.mul_lt_mul_of_pos_right (by simpa using h3) (Nat.pow_pos (by omega))
    simp at hle;omega
   rw[e,Cbj (by rw[Aob (by simp;omega),e2];exact h1) (by rw[h4,e2];exact h5),Aob (by simp;omega),h4,e2,Ir hlt]
   rw[leU,Az6]
   simp only[leN,List.length_take,Nat.min_eq_left (Nat.le_of_lt hlt),Nat.mul_zero,Nat.add_zero]
   rw[Nat.mul_comm]
  rw[h]
  exact Bm6 b hb j (i+1) q (by omega) (by omega)
theorem Bsu(b:List UInt8)(h1:1≤b.length)(h2:b.length≤8):Awh b=some (leU b,0):=by
 have h:=Bm6 b h2 b.length 0 FUEL (by omega) (by have:=Al;omega)
 rw[Awh,Avy,if_neg (by simp[Ae,Ak,Ac];omega),Awu]
 exact h
def part(b:List UInt8)(at' w:Nat):List UInt8:=(b.take (at'+w)).drop at'
theorem De{b:List UInt8}{a w:Nat}(h:a+w≤b.length):(part b a w).length=w:=by simp[part];omega
theorem Bmc(b:List UInt8)(a w:Nat)(h1:1≤w)(h2:w≤8)(h3:a+w≤b.length)(hb:b.length<4611686018427387904):Arl b (a:Int) (w:Int)=some (leU (part b a w),0):=by
 rw[Arl,if_neg (by simp[Ae,Ak];omega),if_neg (by rw[Ak,Az (by unfold Ac;omega) (by unfold Ac;omega),Ac];simp;omega),Ag (by omega) (by omega),Me (by omega) (by omega) (by omega),Aa]
 rw[show((a:Int)+(w:Int)).toNat=a+w by omega,show(a:Int).toNat=a by omega]
 rw[Bsu _ (by rw[show((b.take (a+w)).drop a).length=_ from De h3];exact h1) (by rw[show((b.take (a+w)).drop a).length=_ from De h3];exact h2),Aa];rfl
theorem Bfj(w:Nat)(hw:w≤1000):∀(j i q:Nat) (n:UInt64) (acc:List UInt8),i+j=w→j<q→acc.length+j≤1000000→Gm (w:Int) q n (i:Int) acc=some (acc++Ns n.toNat j)
 |0,i,q+1,n,acc,hi,_,_=>by
  rw[Gm,Pz,if_neg (by rw[Ae];simp;omega)]
  simp[Aam,Aa5,Ns]
 |j+1,i,q+1,n,acc,hi,hq,ha=>by
  rw[Gm,Pz,if_pos (by rw[Ae];simp;omega)]
  have e:(Af (Aa7 n (256:UInt64)):UInt8)=UInt8.ofNat n.toNat:=by
   rw[Alf,Btm];apply UInt8.toNat_inj.1
   rw[UInt8.toNat_ofNat',UInt8.toNat_ofNat',UInt64.toNat_mod]
   show n.toNat %256 %256=_
   omega
  have e2:(Bt n (256:UInt64)).toNat=n.toNat/256:=by rw[Bbq,UInt64.toNat_div];rfl
  rw[Ce (by simp;omega),Aa,Ag (by omega) (by omega),e]
  have h:=Bfj w hw j (i+1) q (Bt n 256) (acc++[UInt8.ofNat n.toNat]) (by omega) (by omega) (by simp;omega)
  rw[e2]at h
  rw[show((i:Int)+1)=((i+1:Nat):Int) by omega,h,Ns];simp
theorem Bky(n:UInt64)(w:Nat)(hw:w≤1000):Dk n (w:Int)=some (Ns n.toNat w):=by
 rw[Dk,Aaw,Aao]
 have h:=Bfj w hw w 0 FUEL n [] (by omega) (by have:=Al;omega) (by simp;omega)
 simpa using h
theorem As6{α:Type}{l m:List α}{x y:α}{i:Nat}(h:l.length=i):(l++x::m).set i y=l++y::m:=by subst h;simp
theorem Bmq(n:UInt64)(l4:List UInt8)(w:Nat)(hl:l4.length=w)(hw:w≤8):∀(j i q:Nat),i+j=w→j<q→Aar n l4 q (i:Int) (Ns n.toNat i++List.replicate j 0)=some (Ns n.toNat w,0)
 |0,i,q+1,hi,_=>by
  rw[Aar,Aoz,if_neg (by rw[Ae,Ac];simp;omega)]
  obtain rfl:i=w:=by omega
  simp[Avs,Bgd]
 |j+1,i,q+1,hi,hq=>by
  have hlen:(Ns n.toNat i++List.replicate (j+1) 0).length=i+(j+1):=by simp[Bb]
  rw[Aar,Aoz,if_pos (by rw[Ae,Ac];simp;omega),Fb (by omega) (by omega),Ba (by rw[Cu];simp;omega),Aa,Bm (by rw[hlen];omega),Aa,Qj _ (by rw[hlen];omega),Aa,Ag (by omega) (by omega)]
  have e:(Af (Bi n (GI.toZ ((8:Int)*(i:Int))).toNat):UInt8)=UInt8.ofNat (n.toNat/256^i):=by
   have e:(GI.toZ ((8:Int)*(i:Int))).toNat=8*i:=by show((8:Int)*(i:Int)).toNat=_;omega
   rw[e,Alf,Adr,Nat.pow_mul]
  rw[e,List.replicate_succ,As6 (Bb _ _)]
  have h:=Bmq n l4 w hl hw j (i+1) q (by omega) (by omega)
  rw[Bqj]at h
  simpa using h
theorem Cgq(n:UInt64)(w:Nat)(h1:1≤w)(h2:w≤8)(h:n.toNat<256^w):Bgv n (w:Int)=some true:=by
 rw[Bgv]
 by_cases h8:w=8
 ·subst h8;rw[if_pos (by rw[As];rfl)]
 ·rw[if_neg (by rw[As];simp;omega),Fb (by omega) (by omega),Ba (by rw[Cu];simp;omega),Aa]
  have e:(GI.toZ ((8:Int)*(w:Int))).toNat=8*w:=by show((8:Int)*(w:Int)).toNat=_;omega
  rw[e,Bgs]
  have:Bi n (8*w)=0:=by
   apply UInt64.toNat_inj.1
   rw[Adr,Nat.pow_mul]
   exact Nat.div_eq_of_lt h
  rw[this];rfl
theorem Amr(n:UInt64)(w:Nat)(h1:1≤w)(h2:w≤8)(h:n.toNat<256^w):Ye n (w:Int)=some (Ns n.toNat w,0):=by
 rw[Ye,Av1,if_neg (by simp[Ae,Ak];omega),Cgq n w h1 h2 h,Aa,if_neg (by simp),Bcw (by omega) (by omega),Aa,Ba (by rw[As];simp),Aa,Axm]
 have h:=Bmq n (List.replicate (w:Int).toNat 0) w (by simp) h2 w 0 FUEL (by omega) (by have:=Al;omega)
 simpa [Ns]using h
end Go.Pl
set_option linter.unusedVariables false
set_option linter.unusedSimpArgs false
namespace Go.Pl
open Go Go.Lv
theorem Bf8(n:Nat)(h:n<4611686018427387904):Dc (n:Int) (7:Int)=((n %8:Nat):Int):=by
 have e:Dc (n:Int) (7:Int)=wrap64 ((BitVec.ofInt 64 (n:Int)&&&BitVec.ofInt 64 7).toNat:Int):=rfl
 rw[e,BitVec.toNat_and,BitVec.toNat_ofInt,BitVec.toNat_ofInt]
 have h1:((n:Int) %((2^64:Nat):Int)).toNat=n:=by omega
 have h2:((7:Int) %((2^64:Nat):Int)).toNat=2^3-1:=by decide
 rw[h1,h2,Nat.and_two_pow_sub_one_eq_mod,Br (by omega) (by omega)]
theorem Cmi(n:Nat):Bon (n:Int) (GI.toZ (3:UInt64)).toNat=((n/8:Nat):Int):=by
 have e:Bon (n:Int) (GI.toZ (3:UInt64)).toNat=(n:Int).fdiv 8:=rfl
 rw[e,Int.fdiv_eq_ediv_of_nonneg _ (by omega)];omega
theorem Clq{t:Nat}(h:t≤8):Aj (Cp (1:UInt8) t) (1:UInt8)=UInt8.ofNat (2^t-1):=by
 have:t=0∨t=1∨t=2∨t=3∨t=4∨t=5∨t=6∨t=7∨t=8:=by omega
 rcases this with rfl|rfl|rfl|rfl|rfl|rfl|rfl|rfl|rfl<;>decide
theorem bitsOf(c:UInt8)(off t:Nat)(h:t≤8):(Dc (Bi c off) (Aj (Cp (1:UInt8) t) (1:UInt8))).toNat=c.toNat/2^off %2^t:=by
 have hp:2^t≤2^8:=Nat.pow_le_pow_right (by omega) h
 rw[Clq h,Byn,UInt8.toNat_and,Bpv,UInt8.toNat_ofNat',Nat.mod_eq_of_lt (by have:=Nat.pow_pos (n:=t) (show 0<2 by omega);omega),Nat.and_two_pow_sub_one_eq_mod]
theorem Bjk{p:List UInt8}{k:Nat}(h:k<p.length):getI p (k:Int)=some (p.getD k 0):=by
 rw[Bm h];simp[List.getD_eq_getElem?_getD,h]
def Mz(p:List UInt8)(a n:Nat):UInt64:=UInt64.ofNat (Be p a n)
theorem Wa(p:List UInt8)(a n:Nat)(h:n≤64):(Mz p a n).toNat=Be p a n:=by
 have h1:=Mw p n a
 have h2:2^n≤2^64:=Nat.pow_le_pow_right (by omega) h
 rw[Mz,UInt64.toNat_ofNat',Nat.mod_eq_of_lt (by omega)]
theorem Btk(p:List UInt8)(N:Int)(a n:Nat)(hn:n≤64)(ha:a+n≤8*p.length)(hp:p.length≤1000000):∀(j h q:Nat),h+j=n→j<q→Ag3 (a:Int) (n:Int) p N q (Mz p a h) (h:Int)=some (Mz p a n)
 |j,h,q+1,hj,hq=>by
  rw[Ag3,Av6]
  by_cases hlt:h<n
  ·have e1:Ad (a:Int) (h:Int)=((a+h:Nat):Int):=by rw[Ag (by omega) (by omega)];omega
   have e2:Dj (Aj (n:Int) (h:Int)) (Aj (8:Int) (((a+h) %8:Nat):Int))=((min (n-h) (8-(a+h) %8):Nat):Int):=by
    rw[Acd,Az (by omega) (by omega),Az (by omega) (by omega)];omega
   have hm:(a+h)/8<p.length:=by omega
   rw[if_pos (by rw[Ae];simp;omega),e1,Cmi,Bjk hm,Aa,Bf8 _ (by omega),Ba (by rw[Cu];simp;omega),Aa,e2,Ba (by rw[Cu];simp),Aa,Ba (by rw[Cu];simp),Aa]
   generalize hT:min (n-h) (8-(a+h) %8)=T
   have hT8:T≤8:=by omega
   have hT1:1≤T:=by omega
   have hb:(a+h) %8+T≤8:=by omega
   have hv:=Aqr p (a+h) T hb
   have z1:(GI.toZ (((a+h) %8:Nat):Int)).toNat=(a+h) %8:=rfl
   have z2:(GI.toZ ((T:Nat):Int)).toNat=T:=rfl
   have z3:(GI.toZ ((h:Nat):Int)).toNat=h:=rfl
   rw[z1,z2,z3]
   have hx:(Af (Dc (Bi (p.getD ((a+h)/8) 0) ((a+h) %8)) (Aj (Cp (1:UInt8) T) (1:UInt8))):UInt64).toNat=Be p (a+h) T:=by
    rw[Az2,UInt64.toNat_ofNat',bitsOf _ _ _ hT8,←hv]
    have:=Mw p T (a+h)
    have h2:2^T≤2^8:=Nat.pow_le_pow_right (by omega) hT8
    omega
   have hlt2:=Mw p (h+T) a
   rw[Aht]at hlt2
   have h64:2^(h+T)≤2^64:=Nat.pow_le_pow_right (by omega) (by omega)
   have hor:gor (Mz p a h) (Cp (Af (Dc (Bi (p.getD ((a+h)/8) 0) ((a+h) %8)) (Aj (Cp (1:UInt8) T) (1:UInt8))):UInt64) h)=Mz p a (h+T):=by
    rw[Cbj (by rw[Wa p a h (by omega)];exact Mw p h a) (by rw[hx,Nat.mul_comm];omega),hx,Wa p a h (by omega),Mz,Aht,Nat.mul_comm (2^h)]
   rw[hor,Ag (by omega) (by omega),show(h:Int)+((T:Nat):Int)=((h+T:Nat):Int) by omega]
   exact Btk p N a n hn ha hp (j-T) (h+T) q (by omega) (by omega)
  ·rw[if_neg (by rw[Ae];simp;omega),show h=n by omega];rfl
theorem get_eq(p:List UInt8)(N:Int)(a n:Nat)(hn:n≤64)(ha:a+n≤8*p.length)(hp:p.length≤1000000):Bc6 p N (a:Int) (n:Int)=some (Mz p a n):=by
 have:=Btk p N a n hn ha hp n 0 FUEL (by omega) (by have:=Al;omega)
 exact this
theorem Wg{p:List UInt8}{n:Nat}(h:okB p n):Gy p (n:Int)=some 0:=by
 obtain⟨h1,h2,h3⟩:=h
 have e7:Ad (n:Int) 7=((n+7:Nat):Int):=by rw[Ag (by omega) (by omega)];omega
 rw[Gy,e7,Cmi,if_neg (by simp[Ae,Ak,Ah,Ac,h2];omega),Bf8 _ (by omega)]
 by_cases hz:n %8=0
 ·rw[if_neg (by rw[Ak];simp;omega)]
 ·have el:Aj (Ac p) 1=((p.length-1:Nat):Int):=by rw[Ac,Az (by omega) (by omega)];omega
  rw[if_pos (by rw[Ak];simp;omega),el,Bjk (by omega),Aa,Ba (by rw[Cu];simp;omega),Aa]
  have z:(GI.toZ ((n %8:Nat):Int)).toNat=n %8:=rfl
  have hs:Bi (p.getD (p.length-1) 0) (n %8)=0:=by
   apply UInt8.toNat_inj.1
   rw[Bpv]
   have hv:=Aqr p n (8-n %8) (by omega)
   have h0:Be p n (8-n %8)=0:=Bdr _ _ fun k hk=>h3 _ (by omega) (by omega)
   rw[h0,show n/8=p.length-1 by omega]at hv
   have hlt:(p.getD (p.length-1) 0).toNat/2^(n %8)<2^(8-n %8):=by
    have:=(p.getD (p.length-1) 0).toNat_lt
    rw[Nat.div_lt_iff_lt_mul (Nat.pow_pos (by omega)),←Nat.pow_add,show 8-n %8+n %8=8 by omega];simpa using this
   rw[Nat.mod_eq_of_lt hlt]at hv
   exact hv.symm
  rw[z,hs,if_neg (by rw[Beu];simp)]
theorem Be7{p:List UInt8}{N:Nat}(h:okB p N)(a n:Nat)(hn:n≤64):Adj p (N:Int) (a:Int) (n:Int)=some (if N<a+n then(0,24)else(Mz p a n,0)):=by
 obtain⟨h1,h2,h3⟩:=h
 rw[Adj,Wg ⟨h1,h2,h3⟩,Aa,if_neg (by rw[Ah];simp),if_neg (by simp[Ae,Ak];omega),Az (by omega) (by omega)]
 by_cases hl:N<a+n
 ·rw[if_pos (by rw[Ak];simp;omega),if_pos hl]
 ·rw[if_neg (by rw[Ak];simp;omega),get_eq p N a n hn (by omega) (by omega),Aa,if_neg hl]
end Go.Pl
set_option linter.unusedVariables false
set_option linter.unusedSimpArgs false
namespace Go.Pl
open Go Go.Lv
theorem Cmt(c:Nat)(h:c<4611686018427387904):Bt (c:Int) (2:Int)=((c/2:Nat):Int):=by
 rw[Afj,Int.tdiv_eq_ediv_of_nonneg (by omega),Br (by omega) (by omega)];omega
theorem Cld(c:Nat)(h:c<4611686018427387904):Bt (c:Int) (8:Int)=((c/8:Nat):Int):=by
 rw[Afj,Int.tdiv_eq_ediv_of_nonneg (by omega),Br (by omega) (by omega)];omega
theorem Cb7(c:Nat):Fc (c:Int) (8:Int)=((c %8:Nat):Int):=by rw[Fc,Int.tmod_eq_emod_of_nonneg (by omega)];omega
theorem Cm6(c:Nat):Fc (c:Int) (2:Int)=((c %2:Nat):Int):=by rw[Fc,Int.tmod_eq_emod_of_nonneg (by omega)];omega
theorem Bv5(i c:Nat)(hc:c<256):∀(j k q:Nat),k+j=i %8→j<q→Mk (i:Int) q ((c/2^k:Nat):Int) (k:Int)=some (((c/2^(i %8) %2:Nat):Int))
 |0,k,q+1,hk,_=>by
  rw[Mk,Zd,Cb7,if_neg (by rw[Ae];simp;omega),Alk,Al1,Cm6,show k=i %8 by omega]
 |j+1,k,q+1,hk,hq=>by
  have hle:c/2^k≤c:=Nat.div_le_self _ _
  rw[Mk,Zd,Cb7,if_pos (by rw[Ae];simp;omega),Cmt _ (by omega),Ag (by omega) (by omega),Nat.div_div_eq_div_mul,←Nat.pow_succ]
  exact Bv5 i c hc j (k+1) q (by omega) (by omega)
theorem Bd6(p:List UInt8)(N:Int)(i:Nat)(h:i/8<p.length)(hi:i<4611686018427387904):Kg p N (i:Int)=some ((Fh p i:Nat):Int):=by
 have hc:=(p.getD (i/8) 0).toNat_lt
 have:=Bv5 i (p.getD (i/8) 0).toNat (by simpa using hc) (i %8) 0 FUEL (by omega) (by have:=Al;omega)
 rw[Kg,Amw,Cld _ hi,Bjk h,Aa,Ako,Amh]
 simpa [Fh]using this
theorem Bii(p:List UInt8)(N:Int)(a n:Nat)(ha:a+n≤8*p.length)(hp:p.length≤1000000):∀(j q:Nat),j≤n→j<q→If (a:Int) p N q (Mz p (a+j) (n-j)) ((j:Int)-1)=some (Mz p a n)
 |0,q+1,_,_=>by
  rw[If,Ub,if_neg (by rw[Cu];simp)];rfl
 |j+1,q+1,hj,hq=>by
  have hb:=Yk p (a+j)
  rw[If,Ub,show((j+1:Nat):Int)-1=(j:Int) by omega,if_pos (by rw[Cu];simp),Ag (a:=(a:Int)) (by omega) (by omega),show(a:Int)+(j:Int)=((a+j:Nat):Int) by omega,Bd6 p N (a+j) (by omega) (by omega),Aa,Az (by omega) (by omega)]
  have e:Ad (Au (2:UInt64) (Mz p (a+(j+1)) (n-(j+1)))) (Af ((Fh p (a+j):Nat):Int):UInt64)=Mz p (a+j) (n-j):=by
   rw[Ahs,Ahz,Te,Mz,Mz,show n-j=(n-(j+1))+1 by omega,Be,show a+j+1=a+(j+1) by omega,UInt64.ofNat_add,UInt64.ofNat_mul]
   exact UInt64.add_comm _ _
  rw[e]
  exact Bii p N a n ha hp j q (by omega) (by omega)
theorem Az7(p:List UInt8)(N:Int)(a n:Nat)(ha:a+n≤8*p.length)(hp:p.length≤1000000):Ra p N (a:Int) (n:Int)=some (Mz p a n):=by
 have:=Bii p N a n ha hp n FUEL (Nat.le_refl _) (by have:=Al;omega)
 have hz:Mz p (a+n) (n-n)=0:=by rw[Nat.sub_self];rfl
 rw[hz]at this
 rw[Ra,Aed,Aer,Az (by omega) (by omega)]
 exact this
theorem Bxy(bit:Int)(N:Nat)(l:List UInt8):∀(j k q:Nat),k+j=N %8→j<q→Ky bit (N:Int) l q ((2^k:Nat):Int) (k:Int)=Xx bit ((2^(N %8):Nat):Int) (N:Int) l
 |0,k,q+1,hk,_=>by
  rw[Ky,Xq,Cb7,if_neg (by rw[Ae];simp;omega),show k=N %8 by omega]
 |j+1,k,q+1,hk,hq=>by
  have hp:2^k≤2^8:=Nat.pow_le_pow_right (by omega) (by omega)
  have e:Au ((2^k:Nat):Int) 2=((2^(k+1):Nat):Int):=by
   rw[Nat.pow_succ]
   generalize 2^k=K at*
   rw[Fb (by omega) (by omega)];omega
  rw[Ky,Xq,Cb7,if_pos (by rw[Ae];simp;omega),e,Ag (by omega) (by omega)]
  exact Bxy bit N l j (k+1) q (by omega) (by omega)
theorem Bhi(p:List UInt8)(a n j:Nat)(h:j<(n+7)/8):(Nt p a n)[j]'(by rw[Hg];exact h)=UInt8.ofNat (Be p (a+8*j) (min 8 (n-8*j))):=by simp[Nt]
theorem Bch(p:List UInt8)(a t:Nat)(h:t≤8):Be p a t<256:=by
 have h1:=Mw p t a
 have h2:2^t≤2^8:=Nat.pow_le_pow_right (by omega) h
 omega
def room(p:List UInt8)(a n:Nat):List UInt8:=if n %8=0 then Nt p a n++[0]else Nt p a n
theorem Mq(p:List UInt8)(a n:Nat):(room p a n).length=n/8+1:=by
 rw[room];split<;>simp[Hg]<;>omega
theorem Bsc(p:List UInt8)(a n j:Nat)(h:j<n/8+1):(room p a n)[j]'(by rw[Mq];exact h)=UInt8.ofNat (Be p (a+8*j) (min 8 (n-8*j))):=by
 have h0:(room p a n)[j]? =some (UInt8.ofNat (Be p (a+8*j) (min 8 (n-8*j)))):=by
  rw[room]
  split
  ·by_cases hj:j<(n+7)/8
   ·rw[List.getElem?_append_left (by rw[Hg];exact hj),List.getElem?_eq_getElem (by rw[Hg];exact hj),Bhi p a n j hj]
   ·rw[List.getElem?_append_right (by rw[Hg];omega),Hg,show j-(n+7)/8=0 by omega,show n-8*j=0 by omega];rfl
  ·rw[List.getElem?_eq_getElem (by rw[Hg];omega),Bhi p a n j (by omega)]
 rw[List.getElem?_eq_getElem (by rw[Mq];exact h)]at h0
 exact Option.some.inj h0
theorem Bbt(p:List UInt8)(a n T:Nat)(h1:1≤T)(h:n %8+T≤8):(room p a n).set (n/8) (UInt8.ofNat (Be p (a+8*(n/8)) (n %8+T)))=Nt p a (n+T):=by
 apply List.ext_getElem (by rw[List.length_set,Mq,Hg];omega)
 intro j g1 g2
 rw[List.length_set,Mq]at g1
 rw[List.getElem_set,Bhi p a (n+T) j (by rw[Hg]at g2;exact g2)]
 split
 ·rename_i e;subst e;rw[show min 8 (n+T-8*(n/8))=n %8+T by omega]
 ·rw[Bsc p a n j g1,show min 8 (n-8*j)=8 by omega,show min 8 (n+T-8*j)=8 by omega]
theorem Ax3(p:List UInt8)(a n:Nat):(room p a n)[n/8]'(by rw[Mq];omega)=UInt8.ofNat (Be p (a+8*(n/8)) (n %8)):=by
 rw[Bsc p a n _ (by omega),show min 8 (n-8*(n/8))=n %8 by omega]
theorem Cd9(p:List UInt8)(a n:Nat)(hn:n≤400000):Wk (Nt p a n) (n:Int) ((Fh p (a+n):Nat):Int)=some (Nt p a (n+1),((n+1:Nat):Int)):=by
 have hb:=Yk p (a+n)
 have hp:2^(n %8)≤2^7:=Nat.pow_le_pow_right (by omega) (by omega)
 have hroom:Wk (Nt p a n) (n:Int) ((Fh p (a+n):Nat):Int)=Xd ((Fh p (a+n):Nat):Int) (n:Int) (room p a n):=by
  rw[Wk,Ajs,Cb7,room]
  by_cases h0:n %8=0
  ·rw[if_pos (by rw[As,h0];rfl),Ce (by rw[Hg];simp;omega),Aa,if_pos h0]
  ·rw[if_neg (by rw[As];simp;omega),if_neg h0]
 have hl:=Bxy ((Fh p (a+n):Nat):Int) n (room p a n) (n %8) 0 FUEL (by omega) (by have:=Al;omega)
 rw[hroom,Xd,Aju,Ajq]
 refine Eq.trans hl ?_
 have hg:getI (room p a n) ((n/8:Nat):Int)=some (UInt8.ofNat (Be p (a+8*(n/8)) (n %8))):=by
  rw[Bm (by rw[Mq];omega),Ax3]
 have hlt:=Bch p (a+8*(n/8)) (n %8+1) (by omega)
 have hsn:=Ayt p (a+8*(n/8)) (n %8)
 rw[show a+8*(n/8)+n %8=a+n by omega]at hsn
 have hm:Au ((Fh p (a+n):Nat):Int) ((2^(n %8):Nat):Int)=((2^(n %8)*Fh p (a+n):Nat):Int):=by
  have hle:2^(n %8)*Fh p (a+n)≤2^7*1:=Nat.mul_le_mul hp (by omega)
  rw[Cbw,←Int.natCast_mul,Br (by omega) (by rw[Nat.mul_comm];omega),Nat.mul_comm]
 have hx:Ad (UInt8.ofNat (Be p (a+8*(n/8)) (n %8))) (Af (((2^(n %8)*Fh p (a+n):Nat):Int)):UInt8)=UInt8.ofNat (Be p (a+8*(n/8)) (n %8+1)):=by
  rw[Cf3,Cco,hsn,UInt8.ofNat_add]
 rw[Xx,Ajz,Cld _ (by omega),hg,Aa,Aa,Aa,hm,hx,Qj _ (by rw[Mq];omega),Aa,Bbt p a n 1 (by omega) (by omega),Ag (by omega) (by omega)];rfl
theorem Bc1(p:List UInt8)(N:Int)(a n:Nat)(ha:a+n≤8*p.length)(hp:p.length≤1000000)(hn:n≤300000):∀(j m q:Nat),m+j=n→j<q→Gk ((a+n:Nat):Int) p N q ((a+m:Nat):Int) (m:Int) (Nt p a m)=some (Nt p a n,(n:Int))
 |0,m,q+1,hm,_=>by
  rw[Gk,Qq,if_neg (by rw[Ae];simp;omega),show m=n by omega];rfl
 |j+1,m,q+1,hm,hq=>by
  rw[Gk,Qq,if_pos (by rw[Ae];simp;omega),Bd6 p N (a+m) (by omega) (by omega),Aa,Cd9 p a m (by omega),Aa]
  simp only
  rw[Ag (by omega) (by omega)]
  exact Bc1 p N a n ha hp hn j (m+1) q (by omega) (by omega)
theorem Bq1(p:List UInt8)(N:Int)(a n:Nat)(ha:a+n≤8*p.length)(hp:p.length≤1000000)(hn:n≤300000):Aho p N (a:Int) ((a+n:Nat):Int)=some (Nt p a n,(n:Int)):=by
 have:=Bc1 p N a n ha hp hn n 0 FUEL (by omega) (by have:=Al;omega)
 exact this
end Go.Pl
set_option linter.unusedVariables false
set_option linter.unusedSimpArgs false
namespace Go.Pl
open Go Go.Lv
theorem Ckl{t:Nat}(h:t≤8):Aj (Cp (1:UInt64) t) (1:UInt64)=UInt64.ofNat (2^t-1):=by
 have:t=0∨t=1∨t=2∨t=3∨t=4∨t=5∨t=6∨t=7∨t=8:=by omega
 rcases this with rfl|rfl|rfl|rfl|rfl|rfl|rfl|rfl|rfl<;>decide
theorem Cmm(v:UInt64){t:Nat}(h:t≤8):(Dc v (Aj (Cp (1:UInt64) t) (1:UInt64))).toNat=v.toNat %2^t:=by
 have hp:2^t≤2^8:=Nat.pow_le_pow_right (by omega) h
 rw[Ckl h,Bhf,UInt64.toNat_and,UInt64.toNat_ofNat',Nat.mod_eq_of_lt (by have:=Nat.pow_pos (n:=t) (show 0<2 by omega);omega),Nat.and_two_pow_sub_one_eq_mod]
theorem or8{v w i:Nat}(hv:v<2^i)(hw:w*2^i<256)(hi:i<8):gor (UInt8.ofNat v) (Cp (UInt8.ofNat w) i)=UInt8.ofNat (v+w*2^i):=by
 have hp:2^i≤2^8:=Nat.pow_le_pow_right (by omega) (by omega)
 have hpos:0<2^i:=Nat.pow_pos (by omega)
 have hw2:w<256:=Nat.lt_of_le_of_lt (Nat.le_mul_of_pos_right w hpos) hw
 rw[Cjf];apply UInt8.toNat_inj.1
 have e1:(UInt8.ofNat v).toNat=v:=by rw[UInt8.toNat_ofNat',Nat.mod_eq_of_lt (by omega)]
 have e2:(UInt8.ofNat w).toNat=w:=by rw[UInt8.toNat_ofNat',Nat.mod_eq_of_lt (by omega)]
 rw[UInt8.toNat_or,Bxu,e1,e2,Nat.mod_eq_of_lt hw,Nat.mul_comm w,Nat.or_comm,←Nat.two_pow_add_eq_or_of_lt hv,UInt8.toNat_ofNat',Nat.add_comm v]
 rw[Nat.mul_comm]at hw
 have hb:2^i*w+v<256:=by
  rw[Nat.two_pow_add_eq_or_of_lt hv]
  exact Nat.or_lt_two_pow (n:=8) hw (by omega)
 rw[Nat.mod_eq_of_lt hb]
theorem Bsi(p:List UInt8)(a n T:Nat)(h:T≤n)(hn:n≤64):Bi (Mz p a n) T=Mz p (a+T) (n-T):=by
 apply UInt64.toNat_inj.1
 rw[Adr,Wa p a n hn,Wa p (a+T) (n-T) (by omega)]
 have:=Mw p T a
 conv=>lhs;rw[show n=T+(n-T) by omega,Aht,Nat.add_mul_div_left _ _ (Nat.pow_pos (by omega)),Nat.div_eq_of_lt this,Nat.zero_add]
theorem Bqw(p:List UInt8)(a n T:Nat)(h:T≤n)(hn:n≤64):(Mz p a n).toNat %2^T=Be p a T:=by
 have:=Mw p T a
 rw[Wa p a n hn]
 conv=>lhs;rw[show n=T+(n-T) by omega,Aht,Nat.add_mul_mod_self_left,Nat.mod_eq_of_lt this]
theorem Bj0(bk:Int→Int→List UInt8→Option (List UInt8×Int×Int))(to':Int)(p:List UInt8)(N fr:Int)(r6:UInt64)(a:Nat):∀(j m q:Nat),m+j≤300000→j≤64→j<q→
  Of bk to' p N fr r6 q (Mz p (a+m) j) (j:Int) (m:Int) (Nt p a m)=Aka bk to' p N fr ((m+j:Nat):Int) (Nt p a (m+j))
 |0,m,q+1,_,_,_=>by
  rw[Of,Ake,if_neg (by rw[Ak];simp)];rfl
 |j+1,m,q+1,hm,hj,hq=>by
  have hroom:Of bk to' p N fr r6 (q+1) (Mz p (a+m) (j+1)) ((j+1:Nat):Int) (m:Int) (Nt p a m)=Aj9 (Of bk to' p N fr r6 q) to' fr p N r6 (Mz p (a+m) (j+1)) ((j+1:Nat):Int) (m:Int) (room p a m):=by
   rw[Of,Ake,if_pos (by rw[Ak];simp),Bf8 m (by omega),room]
   by_cases h0:m %8=0
   ·rw[if_pos (by rw[As,h0];rfl),Ce (by rw[Hg];simp;omega),Aa,if_pos h0]
   ·rw[if_neg (by rw[As];simp;omega),if_neg h0]
  have hl:Aj (Ac (room p a m)) 1=((m/8:Nat):Int):=by
   rw[Ac,Mq,Az (by omega) (by omega)];omega
  have e2:Dj ((j+1:Nat):Int) (Aj (8:Int) ((m %8:Nat):Int))=((min (j+1) (8-m %8):Nat):Int):=by
   rw[Acd,Az (by omega) (by omega)];omega
  rw[hroom,Aj9,Atp,Bf8 m (by omega),e2,hl]
  generalize hT:min (j+1) (8-m %8)=T
  have hT1:1≤T:=by omega
  have hT8:m %8+T≤8:=by omega
  have hg:getI (room p a m) ((m/8:Nat):Int)=some (UInt8.ofNat (Be p (a+8*(m/8)) (m %8))):=by
   rw[Bm (by rw[Mq];omega),Ax3]
  have z1:(GI.toZ ((m %8:Nat):Int)).toNat=m %8:=rfl
  have z2:(GI.toZ ((T:Nat):Int)).toNat=T:=rfl
  have hlt:=Bch p (a+8*(m/8)) (m %8+T) (by omega)
  have hadd:=Aht p (m %8) T (a+8*(m/8))
  rw[show a+8*(m/8)+m %8=a+m by omega]at hadd
  have hbyte:(Af (Dc (Mz p (a+m) (j+1)) (Aj (Cp (1:UInt64) T) (1:UInt64))):UInt8)=UInt8.ofNat (Be p (a+m) T):=by
   rw[Alf,Cmm _ (by omega),Bqw p (a+m) (j+1) T (by omega) hj]
  have hnew:gor (UInt8.ofNat (Be p (a+8*(m/8)) (m %8))) (Cp (UInt8.ofNat (Be p (a+m) T)) (m %8))=UInt8.ofNat (Be p (a+8*(m/8)) (m %8+T)):=by
   rw[or8 (Mw _ _ _) (by rw[Nat.mul_comm];omega) (by omega),hadd,Nat.mul_comm (2^(m %8))]
  rw[hg,z1,z2,hbyte]
  simp only[Aa]
  rw[Ba (by rw[Cu];simp),Aa,Ba (by rw[Cu];simp;omega),Aa,hnew,Qj _ (by rw[Mq];omega),Aa,Bbt p a m T hT1 hT8,As0,Bb3,Bf8 m (by omega),e2,hT,Ba (by rw[Cu];simp),Aa,z2,Bsi p (a+m) (j+1) T (by omega) hj,Az (by omega) (by omega),Ag (by omega) (by omega)]
  have ih:=Bj0 bk to' p N fr r6 a (j+1-T) (m+T) q (by omega) (by omega) (by omega)
  rw[show m+T+(j+1-T)=m+(j+1) by omega]at ih
  rw[←ih,show a+m+T=a+(m+T) by omega,show((j+1:Nat):Int)-((T:Nat):Int)=((j+1-T:Nat):Int) by omega,show(m:Int)+((T:Nat):Int)=((m+T:Nat):Int) by omega]
theorem Bsg(p:List UInt8)(N:Int)(a n:Nat)(ha:a+n≤8*p.length)(hp:p.length≤1000000)(hn:n≤300000):∀(j m f q:Nat),(f=m∨n≤f∧m=n)→m+j=n→f≤n+64→j<q→Wm ((a+n:Nat):Int) p N q ((a+f:Nat):Int) (m:Int) (Nt p a m)=some (Nt p a n,(n:Int),0)
 |j,m,f,q+1,hf,hm,hf2,hq=>by
  rw[Wm,Att]
  by_cases hlt:f<n
  ·obtain rfl:f=m:=by omega
   have e1:Dj (64:Int) (Aj ((a+n:Nat):Int) ((a+f:Nat):Int))=((min 64 (n-f):Nat):Int):=by
    rw[Acd,Az (by omega) (by omega)];omega
   rw[if_pos (by rw[Ae];simp;omega),e1,get_eq p N (a+f) _ (by omega) (by omega) hp,Aa,As1]
   have h1:=Bj0 (Wm ((a+n:Nat):Int) p N q) ((a+n:Nat):Int) p N ((a+f:Nat):Int) (Mz p (a+f) (min 64 (n-f))) a (min 64 (n-f)) f FUEL (by omega) (by omega) (by have:=Al;omega)
   refine Eq.trans h1 ?_
   rw[Aka,Bbs,Ag (by omega) (by omega),show((a+f:Nat):Int)+64=((a+(f+64):Nat):Int) by omega]
   exact Bsg p N a n ha hp hn (j-min 64 (n-f)) (f+min 64 (n-f)) (f+64) q (by omega) (by omega) (by omega) (by omega)
  ·rw[if_neg (by rw[Ae];simp;omega),As9,Bca,show m=n by omega]
theorem Cj2{p:List UInt8}{N:Nat}(h:okB p N)(a n:Nat)(ha:a+n≤N)(hn:n≤300000):Aw7 p (N:Int) (a:Int) ((a+n:Nat):Int)=some (Nt p a n,(n:Int),0):=by
 obtain⟨h1,h2,h3⟩:=h
 have:=Bsg p N a n (by omega) (by omega) hn n 0 0 FUEL (by omega) (by omega) (by omega) (by have:=Al;omega)
 rw[Aw7,Awf,Wg ⟨h1,h2,h3⟩,Aa,if_neg (by rw[Ah];simp),if_neg (by simp[Ae,Ak];omega),Ar4]
 exact this
end Go.Pl
set_option linter.unusedVariables false
set_option linter.unusedSimpArgs false
namespace Go.Pl
open Go Go.Lv
def Ep(p:List UInt8):Nat→Nat→Nat
 |_,0=>0
 |a,m+1=>if Fh p a=1 then 1+Ep p (a+1) m else 0
theorem An4(p:List UInt8):∀(m a:Nat),Ep p a m≤m
 |0,_=>Nat.le_refl _
 |m+1,a=>by rw[Ep];split<;>have:=An4 p m (a+1)<;>omega
theorem Bqa(p:List UInt8):∀(m a:Nat),∃s,Be p a m+1=2^(Ep p a m+1)*s+2^Ep p a m∧(Ep p a m=m→s=0)
 |0,a=>⟨0,by simp[Be,Ep],fun _=>rfl⟩
 |m+1,a=>by
  have hb:=Yk p a
  obtain⟨s,h1,h2⟩:=Bqa p m (a+1)
  by_cases h:Fh p a=1
  ·refine⟨s,?_,fun e=>h2 ?_⟩
   ·rw[Ep,if_pos h,Be,h,show 1+Ep p (a+1) m+1=(Ep p (a+1) m+1)+1 by omega,show 1+Ep p (a+1) m=Ep p (a+1) m+1 by omega,Nat.pow_succ,Nat.pow_succ (n:=2) (m:=Ep p (a+1) m)]
    rw[Nat.pow_succ]at h1
    generalize Be p (a+1) m=V at*
    generalize 2^Ep p (a+1) m=W at*
    have e1:W*2*2*s=2*(W*2*s):=by rw[Nat.mul_right_comm (W*2) 2 s,Nat.mul_comm]
    omega
   ·rw[Ep,if_pos h]at e;omega
  ·refine⟨Be p (a+1) m,?_,fun e=>?_⟩
   ·rw[Ep,if_neg h,Be];simp;omega
   ·rw[Ep,if_neg h]at e;omega
theorem Cgl{n t s:Nat}(h:2^(t+1)*s+2^t≤2^n)(ht:t<n)(x:Nat)(hx:x=2^n-(2^(t+1)*s+2^t)):x&&& (2^(t+1)*s+2^t)=2^t:=by
 have hpos:0<2^t:=Nat.pow_pos (by omega)
 have hlt:2^t<2^(t+1):=by rw[Nat.pow_succ];omega
 have e:x=2^n-((2^(t+1)*s+(2^t-1))+1):=by rw[hx];congr 1;omega
 apply Nat.eq_of_testBit_eq
 intro i
 rw[Nat.testBit_and,e,Nat.testBit_two_pow_sub_succ (by omega),Nat.testBit_two_pow_mul_add _ (by omega),Nat.testBit_two_pow_mul_add _ hlt]
 by_cases hi:i<t+1
 ·rw[if_pos hi,if_pos hi,Nat.testBit_two_pow_sub_one,Nat.testBit_two_pow]
  by_cases hit:t=i
  ·subst hit;simp;exact ht
  ·have:¬i=t:=fun e=>hit e.symm
   simp[hit]
 ·rw[if_neg hi,if_neg hi,Nat.testBit_two_pow]
  have:¬t=i:=by omega
  simp[this]
theorem Cfh(a:UInt64):(Bku a).toNat=18446744073709551615-a.toNat:=by
 have h:=a.toNat_lt
 have e:Bku a=UInt64.ofNat (BitVec.ofInt 64 18446744073709551615^^^BitVec.ofInt 64 (a.toNat:Int)).toNat:=Gp _
 have h1:BitVec.ofInt 64 (a.toNat:Int)=a.toBitVec:=Bos a
 have h2:(BitVec.ofInt 64 18446744073709551615:BitVec 64)=BitVec.allOnes 64:=by decide
 rw[e,UInt64.toNat_ofNat',h1,h2,BitVec.allOnes_xor,BitVec.toNat_not]
 show(18446744073709551616-1-a.toNat) %18446744073709551616=18446744073709551615-a.toNat
 omega
theorem Cdj(a:UInt64):(Bce a).toNat=(18446744073709551616-a.toNat) %18446744073709551616:=by
 have h:=a.toNat_lt
 have e:Bce a=UInt64.ofNat ((0-(a.toNat:Int)) %18446744073709551616).toNat:=Boi _
 rw[e,UInt64.toNat_ofNat']
 show((0-(a.toNat:Int)) %18446744073709551616).toNat %18446744073709551616=_
 omega
def Clo:List UInt8:=[0,1,56,2,57,49,28,3,61,58,42,50,38,29,17,4,62,47,59,36,45,43,51,22,53,39,33,30,24,18,12,5,63,55,48,27,60,41,37,16,46,35,44,21,52,32,23,11,54,26,40,15,34,20,31,10,25,14,19,9,13,8,7,6]
theorem Ca2:∀t:Fin 64,getI Clo (GI.toZ (Bi (Au (UInt64.ofNat (2^t.val)) (285870213051353865:UInt64)) (GI.toZ (58:UInt64)).toNat))=some (UInt8.ofNat t.val):=by decide +kernel
theorem Cmk(x:UInt64)(t s:Nat)(ht:t<64)(h:x.toNat+(2^(t+1)*s+2^t)=18446744073709551616):Fm x=some (t:Int):=by
 have hpos:0<2^t:=Nat.pow_pos (by omega)
 have hx:x.toNat=2^64-(2^(t+1)*s+2^t):=by show x.toNat=18446744073709551616-_;omega
 have hle:2^t≤2^63:=Nat.pow_le_pow_right (by omega) (by omega)
 have hne:x≠0:=by
  intro e
  rw[e]at h
  have h':2^t*(2*s+1)=2^64:=by
   rw[Nat.mul_add,Nat.mul_one,←Nat.mul_assoc,←Nat.pow_succ]
   show _=18446744073709551616
   simpa using h
  have h2:2^64=2^t*2^(64-t):=by rw[←Nat.pow_add];congr 1;omega
  rw[h2]at h'
  have h3:=Nat.eq_of_mul_eq_mul_left hpos h'
  rw[show 64-t=(63-t)+1 by omega,Nat.pow_succ]at h3
  omega
 have hx0:x.toNat≠0:=fun e=>hne (UInt64.toNat_inj.1 e)
 have hl:Dc x (Bce x)=UInt64.ofNat (2^t):=by
  apply UInt64.toNat_inj.1
  rw[Bhf,UInt64.toNat_and,Cdj,show(18446744073709551616-x.toNat) %18446744073709551616=2^(t+1)*s+2^t by omega,Cgl (n:=64) (by show _≤18446744073709551616;omega) ht _ hx,UInt64.toNat_ofNat',Nat.mod_eq_of_lt]
  exact Nat.lt_of_le_of_lt hle (by decide)
 have hb:=Ca2 ⟨t,ht⟩
 rw[Fm,if_neg (by rw[Bgs];simpa using hne),hl]
 refine Eq.trans (congrArg (fun o=>Option.bind o fun c=>some (Af c:Int)) hb) ?_
 rw[Aa,Ako,UInt8.toNat_ofNat',Nat.mod_eq_of_lt (by show t<256;omega)]
theorem Cid(p:List UInt8)(a m:Nat)(hm:m≤48):Fm (Bku (Mz p a m))=some ((Ep p a m:Nat):Int):=by
 obtain⟨s,h1,h2⟩:=Bqa p m a
 have hle:=An4 p m a
 have hlt:=Mw p m a
 have h48:2^m≤2^48:=Nat.pow_le_pow_right (by omega) hm
 have hn:(Bku (Mz p a m)).toNat=18446744073709551615-Be p a m:=by rw[Cfh,Wa p a m (by omega)]
 have h3:(281474976710656:Nat)=2^48:=rfl
 refine Cmk _ (Ep p a m) s (by omega) ?_
 rw[hn];omega
def unS(p:List UInt8)(N a:Nat):Int×Int×Int:=
 if Ep p a (min 48 (N-a))<min 48 (N-a)then((Ep p a (min 48 (N-a)):Nat),((a+Ep p a (min 48 (N-a))+1:Nat):Int),0)else
 if Ep p a (min 48 (N-a))=48 then(48,((a+48:Nat):Int),0)else(0,0,24)
theorem Cda{p:List UInt8}{N:Nat}(h:okB p N)(a:Nat)(ha:a<N):Afg p (N:Int) (a:Int)=some (unS p N a):=by
 have hN:=h.1
 have e1:Dj (48:Int) (Aj (N:Int) (a:Int))=((min 48 (N-a):Nat):Int):=by rw[Acd,Az (by omega) (by omega)];omega
 have hle:=An4 p (min 48 (N-a)) a
 rw[Afg,Yg,Wg h,Aa,if_neg (by rw[Ah];simp),if_neg (by rw[Ae];simp),if_neg (by rw[Cu];simp;omega),e1,Be7 h a _ (by omega),if_neg (by omega),Aa]
 simp only
 rw[Ap8,Apz,if_neg (by rw[Ah];simp),Cid p a _ (by omega),Aa,Apq,Apg,e1,unS]
 by_cases h1:Ep p a (min 48 (N-a))<min 48 (N-a)
 ·rw[if_pos (by rw[Ae];simp;omega),if_pos h1,Ag (a:=(a:Int)) (by omega) (by omega),show Ad (0:Int) 1=1 by decide,Ag (by omega) (by omega)]
  congr 3;omega
 ·rw[if_neg (by rw[Ae];simp;omega),if_neg h1,Ap9,Aqe]
  by_cases h2:Ep p a (min 48 (N-a))=48
  ·rw[if_pos (by rw[As,h2];rfl),if_pos h2,h2,Ag (a:=(a:Int)) (by omega) (by omega),Ag (by omega) (by omega)]
   congr 3;omega
  ·rw[if_neg (by rw[As];simp;omega),if_neg h2];rfl
theorem Bmj(p:List UInt8):∀(m a:Nat),Ep p a m<m→Fh p (a+Ep p a m)≠1
 |0,_,h=>by simp[Ep]at h
 |m+1,a,h=>by
  by_cases hb:Fh p a=1
  ·rw[Ep,if_pos hb]at h⊢
   have:=Bmj p m (a+1) (by omega)
   rwa [show a+(1+Ep p (a+1) m)=a+1+Ep p (a+1) m by omega]
  ·rw[Ep,if_neg hb];exact hb
theorem Bme(p:List UInt8):∀(m a k:Nat),k<Ep p a m→Fh p (a+k)=1
 |0,a,k,h=>by simp[Ep]at h
 |m+1,a,k,h=>by
  by_cases hb:Fh p a=1
  ·rw[Ep,if_pos hb]at h
   cases k with
   |zero=>exact hb
   |succ k=>
    have:=Bme p m (a+1) k (by omega)
    rwa [show a+(k+1)=a+1+k by omega]
  ·rw[Ep,if_neg hb]at h;omega
def unR(p:List UInt8)(N a:Nat):Int×Int:=if(unS p N a).2.2=0 then((unS p N a).1,(unS p N a).2.1)else(-1,0)
theorem Bk1{p:List UInt8}{N:Nat}(h:okB p N)(a:Nat)(ha:a<N):∀(j k q:Nat),k+j=Ep p a (min 48 (N-a))→j<q→Kx (a:Int) p (N:Int) q (k:Int)=some (unR p N a)
 |0,k,q+1,hk,_=>by
  obtain⟨hN,hl,hz⟩:=h
  have hle:=An4 p (min 48 (N-a)) a
  have hk':k=Ep p a (min 48 (N-a)):=by omega
  have e1:Ad (a:Int) (k:Int)=((a+k:Nat):Int):=by rw[Ag (by omega) (by omega)];omega
  have hend:Wy (a:Int) (k:Int) p (N:Int)=some (unR p N a):=by
   rw[Wy,Ajp,e1]
   by_cases h48:k=48
   ·have hu:unS p N a=(48,((a+48:Nat):Int),0):=by rw[unS,←hk',if_neg (by omega),if_pos h48]
    rw[if_pos (by rw[As,h48];rfl),unR,hu,h48];rfl
   ·rw[if_neg (by rw[As];simp;omega)]
    by_cases hN2:N≤a+k
    ·have hu:unS p N a=(0,0,24):=by rw[unS,←hk',if_neg (by omega),if_neg h48]
     rw[if_pos (by rw[Cu];simp;omega),unR,hu];rfl
    ·have hu:unS p N a=(((k:Nat):Int),((a+k+1:Nat):Int),0):=by rw[unS,←hk',if_pos (by omega)]
     rw[if_neg (by rw[Cu];simp;omega),unR,hu,Ag (by omega) (by omega)];rfl
  rw[Kx,Xe,e1]
  by_cases hc:a+k<N∧k<48
  ·have hb:=Yk p (a+k)
   have hs:=Bmj p (min 48 (N-a)) a (by omega)
   rw[←hk']at hs
   rw[if_pos (by simp[Ae];omega),Bd6 p _ (a+k) (by omega) (by omega),Aa,if_neg (by rw[As];simp;omega),hend]
  ·rw[if_neg (by simp[Ae];omega),hend]
 |j+1,k,q+1,hk,hq=>by
  obtain⟨hN,hl,hz⟩:=h
  have hle:=An4 p (min 48 (N-a)) a
  have hb:=Bme p (min 48 (N-a)) a k (by omega)
  have e1:Ad (a:Int) (k:Int)=((a+k:Nat):Int):=by rw[Ag (by omega) (by omega)];omega
  rw[Kx,Xe,e1,if_pos (by simp[Ae];omega),Bd6 p _ (a+k) (by omega) (by omega),Aa,hb,if_pos (by decide),Ag (by omega) (by omega)]
  exact Bk1 ⟨hN,hl,hz⟩ a ha j (k+1) q (by omega) (by omega)
theorem Cby{p:List UInt8}{N:Nat}(h:okB p N)(a:Nat)(ha:a<N):Aqz p (N:Int) (a:Int)=some (unR p N a):=by
 have hle:=An4 p (min 48 (N-a)) a
 have:=Bk1 h a ha (Ep p a (min 48 (N-a))) 0 FUEL (by omega) (by have:=Al;omega)
 exact this
end Go.Pl
set_option linter.unusedVariables false
set_option linter.unusedSimpArgs false
namespace Go.Pl
open Go Go.Lv
theorem Cfg{p:List UInt8}{N a:Nat}(h:Ep p a (min 48 (N-a))<min 48 (N-a)):unS p N a=(((Ep p a (min 48 (N-a)):Nat):Int),((a+Ep p a (min 48 (N-a))+1:Nat):Int),0):=by rw[unS,if_pos h]
theorem Cdk{p:List UInt8}{N a:Nat}(h:¬Ep p a (min 48 (N-a))<min 48 (N-a))(h2:Ep p a (min 48 (N-a))=48):unS p N a=(48,((a+48:Nat):Int),0):=by rw[unS,if_neg h,if_pos h2]
theorem Ceh{p:List UInt8}{N a:Nat}(h:¬Ep p a (min 48 (N-a))<min 48 (N-a))(h2:¬Ep p a (min 48 (N-a))=48):unS p N a=(0,0,24):=by rw[unS,if_neg h,if_neg h2]
theorem Bzt{p:List UInt8}{N:Nat}(h:okB p N)(a:Nat)(ha:N≤a):Afg p (N:Int) (a:Int)=some (0,0,24):=by
 rw[Afg,Yg,Wg h,Aa,if_neg (by rw[Ah];simp),if_neg (by rw[Ae];simp),if_pos (by rw[Cu];simp;omega)]
def rcS(p:List UInt8)(N a k:Nat):UInt32×Int×Int:=
 if N≤a then(0,0,24)else
 if Ep p a (min 48 (N-a))<min 48 (N-a)then
  (if N<a+Ep p a (min 48 (N-a))+1+k then(0,0,24)else(UInt32.ofNat (Ep p a (min 48 (N-a))*2^k+Be p (a+Ep p a (min 48 (N-a))+1) k),((a+Ep p a (min 48 (N-a))+1+k:Nat):Int),0))
 else if Ep p a (min 48 (N-a))=48 then
  (if N<a+48+32 then(0,0,24)else if Be p (a+48) 32/2^k<48 then(0,0,12)else(UInt32.ofNat (Be p (a+48) 32),((a+48+32:Nat):Int),0))
 else(0,0,24)
theorem Bbj{p:List UInt8}{a n:Nat}(h:n≤32):(Af (Mz p a n):UInt32)=UInt32.ofNat (Be p a n):=by
 have e:(Af (Mz p a n):UInt32)=UInt32.ofNat (Mz p a n).toNat:=by simp only[Af,Hw,Ea]
 rw[e,Wa p a n (by omega)]
theorem Ao0{n:Nat}(h:n<4294967296):(UInt32.ofNat n).toNat=n:=by rw[UInt32.toNat_ofNat'];exact Nat.mod_eq_of_lt h
theorem Bs6(p:List UInt8)(a:Nat){n:Nat}(h:n≤32):Be p a n<4294967296:=by
 have h1:=Mw p n a
 have h2:2^n≤2^32:=Nat.pow_le_pow_right (by omega) h
 omega
theorem Ck2{q v k:Nat}(hq:q<48)(hv:v<2^k)(hk:k≤24):gor (Cp (Af (q:Int):UInt32) k) (UInt32.ofNat v)=UInt32.ofNat (q*2^k+v):=by
 have hp:2^k≤2^24:=Nat.pow_le_pow_right (by omega) hk
 have h1:q*2^k≤47*2^24:=Nat.mul_le_mul (by omega) hp
 rw[Chc];apply UInt32.toNat_inj.1
 rw[UInt32.toNat_or,Av0,Blw,Ao0 (by omega),Ao0 (n:=v) (by omega),Nat.mod_eq_of_lt (by omega),Nat.mul_comm q,←Nat.two_pow_add_eq_or_of_lt hv,Ao0 (by rw[Nat.mul_comm];omega)]
theorem Chd{p:List UInt8}{N:Nat}(h:okB p N)(a k:Nat)(hk:k≤24):Ax5 p (N:Int) (a:Int) (k:Int)=some (rcS p N a k):=by
 have hN:=h.1
 rw[Ax5,Atr,Wg h,Aa,if_neg (by rw[Ah];simp),if_neg (by simp[Ae,Ak];omega)]
 by_cases ha:N≤a
 ·rw[Bzt h a ha,Aa,rcS,if_pos ha];rfl
 have hle:=An4 p (min 48 (N-a)) a
 rw[Cda h a (by omega),Aa]
 by_cases h1:Ep p a (min 48 (N-a))<min 48 (N-a)
 ·have hS:rcS p N a k=if N<a+Ep p a (min 48 (N-a))+1+k then(0,0,24)else(UInt32.ofNat (Ep p a (min 48 (N-a))*2^k+Be p (a+Ep p a (min 48 (N-a))+1) k),((a+Ep p a (min 48 (N-a))+1+k:Nat):Int),0):=by rw[rcS,if_neg ha,if_pos h1]
  rw[Cfg h1,hS]
  generalize Ep p a (min 48 (N-a))=q at*
  simp only
  rw[if_neg (by rw[Ah];simp),if_neg (by rw[As];simp;omega),Akk,Atw,Be7 h _ k (by omega),Aa]
  by_cases h2:N<a+q+1+k
  ·rw[if_pos h2,if_pos h2];rfl
  ·rw[if_neg h2,if_neg h2]
   simp only
   have z:(GI.toZ (k:Int)).toNat=k:=rfl
   rw[if_neg (by rw[Ah];simp),if_pos (by rw[Ae];simp;omega),Ba (by rw[Cu];simp),Aa,z,Bbj (by omega),Ck2 (by omega) (Mw _ _ _) hk,Ag (by omega) (by omega)];rfl
 ·by_cases h2:Ep p a (min 48 (N-a))=48
  ·have hS:rcS p N a k=if N<a+48+32 then(0,0,24)else if Be p (a+48) 32/2^k<48 then(0,0,12)else(UInt32.ofNat (Be p (a+48) 32),((a+48+32:Nat):Int),0):=by rw[rcS,if_neg ha,if_neg h1,if_pos h2]
   have hg:=Be7 h (a+48) 32 (by omega)
   rw[Cdk h1 h2,hS]
   simp only
   rw[if_neg (by rw[Ah];simp),if_pos (by rw[As];rfl),Akk,Atw]
   refine Eq.trans (congrArg (fun o=>Option.bind o _) hg) ?_
   rw[Aa]
   by_cases h3:N<a+48+32
   ·rw[if_pos h3,if_pos h3];rfl
   ·rw[if_neg h3,if_neg h3]
    simp only
    have z:(GI.toZ (k:Int)).toNat=k:=rfl
    have hv:=Bs6 p (a+48) (n:=32) (by omega)
    rw[if_neg (by rw[Ah];simp),if_neg (by rw[Ae];simp),Wj,Ba (by rw[Cu];simp),Aa,Aa,z,Bbj (by omega),Bxv]
    have e:(decide ((48:UInt32).toNat≤(Bi (UInt32.ofNat (Be p (a+48) 32)) k).toNat))=decide (¬Be p (a+48) 32/2^k<48):=by
     rw[Acz,Ao0 hv];simp
    rw[e]
    by_cases h4:Be p (a+48) 32/2^k<48
    ·rw[if_pos (by simp[h4]),if_pos h4]
    ·rw[if_neg (by simp;omega),if_neg h4,Ag (by omega) (by omega)];rfl
  ·rw[Ceh h1 h2,rcS,if_neg ha,if_neg h1,if_neg h2];rfl
theorem Bjx(k:Nat)(hk:k≤63):∀(j i q:Nat),i+j=k→j<q→Ig (k:Int) q (UInt64.ofNat (2^i)) (i:Int)=some (UInt64.ofNat (2^k))
 |0,i,q+1,hi,_=>by
  rw[Ig,Tw,if_neg (by rw[Ae];simp;omega),show i=k by omega];rfl
 |j+1,i,q+1,hi,hq=>by
  have e:Au (UInt64.ofNat (2^i)) (2:UInt64)=UInt64.ofNat (2^(i+1)):=by
   rw[Ahz,Nat.pow_succ,UInt64.ofNat_mul];rfl
  rw[Ig,Tw,if_pos (by rw[Ae];simp;omega),Ag (by omega) (by omega),e]
  exact Bjx k hk j (i+1) q (by omega) (by omega)
theorem Ag4(k:Nat)(hk:k≤63):Et (k:Int)=some (UInt64.ofNat (2^k)):=
 Bjx k hk k 0 FUEL (by omega) (by have:=Al;omega)
theorem Aoi{k:Nat}(hk:k≤63):(UInt64.ofNat (2^k)).toNat=2^k:=by
 have hp:2^k≤2^63:=Nat.pow_le_pow_right (by omega) hk
 rw[UInt64.toNat_ofNat',Nat.mod_eq_of_lt (by omega)]
theorem Cim(v:UInt32)(k:Nat)(hk:k≤24):Ad9 v (k:Int)=some ((min 48 (v.toNat/2^k):Nat):Int):=by
 have hpos:0<2^k:=Nat.pow_pos (by omega)
 have hv:=v.toNat_lt
 rw[Ad9,Ag4 k (by omega),Aa,Ba (by rw[Aj4];simp only[bne_iff_ne,ne_eq,←UInt64.toNat_inj,Aoi (show k≤63 by omega)];simp),Aa]
 have e:(Bt (Af v:UInt64) (UInt64.ofNat (2^k))).toNat=v.toNat/2^k:=by
  rw[Bbq,UInt64.toNat_div,Ci,Aoi (by omega),UInt64.toNat_ofNat',Nat.mod_eq_of_lt (by omega)]
 have hle:v.toNat/2^k≤v.toNat:=Nat.div_le_self _ _
 have e2:Dj (48:UInt64) (Bt (Af v:UInt64) (UInt64.ofNat (2^k)))=UInt64.ofNat (min 48 (v.toNat/2^k)):=by
  apply UInt64.toNat_inj.1
  rw[UInt64.toNat_ofNat',Nat.mod_eq_of_lt (by omega)]
  show(if _ then _ else _:UInt64).toNat=_
  rw[show(GI.toZ (Bt (Af v:UInt64) (UInt64.ofNat (2^k))))=((v.toNat/2^k:Nat):Int) by rw[Hw,e],show GI.toZ (48:UInt64)=48 from rfl]
  split
  ·rw[e];omega
  ·show 48=_;omega
 rw[e2,Bdy (by rw[UInt64.toNat_ofNat',Nat.mod_eq_of_lt]<;>omega),UInt64.toNat_ofNat',Nat.mod_eq_of_lt (by omega)]
theorem Cdq{p:List UInt8}{N:Nat}(h:okB p N)(a k:Nat)(hk:k≤24):Afv p (N:Int) (a:Int) (k:Int)=some (rcS p N a k):=by
 obtain⟨hN,hl,hz⟩:=h
 have h:okB p N:=⟨hN,hl,hz⟩
 rw[Afv,Ajl]
 by_cases ha:N≤a
 ·rw[if_pos (by rw[Cu];simp;omega),rcS,if_pos ha]
 have hle:=An4 p (min 48 (N-a)) a
 rw[if_neg (by rw[Cu];simp;omega),Cby h a (by omega),Aa,unR]
 by_cases h1:Ep p a (min 48 (N-a))<min 48 (N-a)
 ·have hS:rcS p N a k=if N<a+Ep p a (min 48 (N-a))+1+k then(0,0,24)else(UInt32.ofNat (Ep p a (min 48 (N-a))*2^k+Be p (a+Ep p a (min 48 (N-a))+1) k),((a+Ep p a (min 48 (N-a))+1+k:Nat):Int),0):=by rw[rcS,if_neg ha,if_pos h1]
  rw[Cfg h1,hS]
  generalize Ep p a (min 48 (N-a))=q at*
  rw[if_pos rfl]
  simp only
  rw[if_neg (by rw[As];simp;omega),Xo,Xb,Az (by omega) (by omega)]
  by_cases h2:N<a+q+1+k
  ·rw[if_pos (by simp[Ae];omega),if_pos h2]
  ·have hp:2^k≤2^24:=Nat.pow_le_pow_right (by omega) hk
   have hm:q*2^k≤47*2^24:=Nat.mul_le_mul (by omega) hp
   have hv:=Mw p k (a+q+1)
   have e:(Af (Ad (Au (Af (q:Int):UInt64) (UInt64.ofNat (2^k))) (Mz p (a+q+1) k)):UInt32)=UInt32.ofNat (q*2^k+Be p (a+q+1) k):=by
    have e1:Ad (Au (Af (q:Int):UInt64) (UInt64.ofNat (2^k))) (Mz p (a+q+1) k)=UInt64.ofNat (q*2^k+Be p (a+q+1) k):=by
     rw[Ahs,Ahz,Te,Mz,UInt64.ofNat_add,UInt64.ofNat_mul]
    rw[e1]
    have e2:∀x:UInt64,(Af x:UInt32)=UInt32.ofNat x.toNat:=fun x=>by simp only[Af,Hw,Ea]
    rw[e2,UInt64.toNat_ofNat',Nat.mod_eq_of_lt (by omega)]
   rw[if_neg (by simp[Ae];omega),if_neg h2,Az7 p _ _ k (by omega) (by omega),Aa,if_pos (by rw[Ae];simp;omega),Ag4 k (by omega),Aa,e,Ag (by omega) (by omega)];rfl
 ·by_cases h2:Ep p a (min 48 (N-a))=48
  ·have hS:rcS p N a k=if N<a+48+32 then(0,0,24)else if Be p (a+48) 32/2^k<48 then(0,0,12)else(UInt32.ofNat (Be p (a+48) 32),((a+48+32:Nat):Int),0):=by rw[rcS,if_neg ha,if_neg h1,if_pos h2]
   rw[Cdk h1 h2,hS,if_pos rfl]
   simp only
   rw[if_pos (by rw[As];rfl),Xo,Xb,Az (by omega) (by omega)]
   by_cases h3:N<a+48+32
   ·rw[if_pos (by simp[Ae];omega),if_pos h3]
   ·have hg:=Az7 p (N:Int) (a+48) 32 (by omega) (by omega)
    have hv:=Bs6 p (a+48) (n:=32) (by omega)
    rw[if_neg (by simp[Ae];omega),if_neg h3]
    refine Eq.trans (congrArg (fun o=>Option.bind o _) hg) ?_
    rw[Aa,if_neg (by rw[Ae];simp),Bbj (by omega),Cim _ k hk,Aa,Ao0 hv]
    by_cases h4:Be p (a+48) 32/2^k<48
    ·rw[if_pos (by rw[Ae];simp;omega),if_pos h4]
    ·rw[if_neg (by rw[Ae];simp;omega),if_neg h4,Ag (by omega) (by omega)];rfl
  ·rw[Ceh h1 h2,rcS,if_neg ha,if_neg h1,if_neg h2]
   have e:(if((0:Int),(0:Int),(24:Int)).2.2=0 then(((0:Int),(0:Int),(24:Int)).1,((0:Int),(0:Int),(24:Int)).2.1)else((-1:Int),(0:Int)))=(-1,0):=by decide
   rw[e];rfl
theorem Cj6{p:List UInt8}{N a k:Nat}{v:UInt32}{n:Int}(h:rcS p N a k=(v,n,0)):(a:Int)<n∧n≤N:=by
 unfold rcS at h
 split at h
 ·simp at h
 split at h
 ·split at h
  ·simp at h
  ·simp only[Prod.mk.injEq]at h;omega
 ·split at h
  ·split at h
   ·simp at h
   ·split at h
    ·simp at h
    ·simp only[Prod.mk.injEq]at h;omega
  ·simp at h
end Go.Pl
set_option linter.unusedVariables false
set_option linter.unusedSimpArgs false
namespace Go.Pl
open Go Go.Lv
def okD(k l:Nat)(s t:UInt64):Prop:=k≤24∧l≤24∧s.toNat≤68719476735∧t.toNat≤68719476735
theorem Btj(a b:UInt64)(h:a.toNat≤b.toNat):Dj a b=a:=by
 show(if _ then _ else _)=_
 rw[Hw,Hw,if_neg (by omega)]
theorem Bcg(a:UInt64):geq a a=true:=by rw[Bgs];simp
theorem Ccj{k l:Nat}{s t:UInt64}(h:okD k l s t):Ak9 (k:Int) (l:Int) s t=some 0:=by
 obtain⟨h1,h2,h3,h4⟩:=h
 have e1:Dj (Ay7 (k:Int) 0) 24=(k:Int):=by rw[Acd,Bov];omega
 have e2:Dj (Ay7 (l:Int) 0) 24=(l:Int):=by rw[Acd,Bov];omega
 have e3:Dj s (68719476735:UInt64)=s:=Btj _ _ (by simpa using h3)
 have e4:Dj t (68719476735:UInt64)=t:=Btj _ _ (by simpa using h4)
 have e5:∀a:Int,geq a a=true:=fun a=>by rw[As];simp
 rw[Ak9,Agg,Ap1,Af6,Apy,Azx,e1,e2,e3,e4,e5,e5,Bcg,Bcg];rfl
def Uo(s n:UInt64):UInt64:=s+n-s/16
def kS(k:Nat)(s:UInt64):Nat:=if 0<k∧s.toNat<2^(k+4)then k-1 else if k<24∧2^(k+5)<s.toNat then k+1 else k
theorem Ciw{k:Nat}(h:k≤24)(s:UInt64):kS k s≤24:=by
 unfold kS
 by_cases h1:0<k∧s.toNat<2^(k+4)
 ·rw[if_pos h1];omega
 ·rw[if_neg h1];split<;>omega
theorem Bwe{k:Nat}{s:UInt64}(h:¬(0<k∧s.toNat<2^(k+4))):(if k<24∧2^(k+5)<s.toNat then((k+1:Nat):Int)else(k:Int))=((kS k s:Nat):Int):=by
 rw[kS,if_neg h];split<;>rfl
theorem Bv4{s n:UInt64}(h:s.toNat≤68719476735)(hn:n.toNat≤4294967295):(Uo s n).toNat≤68719476735:=by
 have h1:=s.toNat_lt
 have e:(s+n).toNat=s.toNat+n.toNat:=by rw[UInt64.toNat_add];omega
 have e2:(s/16).toNat=s.toNat/16:=by rw[UInt64.toNat_div];rfl
 rw[Uo,UInt64.toNat_sub_of_le _ _ (by rw[UInt64.le_iff_toNat_le,e,e2];omega),e,e2];omega
theorem Arw(s n:UInt64):Ad s (Aj n (Bi s (GI.toZ (4:UInt64)).toNat))=Uo s n:=by
 have e:Bi s (GI.toZ (4:UInt64)).toNat=s/16:=by
  apply UInt64.toNat_inj.1
  rw[Adr,UInt64.toNat_div];rfl
 rw[e,Ahs,Bb8,Uo,UInt64.sub_eq_add_neg,UInt64.sub_eq_add_neg,UInt64.add_assoc]
theorem Bv9(s n:UInt64):Aj (Ad s n) (Bt s (16:UInt64))=Uo s n:=by rw[Ahs,Bb8,Bbq,Uo]
theorem Clw{k:Nat}(h:k≤24):(Cp (16:UInt64) k).toNat=2^(k+4):=by
 have hp:2^k≤2^24:=Nat.pow_le_pow_right (by omega) h
 rw[Anp,Nat.pow_add]
 show 16*2^k %_=2^k*16
 rw[Nat.mod_eq_of_lt (by omega),Nat.mul_comm]
theorem Cjk{k:Nat}(h:k≤24):(Cp (32:UInt64) k).toNat=2^(k+5):=by
 have hp:2^k≤2^24:=Nat.pow_le_pow_right (by omega) h
 rw[Anp,Nat.pow_add]
 show 32*2^k %_=2^k*32
 rw[Nat.mod_eq_of_lt (by omega),Nat.mul_comm]
theorem Cjd{k:Nat}{s:UInt64}(h:0<k)(h2:s.toNat<2^(k+4)):kS k s=k-1:=by rw[kS,if_pos ⟨h,h2⟩]
theorem Cja{k:Nat}{s:UInt64}(h:¬(0<k∧s.toNat<2^(k+4)))(h2:k<24)(h3:2^(k+5)<s.toNat):kS k s=k+1:=by rw[kS,if_neg h,if_pos ⟨h2,h3⟩]
theorem Bxi{k:Nat}{s:UInt64}(h:¬(0<k∧s.toNat<2^(k+4)))(h2:¬(k<24∧2^(k+5)<s.toNat)):kS k s=k:=by rw[kS,if_neg h,if_neg h2]
theorem Bx9{α:Type}(k:Nat)(hk:k≤24)(s:UInt64)(f:Int→Option α):
  (if(Fi (k:Int) (0:Int))=true then(
   Option.bind (Hu (Jz (k:Int) (0:Int))) fun _=>
   if(Bn s (Cp (16:UInt64) (GI.toZ (k:Int)).toNat))=true then f (Aj (k:Int) (1:Int))
   else(if(Bn (k:Int) (24:Int))=true then(
    Option.bind (Hu (Jz (k:Int) (0:Int))) fun _=>
    if(Fi s (Cp (32:UInt64) (GI.toZ (k:Int)).toNat))=true then f (Ad (k:Int) (1:Int))else f (k:Int))
    else f (k:Int)))
  else(if(Bn (k:Int) (24:Int))=true then(
    Option.bind (Hu (Jz (k:Int) (0:Int))) fun _=>
    if(Fi s (Cp (32:UInt64) (GI.toZ (k:Int)).toNat))=true then f (Ad (k:Int) (1:Int))else f (k:Int))
    else f (k:Int)))=f ((kS k s:Nat):Int):=by
 have z:(GI.toZ (k:Int)).toNat=k:=rfl
 rw[z,Ba (by rw[Cu];simp)]
 simp only[Aa]
 rw[Bha,Ao1,Clw hk,Cjk hk]
 by_cases h0:0<k
 ·rw[if_pos (by rw[Ak];simp;omega)]
  by_cases h1:s.toNat<2^(k+4)
  ·rw[if_pos (by simp[h1]),Cjd h0 h1,Az (by omega) (by omega)];congr 1;omega
  ·rw[if_neg (by simp;omega)]
   by_cases h2:k<24
   ·rw[if_pos (by rw[Ae];simp;omega)]
    by_cases h3:2^(k+5)<s.toNat
    ·rw[if_pos (by simp[h3]),Cja (fun h=>h1 h.2) h2 h3,Ag (by omega) (by omega)];rfl
    ·rw[if_neg (by simp;omega),Bxi (fun h=>h1 h.2) (fun h=>h3 h.2)]
   ·rw[if_neg (by rw[Ae];simp;omega),Bxi (fun h=>h1 h.2) (fun h=>h2 h.1)]
 ·rw[if_neg (by rw[Ak];simp;omega)]
  by_cases h2:k<24
  ·rw[if_pos (by rw[Ae];simp;omega)]
   by_cases h3:2^(k+5)<s.toNat
   ·rw[if_pos (by simp[h3]),Cja (fun h=>h0 h.1) h2 h3,Ag (by omega) (by omega)];rfl
   ·rw[if_neg (by simp;omega),Bxi (fun h=>h0 h.1) (fun h=>h3 h.2)]
  ·rw[if_neg (by rw[Ae];simp;omega),Bxi (fun h=>h0 h.1) (fun h=>h2 h.1)]
theorem Bwh(k:Nat)(hk:k≤24)(s n:UInt64):Un (k:Int) s n=some (((kS k (Uo s n):Nat):Int),Uo s n):=by
 have g1:Ad (k:Int) 4=((k+4:Nat):Int):=by rw[Ag (by omega) (by omega)];omega
 have g2:Ad (k:Int) 5=((k+5:Nat):Int):=by rw[Ag (by omega) (by omega)];omega
 have hp:We (k:Int) s n=some (if k<24∧2^(k+5)<(Uo s n).toNat then((k+1:Nat):Int)else(k:Int),Uo s n):=by
  rw[We,Ahr,g2,Ag4 _ (by omega),Aa,Bv9,Ao1,Aoi (by omega)]
  by_cases h2:k<24
  ·rw[if_pos (by rw[Ae];simp;omega)]
   by_cases h3:2^(k+5)<(Uo s n).toNat
   ·rw[if_pos (by simp[h3]),if_pos ⟨h2,h3⟩,Ag (by omega) (by omega)];rfl
   ·rw[if_neg (by simp;omega),if_neg (fun h=>h3 h.2)]
  ·rw[if_neg (by rw[Ae];simp;omega),if_neg (fun h=>h2 h.1)]
 rw[Un,Ahw,g1,Ag4 _ (by omega),Aa,Bv9,Bha,Aoi (by omega),hp]
 by_cases h0:0<k
 ·rw[if_pos (by rw[Ak];simp;omega)]
  by_cases h1:(Uo s n).toNat<2^(k+4)
  ·rw[if_pos (by simp[h1]),Cjd h0 h1,Az (by omega) (by omega)];congr 2;omega
  ·rw[if_neg (by simp;omega),Bwe (fun h=>h1 h.2)]
 ·rw[if_neg (by rw[Ak];simp;omega),Bwe (fun h=>h0 h.1)]
def n64(v:UInt32):UInt64:=UInt64.ofNat v.toNat
theorem Cbt(v:UInt32):(n64 v).toNat≤4294967295:=by have:=v.toNat_lt;rw[n64,UInt64.toNat_ofNat',Nat.mod_eq_of_lt (by omega)];omega
def Aui(k:Nat)(v:UInt32):UInt32:=UInt32.ofNat (v.toNat-2^k)
def lK(l:Nat)(t:UInt64)(k:Nat)(v:UInt32):Nat:=if v.toNat<2^k then l else kS l (Uo t (n64 (Aui k v)))
def lT(t:UInt64)(k:Nat)(v:UInt32):UInt64:=if v.toNat<2^k then t else Uo t (n64 (Aui k v))
theorem Cd4{k l:Nat}{s t:UInt64}(h:okD k l s t)(v:UInt32):okD (kS k (Uo s (n64 v))) (lK l t k v) (Uo s (n64 v)) (lT t k v):=by
 obtain⟨h1,h2,h3,h4⟩:=h
 refine⟨Ciw h1 _,?_,Bv4 h3 (Cbt v),?_⟩
 ·unfold lK;split; · exact h2
  exact Ciw h2 _
 ·unfold lT;split; · exact h4
  exact Bv4 h4 (Cbt _)
theorem Ckv(k l:Nat)(s t:UInt64)(hk:k≤24)(v:UInt32):Afs (k:Int) (l:Int) s t v=some (decide (v.toNat<2^k)):=by
 have:=v.toNat_lt
 rw[Afs,Ag4 k (by omega),Aa,Bha,Aoi (by omega),Ci,UInt64.toNat_ofNat',Nat.mod_eq_of_lt (by omega)]
theorem left_eq(k l:Nat)(s t:UInt64)(hk:k≤24)(v:UInt32)(h:¬v.toNat<2^k):Ad5 (k:Int) (l:Int) s t v=some (Aui k v):=by
 have:=v.toNat_lt
 have e2:∀x:UInt64,(Af x:UInt32)=UInt32.ofNat x.toNat:=fun x=>by simp only[Af,Hw,Ea]
 have e3:(UInt64.ofNat v.toNat).toNat=v.toNat:=by rw[UInt64.toNat_ofNat',Nat.mod_eq_of_lt (by omega)]
 rw[Ad5,Ag4 k (by omega),Aa,e2,Bb8,Ci,UInt64.toNat_sub_of_le _ _ (by rw[UInt64.le_iff_toNat_le,Aoi (by omega),e3];omega),Aoi (by omega),e3,Aui]
theorem Byr{k l:Nat}{s t:UInt64}(h:okD k l s t)(v:UInt32):Xc (k:Int) (l:Int) s t v=some (((kS k (Uo s (n64 v)):Nat):Int),((lK l t k v:Nat):Int),Uo s (n64 v),lT t k v):=by
 obtain⟨h1,h2,h3,h4⟩:=h
 have hp:∀(r1:Int) (r2:UInt64),Rc v (k:Int) (l:Int) s t r1 r2=some (((kS k (Uo s (n64 v)):Nat):Int),r1,Uo s (n64 v),r2):=by
  intro r1 r2
  rw[Rc,Abv,Ci,Bwh k h1,Aa];rfl
 rw[Xc,Acv,Ckv k l s t h1,Aa]
 by_cases hv:v.toNat<2^k
 ·rw[if_neg (by simp[hv]),hp,lK,if_pos hv,lT,if_pos hv]
 ·rw[if_pos (by simp;omega),left_eq k l s t h1 v hv,Aa,Ci,Bwh l h2,Aa]
  simp only
  rw[hp,lK,if_neg hv,lT,if_neg hv];rfl
theorem Bim(k l:Nat)(s t:UInt64)(hk:k≤24)(v:UInt32):Aft (k:Int) (l:Int) s t v=some (if v.toNat<2^k then(0,v)else(1,Aui k v)):=by
 have hp:2^k≤2^24:=Nat.pow_le_pow_right (by omega) hk
 have hpos:0<2^k:=Nat.pow_pos (by omega)
 have hl:=v.toNat_lt
 have z:(GI.toZ (k:Int)).toNat=k:=rfl
 have e1:geq (Bi v k) (0:UInt32)=decide (v.toNat<2^k):=by
  rw[Bg6,Bool.eq_iff_iff]
  simp only[beq_iff_eq,←UInt32.toNat_inj,Acz,decide_eq_true_eq]
  show _/_=0↔_
  rw[Nat.div_eq_zero_iff];omega
 have e2:¬v.toNat<2^k→Aj v (Cp (1:UInt32) k)=Aui k v:=by
  intro h
  have e3:(Cp (1:UInt32) k).toNat=2^k:=by rw[Av0];show 1*2^k %_=_;rw[Nat.mod_eq_of_lt (by omega),Nat.one_mul]
  apply UInt32.toNat_inj.1
  rw[Bh9,UInt32.toNat_sub_of_le _ _ (by rw[UInt32.le_iff_toNat_le,e3];omega),e3,Aui,Ao0 (by omega)]
 rw[Aft,Ba (by rw[Cu];simp),Aa,Aa,z,e1]
 by_cases h:v.toNat<2^k
 ·rw[if_pos (by simp[h]),if_pos h]
 ·rw[if_neg (by simp;omega),if_neg h,e2 h]
abbrev Rd:=UInt32×Int×Int×Int×UInt64×UInt64×Int
theorem Bkh{k l:Nat}{s t:UInt64}(h:okD k l s t)(v:UInt32)(r:Int):Akf (k:Int) (l:Int) s t v r=some (v,r,((kS k (Uo s (n64 v)):Nat):Int),((lK l t k v:Nat):Int),Uo s (n64 v),lT t k v,0):=by
 obtain⟨h1,h2,h3,h4⟩:=h
 have hp:∀(x:Int) (y:UInt64),Adc v r (k:Int) s x y=some (v,r,((kS k (Uo s (n64 v)):Nat):Int),x,Uo s (n64 v),y,0):=by
  intro x y
  rw[Adc,Ar0,Ci,Arw,Bx9 k h1]
  rw[Ast,Ar1,Ao9,Azb,Ci,Arw];rfl
 rw[Akf,Ata,Bim k l s t h1,Aa]
 by_cases hv:v.toNat<2^k
 ·rw[if_pos hv]
  simp only
  rw[if_neg (by rw[As];simp),hp,lK,if_pos hv,lT,if_pos hv]
 ·rw[if_neg hv]
  simp only
  rw[if_pos (by rw[As];rfl),Ci,Arw,Bx9 l h2 _ (fun x=>Adc v r (k:Int) s x (Uo t (UInt64.ofNat (Aui k v).toNat))),hp,lK,if_neg hv,lT,if_neg hv];rfl
def dgS(p:List UInt8)(N a k l:Nat):UInt32×Int×Int:=
 if N≤a then(0,0,24)else
 if Fh p a=0 then(if N<a+1+k then(0,0,24)else(UInt32.ofNat (Be p (a+1) k),((a+1+k:Nat):Int),0))else
 if(rcS p N (a+1) l).2.2≠0 then(0,0,(rcS p N (a+1) l).2.2)else
 if 4294967295<(rcS p N (a+1) l).1.toNat+2^k then(0,0,12)else(UInt32.ofNat ((rcS p N (a+1) l).1.toNat+2^k),(rcS p N (a+1) l).2.1,0)
theorem Cjj{p:List UInt8}{N a k l:Nat}(h:(dgS p N a k l).2.2=0):(a:Int)<(dgS p N a k l).2.1∧(dgS p N a k l).2.1≤N:=by
 revert h
 unfold dgS
 split
 ·simp
 split
 ·split
  ·simp
  ·simp only;omega
 ·split
  ·intro h;contradiction
  ·rename_i h1
   split
   ·simp
   ·intro _
    have:=Cj6 (p:=p) (N:=N) (a:=a+1) (k:=l) (v:=(rcS p N (a+1) l).1) (n:=(rcS p N (a+1) l).2.1) (by
     have e:(rcS p N (a+1) l).2.2=0:=by simpa using h1
     rw[←e])
    simp only;omega
theorem Cf2{p:List UInt8}{N:Nat}(h:okB p N)(a:Nat){k l:Nat}{s t:UInt64}(hd:okD k l s t):Afn p (N:Int) (a:Int) (k:Int) (l:Int) s t=
  some (if(dgS p N a k l).2.2≠0 then(0,0,0,0,0,0,(dgS p N a k l).2.2)else((dgS p N a k l).1,(dgS p N a k l).2.1,((kS k (Uo s (n64 (dgS p N a k l).1)):Nat):Int),((lK l t k (dgS p N a k l).1:Nat):Int),Uo s (n64 (dgS p N a k l).1),lT t k (dgS p N a k l).1,0)):=by
 obtain⟨h1,h2,h3,h4⟩:=hd
 have hd:okD k l s t:=⟨h1,h2,h3,h4⟩
 have hN:=h.1
 have hg:=Be7 h a 1 (by omega)
 have hb:=Yk p a
 rw[Afn,Atx,Wg h,Aa,if_neg (by rw[Ah];simp),Ccj hd,Aa,if_neg (by rw[Ah];simp),Ar6,Asu]
 refine Eq.trans (congrArg (fun o=>Option.bind o _) hg) ?_
 rw[Aa]
 by_cases ha:N≤a
 ·have hS:dgS p N a k l=(0,0,24):=by rw[dgS,if_pos ha]
  rw[if_pos (by omega),hS];rfl
 rw[if_neg (by omega)]
 simp only
 have e0:geq (Mz p a 1) (0:UInt64)=decide (Fh p a=0):=by
  rw[Bgs,Bool.eq_iff_iff]
  simp only[beq_iff_eq,←UInt64.toNat_inj,decide_eq_true_eq,Wa p a 1 (by omega),Bbh];rfl
 have e1:Ad (a:Int) 1=((a+1:Nat):Int):=by rw[Ag (by omega) (by omega)];omega
 rw[if_neg (by rw[Ah];simp),e0,e1]
 by_cases hz:Fh p a=0
 ·rw[if_pos (by simp[hz]),Be7 h (a+1) k (by omega),Aa]
  by_cases h5:N<a+1+k
  ·have hS:dgS p N a k l=(0,0,24):=by rw[dgS,if_neg ha,if_pos hz,if_pos h5]
   rw[if_pos h5,hS];rfl
  ·have hS:dgS p N a k l=(UInt32.ofNat (Be p (a+1) k),((a+1+k:Nat):Int),0):=by rw[dgS,if_neg ha,if_pos hz,if_neg h5]
   rw[if_neg h5,hS]
   simp only
   rw[if_neg (by rw[Ah];simp),Bkh hd,Bbj (by omega),Ag (by omega) (by omega)];rfl
 ·rw[if_neg (by simp[hz]),Chd h (a+1) l h2,Aa]
  have hp:2^k≤2^24:=Nat.pow_le_pow_right (by omega) h1
  by_cases h5:(rcS p N (a+1) l).2.2≠0
  ·have hS:dgS p N a k l=(0,0,(rcS p N (a+1) l).2.2):=by rw[dgS,if_neg ha,if_neg hz,if_pos h5]
   rw[hS]
   generalize rcS p N (a+1) l=R at*
   obtain⟨v,n,e⟩:=R
   simp only at*
   rw[if_pos (by rw[Ah];simpa using h5),if_pos h5]
  ·have hv:=(rcS p N (a+1) l).1.toNat_lt
   have z:(GI.toZ (k:Int)).toNat=k:=rfl
   have e3:(Cp (1:UInt32) k).toNat=2^k:=by rw[Av0];show 1*2^k %_=_;rw[Nat.mod_eq_of_lt (by omega),Nat.one_mul]
   by_cases h6:4294967295<(rcS p N (a+1) l).1.toNat+2^k
   ·have hS:dgS p N a k l=(0,0,12):=by rw[dgS,if_neg ha,if_neg hz,if_neg h5,if_pos h6]
    rw[hS]
    generalize rcS p N (a+1) l=R at*
    obtain⟨v,n,e⟩:=R
    simp only at*
    rw[if_neg (by rw[Ah];simpa using h5),Ba (by rw[Cu];simp),Aa,z,if_pos (by rw[Bwt,Bki,UInt32.toNat_add,e3];simp;omega),if_pos (by decide)]
   ·have hS:dgS p N a k l=(UInt32.ofNat ((rcS p N (a+1) l).1.toNat+2^k),(rcS p N (a+1) l).2.1,0):=by rw[dgS,if_neg ha,if_neg hz,if_neg h5,if_neg h6]
    rw[hS]
    generalize rcS p N (a+1) l=R at*
    obtain⟨v,n,e⟩:=R
    simp only at*
    have e4:Ad v (Cp (1:UInt32) k)=UInt32.ofNat (v.toNat+2^k):=by
     apply UInt32.toNat_inj.1
     rw[Bki,UInt32.toNat_add,e3,Ao0 (by omega),Nat.mod_eq_of_lt (by omega)]
    rw[if_neg (by rw[Ah];simpa using h5),Ba (by rw[Cu];simp),Aa,z,if_neg (by rw[Bwt,Bki,UInt32.toNat_add,e3];simp;omega),e4,Bkh hd];rfl
theorem Cc3{p:List UInt8}{N:Nat}(h:okB p N)(a:Nat)(k l:Nat)(s t:UInt64)(h1:k≤24)(h2:l≤24):Af2 p (N:Int) (a:Int) (k:Int) (l:Int) s t=some (dgS p N a k l):=by
 have hN:=h.1
 have hl:=h.2.1
 have hb:=Yk p a
 rw[Af2]
 by_cases ha:N≤a
 ·rw[if_pos (by rw[Cu];simp;omega),dgS,if_pos ha]
 rw[if_neg (by rw[Cu];simp;omega),Bd6 p _ a (by omega) (by omega),Aa,Az (a:=(N:Int)) (b:=(a:Int)) (by omega) (by omega),Az (by omega) (by omega)]
 have e1:Ad (a:Int) 1=((a+1:Nat):Int):=by rw[Ag (by omega) (by omega)];omega
 rw[e1]
 by_cases hz:Fh p a=0
 ·rw[if_pos (by rw[As];simp[hz])]
  by_cases h5:N<a+1+k
  ·rw[if_pos (by rw[Ae];simp;omega),dgS,if_neg ha,if_pos hz,if_pos h5]
  ·rw[if_neg (by rw[Ae];simp;omega),Az7 p _ (a+1) k (by omega) (by omega),Aa,dgS,if_neg ha,if_pos hz,if_neg h5,Bbj (by omega),Ag (by omega) (by omega)];rfl
 ·rw[if_neg (by rw[As];simp;omega),Cdq h (a+1) l h2,Aa]
  have hp:2^k≤2^24:=Nat.pow_le_pow_right (by omega) h1
  have hv:=(rcS p N (a+1) l).1.toNat_lt
  have e2:∀x:UInt64,(Af x:UInt32)=UInt32.ofNat x.toNat:=fun x=>by simp only[Af,Hw,Ea]
  by_cases h5:(rcS p N (a+1) l).2.2≠0
  ·have hS:dgS p N a k l=(0,0,(rcS p N (a+1) l).2.2):=by rw[dgS,if_neg ha,if_neg hz,if_pos h5]
   rw[hS]
   generalize rcS p N (a+1) l=R at*
   obtain⟨v,n,e⟩:=R
   simp only at*
   rw[if_pos (by rw[Ah];simpa using h5)]
  ·have hsum:∀v:UInt32,(Ad (Af v:UInt64) (UInt64.ofNat (2^k))).toNat=v.toNat+2^k:=by
    intro v
    have:=v.toNat_lt
    have:=Nat.pow_pos (n:=k) (show 0<2 by omega)
    rw[Ahs,UInt64.toNat_add,Ci,Aoi (by omega),UInt64.toNat_ofNat'];omega
   by_cases h6:4294967295<(rcS p N (a+1) l).1.toNat+2^k
   ·have hS:dgS p N a k l=(0,0,12):=by rw[dgS,if_neg ha,if_neg hz,if_neg h5,if_pos h6]
    rw[hS]
    generalize rcS p N (a+1) l=R at*
    obtain⟨v,n,e⟩:=R
    simp only at*
    rw[if_neg (by rw[Ah];simpa using h5),Ag4 k (by omega),Aa,if_pos (by rw[Ao1,hsum];simpa using h6)]
   ·have hS:dgS p N a k l=(UInt32.ofNat ((rcS p N (a+1) l).1.toNat+2^k),(rcS p N (a+1) l).2.1,0):=by rw[dgS,if_neg ha,if_neg hz,if_neg h5,if_neg h6]
    rw[hS]
    generalize rcS p N (a+1) l=R at*
    obtain⟨v,n,e⟩:=R
    simp only at*
    rw[if_neg (by rw[Ah];simpa using h5),Ag4 k (by omega),Aa,if_neg (by rw[Ao1,hsum];simpa using h6),e2,hsum]
end Go.Pl
set_option linter.unusedVariables false
set_option linter.unusedSimpArgs false
namespace Go.Pl
open Go Go.Lv
abbrev DuN:=Nat×Nat×UInt64×UInt64
def okN(d:DuN):Prop:=okD d.1 d.2.1 d.2.2.1 d.2.2.2
def nxt(d:DuN)(v:UInt32):DuN:=(kS d.1 (Uo d.2.2.1 (n64 v)),lK d.2.1 d.2.2.2 d.1 v,Uo d.2.2.1 (n64 v),lT d.2.2.2 d.1 v)
def Bpd:DuN:=(10,10,16384,16384)
theorem Cc9:okN Bpd:=⟨by decide,by decide,by decide,by decide⟩
theorem Cj1{d:DuN}(h:okN d)(v:UInt32):okN (nxt d v):=Cd4 h v
abbrev DuL:=Int×Int×UInt64×UInt64×Unit
def toI(d:DuN):DuL:=((d.1:Int),(d.2.1:Int),d.2.2.1,d.2.2.2,())
def chP(ch:Nat)(v:List UInt32)(c:Nat):Nat→DuN
 |0=>Bpd
 |m+1=>if m %ch=c then nxt (chP ch v c m) (v.getD m 0)else chP ch v c m
theorem Awr(ch:Nat)(v:List UInt32)(c:Nat):∀m,okN (chP ch v c m)
 |0=>Cc9
 |m+1=>by rw[chP];split;exact Cj1 (Awr ch v c m) _;exact Awr ch v c m
theorem Bwz(ch:Nat)(v w:List UInt32)(c:Nat):∀m,m≤v.length→chP ch (v++w) c m=chP ch v c m
 |0,_=>rfl
 |m+1,h=>by
  have e:(v++w).getD m 0=v.getD m 0:=by simp[List.getD_eq_getElem?_getD,List.getElem?_append_left (show m<v.length by omega)]
  rw[chP,chP,Bwz ch v w c m (by omega),e]
theorem Bpy(ch:Nat)(v:List UInt32)(c:Nat):∀m,m≤c→c<ch→chP ch v c m=Bpd
 |0,_,_=>rfl
 |m+1,h,h2=>by rw[chP,if_neg (by rw[Nat.mod_eq_of_lt (by omega)];omega),Bpy ch v c m (by omega) h2]
theorem Bra(ch:Nat)(v:List UInt32)(c i:Nat)(hi:i %ch=c)(hc:c<ch):∀j,j<ch→chP ch v c (i+1+j)=chP ch v c (i+1)
 |0,_=>rfl
 |j+1,h=>by
  have hne:(i+1+j) %ch≠c:=by
   intro e
   have h1:(i+(1+j)) %ch=i %ch:=by rw[hi,←e];congr 1;omega
   have h2:(1+j) %ch=0:=by
    have h3:=Nat.sub_mod_eq_zero_of_mod_eq h1
    rwa [Nat.add_sub_cancel_left]at h3
   rw[Nat.mod_eq_of_lt (by omega)]at h2;omega
  rw[show i+1+(j+1)=(i+1+j)+1 by omega,chP,if_neg hne,Bra ch v c i hi hc j (by omega)]
theorem Cdv(ch:Nat)(v:List UInt32)(c i:Nat)(hi:i %ch=c)(hc:c<ch):chP ch v c (i+ch)=nxt (chP ch v c i) (v.getD i 0):=by
 have h:=Bra ch v c i hi hc (ch-1) (by omega)
 rw[show i+1+(ch-1)=i+ch by omega]at h
 rw[h,chP,if_pos hi]
theorem Bbn{l:List UInt32}{k:Nat}(h:k<l.length):getI l (k:Int)=some (l.getD k 0):=by
 rw[Bm h];simp[List.getD_eq_getElem?_getD,h]
theorem Anm(a b:Nat):Fc (a:Int) (b:Int)=((a %b:Nat):Int):=by rw[Fc,Int.tmod_eq_emod_of_nonneg (by omega)];omega
theorem Bf7(ch:Nat)(v:List UInt32)(hch:1≤ch)(hch6:ch≤6)(hv:v.length≤4000):∀(j i q:Nat),i %ch=v.length %ch→i≤v.length→v.length-i≤j→j<q→
  Lm (ch:Int) v q (i:Int) ((chP ch v (v.length %ch) i).1:Int) ((chP ch v (v.length %ch) i).2.1:Int) (chP ch v (v.length %ch) i).2.2.1 (chP ch v (v.length %ch) i).2.2.2=
   some (((chP ch v (v.length %ch) v.length).1:Int),((chP ch v (v.length %ch) v.length).2.1:Int),(chP ch v (v.length %ch) v.length).2.2.1,(chP ch v (v.length %ch) v.length).2.2.2)
 |j,i,q+1,hi,hl,hj,hq=>by
  have hc:v.length %ch<ch:=Nat.mod_lt _ (by omega)
  rw[Lm,Acf]
  by_cases h:i<v.length
  ·have h1:=Byr (Awr ch v (v.length %ch) i) (v.getD i 0)
   rw[if_pos (by rw[Ae,Ac];simp;omega),Bbn h,Aa,h1,Aa]
   have hle:i+ch≤v.length:=by
    have h2:=Nat.div_add_mod i ch
    have h3:=Nat.div_add_mod v.length ch
    rw[hi]at h2
    have h4:ch*(i/ch)<ch*(v.length/ch):=by omega
    have h5:=Nat.lt_of_mul_lt_mul_left h4
    have h6:ch*(i/ch+1)≤ch*(v.length/ch):=Nat.mul_le_mul_left _ h5
    rw[Nat.mul_add]at h6;omega
   have ih:=Bf7 ch v hch hch6 hv (j-ch) (i+ch) q (by rw[Nat.add_mod_right];exact hi) hle (by omega) (by omega)
   rw[Cdv ch v _ i hi hc]at ih
   simp only
   rw[Ag (by omega) (by omega)]
   exact ih
  ·rw[if_neg (by rw[Ae,Ac];simp;omega),show i=v.length by omega];rfl
theorem Ca0(ch:Nat)(v:List UInt32)(hch:1≤ch)(hch6:ch≤6)(hv:v.length≤4000):Pm (ch:Int) v=some (((chP ch v (v.length %ch) v.length).1:Int),((chP ch v (v.length %ch) v.length).2.1:Int),(chP ch v (v.length %ch) v.length).2.2.1,(chP ch v (v.length %ch) v.length).2.2.2):=by
 have hc:v.length %ch<ch:=Nat.mod_lt _ (by omega)
 have hle:v.length %ch≤v.length:=Nat.mod_le _ _
 have h:=Bf7 ch v hch hch6 hv v.length (v.length %ch) FUEL (by rw[Nat.mod_mod]) hle (by omega) (by have:=Al;omega)
 rw[Bpy ch v _ _ (Nat.le_refl _) hc]at h
 rw[Pm,Ab8,Ma,Aa]
 simp only
 rw[Ba (by rw[Ah];simp;omega),Aa,Ac,Anm]
 exact h
def now(ch:Nat)(v:List UInt32):DuN:=chP ch v (v.length %ch) v.length
def win(N a:Nat):Nat:=min 81 (N-a)
def Kl(ch:Nat)(p:List UInt8)(N a:Nat)(out:List UInt32):UInt32×Int×Int:=dgS (Nt p a (win N a)) (win N a) 0 (now ch out).1 (now ch out).2.1
def Wl(ch:Nat)(p:List UInt8)(N:Nat):Nat→Nat→List UInt32→List UInt32×Nat×Int
 |0,a,out=>(out,a,0)
 |j+1,a,out=>if(Kl ch p N a out).2.2≠0 then(out,a,(Kl ch p N a out).2.2)else Wl ch p N j (a+(Kl ch p N a out).2.1.toNat) (out++[(Kl ch p N a out).1])
theorem Aye{ch:Nat}{p:List UInt8}{N a:Nat}{out:List UInt32}(h:(Kl ch p N a out).2.2=0):0<(Kl ch p N a out).2.1∧(Kl ch p N a out).2.1≤win N a:=by
 have:=Cjj h
 exact⟨this.1,this.2⟩
theorem Bl7{ch:Nat}{p:List UInt8}{N a:Nat}{out:List UInt32}(h:(Kl ch p N a out).2.2=0):((a:Int)+(Kl ch p N a out).2.1)=((a+(Kl ch p N a out).2.1.toNat:Nat):Int):=by
 have:=Aye h;omega
def sts(ch:Nat)(v:List UInt32):List DuL:=(List.range 6).map fun c=>toI (chP ch v c v.length)
theorem Bpf{ch:Nat}{v:List UInt32}{c:Nat}(h:c<6):getI (sts ch v) (c:Int)=some (toI (chP ch v c v.length)):=by
 rw[Bm (by simp[sts];exact h)];simp[sts]
theorem Byg{ch:Nat}{v:List UInt32}{c:Nat}(x:UInt32)(h:c<6)(hc:c=v.length %ch):Jj (sts ch v) (c:Int) (toI (nxt (chP ch v c v.length) x))=some (sts ch (v++[x])):=by
 rw[Qj _ (by simp[sts];exact h)]
 congr 1
 apply List.ext_getElem (by simp[sts])
 intro i h1 h2
 rw[List.getElem_set]
 simp only[sts,List.getElem_map,List.getElem_range]
 have e:(v++[x]).getD v.length 0=x:=by simp
 rw[List.length_append,List.length_singleton,chP,e,Bwz ch v [x] i v.length (Nat.le_refl _)]
 by_cases hi:c=i
 ·subst hi;rw[if_pos rfl,if_pos hc.symm]
 ·rw[if_neg hi,if_neg (by omega)]
theorem Che{ch:Nat}{v:List UInt32}{c:Nat}(hc:c=v.length %ch):chP ch v c v.length=now ch v:=by rw[now,hc]
section
variable {p:List UInt8} {N ch n:Nat}
theorem Bsp(hp:okB p N)(h1:1≤ch)(h6:ch≤6)(hn:n*ch≤4000):∀(j a q:Nat) (out:List UInt32),out.length+j=n*ch→j<q→a≤N→
  Mi (ch:Int) (n:Int) p (N:Int) q (a:Int) (out.length:Int) (sts ch out) out=
   some (if(Wl ch p N j a out).2.2≠0 then([],0,(Wl ch p N j a out).2.2)else((Wl ch p N j a out).1,((Wl ch p N j a out).2.1:Int),0))
 |j,a,q+1,out,hj,hq,ha=>by
  have hN:=hp.1
  have hnn:n≤n*ch:=Nat.le_mul_of_pos_right n (by omega)
  have em:Au (n:Int) (ch:Int)=((n*ch:Nat):Int):=by rw[Fb (by rw[←Int.natCast_mul];omega) (by rw[←Int.natCast_mul];omega),Int.natCast_mul]
  rw[Mi,Rw,em]
  cases j with
  |zero=>
   rw[if_neg (by rw[Ae];simp;omega)];rfl
  |succ j=>
   have hc:out.length %ch<6:=Nat.lt_of_lt_of_le (Nat.mod_lt _ (by omega)) h6
   have ew:Dj (Ad (a:Int) 81) (N:Int)=((a+win N a:Nat):Int):=by rw[Acd,Ag (by omega) (by omega)];unfold win;omega
   have hw:a+win N a≤N:=by unfold win;omega
   have hw2:win N a≤81:=by unfold win;omega
   have hd:=Cf2 (Bbg p a (win N a) (by omega)) 0 (Awr ch out (out.length %ch) out.length)
   have ecode:dgS (Nt p a (win N a)) (win N a) 0 (chP ch out (out.length %ch) out.length).1 (chP ch out (out.length %ch) out.length).2.1=Kl ch p N a out:=rfl
   rw[if_pos (by rw[Ae];simp;omega),ew,Cj2 hp a _ hw (by omega),Aa]
   simp only
   rw[if_neg (by rw[Ah];simp),Ba (by rw[Ah];simp;omega),Aa,Anm,Bpf hc,Aa,Aa]
   refine Eq.trans (congrArg (fun o=>Option.bind o _) hd) ?_
   rw[Aa,ecode,Wl]
   by_cases he:(Kl ch p N a out).2.2≠0
   ·rw[if_pos he,if_pos he]
    simp only
    rw[Rl,Qz,if_pos (by rw[Ah];simpa using he),if_pos he]
   ·have he0:(Kl ch p N a out).2.2=0:=by simpa using he
    have hok:=Aye he0
    have hset:=Byg (ch:=ch) (v:=out) (Kl ch p N a out).1 hc rfl
    rw[if_neg he,if_neg he]
    simp only
    rw[Rl,Qz,if_neg (by rw[Ah];simp),Ba (by rw[Ah];simp;omega),Aa,Anm,Bpf hc,Aa]
    refine Eq.trans (congrArg (fun o=>Option.bind o _) hset) ?_
    rw[Aa,Zt,Ang,Ce (by simp;omega),Aa,Ag (by omega) (by omega),Ag (by omega) (by omega),Bl7 he0]
    have ih:=Bsp hp h1 h6 hn j (a+(Kl ch p N a out).2.1.toNat) q (out++[(Kl ch p N a out).1]) (by simp;omega) (by omega) (by omega)
    rw[List.length_append,List.length_singleton]at ih
    exact ih
theorem Bxm{p:List UInt8}(hN:N=8*p.length)(hN2:N≤330000)(h1:1≤ch)(h6:ch≤6)(hn:n*ch≤4000):∀(j a q:Nat) (out:List UInt32),out.length+j=n*ch→j<q→a≤N→
  Ec (ch:Int) (n:Int) p q (a:Int) (out.length:Int) out=
   if(Wl ch p N j a out).2.2≠0 then some ((Wl ch p N j a out).1,(Wl ch p N j a out).2.2)else Tr ((Wl ch p N j a out).2.1:Int) p (Wl ch p N j a out).1
 |j,a,q+1,out,hj,hq,ha=>by
  have hnn:n≤n*ch:=Nat.le_mul_of_pos_right n (by omega)
  have em:Au (n:Int) (ch:Int)=((n*ch:Nat):Int):=by rw[Fb (by rw[←Int.natCast_mul];omega) (by rw[←Int.natCast_mul];omega),Int.natCast_mul]
  have e8:Au (8:Int) (Ac p)=(N:Int):=by rw[Ac,Fb (by omega) (by omega)];omega
  rw[Ec,Afb,em]
  cases j with
  |zero=>
   rw[if_neg (by rw[Ae];simp;omega)];rfl
  |succ j=>
   have ew:Dj (Ad (a:Int) 81) (N:Int)=((a+win N a:Nat):Int):=by rw[Acd,Ag (by omega) (by omega)];unfold win;omega
   have hw:a+win N a≤N:=by unfold win;omega
   have hw2:win N a≤81:=by unfold win;omega
   have hpre:(Option.bind Ma fun(r_4,r_5,r_6,r_7)=>
     if(Jz (out.length:Int) (ch:Int))=true then(
     Option.bind (Pm (ch:Int) out) fun(r_8,r_9,r_10,r_11)=>
     Il (Ec (ch:Int) (n:Int) p q) (ch:Int) (n:Int) p (a:Int) (out.length:Int) out r_8 r_9 r_10 r_11)
     else Il (Ec (ch:Int) (n:Int) p q) (ch:Int) (n:Int) p (a:Int) (out.length:Int) out r_4 r_5 r_6 r_7)=
     Il (Ec (ch:Int) (n:Int) p q) (ch:Int) (n:Int) p (a:Int) (out.length:Int) out ((now ch out).1:Int) ((now ch out).2.1:Int) (now ch out).2.2.1 (now ch out).2.2.2:=by
    rw[Ma,Aa]
    by_cases hc:ch≤out.length
    ·simp only
     rw[if_pos (by rw[Cu];simp;omega),Ca0 ch out h1 h6 (by omega),Aa];rfl
    ·have e:now ch out=Bpd:=by rw[now,Nat.mod_eq_of_lt (by omega),Bpy ch out _ _ (Nat.le_refl _) (by omega)]
     simp only
     rw[if_neg (by rw[Cu];simp;omega),e];rfl
   have hd:=Cc3 (Bbg p a (win N a) (by omega)) 0 (now ch out).1 (now ch out).2.1 (now ch out).2.2.1 (now ch out).2.2.2 (Awr ch out _ _).1 (Awr ch out _ _).2.1
   have ecode:dgS (Nt p a (win N a)) (win N a) 0 (now ch out).1 (now ch out).2.1=Kl ch p N a out:=rfl
   rw[if_pos (by rw[Ae];simp;omega),hpre,Il,Ael,e8,ew,Bq1 p (N:Int) a _ (by omega) (by omega) (by omega),Aa]
   simp only
   refine Eq.trans (congrArg (fun o=>Option.bind o _) hd) ?_
   rw[Aa,ecode,Wl]
   by_cases he:(Kl ch p N a out).2.2≠0
   ·rw[if_pos he,if_pos (by rw[Ah];simpa using he),if_pos he]
   ·have he0:(Kl ch p N a out).2.2=0:=by simpa using he
    have hok:=Aye he0
    have ih:=Bxm hN hN2 h1 h6 hn j (a+(Kl ch p N a out).2.1.toNat) q (out++[(Kl ch p N a out).1]) (by simp;omega) (by omega) (by omega)
    have hx:=Bl7 he0
    rw[List.length_append,List.length_singleton]at ih
    rw[if_neg he]
    generalize Kl ch p N a out=R at*
    obtain⟨v,nx,e⟩:=R
    simp only at*
    rw[if_neg (by rw[Ah];simpa using he),Ce (by simp;omega),Aa,Ag (by omega) (by omega),Ag (by omega) (by omega),hx]
    exact ih
end
theorem Bo2{ch:Nat}{p:List UInt8}{N:Nat}:∀(j a:Nat) (out:List UInt32),a≤N→(Wl ch p N j a out).2.1≤N∧(Wl ch p N j a out).1.length≤out.length+j∧((Wl ch p N j a out).2.2=0→(Wl ch p N j a out).1.length=out.length+j)
 |0,a,out,h=>⟨h,Nat.le_refl _,fun _=>rfl⟩
 |j+1,a,out,h=>by
  rw[Wl]
  split
  ·rename_i he
   exact⟨h,by simp,fun e=>absurd e he⟩
  ·rename_i he
   have hok:=Aye (ch:=ch) (p:=p) (N:=N) (a:=a) (out:=out) (by simpa using he)
   have hw:a+win N a≤N:=by unfold win;omega
   have ih:=Bo2 (ch:=ch) (p:=p) (N:=N) j (a+(Kl ch p N a out).2.1.toNat) (out++[(Kl ch p N a out).1]) (by omega)
   rw[List.length_append,List.length_singleton]at ih
   exact⟨ih.1,by omega,fun e=>by have:=ih.2.2 e;omega⟩
theorem Bsa(ch n:Int)(b:List UInt8)(N:Int):Ri ch n b N 0 (List.replicate 6 ((0:Int),(0:Int),(0:UInt64),(0:UInt64),()))=Zh ch n b N (List.replicate 6 ((10:Int),(10:Int),(16384:UInt64),(16384:UInt64),())):=by
 have e:FUEL=(FUEL-7)+1+1+1+1+1+1+1:=by have:=Al;omega
 rw[Ri,e]
 rfl
theorem values_eq{p:List UInt8}{N ch n:Nat}(hp:okB p N)(h1:1≤ch)(h6:ch≤6)(hn:n*ch≤4000):Ab2 (ch:Int) (n:Int) p (N:Int)=
  some (if(Wl ch p N (n*ch) 0 []).2.2≠0 then([],0,(Wl ch p N (n*ch) 0 []).2.2)else((Wl ch p N (n*ch) 0 []).1,((Wl ch p N (n*ch) 0 []).2.1:Int),0)):=by
 have h:=Bsp hp h1 h6 hn (n*ch) 0 FUEL [] (by simp) (by have:=Al;omega) (by omega)
 rw[Ab2,Acb,Bsa]
 exact h
theorem Bnh(p:List UInt8)(x:List UInt32)(N:Nat)(hN:N=8*p.length)(hN2:N≤330000):∀(j a q:Nat),a+j=N→j<q→Io p x q (a:Int)=some (x,if Be p a j=0 then 0 else 12)
 |0,a,q+1,ha,_=>by
  have e8:Au (8:Int) (Ac p)=(N:Int):=by rw[Ac,Fb (by omega) (by omega)];omega
  rw[Io,Ud,e8,if_neg (by rw[Ae];simp;omega),Be,if_pos rfl];rfl
 |j+1,a,q+1,ha,hq=>by
  have e8:Au (8:Int) (Ac p)=(N:Int):=by rw[Ac,Fb (by omega) (by omega)];omega
  have hb:=Yk p a
  rw[Io,Ud,e8,if_pos (by rw[Ae];simp;omega),Bd6 p _ a (by omega) (by omega),Aa,Be]
  by_cases h:Fh p a=0
  ·rw[if_neg (by rw[Ah];simp[h]),Ag (by omega) (by omega),h]
   have ih:=Bnh p x N hN hN2 j (a+1) q (by omega) (by omega)
   rw[show((a:Int)+1)=((a+1:Nat):Int) by omega,ih]
   congr 2
   by_cases hv:Be p (a+1) j=0
   ·rw[if_pos hv,if_pos (by omega)]
   ·rw[if_neg hv,if_neg (by omega)]
  ·rw[if_pos (by rw[Ah];simp;omega),if_neg (by omega)]
theorem Bxc{p:List UInt8}{N ch n:Nat}(hN:N=8*p.length)(hN2:N≤330000)(h1:1≤ch)(h6:ch≤6)(hn:n*ch≤4000):Adv (ch:Int) (n:Int) p=
  some (if(Wl ch p N (n*ch) 0 []).2.2≠0 then((Wl ch p N (n*ch) 0 []).1,(Wl ch p N (n*ch) 0 []).2.2)else
   ((Wl ch p N (n*ch) 0 []).1,if 7<N-(Wl ch p N (n*ch) 0 []).2.1∨Be p (Wl ch p N (n*ch) 0 []).2.1 (N-(Wl ch p N (n*ch) 0 []).2.1)≠0 then 12 else 0)):=by
 have h:=Bxm hN hN2 h1 h6 hn (n*ch) 0 FUEL [] (by simp) (by have:=Al;omega) (by omega)
 have hat:=(Bo2 (ch:=ch) (p:=p) (N:=N) (n*ch) 0 [] (by omega)).1
 have e8:Au (8:Int) (Ac p)=(N:Int):=by rw[Ac,Fb (by omega) (by omega)];omega
 rw[Adv,Aia]
 refine Eq.trans h ?_
 generalize Wl ch p N (n*ch) 0 []=V at*
 obtain⟨v,a,e⟩:=V
 simp only at*
 by_cases he:e≠0
 ·rw[if_pos he,if_pos he]
 ·rw[if_neg he,if_neg he,Tr,Aev,e8,Az (by omega) (by omega)]
  by_cases h7:7<N-a
  ·rw[if_pos (by rw[Ak];simp;omega),if_pos (.inl h7)]
  ·rw[if_neg (by rw[Ak];simp;omega),Aet,Bnh p v N hN hN2 (N-a) a FUEL (by omega) (by have:=Al;omega)]
   by_cases hv:Be p a (N-a)=0
   ·rw[if_pos hv,if_neg (by omega)]
   ·rw[if_neg hv,if_pos (.inr hv)]
end Go.Pl
set_option linter.unusedVariables false
set_option linter.unusedSimpArgs false
namespace Go.Pl
open Go Go.Lv
theorem Bo7(n:Int):(GI.ofZ n:Int32)=Int32.ofInt n:=rfl
theorem An8(a:Int32):GI.toZ a=a.toInt:=rfl
theorem Arb(a b:Int32):Ad a b=a+b:=by
 rw[Ad,An8,An8,Bo7,Int32.ofInt_add,Int32.ofInt_toInt,Int32.ofInt_toInt]
theorem Am0(a b:Int32):Aj a b=a-b:=by
 rw[Aj,An8,An8,Bo7,Int32.ofInt_sub,Int32.ofInt_toInt,Int32.ofInt_toInt]
theorem Bxb(a b:Int32):geq a b=(a==b):=by
 rw[geq,An8,An8,Bool.eq_iff_iff];simp[Int32.toInt_inj]
def sel(p:Nat→Bool)(a b:List Int32):List Int32:=(List.range a.length).map fun k=>if p k=true then a.getD k 0 else b.getD k 0
section
variable {p q:Nat→Bool} {a b:List Int32}
theorem Af7:(sel p a b).length=a.length:=by simp[sel]
theorem Hn{k:Nat}(h:k<a.length):a.getD k 0=a[k]:=by simp[List.getD_eq_getElem?_getD,h]
theorem Qx{k:Nat}(h:k<(sel p a b).length):(sel p a b)[k]=if p k=true then a.getD k 0 else b.getD k 0:=by simp[sel]
theorem Ys{k:Nat}(h:k<a.length):getI (sel p a b) (k:Int)=some (if p k=true then a.getD k 0 else b.getD k 0):=by
 rw[Bm (by rw[Af7];exact h),Qx]
theorem Ta(h:∀k,k<a.length→p k=q k):sel p a b=sel q a b:=by
 apply List.map_congr_left
 intro k hk
 rw[h k (List.mem_range.1 hk)]
theorem Atc{k:Nat}(h:k<a.length):Jj (sel p a b) (k:Int) (a.getD k 0)=some (sel (fun j=>p j||decide (j=k)) a b):=by
 rw[Qj _ (by rw[Af7];exact h)]
 congr 1
 apply List.ext_getElem (by simp[Af7])
 intro i h1 h2
 rw[List.getElem_set,Qx,Qx]
 by_cases hi:k=i
 ·subst hi;simp
 ·have:¬i=k:=fun e=>hi e.symm
  simp[hi,this]
theorem Ays(h:∀k,k<a.length→p k=true):sel p a b=a:=by
 apply List.ext_getElem (by simp[Af7])
 intro i h1 h2
 rw[Qx,if_pos (h i h2),Hn h2]
theorem Aw1(hl:b.length=a.length)(h:∀k,k<a.length→p k=false):sel p a b=b:=by
 apply List.ext_getElem (by simp[Af7,hl])
 intro i h1 h2
 rw[Qx,h i (by omega)]
 simp[List.getD_eq_getElem?_getD,h2]
end
end Go.Pl
set_option linter.unusedVariables false
set_option linter.unusedSimpArgs false
namespace Go.Pl
open Go Go.Lv
theorem Bhe(a b:Int32):Au a b=a*b:=by
 rw[Au,An8,An8,Bo7,Int32.ofInt_mul,Int32.ofInt_toInt,Int32.ofInt_toInt]
theorem Xa(a:Int32): -2147483648≤a.toInt∧a.toInt<2147483648:=⟨a.le_toInt,a.toInt_lt⟩
theorem Dx(a:Int32):(Af a:Int)=a.toInt:=by
 have:=Xa a
 show wrap64 a.toInt=_
 rw[Br]<;>omega
theorem Akm(n:Int):(Af n:Int32)=Int32.ofInt n:=rfl
theorem Caq(x:Int):Int32.ofInt (x %4294967296)=Int32.ofInt x:=by
 apply Int32.toInt_inj.1
 rw[Int32.toInt_ofInt,Int32.toInt_ofInt]
 exact Int.emod_bmod x 4294967296
theorem Bg2(x:Int):Ca x=some (Int32.ofInt x):=by
 have e1:(Af x:UInt64).toNat=(x %18446744073709551616).toNat:=by
  rw[Bti,UInt64.toNat_ofNat',Nat.mod_eq_of_lt (by omega)]
 have e2:(Af (Af x:UInt64):UInt32).toNat=(x %4294967296).toNat:=by
  have e:(Af (Af x:UInt64):UInt32)=UInt32.ofNat (Af x:UInt64).toNat:=by simp only[Af,Hw,Ea]
  rw[e,UInt32.toNat_ofNat',e1]
  show(x %18446744073709551616).toNat %4294967296=_
  omega
 have e3:(Af (Af (Af x:UInt64):UInt32):Int32)=Int32.ofInt ((Af (Af x:UInt64):UInt32).toNat:Int):=rfl
 rw[Ca,e3,e2,←Caq x]
 congr 2;omega
theorem Bcm(a b:Int32):Ca (Ad (Af a:Int) (Af b:Int))=some (a+b):=by
 have:=Xa a
 have:=Xa b
 rw[Dx,Dx,Ag (by omega) (by omega),Bg2,Int32.ofInt_add,Int32.ofInt_toInt,Int32.ofInt_toInt]
theorem Cdg(a b:Int32):Ca (Au (Af a:Int) (Af b:Int))=some (a*b):=by
 have ha:=Xa a
 have hb:=Xa b
 have h1: -9223372036854775808≤a.toInt*b.toInt∧a.toInt*b.toInt≤9223372036854775807:=by
  have h2:(a.toInt*b.toInt).natAbs≤2147483648*2147483648:=by
   rw[Int.natAbs_mul];exact Nat.mul_le_mul (by omega) (by omega)
  omega
 rw[Dx,Dx,Fb h1.1 h1.2,Bg2,Int32.ofInt_mul,Int32.ofInt_toInt,Int32.ofInt_toInt]
def OkF(s:Int)(t p:List Int32):Prop:=(s=9∨s=10)∧t.length=16∧p.length=16
theorem Bdv{s:Int}{t p:List Int32}(h:OkF s t p):Af3 s t p=some 0:=by
 obtain⟨rfl|rfl,_,_⟩:=h<;>rfl
theorem g32{l:List Int32}{k:Nat}(h:k<l.length):getI l (k:Int)=some (l.getD k 0):=by
 rw[Bm h];simp[List.getD_eq_getElem?_getD,h]
def Axl(t p:List Int32):Nat→Int32
 |0=>0
 |i+1=>Axl t p i+t.getD i 0*p.getD i 0
def half(s:Int):Int32:=if s=9 then 256 else 512
def gF(s:Int)(t p:List Int32):Int32:=Int32.ofInt ((half s+Axl t p 16).toInt.fdiv (if s=9 then 512 else 1024))
theorem Bl3{s:Int}{t p:List Int32}(h:OkF s t p):∀(j i q:Nat),i+j=16→j<q→Tg t s p q (half s+Axl t p i) (i:Int)=some (gF s t p,0)
 |0,i,q+1,hi,_=>by
  obtain rfl:i=16:=by omega
  have hs:=h.1
  rw[Tg,Agi,if_neg (by rw[Ae];simp),Aqf,Azw,Ba (by rw[Cu];simp;omega),Aa]
  obtain rfl|rfl:=hs<;>rfl
 |j+1,i,q+1,hi,hq=>by
  obtain⟨hs,ht,hp⟩:=h
  rw[Tg,Agi,if_pos (by rw[Ae];simp;omega),g32 (by omega),Aa,g32 (by omega),Aa,Aa,Ag (b:=1) (by omega) (by omega),Arb,Bhe,Int32.add_assoc]
  exact Bl3 ⟨hs,ht,hp⟩ j (i+1) q (by omega) (by omega)
theorem Bqd{s:Int}{t p:List Int32}(h:OkF s t p):All s t p=some (gF s t p,0):=by
 have hs:=h.1
 have h1:=Bl3 h 16 0 FUEL (by omega) (by have:=Al;omega)
 have e:Cp (1:Int32) (GI.toZ (Aj s (1:Int))).toNat=half s+Axl t p 0:=by
  obtain rfl|rfl:=hs<;>rfl
 rw[All,Ap5,Bdv h,Aa,if_neg (by rw[Ah];simp),Ba (by rw[Cu,Az (by omega) (by omega)];simp;omega),Aa,Ap7,e]
 exact h1
theorem Bka{s:Int}{t p:List Int32}(ht:t.length=16)(hp:p.length=16){g:Int32}(hg:Axl t p 16=g):∀(j i q:Nat),i+j=16→j<q→Kv s t p q (Axl t p i).toInt (i:Int)=some g
 |0,i,q+1,hi,_=>by
  obtain rfl:i=16:=by omega
  rw[Kv,Xw,if_neg (by rw[Ae];simp),Ajw,Ajk,Akm,Int32.ofInt_toInt,hg]
 |j+1,i,q+1,hi,hq=>by
  have ih:=Bka (s:=s) ht hp hg j (i+1) q (by omega) (by omega)
  rw[Axl]at ih
  rw[Kv,Xw,if_pos (by rw[Ae];simp;omega),g32 (by omega),g32 (by omega),Aa,Aa,Aa,Aa,Cdg,Aa,←Dx (Axl t p i),Bcm,Aa,Dx,Ag (by omega) (by omega)]
  exact ih
theorem Ce4{s:Int}{t p:List Int32}(h:OkF s t p):Aqs s t p=some (Axl t p 16):=
 Bka h.2.1 h.2.2 rfl 16 0 FUEL (by omega) (by have:=Al;omega)
theorem Bzi(x n:Int)(hn:n=512∨n=1024∨n=16∨n=32):(if x.tmod n<0 then x.tdiv n-1 else x.tdiv n)=x.fdiv n:=by
 have hs:n.sign=1:=by obtain rfl|rfl|rfl|rfl:=hn<;>rfl
 rw[Int.tdiv_eq_ediv,Int.tmod_eq_emod,hs,Int.fdiv_eq_ediv_of_nonneg _ (by omega)]
 by_cases h:0≤x∨n∣x
 ·rw[if_pos h,if_pos h]
  obtain rfl|rfl|rfl|rfl:=hn<;>(rw[if_neg (by omega)];omega)
 ·rw[if_neg h,if_neg h]
  obtain rfl|rfl|rfl|rfl:=hn<;>(rw[if_pos (by omega)];omega)
theorem Bif(x n:Int)(hn:n=512∨n=1024∨n=16∨n=32)(h: -1000000000000≤x)(h':x≤1000000000000): -1000000000000≤x.tdiv n∧x.tdiv n≤1000000000000:=by
 have hs:n.sign=1:=by obtain rfl|rfl|rfl|rfl:=hn<;>rfl
 rw[Int.tdiv_eq_ediv,hs]
 by_cases h:0≤x∨n∣x
 ·rw[if_pos h];obtain rfl|rfl|rfl|rfl:=hn<;>omega
 ·rw[if_neg h];obtain rfl|rfl|rfl|rfl:=hn<;>omega
theorem Cln(x n:Int)(hn:n=512∨n=1024∨n=16∨n=32)(h: -1000000000000≤x)(h':x≤1000000000000):Bt x n=x.tdiv n:=by
 have:=Bif x n hn h h'
 rw[Afj,Br (by omega) (by omega)]
theorem Br0(x n:Int)(hn:n=512∨n=1024∨n=16∨n=32)(h: -1000000000000≤x)(h':x≤1000000000000):
  (if(Bn (Fc x n) (0:Int))=true then some (Af (Aj (Bt x n) (1:Int)):Int32)else some (Af (Bt x n):Int32))=some (Int32.ofInt (x.fdiv n)):=by
 have hb:=Bif x n hn h h'
 rw[Ae,Fc,Cln x n hn h h',Az (by omega) (by omega),Akm,Akm,←Bzi x n hn]
 by_cases hx:x.tmod n<0
 ·rw[if_pos (by simpa using hx),if_pos hx]
 ·rw[if_neg (by simpa using hx),if_neg hx]
theorem Cgo{s:Int}{t p:List Int32}(h:OkF s t p):Ad2 s t p=some (gF s t p):=by
 obtain⟨hs,ht,hp⟩:=h
 have h:OkF s t p:=⟨hs,ht,hp⟩
 have hx:=Xa (Axl t p 16+half s)
 have key:∀n:Int,(n=512∨n=1024)→(half s).toInt=n/2→gF s t p=Int32.ofInt ((half s+Axl t p 16).toInt.fdiv n)→Wc s t p n=some (gF s t p):=by
  intro n hn hh hg
  have e2:Bt n (2:Int)=(half s).toInt:=by rw[hh];obtain rfl|rfl:=hn<;>rfl
  rw[Wc,Agz,Ce4 h,Aa,e2,←Dx (half s),Bcm,Aa,Ba (by rw[Ah];simp;omega),Aa,Aa,Dx,Br0 _ n (by omega) (by omega) (by omega),hg,Int32.add_comm]
 rw[Ad2,Ahh]
 obtain rfl|rfl:=hs
 ·rw[if_pos (by rw[As];rfl)];exact key 512 (.inl rfl) rfl rfl
 ·rw[if_neg (by rw[As];decide)];exact key 1024 (.inr rfl) rfl rfl
def stp(i:Nat):Int32:=if i=0 then 4 else if i<4 then 2 else 1
def sg(x:Int32):Int32:=if x.toInt<0 then -1 else if 0<x.toInt then 1 else 0
def lrn(t p:List Int32)(w:Int32):List Int32:=(List.range 16).map fun i=>t.getD i 0+stp i*sg (p.getD i 0)*sg w
theorem Ab3(t p:List Int32)(w:Int32):(lrn t p w).length=16:=by simp[lrn]
theorem Bn0(t p:List Int32)(w:Int32){i:Nat}(h:i<16):(lrn t p w).getD i 0=t.getD i 0+stp i*sg (p.getD i 0)*sg w:=by
 rw[Hn (by rw[Ab3];exact h)];simp[lrn]
theorem step_eq(i:Nat):Are (i:Int)=some (stp i):=by
 rw[Are,stp]
 by_cases h:i=0
 ·rw[if_pos (by rw[As];simp[h]),if_pos h]
 ·rw[if_neg (by rw[As];simp;omega),if_neg h]
  by_cases h2:i<4
  ·rw[if_pos (by rw[Ae];simp;omega),if_pos h2]
  ·rw[if_neg (by rw[Ae];simp;omega),if_neg h2]
theorem Bzw(i:Nat):Acr (i:Int)=some (stp i):=by
 rw[Acr,stp]
 by_cases h:i=0
 ·rw[if_pos (by rw[As];simp[h]),if_pos h]
 ·rw[if_neg (by rw[As];simp;omega),if_neg h]
  by_cases h2:i<4
  ·rw[if_pos (by rw[Bno];simp;omega),if_pos h2]
  ·rw[if_neg (by rw[Bno];simp;omega),if_neg h2]
theorem Bnq(a b:Int32):Bn a b=decide (a.toInt<b.toInt):=rfl
theorem Bue(a b:Int32):Fi a b=decide (b.toInt<a.toInt):=rfl
theorem sign_eq(x:Int32):Uh x=some (sg x):=by
 rw[Uh,sg,Bnq,Bue,show(0:Int32).toInt=0 from rfl]
 by_cases h:x.toInt<0
 ·rw[if_pos (by simpa using h),if_pos h]
 ·rw[if_neg (by simpa using h),if_neg h]
  by_cases h2:0<x.toInt
  ·rw[if_pos (by simpa using h2),if_pos h2]
  ·rw[if_neg (by simpa using h2),if_neg h2]
theorem Bxq:sg 0=0:=rfl
theorem toInt_ne{x:Int32}(h:x≠0):x.toInt≠0:=fun e=>h (Int32.toInt_inj.1 (by rw[e];rfl))
theorem Bpe{x:Int32}(h:x.toInt<0):sg x= -1:=by rw[sg,if_pos h]
theorem Bnu{x:Int32}(h:x≠0)(h2:¬x.toInt<0):sg x=1:=by
 have:=toInt_ne h
 rw[sg,if_neg h2,if_pos (by omega)]
theorem Ayb(i:Nat):stp i=4∨stp i=2∨stp i=1:=by
 unfold stp
 by_cases h:i=0
 ·rw[if_pos h];exact .inl rfl
 ·rw[if_neg h];split;exact .inr (.inl rfl);exact .inr (.inr rfl)
theorem Cad{x w:Int32}(hx:x≠0)(hw:w≠0)(h:(x.toInt<0)=(w.toInt<0))(i:Nat):stp i*sg x*sg w=stp i:=by
 by_cases h1:x.toInt<0
 ·rw[Bpe h1,Bpe (by rw[←h];exact h1)]
  obtain e|e|e:=Ayb i<;>rw[e]<;>decide
 ·rw[Bnu hx h1,Bnu hw (by rw[←h];exact h1)]
  obtain e|e|e:=Ayb i<;>rw[e]<;>decide
theorem Bvx{x w:Int32}(hx:x≠0)(hw:w≠0)(h:¬(x.toInt<0)=(w.toInt<0))(i:Nat)(a:Int32):a+stp i*sg x*sg w=a-stp i:=by
 have key:stp i*sg x*sg w=-stp i:=by
  by_cases h1:x.toInt<0
  ·have h2:¬w.toInt<0:=fun h2=>h (propext ⟨fun _=>h2,fun _=>h1⟩)
   rw[Bpe h1,Bnu hw h2]
   obtain e|e|e:=Ayb i<;>rw[e]<;>decide
  ·have h2:w.toInt<0:=Decidable.by_contra fun h2=>h (propext ⟨fun h3=>absurd h3 h1,fun h3=>absurd h3 h2⟩)
   rw[Bnu hx h1,Bpe h2]
   obtain e|e|e:=Ayb i<;>rw[e]<;>decide
 rw[key,Int32.sub_eq_add_neg]
def Bcv(i:Nat):Nat→Bool:=fun j=>decide (j<i)
theorem Bjj{a b:List Int32}{i:Nat}(h:i<a.length):Jj (sel (Bcv i) a b) (i:Int) (a.getD i 0)=some (sel (Bcv (i+1)) a b):=by
 rw[Atc h]
 congr 1
 apply Ta
 intro k _
 rw[Bool.eq_iff_iff]
 simp only[Bcv,Bool.or_eq_true,decide_eq_true_eq];omega
theorem Bzc{a b:List Int32}{i:Nat}(e:a.getD i 0=b.getD i 0):sel (Bcv i) a b=sel (Bcv (i+1)) a b:=by
 apply List.map_congr_left
 intro k _
 simp only[Bcv,decide_eq_true_eq]
 by_cases h1:k<i
 ·rw[if_pos h1,if_pos (by omega)]
 ·by_cases h2:k=i
  ·subst h2;rw[if_neg h1,if_pos (by omega),e]
  ·rw[if_neg h1,if_neg (by omega)]
theorem Bq5{a b:List Int32}{i:Nat}(h:i<a.length):getI (sel (Bcv i) a b) (i:Int)=some (b.getD i 0):=by
 rw[Ys h,if_neg (by simp[Bcv])]
theorem Bmi{s:Int}{t p:List Int32}{w:Int32}(hw:w≠0)(ht:t.length=16)(hp:p.length=16):∀(j i q:Nat),i+j=16→j<q→Tj w p s q (i:Int) (sel (Bcv i) (lrn t p w) t)=some (s,lrn t p w,p,0)
 |0,i,q+1,hi,_=>by
  obtain rfl:i=16:=by omega
  rw[Tj,Agf,if_neg (by rw[Ae];simp),Ays (fun k hk=>by rw[Ab3]at hk;simpa [Bcv]using hk)];rfl
 |j+1,i,q+1,hi,hq=>by
  have hl:=Ab3 t p w
  have hg:=Bn0 t p w (i:=i) (by omega)
  rw[Tj,Agf,if_pos (by rw[Ae];simp;omega),g32 (by omega),Aa,Ag (b:=1) (by omega) (by omega),Bq5 (by omega),step_eq]
  simp only[Aa]
  rw[Arb,Am0,Bxb,Bnq,Bnq,show(0:Int32).toInt=0 from rfl]
  have ih:=Bmi (s:=s) hw ht hp j (i+1) q (by omega) (by omega)
  by_cases hx:p.getD i 0=0
  ·rw[if_pos (by rw[hx];rfl),Bzc (by rw[hg,hx,Bxq,Int32.mul_zero,Int32.zero_mul,Int32.add_zero])]
   exact ih
  ·rw[if_neg (by simpa using hx)]
   by_cases hs:((p.getD i 0).toInt<0)=(w.toInt<0)
   ·rw[if_pos (by rw[beq_iff_eq];simp only[hs]),show t.getD i 0+stp i=(lrn t p w).getD i 0 by rw[hg,Cad hx hw hs],Bjj (by omega),Aa]
    exact ih
   ·rw[if_neg (by rw[beq_iff_eq,decide_eq_decide];exact fun h=>hs (propext h)),show t.getD i 0-stp i=(lrn t p w).getD i 0 by rw[hg,Bvx hx hw hs],Bjj (by omega),Aa]
    exact ih
theorem Cdd{t:List Int32}(p:List Int32)(ht:t.length=16):lrn t p 0=t:=by
 apply List.ext_getElem (by rw[Ab3,ht])
 intro i h1 h2
 have:=Bn0 t p 0 (i:=i) (by omega)
 rw[Hn h1,Hn h2]at this
 rw[this,Bxq,Int32.mul_zero,Int32.add_zero]
theorem Bp7{s:Int}{t p:List Int32}(h:OkF s t p)(w:Int32):Atd s t p w=some (s,lrn t p w,p,0):=by
 rw[Atd,Apk,Bdv h,Aa,if_neg (by rw[Ah];simp),Bxb]
 by_cases hw:w=0
 ·rw[if_pos (by simpa using hw),hw,Cdd p h.2.1]
 ·have h1:=Bmi (s:=s) hw h.2.1 h.2.2 16 0 FUEL (by omega) (by have:=Al;omega)
  rw[Aw1 (by rw[Ab3,h.2.1]) (fun k _=>by simp[Bcv])]at h1
  rw[if_neg (by simpa using hw)]
  exact h1
theorem Bc9{s:Int}{t p:List Int32}{w:Int32}(ht:t.length=16)(hp:p.length=16):∀(j i q:Nat),i+j=16→j<q→Gn w s p q (i:Int) (sel (Bcv i) (lrn t p w) t)=some (s,lrn t p w,p)
 |0,i,q+1,hi,_=>by
  obtain rfl:i=16:=by omega
  rw[Gn,Qk,if_neg (by rw[Ae];simp),Ays (fun k hk=>by rw[Ab3]at hk;simpa [Bcv]using hk)];rfl
 |j+1,i,q+1,hi,hq=>by
  have hl:=Ab3 t p w
  have hg:=Bn0 t p w (i:=i) (by omega)
  rw[Gn,Qk,if_pos (by rw[Ae];simp;omega),g32 (l:=p) (by omega),Ag (b:=1) (by omega) (by omega),Bq5 (by omega),Bzw,sign_eq w,Aa,Aa,Aa,Aa,Aa,sign_eq,Aa,Aa,Aa,Arb,Bhe,Bhe,←hg,Bjj (by omega),Aa]
  exact Bc9 ht hp j (i+1) q (by omega) (by omega)
theorem Bvd{s:Int}{t p:List Int32}(h:OkF s t p)(w:Int32):Agt s t p w=some (s,lrn t p w,p):=by
 have h1:=Bc9 (s:=s) (w:=w) h.2.1 h.2.2 16 0 FUEL (by omega) (by have:=Al;omega)
 rw[Aw1 (by rw[Ab3,h.2.1]) (fun k _=>by simp[Bcv])]at h1
 exact h1
theorem Cgw{p:List Int32}(h:p.length=16):∃a0 a1 a2 a3 a4 a5 a6 a7 a8 a9 b0 b1 b2 b3 b4 b5,p=[a0,a1,a2,a3,a4,a5,a6,a7,a8,a9,b0,b1,b2,b3,b4,b5]:=by
 match p,h with
 |[a0,a1,a2,a3,a4,a5,a6,a7,a8,a9,b0,b1,b2,b3,b4,b5],_=>exact⟨a0,a1,a2,a3,a4,a5,a6,a7,a8,a9,b0,b1,b2,b3,b4,b5,rfl⟩
theorem Bxj{s:Int}{t p:List Int32}(h:OkF s t p)(x:Int32):Ax8 s t p x=some (s,t,x::p.take 15,0):=by
 obtain⟨hs,ht,hp⟩:=h
 rw[Ax8,Aj3,Bdv ⟨hs,ht,hp⟩,Aa,if_neg (by rw[Ah];simp),show vwI (16:Int) 1 16=some ()from rfl,Aa,show vwI (16:Int) 0 16=some ()from rfl,Aa,As3,Bcj]
 obtain⟨a0,a1,a2,a3,a4,a5,a6,a7,a8,a9,b0,b1,b2,b3,b4,b5,rfl⟩:=Cgw hp
 rfl
def shf(p:List Int32)(i:Nat):List Int32:=(List.range 16).map fun k=>if k≤i then p.getD k 0 else p.getD (k-1) 0
theorem Yx(p:List Int32)(i:Nat):(shf p i).length=16:=by simp[shf]
theorem Chf(p:List Int32)(i k:Nat)(h:k<16):(shf p i).getD k 0=if k≤i then p.getD k 0 else p.getD (k-1) 0:=by
 rw[Hn (by rw[Yx];exact h)];simp[shf]
theorem Ch3(p:List Int32)(i:Nat)(h:i+1<16):Jj (shf p (i+1)) ((i+1:Nat):Int) (p.getD i 0)=some (shf p i):=by
 rw[Qj _ (by rw[Yx];exact h)]
 congr 1
 apply List.ext_getElem (by simp[Yx])
 intro k h1 h2
 rw[Yx]at h2
 rw[List.getElem_set]
 simp only[shf,List.getElem_map,List.getElem_range]
 by_cases hk:i+1=k
 ·subst hk;rw[if_pos rfl,if_neg (by omega)];rfl
 ·rw[if_neg hk]
  by_cases h3:k≤i
  ·rw[if_pos (by omega),if_pos h3]
  ·rw[if_neg (by omega),if_neg h3]
theorem Bfo(s:Int)(t p:List Int32)(x:Int32)(hp:p.length=16):∀(i q:Nat),i<16→i<q→Hi x s t q (i:Int) (shf p i)=some (s,t,x::p.take 15)
 |0,q+1,_,_=>by
  have hg:getI (shf p 0) (0:Int)=some ((shf p 0).getD 0 0):=g32 (l:=shf p 0) (k:=0) (by rw[Yx];omega)
  have hset:Jj (shf p 0) (0:Int) x=some ((shf p 0).set 0 x):=Qj (l:=shf p 0) (n:=0) x (by rw[Yx];omega)
  rw[Hi,Rk,if_neg (by rw[Ak];simp),Ad6,Ac3,hg,Aa,hset,Aa]
  congr 3
  apply List.ext_getElem (by simp[Yx,hp])
  intro k h1 h2
  rw[List.length_set,Yx]at h1
  rw[List.getElem_set]
  cases k with
  |zero=>rw[if_pos rfl];rfl
  |succ k=>
   rw[if_neg (by omega)]
   simp only[shf,List.getElem_map,List.getElem_range,List.getElem_cons_succ,List.getElem_take]
   rw[if_neg (by omega),Nat.add_sub_cancel,Hn (by omega)]
 |i+1,q+1,hi,hq=>by
  have hg:=g32 (l:=shf p (i+1)) (k:=i) (by rw[Yx];omega)
  rw[Chf p (i+1) i (by omega),if_pos (by omega)]at hg
  have e1:Aj ((i+1:Nat):Int) (1:Int)=(i:Int):=by rw[Az (by omega) (by omega)];omega
  have hg2:=g32 (l:=shf p (i+1)) (k:=i+1) (by rw[Yx];omega)
  rw[Hi,Rk,if_pos (by rw[Ak];simp),e1,hg,Aa,Aa,hg2,Aa,Ch3 p i hi,Aa]
  exact Bfo s t p x hp i q (by omega) (by omega)
theorem Ca9{s:Int}{t p:List Int32}(hp:p.length=16)(x:Int32):Ajr s t p x=some (s,t,x::p.take 15):=by
 have h:=Bfo s t p x hp 15 FUEL (by omega) (by have:=Al;omega)
 have e:shf p 15=p:=by
  apply List.ext_getElem (by rw[Yx,hp])
  intro k h1 h2
  rw[Yx]at h1
  simp only[shf,List.getElem_map,List.getElem_range]
  rw[if_pos (by omega),Hn h2]
 rw[e]at h
 exact h
theorem Cb4{s:Int}{t p:List Int32}(h:OkF s t p)(w x:Int32):OkF s (lrn t p w) (x::p.take 15):=⟨h.1,Ab3 _ _ _,by simp[h.2.2]⟩
theorem Cgp{s:Int}{t p:List Int32}(h:OkF s t p)(y:Int32):Axu s t p y=some (y+gF s t p,s,lrn t p y,(y+gF s t p)::p.take 15,0):=by
 rw[Axu,Bqd h,Aa]
 simp only
 rw[if_neg (by rw[Ah];simp),Arb,Amk,Bp7 h,Aa]
 simp only
 rw[Bxj (s:=s) (t:=lrn t p y) (p:=p) ⟨h.1,Ab3 _ _ _,h.2.2⟩,Aa];rfl
theorem Caz{s:Int}{t p:List Int32}(h:OkF s t p)(y:Int32):Vi s t p y=some (y+gF s t p,s,lrn t p y,(y+gF s t p)::p.take 15):=by
 rw[Vi,Cgo h,Aa,Bcm,Aa,Bvd h,Aa]
 simp only
 rw[Ca9 h.2.2,Aa]
def sB(bits:Int):Int:=if bits=16 then 9 else 10
def shB(bits:Int):Int:=if bits=8 then 4 else 5
def BitsOk(bits:Int):Prop:=bits=8∨bits=16∨bits=24
def gs(sh:Int)(last:Int32):Int32:=Af (Bon (Aj (Cp (Af last:Int) sh.toNat) (Af last)) sh.toNat)
theorem Cl7(bits:Int):sB bits=9∨sB bits=10:=by unfold sB;split<;>simp
theorem Chx(bits:Int):0≤shB bits:=by unfold shB;split<;>omega
theorem Cmy{bits:Int}(h:BitsOk bits)(t:List Int32):Bdc bits t=some (sB bits,t,List.replicate 16 0,0):=by
 obtain rfl|rfl|rfl:=h<;>rfl
theorem Ckb{bits:Int}(h:BitsOk bits):Axr bits=some (shB bits,0):=by
 obtain rfl|rfl|rfl:=h<;>rfl
theorem Cj4{sh:Int}(h:0≤sh)(last:Int32):Aod sh last=some (gs sh last):=by
 rw[Aod,Ba (by rw[Cu];simpa using h),Aa,Aa];rfl
theorem Cdm{bits:Int}(h:BitsOk bits)(last:Int32):Vh bits last=some (gs (shB bits) last,0):=by
 rw[Vh,Ckb h,Aa]
 simp only
 rw[if_neg (by rw[Ah];simp),Cj4 (Chx bits),Aa]
theorem Blc{bits:Int}(h:BitsOk bits)(last:Int32)(t p:List Int32):Vx bits last (sB bits) t p=some 0:=by
 rw[Vx,Cmy h,Aa]
 simp only
 rw[if_neg (by rw[Ah,Ah];simp)]
theorem Cae{bits:Int}(h:BitsOk bits){t p:List Int32}(hF:OkF (sB bits) t p)(last y:Int32):
  Km bits last (sB bits) t p y=some (y+gF (sB bits) t p+gs (shB bits) last,bits,y+gF (sB bits) t p+gs (shB bits) last,sB bits,lrn t p y,(y+gF (sB bits) t p)::p.take 15,0):=by
 rw[Km,Blc h,Aa,if_neg (by rw[Ah];simp),Cdm h,Aa]
 simp only
 rw[Cgp hF,Aa]
 simp only
 rw[Arb]
theorem Bd3(sh:Int)(hs:sh=4∨sh=5)(last:Int32):Pe sh last=some (gs sh last):=by
 have hl:=Xa last
 have key:∀n:Int,n=16∨n=32→gs sh last=Int32.ofInt (((n-1)*last.toInt).fdiv n)→Rt last n=some (gs sh last):=by
  intro n hn hg
  have e:Au (Aj n (1:Int)) (Af last:Int)=(n-1)*last.toInt:=by
   obtain rfl|rfl:=hn<;>(rw[Dx,Az (by omega) (by omega),Fb (by omega) (by omega)])
  rw[Rt,Acp,Ba (by rw[Ah];simp;omega),Aa,Aa,e,Br0 _ n (by omega) (by obtain rfl|rfl:=hn<;>omega) (by obtain rfl|rfl:=hn<;>omega),hg]
 rw[Pe,Adp]
 obtain rfl|rfl:=hs
 ·rw[if_neg (by rw[As];decide)]
  refine key 16 (.inl rfl) ?_
  have e:Cp (Af last:Int) (4:Int).toNat=last.toInt*16:=by
   rw[Dx];show wrap64 (last.toInt*2^4)=_;rw[Br]<;>omega
  rw[gs,e,Dx,Az (by omega) (by omega),Akm]
  show Int32.ofInt ((last.toInt*16-last.toInt).fdiv 16)=_
  congr 2;omega
 ·rw[if_pos (by rw[As];rfl)]
  refine key 32 (.inr rfl) ?_
  have e:Cp (Af last:Int) (5:Int).toNat=last.toInt*32:=by
   rw[Dx];show wrap64 (last.toInt*2^5)=_;rw[Br]<;>omega
  rw[gs,e,Dx,Az (by omega) (by omega),Akm]
  show Int32.ofInt ((last.toInt*32-last.toInt).fdiv 32)=_
  congr 2;omega
theorem Cak{bits:Int}(h:BitsOk bits){t p:List Int32}(hF:OkF (sB bits) t p)(last y:Int32):
  Va bits last (sB bits) t p y=some (y+gF (sB bits) t p+gs (shB bits) last,bits,y+gF (sB bits) t p+gs (shB bits) last,sB bits,lrn t p y,(y+gF (sB bits) t p)::p.take 15):=by
 have hb:Xj bits last (sB bits) t p=some (Af (gs (shB bits) last):Int):=by
  rw[Xj]
  obtain rfl|rfl|rfl:=h
  ·rw[if_pos (by rw[As];rfl),Bd3 4 (.inl rfl),Aa];rfl
  ·rw[if_neg (by rw[As];decide),Bd3 5 (.inr rfl),Aa];rfl
  ·rw[if_neg (by rw[As];decide),Bd3 5 (.inr rfl),Aa];rfl
 rw[Va,Caz hF,Aa]
 simp only
 rw[hb,Aa,Bcm,Aa]
theorem Clv{bits:Int}(h:BitsOk bits)(t:List Int32):Art bits t=some (bits,0,sB bits,t,List.replicate 16 0,0):=by
 obtain rfl|rfl|rfl:=h<;>rfl
def Anf(n:UInt32):Int32:=if n.toNat %2=0 then Int32.ofInt ((n.toNat/2:Nat):Int)else Int32.ofInt (-((n.toNat/2:Nat):Int)-1)
theorem Btv(a b:Int32):(Sy a b).toBitVec=a.toBitVec^^^b.toBitVec:=by
 show(Int32.ofInt ((BitVec.ofInt 32 a.toBitVec.toInt^^^BitVec.ofInt 32 b.toBitVec.toInt).toNat:Int)).toBitVec=_
 rw[BitVec.ofInt_toInt,BitVec.ofInt_toInt,Int32.toBitVec_ofInt,BitVec.ofInt_natCast,BitVec.ofNat_toNat,BitVec.setWidth_eq]
theorem Cl0(m:Nat)(h:m<2147483648):Sy (Int32.ofInt (m:Int)) (Int32.ofInt (-1))=Int32.ofInt (-(m:Int)-1):=by
 apply Int32.toBitVec_inj.1
 have e1:(Int32.ofInt (-1)).toBitVec=BitVec.allOnes 32:=by decide
 rw[Btv,e1,BitVec.xor_allOnes,Int32.toBitVec_ofInt,Int32.toBitVec_ofInt]
 apply BitVec.eq_of_toNat_eq
 rw[BitVec.toNat_not,BitVec.toNat_ofInt,BitVec.toNat_ofInt]
 omega
theorem Ccg(n:UInt32):Wu n=some (Anf n):=by
 have hn:=n.toNat_lt
 have e1:(Af (Bi n (GI.toZ (1:UInt64)).toNat):Int32)=Int32.ofInt ((n.toNat/2:Nat):Int):=by
  show Int32.ofInt ((Bi n 1).toNat:Int)=_
  rw[Acz]
 have e2:(Af (Dc n (1:UInt32)):Int32)=Int32.ofInt ((n.toNat %2:Nat):Int):=by
  show Int32.ofInt ((Dc n (1:UInt32)).toNat:Int)=_
  rw[Bbk,UInt32.toNat_and]
  show Int32.ofInt ((n.toNat&&&1:Nat):Int)=_
  rw[Nat.and_one_is_mod]
 rw[Wu,e1,e2,Anf]
 congr 1
 by_cases h:n.toNat %2=0
 ·have e3:Bce (Int32.ofInt ((n.toNat %2:Nat):Int))=Int32.ofInt 0:=by rw[h];decide
  rw[if_pos h,e3]
  apply Int32.toBitVec_inj.1
  rw[Btv,show(Int32.ofInt 0).toBitVec=0#32 from rfl,BitVec.xor_zero]
 ·have e3:Bce (Int32.ofInt ((n.toNat %2:Nat):Int))=Int32.ofInt (-1):=by rw[show n.toNat %2=1 by omega];decide
  rw[if_neg h,e3,Cl0 _ (by omega)]
theorem Cf7(n:UInt32):Adn n=some (Anf n):=by
 have hn:=n.toNat_lt
 have e1:geq (Aa7 n (2:UInt32)) (0:UInt32)=decide (n.toNat %2=0):=by
  rw[Bg6,Bst,Bool.eq_iff_iff]
  simp only[beq_iff_eq,←UInt32.toNat_inj,UInt32.toNat_mod,decide_eq_true_eq];rfl
 rw[Adn,e1,Anf]
 by_cases h:n.toNat %2=0
 ·rw[if_pos (by simpa using h),if_pos h,Bsm];rfl
 ·have e2:(Af n:Int)=(n.toNat:Int):=Bi9 n
  rw[if_neg (by simpa using h),if_neg h,e2,Ag (by omega) (by omega),Bnr,Br (by omega) (by omega),Afj,Int.tdiv_eq_ediv,Akm]
  congr 2
  rw[if_pos (.inr (by omega)),Br (by omega) (by omega)];omega
end Go.Pl
set_option linter.unusedVariables false
set_option linter.unusedSimpArgs false
namespace Go.Pl
open Go Go.Lv
theorem Azq{c:Prop} [Decidable c](h:c):Hu (decide c)=some ():=by rw[decide_eq_true h];rfl
def unV(f:Nat→Int32)(ch:Nat):Nat→Int32
 |0=>if 1<ch then f (ch-1)+Bt (f (ch-2)) (2:Int32)else f (ch-1)
 |j+1=>unV f ch j-f (ch-2-j)
def unm(ch:Nat)(m:List Int32):List Int32:=(List.range m.length).map fun k=>unV (fun i=>m.getD (k-k %ch+i) 0) ch (ch-1-k %ch)
theorem Atm(ch:Nat)(m:List Int32):(unm ch m).length=m.length:=by simp[unm]
theorem Bb7{ch:Nat}{m:List Int32}{a i:Nat}(ha:a %ch=0)(hi:i<ch)(h:a+i<m.length):(unm ch m).getD (a+i) 0=unV (fun i=>m.getD (a+i) 0) ch (ch-1-i):=by
 have hb:(a+i) %ch=i:=by rw[Nat.add_mod,ha,Nat.zero_add,Nat.mod_mod,Nat.mod_eq_of_lt hi]
 rw[Hn (by rw[Atm];exact h)]
 simp only[unm,List.getElem_map,List.getElem_range,hb]
 rw[show a+i-i=a by omega]
section
variable (ch:Nat) (m:List Int32)
theorem Br5(h1:1≤ch)(h6:ch≤6)(hm:m.length %ch=0)(hl2:m.length≤4000):Aqw (ch:Int) m=some 0:=by
 rw[Aqw,if_neg (by simp[Ae,Ak];omega),if_neg (by rw[Ak,Ac];simp;omega),Ba (by rw[Ah];simp;omega),Aa,if_neg]
 rw[Ah,Fc,Ac,←Int.ofNat_tmod,hm];simp
theorem Bkl(bk:Int→List Int32→Option (List Int32×Int))(at':Nat)(h1:1≤ch)(h6:ch≤6)(hm:at' %ch=0)(hl:at'+ch≤m.length)(hl2:m.length≤4000):∀(i q:Nat),i≤ch-1→i<q→
  Ww bk (ch:Int) (at':Int) q ((i:Int)-1) (sel (fun k=>decide (k<at'∨(at'+i≤k∧k<at'+ch))) (unm ch m) m)=bk ((at'+ch:Nat):Int) (sel (fun k=>decide (k<at'+ch)) (unm ch m) m)
 |0,q+1,hi,_=>by
  have e4:Ad (at':Int) (ch:Int)=((at'+ch:Nat):Int):=by rw[Ag (by omega) (by omega)];omega
  rw[Ww,Akh,if_neg (by rw[Cu];simp),Aso,Bb6,e4]
  congr 1
  apply Ta
  intro k _
  rw[Bool.eq_iff_iff];simp;omega
 |i+1,q+1,hi,hq=>by
  have hlen:=Atm ch m
  have e2:Ad (at':Int) (ch:Int)-(at':Int)=(ch:Int):=by rw[Ag (by omega) (by omega)];omega
  have e3:Ad (i:Int) 1=((i+1:Nat):Int):=by rw[Ag (by omega) (by omega)];omega
  have hv:((unm ch m).getD (at'+(i+1)) 0-m.getD (at'+i) 0)=(unm ch m).getD (at'+i) 0:=by
   rw[Bb7 hm (by omega) (by omega),Bb7 hm (by omega) (by omega),show ch-1-i=(ch-1-(i+1))+1 by omega,unV,show ch-2-(ch-1-(i+1))=i by omega]
  rw[Ww,Akh,show((i+1:Nat):Int)-1=(i:Int) by omega,if_pos (by rw[Cu];simp),e2,e3,Azq (by omega),Aa,Azq (by omega),Aa,
   show(at':Int)+((i+1:Nat):Int)=((at'+(i+1):Nat):Int) by omega,show(at':Int)+(i:Int)=((at'+i:Nat):Int) by omega,
   Ys (by omega),Aa,Ys (by omega),Aa,Aa,if_pos (by simp;omega),if_neg (by simp;omega),Am0,hv,Atc (by omega),Aa,Az (by omega) (by omega)]
  have ih:=Bkl bk at' h1 h6 hm hl hl2 i q (by omega) (by omega)
  rw[←ih]
  congr 1
  apply Ta
  intro k _
  rw[Bool.eq_iff_iff];simp;omega
theorem Bb9{at' ch n:Nat}(ha:at' %ch=0)(hm:n %ch=0)(h:at'<n):at'+ch≤n:=by
 have d1:=Nat.div_add_mod at' ch
 have d2:=Nat.div_add_mod n ch
 rw[ha,Nat.add_zero]at d1
 rw[hm,Nat.add_zero]at d2
 have hlt:at'/ch<n/ch:=by
  rcases Nat.lt_or_ge (at'/ch) (n/ch)with h'|h'
  ·exact h'
  ·have:=Nat.mul_le_mul_left ch h';omega
 have:=Nat.mul_le_mul_left ch (show at'/ch+1≤n/ch from hlt)
 rw[Nat.mul_add]at this;omega
theorem Bl9(h1:1≤ch)(h6:ch≤6)(hm:m.length %ch=0)(hl2:m.length≤4000):∀(j at' q:Nat),at' %ch=0→at'≤m.length→m.length-at'≤j→j<q→
  Rm (ch:Int) q (at':Int) (sel (fun k=>decide (k<at')) (unm ch m) m)=some (unm ch m,0)
 |j,at',q+1,ha,hle,hj,hq=>by
  have hlen:=Atm ch m
  have hl:Ac (sel (fun k=>decide (k<at')) (unm ch m) m)=(m.length:Int):=by rw[Ac,Af7,hlen]
  rw[Rm,At2,hl]
  by_cases h:at'<m.length
  ·have hb:=Bb9 ha hm h
   obtain⟨j,rfl⟩:∃k,j=k+1:=⟨j-1,by omega⟩
   have e1:Aj (Ad (at':Int) (ch:Int)-(at':Int)) 1=((ch-1:Nat):Int):=by rw[Ag (by omega) (by omega),Az (by omega) (by omega)];omega
   have e2:Ad (at':Int) (ch:Int)-(at':Int)=(ch:Int):=by rw[Ag (by omega) (by omega)];omega
   have e4:Ad (at':Int) (ch:Int)=((at'+ch:Nat):Int):=by rw[Ag (by omega) (by omega)];omega
   have hi:=Bkl ch m (Rm (ch:Int) q) at' h1 h6 ha hb hl2 (ch-1) FUEL (by omega) (by have:=Al;omega)
   have hrest:=Bl9 h1 h6 hm hl2 j (at'+ch) q (by rw[Nat.add_mod_right,ha]) hb (by omega) (by omega)
   have hstart:Aj6 (Rm (ch:Int) q) (ch:Int) (at':Int) (sel (fun k=>decide (k<at'∨(at'+(ch-1)≤k∧k<at'+ch))) (unm ch m) m)=some (unm ch m,0):=by
    have e6:Aj ((ch-1:Nat):Int) 1=((ch-1:Nat):Int)-1:=Az (by omega) (by omega)
    rw[Aj6,Ati,Asl,e1,e6]
    exact Eq.trans hi hrest
   rw[if_pos (by rw[Ae];simp;omega),show vwI (m.length:Int) (at':Int) (Ad (at':Int) (ch:Int))=some () by rw[e4,vwI,Azq];omega,Aa,e1,e2]
   have hlast:=Bb7 (m:=m) ha (show ch-1<ch by omega) (by omega)
   rw[show ch-1-(ch-1)=0 by omega,unV]at hlast
   by_cases hc:1<ch
   ·have e5:Aj ((ch-1:Nat):Int) 1=((ch-2:Nat):Int):=by rw[Az (by omega) (by omega)];omega
    rw[if_pos hc]at hlast
    rw[if_pos (by rw[Ak];simp;omega),Azq (by omega),Aa,e5,Azq (by omega),Aa,show(at':Int)+((ch-1:Nat):Int)=((at'+(ch-1):Nat):Int) by omega,show(at':Int)+((ch-2:Nat):Int)=((at'+(ch-2):Nat):Int) by omega,
     Ys (by omega),Aa,Ys (by omega),Aa,Aa,if_neg (by simp),if_neg (by simp),Arb,←hlast,Atc (by omega),Aa]
    rw[←hstart]
    congr 1
    apply Ta
    intro k _
    rw[Bool.eq_iff_iff];simp;omega
   ·have hc1:ch=1:=by omega
    rw[if_neg (by rw[Ak];simp;omega),←hstart]
    congr 1
    rw[if_neg hc]at hlast
    apply List.map_congr_left
    intro k hk
    by_cases hk2:k=at'
    ·subst hk2
     rw[if_neg (by simp),if_pos (by simp;omega)]
     rw[show k+(ch-1)=k by omega]at hlast
     exact hlast.symm
    ·by_cases hk3:k<at'
     ·rw[if_pos (by simp;omega),if_pos (by simp;omega)]
     ·rw[if_neg (by simp;omega),if_neg (by simp;omega)]
  ·rw[if_neg (by rw[Ae];simp;omega),Ays (fun k hk=>by simp;omega)]
   rfl
theorem Cis(h1:1≤ch)(h6:ch≤6)(hm:m.length %ch=0)(hl2:m.length≤4000):Bbv (ch:Int) m=some (unm ch m,0):=by
 have hlen:=Atm ch m
 have h:=Bl9 ch m h1 h6 hm hl2 m.length 0 FUEL (by simp) (by omega) (by omega) (by have:=Al;omega)
 rw[Bbv,Awe,Br5 ch m h1 h6 hm hl2,Aa,if_neg (by rw[Ah];simp),Cv,Ce (by simp;omega),Aa,Aa,List.nil_append,Asy]
 rw[Aw1 hlen.symm (fun k _=>by simp)]at h
 exact h
end
def Bek(f:Nat→Int32)(ch:Nat):List Int32:=(List.range ch).map fun i=>unV f ch (ch-1-i)
theorem Aqq(f:Nat→Int32)(ch:Nat):(Bek f ch).length=ch:=by simp[Bek]
theorem Bbu(f:Nat→Int32){ch i:Nat}(h:i<ch):(Bek f ch).getD i 0=unV f ch (ch-1-i):=by
 rw[Hn (by rw[Aqq];exact h)];simp[Bek]
theorem Cec(a b:Int32):Ca (Aj (Af a:Int) (Af b:Int))=some (a-b):=by
 have:=Xa a
 have:=Xa b
 rw[Dx,Dx,Az (by omega) (by omega),Bg2,Int32.ofInt_sub,Int32.ofInt_toInt,Int32.ofInt_toInt]
theorem Bzo(a b:Int32):Ca (Ad (Af a:Int) (Bt (Af b:Int) (2:Int)))=some (a+Bt b (2:Int32)):=by
 have:=Xa a
 have hb:=Xa b
 have hd: -2147483648≤b.toInt.tdiv 2∧b.toInt.tdiv 2≤2147483648:=by
  rw[Int.tdiv_eq_ediv,show Int.sign 2=1 from rfl]
  by_cases h:0≤b.toInt∨2∣b.toInt
  ·rw[if_pos h];omega
  ·rw[if_neg h];omega
 have e:Bt b (2:Int32)=Int32.ofInt (b.toInt.tdiv 2):=rfl
 rw[Dx,Dx,Afj,Br (by omega) (by omega),Ag (by omega) (by omega),Bg2,Int32.ofInt_add,Int32.ofInt_toInt,e]
theorem Bbo(seg z:List Int32)(ch:Nat)(h6:ch≤6)(hs:seg.length=ch)(hz:z.length=ch):∀(i q:Nat),i+1≤ch→i<q→
  Gl seg q ((i:Int)-1) (sel (fun k=>decide (i≤k)) (Bek (fun i=>seg.getD i 0) ch) z)=some (Bek (fun i=>seg.getD i 0) ch)
 |0,q+1,hi,_=>by
  rw[Gl,Qi,if_neg (by rw[Cu];simp),Ays (fun k hk=>by simp)];rfl
 |i+1,q+1,hi,hq=>by
  have hlen:=Aqq (fun i=>seg.getD i 0) ch
  have e3:Ad (i:Int) 1=((i+1:Nat):Int):=by rw[Ag (by omega) (by omega)];omega
  have hv:(Bek (fun i=>seg.getD i 0) ch).getD (i+1) 0-seg.getD i 0=(Bek (fun i=>seg.getD i 0) ch).getD i 0:=by
   rw[Bbu _ (by omega),Bbu _ (by omega),show ch-1-i=(ch-1-(i+1))+1 by omega,unV,show ch-2-(ch-1-(i+1))=i by omega]
  rw[Gl,Qi,show((i+1:Nat):Int)-1=(i:Int) by omega,if_pos (by rw[Cu];simp),e3,Ys (by omega),Aa,g32 (by omega),Aa,Aa,if_pos (by simp),Cec,Aa,Ys (by omega),Aa,hv,Atc (by omega),Aa,Az (by omega) (by omega)]
  have ih:=Bbo seg z ch h6 hs hz i q (by omega) (by omega)
  rw[←ih]
  congr 1
  apply Ta
  intro k _
  rw[Bool.eq_iff_iff];simp;omega
theorem Btc{l:List Int32}{i:Nat}(v:Int32)(h:i<l.length):(l.set i v).getD i 0=v:=by
 rw[Hn (by rw[List.length_set];exact h)];simp
theorem Bvs(seg:List Int32)(ch:Nat)(h1:1≤ch)(h6:ch≤6)(hs:seg.length=ch):Uy seg=some (Bek (fun i=>seg.getD i 0) ch):=by
 have hlen:=Aqq (fun i=>seg.getD i 0) ch
 have hzl:(List.replicate ch (0:Int32)).length=ch:=by simp
 have e1:Aj (Ac seg) 1=((ch-1:Nat):Int):=by rw[Ac,hs,Az (by omega) (by omega)];omega
 have e2:Aj (Ac seg) 2=((ch-1:Nat):Int)-1:=by rw[Ac,hs,Az (by omega) (by omega)];omega
 have hlast:=Bbu (fun i=>seg.getD i 0) (show ch-1<ch by omega)
 rw[show ch-1-(ch-1)=0 by omega,unV]at hlast
 have hend:∀z:List Int32,z.length=ch→z.getD (ch-1) 0=(Bek (fun i=>seg.getD i 0) ch).getD (ch-1) 0→Qf seg z=some (Bek (fun i=>seg.getD i 0) ch):=by
  intro z hz hzl
  have h:=Bbo seg z ch h6 hs hz (ch-1) FUEL (by omega) (by have:=Al;omega)
  have e:sel (fun k=>decide (ch-1≤k)) (Bek (fun i=>seg.getD i 0) ch) z=z:=by
   apply List.ext_getElem (by rw[Af7,hlen,hz])
   intro k k1 k2
   rw[Qx]
   by_cases hk:ch-1≤k
   ·obtain rfl:k=ch-1:=by omega
    rw[if_pos (by simp),←hzl,Hn k2]
   ·rw[if_neg (by simpa using hk),Hn k2]
  rw[e]at h
  rw[Qf,Aay,e2]
  exact h
 rw[Uy,Aa2,Ac,hs,Bcw (by omega) (by omega),Aa,Ba (by rw[As];simp),Aa]
 rw[Ac,hs]at e1
 rw[Ac,hs]at e2
 have hz1:(List.replicate (Int.toNat (ch:Int)) (0:Int32)).length=ch:=by simp
 have hs1:=g32 (l:=seg) (k:=ch-1) (by omega)
 rw[e1,hs1,Aa,g32 (by omega),Aa,Qj _ (by omega),Aa]
 by_cases hc:1<ch
 ·rw[if_pos hc]at hlast
  have e3:((ch-1:Nat):Int)-1=((ch-2:Nat):Int):=by omega
  have hs2:=g32 (l:=seg) (k:=ch-2) (by omega)
  rw[if_pos (by rw[Ak];simp;omega),Aa,e2,e3,hs2,Aa,Bzo,Aa,g32 (by rw[List.length_set];omega),Aa,Qj _ (by rw[List.length_set];omega),Aa]
  refine hend _ (by simp) ?_
  rw[hlast,Btc _ (by rw[List.length_set];omega)]
 ·rw[if_neg hc]at hlast
  rw[if_neg (by rw[Ak];simp;omega)]
  refine hend _ (by simp) ?_
  rw[hlast,Btc _ (by omega)]
theorem Cf5(ch:Nat)(m:List Int32)(h1:1≤ch)(h6:ch≤6)(hm:m.length %ch=0)(hl2:m.length≤4000):Ru (ch:Int) m=some 0:=by
 rw[Ru,if_neg (by simp[Ae,Ak];omega),if_neg (by rw[Ak,Ac];simp;omega),Ba (by rw[Ah];simp;omega),Aa,if_neg]
 rw[Ak,Fc,Ac,←Int.ofNat_tmod,hm];simp
theorem Bfq(ch:Nat)(m:List Int32)(h1:1≤ch)(h6:ch≤6)(hm:m.length %ch=0)(hl2:m.length≤4000):∀(j at' q:Nat),at' %ch=0→at'≤m.length→m.length-at'≤j→j<q→
  Oa (ch:Int) m q (at':Int) ((unm ch m).take at')=some (unm ch m,0)
 |j,at',q+1,ha,hle,hj,hq=>by
  have hlen:=Atm ch m
  rw[Oa,Ag8]
  by_cases h:at'<m.length
  ·have hb:=Bb9 ha hm h
   have e4:Ad (at':Int) (ch:Int)=((at'+ch:Nat):Int):=by rw[Ag (by omega) (by omega)];omega
   have hrest:=Bfq ch m h1 h6 hm hl2 (j-1) (at'+ch) q (by rw[Nat.add_mod_right,ha]) hb (by omega) (by omega)
   have hseg:((m.take (at'+ch)).drop at').length=ch:=by simp;omega
   have htl:((unm ch m).take at').length=at':=by simp[hlen];omega
   rw[if_pos (by rw[Ae,Ac];simp;omega),e4,Me (by omega) (by omega) (by omega),Aa,show((at'+ch:Nat):Int).toNat=at'+ch from rfl,show(at':Int).toNat=at' from rfl,Bvs _ ch h1 h6 hseg,Aa,Ce (by rw[htl,Aqq];omega),Aa]
   have e:(unm ch m).take at'++Bek (fun i=>((m.take (at'+ch)).drop at').getD i 0) ch=(unm ch m).take (at'+ch):=by
    apply List.ext_getElem (by rw[List.length_append,htl,Aqq,List.length_take,hlen];omega)
    intro k k1 k2
    rw[List.length_take,hlen]at k2
    rw[List.getElem_append,List.getElem_take]
    by_cases hk:k<at'
    ·rw[dif_pos (by rw[htl];exact hk),List.getElem_take]
    ·rw[dif_neg (by rw[htl];exact hk)]
     have hu:=Bb7 (m:=m) ha (show k-at'<ch by omega) (by omega)
     rw[show at'+(k-at')=k by omega,Hn (by omega)]at hu
     have hx:∀n,n≤ch→unV (fun i=>((m.take (at'+ch)).drop at').getD i 0) ch n=unV (fun i=>m.getD (at'+i) 0) ch n:=by
      have hf:∀i,i<ch→((m.take (at'+ch)).drop at').getD i 0=m.getD (at'+i) 0:=by
       intro i hi
       rw[Hn (by omega),Hn (by omega)];simp
      intro n
      induction n with
      |zero=>
       intro _;rw[unV,unV,hf _ (by omega)];split
       ·rw[hf _ (by omega)]
       ·rfl
      |succ n ih=>intro hn;rw[unV,unV,ih (by omega),hf _ (by omega)]
     have hy:=Bbu (fun i=>((m.take (at'+ch)).drop at').getD i 0) (show k-at'<ch by omega)
     rw[Hn (by rw[Aqq];omega)]at hy
     rw[hu,←hx _ (by omega),←hy]
     congr 1
     rw[htl]
   rw[e]
   exact hrest
  ·rw[if_neg (by rw[Ae,Ac];simp;omega),List.take_of_length_le (by omega)];rfl
theorem Bzr(ch:Nat)(m:List Int32)(h1:1≤ch)(h6:ch≤6)(hm:m.length %ch=0)(hl2:m.length≤4000):Abd (ch:Int) m=some (unm ch m,0):=by
 have h:=Bfq ch m h1 h6 hm hl2 m.length 0 FUEL (by simp) (by omega) (by omega) (by have:=Al;omega)
 rw[Abd,Ahg,Cf5 ch m h1 h6 hm hl2,Aa,if_neg (by rw[Ah];simp)]
 exact h
end Go.Pl
set_option linter.unusedVariables false
set_option linter.unusedSimpArgs false
namespace Go.Pl
open Go Go.Lv
def pre{α:Type}(ch c:Nat)(f:α→Nat→α)(a0:α):Nat→α
 |0=>a0
 |m+1=>if m %ch=c then f (pre ch c f a0 m) m else pre ch c f a0 m
theorem Byc{α:Type}(ch c:Nat)(f:α→Nat→α)(a0:α):∀m,m≤c→c<ch→pre ch c f a0 m=a0
 |0,_,_=>rfl
 |m+1,h,h2=>by rw[pre,if_neg (by rw[Nat.mod_eq_of_lt (by omega)];omega),Byc ch c f a0 m (by omega) h2]
theorem Bqh{α:Type}(ch c i:Nat)(f:α→Nat→α)(a0:α)(hi:i %ch=c)(hc:c<ch):∀j,j<ch→pre ch c f a0 (i+1+j)=pre ch c f a0 (i+1)
 |0,_=>rfl
 |j+1,h=>by
  have hne:(i+1+j) %ch≠c:=by
   intro e
   have h1:(i+(1+j)) %ch=i %ch:=by rw[hi,←e];congr 1;omega
   have h2:(1+j) %ch=0:=by
    have h3:=Nat.sub_mod_eq_zero_of_mod_eq h1
    rwa [Nat.add_sub_cancel_left]at h3
   rw[Nat.mod_eq_of_lt (by omega)]at h2;omega
  rw[show i+1+(j+1)=(i+1+j)+1 by omega,pre,if_neg hne,Bqh ch c i f a0 hi hc j (by omega)]
theorem Cc4{α:Type}(ch c i:Nat)(f:α→Nat→α)(a0:α)(hi:i %ch=c)(hc:c<ch):pre ch c f a0 (i+ch)=f (pre ch c f a0 i) i:=by
 have h:=Bqh ch c i f a0 hi hc (ch-1) (by omega)
 rw[show i+1+(ch-1)=i+ch by omega]at h
 rw[h,pre,if_pos hi]
abbrev CS:=Int32×List Int32×List Int32
def Bte(bits:Int)(s:CS)(y:Int32):Int32:=y+gF (sB bits) s.2.1 s.2.2+gs (shB bits) s.1
def Bm7(bits:Int)(s:CS)(y:Int32):CS:=(Bte bits s y,lrn s.2.1 s.2.2 y,(y+gF (sB bits) s.2.1 s.2.2)::s.2.2.take 15)
def cst(bits:Int)(ch:Nat)(t:List Int32)(v:List UInt32)(c:Nat):Nat→CS:=pre ch c (fun s i=>Bm7 bits s (Anf (v.getD i 0))) (0,t,List.replicate 16 0)
def OkC(bits:Int)(s:CS):Prop:=OkF (sB bits) s.2.1 s.2.2
theorem Bps(bits:Int)(ch:Nat){t:List Int32}(ht:t.length=16)(v:List UInt32)(c:Nat):∀m,OkC bits (cst bits ch t v c m)
 |0=>⟨Cl7 bits,ht,by simp[cst,pre]⟩
 |m+1=>by
  have ih:=Bps bits ch ht v c m
  rw[cst,pre]
  split
  ·exact Cb4 ih _ _
  ·exact ih
def smp(bits:Int)(ch:Nat)(t:List Int32)(v:List UInt32):List Int32:=(List.range v.length).map fun i=>Bte bits (cst bits ch t v (i %ch) i) (Anf (v.getD i 0))
theorem Asi(bits:Int)(ch:Nat)(t:List Int32)(v:List UInt32):(smp bits ch t v).length=v.length:=by simp[smp]
theorem Bpl(bits:Int)(ch:Nat)(t:List Int32)(v:List UInt32){i:Nat}(h:i<v.length):(smp bits ch t v).getD i 0=Bte bits (cst bits ch t v (i %ch) i) (Anf (v.getD i 0)):=by
 rw[Hn (by rw[Asi];exact h)];simp[smp]
abbrev CL:=Int×Int32×(Int×(List Int32)×(List Int32)×Unit)×Unit
def toC(bits:Int)(s:CS):CL:=(bits,s.1,(sB bits,s.2.1,s.2.2,()),())
def cts(bits:Int)(ch:Nat)(t:List Int32)(v:List UInt32)(i:Nat):List CL:=(List.range 6).map fun c=>toC bits (cst bits ch t v c i)
theorem Bwv{bits:Int}{ch:Nat}{t:List Int32}{v:List UInt32}{i c:Nat}(h:c<6):getI (cts bits ch t v i) (c:Int)=some (toC bits (cst bits ch t v c i)):=by
 rw[Bm (by simp[cts];exact h)];simp[cts]
theorem Bry(bits:Int)(ch:Nat)(t:List Int32)(v:List UInt32)(c m:Nat):cst bits ch t v c (m+1)=if m %ch=c then Bm7 bits (cst bits ch t v c m) (Anf (v.getD m 0))else cst bits ch t v c m:=rfl
theorem Bx7{bits:Int}{ch:Nat}{t:List Int32}{v:List UInt32}{i c:Nat}(h:c<6)(hc:i %ch=c):Jj (cts bits ch t v i) (c:Int) (toC bits (Bm7 bits (cst bits ch t v c i) (Anf (v.getD i 0))))=some (cts bits ch t v (i+1)):=by
 rw[Qj _ (by simp[cts];exact h)]
 congr 1
 apply List.ext_getElem (by simp[cts])
 intro k h1 h2
 rw[List.getElem_set]
 simp only[cts,List.getElem_map,List.getElem_range]
 by_cases hk:c=k
 ·subst hk;rw[if_pos rfl,Bry,if_pos hc]
 ·rw[if_neg hk,Bry,if_neg (by omega)]
section
variable {bits:Int} {ch:Nat} {t:List Int32} {v:List UInt32}
theorem Brw(hb:BitsOk bits)(ht:t.length=16)(h1:1≤ch)(h6:ch≤6)(hv:v.length≤4000):∀(j i q:Nat),i+j=v.length→j<q→
  Hp v (ch:Int) bits q (i:Int) (cts bits ch t v i) ((smp bits ch t v).take i)=Ku (ch:Int) bits (smp bits ch t v)
 |0,i,q+1,hi,_=>by
  rw[Hp,Kz,if_neg (by rw[Ae,Ac];simp;omega),List.take_of_length_le (by rw[Asi];omega)]
 |j+1,i,q+1,hi,hq=>by
  have hlen:=Asi bits ch t v
  have hc:i %ch<6:=Nat.lt_of_lt_of_le (Nat.mod_lt _ (by omega)) h6
  have hok:=Bps bits ch ht v (i %ch) i
  have hs:=Bx7 (bits:=bits) (ch:=ch) (t:=t) (v:=v) (i:=i) hc rfl
  have hx:=Bpl bits ch t v (i:=i) (by omega)
  have hcb:=Cae hb hok (cst bits ch t v (i %ch) i).1 (Anf (v.getD i 0))
  have ih:=Brw hb ht h1 h6 hv j (i+1) q (by omega) (by omega)
  rw[Ir (by omega),←Hn (by omega),hx]at ih
  rw[Hp,Kz,if_pos (by rw[Ae,Ac];simp;omega),Bbn (by omega),Aa,Ba (by rw[Ah];simp;omega),Aa,Anm,Bwv hc,Aa,Aa,Ccg,Aa]
  refine Eq.trans (congrArg (fun o=>Option.bind o _) hcb) ?_
  rw[Aa]
  simp only
  rw[Wz,Aj0,if_neg (by rw[Ah];simp),Anm]
  refine Eq.trans (congrArg (fun o=>Option.bind o _) hs) ?_
  rw[Aa,Ce (by simp;omega),Aa,Ag (by omega) (by omega)]
  exact ih
theorem Cap(hb:BitsOk bits)(ht:t.length=16)(h1:1≤ch)(h6:ch≤6)(hv:v.length≤4000):Sj (ch:Int) bits t v=Ku (ch:Int) bits (smp bits ch t v):=by
 have h:=Brw hb ht h1 h6 hv v.length 0 FUEL (by omega) (by have:=Al;omega)
 have e:FUEL=(FUEL-7)+1+1+1+1+1+1+1:=by have:=Al;omega
 have hs:Pd v (ch:Int) bits t 0 (List.replicate 6 ((0:Int),(0:Int32),((0:Int),(List.replicate 16 (0:Int32)),(List.replicate 16 (0:Int32)),()),()))=Xt v (ch:Int) bits (cts bits ch t v 0):=by
  rw[Pd,e]
  obtain rfl|rfl|rfl:=hb<;>rfl
 rw[Sj,Zm,hs]
 exact h
theorem Bna(bk:Int→List Int32→Option (List Int32))(hb:BitsOk bits)(ht:t.length=16)(h1:1≤ch)(h6:ch≤6)(hv:v.length≤4000)(z:List Int32)(c:Nat)(hc:c<ch):∀(j i q:Nat),i %ch=c→v.length-i≤j→i≤5000→j<q→
  Kc bk v (ch:Int) bits t (c:Int) q (i:Int) (sel (fun k=>decide (k %ch<c∨(k %ch=c∧k<i))) (smp bits ch t v) z) bits (cst bits ch t v c i).1 (sB bits) (cst bits ch t v c i).2.1 (cst bits ch t v c i).2.2=
   bk ((c+1:Nat):Int) (sel (fun k=>decide (k %ch<c+1)) (smp bits ch t v) z)
 |j,i,q+1,hi,hj,hi5,hq=>by
  have hlen:=Asi bits ch t v
  rw[Kc,Aa6]
  by_cases h:i<v.length
  ·have hok:=Bps bits ch ht v c i
   have hst:=Cak hb hok (cst bits ch t v c i).1 (Anf (v.getD i 0))
   have hx:=Bpl bits ch t v (i:=i) h
   rw[hi]at hx
   have ih:=Bna bk hb ht h1 h6 hv z c hc (j-1) (i+ch) q (by rw[Nat.add_mod_right];exact hi) (by omega) (by omega) (by omega)
   have Bhr:cst bits ch t v c (i+ch)=Bm7 bits (cst bits ch t v c i) (Anf (v.getD i 0)):=Cc4 ch c i _ _ hi hc
   rw[Bhr]at ih
   have hset:=Atc (p:=fun k=>decide (k %ch<c∨(k %ch=c∧k<i))) (a:=smp bits ch t v) (b:=z) (k:=i) (by omega)
   rw[hx]at hset
   have hcong:sel (fun j=>decide (j %ch<c∨(j %ch=c∧j<i))||decide (j=i)) (smp bits ch t v) z=sel (fun k=>decide (k %ch<c∨(k %ch=c∧k<i+ch))) (smp bits ch t v) z:=by
    apply Ta
    intro k _
    rw[Bool.eq_iff_iff]
    simp only[Bool.or_eq_true,decide_eq_true_eq]
    constructor
    ·rintro((h1|h1)|h1)
     ·exact .inl h1
     ·exact .inr ⟨h1.1,by omega⟩
     ·subst h1;exact .inr ⟨hi,by omega⟩
    ·rintro(h1|⟨h1,h2⟩)
     ·exact .inl (.inl h1)
     ·by_cases h3:k<i
      ·exact .inl (.inr ⟨h1,h3⟩)
      ·refine .inr ?_
       have h4:(i+(k-i)) %ch=i %ch:=by rw[show i+(k-i)=k by omega,h1,hi]
       have h5:=Nat.sub_mod_eq_zero_of_mod_eq h4
       rw[Nat.add_sub_cancel_left,Nat.mod_eq_of_lt (by omega)]at h5
       omega
   rw[hcong]at hset
   rw[if_pos (by rw[Ae,Ac];simp;omega),Bbn h,Aa,Cf7,Aa]
   refine Eq.trans (congrArg (fun o=>Option.bind o _) hst) ?_
   rw[Aa]
   simp only
   rw[Aae,Aax,Ys (by omega),Aa]
   refine Eq.trans (congrArg (fun o=>Option.bind o _) hset) ?_
   rw[Aa,Aaj,Aab,Ag (by omega) (by omega)]
   exact ih
  ·rw[if_neg (by rw[Ae,Ac];simp;omega),Zz,Aaz,Ag (by omega) (by omega)]
   have hcong:sel (fun k=>decide (k %ch<c∨(k %ch=c∧k<i))) (smp bits ch t v) z=sel (fun k=>decide (k %ch<c+1)) (smp bits ch t v) z:=by
    apply Ta
    intro k hk
    rw[Bool.eq_iff_iff]
    simp only[decide_eq_true_eq]
    omega
   rw[hcong];rfl
theorem Bm2(hb:BitsOk bits)(ht:t.length=16)(h1:1≤ch)(h6:ch≤6)(hv:v.length≤4000)(z:List Int32):∀(j c q:Nat),c+j=ch→j<q→
  En v (ch:Int) bits t q (c:Int) (sel (fun k=>decide (k %ch<c)) (smp bits ch t v) z)=Qb (ch:Int) bits (smp bits ch t v)
 |0,c,q+1,hc,_=>by
  rw[En,Qr,if_neg (by rw[Ae];simp;omega),Ays (fun k hk=>by have:=Nat.mod_lt k (show 0<ch by omega);simp;omega)]
 |j+1,c,q+1,hc,hq=>by
  have ih:=Bm2 hb ht h1 h6 hv z j (c+1) q (by omega) (by omega)
  have hin:=Bna (En v (ch:Int) bits t q) hb ht h1 h6 hv z c (by omega) v.length c FUEL (Nat.mod_eq_of_lt (by omega)) (by omega) (by omega) (by have:=Al;omega)
  have h0:cst bits ch t v c c=(0,t,List.replicate 16 0):=Byc ch c _ _ c (Nat.le_refl _) (by omega)
  rw[h0]at hin
  have hcong:sel (fun k=>decide (k %ch<c∨(k %ch=c∧k<c))) (smp bits ch t v) z=sel (fun k=>decide (k %ch<c)) (smp bits ch t v) z:=by
   apply Ta
   intro k hk
   have:=Nat.mod_le k ch
   rw[Bool.eq_iff_iff]
   simp only[decide_eq_true_eq]
   omega
  rw[hcong]at hin
  rw[En,Qr,if_pos (by rw[Ae];simp;omega),Clv hb,Aa]
  simp only
  rw[Aaf]
  exact Eq.trans hin ih
theorem Bnn(hb:BitsOk bits)(ht:t.length=16)(h1:1≤ch)(h6:ch≤6)(hv:v.length≤4000)(hm:v.length %ch=0):Ph (ch:Int) bits t v=some (unm ch (smp bits ch t v)):=by
 have hlen:=Asi bits ch t v
 have h:=Bm2 hb ht h1 h6 hv (List.replicate v.length 0) ch 0 FUEL (by omega) (by have:=Al;omega)
 rw[Aw1 (by rw[hlen];simp) (fun k _=>by simp)]at h
 rw[Ph,Adh,Ac,Bcw (by omega) (by omega),Aa,Ba (by rw[As];simp),Aa,Aan]
 refine Eq.trans h ?_
 rw[Qb,Aau,Bzr ch _ h1 h6 (by rw[hlen];exact hm) (by omega),Aa]
end
def hB(bits:Int):Int:=if bits=8 then 128 else if bits=16 then 32768 else 8388608
theorem Bod{bits:Int}(h:BitsOk bits):Qt bits=some (Int32.ofInt (-(hB bits)),Int32.ofInt (hB bits-1),0):=by
 obtain rfl|rfl|rfl:=h<;>decide
theorem Aoq{bits:Int}(h:BitsOk bits):Hm bits=some (hB bits):=by
 obtain rfl|rfl|rfl:=h<;>rfl
theorem Aky(bits:Int):0<hB bits∧hB bits≤8388608:=by
 unfold hB;split; · omega
 ·split<;>omega
theorem Bia{bits:Int}(h:BitsOk bits)(l:List Int32)(hl:l.length≤4000):∀(j i q:Nat),i+j=l.length→j<q→
  Ps (Int32.ofInt (-(hB bits))) (Int32.ofInt (hB bits-1)) l q (i:Int)=Ao l (hB bits) q (i:Int)
 |0,i,q+1,hi,_=>by
  rw[Ps,Ab1,Ao,Bv,if_neg (by rw[Ae,Ac];simp;omega),if_neg (by rw[Ae,Ac];simp;omega)];rfl
 |j+1,i,q+1,hi,hq=>by
  have hh:=Aky bits
  have ih:=Bia h l hl j (i+1) q (by omega) (by omega)
  have e1:(Int32.ofInt (-(hB bits))).toInt= -(hB bits):=by rw[Int32.toInt_ofInt,Int.bmod_eq_of_le (by show -(4294967296/2:Int)≤_;omega) (by show _<(4294967296+1)/2;omega)]
  have e2:(Int32.ofInt (hB bits-1)).toInt=hB bits-1:=by rw[Int32.toInt_ofInt,Int.bmod_eq_of_le (by show -(4294967296/2:Int)≤_;omega) (by show _<(4294967296+1)/2;omega)]
  rw[Ps,Ab1,Ao,Bv,if_pos (by rw[Ae,Ac];simp;omega),if_pos (by rw[Ae,Ac];simp;omega),g32 (by omega),Aa,Aa,Aa,Dx,Bnr,Br (by omega) (by omega),Ag (by omega) (by omega),Bnq,Bue,e1,e2,Ae,Cu]
  generalize(l.getD i 0).toInt=X
  by_cases h1:X< -(hB bits)
  ·rw[if_pos (by simp;omega),if_pos (by simp;omega)]
  ·rw[if_neg (c:=decide (X<0-hB bits)=true) (by simp;omega)]
   by_cases h2:hB bits≤X
   ·rw[if_pos (by simp;omega),if_pos (by simp;omega)]
   ·rw[if_neg (by simp;omega),if_neg (by simp;omega)];exact ih
theorem As7{bits:Int}(h:BitsOk bits)(l:List Int32)(hl:l.length≤4000):Vn bits l=cadenzaref18_Check bits l:=by
 have hh:=Aky bits
 rw[Vn,Amn,Bod h,Aa,cadenzaref18_Check,Cm,Aoq h,Aa]
 simp only
 rw[if_neg (by rw[Ah];simp),if_neg (by rw[Ak,Ac];simp;omega),if_neg (by rw[As];simp;omega),if_neg (by rw[Ak,Ac];simp;omega)]
 exact Bia h l hl l.length 0 FUEL (by omega) (by have:=Al;omega)
theorem Bum{bits:Int}(h:BitsOk bits)(l:List Int32)(hl:l.length≤4000):∃e,cadenzaref18_Check bits l=some e:=by
 have hh:=Aky bits
 have key:∀(j i q:Nat),i+j=l.length→j<q→∃e,Ao l (hB bits) q (i:Int)=some e:=by
  intro j
  induction j with
  |zero=>
   intro i q hi hq
   obtain⟨q,rfl⟩:∃k,q=k+1:=⟨q-1,by omega⟩
   rw[Ao,Bv,if_neg (by rw[Ae,Ac];simp;omega)]
   exact⟨_,rfl⟩
  |succ j ih=>
   intro i q hi hq
   obtain⟨q,rfl⟩:∃k,q=k+1:=⟨q-1,by omega⟩
   rw[Ao,Bv,if_pos (by rw[Ae,Ac];simp;omega),g32 (by omega),Aa,Aa,Ag (by omega) (by omega)]
   split
   ·exact⟨_,rfl⟩
   ·split
    ·exact⟨_,rfl⟩
    ·exact ih (i+1) q (by omega) (by omega)
 obtain⟨e,he⟩:=key l.length 0 FUEL (by omega) (by have:=Al;omega)
 rw[cadenzaref18_Check,Cm,Aoq h,Aa,if_neg (by rw[As];simp;omega),if_neg (by rw[Ak,Ac];simp;omega)]
 exact⟨e,he⟩
theorem Bpz{bits:Int}{ch:Nat}{t:List Int32}{v:List UInt32}(hb:BitsOk bits)(ht:t.length=16)(h1:1≤ch)(h6:ch≤6)(hv:v.length≤4000)(hm:v.length %ch=0):
  ∃l e,Ph (ch:Int) bits t v=some l∧Pg (ch:Int) bits l=some (if e≠0 then([],e)else(l,0))∧Sj (ch:Int) bits t v=some (if e≠0 then([],e)else(l,0))∧cadenzaref18_Check bits l=some e∧l.length=v.length:=by
 have hlen:=Asi bits ch t v
 have hul:=Atm ch (smp bits ch t v)
 obtain⟨e,he⟩:=Bum hb (unm ch (smp bits ch t v)) (by omega)
 refine⟨unm ch (smp bits ch t v),e,Bnn hb ht h1 h6 hv hm,?_,?_,he,by omega⟩
 ·rw[Pg,he,Aa]
  by_cases h:e=0
  ·rw[if_neg (by rw[Ah];simpa using h),if_neg (by simpa using h)]
  ·rw[if_pos (by rw[Ah];simpa using h),if_pos h]
 ·rw[Cap hb ht h1 h6 hv,Ku,Ajx,Cis ch _ h1 h6 (by rw[hlen];exact hm) (by omega),Aa]
  simp only
  rw[if_neg (by rw[Ah];simp),As7 hb _ (by omega),he,Aa]
  by_cases h:e=0
  ·rw[if_neg (by rw[Ah];simpa using h),if_neg (by simpa using h)]
  ·rw[if_pos (by rw[Ah];simpa using h),if_pos h]
end Go.Pl
set_option linter.unusedVariables false
set_option linter.unusedSimpArgs false
namespace Go.Pl
open Go Go.Lv
def Aac(s:Nat):Nat:=(s/2)^^^ (if s %2=1 then 3988292384 else 0)
theorem Bk0{s:Nat}(h:s<4294967296):Aac s<4294967296:=by
 unfold Aac
 exact Nat.xor_lt_two_pow (n:=32) (by simp;omega) (by split<;>decide)
theorem Bsf(x y:Nat):(x^^^y)/2=(x/2)^^^ (y/2):=by
 have:=Nat.shiftRight_xor_distrib (a:=x) (b:=y) (i:=1)
 simpa [Nat.shiftRight_eq_div_pow]using this
theorem Bzd(x y:Nat):Aac (x^^^y)=Aac x^^^Aac y:=by
 have h:(x^^^y) %2=(x %2+y %2) %2:=by
  have:=Nat.xor_mod_two_eq_one (a:=x) (b:=y)
  have h1:(x^^^y) %2<2:=Nat.mod_lt _ (by omega)
  omega
 simp only[Aac,Bsf,h]
 have hx:x %2=0∨x %2=1:=by omega
 have hy:y %2=0∨y %2=1:=by omega
 rcases hx with hx|hx<;>rcases hy with hy|hy<;>simp only[hx,hy]<;>simp
 ·rw[Nat.xor_assoc]
 ·rw[Nat.xor_assoc,Nat.xor_comm (y/2),Nat.xor_assoc,Nat.xor_comm 3988292384 (y/2)]
 ·rw[Nat.xor_assoc,Nat.xor_comm 3988292384,Nat.xor_assoc,Nat.xor_self];simp
def Jc:Nat→Nat→Nat
 |0,s=>s
 |k+1,s=>Jc k (Aac s)
theorem Ax7:∀(k x y:Nat),Jc k (x^^^y)=Jc k x^^^Jc k y
 |0,_,_=>rfl
 |k+1,x,y=>by rw[Jc,Bzd,Ax7 k];rfl
theorem Ayg:∀(k h:Nat),Jc k (2^k*h)=h
 |0,h=>by simp[Jc]
 |k+1,h=>by
  have:Aac (2^(k+1)*h)=2^k*h:=by
   rw[Nat.pow_succ,Nat.mul_comm (2^k) 2,Nat.mul_assoc,Aac,if_neg (by omega),Nat.mul_div_cancel_left _ (by omega)];simp
  rw[Jc,this,Ayg k]
theorem Bhu:∀(k:Nat) {s:Nat},s<4294967296→Jc k s<4294967296
 |0,_,h=>h
 |k+1,_,h=>Bhu k (Bk0 h)
def Axy(s c:Nat):Nat:=Jc 8 (s^^^c)
theorem Bh0{s c:Nat}(h:s<4294967296)(hc:c<256):Axy s c<4294967296:=Bhu 8 (Nat.xor_lt_two_pow (n:=32) (by simpa using h) (by simp;omega))
theorem Bqu{s c:Nat}(hc:c<256):Axy s c=(s/256)^^^Jc 8 ((s %256)^^^c):=by
 have h:s=(2^8*(s/256))^^^ (s %256):=by
  have h1:s %256<2^8:=by simpa using Nat.mod_lt s (by omega:256>0)
  have:=Nat.two_pow_add_eq_or_of_lt h1 (s/256)
  have h2:2^8*(s/256)|||s %256=(2^8*(s/256))^^^ (s %256):=by
   apply Nat.eq_of_testBit_eq;intro i
   rw[Nat.testBit_or,Nat.testBit_xor]
   by_cases hi:i<8
   ·have:(2^8*(s/256)).testBit i=false:=by rw[Nat.testBit_two_pow_mul];simp;omega
    rw[this];simp
   ·have:(s %256).testBit i=false:=Nat.testBit_lt_two_pow (Nat.lt_of_lt_of_le h1 (Nat.pow_le_pow_right (by omega) (by omega)))
    rw[this];simp
  omega
 rw[Axy]
 conv=>lhs;rw[h]
 rw[Nat.xor_assoc,Ax7,Ayg]
def Ail(s:Nat)(l:List UInt8):Nat:=l.foldl (fun s c=>Axy s c.toNat) s
def Bz(b:List UInt8):UInt32:=4294967295-UInt32.ofNat (Ail 4294967295 b)
theorem Cft(s:UInt32)(c:Nat)(hc:c<256):Ac8 s (Af (Aa7 (UInt8.ofNat c) (2:UInt8)):Int)=some (UInt32.ofNat (s.toNat/2^^^ (if(s.toNat^^^c) %2=1 then 3988292384 else 0))):=by
 have h1:(Af (Aa7 (UInt8.ofNat c) (2:UInt8)):Int)=((c %2:Nat):Int):=by
  rw[Ako,Cge,UInt8.toNat_mod,UInt8.toNat_ofNat']
  show((c %256 %2:Nat):Int)=_
  omega
 have h2:geq (Aa7 s (2:UInt32)) (1:UInt32)=decide (s.toNat %2=1):=by
  rw[Bg6,Bst,Bool.eq_iff_iff]
  simp only[beq_iff_eq,decide_eq_true_eq]
  rw[←UInt32.toNat_inj,UInt32.toNat_mod];rfl
 have h3:Bt s (2:UInt32)=UInt32.ofNat (s.toNat/2):=by
  apply UInt32.toNat_inj.1
  rw[Bsm,UInt32.toNat_div,UInt32.toNat_ofNat']
  show s.toNat/2=_
  have:=s.toNat_lt
  omega
 have h4:Sy (Bt s (2:UInt32)) (3988292384:UInt32)=UInt32.ofNat (s.toNat/2^^^3988292384):=by
  apply UInt32.toNat_inj.1
  rw[h3,Arr,UInt32.toNat_xor,UInt32.toNat_ofNat',UInt32.toNat_ofNat']
  have:=s.toNat_lt
  rw[Nat.mod_eq_of_lt (a:=s.toNat/2) (by omega),Nat.mod_eq_of_lt]
  ·rfl
  ·exact Nat.xor_lt_two_pow (n:=32) (by omega) (by decide)
 have hx:(s.toNat^^^c) %2=(s.toNat %2+c %2) %2:=by
  have:=Nat.xor_mod_two_eq_one (a:=s.toNat) (b:=c)
  have h1:(s.toNat^^^c) %2<2:=Nat.mod_lt _ (by omega)
  omega
 have hs:s.toNat %2=0∨s.toNat %2=1:=by omega
 have hc2:c %2=0∨c %2=1:=by omega
 rw[Ac8,Agu,h1,h2,hx]
 rcases hs with hs|hs<;>rcases hc2 with hc2|hc2<;>simp[hs,hc2,As,Aib,Ah0,Arr,h3]
theorem Bgb:∀(j i q:Nat) (s:UInt32) (c:Nat),i+j=8→j<q→c<2^j→Jr q s (UInt8.ofNat c) (i:Int)=some (UInt32.ofNat (Jc j (s.toNat^^^c)))
 |0,i,q+1,s,c,hi,_,hc=>by
  obtain rfl:i=8:=by omega
  obtain rfl:c=0:=by simpa using hc
  rw[Jr,Wb,if_neg (by rw[Ae];simp),Ag9,Ahm,Jc]
  simp
 |j+1,i,q+1,s,c,hi,hq,hc=>by
  have hc8:c<256:=Nat.lt_of_lt_of_le hc (show 2^(j+1)≤2^8 from Nat.pow_le_pow_right (by omega) (by omega))
  rw[Jr,Wb,if_pos (by rw[Ae];simp;omega),Cft s c hc8,Aa,Ag (by omega) (by omega)]
  have e:Bt (UInt8.ofNat c) (2:UInt8)=UInt8.ofNat (c/2):=by
   apply UInt8.toNat_inj.1
   rw[Cf4,UInt8.toNat_div,UInt8.toNat_ofNat',UInt8.toNat_ofNat']
   show c %256/2=_
   omega
  rw[e]
  have h:=Bgb j (i+1) q (UInt32.ofNat (s.toNat/2^^^ (if(s.toNat^^^c) %2=1 then 3988292384 else 0))) (c/2) (by omega) (by omega) (by rw[Nat.pow_succ]at hc;omega)
  rw[show((i:Int)+1)=((i+1:Nat):Int) by omega,h,UInt32.toNat_ofNat',Jc]
  congr 3
  have:=s.toNat_lt
  rw[Nat.mod_eq_of_lt,Aac,Bsf,Nat.xor_assoc,Nat.xor_assoc,Nat.xor_comm (c/2)]
  exact Nat.xor_lt_two_pow (n:=32) (by omega) (by split<;>decide)
theorem Cfx(s:UInt32)(c:UInt8):Aok s c=some (UInt32.ofNat (Axy s.toNat c.toNat)):=by
 have h:=Bgb 8 0 FUEL s c.toNat (by omega) (by have:=Al;omega) (by simpa using c.toNat_lt)
 rw[UInt8.ofNat_toNat]at h
 exact h
theorem Azh(b:List UInt8)(hb:b.length<4611686018427387904):∀(j i q:Nat) (s:UInt32),i+j=b.length→j<q→Hf b q s (i:Int)=some (UInt32.ofNat (Ail s.toNat (b.drop i)))
 |0,i,q+1,s,hi,_=>by
  rw[Hf,Ro,if_neg (by rw[Ae,Ac];simp;omega),show i=b.length by omega,List.drop_length]
  simp[Ady,Ab5,Ail]
 |j+1,i,q+1,s,hi,hq=>by
  have hlt:i<b.length:=by omega
  rw[Hf,Ro,if_pos (by rw[Ae,Ac];simp;omega),Bm hlt,Aa,Cfx,Aa,Ag (by omega) (by omega)]
  have h:=Azh b hb j (i+1) q (UInt32.ofNat (Axy s.toNat b[i].toNat)) (by omega) (by omega)
  rw[show((i:Int)+1)=((i+1:Nat):Int) by omega,h,drop_cons hlt,UInt32.toNat_ofNat',Nat.mod_eq_of_lt (Bh0 s.toNat_lt b[i].toNat_lt)]
  rfl
theorem Cc8(b:List UInt8)(hb:b.length<4611686018427387904):Sg b=some (Bz b):=by
 have h:=Azh b hb b.length 0 FUEL 4294967295 (by omega) (by have:=Al;omega)
 rw[Sg,Ajn,Abh,Abj,show((0:Int))=((0:Nat):Int)from rfl,h,Aa,Bh9];rfl
theorem Chy(c:UInt32):Sy (Bi c (GI.toZ (1:UInt64)).toNat) (Au (3988292384:UInt32) (Dc c (1:UInt32)))=UInt32.ofNat (Aac c.toNat):=by
 apply UInt32.toNat_inj.1
 have e:(GI.toZ (1:UInt64)).toNat=1:=rfl
 have h1:(Bi c 1).toNat=c.toNat/2:=by rw[Acz]
 have h2:(Au (3988292384:UInt32) (Dc c (1:UInt32))).toNat=if c.toNat %2=1 then 3988292384 else 0:=by
  rw[Cdi,Bbk,UInt32.toNat_mul,UInt32.toNat_and]
  show 3988292384*(c.toNat&&&1) %4294967296=_
  rw[Nat.and_one_is_mod]
  have:c.toNat %2=0∨c.toNat %2=1:=by omega
  rcases this with h|h<;>simp[h]
 rw[e,Arr,UInt32.toNat_xor,h1,h2,UInt32.toNat_ofNat',Nat.mod_eq_of_lt (Bk0 c.toNat_lt)];rfl
theorem Btq(bk16:Int→List UInt32→Option (UInt32×Int))(s:UInt32)(b:List UInt8)(x:Int)(t:List UInt32):∀(j i q:Nat) (c:UInt32),i+j=8→j<q→
  Qc bk16 s b x t q c (i:Int)=Ab9 bk16 s b x (UInt32.ofNat (Jc j c.toNat)) t
 |0,i,q+1,c,hi,_=>by
  obtain rfl:i=8:=by omega
  rw[Qc,Adu,if_neg (by rw[Ae];simp),Jc,UInt32.ofNat_toNat]
 |j+1,i,q+1,c,hi,hq=>by
  rw[Qc,Adu,if_pos (by rw[Ae];simp;omega),Chy,Ag (by omega) (by omega),show((i:Int)+1)=((i+1:Nat):Int) by omega,Btq bk16 s b x t j (i+1) q _ (by omega) (by omega),UInt32.toNat_ofNat',Nat.mod_eq_of_lt (Bk0 c.toNat_lt)];rfl
def tbl(n:Nat):List UInt32:=(List.range n).map fun i=>UInt32.ofNat (Jc 8 i)
theorem Bxa(s:UInt32)(b:List UInt8):∀(j i q:Nat),i+j=256→j<q→Lz s b q (i:Int) (tbl i++List.replicate j 0)=Acw s b (tbl 256)
 |0,i,q+1,hi,_=>by
  obtain rfl:i=256:=by omega
  rw[Lz,Abc,if_neg (by rw[Ae];simp)];simp
 |j+1,i,q+1,hi,hq=>by
  have hlen:(tbl i++List.replicate (j+1) 0).length=i+(j+1):=by simp[tbl]
  rw[Lz,Abc,if_pos (by rw[Ae];simp;omega),Aly]
  have h:=Btq (Lz s b q) s b (i:Int) (tbl i++List.replicate (j+1) 0) 8 0 FUEL (Af (i:Int)) (by omega) (by have:=Al;omega)
  rw[show((0:Int))=((0:Nat):Int)from rfl,h,Ab9,Am5,Bm (by rw[hlen];omega),Aa,Qj _ (by rw[hlen];omega),Aa,Anb,Avj,Ag (by omega) (by omega)]
  have e:(Af (i:Int):UInt32).toNat=i:=by rw[Blw,UInt32.toNat_ofNat',Nat.mod_eq_of_lt (by omega)]
  rw[e,List.replicate_succ,As6 (by simp[tbl])]
  have h2:=Bxa s b j (i+1) q (by omega) (by omega)
  have h3:tbl (i+1)=tbl i++[UInt32.ofNat (Jc 8 i)]:=by simp[tbl,List.range_succ]
  rw[h3]at h2
  rw[show((i:Int)+1)=((i+1:Nat):Int) by omega,←h2]
  simp
theorem Chl{i:Nat}(h:i<256):getI (tbl 256) (i:Int)=some (UInt32.ofNat (Jc 8 i)):=by
 rw[Bm (by simpa [tbl]using h)];simp[tbl]
theorem Ce8(s:UInt32)(c:UInt8):getI (tbl 256) (GI.toZ (Sy (Af s:UInt8) c))=some (UInt32.ofNat (Jc 8 ((s.toNat %256)^^^c.toNat))):=by
 have e:GI.toZ (Sy (Af s:UInt8) c)=(((s.toNat %256)^^^c.toNat:Nat):Int):=by
  rw[Zq,Bnz,UInt8.toNat_xor,Bar,UInt8.toNat_ofNat']
 rw[e,Chl]
 exact Nat.xor_lt_two_pow (n:=8) (by simp;omega) (by simpa using c.toNat_lt)
theorem Cav(s:UInt32)(c:UInt8):Sy (Bi s (GI.toZ (8:UInt64)).toNat) (UInt32.ofNat (Jc 8 ((s.toNat %256)^^^c.toNat)))=UInt32.ofNat (Axy s.toNat c.toNat):=by
 apply UInt32.toNat_inj.1
 have hlt:Jc 8 ((s.toNat %256)^^^c.toNat)<4294967296:=Bhu 8 (Nat.xor_lt_two_pow (n:=32) (by simp;omega) (by have:=c.toNat_lt;simp;omega))
 have e:(GI.toZ (8:UInt64)).toNat=8:=rfl
 rw[e,Arr,UInt32.toNat_xor,Acz,UInt32.toNat_ofNat',UInt32.toNat_ofNat',Nat.mod_eq_of_lt hlt,Nat.mod_eq_of_lt (Bh0 s.toNat_lt c.toNat_lt),Bqu c.toNat_lt]
theorem Bsq(b:List UInt8)(hb:b.length<4611686018427387904):∀(j i q:Nat) (s:UInt32),i+j=b.length→j<q→Qd b (tbl 256) q s (i:Int)=some (UInt32.ofNat (Ail s.toNat (b.drop i)),0)
 |0,i,q+1,s,hi,_=>by
  rw[Qd,Ad3,if_neg (by rw[Ae,Ac];simp;omega),show i=b.length by omega,List.drop_length]
  simp[Ak4,Axg,Ail]
 |j+1,i,q+1,s,hi,hq=>by
  have hlt:i<b.length:=by omega
  rw[Qd,Ad3,if_pos (by rw[Ae,Ac];simp;omega),Bm hlt,Aa,Ce8,Aa,Aa,Cav,Ag (by omega) (by omega)]
  have h:=Bsq b hb j (i+1) q (UInt32.ofNat (Axy s.toNat b[i].toNat)) (by omega) (by omega)
  rw[show((i:Int)+1)=((i+1:Nat):Int) by omega,h,drop_cons hlt,UInt32.toNat_ofNat',Nat.mod_eq_of_lt (Bh0 s.toNat_lt b[i].toNat_lt)]
  rfl
theorem Cgc(s:UInt32)(b:List UInt8)(hb:b.length≤100000):Asz s b=some (UInt32.ofNat (Ail s.toNat b),0):=by
 have h:=Bxa s b 256 0 FUEL (by omega) (by have:=Al;omega)
 have h2:=Bsq b (by omega) b.length 0 FUEL s (by omega) (by have:=Al;omega)
 rw[Asz,Apb,if_neg (by rw[Ak,Ac];simp;omega),Al7]
 refine Eq.trans h ?_
 rw[Acw,Akx,Anj,Amv,Al5]
 exact h2
theorem Ceb(a:UInt32):Bku a=4294967295-a:=by
 have h:=a.toNat_lt
 have e:Bku a=UInt32.ofNat (BitVec.ofInt 32 4294967295^^^BitVec.ofInt 32 (a.toNat:Int)).toNat:=Ea _
 apply UInt32.toNat_inj.1
 rw[e,UInt32.toNat_ofNat',UInt32.toNat_sub_of_le _ _ (by rw[UInt32.le_iff_toNat_le];show a.toNat≤4294967295;omega)]
 have h1:BitVec.ofInt 32 (a.toNat:Int)=a.toBitVec:=Bn4 a
 have h2:(BitVec.ofInt 32 4294967295:BitVec 32)=BitVec.allOnes 32:=by decide
 rw[h1,h2,BitVec.allOnes_xor,BitVec.toNat_not]
 show(4294967296-1-a.toNat) %4294967296=4294967295-a.toNat
 omega
theorem Bew(b:List UInt8)(hb:b.length≤100000):Wh b=some (Bz b,0):=by
 rw[Wh,Cgc _ _ hb,Aa]
 simp only[Ah,Ceb]
 rfl
end Go.Pl
set_option linter.unusedVariables false
set_option linter.unusedSimpArgs false
namespace Go.Pl
open Go Go.Lv
theorem Bgq:∀{l m:List UInt8},l.length=m.length→leN l=leN m→l=m
 |[],[],_,_=>rfl
 |x::l,y::m,h,e=>by
  simp only[leN]at e
  have hx:=x.toNat_lt
  have hy:=y.toNat_lt
  have h1:x=y:=UInt8.toNat_inj.1 (by omega)
  rw[h1,Bgq (l:=l) (m:=m) (by simpa using h) (by omega)]
theorem Ul:∀(w n:Nat),leN (Ns n w)=n %256^w
 |0,n=>by simp[Ns,leN,Nat.mod_one]
 |w+1,n=>by
  rw[Ns,leN,Ul w (n/256),UInt8.toNat_ofNat',show(256:Nat)^(w+1)=256*256^w by rw[Nat.pow_succ,Nat.mul_comm],Nat.mod_mul]
def Na(b:List UInt8):Int:=
 if b.length<5 then 24 else if 41254<b.length then 4 else if(Bz (b.take (b.length-4))).toNat≠leN (b.drop (b.length-4))then 22 else 0
theorem Brk(b:List UInt8):Ab4 b=some (if Na b≠0 then([],Na b)else(b.take (b.length-4),0)):=by
 rw[Ab4]
 by_cases h1:b.length<5
 ·have hS:Na b=24:=by rw[Na,if_pos h1]
  rw[if_pos (by rw[Ae,Ac];simp;omega),hS];rfl
 rw[if_neg (by rw[Ae,Ac];simp;omega)]
 by_cases h2:41254<b.length
 ·have hS:Na b=4:=by rw[Na,if_neg h1,if_pos h2]
  rw[if_pos (by rw[Ak,Ac];simp;omega),hS];rfl
 have e4:Aj (Ac b) 4=((b.length-4:Nat):Int):=by rw[Ac,Az (by omega) (by omega)];omega
 have hd:(b.drop (b.length-4)).length=4:=by simp;omega
 rw[if_neg (by rw[Ak,Ac];simp;omega),e4,Gz (by omega) (by omega),Aa,show((b.length-4:Nat):Int).toNat=b.length-4 from rfl,Bew _ (by simp;omega),Aa]
 simp only
 rw[if_neg (by rw[Ah];simp),Cb (by omega) (by omega),Aa,show((b.length-4:Nat):Int).toNat=b.length-4 from rfl,Bsu _ (by omega) (by omega),Aa]
 have hne:Ay (leU (b.drop (b.length-4))) (Af (Bz (b.take (b.length-4))):UInt64)=decide ((Bz (b.take (b.length-4))).toNat≠leN (b.drop (b.length-4))):=by
  have hlt:=(Bz (b.take (b.length-4))).toNat_lt
  rw[Aj4,Bool.eq_iff_iff]
  simp only[bne_iff_ne,ne_eq,←UInt64.toNat_inj,decide_eq_true_eq]
  rw[Aob (by omega),Ci,UInt64.toNat_ofNat',Nat.mod_eq_of_lt (by omega)]
  exact⟨fun h e=>h e.symm,fun h e=>h e.symm⟩
 simp only
 rw[hne,Aa]
 by_cases h3:(Bz (b.take (b.length-4))).toNat≠leN (b.drop (b.length-4))
 ·have hS:Na b=22:=by rw[Na,if_neg h1,if_neg h2,if_pos h3]
  rw[if_pos (by simp[h3]),hS];rfl
 ·have hS:Na b=0:=by rw[Na,if_neg h1,if_neg h2,if_neg h3]
  rw[if_neg (by rw[decide_eq_false h3];decide),hS];rfl
theorem Byv(b:List UInt8)(hb:b.length≤1000000):Xy b=some (b++Ns (Bz b).toNat 4):=by
 have h:∀k:Nat,(Af (Bi (Bz b) k):UInt8)=UInt8.ofNat ((Bz b).toNat/2^k):=by
  intro k;rw[Bar,Acz]
 have h0:(Af (Bz b):UInt8)=UInt8.ofNat (Bz b).toNat:=Bar _
 have h1:=h 8
 have h2:=h 16
 have h3:=h 24
 rw[Xy,Cc8 b (by omega),Aa,Ce (by simp;omega),Aa,Ce (by simp;omega),Aa,h0,show(GI.toZ (8:UInt64)).toNat=8 from rfl,show(GI.toZ (16:UInt64)).toNat=16 from rfl,show(GI.toZ (24:UInt64)).toNat=24 from rfl,h1,h2,h3]
 simp only[Ns,Nat.div_div_eq_div_mul,List.nil_append]
theorem Bau(b:List UInt8):Pk b=some (Na b):=by
 rw[Pk]
 by_cases h1:b.length<5
 ·rw[if_pos (by rw[Ae,Ac];simp;omega),Na,if_pos h1]
 rw[if_neg (by rw[Ae,Ac];simp;omega)]
 by_cases h2:41254<b.length
 ·rw[if_pos (by rw[Ak,Ac];simp;omega),Na,if_neg h1,if_pos h2]
 have e4:Aj (Ac b) 4=((b.length-4:Nat):Int):=by rw[Ac,Az (by omega) (by omega)];omega
 have hd:(b.drop (b.length-4)).length=4:=by simp;omega
 rw[if_neg (by rw[Ak,Ac];simp;omega),e4,Gz (by omega) (by omega),Aa,show((b.length-4:Nat):Int).toNat=b.length-4 from rfl,Byv _ (by simp;omega),Aa]
 have hlt:=(Bz (b.take (b.length-4))).toNat_lt
 have hiff:(b.take (b.length-4)++Ns (Bz (b.take (b.length-4))).toNat 4 !=b)=decide ((Bz (b.take (b.length-4))).toNat≠leN (b.drop (b.length-4))):=by
  rw[Bool.eq_iff_iff]
  simp only[bne_iff_ne,ne_eq,decide_eq_true_eq]
  constructor
  ·intro h e
   apply h
   have:Ns (Bz (b.take (b.length-4))).toNat 4=b.drop (b.length-4):=Bgq (by rw[Bb,hd]) (by rw[Ul,Nat.mod_eq_of_lt (by omega),e])
   rw[this,List.take_append_drop]
  ·intro h e
   apply h
   have hx:Ns (Bz (b.take (b.length-4))).toNat 4=b.drop (b.length-4):=by
    have e2:b.take (b.length-4)++Ns (Bz (b.take (b.length-4))).toNat 4=b.take (b.length-4)++b.drop (b.length-4):=by rw[e,List.take_append_drop]
    exact List.append_cancel_left e2
   rw[←hx,Ul,Nat.mod_eq_of_lt (by omega)]
 rw[hiff]
 by_cases h3:(Bz (b.take (b.length-4))).toNat≠leN (b.drop (b.length-4))
 ·rw[if_pos (by simp[h3]),Na,if_neg h1,if_neg h2,if_pos h3]
 ·rw[if_neg (by rw[decide_eq_false h3];decide),Na,if_neg h1,if_neg h2,if_neg h3]
theorem Brh{b:List UInt8}(h:Na b=0):5≤b.length∧b.length≤41254:=by
 unfold Na at h
 split at h
 ·simp at h
 ·split at h
  ·simp at h
  ·omega
theorem Bgp{c:Nat}(h1:1≤c)(h6:c≤6):Bt (4000:Int) (c:Int)=((4000/c:Nat):Int):=by
 have:c=1∨c=2∨c=3∨c=4∨c=5∨c=6:=by omega
 rcases this with rfl|rfl|rfl|rfl|rfl|rfl<;>rfl
theorem Cga(p:List UInt8)(h:p.length≤41250):okB p (8*p.length):=⟨by omega,by omega,fun k h1 h2=>by omega⟩
theorem Aol{bits:Int}{ch n:Nat}{t:List Int32}(b:List UInt8)(hb:BitsOk bits)(ht:t.length=16)(h1:1≤ch)(h6:ch≤6)(n1:1≤n)(n2:n≤4000/ch):
  ∃l e,deframe_Decode (ch:Int) bits t (n:Int) b=some (l,e)∧cadenzaref21_Decode (ch:Int) bits t (n:Int) b=some (l,e)∧(e=0→cadenzaref18_Check bits l=some 0∧l.length≤4000∧l.length=n*ch)∧(e≠0→l=[]):=by
 have hn:n*ch≤4000:=by
  have:=Nat.mul_le_mul_right ch n2
  have h2:=Nat.div_mul_le_self 4000 ch
  omega
 have hq4:=Bgp h1 h6
 generalize 4000/ch=mm at*
 have hck:Ff (ch:Int) bits=some 0:=by
  have hr:∃x y,Qt bits=some (x,y,0):=⟨_,_,Bod hb⟩
  obtain⟨x,y,hr⟩:=hr
  rw[Ff,hr,Aa]
  simp only
  rw[if_neg (by simp[Ah,Ae,Ak];omega)]
 have hh:=Aky bits
 have hasked:Ck (ch:Int) bits (n:Int)=some 0:=by
  rw[Ck,Cc,if_neg (by simp[Ae,Ak];omega),Aoq hb,Aa,if_neg (by rw[As];simp;omega),Aa,if_neg (by simp[Ah,Ae];omega),Ba (by rw[Ah];simp;omega),Aa,hq4,if_neg (by rw[Ak];simp;omega)]
 rw[deframe_Decode,cadenzaref21_Decode,Lj,hck,hasked,Aa,Aa,if_neg (by rw[Ah];simp),if_neg (by rw[Ae];simp;omega),Ba (by rw[Ah];simp;omega),Aa,hq4,if_neg (by rw[Ak];simp;omega),if_neg (by rw[Ah];simp),Brk,Bau]
 by_cases hs:Na b≠0
 ·rw[if_pos hs]
  simp only[Aa]
  rw[if_pos (by rw[Ah];simpa using hs),if_pos (by rw[Ah];simpa using hs)]
  exact⟨[],Na b,rfl,rfl,fun e=>absurd e hs,fun _=>rfl⟩
 have hs0:Na b=0:=by simpa using hs
 have hlen:=Brh hs0
 have e4:Aj (Ac b) 4=((b.length-4:Nat):Int):=by rw[Ac,Az (by omega) (by omega)];omega
 rw[if_neg hs,hs0]
 simp only[Aa]
 rw[if_neg (by rw[Ah];simp),if_neg (by rw[Ah];simp),e4,Gz (by omega) (by omega),Aa,show((b.length-4:Nat):Int).toNat=b.length-4 from rfl]
 have hpl:(b.take (b.length-4)).length=b.length-4:=by simp
 generalize b.take (b.length-4)=p at*
 have e8:Au (8:Int) (Ac p)=((8*p.length:Nat):Int):=by rw[Ac,Fb (by omega) (by omega)];omega
 have hp:=Cga p (by omega)
 have hv:=values_eq hp h1 h6 hn
 have hr:=Bxc (N:=8*p.length) (p:=p) rfl (by omega) h1 h6 hn
 have hat:=Bo2 (ch:=ch) (p:=p) (N:=8*p.length) (n*ch) 0 [] (by omega)
 rw[Bpb,if_neg (by rw[Ak,Ac];simp;omega),Dp,Ce (by simp;omega),Aa,Aa,Aa,List.nil_append,e8]
 simp only
 rw[if_neg (by rw[Ah];simp),hv,hr,Aa,Aa]
 generalize Wl ch p (8*p.length) (n*ch) 0 []=V at*
 obtain⟨v,at',e⟩:=V
 simp only at*
 by_cases he:e≠0
 ·rw[if_pos he,if_pos he]
  simp only
  rw[if_pos (by rw[Ah];simpa using he),Lc,Lo,if_pos (by rw[Ah];simpa using he)]
  exact⟨[],e,rfl,rfl,fun h=>absurd h he,fun _=>rfl⟩
 have he0:e=0:=by simpa using he
 have hvl:=hat.2.2 he0
 simp only[List.length_nil,Nat.zero_add]at hvl
 rw[if_neg he,if_neg he]
 simp only
 rw[if_neg (by rw[Ah];simp),Az (by omega) (by omega),show((8*p.length:Nat):Int)-(at':Int)=((8*p.length-at':Nat):Int) by omega,Lc,Lo]
 by_cases h7:7<8*p.length-at'
 ·have hE:(if 7<8*p.length-at'∨Be p at' (8*p.length-at')≠0 then(12:Int)else 0)=12:=if_pos (.inl h7)
  rw[if_pos (by rw[Cu];simp;omega),hE,if_pos (by decide)]
  exact⟨[],12,rfl,rfl,fun h=>absurd h (by decide),fun _=>rfl⟩
 rw[if_neg (by rw[Cu];simp;omega),Be7 hp at' _ (by omega),if_neg (by omega),Aa]
 have hz:Ay (Mz p at' (8*p.length-at')) (0:UInt64)=decide (Be p at' (8*p.length-at')≠0):=by
  rw[Aj4,Bool.eq_iff_iff]
  simp only[bne_iff_ne,ne_eq,←UInt64.toNat_inj,decide_eq_true_eq]
  rw[Wa p _ _ (by omega)];rfl
 simp only
 rw[hz]
 by_cases hv0:Be p at' (8*p.length-at')≠0
 ·have hE:(if 7<8*p.length-at'∨Be p at' (8*p.length-at')≠0 then(12:Int)else 0)=12:=if_pos (.inr hv0)
  rw[if_pos (by simp[hv0]),hE,if_pos (by decide)]
  exact⟨[],12,rfl,rfl,fun h=>absurd h (by decide),fun _=>rfl⟩
 have hm:v.length %ch=0:=by rw[hvl];exact Nat.mul_mod_left n ch
 obtain⟨l,e,g1,g2,g3,g4,g5⟩:=Bpz (v:=v) hb ht h1 h6 (by omega) hm
 have hE:(if 7<8*p.length-at'∨Be p at' (8*p.length-at')≠0 then(12:Int)else 0)=0:=if_neg (by omega)
 rw[if_neg (by rw[decide_eq_false hv0];decide),hE,if_neg (by decide),g1,g3,Aa,Aa,g2]
 by_cases hl:e≠0
 ·rw[if_pos hl]
  exact⟨[],e,rfl,rfl,fun h=>absurd h hl,fun _=>rfl⟩
 ·rw[if_neg hl]
  have hl0:e=0:=by simpa using hl
  exact⟨l,0,rfl,rfl,fun _=>⟨by rw[g4,hl0],by omega,by omega⟩,fun e=>absurd rfl e⟩
end Go.Pl
set_option linter.unusedVariables false
set_option linter.unusedSimpArgs false
namespace Go.Pl
open Go Go.Lv
theorem Cdz(a b:Int32):a-(a-b)=b:=by
 apply Int32.toBitVec_inj.1
 simp only[Int32.toBitVec_sub]
 apply BitVec.eq_of_toNat_eq
 simp only[BitVec.toNat_sub]
 have:=a.toBitVec.isLt
 have:=b.toBitVec.isLt
 omega
theorem Ao2(a b:Int32):a-b+b=a:=by
 apply Int32.toBitVec_inj.1
 simp only[Int32.toBitVec_sub,Int32.toBitVec_add]
 apply BitVec.eq_of_toNat_eq
 simp only[BitVec.toNat_sub,BitVec.toNat_add]
 have:=a.toBitVec.isLt
 have:=b.toBitVec.isLt
 omega
def mxV(f:Nat→Int32)(ch i:Nat):Int32:=if i+1<ch then f (i+1)-f i else if 1<ch then f (ch-1)-Bt (f (ch-1)-f (ch-2)) (2:Int32)else f (ch-1)
theorem Ccr{f g:Nat→Int32}{ch:Nat}(h1:1≤ch)(h:∀i,i<ch→f i=mxV g ch i):∀j,j<ch→unV f ch j=g (ch-1-j)
 |0,_=>by
  rw[unV]
  by_cases h2:1<ch
  ·rw[if_pos h2,h (ch-1) (by omega),h (ch-2) (by omega),mxV,mxV,if_neg (by omega),if_pos h2,if_pos (by omega),show ch-2+1=ch-1 by omega,Ao2,Nat.sub_zero]
  ·rw[if_neg h2,h (ch-1) (by omega),mxV,if_neg (by omega),if_neg h2,Nat.sub_zero]
 |j+1,hj=>by
  rw[unV,Ccr h1 h j (by omega),h (ch-2-j) (by omega),mxV,if_pos (by omega),show ch-2-j+1=ch-1-j by omega,Cdz]
  congr 1;omega
def mx(ch:Nat)(x:List Int32):List Int32:=(List.range x.length).map fun k=>mxV (fun i=>x.getD (k-k %ch+i) 0) ch (k %ch)
theorem Aln(ch:Nat)(x:List Int32):(mx ch x).length=x.length:=by simp[mx]
theorem Ceo{ch:Nat}{x:List Int32}{k:Nat}(h:k<x.length):(mx ch x).getD k 0=mxV (fun i=>x.getD (k-k %ch+i) 0) ch (k %ch):=by
 rw[Hn (by rw[Aln];exact h)];simp[mx]
theorem Cjq{ch:Nat}{x:List Int32}(h1:1≤ch)(hm:x.length %ch=0):unm ch (mx ch x)=x:=by
 apply List.ext_getElem (by rw[Atm,Aln])
 intro k hk1 hk2
 have hr:=Nat.mod_lt k (show 0<ch by omega)
 have hle:=Nat.mod_le k ch
 have ha:(k-k %ch) %ch=0:=Nat.mod_eq_zero_of_dvd (Nat.dvd_sub_mod k)
 have hb:=Bb9 ha hm (by omega)
 have e:=Bb7 (m:=mx ch x) ha hr (by rw[Aln];omega)
 rw[show k-k %ch+k %ch=k by omega]at e
 rw[←Hn hk1,←Hn hk2,e]
 rw[Ccr (g:=fun i=>x.getD (k-k %ch+i) 0) h1 (fun i hi=>?_) (ch-1-k %ch) (by omega)]
 ·congr 1;omega
 ·rw[Ceo (by omega)]
  have h2:(k-k %ch+i) %ch=i:=by rw[Nat.add_mod,ha,Nat.zero_add,Nat.mod_mod,Nat.mod_eq_of_lt hi]
  rw[h2,show k-k %ch+i-i=k-k %ch by omega]
def Awv(x:Int32):UInt32:=UInt32.ofNat (if 0≤x.toInt then 2*x.toInt.toNat else 2*(-x.toInt-1).toNat+1)
theorem Cd6(x:Int32):Anf (Awv x)=x:=by
 have h:=Xa x
 have e:(Awv x).toNat=if 0≤x.toInt then 2*x.toInt.toNat else 2*(-x.toInt-1).toNat+1:=by
  rw[Awv,UInt32.toNat_ofNat']
  split<;>exact Nat.mod_eq_of_lt (by omega)
 rw[Anf,e]
 by_cases h0:0≤x.toInt
 ·rw[if_pos h0,if_pos (by omega),show((2*x.toInt.toNat/2:Nat):Int)=x.toInt by omega,Int32.ofInt_toInt]
 ·rw[if_neg h0,if_neg (by omega),show -(((2*(-x.toInt-1).toNat+1)/2:Nat):Int)-1=x.toInt by omega,Int32.ofInt_toInt]
theorem Blz{α:Type}(ch c:Nat)(f g:α→Nat→α)(a0:α):∀m:Nat,(∀i,i<m→∀a,f a i=g a i)→pre ch c f a0 m=pre ch c g a0 m
 |0,_=>rfl
 |m+1,h=>by
  rw[pre,pre,Blz ch c f g a0 m fun i hi=>h i (by omega),h m (by omega)]
theorem Bv3(bits:Int)(ch:Nat)(t:List Int32)(v w:List UInt32)(c i:Nat)(h:i≤v.length):cst bits ch t (v++w) c i=cst bits ch t v c i:=by
 unfold cst
 apply Blz
 intro j hj a
 have:(v++w).getD j 0=v.getD j 0:=by
  rw[List.getD_eq_getElem?_getD,List.getD_eq_getElem?_getD,List.getElem?_append_left (by omega)]
 rw[this]
def Bgj(bits:Int)(s:CS)(x:Int32):Int32:=x-gs (shB bits) s.1-gF (sB bits) s.2.1 s.2.2
theorem Blp(bits:Int)(s:CS)(x:Int32):Bte bits s (Bgj bits s x)=x:=by
 rw[Bte,Bgj,Ao2,Ao2]
def evl(bits:Int)(ch:Nat)(t m:List Int32):Nat→List UInt32
 |0=>[]
 |i+1=>evl bits ch t m i++[Awv (Bgj bits (cst bits ch t (evl bits ch t m i) (i %ch) i) (m.getD i 0))]
theorem Aya(bits:Int)(ch:Nat)(t m:List Int32):∀i,(evl bits ch t m i).length=i
 |0=>rfl
 |i+1=>by rw[evl,List.length_append,Aya bits ch t m i];rfl
theorem Bok(bits:Int)(ch:Nat)(t m:List Int32):∀(j i:Nat),∃w,evl bits ch t m (i+j)=evl bits ch t m i++w
 |0,i=>⟨[],by simp⟩
 |j+1,i=>by
  obtain⟨w,hw⟩:=Bok bits ch t m j i
  rw[←Nat.add_assoc,evl,hw]
  exact⟨_,List.append_assoc _ _ _⟩
theorem Cgm(bits:Int)(ch:Nat)(t m:List Int32):smp bits ch t (evl bits ch t m m.length)=m:=by
 have hl:=Aya bits ch t m m.length
 apply List.ext_getElem (by rw[Asi,hl])
 intro i h1 h2
 rw[←Hn h1,←Hn h2,Bpl _ _ _ _ (by omega)]
 obtain⟨w,hw⟩:=Bok bits ch t m (m.length-(i+1)) (i+1)
 rw[show i+1+(m.length-(i+1))=m.length by omega,evl,List.append_assoc]at hw
 have hli:=Aya bits ch t m i
 rw[hw,Bv3 _ _ _ _ _ _ _ (by omega)]
 have hg:(evl bits ch t m i++([Awv (Bgj bits (cst bits ch t (evl bits ch t m i) (i %ch) i) (m.getD i 0))]++w)).getD i 0=Awv (Bgj bits (cst bits ch t (evl bits ch t m i) (i %ch) i) (m.getD i 0)):=by
  rw[List.getD_eq_getElem?_getD,List.getElem?_append_right (by omega),hli,Nat.sub_self];rfl
 rw[hg,Cd6,Blp]
end Go.Pl
set_option linter.unusedVariables false
set_option linter.unusedSimpArgs false
namespace Go.Pl
open Go Go.Lv
def tb(l:List Bool)(k:Nat):Nat:=if l.getD k false=true then 1 else 0
theorem Bxp(b:Bool)(l:List Bool):tb (b::l) 0=if b=true then 1 else 0:=rfl
theorem Bxk(b:Bool)(l:List Bool)(k:Nat):tb (b::l) (k+1)=tb l k:=by simp[tb]
theorem Bx6{a b:List Bool}{k:Nat}(h:k<a.length):tb (a++b) k=tb a k:=by
 rw[tb,tb,List.getD_eq_getElem?_getD,List.getD_eq_getElem?_getD,List.getElem?_append_left h]
theorem Bob(a b:List Bool)(k:Nat):tb (a++b) (a.length+k)=tb b k:=by
 rw[tb,tb,List.getD_eq_getElem?_getD,List.getD_eq_getElem?_getD,List.getElem?_append_right (by omega),Nat.add_sub_cancel_left]
theorem Bpi{l:List Bool}{k:Nat}(h:l.length≤k):tb l k=0:=by
 rw[tb,List.getD_eq_getElem?_getD,List.getElem?_eq_none h];rfl
def At(p:List UInt8)(a:Nat)(c:List Bool):Prop:=∀i,i<c.length→Fh p (a+i)=tb c i
theorem At.left{p:List UInt8}{a:Nat}{c d:List Bool}(h:At p a (c++d)):At p a c:=fun i hi=>by
 rw[h i (by rw[List.length_append];omega),Bx6 hi]
theorem At.right{p:List UInt8}{a:Nat}{c d:List Bool}(h:At p a (c++d)):At p (a+c.length) d:=fun i hi=>by
 rw[Nat.add_assoc,h (c.length+i) (by rw[List.length_append];omega),Bob]
theorem At.cons{p:List UInt8}{a:Nat}{b:Bool}{c:List Bool}(h:At p a (b::c)):Fh p a=(if b=true then 1 else 0)∧At p (a+1) c:=by
 have h0:=h 0 (by simp)
 rw[Nat.add_zero,Bxp]at h0
 refine⟨h0,fun i hi=>?_⟩
 have:=h (i+1) (by simp;omega)
 rw[Bxk]at this
 rw[show a+1+i=a+(i+1) by omega,this]
def Aua:Nat→Nat→List Bool
 |_,0=>[]
 |v,n+1=>decide (v %2=1)::Aua (v/2) n
theorem Qh:∀(v n:Nat),(Aua v n).length=n
 |_,0=>rfl
 |v,n+1=>by rw[Aua,List.length_cons,Qh (v/2) n]
theorem Afz(p:List UInt8):∀(n a v:Nat),At p a (Aua v n)→Be p a n=v %2^n
 |0,a,v,_=>by rw[Be,Nat.pow_zero,Nat.mod_one]
 |n+1,a,v,h=>by
  rw[Aua]at h
  obtain⟨h0,h1⟩:=h.cons
  rw[Be,h0,Afz p n (a+1) (v/2) h1,Nat.pow_succ,Nat.mul_comm (2^n) 2,Nat.mod_mul]
  have:=Nat.mod_two_eq_zero_or_one v
  rcases this with e|e<;>simp[e]
theorem Bjw(p:List UInt8):∀(q m a:Nat) (c:List Bool),At p a (List.replicate q true++c)→q≤m→Ep p a m=q+Ep p (a+q) (m-q)
 |0,m,a,c,h,hm=>by simp
 |q+1,m,a,c,h,hm=>by
  rw[List.replicate_succ,List.cons_append]at h
  obtain⟨h0,h1⟩:=h.cons
  obtain⟨m,rfl⟩:∃k,m=k+1:=⟨m-1,by omega⟩
  rw[Ep,if_pos (by rw[h0];rfl),Bjw p q m (a+1) c h1 (by omega),show a+1+q=a+(q+1) by omega,show m+1-(q+1)=m-q by omega]
  omega
theorem Ch6{p:List UInt8}{a m:Nat}(h:Fh p a=0):Ep p a m=0:=by
 cases m with
 |zero=>rfl
 |succ m=>rw[Ep,if_neg (by omega)]
def Am2(l v:Nat):List Bool:=if 48≤v/2^l then List.replicate 48 true++Aua v 32 else List.replicate (v/2^l) true++(false::Aua (v %2^l) l)
theorem Ca3{l v:Nat}(hl:l≤24):1≤(Am2 l v).length∧(Am2 l v).length≤80:=by
 rw[Am2]
 generalize v/2^l=q
 split
 ·rw[List.length_append,List.length_replicate,Qh];omega
 ·rw[List.length_append,List.length_replicate,List.length_cons,Qh];omega
theorem Bz4{p:List UInt8}{N a l v:Nat}(hl:l≤24)(hv:v<2^32)(h:At p a (Am2 l v))(hN:a+(Am2 l v).length≤N):rcS p N a l=(UInt32.ofNat v,((a+(Am2 l v).length:Nat):Int),0):=by
 rw[Am2]at h hN⊢
 by_cases h48:48≤v/2^l
 ·rw[if_pos h48]at h hN⊢
  rw[List.length_append,List.length_replicate,Qh]at hN⊢
  have hm:min 48 (N-a)=48:=by omega
  have ho:=Bjw p 48 48 a (Aua v 32) h (Nat.le_refl _)
  rw[Nat.sub_self,Ep,Nat.add_zero]at ho
  have hr:=h.right
  rw[List.length_replicate]at hr
  have hval:=Afz p 32 (a+48) v hr
  rw[Nat.mod_eq_of_lt hv]at hval
  rw[rcS,if_neg (by omega),hm,ho,if_neg (by omega),if_pos rfl,if_neg (by omega),hval,if_neg (by omega)]
 ·rw[if_neg h48]at h hN⊢
  rw[List.length_append,List.length_replicate,List.length_cons,Qh]at hN⊢
  generalize hq:v/2^l=q at*
  have hr:=h.right
  rw[List.length_replicate]at hr
  obtain⟨h0,h1⟩:=hr.cons
  have hm:q<min 48 (N-a):=by omega
  have ho:=Bjw p q (min 48 (N-a)) a _ h (by omega)
  rw[Ch6 (a:=a+q) (m:=min 48 (N-a)-q) (by rw[h0];rfl),Nat.add_zero]at ho
  have hval:=Afz p l (a+q+1) (v %2^l) h1
  rw[Nat.mod_mod]at hval
  have hdm:=Nat.div_add_mod v (2^l)
  rw[hq,Nat.mul_comm]at hdm
  rw[rcS,if_neg (by omega),ho,if_pos hm,if_neg (by omega),hval,hdm,show a+q+1+l=a+(q+(l+1)) by omega]
def Pa(k l:Nat)(v:UInt32):List Bool:=if v.toNat<2^k then false::Aua v.toNat k else true::Am2 l (v.toNat-2^k)
theorem Aq0{k l:Nat}(v:UInt32)(hk:k≤24)(hl:l≤24):1≤(Pa k l v).length∧(Pa k l v).length≤81:=by
 have:=Ca3 (v:=v.toNat-2^k) hl
 rw[Pa]
 split
 ·rw[List.length_cons,Qh];omega
 ·rw[List.length_cons];omega
theorem Ca5{p:List UInt8}{N a k l:Nat}{v:UInt32}(hk:k≤24)(hl:l≤24)(h:At p a (Pa k l v))(hN:a+(Pa k l v).length≤N):dgS p N a k l=(v,((a+(Pa k l v).length:Nat):Int),0):=by
 have hvlt:=v.toNat_lt
 have hof:UInt32.ofNat v.toNat=v:=by simp
 rw[Pa]at h hN⊢
 by_cases hs:v.toNat<2^k
 ·rw[if_pos hs]at h hN⊢
  rw[List.length_cons,Qh]at hN⊢
  obtain⟨h0,h1⟩:=h.cons
  have hval:=Afz p k (a+1) v.toNat h1
  rw[Nat.mod_eq_of_lt hs]at hval
  rw[dgS,if_neg (by omega),if_pos (by rw[h0];rfl),if_neg (by omega),hval,hof,show a+1+k=a+(k+1) by omega]
 ·rw[if_neg hs]at h hN⊢
  rw[List.length_cons]at hN⊢
  obtain⟨h0,h1⟩:=h.cons
  have hsub:=Nat.sub_le v.toNat (2^k)
  have hr:=Bz4 hl (by omega:v.toNat-2^k<2^32) h1 (by omega:a+1+_≤N)
  have ht:(UInt32.ofNat (v.toNat-2^k)).toNat=v.toNat-2^k:=by rw[UInt32.toNat_ofNat'];exact Nat.mod_eq_of_lt (by omega)
  rw[dgS,if_neg (by omega),if_neg (by rw[h0];decide),hr]
  simp only
  rw[if_neg (by decide),ht,if_neg (by omega),show v.toNat-2^k+2^k=v.toNat by omega,hof,show a+1+(Am2 l (v.toNat-2^k)).length=a+((Am2 l (v.toNat-2^k)).length+1) by omega]
def bv:List Bool→Nat
 |[]=>0
 |b::r=>(if b=true then 1 else 0)+2*bv r
theorem Cix:∀l:List Bool,bv l<2^l.length
 |[]=>by decide
 |b::r=>by
  have:=Cix r
  rw[bv,List.length_cons,Nat.pow_succ]
  split<;>omega
theorem Cfa:∀(l:List Bool) (k:Nat),bv l/2^k %2=tb l k
 |[],k=>by simp[bv,tb]
 |b::r,0=>by
  rw[bv,Bxp,Nat.pow_zero,Nat.div_one]
  split<;>omega
 |b::r,k+1=>by
  have:((if b=true then 1 else 0)+2*bv r)/2=bv r:=by split<;>omega
  rw[bv,Bxk,Nat.pow_succ,Nat.mul_comm (2^k) 2,←Nat.div_div_eq_div_mul,this,Cfa r k]
def Jd(c:List Bool):List UInt8:=(List.range ((c.length+7)/8)).map fun j=>UInt8.ofNat (bv ((c.drop (8*j)).take 8))
theorem Wf(c:List Bool):(Jd c).length=(c.length+7)/8:=by simp[Jd]
theorem Aa3(c:List Bool)(i:Nat):Fh (Jd c) i=tb c i:=by
 rw[Fh]
 by_cases h:i/8<(c.length+7)/8
 ·have hg:(Jd c).getD (i/8) 0=UInt8.ofNat (bv ((c.drop (8*(i/8))).take 8)):=by
   rw[List.getD_eq_getElem?_getD,List.getElem?_eq_getElem (by rw[Wf];exact h)]
   simp[Jd]
  have hlt:=Cix ((c.drop (8*(i/8))).take 8)
  have hl8:((c.drop (8*(i/8))).take 8).length≤8:=by rw[List.length_take];omega
  have hp:=Nat.pow_le_pow_right (show 0<2 by omega) hl8
  have hn:(UInt8.ofNat (bv ((c.drop (8*(i/8))).take 8))).toNat=bv ((c.drop (8*(i/8))).take 8):=by
   rw[UInt8.toNat_ofNat'];exact Nat.mod_eq_of_lt (by omega)
  rw[hg,hn,Cfa,tb,tb]
  have:((c.drop (8*(i/8))).take 8).getD (i %8) false=c.getD i false:=by
   rw[List.getD_eq_getElem?_getD,List.getD_eq_getElem?_getD,List.getElem?_take,if_pos (by omega),List.getElem?_drop,show 8*(i/8)+i %8=i by omega]
  rw[this]
 ·have hg:(Jd c).getD (i/8) 0=0:=by
   rw[List.getD_eq_getElem?_getD,List.getElem?_eq_none (by rw[Wf];omega)];rfl
  rw[hg,Bpi (by omega)]
  simp
def Oo(ch:Nat)(V:List UInt32):Nat→List Bool
 |0=>[]
 |i+1=>Oo ch V i++Pa (now ch (V.take i)).1 (now ch (V.take i)).2.1 (V.getD i 0)
theorem Bo6(ch:Nat)(v:List UInt32):(now ch v).1≤24∧(now ch v).2.1≤24:=by
 have:=Awr ch v (v.length %ch) v.length
 exact⟨this.1,this.2.1⟩
theorem Brd(ch:Nat)(V:List UInt32):∀(j i:Nat),∃w,Oo ch V (i+j)=Oo ch V i++w
 |0,i=>⟨[],by simp⟩
 |j+1,i=>by
  obtain⟨w,hw⟩:=Brd ch V j i
  rw[←Nat.add_assoc,Oo,hw]
  exact⟨_,List.append_assoc _ _ _⟩
theorem Avh(ch:Nat)(V:List UInt32):∀i,(Oo ch V i).length≤81*i
 |0=>by simp[Oo]
 |i+1=>by
  have h:=Bo6 ch (V.take i)
  have:=Aq0 (V.getD i 0) h.1 h.2
  rw[Oo,List.length_append]
  have:=Avh ch V i
  omega
theorem Bly(ch:Nat)(V:List UInt32)(N:Nat)(hN:(Oo ch V V.length).length≤N):∀(j i:Nat),i+j=V.length→Wl ch (Jd (Oo ch V V.length)) N j (Oo ch V i).length (V.take i)=(V,(Oo ch V V.length).length,0)
 |0,i,h=>by
  obtain rfl:i=V.length:=by omega
  rw[Wl,List.take_length]
 |j+1,i,h=>by
  obtain⟨w,hw⟩:=Brd ch V j (i+1)
  rw[show i+1+j=V.length by omega]at hw
  have hk:=Bo6 ch (V.take i)
  have hcl:=Aq0 (V.getD i 0) hk.1 hk.2
  have hAt:At (Jd (Oo ch V V.length)) (Oo ch V i).length (Pa (now ch (V.take i)).1 (now ch (V.take i)).2.1 (V.getD i 0)):=by
   intro m hm
   rw[Aa3,hw,Oo,List.append_assoc,Bob,Bx6 hm]
  have hlen:(Oo ch V i).length+(Pa (now ch (V.take i)).1 (now ch (V.take i)).2.1 (V.getD i 0)).length≤(Oo ch V V.length).length:=by
   rw[hw,Oo,List.length_append,List.length_append];omega
  have ih:=Bly ch V N hN j (i+1) (by omega)
  rw[Oo,List.length_append]at ih
  generalize Jd (Oo ch V V.length)=p at*
  generalize(Oo ch V i).length=a at*
  have hw2:(Pa (now ch (V.take i)).1 (now ch (V.take i)).2.1 (V.getD i 0)).length≤win N a:=by unfold win;omega
  have hAt2:At (Nt p a (win N a)) 0 (Pa (now ch (V.take i)).1 (now ch (V.take i)).2.1 (V.getD i 0)):=by
   intro m hm
   rw[Nat.zero_add,Bbi,if_pos (by omega),hAt m hm]
  have hb:=Ca5 hk.1 hk.2 hAt2 (by omega:0+_≤win N a)
  have hcode:Kl ch p N a (V.take i)=(V.getD i 0,((0+(Pa (now ch (V.take i)).1 (now ch (V.take i)).2.1 (V.getD i 0)).length:Nat):Int),0):=hb
  rw[Wl,hcode]
  simp only
  rw[if_neg (by decide),Nat.zero_add,Int.toNat_natCast]
  have ht:V.take i++[V.getD i 0]=V.take (i+1):=by
   have hg:V.getD i 0=V[i]:=by rw[List.getD_eq_getElem?_getD,List.getElem?_eq_getElem (by omega)];rfl
   rw[hg,Ir (by omega)]
  rw[ht]
  exact ih
end Go.Pl
set_option linter.unusedVariables false
set_option linter.unusedSimpArgs false
namespace Go.Pl
open Go Go.Lv
def P64:Nat:=4823603603198064275
def Aiy(s:Nat):Nat:=(2*s %18446744073709551616)^^^ (s/9223372036854775808*P64)
theorem Arn{s:Nat}(h:s<18446744073709551616):Aiy s<18446744073709551616:=by
 have h1:s/9223372036854775808=0∨s/9223372036854775808=1:=by omega
 exact Nat.xor_lt_two_pow (n:=64) (Nat.mod_lt _ (by decide)) (by rcases h1 with e|e<;>rw[e]<;>decide)
theorem Bxn(x y:Nat):(x^^^y)/9223372036854775808=(x/9223372036854775808)^^^ (y/9223372036854775808):=by
 have:=Nat.shiftRight_xor_distrib (a:=x) (b:=y) (i:=63)
 simpa [Nat.shiftRight_eq_div_pow]using this
theorem Bwq(x y:Nat):2*(x^^^y) %18446744073709551616=(2*x %18446744073709551616)^^^ (2*y %18446744073709551616):=by
 have h1:=Nat.shiftLeft_xor_distrib (a:=x) (b:=y) (i:=1)
 have h2:=Nat.xor_mod_two_pow (a:=2*x) (b:=2*y) (n:=64)
 have e:2*(x^^^y)=(2*x)^^^ (2*y):=by simpa [Nat.shiftLeft_eq,Nat.mul_comm]using h1
 rw[e];exact h2
theorem Cir{a b:Nat}(ha:a=0∨a=1)(hb:b=0∨b=1)(p:Nat):(a^^^b)*p=(a*p)^^^ (b*p):=by
 rcases ha with rfl|rfl<;>rcases hb with rfl|rfl<;>simp
theorem Cmv(a b c d:Nat):(a^^^b)^^^ (c^^^d)=(a^^^c)^^^ (b^^^d):=by
 rw[Nat.xor_assoc,Nat.xor_assoc,←Nat.xor_assoc b c d,Nat.xor_comm b c,Nat.xor_assoc c b d]
theorem Bub{x y:Nat}(hx:x<18446744073709551616)(hy:y<18446744073709551616):Aiy (x^^^y)=Aiy x^^^Aiy y:=by
 rw[Aiy,Aiy,Aiy,Bwq,Bxn,Cir (by omega) (by omega),Cmv]
def Nf:Nat→Nat→Nat
 |0,s=>s
 |k+1,s=>Nf k (Aiy s)
theorem Bdn:∀(k:Nat) {s:Nat},s<18446744073709551616→Nf k s<18446744073709551616
 |0,_,h=>h
 |k+1,_,h=>Bdn k (Arn h)
theorem Bj9:∀(k:Nat) {x y:Nat},x<18446744073709551616→y<18446744073709551616→Nf k (x^^^y)=Nf k x^^^Nf k y
 |0,_,_,_,_=>rfl
 |k+1,x,y,hx,hy=>by rw[Nf,Bub hx hy,Bj9 k (Arn hx) (Arn hy)];rfl
theorem Bkc:∀(k h:Nat),2^k*h<18446744073709551616→Nf k h=2^k*h
 |0,h,_=>by simp[Nf]
 |k+1,h,hl=>by
  have hpos:0<2^k:=Nat.pow_pos (by omega)
  rw[Nat.pow_succ,Nat.mul_assoc]at hl
  have h2:2*h<18446744073709551616:=Nat.lt_of_le_of_lt (Nat.le_mul_of_pos_left _ hpos) hl
  have:Aiy h=2*h:=by rw[Aiy,Nat.mod_eq_of_lt h2,show h/9223372036854775808=0 by omega];simp
  rw[Nf,this,Bkc k _ hl,Nat.pow_succ,Nat.mul_assoc]
def Avw(s c:Nat):Nat:=Nf 8 (s^^^ (c*72057594037927936))
theorem c56{c:Nat}(hc:c<256):c*72057594037927936<18446744073709551616:=by omega
theorem Bdo{s c:Nat}(h:s<18446744073709551616)(hc:c<256):Avw s c<18446744073709551616:=Bdn 8 (Nat.xor_lt_two_pow (n:=64) h (c56 hc))
theorem Chq(s:Nat):s=(s/72057594037927936*72057594037927936)^^^ (s %72057594037927936):=by
 have h1:s %72057594037927936<2^56:=Nat.mod_lt _ (by decide)
 have:=Nat.two_pow_add_eq_or_of_lt h1 (s/72057594037927936)
 have h2:2^56*(s/72057594037927936)|||s %72057594037927936=(2^56*(s/72057594037927936))^^^ (s %72057594037927936):=by
  apply Nat.eq_of_testBit_eq;intro i
  rw[Nat.testBit_or,Nat.testBit_xor]
  by_cases hi:i<56
  ·have:(2^56*(s/72057594037927936)).testBit i=false:=by rw[Nat.testBit_two_pow_mul];simp;omega
   rw[this];simp
  ·have:(s %72057594037927936).testBit i=false:=Nat.testBit_lt_two_pow (Nat.lt_of_lt_of_le h1 (Nat.pow_le_pow_right (by omega) (by omega)))
   rw[this];simp
 rw[Nat.mul_comm (s/72057594037927936)]
 show s=(2^56*(s/72057594037927936))^^^ _
 rw[←h2,←this]
 have:=Nat.div_add_mod s 72057594037927936
 show s=72057594037927936*_+_
 omega
theorem Byt(a c:Nat):(a^^^c)*72057594037927936=(a*72057594037927936)^^^ (c*72057594037927936):=by
 have h1:=Nat.shiftLeft_xor_distrib (a:=a) (b:=c) (i:=56)
 simpa [Nat.shiftLeft_eq]using h1
theorem Bpq{s c:Nat}(h:s<18446744073709551616)(hc:c<256):Avw s c=(256*s %18446744073709551616)^^^Nf 8 (((s/72057594037927936)^^^c)*72057594037927936):=by
 have hs:s/72057594037927936<2^8:=by show _<256;omega
 have hx:(s/72057594037927936)^^^c<256:=Nat.xor_lt_two_pow (n:=8) hs (by simpa using hc)
 have hl:s %72057594037927936<72057594037927936:=Nat.mod_lt _ (by decide)
 rw[Avw]
 conv=>lhs;rw[Chq s]
 rw[Nat.xor_comm (s/72057594037927936*72057594037927936),Nat.xor_assoc,←Byt,Bj9 8 (by omega) (c56 hx),Bkc 8 _ (by show 256*_<_;omega)]
 congr 1
 show 256*(s %72057594037927936)=_
 omega
def Bho(s:Nat)(l:List UInt8):Nat:=l.foldl (fun s c=>Avw s c.toNat) s
theorem Blh{n:Nat}(h:n<18446744073709551616):(UInt64.ofNat n).toNat=n:=by rw[UInt64.toNat_ofNat'];exact Nat.mod_eq_of_lt h
theorem Cjt(s:UInt64)(bit:Nat)(hb:bit=0∨bit=1):Acq s (bit:Int)=some (UInt64.ofNat ((2*s.toNat %18446744073709551616)^^^ (((s.toNat/9223372036854775808)^^^bit)*P64))):=by
 have hs:=s.toNat_lt
 have ht:s.toNat/9223372036854775808=0∨s.toNat/9223372036854775808=1:=by omega
 have e1:(Au s (2:UInt64)).toNat=2*s.toNat %18446744073709551616:=by
  rw[Ahz,UInt64.toNat_mul];show s.toNat*2 %_=_;rw[Nat.mul_comm]
 have hlt:2*s.toNat %18446744073709551616<18446744073709551616:=Nat.mod_lt _ (by decide)
 have ey:Sy (Au s (2:UInt64)) (4823603603198064275:UInt64)=UInt64.ofNat ((2*s.toNat %18446744073709551616)^^^P64):=by
  apply UInt64.toNat_inj.1
  rw[Bjt,UInt64.toNat_xor,e1,Blh (Nat.xor_lt_two_pow (n:=64) hlt (by decide))];rfl
 have en:Au s (2:UInt64)=UInt64.ofNat (2*s.toNat %18446744073709551616):=by
  apply UInt64.toNat_inj.1
  rw[e1,Blh hlt]
 have eg:Jz s (9223372036854775808:UInt64)=decide (s.toNat/9223372036854775808=1):=by
  rw[Cii,decide_eq_decide]
  show 9223372036854775808≤s.toNat↔_
  omega
 have hp:∀b:Bool,Vg s b=some (if b=true then UInt64.ofNat ((2*s.toNat %18446744073709551616)^^^P64)else UInt64.ofNat (2*s.toNat %18446744073709551616)):=by
  intro b
  rw[Vg,Agm,ey,en];cases b<;>rfl
 rw[Acq,Ag7,hp,hp,eg]
 rcases hb with rfl|rfl<;>rcases ht with h|h<;>rw[h]<;>simp[As]
theorem Bfs(c:UInt8):∀(j q:Nat) (s:UInt64),j≤8→j<q→Jl c q s ((2^j/2:Nat):Int)=some (UInt64.ofNat (Nf j (s.toNat^^^ (c.toNat %2^j*2^(64-j)))))
 |0,q+1,s,_,_=>by
  rw[Jl,Ut,if_neg (by rw[Ak];simp),Ah8,Ag1]
  simp[Nf,Nat.mod_one]
 |j+1,q+1,s,hj,hq=>by
  have hc:=c.toNat_lt
  have hs:=s.toNat_lt
  have hj2:2^j≤2^7:=Nat.pow_le_pow_right (by omega) (by omega)
  have hpos:0<2^j:=Nat.pow_pos (by omega)
  have e1:2^(j+1)/2=2^j:=by rw[Nat.pow_succ];omega
  have e2:Bt ((2^j:Nat):Int) 2=((2^j/2:Nat):Int):=by
   generalize 2^j=K at*
   rw[Afj,Int.tdiv_eq_ediv_of_nonneg (by omega),Br (by omega) (by omega)];omega
  have e3:Fc (Bt (Af c:Int) ((2^j:Nat):Int)) (2:Int)=((c.toNat/2^j %2:Nat):Int):=by
   have hX:=Nat.div_le_self c.toNat (2^j)
   rw[Ako,Afj,←Int.ofNat_tdiv]
   generalize c.toNat/2^j=X at*
   rw[Br (by omega) (by omega),Fc,Int.tmod_eq_emod_of_nonneg (by omega)];omega
  have hbit:c.toNat/2^j %2=0∨c.toNat/2^j %2=1:=by omega
  rw[Jl,Ut,e1,if_pos (by rw[Ak,decide_eq_true_eq];omega),Ba (by rw[Ah,bne_iff_ne];omega),Aa,e3,Cjt s _ hbit,Aa,e2,Bfs c j q _ (by omega) (by omega)]
  congr 2
  rw[Nf]
  congr 1
  have hx:c.toNat %2^(j+1)*2^(64-(j+1))=(c.toNat/2^j %2)*9223372036854775808+c.toNat %2^j*2^(63-j):=by
   have h63:(9223372036854775808:Nat)=2^j*2^(63-j):=by rw[←Nat.pow_add,show j+(63-j)=63 by omega]
   rw[Nat.mod_pow_succ,h63,show 64-(j+1)=63-j by omega,Nat.add_mul,Nat.add_comm,Nat.mul_assoc,Nat.mul_left_comm]
  have hr:c.toNat %2^j<2^j:=Nat.mod_lt _ hpos
  have hb63:c.toNat %2^j*2^(63-j)<9223372036854775808:=by
   have h63:(9223372036854775808:Nat)=2^j*2^(63-j):=by rw[←Nat.pow_add,show j+(63-j)=63 by omega]
   rw[h63];exact Nat.mul_lt_mul_of_pos_right hr (Nat.pow_pos (by omega))
  have h64:c.toNat %2^j*2^(64-j)=2*(c.toNat %2^j*2^(63-j)):=by
   rw[show 64-j=(63-j)+1 by omega,Nat.pow_succ,←Nat.mul_assoc,Nat.mul_comm]
  rw[hx,h64]
  generalize c.toNat %2^j*2^(63-j)=R at*
  generalize c.toNat/2^j %2=b at*
  have ht:s.toNat/9223372036854775808=0∨s.toNat/9223372036854775808=1:=by omega
  have hp:((s.toNat/9223372036854775808^^^b)*P64)<18446744073709551616:=by
   rcases ht with h|h<;>rcases hbit with h2|h2<;>rw[h,h2]<;>decide
  rw[Blh (Nat.xor_lt_two_pow (n:=64) (Nat.mod_lt _ (by decide)) hp),Aiy,Bwq,Bxn,show(b*9223372036854775808+R)/9223372036854775808=b by omega,show 2*(b*9223372036854775808+R) %18446744073709551616=2*R by omega,Nat.xor_assoc,Nat.xor_assoc,Nat.xor_comm (2*R)]
theorem Cj5(c:UInt8)(s:UInt64):Aot s c=some (UInt64.ofNat (Avw s.toNat c.toNat)):=by
 have h:=Bfs c 8 FUEL s (Nat.le_refl _) (by have:=Al;omega)
 have hc:=c.toNat_lt
 rw[Nat.mod_eq_of_lt (show c.toNat<2^8 by simpa using hc)]at h
 exact h
theorem Ay9(b:List UInt8)(hb:b.length<4611686018427387904):∀(j i q:Nat) (s:UInt64),i+j=b.length→j<q→Hc b q s (i:Int)=some (UInt64.ofNat (Bho s.toNat (b.drop i)))
 |0,i,q+1,s,hi,_=>by
  rw[Hc,Rv,if_neg (by rw[Ae,Ac];simp;omega),show i=b.length by omega,List.drop_length]
  simp[Ad4,Ac0,Bho]
 |j+1,i,q+1,s,hi,hq=>by
  have hlt:i<b.length:=by omega
  have hc:=b[i].toNat_lt
  rw[Hc,Rv,if_pos (by rw[Ae,Ac];simp;omega),Bm hlt,Aa,Cj5,Aa,Ag (by omega) (by omega)]
  have h:=Ay9 b hb j (i+1) q (UInt64.ofNat (Avw s.toNat b[i].toNat)) (by omega) (by omega)
  rw[show((i:Int)+1)=((i+1:Nat):Int) by omega,h,drop_cons hlt,Blh (Bdo s.toNat_lt (by simpa using hc))]
  rfl
def Sk(b:List UInt8):UInt64:=UInt64.ofNat (Bho 0 b)
theorem Brt(b:List UInt8)(hb:b.length≤100000):Xf 0 b=some (Sk b):=
 Ay9 b (by omega) b.length 0 FUEL 0 (by omega) (by have:=Al;omega)
theorem Buf(c:UInt64):Sy (Cp c (GI.toZ (1:UInt64)).toNat) (Au (4823603603198064275:UInt64) (Bi c (GI.toZ (63:UInt64)).toNat))=UInt64.ofNat (Aiy c.toNat):=by
 have hc:=c.toNat_lt
 apply UInt64.toNat_inj.1
 have h1:(Cp c (GI.toZ (1:UInt64)).toNat).toNat=2*c.toNat %18446744073709551616:=by
  rw[show(GI.toZ (1:UInt64)).toNat=1 from rfl,Anp,Nat.mul_comm]
 have h2:(Au (4823603603198064275:UInt64) (Bi c (GI.toZ (63:UInt64)).toNat)).toNat=c.toNat/9223372036854775808*P64:=by
  rw[show(GI.toZ (63:UInt64)).toNat=63 from rfl,Ahz,UInt64.toNat_mul,Adr]
  show 4823603603198064275*(c.toNat/9223372036854775808) %18446744073709551616=_
  have h1:c.toNat/9223372036854775808=0∨c.toNat/9223372036854775808=1:=by omega
  rcases h1 with e|e<;>rw[e]<;>decide
 rw[Bjt,UInt64.toNat_xor,h1,h2,Blh (Arn hc)];rfl
theorem Bf3(bk16:Int→List UInt64→Option (UInt64×Int))(s:UInt64)(b:List UInt8)(x:Int)(t:List UInt64):∀(j i q:Nat) (c:UInt64),i+j=8→j<q→
  Py bk16 s b x t q c (i:Int)=Adl bk16 s b x (UInt64.ofNat (Nf j c.toNat)) t
 |0,i,q+1,c,hi,_=>by
  obtain rfl:i=8:=by omega
  rw[Py,Abm,if_neg (by rw[Ae];simp),Nf,UInt64.ofNat_toNat]
 |j+1,i,q+1,c,hi,hq=>by
  rw[Py,Abm,if_pos (by rw[Ae];simp;omega),Buf,Ag (by omega) (by omega),show((i:Int)+1)=((i+1:Nat):Int) by omega,Bf3 bk16 s b x t j (i+1) q _ (by omega) (by omega),Blh (Arn c.toNat_lt)];rfl
def Aoc(n:Nat):List UInt64:=(List.range n).map fun i=>UInt64.ofNat (Nf 8 (i*72057594037927936))
theorem Bh8(s:UInt64)(b:List UInt8):∀(j i q:Nat),i+j=256→j<q→Mo s b q (i:Int) (Aoc i++List.replicate j 0)=Aa8 s b (Aoc 256)
 |0,i,q+1,hi,_=>by
  obtain rfl:i=256:=by omega
  rw[Mo,Adf,if_neg (by rw[Ae];simp)];simp
 |j+1,i,q+1,hi,hq=>by
  have hlen:(Aoc i++List.replicate (j+1) 0).length=i+(j+1):=by simp[Aoc]
  rw[Mo,Adf,if_pos (by rw[Ae];simp;omega),Ank]
  have h:=Bf3 (Mo s b q) s b (i:Int) (Aoc i++List.replicate (j+1) 0) 8 0 FUEL (Cp (Af (i:Int):UInt64) (GI.toZ (56:UInt64)).toNat) (by omega) (by have:=Al;omega)
  rw[show((0:Int))=((0:Nat):Int)from rfl,h,Adl,Al3,Bm (by rw[hlen];omega),Aa,Qj _ (by rw[hlen];omega),Aa,Ak5,Aw9,Ag (by omega) (by omega)]
  have e:(Cp (Af (i:Int):UInt64) (GI.toZ (56:UInt64)).toNat).toNat=i*72057594037927936:=by
   rw[Anp,Te,Blh (by omega)]
   show i*72057594037927936 %18446744073709551616=_
   omega
  rw[e,List.replicate_succ,As6 (by simp[Aoc])]
  have h2:=Bh8 s b j (i+1) q (by omega) (by omega)
  have h3:Aoc (i+1)=Aoc i++[UInt64.ofNat (Nf 8 (i*72057594037927936))]:=by simp[Aoc,List.range_succ]
  rw[h3]at h2
  rw[show((i:Int)+1)=((i+1:Nat):Int) by omega,←h2]
  simp
theorem By4{i:Nat}(h:i<256):getI (Aoc 256) (i:Int)=some (UInt64.ofNat (Nf 8 (i*72057594037927936))):=by
 rw[Bm (by simpa [Aoc]using h)];simp[Aoc]
theorem Bsw(s:UInt64)(c:UInt8):getI (Aoc 256) (GI.toZ (Sy (Af (Bi s (GI.toZ (56:UInt64)).toNat):UInt8) c))=some (UInt64.ofNat (Nf 8 (((s.toNat/72057594037927936)^^^c.toNat)*72057594037927936))):=by
 have hs:=s.toNat_lt
 have e:GI.toZ (Sy (Af (Bi s (GI.toZ (56:UInt64)).toNat):UInt8) c)=(((s.toNat/72057594037927936)^^^c.toNat:Nat):Int):=by
  have e2:((Af (Bi s (GI.toZ (56:UInt64)).toNat):UInt8)).toNat=s.toNat/72057594037927936:=by
   rw[Alf,UInt8.toNat_ofNat',Adr]
   show s.toNat/72057594037927936 %256=_
   omega
  rw[Zq,Bnz,UInt8.toNat_xor,e2]
 rw[e,By4]
 exact Nat.xor_lt_two_pow (n:=8) (by show _<256;omega) (by simpa using c.toNat_lt)
theorem Boj(s:UInt64)(c:UInt8):Sy (Cp s (GI.toZ (8:UInt64)).toNat) (UInt64.ofNat (Nf 8 (((s.toNat/72057594037927936)^^^c.toNat)*72057594037927936)))=UInt64.ofNat (Avw s.toNat c.toNat):=by
 have hs:=s.toNat_lt
 have hc:c.toNat<256:=by simpa using c.toNat_lt
 apply UInt64.toNat_inj.1
 have hlt:Nf 8 (((s.toNat/72057594037927936)^^^c.toNat)*72057594037927936)<18446744073709551616:=Bdn 8 (c56 (Nat.xor_lt_two_pow (n:=8) (by show _<256;omega) (by simpa using c.toNat_lt)))
 have e:(GI.toZ (8:UInt64)).toNat=8:=rfl
 rw[e,Bjt,UInt64.toNat_xor,Anp,Blh hlt,Blh (Bdo hs hc),Bpq hs hc,Nat.mul_comm s.toNat]
theorem Bgg(b:List UInt8)(s0:UInt64)(hb:b.length<4611686018427387904):∀(j i q:Nat) (s:UInt64),i+j=b.length→j<q→Pu b s0 (Aoc 256) q s (i:Int)=some (UInt64.ofNat (Bho s.toNat (b.drop i)),0)
 |0,i,q+1,s,hi,_=>by
  rw[Pu,Abw,if_neg (by rw[Ae,Ac];simp;omega),show i=b.length by omega,List.drop_length]
  simp[Ak6,Am4,Akv,Aw5,Bho]
 |j+1,i,q+1,s,hi,hq=>by
  have hlt:i<b.length:=by omega
  have hc:=b[i].toNat_lt
  rw[Pu,Abw,if_pos (by rw[Ae,Ac];simp;omega),Bm hlt,Aa,Bsw,Aa,Aa,Boj,Ag (by omega) (by omega)]
  have h:=Bgg b s0 hb j (i+1) q (UInt64.ofNat (Avw s.toNat b[i].toNat)) (by omega) (by omega)
  rw[show((i:Int)+1)=((i+1:Nat):Int) by omega,h,drop_cons hlt,Blh (Bdo s.toNat_lt (by simpa using hc))]
  rfl
theorem Bqq(b:List UInt8)(hb:b.length≤100000):Aqk b=some (Sk b,0):=by
 have h:=Bh8 0 b 256 0 FUEL (by omega) (by have:=Al;omega)
 have h2:=Bgg b 0 (by omega) b.length 0 FUEL 0 (by omega) (by have:=Al;omega)
 have hn:At4 0 b=some (Sk b,0):=by
  rw[At4,Ap0,if_neg (by rw[Ak,Ac];simp;omega),Ann]
  refine Eq.trans h ?_
  rw[Aa8,Amd,Ama]
  exact h2
 rw[Aqk,hn,Aa]
theorem Aym(p:List UInt8)(hp:p.length≤64):Abt p=some (Ns (Sk p).toNat 8,0):=by
 rw[Abt,Be5,if_neg (by rw[Ak,Ac];simp;omega),Bqq p (by omega),Aa,Aa]
 simp only
 have h:=Amr (Sk p) 8 (by omega) (by omega) (by simpa using(Sk p).toNat_lt)
 rw[if_neg (by rw[Ah];simp)]
 exact congrArg (fun o=>Option.bind o fun x:List UInt8×Int=>some (x.1,x.2)) h
theorem Be4(p:List UInt8)(hp:p.length≤64):Jo p=some (Ns (Sk p).toNat 8):=by
 have h:=Bky (Sk p) 8 (by omega)
 rw[Jo,Aov,Brt p (by omega),Aa,Aa]
 exact congrArg (fun o=>Option.bind o fun l=>some l) h
def s8(n:Nat):Int32:=Int32.ofInt (if n<128 then(n:Int)else(n:Int)-256)
def An2(d:UInt64)(n:Nat):List Int32:=(List.range n).map fun i=>s8 (d.toNat/256^i %256)
theorem Arc(d:UInt64)(n:Nat):(An2 d n).length=n:=by simp[An2]
theorem Biy(d:UInt64)(n:Nat):An2 d (n+1)=An2 d n++[s8 (d.toNat/256^n %256)]:=by simp[An2,List.range_succ]
theorem bm8(z:Nat):(z:Int).bmod Int8.size=if z %256<128 then((z %256:Nat):Int)else((z %256:Nat):Int)-256:=by
 rw[show Int8.size=256 from rfl,Int.bmod_def]
 split<;>split<;>omega
theorem Bx5(d:UInt64):∀(j i q:Nat),i+j=8→j<q→Afu d q (i:Int) (An2 d i++List.replicate (16-i) 0)=some (An2 d 8++List.replicate 8 0)
 |0,i,q+1,hi,_=>by
  obtain rfl:i=8:=by omega
  rw[Afu,Atj,if_neg (by rw[Ae];simp)];rfl
 |j+1,i,q+1,hi,hq=>by
  have hlen:(An2 d i++List.replicate (16-i) 0).length=16:=by simp[Arc];omega
  have ih:=Bx5 d j (i+1) q (by omega) (by omega)
  have e8:Au (8:Int) (i:Int)=((8*i:Nat):Int):=by rw[Fb (by omega) (by omega)];omega
  have ev:(Af (Af (Bi d (GI.toZ (((8*i:Nat):Int))).toNat):Int8):Int32)=s8 (d.toNat/256^i %256):=by
   have e1:(Bi d (GI.toZ (((8*i:Nat):Int))).toNat).toNat=d.toNat/256^i:=by
    rw[show(GI.toZ (((8*i:Nat):Int))).toNat=8*i from rfl,Adr,Nat.pow_mul]
   show Int32.ofInt (Int8.ofInt ((Bi d (GI.toZ (((8*i:Nat):Int))).toNat).toNat:Int)).toInt=_
   rw[e1,s8,Int8.toInt_ofInt,bm8]
  rw[Afu,Atj,if_pos (by rw[Ae];simp;omega),e8,Ba (by rw[Cu];simp;omega),Aa,ev,Bm (by omega),Aa,Qj _ (by omega),Aa,Ag (by omega) (by omega),show 16-i=(15-i)+1 by omega,List.replicate_succ,As6 (Arc d i)]
  rw[Biy,show 16-(i+1)=15-i by omega,List.append_assoc]at ih
  exact ih
theorem Cet(d:UInt64):∀(j i q:Nat) (e:UInt64),i+j=8→j<q→e.toNat=d.toNat/256^i→It q e (i:Int) (An2 d i++List.replicate (16-i) 0)=some (An2 d 8++List.replicate 8 0)
 |0,i,q+1,e,hi,_,he=>by
  obtain rfl:i=8:=by omega
  rw[It,Za,if_neg (by rw[Ae];simp)];rfl
 |j+1,i,q+1,e,hi,hq,he=>by
  have hlen:(An2 d i++List.replicate (16-i) 0).length=16:=by simp[Arc];omega
  have hq2:(Bt e (256:UInt64)).toNat=d.toNat/256^(i+1):=by
   rw[Bbq,UInt64.toNat_div,he,Nat.pow_succ,←Nat.div_div_eq_div_mul];rfl
  have ih:=Cet d j (i+1) q (Bt e (256:UInt64)) (by omega) (by omega) hq2
  have ev:(Af (Aa7 e (256:UInt64)):Int32)=Int32.ofInt ((d.toNat/256^i %256:Nat):Int):=by
   show Int32.ofInt ((Aa7 e (256:UInt64)).toNat:Int)=_
   rw[Btm,UInt64.toNat_mod,he];rfl
  have hz:d.toNat/256^i %256<256:=Nat.mod_lt _ (by omega)
  have et:(Int32.ofInt ((d.toNat/256^i %256:Nat):Int)).toInt=((d.toNat/256^i %256:Nat):Int):=by
   rw[Int32.toInt_ofInt,Int.bmod_eq_of_le (by show -(4294967296/2:Int)≤_;omega) (by show _<(4294967296+1)/2;omega)]
  have hp8:∀x:Int32,x=s8 (d.toNat/256^i %256)→Zf (It q) e (i:Int) (An2 d i++List.replicate (16-i) 0) x=some (An2 d 8++List.replicate 8 0):=by
   intro x hx
   rw[Zf,Ak0,hx,Bm (by omega),Aa,Qj _ (by omega),Aa,Ag (by omega) (by omega),show 16-i=(15-i)+1 by omega,List.replicate_succ,As6 (Arc d i)]
   rw[Biy,show 16-(i+1)=15-i by omega,List.append_assoc]at ih
   exact ih
  rw[It,Za,if_pos (by rw[Ae];simp;omega),ev,Bue,et,show(127:Int32).toInt=127 from rfl]
  by_cases h:d.toNat/256^i %256<128
  ·rw[if_neg (by simp only[decide_eq_true_eq];omega)]
   exact hp8 _ (by rw[s8,if_pos h])
  ·rw[if_pos (by simp only[decide_eq_true_eq];omega)]
   refine hp8 _ ?_
   rw[s8,if_neg h,Am0,Int32.ofInt_sub];rfl
def tapsOf(p:List UInt8):List Int32:=An2 (Sk p) 8++List.replicate 8 0
theorem Al6(p:List UInt8):(tapsOf p).length=16:=by simp[tapsOf,Arc]
theorem Bdu(p:List UInt8)(hp:p.length≤64):Aai p=some (tapsOf p,0):=by
 have h:=Bx5 (Sk p) 8 0 FUEL (by omega) (by have:=Al;omega)
 have h2:Bn7 (Sk p)=some (tapsOf p):=h
 rw[Aai,if_neg (by rw[Ak,Ac];simp;omega),Bqq p (by omega),Aa]
 simp only
 rw[if_neg (by rw[Ah];simp),h2,Aa]
theorem Bh3(p:List UInt8)(hp:p.length≤64):Jy p=some (tapsOf p,0):=by
 have h:=Cet (Sk p) 8 0 FUEL (Sk p) (by omega) (by have:=Al;omega) (by simp)
 have h2:At5 (Sk p)=some (tapsOf p):=h
 rw[Jy,if_neg (by rw[Ak,Ac];simp;omega),Arp,Aoj,if_neg (by rw[Ak,Ac];simp;omega),Brt p (by omega),Aa,Aa,Aa]
 simp only
 rw[h2,Aa]
end Go.Pl
set_option linter.unusedVariables false
set_option linter.unusedSimpArgs false
namespace Go.Pl
open Go Go.Lv
def u8(z:Int):UInt8:=UInt8.ofNat (z %256).toNat
theorem Bn1(z:Int):u8 (z %256)=u8 z:=by rw[u8,u8];congr 2;omega
def wB(bits:Int):Nat:=if bits=8 then 1 else if bits=16 then 2 else 3
theorem Ce5{bits:Int}(h:BitsOk bits):Bt bits 8=(wB bits:Int):=by obtain rfl|rfl|rfl:=h<;>rfl
theorem Ccn(bits:Int):1≤wB bits∧wB bits≤3:=by
 unfold wB;split; · omega
 ·split<;>omega
def Afq(bits:Int)(x:Int):List UInt8:=if bits=8 then [u8 (x+128)]else if bits=16 then [u8 x,u8 (x/256)]else [u8 x,u8 (x/256),u8 (x/65536)]
theorem Btg(bits x:Int):(Afq bits x).length≤3:=by
 unfold Afq;split; · simp
 ·split<;>simp
theorem Ces(x:Int32)(k:Nat)(hk:k≤32):(Af (Bi x k):UInt8)=u8 (x.toInt.fdiv (2^k)):=by
 have h:=Xa x
 have e:Bi x k=Int32.ofInt (x.toInt.fdiv (2^k)):=by
  show Int32.ofInt (x.toInt.fdiv (2^min k 32))=_
  rw[Nat.min_eq_left hk]
 have hb: -2147483648≤x.toInt.fdiv (2^k)∧x.toInt.fdiv (2^k)<2147483648:=by
  have hpos:(0:Int)<2^k:=Int.pow_pos (by omega)
  rw[Int.fdiv_eq_ediv_of_nonneg _ (by omega)]
  constructor
  ·refine(Int.le_ediv_iff_mul_le hpos).2 ?_
   have:(1:Int)≤2^k:=by omega
   have h2: -2147483648*(2^k:Int)≤ -2147483648*1:=Int.mul_le_mul_of_nonpos_left (by omega) this
   omega
  ·refine Int.ediv_lt_of_lt_mul hpos ?_
   have:(1:Int)≤2^k:=by omega
   have h2:(2147483648:Int)*1≤2147483648*2^k:=Int.mul_le_mul_of_nonneg_left this (by omega)
   omega
 show UInt8.ofNat ((Bi x k).toInt %256).toNat=_
 rw[e,Int32.toInt_ofInt,Int.bmod_eq_of_le (by show -(4294967296/2:Int)≤_;omega) (by show _<(4294967296+1)/2;omega)];rfl
section
variable (bk:Int→List UInt8→Option (List UInt8×Int)) (l:List Int32)
theorem Bgz{bits:Int}(h:BitsOk bits)(c:Int32)(x:Int)(i q:Nat)(acc:List UInt8)(hi:i<wB bits)(ha:acc.length≤100000):
  Ht bk bits l c x (q+1) (i:Int) acc=Ht bk bits l c x q ((i+1:Nat):Int) (acc++[u8 (c.toInt.fdiv (2^(8*i)))]):=by
 have hw:=Ccn bits
 have e8:Au (8:Int) (i:Int)=((8*i:Nat):Int):=by rw[Fb (by omega) (by omega)];omega
 rw[Ht,Yu,Ce5 h,if_pos (by rw[Ae];simp;omega),e8,Ba (by rw[Cu];simp;omega),Aa,show(GI.toZ (((8*i:Nat):Int))).toNat=8*i from rfl,Ces _ _ (by omega),Ce (by simp;omega),Aa,Ag (by omega) (by omega)];rfl
theorem Bu6{bits:Int}(h:BitsOk bits)(c:Int32)(x:Int)(q:Nat)(acc:List UInt8):Ht bk bits l c x (q+1) ((wB bits:Nat):Int) acc=bk (Ad x 1) acc:=by
 rw[Ht,Yu,Ce5 h,if_neg (by rw[Ae];simp),Ajh,Aur]
theorem Ck3{bits:Int}(h:BitsOk bits)(c:Int32)(x:Int)(acc:List UInt8)(ha:acc.length≤90000)(hr: -(hB bits)≤c.toInt∧c.toInt<hB bits):
  Kk bk bits l x acc (if bits=8 then Ad c (128:Int32)else c)=bk (Ad x 1) (acc++Afq bits c.toInt):=by
 have e:FUEL=(FUEL-4)+1+1+1+1:=by have:=Al;omega
 have hc:=Xa c
 rw[Kk,Aii,Ait,e]
 have g0:=fun(c:Int32) q acc ha=>Bgz bk l h c x 0 q acc (by have:=Ccn bits;omega) ha
 obtain rfl|rfl|rfl:=h
 ·have hh:hB 8=128:=rfl
  rw[hh]at hr
  have e1:(Ad c (128:Int32)).toInt=c.toInt+128:=by
   show(Int32.ofInt (c.toInt+(128:Int32).toInt)).toInt=_
   rw[show(128:Int32).toInt=128 from rfl,Int32.toInt_ofInt,Int.bmod_eq_of_le (by show -(4294967296/2:Int)≤_;omega) (by show _<(4294967296+1)/2;omega)]
  have g1:=Bu6 bk l (bits:=8) (.inl rfl) (Ad c (128:Int32)) x (FUEL-4+1+1)
  rw[if_pos rfl,show(0:Int)=((0:Nat):Int)from rfl,g0 _ _ _ (by omega)]
  refine Eq.trans (g1 _) ?_
  rw[e1,Afq,if_pos rfl]
  show bk _ (acc++[u8 ((c.toInt+128).fdiv 1)])=_
  rw[Int.fdiv_one]
 ·have g1:=fun q acc ha=>Bgz bk l (bits:=16) (.inr (.inl rfl)) c x 1 q acc (by decide) ha
  have g2:=Bu6 bk l (bits:=16) (.inr (.inl rfl)) c x (FUEL-4+1)
  rw[if_neg (by decide),show(0:Int)=((0:Nat):Int)from rfl,g0 _ _ _ (by omega),g1 _ _ (by simp;omega)]
  refine Eq.trans (g2 _) ?_
  rw[Afq,if_neg (by decide),if_pos rfl,List.append_assoc]
  show bk _ (acc++[u8 (c.toInt.fdiv 1),u8 (c.toInt.fdiv 256)])=_
  rw[Int.fdiv_one,Int.fdiv_eq_ediv_of_nonneg _ (by omega)]
 ·have g1:=fun q acc ha=>Bgz bk l (bits:=24) (.inr (.inr rfl)) c x 1 q acc (by decide) ha
  have g2:=fun q acc ha=>Bgz bk l (bits:=24) (.inr (.inr rfl)) c x 2 q acc (by decide) ha
  have g3:=Bu6 bk l (bits:=24) (.inr (.inr rfl)) c x (FUEL-4)
  rw[if_neg (by decide),show(0:Int)=((0:Nat):Int)from rfl,g0 _ _ _ (by omega),g1 _ _ (by simp;omega),g2 _ _ (by simp;omega)]
  refine Eq.trans (g3 _) ?_
  rw[Afq,if_neg (by decide),if_neg (by decide),List.append_assoc,List.append_assoc]
  show bk _ (acc++[u8 (c.toInt.fdiv 1),u8 (c.toInt.fdiv 256),u8 (c.toInt.fdiv 65536)])=_
  rw[Int.fdiv_one,Int.fdiv_eq_ediv_of_nonneg _ (by omega),Int.fdiv_eq_ediv_of_nonneg _ (by omega)]
end
def bytesB(bits:Int)(l:List Int32):List UInt8:=l.flatMap fun x=>Afq bits x.toInt
theorem Ats(bits:Int):∀l:List Int32,(bytesB bits l).length≤3*l.length
 |[]=>by simp[bytesB]
 |x::l=>by
  have h1:=Ats bits l
  have h2:=Btg bits x.toInt
  simp only[bytesB,List.flatMap_cons,List.length_append,List.length_cons]at*
  omega
def inR(bits:Int)(l:List Int32):Prop:=∀x∈l, -(hB bits)≤x.toInt∧x.toInt<hB bits
theorem Bwb{bits:Int}(h:BitsOk bits)(l:List Int32)(hl:l.length≤4000)(hr:inR bits l):∀(j i q:Nat),i+j=l.length→j<q→Fg bits l q (i:Int) (bytesB bits (l.take i))=some (bytesB bits l,0)
 |0,i,q+1,hi,_=>by
  rw[Fg,Yt,if_neg (by rw[Ae,Ac];simp;omega),List.take_of_length_le (by omega)];rfl
 |j+1,i,q+1,hi,hq=>by
  have hlt:i<l.length:=by omega
  have ih:=Bwb h l hl hr j (i+1) q (by omega) (by omega)
  have hlen:=Ats bits (l.take i)
  have hx:=hr l[i] (List.getElem_mem _)
  have h1:=Ck3 (Fg bits l q) l h l[i] (i:Int) (bytesB bits (l.take i)) (by rw[List.length_take]at hlen;omega) hx
  rw[Fg,Yt,if_pos (by rw[Ae,Ac];simp;omega),Bm hlt,Aa]
  have e:(if(geq bits (8:Int))=true then Kk (Fg bits l q) bits l (i:Int) (bytesB bits (l.take i)) (Ad l[i] (128:Int32))else Kk (Fg bits l q) bits l (i:Int) (bytesB bits (l.take i)) l[i])=Kk (Fg bits l q) bits l (i:Int) (bytesB bits (l.take i)) (if bits=8 then Ad l[i] (128:Int32)else l[i]):=by
   by_cases h8:bits=8
   ·rw[if_pos (by rw[As];simpa using h8),if_pos h8]
   ·rw[if_neg (by rw[As];simpa using h8),if_neg h8]
  rw[e,h1,Ag (by omega) (by omega)]
  rw[Ir hlt]at ih
  have e2:bytesB bits (l.take i++[l[i]])=bytesB bits (l.take i)++Afq bits l[i].toInt:=by unfold bytesB;rw[List.flatMap_append,List.flatMap_singleton]
  rw[e2]at ih
  exact ih
theorem Ayl{bits:Int}(h:BitsOk bits){l:List Int32}(hl:l.length≤4000)(hc:cadenzaref18_Check bits l=some 0):inR bits l:=by
 have hh:=Aky bits
 have key:∀(j i q:Nat),i+j=l.length→j<q→Ao l (hB bits) q (i:Int)=some 0→∀k,i≤k→(hk:k<l.length)→ -(hB bits)≤l[k].toInt∧l[k].toInt<hB bits:=by
  intro j
  induction j with
  |zero=>intro i q hi hq _ k h1 h2;omega
  |succ j ih=>
   intro i q hi hq hs k h1 h2
   obtain⟨q,rfl⟩:∃k,q=k+1:=⟨q-1,by omega⟩
   rw[Ao,Bv,if_pos (by rw[Ae,Ac];simp;omega),Bm (by omega),Aa,Aa,Dx,Bnr,Br (by omega) (by omega),Ag (by omega) (by omega),Ae,Cu]at hs
   by_cases g1:l[i].toInt<0-hB bits
   ·rw[if_pos (by simpa using g1)]at hs;simp at hs
   ·rw[if_neg (by simpa using g1)]at hs
    by_cases g2:hB bits≤l[i].toInt
    ·rw[if_pos (by simpa using g2)]at hs;simp at hs
    ·rw[if_neg (by simpa using g2)]at hs
     by_cases hk:k=i
     ·subst hk;omega
     ·exact ih (i+1) q (by omega) (by omega) hs k (by omega) h2
 rw[cadenzaref18_Check,Cm,Aoq h,Aa,if_neg (by rw[As];simp;omega),if_neg (by rw[Ak,Ac];simp;omega)]at hc
 have:=key l.length 0 FUEL (by omega) (by have:=Al;omega) hc
 intro x hx
 obtain⟨k,hk,rfl⟩:=List.getElem_of_mem hx
 exact this k (by omega) hk
theorem Bkv{bits:Int}(h:BitsOk bits){l:List Int32}(hl:l.length≤4000)(hc:cadenzaref18_Check bits l=some 0):width_Bytes bits l=some (bytesB bits l,0):=by
 have h1:=Bwb h l hl (Ayl h hl hc) l.length 0 FUEL (by omega) (by have:=Al;omega)
 rw[width_Bytes,Alw,As7 h l hl,hc,Aa,if_neg (by rw[Ah];simp)]
 exact h1
theorem Cgr{bits:Int}(h:BitsOk bits)(x:Int32)(hr: -(hB bits)≤x.toInt∧x.toInt<hB bits):Aff bits x=some (Afq bits x.toInt):=by
 have hx:=Xa x
 have gu:∀z:Int,(Af z:UInt8)=u8 z:=fun z=>rfl
 have hq:∀n:Int,0≤n→n≤20000000→Bt n (256:Int)=n/256∧Bt n (65536:Int)=n/65536:=by
  intro n h1 h2
  constructor<;>(rw[Afj,Int.tdiv_eq_ediv_of_nonneg h1,Br (by omega) (by omega)])
 have hm:∀n:Int,0≤n→Fc n (256:Int)=n %256:=fun n h1=>by rw[Fc,Int.tmod_eq_emod_of_nonneg h1]
 rw[Aff,Aj1,Dx]
 obtain rfl|rfl|rfl:=h
 ·rw[if_pos (by rw[As];rfl),Ag (by omega) (by omega),gu,Afq,if_pos rfl]
 ·have hh:hB 16=32768:=rfl
  rw[hh]at hr
  have hp:∀n:Int,0≤n→n≤70000→u8 n=u8 x.toInt→u8 (n/256)=u8 (x.toInt/256)→Kw 16 n=some (Afq 16 x.toInt):=by
   intro n h1 h2 h3 h4
   rw[Kw,Xs,if_neg (by rw[As];decide),hm n h1,(hq n h1 (by omega)).1,hm _ (by omega),gu,gu,Bn1,Bn1,h3,h4,Afq,if_neg (by decide),if_pos rfl]
  rw[if_neg (by rw[As];decide)]
  by_cases hn:x.toInt<0
  ·rw[if_pos (by rw[Ae];simpa using hn),Aoq (.inr (.inl rfl)),Aa,hh,Fb (by omega) (by omega),Ag (by omega) (by omega)]
   refine hp _ (by omega) (by omega) ?_ ?_
   ·rw[u8,u8];congr 2;omega
   ·rw[u8,u8];congr 2;omega
  ·rw[if_neg (by rw[Ae];simpa using hn)]
   exact hp _ (by omega) (by omega) rfl rfl
 ·have hh:hB 24=8388608:=rfl
  rw[hh]at hr
  have hp:∀n:Int,0≤n→n≤16777215→u8 n=u8 x.toInt→u8 (n/256)=u8 (x.toInt/256)→u8 (n/65536)=u8 (x.toInt/65536)→Kw 24 n=some (Afq 24 x.toInt):=by
   intro n h1 h2 h3 h4 h5
   rw[Kw,Xs,if_pos (by rw[As];rfl),hm n h1,(hq n h1 (by omega)).1,(hq n h1 (by omega)).2,hm _ (by omega),gu,gu,gu,Bn1,Bn1,h3,h4,h5,Ce (by simp),Aa,Afq,if_neg (by decide),if_neg (by decide)];rfl
  rw[if_neg (by rw[As];decide)]
  by_cases hn:x.toInt<0
  ·rw[if_pos (by rw[Ae];simpa using hn),Aoq (.inr (.inr rfl)),Aa,hh,Fb (by omega) (by omega),Ag (by omega) (by omega)]
   refine hp _ (by omega) (by omega) ?_ ?_ ?_
   ·rw[u8,u8];congr 2;omega
   ·rw[u8,u8];congr 2;omega
   ·rw[u8,u8];congr 2;omega
  ·rw[if_neg (by rw[Ae];simpa using hn)]
   exact hp _ (by omega) (by omega) rfl rfl rfl
theorem Bxz{bits:Int}(h:BitsOk bits)(l:List Int32)(hl:l.length≤4000)(hr:inR bits l):∀(j i q:Nat),i+j=l.length→j<q→Ik bits l q (i:Int) (bytesB bits (l.take i))=some (bytesB bits l,0)
 |0,i,q+1,hi,_=>by
  rw[Ik,Tn,if_neg (by rw[Ae,Ac];simp;omega),List.take_of_length_le (by omega)];rfl
 |j+1,i,q+1,hi,hq=>by
  have hlt:i<l.length:=by omega
  have ih:=Bxz h l hl hr j (i+1) q (by omega) (by omega)
  have hlen:=Ats bits (l.take i)
  have hol:=Btg bits l[i].toInt
  rw[List.length_take]at hlen
  have e2:bytesB bits (l.take i++[l[i]])=bytesB bits (l.take i)++Afq bits l[i].toInt:=by unfold bytesB;rw[List.flatMap_append,List.flatMap_singleton]
  rw[Ir hlt,e2]at ih
  rw[Ik,Tn,if_pos (by rw[Ae,Ac];simp;omega),Bm hlt,Aa,Cgr h _ (hr l[i] (List.getElem_mem _)),Aa,Ce (by omega),Aa,Ag (by omega) (by omega)]
  exact ih
theorem Bma{bits:Int}(h:BitsOk bits){l:List Int32}(hl:l.length≤4000)(hc:cadenzaref18_Check bits l=some 0):Rr bits l=some (bytesB bits l,0):=by
 have h1:=Bxz h l hl (Ayl h hl hc) l.length 0 FUEL (by omega) (by have:=Al;omega)
 rw[Rr,Aei,hc,Aa,if_neg (by rw[Ah];simp)]
 exact h1
end Go.Pl
set_option linter.unusedVariables false
set_option linter.unusedSimpArgs false
namespace Go.Pl
open Go Go.Lv
def Aqo:List UInt8→Nat→Int×Int
 |[],n=>((n:Int),0)
 |c::r,n=>if 128≤c.toNat then(0,12)else Aqo r (128*n+c.toNat)
theorem Bwd:∀(l:List UInt8) (n k:Nat),n<128^k→0≤(Aqo l n).1∧(Aqo l n).1<((128^(k+l.length):Nat):Int)
 |[],n,k,h=>by simp[Aqo];exact_mod_cast h
 |c::r,n,k,h=>by
  rw[Aqo]
  split
  ·have:0<128^(k+(c::r).length):=Nat.pow_pos (by omega)
   exact⟨Int.le_refl _,by simp only;exact_mod_cast this⟩
  ·have:=Bwd r (128*n+c.toNat) (k+1) (by rw[Nat.pow_succ];omega)
   rw[List.length_cons,show k+(r.length+1)=k+1+r.length by omega]
   exact this
theorem or7(n c:Nat)(hn:n<268435456)(hc:c<128):gor (Cp (n:Int) (GI.toZ (7:UInt64)).toNat) (c:Int)=((128*n+c:Nat):Int):=by
 have e:(GI.toZ (7:UInt64)).toNat=7:=rfl
 have h1:Cp (n:Int) 7=((2^7*n:Nat):Int):=by
  have:Cp (n:Int) 7=wrap64 ((n:Int)*2^7):=rfl
  rw[this,Br (by omega) (by omega)];omega
 rw[e,h1]
 have h2:gor ((2^7*n:Nat):Int) (c:Int)=wrap64 ((BitVec.ofInt 64 ((2^7*n:Nat):Int)|||BitVec.ofInt 64 (c:Int)).toNat:Int):=rfl
 rw[h2,BitVec.toNat_or,BitVec.toNat_ofInt,BitVec.toNat_ofInt]
 have h3:(((2^7*n:Nat):Int) %((2^64:Nat):Int)).toNat=2^7*n:=by omega
 have h4:((c:Int) %((2^64:Nat):Int)).toNat=c:=by omega
 rw[h3,h4,←Nat.two_pow_add_eq_or_of_lt (by simpa using hc),Br (by omega) (by omega)]
theorem Bwa(b:List UInt8)(hb:b.length=4):∀(j i q n:Nat),i+j=4→j<q→n<128^i→Lu b q (n:Int) (i:Int)=some (Aqo (b.drop i) n)
 |0,i,q+1,n,hi,_,_=>by
  rw[Lu,Wi,if_neg (by rw[Ae,Ac];simp;omega),show b.drop i=[] by simp;omega];rfl
 |j+1,i,q+1,n,hi,hq,hn=>by
  have hlt:i<b.length:=by omega
  have hn2:n<268435456:=Nat.lt_of_lt_of_le hn (show 128^i≤128^4 from Nat.pow_le_pow_right (by omega) (by omega))
  rw[Lu,Wi,if_pos (by rw[Ae,Ac];simp;omega),Bm hlt,Aa,drop_cons hlt,Aqo,Cc2]
  by_cases hc:128≤b[i].toNat
  ·rw[if_pos (by simp;omega),if_pos hc]
  ·rw[if_neg (by simp;omega),if_neg hc,Ako,or7 n _ hn2 (by omega),Ag (by omega) (by omega)]
   exact Bwa b hb j (i+1) q _ (by omega) (by omega) (by rw[Nat.pow_succ];omega)
theorem Ccp(b:List UInt8)(hb:b.length=4):∀(j i q n:Nat),i+j=4→j<q→n<128^i→Ip b q (n:Int) (i:Int)=some (Aqo (b.drop i) n)
 |0,i,q+1,n,hi,_,_=>by
  rw[Ip,Tz,if_neg (by rw[Ae];simp;omega),show b.drop i=[] by simp;omega];rfl
 |j+1,i,q+1,n,hi,hq,hn=>by
  have hlt:i<b.length:=by omega
  have hn2:n<268435456:=Nat.lt_of_lt_of_le hn (show 128^i≤128^4 from Nat.pow_le_pow_right (by omega) (by omega))
  rw[Ip,Tz,if_pos (by rw[Ae];simp;omega),Bm hlt,Aa,drop_cons hlt,Aqo,Cdo]
  have h128:(128:UInt8).toNat=128:=rfl
  by_cases hc:128≤b[i].toNat
  ·rw[if_pos (by simpa using hc),if_pos hc]
  ·have h3:=b[i].toNat_lt
   rw[if_neg (by simpa using hc),if_neg hc,Aa,Ako,Fb (by omega) (by omega),Ag (by omega) (by omega),Ag (by omega) (by omega)]
   have:=Ccp b hb j (i+1) q (128*n+b[i].toNat) (by omega) (by omega) (by rw[Nat.pow_succ];omega)
   rw[←this];rfl
theorem Bt1(b:List UInt8)(hb:b.length=4):Af8 b=some (Aqo b 0):=by
 have h:=Bwa b hb 4 0 FUEL 0 (by omega) (by have:=Al;omega) (by simp)
 rw[Af8,Af0,if_neg (by rw[Ah,Ac];simp;omega),Afi];exact h
theorem By0(b:List UInt8)(hb:b.length=4):Zg b=some (Aqo b 0):=by
 have h:=Ccp b hb 4 0 FUEL 0 (by omega) (by have:=Al;omega) (by simp)
 rw[Zg,Ae7,if_neg (by rw[Ah,Ac];simp;omega),Ae0];exact h
theorem Bvp{b:List UInt8}(hb:b.length=4):0≤(Aqo b 0).1∧(Aqo b 0).1<268435456:=by
 have:=Bwd b 0 0 (by simp)
 rw[hb]at this
 simpa using this
theorem Asm(s p:List UInt8):Ko s p=some (decide (p.length≤s.length∧s.take p.length=p)):=by
 rw[Ko]
 by_cases h:p.length≤s.length
 ·rw[if_pos (by rw[Cu,Ac,Ac];simp;omega),show Ac p=(p.length:Int)from rfl,Gz (by omega) (by omega),Aa,Fv,Aa,Int.toNat_natCast]
  congr 1
  rw[Bool.eq_iff_iff];simp[h]
 ·rw[if_neg (by rw[Cu,Ac,Ac];simp;omega)]
  simp[h]
def Auo(b:List UInt8)(n:Int):Int×Int:=
 if 4000<n then(0,4)else if(b.length:Int)<n then(0,24)else
 if b.getD 5 0=16∧(b.take n.toNat).drop (n-10).toNat≠ [51,68,73]++part b 3 7 then(0,12)else(n,0)
def Bi1(b:List UInt8)(r:Int):Int×Int:=Auo b (r+10+(if b.getD 5 0=16 then 10 else 0))
def Abx(b:List UInt8):Int×Int:=
 if ¬(3≤b.length∧b.take 3=[73,68,51])then(0,6)else if b.length<10 then(0,24)else
 if(Aqo (part b 6 4) 0).2≠0∨b.getD 4 0≠0∨¬((b.getD 5 0=0∧2≤(b.getD 3 0).toNat∧(b.getD 3 0).toNat≤4)∨(b.getD 5 0=16∧b.getD 3 0=4))then(0,12)else
 Bi1 b (Aqo (part b 6 4) 0).1
theorem Bah{b:List UInt8}{i:Nat}(h:i<b.length):getI b (i:Int)=some (b.getD i 0):=by
 rw[Bm h];simp[List.getD_eq_getElem?_getD,h]
theorem Nx{b:List UInt8}(a w:Nat)(h:a+w≤b.length):Bo b (a:Int) ((a+w:Nat):Int)=some (part b a w):=by
 rw[Me (by omega) (by omega) (by omega)];rfl
theorem Cgn(b:List UInt8)(r:Int)(h10:10≤b.length)(h0:0≤r)(h1:r<268435456):Vp b r=some (Bi1 b r):=by
 have g5:getI b (5:Int)=some (b.getD 5 0):=Bah (i:=5) (by omega)
 have key:∀n:Int,10≤n→n<268435500→Vj b n=some (Auo b n):=by
  intro n hn hn2
  rw[Vj,Aig,Auo]
  by_cases c1:4000<n
  ·rw[if_pos (by rw[Ak];simpa using c1),if_pos c1]
  ·rw[if_neg (by rw[Ak];simpa using c1),if_neg c1]
   by_cases c2:(b.length:Int)<n
   ·rw[if_pos (by rw[Ae,Ac];simpa using c2),if_pos c2]
   ·have e3:Bo b (3:Int) (10:Int)=some (part b 3 7):=Nx 3 7 (by omega)
    rw[if_neg (by rw[Ae,Ac];simpa using c2),if_neg c2,g5,Aa]
    by_cases c3:b.getD 5 0=16
    ·rw[if_pos (by rw[Aqd];simpa using c3),Az (by omega) (by omega),Me (by omega) (by omega) (by omega),Aa,e3,Aa,Ce (by rw[De (by omega)];simp),Aa]
     by_cases c4:(b.take n.toNat).drop (n-10).toNat=[51,68,73]++part b 3 7
     ·rw[if_neg (by simpa using c4),if_neg (by intro h;exact h.2 c4)]
     ·rw[if_pos (by simpa using c4),if_pos ⟨c3,c4⟩]
    ·rw[if_neg (by rw[Aqd];simpa using c3),if_neg (fun h=>c3 h.1)]
 rw[Vp,Ahi,g5,Aa,Bi1]
 by_cases c3:b.getD 5 0=16
 ·rw[if_pos (by rw[Aqd];simpa using c3),Ag (by rw[Ag]<;>omega) (by rw[Ag]<;>omega),Ag (by omega) (by omega),key _ (by omega) (by omega),if_pos c3,show 10+r+10=r+10+10 by omega]
 ·rw[if_neg (by rw[Aqd];simpa using c3),Ag (by omega) (by omega),key _ (by omega) (by omega),if_neg c3,show 10+r=r+10+0 by omega]
theorem Ccy(b:List UInt8)(hb:b.length<4611686018427387904):Adk b=some (Abx b):=by
 rw[Adk,Ahu,Abx]
 by_cases h3:3≤b.length
 ·rw[if_neg (by rw[Ae,Ac];simp;omega),Gz (by omega) (by omega),Aa]
  by_cases hp:b.take 3=[73,68,51]
  ·rw[if_neg (by simpa using hp),if_neg (by simp[h3,hp]),Aic,Ahx]
   by_cases h10:b.length<10
   ·rw[if_pos (by rw[Ae,Ac];simp;omega),if_pos h10]
   ·have e6:Bo b (6:Int) (10:Int)=some (part b 6 4):=Nx 6 4 (by omega)
    have g3:getI b (3:Int)=some (b.getD 3 0):=Bah (i:=3) (by omega)
    have g4:getI b (4:Int)=some (b.getD 4 0):=Bah (i:=4) (by omega)
    have g5:getI b (5:Int)=some (b.getD 5 0):=Bah (i:=5) (by omega)
    obtain⟨v1,v2⟩:=Bvp (b:=part b 6 4) (De (by omega))
    rw[if_neg (by rw[Ae,Ac];simp;omega),if_neg h10,e6,Aa,By0 _ (De (by omega)),Aa]
    have ht:=Cgn b (Aqo (part b 6 4) 0).1 (by omega) v1 v2
    generalize Aqo (part b 6 4) 0=v at*
    obtain⟨v,e⟩:=v
    simp only at ht v1 v2⊢
    simp only[Aa,g3,g4,g5,ht]
    generalize b.getD 3 0=x at*
    generalize b.getD 4 0=y at*
    generalize b.getD 5 0=z at*
    simp only[Beu,Ckj,Cc2,Ah]
    by_cases he:e=0<;>by_cases hy:y=0<;>by_cases hz:z=0<;>by_cases hz2:z=16<;>by_cases hx:x=4<;>by_cases hx2:x.toNat<2<;>by_cases hx4:4<x.toNat<;>simp_all<;>(rw[if_neg (by omega),if_neg (by omega)])
  ·rw[if_pos (by simpa using hp),if_pos (by simp[hp])]
 ·rw[if_pos (by rw[Ae,Ac];simp;omega),if_pos (by simp[h3])]
theorem Bmn(b:List UInt8)(n:Int)(h10:10≤b.length)(hn:10≤n)(hn2:n<268435500):Yn b (b.getD 5 0) n=some (Auo b n):=by
 rw[Yn,Aul]
 by_cases c1:4000<n
 ·rw[if_pos (by rw[Ak];simpa using c1),Auo,if_pos c1]
 ·rw[if_neg (by rw[Ak];simpa using c1)]
  by_cases c2:(b.length:Int)<n
  ·rw[if_pos (by rw[Ae,Ac];simpa using c2),Auo,if_neg c1,if_pos c2]
  ·have e3:Bo b (3:Int) (10:Int)=some (part b 3 7):=Nx 3 7 (by omega)
   rw[if_neg (by rw[Ae,Ac];simpa using c2)]
   by_cases c3:b.getD 5 0=16
   ·have hl:((b.take n.toNat).drop (n-10).toNat).length=10:=by simp;omega
    have ht:Auo b n=if(b.take n.toNat).drop (n-10).toNat≠ [51,68,73]++part b 3 7 then(0,12)else(n,0):=by rw[Auo,if_neg c1,if_neg c2];simp only[c3,true_and]
    rw[if_pos (by rw[Aqd];simpa using c3),Az (by omega) (by omega),Me (by omega) (by omega) (by omega),Aa,ht]
    generalize(b.take n.toNat).drop (n-10).toNat=f at*
    rw[Gz (by omega) (by omega),Aa,Cb (by omega) (by omega),Aa,e3,Aa,Fv,Aa]
    have hf:f=f.take 3++f.drop 3:=(List.take_append_drop 3 f).symm
    by_cases c4:f=[51,68,73]++part b 3 7
    ·subst c4
     simp
    ·by_cases c5:f.take 3=[51,68,73]
     ·have:f.drop 3≠part b 3 7:=fun h=>c4 (by rw[hf,c5,h])
      simp only[List.cons_append,List.nil_append]at c4
      simp[c4,c5,this]
     ·simp only[List.cons_append,List.nil_append]at c4
      simp[c4,c5]
   ·rw[if_neg (by rw[Aqd];simpa using c3),Auo,if_neg c1,if_neg c2,if_neg (fun h=>c3 h.1)]
theorem Ceg(b:List UInt8)(r:Int)(h10:10≤b.length)(h0:0≤r)(h1:r<268435456):Yv b r (b.getD 5 0)=some (Bi1 b r):=by
 rw[Yv,Aip,Bi1]
 by_cases c3:b.getD 5 0=16
 ·rw[if_pos (by rw[Aqd];simpa using c3),Ag (by rw[Ag]<;>omega) (by rw[Ag]<;>omega),Ag (by omega) (by omega),Bmn b _ h10 (by omega) (by omega),if_pos c3]
 ·rw[if_neg (by rw[Aqd];simpa using c3),Ag (by omega) (by omega),Bmn b _ h10 (by omega) (by omega),if_neg c3];simp
theorem Bzk(b:List UInt8)(hb:b.length<4611686018427387904):Akj b=some (Abx b):=by
 rw[Akj,Yp,Asm,Aa]
 by_cases hp:3≤b.length∧b.take 3=[73,68,51]
 ·rw[if_neg (by simpa using hp)]
  by_cases h10:b.length<10
  ·rw[if_pos (by rw[Ae,Ac];simp;omega),Abx,if_neg (fun h=>h hp),if_pos h10]
  ·have e6:Bo b (6:Int) (10:Int)=some (part b 6 4):=Nx 6 4 (by omega)
   have g3:getI b (3:Int)=some (b.getD 3 0):=Bah (i:=3) (by omega)
   have g4:getI b (4:Int)=some (b.getD 4 0):=Bah (i:=4) (by omega)
   have g5:getI b (5:Int)=some (b.getD 5 0):=Bah (i:=5) (by omega)
   obtain⟨v1,v2⟩:=Bvp (b:=part b 6 4) (De (by omega))
   have ht:=Ceg b (Aqo (part b 6 4) 0).1 (by omega) v1 v2
   rw[if_neg (by rw[Ae,Ac];simp;omega),g3,Aa,g5,Aa,Aix,Ai8,e6,Aa,Bt1 _ (De (by omega)),Aa,Abx,if_neg (fun h=>h hp),if_neg h10]
   generalize Aqo (part b 6 4) 0=v at*
   obtain⟨v,e⟩:=v
   simp only at ht v1 v2⊢
   simp only[Aa,g4,Ai6,Aij]
   generalize b.getD 3 0=x at*
   generalize b.getD 4 0=y at*
   generalize b.getD 5 0=z at*
   simp only[Beu,Cjg,Aqd,Cdo,Ah]
   have e2:(2:UInt8).toNat=2:=rfl
   have e4:(4:UInt8).toNat=4:=rfl
   by_cases he:e=0<;>by_cases hy:y=0<;>by_cases hz:z=0<;>by_cases hz2:z=16<;>by_cases hx:x=4<;>by_cases hx2:2≤x.toNat<;>by_cases hx4:x.toNat≤4<;>simp_all
 ·rw[if_pos (by rw[Bool.not_eq_true',decide_eq_false_iff_not];exact hp),Abx,if_pos hp]
theorem Cbz{b:List UInt8}{n:Int}(h:Abx b=(n,0)):10≤n∧n≤b.length∧n≤4000:=by
 unfold Abx at h
 split at h; · simp at h
 split at h; · simp at h
 split at h; · simp at h
 rename_i h10 _
 obtain⟨v1,v2⟩:=Bvp (b:=part b 6 4) (De (by omega))
 unfold Bi1 at h
 generalize hm:(Aqo (part b 6 4) 0).1+10+(if b.getD 5 0=16 then 10 else 0)=m at h
 unfold Auo at h
 split at h; · simp at h
 split at h; · simp at h
 split at h; · simp at h
 simp only[Prod.mk.injEq,and_true]at h
 subst h
 refine⟨?_,by omega,by omega⟩
 rw[←hm]
 split<;>omega
end Go.Pl
set_option linter.unusedVariables false
set_option linter.unusedSimpArgs false
namespace Go.Pl
open Go Go.Lv
def APE:List UInt8:=[65,80,69,84,65,71,69,88]
def Nk(n m fl:Nat):List UInt8:=APE++Ns 2000 4++Ns (n+32) 4++Ns m 4++Ns fl 4++List.replicate 8 0
theorem An5{n:Nat}(h:n<18446744073709551616):(UInt64.ofNat n).toNat=n:=by rw[UInt64.toNat_ofNat',Nat.mod_eq_of_lt h]
theorem Ayo(n m:Int)(fl:UInt64)(c:UInt64)(i q:Nat)(acc:List UInt8)(hi:i<6)(hc:getI ([(2000:UInt64),(Af (Ad n (32:Int)):UInt64),(Af m:UInt64),fl,(0:UInt64),(0:UInt64)]:List UInt64) (i:Int)=some c)(h:c.toNat<4294967296)(ha:acc.length≤1000000):
  Zr n m fl (q+1) (i:Int) acc=Zr n m fl q ((i+1:Nat):Int) (acc++Ns c.toNat 4):=by
 have hb:=Amr c 4 (by omega) (by omega) (by simpa using h)
 rw[Zr,At1,if_pos (by rw[Ae,Ac];simp;omega),hc,Aa,Aa,show((4:Int))=((4:Nat):Int)from rfl,hb,Aa]
 simp only
 rw[Ce (by rw[Bb];omega),Aa,Ag (by omega) (by omega)];rfl
theorem Bhs(n m:Nat)(fl:UInt64)(hn:n≤3000)(hm:m≤1000)(hf:fl.toNat<4294967296):Ax4 (n:Int) (m:Int) fl=some (Nk n m fl.toNat):=by
 have e1:(Af (Ad (n:Int) (32:Int)):UInt64).toNat=n+32:=by rw[Ag (by omega) (by omega),show(n:Int)+32=((n+32:Nat):Int) by omega,Te,An5 (by omega)]
 have e2:(Af (m:Int):UInt64).toNat=m:=by rw[Te,An5 (by omega)]
 have hF:FUEL=(FUEL-7)+1+1+1+1+1+1+1:=by have:=Al;omega
 rw[Ax4,Ba3,Az9,hF]
 rw[show((0:Int))=((0:Nat):Int)from rfl,Ayo n m fl 2000 0 _ _ (by omega) rfl (by decide) (by simp),Ayo n m fl _ 1 _ _ (by omega) rfl (by rw[e1];omega) (by simp[Bb]),Ayo n m fl _ 2 _ _ (by omega) rfl (by rw[e2];omega) (by simp[Bb]),
  Ayo n m fl fl 3 _ _ (by omega) rfl hf (by simp[Bb]),Ayo n m fl 0 4 _ _ (by omega) rfl (by decide) (by simp[Bb]),Ayo n m fl 0 5 _ _ (by omega) rfl (by decide) (by simp[Bb]),e1,e2]
 rw[Zr,At1,if_neg (by rw[Ae,Ac];simp),Ba1,Bi6,Nk]
 have z:Ns (0:UInt64).toNat 4++Ns (0:UInt64).toNat 4=List.replicate 8 0:=by decide
 have z2:Ns (2000:UInt64).toNat 4=Ns 2000 4:=rfl
 rw[List.append_assoc _ (Ns (0:UInt64).toNat 4),z,z2];rfl
theorem Bdg(n m:Nat)(fl:UInt64)(hn:n≤3000)(hm:m≤1000)(hf:fl.toNat<4294967296):Qp (n:Int) (m:Int) fl=some (Nk n m fl.toNat):=by
 have e1:(Af (Ad (n:Int) (32:Int)):UInt64).toNat=n+32:=by rw[Ag (by omega) (by omega),show(n:Int)+32=((n+32:Nat):Int) by omega,Te,An5 (by omega)]
 have e2:(Af (m:Int):UInt64).toNat=m:=by rw[Te,An5 (by omega)]
 have w:∀c:UInt64,Dk c 4=some (Ns c.toNat 4):=fun c=>Bky c 4 (by omega)
 have z2:Ns (2000:UInt64).toNat 4=Ns 2000 4:=rfl
 rw[Qp]
 simp only[w,e1,e2,Aa]
 rw[Ce (by simp[Bb]),Aa,Ce (by simp[Bb]),Aa,Ce (by simp[Bb]),Aa,Ce (by simp[Bb]),Aa,Bcw (by omega) (by omega),Aa,Ce (by simp[Bb]),Aa,z2];rfl
theorem Akp{b:List UInt8}{a w k:Nat}(h:a+w≤k):part (b.take k) a w=part b a w:=by rw[part,part,List.take_take,Nat.min_eq_left h]
def Ahl(b:List UInt8):Bool:=decide (leN (part b 12 4)<32∨3032<leN (part b 12 4)∨1000<leN (part b 16 4))
theorem Cej(b:List UInt8)(h:20≤b.length):(((Bn (leU (part b 12 4)) (32:UInt64))||(Fi (leU (part b 12 4)) (3032:UInt64)))||(Fi (leU (part b 16 4)) (1000:UInt64)))=Ahl b:=by
 rw[Bha,Ao1,Ao1,Aob (by rw[De (by omega)];omega),Aob (by rw[De (by omega)];omega),Ahl]
 show((decide (leN (part b 12 4)<32)||decide (3032<leN (part b 12 4)))||decide (1000<leN (part b 16 4)))=_
 simp[Bool.or_assoc]
theorem Bd1(b:List UInt8)(h:20≤b.length)(hb:Ahl b=false):Aj (Af (leU (part b 12 4)):Int) (32:Int)=((leN (part b 12 4)-32:Nat):Int)∧(Af (leU (part b 16 4)):Int)=((leN (part b 16 4):Nat):Int)∧leN (part b 12 4)-32≤3000∧leN (part b 16 4)≤1000:=by
 simp only[Ahl,decide_eq_false_iff_not]at hb
 refine⟨?_,Agl (by rw[De (by omega)];omega),by omega,by omega⟩
 rw[Agl (by rw[De (by omega)];omega),Az (by omega) (by omega)];omega
theorem Atg(b:List UInt8)(fl:UInt64)(h:20≤b.length)(hl:b.length<4611686018427387904)(hf:fl.toNat<4294967296):
  Akq b fl=some (if Ahl b=true then(0,0,false)else(((leN (part b 12 4)-32:Nat):Int),((leN (part b 16 4):Nat):Int),b==Nk (leN (part b 12 4)-32) (leN (part b 16 4)) fl.toNat)):=by
 have a1:Arl b 12 4=some (leU (part b 12 4),0):=Bmc b 12 4 (by omega) (by omega) (by omega) hl
 have a2:Arl b 16 4=some (leU (part b 16 4),0):=Bmc b 16 4 (by omega) (by omega) (by omega) hl
 rw[Akq,a1,Aa]
 simp only
 rw[a2,Aa]
 simp only
 rw[Cej b h]
 cases hb:Ahl b with
 |true=>rfl
 |false=>
  obtain⟨i1,i2,i3,i4⟩:=Bd1 b h hb
  rw[i1,i2,Bhs _ _ _ i3 i4 hf]
  rfl
theorem Br1(b:List UInt8)(h:20≤b.length)(hl:b.length<4611686018427387904):
  Uk b=some (if Ahl b=true then(0,0,false)else(((leN (part b 12 4)-32:Nat):Int),((leN (part b 16 4):Nat):Int),true)):=by
 have a1:Bo b 12 16=some (part b 12 4):=Nx 12 4 (by omega)
 have a2:Bo b 16 20=some (part b 16 4):=Nx 16 4 (by omega)
 rw[Uk,a1,Aa,Bsx _ (by rw[De (by omega)];omega),Aa,a2,Aa,Bsx _ (by rw[De (by omega)];omega),Aa,Cej b h]
 cases hb:Ahl b with
 |true=>rfl
 |false=>
  obtain⟨i1,i2,i3,i4⟩:=Bd1 b h hb
  rw[i1,i2];rfl
def Nm(b:List UInt8):Int×Int:=
 if ¬(8≤b.length∧b.take 8=APE)then(0,6)else if b.length<32 then(0,24)else
 if Ahl b=true∨b.take 32≠Nk (leN (part b 12 4)-32) (leN (part b 16 4)) 2684354560 then(0,12)else
 if b.length<leN (part b 12 4)+32 then(0,24)else
 if(b.take (leN (part b 12 4)+32)).drop (leN (part b 12 4))≠Nk (leN (part b 12 4)-32) (leN (part b 16 4)) 2147483648 then(0,12)else(((leN (part b 12 4)+32:Nat):Int),0)
theorem Bq9(b:List UInt8):Ahl (b.take 32)=Ahl b:=by rw[Ahl,Ahl,Akp (by omega),Akp (by omega)]
section
variable {b:List UInt8}
theorem fa1(h:¬(8≤b.length∧b.take 8=APE)):Nm b=(0,6):=by rw[Nm,if_pos h]
theorem fa2(h:8≤b.length∧b.take 8=APE)(h2:b.length<32):Nm b=(0,24):=by rw[Nm,if_neg (fun h'=>h' h),if_pos h2]
variable (h:8≤b.length∧b.take 8=APE) (h2:¬b.length<32)
include h h2
theorem fa3(h3:Ahl b=true):Nm b=(0,12):=by rw[Nm,if_neg (fun h'=>h' h),if_neg h2,if_pos (.inl h3)]
theorem fa4(h4:b.take 32≠Nk (leN (part b 12 4)-32) (leN (part b 16 4)) 2684354560):Nm b=(0,12):=by rw[Nm,if_neg (fun h'=>h' h),if_neg h2,if_pos (.inr h4)]
variable (h3:Ahl b=false) (h4:b.take 32=Nk (leN (part b 12 4)-32) (leN (part b 16 4)) 2684354560)
include h3 h4
theorem fa5(h5:b.length<leN (part b 12 4)+32):Nm b=(0,24):=by
 rw[Nm,if_neg (fun h'=>h' h),if_neg h2,if_neg (fun h'=>h'.elim (fun e=>by rw[h3]at e;cases e) fun e=>e h4),if_pos h5]
theorem fa6(h5:¬b.length<leN (part b 12 4)+32)(h6:(b.take (leN (part b 12 4)+32)).drop (leN (part b 12 4))≠Nk (leN (part b 12 4)-32) (leN (part b 16 4)) 2147483648):Nm b=(0,12):=by
 rw[Nm,if_neg (fun h'=>h' h),if_neg h2,if_neg (fun h'=>h'.elim (fun e=>by rw[h3]at e;cases e) fun e=>e h4),if_neg h5,if_pos h6]
theorem fa7(h5:¬b.length<leN (part b 12 4)+32)(h6:(b.take (leN (part b 12 4)+32)).drop (leN (part b 12 4))=Nk (leN (part b 12 4)-32) (leN (part b 16 4)) 2147483648):Nm b=(((leN (part b 12 4)+32:Nat):Int),0):=by
 rw[Nm,if_neg (fun h'=>h' h),if_neg h2,if_neg (fun h'=>h'.elim (fun e=>by rw[h3]at e;cases e) fun e=>e h4),if_neg h5,if_neg (fun h'=>h' h6)]
end
theorem Bvi(b:List UInt8)(hl:b.length<4611686018427387904):Ayh b=some (Nm b):=by
 rw[Ayh,Asm,Aa]
 by_cases hp:8≤b.length∧b.take 8=APE
 ·rw[if_neg (by simpa [APE]using hp)]
  by_cases h32:b.length<32
  ·rw[if_pos (by rw[Ae,Ac];simp;omega),fa2 hp h32]
  ·have t:=Atg (b.take 32) 2684354560 (by simp;omega) (by simp;omega) (by decide)
   rw[Bq9,Akp (by omega),Akp (by omega)]at t
   rw[if_neg (by rw[Ae,Ac];simp;omega),Gz (by omega) (by omega),Aa,show(32:Int).toNat=32 from rfl,t,Aa]
   cases hb:Ahl b with
   |true=>rw[fa3 hp h32 hb];simp
   |false=>
    obtain⟨i1,i2,i3,i4⟩:=Bd1 b (by omega) hb
    have i5:32≤leN (part b 12 4):=by simp only[Ahl,decide_eq_false_iff_not]at hb;omega
    simp only[Bool.false_eq_true,if_false,false_or]
    by_cases c1:b.take 32=Nk (leN (part b 12 4)-32) (leN (part b 16 4)) 2684354560
    ·have c1':b.take 32=Nk (leN (part b 12 4)-32) (leN (part b 16 4)) (2684354560:UInt64).toNat:=c1
     rw[if_neg (by simpa using c1'),Ag (by omega) (by omega)]
     have e1:((leN (part b 12 4)-32:Nat):Int)+64=((leN (part b 12 4)+32:Nat):Int):=by omega
     rw[e1]
     by_cases c2:b.length<leN (part b 12 4)+32
     ·rw[if_pos (by rw[Ae,Ac];simp;omega),fa5 hp h32 hb c1 c2]
     ·rw[if_neg (by rw[Ae,Ac];simp;omega),Az (by omega) (by omega),Me (by omega) (by omega) (by omega),Aa,Bhs _ _ _ i3 i4 (by decide),Aa,Fv,Aa]
      rw[show(((leN (part b 12 4)+32:Nat):Int)).toNat=leN (part b 12 4)+32 by omega,show(((leN (part b 12 4)+32:Nat):Int)-32).toNat=leN (part b 12 4) by omega]
      by_cases c3:(b.take (leN (part b 12 4)+32)).drop (leN (part b 12 4))=Nk (leN (part b 12 4)-32) (leN (part b 16 4)) 2147483648
      ·have c3':(b.take (leN (part b 12 4)+32)).drop (leN (part b 12 4))=Nk (leN (part b 12 4)-32) (leN (part b 16 4)) (2147483648:UInt64).toNat:=c3
       rw[if_neg (by simpa using c3'),fa7 hp h32 hb c1 c2 c3]
      ·have c3':¬(b.take (leN (part b 12 4)+32)).drop (leN (part b 12 4))=Nk (leN (part b 12 4)-32) (leN (part b 16 4)) (2147483648:UInt64).toNat:=c3
       rw[if_pos (by simpa using c3'),fa6 hp h32 hb c1 c2 c3]
    ·have c1':¬b.take 32=Nk (leN (part b 12 4)-32) (leN (part b 16 4)) (2684354560:UInt64).toNat:=c1
     rw[if_pos (by simpa using c1'),fa4 hp h32 c1]
 ·rw[if_pos (by rw[Bool.not_eq_true',decide_eq_false_iff_not];exact hp),fa1 hp]
theorem Byz(b:List UInt8)(hl:b.length<4611686018427387904):Zw b=some (Nm b):=by
 rw[Zw,Ae2]
 by_cases h8:8≤b.length
 ·rw[if_neg (by rw[Ae,Ac];simp;omega),Gz (by omega) (by omega),Aa,show(8:Int).toNat=8 from rfl]
  by_cases ha:b.take 8=APE
  ·have hp:=And.intro h8 ha
   rw[if_neg (by simpa [APE]using ha),Aey,Aeo]
   by_cases h32:b.length<32
   ·rw[if_pos (by rw[Ae,Ac];simp;omega),fa2 hp h32]
   ·have t:=Br1 (b.take 32) (by simp;omega) (by simp;omega)
    rw[Bq9,Akp (by omega),Akp (by omega)]at t
    rw[if_neg (by rw[Ae,Ac];simp;omega),Gz (by omega) (by omega),Aa,show(32:Int).toNat=32 from rfl,t,Aa]
    cases hb:Ahl b with
    |true=>rw[fa3 hp h32 hb];simp
    |false=>
     obtain⟨i1,i2,i3,i4⟩:=Bd1 b (by omega) hb
     have i5:32≤leN (part b 12 4):=by simp only[Ahl,decide_eq_false_iff_not]at hb;omega
     simp only[Bool.false_eq_true,if_false,false_or,Aa,Bool.not_true]
     rw[Ug,Bdg _ _ _ i3 i4 (by decide),Aa,Aa]
     by_cases c1:b.take 32=Nk (leN (part b 12 4)-32) (leN (part b 16 4)) 2684354560
     ·have c1':b.take 32=Nk (leN (part b 12 4)-32) (leN (part b 16 4)) (2684354560:UInt64).toNat:=c1
      rw[if_neg (by simpa using c1'),Ae8,Aen,Ag (by omega) (by omega)]
      have e1:64+((leN (part b 12 4)-32:Nat):Int)=((leN (part b 12 4)+32:Nat):Int):=by omega
      rw[e1]
      by_cases c2:b.length<leN (part b 12 4)+32
      ·rw[if_pos (by rw[Ae,Ac];simp;omega),fa5 hp h32 hb c1 c2]
      ·rw[if_neg (by rw[Ae,Ac];simp;omega),Az (by omega) (by omega),Me (by omega) (by omega) (by omega),Aa,Kb,if_pos rfl,Bdg _ _ _ i3 i4 (by decide),Aa,Aa]
       rw[show(((leN (part b 12 4)+32:Nat):Int)).toNat=leN (part b 12 4)+32 by omega,show(((leN (part b 12 4)+32:Nat):Int)-32).toNat=leN (part b 12 4) by omega]
       by_cases c3:(b.take (leN (part b 12 4)+32)).drop (leN (part b 12 4))=Nk (leN (part b 12 4)-32) (leN (part b 16 4)) 2147483648
       ·have c3':(b.take (leN (part b 12 4)+32)).drop (leN (part b 12 4))=Nk (leN (part b 12 4)-32) (leN (part b 16 4)) (2147483648:UInt64).toNat:=c3
        rw[if_neg (by simpa using c3'),fa7 hp h32 hb c1 c2 c3]
       ·have c3':¬(b.take (leN (part b 12 4)+32)).drop (leN (part b 12 4))=Nk (leN (part b 12 4)-32) (leN (part b 16 4)) (2147483648:UInt64).toNat:=c3
        rw[if_pos (by simpa using c3'),fa6 hp h32 hb c1 c2 c3]
     ·have c1':¬b.take 32=Nk (leN (part b 12 4)-32) (leN (part b 16 4)) (2684354560:UInt64).toNat:=c1
      rw[if_pos (by simpa using c1'),fa4 hp h32 c1]
  ·rw[if_pos (by simpa [APE]using ha),fa1 (fun h=>ha h.2)]
 ·rw[if_pos (by rw[Ae,Ac];simp;omega),fa1 (fun h=>h8 h.1)]
theorem Bz0{b:List UInt8}{n:Int}(h:Nm b=(n,0)):64≤n∧n≤b.length:=by
 unfold Nm at h
 split at h; · simp at h
 split at h; · simp at h
 split at h; · simp at h
 rename_i hb
 split at h; · simp at h
 split at h; · simp at h
 simp only[Prod.mk.injEq,and_true]at h
 have hb':¬Ahl b=true:=fun e=>hb (.inl e)
 simp only[Ahl,decide_eq_true_eq]at hb'
 omega
end Go.Pl
set_option linter.unusedVariables false
set_option linter.unusedSimpArgs false
namespace Go.Pl
open Go Go.Lv
def Dd(b:List UInt8):Int×Int:=if(Abx b).2≠6 then Abx b else Nm b
theorem size_eq(b:List UInt8)(hl:b.length<4611686018427387904):Vv b=some (Dd b):=by
 rw[Vv,Bzk b hl,Aa,Bvi b hl]
 by_cases h:(Abx b).2=6
 ·simp[Dd,h,Ah]
 ·simp[Dd,h,Ah]
theorem Bbb{b:List UInt8}{n:Int}(h:Dd b=(n,0)):10≤n∧n≤b.length:=by
 unfold Dd at h
 split at h
 ·have:=Cbz h;omega
 ·have:=Bz0 h;omega
def Cl(b:List UInt8):Nat→Nat→List Int×Int
 |0,_=>([],6)
 |j+1,p=>if(Dd (b.drop p)).2=6 then([],0)else if(Dd (b.drop p)).2≠0 then([],(Dd (b.drop p)).2)else
  if 4000<(p:Int)+(Dd (b.drop p)).1 then([],4)else
  if(Cl b j (p+(Dd (b.drop p)).1.toNat)).2=0 then((Dd (b.drop p)).1::(Cl b j (p+(Dd (b.drop p)).1.toNat)).1,0)else([],(Cl b j (p+(Dd (b.drop p)).1.toNat)).2)
theorem Be3(b:List UInt8):∀(j p:Nat),p≤b.length→p≤4000→(Cl b j p).2=0→(∀x∈(Cl b j p).1,10≤x)∧(p:Int)+(Cl b j p).1.sum≤b.length∧(p:Int)+(Cl b j p).1.sum≤4000
 |0,p,_,_,h=>by simp[Cl]at h
 |j+1,p,hp,hq,h=>by
  rw[Cl]at h⊢
  split at h
  ·rename_i h6;rw[if_pos h6];simp;omega
  ·rename_i h6
   split at h
   ·rename_i h0;exact absurd h h0
   ·rename_i h0
    rw[if_neg h6,if_neg h0]
    have hz:Dd (b.drop p)=((Dd (b.drop p)).1,0):=by rw[Prod.ext_iff];exact⟨rfl,Classical.not_not.1 h0⟩
    have hs:=Bbb hz
    rw[List.length_drop]at hs
    split at h
    ·simp at h
    ·rename_i h4
     rw[if_neg h4]
     split at h
     ·rename_i h00
      rw[if_pos h00]
      obtain⟨i1,i2,i3⟩:=Be3 b j _ (by omega) (by omega) h00
      refine⟨fun x hx=>?_,?_,?_⟩
      ·rcases List.mem_cons.1 hx with rfl|hx
       ·exact hs.1
       ·exact i1 x hx
      ·simp only[List.sum_cons];omega
      ·simp only[List.sum_cons];omega
     ·rename_i h00;exact absurd h h00
def Bot(b:List UInt8)(j p:Nat):Int×Int:=if(Cl b j p).2=0 then((p:Int)+(Cl b j p).1.sum,0)else(0,(Cl b j p).2)
theorem Bja(b:List UInt8)(hl:b.length<4611686018427387904):∀(j p q:Nat),p≤b.length→p≤4000→b.length-p<j→j≤q→Tc b q (p:Int)=some (Bot b j p)
 |0,p,q,_,_,h,_=>by omega
 |j+1,p,q,hp,hp4,hj,hq=>by
  obtain⟨q,rfl⟩:∃k,q=k+1:=⟨q-1,by omega⟩
  rw[Tc,Cb (by omega) (by omega),Aa,Int.toNat_natCast,size_eq _ (by simp;omega),Aa,As,As,Ah,Bot]
  by_cases h6:(Dd (b.drop p)).2=6
  ·rw[if_pos (by simpa using h6)]
   have:Cl b (j+1) p=([],0):=by rw[Cl,if_pos h6]
   rw[this];simp
  ·rw[if_neg (by simpa using h6)]
   by_cases h0:(Dd (b.drop p)).2=0
   ·have hz:Dd (b.drop p)=((Dd (b.drop p)).1,0):=by rw[Prod.ext_iff];exact⟨rfl,h0⟩
    have hs:=Bbb hz
    rw[List.length_drop]at hs
    rw[Ag (by omega) (by omega),Ak]
    by_cases h4:4000<(p:Int)+(Dd (b.drop p)).1
    ·rw[if_pos (by simp[h0];omega)]
     have:Cl b (j+1) p=([],4):=by rw[Cl,if_neg h6,if_neg (fun h=>h h0),if_pos h4]
     rw[this];simp
    ·rw[if_neg (by simp[h0];omega),if_neg (by simpa using h0)]
     have ih:=Bja b hl j (p+(Dd (b.drop p)).1.toNat) q (by omega) (by omega) (by omega) (by omega)
     rw[show(p:Int)+(Dd (b.drop p)).1=((p+(Dd (b.drop p)).1.toNat:Nat):Int) by omega,ih,Bot]
     have:Cl b (j+1) p=if(Cl b j (p+(Dd (b.drop p)).1.toNat)).2=0 then((Dd (b.drop p)).1::(Cl b j (p+(Dd (b.drop p)).1.toNat)).1,0)else([],(Cl b j (p+(Dd (b.drop p)).1.toNat)).2):=by
      rw[Cl,if_neg h6,if_neg (fun h=>h h0),if_neg h4]
     rw[this]
     by_cases hr:(Cl b j (p+(Dd (b.drop p)).1.toNat)).2=0
     ·simp only[hr,if_true,List.sum_cons];congr 2;omega
     ·simp only[hr,if_false]
   ·rw[if_neg (by simp[h0]),if_pos (by simpa using h0)]
    have:Cl b (j+1) p=([],(Dd (b.drop p)).2):=by rw[Cl,if_neg h6,if_pos h0]
    rw[this];simp[h0]
def Cc7(b:List UInt8)(j p:Nat)(xs:List Int):List Int×Int:=if(Cl b j p).2=0 then(xs++(Cl b j p).1,0)else([],(Cl b j p).2)
theorem Ce3(bk:Int→List Int→Option (List Int×Int))(b:List UInt8)(p:Nat)(hp:p≤b.length)(xs:List Int)(hx:xs.length≤4000)(hl:b.length<4611686018427387904):To (Ms bk b) b (p:Int) xs=Ms bk b (p:Int) xs (Dd (b.drop p)).1 (Dd (b.drop p)).2:=by
 have hf:=Byz (b.drop p) (by simp;omega)
 rw[To,Cb (by omega) (by omega),Aa,Int.toNat_natCast,Ccy _ (by simp;omega),Aa]
 by_cases h:(Abx (b.drop p)).2=6
 ·simp[Dd,h,As,hf]
 ·simp[Dd,h,As]
theorem Blo(b:List UInt8)(hl:b.length<4611686018427387904):∀(j p q:Nat) (xs:List Int),p≤b.length→p≤4000→b.length-p<j→j≤q→xs.length≤p→Mt b q (p:Int) xs=some (Cc7 b j p xs)
 |0,p,q,_,_,_,h,_,_=>by omega
 |j+1,p,q,xs,hp,hp4,hj,hq,hx=>by
  obtain⟨q,rfl⟩:∃k,q=k+1:=⟨q-1,by omega⟩
  rw[Mt,Ce3 _ b p hp xs (by omega) hl,Ms,Aex,As,Ah,Cc7]
  by_cases h6:(Dd (b.drop p)).2=6
  ·rw[if_pos (by simpa using h6)]
   have:Cl b (j+1) p=([],0):=by rw[Cl,if_pos h6]
   rw[this];simp
  ·rw[if_neg (by simpa using h6)]
   by_cases h0:(Dd (b.drop p)).2=0
   ·have hz:Dd (b.drop p)=((Dd (b.drop p)).1,0):=by rw[Prod.ext_iff];exact⟨rfl,h0⟩
    have hs:=Bbb hz
    rw[List.length_drop]at hs
    rw[if_neg (by simpa using h0),Ag (by omega) (by omega),Ak]
    by_cases h4:4000<(p:Int)+(Dd (b.drop p)).1
    ·rw[if_pos (by simp;omega)]
     have:Cl b (j+1) p=([],4):=by rw[Cl,if_neg h6,if_neg (fun h=>h h0),if_pos h4]
     rw[this];simp
    ·rw[if_neg (by simp;omega),Ce (by simp;omega),Aa]
     have ih:=Blo b hl j (p+(Dd (b.drop p)).1.toNat) q (xs++[(Dd (b.drop p)).1]) (by omega) (by omega) (by omega) (by omega) (by simp;omega)
     rw[show(p:Int)+(Dd (b.drop p)).1=((p+(Dd (b.drop p)).1.toNat:Nat):Int) by omega,ih,Cc7]
     have:Cl b (j+1) p=if(Cl b j (p+(Dd (b.drop p)).1.toNat)).2=0 then((Dd (b.drop p)).1::(Cl b j (p+(Dd (b.drop p)).1.toNat)).1,0)else([],(Cl b j (p+(Dd (b.drop p)).1.toNat)).2):=by
      rw[Cl,if_neg h6,if_neg (fun h=>h h0),if_neg h4]
     rw[this]
     by_cases hr:(Cl b j (p+(Dd (b.drop p)).1.toNat)).2=0
     ·simp only[hr,if_true];simp
     ·simp only[hr,if_false]
   ·rw[if_pos (by simpa using h0)]
    have:Cl b (j+1) p=([],(Dd (b.drop p)).2):=by rw[Cl,if_neg h6,if_pos h0]
    rw[this];simp[h0]
theorem Bgx:∀{l:List Int},(∀x∈l,10≤x)→0≤l.sum∧(l.length:Int)≤l.sum
 |[],_=>by simp
 |x::l,h=>by
  have h1:=h x List.mem_cons_self
  have h2:=Bgx (l:=l) fun y hy=>h y (List.mem_cons_of_mem _ hy)
  simp only[List.sum_cons,List.length_cons];omega
theorem Blb(r:Int)(l:List Int)(hl:l.length≤4000)(hx:∀x∈l,10≤x):∀(j i q:Nat) (n:Int),i+j=l.length→j<q→0≤n→n+(l.drop i).sum≤4000→Ih r l q n (i:Int)=some (n+(l.drop i).sum,r)
 |0,i,q+1,n,hi,_,_,_=>by
  rw[Ih,Ts,if_neg (by rw[Ae,Ac];simp;omega),show i=l.length by omega,List.drop_length]
  simp[Ae1,Aek]
 |j+1,i,q+1,n,hi,hq,hn,hs=>by
  have hlt:i<l.length:=by omega
  rw[drop_cons hlt,List.sum_cons]at hs⊢
  have h1:=hx l[i] (List.getElem_mem hlt)
  have h2:=Bgx (l:=l.drop (i+1)) fun y hy=>hx y (List.mem_of_mem_drop hy)
  rw[Ih,Ts,if_pos (by rw[Ae,Ac];simp;omega),Bm hlt,Aa,Aa,Ag (by omega) (by omega),Ag (by omega) (by omega)]
  have ih:=Blb r l hl hx j (i+1) q (n+l[i]) (by omega) (by omega) (by omega) (by omega)
  rw[show((i:Int)+1)=((i+1:Nat):Int) by omega,ih]
  congr 2;omega
def frontS(b:List UInt8):Int×Int:=Bot b (b.length+1) 0
theorem Ez(b:List UInt8)(hl:b.length<4611686018427387904):Qw b=some (frontS b):=by
 have:=Bja b hl (b.length+1) 0 FUEL (by omega) (by omega) (by omega) (by have:=Al;omega)
 exact this
theorem Wv(b:List UInt8)(hl:b.length<4611686018427387904):Ja b=some (frontS b):=by
 have h:=Blo b hl (b.length+1) 0 FUEL [] (by omega) (by omega) (by omega) (by have:=Al;omega) (by simp)
 have h':Ak1 b=some (Cc7 b (b.length+1) 0 []):=h
 rw[Ja,Afa,h',Aa,frontS,Bot,Cc7]
 have ho:=Be3 b (b.length+1) 0 (by omega) (by omega)
 by_cases h0:(Cl b (b.length+1) 0).2=0
 ·obtain⟨i1,i2,i3⟩:=ho h0
  have hp:=Bgx i1
  simp only[h0,if_true,List.nil_append]
  have:=Blb 0 (Cl b (b.length+1) 0).1 (by omega) i1 (Cl b (b.length+1) 0).1.length 0 FUEL 0 (by omega) (by have:=Al;omega) (by omega) (by simpa using i3)
  simpa [Uc]using this
 ·simp only[h0,if_false]
  have:=Blb (Cl b (b.length+1) 0).2 [] (by simp) (by simp) 0 0 FUEL 0 (by simp) (by have:=Al;omega) (by omega) (by simp)
  simpa [Uc]using this
theorem Akr{b:List UInt8}(h:(frontS b).2=0):0≤(frontS b).1∧(frontS b).1≤b.length∧(frontS b).1≤4000:=by
 unfold frontS Bot at h⊢
 split at h
 ·rename_i h0
  rw[if_pos h0]
  obtain⟨i1,i2,i3⟩:=Be3 b (b.length+1) 0 (by omega) (by omega) h0
  have hp:=Bgx i1
  exact⟨by simp;omega,i2,i3⟩
 ·rename_i h0;exact absurd h h0
end Go.Pl
set_option linter.unusedVariables false
set_option linter.unusedSimpArgs false
namespace Go.Pl
open Go Go.Lv
def longN(r:Nat):Nat:=max 1 (256*r/245)
theorem Lt(r:Nat):1≤longN r:=Nat.le_max_left _ _
theorem Bhx{r:Nat}(h:r≤1048576):longN r≤1100000:=by unfold longN;omega
theorem Bjn{r:Nat}(h:r≤1048576):Ay7 (1:Int) (Bt (Au (256:Int) (r:Int)) (245:Int))=(longN r:Int):=by
 rw[Fb (by omega) (by omega),Afj,Int.tdiv_eq_ediv_of_nonneg (by omega),Br (by omega) (by omega),Bov,longN];omega
def framesL(g n:Nat):List Int:=List.replicate ((n-1)/g) (g:Int)++[((n-(n-1)/g*g:Nat):Int)]
theorem Uw(g n:Nat):(framesL g n).length=(n-1)/g+1:=by simp[framesL]
theorem Azk{g n:Nat}(h:n≤g)(h1:1≤n):framesL g n=[(n:Int)]:=by
 rw[framesL,Nat.div_eq_of_lt (by omega)];simp
theorem Bff{g n:Nat}(hg:1≤g)(h:g<n):framesL g n=(g:Int)::framesL g (n-g):=by
 have e:(n-1)/g=(n-g-1)/g+1:=by rw[←Nat.add_div_right _ (by omega)];congr 1;omega
 rw[framesL,framesL,e,List.replicate_succ,List.cons_append]
 congr 4
 have:=Nat.div_mul_le_self (n-g-1) g
 rw[Nat.add_mul,Nat.one_mul];omega
theorem Bbd{g n:Nat}(hg:1≤g)(h1:1≤n):(n+g-1)/g=(n-1)/g+1:=by
 rw[←Nat.add_div_right _ (by omega)];congr 1;omega
theorem Bmv{r:Nat}(h1:1≤r)(h:r≤1048576):Re (r:Int)=some ((longN r:Int),0):=by
 rw[Re,if_neg (by simp[Ae,Ak];omega),Bjn h]
theorem Cez{r:Nat}(h:r≤1048576):Uf (r:Int)=some (longN r:Int):=by rw[Uf,Bjn h]
theorem Ass{r n:Nat}(h1:1≤r)(h:r≤1048576)(n1:1≤n)(n2:n≤4000):Gw (r:Int) (n:Int)=some (if 1000<(n-1)/longN r+1 then(0,4)else((((n-1)/longN r+1:Nat):Int),0)):=by
 have hp:=Lt r
 have hl:=Bhx h
 have e:Bt (Aj (Ad (n:Int) (longN r:Int)) (1:Int)) (longN r:Int)=(((n-1)/longN r+1:Nat):Int):=by
  have:(n+longN r-1)/longN r≤n+longN r-1:=Nat.div_le_self _ _
  rw[Ag (by omega) (by omega),Az (by omega) (by omega),Afj,Int.tdiv_eq_ediv_of_nonneg (by omega),show(n:Int)+(longN r:Int)-1=((n+longN r-1:Nat):Int) by omega,←Int.natCast_ediv,Bbd hp n1]
  rw[Bbd hp n1]at this
  generalize(n-1)/longN r=k at*
  exact Br (by omega) (by omega)
 rw[Gw,Bmv h1 h,Aa]
 simp only
 rw[if_neg (by rw[Ah];simp),if_neg (by simp[Ae,Ak];omega),Ba (by rw[Ah];simp;omega),Aa,e]
 by_cases hk:1000<(n-1)/longN r+1
 ·rw[if_pos (by rw[Ak];simp;omega),if_pos hk]
 ·rw[if_neg (by rw[Ak];simp;omega),if_neg hk]
theorem Bhm{r:Nat}(h:r≤1048576):∀(j n q:Nat) (acc:List Int),n≤4000→n≤j→j<q→acc.length+n≤10000→Eg (r:Int) q (n:Int) acc=some (acc++(if n=0 then []else framesL (longN r) n))
 |0,n,q+1,acc,hn,hj,hq,ha=>by
  obtain rfl:n=0:=by omega
  rw[Eg,Ia,if_neg (by rw[Ak];simp)]
  simp[Mv,Mu]
 |j+1,n,q+1,acc,hn,hj,hq,ha=>by
  have hp:=Lt r
  have hl:=Bhx h
  by_cases h0:n=0
  ·subst h0
   rw[Eg,Ia,if_neg (by rw[Ak];simp)]
   simp[Mv,Mu]
  ·rw[Eg,Ia,if_pos (by rw[Ak];simp;omega),Cez h,Aa,Ce (by simp;omega),Aa,Aa,Az (by omega) (by omega),Acd]
   by_cases hs:n≤longN r
   ·rw[show min (n:Int) (longN r:Int)=(n:Int) by omega,if_neg h0,Azk hs (by omega)]
    have hz:∃k,q=k+1:=⟨q-1,by omega⟩
    obtain⟨q,rfl⟩:=hz
    rw[Eg,Ia,if_neg (by rw[Ak];simp;omega)]
    simp[Mv,Mu]
   ·rw[show min (n:Int) (longN r:Int)=(longN r:Int) by omega,show(n:Int)-(longN r:Int)=((n-longN r:Nat):Int) by omega,Bhm h j (n-longN r) q _ (by omega) (by omega) (by omega) (by simp;omega),if_neg (by omega),if_neg h0,Bff hp (show longN r<n by omega)]
    simp
theorem Ak7{r n:Nat}(h:r≤1048576)(n1:1≤n)(n2:n≤4000):Cz (r:Int) (n:Int)=some (framesL (longN r) n):=by
 have:=Bhm h n n FUEL [] n2 (Nat.le_refl _) (by have:=Al;omega) (by simp;omega)
 rw[Cz,Ae5,Ae9,this,if_neg (by omega)];rfl
theorem mul_one(m:Nat)(h:m≤100000):Aga (1:UInt64) (UInt64.ofNat m)=some (0,UInt64.ofNat m):=by
 have y1:(UInt64.ofNat m).toNat=m:=An5 (by omega)
 have s1:Bi (1:UInt64) (GI.toZ (32:UInt64)).toNat=0:=by decide
 have s2:Bi (UInt64.ofNat m) (GI.toZ (32:UInt64)).toNat=0:=by
  apply UInt64.toNat_inj.1
  rw[Adr,y1]
  exact Nat.div_eq_of_lt (Nat.lt_of_le_of_lt h (by decide))
 have s0:Bi (0:UInt64) (GI.toZ (32:UInt64)).toNat=0:=by decide
 have a1:Dc (1:UInt64) (4294967295:UInt64)=1:=by decide
 have a0:Dc (0:UInt64) (4294967295:UInt64)=0:=by decide
 have a2:Dc (UInt64.ofNat m) (4294967295:UInt64)=UInt64.ofNat m:=by
  apply UInt64.toNat_inj.1
  rw[Bhf,UInt64.toNat_and,y1]
  show m&&& (2^32-1)=m
  rw[Nat.and_two_pow_sub_one_eq_mod,Nat.mod_eq_of_lt (by omega)]
 have m1:∀x:UInt64,Au 1 x=x:=fun x=>by rw[Ahz,UInt64.one_mul]
 have m0:∀x:UInt64,Au 0 x=0:=fun x=>by rw[Ahz,UInt64.zero_mul]
 have p0:∀x:UInt64,Ad 0 x=x:=fun x=>by rw[Ahs,UInt64.zero_add]
 have p1:∀x:UInt64,Ad x 0=x:=fun x=>by rw[Ahs,UInt64.add_zero]
 rw[Aga,Ais]
 simp only[s1,s2,a1,a2,m1,m0,p0,p1,s0,a0,Aa]
theorem Bfk(v:Int)(m:Nat)(hm:m≤100000):∀(j n q:Nat),1≤n→n≤m→m-n≤j→j<q→Dw q (n:Int) (List.replicate n v++List.replicate (m-n) 0)=some (List.replicate m v)
 |j,n,q+1,hn,hnm,hj,hq=>by
  have hlen:Ac (List.replicate n v++List.replicate (m-n) 0)=(m:Int):=by simp[Ac];omega
  rw[Dw,Fz,hlen]
  by_cases h:n<m
  ·obtain⟨j,rfl⟩:∃k,j=k+1:=⟨j-1,by omega⟩
   rw[if_pos (by rw[Ae];simp;omega)]
   have v1:vwI (m:Int) (n:Int) (m:Int)=some ():=by rw[vwI,Ba];simp;omega
   have v2:vwI (m:Int) (0:Int) (n:Int)=some ():=by rw[vwI,Ba];simp;omega
   have e1:Anw (List.replicate n v++List.replicate (m-n) 0) (0:Int) ((n:Int)-0)=List.replicate n v:=by
    simp[Anw]
   rw[v1,Aa,v2,Aa,e1]
   have e2:Aku ((m:Int)-(n:Int)) (List.replicate n v).length=((min n (m-n):Nat):Int):=by
    rw[Aku,List.length_replicate];split<;>omega
   have e3:Tt (List.replicate n v++List.replicate (m-n) 0) (n:Int) ((m:Int)-(n:Int)) (List.replicate n v)=List.replicate (n+min n (m-n)) v++List.replicate (m-(n+min n (m-n))) 0:=by
    have t1:((m:Int)-(n:Int)).toNat=m-n:=by omega
    have t2:(List.replicate n v++List.replicate (m-n) (0:Int)).take n=List.replicate n v:=by simp
    rw[Tt,t1,Int.toNat_natCast,t2,List.take_replicate,List.length_replicate,←List.append_assoc,List.replicate_append_replicate,List.drop_append,List.length_replicate,Nat.min_comm (m-n) n]
    simp only[List.drop_replicate]
    rw[show n-(n+min n (m-n))=0 by omega,List.replicate_zero,List.nil_append,show m-n-(n+min n (m-n)-n)=m-(n+min n (m-n)) by omega]
   rw[e2,e3,Ag (by omega) (by omega),show(n:Int)+((min n (m-n):Nat):Int)=((n+min n (m-n):Nat):Int) by omega]
   exact Bfk v m hm j (n+min n (m-n)) q (by omega) (by omega) (by omega) (by omega)
  ·rw[if_neg (by rw[Ae];simp;omega)]
   obtain rfl:n=m:=by omega
   simp[Hv,Nc]
theorem Cab(v:Int)(m:Nat)(hm:m≤100000):Mx [v] (m:Int)=some (List.replicate m v):=by
 have y1:(UInt64.ofNat m).toNat=m:=An5 (by omega)
 have c1:(Af (Ac [v]):UInt64)=1:=by rfl
 have c2:(Af (m:Int):UInt64)=UInt64.ofNat m:=Te m
 have c3:(Af (UInt64.ofNat m):Int)=(m:Int):=by rw[Bdy (by omega),y1]
 rw[Mx,Oz,if_neg (by rw[Ae];simp),Oi,Oy,c1,c2,mul_one m hm,Aa]
 simp only
 rw[if_neg (by rw[Ao1,Ao1,y1];simp;show m≤9223372036854775807;omega),Oq,Ox,c3,Bcw (by omega) (by omega),Aa,Ba (by rw[As];simp),Aa,On,Int.toNat_natCast]
 by_cases h0:m=0
 ·subst h0
  have hF:FUEL=(FUEL-1)+1:=by have:=Al;omega
  rw[hF,Dw,Fz]
  simp[Ac,Bk4,Aku,Ae,Hv,Nc]
 ·have:=Bfk v m hm m 1 FUEL (by omega) (by omega) (by omega) (by have:=Al;omega)
  have e1:Aku (Ac (List.replicate m (0:Int))) [v].length=((1:Nat):Int):=by simp[Aku,Ac];omega
  have e2:Bk4 (List.replicate m (0:Int)) [v]=List.replicate 1 v++List.replicate (m-1) 0:=by
   obtain⟨k,rfl⟩:∃k,m=k+1:=⟨m-1,by omega⟩
   simp[Bk4]
  rw[e1,e2,this]
theorem Bzn(l m:List Int)(h:l.length+m.length≤1000000):Mr [l,m]=some (l++m):=by
 have hF:FUEL=(FUEL-3)+1+1+1:=by have:=Al;omega
 rw[Mr,Om,Ot]
 have g0:getI [l,m] (0:Int)=some l:=rfl
 have g1:getI [l,m] (1:Int)=some m:=rfl
 have l2:Ac [l,m]=2:=rfl
 have h3:Hy [l,m] []=some (l++m):=by
  rw[Hy,Ng,Ni,hF,Dm,Fo,l2,if_pos (by decide),g0,Aa,Ce (by simp;omega),Aa,List.nil_append,show Ad (0:Int) 1=1 by decide,
   Dm,Fo,l2,if_pos (by decide),g1,Aa,Ce (by omega),Aa,show Ad (1:Int) 1=2 by decide,Dm,Fo,l2,if_neg (by decide)]
  rfl
 rw[hF,Dz,Fy,l2,if_pos (by decide),g0,Aa,Ag (by unfold Ac;omega) (by unfold Ac;omega),if_neg (by rw[Ae,Ac];simp),show Ad (0:Int) 1=1 by decide,
  Dz,Fy,l2,if_pos (by decide),g1,Aa,Ag (by unfold Ac;omega) (by unfold Ac;omega),if_neg (by rw[Ae,Ac,Ac];simp;omega),show Ad (1:Int) 1=2 by decide,
  Dz,Fy,l2,if_neg (by decide),Nq,Nd,if_neg (by rw[Ae,Ac,Ac];simp;omega),Nj,Nh]
 have z:Aj (0:Int) 0=0:=by decide
 have n0:(0:Int)+Ac l+Ac m=((l.length+m.length:Nat):Int):=by simp[Ac]
 rw[z,n0,Az (by omega) (by omega),Int.sub_zero]
 by_cases hp:0<l.length+m.length
 ·rw[if_pos (by rw[Ak];simp;omega),show vwI (0:Int) 0 0=some ()from rfl,Aa,Bcw (by omega) (by omega),Aa,Ce (by simp;omega),Aa]
  rw[show vwI (Ac ([]++List.replicate ((l.length+m.length:Nat):Int).toNat (0:Int))) 0 0=some () by rw[vwI,Ba];simp[Ac];omega,Aa]
  simp only[Anw,Int.sub_self,Int.toNat_zero,List.take_zero]
  exact h3
 ·rw[if_neg (by rw[Ak];simp;omega)];exact h3
theorem Bqc{r n:Nat}(h1:1≤r)(h:r≤1048576)(n1:1≤n)(n2:n≤4000)(hk:(n-1)/longN r+1≤1000):Wd (r:Int) (n:Int)=some (framesL (longN r) n,0):=by
 have hp:=Lt r
 have hl:=Bhx h
 have hd:=Nat.div_mul_le_self (n-1) (longN r)
 rw[Wd,Ass h1 h n1 n2,if_neg (by omega),Aa]
 simp only
 rw[if_neg (by rw[Ah];simp),Bmv h1 h,Aa]
 simp only
 rw[framesL]
 generalize(n-1)/longN r=k at*
 have e1:Aj ((k+1:Nat):Int) 1=(k:Int):=by rw[Az (by omega) (by omega)];omega
 have e2:(k:Int)*(longN r:Int)=((k*longN r:Nat):Int):=by simp
 rw[e1,Cab _ _ (by omega),Aa,Fb (by rw[e2];omega) (by rw[e2];omega),e2,Az (by omega) (by omega),Alh,Bzn _ _ (by simp;omega),Aa,Aa,show(n:Int)-((k*longN r:Nat):Int)=((n-k*longN r:Nat):Int) by omega]
end Go.Pl
set_option linter.unusedVariables false
set_option linter.unusedSimpArgs false
namespace Go.Pl
open Go Go.Lv
def shapeB(f c w r n:Nat):Bool:=decide ((f=1∨f=2)∧(1≤c∧c≤6)∧(w=8∨w=16∨w=24)∧(1≤r∧r≤1048576)∧1≤n)
def fitB(c r n:Nat):Bool:=decide (n≤4000/c∧(n-1)/longN r+1≤1000)
theorem Awz(f c w r n:Nat):Ya (f:Int) (c:Int) (w:Int) (r:Int) (n:Int)=some (shapeB f c w r n):=by
 have e2:Ws (f:Int) (c:Int) (w:Int) (r:Int) (n:Int)=some (decide ((f=1∨f=2)∧(1≤c∧c≤6)∧(1≤r∧r≤1048576)∧1≤n)):=by
  rw[Ws,Aq8]
  congr 1
  rw[Bool.eq_iff_iff]
  simp only[As,Ak,Bno,Bool.and_eq_true,Bool.or_eq_true,beq_iff_eq,decide_eq_true_eq]
  omega
 have g:∀k:Nat,geq (w:Int) (k:Int)=decide (w=k):=fun k=>by rw[As,Bool.eq_iff_iff];simp;omega
 have g8:geq (w:Int) (8:Int)=decide (w=8):=g 8
 have g16:geq (w:Int) (16:Int)=decide (w=16):=g 16
 have g24:geq (w:Int) (24:Int)=decide (w=24):=g 24
 rw[Ya,Afl,e2,g8,g16,g24,shapeB]
 by_cases h8:w=8
 ·subst h8;simp
 ·by_cases h16:w=16
  ·subst h16;simp
  ·by_cases h24:w=24
   ·subst h24;simp
   ·simp[h8,h16,h24]
theorem Buc(f c w r n:Nat):Xv (f:Int) (c:Int) (w:Int) (r:Int) (n:Int)=some (shapeB f c w r n):=by
 rw[Xv,shapeB]
 simp only[As,Cu,Bno,Bool.and_eq_true,Bool.or_eq_true,beq_iff_eq,decide_eq_true_eq,Bool.false_and]
 split
 ·rename_i h
  congr 1
  rw[Bool.eq_iff_iff]
  simp only[Bool.and_eq_true,Bool.or_eq_true,beq_iff_eq,decide_eq_true_eq]
  omega
 ·rename_i h
  congr 1
  symm
  rw[decide_eq_false_iff_not]
  omega
theorem Ciy{c:Nat}(h:1≤c):Bt (4000:Int) (c:Int)=((4000/c:Nat):Int):=by
 have:4000/c≤4000:=Nat.div_le_self _ _
 rw[Afj,Int.tdiv_eq_ediv_of_nonneg (by omega),show(4000:Int)=((4000:Nat):Int)from rfl,←Int.natCast_ediv]
 generalize 4000/c=k at*
 exact Br (by omega) (by omega)
theorem Be2{f c w r n:Nat}(h:shapeB f c w r n=true):Ahy (f:Int) (c:Int) (w:Int) (r:Int) (n:Int)=some (fitB c r n):=by
 simp only[shapeB,decide_eq_true_eq]at h
 have hd:4000/c≤4000:=Nat.div_le_self _ _
 rw[Ahy,Ba (by rw[Ah];simp;omega),Aa,Ciy (by omega),fitB]
 generalize 4000/c=m at*
 by_cases h1:n≤m
 ·rw[if_neg (by rw[Ak];simp;omega),Ass (by omega) (by omega) (by omega) (by omega),Aa]
  generalize(n-1)/longN r+1=k
  by_cases h2:1000<k
  ·rw[if_pos h2]
   simp[As,Bno]
   omega
  ·rw[if_neg h2]
   simp[As,Bno,h1]
   omega
 ·rw[if_pos (by rw[Ak];simp;omega)]
  simp[h1]
theorem Cc5{f c w r n:Nat}(h:shapeB f c w r n=true):Abk (f:Int) (c:Int) (w:Int) (r:Int) (n:Int)=some (!fitB c r n):=by
 simp only[shapeB,decide_eq_true_eq]at h
 have hd:4000/c≤4000:=Nat.div_le_self _ _
 rw[Abk,Ba (by rw[Ah];simp;omega),Aa,Ciy (by omega),fitB]
 generalize 4000/c=m at*
 by_cases h1:n≤m
 ·rw[if_neg (by rw[Ak];simp;omega),Ak7 (by omega) (by omega) (by omega),Aa,Ac,Uw]
  generalize(n-1)/longN r+1=k
  congr 1
  rw[Ak,Bool.eq_iff_iff]
  simp only[decide_eq_true_eq,Bool.not_eq_true',decide_eq_false_iff_not]
  omega
 ·rw[if_pos (by rw[Ak];simp;omega)]
  simp[h1]
def Nb:List UInt8:=[84,84,65,49]
def f0(b:List UInt8):Nat:=leN (part b 4 2)
def f1(b:List UInt8):Nat:=leN (part b 6 2)
def f2(b:List UInt8):Nat:=leN (part b 8 2)
def f3(b:List UInt8):Nat:=leN (part b 10 4)
def f4(b:List UInt8):Nat:=leN (part b 14 4)
abbrev H6:=Int×Int×Int×Int×Int×Int
def readS(b:List UInt8):H6:=
 if b.take (min 4 b.length)≠Nb.take (min 4 b.length)then(0,0,0,0,0,12)else if b.length<22 then(0,0,0,0,0,24)else
 if(Bz (b.take 18)).toNat≠leN (part b 18 4)then(0,0,0,0,0,22)else
 if shapeB (f0 b) (f1 b) (f2 b) (f3 b) (f4 b)=false then(0,0,0,0,0,12)else
 if fitB (f1 b) (f3 b) (f4 b)=false then(0,0,0,0,0,4)else((f0 b:Int),(f1 b:Int),(f2 b:Int),(f3 b:Int),(f4 b:Int),0)
section
variable {b:List UInt8}
theorem rs1(h:b.take (min 4 b.length)≠Nb.take (min 4 b.length)):readS b=(0,0,0,0,0,12):=by rw[readS,if_pos h]
variable (h:b.take (min 4 b.length)=Nb.take (min 4 b.length))
include h
theorem rs2(h2:b.length<22):readS b=(0,0,0,0,0,24):=by rw[readS,if_neg (fun e=>e h),if_pos h2]
variable (h2:¬b.length<22)
include h2
theorem rs3(h3:(Bz (b.take 18)).toNat≠leN (part b 18 4)):readS b=(0,0,0,0,0,22):=by rw[readS,if_neg (fun e=>e h),if_neg h2,if_pos h3]
variable (h3:(Bz (b.take 18)).toNat=leN (part b 18 4))
include h3
theorem rs4(h4:shapeB (f0 b) (f1 b) (f2 b) (f3 b) (f4 b)=false):readS b=(0,0,0,0,0,12):=by rw[readS,if_neg (fun e=>e h),if_neg h2,if_neg (fun e=>e h3),if_pos h4]
variable (h4:shapeB (f0 b) (f1 b) (f2 b) (f3 b) (f4 b)=true)
include h4
theorem rs5(h5:fitB (f1 b) (f3 b) (f4 b)=false):readS b=(0,0,0,0,0,4):=by rw[readS,if_neg (fun e=>e h),if_neg h2,if_neg (fun e=>e h3),if_neg (by rw[h4];simp),if_pos h5]
theorem rs6(h5:fitB (f1 b) (f3 b) (f4 b)=true):readS b=((f0 b:Int),(f1 b:Int),(f2 b:Int),(f3 b:Int),(f4 b:Int),0):=by rw[readS,if_neg (fun e=>e h),if_neg h2,if_neg (fun e=>e h3),if_neg (by rw[h4];simp),if_neg (by rw[h5];simp)]
end
theorem Cfl(b:List UInt8)(h2:¬b.length<22):Ay (Af (Bz (b.take 18)):UInt64) (leU (part b 18 4))=decide ((Bz (b.take 18)).toNat≠leN (part b 18 4)):=by
 rw[Aj4,Ci,Bool.eq_iff_iff]
 simp only[bne_iff_ne,ne_eq,decide_eq_true_eq]
 rw[←UInt64.toNat_inj,An5 (by have:=(Bz (b.take 18)).toNat_lt;omega),Aob (by rw[De (by omega)];omega)]
theorem Awa(b:List UInt8)(a w:Nat)(i q:Nat)(l:List Int)(hi:i<5)(hl:l.length=5)(hw:getI ([2,2,2,4,4]:List Int) (i:Int)=some (w:Int))(h1:1≤w)(h4:w≤4)(ha:a+w≤b.length)(hb:b.length<4611686018427387904):
  Mn b (q+1) (a:Int) (i:Int) l=Mn b q ((a+w:Nat):Int) ((i+1:Nat):Int) (l.set i (leN (part b a w):Int)):=by
 rw[Mn,Abb,if_pos (by rw[Ae];simp;omega),hw,Aa,Bmc b a w h1 (by omega) ha hb,Aa]
 simp only
 rw[Bm (by omega),Aa,Qj _ (by omega),Aa,Agl (by rw[De ha];omega),Ag (by omega) (by omega),Ag (by omega) (by omega)]
 rfl
theorem Cd7(b:List UInt8)(h22:¬b.length<22)(hb:b.length<4611686018427387904):Abr b 4 0 (List.replicate 5 0)=Ad1 [(f0 b:Int),(f1 b:Int),(f2 b:Int),(f3 b:Int),(f4 b:Int)]:=by
 have hF:FUEL=(FUEL-6)+1+1+1+1+1+1:=by have:=Al;omega
 rw[Abr,hF,show(4:Int)=((4:Nat):Int)from rfl,show(0:Int)=((0:Nat):Int)from rfl]
 rw[Awa b 4 2 0 _ _ (by omega) (by simp) rfl (by omega) (by omega) (by omega) hb,Awa b 6 2 1 _ _ (by omega) (by simp) rfl (by omega) (by omega) (by omega) hb,Awa b 8 2 2 _ _ (by omega) (by simp) rfl (by omega) (by omega) (by omega) hb,
  Awa b 10 4 3 _ _ (by omega) (by simp) rfl (by omega) (by omega) (by omega) hb,Awa b 14 4 4 _ _ (by omega) (by simp) rfl (by omega) (by omega) (by omega) hb,Mn,Abb,if_neg (by rw[Ae];simp)]
 rfl
theorem Cmu(b:List UInt8):Ue [84,84,65,49] (b.take (min 4 b.length))=some (decide (b.take (min 4 b.length)=Nb.take (min 4 b.length))):=by
 have hl:(b.take (min 4 b.length)).length=min 4 b.length:=by rw[List.length_take];omega
 rw[Ue,Iq,if_pos (by rw[Cu,Ac,Ac,hl];simp;omega),Ac,hl,Gz (by omega) (by simp;omega),Aa,Aa,Int.toNat_natCast]
 congr 1
 rw[Bool.eq_iff_iff]
 rw[decide_eq_true_eq,beq_iff_eq]
 exact eq_comm
theorem Cl3(b:List UInt8):Dj (4:Int) (Ac b)=((min 4 b.length:Nat):Int):=by rw[Acd,Ac];omega
theorem Ql(b:List UInt8)(hb:b.length<4611686018427387904):Aap b=some (readS b):=by
 rw[Aap,Alz,Cl3,Gz (by omega) (by omega),Aa,Int.toNat_natCast,Cmu,Aa]
 by_cases h:b.take (min 4 b.length)=Nb.take (min 4 b.length)
 ·rw[if_neg (by simpa using h)]
  by_cases h2:b.length<22
  ·rw[if_pos (by rw[Ae,Ac];simp;omega),rs2 h h2]
  ·have a1:Arl b 18 4=some (leU (part b 18 4),0):=Bmc b 18 4 (by omega) (by omega) (by omega) hb
   rw[if_neg (by rw[Ae,Ac];simp;omega),a1,Aa]
   simp only
   rw[Gz (by omega) (by omega),Aa,show(18:Int).toNat=18 from rfl,Bew _ (by simp;omega),Aa]
   simp only
   rw[Cfl b h2]
   by_cases h3:(Bz (b.take 18)).toNat=leN (part b 18 4)
   ·rw[if_neg (by simpa using h3),Cd7 b h2 hb,Ad1,Axe]
    rw[show getI [(f0 b:Int),(f1 b:Int),(f2 b:Int),(f3 b:Int),(f4 b:Int)] 0=some (f0 b:Int)from rfl,show getI [(f0 b:Int),(f1 b:Int),(f2 b:Int),(f3 b:Int),(f4 b:Int)] 1=some (f1 b:Int)from rfl,show getI [(f0 b:Int),(f1 b:Int),(f2 b:Int),(f3 b:Int),(f4 b:Int)] 2=some (f2 b:Int)from rfl,
     show getI [(f0 b:Int),(f1 b:Int),(f2 b:Int),(f3 b:Int),(f4 b:Int)] 3=some (f3 b:Int)from rfl,show getI [(f0 b:Int),(f1 b:Int),(f2 b:Int),(f3 b:Int),(f4 b:Int)] 4=some (f4 b:Int)from rfl]
    simp only[Aa,Awz]
    cases h4:shapeB (f0 b) (f1 b) (f2 b) (f3 b) (f4 b)with
    |false=>rw[rs4 h h2 h3 h4];rfl
    |true=>
     rw[Be2 h4,if_neg (by simp),Aa]
     cases h5:fitB (f1 b) (f3 b) (f4 b)with
     |false=>rw[rs5 h h2 h3 h4 h5];rfl
     |true=>rw[rs6 h h2 h3 h4 h5];rfl
   ·rw[if_pos (by simpa using h3),rs3 h h2 h3]
 ·rw[if_pos (by simpa using h),rs1 h]
theorem Aqx(b:List UInt8)(hb:b.length<4611686018427387904):Ka b=some (readS b):=by
 rw[Ka,Ah7,Cl3,Gz (by omega) (by omega),Aa,Int.toNat_natCast,Gz (by omega) (by simp;omega),Aa,Int.toNat_natCast]
 by_cases h:b.take (min 4 b.length)=Nb.take (min 4 b.length)
 ·rw[if_neg (by rw[h];simp[Nb]),Ahk,Aha]
  by_cases h2:b.length<22
  ·rw[if_pos (by rw[Ae,Ac];simp;omega),rs2 h h2]
  ·have a1:Bo b 18 22=some (part b 18 4):=Nx 18 4 (by omega)
   have c1:Bo b 4 6=some (part b 4 2):=Nx 4 2 (by omega)
   have c2:Bo b 6 8=some (part b 6 2):=Nx 6 2 (by omega)
   have c3:Bo b 8 10=some (part b 8 2):=Nx 8 2 (by omega)
   have c4:Bo b 10 14=some (part b 10 4):=Nx 10 4 (by omega)
   have c5:Bo b 14 18=some (part b 14 4):=Nx 14 4 (by omega)
   have hs:Ay (leU (part b 18 4)) (Af (Bz (b.take 18)):UInt64)=decide ((Bz (b.take 18)).toNat≠leN (part b 18 4)):=by
    rw[←Cfl b h2,Aj4,Aj4,Bool.eq_iff_iff];simp only[bne_iff_ne,ne_eq];exact not_congr eq_comm
   have lp:∀a w,a+w≤b.length→Cs (part b a w)=some (leU (part b a w)):=fun a w h=>Bsx _ (by rw[De h];omega)
   rw[if_neg (by rw[Ae,Ac];simp;omega),a1,Aa,Gz (by omega) (by omega),Aa,show(18:Int).toNat=18 from rfl,lp _ _ (by omega),Aa,Cc8 _ (by simp;omega),Aa,hs]
   by_cases h3:(Bz (b.take 18)).toNat=leN (part b 18 4)
   ·rw[if_neg (by simpa using h3),Ahj,Ahf,c1,Aa,c2,Aa,c3,Aa,c4,Aa,c5,Aa,lp _ _ (by omega),Aa,lp _ _ (by omega),Aa,lp _ _ (by omega),Aa,lp _ _ (by omega),Aa,lp _ _ (by omega),Aa,
     Agn,Ahe,Agl (by rw[De (by omega)];omega),Agl (by rw[De (by omega)];omega),Agl (by rw[De (by omega)];omega),Agl (by rw[De (by omega)];omega),Agl (by rw[De (by omega)];omega)]
    rw[show leN (part b 4 2)=f0 b from rfl,show leN (part b 6 2)=f1 b from rfl,show leN (part b 8 2)=f2 b from rfl,show leN (part b 10 4)=f3 b from rfl,show leN (part b 14 4)=f4 b from rfl,Buc,Aa]
    cases h4:shapeB (f0 b) (f1 b) (f2 b) (f3 b) (f4 b)with
    |false=>rw[rs4 h h2 h3 h4];rfl
    |true=>
     rw[Cc5 h4,if_neg (by simp),Aa]
     cases h5:fitB (f1 b) (f3 b) (f4 b)with
     |false=>rw[rs5 h h2 h3 h4 h5];rfl
     |true=>rw[rs6 h h2 h3 h4 h5];rfl
   ·rw[if_pos (by simpa using h3),rs3 h h2 h3]
 ·rw[if_pos (by simpa [Nb]using h),rs1 h]
theorem Avt{b:List UInt8}(h:(readS b).2.2.2.2.2=0):readS b=((f0 b:Int),(f1 b:Int),(f2 b:Int),(f3 b:Int),(f4 b:Int),0)∧22≤b.length∧shapeB (f0 b) (f1 b) (f2 b) (f3 b) (f4 b)=true∧fitB (f1 b) (f3 b) (f4 b)=true:=by
 unfold readS at h⊢
 split at h; · simp at h
 rename_i c1;rw[if_neg c1]
 split at h; · simp at h
 rename_i c2;rw[if_neg c2]
 split at h; · simp at h
 rename_i c3;rw[if_neg c3]
 split at h; · simp at h
 rename_i c4;rw[if_neg c4]
 split at h; · simp at h
 rename_i c5;rw[if_neg c5]
 exact⟨rfl,by omega,by simpa using c4,by simpa using c5⟩
theorem Aal{f c w r n:Nat}(h:shapeB f c w r n=true)(h2:fitB c r n=true):Jh (f:Int) (c:Int) (w:Int) (r:Int) (n:Int)=some (framesL (longN r) n,0):=by
 have hc:Rn (f:Int) (c:Int) (w:Int) (r:Int) (n:Int)=some 0:=by
  rw[Rn,Awz,Aa,h,if_neg (by simp),Be2 h,Aa,h2];rfl
 have hd:4000/c≤4000:=Nat.div_le_self _ _
 simp only[shapeB,decide_eq_true_eq]at h
 simp only[fitB,decide_eq_true_eq]at h2
 rw[Jh,hc,Aa,if_neg (by rw[Ah];simp),Bqc (by omega) (by omega) (by omega) (by omega) h2.2]
 rfl
end Go.Pl
set_option linter.unusedVariables false
set_option linter.unusedSimpArgs false
namespace Go.Pl
open Go Go.Lv
def okL:List Int→Int→Bool
 |[],_=>true
 |x::l,left=>decide (5≤x∧x≤left)&&okL l (left-x)
theorem Buu:∀l:List Int,(∀x∈l,5≤x)→0≤l.sum
 |[],_=>by simp
 |x::l,h=>by
  have h1:=h x List.mem_cons_self
  have h2:=Buu l fun y hy=>h y (List.mem_cons_of_mem _ hy)
  rw[List.sum_cons];omega
theorem Atf:∀(l:List Int) (left:Int),0≤left→(okL l left=true↔(∀x∈l,5≤x)∧l.sum≤left)
 |[],left,h=>by simp[okL];exact h
 |x::l,left,h=>by
  rw[okL,Bool.and_eq_true,decide_eq_true_eq,List.sum_cons]
  by_cases hx:5≤x∧x≤left
  ·rw[Atf l (left-x) (by omega)]
   constructor
   ·rintro⟨_,h1,h2⟩
    exact⟨fun y hy=>(List.mem_cons.1 hy).elim (fun e=>e▸hx.1) (h1 y),by omega⟩
   ·rintro⟨h1,h2⟩
    exact⟨hx,fun y hy=>h1 y (List.mem_cons_of_mem _ hy),by omega⟩
  ·constructor
   ·rintro⟨h1,_⟩;exact absurd h1 hx
   ·rintro⟨h1,h2⟩
    have h3:=h1 x List.mem_cons_self
    have:0≤l.sum:=Buu l fun y hy=>h1 y (List.mem_cons_of_mem _ hy)
    omega
theorem Bi3(l:List Int)(hl:l.length≤1000):∀(j i q:Nat) (left:Int),i+j=l.length→j<q→0≤left→left≤100000→Pw l q left (i:Int)=some (if okL (l.drop i) left=true then 0 else 8)
 |0,i,q+1,left,hi,_,_,_=>by
  rw[Pw,Ab7,if_neg (by rw[Ae,Ac];simp;omega),show i=l.length by omega,List.drop_length];rfl
 |j+1,i,q+1,left,hi,hq,h0,h1=>by
  have hlt:i<l.length:=by omega
  rw[Pw,Ab7,if_pos (by rw[Ae,Ac];simp;omega),Bm hlt,Aa,drop_cons hlt]
  by_cases h:5≤l[i]∧l[i]≤left
  ·rw[if_neg (by simp[Ae,Ak];omega),Az (by omega) (by omega),Ag (by omega) (by omega)]
   have ih:=Bi3 l hl j (i+1) q (left-l[i]) (by omega) (by omega) (by omega) (by omega)
   rw[show((i:Int)+1)=((i+1:Nat):Int) by omega,ih]
   simp[okL,h]
  ·rw[if_pos (by simp[Ae,Ak];omega)]
   have:okL (l[i]::l.drop (i+1)) left=false:=by rw[okL,decide_eq_false h];rfl
   rw[this];rfl
def tabB(l:List Int):Bool:=decide (1≤l.length∧l.length≤1000)&&okL l 100000
theorem Bol(l:List Int)(hl:l.length≤1000):Nw l=some (if tabB l=true then 0 else 8):=by
 rw[Nw,Aci,tabB]
 by_cases h:1≤l.length
 ·rw[if_neg (by rw[As,Ak,Ac];simp;constructor;(intro e;subst e;simp at h);omega),Aks]
  have:=Bi3 l hl l.length 0 FUEL 100000 (by omega) (by have:=Al;omega) (by omega) (by omega)
  rw[List.drop_zero]at this
  rw[decide_eq_true (show 1≤l.length∧l.length≤1000 from⟨h,hl⟩),Bool.true_and]
  exact this
 ·have:l=[]:=by
   cases l with
   |nil=>rfl
   |cons _ _=>simp at h
  subst this;rfl
theorem Bm5(l:List Int)(hl:l.length≤1000):∀(j i q:Nat) (s:Int),i+j=l.length→j<q→0≤s→s≤100000*(i:Int)→Ic l q s (i:Int)=some (if(∀x∈l.drop i,5≤x∧x≤100000)∧s+(l.drop i).sum≤100000 then 0 else 8)
 |0,i,q+1,s,hi,_,_,_=>by
  rw[Ic,Ua,if_neg (by rw[Ae,Ac];simp;omega),show i=l.length by omega,List.drop_length,Ac4,Acm]
  by_cases h:s≤100000
  ·rw[if_neg (by rw[Ak];simp;omega),if_pos (by simp;omega)]
  ·rw[if_pos (by rw[Ak];simp;omega),if_neg (by simp;omega)]
 |j+1,i,q+1,s,hi,hq,h0,h1=>by
  have hlt:i<l.length:=by omega
  rw[Ic,Ua,if_pos (by rw[Ae,Ac];simp;omega),Bm hlt,Aa,drop_cons hlt]
  by_cases h5:l[i]<5
  ·rw[if_pos (by rw[Ae];simpa using h5),if_neg (fun h=>by have:=(h.1 l[i] List.mem_cons_self).1;omega)]
  ·rw[if_neg (by rw[Ae];simpa using h5),Aa]
   by_cases h6:100000<l[i]
   ·rw[if_pos (by rw[Ak];simpa using h6),if_neg (fun h=>by have:=(h.1 l[i] List.mem_cons_self).2;omega)]
   ·rw[if_neg (by rw[Ak];simpa using h6),Aec,Aeh,Bm hlt,Aa,Ag (by omega) (by omega),Ag (by omega) (by omega)]
    have ih:=Bm5 l hl j (i+1) q (s+l[i]) (by omega) (by omega) (by omega) (by omega)
    rw[show((i:Int)+1)=((i+1:Nat):Int) by omega,ih]
    have e:((∀x∈l.drop (i+1),5≤x∧x≤100000)∧s+l[i]+(l.drop (i+1)).sum≤100000)↔((∀x∈l[i]::l.drop (i+1),5≤x∧x≤100000)∧s+(l[i]::l.drop (i+1)).sum≤100000):=by
     rw[List.sum_cons,List.forall_mem_cons,Int.add_assoc]
     constructor
     ·rintro⟨a,b⟩;exact⟨⟨by omega,a⟩,b⟩
     ·rintro⟨⟨_,a⟩,b⟩;exact⟨a,b⟩
    simp only[e]
theorem Bhd:∀{l:List Int},(∀x∈l,5≤x)→∀x∈l,x≤l.sum
 |[],_,x,hx=>by simp at hx
 |y::l,h,x,hx=>by
  have h1:=h y List.mem_cons_self
  have h2:=Buu l fun z hz=>h z (List.mem_cons_of_mem _ hz)
  rw[List.sum_cons]
  rcases List.mem_cons.1 hx with rfl|hx
  ·omega
  ·have:=Bhd (l:=l) (fun z hz=>h z (List.mem_cons_of_mem _ hz)) x hx
   omega
theorem Br7(l:List Int)(hl:l.length≤1000):Iw l=some (if tabB l=true then 0 else 8):=by
 rw[Iw,Tv,tabB]
 by_cases h:1≤l.length
 ·have:=Bm5 l hl l.length 0 FUEL 0 (by omega) (by have:=Al;omega) (by omega) (by omega)
  rw[if_neg (by rw[Ae,Ak,Ac];simp;omega),Aew]
  refine Eq.trans this ?_
  rw[List.drop_zero,decide_eq_true (show 1≤l.length∧l.length≤1000 from⟨h,hl⟩),Bool.true_and]
  have e:((∀x∈l,5≤x∧x≤100000)∧0+l.sum≤100000)↔okL l 100000=true:=by
   rw[Atf l 100000 (by omega),Int.zero_add]
   constructor
   ·rintro⟨a,b⟩;exact⟨fun x hx=>(a x hx).1,b⟩
   ·rintro⟨a,b⟩;exact⟨fun x hx=>⟨a x hx,Int.le_trans (Bhd a x hx) b⟩,b⟩
  simp only[e]
 ·have:l=[]:=by
   cases l with
   |nil=>rfl
   |cons _ _=>simp at h
  subst this;rfl
theorem Av5(l:List Int):Nw l=some (if tabB l=true then 0 else 8):=by
 by_cases hl:l.length≤1000
 ·exact Bol l hl
 ·rw[Nw,Aci,if_pos (by rw[Ak,Ac];simp;omega),tabB,decide_eq_false (by omega)];rfl
theorem Bli(l:List Int):Iw l=some (if tabB l=true then 0 else 8):=by
 by_cases hl:l.length≤1000
 ·exact Br7 l hl
 ·rw[Iw,Tv,if_pos (by rw[Ak,Ac];simp;omega),tabB,decide_eq_false (by omega)];rfl
theorem Bld(l:List Int)(hl:l.length≤1000)(hx:∀x∈l,0≤x∧x<4294967296):Nw l=some (if tabB l=true then 0 else 8):=Av5 l
theorem By6(l:List Int)(hl:l.length≤1000)(hx:∀x∈l,0≤x∧x<4294967296):Iw l=some (if tabB l=true then 0 else 8):=Bli l
def Am8(b:List UInt8)(n:Nat):List Int:=(List.range n).map fun i=>(leN (part b (4*i) 4):Int)
theorem Se(b:List UInt8)(n:Nat):(Am8 b n).length=n:=by simp[Am8]
theorem Bnm(b:List UInt8)(n:Nat):Am8 b (n+1)=Am8 b n++[(leN (part b (4*n) 4):Int)]:=by simp[Am8,List.range_succ]
theorem Bwl(b:List UInt8)(n:Nat)(h:4*n≤b.length):∀x∈Am8 b n,0≤x∧x<4294967296:=by
 intro x hx
 simp only[Am8,List.mem_map,List.mem_range]at hx
 obtain⟨i,hi,rfl⟩:=hx
 have:=Bph (l:=part b (4*i) 4) (by rw[De (by omega)];omega)
 omega
def seekS(b:List UInt8)(n:Nat):List Int×Int:=
 if ¬(1≤n∧n≤1000)then([],2)else if b.length<4*n+4 then([],24)else if(Bz (b.take (4*n))).toNat≠leN (part b (4*n) 4)then([],22)else
 if tabB (Am8 b n)=true then(Am8 b n,0)else([],12)
theorem Bxd{b:List UInt8}{n:Nat}(h:1≤n∧n≤1000)(h2:¬b.length<4*n+4):Ay (Af (Bz (b.take (4*n))):UInt64) (leU (part b (4*n) 4))=decide ((Bz (b.take (4*n))).toNat≠leN (part b (4*n) 4)):=by
 rw[Aj4,Ci,Bool.eq_iff_iff]
 simp only[bne_iff_ne,ne_eq,decide_eq_true_eq]
 rw[←UInt64.toNat_inj,An5 (by have:=(Bz (b.take (4*n))).toNat_lt;omega),Aob (by rw[De (by omega)];omega)]
section
variable {b:List UInt8} {n:Nat}
theorem ss1(h:¬(1≤n∧n≤1000)):seekS b n=([],2):=by rw[seekS,if_pos h]
variable (h:1≤n∧n≤1000)
include h
theorem ss2(h2:b.length<4*n+4):seekS b n=([],24):=by rw[seekS,if_neg (fun e=>e h),if_pos h2]
variable (h2:¬b.length<4*n+4)
include h2
theorem ss3(h3:(Bz (b.take (4*n))).toNat≠leN (part b (4*n) 4)):seekS b n=([],22):=by rw[seekS,if_neg (fun e=>e h),if_neg h2,if_pos h3]
theorem ss4(h3:(Bz (b.take (4*n))).toNat=leN (part b (4*n) 4)):seekS b n=if tabB (Am8 b n)=true then(Am8 b n,0)else([],12):=by rw[seekS,if_neg (fun e=>e h),if_neg h2,if_neg (fun e=>e h3)]
end
theorem Bmy(b:List UInt8)(l8:List Int)(n:Nat)(hn:n≤1000)(h8:l8.length=n)(hb:4*n+4≤b.length)(hb2:b.length<4611686018427387904):∀(j i q:Nat),i+j=n→j<q→Tf b l8 q (i:Int) (Am8 b i++List.replicate j 0)=Agd (Am8 b n)
 |0,i,q+1,hi,_=>by
  obtain rfl:i=n:=by omega
  rw[Tf,Agb,if_neg (by rw[Ae,Ac];simp;omega)];simp
 |j+1,i,q+1,hi,hq=>by
  have hlen:(Am8 b i++List.replicate (j+1) 0).length=i+(j+1):=by simp[Se]
  have ha:=Bmc b (4*i) 4 (by omega) (by omega) (by omega) hb2
  rw[Tf,Agb,if_pos (by rw[Ae,Ac];simp;omega),Fb (by omega) (by omega),show(4:Int)*(i:Int)=((4*i:Nat):Int) by omega,show(4:Int)=((4:Nat):Int)from rfl,ha,Aa]
  simp only
  rw[Bm (by rw[hlen];omega),Aa,Qj _ (by rw[hlen];omega),Aa,Agl (by rw[De (by omega)];omega),Ag (by omega) (by omega),List.replicate_succ,As6 (Se _ _)]
  have ih:=Bmy b l8 n hn h8 hb hb2 j (i+1) q (by omega) (by omega)
  rw[Bnm]at ih
  rw[show((i:Int)+1)=((i+1:Nat):Int) by omega,←ih]
  simp
theorem Ayi(b:List UInt8)(n:Nat)(hb:b.length≤100100):Ze b (n:Int)=some (seekS b n):=by
 rw[Ze,Ap2]
 by_cases h:1≤n∧n≤1000
 ·rw[if_neg (by simp[Ae,Ak];omega),Fb (by omega) (by omega),Ag (by omega) (by omega)]
  by_cases h2:b.length<4*n+4
  ·rw[if_pos (by rw[Ae,Ac];simp;omega),ss2 h h2]
  ·have ha:Arl b (4*(n:Int)) 4=some (leU (part b (4*n) 4),0):=by
    rw[show(4:Int)*(n:Int)=((4*n:Nat):Int) by omega]
    exact Bmc b (4*n) 4 (by omega) (by omega) (by omega) (by omega)
   rw[if_neg (by rw[Ae,Ac];simp;omega),ha,Aa]
   simp only
   rw[Gz (by omega) (by omega),Aa,show(4*(n:Int)).toNat=4*n by omega,Bew _ (by simp;omega),Aa]
   simp only
   rw[Bxd h h2]
   by_cases h3:(Bz (b.take (4*n))).toNat=leN (part b (4*n) 4)
   ·have hlp:=Bmy b (List.replicate n 0) n (by omega) (by simp) (by omega) (by omega) n 0 FUEL (by omega) (by have:=Al;omega)
    rw[if_neg (by simpa using h3),Bcw (by omega) (by omega),Aa,Ba (by rw[As];simp),Aa,Apt,Int.toNat_natCast]
    refine Eq.trans (hlp) ?_
    rw[Agd,Azc,Bld _ (by rw[Se];omega) (Bwl b n (by omega)),Aa,ss4 h h2 h3]
    cases tabB (Am8 b n)<;>rfl
   ·rw[if_pos (by simpa using h3),ss3 h h2 h3]
 ·rw[if_pos (by simp[Ae,Ak];omega),ss1 h]
theorem Azp(b:List UInt8)(n:Nat)(hn:n≤1000)(hb:4*n+4≤b.length)(hb2:b.length<4611686018427387904):∀(j i q:Nat),i+j=n→j<q→Jk b (n:Int) q (i:Int) (Am8 b i)=Ur (Am8 b n)
 |0,i,q+1,hi,_=>by
  obtain rfl:i=n:=by omega
  rw[Jk,Vr,if_neg (by rw[Ae];simp)]
 |j+1,i,q+1,hi,hq=>by
  have hc:Bo b ((4:Int)*(i:Int)) ((4:Int)*(i:Int)+4)=some (part b (4*i) 4):=by
   rw[show(4:Int)*(i:Int)=((4*i:Nat):Int) by omega]
   exact Nx (4*i) 4 (by omega)
  rw[Jk,Vr,if_pos (by rw[Ae];simp;omega),Fb (by omega) (by omega),Ag (by omega) (by omega),hc,Aa,Bsx _ (by rw[De (by omega)];omega),Aa,Ce (by rw[Se];simp;omega),Aa,
   Agl (by rw[De (by omega)];omega),Ag (by omega) (by omega),←Bnm]
  exact Azp b n hn hb hb2 j (i+1) q (by omega) (by omega)
theorem Bdd(b:List UInt8)(n:Nat)(hb:b.length≤100100):Nv b (n:Int)=some (seekS b n):=by
 rw[Nv,Ah9]
 by_cases h:1≤n∧n≤1000
 ·rw[if_neg (by simp[Ae,Ak];omega),Fb (by omega) (by omega),Ag (by omega) (by omega)]
  by_cases h2:b.length<4*n+4
  ·rw[if_pos (by rw[Ae,Ac];simp;omega),ss2 h h2]
  ·have hc:Bo b ((4:Int)*(n:Int)) ((4:Int)*(n:Int)+4)=some (part b (4*n) 4):=by
    rw[show(4:Int)*(n:Int)=((4*n:Nat):Int) by omega]
    exact Nx (4*n) 4 (by omega)
   have hs:Ay (leU (part b (4*n) 4)) (Af (Bz (b.take (4*n))):UInt64)=decide ((Bz (b.take (4*n))).toNat≠leN (part b (4*n) 4)):=by
    rw[←Bxd h h2,Aj4,Aj4,Bool.eq_iff_iff];simp only[bne_iff_ne,ne_eq];exact not_congr eq_comm
   rw[if_neg (by rw[Ae,Ac];simp;omega),hc,Aa,Gz (by omega) (by omega),Aa,show(4*(n:Int)).toNat=4*n by omega,Bsx _ (by rw[De (by omega)];omega),Aa,Cc8 _ (by simp;omega),Aa,hs]
   by_cases h3:(Bz (b.take (4*n))).toNat=leN (part b (4*n) 4)
   ·have hlp:=Azp b n (by omega) (by omega) (by omega) n 0 FUEL (by omega) (by have:=Al;omega)
    rw[if_neg (by simpa using h3),Ahc,Ags,Ah3]
    refine Eq.trans hlp ?_
    rw[Ur,Ag5,By6 _ (by rw[Se];omega) (Bwl b n (by omega)),Aa,ss4 h h2 h3]
    cases tabB (Am8 b n)<;>rfl
   ·rw[if_pos (by simpa using h3),ss3 h h2 h3]
 ·rw[if_pos (by simp[Ae,Ak];omega),ss1 h]
theorem Awb{b:List UInt8}{n:Nat}(h:(seekS b n).2=0):seekS b n=(Am8 b n,0)∧1≤n∧n≤1000∧4*n+4≤b.length∧(∀x∈Am8 b n,5≤x)∧(Am8 b n).sum≤100000:=by
 unfold seekS at h⊢
 split at h; · simp at h
 rename_i c1;rw[if_neg c1]
 split at h; · simp at h
 rename_i c2;rw[if_neg c2]
 split at h; · simp at h
 rename_i c3;rw[if_neg c3]
 split at h
 ·rename_i c4
  rw[if_pos c4]
  have c4':=c4
  rw[tabB,Bool.and_eq_true,Atf _ _ (by omega)]at c4'
  exact⟨rfl,by omega,by omega,by omega,c4'.2.1,c4'.2.2⟩
 ·simp at h
end Go.Pl
set_option linter.unusedVariables false
set_option linter.unusedSimpArgs false
namespace Go.Pl
open Go Go.Lv
def hdr(b:List UInt8):List UInt8:=b.drop (frontS b).1.toNat
abbrev Op8:=Int×Int×Int×Int×Int×Int×(List Int)×Int
def Up(e:Int):Op8:=(0,0,0,0,0,0,[],e)
theorem Bpc(A K:Nat)(h:A≤200000)(hk:K≤1000):Ad (Ad (A:Int) (Au 4 (K:Int))) 4=((A+4*K+4:Nat):Int):=by
 rw[Fb (by omega) (by omega),Ag (a:=(A:Int)) (by omega) (by omega),Ag (by omega) (by omega)];omega
theorem Aq6{f c w r n:Nat}(h1:shapeB f c w r n=true)(h2:fitB c r n=true)(b:List UInt8)(hb:b.length≤100100)(A:Nat)(hA:A≤b.length):
  Ha b (f:Int) (c:Int) (w:Int) (r:Int) (n:Int) (A:Int)=
   some (if(seekS (b.drop A) (framesL (longN r) n).length).2≠0 then Up (seekS (b.drop A) (framesL (longN r) n).length).2 else((f:Int),(c:Int),(w:Int),(r:Int),(n:Int),((A+4*(framesL (longN r) n).length+4:Nat):Int),(seekS (b.drop A) (framesL (longN r) n).length).1,0)):=by
 rw[Ha,Axf,Aal h1 h2,Aa]
 simp only
 rw[if_neg (by rw[Ah];simp),Cb (by omega) (by omega),Aa,Ac,show(A:Int).toNat=A from rfl,Ayi _ _ (by simp;omega),Aa]
 by_cases h:(seekS (b.drop A) (framesL (longN r) n).length).2≠0
 ·rw[if_pos h,if_pos (by rw[Ah];simpa using h)];rfl
 ·have h0:(seekS (b.drop A) (framesL (longN r) n).length).2=0:=by simpa using h
  obtain⟨g1,g2,g3,g4,g5,g6⟩:=Awb h0
  have gl:(seekS (b.drop A) (framesL (longN r) n).length).1.length=(framesL (longN r) n).length:=by rw[g1];exact Se _ _
  rw[if_neg h,if_neg (by rw[Ah];simpa using h),Ac,gl,Bpc _ _ (by omega) (by omega)]
theorem Ced{f c w r n:Nat}(h1:shapeB f c w r n=true)(h2:fitB c r n=true)(b:List UInt8)(hb:b.length≤100100)(A:Nat)(hA:A≤b.length):
  Lp b (f:Int) (c:Int) (w:Int) (r:Int) (n:Int) (A:Int)=
   some (if(seekS (b.drop A) (framesL (longN r) n).length).2≠0 then Up (seekS (b.drop A) (framesL (longN r) n).length).2 else((f:Int),(c:Int),(w:Int),(r:Int),(n:Int),((A+4*(framesL (longN r) n).length+4:Nat):Int),(seekS (b.drop A) (framesL (longN r) n).length).1,0)):=by
 have hs:(1≤r∧r≤1048576)∧1≤n∧1≤c:=by
  simp only[shapeB,decide_eq_true_eq]at h1;omega
 have hf:n≤4000:=by
  simp only[fitB,decide_eq_true_eq]at h2
  have:=Nat.div_le_self 4000 c
  omega
 rw[Lp,Aco,Cb (by omega) (by omega),Aa,Ak7 hs.1.2 hs.2.1 hf,Aa,Ac,show(A:Int).toNat=A from rfl,Bdd _ _ (by simp;omega),Aa]
 simp only
 rw[Ac7,Adx]
 by_cases h:(seekS (b.drop A) (framesL (longN r) n).length).2≠0
 ·rw[if_pos h,if_pos (by rw[Ah];simpa using h)];rfl
 ·have h0:(seekS (b.drop A) (framesL (longN r) n).length).2=0:=by simpa using h
  obtain⟨g1,g2,g3,g4,g5,g6⟩:=Awb h0
  have gl:(seekS (b.drop A) (framesL (longN r) n).length).1.length=(framesL (longN r) n).length:=by rw[g1];exact Se _ _
  rw[if_neg h,if_neg (by rw[Ah];simpa using h),Ac,gl,Bpc _ _ (by omega) (by omega)]
structure Opn (b p:List UInt8) (f c w r n A:Nat) (l:List Int):Prop where
 prog:seekto_Open b p=some ((f:Int),(c:Int),(w:Int),(r:Int),(n:Int),(A:Int),l,0)
 ref:cadenzaref40_Opened b p=some ((f:Int),(c:Int),(w:Int),(r:Int),(n:Int),(A:Int),l,0)
 pass:p.length≤64
 file:b.length≤100000
 shape:shapeB f c w r n=true
 fit:fitB c r n=true
 len:l.length=(framesL (longN r) n).length
 some1:1≤l.length∧l.length≤1000
 five:∀x∈l,5≤x
 sum:l.sum≤100000
 at':A≤b.length
 tag:(frontS b).2=0
 head:readS (hdr b)=((f:Int),(c:Int),(w:Int),(r:Int),(n:Int),0)
 tab:seekS (b.drop ((frontS b).1.toNat+22+(if f=2 then 8 else 0))) l.length=(l,0)
 pos:A=(frontS b).1.toNat+22+(if f=2 then 8 else 0)+4*l.length+4
theorem Bc2(b p:List UInt8)(hb:b.length≤100100)(hp:p.length≤64):
  (∃e:Int,e≠0∧seekto_Open b p=some (Up e)∧cadenzaref40_Opened b p=some (Up e))∨(∃f c w r n A l,Opn b p f c w r n A l):=by
 by_cases h1:100000<b.length
 ·refine .inl ⟨4,by omega,?_,?_⟩
  ·rw[seekto_Open,Fx,if_neg (by rw[Ak,Ac];simp;omega),if_pos (by rw[Ak,Ac];simp;omega)];rfl
  ·rw[cadenzaref40_Opened,Rs,if_pos (by rw[Ak,Ac];simp;omega)];rfl
 have hP:seekto_Open b p=seekto_Open b p:=rfl
 have hR:cadenzaref40_Opened b p=cadenzaref40_Opened b p:=rfl
 conv at hP=>rhs;rw[seekto_Open,Fx,if_neg (by rw[Ak,Ac];simp;omega),if_neg (by rw[Ak,Ac];simp;omega),Ez b (by omega),Aa]
 conv at hR=>rhs;rw[cadenzaref40_Opened,Rs,if_neg (by rw[Ak,Ac];simp;omega),Wv b (by omega),Aa]
 by_cases h2:(frontS b).2=0
 ·obtain⟨p0,p1,p2⟩:=Akr h2
  have hc:=Cb (l:=b) p0 p1
  simp only[h2]at hP hR
  rw[if_neg (by rw[Ah];simp),hc,Aa,show b.drop (frontS b).1.toNat=hdr b from rfl,Ql _ (by simp[hdr];omega),Aa]at hP
  rw[if_neg (by rw[Ah];simp),hc,Aa,show b.drop (frontS b).1.toNat=hdr b from rfl,Aqx _ (by simp[hdr];omega),Aa]at hR
  by_cases h3:(readS (hdr b)).2.2.2.2.2=0
  ·obtain⟨g1,g2,g3,g4⟩:=Avt h3
   have hlen:(hdr b).length=b.length-(frontS b).1.toNat:=by simp[hdr]
   generalize hF:(frontS b).1.toNat=F at*
   have hF':(frontS b).1=(F:Int):=by omega
   rw[g1,hF']at hP hR
   simp only at hP hR
   generalize f0 (hdr b)=f at*
   generalize f1 (hdr b)=c at*
   generalize f2 (hdr b)=w at*
   generalize f3 (hdr b)=r at*
   generalize f4 (hdr b)=n at*
   have t22:Ad (F:Int) 22=((F+22:Nat):Int):=by rw[Ag (by omega) (by omega)];omega
   have t30:Ad ((F+22:Nat):Int) 8=((F+30:Nat):Int):=by rw[Ag (by omega) (by omega)];omega
   have hf12:f=1∨f=2:=by simp only[shapeB,decide_eq_true_eq]at g3;omega
   rw[if_neg (by rw[Ah];simp),t22,t30]at hP hR
   have hend:∀A:Nat,A≤b.length→A=F+22+(if f=2 then 8 else 0)→seekto_Open b p=Ha b (f:Int) (c:Int) (w:Int) (r:Int) (n:Int) (A:Int)→cadenzaref40_Opened b p=Lp b (f:Int) (c:Int) (w:Int) (r:Int) (n:Int) (A:Int)→
     (∃e:Int,e≠0∧seekto_Open b p=some (Up e)∧cadenzaref40_Opened b p=some (Up e))∨(∃f c w r n A l,Opn b p f c w r n A l):=by
    intro A hA hA2 e1 e2
    rw[Aq6 g3 g4 b hb A hA]at e1
    rw[Ced g3 g4 b hb A hA]at e2
    by_cases h:(seekS (b.drop A) (framesL (longN r) n).length).2≠0
    ·rw[if_pos h]at e1 e2
     exact .inl ⟨_,h,e1,e2⟩
    ·have h0:(seekS (b.drop A) (framesL (longN r) n).length).2=0:=by simpa using h
     obtain⟨k1,k2,k3,k4,k5,k6⟩:=Awb h0
     have gl:(seekS (b.drop A) (framesL (longN r) n).length).1.length=(framesL (longN r) n).length:=by rw[k1];exact Se _ _
     rw[if_neg h]at e1 e2
     rw[List.length_drop]at k4
     refine .inr ⟨f,c,w,r,n,_,_,⟨e1,e2,hp,by omega,g3,g4,gl,by omega,by rw[k1];exact k5,by rw[k1];exact k6,by omega,h2,g1,by rw[gl,hF,←hA2];exact Prod.ext rfl h0,by rw[gl,hF,←hA2]⟩⟩
   by_cases hpass:((p==([]:List UInt8)) !=(geq (f:Int) (1:Int)))=true
   ·rw[if_pos hpass]at hP hR
    exact .inl ⟨26,by omega,hP,hR⟩
   ·rw[if_neg hpass]at hP hR
    have hpf:(p=[]↔f=1):=by
     rw[As]at hpass
     have h5:(p==([]:List UInt8))=((f:Int)==1):=by simpa using hpass
     have h6:(p==([]:List UInt8))=true↔((f:Int)==1)=true:=by rw[h5]
     rw[beq_iff_eq,beq_iff_eq]at h6
     rw[h6];omega
    by_cases h5:f=2
    ·have hpne:p≠ []:=fun e=>by have:=hpf.1 e;omega
     have h64:(p !=([]:List UInt8))=true:=by simpa using hpne
     rw[if_pos h64]at hP
     rw[if_pos (by rw[As,h5];rfl),Az (by rw[Ac];omega) (by rw[Ac];omega)]at hR
     by_cases h6:b.length<F+30
     ·rw[if_pos (by rw[Ae,Ac];simp;omega)]at hP hR
      exact .inl ⟨24,by omega,hP,hR⟩
     ·have hseg:((b.take (F+30)).drop (F+22)).length=8:=by simp;omega
      rw[if_neg (by rw[Ae,Ac];simp;omega),Me (by omega) (by omega) (by omega),Aa]at hP hR
      rw[Rg,Aym p hp,Aa]at hP
      rw[Be4 p hp,Aa]at hR
      simp only at hP
      rw[if_neg (by rw[Ah,Ah,Ac,Ac,Bb,show((F+30:Nat):Int).toNat=F+30 from rfl,show((F+22:Nat):Int).toNat=F+22 from rfl,hseg];simp),Fv,Aa,Aa]at hP
      simp only at hP
      rw[if_neg (by rw[Ah];simp)]at hP
      generalize(b.take ((F+30:Nat):Int).toNat).drop ((F+22:Nat):Int).toNat=seg at*
      by_cases h7:seg=Ns (Sk p).toNat 8
      ·rw[if_neg (by simp[h7])]at hP
       rw[if_neg (by simp[h7])]at hR
       exact hend (F+30) (by omega) (by rw[if_pos h5]) hP hR
      ·rw[if_pos (by simpa using h7)]at hP
       rw[if_pos (by simpa using h7)]at hR
       exact .inl ⟨26,by omega,hP,hR⟩
    ·have hpe:p=[]:=hpf.2 (by omega)
     rw[if_neg (by rw[hpe];simp)]at hP
     rw[if_neg (by rw[As];simp;omega)]at hR
     exact hend (F+22) (by omega) (by rw[if_neg h5]) hP hR
  ·generalize readS (hdr b)=v at*
   obtain⟨v1,v2,v3,v4,v5,v6⟩:=v
   simp only at h3 hP hR
   rw[if_pos (by rw[Ah];simpa using h3)]at hP hR
   exact .inl ⟨v6,h3,hP,hR⟩
 ·generalize frontS b=v at*
  obtain⟨v,e⟩:=v
  simp only at h2 hP hR
  rw[if_pos (by rw[Ah];simpa using h2)]at hP hR
  exact .inl ⟨e,h2,hP,hR⟩
end Go.Pl
set_option linter.unusedVariables false
set_option linter.unusedSimpArgs false
namespace Go.Pl
open Go Go.Lv
theorem Bmt(l:List Int)(i:Nat):(l.take i).sum+(l.drop i).sum=l.sum:=by
 conv=>rhs;rw[←List.take_append_drop i l,List.sum_append]
theorem Ef{l:List Int}(h5:∀x∈l,5≤x)(i:Nat):0≤(l.take i).sum∧(l.take i).sum≤l.sum:=by
 have h1:=Buu (l.take i) fun x hx=>h5 x (List.mem_of_mem_take hx)
 have h2:=Buu (l.drop i) fun x hx=>h5 x (List.mem_of_mem_drop hx)
 have:=Bmt l i
 omega
theorem Jf{l:List Int}{i:Nat}(h:i<l.length):(l.take (i+1)).sum=(l.take i).sum+l[i]:=by
 rw[Ir h,List.sum_append];simp
def Bgn(l:List Int)(n:Nat):List Int:=(List.range n).map fun i=>(l.take i).sum
theorem Br6(l:List Int)(n:Nat):(Bgn l n).length=n:=by simp[Bgn]
theorem Ca7(l:List Int)(n:Nat):Bgn l (n+1)=Bgn l n++[(l.take n).sum]:=by simp[Bgn,List.range_succ]
theorem Bid(l:List Int){n i:Nat}(h:i<n):getI (Bgn l n) (i:Int)=some ((l.take i).sum):=by
 rw[Bm (by rw[Br6];exact h)];simp[Bgn]
section
variable {l:List Int} (hl:l.length≤1000) (h5:∀x∈l,5≤x) (hs:l.sum≤100000)
include hl h5 hs
theorem Bnf:∀(j i q:Nat),i+j=l.length→j<q→Lr l q (i:Int) ((l.take i).sum) (Bgn l (i+1))=some (Bgn l (l.length+1),0)
 |0,i,q+1,hi,_=>by
  rw[Lr,Wn,if_neg (by rw[Ae,Ac];simp;omega),show i=l.length by omega];rfl
 |j+1,i,q+1,hi,hq=>by
  have hlt:i<l.length:=by omega
  have ih:=Bnf j (i+1) q (by omega) (by omega)
  have b1:=Ef h5 i
  have b2:=Ef h5 (i+1)
  have e:=Jf hlt
  rw[Ca7 l (i+1),e]at ih
  rw[Lr,Wn,if_pos (by rw[Ae,Ac];simp;omega),Bm hlt,Aa,Ag (by omega) (by omega),Ce (by simp[Br6];omega),Aa,Afd,Aqt,Ag (by omega) (by omega),Ag (by omega) (by omega)]
  exact ih
theorem Civ(h1:1≤l.length):Agj l=some (Bgn l (l.length+1),0):=by
 have h:=Bnf hl h5 hs l.length 0 FUEL (by omega) (by have:=Al;omega)
 have hx:∀x∈l,0≤x∧x<4294967296:=fun x hx=>by
  have:=Bhd h5 x hx
  have:=h5 x hx
  omega
 have ht:tabB l=true:=by
  rw[tabB,Bool.and_eq_true]
  exact⟨by simpa using⟨h1,hl⟩,(Atf l 100000 (by omega)).2 ⟨h5,hs⟩⟩
 rw[Agj,Afh,Bld l hl hx,Aa,if_pos ht,if_neg (by rw[Ah];simp)]
 exact h
theorem Bjo(f c w r n A:Int)(hA:0≤A)(hA2:A≤200000)(k:Nat)(hk:k≤l.length):∀(j i q:Nat),i+j=k→j<q→Hz (k:Int) f c w r n A l q (A+(l.take i).sum) (i:Int)=some (A+(l.take k).sum)
 |0,i,q+1,hi,_=>by
  rw[Hz,Tu,if_neg (by rw[Ae];simp;omega),show i=k by omega];rfl
 |j+1,i,q+1,hi,hq=>by
  have hlt:i<l.length:=by omega
  have ih:=Bjo f c w r n A hA hA2 k hk j (i+1) q (by omega) (by omega)
  have b1:=Ef h5 i
  have b2:=Ef h5 (i+1)
  have e:=Jf hlt
  rw[e,←Int.add_assoc]at ih
  rw[Hz,Tu,if_pos (by rw[Ae];simp;omega),Bm hlt,Aa,Ag (by omega) (by omega),Ag (by omega) (by omega)]
  exact ih
theorem Bm8(f c w r n A:Int)(hA:0≤A)(hA2:A≤200000)(k:Nat)(hk:k≤l.length):Ala f c w r n A l (k:Int)=some (A+(l.take k).sum):=by
 have h:=Bjo hl h5 hs f c w r n A hA hA2 k hk k 0 FUEL (by omega) (by have:=Al;omega)
 rw[List.take_zero,List.sum_nil,Int.add_zero]at h
 exact h
end
theorem Ba6{g n:Nat}(hg:1≤g)(hn:1≤n){x:Int}(h:x∈framesL g n):∃m:Nat,x=m∧1≤m∧m≤n:=by
 have hmul:=Nat.div_mul_le_self (n-1) g
 rw[framesL,List.mem_append]at h
 rcases h with h|h
 ·rw[List.mem_replicate]at h
  have h1:1≤(n-1)/g:=Nat.pos_of_ne_zero h.1
  have:=Nat.mul_le_mul_right g h1
  exact⟨g,h.2,hg,by omega⟩
 ·rw[List.mem_singleton]at h
  exact⟨_,h,by omega,by omega⟩
theorem Abs{f c w r n:Nat}(h:shapeB f c w r n=true):(1≤c∧c≤6)∧BitsOk (w:Int)∧(1≤r∧r≤1048576)∧1≤n∧(f=1∨f=2):=by
 simp only[shapeB,decide_eq_true_eq]at h
 refine⟨h.2.1,?_,h.2.2.2.1,h.2.2.2.2,h.1⟩
 rcases h.2.2.1 with rfl|rfl|rfl
 ·exact .inl rfl
 ·exact .inr (.inl rfl)
 ·exact .inr (.inr rfl)
theorem By1{b p:List UInt8}{f c w r n A:Nat}{l:List Int}(o:Opn b p f c w r n A l)(k:Nat)(hk:k<l.length):
  ∃y:List UInt8×Int,Sr (k:Int) (framesL (longN r) n) (f:Int) (c:Int) (w:Int) (r:Int) (n:Int) (A:Int) b (tapsOf p) l (Bgn l (l.length+1))=some y∧
   cadenzaref40_Got b p (f:Int) (c:Int) (w:Int) (r:Int) (n:Int) (A:Int) l (k:Int)=some y:=by
 obtain⟨hc,hw,hr,hn,_⟩:=Abs o.shape
 have hfit:n≤4000/c:=by have:=o.fit;simp only[fitB,decide_eq_true_eq]at this;exact this.1
 have hn4:n≤4000:=by have:=Nat.div_le_self 4000 c;omega
 have hA:=o.at'
 have hfile:=o.file
 have hlen:=o.len
 have b1:=Ef o.five k
 have b2:=Ef o.five (k+1)
 have e:=Jf hk
 have h5:=o.five l[k] (List.getElem_mem _)
 have hsum:=o.sum
 have hs1:=o.some1
 have hkf:k<(framesL (longN r) n).length:=by omega
 obtain⟨m,hm,m1,m2⟩:=Ba6 (Lt r) hn (List.getElem_mem hkf)
 have e1:Ad (k:Int) 1=((k+1:Nat):Int):=by rw[Ag (by omega) (by omega)];omega
 rw[Sr,Ai2,if_neg (by rw[Ah];simp),if_neg (by simp[Ae,Cu,Ac];omega),e1,Bid l (by omega),Bid l (by omega),Aa,Aa,Aa,Aa,Aiw,Ajg,Ag (a:=(A:Int)) (b:=(l.take (k+1)).sum) (by omega) (by omega),Ag (by omega) (by omega)]
 rw[cadenzaref40_Got,Xm,Bm8 hs1.2 o.five o.sum _ _ _ _ _ (A:Int) (by omega) (by omega) k (by omega),Aa,Bm hk,Aa,Az (by rw[Ac];omega) (by rw[Ac];omega)]
 by_cases hto:(b.length:Int)<(A:Int)+(l.take (k+1)).sum
 ·rw[if_pos (by rw[Ak,Ac,decide_eq_true_eq];omega),if_pos (by rw[Ae,Ac,decide_eq_true_eq];omega)]
  exact⟨_,rfl,rfl⟩
 ·rw[if_neg (by rw[Ak,Ac,decide_eq_true_eq];omega),if_neg (by rw[Ae,Ac,decide_eq_true_eq];omega),Bh3 p o.pass,Ak7 hr.2 hn hn4]
  simp only[Aa]
  rw[Ag (a:=(A:Int)+(l.take k).sum) (b:=l[k]) (by omega) (by omega),Int.add_assoc,←e,Bm hkf,hm]
  simp only[Aa]
  rw[Me (by omega) (by omega) (by omega),Aa,Aa]
  obtain⟨x,er,g1,g2,g3,_⟩:=Aol (ch:=c) (n:=m) (t:=tapsOf p) ((b.take ((A:Int)+(l.take (k+1)).sum).toNat).drop ((A:Int)+(l.take k).sum).toNat) hw (Al6 p) hc.1 hc.2 m1 (by omega)
  rw[g1,g2,Aa,Aa]
  simp only
  rw[Aiv,Aje,Xz,Xn]
  by_cases her:er=0
  ·obtain⟨g4,g5,_⟩:=g3 her
   rw[if_neg (by rw[Ah];simpa using her),if_neg (by rw[Ah];simpa using her),Bkv hw g5 g4,Bma hw g5 g4,Aa,Aa]
   exact⟨_,rfl,rfl⟩
  ·rw[if_pos (by rw[Ah];simpa using her),if_pos (by rw[Ah];simpa using her)]
   exact⟨_,rfl,rfl⟩
theorem Brz{b p:List UInt8}{f c w r n A:Nat}{l:List Int}(o:Opn b p f c w r n A l)(k:Int):Abf b p k=Sr k (framesL (longN r) n) (f:Int) (c:Int) (w:Int) (r:Int) (n:Int) (A:Int) b (tapsOf p) l (Bgn l (l.length+1)):=by
 have hs1:=o.some1
 rw[Abf,Ai4,o.prog,Aa]
 simp only
 rw[if_neg (by rw[Ah];simp),Aal o.shape o.fit,Aa]
 simp only
 rw[if_neg (by rw[Ah];simp),Civ hs1.2 o.five o.sum hs1.1,Aa]
 simp only
 rw[if_neg (by rw[Ah];simp),Bdu p o.pass,Aa]
 simp only
 rw[if_neg (by rw[Ah];simp),Ac,←o.len,Bid l (by omega),Aa,Aa]
end Go.Pl
