/- A part of the proof of a statement of this seat (see the text that ends in Proof): LwBase, LwBitB, LwLe, LwBits, LwRef02, LwCut, LwUn, LwRice, LwDual, LwVal, LwI32, LwFil, LwUnm, LwSam, LwCrc, LwFrm, LwC64, LwWby, LwId, LwApe, LwStrip, LwLen, LwHead, LwSeek, LwOpen, LwFrame, LwBack, LwGot, LwGoes, LwWs, LwPol, LwA40. No conditions of its own. -/
import Derived.Test.YtkkcakakemjdeaaGreatDoorSfBA
import Derived.Test.YtkkcakakemjdeaaGreatDoorSfPA
import Derived.KernelRfl
set_option linter.unusedVariables false
set_option linter.unusedSimpArgs false
namespace Go.Lv
theorem Ag{a b:Int}(h: -9223372036854775808≤a+b)(h':a+b≤9223372036854775807):Ae a b=a+b:=by rw[Byz,Bm h h']
theorem Bi{a b:Int}(h: -9223372036854775808≤a-b)(h':a-b≤9223372036854775807):Ah a b=a-b:=by rw[Bxq,Bm h h']
theorem Hp{a b:Int}(h: -9223372036854775808≤a*b)(h':a*b≤9223372036854775807):Bg a b=a*b:=by rw[Br6,Bm h h']
theorem Aec(c:UInt8):(Ad c:Int)=(c.toNat:Int):=by rw[Btl,Bm]<;>have:=c.toNat_lt<;>omega
theorem Bj3(c:UInt32):(Ad c:Int)=(c.toNat:Int):=by rw[Bp0,Bm]<;>have:=c.toNat_lt<;>omega
theorem Ash(c:UInt8):(Ad c:UInt64)=UInt64.ofNat c.toNat:=by simp only[Ad,Tt,Ey]
theorem Fs(c:UInt32):(Ad c:UInt64)=UInt64.ofNat c.toNat:=by simp only[Ad,Py,Ey]
theorem Akc(c:UInt64):(Ad c:UInt8)=UInt8.ofNat c.toNat:=by simp only[Ad,Fv,Iw]
theorem Aso(c:UInt32):(Ad c:UInt8)=UInt8.ofNat c.toNat:=by simp only[Ad,Py,Iw]
theorem Ui(n:Nat):(Ad (n:Int):UInt64)=UInt64.ofNat n:=by simp only[Ad];exact Ey n
theorem Bdp(n:Nat):(Ad (n:Int):UInt32)=UInt32.ofNat n:=by simp only[Ad];exact Da n
theorem Bsf(n:Nat):(Ad (n:Int):UInt8)=UInt8.ofNat n:=by simp only[Ad];exact Iw n
theorem Avc{c:UInt64}(h:c.toNat<9223372036854775808):(Ad c:Int)=(c.toNat:Int):=by rw[Bqa,Bm]<;>omega
theorem Bmg:LIM=17179869184:=by decide
theorem Am:36893488147419103231<Ap:=by decide
theorem Ch{α:Type}{l:List α}{n:Nat}(h:n<l.length):getI l (n:Int)=some l[n]:=by simp[getI,h]
theorem Qt{α:Type}{l:List α}{n:Nat}(x:α)(h:n<l.length):Hl l (n:Int) x=some (l.set n x):=by simp[Hl,h]
theorem Wy{α:Type}{l:List α}{a b:Int}(h:0≤a)(h1:a≤b)(h2:b≤l.length):Bv l a b=some ((l.take b.toNat).drop a.toNat):=by rw[Bv,if_pos ⟨h,h1,h2⟩]
theorem Px{α:Type}{l:List α}{a:Int}(h:0≤a)(h1:a≤l.length):Bv l a (Ac l)=some (l.drop a.toNat):=by
 unfold Ac;rw[Wy h h1 (Int.le_refl _),Int.toNat_natCast,List.take_length]
theorem Jd{α:Type}{l:List α}{b:Int}(h:0≤b)(h1:b≤l.length):Bv l 0 b=some (l.take b.toNat):=by rw[Wy (Int.le_refl _) h h1];rfl
theorem Fc{α:Type}{l m:List α}(h:l.length+m.length≤17179869184):Et l m=some (l++m):=by rw[Et,Bmg,if_pos h]
theorem Bao{α:Type}{n:Int}{z:α}(h:0≤n)(h':n≤17179869184):mkI n z=some (List.replicate n.toNat z):=by rw[mkI,Bmg,if_pos ⟨h,h'⟩]
theorem Cb{b:Bool}(h:b=true):Gf b=some ():=by rw[h];rfl
theorem Aa{α β:Type}(a:α)(f:α→Option β):Option.bind (some a) f=f a:=rfl
theorem drop_cons{α:Type}{l:List α}{n:Nat}(h:n<l.length):l.drop n=l[n]::l.drop (n+1):=List.drop_eq_getElem_cons h
theorem Aix{α:Type}{l:List α}{n:Nat}(h:n<l.length):l.take (n+1)=l.take n++[l[n]]:=by rw[List.take_add_one,List.getElem?_eq_getElem h];rfl
def Dg:List UInt8→Nat
 |[]=>0
 |x::r=>x.toNat+256*Dg r
theorem Bf1:∀l:List UInt8,Dg l<256^l.length
 |[]=>by simp[Dg]
 |x::r=>by
  have h:=Bf1 r
  have:=x.toNat_lt
  simp only[Dg,List.length_cons,Nat.pow_succ]
  omega
theorem Bb2:∀l m:List UInt8,Dg (l++m)=Dg l+256^l.length*Dg m
 |[],m=>by simp[Dg]
 |x::r,m=>by
  simp only[Dg,List.cons_append,Bb2 r m,List.length_cons,Nat.pow_succ,Nat.mul_add]
  rw[Nat.mul_comm (256^r.length) 256,Nat.mul_assoc];omega
def leU(l:List UInt8):UInt64:=UInt64.ofNat (Dg l)
theorem Bwh{l:List UInt8}(h:l.length≤8):Dg l<18446744073709551616:=by
 have h1:=Bf1 l
 have h2:256^l.length≤256^8:=Nat.pow_le_pow_right (by omega) h
 exact Nat.lt_of_lt_of_le h1 (by simpa using h2)
theorem Bnq{l:List UInt8}(h:l.length≤4):Dg l<4294967296:=by
 have h1:=Bf1 l
 have h2:256^l.length≤256^4:=Nat.pow_le_pow_right (by omega) h
 exact Nat.lt_of_lt_of_le h1 (by simpa using h2)
theorem Ag1{l:List UInt8}(h:l.length≤8):(leU l).toNat=Dg l:=by
 rw[leU,UInt64.toNat_ofNat',Nat.mod_eq_of_lt (Bwh h)]
theorem Aaq{l:List UInt8}(h:l.length≤4):(Ad (leU l):Int)=(Dg l:Int):=by
 have:=Bnq h
 rw[Avc]<;>rw[Ag1 (by omega)];omega
def leB(n:Nat):Nat→List UInt8
 |0=>[]
 |w+1=>UInt8.ofNat n::leB (n/256) w
theorem Ko:∀(w n:Nat),(leB n w).length=w
 |0,_=>rfl
 |w+1,n=>by simp[leB,Ko w]
theorem Bh0:∀(w n:Nat),leB n (w+1)=leB n w++[UInt8.ofNat (n/256^w)]
 |0,n=>by simp[leB]
 |w+1,n=>by
  rw[leB,Bh0 w (n/256),leB]
  simp[Nat.div_div_eq_div_mul,Nat.pow_succ,Nat.mul_comm]
end Go.Lv
set_option linter.unusedVariables false
set_option linter.unusedSimpArgs false
namespace Go.Lv
def Hg(p:List UInt8)(i:Nat):Nat:=(p.getD (i/8) 0).toNat/2^(i %8) %2
theorem Rp(p:List UInt8)(i:Nat):Hg p i<2:=Nat.mod_lt _ (by omega)
def Bl(p:List UInt8):Nat→Nat→Nat
 |_,0=>0
 |a,n+1=>Hg p a+2*Bl p (a+1) n
theorem Lm(p:List UInt8):∀(n a:Nat),Bl p a n<2^n
 |0,_=>by simp[Bl]
 |n+1,a=>by
  have:=Lm p n (a+1)
  have:=Rp p a
  rw[Bl,Nat.pow_succ];omega
theorem Afd(p:List UInt8):∀(m n a:Nat),Bl p a (m+n)=Bl p a m+2^m*Bl p (a+m) n
 |0,n,a=>by simp[Bl]
 |m+1,n,a=>by
  rw[show m+1+n=(m+n)+1 by omega,Bl,Bl,Afd p m n (a+1),show a+1+m=a+(m+1) by omega,Nat.pow_succ,Nat.mul_add,Nat.mul_comm (2^m) 2,Nat.mul_assoc];omega
theorem Bif(p:List UInt8)(a:Nat):Bl p a 1=Hg p a:=by simp[Bl]
theorem Bd3(p:List UInt8)(a n:Nat):Bl p a (n+1)=Bl p a n+2^n*Hg p (a+n):=by rw[Afd p n 1 a,Bif]
theorem Auz(p:List UInt8)(a:Nat):∀t:Nat,a %8+t≤8→Bl p a t=(p.getD (a/8) 0).toNat/2^(a %8) %2^t
 |0,_=>by simp[Bl,Nat.mod_one]
 |t+1,h=>by
  have h1:(a+t)/8=a/8:=by omega
  have h2:(a+t) %8=a %8+t:=by omega
  rw[Bd3,Auz p a t (by omega),Hg,h1,h2,Nat.mod_pow_succ,Nat.pow_add,Nat.div_div_eq_div_mul]
theorem Bdx{p:List UInt8}:∀(n a:Nat),(∀k,k<n→Hg p (a+k)=0)→Bl p a n=0
 |0,_,_=>rfl
 |n+1,a,h=>by
  have h0:=h 0 (by omega)
  rw[Bl,Bdx n (a+1) fun k hk=>by have:=h (k+1) (by omega);rwa [show a+1+k=a+(k+1) by omega]]
  rw[Nat.add_zero]at h0;omega
def okB(p:List UInt8)(n:Nat):Prop:=n≤330000∧p.length=(n+7)/8∧∀k,n≤k→k<8*p.length→Hg p k=0
def Zk(p:List UInt8)(a n:Nat):List UInt8:=(List.range ((n+7)/8)).map fun j=>UInt8.ofNat (Bl p (a+8*j) (min 8 (n-8*j)))
theorem Jt(p:List UInt8)(a n:Nat):(Zk p a n).length=(n+7)/8:=by simp[Zk]
theorem Bhq(p:List UInt8):∀(n a k:Nat),k<n→Bl p a n/2^k %2=Hg p (a+k)
 |n+1,a,0,_=>by have:=Rp p a;rw[Bl];simp;omega
 |n+1,a,k+1,h=>by
  have hb:=Rp p a
  have e:(Hg p a+2*Bl p (a+1) n)/2=Bl p (a+1) n:=by omega
  rw[Bl,Nat.pow_succ,Nat.mul_comm (2^k) 2,←Nat.div_div_eq_div_mul,e,Bhq p n (a+1) k (by omega),show a+1+k=a+(k+1) by omega]
theorem Bn5(p:List UInt8)(n a k:Nat)(h:n≤k):Bl p a n/2^k %2=0:=by
 have:=Lm p n a
 rw[Nat.div_eq_of_lt (Nat.lt_of_lt_of_le this (Nat.pow_le_pow_right (by omega) h))]
theorem Bsz(p:List UInt8)(a n k:Nat):Hg (Zk p a n) k=if k<n then Hg p (a+k)else 0:=by
 rw[Hg]
 by_cases hj:k/8<(n+7)/8
 ·have e:(Zk p a n).getD (k/8) 0=UInt8.ofNat (Bl p (a+8*(k/8)) (min 8 (n-8*(k/8)))):=by
   rw[List.getD_eq_getElem?_getD,List.getElem?_eq_getElem (by rw[Jt];exact hj)];simp[Zk]
  have hlt:Bl p (a+8*(k/8)) (min 8 (n-8*(k/8)))<256:=by
   have:=Lm p (min 8 (n-8*(k/8))) (a+8*(k/8))
   have h2:2^(min 8 (n-8*(k/8)))≤2^8:=Nat.pow_le_pow_right (by omega) (by omega)
   omega
  have hu:(UInt8.ofNat (Bl p (a+8*(k/8)) (min 8 (n-8*(k/8))))).toNat=Bl p (a+8*(k/8)) (min 8 (n-8*(k/8))):=by
   rw[UInt8.toNat_ofNat'];exact Nat.mod_eq_of_lt hlt
  rw[e,hu]
  by_cases hk:k<n
  ·rw[if_pos hk,Bhq p _ _ _ (by omega),show a+8*(k/8)+k %8=a+k by omega]
  ·rw[if_neg hk,Bn5 p _ _ _ (by omega)]
 ·have e:(Zk p a n).getD (k/8) 0=0:=by
   rw[List.getD_eq_getElem?_getD,List.getElem?_eq_none (by rw[Jt];omega)];rfl
  rw[e,if_neg (by omega)];simp
theorem Bma(p:List UInt8)(a n:Nat)(h:n≤330000):okB (Zk p a n) n:=⟨h,Jt p a n,fun k hk _=>by rw[Bsz,if_neg (by omega)]⟩
end Go.Lv
set_option linter.unusedVariables false
set_option linter.unusedSimpArgs false
namespace Go.Pl
open Go Go.Lv
theorem Bsr(b:List UInt8)(hb:b.length<4611686018427387904):∀(j q:Nat),j≤b.length→j<q→Ij b q (leU (b.drop j)) ((j:Int)-1)=some (leU b)
 |0,q+1,_,_=>by
  rw[Ij,Tw,if_neg (by rw[Cs];simp)]
  simp[Aej,Ae6]
 |j+1,q+1,hj,hq=>by
  rw[Ij,Tw,if_pos (by rw[Cs];simp),show((j+1:Nat):Int)-1=(j:Int) by omega,Ch (by omega),Aa,Bi (by omega) (by omega)]
  have h:Ae (Bg (256:UInt64) (leU (b.drop (j+1)))) (Ad b[j]:UInt64)=leU (b.drop j):=by
   rw[Abi,Abp,Ash,drop_cons (n:=j) (by omega),leU,leU,Dg,UInt64.ofNat_add,UInt64.ofNat_mul]
   exact UInt64.add_comm _ _
  rw[h]
  exact Bsr b hb j q (by omega) (by omega)
theorem Bh4(b:List UInt8)(hb:b.length<4611686018427387904):Ca b=some (leU b):=by
 have h:=Bsr b hb b.length Ap (Nat.le_refl _) (by have:=Am;omega)
 rw[Ca,Afo,Aew]
 have e:Ah (Ac b) 1=(b.length:Int)-1:=Bi (by unfold Ac;omega) (by unfold Ac;omega)
 rw[e,←h,List.drop_length];rfl
theorem Br3{n c:UInt64}{i:Nat}(hn:n.toNat<2^i)(hc:c.toNat*2^i<18446744073709551616):gor n (Cj c i)=UInt64.ofNat (n.toNat+c.toNat*2^i):=by
 rw[Bwz];apply UInt64.toNat_inj.1
 rw[UInt64.toNat_or,Ajr,Nat.mod_eq_of_lt hc,Nat.mul_comm,Nat.or_comm,←Nat.two_pow_add_eq_or_of_lt hn,UInt64.toNat_ofNat',Nat.mod_eq_of_lt,Nat.add_comm,Nat.mul_comm]
 have h:=Nat.two_pow_add_eq_or_of_lt hn c.toNat
 have h2:2^i*c.toNat+n.toNat<2^64:=by
  rw[h]
  exact Nat.or_lt_two_pow (by rw[Nat.mul_comm];simpa using hc) n.toNat_lt
 rw[Nat.add_comm];first|exact h2|(rw[Nat.mul_comm];exact h2)
theorem Bec(b:List UInt8)(hb:b.length≤8):∀(j i q:Nat),i+j=b.length→j<q→Uo b q (leU (b.take i)) (i:Int)=some (leU b,0)
 |0,i,q+1,hi,_=>by
  rw[Uo,Ag9,if_neg (by rw[Af,Ac];simp;omega),show i=b.length by omega,List.take_length];rfl
 |j+1,i,q+1,hi,hq=>by
  have hlt:i<b.length:=by omega
  rw[Uo,Ag9,if_pos (by rw[Af,Ac];simp;omega),Ch hlt,Aa,Hp (by omega) (by omega),Cb (by rw[Cs];simp;omega),Aa,Ag (by omega) (by omega)]
  have h:gor (leU (b.take i)) (Cj (Ad b[i]:UInt64) (GI.toZ ((8:Int)*(i:Int))).toNat)=leU (b.take (i+1)):=by
   have e:(GI.toZ ((8:Int)*(i:Int))).toNat=8*i:=by show((8:Int)*(i:Int)).toNat=_;omega
   have e2:(2:Nat)^(8*i)=256^i:=by rw[Nat.pow_mul]
   have h1:=Bf1 (b.take i)
   rw[List.length_take,Nat.min_eq_left (by omega)]at h1
   have h3:=b[i].toNat_lt
   have hle:(256:Nat)^(i+1)≤256^8:=Nat.pow_le_pow_right (by omega) (by omega)
   rw[Nat.pow_succ]at hle
   have h4:(Ad b[i]:UInt64).toNat=b[i].toNat:=by rw[Ash,UInt64.toNat_ofNat'];omega
   have h5:b[i].toNat*256^i<18446744073709551616:=by
    have:b[i].toNat*256^i<256*256^i:=Nat.mul_lt_mul_of_pos_right (by simpa using h3) (Nat.pow_pos (by omega))
    simp at hle;omega
   rw[e,Br3 (by rw[Ag1 (by simp;omega),e2];exact h1) (by rw[h4,e2];exact h5),Ag1 (by simp;omega),h4,e2,Aix hlt]
   rw[leU,Bb2]
   simp only[Dg,List.length_take,Nat.min_eq_left (Nat.le_of_lt hlt),Nat.mul_zero,Nat.add_zero]
   rw[Nat.mul_comm]
  rw[h]
  exact Bec b hb j (i+1) q (by omega) (by omega)
theorem Biy(b:List UInt8)(h1:1≤b.length)(h2:b.length≤8):Apd b=some (leU b,0):=by
 have h:=Bec b h2 b.length 0 Ap (by omega) (by have:=Am;omega)
 rw[Apd,Aob,if_neg (by simp[Af,Ar,Ac];omega),Aoq]
 exact h
def part(b:List UInt8)(at' w:Nat):List UInt8:=(b.take (at'+w)).drop at'
theorem Ce{b:List UInt8}{a w:Nat}(h:a+w≤b.length):(part b a w).length=w:=by simp[part];omega
theorem Bd9(b:List UInt8)(a w:Nat)(h1:1≤w)(h2:w≤8)(h3:a+w≤b.length)(hb:b.length<4611686018427387904):Ajn b (a:Int) (w:Int)=some (leU (part b a w),0):=by
 rw[Ajn,if_neg (by simp[Af,Ar];omega),if_neg (by rw[Ar,Bi (by unfold Ac;omega) (by unfold Ac;omega),Ac];simp;omega),Ag (by omega) (by omega),Wy (by omega) (by omega) (by omega),Aa]
 rw[show((a:Int)+(w:Int)).toNat=a+w by omega,show(a:Int).toNat=a by omega]
 rw[Biy _ (by rw[show((b.take (a+w)).drop a).length=_ from Ce h3];exact h1) (by rw[show((b.take (a+w)).drop a).length=_ from Ce h3];exact h2),Aa];rfl
theorem Awo(w:Nat)(hw:w≤1000):∀(j i q:Nat) (n:UInt64) (acc:List UInt8),i+j=w→j<q→acc.length+j≤1000000→Ex (w:Int) q n (i:Int) acc=some (acc++leB n.toNat j)
 |0,i,q+1,n,acc,hi,_,_=>by
  rw[Ex,Li,if_neg (by rw[Af];simp;omega)]
  simp[Ud,Uz,leB]
 |j+1,i,q+1,n,acc,hi,hq,ha=>by
  rw[Ex,Li,if_pos (by rw[Af];simp;omega)]
  have e:(Ad (Vi n (256:UInt64)):UInt8)=UInt8.ofNat n.toNat:=by
   rw[Akc,Bhw];apply UInt8.toNat_inj.1
   rw[UInt8.toNat_ofNat',UInt8.toNat_ofNat',UInt64.toNat_mod]
   show n.toNat %256 %256=_
   omega
  have e2:(Bt n (256:UInt64)).toNat=n.toNat/256:=by rw[At4,UInt64.toNat_div];rfl
  rw[Fc (by simp;omega),Aa,Ag (by omega) (by omega),e]
  have h:=Awo w hw j (i+1) q (Bt n 256) (acc++[UInt8.ofNat n.toNat]) (by omega) (by omega) (by simp;omega)
  rw[e2]at h
  rw[show((i:Int)+1)=((i+1:Nat):Int) by omega,h,leB];simp
theorem Azd(n:UInt64)(w:Nat)(hw:w≤1000):Ci n (w:Int)=some (leB n.toNat w):=by
 rw[Ci,Vf,Uc]
 have h:=Awo w hw w 0 Ap n [] (by omega) (by have:=Am;omega) (by simp;omega)
 simpa using h
theorem Ap5{α:Type}{l m:List α}{x y:α}{i:Nat}(h:l.length=i):(l++x::m).set i y=l++y::m:=by subst h;simp
theorem Bcs(n:UInt64)(l4:List UInt8)(w:Nat)(hl:l4.length=w)(hw:w≤8):∀(j i q:Nat),i+j=w→j<q→Us n l4 q (i:Int) (leB n.toNat i++List.replicate j 0)=some (leB n.toNat w,0)
 |0,i,q+1,hi,_=>by
  rw[Us,Agu,if_neg (by rw[Af,Ac];simp;omega)]
  obtain rfl:i=w:=by omega
  simp[Ans,Awr]
 |j+1,i,q+1,hi,hq=>by
  have hlen:(leB n.toNat i++List.replicate (j+1) 0).length=i+(j+1):=by simp[Ko]
  rw[Us,Agu,if_pos (by rw[Af,Ac];simp;omega),Hp (by omega) (by omega),Cb (by rw[Cs];simp;omega),Aa,Ch (by rw[hlen];omega),Aa,Qt _ (by rw[hlen];omega),Aa,Ag (by omega) (by omega)]
  have e:(Ad (Bh n (GI.toZ ((8:Int)*(i:Int))).toNat):UInt8)=UInt8.ofNat (n.toNat/256^i):=by
   have e:(GI.toZ ((8:Int)*(i:Int))).toNat=8*i:=by show((8:Int)*(i:Int)).toNat=_;omega
   rw[e,Akc,Ab4,Nat.pow_mul]
  rw[e,List.replicate_succ,Ap5 (Ko _ _)]
  have h:=Bcs n l4 w hl hw j (i+1) q (by omega) (by omega)
  rw[Bh0]at h
  simpa using h
theorem Bul(n:UInt64)(w:Nat)(h1:1≤w)(h2:w≤8)(h:n.toNat<256^w):Ayb n (w:Int)=some true:=by
 rw[Ayb]
 by_cases h8:w=8
 ·subst h8;rw[if_pos (by rw[Bp];rfl)]
 ·rw[if_neg (by rw[Bp];simp;omega),Hp (by omega) (by omega),Cb (by rw[Cs];simp;omega),Aa]
  have e:(GI.toZ ((8:Int)*(w:Int))).toNat=8*w:=by show((8:Int)*(w:Int)).toNat=_;omega
  rw[e,Ayc]
  have:Bh n (8*w)=0:=by
   apply UInt64.toNat_inj.1
   rw[Ab4,Nat.pow_mul]
   exact Nat.div_eq_of_lt h
  rw[this];rfl
theorem Bib(n:UInt64)(w:Nat)(h1:1≤w)(h2:w≤8)(h:n.toNat<256^w):Sd n (w:Int)=some (leB n.toNat w,0):=by
 rw[Sd,An1,if_neg (by simp[Af,Ar];omega),Bul n w h1 h2 h,Aa,if_neg (by simp),Bao (by omega) (by omega),Aa,Cb (by rw[Bp];simp),Aa,An6]
 have h:=Bcs n (List.replicate (w:Int).toNat 0) w (by simp) h2 w 0 Ap (by omega) (by have:=Am;omega)
 simpa [leB]using h
end Go.Pl
set_option linter.unusedVariables false
set_option linter.unusedSimpArgs false
namespace Go.Pl
open Go Go.Lv
theorem Bjk(n:Nat)(h:n<4611686018427387904):Cq (n:Int) (7:Int)=((n %8:Nat):Int):=by
 have e:Cq (n:Int) (7:Int)=wrap64 ((BitVec.ofInt 64 (n:Int)&&&BitVec.ofInt 64 7).toNat:Int):=rfl
 rw[e,BitVec.toNat_and,BitVec.toNat_ofInt,BitVec.toNat_ofInt]
 have h1:((n:Int) %((2^64:Nat):Int)).toNat=n:=by omega
 have h2:((7:Int) %((2^64:Nat):Int)).toNat=2^3-1:=by decide
 rw[h1,h2,Nat.and_two_pow_sub_one_eq_mod,Bm (by omega) (by omega)]
theorem Bzg(n:Nat):Beu (n:Int) (GI.toZ (3:UInt64)).toNat=((n/8:Nat):Int):=by
 have e:Beu (n:Int) (GI.toZ (3:UInt64)).toNat=(n:Int).fdiv 8:=rfl
 rw[e,Int.fdiv_eq_ediv_of_nonneg _ (by omega)];omega
theorem Bzv{t:Nat}(h:t≤8):Ah (Cj (1:UInt8) t) (1:UInt8)=UInt8.ofNat (2^t-1):=by
 have:t=0∨t=1∨t=2∨t=3∨t=4∨t=5∨t=6∨t=7∨t=8:=by omega
 rcases this with rfl|rfl|rfl|rfl|rfl|rfl|rfl|rfl|rfl<;>decide
theorem bitsOf(c:UInt8)(off t:Nat)(h:t≤8):(Cq (Bh c off) (Ah (Cj (1:UInt8) t) (1:UInt8))).toNat=c.toNat/2^off %2^t:=by
 have hp:2^t≤2^8:=Nat.pow_le_pow_right (by omega) h
 rw[Bzv h,Bu6,UInt8.toNat_and,Bm7,UInt8.toNat_ofNat',Nat.mod_eq_of_lt (by have:=Nat.pow_pos (n:=t) (show 0<2 by omega);omega),Nat.and_two_pow_sub_one_eq_mod]
theorem Bcb{p:List UInt8}{k:Nat}(h:k<p.length):getI p (k:Int)=some (p.getD k 0):=by
 rw[Ch h];simp[List.getD_eq_getElem?_getD,h]
def Pk(p:List UInt8)(a n:Nat):UInt64:=UInt64.ofNat (Bl p a n)
theorem Xn(p:List UInt8)(a n:Nat)(h:n≤64):(Pk p a n).toNat=Bl p a n:=by
 have h1:=Lm p n a
 have h2:2^n≤2^64:=Nat.pow_le_pow_right (by omega) h
 rw[Pk,UInt64.toNat_ofNat',Nat.mod_eq_of_lt (by omega)]
theorem Bho(p:List UInt8)(N:Int)(a n:Nat)(hn:n≤64)(ha:a+n≤8*p.length)(hp:p.length≤1000000):∀(j h q:Nat),h+j=n→j<q→Aa1 (a:Int) (n:Int) p N q (Pk p a h) (h:Int)=some (Pk p a n)
 |j,h,q+1,hj,hq=>by
  rw[Aa1,Ao3]
  by_cases hlt:h<n
  ·have e1:Ae (a:Int) (h:Int)=((a+h:Nat):Int):=by rw[Ag (by omega) (by omega)];omega
   have e2:Cu (Ah (n:Int) (h:Int)) (Ah (8:Int) (((a+h) %8:Nat):Int))=((min (n-h) (8-(a+h) %8):Nat):Int):=by
    rw[Ahu,Bi (by omega) (by omega),Bi (by omega) (by omega)];omega
   have hm:(a+h)/8<p.length:=by omega
   rw[if_pos (by rw[Af];simp;omega),e1,Bzg,Bcb hm,Aa,Bjk _ (by omega),Cb (by rw[Cs];simp;omega),Aa,e2,Cb (by rw[Cs];simp),Aa,Cb (by rw[Cs];simp),Aa]
   generalize hT:min (n-h) (8-(a+h) %8)=T
   have hT8:T≤8:=by omega
   have hT1:1≤T:=by omega
   have hb:(a+h) %8+T≤8:=by omega
   have hv:=Auz p (a+h) T hb
   have z1:(GI.toZ (((a+h) %8:Nat):Int)).toNat=(a+h) %8:=rfl
   have z2:(GI.toZ ((T:Nat):Int)).toNat=T:=rfl
   have z3:(GI.toZ ((h:Nat):Int)).toNat=h:=rfl
   rw[z1,z2,z3]
   have hx:(Ad (Cq (Bh (p.getD ((a+h)/8) 0) ((a+h) %8)) (Ah (Cj (1:UInt8) T) (1:UInt8))):UInt64).toNat=Bl p (a+h) T:=by
    rw[Ash,UInt64.toNat_ofNat',bitsOf _ _ _ hT8,←hv]
    have:=Lm p T (a+h)
    have h2:2^T≤2^8:=Nat.pow_le_pow_right (by omega) hT8
    omega
   have hlt2:=Lm p (h+T) a
   rw[Afd]at hlt2
   have h64:2^(h+T)≤2^64:=Nat.pow_le_pow_right (by omega) (by omega)
   have hor:gor (Pk p a h) (Cj (Ad (Cq (Bh (p.getD ((a+h)/8) 0) ((a+h) %8)) (Ah (Cj (1:UInt8) T) (1:UInt8))):UInt64) h)=Pk p a (h+T):=by
    rw[Br3 (by rw[Xn p a h (by omega)];exact Lm p h a) (by rw[hx,Nat.mul_comm];omega),hx,Xn p a h (by omega),Pk,Afd,Nat.mul_comm (2^h)]
   rw[hor,Ag (by omega) (by omega),show(h:Int)+((T:Nat):Int)=((h+T:Nat):Int) by omega]
   exact Bho p N a n hn ha hp (j-T) (h+T) q (by omega) (by omega)
  ·rw[if_neg (by rw[Af];simp;omega),show h=n by omega];rfl
theorem get_eq(p:List UInt8)(N:Int)(a n:Nat)(hn:n≤64)(ha:a+n≤8*p.length)(hp:p.length≤1000000):Atf p N (a:Int) (n:Int)=some (Pk p a n):=by
 have:=Bho p N a n hn ha hp n 0 Ap (by omega) (by have:=Am;omega)
 exact this
theorem Aeb{p:List UInt8}{n:Nat}(h:okB p n):Gs p (n:Int)=some 0:=by
 obtain⟨h1,h2,h3⟩:=h
 have e7:Ae (n:Int) 7=((n+7:Nat):Int):=by rw[Ag (by omega) (by omega)];omega
 rw[Gs,e7,Bzg,if_neg (by simp[Af,Ar,Ak,Ac,h2];omega),Bjk _ (by omega)]
 by_cases hz:n %8=0
 ·rw[if_neg (by rw[Ar];simp;omega)]
 ·have el:Ah (Ac p) 1=((p.length-1:Nat):Int):=by rw[Ac,Bi (by omega) (by omega)];omega
  rw[if_pos (by rw[Ar];simp;omega),el,Bcb (by omega),Aa,Cb (by rw[Cs];simp;omega),Aa]
  have z:(GI.toZ ((n %8:Nat):Int)).toNat=n %8:=rfl
  have hs:Bh (p.getD (p.length-1) 0) (n %8)=0:=by
   apply UInt8.toNat_inj.1
   rw[Bm7]
   have hv:=Auz p n (8-n %8) (by omega)
   have h0:Bl p n (8-n %8)=0:=Bdx _ _ fun k hk=>h3 _ (by omega) (by omega)
   rw[h0,show n/8=p.length-1 by omega]at hv
   have hlt:(p.getD (p.length-1) 0).toNat/2^(n %8)<2^(8-n %8):=by
    have:=(p.getD (p.length-1) 0).toNat_lt
    rw[Nat.div_lt_iff_lt_mul (Nat.pow_pos (by omega)),←Nat.pow_add,show 8-n %8+n %8=8 by omega];simpa using this
   rw[Nat.mod_eq_of_lt hlt]at hv
   exact hv.symm
  rw[z,hs,if_neg (by rw[Bkv];simp)]
theorem Avt{p:List UInt8}{N:Nat}(h:okB p N)(a n:Nat)(hn:n≤64):Xm p (N:Int) (a:Int) (n:Int)=some (if N<a+n then(0,24)else(Pk p a n,0)):=by
 obtain⟨h1,h2,h3⟩:=h
 rw[Xm,Aeb ⟨h1,h2,h3⟩,Aa,if_neg (by rw[Ak];simp),if_neg (by simp[Af,Ar];omega),Bi (by omega) (by omega)]
 by_cases hl:N<a+n
 ·rw[if_pos (by rw[Ar];simp;omega),if_pos hl]
 ·rw[if_neg (by rw[Ar];simp;omega),get_eq p N a n hn (by omega) (by omega),Aa,if_neg hl]
end Go.Pl
set_option linter.unusedVariables false
set_option linter.unusedSimpArgs false
namespace Go.Pl
open Go Go.Lv
theorem Cal(c:Nat)(h:c<4611686018427387904):Bt (c:Int) (2:Int)=((c/2:Nat):Int):=by
 rw[Afb,Int.tdiv_eq_ediv_of_nonneg (by omega),Bm (by omega) (by omega)];omega
theorem Cad(c:Nat)(h:c<4611686018427387904):Bt (c:Int) (8:Int)=((c/8:Nat):Int):=by
 rw[Afb,Int.tdiv_eq_ediv_of_nonneg (by omega),Bm (by omega) (by omega)];omega
theorem Bsa(c:Nat):En (c:Int) (8:Int)=((c %8:Nat):Int):=by rw[En,Int.tmod_eq_emod_of_nonneg (by omega)];omega
theorem Car(c:Nat):En (c:Int) (2:Int)=((c %2:Nat):Int):=by rw[En,Int.tmod_eq_emod_of_nonneg (by omega)];omega
theorem Blq(i c:Nat)(hc:c<256):∀(j k q:Nat),k+j=i %8→j<q→Is (i:Int) q ((c/2^k:Nat):Int) (k:Int)=some (((c/2^(i %8) %2:Nat):Int))
 |0,k,q+1,hk,_=>by
  rw[Is,Tf,Bsa,if_neg (by rw[Af];simp;omega),Ael,Aex,Car,show k=i %8 by omega]
 |j+1,k,q+1,hk,hq=>by
  have hle:c/2^k≤c:=Nat.div_le_self _ _
  rw[Is,Tf,Bsa,if_pos (by rw[Af];simp;omega),Cal _ (by omega),Ag (by omega) (by omega),Nat.div_div_eq_div_mul,←Nat.pow_succ]
  exact Blq i c hc j (k+1) q (by omega) (by omega)
theorem Av0(p:List UInt8)(N:Int)(i:Nat)(h:i/8<p.length)(hi:i<4611686018427387904):Hk p N (i:Int)=some ((Hg p i:Nat):Int):=by
 have hc:=(p.getD (i/8) 0).toNat_lt
 have:=Blq i (p.getD (i/8) 0).toNat (by simpa using hc) (i %8) 0 Ap (by omega) (by have:=Am;omega)
 rw[Hk,Af8,Cad _ hi,Bcb h,Aa,Aec,Aft]
 simpa [Hg]using this
theorem Az2(p:List UInt8)(N:Int)(a n:Nat)(ha:a+n≤8*p.length)(hp:p.length≤1000000):∀(j q:Nat),j≤n→j<q→Gb (a:Int) p N q (Pk p (a+j) (n-j)) ((j:Int)-1)=some (Pk p a n)
 |0,q+1,_,_=>by
  rw[Gb,Ni,if_neg (by rw[Cs];simp)];rfl
 |j+1,q+1,hj,hq=>by
  have hb:=Rp p (a+j)
  rw[Gb,Ni,show((j+1:Nat):Int)-1=(j:Int) by omega,if_pos (by rw[Cs];simp),Ag (a:=(a:Int)) (by omega) (by omega),show(a:Int)+(j:Int)=((a+j:Nat):Int) by omega,Av0 p N (a+j) (by omega) (by omega),Aa,Bi (by omega) (by omega)]
  have e:Ae (Bg (2:UInt64) (Pk p (a+(j+1)) (n-(j+1)))) (Ad ((Hg p (a+j):Nat):Int):UInt64)=Pk p (a+j) (n-j):=by
   rw[Abi,Abp,Ui,Pk,Pk,show n-j=(n-(j+1))+1 by omega,Bl,show a+j+1=a+(j+1) by omega,UInt64.ofNat_add,UInt64.ofNat_mul]
   exact UInt64.add_comm _ _
  rw[e]
  exact Az2 p N a n ha hp j q (by omega) (by omega)
theorem As1(p:List UInt8)(N:Int)(a n:Nat)(ha:a+n≤8*p.length)(hp:p.length≤1000000):Ly p N (a:Int) (n:Int)=some (Pk p a n):=by
 have:=Az2 p N a n ha hp n Ap (Nat.le_refl _) (by have:=Am;omega)
 have hz:Pk p (a+n) (n-n)=0:=by rw[Nat.sub_self];rfl
 rw[hz]at this
 rw[Ly,Zc,Yr,Bi (by omega) (by omega)]
 exact this
theorem Bnj(bit:Int)(N:Nat)(l:List UInt8):∀(j k q:Nat),k+j=N %8→j<q→Hu bit (N:Int) l q ((2^k:Nat):Int) (k:Int)=Rh bit ((2^(N %8):Nat):Int) (N:Int) l
 |0,k,q+1,hk,_=>by
  rw[Hu,Qq,Bsa,if_neg (by rw[Af];simp;omega),show k=N %8 by omega]
 |j+1,k,q+1,hk,hq=>by
  have hp:2^k≤2^8:=Nat.pow_le_pow_right (by omega) (by omega)
  have e:Bg ((2^k:Nat):Int) 2=((2^(k+1):Nat):Int):=by
   rw[Nat.pow_succ]
   generalize 2^k=K at*
   rw[Hp (by omega) (by omega)];omega
  rw[Hu,Qq,Bsa,if_pos (by rw[Af];simp;omega),e,Ag (by omega) (by omega)]
  exact Bnj bit N l j (k+1) q (by omega) (by omega)
theorem Az0(p:List UInt8)(a n j:Nat)(h:j<(n+7)/8):(Zk p a n)[j]'(by rw[Jt];exact h)=UInt8.ofNat (Bl p (a+8*j) (min 8 (n-8*j))):=by simp[Zk]
theorem Bi0(p:List UInt8)(a t:Nat)(h:t≤8):Bl p a t<256:=by
 have h1:=Lm p t a
 have h2:2^t≤2^8:=Nat.pow_le_pow_right (by omega) h
 omega
def room(p:List UInt8)(a n:Nat):List UInt8:=if n %8=0 then Zk p a n++[0]else Zk p a n
theorem Rw(p:List UInt8)(a n:Nat):(room p a n).length=n/8+1:=by
 rw[room];split<;>simp[Jt]<;>omega
theorem Bjd(p:List UInt8)(a n j:Nat)(h:j<n/8+1):(room p a n)[j]'(by rw[Rw];exact h)=UInt8.ofNat (Bl p (a+8*j) (min 8 (n-8*j))):=by
 have h0:(room p a n)[j]? =some (UInt8.ofNat (Bl p (a+8*j) (min 8 (n-8*j)))):=by
  rw[room]
  split
  ·by_cases hj:j<(n+7)/8
   ·rw[List.getElem?_append_left (by rw[Jt];exact hj),List.getElem?_eq_getElem (by rw[Jt];exact hj),Az0 p a n j hj]
   ·rw[List.getElem?_append_right (by rw[Jt];omega),Jt,show j-(n+7)/8=0 by omega,show n-8*j=0 by omega];rfl
  ·rw[List.getElem?_eq_getElem (by rw[Jt];omega),Az0 p a n j (by omega)]
 rw[List.getElem?_eq_getElem (by rw[Rw];exact h)]at h0
 exact Option.some.inj h0
theorem Bha(p:List UInt8)(a n T:Nat)(h1:1≤T)(h:n %8+T≤8):(room p a n).set (n/8) (UInt8.ofNat (Bl p (a+8*(n/8)) (n %8+T)))=Zk p a (n+T):=by
 apply List.ext_getElem (by rw[List.length_set,Rw,Jt];omega)
 intro j g1 g2
 rw[List.length_set,Rw]at g1
 rw[List.getElem_set,Az0 p a (n+T) j (by rw[Jt]at g2;exact g2)]
 split
 ·rename_i e;subst e;rw[show min 8 (n+T-8*(n/8))=n %8+T by omega]
 ·rw[Bjd p a n j g1,show min 8 (n-8*j)=8 by omega,show min 8 (n+T-8*j)=8 by omega]
theorem Bc1(p:List UInt8)(a n:Nat):(room p a n)[n/8]'(by rw[Rw];omega)=UInt8.ofNat (Bl p (a+8*(n/8)) (n %8)):=by
 rw[Bjd p a n _ (by omega),show min 8 (n-8*(n/8))=n %8 by omega]
theorem Bsu(p:List UInt8)(a n:Nat)(hn:n≤400000):Qf (Zk p a n) (n:Int) ((Hg p (a+n):Nat):Int)=some (Zk p a (n+1),((n+1:Nat):Int)):=by
 have hb:=Rp p (a+n)
 have hp:2^(n %8)≤2^7:=Nat.pow_le_pow_right (by omega) (by omega)
 have hroom:Qf (Zk p a n) (n:Int) ((Hg p (a+n):Nat):Int)=Ri ((Hg p (a+n):Nat):Int) (n:Int) (room p a n):=by
  rw[Qf,Adl,Bsa,room]
  by_cases h0:n %8=0
  ·rw[if_pos (by rw[Bp,h0];rfl),Fc (by rw[Jt];simp;omega),Aa,if_pos h0]
  ·rw[if_neg (by rw[Bp];simp;omega),if_neg h0]
 have hl:=Bnj ((Hg p (a+n):Nat):Int) n (room p a n) (n %8) 0 Ap (by omega) (by have:=Am;omega)
 rw[hroom,Ri,Adg,Adt]
 refine Eq.trans hl ?_
 have hg:getI (room p a n) ((n/8:Nat):Int)=some (UInt8.ofNat (Bl p (a+8*(n/8)) (n %8))):=by
  rw[Ch (by rw[Rw];omega),Bc1]
 have hlt:=Bi0 p (a+8*(n/8)) (n %8+1) (by omega)
 have hsn:=Bd3 p (a+8*(n/8)) (n %8)
 rw[show a+8*(n/8)+n %8=a+n by omega]at hsn
 have hm:Bg ((Hg p (a+n):Nat):Int) ((2^(n %8):Nat):Int)=((2^(n %8)*Hg p (a+n):Nat):Int):=by
  have hle:2^(n %8)*Hg p (a+n)≤2^7*1:=Nat.mul_le_mul hp (by omega)
  rw[Br6,←Int.natCast_mul,Bm (by omega) (by rw[Nat.mul_comm];omega),Nat.mul_comm]
 have hx:Ae (UInt8.ofNat (Bl p (a+8*(n/8)) (n %8))) (Ad (((2^(n %8)*Hg p (a+n):Nat):Int)):UInt8)=UInt8.ofNat (Bl p (a+8*(n/8)) (n %8+1)):=by
  rw[Bus,Bsf,hsn,UInt8.ofNat_add]
 rw[Rh,Adr,Cad _ (by omega),hg,Aa,Aa,Aa,hm,hx,Qt _ (by rw[Rw];omega),Aa,Bha p a n 1 (by omega) (by omega),Ag (by omega) (by omega)];rfl
theorem Auc(p:List UInt8)(N:Int)(a n:Nat)(ha:a+n≤8*p.length)(hp:p.length≤1000000)(hn:n≤300000):∀(j m q:Nat),m+j=n→j<q→Fa ((a+n:Nat):Int) p N q ((a+m:Nat):Int) (m:Int) (Zk p a m)=some (Zk p a n,(n:Int))
 |0,m,q+1,hm,_=>by
  rw[Fa,Lh,if_neg (by rw[Af];simp;omega),show m=n by omega];rfl
 |j+1,m,q+1,hm,hq=>by
  rw[Fa,Lh,if_pos (by rw[Af];simp;omega),Av0 p N (a+m) (by omega) (by omega),Aa,Bsu p a m (by omega),Aa]
  simp only
  rw[Ag (by omega) (by omega)]
  exact Auc p N a n ha hp hn j (m+1) q (by omega) (by omega)
theorem Bgk(p:List UInt8)(N:Int)(a n:Nat)(ha:a+n≤8*p.length)(hp:p.length≤1000000)(hn:n≤300000):Ab0 p N (a:Int) ((a+n:Nat):Int)=some (Zk p a n,(n:Int)):=by
 have:=Auc p N a n ha hp hn n 0 Ap (by omega) (by have:=Am;omega)
 exact this
end Go.Pl
set_option linter.unusedVariables false
set_option linter.unusedSimpArgs false
namespace Go.Pl
open Go Go.Lv
theorem Byo{t:Nat}(h:t≤8):Ah (Cj (1:UInt64) t) (1:UInt64)=UInt64.ofNat (2^t-1):=by
 have:t=0∨t=1∨t=2∨t=3∨t=4∨t=5∨t=6∨t=7∨t=8:=by omega
 rcases this with rfl|rfl|rfl|rfl|rfl|rfl|rfl|rfl|rfl<;>decide
theorem Caj(v:UInt64){t:Nat}(h:t≤8):(Cq v (Ah (Cj (1:UInt64) t) (1:UInt64))).toNat=v.toNat %2^t:=by
 have hp:2^t≤2^8:=Nat.pow_le_pow_right (by omega) h
 rw[Byo h,Ay2,UInt64.toNat_and,UInt64.toNat_ofNat',Nat.mod_eq_of_lt (by have:=Nat.pow_pos (n:=t) (show 0<2 by omega);omega),Nat.and_two_pow_sub_one_eq_mod]
theorem or8{v w i:Nat}(hv:v<2^i)(hw:w*2^i<256)(hi:i<8):gor (UInt8.ofNat v) (Cj (UInt8.ofNat w) i)=UInt8.ofNat (v+w*2^i):=by
 have hp:2^i≤2^8:=Nat.pow_le_pow_right (by omega) (by omega)
 have hpos:0<2^i:=Nat.pow_pos (by omega)
 have hw2:w<256:=Nat.lt_of_le_of_lt (Nat.le_mul_of_pos_right w hpos) hw
 rw[Bx3];apply UInt8.toNat_inj.1
 have e1:(UInt8.ofNat v).toNat=v:=by rw[UInt8.toNat_ofNat',Nat.mod_eq_of_lt (by omega)]
 have e2:(UInt8.ofNat w).toNat=w:=by rw[UInt8.toNat_ofNat',Nat.mod_eq_of_lt (by omega)]
 rw[UInt8.toNat_or,Bt0,e1,e2,Nat.mod_eq_of_lt hw,Nat.mul_comm w,Nat.or_comm,←Nat.two_pow_add_eq_or_of_lt hv,UInt8.toNat_ofNat',Nat.add_comm v]
 rw[Nat.mul_comm]at hw
 have hb:2^i*w+v<256:=by
  rw[Nat.two_pow_add_eq_or_of_lt hv]
  exact Nat.or_lt_two_pow (n:=8) hw (by omega)
 rw[Nat.mod_eq_of_lt hb]
theorem Bss(p:List UInt8)(a n T:Nat)(h:T≤n)(hn:n≤64):Bh (Pk p a n) T=Pk p (a+T) (n-T):=by
 apply UInt64.toNat_inj.1
 rw[Ab4,Xn p a n hn,Xn p (a+T) (n-T) (by omega)]
 have:=Lm p T a
 conv=>lhs;rw[show n=T+(n-T) by omega,Afd,Nat.add_mul_div_left _ _ (Nat.pow_pos (by omega)),Nat.div_eq_of_lt this,Nat.zero_add]
theorem Brn(p:List UInt8)(a n T:Nat)(h:T≤n)(hn:n≤64):(Pk p a n).toNat %2^T=Bl p a T:=by
 have:=Lm p T a
 rw[Xn p a n hn]
 conv=>lhs;rw[show n=T+(n-T) by omega,Afd,Nat.add_mul_mod_self_left,Nat.mod_eq_of_lt this]
theorem Bah(bk:Int→Int→List UInt8→Option (List UInt8×Int×Int))(to':Int)(p:List UInt8)(N fr:Int)(r6:UInt64)(a:Nat):∀(j m q:Nat),m+j≤300000→j≤64→j<q→
  Ju bk to' p N fr r6 q (Pk p (a+m) j) (j:Int) (m:Int) (Zk p a m)=Adz bk to' p N fr ((m+j:Nat):Int) (Zk p a (m+j))
 |0,m,q+1,_,_,_=>by
  rw[Ju,Ad5,if_neg (by rw[Ar];simp)];rfl
 |j+1,m,q+1,hm,hj,hq=>by
  have hroom:Ju bk to' p N fr r6 (q+1) (Pk p (a+m) (j+1)) ((j+1:Nat):Int) (m:Int) (Zk p a m)=Adv (Ju bk to' p N fr r6 q) to' fr p N r6 (Pk p (a+m) (j+1)) ((j+1:Nat):Int) (m:Int) (room p a m):=by
   rw[Ju,Ad5,if_pos (by rw[Ar];simp),Bjk m (by omega),room]
   by_cases h0:m %8=0
   ·rw[if_pos (by rw[Bp,h0];rfl),Fc (by rw[Jt];simp;omega),Aa,if_pos h0]
   ·rw[if_neg (by rw[Bp];simp;omega),if_neg h0]
  have hl:Ah (Ac (room p a m)) 1=((m/8:Nat):Int):=by
   rw[Ac,Rw,Bi (by omega) (by omega)];omega
  have e2:Cu ((j+1:Nat):Int) (Ah (8:Int) ((m %8:Nat):Int))=((min (j+1) (8-m %8):Nat):Int):=by
   rw[Ahu,Bi (by omega) (by omega)];omega
  rw[hroom,Adv,Ald,Bjk m (by omega),e2,hl]
  generalize hT:min (j+1) (8-m %8)=T
  have hT1:1≤T:=by omega
  have hT8:m %8+T≤8:=by omega
  have hg:getI (room p a m) ((m/8:Nat):Int)=some (UInt8.ofNat (Bl p (a+8*(m/8)) (m %8))):=by
   rw[Ch (by rw[Rw];omega),Bc1]
  have z1:(GI.toZ ((m %8:Nat):Int)).toNat=m %8:=rfl
  have z2:(GI.toZ ((T:Nat):Int)).toNat=T:=rfl
  have hlt:=Bi0 p (a+8*(m/8)) (m %8+T) (by omega)
  have hadd:=Afd p (m %8) T (a+8*(m/8))
  rw[show a+8*(m/8)+m %8=a+m by omega]at hadd
  have hbyte:(Ad (Cq (Pk p (a+m) (j+1)) (Ah (Cj (1:UInt64) T) (1:UInt64))):UInt8)=UInt8.ofNat (Bl p (a+m) T):=by
   rw[Akc,Caj _ (by omega),Brn p (a+m) (j+1) T (by omega) hj]
  have hnew:gor (UInt8.ofNat (Bl p (a+8*(m/8)) (m %8))) (Cj (UInt8.ofNat (Bl p (a+m) T)) (m %8))=UInt8.ofNat (Bl p (a+8*(m/8)) (m %8+T)):=by
   rw[or8 (Lm _ _ _) (by rw[Nat.mul_comm];omega) (by omega),hadd,Nat.mul_comm (2^(m %8))]
  rw[hg,z1,z2,hbyte]
  simp only[Aa]
  rw[Cb (by rw[Cs];simp),Aa,Cb (by rw[Cs];simp;omega),Aa,hnew,Qt _ (by rw[Rw];omega),Aa,Bha p a m T hT1 hT8,Akd,Atb,Bjk m (by omega),e2,hT,Cb (by rw[Cs];simp),Aa,z2,Bss p (a+m) (j+1) T (by omega) hj,Bi (by omega) (by omega),Ag (by omega) (by omega)]
  have ih:=Bah bk to' p N fr r6 a (j+1-T) (m+T) q (by omega) (by omega) (by omega)
  rw[show m+T+(j+1-T)=m+(j+1) by omega]at ih
  rw[←ih,show a+m+T=a+(m+T) by omega,show((j+1:Nat):Int)-((T:Nat):Int)=((j+1-T:Nat):Int) by omega,show(m:Int)+((T:Nat):Int)=((m+T:Nat):Int) by omega]
theorem Bid(p:List UInt8)(N:Int)(a n:Nat)(ha:a+n≤8*p.length)(hp:p.length≤1000000)(hn:n≤300000):∀(j m f q:Nat),(f=m∨n≤f∧m=n)→m+j=n→f≤n+64→j<q→Qb ((a+n:Nat):Int) p N q ((a+f:Nat):Int) (m:Int) (Zk p a m)=some (Zk p a n,(n:Int),0)
 |j,m,f,q+1,hf,hm,hf2,hq=>by
  rw[Qb,Akh]
  by_cases hlt:f<n
  ·obtain rfl:f=m:=by omega
   have e1:Cu (64:Int) (Ah ((a+n:Nat):Int) ((a+f:Nat):Int))=((min 64 (n-f):Nat):Int):=by
    rw[Ahu,Bi (by omega) (by omega)];omega
   rw[if_pos (by rw[Af];simp;omega),e1,get_eq p N (a+f) _ (by omega) (by omega) hp,Aa,Aj2]
   have h1:=Bah (Qb ((a+n:Nat):Int) p N q) ((a+n:Nat):Int) p N ((a+f:Nat):Int) (Pk p (a+f) (min 64 (n-f))) a (min 64 (n-f)) f Ap (by omega) (by omega) (by have:=Am;omega)
   refine Eq.trans h1 ?_
   rw[Adz,Atn,Ag (by omega) (by omega),show((a+f:Nat):Int)+64=((a+(f+64):Nat):Int) by omega]
   exact Bid p N a n ha hp hn (j-min 64 (n-f)) (f+min 64 (n-f)) (f+64) q (by omega) (by omega) (by omega) (by omega)
  ·rw[if_neg (by rw[Af];simp;omega),Alb,Auw,show m=n by omega]
theorem Byy{p:List UInt8}{N:Nat}(h:okB p N)(a n:Nat)(ha:a+n≤N)(hn:n≤300000):Apf p (N:Int) (a:Int) ((a+n:Nat):Int)=some (Zk p a n,(n:Int),0):=by
 obtain⟨h1,h2,h3⟩:=h
 have:=Bid p N a n (by omega) (by omega) hn n 0 0 Ap (by omega) (by omega) (by omega) (by have:=Am;omega)
 rw[Apf,Anp,Aeb ⟨h1,h2,h3⟩,Aa,if_neg (by rw[Ak];simp),if_neg (by simp[Af,Ar];omega),Aj4]
 exact this
end Go.Pl
set_option linter.unusedVariables false
set_option linter.unusedSimpArgs false
namespace Go.Pl
open Go Go.Lv
def Ei(p:List UInt8):Nat→Nat→Nat
 |_,0=>0
 |a,m+1=>if Hg p a=1 then 1+Ei p (a+1) m else 0
theorem Ag3(p:List UInt8):∀(m a:Nat),Ei p a m≤m
 |0,_=>Nat.le_refl _
 |m+1,a=>by rw[Ei];split<;>have:=Ag3 p m (a+1)<;>omega
theorem Bhz(p:List UInt8):∀(m a:Nat),∃s,Bl p a m+1=2^(Ei p a m+1)*s+2^Ei p a m∧(Ei p a m=m→s=0)
 |0,a=>⟨0,by simp[Bl,Ei],fun _=>rfl⟩
 |m+1,a=>by
  have hb:=Rp p a
  obtain⟨s,h1,h2⟩:=Bhz p m (a+1)
  by_cases h:Hg p a=1
  ·refine⟨s,?_,fun e=>h2 ?_⟩
   ·rw[Ei,if_pos h,Bl,h,show 1+Ei p (a+1) m+1=(Ei p (a+1) m+1)+1 by omega,show 1+Ei p (a+1) m=Ei p (a+1) m+1 by omega,Nat.pow_succ,Nat.pow_succ (n:=2) (m:=Ei p (a+1) m)]
    rw[Nat.pow_succ]at h1
    generalize Bl p (a+1) m=V at*
    generalize 2^Ei p (a+1) m=W at*
    have e1:W*2*2*s=2*(W*2*s):=by rw[Nat.mul_right_comm (W*2) 2 s,Nat.mul_comm]
    omega
   ·rw[Ei,if_pos h]at e;omega
  ·refine⟨Bl p (a+1) m,?_,fun e=>?_⟩
   ·rw[Ei,if_neg h,Bl];simp;omega
   ·rw[Ei,if_neg h]at e;omega
theorem Bwj{n t s:Nat}(h:2^(t+1)*s+2^t≤2^n)(ht:t<n)(x:Nat)(hx:x=2^n-(2^(t+1)*s+2^t)):x&&& (2^(t+1)*s+2^t)=2^t:=by
 have hpos:0<2^t:=Nat.pow_pos (by omega)
 have hlt:2^t<2^(t+1):=by rw[Nat.pow_succ];omega
 have e:x=2^n-((2^(t+1)*s+(2^t-1))+1):=by rw[hx];congr 1;omega
 apply Nat.eq_of_testBit_eq
 intro i
 rw[Nat.testBit_and,e,Nat.testBit_two_pow_sub_succ (by omega),Nat.testBit_two_pow_mul_add _ (by omega),Nat.testBit_two_pow_mul_add _ hlt]
 by_cases hi:i<t+1
 ·rw[if_pos hi,if_pos hi,Nat.testBit_two_pow_sub_one,Nat.testBit_two_pow]
  by_cases hit:t=i
  ·subst hit;simp;exact ht
  ·have:¬i=t:=fun e=>hit e.symm
   simp[hit]
 ·rw[if_neg hi,if_neg hi,Nat.testBit_two_pow]
  have:¬t=i:=by omega
  simp[this]
theorem Bqe(a:UInt64):(Azm a).toNat=18446744073709551615-a.toNat:=by
 have h:=a.toNat_lt
 have e:Azm a=UInt64.ofNat (BitVec.ofInt 64 18446744073709551615^^^BitVec.ofInt 64 (a.toNat:Int)).toNat:=Ey _
 have h1:BitVec.ofInt 64 (a.toNat:Int)=a.toBitVec:=Bem a
 have h2:(BitVec.ofInt 64 18446744073709551615:BitVec 64)=BitVec.allOnes 64:=by decide
 rw[e,UInt64.toNat_ofNat',h1,h2,BitVec.allOnes_xor,BitVec.toNat_not]
 show(18446744073709551616-1-a.toNat) %18446744073709551616=18446744073709551615-a.toNat
 omega
theorem Btb(a:UInt64):(Ath a).toNat=(18446744073709551616-a.toNat) %18446744073709551616:=by
 have h:=a.toNat_lt
 have e:Ath a=UInt64.ofNat ((0-(a.toNat:Int)) %18446744073709551616).toNat:=Bep _
 rw[e,UInt64.toNat_ofNat']
 show((0-(a.toNat:Int)) %18446744073709551616).toNat %18446744073709551616=_
 omega
def Bzn:List UInt8:=[0,1,56,2,57,49,28,3,61,58,42,50,38,29,17,4,62,47,59,36,45,43,51,22,53,39,33,30,24,18,12,5,63,55,48,27,60,41,37,16,46,35,44,21,52,32,23,11,54,26,40,15,34,20,31,10,25,14,19,9,13,8,7,6]
theorem Boa:∀t:Fin 64,getI Bzn (GI.toZ (Bh (Bg (UInt64.ofNat (2^t.val)) (285870213051353865:UInt64)) (GI.toZ (58:UInt64)).toNat))=some (UInt8.ofNat t.val):=by decide +kernel
theorem Caa(x:UInt64)(t s:Nat)(ht:t<64)(h:x.toNat+(2^(t+1)*s+2^t)=18446744073709551616):Eb x=some (t:Int):=by
 have hpos:0<2^t:=Nat.pow_pos (by omega)
 have hx:x.toNat=2^64-(2^(t+1)*s+2^t):=by show x.toNat=18446744073709551616-_;omega
 have hle:2^t≤2^63:=Nat.pow_le_pow_right (by omega) (by omega)
 have hne:x≠0:=by
  intro e
  rw[e]at h
  have h':2^t*(2*s+1)=2^64:=by
   rw[Nat.mul_add,Nat.mul_one,←Nat.mul_assoc,←Nat.pow_succ]
   show _=18446744073709551616
   simpa using h
  have h2:2^64=2^t*2^(64-t):=by rw[←Nat.pow_add];congr 1;omega
  rw[h2]at h'
  have h3:=Nat.eq_of_mul_eq_mul_left hpos h'
  rw[show 64-t=(63-t)+1 by omega,Nat.pow_succ]at h3
  omega
 have hx0:x.toNat≠0:=fun e=>hne (UInt64.toNat_inj.1 e)
 have hl:Cq x (Ath x)=UInt64.ofNat (2^t):=by
  apply UInt64.toNat_inj.1
  rw[Ay2,UInt64.toNat_and,Btb,show(18446744073709551616-x.toNat) %18446744073709551616=2^(t+1)*s+2^t by omega,Bwj (n:=64) (by show _≤18446744073709551616;omega) ht _ hx,UInt64.toNat_ofNat',Nat.mod_eq_of_lt]
  exact Nat.lt_of_le_of_lt hle (by decide)
 have hb:=Boa ⟨t,ht⟩
 rw[Eb,if_neg (by rw[Ayc];simpa using hne),hl]
 refine Eq.trans (congrArg (fun o=>Option.bind o fun c=>some (Ad c:Int)) hb) ?_
 rw[Aa,Aec,UInt8.toNat_ofNat',Nat.mod_eq_of_lt (by show t<256;omega)]
theorem Bv7(p:List UInt8)(a m:Nat)(hm:m≤48):Eb (Azm (Pk p a m))=some ((Ei p a m:Nat):Int):=by
 obtain⟨s,h1,h2⟩:=Bhz p m a
 have hle:=Ag3 p m a
 have hlt:=Lm p m a
 have h48:2^m≤2^48:=Nat.pow_le_pow_right (by omega) hm
 have hn:(Azm (Pk p a m)).toNat=18446744073709551615-Bl p a m:=by rw[Bqe,Xn p a m (by omega)]
 have h3:(281474976710656:Nat)=2^48:=rfl
 refine Caa _ (Ei p a m) s (by omega) ?_
 rw[hn];omega
def unS(p:List UInt8)(N a:Nat):Int×Int×Int:=
 if Ei p a (min 48 (N-a))<min 48 (N-a)then((Ei p a (min 48 (N-a)):Nat),((a+Ei p a (min 48 (N-a))+1:Nat):Int),0)else
 if Ei p a (min 48 (N-a))=48 then(48,((a+48:Nat):Int),0)else(0,0,24)
theorem Btu{p:List UInt8}{N:Nat}(h:okB p N)(a:Nat)(ha:a<N):Aad p (N:Int) (a:Int)=some (unS p N a):=by
 have hN:=h.1
 have e1:Cu (48:Int) (Ah (N:Int) (a:Int))=((min 48 (N-a):Nat):Int):=by rw[Ahu,Bi (by omega) (by omega)];omega
 have hle:=Ag3 p (min 48 (N-a)) a
 rw[Aad,Rv,Aeb h,Aa,if_neg (by rw[Ak];simp),if_neg (by rw[Af];simp),if_neg (by rw[Cs];simp;omega),e1,Avt h a _ (by omega),if_neg (by omega),Aa]
 simp only
 rw[Aic,Aib,if_neg (by rw[Ak];simp),Bv7 p a _ (by omega),Aa,Ah7,Aig,e1,unS]
 by_cases h1:Ei p a (min 48 (N-a))<min 48 (N-a)
 ·rw[if_pos (by rw[Af];simp;omega),if_pos h1,Ag (a:=(a:Int)) (by omega) (by omega),show Ae (0:Int) 1=1 by decide,Ag (by omega) (by omega)]
  congr 3;omega
 ·rw[if_neg (by rw[Af];simp;omega),if_neg h1,Aij,Ail]
  by_cases h2:Ei p a (min 48 (N-a))=48
  ·rw[if_pos (by rw[Bp,h2];rfl),if_pos h2,h2,Ag (a:=(a:Int)) (by omega) (by omega),Ag (by omega) (by omega)]
   congr 3;omega
  ·rw[if_neg (by rw[Bp];simp;omega),if_neg h2];rfl
theorem Bdj(p:List UInt8):∀(m a:Nat),Ei p a m<m→Hg p (a+Ei p a m)≠1
 |0,_,h=>by simp[Ei]at h
 |m+1,a,h=>by
  by_cases hb:Hg p a=1
  ·rw[Ei,if_pos hb]at h⊢
   have:=Bdj p m (a+1) (by omega)
   rwa [show a+(1+Ei p (a+1) m)=a+1+Ei p (a+1) m by omega]
  ·rw[Ei,if_neg hb];exact hb
theorem Bdw(p:List UInt8):∀(m a k:Nat),k<Ei p a m→Hg p (a+k)=1
 |0,a,k,h=>by simp[Ei]at h
 |m+1,a,k,h=>by
  by_cases hb:Hg p a=1
  ·rw[Ei,if_pos hb]at h
   cases k with
   |zero=>exact hb
   |succ k=>
    have:=Bdw p m (a+1) k (by omega)
    rwa [show a+(k+1)=a+1+k by omega]
  ·rw[Ei,if_neg hb]at h;omega
def unR(p:List UInt8)(N a:Nat):Int×Int:=if(unS p N a).2.2=0 then((unS p N a).1,(unS p N a).2.1)else(-1,0)
theorem Bb7{p:List UInt8}{N:Nat}(h:okB p N)(a:Nat)(ha:a<N):∀(j k q:Nat),k+j=Ei p a (min 48 (N-a))→j<q→Hs (a:Int) p (N:Int) q (k:Int)=some (unR p N a)
 |0,k,q+1,hk,_=>by
  obtain⟨hN,hl,hz⟩:=h
  have hle:=Ag3 p (min 48 (N-a)) a
  have hk':k=Ei p a (min 48 (N-a)):=by omega
  have e1:Ae (a:Int) (k:Int)=((a+k:Nat):Int):=by rw[Ag (by omega) (by omega)];omega
  have hend:Rc (a:Int) (k:Int) p (N:Int)=some (unR p N a):=by
   rw[Rc,Adk,e1]
   by_cases h48:k=48
   ·have hu:unS p N a=(48,((a+48:Nat):Int),0):=by rw[unS,←hk',if_neg (by omega),if_pos h48]
    rw[if_pos (by rw[Bp,h48];rfl),unR,hu,h48];rfl
   ·rw[if_neg (by rw[Bp];simp;omega)]
    by_cases hN2:N≤a+k
    ·have hu:unS p N a=(0,0,24):=by rw[unS,←hk',if_neg (by omega),if_neg h48]
     rw[if_pos (by rw[Cs];simp;omega),unR,hu];rfl
    ·have hu:unS p N a=(((k:Nat):Int),((a+k+1:Nat):Int),0):=by rw[unS,←hk',if_pos (by omega)]
     rw[if_neg (by rw[Cs];simp;omega),unR,hu,Ag (by omega) (by omega)];rfl
  rw[Hs,Ra,e1]
  by_cases hc:a+k<N∧k<48
  ·have hb:=Rp p (a+k)
   have hs:=Bdj p (min 48 (N-a)) a (by omega)
   rw[←hk']at hs
   rw[if_pos (by simp[Af];omega),Av0 p _ (a+k) (by omega) (by omega),Aa,if_neg (by rw[Bp];simp;omega),hend]
  ·rw[if_neg (by simp[Af];omega),hend]
 |j+1,k,q+1,hk,hq=>by
  obtain⟨hN,hl,hz⟩:=h
  have hle:=Ag3 p (min 48 (N-a)) a
  have hb:=Bdw p (min 48 (N-a)) a k (by omega)
  have e1:Ae (a:Int) (k:Int)=((a+k:Nat):Int):=by rw[Ag (by omega) (by omega)];omega
  rw[Hs,Ra,e1,if_pos (by simp[Af];omega),Av0 p _ (a+k) (by omega) (by omega),Aa,hb,if_pos (by decide),Ag (by omega) (by omega)]
  exact Bb7 ⟨hN,hl,hz⟩ a ha j (k+1) q (by omega) (by omega)
theorem Btr{p:List UInt8}{N:Nat}(h:okB p N)(a:Nat)(ha:a<N):Ai7 p (N:Int) (a:Int)=some (unR p N a):=by
 have hle:=Ag3 p (min 48 (N-a)) a
 have:=Bb7 h a ha (Ei p a (min 48 (N-a))) 0 Ap (by omega) (by have:=Am;omega)
 exact this
end Go.Pl
set_option linter.unusedVariables false
set_option linter.unusedSimpArgs false
namespace Go.Pl
open Go Go.Lv
theorem Brf{p:List UInt8}{N a:Nat}(h:Ei p a (min 48 (N-a))<min 48 (N-a)):unS p N a=(((Ei p a (min 48 (N-a)):Nat):Int),((a+Ei p a (min 48 (N-a))+1:Nat):Int),0):=by rw[unS,if_pos h]
theorem Brb{p:List UInt8}{N a:Nat}(h:¬Ei p a (min 48 (N-a))<min 48 (N-a))(h2:Ei p a (min 48 (N-a))=48):unS p N a=(48,((a+48:Nat):Int),0):=by rw[unS,if_neg h,if_pos h2]
theorem Bqm{p:List UInt8}{N a:Nat}(h:¬Ei p a (min 48 (N-a))<min 48 (N-a))(h2:¬Ei p a (min 48 (N-a))=48):unS p N a=(0,0,24):=by rw[unS,if_neg h,if_neg h2]
theorem Bpl{p:List UInt8}{N:Nat}(h:okB p N)(a:Nat)(ha:N≤a):Aad p (N:Int) (a:Int)=some (0,0,24):=by
 rw[Aad,Rv,Aeb h,Aa,if_neg (by rw[Ak];simp),if_neg (by rw[Af];simp),if_pos (by rw[Cs];simp;omega)]
def rcS(p:List UInt8)(N a k:Nat):UInt32×Int×Int:=
 if N≤a then(0,0,24)else
 if Ei p a (min 48 (N-a))<min 48 (N-a)then
  (if N<a+Ei p a (min 48 (N-a))+1+k then(0,0,24)else(UInt32.ofNat (Ei p a (min 48 (N-a))*2^k+Bl p (a+Ei p a (min 48 (N-a))+1) k),((a+Ei p a (min 48 (N-a))+1+k:Nat):Int),0))
 else if Ei p a (min 48 (N-a))=48 then
  (if N<a+48+32 then(0,0,24)else if Bl p (a+48) 32/2^k<48 then(0,0,12)else(UInt32.ofNat (Bl p (a+48) 32),((a+48+32:Nat):Int),0))
 else(0,0,24)
theorem Aug{p:List UInt8}{a n:Nat}(h:n≤32):(Ad (Pk p a n):UInt32)=UInt32.ofNat (Bl p a n):=by
 have e:(Ad (Pk p a n):UInt32)=UInt32.ofNat (Pk p a n).toNat:=by simp only[Ad,Fv,Da]
 rw[e,Xn p a n (by omega)]
theorem Akp{n:Nat}(h:n<4294967296):(UInt32.ofNat n).toNat=n:=by rw[UInt32.toNat_ofNat'];exact Nat.mod_eq_of_lt h
theorem Bgh(p:List UInt8)(a:Nat){n:Nat}(h:n≤32):Bl p a n<4294967296:=by
 have h1:=Lm p n a
 have h2:2^n≤2^32:=Nat.pow_le_pow_right (by omega) h
 omega
theorem Bye{q v k:Nat}(hq:q<48)(hv:v<2^k)(hk:k≤24):gor (Cj (Ad (q:Int):UInt32) k) (UInt32.ofNat v)=UInt32.ofNat (q*2^k+v):=by
 have hp:2^k≤2^24:=Nat.pow_le_pow_right (by omega) hk
 have h1:q*2^k≤47*2^24:=Nat.mul_le_mul (by omega) hp
 rw[Bwp];apply UInt32.toNat_inj.1
 rw[UInt32.toNat_or,Bbz,Bdp,Akp (by omega),Akp (n:=v) (by omega),Nat.mod_eq_of_lt (by omega),Nat.mul_comm q,←Nat.two_pow_add_eq_or_of_lt hv,Akp (by rw[Nat.mul_comm];omega)]
theorem Bwx{p:List UInt8}{N:Nat}(h:okB p N)(a k:Nat)(hk:k≤24):Aqa p (N:Int) (a:Int) (k:Int)=some (rcS p N a k):=by
 have hN:=h.1
 rw[Aqa,Ak7,Aeb h,Aa,if_neg (by rw[Ak];simp),if_neg (by simp[Af,Ar];omega)]
 by_cases ha:N≤a
 ·rw[Bpl h a ha,Aa,rcS,if_pos ha];rfl
 have hle:=Ag3 p (min 48 (N-a)) a
 rw[Btu h a (by omega),Aa]
 by_cases h1:Ei p a (min 48 (N-a))<min 48 (N-a)
 ·have hS:rcS p N a k=if N<a+Ei p a (min 48 (N-a))+1+k then(0,0,24)else(UInt32.ofNat (Ei p a (min 48 (N-a))*2^k+Bl p (a+Ei p a (min 48 (N-a))+1) k),((a+Ei p a (min 48 (N-a))+1+k:Nat):Int),0):=by rw[rcS,if_neg ha,if_pos h1]
  rw[Brf h1,hS]
  generalize Ei p a (min 48 (N-a))=q at*
  simp only
  rw[if_neg (by rw[Ak];simp),if_neg (by rw[Bp];simp;omega),Ad3,Akx,Avt h _ k (by omega),Aa]
  by_cases h2:N<a+q+1+k
  ·rw[if_pos h2,if_pos h2];rfl
  ·rw[if_neg h2,if_neg h2]
   simp only
   have z:(GI.toZ (k:Int)).toNat=k:=rfl
   rw[if_neg (by rw[Ak];simp),if_pos (by rw[Af];simp;omega),Cb (by rw[Cs];simp),Aa,z,Aug (by omega),Bye (by omega) (Lm _ _ _) hk,Ag (by omega) (by omega)];rfl
 ·by_cases h2:Ei p a (min 48 (N-a))=48
  ·have hS:rcS p N a k=if N<a+48+32 then(0,0,24)else if Bl p (a+48) 32/2^k<48 then(0,0,12)else(UInt32.ofNat (Bl p (a+48) 32),((a+48+32:Nat):Int),0):=by rw[rcS,if_neg ha,if_neg h1,if_pos h2]
   have hg:=Avt h (a+48) 32 (by omega)
   rw[Brb h1 h2,hS]
   simp only
   rw[if_neg (by rw[Ak];simp),if_pos (by rw[Bp];rfl),Ad3,Akx]
   refine Eq.trans (congrArg (fun o=>Option.bind o _) hg) ?_
   rw[Aa]
   by_cases h3:N<a+48+32
   ·rw[if_pos h3,if_pos h3];rfl
   ·rw[if_neg h3,if_neg h3]
    simp only
    have z:(GI.toZ (k:Int)).toNat=k:=rfl
    have hv:=Bgh p (a+48) (n:=32) (by omega)
    rw[if_neg (by rw[Ak];simp),if_neg (by rw[Af];simp),Ad7,Cb (by rw[Cs];simp),Aa,Aa,z,Aug (by omega),Bvh]
    have e:(decide ((48:UInt32).toNat≤(Bh (UInt32.ofNat (Bl p (a+48) 32)) k).toNat))=decide (¬Bl p (a+48) 32/2^k<48):=by
     rw[Ait,Akp hv];simp
    rw[e]
    by_cases h4:Bl p (a+48) 32/2^k<48
    ·rw[if_pos (by simp[h4]),if_pos h4]
    ·rw[if_neg (by simp;omega),if_neg h4,Ag (by omega) (by omega)];rfl
  ·rw[Bqm h1 h2,rcS,if_neg ha,if_neg h1,if_neg h2];rfl
theorem Azy(k:Nat)(hk:k≤63):∀(j i q:Nat),i+j=k→j<q→Gh (k:Int) q (UInt64.ofNat (2^i)) (i:Int)=some (UInt64.ofNat (2^k))
 |0,i,q+1,hi,_=>by
  rw[Gh,Nr,if_neg (by rw[Af];simp;omega),show i=k by omega];rfl
 |j+1,i,q+1,hi,hq=>by
  have e:Bg (UInt64.ofNat (2^i)) (2:UInt64)=UInt64.ofNat (2^(i+1)):=by
   rw[Abp,Nat.pow_succ,UInt64.ofNat_mul];rfl
  rw[Gh,Nr,if_pos (by rw[Af];simp;omega),Ag (by omega) (by omega),e]
  exact Azy k hk j (i+1) q (by omega) (by omega)
theorem Aa6(k:Nat)(hk:k≤63):Dv (k:Int)=some (UInt64.ofNat (2^k)):=
 Azy k hk k 0 Ap (by omega) (by have:=Am;omega)
theorem Agw{k:Nat}(hk:k≤63):(UInt64.ofNat (2^k)).toNat=2^k:=by
 have hp:2^k≤2^63:=Nat.pow_le_pow_right (by omega) hk
 rw[UInt64.toNat_ofNat',Nat.mod_eq_of_lt (by omega)]
theorem Bwu(v:UInt32)(k:Nat)(hk:k≤24):Xy v (k:Int)=some ((min 48 (v.toNat/2^k):Nat):Int):=by
 have hpos:0<2^k:=Nat.pow_pos (by omega)
 have hv:=v.toNat_lt
 rw[Xy,Aa6 k (by omega),Aa,Cb (by rw[Ad1];simp only[bne_iff_ne,ne_eq,←UInt64.toNat_inj,Agw (show k≤63 by omega)];simp),Aa]
 have e:(Bt (Ad v:UInt64) (UInt64.ofNat (2^k))).toNat=v.toNat/2^k:=by
  rw[At4,UInt64.toNat_div,Fs,Agw (by omega),UInt64.toNat_ofNat',Nat.mod_eq_of_lt (by omega)]
 have hle:v.toNat/2^k≤v.toNat:=Nat.div_le_self _ _
 have e2:Cu (48:UInt64) (Bt (Ad v:UInt64) (UInt64.ofNat (2^k)))=UInt64.ofNat (min 48 (v.toNat/2^k)):=by
  apply UInt64.toNat_inj.1
  rw[UInt64.toNat_ofNat',Nat.mod_eq_of_lt (by omega)]
  show(if _ then _ else _:UInt64).toNat=_
  rw[show(GI.toZ (Bt (Ad v:UInt64) (UInt64.ofNat (2^k))))=((v.toNat/2^k:Nat):Int) by rw[Fv,e],show GI.toZ (48:UInt64)=48 from rfl]
  split
  ·rw[e];omega
  ·show 48=_;omega
 rw[e2,Avc (by rw[UInt64.toNat_ofNat',Nat.mod_eq_of_lt]<;>omega),UInt64.toNat_ofNat',Nat.mod_eq_of_lt (by omega)]
theorem Bsi{p:List UInt8}{N:Nat}(h:okB p N)(a k:Nat)(hk:k≤24):Aac p (N:Int) (a:Int) (k:Int)=some (rcS p N a k):=by
 obtain⟨hN,hl,hz⟩:=h
 have h:okB p N:=⟨hN,hl,hz⟩
 rw[Aac,Adq]
 by_cases ha:N≤a
 ·rw[if_pos (by rw[Cs];simp;omega),rcS,if_pos ha]
 have hle:=Ag3 p (min 48 (N-a)) a
 rw[if_neg (by rw[Cs];simp;omega),Btr h a (by omega),Aa,unR]
 by_cases h1:Ei p a (min 48 (N-a))<min 48 (N-a)
 ·have hS:rcS p N a k=if N<a+Ei p a (min 48 (N-a))+1+k then(0,0,24)else(UInt32.ofNat (Ei p a (min 48 (N-a))*2^k+Bl p (a+Ei p a (min 48 (N-a))+1) k),((a+Ei p a (min 48 (N-a))+1+k:Nat):Int),0):=by rw[rcS,if_neg ha,if_pos h1]
  rw[Brf h1,hS]
  generalize Ei p a (min 48 (N-a))=q at*
  rw[if_pos rfl]
  simp only
  rw[if_neg (by rw[Bp];simp;omega),Rb,Qo,Bi (by omega) (by omega)]
  by_cases h2:N<a+q+1+k
  ·rw[if_pos (by simp[Af];omega),if_pos h2]
  ·have hp:2^k≤2^24:=Nat.pow_le_pow_right (by omega) hk
   have hm:q*2^k≤47*2^24:=Nat.mul_le_mul (by omega) hp
   have hv:=Lm p k (a+q+1)
   have e:(Ad (Ae (Bg (Ad (q:Int):UInt64) (UInt64.ofNat (2^k))) (Pk p (a+q+1) k)):UInt32)=UInt32.ofNat (q*2^k+Bl p (a+q+1) k):=by
    have e1:Ae (Bg (Ad (q:Int):UInt64) (UInt64.ofNat (2^k))) (Pk p (a+q+1) k)=UInt64.ofNat (q*2^k+Bl p (a+q+1) k):=by
     rw[Abi,Abp,Ui,Pk,UInt64.ofNat_add,UInt64.ofNat_mul]
    rw[e1]
    have e2:∀x:UInt64,(Ad x:UInt32)=UInt32.ofNat x.toNat:=fun x=>by simp only[Ad,Fv,Da]
    rw[e2,UInt64.toNat_ofNat',Nat.mod_eq_of_lt (by omega)]
   rw[if_neg (by simp[Af];omega),if_neg h2,As1 p _ _ k (by omega) (by omega),Aa,if_pos (by rw[Af];simp;omega),Aa6 k (by omega),Aa,e,Ag (by omega) (by omega)];rfl
 ·by_cases h2:Ei p a (min 48 (N-a))=48
  ·have hS:rcS p N a k=if N<a+48+32 then(0,0,24)else if Bl p (a+48) 32/2^k<48 then(0,0,12)else(UInt32.ofNat (Bl p (a+48) 32),((a+48+32:Nat):Int),0):=by rw[rcS,if_neg ha,if_neg h1,if_pos h2]
   rw[Brb h1 h2,hS,if_pos rfl]
   simp only
   rw[if_pos (by rw[Bp];rfl),Rb,Qo,Bi (by omega) (by omega)]
   by_cases h3:N<a+48+32
   ·rw[if_pos (by simp[Af];omega),if_pos h3]
   ·have hg:=As1 p (N:Int) (a+48) 32 (by omega) (by omega)
    have hv:=Bgh p (a+48) (n:=32) (by omega)
    rw[if_neg (by simp[Af];omega),if_neg h3]
    refine Eq.trans (congrArg (fun o=>Option.bind o _) hg) ?_
    rw[Aa,if_neg (by rw[Af];simp),Aug (by omega),Bwu _ k hk,Aa,Akp hv]
    by_cases h4:Bl p (a+48) 32/2^k<48
    ·rw[if_pos (by rw[Af];simp;omega),if_pos h4]
    ·rw[if_neg (by rw[Af];simp;omega),if_neg h4,Ag (by omega) (by omega)];rfl
  ·rw[Bqm h1 h2,rcS,if_neg ha,if_neg h1,if_neg h2]
   have e:(if((0:Int),(0:Int),(24:Int)).2.2=0 then(((0:Int),(0:Int),(24:Int)).1,((0:Int),(0:Int),(24:Int)).2.1)else((-1:Int),(0:Int)))=(-1,0):=by decide
   rw[e];rfl
theorem Bxs{p:List UInt8}{N a k:Nat}{v:UInt32}{n:Int}(h:rcS p N a k=(v,n,0)):(a:Int)<n∧n≤N:=by
 unfold rcS at h
 split at h
 ·simp at h
 split at h
 ·split at h
  ·simp at h
  ·simp only[Prod.mk.injEq]at h;omega
 ·split at h
  ·split at h
   ·simp at h
   ·split at h
    ·simp at h
    ·simp only[Prod.mk.injEq]at h;omega
  ·simp at h
end Go.Pl
set_option linter.unusedVariables false
set_option linter.unusedSimpArgs false
namespace Go.Pl
open Go Go.Lv
def okD(k l:Nat)(s t:UInt64):Prop:=k≤24∧l≤24∧s.toNat≤68719476735∧t.toNat≤68719476735
theorem Bi8(a b:UInt64)(h:a.toNat≤b.toNat):Cu a b=a:=by
 show(if _ then _ else _)=_
 rw[Fv,Fv,if_neg (by omega)]
theorem As8(a:UInt64):geq a a=true:=by rw[Ayc];simp
theorem Byc{k l:Nat}{s t:UInt64}(h:okD k l s t):Afa (k:Int) (l:Int) s t=some 0:=by
 obtain⟨h1,h2,h3,h4⟩:=h
 have e1:Cu (Aql (k:Int) 0) 24=(k:Int):=by rw[Ahu,Bjy];omega
 have e2:Cu (Aql (l:Int) 0) 24=(l:Int):=by rw[Ahu,Bjy];omega
 have e3:Cu s (68719476735:UInt64)=s:=Bi8 _ _ (by simpa using h3)
 have e4:Cu t (68719476735:UInt64)=t:=Bi8 _ _ (by simpa using h4)
 have e5:∀a:Int,geq a a=true:=fun a=>by rw[Bp];simp
 rw[Afa,Aaw,Ahz,Aax,Ahx,Arm,e1,e2,e3,e4,e5,e5,As8,As8];rfl
def Wh(s n:UInt64):UInt64:=s+n-s/16
def kS(k:Nat)(s:UInt64):Nat:=if 0<k∧s.toNat<2^(k+4)then k-1 else if k<24∧2^(k+5)<s.toNat then k+1 else k
theorem Bw3{k:Nat}(h:k≤24)(s:UInt64):kS k s≤24:=by
 unfold kS
 by_cases h1:0<k∧s.toNat<2^(k+4)
 ·rw[if_pos h1];omega
 ·rw[if_neg h1];split<;>omega
theorem Bmq{k:Nat}{s:UInt64}(h:¬(0<k∧s.toNat<2^(k+4))):(if k<24∧2^(k+5)<s.toNat then((k+1:Nat):Int)else(k:Int))=((kS k s:Nat):Int):=by
 rw[kS,if_neg h];split<;>rfl
theorem Bl7{s n:UInt64}(h:s.toNat≤68719476735)(hn:n.toNat≤4294967295):(Wh s n).toNat≤68719476735:=by
 have h1:=s.toNat_lt
 have e:(s+n).toNat=s.toNat+n.toNat:=by rw[UInt64.toNat_add];omega
 have e2:(s/16).toNat=s.toNat/16:=by rw[UInt64.toNat_div];rfl
 rw[Wh,UInt64.toNat_sub_of_le _ _ (by rw[UInt64.le_iff_toNat_le,e,e2];omega),e,e2];omega
theorem Azz(s n:UInt64):Ae s (Ah n (Bh s (GI.toZ (4:UInt64)).toNat))=Wh s n:=by
 have e:Bh s (GI.toZ (4:UInt64)).toNat=s/16:=by
  apply UInt64.toNat_inj.1
  rw[Ab4,UInt64.toNat_div];rfl
 rw[e,Abi,Bbm,Wh,UInt64.sub_eq_add_neg,UInt64.sub_eq_add_neg,UInt64.add_assoc]
theorem Blu(s n:UInt64):Ah (Ae s n) (Bt s (16:UInt64))=Wh s n:=by rw[Abi,Bbm,At4,Wh]
theorem Bze{k:Nat}(h:k≤24):(Cj (16:UInt64) k).toNat=2^(k+4):=by
 have hp:2^k≤2^24:=Nat.pow_le_pow_right (by omega) h
 rw[Ajr,Nat.pow_add]
 show 16*2^k %_=2^k*16
 rw[Nat.mod_eq_of_lt (by omega),Nat.mul_comm]
theorem Bx0{k:Nat}(h:k≤24):(Cj (32:UInt64) k).toNat=2^(k+5):=by
 have hp:2^k≤2^24:=Nat.pow_le_pow_right (by omega) h
 rw[Ajr,Nat.pow_add]
 show 32*2^k %_=2^k*32
 rw[Nat.mod_eq_of_lt (by omega),Nat.mul_comm]
theorem Bxj{k:Nat}{s:UInt64}(h:0<k)(h2:s.toNat<2^(k+4)):kS k s=k-1:=by rw[kS,if_pos ⟨h,h2⟩]
theorem Bxg{k:Nat}{s:UInt64}(h:¬(0<k∧s.toNat<2^(k+4)))(h2:k<24)(h3:2^(k+5)<s.toNat):kS k s=k+1:=by rw[kS,if_neg h,if_pos ⟨h2,h3⟩]
theorem Blj{k:Nat}{s:UInt64}(h:¬(0<k∧s.toNat<2^(k+4)))(h2:¬(k<24∧2^(k+5)<s.toNat)):kS k s=k:=by rw[kS,if_neg h,if_neg h2]
theorem Bxa{α:Type}(k:Nat)(hk:k≤24)(s:UInt64)(f:Int→Option α):
  (if(Ev (k:Int) (0:Int))=true then(
   Option.bind (Gf (Ih (k:Int) (0:Int))) fun _=>
   if(Bq s (Cj (16:UInt64) (GI.toZ (k:Int)).toNat))=true then f (Ah (k:Int) (1:Int))
   else(if(Bq (k:Int) (24:Int))=true then(
    Option.bind (Gf (Ih (k:Int) (0:Int))) fun _=>
    if(Ev s (Cj (32:UInt64) (GI.toZ (k:Int)).toNat))=true then f (Ae (k:Int) (1:Int))else f (k:Int))
    else f (k:Int)))
  else(if(Bq (k:Int) (24:Int))=true then(
    Option.bind (Gf (Ih (k:Int) (0:Int))) fun _=>
    if(Ev s (Cj (32:UInt64) (GI.toZ (k:Int)).toNat))=true then f (Ae (k:Int) (1:Int))else f (k:Int))
    else f (k:Int)))=f ((kS k s:Nat):Int):=by
 have z:(GI.toZ (k:Int)).toNat=k:=rfl
 rw[z,Cb (by rw[Cs];simp)]
 simp only[Aa]
 rw[Ax0,Ahi,Bze hk,Bx0 hk]
 by_cases h0:0<k
 ·rw[if_pos (by rw[Ar];simp;omega)]
  by_cases h1:s.toNat<2^(k+4)
  ·rw[if_pos (by simp[h1]),Bxj h0 h1,Bi (by omega) (by omega)];congr 1;omega
  ·rw[if_neg (by simp;omega)]
   by_cases h2:k<24
   ·rw[if_pos (by rw[Af];simp;omega)]
    by_cases h3:2^(k+5)<s.toNat
    ·rw[if_pos (by simp[h3]),Bxg (fun h=>h1 h.2) h2 h3,Ag (by omega) (by omega)];rfl
    ·rw[if_neg (by simp;omega),Blj (fun h=>h1 h.2) (fun h=>h3 h.2)]
   ·rw[if_neg (by rw[Af];simp;omega),Blj (fun h=>h1 h.2) (fun h=>h2 h.1)]
 ·rw[if_neg (by rw[Ar];simp;omega)]
  by_cases h2:k<24
  ·rw[if_pos (by rw[Af];simp;omega)]
   by_cases h3:2^(k+5)<s.toNat
   ·rw[if_pos (by simp[h3]),Bxg (fun h=>h0 h.1) h2 h3,Ag (by omega) (by omega)];rfl
   ·rw[if_neg (by simp;omega),Blj (fun h=>h0 h.1) (fun h=>h3 h.2)]
  ·rw[if_neg (by rw[Af];simp;omega),Blj (fun h=>h0 h.1) (fun h=>h2 h.1)]
theorem Bl1(k:Nat)(hk:k≤24)(s n:UInt64):Ny (k:Int) s n=some (((kS k (Wh s n):Nat):Int),Wh s n):=by
 have g1:Ae (k:Int) 4=((k+4:Nat):Int):=by rw[Ag (by omega) (by omega)];omega
 have g2:Ae (k:Int) 5=((k+5:Nat):Int):=by rw[Ag (by omega) (by omega)];omega
 have hp:Pd (k:Int) s n=some (if k<24∧2^(k+5)<(Wh s n).toNat then((k+1:Nat):Int)else(k:Int),Wh s n):=by
  rw[Pd,Abz,g2,Aa6 _ (by omega),Aa,Blu,Ahi,Agw (by omega)]
  by_cases h2:k<24
  ·rw[if_pos (by rw[Af];simp;omega)]
   by_cases h3:2^(k+5)<(Wh s n).toNat
   ·rw[if_pos (by simp[h3]),if_pos ⟨h2,h3⟩,Ag (by omega) (by omega)];rfl
   ·rw[if_neg (by simp;omega),if_neg (fun h=>h3 h.2)]
  ·rw[if_neg (by rw[Af];simp;omega),if_neg (fun h=>h2 h.1)]
 rw[Ny,Ab2,g1,Aa6 _ (by omega),Aa,Blu,Ax0,Agw (by omega),hp]
 by_cases h0:0<k
 ·rw[if_pos (by rw[Ar];simp;omega)]
  by_cases h1:(Wh s n).toNat<2^(k+4)
  ·rw[if_pos (by simp[h1]),Bxj h0 h1,Bi (by omega) (by omega)];congr 2;omega
  ·rw[if_neg (by simp;omega),Bmq (fun h=>h1 h.2)]
 ·rw[if_neg (by rw[Ar];simp;omega),Bmq (fun h=>h0 h.1)]
def n64(v:UInt32):UInt64:=UInt64.ofNat v.toNat
theorem Bti(v:UInt32):(n64 v).toNat≤4294967295:=by have:=v.toNat_lt;rw[n64,UInt64.toNat_ofNat',Nat.mod_eq_of_lt (by omega)];omega
def Awd(k:Nat)(v:UInt32):UInt32:=UInt32.ofNat (v.toNat-2^k)
def lK(l:Nat)(t:UInt64)(k:Nat)(v:UInt32):Nat:=if v.toNat<2^k then l else kS l (Wh t (n64 (Awd k v)))
def lT(t:UInt64)(k:Nat)(v:UInt32):UInt64:=if v.toNat<2^k then t else Wh t (n64 (Awd k v))
theorem Bts{k l:Nat}{s t:UInt64}(h:okD k l s t)(v:UInt32):okD (kS k (Wh s (n64 v))) (lK l t k v) (Wh s (n64 v)) (lT t k v):=by
 obtain⟨h1,h2,h3,h4⟩:=h
 refine⟨Bw3 h1 _,?_,Bl7 h3 (Bti v),?_⟩
 ·unfold lK;split; · exact h2
  exact Bw3 h2 _
 ·unfold lT;split; · exact h4
  exact Bl7 h4 (Bti _)
theorem Byk(k l:Nat)(s t:UInt64)(hk:k≤24)(v:UInt32):Zr (k:Int) (l:Int) s t v=some (decide (v.toNat<2^k)):=by
 have:=v.toNat_lt
 rw[Zr,Aa6 k (by omega),Aa,Ax0,Agw (by omega),Fs,UInt64.toNat_ofNat',Nat.mod_eq_of_lt (by omega)]
theorem left_eq(k l:Nat)(s t:UInt64)(hk:k≤24)(v:UInt32)(h:¬v.toNat<2^k):Ya (k:Int) (l:Int) s t v=some (Awd k v):=by
 have:=v.toNat_lt
 have e2:∀x:UInt64,(Ad x:UInt32)=UInt32.ofNat x.toNat:=fun x=>by simp only[Ad,Fv,Da]
 have e3:(UInt64.ofNat v.toNat).toNat=v.toNat:=by rw[UInt64.toNat_ofNat',Nat.mod_eq_of_lt (by omega)]
 rw[Ya,Aa6 k (by omega),Aa,e2,Bbm,Fs,UInt64.toNat_sub_of_le _ _ (by rw[UInt64.le_iff_toNat_le,Agw (by omega),e3];omega),Agw (by omega),e3,Awd]
theorem Bpf{k l:Nat}{s t:UInt64}(h:okD k l s t)(v:UInt32):Qz (k:Int) (l:Int) s t v=some (((kS k (Wh s (n64 v)):Nat):Int),((lK l t k v:Nat):Int),Wh s (n64 v),lT t k v):=by
 obtain⟨h1,h2,h3,h4⟩:=h
 have hp:∀(r1:Int) (r2:UInt64),Mh v (k:Int) (l:Int) s t r1 r2=some (((kS k (Wh s (n64 v)):Nat):Int),r1,Wh s (n64 v),r2):=by
  intro r1 r2
  rw[Mh,Vq,Fs,Bl1 k h1,Aa];rfl
 rw[Qz,Vm,Byk k l s t h1,Aa]
 by_cases hv:v.toNat<2^k
 ·rw[if_neg (by simp[hv]),hp,lK,if_pos hv,lT,if_pos hv]
 ·rw[if_pos (by simp;omega),left_eq k l s t h1 v hv,Aa,Fs,Bl1 l h2,Aa]
  simp only
  rw[hp,lK,if_neg hv,lT,if_neg hv];rfl
theorem Bsm(k l:Nat)(s t:UInt64)(hk:k≤24)(v:UInt32):Zl (k:Int) (l:Int) s t v=some (if v.toNat<2^k then(0,v)else(1,Awd k v)):=by
 have hp:2^k≤2^24:=Nat.pow_le_pow_right (by omega) hk
 have hpos:0<2^k:=Nat.pow_pos (by omega)
 have hl:=v.toNat_lt
 have z:(GI.toZ (k:Int)).toNat=k:=rfl
 have e1:geq (Bh v k) (0:UInt32)=decide (v.toNat<2^k):=by
  rw[Bee,Bool.eq_iff_iff]
  simp only[beq_iff_eq,←UInt32.toNat_inj,Ait,decide_eq_true_eq]
  show _/_=0↔_
  rw[Nat.div_eq_zero_iff];omega
 have e2:¬v.toNat<2^k→Ah v (Cj (1:UInt32) k)=Awd k v:=by
  intro h
  have e3:(Cj (1:UInt32) k).toNat=2^k:=by rw[Bbz];show 1*2^k %_=_;rw[Nat.mod_eq_of_lt (by omega),Nat.one_mul]
  apply UInt32.toNat_inj.1
  rw[Bh6,UInt32.toNat_sub_of_le _ _ (by rw[UInt32.le_iff_toNat_le,e3];omega),e3,Awd,Akp (by omega)]
 rw[Zl,Cb (by rw[Cs];simp),Aa,Aa,z,e1]
 by_cases h:v.toNat<2^k
 ·rw[if_pos (by simp[h]),if_pos h]
 ·rw[if_neg (by simp;omega),if_neg h,e2 h]
abbrev Rd:=UInt32×Int×Int×Int×UInt64×UInt64×Int
theorem Azl{k l:Nat}{s t:UInt64}(h:okD k l s t)(v:UInt32)(r:Int):Ady (k:Int) (l:Int) s t v r=some (v,r,((kS k (Wh s (n64 v)):Nat):Int),((lK l t k v:Nat):Int),Wh s (n64 v),lT t k v,0):=by
 obtain⟨h1,h2,h3,h4⟩:=h
 have hp:∀(x:Int) (y:UInt64),Xf v r (k:Int) s x y=some (v,r,((kS k (Wh s (n64 v)):Nat):Int),x,Wh s (n64 v),y,0):=by
  intro x y
  rw[Xf,Aj7,Fs,Azz,Bxa k h1]
  rw[Alj,Akg,Ah4,Aqx,Fs,Azz];rfl
 rw[Ady,Ak2,Bsm k l s t h1,Aa]
 by_cases hv:v.toNat<2^k
 ·rw[if_pos hv]
  simp only
  rw[if_neg (by rw[Bp];simp),hp,lK,if_pos hv,lT,if_pos hv]
 ·rw[if_neg hv]
  simp only
  rw[if_pos (by rw[Bp];rfl),Fs,Azz,Bxa l h2 _ (fun x=>Xf v r (k:Int) s x (Wh t (UInt64.ofNat (Awd k v).toNat))),hp,lK,if_neg hv,lT,if_neg hv];rfl
def dgS(p:List UInt8)(N a k l:Nat):UInt32×Int×Int:=
 if N≤a then(0,0,24)else
 if Hg p a=0 then(if N<a+1+k then(0,0,24)else(UInt32.ofNat (Bl p (a+1) k),((a+1+k:Nat):Int),0))else
 if(rcS p N (a+1) l).2.2≠0 then(0,0,(rcS p N (a+1) l).2.2)else
 if 4294967295<(rcS p N (a+1) l).1.toNat+2^k then(0,0,12)else(UInt32.ofNat ((rcS p N (a+1) l).1.toNat+2^k),(rcS p N (a+1) l).2.1,0)
theorem Bxv{p:List UInt8}{N a k l:Nat}(h:(dgS p N a k l).2.2=0):(a:Int)<(dgS p N a k l).2.1∧(dgS p N a k l).2.1≤N:=by
 revert h
 unfold dgS
 split
 ·simp
 split
 ·split
  ·simp
  ·simp only;omega
 ·split
  ·intro h;contradiction
  ·rename_i h1
   split
   ·simp
   ·intro _
    have:=Bxs (p:=p) (N:=N) (a:=a+1) (k:=l) (v:=(rcS p N (a+1) l).1) (n:=(rcS p N (a+1) l).2.1) (by
     have e:(rcS p N (a+1) l).2.2=0:=by simpa using h1
     rw[←e])
    simp only;omega
theorem Bvv{p:List UInt8}{N:Nat}(h:okB p N)(a:Nat){k l:Nat}{s t:UInt64}(hd:okD k l s t):Zu p (N:Int) (a:Int) (k:Int) (l:Int) s t=
  some (if(dgS p N a k l).2.2≠0 then(0,0,0,0,0,0,(dgS p N a k l).2.2)else((dgS p N a k l).1,(dgS p N a k l).2.1,((kS k (Wh s (n64 (dgS p N a k l).1)):Nat):Int),((lK l t k (dgS p N a k l).1:Nat):Int),Wh s (n64 (dgS p N a k l).1),lT t k (dgS p N a k l).1,0)):=by
 obtain⟨h1,h2,h3,h4⟩:=hd
 have hd:okD k l s t:=⟨h1,h2,h3,h4⟩
 have hN:=h.1
 have hg:=Avt h a 1 (by omega)
 have hb:=Rp p a
 rw[Zu,Ako,Aeb h,Aa,if_neg (by rw[Ak];simp),Byc hd,Aa,if_neg (by rw[Ak];simp),Akv,Akq]
 refine Eq.trans (congrArg (fun o=>Option.bind o _) hg) ?_
 rw[Aa]
 by_cases ha:N≤a
 ·have hS:dgS p N a k l=(0,0,24):=by rw[dgS,if_pos ha]
  rw[if_pos (by omega),hS];rfl
 rw[if_neg (by omega)]
 simp only
 have e0:geq (Pk p a 1) (0:UInt64)=decide (Hg p a=0):=by
  rw[Ayc,Bool.eq_iff_iff]
  simp only[beq_iff_eq,←UInt64.toNat_inj,decide_eq_true_eq,Xn p a 1 (by omega),Bif];rfl
 have e1:Ae (a:Int) 1=((a+1:Nat):Int):=by rw[Ag (by omega) (by omega)];omega
 rw[if_neg (by rw[Ak];simp),e0,e1]
 by_cases hz:Hg p a=0
 ·rw[if_pos (by simp[hz]),Avt h (a+1) k (by omega),Aa]
  by_cases h5:N<a+1+k
  ·have hS:dgS p N a k l=(0,0,24):=by rw[dgS,if_neg ha,if_pos hz,if_pos h5]
   rw[if_pos h5,hS];rfl
  ·have hS:dgS p N a k l=(UInt32.ofNat (Bl p (a+1) k),((a+1+k:Nat):Int),0):=by rw[dgS,if_neg ha,if_pos hz,if_neg h5]
   rw[if_neg h5,hS]
   simp only
   rw[if_neg (by rw[Ak];simp),Azl hd,Aug (by omega),Ag (by omega) (by omega)];rfl
 ·rw[if_neg (by simp[hz]),Bwx h (a+1) l h2,Aa]
  have hp:2^k≤2^24:=Nat.pow_le_pow_right (by omega) h1
  by_cases h5:(rcS p N (a+1) l).2.2≠0
  ·have hS:dgS p N a k l=(0,0,(rcS p N (a+1) l).2.2):=by rw[dgS,if_neg ha,if_neg hz,if_pos h5]
   rw[hS]
   generalize rcS p N (a+1) l=R at*
   obtain⟨v,n,e⟩:=R
   simp only at*
   rw[if_pos (by rw[Ak];simpa using h5),if_pos h5]
  ·have hv:=(rcS p N (a+1) l).1.toNat_lt
   have z:(GI.toZ (k:Int)).toNat=k:=rfl
   have e3:(Cj (1:UInt32) k).toNat=2^k:=by rw[Bbz];show 1*2^k %_=_;rw[Nat.mod_eq_of_lt (by omega),Nat.one_mul]
   by_cases h6:4294967295<(rcS p N (a+1) l).1.toNat+2^k
   ·have hS:dgS p N a k l=(0,0,12):=by rw[dgS,if_neg ha,if_neg hz,if_neg h5,if_pos h6]
    rw[hS]
    generalize rcS p N (a+1) l=R at*
    obtain⟨v,n,e⟩:=R
    simp only at*
    rw[if_neg (by rw[Ak];simpa using h5),Cb (by rw[Cs];simp),Aa,z,if_pos (by rw[Blo,Azx,UInt32.toNat_add,e3];simp;omega),if_pos (by decide)]
   ·have hS:dgS p N a k l=(UInt32.ofNat ((rcS p N (a+1) l).1.toNat+2^k),(rcS p N (a+1) l).2.1,0):=by rw[dgS,if_neg ha,if_neg hz,if_neg h5,if_neg h6]
    rw[hS]
    generalize rcS p N (a+1) l=R at*
    obtain⟨v,n,e⟩:=R
    simp only at*
    have e4:Ae v (Cj (1:UInt32) k)=UInt32.ofNat (v.toNat+2^k):=by
     apply UInt32.toNat_inj.1
     rw[Azx,UInt32.toNat_add,e3,Akp (by omega),Nat.mod_eq_of_lt (by omega)]
    rw[if_neg (by rw[Ak];simpa using h5),Cb (by rw[Cs];simp),Aa,z,if_neg (by rw[Blo,Azx,UInt32.toNat_add,e3];simp;omega),e4,Azl hd];rfl
theorem Bs1{p:List UInt8}{N:Nat}(h:okB p N)(a:Nat)(k l:Nat)(s t:UInt64)(h1:k≤24)(h2:l≤24):Zy p (N:Int) (a:Int) (k:Int) (l:Int) s t=some (dgS p N a k l):=by
 have hN:=h.1
 have hl:=h.2.1
 have hb:=Rp p a
 rw[Zy]
 by_cases ha:N≤a
 ·rw[if_pos (by rw[Cs];simp;omega),dgS,if_pos ha]
 rw[if_neg (by rw[Cs];simp;omega),Av0 p _ a (by omega) (by omega),Aa,Bi (a:=(N:Int)) (b:=(a:Int)) (by omega) (by omega),Bi (by omega) (by omega)]
 have e1:Ae (a:Int) 1=((a+1:Nat):Int):=by rw[Ag (by omega) (by omega)];omega
 rw[e1]
 by_cases hz:Hg p a=0
 ·rw[if_pos (by rw[Bp];simp[hz])]
  by_cases h5:N<a+1+k
  ·rw[if_pos (by rw[Af];simp;omega),dgS,if_neg ha,if_pos hz,if_pos h5]
  ·rw[if_neg (by rw[Af];simp;omega),As1 p _ (a+1) k (by omega) (by omega),Aa,dgS,if_neg ha,if_pos hz,if_neg h5,Aug (by omega),Ag (by omega) (by omega)];rfl
 ·rw[if_neg (by rw[Bp];simp;omega),Bsi h (a+1) l h2,Aa]
  have hp:2^k≤2^24:=Nat.pow_le_pow_right (by omega) h1
  have hv:=(rcS p N (a+1) l).1.toNat_lt
  have e2:∀x:UInt64,(Ad x:UInt32)=UInt32.ofNat x.toNat:=fun x=>by simp only[Ad,Fv,Da]
  by_cases h5:(rcS p N (a+1) l).2.2≠0
  ·have hS:dgS p N a k l=(0,0,(rcS p N (a+1) l).2.2):=by rw[dgS,if_neg ha,if_neg hz,if_pos h5]
   rw[hS]
   generalize rcS p N (a+1) l=R at*
   obtain⟨v,n,e⟩:=R
   simp only at*
   rw[if_pos (by rw[Ak];simpa using h5)]
  ·have hsum:∀v:UInt32,(Ae (Ad v:UInt64) (UInt64.ofNat (2^k))).toNat=v.toNat+2^k:=by
    intro v
    have:=v.toNat_lt
    have:=Nat.pow_pos (n:=k) (show 0<2 by omega)
    rw[Abi,UInt64.toNat_add,Fs,Agw (by omega),UInt64.toNat_ofNat'];omega
   by_cases h6:4294967295<(rcS p N (a+1) l).1.toNat+2^k
   ·have hS:dgS p N a k l=(0,0,12):=by rw[dgS,if_neg ha,if_neg hz,if_neg h5,if_pos h6]
    rw[hS]
    generalize rcS p N (a+1) l=R at*
    obtain⟨v,n,e⟩:=R
    simp only at*
    rw[if_neg (by rw[Ak];simpa using h5),Aa6 k (by omega),Aa,if_pos (by rw[Ahi,hsum];simpa using h6)]
   ·have hS:dgS p N a k l=(UInt32.ofNat ((rcS p N (a+1) l).1.toNat+2^k),(rcS p N (a+1) l).2.1,0):=by rw[dgS,if_neg ha,if_neg hz,if_neg h5,if_neg h6]
    rw[hS]
    generalize rcS p N (a+1) l=R at*
    obtain⟨v,n,e⟩:=R
    simp only at*
    rw[if_neg (by rw[Ak];simpa using h5),Aa6 k (by omega),Aa,if_neg (by rw[Ahi,hsum];simpa using h6),e2,hsum]
end Go.Pl
set_option linter.unusedVariables false
set_option linter.unusedSimpArgs false
namespace Go.Pl
open Go Go.Lv
abbrev DuN:=Nat×Nat×UInt64×UInt64
def okN(d:DuN):Prop:=okD d.1 d.2.1 d.2.2.1 d.2.2.2
def nxt(d:DuN)(v:UInt32):DuN:=(kS d.1 (Wh d.2.2.1 (n64 v)),lK d.2.1 d.2.2.2 d.1 v,Wh d.2.2.1 (n64 v),lT d.2.2.2 d.1 v)
def Bfo:DuN:=(10,10,16384,16384)
theorem Br7:okN Bfo:=⟨by decide,by decide,by decide,by decide⟩
theorem Byv{d:DuN}(h:okN d)(v:UInt32):okN (nxt d v):=Bts h v
abbrev DuL:=Int×Int×UInt64×UInt64×Unit
def toI(d:DuN):DuL:=((d.1:Int),(d.2.1:Int),d.2.2.1,d.2.2.2,())
def chP(ch:Nat)(v:List UInt32)(c:Nat):Nat→DuN
 |0=>Bfo
 |m+1=>if m %ch=c then nxt (chP ch v c m) (v.getD m 0)else chP ch v c m
theorem Avr(ch:Nat)(v:List UInt32)(c:Nat):∀m,okN (chP ch v c m)
 |0=>Br7
 |m+1=>by rw[chP];split;exact Byv (Avr ch v c m) _;exact Avr ch v c m
theorem Blt(ch:Nat)(v w:List UInt32)(c:Nat):∀m,m≤v.length→chP ch (v++w) c m=chP ch v c m
 |0,_=>rfl
 |m+1,h=>by
  have e:(v++w).getD m 0=v.getD m 0:=by simp[List.getD_eq_getElem?_getD,List.getElem?_append_left (show m<v.length by omega)]
  rw[chP,chP,Blt ch v w c m (by omega),e]
theorem Bf0(ch:Nat)(v:List UInt32)(c:Nat):∀m,m≤c→c<ch→chP ch v c m=Bfo
 |0,_,_=>rfl
 |m+1,h,h2=>by rw[chP,if_neg (by rw[Nat.mod_eq_of_lt (by omega)];omega),Bf0 ch v c m (by omega) h2]
theorem Bhu(ch:Nat)(v:List UInt32)(c i:Nat)(hi:i %ch=c)(hc:c<ch):∀j,j<ch→chP ch v c (i+1+j)=chP ch v c (i+1)
 |0,_=>rfl
 |j+1,h=>by
  have hne:(i+1+j) %ch≠c:=by
   intro e
   have h1:(i+(1+j)) %ch=i %ch:=by rw[hi,←e];congr 1;omega
   have h2:(1+j) %ch=0:=by
    have h3:=Nat.sub_mod_eq_zero_of_mod_eq h1
    rwa [Nat.add_sub_cancel_left]at h3
   rw[Nat.mod_eq_of_lt (by omega)]at h2;omega
  rw[show i+1+(j+1)=(i+1+j)+1 by omega,chP,if_neg hne,Bhu ch v c i hi hc j (by omega)]
theorem Bqw(ch:Nat)(v:List UInt32)(c i:Nat)(hi:i %ch=c)(hc:c<ch):chP ch v c (i+ch)=nxt (chP ch v c i) (v.getD i 0):=by
 have h:=Bhu ch v c i hi hc (ch-1) (by omega)
 rw[show i+1+(ch-1)=i+ch by omega]at h
 rw[h,chP,if_pos hi]
theorem Ay7{l:List UInt32}{k:Nat}(h:k<l.length):getI l (k:Int)=some (l.getD k 0):=by
 rw[Ch h];simp[List.getD_eq_getElem?_getD,h]
theorem Baz(a b:Nat):En (a:Int) (b:Int)=((a %b:Nat):Int):=by rw[En,Int.tmod_eq_emod_of_nonneg (by omega)];omega
theorem Awu(ch:Nat)(v:List UInt32)(hch:1≤ch)(hch6:ch≤6)(hv:v.length≤4000):∀(j i q:Nat),i %ch=v.length %ch→i≤v.length→v.length-i≤j→j<q→
  Hz (ch:Int) v q (i:Int) ((chP ch v (v.length %ch) i).1:Int) ((chP ch v (v.length %ch) i).2.1:Int) (chP ch v (v.length %ch) i).2.2.1 (chP ch v (v.length %ch) i).2.2.2=
   some (((chP ch v (v.length %ch) v.length).1:Int),((chP ch v (v.length %ch) v.length).2.1:Int),(chP ch v (v.length %ch) v.length).2.2.1,(chP ch v (v.length %ch) v.length).2.2.2)
 |j,i,q+1,hi,hl,hj,hq=>by
  have hc:v.length %ch<ch:=Nat.mod_lt _ (by omega)
  rw[Hz,Wm]
  by_cases h:i<v.length
  ·have h1:=Bpf (Avr ch v (v.length %ch) i) (v.getD i 0)
   rw[if_pos (by rw[Af,Ac];simp;omega),Ay7 h,Aa,h1,Aa]
   have hle:i+ch≤v.length:=by
    have h2:=Nat.div_add_mod i ch
    have h3:=Nat.div_add_mod v.length ch
    rw[hi]at h2
    have h4:ch*(i/ch)<ch*(v.length/ch):=by omega
    have h5:=Nat.lt_of_mul_lt_mul_left h4
    have h6:ch*(i/ch+1)≤ch*(v.length/ch):=Nat.mul_le_mul_left _ h5
    rw[Nat.mul_add]at h6;omega
   have ih:=Awu ch v hch hch6 hv (j-ch) (i+ch) q (by rw[Nat.add_mod_right];exact hi) hle (by omega) (by omega)
   rw[Bqw ch v _ i hi hc]at ih
   simp only
   rw[Ag (by omega) (by omega)]
   exact ih
  ·rw[if_neg (by rw[Af,Ac];simp;omega),show i=v.length by omega];rfl
theorem Bph(ch:Nat)(v:List UInt32)(hch:1≤ch)(hch6:ch≤6)(hv:v.length≤4000):Kr (ch:Int) v=some (((chP ch v (v.length %ch) v.length).1:Int),((chP ch v (v.length %ch) v.length).2.1:Int),(chP ch v (v.length %ch) v.length).2.2.1,(chP ch v (v.length %ch) v.length).2.2.2):=by
 have hc:v.length %ch<ch:=Nat.mod_lt _ (by omega)
 have hle:v.length %ch≤v.length:=Nat.mod_le _ _
 have h:=Awu ch v hch hch6 hv v.length (v.length %ch) Ap (by rw[Nat.mod_mod]) hle (by omega) (by have:=Am;omega)
 rw[Bf0 ch v _ _ (Nat.le_refl _) hc]at h
 rw[Kr,Xs,It,Aa]
 simp only
 rw[Cb (by rw[Ak];simp;omega),Aa,Ac,Baz]
 exact h
def now(ch:Nat)(v:List UInt32):DuN:=chP ch v (v.length %ch) v.length
def win(N a:Nat):Nat:=min 81 (N-a)
def Ic(ch:Nat)(p:List UInt8)(N a:Nat)(out:List UInt32):UInt32×Int×Int:=dgS (Zk p a (win N a)) (win N a) 0 (now ch out).1 (now ch out).2.1
def Vh(ch:Nat)(p:List UInt8)(N:Nat):Nat→Nat→List UInt32→List UInt32×Nat×Int
 |0,a,out=>(out,a,0)
 |j+1,a,out=>if(Ic ch p N a out).2.2≠0 then(out,a,(Ic ch p N a out).2.2)else Vh ch p N j (a+(Ic ch p N a out).2.1.toNat) (out++[(Ic ch p N a out).1])
theorem Ap7{ch:Nat}{p:List UInt8}{N a:Nat}{out:List UInt32}(h:(Ic ch p N a out).2.2=0):0<(Ic ch p N a out).2.1∧(Ic ch p N a out).2.1≤win N a:=by
 have:=Bxv h
 exact⟨this.1,this.2⟩
theorem Bcq{ch:Nat}{p:List UInt8}{N a:Nat}{out:List UInt32}(h:(Ic ch p N a out).2.2=0):((a:Int)+(Ic ch p N a out).2.1)=((a+(Ic ch p N a out).2.1.toNat:Nat):Int):=by
 have:=Ap7 h;omega
def sts(ch:Nat)(v:List UInt32):List DuL:=(List.range 6).map fun c=>toI (chP ch v c v.length)
theorem Bl4{ch:Nat}{v:List UInt32}{c:Nat}(h:c<6):getI (sts ch v) (c:Int)=some (toI (chP ch v c v.length)):=by
 rw[Ch (by simp[sts];exact h)];simp[sts]
theorem Bvm{ch:Nat}{v:List UInt32}{c:Nat}(x:UInt32)(h:c<6)(hc:c=v.length %ch):Hl (sts ch v) (c:Int) (toI (nxt (chP ch v c v.length) x))=some (sts ch (v++[x])):=by
 rw[Qt _ (by simp[sts];exact h)]
 congr 1
 apply List.ext_getElem (by simp[sts])
 intro i h1 h2
 rw[List.getElem_set]
 simp only[sts,List.getElem_map,List.getElem_range]
 have e:(v++[x]).getD v.length 0=x:=by simp
 rw[List.length_append,List.length_singleton,chP,e,Blt ch v [x] i v.length (Nat.le_refl _)]
 by_cases hi:c=i
 ·subst hi;rw[if_pos rfl,if_pos hc.symm]
 ·rw[if_neg hi,if_neg (by omega)]
section
variable {p:List UInt8} {N ch n:Nat}
theorem Bgz(hp:okB p N)(h1:1≤ch)(h6:ch≤6)(hn:n*ch≤4000):∀(j a q:Nat) (out:List UInt32),out.length+j=n*ch→j<q→a≤N→
  Il (ch:Int) (n:Int) p (N:Int) q (a:Int) (out.length:Int) (sts ch out) out=
   some (if(Vh ch p N j a out).2.2≠0 then([],0,(Vh ch p N j a out).2.2)else((Vh ch p N j a out).1,((Vh ch p N j a out).2.1:Int),0))
 |j,a,q+1,out,hj,hq,ha=>by
  have hN:=hp.1
  have hnn:n≤n*ch:=Nat.le_mul_of_pos_right n (by omega)
  have em:Bg (n:Int) (ch:Int)=((n*ch:Nat):Int):=by rw[Hp (by rw[←Int.natCast_mul];omega) (by rw[←Int.natCast_mul];omega),Int.natCast_mul]
  rw[Il,Md,em]
  cases j with
  |zero=>
   rw[if_neg (by rw[Af];simp;omega)];rfl
  |succ j=>
   have hc:out.length %ch<6:=Nat.lt_of_lt_of_le (Nat.mod_lt _ (by omega)) h6
   have ew:Cu (Ae (a:Int) 81) (N:Int)=((a+win N a:Nat):Int):=by rw[Ahu,Ag (by omega) (by omega)];unfold win;omega
   have hw:a+win N a≤N:=by unfold win;omega
   have hw2:win N a≤81:=by unfold win;omega
   have hd:=Bvv (Bma p a (win N a) (by omega)) 0 (Avr ch out (out.length %ch) out.length)
   have ecode:dgS (Zk p a (win N a)) (win N a) 0 (chP ch out (out.length %ch) out.length).1 (chP ch out (out.length %ch) out.length).2.1=Ic ch p N a out:=rfl
   rw[if_pos (by rw[Af];simp;omega),ew,Byy hp a _ hw (by omega),Aa]
   simp only
   rw[if_neg (by rw[Ak];simp),Cb (by rw[Ak];simp;omega),Aa,Baz,Bl4 hc,Aa,Aa]
   refine Eq.trans (congrArg (fun o=>Option.bind o _) hd) ?_
   rw[Aa,ecode,Vh]
   by_cases he:(Ic ch p N a out).2.2≠0
   ·rw[if_pos he,if_pos he]
    simp only
    rw[Lz,Mg,if_pos (by rw[Ak];simpa using he),if_pos he]
   ·have he0:(Ic ch p N a out).2.2=0:=by simpa using he
    have hok:=Ap7 he0
    have hset:=Bvm (ch:=ch) (v:=out) (Ic ch p N a out).1 hc rfl
    rw[if_neg he,if_neg he]
    simp only
    rw[Lz,Mg,if_neg (by rw[Ak];simp),Cb (by rw[Ak];simp;omega),Aa,Baz,Bl4 hc,Aa]
    refine Eq.trans (congrArg (fun o=>Option.bind o _) hset) ?_
    rw[Aa,Tn,Af5,Fc (by simp;omega),Aa,Ag (by omega) (by omega),Ag (by omega) (by omega),Bcq he0]
    have ih:=Bgz hp h1 h6 hn j (a+(Ic ch p N a out).2.1.toNat) q (out++[(Ic ch p N a out).1]) (by simp;omega) (by omega) (by omega)
    rw[List.length_append,List.length_singleton]at ih
    exact ih
theorem Bmh{p:List UInt8}(hN:N=8*p.length)(hN2:N≤330000)(h1:1≤ch)(h6:ch≤6)(hn:n*ch≤4000):∀(j a q:Nat) (out:List UInt32),out.length+j=n*ch→j<q→a≤N→
  Df (ch:Int) (n:Int) p q (a:Int) (out.length:Int) out=
   if(Vh ch p N j a out).2.2≠0 then some ((Vh ch p N j a out).1,(Vh ch p N j a out).2.2)else Nq ((Vh ch p N j a out).2.1:Int) p (Vh ch p N j a out).1
 |j,a,q+1,out,hj,hq,ha=>by
  have hnn:n≤n*ch:=Nat.le_mul_of_pos_right n (by omega)
  have em:Bg (n:Int) (ch:Int)=((n*ch:Nat):Int):=by rw[Hp (by rw[←Int.natCast_mul];omega) (by rw[←Int.natCast_mul];omega),Int.natCast_mul]
  have e8:Bg (8:Int) (Ac p)=(N:Int):=by rw[Ac,Hp (by omega) (by omega)];omega
  rw[Df,Zf,em]
  cases j with
  |zero=>
   rw[if_neg (by rw[Af];simp;omega)];rfl
  |succ j=>
   have ew:Cu (Ae (a:Int) 81) (N:Int)=((a+win N a:Nat):Int):=by rw[Ahu,Ag (by omega) (by omega)];unfold win;omega
   have hw:a+win N a≤N:=by unfold win;omega
   have hw2:win N a≤81:=by unfold win;omega
   have hpre:(Option.bind It fun(r_4,r_5,r_6,r_7)=>
     if(Ih (out.length:Int) (ch:Int))=true then(
     Option.bind (Kr (ch:Int) out) fun(r_8,r_9,r_10,r_11)=>
     Fy (Df (ch:Int) (n:Int) p q) (ch:Int) (n:Int) p (a:Int) (out.length:Int) out r_8 r_9 r_10 r_11)
     else Fy (Df (ch:Int) (n:Int) p q) (ch:Int) (n:Int) p (a:Int) (out.length:Int) out r_4 r_5 r_6 r_7)=
     Fy (Df (ch:Int) (n:Int) p q) (ch:Int) (n:Int) p (a:Int) (out.length:Int) out ((now ch out).1:Int) ((now ch out).2.1:Int) (now ch out).2.2.1 (now ch out).2.2.2:=by
    rw[It,Aa]
    by_cases hc:ch≤out.length
    ·simp only
     rw[if_pos (by rw[Cs];simp;omega),Bph ch out h1 h6 (by omega),Aa];rfl
    ·have e:now ch out=Bfo:=by rw[now,Nat.mod_eq_of_lt (by omega),Bf0 ch out _ _ (Nat.le_refl _) (by omega)]
     simp only
     rw[if_neg (by rw[Cs];simp;omega),e];rfl
   have hd:=Bs1 (Bma p a (win N a) (by omega)) 0 (now ch out).1 (now ch out).2.1 (now ch out).2.2.1 (now ch out).2.2.2 (Avr ch out _ _).1 (Avr ch out _ _).2.1
   have ecode:dgS (Zk p a (win N a)) (win N a) 0 (now ch out).1 (now ch out).2.1=Ic ch p N a out:=rfl
   rw[if_pos (by rw[Af];simp;omega),hpre,Fy,Yl,e8,ew,Bgk p (N:Int) a _ (by omega) (by omega) (by omega),Aa]
   simp only
   refine Eq.trans (congrArg (fun o=>Option.bind o _) hd) ?_
   rw[Aa,ecode,Vh]
   by_cases he:(Ic ch p N a out).2.2≠0
   ·rw[if_pos he,if_pos (by rw[Ak];simpa using he),if_pos he]
   ·have he0:(Ic ch p N a out).2.2=0:=by simpa using he
    have hok:=Ap7 he0
    have ih:=Bmh hN hN2 h1 h6 hn j (a+(Ic ch p N a out).2.1.toNat) q (out++[(Ic ch p N a out).1]) (by simp;omega) (by omega) (by omega)
    have hx:=Bcq he0
    rw[List.length_append,List.length_singleton]at ih
    rw[if_neg he]
    generalize Ic ch p N a out=R at*
    obtain⟨v,nx,e⟩:=R
    simp only at*
    rw[if_neg (by rw[Ak];simpa using he),Fc (by simp;omega),Aa,Ag (by omega) (by omega),Ag (by omega) (by omega),hx]
    exact ih
end
theorem Bez{ch:Nat}{p:List UInt8}{N:Nat}:∀(j a:Nat) (out:List UInt32),a≤N→(Vh ch p N j a out).2.1≤N∧(Vh ch p N j a out).1.length≤out.length+j∧((Vh ch p N j a out).2.2=0→(Vh ch p N j a out).1.length=out.length+j)
 |0,a,out,h=>⟨h,Nat.le_refl _,fun _=>rfl⟩
 |j+1,a,out,h=>by
  rw[Vh]
  split
  ·rename_i he
   exact⟨h,by simp,fun e=>absurd e he⟩
  ·rename_i he
   have hok:=Ap7 (ch:=ch) (p:=p) (N:=N) (a:=a) (out:=out) (by simpa using he)
   have hw:a+win N a≤N:=by unfold win;omega
   have ih:=Bez (ch:=ch) (p:=p) (N:=N) j (a+(Ic ch p N a out).2.1.toNat) (out++[(Ic ch p N a out).1]) (by omega)
   rw[List.length_append,List.length_singleton]at ih
   exact⟨ih.1,by omega,fun e=>by have:=ih.2.2 e;omega⟩
theorem Bim(ch n:Int)(b:List UInt8)(N:Int):Lr ch n b N 0 (List.replicate 6 ((0:Int),(0:Int),(0:UInt64),(0:UInt64),()))=Te ch n b N (List.replicate 6 ((10:Int),(10:Int),(16384:UInt64),(16384:UInt64),())):=by
 have e:Ap=(Ap-7)+1+1+1+1+1+1+1:=by have:=Am;omega
 rw[Lr,e]
 rfl
theorem values_eq{p:List UInt8}{N ch n:Nat}(hp:okB p N)(h1:1≤ch)(h6:ch≤6)(hn:n*ch≤4000):Vy (ch:Int) (n:Int) p (N:Int)=
  some (if(Vh ch p N (n*ch) 0 []).2.2≠0 then([],0,(Vh ch p N (n*ch) 0 []).2.2)else((Vh ch p N (n*ch) 0 []).1,((Vh ch p N (n*ch) 0 []).2.1:Int),0)):=by
 have h:=Bgz hp h1 h6 hn (n*ch) 0 Ap [] (by simp) (by have:=Am;omega) (by omega)
 rw[Vy,Xu,Bim]
 exact h
theorem Bdz(p:List UInt8)(x:List UInt32)(N:Nat)(hN:N=8*p.length)(hN2:N≤330000):∀(j a q:Nat),a+j=N→j<q→Fz p x q (a:Int)=some (x,if Bl p a j=0 then 0 else 12)
 |0,a,q+1,ha,_=>by
  have e8:Bg (8:Int) (Ac p)=(N:Int):=by rw[Ac,Hp (by omega) (by omega)];omega
  rw[Fz,Nf,e8,if_neg (by rw[Af];simp;omega),Bl,if_pos rfl];rfl
 |j+1,a,q+1,ha,hq=>by
  have e8:Bg (8:Int) (Ac p)=(N:Int):=by rw[Ac,Hp (by omega) (by omega)];omega
  have hb:=Rp p a
  rw[Fz,Nf,e8,if_pos (by rw[Af];simp;omega),Av0 p _ a (by omega) (by omega),Aa,Bl]
  by_cases h:Hg p a=0
  ·rw[if_neg (by rw[Ak];simp[h]),Ag (by omega) (by omega),h]
   have ih:=Bdz p x N hN hN2 j (a+1) q (by omega) (by omega)
   rw[show((a:Int)+1)=((a+1:Nat):Int) by omega,ih]
   congr 2
   by_cases hv:Bl p (a+1) j=0
   ·rw[if_pos hv,if_pos (by omega)]
   ·rw[if_neg hv,if_neg (by omega)]
  ·rw[if_pos (by rw[Ak];simp;omega),if_neg (by omega)]
theorem Bv2{p:List UInt8}{N ch n:Nat}(hN:N=8*p.length)(hN2:N≤330000)(h1:1≤ch)(h6:ch≤6)(hn:n*ch≤4000):Xl (ch:Int) (n:Int) p=
  some (if(Vh ch p N (n*ch) 0 []).2.2≠0 then((Vh ch p N (n*ch) 0 []).1,(Vh ch p N (n*ch) 0 []).2.2)else
   ((Vh ch p N (n*ch) 0 []).1,if 7<N-(Vh ch p N (n*ch) 0 []).2.1∨Bl p (Vh ch p N (n*ch) 0 []).2.1 (N-(Vh ch p N (n*ch) 0 []).2.1)≠0 then 12 else 0)):=by
 have h:=Bmh hN hN2 h1 h6 hn (n*ch) 0 Ap [] (by simp) (by have:=Am;omega) (by omega)
 have hat:=(Bez (ch:=ch) (p:=p) (N:=N) (n*ch) 0 [] (by omega)).1
 have e8:Bg (8:Int) (Ac p)=(N:Int):=by rw[Ac,Hp (by omega) (by omega)];omega
 rw[Xl,Aa7]
 refine Eq.trans h ?_
 generalize Vh ch p N (n*ch) 0 []=V at*
 obtain⟨v,a,e⟩:=V
 simp only at*
 by_cases he:e≠0
 ·rw[if_pos he,if_pos he]
 ·rw[if_neg he,if_neg he,Nq,Zg,e8,Bi (by omega) (by omega)]
  by_cases h7:7<N-a
  ·rw[if_pos (by rw[Ar];simp;omega),if_pos (.inl h7)]
  ·rw[if_neg (by rw[Ar];simp;omega),Zd,Bdz p v N hN hN2 (N-a) a Ap (by omega) (by have:=Am;omega)]
   by_cases hv:Bl p a (N-a)=0
   ·rw[if_pos hv,if_neg (by omega)]
   ·rw[if_neg hv,if_pos (.inr hv)]
end Go.Pl
set_option linter.unusedVariables false
set_option linter.unusedSimpArgs false
namespace Go.Pl
open Go Go.Lv
theorem Bek(n:Int):(GI.ofZ n:Int32)=Int32.ofInt n:=rfl
theorem Ahc(a:Int32):GI.toZ a=a.toInt:=rfl
theorem Ajo(a b:Int32):Ae a b=a+b:=by
 rw[Ae,Ahc,Ahc,Bek,Int32.ofInt_add,Int32.ofInt_toInt,Int32.ofInt_toInt]
theorem Azi(a b:Int32):Ah a b=a-b:=by
 rw[Ah,Ahc,Ahc,Bek,Int32.ofInt_sub,Int32.ofInt_toInt,Int32.ofInt_toInt]
theorem Blm(a b:Int32):geq a b=(a==b):=by
 rw[geq,Ahc,Ahc,Bool.eq_iff_iff];simp[Int32.toInt_inj]
def sel(p:Nat→Bool)(a b:List Int32):List Int32:=(List.range a.length).map fun k=>if p k=true then a.getD k 0 else b.getD k 0
section
variable {p q:Nat→Bool} {a b:List Int32}
theorem Akf:(sel p a b).length=a.length:=by simp[sel]
theorem Ja{k:Nat}(h:k<a.length):a.getD k 0=a[k]:=by simp[List.getD_eq_getElem?_getD,h]
theorem Up{k:Nat}(h:k<(sel p a b).length):(sel p a b)[k]=if p k=true then a.getD k 0 else b.getD k 0:=by simp[sel]
theorem Agt{k:Nat}(h:k<a.length):getI (sel p a b) (k:Int)=some (if p k=true then a.getD k 0 else b.getD k 0):=by
 rw[Ch (by rw[Akf];exact h),Up]
theorem Ug(h:∀k,k<a.length→p k=q k):sel p a b=sel q a b:=by
 apply List.map_congr_left
 intro k hk
 rw[h k (List.mem_range.1 hk)]
theorem Atd{k:Nat}(h:k<a.length):Hl (sel p a b) (k:Int) (a.getD k 0)=some (sel (fun j=>p j||decide (j=k)) a b):=by
 rw[Qt _ (by rw[Akf];exact h)]
 congr 1
 apply List.ext_getElem (by simp[Akf])
 intro i h1 h2
 rw[List.getElem_set,Up,Up]
 by_cases hi:k=i
 ·subst hi;simp
 ·have:¬i=k:=fun e=>hi e.symm
  simp[hi,this]
theorem Aua(h:∀k,k<a.length→p k=true):sel p a b=a:=by
 apply List.ext_getElem (by simp[Akf])
 intro i h1 h2
 rw[Up,if_pos (h i h2),Ja h2]
theorem At2(hl:b.length=a.length)(h:∀k,k<a.length→p k=false):sel p a b=b:=by
 apply List.ext_getElem (by simp[Akf,hl])
 intro i h1 h2
 rw[Up,h i (by omega)]
 simp[List.getD_eq_getElem?_getD,h2]
end
end Go.Pl
set_option linter.unusedVariables false
set_option linter.unusedSimpArgs false
namespace Go.Pl
open Go Go.Lv
theorem Ay8(a b:Int32):Bg a b=a*b:=by
 rw[Bg,Ahc,Ahc,Bek,Int32.ofInt_mul,Int32.ofInt_toInt,Int32.ofInt_toInt]
theorem Xh(a:Int32): -2147483648≤a.toInt∧a.toInt<2147483648:=⟨a.le_toInt,a.toInt_lt⟩
theorem Dn(a:Int32):(Ad a:Int)=a.toInt:=by
 have:=Xh a
 show wrap64 a.toInt=_
 rw[Bm]<;>omega
theorem Aee(n:Int):(Ad n:Int32)=Int32.ofInt n:=rfl
theorem Bpr(x:Int):Int32.ofInt (x %4294967296)=Int32.ofInt x:=by
 apply Int32.toInt_inj.1
 rw[Int32.toInt_ofInt,Int32.toInt_ofInt]
 exact Int.emod_bmod x 4294967296
theorem Ax6(x:Int):Bn x=some (Int32.ofInt x):=by
 have e1:(Ad x:UInt64).toNat=(x %18446744073709551616).toNat:=by
  rw[Bhh,UInt64.toNat_ofNat',Nat.mod_eq_of_lt (by omega)]
 have e2:(Ad (Ad x:UInt64):UInt32).toNat=(x %4294967296).toNat:=by
  have e:(Ad (Ad x:UInt64):UInt32)=UInt32.ofNat (Ad x:UInt64).toNat:=by simp only[Ad,Fv,Da]
  rw[e,UInt32.toNat_ofNat',e1]
  show(x %18446744073709551616).toNat %4294967296=_
  omega
 have e3:(Ad (Ad (Ad x:UInt64):UInt32):Int32)=Int32.ofInt ((Ad (Ad x:UInt64):UInt32).toNat:Int):=rfl
 rw[Bn,e3,e2,←Bpr x]
 congr 2;omega
theorem Aus(a b:Int32):Bn (Ae (Ad a:Int) (Ad b:Int))=some (a+b):=by
 have:=Xh a
 have:=Xh b
 rw[Dn,Dn,Ag (by omega) (by omega),Ax6,Int32.ofInt_add,Int32.ofInt_toInt,Int32.ofInt_toInt]
theorem Brm(a b:Int32):Bn (Bg (Ad a:Int) (Ad b:Int))=some (a*b):=by
 have ha:=Xh a
 have hb:=Xh b
 have h1: -9223372036854775808≤a.toInt*b.toInt∧a.toInt*b.toInt≤9223372036854775807:=by
  have h2:(a.toInt*b.toInt).natAbs≤2147483648*2147483648:=by
   rw[Int.natAbs_mul];exact Nat.mul_le_mul (by omega) (by omega)
  omega
 rw[Dn,Dn,Hp h1.1 h1.2,Ax6,Int32.ofInt_mul,Int32.ofInt_toInt,Int32.ofInt_toInt]
def OkF(s:Int)(t p:List Int32):Prop:=(s=9∨s=10)∧t.length=16∧p.length=16
theorem Au9{s:Int}{t p:List Int32}(h:OkF s t p):Zt s t p=some 0:=by
 obtain⟨rfl|rfl,_,_⟩:=h<;>rfl
theorem g32{l:List Int32}{k:Nat}(h:k<l.length):getI l (k:Int)=some (l.getD k 0):=by
 rw[Ch h];simp[List.getD_eq_getElem?_getD,h]
def Ank(t p:List Int32):Nat→Int32
 |0=>0
 |i+1=>Ank t p i+t.getD i 0*p.getD i 0
def half(s:Int):Int32:=if s=9 then 256 else 512
def gF(s:Int)(t p:List Int32):Int32:=Int32.ofInt ((half s+Ank t p 16).toInt.fdiv (if s=9 then 512 else 1024))
theorem Bc2{s:Int}{t p:List Int32}(h:OkF s t p):∀(j i q:Nat),i+j=16→j<q→Mt t s p q (half s+Ank t p i) (i:Int)=some (gF s t p,0)
 |0,i,q+1,hi,_=>by
  obtain rfl:i=16:=by omega
  have hs:=h.1
  rw[Mt,Aas,if_neg (by rw[Af];simp),Ah6,Aq4,Cb (by rw[Cs];simp;omega),Aa]
  obtain rfl|rfl:=hs<;>rfl
 |j+1,i,q+1,hi,hq=>by
  obtain⟨hs,ht,hp⟩:=h
  rw[Mt,Aas,if_pos (by rw[Af];simp;omega),g32 (by omega),Aa,g32 (by omega),Aa,Aa,Ag (b:=1) (by omega) (by omega),Ajo,Ay8,Int32.add_assoc]
  exact Bc2 ⟨hs,ht,hp⟩ j (i+1) q (by omega) (by omega)
theorem Bse{s:Int}{t p:List Int32}(h:OkF s t p):Aer s t p=some (gF s t p,0):=by
 have hs:=h.1
 have h1:=Bc2 h 16 0 Ap (by omega) (by have:=Am;omega)
 have e:Cj (1:Int32) (GI.toZ (Ah s (1:Int))).toNat=half s+Ank t p 0:=by
  obtain rfl|rfl:=hs<;>rfl
 rw[Aer,Ahq,Au9 h,Aa,if_neg (by rw[Ak];simp),Cb (by rw[Cs,Bi (by omega) (by omega)];simp;omega),Aa,Ahs,e]
 exact h1
theorem Bar{s:Int}{t p:List Int32}(ht:t.length=16)(hp:p.length=16){g:Int32}(hg:Ank t p 16=g):∀(j i q:Nat),i+j=16→j<q→Hv s t p q (Ank t p i).toInt (i:Int)=some g
 |0,i,q+1,hi,_=>by
  obtain rfl:i=16:=by omega
  rw[Hv,Qp,if_neg (by rw[Af];simp),Adf,Adi,Aee,Int32.ofInt_toInt,hg]
 |j+1,i,q+1,hi,hq=>by
  have ih:=Bar (s:=s) ht hp hg j (i+1) q (by omega) (by omega)
  rw[Ank]at ih
  rw[Hv,Qp,if_pos (by rw[Af];simp;omega),g32 (by omega),g32 (by omega),Aa,Aa,Aa,Aa,Brm,Aa,←Dn (Ank t p i),Aus,Aa,Dn,Ag (by omega) (by omega)]
  exact ih
theorem Bte{s:Int}{t p:List Int32}(h:OkF s t p):Ai2 s t p=some (Ank t p 16):=
 Bar h.2.1 h.2.2 rfl 16 0 Ap (by omega) (by have:=Am;omega)
theorem Bou(x n:Int)(hn:n=512∨n=1024∨n=16∨n=32):(if x.tmod n<0 then x.tdiv n-1 else x.tdiv n)=x.fdiv n:=by
 have hs:n.sign=1:=by obtain rfl|rfl|rfl|rfl:=hn<;>rfl
 rw[Int.tdiv_eq_ediv,Int.tmod_eq_emod,hs,Int.fdiv_eq_ediv_of_nonneg _ (by omega)]
 by_cases h:0≤x∨n∣x
 ·rw[if_pos h,if_pos h]
  obtain rfl|rfl|rfl|rfl:=hn<;>(rw[if_neg (by omega)];omega)
 ·rw[if_neg h,if_neg h]
  obtain rfl|rfl|rfl|rfl:=hn<;>(rw[if_pos (by omega)];omega)
theorem Azg(x n:Int)(hn:n=512∨n=1024∨n=16∨n=32)(h: -1000000000000≤x)(h':x≤1000000000000): -1000000000000≤x.tdiv n∧x.tdiv n≤1000000000000:=by
 have hs:n.sign=1:=by obtain rfl|rfl|rfl|rfl:=hn<;>rfl
 rw[Int.tdiv_eq_ediv,hs]
 by_cases h:0≤x∨n∣x
 ·rw[if_pos h];obtain rfl|rfl|rfl|rfl:=hn<;>omega
 ·rw[if_neg h];obtain rfl|rfl|rfl|rfl:=hn<;>omega
theorem Bz3(x n:Int)(hn:n=512∨n=1024∨n=16∨n=32)(h: -1000000000000≤x)(h':x≤1000000000000):Bt x n=x.tdiv n:=by
 have:=Azg x n hn h h'
 rw[Afb,Bm (by omega) (by omega)]
theorem Bhi(x n:Int)(hn:n=512∨n=1024∨n=16∨n=32)(h: -1000000000000≤x)(h':x≤1000000000000):
  (if(Bq (En x n) (0:Int))=true then some (Ad (Ah (Bt x n) (1:Int)):Int32)else some (Ad (Bt x n):Int32))=some (Int32.ofInt (x.fdiv n)):=by
 have hb:=Azg x n hn h h'
 rw[Af,En,Bz3 x n hn h h',Bi (by omega) (by omega),Aee,Aee,←Bou x n hn]
 by_cases hx:x.tmod n<0
 ·rw[if_pos (by simpa using hx),if_pos hx]
 ·rw[if_neg (by simpa using hx),if_neg hx]
theorem Bwv{s:Int}{t p:List Int32}(h:OkF s t p):Wo s t p=some (gF s t p):=by
 obtain⟨hs,ht,hp⟩:=h
 have h:OkF s t p:=⟨hs,ht,hp⟩
 have hx:=Xh (Ank t p 16+half s)
 have key:∀n:Int,(n=512∨n=1024)→(half s).toInt=n/2→gF s t p=Int32.ofInt ((half s+Ank t p 16).toInt.fdiv n)→Ps s t p n=some (gF s t p):=by
  intro n hn hh hg
  have e2:Bt n (2:Int)=(half s).toInt:=by rw[hh];obtain rfl|rfl:=hn<;>rfl
  rw[Ps,Ab1,Bte h,Aa,e2,←Dn (half s),Aus,Aa,Cb (by rw[Ak];simp;omega),Aa,Aa,Dn,Bhi _ n (by omega) (by omega) (by omega),hg,Int32.add_comm]
 rw[Wo,Abx]
 obtain rfl|rfl:=hs
 ·rw[if_pos (by rw[Bp];rfl)];exact key 512 (.inl rfl) rfl rfl
 ·rw[if_neg (by rw[Bp];decide)];exact key 1024 (.inr rfl) rfl rfl
def stp(i:Nat):Int32:=if i=0 then 4 else if i<4 then 2 else 1
def sg(x:Int32):Int32:=if x.toInt<0 then -1 else if 0<x.toInt then 1 else 0
def lrn(t p:List Int32)(w:Int32):List Int32:=(List.range 16).map fun i=>t.getD i 0+stp i*sg (p.getD i 0)*sg w
theorem Aau(t p:List Int32)(w:Int32):(lrn t p w).length=16:=by simp[lrn]
theorem Bfr(t p:List Int32)(w:Int32){i:Nat}(h:i<16):(lrn t p w).getD i 0=t.getD i 0+stp i*sg (p.getD i 0)*sg w:=by
 rw[Ja (by rw[Aau];exact h)];simp[lrn]
theorem step_eq(i:Nat):Ai8 (i:Int)=some (stp i):=by
 rw[Ai8,stp]
 by_cases h:i=0
 ·rw[if_pos (by rw[Bp];simp[h]),if_pos h]
 ·rw[if_neg (by rw[Bp];simp;omega),if_neg h]
  by_cases h2:i<4
  ·rw[if_pos (by rw[Af];simp;omega),if_pos h2]
  ·rw[if_neg (by rw[Af];simp;omega),if_neg h2]
theorem Bn6(i:Nat):Xa (i:Int)=some (stp i):=by
 rw[Xa,stp]
 by_cases h:i=0
 ·rw[if_pos (by rw[Bp];simp[h]),if_pos h]
 ·rw[if_neg (by rw[Bp];simp;omega),if_neg h]
  by_cases h2:i<4
  ·rw[if_pos (by rw[Bdv];simp;omega),if_pos h2]
  ·rw[if_neg (by rw[Bdv];simp;omega),if_neg h2]
theorem Bfl(a b:Int32):Bq a b=decide (a.toInt<b.toInt):=rfl
theorem Bkh(a b:Int32):Ev a b=decide (b.toInt<a.toInt):=rfl
theorem sign_eq(x:Int32):Of x=some (sg x):=by
 rw[Of,sg,Bfl,Bkh,show(0:Int32).toInt=0 from rfl]
 by_cases h:x.toInt<0
 ·rw[if_pos (by simpa using h),if_pos h]
 ·rw[if_neg (by simpa using h),if_neg h]
  by_cases h2:0<x.toInt
  ·rw[if_pos (by simpa using h2),if_pos h2]
  ·rw[if_neg (by simpa using h2),if_neg h2]
theorem Bmr:sg 0=0:=rfl
theorem toInt_ne{x:Int32}(h:x≠0):x.toInt≠0:=fun e=>h (Int32.toInt_inj.1 (by rw[e];rfl))
theorem Bf3{x:Int32}(h:x.toInt<0):sg x= -1:=by rw[sg,if_pos h]
theorem Bej{x:Int32}(h:x≠0)(h2:¬x.toInt<0):sg x=1:=by
 have:=toInt_ne h
 rw[sg,if_neg h2,if_pos (by omega)]
theorem Ap0(i:Nat):stp i=4∨stp i=2∨stp i=1:=by
 unfold stp
 by_cases h:i=0
 ·rw[if_pos h];exact .inl rfl
 ·rw[if_neg h];split;exact .inr (.inl rfl);exact .inr (.inr rfl)
theorem Bpw{x w:Int32}(hx:x≠0)(hw:w≠0)(h:(x.toInt<0)=(w.toInt<0))(i:Nat):stp i*sg x*sg w=stp i:=by
 by_cases h1:x.toInt<0
 ·rw[Bf3 h1,Bf3 (by rw[←h];exact h1)]
  obtain e|e|e:=Ap0 i<;>rw[e]<;>decide
 ·rw[Bej hx h1,Bej hw (by rw[←h];exact h1)]
  obtain e|e|e:=Ap0 i<;>rw[e]<;>decide
theorem Bk9{x w:Int32}(hx:x≠0)(hw:w≠0)(h:¬(x.toInt<0)=(w.toInt<0))(i:Nat)(a:Int32):a+stp i*sg x*sg w=a-stp i:=by
 have key:stp i*sg x*sg w=-stp i:=by
  by_cases h1:x.toInt<0
  ·have h2:¬w.toInt<0:=fun h2=>h (propext ⟨fun _=>h2,fun _=>h1⟩)
   rw[Bf3 h1,Bej hw h2]
   obtain e|e|e:=Ap0 i<;>rw[e]<;>decide
  ·have h2:w.toInt<0:=Decidable.by_contra fun h2=>h (propext ⟨fun h3=>absurd h3 h1,fun h3=>absurd h3 h2⟩)
   rw[Bej hx h1,Bf3 h2]
   obtain e|e|e:=Ap0 i<;>rw[e]<;>decide
 rw[key,Int32.sub_eq_add_neg]
def Aud(i:Nat):Nat→Bool:=fun j=>decide (j<i)
theorem Ayf{a b:List Int32}{i:Nat}(h:i<a.length):Hl (sel (Aud i) a b) (i:Int) (a.getD i 0)=some (sel (Aud (i+1)) a b):=by
 rw[Atd h]
 congr 1
 apply Ug
 intro k _
 rw[Bool.eq_iff_iff]
 simp only[Aud,Bool.or_eq_true,decide_eq_true_eq];omega
theorem Bov{a b:List Int32}{i:Nat}(e:a.getD i 0=b.getD i 0):sel (Aud i) a b=sel (Aud (i+1)) a b:=by
 apply List.map_congr_left
 intro k _
 simp only[Aud,decide_eq_true_eq]
 by_cases h1:k<i
 ·rw[if_pos h1,if_pos (by omega)]
 ·by_cases h2:k=i
  ·subst h2;rw[if_neg h1,if_pos (by omega),e]
  ·rw[if_neg h1,if_neg (by omega)]
theorem Bg4{a b:List Int32}{i:Nat}(h:i<a.length):getI (sel (Aud i) a b) (i:Int)=some (b.getD i 0):=by
 rw[Agt h,if_neg (by simp[Aud])]
theorem Bd4{s:Int}{t p:List Int32}{w:Int32}(hw:w≠0)(ht:t.length=16)(hp:p.length=16):∀(j i q:Nat),i+j=16→j<q→Mw w p s q (i:Int) (sel (Aud i) (lrn t p w) t)=some (s,lrn t p w,p,0)
 |0,i,q+1,hi,_=>by
  obtain rfl:i=16:=by omega
  rw[Mw,Aap,if_neg (by rw[Af];simp),Aua (fun k hk=>by rw[Aau]at hk;simpa [Aud]using hk)];rfl
 |j+1,i,q+1,hi,hq=>by
  have hl:=Aau t p w
  have hg:=Bfr t p w (i:=i) (by omega)
  rw[Mw,Aap,if_pos (by rw[Af];simp;omega),g32 (by omega),Aa,Ag (b:=1) (by omega) (by omega),Bg4 (by omega),step_eq]
  simp only[Aa]
  rw[Ajo,Azi,Blm,Bfl,Bfl,show(0:Int32).toInt=0 from rfl]
  have ih:=Bd4 (s:=s) hw ht hp j (i+1) q (by omega) (by omega)
  by_cases hx:p.getD i 0=0
  ·rw[if_pos (by rw[hx];rfl),Bov (by rw[hg,hx,Bmr,Int32.mul_zero,Int32.zero_mul,Int32.add_zero])]
   exact ih
  ·rw[if_neg (by simpa using hx)]
   by_cases hs:((p.getD i 0).toInt<0)=(w.toInt<0)
   ·rw[if_pos (by rw[beq_iff_eq];simp only[hs]),show t.getD i 0+stp i=(lrn t p w).getD i 0 by rw[hg,Bpw hx hw hs],Ayf (by omega),Aa]
    exact ih
   ·rw[if_neg (by rw[beq_iff_eq,decide_eq_decide];exact fun h=>hs (propext h)),show t.getD i 0-stp i=(lrn t p w).getD i 0 by rw[hg,Bk9 hx hw hs],Ayf (by omega),Aa]
    exact ih
theorem Bqf{t:List Int32}(p:List Int32)(ht:t.length=16):lrn t p 0=t:=by
 apply List.ext_getElem (by rw[Aau,ht])
 intro i h1 h2
 have:=Bfr t p 0 (i:=i) (by omega)
 rw[Ja h1,Ja h2]at this
 rw[this,Bmr,Int32.mul_zero,Int32.add_zero]
theorem Btq{s:Int}{t p:List Int32}(h:OkF s t p)(w:Int32):Akm s t p w=some (s,lrn t p w,p,0):=by
 rw[Akm,Aii,Au9 h,Aa,if_neg (by rw[Ak];simp),Blm]
 by_cases hw:w=0
 ·rw[if_pos (by simpa using hw),hw,Bqf p h.2.1]
 ·have h1:=Bd4 (s:=s) hw h.2.1 h.2.2 16 0 Ap (by omega) (by have:=Am;omega)
  rw[At2 (by rw[Aau,h.2.1]) (fun k _=>by simp[Aud])]at h1
  rw[if_neg (by simpa using hw)]
  exact h1
theorem As9{s:Int}{t p:List Int32}{w:Int32}(ht:t.length=16)(hp:p.length=16):∀(j i q:Nat),i+j=16→j<q→Ew w s p q (i:Int) (sel (Aud i) (lrn t p w) t)=some (s,lrn t p w,p)
 |0,i,q+1,hi,_=>by
  obtain rfl:i=16:=by omega
  rw[Ew,Kz,if_neg (by rw[Af];simp),Aua (fun k hk=>by rw[Aau]at hk;simpa [Aud]using hk)];rfl
 |j+1,i,q+1,hi,hq=>by
  have hl:=Aau t p w
  have hg:=Bfr t p w (i:=i) (by omega)
  rw[Ew,Kz,if_pos (by rw[Af];simp;omega),g32 (l:=p) (by omega),Ag (b:=1) (by omega) (by omega),Bg4 (by omega),Bn6,sign_eq w,Aa,Aa,Aa,Aa,Aa,sign_eq,Aa,Aa,Aa,Ajo,Ay8,Ay8,←hg,Ayf (by omega),Aa]
  exact As9 ht hp j (i+1) q (by omega) (by omega)
theorem Ble{s:Int}{t p:List Int32}(h:OkF s t p)(w:Int32):Aa5 s t p w=some (s,lrn t p w,p):=by
 have h1:=As9 (s:=s) (w:=w) h.2.1 h.2.2 16 0 Ap (by omega) (by have:=Am;omega)
 rw[At2 (by rw[Aau,h.2.1]) (fun k _=>by simp[Aud])]at h1
 exact h1
theorem Bup{p:List Int32}(h:p.length=16):∃a0 a1 a2 a3 a4 a5 a6 a7 a8 a9 b0 b1 b2 b3 b4 b5,p=[a0,a1,a2,a3,a4,a5,a6,a7,a8,a9,b0,b1,b2,b3,b4,b5]:=by
 match p,h with
 |[a0,a1,a2,a3,a4,a5,a6,a7,a8,a9,b0,b1,b2,b3,b4,b5],_=>exact⟨a0,a1,a2,a3,a4,a5,a6,a7,a8,a9,b0,b1,b2,b3,b4,b5,rfl⟩
theorem Bwg{s:Int}{t p:List Int32}(h:OkF s t p)(x:Int32):Apz s t p x=some (s,t,x::p.take 15,0):=by
 obtain⟨hs,ht,hp⟩:=h
 rw[Apz,Adu,Au9 ⟨hs,ht,hp⟩,Aa,if_neg (by rw[Ak];simp),show vwI (16:Int) 1 16=some ()from rfl,Aa,show vwI (16:Int) 0 16=some ()from rfl,Aa,Akk,Atg]
 obtain⟨a0,a1,a2,a3,a4,a5,a6,a7,a8,a9,b0,b1,b2,b3,b4,b5,rfl⟩:=Bup hp
 rfl
def shf(p:List Int32)(i:Nat):List Int32:=(List.range 16).map fun k=>if k≤i then p.getD k 0 else p.getD (k-1) 0
theorem Sg(p:List Int32)(i:Nat):(shf p i).length=16:=by simp[shf]
theorem Bu3(p:List Int32)(i k:Nat)(h:k<16):(shf p i).getD k 0=if k≤i then p.getD k 0 else p.getD (k-1) 0:=by
 rw[Ja (by rw[Sg];exact h)];simp[shf]
theorem Bw2(p:List Int32)(i:Nat)(h:i+1<16):Hl (shf p (i+1)) ((i+1:Nat):Int) (p.getD i 0)=some (shf p i):=by
 rw[Qt _ (by rw[Sg];exact h)]
 congr 1
 apply List.ext_getElem (by simp[Sg])
 intro k h1 h2
 rw[Sg]at h2
 rw[List.getElem_set]
 simp only[shf,List.getElem_map,List.getElem_range]
 by_cases hk:i+1=k
 ·subst hk;rw[if_pos rfl,if_neg (by omega)];rfl
 ·rw[if_neg hk]
  by_cases h3:k≤i
  ·rw[if_pos (by omega),if_pos h3]
  ·rw[if_neg (by omega),if_neg h3]
theorem Aw1(s:Int)(t p:List Int32)(x:Int32)(hp:p.length=16):∀(i q:Nat),i<16→i<q→Fe x s t q (i:Int) (shf p i)=some (s,t,x::p.take 15)
 |0,q+1,_,_=>by
  have hg:getI (shf p 0) (0:Int)=some ((shf p 0).getD 0 0):=g32 (l:=shf p 0) (k:=0) (by rw[Sg];omega)
  have hset:Hl (shf p 0) (0:Int) x=some ((shf p 0).set 0 x):=Qt (l:=shf p 0) (n:=0) x (by rw[Sg];omega)
  rw[Fe,Mc,if_neg (by rw[Ar];simp),Xi,Vp,hg,Aa,hset,Aa]
  congr 3
  apply List.ext_getElem (by simp[Sg,hp])
  intro k h1 h2
  rw[List.length_set,Sg]at h1
  rw[List.getElem_set]
  cases k with
  |zero=>rw[if_pos rfl];rfl
  |succ k=>
   rw[if_neg (by omega)]
   simp only[shf,List.getElem_map,List.getElem_range,List.getElem_cons_succ,List.getElem_take]
   rw[if_neg (by omega),Nat.add_sub_cancel,Ja (by omega)]
 |i+1,q+1,hi,hq=>by
  have hg:=g32 (l:=shf p (i+1)) (k:=i) (by rw[Sg];omega)
  rw[Bu3 p (i+1) i (by omega),if_pos (by omega)]at hg
  have e1:Ah ((i+1:Nat):Int) (1:Int)=(i:Int):=by rw[Bi (by omega) (by omega)];omega
  have hg2:=g32 (l:=shf p (i+1)) (k:=i+1) (by rw[Sg];omega)
  rw[Fe,Mc,if_pos (by rw[Ar];simp),e1,hg,Aa,Aa,hg2,Aa,Bw2 p i hi,Aa]
  exact Aw1 s t p x hp i q (by omega) (by omega)
theorem Bo0{s:Int}{t p:List Int32}(hp:p.length=16)(x:Int32):Ade s t p x=some (s,t,x::p.take 15):=by
 have h:=Aw1 s t p x hp 15 Ap (by omega) (by have:=Am;omega)
 have e:shf p 15=p:=by
  apply List.ext_getElem (by rw[Sg,hp])
  intro k h1 h2
  rw[Sg]at h1
  simp only[shf,List.getElem_map,List.getElem_range]
  rw[if_pos (by omega),Ja h2]
 rw[e]at h
 exact h
theorem Brq{s:Int}{t p:List Int32}(h:OkF s t p)(w x:Int32):OkF s (lrn t p w) (x::p.take 15):=⟨h.1,Aau _ _ _,by simp[h.2.2]⟩
theorem Bu4{s:Int}{t p:List Int32}(h:OkF s t p)(y:Int32):Apt s t p y=some (y+gF s t p,s,lrn t p y,(y+gF s t p)::p.take 15,0):=by
 rw[Apt,Bse h,Aa]
 simp only
 rw[if_neg (by rw[Ak];simp),Ajo,Alq,Btq h,Aa]
 simp only
 rw[Bwg (s:=s) (t:=lrn t p y) (p:=p) ⟨h.1,Aau _ _ _,h.2.2⟩,Aa];rfl
theorem Boq{s:Int}{t p:List Int32}(h:OkF s t p)(y:Int32):Oq s t p y=some (y+gF s t p,s,lrn t p y,(y+gF s t p)::p.take 15):=by
 rw[Oq,Bwv h,Aa,Aus,Aa,Ble h,Aa]
 simp only
 rw[Bo0 h.2.2,Aa]
def sB(bits:Int):Int:=if bits=16 then 9 else 10
def shB(bits:Int):Int:=if bits=8 then 4 else 5
def Ed(bits:Int):Prop:=bits=8∨bits=16∨bits=24
def gs(sh:Int)(last:Int32):Int32:=Ad (Beu (Ah (Cj (Ad last:Int) sh.toNat) (Ad last)) sh.toNat)
theorem Cab(bits:Int):sB bits=9∨sB bits=10:=by unfold sB;split<;>simp
theorem Bvs(bits:Int):0≤shB bits:=by unfold shB;split<;>omega
theorem Cas{bits:Int}(h:Ed bits)(t:List Int32):Atx bits t=some (sB bits,t,List.replicate 16 0,0):=by
 obtain rfl|rfl|rfl:=h<;>rfl
theorem Byd{bits:Int}(h:Ed bits):Aok bits=some (shB bits,0):=by
 obtain rfl|rfl|rfl:=h<;>rfl
theorem Bxy{sh:Int}(h:0≤sh)(last:Int32):Agr sh last=some (gs sh last):=by
 rw[Agr,Cb (by rw[Cs];simpa using h),Aa,Aa];rfl
theorem Bx8{bits:Int}(h:Ed bits)(last:Int32):Pj bits last=some (gs (shB bits) last,0):=by
 rw[Pj,Byd h,Aa]
 simp only
 rw[if_neg (by rw[Ak];simp),Bxy (Bvs bits),Aa]
theorem Bj8{bits:Int}(h:Ed bits)(last:Int32)(t p:List Int32):Pm bits last (sB bits) t p=some 0:=by
 rw[Pm,Cas h,Aa]
 simp only
 rw[if_neg (by rw[Ak,Ak];simp)]
theorem Bpq{bits:Int}(h:Ed bits){t p:List Int32}(hF:OkF (sB bits) t p)(last y:Int32):
  Hr bits last (sB bits) t p y=some (y+gF (sB bits) t p+gs (shB bits) last,bits,y+gF (sB bits) t p+gs (shB bits) last,sB bits,lrn t p y,(y+gF (sB bits) t p)::p.take 15,0):=by
 rw[Hr,Bj8 h,Aa,if_neg (by rw[Ak];simp),Bx8 h,Aa]
 simp only
 rw[Bu4 hF,Aa]
 simp only
 rw[Ajo]
theorem Ava(sh:Int)(hs:sh=4∨sh=5)(last:Int32):Kt sh last=some (gs sh last):=by
 have hl:=Xh last
 have key:∀n:Int,n=16∨n=32→gs sh last=Int32.ofInt (((n-1)*last.toInt).fdiv n)→Ma last n=some (gs sh last):=by
  intro n hn hg
  have e:Bg (Ah n (1:Int)) (Ad last:Int)=(n-1)*last.toInt:=by
   obtain rfl|rfl:=hn<;>(rw[Dn,Bi (by omega) (by omega),Hp (by omega) (by omega)])
  rw[Ma,Xj,Cb (by rw[Ak];simp;omega),Aa,Aa,e,Bhi _ n (by omega) (by obtain rfl|rfl:=hn<;>omega) (by obtain rfl|rfl:=hn<;>omega),hg]
 rw[Kt,Ws]
 obtain rfl|rfl:=hs
 ·rw[if_neg (by rw[Bp];decide)]
  refine key 16 (.inl rfl) ?_
  have e:Cj (Ad last:Int) (4:Int).toNat=last.toInt*16:=by
   rw[Dn];show wrap64 (last.toInt*2^4)=_;rw[Bm]<;>omega
  rw[gs,e,Dn,Bi (by omega) (by omega),Aee]
  show Int32.ofInt ((last.toInt*16-last.toInt).fdiv 16)=_
  congr 2;omega
 ·rw[if_pos (by rw[Bp];rfl)]
  refine key 32 (.inr rfl) ?_
  have e:Cj (Ad last:Int) (5:Int).toNat=last.toInt*32:=by
   rw[Dn];show wrap64 (last.toInt*2^5)=_;rw[Bm]<;>omega
  rw[gs,e,Dn,Bi (by omega) (by omega),Aee]
  show Int32.ofInt ((last.toInt*32-last.toInt).fdiv 32)=_
  congr 2;omega
theorem Bn3{bits:Int}(h:Ed bits){t p:List Int32}(hF:OkF (sB bits) t p)(last y:Int32):
  Pa bits last (sB bits) t p y=some (y+gF (sB bits) t p+gs (shB bits) last,bits,y+gF (sB bits) t p+gs (shB bits) last,sB bits,lrn t p y,(y+gF (sB bits) t p)::p.take 15):=by
 have hb:Qm bits last (sB bits) t p=some (Ad (gs (shB bits) last):Int):=by
  rw[Qm]
  obtain rfl|rfl|rfl:=h
  ·rw[if_pos (by rw[Bp];rfl),Ava 4 (.inl rfl),Aa];rfl
  ·rw[if_neg (by rw[Bp];decide),Ava 5 (.inr rfl),Aa];rfl
  ·rw[if_neg (by rw[Bp];decide),Ava 5 (.inr rfl),Aa];rfl
 rw[Pa,Boq hF,Aa]
 simp only
 rw[hb,Aa,Aus,Aa]
theorem Bz0{bits:Int}(h:Ed bits)(t:List Int32):Aiv bits t=some (bits,0,sB bits,t,List.replicate 16 0,0):=by
 obtain rfl|rfl|rfl:=h<;>rfl
def Ama(n:UInt32):Int32:=if n.toNat %2=0 then Int32.ofInt ((n.toNat/2:Nat):Int)else Int32.ofInt (-((n.toNat/2:Nat):Int)-1)
theorem Biv(a b:Int32):(Qh a b).toBitVec=a.toBitVec^^^b.toBitVec:=by
 show(Int32.ofInt ((BitVec.ofInt 32 a.toBitVec.toInt^^^BitVec.ofInt 32 b.toBitVec.toInt).toNat:Int)).toBitVec=_
 rw[BitVec.ofInt_toInt,BitVec.ofInt_toInt,Int32.toBitVec_ofInt,BitVec.ofInt_natCast,BitVec.ofNat_toNat,BitVec.setWidth_eq]
theorem Bz5(m:Nat)(h:m<2147483648):Qh (Int32.ofInt (m:Int)) (Int32.ofInt (-1))=Int32.ofInt (-(m:Int)-1):=by
 apply Int32.toBitVec_inj.1
 have e1:(Int32.ofInt (-1)).toBitVec=BitVec.allOnes 32:=by decide
 rw[Biv,e1,BitVec.xor_allOnes,Int32.toBitVec_ofInt,Int32.toBitVec_ofInt]
 apply BitVec.eq_of_toNat_eq
 rw[BitVec.toNat_not,BitVec.toNat_ofInt,BitVec.toNat_ofInt]
 omega
theorem Brx(n:UInt32):Qc n=some (Ama n):=by
 have hn:=n.toNat_lt
 have e1:(Ad (Bh n (GI.toZ (1:UInt64)).toNat):Int32)=Int32.ofInt ((n.toNat/2:Nat):Int):=by
  show Int32.ofInt ((Bh n 1).toNat:Int)=_
  rw[Ait]
 have e2:(Ad (Cq n (1:UInt32)):Int32)=Int32.ofInt ((n.toNat %2:Nat):Int):=by
  show Int32.ofInt ((Cq n (1:UInt32)).toNat:Int)=_
  rw[Bg9,UInt32.toNat_and]
  show Int32.ofInt ((n.toNat&&&1:Nat):Int)=_
  rw[Nat.and_one_is_mod]
 rw[Qc,e1,e2,Ama]
 congr 1
 by_cases h:n.toNat %2=0
 ·have e3:Ath (Int32.ofInt ((n.toNat %2:Nat):Int))=Int32.ofInt 0:=by rw[h];decide
  rw[if_pos h,e3]
  apply Int32.toBitVec_inj.1
  rw[Biv,show(Int32.ofInt 0).toBitVec=0#32 from rfl,BitVec.xor_zero]
 ·have e3:Ath (Int32.ofInt ((n.toNat %2:Nat):Int))=Int32.ofInt (-1):=by rw[show n.toNat %2=1 by omega];decide
  rw[if_neg h,e3,Bz5 _ (by omega)]
theorem Bwb(n:UInt32):Wb n=some (Ama n):=by
 have hn:=n.toNat_lt
 have e1:geq (Vi n (2:UInt32)) (0:UInt32)=decide (n.toNat %2=0):=by
  rw[Bee,Bic,Bool.eq_iff_iff]
  simp only[beq_iff_eq,←UInt32.toNat_inj,UInt32.toNat_mod,decide_eq_true_eq];rfl
 rw[Wb,e1,Ama]
 by_cases h:n.toNat %2=0
 ·rw[if_pos (by simpa using h),if_pos h,Bhp];rfl
 ·have e2:(Ad n:Int)=(n.toNat:Int):=Bj3 n
  rw[if_neg (by simpa using h),if_neg h,e2,Ag (by omega) (by omega),Bj7,Bm (by omega) (by omega),Afb,Int.tdiv_eq_ediv,Aee]
  congr 2
  rw[if_pos (.inr (by omega)),Bm (by omega) (by omega)];omega
end Go.Pl
set_option linter.unusedVariables false
set_option linter.unusedSimpArgs false
namespace Go.Pl
open Go Go.Lv
theorem Bi3{c:Prop} [Decidable c](h:c):Gf (decide c)=some ():=by rw[decide_eq_true h];rfl
def unV(f:Nat→Int32)(ch:Nat):Nat→Int32
 |0=>if 1<ch then f (ch-1)+Bt (f (ch-2)) (2:Int32)else f (ch-1)
 |j+1=>unV f ch j-f (ch-2-j)
def unm(ch:Nat)(m:List Int32):List Int32:=(List.range m.length).map fun k=>unV (fun i=>m.getD (k-k %ch+i) 0) ch (ch-1-k %ch)
theorem Apx(ch:Nat)(m:List Int32):(unm ch m).length=m.length:=by simp[unm]
theorem Aya{ch:Nat}{m:List Int32}{a i:Nat}(ha:a %ch=0)(hi:i<ch)(h:a+i<m.length):(unm ch m).getD (a+i) 0=unV (fun i=>m.getD (a+i) 0) ch (ch-1-i):=by
 have hb:(a+i) %ch=i:=by rw[Nat.add_mod,ha,Nat.zero_add,Nat.mod_mod,Nat.mod_eq_of_lt hi]
 rw[Ja (by rw[Apx];exact h)]
 simp only[unm,List.getElem_map,List.getElem_range,hb]
 rw[show a+i-i=a by omega]
section
variable (ch:Nat) (m:List Int32)
theorem Bq3(h1:1≤ch)(h6:ch≤6)(hm:m.length %ch=0)(hl2:m.length≤4000):Ajc (ch:Int) m=some 0:=by
 rw[Ajc,if_neg (by simp[Af,Ar];omega),if_neg (by rw[Ar,Ac];simp;omega),Cb (by rw[Ak];simp;omega),Aa,if_neg]
 rw[Ak,En,Ac,←Int.ofNat_tmod,hm];simp
theorem Azn(bk:Int→List Int32→Option (List Int32×Int))(at':Nat)(h1:1≤ch)(h6:ch≤6)(hm:at' %ch=0)(hl:at'+ch≤m.length)(hl2:m.length≤4000):∀(i q:Nat),i≤ch-1→i<q→
  Qa bk (ch:Int) (at':Int) q ((i:Int)-1) (sel (fun k=>decide (k<at'∨(at'+i≤k∧k<at'+ch))) (unm ch m) m)=bk ((at'+ch:Nat):Int) (sel (fun k=>decide (k<at'+ch)) (unm ch m) m)
 |0,q+1,hi,_=>by
  have e4:Ae (at':Int) (ch:Int)=((at'+ch:Nat):Int):=by rw[Ag (by omega) (by omega)];omega
  rw[Qa,Adw,if_neg (by rw[Cs];simp),Ak0,Aum,e4]
  congr 1
  apply Ug
  intro k _
  rw[Bool.eq_iff_iff];simp;omega
 |i+1,q+1,hi,hq=>by
  have hlen:=Apx ch m
  have e2:Ae (at':Int) (ch:Int)-(at':Int)=(ch:Int):=by rw[Ag (by omega) (by omega)];omega
  have e3:Ae (i:Int) 1=((i+1:Nat):Int):=by rw[Ag (by omega) (by omega)];omega
  have hv:((unm ch m).getD (at'+(i+1)) 0-m.getD (at'+i) 0)=(unm ch m).getD (at'+i) 0:=by
   rw[Aya hm (by omega) (by omega),Aya hm (by omega) (by omega),show ch-1-i=(ch-1-(i+1))+1 by omega,unV,show ch-2-(ch-1-(i+1))=i by omega]
  rw[Qa,Adw,show((i+1:Nat):Int)-1=(i:Int) by omega,if_pos (by rw[Cs];simp),e2,e3,Bi3 (by omega),Aa,Bi3 (by omega),Aa,
   show(at':Int)+((i+1:Nat):Int)=((at'+(i+1):Nat):Int) by omega,show(at':Int)+(i:Int)=((at'+i:Nat):Int) by omega,
   Agt (by omega),Aa,Agt (by omega),Aa,Aa,if_pos (by simp;omega),if_neg (by simp;omega),Azi,hv,Atd (by omega),Aa,Bi (by omega) (by omega)]
  have ih:=Azn bk at' h1 h6 hm hl hl2 i q (by omega) (by omega)
  rw[←ih]
  congr 1
  apply Ug
  intro k _
  rw[Bool.eq_iff_iff];simp;omega
theorem Bhj{at' ch n:Nat}(ha:at' %ch=0)(hm:n %ch=0)(h:at'<n):at'+ch≤n:=by
 have d1:=Nat.div_add_mod at' ch
 have d2:=Nat.div_add_mod n ch
 rw[ha,Nat.add_zero]at d1
 rw[hm,Nat.add_zero]at d2
 have hlt:at'/ch<n/ch:=by
  rcases Nat.lt_or_ge (at'/ch) (n/ch)with h'|h'
  ·exact h'
  ·have:=Nat.mul_le_mul_left ch h';omega
 have:=Nat.mul_le_mul_left ch (show at'/ch+1≤n/ch from hlt)
 rw[Nat.mul_add]at this;omega
theorem Bd2(h1:1≤ch)(h6:ch≤6)(hm:m.length %ch=0)(hl2:m.length≤4000):∀(j at' q:Nat),at' %ch=0→at'≤m.length→m.length-at'≤j→j<q→
  Me (ch:Int) q (at':Int) (sel (fun k=>decide (k<at')) (unm ch m) m)=some (unm ch m,0)
 |j,at',q+1,ha,hle,hj,hq=>by
  have hlen:=Apx ch m
  have hl:Ac (sel (fun k=>decide (k<at')) (unm ch m) m)=(m.length:Int):=by rw[Ac,Akf,hlen]
  rw[Me,Ak1,hl]
  by_cases h:at'<m.length
  ·have hb:=Bhj ha hm h
   obtain⟨j,rfl⟩:∃k,j=k+1:=⟨j-1,by omega⟩
   have e1:Ah (Ae (at':Int) (ch:Int)-(at':Int)) 1=((ch-1:Nat):Int):=by rw[Ag (by omega) (by omega),Bi (by omega) (by omega)];omega
   have e2:Ae (at':Int) (ch:Int)-(at':Int)=(ch:Int):=by rw[Ag (by omega) (by omega)];omega
   have e4:Ae (at':Int) (ch:Int)=((at'+ch:Nat):Int):=by rw[Ag (by omega) (by omega)];omega
   have hi:=Azn ch m (Me (ch:Int) q) at' h1 h6 ha hb hl2 (ch-1) Ap (by omega) (by have:=Am;omega)
   have hrest:=Bd2 h1 h6 hm hl2 j (at'+ch) q (by rw[Nat.add_mod_right,ha]) hb (by omega) (by omega)
   have hstart:Ad2 (Me (ch:Int) q) (ch:Int) (at':Int) (sel (fun k=>decide (k<at'∨(at'+(ch-1)≤k∧k<at'+ch))) (unm ch m) m)=some (unm ch m,0):=by
    have e6:Ah ((ch-1:Nat):Int) 1=((ch-1:Nat):Int)-1:=Bi (by omega) (by omega)
    rw[Ad2,Ale,Aky,e1,e6]
    exact Eq.trans hi hrest
   rw[if_pos (by rw[Af];simp;omega),show vwI (m.length:Int) (at':Int) (Ae (at':Int) (ch:Int))=some () by rw[e4,vwI,Bi3];omega,Aa,e1,e2]
   have hlast:=Aya (m:=m) ha (show ch-1<ch by omega) (by omega)
   rw[show ch-1-(ch-1)=0 by omega,unV]at hlast
   by_cases hc:1<ch
   ·have e5:Ah ((ch-1:Nat):Int) 1=((ch-2:Nat):Int):=by rw[Bi (by omega) (by omega)];omega
    rw[if_pos hc]at hlast
    rw[if_pos (by rw[Ar];simp;omega),Bi3 (by omega),Aa,e5,Bi3 (by omega),Aa,show(at':Int)+((ch-1:Nat):Int)=((at'+(ch-1):Nat):Int) by omega,show(at':Int)+((ch-2:Nat):Int)=((at'+(ch-2):Nat):Int) by omega,
     Agt (by omega),Aa,Agt (by omega),Aa,Aa,if_neg (by simp),if_neg (by simp),Ajo,←hlast,Atd (by omega),Aa]
    rw[←hstart]
    congr 1
    apply Ug
    intro k _
    rw[Bool.eq_iff_iff];simp;omega
   ·have hc1:ch=1:=by omega
    rw[if_neg (by rw[Ar];simp;omega),←hstart]
    congr 1
    rw[if_neg hc]at hlast
    apply List.map_congr_left
    intro k hk
    by_cases hk2:k=at'
    ·subst hk2
     rw[if_neg (by simp),if_pos (by simp;omega)]
     rw[show k+(ch-1)=k by omega]at hlast
     exact hlast.symm
    ·by_cases hk3:k<at'
     ·rw[if_pos (by simp;omega),if_pos (by simp;omega)]
     ·rw[if_neg (by simp;omega),if_neg (by simp;omega)]
  ·rw[if_neg (by rw[Af];simp;omega),Aua (fun k hk=>by simp;omega)]
   rfl
theorem Buv(h1:1≤ch)(h6:ch≤6)(hm:m.length %ch=0)(hl2:m.length≤4000):As3 (ch:Int) m=some (unm ch m,0):=by
 have hlen:=Apx ch m
 have h:=Bd2 ch m h1 h6 hm hl2 m.length 0 Ap (by simp) (by omega) (by omega) (by have:=Am;omega)
 rw[As3,Aol,Bq3 ch m h1 h6 hm hl2,Aa,if_neg (by rw[Ak];simp),Cw,Fc (by simp;omega),Aa,Aa,List.nil_append,Akb]
 rw[At2 hlen.symm (fun k _=>by simp)]at h
 exact h
end
def Avq(f:Nat→Int32)(ch:Nat):List Int32:=(List.range ch).map fun i=>unV f ch (ch-1-i)
theorem Aiw(f:Nat→Int32)(ch:Nat):(Avq f ch).length=ch:=by simp[Avq]
theorem Aup(f:Nat→Int32){ch i:Nat}(h:i<ch):(Avq f ch).getD i 0=unV f ch (ch-1-i):=by
 rw[Ja (by rw[Aiw];exact h)];simp[Avq]
theorem Bs0(a b:Int32):Bn (Ah (Ad a:Int) (Ad b:Int))=some (a-b):=by
 have:=Xh a
 have:=Xh b
 rw[Dn,Dn,Bi (by omega) (by omega),Ax6,Int32.ofInt_sub,Int32.ofInt_toInt,Int32.ofInt_toInt]
theorem Bo5(a b:Int32):Bn (Ae (Ad a:Int) (Bt (Ad b:Int) (2:Int)))=some (a+Bt b (2:Int32)):=by
 have:=Xh a
 have hb:=Xh b
 have hd: -2147483648≤b.toInt.tdiv 2∧b.toInt.tdiv 2≤2147483648:=by
  rw[Int.tdiv_eq_ediv,show Int.sign 2=1 from rfl]
  by_cases h:0≤b.toInt∨2∣b.toInt
  ·rw[if_pos h];omega
  ·rw[if_neg h];omega
 have e:Bt b (2:Int32)=Int32.ofInt (b.toInt.tdiv 2):=rfl
 rw[Dn,Dn,Afb,Bm (by omega) (by omega),Ag (by omega) (by omega),Ax6,Int32.ofInt_add,Int32.ofInt_toInt,e]
theorem Ata(seg z:List Int32)(ch:Nat)(h6:ch≤6)(hs:seg.length=ch)(hz:z.length=ch):∀(i q:Nat),i+1≤ch→i<q→
  Ez seg q ((i:Int)-1) (sel (fun k=>decide (i≤k)) (Avq (fun i=>seg.getD i 0) ch) z)=some (Avq (fun i=>seg.getD i 0) ch)
 |0,q+1,hi,_=>by
  rw[Ez,Kv,if_neg (by rw[Cs];simp),Aua (fun k hk=>by simp)];rfl
 |i+1,q+1,hi,hq=>by
  have hlen:=Aiw (fun i=>seg.getD i 0) ch
  have e3:Ae (i:Int) 1=((i+1:Nat):Int):=by rw[Ag (by omega) (by omega)];omega
  have hv:(Avq (fun i=>seg.getD i 0) ch).getD (i+1) 0-seg.getD i 0=(Avq (fun i=>seg.getD i 0) ch).getD i 0:=by
   rw[Aup _ (by omega),Aup _ (by omega),show ch-1-i=(ch-1-(i+1))+1 by omega,unV,show ch-2-(ch-1-(i+1))=i by omega]
  rw[Ez,Kv,show((i+1:Nat):Int)-1=(i:Int) by omega,if_pos (by rw[Cs];simp),e3,Agt (by omega),Aa,g32 (by omega),Aa,Aa,if_pos (by simp),Bs0,Aa,Agt (by omega),Aa,hv,Atd (by omega),Aa,Bi (by omega) (by omega)]
  have ih:=Ata seg z ch h6 hs hz i q (by omega) (by omega)
  rw[←ih]
  congr 1
  apply Ug
  intro k _
  rw[Bool.eq_iff_iff];simp;omega
theorem Bi4{l:List Int32}{i:Nat}(v:Int32)(h:i<l.length):(l.set i v).getD i 0=v:=by
 rw[Ja (by rw[List.length_set];exact h)];simp
theorem Bjt(seg:List Int32)(ch:Nat)(h1:1≤ch)(h6:ch≤6)(hs:seg.length=ch):Pq seg=some (Avq (fun i=>seg.getD i 0) ch):=by
 have hlen:=Aiw (fun i=>seg.getD i 0) ch
 have hzl:(List.replicate ch (0:Int32)).length=ch:=by simp
 have e1:Ah (Ac seg) 1=((ch-1:Nat):Int):=by rw[Ac,hs,Bi (by omega) (by omega)];omega
 have e2:Ah (Ac seg) 2=((ch-1:Nat):Int)-1:=by rw[Ac,hs,Bi (by omega) (by omega)];omega
 have hlast:=Aup (fun i=>seg.getD i 0) (show ch-1<ch by omega)
 rw[show ch-1-(ch-1)=0 by omega,unV]at hlast
 have hend:∀z:List Int32,z.length=ch→z.getD (ch-1) 0=(Avq (fun i=>seg.getD i 0) ch).getD (ch-1) 0→Lk seg z=some (Avq (fun i=>seg.getD i 0) ch):=by
  intro z hz hzl
  have h:=Ata seg z ch h6 hs hz (ch-1) Ap (by omega) (by have:=Am;omega)
  have e:sel (fun k=>decide (ch-1≤k)) (Avq (fun i=>seg.getD i 0) ch) z=z:=by
   apply List.ext_getElem (by rw[Akf,hlen,hz])
   intro k k1 k2
   rw[Up]
   by_cases hk:ch-1≤k
   ·obtain rfl:k=ch-1:=by omega
    rw[if_pos (by simp),←hzl,Ja k2]
   ·rw[if_neg (by simpa using hk),Ja k2]
  rw[e]at h
  rw[Lk,Uj,e2]
  exact h
 rw[Pq,Uk,Ac,hs,Bao (by omega) (by omega),Aa,Cb (by rw[Bp];simp),Aa]
 rw[Ac,hs]at e1
 rw[Ac,hs]at e2
 have hz1:(List.replicate (Int.toNat (ch:Int)) (0:Int32)).length=ch:=by simp
 have hs1:=g32 (l:=seg) (k:=ch-1) (by omega)
 rw[e1,hs1,Aa,g32 (by omega),Aa,Qt _ (by omega),Aa]
 by_cases hc:1<ch
 ·rw[if_pos hc]at hlast
  have e3:((ch-1:Nat):Int)-1=((ch-2:Nat):Int):=by omega
  have hs2:=g32 (l:=seg) (k:=ch-2) (by omega)
  rw[if_pos (by rw[Ar];simp;omega),Aa,e2,e3,hs2,Aa,Bo5,Aa,g32 (by rw[List.length_set];omega),Aa,Qt _ (by rw[List.length_set];omega),Aa]
  refine hend _ (by simp) ?_
  rw[hlast,Bi4 _ (by rw[List.length_set];omega)]
 ·rw[if_neg hc]at hlast
  rw[if_neg (by rw[Ar];simp;omega)]
  refine hend _ (by simp) ?_
  rw[hlast,Bi4 _ (by omega)]
theorem Bt5(ch:Nat)(m:List Int32)(h1:1≤ch)(h6:ch≤6)(hm:m.length %ch=0)(hl2:m.length≤4000):Mf (ch:Int) m=some 0:=by
 rw[Mf,if_neg (by simp[Af,Ar];omega),if_neg (by rw[Ar,Ac];simp;omega),Cb (by rw[Ak];simp;omega),Aa,if_neg]
 rw[Ar,En,Ac,←Int.ofNat_tmod,hm];simp
theorem Awh(ch:Nat)(m:List Int32)(h1:1≤ch)(h6:ch≤6)(hm:m.length %ch=0)(hl2:m.length≤4000):∀(j at' q:Nat),at' %ch=0→at'≤m.length→m.length-at'≤j→j<q→
  Jv (ch:Int) m q (at':Int) ((unm ch m).take at')=some (unm ch m,0)
 |j,at',q+1,ha,hle,hj,hq=>by
  have hlen:=Apx ch m
  rw[Jv,Ab9]
  by_cases h:at'<m.length
  ·have hb:=Bhj ha hm h
   have e4:Ae (at':Int) (ch:Int)=((at'+ch:Nat):Int):=by rw[Ag (by omega) (by omega)];omega
   have hrest:=Awh ch m h1 h6 hm hl2 (j-1) (at'+ch) q (by rw[Nat.add_mod_right,ha]) hb (by omega) (by omega)
   have hseg:((m.take (at'+ch)).drop at').length=ch:=by simp;omega
   have htl:((unm ch m).take at').length=at':=by simp[hlen];omega
   rw[if_pos (by rw[Af,Ac];simp;omega),e4,Wy (by omega) (by omega) (by omega),Aa,show((at'+ch:Nat):Int).toNat=at'+ch from rfl,show(at':Int).toNat=at' from rfl,Bjt _ ch h1 h6 hseg,Aa,Fc (by rw[htl,Aiw];omega),Aa]
   have e:(unm ch m).take at'++Avq (fun i=>((m.take (at'+ch)).drop at').getD i 0) ch=(unm ch m).take (at'+ch):=by
    apply List.ext_getElem (by rw[List.length_append,htl,Aiw,List.length_take,hlen];omega)
    intro k k1 k2
    rw[List.length_take,hlen]at k2
    rw[List.getElem_append,List.getElem_take]
    by_cases hk:k<at'
    ·rw[dif_pos (by rw[htl];exact hk),List.getElem_take]
    ·rw[dif_neg (by rw[htl];exact hk)]
     have hu:=Aya (m:=m) ha (show k-at'<ch by omega) (by omega)
     rw[show at'+(k-at')=k by omega,Ja (by omega)]at hu
     have hx:∀n,n≤ch→unV (fun i=>((m.take (at'+ch)).drop at').getD i 0) ch n=unV (fun i=>m.getD (at'+i) 0) ch n:=by
      have hf:∀i,i<ch→((m.take (at'+ch)).drop at').getD i 0=m.getD (at'+i) 0:=by
       intro i hi
       rw[Ja (by omega),Ja (by omega)];simp
      intro n
      induction n with
      |zero=>
       intro _;rw[unV,unV,hf _ (by omega)];split
       ·rw[hf _ (by omega)]
       ·rfl
      |succ n ih=>intro hn;rw[unV,unV,ih (by omega),hf _ (by omega)]
     have hy:=Aup (fun i=>((m.take (at'+ch)).drop at').getD i 0) (show k-at'<ch by omega)
     rw[Ja (by rw[Aiw];omega)]at hy
     rw[hu,←hx _ (by omega),←hy]
     congr 1
     rw[htl]
   rw[e]
   exact hrest
  ·rw[if_neg (by rw[Af,Ac];simp;omega),List.take_of_length_le (by omega)];rfl
theorem Bo4(ch:Nat)(m:List Int32)(h1:1≤ch)(h6:ch≤6)(hm:m.length %ch=0)(hl2:m.length≤4000):Vk (ch:Int) m=some (unm ch m,0):=by
 have h:=Awh ch m h1 h6 hm hl2 m.length 0 Ap (by simp) (by omega) (by omega) (by have:=Am;omega)
 rw[Vk,Ab6,Bt5 ch m h1 h6 hm hl2,Aa,if_neg (by rw[Ak];simp)]
 exact h
end Go.Pl
set_option linter.unusedVariables false
set_option linter.unusedSimpArgs false
namespace Go.Pl
open Go Go.Lv
def pre{α:Type}(ch c:Nat)(f:α→Nat→α)(a0:α):Nat→α
 |0=>a0
 |m+1=>if m %ch=c then f (pre ch c f a0 m) m else pre ch c f a0 m
theorem Bmo{α:Type}(ch c:Nat)(f:α→Nat→α)(a0:α):∀m,m≤c→c<ch→pre ch c f a0 m=a0
 |0,_,_=>rfl
 |m+1,h,h2=>by rw[pre,if_neg (by rw[Nat.mod_eq_of_lt (by omega)];omega),Bmo ch c f a0 m (by omega) h2]
theorem Bhd{α:Type}(ch c i:Nat)(f:α→Nat→α)(a0:α)(hi:i %ch=c)(hc:c<ch):∀j,j<ch→pre ch c f a0 (i+1+j)=pre ch c f a0 (i+1)
 |0,_=>rfl
 |j+1,h=>by
  have hne:(i+1+j) %ch≠c:=by
   intro e
   have h1:(i+(1+j)) %ch=i %ch:=by rw[hi,←e];congr 1;omega
   have h2:(1+j) %ch=0:=by
    have h3:=Nat.sub_mod_eq_zero_of_mod_eq h1
    rwa [Nat.add_sub_cancel_left]at h3
   rw[Nat.mod_eq_of_lt (by omega)]at h2;omega
  rw[show i+1+(j+1)=(i+1+j)+1 by omega,pre,if_neg hne,Bhd ch c i f a0 hi hc j (by omega)]
theorem Bsc{α:Type}(ch c i:Nat)(f:α→Nat→α)(a0:α)(hi:i %ch=c)(hc:c<ch):pre ch c f a0 (i+ch)=f (pre ch c f a0 i) i:=by
 have h:=Bhd ch c i f a0 hi hc (ch-1) (by omega)
 rw[show i+1+(ch-1)=i+ch by omega]at h
 rw[h,pre,if_pos hi]
abbrev CS:=Int32×List Int32×List Int32
def Bre(bits:Int)(s:CS)(y:Int32):Int32:=y+gF (sB bits) s.2.1 s.2.2+gs (shB bits) s.1
def Bmm(bits:Int)(s:CS)(y:Int32):CS:=(Bre bits s y,lrn s.2.1 s.2.2 y,(y+gF (sB bits) s.2.1 s.2.2)::s.2.2.take 15)
def cst(bits:Int)(ch:Nat)(t:List Int32)(v:List UInt32)(c:Nat):Nat→CS:=pre ch c (fun s i=>Bmm bits s (Ama (v.getD i 0))) (0,t,List.replicate 16 0)
def OkC(bits:Int)(s:CS):Prop:=OkF (sB bits) s.2.1 s.2.2
theorem Bla(bits:Int)(ch:Nat){t:List Int32}(ht:t.length=16)(v:List UInt32)(c:Nat):∀m,OkC bits (cst bits ch t v c m)
 |0=>⟨Cab bits,ht,by simp[cst,pre]⟩
 |m+1=>by
  have ih:=Bla bits ch ht v c m
  rw[cst,pre]
  split
  ·exact Brq ih _ _
  ·exact ih
def smp(bits:Int)(ch:Nat)(t:List Int32)(v:List UInt32):List Int32:=(List.range v.length).map fun i=>Bre bits (cst bits ch t v (i %ch) i) (Ama (v.getD i 0))
theorem Apy(bits:Int)(ch:Nat)(t:List Int32)(v:List UInt32):(smp bits ch t v).length=v.length:=by simp[smp]
theorem Bls(bits:Int)(ch:Nat)(t:List Int32)(v:List UInt32){i:Nat}(h:i<v.length):(smp bits ch t v).getD i 0=Bre bits (cst bits ch t v (i %ch) i) (Ama (v.getD i 0)):=by
 rw[Ja (by rw[Apy];exact h)];simp[smp]
abbrev CL:=Int×Int32×(Int×(List Int32)×(List Int32)×Unit)×Unit
def toC(bits:Int)(s:CS):CL:=(bits,s.1,(sB bits,s.2.1,s.2.2,()),())
def cts(bits:Int)(ch:Nat)(t:List Int32)(v:List UInt32)(i:Nat):List CL:=(List.range 6).map fun c=>toC bits (cst bits ch t v c i)
theorem Buz{bits:Int}{ch:Nat}{t:List Int32}{v:List UInt32}{i c:Nat}(h:c<6):getI (cts bits ch t v i) (c:Int)=some (toC bits (cst bits ch t v c i)):=by
 rw[Ch (by simp[cts];exact h)];simp[cts]
theorem Biq(bits:Int)(ch:Nat)(t:List Int32)(v:List UInt32)(c m:Nat):cst bits ch t v c (m+1)=if m %ch=c then Bmm bits (cst bits ch t v c m) (Ama (v.getD m 0))else cst bits ch t v c m:=rfl
theorem Bu5{bits:Int}{ch:Nat}{t:List Int32}{v:List UInt32}{i c:Nat}(h:c<6)(hc:i %ch=c):Hl (cts bits ch t v i) (c:Int) (toC bits (Bmm bits (cst bits ch t v c i) (Ama (v.getD i 0))))=some (cts bits ch t v (i+1)):=by
 rw[Qt _ (by simp[cts];exact h)]
 congr 1
 apply List.ext_getElem (by simp[cts])
 intro k h1 h2
 rw[List.getElem_set]
 simp only[cts,List.getElem_map,List.getElem_range]
 by_cases hk:c=k
 ·subst hk;rw[if_pos rfl,Biq,if_pos hc]
 ·rw[if_neg hk,Biq,if_neg (by omega)]
section
variable {bits:Int} {ch:Nat} {t:List Int32} {v:List UInt32}
theorem Bi6(hb:Ed bits)(ht:t.length=16)(h1:1≤ch)(h6:ch≤6)(hv:v.length≤4000):∀(j i q:Nat),i+j=v.length→j<q→
  Fm v (ch:Int) bits q (i:Int) (cts bits ch t v i) ((smp bits ch t v).take i)=Hw (ch:Int) bits (smp bits ch t v)
 |0,i,q+1,hi,_=>by
  rw[Fm,Ht,if_neg (by rw[Af,Ac];simp;omega),List.take_of_length_le (by rw[Apy];omega)]
 |j+1,i,q+1,hi,hq=>by
  have hlen:=Apy bits ch t v
  have hc:i %ch<6:=Nat.lt_of_lt_of_le (Nat.mod_lt _ (by omega)) h6
  have hok:=Bla bits ch ht v (i %ch) i
  have hs:=Bu5 (bits:=bits) (ch:=ch) (t:=t) (v:=v) (i:=i) hc rfl
  have hx:=Bls bits ch t v (i:=i) (by omega)
  have hcb:=Bpq hb hok (cst bits ch t v (i %ch) i).1 (Ama (v.getD i 0))
  have ih:=Bi6 hb ht h1 h6 hv j (i+1) q (by omega) (by omega)
  rw[Aix (by omega),←Ja (by omega),hx]at ih
  rw[Fm,Ht,if_pos (by rw[Af,Ac];simp;omega),Ay7 (by omega),Aa,Cb (by rw[Ak];simp;omega),Aa,Baz,Buz hc,Aa,Aa,Brx,Aa]
  refine Eq.trans (congrArg (fun o=>Option.bind o _) hcb) ?_
  rw[Aa]
  simp only
  rw[Qx,Adm,if_neg (by rw[Ak];simp),Baz]
  refine Eq.trans (congrArg (fun o=>Option.bind o _) hs) ?_
  rw[Aa,Fc (by simp;omega),Aa,Ag (by omega) (by omega)]
  exact ih
theorem Bo1(hb:Ed bits)(ht:t.length=16)(h1:1≤ch)(h6:ch≤6)(hv:v.length≤4000):Mm (ch:Int) bits t v=Hw (ch:Int) bits (smp bits ch t v):=by
 have h:=Bi6 hb ht h1 h6 hv v.length 0 Ap (by omega) (by have:=Am;omega)
 have e:Ap=(Ap-7)+1+1+1+1+1+1+1:=by have:=Am;omega
 have hs:Ku v (ch:Int) bits t 0 (List.replicate 6 ((0:Int),(0:Int32),((0:Int),(List.replicate 16 (0:Int32)),(List.replicate 16 (0:Int32)),()),()))=Ql v (ch:Int) bits (cts bits ch t v 0):=by
  rw[Ku,e]
  obtain rfl|rfl|rfl:=hb<;>rfl
 rw[Mm,Tr,hs]
 exact h
theorem Bdm(bk:Int→List Int32→Option (List Int32))(hb:Ed bits)(ht:t.length=16)(h1:1≤ch)(h6:ch≤6)(hv:v.length≤4000)(z:List Int32)(c:Nat)(hc:c<ch):∀(j i q:Nat),i %ch=c→v.length-i≤j→i≤5000→j<q→
  He bk v (ch:Int) bits t (c:Int) q (i:Int) (sel (fun k=>decide (k %ch<c∨(k %ch=c∧k<i))) (smp bits ch t v) z) bits (cst bits ch t v c i).1 (sB bits) (cst bits ch t v c i).2.1 (cst bits ch t v c i).2.2=
   bk ((c+1:Nat):Int) (sel (fun k=>decide (k %ch<c+1)) (smp bits ch t v) z)
 |j,i,q+1,hi,hj,hi5,hq=>by
  have hlen:=Apy bits ch t v
  rw[He,Uh]
  by_cases h:i<v.length
  ·have hok:=Bla bits ch ht v c i
   have hst:=Bn3 hb hok (cst bits ch t v c i).1 (Ama (v.getD i 0))
   have hx:=Bls bits ch t v (i:=i) h
   rw[hi]at hx
   have ih:=Bdm bk hb ht h1 h6 hv z c hc (j-1) (i+ch) q (by rw[Nat.add_mod_right];exact hi) (by omega) (by omega) (by omega)
   have hstep:cst bits ch t v c (i+ch)=Bmm bits (cst bits ch t v c i) (Ama (v.getD i 0)):=Bsc ch c i _ _ hi hc
   rw[hstep]at ih
   have hset:=Atd (p:=fun k=>decide (k %ch<c∨(k %ch=c∧k<i))) (a:=smp bits ch t v) (b:=z) (k:=i) (by omega)
   rw[hx]at hset
   have hcong:sel (fun j=>decide (j %ch<c∨(j %ch=c∧j<i))||decide (j=i)) (smp bits ch t v) z=sel (fun k=>decide (k %ch<c∨(k %ch=c∧k<i+ch))) (smp bits ch t v) z:=by
    apply Ug
    intro k _
    rw[Bool.eq_iff_iff]
    simp only[Bool.or_eq_true,decide_eq_true_eq]
    constructor
    ·rintro((h1|h1)|h1)
     ·exact .inl h1
     ·exact .inr ⟨h1.1,by omega⟩
     ·subst h1;exact .inr ⟨hi,by omega⟩
    ·rintro(h1|⟨h1,h2⟩)
     ·exact .inl (.inl h1)
     ·by_cases h3:k<i
      ·exact .inl (.inr ⟨h1,h3⟩)
      ·refine .inr ?_
       have h4:(i+(k-i)) %ch=i %ch:=by rw[show i+(k-i)=k by omega,h1,hi]
       have h5:=Nat.sub_mod_eq_zero_of_mod_eq h4
       rw[Nat.add_sub_cancel_left,Nat.mod_eq_of_lt (by omega)]at h5
       omega
   rw[hcong]at hset
   rw[if_pos (by rw[Af,Ac];simp;omega),Ay7 h,Aa,Bwb,Aa]
   refine Eq.trans (congrArg (fun o=>Option.bind o _) hst) ?_
   rw[Aa]
   simp only
   rw[Un,Va,Agt (by omega),Aa]
   refine Eq.trans (congrArg (fun o=>Option.bind o _) hset) ?_
   rw[Aa,Uf,Ub,Ag (by omega) (by omega)]
   exact ih
  ·rw[if_neg (by rw[Af,Ac];simp;omega),Ut,Ur,Ag (by omega) (by omega)]
   have hcong:sel (fun k=>decide (k %ch<c∨(k %ch=c∧k<i))) (smp bits ch t v) z=sel (fun k=>decide (k %ch<c+1)) (smp bits ch t v) z:=by
    apply Ug
    intro k hk
    rw[Bool.eq_iff_iff]
    simp only[decide_eq_true_eq]
    omega
   rw[hcong];rfl
theorem Bde(hb:Ed bits)(ht:t.length=16)(h1:1≤ch)(h6:ch≤6)(hv:v.length≤4000)(z:List Int32):∀(j c q:Nat),c+j=ch→j<q→
  Dl v (ch:Int) bits t q (c:Int) (sel (fun k=>decide (k %ch<c)) (smp bits ch t v) z)=Lb (ch:Int) bits (smp bits ch t v)
 |0,c,q+1,hc,_=>by
  rw[Dl,Lg,if_neg (by rw[Af];simp;omega),Aua (fun k hk=>by have:=Nat.mod_lt k (show 0<ch by omega);simp;omega)]
 |j+1,c,q+1,hc,hq=>by
  have ih:=Bde hb ht h1 h6 hv z j (c+1) q (by omega) (by omega)
  have hin:=Bdm (Dl v (ch:Int) bits t q) hb ht h1 h6 hv z c (by omega) v.length c Ap (Nat.mod_eq_of_lt (by omega)) (by omega) (by omega) (by have:=Am;omega)
  have h0:cst bits ch t v c c=(0,t,List.replicate 16 0):=Bmo ch c _ _ c (Nat.le_refl _) (by omega)
  rw[h0]at hin
  have hcong:sel (fun k=>decide (k %ch<c∨(k %ch=c∧k<c))) (smp bits ch t v) z=sel (fun k=>decide (k %ch<c)) (smp bits ch t v) z:=by
   apply Ug
   intro k hk
   have:=Nat.mod_le k ch
   rw[Bool.eq_iff_iff]
   simp only[decide_eq_true_eq]
   omega
  rw[hcong]at hin
  rw[Dl,Lg,if_pos (by rw[Af];simp;omega),Bz0 hb,Aa]
  simp only
  rw[Uu]
  exact Eq.trans hin ih
theorem Bpp(hb:Ed bits)(ht:t.length=16)(h1:1≤ch)(h6:ch≤6)(hv:v.length≤4000)(hm:v.length %ch=0):Ks (ch:Int) bits t v=some (unm ch (smp bits ch t v)):=by
 have hlen:=Apy bits ch t v
 have h:=Bde hb ht h1 h6 hv (List.replicate v.length 0) ch 0 Ap (by omega) (by have:=Am;omega)
 rw[At2 (by rw[hlen];simp) (fun k _=>by simp)]at h
 rw[Ks,Wi,Ac,Bao (by omega) (by omega),Aa,Cb (by rw[Bp];simp),Aa,Um]
 refine Eq.trans h ?_
 rw[Lb,Uv,Bo4 ch _ h1 h6 (by rw[hlen];exact hm) (by omega),Aa]
end
def hB(bits:Int):Int:=if bits=8 then 128 else if bits=16 then 32768 else 8388608
theorem Btf{bits:Int}(h:Ed bits):Aa4 bits=some (Int32.ofInt (-(hB bits)),Int32.ofInt (hB bits-1),0):=by
 obtain rfl|rfl|rfl:=h<;>decide
theorem Bdu{bits:Int}(h:Ed bits):Oh bits=some (hB bits):=by
 obtain rfl|rfl|rfl:=h<;>rfl
theorem Ayu(bits:Int):0<hB bits∧hB bits≤8388608:=by
 unfold hB;split; · omega
 ·split<;>omega
theorem Ba4{bits:Int}(h:Ed bits)(l:List Int32)(hl:l.length≤4000):∀(j i q:Nat),i+j=l.length→j<q→
  Kx (Int32.ofInt (-(hB bits))) (Int32.ofInt (hB bits-1)) l q (i:Int)=Bo l (hB bits) q (i:Int)
 |0,i,q+1,hi,_=>by
  rw[Kx,Ye,Bo,Ej,if_neg (by rw[Af,Ac];simp;omega),if_neg (by rw[Af,Ac];simp;omega)];rfl
 |j+1,i,q+1,hi,hq=>by
  have hh:=Ayu bits
  have ih:=Ba4 h l hl j (i+1) q (by omega) (by omega)
  have e1:(Int32.ofInt (-(hB bits))).toInt= -(hB bits):=by rw[Int32.toInt_ofInt,Int.bmod_eq_of_le (by show -(4294967296/2:Int)≤_;omega) (by show _<(4294967296+1)/2;omega)]
  have e2:(Int32.ofInt (hB bits-1)).toInt=hB bits-1:=by rw[Int32.toInt_ofInt,Int.bmod_eq_of_le (by show -(4294967296/2:Int)≤_;omega) (by show _<(4294967296+1)/2;omega)]
  rw[Kx,Ye,Bo,Ej,if_pos (by rw[Af,Ac];simp;omega),if_pos (by rw[Af,Ac];simp;omega),g32 (by omega),Aa,Aa,Aa,Dn,Bj7,Bm (by omega) (by omega),Ag (by omega) (by omega),Bfl,Bkh,e1,e2,Af,Cs]
  generalize(l.getD i 0).toInt=X
  by_cases h1:X< -(hB bits)
  ·rw[if_pos (by simp;omega),if_pos (by simp;omega)]
  ·rw[if_neg (c:=decide (X<0-hB bits)=true) (by simp;omega)]
   by_cases h2:hB bits≤X
   ·rw[if_pos (by simp;omega),if_pos (by simp;omega)]
   ·rw[if_neg (by simp;omega),if_neg (by simp;omega)];exact ih
theorem Ayv{bits:Int}(h:Ed bits)(l:List Int32)(hl:l.length≤4000):Pn bits l=cadenzaref18_Check bits l:=by
 have hh:=Ayu bits
 rw[Pn,Afx,Btf h,Aa,cadenzaref18_Check,Je,Bdu h,Aa]
 simp only
 rw[if_neg (by rw[Ak];simp),if_neg (by rw[Ar,Ac];simp;omega),if_neg (by rw[Bp];simp;omega),if_neg (by rw[Ar,Ac];simp;omega)]
 exact Ba4 h l hl l.length 0 Ap (by omega) (by have:=Am;omega)
theorem Bk6{bits:Int}(h:Ed bits)(l:List Int32)(hl:l.length≤4000):∃e,cadenzaref18_Check bits l=some e:=by
 have hh:=Ayu bits
 have key:∀(j i q:Nat),i+j=l.length→j<q→∃e,Bo l (hB bits) q (i:Int)=some e:=by
  intro j
  induction j with
  |zero=>
   intro i q hi hq
   obtain⟨q,rfl⟩:∃k,q=k+1:=⟨q-1,by omega⟩
   rw[Bo,Ej,if_neg (by rw[Af,Ac];simp;omega)]
   exact⟨_,rfl⟩
  |succ j ih=>
   intro i q hi hq
   obtain⟨q,rfl⟩:∃k,q=k+1:=⟨q-1,by omega⟩
   rw[Bo,Ej,if_pos (by rw[Af,Ac];simp;omega),g32 (by omega),Aa,Aa,Ag (by omega) (by omega)]
   split
   ·exact⟨_,rfl⟩
   ·split
    ·exact⟨_,rfl⟩
    ·exact ih (i+1) q (by omega) (by omega)
 obtain⟨e,he⟩:=key l.length 0 Ap (by omega) (by have:=Am;omega)
 rw[cadenzaref18_Check,Je,Bdu h,Aa,if_neg (by rw[Bp];simp;omega),if_neg (by rw[Ar,Ac];simp;omega)]
 exact⟨e,he⟩
theorem Bfs{bits:Int}{ch:Nat}{t:List Int32}{v:List UInt32}(hb:Ed bits)(ht:t.length=16)(h1:1≤ch)(h6:ch≤6)(hv:v.length≤4000)(hm:v.length %ch=0):
  ∃l e,Ks (ch:Int) bits t v=some l∧Qy (ch:Int) bits l=some (if e≠0 then([],e)else(l,0))∧Mm (ch:Int) bits t v=some (if e≠0 then([],e)else(l,0))∧cadenzaref18_Check bits l=some e∧l.length=v.length:=by
 have hlen:=Apy bits ch t v
 have hul:=Apx ch (smp bits ch t v)
 obtain⟨e,he⟩:=Bk6 hb (unm ch (smp bits ch t v)) (by omega)
 refine⟨unm ch (smp bits ch t v),e,Bpp hb ht h1 h6 hv hm,?_,?_,he,by omega⟩
 ·rw[Qy,he,Aa]
  by_cases h:e=0
  ·rw[if_neg (by rw[Ak];simpa using h),if_neg (by simpa using h)]
  ·rw[if_pos (by rw[Ak];simpa using h),if_pos h]
 ·rw[Bo1 hb ht h1 h6 hv,Hw,Adj,Buv ch _ h1 h6 (by rw[hlen];exact hm) (by omega),Aa]
  simp only
  rw[if_neg (by rw[Ak];simp),Ayv hb _ (by omega),he,Aa]
  by_cases h:e=0
  ·rw[if_neg (by rw[Ak];simpa using h),if_neg (by simpa using h)]
  ·rw[if_pos (by rw[Ak];simpa using h),if_pos h]
end Go.Pl
set_option linter.unusedVariables false
set_option linter.unusedSimpArgs false
namespace Go.Pl
open Go Go.Lv
def Aof(s:Nat):Nat:=(s/2)^^^ (if s %2=1 then 3988292384 else 0)
theorem Baj{s:Nat}(h:s<4294967296):Aof s<4294967296:=by
 unfold Aof
 exact Nat.xor_lt_two_pow (n:=32) (by simp;omega) (by split<;>decide)
theorem Bg0(x y:Nat):(x^^^y)/2=(x/2)^^^ (y/2):=by
 have:=Nat.shiftRight_xor_distrib (a:=x) (b:=y) (i:=1)
 simpa [Nat.shiftRight_eq_div_pow]using this
theorem Bps(x y:Nat):Aof (x^^^y)=Aof x^^^Aof y:=by
 have h:(x^^^y) %2=(x %2+y %2) %2:=by
  have:=Nat.xor_mod_two_eq_one (a:=x) (b:=y)
  have h1:(x^^^y) %2<2:=Nat.mod_lt _ (by omega)
  omega
 simp only[Aof,Bg0,h]
 have hx:x %2=0∨x %2=1:=by omega
 have hy:y %2=0∨y %2=1:=by omega
 rcases hx with hx|hx<;>rcases hy with hy|hy<;>simp only[hx,hy]<;>simp
 ·rw[Nat.xor_assoc]
 ·rw[Nat.xor_assoc,Nat.xor_comm (y/2),Nat.xor_assoc,Nat.xor_comm 3988292384 (y/2)]
 ·rw[Nat.xor_assoc,Nat.xor_comm 3988292384,Nat.xor_assoc,Nat.xor_self];simp
def Qk:Nat→Nat→Nat
 |0,s=>s
 |k+1,s=>Qk k (Aof s)
theorem Bcz:∀(k x y:Nat),Qk k (x^^^y)=Qk k x^^^Qk k y
 |0,_,_=>rfl
 |k+1,x,y=>by rw[Qk,Bps,Bcz k];rfl
theorem Bcx:∀(k h:Nat),Qk k (2^k*h)=h
 |0,h=>by simp[Qk]
 |k+1,h=>by
  have:Aof (2^(k+1)*h)=2^k*h:=by
   rw[Nat.pow_succ,Nat.mul_comm (2^k) 2,Nat.mul_assoc,Aof,if_neg (by omega),Nat.mul_div_cancel_left _ (by omega)];simp
  rw[Qk,this,Bcx k]
theorem Bad:∀(k:Nat) {s:Nat},s<4294967296→Qk k s<4294967296
 |0,_,h=>h
 |k+1,_,h=>Bad k (Baj h)
def Aw4(s c:Nat):Nat:=Qk 8 (s^^^c)
theorem Azj{s c:Nat}(h:s<4294967296)(hc:c<256):Aw4 s c<4294967296:=Bad 8 (Nat.xor_lt_two_pow (n:=32) (by simpa using h) (by simp;omega))
theorem Bjg{s c:Nat}(hc:c<256):Aw4 s c=(s/256)^^^Qk 8 ((s %256)^^^c):=by
 have h:s=(2^8*(s/256))^^^ (s %256):=by
  have h1:s %256<2^8:=by simpa using Nat.mod_lt s (by omega:256>0)
  have:=Nat.two_pow_add_eq_or_of_lt h1 (s/256)
  have h2:2^8*(s/256)|||s %256=(2^8*(s/256))^^^ (s %256):=by
   apply Nat.eq_of_testBit_eq;intro i
   rw[Nat.testBit_or,Nat.testBit_xor]
   by_cases hi:i<8
   ·have:(2^8*(s/256)).testBit i=false:=by rw[Nat.testBit_two_pow_mul];simp;omega
    rw[this];simp
   ·have:(s %256).testBit i=false:=Nat.testBit_lt_two_pow (Nat.lt_of_lt_of_le h1 (Nat.pow_le_pow_right (by omega) (by omega)))
    rw[this];simp
  omega
 rw[Aw4]
 conv=>lhs;rw[h]
 rw[Nat.xor_assoc,Bcz,Bcx]
def Bo7(s:Nat)(l:List UInt8):Nat:=l.foldl (fun s c=>Aw4 s c.toNat) s
def Fh(b:List UInt8):UInt32:=4294967295-UInt32.ofNat (Bo7 4294967295 b)
theorem But(s:UInt32)(c:Nat)(hc:c<256):Vv s (Ad (Vi (UInt8.ofNat c) (2:UInt8)):Int)=some (UInt32.ofNat (s.toNat/2^^^ (if(s.toNat^^^c) %2=1 then 3988292384 else 0))):=by
 have h1:(Ad (Vi (UInt8.ofNat c) (2:UInt8)):Int)=((c %2:Nat):Int):=by
  rw[Aec,Bux,UInt8.toNat_mod,UInt8.toNat_ofNat']
  show((c %256 %2:Nat):Int)=_
  omega
 have h2:geq (Vi s (2:UInt32)) (1:UInt32)=decide (s.toNat %2=1):=by
  rw[Bee,Bic,Bool.eq_iff_iff]
  simp only[beq_iff_eq,decide_eq_true_eq]
  rw[←UInt32.toNat_inj,UInt32.toNat_mod];rfl
 have h3:Bt s (2:UInt32)=UInt32.ofNat (s.toNat/2):=by
  apply UInt32.toNat_inj.1
  rw[Bhp,UInt32.toNat_div,UInt32.toNat_ofNat']
  show s.toNat/2=_
  have:=s.toNat_lt
  omega
 have h4:Qh (Bt s (2:UInt32)) (3988292384:UInt32)=UInt32.ofNat (s.toNat/2^^^3988292384):=by
  apply UInt32.toNat_inj.1
  rw[h3,Aut,UInt32.toNat_xor,UInt32.toNat_ofNat',UInt32.toNat_ofNat']
  have:=s.toNat_lt
  rw[Nat.mod_eq_of_lt (a:=s.toNat/2) (by omega),Nat.mod_eq_of_lt]
  ·rfl
  ·exact Nat.xor_lt_two_pow (n:=32) (by omega) (by decide)
 have hx:(s.toNat^^^c) %2=(s.toNat %2+c %2) %2:=by
  have:=Nat.xor_mod_two_eq_one (a:=s.toNat) (b:=c)
  have h1:(s.toNat^^^c) %2<2:=Nat.mod_lt _ (by omega)
  omega
 have hs:s.toNat %2=0∨s.toNat %2=1:=by omega
 have hc2:c %2=0∨c %2=1:=by omega
 rw[Vv,Abo,h1,h2,hx]
 rcases hs with hs|hs<;>rcases hc2 with hc2|hc2<;>simp[hs,hc2,Bp,Abv,Abj,Aut,h3]
theorem Aww:∀(j i q:Nat) (s:UInt32) (c:Nat),i+j=8→j<q→c<2^j→Gy q s (UInt8.ofNat c) (i:Int)=some (UInt32.ofNat (Qk j (s.toNat^^^c)))
 |0,i,q+1,s,c,hi,_,hc=>by
  obtain rfl:i=8:=by omega
  obtain rfl:c=0:=by simpa using hc
  rw[Gy,Pc,if_neg (by rw[Af];simp),Abd,Aba,Qk]
  simp
 |j+1,i,q+1,s,c,hi,hq,hc=>by
  have hc8:c<256:=Nat.lt_of_lt_of_le hc (show 2^(j+1)≤2^8 from Nat.pow_le_pow_right (by omega) (by omega))
  rw[Gy,Pc,if_pos (by rw[Af];simp;omega),But s c hc8,Aa,Ag (by omega) (by omega)]
  have e:Bt (UInt8.ofNat c) (2:UInt8)=UInt8.ofNat (c/2):=by
   apply UInt8.toNat_inj.1
   rw[Buw,UInt8.toNat_div,UInt8.toNat_ofNat',UInt8.toNat_ofNat']
   show c %256/2=_
   omega
  rw[e]
  have h:=Aww j (i+1) q (UInt32.ofNat (s.toNat/2^^^ (if(s.toNat^^^c) %2=1 then 3988292384 else 0))) (c/2) (by omega) (by omega) (by rw[Nat.pow_succ]at hc;omega)
  rw[show((i:Int)+1)=((i+1:Nat):Int) by omega,h,UInt32.toNat_ofNat',Qk]
  congr 3
  have:=s.toNat_lt
  rw[Nat.mod_eq_of_lt,Aof,Bg0,Nat.xor_assoc,Nat.xor_assoc,Nat.xor_comm (c/2)]
  exact Nat.xor_lt_two_pow (n:=32) (by omega) (by split<;>decide)
theorem Bt1(s:UInt32)(c:UInt8):Ahk s c=some (UInt32.ofNat (Aw4 s.toNat c.toNat)):=by
 have h:=Aww 8 0 Ap s c.toNat (by omega) (by have:=Am;omega) (by simpa using c.toNat_lt)
 rw[UInt8.ofNat_toNat]at h
 exact h
theorem Arb(b:List UInt8)(hb:b.length<4611686018427387904):∀(j i q:Nat) (s:UInt32),i+j=b.length→j<q→Fg b q s (i:Int)=some (UInt32.ofNat (Bo7 s.toNat (b.drop i)))
 |0,i,q+1,s,hi,_=>by
  rw[Fg,Mb,if_neg (by rw[Af,Ac];simp;omega),show i=b.length by omega,List.drop_length]
  simp[Wk,Xw,Bo7]
 |j+1,i,q+1,s,hi,hq=>by
  have hlt:i<b.length:=by omega
  rw[Fg,Mb,if_pos (by rw[Af,Ac];simp;omega),Ch hlt,Aa,Bt1,Aa,Ag (by omega) (by omega)]
  have h:=Arb b hb j (i+1) q (UInt32.ofNat (Aw4 s.toNat b[i].toNat)) (by omega) (by omega)
  rw[show((i:Int)+1)=((i+1:Nat):Int) by omega,h,drop_cons hlt,UInt32.toNat_ofNat',Nat.mod_eq_of_lt (Azj s.toNat_lt b[i].toNat_lt)]
  rfl
theorem Bta(b:List UInt8)(hb:b.length<4611686018427387904):Mq b=some (Fh b):=by
 have h:=Arb b hb b.length 0 Ap 4294967295 (by omega) (by have:=Am;omega)
 rw[Mq,Ads,Xz,Wl,show((0:Int))=((0:Nat):Int)from rfl,h,Aa,Bh6];rfl
theorem Bvg(c:UInt32):Qh (Bh c (GI.toZ (1:UInt64)).toNat) (Bg (3988292384:UInt32) (Cq c (1:UInt32)))=UInt32.ofNat (Aof c.toNat):=by
 apply UInt32.toNat_inj.1
 have e:(GI.toZ (1:UInt64)).toNat=1:=rfl
 have h1:(Bh c 1).toNat=c.toNat/2:=by rw[Ait]
 have h2:(Bg (3988292384:UInt32) (Cq c (1:UInt32))).toNat=if c.toNat %2=1 then 3988292384 else 0:=by
  rw[Bqo,Bg9,UInt32.toNat_mul,UInt32.toNat_and]
  show 3988292384*(c.toNat&&&1) %4294967296=_
  rw[Nat.and_one_is_mod]
  have:c.toNat %2=0∨c.toNat %2=1:=by omega
  rcases this with h|h<;>simp[h]
 rw[e,Aut,UInt32.toNat_xor,h1,h2,UInt32.toNat_ofNat',Nat.mod_eq_of_lt (Baj c.toNat_lt)];rfl
theorem Bi5(bk16:Int→List UInt32→Option (UInt32×Int))(s:UInt32)(b:List UInt8)(x:Int)(t:List UInt32):∀(j i q:Nat) (c:UInt32),i+j=8→j<q→
  Lf bk16 s b x t q c (i:Int)=Vu bk16 s b x (UInt32.ofNat (Qk j c.toNat)) t
 |0,i,q+1,c,hi,_=>by
  obtain rfl:i=8:=by omega
  rw[Lf,Xo,if_neg (by rw[Af];simp),Qk,UInt32.ofNat_toNat]
 |j+1,i,q+1,c,hi,hq=>by
  rw[Lf,Xo,if_pos (by rw[Af];simp;omega),Bvg,Ag (by omega) (by omega),show((i:Int)+1)=((i+1:Nat):Int) by omega,Bi5 bk16 s b x t j (i+1) q _ (by omega) (by omega),UInt32.toNat_ofNat',Nat.mod_eq_of_lt (Baj c.toNat_lt)];rfl
def tbl(n:Nat):List UInt32:=(List.range n).map fun i=>UInt32.ofNat (Qk 8 i)
theorem Bl0(s:UInt32)(b:List UInt8):∀(j i q:Nat),i+j=256→j<q→Ii s b q (i:Int) (tbl i++List.replicate j 0)=Yf s b (tbl 256)
 |0,i,q+1,hi,_=>by
  obtain rfl:i=256:=by omega
  rw[Ii,Wq,if_neg (by rw[Af];simp)];simp
 |j+1,i,q+1,hi,hq=>by
  have hlen:(tbl i++List.replicate (j+1) 0).length=i+(j+1):=by simp[tbl]
  rw[Ii,Wq,if_pos (by rw[Af];simp;omega),Aeo]
  have h:=Bi5 (Ii s b q) s b (i:Int) (tbl i++List.replicate (j+1) 0) 8 0 Ap (Ad (i:Int)) (by omega) (by have:=Am;omega)
  rw[show((0:Int))=((0:Nat):Int)from rfl,h,Vu,Afc,Ch (by rw[hlen];omega),Aa,Qt _ (by rw[hlen];omega),Aa,Agn,Apr,Ag (by omega) (by omega)]
  have e:(Ad (i:Int):UInt32).toNat=i:=by rw[Bdp,UInt32.toNat_ofNat',Nat.mod_eq_of_lt (by omega)]
  rw[e,List.replicate_succ,Ap5 (by simp[tbl])]
  have h2:=Bl0 s b j (i+1) q (by omega) (by omega)
  have h3:tbl (i+1)=tbl i++[UInt32.ofNat (Qk 8 i)]:=by simp[tbl,List.range_succ]
  rw[h3]at h2
  rw[show((i:Int)+1)=((i+1:Nat):Int) by omega,←h2]
  simp
theorem Bvq{i:Nat}(h:i<256):getI (tbl 256) (i:Int)=some (UInt32.ofNat (Qk 8 i)):=by
 rw[Ch (by simpa [tbl]using h)];simp[tbl]
theorem Brr(s:UInt32)(c:UInt8):getI (tbl 256) (GI.toZ (Qh (Ad s:UInt8) c))=some (UInt32.ofNat (Qk 8 ((s.toNat %256)^^^c.toNat))):=by
 have e:GI.toZ (Qh (Ad s:UInt8) c)=(((s.toNat %256)^^^c.toNat:Nat):Int):=by
  rw[Tt,Bmj,UInt8.toNat_xor,Aso,UInt8.toNat_ofNat']
 rw[e,Bvq]
 exact Nat.xor_lt_two_pow (n:=8) (by simp;omega) (by simpa using c.toNat_lt)
theorem Bpg(s:UInt32)(c:UInt8):Qh (Bh s (GI.toZ (8:UInt64)).toNat) (UInt32.ofNat (Qk 8 ((s.toNat %256)^^^c.toNat)))=UInt32.ofNat (Aw4 s.toNat c.toNat):=by
 apply UInt32.toNat_inj.1
 have hlt:Qk 8 ((s.toNat %256)^^^c.toNat)<4294967296:=Bad 8 (Nat.xor_lt_two_pow (n:=32) (by simp;omega) (by have:=c.toNat_lt;simp;omega))
 have e:(GI.toZ (8:UInt64)).toNat=8:=rfl
 rw[e,Aut,UInt32.toNat_xor,Ait,UInt32.toNat_ofNat',UInt32.toNat_ofNat',Nat.mod_eq_of_lt hlt,Nat.mod_eq_of_lt (Azj s.toNat_lt c.toNat_lt),Bjg c.toNat_lt]
theorem Bgy(b:List UInt8)(hb:b.length<4611686018427387904):∀(j i q:Nat) (s:UInt32),i+j=b.length→j<q→Ky b (tbl 256) q s (i:Int)=some (UInt32.ofNat (Bo7 s.toNat (b.drop i)),0)
 |0,i,q+1,s,hi,_=>by
  rw[Ky,Wn,if_neg (by rw[Af,Ac];simp;omega),show i=b.length by omega,List.drop_length]
  simp[Ae8,Anj,Bo7]
 |j+1,i,q+1,s,hi,hq=>by
  have hlt:i<b.length:=by omega
  rw[Ky,Wn,if_pos (by rw[Af,Ac];simp;omega),Ch hlt,Aa,Brr,Aa,Aa,Bpg,Ag (by omega) (by omega)]
  have h:=Bgy b hb j (i+1) q (UInt32.ofNat (Aw4 s.toNat b[i].toNat)) (by omega) (by omega)
  rw[show((i:Int)+1)=((i+1:Nat):Int) by omega,h,drop_cons hlt,UInt32.toNat_ofNat',Nat.mod_eq_of_lt (Azj s.toNat_lt b[i].toNat_lt)]
  rfl
theorem Bvd(s:UInt32)(b:List UInt8)(hb:b.length≤100000):Alf s b=some (UInt32.ofNat (Bo7 s.toNat b),0):=by
 have h:=Bl0 s b 256 0 Ap (by omega) (by have:=Am;omega)
 have h2:=Bgy b (by omega) b.length 0 Ap s (by omega) (by have:=Am;omega)
 rw[Alf,Ah2,if_neg (by rw[Ar,Ac];simp;omega),Afl]
 refine Eq.trans h ?_
 rw[Yf,Afn,Afr,Age,Aeg]
 exact h2
theorem Btd(a:UInt32):Azm a=4294967295-a:=by
 have h:=a.toNat_lt
 have e:Azm a=UInt32.ofNat (BitVec.ofInt 32 4294967295^^^BitVec.ofInt 32 (a.toNat:Int)).toNat:=Da _
 apply UInt32.toNat_inj.1
 rw[e,UInt32.toNat_ofNat',UInt32.toNat_sub_of_le _ _ (by rw[UInt32.le_iff_toNat_le];show a.toNat≤4294967295;omega)]
 have h1:BitVec.ofInt 32 (a.toNat:Int)=a.toBitVec:=Be9 a
 have h2:(BitVec.ofInt 32 4294967295:BitVec 32)=BitVec.allOnes 32:=by decide
 rw[h1,h2,BitVec.allOnes_xor,BitVec.toNat_not]
 show(4294967296-1-a.toNat) %4294967296=4294967295-a.toNat
 omega
theorem Bke(b:List UInt8)(hb:b.length≤100000):Pz b=some (Fh b,0):=by
 rw[Pz,Bvd _ _ hb,Aa]
 simp only[Ak,Btd]
 rfl
end Go.Pl
set_option linter.unusedVariables false
set_option linter.unusedSimpArgs false
namespace Go.Pl
open Go Go.Lv
theorem Blx:∀{l m:List UInt8},l.length=m.length→Dg l=Dg m→l=m
 |[],[],_,_=>rfl
 |x::l,y::m,h,e=>by
  simp only[Dg]at e
  have hx:=x.toNat_lt
  have hy:=y.toNat_lt
  have h1:x=y:=UInt8.toNat_inj.1 (by omega)
  rw[h1,Blx (l:=l) (m:=m) (by simpa using h) (by omega)]
theorem Bf5:∀(w n:Nat),Dg (leB n w)=n %256^w
 |0,n=>by simp[leB,Dg,Nat.mod_one]
 |w+1,n=>by
  rw[leB,Dg,Bf5 w (n/256),UInt8.toNat_ofNat',show(256:Nat)^(w+1)=256*256^w by rw[Nat.pow_succ,Nat.mul_comm],Nat.mod_mul]
def Uq(b:List UInt8):Int:=
 if b.length<5 then 24 else if 41254<b.length then 4 else if(Fh (b.take (b.length-4))).toNat≠Dg (b.drop (b.length-4))then 22 else 0
theorem Bh3(b:List UInt8):Xc b=some (if Uq b≠0 then([],Uq b)else(b.take (b.length-4),0)):=by
 rw[Xc]
 by_cases h1:b.length<5
 ·have hS:Uq b=24:=by rw[Uq,if_pos h1]
  rw[if_pos (by rw[Af,Ac];simp;omega),hS];rfl
 rw[if_neg (by rw[Af,Ac];simp;omega)]
 by_cases h2:41254<b.length
 ·have hS:Uq b=4:=by rw[Uq,if_neg h1,if_pos h2]
  rw[if_pos (by rw[Ar,Ac];simp;omega),hS];rfl
 have e4:Ah (Ac b) 4=((b.length-4:Nat):Int):=by rw[Ac,Bi (by omega) (by omega)];omega
 have hd:(b.drop (b.length-4)).length=4:=by simp;omega
 rw[if_neg (by rw[Ar,Ac];simp;omega),e4,Jd (by omega) (by omega),Aa,show((b.length-4:Nat):Int).toNat=b.length-4 from rfl,Bke _ (by simp;omega),Aa]
 simp only
 rw[if_neg (by rw[Ak];simp),Px (by omega) (by omega),Aa,show((b.length-4:Nat):Int).toNat=b.length-4 from rfl,Biy _ (by omega) (by omega),Aa]
 have hne:Be (leU (b.drop (b.length-4))) (Ad (Fh (b.take (b.length-4))):UInt64)=decide ((Fh (b.take (b.length-4))).toNat≠Dg (b.drop (b.length-4))):=by
  have hlt:=(Fh (b.take (b.length-4))).toNat_lt
  rw[Ad1,Bool.eq_iff_iff]
  simp only[bne_iff_ne,ne_eq,←UInt64.toNat_inj,decide_eq_true_eq]
  rw[Ag1 (by omega),Fs,UInt64.toNat_ofNat',Nat.mod_eq_of_lt (by omega)]
  exact⟨fun h e=>h e.symm,fun h e=>h e.symm⟩
 simp only
 rw[hne,Aa]
 by_cases h3:(Fh (b.take (b.length-4))).toNat≠Dg (b.drop (b.length-4))
 ·have hS:Uq b=22:=by rw[Uq,if_neg h1,if_neg h2,if_pos h3]
  rw[if_pos (by simp[h3]),hS];rfl
 ·have hS:Uq b=0:=by rw[Uq,if_neg h1,if_neg h2,if_neg h3]
  rw[if_neg (by rw[decide_eq_false h3];decide),hS];rfl
theorem Bp6(b:List UInt8)(hb:b.length≤1000000):Rf b=some (b++leB (Fh b).toNat 4):=by
 have h:∀k:Nat,(Ad (Bh (Fh b) k):UInt8)=UInt8.ofNat ((Fh b).toNat/2^k):=by
  intro k;rw[Aso,Ait]
 have h0:(Ad (Fh b):UInt8)=UInt8.ofNat (Fh b).toNat:=Aso _
 have h1:=h 8
 have h2:=h 16
 have h3:=h 24
 rw[Rf,Bta b (by omega),Aa,Fc (by simp;omega),Aa,Fc (by simp;omega),Aa,h0,show(GI.toZ (8:UInt64)).toNat=8 from rfl,show(GI.toZ (16:UInt64)).toNat=16 from rfl,show(GI.toZ (24:UInt64)).toNat=24 from rfl,h1,h2,h3]
 simp only[leB,Nat.div_div_eq_div_mul,List.nil_append]
theorem Blf(b:List UInt8):Kn b=some (Uq b):=by
 rw[Kn]
 by_cases h1:b.length<5
 ·rw[if_pos (by rw[Af,Ac];simp;omega),Uq,if_pos h1]
 rw[if_neg (by rw[Af,Ac];simp;omega)]
 by_cases h2:41254<b.length
 ·rw[if_pos (by rw[Ar,Ac];simp;omega),Uq,if_neg h1,if_pos h2]
 have e4:Ah (Ac b) 4=((b.length-4:Nat):Int):=by rw[Ac,Bi (by omega) (by omega)];omega
 have hd:(b.drop (b.length-4)).length=4:=by simp;omega
 rw[if_neg (by rw[Ar,Ac];simp;omega),e4,Jd (by omega) (by omega),Aa,show((b.length-4:Nat):Int).toNat=b.length-4 from rfl,Bp6 _ (by simp;omega),Aa]
 have hlt:=(Fh (b.take (b.length-4))).toNat_lt
 have hiff:(b.take (b.length-4)++leB (Fh (b.take (b.length-4))).toNat 4 !=b)=decide ((Fh (b.take (b.length-4))).toNat≠Dg (b.drop (b.length-4))):=by
  rw[Bool.eq_iff_iff]
  simp only[bne_iff_ne,ne_eq,decide_eq_true_eq]
  constructor
  ·intro h e
   apply h
   have:leB (Fh (b.take (b.length-4))).toNat 4=b.drop (b.length-4):=Blx (by rw[Ko,hd]) (by rw[Bf5,Nat.mod_eq_of_lt (by omega),e])
   rw[this,List.take_append_drop]
  ·intro h e
   apply h
   have hx:leB (Fh (b.take (b.length-4))).toNat 4=b.drop (b.length-4):=by
    have e2:b.take (b.length-4)++leB (Fh (b.take (b.length-4))).toNat 4=b.take (b.length-4)++b.drop (b.length-4):=by rw[e,List.take_append_drop]
    exact List.append_cancel_left e2
   rw[←hx,Bf5,Nat.mod_eq_of_lt (by omega)]
 rw[hiff]
 by_cases h3:(Fh (b.take (b.length-4))).toNat≠Dg (b.drop (b.length-4))
 ·rw[if_pos (by simp[h3]),Uq,if_neg h1,if_neg h2,if_pos h3]
 ·rw[if_neg (by rw[decide_eq_false h3];decide),Uq,if_neg h1,if_neg h2,if_neg h3]
theorem Bsw{b:List UInt8}(h:Uq b=0):5≤b.length∧b.length≤41254:=by
 unfold Uq at h
 split at h
 ·simp at h
 ·split at h
  ·simp at h
  ·omega
theorem Bud{c:Nat}(h1:1≤c)(h6:c≤6):Bt (4000:Int) (c:Int)=((4000/c:Nat):Int):=by
 have:c=1∨c=2∨c=3∨c=4∨c=5∨c=6:=by omega
 rcases this with rfl|rfl|rfl|rfl|rfl|rfl<;>rfl
theorem Bw0(p:List UInt8)(h:p.length≤41250):okB p (8*p.length):=⟨by omega,by omega,fun k h1 h2=>by omega⟩
theorem Axi{bits:Int}{ch n:Nat}{t:List Int32}(b:List UInt8)(hb:Ed bits)(ht:t.length=16)(h1:1≤ch)(h6:ch≤6)(n1:1≤n)(n2:n≤4000/ch):
  ∃l e,deframe_Decode (ch:Int) bits t (n:Int) b=some (l,e)∧cadenzaref21_Decode (ch:Int) bits t (n:Int) b=some (l,e)∧(e=0→cadenzaref18_Check bits l=some 0∧l.length≤4000∧l.length=n*ch)∧(e≠0→l=[]):=by
 have hn:n*ch≤4000:=by
  have:=Nat.mul_le_mul_right ch n2
  have h2:=Nat.div_mul_le_self 4000 ch
  omega
 have hq4:=Bud h1 h6
 generalize 4000/ch=mm at*
 have hck:Mu (ch:Int) bits=some 0:=by
  have hr:∃x y,Aa4 bits=some (x,y,0):=⟨_,_,Btf hb⟩
  obtain⟨x,y,hr⟩:=hr
  rw[Mu,hr,Aa]
  simp only
  rw[if_neg (by simp[Ak,Af,Ar];omega)]
 have hh:=Ayu bits
 have hasked:Tv (ch:Int) bits (n:Int)=some 0:=by
  rw[Tv,Afq,if_neg (by simp[Af,Ar];omega),Bdu hb,Aa,if_neg (by rw[Bp];simp;omega),Aa,if_neg (by simp[Ak,Af];omega),Cb (by rw[Ak];simp;omega),Aa,hq4,if_neg (by rw[Ar];simp;omega)]
 rw[deframe_Decode,cadenzaref21_Decode,Vw,hck,hasked,Aa,Aa,if_neg (by rw[Ak];simp),if_neg (by rw[Af];simp;omega),Cb (by rw[Ak];simp;omega),Aa,hq4,if_neg (by rw[Ar];simp;omega),if_neg (by rw[Ak];simp),Bh3,Blf]
 by_cases hs:Uq b≠0
 ·rw[if_pos hs]
  simp only[Aa]
  rw[if_pos (by rw[Ak];simpa using hs),if_pos (by rw[Ak];simpa using hs)]
  exact⟨[],Uq b,rfl,rfl,fun e=>absurd e hs,fun _=>rfl⟩
 have hs0:Uq b=0:=by simpa using hs
 have hlen:=Bsw hs0
 have e4:Ah (Ac b) 4=((b.length-4:Nat):Int):=by rw[Ac,Bi (by omega) (by omega)];omega
 rw[if_neg hs,hs0]
 simp only[Aa]
 rw[if_neg (by rw[Ak];simp),if_neg (by rw[Ak];simp),e4,Jd (by omega) (by omega),Aa,show((b.length-4:Nat):Int).toNat=b.length-4 from rfl]
 have hpl:(b.take (b.length-4)).length=b.length-4:=by simp
 generalize b.take (b.length-4)=p at*
 have e8:Bg (8:Int) (Ac p)=((8*p.length:Nat):Int):=by rw[Ac,Hp (by omega) (by omega)];omega
 have hp:=Bw0 p (by omega)
 have hv:=values_eq hp h1 h6 hn
 have hr:=Bv2 (N:=8*p.length) (p:=p) rfl (by omega) h1 h6 hn
 have hat:=Bez (ch:=ch) (p:=p) (N:=8*p.length) (n*ch) 0 [] (by omega)
 rw[Bfq,if_neg (by rw[Ar,Ac];simp;omega),Ea,Fc (by simp;omega),Aa,Aa,Aa,List.nil_append,e8]
 simp only
 rw[if_neg (by rw[Ak];simp),hv,hr,Aa,Aa]
 generalize Vh ch p (8*p.length) (n*ch) 0 []=V at*
 obtain⟨v,at',e⟩:=V
 simp only at*
 by_cases he:e≠0
 ·rw[if_pos he,if_pos he]
  simp only
  rw[if_pos (by rw[Ak];simpa using he),Lw,Mj,if_pos (by rw[Ak];simpa using he)]
  exact⟨[],e,rfl,rfl,fun h=>absurd h he,fun _=>rfl⟩
 have he0:e=0:=by simpa using he
 have hvl:=hat.2.2 he0
 simp only[List.length_nil,Nat.zero_add]at hvl
 rw[if_neg he,if_neg he]
 simp only
 rw[if_neg (by rw[Ak];simp),Bi (by omega) (by omega),show((8*p.length:Nat):Int)-(at':Int)=((8*p.length-at':Nat):Int) by omega,Lw,Mj]
 by_cases h7:7<8*p.length-at'
 ·have hE:(if 7<8*p.length-at'∨Bl p at' (8*p.length-at')≠0 then(12:Int)else 0)=12:=if_pos (.inl h7)
  rw[if_pos (by rw[Cs];simp;omega),hE,if_pos (by decide)]
  exact⟨[],12,rfl,rfl,fun h=>absurd h (by decide),fun _=>rfl⟩
 rw[if_neg (by rw[Cs];simp;omega),Avt hp at' _ (by omega),if_neg (by omega),Aa]
 have hz:Be (Pk p at' (8*p.length-at')) (0:UInt64)=decide (Bl p at' (8*p.length-at')≠0):=by
  rw[Ad1,Bool.eq_iff_iff]
  simp only[bne_iff_ne,ne_eq,←UInt64.toNat_inj,decide_eq_true_eq]
  rw[Xn p _ _ (by omega)];rfl
 simp only
 rw[hz]
 by_cases hv0:Bl p at' (8*p.length-at')≠0
 ·have hE:(if 7<8*p.length-at'∨Bl p at' (8*p.length-at')≠0 then(12:Int)else 0)=12:=if_pos (.inr hv0)
  rw[if_pos (by simp[hv0]),hE,if_pos (by decide)]
  exact⟨[],12,rfl,rfl,fun h=>absurd h (by decide),fun _=>rfl⟩
 have hm:v.length %ch=0:=by rw[hvl];exact Nat.mul_mod_left n ch
 obtain⟨l,e,g1,g2,g3,g4,g5⟩:=Bfs (v:=v) hb ht h1 h6 (by omega) hm
 have hE:(if 7<8*p.length-at'∨Bl p at' (8*p.length-at')≠0 then(12:Int)else 0)=0:=if_neg (by omega)
 rw[if_neg (by rw[decide_eq_false hv0];decide),hE,if_neg (by decide),g1,g3,Aa,Aa,g2]
 by_cases hl:e≠0
 ·rw[if_pos hl]
  exact⟨[],e,rfl,rfl,fun h=>absurd h hl,fun _=>rfl⟩
 ·rw[if_neg hl]
  have hl0:e=0:=by simpa using hl
  exact⟨l,0,rfl,rfl,fun _=>⟨by rw[g4,hl0],by omega,by omega⟩,fun e=>absurd rfl e⟩
end Go.Pl
set_option linter.unusedVariables false
set_option linter.unusedSimpArgs false
namespace Go.Pl
open Go Go.Lv
def P64:Nat:=4823603603198064275
def Ac8(s:Nat):Nat:=(2*s %18446744073709551616)^^^ (s/9223372036854775808*P64)
theorem Ai5{s:Nat}(h:s<18446744073709551616):Ac8 s<18446744073709551616:=by
 have h1:s/9223372036854775808=0∨s/9223372036854775808=1:=by omega
 exact Nat.xor_lt_two_pow (n:=64) (Nat.mod_lt _ (by decide)) (by rcases h1 with e|e<;>rw[e]<;>decide)
theorem Bln(x y:Nat):(x^^^y)/9223372036854775808=(x/9223372036854775808)^^^ (y/9223372036854775808):=by
 have:=Nat.shiftRight_xor_distrib (a:=x) (b:=y) (i:=63)
 simpa [Nat.shiftRight_eq_div_pow]using this
theorem Bme(x y:Nat):2*(x^^^y) %18446744073709551616=(2*x %18446744073709551616)^^^ (2*y %18446744073709551616):=by
 have h1:=Nat.shiftLeft_xor_distrib (a:=x) (b:=y) (i:=1)
 have h2:=Nat.xor_mod_two_pow (a:=2*x) (b:=2*y) (n:=64)
 have e:2*(x^^^y)=(2*x)^^^ (2*y):=by simpa [Nat.shiftLeft_eq,Nat.mul_comm]using h1
 rw[e];exact h2
theorem Bwn{a b:Nat}(ha:a=0∨a=1)(hb:b=0∨b=1)(p:Nat):(a^^^b)*p=(a*p)^^^ (b*p):=by
 rcases ha with rfl|rfl<;>rcases hb with rfl|rfl<;>simp
theorem Cao(a b c d:Nat):(a^^^b)^^^ (c^^^d)=(a^^^c)^^^ (b^^^d):=by
 rw[Nat.xor_assoc,Nat.xor_assoc,←Nat.xor_assoc b c d,Nat.xor_comm b c,Nat.xor_assoc c b d]
theorem Bjr{x y:Nat}(hx:x<18446744073709551616)(hy:y<18446744073709551616):Ac8 (x^^^y)=Ac8 x^^^Ac8 y:=by
 rw[Ac8,Ac8,Ac8,Bme,Bln,Bwn (by omega) (by omega),Cao]
def Jq:Nat→Nat→Nat
 |0,s=>s
 |k+1,s=>Jq k (Ac8 s)
theorem Avx:∀(k:Nat) {s:Nat},s<18446744073709551616→Jq k s<18446744073709551616
 |0,_,h=>h
 |k+1,_,h=>Avx k (Ai5 h)
theorem Az3:∀(k:Nat) {x y:Nat},x<18446744073709551616→y<18446744073709551616→Jq k (x^^^y)=Jq k x^^^Jq k y
 |0,_,_,_,_=>rfl
 |k+1,x,y,hx,hy=>by rw[Jq,Bjr hx hy,Az3 k (Ai5 hx) (Ai5 hy)];rfl
theorem Bbh:∀(k h:Nat),2^k*h<18446744073709551616→Jq k h=2^k*h
 |0,h,_=>by simp[Jq]
 |k+1,h,hl=>by
  have hpos:0<2^k:=Nat.pow_pos (by omega)
  rw[Nat.pow_succ,Nat.mul_assoc]at hl
  have h2:2*h<18446744073709551616:=Nat.lt_of_le_of_lt (Nat.le_mul_of_pos_left _ hpos) hl
  have:Ac8 h=2*h:=by rw[Ac8,Nat.mod_eq_of_lt h2,show h/9223372036854775808=0 by omega];simp
  rw[Jq,this,Bbh k _ hl,Nat.pow_succ,Nat.mul_assoc]
def Apv(s c:Nat):Nat:=Jq 8 (s^^^ (c*72057594037927936))
theorem c56{c:Nat}(hc:c<256):c*72057594037927936<18446744073709551616:=by omega
theorem Avn{s c:Nat}(h:s<18446744073709551616)(hc:c<256):Apv s c<18446744073709551616:=Avx 8 (Nat.xor_lt_two_pow (n:=64) h (c56 hc))
theorem Bt7(s:Nat):s=(s/72057594037927936*72057594037927936)^^^ (s %72057594037927936):=by
 have h1:s %72057594037927936<2^56:=Nat.mod_lt _ (by decide)
 have:=Nat.two_pow_add_eq_or_of_lt h1 (s/72057594037927936)
 have h2:2^56*(s/72057594037927936)|||s %72057594037927936=(2^56*(s/72057594037927936))^^^ (s %72057594037927936):=by
  apply Nat.eq_of_testBit_eq;intro i
  rw[Nat.testBit_or,Nat.testBit_xor]
  by_cases hi:i<56
  ·have:(2^56*(s/72057594037927936)).testBit i=false:=by rw[Nat.testBit_two_pow_mul];simp;omega
   rw[this];simp
  ·have:(s %72057594037927936).testBit i=false:=Nat.testBit_lt_two_pow (Nat.lt_of_lt_of_le h1 (Nat.pow_le_pow_right (by omega) (by omega)))
   rw[this];simp
 rw[Nat.mul_comm (s/72057594037927936)]
 show s=(2^56*(s/72057594037927936))^^^ _
 rw[←h2,←this]
 have:=Nat.div_add_mod s 72057594037927936
 show s=72057594037927936*_+_
 omega
theorem Bog(a c:Nat):(a^^^c)*72057594037927936=(a*72057594037927936)^^^ (c*72057594037927936):=by
 have h1:=Nat.shiftLeft_xor_distrib (a:=a) (b:=c) (i:=56)
 simpa [Nat.shiftLeft_eq]using h1
theorem Beq{s c:Nat}(h:s<18446744073709551616)(hc:c<256):Apv s c=(256*s %18446744073709551616)^^^Jq 8 (((s/72057594037927936)^^^c)*72057594037927936):=by
 have hs:s/72057594037927936<2^8:=by show _<256;omega
 have hx:(s/72057594037927936)^^^c<256:=Nat.xor_lt_two_pow (n:=8) hs (by simpa using hc)
 have hl:s %72057594037927936<72057594037927936:=Nat.mod_lt _ (by decide)
 rw[Apv]
 conv=>lhs;rw[Bt7 s]
 rw[Nat.xor_comm (s/72057594037927936*72057594037927936),Nat.xor_assoc,←Bog,Az3 8 (by omega) (c56 hx),Bbh 8 _ (by show 256*_<_;omega)]
 congr 1
 show 256*(s %72057594037927936)=_
 omega
def Az1(s:Nat)(l:List UInt8):Nat:=l.foldl (fun s c=>Apv s c.toNat) s
theorem Bck{n:Nat}(h:n<18446744073709551616):(UInt64.ofNat n).toNat=n:=by rw[UInt64.toNat_ofNat'];exact Nat.mod_eq_of_lt h
theorem Byf(s:UInt64)(bit:Nat)(hb:bit=0∨bit=1):Wg s (bit:Int)=some (UInt64.ofNat ((2*s.toNat %18446744073709551616)^^^ (((s.toNat/9223372036854775808)^^^bit)*P64))):=by
 have hs:=s.toNat_lt
 have ht:s.toNat/9223372036854775808=0∨s.toNat/9223372036854775808=1:=by omega
 have e1:(Bg s (2:UInt64)).toNat=2*s.toNat %18446744073709551616:=by
  rw[Abp,UInt64.toNat_mul];show s.toNat*2 %_=_;rw[Nat.mul_comm]
 have hlt:2*s.toNat %18446744073709551616<18446744073709551616:=Nat.mod_lt _ (by decide)
 have ey:Qh (Bg s (2:UInt64)) (4823603603198064275:UInt64)=UInt64.ofNat ((2*s.toNat %18446744073709551616)^^^P64):=by
  apply UInt64.toNat_inj.1
  rw[Ba1,UInt64.toNat_xor,e1,Bck (Nat.xor_lt_two_pow (n:=64) hlt (by decide))];rfl
 have en:Bg s (2:UInt64)=UInt64.ofNat (2*s.toNat %18446744073709551616):=by
  apply UInt64.toNat_inj.1
  rw[e1,Bck hlt]
 have eg:Ih s (9223372036854775808:UInt64)=decide (s.toNat/9223372036854775808=1):=by
  rw[Bwr,decide_eq_decide]
  show 9223372036854775808≤s.toNat↔_
  omega
 have hp:∀b:Bool,Ou s b=some (if b=true then UInt64.ofNat ((2*s.toNat %18446744073709551616)^^^P64)else UInt64.ofNat (2*s.toNat %18446744073709551616)):=by
  intro b
  rw[Ou,Abb,ey,en];cases b<;>rfl
 rw[Wg,Aca,hp,hp,eg]
 rcases hb with rfl|rfl<;>rcases ht with h|h<;>rw[h]<;>simp[Bp]
theorem Awf(c:UInt8):∀(j q:Nat) (s:UInt64),j≤8→j<q→Gz c q s ((2^j/2:Nat):Int)=some (UInt64.ofNat (Jq j (s.toNat^^^ (c.toNat %2^j*2^(64-j)))))
 |0,q+1,s,_,_=>by
  rw[Gz,Po,if_neg (by rw[Ar];simp),Abs,Ab5]
  simp[Jq,Nat.mod_one]
 |j+1,q+1,s,hj,hq=>by
  have hc:=c.toNat_lt
  have hs:=s.toNat_lt
  have hj2:2^j≤2^7:=Nat.pow_le_pow_right (by omega) (by omega)
  have hpos:0<2^j:=Nat.pow_pos (by omega)
  have e1:2^(j+1)/2=2^j:=by rw[Nat.pow_succ];omega
  have e2:Bt ((2^j:Nat):Int) 2=((2^j/2:Nat):Int):=by
   generalize 2^j=K at*
   rw[Afb,Int.tdiv_eq_ediv_of_nonneg (by omega),Bm (by omega) (by omega)];omega
  have e3:En (Bt (Ad c:Int) ((2^j:Nat):Int)) (2:Int)=((c.toNat/2^j %2:Nat):Int):=by
   have hX:=Nat.div_le_self c.toNat (2^j)
   rw[Aec,Afb,←Int.ofNat_tdiv]
   generalize c.toNat/2^j=X at*
   rw[Bm (by omega) (by omega),En,Int.tmod_eq_emod_of_nonneg (by omega)];omega
  have hbit:c.toNat/2^j %2=0∨c.toNat/2^j %2=1:=by omega
  rw[Gz,Po,e1,if_pos (by rw[Ar,decide_eq_true_eq];omega),Cb (by rw[Ak,bne_iff_ne];omega),Aa,e3,Byf s _ hbit,Aa,e2,Awf c j q _ (by omega) (by omega)]
  congr 2
  rw[Jq]
  congr 1
  have hx:c.toNat %2^(j+1)*2^(64-(j+1))=(c.toNat/2^j %2)*9223372036854775808+c.toNat %2^j*2^(63-j):=by
   have h63:(9223372036854775808:Nat)=2^j*2^(63-j):=by rw[←Nat.pow_add,show j+(63-j)=63 by omega]
   rw[Nat.mod_pow_succ,h63,show 64-(j+1)=63-j by omega,Nat.add_mul,Nat.add_comm,Nat.mul_assoc,Nat.mul_left_comm]
  have hr:c.toNat %2^j<2^j:=Nat.mod_lt _ hpos
  have hb63:c.toNat %2^j*2^(63-j)<9223372036854775808:=by
   have h63:(9223372036854775808:Nat)=2^j*2^(63-j):=by rw[←Nat.pow_add,show j+(63-j)=63 by omega]
   rw[h63];exact Nat.mul_lt_mul_of_pos_right hr (Nat.pow_pos (by omega))
  have h64:c.toNat %2^j*2^(64-j)=2*(c.toNat %2^j*2^(63-j)):=by
   rw[show 64-j=(63-j)+1 by omega,Nat.pow_succ,←Nat.mul_assoc,Nat.mul_comm]
  rw[hx,h64]
  generalize c.toNat %2^j*2^(63-j)=R at*
  generalize c.toNat/2^j %2=b at*
  have ht:s.toNat/9223372036854775808=0∨s.toNat/9223372036854775808=1:=by omega
  have hp:((s.toNat/9223372036854775808^^^b)*P64)<18446744073709551616:=by
   rcases ht with h|h<;>rcases hbit with h2|h2<;>rw[h,h2]<;>decide
  rw[Bck (Nat.xor_lt_two_pow (n:=64) (Nat.mod_lt _ (by decide)) hp),Ac8,Bme,Bln,show(b*9223372036854775808+R)/9223372036854775808=b by omega,show 2*(b*9223372036854775808+R) %18446744073709551616=2*R by omega,Nat.xor_assoc,Nat.xor_assoc,Nat.xor_comm (2*R)]
theorem Byl(c:UInt8)(s:UInt64):Ahj s c=some (UInt64.ofNat (Apv s.toNat c.toNat)):=by
 have h:=Awf c 8 Ap s (Nat.le_refl _) (by have:=Am;omega)
 have hc:=c.toNat_lt
 rw[Nat.mod_eq_of_lt (show c.toNat<2^8 by simpa using hc)]at h
 exact h
theorem Aq3(b:List UInt8)(hb:b.length<4611686018427387904):∀(j i q:Nat) (s:UInt64),i+j=b.length→j<q→Fk b q s (i:Int)=some (UInt64.ofNat (Az1 s.toNat (b.drop i)))
 |0,i,q+1,s,hi,_=>by
  rw[Fk,Ls,if_neg (by rw[Af,Ac];simp;omega),show i=b.length by omega,List.drop_length]
  simp[Vn,Wj,Az1]
 |j+1,i,q+1,s,hi,hq=>by
  have hlt:i<b.length:=by omega
  have hc:=b[i].toNat_lt
  rw[Fk,Ls,if_pos (by rw[Af,Ac];simp;omega),Ch hlt,Aa,Byl,Aa,Ag (by omega) (by omega)]
  have h:=Aq3 b hb j (i+1) q (UInt64.ofNat (Apv s.toNat b[i].toNat)) (by omega) (by omega)
  rw[show((i:Int)+1)=((i+1:Nat):Int) by omega,h,drop_cons hlt,Bck (Avn s.toNat_lt (by simpa using hc))]
  rfl
def Ae5(b:List UInt8):UInt64:=UInt64.ofNat (Az1 0 b)
theorem Big(b:List UInt8)(hb:b.length≤100000):Rg 0 b=some (Ae5 b):=
 Aq3 b (by omega) b.length 0 Ap 0 (by omega) (by have:=Am;omega)
theorem Bjw(c:UInt64):Qh (Cj c (GI.toZ (1:UInt64)).toNat) (Bg (4823603603198064275:UInt64) (Bh c (GI.toZ (63:UInt64)).toNat))=UInt64.ofNat (Ac8 c.toNat):=by
 have hc:=c.toNat_lt
 apply UInt64.toNat_inj.1
 have h1:(Cj c (GI.toZ (1:UInt64)).toNat).toNat=2*c.toNat %18446744073709551616:=by
  rw[show(GI.toZ (1:UInt64)).toNat=1 from rfl,Ajr,Nat.mul_comm]
 have h2:(Bg (4823603603198064275:UInt64) (Bh c (GI.toZ (63:UInt64)).toNat)).toNat=c.toNat/9223372036854775808*P64:=by
  rw[show(GI.toZ (63:UInt64)).toNat=63 from rfl,Abp,UInt64.toNat_mul,Ab4]
  show 4823603603198064275*(c.toNat/9223372036854775808) %18446744073709551616=_
  have h1:c.toNat/9223372036854775808=0∨c.toNat/9223372036854775808=1:=by omega
  rcases h1 with e|e<;>rw[e]<;>decide
 rw[Ba1,UInt64.toNat_xor,h1,h2,Bck (Ai5 hc)];rfl
theorem Axf(bk16:Int→List UInt64→Option (UInt64×Int))(s:UInt64)(b:List UInt8)(x:Int)(t:List UInt64):∀(j i q:Nat) (c:UInt64),i+j=8→j<q→
  Kw bk16 s b x t q c (i:Int)=Wz bk16 s b x (UInt64.ofNat (Jq j c.toNat)) t
 |0,i,q+1,c,hi,_=>by
  obtain rfl:i=8:=by omega
  rw[Kw,Wv,if_neg (by rw[Af];simp),Jq,UInt64.ofNat_toNat]
 |j+1,i,q+1,c,hi,hq=>by
  rw[Kw,Wv,if_pos (by rw[Af];simp;omega),Bjw,Ag (by omega) (by omega),show((i:Int)+1)=((i+1:Nat):Int) by omega,Axf bk16 s b x t j (i+1) q _ (by omega) (by omega),Bck (Ai5 c.toNat_lt)];rfl
def Aho(n:Nat):List UInt64:=(List.range n).map fun i=>UInt64.ofNat (Jq 8 (i*72057594037927936))
theorem Bam(s:UInt64)(b:List UInt8):∀(j i q:Nat),i+j=256→j<q→Iu s b q (i:Int) (Aho i++List.replicate j 0)=Yc s b (Aho 256)
 |0,i,q+1,hi,_=>by
  obtain rfl:i=256:=by omega
  rw[Iu,Vj,if_neg (by rw[Af];simp)];simp
 |j+1,i,q+1,hi,hq=>by
  have hlen:(Aho i++List.replicate (j+1) 0).length=i+(j+1):=by simp[Aho]
  rw[Iu,Vj,if_pos (by rw[Af];simp;omega),Aes]
  have h:=Axf (Iu s b q) s b (i:Int) (Aho i++List.replicate (j+1) 0) 8 0 Ap (Cj (Ad (i:Int):UInt64) (GI.toZ (56:UInt64)).toNat) (by omega) (by have:=Am;omega)
  rw[show((0:Int))=((0:Nat):Int)from rfl,h,Wz,Agg,Ch (by rw[hlen];omega),Aa,Qt _ (by rw[hlen];omega),Aa,Afk,An3,Ag (by omega) (by omega)]
  have e:(Cj (Ad (i:Int):UInt64) (GI.toZ (56:UInt64)).toNat).toNat=i*72057594037927936:=by
   rw[Ajr,Ui,Bck (by omega)]
   show i*72057594037927936 %18446744073709551616=_
   omega
  rw[e,List.replicate_succ,Ap5 (by simp[Aho])]
  have h2:=Bam s b j (i+1) q (by omega) (by omega)
  have h3:Aho (i+1)=Aho i++[UInt64.ofNat (Jq 8 (i*72057594037927936))]:=by simp[Aho,List.range_succ]
  rw[h3]at h2
  rw[show((i:Int)+1)=((i+1:Nat):Int) by omega,←h2]
  simp
theorem Bpu{i:Nat}(h:i<256):getI (Aho 256) (i:Int)=some (UInt64.ofNat (Jq 8 (i*72057594037927936))):=by
 rw[Ch (by simpa [Aho]using h)];simp[Aho]
theorem Bi2(s:UInt64)(c:UInt8):getI (Aho 256) (GI.toZ (Qh (Ad (Bh s (GI.toZ (56:UInt64)).toNat):UInt8) c))=some (UInt64.ofNat (Jq 8 (((s.toNat/72057594037927936)^^^c.toNat)*72057594037927936))):=by
 have hs:=s.toNat_lt
 have e:GI.toZ (Qh (Ad (Bh s (GI.toZ (56:UInt64)).toNat):UInt8) c)=(((s.toNat/72057594037927936)^^^c.toNat:Nat):Int):=by
  have e2:((Ad (Bh s (GI.toZ (56:UInt64)).toNat):UInt8)).toNat=s.toNat/72057594037927936:=by
   rw[Akc,UInt8.toNat_ofNat',Ab4]
   show s.toNat/72057594037927936 %256=_
   omega
  rw[Tt,Bmj,UInt8.toNat_xor,e2]
 rw[e,Bpu]
 exact Nat.xor_lt_two_pow (n:=8) (by show _<256;omega) (by simpa using c.toNat_lt)
theorem Bfa(s:UInt64)(c:UInt8):Qh (Cj s (GI.toZ (8:UInt64)).toNat) (UInt64.ofNat (Jq 8 (((s.toNat/72057594037927936)^^^c.toNat)*72057594037927936)))=UInt64.ofNat (Apv s.toNat c.toNat):=by
 have hs:=s.toNat_lt
 have hc:c.toNat<256:=by simpa using c.toNat_lt
 apply UInt64.toNat_inj.1
 have hlt:Jq 8 (((s.toNat/72057594037927936)^^^c.toNat)*72057594037927936)<18446744073709551616:=Avx 8 (c56 (Nat.xor_lt_two_pow (n:=8) (by show _<256;omega) (by simpa using c.toNat_lt)))
 have e:(GI.toZ (8:UInt64)).toNat=8:=rfl
 rw[e,Ba1,UInt64.toNat_xor,Ajr,Bck hlt,Bck (Avn hs hc),Beq hs hc,Nat.mul_comm s.toNat]
theorem Aw2(b:List UInt8)(s0:UInt64)(hb:b.length<4611686018427387904):∀(j i q:Nat) (s:UInt64),i+j=b.length→j<q→Ld b s0 (Aho 256) q s (i:Int)=some (UInt64.ofNat (Az1 s.toNat (b.drop i)),0)
 |0,i,q+1,s,hi,_=>by
  rw[Ld,Ww,if_neg (by rw[Af,Ac];simp;omega),show i=b.length by omega,List.drop_length]
  simp[Afv,Afj,Afy,Apa,Az1]
 |j+1,i,q+1,s,hi,hq=>by
  have hlt:i<b.length:=by omega
  have hc:=b[i].toNat_lt
  rw[Ld,Ww,if_pos (by rw[Af,Ac];simp;omega),Ch hlt,Aa,Bi2,Aa,Aa,Bfa,Ag (by omega) (by omega)]
  have h:=Aw2 b s0 hb j (i+1) q (UInt64.ofNat (Apv s.toNat b[i].toNat)) (by omega) (by omega)
  rw[show((i:Int)+1)=((i+1:Nat):Int) by omega,h,drop_cons hlt,Bck (Avn s.toNat_lt (by simpa using hc))]
  rfl
theorem Biu(b:List UInt8)(hb:b.length≤100000):Ajh b=some (Ae5 b,0):=by
 have h:=Bam 0 b 256 0 Ap (by omega) (by have:=Am;omega)
 have h2:=Aw2 b 0 (by omega) b.length 0 Ap 0 (by omega) (by have:=Am;omega)
 have hn:Ak6 0 b=some (Ae5 b,0):=by
  rw[Ak6,Ain,if_neg (by rw[Ar,Ac];simp;omega),Aey]
  refine Eq.trans h ?_
  rw[Yc,Afz,Aev]
  exact h2
 rw[Ajh,hn,Aa]
theorem Bp5(p:List UInt8)(hp:p.length≤64):Wu p=some (leB (Ae5 p).toNat 8,0):=by
 rw[Wu,Au7,if_neg (by rw[Ar,Ac];simp;omega),Biu p (by omega),Aa,Aa]
 simp only
 have h:=Bib (Ae5 p) 8 (by omega) (by omega) (by simpa using(Ae5 p).toNat_lt)
 rw[if_neg (by rw[Ak];simp)]
 exact congrArg (fun o=>Option.bind o fun x:List UInt8×Int=>some (x.1,x.2)) h
theorem Bof(p:List UInt8)(hp:p.length≤64):On p=some (leB (Ae5 p).toNat 8):=by
 have h:=Azd (Ae5 p) 8 (by omega)
 rw[On,Ahm,Big p (by omega),Aa,Aa]
 exact congrArg (fun o=>Option.bind o fun l=>some l) h
def s8(n:Nat):Int32:=Int32.ofInt (if n<128 then(n:Int)else(n:Int)-256)
def Ahf(d:UInt64)(n:Nat):List Int32:=(List.range n).map fun i=>s8 (d.toNat/256^i %256)
theorem Ajj(d:UInt64)(n:Nat):(Ahf d n).length=n:=by simp[Ahf]
theorem Bag(d:UInt64)(n:Nat):Ahf d (n+1)=Ahf d n++[s8 (d.toNat/256^n %256)]:=by simp[Ahf,List.range_succ]
theorem bm8(z:Nat):(z:Int).bmod Int8.size=if z %256<128 then((z %256:Nat):Int)else((z %256:Nat):Int)-256:=by
 rw[show Int8.size=256 from rfl,Int.bmod_def]
 split<;>split<;>omega
theorem Bnr(d:UInt64):∀(j i q:Nat),i+j=8→j<q→Zm d q (i:Int) (Ahf d i++List.replicate (16-i) 0)=some (Ahf d 8++List.replicate 8 0)
 |0,i,q+1,hi,_=>by
  obtain rfl:i=8:=by omega
  rw[Zm,Aka,if_neg (by rw[Af];simp)];rfl
 |j+1,i,q+1,hi,hq=>by
  have hlen:(Ahf d i++List.replicate (16-i) 0).length=16:=by simp[Ajj];omega
  have ih:=Bnr d j (i+1) q (by omega) (by omega)
  have e8:Bg (8:Int) (i:Int)=((8*i:Nat):Int):=by rw[Hp (by omega) (by omega)];omega
  have ev:(Ad (Ad (Bh d (GI.toZ (((8*i:Nat):Int))).toNat):Int8):Int32)=s8 (d.toNat/256^i %256):=by
   have e1:(Bh d (GI.toZ (((8*i:Nat):Int))).toNat).toNat=d.toNat/256^i:=by
    rw[show(GI.toZ (((8*i:Nat):Int))).toNat=8*i from rfl,Ab4,Nat.pow_mul]
   show Int32.ofInt (Int8.ofInt ((Bh d (GI.toZ (((8*i:Nat):Int))).toNat).toNat:Int)).toInt=_
   rw[e1,s8,Int8.toInt_ofInt,bm8]
  rw[Zm,Aka,if_pos (by rw[Af];simp;omega),e8,Cb (by rw[Cs];simp;omega),Aa,ev,Ch (by omega),Aa,Qt _ (by omega),Aa,Ag (by omega) (by omega),show 16-i=(15-i)+1 by omega,List.replicate_succ,Ap5 (Ajj d i)]
  rw[Bag,show 16-(i+1)=15-i by omega,List.append_assoc]at ih
  exact ih
theorem Bq9(d:UInt64):∀(j i q:Nat) (e:UInt64),i+j=8→j<q→e.toNat=d.toNat/256^i→Gm q e (i:Int) (Ahf d i++List.replicate (16-i) 0)=some (Ahf d 8++List.replicate 8 0)
 |0,i,q+1,e,hi,_,he=>by
  obtain rfl:i=8:=by omega
  rw[Gm,Th,if_neg (by rw[Af];simp)];rfl
 |j+1,i,q+1,e,hi,hq,he=>by
  have hlen:(Ahf d i++List.replicate (16-i) 0).length=16:=by simp[Ajj];omega
  have hq2:(Bt e (256:UInt64)).toNat=d.toNat/256^(i+1):=by
   rw[At4,UInt64.toNat_div,he,Nat.pow_succ,←Nat.div_div_eq_div_mul];rfl
  have ih:=Bq9 d j (i+1) q (Bt e (256:UInt64)) (by omega) (by omega) hq2
  have ev:(Ad (Vi e (256:UInt64)):Int32)=Int32.ofInt ((d.toNat/256^i %256:Nat):Int):=by
   show Int32.ofInt ((Vi e (256:UInt64)).toNat:Int)=_
   rw[Bhw,UInt64.toNat_mod,he];rfl
  have hz:d.toNat/256^i %256<256:=Nat.mod_lt _ (by omega)
  have et:(Int32.ofInt ((d.toNat/256^i %256:Nat):Int)).toInt=((d.toNat/256^i %256:Nat):Int):=by
   rw[Int32.toInt_ofInt,Int.bmod_eq_of_le (by show -(4294967296/2:Int)≤_;omega) (by show _<(4294967296+1)/2;omega)]
  have hp8:∀x:Int32,x=s8 (d.toNat/256^i %256)→Tx (Gm q) e (i:Int) (Ahf d i++List.replicate (16-i) 0) x=some (Ahf d 8++List.replicate 8 0):=by
   intro x hx
   rw[Tx,Afp,hx,Ch (by omega),Aa,Qt _ (by omega),Aa,Ag (by omega) (by omega),show 16-i=(15-i)+1 by omega,List.replicate_succ,Ap5 (Ajj d i)]
   rw[Bag,show 16-(i+1)=15-i by omega,List.append_assoc]at ih
   exact ih
  rw[Gm,Th,if_pos (by rw[Af];simp;omega),ev,Bkh,et,show(127:Int32).toInt=127 from rfl]
  by_cases h:d.toNat/256^i %256<128
  ·rw[if_neg (by simp only[decide_eq_true_eq];omega)]
   exact hp8 _ (by rw[s8,if_pos h])
  ·rw[if_pos (by simp only[decide_eq_true_eq];omega)]
   refine hp8 _ ?_
   rw[s8,if_neg h,Azi,Int32.ofInt_sub];rfl
def tapsOf(p:List UInt8):List Int32:=Ahf (Ae5 p) 8++List.replicate 8 0
theorem Bak(p:List UInt8):(tapsOf p).length=16:=by simp[tapsOf,Ajj]
theorem Bc7(p:List UInt8)(hp:p.length≤64):Uw p=some (tapsOf p,0):=by
 have h:=Bnr (Ae5 p) 8 0 Ap (by omega) (by have:=Am;omega)
 have h2:Bfv (Ae5 p)=some (tapsOf p):=h
 rw[Uw,if_neg (by rw[Ar,Ac];simp;omega),Biu p (by omega),Aa]
 simp only
 rw[if_neg (by rw[Ak];simp),h2,Aa]
theorem Bg7(p:List UInt8)(hp:p.length≤64):Vl p=some (tapsOf p,0):=by
 have h:=Bq9 (Ae5 p) 8 0 Ap (Ae5 p) (by omega) (by have:=Am;omega) (by simp)
 have h2:Ami (Ae5 p)=some (tapsOf p):=h
 rw[Vl,if_neg (by rw[Ar,Ac];simp;omega),Aj0,Ahl,if_neg (by rw[Ar,Ac];simp;omega),Big p (by omega),Aa,Aa,Aa]
 simp only
 rw[h2,Aa]
end Go.Pl
set_option linter.unusedVariables false
set_option linter.unusedSimpArgs false
namespace Go.Pl
open Go Go.Lv
def u8(z:Int):UInt8:=UInt8.ofNat (z %256).toNat
theorem Bf4(z:Int):u8 (z %256)=u8 z:=by rw[u8,u8];congr 2;omega
def wB(bits:Int):Nat:=if bits=8 then 1 else if bits=16 then 2 else 3
theorem Bqr{bits:Int}(h:Ed bits):Bt bits 8=(wB bits:Int):=by obtain rfl|rfl|rfl:=h<;>rfl
theorem Bw5(bits:Int):1≤wB bits∧wB bits≤3:=by
 unfold wB;split; · omega
 ·split<;>omega
def Aqr(bits:Int)(x:Int):List UInt8:=if bits=8 then [u8 (x+128)]else if bits=16 then [u8 x,u8 (x/256)]else [u8 x,u8 (x/256),u8 (x/65536)]
theorem Bij(bits x:Int):(Aqr bits x).length≤3:=by
 unfold Aqr;split; · simp
 ·split<;>simp
theorem Bqh(x:Int32)(k:Nat)(hk:k≤32):(Ad (Bh x k):UInt8)=u8 (x.toInt.fdiv (2^k)):=by
 have h:=Xh x
 have e:Bh x k=Int32.ofInt (x.toInt.fdiv (2^k)):=by
  show Int32.ofInt (x.toInt.fdiv (2^min k 32))=_
  rw[Nat.min_eq_left hk]
 have hb: -2147483648≤x.toInt.fdiv (2^k)∧x.toInt.fdiv (2^k)<2147483648:=by
  have hpos:(0:Int)<2^k:=Int.pow_pos (by omega)
  rw[Int.fdiv_eq_ediv_of_nonneg _ (by omega)]
  constructor
  ·refine(Int.le_ediv_iff_mul_le hpos).2 ?_
   have:(1:Int)≤2^k:=by omega
   have h2: -2147483648*(2^k:Int)≤ -2147483648*1:=Int.mul_le_mul_of_nonpos_left (by omega) this
   omega
  ·refine Int.ediv_lt_of_lt_mul hpos ?_
   have:(1:Int)≤2^k:=by omega
   have h2:(2147483648:Int)*1≤2147483648*2^k:=Int.mul_le_mul_of_nonneg_left this (by omega)
   omega
 show UInt8.ofNat ((Bh x k).toInt %256).toNat=_
 rw[e,Int32.toInt_ofInt,Int.bmod_eq_of_le (by show -(4294967296/2:Int)≤_;omega) (by show _<(4294967296+1)/2;omega)];rfl
section
variable (bk:Int→List UInt8→Option (List UInt8×Int)) (l:List Int32)
theorem Ax5{bits:Int}(h:Ed bits)(c:Int32)(x:Int)(i q:Nat)(acc:List UInt8)(hi:i<wB bits)(ha:acc.length≤100000):
  Fq bk bits l c x (q+1) (i:Int) acc=Fq bk bits l c x q ((i+1:Nat):Int) (acc++[u8 (c.toInt.fdiv (2^(8*i)))]):=by
 have hw:=Bw5 bits
 have e8:Bg (8:Int) (i:Int)=((8*i:Nat):Int):=by rw[Hp (by omega) (by omega)];omega
 rw[Fq,Sk,Bqr h,if_pos (by rw[Af];simp;omega),e8,Cb (by rw[Cs];simp;omega),Aa,show(GI.toZ (((8*i:Nat):Int))).toNat=8*i from rfl,Bqh _ _ (by omega),Fc (by simp;omega),Aa,Ag (by omega) (by omega)];rfl
theorem Bk2{bits:Int}(h:Ed bits)(c:Int32)(x:Int)(q:Nat)(acc:List UInt8):Fq bk bits l c x (q+1) ((wB bits:Nat):Int) acc=bk (Ae x 1) acc:=by
 rw[Fq,Sk,Bqr h,if_neg (by rw[Af];simp),Aci,Amj]
theorem Bxp{bits:Int}(h:Ed bits)(c:Int32)(x:Int)(acc:List UInt8)(ha:acc.length≤90000)(hr: -(hB bits)≤c.toInt∧c.toInt<hB bits):
  Ho bk bits l x acc (if bits=8 then Ae c (128:Int32)else c)=bk (Ae x 1) (acc++Aqr bits c.toInt):=by
 have e:Ap=(Ap-4)+1+1+1+1:=by have:=Am;omega
 have hc:=Xh c
 rw[Ho,Acq,Acg,e]
 have g0:=fun(c:Int32) q acc ha=>Ax5 bk l h c x 0 q acc (by have:=Bw5 bits;omega) ha
 obtain rfl|rfl|rfl:=h
 ·have hh:hB 8=128:=rfl
  rw[hh]at hr
  have e1:(Ae c (128:Int32)).toInt=c.toInt+128:=by
   show(Int32.ofInt (c.toInt+(128:Int32).toInt)).toInt=_
   rw[show(128:Int32).toInt=128 from rfl,Int32.toInt_ofInt,Int.bmod_eq_of_le (by show -(4294967296/2:Int)≤_;omega) (by show _<(4294967296+1)/2;omega)]
  have g1:=Bk2 bk l (bits:=8) (.inl rfl) (Ae c (128:Int32)) x (Ap-4+1+1)
  rw[if_pos rfl,show(0:Int)=((0:Nat):Int)from rfl,g0 _ _ _ (by omega)]
  refine Eq.trans (g1 _) ?_
  rw[e1,Aqr,if_pos rfl]
  show bk _ (acc++[u8 ((c.toInt+128).fdiv 1)])=_
  rw[Int.fdiv_one]
 ·have g1:=fun q acc ha=>Ax5 bk l (bits:=16) (.inr (.inl rfl)) c x 1 q acc (by decide) ha
  have g2:=Bk2 bk l (bits:=16) (.inr (.inl rfl)) c x (Ap-4+1)
  rw[if_neg (by decide),show(0:Int)=((0:Nat):Int)from rfl,g0 _ _ _ (by omega),g1 _ _ (by simp;omega)]
  refine Eq.trans (g2 _) ?_
  rw[Aqr,if_neg (by decide),if_pos rfl,List.append_assoc]
  show bk _ (acc++[u8 (c.toInt.fdiv 1),u8 (c.toInt.fdiv 256)])=_
  rw[Int.fdiv_one,Int.fdiv_eq_ediv_of_nonneg _ (by omega)]
 ·have g1:=fun q acc ha=>Ax5 bk l (bits:=24) (.inr (.inr rfl)) c x 1 q acc (by decide) ha
  have g2:=fun q acc ha=>Ax5 bk l (bits:=24) (.inr (.inr rfl)) c x 2 q acc (by decide) ha
  have g3:=Bk2 bk l (bits:=24) (.inr (.inr rfl)) c x (Ap-4)
  rw[if_neg (by decide),show(0:Int)=((0:Nat):Int)from rfl,g0 _ _ _ (by omega),g1 _ _ (by simp;omega),g2 _ _ (by simp;omega)]
  refine Eq.trans (g3 _) ?_
  rw[Aqr,if_neg (by decide),if_neg (by decide),List.append_assoc,List.append_assoc]
  show bk _ (acc++[u8 (c.toInt.fdiv 1),u8 (c.toInt.fdiv 256),u8 (c.toInt.fdiv 65536)])=_
  rw[Int.fdiv_one,Int.fdiv_eq_ediv_of_nonneg _ (by omega),Int.fdiv_eq_ediv_of_nonneg _ (by omega)]
end
def bytesB(bits:Int)(l:List Int32):List UInt8:=l.flatMap fun x=>Aqr bits x.toInt
theorem Ak3(bits:Int):∀l:List Int32,(bytesB bits l).length≤3*l.length
 |[]=>by simp[bytesB]
 |x::l=>by
  have h1:=Ak3 bits l
  have h2:=Bij bits x.toInt
  simp only[bytesB,List.flatMap_cons,List.length_append,List.length_cons]at*
  omega
def inR(bits:Int)(l:List Int32):Prop:=∀x∈l, -(hB bits)≤x.toInt∧x.toInt<hB bits
theorem Bng{bits:Int}(h:Ed bits)(l:List Int32)(hl:l.length≤4000)(hr:inR bits l):∀(j i q:Nat),i+j=l.length→j<q→Dx bits l q (i:Int) (bytesB bits (l.take i))=some (bytesB bits l,0)
 |0,i,q+1,hi,_=>by
  rw[Dx,Sy,if_neg (by rw[Af,Ac];simp;omega),List.take_of_length_le (by omega)];rfl
 |j+1,i,q+1,hi,hq=>by
  have hlt:i<l.length:=by omega
  have ih:=Bng h l hl hr j (i+1) q (by omega) (by omega)
  have hlen:=Ak3 bits (l.take i)
  have hx:=hr l[i] (List.getElem_mem _)
  have h1:=Bxp (Dx bits l q) l h l[i] (i:Int) (bytesB bits (l.take i)) (by rw[List.length_take]at hlen;omega) hx
  rw[Dx,Sy,if_pos (by rw[Af,Ac];simp;omega),Ch hlt,Aa]
  have e:(if(geq bits (8:Int))=true then Ho (Dx bits l q) bits l (i:Int) (bytesB bits (l.take i)) (Ae l[i] (128:Int32))else Ho (Dx bits l q) bits l (i:Int) (bytesB bits (l.take i)) l[i])=Ho (Dx bits l q) bits l (i:Int) (bytesB bits (l.take i)) (if bits=8 then Ae l[i] (128:Int32)else l[i]):=by
   by_cases h8:bits=8
   ·rw[if_pos (by rw[Bp];simpa using h8),if_pos h8]
   ·rw[if_neg (by rw[Bp];simpa using h8),if_neg h8]
  rw[e,h1,Ag (by omega) (by omega)]
  rw[Aix hlt]at ih
  have e2:bytesB bits (l.take i++[l[i]])=bytesB bits (l.take i)++Aqr bits l[i].toInt:=by unfold bytesB;rw[List.flatMap_append,List.flatMap_singleton]
  rw[e2]at ih
  exact ih
theorem Bdh{bits:Int}(h:Ed bits){l:List Int32}(hl:l.length≤4000)(hc:cadenzaref18_Check bits l=some 0):inR bits l:=by
 have hh:=Ayu bits
 have key:∀(j i q:Nat),i+j=l.length→j<q→Bo l (hB bits) q (i:Int)=some 0→∀k,i≤k→(hk:k<l.length)→ -(hB bits)≤l[k].toInt∧l[k].toInt<hB bits:=by
  intro j
  induction j with
  |zero=>intro i q hi hq _ k h1 h2;omega
  |succ j ih=>
   intro i q hi hq hs k h1 h2
   obtain⟨q,rfl⟩:∃k,q=k+1:=⟨q-1,by omega⟩
   rw[Bo,Ej,if_pos (by rw[Af,Ac];simp;omega),Ch (by omega),Aa,Aa,Dn,Bj7,Bm (by omega) (by omega),Ag (by omega) (by omega),Af,Cs]at hs
   by_cases g1:l[i].toInt<0-hB bits
   ·rw[if_pos (by simpa using g1)]at hs;simp at hs
   ·rw[if_neg (by simpa using g1)]at hs
    by_cases g2:hB bits≤l[i].toInt
    ·rw[if_pos (by simpa using g2)]at hs;simp at hs
    ·rw[if_neg (by simpa using g2)]at hs
     by_cases hk:k=i
     ·subst hk;omega
     ·exact ih (i+1) q (by omega) (by omega) hs k (by omega) h2
 rw[cadenzaref18_Check,Je,Bdu h,Aa,if_neg (by rw[Bp];simp;omega),if_neg (by rw[Ar,Ac];simp;omega)]at hc
 have:=key l.length 0 Ap (by omega) (by have:=Am;omega) hc
 intro x hx
 obtain⟨k,hk,rfl⟩:=List.getElem_of_mem hx
 exact this k (by omega) hk
theorem Az4{bits:Int}(h:Ed bits){l:List Int32}(hl:l.length≤4000)(hc:cadenzaref18_Check bits l=some 0):width_Bytes bits l=some (bytesB bits l,0):=by
 have h1:=Bng h l hl (Bdh h hl hc) l.length 0 Ap (by omega) (by have:=Am;omega)
 rw[width_Bytes,Afs,Ayv h l hl,hc,Aa,if_neg (by rw[Ak];simp)]
 exact h1
theorem Bwt{bits:Int}(h:Ed bits)(x:Int32)(hr: -(hB bits)≤x.toInt∧x.toInt<hB bits):Aaa bits x=some (Aqr bits x.toInt):=by
 have hx:=Xh x
 have gu:∀z:Int,(Ad z:UInt8)=u8 z:=fun z=>rfl
 have hq:∀n:Int,0≤n→n≤20000000→Bt n (256:Int)=n/256∧Bt n (65536:Int)=n/65536:=by
  intro n h1 h2
  constructor<;>(rw[Afb,Int.tdiv_eq_ediv_of_nonneg h1,Bm (by omega) (by omega)])
 have hm:∀n:Int,0≤n→En n (256:Int)=n %256:=fun n h1=>by rw[En,Int.tmod_eq_emod_of_nonneg h1]
 rw[Aaa,Adh,Dn]
 obtain rfl|rfl|rfl:=h
 ·rw[if_pos (by rw[Bp];rfl),Ag (by omega) (by omega),gu,Aqr,if_pos rfl]
 ·have hh:hB 16=32768:=rfl
  rw[hh]at hr
  have hp:∀n:Int,0≤n→n≤70000→u8 n=u8 x.toInt→u8 (n/256)=u8 (x.toInt/256)→Hx 16 n=some (Aqr 16 x.toInt):=by
   intro n h1 h2 h3 h4
   rw[Hx,Qs,if_neg (by rw[Bp];decide),hm n h1,(hq n h1 (by omega)).1,hm _ (by omega),gu,gu,Bf4,Bf4,h3,h4,Aqr,if_neg (by decide),if_pos rfl]
  rw[if_neg (by rw[Bp];decide)]
  by_cases hn:x.toInt<0
  ·rw[if_pos (by rw[Af];simpa using hn),Bdu (.inr (.inl rfl)),Aa,hh,Hp (by omega) (by omega),Ag (by omega) (by omega)]
   refine hp _ (by omega) (by omega) ?_ ?_
   ·rw[u8,u8];congr 2;omega
   ·rw[u8,u8];congr 2;omega
  ·rw[if_neg (by rw[Af];simpa using hn)]
   exact hp _ (by omega) (by omega) rfl rfl
 ·have hh:hB 24=8388608:=rfl
  rw[hh]at hr
  have hp:∀n:Int,0≤n→n≤16777215→u8 n=u8 x.toInt→u8 (n/256)=u8 (x.toInt/256)→u8 (n/65536)=u8 (x.toInt/65536)→Hx 24 n=some (Aqr 24 x.toInt):=by
   intro n h1 h2 h3 h4 h5
   rw[Hx,Qs,if_pos (by rw[Bp];rfl),hm n h1,(hq n h1 (by omega)).1,(hq n h1 (by omega)).2,hm _ (by omega),gu,gu,gu,Bf4,Bf4,h3,h4,h5,Fc (by simp),Aa,Aqr,if_neg (by decide),if_neg (by decide)];rfl
  rw[if_neg (by rw[Bp];decide)]
  by_cases hn:x.toInt<0
  ·rw[if_pos (by rw[Af];simpa using hn),Bdu (.inr (.inr rfl)),Aa,hh,Hp (by omega) (by omega),Ag (by omega) (by omega)]
   refine hp _ (by omega) (by omega) ?_ ?_ ?_
   ·rw[u8,u8];congr 2;omega
   ·rw[u8,u8];congr 2;omega
   ·rw[u8,u8];congr 2;omega
  ·rw[if_neg (by rw[Af];simpa using hn)]
   exact hp _ (by omega) (by omega) rfl rfl rfl
theorem Bnl{bits:Int}(h:Ed bits)(l:List Int32)(hl:l.length≤4000)(hr:inR bits l):∀(j i q:Nat),i+j=l.length→j<q→Gi bits l q (i:Int) (bytesB bits (l.take i))=some (bytesB bits l,0)
 |0,i,q+1,hi,_=>by
  rw[Gi,Nh,if_neg (by rw[Af,Ac];simp;omega),List.take_of_length_le (by omega)];rfl
 |j+1,i,q+1,hi,hq=>by
  have hlt:i<l.length:=by omega
  have ih:=Bnl h l hl hr j (i+1) q (by omega) (by omega)
  have hlen:=Ak3 bits (l.take i)
  have hol:=Bij bits l[i].toInt
  rw[List.length_take]at hlen
  have e2:bytesB bits (l.take i++[l[i]])=bytesB bits (l.take i)++Aqr bits l[i].toInt:=by unfold bytesB;rw[List.flatMap_append,List.flatMap_singleton]
  rw[Aix hlt,e2]at ih
  rw[Gi,Nh,if_pos (by rw[Af,Ac];simp;omega),Ch hlt,Aa,Bwt h _ (hr l[i] (List.getElem_mem _)),Aa,Fc (by omega),Aa,Ag (by omega) (by omega)]
  exact ih
theorem Bdi{bits:Int}(h:Ed bits){l:List Int32}(hl:l.length≤4000)(hc:cadenzaref18_Check bits l=some 0):Tp bits l=some (bytesB bits l,0):=by
 have h1:=Bnl h l hl (Bdh h hl hc) l.length 0 Ap (by omega) (by have:=Am;omega)
 rw[Tp,Yy,hc,Aa,if_neg (by rw[Ak];simp)]
 exact h1
end Go.Pl
set_option linter.unusedVariables false
set_option linter.unusedSimpArgs false
namespace Go.Pl
open Go Go.Lv
def Ajg:List UInt8→Nat→Int×Int
 |[],n=>((n:Int),0)
 |c::r,n=>if 128≤c.toNat then(0,12)else Ajg r (128*n+c.toNat)
theorem Bm2:∀(l:List UInt8) (n k:Nat),n<128^k→0≤(Ajg l n).1∧(Ajg l n).1<((128^(k+l.length):Nat):Int)
 |[],n,k,h=>by simp[Ajg];exact_mod_cast h
 |c::r,n,k,h=>by
  rw[Ajg]
  split
  ·have:0<128^(k+(c::r).length):=Nat.pow_pos (by omega)
   exact⟨Int.le_refl _,by simp only;exact_mod_cast this⟩
  ·have:=Bm2 r (128*n+c.toNat) (k+1) (by rw[Nat.pow_succ];omega)
   rw[List.length_cons,show k+(r.length+1)=k+1+r.length by omega]
   exact this
theorem or7(n c:Nat)(hn:n<268435456)(hc:c<128):gor (Cj (n:Int) (GI.toZ (7:UInt64)).toNat) (c:Int)=((128*n+c:Nat):Int):=by
 have e:(GI.toZ (7:UInt64)).toNat=7:=rfl
 have h1:Cj (n:Int) 7=((2^7*n:Nat):Int):=by
  have:Cj (n:Int) 7=wrap64 ((n:Int)*2^7):=rfl
  rw[this,Bm (by omega) (by omega)];omega
 rw[e,h1]
 have h2:gor ((2^7*n:Nat):Int) (c:Int)=wrap64 ((BitVec.ofInt 64 ((2^7*n:Nat):Int)|||BitVec.ofInt 64 (c:Int)).toNat:Int):=rfl
 rw[h2,BitVec.toNat_or,BitVec.toNat_ofInt,BitVec.toNat_ofInt]
 have h3:(((2^7*n:Nat):Int) %((2^64:Nat):Int)).toNat=2^7*n:=by omega
 have h4:((c:Int) %((2^64:Nat):Int)).toNat=c:=by omega
 rw[h3,h4,←Nat.two_pow_add_eq_or_of_lt (by simpa using hc),Bm (by omega) (by omega)]
theorem Bmy(b:List UInt8)(hb:b.length=4):∀(j i q n:Nat),i+j=4→j<q→n<128^i→Ie b q (n:Int) (i:Int)=some (Ajg (b.drop i) n)
 |0,i,q+1,n,hi,_,_=>by
  rw[Ie,Qe,if_neg (by rw[Af,Ac];simp;omega),show b.drop i=[] by simp;omega];rfl
 |j+1,i,q+1,n,hi,hq,hn=>by
  have hlt:i<b.length:=by omega
  have hn2:n<268435456:=Nat.lt_of_lt_of_le hn (show 128^i≤128^4 from Nat.pow_le_pow_right (by omega) (by omega))
  rw[Ie,Qe,if_pos (by rw[Af,Ac];simp;omega),Ch hlt,Aa,drop_cons hlt,Ajg,Bqt]
  by_cases hc:128≤b[i].toNat
  ·rw[if_pos (by simp;omega),if_pos hc]
  ·rw[if_neg (by simp;omega),if_neg hc,Aec,or7 n _ hn2 (by omega),Ag (by omega) (by omega)]
   exact Bmy b hb j (i+1) q _ (by omega) (by omega) (by rw[Nat.pow_succ];omega)
theorem Brd(b:List UInt8)(hb:b.length=4):∀(j i q n:Nat),i+j=4→j<q→n<128^i→Ga b q (n:Int) (i:Int)=some (Ajg (b.drop i) n)
 |0,i,q+1,n,hi,_,_=>by
  rw[Ga,Ns,if_neg (by rw[Af];simp;omega),show b.drop i=[] by simp;omega];rfl
 |j+1,i,q+1,n,hi,hq,hn=>by
  have hlt:i<b.length:=by omega
  have hn2:n<268435456:=Nat.lt_of_lt_of_le hn (show 128^i≤128^4 from Nat.pow_le_pow_right (by omega) (by omega))
  rw[Ga,Ns,if_pos (by rw[Af];simp;omega),Ch hlt,Aa,drop_cons hlt,Ajg,Bqz]
  have h128:(128:UInt8).toNat=128:=rfl
  by_cases hc:128≤b[i].toNat
  ·rw[if_pos (by simpa using hc),if_pos hc]
  ·have h3:=b[i].toNat_lt
   rw[if_neg (by simpa using hc),if_neg hc,Aa,Aec,Hp (by omega) (by omega),Ag (by omega) (by omega),Ag (by omega) (by omega)]
   have:=Brd b hb j (i+1) q (128*n+b[i].toNat) (by omega) (by omega) (by rw[Nat.pow_succ];omega)
   rw[←this];rfl
theorem Bkr(b:List UInt8)(hb:b.length=4):Aav b=some (Ajg b 0):=by
 have h:=Bmy b hb 4 0 Ap 0 (by omega) (by have:=Am;omega) (by simp)
 rw[Aav,Zw,if_neg (by rw[Ak,Ac];simp;omega),Aag];exact h
theorem Bpv(b:List UInt8)(hb:b.length=4):Tg b=some (Ajg b 0):=by
 have h:=Brd b hb 4 0 Ap 0 (by omega) (by have:=Am;omega) (by simp)
 rw[Tg,Zi,if_neg (by rw[Ak,Ac];simp;omega),Yj];exact h
theorem Bjs{b:List UInt8}(hb:b.length=4):0≤(Ajg b 0).1∧(Ajg b 0).1<268435456:=by
 have:=Bm2 b 0 0 (by simp)
 rw[hb]at this
 simpa using this
theorem Alh(s p:List UInt8):Hj s p=some (decide (p.length≤s.length∧s.take p.length=p)):=by
 rw[Hj]
 by_cases h:p.length≤s.length
 ·rw[if_pos (by rw[Cs,Ac,Ac];simp;omega),show Ac p=(p.length:Int)from rfl,Jd (by omega) (by omega),Aa,Fp,Aa,Int.toNat_natCast]
  congr 1
  rw[Bool.eq_iff_iff];simp[h]
 ·rw[if_neg (by rw[Cs,Ac,Ac];simp;omega)]
  simp[h]
def Aq8(b:List UInt8)(n:Int):Int×Int:=
 if 4000<n then(0,4)else if(b.length:Int)<n then(0,24)else
 if b.getD 5 0=16∧(b.take n.toNat).drop (n-10).toNat≠ [51,68,73]++part b 3 7 then(0,12)else(n,0)
def Bct(b:List UInt8)(r:Int):Int×Int:=Aq8 b (r+10+(if b.getD 5 0=16 then 10 else 0))
def Al0(b:List UInt8):Int×Int:=
 if ¬(3≤b.length∧b.take 3=[73,68,51])then(0,6)else if b.length<10 then(0,24)else
 if(Ajg (part b 6 4) 0).2≠0∨b.getD 4 0≠0∨¬((b.getD 5 0=0∧2≤(b.getD 3 0).toNat∧(b.getD 3 0).toNat≤4)∨(b.getD 5 0=16∧b.getD 3 0=4))then(0,12)else
 Bct b (Ajg (part b 6 4) 0).1
theorem Asf{b:List UInt8}{i:Nat}(h:i<b.length):getI b (i:Int)=some (b.getD i 0):=by
 rw[Ch h];simp[List.getD_eq_getElem?_getD,h]
theorem Jy{b:List UInt8}(a w:Nat)(h:a+w≤b.length):Bv b (a:Int) ((a+w:Nat):Int)=some (part b a w):=by
 rw[Wy (by omega) (by omega) (by omega)];rfl
theorem Bvx(b:List UInt8)(r:Int)(h10:10≤b.length)(h0:0≤r)(h1:r<268435456):Pr b r=some (Bct b r):=by
 have g5:getI b (5:Int)=some (b.getD 5 0):=Asf (i:=5) (by omega)
 have key:∀n:Int,10≤n→n<268435500→Oo b n=some (Aq8 b n):=by
  intro n hn hn2
  rw[Oo,Acb,Aq8]
  by_cases c1:4000<n
  ·rw[if_pos (by rw[Ar];simpa using c1),if_pos c1]
  ·rw[if_neg (by rw[Ar];simpa using c1),if_neg c1]
   by_cases c2:(b.length:Int)<n
   ·rw[if_pos (by rw[Af,Ac];simpa using c2),if_pos c2]
   ·have e3:Bv b (3:Int) (10:Int)=some (part b 3 7):=Jy 3 7 (by omega)
    rw[if_neg (by rw[Af,Ac];simpa using c2),if_neg c2,g5,Aa]
    by_cases c3:b.getD 5 0=16
    ·rw[if_pos (by rw[Ali];simpa using c3),Bi (by omega) (by omega),Wy (by omega) (by omega) (by omega),Aa,e3,Aa,Fc (by rw[Ce (by omega)];simp),Aa]
     by_cases c4:(b.take n.toNat).drop (n-10).toNat=[51,68,73]++part b 3 7
     ·rw[if_neg (by simpa using c4),if_neg (by intro h;exact h.2 c4)]
     ·rw[if_pos (by simpa using c4),if_pos ⟨c3,c4⟩]
    ·rw[if_neg (by rw[Ali];simpa using c3),if_neg (fun h=>c3 h.1)]
 rw[Pr,Abk,g5,Aa,Bct]
 by_cases c3:b.getD 5 0=16
 ·rw[if_pos (by rw[Ali];simpa using c3),Ag (by rw[Ag]<;>omega) (by rw[Ag]<;>omega),Ag (by omega) (by omega),key _ (by omega) (by omega),if_pos c3,show 10+r+10=r+10+10 by omega]
 ·rw[if_neg (by rw[Ali];simpa using c3),Ag (by omega) (by omega),key _ (by omega) (by omega),if_neg c3,show 10+r=r+10+0 by omega]
theorem Bql(b:List UInt8)(hb:b.length<4611686018427387904):Xk b=some (Al0 b):=by
 rw[Xk,Abm,Al0]
 by_cases h3:3≤b.length
 ·rw[if_neg (by rw[Af,Ac];simp;omega),Jd (by omega) (by omega),Aa]
  by_cases hp:b.take 3=[73,68,51]
  ·rw[if_neg (by simpa using hp),if_neg (by simp[h3,hp]),Abl,Abc]
   by_cases h10:b.length<10
   ·rw[if_pos (by rw[Af,Ac];simp;omega),if_pos h10]
   ·have e6:Bv b (6:Int) (10:Int)=some (part b 6 4):=Jy 6 4 (by omega)
    have g3:getI b (3:Int)=some (b.getD 3 0):=Asf (i:=3) (by omega)
    have g4:getI b (4:Int)=some (b.getD 4 0):=Asf (i:=4) (by omega)
    have g5:getI b (5:Int)=some (b.getD 5 0):=Asf (i:=5) (by omega)
    obtain⟨v1,v2⟩:=Bjs (b:=part b 6 4) (Ce (by omega))
    rw[if_neg (by rw[Af,Ac];simp;omega),if_neg h10,e6,Aa,Bpv _ (Ce (by omega)),Aa]
    have ht:=Bvx b (Ajg (part b 6 4) 0).1 (by omega) v1 v2
    generalize Ajg (part b 6 4) 0=v at*
    obtain⟨v,e⟩:=v
    simp only at ht v1 v2⊢
    simp only[Aa,g3,g4,g5,ht]
    generalize b.getD 3 0=x at*
    generalize b.getD 4 0=y at*
    generalize b.getD 5 0=z at*
    simp only[Bkv,Bx5,Bqt,Ak]
    by_cases he:e=0<;>by_cases hy:y=0<;>by_cases hz:z=0<;>by_cases hz2:z=16<;>by_cases hx:x=4<;>by_cases hx2:x.toNat<2<;>by_cases hx4:4<x.toNat<;>simp_all<;>(rw[if_neg (by omega),if_neg (by omega)])
  ·rw[if_pos (by simpa using hp),if_pos (by simp[hp])]
 ·rw[if_pos (by rw[Af,Ac];simp;omega),if_pos (by simp[h3])]
theorem Bcn(b:List UInt8)(n:Int)(h10:10≤b.length)(hn:10≤n)(hn2:n<268435500):So b (b.getD 5 0) n=some (Aq8 b n):=by
 rw[So,Alu]
 by_cases c1:4000<n
 ·rw[if_pos (by rw[Ar];simpa using c1),Aq8,if_pos c1]
 ·rw[if_neg (by rw[Ar];simpa using c1)]
  by_cases c2:(b.length:Int)<n
  ·rw[if_pos (by rw[Af,Ac];simpa using c2),Aq8,if_neg c1,if_pos c2]
  ·have e3:Bv b (3:Int) (10:Int)=some (part b 3 7):=Jy 3 7 (by omega)
   rw[if_neg (by rw[Af,Ac];simpa using c2)]
   by_cases c3:b.getD 5 0=16
   ·have hl:((b.take n.toNat).drop (n-10).toNat).length=10:=by simp;omega
    have ht:Aq8 b n=if(b.take n.toNat).drop (n-10).toNat≠ [51,68,73]++part b 3 7 then(0,12)else(n,0):=by rw[Aq8,if_neg c1,if_neg c2];simp only[c3,true_and]
    rw[if_pos (by rw[Ali];simpa using c3),Bi (by omega) (by omega),Wy (by omega) (by omega) (by omega),Aa,ht]
    generalize(b.take n.toNat).drop (n-10).toNat=f at*
    rw[Jd (by omega) (by omega),Aa,Px (by omega) (by omega),Aa,e3,Aa,Fp,Aa]
    have hf:f=f.take 3++f.drop 3:=(List.take_append_drop 3 f).symm
    by_cases c4:f=[51,68,73]++part b 3 7
    ·subst c4
     simp
    ·by_cases c5:f.take 3=[51,68,73]
     ·have:f.drop 3≠part b 3 7:=fun h=>c4 (by rw[hf,c5,h])
      simp only[List.cons_append,List.nil_append]at c4
      simp[c4,c5,this]
     ·simp only[List.cons_append,List.nil_append]at c4
      simp[c4,c5]
   ·rw[if_neg (by rw[Ali];simpa using c3),Aq8,if_neg c1,if_neg c2,if_neg (fun h=>c3 h.1)]
theorem Brt(b:List UInt8)(r:Int)(h10:10≤b.length)(h0:0≤r)(h1:r<268435456):Sm b r (b.getD 5 0)=some (Bct b r):=by
 rw[Sm,Acf,Bct]
 by_cases c3:b.getD 5 0=16
 ·rw[if_pos (by rw[Ali];simpa using c3),Ag (by rw[Ag]<;>omega) (by rw[Ag]<;>omega),Ag (by omega) (by omega),Bcn b _ h10 (by omega) (by omega),if_pos c3]
 ·rw[if_neg (by rw[Ali];simpa using c3),Ag (by omega) (by omega),Bcn b _ h10 (by omega) (by omega),if_neg c3];simp
theorem Bpz(b:List UInt8)(hb:b.length<4611686018427387904):Ad4 b=some (Al0 b):=by
 rw[Ad4,Sp,Alh,Aa]
 by_cases hp:3≤b.length∧b.take 3=[73,68,51]
 ·rw[if_neg (by simpa using hp)]
  by_cases h10:b.length<10
  ·rw[if_pos (by rw[Af,Ac];simp;omega),Al0,if_neg (fun h=>h hp),if_pos h10]
  ·have e6:Bv b (6:Int) (10:Int)=some (part b 6 4):=Jy 6 4 (by omega)
   have g3:getI b (3:Int)=some (b.getD 3 0):=Asf (i:=3) (by omega)
   have g4:getI b (4:Int)=some (b.getD 4 0):=Asf (i:=4) (by omega)
   have g5:getI b (5:Int)=some (b.getD 5 0):=Asf (i:=5) (by omega)
   obtain⟨v1,v2⟩:=Bjs (b:=part b 6 4) (Ce (by omega))
   have ht:=Brt b (Ajg (part b 6 4) 0).1 (by omega) v1 v2
   rw[if_neg (by rw[Af,Ac];simp;omega),g3,Aa,g5,Aa,Acz,Ac6,e6,Aa,Bkr _ (Ce (by omega)),Aa,Al0,if_neg (fun h=>h hp),if_neg h10]
   generalize Ajg (part b 6 4) 0=v at*
   obtain⟨v,e⟩:=v
   simp only at ht v1 v2⊢
   simp only[Aa,g4,Ac4,Ac3]
   generalize b.getD 3 0=x at*
   generalize b.getD 4 0=y at*
   generalize b.getD 5 0=z at*
   simp only[Bkv,Byu,Ali,Bqz,Ak]
   have e2:(2:UInt8).toNat=2:=rfl
   have e4:(4:UInt8).toNat=4:=rfl
   by_cases he:e=0<;>by_cases hy:y=0<;>by_cases hz:z=0<;>by_cases hz2:z=16<;>by_cases hx:x=4<;>by_cases hx2:2≤x.toNat<;>by_cases hx4:x.toNat≤4<;>simp_all
 ·rw[if_pos (by rw[Bool.not_eq_true',decide_eq_false_iff_not];exact hp),Al0,if_pos hp]
theorem Bqu{b:List UInt8}{n:Int}(h:Al0 b=(n,0)):10≤n∧n≤b.length∧n≤4000:=by
 unfold Al0 at h
 split at h; · simp at h
 split at h; · simp at h
 split at h; · simp at h
 rename_i h10 _
 obtain⟨v1,v2⟩:=Bjs (b:=part b 6 4) (Ce (by omega))
 unfold Bct at h
 generalize hm:(Ajg (part b 6 4) 0).1+10+(if b.getD 5 0=16 then 10 else 0)=m at h
 unfold Aq8 at h
 split at h; · simp at h
 split at h; · simp at h
 split at h; · simp at h
 simp only[Prod.mk.injEq,and_true]at h
 subst h
 refine⟨?_,by omega,by omega⟩
 rw[←hm]
 split<;>omega
end Go.Pl
set_option linter.unusedVariables false
set_option linter.unusedSimpArgs false
namespace Go.Pl
open Go Go.Lv
def APE:List UInt8:=[65,80,69,84,65,71,69,88]
def Nd(n m fl:Nat):List UInt8:=APE++leB 2000 4++leB (n+32) 4++leB m 4++leB fl 4++List.replicate 8 0
theorem Agx{n:Nat}(h:n<18446744073709551616):(UInt64.ofNat n).toNat=n:=by rw[UInt64.toNat_ofNat',Nat.mod_eq_of_lt h]
theorem Aqf(n m:Int)(fl:UInt64)(c:UInt64)(i q:Nat)(acc:List UInt8)(hi:i<6)(hc:getI ([(2000:UInt64),(Ad (Ae n (32:Int)):UInt64),(Ad m:UInt64),fl,(0:UInt64),(0:UInt64)]:List UInt64) (i:Int)=some c)(h:c.toNat<4294967296)(ha:acc.length≤1000000):
  Ty n m fl (q+1) (i:Int) acc=Ty n m fl q ((i+1:Nat):Int) (acc++leB c.toNat 4):=by
 have hb:=Bib c 4 (by omega) (by omega) (by simpa using h)
 rw[Ty,Akj,if_pos (by rw[Af,Ac];simp;omega),hc,Aa,Aa,show((4:Int))=((4:Nat):Int)from rfl,hb,Aa]
 simp only
 rw[Fc (by rw[Ko];omega),Aa,Ag (by omega) (by omega)];rfl
theorem Ba6(n m:Nat)(fl:UInt64)(hn:n≤3000)(hm:m≤1000)(hf:fl.toNat<4294967296):Aqg (n:Int) (m:Int) fl=some (Nd n m fl.toNat):=by
 have e1:(Ad (Ae (n:Int) (32:Int)):UInt64).toNat=n+32:=by rw[Ag (by omega) (by omega),show(n:Int)+32=((n+32:Nat):Int) by omega,Ui,Agx (by omega)]
 have e2:(Ad (m:Int):UInt64).toNat=m:=by rw[Ui,Agx (by omega)]
 have hF:Ap=(Ap-7)+1+1+1+1+1+1+1:=by have:=Am;omega
 rw[Aqg,Ast,Ar0,hF]
 rw[show((0:Int))=((0:Nat):Int)from rfl,Aqf n m fl 2000 0 _ _ (by omega) rfl (by decide) (by simp),Aqf n m fl _ 1 _ _ (by omega) rfl (by rw[e1];omega) (by simp[Ko]),Aqf n m fl _ 2 _ _ (by omega) rfl (by rw[e2];omega) (by simp[Ko]),
  Aqf n m fl fl 3 _ _ (by omega) rfl hf (by simp[Ko]),Aqf n m fl 0 4 _ _ (by omega) rfl (by decide) (by simp[Ko]),Aqf n m fl 0 5 _ _ (by omega) rfl (by decide) (by simp[Ko]),e1,e2]
 rw[Ty,Akj,if_neg (by rw[Af,Ac];simp),Asp,Bbf,Nd]
 have z:leB (0:UInt64).toNat 4++leB (0:UInt64).toNat 4=List.replicate 8 0:=by decide
 have z2:leB (2000:UInt64).toNat 4=leB 2000 4:=rfl
 rw[List.append_assoc _ (leB (0:UInt64).toNat 4),z,z2];rfl
theorem Bni(n m:Nat)(fl:UInt64)(hn:n≤3000)(hm:m≤1000)(hf:fl.toNat<4294967296):La (n:Int) (m:Int) fl=some (Nd n m fl.toNat):=by
 have e1:(Ad (Ae (n:Int) (32:Int)):UInt64).toNat=n+32:=by rw[Ag (by omega) (by omega),show(n:Int)+32=((n+32:Nat):Int) by omega,Ui,Agx (by omega)]
 have e2:(Ad (m:Int):UInt64).toNat=m:=by rw[Ui,Agx (by omega)]
 have w:∀c:UInt64,Ci c 4=some (leB c.toNat 4):=fun c=>Azd c 4 (by omega)
 have z2:leB (2000:UInt64).toNat 4=leB 2000 4:=rfl
 rw[La]
 simp only[w,e1,e2,Aa]
 rw[Fc (by simp[Ko]),Aa,Fc (by simp[Ko]),Aa,Fc (by simp[Ko]),Aa,Fc (by simp[Ko]),Aa,Bao (by omega) (by omega),Aa,Fc (by simp[Ko]),Aa,z2];rfl
theorem Ad9{b:List UInt8}{a w k:Nat}(h:a+w≤k):part (b.take k) a w=part b a w:=by rw[part,part,List.take_take,Nat.min_eq_left h]
def Ac2(b:List UInt8):Bool:=decide (Dg (part b 12 4)<32∨3032<Dg (part b 12 4)∨1000<Dg (part b 16 4))
theorem Br4(b:List UInt8)(h:20≤b.length):(((Bq (leU (part b 12 4)) (32:UInt64))||(Ev (leU (part b 12 4)) (3032:UInt64)))||(Ev (leU (part b 16 4)) (1000:UInt64)))=Ac2 b:=by
 rw[Ax0,Ahi,Ahi,Ag1 (by rw[Ce (by omega)];omega),Ag1 (by rw[Ce (by omega)];omega),Ac2]
 show((decide (Dg (part b 12 4)<32)||decide (3032<Dg (part b 12 4)))||decide (1000<Dg (part b 16 4)))=_
 simp[Bool.or_assoc]
theorem Ayr(b:List UInt8)(h:20≤b.length)(hb:Ac2 b=false):Ah (Ad (leU (part b 12 4)):Int) (32:Int)=((Dg (part b 12 4)-32:Nat):Int)∧(Ad (leU (part b 16 4)):Int)=((Dg (part b 16 4):Nat):Int)∧Dg (part b 12 4)-32≤3000∧Dg (part b 16 4)≤1000:=by
 simp only[Ac2,decide_eq_false_iff_not]at hb
 refine⟨?_,Aaq (by rw[Ce (by omega)];omega),by omega,by omega⟩
 rw[Aaq (by rw[Ce (by omega)];omega),Bi (by omega) (by omega)];omega
theorem Akr(b:List UInt8)(fl:UInt64)(h:20≤b.length)(hl:b.length<4611686018427387904)(hf:fl.toNat<4294967296):
  Aed b fl=some (if Ac2 b=true then(0,0,false)else(((Dg (part b 12 4)-32:Nat):Int),((Dg (part b 16 4):Nat):Int),b==Nd (Dg (part b 12 4)-32) (Dg (part b 16 4)) fl.toNat)):=by
 have a1:Ajn b 12 4=some (leU (part b 12 4),0):=Bd9 b 12 4 (by omega) (by omega) (by omega) hl
 have a2:Ajn b 16 4=some (leU (part b 16 4),0):=Bd9 b 16 4 (by omega) (by omega) (by omega) hl
 rw[Aed,a1,Aa]
 simp only
 rw[a2,Aa]
 simp only
 rw[Br4 b h]
 cases hb:Ac2 b with
 |true=>rfl
 |false=>
  obtain⟨i1,i2,i3,i4⟩:=Ayr b h hb
  rw[i1,i2,Ba6 _ _ _ i3 i4 hf]
  rfl
theorem Brc(b:List UInt8)(h:20≤b.length)(hl:b.length<4611686018427387904):
  We b=some (if Ac2 b=true then(0,0,false)else(((Dg (part b 12 4)-32:Nat):Int),((Dg (part b 16 4):Nat):Int),true)):=by
 have a1:Bv b 12 16=some (part b 12 4):=Jy 12 4 (by omega)
 have a2:Bv b 16 20=some (part b 16 4):=Jy 16 4 (by omega)
 rw[We,a1,Aa,Bh4 _ (by rw[Ce (by omega)];omega),Aa,a2,Aa,Bh4 _ (by rw[Ce (by omega)];omega),Aa,Br4 b h]
 cases hb:Ac2 b with
 |true=>rfl
 |false=>
  obtain⟨i1,i2,i3,i4⟩:=Ayr b h hb
  rw[i1,i2];rfl
def Lu(b:List UInt8):Int×Int:=
 if ¬(8≤b.length∧b.take 8=APE)then(0,6)else if b.length<32 then(0,24)else
 if Ac2 b=true∨b.take 32≠Nd (Dg (part b 12 4)-32) (Dg (part b 16 4)) 2684354560 then(0,12)else
 if b.length<Dg (part b 12 4)+32 then(0,24)else
 if(b.take (Dg (part b 12 4)+32)).drop (Dg (part b 12 4))≠Nd (Dg (part b 12 4)-32) (Dg (part b 16 4)) 2147483648 then(0,12)else(((Dg (part b 12 4)+32:Nat):Int),0)
theorem Bi1(b:List UInt8):Ac2 (b.take 32)=Ac2 b:=by rw[Ac2,Ac2,Ad9 (by omega),Ad9 (by omega)]
section
variable {b:List UInt8}
theorem fa1(h:¬(8≤b.length∧b.take 8=APE)):Lu b=(0,6):=by rw[Lu,if_pos h]
theorem fa2(h:8≤b.length∧b.take 8=APE)(h2:b.length<32):Lu b=(0,24):=by rw[Lu,if_neg (fun h'=>h' h),if_pos h2]
variable (h:8≤b.length∧b.take 8=APE) (h2:¬b.length<32)
include h h2
theorem fa3(h3:Ac2 b=true):Lu b=(0,12):=by rw[Lu,if_neg (fun h'=>h' h),if_neg h2,if_pos (.inl h3)]
theorem fa4(h4:b.take 32≠Nd (Dg (part b 12 4)-32) (Dg (part b 16 4)) 2684354560):Lu b=(0,12):=by rw[Lu,if_neg (fun h'=>h' h),if_neg h2,if_pos (.inr h4)]
variable (h3:Ac2 b=false) (h4:b.take 32=Nd (Dg (part b 12 4)-32) (Dg (part b 16 4)) 2684354560)
include h3 h4
theorem fa5(h5:b.length<Dg (part b 12 4)+32):Lu b=(0,24):=by
 rw[Lu,if_neg (fun h'=>h' h),if_neg h2,if_neg (fun h'=>h'.elim (fun e=>by rw[h3]at e;cases e) fun e=>e h4),if_pos h5]
theorem fa6(h5:¬b.length<Dg (part b 12 4)+32)(h6:(b.take (Dg (part b 12 4)+32)).drop (Dg (part b 12 4))≠Nd (Dg (part b 12 4)-32) (Dg (part b 16 4)) 2147483648):Lu b=(0,12):=by
 rw[Lu,if_neg (fun h'=>h' h),if_neg h2,if_neg (fun h'=>h'.elim (fun e=>by rw[h3]at e;cases e) fun e=>e h4),if_neg h5,if_pos h6]
theorem fa7(h5:¬b.length<Dg (part b 12 4)+32)(h6:(b.take (Dg (part b 12 4)+32)).drop (Dg (part b 12 4))=Nd (Dg (part b 12 4)-32) (Dg (part b 16 4)) 2147483648):Lu b=(((Dg (part b 12 4)+32:Nat):Int),0):=by
 rw[Lu,if_neg (fun h'=>h' h),if_neg h2,if_neg (fun h'=>h'.elim (fun e=>by rw[h3]at e;cases e) fun e=>e h4),if_neg h5,if_neg (fun h'=>h' h6)]
end
theorem Bjq(b:List UInt8)(hl:b.length<4611686018427387904):Aqb b=some (Lu b):=by
 rw[Aqb,Alh,Aa]
 by_cases hp:8≤b.length∧b.take 8=APE
 ·rw[if_neg (by simpa [APE]using hp)]
  by_cases h32:b.length<32
  ·rw[if_pos (by rw[Af,Ac];simp;omega),fa2 hp h32]
  ·have t:=Akr (b.take 32) 2684354560 (by simp;omega) (by simp;omega) (by decide)
   rw[Bi1,Ad9 (by omega),Ad9 (by omega)]at t
   rw[if_neg (by rw[Af,Ac];simp;omega),Jd (by omega) (by omega),Aa,show(32:Int).toNat=32 from rfl,t,Aa]
   cases hb:Ac2 b with
   |true=>rw[fa3 hp h32 hb];simp
   |false=>
    obtain⟨i1,i2,i3,i4⟩:=Ayr b (by omega) hb
    have i5:32≤Dg (part b 12 4):=by simp only[Ac2,decide_eq_false_iff_not]at hb;omega
    simp only[Bool.false_eq_true,if_false,false_or]
    by_cases c1:b.take 32=Nd (Dg (part b 12 4)-32) (Dg (part b 16 4)) 2684354560
    ·have c1':b.take 32=Nd (Dg (part b 12 4)-32) (Dg (part b 16 4)) (2684354560:UInt64).toNat:=c1
     rw[if_neg (by simpa using c1'),Ag (by omega) (by omega)]
     have e1:((Dg (part b 12 4)-32:Nat):Int)+64=((Dg (part b 12 4)+32:Nat):Int):=by omega
     rw[e1]
     by_cases c2:b.length<Dg (part b 12 4)+32
     ·rw[if_pos (by rw[Af,Ac];simp;omega),fa5 hp h32 hb c1 c2]
     ·rw[if_neg (by rw[Af,Ac];simp;omega),Bi (by omega) (by omega),Wy (by omega) (by omega) (by omega),Aa,Ba6 _ _ _ i3 i4 (by decide),Aa,Fp,Aa]
      rw[show(((Dg (part b 12 4)+32:Nat):Int)).toNat=Dg (part b 12 4)+32 by omega,show(((Dg (part b 12 4)+32:Nat):Int)-32).toNat=Dg (part b 12 4) by omega]
      by_cases c3:(b.take (Dg (part b 12 4)+32)).drop (Dg (part b 12 4))=Nd (Dg (part b 12 4)-32) (Dg (part b 16 4)) 2147483648
      ·have c3':(b.take (Dg (part b 12 4)+32)).drop (Dg (part b 12 4))=Nd (Dg (part b 12 4)-32) (Dg (part b 16 4)) (2147483648:UInt64).toNat:=c3
       rw[if_neg (by simpa using c3'),fa7 hp h32 hb c1 c2 c3]
      ·have c3':¬(b.take (Dg (part b 12 4)+32)).drop (Dg (part b 12 4))=Nd (Dg (part b 12 4)-32) (Dg (part b 16 4)) (2147483648:UInt64).toNat:=c3
       rw[if_pos (by simpa using c3'),fa6 hp h32 hb c1 c2 c3]
    ·have c1':¬b.take 32=Nd (Dg (part b 12 4)-32) (Dg (part b 16 4)) (2684354560:UInt64).toNat:=c1
     rw[if_pos (by simpa using c1'),fa4 hp h32 c1]
 ·rw[if_pos (by rw[Bool.not_eq_true',decide_eq_false_iff_not];exact hp),fa1 hp]
theorem Bpk(b:List UInt8)(hl:b.length<4611686018427387904):Tl b=some (Lu b):=by
 rw[Tl,Ym]
 by_cases h8:8≤b.length
 ·rw[if_neg (by rw[Af,Ac];simp;omega),Jd (by omega) (by omega),Aa,show(8:Int).toNat=8 from rfl]
  by_cases ha:b.take 8=APE
  ·have hp:=And.intro h8 ha
   rw[if_neg (by simpa [APE]using ha),Yo,Ze]
   by_cases h32:b.length<32
   ·rw[if_pos (by rw[Af,Ac];simp;omega),fa2 hp h32]
   ·have t:=Brc (b.take 32) (by simp;omega) (by simp;omega)
    rw[Bi1,Ad9 (by omega),Ad9 (by omega)]at t
    rw[if_neg (by rw[Af,Ac];simp;omega),Jd (by omega) (by omega),Aa,show(32:Int).toNat=32 from rfl,t,Aa]
    cases hb:Ac2 b with
    |true=>rw[fa3 hp h32 hb];simp
    |false=>
     obtain⟨i1,i2,i3,i4⟩:=Ayr b (by omega) hb
     have i5:32≤Dg (part b 12 4):=by simp only[Ac2,decide_eq_false_iff_not]at hb;omega
     simp only[Bool.false_eq_true,if_false,false_or,Aa,Bool.not_true]
     rw[Ag6,Bni _ _ _ i3 i4 (by decide),Aa,Aa]
     by_cases c1:b.take 32=Nd (Dg (part b 12 4)-32) (Dg (part b 16 4)) 2684354560
     ·have c1':b.take 32=Nd (Dg (part b 12 4)-32) (Dg (part b 16 4)) (2684354560:UInt64).toNat:=c1
      rw[if_neg (by simpa using c1'),Zj,Yi,Ag (by omega) (by omega)]
      have e1:64+((Dg (part b 12 4)-32:Nat):Int)=((Dg (part b 12 4)+32:Nat):Int):=by omega
      rw[e1]
      by_cases c2:b.length<Dg (part b 12 4)+32
      ·rw[if_pos (by rw[Af,Ac];simp;omega),fa5 hp h32 hb c1 c2]
      ·rw[if_neg (by rw[Af,Ac];simp;omega),Bi (by omega) (by omega),Wy (by omega) (by omega) (by omega),Aa,Agp,if_pos rfl,Bni _ _ _ i3 i4 (by decide),Aa,Aa]
       rw[show(((Dg (part b 12 4)+32:Nat):Int)).toNat=Dg (part b 12 4)+32 by omega,show(((Dg (part b 12 4)+32:Nat):Int)-32).toNat=Dg (part b 12 4) by omega]
       by_cases c3:(b.take (Dg (part b 12 4)+32)).drop (Dg (part b 12 4))=Nd (Dg (part b 12 4)-32) (Dg (part b 16 4)) 2147483648
       ·have c3':(b.take (Dg (part b 12 4)+32)).drop (Dg (part b 12 4))=Nd (Dg (part b 12 4)-32) (Dg (part b 16 4)) (2147483648:UInt64).toNat:=c3
        rw[if_neg (by simpa using c3'),fa7 hp h32 hb c1 c2 c3]
       ·have c3':¬(b.take (Dg (part b 12 4)+32)).drop (Dg (part b 12 4))=Nd (Dg (part b 12 4)-32) (Dg (part b 16 4)) (2147483648:UInt64).toNat:=c3
        rw[if_pos (by simpa using c3'),fa6 hp h32 hb c1 c2 c3]
     ·have c1':¬b.take 32=Nd (Dg (part b 12 4)-32) (Dg (part b 16 4)) (2684354560:UInt64).toNat:=c1
      rw[if_pos (by simpa using c1'),fa4 hp h32 c1]
  ·rw[if_pos (by simpa [APE]using ha),fa1 (fun h=>ha h.2)]
 ·rw[if_pos (by rw[Af,Ac];simp;omega),fa1 (fun h=>h8 h.1)]
theorem Bol{b:List UInt8}{n:Int}(h:Lu b=(n,0)):64≤n∧n≤b.length:=by
 unfold Lu at h
 split at h; · simp at h
 split at h; · simp at h
 split at h; · simp at h
 rename_i hb
 split at h; · simp at h
 split at h; · simp at h
 simp only[Prod.mk.injEq,and_true]at h
 have hb':¬Ac2 b=true:=fun e=>hb (.inl e)
 simp only[Ac2,decide_eq_true_eq]at hb'
 omega
end Go.Pl
set_option linter.unusedVariables false
set_option linter.unusedSimpArgs false
namespace Go.Pl
open Go Go.Lv
def Dm(b:List UInt8):Int×Int:=if(Al0 b).2≠6 then Al0 b else Lu b
theorem size_eq(b:List UInt8)(hl:b.length<4611686018427387904):Ox b=some (Dm b):=by
 rw[Ox,Bpz b hl,Aa,Bjq b hl]
 by_cases h:(Al0 b).2=6
 ·simp[Dm,h,Ak]
 ·simp[Dm,h,Ak]
theorem Bb9{b:List UInt8}{n:Int}(h:Dm b=(n,0)):10≤n∧n≤b.length:=by
 unfold Dm at h
 split at h
 ·have:=Bqu h;omega
 ·have:=Bol h;omega
def Cd(b:List UInt8):Nat→Nat→List Int×Int
 |0,_=>([],6)
 |j+1,p=>if(Dm (b.drop p)).2=6 then([],0)else if(Dm (b.drop p)).2≠0 then([],(Dm (b.drop p)).2)else
  if 4000<(p:Int)+(Dm (b.drop p)).1 then([],4)else
  if(Cd b j (p+(Dm (b.drop p)).1.toNat)).2=0 then((Dm (b.drop p)).1::(Cd b j (p+(Dm (b.drop p)).1.toNat)).1,0)else([],(Cd b j (p+(Dm (b.drop p)).1.toNat)).2)
theorem Avd(b:List UInt8):∀(j p:Nat),p≤b.length→p≤4000→(Cd b j p).2=0→(∀x∈(Cd b j p).1,10≤x)∧(p:Int)+(Cd b j p).1.sum≤b.length∧(p:Int)+(Cd b j p).1.sum≤4000
 |0,p,_,_,h=>by simp[Cd]at h
 |j+1,p,hp,hq,h=>by
  rw[Cd]at h⊢
  split at h
  ·rename_i h6;rw[if_pos h6];simp;omega
  ·rename_i h6
   split at h
   ·rename_i h0;exact absurd h h0
   ·rename_i h0
    rw[if_neg h6,if_neg h0]
    have hz:Dm (b.drop p)=((Dm (b.drop p)).1,0):=by rw[Prod.ext_iff];exact⟨rfl,Classical.not_not.1 h0⟩
    have hs:=Bb9 hz
    rw[List.length_drop]at hs
    split at h
    ·simp at h
    ·rename_i h4
     rw[if_neg h4]
     split at h
     ·rename_i h00
      rw[if_pos h00]
      obtain⟨i1,i2,i3⟩:=Avd b j _ (by omega) (by omega) h00
      refine⟨fun x hx=>?_,?_,?_⟩
      ·rcases List.mem_cons.1 hx with rfl|hx
       ·exact hs.1
       ·exact i1 x hx
      ·simp only[List.sum_cons];omega
      ·simp only[List.sum_cons];omega
     ·rename_i h00;exact absurd h h00
def Boc(b:List UInt8)(j p:Nat):Int×Int:=if(Cd b j p).2=0 then((p:Int)+(Cd b j p).1.sum,0)else(0,(Cd b j p).2)
theorem Ayk(b:List UInt8)(hl:b.length<4611686018427387904):∀(j p q:Nat),p≤b.length→p≤4000→b.length-p<j→j≤q→Mx b q (p:Int)=some (Boc b j p)
 |0,p,q,_,_,h,_=>by omega
 |j+1,p,q,hp,hp4,hj,hq=>by
  obtain⟨q,rfl⟩:∃k,q=k+1:=⟨q-1,by omega⟩
  rw[Mx,Px (by omega) (by omega),Aa,Int.toNat_natCast,size_eq _ (by simp;omega),Aa,Bp,Bp,Ak,Boc]
  by_cases h6:(Dm (b.drop p)).2=6
  ·rw[if_pos (by simpa using h6)]
   have:Cd b (j+1) p=([],0):=by rw[Cd,if_pos h6]
   rw[this];simp
  ·rw[if_neg (by simpa using h6)]
   by_cases h0:(Dm (b.drop p)).2=0
   ·have hz:Dm (b.drop p)=((Dm (b.drop p)).1,0):=by rw[Prod.ext_iff];exact⟨rfl,h0⟩
    have hs:=Bb9 hz
    rw[List.length_drop]at hs
    rw[Ag (by omega) (by omega),Ar]
    by_cases h4:4000<(p:Int)+(Dm (b.drop p)).1
    ·rw[if_pos (by simp[h0];omega)]
     have:Cd b (j+1) p=([],4):=by rw[Cd,if_neg h6,if_neg (fun h=>h h0),if_pos h4]
     rw[this];simp
    ·rw[if_neg (by simp[h0];omega),if_neg (by simpa using h0)]
     have ih:=Ayk b hl j (p+(Dm (b.drop p)).1.toNat) q (by omega) (by omega) (by omega) (by omega)
     rw[show(p:Int)+(Dm (b.drop p)).1=((p+(Dm (b.drop p)).1.toNat:Nat):Int) by omega,ih,Boc]
     have:Cd b (j+1) p=if(Cd b j (p+(Dm (b.drop p)).1.toNat)).2=0 then((Dm (b.drop p)).1::(Cd b j (p+(Dm (b.drop p)).1.toNat)).1,0)else([],(Cd b j (p+(Dm (b.drop p)).1.toNat)).2):=by
      rw[Cd,if_neg h6,if_neg (fun h=>h h0),if_neg h4]
     rw[this]
     by_cases hr:(Cd b j (p+(Dm (b.drop p)).1.toNat)).2=0
     ·simp only[hr,if_true,List.sum_cons];congr 2;omega
     ·simp only[hr,if_false]
   ·rw[if_neg (by simp[h0]),if_pos (by simpa using h0)]
    have:Cd b (j+1) p=([],(Dm (b.drop p)).2):=by rw[Cd,if_neg h6,if_pos h0]
    rw[this];simp[h0]
def Btj(b:List UInt8)(j p:Nat)(xs:List Int):List Int×Int:=if(Cd b j p).2=0 then(xs++(Cd b j p).1,0)else([],(Cd b j p).2)
theorem Br1(bk:Int→List Int→Option (List Int×Int))(b:List UInt8)(p:Nat)(hp:p≤b.length)(xs:List Int)(hx:xs.length≤4000)(hl:b.length<4611686018427387904):Nl (Jh bk b) b (p:Int) xs=Jh bk b (p:Int) xs (Dm (b.drop p)).1 (Dm (b.drop p)).2:=by
 have hf:=Bpk (b.drop p) (by simp;omega)
 rw[Nl,Px (by omega) (by omega),Aa,Int.toNat_natCast,Bql _ (by simp;omega),Aa]
 by_cases h:(Al0 (b.drop p)).2=6
 ·simp[Dm,h,Bp,hf]
 ·simp[Dm,h,Bp]
theorem Bd6(b:List UInt8)(hl:b.length<4611686018427387904):∀(j p q:Nat) (xs:List Int),p≤b.length→p≤4000→b.length-p<j→j≤q→xs.length≤p→Jg b q (p:Int) xs=some (Btj b j p xs)
 |0,p,q,_,_,_,h,_,_=>by omega
 |j+1,p,q,xs,hp,hp4,hj,hq,hx=>by
  obtain⟨q,rfl⟩:∃k,q=k+1:=⟨q-1,by omega⟩
  rw[Jg,Br1 _ b p hp xs (by omega) hl,Jh,Yv,Bp,Ak,Btj]
  by_cases h6:(Dm (b.drop p)).2=6
  ·rw[if_pos (by simpa using h6)]
   have:Cd b (j+1) p=([],0):=by rw[Cd,if_pos h6]
   rw[this];simp
  ·rw[if_neg (by simpa using h6)]
   by_cases h0:(Dm (b.drop p)).2=0
   ·have hz:Dm (b.drop p)=((Dm (b.drop p)).1,0):=by rw[Prod.ext_iff];exact⟨rfl,h0⟩
    have hs:=Bb9 hz
    rw[List.length_drop]at hs
    rw[if_neg (by simpa using h0),Ag (by omega) (by omega),Ar]
    by_cases h4:4000<(p:Int)+(Dm (b.drop p)).1
    ·rw[if_pos (by simp;omega)]
     have:Cd b (j+1) p=([],4):=by rw[Cd,if_neg h6,if_neg (fun h=>h h0),if_pos h4]
     rw[this];simp
    ·rw[if_neg (by simp;omega),Fc (by simp;omega),Aa]
     have ih:=Bd6 b hl j (p+(Dm (b.drop p)).1.toNat) q (xs++[(Dm (b.drop p)).1]) (by omega) (by omega) (by omega) (by omega) (by simp;omega)
     rw[show(p:Int)+(Dm (b.drop p)).1=((p+(Dm (b.drop p)).1.toNat:Nat):Int) by omega,ih,Btj]
     have:Cd b (j+1) p=if(Cd b j (p+(Dm (b.drop p)).1.toNat)).2=0 then((Dm (b.drop p)).1::(Cd b j (p+(Dm (b.drop p)).1.toNat)).1,0)else([],(Cd b j (p+(Dm (b.drop p)).1.toNat)).2):=by
      rw[Cd,if_neg h6,if_neg (fun h=>h h0),if_neg h4]
     rw[this]
     by_cases hr:(Cd b j (p+(Dm (b.drop p)).1.toNat)).2=0
     ·simp only[hr,if_true];simp
     ·simp only[hr,if_false]
   ·rw[if_pos (by simpa using h0)]
    have:Cd b (j+1) p=([],(Dm (b.drop p)).2):=by rw[Cd,if_neg h6,if_pos h0]
    rw[this];simp[h0]
theorem Ax3:∀{l:List Int},(∀x∈l,10≤x)→0≤l.sum∧(l.length:Int)≤l.sum
 |[],_=>by simp
 |x::l,h=>by
  have h1:=h x List.mem_cons_self
  have h2:=Ax3 (l:=l) fun y hy=>h y (List.mem_cons_of_mem _ hy)
  simp only[List.sum_cons,List.length_cons];omega
theorem Az9(r:Int)(l:List Int)(hl:l.length≤4000)(hx:∀x∈l,10≤x):∀(j i q:Nat) (n:Int),i+j=l.length→j<q→0≤n→n+(l.drop i).sum≤4000→Ge r l q n (i:Int)=some (n+(l.drop i).sum,r)
 |0,i,q+1,n,hi,_,_,_=>by
  rw[Ge,Nk,if_neg (by rw[Af,Ac];simp;omega),show i=l.length by omega,List.drop_length]
  simp[Za,Yq]
 |j+1,i,q+1,n,hi,hq,hn,hs=>by
  have hlt:i<l.length:=by omega
  rw[drop_cons hlt,List.sum_cons]at hs⊢
  have h1:=hx l[i] (List.getElem_mem hlt)
  have h2:=Ax3 (l:=l.drop (i+1)) fun y hy=>hx y (List.mem_of_mem_drop hy)
  rw[Ge,Nk,if_pos (by rw[Af,Ac];simp;omega),Ch hlt,Aa,Aa,Ag (by omega) (by omega),Ag (by omega) (by omega)]
  have ih:=Az9 r l hl hx j (i+1) q (n+l[i]) (by omega) (by omega) (by omega) (by omega)
  rw[show((i:Int)+1)=((i+1:Nat):Int) by omega,ih]
  congr 2;omega
def frontS(b:List UInt8):Int×Int:=Boc b (b.length+1) 0
theorem Ba2(b:List UInt8)(hl:b.length<4611686018427387904):Uy b=some (frontS b):=by
 have:=Ayk b hl (b.length+1) 0 Ap (by omega) (by omega) (by omega) (by have:=Am;omega)
 exact this
theorem Bfe(b:List UInt8)(hl:b.length<4611686018427387904):Tu b=some (frontS b):=by
 have h:=Bd6 b hl (b.length+1) 0 Ap [] (by omega) (by omega) (by omega) (by have:=Am;omega) (by simp)
 have h':Agc b=some (Btj b (b.length+1) 0 []):=h
 rw[Tu,Yp,h',Aa,frontS,Boc,Btj]
 have ho:=Avd b (b.length+1) 0 (by omega) (by omega)
 by_cases h0:(Cd b (b.length+1) 0).2=0
 ·obtain⟨i1,i2,i3⟩:=ho h0
  have hp:=Ax3 i1
  simp only[h0,if_true,List.nil_append]
  have:=Az9 0 (Cd b (b.length+1) 0).1 (by omega) i1 (Cd b (b.length+1) 0).1.length 0 Ap 0 (by omega) (by have:=Am;omega) (by omega) (by simpa using i3)
  simpa [Nn]using this
 ·simp only[h0,if_false]
  have:=Az9 (Cd b (b.length+1) 0).2 [] (by simp) (by simp) 0 0 Ap 0 (by simp) (by have:=Am;omega) (by omega) (by simp)
  simpa [Nn]using this
theorem Bny{b:List UInt8}(h:(frontS b).2=0):0≤(frontS b).1∧(frontS b).1≤b.length∧(frontS b).1≤4000:=by
 unfold frontS Boc at h⊢
 split at h
 ·rename_i h0
  rw[if_pos h0]
  obtain⟨i1,i2,i3⟩:=Avd b (b.length+1) 0 (by omega) (by omega) h0
  have hp:=Ax3 i1
  exact⟨by simp;omega,i2,i3⟩
 ·rename_i h0;exact absurd h h0
end Go.Pl
set_option linter.unusedVariables false
set_option linter.unusedSimpArgs false
namespace Go.Pl
open Go Go.Lv
def longN(r:Nat):Nat:=max 1 (256*r/245)
theorem Ajx(r:Nat):1≤longN r:=Nat.le_max_left _ _
theorem Ba3{r:Nat}(h:r≤1048576):longN r≤1100000:=by unfold longN;omega
theorem Bg1{r:Nat}(h:r≤1048576):Aql (1:Int) (Bt (Bg (256:Int) (r:Int)) (245:Int))=(longN r:Int):=by
 rw[Hp (by omega) (by omega),Afb,Int.tdiv_eq_ediv_of_nonneg (by omega),Bm (by omega) (by omega),Bjy,longN];omega
def framesL(g n:Nat):List Int:=List.replicate ((n-1)/g) (g:Int)++[((n-(n-1)/g*g:Nat):Int)]
theorem Bgt(g n:Nat):(framesL g n).length=(n-1)/g+1:=by simp[framesL]
theorem Bcl{g n:Nat}(h:n≤g)(h1:1≤n):framesL g n=[(n:Int)]:=by
 rw[framesL,Nat.div_eq_of_lt (by omega)];simp
theorem Bhl{g n:Nat}(hg:1≤g)(h:g<n):framesL g n=(g:Int)::framesL g (n-g):=by
 have e:(n-1)/g=(n-g-1)/g+1:=by rw[←Nat.add_div_right _ (by omega)];congr 1;omega
 rw[framesL,framesL,e,List.replicate_succ,List.cons_append]
 congr 4
 have:=Nat.div_mul_le_self (n-g-1) g
 rw[Nat.add_mul,Nat.one_mul];omega
theorem Atu{g n:Nat}(hg:1≤g)(h1:1≤n):(n+g-1)/g=(n-1)/g+1:=by
 rw[←Nat.add_div_right _ (by omega)];congr 1;omega
theorem Bc3{r:Nat}(h1:1≤r)(h:r≤1048576):Qi (r:Int)=some ((longN r:Int),0):=by
 rw[Qi,if_neg (by simp[Af,Ar];omega),Bg1 h]
theorem Brh{r:Nat}(h:r≤1048576):Nz (r:Int)=some (longN r:Int):=by rw[Nz,Bg1 h]
theorem Bai{r n:Nat}(h1:1≤r)(h:r≤1048576)(n1:1≤n)(n2:n≤4000):Kf (r:Int) (n:Int)=some (if 1000<(n-1)/longN r+1 then(0,4)else((((n-1)/longN r+1:Nat):Int),0)):=by
 have hp:=Ajx r
 have hl:=Ba3 h
 have e:Bt (Ah (Ae (n:Int) (longN r:Int)) (1:Int)) (longN r:Int)=(((n-1)/longN r+1:Nat):Int):=by
  have:(n+longN r-1)/longN r≤n+longN r-1:=Nat.div_le_self _ _
  rw[Ag (by omega) (by omega),Bi (by omega) (by omega),Afb,Int.tdiv_eq_ediv_of_nonneg (by omega),show(n:Int)+(longN r:Int)-1=((n+longN r-1:Nat):Int) by omega,←Int.natCast_ediv,Atu hp n1]
  rw[Atu hp n1]at this
  generalize(n-1)/longN r=k at*
  exact Bm (by omega) (by omega)
 rw[Kf,Bc3 h1 h,Aa]
 simp only
 rw[if_neg (by rw[Ak];simp),if_neg (by simp[Af,Ar];omega),Cb (by rw[Ak];simp;omega),Aa,e]
 by_cases hk:1000<(n-1)/longN r+1
 ·rw[if_pos (by rw[Ar];simp;omega),if_pos hk]
 ·rw[if_neg (by rw[Ar];simp;omega),if_neg hk]
theorem Aza{r:Nat}(h:r≤1048576):∀(j n q:Nat) (acc:List Int),n≤4000→n≤j→j<q→acc.length+n≤10000→Dc (r:Int) q (n:Int) acc=some (acc++(if n=0 then []else framesL (longN r) n))
 |0,n,q+1,acc,hn,hj,hq,ha=>by
  obtain rfl:n=0:=by omega
  rw[Dc,Gg,if_neg (by rw[Ar];simp)]
  simp[Jf,Jb]
 |j+1,n,q+1,acc,hn,hj,hq,ha=>by
  have hp:=Ajx r
  have hl:=Ba3 h
  by_cases h0:n=0
  ·subst h0
   rw[Dc,Gg,if_neg (by rw[Ar];simp)]
   simp[Jf,Jb]
  ·rw[Dc,Gg,if_pos (by rw[Ar];simp;omega),Brh h,Aa,Fc (by simp;omega),Aa,Aa,Bi (by omega) (by omega),Ahu]
   by_cases hs:n≤longN r
   ·rw[show min (n:Int) (longN r:Int)=(n:Int) by omega,if_neg h0,Bcl hs (by omega)]
    have hz:∃k,q=k+1:=⟨q-1,by omega⟩
    obtain⟨q,rfl⟩:=hz
    rw[Dc,Gg,if_neg (by rw[Ar];simp;omega)]
    simp[Jf,Jb]
   ·rw[show min (n:Int) (longN r:Int)=(longN r:Int) by omega,show(n:Int)-(longN r:Int)=((n-longN r:Nat):Int) by omega,Aza h j (n-longN r) q _ (by omega) (by omega) (by omega) (by simp;omega),if_neg (by omega),if_neg h0,Bhl hp (show longN r<n by omega)]
    simp
theorem Ati{r n:Nat}(h:r≤1048576)(n1:1≤n)(n2:n≤4000):Im (r:Int) (n:Int)=some (framesL (longN r) n):=by
 have:=Aza h n n Ap [] n2 (Nat.le_refl _) (by have:=Am;omega) (by simp;omega)
 rw[Im,Zh,Yx,this,if_neg (by omega)];rfl
theorem mul_one(m:Nat)(h:m≤100000):Aay (1:UInt64) (UInt64.ofNat m)=some (0,UInt64.ofNat m):=by
 have y1:(UInt64.ofNat m).toNat=m:=Agx (by omega)
 have s1:Bh (1:UInt64) (GI.toZ (32:UInt64)).toNat=0:=by decide
 have s2:Bh (UInt64.ofNat m) (GI.toZ (32:UInt64)).toNat=0:=by
  apply UInt64.toNat_inj.1
  rw[Ab4,y1]
  exact Nat.div_eq_of_lt (Nat.lt_of_le_of_lt h (by decide))
 have s0:Bh (0:UInt64) (GI.toZ (32:UInt64)).toNat=0:=by decide
 have a1:Cq (1:UInt64) (4294967295:UInt64)=1:=by decide
 have a0:Cq (0:UInt64) (4294967295:UInt64)=0:=by decide
 have a2:Cq (UInt64.ofNat m) (4294967295:UInt64)=UInt64.ofNat m:=by
  apply UInt64.toNat_inj.1
  rw[Ay2,UInt64.toNat_and,y1]
  show m&&& (2^32-1)=m
  rw[Nat.and_two_pow_sub_one_eq_mod,Nat.mod_eq_of_lt (by omega)]
 have m1:∀x:UInt64,Bg 1 x=x:=fun x=>by rw[Abp,UInt64.one_mul]
 have m0:∀x:UInt64,Bg 0 x=0:=fun x=>by rw[Abp,UInt64.zero_mul]
 have p0:∀x:UInt64,Ae 0 x=x:=fun x=>by rw[Abi,UInt64.zero_add]
 have p1:∀x:UInt64,Ae x 0=x:=fun x=>by rw[Abi,UInt64.add_zero]
 rw[Aay,Acu]
 simp only[s1,s2,a1,a2,m1,m0,p0,p1,s0,a0,Aa]
theorem Aw3(v:Int)(m:Nat)(hm:m≤100000):∀(j n q:Nat),1≤n→n≤m→m-n≤j→j<q→Cx q (n:Int) (List.replicate n v++List.replicate (m-n) 0)=some (List.replicate m v)
 |j,n,q+1,hn,hnm,hj,hq=>by
  have hlen:Ac (List.replicate n v++List.replicate (m-n) 0)=(m:Int):=by simp[Ac];omega
  rw[Cx,Ek,hlen]
  by_cases h:n<m
  ·obtain⟨j,rfl⟩:∃k,j=k+1:=⟨j-1,by omega⟩
   rw[if_pos (by rw[Af];simp;omega)]
   have v1:vwI (m:Int) (n:Int) (m:Int)=some ():=by rw[vwI,Cb];simp;omega
   have v2:vwI (m:Int) (0:Int) (n:Int)=some ():=by rw[vwI,Cb];simp;omega
   have e1:Aht (List.replicate n v++List.replicate (m-n) 0) (0:Int) ((n:Int)-0)=List.replicate n v:=by
    simp[Aht]
   rw[v1,Aa,v2,Aa,e1]
   have e2:Aet ((m:Int)-(n:Int)) (List.replicate n v).length=((min n (m-n):Nat):Int):=by
    rw[Aet,List.length_replicate];split<;>omega
   have e3:Ng (List.replicate n v++List.replicate (m-n) 0) (n:Int) ((m:Int)-(n:Int)) (List.replicate n v)=List.replicate (n+min n (m-n)) v++List.replicate (m-(n+min n (m-n))) 0:=by
    have t1:((m:Int)-(n:Int)).toNat=m-n:=by omega
    have t2:(List.replicate n v++List.replicate (m-n) (0:Int)).take n=List.replicate n v:=by simp
    rw[Ng,t1,Int.toNat_natCast,t2,List.take_replicate,List.length_replicate,←List.append_assoc,List.replicate_append_replicate,List.drop_append,List.length_replicate,Nat.min_comm (m-n) n]
    simp only[List.drop_replicate]
    rw[show n-(n+min n (m-n))=0 by omega,List.replicate_zero,List.nil_append,show m-n-(n+min n (m-n)-n)=m-(n+min n (m-n)) by omega]
   rw[e2,e3,Ag (by omega) (by omega),show(n:Int)+((min n (m-n):Nat):Int)=((n+min n (m-n):Nat):Int) by omega]
   exact Aw3 v m hm j (n+min n (m-n)) q (by omega) (by omega) (by omega) (by omega)
  ·rw[if_neg (by rw[Af];simp;omega)]
   obtain rfl:n=m:=by omega
   simp[Fx,Ji]
theorem Bnw(v:Int)(m:Nat)(hm:m≤100000):Iy [v] (m:Int)=some (List.replicate m v):=by
 have y1:(UInt64.ofNat m).toNat=m:=Agx (by omega)
 have c1:(Ad (Ac [v]):UInt64)=1:=by rfl
 have c2:(Ad (m:Int):UInt64)=UInt64.ofNat m:=Ui m
 have c3:(Ad (UInt64.ofNat m):Int)=(m:Int):=by rw[Avc (by omega),y1]
 rw[Iy,Kc,if_neg (by rw[Af];simp),Ki,Kg,c1,c2,mul_one m hm,Aa]
 simp only
 rw[if_neg (by rw[Ahi,Ahi,y1];simp;show m≤9223372036854775807;omega),Kk,Ke,c3,Bao (by omega) (by omega),Aa,Cb (by rw[Bp];simp),Aa,Kb,Int.toNat_natCast]
 by_cases h0:m=0
 ·subst h0
  have hF:Ap=(Ap-1)+1:=by have:=Am;omega
  rw[hF,Cx,Ek]
  simp[Ac,Ba7,Aet,Af,Fx,Ji]
 ·have:=Aw3 v m hm m 1 Ap (by omega) (by omega) (by omega) (by have:=Am;omega)
  have e1:Aet (Ac (List.replicate m (0:Int))) [v].length=((1:Nat):Int):=by simp[Aet,Ac];omega
  have e2:Ba7 (List.replicate m (0:Int)) [v]=List.replicate 1 v++List.replicate (m-1) 0:=by
   obtain⟨k,rfl⟩:∃k,m=k+1:=⟨m-1,by omega⟩
   simp[Ba7]
  rw[e1,e2,this]
theorem Bn7(l m:List Int)(h:l.length+m.length≤1000000):Iz [l,m]=some (l++m):=by
 have hF:Ap=(Ap-3)+1+1+1:=by have:=Am;omega
 rw[Iz,Kh,Kl]
 have g0:getI [l,m] (0:Int)=some l:=rfl
 have g1:getI [l,m] (1:Int)=some m:=rfl
 have l2:Ac [l,m]=2:=rfl
 have h3:Fu [l,m] []=some (l++m):=by
  rw[Fu,Jp,Jk,hF,Cl,Ec,l2,if_pos (by decide),g0,Aa,Fc (by simp;omega),Aa,List.nil_append,show Ae (0:Int) 1=1 by decide,
   Cl,Ec,l2,if_pos (by decide),g1,Aa,Fc (by omega),Aa,show Ae (1:Int) 1=2 by decide,Cl,Ec,l2,if_neg (by decide)]
  rfl
 rw[hF,Cy,El,l2,if_pos (by decide),g0,Aa,Ag (by unfold Ac;omega) (by unfold Ac;omega),if_neg (by rw[Af,Ac];simp),show Ae (0:Int) 1=1 by decide,
  Cy,El,l2,if_pos (by decide),g1,Aa,Ag (by unfold Ac;omega) (by unfold Ac;omega),if_neg (by rw[Af,Ac,Ac];simp;omega),show Ae (1:Int) 1=2 by decide,
  Cy,El,l2,if_neg (by decide),Jl,Jm,if_neg (by rw[Af,Ac,Ac];simp;omega),Jr,Jj]
 have z:Ah (0:Int) 0=0:=by decide
 have n0:(0:Int)+Ac l+Ac m=((l.length+m.length:Nat):Int):=by simp[Ac]
 rw[z,n0,Bi (by omega) (by omega),Int.sub_zero]
 by_cases hp:0<l.length+m.length
 ·rw[if_pos (by rw[Ar];simp;omega),show vwI (0:Int) 0 0=some ()from rfl,Aa,Bao (by omega) (by omega),Aa,Fc (by simp;omega),Aa]
  rw[show vwI (Ac ([]++List.replicate ((l.length+m.length:Nat):Int).toNat (0:Int))) 0 0=some () by rw[vwI,Cb];simp[Ac];omega,Aa]
  simp only[Aht,Int.sub_self,Int.toNat_zero,List.take_zero]
  exact h3
 ·rw[if_neg (by rw[Ar];simp;omega)];exact h3
theorem Btt{r n:Nat}(h1:1≤r)(h:r≤1048576)(n1:1≤n)(n2:n≤4000)(hk:(n-1)/longN r+1≤1000):Pg (r:Int) (n:Int)=some (framesL (longN r) n,0):=by
 have hp:=Ajx r
 have hl:=Ba3 h
 have hd:=Nat.div_mul_le_self (n-1) (longN r)
 rw[Pg,Bai h1 h n1 n2,if_neg (by omega),Aa]
 simp only
 rw[if_neg (by rw[Ak];simp),Bc3 h1 h,Aa]
 simp only
 rw[framesL]
 generalize(n-1)/longN r=k at*
 have e1:Ah ((k+1:Nat):Int) 1=(k:Int):=by rw[Bi (by omega) (by omega)];omega
 have e2:(k:Int)*(longN r:Int)=((k*longN r:Nat):Int):=by simp
 rw[e1,Bnw _ _ (by omega),Aa,Hp (by rw[e2];omega) (by rw[e2];omega),e2,Bi (by omega) (by omega),Af0,Bn7 _ _ (by simp;omega),Aa,Aa,show(n:Int)-((k*longN r:Nat):Int)=((n-k*longN r:Nat):Int) by omega]
end Go.Pl
set_option linter.unusedVariables false
set_option linter.unusedSimpArgs false
namespace Go.Pl
open Go Go.Lv
def shapeB(f c w r n:Nat):Bool:=decide ((f=1∨f=2)∧(1≤c∧c≤6)∧(w=8∨w=16∨w=24)∧(1≤r∧r≤1048576)∧1≤n)
def fitB(c r n:Nat):Bool:=decide (n≤4000/c∧(n-1)/longN r+1≤1000)
theorem Axc(f c w r n:Nat):Rt (f:Int) (c:Int) (w:Int) (r:Int) (n:Int)=some (shapeB f c w r n):=by
 have e2:Qg (f:Int) (c:Int) (w:Int) (r:Int) (n:Int)=some (decide ((f=1∨f=2)∧(1≤c∧c≤6)∧(1≤r∧r≤1048576)∧1≤n)):=by
  rw[Qg,Ai6]
  congr 1
  rw[Bool.eq_iff_iff]
  simp only[Bp,Ar,Bdv,Bool.and_eq_true,Bool.or_eq_true,beq_iff_eq,decide_eq_true_eq]
  omega
 have g:∀k:Nat,geq (w:Int) (k:Int)=decide (w=k):=fun k=>by rw[Bp,Bool.eq_iff_iff];simp;omega
 have g8:geq (w:Int) (8:Int)=decide (w=8):=g 8
 have g16:geq (w:Int) (16:Int)=decide (w=16):=g 16
 have g24:geq (w:Int) (24:Int)=decide (w=24):=g 24
 rw[Rt,Zz,e2,g8,g16,g24,shapeB]
 by_cases h8:w=8
 ·subst h8;simp
 ·by_cases h16:w=16
  ·subst h16;simp
  ·by_cases h24:w=24
   ·subst h24;simp
   ·simp[h8,h16,h24]
theorem Blh(f c w r n:Nat):Qv (f:Int) (c:Int) (w:Int) (r:Int) (n:Int)=some (shapeB f c w r n):=by
 rw[Qv,shapeB]
 simp only[Bp,Cs,Bdv,Bool.and_eq_true,Bool.or_eq_true,beq_iff_eq,decide_eq_true_eq,Bool.false_and]
 split
 ·rename_i h
  congr 1
  rw[Bool.eq_iff_iff]
  simp only[Bool.and_eq_true,Bool.or_eq_true,beq_iff_eq,decide_eq_true_eq]
  omega
 ·rename_i h
  congr 1
  symm
  rw[decide_eq_false_iff_not]
  omega
theorem Bxe{c:Nat}(h:1≤c):Bt (4000:Int) (c:Int)=((4000/c:Nat):Int):=by
 have:4000/c≤4000:=Nat.div_le_self _ _
 rw[Afb,Int.tdiv_eq_ediv_of_nonneg (by omega),show(4000:Int)=((4000:Nat):Int)from rfl,←Int.natCast_ediv]
 generalize 4000/c=k at*
 exact Bm (by omega) (by omega)
theorem Bcm{f c w r n:Nat}(h:shapeB f c w r n=true):Abt (f:Int) (c:Int) (w:Int) (r:Int) (n:Int)=some (fitB c r n):=by
 simp only[shapeB,decide_eq_true_eq]at h
 have hd:4000/c≤4000:=Nat.div_le_self _ _
 rw[Abt,Cb (by rw[Ak];simp;omega),Aa,Bxe (by omega),fitB]
 generalize 4000/c=m at*
 by_cases h1:n≤m
 ·rw[if_neg (by rw[Ar];simp;omega),Bai (by omega) (by omega) (by omega) (by omega),Aa]
  generalize(n-1)/longN r+1=k
  by_cases h2:1000<k
  ·rw[if_pos h2]
   simp[Bp,Bdv]
   omega
  ·rw[if_neg h2]
   simp[Bp,Bdv,h1]
   omega
 ·rw[if_pos (by rw[Ar];simp;omega)]
  simp[h1]
theorem Btg{f c w r n:Nat}(h:shapeB f c w r n=true):Vt (f:Int) (c:Int) (w:Int) (r:Int) (n:Int)=some (!fitB c r n):=by
 simp only[shapeB,decide_eq_true_eq]at h
 have hd:4000/c≤4000:=Nat.div_le_self _ _
 rw[Vt,Cb (by rw[Ak];simp;omega),Aa,Bxe (by omega),fitB]
 generalize 4000/c=m at*
 by_cases h1:n≤m
 ·rw[if_neg (by rw[Ar];simp;omega),Ati (by omega) (by omega) (by omega),Aa,Ac,Bgt]
  generalize(n-1)/longN r+1=k
  congr 1
  rw[Ar,Bool.eq_iff_iff]
  simp only[decide_eq_true_eq,Bool.not_eq_true',decide_eq_false_iff_not]
  omega
 ·rw[if_pos (by rw[Ar];simp;omega)]
  simp[h1]
def Awy:List UInt8:=[84,84,65,49]
def f0(b:List UInt8):Nat:=Dg (part b 4 2)
def f1(b:List UInt8):Nat:=Dg (part b 6 2)
def f2(b:List UInt8):Nat:=Dg (part b 8 2)
def f3(b:List UInt8):Nat:=Dg (part b 10 4)
def f4(b:List UInt8):Nat:=Dg (part b 14 4)
abbrev H6:=Int×Int×Int×Int×Int×Int
def readS(b:List UInt8):H6:=
 if b.take (min 4 b.length)≠Awy.take (min 4 b.length)then(0,0,0,0,0,12)else if b.length<22 then(0,0,0,0,0,24)else
 if(Fh (b.take 18)).toNat≠Dg (part b 18 4)then(0,0,0,0,0,22)else
 if shapeB (f0 b) (f1 b) (f2 b) (f3 b) (f4 b)=false then(0,0,0,0,0,12)else
 if fitB (f1 b) (f3 b) (f4 b)=false then(0,0,0,0,0,4)else((f0 b:Int),(f1 b:Int),(f2 b:Int),(f3 b:Int),(f4 b:Int),0)
section
variable {b:List UInt8}
theorem rs1(h:b.take (min 4 b.length)≠Awy.take (min 4 b.length)):readS b=(0,0,0,0,0,12):=by rw[readS,if_pos h]
variable (h:b.take (min 4 b.length)=Awy.take (min 4 b.length))
include h
theorem rs2(h2:b.length<22):readS b=(0,0,0,0,0,24):=by rw[readS,if_neg (fun e=>e h),if_pos h2]
variable (h2:¬b.length<22)
include h2
theorem rs3(h3:(Fh (b.take 18)).toNat≠Dg (part b 18 4)):readS b=(0,0,0,0,0,22):=by rw[readS,if_neg (fun e=>e h),if_neg h2,if_pos h3]
variable (h3:(Fh (b.take 18)).toNat=Dg (part b 18 4))
include h3
theorem rs4(h4:shapeB (f0 b) (f1 b) (f2 b) (f3 b) (f4 b)=false):readS b=(0,0,0,0,0,12):=by rw[readS,if_neg (fun e=>e h),if_neg h2,if_neg (fun e=>e h3),if_pos h4]
variable (h4:shapeB (f0 b) (f1 b) (f2 b) (f3 b) (f4 b)=true)
include h4
theorem rs5(h5:fitB (f1 b) (f3 b) (f4 b)=false):readS b=(0,0,0,0,0,4):=by rw[readS,if_neg (fun e=>e h),if_neg h2,if_neg (fun e=>e h3),if_neg (by rw[h4];simp),if_pos h5]
theorem rs6(h5:fitB (f1 b) (f3 b) (f4 b)=true):readS b=((f0 b:Int),(f1 b:Int),(f2 b:Int),(f3 b:Int),(f4 b:Int),0):=by rw[readS,if_neg (fun e=>e h),if_neg h2,if_neg (fun e=>e h3),if_neg (by rw[h4];simp),if_neg (by rw[h5];simp)]
end
theorem Btc(b:List UInt8)(h2:¬b.length<22):Be (Ad (Fh (b.take 18)):UInt64) (leU (part b 18 4))=decide ((Fh (b.take 18)).toNat≠Dg (part b 18 4)):=by
 rw[Ad1,Fs,Bool.eq_iff_iff]
 simp only[bne_iff_ne,ne_eq,decide_eq_true_eq]
 rw[←UInt64.toNat_inj,Agx (by have:=(Fh (b.take 18)).toNat_lt;omega),Ag1 (by rw[Ce (by omega)];omega)]
theorem Aoy(b:List UInt8)(a w:Nat)(i q:Nat)(l:List Int)(hi:i<5)(hl:l.length=5)(hw:getI ([2,2,2,4,4]:List Int) (i:Int)=some (w:Int))(h1:1≤w)(h4:w≤4)(ha:a+w≤b.length)(hb:b.length<4611686018427387904):
  Iv b (q+1) (a:Int) (i:Int) l=Iv b q ((a+w:Nat):Int) ((i+1:Nat):Int) (l.set i (Dg (part b a w):Int)):=by
 rw[Iv,Vr,if_pos (by rw[Af];simp;omega),hw,Aa,Bd9 b a w h1 (by omega) ha hb,Aa]
 simp only
 rw[Ch (by omega),Aa,Qt _ (by omega),Aa,Aaq (by rw[Ce ha];omega),Ag (by omega) (by omega),Ag (by omega) (by omega)]
 rfl
theorem Bto(b:List UInt8)(h22:¬b.length<22)(hb:b.length<4611686018427387904):Xv b 4 0 (List.replicate 5 0)=Xt [(f0 b:Int),(f1 b:Int),(f2 b:Int),(f3 b:Int),(f4 b:Int)]:=by
 have hF:Ap=(Ap-6)+1+1+1+1+1+1:=by have:=Am;omega
 rw[Xv,hF,show(4:Int)=((4:Nat):Int)from rfl,show(0:Int)=((0:Nat):Int)from rfl]
 rw[Aoy b 4 2 0 _ _ (by omega) (by simp) rfl (by omega) (by omega) (by omega) hb,Aoy b 6 2 1 _ _ (by omega) (by simp) rfl (by omega) (by omega) (by omega) hb,Aoy b 8 2 2 _ _ (by omega) (by simp) rfl (by omega) (by omega) (by omega) hb,
  Aoy b 10 4 3 _ _ (by omega) (by simp) rfl (by omega) (by omega) (by omega) hb,Aoy b 14 4 4 _ _ (by omega) (by simp) rfl (by omega) (by omega) (by omega) hb,Iv,Vr,if_neg (by rw[Af];simp)]
 rfl
theorem Cap(b:List UInt8):Ok [84,84,65,49] (b.take (min 4 b.length))=some (decide (b.take (min 4 b.length)=Awy.take (min 4 b.length))):=by
 have hl:(b.take (min 4 b.length)).length=min 4 b.length:=by rw[List.length_take];omega
 rw[Ok,Gq,if_pos (by rw[Cs,Ac,Ac,hl];simp;omega),Ac,hl,Jd (by omega) (by simp;omega),Aa,Aa,Int.toNat_natCast]
 congr 1
 rw[Bool.eq_iff_iff]
 rw[decide_eq_true_eq,beq_iff_eq]
 exact eq_comm
theorem Bza(b:List UInt8):Cu (4:Int) (Ac b)=((min 4 b.length:Nat):Int):=by rw[Ahu,Ac];omega
theorem Bpm(b:List UInt8)(hb:b.length<4611686018427387904):Ag5 b=some (readS b):=by
 rw[Ag5,Afw,Bza,Jd (by omega) (by omega),Aa,Int.toNat_natCast,Cap,Aa]
 by_cases h:b.take (min 4 b.length)=Awy.take (min 4 b.length)
 ·rw[if_neg (by simpa using h)]
  by_cases h2:b.length<22
  ·rw[if_pos (by rw[Af,Ac];simp;omega),rs2 h h2]
  ·have a1:Ajn b 18 4=some (leU (part b 18 4),0):=Bd9 b 18 4 (by omega) (by omega) (by omega) hb
   rw[if_neg (by rw[Af,Ac];simp;omega),a1,Aa]
   simp only
   rw[Jd (by omega) (by omega),Aa,show(18:Int).toNat=18 from rfl,Bke _ (by simp;omega),Aa]
   simp only
   rw[Btc b h2]
   by_cases h3:(Fh (b.take 18)).toNat=Dg (part b 18 4)
   ·rw[if_neg (by simpa using h3),Bto b h2 hb,Xt,Apj]
    rw[show getI [(f0 b:Int),(f1 b:Int),(f2 b:Int),(f3 b:Int),(f4 b:Int)] 0=some (f0 b:Int)from rfl,show getI [(f0 b:Int),(f1 b:Int),(f2 b:Int),(f3 b:Int),(f4 b:Int)] 1=some (f1 b:Int)from rfl,show getI [(f0 b:Int),(f1 b:Int),(f2 b:Int),(f3 b:Int),(f4 b:Int)] 2=some (f2 b:Int)from rfl,
     show getI [(f0 b:Int),(f1 b:Int),(f2 b:Int),(f3 b:Int),(f4 b:Int)] 3=some (f3 b:Int)from rfl,show getI [(f0 b:Int),(f1 b:Int),(f2 b:Int),(f3 b:Int),(f4 b:Int)] 4=some (f4 b:Int)from rfl]
    simp only[Aa,Axc]
    cases h4:shapeB (f0 b) (f1 b) (f2 b) (f3 b) (f4 b)with
    |false=>rw[rs4 h h2 h3 h4];rfl
    |true=>
     rw[Bcm h4,if_neg (by simp),Aa]
     cases h5:fitB (f1 b) (f3 b) (f4 b)with
     |false=>rw[rs5 h h2 h3 h4 h5];rfl
     |true=>rw[rs6 h h2 h3 h4 h5];rfl
   ·rw[if_pos (by simpa using h3),rs3 h h2 h3]
 ·rw[if_pos (by simpa using h),rs1 h]
theorem Bsd(b:List UInt8)(hb:b.length<4611686018427387904):Wx b=some (readS b):=by
 rw[Wx,Aa9,Bza,Jd (by omega) (by omega),Aa,Int.toNat_natCast,Jd (by omega) (by simp;omega),Aa,Int.toNat_natCast]
 by_cases h:b.take (min 4 b.length)=Awy.take (min 4 b.length)
 ·rw[if_neg (by rw[h];simp[Awy]),Abe,Aby]
  by_cases h2:b.length<22
  ·rw[if_pos (by rw[Af,Ac];simp;omega),rs2 h h2]
  ·have a1:Bv b 18 22=some (part b 18 4):=Jy 18 4 (by omega)
   have c1:Bv b 4 6=some (part b 4 2):=Jy 4 2 (by omega)
   have c2:Bv b 6 8=some (part b 6 2):=Jy 6 2 (by omega)
   have c3:Bv b 8 10=some (part b 8 2):=Jy 8 2 (by omega)
   have c4:Bv b 10 14=some (part b 10 4):=Jy 10 4 (by omega)
   have c5:Bv b 14 18=some (part b 14 4):=Jy 14 4 (by omega)
   have hs:Be (leU (part b 18 4)) (Ad (Fh (b.take 18)):UInt64)=decide ((Fh (b.take 18)).toNat≠Dg (part b 18 4)):=by
    rw[←Btc b h2,Ad1,Ad1,Bool.eq_iff_iff];simp only[bne_iff_ne,ne_eq];exact not_congr eq_comm
   have lp:∀a w,a+w≤b.length→Ca (part b a w)=some (leU (part b a w)):=fun a w h=>Bh4 _ (by rw[Ce h];omega)
   rw[if_neg (by rw[Af,Ac];simp;omega),a1,Aa,Jd (by omega) (by omega),Aa,show(18:Int).toNat=18 from rfl,lp _ _ (by omega),Aa,Bta _ (by simp;omega),Aa,hs]
   by_cases h3:(Fh (b.take 18)).toNat=Dg (part b 18 4)
   ·rw[if_neg (by simpa using h3),Abf,Acd,c1,Aa,c2,Aa,c3,Aa,c4,Aa,c5,Aa,lp _ _ (by omega),Aa,lp _ _ (by omega),Aa,lp _ _ (by omega),Aa,lp _ _ (by omega),Aa,lp _ _ (by omega),Aa,
     Ab8,Ace,Aaq (by rw[Ce (by omega)];omega),Aaq (by rw[Ce (by omega)];omega),Aaq (by rw[Ce (by omega)];omega),Aaq (by rw[Ce (by omega)];omega),Aaq (by rw[Ce (by omega)];omega)]
    rw[show Dg (part b 4 2)=f0 b from rfl,show Dg (part b 6 2)=f1 b from rfl,show Dg (part b 8 2)=f2 b from rfl,show Dg (part b 10 4)=f3 b from rfl,show Dg (part b 14 4)=f4 b from rfl,Blh,Aa]
    cases h4:shapeB (f0 b) (f1 b) (f2 b) (f3 b) (f4 b)with
    |false=>rw[rs4 h h2 h3 h4];rfl
    |true=>
     rw[Btg h4,if_neg (by simp),Aa]
     cases h5:fitB (f1 b) (f3 b) (f4 b)with
     |false=>rw[rs5 h h2 h3 h4 h5];rfl
     |true=>rw[rs6 h h2 h3 h4 h5];rfl
   ·rw[if_pos (by simpa using h3),rs3 h h2 h3]
 ·rw[if_pos (by simpa [Awy]using h),rs1 h]
theorem Bsn{b:List UInt8}(h:(readS b).2.2.2.2.2=0):readS b=((f0 b:Int),(f1 b:Int),(f2 b:Int),(f3 b:Int),(f4 b:Int),0)∧22≤b.length∧shapeB (f0 b) (f1 b) (f2 b) (f3 b) (f4 b)=true∧fitB (f1 b) (f3 b) (f4 b)=true:=by
 unfold readS at h⊢
 split at h; · simp at h
 rename_i c1;rw[if_neg c1]
 split at h; · simp at h
 rename_i c2;rw[if_neg c2]
 split at h; · simp at h
 rename_i c3;rw[if_neg c3]
 split at h; · simp at h
 rename_i c4;rw[if_neg c4]
 split at h; · simp at h
 rename_i c5;rw[if_neg c5]
 exact⟨rfl,by omega,by simpa using c4,by simpa using c5⟩
theorem Apn{f c w r n:Nat}(h:shapeB f c w r n=true)(h2:fitB c r n=true):Nb (f:Int) (c:Int) (w:Int) (r:Int) (n:Int)=some (framesL (longN r) n,0):=by
 have hc:Xx (f:Int) (c:Int) (w:Int) (r:Int) (n:Int)=some 0:=by
  rw[Xx,Axc,Aa,h,if_neg (by simp),Bcm h,Aa,h2];rfl
 have hd:4000/c≤4000:=Nat.div_le_self _ _
 simp only[shapeB,decide_eq_true_eq]at h
 simp only[fitB,decide_eq_true_eq]at h2
 rw[Nb,hc,Aa,if_neg (by rw[Ak];simp),Btt (by omega) (by omega) (by omega) (by omega) h2.2]
 rfl
end Go.Pl
set_option linter.unusedVariables false
set_option linter.unusedSimpArgs false
namespace Go.Pl
open Go Go.Lv
def okL:List Int→Int→Bool
 |[],_=>true
 |x::l,left=>decide (5≤x∧x≤left)&&okL l (left-x)
theorem Bqp:∀l:List Int,(∀x∈l,5≤x)→0≤l.sum
 |[],_=>by simp
 |x::l,h=>by
  have h1:=h x List.mem_cons_self
  have h2:=Bqp l fun y hy=>h y (List.mem_cons_of_mem _ hy)
  rw[List.sum_cons];omega
theorem Ax7:∀(l:List Int) (left:Int),0≤left→(okL l left=true↔(∀x∈l,5≤x)∧l.sum≤left)
 |[],left,h=>by simp[okL];exact h
 |x::l,left,h=>by
  rw[okL,Bool.and_eq_true,decide_eq_true_eq,List.sum_cons]
  by_cases hx:5≤x∧x≤left
  ·rw[Ax7 l (left-x) (by omega)]
   constructor
   ·rintro⟨_,h1,h2⟩
    exact⟨fun y hy=>(List.mem_cons.1 hy).elim (fun e=>e▸hx.1) (h1 y),by omega⟩
   ·rintro⟨h1,h2⟩
    exact⟨hx,fun y hy=>h1 y (List.mem_cons_of_mem _ hy),by omega⟩
  ·constructor
   ·rintro⟨h1,_⟩;exact absurd h1 hx
   ·rintro⟨h1,h2⟩
    have h3:=h1 x List.mem_cons_self
    have:0≤l.sum:=Bqp l fun y hy=>h1 y (List.mem_cons_of_mem _ hy)
    omega
theorem Bab(l:List Int)(hl:l.length≤1000):∀(j i q:Nat) (left:Int),i+j=l.length→j<q→0≤left→left≤100000→Lj l q left (i:Int)=some (if okL (l.drop i) left=true then 0 else 8)
 |0,i,q+1,left,hi,_,_,_=>by
  rw[Lj,Xp,if_neg (by rw[Af,Ac];simp;omega),show i=l.length by omega,List.drop_length];rfl
 |j+1,i,q+1,left,hi,hq,h0,h1=>by
  have hlt:i<l.length:=by omega
  rw[Lj,Xp,if_pos (by rw[Af,Ac];simp;omega),Ch hlt,Aa,drop_cons hlt]
  by_cases h:5≤l[i]∧l[i]≤left
  ·rw[if_neg (by simp[Af,Ar];omega),Bi (by omega) (by omega),Ag (by omega) (by omega)]
   have ih:=Bab l hl j (i+1) q (left-l[i]) (by omega) (by omega) (by omega) (by omega)
   rw[show((i:Int)+1)=((i+1:Nat):Int) by omega,ih]
   simp[okL,h]
  ·rw[if_pos (by simp[Af,Ar];omega)]
   have:okL (l[i]::l.drop (i+1)) left=false:=by rw[okL,decide_eq_false h];rfl
   rw[this];rfl
def Anr(l:List Int):Bool:=decide (1≤l.length∧l.length≤1000)&&okL l 100000
theorem Be8(l:List Int)(hl:l.length≤1000):Jw l=some (if Anr l=true then 0 else 8):=by
 rw[Jw,Vx,Anr]
 by_cases h:1≤l.length
 ·rw[if_neg (by rw[Bp,Ar,Ac];simp;constructor;(intro e;subst e;simp at h);omega),Af1]
  have:=Bab l hl l.length 0 Ap 100000 (by omega) (by have:=Am;omega) (by omega) (by omega)
  rw[List.drop_zero]at this
  rw[decide_eq_true (show 1≤l.length∧l.length≤1000 from⟨h,hl⟩),Bool.true_and]
  exact this
 ·have:l=[]:=by
   cases l with
   |nil=>rfl
   |cons _ _=>simp at h
  subst this;rfl
theorem Bd5(l:List Int)(hl:l.length≤1000):∀(j i q:Nat) (s:Int),i+j=l.length→j<q→0≤s→s≤100000*(i:Int)→Gc l q s (i:Int)=some (if(∀x∈l.drop i,5≤x∧x≤100000)∧s+(l.drop i).sum≤100000 then 0 else 8)
 |0,i,q+1,s,hi,_,_,_=>by
  rw[Gc,Nu,if_neg (by rw[Af,Ac];simp;omega),show i=l.length by omega,List.drop_length,Xb,Wp]
  by_cases h:s≤100000
  ·rw[if_neg (by rw[Ar];simp;omega),if_pos (by simp;omega)]
  ·rw[if_pos (by rw[Ar];simp;omega),if_neg (by simp;omega)]
 |j+1,i,q+1,s,hi,hq,h0,h1=>by
  have hlt:i<l.length:=by omega
  rw[Gc,Nu,if_pos (by rw[Af,Ac];simp;omega),Ch hlt,Aa,drop_cons hlt]
  by_cases h5:l[i]<5
  ·rw[if_pos (by rw[Af];simpa using h5),if_neg (fun h=>by have:=(h.1 l[i] List.mem_cons_self).1;omega)]
  ·rw[if_neg (by rw[Af];simpa using h5),Aa]
   by_cases h6:100000<l[i]
   ·rw[if_pos (by rw[Ar];simpa using h6),if_neg (fun h=>by have:=(h.1 l[i] List.mem_cons_self).2;omega)]
   ·rw[if_neg (by rw[Ar];simpa using h6),Yt,Yw,Ch hlt,Aa,Ag (by omega) (by omega),Ag (by omega) (by omega)]
    have ih:=Bd5 l hl j (i+1) q (s+l[i]) (by omega) (by omega) (by omega) (by omega)
    rw[show((i:Int)+1)=((i+1:Nat):Int) by omega,ih]
    have e:((∀x∈l.drop (i+1),5≤x∧x≤100000)∧s+l[i]+(l.drop (i+1)).sum≤100000)↔((∀x∈l[i]::l.drop (i+1),5≤x∧x≤100000)∧s+(l[i]::l.drop (i+1)).sum≤100000):=by
     rw[List.sum_cons,List.forall_mem_cons,Int.add_assoc]
     constructor
     ·rintro⟨a,b⟩;exact⟨⟨by omega,a⟩,b⟩
     ·rintro⟨⟨_,a⟩,b⟩;exact⟨a,b⟩
    simp only[e]
theorem Bko:∀{l:List Int},(∀x∈l,5≤x)→∀x∈l,x≤l.sum
 |[],_,x,hx=>by simp at hx
 |y::l,h,x,hx=>by
  have h1:=h y List.mem_cons_self
  have h2:=Bqp l fun z hz=>h z (List.mem_cons_of_mem _ hz)
  rw[List.sum_cons]
  rcases List.mem_cons.1 hx with rfl|hx
  ·omega
  ·have:=Bko (l:=l) (fun z hz=>h z (List.mem_cons_of_mem _ hz)) x hx
   omega
theorem Bip(l:List Int)(hl:l.length≤1000):Gt l=some (if Anr l=true then 0 else 8):=by
 rw[Gt,Nt,Anr]
 by_cases h:1≤l.length
 ·have:=Bd5 l hl l.length 0 Ap 0 (by omega) (by have:=Am;omega) (by omega) (by omega)
  rw[if_neg (by rw[Af,Ar,Ac];simp;omega),Yu]
  refine Eq.trans this ?_
  rw[List.drop_zero,decide_eq_true (show 1≤l.length∧l.length≤1000 from⟨h,hl⟩),Bool.true_and]
  have e:((∀x∈l,5≤x∧x≤100000)∧0+l.sum≤100000)↔okL l 100000=true:=by
   rw[Ax7 l 100000 (by omega),Int.zero_add]
   constructor
   ·rintro⟨a,b⟩;exact⟨fun x hx=>(a x hx).1,b⟩
   ·rintro⟨a,b⟩;exact⟨fun x hx=>⟨a x hx,Int.le_trans (Bko a x hx) b⟩,b⟩
  simp only[e]
 ·have:l=[]:=by
   cases l with
   |nil=>rfl
   |cons _ _=>simp at h
  subst this;rfl
theorem Azs(l:List Int):Jw l=some (if Anr l=true then 0 else 8):=by
 by_cases hl:l.length≤1000
 ·exact Be8 l hl
 ·rw[Jw,Vx,if_pos (by rw[Ar,Ac];simp;omega),Anr,decide_eq_false (by omega)];rfl
theorem Bcf(l:List Int):Gt l=some (if Anr l=true then 0 else 8):=by
 by_cases hl:l.length≤1000
 ·exact Bip l hl
 ·rw[Gt,Nt,if_pos (by rw[Ar,Ac];simp;omega),Anr,decide_eq_false (by omega)];rfl
theorem Ay0(l:List Int)(hl:l.length≤1000)(hx:∀x∈l,0≤x∧x<4294967296):Jw l=some (if Anr l=true then 0 else 8):=Azs l
theorem Bn1(l:List Int)(hl:l.length≤1000)(hx:∀x∈l,0≤x∧x<4294967296):Gt l=some (if Anr l=true then 0 else 8):=Bcf l
def Aia(b:List UInt8)(n:Nat):List Int:=(List.range n).map fun i=>(Dg (part b (4*i) 4):Int)
theorem Abg(b:List UInt8)(n:Nat):(Aia b n).length=n:=by simp[Aia]
theorem Bc6(b:List UInt8)(n:Nat):Aia b (n+1)=Aia b n++[(Dg (part b (4*n) 4):Int)]:=by simp[Aia,List.range_succ]
theorem Bms(b:List UInt8)(n:Nat)(h:4*n≤b.length):∀x∈Aia b n,0≤x∧x<4294967296:=by
 intro x hx
 simp only[Aia,List.mem_map,List.mem_range]at hx
 obtain⟨i,hi,rfl⟩:=hx
 have:=Bnq (l:=part b (4*i) 4) (by rw[Ce (by omega)];omega)
 omega
def seekS(b:List UInt8)(n:Nat):List Int×Int:=
 if ¬(1≤n∧n≤1000)then([],2)else if b.length<4*n+4 then([],24)else if(Fh (b.take (4*n))).toNat≠Dg (part b (4*n) 4)then([],22)else
 if Anr (Aia b n)=true then(Aia b n,0)else([],12)
theorem Bl3{b:List UInt8}{n:Nat}(h:1≤n∧n≤1000)(h2:¬b.length<4*n+4):Be (Ad (Fh (b.take (4*n))):UInt64) (leU (part b (4*n) 4))=decide ((Fh (b.take (4*n))).toNat≠Dg (part b (4*n) 4)):=by
 rw[Ad1,Fs,Bool.eq_iff_iff]
 simp only[bne_iff_ne,ne_eq,decide_eq_true_eq]
 rw[←UInt64.toNat_inj,Agx (by have:=(Fh (b.take (4*n))).toNat_lt;omega),Ag1 (by rw[Ce (by omega)];omega)]
section
variable {b:List UInt8} {n:Nat}
theorem ss1(h:¬(1≤n∧n≤1000)):seekS b n=([],2):=by rw[seekS,if_pos h]
variable (h:1≤n∧n≤1000)
include h
theorem ss2(h2:b.length<4*n+4):seekS b n=([],24):=by rw[seekS,if_neg (fun e=>e h),if_pos h2]
variable (h2:¬b.length<4*n+4)
include h2
theorem ss3(h3:(Fh (b.take (4*n))).toNat≠Dg (part b (4*n) 4)):seekS b n=([],22):=by rw[seekS,if_neg (fun e=>e h),if_neg h2,if_pos h3]
theorem ss4(h3:(Fh (b.take (4*n))).toNat=Dg (part b (4*n) 4)):seekS b n=if Anr (Aia b n)=true then(Aia b n,0)else([],12):=by rw[seekS,if_neg (fun e=>e h),if_neg h2,if_neg (fun e=>e h3)]
end
theorem Bd0(b:List UInt8)(l8:List Int)(n:Nat)(hn:n≤1000)(h8:l8.length=n)(hb:4*n+4≤b.length)(hb2:b.length<4611686018427387904):∀(j i q:Nat),i+j=n→j<q→Na b l8 q (i:Int) (Aia b i++List.replicate j 0)=Aam (Aia b n)
 |0,i,q+1,hi,_=>by
  obtain rfl:i=n:=by omega
  rw[Na,Aa0,if_neg (by rw[Af,Ac];simp;omega)];simp
 |j+1,i,q+1,hi,hq=>by
  have hlen:(Aia b i++List.replicate (j+1) 0).length=i+(j+1):=by simp[Abg]
  have ha:=Bd9 b (4*i) 4 (by omega) (by omega) (by omega) hb2
  rw[Na,Aa0,if_pos (by rw[Af,Ac];simp;omega),Hp (by omega) (by omega),show(4:Int)*(i:Int)=((4*i:Nat):Int) by omega,show(4:Int)=((4:Nat):Int)from rfl,ha,Aa]
  simp only
  rw[Ch (by rw[hlen];omega),Aa,Qt _ (by rw[hlen];omega),Aa,Aaq (by rw[Ce (by omega)];omega),Ag (by omega) (by omega),List.replicate_succ,Ap5 (Abg _ _)]
  have ih:=Bd0 b l8 n hn h8 hb hb2 j (i+1) q (by omega) (by omega)
  rw[Bc6]at ih
  rw[show((i:Int)+1)=((i+1:Nat):Int) by omega,←ih]
  simp
theorem Boy(b:List UInt8)(n:Nat)(hb:b.length≤100100):Aj6 b (n:Int)=some (seekS b n):=by
 rw[Aj6,Ah9]
 by_cases h:1≤n∧n≤1000
 ·rw[if_neg (by simp[Af,Ar];omega),Hp (by omega) (by omega),Ag (by omega) (by omega)]
  by_cases h2:b.length<4*n+4
  ·rw[if_pos (by rw[Af,Ac];simp;omega),ss2 h h2]
  ·have ha:Ajn b (4*(n:Int)) 4=some (leU (part b (4*n) 4),0):=by
    rw[show(4:Int)*(n:Int)=((4*n:Nat):Int) by omega]
    exact Bd9 b (4*n) 4 (by omega) (by omega) (by omega) (by omega)
   rw[if_neg (by rw[Af,Ac];simp;omega),ha,Aa]
   simp only
   rw[Jd (by omega) (by omega),Aa,show(4*(n:Int)).toNat=4*n by omega,Bke _ (by simp;omega),Aa]
   simp only
   rw[Bl3 h h2]
   by_cases h3:(Fh (b.take (4*n))).toNat=Dg (part b (4*n) 4)
   ·have hlp:=Bd0 b (List.replicate n 0) n (by omega) (by simp) (by omega) (by omega) n 0 Ap (by omega) (by have:=Am;omega)
    rw[if_neg (by simpa using h3),Bao (by omega) (by omega),Aa,Cb (by rw[Bp];simp),Aa,Aim,Int.toNat_natCast]
    refine Eq.trans (hlp) ?_
    rw[Aam,Arv,Ay0 _ (by rw[Abg];omega) (Bms b n (by omega)),Aa,ss4 h h2 h3]
    cases Anr (Aia b n)<;>rfl
   ·rw[if_pos (by simpa using h3),ss3 h h2 h3]
 ·rw[if_pos (by simp[Af,Ar];omega),ss1 h]
theorem Aq7(b:List UInt8)(n:Nat)(hn:n≤1000)(hb:4*n+4≤b.length)(hb2:b.length<4611686018427387904):∀(j i q:Nat),i+j=n→j<q→Hb b (n:Int) q (i:Int) (Aia b i)=Pv (Aia b n)
 |0,i,q+1,hi,_=>by
  obtain rfl:i=n:=by omega
  rw[Hb,Pw,if_neg (by rw[Af];simp)]
 |j+1,i,q+1,hi,hq=>by
  have hc:Bv b ((4:Int)*(i:Int)) ((4:Int)*(i:Int)+4)=some (part b (4*i) 4):=by
   rw[show(4:Int)*(i:Int)=((4*i:Nat):Int) by omega]
   exact Jy (4*i) 4 (by omega)
  rw[Hb,Pw,if_pos (by rw[Af];simp;omega),Hp (by omega) (by omega),Ag (by omega) (by omega),hc,Aa,Bh4 _ (by rw[Ce (by omega)];omega),Aa,Fc (by rw[Abg];simp;omega),Aa,
   Aaq (by rw[Ce (by omega)];omega),Ag (by omega) (by omega),←Bc6]
  exact Aq7 b n hn hb hb2 j (i+1) q (by omega) (by omega)
theorem Bro(b:List UInt8)(n:Nat)(hb:b.length≤100100):Yd b (n:Int)=some (seekS b n):=by
 rw[Yd,Abn]
 by_cases h:1≤n∧n≤1000
 ·rw[if_neg (by simp[Af,Ar];omega),Hp (by omega) (by omega),Ag (by omega) (by omega)]
  by_cases h2:b.length<4*n+4
  ·rw[if_pos (by rw[Af,Ac];simp;omega),ss2 h h2]
  ·have hc:Bv b ((4:Int)*(n:Int)) ((4:Int)*(n:Int)+4)=some (part b (4*n) 4):=by
    rw[show(4:Int)*(n:Int)=((4*n:Nat):Int) by omega]
    exact Jy (4*n) 4 (by omega)
   have hs:Be (leU (part b (4*n) 4)) (Ad (Fh (b.take (4*n))):UInt64)=decide ((Fh (b.take (4*n))).toNat≠Dg (part b (4*n) 4)):=by
    rw[←Bl3 h h2,Ad1,Ad1,Bool.eq_iff_iff];simp only[bne_iff_ne,ne_eq];exact not_congr eq_comm
   rw[if_neg (by rw[Af,Ac];simp;omega),hc,Aa,Jd (by omega) (by omega),Aa,show(4*(n:Int)).toNat=4*n by omega,Bh4 _ (by rw[Ce (by omega)];omega),Aa,Bta _ (by simp;omega),Aa,hs]
   by_cases h3:(Fh (b.take (4*n))).toNat=Dg (part b (4*n) 4)
   ·have hlp:=Aq7 b n (by omega) (by omega) (by omega) n 0 Ap (by omega) (by have:=Am;omega)
    rw[if_neg (by simpa using h3),Abu,Abq,Aa3]
    refine Eq.trans hlp ?_
    rw[Pv,Aa8,Bn1 _ (by rw[Abg];omega) (Bms b n (by omega)),Aa,ss4 h h2 h3]
    cases Anr (Aia b n)<;>rfl
   ·rw[if_pos (by simpa using h3),ss3 h h2 h3]
 ·rw[if_pos (by simp[Af,Ar];omega),ss1 h]
theorem Bba{b:List UInt8}{n:Nat}(h:(seekS b n).2=0):seekS b n=(Aia b n,0)∧1≤n∧n≤1000∧4*n+4≤b.length∧(∀x∈Aia b n,5≤x)∧(Aia b n).sum≤100000:=by
 unfold seekS at h⊢
 split at h; · simp at h
 rename_i c1;rw[if_neg c1]
 split at h; · simp at h
 rename_i c2;rw[if_neg c2]
 split at h; · simp at h
 rename_i c3;rw[if_neg c3]
 split at h
 ·rename_i c4
  rw[if_pos c4]
  have c4':=c4
  rw[Anr,Bool.and_eq_true,Ax7 _ _ (by omega)]at c4'
  exact⟨rfl,by omega,by omega,by omega,c4'.2.1,c4'.2.2⟩
 ·simp at h
end Go.Pl
set_option linter.unusedVariables false
set_option linter.unusedSimpArgs false
namespace Go.Pl
open Go Go.Lv
def hdr(b:List UInt8):List UInt8:=b.drop (frontS b).1.toNat
abbrev Op8:=Int×Int×Int×Int×Int×Int×(List Int)×Int
def Bft(e:Int):Op8:=(0,0,0,0,0,0,[],e)
theorem Bsk(A K:Nat)(h:A≤200000)(hk:K≤1000):Ae (Ae (A:Int) (Bg 4 (K:Int))) 4=((A+4*K+4:Nat):Int):=by
 rw[Hp (by omega) (by omega),Ag (a:=(A:Int)) (by omega) (by omega),Ag (by omega) (by omega)];omega
theorem Bp4{f c w r n:Nat}(h1:shapeB f c w r n=true)(h2:fitB c r n=true)(b:List UInt8)(hb:b.length≤100100)(A:Nat)(hA:A≤b.length):
  Pu b (f:Int) (c:Int) (w:Int) (r:Int) (n:Int) (A:Int)=
   some (if(seekS (b.drop A) (framesL (longN r) n).length).2≠0 then Bft (seekS (b.drop A) (framesL (longN r) n).length).2 else((f:Int),(c:Int),(w:Int),(r:Int),(n:Int),((A+4*(framesL (longN r) n).length+4:Nat):Int),(seekS (b.drop A) (framesL (longN r) n).length).1,0)):=by
 rw[Pu,Aoj,Apn h1 h2,Aa]
 simp only
 rw[if_neg (by rw[Ak];simp),Px (by omega) (by omega),Aa,Ac,show(A:Int).toNat=A from rfl,Boy _ _ (by simp;omega),Aa]
 by_cases h:(seekS (b.drop A) (framesL (longN r) n).length).2≠0
 ·rw[if_pos h,if_pos (by rw[Ak];simpa using h)];rfl
 ·have h0:(seekS (b.drop A) (framesL (longN r) n).length).2=0:=by simpa using h
  obtain⟨g1,g2,g3,g4,g5,g6⟩:=Bba h0
  have gl:(seekS (b.drop A) (framesL (longN r) n).length).1.length=(framesL (longN r) n).length:=by rw[g1];exact Abg _ _
  rw[if_neg h,if_neg (by rw[Ak];simpa using h),Ac,gl,Bsk _ _ (by omega) (by omega)]
theorem Br0{f c w r n:Nat}(h1:shapeB f c w r n=true)(h2:fitB c r n=true)(b:List UInt8)(hb:b.length≤100100)(A:Nat)(hA:A≤b.length):
  Hy b (f:Int) (c:Int) (w:Int) (r:Int) (n:Int) (A:Int)=
   some (if(seekS (b.drop A) (framesL (longN r) n).length).2≠0 then Bft (seekS (b.drop A) (framesL (longN r) n).length).2 else((f:Int),(c:Int),(w:Int),(r:Int),(n:Int),((A+4*(framesL (longN r) n).length+4:Nat):Int),(seekS (b.drop A) (framesL (longN r) n).length).1,0)):=by
 have hs:(1≤r∧r≤1048576)∧1≤n∧1≤c:=by
  simp only[shapeB,decide_eq_true_eq]at h1;omega
 have hf:n≤4000:=by
  simp only[fitB,decide_eq_true_eq]at h2
  have:=Nat.div_le_self 4000 c
  omega
 rw[Hy,Wc,Px (by omega) (by omega),Aa,Ati hs.1.2 hs.2.1 hf,Aa,Ac,show(A:Int).toNat=A from rfl,Bro _ _ (by simp;omega),Aa]
 simp only
 rw[Xr,Yb]
 by_cases h:(seekS (b.drop A) (framesL (longN r) n).length).2≠0
 ·rw[if_pos h,if_pos (by rw[Ak];simpa using h)];rfl
 ·have h0:(seekS (b.drop A) (framesL (longN r) n).length).2=0:=by simpa using h
  obtain⟨g1,g2,g3,g4,g5,g6⟩:=Bba h0
  have gl:(seekS (b.drop A) (framesL (longN r) n).length).1.length=(framesL (longN r) n).length:=by rw[g1];exact Abg _ _
  rw[if_neg h,if_neg (by rw[Ak];simpa using h),Ac,gl,Bsk _ _ (by omega) (by omega)]
structure Opn (b p:List UInt8) (f c w r n A:Nat) (l:List Int):Prop where
 prog:seekto_Open b p=some ((f:Int),(c:Int),(w:Int),(r:Int),(n:Int),(A:Int),l,0)
 ref:cadenzaref40_Opened b p=some ((f:Int),(c:Int),(w:Int),(r:Int),(n:Int),(A:Int),l,0)
 pass:p.length≤64
 file:b.length≤100000
 shape:shapeB f c w r n=true
 fit:fitB c r n=true
 len:l.length=(framesL (longN r) n).length
 some1:1≤l.length∧l.length≤1000
 five:∀x∈l,5≤x
 sum:l.sum≤100000
 at':A≤b.length
 tag:(frontS b).2=0
 head:readS (hdr b)=((f:Int),(c:Int),(w:Int),(r:Int),(n:Int),0)
 tab:seekS (b.drop ((frontS b).1.toNat+22+(if f=2 then 8 else 0))) l.length=(l,0)
 pos:A=(frontS b).1.toNat+22+(if f=2 then 8 else 0)+4*l.length+4
theorem Buy(b p:List UInt8)(hb:b.length≤100100)(hp:p.length≤64):
  (∃e:Int,e≠0∧seekto_Open b p=some (Bft e)∧cadenzaref40_Opened b p=some (Bft e))∨(∃f c w r n A l,Opn b p f c w r n A l):=by
 by_cases h1:100000<b.length
 ·refine .inl ⟨4,by omega,?_,?_⟩
  ·rw[seekto_Open,Wr,if_neg (by rw[Ar,Ac];simp;omega),if_pos (by rw[Ar,Ac];simp;omega)];rfl
  ·rw[cadenzaref40_Opened,Lo,if_pos (by rw[Ar,Ac];simp;omega)];rfl
 have hP:seekto_Open b p=seekto_Open b p:=rfl
 have hR:cadenzaref40_Opened b p=cadenzaref40_Opened b p:=rfl
 conv at hP=>rhs;rw[seekto_Open,Wr,if_neg (by rw[Ar,Ac];simp;omega),if_neg (by rw[Ar,Ac];simp;omega),Ba2 b (by omega),Aa]
 conv at hR=>rhs;rw[cadenzaref40_Opened,Lo,if_neg (by rw[Ar,Ac];simp;omega),Bfe b (by omega),Aa]
 by_cases h2:(frontS b).2=0
 ·obtain⟨p0,p1,p2⟩:=Bny h2
  have hc:=Px (l:=b) p0 p1
  simp only[h2]at hP hR
  rw[if_neg (by rw[Ak];simp),hc,Aa,show b.drop (frontS b).1.toNat=hdr b from rfl,Bpm _ (by simp[hdr];omega),Aa]at hP
  rw[if_neg (by rw[Ak];simp),hc,Aa,show b.drop (frontS b).1.toNat=hdr b from rfl,Bsd _ (by simp[hdr];omega),Aa]at hR
  by_cases h3:(readS (hdr b)).2.2.2.2.2=0
  ·obtain⟨g1,g2,g3,g4⟩:=Bsn h3
   have hlen:(hdr b).length=b.length-(frontS b).1.toNat:=by simp[hdr]
   generalize hF:(frontS b).1.toNat=F at*
   have hF':(frontS b).1=(F:Int):=by omega
   rw[g1,hF']at hP hR
   simp only at hP hR
   generalize f0 (hdr b)=f at*
   generalize f1 (hdr b)=c at*
   generalize f2 (hdr b)=w at*
   generalize f3 (hdr b)=r at*
   generalize f4 (hdr b)=n at*
   have t22:Ae (F:Int) 22=((F+22:Nat):Int):=by rw[Ag (by omega) (by omega)];omega
   have t30:Ae ((F+22:Nat):Int) 8=((F+30:Nat):Int):=by rw[Ag (by omega) (by omega)];omega
   have hf12:f=1∨f=2:=by simp only[shapeB,decide_eq_true_eq]at g3;omega
   rw[if_neg (by rw[Ak];simp),t22,t30]at hP hR
   have hend:∀A:Nat,A≤b.length→A=F+22+(if f=2 then 8 else 0)→seekto_Open b p=Pu b (f:Int) (c:Int) (w:Int) (r:Int) (n:Int) (A:Int)→cadenzaref40_Opened b p=Hy b (f:Int) (c:Int) (w:Int) (r:Int) (n:Int) (A:Int)→
     (∃e:Int,e≠0∧seekto_Open b p=some (Bft e)∧cadenzaref40_Opened b p=some (Bft e))∨(∃f c w r n A l,Opn b p f c w r n A l):=by
    intro A hA hA2 e1 e2
    rw[Bp4 g3 g4 b hb A hA]at e1
    rw[Br0 g3 g4 b hb A hA]at e2
    by_cases h:(seekS (b.drop A) (framesL (longN r) n).length).2≠0
    ·rw[if_pos h]at e1 e2
     exact .inl ⟨_,h,e1,e2⟩
    ·have h0:(seekS (b.drop A) (framesL (longN r) n).length).2=0:=by simpa using h
     obtain⟨k1,k2,k3,k4,k5,k6⟩:=Bba h0
     have gl:(seekS (b.drop A) (framesL (longN r) n).length).1.length=(framesL (longN r) n).length:=by rw[k1];exact Abg _ _
     rw[if_neg h]at e1 e2
     rw[List.length_drop]at k4
     refine .inr ⟨f,c,w,r,n,_,_,⟨e1,e2,hp,by omega,g3,g4,gl,by omega,by rw[k1];exact k5,by rw[k1];exact k6,by omega,h2,g1,by rw[gl,hF,←hA2];exact Prod.ext rfl h0,by rw[gl,hF,←hA2]⟩⟩
   by_cases hpass:((p==([]:List UInt8)) !=(geq (f:Int) (1:Int)))=true
   ·rw[if_pos hpass]at hP hR
    exact .inl ⟨26,by omega,hP,hR⟩
   ·rw[if_neg hpass]at hP hR
    have hpf:(p=[]↔f=1):=by
     rw[Bp]at hpass
     have h5:(p==([]:List UInt8))=((f:Int)==1):=by simpa using hpass
     have h6:(p==([]:List UInt8))=true↔((f:Int)==1)=true:=by rw[h5]
     rw[beq_iff_eq,beq_iff_eq]at h6
     rw[h6];omega
    by_cases h5:f=2
    ·have hpne:p≠ []:=fun e=>by have:=hpf.1 e;omega
     have h64:(p !=([]:List UInt8))=true:=by simpa using hpne
     rw[if_pos h64]at hP
     rw[if_pos (by rw[Bp,h5];rfl),Bi (by rw[Ac];omega) (by rw[Ac];omega)]at hR
     by_cases h6:b.length<F+30
     ·rw[if_pos (by rw[Af,Ac];simp;omega)]at hP hR
      exact .inl ⟨24,by omega,hP,hR⟩
     ·have hseg:((b.take (F+30)).drop (F+22)).length=8:=by simp;omega
      rw[if_neg (by rw[Af,Ac];simp;omega),Wy (by omega) (by omega) (by omega),Aa]at hP hR
      rw[Aj3,Bp5 p hp,Aa]at hP
      rw[Bof p hp,Aa]at hR
      simp only at hP
      rw[if_neg (by rw[Ak,Ak,Ac,Ac,Ko,show((F+30:Nat):Int).toNat=F+30 from rfl,show((F+22:Nat):Int).toNat=F+22 from rfl,hseg];simp),Fp,Aa,Aa]at hP
      simp only at hP
      rw[if_neg (by rw[Ak];simp)]at hP
      generalize(b.take ((F+30:Nat):Int).toNat).drop ((F+22:Nat):Int).toNat=seg at*
      by_cases h7:seg=leB (Ae5 p).toNat 8
      ·rw[if_neg (by simp[h7])]at hP
       rw[if_neg (by simp[h7])]at hR
       exact hend (F+30) (by omega) (by rw[if_pos h5]) hP hR
      ·rw[if_pos (by simpa using h7)]at hP
       rw[if_pos (by simpa using h7)]at hR
       exact .inl ⟨26,by omega,hP,hR⟩
    ·have hpe:p=[]:=hpf.2 (by omega)
     rw[if_neg (by rw[hpe];simp)]at hP
     rw[if_neg (by rw[Bp];simp;omega)]at hR
     exact hend (F+22) (by omega) (by rw[if_neg h5]) hP hR
  ·generalize readS (hdr b)=v at*
   obtain⟨v1,v2,v3,v4,v5,v6⟩:=v
   simp only at h3 hP hR
   rw[if_pos (by rw[Ak];simpa using h3)]at hP hR
   exact .inl ⟨v6,h3,hP,hR⟩
 ·generalize frontS b=v at*
  obtain⟨v,e⟩:=v
  simp only at h2 hP hR
  rw[if_pos (by rw[Ak];simpa using h2)]at hP hR
  exact .inl ⟨e,h2,hP,hR⟩
end Go.Pl
set_option linter.unusedVariables false
set_option linter.unusedSimpArgs false
namespace Go.Pl
open Go Go.Lv
theorem Bpt(l:List Int)(i:Nat):(l.take i).sum+(l.drop i).sum=l.sum:=by
 conv=>rhs;rw[←List.take_append_drop i l,List.sum_append]
theorem Iq{l:List Int}(h5:∀x∈l,5≤x)(i:Nat):0≤(l.take i).sum∧(l.take i).sum≤l.sum:=by
 have h1:=Bqp (l.take i) fun x hx=>h5 x (List.mem_of_mem_take hx)
 have h2:=Bqp (l.drop i) fun x hx=>h5 x (List.mem_of_mem_drop hx)
 have:=Bpt l i
 omega
theorem Rq{l:List Int}{i:Nat}(h:i<l.length):(l.take (i+1)).sum=(l.take i).sum+l[i]:=by
 rw[Aix h,List.sum_append];simp
def Aqt(l:List Int)(n:Nat):List Int:=(List.range n).map fun i=>(l.take i).sum
theorem Bhy(l:List Int)(n:Nat):(Aqt l n).length=n:=by simp[Aqt]
theorem Bpc(l:List Int)(n:Nat):Aqt l (n+1)=Aqt l n++[(l.take n).sum]:=by simp[Aqt,List.range_succ]
theorem Aiq(l:List Int){n i:Nat}(h:i<n):getI (Aqt l n) (i:Int)=some ((l.take i).sum):=by
 rw[Ch (by rw[Bhy];exact h)];simp[Aqt]
section
variable {l:List Int} (hl:l.length≤1000) (h5:∀x∈l,5≤x) (hs:l.sum≤100000)
include hl h5 hs
theorem Bc5:∀(j i q:Nat),i+j=l.length→j<q→Ig l q (i:Int) ((l.take i).sum) (Aqt l (i+1))=some (Aqt l (l.length+1),0)
 |0,i,q+1,hi,_=>by
  rw[Ig,Qd,if_neg (by rw[Af,Ac];simp;omega),show i=l.length by omega];rfl
 |j+1,i,q+1,hi,hq=>by
  have hlt:i<l.length:=by omega
  have ih:=Bc5 j (i+1) q (by omega) (by omega)
  have b1:=Iq h5 i
  have b2:=Iq h5 (i+1)
  have e:=Rq hlt
  rw[Bpc l (i+1),e]at ih
  rw[Ig,Qd,if_pos (by rw[Af,Ac];simp;omega),Ch hlt,Aa,Ag (by omega) (by omega),Fc (by simp[Bhy];omega),Aa,Zs,Ajk,Ag (by omega) (by omega),Ag (by omega) (by omega)]
  exact ih
theorem Bnp(h1:1≤l.length):Sf l=some (Aqt l (l.length+1),0):=by
 have h:=Bc5 hl h5 hs l.length 0 Ap (by omega) (by have:=Am;omega)
 have hx:∀x∈l,0≤x∧x<4294967296:=fun x hx=>by
  have:=Bko h5 x hx
  have:=h5 x hx
  omega
 have ht:Anr l=true:=by
  rw[Anr,Bool.and_eq_true]
  exact⟨by simpa using⟨h1,hl⟩,(Ax7 l 100000 (by omega)).2 ⟨h5,hs⟩⟩
 rw[Sf,Zp,Ay0 l hl hx,Aa,if_pos ht,if_neg (by rw[Ak];simp)]
 exact h
theorem Aze(f c w r n A:Int)(hA:0≤A)(hA2:A≤200000)(k:Nat)(hk:k≤l.length):∀(j i q:Nat),i+j=k→j<q→Gd (k:Int) f c w r n A l q (A+(l.take i).sum) (i:Int)=some (A+(l.take k).sum)
 |0,i,q+1,hi,_=>by
  rw[Gd,Nm,if_neg (by rw[Af];simp;omega),show i=k by omega];rfl
 |j+1,i,q+1,hi,hq=>by
  have hlt:i<l.length:=by omega
  have ih:=Aze f c w r n A hA hA2 k hk j (i+1) q (by omega) (by omega)
  have b1:=Iq h5 i
  have b2:=Iq h5 (i+1)
  have e:=Rq hlt
  rw[e,←Int.add_assoc]at ih
  rw[Gd,Nm,if_pos (by rw[Af];simp;omega),Ch hlt,Aa,Ag (by omega) (by omega),Ag (by omega) (by omega)]
  exact ih
theorem Bdo(f c w r n A:Int)(hA:0≤A)(hA2:A≤200000)(k:Nat)(hk:k≤l.length):Aeu f c w r n A l (k:Int)=some (A+(l.take k).sum):=by
 have h:=Aze hl h5 hs f c w r n A hA hA2 k hk k 0 Ap (by omega) (by have:=Am;omega)
 rw[List.take_zero,List.sum_nil,Int.add_zero]at h
 exact h
end
theorem Bbc{g n:Nat}(hg:1≤g)(hn:1≤n){x:Int}(h:x∈framesL g n):∃m:Nat,x=m∧1≤m∧m≤n:=by
 have hmul:=Nat.div_mul_le_self (n-1) g
 rw[framesL,List.mem_append]at h
 rcases h with h|h
 ·rw[List.mem_replicate]at h
  have h1:1≤(n-1)/g:=Nat.pos_of_ne_zero h.1
  have:=Nat.mul_le_mul_right g h1
  exact⟨g,h.2,hg,by omega⟩
 ·rw[List.mem_singleton]at h
  exact⟨_,h,by omega,by omega⟩
theorem Aoc{f c w r n:Nat}(h:shapeB f c w r n=true):(1≤c∧c≤6)∧Ed (w:Int)∧(1≤r∧r≤1048576)∧1≤n∧(f=1∨f=2):=by
 simp only[shapeB,decide_eq_true_eq]at h
 refine⟨h.2.1,?_,h.2.2.2.1,h.2.2.2.2,h.1⟩
 rcases h.2.2.1 with rfl|rfl|rfl
 ·exact .inl rfl
 ·exact .inr (.inl rfl)
 ·exact .inr (.inr rfl)
theorem Bnu{b p:List UInt8}{f c w r n A:Nat}{l:List Int}(o:Opn b p f c w r n A l)(k:Nat)(hk:k<l.length):
  ∃y:List UInt8×Int,Mp (k:Int) (framesL (longN r) n) (f:Int) (c:Int) (w:Int) (r:Int) (n:Int) (A:Int) b (tapsOf p) l (Aqt l (l.length+1))=some y∧
   cadenzaref40_Got b p (f:Int) (c:Int) (w:Int) (r:Int) (n:Int) (A:Int) l (k:Int)=some y:=by
 obtain⟨hc,hw,hr,hn,_⟩:=Aoc o.shape
 have hfit:n≤4000/c:=by have:=o.fit;simp only[fitB,decide_eq_true_eq]at this;exact this.1
 have hn4:n≤4000:=by have:=Nat.div_le_self 4000 c;omega
 have hA:=o.at'
 have hfile:=o.file
 have hlen:=o.len
 have b1:=Iq o.five k
 have b2:=Iq o.five (k+1)
 have e:=Rq hk
 have h5:=o.five l[k] (List.getElem_mem _)
 have hsum:=o.sum
 have hs1:=o.some1
 have hkf:k<(framesL (longN r) n).length:=by omega
 obtain⟨m,hm,m1,m2⟩:=Bbc (Ajx r) hn (List.getElem_mem hkf)
 have e1:Ae (k:Int) 1=((k+1:Nat):Int):=by rw[Ag (by omega) (by omega)];omega
 rw[Mp,Acl,if_neg (by rw[Ak];simp),if_neg (by simp[Af,Cs,Ac];omega),e1,Aiq l (by omega),Aiq l (by omega),Aa,Aa,Aa,Aa,Ac9,Adb,Ag (a:=(A:Int)) (b:=(l.take (k+1)).sum) (by omega) (by omega),Ag (by omega) (by omega)]
 rw[cadenzaref40_Got,Re,Bdo hs1.2 o.five o.sum _ _ _ _ _ (A:Int) (by omega) (by omega) k (by omega),Aa,Ch hk,Aa,Bi (by rw[Ac];omega) (by rw[Ac];omega)]
 by_cases hto:(b.length:Int)<(A:Int)+(l.take (k+1)).sum
 ·rw[if_pos (by rw[Ar,Ac,decide_eq_true_eq];omega),if_pos (by rw[Af,Ac,decide_eq_true_eq];omega)]
  exact⟨_,rfl,rfl⟩
 ·rw[if_neg (by rw[Ar,Ac,decide_eq_true_eq];omega),if_neg (by rw[Af,Ac,decide_eq_true_eq];omega),Bg7 p o.pass,Ati hr.2 hn hn4]
  simp only[Aa]
  rw[Ag (a:=(A:Int)+(l.take k).sum) (b:=l[k]) (by omega) (by omega),Int.add_assoc,←e,Ch hkf,hm]
  simp only[Aa]
  rw[Wy (by omega) (by omega) (by omega),Aa,Aa]
  obtain⟨x,er,g1,g2,g3,_⟩:=Axi (ch:=c) (n:=m) (t:=tapsOf p) ((b.take ((A:Int)+(l.take (k+1)).sum).toNat).drop ((A:Int)+(l.take k).sum).toNat) hw (Bak p) hc.1 hc.2 m1 (by omega)
  rw[g1,g2,Aa,Aa]
  simp only
  rw[Acp,Acw,Qr,Qn]
  by_cases her:er=0
  ·obtain⟨g4,g5,_⟩:=g3 her
   rw[if_neg (by rw[Ak];simpa using her),if_neg (by rw[Ak];simpa using her),Az4 hw g5 g4,Bdi hw g5 g4,Aa,Aa]
   exact⟨_,rfl,rfl⟩
  ·rw[if_pos (by rw[Ak];simpa using her),if_pos (by rw[Ak];simpa using her)]
   exact⟨_,rfl,rfl⟩
theorem Bil{b p:List UInt8}{f c w r n A:Nat}{l:List Int}(o:Opn b p f c w r n A l)(k:Int):Ln b p k=Mp k (framesL (longN r) n) (f:Int) (c:Int) (w:Int) (r:Int) (n:Int) (A:Int) b (tapsOf p) l (Aqt l (l.length+1)):=by
 have hs1:=o.some1
 rw[Ln,Ac0,o.prog,Aa]
 simp only
 rw[if_neg (by rw[Ak];simp),Apn o.shape o.fit,Aa]
 simp only
 rw[if_neg (by rw[Ak];simp),Bnp hs1.2 o.five o.sum hs1.1,Aa]
 simp only
 rw[if_neg (by rw[Ak];simp),Bc7 p o.pass,Aa]
 simp only
 rw[if_neg (by rw[Ak];simp),Ac,←o.len,Aiq l (by omega),Aa,Aa]
end Go.Pl
set_option linter.unusedVariables false
set_option linter.unusedSimpArgs false
namespace Go.Pl
open Go Go.Lv
def Cr(b:List UInt8):List UInt8:=b.drop (b.length-32)
theorem Bst{b:List UInt8}(h:32≤b.length):(Cr b).length=32:=by rw[Cr,List.length_drop];omega
def itA(t:List UInt8):Nat:=Dg (part t 12 4)-32
def mnA(t:List UInt8):Nat:=Dg (part t 16 4)
def Sa(b:List UInt8):Int×Int:=
 if ¬(32≤b.length∧(Cr b).take 8=APE)then(0,6)else if Ac2 (Cr b)=true then(0,12)else
 if Cr b=Nd (itA (Cr b)) (mnA (Cr b)) 0 then(if b.length<itA (Cr b)+32 then(0,24)else(((itA (Cr b)+32:Nat):Int),0))else
 if Cr b≠Nd (itA (Cr b)) (mnA (Cr b)) 2147483648 then(0,12)else
 if b.length<itA (Cr b)+64 then(0,24)else
 if(b.take (b.length-(itA (Cr b)+64)+32)).drop (b.length-(itA (Cr b)+64))≠Nd (itA (Cr b)) (mnA (Cr b)) 2684354560 then(0,12)else(((itA (Cr b)+64:Nat):Int),0)
section
variable {b:List UInt8}
theorem ba1(h:¬(32≤b.length∧(Cr b).take 8=APE)):Sa b=(0,6):=by rw[Sa,if_pos h]
variable (h:32≤b.length∧(Cr b).take 8=APE)
include h
theorem ba2(h2:Ac2 (Cr b)=true):Sa b=(0,12):=by rw[Sa,if_neg (fun h'=>h' h),if_pos h2]
variable (h2:Ac2 (Cr b)=false)
include h2
theorem ba3(h3:Cr b=Nd (itA (Cr b)) (mnA (Cr b)) 0):Sa b=if b.length<itA (Cr b)+32 then(0,24)else(((itA (Cr b)+32:Nat):Int),0):=by
 rw[Sa,if_neg (fun h'=>h' h),if_neg (by rw[h2];simp),if_pos h3]
variable (h3:Cr b≠Nd (itA (Cr b)) (mnA (Cr b)) 0)
include h3
theorem ba4(h4:Cr b≠Nd (itA (Cr b)) (mnA (Cr b)) 2147483648):Sa b=(0,12):=by
 rw[Sa,if_neg (fun h'=>h' h),if_neg (by rw[h2];simp),if_neg h3,if_pos h4]
variable (h4:Cr b=Nd (itA (Cr b)) (mnA (Cr b)) 2147483648)
include h4
theorem ba5(h5:b.length<itA (Cr b)+64):Sa b=(0,24):=by
 rw[Sa,if_neg (fun h'=>h' h),if_neg (by rw[h2];simp),if_neg h3,if_neg (fun e=>e h4),if_pos h5]
theorem ba6(h5:¬b.length<itA (Cr b)+64):Sa b=if(b.take (b.length-(itA (Cr b)+64)+32)).drop (b.length-(itA (Cr b)+64))≠Nd (itA (Cr b)) (mnA (Cr b)) 2684354560 then(0,12)else(((itA (Cr b)+64:Nat):Int),0):=by
 rw[Sa,if_neg (fun h'=>h' h),if_neg (by rw[h2];simp),if_neg h3,if_neg (fun e=>e h4),if_neg h5]
end
theorem Bqj{b:List UInt8}{n:Int}(h:Sa b=(n,0)):32≤n∧n≤b.length:=by
 unfold Sa at h
 split at h; · simp at h
 rename_i h32
 split at h; · simp at h
 split at h
 ·split at h; · simp at h
  simp only[Prod.mk.injEq,and_true]at h;omega
 split at h; · simp at h
 split at h; · simp at h
 split at h; · simp at h
 simp only[Prod.mk.injEq,and_true]at h;omega
theorem Bpa{b:List UInt8}(h:(Sa b).2≠0):(Sa b).1=0:=by
 revert h
 unfold Sa
 split; · simp
 split; · simp
 split
 ·split<;>simp
 split; · simp
 split; · simp
 split<;>simp
theorem Byq{b:List UInt8}(h:32≤b.length)(hl:b.length<4611686018427387904):Ah (Ac b) 32=((b.length-32:Nat):Int)∧Bv b ((b.length-32:Nat):Int) (Ac b)=some (Cr b):=by
 refine⟨by rw[Ac,Bi (by omega) (by omega)];omega,?_⟩
 rw[Px (by omega) (by omega)];rfl
theorem Bp2(b:List UInt8)(hl:b.length<4611686018427387904):As7 b=some (Sa b):=by
 rw[As7,Ao1]
 by_cases h32:32≤b.length
 ·obtain⟨e1,e2⟩:=Byq h32 hl
  have hl3:=Bst h32
  rw[if_neg (by rw[e1,Af];simp),e1,e2,Aa,Alh,Aa]
  by_cases hp:(Cr b).take 8=APE
  ·have h:=And.intro h32 hp
   rw[if_neg (by simpa [APE,hl3]using hp),An2,Awc,e1,e2,Aa,Akr _ 0 (by omega) (by omega) (by decide),Aa]
   cases hb:Ac2 (Cr b)with
   |true=>
    rw[ba2 h hb]
    simp only[if_true,Bool.false_eq_true,if_false]
    rw[Aa,Akr _ 2147483648 (by omega) (by omega) (by decide),Aa,hb];rfl
   |false=>
    obtain⟨i1,i2,i3,i4⟩:=Ayr (Cr b) (by omega) hb
    have eI:Dg (part (Cr b) 12 4)-32=itA (Cr b):=rfl
    have eM:Dg (part (Cr b) 16 4)=mnA (Cr b):=rfl
    simp only[Bool.false_eq_true,if_false]
    rw[eI]at i3
    rw[eM]at i4
    rw[eI,eM]
    by_cases c1:Cr b=Nd (itA (Cr b)) (mnA (Cr b)) 0
    ·have c1':Cr b=Nd (itA (Cr b)) (mnA (Cr b)) (0:UInt64).toNat:=c1
     rw[if_pos (by simpa using c1'),ba3 h hb c1]
     by_cases c2:b.length<itA (Cr b)+32
     ·rw[if_pos (by rw[Af];simp;omega),if_pos c2]
     ·rw[if_neg (by rw[Af];simp;omega),if_neg c2,Ag (by omega) (by omega)];rfl
    ·have c1':¬Cr b=Nd (itA (Cr b)) (mnA (Cr b)) (0:UInt64).toNat:=c1
     rw[if_neg (by simpa using c1'),Aa,Akr _ 2147483648 (by omega) (by omega) (by decide),Aa,hb]
     simp only[Bool.false_eq_true,if_false]
     rw[eI,eM]
     by_cases c2:Cr b=Nd (itA (Cr b)) (mnA (Cr b)) 2147483648
     ·have c2':Cr b=Nd (itA (Cr b)) (mnA (Cr b)) (2147483648:UInt64).toNat:=c2
      rw[if_neg (by simpa using c2'),Ag (by omega) (by omega)]
      by_cases c3:b.length<itA (Cr b)+64
      ·rw[if_pos (by rw[Af,Ac];simp;omega),ba5 h hb c1 c2 c3]
      ·rw[if_neg (by rw[Af,Ac];simp;omega),Ac,Bi (by omega) (by omega),Ag (by omega) (by omega),Wy (by omega) (by omega) (by omega),Aa,Ba6 _ _ _ i3 i4 (by decide),Aa,Fp,Aa,ba6 h hb c1 c2 c3]
       rw[show((b.length:Int)-(((itA (Cr b):Nat):Int)+64)).toNat=b.length-(itA (Cr b)+64) by omega,show((b.length:Int)-(((itA (Cr b):Nat):Int)+64)+32).toNat=b.length-(itA (Cr b)+64)+32 by omega]
       have e7:(2684354560:UInt64).toNat=2684354560:=rfl
       rw[e7]
       by_cases c4:(b.take (b.length-(itA (Cr b)+64)+32)).drop (b.length-(itA (Cr b)+64))=Nd (itA (Cr b)) (mnA (Cr b)) 2684354560
       ·rw[if_neg (by simpa using c4),if_neg (fun e=>e c4)];rfl
       ·rw[if_pos (by simpa using c4),if_pos c4]
     ·have c2':¬Cr b=Nd (itA (Cr b)) (mnA (Cr b)) (2147483648:UInt64).toNat:=c2
      rw[if_pos (by simpa using c2'),ba4 h hb c1 c2]
  ·rw[if_pos (by rw[Bool.not_eq_true',decide_eq_false_iff_not];intro h;exact hp h.2),ba1 (fun h=>hp h.2)]
 ·rw[if_pos (by rw[Ac,Bi (by omega) (by omega),Af];simp;omega),ba1 (fun h=>h32 h.1)]
def Buc:Nat→List UInt8→Nat→Int×Int
 |0,_,_=>(0,38)
 |j+1,b,a=>if b=[]then((a:Int),0)else if(Sa b).2≠0 then(0,38)else Buc j (b.take (b.length-(Sa b).1.toNat)) (a+1)
theorem Bir:∀(j q a:Nat) (b:List UInt8),b.length<j→j≤q→b.length≤4000→a+b.length≤4000→Mn q (a:Int) b=some (Buc j b a)
 |0,_,_,_,h,_,_,_=>by omega
 |j+1,q+1,a,b,h,hq,h4,ha=>by
  rw[Mn,Acy,Buc]
  by_cases hb:b=[]
  ·subst hb;rw[if_neg (by decide),if_pos rfl];rfl
  ·have hpos:0<b.length:=List.length_pos_iff.2 hb
   rw[if_pos (by rw[Ar,Ac];simp;omega),if_neg hb,Bp2 b (by omega),Aa]
   have hbad:=Bpa (b:=b)
   have hok:=fun n=>Bqj (b:=b) (n:=n)
   generalize Sa b=v at*
   obtain⟨n,e⟩:=v
   simp only at hbad⊢
   rw[Zv,Zo]
   by_cases he:e≠0
   ·rw[if_pos he,hbad he,if_pos (by decide)]
   ·obtain⟨k1,k2⟩:=hok n (by rw[show e=0 by simpa using he])
    rw[if_neg he,if_neg (by rw[Bp];simp;omega),Ac,Bi (by omega) (by omega),Jd (by omega) (by omega),Aa,Zx,Ajq,Ag (by omega) (by omega)]
    rw[show((b.length:Int)-n).toNat=b.length-n.toNat by omega]
    have ih:=Bir j q (a+1) (b.take (b.length-n.toNat)) (by rw[List.length_take];omega) (by omega) (by rw[List.length_take];omega) (by rw[List.length_take];omega)
    rw[←ih];rfl
def Ax8(b:List UInt8):Int×Int:=if 4000<b.length then(0,38)else Buc (b.length+1) b 0
theorem Bhv(b:List UInt8)(hl:b.length<4611686018427387904):Vs b=some (Ax8 b):=by
 rw[Vs,Ada,Ax8]
 by_cases h:4000<b.length
 ·rw[if_pos (by rw[Ar,Ac];simp;omega),if_pos h]
 ·rw[if_neg (by rw[Ar,Ac];simp;omega),if_neg h]
  exact Bir _ Ap 0 b (by omega) (by have:=Am;omega) (by omega) (by omega)
end Go.Pl
set_option linter.unusedVariables false
set_option linter.unusedSimpArgs false
namespace Go.Pl
open Go Go.Lv
theorem Bn4{bits:Int}(h:Ed bits)(x:Int):(Aqr bits x).length=wB bits:=by
 obtain rfl|rfl|rfl:=h<;>rfl
theorem Awa{bits:Int}(h:Ed bits):∀l:List Int32,(bytesB bits l).length=l.length*wB bits
 |[]=>by simp[bytesB]
 |x::l=>by
  have h1:=Awa h l
  have h2:=Bn4 h x.toInt
  simp only[bytesB,List.flatMap_cons,List.length_append,List.length_cons,Nat.succ_mul]at*
  omega
def segF(b:List UInt8)(A:Nat)(l:List Int)(k:Nat):List UInt8:=(b.take ((A:Int)+(l.take (k+1)).sum).toNat).drop ((A:Int)+(l.take k).sum).toNat
structure Gts (b p:List UInt8) (f c w r n A:Nat) (l:List Int) (k m:Nat) (x:List Int32) (s:List UInt8) (e:Int):Prop where
 mom:getI (framesL (longN r) n) (k:Int)=some (m:Int)
 pos:1≤m∧m*c≤4000
 got:cadenzaref40_Got b p (f:Int) (c:Int) (w:Int) (r:Int) (n:Int) (A:Int) l (k:Int)=some (s,e)
 none':e≠0→s=[]∧x=[]
 some':e=0→s=bytesB (w:Int) x∧x.length=m*c∧cadenzaref18_Check (w:Int) x=some 0∧width_Bytes (w:Int) x=some (s,0)∧(A:Int)+(l.take (k+1)).sum≤b.length
 way:((b.length:Int)<(A:Int)+(l.take (k+1)).sum∧e=24)∨((A:Int)+(l.take (k+1)).sum≤b.length∧deframe_Decode (c:Int) (w:Int) (tapsOf p) (m:Int) (segF b A l k)=some (x,e)∧cadenzaref21_Decode (c:Int) (w:Int) (tapsOf p) (m:Int) (segF b A l k)=some (x,e))
theorem Bcv{b p:List UInt8}{f c w r n A:Nat}{l:List Int}(o:Opn b p f c w r n A l)(k:Nat)(hk:k<l.length):∃m x s e,Gts b p f c w r n A l k m x s e:=by
 obtain⟨hc,hw,hr,hn,_⟩:=Aoc o.shape
 have hfit:n≤4000/c:=by have:=o.fit;simp only[fitB,decide_eq_true_eq]at this;exact this.1
 have hn4:n≤4000:=by have:=Nat.div_le_self 4000 c;omega
 have hA:=o.at'
 have hfile:=o.file
 have hlen:=o.len
 have b1:=Iq o.five k
 have b2:=Iq o.five (k+1)
 have e:=Rq hk
 have h5:=o.five l[k] (List.getElem_mem _)
 have hsum:=o.sum
 have hs1:=o.some1
 have hkf:k<(framesL (longN r) n).length:=by omega
 obtain⟨m,hm,m1,m2⟩:=Bbc (Ajx r) hn (List.getElem_mem hkf)
 have hmom:getI (framesL (longN r) n) (k:Int)=some (m:Int):=by rw[Ch hkf,hm]
 have hpos:1≤m∧m*c≤4000:=by
  refine⟨m1,?_⟩
  have:=Nat.mul_le_mul_right c (Nat.le_trans m2 hfit)
  have:=Nat.div_mul_le_self 4000 c
  omega
 have hR:cadenzaref40_Got b p (f:Int) (c:Int) (w:Int) (r:Int) (n:Int) (A:Int) l (k:Int)=cadenzaref40_Got b p (f:Int) (c:Int) (w:Int) (r:Int) (n:Int) (A:Int) l (k:Int):=rfl
 conv at hR=>rhs;rw[cadenzaref40_Got,Re,Bdo hs1.2 o.five o.sum _ _ _ _ _ (A:Int) (by omega) (by omega) k (by omega),Aa,Ch hk,Aa,Bi (by rw[Ac];omega) (by rw[Ac];omega)]
 by_cases hto:(b.length:Int)<(A:Int)+(l.take (k+1)).sum
 ·rw[if_pos (by rw[Af,Ac,decide_eq_true_eq];omega)]at hR
  exact⟨m,[],[],24,hmom,hpos,hR,fun _=>⟨rfl,rfl⟩,fun h=>by simp at h, .inl ⟨hto,rfl⟩⟩
 ·rw[if_neg (by rw[Af,Ac,decide_eq_true_eq];omega),Bg7 p o.pass,Ati hr.2 hn hn4]at hR
  simp only[Aa]at hR
  rw[Ag (a:=(A:Int)+(l.take k).sum) (b:=l[k]) (by omega) (by omega),Int.add_assoc,←e,hmom]at hR
  simp only[Aa]at hR
  rw[Wy (by omega) (by omega) (by omega),Aa]at hR
  obtain⟨x,er,g1,g2,g3,g4⟩:=Axi (ch:=c) (n:=m) (t:=tapsOf p) (segF b A l k) hw (Bak p) hc.1 hc.2 m1 (by omega)
  rw[show(b.take ((A:Int)+(l.take (k+1)).sum).toNat).drop ((A:Int)+(l.take k).sum).toNat=segF b A l k from rfl,g2,Aa]at hR
  simp only at hR
  rw[Qr,Qn]at hR
  by_cases her:er=0
  ·obtain⟨g5,g6,g7⟩:=g3 her
   rw[if_neg (by rw[Ak];simpa using her),Bdi hw g6 g5,Aa]at hR
   subst her
   exact⟨m,x,_,0,hmom,hpos,hR,fun h=>absurd rfl h,fun _=>⟨rfl,g7,g5,Az4 hw g6 g5,by omega⟩, .inr ⟨by omega,g1,g2⟩⟩
  ·rw[if_pos (by rw[Ak];simpa using her)]at hR
   exact⟨m,x,_,er,hmom,hpos,hR,fun h=>⟨rfl,g4 h⟩,fun h=>absurd h her, .inr ⟨by omega,g1,g2⟩⟩
theorem Gts.lens{b p:List UInt8}{f c w r n A:Nat}{l:List Int}{k m:Nat}{x:List Int32}{s:List UInt8}{e:Int}(hw:Ed (w:Int))(g:Gts b p f c w r n A l k m x s e):s.length≤12000∧x.length≤4000∧(e=0→s.length=m*c*wB (w:Int)):=by
 by_cases he:e=0
 ·obtain⟨h1,h2,_⟩:=g.some' he
  have h3:=Ak3 (w:Int) x
  have h4:=Awa hw x
  have h5:=g.pos
  rw[←h1]at h3 h4
  refine⟨by omega,by omega,fun _=>by rw[h4,h2]⟩
 ·obtain⟨h1,h2⟩:=g.none' he
  exact⟨by simp[h1],by simp[h2],fun h=>absurd h he⟩
def Atk(G:Nat→List UInt8×Int)(be:Int):Nat→Nat→List UInt8→List UInt8×Int
 |0,_,acc=>if be≠0 then([],38)else(acc,0)
 |j+1,k,acc=>if(G k).2≠0 then([],(G k).2)else Atk G be j (k+1) (acc++(G k).1)
def Bon(b p:List UInt8)(f c w r n A:Nat)(l:List Int)(k:Nat):List UInt8×Int:=(cadenzaref40_Got b p (f:Int) (c:Int) (w:Int) (r:Int) (n:Int) (A:Int) l (k:Int)).getD ([],0)
theorem Gts.eq{b p:List UInt8}{f c w r n A:Nat}{l:List Int}{k m:Nat}{x:List Int32}{s:List UInt8}{e:Int}(g:Gts b p f c w r n A l k m x s e):Bon b p f c w r n A l k=(s,e):=by rw[Bon,g.got];rfl
def Bo8(b:List UInt8)(A:Nat)(l:List Int):Int:=(Ax8 (b.drop ((A:Int)+l.sum).toNat)).2
section
variable {b p:List UInt8} {f c w r n A:Nat} {l:List Int} (o:Opn b p f c w r n A l)
include o
theorem Bn2(k m:Nat)(x:List Int32)(s:List UInt8)(e:Int)(hk:k<l.length)(g:Gts b p f c w r n A l k m x s e)(bk:Int→LB→Au)(M:Int)(acc:List UInt8)(hacc:acc.length≤12000*k):
  Sn bk (A:Int) b (framesL (longN r) n) M (c:Int) (w:Int) (tapsOf p) (f:Int) (r:Int) (n:Int) l (Aqt l (l.length+1)) (k:Int) ((l.take k).sum) ((l.take (k+1)).sum) acc=
   if e≠0 then some ([],e)else bk (((k+1:Nat)):Int) (acc++s):=by
 obtain⟨hc,hw,hr,hn,_⟩:=Aoc o.shape
 have hA:=o.at'
 have hfile:=o.file
 have hs1:=o.some1
 have hsum:=o.sum
 have b1:=Iq o.five k
 have b2:=Iq o.five (k+1)
 have e2:=Rq hk
 have h5:=o.five l[k] (List.getElem_mem _)
 have hl:=g.lens hw
 rw[Sn,Ack,Ag (a:=(A:Int)) (b:=(l.take (k+1)).sum) (by omega) (by omega),Ag (by omega) (by omega),Ac]
 have hend:∀(e1:Int) (s1:List UInt8),s1.length≤12000→Mr bk b (framesL (longN r) n) (A:Int) M (f:Int) (c:Int) (w:Int) (r:Int) (n:Int) (tapsOf p) l (Aqt l (l.length+1)) (k:Int) acc e1 s1=if e1≠0 then some ([],e1)else bk (((k+1:Nat)):Int) (acc++s1):=by
  intro e1 s1 h1
  rw[Mr,Ach]
  by_cases h:e1≠0
  ·rw[if_pos h,if_pos (by rw[Ak];simpa using h)]
  ·rw[if_neg h,if_neg (by rw[Ak];simpa using h),Fc (by omega),Aa,Adc,Alr,Ag (by omega) (by omega)];rfl
 rcases g.way with⟨h1,h2⟩|⟨h1,h2,_⟩
 ·rw[if_pos (by rw[Ar,decide_eq_true_eq];omega),hend 24 [] (by simp),h2];rfl
 ·rw[if_neg (by rw[Ar,decide_eq_true_eq];omega),g.mom]
  simp only[Aa]
  rw[Wy (by omega) (by omega) (by omega),Aa,show(b.take ((A:Int)+(l.take (k+1)).sum).toNat).drop ((A:Int)+(l.take k).sum).toNat=segF b A l k from rfl,h2,Aa]
  simp only
  rw[Acr,Acs]
  by_cases he:e≠0
  ·rw[if_pos (by rw[Ak];simpa using he),hend e [] (by simp),if_pos he,if_pos he]
  ·have he0:e=0:=by simpa using he
   rw[if_neg (by rw[Ak];simpa using he),(g.some' he0).2.2.2.1,Aa]
   simp only
   rw[hend 0 s hl.1,if_neg (by simp),if_neg he]
theorem Bdg:∀(j k q:Nat) (acc:List UInt8),k+j=l.length→j<q→(k=l.length→(A:Int)+l.sum≤b.length)→acc.length≤12000*k→
  Js b (framesL (longN r) n) (A:Int) l.sum (f:Int) (c:Int) (w:Int) (r:Int) (n:Int) (tapsOf p) l (Aqt l (l.length+1)) q (k:Int) acc=some (Atk (Bon b p f c w r n A l) (Bo8 b A l) j k acc)
 |0,k,q+1,acc,hk,_,hfit,_=>by
  have hA:=o.at'
  have hfile:=o.file
  have hs1:=o.some1
  have hsum:=o.sum
  have b1:=Iq o.five l.length
  have hf:=hfit (by omega)
  rw[List.take_length]at b1
  rw[Js,Sr,if_neg (by rw[Af,Ac,←o.len];simp;omega),Ac5,Ame,Ag (by omega) (by omega),Px (by omega) (by omega),Aa,Bhv _ (by rw[List.length_drop];omega),Aa,Atk,Bo8]
  generalize Ax8 (b.drop ((A:Int)+l.sum).toNat)=v
  obtain⟨v1,v2⟩:=v
  simp only
  by_cases hv:v2≠0
  ·rw[if_pos hv,if_pos (by rw[Ak];simpa using hv)]
  ·rw[if_neg hv,if_neg (by rw[Ak];simpa using hv)]
 |j+1,k,q+1,acc,hk,hq,hfit,hacc=>by
  have hs1:=o.some1
  obtain⟨m,x,s,e,g⟩:=Bcv o k (by omega)
  obtain⟨hc,hw,hr,hn,_⟩:=Aoc o.shape
  have hl:=g.lens hw
  have e1:Ae (k:Int) 1=((k+1:Nat):Int):=by rw[Ag (by omega) (by omega)];omega
  rw[Js,Sr,if_pos (by rw[Af,Ac,←o.len];simp;omega),e1,Aiq l (by omega),Aiq l (by omega)]
  simp only[Aa]
  rw[Bn2 o k m x s e (by omega) g _ _ acc hacc,Atk,g.eq]
  simp only
  by_cases he:e≠0
  ·rw[if_pos he,if_pos he]
  ·have he0:e=0:=by simpa using he
   have hfit2:=(g.some' he0).2.2.2.2
   rw[if_neg he,if_neg he]
   exact Bdg j (k+1) q (acc++s) (by omega) (by omega) (fun h=>by rw[h,List.take_length]at hfit2;exact hfit2) (by rw[List.length_append];omega)
theorem Bo3(k:Int):Jz b p k=some (if k<0∨(l.length:Int)≤k then([],2)else Atk (Bon b p f c w r n A l) (Bo8 b A l) (l.length-k.toNat) k.toNat []):=by
 have hs1:=o.some1
 have e1:getI (Aqt l (l.length+1)) (Ac (framesL (longN r) n))=some l.sum:=by rw[Ac,←o.len,Aiq l (by omega),List.take_length]
 rw[Jz,Xg,o.prog,Aa]
 simp only
 rw[if_neg (by rw[Ak];simp),Apn o.shape o.fit,Aa]
 simp only
 rw[if_neg (by rw[Ak];simp),Bnp hs1.2 o.five o.sum hs1.1,Aa]
 simp only
 rw[if_neg (by rw[Ak];simp),Bc7 p o.pass,Aa]
 simp only
 rw[if_neg (by rw[Ak];simp),e1,Aa,Aa,Acn,Ac7,if_neg (by rw[Ak];simp)]
 by_cases hk:k<0∨(l.length:Int)≤k
 ·rw[if_pos hk,if_pos (by rw[Ac,←o.len];simp[Af,Cs];omega)]
 ·rw[if_neg hk,if_neg (by rw[Ac,←o.len];simp[Af,Cs];omega)]
  obtain⟨k,rfl⟩:=Int.eq_ofNat_of_zero_le (show 0≤k by omega)
  exact Bdg o (l.length-k) k Ap [] (by omega) (by have:=Am;omega) (by omega) (by simp)
end
end Go.Pl
set_option linter.unusedVariables false
set_option linter.unusedSimpArgs false
namespace Go.Pl
open Go Go.Lv
theorem Br8{b p:List UInt8}{e:Int}(he:e≠0)(h:seekto_Open b p=some (Bft e))(k:Int):Jz b p k=some ([],e):=by
 rw[Jz,Xg,h,Aa,Bft]
 simp only
 rw[if_pos (by rw[Ak];simpa using he),Acj,Acx,if_pos (by rw[Ak];simpa using he)]
end Go.Pl
set_option linter.unusedVariables false
set_option linter.unusedSimpArgs false
namespace Go.Pl
open Go Go.Lv
variable (b:List UInt8)
end Go.Pl
set_option linter.unusedVariables false
set_option linter.unusedSimpArgs false
namespace Go.Pl
open Go Go.Lv
section
variable {b p:List UInt8} {f c w r n A:Nat} {l:List Int} (o:Opn b p f c w r n A l)
include o
theorem Bor{k m:Nat}{x:List Int32}{s:List UInt8}{e:Int}(hk:k<l.length)(g:Gts b p f c w r n A l k m x s e):Ln b p (k:Int)=some (s,e):=by
 obtain⟨y,h1,h2⟩:=Bnu o k hk
 rw[Bil o,h1,←g.got,h2]
end
end Go.Pl
set_option linter.unusedVariables false
namespace Go.Pl
open Go Go.Lv
theorem Bvr:Ml=some true:=by kernel_rfl
end Go.Pl
