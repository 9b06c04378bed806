/- A part of the proof of a statement of this seat (see the text that ends in Proof): LwBase, LwBitB, LwLe, LwBits, LwRef02, LwCut, LwUn, LwRice, LwDual, LwVal, LwI32, LwFil, LwUnm, LwSam, LwCrc, LwFrm, LwEc1, LwEc2, LwC64, LwWby, LwId, LwApe, LwStrip, LwLen, LwHead, LwSeek, LwOpen, LwFrame. No conditions of its own. -/
import Derived.Test.YtidigmkmfmopgaaGreatDoorSoBA
import Derived.Test.YtidigmkmfmopgaaGreatDoorSoPA
set_option linter.unusedVariables false
set_option linter.unusedSimpArgs false
namespace Go.Lv
theorem Ag{a b:Int}(h: -9223372036854775808≤a+b)(h':a+b≤9223372036854775807):Ad a b=a+b:=by rw[Cdr,Bp h h']
theorem Bb{a b:Int}(h: -9223372036854775808≤a-b)(h':a-b≤9223372036854775807):Ah a b=a-b:=by rw[Cdh,Bp h h']
theorem Gn{a b:Int}(h: -9223372036854775808≤a*b)(h':a*b≤9223372036854775807):Bg a b=a*b:=by rw[Bya,Bp h h']
theorem Ag8(c:UInt8):(Ae c:Int)=(c.toNat:Int):=by rw[Byx,Bp]<;>have:=c.toNat_lt<;>omega
theorem Bea(c:UInt32):(Ae c:Int)=(c.toNat:Int):=by rw[Bsx,Bp]<;>have:=c.toNat_lt<;>omega
theorem Awn(c:UInt8):(Ae c:UInt64)=UInt64.ofNat c.toNat:=by simp only[Ae,Wt,Fv]
theorem Cd(c:UInt32):(Ae c:UInt64)=UInt64.ofNat c.toNat:=by simp only[Ae,Tg,Fv]
theorem Aja(c:UInt64):(Ae c:UInt8)=UInt8.ofNat c.toNat:=by simp only[Ae,Gx,Kc]
theorem Awc(c:UInt32):(Ae c:UInt8)=UInt8.ofNat c.toNat:=by simp only[Ae,Tg,Kc]
theorem Pz(n:Nat):(Ae (n:Int):UInt64)=UInt64.ofNat n:=by simp only[Ae];exact Fv n
theorem Bgs(n:Nat):(Ae (n:Int):UInt32)=UInt32.ofNat n:=by simp only[Ae];exact Ds n
theorem Bvl(n:Nat):(Ae (n:Int):UInt8)=UInt8.ofNat n:=by simp only[Ae];exact Kc n
theorem Azx{c:UInt64}(h:c.toNat<9223372036854775808):(Ae c:Int)=(c.toNat:Int):=by rw[Bu3,Bp]<;>omega
theorem Bq8:LIM=17179869184:=by decide
theorem Al:36893488147419103231<Ao:=by decide
theorem Bu{α:Type}{l:List α}{n:Nat}(h:n<l.length):getI l (n:Int)=some l[n]:=by simp[getI,h]
theorem My{α:Type}{l:List α}{n:Nat}(x:α)(h:n<l.length):Ia l (n:Int) x=some (l.set n x):=by simp[Ia,h]
theorem Rq{α:Type}{l:List α}{a b:Int}(h:0≤a)(h1:a≤b)(h2:b≤l.length):Cf l a b=some ((l.take b.toNat).drop a.toNat):=by rw[Cf,if_pos ⟨h,h1,h2⟩]
theorem Nk{α:Type}{l:List α}{a:Int}(h:0≤a)(h1:a≤l.length):Cf l a (Ac l)=some (l.drop a.toNat):=by
 unfold Ac;rw[Rq h h1 (Int.le_refl _),Int.toNat_natCast,List.take_length]
theorem Jq{α:Type}{l:List α}{b:Int}(h:0≤b)(h1:b≤l.length):Cf l 0 b=some (l.take b.toNat):=by rw[Rq (Int.le_refl _) h h1];rfl
theorem Cg{α:Type}{l m:List α}(h:l.length+m.length≤17179869184):Fj l m=some (l++m):=by rw[Fj,Bq8,if_pos h]
theorem Ax8{α:Type}{n:Int}{z:α}(h:0≤n)(h':n≤17179869184):mkI n z=some (List.replicate n.toNat z):=by rw[mkI,Bq8,if_pos ⟨h,h'⟩]
theorem Ay{b:Bool}(h:b=true):Gw b=some ():=by rw[h];rfl
theorem Aa{α β:Type}(a:α)(f:α→Option β):Option.bind (some a) f=f a:=rfl
theorem drop_cons{α:Type}{l:List α}{n:Nat}(h:n<l.length):l.drop n=l[n]::l.drop (n+1):=List.drop_eq_getElem_cons h
theorem Jw{α:Type}{l:List α}{n:Nat}(h:n<l.length):l.take (n+1)=l.take n++[l[n]]:=by rw[List.take_add_one,List.getElem?_eq_getElem h];rfl
def Dk:List UInt8→Nat
 |[]=>0
 |x::r=>x.toNat+256*Dk r
theorem Bir:∀l:List UInt8,Dk l<256^l.length
 |[]=>by simp[Dk]
 |x::r=>by
  have h:=Bir r
  have:=x.toNat_lt
  simp only[Dk,List.length_cons,Nat.pow_succ]
  omega
theorem Bfw:∀l m:List UInt8,Dk (l++m)=Dk l+256^l.length*Dk m
 |[],m=>by simp[Dk]
 |x::r,m=>by
  simp only[Dk,List.cons_append,Bfw r m,List.length_cons,Nat.pow_succ,Nat.mul_add]
  rw[Nat.mul_comm (256^r.length) 256,Nat.mul_assoc];omega
def leU(l:List UInt8):UInt64:=UInt64.ofNat (Dk l)
theorem Bz3{l:List UInt8}(h:l.length≤8):Dk l<18446744073709551616:=by
 have h1:=Bir l
 have h2:256^l.length≤256^8:=Nat.pow_le_pow_right (by omega) h
 exact Nat.lt_of_lt_of_le h1 (by simpa using h2)
theorem Bqx{l:List UInt8}(h:l.length≤4):Dk l<4294967296:=by
 have h1:=Bir l
 have h2:256^l.length≤256^4:=Nat.pow_le_pow_right (by omega) h
 exact Nat.lt_of_lt_of_le h1 (by simpa using h2)
theorem Ak7{l:List UInt8}(h:l.length≤8):(leU l).toNat=Dk l:=by
 rw[leU,UInt64.toNat_ofNat',Nat.mod_eq_of_lt (Bz3 h)]
theorem Ac2{l:List UInt8}(h:l.length≤4):(Ae (leU l):Int)=(Dk l:Int):=by
 have:=Bqx h
 rw[Azx]<;>rw[Ak7 (by omega)];omega
def Nx(n:Nat):Nat→List UInt8
 |0=>[]
 |w+1=>UInt8.ofNat n::Nx (n/256) w
theorem Bk:∀(w n:Nat),(Nx n w).length=w
 |0,_=>rfl
 |w+1,n=>by simp[Nx,Bk w]
theorem Bmo:∀(w n:Nat),Nx n (w+1)=Nx n w++[UInt8.ofNat (n/256^w)]
 |0,n=>by simp[Nx]
 |w+1,n=>by
  rw[Nx,Bmo w (n/256),Nx]
  simp[Nat.div_div_eq_div_mul,Nat.pow_succ,Nat.mul_comm]
end Go.Lv
set_option linter.unusedVariables false
set_option linter.unusedSimpArgs false
namespace Go.Lv
def Et(p:List UInt8)(i:Nat):Nat:=(p.getD (i/8) 0).toNat/2^(i %8) %2
theorem Uz(p:List UInt8)(i:Nat):Et p i<2:=Nat.mod_lt _ (by omega)
def Bd(p:List UInt8):Nat→Nat→Nat
 |_,0=>0
 |a,n+1=>Et p a+2*Bd p (a+1) n
theorem Kw(p:List UInt8):∀(n a:Nat),Bd p a n<2^n
 |0,_=>by simp[Bd]
 |n+1,a=>by
  have:=Kw p n (a+1)
  have:=Uz p a
  rw[Bd,Nat.pow_succ];omega
theorem Aea(p:List UInt8):∀(m n a:Nat),Bd p a (m+n)=Bd p a m+2^m*Bd p (a+m) n
 |0,n,a=>by simp[Bd]
 |m+1,n,a=>by
  rw[show m+1+n=(m+n)+1 by omega,Bd,Bd,Aea p m n (a+1),show a+1+m=a+(m+1) by omega,Nat.pow_succ,Nat.mul_add,Nat.mul_comm (2^m) 2,Nat.mul_assoc];omega
theorem Axx(p:List UInt8)(a:Nat):Bd p a 1=Et p a:=by simp[Bd]
theorem At0(p:List UInt8)(a n:Nat):Bd p a (n+1)=Bd p a n+2^n*Et p (a+n):=by rw[Aea p n 1 a,Axx]
theorem Ano(p:List UInt8)(a:Nat):∀t:Nat,a %8+t≤8→Bd p a t=(p.getD (a/8) 0).toNat/2^(a %8) %2^t
 |0,_=>by simp[Bd,Nat.mod_one]
 |t+1,h=>by
  have h1:(a+t)/8=a/8:=by omega
  have h2:(a+t) %8=a %8+t:=by omega
  rw[At0,Ano p a t (by omega),Et,h1,h2,Nat.mod_pow_succ,Nat.pow_add,Nat.div_div_eq_div_mul]
theorem Az4{p:List UInt8}:∀(n a:Nat),(∀k,k<n→Et p (a+k)=0)→Bd p a n=0
 |0,_,_=>rfl
 |n+1,a,h=>by
  have h0:=h 0 (by omega)
  rw[Bd,Az4 n (a+1) fun k hk=>by have:=h (k+1) (by omega);rwa [show a+1+k=a+(k+1) by omega]]
  rw[Nat.add_zero]at h0;omega
def okB(p:List UInt8)(n:Nat):Prop:=n≤330000∧p.length=(n+7)/8∧∀k,n≤k→k<8*p.length→Et p k=0
def Lq(p:List UInt8)(a n:Nat):List UInt8:=(List.range ((n+7)/8)).map fun j=>UInt8.ofNat (Bd p (a+8*j) (min 8 (n-8*j)))
theorem Gg(p:List UInt8)(a n:Nat):(Lq p a n).length=(n+7)/8:=by simp[Lq]
theorem Bmy(p:List UInt8):∀(n a k:Nat),k<n→Bd p a n/2^k %2=Et p (a+k)
 |n+1,a,0,_=>by have:=Uz p a;rw[Bd];simp;omega
 |n+1,a,k+1,h=>by
  have hb:=Uz p a
  have e:(Et p a+2*Bd p (a+1) n)/2=Bd p (a+1) n:=by omega
  rw[Bd,Nat.pow_succ,Nat.mul_comm (2^k) 2,←Nat.div_div_eq_div_mul,e,Bmy p n (a+1) k (by omega),show a+1+k=a+(k+1) by omega]
theorem Bsz(p:List UInt8)(n a k:Nat)(h:n≤k):Bd p a n/2^k %2=0:=by
 have:=Kw p n a
 rw[Nat.div_eq_of_lt (Nat.lt_of_lt_of_le this (Nat.pow_le_pow_right (by omega) h))]
theorem Ayr(p:List UInt8)(a n k:Nat):Et (Lq p a n) k=if k<n then Et p (a+k)else 0:=by
 rw[Et]
 by_cases hj:k/8<(n+7)/8
 ·have e:(Lq p a n).getD (k/8) 0=UInt8.ofNat (Bd p (a+8*(k/8)) (min 8 (n-8*(k/8)))):=by
   rw[List.getD_eq_getElem?_getD,List.getElem?_eq_getElem (by rw[Gg];exact hj)];simp[Lq]
  have hlt:Bd p (a+8*(k/8)) (min 8 (n-8*(k/8)))<256:=by
   have:=Kw p (min 8 (n-8*(k/8))) (a+8*(k/8))
   have h2:2^(min 8 (n-8*(k/8)))≤2^8:=Nat.pow_le_pow_right (by omega) (by omega)
   omega
  have hu:(UInt8.ofNat (Bd p (a+8*(k/8)) (min 8 (n-8*(k/8))))).toNat=Bd p (a+8*(k/8)) (min 8 (n-8*(k/8))):=by
   rw[UInt8.toNat_ofNat'];exact Nat.mod_eq_of_lt hlt
  rw[e,hu]
  by_cases hk:k<n
  ·rw[if_pos hk,Bmy p _ _ _ (by omega),show a+8*(k/8)+k %8=a+k by omega]
  ·rw[if_neg hk,Bsz p _ _ _ (by omega)]
 ·have e:(Lq p a n).getD (k/8) 0=0:=by
   rw[List.getD_eq_getElem?_getD,List.getElem?_eq_none (by rw[Gg];omega)];rfl
  rw[e,if_neg (by omega)];simp
theorem Ax7(p:List UInt8)(a n:Nat)(h:n≤330000):okB (Lq p a n) n:=⟨h,Gg p a n,fun k hk _=>by rw[Ayr,if_neg (by omega)]⟩
theorem Bn1{p q:List UInt8}(hl:p.length=q.length)(h:∀k,k<8*p.length→Et p k=Et q k):p=q:=by
 apply List.ext_getElem hl
 intro i h1 h2
 have hp:Bd p (8*i) 8=Bd q (8*i) 8:=by
  have key:∀(n a:Nat),a+n≤8*p.length→Bd p a n=Bd q a n:=by
   intro n
   induction n with
   |zero=>intros;rfl
   |succ n ih=>intro a ha;rw[Bd,Bd,h a (by omega),ih (a+1) (by omega)]
  exact key 8 (8*i) (by omega)
 rw[Ano p _ 8 (by omega),Ano q _ 8 (by omega)]at hp
 have e1:8*i/8=i:=by omega
 have e2:8*i %8=0:=by omega
 rw[e1,e2]at hp
 have a1:p.getD i 0=p[i]:=by simp[List.getD_eq_getElem?_getD,h1]
 have a2:q.getD i 0=q[i]:=by simp[List.getD_eq_getElem?_getD,h2]
 rw[a1,a2]at hp
 apply UInt8.toNat_inj.1
 have:=p[i].toNat_lt
 have:=q[i].toNat_lt
 simp at hp;omega
end Go.Lv
set_option linter.unusedVariables false
set_option linter.unusedSimpArgs false
namespace Go.Pl
open Go Go.Lv
theorem Bv8(b:List UInt8)(hb:b.length<4611686018427387904):∀(j q:Nat),j≤b.length→j<q→Kl b q (leU (b.drop j)) ((j:Int)-1)=some (leU b)
 |0,q+1,_,_=>by
  rw[Kl,Wa,if_neg (by rw[Ck];simp)]
  simp[Aic,Ai9]
 |j+1,q+1,hj,hq=>by
  rw[Kl,Wa,if_pos (by rw[Ck];simp),show((j+1:Nat):Int)-1=(j:Int) by omega,Bu (by omega),Aa,Bb (by omega) (by omega)]
  have h:Ad (Bg (256:UInt64) (leU (b.drop (j+1)))) (Ae b[j]:UInt64)=leU (b.drop j):=by
   rw[Aeb,Aed,Awn,drop_cons (n:=j) (by omega),leU,leU,Dk,UInt64.ofNat_add,UInt64.ofNat_mul]
   exact UInt64.add_comm _ _
  rw[h]
  exact Bv8 b hb j q (by omega) (by omega)
theorem Bl3(b:List UInt8)(hb:b.length<4611686018427387904):Cp b=some (leU b):=by
 have h:=Bv8 b hb b.length Ao (Nat.le_refl _) (by have:=Al;omega)
 rw[Cp,Aha,Ais]
 have e:Ah (Ac b) 1=(b.length:Int)-1:=Bb (by unfold Ac;omega) (by unfold Ac;omega)
 rw[e,←h,List.drop_length];rfl
theorem Bxu{n c:UInt64}{i:Nat}(hn:n.toNat<2^i)(hc:c.toNat*2^i<18446744073709551616):gor n (Cn c i)=UInt64.ofNat (n.toNat+c.toNat*2^i):=by
 rw[Cch];apply UInt64.toNat_inj.1
 rw[UInt64.toNat_or,Aio,Nat.mod_eq_of_lt hc,Nat.mul_comm,Nat.or_comm,←Nat.two_pow_add_eq_or_of_lt hn,UInt64.toNat_ofNat',Nat.mod_eq_of_lt,Nat.add_comm,Nat.mul_comm]
 have h:=Nat.two_pow_add_eq_or_of_lt hn c.toNat
 have h2:2^i*c.toNat+n.toNat<2^64:=by
  rw[h]
  exact Nat.or_lt_two_pow (by rw[Nat.mul_comm];simpa using hc) n.toNat_lt
 rw[Nat.add_comm];first|exact h2|(rw[Nat.mul_comm];exact h2)
theorem Bgj(b:List UInt8)(hb:b.length≤8):∀(j i q:Nat),i+j=b.length→j<q→Wy b q (leU (b.take i)) (i:Int)=some (leU b,0)
 |0,i,q+1,hi,_=>by
  rw[Wy,Aj2,if_neg (by rw[Af,Ac];simp;omega),show i=b.length by omega,List.take_length];rfl
 |j+1,i,q+1,hi,hq=>by
  have hlt:i<b.length:=by omega
  rw[Wy,Aj2,if_pos (by rw[Af,Ac];simp;omega),Bu hlt,Aa,Gn (by omega) (by omega),Ay (by rw[Ck];simp;omega),Aa,Ag (by omega) (by omega)]
  have h:gor (leU (b.take i)) (Cn (Ae b[i]:UInt64) (GI.toZ ((8:Int)*(i:Int))).toNat)=leU (b.take (i+1)):=by
   have e:(GI.toZ ((8:Int)*(i:Int))).toNat=8*i:=by show((8:Int)*(i:Int)).toNat=_;omega
   have e2:(2:Nat)^(8*i)=256^i:=by rw[Nat.pow_mul]
   have h1:=Bir (b.take i)
   rw[List.length_take,Nat.min_eq_left (by omega)]at h1
   have h3:=b[i].toNat_lt
   have hle:(256:Nat)^(i+1)≤256^8:=Nat.pow_le_pow_right (by omega) (by omega)
   rw[Nat.pow_succ]at hle
   have h4:(Ae b[i]:UInt64).toNat=b[i].toNat:=by rw[Awn,UInt64.toNat_ofNat'];omega
   have h5:b[i].toNat*256^i<18446744073709551616:=by
    have:b[i].toNat*256^i<256*256^i:=Nat.mul_lt_mul_of_pos_right (by simpa using h3) (Nat.pow_pos (by omega))
    simp at hle;omega
   rw[e,Bxu (by rw[Ak7 (by simp;omega),e2];exact h1) (by rw[h4,e2];exact h5),Ak7 (by simp;omega),h4,e2,Jw hlt]
   rw[leU,Bfw]
   simp only[Dk,List.length_take,Nat.min_eq_left (Nat.le_of_lt hlt),Nat.mul_zero,Nat.add_zero]
   rw[Nat.mul_comm]
  rw[h]
  exact Bgj b hb j (i+1) q (by omega) (by omega)
theorem Bly(b:List UInt8)(h1:1≤b.length)(h2:b.length≤8):Asi b=some (leU b,0):=by
 have h:=Bgj b h2 b.length 0 Ao (by omega) (by have:=Al;omega)
 rw[Asi,Arw,if_neg (by simp[Af,Ak,Ac];omega),Aro]
 exact h
def part(b:List UInt8)(at' w:Nat):List UInt8:=(b.take (at'+w)).drop at'
theorem Cv{b:List UInt8}{a w:Nat}(h:a+w≤b.length):(part b a w).length=w:=by simp[part];omega
theorem Bhv(b:List UInt8)(a w:Nat)(h1:1≤w)(h2:w≤8)(h3:a+w≤b.length)(hb:b.length<4611686018427387904):Amw b (a:Int) (w:Int)=some (leU (part b a w),0):=by
 rw[Amw,if_neg (by simp[Af,Ak];omega),if_neg (by rw[Ak,Bb (by unfold Ac;omega) (by unfold Ac;omega),Ac];simp;omega),Ag (by omega) (by omega),Rq (by omega) (by omega) (by omega),Aa]
 rw[show((a:Int)+(w:Int)).toNat=a+w by omega,show(a:Int).toNat=a by omega]
 rw[Bly _ (by rw[show((b.take (a+w)).drop a).length=_ from Cv h3];exact h1) (by rw[show((b.take (a+w)).drop a).length=_ from Cv h3];exact h2),Aa];rfl
theorem Bai(w:Nat)(hw:w≤1000):∀(j i q:Nat) (n:UInt64) (acc:List UInt8),i+j=w→j<q→acc.length+j≤1000000→Fx (w:Int) q n (i:Int) acc=some (acc++Nx n.toNat j)
 |0,i,q+1,n,acc,hi,_,_=>by
  rw[Fx,Ni,if_neg (by rw[Af];simp;omega)]
  simp[Xv,Xh,Nx]
 |j+1,i,q+1,n,acc,hi,hq,ha=>by
  rw[Fx,Ni,if_pos (by rw[Af];simp;omega)]
  have e:(Ae (Yb n (256:UInt64)):UInt8)=UInt8.ofNat n.toNat:=by
   rw[Aja,Bnd];apply UInt8.toNat_inj.1
   rw[UInt8.toNat_ofNat',UInt8.toNat_ofNat',UInt64.toNat_mod]
   show n.toNat %256 %256=_
   omega
  have e2:(Bs n (256:UInt64)).toNat=n.toNat/256:=by rw[Axb,UInt64.toNat_div];rfl
  rw[Cg (by simp;omega),Aa,Ag (by omega) (by omega),e]
  have h:=Bai w hw j (i+1) q (Bs n 256) (acc++[UInt8.ofNat n.toNat]) (by omega) (by omega) (by simp;omega)
  rw[e2]at h
  rw[show((i:Int)+1)=((i+1:Nat):Int) by omega,h,Nx];simp
theorem Bcl(n:UInt64)(w:Nat)(hw:w≤1000):Dc n (w:Int)=some (Nx n.toNat w):=by
 rw[Dc,Xk,Xz]
 have h:=Bai w hw w 0 Ao n [] (by omega) (by have:=Al;omega) (by simp;omega)
 simpa using h
theorem Apo{α:Type}{l m:List α}{x y:α}{i:Nat}(h:l.length=i):(l++x::m).set i y=l++y::m:=by subst h;simp
theorem Bgv(n:UInt64)(l4:List UInt8)(w:Nat)(hl:l4.length=w)(hw:w≤8):∀(j i q:Nat),i+j=w→j<q→Xu n l4 q (i:Int) (Nx n.toNat i++List.replicate j 0)=some (Nx n.toNat w,0)
 |0,i,q+1,hi,_=>by
  rw[Xu,Aki,if_neg (by rw[Af,Ac];simp;omega)]
  obtain rfl:i=w:=by omega
  simp[As0,Ba6]
 |j+1,i,q+1,hi,hq=>by
  have hlen:(Nx n.toNat i++List.replicate (j+1) 0).length=i+(j+1):=by simp[Bk]
  rw[Xu,Aki,if_pos (by rw[Af,Ac];simp;omega),Gn (by omega) (by omega),Ay (by rw[Ck];simp;omega),Aa,Bu (by rw[hlen];omega),Aa,My _ (by rw[hlen];omega),Aa,Ag (by omega) (by omega)]
  have e:(Ae (Bl n (GI.toZ ((8:Int)*(i:Int))).toNat):UInt8)=UInt8.ofNat (n.toNat/256^i):=by
   have e:(GI.toZ ((8:Int)*(i:Int))).toNat=8*i:=by show((8:Int)*(i:Int)).toNat=_;omega
   rw[e,Aja,Aai,Nat.pow_mul]
  rw[e,List.replicate_succ,Apo (Bk _ _)]
  have h:=Bgv n l4 w hl hw j (i+1) q (by omega) (by omega)
  rw[Bmo]at h
  simpa using h
theorem Ccj(n:UInt64)(w:Nat)(h1:1≤w)(h2:w≤8)(h:n.toNat<256^w):Bb1 n (w:Int)=some true:=by
 rw[Bb1]
 by_cases h8:w=8
 ·subst h8;rw[if_pos (by rw[Az];rfl)]
 ·rw[if_neg (by rw[Az];simp;omega),Gn (by omega) (by omega),Ay (by rw[Ck];simp;omega),Aa]
  have e:(GI.toZ ((8:Int)*(w:Int))).toNat=8*w:=by show((8:Int)*(w:Int)).toNat=_;omega
  rw[e,Bbt]
  have:Bl n (8*w)=0:=by
   apply UInt64.toNat_inj.1
   rw[Aai,Nat.pow_mul]
   exact Nat.div_eq_of_lt h
  rw[this];rfl
theorem Aix(n:UInt64)(w:Nat)(h1:1≤w)(h2:w≤8)(h:n.toNat<256^w):Un n (w:Int)=some (Nx n.toNat w,0):=by
 rw[Un,Ars,if_neg (by simp[Af,Ak];omega),Ccj n w h1 h2 h,Aa,if_neg (by simp),Ax8 (by omega) (by omega),Aa,Ay (by rw[Az];simp),Aa,Ar5]
 have h:=Bgv n (List.replicate (w:Int).toNat 0) w (by simp) h2 w 0 Ao (by omega) (by have:=Al;omega)
 simpa [Nx]using h
end Go.Pl
set_option linter.unusedVariables false
set_option linter.unusedSimpArgs false
namespace Go.Pl
open Go Go.Lv
theorem Bba(n:Nat)(h:n<4611686018427387904):Cx (n:Int) (7:Int)=((n %8:Nat):Int):=by
 have e:Cx (n:Int) (7:Int)=wrap64 ((BitVec.ofInt 64 (n:Int)&&&BitVec.ofInt 64 7).toNat:Int):=rfl
 rw[e,BitVec.toNat_and,BitVec.toNat_ofInt,BitVec.toNat_ofInt]
 have h1:((n:Int) %((2^64:Nat):Int)).toNat=n:=by omega
 have h2:((7:Int) %((2^64:Nat):Int)).toNat=2^3-1:=by decide
 rw[h1,h2,Nat.and_two_pow_sub_one_eq_mod,Bp (by omega) (by omega)]
theorem Cfl(n:Nat):Bii (n:Int) (GI.toZ (3:UInt64)).toNat=((n/8:Nat):Int):=by
 have e:Bii (n:Int) (GI.toZ (3:UInt64)).toNat=(n:Int).fdiv 8:=rfl
 rw[e,Int.fdiv_eq_ediv_of_nonneg _ (by omega)];omega
theorem Cf0{t:Nat}(h:t≤8):Ah (Cn (1:UInt8) t) (1:UInt8)=UInt8.ofNat (2^t-1):=by
 have:t=0∨t=1∨t=2∨t=3∨t=4∨t=5∨t=6∨t=7∨t=8:=by omega
 rcases this with rfl|rfl|rfl|rfl|rfl|rfl|rfl|rfl|rfl<;>decide
theorem bitsOf(c:UInt8)(off t:Nat)(h:t≤8):(Cx (Bl c off) (Ah (Cn (1:UInt8) t) (1:UInt8))).toNat=c.toNat/2^off %2^t:=by
 have hp:2^t≤2^8:=Nat.pow_le_pow_right (by omega) h
 rw[Cf0 h,Br0,UInt8.toNat_and,Bij,UInt8.toNat_ofNat',Nat.mod_eq_of_lt (by have:=Nat.pow_pos (n:=t) (show 0<2 by omega);omega),Nat.and_two_pow_sub_one_eq_mod]
theorem Bfp{p:List UInt8}{k:Nat}(h:k<p.length):getI p (k:Int)=some (p.getD k 0):=by
 rw[Bu h];simp[List.getD_eq_getElem?_getD,h]
def Kx(p:List UInt8)(a n:Nat):UInt64:=UInt64.ofNat (Bd p a n)
theorem Rv(p:List UInt8)(a n:Nat)(h:n≤64):(Kx p a n).toNat=Bd p a n:=by
 have h1:=Kw p n a
 have h2:2^n≤2^64:=Nat.pow_le_pow_right (by omega) h
 rw[Kx,UInt64.toNat_ofNat',Nat.mod_eq_of_lt (by omega)]
theorem Bku(p:List UInt8)(N:Int)(a n:Nat)(hn:n≤64)(ha:a+n≤8*p.length)(hp:p.length≤1000000):∀(j h q:Nat),h+j=n→j<q→Aen (a:Int) (n:Int) p N q (Kx p a h) (h:Int)=some (Kx p a n)
 |j,h,q+1,hj,hq=>by
  rw[Aen,Atn]
  by_cases hlt:h<n
  ·have e1:Ad (a:Int) (h:Int)=((a+h:Nat):Int):=by rw[Ag (by omega) (by omega)];omega
   have e2:Da (Ah (n:Int) (h:Int)) (Ah (8:Int) (((a+h) %8:Nat):Int))=((min (n-h) (8-(a+h) %8):Nat):Int):=by
    rw[Ab6,Bb (by omega) (by omega),Bb (by omega) (by omega)];omega
   have hm:(a+h)/8<p.length:=by omega
   rw[if_pos (by rw[Af];simp;omega),e1,Cfl,Bfp hm,Aa,Bba _ (by omega),Ay (by rw[Ck];simp;omega),Aa,e2,Ay (by rw[Ck];simp),Aa,Ay (by rw[Ck];simp),Aa]
   generalize hT:min (n-h) (8-(a+h) %8)=T
   have hT8:T≤8:=by omega
   have hT1:1≤T:=by omega
   have hb:(a+h) %8+T≤8:=by omega
   have hv:=Ano p (a+h) T hb
   have z1:(GI.toZ (((a+h) %8:Nat):Int)).toNat=(a+h) %8:=rfl
   have z2:(GI.toZ ((T:Nat):Int)).toNat=T:=rfl
   have z3:(GI.toZ ((h:Nat):Int)).toNat=h:=rfl
   rw[z1,z2,z3]
   have hx:(Ae (Cx (Bl (p.getD ((a+h)/8) 0) ((a+h) %8)) (Ah (Cn (1:UInt8) T) (1:UInt8))):UInt64).toNat=Bd p (a+h) T:=by
    rw[Awn,UInt64.toNat_ofNat',bitsOf _ _ _ hT8,←hv]
    have:=Kw p T (a+h)
    have h2:2^T≤2^8:=Nat.pow_le_pow_right (by omega) hT8
    omega
   have hlt2:=Kw p (h+T) a
   rw[Aea]at hlt2
   have h64:2^(h+T)≤2^64:=Nat.pow_le_pow_right (by omega) (by omega)
   have hor:gor (Kx p a h) (Cn (Ae (Cx (Bl (p.getD ((a+h)/8) 0) ((a+h) %8)) (Ah (Cn (1:UInt8) T) (1:UInt8))):UInt64) h)=Kx p a (h+T):=by
    rw[Bxu (by rw[Rv p a h (by omega)];exact Kw p h a) (by rw[hx,Nat.mul_comm];omega),hx,Rv p a h (by omega),Kx,Aea,Nat.mul_comm (2^h)]
   rw[hor,Ag (by omega) (by omega),show(h:Int)+((T:Nat):Int)=((h+T:Nat):Int) by omega]
   exact Bku p N a n hn ha hp (j-T) (h+T) q (by omega) (by omega)
  ·rw[if_neg (by rw[Af];simp;omega),show h=n by omega];rfl
theorem get_eq(p:List UInt8)(N:Int)(a n:Nat)(hn:n≤64)(ha:a+n≤8*p.length)(hp:p.length≤1000000):Axt p N (a:Int) (n:Int)=some (Kx p a n):=by
 have:=Bku p N a n hn ha hp n 0 Ao (by omega) (by have:=Al;omega)
 exact this
theorem Tc{p:List UInt8}{n:Nat}(h:okB p n):Ge p (n:Int)=some 0:=by
 obtain⟨h1,h2,h3⟩:=h
 have e7:Ad (n:Int) 7=((n+7:Nat):Int):=by rw[Ag (by omega) (by omega)];omega
 rw[Ge,e7,Cfl,if_neg (by simp[Af,Ak,Aj,Ac,h2];omega),Bba _ (by omega)]
 by_cases hz:n %8=0
 ·rw[if_neg (by rw[Ak];simp;omega)]
 ·have el:Ah (Ac p) 1=((p.length-1:Nat):Int):=by rw[Ac,Bb (by omega) (by omega)];omega
  rw[if_pos (by rw[Ak];simp;omega),el,Bfp (by omega),Aa,Ay (by rw[Ck];simp;omega),Aa]
  have z:(GI.toZ ((n %8:Nat):Int)).toNat=n %8:=rfl
  have hs:Bl (p.getD (p.length-1) 0) (n %8)=0:=by
   apply UInt8.toNat_inj.1
   rw[Bij]
   have hv:=Ano p n (8-n %8) (by omega)
   have h0:Bd p n (8-n %8)=0:=Az4 _ _ fun k hk=>h3 _ (by omega) (by omega)
   rw[h0,show n/8=p.length-1 by omega]at hv
   have hlt:(p.getD (p.length-1) 0).toNat/2^(n %8)<2^(8-n %8):=by
    have:=(p.getD (p.length-1) 0).toNat_lt
    rw[Nat.div_lt_iff_lt_mul (Nat.pow_pos (by omega)),←Nat.pow_add,show 8-n %8+n %8=8 by omega];simpa using this
   rw[Nat.mod_eq_of_lt hlt]at hv
   exact hv.symm
  rw[z,hs,if_neg (by rw[Bo7];simp)]
theorem Azz{p:List UInt8}{N:Nat}(h:okB p N)(a n:Nat)(hn:n≤64):Aau p (N:Int) (a:Int) (n:Int)=some (if N<a+n then(0,24)else(Kx p a n,0)):=by
 obtain⟨h1,h2,h3⟩:=h
 rw[Aau,Tc ⟨h1,h2,h3⟩,Aa,if_neg (by rw[Aj];simp),if_neg (by simp[Af,Ak];omega),Bb (by omega) (by omega)]
 by_cases hl:N<a+n
 ·rw[if_pos (by rw[Ak];simp;omega),if_pos hl]
 ·rw[if_neg (by rw[Ak];simp;omega),get_eq p N a n hn (by omega) (by omega),Aa,if_neg hl]
end Go.Pl
set_option linter.unusedVariables false
set_option linter.unusedSimpArgs false
namespace Go.Pl
open Go Go.Lv
theorem Cgb(c:Nat)(h:c<4611686018427387904):Bs (c:Int) (2:Int)=((c/2:Nat):Int):=by
 rw[Afp,Int.tdiv_eq_ediv_of_nonneg (by omega),Bp (by omega) (by omega)];omega
theorem Cf5(c:Nat)(h:c<4611686018427387904):Bs (c:Int) (8:Int)=((c/8:Nat):Int):=by
 rw[Afp,Int.tdiv_eq_ediv_of_nonneg (by omega),Bp (by omega) (by omega)];omega
theorem Bwi(c:Nat):Ew (c:Int) (8:Int)=((c %8:Nat):Int):=by rw[Ew,Int.tmod_eq_emod_of_nonneg (by omega)];omega
theorem Cgd(c:Nat):Ew (c:Int) (2:Int)=((c %2:Nat):Int):=by rw[Ew,Int.tmod_eq_emod_of_nonneg (by omega)];omega
theorem Bqi(i c:Nat)(hc:c<256):∀(j k q:Nat),k+j=i %8→j<q→Jy (i:Int) q ((c/2^k:Nat):Int) (k:Int)=some (((c/2^(i %8) %2:Nat):Int))
 |0,k,q+1,hk,_=>by
  rw[Jy,We,Bwi,if_neg (by rw[Af];simp;omega),Ahy,Ah3,Cgd,show k=i %8 by omega]
 |j+1,k,q+1,hk,hq=>by
  have hle:c/2^k≤c:=Nat.div_le_self _ _
  rw[Jy,We,Bwi,if_pos (by rw[Af];simp;omega),Cgb _ (by omega),Ag (by omega) (by omega),Nat.div_div_eq_div_mul,←Nat.pow_succ]
  exact Bqi i c hc j (k+1) q (by omega) (by omega)
theorem Azb(p:List UInt8)(N:Int)(i:Nat)(h:i/8<p.length)(hi:i<4611686018427387904):It p N (i:Int)=some ((Et p i:Nat):Int):=by
 have hc:=(p.getD (i/8) 0).toNat_lt
 have:=Bqi i (p.getD (i/8) 0).toNat (by simpa using hc) (i %8) 0 Ao (by omega) (by have:=Al;omega)
 rw[It,Ahh,Cf5 _ hi,Bfp h,Aa,Ag8,Ajh]
 simpa [Et]using this
theorem Bcy(p:List UInt8)(N:Int)(a n:Nat)(ha:a+n≤8*p.length)(hp:p.length≤1000000):∀(j q:Nat),j≤n→j<q→Hg (a:Int) p N q (Kx p (a+j) (n-j)) ((j:Int)-1)=some (Kx p a n)
 |0,q+1,_,_=>by
  rw[Hg,Qr,if_neg (by rw[Ck];simp)];rfl
 |j+1,q+1,hj,hq=>by
  have hb:=Uz p (a+j)
  rw[Hg,Qr,show((j+1:Nat):Int)-1=(j:Int) by omega,if_pos (by rw[Ck];simp),Ag (a:=(a:Int)) (by omega) (by omega),show(a:Int)+(j:Int)=((a+j:Nat):Int) by omega,Azb p N (a+j) (by omega) (by omega),Aa,Bb (by omega) (by omega)]
  have e:Ad (Bg (2:UInt64) (Kx p (a+(j+1)) (n-(j+1)))) (Ae ((Et p (a+j):Nat):Int):UInt64)=Kx p (a+j) (n-j):=by
   rw[Aeb,Aed,Pz,Kx,Kx,show n-j=(n-(j+1))+1 by omega,Bd,show a+j+1=a+(j+1) by omega,UInt64.ofNat_add,UInt64.ofNat_mul]
   exact UInt64.add_comm _ _
  rw[e]
  exact Bcy p N a n ha hp j q (by omega) (by omega)
theorem Avy(p:List UInt8)(N:Int)(a n:Nat)(ha:a+n≤8*p.length)(hp:p.length≤1000000):Pb p N (a:Int) (n:Int)=some (Kx p a n):=by
 have:=Bcy p N a n ha hp n Ao (Nat.le_refl _) (by have:=Al;omega)
 have hz:Kx p (a+n) (n-n)=0:=by rw[Nat.sub_self];rfl
 rw[hz]at this
 rw[Pb,Abf,Aby,Bb (by omega) (by omega)]
 exact this
theorem Brf(bit:Int)(N:Nat)(l:List UInt8):∀(j k q:Nat),k+j=N %8→j<q→Ja bit (N:Int) l q ((2^k:Nat):Int) (k:Int)=Tx bit ((2^(N %8):Nat):Int) (N:Int) l
 |0,k,q+1,hk,_=>by
  rw[Ja,Tm,Bwi,if_neg (by rw[Af];simp;omega),show k=N %8 by omega]
 |j+1,k,q+1,hk,hq=>by
  have hp:2^k≤2^8:=Nat.pow_le_pow_right (by omega) (by omega)
  have e:Bg ((2^k:Nat):Int) 2=((2^(k+1):Nat):Int):=by
   rw[Nat.pow_succ]
   generalize 2^k=K at*
   rw[Gn (by omega) (by omega)];omega
  rw[Ja,Tm,Bwi,if_pos (by rw[Af];simp;omega),e,Ag (by omega) (by omega)]
  exact Brf bit N l j (k+1) q (by omega) (by omega)
theorem Bfg(p:List UInt8)(a n j:Nat)(h:j<(n+7)/8):(Lq p a n)[j]'(by rw[Gg];exact h)=UInt8.ofNat (Bd p (a+8*j) (min 8 (n-8*j))):=by simp[Lq]
theorem Ayb(p:List UInt8)(a t:Nat)(h:t≤8):Bd p a t<256:=by
 have h1:=Kw p t a
 have h2:2^t≤2^8:=Nat.pow_le_pow_right (by omega) h
 omega
def room(p:List UInt8)(a n:Nat):List UInt8:=if n %8=0 then Lq p a n++[0]else Lq p a n
theorem Ka(p:List UInt8)(a n:Nat):(room p a n).length=n/8+1:=by
 rw[room];split<;>simp[Gg]<;>omega
theorem Blh(p:List UInt8)(a n j:Nat)(h:j<n/8+1):(room p a n)[j]'(by rw[Ka];exact h)=UInt8.ofNat (Bd p (a+8*j) (min 8 (n-8*j))):=by
 have h0:(room p a n)[j]? =some (UInt8.ofNat (Bd p (a+8*j) (min 8 (n-8*j)))):=by
  rw[room]
  split
  ·by_cases hj:j<(n+7)/8
   ·rw[List.getElem?_append_left (by rw[Gg];exact hj),List.getElem?_eq_getElem (by rw[Gg];exact hj),Bfg p a n j hj]
   ·rw[List.getElem?_append_right (by rw[Gg];omega),Gg,show j-(n+7)/8=0 by omega,show n-8*j=0 by omega];rfl
  ·rw[List.getElem?_eq_getElem (by rw[Gg];omega),Bfg p a n j (by omega)]
 rw[List.getElem?_eq_getElem (by rw[Ka];exact h)]at h0
 exact Option.some.inj h0
theorem Axe(p:List UInt8)(a n T:Nat)(h1:1≤T)(h:n %8+T≤8):(room p a n).set (n/8) (UInt8.ofNat (Bd p (a+8*(n/8)) (n %8+T)))=Lq p a (n+T):=by
 apply List.ext_getElem (by rw[List.length_set,Ka,Gg];omega)
 intro j g1 g2
 rw[List.length_set,Ka]at g1
 rw[List.getElem_set,Bfg p a (n+T) j (by rw[Gg]at g2;exact g2)]
 split
 ·rename_i e;subst e;rw[show min 8 (n+T-8*(n/8))=n %8+T by omega]
 ·rw[Blh p a n j g1,show min 8 (n-8*j)=8 by omega,show min 8 (n+T-8*j)=8 by omega]
theorem Aub(p:List UInt8)(a n:Nat):(room p a n)[n/8]'(by rw[Ka];omega)=UInt8.ofNat (Bd p (a+8*(n/8)) (n %8)):=by
 rw[Blh p a n _ (by omega),show min 8 (n-8*(n/8))=n %8 by omega]
theorem Bx3(p:List UInt8)(a n:Nat)(hn:n≤400000):Td (Lq p a n) (n:Int) ((Et p (a+n):Nat):Int)=some (Lq p a (n+1),((n+1:Nat):Int)):=by
 have hb:=Uz p (a+n)
 have hp:2^(n %8)≤2^7:=Nat.pow_le_pow_right (by omega) (by omega)
 have hroom:Td (Lq p a n) (n:Int) ((Et p (a+n):Nat):Int)=To ((Et p (a+n):Nat):Int) (n:Int) (room p a n):=by
  rw[Td,Aga,Bwi,room]
  by_cases h0:n %8=0
  ·rw[if_pos (by rw[Az,h0];rfl),Cg (by rw[Gg];simp;omega),Aa,if_pos h0]
  ·rw[if_neg (by rw[Az];simp;omega),if_neg h0]
 have hl:=Brf ((Et p (a+n):Nat):Int) n (room p a n) (n %8) 0 Ao (by omega) (by have:=Al;omega)
 rw[hroom,To,Agk,Agj]
 refine Eq.trans hl ?_
 have hg:getI (room p a n) ((n/8:Nat):Int)=some (UInt8.ofNat (Bd p (a+8*(n/8)) (n %8))):=by
  rw[Bu (by rw[Ka];omega),Aub]
 have hlt:=Ayb p (a+8*(n/8)) (n %8+1) (by omega)
 have hsn:=At0 p (a+8*(n/8)) (n %8)
 rw[show a+8*(n/8)+n %8=a+n by omega]at hsn
 have hm:Bg ((Et p (a+n):Nat):Int) ((2^(n %8):Nat):Int)=((2^(n %8)*Et p (a+n):Nat):Int):=by
  have hle:2^(n %8)*Et p (a+n)≤2^7*1:=Nat.mul_le_mul hp (by omega)
  rw[Bya,←Int.natCast_mul,Bp (by omega) (by rw[Nat.mul_comm];omega),Nat.mul_comm]
 have hx:Ad (UInt8.ofNat (Bd p (a+8*(n/8)) (n %8))) (Ae (((2^(n %8)*Et p (a+n):Nat):Int)):UInt8)=UInt8.ofNat (Bd p (a+8*(n/8)) (n %8+1)):=by
  rw[Ca8,Bvl,hsn,UInt8.ofNat_add]
 rw[Tx,Af8,Cf5 _ (by omega),hg,Aa,Aa,Aa,hm,hx,My _ (by rw[Ka];omega),Aa,Axe p a n 1 (by omega) (by omega),Ag (by omega) (by omega)];rfl
theorem Ax6(p:List UInt8)(N:Int)(a n:Nat)(ha:a+n≤8*p.length)(hp:p.length≤1000000)(hn:n≤300000):∀(j m q:Nat),m+j=n→j<q→Fu ((a+n:Nat):Int) p N q ((a+m:Nat):Int) (m:Int) (Lq p a m)=some (Lq p a n,(n:Int))
 |0,m,q+1,hm,_=>by
  rw[Fu,Mz,if_neg (by rw[Af];simp;omega),show m=n by omega];rfl
 |j+1,m,q+1,hm,hq=>by
  rw[Fu,Mz,if_pos (by rw[Af];simp;omega),Azb p N (a+m) (by omega) (by omega),Aa,Bx3 p a m (by omega),Aa]
  simp only
  rw[Ag (by omega) (by omega)]
  exact Ax6 p N a n ha hp hn j (m+1) q (by omega) (by omega)
theorem Boh(p:List UInt8)(N:Int)(a n:Nat)(ha:a+n≤8*p.length)(hp:p.length≤1000000)(hn:n≤300000):Aeh p N (a:Int) ((a+n:Nat):Int)=some (Lq p a n,(n:Int)):=by
 have:=Ax6 p N a n ha hp hn n 0 Ao (by omega) (by have:=Al;omega)
 exact this
end Go.Pl
set_option linter.unusedVariables false
set_option linter.unusedSimpArgs false
namespace Go.Pl
open Go Go.Lv
theorem Cc7{t:Nat}(h:t≤8):Ah (Cn (1:UInt64) t) (1:UInt64)=UInt64.ofNat (2^t-1):=by
 have:t=0∨t=1∨t=2∨t=3∨t=4∨t=5∨t=6∨t=7∨t=8:=by omega
 rcases this with rfl|rfl|rfl|rfl|rfl|rfl|rfl|rfl|rfl<;>decide
theorem Ce6(v:UInt64){t:Nat}(h:t≤8):(Cx v (Ah (Cn (1:UInt64) t) (1:UInt64))).toNat=v.toNat %2^t:=by
 have hp:2^t≤2^8:=Nat.pow_le_pow_right (by omega) h
 rw[Cc7 h,Bfy,UInt64.toNat_and,UInt64.toNat_ofNat',Nat.mod_eq_of_lt (by have:=Nat.pow_pos (n:=t) (show 0<2 by omega);omega),Nat.and_two_pow_sub_one_eq_mod]
theorem or8{v w i:Nat}(hv:v<2^i)(hw:w*2^i<256)(hi:i<8):gor (UInt8.ofNat v) (Cn (UInt8.ofNat w) i)=UInt8.ofNat (v+w*2^i):=by
 have hp:2^i≤2^8:=Nat.pow_le_pow_right (by omega) (by omega)
 have hpos:0<2^i:=Nat.pow_pos (by omega)
 have hw2:w<256:=Nat.lt_of_le_of_lt (Nat.le_mul_of_pos_right w hpos) hw
 rw[Ceh];apply UInt8.toNat_inj.1
 have e1:(UInt8.ofNat v).toNat=v:=by rw[UInt8.toNat_ofNat',Nat.mod_eq_of_lt (by omega)]
 have e2:(UInt8.ofNat w).toNat=w:=by rw[UInt8.toNat_ofNat',Nat.mod_eq_of_lt (by omega)]
 rw[UInt8.toNat_or,Cb3,e1,e2,Nat.mod_eq_of_lt hw,Nat.mul_comm w,Nat.or_comm,←Nat.two_pow_add_eq_or_of_lt hv,UInt8.toNat_ofNat',Nat.add_comm v]
 rw[Nat.mul_comm]at hw
 have hb:2^i*w+v<256:=by
  rw[Nat.two_pow_add_eq_or_of_lt hv]
  exact Nat.or_lt_two_pow (n:=8) hw (by omega)
 rw[Nat.mod_eq_of_lt hb]
theorem Bnt(p:List UInt8)(a n T:Nat)(h:T≤n)(hn:n≤64):Bl (Kx p a n) T=Kx p (a+T) (n-T):=by
 apply UInt64.toNat_inj.1
 rw[Aai,Rv p a n hn,Rv p (a+T) (n-T) (by omega)]
 have:=Kw p T a
 conv=>lhs;rw[show n=T+(n-T) by omega,Aea,Nat.add_mul_div_left _ _ (Nat.pow_pos (by omega)),Nat.div_eq_of_lt this,Nat.zero_add]
theorem Bod(p:List UInt8)(a n T:Nat)(h:T≤n)(hn:n≤64):(Kx p a n).toNat %2^T=Bd p a T:=by
 have:=Kw p T a
 rw[Rv p a n hn]
 conv=>lhs;rw[show n=T+(n-T) by omega,Aea,Nat.add_mul_mod_self_left,Nat.mod_eq_of_lt this]
theorem Bdz(bk:Int→Int→List UInt8→Option (List UInt8×Int×Int))(to':Int)(p:List UInt8)(N fr:Int)(r6:UInt64)(a:Nat):∀(j m q:Nat),m+j≤300000→j≤64→j<q→
  Ls bk to' p N fr r6 q (Kx p (a+m) j) (j:Int) (m:Int) (Lq p a m)=Agq bk to' p N fr ((m+j:Nat):Int) (Lq p a (m+j))
 |0,m,q+1,_,_,_=>by
  rw[Ls,Agn,if_neg (by rw[Ak];simp)];rfl
 |j+1,m,q+1,hm,hj,hq=>by
  have hroom:Ls bk to' p N fr r6 (q+1) (Kx p (a+m) (j+1)) ((j+1:Nat):Int) (m:Int) (Lq p a m)=Ago (Ls bk to' p N fr r6 q) to' fr p N r6 (Kx p (a+m) (j+1)) ((j+1:Nat):Int) (m:Int) (room p a m):=by
   rw[Ls,Agn,if_pos (by rw[Ak];simp),Bba m (by omega),room]
   by_cases h0:m %8=0
   ·rw[if_pos (by rw[Az,h0];rfl),Cg (by rw[Gg];simp;omega),Aa,if_pos h0]
   ·rw[if_neg (by rw[Az];simp;omega),if_neg h0]
  have hl:Ah (Ac (room p a m)) 1=((m/8:Nat):Int):=by
   rw[Ac,Ka,Bb (by omega) (by omega)];omega
  have e2:Da ((j+1:Nat):Int) (Ah (8:Int) ((m %8:Nat):Int))=((min (j+1) (8-m %8):Nat):Int):=by
   rw[Ab6,Bb (by omega) (by omega)];omega
  rw[hroom,Ago,Apn,Bba m (by omega),e2,hl]
  generalize hT:min (j+1) (8-m %8)=T
  have hT1:1≤T:=by omega
  have hT8:m %8+T≤8:=by omega
  have hg:getI (room p a m) ((m/8:Nat):Int)=some (UInt8.ofNat (Bd p (a+8*(m/8)) (m %8))):=by
   rw[Bu (by rw[Ka];omega),Aub]
  have z1:(GI.toZ ((m %8:Nat):Int)).toNat=m %8:=rfl
  have z2:(GI.toZ ((T:Nat):Int)).toNat=T:=rfl
  have hlt:=Ayb p (a+8*(m/8)) (m %8+T) (by omega)
  have hadd:=Aea p (m %8) T (a+8*(m/8))
  rw[show a+8*(m/8)+m %8=a+m by omega]at hadd
  have hbyte:(Ae (Cx (Kx p (a+m) (j+1)) (Ah (Cn (1:UInt64) T) (1:UInt64))):UInt8)=UInt8.ofNat (Bd p (a+m) T):=by
   rw[Aja,Ce6 _ (by omega),Bod p (a+m) (j+1) T (by omega) hj]
  have hnew:gor (UInt8.ofNat (Bd p (a+8*(m/8)) (m %8))) (Cn (UInt8.ofNat (Bd p (a+m) T)) (m %8))=UInt8.ofNat (Bd p (a+8*(m/8)) (m %8+T)):=by
   rw[or8 (Kw _ _ _) (by rw[Nat.mul_comm];omega) (by omega),hadd,Nat.mul_comm (2^(m %8))]
  rw[hg,z1,z2,hbyte]
  simp only[Aa]
  rw[Ay (by rw[Ck];simp),Aa,Ay (by rw[Ck];simp;omega),Aa,hnew,My _ (by rw[Ka];omega),Aa,Axe p a m T hT1 hT8,Aos,Aw5,Bba m (by omega),e2,hT,Ay (by rw[Ck];simp),Aa,z2,Bnt p (a+m) (j+1) T (by omega) hj,Bb (by omega) (by omega),Ag (by omega) (by omega)]
  have ih:=Bdz bk to' p N fr r6 a (j+1-T) (m+T) q (by omega) (by omega) (by omega)
  rw[show m+T+(j+1-T)=m+(j+1) by omega]at ih
  rw[←ih,show a+m+T=a+(m+T) by omega,show((j+1:Nat):Int)-((T:Nat):Int)=((j+1-T:Nat):Int) by omega,show(m:Int)+((T:Nat):Int)=((m+T:Nat):Int) by omega]
theorem Bmz(p:List UInt8)(N:Int)(a n:Nat)(ha:a+n≤8*p.length)(hp:p.length≤1000000)(hn:n≤300000):∀(j m f q:Nat),(f=m∨n≤f∧m=n)→m+j=n→f≤n+64→j<q→Te ((a+n:Nat):Int) p N q ((a+f:Nat):Int) (m:Int) (Lq p a m)=some (Lq p a n,(n:Int),0)
 |j,m,f,q+1,hf,hm,hf2,hq=>by
  rw[Te,Ao7]
  by_cases hlt:f<n
  ·obtain rfl:f=m:=by omega
   have e1:Da (64:Int) (Ah ((a+n:Nat):Int) ((a+f:Nat):Int))=((min 64 (n-f):Nat):Int):=by
    rw[Ab6,Bb (by omega) (by omega)];omega
   rw[if_pos (by rw[Af];simp;omega),e1,get_eq p N (a+f) _ (by omega) (by omega) hp,Aa,Ao4]
   have h1:=Bdz (Te ((a+n:Nat):Int) p N q) ((a+n:Nat):Int) p N ((a+f:Nat):Int) (Kx p (a+f) (min 64 (n-f))) a (min 64 (n-f)) f Ao (by omega) (by omega) (by have:=Al;omega)
   refine Eq.trans h1 ?_
   rw[Agq,Ayo,Ag (by omega) (by omega),show((a+f:Nat):Int)+64=((a+(f+64):Nat):Int) by omega]
   exact Bmz p N a n ha hp hn (j-min 64 (n-f)) (f+min 64 (n-f)) (f+64) q (by omega) (by omega) (by omega) (by omega)
  ·rw[if_neg (by rw[Af];simp;omega),Aoj,Ayl,show m=n by omega]
theorem Cen{p:List UInt8}{N:Nat}(h:okB p N)(a n:Nat)(ha:a+n≤N)(hn:n≤300000):Ato p (N:Int) (a:Int) ((a+n:Nat):Int)=some (Lq p a n,(n:Int),0):=by
 obtain⟨h1,h2,h3⟩:=h
 have:=Bmz p N a n (by omega) (by omega) hn n 0 0 Ao (by omega) (by omega) (by omega) (by have:=Al;omega)
 rw[Ato,Atk,Tc ⟨h1,h2,h3⟩,Aa,if_neg (by rw[Aj];simp),if_neg (by simp[Af,Ak];omega),Apu]
 exact this
end Go.Pl
set_option linter.unusedVariables false
set_option linter.unusedSimpArgs false
namespace Go.Pl
open Go Go.Lv
def Ee(p:List UInt8):Nat→Nat→Nat
 |_,0=>0
 |a,m+1=>if Et p a=1 then 1+Ee p (a+1) m else 0
theorem Akq(p:List UInt8):∀(m a:Nat),Ee p a m≤m
 |0,_=>Nat.le_refl _
 |m+1,a=>by rw[Ee];split<;>have:=Akq p m (a+1)<;>omega
theorem Bnw(p:List UInt8):∀(m a:Nat),∃s,Bd p a m+1=2^(Ee p a m+1)*s+2^Ee p a m∧(Ee p a m=m→s=0)
 |0,a=>⟨0,by simp[Bd,Ee],fun _=>rfl⟩
 |m+1,a=>by
  have hb:=Uz p a
  obtain⟨s,h1,h2⟩:=Bnw p m (a+1)
  by_cases h:Et p a=1
  ·refine⟨s,?_,fun e=>h2 ?_⟩
   ·rw[Ee,if_pos h,Bd,h,show 1+Ee p (a+1) m+1=(Ee p (a+1) m+1)+1 by omega,show 1+Ee p (a+1) m=Ee p (a+1) m+1 by omega,Nat.pow_succ,Nat.pow_succ (n:=2) (m:=Ee p (a+1) m)]
    rw[Nat.pow_succ]at h1
    generalize Bd p (a+1) m=V at*
    generalize 2^Ee p (a+1) m=W at*
    have e1:W*2*2*s=2*(W*2*s):=by rw[Nat.mul_right_comm (W*2) 2 s,Nat.mul_comm]
    omega
   ·rw[Ee,if_pos h]at e;omega
  ·refine⟨Bd p (a+1) m,?_,fun e=>?_⟩
   ·rw[Ee,if_neg h,Bd];simp;omega
   ·rw[Ee,if_neg h]at e;omega
theorem Bzq{n t s:Nat}(h:2^(t+1)*s+2^t≤2^n)(ht:t<n)(x:Nat)(hx:x=2^n-(2^(t+1)*s+2^t)):x&&& (2^(t+1)*s+2^t)=2^t:=by
 have hpos:0<2^t:=Nat.pow_pos (by omega)
 have hlt:2^t<2^(t+1):=by rw[Nat.pow_succ];omega
 have e:x=2^n-((2^(t+1)*s+(2^t-1))+1):=by rw[hx];congr 1;omega
 apply Nat.eq_of_testBit_eq
 intro i
 rw[Nat.testBit_and,e,Nat.testBit_two_pow_sub_succ (by omega),Nat.testBit_two_pow_mul_add _ (by omega),Nat.testBit_two_pow_mul_add _ hlt]
 by_cases hi:i<t+1
 ·rw[if_pos hi,if_pos hi,Nat.testBit_two_pow_sub_one,Nat.testBit_two_pow]
  by_cases hit:t=i
  ·subst hit;simp;exact ht
  ·have:¬i=t:=fun e=>hit e.symm
   simp[hit]
 ·rw[if_neg hi,if_neg hi,Nat.testBit_two_pow]
  have:¬t=i:=by omega
  simp[this]
theorem Bwz(a:UInt64):(Bca a).toNat=18446744073709551615-a.toNat:=by
 have h:=a.toNat_lt
 have e:Bca a=UInt64.ofNat (BitVec.ofInt 64 18446744073709551615^^^BitVec.ofInt 64 (a.toNat:Int)).toNat:=Fv _
 have h1:BitVec.ofInt 64 (a.toNat:Int)=a.toBitVec:=Biz a
 have h2:(BitVec.ofInt 64 18446744073709551615:BitVec 64)=BitVec.allOnes 64:=by decide
 rw[e,UInt64.toNat_ofNat',h1,h2,BitVec.allOnes_xor,BitVec.toNat_not]
 show(18446744073709551616-1-a.toNat) %18446744073709551616=18446744073709551615-a.toNat
 omega
theorem Bwp(a:UInt64):(Aw7 a).toNat=(18446744073709551616-a.toNat) %18446744073709551616:=by
 have h:=a.toNat_lt
 have e:Aw7 a=UInt64.ofNat ((0-(a.toNat:Int)) %18446744073709551616).toNat:=Bjr _
 rw[e,UInt64.toNat_ofNat']
 show((0-(a.toNat:Int)) %18446744073709551616).toNat %18446744073709551616=_
 omega
def Cev:List UInt8:=[0,1,56,2,57,49,28,3,61,58,42,50,38,29,17,4,62,47,59,36,45,43,51,22,53,39,33,30,24,18,12,5,63,55,48,27,60,41,37,16,46,35,44,21,52,32,23,11,54,26,40,15,34,20,31,10,25,14,19,9,13,8,7,6]
theorem Bu0:∀t:Fin 64,getI Cev (GI.toZ (Bl (Bg (UInt64.ofNat (2^t.val)) (285870213051353865:UInt64)) (GI.toZ (58:UInt64)).toNat))=some (UInt8.ofNat t.val):=by decide +kernel
theorem Cfp(x:UInt64)(t s:Nat)(ht:t<64)(h:x.toNat+(2^(t+1)*s+2^t)=18446744073709551616):Ex x=some (t:Int):=by
 have hpos:0<2^t:=Nat.pow_pos (by omega)
 have hx:x.toNat=2^64-(2^(t+1)*s+2^t):=by show x.toNat=18446744073709551616-_;omega
 have hle:2^t≤2^63:=Nat.pow_le_pow_right (by omega) (by omega)
 have hne:x≠0:=by
  intro e
  rw[e]at h
  have h':2^t*(2*s+1)=2^64:=by
   rw[Nat.mul_add,Nat.mul_one,←Nat.mul_assoc,←Nat.pow_succ]
   show _=18446744073709551616
   simpa using h
  have h2:2^64=2^t*2^(64-t):=by rw[←Nat.pow_add];congr 1;omega
  rw[h2]at h'
  have h3:=Nat.eq_of_mul_eq_mul_left hpos h'
  rw[show 64-t=(63-t)+1 by omega,Nat.pow_succ]at h3
  omega
 have hx0:x.toNat≠0:=fun e=>hne (UInt64.toNat_inj.1 e)
 have hl:Cx x (Aw7 x)=UInt64.ofNat (2^t):=by
  apply UInt64.toNat_inj.1
  rw[Bfy,UInt64.toNat_and,Bwp,show(18446744073709551616-x.toNat) %18446744073709551616=2^(t+1)*s+2^t by omega,Bzq (n:=64) (by show _≤18446744073709551616;omega) ht _ hx,UInt64.toNat_ofNat',Nat.mod_eq_of_lt]
  exact Nat.lt_of_le_of_lt hle (by decide)
 have hb:=Bu0 ⟨t,ht⟩
 rw[Ex,if_neg (by rw[Bbt];simpa using hne),hl]
 refine Eq.trans (congrArg (fun o=>Option.bind o fun c=>some (Ae c:Int)) hb) ?_
 rw[Aa,Ag8,UInt8.toNat_ofNat',Nat.mod_eq_of_lt (by show t<256;omega)]
theorem Cbt(p:List UInt8)(a m:Nat)(hm:m≤48):Ex (Bca (Kx p a m))=some ((Ee p a m:Nat):Int):=by
 obtain⟨s,h1,h2⟩:=Bnw p m a
 have hle:=Akq p m a
 have hlt:=Kw p m a
 have h48:2^m≤2^48:=Nat.pow_le_pow_right (by omega) hm
 have hn:(Bca (Kx p a m)).toNat=18446744073709551615-Bd p a m:=by rw[Bwz,Rv p a m (by omega)]
 have h3:(281474976710656:Nat)=2^48:=rfl
 refine Cfp _ (Ee p a m) s (by omega) ?_
 rw[hn];omega
def unS(p:List UInt8)(N a:Nat):Int×Int×Int:=
 if Ee p a (min 48 (N-a))<min 48 (N-a)then((Ee p a (min 48 (N-a)):Nat),((a+Ee p a (min 48 (N-a))+1:Nat):Int),0)else
 if Ee p a (min 48 (N-a))=48 then(48,((a+48:Nat):Int),0)else(0,0,24)
theorem Bvj{p:List UInt8}{N:Nat}(h:okB p N)(a:Nat)(ha:a<N):Acv p (N:Int) (a:Int)=some (unS p N a):=by
 have hN:=h.1
 have e1:Da (48:Int) (Ah (N:Int) (a:Int))=((min 48 (N-a):Nat):Int):=by rw[Ab6,Bb (by omega) (by omega)];omega
 have hle:=Akq p (min 48 (N-a)) a
 rw[Acv,Vg,Tc h,Aa,if_neg (by rw[Aj];simp),if_neg (by rw[Af];simp),if_neg (by rw[Ck];simp;omega),e1,Azz h a _ (by omega),if_neg (by omega),Aa]
 simp only
 rw[Amc,Ama,if_neg (by rw[Aj];simp),Cbt p a _ (by omega),Aa,Alg,Alj,e1,unS]
 by_cases h1:Ee p a (min 48 (N-a))<min 48 (N-a)
 ·rw[if_pos (by rw[Af];simp;omega),if_pos h1,Ag (a:=(a:Int)) (by omega) (by omega),show Ad (0:Int) 1=1 by decide,Ag (by omega) (by omega)]
  congr 3;omega
 ·rw[if_neg (by rw[Af];simp;omega),if_neg h1,Al9,Al6]
  by_cases h2:Ee p a (min 48 (N-a))=48
  ·rw[if_pos (by rw[Az,h2];rfl),if_pos h2,h2,Ag (a:=(a:Int)) (by omega) (by omega),Ag (by omega) (by omega)]
   congr 3;omega
  ·rw[if_neg (by rw[Az];simp;omega),if_neg h2];rfl
theorem Bg7(p:List UInt8):∀(m a:Nat),Ee p a m<m→Et p (a+Ee p a m)≠1
 |0,_,h=>by simp[Ee]at h
 |m+1,a,h=>by
  by_cases hb:Et p a=1
  ·rw[Ee,if_pos hb]at h⊢
   have:=Bg7 p m (a+1) (by omega)
   rwa [show a+(1+Ee p (a+1) m)=a+1+Ee p (a+1) m by omega]
  ·rw[Ee,if_neg hb];exact hb
theorem Bgy(p:List UInt8):∀(m a k:Nat),k<Ee p a m→Et p (a+k)=1
 |0,a,k,h=>by simp[Ee]at h
 |m+1,a,k,h=>by
  by_cases hb:Et p a=1
  ·rw[Ee,if_pos hb]at h
   cases k with
   |zero=>exact hb
   |succ k=>
    have:=Bgy p m (a+1) k (by omega)
    rwa [show a+(k+1)=a+1+k by omega]
  ·rw[Ee,if_neg hb]at h;omega
def unR(p:List UInt8)(N a:Nat):Int×Int:=if(unS p N a).2.2=0 then((unS p N a).1,(unS p N a).2.1)else(-1,0)
theorem Bd1{p:List UInt8}{N:Nat}(h:okB p N)(a:Nat)(ha:a<N):∀(j k q:Nat),k+j=Ee p a (min 48 (N-a))→j<q→Iy (a:Int) p (N:Int) q (k:Int)=some (unR p N a)
 |0,k,q+1,hk,_=>by
  obtain⟨hN,hl,hz⟩:=h
  have hle:=Akq p (min 48 (N-a)) a
  have hk':k=Ee p a (min 48 (N-a)):=by omega
  have e1:Ad (a:Int) (k:Int)=((a+k:Nat):Int):=by rw[Ag (by omega) (by omega)];omega
  have hend:Ty (a:Int) (k:Int) p (N:Int)=some (unR p N a):=by
   rw[Ty,Age,e1]
   by_cases h48:k=48
   ·have hu:unS p N a=(48,((a+48:Nat):Int),0):=by rw[unS,←hk',if_neg (by omega),if_pos h48]
    rw[if_pos (by rw[Az,h48];rfl),unR,hu,h48];rfl
   ·rw[if_neg (by rw[Az];simp;omega)]
    by_cases hN2:N≤a+k
    ·have hu:unS p N a=(0,0,24):=by rw[unS,←hk',if_neg (by omega),if_neg h48]
     rw[if_pos (by rw[Ck];simp;omega),unR,hu];rfl
    ·have hu:unS p N a=(((k:Nat):Int),((a+k+1:Nat):Int),0):=by rw[unS,←hk',if_pos (by omega)]
     rw[if_neg (by rw[Ck];simp;omega),unR,hu,Ag (by omega) (by omega)];rfl
  rw[Iy,Ub,e1]
  by_cases hc:a+k<N∧k<48
  ·have hb:=Uz p (a+k)
   have hs:=Bg7 p (min 48 (N-a)) a (by omega)
   rw[←hk']at hs
   rw[if_pos (by simp[Af];omega),Azb p _ (a+k) (by omega) (by omega),Aa,if_neg (by rw[Az];simp;omega),hend]
  ·rw[if_neg (by simp[Af];omega),hend]
 |j+1,k,q+1,hk,hq=>by
  obtain⟨hN,hl,hz⟩:=h
  have hle:=Akq p (min 48 (N-a)) a
  have hb:=Bgy p (min 48 (N-a)) a k (by omega)
  have e1:Ad (a:Int) (k:Int)=((a+k:Nat):Int):=by rw[Ag (by omega) (by omega)];omega
  rw[Iy,Ub,e1,if_pos (by simp[Af];omega),Azb p _ (a+k) (by omega) (by omega),Aa,hb,if_pos (by decide),Ag (by omega) (by omega)]
  exact Bd1 ⟨hN,hl,hz⟩ a ha j (k+1) q (by omega) (by omega)
theorem Byf{p:List UInt8}{N:Nat}(h:okB p N)(a:Nat)(ha:a<N):Amj p (N:Int) (a:Int)=some (unR p N a):=by
 have hle:=Akq p (min 48 (N-a)) a
 have:=Bd1 h a ha (Ee p a (min 48 (N-a))) 0 Ao (by omega) (by have:=Al;omega)
 exact this
end Go.Pl
set_option linter.unusedVariables false
set_option linter.unusedSimpArgs false
namespace Go.Pl
open Go Go.Lv
theorem Bze{p:List UInt8}{N a:Nat}(h:Ee p a (min 48 (N-a))<min 48 (N-a)):unS p N a=(((Ee p a (min 48 (N-a)):Nat):Int),((a+Ee p a (min 48 (N-a))+1:Nat):Int),0):=by rw[unS,if_pos h]
theorem Bwm{p:List UInt8}{N a:Nat}(h:¬Ee p a (min 48 (N-a))<min 48 (N-a))(h2:Ee p a (min 48 (N-a))=48):unS p N a=(48,((a+48:Nat):Int),0):=by rw[unS,if_neg h,if_pos h2]
theorem Bxi{p:List UInt8}{N a:Nat}(h:¬Ee p a (min 48 (N-a))<min 48 (N-a))(h2:¬Ee p a (min 48 (N-a))=48):unS p N a=(0,0,24):=by rw[unS,if_neg h,if_neg h2]
theorem Bt5{p:List UInt8}{N:Nat}(h:okB p N)(a:Nat)(ha:N≤a):Acv p (N:Int) (a:Int)=some (0,0,24):=by
 rw[Acv,Vg,Tc h,Aa,if_neg (by rw[Aj];simp),if_neg (by rw[Af];simp),if_pos (by rw[Ck];simp;omega)]
def rcS(p:List UInt8)(N a k:Nat):UInt32×Int×Int:=
 if N≤a then(0,0,24)else
 if Ee p a (min 48 (N-a))<min 48 (N-a)then
  (if N<a+Ee p a (min 48 (N-a))+1+k then(0,0,24)else(UInt32.ofNat (Ee p a (min 48 (N-a))*2^k+Bd p (a+Ee p a (min 48 (N-a))+1) k),((a+Ee p a (min 48 (N-a))+1+k:Nat):Int),0))
 else if Ee p a (min 48 (N-a))=48 then
  (if N<a+48+32 then(0,0,24)else if Bd p (a+48) 32/2^k<48 then(0,0,12)else(UInt32.ofNat (Bd p (a+48) 32),((a+48+32:Nat):Int),0))
 else(0,0,24)
theorem Axc{p:List UInt8}{a n:Nat}(h:n≤32):(Ae (Kx p a n):UInt32)=UInt32.ofNat (Bd p a n):=by
 have e:(Ae (Kx p a n):UInt32)=UInt32.ofNat (Kx p a n).toNat:=by simp only[Ae,Gx,Ds]
 rw[e,Rv p a n (by omega)]
theorem Akd{n:Nat}(h:n<4294967296):(UInt32.ofNat n).toNat=n:=by rw[UInt32.toNat_ofNat'];exact Nat.mod_eq_of_lt h
theorem Bnq(p:List UInt8)(a:Nat){n:Nat}(h:n≤32):Bd p a n<4294967296:=by
 have h1:=Kw p n a
 have h2:2^n≤2^32:=Nat.pow_le_pow_right (by omega) h
 omega
theorem Cef{q v k:Nat}(hq:q<48)(hv:v<2^k)(hk:k≤24):gor (Cn (Ae (q:Int):UInt32) k) (UInt32.ofNat v)=UInt32.ofNat (q*2^k+v):=by
 have hp:2^k≤2^24:=Nat.pow_le_pow_right (by omega) hk
 have h1:q*2^k≤47*2^24:=Nat.mul_le_mul (by omega) hp
 rw[Bz7];apply UInt32.toNat_inj.1
 rw[UInt32.toNat_or,Ar7,Bgs,Akd (by omega),Akd (n:=v) (by omega),Nat.mod_eq_of_lt (by omega),Nat.mul_comm q,←Nat.two_pow_add_eq_or_of_lt hv,Akd (by rw[Nat.mul_comm];omega)]
theorem Cbz{p:List UInt8}{N:Nat}(h:okB p N)(a k:Nat)(hk:k≤24):Aty p (N:Int) (a:Int) (k:Int)=some (rcS p N a k):=by
 have hN:=h.1
 rw[Aty,Apq,Tc h,Aa,if_neg (by rw[Aj];simp),if_neg (by simp[Af,Ak];omega)]
 by_cases ha:N≤a
 ·rw[Bt5 h a ha,Aa,rcS,if_pos ha];rfl
 have hle:=Akq p (min 48 (N-a)) a
 rw[Bvj h a (by omega),Aa]
 by_cases h1:Ee p a (min 48 (N-a))<min 48 (N-a)
 ·have hS:rcS p N a k=if N<a+Ee p a (min 48 (N-a))+1+k then(0,0,24)else(UInt32.ofNat (Ee p a (min 48 (N-a))*2^k+Bd p (a+Ee p a (min 48 (N-a))+1) k),((a+Ee p a (min 48 (N-a))+1+k:Nat):Int),0):=by rw[rcS,if_neg ha,if_pos h1]
  rw[Bze h1,hS]
  generalize Ee p a (min 48 (N-a))=q at*
  simp only
  rw[if_neg (by rw[Aj];simp),if_neg (by rw[Az];simp;omega),Agw,Ao0,Azz h _ k (by omega),Aa]
  by_cases h2:N<a+q+1+k
  ·rw[if_pos h2,if_pos h2];rfl
  ·rw[if_neg h2,if_neg h2]
   simp only
   have z:(GI.toZ (k:Int)).toNat=k:=rfl
   rw[if_neg (by rw[Aj];simp),if_pos (by rw[Af];simp;omega),Ay (by rw[Ck];simp),Aa,z,Axc (by omega),Cef (by omega) (Kw _ _ _) hk,Ag (by omega) (by omega)];rfl
 ·by_cases h2:Ee p a (min 48 (N-a))=48
  ·have hS:rcS p N a k=if N<a+48+32 then(0,0,24)else if Bd p (a+48) 32/2^k<48 then(0,0,12)else(UInt32.ofNat (Bd p (a+48) 32),((a+48+32:Nat):Int),0):=by rw[rcS,if_neg ha,if_neg h1,if_pos h2]
   have hg:=Azz h (a+48) 32 (by omega)
   rw[Bwm h1 h2,hS]
   simp only
   rw[if_neg (by rw[Aj];simp),if_pos (by rw[Az];rfl),Agw,Ao0]
   refine Eq.trans (congrArg (fun o=>Option.bind o _) hg) ?_
   rw[Aa]
   by_cases h3:N<a+48+32
   ·rw[if_pos h3,if_pos h3];rfl
   ·rw[if_neg h3,if_neg h3]
    simp only
    have z:(GI.toZ (k:Int)).toNat=k:=rfl
    have hv:=Bnq p (a+48) (n:=32) (by omega)
    rw[if_neg (by rw[Aj];simp),if_neg (by rw[Af];simp),Sy,Ay (by rw[Ck];simp),Aa,Aa,z,Axc (by omega),Bq7]
    have e:(decide ((48:UInt32).toNat≤(Bl (UInt32.ofNat (Bd p (a+48) 32)) k).toNat))=decide (¬Bd p (a+48) 32/2^k<48):=by
     rw[Aer,Akd hv];simp
    rw[e]
    by_cases h4:Bd p (a+48) 32/2^k<48
    ·rw[if_pos (by simp[h4]),if_pos h4]
    ·rw[if_neg (by simp;omega),if_neg h4,Ag (by omega) (by omega)];rfl
  ·rw[Bxi h1 h2,rcS,if_neg ha,if_neg h1,if_neg h2];rfl
theorem Bcs(k:Nat)(hk:k≤63):∀(j i q:Nat),i+j=k→j<q→Hb (k:Int) q (UInt64.ofNat (2^i)) (i:Int)=some (UInt64.ofNat (2^k))
 |0,i,q+1,hi,_=>by
  rw[Hb,Qg,if_neg (by rw[Af];simp;omega),show i=k by omega];rfl
 |j+1,i,q+1,hi,hq=>by
  have e:Bg (UInt64.ofNat (2^i)) (2:UInt64)=UInt64.ofNat (2^(i+1)):=by
   rw[Aed,Nat.pow_succ,UInt64.ofNat_mul];rfl
  rw[Hb,Qg,if_pos (by rw[Af];simp;omega),Ag (by omega) (by omega),e]
  exact Bcs k hk j (i+1) q (by omega) (by omega)
theorem Ad5(k:Nat)(hk:k≤63):Eg (k:Int)=some (UInt64.ofNat (2^k)):=
 Bcs k hk k 0 Ao (by omega) (by have:=Al;omega)
theorem Akb{k:Nat}(hk:k≤63):(UInt64.ofNat (2^k)).toNat=2^k:=by
 have hp:2^k≤2^63:=Nat.pow_le_pow_right (by omega) hk
 rw[UInt64.toNat_ofNat',Nat.mod_eq_of_lt (by omega)]
theorem Cbn(v:UInt32)(k:Nat)(hk:k≤24):Yr v (k:Int)=some ((min 48 (v.toNat/2^k):Nat):Int):=by
 have hpos:0<2^k:=Nat.pow_pos (by omega)
 have hv:=v.toNat_lt
 rw[Yr,Ad5 k (by omega),Aa,Ay (by rw[Ag2];simp only[bne_iff_ne,ne_eq,←UInt64.toNat_inj,Akb (show k≤63 by omega)];simp),Aa]
 have e:(Bs (Ae v:UInt64) (UInt64.ofNat (2^k))).toNat=v.toNat/2^k:=by
  rw[Axb,UInt64.toNat_div,Cd,Akb (by omega),UInt64.toNat_ofNat',Nat.mod_eq_of_lt (by omega)]
 have hle:v.toNat/2^k≤v.toNat:=Nat.div_le_self _ _
 have e2:Da (48:UInt64) (Bs (Ae v:UInt64) (UInt64.ofNat (2^k)))=UInt64.ofNat (min 48 (v.toNat/2^k)):=by
  apply UInt64.toNat_inj.1
  rw[UInt64.toNat_ofNat',Nat.mod_eq_of_lt (by omega)]
  show(if _ then _ else _:UInt64).toNat=_
  rw[show(GI.toZ (Bs (Ae v:UInt64) (UInt64.ofNat (2^k))))=((v.toNat/2^k:Nat):Int) by rw[Gx,e],show GI.toZ (48:UInt64)=48 from rfl]
  split
  ·rw[e];omega
  ·show 48=_;omega
 rw[e2,Azx (by rw[UInt64.toNat_ofNat',Nat.mod_eq_of_lt]<;>omega),UInt64.toNat_ofNat',Nat.mod_eq_of_lt (by omega)]
theorem Bxf{p:List UInt8}{N:Nat}(h:okB p N)(a k:Nat)(hk:k≤24):Acl p (N:Int) (a:Int) (k:Int)=some (rcS p N a k):=by
 obtain⟨hN,hl,hz⟩:=h
 have h:okB p N:=⟨hN,hl,hz⟩
 rw[Acl,Agh]
 by_cases ha:N≤a
 ·rw[if_pos (by rw[Ck];simp;omega),rcS,if_pos ha]
 have hle:=Akq p (min 48 (N-a)) a
 rw[if_neg (by rw[Ck];simp;omega),Byf h a (by omega),Aa,unR]
 by_cases h1:Ee p a (min 48 (N-a))<min 48 (N-a)
 ·have hS:rcS p N a k=if N<a+Ee p a (min 48 (N-a))+1+k then(0,0,24)else(UInt32.ofNat (Ee p a (min 48 (N-a))*2^k+Bd p (a+Ee p a (min 48 (N-a))+1) k),((a+Ee p a (min 48 (N-a))+1+k:Nat):Int),0):=by rw[rcS,if_neg ha,if_pos h1]
  rw[Bze h1,hS]
  generalize Ee p a (min 48 (N-a))=q at*
  rw[if_pos rfl]
  simp only
  rw[if_neg (by rw[Az];simp;omega),Tz,Tw,Bb (by omega) (by omega)]
  by_cases h2:N<a+q+1+k
  ·rw[if_pos (by simp[Af];omega),if_pos h2]
  ·have hp:2^k≤2^24:=Nat.pow_le_pow_right (by omega) hk
   have hm:q*2^k≤47*2^24:=Nat.mul_le_mul (by omega) hp
   have hv:=Kw p k (a+q+1)
   have e:(Ae (Ad (Bg (Ae (q:Int):UInt64) (UInt64.ofNat (2^k))) (Kx p (a+q+1) k)):UInt32)=UInt32.ofNat (q*2^k+Bd p (a+q+1) k):=by
    have e1:Ad (Bg (Ae (q:Int):UInt64) (UInt64.ofNat (2^k))) (Kx p (a+q+1) k)=UInt64.ofNat (q*2^k+Bd p (a+q+1) k):=by
     rw[Aeb,Aed,Pz,Kx,UInt64.ofNat_add,UInt64.ofNat_mul]
    rw[e1]
    have e2:∀x:UInt64,(Ae x:UInt32)=UInt32.ofNat x.toNat:=fun x=>by simp only[Ae,Gx,Ds]
    rw[e2,UInt64.toNat_ofNat',Nat.mod_eq_of_lt (by omega)]
   rw[if_neg (by simp[Af];omega),if_neg h2,Avy p _ _ k (by omega) (by omega),Aa,if_pos (by rw[Af];simp;omega),Ad5 k (by omega),Aa,e,Ag (by omega) (by omega)];rfl
 ·by_cases h2:Ee p a (min 48 (N-a))=48
  ·have hS:rcS p N a k=if N<a+48+32 then(0,0,24)else if Bd p (a+48) 32/2^k<48 then(0,0,12)else(UInt32.ofNat (Bd p (a+48) 32),((a+48+32:Nat):Int),0):=by rw[rcS,if_neg ha,if_neg h1,if_pos h2]
   rw[Bwm h1 h2,hS,if_pos rfl]
   simp only
   rw[if_pos (by rw[Az];rfl),Tz,Tw,Bb (by omega) (by omega)]
   by_cases h3:N<a+48+32
   ·rw[if_pos (by simp[Af];omega),if_pos h3]
   ·have hg:=Avy p (N:Int) (a+48) 32 (by omega) (by omega)
    have hv:=Bnq p (a+48) (n:=32) (by omega)
    rw[if_neg (by simp[Af];omega),if_neg h3]
    refine Eq.trans (congrArg (fun o=>Option.bind o _) hg) ?_
    rw[Aa,if_neg (by rw[Af];simp),Axc (by omega),Cbn _ k hk,Aa,Akd hv]
    by_cases h4:Bd p (a+48) 32/2^k<48
    ·rw[if_pos (by rw[Af];simp;omega),if_pos h4]
    ·rw[if_neg (by rw[Af];simp;omega),if_neg h4,Ag (by omega) (by omega)];rfl
  ·rw[Bxi h1 h2,rcS,if_neg ha,if_neg h1,if_neg h2]
   have e:(if((0:Int),(0:Int),(24:Int)).2.2=0 then(((0:Int),(0:Int),(24:Int)).1,((0:Int),(0:Int),(24:Int)).2.1)else((-1:Int),(0:Int)))=(-1,0):=by decide
   rw[e];rfl
theorem Cej{p:List UInt8}{N a k:Nat}{v:UInt32}{n:Int}(h:rcS p N a k=(v,n,0)):(a:Int)<n∧n≤N:=by
 unfold rcS at h
 split at h
 ·simp at h
 split at h
 ·split at h
  ·simp at h
  ·simp only[Prod.mk.injEq]at h;omega
 ·split at h
  ·split at h
   ·simp at h
   ·split at h
    ·simp at h
    ·simp only[Prod.mk.injEq]at h;omega
  ·simp at h
end Go.Pl
set_option linter.unusedVariables false
set_option linter.unusedSimpArgs false
namespace Go.Pl
open Go Go.Lv
def okD(k l:Nat)(s t:UInt64):Prop:=k≤24∧l≤24∧s.toNat≤68719476735∧t.toNat≤68719476735
theorem Bna(a b:UInt64)(h:a.toNat≤b.toNat):Da a b=a:=by
 show(if _ then _ else _)=_
 rw[Gx,Gx,if_neg (by omega)]
theorem Axh(a:UInt64):geq a a=true:=by rw[Bbt];simp
theorem Bwa{k l:Nat}{s t:UInt64}(h:okD k l s t):Aii (k:Int) (l:Int) s t=some 0:=by
 obtain⟨h1,h2,h3,h4⟩:=h
 have e1:Da (Auq (k:Int) 0) 24=(k:Int):=by rw[Ab6,Bkh];omega
 have e2:Da (Auq (l:Int) 0) 24=(l:Int):=by rw[Ab6,Bkh];omega
 have e3:Da s (68719476735:UInt64)=s:=Bna _ _ (by simpa using h3)
 have e4:Da t (68719476735:UInt64)=t:=Bna _ _ (by simpa using h4)
 have e5:∀a:Int,geq a a=true:=fun a=>by rw[Az];simp
 rw[Aii,Ac8,Alq,Adi,Alc,Avg,e1,e2,e3,e4,e5,e5,Axh,Axh];rfl
def Rf(s n:UInt64):UInt64:=s+n-s/16
def kS(k:Nat)(s:UInt64):Nat:=if 0<k∧s.toNat<2^(k+4)then k-1 else if k<24∧2^(k+5)<s.toNat then k+1 else k
theorem Ccy{k:Nat}(h:k≤24)(s:UInt64):kS k s≤24:=by
 unfold kS
 by_cases h1:0<k∧s.toNat<2^(k+4)
 ·rw[if_pos h1];omega
 ·rw[if_neg h1];split<;>omega
theorem Bqp{k:Nat}{s:UInt64}(h:¬(0<k∧s.toNat<2^(k+4))):(if k<24∧2^(k+5)<s.toNat then((k+1:Nat):Int)else(k:Int))=((kS k s:Nat):Int):=by
 rw[kS,if_neg h];split<;>rfl
theorem Br9{s n:UInt64}(h:s.toNat≤68719476735)(hn:n.toNat≤4294967295):(Rf s n).toNat≤68719476735:=by
 have h1:=s.toNat_lt
 have e:(s+n).toNat=s.toNat+n.toNat:=by rw[UInt64.toNat_add];omega
 have e2:(s/16).toNat=s.toNat/16:=by rw[UInt64.toNat_div];rfl
 rw[Rf,UInt64.toNat_sub_of_le _ _ (by rw[UInt64.le_iff_toNat_le,e,e2];omega),e,e2];omega
theorem Ams(s n:UInt64):Ad s (Ah n (Bl s (GI.toZ (4:UInt64)).toNat))=Rf s n:=by
 have e:Bl s (GI.toZ (4:UInt64)).toNat=s/16:=by
  apply UInt64.toNat_inj.1
  rw[Aai,UInt64.toNat_div];rfl
 rw[e,Aeb,Ax2,Rf,UInt64.sub_eq_add_neg,UInt64.sub_eq_add_neg,UInt64.add_assoc]
theorem Brw(s n:UInt64):Ah (Ad s n) (Bs s (16:UInt64))=Rf s n:=by rw[Aeb,Ax2,Axb,Rf]
theorem Cf2{k:Nat}(h:k≤24):(Cn (16:UInt64) k).toNat=2^(k+4):=by
 have hp:2^k≤2^24:=Nat.pow_le_pow_right (by omega) h
 rw[Aio,Nat.pow_add]
 show 16*2^k %_=2^k*16
 rw[Nat.mod_eq_of_lt (by omega),Nat.mul_comm]
theorem Cdb{k:Nat}(h:k≤24):(Cn (32:UInt64) k).toNat=2^(k+5):=by
 have hp:2^k≤2^24:=Nat.pow_le_pow_right (by omega) h
 rw[Aio,Nat.pow_add]
 show 32*2^k %_=2^k*32
 rw[Nat.mod_eq_of_lt (by omega),Nat.mul_comm]
theorem Cc3{k:Nat}{s:UInt64}(h:0<k)(h2:s.toNat<2^(k+4)):kS k s=k-1:=by rw[kS,if_pos ⟨h,h2⟩]
theorem Ccx{k:Nat}{s:UInt64}(h:¬(0<k∧s.toNat<2^(k+4)))(h2:k<24)(h3:2^(k+5)<s.toNat):kS k s=k+1:=by rw[kS,if_neg h,if_pos ⟨h2,h3⟩]
theorem Br2{k:Nat}{s:UInt64}(h:¬(0<k∧s.toNat<2^(k+4)))(h2:¬(k<24∧2^(k+5)<s.toNat)):kS k s=k:=by rw[kS,if_neg h,if_neg h2]
theorem Bqm{α:Type}(k:Nat)(hk:k≤24)(s:UInt64)(f:Int→Option α):
  (if(Ez (k:Int) (0:Int))=true then(
   Option.bind (Gw (Jt (k:Int) (0:Int))) fun _=>
   if(Bw s (Cn (16:UInt64) (GI.toZ (k:Int)).toNat))=true then f (Ah (k:Int) (1:Int))
   else(if(Bw (k:Int) (24:Int))=true then(
    Option.bind (Gw (Jt (k:Int) (0:Int))) fun _=>
    if(Ez s (Cn (32:UInt64) (GI.toZ (k:Int)).toNat))=true then f (Ad (k:Int) (1:Int))else f (k:Int))
    else f (k:Int)))
  else(if(Bw (k:Int) (24:Int))=true then(
    Option.bind (Gw (Jt (k:Int) (0:Int))) fun _=>
    if(Ez s (Cn (32:UInt64) (GI.toZ (k:Int)).toNat))=true then f (Ad (k:Int) (1:Int))else f (k:Int))
    else f (k:Int)))=f ((kS k s:Nat):Int):=by
 have z:(GI.toZ (k:Int)).toNat=k:=rfl
 rw[z,Ay (by rw[Ck];simp)]
 simp only[Aa]
 rw[Bby,Akm,Cf2 hk,Cdb hk]
 by_cases h0:0<k
 ·rw[if_pos (by rw[Ak];simp;omega)]
  by_cases h1:s.toNat<2^(k+4)
  ·rw[if_pos (by simp[h1]),Cc3 h0 h1,Bb (by omega) (by omega)];congr 1;omega
  ·rw[if_neg (by simp;omega)]
   by_cases h2:k<24
   ·rw[if_pos (by rw[Af];simp;omega)]
    by_cases h3:2^(k+5)<s.toNat
    ·rw[if_pos (by simp[h3]),Ccx (fun h=>h1 h.2) h2 h3,Ag (by omega) (by omega)];rfl
    ·rw[if_neg (by simp;omega),Br2 (fun h=>h1 h.2) (fun h=>h3 h.2)]
   ·rw[if_neg (by rw[Af];simp;omega),Br2 (fun h=>h1 h.2) (fun h=>h2 h.1)]
 ·rw[if_neg (by rw[Ak];simp;omega)]
  by_cases h2:k<24
  ·rw[if_pos (by rw[Af];simp;omega)]
   by_cases h3:2^(k+5)<s.toNat
   ·rw[if_pos (by simp[h3]),Ccx (fun h=>h0 h.1) h2 h3,Ag (by omega) (by omega)];rfl
   ·rw[if_neg (by simp;omega),Br2 (fun h=>h0 h.1) (fun h=>h3 h.2)]
  ·rw[if_neg (by rw[Af];simp;omega),Br2 (fun h=>h0 h.1) (fun h=>h2 h.1)]
theorem Bqy(k:Nat)(hk:k≤24)(s n:UInt64):Qz (k:Int) s n=some (((kS k (Rf s n):Nat):Int),Rf s n):=by
 have g1:Ad (k:Int) 4=((k+4:Nat):Int):=by rw[Ag (by omega) (by omega)];omega
 have g2:Ad (k:Int) 5=((k+5:Nat):Int):=by rw[Ag (by omega) (by omega)];omega
 have hp:Ri (k:Int) s n=some (if k<24∧2^(k+5)<(Rf s n).toNat then((k+1:Nat):Int)else(k:Int),Rf s n):=by
  rw[Ri,Adx,g2,Ad5 _ (by omega),Aa,Brw,Akm,Akb (by omega)]
  by_cases h2:k<24
  ·rw[if_pos (by rw[Af];simp;omega)]
   by_cases h3:2^(k+5)<(Rf s n).toNat
   ·rw[if_pos (by simp[h3]),if_pos ⟨h2,h3⟩,Ag (by omega) (by omega)];rfl
   ·rw[if_neg (by simp;omega),if_neg (fun h=>h3 h.2)]
  ·rw[if_neg (by rw[Af];simp;omega),if_neg (fun h=>h2 h.1)]
 rw[Qz,Ad1,g1,Ad5 _ (by omega),Aa,Brw,Bby,Akb (by omega),hp]
 by_cases h0:0<k
 ·rw[if_pos (by rw[Ak];simp;omega)]
  by_cases h1:(Rf s n).toNat<2^(k+4)
  ·rw[if_pos (by simp[h1]),Cc3 h0 h1,Bb (by omega) (by omega)];congr 2;omega
  ·rw[if_neg (by simp;omega),Bqp (fun h=>h1 h.2)]
 ·rw[if_neg (by rw[Ak];simp;omega),Bqp (fun h=>h0 h.1)]
def n64(v:UInt32):UInt64:=UInt64.ofNat v.toNat
theorem Bxe(v:UInt32):(n64 v).toNat≤4294967295:=by have:=v.toNat_lt;rw[n64,UInt64.toNat_ofNat',Nat.mod_eq_of_lt (by omega)];omega
def Aqa(k:Nat)(v:UInt32):UInt32:=UInt32.ofNat (v.toNat-2^k)
def lK(l:Nat)(t:UInt64)(k:Nat)(v:UInt32):Nat:=if v.toNat<2^k then l else kS l (Rf t (n64 (Aqa k v)))
def lT(t:UInt64)(k:Nat)(v:UInt32):UInt64:=if v.toNat<2^k then t else Rf t (n64 (Aqa k v))
theorem Bv0{k l:Nat}{s t:UInt64}(h:okD k l s t)(v:UInt32):okD (kS k (Rf s (n64 v))) (lK l t k v) (Rf s (n64 v)) (lT t k v):=by
 obtain⟨h1,h2,h3,h4⟩:=h
 refine⟨Ccy h1 _,?_,Br9 h3 (Bxe v),?_⟩
 ·unfold lK;split; · exact h2
  exact Ccy h2 _
 ·unfold lT;split; · exact h4
  exact Br9 h4 (Bxe _)
theorem Cd5(k l:Nat)(s t:UInt64)(hk:k≤24)(v:UInt32):Acj (k:Int) (l:Int) s t v=some (decide (v.toNat<2^k)):=by
 have:=v.toNat_lt
 rw[Acj,Ad5 k (by omega),Aa,Bby,Akb (by omega),Cd,UInt64.toNat_ofNat',Nat.mod_eq_of_lt (by omega)]
theorem left_eq(k l:Nat)(s t:UInt64)(hk:k≤24)(v:UInt32)(h:¬v.toNat<2^k):Aat (k:Int) (l:Int) s t v=some (Aqa k v):=by
 have:=v.toNat_lt
 have e2:∀x:UInt64,(Ae x:UInt32)=UInt32.ofNat x.toNat:=fun x=>by simp only[Ae,Gx,Ds]
 have e3:(UInt64.ofNat v.toNat).toNat=v.toNat:=by rw[UInt64.toNat_ofNat',Nat.mod_eq_of_lt (by omega)]
 rw[Aat,Ad5 k (by omega),Aa,e2,Ax2,Cd,UInt64.toNat_sub_of_le _ _ (by rw[UInt64.le_iff_toNat_le,Akb (by omega),e3];omega),Akb (by omega),e3,Aqa]
theorem Buy{k l:Nat}{s t:UInt64}(h:okD k l s t)(v:UInt32):Ud (k:Int) (l:Int) s t v=some (((kS k (Rf s (n64 v)):Nat):Int),((lK l t k v:Nat):Int),Rf s (n64 v),lT t k v):=by
 obtain⟨h1,h2,h3,h4⟩:=h
 have hp:∀(r1:Int) (r2:UInt64),Pc v (k:Int) (l:Int) s t r1 r2=some (((kS k (Rf s (n64 v)):Nat):Int),r1,Rf s (n64 v),r2):=by
  intro r1 r2
  rw[Pc,Yl,Cd,Bqy k h1,Aa];rfl
 rw[Ud,Zj,Cd5 k l s t h1,Aa]
 by_cases hv:v.toNat<2^k
 ·rw[if_neg (by simp[hv]),hp,lK,if_pos hv,lT,if_pos hv]
 ·rw[if_pos (by simp;omega),left_eq k l s t h1 v hv,Aa,Cd,Bqy l h2,Aa]
  simp only
  rw[hp,lK,if_neg hv,lT,if_neg hv];rfl
theorem Bdr(k l:Nat)(s t:UInt64)(hk:k≤24)(v:UInt32):Aco (k:Int) (l:Int) s t v=some (if v.toNat<2^k then(0,v)else(1,Aqa k v)):=by
 have hp:2^k≤2^24:=Nat.pow_le_pow_right (by omega) hk
 have hpos:0<2^k:=Nat.pow_pos (by omega)
 have hl:=v.toNat_lt
 have z:(GI.toZ (k:Int)).toNat=k:=rfl
 have e1:geq (Bl v k) (0:UInt32)=decide (v.toNat<2^k):=by
  rw[Bjw,Bool.eq_iff_iff]
  simp only[beq_iff_eq,←UInt32.toNat_inj,Aer,decide_eq_true_eq]
  show _/_=0↔_
  rw[Nat.div_eq_zero_iff];omega
 have e2:¬v.toNat<2^k→Ah v (Cn (1:UInt32) k)=Aqa k v:=by
  intro h
  have e3:(Cn (1:UInt32) k).toNat=2^k:=by rw[Ar7];show 1*2^k %_=_;rw[Nat.mod_eq_of_lt (by omega),Nat.one_mul]
  apply UInt32.toNat_inj.1
  rw[Bc1,UInt32.toNat_sub_of_le _ _ (by rw[UInt32.le_iff_toNat_le,e3];omega),e3,Aqa,Akd (by omega)]
 rw[Aco,Ay (by rw[Ck];simp),Aa,Aa,z,e1]
 by_cases h:v.toNat<2^k
 ·rw[if_pos (by simp[h]),if_pos h]
 ·rw[if_neg (by simp;omega),if_neg h,e2 h]
abbrev Rd:=UInt32×Int×Int×Int×UInt64×UInt64×Int
theorem Bc7{k l:Nat}{s t:UInt64}(h:okD k l s t)(v:UInt32)(r:Int):Ags (k:Int) (l:Int) s t v r=some (v,r,((kS k (Rf s (n64 v)):Nat):Int),((lK l t k v:Nat):Int),Rf s (n64 v),lT t k v,0):=by
 obtain⟨h1,h2,h3,h4⟩:=h
 have hp:∀(x:Int) (y:UInt64),Aaa v r (k:Int) s x y=some (v,r,((kS k (Rf s (n64 v)):Nat):Int),x,Rf s (n64 v),y,0):=by
  intro x y
  rw[Aaa,Aov,Cd,Ams,Bqm k h1]
  rw[Api,Aox,Ala,Avi,Cd,Ams];rfl
 rw[Ags,Aps,Bdr k l s t h1,Aa]
 by_cases hv:v.toNat<2^k
 ·rw[if_pos hv]
  simp only
  rw[if_neg (by rw[Az];simp),hp,lK,if_pos hv,lT,if_pos hv]
 ·rw[if_neg hv]
  simp only
  rw[if_pos (by rw[Az];rfl),Cd,Ams,Bqm l h2 _ (fun x=>Aaa v r (k:Int) s x (Rf t (UInt64.ofNat (Aqa k v).toNat))),hp,lK,if_neg hv,lT,if_neg hv];rfl
def dgS(p:List UInt8)(N a k l:Nat):UInt32×Int×Int:=
 if N≤a then(0,0,24)else
 if Et p a=0 then(if N<a+1+k then(0,0,24)else(UInt32.ofNat (Bd p (a+1) k),((a+1+k:Nat):Int),0))else
 if(rcS p N (a+1) l).2.2≠0 then(0,0,(rcS p N (a+1) l).2.2)else
 if 4294967295<(rcS p N (a+1) l).1.toNat+2^k then(0,0,12)else(UInt32.ofNat ((rcS p N (a+1) l).1.toNat+2^k),(rcS p N (a+1) l).2.1,0)
theorem Cdm{p:List UInt8}{N a k l:Nat}(h:(dgS p N a k l).2.2=0):(a:Int)<(dgS p N a k l).2.1∧(dgS p N a k l).2.1≤N:=by
 revert h
 unfold dgS
 split
 ·simp
 split
 ·split
  ·simp
  ·simp only;omega
 ·split
  ·intro h;contradiction
  ·rename_i h1
   split
   ·simp
   ·intro _
    have:=Cej (p:=p) (N:=N) (a:=a+1) (k:=l) (v:=(rcS p N (a+1) l).1) (n:=(rcS p N (a+1) l).2.1) (by
     have e:(rcS p N (a+1) l).2.2=0:=by simpa using h1
     rw[←e])
    simp only;omega
theorem Ca4{p:List UInt8}{N:Nat}(h:okB p N)(a:Nat){k l:Nat}{s t:UInt64}(hd:okD k l s t):Aca p (N:Int) (a:Int) (k:Int) (l:Int) s t=
  some (if(dgS p N a k l).2.2≠0 then(0,0,0,0,0,0,(dgS p N a k l).2.2)else((dgS p N a k l).1,(dgS p N a k l).2.1,((kS k (Rf s (n64 (dgS p N a k l).1)):Nat):Int),((lK l t k (dgS p N a k l).1:Nat):Int),Rf s (n64 (dgS p N a k l).1),lT t k (dgS p N a k l).1,0)):=by
 obtain⟨h1,h2,h3,h4⟩:=hd
 have hd:okD k l s t:=⟨h1,h2,h3,h4⟩
 have hN:=h.1
 have hg:=Azz h a 1 (by omega)
 have hb:=Uz p a
 rw[Aca,Apt,Tc h,Aa,if_neg (by rw[Aj];simp),Bwa hd,Aa,if_neg (by rw[Aj];simp),Apw,An4]
 refine Eq.trans (congrArg (fun o=>Option.bind o _) hg) ?_
 rw[Aa]
 by_cases ha:N≤a
 ·have hS:dgS p N a k l=(0,0,24):=by rw[dgS,if_pos ha]
  rw[if_pos (by omega),hS];rfl
 rw[if_neg (by omega)]
 simp only
 have e0:geq (Kx p a 1) (0:UInt64)=decide (Et p a=0):=by
  rw[Bbt,Bool.eq_iff_iff]
  simp only[beq_iff_eq,←UInt64.toNat_inj,decide_eq_true_eq,Rv p a 1 (by omega),Axx];rfl
 have e1:Ad (a:Int) 1=((a+1:Nat):Int):=by rw[Ag (by omega) (by omega)];omega
 rw[if_neg (by rw[Aj];simp),e0,e1]
 by_cases hz:Et p a=0
 ·rw[if_pos (by simp[hz]),Azz h (a+1) k (by omega),Aa]
  by_cases h5:N<a+1+k
  ·have hS:dgS p N a k l=(0,0,24):=by rw[dgS,if_neg ha,if_pos hz,if_pos h5]
   rw[if_pos h5,hS];rfl
  ·have hS:dgS p N a k l=(UInt32.ofNat (Bd p (a+1) k),((a+1+k:Nat):Int),0):=by rw[dgS,if_neg ha,if_pos hz,if_neg h5]
   rw[if_neg h5,hS]
   simp only
   rw[if_neg (by rw[Aj];simp),Bc7 hd,Axc (by omega),Ag (by omega) (by omega)];rfl
 ·rw[if_neg (by simp[hz]),Cbz h (a+1) l h2,Aa]
  have hp:2^k≤2^24:=Nat.pow_le_pow_right (by omega) h1
  by_cases h5:(rcS p N (a+1) l).2.2≠0
  ·have hS:dgS p N a k l=(0,0,(rcS p N (a+1) l).2.2):=by rw[dgS,if_neg ha,if_neg hz,if_pos h5]
   rw[hS]
   generalize rcS p N (a+1) l=R at*
   obtain⟨v,n,e⟩:=R
   simp only at*
   rw[if_pos (by rw[Aj];simpa using h5),if_pos h5]
  ·have hv:=(rcS p N (a+1) l).1.toNat_lt
   have z:(GI.toZ (k:Int)).toNat=k:=rfl
   have e3:(Cn (1:UInt32) k).toNat=2^k:=by rw[Ar7];show 1*2^k %_=_;rw[Nat.mod_eq_of_lt (by omega),Nat.one_mul]
   by_cases h6:4294967295<(rcS p N (a+1) l).1.toNat+2^k
   ·have hS:dgS p N a k l=(0,0,12):=by rw[dgS,if_neg ha,if_neg hz,if_neg h5,if_pos h6]
    rw[hS]
    generalize rcS p N (a+1) l=R at*
    obtain⟨v,n,e⟩:=R
    simp only at*
    rw[if_neg (by rw[Aj];simpa using h5),Ay (by rw[Ck];simp),Aa,z,if_pos (by rw[Bqj,Bf2,UInt32.toNat_add,e3];simp;omega),if_pos (by decide)]
   ·have hS:dgS p N a k l=(UInt32.ofNat ((rcS p N (a+1) l).1.toNat+2^k),(rcS p N (a+1) l).2.1,0):=by rw[dgS,if_neg ha,if_neg hz,if_neg h5,if_neg h6]
    rw[hS]
    generalize rcS p N (a+1) l=R at*
    obtain⟨v,n,e⟩:=R
    simp only at*
    have e4:Ad v (Cn (1:UInt32) k)=UInt32.ofNat (v.toNat+2^k):=by
     apply UInt32.toNat_inj.1
     rw[Bf2,UInt32.toNat_add,e3,Akd (by omega),Nat.mod_eq_of_lt (by omega)]
    rw[if_neg (by rw[Aj];simpa using h5),Ay (by rw[Ck];simp),Aa,z,if_neg (by rw[Bqj,Bf2,UInt32.toNat_add,e3];simp;omega),e4,Bc7 hd];rfl
theorem Bv3{p:List UInt8}{N:Nat}(h:okB p N)(a:Nat)(k l:Nat)(s t:UInt64)(h1:k≤24)(h2:l≤24):Ab9 p (N:Int) (a:Int) (k:Int) (l:Int) s t=some (dgS p N a k l):=by
 have hN:=h.1
 have hl:=h.2.1
 have hb:=Uz p a
 rw[Ab9]
 by_cases ha:N≤a
 ·rw[if_pos (by rw[Ck];simp;omega),dgS,if_pos ha]
 rw[if_neg (by rw[Ck];simp;omega),Azb p _ a (by omega) (by omega),Aa,Bb (a:=(N:Int)) (b:=(a:Int)) (by omega) (by omega),Bb (by omega) (by omega)]
 have e1:Ad (a:Int) 1=((a+1:Nat):Int):=by rw[Ag (by omega) (by omega)];omega
 rw[e1]
 by_cases hz:Et p a=0
 ·rw[if_pos (by rw[Az];simp[hz])]
  by_cases h5:N<a+1+k
  ·rw[if_pos (by rw[Af];simp;omega),dgS,if_neg ha,if_pos hz,if_pos h5]
  ·rw[if_neg (by rw[Af];simp;omega),Avy p _ (a+1) k (by omega) (by omega),Aa,dgS,if_neg ha,if_pos hz,if_neg h5,Axc (by omega),Ag (by omega) (by omega)];rfl
 ·rw[if_neg (by rw[Az];simp;omega),Bxf h (a+1) l h2,Aa]
  have hp:2^k≤2^24:=Nat.pow_le_pow_right (by omega) h1
  have hv:=(rcS p N (a+1) l).1.toNat_lt
  have e2:∀x:UInt64,(Ae x:UInt32)=UInt32.ofNat x.toNat:=fun x=>by simp only[Ae,Gx,Ds]
  by_cases h5:(rcS p N (a+1) l).2.2≠0
  ·have hS:dgS p N a k l=(0,0,(rcS p N (a+1) l).2.2):=by rw[dgS,if_neg ha,if_neg hz,if_pos h5]
   rw[hS]
   generalize rcS p N (a+1) l=R at*
   obtain⟨v,n,e⟩:=R
   simp only at*
   rw[if_pos (by rw[Aj];simpa using h5)]
  ·have hsum:∀v:UInt32,(Ad (Ae v:UInt64) (UInt64.ofNat (2^k))).toNat=v.toNat+2^k:=by
    intro v
    have:=v.toNat_lt
    have:=Nat.pow_pos (n:=k) (show 0<2 by omega)
    rw[Aeb,UInt64.toNat_add,Cd,Akb (by omega),UInt64.toNat_ofNat'];omega
   by_cases h6:4294967295<(rcS p N (a+1) l).1.toNat+2^k
   ·have hS:dgS p N a k l=(0,0,12):=by rw[dgS,if_neg ha,if_neg hz,if_neg h5,if_pos h6]
    rw[hS]
    generalize rcS p N (a+1) l=R at*
    obtain⟨v,n,e⟩:=R
    simp only at*
    rw[if_neg (by rw[Aj];simpa using h5),Ad5 k (by omega),Aa,if_pos (by rw[Akm,hsum];simpa using h6)]
   ·have hS:dgS p N a k l=(UInt32.ofNat ((rcS p N (a+1) l).1.toNat+2^k),(rcS p N (a+1) l).2.1,0):=by rw[dgS,if_neg ha,if_neg hz,if_neg h5,if_neg h6]
    rw[hS]
    generalize rcS p N (a+1) l=R at*
    obtain⟨v,n,e⟩:=R
    simp only at*
    rw[if_neg (by rw[Aj];simpa using h5),Ad5 k (by omega),Aa,if_neg (by rw[Akm,hsum];simpa using h6),e2,hsum]
end Go.Pl
set_option linter.unusedVariables false
set_option linter.unusedSimpArgs false
namespace Go.Pl
open Go Go.Lv
abbrev DuN:=Nat×Nat×UInt64×UInt64
def okN(d:DuN):Prop:=okD d.1 d.2.1 d.2.2.1 d.2.2.2
def nxt(d:DuN)(v:UInt32):DuN:=(kS d.1 (Rf d.2.2.1 (n64 v)),lK d.2.1 d.2.2.2 d.1 v,Rf d.2.2.1 (n64 v),lT d.2.2.2 d.1 v)
def Bji:DuN:=(10,10,16384,16384)
theorem Bxp:okN Bji:=⟨by decide,by decide,by decide,by decide⟩
theorem Cdu{d:DuN}(h:okN d)(v:UInt32):okN (nxt d v):=Bv0 h v
abbrev DuL:=Int×Int×UInt64×UInt64×Unit
def toI(d:DuN):DuL:=((d.1:Int),(d.2.1:Int),d.2.2.1,d.2.2.2,())
def chP(ch:Nat)(v:List UInt32)(c:Nat):Nat→DuN
 |0=>Bji
 |m+1=>if m %ch=c then nxt (chP ch v c m) (v.getD m 0)else chP ch v c m
theorem As6(ch:Nat)(v:List UInt32)(c:Nat):∀m,okN (chP ch v c m)
 |0=>Bxp
 |m+1=>by rw[chP];split;exact Cdu (As6 ch v c m) _;exact As6 ch v c m
theorem Brg(ch:Nat)(v w:List UInt32)(c:Nat):∀m,m≤v.length→chP ch (v++w) c m=chP ch v c m
 |0,_=>rfl
 |m+1,h=>by
  have e:(v++w).getD m 0=v.getD m 0:=by simp[List.getD_eq_getElem?_getD,List.getElem?_append_left (show m<v.length by omega)]
  rw[chP,chP,Brg ch v w c m (by omega),e]
theorem Biw(ch:Nat)(v:List UInt32)(c:Nat):∀m,m≤c→c<ch→chP ch v c m=Bji
 |0,_,_=>rfl
 |m+1,h,h2=>by rw[chP,if_neg (by rw[Nat.mod_eq_of_lt (by omega)];omega),Biw ch v c m (by omega) h2]
theorem Boc(ch:Nat)(v:List UInt32)(c i:Nat)(hi:i %ch=c)(hc:c<ch):∀j,j<ch→chP ch v c (i+1+j)=chP ch v c (i+1)
 |0,_=>rfl
 |j+1,h=>by
  have hne:(i+1+j) %ch≠c:=by
   intro e
   have h1:(i+(1+j)) %ch=i %ch:=by rw[hi,←e];congr 1;omega
   have h2:(1+j) %ch=0:=by
    have h3:=Nat.sub_mod_eq_zero_of_mod_eq h1
    rwa [Nat.add_sub_cancel_left]at h3
   rw[Nat.mod_eq_of_lt (by omega)]at h2;omega
  rw[show i+1+(j+1)=(i+1+j)+1 by omega,chP,if_neg hne,Boc ch v c i hi hc j (by omega)]
theorem Byi(ch:Nat)(v:List UInt32)(c i:Nat)(hi:i %ch=c)(hc:c<ch):chP ch v c (i+ch)=nxt (chP ch v c i) (v.getD i 0):=by
 have h:=Boc ch v c i hi hc (ch-1) (by omega)
 rw[show i+1+(ch-1)=i+ch by omega]at h
 rw[h,chP,if_pos hi]
theorem Aw3{l:List UInt32}{k:Nat}(h:k<l.length):getI l (k:Int)=some (l.getD k 0):=by
 rw[Bu h];simp[List.getD_eq_getElem?_getD,h]
theorem Ajm(a b:Nat):Ew (a:Int) (b:Int)=((a %b:Nat):Int):=by rw[Ew,Int.tmod_eq_emod_of_nonneg (by omega)];omega
theorem Bae(ch:Nat)(v:List UInt32)(hch:1≤ch)(hch6:ch≤6)(hv:v.length≤4000):∀(j i q:Nat),i %ch=v.length %ch→i≤v.length→v.length-i≤j→j<q→
  Ji (ch:Int) v q (i:Int) ((chP ch v (v.length %ch) i).1:Int) ((chP ch v (v.length %ch) i).2.1:Int) (chP ch v (v.length %ch) i).2.2.1 (chP ch v (v.length %ch) i).2.2.2=
   some (((chP ch v (v.length %ch) v.length).1:Int),((chP ch v (v.length %ch) v.length).2.1:Int),(chP ch v (v.length %ch) v.length).2.2.1,(chP ch v (v.length %ch) v.length).2.2.2)
 |j,i,q+1,hi,hl,hj,hq=>by
  have hc:v.length %ch<ch:=Nat.mod_lt _ (by omega)
  rw[Ji,Yx]
  by_cases h:i<v.length
  ·have h1:=Buy (As6 ch v (v.length %ch) i) (v.getD i 0)
   rw[if_pos (by rw[Af,Ac];simp;omega),Aw3 h,Aa,h1,Aa]
   have hle:i+ch≤v.length:=by
    have h2:=Nat.div_add_mod i ch
    have h3:=Nat.div_add_mod v.length ch
    rw[hi]at h2
    have h4:ch*(i/ch)<ch*(v.length/ch):=by omega
    have h5:=Nat.lt_of_mul_lt_mul_left h4
    have h6:ch*(i/ch+1)≤ch*(v.length/ch):=Nat.mul_le_mul_left _ h5
    rw[Nat.mul_add]at h6;omega
   have ih:=Bae ch v hch hch6 hv (j-ch) (i+ch) q (by rw[Nat.add_mod_right];exact hi) hle (by omega) (by omega)
   rw[Byi ch v _ i hi hc]at ih
   simp only
   rw[Ag (by omega) (by omega)]
   exact ih
  ·rw[if_neg (by rw[Af,Ac];simp;omega),show i=v.length by omega];rfl
theorem Btk(ch:Nat)(v:List UInt32)(hch:1≤ch)(hch6:ch≤6)(hv:v.length≤4000):Mv (ch:Int) v=some (((chP ch v (v.length %ch) v.length).1:Int),((chP ch v (v.length %ch) v.length).2.1:Int),(chP ch v (v.length %ch) v.length).2.2.1,(chP ch v (v.length %ch) v.length).2.2.2):=by
 have hc:v.length %ch<ch:=Nat.mod_lt _ (by omega)
 have hle:v.length %ch≤v.length:=Nat.mod_le _ _
 have h:=Bae ch v hch hch6 hv v.length (v.length %ch) Ao (by rw[Nat.mod_mod]) hle (by omega) (by have:=Al;omega)
 rw[Biw ch v _ _ (Nat.le_refl _) hc]at h
 rw[Mv,Aab,Kf,Aa]
 simp only
 rw[Ay (by rw[Aj];simp;omega),Aa,Ac,Ajm]
 exact h
def now(ch:Nat)(v:List UInt32):DuN:=chP ch v (v.length %ch) v.length
def win(N a:Nat):Nat:=min 81 (N-a)
def Iw(ch:Nat)(p:List UInt8)(N a:Nat)(out:List UInt32):UInt32×Int×Int:=dgS (Lq p a (win N a)) (win N a) 0 (now ch out).1 (now ch out).2.1
def Ta(ch:Nat)(p:List UInt8)(N:Nat):Nat→Nat→List UInt32→List UInt32×Nat×Int
 |0,a,out=>(out,a,0)
 |j+1,a,out=>if(Iw ch p N a out).2.2≠0 then(out,a,(Iw ch p N a out).2.2)else Ta ch p N j (a+(Iw ch p N a out).2.1.toNat) (out++[(Iw ch p N a out).1])
theorem At4{ch:Nat}{p:List UInt8}{N a:Nat}{out:List UInt32}(h:(Iw ch p N a out).2.2=0):0<(Iw ch p N a out).2.1∧(Iw ch p N a out).2.1≤win N a:=by
 have:=Cdm h
 exact⟨this.1,this.2⟩
theorem Bhi{ch:Nat}{p:List UInt8}{N a:Nat}{out:List UInt32}(h:(Iw ch p N a out).2.2=0):((a:Int)+(Iw ch p N a out).2.1)=((a+(Iw ch p N a out).2.1.toNat:Nat):Int):=by
 have:=At4 h;omega
def sts(ch:Nat)(v:List UInt32):List DuL:=(List.range 6).map fun c=>toI (chP ch v c v.length)
theorem Biq{ch:Nat}{v:List UInt32}{c:Nat}(h:c<6):getI (sts ch v) (c:Int)=some (toI (chP ch v c v.length)):=by
 rw[Bu (by simp[sts];exact h)];simp[sts]
theorem Brd{ch:Nat}{v:List UInt32}{c:Nat}(x:UInt32)(h:c<6)(hc:c=v.length %ch):Ia (sts ch v) (c:Int) (toI (nxt (chP ch v c v.length) x))=some (sts ch (v++[x])):=by
 rw[My _ (by simp[sts];exact h)]
 congr 1
 apply List.ext_getElem (by simp[sts])
 intro i h1 h2
 rw[List.getElem_set]
 simp only[sts,List.getElem_map,List.getElem_range]
 have e:(v++[x]).getD v.length 0=x:=by simp
 rw[List.length_append,List.length_singleton,chP,e,Brg ch v [x] i v.length (Nat.le_refl _)]
 by_cases hi:c=i
 ·subst hi;rw[if_pos rfl,if_pos hc.symm]
 ·rw[if_neg hi,if_neg (by omega)]
theorem Bz4{ch:Nat}{v:List UInt32}{c:Nat}(hc:c=v.length %ch):chP ch v c v.length=now ch v:=by rw[now,hc]
section
variable {p:List UInt8} {N ch n:Nat}
theorem Bl1(hp:okB p N)(h1:1≤ch)(h6:ch≤6)(hn:n*ch≤4000):∀(j a q:Nat) (out:List UInt32),out.length+j=n*ch→j<q→a≤N→
  Kj (ch:Int) (n:Int) p (N:Int) q (a:Int) (out.length:Int) (sts ch out) out=
   some (if(Ta ch p N j a out).2.2≠0 then([],0,(Ta ch p N j a out).2.2)else((Ta ch p N j a out).1,((Ta ch p N j a out).2.1:Int),0))
 |j,a,q+1,out,hj,hq,ha=>by
  have hN:=hp.1
  have hnn:n≤n*ch:=Nat.le_mul_of_pos_right n (by omega)
  have em:Bg (n:Int) (ch:Int)=((n*ch:Nat):Int):=by rw[Gn (by rw[←Int.natCast_mul];omega) (by rw[←Int.natCast_mul];omega),Int.natCast_mul]
  rw[Kj,Oi,em]
  cases j with
  |zero=>
   rw[if_neg (by rw[Af];simp;omega)];rfl
  |succ j=>
   have hc:out.length %ch<6:=Nat.lt_of_lt_of_le (Nat.mod_lt _ (by omega)) h6
   have ew:Da (Ad (a:Int) 81) (N:Int)=((a+win N a:Nat):Int):=by rw[Ab6,Ag (by omega) (by omega)];unfold win;omega
   have hw:a+win N a≤N:=by unfold win;omega
   have hw2:win N a≤81:=by unfold win;omega
   have hd:=Ca4 (Ax7 p a (win N a) (by omega)) 0 (As6 ch out (out.length %ch) out.length)
   have ecode:dgS (Lq p a (win N a)) (win N a) 0 (chP ch out (out.length %ch) out.length).1 (chP ch out (out.length %ch) out.length).2.1=Iw ch p N a out:=rfl
   rw[if_pos (by rw[Af];simp;omega),ew,Cen hp a _ hw (by omega),Aa]
   simp only
   rw[if_neg (by rw[Aj];simp),Ay (by rw[Aj];simp;omega),Aa,Ajm,Biq hc,Aa,Aa]
   refine Eq.trans (congrArg (fun o=>Option.bind o _) hd) ?_
   rw[Aa,ecode,Ta]
   by_cases he:(Iw ch p N a out).2.2≠0
   ·rw[if_pos he,if_pos he]
    simp only
    rw[Od,On,if_pos (by rw[Aj];simpa using he),if_pos he]
   ·have he0:(Iw ch p N a out).2.2=0:=by simpa using he
    have hok:=At4 he0
    have hset:=Brd (ch:=ch) (v:=out) (Iw ch p N a out).1 hc rfl
    rw[if_neg he,if_neg he]
    simp only
    rw[Od,On,if_neg (by rw[Aj];simp),Ay (by rw[Aj];simp;omega),Aa,Ajm,Biq hc,Aa]
    refine Eq.trans (congrArg (fun o=>Option.bind o _) hset) ?_
    rw[Aa,Wf,Aik,Cg (by simp;omega),Aa,Ag (by omega) (by omega),Ag (by omega) (by omega),Bhi he0]
    have ih:=Bl1 hp h1 h6 hn j (a+(Iw ch p N a out).2.1.toNat) q (out++[(Iw ch p N a out).1]) (by simp;omega) (by omega) (by omega)
    rw[List.length_append,List.length_singleton]at ih
    exact ih
theorem Bsn{p:List UInt8}(hN:N=8*p.length)(hN2:N≤330000)(h1:1≤ch)(h6:ch≤6)(hn:n*ch≤4000):∀(j a q:Nat) (out:List UInt32),out.length+j=n*ch→j<q→a≤N→
  Dv (ch:Int) (n:Int) p q (a:Int) (out.length:Int) out=
   if(Ta ch p N j a out).2.2≠0 then some ((Ta ch p N j a out).1,(Ta ch p N j a out).2.2)else Qi ((Ta ch p N j a out).2.1:Int) p (Ta ch p N j a out).1
 |j,a,q+1,out,hj,hq,ha=>by
  have hnn:n≤n*ch:=Nat.le_mul_of_pos_right n (by omega)
  have em:Bg (n:Int) (ch:Int)=((n*ch:Nat):Int):=by rw[Gn (by rw[←Int.natCast_mul];omega) (by rw[←Int.natCast_mul];omega),Int.natCast_mul]
  have e8:Bg (8:Int) (Ac p)=(N:Int):=by rw[Ac,Gn (by omega) (by omega)];omega
  rw[Dv,Ab0,em]
  cases j with
  |zero=>
   rw[if_neg (by rw[Af];simp;omega)];rfl
  |succ j=>
   have ew:Da (Ad (a:Int) 81) (N:Int)=((a+win N a:Nat):Int):=by rw[Ab6,Ag (by omega) (by omega)];unfold win;omega
   have hw:a+win N a≤N:=by unfold win;omega
   have hw2:win N a≤81:=by unfold win;omega
   have hpre:(Option.bind Kf fun(r_4,r_5,r_6,r_7)=>
     if(Jt (out.length:Int) (ch:Int))=true then(
     Option.bind (Mv (ch:Int) out) fun(r_8,r_9,r_10,r_11)=>
     Hl (Dv (ch:Int) (n:Int) p q) (ch:Int) (n:Int) p (a:Int) (out.length:Int) out r_8 r_9 r_10 r_11)
     else Hl (Dv (ch:Int) (n:Int) p q) (ch:Int) (n:Int) p (a:Int) (out.length:Int) out r_4 r_5 r_6 r_7)=
     Hl (Dv (ch:Int) (n:Int) p q) (ch:Int) (n:Int) p (a:Int) (out.length:Int) out ((now ch out).1:Int) ((now ch out).2.1:Int) (now ch out).2.2.1 (now ch out).2.2.2:=by
    rw[Kf,Aa]
    by_cases hc:ch≤out.length
    ·simp only
     rw[if_pos (by rw[Ck];simp;omega),Btk ch out h1 h6 (by omega),Aa];rfl
    ·have e:now ch out=Bji:=by rw[now,Nat.mod_eq_of_lt (by omega),Biw ch out _ _ (Nat.le_refl _) (by omega)]
     simp only
     rw[if_neg (by rw[Ck];simp;omega),e];rfl
   have hd:=Bv3 (Ax7 p a (win N a) (by omega)) 0 (now ch out).1 (now ch out).2.1 (now ch out).2.2.1 (now ch out).2.2.2 (As6 ch out _ _).1 (As6 ch out _ _).2.1
   have ecode:dgS (Lq p a (win N a)) (win N a) 0 (now ch out).1 (now ch out).2.1=Iw ch p N a out:=rfl
   rw[if_pos (by rw[Af];simp;omega),hpre,Hl,Abl,e8,ew,Boh p (N:Int) a _ (by omega) (by omega) (by omega),Aa]
   simp only
   refine Eq.trans (congrArg (fun o=>Option.bind o _) hd) ?_
   rw[Aa,ecode,Ta]
   by_cases he:(Iw ch p N a out).2.2≠0
   ·rw[if_pos he,if_pos (by rw[Aj];simpa using he),if_pos he]
   ·have he0:(Iw ch p N a out).2.2=0:=by simpa using he
    have hok:=At4 he0
    have ih:=Bsn hN hN2 h1 h6 hn j (a+(Iw ch p N a out).2.1.toNat) q (out++[(Iw ch p N a out).1]) (by simp;omega) (by omega) (by omega)
    have hx:=Bhi he0
    rw[List.length_append,List.length_singleton]at ih
    rw[if_neg he]
    generalize Iw ch p N a out=R at*
    obtain⟨v,nx,e⟩:=R
    simp only at*
    rw[if_neg (by rw[Aj];simpa using he),Cg (by simp;omega),Aa,Ag (by omega) (by omega),Ag (by omega) (by omega),hx]
    exact ih
end
theorem Bit{ch:Nat}{p:List UInt8}{N:Nat}:∀(j a:Nat) (out:List UInt32),a≤N→(Ta ch p N j a out).2.1≤N∧(Ta ch p N j a out).1.length≤out.length+j∧((Ta ch p N j a out).2.2=0→(Ta ch p N j a out).1.length=out.length+j)
 |0,a,out,h=>⟨h,Nat.le_refl _,fun _=>rfl⟩
 |j+1,a,out,h=>by
  rw[Ta]
  split
  ·rename_i he
   exact⟨h,by simp,fun e=>absurd e he⟩
  ·rename_i he
   have hok:=At4 (ch:=ch) (p:=p) (N:=N) (a:=a) (out:=out) (by simpa using he)
   have hw:a+win N a≤N:=by unfold win;omega
   have ih:=Bit (ch:=ch) (p:=p) (N:=N) j (a+(Iw ch p N a out).2.1.toNat) (out++[(Iw ch p N a out).1]) (by omega)
   rw[List.length_append,List.length_singleton]at ih
   exact⟨ih.1,by omega,fun e=>by have:=ih.2.2 e;omega⟩
theorem Bog(ch n:Int)(b:List UInt8)(N:Int):Oo ch n b N 0 (List.replicate 6 ((0:Int),(0:Int),(0:UInt64),(0:UInt64),()))=Vx ch n b N (List.replicate 6 ((10:Int),(10:Int),(16384:UInt64),(16384:UInt64),())):=by
 have e:Ao=(Ao-7)+1+1+1+1+1+1+1:=by have:=Al;omega
 rw[Oo,e]
 rfl
theorem values_eq{p:List UInt8}{N ch n:Nat}(hp:okB p N)(h1:1≤ch)(h6:ch≤6)(hn:n*ch≤4000):Zs (ch:Int) (n:Int) p (N:Int)=
  some (if(Ta ch p N (n*ch) 0 []).2.2≠0 then([],0,(Ta ch p N (n*ch) 0 []).2.2)else((Ta ch p N (n*ch) 0 []).1,((Ta ch p N (n*ch) 0 []).2.1:Int),0)):=by
 have h:=Bl1 hp h1 h6 hn (n*ch) 0 Ao [] (by simp) (by have:=Al;omega) (by omega)
 rw[Zs,Aa6,Bog]
 exact h
theorem Bh6(p:List UInt8)(x:List UInt32)(N:Nat)(hN:N=8*p.length)(hN2:N≤330000):∀(j a q:Nat),a+j=N→j<q→Hm p x q (a:Int)=some (x,if Bd p a j=0 then 0 else 12)
 |0,a,q+1,ha,_=>by
  have e8:Bg (8:Int) (Ac p)=(N:Int):=by rw[Ac,Gn (by omega) (by omega)];omega
  rw[Hm,Qk,e8,if_neg (by rw[Af];simp;omega),Bd,if_pos rfl];rfl
 |j+1,a,q+1,ha,hq=>by
  have e8:Bg (8:Int) (Ac p)=(N:Int):=by rw[Ac,Gn (by omega) (by omega)];omega
  have hb:=Uz p a
  rw[Hm,Qk,e8,if_pos (by rw[Af];simp;omega),Azb p _ a (by omega) (by omega),Aa,Bd]
  by_cases h:Et p a=0
  ·rw[if_neg (by rw[Aj];simp[h]),Ag (by omega) (by omega),h]
   have ih:=Bh6 p x N hN hN2 j (a+1) q (by omega) (by omega)
   rw[show((a:Int)+1)=((a+1:Nat):Int) by omega,ih]
   congr 2
   by_cases hv:Bd p (a+1) j=0
   ·rw[if_pos hv,if_pos (by omega)]
   ·rw[if_neg hv,if_neg (by omega)]
  ·rw[if_pos (by rw[Aj];simp;omega),if_neg (by omega)]
theorem Bq3{p:List UInt8}{N ch n:Nat}(hN:N=8*p.length)(hN2:N≤330000)(h1:1≤ch)(h6:ch≤6)(hn:n*ch≤4000):Aax (ch:Int) (n:Int) p=
  some (if(Ta ch p N (n*ch) 0 []).2.2≠0 then((Ta ch p N (n*ch) 0 []).1,(Ta ch p N (n*ch) 0 []).2.2)else
   ((Ta ch p N (n*ch) 0 []).1,if 7<N-(Ta ch p N (n*ch) 0 []).2.1∨Bd p (Ta ch p N (n*ch) 0 []).2.1 (N-(Ta ch p N (n*ch) 0 []).2.1)≠0 then 12 else 0)):=by
 have h:=Bsn hN hN2 h1 h6 hn (n*ch) 0 Ao [] (by simp) (by have:=Al;omega) (by omega)
 have hat:=(Bit (ch:=ch) (p:=p) (N:=N) (n*ch) 0 [] (by omega)).1
 have e8:Bg (8:Int) (Ac p)=(N:Int):=by rw[Ac,Gn (by omega) (by omega)];omega
 rw[Aax,Adv]
 refine Eq.trans h ?_
 generalize Ta ch p N (n*ch) 0 []=V at*
 obtain⟨v,a,e⟩:=V
 simp only at*
 by_cases he:e≠0
 ·rw[if_pos he,if_pos he]
 ·rw[if_neg he,if_neg he,Qi,Abr,e8,Bb (by omega) (by omega)]
  by_cases h7:7<N-a
  ·rw[if_pos (by rw[Ak];simp;omega),if_pos (.inl h7)]
  ·rw[if_neg (by rw[Ak];simp;omega),Ab4,Bh6 p v N hN hN2 (N-a) a Ao (by omega) (by have:=Al;omega)]
   by_cases hv:Bd p a (N-a)=0
   ·rw[if_pos hv,if_neg (by omega)]
   ·rw[if_neg hv,if_pos (.inr hv)]
end Go.Pl
set_option linter.unusedVariables false
set_option linter.unusedSimpArgs false
namespace Go.Pl
open Go Go.Lv
theorem Bki(n:Int):(GI.ofZ n:Int32)=Int32.ofInt n:=rfl
theorem Ak2(a:Int32):GI.toZ a=a.toInt:=rfl
theorem Am0(a b:Int32):Ad a b=a+b:=by
 rw[Ad,Ak2,Ak2,Bki,Int32.ofInt_add,Int32.ofInt_toInt,Int32.ofInt_toInt]
theorem Ai4(a b:Int32):Ah a b=a-b:=by
 rw[Ah,Ak2,Ak2,Bki,Int32.ofInt_sub,Int32.ofInt_toInt,Int32.ofInt_toInt]
theorem Bra(a b:Int32):geq a b=(a==b):=by
 rw[geq,Ak2,Ak2,Bool.eq_iff_iff];simp[Int32.toInt_inj]
def sel(p:Nat→Bool)(a b:List Int32):List Int32:=(List.range a.length).map fun k=>if p k=true then a.getD k 0 else b.getD k 0
section
variable {p q:Nat→Bool} {a b:List Int32}
theorem Ac5:(sel p a b).length=a.length:=by simp[sel]
theorem Gi{k:Nat}(h:k<a.length):a.getD k 0=a[k]:=by simp[List.getD_eq_getElem?_getD,h]
theorem Nz{k:Nat}(h:k<(sel p a b).length):(sel p a b)[k]=if p k=true then a.getD k 0 else b.getD k 0:=by simp[sel]
theorem Vu{k:Nat}(h:k<a.length):getI (sel p a b) (k:Int)=some (if p k=true then a.getD k 0 else b.getD k 0):=by
 rw[Bu (by rw[Ac5];exact h),Nz]
theorem Qa(h:∀k,k<a.length→p k=q k):sel p a b=sel q a b:=by
 apply List.map_congr_left
 intro k hk
 rw[h k (List.mem_range.1 hk)]
theorem Ao3{k:Nat}(h:k<a.length):Ia (sel p a b) (k:Int) (a.getD k 0)=some (sel (fun j=>p j||decide (j=k)) a b):=by
 rw[My _ (by rw[Ac5];exact h)]
 congr 1
 apply List.ext_getElem (by simp[Ac5])
 intro i h1 h2
 rw[List.getElem_set,Nz,Nz]
 by_cases hi:k=i
 ·subst hi;simp
 ·have:¬i=k:=fun e=>hi e.symm
  simp[hi,this]
theorem Aui(h:∀k,k<a.length→p k=true):sel p a b=a:=by
 apply List.ext_getElem (by simp[Ac5])
 intro i h1 h2
 rw[Nz,if_pos (h i h2),Gi h2]
theorem Ary(hl:b.length=a.length)(h:∀k,k<a.length→p k=false):sel p a b=b:=by
 apply List.ext_getElem (by simp[Ac5,hl])
 intro i h1 h2
 rw[Nz,h i (by omega)]
 simp[List.getD_eq_getElem?_getD,h2]
end
end Go.Pl
set_option linter.unusedVariables false
set_option linter.unusedSimpArgs false
namespace Go.Pl
open Go Go.Lv
theorem Bb8(a b:Int32):Bg a b=a*b:=by
 rw[Bg,Ak2,Ak2,Bki,Int32.ofInt_mul,Int32.ofInt_toInt,Int32.ofInt_toInt]
theorem Uj(a:Int32): -2147483648≤a.toInt∧a.toInt<2147483648:=⟨a.le_toInt,a.toInt_lt⟩
theorem Dp(a:Int32):(Ae a:Int)=a.toInt:=by
 have:=Uj a
 show wrap64 a.toInt=_
 rw[Bp]<;>omega
theorem Ag3(n:Int):(Ae n:Int32)=Int32.ofInt n:=rfl
theorem Btr(x:Int):Int32.ofInt (x %4294967296)=Int32.ofInt x:=by
 apply Int32.toInt_inj.1
 rw[Int32.toInt_ofInt,Int32.toInt_ofInt]
 exact Int.emod_bmod x 4294967296
theorem Bb0(x:Int):Bv x=some (Int32.ofInt x):=by
 have e1:(Ae x:UInt64).toNat=(x %18446744073709551616).toNat:=by
  rw[Bng,UInt64.toNat_ofNat',Nat.mod_eq_of_lt (by omega)]
 have e2:(Ae (Ae x:UInt64):UInt32).toNat=(x %4294967296).toNat:=by
  have e:(Ae (Ae x:UInt64):UInt32)=UInt32.ofNat (Ae x:UInt64).toNat:=by simp only[Ae,Gx,Ds]
  rw[e,UInt32.toNat_ofNat',e1]
  show(x %18446744073709551616).toNat %4294967296=_
  omega
 have e3:(Ae (Ae (Ae x:UInt64):UInt32):Int32)=Int32.ofInt ((Ae (Ae x:UInt64):UInt32).toNat:Int):=rfl
 rw[Bv,e3,e2,←Btr x]
 congr 2;omega
theorem Axi(a b:Int32):Bv (Ad (Ae a:Int) (Ae b:Int))=some (a+b):=by
 have:=Uj a
 have:=Uj b
 rw[Dp,Dp,Ag (by omega) (by omega),Bb0,Int32.ofInt_add,Int32.ofInt_toInt,Int32.ofInt_toInt]
theorem Bye(a b:Int32):Bv (Bg (Ae a:Int) (Ae b:Int))=some (a*b):=by
 have ha:=Uj a
 have hb:=Uj b
 have h1: -9223372036854775808≤a.toInt*b.toInt∧a.toInt*b.toInt≤9223372036854775807:=by
  have h2:(a.toInt*b.toInt).natAbs≤2147483648*2147483648:=by
   rw[Int.natAbs_mul];exact Nat.mul_le_mul (by omega) (by omega)
  omega
 rw[Dp,Dp,Gn h1.1 h1.2,Bb0,Int32.ofInt_mul,Int32.ofInt_toInt,Int32.ofInt_toInt]
def OkF(s:Int)(t p:List Int32):Prop:=(s=9∨s=10)∧t.length=16∧p.length=16
theorem Azs{s:Int}{t p:List Int32}(h:OkF s t p):Acw s t p=some 0:=by
 obtain⟨rfl|rfl,_,_⟩:=h<;>rfl
theorem g32{l:List Int32}{k:Nat}(h:k<l.length):getI l (k:Int)=some (l.getD k 0):=by
 rw[Bu h];simp[List.getD_eq_getElem?_getD,h]
def Arj(t p:List Int32):Nat→Int32
 |0=>0
 |i+1=>Arj t p i+t.getD i 0*p.getD i 0
def half(s:Int):Int32:=if s=9 then 256 else 512
def gF(s:Int)(t p:List Int32):Int32:=Int32.ofInt ((half s+Arj t p 16).toInt.fdiv (if s=9 then 512 else 1024))
theorem Bgt{s:Int}{t p:List Int32}(h:OkF s t p):∀(j i q:Nat),i+j=16→j<q→Py t s p q (half s+Arj t p i) (i:Int)=some (gF s t p,0)
 |0,i,q+1,hi,_=>by
  obtain rfl:i=16:=by omega
  have hs:=h.1
  rw[Py,Adg,if_neg (by rw[Af];simp),Aly,Au4,Ay (by rw[Ck];simp;omega),Aa]
  obtain rfl|rfl:=hs<;>rfl
 |j+1,i,q+1,hi,hq=>by
  obtain⟨hs,ht,hp⟩:=h
  rw[Py,Adg,if_pos (by rw[Af];simp;omega),g32 (by omega),Aa,g32 (by omega),Aa,Aa,Ag (b:=1) (by omega) (by omega),Am0,Bb8,Int32.add_assoc]
  exact Bgt ⟨hs,ht,hp⟩ j (i+1) q (by omega) (by omega)
theorem Bml{s:Int}{t p:List Int32}(h:OkF s t p):Ain s t p=some (gF s t p,0):=by
 have hs:=h.1
 have h1:=Bgt h 16 0 Ao (by omega) (by have:=Al;omega)
 have e:Cn (1:Int32) (GI.toZ (Ah s (1:Int))).toNat=half s+Arj t p 0:=by
  obtain rfl|rfl:=hs<;>rfl
 rw[Ain,Al7,Azs h,Aa,if_neg (by rw[Aj];simp),Ay (by rw[Ck,Bb (by omega) (by omega)];simp;omega),Aa,Al0,e]
 exact h1
theorem Bei{s:Int}{t p:List Int32}(ht:t.length=16)(hp:p.length=16){g:Int32}(hg:Arj t p 16=g):∀(j i q:Nat),i+j=16→j<q→Jb s t p q (Arj t p i).toInt (i:Int)=some g
 |0,i,q+1,hi,_=>by
  obtain rfl:i=16:=by omega
  rw[Jb,Tu,if_neg (by rw[Af];simp),Agd,Af6,Ag3,Int32.ofInt_toInt,hg]
 |j+1,i,q+1,hi,hq=>by
  have ih:=Bei (s:=s) ht hp hg j (i+1) q (by omega) (by omega)
  rw[Arj]at ih
  rw[Jb,Tu,if_pos (by rw[Af];simp;omega),g32 (by omega),g32 (by omega),Aa,Aa,Aa,Aa,Bye,Aa,←Dp (Arj t p i),Axi,Aa,Dp,Ag (by omega) (by omega)]
  exact ih
theorem Bvw{s:Int}{t p:List Int32}(h:OkF s t p):Ana s t p=some (Arj t p 16):=
 Bei h.2.1 h.2.2 rfl 16 0 Ao (by omega) (by have:=Al;omega)
theorem Bs2(x n:Int)(hn:n=512∨n=1024∨n=16∨n=32):(if x.tmod n<0 then x.tdiv n-1 else x.tdiv n)=x.fdiv n:=by
 have hs:n.sign=1:=by obtain rfl|rfl|rfl|rfl:=hn<;>rfl
 rw[Int.tdiv_eq_ediv,Int.tmod_eq_emod,hs,Int.fdiv_eq_ediv_of_nonneg _ (by omega)]
 by_cases h:0≤x∨n∣x
 ·rw[if_pos h,if_pos h]
  obtain rfl|rfl|rfl|rfl:=hn<;>(rw[if_neg (by omega)];omega)
 ·rw[if_neg h,if_neg h]
  obtain rfl|rfl|rfl|rfl:=hn<;>(rw[if_pos (by omega)];omega)
theorem Bft(x n:Int)(hn:n=512∨n=1024∨n=16∨n=32)(h: -1000000000000≤x)(h':x≤1000000000000): -1000000000000≤x.tdiv n∧x.tdiv n≤1000000000000:=by
 have hs:n.sign=1:=by obtain rfl|rfl|rfl|rfl:=hn<;>rfl
 rw[Int.tdiv_eq_ediv,hs]
 by_cases h:0≤x∨n∣x
 ·rw[if_pos h];obtain rfl|rfl|rfl|rfl:=hn<;>omega
 ·rw[if_neg h];obtain rfl|rfl|rfl|rfl:=hn<;>omega
theorem Cfk(x n:Int)(hn:n=512∨n=1024∨n=16∨n=32)(h: -1000000000000≤x)(h':x≤1000000000000):Bs x n=x.tdiv n:=by
 have:=Bft x n hn h h'
 rw[Afp,Bp (by omega) (by omega)]
theorem Bmp(x n:Int)(hn:n=512∨n=1024∨n=16∨n=32)(h: -1000000000000≤x)(h':x≤1000000000000):
  (if(Bw (Ew x n) (0:Int))=true then some (Ae (Ah (Bs x n) (1:Int)):Int32)else some (Ae (Bs x n):Int32))=some (Int32.ofInt (x.fdiv n)):=by
 have hb:=Bft x n hn h h'
 rw[Af,Ew,Cfk x n hn h h',Bb (by omega) (by omega),Ag3,Ag3,←Bs2 x n hn]
 by_cases hx:x.tmod n<0
 ·rw[if_pos (by simpa using hx),if_pos hx]
 ·rw[if_neg (by simpa using hx),if_neg hx]
theorem Caa{s:Int}{t p:List Int32}(h:OkF s t p):Ys s t p=some (gF s t p):=by
 obtain⟨hs,ht,hp⟩:=h
 have h:OkF s t p:=⟨hs,ht,hp⟩
 have hx:=Uj (Arj t p 16+half s)
 have key:∀n:Int,(n=512∨n=1024)→(half s).toInt=n/2→gF s t p=Int32.ofInt ((half s+Arj t p 16).toInt.fdiv n)→Sj s t p n=some (gF s t p):=by
  intro n hn hh hg
  have e2:Bs n (2:Int)=(half s).toInt:=by rw[hh];obtain rfl|rfl:=hn<;>rfl
  rw[Sj,Ae0,Bvw h,Aa,e2,←Dp (half s),Axi,Aa,Ay (by rw[Aj];simp;omega),Aa,Aa,Dp,Bmp _ n (by omega) (by omega) (by omega),hg,Int32.add_comm]
 rw[Ys,Aeg]
 obtain rfl|rfl:=hs
 ·rw[if_pos (by rw[Az];rfl)];exact key 512 (.inl rfl) rfl rfl
 ·rw[if_neg (by rw[Az];decide)];exact key 1024 (.inr rfl) rfl rfl
def stp(i:Nat):Int32:=if i=0 then 4 else if i<4 then 2 else 1
def sg(x:Int32):Int32:=if x.toInt<0 then -1 else if 0<x.toInt then 1 else 0
def lrn(t p:List Int32)(w:Int32):List Int32:=(List.range 16).map fun i=>t.getD i 0+stp i*sg (p.getD i 0)*sg w
theorem Zk(t p:List Int32)(w:Int32):(lrn t p w).length=16:=by simp[lrn]
theorem Big(t p:List Int32)(w:Int32){i:Nat}(h:i<16):(lrn t p w).getD i 0=t.getD i 0+stp i*sg (p.getD i 0)*sg w:=by
 rw[Gi (by rw[Zk];exact h)];simp[lrn]
theorem step_eq(i:Nat):Anm (i:Int)=some (stp i):=by
 rw[Anm,stp]
 by_cases h:i=0
 ·rw[if_pos (by rw[Az];simp[h]),if_pos h]
 ·rw[if_neg (by rw[Az];simp;omega),if_neg h]
  by_cases h2:i<4
  ·rw[if_pos (by rw[Af];simp;omega),if_pos h2]
  ·rw[if_neg (by rw[Af];simp;omega),if_neg h2]
theorem Bub(i:Nat):Aac (i:Int)=some (stp i):=by
 rw[Aac,stp]
 by_cases h:i=0
 ·rw[if_pos (by rw[Az];simp[h]),if_pos h]
 ·rw[if_neg (by rw[Az];simp;omega),if_neg h]
  by_cases h2:i<4
  ·rw[if_pos (by rw[Am5];simp;omega),if_pos h2]
  ·rw[if_neg (by rw[Am5];simp;omega),if_neg h2]
theorem Bkc(a b:Int32):Bw a b=decide (a.toInt<b.toInt):=rfl
theorem Bpp(a b:Int32):Ez a b=decide (b.toInt<a.toInt):=rfl
theorem sign_eq(x:Int32):Re x=some (sg x):=by
 rw[Re,sg,Bkc,Bpp,show(0:Int32).toInt=0 from rfl]
 by_cases h:x.toInt<0
 ·rw[if_pos (by simpa using h),if_pos h]
 ·rw[if_neg (by simpa using h),if_neg h]
  by_cases h2:0<x.toInt
  ·rw[if_pos (by simpa using h2),if_pos h2]
  ·rw[if_neg (by simpa using h2),if_neg h2]
theorem Br1:sg 0=0:=rfl
theorem toInt_ne{x:Int32}(h:x≠0):x.toInt≠0:=fun e=>h (Int32.toInt_inj.1 (by rw[e];rfl))
theorem Bim{x:Int32}(h:x.toInt<0):sg x= -1:=by rw[sg,if_pos h]
theorem Bik{x:Int32}(h:x≠0)(h2:¬x.toInt<0):sg x=1:=by
 have:=toInt_ne h
 rw[sg,if_neg h2,if_pos (by omega)]
theorem Aue(i:Nat):stp i=4∨stp i=2∨stp i=1:=by
 unfold stp
 by_cases h:i=0
 ·rw[if_pos h];exact .inl rfl
 ·rw[if_neg h];split;exact .inr (.inl rfl);exact .inr (.inr rfl)
theorem Btf{x w:Int32}(hx:x≠0)(hw:w≠0)(h:(x.toInt<0)=(w.toInt<0))(i:Nat):stp i*sg x*sg w=stp i:=by
 by_cases h1:x.toInt<0
 ·rw[Bim h1,Bim (by rw[←h];exact h1)]
  obtain e|e|e:=Aue i<;>rw[e]<;>decide
 ·rw[Bik hx h1,Bik hw (by rw[←h];exact h1)]
  obtain e|e|e:=Aue i<;>rw[e]<;>decide
theorem Bo9{x w:Int32}(hx:x≠0)(hw:w≠0)(h:¬(x.toInt<0)=(w.toInt<0))(i:Nat)(a:Int32):a+stp i*sg x*sg w=a-stp i:=by
 have key:stp i*sg x*sg w=-stp i:=by
  by_cases h1:x.toInt<0
  ·have h2:¬w.toInt<0:=fun h2=>h (propext ⟨fun _=>h2,fun _=>h1⟩)
   rw[Bim h1,Bik hw h2]
   obtain e|e|e:=Aue i<;>rw[e]<;>decide
  ·have h2:w.toInt<0:=Decidable.by_contra fun h2=>h (propext ⟨fun h3=>absurd h3 h1,fun h3=>absurd h3 h2⟩)
   rw[Bik hx h1,Bim h2]
   obtain e|e|e:=Aue i<;>rw[e]<;>decide
 rw[key,Int32.sub_eq_add_neg]
def Ayi(i:Nat):Nat→Bool:=fun j=>decide (j<i)
theorem Bdx{a b:List Int32}{i:Nat}(h:i<a.length):Ia (sel (Ayi i) a b) (i:Int) (a.getD i 0)=some (sel (Ayi (i+1)) a b):=by
 rw[Ao3 h]
 congr 1
 apply Qa
 intro k _
 rw[Bool.eq_iff_iff]
 simp only[Ayi,Bool.or_eq_true,decide_eq_true_eq];omega
theorem Bt8{a b:List Int32}{i:Nat}(e:a.getD i 0=b.getD i 0):sel (Ayi i) a b=sel (Ayi (i+1)) a b:=by
 apply List.map_congr_left
 intro k _
 simp only[Ayi,decide_eq_true_eq]
 by_cases h1:k<i
 ·rw[if_pos h1,if_pos (by omega)]
 ·by_cases h2:k=i
  ·subst h2;rw[if_neg h1,if_pos (by omega),e]
  ·rw[if_neg h1,if_neg (by omega)]
theorem Bm2{a b:List Int32}{i:Nat}(h:i<a.length):getI (sel (Ayi i) a b) (i:Int)=some (b.getD i 0):=by
 rw[Vu h,if_neg (by simp[Ayi])]
theorem Bgk{s:Int}{t p:List Int32}{w:Int32}(hw:w≠0)(ht:t.length=16)(hp:p.length=16):∀(j i q:Nat),i+j=16→j<q→Qc w p s q (i:Int) (sel (Ayi i) (lrn t p w) t)=some (s,lrn t p w,p,0)
 |0,i,q+1,hi,_=>by
  obtain rfl:i=16:=by omega
  rw[Qc,Adc,if_neg (by rw[Af];simp),Aui (fun k hk=>by rw[Zk]at hk;simpa [Ayi]using hk)];rfl
 |j+1,i,q+1,hi,hq=>by
  have hl:=Zk t p w
  have hg:=Big t p w (i:=i) (by omega)
  rw[Qc,Adc,if_pos (by rw[Af];simp;omega),g32 (by omega),Aa,Ag (b:=1) (by omega) (by omega),Bm2 (by omega),step_eq]
  simp only[Aa]
  rw[Am0,Ai4,Bra,Bkc,Bkc,show(0:Int32).toInt=0 from rfl]
  have ih:=Bgk (s:=s) hw ht hp j (i+1) q (by omega) (by omega)
  by_cases hx:p.getD i 0=0
  ·rw[if_pos (by rw[hx];rfl),Bt8 (by rw[hg,hx,Br1,Int32.mul_zero,Int32.zero_mul,Int32.add_zero])]
   exact ih
  ·rw[if_neg (by simpa using hx)]
   by_cases hs:((p.getD i 0).toInt<0)=(w.toInt<0)
   ·rw[if_pos (by rw[beq_iff_eq];simp only[hs]),show t.getD i 0+stp i=(lrn t p w).getD i 0 by rw[hg,Btf hx hw hs],Bdx (by omega),Aa]
    exact ih
   ·rw[if_neg (by rw[beq_iff_eq,decide_eq_decide];exact fun h=>hs (propext h)),show t.getD i 0-stp i=(lrn t p w).getD i 0 by rw[hg,Bo9 hx hw hs],Bdx (by omega),Aa]
    exact ih
theorem By3{t:List Int32}(p:List Int32)(ht:t.length=16):lrn t p 0=t:=by
 apply List.ext_getElem (by rw[Zk,ht])
 intro i h1 h2
 have:=Big t p 0 (i:=i) (by omega)
 rw[Gi h1,Gi h2]at this
 rw[this,Br1,Int32.mul_zero,Int32.add_zero]
theorem Bli{s:Int}{t p:List Int32}(h:OkF s t p)(w:Int32):Aoa s t p w=some (s,lrn t p w,p,0):=by
 rw[Aoa,All,Azs h,Aa,if_neg (by rw[Aj];simp),Bra]
 by_cases hw:w=0
 ·rw[if_pos (by simpa using hw),hw,By3 p h.2.1]
 ·have h1:=Bgk (s:=s) hw h.2.1 h.2.2 16 0 Ao (by omega) (by have:=Al;omega)
  rw[Ary (by rw[Zk,h.2.1]) (fun k _=>by simp[Ayi])]at h1
  rw[if_neg (by simpa using hw)]
  exact h1
theorem Axd{s:Int}{t p:List Int32}{w:Int32}(ht:t.length=16)(hp:p.length=16):∀(j i q:Nat),i+j=16→j<q→Fz w s p q (i:Int) (sel (Ayi i) (lrn t p w) t)=some (s,lrn t p w,p)
 |0,i,q+1,hi,_=>by
  obtain rfl:i=16:=by omega
  rw[Fz,Ng,if_neg (by rw[Af];simp),Aui (fun k hk=>by rw[Zk]at hk;simpa [Ayi]using hk)];rfl
 |j+1,i,q+1,hi,hq=>by
  have hl:=Zk t p w
  have hg:=Big t p w (i:=i) (by omega)
  rw[Fz,Ng,if_pos (by rw[Af];simp;omega),g32 (l:=p) (by omega),Ag (b:=1) (by omega) (by omega),Bm2 (by omega),Bub,sign_eq w,Aa,Aa,Aa,Aa,Aa,sign_eq,Aa,Aa,Aa,Am0,Bb8,Bb8,←hg,Bdx (by omega),Aa]
  exact Axd ht hp j (i+1) q (by omega) (by omega)
theorem Bpu{s:Int}{t p:List Int32}(h:OkF s t p)(w:Int32):Aey s t p w=some (s,lrn t p w,p):=by
 have h1:=Axd (s:=s) (w:=w) h.2.1 h.2.2 16 0 Ao (by omega) (by have:=Al;omega)
 rw[Ary (by rw[Zk,h.2.1]) (fun k _=>by simp[Ayi])]at h1
 exact h1
theorem Cby{p:List Int32}(h:p.length=16):∃a0 a1 a2 a3 a4 a5 a6 a7 a8 a9 b0 b1 b2 b3 b4 b5,p=[a0,a1,a2,a3,a4,a5,a6,a7,a8,a9,b0,b1,b2,b3,b4,b5]:=by
 match p,h with
 |[a0,a1,a2,a3,a4,a5,a6,a7,a8,a9,b0,b1,b2,b3,b4,b5],_=>exact⟨a0,a1,a2,a3,a4,a5,a6,a7,a8,a9,b0,b1,b2,b3,b4,b5,rfl⟩
theorem Brz{s:Int}{t p:List Int32}(h:OkF s t p)(x:Int32):At1 s t p x=some (s,t,x::p.take 15,0):=by
 obtain⟨hs,ht,hp⟩:=h
 rw[At1,Agy,Azs ⟨hs,ht,hp⟩,Aa,if_neg (by rw[Aj];simp),show vwI (16:Int) 1 16=some ()from rfl,Aa,show vwI (16:Int) 0 16=some ()from rfl,Aa,An3,Aw1]
 obtain⟨a0,a1,a2,a3,a4,a5,a6,a7,a8,a9,b0,b1,b2,b3,b4,b5,rfl⟩:=Cby hp
 rfl
def shf(p:List Int32)(i:Nat):List Int32:=(List.range 16).map fun k=>if k≤i then p.getD k 0 else p.getD (k-1) 0
theorem Vk(p:List Int32)(i:Nat):(shf p i).length=16:=by simp[shf]
theorem Cbb(p:List Int32)(i k:Nat)(h:k<16):(shf p i).getD k 0=if k≤i then p.getD k 0 else p.getD (k-1) 0:=by
 rw[Gi (by rw[Vk];exact h)];simp[shf]
theorem Cbx(p:List Int32)(i:Nat)(h:i+1<16):Ia (shf p (i+1)) ((i+1:Nat):Int) (p.getD i 0)=some (shf p i):=by
 rw[My _ (by rw[Vk];exact h)]
 congr 1
 apply List.ext_getElem (by simp[Vk])
 intro k h1 h2
 rw[Vk]at h2
 rw[List.getElem_set]
 simp only[shf,List.getElem_map,List.getElem_range]
 by_cases hk:i+1=k
 ·subst hk;rw[if_pos rfl,if_neg (by omega)];rfl
 ·rw[if_neg hk]
  by_cases h3:k≤i
  ·rw[if_pos (by omega),if_pos h3]
  ·rw[if_neg (by omega),if_neg h3]
theorem Ba3(s:Int)(t p:List Int32)(x:Int32)(hp:p.length=16):∀(i q:Nat),i<16→i<q→Gf x s t q (i:Int) (shf p i)=some (s,t,x::p.take 15)
 |0,q+1,_,_=>by
  have hg:getI (shf p 0) (0:Int)=some ((shf p 0).getD 0 0):=g32 (l:=shf p 0) (k:=0) (by rw[Vk];omega)
  have hset:Ia (shf p 0) (0:Int) x=some ((shf p 0).set 0 x):=My (l:=shf p 0) (n:=0) x (by rw[Vk];omega)
  rw[Gf,Om,if_neg (by rw[Ak];simp),Aaw,Yg,hg,Aa,hset,Aa]
  congr 3
  apply List.ext_getElem (by simp[Vk,hp])
  intro k h1 h2
  rw[List.length_set,Vk]at h1
  rw[List.getElem_set]
  cases k with
  |zero=>rw[if_pos rfl];rfl
  |succ k=>
   rw[if_neg (by omega)]
   simp only[shf,List.getElem_map,List.getElem_range,List.getElem_cons_succ,List.getElem_take]
   rw[if_neg (by omega),Nat.add_sub_cancel,Gi (by omega)]
 |i+1,q+1,hi,hq=>by
  have hg:=g32 (l:=shf p (i+1)) (k:=i) (by rw[Vk];omega)
  rw[Cbb p (i+1) i (by omega),if_pos (by omega)]at hg
  have e1:Ah ((i+1:Nat):Int) (1:Int)=(i:Int):=by rw[Bb (by omega) (by omega)];omega
  have hg2:=g32 (l:=shf p (i+1)) (k:=i+1) (by rw[Vk];omega)
  rw[Gf,Om,if_pos (by rw[Ak];simp),e1,hg,Aa,Aa,hg2,Aa,Cbx p i hi,Aa]
  exact Ba3 s t p x hp i q (by omega) (by omega)
theorem Bup{s:Int}{t p:List Int32}(hp:p.length=16)(x:Int32):Agi s t p x=some (s,t,x::p.take 15):=by
 have h:=Ba3 s t p x hp 15 Ao (by omega) (by have:=Al;omega)
 have e:shf p 15=p:=by
  apply List.ext_getElem (by rw[Vk,hp])
  intro k h1 h2
  rw[Vk]at h1
  simp only[shf,List.getElem_map,List.getElem_range]
  rw[if_pos (by omega),Gi h2]
 rw[e]at h
 exact h
theorem Bx2{s:Int}{t p:List Int32}(h:OkF s t p)(w x:Int32):OkF s (lrn t p w) (x::p.take 15):=⟨h.1,Zk _ _ _,by simp[h.2.2]⟩
theorem Cbj{s:Int}{t p:List Int32}(h:OkF s t p)(y:Int32):Ass s t p y=some (y+gF s t p,s,lrn t p y,(y+gF s t p)::p.take 15,0):=by
 rw[Ass,Bml h,Aa]
 simp only
 rw[if_neg (by rw[Aj];simp),Am0,Ajn,Bli h,Aa]
 simp only
 rw[Brz (s:=s) (t:=lrn t p y) (p:=p) ⟨h.1,Zk _ _ _,h.2.2⟩,Aa];rfl
theorem Bsu{s:Int}{t p:List Int32}(h:OkF s t p)(y:Int32):Sa s t p y=some (y+gF s t p,s,lrn t p y,(y+gF s t p)::p.take 15):=by
 rw[Sa,Caa h,Aa,Axi,Aa,Bpu h,Aa]
 simp only
 rw[Bup h.2.2,Aa]
def sB(bits:Int):Int:=if bits=16 then 9 else 10
def shB(bits:Int):Int:=if bits=8 then 4 else 5
def BitsOk(bits:Int):Prop:=bits=8∨bits=16∨bits=24
def gs(sh:Int)(last:Int32):Int32:=Ae (Bii (Ah (Cn (Ae last:Int) sh.toNat) (Ae last)) sh.toNat)
theorem Cfv(bits:Int):sB bits=9∨sB bits=10:=by unfold sB;split<;>simp
theorem Ccm(bits:Int):0≤shB bits:=by unfold shB;split<;>omega
theorem Cgo{bits:Int}(h:BitsOk bits)(t:List Int32):Awv bits t=some (sB bits,t,List.replicate 16 0,0):=by
 obtain rfl|rfl|rfl:=h<;>rfl
theorem Cc6{bits:Int}(h:BitsOk bits):Ar1 bits=some (shB bits,0):=by
 obtain rfl|rfl|rfl:=h<;>rfl
theorem Cc5{sh:Int}(h:0≤sh)(last:Int32):Akl sh last=some (gs sh last):=by
 rw[Akl,Ay (by rw[Ck];simpa using h),Aa,Aa];rfl
theorem Bwe{bits:Int}(h:BitsOk bits)(last:Int32):Rj bits last=some (gs (shB bits) last,0):=by
 rw[Rj,Cc6 h,Aa]
 simp only
 rw[if_neg (by rw[Aj];simp),Cc5 (Ccm bits),Aa]
theorem Be0{bits:Int}(h:BitsOk bits)(last:Int32)(t p:List Int32):Rt bits last (sB bits) t p=some 0:=by
 rw[Rt,Cgo h,Aa]
 simp only
 rw[if_neg (by rw[Aj,Aj];simp)]
theorem Bux{bits:Int}(h:BitsOk bits){t p:List Int32}(hF:OkF (sB bits) t p)(last y:Int32):
  Is bits last (sB bits) t p y=some (y+gF (sB bits) t p+gs (shB bits) last,bits,y+gF (sB bits) t p+gs (shB bits) last,sB bits,lrn t p y,(y+gF (sB bits) t p)::p.take 15,0):=by
 rw[Is,Be0 h,Aa,if_neg (by rw[Aj];simp),Bwe h,Aa]
 simp only
 rw[Cbj hF,Aa]
 simp only
 rw[Am0]
theorem Ay7(sh:Int)(hs:sh=4∨sh=5)(last:Int32):Mn sh last=some (gs sh last):=by
 have hl:=Uj last
 have key:∀n:Int,n=16∨n=32→gs sh last=Int32.ofInt (((n-1)*last.toInt).fdiv n)→Of last n=some (gs sh last):=by
  intro n hn hg
  have e:Bg (Ah n (1:Int)) (Ae last:Int)=(n-1)*last.toInt:=by
   obtain rfl|rfl:=hn<;>(rw[Dp,Bb (by omega) (by omega),Gn (by omega) (by omega)])
  rw[Of,Ym,Ay (by rw[Aj];simp;omega),Aa,Aa,e,Bmp _ n (by omega) (by obtain rfl|rfl:=hn<;>omega) (by obtain rfl|rfl:=hn<;>omega),hg]
 rw[Mn,Zw]
 obtain rfl|rfl:=hs
 ·rw[if_neg (by rw[Az];decide)]
  refine key 16 (.inl rfl) ?_
  have e:Cn (Ae last:Int) (4:Int).toNat=last.toInt*16:=by
   rw[Dp];show wrap64 (last.toInt*2^4)=_;rw[Bp]<;>omega
  rw[gs,e,Dp,Bb (by omega) (by omega),Ag3]
  show Int32.ofInt ((last.toInt*16-last.toInt).fdiv 16)=_
  congr 2;omega
 ·rw[if_pos (by rw[Az];rfl)]
  refine key 32 (.inr rfl) ?_
  have e:Cn (Ae last:Int) (5:Int).toNat=last.toInt*32:=by
   rw[Dp];show wrap64 (last.toInt*2^5)=_;rw[Bp]<;>omega
  rw[gs,e,Dp,Bb (by omega) (by omega),Ag3]
  show Int32.ofInt ((last.toInt*32-last.toInt).fdiv 32)=_
  congr 2;omega
theorem Bu5{bits:Int}(h:BitsOk bits){t p:List Int32}(hF:OkF (sB bits) t p)(last y:Int32):
  Sg bits last (sB bits) t p y=some (y+gF (sB bits) t p+gs (shB bits) last,bits,y+gF (sB bits) t p+gs (shB bits) last,sB bits,lrn t p y,(y+gF (sB bits) t p)::p.take 15):=by
 have hb:Uf bits last (sB bits) t p=some (Ae (gs (shB bits) last):Int):=by
  rw[Uf]
  obtain rfl|rfl|rfl:=h
  ·rw[if_pos (by rw[Az];rfl),Ay7 4 (.inl rfl),Aa];rfl
  ·rw[if_neg (by rw[Az];decide),Ay7 5 (.inr rfl),Aa];rfl
  ·rw[if_neg (by rw[Az];decide),Ay7 5 (.inr rfl),Aa];rfl
 rw[Sg,Bsu hF,Aa]
 simp only
 rw[hb,Aa,Axi,Aa]
theorem Cfq{bits:Int}(h:BitsOk bits)(t:List Int32):Aml bits t=some (bits,0,sB bits,t,List.replicate 16 0,0):=by
 obtain rfl|rfl|rfl:=h<;>rfl
def Aij(n:UInt32):Int32:=if n.toNat %2=0 then Int32.ofInt ((n.toNat/2:Nat):Int)else Int32.ofInt (-((n.toNat/2:Nat):Int)-1)
theorem Blx(a b:Int32):(Nn a b).toBitVec=a.toBitVec^^^b.toBitVec:=by
 show(Int32.ofInt ((BitVec.ofInt 32 a.toBitVec.toInt^^^BitVec.ofInt 32 b.toBitVec.toInt).toNat:Int)).toBitVec=_
 rw[BitVec.ofInt_toInt,BitVec.ofInt_toInt,Int32.toBitVec_ofInt,BitVec.ofInt_natCast,BitVec.ofNat_toNat,BitVec.setWidth_eq]
theorem Cfu(m:Nat)(h:m<2147483648):Nn (Int32.ofInt (m:Int)) (Int32.ofInt (-1))=Int32.ofInt (-(m:Int)-1):=by
 apply Int32.toBitVec_inj.1
 have e1:(Int32.ofInt (-1)).toBitVec=BitVec.allOnes 32:=by decide
 rw[Blx,e1,BitVec.xor_allOnes,Int32.toBitVec_ofInt,Int32.toBitVec_ofInt]
 apply BitVec.eq_of_toNat_eq
 rw[BitVec.toNat_not,BitVec.toNat_ofInt,BitVec.toNat_ofInt]
 omega
theorem Bwj(n:UInt32):Th n=some (Aij n):=by
 have hn:=n.toNat_lt
 have e1:(Ae (Bl n (GI.toZ (1:UInt64)).toNat):Int32)=Int32.ofInt ((n.toNat/2:Nat):Int):=by
  show Int32.ofInt ((Bl n 1).toNat:Int)=_
  rw[Aer]
 have e2:(Ae (Cx n (1:UInt32)):Int32)=Int32.ofInt ((n.toNat %2:Nat):Int):=by
  show Int32.ofInt ((Cx n (1:UInt32)).toNat:Int)=_
  rw[Bcm,UInt32.toNat_and]
  show Int32.ofInt ((n.toNat&&&1:Nat):Int)=_
  rw[Nat.and_one_is_mod]
 rw[Th,e1,e2,Aij]
 congr 1
 by_cases h:n.toNat %2=0
 ·have e3:Aw7 (Int32.ofInt ((n.toNat %2:Nat):Int))=Int32.ofInt 0:=by rw[h];decide
  rw[if_pos h,e3]
  apply Int32.toBitVec_inj.1
  rw[Blx,show(Int32.ofInt 0).toBitVec=0#32 from rfl,BitVec.xor_zero]
 ·have e3:Aw7 (Int32.ofInt ((n.toNat %2:Nat):Int))=Int32.ofInt (-1):=by rw[show n.toNat %2=1 by omega];decide
  rw[if_neg h,e3,Cfu _ (by omega)]
theorem Cak(n:UInt32):Yf n=some (Aij n):=by
 have hn:=n.toNat_lt
 have e1:geq (Yb n (2:UInt32)) (0:UInt32)=decide (n.toNat %2=0):=by
  rw[Bjw,Bni,Bool.eq_iff_iff]
  simp only[beq_iff_eq,←UInt32.toNat_inj,UInt32.toNat_mod,decide_eq_true_eq];rfl
 rw[Yf,e1,Aij]
 by_cases h:n.toNat %2=0
 ·rw[if_pos (by simpa using h),if_pos h,Bkq];rfl
 ·have e2:(Ae n:Int)=(n.toNat:Int):=Bea n
  rw[if_neg (by simpa using h),if_neg h,e2,Ag (by omega) (by omega),Bj2,Bp (by omega) (by omega),Afp,Int.tdiv_eq_ediv,Ag3]
  congr 2
  rw[if_pos (.inr (by omega)),Bp (by omega) (by omega)];omega
end Go.Pl
set_option linter.unusedVariables false
set_option linter.unusedSimpArgs false
namespace Go.Pl
open Go Go.Lv
theorem Avc{c:Prop} [Decidable c](h:c):Gw (decide c)=some ():=by rw[decide_eq_true h];rfl
def unV(f:Nat→Int32)(ch:Nat):Nat→Int32
 |0=>if 1<ch then f (ch-1)+Bs (f (ch-2)) (2:Int32)else f (ch-1)
 |j+1=>unV f ch j-f (ch-2-j)
def unm(ch:Nat)(m:List Int32):List Int32:=(List.range m.length).map fun k=>unV (fun i=>m.getD (k-k %ch+i) 0) ch (ch-1-k %ch)
theorem An2(ch:Nat)(m:List Int32):(unm ch m).length=m.length:=by simp[unm]
theorem Ayn{ch:Nat}{m:List Int32}{a i:Nat}(ha:a %ch=0)(hi:i<ch)(h:a+i<m.length):(unm ch m).getD (a+i) 0=unV (fun i=>m.getD (a+i) 0) ch (ch-1-i):=by
 have hb:(a+i) %ch=i:=by rw[Nat.add_mod,ha,Nat.zero_add,Nat.mod_mod,Nat.mod_eq_of_lt hi]
 rw[Gi (by rw[An2];exact h)]
 simp only[unm,List.getElem_map,List.getElem_range,hb]
 rw[show a+i-i=a by omega]
section
variable (ch:Nat) (m:List Int32)
theorem Blp(h1:1≤ch)(h6:ch≤6)(hm:m.length %ch=0)(hl2:m.length≤4000):Amp (ch:Int) m=some 0:=by
 rw[Amp,if_neg (by simp[Af,Ak];omega),if_neg (by rw[Ak,Ac];simp;omega),Ay (by rw[Aj];simp;omega),Aa,if_neg]
 rw[Aj,Ew,Ac,←Int.ofNat_tmod,hm];simp
theorem Be3(bk:Int→List Int32→Option (List Int32×Int))(at':Nat)(h1:1≤ch)(h6:ch≤6)(hm:at' %ch=0)(hl:at'+ch≤m.length)(hl2:m.length≤4000):∀(i q:Nat),i≤ch-1→i<q→
  Tf bk (ch:Int) (at':Int) q ((i:Int)-1) (sel (fun k=>decide (k<at'∨(at'+i≤k∧k<at'+ch))) (unm ch m) m)=bk ((at'+ch:Nat):Int) (sel (fun k=>decide (k<at'+ch)) (unm ch m) m)
 |0,q+1,hi,_=>by
  have e4:Ad (at':Int) (ch:Int)=((at'+ch:Nat):Int):=by rw[Ag (by omega) (by omega)];omega
  rw[Tf,Agu,if_neg (by rw[Ck];simp),Apg,Axn,e4]
  congr 1
  apply Qa
  intro k _
  rw[Bool.eq_iff_iff];simp;omega
 |i+1,q+1,hi,hq=>by
  have hlen:=An2 ch m
  have e2:Ad (at':Int) (ch:Int)-(at':Int)=(ch:Int):=by rw[Ag (by omega) (by omega)];omega
  have e3:Ad (i:Int) 1=((i+1:Nat):Int):=by rw[Ag (by omega) (by omega)];omega
  have hv:((unm ch m).getD (at'+(i+1)) 0-m.getD (at'+i) 0)=(unm ch m).getD (at'+i) 0:=by
   rw[Ayn hm (by omega) (by omega),Ayn hm (by omega) (by omega),show ch-1-i=(ch-1-(i+1))+1 by omega,unV,show ch-2-(ch-1-(i+1))=i by omega]
  rw[Tf,Agu,show((i+1:Nat):Int)-1=(i:Int) by omega,if_pos (by rw[Ck];simp),e2,e3,Avc (by omega),Aa,Avc (by omega),Aa,
   show(at':Int)+((i+1:Nat):Int)=((at'+(i+1):Nat):Int) by omega,show(at':Int)+(i:Int)=((at'+i:Nat):Int) by omega,
   Vu (by omega),Aa,Vu (by omega),Aa,Aa,if_pos (by simp;omega),if_neg (by simp;omega),Ai4,hv,Ao3 (by omega),Aa,Bb (by omega) (by omega)]
  have ih:=Be3 bk at' h1 h6 hm hl hl2 i q (by omega) (by omega)
  rw[←ih]
  congr 1
  apply Qa
  intro k _
  rw[Bool.eq_iff_iff];simp;omega
theorem Axf{at' ch n:Nat}(ha:at' %ch=0)(hm:n %ch=0)(h:at'<n):at'+ch≤n:=by
 have d1:=Nat.div_add_mod at' ch
 have d2:=Nat.div_add_mod n ch
 rw[ha,Nat.add_zero]at d1
 rw[hm,Nat.add_zero]at d2
 have hlt:at'/ch<n/ch:=by
  rcases Nat.lt_or_ge (at'/ch) (n/ch)with h'|h'
  ·exact h'
  ·have:=Nat.mul_le_mul_left ch h';omega
 have:=Nat.mul_le_mul_left ch (show at'/ch+1≤n/ch from hlt)
 rw[Nat.mul_add]at this;omega
theorem Bhy(h1:1≤ch)(h6:ch≤6)(hm:m.length %ch=0)(hl2:m.length≤4000):∀(j at' q:Nat),at' %ch=0→at'≤m.length→m.length-at'≤j→j<q→
  Pg (ch:Int) q (at':Int) (sel (fun k=>decide (k<at')) (unm ch m) m)=some (unm ch m,0)
 |j,at',q+1,ha,hle,hj,hq=>by
  have hlen:=An2 ch m
  have hl:Ac (sel (fun k=>decide (k<at')) (unm ch m) m)=(m.length:Int):=by rw[Ac,Ac5,hlen]
  rw[Pg,Apy,hl]
  by_cases h:at'<m.length
  ·have hb:=Axf ha hm h
   obtain⟨j,rfl⟩:∃k,j=k+1:=⟨j-1,by omega⟩
   have e1:Ah (Ad (at':Int) (ch:Int)-(at':Int)) 1=((ch-1:Nat):Int):=by rw[Ag (by omega) (by omega),Bb (by omega) (by omega)];omega
   have e2:Ad (at':Int) (ch:Int)-(at':Int)=(ch:Int):=by rw[Ag (by omega) (by omega)];omega
   have e4:Ad (at':Int) (ch:Int)=((at'+ch:Nat):Int):=by rw[Ag (by omega) (by omega)];omega
   have hi:=Be3 ch m (Pg (ch:Int) q) at' h1 h6 ha hb hl2 (ch-1) Ao (by omega) (by have:=Al;omega)
   have hrest:=Bhy h1 h6 hm hl2 j (at'+ch) q (by rw[Nat.add_mod_right,ha]) hb (by omega) (by omega)
   have hstart:Agt (Pg (ch:Int) q) (ch:Int) (at':Int) (sel (fun k=>decide (k<at'∨(at'+(ch-1)≤k∧k<at'+ch))) (unm ch m) m)=some (unm ch m,0):=by
    have e6:Ah ((ch-1:Nat):Int) 1=((ch-1:Nat):Int)-1:=Bb (by omega) (by omega)
    rw[Agt,Apd,Apl,e1,e6]
    exact Eq.trans hi hrest
   rw[if_pos (by rw[Af];simp;omega),show vwI (m.length:Int) (at':Int) (Ad (at':Int) (ch:Int))=some () by rw[e4,vwI,Avc];omega,Aa,e1,e2]
   have hlast:=Ayn (m:=m) ha (show ch-1<ch by omega) (by omega)
   rw[show ch-1-(ch-1)=0 by omega,unV]at hlast
   by_cases hc:1<ch
   ·have e5:Ah ((ch-1:Nat):Int) 1=((ch-2:Nat):Int):=by rw[Bb (by omega) (by omega)];omega
    rw[if_pos hc]at hlast
    rw[if_pos (by rw[Ak];simp;omega),Avc (by omega),Aa,e5,Avc (by omega),Aa,show(at':Int)+((ch-1:Nat):Int)=((at'+(ch-1):Nat):Int) by omega,show(at':Int)+((ch-2:Nat):Int)=((at'+(ch-2):Nat):Int) by omega,
     Vu (by omega),Aa,Vu (by omega),Aa,Aa,if_neg (by simp),if_neg (by simp),Am0,←hlast,Ao3 (by omega),Aa]
    rw[←hstart]
    congr 1
    apply Qa
    intro k _
    rw[Bool.eq_iff_iff];simp;omega
   ·have hc1:ch=1:=by omega
    rw[if_neg (by rw[Ak];simp;omega),←hstart]
    congr 1
    rw[if_neg hc]at hlast
    apply List.map_congr_left
    intro k hk
    by_cases hk2:k=at'
    ·subst hk2
     rw[if_neg (by simp),if_pos (by simp;omega)]
     rw[show k+(ch-1)=k by omega]at hlast
     exact hlast.symm
    ·by_cases hk3:k<at'
     ·rw[if_pos (by simp;omega),if_pos (by simp;omega)]
     ·rw[if_neg (by simp;omega),if_neg (by simp;omega)]
  ·rw[if_neg (by rw[Af];simp;omega),Aui (fun k hk=>by simp;omega)]
   rfl
theorem Cah(h1:1≤ch)(h6:ch≤6)(hm:m.length %ch=0)(hl2:m.length≤4000):Axq (ch:Int) m=some (unm ch m,0):=by
 have hlen:=An2 ch m
 have h:=Bhy ch m h1 h6 hm hl2 m.length 0 Ao (by simp) (by omega) (by omega) (by have:=Al;omega)
 rw[Axq,Atm,Blp ch m h1 h6 hm hl2,Aa,if_neg (by rw[Aj];simp),Cr,Cg (by simp;omega),Aa,Aa,List.nil_append,Aob]
 rw[Ary hlen.symm (fun k _=>by simp)]at h
 exact h
end
def Azp(f:Nat→Int32)(ch:Nat):List Int32:=(List.range ch).map fun i=>unV f ch (ch-1-i)
theorem Anf(f:Nat→Int32)(ch:Nat):(Azp f ch).length=ch:=by simp[Azp]
theorem Ayh(f:Nat→Int32){ch i:Nat}(h:i<ch):(Azp f ch).getD i 0=unV f ch (ch-1-i):=by
 rw[Gi (by rw[Anf];exact h)];simp[Azp]
theorem Bxw(a b:Int32):Bv (Ah (Ae a:Int) (Ae b:Int))=some (a-b):=by
 have:=Uj a
 have:=Uj b
 rw[Dp,Dp,Bb (by omega) (by omega),Bb0,Int32.ofInt_sub,Int32.ofInt_toInt,Int32.ofInt_toInt]
theorem Bs8(a b:Int32):Bv (Ad (Ae a:Int) (Bs (Ae b:Int) (2:Int)))=some (a+Bs b (2:Int32)):=by
 have:=Uj a
 have hb:=Uj b
 have hd: -2147483648≤b.toInt.tdiv 2∧b.toInt.tdiv 2≤2147483648:=by
  rw[Int.tdiv_eq_ediv,show Int.sign 2=1 from rfl]
  by_cases h:0≤b.toInt∨2∣b.toInt
  ·rw[if_pos h];omega
  ·rw[if_neg h];omega
 have e:Bs b (2:Int32)=Int32.ofInt (b.toInt.tdiv 2):=rfl
 rw[Dp,Dp,Afp,Bp (by omega) (by omega),Ag (by omega) (by omega),Bb0,Int32.ofInt_add,Int32.ofInt_toInt,e]
theorem Aw6(seg z:List Int32)(ch:Nat)(h6:ch≤6)(hs:seg.length=ch)(hz:z.length=ch):∀(i q:Nat),i+1≤ch→i<q→
  Fw seg q ((i:Int)-1) (sel (fun k=>decide (i≤k)) (Azp (fun i=>seg.getD i 0) ch) z)=some (Azp (fun i=>seg.getD i 0) ch)
 |0,q+1,hi,_=>by
  rw[Fw,Nq,if_neg (by rw[Ck];simp),Aui (fun k hk=>by simp)];rfl
 |i+1,q+1,hi,hq=>by
  have hlen:=Anf (fun i=>seg.getD i 0) ch
  have e3:Ad (i:Int) 1=((i+1:Nat):Int):=by rw[Ag (by omega) (by omega)];omega
  have hv:(Azp (fun i=>seg.getD i 0) ch).getD (i+1) 0-seg.getD i 0=(Azp (fun i=>seg.getD i 0) ch).getD i 0:=by
   rw[Ayh _ (by omega),Ayh _ (by omega),show ch-1-i=(ch-1-(i+1))+1 by omega,unV,show ch-2-(ch-1-(i+1))=i by omega]
  rw[Fw,Nq,show((i+1:Nat):Int)-1=(i:Int) by omega,if_pos (by rw[Ck];simp),e3,Vu (by omega),Aa,g32 (by omega),Aa,Aa,if_pos (by simp),Bxw,Aa,Vu (by omega),Aa,hv,Ao3 (by omega),Aa,Bb (by omega) (by omega)]
  have ih:=Aw6 seg z ch h6 hs hz i q (by omega) (by omega)
  rw[←ih]
  congr 1
  apply Qa
  intro k _
  rw[Bool.eq_iff_iff];simp;omega
theorem Bn8{l:List Int32}{i:Nat}(v:Int32)(h:i<l.length):(l.set i v).getD i 0=v:=by
 rw[Gi (by rw[List.length_set];exact h)];simp
theorem Bpk(seg:List Int32)(ch:Nat)(h1:1≤ch)(h6:ch≤6)(hs:seg.length=ch):Rh seg=some (Azp (fun i=>seg.getD i 0) ch):=by
 have hlen:=Anf (fun i=>seg.getD i 0) ch
 have hzl:(List.replicate ch (0:Int32)).length=ch:=by simp
 have e1:Ah (Ac seg) 1=((ch-1:Nat):Int):=by rw[Ac,hs,Bb (by omega) (by omega)];omega
 have e2:Ah (Ac seg) 2=((ch-1:Nat):Int)-1:=by rw[Ac,hs,Bb (by omega) (by omega)];omega
 have hlast:=Ayh (fun i=>seg.getD i 0) (show ch-1<ch by omega)
 rw[show ch-1-(ch-1)=0 by omega,unV]at hlast
 have hend:∀z:List Int32,z.length=ch→z.getD (ch-1) 0=(Azp (fun i=>seg.getD i 0) ch).getD (ch-1) 0→Np seg z=some (Azp (fun i=>seg.getD i 0) ch):=by
  intro z hz hzl
  have h:=Aw6 seg z ch h6 hs hz (ch-1) Ao (by omega) (by have:=Al;omega)
  have e:sel (fun k=>decide (ch-1≤k)) (Azp (fun i=>seg.getD i 0) ch) z=z:=by
   apply List.ext_getElem (by rw[Ac5,hlen,hz])
   intro k k1 k2
   rw[Nz]
   by_cases hk:ch-1≤k
   ·obtain rfl:k=ch-1:=by omega
    rw[if_pos (by simp),←hzl,Gi k2]
   ·rw[if_neg (by simpa using hk),Gi k2]
  rw[e]at h
  rw[Np,Xi,e2]
  exact h
 rw[Rh,Xm,Ac,hs,Ax8 (by omega) (by omega),Aa,Ay (by rw[Az];simp),Aa]
 rw[Ac,hs]at e1
 rw[Ac,hs]at e2
 have hz1:(List.replicate (Int.toNat (ch:Int)) (0:Int32)).length=ch:=by simp
 have hs1:=g32 (l:=seg) (k:=ch-1) (by omega)
 rw[e1,hs1,Aa,g32 (by omega),Aa,My _ (by omega),Aa]
 by_cases hc:1<ch
 ·rw[if_pos hc]at hlast
  have e3:((ch-1:Nat):Int)-1=((ch-2:Nat):Int):=by omega
  have hs2:=g32 (l:=seg) (k:=ch-2) (by omega)
  rw[if_pos (by rw[Ak];simp;omega),Aa,e2,e3,hs2,Aa,Bs8,Aa,g32 (by rw[List.length_set];omega),Aa,My _ (by rw[List.length_set];omega),Aa]
  refine hend _ (by simp) ?_
  rw[hlast,Bn8 _ (by rw[List.length_set];omega)]
 ·rw[if_neg hc]at hlast
  rw[if_neg (by rw[Ak];simp;omega)]
  refine hend _ (by simp) ?_
  rw[hlast,Bn8 _ (by omega)]
theorem Cal(ch:Nat)(m:List Int32)(h1:1≤ch)(h6:ch≤6)(hm:m.length %ch=0)(hl2:m.length≤4000):Pa (ch:Int) m=some 0:=by
 rw[Pa,if_neg (by simp[Af,Ak];omega),if_neg (by rw[Ak,Ac];simp;omega),Ay (by rw[Aj];simp;omega),Aa,if_neg]
 rw[Ak,Ew,Ac,←Int.ofNat_tmod,hm];simp
theorem Ba9(ch:Nat)(m:List Int32)(h1:1≤ch)(h6:ch≤6)(hm:m.length %ch=0)(hl2:m.length≤4000):∀(j at' q:Nat),at' %ch=0→at'≤m.length→m.length-at'≤j→j<q→
  Ln (ch:Int) m q (at':Int) ((unm ch m).take at')=some (unm ch m,0)
 |j,at',q+1,ha,hle,hj,hq=>by
  have hlen:=An2 ch m
  rw[Ln,Aet]
  by_cases h:at'<m.length
  ·have hb:=Axf ha hm h
   have e4:Ad (at':Int) (ch:Int)=((at'+ch:Nat):Int):=by rw[Ag (by omega) (by omega)];omega
   have hrest:=Ba9 ch m h1 h6 hm hl2 (j-1) (at'+ch) q (by rw[Nat.add_mod_right,ha]) hb (by omega) (by omega)
   have hseg:((m.take (at'+ch)).drop at').length=ch:=by simp;omega
   have htl:((unm ch m).take at').length=at':=by simp[hlen];omega
   rw[if_pos (by rw[Af,Ac];simp;omega),e4,Rq (by omega) (by omega) (by omega),Aa,show((at'+ch:Nat):Int).toNat=at'+ch from rfl,show(at':Int).toNat=at' from rfl,Bpk _ ch h1 h6 hseg,Aa,Cg (by rw[htl,Anf];omega),Aa]
   have e:(unm ch m).take at'++Azp (fun i=>((m.take (at'+ch)).drop at').getD i 0) ch=(unm ch m).take (at'+ch):=by
    apply List.ext_getElem (by rw[List.length_append,htl,Anf,List.length_take,hlen];omega)
    intro k k1 k2
    rw[List.length_take,hlen]at k2
    rw[List.getElem_append,List.getElem_take]
    by_cases hk:k<at'
    ·rw[dif_pos (by rw[htl];exact hk),List.getElem_take]
    ·rw[dif_neg (by rw[htl];exact hk)]
     have hu:=Ayn (m:=m) ha (show k-at'<ch by omega) (by omega)
     rw[show at'+(k-at')=k by omega,Gi (by omega)]at hu
     have hx:∀n,n≤ch→unV (fun i=>((m.take (at'+ch)).drop at').getD i 0) ch n=unV (fun i=>m.getD (at'+i) 0) ch n:=by
      have hf:∀i,i<ch→((m.take (at'+ch)).drop at').getD i 0=m.getD (at'+i) 0:=by
       intro i hi
       rw[Gi (by omega),Gi (by omega)];simp
      intro n
      induction n with
      |zero=>
       intro _;rw[unV,unV,hf _ (by omega)];split
       ·rw[hf _ (by omega)]
       ·rfl
      |succ n ih=>intro hn;rw[unV,unV,ih (by omega),hf _ (by omega)]
     have hy:=Ayh (fun i=>((m.take (at'+ch)).drop at').getD i 0) (show k-at'<ch by omega)
     rw[Gi (by rw[Anf];omega)]at hy
     rw[hu,←hx _ (by omega),←hy]
     congr 1
     rw[htl]
   rw[e]
   exact hrest
  ·rw[if_neg (by rw[Af,Ac];simp;omega),List.take_of_length_le (by omega)];rfl
theorem Bul(ch:Nat)(m:List Int32)(h1:1≤ch)(h6:ch≤6)(hm:m.length %ch=0)(hl2:m.length≤4000):Yk (ch:Int) m=some (unm ch m,0):=by
 have h:=Ba9 ch m h1 h6 hm hl2 m.length 0 Ao (by simp) (by omega) (by omega) (by have:=Al;omega)
 rw[Yk,Ad6,Cal ch m h1 h6 hm hl2,Aa,if_neg (by rw[Aj];simp)]
 exact h
end Go.Pl
set_option linter.unusedVariables false
set_option linter.unusedSimpArgs false
namespace Go.Pl
open Go Go.Lv
def pre{α:Type}(ch c:Nat)(f:α→Nat→α)(a0:α):Nat→α
 |0=>a0
 |m+1=>if m %ch=c then f (pre ch c f a0 m) m else pre ch c f a0 m
theorem Bsq{α:Type}(ch c:Nat)(f:α→Nat→α)(a0:α):∀m,m≤c→c<ch→pre ch c f a0 m=a0
 |0,_,_=>rfl
 |m+1,h,h2=>by rw[pre,if_neg (by rw[Nat.mod_eq_of_lt (by omega)];omega),Bsq ch c f a0 m (by omega) h2]
theorem Bl8{α:Type}(ch c i:Nat)(f:α→Nat→α)(a0:α)(hi:i %ch=c)(hc:c<ch):∀j,j<ch→pre ch c f a0 (i+1+j)=pre ch c f a0 (i+1)
 |0,_=>rfl
 |j+1,h=>by
  have hne:(i+1+j) %ch≠c:=by
   intro e
   have h1:(i+(1+j)) %ch=i %ch:=by rw[hi,←e];congr 1;omega
   have h2:(1+j) %ch=0:=by
    have h3:=Nat.sub_mod_eq_zero_of_mod_eq h1
    rwa [Nat.add_sub_cancel_left]at h3
   rw[Nat.mod_eq_of_lt (by omega)]at h2;omega
  rw[show i+1+(j+1)=(i+1+j)+1 by omega,pre,if_neg hne,Bl8 ch c i f a0 hi hc j (by omega)]
theorem Bvu{α:Type}(ch c i:Nat)(f:α→Nat→α)(a0:α)(hi:i %ch=c)(hc:c<ch):pre ch c f a0 (i+ch)=f (pre ch c f a0 i) i:=by
 have h:=Bl8 ch c i f a0 hi hc (ch-1) (by omega)
 rw[show i+1+(ch-1)=i+ch by omega]at h
 rw[h,pre,if_pos hi]
abbrev CS:=Int32×List Int32×List Int32
def Bmi(bits:Int)(s:CS)(y:Int32):Int32:=y+gF (sB bits) s.2.1 s.2.2+gs (shB bits) s.1
def Bgq(bits:Int)(s:CS)(y:Int32):CS:=(Bmi bits s y,lrn s.2.1 s.2.2 y,(y+gF (sB bits) s.2.1 s.2.2)::s.2.2.take 15)
def cst(bits:Int)(ch:Nat)(t:List Int32)(v:List UInt32)(c:Nat):Nat→CS:=pre ch c (fun s i=>Bgq bits s (Aij (v.getD i 0))) (0,t,List.replicate 16 0)
def OkC(bits:Int)(s:CS):Prop:=OkF (sB bits) s.2.1 s.2.2
theorem Bjd(bits:Int)(ch:Nat){t:List Int32}(ht:t.length=16)(v:List UInt32)(c:Nat):∀m,OkC bits (cst bits ch t v c m)
 |0=>⟨Cfv bits,ht,by simp[cst,pre]⟩
 |m+1=>by
  have ih:=Bjd bits ch ht v c m
  rw[cst,pre]
  split
  ·exact Bx2 ih _ _
  ·exact ih
def smp(bits:Int)(ch:Nat)(t:List Int32)(v:List UInt32):List Int32:=(List.range v.length).map fun i=>Bmi bits (cst bits ch t v (i %ch) i) (Aij (v.getD i 0))
theorem Aoq(bits:Int)(ch:Nat)(t:List Int32)(v:List UInt32):(smp bits ch t v).length=v.length:=by simp[smp]
theorem Bju(bits:Int)(ch:Nat)(t:List Int32)(v:List UInt32){i:Nat}(h:i<v.length):(smp bits ch t v).getD i 0=Bmi bits (cst bits ch t v (i %ch) i) (Aij (v.getD i 0)):=by
 rw[Gi (by rw[Aoq];exact h)];simp[smp]
abbrev CL:=Int×Int32×(Int×(List Int32)×(List Int32)×Unit)×Unit
def toC(bits:Int)(s:CS):CL:=(bits,s.1,(sB bits,s.2.1,s.2.2,()),())
def cts(bits:Int)(ch:Nat)(t:List Int32)(v:List UInt32)(i:Nat):List CL:=(List.range 6).map fun c=>toC bits (cst bits ch t v c i)
theorem Bqz{bits:Int}{ch:Nat}{t:List Int32}{v:List UInt32}{i c:Nat}(h:c<6):getI (cts bits ch t v i) (c:Int)=some (toC bits (cst bits ch t v c i)):=by
 rw[Bu (by simp[cts];exact h)];simp[cts]
theorem Blj(bits:Int)(ch:Nat)(t:List Int32)(v:List UInt32)(c m:Nat):cst bits ch t v c (m+1)=if m %ch=c then Bgq bits (cst bits ch t v c m) (Aij (v.getD m 0))else cst bits ch t v c m:=rfl
theorem Brv{bits:Int}{ch:Nat}{t:List Int32}{v:List UInt32}{i c:Nat}(h:c<6)(hc:i %ch=c):Ia (cts bits ch t v i) (c:Int) (toC bits (Bgq bits (cst bits ch t v c i) (Aij (v.getD i 0))))=some (cts bits ch t v (i+1)):=by
 rw[My _ (by simp[cts];exact h)]
 congr 1
 apply List.ext_getElem (by simp[cts])
 intro k h1 h2
 rw[List.getElem_set]
 simp only[cts,List.getElem_map,List.getElem_range]
 by_cases hk:c=k
 ·subst hk;rw[if_pos rfl,Blj,if_pos hc]
 ·rw[if_neg hk,Blj,if_neg (by omega)]
section
variable {bits:Int} {ch:Nat} {t:List Int32} {v:List UInt32}
theorem Blq(hb:BitsOk bits)(ht:t.length=16)(h1:1≤ch)(h6:ch≤6)(hv:v.length≤4000):∀(j i q:Nat),i+j=v.length→j<q→
  Gs v (ch:Int) bits q (i:Int) (cts bits ch t v i) ((smp bits ch t v).take i)=Jd (ch:Int) bits (smp bits ch t v)
 |0,i,q+1,hi,_=>by
  rw[Gs,Jc,if_neg (by rw[Af,Ac];simp;omega),List.take_of_length_le (by rw[Aoq];omega)]
 |j+1,i,q+1,hi,hq=>by
  have hlen:=Aoq bits ch t v
  have hc:i %ch<6:=Nat.lt_of_lt_of_le (Nat.mod_lt _ (by omega)) h6
  have hok:=Bjd bits ch ht v (i %ch) i
  have hs:=Brv (bits:=bits) (ch:=ch) (t:=t) (v:=v) (i:=i) hc rfl
  have hx:=Bju bits ch t v (i:=i) (by omega)
  have hcb:=Bux hb hok (cst bits ch t v (i %ch) i).1 (Aij (v.getD i 0))
  have ih:=Blq hb ht h1 h6 hv j (i+1) q (by omega) (by omega)
  rw[Jw (by omega),←Gi (by omega),hx]at ih
  rw[Gs,Jc,if_pos (by rw[Af,Ac];simp;omega),Aw3 (by omega),Aa,Ay (by rw[Aj];simp;omega),Aa,Ajm,Bqz hc,Aa,Aa,Bwj,Aa]
  refine Eq.trans (congrArg (fun o=>Option.bind o _) hcb) ?_
  rw[Aa]
  simp only
  rw[Ue,Af9,if_neg (by rw[Aj];simp),Ajm]
  refine Eq.trans (congrArg (fun o=>Option.bind o _) hs) ?_
  rw[Aa,Cg (by simp;omega),Aa,Ag (by omega) (by omega)]
  exact ih
theorem Buj(hb:BitsOk bits)(ht:t.length=16)(h1:1≤ch)(h6:ch≤6)(hv:v.length≤4000):Pj (ch:Int) bits t v=Jd (ch:Int) bits (smp bits ch t v):=by
 have h:=Blq hb ht h1 h6 hv v.length 0 Ao (by omega) (by have:=Al;omega)
 have e:Ao=(Ao-7)+1+1+1+1+1+1+1:=by have:=Al;omega
 have hs:Mo v (ch:Int) bits t 0 (List.replicate 6 ((0:Int),(0:Int32),((0:Int),(List.replicate 16 (0:Int32)),(List.replicate 16 (0:Int32)),()),()))=Tl v (ch:Int) bits (cts bits ch t v 0):=by
  rw[Mo,e]
  obtain rfl|rfl|rfl:=hb<;>rfl
 rw[Pj,Wi,hs]
 exact h
theorem Bgz(bk:Int→List Int32→Option (List Int32))(hb:BitsOk bits)(ht:t.length=16)(h1:1≤ch)(h6:ch≤6)(hv:v.length≤4000)(z:List Int32)(c:Nat)(hc:c<ch):∀(j i q:Nat),i %ch=c→v.length-i≤j→i≤5000→j<q→
  Ii bk v (ch:Int) bits t (c:Int) q (i:Int) (sel (fun k=>decide (k %ch<c∨(k %ch=c∧k<i))) (smp bits ch t v) z) bits (cst bits ch t v c i).1 (sB bits) (cst bits ch t v c i).2.1 (cst bits ch t v c i).2.2=
   bk ((c+1:Nat):Int) (sel (fun k=>decide (k %ch<c+1)) (smp bits ch t v) z)
 |j,i,q+1,hi,hj,hi5,hq=>by
  have hlen:=Aoq bits ch t v
  rw[Ii,Xs]
  by_cases h:i<v.length
  ·have hok:=Bjd bits ch ht v c i
   have hst:=Bu5 hb hok (cst bits ch t v c i).1 (Aij (v.getD i 0))
   have hx:=Bju bits ch t v (i:=i) h
   rw[hi]at hx
   have ih:=Bgz bk hb ht h1 h6 hv z c hc (j-1) (i+ch) q (by rw[Nat.add_mod_right];exact hi) (by omega) (by omega) (by omega)
   have Bfm:cst bits ch t v c (i+ch)=Bgq bits (cst bits ch t v c i) (Aij (v.getD i 0)):=Bvu ch c i _ _ hi hc
   rw[Bfm]at ih
   have hset:=Ao3 (p:=fun k=>decide (k %ch<c∨(k %ch=c∧k<i))) (a:=smp bits ch t v) (b:=z) (k:=i) (by omega)
   rw[hx]at hset
   have hcong:sel (fun j=>decide (j %ch<c∨(j %ch=c∧j<i))||decide (j=i)) (smp bits ch t v) z=sel (fun k=>decide (k %ch<c∨(k %ch=c∧k<i+ch))) (smp bits ch t v) z:=by
    apply Qa
    intro k _
    rw[Bool.eq_iff_iff]
    simp only[Bool.or_eq_true,decide_eq_true_eq]
    constructor
    ·rintro((h1|h1)|h1)
     ·exact .inl h1
     ·exact .inr ⟨h1.1,by omega⟩
     ·subst h1;exact .inr ⟨hi,by omega⟩
    ·rintro(h1|⟨h1,h2⟩)
     ·exact .inl (.inl h1)
     ·by_cases h3:k<i
      ·exact .inl (.inr ⟨h1,h3⟩)
      ·refine .inr ?_
       have h4:(i+(k-i)) %ch=i %ch:=by rw[show i+(k-i)=k by omega,h1,hi]
       have h5:=Nat.sub_mod_eq_zero_of_mod_eq h4
       rw[Nat.add_sub_cancel_left,Nat.mod_eq_of_lt (by omega)]at h5
       omega
   rw[hcong]at hset
   rw[if_pos (by rw[Af,Ac];simp;omega),Aw3 h,Aa,Cak,Aa]
   refine Eq.trans (congrArg (fun o=>Option.bind o _) hst) ?_
   rw[Aa]
   simp only
   rw[Xn,Xa,Vu (by omega),Aa]
   refine Eq.trans (congrArg (fun o=>Option.bind o _) hset) ?_
   rw[Aa,Xy,Ww,Ag (by omega) (by omega)]
   exact ih
  ·rw[if_neg (by rw[Af,Ac];simp;omega),Xf,Xc,Ag (by omega) (by omega)]
   have hcong:sel (fun k=>decide (k %ch<c∨(k %ch=c∧k<i))) (smp bits ch t v) z=sel (fun k=>decide (k %ch<c+1)) (smp bits ch t v) z:=by
    apply Qa
    intro k hk
    rw[Bool.eq_iff_iff]
    simp only[decide_eq_true_eq]
    omega
   rw[hcong];rfl
theorem Bgp(hb:BitsOk bits)(ht:t.length=16)(h1:1≤ch)(h6:ch≤6)(hv:v.length≤4000)(z:List Int32):∀(j c q:Nat),c+j=ch→j<q→
  Ed v (ch:Int) bits t q (c:Int) (sel (fun k=>decide (k %ch<c)) (smp bits ch t v) z)=Nr (ch:Int) bits (smp bits ch t v)
 |0,c,q+1,hc,_=>by
  rw[Ed,Nh,if_neg (by rw[Af];simp;omega),Aui (fun k hk=>by have:=Nat.mod_lt k (show 0<ch by omega);simp;omega)]
 |j+1,c,q+1,hc,hq=>by
  have ih:=Bgp hb ht h1 h6 hv z j (c+1) q (by omega) (by omega)
  have hin:=Bgz (Ed v (ch:Int) bits t q) hb ht h1 h6 hv z c (by omega) v.length c Ao (Nat.mod_eq_of_lt (by omega)) (by omega) (by omega) (by have:=Al;omega)
  have h0:cst bits ch t v c c=(0,t,List.replicate 16 0):=Bsq ch c _ _ c (Nat.le_refl _) (by omega)
  rw[h0]at hin
  have hcong:sel (fun k=>decide (k %ch<c∨(k %ch=c∧k<c))) (smp bits ch t v) z=sel (fun k=>decide (k %ch<c)) (smp bits ch t v) z:=by
   apply Qa
   intro k hk
   have:=Nat.mod_le k ch
   rw[Bool.eq_iff_iff]
   simp only[decide_eq_true_eq]
   omega
  rw[hcong]at hin
  rw[Ed,Nh,if_pos (by rw[Af];simp;omega),Cfq hb,Aa]
  simp only
  rw[Xd]
  exact Eq.trans hin ih
theorem Bhw(hb:BitsOk bits)(ht:t.length=16)(h1:1≤ch)(h6:ch≤6)(hv:v.length≤4000)(hm:v.length %ch=0):Mq (ch:Int) bits t v=some (unm ch (smp bits ch t v)):=by
 have hlen:=Aoq bits ch t v
 have h:=Bgp hb ht h1 h6 hv (List.replicate v.length 0) ch 0 Ao (by omega) (by have:=Al;omega)
 rw[Ary (by rw[hlen];simp) (fun k _=>by simp)]at h
 rw[Mq,Ze,Ac,Ax8 (by omega) (by omega),Aa,Ay (by rw[Az];simp),Aa,Wx]
 refine Eq.trans h ?_
 rw[Nr,Xo,Bul ch _ h1 h6 (by rw[hlen];exact hm) (by omega),Aa]
end
def hB(bits:Int):Int:=if bits=8 then 128 else if bits=16 then 32768 else 8388608
theorem Bj8{bits:Int}(h:BitsOk bits):Ny bits=some (Int32.ofInt (-(hB bits)),Int32.ofInt (hB bits-1),0):=by
 obtain rfl|rfl|rfl:=h<;>decide
theorem Aj8{bits:Int}(h:BitsOk bits):Gm bits=some (hB bits):=by
 obtain rfl|rfl|rfl:=h<;>rfl
theorem Aie(bits:Int):0<hB bits∧hB bits≤8388608:=by
 unfold hB;split; · omega
 ·split<;>omega
theorem Bd7{bits:Int}(h:BitsOk bits)(l:List Int32)(hl:l.length≤4000):∀(j i q:Nat),i+j=l.length→j<q→
  Nj (Int32.ofInt (-(hB bits))) (Int32.ofInt (hB bits-1)) l q (i:Int)=Ap l (hB bits) q (i:Int)
 |0,i,q+1,hi,_=>by
  rw[Nj,Zb,Ap,Br,if_neg (by rw[Af,Ac];simp;omega),if_neg (by rw[Af,Ac];simp;omega)];rfl
 |j+1,i,q+1,hi,hq=>by
  have hh:=Aie bits
  have ih:=Bd7 h l hl j (i+1) q (by omega) (by omega)
  have e1:(Int32.ofInt (-(hB bits))).toInt= -(hB bits):=by rw[Int32.toInt_ofInt,Int.bmod_eq_of_le (by show -(4294967296/2:Int)≤_;omega) (by show _<(4294967296+1)/2;omega)]
  have e2:(Int32.ofInt (hB bits-1)).toInt=hB bits-1:=by rw[Int32.toInt_ofInt,Int.bmod_eq_of_le (by show -(4294967296/2:Int)≤_;omega) (by show _<(4294967296+1)/2;omega)]
  rw[Nj,Zb,Ap,Br,if_pos (by rw[Af,Ac];simp;omega),if_pos (by rw[Af,Ac];simp;omega),g32 (by omega),Aa,Aa,Aa,Dp,Bj2,Bp (by omega) (by omega),Ag (by omega) (by omega),Bkc,Bpp,e1,e2,Af,Ck]
  generalize(l.getD i 0).toInt=X
  by_cases h1:X< -(hB bits)
  ·rw[if_pos (by simp;omega),if_pos (by simp;omega)]
  ·rw[if_neg (c:=decide (X<0-hB bits)=true) (by simp;omega)]
   by_cases h2:hB bits≤X
   ·rw[if_pos (by simp;omega),if_pos (by simp;omega)]
   ·rw[if_neg (by simp;omega),if_neg (by simp;omega)];exact ih
theorem Apa{bits:Int}(h:BitsOk bits)(l:List Int32)(hl:l.length≤4000):Rs bits l=cadenzaref18_Check bits l:=by
 have hh:=Aie bits
 rw[Rs,Aia,Bj8 h,Aa,cadenzaref18_Check,Ci,Aj8 h,Aa]
 simp only
 rw[if_neg (by rw[Aj];simp),if_neg (by rw[Ak,Ac];simp;omega),if_neg (by rw[Az];simp;omega),if_neg (by rw[Ak,Ac];simp;omega)]
 exact Bd7 h l hl l.length 0 Ao (by omega) (by have:=Al;omega)
theorem Bot{bits:Int}(h:BitsOk bits)(l:List Int32)(hl:l.length≤4000):∃e,cadenzaref18_Check bits l=some e:=by
 have hh:=Aie bits
 have key:∀(j i q:Nat),i+j=l.length→j<q→∃e,Ap l (hB bits) q (i:Int)=some e:=by
  intro j
  induction j with
  |zero=>
   intro i q hi hq
   obtain⟨q,rfl⟩:∃k,q=k+1:=⟨q-1,by omega⟩
   rw[Ap,Br,if_neg (by rw[Af,Ac];simp;omega)]
   exact⟨_,rfl⟩
  |succ j ih=>
   intro i q hi hq
   obtain⟨q,rfl⟩:∃k,q=k+1:=⟨q-1,by omega⟩
   rw[Ap,Br,if_pos (by rw[Af,Ac];simp;omega),g32 (by omega),Aa,Aa,Ag (by omega) (by omega)]
   split
   ·exact⟨_,rfl⟩
   ·split
    ·exact⟨_,rfl⟩
    ·exact ih (i+1) q (by omega) (by omega)
 obtain⟨e,he⟩:=key l.length 0 Ao (by omega) (by have:=Al;omega)
 rw[cadenzaref18_Check,Ci,Aj8 h,Aa,if_neg (by rw[Az];simp;omega),if_neg (by rw[Ak,Ac];simp;omega)]
 exact⟨e,he⟩
theorem Bj3{bits:Int}{ch:Nat}{t:List Int32}{v:List UInt32}(hb:BitsOk bits)(ht:t.length=16)(h1:1≤ch)(h6:ch≤6)(hv:v.length≤4000)(hm:v.length %ch=0):
  ∃l e,Mq (ch:Int) bits t v=some l∧Mr (ch:Int) bits l=some (if e≠0 then([],e)else(l,0))∧Pj (ch:Int) bits t v=some (if e≠0 then([],e)else(l,0))∧cadenzaref18_Check bits l=some e∧l.length=v.length:=by
 have hlen:=Aoq bits ch t v
 have hul:=An2 ch (smp bits ch t v)
 obtain⟨e,he⟩:=Bot hb (unm ch (smp bits ch t v)) (by omega)
 refine⟨unm ch (smp bits ch t v),e,Bhw hb ht h1 h6 hv hm,?_,?_,he,by omega⟩
 ·rw[Mr,he,Aa]
  by_cases h:e=0
  ·rw[if_neg (by rw[Aj];simpa using h),if_neg (by simpa using h)]
  ·rw[if_pos (by rw[Aj];simpa using h),if_pos h]
 ·rw[Buj hb ht h1 h6 hv,Jd,Af7,Cah ch _ h1 h6 (by rw[hlen];exact hm) (by omega),Aa]
  simp only
  rw[if_neg (by rw[Aj];simp),Apa hb _ (by omega),he,Aa]
  by_cases h:e=0
  ·rw[if_neg (by rw[Aj];simpa using h),if_neg (by simpa using h)]
  ·rw[if_pos (by rw[Aj];simpa using h),if_pos h]
end Go.Pl
set_option linter.unusedVariables false
set_option linter.unusedSimpArgs false
namespace Go.Pl
open Go Go.Lv
def Yj(s:Nat):Nat:=(s/2)^^^ (if s %2=1 then 3988292384 else 0)
theorem Bdm{s:Nat}(h:s<4294967296):Yj s<4294967296:=by
 unfold Yj
 exact Nat.xor_lt_two_pow (n:=32) (by simp;omega) (by split<;>decide)
theorem Bnz(x y:Nat):(x^^^y)/2=(x/2)^^^ (y/2):=by
 have:=Nat.shiftRight_xor_distrib (a:=x) (b:=y) (i:=1)
 simpa [Nat.shiftRight_eq_div_pow]using this
theorem Bug(x y:Nat):Yj (x^^^y)=Yj x^^^Yj y:=by
 have h:(x^^^y) %2=(x %2+y %2) %2:=by
  have:=Nat.xor_mod_two_eq_one (a:=x) (b:=y)
  have h1:(x^^^y) %2<2:=Nat.mod_lt _ (by omega)
  omega
 simp only[Yj,Bnz,h]
 have hx:x %2=0∨x %2=1:=by omega
 have hy:y %2=0∨y %2=1:=by omega
 rcases hx with hx|hx<;>rcases hy with hy|hy<;>simp only[hx,hy]<;>simp
 ·rw[Nat.xor_assoc]
 ·rw[Nat.xor_assoc,Nat.xor_comm (y/2),Nat.xor_assoc,Nat.xor_comm 3988292384 (y/2)]
 ·rw[Nat.xor_assoc,Nat.xor_comm 3988292384,Nat.xor_assoc,Nat.xor_self];simp
def Pr:Nat→Nat→Nat
 |0,s=>s
 |k+1,s=>Pr k (Yj s)
theorem Bg5:∀(k x y:Nat),Pr k (x^^^y)=Pr k x^^^Pr k y
 |0,_,_=>rfl
 |k+1,x,y=>by rw[Pr,Bug,Bg5 k];rfl
theorem Bh4:∀(k h:Nat),Pr k (2^k*h)=h
 |0,h=>by simp[Pr]
 |k+1,h=>by
  have:Yj (2^(k+1)*h)=2^k*h:=by
   rw[Nat.pow_succ,Nat.mul_comm (2^k) 2,Nat.mul_assoc,Yj,if_neg (by omega),Nat.mul_div_cancel_left _ (by omega)];simp
  rw[Pr,this,Bh4 k]
theorem Bfs:∀(k:Nat) {s:Nat},s<4294967296→Pr k s<4294967296
 |0,_,h=>h
 |k+1,_,h=>Bfs k (Bdm h)
def Akr(s c:Nat):Nat:=Pr 8 (s^^^c)
theorem Bf4{s c:Nat}(h:s<4294967296)(hc:c<256):Akr s c<4294967296:=Bfs 8 (Nat.xor_lt_two_pow (n:=32) (by simpa using h) (by simp;omega))
theorem Blb{s c:Nat}(hc:c<256):Akr s c=(s/256)^^^Pr 8 ((s %256)^^^c):=by
 have h:s=(2^8*(s/256))^^^ (s %256):=by
  have h1:s %256<2^8:=by simpa using Nat.mod_lt s (by omega:256>0)
  have:=Nat.two_pow_add_eq_or_of_lt h1 (s/256)
  have h2:2^8*(s/256)|||s %256=(2^8*(s/256))^^^ (s %256):=by
   apply Nat.eq_of_testBit_eq;intro i
   rw[Nat.testBit_or,Nat.testBit_xor]
   by_cases hi:i<8
   ·have:(2^8*(s/256)).testBit i=false:=by rw[Nat.testBit_two_pow_mul];simp;omega
    rw[this];simp
   ·have:(s %256).testBit i=false:=Nat.testBit_lt_two_pow (Nat.lt_of_lt_of_le h1 (Nat.pow_le_pow_right (by omega) (by omega)))
    rw[this];simp
  omega
 rw[Akr]
 conv=>lhs;rw[h]
 rw[Nat.xor_assoc,Bg5,Bh4]
def Anq(s:Nat)(l:List UInt8):Nat:=l.foldl (fun s c=>Akr s c.toNat) s
def Ca(b:List UInt8):UInt32:=4294967295-UInt32.ofNat (Anq 4294967295 b)
theorem Bzv(s:UInt32)(c:Nat)(hc:c<256):Zf s (Ae (Yb (UInt8.ofNat c) (2:UInt8)):Int)=some (UInt32.ofNat (s.toNat/2^^^ (if(s.toNat^^^c) %2=1 then 3988292384 else 0))):=by
 have h1:(Ae (Yb (UInt8.ofNat c) (2:UInt8)):Int)=((c %2:Nat):Int):=by
  rw[Ag8,Cbi,UInt8.toNat_mod,UInt8.toNat_ofNat']
  show((c %256 %2:Nat):Int)=_
  omega
 have h2:geq (Yb s (2:UInt32)) (1:UInt32)=decide (s.toNat %2=1):=by
  rw[Bjw,Bni,Bool.eq_iff_iff]
  simp only[beq_iff_eq,decide_eq_true_eq]
  rw[←UInt32.toNat_inj,UInt32.toNat_mod];rfl
 have h3:Bs s (2:UInt32)=UInt32.ofNat (s.toNat/2):=by
  apply UInt32.toNat_inj.1
  rw[Bkq,UInt32.toNat_div,UInt32.toNat_ofNat']
  show s.toNat/2=_
  have:=s.toNat_lt
  omega
 have h4:Nn (Bs s (2:UInt32)) (3988292384:UInt32)=UInt32.ofNat (s.toNat/2^^^3988292384):=by
  apply UInt32.toNat_inj.1
  rw[h3,Amu,UInt32.toNat_xor,UInt32.toNat_ofNat',UInt32.toNat_ofNat']
  have:=s.toNat_lt
  rw[Nat.mod_eq_of_lt (a:=s.toNat/2) (by omega),Nat.mod_eq_of_lt]
  ·rfl
  ·exact Nat.xor_lt_two_pow (n:=32) (by omega) (by decide)
 have hx:(s.toNat^^^c) %2=(s.toNat %2+c %2) %2:=by
  have:=Nat.xor_mod_two_eq_one (a:=s.toNat) (b:=c)
  have h1:(s.toNat^^^c) %2<2:=Nat.mod_lt _ (by omega)
  omega
 have hs:s.toNat %2=0∨s.toNat %2=1:=by omega
 have hc2:c %2=0∨c %2=1:=by omega
 rw[Zf,Aep,h1,h2,hx]
 rcases hs with hs|hs<;>rcases hc2 with hc2|hc2<;>simp[hs,hc2,Az,Adl,Aex,Amu,h3]
theorem Bab:∀(j i q:Nat) (s:UInt32) (c:Nat),i+j=8→j<q→c<2^j→Hz q s (UInt8.ofNat c) (i:Int)=some (UInt32.ofNat (Pr j (s.toNat^^^c)))
 |0,i,q+1,s,c,hi,_,hc=>by
  obtain rfl:i=8:=by omega
  obtain rfl:c=0:=by simpa using hc
  rw[Hz,Sf,if_neg (by rw[Af];simp),Ad9,Adq,Pr]
  simp
 |j+1,i,q+1,s,c,hi,hq,hc=>by
  have hc8:c<256:=Nat.lt_of_lt_of_le hc (show 2^(j+1)≤2^8 from Nat.pow_le_pow_right (by omega) (by omega))
  rw[Hz,Sf,if_pos (by rw[Af];simp;omega),Bzv s c hc8,Aa,Ag (by omega) (by omega)]
  have e:Bs (UInt8.ofNat c) (2:UInt8)=UInt8.ofNat (c/2):=by
   apply UInt8.toNat_inj.1
   rw[Cau,UInt8.toNat_div,UInt8.toNat_ofNat',UInt8.toNat_ofNat']
   show c %256/2=_
   omega
  rw[e]
  have h:=Bab j (i+1) q (UInt32.ofNat (s.toNat/2^^^ (if(s.toNat^^^c) %2=1 then 3988292384 else 0))) (c/2) (by omega) (by omega) (by rw[Nat.pow_succ]at hc;omega)
  rw[show((i:Int)+1)=((i+1:Nat):Int) by omega,h,UInt32.toNat_ofNat',Pr]
  congr 3
  have:=s.toNat_lt
  rw[Nat.mod_eq_of_lt,Yj,Bnz,Nat.xor_assoc,Nat.xor_assoc,Nat.xor_comm (c/2)]
  exact Nat.xor_lt_two_pow (n:=32) (by omega) (by split<;>decide)
theorem Cag(s:UInt32)(c:UInt8):Akj s c=some (UInt32.ofNat (Akr s.toNat c.toNat)):=by
 have h:=Bab 8 0 Ao s c.toNat (by omega) (by have:=Al;omega) (by simpa using c.toNat_lt)
 rw[UInt8.ofNat_toNat]at h
 exact h
theorem Avb(b:List UInt8)(hb:b.length<4611686018427387904):∀(j i q:Nat) (s:UInt32),i+j=b.length→j<q→Gp b q s (i:Int)=some (UInt32.ofNat (Anq s.toNat (b.drop i)))
 |0,i,q+1,s,hi,_=>by
  rw[Gp,Pf,if_neg (by rw[Af,Ac];simp;omega),show i=b.length by omega,List.drop_length]
  simp[Aar,Aad,Anq]
 |j+1,i,q+1,s,hi,hq=>by
  have hlt:i<b.length:=by omega
  rw[Gp,Pf,if_pos (by rw[Af,Ac];simp;omega),Bu hlt,Aa,Cag,Aa,Ag (by omega) (by omega)]
  have h:=Avb b hb j (i+1) q (UInt32.ofNat (Akr s.toNat b[i].toNat)) (by omega) (by omega)
  rw[show((i:Int)+1)=((i+1:Nat):Int) by omega,h,drop_cons hlt,UInt32.toNat_ofNat',Nat.mod_eq_of_lt (Bf4 s.toNat_lt b[i].toNat_lt)]
  rfl
theorem Bvy(b:List UInt8)(hb:b.length<4611686018427387904):Pn b=some (Ca b):=by
 have h:=Avb b hb b.length 0 Ao 4294967295 (by omega) (by have:=Al;omega)
 rw[Pn,Agf,Aa1,Yv,show((0:Int))=((0:Nat):Int)from rfl,h,Aa,Bc1];rfl
theorem Cce(c:UInt32):Nn (Bl c (GI.toZ (1:UInt64)).toNat) (Bg (3988292384:UInt32) (Cx c (1:UInt32)))=UInt32.ofNat (Yj c.toNat):=by
 apply UInt32.toNat_inj.1
 have e:(GI.toZ (1:UInt64)).toNat=1:=rfl
 have h1:(Bl c 1).toNat=c.toNat/2:=by rw[Aer]
 have h2:(Bg (3988292384:UInt32) (Cx c (1:UInt32))).toNat=if c.toNat %2=1 then 3988292384 else 0:=by
  rw[Byq,Bcm,UInt32.toNat_mul,UInt32.toNat_and]
  show 3988292384*(c.toNat&&&1) %4294967296=_
  rw[Nat.and_one_is_mod]
  have:c.toNat %2=0∨c.toNat %2=1:=by omega
  rcases this with h|h<;>simp[h]
 rw[e,Amu,UInt32.toNat_xor,h1,h2,UInt32.toNat_ofNat',Nat.mod_eq_of_lt (Bdm c.toNat_lt)];rfl
theorem Bmc(bk16:Int→List UInt32→Option (UInt32×Int))(s:UInt32)(b:List UInt8)(x:Int)(t:List UInt32):∀(j i q:Nat) (c:UInt32),i+j=8→j<q→
  Nb bk16 s b x t q c (i:Int)=Aa8 bk16 s b x (UInt32.ofNat (Pr j c.toNat)) t
 |0,i,q+1,c,hi,_=>by
  obtain rfl:i=8:=by omega
  rw[Nb,Yz,if_neg (by rw[Af];simp),Pr,UInt32.ofNat_toNat]
 |j+1,i,q+1,c,hi,hq=>by
  rw[Nb,Yz,if_pos (by rw[Af];simp;omega),Cce,Ag (by omega) (by omega),show((i:Int)+1)=((i+1:Nat):Int) by omega,Bmc bk16 s b x t j (i+1) q _ (by omega) (by omega),UInt32.toNat_ofNat',Nat.mod_eq_of_lt (Bdm c.toNat_lt)];rfl
def tbl(n:Nat):List UInt32:=(List.range n).map fun i=>UInt32.ofNat (Pr 8 i)
theorem Bq0(s:UInt32)(b:List UInt8):∀(j i q:Nat),i+j=256→j<q→Kg s b q (i:Int) (tbl i++List.replicate j 0)=Aa7 s b (tbl 256)
 |0,i,q+1,hi,_=>by
  obtain rfl:i=256:=by omega
  rw[Kg,Yn,if_neg (by rw[Af];simp)];simp
 |j+1,i,q+1,hi,hq=>by
  have hlen:(tbl i++List.replicate (j+1) 0).length=i+(j+1):=by simp[tbl]
  rw[Kg,Yn,if_pos (by rw[Af];simp;omega),Ai7]
  have h:=Bmc (Kg s b q) s b (i:Int) (tbl i++List.replicate (j+1) 0) 8 0 Ao (Ae (i:Int)) (by omega) (by have:=Al;omega)
  rw[show((0:Int))=((0:Nat):Int)from rfl,h,Aa8,Aid,Bu (by rw[hlen];omega),Aa,My _ (by rw[hlen];omega),Aa,Ahn,As9,Ag (by omega) (by omega)]
  have e:(Ae (i:Int):UInt32).toNat=i:=by rw[Bgs,UInt32.toNat_ofNat',Nat.mod_eq_of_lt (by omega)]
  rw[e,List.replicate_succ,Apo (by simp[tbl])]
  have h2:=Bq0 s b j (i+1) q (by omega) (by omega)
  have h3:tbl (i+1)=tbl i++[UInt32.ofNat (Pr 8 i)]:=by simp[tbl,List.range_succ]
  rw[h3]at h2
  rw[show((i:Int)+1)=((i+1:Nat):Int) by omega,←h2]
  simp
theorem Bz8{i:Nat}(h:i<256):getI (tbl 256) (i:Int)=some (UInt32.ofNat (Pr 8 i)):=by
 rw[Bu (by simpa [tbl]using h)];simp[tbl]
theorem Byv(s:UInt32)(c:UInt8):getI (tbl 256) (GI.toZ (Nn (Ae s:UInt8) c))=some (UInt32.ofNat (Pr 8 ((s.toNat %256)^^^c.toNat))):=by
 have e:GI.toZ (Nn (Ae s:UInt8) c)=(((s.toNat %256)^^^c.toNat:Nat):Int):=by
  rw[Wt,Biu,UInt8.toNat_xor,Awc,UInt8.toNat_ofNat']
 rw[e,Bz8]
 exact Nat.xor_lt_two_pow (n:=8) (by simp;omega) (by simpa using c.toNat_lt)
theorem Bsv(s:UInt32)(c:UInt8):Nn (Bl s (GI.toZ (8:UInt64)).toNat) (UInt32.ofNat (Pr 8 ((s.toNat %256)^^^c.toNat)))=UInt32.ofNat (Akr s.toNat c.toNat):=by
 apply UInt32.toNat_inj.1
 have hlt:Pr 8 ((s.toNat %256)^^^c.toNat)<4294967296:=Bfs 8 (Nat.xor_lt_two_pow (n:=32) (by simp;omega) (by have:=c.toNat_lt;simp;omega))
 have e:(GI.toZ (8:UInt64)).toNat=8:=rfl
 rw[e,Amu,UInt32.toNat_xor,Aer,UInt32.toNat_ofNat',UInt32.toNat_ofNat',Nat.mod_eq_of_lt hlt,Nat.mod_eq_of_lt (Bf4 s.toNat_lt c.toNat_lt),Blb c.toNat_lt]
theorem Bmr(b:List UInt8)(hb:b.length<4611686018427387904):∀(j i q:Nat) (s:UInt32),i+j=b.length→j<q→Nt b (tbl 256) q s (i:Int)=some (UInt32.ofNat (Anq s.toNat (b.drop i)),0)
 |0,i,q+1,s,hi,_=>by
  rw[Nt,Zu,if_neg (by rw[Af,Ac];simp;omega),show i=b.length by omega,List.drop_length]
  simp[Ahd,Arn,Anq]
 |j+1,i,q+1,s,hi,hq=>by
  have hlt:i<b.length:=by omega
  rw[Nt,Zu,if_pos (by rw[Af,Ac];simp;omega),Bu hlt,Aa,Byv,Aa,Aa,Bsv,Ag (by omega) (by omega)]
  have h:=Bmr b hb j (i+1) q (UInt32.ofNat (Akr s.toNat b[i].toNat)) (by omega) (by omega)
  rw[show((i:Int)+1)=((i+1:Nat):Int) by omega,h,drop_cons hlt,UInt32.toNat_ofNat',Nat.mod_eq_of_lt (Bf4 s.toNat_lt b[i].toNat_lt)]
  rfl
theorem Cbs(s:UInt32)(b:List UInt8)(hb:b.length≤100000):Aoe s b=some (UInt32.ofNat (Anq s.toNat b),0):=by
 have h:=Bq0 s b 256 0 Ao (by omega) (by have:=Al;omega)
 have h2:=Bmr b (by omega) b.length 0 Ao s (by omega) (by have:=Al;omega)
 rw[Aoe,Alu,if_neg (by rw[Ak,Ac];simp;omega),Aig]
 refine Eq.trans h ?_
 rw[Aa7,Ajl,Aiv,Ajf,Ahm]
 exact h2
theorem By8(a:UInt32):Bca a=4294967295-a:=by
 have h:=a.toNat_lt
 have e:Bca a=UInt32.ofNat (BitVec.ofInt 32 4294967295^^^BitVec.ofInt 32 (a.toNat:Int)).toNat:=Ds _
 apply UInt32.toNat_inj.1
 rw[e,UInt32.toNat_ofNat',UInt32.toNat_sub_of_le _ _ (by rw[UInt32.le_iff_toNat_le];show a.toNat≤4294967295;omega)]
 have h1:BitVec.ofInt 32 (a.toNat:Int)=a.toBitVec:=Bi3 a
 have h2:(BitVec.ofInt 32 4294967295:BitVec 32)=BitVec.allOnes 32:=by decide
 rw[h1,h2,BitVec.allOnes_xor,BitVec.toNat_not]
 show(4294967296-1-a.toNat) %4294967296=4294967295-a.toNat
 omega
theorem Az6(b:List UInt8)(hb:b.length≤100000):Sm b=some (Ca b,0):=by
 rw[Sm,Cbs _ _ hb,Aa]
 simp only[Aj,By8]
 rfl
end Go.Pl
set_option linter.unusedVariables false
set_option linter.unusedSimpArgs false
namespace Go.Pl
open Go Go.Lv
theorem Bjy:∀{l m:List UInt8},l.length=m.length→Dk l=Dk m→l=m
 |[],[],_,_=>rfl
 |x::l,y::m,h,e=>by
  simp only[Dk]at e
  have hx:=x.toNat_lt
  have hy:=y.toNat_lt
  have h1:x=y:=UInt8.toNat_inj.1 (by omega)
  rw[h1,Bjy (l:=l) (m:=m) (by simpa using h) (by omega)]
theorem Vs:∀(w n:Nat),Dk (Nx n w)=n %256^w
 |0,n=>by simp[Nx,Dk,Nat.mod_one]
 |w+1,n=>by
  rw[Nx,Dk,Vs w (n/256),UInt8.toNat_ofNat',show(256:Nat)^(w+1)=256*256^w by rw[Nat.pow_succ,Nat.mul_comm],Nat.mod_mul]
def Ky(b:List UInt8):Int:=
 if b.length<5 then 24 else if 41254<b.length then 4 else if(Ca (b.take (b.length-4))).toNat≠Dk (b.drop (b.length-4))then 22 else 0
theorem Bm4(b:List UInt8):Yu b=some (if Ky b≠0 then([],Ky b)else(b.take (b.length-4),0)):=by
 rw[Yu]
 by_cases h1:b.length<5
 ·have hS:Ky b=24:=by rw[Ky,if_pos h1]
  rw[if_pos (by rw[Af,Ac];simp;omega),hS];rfl
 rw[if_neg (by rw[Af,Ac];simp;omega)]
 by_cases h2:41254<b.length
 ·have hS:Ky b=4:=by rw[Ky,if_neg h1,if_pos h2]
  rw[if_pos (by rw[Ak,Ac];simp;omega),hS];rfl
 have e4:Ah (Ac b) 4=((b.length-4:Nat):Int):=by rw[Ac,Bb (by omega) (by omega)];omega
 have hd:(b.drop (b.length-4)).length=4:=by simp;omega
 rw[if_neg (by rw[Ak,Ac];simp;omega),e4,Jq (by omega) (by omega),Aa,show((b.length-4:Nat):Int).toNat=b.length-4 from rfl,Az6 _ (by simp;omega),Aa]
 simp only
 rw[if_neg (by rw[Aj];simp),Nk (by omega) (by omega),Aa,show((b.length-4:Nat):Int).toNat=b.length-4 from rfl,Bly _ (by omega) (by omega),Aa]
 have hne:Bf (leU (b.drop (b.length-4))) (Ae (Ca (b.take (b.length-4))):UInt64)=decide ((Ca (b.take (b.length-4))).toNat≠Dk (b.drop (b.length-4))):=by
  have hlt:=(Ca (b.take (b.length-4))).toNat_lt
  rw[Ag2,Bool.eq_iff_iff]
  simp only[bne_iff_ne,ne_eq,←UInt64.toNat_inj,decide_eq_true_eq]
  rw[Ak7 (by omega),Cd,UInt64.toNat_ofNat',Nat.mod_eq_of_lt (by omega)]
  exact⟨fun h e=>h e.symm,fun h e=>h e.symm⟩
 simp only
 rw[hne,Aa]
 by_cases h3:(Ca (b.take (b.length-4))).toNat≠Dk (b.drop (b.length-4))
 ·have hS:Ky b=22:=by rw[Ky,if_neg h1,if_neg h2,if_pos h3]
  rw[if_pos (by simp[h3]),hS];rfl
 ·have hS:Ky b=0:=by rw[Ky,if_neg h1,if_neg h2,if_neg h3]
  rw[if_neg (by rw[decide_eq_false h3];decide),hS];rfl
theorem Bth(b:List UInt8)(hb:b.length≤1000000):Ua b=some (b++Nx (Ca b).toNat 4):=by
 have h:∀k:Nat,(Ae (Bl (Ca b) k):UInt8)=UInt8.ofNat ((Ca b).toNat/2^k):=by
  intro k;rw[Awc,Aer]
 have h0:(Ae (Ca b):UInt8)=UInt8.ofNat (Ca b).toNat:=Awc _
 have h1:=h 8
 have h2:=h 16
 have h3:=h 24
 rw[Ua,Bvy b (by omega),Aa,Cg (by simp;omega),Aa,Cg (by simp;omega),Aa,h0,show(GI.toZ (8:UInt64)).toNat=8 from rfl,show(GI.toZ (16:UInt64)).toNat=16 from rfl,show(GI.toZ (24:UInt64)).toNat=24 from rfl,h1,h2,h3]
 simp only[Nx,Nat.div_div_eq_div_mul,List.nil_append]
theorem Awr(b:List UInt8):Mu b=some (Ky b):=by
 rw[Mu]
 by_cases h1:b.length<5
 ·rw[if_pos (by rw[Af,Ac];simp;omega),Ky,if_pos h1]
 rw[if_neg (by rw[Af,Ac];simp;omega)]
 by_cases h2:41254<b.length
 ·rw[if_pos (by rw[Ak,Ac];simp;omega),Ky,if_neg h1,if_pos h2]
 have e4:Ah (Ac b) 4=((b.length-4:Nat):Int):=by rw[Ac,Bb (by omega) (by omega)];omega
 have hd:(b.drop (b.length-4)).length=4:=by simp;omega
 rw[if_neg (by rw[Ak,Ac];simp;omega),e4,Jq (by omega) (by omega),Aa,show((b.length-4:Nat):Int).toNat=b.length-4 from rfl,Bth _ (by simp;omega),Aa]
 have hlt:=(Ca (b.take (b.length-4))).toNat_lt
 have hiff:(b.take (b.length-4)++Nx (Ca (b.take (b.length-4))).toNat 4 !=b)=decide ((Ca (b.take (b.length-4))).toNat≠Dk (b.drop (b.length-4))):=by
  rw[Bool.eq_iff_iff]
  simp only[bne_iff_ne,ne_eq,decide_eq_true_eq]
  constructor
  ·intro h e
   apply h
   have:Nx (Ca (b.take (b.length-4))).toNat 4=b.drop (b.length-4):=Bjy (by rw[Bk,hd]) (by rw[Vs,Nat.mod_eq_of_lt (by omega),e])
   rw[this,List.take_append_drop]
  ·intro h e
   apply h
   have hx:Nx (Ca (b.take (b.length-4))).toNat 4=b.drop (b.length-4):=by
    have e2:b.take (b.length-4)++Nx (Ca (b.take (b.length-4))).toNat 4=b.take (b.length-4)++b.drop (b.length-4):=by rw[e,List.take_append_drop]
    exact List.append_cancel_left e2
   rw[←hx,Vs,Nat.mod_eq_of_lt (by omega)]
 rw[hiff]
 by_cases h3:(Ca (b.take (b.length-4))).toNat≠Dk (b.drop (b.length-4))
 ·rw[if_pos (by simp[h3]),Ky,if_neg h1,if_neg h2,if_pos h3]
 ·rw[if_neg (by rw[decide_eq_false h3];decide),Ky,if_neg h1,if_neg h2,if_neg h3]
theorem Bmm{b:List UInt8}(h:Ky b=0):5≤b.length∧b.length≤41254:=by
 unfold Ky at h
 split at h
 ·simp at h
 ·split at h
  ·simp at h
  ·omega
theorem Bbw{c:Nat}(h1:1≤c)(h6:c≤6):Bs (4000:Int) (c:Int)=((4000/c:Nat):Int):=by
 have:c=1∨c=2∨c=3∨c=4∨c=5∨c=6:=by omega
 rcases this with rfl|rfl|rfl|rfl|rfl|rfl<;>rfl
theorem Ca1(p:List UInt8)(h:p.length≤41250):okB p (8*p.length):=⟨by omega,by omega,fun k h1 h2=>by omega⟩
theorem Akh{bits:Int}{ch n:Nat}{t:List Int32}(b:List UInt8)(hb:BitsOk bits)(ht:t.length=16)(h1:1≤ch)(h6:ch≤6)(n1:1≤n)(n2:n≤4000/ch):
  ∃l e,deframe_Decode (ch:Int) bits t (n:Int) b=some (l,e)∧cadenzaref21_Decode (ch:Int) bits t (n:Int) b=some (l,e)∧(e=0→cadenzaref18_Check bits l=some 0∧l.length≤4000∧l.length=n*ch)∧(e≠0→l=[]):=by
 have hn:n*ch≤4000:=by
  have:=Nat.mul_le_mul_right ch n2
  have h2:=Nat.div_mul_le_self 4000 ch
  omega
 have hq4:=Bbw h1 h6
 generalize 4000/ch=mm at*
 have hck:Ep (ch:Int) bits=some 0:=by
  have hr:∃x y,Ny bits=some (x,y,0):=⟨_,_,Bj8 hb⟩
  obtain⟨x,y,hr⟩:=hr
  rw[Ep,hr,Aa]
  simp only
  rw[if_neg (by simp[Aj,Af,Ak];omega)]
 have hh:=Aie bits
 have hasked:Ch (ch:Int) bits (n:Int)=some 0:=by
  rw[Ch,By,if_neg (by simp[Af,Ak];omega),Aj8 hb,Aa,if_neg (by rw[Az];simp;omega),Aa,if_neg (by simp[Aj,Af];omega),Ay (by rw[Aj];simp;omega),Aa,hq4,if_neg (by rw[Ak];simp;omega)]
 rw[deframe_Decode,cadenzaref21_Decode,Jl,hck,hasked,Aa,Aa,if_neg (by rw[Aj];simp),if_neg (by rw[Af];simp;omega),Ay (by rw[Aj];simp;omega),Aa,hq4,if_neg (by rw[Ak];simp;omega),if_neg (by rw[Aj];simp),Bm4,Awr]
 by_cases hs:Ky b≠0
 ·rw[if_pos hs]
  simp only[Aa]
  rw[if_pos (by rw[Aj];simpa using hs),if_pos (by rw[Aj];simpa using hs)]
  exact⟨[],Ky b,rfl,rfl,fun e=>absurd e hs,fun _=>rfl⟩
 have hs0:Ky b=0:=by simpa using hs
 have hlen:=Bmm hs0
 have e4:Ah (Ac b) 4=((b.length-4:Nat):Int):=by rw[Ac,Bb (by omega) (by omega)];omega
 rw[if_neg hs,hs0]
 simp only[Aa]
 rw[if_neg (by rw[Aj];simp),if_neg (by rw[Aj];simp),e4,Jq (by omega) (by omega),Aa,show((b.length-4:Nat):Int).toNat=b.length-4 from rfl]
 have hpl:(b.take (b.length-4)).length=b.length-4:=by simp
 generalize b.take (b.length-4)=p at*
 have e8:Bg (8:Int) (Ac p)=((8*p.length:Nat):Int):=by rw[Ac,Gn (by omega) (by omega)];omega
 have hp:=Ca1 p (by omega)
 have hv:=values_eq hp h1 h6 hn
 have hr:=Bq3 (N:=8*p.length) (p:=p) rfl (by omega) h1 h6 hn
 have hat:=Bit (ch:=ch) (p:=p) (N:=8*p.length) (n*ch) 0 [] (by omega)
 rw[Bil,if_neg (by rw[Ak,Ac];simp;omega),Dg,Cg (by simp;omega),Aa,Aa,Aa,List.nil_append,e8]
 simp only
 rw[if_neg (by rw[Aj];simp),hv,hr,Aa,Aa]
 generalize Ta ch p (8*p.length) (n*ch) 0 []=V at*
 obtain⟨v,at',e⟩:=V
 simp only at*
 by_cases he:e≠0
 ·rw[if_pos he,if_pos he]
  simp only
  rw[if_pos (by rw[Aj];simpa using he),Jj,Jg,if_pos (by rw[Aj];simpa using he)]
  exact⟨[],e,rfl,rfl,fun h=>absurd h he,fun _=>rfl⟩
 have he0:e=0:=by simpa using he
 have hvl:=hat.2.2 he0
 simp only[List.length_nil,Nat.zero_add]at hvl
 rw[if_neg he,if_neg he]
 simp only
 rw[if_neg (by rw[Aj];simp),Bb (by omega) (by omega),show((8*p.length:Nat):Int)-(at':Int)=((8*p.length-at':Nat):Int) by omega,Jj,Jg]
 by_cases h7:7<8*p.length-at'
 ·have hE:(if 7<8*p.length-at'∨Bd p at' (8*p.length-at')≠0 then(12:Int)else 0)=12:=if_pos (.inl h7)
  rw[if_pos (by rw[Ck];simp;omega),hE,if_pos (by decide)]
  exact⟨[],12,rfl,rfl,fun h=>absurd h (by decide),fun _=>rfl⟩
 rw[if_neg (by rw[Ck];simp;omega),Azz hp at' _ (by omega),if_neg (by omega),Aa]
 have hz:Bf (Kx p at' (8*p.length-at')) (0:UInt64)=decide (Bd p at' (8*p.length-at')≠0):=by
  rw[Ag2,Bool.eq_iff_iff]
  simp only[bne_iff_ne,ne_eq,←UInt64.toNat_inj,decide_eq_true_eq]
  rw[Rv p _ _ (by omega)];rfl
 simp only
 rw[hz]
 by_cases hv0:Bd p at' (8*p.length-at')≠0
 ·have hE:(if 7<8*p.length-at'∨Bd p at' (8*p.length-at')≠0 then(12:Int)else 0)=12:=if_pos (.inr hv0)
  rw[if_pos (by simp[hv0]),hE,if_pos (by decide)]
  exact⟨[],12,rfl,rfl,fun h=>absurd h (by decide),fun _=>rfl⟩
 have hm:v.length %ch=0:=by rw[hvl];exact Nat.mul_mod_left n ch
 obtain⟨l,e,g1,g2,g3,g4,g5⟩:=Bj3 (v:=v) hb ht h1 h6 (by omega) hm
 have hE:(if 7<8*p.length-at'∨Bd p at' (8*p.length-at')≠0 then(12:Int)else 0)=0:=if_neg (by omega)
 rw[if_neg (by rw[decide_eq_false hv0];decide),hE,if_neg (by decide),g1,g3,Aa,Aa,g2]
 by_cases hl:e≠0
 ·rw[if_pos hl]
  exact⟨[],e,rfl,rfl,fun h=>absurd h hl,fun _=>rfl⟩
 ·rw[if_neg hl]
  have hl0:e=0:=by simpa using hl
  exact⟨l,0,rfl,rfl,fun _=>⟨by rw[g4,hl0],by omega,by omega⟩,fun e=>absurd rfl e⟩
end Go.Pl
set_option linter.unusedVariables false
set_option linter.unusedSimpArgs false
namespace Go.Pl
open Go Go.Lv
theorem Bxr(a b:Int32):a-(a-b)=b:=by
 apply Int32.toBitVec_inj.1
 simp only[Int32.toBitVec_sub]
 apply BitVec.eq_of_toNat_eq
 simp only[BitVec.toNat_sub]
 have:=a.toBitVec.isLt
 have:=b.toBitVec.isLt
 omega
theorem Akk(a b:Int32):a-b+b=a:=by
 apply Int32.toBitVec_inj.1
 simp only[Int32.toBitVec_sub,Int32.toBitVec_add]
 apply BitVec.eq_of_toNat_eq
 simp only[BitVec.toNat_sub,BitVec.toNat_add]
 have:=a.toBitVec.isLt
 have:=b.toBitVec.isLt
 omega
def mxV(f:Nat→Int32)(ch i:Nat):Int32:=if i+1<ch then f (i+1)-f i else if 1<ch then f (ch-1)-Bs (f (ch-1)-f (ch-2)) (2:Int32)else f (ch-1)
theorem Bx8{f g:Nat→Int32}{ch:Nat}(h1:1≤ch)(h:∀i,i<ch→f i=mxV g ch i):∀j,j<ch→unV f ch j=g (ch-1-j)
 |0,_=>by
  rw[unV]
  by_cases h2:1<ch
  ·rw[if_pos h2,h (ch-1) (by omega),h (ch-2) (by omega),mxV,mxV,if_neg (by omega),if_pos h2,if_pos (by omega),show ch-2+1=ch-1 by omega,Akk,Nat.sub_zero]
  ·rw[if_neg h2,h (ch-1) (by omega),mxV,if_neg (by omega),if_neg h2,Nat.sub_zero]
 |j+1,hj=>by
  rw[unV,Bx8 h1 h j (by omega),h (ch-2-j) (by omega),mxV,if_pos (by omega),show ch-2-j+1=ch-1-j by omega,Bxr]
  congr 1;omega
def mx(ch:Nat)(x:List Int32):List Int32:=(List.range x.length).map fun k=>mxV (fun i=>x.getD (k-k %ch+i) 0) ch (k %ch)
theorem Ait(ch:Nat)(x:List Int32):(mx ch x).length=x.length:=by simp[mx]
theorem Bxl{ch:Nat}{x:List Int32}{k:Nat}(h:k<x.length):(mx ch x).getD k 0=mxV (fun i=>x.getD (k-k %ch+i) 0) ch (k %ch):=by
 rw[Gi (by rw[Ait];exact h)];simp[mx]
theorem Cdp{ch:Nat}{x:List Int32}(h1:1≤ch)(hm:x.length %ch=0):unm ch (mx ch x)=x:=by
 apply List.ext_getElem (by rw[An2,Ait])
 intro k hk1 hk2
 have hr:=Nat.mod_lt k (show 0<ch by omega)
 have hle:=Nat.mod_le k ch
 have ha:(k-k %ch) %ch=0:=Nat.mod_eq_zero_of_dvd (Nat.dvd_sub_mod k)
 have hb:=Axf ha hm (by omega)
 have e:=Ayn (m:=mx ch x) ha hr (by rw[Ait];omega)
 rw[show k-k %ch+k %ch=k by omega]at e
 rw[←Gi hk1,←Gi hk2,e]
 rw[Bx8 (g:=fun i=>x.getD (k-k %ch+i) 0) h1 (fun i hi=>?_) (ch-1-k %ch) (by omega)]
 ·congr 1;omega
 ·rw[Bxl (by omega)]
  have h2:(k-k %ch+i) %ch=i:=by rw[Nat.add_mod,ha,Nat.zero_add,Nat.mod_mod,Nat.mod_eq_of_lt hi]
  rw[h2,show k-k %ch+i-i=k-k %ch by omega]
def Ark(x:Int32):UInt32:=UInt32.ofNat (if 0≤x.toInt then 2*x.toInt.toNat else 2*(-x.toInt-1).toNat+1)
theorem Byb(x:Int32):Aij (Ark x)=x:=by
 have h:=Uj x
 have e:(Ark x).toNat=if 0≤x.toInt then 2*x.toInt.toNat else 2*(-x.toInt-1).toNat+1:=by
  rw[Ark,UInt32.toNat_ofNat']
  split<;>exact Nat.mod_eq_of_lt (by omega)
 rw[Aij,e]
 by_cases h0:0≤x.toInt
 ·rw[if_pos h0,if_pos (by omega),show((2*x.toInt.toNat/2:Nat):Int)=x.toInt by omega,Int32.ofInt_toInt]
 ·rw[if_neg h0,if_neg (by omega),show -(((2*(-x.toInt-1).toNat+1)/2:Nat):Int)-1=x.toInt by omega,Int32.ofInt_toInt]
theorem Bgx{α:Type}(ch c:Nat)(f g:α→Nat→α)(a0:α):∀m:Nat,(∀i,i<m→∀a,f a i=g a i)→pre ch c f a0 m=pre ch c g a0 m
 |0,_=>rfl
 |m+1,h=>by
  rw[pre,pre,Bgx ch c f g a0 m fun i hi=>h i (by omega),h m (by omega)]
theorem Br5(bits:Int)(ch:Nat)(t:List Int32)(v w:List UInt32)(c i:Nat)(h:i≤v.length):cst bits ch t (v++w) c i=cst bits ch t v c i:=by
 unfold cst
 apply Bgx
 intro j hj a
 have:(v++w).getD j 0=v.getD j 0:=by
  rw[List.getD_eq_getElem?_getD,List.getD_eq_getElem?_getD,List.getElem?_append_left (by omega)]
 rw[this]
def Bbl(bits:Int)(s:CS)(x:Int32):Int32:=x-gs (shB bits) s.1-gF (sB bits) s.2.1 s.2.2
theorem Bgw(bits:Int)(s:CS)(x:Int32):Bmi bits s (Bbl bits s x)=x:=by
 rw[Bmi,Bbl,Akk,Akk]
def evl(bits:Int)(ch:Nat)(t m:List Int32):Nat→List UInt32
 |0=>[]
 |i+1=>evl bits ch t m i++[Ark (Bbl bits (cst bits ch t (evl bits ch t m i) (i %ch) i) (m.getD i 0))]
theorem Auc(bits:Int)(ch:Nat)(t m:List Int32):∀i,(evl bits ch t m i).length=i
 |0=>rfl
 |i+1=>by rw[evl,List.length_append,Auc bits ch t m i];rfl
theorem Bis(bits:Int)(ch:Nat)(t m:List Int32):∀(j i:Nat),∃w,evl bits ch t m (i+j)=evl bits ch t m i++w
 |0,i=>⟨[],by simp⟩
 |j+1,i=>by
  obtain⟨w,hw⟩:=Bis bits ch t m j i
  rw[←Nat.add_assoc,evl,hw]
  exact⟨_,List.append_assoc _ _ _⟩
theorem Bzx(bits:Int)(ch:Nat)(t m:List Int32):smp bits ch t (evl bits ch t m m.length)=m:=by
 have hl:=Auc bits ch t m m.length
 apply List.ext_getElem (by rw[Aoq,hl])
 intro i h1 h2
 rw[←Gi h1,←Gi h2,Bju _ _ _ _ (by omega)]
 obtain⟨w,hw⟩:=Bis bits ch t m (m.length-(i+1)) (i+1)
 rw[show i+1+(m.length-(i+1))=m.length by omega,evl,List.append_assoc]at hw
 have hli:=Auc bits ch t m i
 rw[hw,Br5 _ _ _ _ _ _ _ (by omega)]
 have hg:(evl bits ch t m i++([Ark (Bbl bits (cst bits ch t (evl bits ch t m i) (i %ch) i) (m.getD i 0))]++w)).getD i 0=Ark (Bbl bits (cst bits ch t (evl bits ch t m i) (i %ch) i) (m.getD i 0)):=by
  rw[List.getD_eq_getElem?_getD,List.getElem?_append_right (by omega),hli,Nat.sub_self];rfl
 rw[hg,Byb,Bgw]
end Go.Pl
set_option linter.unusedVariables false
set_option linter.unusedSimpArgs false
namespace Go.Pl
open Go Go.Lv
def tb(l:List Bool)(k:Nat):Nat:=if l.getD k false=true then 1 else 0
theorem Bsc(b:Bool)(l:List Bool):tb (b::l) 0=if b=true then 1 else 0:=rfl
theorem Bsh(b:Bool)(l:List Bool)(k:Nat):tb (b::l) (k+1)=tb l k:=by simp[tb]
theorem Bqr{a b:List Bool}{k:Nat}(h:k<a.length):tb (a++b) k=tb a k:=by
 rw[tb,tb,List.getD_eq_getElem?_getD,List.getD_eq_getElem?_getD,List.getElem?_append_left h]
theorem Bjo(a b:List Bool)(k:Nat):tb (a++b) (a.length+k)=tb b k:=by
 rw[tb,tb,List.getD_eq_getElem?_getD,List.getD_eq_getElem?_getD,List.getElem?_append_right (by omega),Nat.add_sub_cancel_left]
theorem Bj5{l:List Bool}{k:Nat}(h:l.length≤k):tb l k=0:=by
 rw[tb,List.getD_eq_getElem?_getD,List.getElem?_eq_none h];rfl
def At(p:List UInt8)(a:Nat)(c:List Bool):Prop:=∀i,i<c.length→Et p (a+i)=tb c i
theorem At.left{p:List UInt8}{a:Nat}{c d:List Bool}(h:At p a (c++d)):At p a c:=fun i hi=>by
 rw[h i (by rw[List.length_append];omega),Bqr hi]
theorem At.right{p:List UInt8}{a:Nat}{c d:List Bool}(h:At p a (c++d)):At p (a+c.length) d:=fun i hi=>by
 rw[Nat.add_assoc,h (c.length+i) (by rw[List.length_append];omega),Bjo]
theorem At.cons{p:List UInt8}{a:Nat}{b:Bool}{c:List Bool}(h:At p a (b::c)):Et p a=(if b=true then 1 else 0)∧At p (a+1) c:=by
 have h0:=h 0 (by simp)
 rw[Nat.add_zero,Bsc]at h0
 refine⟨h0,fun i hi=>?_⟩
 have:=h (i+1) (by simp;omega)
 rw[Bsh]at this
 rw[show a+1+i=a+(i+1) by omega,this]
def Ap7:Nat→Nat→List Bool
 |_,0=>[]
 |v,n+1=>decide (v %2=1)::Ap7 (v/2) n
theorem Nu:∀(v n:Nat),(Ap7 v n).length=n
 |_,0=>rfl
 |v,n+1=>by rw[Ap7,List.length_cons,Nu (v/2) n]
theorem Acq(p:List UInt8):∀(n a v:Nat),At p a (Ap7 v n)→Bd p a n=v %2^n
 |0,a,v,_=>by rw[Bd,Nat.pow_zero,Nat.mod_one]
 |n+1,a,v,h=>by
  rw[Ap7]at h
  obtain⟨h0,h1⟩:=h.cons
  rw[Bd,h0,Acq p n (a+1) (v/2) h1,Nat.pow_succ,Nat.mul_comm (2^n) 2,Nat.mod_mul]
  have:=Nat.mod_two_eq_zero_or_one v
  rcases this with e|e<;>simp[e]
theorem Bci(p:List UInt8):∀(q m a:Nat) (c:List Bool),At p a (List.replicate q true++c)→q≤m→Ee p a m=q+Ee p (a+q) (m-q)
 |0,m,a,c,h,hm=>by simp
 |q+1,m,a,c,h,hm=>by
  rw[List.replicate_succ,List.cons_append]at h
  obtain⟨h0,h1⟩:=h.cons
  obtain⟨m,rfl⟩:∃k,m=k+1:=⟨m-1,by omega⟩
  rw[Ee,if_pos (by rw[h0];rfl),Bci p q m (a+1) c h1 (by omega),show a+1+q=a+(q+1) by omega,show m+1-(q+1)=m-q by omega]
  omega
theorem Bz2{p:List UInt8}{a m:Nat}(h:Et p a=0):Ee p a m=0:=by
 cases m with
 |zero=>rfl
 |succ m=>rw[Ee,if_neg (by omega)]
def Ai1(l v:Nat):List Bool:=if 48≤v/2^l then List.replicate 48 true++Ap7 v 32 else List.replicate (v/2^l) true++(false::Ap7 (v %2^l) l)
theorem Btz{l v:Nat}(hl:l≤24):1≤(Ai1 l v).length∧(Ai1 l v).length≤80:=by
 rw[Ai1]
 generalize v/2^l=q
 split
 ·rw[List.length_append,List.length_replicate,Nu];omega
 ·rw[List.length_append,List.length_replicate,List.length_cons,Nu];omega
theorem Bu4{p:List UInt8}{N a l v:Nat}(hl:l≤24)(hv:v<2^32)(h:At p a (Ai1 l v))(hN:a+(Ai1 l v).length≤N):rcS p N a l=(UInt32.ofNat v,((a+(Ai1 l v).length:Nat):Int),0):=by
 rw[Ai1]at h hN⊢
 by_cases h48:48≤v/2^l
 ·rw[if_pos h48]at h hN⊢
  rw[List.length_append,List.length_replicate,Nu]at hN⊢
  have hm:min 48 (N-a)=48:=by omega
  have ho:=Bci p 48 48 a (Ap7 v 32) h (Nat.le_refl _)
  rw[Nat.sub_self,Ee,Nat.add_zero]at ho
  have hr:=h.right
  rw[List.length_replicate]at hr
  have hval:=Acq p 32 (a+48) v hr
  rw[Nat.mod_eq_of_lt hv]at hval
  rw[rcS,if_neg (by omega),hm,ho,if_neg (by omega),if_pos rfl,if_neg (by omega),hval,if_neg (by omega)]
 ·rw[if_neg h48]at h hN⊢
  rw[List.length_append,List.length_replicate,List.length_cons,Nu]at hN⊢
  generalize hq:v/2^l=q at*
  have hr:=h.right
  rw[List.length_replicate]at hr
  obtain⟨h0,h1⟩:=hr.cons
  have hm:q<min 48 (N-a):=by omega
  have ho:=Bci p q (min 48 (N-a)) a _ h (by omega)
  rw[Bz2 (a:=a+q) (m:=min 48 (N-a)-q) (by rw[h0];rfl),Nat.add_zero]at ho
  have hval:=Acq p l (a+q+1) (v %2^l) h1
  rw[Nat.mod_mod]at hval
  have hdm:=Nat.div_add_mod v (2^l)
  rw[hq,Nat.mul_comm]at hdm
  rw[rcS,if_neg (by omega),ho,if_pos hm,if_neg (by omega),hval,hdm,show a+q+1+l=a+(q+(l+1)) by omega]
def Mm(k l:Nat)(v:UInt32):List Bool:=if v.toNat<2^k then false::Ap7 v.toNat k else true::Ai1 l (v.toNat-2^k)
theorem Amv{k l:Nat}(v:UInt32)(hk:k≤24)(hl:l≤24):1≤(Mm k l v).length∧(Mm k l v).length≤81:=by
 have:=Btz (v:=v.toNat-2^k) hl
 rw[Mm]
 split
 ·rw[List.length_cons,Nu];omega
 ·rw[List.length_cons];omega
theorem Btm{p:List UInt8}{N a k l:Nat}{v:UInt32}(hk:k≤24)(hl:l≤24)(h:At p a (Mm k l v))(hN:a+(Mm k l v).length≤N):dgS p N a k l=(v,((a+(Mm k l v).length:Nat):Int),0):=by
 have hvlt:=v.toNat_lt
 have hof:UInt32.ofNat v.toNat=v:=by simp
 rw[Mm]at h hN⊢
 by_cases hs:v.toNat<2^k
 ·rw[if_pos hs]at h hN⊢
  rw[List.length_cons,Nu]at hN⊢
  obtain⟨h0,h1⟩:=h.cons
  have hval:=Acq p k (a+1) v.toNat h1
  rw[Nat.mod_eq_of_lt hs]at hval
  rw[dgS,if_neg (by omega),if_pos (by rw[h0];rfl),if_neg (by omega),hval,hof,show a+1+k=a+(k+1) by omega]
 ·rw[if_neg hs]at h hN⊢
  rw[List.length_cons]at hN⊢
  obtain⟨h0,h1⟩:=h.cons
  have hsub:=Nat.sub_le v.toNat (2^k)
  have hr:=Bu4 hl (by omega:v.toNat-2^k<2^32) h1 (by omega:a+1+_≤N)
  have ht:(UInt32.ofNat (v.toNat-2^k)).toNat=v.toNat-2^k:=by rw[UInt32.toNat_ofNat'];exact Nat.mod_eq_of_lt (by omega)
  rw[dgS,if_neg (by omega),if_neg (by rw[h0];decide),hr]
  simp only
  rw[if_neg (by decide),ht,if_neg (by omega),show v.toNat-2^k+2^k=v.toNat by omega,hof,show a+1+(Ai1 l (v.toNat-2^k)).length=a+((Ai1 l (v.toNat-2^k)).length+1) by omega]
def bv:List Bool→Nat
 |[]=>0
 |b::r=>(if b=true then 1 else 0)+2*bv r
theorem Cc0:∀l:List Bool,bv l<2^l.length
 |[]=>by decide
 |b::r=>by
  have:=Cc0 r
  rw[bv,List.length_cons,Nat.pow_succ]
  split<;>omega
theorem Bxx:∀(l:List Bool) (k:Nat),bv l/2^k %2=tb l k
 |[],k=>by simp[bv,tb]
 |b::r,0=>by
  rw[bv,Bsc,Nat.pow_zero,Nat.div_one]
  split<;>omega
 |b::r,k+1=>by
  have:((if b=true then 1 else 0)+2*bv r)/2=bv r:=by split<;>omega
  rw[bv,Bsh,Nat.pow_succ,Nat.mul_comm (2^k) 2,←Nat.div_div_eq_div_mul,this,Bxx r k]
def Hw(c:List Bool):List UInt8:=(List.range ((c.length+7)/8)).map fun j=>UInt8.ofNat (bv ((c.drop (8*j)).take 8))
theorem Sr(c:List Bool):(Hw c).length=(c.length+7)/8:=by simp[Hw]
theorem Xx(c:List Bool)(i:Nat):Et (Hw c) i=tb c i:=by
 rw[Et]
 by_cases h:i/8<(c.length+7)/8
 ·have hg:(Hw c).getD (i/8) 0=UInt8.ofNat (bv ((c.drop (8*(i/8))).take 8)):=by
   rw[List.getD_eq_getElem?_getD,List.getElem?_eq_getElem (by rw[Sr];exact h)]
   simp[Hw]
  have hlt:=Cc0 ((c.drop (8*(i/8))).take 8)
  have hl8:((c.drop (8*(i/8))).take 8).length≤8:=by rw[List.length_take];omega
  have hp:=Nat.pow_le_pow_right (show 0<2 by omega) hl8
  have hn:(UInt8.ofNat (bv ((c.drop (8*(i/8))).take 8))).toNat=bv ((c.drop (8*(i/8))).take 8):=by
   rw[UInt8.toNat_ofNat'];exact Nat.mod_eq_of_lt (by omega)
  rw[hg,hn,Bxx,tb,tb]
  have:((c.drop (8*(i/8))).take 8).getD (i %8) false=c.getD i false:=by
   rw[List.getD_eq_getElem?_getD,List.getD_eq_getElem?_getD,List.getElem?_take,if_pos (by omega),List.getElem?_drop,show 8*(i/8)+i %8=i by omega]
  rw[this]
 ·have hg:(Hw c).getD (i/8) 0=0:=by
   rw[List.getD_eq_getElem?_getD,List.getElem?_eq_none (by rw[Sr];omega)];rfl
  rw[hg,Bj5 (by omega)]
  simp
def Mc(ch:Nat)(V:List UInt32):Nat→List Bool
 |0=>[]
 |i+1=>Mc ch V i++Mm (now ch (V.take i)).1 (now ch (V.take i)).2.1 (V.getD i 0)
theorem Bip(ch:Nat)(v:List UInt32):(now ch v).1≤24∧(now ch v).2.1≤24:=by
 have:=As6 ch v (v.length %ch) v.length
 exact⟨this.1,this.2.1⟩
theorem Bn7(ch:Nat)(V:List UInt32):∀(j i:Nat),∃w,Mc ch V (i+j)=Mc ch V i++w
 |0,i=>⟨[],by simp⟩
 |j+1,i=>by
  obtain⟨w,hw⟩:=Bn7 ch V j i
  rw[←Nat.add_assoc,Mc,hw]
  exact⟨_,List.append_assoc _ _ _⟩
theorem Asl(ch:Nat)(V:List UInt32):∀i,(Mc ch V i).length≤81*i
 |0=>by simp[Mc]
 |i+1=>by
  have h:=Bip ch (V.take i)
  have:=Amv (V.getD i 0) h.1 h.2
  rw[Mc,List.length_append]
  have:=Asl ch V i
  omega
theorem Bg0(ch:Nat)(V:List UInt32)(N:Nat)(hN:(Mc ch V V.length).length≤N):∀(j i:Nat),i+j=V.length→Ta ch (Hw (Mc ch V V.length)) N j (Mc ch V i).length (V.take i)=(V,(Mc ch V V.length).length,0)
 |0,i,h=>by
  obtain rfl:i=V.length:=by omega
  rw[Ta,List.take_length]
 |j+1,i,h=>by
  obtain⟨w,hw⟩:=Bn7 ch V j (i+1)
  rw[show i+1+j=V.length by omega]at hw
  have hk:=Bip ch (V.take i)
  have hcl:=Amv (V.getD i 0) hk.1 hk.2
  have hAt:At (Hw (Mc ch V V.length)) (Mc ch V i).length (Mm (now ch (V.take i)).1 (now ch (V.take i)).2.1 (V.getD i 0)):=by
   intro m hm
   rw[Xx,hw,Mc,List.append_assoc,Bjo,Bqr hm]
  have hlen:(Mc ch V i).length+(Mm (now ch (V.take i)).1 (now ch (V.take i)).2.1 (V.getD i 0)).length≤(Mc ch V V.length).length:=by
   rw[hw,Mc,List.length_append,List.length_append];omega
  have ih:=Bg0 ch V N hN j (i+1) (by omega)
  rw[Mc,List.length_append]at ih
  generalize Hw (Mc ch V V.length)=p at*
  generalize(Mc ch V i).length=a at*
  have hw2:(Mm (now ch (V.take i)).1 (now ch (V.take i)).2.1 (V.getD i 0)).length≤win N a:=by unfold win;omega
  have hAt2:At (Lq p a (win N a)) 0 (Mm (now ch (V.take i)).1 (now ch (V.take i)).2.1 (V.getD i 0)):=by
   intro m hm
   rw[Nat.zero_add,Ayr,if_pos (by omega),hAt m hm]
  have hb:=Btm hk.1 hk.2 hAt2 (by omega:0+_≤win N a)
  have hcode:Iw ch p N a (V.take i)=(V.getD i 0,((0+(Mm (now ch (V.take i)).1 (now ch (V.take i)).2.1 (V.getD i 0)).length:Nat):Int),0):=hb
  rw[Ta,hcode]
  simp only
  rw[if_neg (by decide),Nat.zero_add,Int.toNat_natCast]
  have ht:V.take i++[V.getD i 0]=V.take (i+1):=by
   have hg:V.getD i 0=V[i]:=by rw[List.getD_eq_getElem?_getD,List.getElem?_eq_getElem (by omega)];rfl
   rw[hg,Jw (by omega)]
  rw[ht]
  exact ih
end Go.Pl
set_option linter.unusedVariables false
set_option linter.unusedSimpArgs false
namespace Go.Pl
open Go Go.Lv
def P64:Nat:=4823603603198064275
def Afw(s:Nat):Nat:=(2*s %18446744073709551616)^^^ (s/9223372036854775808*P64)
theorem Am4{s:Nat}(h:s<18446744073709551616):Afw s<18446744073709551616:=by
 have h1:s/9223372036854775808=0∨s/9223372036854775808=1:=by omega
 exact Nat.xor_lt_two_pow (n:=64) (Nat.mod_lt _ (by decide)) (by rcases h1 with e|e<;>rw[e]<;>decide)
theorem Br4(x y:Nat):(x^^^y)/9223372036854775808=(x/9223372036854775808)^^^ (y/9223372036854775808):=by
 have:=Nat.shiftRight_xor_distrib (a:=x) (b:=y) (i:=63)
 simpa [Nat.shiftRight_eq_div_pow]using this
theorem Bsi(x y:Nat):2*(x^^^y) %18446744073709551616=(2*x %18446744073709551616)^^^ (2*y %18446744073709551616):=by
 have h1:=Nat.shiftLeft_xor_distrib (a:=x) (b:=y) (i:=1)
 have h2:=Nat.xor_mod_two_pow (a:=2*x) (b:=2*y) (n:=64)
 have e:2*(x^^^y)=(2*x)^^^ (2*y):=by simpa [Nat.shiftLeft_eq,Nat.mul_comm]using h1
 rw[e];exact h2
theorem Cac{a b:Nat}(ha:a=0∨a=1)(hb:b=0∨b=1)(p:Nat):(a^^^b)*p=(a*p)^^^ (b*p):=by
 rcases ha with rfl|rfl<;>rcases hb with rfl|rfl<;>simp
theorem Cgl(a b c d:Nat):(a^^^b)^^^ (c^^^d)=(a^^^c)^^^ (b^^^d):=by
 rw[Nat.xor_assoc,Nat.xor_assoc,←Nat.xor_assoc b c d,Nat.xor_comm b c,Nat.xor_assoc c b d]
theorem Boo{x y:Nat}(hx:x<18446744073709551616)(hy:y<18446744073709551616):Afw (x^^^y)=Afw x^^^Afw y:=by
 rw[Afw,Afw,Afw,Bsi,Br4,Cac (by omega) (by omega),Cgl]
def Lj:Nat→Nat→Nat
 |0,s=>s
 |k+1,s=>Lj k (Afw s)
theorem Ay9:∀(k:Nat) {s:Nat},s<18446744073709551616→Lj k s<18446744073709551616
 |0,_,h=>h
 |k+1,_,h=>Ay9 k (Am4 h)
theorem Bfh:∀(k:Nat) {x y:Nat},x<18446744073709551616→y<18446744073709551616→Lj k (x^^^y)=Lj k x^^^Lj k y
 |0,_,_,_,_=>rfl
 |k+1,x,y,hx,hy=>by rw[Lj,Boo hx hy,Bfh k (Am4 hx) (Am4 hy)];rfl
theorem Bdk:∀(k h:Nat),2^k*h<18446744073709551616→Lj k h=2^k*h
 |0,h,_=>by simp[Lj]
 |k+1,h,hl=>by
  have hpos:0<2^k:=Nat.pow_pos (by omega)
  rw[Nat.pow_succ,Nat.mul_assoc]at hl
  have h2:2*h<18446744073709551616:=Nat.lt_of_le_of_lt (Nat.le_mul_of_pos_left _ hpos) hl
  have:Afw h=2*h:=by rw[Afw,Nat.mod_eq_of_lt h2,show h/9223372036854775808=0 by omega];simp
  rw[Lj,this,Bdk k _ hl,Nat.pow_succ,Nat.mul_assoc]
def Asz(s c:Nat):Nat:=Lj 8 (s^^^ (c*72057594037927936))
theorem c56{c:Nat}(hc:c<256):c*72057594037927936<18446744073709551616:=by omega
theorem Ayu{s c:Nat}(h:s<18446744073709551616)(hc:c<256):Asz s c<18446744073709551616:=Ay9 8 (Nat.xor_lt_two_pow (n:=64) h (c56 hc))
theorem Ca5(s:Nat):s=(s/72057594037927936*72057594037927936)^^^ (s %72057594037927936):=by
 have h1:s %72057594037927936<2^56:=Nat.mod_lt _ (by decide)
 have:=Nat.two_pow_add_eq_or_of_lt h1 (s/72057594037927936)
 have h2:2^56*(s/72057594037927936)|||s %72057594037927936=(2^56*(s/72057594037927936))^^^ (s %72057594037927936):=by
  apply Nat.eq_of_testBit_eq;intro i
  rw[Nat.testBit_or,Nat.testBit_xor]
  by_cases hi:i<56
  ·have:(2^56*(s/72057594037927936)).testBit i=false:=by rw[Nat.testBit_two_pow_mul];simp;omega
   rw[this];simp
  ·have:(s %72057594037927936).testBit i=false:=Nat.testBit_lt_two_pow (Nat.lt_of_lt_of_le h1 (Nat.pow_le_pow_right (by omega) (by omega)))
   rw[this];simp
 rw[Nat.mul_comm (s/72057594037927936)]
 show s=(2^56*(s/72057594037927936))^^^ _
 rw[←h2,←this]
 have:=Nat.div_add_mod s 72057594037927936
 show s=72057594037927936*_+_
 omega
theorem Bu1(a c:Nat):(a^^^c)*72057594037927936=(a*72057594037927936)^^^ (c*72057594037927936):=by
 have h1:=Nat.shiftLeft_xor_distrib (a:=a) (b:=c) (i:=56)
 simpa [Nat.shiftLeft_eq]using h1
theorem Bka{s c:Nat}(h:s<18446744073709551616)(hc:c<256):Asz s c=(256*s %18446744073709551616)^^^Lj 8 (((s/72057594037927936)^^^c)*72057594037927936):=by
 have hs:s/72057594037927936<2^8:=by show _<256;omega
 have hx:(s/72057594037927936)^^^c<256:=Nat.xor_lt_two_pow (n:=8) hs (by simpa using hc)
 have hl:s %72057594037927936<72057594037927936:=Nat.mod_lt _ (by decide)
 rw[Asz]
 conv=>lhs;rw[Ca5 s]
 rw[Nat.xor_comm (s/72057594037927936*72057594037927936),Nat.xor_assoc,←Bu1,Bfh 8 (by omega) (c56 hx),Bdk 8 _ (by show 256*_<_;omega)]
 congr 1
 show 256*(s %72057594037927936)=_
 omega
def Bdb(s:Nat)(l:List UInt8):Nat:=l.foldl (fun s c=>Asz s c.toNat) s
theorem Bf9{n:Nat}(h:n<18446744073709551616):(UInt64.ofNat n).toNat=n:=by rw[UInt64.toNat_ofNat'];exact Nat.mod_eq_of_lt h
theorem Cek(s:UInt64)(bit:Nat)(hb:bit=0∨bit=1):Zy s (bit:Int)=some (UInt64.ofNat ((2*s.toNat %18446744073709551616)^^^ (((s.toNat/9223372036854775808)^^^bit)*P64))):=by
 have hs:=s.toNat_lt
 have ht:s.toNat/9223372036854775808=0∨s.toNat/9223372036854775808=1:=by omega
 have e1:(Bg s (2:UInt64)).toNat=2*s.toNat %18446744073709551616:=by
  rw[Aed,UInt64.toNat_mul];show s.toNat*2 %_=_;rw[Nat.mul_comm]
 have hlt:2*s.toNat %18446744073709551616<18446744073709551616:=Nat.mod_lt _ (by decide)
 have ey:Nn (Bg s (2:UInt64)) (4823603603198064275:UInt64)=UInt64.ofNat ((2*s.toNat %18446744073709551616)^^^P64):=by
  apply UInt64.toNat_inj.1
  rw[Bdc,UInt64.toNat_xor,e1,Bf9 (Nat.xor_lt_two_pow (n:=64) hlt (by decide))];rfl
 have en:Bg s (2:UInt64)=UInt64.ofNat (2*s.toNat %18446744073709551616):=by
  apply UInt64.toNat_inj.1
  rw[e1,Bf9 hlt]
 have eg:Jt s (9223372036854775808:UInt64)=decide (s.toNat/9223372036854775808=1):=by
  rw[Cax,decide_eq_decide]
  show 9223372036854775808≤s.toNat↔_
  omega
 have hp:∀b:Bool,Rl s b=some (if b=true then UInt64.ofNat ((2*s.toNat %18446744073709551616)^^^P64)else UInt64.ofNat (2*s.toNat %18446744073709551616)):=by
  intro b
  rw[Rl,Aev,ey,en];cases b<;>rfl
 rw[Zy,Aes,hp,hp,eg]
 rcases hb with rfl|rfl<;>rcases ht with h|h<;>rw[h]<;>simp[Az]
theorem Bbe(c:UInt8):∀(j q:Nat) (s:UInt64),j≤8→j<q→Ib c q s ((2^j/2:Nat):Int)=some (UInt64.ofNat (Lj j (s.toNat^^^ (c.toNat %2^j*2^(64-j)))))
 |0,q+1,s,_,_=>by
  rw[Ib,Sd,if_neg (by rw[Ak];simp),Aee,Adk]
  simp[Lj,Nat.mod_one]
 |j+1,q+1,s,hj,hq=>by
  have hc:=c.toNat_lt
  have hs:=s.toNat_lt
  have hj2:2^j≤2^7:=Nat.pow_le_pow_right (by omega) (by omega)
  have hpos:0<2^j:=Nat.pow_pos (by omega)
  have e1:2^(j+1)/2=2^j:=by rw[Nat.pow_succ];omega
  have e2:Bs ((2^j:Nat):Int) 2=((2^j/2:Nat):Int):=by
   generalize 2^j=K at*
   rw[Afp,Int.tdiv_eq_ediv_of_nonneg (by omega),Bp (by omega) (by omega)];omega
  have e3:Ew (Bs (Ae c:Int) ((2^j:Nat):Int)) (2:Int)=((c.toNat/2^j %2:Nat):Int):=by
   have hX:=Nat.div_le_self c.toNat (2^j)
   rw[Ag8,Afp,←Int.ofNat_tdiv]
   generalize c.toNat/2^j=X at*
   rw[Bp (by omega) (by omega),Ew,Int.tmod_eq_emod_of_nonneg (by omega)];omega
  have hbit:c.toNat/2^j %2=0∨c.toNat/2^j %2=1:=by omega
  rw[Ib,Sd,e1,if_pos (by rw[Ak,decide_eq_true_eq];omega),Ay (by rw[Aj,bne_iff_ne];omega),Aa,e3,Cek s _ hbit,Aa,e2,Bbe c j q _ (by omega) (by omega)]
  congr 2
  rw[Lj]
  congr 1
  have hx:c.toNat %2^(j+1)*2^(64-(j+1))=(c.toNat/2^j %2)*9223372036854775808+c.toNat %2^j*2^(63-j):=by
   have h63:(9223372036854775808:Nat)=2^j*2^(63-j):=by rw[←Nat.pow_add,show j+(63-j)=63 by omega]
   rw[Nat.mod_pow_succ,h63,show 64-(j+1)=63-j by omega,Nat.add_mul,Nat.add_comm,Nat.mul_assoc,Nat.mul_left_comm]
  have hr:c.toNat %2^j<2^j:=Nat.mod_lt _ hpos
  have hb63:c.toNat %2^j*2^(63-j)<9223372036854775808:=by
   have h63:(9223372036854775808:Nat)=2^j*2^(63-j):=by rw[←Nat.pow_add,show j+(63-j)=63 by omega]
   rw[h63];exact Nat.mul_lt_mul_of_pos_right hr (Nat.pow_pos (by omega))
  have h64:c.toNat %2^j*2^(64-j)=2*(c.toNat %2^j*2^(63-j)):=by
   rw[show 64-j=(63-j)+1 by omega,Nat.pow_succ,←Nat.mul_assoc,Nat.mul_comm]
  rw[hx,h64]
  generalize c.toNat %2^j*2^(63-j)=R at*
  generalize c.toNat/2^j %2=b at*
  have ht:s.toNat/9223372036854775808=0∨s.toNat/9223372036854775808=1:=by omega
  have hp:((s.toNat/9223372036854775808^^^b)*P64)<18446744073709551616:=by
   rcases ht with h|h<;>rcases hbit with h2|h2<;>rw[h,h2]<;>decide
  rw[Bf9 (Nat.xor_lt_two_pow (n:=64) (Nat.mod_lt _ (by decide)) hp),Afw,Bsi,Br4,show(b*9223372036854775808+R)/9223372036854775808=b by omega,show 2*(b*9223372036854775808+R) %18446744073709551616=2*R by omega,Nat.xor_assoc,Nat.xor_assoc,Nat.xor_comm (2*R)]
theorem Cd3(c:UInt8)(s:UInt64):Akg s c=some (UInt64.ofNat (Asz s.toNat c.toNat)):=by
 have h:=Bbe c 8 Ao s (Nat.le_refl _) (by have:=Al;omega)
 have hc:=c.toNat_lt
 rw[Nat.mod_eq_of_lt (show c.toNat<2^8 by simpa using hc)]at h
 exact h
theorem Avf(b:List UInt8)(hb:b.length<4611686018427387904):∀(j i q:Nat) (s:UInt64),i+j=b.length→j<q→Gc b q s (i:Int)=some (UInt64.ofNat (Bdb s.toNat (b.drop i)))
 |0,i,q+1,s,hi,_=>by
  rw[Gc,Ox,if_neg (by rw[Af,Ac];simp;omega),show i=b.length by omega,List.drop_length]
  simp[Aaq,Zn,Bdb]
 |j+1,i,q+1,s,hi,hq=>by
  have hlt:i<b.length:=by omega
  have hc:=b[i].toNat_lt
  rw[Gc,Ox,if_pos (by rw[Af,Ac];simp;omega),Bu hlt,Aa,Cd3,Aa,Ag (by omega) (by omega)]
  have h:=Avf b hb j (i+1) q (UInt64.ofNat (Asz s.toNat b[i].toNat)) (by omega) (by omega)
  rw[show((i:Int)+1)=((i+1:Nat):Int) by omega,h,drop_cons hlt,Bf9 (Ayu s.toNat_lt (by simpa using hc))]
  rfl
def Xp(b:List UInt8):UInt64:=UInt64.ofNat (Bdb 0 b)
theorem Bmt(b:List UInt8)(hb:b.length≤100000):Tq 0 b=some (Xp b):=
 Avf b (by omega) b.length 0 Ao 0 (by omega) (by have:=Al;omega)
theorem Bpo(c:UInt64):Nn (Cn c (GI.toZ (1:UInt64)).toNat) (Bg (4823603603198064275:UInt64) (Bl c (GI.toZ (63:UInt64)).toNat))=UInt64.ofNat (Afw c.toNat):=by
 have hc:=c.toNat_lt
 apply UInt64.toNat_inj.1
 have h1:(Cn c (GI.toZ (1:UInt64)).toNat).toNat=2*c.toNat %18446744073709551616:=by
  rw[show(GI.toZ (1:UInt64)).toNat=1 from rfl,Aio,Nat.mul_comm]
 have h2:(Bg (4823603603198064275:UInt64) (Bl c (GI.toZ (63:UInt64)).toNat)).toNat=c.toNat/9223372036854775808*P64:=by
  rw[show(GI.toZ (63:UInt64)).toNat=63 from rfl,Aed,UInt64.toNat_mul,Aai]
  show 4823603603198064275*(c.toNat/9223372036854775808) %18446744073709551616=_
  have h1:c.toNat/9223372036854775808=0∨c.toNat/9223372036854775808=1:=by omega
  rcases h1 with e|e<;>rw[e]<;>decide
 rw[Bdc,UInt64.toNat_xor,h1,h2,Bf9 (Am4 hc)];rfl
theorem Bbd(bk16:Int→List UInt64→Option (UInt64×Int))(s:UInt64)(b:List UInt8)(x:Int)(t:List UInt64):∀(j i q:Nat) (c:UInt64),i+j=8→j<q→
  Nw bk16 s b x t q c (i:Int)=Zl bk16 s b x (UInt64.ofNat (Lj j c.toNat)) t
 |0,i,q+1,c,hi,_=>by
  obtain rfl:i=8:=by omega
  rw[Nw,Yd,if_neg (by rw[Af];simp),Lj,UInt64.ofNat_toNat]
 |j+1,i,q+1,c,hi,hq=>by
  rw[Nw,Yd,if_pos (by rw[Af];simp;omega),Bpo,Ag (by omega) (by omega),show((i:Int)+1)=((i+1:Nat):Int) by omega,Bbd bk16 s b x t j (i+1) q _ (by omega) (by omega),Bf9 (Am4 c.toNat_lt)];rfl
def Akw(n:Nat):List UInt64:=(List.range n).map fun i=>UInt64.ofNat (Lj 8 (i*72057594037927936))
theorem Bf0(s:UInt64)(b:List UInt8):∀(j i q:Nat),i+j=256→j<q→Kn s b q (i:Int) (Akw i++List.replicate j 0)=Aak s b (Akw 256)
 |0,i,q+1,hi,_=>by
  obtain rfl:i=256:=by omega
  rw[Kn,Aay,if_neg (by rw[Af];simp)];simp
 |j+1,i,q+1,hi,hq=>by
  have hlen:(Akw i++List.replicate (j+1) 0).length=i+(j+1):=by simp[Akw]
  rw[Kn,Aay,if_pos (by rw[Af];simp;omega),Ai0]
  have h:=Bbd (Kn s b q) s b (i:Int) (Akw i++List.replicate (j+1) 0) 8 0 Ao (Cn (Ae (i:Int):UInt64) (GI.toZ (56:UInt64)).toNat) (by omega) (by have:=Al;omega)
  rw[show((0:Int))=((0:Nat):Int)from rfl,h,Zl,Ahe,Bu (by rw[hlen];omega),Aa,My _ (by rw[hlen];omega),Aa,Aif,Art,Ag (by omega) (by omega)]
  have e:(Cn (Ae (i:Int):UInt64) (GI.toZ (56:UInt64)).toNat).toNat=i*72057594037927936:=by
   rw[Aio,Pz,Bf9 (by omega)]
   show i*72057594037927936 %18446744073709551616=_
   omega
  rw[e,List.replicate_succ,Apo (by simp[Akw])]
  have h2:=Bf0 s b j (i+1) q (by omega) (by omega)
  have h3:Akw (i+1)=Akw i++[UInt64.ofNat (Lj 8 (i*72057594037927936))]:=by simp[Akw,List.range_succ]
  rw[h3]at h2
  rw[show((i:Int)+1)=((i+1:Nat):Int) by omega,←h2]
  simp
theorem Bue{i:Nat}(h:i<256):getI (Akw 256) (i:Int)=some (UInt64.ofNat (Lj 8 (i*72057594037927936))):=by
 rw[Bu (by simpa [Akw]using h)];simp[Akw]
theorem Bk0(s:UInt64)(c:UInt8):getI (Akw 256) (GI.toZ (Nn (Ae (Bl s (GI.toZ (56:UInt64)).toNat):UInt8) c))=some (UInt64.ofNat (Lj 8 (((s.toNat/72057594037927936)^^^c.toNat)*72057594037927936))):=by
 have hs:=s.toNat_lt
 have e:GI.toZ (Nn (Ae (Bl s (GI.toZ (56:UInt64)).toNat):UInt8) c)=(((s.toNat/72057594037927936)^^^c.toNat:Nat):Int):=by
  have e2:((Ae (Bl s (GI.toZ (56:UInt64)).toNat):UInt8)).toNat=s.toNat/72057594037927936:=by
   rw[Aja,UInt8.toNat_ofNat',Aai]
   show s.toNat/72057594037927936 %256=_
   omega
  rw[Wt,Biu,UInt8.toNat_xor,e2]
 rw[e,Bue]
 exact Nat.xor_lt_two_pow (n:=8) (by show _<256;omega) (by simpa using c.toNat_lt)
theorem Bid(s:UInt64)(c:UInt8):Nn (Cn s (GI.toZ (8:UInt64)).toNat) (UInt64.ofNat (Lj 8 (((s.toNat/72057594037927936)^^^c.toNat)*72057594037927936)))=UInt64.ofNat (Asz s.toNat c.toNat):=by
 have hs:=s.toNat_lt
 have hc:c.toNat<256:=by simpa using c.toNat_lt
 apply UInt64.toNat_inj.1
 have hlt:Lj 8 (((s.toNat/72057594037927936)^^^c.toNat)*72057594037927936)<18446744073709551616:=Ay9 8 (c56 (Nat.xor_lt_two_pow (n:=8) (by show _<256;omega) (by simpa using c.toNat_lt)))
 have e:(GI.toZ (8:UInt64)).toNat=8:=rfl
 rw[e,Bdc,UInt64.toNat_xor,Aio,Bf9 hlt,Bf9 (Ayu hs hc),Bka hs hc,Nat.mul_comm s.toNat]
theorem Bal(b:List UInt8)(s0:UInt64)(hb:b.length<4611686018427387904):∀(j i q:Nat) (s:UInt64),i+j=b.length→j<q→Mw b s0 (Akw 256) q s (i:Int)=some (UInt64.ofNat (Bdb s.toNat (b.drop i)),0)
 |0,i,q+1,s,hi,_=>by
  rw[Mw,Zg,if_neg (by rw[Af,Ac];simp;omega),show i=b.length by omega,List.drop_length]
  simp[Ahx,Ahz,Ajr,Asg,Bdb]
 |j+1,i,q+1,s,hi,hq=>by
  have hlt:i<b.length:=by omega
  have hc:=b[i].toNat_lt
  rw[Mw,Zg,if_pos (by rw[Af,Ac];simp;omega),Bu hlt,Aa,Bk0,Aa,Aa,Bid,Ag (by omega) (by omega)]
  have h:=Bal b s0 hb j (i+1) q (UInt64.ofNat (Asz s.toNat b[i].toNat)) (by omega) (by omega)
  rw[show((i:Int)+1)=((i+1:Nat):Int) by omega,h,drop_cons hlt,Bf9 (Ayu s.toNat_lt (by simpa using hc))]
  rfl
theorem Bkr(b:List UInt8)(hb:b.length≤100000):Amr b=some (Xp b,0):=by
 have h:=Bf0 0 b 256 0 Ao (by omega) (by have:=Al;omega)
 have h2:=Bal b 0 (by omega) b.length 0 Ao 0 (by omega) (by have:=Al;omega)
 have hn:Aoz 0 b=some (Xp b,0):=by
  rw[Aoz,Alr,if_neg (by rw[Ak,Ac];simp;omega),Aiz]
  refine Eq.trans h ?_
  rw[Aak,Ah6,Ahp]
  exact h2
 rw[Amr,hn,Aa]
theorem Azm(p:List UInt8)(hp:p.length≤64):Zm p=some (Nx (Xp p).toNat 8,0):=by
 rw[Zm,Azn,if_neg (by rw[Ak,Ac];simp;omega),Bkr p (by omega),Aa,Aa]
 simp only
 have h:=Aix (Xp p) 8 (by omega) (by omega) (by simpa using(Xp p).toNat_lt)
 rw[if_neg (by rw[Aj];simp)]
 exact congrArg (fun o=>Option.bind o fun x:List UInt8×Int=>some (x.1,x.2)) h
theorem Buk(p:List UInt8)(hp:p.length≤64):Rw p=some (Nx (Xp p).toNat 8):=by
 have h:=Bcl (Xp p) 8 (by omega)
 rw[Rw,Ak1,Bmt p (by omega),Aa,Aa]
 exact congrArg (fun o=>Option.bind o fun l=>some l) h
def s8(n:Nat):Int32:=Int32.ofInt (if n<128 then(n:Int)else(n:Int)-256)
def Ak3(d:UInt64)(n:Nat):List Int32:=(List.range n).map fun i=>s8 (d.toNat/256^i %256)
theorem Am2(d:UInt64)(n:Nat):(Ak3 d n).length=n:=by simp[Ak3]
theorem Bcr(d:UInt64)(n:Nat):Ak3 d (n+1)=Ak3 d n++[s8 (d.toNat/256^n %256)]:=by simp[Ak3,List.range_succ]
theorem bm8(z:Nat):(z:Int).bmod Int8.size=if z %256<128 then((z %256:Nat):Int)else((z %256:Nat):Int)-256:=by
 rw[show Int8.size=256 from rfl,Int.bmod_def]
 split<;>split<;>omega
theorem Bq4(d:UInt64):∀(j i q:Nat),i+j=8→j<q→Ac1 d q (i:Int) (Ak3 d i++List.replicate (16-i) 0)=some (Ak3 d 8++List.replicate 8 0)
 |0,i,q+1,hi,_=>by
  obtain rfl:i=8:=by omega
  rw[Ac1,Aoi,if_neg (by rw[Af];simp)];rfl
 |j+1,i,q+1,hi,hq=>by
  have hlen:(Ak3 d i++List.replicate (16-i) 0).length=16:=by simp[Am2];omega
  have ih:=Bq4 d j (i+1) q (by omega) (by omega)
  have e8:Bg (8:Int) (i:Int)=((8*i:Nat):Int):=by rw[Gn (by omega) (by omega)];omega
  have ev:(Ae (Ae (Bl d (GI.toZ (((8*i:Nat):Int))).toNat):Int8):Int32)=s8 (d.toNat/256^i %256):=by
   have e1:(Bl d (GI.toZ (((8*i:Nat):Int))).toNat).toNat=d.toNat/256^i:=by
    rw[show(GI.toZ (((8*i:Nat):Int))).toNat=8*i from rfl,Aai,Nat.pow_mul]
   show Int32.ofInt (Int8.ofInt ((Bl d (GI.toZ (((8*i:Nat):Int))).toNat).toNat:Int)).toInt=_
   rw[e1,s8,Int8.toInt_ofInt,bm8]
  rw[Ac1,Aoi,if_pos (by rw[Af];simp;omega),e8,Ay (by rw[Ck];simp;omega),Aa,ev,Bu (by omega),Aa,My _ (by omega),Aa,Ag (by omega) (by omega),show 16-i=(15-i)+1 by omega,List.replicate_succ,Apo (Am2 d i)]
  rw[Bcr,show 16-(i+1)=15-i by omega,List.append_assoc]at ih
  exact ih
theorem Byw(d:UInt64):∀(j i q:Nat) (e:UInt64),i+j=8→j<q→e.toNat=d.toNat/256^i→Ho q e (i:Int) (Ak3 d i++List.replicate (16-i) 0)=some (Ak3 d 8++List.replicate 8 0)
 |0,i,q+1,e,hi,_,he=>by
  obtain rfl:i=8:=by omega
  rw[Ho,Vw,if_neg (by rw[Af];simp)];rfl
 |j+1,i,q+1,e,hi,hq,he=>by
  have hlen:(Ak3 d i++List.replicate (16-i) 0).length=16:=by simp[Am2];omega
  have hq2:(Bs e (256:UInt64)).toNat=d.toNat/256^(i+1):=by
   rw[Axb,UInt64.toNat_div,he,Nat.pow_succ,←Nat.div_div_eq_div_mul];rfl
  have ih:=Byw d j (i+1) q (Bs e (256:UInt64)) (by omega) (by omega) hq2
  have ev:(Ae (Yb e (256:UInt64)):Int32)=Int32.ofInt ((d.toNat/256^i %256:Nat):Int):=by
   show Int32.ofInt ((Yb e (256:UInt64)).toNat:Int)=_
   rw[Bnd,UInt64.toNat_mod,he];rfl
  have hz:d.toNat/256^i %256<256:=Nat.mod_lt _ (by omega)
  have et:(Int32.ofInt ((d.toNat/256^i %256:Nat):Int)).toInt=((d.toNat/256^i %256:Nat):Int):=by
   rw[Int32.toInt_ofInt,Int.bmod_eq_of_le (by show -(4294967296/2:Int)≤_;omega) (by show _<(4294967296+1)/2;omega)]
  have hp8:∀x:Int32,x=s8 (d.toNat/256^i %256)→Wm (Ho q) e (i:Int) (Ak3 d i++List.replicate (16-i) 0) x=some (Ak3 d 8++List.replicate 8 0):=by
   intro x hx
   rw[Wm,Ah7,hx,Bu (by omega),Aa,My _ (by omega),Aa,Ag (by omega) (by omega),show 16-i=(15-i)+1 by omega,List.replicate_succ,Apo (Am2 d i)]
   rw[Bcr,show 16-(i+1)=15-i by omega,List.append_assoc]at ih
   exact ih
  rw[Ho,Vw,if_pos (by rw[Af];simp;omega),ev,Bpp,et,show(127:Int32).toInt=127 from rfl]
  by_cases h:d.toNat/256^i %256<128
  ·rw[if_neg (by simp only[decide_eq_true_eq];omega)]
   exact hp8 _ (by rw[s8,if_pos h])
  ·rw[if_pos (by simp only[decide_eq_true_eq];omega)]
   refine hp8 _ ?_
   rw[s8,if_neg h,Ai4,Int32.ofInt_sub];rfl
def tapsOf(p:List UInt8):List Int32:=Ak3 (Xp p) 8++List.replicate 8 0
theorem Ahf(p:List UInt8):(tapsOf p).length=16:=by simp[tapsOf,Am2]
theorem Az9(p:List UInt8)(hp:p.length≤64):Xb p=some (tapsOf p,0):=by
 have h:=Bq4 (Xp p) 8 0 Ao (by omega) (by have:=Al;omega)
 have h2:Bkj (Xp p)=some (tapsOf p):=h
 rw[Xb,if_neg (by rw[Ak,Ac];simp;omega),Bkr p (by omega),Aa]
 simp only
 rw[if_neg (by rw[Aj];simp),h2,Aa]
theorem Bm7(p:List UInt8)(hp:p.length≤64):Zx p=some (tapsOf p,0):=by
 have h:=Byw (Xp p) 8 0 Ao (Xp p) (by omega) (by have:=Al;omega) (by simp)
 have h2:Aql (Xp p)=some (tapsOf p):=h
 rw[Zx,if_neg (by rw[Ak,Ac];simp;omega),Amg,Akf,if_neg (by rw[Ak,Ac];simp;omega),Bmt p (by omega),Aa,Aa,Aa]
 simp only
 rw[h2,Aa]
end Go.Pl
set_option linter.unusedVariables false
set_option linter.unusedSimpArgs false
namespace Go.Pl
open Go Go.Lv
def u8(z:Int):UInt8:=UInt8.ofNat (z %256).toNat
theorem Bi5(z:Int):u8 (z %256)=u8 z:=by rw[u8,u8];congr 2;omega
def wB(bits:Int):Nat:=if bits=8 then 1 else if bits=16 then 2 else 3
theorem Bvp{bits:Int}(h:BitsOk bits):Bs bits 8=(wB bits:Int):=by obtain rfl|rfl|rfl:=h<;>rfl
theorem Byy(bits:Int):1≤wB bits∧wB bits≤3:=by
 unfold wB;split; · omega
 ·split<;>omega
def Acm(bits:Int)(x:Int):List UInt8:=if bits=8 then [u8 (x+128)]else if bits=16 then [u8 x,u8 (x/256)]else [u8 x,u8 (x/256),u8 (x/65536)]
theorem Bnv(bits x:Int):(Acm bits x).length≤3:=by
 unfold Acm;split; · simp
 ·split<;>simp
theorem Bzd(x:Int32)(k:Nat)(hk:k≤32):(Ae (Bl x k):UInt8)=u8 (x.toInt.fdiv (2^k)):=by
 have h:=Uj x
 have e:Bl x k=Int32.ofInt (x.toInt.fdiv (2^k)):=by
  show Int32.ofInt (x.toInt.fdiv (2^min k 32))=_
  rw[Nat.min_eq_left hk]
 have hb: -2147483648≤x.toInt.fdiv (2^k)∧x.toInt.fdiv (2^k)<2147483648:=by
  have hpos:(0:Int)<2^k:=Int.pow_pos (by omega)
  rw[Int.fdiv_eq_ediv_of_nonneg _ (by omega)]
  constructor
  ·refine(Int.le_ediv_iff_mul_le hpos).2 ?_
   have:(1:Int)≤2^k:=by omega
   have h2: -2147483648*(2^k:Int)≤ -2147483648*1:=Int.mul_le_mul_of_nonpos_left (by omega) this
   omega
  ·refine Int.ediv_lt_of_lt_mul hpos ?_
   have:(1:Int)≤2^k:=by omega
   have h2:(2147483648:Int)*1≤2147483648*2^k:=Int.mul_le_mul_of_nonneg_left this (by omega)
   omega
 show UInt8.ofNat ((Bl x k).toInt %256).toNat=_
 rw[e,Int32.toInt_ofInt,Int.bmod_eq_of_le (by show -(4294967296/2:Int)≤_;omega) (by show _<(4294967296+1)/2;omega)];rfl
section
variable (bk:Int→List UInt8→Option (List UInt8×Int)) (l:List Int32)
theorem Bb6{bits:Int}(h:BitsOk bits)(c:Int32)(x:Int)(i q:Nat)(acc:List UInt8)(hi:i<wB bits)(ha:acc.length≤100000):
  Gv bk bits l c x (q+1) (i:Int) acc=Gv bk bits l c x q ((i+1:Nat):Int) (acc++[u8 (c.toInt.fdiv (2^(8*i)))]):=by
 have hw:=Byy bits
 have e8:Bg (8:Int) (i:Int)=((8*i:Nat):Int):=by rw[Gn (by omega) (by omega)];omega
 rw[Gv,Vj,Bvp h,if_pos (by rw[Af];simp;omega),e8,Ay (by rw[Ck];simp;omega),Aa,show(GI.toZ (((8*i:Nat):Int))).toNat=8*i from rfl,Bzd _ _ (by omega),Cg (by simp;omega),Aa,Ag (by omega) (by omega)];rfl
theorem Bo4{bits:Int}(h:BitsOk bits)(c:Int32)(x:Int)(q:Nat)(acc:List UInt8):Gv bk bits l c x (q+1) ((wB bits:Nat):Int) acc=bk (Ad x 1) acc:=by
 rw[Gv,Vj,Bvp h,if_neg (by rw[Af];simp),Afm,Ap1]
theorem Cel{bits:Int}(h:BitsOk bits)(c:Int32)(x:Int)(acc:List UInt8)(ha:acc.length≤90000)(hr: -(hB bits)≤c.toInt∧c.toInt<hB bits):
  Iu bk bits l x acc (if bits=8 then Ad c (128:Int32)else c)=bk (Ad x 1) (acc++Acm bits c.toInt):=by
 have e:Ao=(Ao-4)+1+1+1+1:=by have:=Al;omega
 have hc:=Uj c
 rw[Iu,Afx,Afo,e]
 have g0:=fun(c:Int32) q acc ha=>Bb6 bk l h c x 0 q acc (by have:=Byy bits;omega) ha
 obtain rfl|rfl|rfl:=h
 ·have hh:hB 8=128:=rfl
  rw[hh]at hr
  have e1:(Ad c (128:Int32)).toInt=c.toInt+128:=by
   show(Int32.ofInt (c.toInt+(128:Int32).toInt)).toInt=_
   rw[show(128:Int32).toInt=128 from rfl,Int32.toInt_ofInt,Int.bmod_eq_of_le (by show -(4294967296/2:Int)≤_;omega) (by show _<(4294967296+1)/2;omega)]
  have g1:=Bo4 bk l (bits:=8) (.inl rfl) (Ad c (128:Int32)) x (Ao-4+1+1)
  rw[if_pos rfl,show(0:Int)=((0:Nat):Int)from rfl,g0 _ _ _ (by omega)]
  refine Eq.trans (g1 _) ?_
  rw[e1,Acm,if_pos rfl]
  show bk _ (acc++[u8 ((c.toInt+128).fdiv 1)])=_
  rw[Int.fdiv_one]
 ·have g1:=fun q acc ha=>Bb6 bk l (bits:=16) (.inr (.inl rfl)) c x 1 q acc (by decide) ha
  have g2:=Bo4 bk l (bits:=16) (.inr (.inl rfl)) c x (Ao-4+1)
  rw[if_neg (by decide),show(0:Int)=((0:Nat):Int)from rfl,g0 _ _ _ (by omega),g1 _ _ (by simp;omega)]
  refine Eq.trans (g2 _) ?_
  rw[Acm,if_neg (by decide),if_pos rfl,List.append_assoc]
  show bk _ (acc++[u8 (c.toInt.fdiv 1),u8 (c.toInt.fdiv 256)])=_
  rw[Int.fdiv_one,Int.fdiv_eq_ediv_of_nonneg _ (by omega)]
 ·have g1:=fun q acc ha=>Bb6 bk l (bits:=24) (.inr (.inr rfl)) c x 1 q acc (by decide) ha
  have g2:=fun q acc ha=>Bb6 bk l (bits:=24) (.inr (.inr rfl)) c x 2 q acc (by decide) ha
  have g3:=Bo4 bk l (bits:=24) (.inr (.inr rfl)) c x (Ao-4)
  rw[if_neg (by decide),show(0:Int)=((0:Nat):Int)from rfl,g0 _ _ _ (by omega),g1 _ _ (by simp;omega),g2 _ _ (by simp;omega)]
  refine Eq.trans (g3 _) ?_
  rw[Acm,if_neg (by decide),if_neg (by decide),List.append_assoc,List.append_assoc]
  show bk _ (acc++[u8 (c.toInt.fdiv 1),u8 (c.toInt.fdiv 256),u8 (c.toInt.fdiv 65536)])=_
  rw[Int.fdiv_one,Int.fdiv_eq_ediv_of_nonneg _ (by omega),Int.fdiv_eq_ediv_of_nonneg _ (by omega)]
end
def bytesB(bits:Int)(l:List Int32):List UInt8:=l.flatMap fun x=>Acm bits x.toInt
theorem Ao2(bits:Int):∀l:List Int32,(bytesB bits l).length≤3*l.length
 |[]=>by simp[bytesB]
 |x::l=>by
  have h1:=Ao2 bits l
  have h2:=Bnv bits x.toInt
  simp only[bytesB,List.flatMap_cons,List.length_append,List.length_cons]at*
  omega
def inR(bits:Int)(l:List Int32):Prop:=∀x∈l, -(hB bits)≤x.toInt∧x.toInt<hB bits
theorem Bqc{bits:Int}(h:BitsOk bits)(l:List Int32)(hl:l.length≤4000)(hr:inR bits l):∀(j i q:Nat),i+j=l.length→j<q→Er bits l q (i:Int) (bytesB bits (l.take i))=some (bytesB bits l,0)
 |0,i,q+1,hi,_=>by
  rw[Er,Vr,if_neg (by rw[Af,Ac];simp;omega),List.take_of_length_le (by omega)];rfl
 |j+1,i,q+1,hi,hq=>by
  have hlt:i<l.length:=by omega
  have ih:=Bqc h l hl hr j (i+1) q (by omega) (by omega)
  have hlen:=Ao2 bits (l.take i)
  have hx:=hr l[i] (List.getElem_mem _)
  have h1:=Cel (Er bits l q) l h l[i] (i:Int) (bytesB bits (l.take i)) (by rw[List.length_take]at hlen;omega) hx
  rw[Er,Vr,if_pos (by rw[Af,Ac];simp;omega),Bu hlt,Aa]
  have e:(if(geq bits (8:Int))=true then Iu (Er bits l q) bits l (i:Int) (bytesB bits (l.take i)) (Ad l[i] (128:Int32))else Iu (Er bits l q) bits l (i:Int) (bytesB bits (l.take i)) l[i])=Iu (Er bits l q) bits l (i:Int) (bytesB bits (l.take i)) (if bits=8 then Ad l[i] (128:Int32)else l[i]):=by
   by_cases h8:bits=8
   ·rw[if_pos (by rw[Az];simpa using h8),if_pos h8]
   ·rw[if_neg (by rw[Az];simpa using h8),if_neg h8]
  rw[e,h1,Ag (by omega) (by omega)]
  rw[Jw hlt]at ih
  have e2:bytesB bits (l.take i++[l[i]])=bytesB bits (l.take i)++Acm bits l[i].toInt:=by unfold bytesB;rw[List.flatMap_append,List.flatMap_singleton]
  rw[e2]at ih
  exact ih
theorem Atz{bits:Int}(h:BitsOk bits){l:List Int32}(hl:l.length≤4000)(hc:cadenzaref18_Check bits l=some 0):inR bits l:=by
 have hh:=Aie bits
 have key:∀(j i q:Nat),i+j=l.length→j<q→Ap l (hB bits) q (i:Int)=some 0→∀k,i≤k→(hk:k<l.length)→ -(hB bits)≤l[k].toInt∧l[k].toInt<hB bits:=by
  intro j
  induction j with
  |zero=>intro i q hi hq _ k h1 h2;omega
  |succ j ih=>
   intro i q hi hq hs k h1 h2
   obtain⟨q,rfl⟩:∃k,q=k+1:=⟨q-1,by omega⟩
   rw[Ap,Br,if_pos (by rw[Af,Ac];simp;omega),Bu (by omega),Aa,Aa,Dp,Bj2,Bp (by omega) (by omega),Ag (by omega) (by omega),Af,Ck]at hs
   by_cases g1:l[i].toInt<0-hB bits
   ·rw[if_pos (by simpa using g1)]at hs;simp at hs
   ·rw[if_neg (by simpa using g1)]at hs
    by_cases g2:hB bits≤l[i].toInt
    ·rw[if_pos (by simpa using g2)]at hs;simp at hs
    ·rw[if_neg (by simpa using g2)]at hs
     by_cases hk:k=i
     ·subst hk;omega
     ·exact ih (i+1) q (by omega) (by omega) hs k (by omega) h2
 rw[cadenzaref18_Check,Ci,Aj8 h,Aa,if_neg (by rw[Az];simp;omega),if_neg (by rw[Ak,Ac];simp;omega)]at hc
 have:=key l.length 0 Ao (by omega) (by have:=Al;omega) hc
 intro x hx
 obtain⟨k,hk,rfl⟩:=List.getElem_of_mem hx
 exact this k (by omega) hk
theorem Beh{bits:Int}(h:BitsOk bits){l:List Int32}(hl:l.length≤4000)(hc:cadenzaref18_Check bits l=some 0):width_Bytes bits l=some (bytesB bits l,0):=by
 have h1:=Bqc h l hl (Atz h hl hc) l.length 0 Ao (by omega) (by have:=Al;omega)
 rw[width_Bytes,Ajk,Apa h l hl,hc,Aa,if_neg (by rw[Aj];simp)]
 exact h1
theorem Bzy{bits:Int}(h:BitsOk bits)(x:Int32)(hr: -(hB bits)≤x.toInt∧x.toInt<hB bits):Acd bits x=some (Acm bits x.toInt):=by
 have hx:=Uj x
 have gu:∀z:Int,(Ae z:UInt8)=u8 z:=fun z=>rfl
 have hq:∀n:Int,0≤n→n≤20000000→Bs n (256:Int)=n/256∧Bs n (65536:Int)=n/65536:=by
  intro n h1 h2
  constructor<;>(rw[Afp,Int.tdiv_eq_ediv_of_nonneg h1,Bp (by omega) (by omega)])
 have hm:∀n:Int,0≤n→Ew n (256:Int)=n %256:=fun n h1=>by rw[Ew,Int.tmod_eq_emod_of_nonneg h1]
 rw[Acd,Agl,Dp]
 obtain rfl|rfl|rfl:=h
 ·rw[if_pos (by rw[Az];rfl),Ag (by omega) (by omega),gu,Acm,if_pos rfl]
 ·have hh:hB 16=32768:=rfl
  rw[hh]at hr
  have hp:∀n:Int,0≤n→n≤70000→u8 n=u8 x.toInt→u8 (n/256)=u8 (x.toInt/256)→Iz 16 n=some (Acm 16 x.toInt):=by
   intro n h1 h2 h3 h4
   rw[Iz,Uc,if_neg (by rw[Az];decide),hm n h1,(hq n h1 (by omega)).1,hm _ (by omega),gu,gu,Bi5,Bi5,h3,h4,Acm,if_neg (by decide),if_pos rfl]
  rw[if_neg (by rw[Az];decide)]
  by_cases hn:x.toInt<0
  ·rw[if_pos (by rw[Af];simpa using hn),Aj8 (.inr (.inl rfl)),Aa,hh,Gn (by omega) (by omega),Ag (by omega) (by omega)]
   refine hp _ (by omega) (by omega) ?_ ?_
   ·rw[u8,u8];congr 2;omega
   ·rw[u8,u8];congr 2;omega
  ·rw[if_neg (by rw[Af];simpa using hn)]
   exact hp _ (by omega) (by omega) rfl rfl
 ·have hh:hB 24=8388608:=rfl
  rw[hh]at hr
  have hp:∀n:Int,0≤n→n≤16777215→u8 n=u8 x.toInt→u8 (n/256)=u8 (x.toInt/256)→u8 (n/65536)=u8 (x.toInt/65536)→Iz 24 n=some (Acm 24 x.toInt):=by
   intro n h1 h2 h3 h4 h5
   rw[Iz,Uc,if_pos (by rw[Az];rfl),hm n h1,(hq n h1 (by omega)).1,(hq n h1 (by omega)).2,hm _ (by omega),gu,gu,gu,Bi5,Bi5,h3,h4,h5,Cg (by simp),Aa,Acm,if_neg (by decide),if_neg (by decide)];rfl
  rw[if_neg (by rw[Az];decide)]
  by_cases hn:x.toInt<0
  ·rw[if_pos (by rw[Af];simpa using hn),Aj8 (.inr (.inr rfl)),Aa,hh,Gn (by omega) (by omega),Ag (by omega) (by omega)]
   refine hp _ (by omega) (by omega) ?_ ?_ ?_
   ·rw[u8,u8];congr 2;omega
   ·rw[u8,u8];congr 2;omega
   ·rw[u8,u8];congr 2;omega
  ·rw[if_neg (by rw[Af];simpa using hn)]
   exact hp _ (by omega) (by omega) rfl rfl rfl
theorem Bsk{bits:Int}(h:BitsOk bits)(l:List Int32)(hl:l.length≤4000)(hr:inR bits l):∀(j i q:Nat),i+j=l.length→j<q→Hh bits l q (i:Int) (bytesB bits (l.take i))=some (bytesB bits l,0)
 |0,i,q+1,hi,_=>by
  rw[Hh,Qq,if_neg (by rw[Af,Ac];simp;omega),List.take_of_length_le (by omega)];rfl
 |j+1,i,q+1,hi,hq=>by
  have hlt:i<l.length:=by omega
  have ih:=Bsk h l hl hr j (i+1) q (by omega) (by omega)
  have hlen:=Ao2 bits (l.take i)
  have hol:=Bnv bits l[i].toInt
  rw[List.length_take]at hlen
  have e2:bytesB bits (l.take i++[l[i]])=bytesB bits (l.take i)++Acm bits l[i].toInt:=by unfold bytesB;rw[List.flatMap_append,List.flatMap_singleton]
  rw[Jw hlt,e2]at ih
  rw[Hh,Qq,if_pos (by rw[Af,Ac];simp;omega),Bu hlt,Aa,Bzy h _ (hr l[i] (List.getElem_mem _)),Aa,Cg (by omega),Aa,Ag (by omega) (by omega)]
  exact ih
theorem Bhc{bits:Int}(h:BitsOk bits){l:List Int32}(hl:l.length≤4000)(hc:cadenzaref18_Check bits l=some 0):Wv bits l=some (bytesB bits l,0):=by
 have h1:=Bsk h l hl (Atz h hl hc) l.length 0 Ao (by omega) (by have:=Al;omega)
 rw[Wv,Abk,hc,Aa,if_neg (by rw[Aj];simp)]
 exact h1
end Go.Pl
set_option linter.unusedVariables false
set_option linter.unusedSimpArgs false
namespace Go.Pl
open Go Go.Lv
def Anj:List UInt8→Nat→Int×Int
 |[],n=>((n:Int),0)
 |c::r,n=>if 128≤c.toNat then(0,12)else Anj r (128*n+c.toNat)
theorem Bql:∀(l:List UInt8) (n k:Nat),n<128^k→0≤(Anj l n).1∧(Anj l n).1<((128^(k+l.length):Nat):Int)
 |[],n,k,h=>by simp[Anj];exact_mod_cast h
 |c::r,n,k,h=>by
  rw[Anj]
  split
  ·have:0<128^(k+(c::r).length):=Nat.pow_pos (by omega)
   exact⟨Int.le_refl _,by simp only;exact_mod_cast this⟩
  ·have:=Bql r (128*n+c.toNat) (k+1) (by rw[Nat.pow_succ];omega)
   rw[List.length_cons,show k+(r.length+1)=k+1+r.length by omega]
   exact this
theorem or7(n c:Nat)(hn:n<268435456)(hc:c<128):gor (Cn (n:Int) (GI.toZ (7:UInt64)).toNat) (c:Int)=((128*n+c:Nat):Int):=by
 have e:(GI.toZ (7:UInt64)).toNat=7:=rfl
 have h1:Cn (n:Int) 7=((2^7*n:Nat):Int):=by
  have:Cn (n:Int) 7=wrap64 ((n:Int)*2^7):=rfl
  rw[this,Bp (by omega) (by omega)];omega
 rw[e,h1]
 have h2:gor ((2^7*n:Nat):Int) (c:Int)=wrap64 ((BitVec.ofInt 64 ((2^7*n:Nat):Int)|||BitVec.ofInt 64 (c:Int)).toNat:Int):=rfl
 rw[h2,BitVec.toNat_or,BitVec.toNat_ofInt,BitVec.toNat_ofInt]
 have h3:(((2^7*n:Nat):Int) %((2^64:Nat):Int)).toNat=2^7*n:=by omega
 have h4:((c:Int) %((2^64:Nat):Int)).toNat=c:=by omega
 rw[h3,h4,←Nat.two_pow_add_eq_or_of_lt (by simpa using hc),Bp (by omega) (by omega)]
theorem Brn(b:List UInt8)(hb:b.length=4):∀(j i q n:Nat),i+j=4→j<q→n<128^i→Ju b q (n:Int) (i:Int)=some (Anj (b.drop i) n)
 |0,i,q+1,n,hi,_,_=>by
  rw[Ju,Tj,if_neg (by rw[Af,Ac];simp;omega),show b.drop i=[] by simp;omega];rfl
 |j+1,i,q+1,n,hi,hq,hn=>by
  have hlt:i<b.length:=by omega
  have hn2:n<268435456:=Nat.lt_of_lt_of_le hn (show 128^i≤128^4 from Nat.pow_le_pow_right (by omega) (by omega))
  rw[Ju,Tj,if_pos (by rw[Af,Ac];simp;omega),Bu hlt,Aa,drop_cons hlt,Anj,Bwv]
  by_cases hc:128≤b[i].toNat
  ·rw[if_pos (by simp;omega),if_pos hc]
  ·rw[if_neg (by simp;omega),if_neg hc,Ag8,or7 n _ hn2 (by omega),Ag (by omega) (by omega)]
   exact Brn b hb j (i+1) q _ (by omega) (by omega) (by rw[Nat.pow_succ];omega)
theorem Bym(b:List UInt8)(hb:b.length=4):∀(j i q n:Nat),i+j=4→j<q→n<128^i→Hj b q (n:Int) (i:Int)=some (Anj (b.drop i) n)
 |0,i,q+1,n,hi,_,_=>by
  rw[Hj,Qv,if_neg (by rw[Af];simp;omega),show b.drop i=[] by simp;omega];rfl
 |j+1,i,q+1,n,hi,hq,hn=>by
  have hlt:i<b.length:=by omega
  have hn2:n<268435456:=Nat.lt_of_lt_of_le hn (show 128^i≤128^4 from Nat.pow_le_pow_right (by omega) (by omega))
  rw[Hj,Qv,if_pos (by rw[Af];simp;omega),Bu hlt,Aa,drop_cons hlt,Anj,Byc]
  have h128:(128:UInt8).toNat=128:=rfl
  by_cases hc:128≤b[i].toNat
  ·rw[if_pos (by simpa using hc),if_pos hc]
  ·have h3:=b[i].toNat_lt
   rw[if_neg (by simpa using hc),if_neg hc,Aa,Ag8,Gn (by omega) (by omega),Ag (by omega) (by omega),Ag (by omega) (by omega)]
   have:=Bym b hb j (i+1) q (128*n+b[i].toNat) (by omega) (by omega) (by rw[Nat.pow_succ];omega)
   rw[←this];rfl
theorem Bpj(b:List UInt8)(hb:b.length=4):Ade b=some (Anj b 0):=by
 have h:=Brn b hb 4 0 Ao 0 (by omega) (by have:=Al;omega) (by simp)
 rw[Ade,Acb,if_neg (by rw[Aj,Ac];simp;omega),Acf];exact h
theorem Btu(b:List UInt8)(hb:b.length=4):Vz b=some (Anj b 0):=by
 have h:=Bym b hb 4 0 Ao 0 (by omega) (by have:=Al;omega) (by simp)
 rw[Vz,Abt,if_neg (by rw[Aj,Ac];simp;omega),Abi];exact h
theorem Bpf{b:List UInt8}(hb:b.length=4):0≤(Anj b 0).1∧(Anj b 0).1<268435456:=by
 have:=Bql b 0 0 (by simp)
 rw[hb]at this
 simpa using this
theorem Aoy(s p:List UInt8):Ir s p=some (decide (p.length≤s.length∧s.take p.length=p)):=by
 rw[Ir]
 by_cases h:p.length≤s.length
 ·rw[if_pos (by rw[Ck,Ac,Ac];simp;omega),show Ac p=(p.length:Int)from rfl,Jq (by omega) (by omega),Aa,Fy,Aa,Int.toNat_natCast]
  congr 1
  rw[Bool.eq_iff_iff];simp[h]
 ·rw[if_neg (by rw[Ck,Ac,Ac];simp;omega)]
  simp[h]
def Au9(b:List UInt8)(n:Int):Int×Int:=
 if 4000<n then(0,4)else if(b.length:Int)<n then(0,24)else
 if b.getD 5 0=16∧(b.take n.toNat).drop (n-10).toNat≠ [51,68,73]++part b 3 7 then(0,12)else(n,0)
def Bg6(b:List UInt8)(r:Int):Int×Int:=Au9 b (r+10+(if b.getD 5 0=16 then 10 else 0))
def Aky(b:List UInt8):Int×Int:=
 if ¬(3≤b.length∧b.take 3=[73,68,51])then(0,6)else if b.length<10 then(0,24)else
 if(Anj (part b 6 4) 0).2≠0∨b.getD 4 0≠0∨¬((b.getD 5 0=0∧2≤(b.getD 3 0).toNat∧(b.getD 3 0).toNat≤4)∨(b.getD 5 0=16∧b.getD 3 0=4))then(0,12)else
 Bg6 b (Anj (part b 6 4) 0).1
theorem Avw{b:List UInt8}{i:Nat}(h:i<b.length):getI b (i:Int)=some (b.getD i 0):=by
 rw[Bu h];simp[List.getD_eq_getElem?_getD,h]
theorem Lr{b:List UInt8}(a w:Nat)(h:a+w≤b.length):Cf b (a:Int) ((a+w:Nat):Int)=some (part b a w):=by
 rw[Rq (by omega) (by omega) (by omega)];rfl
theorem Cck(b:List UInt8)(r:Int)(h10:10≤b.length)(h0:0≤r)(h1:r<268435456):Ru b r=some (Bg6 b r):=by
 have g5:getI b (5:Int)=some (b.getD 5 0):=Avw (i:=5) (by omega)
 have key:∀n:Int,10≤n→n<268435500→Rz b n=some (Au9 b n):=by
  intro n hn hn2
  rw[Rz,Ael,Au9]
  by_cases c1:4000<n
  ·rw[if_pos (by rw[Ak];simpa using c1),if_pos c1]
  ·rw[if_neg (by rw[Ak];simpa using c1),if_neg c1]
   by_cases c2:(b.length:Int)<n
   ·rw[if_pos (by rw[Af,Ac];simpa using c2),if_pos c2]
   ·have e3:Cf b (3:Int) (10:Int)=some (part b 3 7):=Lr 3 7 (by omega)
    rw[if_neg (by rw[Af,Ac];simpa using c2),if_neg c2,g5,Aa]
    by_cases c3:b.getD 5 0=16
    ·rw[if_pos (by rw[Ao6];simpa using c3),Bb (by omega) (by omega),Rq (by omega) (by omega) (by omega),Aa,e3,Aa,Cg (by rw[Cv (by omega)];simp),Aa]
     by_cases c4:(b.take n.toNat).drop (n-10).toNat=[51,68,73]++part b 3 7
     ·rw[if_neg (by simpa using c4),if_neg (by intro h;exact h.2 c4)]
     ·rw[if_pos (by simpa using c4),if_pos ⟨c3,c4⟩]
    ·rw[if_neg (by rw[Ao6];simpa using c3),if_neg (fun h=>c3 h.1)]
 rw[Ru,Aef,g5,Aa,Bg6]
 by_cases c3:b.getD 5 0=16
 ·rw[if_pos (by rw[Ao6];simpa using c3),Ag (by rw[Ag]<;>omega) (by rw[Ag]<;>omega),Ag (by omega) (by omega),key _ (by omega) (by omega),if_pos c3,show 10+r+10=r+10+10 by omega]
 ·rw[if_neg (by rw[Ao6];simpa using c3),Ag (by omega) (by omega),key _ (by omega) (by omega),if_neg c3,show 10+r=r+10+0 by omega]
theorem Bvz(b:List UInt8)(hb:b.length<4611686018427387904):Yh b=some (Aky b):=by
 rw[Yh,Adw,Aky]
 by_cases h3:3≤b.length
 ·rw[if_neg (by rw[Af,Ac];simp;omega),Jq (by omega) (by omega),Aa]
  by_cases hp:b.take 3=[73,68,51]
  ·rw[if_neg (by simpa using hp),if_neg (by simp[h3,hp]),Aeu,Ady]
   by_cases h10:b.length<10
   ·rw[if_pos (by rw[Af,Ac];simp;omega),if_pos h10]
   ·have e6:Cf b (6:Int) (10:Int)=some (part b 6 4):=Lr 6 4 (by omega)
    have g3:getI b (3:Int)=some (b.getD 3 0):=Avw (i:=3) (by omega)
    have g4:getI b (4:Int)=some (b.getD 4 0):=Avw (i:=4) (by omega)
    have g5:getI b (5:Int)=some (b.getD 5 0):=Avw (i:=5) (by omega)
    obtain⟨v1,v2⟩:=Bpf (b:=part b 6 4) (Cv (by omega))
    rw[if_neg (by rw[Af,Ac];simp;omega),if_neg h10,e6,Aa,Btu _ (Cv (by omega)),Aa]
    have ht:=Cck b (Anj (part b 6 4) 0).1 (by omega) v1 v2
    generalize Anj (part b 6 4) 0=v at*
    obtain⟨v,e⟩:=v
    simp only at ht v1 v2⊢
    simp only[Aa,g3,g4,g5,ht]
    generalize b.getD 3 0=x at*
    generalize b.getD 4 0=y at*
    generalize b.getD 5 0=z at*
    simp only[Bo7,Cd0,Bwv,Aj]
    by_cases he:e=0<;>by_cases hy:y=0<;>by_cases hz:z=0<;>by_cases hz2:z=16<;>by_cases hx:x=4<;>by_cases hx2:x.toNat<2<;>by_cases hx4:4<x.toNat<;>simp_all<;>(rw[if_neg (by omega),if_neg (by omega)])
  ·rw[if_pos (by simpa using hp),if_pos (by simp[hp])]
 ·rw[if_pos (by rw[Af,Ac];simp;omega),if_pos (by simp[h3])]
theorem Bhj(b:List UInt8)(n:Int)(h10:10≤b.length)(hn:10≤n)(hn2:n<268435500):Vt b (b.getD 5 0) n=some (Au9 b n):=by
 rw[Vt,Aqm]
 by_cases c1:4000<n
 ·rw[if_pos (by rw[Ak];simpa using c1),Au9,if_pos c1]
 ·rw[if_neg (by rw[Ak];simpa using c1)]
  by_cases c2:(b.length:Int)<n
  ·rw[if_pos (by rw[Af,Ac];simpa using c2),Au9,if_neg c1,if_pos c2]
  ·have e3:Cf b (3:Int) (10:Int)=some (part b 3 7):=Lr 3 7 (by omega)
   rw[if_neg (by rw[Af,Ac];simpa using c2)]
   by_cases c3:b.getD 5 0=16
   ·have hl:((b.take n.toNat).drop (n-10).toNat).length=10:=by simp;omega
    have ht:Au9 b n=if(b.take n.toNat).drop (n-10).toNat≠ [51,68,73]++part b 3 7 then(0,12)else(n,0):=by rw[Au9,if_neg c1,if_neg c2];simp only[c3,true_and]
    rw[if_pos (by rw[Ao6];simpa using c3),Bb (by omega) (by omega),Rq (by omega) (by omega) (by omega),Aa,ht]
    generalize(b.take n.toNat).drop (n-10).toNat=f at*
    rw[Jq (by omega) (by omega),Aa,Nk (by omega) (by omega),Aa,e3,Aa,Fy,Aa]
    have hf:f=f.take 3++f.drop 3:=(List.take_append_drop 3 f).symm
    by_cases c4:f=[51,68,73]++part b 3 7
    ·subst c4
     simp
    ·by_cases c5:f.take 3=[51,68,73]
     ·have:f.drop 3≠part b 3 7:=fun h=>c4 (by rw[hf,c5,h])
      simp only[List.cons_append,List.nil_append]at c4
      simp[c4,c5,this]
     ·simp only[List.cons_append,List.nil_append]at c4
      simp[c4,c5]
   ·rw[if_neg (by rw[Ao6];simpa using c3),Au9,if_neg c1,if_neg c2,if_neg (fun h=>c3 h.1)]
theorem Bx1(b:List UInt8)(r:Int)(h10:10≤b.length)(h0:0≤r)(h1:r<268435456):Vl b r (b.getD 5 0)=some (Bg6 b r):=by
 rw[Vl,Afc,Bg6]
 by_cases c3:b.getD 5 0=16
 ·rw[if_pos (by rw[Ao6];simpa using c3),Ag (by rw[Ag]<;>omega) (by rw[Ag]<;>omega),Ag (by omega) (by omega),Bhj b _ h10 (by omega) (by omega),if_pos c3]
 ·rw[if_neg (by rw[Ao6];simpa using c3),Ag (by omega) (by omega),Bhj b _ h10 (by omega) (by omega),if_neg c3];simp
theorem Bud(b:List UInt8)(hb:b.length<4611686018427387904):Agv b=some (Aky b):=by
 rw[Agv,Vq,Aoy,Aa]
 by_cases hp:3≤b.length∧b.take 3=[73,68,51]
 ·rw[if_neg (by simpa using hp)]
  by_cases h10:b.length<10
  ·rw[if_pos (by rw[Af,Ac];simp;omega),Aky,if_neg (fun h=>h hp),if_pos h10]
  ·have e6:Cf b (6:Int) (10:Int)=some (part b 6 4):=Lr 6 4 (by omega)
   have g3:getI b (3:Int)=some (b.getD 3 0):=Avw (i:=3) (by omega)
   have g4:getI b (4:Int)=some (b.getD 4 0):=Avw (i:=4) (by omega)
   have g5:getI b (5:Int)=some (b.getD 5 0):=Avw (i:=5) (by omega)
   obtain⟨v1,v2⟩:=Bpf (b:=part b 6 4) (Cv (by omega))
   have ht:=Bx1 b (Anj (part b 6 4) 0).1 (by omega) v1 v2
   rw[if_neg (by rw[Af,Ac];simp;omega),g3,Aa,g5,Aa,Ae3,Af0,e6,Aa,Bpj _ (Cv (by omega)),Aa,Aky,if_neg (fun h=>h hp),if_neg h10]
   generalize Anj (part b 6 4) 0=v at*
   obtain⟨v,e⟩:=v
   simp only at ht v1 v2⊢
   simp only[Aa,g4,Afl,Afk]
   generalize b.getD 3 0=x at*
   generalize b.getD 4 0=y at*
   generalize b.getD 5 0=z at*
   simp only[Bo7,Cdw,Ao6,Byc,Aj]
   have e2:(2:UInt8).toNat=2:=rfl
   have e4:(4:UInt8).toNat=4:=rfl
   by_cases he:e=0<;>by_cases hy:y=0<;>by_cases hz:z=0<;>by_cases hz2:z=16<;>by_cases hx:x=4<;>by_cases hx2:2≤x.toNat<;>by_cases hx4:x.toNat≤4<;>simp_all
 ·rw[if_pos (by rw[Bool.not_eq_true',decide_eq_false_iff_not];exact hp),Aky,if_pos hp]
theorem Bw5{b:List UInt8}{n:Int}(h:Aky b=(n,0)):10≤n∧n≤b.length∧n≤4000:=by
 unfold Aky at h
 split at h; · simp at h
 split at h; · simp at h
 split at h; · simp at h
 rename_i h10 _
 obtain⟨v1,v2⟩:=Bpf (b:=part b 6 4) (Cv (by omega))
 unfold Bg6 at h
 generalize hm:(Anj (part b 6 4) 0).1+10+(if b.getD 5 0=16 then 10 else 0)=m at h
 unfold Au9 at h
 split at h; · simp at h
 split at h; · simp at h
 split at h; · simp at h
 simp only[Prod.mk.injEq,and_true]at h
 subst h
 refine⟨?_,by omega,by omega⟩
 rw[←hm]
 split<;>omega
end Go.Pl
set_option linter.unusedVariables false
set_option linter.unusedSimpArgs false
namespace Go.Pl
open Go Go.Lv
def APE:List UInt8:=[65,80,69,84,65,71,69,88]
def Qw(n m fl:Nat):List UInt8:=APE++Nx 2000 4++Nx (n+32) 4++Nx m 4++Nx fl 4++List.replicate 8 0
theorem Ako{n:Nat}(h:n<18446744073709551616):(UInt64.ofNat n).toNat=n:=by rw[UInt64.toNat_ofNat',Nat.mod_eq_of_lt h]
theorem Aug(n m:Int)(fl:UInt64)(c:UInt64)(i q:Nat)(acc:List UInt8)(hi:i<6)(hc:getI ([(2000:UInt64),(Ae (Ad n (32:Int)):UInt64),(Ae m:UInt64),fl,(0:UInt64),(0:UInt64)]:List UInt64) (i:Int)=some c)(h:c.toNat<4294967296)(ha:acc.length≤1000000):
  Wg n m fl (q+1) (i:Int) acc=Wg n m fl q ((i+1:Nat):Int) (acc++Nx c.toNat 4):=by
 have hb:=Aix c 4 (by omega) (by omega) (by simpa using h)
 rw[Wg,An8,if_pos (by rw[Af,Ac];simp;omega),hc,Aa,Aa,show((4:Int))=((4:Nat):Int)from rfl,hb,Aa]
 simp only
 rw[Cg (by rw[Bk];omega),Aa,Ag (by omega) (by omega)];rfl
theorem Bd8(n m:Nat)(fl:UInt64)(hn:n≤3000)(hm:m≤1000)(hf:fl.toNat<4294967296):At7 (n:Int) (m:Int) fl=some (Qw n m fl.toNat):=by
 have e1:(Ae (Ad (n:Int) (32:Int)):UInt64).toNat=n+32:=by rw[Ag (by omega) (by omega),show(n:Int)+32=((n+32:Nat):Int) by omega,Pz,Ako (by omega)]
 have e2:(Ae (m:Int):UInt64).toNat=m:=by rw[Pz,Ako (by omega)]
 have hF:Ao=(Ao-7)+1+1+1+1+1+1+1:=by have:=Al;omega
 rw[At7,Av2,Avq,hF]
 rw[show((0:Int))=((0:Nat):Int)from rfl,Aug n m fl 2000 0 _ _ (by omega) rfl (by decide) (by simp),Aug n m fl _ 1 _ _ (by omega) rfl (by rw[e1];omega) (by simp[Bk]),Aug n m fl _ 2 _ _ (by omega) rfl (by rw[e2];omega) (by simp[Bk]),
  Aug n m fl fl 3 _ _ (by omega) rfl hf (by simp[Bk]),Aug n m fl 0 4 _ _ (by omega) rfl (by decide) (by simp[Bk]),Aug n m fl 0 5 _ _ (by omega) rfl (by decide) (by simp[Bk]),e1,e2]
 rw[Wg,An8,if_neg (by rw[Af,Ac];simp),Awo,Bcd,Qw]
 have z:Nx (0:UInt64).toNat 4++Nx (0:UInt64).toNat 4=List.replicate 8 0:=by decide
 have z2:Nx (2000:UInt64).toNat 4=Nx 2000 4:=rfl
 rw[List.append_assoc _ (Nx (0:UInt64).toNat 4),z,z2];rfl
theorem Br8(n m:Nat)(fl:UInt64)(hn:n≤3000)(hm:m≤1000)(hf:fl.toNat<4294967296):Nd (n:Int) (m:Int) fl=some (Qw n m fl.toNat):=by
 have e1:(Ae (Ad (n:Int) (32:Int)):UInt64).toNat=n+32:=by rw[Ag (by omega) (by omega),show(n:Int)+32=((n+32:Nat):Int) by omega,Pz,Ako (by omega)]
 have e2:(Ae (m:Int):UInt64).toNat=m:=by rw[Pz,Ako (by omega)]
 have w:∀c:UInt64,Dc c 4=some (Nx c.toNat 4):=fun c=>Bcl c 4 (by omega)
 have z2:Nx (2000:UInt64).toNat 4=Nx 2000 4:=rfl
 rw[Nd]
 simp only[w,e1,e2,Aa]
 rw[Cg (by simp[Bk]),Aa,Cg (by simp[Bk]),Aa,Cg (by simp[Bk]),Aa,Cg (by simp[Bk]),Aa,Ax8 (by omega) (by omega),Aa,Cg (by simp[Bk]),Aa,z2];rfl
theorem Ag6{b:List UInt8}{a w k:Nat}(h:a+w≤k):part (b.take k) a w=part b a w:=by rw[part,part,List.take_take,Nat.min_eq_left h]
def Ae6(b:List UInt8):Bool:=decide (Dk (part b 12 4)<32∨3032<Dk (part b 12 4)∨1000<Dk (part b 16 4))
theorem Bvo(b:List UInt8)(h:20≤b.length):(((Bw (leU (part b 12 4)) (32:UInt64))||(Ez (leU (part b 12 4)) (3032:UInt64)))||(Ez (leU (part b 16 4)) (1000:UInt64)))=Ae6 b:=by
 rw[Bby,Akm,Akm,Ak7 (by rw[Cv (by omega)];omega),Ak7 (by rw[Cv (by omega)];omega),Ae6]
 show((decide (Dk (part b 12 4)<32)||decide (3032<Dk (part b 12 4)))||decide (1000<Dk (part b 16 4)))=_
 simp[Bool.or_assoc]
theorem Bfx(b:List UInt8)(h:20≤b.length)(hb:Ae6 b=false):Ah (Ae (leU (part b 12 4)):Int) (32:Int)=((Dk (part b 12 4)-32:Nat):Int)∧(Ae (leU (part b 16 4)):Int)=((Dk (part b 16 4):Nat):Int)∧Dk (part b 12 4)-32≤3000∧Dk (part b 16 4)≤1000:=by
 simp only[Ae6,decide_eq_false_iff_not]at hb
 refine⟨?_,Ac2 (by rw[Cv (by omega)];omega),by omega,by omega⟩
 rw[Ac2 (by rw[Cv (by omega)];omega),Bb (by omega) (by omega)];omega
theorem Apm(b:List UInt8)(fl:UInt64)(h:20≤b.length)(hl:b.length<4611686018427387904)(hf:fl.toNat<4294967296):
  Ag7 b fl=some (if Ae6 b=true then(0,0,false)else(((Dk (part b 12 4)-32:Nat):Int),((Dk (part b 16 4):Nat):Int),b==Qw (Dk (part b 12 4)-32) (Dk (part b 16 4)) fl.toNat)):=by
 have a1:Amw b 12 4=some (leU (part b 12 4),0):=Bhv b 12 4 (by omega) (by omega) (by omega) hl
 have a2:Amw b 16 4=some (leU (part b 16 4),0):=Bhv b 16 4 (by omega) (by omega) (by omega) hl
 rw[Ag7,a1,Aa]
 simp only
 rw[a2,Aa]
 simp only
 rw[Bvo b h]
 cases hb:Ae6 b with
 |true=>rfl
 |false=>
  obtain⟨i1,i2,i3,i4⟩:=Bfx b h hb
  rw[i1,i2,Bd8 _ _ _ i3 i4 hf]
  rfl
theorem Bxt(b:List UInt8)(h:20≤b.length)(hl:b.length<4611686018427387904):
  Zz b=some (if Ae6 b=true then(0,0,false)else(((Dk (part b 12 4)-32:Nat):Int),((Dk (part b 16 4):Nat):Int),true)):=by
 have a1:Cf b 12 16=some (part b 12 4):=Lr 12 4 (by omega)
 have a2:Cf b 16 20=some (part b 16 4):=Lr 16 4 (by omega)
 rw[Zz,a1,Aa,Bl3 _ (by rw[Cv (by omega)];omega),Aa,a2,Aa,Bl3 _ (by rw[Cv (by omega)];omega),Aa,Bvo b h]
 cases hb:Ae6 b with
 |true=>rfl
 |false=>
  obtain⟨i1,i2,i3,i4⟩:=Bfx b h hb
  rw[i1,i2];rfl
def Ph(b:List UInt8):Int×Int:=
 if ¬(8≤b.length∧b.take 8=APE)then(0,6)else if b.length<32 then(0,24)else
 if Ae6 b=true∨b.take 32≠Qw (Dk (part b 12 4)-32) (Dk (part b 16 4)) 2684354560 then(0,12)else
 if b.length<Dk (part b 12 4)+32 then(0,24)else
 if(b.take (Dk (part b 12 4)+32)).drop (Dk (part b 12 4))≠Qw (Dk (part b 12 4)-32) (Dk (part b 16 4)) 2147483648 then(0,12)else(((Dk (part b 12 4)+32:Nat):Int),0)
theorem Bn2(b:List UInt8):Ae6 (b.take 32)=Ae6 b:=by rw[Ae6,Ae6,Ag6 (by omega),Ag6 (by omega)]
section
variable {b:List UInt8}
theorem fa1(h:¬(8≤b.length∧b.take 8=APE)):Ph b=(0,6):=by rw[Ph,if_pos h]
theorem fa2(h:8≤b.length∧b.take 8=APE)(h2:b.length<32):Ph b=(0,24):=by rw[Ph,if_neg (fun h'=>h' h),if_pos h2]
variable (h:8≤b.length∧b.take 8=APE) (h2:¬b.length<32)
include h h2
theorem fa3(h3:Ae6 b=true):Ph b=(0,12):=by rw[Ph,if_neg (fun h'=>h' h),if_neg h2,if_pos (.inl h3)]
theorem fa4(h4:b.take 32≠Qw (Dk (part b 12 4)-32) (Dk (part b 16 4)) 2684354560):Ph b=(0,12):=by rw[Ph,if_neg (fun h'=>h' h),if_neg h2,if_pos (.inr h4)]
variable (h3:Ae6 b=false) (h4:b.take 32=Qw (Dk (part b 12 4)-32) (Dk (part b 16 4)) 2684354560)
include h3 h4
theorem fa5(h5:b.length<Dk (part b 12 4)+32):Ph b=(0,24):=by
 rw[Ph,if_neg (fun h'=>h' h),if_neg h2,if_neg (fun h'=>h'.elim (fun e=>by rw[h3]at e;cases e) fun e=>e h4),if_pos h5]
theorem fa6(h5:¬b.length<Dk (part b 12 4)+32)(h6:(b.take (Dk (part b 12 4)+32)).drop (Dk (part b 12 4))≠Qw (Dk (part b 12 4)-32) (Dk (part b 16 4)) 2147483648):Ph b=(0,12):=by
 rw[Ph,if_neg (fun h'=>h' h),if_neg h2,if_neg (fun h'=>h'.elim (fun e=>by rw[h3]at e;cases e) fun e=>e h4),if_neg h5,if_pos h6]
theorem fa7(h5:¬b.length<Dk (part b 12 4)+32)(h6:(b.take (Dk (part b 12 4)+32)).drop (Dk (part b 12 4))=Qw (Dk (part b 12 4)-32) (Dk (part b 16 4)) 2147483648):Ph b=(((Dk (part b 12 4)+32:Nat):Int),0):=by
 rw[Ph,if_neg (fun h'=>h' h),if_neg h2,if_neg (fun h'=>h'.elim (fun e=>by rw[h3]at e;cases e) fun e=>e h4),if_neg h5,if_neg (fun h'=>h' h6)]
end
theorem Boq(b:List UInt8)(hl:b.length<4611686018427387904):Aul b=some (Ph b):=by
 rw[Aul,Aoy,Aa]
 by_cases hp:8≤b.length∧b.take 8=APE
 ·rw[if_neg (by simpa [APE]using hp)]
  by_cases h32:b.length<32
  ·rw[if_pos (by rw[Af,Ac];simp;omega),fa2 hp h32]
  ·have t:=Apm (b.take 32) 2684354560 (by simp;omega) (by simp;omega) (by decide)
   rw[Bn2,Ag6 (by omega),Ag6 (by omega)]at t
   rw[if_neg (by rw[Af,Ac];simp;omega),Jq (by omega) (by omega),Aa,show(32:Int).toNat=32 from rfl,t,Aa]
   cases hb:Ae6 b with
   |true=>rw[fa3 hp h32 hb];simp
   |false=>
    obtain⟨i1,i2,i3,i4⟩:=Bfx b (by omega) hb
    have i5:32≤Dk (part b 12 4):=by simp only[Ae6,decide_eq_false_iff_not]at hb;omega
    simp only[Bool.false_eq_true,if_false,false_or]
    by_cases c1:b.take 32=Qw (Dk (part b 12 4)-32) (Dk (part b 16 4)) 2684354560
    ·have c1':b.take 32=Qw (Dk (part b 12 4)-32) (Dk (part b 16 4)) (2684354560:UInt64).toNat:=c1
     rw[if_neg (by simpa using c1'),Ag (by omega) (by omega)]
     have e1:((Dk (part b 12 4)-32:Nat):Int)+64=((Dk (part b 12 4)+32:Nat):Int):=by omega
     rw[e1]
     by_cases c2:b.length<Dk (part b 12 4)+32
     ·rw[if_pos (by rw[Af,Ac];simp;omega),fa5 hp h32 hb c1 c2]
     ·rw[if_neg (by rw[Af,Ac];simp;omega),Bb (by omega) (by omega),Rq (by omega) (by omega) (by omega),Aa,Bd8 _ _ _ i3 i4 (by decide),Aa,Fy,Aa]
      rw[show(((Dk (part b 12 4)+32:Nat):Int)).toNat=Dk (part b 12 4)+32 by omega,show(((Dk (part b 12 4)+32:Nat):Int)-32).toNat=Dk (part b 12 4) by omega]
      by_cases c3:(b.take (Dk (part b 12 4)+32)).drop (Dk (part b 12 4))=Qw (Dk (part b 12 4)-32) (Dk (part b 16 4)) 2147483648
      ·have c3':(b.take (Dk (part b 12 4)+32)).drop (Dk (part b 12 4))=Qw (Dk (part b 12 4)-32) (Dk (part b 16 4)) (2147483648:UInt64).toNat:=c3
       rw[if_neg (by simpa using c3'),fa7 hp h32 hb c1 c2 c3]
      ·have c3':¬(b.take (Dk (part b 12 4)+32)).drop (Dk (part b 12 4))=Qw (Dk (part b 12 4)-32) (Dk (part b 16 4)) (2147483648:UInt64).toNat:=c3
       rw[if_pos (by simpa using c3'),fa6 hp h32 hb c1 c2 c3]
    ·have c1':¬b.take 32=Qw (Dk (part b 12 4)-32) (Dk (part b 16 4)) (2684354560:UInt64).toNat:=c1
     rw[if_pos (by simpa using c1'),fa4 hp h32 c1]
 ·rw[if_pos (by rw[Bool.not_eq_true',decide_eq_false_iff_not];exact hp),fa1 hp]
theorem Bus(b:List UInt8)(hl:b.length<4611686018427387904):Vy b=some (Ph b):=by
 rw[Vy,Abn]
 by_cases h8:8≤b.length
 ·rw[if_neg (by rw[Af,Ac];simp;omega),Jq (by omega) (by omega),Aa,show(8:Int).toNat=8 from rfl]
  by_cases ha:b.take 8=APE
  ·have hp:=And.intro h8 ha
   rw[if_neg (by simpa [APE]using ha),Abe,Ab3]
   by_cases h32:b.length<32
   ·rw[if_pos (by rw[Af,Ac];simp;omega),fa2 hp h32]
   ·have t:=Bxt (b.take 32) (by simp;omega) (by simp;omega)
    rw[Bn2,Ag6 (by omega),Ag6 (by omega)]at t
    rw[if_neg (by rw[Af,Ac];simp;omega),Jq (by omega) (by omega),Aa,show(32:Int).toNat=32 from rfl,t,Aa]
    cases hb:Ae6 b with
    |true=>rw[fa3 hp h32 hb];simp
    |false=>
     obtain⟨i1,i2,i3,i4⟩:=Bfx b (by omega) hb
     have i5:32≤Dk (part b 12 4):=by simp only[Ae6,decide_eq_false_iff_not]at hb;omega
     simp only[Bool.false_eq_true,if_false,false_or,Aa,Bool.not_true]
     rw[Ajy,Br8 _ _ _ i3 i4 (by decide),Aa,Aa]
     by_cases c1:b.take 32=Qw (Dk (part b 12 4)-32) (Dk (part b 16 4)) 2684354560
     ·have c1':b.take 32=Qw (Dk (part b 12 4)-32) (Dk (part b 16 4)) (2684354560:UInt64).toNat:=c1
      rw[if_neg (by simpa using c1'),Abs,Abo,Ag (by omega) (by omega)]
      have e1:64+((Dk (part b 12 4)-32:Nat):Int)=((Dk (part b 12 4)+32:Nat):Int):=by omega
      rw[e1]
      by_cases c2:b.length<Dk (part b 12 4)+32
      ·rw[if_pos (by rw[Af,Ac];simp;omega),fa5 hp h32 hb c1 c2]
      ·rw[if_neg (by rw[Af,Ac];simp;omega),Bb (by omega) (by omega),Rq (by omega) (by omega) (by omega),Aa,Ak0,if_pos rfl,Br8 _ _ _ i3 i4 (by decide),Aa,Aa]
       rw[show(((Dk (part b 12 4)+32:Nat):Int)).toNat=Dk (part b 12 4)+32 by omega,show(((Dk (part b 12 4)+32:Nat):Int)-32).toNat=Dk (part b 12 4) by omega]
       by_cases c3:(b.take (Dk (part b 12 4)+32)).drop (Dk (part b 12 4))=Qw (Dk (part b 12 4)-32) (Dk (part b 16 4)) 2147483648
       ·have c3':(b.take (Dk (part b 12 4)+32)).drop (Dk (part b 12 4))=Qw (Dk (part b 12 4)-32) (Dk (part b 16 4)) (2147483648:UInt64).toNat:=c3
        rw[if_neg (by simpa using c3'),fa7 hp h32 hb c1 c2 c3]
       ·have c3':¬(b.take (Dk (part b 12 4)+32)).drop (Dk (part b 12 4))=Qw (Dk (part b 12 4)-32) (Dk (part b 16 4)) (2147483648:UInt64).toNat:=c3
        rw[if_pos (by simpa using c3'),fa6 hp h32 hb c1 c2 c3]
     ·have c1':¬b.take 32=Qw (Dk (part b 12 4)-32) (Dk (part b 16 4)) (2684354560:UInt64).toNat:=c1
      rw[if_pos (by simpa using c1'),fa4 hp h32 c1]
  ·rw[if_pos (by simpa [APE]using ha),fa1 (fun h=>ha h.2)]
 ·rw[if_pos (by rw[Af,Ac];simp;omega),fa1 (fun h=>h8 h.1)]
theorem Btp{b:List UInt8}{n:Int}(h:Ph b=(n,0)):64≤n∧n≤b.length:=by
 unfold Ph at h
 split at h; · simp at h
 split at h; · simp at h
 split at h; · simp at h
 rename_i hb
 split at h; · simp at h
 split at h; · simp at h
 simp only[Prod.mk.injEq,and_true]at h
 have hb':¬Ae6 b=true:=fun e=>hb (.inl e)
 simp only[Ae6,decide_eq_true_eq]at hb'
 omega
end Go.Pl
set_option linter.unusedVariables false
set_option linter.unusedSimpArgs false
namespace Go.Pl
open Go Go.Lv
def Dt(b:List UInt8):Int×Int:=if(Aky b).2≠6 then Aky b else Ph b
theorem size_eq(b:List UInt8)(hl:b.length<4611686018427387904):Se b=some (Dt b):=by
 rw[Se,Bud b hl,Aa,Boq b hl]
 by_cases h:(Aky b).2=6
 ·simp[Dt,h,Aj]
 ·simp[Dt,h,Aj]
theorem Bd0{b:List UInt8}{n:Int}(h:Dt b=(n,0)):10≤n∧n≤b.length:=by
 unfold Dt at h
 split at h
 ·have:=Bw5 h;omega
 ·have:=Btp h;omega
def Cq(b:List UInt8):Nat→Nat→List Int×Int
 |0,_=>([],6)
 |j+1,p=>if(Dt (b.drop p)).2=6 then([],0)else if(Dt (b.drop p)).2≠0 then([],(Dt (b.drop p)).2)else
  if 4000<(p:Int)+(Dt (b.drop p)).1 then([],4)else
  if(Cq b j (p+(Dt (b.drop p)).1.toNat)).2=0 then((Dt (b.drop p)).1::(Cq b j (p+(Dt (b.drop p)).1.toNat)).1,0)else([],(Cq b j (p+(Dt (b.drop p)).1.toNat)).2)
theorem Azd(b:List UInt8):∀(j p:Nat),p≤b.length→p≤4000→(Cq b j p).2=0→(∀x∈(Cq b j p).1,10≤x)∧(p:Int)+(Cq b j p).1.sum≤b.length∧(p:Int)+(Cq b j p).1.sum≤4000
 |0,p,_,_,h=>by simp[Cq]at h
 |j+1,p,hp,hq,h=>by
  rw[Cq]at h⊢
  split at h
  ·rename_i h6;rw[if_pos h6];simp;omega
  ·rename_i h6
   split at h
   ·rename_i h0;exact absurd h h0
   ·rename_i h0
    rw[if_neg h6,if_neg h0]
    have hz:Dt (b.drop p)=((Dt (b.drop p)).1,0):=by rw[Prod.ext_iff];exact⟨rfl,Classical.not_not.1 h0⟩
    have hs:=Bd0 hz
    rw[List.length_drop]at hs
    split at h
    ·simp at h
    ·rename_i h4
     rw[if_neg h4]
     split at h
     ·rename_i h00
      rw[if_pos h00]
      obtain⟨i1,i2,i3⟩:=Azd b j _ (by omega) (by omega) h00
      refine⟨fun x hx=>?_,?_,?_⟩
      ·rcases List.mem_cons.1 hx with rfl|hx
       ·exact hs.1
       ·exact i1 x hx
      ·simp only[List.sum_cons];omega
      ·simp only[List.sum_cons];omega
     ·rename_i h00;exact absurd h h00
def Bpq(b:List UInt8)(j p:Nat):Int×Int:=if(Cq b j p).2=0 then((p:Int)+(Cq b j p).1.sum,0)else(0,(Cq b j p).2)
theorem Bc6(b:List UInt8)(hl:b.length<4611686018427387904):∀(j p q:Nat),p≤b.length→p≤4000→b.length-p<j→j≤q→Qe b q (p:Int)=some (Bpq b j p)
 |0,p,q,_,_,h,_=>by omega
 |j+1,p,q,hp,hp4,hj,hq=>by
  obtain⟨q,rfl⟩:∃k,q=k+1:=⟨q-1,by omega⟩
  rw[Qe,Nk (by omega) (by omega),Aa,Int.toNat_natCast,size_eq _ (by simp;omega),Aa,Az,Az,Aj,Bpq]
  by_cases h6:(Dt (b.drop p)).2=6
  ·rw[if_pos (by simpa using h6)]
   have:Cq b (j+1) p=([],0):=by rw[Cq,if_pos h6]
   rw[this];simp
  ·rw[if_neg (by simpa using h6)]
   by_cases h0:(Dt (b.drop p)).2=0
   ·have hz:Dt (b.drop p)=((Dt (b.drop p)).1,0):=by rw[Prod.ext_iff];exact⟨rfl,h0⟩
    have hs:=Bd0 hz
    rw[List.length_drop]at hs
    rw[Ag (by omega) (by omega),Ak]
    by_cases h4:4000<(p:Int)+(Dt (b.drop p)).1
    ·rw[if_pos (by simp[h0];omega)]
     have:Cq b (j+1) p=([],4):=by rw[Cq,if_neg h6,if_neg (fun h=>h h0),if_pos h4]
     rw[this];simp
    ·rw[if_neg (by simp[h0];omega),if_neg (by simpa using h0)]
     have ih:=Bc6 b hl j (p+(Dt (b.drop p)).1.toNat) q (by omega) (by omega) (by omega) (by omega)
     rw[show(p:Int)+(Dt (b.drop p)).1=((p+(Dt (b.drop p)).1.toNat:Nat):Int) by omega,ih,Bpq]
     have:Cq b (j+1) p=if(Cq b j (p+(Dt (b.drop p)).1.toNat)).2=0 then((Dt (b.drop p)).1::(Cq b j (p+(Dt (b.drop p)).1.toNat)).1,0)else([],(Cq b j (p+(Dt (b.drop p)).1.toNat)).2):=by
      rw[Cq,if_neg h6,if_neg (fun h=>h h0),if_neg h4]
     rw[this]
     by_cases hr:(Cq b j (p+(Dt (b.drop p)).1.toNat)).2=0
     ·simp only[hr,if_true,List.sum_cons];congr 2;omega
     ·simp only[hr,if_false]
   ·rw[if_neg (by simp[h0]),if_pos (by simpa using h0)]
    have:Cq b (j+1) p=([],(Dt (b.drop p)).2):=by rw[Cq,if_neg h6,if_pos h0]
    rw[this];simp[h0]
def Bw9(b:List UInt8)(j p:Nat)(xs:List Int):List Int×Int:=if(Cq b j p).2=0 then(xs++(Cq b j p).1,0)else([],(Cq b j p).2)
theorem Bxg(bk:Int→List Int→Option (List Int×Int))(b:List UInt8)(p:Nat)(hp:p≤b.length)(xs:List Int)(hx:xs.length≤4000)(hl:b.length<4611686018427387904):Qt (Ku bk b) b (p:Int) xs=Ku bk b (p:Int) xs (Dt (b.drop p)).1 (Dt (b.drop p)).2:=by
 have hf:=Bus (b.drop p) (by simp;omega)
 rw[Qt,Nk (by omega) (by omega),Aa,Int.toNat_natCast,Bvz _ (by simp;omega),Aa]
 by_cases h:(Aky (b.drop p)).2=6
 ·simp[Dt,h,Az,hf]
 ·simp[Dt,h,Az]
theorem Bia(b:List UInt8)(hl:b.length<4611686018427387904):∀(j p q:Nat) (xs:List Int),p≤b.length→p≤4000→b.length-p<j→j≤q→xs.length≤p→Ks b q (p:Int) xs=some (Bw9 b j p xs)
 |0,p,q,_,_,_,h,_,_=>by omega
 |j+1,p,q,xs,hp,hp4,hj,hq,hx=>by
  obtain⟨q,rfl⟩:∃k,q=k+1:=⟨q-1,by omega⟩
  rw[Ks,Bxg _ b p hp xs (by omega) hl,Ku,Abb,Az,Aj,Bw9]
  by_cases h6:(Dt (b.drop p)).2=6
  ·rw[if_pos (by simpa using h6)]
   have:Cq b (j+1) p=([],0):=by rw[Cq,if_pos h6]
   rw[this];simp
  ·rw[if_neg (by simpa using h6)]
   by_cases h0:(Dt (b.drop p)).2=0
   ·have hz:Dt (b.drop p)=((Dt (b.drop p)).1,0):=by rw[Prod.ext_iff];exact⟨rfl,h0⟩
    have hs:=Bd0 hz
    rw[List.length_drop]at hs
    rw[if_neg (by simpa using h0),Ag (by omega) (by omega),Ak]
    by_cases h4:4000<(p:Int)+(Dt (b.drop p)).1
    ·rw[if_pos (by simp;omega)]
     have:Cq b (j+1) p=([],4):=by rw[Cq,if_neg h6,if_neg (fun h=>h h0),if_pos h4]
     rw[this];simp
    ·rw[if_neg (by simp;omega),Cg (by simp;omega),Aa]
     have ih:=Bia b hl j (p+(Dt (b.drop p)).1.toNat) q (xs++[(Dt (b.drop p)).1]) (by omega) (by omega) (by omega) (by omega) (by simp;omega)
     rw[show(p:Int)+(Dt (b.drop p)).1=((p+(Dt (b.drop p)).1.toNat:Nat):Int) by omega,ih,Bw9]
     have:Cq b (j+1) p=if(Cq b j (p+(Dt (b.drop p)).1.toNat)).2=0 then((Dt (b.drop p)).1::(Cq b j (p+(Dt (b.drop p)).1.toNat)).1,0)else([],(Cq b j (p+(Dt (b.drop p)).1.toNat)).2):=by
      rw[Cq,if_neg h6,if_neg (fun h=>h h0),if_neg h4]
     rw[this]
     by_cases hr:(Cq b j (p+(Dt (b.drop p)).1.toNat)).2=0
     ·simp only[hr,if_true];simp
     ·simp only[hr,if_false]
   ·rw[if_pos (by simpa using h0)]
    have:Cq b (j+1) p=([],(Dt (b.drop p)).2):=by rw[Cq,if_neg h6,if_pos h0]
    rw[this];simp[h0]
theorem Bb2:∀{l:List Int},(∀x∈l,10≤x)→0≤l.sum∧(l.length:Int)≤l.sum
 |[],_=>by simp
 |x::l,h=>by
  have h1:=h x List.mem_cons_self
  have h2:=Bb2 (l:=l) fun y hy=>h y (List.mem_cons_of_mem _ hy)
  simp only[List.sum_cons,List.length_cons];omega
theorem Bfb(r:Int)(l:List Int)(hl:l.length≤4000)(hx:∀x∈l,10≤x):∀(j i q:Nat) (n:Int),i+j=l.length→j<q→0≤n→n+(l.drop i).sum≤4000→Hk r l q n (i:Int)=some (n+(l.drop i).sum,r)
 |0,i,q+1,n,hi,_,_,_=>by
  rw[Hk,Qh,if_neg (by rw[Af,Ac];simp;omega),show i=l.length by omega,List.drop_length]
  simp[Abp,Abm]
 |j+1,i,q+1,n,hi,hq,hn,hs=>by
  have hlt:i<l.length:=by omega
  rw[drop_cons hlt,List.sum_cons]at hs⊢
  have h1:=hx l[i] (List.getElem_mem hlt)
  have h2:=Bb2 (l:=l.drop (i+1)) fun y hy=>hx y (List.mem_of_mem_drop hy)
  rw[Hk,Qh,if_pos (by rw[Af,Ac];simp;omega),Bu hlt,Aa,Aa,Ag (by omega) (by omega),Ag (by omega) (by omega)]
  have ih:=Bfb r l hl hx j (i+1) q (n+l[i]) (by omega) (by omega) (by omega) (by omega)
  rw[show((i:Int)+1)=((i+1:Nat):Int) by omega,ih]
  congr 2;omega
def frontS(b:List UInt8):Int×Int:=Bpq b (b.length+1) 0
theorem Asn(b:List UInt8)(hl:b.length<4611686018427387904):Xe b=some (frontS b):=by
 have:=Bc6 b hl (b.length+1) 0 Ao (by omega) (by omega) (by omega) (by have:=Al;omega)
 exact this
theorem Bj7(b:List UInt8)(hl:b.length<4611686018427387904):Wj b=some (frontS b):=by
 have h:=Bia b hl (b.length+1) 0 Ao [] (by omega) (by omega) (by omega) (by have:=Al;omega) (by simp)
 have h':Aht b=some (Bw9 b (b.length+1) 0 []):=h
 rw[Wj,Abj,h',Aa,frontS,Bpq,Bw9]
 have ho:=Azd b (b.length+1) 0 (by omega) (by omega)
 by_cases h0:(Cq b (b.length+1) 0).2=0
 ·obtain⟨i1,i2,i3⟩:=ho h0
  have hp:=Bb2 i1
  simp only[h0,if_true,List.nil_append]
  have:=Bfb 0 (Cq b (b.length+1) 0).1 (by omega) i1 (Cq b (b.length+1) 0).1.length 0 Ao 0 (by omega) (by have:=Al;omega) (by omega) (by simpa using i3)
  simpa [Qu]using this
 ·simp only[h0,if_false]
  have:=Bfb (Cq b (b.length+1) 0).2 [] (by simp) (by simp) 0 0 Ao 0 (by simp) (by have:=Al;omega) (by omega) (by simp)
  simpa [Qu]using this
theorem Bs6{b:List UInt8}(h:(frontS b).2=0):0≤(frontS b).1∧(frontS b).1≤b.length∧(frontS b).1≤4000:=by
 unfold frontS Bpq at h⊢
 split at h
 ·rename_i h0
  rw[if_pos h0]
  obtain⟨i1,i2,i3⟩:=Azd b (b.length+1) 0 (by omega) (by omega) h0
  have hp:=Bb2 i1
  exact⟨by simp;omega,i2,i3⟩
 ·rename_i h0;exact absurd h h0
end Go.Pl
set_option linter.unusedVariables false
set_option linter.unusedSimpArgs false
namespace Go.Pl
open Go Go.Lv
def longN(r:Nat):Nat:=max 1 (256*r/245)
theorem Ll(r:Nat):1≤longN r:=Nat.le_max_left _ _
theorem Bfa{r:Nat}(h:r≤1048576):longN r≤1100000:=by unfold longN;omega
theorem Be4{r:Nat}(h:r≤1048576):Auq (1:Int) (Bs (Bg (256:Int) (r:Int)) (245:Int))=(longN r:Int):=by
 rw[Gn (by omega) (by omega),Afp,Int.tdiv_eq_ediv_of_nonneg (by omega),Bp (by omega) (by omega),Bkh,longN];omega
def framesL(g n:Nat):List Int:=List.replicate ((n-1)/g) (g:Int)++[((n-(n-1)/g*g:Nat):Int)]
theorem Aeo(g n:Nat):(framesL g n).length=(n-1)/g+1:=by simp[framesL]
theorem Avh{g n:Nat}(h:n≤g)(h1:1≤n):framesL g n=[(n:Int)]:=by
 rw[framesL,Nat.div_eq_of_lt (by omega)];simp
theorem Ba8{g n:Nat}(hg:1≤g)(h:g<n):framesL g n=(g:Int)::framesL g (n-g):=by
 have e:(n-1)/g=(n-g-1)/g+1:=by rw[←Nat.add_div_right _ (by omega)];congr 1;omega
 rw[framesL,framesL,e,List.replicate_succ,List.cons_append]
 congr 4
 have:=Nat.div_mul_le_self (n-g-1) g
 rw[Nat.add_mul,Nat.one_mul];omega
theorem Ayf{g n:Nat}(hg:1≤g)(h1:1≤n):(n+g-1)/g=(n-1)/g+1:=by
 rw[←Nat.add_div_right _ (by omega)];congr 1;omega
theorem Bg3{r:Nat}(h1:1≤r)(h:r≤1048576):Lm (r:Int)=some ((longN r:Int),0):=by
 rw[Lm,if_neg (by simp[Af,Ak];omega),Be4 h]
theorem Bvn{r:Nat}(h:r≤1048576):Rc (r:Int)=some (longN r:Int):=by rw[Rc,Be4 h]
theorem An9{r n:Nat}(h1:1≤r)(h:r≤1048576)(n1:1≤n)(n2:n≤4000):Fh (r:Int) (n:Int)=some (if 1000<(n-1)/longN r+1 then(0,4)else((((n-1)/longN r+1:Nat):Int),0)):=by
 have hp:=Ll r
 have hl:=Bfa h
 have e:Bs (Ah (Ad (n:Int) (longN r:Int)) (1:Int)) (longN r:Int)=(((n-1)/longN r+1:Nat):Int):=by
  have:(n+longN r-1)/longN r≤n+longN r-1:=Nat.div_le_self _ _
  rw[Ag (by omega) (by omega),Bb (by omega) (by omega),Afp,Int.tdiv_eq_ediv_of_nonneg (by omega),show(n:Int)+(longN r:Int)-1=((n+longN r-1:Nat):Int) by omega,←Int.natCast_ediv,Ayf hp n1]
  rw[Ayf hp n1]at this
  generalize(n-1)/longN r=k at*
  exact Bp (by omega) (by omega)
 rw[Fh,Bg3 h1 h,Aa]
 simp only
 rw[if_neg (by rw[Aj];simp),if_neg (by simp[Af,Ak];omega),Ay (by rw[Aj];simp;omega),Aa,e]
 by_cases hk:1000<(n-1)/longN r+1
 ·rw[if_pos (by rw[Ak];simp;omega),if_pos hk]
 ·rw[if_neg (by rw[Ak];simp;omega),if_neg hk]
theorem Bd6{r:Nat}(h:r≤1048576):∀(j n q:Nat) (acc:List Int),n≤4000→n≤j→j<q→acc.length+n≤10000→Dy (r:Int) q (n:Int) acc=some (acc++(if n=0 then []else framesL (longN r) n))
 |0,n,q+1,acc,hn,hj,hq,ha=>by
  obtain rfl:n=0:=by omega
  rw[Dy,He,if_neg (by rw[Ak];simp)]
  simp[Kr,Kq]
 |j+1,n,q+1,acc,hn,hj,hq,ha=>by
  have hp:=Ll r
  have hl:=Bfa h
  by_cases h0:n=0
  ·subst h0
   rw[Dy,He,if_neg (by rw[Ak];simp)]
   simp[Kr,Kq]
  ·rw[Dy,He,if_pos (by rw[Ak];simp;omega),Bvn h,Aa,Cg (by simp;omega),Aa,Aa,Bb (by omega) (by omega),Ab6]
   by_cases hs:n≤longN r
   ·rw[show min (n:Int) (longN r:Int)=(n:Int) by omega,if_neg h0,Avh hs (by omega)]
    have hz:∃k,q=k+1:=⟨q-1,by omega⟩
    obtain⟨q,rfl⟩:=hz
    rw[Dy,He,if_neg (by rw[Ak];simp;omega)]
    simp[Kr,Kq]
   ·rw[show min (n:Int) (longN r:Int)=(longN r:Int) by omega,show(n:Int)-(longN r:Int)=((n-longN r:Nat):Int) by omega,Bd6 h j (n-longN r) q _ (by omega) (by omega) (by omega) (by simp;omega),if_neg (by omega),if_neg h0,Ba8 hp (show longN r<n by omega)]
    simp
theorem Aw8{r n:Nat}(h:r≤1048576)(n1:1≤n)(n2:n≤4000):Kh (r:Int) (n:Int)=some (framesL (longN r) n):=by
 have:=Bd6 h n n Ao [] n2 (Nat.le_refl _) (by have:=Al;omega) (by simp;omega)
 rw[Kh,Abv,Ab2,this,if_neg (by omega)];rfl
theorem mul_one(m:Nat)(h:m≤100000):Ac4 (1:UInt64) (UInt64.ofNat m)=some (0,UInt64.ofNat m):=by
 have y1:(UInt64.ofNat m).toNat=m:=Ako (by omega)
 have s1:Bl (1:UInt64) (GI.toZ (32:UInt64)).toNat=0:=by decide
 have s2:Bl (UInt64.ofNat m) (GI.toZ (32:UInt64)).toNat=0:=by
  apply UInt64.toNat_inj.1
  rw[Aai,y1]
  exact Nat.div_eq_of_lt (Nat.lt_of_le_of_lt h (by decide))
 have s0:Bl (0:UInt64) (GI.toZ (32:UInt64)).toNat=0:=by decide
 have a1:Cx (1:UInt64) (4294967295:UInt64)=1:=by decide
 have a0:Cx (0:UInt64) (4294967295:UInt64)=0:=by decide
 have a2:Cx (UInt64.ofNat m) (4294967295:UInt64)=UInt64.ofNat m:=by
  apply UInt64.toNat_inj.1
  rw[Bfy,UInt64.toNat_and,y1]
  show m&&& (2^32-1)=m
  rw[Nat.and_two_pow_sub_one_eq_mod,Nat.mod_eq_of_lt (by omega)]
 have m1:∀x:UInt64,Bg 1 x=x:=fun x=>by rw[Aed,UInt64.one_mul]
 have m0:∀x:UInt64,Bg 0 x=0:=fun x=>by rw[Aed,UInt64.zero_mul]
 have p0:∀x:UInt64,Ad 0 x=x:=fun x=>by rw[Aeb,UInt64.zero_add]
 have p1:∀x:UInt64,Ad x 0=x:=fun x=>by rw[Aeb,UInt64.add_zero]
 rw[Ac4,Ae8]
 simp only[s1,s2,a1,a2,m1,m0,p0,p1,s0,a0,Aa]
theorem Bas(v:Int)(m:Nat)(hm:m≤100000):∀(j n q:Nat),1≤n→n≤m→m-n≤j→j<q→Dm q (n:Int) (List.replicate n v++List.replicate (m-n) 0)=some (List.replicate m v)
 |j,n,q+1,hn,hnm,hj,hq=>by
  have hlen:Ac (List.replicate n v++List.replicate (m-n) 0)=(m:Int):=by simp[Ac];omega
  rw[Dm,Fi,hlen]
  by_cases h:n<m
  ·obtain⟨j,rfl⟩:∃k,j=k+1:=⟨j-1,by omega⟩
   rw[if_pos (by rw[Af];simp;omega)]
   have v1:vwI (m:Int) (n:Int) (m:Int)=some ():=by rw[vwI,Ay];simp;omega
   have v2:vwI (m:Int) (0:Int) (n:Int)=some ():=by rw[vwI,Ay];simp;omega
   have e1:Ajv (List.replicate n v++List.replicate (m-n) 0) (0:Int) ((n:Int)-0)=List.replicate n v:=by
    simp[Ajv]
   rw[v1,Aa,v2,Aa,e1]
   have e2:Ajj ((m:Int)-(n:Int)) (List.replicate n v).length=((min n (m-n):Nat):Int):=by
    rw[Ajj,List.length_replicate];split<;>omega
   have e3:Ql (List.replicate n v++List.replicate (m-n) 0) (n:Int) ((m:Int)-(n:Int)) (List.replicate n v)=List.replicate (n+min n (m-n)) v++List.replicate (m-(n+min n (m-n))) 0:=by
    have t1:((m:Int)-(n:Int)).toNat=m-n:=by omega
    have t2:(List.replicate n v++List.replicate (m-n) (0:Int)).take n=List.replicate n v:=by simp
    rw[Ql,t1,Int.toNat_natCast,t2,List.take_replicate,List.length_replicate,←List.append_assoc,List.replicate_append_replicate,List.drop_append,List.length_replicate,Nat.min_comm (m-n) n]
    simp only[List.drop_replicate]
    rw[show n-(n+min n (m-n))=0 by omega,List.replicate_zero,List.nil_append,show m-n-(n+min n (m-n)-n)=m-(n+min n (m-n)) by omega]
   rw[e2,e3,Ag (by omega) (by omega),show(n:Int)+((min n (m-n):Nat):Int)=((n+min n (m-n):Nat):Int) by omega]
   exact Bas v m hm j (n+min n (m-n)) q (by omega) (by omega) (by omega) (by omega)
  ·rw[if_neg (by rw[Af];simp;omega)]
   obtain rfl:n=m:=by omega
   simp[Gy,Le]
theorem Bvd(v:Int)(m:Nat)(hm:m≤100000):Kv [v] (m:Int)=some (List.replicate m v):=by
 have y1:(UInt64.ofNat m).toNat=m:=Ako (by omega)
 have c1:(Ae (Ac [v]):UInt64)=1:=by rfl
 have c2:(Ae (m:Int):UInt64)=UInt64.ofNat m:=Pz m
 have c3:(Ae (UInt64.ofNat m):Int)=(m:Int):=by rw[Azx (by omega),y1]
 rw[Kv,Ly,if_neg (by rw[Af];simp),Lz,Ml,c1,c2,mul_one m hm,Aa]
 simp only
 rw[if_neg (by rw[Akm,Akm,y1];simp;show m≤9223372036854775807;omega),Mj,Mh,c3,Ax8 (by omega) (by omega),Aa,Ay (by rw[Az];simp),Aa,Mi,Int.toNat_natCast]
 by_cases h0:m=0
 ·subst h0
  have hF:Ao=(Ao-1)+1:=by have:=Al;omega
  rw[hF,Dm,Fi]
  simp[Ac,Bd9,Ajj,Af,Gy,Le]
 ·have:=Bas v m hm m 1 Ao (by omega) (by omega) (by omega) (by have:=Al;omega)
  have e1:Ajj (Ac (List.replicate m (0:Int))) [v].length=((1:Nat):Int):=by simp[Ajj,Ac];omega
  have e2:Bd9 (List.replicate m (0:Int)) [v]=List.replicate 1 v++List.replicate (m-1) 0:=by
   obtain⟨k,rfl⟩:∃k,m=k+1:=⟨m-1,by omega⟩
   simp[Bd9]
  rw[e1,e2,this]
theorem Bun(l m:List Int)(h:l.length+m.length≤1000000):Kt [l,m]=some (l++m):=by
 have hF:Ao=(Ao-3)+1+1+1:=by have:=Al;omega
 rw[Kt,Mf,Me]
 have g0:getI [l,m] (0:Int)=some l:=rfl
 have g1:getI [l,m] (1:Int)=some m:=rfl
 have l2:Ac [l,m]=2:=rfl
 have h3:Ha [l,m] []=some (l++m):=by
  rw[Ha,Lc,Lb,hF,Dd,Ey,l2,if_pos (by decide),g0,Aa,Cg (by simp;omega),Aa,List.nil_append,show Ad (0:Int) 1=1 by decide,
   Dd,Ey,l2,if_pos (by decide),g1,Aa,Cg (by omega),Aa,show Ad (1:Int) 1=2 by decide,Dd,Ey,l2,if_neg (by decide)]
  rfl
 rw[hF,Dq,Ff,l2,if_pos (by decide),g0,Aa,Ag (by unfold Ac;omega) (by unfold Ac;omega),if_neg (by rw[Af,Ac];simp),show Ad (0:Int) 1=1 by decide,
  Dq,Ff,l2,if_pos (by decide),g1,Aa,Ag (by unfold Ac;omega) (by unfold Ac;omega),if_neg (by rw[Af,Ac,Ac];simp;omega),show Ad (1:Int) 1=2 by decide,
  Dq,Ff,l2,if_neg (by decide),La,Lg,if_neg (by rw[Af,Ac,Ac];simp;omega),Lf,Ld]
 have z:Ah (0:Int) 0=0:=by decide
 have n0:(0:Int)+Ac l+Ac m=((l.length+m.length:Nat):Int):=by simp[Ac]
 rw[z,n0,Bb (by omega) (by omega),Int.sub_zero]
 by_cases hp:0<l.length+m.length
 ·rw[if_pos (by rw[Ak];simp;omega),show vwI (0:Int) 0 0=some ()from rfl,Aa,Ax8 (by omega) (by omega),Aa,Cg (by simp;omega),Aa]
  rw[show vwI (Ac ([]++List.replicate ((l.length+m.length:Nat):Int).toNat (0:Int))) 0 0=some () by rw[vwI,Ay];simp[Ac];omega,Aa]
  simp only[Ajv,Int.sub_self,Int.toNat_zero,List.take_zero]
  exact h3
 ·rw[if_neg (by rw[Ak];simp;omega)];exact h3
theorem Bmj{r n:Nat}(h1:1≤r)(h:r≤1048576)(n1:1≤n)(n2:n≤4000)(hk:(n-1)/longN r+1≤1000):Ry (r:Int) (n:Int)=some (framesL (longN r) n,0):=by
 have hp:=Ll r
 have hl:=Bfa h
 have hd:=Nat.div_mul_le_self (n-1) (longN r)
 rw[Ry,An9 h1 h n1 n2,if_neg (by omega),Aa]
 simp only
 rw[if_neg (by rw[Aj];simp),Bg3 h1 h,Aa]
 simp only
 rw[framesL]
 generalize(n-1)/longN r=k at*
 have e1:Ah ((k+1:Nat):Int) 1=(k:Int):=by rw[Bb (by omega) (by omega)];omega
 have e2:(k:Int)*(longN r:Int)=((k*longN r:Nat):Int):=by simp
 rw[e1,Bvd _ _ (by omega),Aa,Gn (by rw[e2];omega) (by rw[e2];omega),e2,Bb (by omega) (by omega),Aji,Bun _ _ (by simp;omega),Aa,Aa,show(n:Int)-((k*longN r:Nat):Int)=((n-k*longN r:Nat):Int) by omega]
end Go.Pl
set_option linter.unusedVariables false
set_option linter.unusedSimpArgs false
namespace Go.Pl
open Go Go.Lv
def shapeB(f c w r n:Nat):Bool:=decide ((f=1∨f=2)∧(1≤c∧c≤6)∧(w=8∨w=16∨w=24)∧(1≤r∧r≤1048576)∧1≤n)
def fitB(c r n:Nat):Bool:=decide (n≤4000/c∧(n-1)/longN r+1≤1000)
theorem As7(f c w r n:Nat):Ul (f:Int) (c:Int) (w:Int) (r:Int) (n:Int)=some (shapeB f c w r n):=by
 have e2:Sn (f:Int) (c:Int) (w:Int) (r:Int) (n:Int)=some (decide ((f=1∨f=2)∧(1≤c∧c≤6)∧(1≤r∧r≤1048576)∧1≤n)):=by
  rw[Sn,Anb]
  congr 1
  rw[Bool.eq_iff_iff]
  simp only[Az,Ak,Am5,Bool.and_eq_true,Bool.or_eq_true,beq_iff_eq,decide_eq_true_eq]
  omega
 have g:∀k:Nat,geq (w:Int) (k:Int)=decide (w=k):=fun k=>by rw[Az,Bool.eq_iff_iff];simp;omega
 have g8:geq (w:Int) (8:Int)=decide (w=8):=g 8
 have g16:geq (w:Int) (16:Int)=decide (w=16):=g 16
 have g24:geq (w:Int) (24:Int)=decide (w=24):=g 24
 rw[Ul,Acz,e2,g8,g16,g24,shapeB]
 by_cases h8:w=8
 ·subst h8;simp
 ·by_cases h16:w=16
  ·subst h16;simp
  ·by_cases h24:w=24
   ·subst h24;simp
   ·simp[h8,h16,h24]
theorem Bou(f c w r n:Nat):Uh (f:Int) (c:Int) (w:Int) (r:Int) (n:Int)=some (shapeB f c w r n):=by
 rw[Uh,shapeB]
 simp only[Az,Ck,Am5,Bool.and_eq_true,Bool.or_eq_true,beq_iff_eq,decide_eq_true_eq,Bool.false_and]
 split
 ·rename_i h
  congr 1
  rw[Bool.eq_iff_iff]
  simp only[Bool.and_eq_true,Bool.or_eq_true,beq_iff_eq,decide_eq_true_eq]
  omega
 ·rename_i h
  congr 1
  symm
  rw[decide_eq_false_iff_not]
  omega
theorem Ccs{c:Nat}(h:1≤c):Bs (4000:Int) (c:Int)=((4000/c:Nat):Int):=by
 have:4000/c≤4000:=Nat.div_le_self _ _
 rw[Afp,Int.tdiv_eq_ediv_of_nonneg (by omega),show(4000:Int)=((4000:Nat):Int)from rfl,←Int.natCast_ediv]
 generalize 4000/c=k at*
 exact Bp (by omega) (by omega)
theorem Az1{f c w r n:Nat}(h:shapeB f c w r n=true):Ad0 (f:Int) (c:Int) (w:Int) (r:Int) (n:Int)=some (fitB c r n):=by
 simp only[shapeB,decide_eq_true_eq]at h
 have hd:4000/c≤4000:=Nat.div_le_self _ _
 rw[Ad0,Ay (by rw[Aj];simp;omega),Aa,Ccs (by omega),fitB]
 generalize 4000/c=m at*
 by_cases h1:n≤m
 ·rw[if_neg (by rw[Ak];simp;omega),An9 (by omega) (by omega) (by omega) (by omega),Aa]
  generalize(n-1)/longN r+1=k
  by_cases h2:1000<k
  ·rw[if_pos h2]
   simp[Az,Am5]
   omega
  ·rw[if_neg h2]
   simp[Az,Am5,h1]
   omega
 ·rw[if_pos (by rw[Ak];simp;omega)]
  simp[h1]
theorem Bxn{f c w r n:Nat}(h:shapeB f c w r n=true):Aaf (f:Int) (c:Int) (w:Int) (r:Int) (n:Int)=some (!fitB c r n):=by
 simp only[shapeB,decide_eq_true_eq]at h
 have hd:4000/c≤4000:=Nat.div_le_self _ _
 rw[Aaf,Ay (by rw[Aj];simp;omega),Aa,Ccs (by omega),fitB]
 generalize 4000/c=m at*
 by_cases h1:n≤m
 ·rw[if_neg (by rw[Ak];simp;omega),Aw8 (by omega) (by omega) (by omega),Aa,Ac,Aeo]
  generalize(n-1)/longN r+1=k
  congr 1
  rw[Ak,Bool.eq_iff_iff]
  simp only[decide_eq_true_eq,Bool.not_eq_true',decide_eq_false_iff_not]
  omega
 ·rw[if_pos (by rw[Ak];simp;omega)]
  simp[h1]
def Lu:List UInt8:=[84,84,65,49]
def f0(b:List UInt8):Nat:=Dk (part b 4 2)
def f1(b:List UInt8):Nat:=Dk (part b 6 2)
def f2(b:List UInt8):Nat:=Dk (part b 8 2)
def f3(b:List UInt8):Nat:=Dk (part b 10 4)
def f4(b:List UInt8):Nat:=Dk (part b 14 4)
abbrev H6:=Int×Int×Int×Int×Int×Int
def readS(b:List UInt8):H6:=
 if b.take (min 4 b.length)≠Lu.take (min 4 b.length)then(0,0,0,0,0,12)else if b.length<22 then(0,0,0,0,0,24)else
 if(Ca (b.take 18)).toNat≠Dk (part b 18 4)then(0,0,0,0,0,22)else
 if shapeB (f0 b) (f1 b) (f2 b) (f3 b) (f4 b)=false then(0,0,0,0,0,12)else
 if fitB (f1 b) (f3 b) (f4 b)=false then(0,0,0,0,0,4)else((f0 b:Int),(f1 b:Int),(f2 b:Int),(f3 b:Int),(f4 b:Int),0)
section
variable {b:List UInt8}
theorem rs1(h:b.take (min 4 b.length)≠Lu.take (min 4 b.length)):readS b=(0,0,0,0,0,12):=by rw[readS,if_pos h]
variable (h:b.take (min 4 b.length)=Lu.take (min 4 b.length))
include h
theorem rs2(h2:b.length<22):readS b=(0,0,0,0,0,24):=by rw[readS,if_neg (fun e=>e h),if_pos h2]
variable (h2:¬b.length<22)
include h2
theorem rs3(h3:(Ca (b.take 18)).toNat≠Dk (part b 18 4)):readS b=(0,0,0,0,0,22):=by rw[readS,if_neg (fun e=>e h),if_neg h2,if_pos h3]
variable (h3:(Ca (b.take 18)).toNat=Dk (part b 18 4))
include h3
theorem rs4(h4:shapeB (f0 b) (f1 b) (f2 b) (f3 b) (f4 b)=false):readS b=(0,0,0,0,0,12):=by rw[readS,if_neg (fun e=>e h),if_neg h2,if_neg (fun e=>e h3),if_pos h4]
variable (h4:shapeB (f0 b) (f1 b) (f2 b) (f3 b) (f4 b)=true)
include h4
theorem rs5(h5:fitB (f1 b) (f3 b) (f4 b)=false):readS b=(0,0,0,0,0,4):=by rw[readS,if_neg (fun e=>e h),if_neg h2,if_neg (fun e=>e h3),if_neg (by rw[h4];simp),if_pos h5]
theorem rs6(h5:fitB (f1 b) (f3 b) (f4 b)=true):readS b=((f0 b:Int),(f1 b:Int),(f2 b:Int),(f3 b:Int),(f4 b:Int),0):=by rw[readS,if_neg (fun e=>e h),if_neg h2,if_neg (fun e=>e h3),if_neg (by rw[h4];simp),if_neg (by rw[h5];simp)]
end
theorem Bv4(b:List UInt8)(h2:¬b.length<22):Bf (Ae (Ca (b.take 18)):UInt64) (leU (part b 18 4))=decide ((Ca (b.take 18)).toNat≠Dk (part b 18 4)):=by
 rw[Ag2,Cd,Bool.eq_iff_iff]
 simp only[bne_iff_ne,ne_eq,decide_eq_true_eq]
 rw[←UInt64.toNat_inj,Ako (by have:=(Ca (b.take 18)).toNat_lt;omega),Ak7 (by rw[Cv (by omega)];omega)]
theorem Atd(b:List UInt8)(a w:Nat)(i q:Nat)(l:List Int)(hi:i<5)(hl:l.length=5)(hw:getI ([2,2,2,4,4]:List Int) (i:Int)=some (w:Int))(h1:1≤w)(h4:w≤4)(ha:a+w≤b.length)(hb:b.length<4611686018427387904):
  Kk b (q+1) (a:Int) (i:Int) l=Kk b q ((a+w:Nat):Int) ((i+1:Nat):Int) (l.set i (Dk (part b a w):Int)):=by
 rw[Kk,Aag,if_pos (by rw[Af];simp;omega),hw,Aa,Bhv b a w h1 (by omega) ha hb,Aa]
 simp only
 rw[Bu (by omega),Aa,My _ (by omega),Aa,Ac2 (by rw[Cv ha];omega),Ag (by omega) (by omega),Ag (by omega) (by omega)]
 rfl
theorem Bwd(b:List UInt8)(h22:¬b.length<22)(hb:b.length<4611686018427387904):Zi b 4 0 (List.replicate 5 0)=Zh [(f0 b:Int),(f1 b:Int),(f2 b:Int),(f3 b:Int),(f4 b:Int)]:=by
 have hF:Ao=(Ao-6)+1+1+1+1+1+1:=by have:=Al;omega
 rw[Zi,hF,show(4:Int)=((4:Nat):Int)from rfl,show(0:Int)=((0:Nat):Int)from rfl]
 rw[Atd b 4 2 0 _ _ (by omega) (by simp) rfl (by omega) (by omega) (by omega) hb,Atd b 6 2 1 _ _ (by omega) (by simp) rfl (by omega) (by omega) (by omega) hb,Atd b 8 2 2 _ _ (by omega) (by simp) rfl (by omega) (by omega) (by omega) hb,
  Atd b 10 4 3 _ _ (by omega) (by simp) rfl (by omega) (by omega) (by omega) hb,Atd b 14 4 4 _ _ (by omega) (by simp) rfl (by omega) (by omega) (by omega) hb,Kk,Aag,if_neg (by rw[Af];simp)]
 rfl
theorem Cgn(b:List UInt8):Ra [84,84,65,49] (b.take (min 4 b.length))=some (decide (b.take (min 4 b.length)=Lu.take (min 4 b.length))):=by
 have hl:(b.take (min 4 b.length)).length=min 4 b.length:=by rw[List.length_take];omega
 rw[Ra,Hn,if_pos (by rw[Ck,Ac,Ac,hl];simp;omega),Ac,hl,Jq (by omega) (by simp;omega),Aa,Aa,Int.toNat_natCast]
 congr 1
 rw[Bool.eq_iff_iff]
 rw[decide_eq_true_eq,beq_iff_eq]
 exact eq_comm
theorem Cf1(b:List UInt8):Da (4:Int) (Ac b)=((min 4 b.length:Nat):Int):=by rw[Ab6,Ac];omega
theorem Bhh(b:List UInt8)(hb:b.length<4611686018427387904):Ak4 b=some (readS b):=by
 rw[Ak4,Ahl,Cf1,Jq (by omega) (by omega),Aa,Int.toNat_natCast,Cgn,Aa]
 by_cases h:b.take (min 4 b.length)=Lu.take (min 4 b.length)
 ·rw[if_neg (by simpa using h)]
  by_cases h2:b.length<22
  ·rw[if_pos (by rw[Af,Ac];simp;omega),rs2 h h2]
  ·have a1:Amw b 18 4=some (leU (part b 18 4),0):=Bhv b 18 4 (by omega) (by omega) (by omega) hb
   rw[if_neg (by rw[Af,Ac];simp;omega),a1,Aa]
   simp only
   rw[Jq (by omega) (by omega),Aa,show(18:Int).toNat=18 from rfl,Az6 _ (by simp;omega),Aa]
   simp only
   rw[Bv4 b h2]
   by_cases h3:(Ca (b.take 18)).toNat=Dk (part b 18 4)
   ·rw[if_neg (by simpa using h3),Bwd b h2 hb,Zh,As4]
    rw[show getI [(f0 b:Int),(f1 b:Int),(f2 b:Int),(f3 b:Int),(f4 b:Int)] 0=some (f0 b:Int)from rfl,show getI [(f0 b:Int),(f1 b:Int),(f2 b:Int),(f3 b:Int),(f4 b:Int)] 1=some (f1 b:Int)from rfl,show getI [(f0 b:Int),(f1 b:Int),(f2 b:Int),(f3 b:Int),(f4 b:Int)] 2=some (f2 b:Int)from rfl,
     show getI [(f0 b:Int),(f1 b:Int),(f2 b:Int),(f3 b:Int),(f4 b:Int)] 3=some (f3 b:Int)from rfl,show getI [(f0 b:Int),(f1 b:Int),(f2 b:Int),(f3 b:Int),(f4 b:Int)] 4=some (f4 b:Int)from rfl]
    simp only[Aa,As7]
    cases h4:shapeB (f0 b) (f1 b) (f2 b) (f3 b) (f4 b)with
    |false=>rw[rs4 h h2 h3 h4];rfl
    |true=>
     rw[Az1 h4,if_neg (by simp),Aa]
     cases h5:fitB (f1 b) (f3 b) (f4 b)with
     |false=>rw[rs5 h h2 h3 h4 h5];rfl
     |true=>rw[rs6 h h2 h3 h4 h5];rfl
   ·rw[if_pos (by simpa using h3),rs3 h h2 h3]
 ·rw[if_pos (by simpa using h),rs1 h]
theorem Bw0(b:List UInt8)(hb:b.length<4611686018427387904):Yq b=some (readS b):=by
 rw[Yq,Adr,Cf1,Jq (by omega) (by omega),Aa,Int.toNat_natCast,Jq (by omega) (by simp;omega),Aa,Int.toNat_natCast]
 by_cases h:b.take (min 4 b.length)=Lu.take (min 4 b.length)
 ·rw[if_neg (by rw[h];simp[Lu]),Ad3,Ad4]
  by_cases h2:b.length<22
  ·rw[if_pos (by rw[Af,Ac];simp;omega),rs2 h h2]
  ·have a1:Cf b 18 22=some (part b 18 4):=Lr 18 4 (by omega)
   have c1:Cf b 4 6=some (part b 4 2):=Lr 4 2 (by omega)
   have c2:Cf b 6 8=some (part b 6 2):=Lr 6 2 (by omega)
   have c3:Cf b 8 10=some (part b 8 2):=Lr 8 2 (by omega)
   have c4:Cf b 10 14=some (part b 10 4):=Lr 10 4 (by omega)
   have c5:Cf b 14 18=some (part b 14 4):=Lr 14 4 (by omega)
   have hs:Bf (leU (part b 18 4)) (Ae (Ca (b.take 18)):UInt64)=decide ((Ca (b.take 18)).toNat≠Dk (part b 18 4)):=by
    rw[←Bv4 b h2,Ag2,Ag2,Bool.eq_iff_iff];simp only[bne_iff_ne,ne_eq];exact not_congr eq_comm
   have lp:∀a w,a+w≤b.length→Cp (part b a w)=some (leU (part b a w)):=fun a w h=>Bl3 _ (by rw[Cv h];omega)
   rw[if_neg (by rw[Af,Ac];simp;omega),a1,Aa,Jq (by omega) (by omega),Aa,show(18:Int).toNat=18 from rfl,lp _ _ (by omega),Aa,Bvy _ (by simp;omega),Aa,hs]
   by_cases h3:(Ca (b.take 18)).toNat=Dk (part b 18 4)
   ·rw[if_neg (by simpa using h3),Aek,Adp,c1,Aa,c2,Aa,c3,Aa,c4,Aa,c5,Aa,lp _ _ (by omega),Aa,lp _ _ (by omega),Aa,lp _ _ (by omega),Aa,lp _ _ (by omega),Aa,lp _ _ (by omega),Aa,
     Aei,Ad7,Ac2 (by rw[Cv (by omega)];omega),Ac2 (by rw[Cv (by omega)];omega),Ac2 (by rw[Cv (by omega)];omega),Ac2 (by rw[Cv (by omega)];omega),Ac2 (by rw[Cv (by omega)];omega)]
    rw[show Dk (part b 4 2)=f0 b from rfl,show Dk (part b 6 2)=f1 b from rfl,show Dk (part b 8 2)=f2 b from rfl,show Dk (part b 10 4)=f3 b from rfl,show Dk (part b 14 4)=f4 b from rfl,Bou,Aa]
    cases h4:shapeB (f0 b) (f1 b) (f2 b) (f3 b) (f4 b)with
    |false=>rw[rs4 h h2 h3 h4];rfl
    |true=>
     rw[Bxn h4,if_neg (by simp),Aa]
     cases h5:fitB (f1 b) (f3 b) (f4 b)with
     |false=>rw[rs5 h h2 h3 h4 h5];rfl
     |true=>rw[rs6 h h2 h3 h4 h5];rfl
   ·rw[if_pos (by simpa using h3),rs3 h h2 h3]
 ·rw[if_pos (by simpa [Lu]using h),rs1 h]
theorem Bxa{b:List UInt8}(h:(readS b).2.2.2.2.2=0):readS b=((f0 b:Int),(f1 b:Int),(f2 b:Int),(f3 b:Int),(f4 b:Int),0)∧22≤b.length∧shapeB (f0 b) (f1 b) (f2 b) (f3 b) (f4 b)=true∧fitB (f1 b) (f3 b) (f4 b)=true:=by
 unfold readS at h⊢
 split at h; · simp at h
 rename_i c1;rw[if_neg c1]
 split at h; · simp at h
 rename_i c2;rw[if_neg c2]
 split at h; · simp at h
 rename_i c3;rw[if_neg c3]
 split at h; · simp at h
 rename_i c4;rw[if_neg c4]
 split at h; · simp at h
 rename_i c5;rw[if_neg c5]
 exact⟨rfl,by omega,by simpa using c4,by simpa using c5⟩
theorem Asc{f c w r n:Nat}(h:shapeB f c w r n=true)(h2:fitB c r n=true):Qb (f:Int) (c:Int) (w:Int) (r:Int) (n:Int)=some (framesL (longN r) n,0):=by
 have hc:Ou (f:Int) (c:Int) (w:Int) (r:Int) (n:Int)=some 0:=by
  rw[Ou,As7,Aa,h,if_neg (by simp),Az1 h,Aa,h2];rfl
 have hd:4000/c≤4000:=Nat.div_le_self _ _
 simp only[shapeB,decide_eq_true_eq]at h
 simp only[fitB,decide_eq_true_eq]at h2
 rw[Qb,hc,Aa,if_neg (by rw[Aj];simp),Bmj (by omega) (by omega) (by omega) (by omega) h2.2]
 rfl
end Go.Pl
set_option linter.unusedVariables false
set_option linter.unusedSimpArgs false
namespace Go.Pl
open Go Go.Lv
def okL:List Int→Int→Bool
 |[],_=>true
 |x::l,left=>decide (5≤x∧x≤left)&&okL l (left-x)
theorem Byl:∀l:List Int,(∀x∈l,5≤x)→0≤l.sum
 |[],_=>by simp
 |x::l,h=>by
  have h1:=h x List.mem_cons_self
  have h2:=Byl l fun y hy=>h y (List.mem_cons_of_mem _ hy)
  rw[List.sum_cons];omega
theorem Aou:∀(l:List Int) (left:Int),0≤left→(okL l left=true↔(∀x∈l,5≤x)∧l.sum≤left)
 |[],left,h=>by simp[okL];exact h
 |x::l,left,h=>by
  rw[okL,Bool.and_eq_true,decide_eq_true_eq,List.sum_cons]
  by_cases hx:5≤x∧x≤left
  ·rw[Aou l (left-x) (by omega)]
   constructor
   ·rintro⟨_,h1,h2⟩
    exact⟨fun y hy=>(List.mem_cons.1 hy).elim (fun e=>e▸hx.1) (h1 y),by omega⟩
   ·rintro⟨h1,h2⟩
    exact⟨hx,fun y hy=>h1 y (List.mem_cons_of_mem _ hy),by omega⟩
  ·constructor
   ·rintro⟨h1,_⟩;exact absurd h1 hx
   ·rintro⟨h1,h2⟩
    have h3:=h1 x List.mem_cons_self
    have:0≤l.sum:=Byl l fun y hy=>h1 y (List.mem_cons_of_mem _ hy)
    omega
theorem Bdl(l:List Int)(hl:l.length≤1000):∀(j i q:Nat) (left:Int),i+j=l.length→j<q→0≤left→left≤100000→Mx l q left (i:Int)=some (if okL (l.drop i) left=true then 0 else 8)
 |0,i,q+1,left,hi,_,_,_=>by
  rw[Mx,Zq,if_neg (by rw[Af,Ac];simp;omega),show i=l.length by omega,List.drop_length];rfl
 |j+1,i,q+1,left,hi,hq,h0,h1=>by
  have hlt:i<l.length:=by omega
  rw[Mx,Zq,if_pos (by rw[Af,Ac];simp;omega),Bu hlt,Aa,drop_cons hlt]
  by_cases h:5≤l[i]∧l[i]≤left
  ·rw[if_neg (by simp[Af,Ak];omega),Bb (by omega) (by omega),Ag (by omega) (by omega)]
   have ih:=Bdl l hl j (i+1) q (left-l[i]) (by omega) (by omega) (by omega) (by omega)
   rw[show((i:Int)+1)=((i+1:Nat):Int) by omega,ih]
   simp[okL,h]
  ·rw[if_pos (by simp[Af,Ak];omega)]
   have:okL (l[i]::l.drop (i+1)) left=false:=by rw[okL,decide_eq_false h];rfl
   rw[this];rfl
def Acy(l:List Int):Bool:=decide (1≤l.length∧l.length≤1000)&&okL l 100000
theorem Bi7(l:List Int)(hl:l.length≤1000):Lt l=some (if Acy l=true then 0 else 8):=by
 rw[Lt,Aa2,Acy]
 by_cases h:1≤l.length
 ·rw[if_neg (by rw[Az,Ak,Ac];simp;constructor;(intro e;subst e;simp at h);omega),Ajb]
  have:=Bdl l hl l.length 0 Ao 100000 (by omega) (by have:=Al;omega) (by omega) (by omega)
  rw[List.drop_zero]at this
  rw[decide_eq_true (show 1≤l.length∧l.length≤1000 from⟨h,hl⟩),Bool.true_and]
  exact this
 ·have:l=[]:=by
   cases l with
   |nil=>rfl
   |cons _ _=>simp at h
  subst this;rfl
theorem Bgm(l:List Int)(hl:l.length≤1000):∀(j i q:Nat) (s:Int),i+j=l.length→j<q→0≤s→s≤100000*(i:Int)→Hf l q s (i:Int)=some (if(∀x∈l.drop i,5≤x∧x≤100000)∧s+(l.drop i).sum≤100000 then 0 else 8)
 |0,i,q+1,s,hi,_,_,_=>by
  rw[Hf,Qs,if_neg (by rw[Af,Ac];simp;omega),show i=l.length by omega,List.drop_length,Aal,Zc]
  by_cases h:s≤100000
  ·rw[if_neg (by rw[Ak];simp;omega),if_pos (by simp;omega)]
  ·rw[if_pos (by rw[Ak];simp;omega),if_neg (by simp;omega)]
 |j+1,i,q+1,s,hi,hq,h0,h1=>by
  have hlt:i<l.length:=by omega
  rw[Hf,Qs,if_pos (by rw[Af,Ac];simp;omega),Bu hlt,Aa,drop_cons hlt]
  by_cases h5:l[i]<5
  ·rw[if_pos (by rw[Af];simpa using h5),if_neg (fun h=>by have:=(h.1 l[i] List.mem_cons_self).1;omega)]
  ·rw[if_neg (by rw[Af];simpa using h5),Aa]
   by_cases h6:100000<l[i]
   ·rw[if_pos (by rw[Ak];simpa using h6),if_neg (fun h=>by have:=(h.1 l[i] List.mem_cons_self).2;omega)]
   ·rw[if_neg (by rw[Ak];simpa using h6),Abx,Abc,Bu hlt,Aa,Ag (by omega) (by omega),Ag (by omega) (by omega)]
    have ih:=Bgm l hl j (i+1) q (s+l[i]) (by omega) (by omega) (by omega) (by omega)
    rw[show((i:Int)+1)=((i+1:Nat):Int) by omega,ih]
    have e:((∀x∈l.drop (i+1),5≤x∧x≤100000)∧s+l[i]+(l.drop (i+1)).sum≤100000)↔((∀x∈l[i]::l.drop (i+1),5≤x∧x≤100000)∧s+(l[i]::l.drop (i+1)).sum≤100000):=by
     rw[List.sum_cons,List.forall_mem_cons,Int.add_assoc]
     constructor
     ·rintro⟨a,b⟩;exact⟨⟨by omega,a⟩,b⟩
     ·rintro⟨⟨_,a⟩,b⟩;exact⟨a,b⟩
    simp only[e]
theorem Bet:∀{l:List Int},(∀x∈l,5≤x)→∀x∈l,x≤l.sum
 |[],_,x,hx=>by simp at hx
 |y::l,h,x,hx=>by
  have h1:=h y List.mem_cons_self
  have h2:=Byl l fun z hz=>h z (List.mem_cons_of_mem _ hz)
  rw[List.sum_cons]
  rcases List.mem_cons.1 hx with rfl|hx
  ·omega
  ·have:=Bet (l:=l) (fun z hz=>h z (List.mem_cons_of_mem _ hz)) x hx
   omega
theorem Bmq(l:List Int)(hl:l.length≤1000):Hp l=some (if Acy l=true then 0 else 8):=by
 rw[Hp,Qm,Acy]
 by_cases h:1≤l.length
 ·have:=Bgm l hl l.length 0 Ao 0 (by omega) (by have:=Al;omega) (by omega) (by omega)
  rw[if_neg (by rw[Af,Ak,Ac];simp;omega),Abw]
  refine Eq.trans this ?_
  rw[List.drop_zero,decide_eq_true (show 1≤l.length∧l.length≤1000 from⟨h,hl⟩),Bool.true_and]
  have e:((∀x∈l,5≤x∧x≤100000)∧0+l.sum≤100000)↔okL l 100000=true:=by
   rw[Aou l 100000 (by omega),Int.zero_add]
   constructor
   ·rintro⟨a,b⟩;exact⟨fun x hx=>(a x hx).1,b⟩
   ·rintro⟨a,b⟩;exact⟨fun x hx=>⟨a x hx,Int.le_trans (Bet a x hx) b⟩,b⟩
  simp only[e]
 ·have:l=[]:=by
   cases l with
   |nil=>rfl
   |cons _ _=>simp at h
  subst this;rfl
theorem Atp(l:List Int):Lt l=some (if Acy l=true then 0 else 8):=by
 by_cases hl:l.length≤1000
 ·exact Bi7 l hl
 ·rw[Lt,Aa2,if_pos (by rw[Ak,Ac];simp;omega),Acy,decide_eq_false (by omega)];rfl
theorem Bf8(l:List Int):Hp l=some (if Acy l=true then 0 else 8):=by
 by_cases hl:l.length≤1000
 ·exact Bmq l hl
 ·rw[Hp,Qm,if_pos (by rw[Ak,Ac];simp;omega),Acy,decide_eq_false (by omega)];rfl
theorem Bd4(l:List Int)(hl:l.length≤1000)(hx:∀x∈l,0≤x∧x<4294967296):Lt l=some (if Acy l=true then 0 else 8):=Atp l
theorem Btt(l:List Int)(hl:l.length≤1000)(hx:∀x∈l,0≤x∧x<4294967296):Hp l=some (if Acy l=true then 0 else 8):=Bf8 l
def Ahi(b:List UInt8)(n:Nat):List Int:=(List.range n).map fun i=>(Dk (part b (4*i) 4):Int)
theorem Yp(b:List UInt8)(n:Nat):(Ahi b n).length=n:=by simp[Ahi]
theorem Bgo(b:List UInt8)(n:Nat):Ahi b (n+1)=Ahi b n++[(Dk (part b (4*n) 4):Int)]:=by simp[Ahi,List.range_succ]
theorem Bqe(b:List UInt8)(n:Nat)(h:4*n≤b.length):∀x∈Ahi b n,0≤x∧x<4294967296:=by
 intro x hx
 simp only[Ahi,List.mem_map,List.mem_range]at hx
 obtain⟨i,hi,rfl⟩:=hx
 have:=Bqx (l:=part b (4*i) 4) (by rw[Cv (by omega)];omega)
 omega
def seekS(b:List UInt8)(n:Nat):List Int×Int:=
 if ¬(1≤n∧n≤1000)then([],2)else if b.length<4*n+4 then([],24)else if(Ca (b.take (4*n))).toNat≠Dk (part b (4*n) 4)then([],22)else
 if Acy (Ahi b n)=true then(Ahi b n,0)else([],12)
theorem Bqg{b:List UInt8}{n:Nat}(h:1≤n∧n≤1000)(h2:¬b.length<4*n+4):Bf (Ae (Ca (b.take (4*n))):UInt64) (leU (part b (4*n) 4))=decide ((Ca (b.take (4*n))).toNat≠Dk (part b (4*n) 4)):=by
 rw[Ag2,Cd,Bool.eq_iff_iff]
 simp only[bne_iff_ne,ne_eq,decide_eq_true_eq]
 rw[←UInt64.toNat_inj,Ako (by have:=(Ca (b.take (4*n))).toNat_lt;omega),Ak7 (by rw[Cv (by omega)];omega)]
section
variable {b:List UInt8} {n:Nat}
theorem ss1(h:¬(1≤n∧n≤1000)):seekS b n=([],2):=by rw[seekS,if_pos h]
variable (h:1≤n∧n≤1000)
include h
theorem ss2(h2:b.length<4*n+4):seekS b n=([],24):=by rw[seekS,if_neg (fun e=>e h),if_pos h2]
variable (h2:¬b.length<4*n+4)
include h2
theorem ss3(h3:(Ca (b.take (4*n))).toNat≠Dk (part b (4*n) 4)):seekS b n=([],22):=by rw[seekS,if_neg (fun e=>e h),if_neg h2,if_pos h3]
theorem ss4(h3:(Ca (b.take (4*n))).toNat=Dk (part b (4*n) 4)):seekS b n=if Acy (Ahi b n)=true then(Ahi b n,0)else([],12):=by rw[seekS,if_neg (fun e=>e h),if_neg h2,if_neg (fun e=>e h3)]
end
theorem Bh2(b:List UInt8)(l8:List Int)(n:Nat)(hn:n≤1000)(h8:l8.length=n)(hb:4*n+4≤b.length)(hb2:b.length<4611686018427387904):∀(j i q:Nat),i+j=n→j<q→Pw b l8 q (i:Int) (Ahi b i++List.replicate j 0)=Adb (Ahi b n)
 |0,i,q+1,hi,_=>by
  obtain rfl:i=n:=by omega
  rw[Pw,Adf,if_neg (by rw[Af,Ac];simp;omega)];simp
 |j+1,i,q+1,hi,hq=>by
  have hlen:(Ahi b i++List.replicate (j+1) 0).length=i+(j+1):=by simp[Yp]
  have ha:=Bhv b (4*i) 4 (by omega) (by omega) (by omega) hb2
  rw[Pw,Adf,if_pos (by rw[Af,Ac];simp;omega),Gn (by omega) (by omega),show(4:Int)*(i:Int)=((4*i:Nat):Int) by omega,show(4:Int)=((4:Nat):Int)from rfl,ha,Aa]
  simp only
  rw[Bu (by rw[hlen];omega),Aa,My _ (by rw[hlen];omega),Aa,Ac2 (by rw[Cv (by omega)];omega),Ag (by omega) (by omega),List.replicate_succ,Apo (Yp _ _)]
  have ih:=Bh2 b l8 n hn h8 hb hb2 j (i+1) q (by omega) (by omega)
  rw[Bgo]at ih
  rw[show((i:Int)+1)=((i+1:Nat):Int) by omega,←ih]
  simp
theorem Btw(b:List UInt8)(n:Nat)(hb:b.length≤100100):Ao9 b (n:Int)=some (seekS b n):=by
 rw[Ao9,Ald]
 by_cases h:1≤n∧n≤1000
 ·rw[if_neg (by simp[Af,Ak];omega),Gn (by omega) (by omega),Ag (by omega) (by omega)]
  by_cases h2:b.length<4*n+4
  ·rw[if_pos (by rw[Af,Ac];simp;omega),ss2 h h2]
  ·have ha:Amw b (4*(n:Int)) 4=some (leU (part b (4*n) 4),0):=by
    rw[show(4:Int)*(n:Int)=((4*n:Nat):Int) by omega]
    exact Bhv b (4*n) 4 (by omega) (by omega) (by omega) (by omega)
   rw[if_neg (by rw[Af,Ac];simp;omega),ha,Aa]
   simp only
   rw[Jq (by omega) (by omega),Aa,show(4*(n:Int)).toNat=4*n by omega,Az6 _ (by simp;omega),Aa]
   simp only
   rw[Bqg h h2]
   by_cases h3:(Ca (b.take (4*n))).toNat=Dk (part b (4*n) 4)
   ·have hlp:=Bh2 b (List.replicate n 0) n (by omega) (by simp) (by omega) (by omega) n 0 Ao (by omega) (by have:=Al;omega)
    rw[if_neg (by simpa using h3),Ax8 (by omega) (by omega),Aa,Ay (by rw[Az];simp),Aa,Alf,Int.toNat_natCast]
    refine Eq.trans (hlp) ?_
    rw[Adb,Au6,Bd4 _ (by rw[Yp];omega) (Bqe b n (by omega)),Aa,ss4 h h2 h3]
    cases Acy (Ahi b n)<;>rfl
   ·rw[if_pos (by simpa using h3),ss3 h h2 h3]
 ·rw[if_pos (by simp[Af,Ak];omega),ss1 h]
theorem Avm(b:List UInt8)(n:Nat)(hn:n≤1000)(hb:4*n+4≤b.length)(hb2:b.length<4611686018427387904):∀(j i q:Nat),i+j=n→j<q→If b (n:Int) q (i:Int) (Ahi b i)=Rr (Ahi b n)
 |0,i,q+1,hi,_=>by
  obtain rfl:i=n:=by omega
  rw[If,Rm,if_neg (by rw[Af];simp)]
 |j+1,i,q+1,hi,hq=>by
  have hc:Cf b ((4:Int)*(i:Int)) ((4:Int)*(i:Int)+4)=some (part b (4*i) 4):=by
   rw[show(4:Int)*(i:Int)=((4*i:Nat):Int) by omega]
   exact Lr (4*i) 4 (by omega)
  rw[If,Rm,if_pos (by rw[Af];simp;omega),Gn (by omega) (by omega),Ag (by omega) (by omega),hc,Aa,Bl3 _ (by rw[Cv (by omega)];omega),Aa,Cg (by rw[Yp];simp;omega),Aa,
   Ac2 (by rw[Cv (by omega)];omega),Ag (by omega) (by omega),←Bgo]
  exact Avm b n hn hb hb2 j (i+1) q (by omega) (by omega)
theorem Byd(b:List UInt8)(n:Nat)(hb:b.length≤100100):Zp b (n:Int)=some (seekS b n):=by
 rw[Zp,Ads]
 by_cases h:1≤n∧n≤1000
 ·rw[if_neg (by simp[Af,Ak];omega),Gn (by omega) (by omega),Ag (by omega) (by omega)]
  by_cases h2:b.length<4*n+4
  ·rw[if_pos (by rw[Af,Ac];simp;omega),ss2 h h2]
  ·have hc:Cf b ((4:Int)*(n:Int)) ((4:Int)*(n:Int)+4)=some (part b (4*n) 4):=by
    rw[show(4:Int)*(n:Int)=((4*n:Nat):Int) by omega]
    exact Lr (4*n) 4 (by omega)
   have hs:Bf (leU (part b (4*n) 4)) (Ae (Ca (b.take (4*n))):UInt64)=decide ((Ca (b.take (4*n))).toNat≠Dk (part b (4*n) 4)):=by
    rw[←Bqg h h2,Ag2,Ag2,Bool.eq_iff_iff];simp only[bne_iff_ne,ne_eq];exact not_congr eq_comm
   rw[if_neg (by rw[Af,Ac];simp;omega),hc,Aa,Jq (by omega) (by omega),Aa,show(4*(n:Int)).toNat=4*n by omega,Bl3 _ (by rw[Cv (by omega)];omega),Aa,Bvy _ (by simp;omega),Aa,hs]
   by_cases h3:(Ca (b.take (4*n))).toNat=Dk (part b (4*n) 4)
   ·have hlp:=Avm b n (by omega) (by omega) (by omega) n 0 Ao (by omega) (by have:=Al;omega)
    rw[if_neg (by simpa using h3),Adt,Aew,Aez]
    refine Eq.trans hlp ?_
    rw[Rr,Adz,Btt _ (by rw[Yp];omega) (Bqe b n (by omega)),Aa,ss4 h h2 h3]
    cases Acy (Ahi b n)<;>rfl
   ·rw[if_pos (by simpa using h3),ss3 h h2 h3]
 ·rw[if_pos (by simp[Af,Ak];omega),ss1 h]
theorem Bde{b:List UInt8}{n:Nat}(h:(seekS b n).2=0):seekS b n=(Ahi b n,0)∧1≤n∧n≤1000∧4*n+4≤b.length∧(∀x∈Ahi b n,5≤x)∧(Ahi b n).sum≤100000:=by
 unfold seekS at h⊢
 split at h; · simp at h
 rename_i c1;rw[if_neg c1]
 split at h; · simp at h
 rename_i c2;rw[if_neg c2]
 split at h; · simp at h
 rename_i c3;rw[if_neg c3]
 split at h
 ·rename_i c4
  rw[if_pos c4]
  have c4':=c4
  rw[Acy,Bool.and_eq_true,Aou _ _ (by omega)]at c4'
  exact⟨rfl,by omega,by omega,by omega,c4'.2.1,c4'.2.2⟩
 ·simp at h
end Go.Pl
set_option linter.unusedVariables false
set_option linter.unusedSimpArgs false
namespace Go.Pl
open Go Go.Lv
def hdr(b:List UInt8):List UInt8:=b.drop (frontS b).1.toNat
abbrev Op8:=Int×Int×Int×Int×Int×Int×(List Int)×Int
def Bnj(e:Int):Op8:=(0,0,0,0,0,0,[],e)
theorem Bvx(A K:Nat)(h:A≤200000)(hk:K≤1000):Ad (Ad (A:Int) (Bg 4 (K:Int))) 4=((A+4*K+4:Nat):Int):=by
 rw[Gn (by omega) (by omega),Ag (a:=(A:Int)) (by omega) (by omega),Ag (by omega) (by omega)];omega
theorem Bha{f c w r n:Nat}(h1:shapeB f c w r n=true)(h2:fitB c r n=true)(b:List UInt8)(hb:b.length≤100100)(A:Nat)(hA:A≤b.length):
  Nc b (f:Int) (c:Int) (w:Int) (r:Int) (n:Int) (A:Int)=
   some (if(seekS (b.drop A) (framesL (longN r) n).length).2≠0 then Bnj (seekS (b.drop A) (framesL (longN r) n).length).2 else((f:Int),(c:Int),(w:Int),(r:Int),(n:Int),((A+4*(framesL (longN r) n).length+4:Nat):Int),(seekS (b.drop A) (framesL (longN r) n).length).1,0)):=by
 rw[Nc,Atu,Asc h1 h2,Aa]
 simp only
 rw[if_neg (by rw[Aj];simp),Nk (by omega) (by omega),Aa,Ac,show(A:Int).toNat=A from rfl,Btw _ _ (by simp;omega),Aa]
 by_cases h:(seekS (b.drop A) (framesL (longN r) n).length).2≠0
 ·rw[if_pos h,if_pos (by rw[Aj];simpa using h)];rfl
 ·have h0:(seekS (b.drop A) (framesL (longN r) n).length).2=0:=by simpa using h
  obtain⟨g1,g2,g3,g4,g5,g6⟩:=Bde h0
  have gl:(seekS (b.drop A) (framesL (longN r) n).length).1.length=(framesL (longN r) n).length:=by rw[g1];exact Yp _ _
  rw[if_neg h,if_neg (by rw[Aj];simpa using h),Ac,gl,Bvx _ _ (by omega) (by omega)]
theorem Bvq{f c w r n:Nat}(h1:shapeB f c w r n=true)(h2:fitB c r n=true)(b:List UInt8)(hb:b.length≤100100)(A:Nat)(hA:A≤b.length):
  Jr b (f:Int) (c:Int) (w:Int) (r:Int) (n:Int) (A:Int)=
   some (if(seekS (b.drop A) (framesL (longN r) n).length).2≠0 then Bnj (seekS (b.drop A) (framesL (longN r) n).length).2 else((f:Int),(c:Int),(w:Int),(r:Int),(n:Int),((A+4*(framesL (longN r) n).length+4:Nat):Int),(seekS (b.drop A) (framesL (longN r) n).length).1,0)):=by
 have hs:(1≤r∧r≤1048576)∧1≤n∧1≤c:=by
  simp only[shapeB,decide_eq_true_eq]at h1;omega
 have hf:n≤4000:=by
  simp only[fitB,decide_eq_true_eq]at h2
  have:=Nat.div_le_self 4000 c
  omega
 rw[Jr,Za,Nk (by omega) (by omega),Aa,Aw8 hs.1.2 hs.2.1 hf,Aa,Ac,show(A:Int).toNat=A from rfl,Byd _ _ (by simp;omega),Aa]
 simp only
 rw[Zt,Aa4]
 by_cases h:(seekS (b.drop A) (framesL (longN r) n).length).2≠0
 ·rw[if_pos h,if_pos (by rw[Aj];simpa using h)];rfl
 ·have h0:(seekS (b.drop A) (framesL (longN r) n).length).2=0:=by simpa using h
  obtain⟨g1,g2,g3,g4,g5,g6⟩:=Bde h0
  have gl:(seekS (b.drop A) (framesL (longN r) n).length).1.length=(framesL (longN r) n).length:=by rw[g1];exact Yp _ _
  rw[if_neg h,if_neg (by rw[Aj];simpa using h),Ac,gl,Bvx _ _ (by omega) (by omega)]
structure Opn (b p:List UInt8) (f c w r n A:Nat) (l:List Int):Prop where
 prog:seekto_Open b p=some ((f:Int),(c:Int),(w:Int),(r:Int),(n:Int),(A:Int),l,0)
 ref:cadenzaref40_Opened b p=some ((f:Int),(c:Int),(w:Int),(r:Int),(n:Int),(A:Int),l,0)
 pass:p.length≤64
 file:b.length≤100000
 shape:shapeB f c w r n=true
 fit:fitB c r n=true
 len:l.length=(framesL (longN r) n).length
 some1:1≤l.length∧l.length≤1000
 five:∀x∈l,5≤x
 sum:l.sum≤100000
 at':A≤b.length
 tag:(frontS b).2=0
 head:readS (hdr b)=((f:Int),(c:Int),(w:Int),(r:Int),(n:Int),0)
 tab:seekS (b.drop ((frontS b).1.toNat+22+(if f=2 then 8 else 0))) l.length=(l,0)
 pos:A=(frontS b).1.toNat+22+(if f=2 then 8 else 0)+4*l.length+4
theorem Bzs(b p:List UInt8)(hb:b.length≤100100)(hp:p.length≤64):
  (∃e:Int,e≠0∧seekto_Open b p=some (Bnj e)∧cadenzaref40_Opened b p=some (Bnj e))∨(∃f c w r n A l,Opn b p f c w r n A l):=by
 by_cases h1:100000<b.length
 ·refine .inl ⟨4,by omega,?_,?_⟩
  ·rw[seekto_Open,Rp,if_neg (by rw[Ak,Ac];simp;omega),if_pos (by rw[Ak,Ac];simp;omega)];rfl
  ·rw[cadenzaref40_Opened,Oc,if_pos (by rw[Ak,Ac];simp;omega)];rfl
 have hP:seekto_Open b p=seekto_Open b p:=rfl
 have hR:cadenzaref40_Opened b p=cadenzaref40_Opened b p:=rfl
 conv at hP=>rhs;rw[seekto_Open,Rp,if_neg (by rw[Ak,Ac];simp;omega),if_neg (by rw[Ak,Ac];simp;omega),Asn b (by omega),Aa]
 conv at hR=>rhs;rw[cadenzaref40_Opened,Oc,if_neg (by rw[Ak,Ac];simp;omega),Bj7 b (by omega),Aa]
 by_cases h2:(frontS b).2=0
 ·obtain⟨p0,p1,p2⟩:=Bs6 h2
  have hc:=Nk (l:=b) p0 p1
  simp only[h2]at hP hR
  rw[if_neg (by rw[Aj];simp),hc,Aa,show b.drop (frontS b).1.toNat=hdr b from rfl,Bhh _ (by simp[hdr];omega),Aa]at hP
  rw[if_neg (by rw[Aj];simp),hc,Aa,show b.drop (frontS b).1.toNat=hdr b from rfl,Bw0 _ (by simp[hdr];omega),Aa]at hR
  by_cases h3:(readS (hdr b)).2.2.2.2.2=0
  ·obtain⟨g1,g2,g3,g4⟩:=Bxa h3
   have hlen:(hdr b).length=b.length-(frontS b).1.toNat:=by simp[hdr]
   generalize hF:(frontS b).1.toNat=F at*
   have hF':(frontS b).1=(F:Int):=by omega
   rw[g1,hF']at hP hR
   simp only at hP hR
   generalize f0 (hdr b)=f at*
   generalize f1 (hdr b)=c at*
   generalize f2 (hdr b)=w at*
   generalize f3 (hdr b)=r at*
   generalize f4 (hdr b)=n at*
   have t22:Ad (F:Int) 22=((F+22:Nat):Int):=by rw[Ag (by omega) (by omega)];omega
   have t30:Ad ((F+22:Nat):Int) 8=((F+30:Nat):Int):=by rw[Ag (by omega) (by omega)];omega
   have hf12:f=1∨f=2:=by simp only[shapeB,decide_eq_true_eq]at g3;omega
   rw[if_neg (by rw[Aj];simp),t22,t30]at hP hR
   have hend:∀A:Nat,A≤b.length→A=F+22+(if f=2 then 8 else 0)→seekto_Open b p=Nc b (f:Int) (c:Int) (w:Int) (r:Int) (n:Int) (A:Int)→cadenzaref40_Opened b p=Jr b (f:Int) (c:Int) (w:Int) (r:Int) (n:Int) (A:Int)→
     (∃e:Int,e≠0∧seekto_Open b p=some (Bnj e)∧cadenzaref40_Opened b p=some (Bnj e))∨(∃f c w r n A l,Opn b p f c w r n A l):=by
    intro A hA hA2 e1 e2
    rw[Bha g3 g4 b hb A hA]at e1
    rw[Bvq g3 g4 b hb A hA]at e2
    by_cases h:(seekS (b.drop A) (framesL (longN r) n).length).2≠0
    ·rw[if_pos h]at e1 e2
     exact .inl ⟨_,h,e1,e2⟩
    ·have h0:(seekS (b.drop A) (framesL (longN r) n).length).2=0:=by simpa using h
     obtain⟨k1,k2,k3,k4,k5,k6⟩:=Bde h0
     have gl:(seekS (b.drop A) (framesL (longN r) n).length).1.length=(framesL (longN r) n).length:=by rw[k1];exact Yp _ _
     rw[if_neg h]at e1 e2
     rw[List.length_drop]at k4
     refine .inr ⟨f,c,w,r,n,_,_,⟨e1,e2,hp,by omega,g3,g4,gl,by omega,by rw[k1];exact k5,by rw[k1];exact k6,by omega,h2,g1,by rw[gl,hF,←hA2];exact Prod.ext rfl h0,by rw[gl,hF,←hA2]⟩⟩
   by_cases hpass:((p==([]:List UInt8)) !=(geq (f:Int) (1:Int)))=true
   ·rw[if_pos hpass]at hP hR
    exact .inl ⟨26,by omega,hP,hR⟩
   ·rw[if_neg hpass]at hP hR
    have hpf:(p=[]↔f=1):=by
     rw[Az]at hpass
     have h5:(p==([]:List UInt8))=((f:Int)==1):=by simpa using hpass
     have h6:(p==([]:List UInt8))=true↔((f:Int)==1)=true:=by rw[h5]
     rw[beq_iff_eq,beq_iff_eq]at h6
     rw[h6];omega
    by_cases h5:f=2
    ·have hpne:p≠ []:=fun e=>by have:=hpf.1 e;omega
     have h64:(p !=([]:List UInt8))=true:=by simpa using hpne
     rw[if_pos h64]at hP
     rw[if_pos (by rw[Az,h5];rfl),Bb (by rw[Ac];omega) (by rw[Ac];omega)]at hR
     by_cases h6:b.length<F+30
     ·rw[if_pos (by rw[Af,Ac];simp;omega)]at hP hR
      exact .inl ⟨24,by omega,hP,hR⟩
     ·have hseg:((b.take (F+30)).drop (F+22)).length=8:=by simp;omega
      rw[if_neg (by rw[Af,Ac];simp;omega),Rq (by omega) (by omega) (by omega),Aa]at hP hR
      rw[Aas,Azm p hp,Aa]at hP
      rw[Buk p hp,Aa]at hR
      simp only at hP
      rw[if_neg (by rw[Aj,Aj,Ac,Ac,Bk,show((F+30:Nat):Int).toNat=F+30 from rfl,show((F+22:Nat):Int).toNat=F+22 from rfl,hseg];simp),Fy,Aa,Aa]at hP
      simp only at hP
      rw[if_neg (by rw[Aj];simp)]at hP
      generalize(b.take ((F+30:Nat):Int).toNat).drop ((F+22:Nat):Int).toNat=seg at*
      by_cases h7:seg=Nx (Xp p).toNat 8
      ·rw[if_neg (by simp[h7])]at hP
       rw[if_neg (by simp[h7])]at hR
       exact hend (F+30) (by omega) (by rw[if_pos h5]) hP hR
      ·rw[if_pos (by simpa using h7)]at hP
       rw[if_pos (by simpa using h7)]at hR
       exact .inl ⟨26,by omega,hP,hR⟩
    ·have hpe:p=[]:=hpf.2 (by omega)
     rw[if_neg (by rw[hpe];simp)]at hP
     rw[if_neg (by rw[Az];simp;omega)]at hR
     exact hend (F+22) (by omega) (by rw[if_neg h5]) hP hR
  ·generalize readS (hdr b)=v at*
   obtain⟨v1,v2,v3,v4,v5,v6⟩:=v
   simp only at h3 hP hR
   rw[if_pos (by rw[Aj];simpa using h3)]at hP hR
   exact .inl ⟨v6,h3,hP,hR⟩
 ·generalize frontS b=v at*
  obtain⟨v,e⟩:=v
  simp only at h2 hP hR
  rw[if_pos (by rw[Aj];simpa using h2)]at hP hR
  exact .inl ⟨e,h2,hP,hR⟩
end Go.Pl
set_option linter.unusedVariables false
set_option linter.unusedSimpArgs false
namespace Go.Pl
open Go Go.Lv
theorem Buh(l:List Int)(i:Nat):(l.take i).sum+(l.drop i).sum=l.sum:=by
 conv=>rhs;rw[←List.take_append_drop i l,List.sum_append]
theorem Gh{l:List Int}(h5:∀x∈l,5≤x)(i:Nat):0≤(l.take i).sum∧(l.take i).sum≤l.sum:=by
 have h1:=Byl (l.take i) fun x hx=>h5 x (List.mem_of_mem_take hx)
 have h2:=Byl (l.drop i) fun x hx=>h5 x (List.mem_of_mem_drop hx)
 have:=Buh l i
 omega
theorem Qd{l:List Int}{i:Nat}(h:i<l.length):(l.take (i+1)).sum=(l.take i).sum+l[i]:=by
 rw[Jw h,List.sum_append];simp
def Aur(l:List Int)(n:Nat):List Int:=(List.range n).map fun i=>(l.take i).sum
theorem Bnu(l:List Int)(n:Nat):(Aur l n).length=n:=by simp[Aur]
theorem Btq(l:List Int)(n:Nat):Aur l (n+1)=Aur l n++[(l.take n).sum]:=by simp[Aur,List.range_succ]
theorem Amz(l:List Int){n i:Nat}(h:i<n):getI (Aur l n) (i:Int)=some ((l.take i).sum):=by
 rw[Bu (by rw[Bnu];exact h)];simp[Aur]
section
variable {l:List Int} (hl:l.length≤1000) (h5:∀x∈l,5≤x) (hs:l.sum≤100000)
include hl h5 hs
theorem Bhf:∀(j i q:Nat),i+j=l.length→j<q→Jv l q (i:Int) ((l.take i).sum) (Aur l (i+1))=some (Aur l (l.length+1),0)
 |0,i,q+1,hi,_=>by
  rw[Jv,So,if_neg (by rw[Af,Ac];simp;omega),show i=l.length by omega];rfl
 |j+1,i,q+1,hi,hq=>by
  have hlt:i<l.length:=by omega
  have ih:=Bhf j (i+1) q (by omega) (by omega)
  have b1:=Gh h5 i
  have b2:=Gh h5 (i+1)
  have e:=Qd hlt
  rw[Btq l (i+1),e]at ih
  rw[Jv,So,if_pos (by rw[Af,Ac];simp;omega),Bu hlt,Aa,Ag (by omega) (by omega),Cg (by simp[Bnu];omega),Aa,Ack,Amn,Ag (by omega) (by omega),Ag (by omega) (by omega)]
  exact ih
theorem Bsf(h1:1≤l.length):Vh l=some (Aur l (l.length+1),0):=by
 have h:=Bhf hl h5 hs l.length 0 Ao (by omega) (by have:=Al;omega)
 have hx:∀x∈l,0≤x∧x<4294967296:=fun x hx=>by
  have:=Bet h5 x hx
  have:=h5 x hx
  omega
 have ht:Acy l=true:=by
  rw[Acy,Bool.and_eq_true]
  exact⟨by simpa using⟨h1,hl⟩,(Aou l 100000 (by omega)).2 ⟨h5,hs⟩⟩
 rw[Vh,Acg,Bd4 l hl hx,Aa,if_pos ht,if_neg (by rw[Aj];simp)]
 exact h
theorem Bef(f c w r n A:Int)(hA:0≤A)(hA2:A≤200000)(k:Nat)(hk:k≤l.length):∀(j i q:Nat),i+j=k→j<q→Hi (k:Int) f c w r n A l q (A+(l.take i).sum) (i:Int)=some (A+(l.take k).sum)
 |0,i,q+1,hi,_=>by
  rw[Hi,Qp,if_neg (by rw[Af];simp;omega),show i=k by omega];rfl
 |j+1,i,q+1,hi,hq=>by
  have hlt:i<l.length:=by omega
  have ih:=Bef f c w r n A hA hA2 k hk j (i+1) q (by omega) (by omega)
  have b1:=Gh h5 i
  have b2:=Gh h5 (i+1)
  have e:=Qd hlt
  rw[e,←Int.add_assoc]at ih
  rw[Hi,Qp,if_pos (by rw[Af];simp;omega),Bu hlt,Aa,Ag (by omega) (by omega),Ag (by omega) (by omega)]
  exact ih
theorem Bh0(f c w r n A:Int)(hA:0≤A)(hA2:A≤200000)(k:Nat)(hk:k≤l.length):Ahb f c w r n A l (k:Int)=some (A+(l.take k).sum):=by
 have h:=Bef hl h5 hs f c w r n A hA hA2 k hk k 0 Ao (by omega) (by have:=Al;omega)
 rw[List.take_zero,List.sum_nil,Int.add_zero]at h
 exact h
end
theorem Beb{g n:Nat}(hg:1≤g)(hn:1≤n){x:Int}(h:x∈framesL g n):∃m:Nat,x=m∧1≤m∧m≤n:=by
 have hmul:=Nat.div_mul_le_self (n-1) g
 rw[framesL,List.mem_append]at h
 rcases h with h|h
 ·rw[List.mem_replicate]at h
  have h1:1≤(n-1)/g:=Nat.pos_of_ne_zero h.1
  have:=Nat.mul_le_mul_right g h1
  exact⟨g,h.2,hg,by omega⟩
 ·rw[List.mem_singleton]at h
  exact⟨_,h,by omega,by omega⟩
theorem Amo{f c w r n:Nat}(h:shapeB f c w r n=true):(1≤c∧c≤6)∧BitsOk (w:Int)∧(1≤r∧r≤1048576)∧1≤n∧(f=1∨f=2):=by
 simp only[shapeB,decide_eq_true_eq]at h
 refine⟨h.2.1,?_,h.2.2.2.1,h.2.2.2.2,h.1⟩
 rcases h.2.2.1 with rfl|rfl|rfl
 ·exact .inl rfl
 ·exact .inr (.inl rfl)
 ·exact .inr (.inr rfl)
theorem Buc{b p:List UInt8}{f c w r n A:Nat}{l:List Int}(o:Opn b p f c w r n A l)(k:Nat)(hk:k<l.length):
  ∃y:List UInt8×Int,Pp (k:Int) (framesL (longN r) n) (f:Int) (c:Int) (w:Int) (r:Int) (n:Int) (A:Int) b (tapsOf p) l (Aur l (l.length+1))=some y∧
   cadenzaref40_Got b p (f:Int) (c:Int) (w:Int) (r:Int) (n:Int) (A:Int) l (k:Int)=some y:=by
 obtain⟨hc,hw,hr,hn,_⟩:=Amo o.shape
 have hfit:n≤4000/c:=by have:=o.fit;simp only[fitB,decide_eq_true_eq]at this;exact this.1
 have hn4:n≤4000:=by have:=Nat.div_le_self 4000 c;omega
 have hA:=o.at'
 have hfile:=o.file
 have hlen:=o.len
 have b1:=Gh o.five k
 have b2:=Gh o.five (k+1)
 have e:=Qd hk
 have h5:=o.five l[k] (List.getElem_mem _)
 have hsum:=o.sum
 have hs1:=o.some1
 have hkf:k<(framesL (longN r) n).length:=by omega
 obtain⟨m,hm,m1,m2⟩:=Beb (Ll r) hn (List.getElem_mem hkf)
 have e1:Ad (k:Int) 1=((k+1:Nat):Int):=by rw[Ag (by omega) (by omega)];omega
 rw[Pp,Aft,if_neg (by rw[Aj];simp),if_neg (by simp[Af,Ck,Ac];omega),e1,Amz l (by omega),Amz l (by omega),Aa,Aa,Aa,Aa,Ae4,Afd,Ag (a:=(A:Int)) (b:=(l.take (k+1)).sum) (by omega) (by omega),Ag (by omega) (by omega)]
 rw[cadenzaref40_Got,Ts,Bh0 hs1.2 o.five o.sum _ _ _ _ _ (A:Int) (by omega) (by omega) k (by omega),Aa,Bu hk,Aa,Bb (by rw[Ac];omega) (by rw[Ac];omega)]
 by_cases hto:(b.length:Int)<(A:Int)+(l.take (k+1)).sum
 ·rw[if_pos (by rw[Ak,Ac,decide_eq_true_eq];omega),if_pos (by rw[Af,Ac,decide_eq_true_eq];omega)]
  exact⟨_,rfl,rfl⟩
 ·rw[if_neg (by rw[Ak,Ac,decide_eq_true_eq];omega),if_neg (by rw[Af,Ac,decide_eq_true_eq];omega),Bm7 p o.pass,Aw8 hr.2 hn hn4]
  simp only[Aa]
  rw[Ag (a:=(A:Int)+(l.take k).sum) (b:=l[k]) (by omega) (by omega),Int.add_assoc,←e,Bu hkf,hm]
  simp only[Aa]
  rw[Rq (by omega) (by omega) (by omega),Aa,Aa]
  obtain⟨x,er,g1,g2,g3,_⟩:=Akh (ch:=c) (n:=m) (t:=tapsOf p) ((b.take ((A:Int)+(l.take (k+1)).sum).toNat).drop ((A:Int)+(l.take k).sum).toNat) hw (Ahf p) hc.1 hc.2 m1 (by omega)
  rw[g1,g2,Aa,Aa]
  simp only
  rw[Ae2,Afb,Tp,Ug]
  by_cases her:er=0
  ·obtain⟨g4,g5,_⟩:=g3 her
   rw[if_neg (by rw[Aj];simpa using her),if_neg (by rw[Aj];simpa using her),Beh hw g5 g4,Bhc hw g5 g4,Aa,Aa]
   exact⟨_,rfl,rfl⟩
  ·rw[if_pos (by rw[Aj];simpa using her),if_pos (by rw[Aj];simpa using her)]
   exact⟨_,rfl,rfl⟩
theorem Bno{b p:List UInt8}{f c w r n A:Nat}{l:List Int}(o:Opn b p f c w r n A l)(k:Int):Jk b p k=Pp k (framesL (longN r) n) (f:Int) (c:Int) (w:Int) (r:Int) (n:Int) (A:Int) b (tapsOf p) l (Aur l (l.length+1)):=by
 have hs1:=o.some1
 rw[Jk,Afg,o.prog,Aa]
 simp only
 rw[if_neg (by rw[Aj];simp),Asc o.shape o.fit,Aa]
 simp only
 rw[if_neg (by rw[Aj];simp),Bsf hs1.2 o.five o.sum hs1.1,Aa]
 simp only
 rw[if_neg (by rw[Aj];simp),Az9 p o.pass,Aa]
 simp only
 rw[if_neg (by rw[Aj];simp),Ac,←o.len,Amz l (by omega),Aa,Aa]
end Go.Pl
