/- A part of the proof of a statement of this seat (see the text that ends in Proof): LwBase, LwBitB, LwLe, LwBits, LwRef02, LwCut, LwUn, LwRice, LwDual, LwVal, LwI32, LwFil, LwUnm, LwSam, LwCrc, LwFrm, LwC64, LwWby, LwId, LwApe, LwStrip, LwLen, LwHead, LwSeek, LwOpen, LwFrame, LwBack, LwGot. No conditions of its own. -/
import Derived.Test.YtkkcakakemjdeaaGreatDoorPsBA
import Derived.Test.YtkkcakakemjdeaaGreatDoorPsPA
set_option linter.unusedVariables false
set_option linter.unusedSimpArgs false
namespace Go.Lv
theorem Ag{a b:Int}(h: -9223372036854775808≤a+b)(h':a+b≤9223372036854775807):Ae a b=a+b:=by rw[Ccr,Br h h']
theorem Bh{a b:Int}(h: -9223372036854775808≤a-b)(h':a-b≤9223372036854775807):Ah a b=a-b:=by rw[Cb5,Br h h']
theorem Fc{a b:Int}(h: -9223372036854775808≤a*b)(h':a*b≤9223372036854775807):Ay a b=a*b:=by rw[Bvd,Br h h']
theorem Acx(c:UInt8):(Ad c:Int)=(c.toNat:Int):=by rw[Bw6,Br]<;>have:=c.toNat_lt<;>omega
theorem Bpp(c:UInt32):(Ad c:Int)=(c.toNat:Int):=by rw[Btt,Br]<;>have:=c.toNat_lt<;>omega
theorem Ava(c:UInt8):(Ad c:UInt64)=UInt64.ofNat c.toNat:=by simp only[Ad,Wm,Gm]
theorem Hh(c:UInt32):(Ad c:UInt64)=UInt64.ofNat c.toNat:=by simp only[Ad,Ua,Gm]
theorem Aoq(c:UInt64):(Ad c:UInt8)=UInt8.ofNat c.toNat:=by simp only[Ad,Hl,Kx]
theorem Av3(c:UInt32):(Ad c:UInt8)=UInt8.ofNat c.toNat:=by simp only[Ad,Ua,Kx]
theorem Ye(n:Nat):(Ad (n:Int):UInt64)=UInt64.ofNat n:=by simp only[Ad];exact Gm n
theorem Bg9(n:Nat):(Ad (n:Int):UInt32)=UInt32.ofNat n:=by simp only[Ad];exact Dy n
theorem Bwe(n:Nat):(Ad (n:Int):UInt8)=UInt8.ofNat n:=by simp only[Ad];exact Kx n
theorem Ayi{c:UInt64}(h:c.toNat<9223372036854775808):(Ad c:Int)=(c.toNat:Int):=by rw[Bsk,Br]<;>omega
theorem Bq9:LIM=17179869184:=by decide
theorem Ak:36893488147419103231<Am:=by decide
theorem Cf{α:Type}{l:List α}{n:Nat}(h:n<l.length):getI l (n:Int)=some l[n]:=by simp[getI,h]
theorem Uo{α:Type}{l:List α}{n:Nat}(x:α)(h:n<l.length):Jl l (n:Int) x=some (l.set n x):=by simp[Jl,h]
theorem Xa{α:Type}{l:List α}{a b:Int}(h:0≤a)(h1:a≤b)(h2:b≤l.length):Ca l a b=some ((l.take b.toNat).drop a.toNat):=by rw[Ca,if_pos ⟨h,h1,h2⟩]
theorem Ty{α:Type}{l:List α}{a:Int}(h:0≤a)(h1:a≤l.length):Ca l a (Ac l)=some (l.drop a.toNat):=by
 unfold Ac;rw[Xa h h1 (Int.le_refl _),Int.toNat_natCast,List.take_length]
theorem Lf{α:Type}{l:List α}{b:Int}(h:0≤b)(h1:b≤l.length):Ca l 0 b=some (l.take b.toNat):=by rw[Xa (Int.le_refl _) h h1];rfl
theorem Cq{α:Type}{l m:List α}(h:l.length+m.length≤17179869184):Dx l m=some (l++m):=by rw[Dx,Bq9,if_pos h]
theorem Azt{α:Type}{n:Int}{z:α}(h:0≤n)(h':n≤17179869184):mkI n z=some (List.replicate n.toNat z):=by rw[mkI,Bq9,if_pos ⟨h,h'⟩]
theorem Bp{b:Bool}(h:b=true):Gs b=some ():=by rw[h];rfl
theorem Aa{α β:Type}(a:α)(f:α→Option β):Option.bind (some a) f=f a:=rfl
theorem drop_cons{α:Type}{l:List α}{n:Nat}(h:n<l.length):l.drop n=l[n]::l.drop (n+1):=List.drop_eq_getElem_cons h
theorem Amx{α:Type}{l:List α}{n:Nat}(h:n<l.length):l.take (n+1)=l.take n++[l[n]]:=by rw[List.take_add_one,List.getElem?_eq_getElem h];rfl
def Ed:List UInt8→Nat
 |[]=>0
 |x::r=>x.toNat+256*Ed r
theorem Bic:∀l:List UInt8,Ed l<256^l.length
 |[]=>by simp[Ed]
 |x::r=>by
  have h:=Bic r
  have:=x.toNat_lt
  simp only[Ed,List.length_cons,Nat.pow_succ]
  omega
theorem Bcq:∀l m:List UInt8,Ed (l++m)=Ed l+256^l.length*Ed m
 |[],m=>by simp[Ed]
 |x::r,m=>by
  simp only[Ed,List.cons_append,Bcq r m,List.length_cons,Nat.pow_succ,Nat.mul_add]
  rw[Nat.mul_comm (256^r.length) 256,Nat.mul_assoc];omega
def leU(l:List UInt8):UInt64:=UInt64.ofNat (Ed l)
theorem Bzr{l:List UInt8}(h:l.length≤8):Ed l<18446744073709551616:=by
 have h1:=Bic l
 have h2:256^l.length≤256^8:=Nat.pow_le_pow_right (by omega) h
 exact Nat.lt_of_lt_of_le h1 (by simpa using h2)
theorem Bp8{l:List UInt8}(h:l.length≤4):Ed l<4294967296:=by
 have h1:=Bic l
 have h2:256^l.length≤256^4:=Nat.pow_le_pow_right (by omega) h
 exact Nat.lt_of_lt_of_le h1 (by simpa using h2)
theorem Ajl{l:List UInt8}(h:l.length≤8):(leU l).toNat=Ed l:=by
 rw[leU,UInt64.toNat_ofNat',Nat.mod_eq_of_lt (Bzr h)]
theorem Adc{l:List UInt8}(h:l.length≤4):(Ad (leU l):Int)=(Ed l:Int):=by
 have:=Bp8 h
 rw[Ayi]<;>rw[Ajl (by omega)];omega
def leB(n:Nat):Nat→List UInt8
 |0=>[]
 |w+1=>UInt8.ofNat n::leB (n/256) w
theorem Mu:∀(w n:Nat),(leB n w).length=w
 |0,_=>rfl
 |w+1,n=>by simp[leB,Mu w]
theorem Bkp:∀(w n:Nat),leB n (w+1)=leB n w++[UInt8.ofNat (n/256^w)]
 |0,n=>by simp[leB]
 |w+1,n=>by
  rw[leB,Bkp w (n/256),leB]
  simp[Nat.div_div_eq_div_mul,Nat.pow_succ,Nat.mul_comm]
end Go.Lv
set_option linter.unusedVariables false
set_option linter.unusedSimpArgs false
namespace Go.Lv
def Jf(p:List UInt8)(i:Nat):Nat:=(p.getD (i/8) 0).toNat/2^(i %8) %2
theorem Vn(p:List UInt8)(i:Nat):Jf p i<2:=Nat.mod_lt _ (by omega)
def Bu(p:List UInt8):Nat→Nat→Nat
 |_,0=>0
 |a,n+1=>Jf p a+2*Bu p (a+1) n
theorem On(p:List UInt8):∀(n a:Nat),Bu p a n<2^n
 |0,_=>by simp[Bu]
 |n+1,a=>by
  have:=On p n (a+1)
  have:=Vn p a
  rw[Bu,Nat.pow_succ];omega
theorem Ai1(p:List UInt8):∀(m n a:Nat),Bu p a (m+n)=Bu p a m+2^m*Bu p (a+m) n
 |0,n,a=>by simp[Bu]
 |m+1,n,a=>by
  rw[show m+1+n=(m+n)+1 by omega,Bu,Bu,Ai1 p m n (a+1),show a+1+m=a+(m+1) by omega,Nat.pow_succ,Nat.mul_add,Nat.mul_comm (2^m) 2,Nat.mul_assoc];omega
theorem Bk0(p:List UInt8)(a:Nat):Bu p a 1=Jf p a:=by simp[Bu]
theorem Bhy(p:List UInt8)(a n:Nat):Bu p a (n+1)=Bu p a n+2^n*Jf p (a+n):=by rw[Ai1 p n 1 a,Bk0]
theorem Ay9(p:List UInt8)(a:Nat):∀t:Nat,a %8+t≤8→Bu p a t=(p.getD (a/8) 0).toNat/2^(a %8) %2^t
 |0,_=>by simp[Bu,Nat.mod_one]
 |t+1,h=>by
  have h1:(a+t)/8=a/8:=by omega
  have h2:(a+t) %8=a %8+t:=by omega
  rw[Bhy,Ay9 p a t (by omega),Jf,h1,h2,Nat.mod_pow_succ,Nat.pow_add,Nat.div_div_eq_div_mul]
theorem Bhk{p:List UInt8}:∀(n a:Nat),(∀k,k<n→Jf p (a+k)=0)→Bu p a n=0
 |0,_,_=>rfl
 |n+1,a,h=>by
  have h0:=h 0 (by omega)
  rw[Bu,Bhk n (a+1) fun k hk=>by have:=h (k+1) (by omega);rwa [show a+1+k=a+(k+1) by omega]]
  rw[Nat.add_zero]at h0;omega
def okB(p:List UInt8)(n:Nat):Prop:=n≤330000∧p.length=(n+7)/8∧∀k,n≤k→k<8*p.length→Jf p k=0
def Acv(p:List UInt8)(a n:Nat):List UInt8:=(List.range ((n+7)/8)).map fun j=>UInt8.ofNat (Bu p (a+8*j) (min 8 (n-8*j)))
theorem Mc(p:List UInt8)(a n:Nat):(Acv p a n).length=(n+7)/8:=by simp[Acv]
theorem Bmh(p:List UInt8):∀(n a k:Nat),k<n→Bu p a n/2^k %2=Jf p (a+k)
 |n+1,a,0,_=>by have:=Vn p a;rw[Bu];simp;omega
 |n+1,a,k+1,h=>by
  have hb:=Vn p a
  have e:(Jf p a+2*Bu p (a+1) n)/2=Bu p (a+1) n:=by omega
  rw[Bu,Nat.pow_succ,Nat.mul_comm (2^k) 2,←Nat.div_div_eq_div_mul,e,Bmh p n (a+1) k (by omega),show a+1+k=a+(k+1) by omega]
theorem Bt3(p:List UInt8)(n a k:Nat)(h:n≤k):Bu p a n/2^k %2=0:=by
 have:=On p n a
 rw[Nat.div_eq_of_lt (Nat.lt_of_lt_of_le this (Nat.pow_le_pow_right (by omega) h))]
theorem Bve(p:List UInt8)(a n k:Nat):Jf (Acv p a n) k=if k<n then Jf p (a+k)else 0:=by
 rw[Jf]
 by_cases hj:k/8<(n+7)/8
 ·have e:(Acv p a n).getD (k/8) 0=UInt8.ofNat (Bu p (a+8*(k/8)) (min 8 (n-8*(k/8)))):=by
   rw[List.getD_eq_getElem?_getD,List.getElem?_eq_getElem (by rw[Mc];exact hj)];simp[Acv]
  have hlt:Bu p (a+8*(k/8)) (min 8 (n-8*(k/8)))<256:=by
   have:=On p (min 8 (n-8*(k/8))) (a+8*(k/8))
   have h2:2^(min 8 (n-8*(k/8)))≤2^8:=Nat.pow_le_pow_right (by omega) (by omega)
   omega
  have hu:(UInt8.ofNat (Bu p (a+8*(k/8)) (min 8 (n-8*(k/8))))).toNat=Bu p (a+8*(k/8)) (min 8 (n-8*(k/8))):=by
   rw[UInt8.toNat_ofNat'];exact Nat.mod_eq_of_lt hlt
  rw[e,hu]
  by_cases hk:k<n
  ·rw[if_pos hk,Bmh p _ _ _ (by omega),show a+8*(k/8)+k %8=a+k by omega]
  ·rw[if_neg hk,Bt3 p _ _ _ (by omega)]
 ·have e:(Acv p a n).getD (k/8) 0=0:=by
   rw[List.getD_eq_getElem?_getD,List.getElem?_eq_none (by rw[Mc];omega)];rfl
  rw[e,if_neg (by omega)];simp
theorem Bp0(p:List UInt8)(a n:Nat)(h:n≤330000):okB (Acv p a n) n:=⟨h,Mc p a n,fun k hk _=>by rw[Bve,if_neg (by omega)]⟩
end Go.Lv
set_option linter.unusedVariables false
set_option linter.unusedSimpArgs false
namespace Go.Pl
open Go Go.Lv
theorem Bv8(b:List UInt8)(hb:b.length<4611686018427387904):∀(j q:Nat),j≤b.length→j<q→Kw b q (leU (b.drop j)) ((j:Int)-1)=some (leU b)
 |0,q+1,_,_=>by
  rw[Kw,Wq,if_neg (by rw[Cz];simp)]
  simp[Ahl,Ahg]
 |j+1,q+1,hj,hq=>by
  rw[Kw,Wq,if_pos (by rw[Cz];simp),show((j+1:Nat):Int)-1=(j:Int) by omega,Cf (by omega),Aa,Bh (by omega) (by omega)]
  have h:Ae (Ay (256:UInt64) (leU (b.drop (j+1)))) (Ad b[j]:UInt64)=leU (b.drop j):=by
   rw[Aeb,Aeo,Ava,drop_cons (n:=j) (by omega),leU,leU,Ed,UInt64.ofNat_add,UInt64.ofNat_mul]
   exact UInt64.add_comm _ _
  rw[h]
  exact Bv8 b hb j q (by omega) (by omega)
theorem Bng(b:List UInt8)(hb:b.length<4611686018427387904):Cp b=some (leU b):=by
 have h:=Bv8 b hb b.length Am (Nat.le_refl _) (by have:=Ak;omega)
 rw[Cp,Ajg,Aje]
 have e:Ah (Ac b) 1=(b.length:Int)-1:=Bh (by unfold Ac;omega) (by unfold Ac;omega)
 rw[e,←h,List.drop_length];rfl
theorem Bwm{n c:UInt64}{i:Nat}(hn:n.toNat<2^i)(hc:c.toNat*2^i<18446744073709551616):gor n (Cn c i)=UInt64.ofNat (n.toNat+c.toNat*2^i):=by
 rw[By6];apply UInt64.toNat_inj.1
 rw[UInt64.toNat_or,Aly,Nat.mod_eq_of_lt hc,Nat.mul_comm,Nat.or_comm,←Nat.two_pow_add_eq_or_of_lt hn,UInt64.toNat_ofNat',Nat.mod_eq_of_lt,Nat.add_comm,Nat.mul_comm]
 have h:=Nat.two_pow_add_eq_or_of_lt hn c.toNat
 have h2:2^i*c.toNat+n.toNat<2^64:=by
  rw[h]
  exact Nat.or_lt_two_pow (by rw[Nat.mul_comm];simpa using hc) n.toNat_lt
 rw[Nat.add_comm];first|exact h2|(rw[Nat.mul_comm];exact h2)
theorem Bgu(b:List UInt8)(hb:b.length≤8):∀(j i q:Nat),i+j=b.length→j<q→Xp b q (leU (b.take i)) (i:Int)=some (leU b,0)
 |0,i,q+1,hi,_=>by
  rw[Xp,Aj7,if_neg (by rw[Af,Ac];simp;omega),show i=b.length by omega,List.take_length];rfl
 |j+1,i,q+1,hi,hq=>by
  have hlt:i<b.length:=by omega
  rw[Xp,Aj7,if_pos (by rw[Af,Ac];simp;omega),Cf hlt,Aa,Fc (by omega) (by omega),Bp (by rw[Cz];simp;omega),Aa,Ag (by omega) (by omega)]
  have h:gor (leU (b.take i)) (Cn (Ad b[i]:UInt64) (GI.toZ ((8:Int)*(i:Int))).toNat)=leU (b.take (i+1)):=by
   have e:(GI.toZ ((8:Int)*(i:Int))).toNat=8*i:=by show((8:Int)*(i:Int)).toNat=_;omega
   have e2:(2:Nat)^(8*i)=256^i:=by rw[Nat.pow_mul]
   have h1:=Bic (b.take i)
   rw[List.length_take,Nat.min_eq_left (by omega)]at h1
   have h3:=b[i].toNat_lt
   have hle:(256:Nat)^(i+1)≤256^8:=Nat.pow_le_pow_right (by omega) (by omega)
   rw[Nat.pow_succ]at hle
   have h4:(Ad b[i]:UInt64).toNat=b[i].toNat:=by rw[Ava,UInt64.toNat_ofNat'];omega
   have h5:b[i].toNat*256^i<18446744073709551616:=by
    have:b[i].toNat*256^i<256*256^i:=Nat.mul_lt_mul_of_pos_right (by simpa using h3) (Nat.pow_pos (by omega))
    simp at hle;omega
   rw[e,Bwm (by rw[Ajl (by simp;omega),e2];exact h1) (by rw[h4,e2];exact h5),Ajl (by simp;omega),h4,e2,Amx hlt]
   rw[leU,Bcq]
   simp only[Ed,List.length_take,Nat.min_eq_left (Nat.le_of_lt hlt),Nat.mul_zero,Nat.add_zero]
   rw[Nat.mul_comm]
  rw[h]
  exact Bgu b hb j (i+1) q (by omega) (by omega)
theorem Bk2(b:List UInt8)(h1:1≤b.length)(h2:b.length≤8):Aqv b=some (leU b,0):=by
 have h:=Bgu b h2 b.length 0 Am (by omega) (by have:=Ak;omega)
 rw[Aqv,Are,if_neg (by simp[Af,Ar,Ac];omega),Aqw]
 exact h
def part(b:List UInt8)(at' w:Nat):List UInt8:=(b.take (at'+w)).drop at'
theorem Cw{b:List UInt8}{a w:Nat}(h:a+w≤b.length):(part b a w).length=w:=by simp[part];omega
theorem Bh0(b:List UInt8)(a w:Nat)(h1:1≤w)(h2:w≤8)(h3:a+w≤b.length)(hb:b.length<4611686018427387904):Amv b (a:Int) (w:Int)=some (leU (part b a w),0):=by
 rw[Amv,if_neg (by simp[Af,Ar];omega),if_neg (by rw[Ar,Bh (by unfold Ac;omega) (by unfold Ac;omega),Ac];simp;omega),Ag (by omega) (by omega),Xa (by omega) (by omega) (by omega),Aa]
 rw[show((a:Int)+(w:Int)).toNat=a+w by omega,show(a:Int).toNat=a by omega]
 rw[Bk2 _ (by rw[show((b.take (a+w)).drop a).length=_ from Cw h3];exact h1) (by rw[show((b.take (a+w)).drop a).length=_ from Cw h3];exact h2),Aa];rfl
theorem Ba4(w:Nat)(hw:w≤1000):∀(j i q:Nat) (n:UInt64) (acc:List UInt8),i+j=w→j<q→acc.length+j≤1000000→Gl (w:Int) q n (i:Int) acc=some (acc++leB n.toNat j)
 |0,i,q+1,n,acc,hi,_,_=>by
  rw[Gl,Nr,if_neg (by rw[Af];simp;omega)]
  simp[Xy,Yf,leB]
 |j+1,i,q+1,n,acc,hi,hq,ha=>by
  rw[Gl,Nr,if_pos (by rw[Af];simp;omega)]
  have e:(Ad (Yk n (256:UInt64)):UInt8)=UInt8.ofNat n.toNat:=by
   rw[Aoq,Bnp];apply UInt8.toNat_inj.1
   rw[UInt8.toNat_ofNat',UInt8.toNat_ofNat',UInt64.toNat_mod]
   show n.toNat %256 %256=_
   omega
  have e2:(Bf n (256:UInt64)).toNat=n.toNat/256:=by rw[Axn,UInt64.toNat_div];rfl
  rw[Cq (by simp;omega),Aa,Ag (by omega) (by omega),e]
  have h:=Ba4 w hw j (i+1) q (Bf n 256) (acc++[UInt8.ofNat n.toNat]) (by omega) (by omega) (by simp;omega)
  rw[e2]at h
  rw[show((i:Int)+1)=((i+1:Nat):Int) by omega,h,leB];simp
theorem Bb9(n:UInt64)(w:Nat)(hw:w≤1000):Db n (w:Int)=some (leB n.toNat w):=by
 rw[Db,Xg,Xo]
 have h:=Ba4 w hw w 0 Am n [] (by omega) (by have:=Ak;omega) (by simp;omega)
 simpa using h
theorem Ati{α:Type}{l m:List α}{x y:α}{i:Nat}(h:l.length=i):(l++x::m).set i y=l++y::m:=by subst h;simp
theorem Bhp(n:UInt64)(l4:List UInt8)(w:Nat)(hl:l4.length=w)(hw:w≤8):∀(j i q:Nat),i+j=w→j<q→Yc n l4 q (i:Int) (leB n.toNat i++List.replicate j 0)=some (leB n.toNat w,0)
 |0,i,q+1,hi,_=>by
  rw[Yc,Akj,if_neg (by rw[Af,Ac];simp;omega)]
  obtain rfl:i=w:=by omega
  simp[Asn,Azw]
 |j+1,i,q+1,hi,hq=>by
  have hlen:(leB n.toNat i++List.replicate (j+1) 0).length=i+(j+1):=by simp[Mu]
  rw[Yc,Akj,if_pos (by rw[Af,Ac];simp;omega),Fc (by omega) (by omega),Bp (by rw[Cz];simp;omega),Aa,Cf (by rw[hlen];omega),Aa,Uo _ (by rw[hlen];omega),Aa,Ag (by omega) (by omega)]
  have e:(Ad (Bn n (GI.toZ ((8:Int)*(i:Int))).toNat):UInt8)=UInt8.ofNat (n.toNat/256^i):=by
   have e:(GI.toZ ((8:Int)*(i:Int))).toNat=8*i:=by show((8:Int)*(i:Int)).toNat=_;omega
   rw[e,Aoq,Aeu,Nat.pow_mul]
  rw[e,List.replicate_succ,Ati (Mu _ _)]
  have h:=Bhp n l4 w hl hw j (i+1) q (by omega) (by omega)
  rw[Bkp]at h
  simpa using h
theorem Byr(n:UInt64)(w:Nat)(h1:1≤w)(h2:w≤8)(h:n.toNat<256^w):Bb5 n (w:Int)=some true:=by
 rw[Bb5]
 by_cases h8:w=8
 ·subst h8;rw[if_pos (by rw[Bc];rfl)]
 ·rw[if_neg (by rw[Bc];simp;omega),Fc (by omega) (by omega),Bp (by rw[Cz];simp;omega),Aa]
  have e:(GI.toZ ((8:Int)*(w:Int))).toNat=8*w:=by show((8:Int)*(w:Int)).toNat=_;omega
  rw[e,Bb4]
  have:Bn n (8*w)=0:=by
   apply UInt64.toNat_inj.1
   rw[Aeu,Nat.pow_mul]
   exact Nat.div_eq_of_lt h
  rw[this];rfl
theorem Bkj(n:UInt64)(w:Nat)(h1:1≤w)(h2:w≤8)(h:n.toNat<256^w):Vi n (w:Int)=some (leB n.toNat w,0):=by
 rw[Vi,Asu,if_neg (by simp[Af,Ar];omega),Byr n w h1 h2 h,Aa,if_neg (by simp),Azt (by omega) (by omega),Aa,Bp (by rw[Bc];simp),Aa,As6]
 have h:=Bhp n (List.replicate (w:Int).toNat 0) w (by simp) h2 w 0 Am (by omega) (by have:=Ak;omega)
 simpa [leB]using h
end Go.Pl
set_option linter.unusedVariables false
set_option linter.unusedSimpArgs false
namespace Go.Pl
open Go Go.Lv
theorem Bk8(n:Nat)(h:n<4611686018427387904):Dg (n:Int) (7:Int)=((n %8:Nat):Int):=by
 have e:Dg (n:Int) (7:Int)=wrap64 ((BitVec.ofInt 64 (n:Int)&&&BitVec.ofInt 64 7).toNat:Int):=rfl
 rw[e,BitVec.toNat_and,BitVec.toNat_ofInt,BitVec.toNat_ofInt]
 have h1:((n:Int) %((2^64:Nat):Int)).toNat=n:=by omega
 have h2:((7:Int) %((2^64:Nat):Int)).toNat=2^3-1:=by decide
 rw[h1,h2,Nat.and_two_pow_sub_one_eq_mod,Br (by omega) (by omega)]
theorem Cei(n:Nat):Bir (n:Int) (GI.toZ (3:UInt64)).toNat=((n/8:Nat):Int):=by
 have e:Bir (n:Int) (GI.toZ (3:UInt64)).toNat=(n:Int).fdiv 8:=rfl
 rw[e,Int.fdiv_eq_ediv_of_nonneg _ (by omega)];omega
theorem Cd0{t:Nat}(h:t≤8):Ah (Cn (1:UInt8) t) (1:UInt8)=UInt8.ofNat (2^t-1):=by
 have:t=0∨t=1∨t=2∨t=3∨t=4∨t=5∨t=6∨t=7∨t=8:=by omega
 rcases this with rfl|rfl|rfl|rfl|rfl|rfl|rfl|rfl|rfl<;>decide
theorem bitsOf(c:UInt8)(off t:Nat)(h:t≤8):(Dg (Bn c off) (Ah (Cn (1:UInt8) t) (1:UInt8))).toNat=c.toNat/2^off %2^t:=by
 have hp:2^t≤2^8:=Nat.pow_le_pow_right (by omega) h
 rw[Cd0 h,Cav,UInt8.toNat_and,Brs,UInt8.toNat_ofNat',Nat.mod_eq_of_lt (by have:=Nat.pow_pos (n:=t) (show 0<2 by omega);omega),Nat.and_two_pow_sub_one_eq_mod]
theorem Bdw{p:List UInt8}{k:Nat}(h:k<p.length):getI p (k:Int)=some (p.getD k 0):=by
 rw[Cf h];simp[List.getD_eq_getElem?_getD,h]
def Tf(p:List UInt8)(a n:Nat):UInt64:=UInt64.ofNat (Bu p a n)
theorem Zg(p:List UInt8)(a n:Nat)(h:n≤64):(Tf p a n).toNat=Bu p a n:=by
 have h1:=On p n a
 have h2:2^n≤2^64:=Nat.pow_le_pow_right (by omega) h
 rw[Tf,UInt64.toNat_ofNat',Nat.mod_eq_of_lt (by omega)]
theorem Bnj(p:List UInt8)(N:Int)(a n:Nat)(hn:n≤64)(ha:a+n≤8*p.length)(hp:p.length≤1000000):∀(j h q:Nat),h+j=n→j<q→Ad6 (a:Int) (n:Int) p N q (Tf p a h) (h:Int)=some (Tf p a n)
 |j,h,q+1,hj,hq=>by
  rw[Ad6,Arh]
  by_cases hlt:h<n
  ·have e1:Ae (a:Int) (h:Int)=((a+h:Nat):Int):=by rw[Ag (by omega) (by omega)];omega
   have e2:Dj (Ah (n:Int) (h:Int)) (Ah (8:Int) (((a+h) %8:Nat):Int))=((min (n-h) (8-(a+h) %8):Nat):Int):=by
    rw[Ajd,Bh (by omega) (by omega),Bh (by omega) (by omega)];omega
   have hm:(a+h)/8<p.length:=by omega
   rw[if_pos (by rw[Af];simp;omega),e1,Cei,Bdw hm,Aa,Bk8 _ (by omega),Bp (by rw[Cz];simp;omega),Aa,e2,Bp (by rw[Cz];simp),Aa,Bp (by rw[Cz];simp),Aa]
   generalize hT:min (n-h) (8-(a+h) %8)=T
   have hT8:T≤8:=by omega
   have hT1:1≤T:=by omega
   have hb:(a+h) %8+T≤8:=by omega
   have hv:=Ay9 p (a+h) T hb
   have z1:(GI.toZ (((a+h) %8:Nat):Int)).toNat=(a+h) %8:=rfl
   have z2:(GI.toZ ((T:Nat):Int)).toNat=T:=rfl
   have z3:(GI.toZ ((h:Nat):Int)).toNat=h:=rfl
   rw[z1,z2,z3]
   have hx:(Ad (Dg (Bn (p.getD ((a+h)/8) 0) ((a+h) %8)) (Ah (Cn (1:UInt8) T) (1:UInt8))):UInt64).toNat=Bu p (a+h) T:=by
    rw[Ava,UInt64.toNat_ofNat',bitsOf _ _ _ hT8,←hv]
    have:=On p T (a+h)
    have h2:2^T≤2^8:=Nat.pow_le_pow_right (by omega) hT8
    omega
   have hlt2:=On p (h+T) a
   rw[Ai1]at hlt2
   have h64:2^(h+T)≤2^64:=Nat.pow_le_pow_right (by omega) (by omega)
   have hor:gor (Tf p a h) (Cn (Ad (Dg (Bn (p.getD ((a+h)/8) 0) ((a+h) %8)) (Ah (Cn (1:UInt8) T) (1:UInt8))):UInt64) h)=Tf p a (h+T):=by
    rw[Bwm (by rw[Zg p a h (by omega)];exact On p h a) (by rw[hx,Nat.mul_comm];omega),hx,Zg p a h (by omega),Tf,Ai1,Nat.mul_comm (2^h)]
   rw[hor,Ag (by omega) (by omega),show(h:Int)+((T:Nat):Int)=((h+T:Nat):Int) by omega]
   exact Bnj p N a n hn ha hp (j-T) (h+T) q (by omega) (by omega)
  ·rw[if_neg (by rw[Af];simp;omega),show h=n by omega];rfl
theorem get_eq(p:List UInt8)(N:Int)(a n:Nat)(hn:n≤64)(ha:a+n≤8*p.length)(hp:p.length≤1000000):Awz p N (a:Int) (n:Int)=some (Tf p a n):=by
 have:=Bnj p N a n hn ha hp n 0 Am (by omega) (by have:=Ak;omega)
 exact this
theorem Agu{p:List UInt8}{n:Nat}(h:okB p n):Ii p (n:Int)=some 0:=by
 obtain⟨h1,h2,h3⟩:=h
 have e7:Ae (n:Int) 7=((n+7:Nat):Int):=by rw[Ag (by omega) (by omega)];omega
 rw[Ii,e7,Cei,if_neg (by simp[Af,Ar,Aj,Ac,h2];omega),Bk8 _ (by omega)]
 by_cases hz:n %8=0
 ·rw[if_neg (by rw[Ar];simp;omega)]
 ·have el:Ah (Ac p) 1=((p.length-1:Nat):Int):=by rw[Ac,Bh (by omega) (by omega)];omega
  rw[if_pos (by rw[Ar];simp;omega),el,Bdw (by omega),Aa,Bp (by rw[Cz];simp;omega),Aa]
  have z:(GI.toZ ((n %8:Nat):Int)).toNat=n %8:=rfl
  have hs:Bn (p.getD (p.length-1) 0) (n %8)=0:=by
   apply UInt8.toNat_inj.1
   rw[Brs]
   have hv:=Ay9 p n (8-n %8) (by omega)
   have h0:Bu p n (8-n %8)=0:=Bhk _ _ fun k hk=>h3 _ (by omega) (by omega)
   rw[h0,show n/8=p.length-1 by omega]at hv
   have hlt:(p.getD (p.length-1) 0).toNat/2^(n %8)<2^(8-n %8):=by
    have:=(p.getD (p.length-1) 0).toNat_lt
    rw[Nat.div_lt_iff_lt_mul (Nat.pow_pos (by omega)),←Nat.pow_add,show 8-n %8+n %8=8 by omega];simpa using this
   rw[Nat.mod_eq_of_lt hlt]at hv
   exact hv.symm
  rw[z,hs,if_neg (by rw[Bpn];simp)]
theorem Ayg{p:List UInt8}{N:Nat}(h:okB p N)(a n:Nat)(hn:n≤64):Yv p (N:Int) (a:Int) (n:Int)=some (if N<a+n then(0,24)else(Tf p a n,0)):=by
 obtain⟨h1,h2,h3⟩:=h
 rw[Yv,Agu ⟨h1,h2,h3⟩,Aa,if_neg (by rw[Aj];simp),if_neg (by simp[Af,Ar];omega),Bh (by omega) (by omega)]
 by_cases hl:N<a+n
 ·rw[if_pos (by rw[Ar];simp;omega),if_pos hl]
 ·rw[if_neg (by rw[Ar];simp;omega),get_eq p N a n hn (by omega) (by omega),Aa,if_neg hl]
end Go.Pl
set_option linter.unusedVariables false
set_option linter.unusedSimpArgs false
namespace Go.Pl
open Go Go.Lv
theorem Cfm(c:Nat)(h:c<4611686018427387904):Bf (c:Int) (2:Int)=((c/2:Nat):Int):=by
 rw[Ae9,Int.tdiv_eq_ediv_of_nonneg (by omega),Br (by omega) (by omega)];omega
theorem Ceb(c:Nat)(h:c<4611686018427387904):Bf (c:Int) (8:Int)=((c/8:Nat):Int):=by
 rw[Ae9,Int.tdiv_eq_ediv_of_nonneg (by omega),Br (by omega) (by omega)];omega
theorem Bvr(c:Nat):Ey (c:Int) (8:Int)=((c %8:Nat):Int):=by rw[Ey,Int.tmod_eq_emod_of_nonneg (by omega)];omega
theorem Cfd(c:Nat):Ey (c:Int) (2:Int)=((c %2:Nat):Int):=by rw[Ey,Int.tmod_eq_emod_of_nonneg (by omega)];omega
theorem Brl(i c:Nat)(hc:c<256):∀(j k q:Nat),k+j=i %8→j<q→La (i:Int) q ((c/2^k:Nat):Int) (k:Int)=some (((c/2^(i %8) %2:Nat):Int))
 |0,k,q+1,hk,_=>by
  rw[La,Wn,Bvr,if_neg (by rw[Af];simp;omega),Ajf,Aip,Cfd,show k=i %8 by omega]
 |j+1,k,q+1,hk,hq=>by
  have hle:c/2^k≤c:=Nat.div_le_self _ _
  rw[La,Wn,Bvr,if_pos (by rw[Af];simp;omega),Cfm _ (by omega),Ag (by omega) (by omega),Nat.div_div_eq_div_mul,←Nat.pow_succ]
  exact Brl i c hc j (k+1) q (by omega) (by omega)
theorem Ay3(p:List UInt8)(N:Int)(i:Nat)(h:i/8<p.length)(hi:i<4611686018427387904):Jm p N (i:Int)=some ((Jf p i:Nat):Int):=by
 have hc:=(p.getD (i/8) 0).toNat_lt
 have:=Brl i (p.getD (i/8) 0).toNat (by simpa using hc) (i %8) 0 Am (by omega) (by have:=Ak;omega)
 rw[Jm,Ai2,Ceb _ hi,Bdw h,Aa,Acx,Ah2]
 simpa [Jf]using this
theorem Bck(p:List UInt8)(N:Int)(a n:Nat)(ha:a+n≤8*p.length)(hp:p.length≤1000000):∀(j q:Nat),j≤n→j<q→Hs (a:Int) p N q (Tf p (a+j) (n-j)) ((j:Int)-1)=some (Tf p a n)
 |0,q+1,_,_=>by
  rw[Hs,Px,if_neg (by rw[Cz];simp)];rfl
 |j+1,q+1,hj,hq=>by
  have hb:=Vn p (a+j)
  rw[Hs,Px,show((j+1:Nat):Int)-1=(j:Int) by omega,if_pos (by rw[Cz];simp),Ag (a:=(a:Int)) (by omega) (by omega),show(a:Int)+(j:Int)=((a+j:Nat):Int) by omega,Ay3 p N (a+j) (by omega) (by omega),Aa,Bh (by omega) (by omega)]
  have e:Ae (Ay (2:UInt64) (Tf p (a+(j+1)) (n-(j+1)))) (Ad ((Jf p (a+j):Nat):Int):UInt64)=Tf p (a+j) (n-j):=by
   rw[Aeb,Aeo,Ye,Tf,Tf,show n-j=(n-(j+1))+1 by omega,Bu,show a+j+1=a+(j+1) by omega,UInt64.ofNat_add,UInt64.ofNat_mul]
   exact UInt64.add_comm _ _
  rw[e]
  exact Bck p N a n ha hp j q (by omega) (by omega)
theorem Avu(p:List UInt8)(N:Int)(a n:Nat)(ha:a+n≤8*p.length)(hp:p.length≤1000000):Nz p N (a:Int) (n:Int)=some (Tf p a n):=by
 have:=Bck p N a n ha hp n Am (Nat.le_refl _) (by have:=Ak;omega)
 have hz:Tf p (a+n) (n-n)=0:=by rw[Nat.sub_self];rfl
 rw[hz]at this
 rw[Nz,Acb,Ab1,Bh (by omega) (by omega)]
 exact this
theorem Bra(bit:Int)(N:Nat)(l:List UInt8):∀(j k q:Nat),k+j=N %8→j<q→Ju bit (N:Int) l q ((2^k:Nat):Int) (k:Int)=Uq bit ((2^(N %8):Nat):Int) (N:Int) l
 |0,k,q+1,hk,_=>by
  rw[Ju,Ui,Bvr,if_neg (by rw[Af];simp;omega),show k=N %8 by omega]
 |j+1,k,q+1,hk,hq=>by
  have hp:2^k≤2^8:=Nat.pow_le_pow_right (by omega) (by omega)
  have e:Ay ((2^k:Nat):Int) 2=((2^(k+1):Nat):Int):=by
   rw[Nat.pow_succ]
   generalize 2^k=K at*
   rw[Fc (by omega) (by omega)];omega
  rw[Ju,Ui,Bvr,if_pos (by rw[Af];simp;omega),e,Ag (by omega) (by omega)]
  exact Bra bit N l j (k+1) q (by omega) (by omega)
theorem Be2(p:List UInt8)(a n j:Nat)(h:j<(n+7)/8):(Acv p a n)[j]'(by rw[Mc];exact h)=UInt8.ofNat (Bu p (a+8*j) (min 8 (n-8*j))):=by simp[Acv]
theorem Bm7(p:List UInt8)(a t:Nat)(h:t≤8):Bu p a t<256:=by
 have h1:=On p t a
 have h2:2^t≤2^8:=Nat.pow_le_pow_right (by omega) h
 omega
def room(p:List UInt8)(a n:Nat):List UInt8:=if n %8=0 then Acv p a n++[0]else Acv p a n
theorem Vr(p:List UInt8)(a n:Nat):(room p a n).length=n/8+1:=by
 rw[room];split<;>simp[Mc]<;>omega
theorem Bly(p:List UInt8)(a n j:Nat)(h:j<n/8+1):(room p a n)[j]'(by rw[Vr];exact h)=UInt8.ofNat (Bu p (a+8*j) (min 8 (n-8*j))):=by
 have h0:(room p a n)[j]? =some (UInt8.ofNat (Bu p (a+8*j) (min 8 (n-8*j)))):=by
  rw[room]
  split
  ·by_cases hj:j<(n+7)/8
   ·rw[List.getElem?_append_left (by rw[Mc];exact hj),List.getElem?_eq_getElem (by rw[Mc];exact hj),Be2 p a n j hj]
   ·rw[List.getElem?_append_right (by rw[Mc];omega),Mc,show j-(n+7)/8=0 by omega,show n-8*j=0 by omega];rfl
  ·rw[List.getElem?_eq_getElem (by rw[Mc];omega),Be2 p a n j (by omega)]
 rw[List.getElem?_eq_getElem (by rw[Vr];exact h)]at h0
 exact Option.some.inj h0
theorem Bnn(p:List UInt8)(a n T:Nat)(h1:1≤T)(h:n %8+T≤8):(room p a n).set (n/8) (UInt8.ofNat (Bu p (a+8*(n/8)) (n %8+T)))=Acv p a (n+T):=by
 apply List.ext_getElem (by rw[List.length_set,Vr,Mc];omega)
 intro j g1 g2
 rw[List.length_set,Vr]at g1
 rw[List.getElem_set,Be2 p a (n+T) j (by rw[Mc]at g2;exact g2)]
 split
 ·rename_i e;subst e;rw[show min 8 (n+T-8*(n/8))=n %8+T by omega]
 ·rw[Bly p a n j g1,show min 8 (n-8*j)=8 by omega,show min 8 (n+T-8*j)=8 by omega]
theorem Bg3(p:List UInt8)(a n:Nat):(room p a n)[n/8]'(by rw[Vr];omega)=UInt8.ofNat (Bu p (a+8*(n/8)) (n %8)):=by
 rw[Bly p a n _ (by omega),show min 8 (n-8*(n/8))=n %8 by omega]
theorem Bxl(p:List UInt8)(a n:Nat)(hn:n≤400000):Tu (Acv p a n) (n:Int) ((Jf p (a+n):Nat):Int)=some (Acv p a (n+1),((n+1:Nat):Int)):=by
 have hb:=Vn p (a+n)
 have hp:2^(n %8)≤2^7:=Nat.pow_le_pow_right (by omega) (by omega)
 have hroom:Tu (Acv p a n) (n:Int) ((Jf p (a+n):Nat):Int)=Uz ((Jf p (a+n):Nat):Int) (n:Int) (room p a n):=by
  rw[Tu,Af6,Bvr,room]
  by_cases h0:n %8=0
  ·rw[if_pos (by rw[Bc,h0];rfl),Cq (by rw[Mc];simp;omega),Aa,if_pos h0]
  ·rw[if_neg (by rw[Bc];simp;omega),if_neg h0]
 have hl:=Bra ((Jf p (a+n):Nat):Int) n (room p a n) (n %8) 0 Am (by omega) (by have:=Ak;omega)
 rw[hroom,Uz,Agb,Afy]
 refine Eq.trans hl ?_
 have hg:getI (room p a n) ((n/8:Nat):Int)=some (UInt8.ofNat (Bu p (a+8*(n/8)) (n %8))):=by
  rw[Cf (by rw[Vr];omega),Bg3]
 have hlt:=Bm7 p (a+8*(n/8)) (n %8+1) (by omega)
 have hsn:=Bhy p (a+8*(n/8)) (n %8)
 rw[show a+8*(n/8)+n %8=a+n by omega]at hsn
 have hm:Ay ((Jf p (a+n):Nat):Int) ((2^(n %8):Nat):Int)=((2^(n %8)*Jf p (a+n):Nat):Int):=by
  have hle:2^(n %8)*Jf p (a+n)≤2^7*1:=Nat.mul_le_mul hp (by omega)
  rw[Bvd,←Int.natCast_mul,Br (by omega) (by rw[Nat.mul_comm];omega),Nat.mul_comm]
 have hx:Ae (UInt8.ofNat (Bu p (a+8*(n/8)) (n %8))) (Ad (((2^(n %8)*Jf p (a+n):Nat):Int)):UInt8)=UInt8.ofNat (Bu p (a+8*(n/8)) (n %8+1)):=by
  rw[Cbb,Bwe,hsn,UInt8.ofNat_add]
 rw[Uq,Af9,Ceb _ (by omega),hg,Aa,Aa,Aa,hm,hx,Uo _ (by rw[Vr];omega),Aa,Bnn p a n 1 (by omega) (by omega),Ag (by omega) (by omega)];rfl
theorem Awp(p:List UInt8)(N:Int)(a n:Nat)(ha:a+n≤8*p.length)(hp:p.length≤1000000)(hn:n≤300000):∀(j m q:Nat),m+j=n→j<q→Gk ((a+n:Nat):Int) p N q ((a+m:Nat):Int) (m:Int) (Acv p a m)=some (Acv p a n,(n:Int))
 |0,m,q+1,hm,_=>by
  rw[Gk,Nu,if_neg (by rw[Af];simp;omega),show m=n by omega];rfl
 |j+1,m,q+1,hm,hq=>by
  rw[Gk,Nu,if_pos (by rw[Af];simp;omega),Ay3 p N (a+m) (by omega) (by omega),Aa,Bxl p a m (by omega),Aa]
  simp only
  rw[Ag (by omega) (by omega)]
  exact Awp p N a n ha hp hn j (m+1) q (by omega) (by omega)
theorem Bk5(p:List UInt8)(N:Int)(a n:Nat)(ha:a+n≤8*p.length)(hp:p.length≤1000000)(hn:n≤300000):Ad3 p N (a:Int) ((a+n:Nat):Int)=some (Acv p a n,(n:Int)):=by
 have:=Awp p N a n ha hp hn n 0 Am (by omega) (by have:=Ak;omega)
 exact this
end Go.Pl
set_option linter.unusedVariables false
set_option linter.unusedSimpArgs false
namespace Go.Pl
open Go Go.Lv
theorem Cc6{t:Nat}(h:t≤8):Ah (Cn (1:UInt64) t) (1:UInt64)=UInt64.ofNat (2^t-1):=by
 have:t=0∨t=1∨t=2∨t=3∨t=4∨t=5∨t=6∨t=7∨t=8:=by omega
 rcases this with rfl|rfl|rfl|rfl|rfl|rfl|rfl|rfl|rfl<;>decide
theorem Cfo(v:UInt64){t:Nat}(h:t≤8):(Dg v (Ah (Cn (1:UInt64) t) (1:UInt64))).toNat=v.toNat %2^t:=by
 have hp:2^t≤2^8:=Nat.pow_le_pow_right (by omega) h
 rw[Cc6 h,Bda,UInt64.toNat_and,UInt64.toNat_ofNat',Nat.mod_eq_of_lt (by have:=Nat.pow_pos (n:=t) (show 0<2 by omega);omega),Nat.and_two_pow_sub_one_eq_mod]
theorem or8{v w i:Nat}(hv:v<2^i)(hw:w*2^i<256)(hi:i<8):gor (UInt8.ofNat v) (Cn (UInt8.ofNat w) i)=UInt8.ofNat (v+w*2^i):=by
 have hp:2^i≤2^8:=Nat.pow_le_pow_right (by omega) (by omega)
 have hpos:0<2^i:=Nat.pow_pos (by omega)
 have hw2:w<256:=Nat.lt_of_le_of_lt (Nat.le_mul_of_pos_right w hpos) hw
 rw[Cdf];apply UInt8.toNat_inj.1
 have e1:(UInt8.ofNat v).toNat=v:=by rw[UInt8.toNat_ofNat',Nat.mod_eq_of_lt (by omega)]
 have e2:(UInt8.ofNat w).toNat=w:=by rw[UInt8.toNat_ofNat',Nat.mod_eq_of_lt (by omega)]
 rw[UInt8.toNat_or,Byq,e1,e2,Nat.mod_eq_of_lt hw,Nat.mul_comm w,Nat.or_comm,←Nat.two_pow_add_eq_or_of_lt hv,UInt8.toNat_ofNat',Nat.add_comm v]
 rw[Nat.mul_comm]at hw
 have hb:2^i*w+v<256:=by
  rw[Nat.two_pow_add_eq_or_of_lt hv]
  exact Nat.or_lt_two_pow (n:=8) hw (by omega)
 rw[Nat.mod_eq_of_lt hb]
theorem Bu6(p:List UInt8)(a n T:Nat)(h:T≤n)(hn:n≤64):Bn (Tf p a n) T=Tf p (a+T) (n-T):=by
 apply UInt64.toNat_inj.1
 rw[Aeu,Zg p a n hn,Zg p (a+T) (n-T) (by omega)]
 have:=On p T a
 conv=>lhs;rw[show n=T+(n-T) by omega,Ai1,Nat.add_mul_div_left _ _ (Nat.pow_pos (by omega)),Nat.div_eq_of_lt this,Nat.zero_add]
theorem Bu3(p:List UInt8)(a n T:Nat)(h:T≤n)(hn:n≤64):(Tf p a n).toNat %2^T=Bu p a T:=by
 have:=On p T a
 rw[Zg p a n hn]
 conv=>lhs;rw[show n=T+(n-T) by omega,Ai1,Nat.add_mul_mod_self_left,Nat.mod_eq_of_lt this]
theorem Bea(bk:Int→Int→List UInt8→Option (List UInt8×Int×Int))(to':Int)(p:List UInt8)(N fr:Int)(r6:UInt64)(a:Nat):∀(j m q:Nat),m+j≤300000→j≤64→j<q→
  Md bk to' p N fr r6 q (Tf p (a+m) j) (j:Int) (m:Int) (Acv p a m)=Agr bk to' p N fr ((m+j:Nat):Int) (Acv p a (m+j))
 |0,m,q+1,_,_,_=>by
  rw[Md,Agj,if_neg (by rw[Ar];simp)];rfl
 |j+1,m,q+1,hm,hj,hq=>by
  have hroom:Md bk to' p N fr r6 (q+1) (Tf p (a+m) (j+1)) ((j+1:Nat):Int) (m:Int) (Acv p a m)=Agl (Md bk to' p N fr r6 q) to' fr p N r6 (Tf p (a+m) (j+1)) ((j+1:Nat):Int) (m:Int) (room p a m):=by
   rw[Md,Agj,if_pos (by rw[Ar];simp),Bk8 m (by omega),room]
   by_cases h0:m %8=0
   ·rw[if_pos (by rw[Bc,h0];rfl),Cq (by rw[Mc];simp;omega),Aa,if_pos h0]
   ·rw[if_neg (by rw[Bc];simp;omega),if_neg h0]
  have hl:Ah (Ac (room p a m)) 1=((m/8:Nat):Int):=by
   rw[Ac,Vr,Bh (by omega) (by omega)];omega
  have e2:Dj ((j+1:Nat):Int) (Ah (8:Int) ((m %8:Nat):Int))=((min (j+1) (8-m %8):Nat):Int):=by
   rw[Ajd,Bh (by omega) (by omega)];omega
  rw[hroom,Agl,Am8,Bk8 m (by omega),e2,hl]
  generalize hT:min (j+1) (8-m %8)=T
  have hT1:1≤T:=by omega
  have hT8:m %8+T≤8:=by omega
  have hg:getI (room p a m) ((m/8:Nat):Int)=some (UInt8.ofNat (Bu p (a+8*(m/8)) (m %8))):=by
   rw[Cf (by rw[Vr];omega),Bg3]
  have z1:(GI.toZ ((m %8:Nat):Int)).toNat=m %8:=rfl
  have z2:(GI.toZ ((T:Nat):Int)).toNat=T:=rfl
  have hlt:=Bm7 p (a+8*(m/8)) (m %8+T) (by omega)
  have hadd:=Ai1 p (m %8) T (a+8*(m/8))
  rw[show a+8*(m/8)+m %8=a+m by omega]at hadd
  have hbyte:(Ad (Dg (Tf p (a+m) (j+1)) (Ah (Cn (1:UInt64) T) (1:UInt64))):UInt8)=UInt8.ofNat (Bu p (a+m) T):=by
   rw[Aoq,Cfo _ (by omega),Bu3 p (a+m) (j+1) T (by omega) hj]
  have hnew:gor (UInt8.ofNat (Bu p (a+8*(m/8)) (m %8))) (Cn (UInt8.ofNat (Bu p (a+m) T)) (m %8))=UInt8.ofNat (Bu p (a+8*(m/8)) (m %8+T)):=by
   rw[or8 (On _ _ _) (by rw[Nat.mul_comm];omega) (by omega),hadd,Nat.mul_comm (2^(m %8))]
  rw[hg,z1,z2,hbyte]
  simp only[Aa]
  rw[Bp (by rw[Cz];simp),Aa,Bp (by rw[Cz];simp;omega),Aa,hnew,Uo _ (by rw[Vr];omega),Aa,Bnn p a m T hT1 hT8,Aob,Aw7,Bk8 m (by omega),e2,hT,Bp (by rw[Cz];simp),Aa,z2,Bu6 p (a+m) (j+1) T (by omega) hj,Bh (by omega) (by omega),Ag (by omega) (by omega)]
  have ih:=Bea bk to' p N fr r6 a (j+1-T) (m+T) q (by omega) (by omega) (by omega)
  rw[show m+T+(j+1-T)=m+(j+1) by omega]at ih
  rw[←ih,show a+m+T=a+(m+T) by omega,show((j+1:Nat):Int)-((T:Nat):Int)=((j+1-T:Nat):Int) by omega,show(m:Int)+((T:Nat):Int)=((m+T:Nat):Int) by omega]
theorem Bkr(p:List UInt8)(N:Int)(a n:Nat)(ha:a+n≤8*p.length)(hp:p.length≤1000000)(hn:n≤300000):∀(j m f q:Nat),(f=m∨n≤f∧m=n)→m+j=n→f≤n+64→j<q→Tt ((a+n:Nat):Int) p N q ((a+f:Nat):Int) (m:Int) (Acv p a m)=some (Acv p a n,(n:Int),0)
 |j,m,f,q+1,hf,hm,hf2,hq=>by
  rw[Tt,Anb]
  by_cases hlt:f<n
  ·obtain rfl:f=m:=by omega
   have e1:Dj (64:Int) (Ah ((a+n:Nat):Int) ((a+f:Nat):Int))=((min 64 (n-f):Nat):Int):=by
    rw[Ajd,Bh (by omega) (by omega)];omega
   rw[if_pos (by rw[Af];simp;omega),e1,get_eq p N (a+f) _ (by omega) (by omega) hp,Aa,Aof]
   have h1:=Bea (Tt ((a+n:Nat):Int) p N q) ((a+n:Nat):Int) p N ((a+f:Nat):Int) (Tf p (a+f) (min 64 (n-f))) a (min 64 (n-f)) f Am (by omega) (by omega) (by have:=Ak;omega)
   refine Eq.trans h1 ?_
   rw[Agr,Axx,Ag (by omega) (by omega),show((a+f:Nat):Int)+64=((a+(f+64):Nat):Int) by omega]
   exact Bkr p N a n ha hp hn (j-min 64 (n-f)) (f+min 64 (n-f)) (f+64) q (by omega) (by omega) (by omega) (by omega)
  ·rw[if_neg (by rw[Af];simp;omega),Aod,Axk,show m=n by omega]
theorem Cdh{p:List UInt8}{N:Nat}(h:okB p N)(a n:Nat)(ha:a+n≤N)(hn:n≤300000):Ass p (N:Int) (a:Int) ((a+n:Nat):Int)=some (Acv p a n,(n:Int),0):=by
 obtain⟨h1,h2,h3⟩:=h
 have:=Bkr p N a n (by omega) (by omega) hn n 0 0 Am (by omega) (by omega) (by omega) (by have:=Ak;omega)
 rw[Ass,Ar1,Agu ⟨h1,h2,h3⟩,Aa,if_neg (by rw[Aj];simp),if_neg (by simp[Af,Ar];omega),Ano]
 exact this
end Go.Pl
set_option linter.unusedVariables false
set_option linter.unusedSimpArgs false
namespace Go.Pl
open Go Go.Lv
def Fs(p:List UInt8):Nat→Nat→Nat
 |_,0=>0
 |a,m+1=>if Jf p a=1 then 1+Fs p (a+1) m else 0
theorem Ajy(p:List UInt8):∀(m a:Nat),Fs p a m≤m
 |0,_=>Nat.le_refl _
 |m+1,a=>by rw[Fs];split<;>have:=Ajy p m (a+1)<;>omega
theorem Bnb(p:List UInt8):∀(m a:Nat),∃s,Bu p a m+1=2^(Fs p a m+1)*s+2^Fs p a m∧(Fs p a m=m→s=0)
 |0,a=>⟨0,by simp[Bu,Fs],fun _=>rfl⟩
 |m+1,a=>by
  have hb:=Vn p a
  obtain⟨s,h1,h2⟩:=Bnb p m (a+1)
  by_cases h:Jf p a=1
  ·refine⟨s,?_,fun e=>h2 ?_⟩
   ·rw[Fs,if_pos h,Bu,h,show 1+Fs p (a+1) m+1=(Fs p (a+1) m+1)+1 by omega,show 1+Fs p (a+1) m=Fs p (a+1) m+1 by omega,Nat.pow_succ,Nat.pow_succ (n:=2) (m:=Fs p (a+1) m)]
    rw[Nat.pow_succ]at h1
    generalize Bu p (a+1) m=V at*
    generalize 2^Fs p (a+1) m=W at*
    have e1:W*2*2*s=2*(W*2*s):=by rw[Nat.mul_right_comm (W*2) 2 s,Nat.mul_comm]
    omega
   ·rw[Fs,if_pos h]at e;omega
  ·refine⟨Bu p (a+1) m,?_,fun e=>?_⟩
   ·rw[Fs,if_neg h,Bu];simp;omega
   ·rw[Fs,if_neg h]at e;omega
theorem Bzb{n t s:Nat}(h:2^(t+1)*s+2^t≤2^n)(ht:t<n)(x:Nat)(hx:x=2^n-(2^(t+1)*s+2^t)):x&&& (2^(t+1)*s+2^t)=2^t:=by
 have hpos:0<2^t:=Nat.pow_pos (by omega)
 have hlt:2^t<2^(t+1):=by rw[Nat.pow_succ];omega
 have e:x=2^n-((2^(t+1)*s+(2^t-1))+1):=by rw[hx];congr 1;omega
 apply Nat.eq_of_testBit_eq
 intro i
 rw[Nat.testBit_and,e,Nat.testBit_two_pow_sub_succ (by omega),Nat.testBit_two_pow_mul_add _ (by omega),Nat.testBit_two_pow_mul_add _ hlt]
 by_cases hi:i<t+1
 ·rw[if_pos hi,if_pos hi,Nat.testBit_two_pow_sub_one,Nat.testBit_two_pow]
  by_cases hit:t=i
  ·subst hit;simp;exact ht
  ·have:¬i=t:=fun e=>hit e.symm
   simp[hit]
 ·rw[if_neg hi,if_neg hi,Nat.testBit_two_pow]
  have:¬t=i:=by omega
  simp[this]
theorem Bx0(a:UInt64):(Bc0 a).toNat=18446744073709551615-a.toNat:=by
 have h:=a.toNat_lt
 have e:Bc0 a=UInt64.ofNat (BitVec.ofInt 64 18446744073709551615^^^BitVec.ofInt 64 (a.toNat:Int)).toNat:=Gm _
 have h1:BitVec.ofInt 64 (a.toNat:Int)=a.toBitVec:=Bjt a
 have h2:(BitVec.ofInt 64 18446744073709551615:BitVec 64)=BitVec.allOnes 64:=by decide
 rw[e,UInt64.toNat_ofNat',h1,h2,BitVec.allOnes_xor,BitVec.toNat_not]
 show(18446744073709551616-1-a.toNat) %18446744073709551616=18446744073709551615-a.toNat
 omega
theorem Bv6(a:UInt64):(Ax6 a).toNat=(18446744073709551616-a.toNat) %18446744073709551616:=by
 have h:=a.toNat_lt
 have e:Ax6 a=UInt64.ofNat ((0-(a.toNat:Int)) %18446744073709551616).toNat:=Bj4 _
 rw[e,UInt64.toNat_ofNat']
 show((0-(a.toNat:Int)) %18446744073709551616).toNat %18446744073709551616=_
 omega
def Cey:List UInt8:=[0,1,56,2,57,49,28,3,61,58,42,50,38,29,17,4,62,47,59,36,45,43,51,22,53,39,33,30,24,18,12,5,63,55,48,27,60,41,37,16,46,35,44,21,52,32,23,11,54,26,40,15,34,20,31,10,25,14,19,9,13,8,7,6]
theorem Bsx:∀t:Fin 64,getI Cey (GI.toZ (Bn (Ay (UInt64.ofNat (2^t.val)) (285870213051353865:UInt64)) (GI.toZ (58:UInt64)).toNat))=some (UInt8.ofNat t.val):=by decide +kernel
theorem Cez(x:UInt64)(t s:Nat)(ht:t<64)(h:x.toNat+(2^(t+1)*s+2^t)=18446744073709551616):Fh x=some (t:Int):=by
 have hpos:0<2^t:=Nat.pow_pos (by omega)
 have hx:x.toNat=2^64-(2^(t+1)*s+2^t):=by show x.toNat=18446744073709551616-_;omega
 have hle:2^t≤2^63:=Nat.pow_le_pow_right (by omega) (by omega)
 have hne:x≠0:=by
  intro e
  rw[e]at h
  have h':2^t*(2*s+1)=2^64:=by
   rw[Nat.mul_add,Nat.mul_one,←Nat.mul_assoc,←Nat.pow_succ]
   show _=18446744073709551616
   simpa using h
  have h2:2^64=2^t*2^(64-t):=by rw[←Nat.pow_add];congr 1;omega
  rw[h2]at h'
  have h3:=Nat.eq_of_mul_eq_mul_left hpos h'
  rw[show 64-t=(63-t)+1 by omega,Nat.pow_succ]at h3
  omega
 have hx0:x.toNat≠0:=fun e=>hne (UInt64.toNat_inj.1 e)
 have hl:Dg x (Ax6 x)=UInt64.ofNat (2^t):=by
  apply UInt64.toNat_inj.1
  rw[Bda,UInt64.toNat_and,Bv6,show(18446744073709551616-x.toNat) %18446744073709551616=2^(t+1)*s+2^t by omega,Bzb (n:=64) (by show _≤18446744073709551616;omega) ht _ hx,UInt64.toNat_ofNat',Nat.mod_eq_of_lt]
  exact Nat.lt_of_le_of_lt hle (by decide)
 have hb:=Bsx ⟨t,ht⟩
 rw[Fh,if_neg (by rw[Bb4];simpa using hne),hl]
 refine Eq.trans (congrArg (fun o=>Option.bind o fun c=>some (Ad c:Int)) hb) ?_
 rw[Aa,Acx,UInt8.toNat_ofNat',Nat.mod_eq_of_lt (by show t<256;omega)]
theorem Ca4(p:List UInt8)(a m:Nat)(hm:m≤48):Fh (Bc0 (Tf p a m))=some ((Fs p a m:Nat):Int):=by
 obtain⟨s,h1,h2⟩:=Bnb p m a
 have hle:=Ajy p m a
 have hlt:=On p m a
 have h48:2^m≤2^48:=Nat.pow_le_pow_right (by omega) hm
 have hn:(Bc0 (Tf p a m)).toNat=18446744073709551615-Bu p a m:=by rw[Bx0,Zg p a m (by omega)]
 have h3:(281474976710656:Nat)=2^48:=rfl
 refine Cez _ (Fs p a m) s (by omega) ?_
 rw[hn];omega
def unS(p:List UInt8)(N a:Nat):Int×Int×Int:=
 if Fs p a (min 48 (N-a))<min 48 (N-a)then((Fs p a (min 48 (N-a)):Nat),((a+Fs p a (min 48 (N-a))+1:Nat):Int),0)else
 if Fs p a (min 48 (N-a))=48 then(48,((a+48:Nat):Int),0)else(0,0,24)
theorem Bwn{p:List UInt8}{N:Nat}(h:okB p N)(a:Nat)(ha:a<N):Acs p (N:Int) (a:Int)=some (unS p N a):=by
 have hN:=h.1
 have e1:Dj (48:Int) (Ah (N:Int) (a:Int))=((min 48 (N-a):Nat):Int):=by rw[Ajd,Bh (by omega) (by omega)];omega
 have hle:=Ajy p (min 48 (N-a)) a
 rw[Acs,Vo,Agu h,Aa,if_neg (by rw[Aj];simp),if_neg (by rw[Af];simp),if_neg (by rw[Cz];simp;omega),e1,Ayg h a _ (by omega),if_neg (by omega),Aa]
 simp only
 rw[Alf,All,if_neg (by rw[Aj];simp),Ca4 p a _ (by omega),Aa,Alh,Alk,e1,unS]
 by_cases h1:Fs p a (min 48 (N-a))<min 48 (N-a)
 ·rw[if_pos (by rw[Af];simp;omega),if_pos h1,Ag (a:=(a:Int)) (by omega) (by omega),show Ae (0:Int) 1=1 by decide,Ag (by omega) (by omega)]
  congr 3;omega
 ·rw[if_neg (by rw[Af];simp;omega),if_neg h1,Akx,Ak6]
  by_cases h2:Fs p a (min 48 (N-a))=48
  ·rw[if_pos (by rw[Bc,h2];rfl),if_pos h2,h2,Ag (a:=(a:Int)) (by omega) (by omega),Ag (by omega) (by omega)]
   congr 3;omega
  ·rw[if_neg (by rw[Bc];simp;omega),if_neg h2];rfl
theorem Bhu(p:List UInt8):∀(m a:Nat),Fs p a m<m→Jf p (a+Fs p a m)≠1
 |0,_,h=>by simp[Fs]at h
 |m+1,a,h=>by
  by_cases hb:Jf p a=1
  ·rw[Fs,if_pos hb]at h⊢
   have:=Bhu p m (a+1) (by omega)
   rwa [show a+(1+Fs p (a+1) m)=a+1+Fs p (a+1) m by omega]
  ·rw[Fs,if_neg hb];exact hb
theorem Bhh(p:List UInt8):∀(m a k:Nat),k<Fs p a m→Jf p (a+k)=1
 |0,a,k,h=>by simp[Fs]at h
 |m+1,a,k,h=>by
  by_cases hb:Jf p a=1
  ·rw[Fs,if_pos hb]at h
   cases k with
   |zero=>exact hb
   |succ k=>
    have:=Bhh p m (a+1) k (by omega)
    rwa [show a+(k+1)=a+1+k by omega]
  ·rw[Fs,if_neg hb]at h;omega
def unR(p:List UInt8)(N a:Nat):Int×Int:=if(unS p N a).2.2=0 then((unS p N a).1,(unS p N a).2.1)else(-1,0)
theorem Bcg{p:List UInt8}{N:Nat}(h:okB p N)(a:Nat)(ha:a<N):∀(j k q:Nat),k+j=Fs p a (min 48 (N-a))→j<q→Jr (a:Int) p (N:Int) q (k:Int)=some (unR p N a)
 |0,k,q+1,hk,_=>by
  obtain⟨hN,hl,hz⟩:=h
  have hle:=Ajy p (min 48 (N-a)) a
  have hk':k=Fs p a (min 48 (N-a)):=by omega
  have e1:Ae (a:Int) (k:Int)=((a+k:Nat):Int):=by rw[Ag (by omega) (by omega)];omega
  have hend:Uf (a:Int) (k:Int) p (N:Int)=some (unR p N a):=by
   rw[Uf,Af2,e1]
   by_cases h48:k=48
   ·have hu:unS p N a=(48,((a+48:Nat):Int),0):=by rw[unS,←hk',if_neg (by omega),if_pos h48]
    rw[if_pos (by rw[Bc,h48];rfl),unR,hu,h48];rfl
   ·rw[if_neg (by rw[Bc];simp;omega)]
    by_cases hN2:N≤a+k
    ·have hu:unS p N a=(0,0,24):=by rw[unS,←hk',if_neg (by omega),if_neg h48]
     rw[if_pos (by rw[Cz];simp;omega),unR,hu];rfl
    ·have hu:unS p N a=(((k:Nat):Int),((a+k+1:Nat):Int),0):=by rw[unS,←hk',if_pos (by omega)]
     rw[if_neg (by rw[Cz];simp;omega),unR,hu,Ag (by omega) (by omega)];rfl
  rw[Jr,Un,e1]
  by_cases hc:a+k<N∧k<48
  ·have hb:=Vn p (a+k)
   have hs:=Bhu p (min 48 (N-a)) a (by omega)
   rw[←hk']at hs
   rw[if_pos (by simp[Af];omega),Ay3 p _ (a+k) (by omega) (by omega),Aa,if_neg (by rw[Bc];simp;omega),hend]
  ·rw[if_neg (by simp[Af];omega),hend]
 |j+1,k,q+1,hk,hq=>by
  obtain⟨hN,hl,hz⟩:=h
  have hle:=Ajy p (min 48 (N-a)) a
  have hb:=Bhh p (min 48 (N-a)) a k (by omega)
  have e1:Ae (a:Int) (k:Int)=((a+k:Nat):Int):=by rw[Ag (by omega) (by omega)];omega
  rw[Jr,Un,e1,if_pos (by simp[Af];omega),Ay3 p _ (a+k) (by omega) (by omega),Aa,hb,if_pos (by decide),Ag (by omega) (by omega)]
  exact Bcg ⟨hN,hl,hz⟩ a ha j (k+1) q (by omega) (by omega)
theorem Bux{p:List UInt8}{N:Nat}(h:okB p N)(a:Nat)(ha:a<N):Amp p (N:Int) (a:Int)=some (unR p N a):=by
 have hle:=Ajy p (min 48 (N-a)) a
 have:=Bcg h a ha (Fs p a (min 48 (N-a))) 0 Am (by omega) (by have:=Ak;omega)
 exact this
end Go.Pl
set_option linter.unusedVariables false
set_option linter.unusedSimpArgs false
namespace Go.Pl
open Go Go.Lv
theorem Buv{p:List UInt8}{N a:Nat}(h:Fs p a (min 48 (N-a))<min 48 (N-a)):unS p N a=(((Fs p a (min 48 (N-a)):Nat):Int),((a+Fs p a (min 48 (N-a))+1:Nat):Int),0):=by rw[unS,if_pos h]
theorem Bw7{p:List UInt8}{N a:Nat}(h:¬Fs p a (min 48 (N-a))<min 48 (N-a))(h2:Fs p a (min 48 (N-a))=48):unS p N a=(48,((a+48:Nat):Int),0):=by rw[unS,if_neg h,if_pos h2]
theorem Buo{p:List UInt8}{N a:Nat}(h:¬Fs p a (min 48 (N-a))<min 48 (N-a))(h2:¬Fs p a (min 48 (N-a))=48):unS p N a=(0,0,24):=by rw[unS,if_neg h,if_neg h2]
theorem Bt0{p:List UInt8}{N:Nat}(h:okB p N)(a:Nat)(ha:N≤a):Acs p (N:Int) (a:Int)=some (0,0,24):=by
 rw[Acs,Vo,Agu h,Aa,if_neg (by rw[Aj];simp),if_neg (by rw[Af];simp),if_pos (by rw[Cz];simp;omega)]
def rcS(p:List UInt8)(N a k:Nat):UInt32×Int×Int:=
 if N≤a then(0,0,24)else
 if Fs p a (min 48 (N-a))<min 48 (N-a)then
  (if N<a+Fs p a (min 48 (N-a))+1+k then(0,0,24)else(UInt32.ofNat (Fs p a (min 48 (N-a))*2^k+Bu p (a+Fs p a (min 48 (N-a))+1) k),((a+Fs p a (min 48 (N-a))+1+k:Nat):Int),0))
 else if Fs p a (min 48 (N-a))=48 then
  (if N<a+48+32 then(0,0,24)else if Bu p (a+48) 32/2^k<48 then(0,0,12)else(UInt32.ofNat (Bu p (a+48) 32),((a+48+32:Nat):Int),0))
 else(0,0,24)
theorem Aws{p:List UInt8}{a n:Nat}(h:n≤32):(Ad (Tf p a n):UInt32)=UInt32.ofNat (Bu p a n):=by
 have e:(Ad (Tf p a n):UInt32)=UInt32.ofNat (Tf p a n).toNat:=by simp only[Ad,Hl,Dy]
 rw[e,Zg p a n (by omega)]
theorem Am4{n:Nat}(h:n<4294967296):(UInt32.ofNat n).toNat=n:=by rw[UInt32.toNat_ofNat'];exact Nat.mod_eq_of_lt h
theorem Bl8(p:List UInt8)(a:Nat){n:Nat}(h:n≤32):Bu p a n<4294967296:=by
 have h1:=On p n a
 have h2:2^n≤2^32:=Nat.pow_le_pow_right (by omega) h
 omega
theorem Cce{q v k:Nat}(hq:q<48)(hv:v<2^k)(hk:k≤24):gor (Cn (Ad (q:Int):UInt32) k) (UInt32.ofNat v)=UInt32.ofNat (q*2^k+v):=by
 have hp:2^k≤2^24:=Nat.pow_le_pow_right (by omega) hk
 have h1:q*2^k≤47*2^24:=Nat.mul_le_mul (by omega) hp
 rw[Bx7];apply UInt32.toNat_inj.1
 rw[UInt32.toNat_or,Bch,Bg9,Am4 (by omega),Am4 (n:=v) (by omega),Nat.mod_eq_of_lt (by omega),Nat.mul_comm q,←Nat.two_pow_add_eq_or_of_lt hv,Am4 (by rw[Nat.mul_comm];omega)]
theorem Cbk{p:List UInt8}{N:Nat}(h:okB p N)(a k:Nat)(hk:k≤24):Atg p (N:Int) (a:Int) (k:Int)=some (rcS p N a k):=by
 have hN:=h.1
 rw[Atg,Aoa,Agu h,Aa,if_neg (by rw[Aj];simp),if_neg (by simp[Af,Ar];omega)]
 by_cases ha:N≤a
 ·rw[Bt0 h a ha,Aa,rcS,if_pos ha];rfl
 have hle:=Ajy p (min 48 (N-a)) a
 rw[Bwn h a (by omega),Aa]
 by_cases h1:Fs p a (min 48 (N-a))<min 48 (N-a)
 ·have hS:rcS p N a k=if N<a+Fs p a (min 48 (N-a))+1+k then(0,0,24)else(UInt32.ofNat (Fs p a (min 48 (N-a))*2^k+Bu p (a+Fs p a (min 48 (N-a))+1) k),((a+Fs p a (min 48 (N-a))+1+k:Nat):Int),0):=by rw[rcS,if_neg ha,if_pos h1]
  rw[Buv h1,hS]
  generalize Fs p a (min 48 (N-a))=q at*
  simp only
  rw[if_neg (by rw[Aj];simp),if_neg (by rw[Bc];simp;omega),Agf,Anm,Ayg h _ k (by omega),Aa]
  by_cases h2:N<a+q+1+k
  ·rw[if_pos h2,if_pos h2];rfl
  ·rw[if_neg h2,if_neg h2]
   simp only
   have z:(GI.toZ (k:Int)).toNat=k:=rfl
   rw[if_neg (by rw[Aj];simp),if_pos (by rw[Af];simp;omega),Bp (by rw[Cz];simp),Aa,z,Aws (by omega),Cce (by omega) (On _ _ _) hk,Ag (by omega) (by omega)];rfl
 ·by_cases h2:Fs p a (min 48 (N-a))=48
  ·have hS:rcS p N a k=if N<a+48+32 then(0,0,24)else if Bu p (a+48) 32/2^k<48 then(0,0,12)else(UInt32.ofNat (Bu p (a+48) 32),((a+48+32:Nat):Int),0):=by rw[rcS,if_neg ha,if_neg h1,if_pos h2]
   have hg:=Ayg h (a+48) 32 (by omega)
   rw[Bw7 h1 h2,hS]
   simp only
   rw[if_neg (by rw[Aj];simp),if_pos (by rw[Bc];rfl),Agf,Anm]
   refine Eq.trans (congrArg (fun o=>Option.bind o _) hg) ?_
   rw[Aa]
   by_cases h3:N<a+48+32
   ·rw[if_pos h3,if_pos h3];rfl
   ·rw[if_neg h3,if_neg h3]
    simp only
    have z:(GI.toZ (k:Int)).toNat=k:=rfl
    have hv:=Bl8 p (a+48) (n:=32) (by omega)
    rw[if_neg (by rw[Aj];simp),if_neg (by rw[Af];simp),Agc,Bp (by rw[Cz];simp),Aa,Aa,z,Aws (by omega),Bzj]
    have e:(decide ((48:UInt32).toNat≤(Bn (UInt32.ofNat (Bu p (a+48) 32)) k).toNat))=decide (¬Bu p (a+48) 32/2^k<48):=by
     rw[Alx,Am4 hv];simp
    rw[e]
    by_cases h4:Bu p (a+48) 32/2^k<48
    ·rw[if_pos (by simp[h4]),if_pos h4]
    ·rw[if_neg (by simp;omega),if_neg h4,Ag (by omega) (by omega)];rfl
  ·rw[Buo h1 h2,rcS,if_neg ha,if_neg h1,if_neg h2];rfl
theorem Bcr(k:Nat)(hk:k≤63):∀(j i q:Nat),i+j=k→j<q→Ht (k:Int) q (UInt64.ofNat (2^i)) (i:Int)=some (UInt64.ofNat (2^k))
 |0,i,q+1,hi,_=>by
  rw[Ht,Qo,if_neg (by rw[Af];simp;omega),show i=k by omega];rfl
 |j+1,i,q+1,hi,hq=>by
  have e:Ay (UInt64.ofNat (2^i)) (2:UInt64)=UInt64.ofNat (2^(i+1)):=by
   rw[Aeo,Nat.pow_succ,UInt64.ofNat_mul];rfl
  rw[Ht,Qo,if_pos (by rw[Af];simp;omega),Ag (by omega) (by omega),e]
  exact Bcr k hk j (i+1) q (by omega) (by omega)
theorem Aek(k:Nat)(hk:k≤63):Es (k:Int)=some (UInt64.ofNat (2^k)):=
 Bcr k hk k 0 Am (by omega) (by have:=Ak;omega)
theorem Akm{k:Nat}(hk:k≤63):(UInt64.ofNat (2^k)).toNat=2^k:=by
 have hp:2^k≤2^63:=Nat.pow_le_pow_right (by omega) hk
 rw[UInt64.toNat_ofNat',Nat.mod_eq_of_lt (by omega)]
theorem Ca9(v:UInt32)(k:Nat)(hk:k≤24):Aad v (k:Int)=some ((min 48 (v.toNat/2^k):Nat):Int):=by
 have hpos:0<2^k:=Nat.pow_pos (by omega)
 have hv:=v.toNat_lt
 rw[Aad,Aek k (by omega),Aa,Bp (by rw[Agn];simp only[bne_iff_ne,ne_eq,←UInt64.toNat_inj,Akm (show k≤63 by omega)];simp),Aa]
 have e:(Bf (Ad v:UInt64) (UInt64.ofNat (2^k))).toNat=v.toNat/2^k:=by
  rw[Axn,UInt64.toNat_div,Hh,Akm (by omega),UInt64.toNat_ofNat',Nat.mod_eq_of_lt (by omega)]
 have hle:v.toNat/2^k≤v.toNat:=Nat.div_le_self _ _
 have e2:Dj (48:UInt64) (Bf (Ad v:UInt64) (UInt64.ofNat (2^k)))=UInt64.ofNat (min 48 (v.toNat/2^k)):=by
  apply UInt64.toNat_inj.1
  rw[UInt64.toNat_ofNat',Nat.mod_eq_of_lt (by omega)]
  show(if _ then _ else _:UInt64).toNat=_
  rw[show(GI.toZ (Bf (Ad v:UInt64) (UInt64.ofNat (2^k))))=((v.toNat/2^k:Nat):Int) by rw[Hl,e],show GI.toZ (48:UInt64)=48 from rfl]
  split
  ·rw[e];omega
  ·show 48=_;omega
 rw[e2,Ayi (by rw[UInt64.toNat_ofNat',Nat.mod_eq_of_lt]<;>omega),UInt64.toNat_ofNat',Nat.mod_eq_of_lt (by omega)]
theorem Bvg{p:List UInt8}{N:Nat}(h:okB p N)(a k:Nat)(hk:k≤24):Ac8 p (N:Int) (a:Int) (k:Int)=some (rcS p N a k):=by
 obtain⟨hN,hl,hz⟩:=h
 have h:okB p N:=⟨hN,hl,hz⟩
 rw[Ac8,Afw]
 by_cases ha:N≤a
 ·rw[if_pos (by rw[Cz];simp;omega),rcS,if_pos ha]
 have hle:=Ajy p (min 48 (N-a)) a
 rw[if_neg (by rw[Cz];simp;omega),Bux h a (by omega),Aa,unR]
 by_cases h1:Fs p a (min 48 (N-a))<min 48 (N-a)
 ·have hS:rcS p N a k=if N<a+Fs p a (min 48 (N-a))+1+k then(0,0,24)else(UInt32.ofNat (Fs p a (min 48 (N-a))*2^k+Bu p (a+Fs p a (min 48 (N-a))+1) k),((a+Fs p a (min 48 (N-a))+1+k:Nat):Int),0):=by rw[rcS,if_neg ha,if_pos h1]
  rw[Buv h1,hS]
  generalize Fs p a (min 48 (N-a))=q at*
  rw[if_pos rfl]
  simp only
  rw[if_neg (by rw[Bc];simp;omega),Uw,Uv,Bh (by omega) (by omega)]
  by_cases h2:N<a+q+1+k
  ·rw[if_pos (by simp[Af];omega),if_pos h2]
  ·have hp:2^k≤2^24:=Nat.pow_le_pow_right (by omega) hk
   have hm:q*2^k≤47*2^24:=Nat.mul_le_mul (by omega) hp
   have hv:=On p k (a+q+1)
   have e:(Ad (Ae (Ay (Ad (q:Int):UInt64) (UInt64.ofNat (2^k))) (Tf p (a+q+1) k)):UInt32)=UInt32.ofNat (q*2^k+Bu p (a+q+1) k):=by
    have e1:Ae (Ay (Ad (q:Int):UInt64) (UInt64.ofNat (2^k))) (Tf p (a+q+1) k)=UInt64.ofNat (q*2^k+Bu p (a+q+1) k):=by
     rw[Aeb,Aeo,Ye,Tf,UInt64.ofNat_add,UInt64.ofNat_mul]
    rw[e1]
    have e2:∀x:UInt64,(Ad x:UInt32)=UInt32.ofNat x.toNat:=fun x=>by simp only[Ad,Hl,Dy]
    rw[e2,UInt64.toNat_ofNat',Nat.mod_eq_of_lt (by omega)]
   rw[if_neg (by simp[Af];omega),if_neg h2,Avu p _ _ k (by omega) (by omega),Aa,if_pos (by rw[Af];simp;omega),Aek k (by omega),Aa,e,Ag (by omega) (by omega)];rfl
 ·by_cases h2:Fs p a (min 48 (N-a))=48
  ·have hS:rcS p N a k=if N<a+48+32 then(0,0,24)else if Bu p (a+48) 32/2^k<48 then(0,0,12)else(UInt32.ofNat (Bu p (a+48) 32),((a+48+32:Nat):Int),0):=by rw[rcS,if_neg ha,if_neg h1,if_pos h2]
   rw[Bw7 h1 h2,hS,if_pos rfl]
   simp only
   rw[if_pos (by rw[Bc];rfl),Uw,Uv,Bh (by omega) (by omega)]
   by_cases h3:N<a+48+32
   ·rw[if_pos (by simp[Af];omega),if_pos h3]
   ·have hg:=Avu p (N:Int) (a+48) 32 (by omega) (by omega)
    have hv:=Bl8 p (a+48) (n:=32) (by omega)
    rw[if_neg (by simp[Af];omega),if_neg h3]
    refine Eq.trans (congrArg (fun o=>Option.bind o _) hg) ?_
    rw[Aa,if_neg (by rw[Af];simp),Aws (by omega),Ca9 _ k hk,Aa,Am4 hv]
    by_cases h4:Bu p (a+48) 32/2^k<48
    ·rw[if_pos (by rw[Af];simp;omega),if_pos h4]
    ·rw[if_neg (by rw[Af];simp;omega),if_neg h4,Ag (by omega) (by omega)];rfl
  ·rw[Buo h1 h2,rcS,if_neg ha,if_neg h1,if_neg h2]
   have e:(if((0:Int),(0:Int),(24:Int)).2.2=0 then(((0:Int),(0:Int),(24:Int)).1,((0:Int),(0:Int),(24:Int)).2.1)else((-1:Int),(0:Int)))=(-1,0):=by decide
   rw[e];rfl
theorem Cdg{p:List UInt8}{N a k:Nat}{v:UInt32}{n:Int}(h:rcS p N a k=(v,n,0)):(a:Int)<n∧n≤N:=by
 unfold rcS at h
 split at h
 ·simp at h
 split at h
 ·split at h
  ·simp at h
  ·simp only[Prod.mk.injEq]at h;omega
 ·split at h
  ·split at h
   ·simp at h
   ·split at h
    ·simp at h
    ·simp only[Prod.mk.injEq]at h;omega
  ·simp at h
end Go.Pl
set_option linter.unusedVariables false
set_option linter.unusedSimpArgs false
namespace Go.Pl
open Go Go.Lv
def okD(k l:Nat)(s t:UInt64):Prop:=k≤24∧l≤24∧s.toNat≤68719476735∧t.toNat≤68719476735
theorem Blj(a b:UInt64)(h:a.toNat≤b.toNat):Dj a b=a:=by
 show(if _ then _ else _)=_
 rw[Hl,Hl,if_neg (by omega)]
theorem Axg(a:UInt64):geq a a=true:=by rw[Bb4];simp
theorem Cco{k l:Nat}{s t:UInt64}(h:okD k l s t):Ag1 (k:Int) (l:Int) s t=some 0:=by
 obtain⟨h1,h2,h3,h4⟩:=h
 have e1:Dj (Atx (k:Int) 0) 24=(k:Int):=by rw[Ajd,Bjc];omega
 have e2:Dj (Atx (l:Int) 0) 24=(l:Int):=by rw[Ajd,Bjc];omega
 have e3:Dj s (68719476735:UInt64)=s:=Blj _ _ (by simpa using h3)
 have e4:Dj t (68719476735:UInt64)=t:=Blj _ _ (by simpa using h4)
 have e5:∀a:Int,geq a a=true:=fun a=>by rw[Bc];simp
 rw[Ag1,Adg,Akq,Adm,Aky,Aul,e1,e2,e3,e4,e5,e5,Axg,Axg];rfl
def Abj(s n:UInt64):UInt64:=s+n-s/16
def kS(k:Nat)(s:UInt64):Nat:=if 0<k∧s.toNat<2^(k+4)then k-1 else if k<24∧2^(k+5)<s.toNat then k+1 else k
theorem Cbz{k:Nat}(h:k≤24)(s:UInt64):kS k s≤24:=by
 unfold kS
 by_cases h1:0<k∧s.toNat<2^(k+4)
 ·rw[if_pos h1];omega
 ·rw[if_neg h1];split<;>omega
theorem Bru{k:Nat}{s:UInt64}(h:¬(0<k∧s.toNat<2^(k+4))):(if k<24∧2^(k+5)<s.toNat then((k+1:Nat):Int)else(k:Int))=((kS k s:Nat):Int):=by
 rw[kS,if_neg h];split<;>rfl
theorem Bqb{s n:UInt64}(h:s.toNat≤68719476735)(hn:n.toNat≤4294967295):(Abj s n).toNat≤68719476735:=by
 have h1:=s.toNat_lt
 have e:(s+n).toNat=s.toNat+n.toNat:=by rw[UInt64.toNat_add];omega
 have e2:(s/16).toNat=s.toNat/16:=by rw[UInt64.toNat_div];rfl
 rw[Abj,UInt64.toNat_sub_of_le _ _ (by rw[UInt64.le_iff_toNat_le,e,e2];omega),e,e2];omega
theorem Bdk(s n:UInt64):Ae s (Ah n (Bn s (GI.toZ (4:UInt64)).toNat))=Abj s n:=by
 have e:Bn s (GI.toZ (4:UInt64)).toNat=s/16:=by
  apply UInt64.toNat_inj.1
  rw[Aeu,UInt64.toNat_div];rfl
 rw[e,Aeb,Bco,Abj,UInt64.sub_eq_add_neg,UInt64.sub_eq_add_neg,UInt64.add_assoc]
theorem Brf(s n:UInt64):Ah (Ae s n) (Bf s (16:UInt64))=Abj s n:=by rw[Aeb,Bco,Axn,Abj]
theorem Cew{k:Nat}(h:k≤24):(Cn (16:UInt64) k).toNat=2^(k+4):=by
 have hp:2^k≤2^24:=Nat.pow_le_pow_right (by omega) h
 rw[Aly,Nat.pow_add]
 show 16*2^k %_=2^k*16
 rw[Nat.mod_eq_of_lt (by omega),Nat.mul_comm]
theorem Cdj{k:Nat}(h:k≤24):(Cn (32:UInt64) k).toNat=2^(k+5):=by
 have hp:2^k≤2^24:=Nat.pow_le_pow_right (by omega) h
 rw[Aly,Nat.pow_add]
 show 32*2^k %_=2^k*32
 rw[Nat.mod_eq_of_lt (by omega),Nat.mul_comm]
theorem Cbu{k:Nat}{s:UInt64}(h:0<k)(h2:s.toNat<2^(k+4)):kS k s=k-1:=by rw[kS,if_pos ⟨h,h2⟩]
theorem Cbo{k:Nat}{s:UInt64}(h:¬(0<k∧s.toNat<2^(k+4)))(h2:k<24)(h3:2^(k+5)<s.toNat):kS k s=k+1:=by rw[kS,if_neg h,if_pos ⟨h2,h3⟩]
theorem Bql{k:Nat}{s:UInt64}(h:¬(0<k∧s.toNat<2^(k+4)))(h2:¬(k<24∧2^(k+5)<s.toNat)):kS k s=k:=by rw[kS,if_neg h,if_neg h2]
theorem Cbp{α:Type}(k:Nat)(hk:k≤24)(s:UInt64)(f:Int→Option α):
  (if(Ff (k:Int) (0:Int))=true then(
   Option.bind (Gs (Kl (k:Int) (0:Int))) fun _=>
   if(Bv s (Cn (16:UInt64) (GI.toZ (k:Int)).toNat))=true then f (Ah (k:Int) (1:Int))
   else(if(Bv (k:Int) (24:Int))=true then(
    Option.bind (Gs (Kl (k:Int) (0:Int))) fun _=>
    if(Ff s (Cn (32:UInt64) (GI.toZ (k:Int)).toNat))=true then f (Ae (k:Int) (1:Int))else f (k:Int))
    else f (k:Int)))
  else(if(Bv (k:Int) (24:Int))=true then(
    Option.bind (Gs (Kl (k:Int) (0:Int))) fun _=>
    if(Ff s (Cn (32:UInt64) (GI.toZ (k:Int)).toNat))=true then f (Ae (k:Int) (1:Int))else f (k:Int))
    else f (k:Int)))=f ((kS k s:Nat):Int):=by
 have z:(GI.toZ (k:Int)).toNat=k:=rfl
 rw[z,Bp (by rw[Cz];simp)]
 simp only[Aa]
 rw[Bbz,Akh,Cew hk,Cdj hk]
 by_cases h0:0<k
 ·rw[if_pos (by rw[Ar];simp;omega)]
  by_cases h1:s.toNat<2^(k+4)
  ·rw[if_pos (by simp[h1]),Cbu h0 h1,Bh (by omega) (by omega)];congr 1;omega
  ·rw[if_neg (by simp;omega)]
   by_cases h2:k<24
   ·rw[if_pos (by rw[Af];simp;omega)]
    by_cases h3:2^(k+5)<s.toNat
    ·rw[if_pos (by simp[h3]),Cbo (fun h=>h1 h.2) h2 h3,Ag (by omega) (by omega)];rfl
    ·rw[if_neg (by simp;omega),Bql (fun h=>h1 h.2) (fun h=>h3 h.2)]
   ·rw[if_neg (by rw[Af];simp;omega),Bql (fun h=>h1 h.2) (fun h=>h2 h.1)]
 ·rw[if_neg (by rw[Ar];simp;omega)]
  by_cases h2:k<24
  ·rw[if_pos (by rw[Af];simp;omega)]
   by_cases h3:2^(k+5)<s.toNat
   ·rw[if_pos (by simp[h3]),Cbo (fun h=>h0 h.1) h2 h3,Ag (by omega) (by omega)];rfl
   ·rw[if_neg (by simp;omega),Bql (fun h=>h0 h.1) (fun h=>h3 h.2)]
  ·rw[if_neg (by rw[Af];simp;omega),Bql (fun h=>h0 h.1) (fun h=>h2 h.1)]
theorem Bqk(k:Nat)(hk:k≤24)(s n:UInt64):Qu (k:Int) s n=some (((kS k (Abj s n):Nat):Int),Abj s n):=by
 have g1:Ae (k:Int) 4=((k+4:Nat):Int):=by rw[Ag (by omega) (by omega)];omega
 have g2:Ae (k:Int) 5=((k+5:Nat):Int):=by rw[Ag (by omega) (by omega)];omega
 have hp:Ru (k:Int) s n=some (if k<24∧2^(k+5)<(Abj s n).toNat then((k+1:Nat):Int)else(k:Int),Abj s n):=by
  rw[Ru,Aei,g2,Aek _ (by omega),Aa,Brf,Akh,Akm (by omega)]
  by_cases h2:k<24
  ·rw[if_pos (by rw[Af];simp;omega)]
   by_cases h3:2^(k+5)<(Abj s n).toNat
   ·rw[if_pos (by simp[h3]),if_pos ⟨h2,h3⟩,Ag (by omega) (by omega)];rfl
   ·rw[if_neg (by simp;omega),if_neg (fun h=>h3 h.2)]
  ·rw[if_neg (by rw[Af];simp;omega),if_neg (fun h=>h2 h.1)]
 rw[Qu,Aec,g1,Aek _ (by omega),Aa,Brf,Bbz,Akm (by omega),hp]
 by_cases h0:0<k
 ·rw[if_pos (by rw[Ar];simp;omega)]
  by_cases h1:(Abj s n).toNat<2^(k+4)
  ·rw[if_pos (by simp[h1]),Cbu h0 h1,Bh (by omega) (by omega)];congr 2;omega
  ·rw[if_neg (by simp;omega),Bru (fun h=>h1 h.2)]
 ·rw[if_neg (by rw[Ar];simp;omega),Bru (fun h=>h0 h.1)]
def n64(v:UInt32):UInt64:=UInt64.ofNat v.toNat
theorem Bxe(v:UInt32):(n64 v).toNat≤4294967295:=by have:=v.toNat_lt;rw[n64,UInt64.toNat_ofNat',Nat.mod_eq_of_lt (by omega)];omega
def Ba5(k:Nat)(v:UInt32):UInt32:=UInt32.ofNat (v.toNat-2^k)
def lK(l:Nat)(t:UInt64)(k:Nat)(v:UInt32):Nat:=if v.toNat<2^k then l else kS l (Abj t (n64 (Ba5 k v)))
def lT(t:UInt64)(k:Nat)(v:UInt32):UInt64:=if v.toNat<2^k then t else Abj t (n64 (Ba5 k v))
theorem Bxk{k l:Nat}{s t:UInt64}(h:okD k l s t)(v:UInt32):okD (kS k (Abj s (n64 v))) (lK l t k v) (Abj s (n64 v)) (lT t k v):=by
 obtain⟨h1,h2,h3,h4⟩:=h
 refine⟨Cbz h1 _,?_,Bqb h3 (Bxe v),?_⟩
 ·unfold lK;split; · exact h2
  exact Cbz h2 _
 ·unfold lT;split; · exact h4
  exact Bqb h4 (Bxe _)
theorem Ccd(k l:Nat)(s t:UInt64)(hk:k≤24)(v:UInt32):Acm (k:Int) (l:Int) s t v=some (decide (v.toNat<2^k)):=by
 have:=v.toNat_lt
 rw[Acm,Aek k (by omega),Aa,Bbz,Akm (by omega),Hh,UInt64.toNat_ofNat',Nat.mod_eq_of_lt (by omega)]
theorem left_eq(k l:Nat)(s t:UInt64)(hk:k≤24)(v:UInt32)(h:¬v.toNat<2^k):Yx (k:Int) (l:Int) s t v=some (Ba5 k v):=by
 have:=v.toNat_lt
 have e2:∀x:UInt64,(Ad x:UInt32)=UInt32.ofNat x.toNat:=fun x=>by simp only[Ad,Hl,Dy]
 have e3:(UInt64.ofNat v.toNat).toNat=v.toNat:=by rw[UInt64.toNat_ofNat',Nat.mod_eq_of_lt (by omega)]
 rw[Yx,Aek k (by omega),Aa,e2,Bco,Hh,UInt64.toNat_sub_of_le _ _ (by rw[UInt64.le_iff_toNat_le,Akm (by omega),e3];omega),Akm (by omega),e3,Ba5]
theorem Btz{k l:Nat}{s t:UInt64}(h:okD k l s t)(v:UInt32):Ut (k:Int) (l:Int) s t v=some (((kS k (Abj s (n64 v)):Nat):Int),((lK l t k v:Nat):Int),Abj s (n64 v),lT t k v):=by
 obtain⟨h1,h2,h3,h4⟩:=h
 have hp:∀(r1:Int) (r2:UInt64),Pc v (k:Int) (l:Int) s t r1 r2=some (((kS k (Abj s (n64 v)):Nat):Int),r1,Abj s (n64 v),r2):=by
  intro r1 r2
  rw[Pc,Aao,Hh,Bqk k h1,Aa];rfl
 rw[Ut,Aal,Ccd k l s t h1,Aa]
 by_cases hv:v.toNat<2^k
 ·rw[if_neg (by simp[hv]),hp,lK,if_pos hv,lT,if_pos hv]
 ·rw[if_pos (by simp;omega),left_eq k l s t h1 v hv,Aa,Hh,Bqk l h2,Aa]
  simp only
  rw[hp,lK,if_neg hv,lT,if_neg hv];rfl
theorem Buh(k l:Nat)(s t:UInt64)(hk:k≤24)(v:UInt32):Ac9 (k:Int) (l:Int) s t v=some (if v.toNat<2^k then(0,v)else(1,Ba5 k v)):=by
 have hp:2^k≤2^24:=Nat.pow_le_pow_right (by omega) hk
 have hpos:0<2^k:=Nat.pow_pos (by omega)
 have hl:=v.toNat_lt
 have z:(GI.toZ (k:Int)).toNat=k:=rfl
 have e1:geq (Bn v k) (0:UInt32)=decide (v.toNat<2^k):=by
  rw[Bid,Bool.eq_iff_iff]
  simp only[beq_iff_eq,←UInt32.toNat_inj,Alx,decide_eq_true_eq]
  show _/_=0↔_
  rw[Nat.div_eq_zero_iff];omega
 have e2:¬v.toNat<2^k→Ah v (Cn (1:UInt32) k)=Ba5 k v:=by
  intro h
  have e3:(Cn (1:UInt32) k).toNat=2^k:=by rw[Bch];show 1*2^k %_=_;rw[Nat.mod_eq_of_lt (by omega),Nat.one_mul]
  apply UInt32.toNat_inj.1
  rw[Bnq,UInt32.toNat_sub_of_le _ _ (by rw[UInt32.le_iff_toNat_le,e3];omega),e3,Ba5,Am4 (by omega)]
 rw[Ac9,Bp (by rw[Cz];simp),Aa,Aa,z,e1]
 by_cases h:v.toNat<2^k
 ·rw[if_pos (by simp[h]),if_pos h]
 ·rw[if_neg (by simp;omega),if_neg h,e2 h]
abbrev Rd:=UInt32×Int×Int×Int×UInt64×UInt64×Int
theorem Bdp{k l:Nat}{s t:UInt64}(h:okD k l s t)(v:UInt32)(r:Int):Agk (k:Int) (l:Int) s t v r=some (v,r,((kS k (Abj s (n64 v)):Nat):Int),((lK l t k v:Nat):Int),Abj s (n64 v),lT t k v,0):=by
 obtain⟨h1,h2,h3,h4⟩:=h
 have hp:∀(x:Int) (y:UInt64),Yt v r (k:Int) s x y=some (v,r,((kS k (Abj s (n64 v)):Nat):Int),x,Abj s (n64 v),y,0):=by
  intro x y
  rw[Yt,Aog,Hh,Bdk,Cbp k h1]
  rw[Am3,Aor,Ak3,At8,Hh,Bdk];rfl
 rw[Agk,Anw,Buh k l s t h1,Aa]
 by_cases hv:v.toNat<2^k
 ·rw[if_pos hv]
  simp only
  rw[if_neg (by rw[Bc];simp),hp,lK,if_pos hv,lT,if_pos hv]
 ·rw[if_neg hv]
  simp only
  rw[if_pos (by rw[Bc];rfl),Hh,Bdk,Cbp l h2 _ (fun x=>Yt v r (k:Int) s x (Abj t (UInt64.ofNat (Ba5 k v).toNat))),hp,lK,if_neg hv,lT,if_neg hv];rfl
def dgS(p:List UInt8)(N a k l:Nat):UInt32×Int×Int:=
 if N≤a then(0,0,24)else
 if Jf p a=0 then(if N<a+1+k then(0,0,24)else(UInt32.ofNat (Bu p (a+1) k),((a+1+k:Nat):Int),0))else
 if(rcS p N (a+1) l).2.2≠0 then(0,0,(rcS p N (a+1) l).2.2)else
 if 4294967295<(rcS p N (a+1) l).1.toNat+2^k then(0,0,12)else(UInt32.ofNat ((rcS p N (a+1) l).1.toNat+2^k),(rcS p N (a+1) l).2.1,0)
theorem Cck{p:List UInt8}{N a k l:Nat}(h:(dgS p N a k l).2.2=0):(a:Int)<(dgS p N a k l).2.1∧(dgS p N a k l).2.1≤N:=by
 revert h
 unfold dgS
 split
 ·simp
 split
 ·split
  ·simp
  ·simp only;omega
 ·split
  ·intro h;contradiction
  ·rename_i h1
   split
   ·simp
   ·intro _
    have:=Cdg (p:=p) (N:=N) (a:=a+1) (k:=l) (v:=(rcS p N (a+1) l).1) (n:=(rcS p N (a+1) l).2.1) (by
     have e:(rcS p N (a+1) l).2.2=0:=by simpa using h1
     rw[←e])
    simp only;omega
theorem Byj{p:List UInt8}{N:Nat}(h:okB p N)(a:Nat){k l:Nat}{s t:UInt64}(hd:okD k l s t):Acy p (N:Int) (a:Int) (k:Int) (l:Int) s t=
  some (if(dgS p N a k l).2.2≠0 then(0,0,0,0,0,0,(dgS p N a k l).2.2)else((dgS p N a k l).1,(dgS p N a k l).2.1,((kS k (Abj s (n64 (dgS p N a k l).1)):Nat):Int),((lK l t k (dgS p N a k l).1:Nat):Int),Abj s (n64 (dgS p N a k l).1),lT t k (dgS p N a k l).1,0)):=by
 obtain⟨h1,h2,h3,h4⟩:=hd
 have hd:okD k l s t:=⟨h1,h2,h3,h4⟩
 have hN:=h.1
 have hg:=Ayg h a 1 (by omega)
 have hb:=Vn p a
 rw[Acy,Am7,Agu h,Aa,if_neg (by rw[Aj];simp),Cco hd,Aa,if_neg (by rw[Aj];simp),Am2,Anh]
 refine Eq.trans (congrArg (fun o=>Option.bind o _) hg) ?_
 rw[Aa]
 by_cases ha:N≤a
 ·have hS:dgS p N a k l=(0,0,24):=by rw[dgS,if_pos ha]
  rw[if_pos (by omega),hS];rfl
 rw[if_neg (by omega)]
 simp only
 have e0:geq (Tf p a 1) (0:UInt64)=decide (Jf p a=0):=by
  rw[Bb4,Bool.eq_iff_iff]
  simp only[beq_iff_eq,←UInt64.toNat_inj,decide_eq_true_eq,Zg p a 1 (by omega),Bk0];rfl
 have e1:Ae (a:Int) 1=((a+1:Nat):Int):=by rw[Ag (by omega) (by omega)];omega
 rw[if_neg (by rw[Aj];simp),e0,e1]
 by_cases hz:Jf p a=0
 ·rw[if_pos (by simp[hz]),Ayg h (a+1) k (by omega),Aa]
  by_cases h5:N<a+1+k
  ·have hS:dgS p N a k l=(0,0,24):=by rw[dgS,if_neg ha,if_pos hz,if_pos h5]
   rw[if_pos h5,hS];rfl
  ·have hS:dgS p N a k l=(UInt32.ofNat (Bu p (a+1) k),((a+1+k:Nat):Int),0):=by rw[dgS,if_neg ha,if_pos hz,if_neg h5]
   rw[if_neg h5,hS]
   simp only
   rw[if_neg (by rw[Aj];simp),Bdp hd,Aws (by omega),Ag (by omega) (by omega)];rfl
 ·rw[if_neg (by simp[hz]),Cbk h (a+1) l h2,Aa]
  have hp:2^k≤2^24:=Nat.pow_le_pow_right (by omega) h1
  by_cases h5:(rcS p N (a+1) l).2.2≠0
  ·have hS:dgS p N a k l=(0,0,(rcS p N (a+1) l).2.2):=by rw[dgS,if_neg ha,if_neg hz,if_pos h5]
   rw[hS]
   generalize rcS p N (a+1) l=R at*
   obtain⟨v,n,e⟩:=R
   simp only at*
   rw[if_pos (by rw[Aj];simpa using h5),if_pos h5]
  ·have hv:=(rcS p N (a+1) l).1.toNat_lt
   have z:(GI.toZ (k:Int)).toNat=k:=rfl
   have e3:(Cn (1:UInt32) k).toNat=2^k:=by rw[Bch];show 1*2^k %_=_;rw[Nat.mod_eq_of_lt (by omega),Nat.one_mul]
   by_cases h6:4294967295<(rcS p N (a+1) l).1.toNat+2^k
   ·have hS:dgS p N a k l=(0,0,12):=by rw[dgS,if_neg ha,if_neg hz,if_neg h5,if_pos h6]
    rw[hS]
    generalize rcS p N (a+1) l=R at*
    obtain⟨v,n,e⟩:=R
    simp only at*
    rw[if_neg (by rw[Aj];simpa using h5),Bp (by rw[Cz];simp),Aa,z,if_pos (by rw[Bro,Bfp,UInt32.toNat_add,e3];simp;omega),if_pos (by decide)]
   ·have hS:dgS p N a k l=(UInt32.ofNat ((rcS p N (a+1) l).1.toNat+2^k),(rcS p N (a+1) l).2.1,0):=by rw[dgS,if_neg ha,if_neg hz,if_neg h5,if_neg h6]
    rw[hS]
    generalize rcS p N (a+1) l=R at*
    obtain⟨v,n,e⟩:=R
    simp only at*
    have e4:Ae v (Cn (1:UInt32) k)=UInt32.ofNat (v.toNat+2^k):=by
     apply UInt32.toNat_inj.1
     rw[Bfp,UInt32.toNat_add,e3,Am4 (by omega),Nat.mod_eq_of_lt (by omega)]
    rw[if_neg (by rw[Aj];simpa using h5),Bp (by rw[Cz];simp),Aa,z,if_neg (by rw[Bro,Bfp,UInt32.toNat_add,e3];simp;omega),e4,Bdp hd];rfl
theorem Bwb{p:List UInt8}{N:Nat}(h:okB p N)(a:Nat)(k l:Nat)(s t:UInt64)(h1:k≤24)(h2:l≤24):Acd p (N:Int) (a:Int) (k:Int) (l:Int) s t=some (dgS p N a k l):=by
 have hN:=h.1
 have hl:=h.2.1
 have hb:=Vn p a
 rw[Acd]
 by_cases ha:N≤a
 ·rw[if_pos (by rw[Cz];simp;omega),dgS,if_pos ha]
 rw[if_neg (by rw[Cz];simp;omega),Ay3 p _ a (by omega) (by omega),Aa,Bh (a:=(N:Int)) (b:=(a:Int)) (by omega) (by omega),Bh (by omega) (by omega)]
 have e1:Ae (a:Int) 1=((a+1:Nat):Int):=by rw[Ag (by omega) (by omega)];omega
 rw[e1]
 by_cases hz:Jf p a=0
 ·rw[if_pos (by rw[Bc];simp[hz])]
  by_cases h5:N<a+1+k
  ·rw[if_pos (by rw[Af];simp;omega),dgS,if_neg ha,if_pos hz,if_pos h5]
  ·rw[if_neg (by rw[Af];simp;omega),Avu p _ (a+1) k (by omega) (by omega),Aa,dgS,if_neg ha,if_pos hz,if_neg h5,Aws (by omega),Ag (by omega) (by omega)];rfl
 ·rw[if_neg (by rw[Bc];simp;omega),Bvg h (a+1) l h2,Aa]
  have hp:2^k≤2^24:=Nat.pow_le_pow_right (by omega) h1
  have hv:=(rcS p N (a+1) l).1.toNat_lt
  have e2:∀x:UInt64,(Ad x:UInt32)=UInt32.ofNat x.toNat:=fun x=>by simp only[Ad,Hl,Dy]
  by_cases h5:(rcS p N (a+1) l).2.2≠0
  ·have hS:dgS p N a k l=(0,0,(rcS p N (a+1) l).2.2):=by rw[dgS,if_neg ha,if_neg hz,if_pos h5]
   rw[hS]
   generalize rcS p N (a+1) l=R at*
   obtain⟨v,n,e⟩:=R
   simp only at*
   rw[if_pos (by rw[Aj];simpa using h5)]
  ·have hsum:∀v:UInt32,(Ae (Ad v:UInt64) (UInt64.ofNat (2^k))).toNat=v.toNat+2^k:=by
    intro v
    have:=v.toNat_lt
    have:=Nat.pow_pos (n:=k) (show 0<2 by omega)
    rw[Aeb,UInt64.toNat_add,Hh,Akm (by omega),UInt64.toNat_ofNat'];omega
   by_cases h6:4294967295<(rcS p N (a+1) l).1.toNat+2^k
   ·have hS:dgS p N a k l=(0,0,12):=by rw[dgS,if_neg ha,if_neg hz,if_neg h5,if_pos h6]
    rw[hS]
    generalize rcS p N (a+1) l=R at*
    obtain⟨v,n,e⟩:=R
    simp only at*
    rw[if_neg (by rw[Aj];simpa using h5),Aek k (by omega),Aa,if_pos (by rw[Akh,hsum];simpa using h6)]
   ·have hS:dgS p N a k l=(UInt32.ofNat ((rcS p N (a+1) l).1.toNat+2^k),(rcS p N (a+1) l).2.1,0):=by rw[dgS,if_neg ha,if_neg hz,if_neg h5,if_neg h6]
    rw[hS]
    generalize rcS p N (a+1) l=R at*
    obtain⟨v,n,e⟩:=R
    simp only at*
    rw[if_neg (by rw[Aj];simpa using h5),Aek k (by omega),Aa,if_neg (by rw[Akh,hsum];simpa using h6),e2,hsum]
end Go.Pl
set_option linter.unusedVariables false
set_option linter.unusedSimpArgs false
namespace Go.Pl
open Go Go.Lv
abbrev DuN:=Nat×Nat×UInt64×UInt64
def okN(d:DuN):Prop:=okD d.1 d.2.1 d.2.2.1 d.2.2.2
def nxt(d:DuN)(v:UInt32):DuN:=(kS d.1 (Abj d.2.2.1 (n64 v)),lK d.2.1 d.2.2.2 d.1 v,Abj d.2.2.1 (n64 v),lT d.2.2.2 d.1 v)
def Bj7:DuN:=(10,10,16384,16384)
theorem Bwo:okN Bj7:=⟨by decide,by decide,by decide,by decide⟩
theorem Cch{d:DuN}(h:okN d)(v:UInt32):okN (nxt d v):=Bxk h v
abbrev DuL:=Int×Int×UInt64×UInt64×Unit
def toI(d:DuN):DuL:=((d.1:Int),(d.2.1:Int),d.2.2.1,d.2.2.2,())
def chP(ch:Nat)(v:List UInt32)(c:Nat):Nat→DuN
 |0=>Bj7
 |m+1=>if m %ch=c then nxt (chP ch v c m) (v.getD m 0)else chP ch v c m
theorem Azo(ch:Nat)(v:List UInt32)(c:Nat):∀m,okN (chP ch v c m)
 |0=>Bwo
 |m+1=>by rw[chP];split;exact Cch (Azo ch v c m) _;exact Azo ch v c m
theorem Bp5(ch:Nat)(v w:List UInt32)(c:Nat):∀m,m≤v.length→chP ch (v++w) c m=chP ch v c m
 |0,_=>rfl
 |m+1,h=>by
  have e:(v++w).getD m 0=v.getD m 0:=by simp[List.getD_eq_getElem?_getD,List.getElem?_append_left (show m<v.length by omega)]
  rw[chP,chP,Bp5 ch v w c m (by omega),e]
theorem Bka(ch:Nat)(v:List UInt32)(c:Nat):∀m,m≤c→c<ch→chP ch v c m=Bj7
 |0,_,_=>rfl
 |m+1,h,h2=>by rw[chP,if_neg (by rw[Nat.mod_eq_of_lt (by omega)];omega),Bka ch v c m (by omega) h2]
theorem Bmt(ch:Nat)(v:List UInt32)(c i:Nat)(hi:i %ch=c)(hc:c<ch):∀j,j<ch→chP ch v c (i+1+j)=chP ch v c (i+1)
 |0,_=>rfl
 |j+1,h=>by
  have hne:(i+1+j) %ch≠c:=by
   intro e
   have h1:(i+(1+j)) %ch=i %ch:=by rw[hi,←e];congr 1;omega
   have h2:(1+j) %ch=0:=by
    have h3:=Nat.sub_mod_eq_zero_of_mod_eq h1
    rwa [Nat.add_sub_cancel_left]at h3
   rw[Nat.mod_eq_of_lt (by omega)]at h2;omega
  rw[show i+1+(j+1)=(i+1+j)+1 by omega,chP,if_neg hne,Bmt ch v c i hi hc j (by omega)]
theorem Bv1(ch:Nat)(v:List UInt32)(c i:Nat)(hi:i %ch=c)(hc:c<ch):chP ch v c (i+ch)=nxt (chP ch v c i) (v.getD i 0):=by
 have h:=Bmt ch v c i hi hc (ch-1) (by omega)
 rw[show i+1+(ch-1)=i+ch by omega]at h
 rw[h,chP,if_pos hi]
theorem Bf8{l:List UInt32}{k:Nat}(h:k<l.length):getI l (k:Int)=some (l.getD k 0):=by
 rw[Cf h];simp[List.getD_eq_getElem?_getD,h]
theorem Aqu(a b:Nat):Ey (a:Int) (b:Int)=((a %b:Nat):Int):=by rw[Ey,Int.tmod_eq_emod_of_nonneg (by omega)];omega
theorem Bac(ch:Nat)(v:List UInt32)(hch:1≤ch)(hch6:ch≤6)(hv:v.length≤4000):∀(j i q:Nat),i %ch=v.length %ch→i≤v.length→v.length-i≤j→j<q→
  Jz (ch:Int) v q (i:Int) ((chP ch v (v.length %ch) i).1:Int) ((chP ch v (v.length %ch) i).2.1:Int) (chP ch v (v.length %ch) i).2.2.1 (chP ch v (v.length %ch) i).2.2.2=
   some (((chP ch v (v.length %ch) v.length).1:Int),((chP ch v (v.length %ch) v.length).2.1:Int),(chP ch v (v.length %ch) v.length).2.2.1,(chP ch v (v.length %ch) v.length).2.2.2)
 |j,i,q+1,hi,hl,hj,hq=>by
  have hc:v.length %ch<ch:=Nat.mod_lt _ (by omega)
  rw[Jz,Yw]
  by_cases h:i<v.length
  ·have h1:=Btz (Azo ch v (v.length %ch) i) (v.getD i 0)
   rw[if_pos (by rw[Af,Ac];simp;omega),Bf8 h,Aa,h1,Aa]
   have hle:i+ch≤v.length:=by
    have h2:=Nat.div_add_mod i ch
    have h3:=Nat.div_add_mod v.length ch
    rw[hi]at h2
    have h4:ch*(i/ch)<ch*(v.length/ch):=by omega
    have h5:=Nat.lt_of_mul_lt_mul_left h4
    have h6:ch*(i/ch+1)≤ch*(v.length/ch):=Nat.mul_le_mul_left _ h5
    rw[Nat.mul_add]at h6;omega
   have ih:=Bac ch v hch hch6 hv (j-ch) (i+ch) q (by rw[Nat.add_mod_right];exact hi) hle (by omega) (by omega)
   rw[Bv1 ch v _ i hi hc]at ih
   simp only
   rw[Ag (by omega) (by omega)]
   exact ih
  ·rw[if_neg (by rw[Af,Ac];simp;omega),show i=v.length by omega];rfl
theorem Btb(ch:Nat)(v:List UInt32)(hch:1≤ch)(hch6:ch≤6)(hv:v.length≤4000):Na (ch:Int) v=some (((chP ch v (v.length %ch) v.length).1:Int),((chP ch v (v.length %ch) v.length).2.1:Int),(chP ch v (v.length %ch) v.length).2.2.1,(chP ch v (v.length %ch) v.length).2.2.2):=by
 have hc:v.length %ch<ch:=Nat.mod_lt _ (by omega)
 have hle:v.length %ch≤v.length:=Nat.mod_le _ _
 have h:=Bac ch v hch hch6 hv v.length (v.length %ch) Am (by rw[Nat.mod_mod]) hle (by omega) (by have:=Ak;omega)
 rw[Bka ch v _ _ (Nat.le_refl _) hc]at h
 rw[Na,Aa4,Ku,Aa]
 simp only
 rw[Bp (by rw[Aj];simp;omega),Aa,Ac,Aqu]
 exact h
def now(ch:Nat)(v:List UInt32):DuN:=chP ch v (v.length %ch) v.length
def win(N a:Nat):Nat:=min 81 (N-a)
def Kf(ch:Nat)(p:List UInt8)(N a:Nat)(out:List UInt32):UInt32×Int×Int:=dgS (Acv p a (win N a)) (win N a) 0 (now ch out).1 (now ch out).2.1
def Yl(ch:Nat)(p:List UInt8)(N:Nat):Nat→Nat→List UInt32→List UInt32×Nat×Int
 |0,a,out=>(out,a,0)
 |j+1,a,out=>if(Kf ch p N a out).2.2≠0 then(out,a,(Kf ch p N a out).2.2)else Yl ch p N j (a+(Kf ch p N a out).2.1.toNat) (out++[(Kf ch p N a out).1])
theorem Atl{ch:Nat}{p:List UInt8}{N a:Nat}{out:List UInt32}(h:(Kf ch p N a out).2.2=0):0<(Kf ch p N a out).2.1∧(Kf ch p N a out).2.1≤win N a:=by
 have:=Cck h
 exact⟨this.1,this.2⟩
theorem Bg1{ch:Nat}{p:List UInt8}{N a:Nat}{out:List UInt32}(h:(Kf ch p N a out).2.2=0):((a:Int)+(Kf ch p N a out).2.1)=((a+(Kf ch p N a out).2.1.toNat:Nat):Int):=by
 have:=Atl h;omega
def sts(ch:Nat)(v:List UInt32):List DuL:=(List.range 6).map fun c=>toI (chP ch v c v.length)
theorem Bq8{ch:Nat}{v:List UInt32}{c:Nat}(h:c<6):getI (sts ch v) (c:Int)=some (toI (chP ch v c v.length)):=by
 rw[Cf (by simp[sts];exact h)];simp[sts]
theorem Bz5{ch:Nat}{v:List UInt32}{c:Nat}(x:UInt32)(h:c<6)(hc:c=v.length %ch):Jl (sts ch v) (c:Int) (toI (nxt (chP ch v c v.length) x))=some (sts ch (v++[x])):=by
 rw[Uo _ (by simp[sts];exact h)]
 congr 1
 apply List.ext_getElem (by simp[sts])
 intro i h1 h2
 rw[List.getElem_set]
 simp only[sts,List.getElem_map,List.getElem_range]
 have e:(v++[x]).getD v.length 0=x:=by simp
 rw[List.length_append,List.length_singleton,chP,e,Bp5 ch v [x] i v.length (Nat.le_refl _)]
 by_cases hi:c=i
 ·subst hi;rw[if_pos rfl,if_pos hc.symm]
 ·rw[if_neg hi,if_neg (by omega)]
section
variable {p:List UInt8} {N ch n:Nat}
theorem Bk4(hp:okB p N)(h1:1≤ch)(h6:ch≤6)(hn:n*ch≤4000):∀(j a q:Nat) (out:List UInt32),out.length+j=n*ch→j<q→a≤N→
  Kv (ch:Int) (n:Int) p (N:Int) q (a:Int) (out.length:Int) (sts ch out) out=
   some (if(Yl ch p N j a out).2.2≠0 then([],0,(Yl ch p N j a out).2.2)else((Yl ch p N j a out).1,((Yl ch p N j a out).2.1:Int),0))
 |j,a,q+1,out,hj,hq,ha=>by
  have hN:=hp.1
  have hnn:n≤n*ch:=Nat.le_mul_of_pos_right n (by omega)
  have em:Ay (n:Int) (ch:Int)=((n*ch:Nat):Int):=by rw[Fc (by rw[←Int.natCast_mul];omega) (by rw[←Int.natCast_mul];omega),Int.natCast_mul]
  rw[Kv,Pd,em]
  cases j with
  |zero=>
   rw[if_neg (by rw[Af];simp;omega)];rfl
  |succ j=>
   have hc:out.length %ch<6:=Nat.lt_of_lt_of_le (Nat.mod_lt _ (by omega)) h6
   have ew:Dj (Ae (a:Int) 81) (N:Int)=((a+win N a:Nat):Int):=by rw[Ajd,Ag (by omega) (by omega)];unfold win;omega
   have hw:a+win N a≤N:=by unfold win;omega
   have hw2:win N a≤81:=by unfold win;omega
   have hd:=Byj (Bp0 p a (win N a) (by omega)) 0 (Azo ch out (out.length %ch) out.length)
   have ecode:dgS (Acv p a (win N a)) (win N a) 0 (chP ch out (out.length %ch) out.length).1 (chP ch out (out.length %ch) out.length).2.1=Kf ch p N a out:=rfl
   rw[if_pos (by rw[Af];simp;omega),ew,Cdh hp a _ hw (by omega),Aa]
   simp only
   rw[if_neg (by rw[Aj];simp),Bp (by rw[Aj];simp;omega),Aa,Aqu,Bq8 hc,Aa,Aa]
   refine Eq.trans (congrArg (fun o=>Option.bind o _) hd) ?_
   rw[Aa,ecode,Yl]
   by_cases he:(Kf ch p N a out).2.2≠0
   ·rw[if_pos he,if_pos he]
    simp only
    rw[Ou,Ox,if_pos (by rw[Aj];simpa using he),if_pos he]
   ·have he0:(Kf ch p N a out).2.2=0:=by simpa using he
    have hok:=Atl he0
    have hset:=Bz5 (ch:=ch) (v:=out) (Kf ch p N a out).1 hc rfl
    rw[if_neg he,if_neg he]
    simp only
    rw[Ou,Ox,if_neg (by rw[Aj];simp),Bp (by rw[Aj];simp;omega),Aa,Aqu,Bq8 hc,Aa]
    refine Eq.trans (congrArg (fun o=>Option.bind o _) hset) ?_
    rw[Aa,Ws,Aia,Cq (by simp;omega),Aa,Ag (by omega) (by omega),Ag (by omega) (by omega),Bg1 he0]
    have ih:=Bk4 hp h1 h6 hn j (a+(Kf ch p N a out).2.1.toNat) q (out++[(Kf ch p N a out).1]) (by simp;omega) (by omega) (by omega)
    rw[List.length_append,List.length_singleton]at ih
    exact ih
theorem Brd{p:List UInt8}(hN:N=8*p.length)(hN2:N≤330000)(h1:1≤ch)(h6:ch≤6)(hn:n*ch≤4000):∀(j a q:Nat) (out:List UInt32),out.length+j=n*ch→j<q→a≤N→
  Dz (ch:Int) (n:Int) p q (a:Int) (out.length:Int) out=
   if(Yl ch p N j a out).2.2≠0 then some ((Yl ch p N j a out).1,(Yl ch p N j a out).2.2)else Qg ((Yl ch p N j a out).2.1:Int) p (Yl ch p N j a out).1
 |j,a,q+1,out,hj,hq,ha=>by
  have hnn:n≤n*ch:=Nat.le_mul_of_pos_right n (by omega)
  have em:Ay (n:Int) (ch:Int)=((n*ch:Nat):Int):=by rw[Fc (by rw[←Int.natCast_mul];omega) (by rw[←Int.natCast_mul];omega),Int.natCast_mul]
  have e8:Ay (8:Int) (Ac p)=(N:Int):=by rw[Ac,Fc (by omega) (by omega)];omega
  rw[Dz,Ab9,em]
  cases j with
  |zero=>
   rw[if_neg (by rw[Af];simp;omega)];rfl
  |succ j=>
   have ew:Dj (Ae (a:Int) 81) (N:Int)=((a+win N a:Nat):Int):=by rw[Ajd,Ag (by omega) (by omega)];unfold win;omega
   have hw:a+win N a≤N:=by unfold win;omega
   have hw2:win N a≤81:=by unfold win;omega
   have hpre:(Option.bind Ku fun(r_4,r_5,r_6,r_7)=>
     if(Kl (out.length:Int) (ch:Int))=true then(
     Option.bind (Na (ch:Int) out) fun(r_8,r_9,r_10,r_11)=>
     Hu (Dz (ch:Int) (n:Int) p q) (ch:Int) (n:Int) p (a:Int) (out.length:Int) out r_8 r_9 r_10 r_11)
     else Hu (Dz (ch:Int) (n:Int) p q) (ch:Int) (n:Int) p (a:Int) (out.length:Int) out r_4 r_5 r_6 r_7)=
     Hu (Dz (ch:Int) (n:Int) p q) (ch:Int) (n:Int) p (a:Int) (out.length:Int) out ((now ch out).1:Int) ((now ch out).2.1:Int) (now ch out).2.2.1 (now ch out).2.2.2:=by
    rw[Ku,Aa]
    by_cases hc:ch≤out.length
    ·simp only
     rw[if_pos (by rw[Cz];simp;omega),Btb ch out h1 h6 (by omega),Aa];rfl
    ·have e:now ch out=Bj7:=by rw[now,Nat.mod_eq_of_lt (by omega),Bka ch out _ _ (Nat.le_refl _) (by omega)]
     simp only
     rw[if_neg (by rw[Cz];simp;omega),e];rfl
   have hd:=Bwb (Bp0 p a (win N a) (by omega)) 0 (now ch out).1 (now ch out).2.1 (now ch out).2.2.1 (now ch out).2.2.2 (Azo ch out _ _).1 (Azo ch out _ _).2.1
   have ecode:dgS (Acv p a (win N a)) (win N a) 0 (now ch out).1 (now ch out).2.1=Kf ch p N a out:=rfl
   rw[if_pos (by rw[Af];simp;omega),hpre,Hu,Abo,e8,ew,Bk5 p (N:Int) a _ (by omega) (by omega) (by omega),Aa]
   simp only
   refine Eq.trans (congrArg (fun o=>Option.bind o _) hd) ?_
   rw[Aa,ecode,Yl]
   by_cases he:(Kf ch p N a out).2.2≠0
   ·rw[if_pos he,if_pos (by rw[Aj];simpa using he),if_pos he]
   ·have he0:(Kf ch p N a out).2.2=0:=by simpa using he
    have hok:=Atl he0
    have ih:=Brd hN hN2 h1 h6 hn j (a+(Kf ch p N a out).2.1.toNat) q (out++[(Kf ch p N a out).1]) (by simp;omega) (by omega) (by omega)
    have hx:=Bg1 he0
    rw[List.length_append,List.length_singleton]at ih
    rw[if_neg he]
    generalize Kf ch p N a out=R at*
    obtain⟨v,nx,e⟩:=R
    simp only at*
    rw[if_neg (by rw[Aj];simpa using he),Cq (by simp;omega),Aa,Ag (by omega) (by omega),Ag (by omega) (by omega),hx]
    exact ih
end
theorem Bja{ch:Nat}{p:List UInt8}{N:Nat}:∀(j a:Nat) (out:List UInt32),a≤N→(Yl ch p N j a out).2.1≤N∧(Yl ch p N j a out).1.length≤out.length+j∧((Yl ch p N j a out).2.2=0→(Yl ch p N j a out).1.length=out.length+j)
 |0,a,out,h=>⟨h,Nat.le_refl _,fun _=>rfl⟩
 |j+1,a,out,h=>by
  rw[Yl]
  split
  ·rename_i he
   exact⟨h,by simp,fun e=>absurd e he⟩
  ·rename_i he
   have hok:=Atl (ch:=ch) (p:=p) (N:=N) (a:=a) (out:=out) (by simpa using he)
   have hw:a+win N a≤N:=by unfold win;omega
   have ih:=Bja (ch:=ch) (p:=p) (N:=N) j (a+(Kf ch p N a out).2.1.toNat) (out++[(Kf ch p N a out).1]) (by omega)
   rw[List.length_append,List.length_singleton]at ih
   exact⟨ih.1,by omega,fun e=>by have:=ih.2.2 e;omega⟩
theorem Blc(ch n:Int)(b:List UInt8)(N:Int):Pe ch n b N 0 (List.replicate 6 ((0:Int),(0:Int),(0:UInt64),(0:UInt64),()))=Wr ch n b N (List.replicate 6 ((10:Int),(10:Int),(16384:UInt64),(16384:UInt64),())):=by
 have e:Am=(Am-7)+1+1+1+1+1+1+1:=by have:=Ak;omega
 rw[Pe,e]
 rfl
theorem values_eq{p:List UInt8}{N ch n:Nat}(hp:okB p N)(h1:1≤ch)(h6:ch≤6)(hn:n*ch≤4000):Aah (ch:Int) (n:Int) p (N:Int)=
  some (if(Yl ch p N (n*ch) 0 []).2.2≠0 then([],0,(Yl ch p N (n*ch) 0 []).2.2)else((Yl ch p N (n*ch) 0 []).1,((Yl ch p N (n*ch) 0 []).2.1:Int),0)):=by
 have h:=Bk4 hp h1 h6 hn (n*ch) 0 Am [] (by simp) (by have:=Ak;omega) (by omega)
 rw[Aah,Aam,Blc]
 exact h
theorem Bgo(p:List UInt8)(x:List UInt32)(N:Nat)(hN:N=8*p.length)(hN2:N≤330000):∀(j a q:Nat),a+j=N→j<q→Hr p x q (a:Int)=some (x,if Bu p a j=0 then 0 else 12)
 |0,a,q+1,ha,_=>by
  have e8:Ay (8:Int) (Ac p)=(N:Int):=by rw[Ac,Fc (by omega) (by omega)];omega
  rw[Hr,Qd,e8,if_neg (by rw[Af];simp;omega),Bu,if_pos rfl];rfl
 |j+1,a,q+1,ha,hq=>by
  have e8:Ay (8:Int) (Ac p)=(N:Int):=by rw[Ac,Fc (by omega) (by omega)];omega
  have hb:=Vn p a
  rw[Hr,Qd,e8,if_pos (by rw[Af];simp;omega),Ay3 p _ a (by omega) (by omega),Aa,Bu]
  by_cases h:Jf p a=0
  ·rw[if_neg (by rw[Aj];simp[h]),Ag (by omega) (by omega),h]
   have ih:=Bgo p x N hN hN2 j (a+1) q (by omega) (by omega)
   rw[show((a:Int)+1)=((a+1:Nat):Int) by omega,ih]
   congr 2
   by_cases hv:Bu p (a+1) j=0
   ·rw[if_pos hv,if_pos (by omega)]
   ·rw[if_neg hv,if_neg (by omega)]
  ·rw[if_pos (by rw[Aj];simp;omega),if_neg (by omega)]
theorem Ca2{p:List UInt8}{N ch n:Nat}(hN:N=8*p.length)(hN2:N≤330000)(h1:1≤ch)(h6:ch≤6)(hn:n*ch≤4000):Abe (ch:Int) (n:Int) p=
  some (if(Yl ch p N (n*ch) 0 []).2.2≠0 then((Yl ch p N (n*ch) 0 []).1,(Yl ch p N (n*ch) 0 []).2.2)else
   ((Yl ch p N (n*ch) 0 []).1,if 7<N-(Yl ch p N (n*ch) 0 []).2.1∨Bu p (Yl ch p N (n*ch) 0 []).2.1 (N-(Yl ch p N (n*ch) 0 []).2.1)≠0 then 12 else 0)):=by
 have h:=Brd hN hN2 h1 h6 hn (n*ch) 0 Am [] (by simp) (by have:=Ak;omega) (by omega)
 have hat:=(Bja (ch:=ch) (p:=p) (N:=N) (n*ch) 0 [] (by omega)).1
 have e8:Ay (8:Int) (Ac p)=(N:Int):=by rw[Ac,Fc (by omega) (by omega)];omega
 rw[Abe,Ae7]
 refine Eq.trans h ?_
 generalize Yl ch p N (n*ch) 0 []=V at*
 obtain⟨v,a,e⟩:=V
 simp only at*
 by_cases he:e≠0
 ·rw[if_pos he,if_pos he]
 ·rw[if_neg he,if_neg he,Qg,Abp,e8,Bh (by omega) (by omega)]
  by_cases h7:7<N-a
  ·rw[if_pos (by rw[Ar];simp;omega),if_pos (.inl h7)]
  ·rw[if_neg (by rw[Ar];simp;omega),Abt,Bgo p v N hN hN2 (N-a) a Am (by omega) (by have:=Ak;omega)]
   by_cases hv:Bu p a (N-a)=0
   ·rw[if_pos hv,if_neg (by omega)]
   ·rw[if_neg hv,if_pos (.inr hv)]
end Go.Pl
set_option linter.unusedVariables false
set_option linter.unusedSimpArgs false
namespace Go.Pl
open Go Go.Lv
theorem Big(n:Int):(GI.ofZ n:Int32)=Int32.ofInt n:=rfl
theorem Ads(a:Int32):GI.toZ a=a.toInt:=rfl
theorem Alr(a b:Int32):Ae a b=a+b:=by
 rw[Ae,Ads,Ads,Big,Int32.ofInt_add,Int32.ofInt_toInt,Int32.ofInt_toInt]
theorem Be4(a b:Int32):Ah a b=a-b:=by
 rw[Ah,Ads,Ads,Big,Int32.ofInt_sub,Int32.ofInt_toInt,Int32.ofInt_toInt]
theorem Bqz(a b:Int32):geq a b=(a==b):=by
 rw[geq,Ads,Ads,Bool.eq_iff_iff];simp[Int32.toInt_inj]
theorem Byg(a b:Int32):Ba a b=(a !=b):=by
 rw[Ba,Ads,Ads,Bool.eq_iff_iff];simp[Int32.toInt_inj]
def sel(p:Nat→Bool)(a b:List Int32):List Int32:=(List.range a.length).map fun k=>if p k=true then a.getD k 0 else b.getD k 0
section
variable {p q:Nat→Bool} {a b:List Int32}
theorem Ang:(sel p a b).length=a.length:=by simp[sel]
theorem Lg{k:Nat}(h:k<a.length):a.getD k 0=a[k]:=by simp[List.getD_eq_getElem?_getD,h]
theorem Xm{k:Nat}(h:k<(sel p a b).length):(sel p a b)[k]=if p k=true then a.getD k 0 else b.getD k 0:=by simp[sel]
theorem Akc{k:Nat}(h:k<a.length):getI (sel p a b) (k:Int)=some (if p k=true then a.getD k 0 else b.getD k 0):=by
 rw[Cf (by rw[Ang];exact h),Xm]
theorem Ya(h:∀k,k<a.length→p k=q k):sel p a b=sel q a b:=by
 apply List.map_congr_left
 intro k hk
 rw[h k (List.mem_range.1 hk)]
theorem Awt{k:Nat}(h:k<a.length):Jl (sel p a b) (k:Int) (a.getD k 0)=some (sel (fun j=>p j||decide (j=k)) a b):=by
 rw[Uo _ (by rw[Ang];exact h)]
 congr 1
 apply List.ext_getElem (by simp[Ang])
 intro i h1 h2
 rw[List.getElem_set,Xm,Xm]
 by_cases hi:k=i
 ·subst hi;simp
 ·have:¬i=k:=fun e=>hi e.symm
  simp[hi,this]
theorem Awl(h:∀k,k<a.length→p k=true):sel p a b=a:=by
 apply List.ext_getElem (by simp[Ang])
 intro i h1 h2
 rw[Xm,if_pos (h i h2),Lg h2]
theorem Ax5(hl:b.length=a.length)(h:∀k,k<a.length→p k=false):sel p a b=b:=by
 apply List.ext_getElem (by simp[Ang,hl])
 intro i h1 h2
 rw[Xm,h i (by omega)]
 simp[List.getD_eq_getElem?_getD,h2]
end
end Go.Pl
set_option linter.unusedVariables false
set_option linter.unusedSimpArgs false
namespace Go.Pl
open Go Go.Lv
theorem Bd8(a b:Int32):Ay a b=a*b:=by
 rw[Ay,Ads,Ads,Big,Int32.ofInt_mul,Int32.ofInt_toInt,Int32.ofInt_toInt]
theorem Yo(a:Int32): -2147483648≤a.toInt∧a.toInt<2147483648:=⟨a.le_toInt,a.toInt_lt⟩
theorem Ds(a:Int32):(Ad a:Int)=a.toInt:=by
 have:=Yo a
 show wrap64 a.toInt=_
 rw[Br]<;>omega
theorem Agt(n:Int):(Ad n:Int32)=Int32.ofInt n:=rfl
theorem Bsf(x:Int):Int32.ofInt (x %4294967296)=Int32.ofInt x:=by
 apply Int32.toInt_inj.1
 rw[Int32.toInt_ofInt,Int32.toInt_ofInt]
 exact Int.emod_bmod x 4294967296
theorem Bb0(x:Int):Bw x=some (Int32.ofInt x):=by
 have e1:(Ad x:UInt64).toNat=(x %18446744073709551616).toNat:=by
  rw[Bna,UInt64.toNat_ofNat',Nat.mod_eq_of_lt (by omega)]
 have e2:(Ad (Ad x:UInt64):UInt32).toNat=(x %4294967296).toNat:=by
  have e:(Ad (Ad x:UInt64):UInt32)=UInt32.ofNat (Ad x:UInt64).toNat:=by simp only[Ad,Hl,Dy]
  rw[e,UInt32.toNat_ofNat',e1]
  show(x %18446744073709551616).toNat %4294967296=_
  omega
 have e3:(Ad (Ad (Ad x:UInt64):UInt32):Int32)=Int32.ofInt ((Ad (Ad x:UInt64):UInt32).toNat:Int):=rfl
 rw[Bw,e3,e2,←Bsf x]
 congr 2;omega
theorem Axm(a b:Int32):Bw (Ae (Ad a:Int) (Ad b:Int))=some (a+b):=by
 have:=Yo a
 have:=Yo b
 rw[Ds,Ds,Ag (by omega) (by omega),Bb0,Int32.ofInt_add,Int32.ofInt_toInt,Int32.ofInt_toInt]
theorem Bww(a b:Int32):Bw (Ay (Ad a:Int) (Ad b:Int))=some (a*b):=by
 have ha:=Yo a
 have hb:=Yo b
 have h1: -9223372036854775808≤a.toInt*b.toInt∧a.toInt*b.toInt≤9223372036854775807:=by
  have h2:(a.toInt*b.toInt).natAbs≤2147483648*2147483648:=by
   rw[Int.natAbs_mul];exact Nat.mul_le_mul (by omega) (by omega)
  omega
 rw[Ds,Ds,Fc h1.1 h1.2,Bb0,Int32.ofInt_mul,Int32.ofInt_toInt,Int32.ofInt_toInt]
def OkF(s:Int)(t p:List Int32):Prop:=(s=9∨s=10)∧t.length=16∧p.length=16
theorem Ayv{s:Int}{t p:List Int32}(h:OkF s t p):Ac6 s t p=some 0:=by
 obtain⟨rfl|rfl,_,_⟩:=h<;>rfl
theorem g32{l:List Int32}{k:Nat}(h:k<l.length):getI l (k:Int)=some (l.getD k 0):=by
 rw[Cf h];simp[List.getD_eq_getElem?_getD,h]
def Arw(t p:List Int32):Nat→Int32
 |0=>0
 |i+1=>Arw t p i+t.getD i 0*p.getD i 0
def half(s:Int):Int32:=if s=9 then 256 else 512
def gF(s:Int)(t p:List Int32):Int32:=Int32.ofInt ((half s+Arw t p 16).toInt.fdiv (if s=9 then 512 else 1024))
theorem Bgm{s:Int}{t p:List Int32}(h:OkF s t p):∀(j i q:Nat),i+j=16→j<q→Po t s p q (half s+Arw t p i) (i:Int)=some (gF s t p,0)
 |0,i,q+1,hi,_=>by
  obtain rfl:i=16:=by omega
  have hs:=h.1
  rw[Po,Adr,if_neg (by rw[Af];simp),Ala,Au7,Bp (by rw[Cz];simp;omega),Aa]
  obtain rfl|rfl:=hs<;>rfl
 |j+1,i,q+1,hi,hq=>by
  obtain⟨hs,ht,hp⟩:=h
  rw[Po,Adr,if_pos (by rw[Af];simp;omega),g32 (by omega),Aa,g32 (by omega),Aa,Aa,Ag (b:=1) (by omega) (by omega),Alr,Bd8,Int32.add_assoc]
  exact Bgm ⟨hs,ht,hp⟩ j (i+1) q (by omega) (by omega)
theorem Bu5{s:Int}{t p:List Int32}(h:OkF s t p):Ahp s t p=some (gF s t p,0):=by
 have hs:=h.1
 have h1:=Bgm h 16 0 Am (by omega) (by have:=Ak;omega)
 have e:Cn (1:Int32) (GI.toZ (Ah s (1:Int))).toNat=half s+Arw t p 0:=by
  obtain rfl|rfl:=hs<;>rfl
 rw[Ahp,Akz,Ayv h,Aa,if_neg (by rw[Aj];simp),Bp (by rw[Cz,Bh (by omega) (by omega)];simp;omega),Aa,Ak4,e]
 exact h1
theorem Bem{s:Int}{t p:List Int32}(ht:t.length=16)(hp:p.length=16){g:Int32}(hg:Arw t p 16=g):∀(j i q:Nat),i+j=16→j<q→Jv s t p q (Arw t p i).toInt (i:Int)=some g
 |0,i,q+1,hi,_=>by
  obtain rfl:i=16:=by omega
  rw[Jv,Ux,if_neg (by rw[Af];simp),Afz,Af8,Agt,Int32.ofInt_toInt,hg]
 |j+1,i,q+1,hi,hq=>by
  have ih:=Bem (s:=s) ht hp hg j (i+1) q (by omega) (by omega)
  rw[Arw]at ih
  rw[Jv,Ux,if_pos (by rw[Af];simp;omega),g32 (by omega),g32 (by omega),Aa,Aa,Aa,Aa,Bww,Aa,←Ds (Arw t p i),Axm,Aa,Ds,Ag (by omega) (by omega)]
  exact ih
theorem Bu7{s:Int}{t p:List Int32}(h:OkF s t p):Amc s t p=some (Arw t p 16):=
 Bem h.2.1 h.2.2 rfl 16 0 Am (by omega) (by have:=Ak;omega)
theorem Buc(x n:Int)(hn:n=512∨n=1024∨n=16∨n=32):(if x.tmod n<0 then x.tdiv n-1 else x.tdiv n)=x.fdiv n:=by
 have hs:n.sign=1:=by obtain rfl|rfl|rfl|rfl:=hn<;>rfl
 rw[Int.tdiv_eq_ediv,Int.tmod_eq_emod,hs,Int.fdiv_eq_ediv_of_nonneg _ (by omega)]
 by_cases h:0≤x∨n∣x
 ·rw[if_pos h,if_pos h]
  obtain rfl|rfl|rfl|rfl:=hn<;>(rw[if_neg (by omega)];omega)
 ·rw[if_neg h,if_neg h]
  obtain rfl|rfl|rfl|rfl:=hn<;>(rw[if_pos (by omega)];omega)
theorem Bd2(x n:Int)(hn:n=512∨n=1024∨n=16∨n=32)(h: -1000000000000≤x)(h':x≤1000000000000): -1000000000000≤x.tdiv n∧x.tdiv n≤1000000000000:=by
 have hs:n.sign=1:=by obtain rfl|rfl|rfl|rfl:=hn<;>rfl
 rw[Int.tdiv_eq_ediv,hs]
 by_cases h:0≤x∨n∣x
 ·rw[if_pos h];obtain rfl|rfl|rfl|rfl:=hn<;>omega
 ·rw[if_neg h];obtain rfl|rfl|rfl|rfl:=hn<;>omega
theorem Cd4(x n:Int)(hn:n=512∨n=1024∨n=16∨n=32)(h: -1000000000000≤x)(h':x≤1000000000000):Bf x n=x.tdiv n:=by
 have:=Bd2 x n hn h h'
 rw[Ae9,Br (by omega) (by omega)]
theorem Blr(x n:Int)(hn:n=512∨n=1024∨n=16∨n=32)(h: -1000000000000≤x)(h':x≤1000000000000):
  (if(Bv (Ey x n) (0:Int))=true then some (Ad (Ah (Bf x n) (1:Int)):Int32)else some (Ad (Bf x n):Int32))=some (Int32.ofInt (x.fdiv n)):=by
 have hb:=Bd2 x n hn h h'
 rw[Af,Ey,Cd4 x n hn h h',Bh (by omega) (by omega),Agt,Agt,←Buc x n hn]
 by_cases hx:x.tmod n<0
 ·rw[if_pos (by simpa using hx),if_pos hx]
 ·rw[if_neg (by simpa using hx),if_neg hx]
theorem Byp{s:Int}{t p:List Int32}(h:OkF s t p):Aai s t p=some (gF s t p):=by
 obtain⟨hs,ht,hp⟩:=h
 have h:OkF s t p:=⟨hs,ht,hp⟩
 have hx:=Yo (Arw t p 16+half s)
 have key:∀n:Int,(n=512∨n=1024)→(half s).toInt=n/2→gF s t p=Int32.ofInt ((half s+Arw t p 16).toInt.fdiv n)→Tc s t p n=some (gF s t p):=by
  intro n hn hh hg
  have e2:Bf n (2:Int)=(half s).toInt:=by rw[hh];obtain rfl|rfl:=hn<;>rfl
  rw[Tc,Aem,Bu7 h,Aa,e2,←Ds (half s),Axm,Aa,Bp (by rw[Aj];simp;omega),Aa,Aa,Ds,Blr _ n (by omega) (by omega) (by omega),hg,Int32.add_comm]
 rw[Aai,Ad9]
 obtain rfl|rfl:=hs
 ·rw[if_pos (by rw[Bc];rfl)];exact key 512 (.inl rfl) rfl rfl
 ·rw[if_neg (by rw[Bc];decide)];exact key 1024 (.inr rfl) rfl rfl
def stp(i:Nat):Int32:=if i=0 then 4 else if i<4 then 2 else 1
def sg(x:Int32):Int32:=if x.toInt<0 then -1 else if 0<x.toInt then 1 else 0
def lrn(t p:List Int32)(w:Int32):List Int32:=(List.range 16).map fun i=>t.getD i 0+stp i*sg (p.getD i 0)*sg w
theorem Ado(t p:List Int32)(w:Int32):(lrn t p w).length=16:=by simp[lrn]
theorem Bj0(t p:List Int32)(w:Int32){i:Nat}(h:i<16):(lrn t p w).getD i 0=t.getD i 0+stp i*sg (p.getD i 0)*sg w:=by
 rw[Lg (by rw[Ado];exact h)];simp[lrn]
theorem step_eq(i:Nat):Amu (i:Int)=some (stp i):=by
 rw[Amu,stp]
 by_cases h:i=0
 ·rw[if_pos (by rw[Bc];simp[h]),if_pos h]
 ·rw[if_neg (by rw[Bc];simp;omega),if_neg h]
  by_cases h2:i<4
  ·rw[if_pos (by rw[Af];simp;omega),if_pos h2]
  ·rw[if_neg (by rw[Af];simp;omega),if_neg h2]
theorem Bsg(i:Nat):Zf (i:Int)=some (stp i):=by
 rw[Zf,stp]
 by_cases h:i=0
 ·rw[if_pos (by rw[Bc];simp[h]),if_pos h]
 ·rw[if_neg (by rw[Bc];simp;omega),if_neg h]
  by_cases h2:i<4
  ·rw[if_pos (by rw[Bhl];simp;omega),if_pos h2]
  ·rw[if_neg (by rw[Bhl];simp;omega),if_neg h2]
theorem Biy(a b:Int32):Bv a b=decide (a.toInt<b.toInt):=rfl
theorem Box(a b:Int32):Ff a b=decide (b.toInt<a.toInt):=rfl
theorem sign_eq(x:Int32):Rf x=some (sg x):=by
 rw[Rf,sg,Biy,Box,show(0:Int32).toInt=0 from rfl]
 by_cases h:x.toInt<0
 ·rw[if_pos (by simpa using h),if_pos h]
 ·rw[if_neg (by simpa using h),if_neg h]
  by_cases h2:0<x.toInt
  ·rw[if_pos (by simpa using h2),if_pos h2]
  ·rw[if_neg (by simpa using h2),if_neg h2]
theorem Brq:sg 0=0:=rfl
theorem toInt_ne{x:Int32}(h:x≠0):x.toInt≠0:=fun e=>h (Int32.toInt_inj.1 (by rw[e];rfl))
theorem Bia{x:Int32}(h:x.toInt<0):sg x= -1:=by rw[sg,if_pos h]
theorem Bi5{x:Int32}(h:x≠0)(h2:¬x.toInt<0):sg x=1:=by
 have:=toInt_ne h
 rw[sg,if_neg h2,if_pos (by omega)]
theorem Atu(i:Nat):stp i=4∨stp i=2∨stp i=1:=by
 unfold stp
 by_cases h:i=0
 ·rw[if_pos h];exact .inl rfl
 ·rw[if_neg h];split;exact .inr (.inl rfl);exact .inr (.inr rfl)
theorem Bsa{x w:Int32}(hx:x≠0)(hw:w≠0)(h:(x.toInt<0)=(w.toInt<0))(i:Nat):stp i*sg x*sg w=stp i:=by
 by_cases h1:x.toInt<0
 ·rw[Bia h1,Bia (by rw[←h];exact h1)]
  obtain e|e|e:=Atu i<;>rw[e]<;>decide
 ·rw[Bi5 hx h1,Bi5 hw (by rw[←h];exact h1)]
  obtain e|e|e:=Atu i<;>rw[e]<;>decide
theorem Bo2{x w:Int32}(hx:x≠0)(hw:w≠0)(h:¬(x.toInt<0)=(w.toInt<0))(i:Nat)(a:Int32):a+stp i*sg x*sg w=a-stp i:=by
 have key:stp i*sg x*sg w=-stp i:=by
  by_cases h1:x.toInt<0
  ·have h2:¬w.toInt<0:=fun h2=>h (propext ⟨fun _=>h2,fun _=>h1⟩)
   rw[Bia h1,Bi5 hw h2]
   obtain e|e|e:=Atu i<;>rw[e]<;>decide
  ·have h2:w.toInt<0:=Decidable.by_contra fun h2=>h (propext ⟨fun h3=>absurd h3 h1,fun h3=>absurd h3 h2⟩)
   rw[Bi5 hx h1,Bia h2]
   obtain e|e|e:=Atu i<;>rw[e]<;>decide
 rw[key,Int32.sub_eq_add_neg]
def Awr(i:Nat):Nat→Bool:=fun j=>decide (j<i)
theorem Beo{a b:List Int32}{i:Nat}(h:i<a.length):Jl (sel (Awr i) a b) (i:Int) (a.getD i 0)=some (sel (Awr (i+1)) a b):=by
 rw[Awt h]
 congr 1
 apply Ya
 intro k _
 rw[Bool.eq_iff_iff]
 simp only[Awr,Bool.or_eq_true,decide_eq_true_eq];omega
theorem Btf{a b:List Int32}{i:Nat}(e:a.getD i 0=b.getD i 0):sel (Awr i) a b=sel (Awr (i+1)) a b:=by
 apply List.map_congr_left
 intro k _
 simp only[Awr,decide_eq_true_eq]
 by_cases h1:k<i
 ·rw[if_pos h1,if_pos (by omega)]
 ·by_cases h2:k=i
  ·subst h2;rw[if_neg h1,if_pos (by omega),e]
  ·rw[if_neg h1,if_neg (by omega)]
theorem Bkm{a b:List Int32}{i:Nat}(h:i<a.length):getI (sel (Awr i) a b) (i:Int)=some (b.getD i 0):=by
 rw[Akc h,if_neg (by simp[Awr])]
theorem Bhi{s:Int}{t p:List Int32}{w:Int32}(hw:w≠0)(ht:t.length=16)(hp:p.length=16):∀(j i q:Nat),i+j=16→j<q→Pn w p s q (i:Int) (sel (Awr i) (lrn t p w) t)=some (s,lrn t p w,p,0)
 |0,i,q+1,hi,_=>by
  obtain rfl:i=16:=by omega
  rw[Pn,Adk,if_neg (by rw[Af];simp),Awl (fun k hk=>by rw[Ado]at hk;simpa [Awr]using hk)];rfl
 |j+1,i,q+1,hi,hq=>by
  have hl:=Ado t p w
  have hg:=Bj0 t p w (i:=i) (by omega)
  rw[Pn,Adk,if_pos (by rw[Af];simp;omega),g32 (by omega),Aa,Ag (b:=1) (by omega) (by omega),Bkm (by omega),step_eq]
  simp only[Aa]
  rw[Alr,Be4,Bqz,Biy,Biy,show(0:Int32).toInt=0 from rfl]
  have ih:=Bhi (s:=s) hw ht hp j (i+1) q (by omega) (by omega)
  by_cases hx:p.getD i 0=0
  ·rw[if_pos (by rw[hx];rfl),Btf (by rw[hg,hx,Brq,Int32.mul_zero,Int32.zero_mul,Int32.add_zero])]
   exact ih
  ·rw[if_neg (by simpa using hx)]
   by_cases hs:((p.getD i 0).toInt<0)=(w.toInt<0)
   ·rw[if_pos (by rw[beq_iff_eq];simp only[hs]),show t.getD i 0+stp i=(lrn t p w).getD i 0 by rw[hg,Bsa hx hw hs],Beo (by omega),Aa]
    exact ih
   ·rw[if_neg (by rw[beq_iff_eq,decide_eq_decide];exact fun h=>hs (propext h)),show t.getD i 0-stp i=(lrn t p w).getD i 0 by rw[hg,Bo2 hx hw hs],Beo (by omega),Aa]
    exact ih
theorem Buy{t:List Int32}(p:List Int32)(ht:t.length=16):lrn t p 0=t:=by
 apply List.ext_getElem (by rw[Ado,ht])
 intro i h1 h2
 have:=Bj0 t p 0 (i:=i) (by omega)
 rw[Lg h1,Lg h2]at this
 rw[this,Brq,Int32.mul_zero,Int32.add_zero]
theorem Bv5{s:Int}{t p:List Int32}(h:OkF s t p)(w:Int32):Aol s t p w=some (s,lrn t p w,p,0):=by
 rw[Aol,Akv,Ayv h,Aa,if_neg (by rw[Aj];simp),Bqz]
 by_cases hw:w=0
 ·rw[if_pos (by simpa using hw),hw,Buy p h.2.1]
 ·have h1:=Bhi (s:=s) hw h.2.1 h.2.2 16 0 Am (by omega) (by have:=Ak;omega)
  rw[Ax5 (by rw[Ado,h.2.1]) (fun k _=>by simp[Awr])]at h1
  rw[if_neg (by simpa using hw)]
  exact h1
theorem Axs{s:Int}{t p:List Int32}{w:Int32}(ht:t.length=16)(hp:p.length=16):∀(j i q:Nat),i+j=16→j<q→Gn w s p q (i:Int) (sel (Awr i) (lrn t p w) t)=some (s,lrn t p w,p)
 |0,i,q+1,hi,_=>by
  obtain rfl:i=16:=by omega
  rw[Gn,Nx,if_neg (by rw[Af];simp),Awl (fun k hk=>by rw[Ado]at hk;simpa [Awr]using hk)];rfl
 |j+1,i,q+1,hi,hq=>by
  have hl:=Ado t p w
  have hg:=Bj0 t p w (i:=i) (by omega)
  rw[Gn,Nx,if_pos (by rw[Af];simp;omega),g32 (l:=p) (by omega),Ag (b:=1) (by omega) (by omega),Bkm (by omega),Bsg,sign_eq w,Aa,Aa,Aa,Aa,Aa,sign_eq,Aa,Aa,Aa,Alr,Bd8,Bd8,←hg,Beo (by omega),Aa]
  exact Axs ht hp j (i+1) q (by omega) (by omega)
theorem Boj{s:Int}{t p:List Int32}(h:OkF s t p)(w:Int32):Aez s t p w=some (s,lrn t p w,p):=by
 have h1:=Axs (s:=s) (w:=w) h.2.1 h.2.2 16 0 Am (by omega) (by have:=Ak;omega)
 rw[Ax5 (by rw[Ado,h.2.1]) (fun k _=>by simp[Awr])]at h1
 exact h1
theorem Bz3{p:List Int32}(h:p.length=16):∃a0 a1 a2 a3 a4 a5 a6 a7 a8 a9 b0 b1 b2 b3 b4 b5,p=[a0,a1,a2,a3,a4,a5,a6,a7,a8,a9,b0,b1,b2,b3,b4,b5]:=by
 match p,h with
 |[a0,a1,a2,a3,a4,a5,a6,a7,a8,a9,b0,b1,b2,b3,b4,b5],_=>exact⟨a0,a1,a2,a3,a4,a5,a6,a7,a8,a9,b0,b1,b2,b3,b4,b5,rfl⟩
theorem Bzl{s:Int}{t p:List Int32}(h:OkF s t p)(x:Int32):Atn s t p x=some (s,t,x::p.take 15,0):=by
 obtain⟨hs,ht,hp⟩:=h
 rw[Atn,Agi,Ayv ⟨hs,ht,hp⟩,Aa,if_neg (by rw[Aj];simp),show vwI (16:Int) 1 16=some ()from rfl,Aa,show vwI (16:Int) 0 16=some ()from rfl,Aa,An6,Axf]
 obtain⟨a0,a1,a2,a3,a4,a5,a6,a7,a8,a9,b0,b1,b2,b3,b4,b5,rfl⟩:=Bz3 hp
 rfl
def shf(p:List Int32)(i:Nat):List Int32:=(List.range 16).map fun k=>if k≤i then p.getD k 0 else p.getD (k-1) 0
theorem Wa(p:List Int32)(i:Nat):(shf p i).length=16:=by simp[shf]
theorem Bzd(p:List Int32)(i k:Nat)(h:k<16):(shf p i).getD k 0=if k≤i then p.getD k 0 else p.getD (k-1) 0:=by
 rw[Lg (by rw[Wa];exact h)];simp[shf]
theorem Cam(p:List Int32)(i:Nat)(h:i+1<16):Jl (shf p (i+1)) ((i+1:Nat):Int) (p.getD i 0)=some (shf p i):=by
 rw[Uo _ (by rw[Wa];exact h)]
 congr 1
 apply List.ext_getElem (by simp[Wa])
 intro k h1 h2
 rw[Wa]at h2
 rw[List.getElem_set]
 simp only[shf,List.getElem_map,List.getElem_range]
 by_cases hk:i+1=k
 ·subst hk;rw[if_pos rfl,if_neg (by omega)];rfl
 ·rw[if_neg hk]
  by_cases h3:k≤i
  ·rw[if_pos (by omega),if_pos h3]
  ·rw[if_neg (by omega),if_neg h3]
theorem Bbd(s:Int)(t p:List Int32)(x:Int32)(hp:p.length=16):∀(i q:Nat),i<16→i<q→Gz x s t q (i:Int) (shf p i)=some (s,t,x::p.take 15)
 |0,q+1,_,_=>by
  have hg:getI (shf p 0) (0:Int)=some ((shf p 0).getD 0 0):=g32 (l:=shf p 0) (k:=0) (by rw[Wa];omega)
  have hset:Jl (shf p 0) (0:Int) x=some ((shf p 0).set 0 x):=Uo (l:=shf p 0) (n:=0) x (by rw[Wa];omega)
  rw[Gz,Pa,if_neg (by rw[Ar];simp),Abb,Zc,hg,Aa,hset,Aa]
  congr 3
  apply List.ext_getElem (by simp[Wa,hp])
  intro k h1 h2
  rw[List.length_set,Wa]at h1
  rw[List.getElem_set]
  cases k with
  |zero=>rw[if_pos rfl];rfl
  |succ k=>
   rw[if_neg (by omega)]
   simp only[shf,List.getElem_map,List.getElem_range,List.getElem_cons_succ,List.getElem_take]
   rw[if_neg (by omega),Nat.add_sub_cancel,Lg (by omega)]
 |i+1,q+1,hi,hq=>by
  have hg:=g32 (l:=shf p (i+1)) (k:=i) (by rw[Wa];omega)
  rw[Bzd p (i+1) i (by omega),if_pos (by omega)]at hg
  have e1:Ah ((i+1:Nat):Int) (1:Int)=(i:Int):=by rw[Bh (by omega) (by omega)];omega
  have hg2:=g32 (l:=shf p (i+1)) (k:=i+1) (by rw[Wa];omega)
  rw[Gz,Pa,if_pos (by rw[Ar];simp),e1,hg,Aa,Aa,hg2,Aa,Cam p i hi,Aa]
  exact Bbd s t p x hp i q (by omega) (by omega)
theorem Btm{s:Int}{t p:List Int32}(hp:p.length=16)(x:Int32):Af0 s t p x=some (s,t,x::p.take 15):=by
 have h:=Bbd s t p x hp 15 Am (by omega) (by have:=Ak;omega)
 have e:shf p 15=p:=by
  apply List.ext_getElem (by rw[Wa,hp])
  intro k h1 h2
  rw[Wa]at h1
  simp only[shf,List.getElem_map,List.getElem_range]
  rw[if_pos (by omega),Lg h2]
 rw[e]at h
 exact h
theorem Bus{s:Int}{t p:List Int32}(h:OkF s t p)(w x:Int32):OkF s (lrn t p w) (x::p.take 15):=⟨h.1,Ado _ _ _,by simp[h.2.2]⟩
theorem Cay{s:Int}{t p:List Int32}(h:OkF s t p)(y:Int32):Ar2 s t p y=some (y+gF s t p,s,lrn t p y,(y+gF s t p)::p.take 15,0):=by
 rw[Ar2,Bu5 h,Aa]
 simp only
 rw[if_neg (by rw[Aj];simp),Alr,Ana,Bv5 h,Aa]
 simp only
 rw[Bzl (s:=s) (t:=lrn t p y) (p:=p) ⟨h.1,Ado _ _ _,h.2.2⟩,Aa];rfl
theorem Btw{s:Int}{t p:List Int32}(h:OkF s t p)(y:Int32):Sj s t p y=some (y+gF s t p,s,lrn t p y,(y+gF s t p)::p.take 15):=by
 rw[Sj,Byp h,Aa,Axm,Aa,Boj h,Aa]
 simp only
 rw[Btm h.2.2,Aa]
def sB(bits:Int):Int:=if bits=16 then 9 else 10
def shB(bits:Int):Int:=if bits=8 then 4 else 5
def Cl(bits:Int):Prop:=bits=8∨bits=16∨bits=24
def gs(sh:Int)(last:Int32):Int32:=Ad (Bir (Ah (Cn (Ad last:Int) sh.toNat) (Ad last)) sh.toNat)
theorem Ced(bits:Int):sB bits=9∨sB bits=10:=by unfold sB;split<;>simp
theorem Bye(bits:Int):0≤shB bits:=by unfold shB;split<;>omega
theorem Cfi{bits:Int}(h:Cl bits)(t:List Int32):Axi bits t=some (sB bits,t,List.replicate 16 0,0):=by
 obtain rfl|rfl|rfl:=h<;>rfl
theorem Ccz{bits:Int}(h:Cl bits):Aqb bits=some (shB bits,0):=by
 obtain rfl|rfl|rfl:=h<;>rfl
theorem Ccs{sh:Int}(h:0≤sh)(last:Int32):Aj9 sh last=some (gs sh last):=by
 rw[Aj9,Bp (by rw[Cz];simpa using h),Aa,Aa];rfl
theorem Cdp{bits:Int}(h:Cl bits)(last:Int32):Sy bits last=some (gs (shB bits) last,0):=by
 rw[Sy,Ccz h,Aa]
 simp only
 rw[if_neg (by rw[Aj];simp),Ccs (Bye bits),Aa]
theorem Bph{bits:Int}(h:Cl bits)(last:Int32)(t p:List Int32):So bits last (sB bits) t p=some 0:=by
 rw[So,Cfi h,Aa]
 simp only
 rw[if_neg (by rw[Aj,Aj];simp)]
theorem Bt6{bits:Int}(h:Cl bits){t p:List Int32}(hF:OkF (sB bits) t p)(last y:Int32):
  Jn bits last (sB bits) t p y=some (y+gF (sB bits) t p+gs (shB bits) last,bits,y+gF (sB bits) t p+gs (shB bits) last,sB bits,lrn t p y,(y+gF (sB bits) t p)::p.take 15,0):=by
 rw[Jn,Bph h,Aa,if_neg (by rw[Aj];simp),Cdp h,Aa]
 simp only
 rw[Cay hF,Aa]
 simp only
 rw[Alr]
theorem Ay5(sh:Int)(hs:sh=4∨sh=5)(last:Int32):Mz sh last=some (gs sh last):=by
 have hl:=Yo last
 have key:∀n:Int,n=16∨n=32→gs sh last=Int32.ofInt (((n-1)*last.toInt).fdiv n)→Og last n=some (gs sh last):=by
  intro n hn hg
  have e:Ay (Ah n (1:Int)) (Ad last:Int)=(n-1)*last.toInt:=by
   obtain rfl|rfl:=hn<;>(rw[Ds,Bh (by omega) (by omega),Fc (by omega) (by omega)])
  rw[Og,Aab,Bp (by rw[Aj];simp;omega),Aa,Aa,e,Blr _ n (by omega) (by obtain rfl|rfl:=hn<;>omega) (by obtain rfl|rfl:=hn<;>omega),hg]
 rw[Mz,Zm]
 obtain rfl|rfl:=hs
 ·rw[if_neg (by rw[Bc];decide)]
  refine key 16 (.inl rfl) ?_
  have e:Cn (Ad last:Int) (4:Int).toNat=last.toInt*16:=by
   rw[Ds];show wrap64 (last.toInt*2^4)=_;rw[Br]<;>omega
  rw[gs,e,Ds,Bh (by omega) (by omega),Agt]
  show Int32.ofInt ((last.toInt*16-last.toInt).fdiv 16)=_
  congr 2;omega
 ·rw[if_pos (by rw[Bc];rfl)]
  refine key 32 (.inr rfl) ?_
  have e:Cn (Ad last:Int) (5:Int).toNat=last.toInt*32:=by
   rw[Ds];show wrap64 (last.toInt*2^5)=_;rw[Br]<;>omega
  rw[gs,e,Ds,Bh (by omega) (by omega),Agt]
  show Int32.ofInt ((last.toInt*32-last.toInt).fdiv 32)=_
  congr 2;omega
theorem Bth{bits:Int}(h:Cl bits){t p:List Int32}(hF:OkF (sB bits) t p)(last y:Int32):
  Tj bits last (sB bits) t p y=some (y+gF (sB bits) t p+gs (shB bits) last,bits,y+gF (sB bits) t p+gs (shB bits) last,sB bits,lrn t p y,(y+gF (sB bits) t p)::p.take 15):=by
 have hb:Vg bits last (sB bits) t p=some (Ad (gs (shB bits) last):Int):=by
  rw[Vg]
  obtain rfl|rfl|rfl:=h
  ·rw[if_pos (by rw[Bc];rfl),Ay5 4 (.inl rfl),Aa];rfl
  ·rw[if_neg (by rw[Bc];decide),Ay5 5 (.inr rfl),Aa];rfl
  ·rw[if_neg (by rw[Bc];decide),Ay5 5 (.inr rfl),Aa];rfl
 rw[Tj,Btw hF,Aa]
 simp only
 rw[hb,Aa,Axm,Aa]
theorem Ce3{bits:Int}(h:Cl bits)(t:List Int32):Amg bits t=some (bits,0,sB bits,t,List.replicate 16 0,0):=by
 obtain rfl|rfl|rfl:=h<;>rfl
def Api(n:UInt32):Int32:=if n.toNat %2=0 then Int32.ofInt ((n.toNat/2:Nat):Int)else Int32.ofInt (-((n.toNat/2:Nat):Int)-1)
theorem Bk7(a b:Int32):(To a b).toBitVec=a.toBitVec^^^b.toBitVec:=by
 show(Int32.ofInt ((BitVec.ofInt 32 a.toBitVec.toInt^^^BitVec.ofInt 32 b.toBitVec.toInt).toNat:Int)).toBitVec=_
 rw[BitVec.ofInt_toInt,BitVec.ofInt_toInt,Int32.toBitVec_ofInt,BitVec.ofInt_natCast,BitVec.ofNat_toNat,BitVec.setWidth_eq]
theorem Cea(m:Nat)(h:m<2147483648):To (Int32.ofInt (m:Int)) (Int32.ofInt (-1))=Int32.ofInt (-(m:Int)-1):=by
 apply Int32.toBitVec_inj.1
 have e1:(Int32.ofInt (-1)).toBitVec=BitVec.allOnes 32:=by decide
 rw[Bk7,e1,BitVec.xor_allOnes,Int32.toBitVec_ofInt,Int32.toBitVec_ofInt]
 apply BitVec.eq_of_toNat_eq
 rw[BitVec.toNat_not,BitVec.toNat_ofInt,BitVec.toNat_ofInt]
 omega
theorem Bwx(n:UInt32):Tz n=some (Api n):=by
 have hn:=n.toNat_lt
 have e1:(Ad (Bn n (GI.toZ (1:UInt64)).toNat):Int32)=Int32.ofInt ((n.toNat/2:Nat):Int):=by
  show Int32.ofInt ((Bn n 1).toNat:Int)=_
  rw[Alx]
 have e2:(Ad (Dg n (1:UInt32)):Int32)=Int32.ofInt ((n.toNat %2:Nat):Int):=by
  show Int32.ofInt ((Dg n (1:UInt32)).toNat:Int)=_
  rw[Ble,UInt32.toNat_and]
  show Int32.ofInt ((n.toNat&&&1:Nat):Int)=_
  rw[Nat.and_one_is_mod]
 rw[Tz,e1,e2,Api]
 congr 1
 by_cases h:n.toNat %2=0
 ·have e3:Ax6 (Int32.ofInt ((n.toNat %2:Nat):Int))=Int32.ofInt 0:=by rw[h];decide
  rw[if_pos h,e3]
  apply Int32.toBitVec_inj.1
  rw[Bk7,show(Int32.ofInt 0).toBitVec=0#32 from rfl,BitVec.xor_zero]
 ·have e3:Ax6 (Int32.ofInt ((n.toNat %2:Nat):Int))=Int32.ofInt (-1):=by rw[show n.toNat %2=1 by omega];decide
  rw[if_neg h,e3,Cea _ (by omega)]
theorem Caa(n:UInt32):Zo n=some (Api n):=by
 have hn:=n.toNat_lt
 have e1:geq (Yk n (2:UInt32)) (0:UInt32)=decide (n.toNat %2=0):=by
  rw[Bid,Bnf,Bool.eq_iff_iff]
  simp only[beq_iff_eq,←UInt32.toNat_inj,UInt32.toNat_mod,decide_eq_true_eq];rfl
 rw[Zo,e1,Api]
 by_cases h:n.toNat %2=0
 ·rw[if_pos (by simpa using h),if_pos h,Bkl];rfl
 ·have e2:(Ad n:Int)=(n.toNat:Int):=Bpp n
  rw[if_neg (by simpa using h),if_neg h,e2,Ag (by omega) (by omega),Bj1,Br (by omega) (by omega),Ae9,Int.tdiv_eq_ediv,Agt]
  congr 2
  rw[if_pos (.inr (by omega)),Br (by omega) (by omega)];omega
end Go.Pl
set_option linter.unusedVariables false
set_option linter.unusedSimpArgs false
namespace Go.Pl
open Go Go.Lv
theorem Bls{c:Prop} [Decidable c](h:c):Gs (decide c)=some ():=by rw[decide_eq_true h];rfl
def unV(f:Nat→Int32)(ch:Nat):Nat→Int32
 |0=>if 1<ch then f (ch-1)+Bf (f (ch-2)) (2:Int32)else f (ch-1)
 |j+1=>unV f ch j-f (ch-2-j)
def unm(ch:Nat)(m:List Int32):List Int32:=(List.range m.length).map fun k=>unV (fun i=>m.getD (k-k %ch+i) 0) ch (ch-1-k %ch)
theorem Ata(ch:Nat)(m:List Int32):(unm ch m).length=m.length:=by simp[unm]
theorem Bbs{ch:Nat}{m:List Int32}{a i:Nat}(ha:a %ch=0)(hi:i<ch)(h:a+i<m.length):(unm ch m).getD (a+i) 0=unV (fun i=>m.getD (a+i) 0) ch (ch-1-i):=by
 have hb:(a+i) %ch=i:=by rw[Nat.add_mod,ha,Nat.zero_add,Nat.mod_mod,Nat.mod_eq_of_lt hi]
 rw[Lg (by rw[Ata];exact h)]
 simp only[unm,List.getElem_map,List.getElem_range,hb]
 rw[show a+i-i=a by omega]
section
variable (ch:Nat) (m:List Int32)
theorem Bu9(h1:1≤ch)(h6:ch≤6)(hm:m.length %ch=0)(hl2:m.length≤4000):Ami (ch:Int) m=some 0:=by
 rw[Ami,if_neg (by simp[Af,Ar];omega),if_neg (by rw[Ar,Ac];simp;omega),Bp (by rw[Aj];simp;omega),Aa,if_neg]
 rw[Aj,Ey,Ac,←Int.ofNat_tmod,hm];simp
theorem Bcn(bk:Int→List Int32→Option (List Int32×Int))(at':Nat)(h1:1≤ch)(h6:ch≤6)(hm:at' %ch=0)(hl:at'+ch≤m.length)(hl2:m.length≤4000):∀(i q:Nat),i≤ch-1→i<q→
  Tx bk (ch:Int) (at':Int) q ((i:Int)-1) (sel (fun k=>decide (k<at'∨(at'+i≤k∧k<at'+ch))) (unm ch m) m)=bk ((at'+ch:Nat):Int) (sel (fun k=>decide (k<at'+ch)) (unm ch m) m)
 |0,q+1,hi,_=>by
  have e4:Ae (at':Int) (ch:Int)=((at'+ch:Nat):Int):=by rw[Ag (by omega) (by omega)];omega
  rw[Tx,Agg,if_neg (by rw[Cz];simp),An4,Axu,e4]
  congr 1
  apply Ya
  intro k _
  rw[Bool.eq_iff_iff];simp;omega
 |i+1,q+1,hi,hq=>by
  have hlen:=Ata ch m
  have e2:Ae (at':Int) (ch:Int)-(at':Int)=(ch:Int):=by rw[Ag (by omega) (by omega)];omega
  have e3:Ae (i:Int) 1=((i+1:Nat):Int):=by rw[Ag (by omega) (by omega)];omega
  have hv:((unm ch m).getD (at'+(i+1)) 0-m.getD (at'+i) 0)=(unm ch m).getD (at'+i) 0:=by
   rw[Bbs hm (by omega) (by omega),Bbs hm (by omega) (by omega),show ch-1-i=(ch-1-(i+1))+1 by omega,unV,show ch-2-(ch-1-(i+1))=i by omega]
  rw[Tx,Agg,show((i+1:Nat):Int)-1=(i:Int) by omega,if_pos (by rw[Cz];simp),e2,e3,Bls (by omega),Aa,Bls (by omega),Aa,
   show(at':Int)+((i+1:Nat):Int)=((at'+(i+1):Nat):Int) by omega,show(at':Int)+(i:Int)=((at'+i:Nat):Int) by omega,
   Akc (by omega),Aa,Akc (by omega),Aa,Aa,if_pos (by simp;omega),if_neg (by simp;omega),Be4,hv,Awt (by omega),Aa,Bh (by omega) (by omega)]
  have ih:=Bcn bk at' h1 h6 hm hl hl2 i q (by omega) (by omega)
  rw[←ih]
  congr 1
  apply Ya
  intro k _
  rw[Bool.eq_iff_iff];simp;omega
theorem Blm{at' ch n:Nat}(ha:at' %ch=0)(hm:n %ch=0)(h:at'<n):at'+ch≤n:=by
 have d1:=Nat.div_add_mod at' ch
 have d2:=Nat.div_add_mod n ch
 rw[ha,Nat.add_zero]at d1
 rw[hm,Nat.add_zero]at d2
 have hlt:at'/ch<n/ch:=by
  rcases Nat.lt_or_ge (at'/ch) (n/ch)with h'|h'
  ·exact h'
  ·have:=Nat.mul_le_mul_left ch h';omega
 have:=Nat.mul_le_mul_left ch (show at'/ch+1≤n/ch from hlt)
 rw[Nat.mul_add]at this;omega
theorem Bh4(h1:1≤ch)(h6:ch≤6)(hm:m.length %ch=0)(hl2:m.length≤4000):∀(j at' q:Nat),at' %ch=0→at'≤m.length→m.length-at'≤j→j<q→
  Oj (ch:Int) q (at':Int) (sel (fun k=>decide (k<at')) (unm ch m) m)=some (unm ch m,0)
 |j,at',q+1,ha,hle,hj,hq=>by
  have hlen:=Ata ch m
  have hl:Ac (sel (fun k=>decide (k<at')) (unm ch m) m)=(m.length:Int):=by rw[Ac,Ang,hlen]
  rw[Oj,Anx,hl]
  by_cases h:at'<m.length
  ·have hb:=Blm ha hm h
   obtain⟨j,rfl⟩:∃k,j=k+1:=⟨j-1,by omega⟩
   have e1:Ah (Ae (at':Int) (ch:Int)-(at':Int)) 1=((ch-1:Nat):Int):=by rw[Ag (by omega) (by omega),Bh (by omega) (by omega)];omega
   have e2:Ae (at':Int) (ch:Int)-(at':Int)=(ch:Int):=by rw[Ag (by omega) (by omega)];omega
   have e4:Ae (at':Int) (ch:Int)=((at'+ch:Nat):Int):=by rw[Ag (by omega) (by omega)];omega
   have hi:=Bcn ch m (Oj (ch:Int) q) at' h1 h6 ha hb hl2 (ch-1) Am (by omega) (by have:=Ak;omega)
   have hrest:=Bh4 h1 h6 hm hl2 j (at'+ch) q (by rw[Nat.add_mod_right,ha]) hb (by omega) (by omega)
   have hstart:Agm (Oj (ch:Int) q) (ch:Int) (at':Int) (sel (fun k=>decide (k<at'∨(at'+(ch-1)≤k∧k<at'+ch))) (unm ch m) m)=some (unm ch m,0):=by
    have e6:Ah ((ch-1:Nat):Int) 1=((ch-1:Nat):Int)-1:=Bh (by omega) (by omega)
    rw[Agm,An2,Anc,e1,e6]
    exact Eq.trans hi hrest
   rw[if_pos (by rw[Af];simp;omega),show vwI (m.length:Int) (at':Int) (Ae (at':Int) (ch:Int))=some () by rw[e4,vwI,Bls];omega,Aa,e1,e2]
   have hlast:=Bbs (m:=m) ha (show ch-1<ch by omega) (by omega)
   rw[show ch-1-(ch-1)=0 by omega,unV]at hlast
   by_cases hc:1<ch
   ·have e5:Ah ((ch-1:Nat):Int) 1=((ch-2:Nat):Int):=by rw[Bh (by omega) (by omega)];omega
    rw[if_pos hc]at hlast
    rw[if_pos (by rw[Ar];simp;omega),Bls (by omega),Aa,e5,Bls (by omega),Aa,show(at':Int)+((ch-1:Nat):Int)=((at'+(ch-1):Nat):Int) by omega,show(at':Int)+((ch-2:Nat):Int)=((at'+(ch-2):Nat):Int) by omega,
     Akc (by omega),Aa,Akc (by omega),Aa,Aa,if_neg (by simp),if_neg (by simp),Alr,←hlast,Awt (by omega),Aa]
    rw[←hstart]
    congr 1
    apply Ya
    intro k _
    rw[Bool.eq_iff_iff];simp;omega
   ·have hc1:ch=1:=by omega
    rw[if_neg (by rw[Ar];simp;omega),←hstart]
    congr 1
    rw[if_neg hc]at hlast
    apply List.map_congr_left
    intro k hk
    by_cases hk2:k=at'
    ·subst hk2
     rw[if_neg (by simp),if_pos (by simp;omega)]
     rw[show k+(ch-1)=k by omega]at hlast
     exact hlast.symm
    ·by_cases hk3:k<at'
     ·rw[if_pos (by simp;omega),if_pos (by simp;omega)]
     ·rw[if_neg (by simp;omega),if_neg (by simp;omega)]
  ·rw[if_neg (by rw[Af];simp;omega),Awl (fun k hk=>by simp;omega)]
   rfl
theorem Bzg(h1:1≤ch)(h6:ch≤6)(hm:m.length %ch=0)(hl2:m.length≤4000):Awk (ch:Int) m=some (unm ch m,0):=by
 have hlen:=Ata ch m
 have h:=Bh4 ch m h1 h6 hm hl2 m.length 0 Am (by simp) (by omega) (by omega) (by have:=Ak;omega)
 rw[Awk,Ark,Bu9 ch m h1 h6 hm hl2,Aa,if_neg (by rw[Aj];simp),Dt,Cq (by simp;omega),Aa,Aa,List.nil_append,Ans]
 rw[Ax5 hlen.symm (fun k _=>by simp)]at h
 exact h
end
def Ayo(f:Nat→Int32)(ch:Nat):List Int32:=(List.range ch).map fun i=>unV f ch (ch-1-i)
theorem Ama(f:Nat→Int32)(ch:Nat):(Ayo f ch).length=ch:=by simp[Ayo]
theorem Aw8(f:Nat→Int32){ch i:Nat}(h:i<ch):(Ayo f ch).getD i 0=unV f ch (ch-1-i):=by
 rw[Lg (by rw[Ama];exact h)];simp[Ayo]
theorem Bxa(a b:Int32):Bw (Ah (Ad a:Int) (Ad b:Int))=some (a-b):=by
 have:=Yo a
 have:=Yo b
 rw[Ds,Ds,Bh (by omega) (by omega),Bb0,Int32.ofInt_sub,Int32.ofInt_toInt,Int32.ofInt_toInt]
theorem Bt7(a b:Int32):Bw (Ae (Ad a:Int) (Bf (Ad b:Int) (2:Int)))=some (a+Bf b (2:Int32)):=by
 have:=Yo a
 have hb:=Yo b
 have hd: -2147483648≤b.toInt.tdiv 2∧b.toInt.tdiv 2≤2147483648:=by
  rw[Int.tdiv_eq_ediv,show Int.sign 2=1 from rfl]
  by_cases h:0≤b.toInt∨2∣b.toInt
  ·rw[if_pos h];omega
  ·rw[if_neg h];omega
 have e:Bf b (2:Int32)=Int32.ofInt (b.toInt.tdiv 2):=rfl
 rw[Ds,Ds,Ae9,Br (by omega) (by omega),Ag (by omega) (by omega),Bb0,Int32.ofInt_add,Int32.ofInt_toInt,e]
theorem Ax0(seg z:List Int32)(ch:Nat)(h6:ch≤6)(hs:seg.length=ch)(hz:z.length=ch):∀(i q:Nat),i+1≤ch→i<q→
  Gj seg q ((i:Int)-1) (sel (fun k=>decide (i≤k)) (Ayo (fun i=>seg.getD i 0) ch) z)=some (Ayo (fun i=>seg.getD i 0) ch)
 |0,q+1,hi,_=>by
  rw[Gj,Nf,if_neg (by rw[Cz];simp),Awl (fun k hk=>by simp)];rfl
 |i+1,q+1,hi,hq=>by
  have hlen:=Ama (fun i=>seg.getD i 0) ch
  have e3:Ae (i:Int) 1=((i+1:Nat):Int):=by rw[Ag (by omega) (by omega)];omega
  have hv:(Ayo (fun i=>seg.getD i 0) ch).getD (i+1) 0-seg.getD i 0=(Ayo (fun i=>seg.getD i 0) ch).getD i 0:=by
   rw[Aw8 _ (by omega),Aw8 _ (by omega),show ch-1-i=(ch-1-(i+1))+1 by omega,unV,show ch-2-(ch-1-(i+1))=i by omega]
  rw[Gj,Nf,show((i+1:Nat):Int)-1=(i:Int) by omega,if_pos (by rw[Cz];simp),e3,Akc (by omega),Aa,g32 (by omega),Aa,Aa,if_pos (by simp),Bxa,Aa,Akc (by omega),Aa,hv,Awt (by omega),Aa,Bh (by omega) (by omega)]
  have ih:=Ax0 seg z ch h6 hs hz i q (by omega) (by omega)
  rw[←ih]
  congr 1
  apply Ya
  intro k _
  rw[Bool.eq_iff_iff];simp;omega
theorem Bmc{l:List Int32}{i:Nat}(v:Int32)(h:i<l.length):(l.set i v).getD i 0=v:=by
 rw[Lg (by rw[List.length_set];exact h)];simp
theorem Bon(seg:List Int32)(ch:Nat)(h1:1≤ch)(h6:ch≤6)(hs:seg.length=ch):Sr seg=some (Ayo (fun i=>seg.getD i 0) ch):=by
 have hlen:=Ama (fun i=>seg.getD i 0) ch
 have hzl:(List.replicate ch (0:Int32)).length=ch:=by simp
 have e1:Ah (Ac seg) 1=((ch-1:Nat):Int):=by rw[Ac,hs,Bh (by omega) (by omega)];omega
 have e2:Ah (Ac seg) 2=((ch-1:Nat):Int)-1:=by rw[Ac,hs,Bh (by omega) (by omega)];omega
 have hlast:=Aw8 (fun i=>seg.getD i 0) (show ch-1<ch by omega)
 rw[show ch-1-(ch-1)=0 by omega,unV]at hlast
 have hend:∀z:List Int32,z.length=ch→z.getD (ch-1) 0=(Ayo (fun i=>seg.getD i 0) ch).getD (ch-1) 0→Nl seg z=some (Ayo (fun i=>seg.getD i 0) ch):=by
  intro z hz hzl
  have h:=Ax0 seg z ch h6 hs hz (ch-1) Am (by omega) (by have:=Ak;omega)
  have e:sel (fun k=>decide (ch-1≤k)) (Ayo (fun i=>seg.getD i 0) ch) z=z:=by
   apply List.ext_getElem (by rw[Ang,hlen,hz])
   intro k k1 k2
   rw[Xm]
   by_cases hk:ch-1≤k
   ·obtain rfl:k=ch-1:=by omega
    rw[if_pos (by simp),←hzl,Lg k2]
   ·rw[if_neg (by simpa using hk),Lg k2]
  rw[e]at h
  rw[Nl,Xi,e2]
  exact h
 rw[Sr,Xk,Ac,hs,Azt (by omega) (by omega),Aa,Bp (by rw[Bc];simp),Aa]
 rw[Ac,hs]at e1
 rw[Ac,hs]at e2
 have hz1:(List.replicate (Int.toNat (ch:Int)) (0:Int32)).length=ch:=by simp
 have hs1:=g32 (l:=seg) (k:=ch-1) (by omega)
 rw[e1,hs1,Aa,g32 (by omega),Aa,Uo _ (by omega),Aa]
 by_cases hc:1<ch
 ·rw[if_pos hc]at hlast
  have e3:((ch-1:Nat):Int)-1=((ch-2:Nat):Int):=by omega
  have hs2:=g32 (l:=seg) (k:=ch-2) (by omega)
  rw[if_pos (by rw[Ar];simp;omega),Aa,e2,e3,hs2,Aa,Bt7,Aa,g32 (by rw[List.length_set];omega),Aa,Uo _ (by rw[List.length_set];omega),Aa]
  refine hend _ (by simp) ?_
  rw[hlast,Bmc _ (by rw[List.length_set];omega)]
 ·rw[if_neg hc]at hlast
  rw[if_neg (by rw[Ar];simp;omega)]
  refine hend _ (by simp) ?_
  rw[hlast,Bmc _ (by omega)]
theorem Byl(ch:Nat)(m:List Int32)(h1:1≤ch)(h6:ch≤6)(hm:m.length %ch=0)(hl2:m.length≤4000):Oh (ch:Int) m=some 0:=by
 rw[Oh,if_neg (by simp[Af,Ar];omega),if_neg (by rw[Ar,Ac];simp;omega),Bp (by rw[Aj];simp;omega),Aa,if_neg]
 rw[Ar,Ey,Ac,←Int.ofNat_tmod,hm];simp
theorem Azr(ch:Nat)(m:List Int32)(h1:1≤ch)(h6:ch≤6)(hm:m.length %ch=0)(hl2:m.length≤4000):∀(j at' q:Nat),at' %ch=0→at'≤m.length→m.length-at'≤j→j<q→
  Ma (ch:Int) m q (at':Int) ((unm ch m).take at')=some (unm ch m,0)
 |j,at',q+1,ha,hle,hj,hq=>by
  have hlen:=Ata ch m
  rw[Ma,Ae2]
  by_cases h:at'<m.length
  ·have hb:=Blm ha hm h
   have e4:Ae (at':Int) (ch:Int)=((at'+ch:Nat):Int):=by rw[Ag (by omega) (by omega)];omega
   have hrest:=Azr ch m h1 h6 hm hl2 (j-1) (at'+ch) q (by rw[Nat.add_mod_right,ha]) hb (by omega) (by omega)
   have hseg:((m.take (at'+ch)).drop at').length=ch:=by simp;omega
   have htl:((unm ch m).take at').length=at':=by simp[hlen];omega
   rw[if_pos (by rw[Af,Ac];simp;omega),e4,Xa (by omega) (by omega) (by omega),Aa,show((at'+ch:Nat):Int).toNat=at'+ch from rfl,show(at':Int).toNat=at' from rfl,Bon _ ch h1 h6 hseg,Aa,Cq (by rw[htl,Ama];omega),Aa]
   have e:(unm ch m).take at'++Ayo (fun i=>((m.take (at'+ch)).drop at').getD i 0) ch=(unm ch m).take (at'+ch):=by
    apply List.ext_getElem (by rw[List.length_append,htl,Ama,List.length_take,hlen];omega)
    intro k k1 k2
    rw[List.length_take,hlen]at k2
    rw[List.getElem_append,List.getElem_take]
    by_cases hk:k<at'
    ·rw[dif_pos (by rw[htl];exact hk),List.getElem_take]
    ·rw[dif_neg (by rw[htl];exact hk)]
     have hu:=Bbs (m:=m) ha (show k-at'<ch by omega) (by omega)
     rw[show at'+(k-at')=k by omega,Lg (by omega)]at hu
     have hx:∀n,n≤ch→unV (fun i=>((m.take (at'+ch)).drop at').getD i 0) ch n=unV (fun i=>m.getD (at'+i) 0) ch n:=by
      have hf:∀i,i<ch→((m.take (at'+ch)).drop at').getD i 0=m.getD (at'+i) 0:=by
       intro i hi
       rw[Lg (by omega),Lg (by omega)];simp
      intro n
      induction n with
      |zero=>
       intro _;rw[unV,unV,hf _ (by omega)];split
       ·rw[hf _ (by omega)]
       ·rfl
      |succ n ih=>intro hn;rw[unV,unV,ih (by omega),hf _ (by omega)]
     have hy:=Aw8 (fun i=>((m.take (at'+ch)).drop at').getD i 0) (show k-at'<ch by omega)
     rw[Lg (by rw[Ama];omega)]at hy
     rw[hu,←hx _ (by omega),←hy]
     congr 1
     rw[htl]
   rw[e]
   exact hrest
  ·rw[if_neg (by rw[Af,Ac];simp;omega),List.take_of_length_le (by omega)];rfl
theorem Br5(ch:Nat)(m:List Int32)(h1:1≤ch)(h6:ch≤6)(hm:m.length %ch=0)(hl2:m.length≤4000):Abf (ch:Int) m=some (unm ch m,0):=by
 have h:=Azr ch m h1 h6 hm hl2 m.length 0 Am (by simp) (by omega) (by omega) (by have:=Ak;omega)
 rw[Abf,Adt,Byl ch m h1 h6 hm hl2,Aa,if_neg (by rw[Aj];simp)]
 exact h
end Go.Pl
set_option linter.unusedVariables false
set_option linter.unusedSimpArgs false
namespace Go.Pl
open Go Go.Lv
def pre{α:Type}(ch c:Nat)(f:α→Nat→α)(a0:α):Nat→α
 |0=>a0
 |m+1=>if m %ch=c then f (pre ch c f a0 m) m else pre ch c f a0 m
theorem Bpw{α:Type}(ch c:Nat)(f:α→Nat→α)(a0:α):∀m,m≤c→c<ch→pre ch c f a0 m=a0
 |0,_,_=>rfl
 |m+1,h,h2=>by rw[pre,if_neg (by rw[Nat.mod_eq_of_lt (by omega)];omega),Bpw ch c f a0 m (by omega) h2]
theorem Bke{α:Type}(ch c i:Nat)(f:α→Nat→α)(a0:α)(hi:i %ch=c)(hc:c<ch):∀j,j<ch→pre ch c f a0 (i+1+j)=pre ch c f a0 (i+1)
 |0,_=>rfl
 |j+1,h=>by
  have hne:(i+1+j) %ch≠c:=by
   intro e
   have h1:(i+(1+j)) %ch=i %ch:=by rw[hi,←e];congr 1;omega
   have h2:(1+j) %ch=0:=by
    have h3:=Nat.sub_mod_eq_zero_of_mod_eq h1
    rwa [Nat.add_sub_cancel_left]at h3
   rw[Nat.mod_eq_of_lt (by omega)]at h2;omega
  rw[show i+1+(j+1)=(i+1+j)+1 by omega,pre,if_neg hne,Bke ch c i f a0 hi hc j (by omega)]
theorem Bw4{α:Type}(ch c i:Nat)(f:α→Nat→α)(a0:α)(hi:i %ch=c)(hc:c<ch):pre ch c f a0 (i+ch)=f (pre ch c f a0 i) i:=by
 have h:=Bke ch c i f a0 hi hc (ch-1) (by omega)
 rw[show i+1+(ch-1)=i+ch by omega]at h
 rw[h,pre,if_pos hi]
abbrev CS:=Int32×List Int32×List Int32
def Bwv(bits:Int)(s:CS)(y:Int32):Int32:=y+gF (sB bits) s.2.1 s.2.2+gs (shB bits) s.1
def Brw(bits:Int)(s:CS)(y:Int32):CS:=(Bwv bits s y,lrn s.2.1 s.2.2 y,(y+gF (sB bits) s.2.1 s.2.2)::s.2.2.take 15)
def cst(bits:Int)(ch:Nat)(t:List Int32)(v:List UInt32)(c:Nat):Nat→CS:=pre ch c (fun s i=>Brw bits s (Api (v.getD i 0))) (0,t,List.replicate 16 0)
def OkC(bits:Int)(s:CS):Prop:=OkF (sB bits) s.2.1 s.2.2
theorem Bo6(bits:Int)(ch:Nat){t:List Int32}(ht:t.length=16)(v:List UInt32)(c:Nat):∀m,OkC bits (cst bits ch t v c m)
 |0=>⟨Ced bits,ht,by simp[cst,pre]⟩
 |m+1=>by
  have ih:=Bo6 bits ch ht v c m
  rw[cst,pre]
  split
  ·exact Bus ih _ _
  ·exact ih
def smp(bits:Int)(ch:Nat)(t:List Int32)(v:List UInt32):List Int32:=(List.range v.length).map fun i=>Bwv bits (cst bits ch t v (i %ch) i) (Api (v.getD i 0))
theorem Ate(bits:Int)(ch:Nat)(t:List Int32)(v:List UInt32):(smp bits ch t v).length=v.length:=by simp[smp]
theorem Bqv(bits:Int)(ch:Nat)(t:List Int32)(v:List UInt32){i:Nat}(h:i<v.length):(smp bits ch t v).getD i 0=Bwv bits (cst bits ch t v (i %ch) i) (Api (v.getD i 0)):=by
 rw[Lg (by rw[Ate];exact h)];simp[smp]
abbrev CL:=Int×Int32×(Int×(List Int32)×(List Int32)×Unit)×Unit
def toC(bits:Int)(s:CS):CL:=(bits,s.1,(sB bits,s.2.1,s.2.2,()),())
def cts(bits:Int)(ch:Nat)(t:List Int32)(v:List UInt32)(i:Nat):List CL:=(List.range 6).map fun c=>toC bits (cst bits ch t v c i)
theorem Bzz{bits:Int}{ch:Nat}{t:List Int32}{v:List UInt32}{i c:Nat}(h:c<6):getI (cts bits ch t v i) (c:Int)=some (toC bits (cst bits ch t v c i)):=by
 rw[Cf (by simp[cts];exact h)];simp[cts]
theorem Bl5(bits:Int)(ch:Nat)(t:List Int32)(v:List UInt32)(c m:Nat):cst bits ch t v c (m+1)=if m %ch=c then Brw bits (cst bits ch t v c m) (Api (v.getD m 0))else cst bits ch t v c m:=rfl
theorem Byf{bits:Int}{ch:Nat}{t:List Int32}{v:List UInt32}{i c:Nat}(h:c<6)(hc:i %ch=c):Jl (cts bits ch t v i) (c:Int) (toC bits (Brw bits (cst bits ch t v c i) (Api (v.getD i 0))))=some (cts bits ch t v (i+1)):=by
 rw[Uo _ (by simp[cts];exact h)]
 congr 1
 apply List.ext_getElem (by simp[cts])
 intro k h1 h2
 rw[List.getElem_set]
 simp only[cts,List.getElem_map,List.getElem_range]
 by_cases hk:c=k
 ·subst hk;rw[if_pos rfl,Bl5,if_pos hc]
 ·rw[if_neg hk,Bl5,if_neg (by omega)]
section
variable {bits:Int} {ch:Nat} {t:List Int32} {v:List UInt32}
theorem Bmb(hb:Cl bits)(ht:t.length=16)(h1:1≤ch)(h6:ch≤6)(hv:v.length≤4000):∀(j i q:Nat),i+j=v.length→j<q→
  Hf v (ch:Int) bits q (i:Int) (cts bits ch t v i) ((smp bits ch t v).take i)=Jw (ch:Int) bits (smp bits ch t v)
 |0,i,q+1,hi,_=>by
  rw[Hf,Jt,if_neg (by rw[Af,Ac];simp;omega),List.take_of_length_le (by rw[Ate];omega)]
 |j+1,i,q+1,hi,hq=>by
  have hlen:=Ate bits ch t v
  have hc:i %ch<6:=Nat.lt_of_lt_of_le (Nat.mod_lt _ (by omega)) h6
  have hok:=Bo6 bits ch ht v (i %ch) i
  have hs:=Byf (bits:=bits) (ch:=ch) (t:=t) (v:=v) (i:=i) hc rfl
  have hx:=Bqv bits ch t v (i:=i) (by omega)
  have hcb:=Bt6 hb hok (cst bits ch t v (i %ch) i).1 (Api (v.getD i 0))
  have ih:=Bmb hb ht h1 h6 hv j (i+1) q (by omega) (by omega)
  rw[Amx (by omega),←Lg (by omega),hx]at ih
  rw[Hf,Jt,if_pos (by rw[Af,Ac];simp;omega),Bf8 (by omega),Aa,Bp (by rw[Aj];simp;omega),Aa,Aqu,Bzz hc,Aa,Aa,Bwx,Aa]
  refine Eq.trans (congrArg (fun o=>Option.bind o _) hcb) ?_
  rw[Aa]
  simp only
  rw[Ur,Afx,if_neg (by rw[Aj];simp),Aqu]
  refine Eq.trans (congrArg (fun o=>Option.bind o _) hs) ?_
  rw[Aa,Cq (by simp;omega),Aa,Ag (by omega) (by omega)]
  exact ih
theorem Bs5(hb:Cl bits)(ht:t.length=16)(h1:1≤ch)(h6:ch≤6)(hv:v.length≤4000):Ph (ch:Int) bits t v=Jw (ch:Int) bits (smp bits ch t v):=by
 have h:=Bmb hb ht h1 h6 hv v.length 0 Am (by omega) (by have:=Ak;omega)
 have e:Am=(Am-7)+1+1+1+1+1+1+1:=by have:=Ak;omega
 have hs:Mw v (ch:Int) bits t 0 (List.replicate 6 ((0:Int),(0:Int32),((0:Int),(List.replicate 16 (0:Int32)),(List.replicate 16 (0:Int32)),()),()))=Uu v (ch:Int) bits (cts bits ch t v 0):=by
  rw[Mw,e]
  obtain rfl|rfl|rfl:=hb<;>rfl
 rw[Ph,Wx,hs]
 exact h
theorem Bgq(bk:Int→List Int32→Option (List Int32))(hb:Cl bits)(ht:t.length=16)(h1:1≤ch)(h6:ch≤6)(hv:v.length≤4000)(z:List Int32)(c:Nat)(hc:c<ch):∀(j i q:Nat),i %ch=c→v.length-i≤j→i≤5000→j<q→
  Jc bk v (ch:Int) bits t (c:Int) q (i:Int) (sel (fun k=>decide (k %ch<c∨(k %ch=c∧k<i))) (smp bits ch t v) z) bits (cst bits ch t v c i).1 (sB bits) (cst bits ch t v c i).2.1 (cst bits ch t v c i).2.2=
   bk ((c+1:Nat):Int) (sel (fun k=>decide (k %ch<c+1)) (smp bits ch t v) z)
 |j,i,q+1,hi,hj,hi5,hq=>by
  have hlen:=Ate bits ch t v
  rw[Jc,Xn]
  by_cases h:i<v.length
  ·have hok:=Bo6 bits ch ht v c i
   have hst:=Bth hb hok (cst bits ch t v c i).1 (Api (v.getD i 0))
   have hx:=Bqv bits ch t v (i:=i) h
   rw[hi]at hx
   have ih:=Bgq bk hb ht h1 h6 hv z c hc (j-1) (i+ch) q (by rw[Nat.add_mod_right];exact hi) (by omega) (by omega) (by omega)
   have hstep:cst bits ch t v c (i+ch)=Brw bits (cst bits ch t v c i) (Api (v.getD i 0)):=Bw4 ch c i _ _ hi hc
   rw[hstep]at ih
   have hset:=Awt (p:=fun k=>decide (k %ch<c∨(k %ch=c∧k<i))) (a:=smp bits ch t v) (b:=z) (k:=i) (by omega)
   rw[hx]at hset
   have hcong:sel (fun j=>decide (j %ch<c∨(j %ch=c∧j<i))||decide (j=i)) (smp bits ch t v) z=sel (fun k=>decide (k %ch<c∨(k %ch=c∧k<i+ch))) (smp bits ch t v) z:=by
    apply Ya
    intro k _
    rw[Bool.eq_iff_iff]
    simp only[Bool.or_eq_true,decide_eq_true_eq]
    constructor
    ·rintro((h1|h1)|h1)
     ·exact .inl h1
     ·exact .inr ⟨h1.1,by omega⟩
     ·subst h1;exact .inr ⟨hi,by omega⟩
    ·rintro(h1|⟨h1,h2⟩)
     ·exact .inl (.inl h1)
     ·by_cases h3:k<i
      ·exact .inl (.inr ⟨h1,h3⟩)
      ·refine .inr ?_
       have h4:(i+(k-i)) %ch=i %ch:=by rw[show i+(k-i)=k by omega,h1,hi]
       have h5:=Nat.sub_mod_eq_zero_of_mod_eq h4
       rw[Nat.add_sub_cancel_left,Nat.mod_eq_of_lt (by omega)]at h5
       omega
   rw[hcong]at hset
   rw[if_pos (by rw[Af,Ac];simp;omega),Bf8 h,Aa,Caa,Aa]
   refine Eq.trans (congrArg (fun o=>Option.bind o _) hst) ?_
   rw[Aa]
   simp only
   rw[Xz,Xq,Akc (by omega),Aa]
   refine Eq.trans (congrArg (fun o=>Option.bind o _) hset) ?_
   rw[Aa,Yi,Xx,Ag (by omega) (by omega)]
   exact ih
  ·rw[if_neg (by rw[Af,Ac];simp;omega),Xs,Xt,Ag (by omega) (by omega)]
   have hcong:sel (fun k=>decide (k %ch<c∨(k %ch=c∧k<i))) (smp bits ch t v) z=sel (fun k=>decide (k %ch<c+1)) (smp bits ch t v) z:=by
    apply Ya
    intro k hk
    rw[Bool.eq_iff_iff]
    simp only[decide_eq_true_eq]
    omega
   rw[hcong];rfl
theorem Bhb(hb:Cl bits)(ht:t.length=16)(h1:1≤ch)(h6:ch≤6)(hv:v.length≤4000)(z:List Int32):∀(j c q:Nat),c+j=ch→j<q→
  Ek v (ch:Int) bits t q (c:Int) (sel (fun k=>decide (k %ch<c)) (smp bits ch t v) z)=Ns (ch:Int) bits (smp bits ch t v)
 |0,c,q+1,hc,_=>by
  rw[Ek,Nw,if_neg (by rw[Af];simp;omega),Awl (fun k hk=>by have:=Nat.mod_lt k (show 0<ch by omega);simp;omega)]
 |j+1,c,q+1,hc,hq=>by
  have ih:=Bhb hb ht h1 h6 hv z j (c+1) q (by omega) (by omega)
  have hin:=Bgq (Ek v (ch:Int) bits t q) hb ht h1 h6 hv z c (by omega) v.length c Am (Nat.mod_eq_of_lt (by omega)) (by omega) (by omega) (by have:=Ak;omega)
  have h0:cst bits ch t v c c=(0,t,List.replicate 16 0):=Bpw ch c _ _ c (Nat.le_refl _) (by omega)
  rw[h0]at hin
  have hcong:sel (fun k=>decide (k %ch<c∨(k %ch=c∧k<c))) (smp bits ch t v) z=sel (fun k=>decide (k %ch<c)) (smp bits ch t v) z:=by
   apply Ya
   intro k hk
   have:=Nat.mod_le k ch
   rw[Bool.eq_iff_iff]
   simp only[decide_eq_true_eq]
   omega
  rw[hcong]at hin
  rw[Ek,Nw,if_pos (by rw[Af];simp;omega),Ce3 hb,Aa]
  simp only
  rw[Xw]
  exact Eq.trans hin ih
theorem Bts(hb:Cl bits)(ht:t.length=16)(h1:1≤ch)(h6:ch≤6)(hv:v.length≤4000)(hm:v.length %ch=0):Mv (ch:Int) bits t v=some (unm ch (smp bits ch t v)):=by
 have hlen:=Ate bits ch t v
 have h:=Bhb hb ht h1 h6 hv (List.replicate v.length 0) ch 0 Am (by omega) (by have:=Ak;omega)
 rw[Ax5 (by rw[hlen];simp) (fun k _=>by simp)]at h
 rw[Mv,Yn,Ac,Azt (by omega) (by omega),Aa,Bp (by rw[Bc];simp),Aa,Yj]
 refine Eq.trans h ?_
 rw[Ns,Yd,Br5 ch _ h1 h6 (by rw[hlen];exact hm) (by omega),Aa]
end
def hB(bits:Int):Int:=if bits=8 then 128 else if bits=16 then 32768 else 8388608
theorem Bif{bits:Int}(h:Cl bits):Sn bits=some (Int32.ofInt (-(hB bits)),Int32.ofInt (hB bits-1),0):=by
 obtain rfl|rfl|rfl:=h<;>decide
theorem Axb{bits:Int}(h:Cl bits):Jd bits=some (hB bits):=by
 obtain rfl|rfl|rfl:=h<;>rfl
theorem Anf(bits:Int):0<hB bits∧hB bits≤8388608:=by
 unfold hB;split; · omega
 ·split<;>omega
theorem Bd4{bits:Int}(h:Cl bits)(l:List Int32)(hl:l.length≤4000):∀(j i q:Nat),i+j=l.length→j<q→
  Nc (Int32.ofInt (-(hB bits))) (Int32.ofInt (hB bits-1)) l q (i:Int)=Az l (hB bits) q (i:Int)
 |0,i,q+1,hi,_=>by
  rw[Nc,Ze,Az,Ci,if_neg (by rw[Af,Ac];simp;omega),if_neg (by rw[Af,Ac];simp;omega)];rfl
 |j+1,i,q+1,hi,hq=>by
  have hh:=Anf bits
  have ih:=Bd4 h l hl j (i+1) q (by omega) (by omega)
  have e1:(Int32.ofInt (-(hB bits))).toInt= -(hB bits):=by rw[Int32.toInt_ofInt,Int.bmod_eq_of_le (by show -(4294967296/2:Int)≤_;omega) (by show _<(4294967296+1)/2;omega)]
  have e2:(Int32.ofInt (hB bits-1)).toInt=hB bits-1:=by rw[Int32.toInt_ofInt,Int.bmod_eq_of_le (by show -(4294967296/2:Int)≤_;omega) (by show _<(4294967296+1)/2;omega)]
  rw[Nc,Ze,Az,Ci,if_pos (by rw[Af,Ac];simp;omega),if_pos (by rw[Af,Ac];simp;omega),g32 (by omega),Aa,Aa,Aa,Ds,Bj1,Br (by omega) (by omega),Ag (by omega) (by omega),Biy,Box,e1,e2,Af,Cz]
  generalize(l.getD i 0).toInt=X
  by_cases h1:X< -(hB bits)
  ·rw[if_pos (by simp;omega),if_pos (by simp;omega)]
  ·rw[if_neg (c:=decide (X<0-hB bits)=true) (by simp;omega)]
   by_cases h2:hB bits≤X
   ·rw[if_pos (by simp;omega),if_pos (by simp;omega)]
   ·rw[if_neg (by simp;omega),if_neg (by simp;omega)];exact ih
theorem Bdt{bits:Int}(h:Cl bits)(l:List Int32)(hl:l.length≤4000):Ti bits l=cadenzaref18_Check bits l:=by
 have hh:=Anf bits
 rw[Ti,Ai5,Bif h,Aa,cadenzaref18_Check,Ft,Axb h,Aa]
 simp only
 rw[if_neg (by rw[Aj];simp),if_neg (by rw[Ar,Ac];simp;omega),if_neg (by rw[Bc];simp;omega),if_neg (by rw[Ar,Ac];simp;omega)]
 exact Bd4 h l hl l.length 0 Am (by omega) (by have:=Ak;omega)
theorem Bpg{bits:Int}(h:Cl bits)(l:List Int32)(hl:l.length≤4000):∃e,cadenzaref18_Check bits l=some e:=by
 have hh:=Anf bits
 have key:∀(j i q:Nat),i+j=l.length→j<q→∃e,Az l (hB bits) q (i:Int)=some e:=by
  intro j
  induction j with
  |zero=>
   intro i q hi hq
   obtain⟨q,rfl⟩:∃k,q=k+1:=⟨q-1,by omega⟩
   rw[Az,Ci,if_neg (by rw[Af,Ac];simp;omega)]
   exact⟨_,rfl⟩
  |succ j ih=>
   intro i q hi hq
   obtain⟨q,rfl⟩:∃k,q=k+1:=⟨q-1,by omega⟩
   rw[Az,Ci,if_pos (by rw[Af,Ac];simp;omega),g32 (by omega),Aa,Aa,Ag (by omega) (by omega)]
   split
   ·exact⟨_,rfl⟩
   ·split
    ·exact⟨_,rfl⟩
    ·exact ih (i+1) q (by omega) (by omega)
 obtain⟨e,he⟩:=key l.length 0 Am (by omega) (by have:=Ak;omega)
 rw[cadenzaref18_Check,Ft,Axb h,Aa,if_neg (by rw[Bc];simp;omega),if_neg (by rw[Ar,Ac];simp;omega)]
 exact⟨e,he⟩
theorem Bi8{bits:Int}{ch:Nat}{t:List Int32}{v:List UInt32}(hb:Cl bits)(ht:t.length=16)(h1:1≤ch)(h6:ch≤6)(hv:v.length≤4000)(hm:v.length %ch=0):
  ∃l e,Mv (ch:Int) bits t v=some l∧Uj (ch:Int) bits l=some (if e≠0 then([],e)else(l,0))∧Ph (ch:Int) bits t v=some (if e≠0 then([],e)else(l,0))∧cadenzaref18_Check bits l=some e∧l.length=v.length:=by
 have hlen:=Ate bits ch t v
 have hul:=Ata ch (smp bits ch t v)
 obtain⟨e,he⟩:=Bpg hb (unm ch (smp bits ch t v)) (by omega)
 refine⟨unm ch (smp bits ch t v),e,Bts hb ht h1 h6 hv hm,?_,?_,he,by omega⟩
 ·rw[Uj,he,Aa]
  by_cases h:e=0
  ·rw[if_neg (by rw[Aj];simpa using h),if_neg (by simpa using h)]
  ·rw[if_pos (by rw[Aj];simpa using h),if_pos h]
 ·rw[Bs5 hb ht h1 h6 hv,Jw,Aga,Bzg ch _ h1 h6 (by rw[hlen];exact hm) (by omega),Aa]
  simp only
  rw[if_neg (by rw[Aj];simp),Bdt hb _ (by omega),he,Aa]
  by_cases h:e=0
  ·rw[if_neg (by rw[Aj];simpa using h),if_neg (by simpa using h)]
  ·rw[if_pos (by rw[Aj];simpa using h),if_pos h]
end Go.Pl
set_option linter.unusedVariables false
set_option linter.unusedSimpArgs false
namespace Go.Pl
open Go Go.Lv
def Arm(s:Nat):Nat:=(s/2)^^^ (if s %2=1 then 3988292384 else 0)
theorem Bep{s:Nat}(h:s<4294967296):Arm s<4294967296:=by
 unfold Arm
 exact Nat.xor_lt_two_pow (n:=32) (by simp;omega) (by split<;>decide)
theorem Bmf(x y:Nat):(x^^^y)/2=(x/2)^^^ (y/2):=by
 have:=Nat.shiftRight_xor_distrib (a:=x) (b:=y) (i:=1)
 simpa [Nat.shiftRight_eq_div_pow]using this
theorem Btj(x y:Nat):Arm (x^^^y)=Arm x^^^Arm y:=by
 have h:(x^^^y) %2=(x %2+y %2) %2:=by
  have:=Nat.xor_mod_two_eq_one (a:=x) (b:=y)
  have h1:(x^^^y) %2<2:=Nat.mod_lt _ (by omega)
  omega
 simp only[Arm,Bmf,h]
 have hx:x %2=0∨x %2=1:=by omega
 have hy:y %2=0∨y %2=1:=by omega
 rcases hx with hx|hx<;>rcases hy with hy|hy<;>simp only[hx,hy]<;>simp
 ·rw[Nat.xor_assoc]
 ·rw[Nat.xor_assoc,Nat.xor_comm (y/2),Nat.xor_assoc,Nat.xor_comm 3988292384 (y/2)]
 ·rw[Nat.xor_assoc,Nat.xor_comm 3988292384,Nat.xor_assoc,Nat.xor_self];simp
def Uc:Nat→Nat→Nat
 |0,s=>s
 |k+1,s=>Uc k (Arm s)
theorem Bg0:∀(k x y:Nat),Uc k (x^^^y)=Uc k x^^^Uc k y
 |0,_,_=>rfl
 |k+1,x,y=>by rw[Uc,Btj,Bg0 k];rfl
theorem Bgt:∀(k h:Nat),Uc k (2^k*h)=h
 |0,h=>by simp[Uc]
 |k+1,h=>by
  have:Arm (2^(k+1)*h)=2^k*h:=by
   rw[Nat.pow_succ,Nat.mul_comm (2^k) 2,Nat.mul_assoc,Arm,if_neg (by omega),Nat.mul_div_cancel_left _ (by omega)];simp
  rw[Uc,this,Bgt k]
theorem Bd9:∀(k:Nat) {s:Nat},s<4294967296→Uc k s<4294967296
 |0,_,h=>h
 |k+1,_,h=>Bd9 k (Bep h)
def Az7(s c:Nat):Nat:=Uc 8 (s^^^c)
theorem Bcz{s c:Nat}(h:s<4294967296)(hc:c<256):Az7 s c<4294967296:=Bd9 8 (Nat.xor_lt_two_pow (n:=32) (by simpa using h) (by simp;omega))
theorem Bme{s c:Nat}(hc:c<256):Az7 s c=(s/256)^^^Uc 8 ((s %256)^^^c):=by
 have h:s=(2^8*(s/256))^^^ (s %256):=by
  have h1:s %256<2^8:=by simpa using Nat.mod_lt s (by omega:256>0)
  have:=Nat.two_pow_add_eq_or_of_lt h1 (s/256)
  have h2:2^8*(s/256)|||s %256=(2^8*(s/256))^^^ (s %256):=by
   apply Nat.eq_of_testBit_eq;intro i
   rw[Nat.testBit_or,Nat.testBit_xor]
   by_cases hi:i<8
   ·have:(2^8*(s/256)).testBit i=false:=by rw[Nat.testBit_two_pow_mul];simp;omega
    rw[this];simp
   ·have:(s %256).testBit i=false:=Nat.testBit_lt_two_pow (Nat.lt_of_lt_of_le h1 (Nat.pow_le_pow_right (by omega) (by omega)))
    rw[this];simp
  omega
 rw[Az7]
 conv=>lhs;rw[h]
 rw[Nat.xor_assoc,Bg0,Bgt]
def Bse(s:Nat)(l:List UInt8):Nat:=l.foldl (fun s c=>Az7 s c.toNat) s
def Gy(b:List UInt8):UInt32:=4294967295-UInt32.ofNat (Bse 4294967295 b)
theorem Byb(s:UInt32)(c:Nat)(hc:c<256):Aa9 s (Ad (Yk (UInt8.ofNat c) (2:UInt8)):Int)=some (UInt32.ofNat (s.toNat/2^^^ (if(s.toNat^^^c) %2=1 then 3988292384 else 0))):=by
 have h1:(Ad (Yk (UInt8.ofNat c) (2:UInt8)):Int)=((c %2:Nat):Int):=by
  rw[Acx,Caf,UInt8.toNat_mod,UInt8.toNat_ofNat']
  show((c %256 %2:Nat):Int)=_
  omega
 have h2:geq (Yk s (2:UInt32)) (1:UInt32)=decide (s.toNat %2=1):=by
  rw[Bid,Bnf,Bool.eq_iff_iff]
  simp only[beq_iff_eq,decide_eq_true_eq]
  rw[←UInt32.toNat_inj,UInt32.toNat_mod];rfl
 have h3:Bf s (2:UInt32)=UInt32.ofNat (s.toNat/2):=by
  apply UInt32.toNat_inj.1
  rw[Bkl,UInt32.toNat_div,UInt32.toNat_ofNat']
  show s.toNat/2=_
  have:=s.toNat_lt
  omega
 have h4:To (Bf s (2:UInt32)) (3988292384:UInt32)=UInt32.ofNat (s.toNat/2^^^3988292384):=by
  apply UInt32.toNat_inj.1
  rw[h3,Aw6,UInt32.toNat_xor,UInt32.toNat_ofNat',UInt32.toNat_ofNat']
  have:=s.toNat_lt
  rw[Nat.mod_eq_of_lt (a:=s.toNat/2) (by omega),Nat.mod_eq_of_lt]
  ·rfl
  ·exact Nat.xor_lt_two_pow (n:=32) (by omega) (by decide)
 have hx:(s.toNat^^^c) %2=(s.toNat %2+c %2) %2:=by
  have:=Nat.xor_mod_two_eq_one (a:=s.toNat) (b:=c)
  have h1:(s.toNat^^^c) %2<2:=Nat.mod_lt _ (by omega)
  omega
 have hs:s.toNat %2=0∨s.toNat %2=1:=by omega
 have hc2:c %2=0∨c %2=1:=by omega
 rw[Aa9,Ae0,h1,h2,hx]
 rcases hs with hs|hs<;>rcases hc2 with hc2|hc2<;>simp[hs,hc2,Bc,Aes,Ad4,Aw6,h3]
theorem Az4:∀(j i q:Nat) (s:UInt32) (c:Nat),i+j=8→j<q→c<2^j→It q s (UInt8.ofNat c) (i:Int)=some (UInt32.ofNat (Uc j (s.toNat^^^c)))
 |0,i,q+1,s,c,hi,_,hc=>by
  obtain rfl:i=8:=by omega
  obtain rfl:c=0:=by simpa using hc
  rw[It,Sg,if_neg (by rw[Af];simp),Aeg,Aer,Uc]
  simp
 |j+1,i,q+1,s,c,hi,hq,hc=>by
  have hc8:c<256:=Nat.lt_of_lt_of_le hc (show 2^(j+1)≤2^8 from Nat.pow_le_pow_right (by omega) (by omega))
  rw[It,Sg,if_pos (by rw[Af];simp;omega),Byb s c hc8,Aa,Ag (by omega) (by omega)]
  have e:Bf (UInt8.ofNat c) (2:UInt8)=UInt8.ofNat (c/2):=by
   apply UInt8.toNat_inj.1
   rw[Bz4,UInt8.toNat_div,UInt8.toNat_ofNat',UInt8.toNat_ofNat']
   show c %256/2=_
   omega
  rw[e]
  have h:=Az4 j (i+1) q (UInt32.ofNat (s.toNat/2^^^ (if(s.toNat^^^c) %2=1 then 3988292384 else 0))) (c/2) (by omega) (by omega) (by rw[Nat.pow_succ]at hc;omega)
  rw[show((i:Int)+1)=((i+1:Nat):Int) by omega,h,UInt32.toNat_ofNat',Uc]
  congr 3
  have:=s.toNat_lt
  rw[Nat.mod_eq_of_lt,Arm,Bmf,Nat.xor_assoc,Nat.xor_assoc,Nat.xor_comm (c/2)]
  exact Nat.xor_lt_two_pow (n:=32) (by omega) (by split<;>decide)
theorem Bza(s:UInt32)(c:UInt8):Ake s c=some (UInt32.ofNat (Az7 s.toNat c.toNat)):=by
 have h:=Az4 8 0 Am s c.toNat (by omega) (by have:=Ak;omega) (by simpa using c.toNat_lt)
 rw[UInt8.ofNat_toNat]at h
 exact h
theorem Auf(b:List UInt8)(hb:b.length<4611686018427387904):∀(j i q:Nat) (s:UInt32),i+j=b.length→j<q→Gu b q s (i:Int)=some (UInt32.ofNat (Bse s.toNat (b.drop i)))
 |0,i,q+1,s,hi,_=>by
  rw[Gu,Oe,if_neg (by rw[Af,Ac];simp;omega),show i=b.length by omega,List.drop_length]
  simp[Ym,Aag,Bse]
 |j+1,i,q+1,s,hi,hq=>by
  have hlt:i<b.length:=by omega
  rw[Gu,Oe,if_pos (by rw[Af,Ac];simp;omega),Cf hlt,Aa,Bza,Aa,Ag (by omega) (by omega)]
  have h:=Auf b hb j (i+1) q (UInt32.ofNat (Az7 s.toNat b[i].toNat)) (by omega) (by omega)
  rw[show((i:Int)+1)=((i+1:Nat):Int) by omega,h,drop_cons hlt,UInt32.toNat_ofNat',Nat.mod_eq_of_lt (Bcz s.toNat_lt b[i].toNat_lt)]
  rfl
theorem Bxf(b:List UInt8)(hb:b.length<4611686018427387904):Pf b=some (Gy b):=by
 have h:=Auf b hb b.length 0 Am 4294967295 (by omega) (by have:=Ak;omega)
 rw[Pf,Af1,Aat,Zt,show((0:Int))=((0:Nat):Int)from rfl,h,Aa,Bnq];rfl
theorem Ca8(c:UInt32):To (Bn c (GI.toZ (1:UInt64)).toNat) (Ay (3988292384:UInt32) (Dg c (1:UInt32)))=UInt32.ofNat (Arm c.toNat):=by
 apply UInt32.toNat_inj.1
 have e:(GI.toZ (1:UInt64)).toNat=1:=rfl
 have h1:(Bn c 1).toNat=c.toNat/2:=by rw[Alx]
 have h2:(Ay (3988292384:UInt32) (Dg c (1:UInt32))).toNat=if c.toNat %2=1 then 3988292384 else 0:=by
  rw[Bvo,Ble,UInt32.toNat_mul,UInt32.toNat_and]
  show 3988292384*(c.toNat&&&1) %4294967296=_
  rw[Nat.and_one_is_mod]
  have:c.toNat %2=0∨c.toNat %2=1:=by omega
  rcases this with h|h<;>simp[h]
 rw[e,Aw6,UInt32.toNat_xor,h1,h2,UInt32.toNat_ofNat',Nat.mod_eq_of_lt (Bep c.toNat_lt)];rfl
theorem Bkz(bk16:Int→List UInt32→Option (UInt32×Int))(s:UInt32)(b:List UInt8)(x:Int)(t:List UInt32):∀(j i q:Nat) (c:UInt32),i+j=8→j<q→
  Nm bk16 s b x t q c (i:Int)=Aa8 bk16 s b x (UInt32.ofNat (Uc j c.toNat)) t
 |0,i,q+1,c,hi,_=>by
  obtain rfl:i=8:=by omega
  rw[Nm,Aap,if_neg (by rw[Af];simp),Uc,UInt32.ofNat_toNat]
 |j+1,i,q+1,c,hi,hq=>by
  rw[Nm,Aap,if_pos (by rw[Af];simp;omega),Ca8,Ag (by omega) (by omega),show((i:Int)+1)=((i+1:Nat):Int) by omega,Bkz bk16 s b x t j (i+1) q _ (by omega) (by omega),UInt32.toNat_ofNat',Nat.mod_eq_of_lt (Bep c.toNat_lt)];rfl
def tbl(n:Nat):List UInt32:=(List.range n).map fun i=>UInt32.ofNat (Uc 8 i)
theorem Bqe(s:UInt32)(b:List UInt8):∀(j i q:Nat),i+j=256→j<q→Kn s b q (i:Int) (tbl i++List.replicate j 0)=Yy s b (tbl 256)
 |0,i,q+1,hi,_=>by
  obtain rfl:i=256:=by omega
  rw[Kn,Zh,if_neg (by rw[Af];simp)];simp
 |j+1,i,q+1,hi,hq=>by
  have hlen:(tbl i++List.replicate (j+1) 0).length=i+(j+1):=by simp[tbl]
  rw[Kn,Zh,if_pos (by rw[Af];simp;omega),Ahc]
  have h:=Bkz (Kn s b q) s b (i:Int) (tbl i++List.replicate (j+1) 0) 8 0 Am (Ad (i:Int)) (by omega) (by have:=Ak;omega)
  rw[show((0:Int))=((0:Nat):Int)from rfl,h,Aa8,Aio,Cf (by rw[hlen];omega),Aa,Uo _ (by rw[hlen];omega),Aa,Aha,Aq8,Ag (by omega) (by omega)]
  have e:(Ad (i:Int):UInt32).toNat=i:=by rw[Bg9,UInt32.toNat_ofNat',Nat.mod_eq_of_lt (by omega)]
  rw[e,List.replicate_succ,Ati (by simp[tbl])]
  have h2:=Bqe s b j (i+1) q (by omega) (by omega)
  have h3:tbl (i+1)=tbl i++[UInt32.ofNat (Uc 8 i)]:=by simp[tbl,List.range_succ]
  rw[h3]at h2
  rw[show((i:Int)+1)=((i+1:Nat):Int) by omega,←h2]
  simp
theorem Byn{i:Nat}(h:i<256):getI (tbl 256) (i:Int)=some (UInt32.ofNat (Uc 8 i)):=by
 rw[Cf (by simpa [tbl]using h)];simp[tbl]
theorem Bvy(s:UInt32)(c:UInt8):getI (tbl 256) (GI.toZ (To (Ad s:UInt8) c))=some (UInt32.ofNat (Uc 8 ((s.toNat %256)^^^c.toNat))):=by
 have e:GI.toZ (To (Ad s:UInt8) c)=(((s.toNat %256)^^^c.toNat:Nat):Int):=by
  rw[Wm,Bpr,UInt8.toNat_xor,Av3,UInt8.toNat_ofNat']
 rw[e,Byn]
 exact Nat.xor_lt_two_pow (n:=8) (by simp;omega) (by simpa using c.toNat_lt)
theorem Bud(s:UInt32)(c:UInt8):To (Bn s (GI.toZ (8:UInt64)).toNat) (UInt32.ofNat (Uc 8 ((s.toNat %256)^^^c.toNat)))=UInt32.ofNat (Az7 s.toNat c.toNat):=by
 apply UInt32.toNat_inj.1
 have hlt:Uc 8 ((s.toNat %256)^^^c.toNat)<4294967296:=Bd9 8 (Nat.xor_lt_two_pow (n:=32) (by simp;omega) (by have:=c.toNat_lt;simp;omega))
 have e:(GI.toZ (8:UInt64)).toNat=8:=rfl
 rw[e,Aw6,UInt32.toNat_xor,Alx,UInt32.toNat_ofNat',UInt32.toNat_ofNat',Nat.mod_eq_of_lt hlt,Nat.mod_eq_of_lt (Bcz s.toNat_lt c.toNat_lt),Bme c.toNat_lt]
theorem Bmu(b:List UInt8)(hb:b.length<4611686018427387904):∀(j i q:Nat) (s:UInt32),i+j=b.length→j<q→Nn b (tbl 256) q s (i:Int)=some (UInt32.ofNat (Bse s.toNat (b.drop i)),0)
 |0,i,q+1,s,hi,_=>by
  rw[Nn,Aar,if_neg (by rw[Af,Ac];simp;omega),show i=b.length by omega,List.drop_length]
  simp[Ag7,Asd,Bse]
 |j+1,i,q+1,s,hi,hq=>by
  have hlt:i<b.length:=by omega
  rw[Nn,Aar,if_pos (by rw[Af,Ac];simp;omega),Cf hlt,Aa,Bvy,Aa,Aa,Bud,Ag (by omega) (by omega)]
  have h:=Bmu b hb j (i+1) q (UInt32.ofNat (Az7 s.toNat b[i].toNat)) (by omega) (by omega)
  rw[show((i:Int)+1)=((i+1:Nat):Int) by omega,h,drop_cons hlt,UInt32.toNat_ofNat',Nat.mod_eq_of_lt (Bcz s.toNat_lt b[i].toNat_lt)]
  rfl
theorem Bzk(s:UInt32)(b:List UInt8)(hb:b.length≤100000):Aoj s b=some (UInt32.ofNat (Bse s.toNat b),0):=by
 have h:=Bqe s b 256 0 Am (by omega) (by have:=Ak;omega)
 have h2:=Bmu b (by omega) b.length 0 Am s (by omega) (by have:=Ak;omega)
 rw[Aoj,Ald,if_neg (by rw[Ar,Ac];simp;omega),Ahz]
 refine Eq.trans h ?_
 rw[Yy,Ah3,Ah8,Aiw,Ahn]
 exact h2
theorem Bv7(a:UInt32):Bc0 a=4294967295-a:=by
 have h:=a.toNat_lt
 have e:Bc0 a=UInt32.ofNat (BitVec.ofInt 32 4294967295^^^BitVec.ofInt 32 (a.toNat:Int)).toNat:=Dy _
 apply UInt32.toNat_inj.1
 rw[e,UInt32.toNat_ofNat',UInt32.toNat_sub_of_le _ _ (by rw[UInt32.le_iff_toNat_le];show a.toNat≤4294967295;omega)]
 have h1:BitVec.ofInt 32 (a.toNat:Int)=a.toBitVec:=Bjz a
 have h2:(BitVec.ofInt 32 4294967295:BitVec 32)=BitVec.allOnes 32:=by decide
 rw[h1,h2,BitVec.allOnes_xor,BitVec.toNat_not]
 show(4294967296-1-a.toNat) %4294967296=4294967295-a.toNat
 omega
theorem Bod(b:List UInt8)(hb:b.length≤100000):Tv b=some (Gy b,0):=by
 rw[Tv,Bzk _ _ hb,Aa]
 simp only[Aj,Bv7]
 rfl
end Go.Pl
set_option linter.unusedVariables false
set_option linter.unusedSimpArgs false
namespace Go.Pl
open Go Go.Lv
theorem Brh:∀{l m:List UInt8},l.length=m.length→Ed l=Ed m→l=m
 |[],[],_,_=>rfl
 |x::l,y::m,h,e=>by
  simp only[Ed]at e
  have hx:=x.toNat_lt
  have hy:=y.toNat_lt
  have h1:x=y:=UInt8.toNat_inj.1 (by omega)
  rw[h1,Brh (l:=l) (m:=m) (by simpa using h) (by omega)]
theorem Bi7:∀(w n:Nat),Ed (leB n w)=n %256^w
 |0,n=>by simp[leB,Ed,Nat.mod_one]
 |w+1,n=>by
  rw[leB,Ed,Bi7 w (n/256),UInt8.toNat_ofNat',show(256:Nat)^(w+1)=256*256^w by rw[Nat.pow_succ,Nat.mul_comm],Nat.mod_mul]
def Yh(b:List UInt8):Int:=
 if b.length<5 then 24 else if 41254<b.length then 4 else if(Gy (b.take (b.length-4))).toNat≠Ed (b.drop (b.length-4))then 22 else 0
theorem Blp(b:List UInt8):Aa2 b=some (if Yh b≠0 then([],Yh b)else(b.take (b.length-4),0)):=by
 rw[Aa2]
 by_cases h1:b.length<5
 ·have hS:Yh b=24:=by rw[Yh,if_pos h1]
  rw[if_pos (by rw[Af,Ac];simp;omega),hS];rfl
 rw[if_neg (by rw[Af,Ac];simp;omega)]
 by_cases h2:41254<b.length
 ·have hS:Yh b=4:=by rw[Yh,if_neg h1,if_pos h2]
  rw[if_pos (by rw[Ar,Ac];simp;omega),hS];rfl
 have e4:Ah (Ac b) 4=((b.length-4:Nat):Int):=by rw[Ac,Bh (by omega) (by omega)];omega
 have hd:(b.drop (b.length-4)).length=4:=by simp;omega
 rw[if_neg (by rw[Ar,Ac];simp;omega),e4,Lf (by omega) (by omega),Aa,show((b.length-4:Nat):Int).toNat=b.length-4 from rfl,Bod _ (by simp;omega),Aa]
 simp only
 rw[if_neg (by rw[Aj];simp),Ty (by omega) (by omega),Aa,show((b.length-4:Nat):Int).toNat=b.length-4 from rfl,Bk2 _ (by omega) (by omega),Aa]
 have hne:Ba (leU (b.drop (b.length-4))) (Ad (Gy (b.take (b.length-4))):UInt64)=decide ((Gy (b.take (b.length-4))).toNat≠Ed (b.drop (b.length-4))):=by
  have hlt:=(Gy (b.take (b.length-4))).toNat_lt
  rw[Agn,Bool.eq_iff_iff]
  simp only[bne_iff_ne,ne_eq,←UInt64.toNat_inj,decide_eq_true_eq]
  rw[Ajl (by omega),Hh,UInt64.toNat_ofNat',Nat.mod_eq_of_lt (by omega)]
  exact⟨fun h e=>h e.symm,fun h e=>h e.symm⟩
 simp only
 rw[hne,Aa]
 by_cases h3:(Gy (b.take (b.length-4))).toNat≠Ed (b.drop (b.length-4))
 ·have hS:Yh b=22:=by rw[Yh,if_neg h1,if_neg h2,if_pos h3]
  rw[if_pos (by simp[h3]),hS];rfl
 ·have hS:Yh b=0:=by rw[Yh,if_neg h1,if_neg h2,if_neg h3]
  rw[if_neg (by rw[decide_eq_false h3];decide),hS];rfl
theorem Bsi(b:List UInt8)(hb:b.length≤1000000):Up b=some (b++leB (Gy b).toNat 4):=by
 have h:∀k:Nat,(Ad (Bn (Gy b) k):UInt8)=UInt8.ofNat ((Gy b).toNat/2^k):=by
  intro k;rw[Av3,Alx]
 have h0:(Ad (Gy b):UInt8)=UInt8.ofNat (Gy b).toNat:=Av3 _
 have h1:=h 8
 have h2:=h 16
 have h3:=h 24
 rw[Up,Bxf b (by omega),Aa,Cq (by simp;omega),Aa,Cq (by simp;omega),Aa,h0,show(GI.toZ (8:UInt64)).toNat=8 from rfl,show(GI.toZ (16:UInt64)).toNat=16 from rfl,show(GI.toZ (24:UInt64)).toNat=24 from rfl,h1,h2,h3]
 simp only[leB,Nat.div_div_eq_div_mul,List.nil_append]
theorem Bpk(b:List UInt8):My b=some (Yh b):=by
 rw[My]
 by_cases h1:b.length<5
 ·rw[if_pos (by rw[Af,Ac];simp;omega),Yh,if_pos h1]
 rw[if_neg (by rw[Af,Ac];simp;omega)]
 by_cases h2:41254<b.length
 ·rw[if_pos (by rw[Ar,Ac];simp;omega),Yh,if_neg h1,if_pos h2]
 have e4:Ah (Ac b) 4=((b.length-4:Nat):Int):=by rw[Ac,Bh (by omega) (by omega)];omega
 have hd:(b.drop (b.length-4)).length=4:=by simp;omega
 rw[if_neg (by rw[Ar,Ac];simp;omega),e4,Lf (by omega) (by omega),Aa,show((b.length-4:Nat):Int).toNat=b.length-4 from rfl,Bsi _ (by simp;omega),Aa]
 have hlt:=(Gy (b.take (b.length-4))).toNat_lt
 have hiff:(b.take (b.length-4)++leB (Gy (b.take (b.length-4))).toNat 4 !=b)=decide ((Gy (b.take (b.length-4))).toNat≠Ed (b.drop (b.length-4))):=by
  rw[Bool.eq_iff_iff]
  simp only[bne_iff_ne,ne_eq,decide_eq_true_eq]
  constructor
  ·intro h e
   apply h
   have:leB (Gy (b.take (b.length-4))).toNat 4=b.drop (b.length-4):=Brh (by rw[Mu,hd]) (by rw[Bi7,Nat.mod_eq_of_lt (by omega),e])
   rw[this,List.take_append_drop]
  ·intro h e
   apply h
   have hx:leB (Gy (b.take (b.length-4))).toNat 4=b.drop (b.length-4):=by
    have e2:b.take (b.length-4)++leB (Gy (b.take (b.length-4))).toNat 4=b.take (b.length-4)++b.drop (b.length-4):=by rw[e,List.take_append_drop]
    exact List.append_cancel_left e2
   rw[←hx,Bi7,Nat.mod_eq_of_lt (by omega)]
 rw[hiff]
 by_cases h3:(Gy (b.take (b.length-4))).toNat≠Ed (b.drop (b.length-4))
 ·rw[if_pos (by simp[h3]),Yh,if_neg h1,if_neg h2,if_pos h3]
 ·rw[if_neg (by rw[decide_eq_false h3];decide),Yh,if_neg h1,if_neg h2,if_neg h3]
theorem Bw8{b:List UInt8}(h:Yh b=0):5≤b.length∧b.length≤41254:=by
 unfold Yh at h
 split at h
 ·simp at h
 ·split at h
  ·simp at h
  ·omega
theorem Bjf{c:Nat}(h1:1≤c)(h6:c≤6):Bf (4000:Int) (c:Int)=((4000/c:Nat):Int):=by
 have:c=1∨c=2∨c=3∨c=4∨c=5∨c=6:=by omega
 rcases this with rfl|rfl|rfl|rfl|rfl|rfl<;>rfl
theorem Cae(p:List UInt8)(h:p.length≤41250):okB p (8*p.length):=⟨by omega,by omega,fun k h1 h2=>by omega⟩
theorem Baq{bits:Int}{ch n:Nat}{t:List Int32}(b:List UInt8)(hb:Cl bits)(ht:t.length=16)(h1:1≤ch)(h6:ch≤6)(n1:1≤n)(n2:n≤4000/ch):
  ∃l e,deframe_Decode (ch:Int) bits t (n:Int) b=some (l,e)∧cadenzaref21_Decode (ch:Int) bits t (n:Int) b=some (l,e)∧(e=0→cadenzaref18_Check bits l=some 0∧l.length≤4000∧l.length=n*ch)∧(e≠0→l=[]):=by
 have hn:n*ch≤4000:=by
  have:=Nat.mul_le_mul_right ch n2
  have h2:=Nat.div_mul_le_self 4000 ch
  omega
 have hq4:=Bjf h1 h6
 generalize 4000/ch=mm at*
 have hck:Ik (ch:Int) bits=some 0:=by
  have hr:∃x y,Sn bits=some (x,y,0):=⟨_,_,Bif hb⟩
  obtain⟨x,y,hr⟩:=hr
  rw[Ik,hr,Aa]
  simp only
  rw[if_neg (by simp[Aj,Af,Ar];omega)]
 have hh:=Anf bits
 have hasked:Gf (ch:Int) bits (n:Int)=some 0:=by
  rw[Gf,Ig,if_neg (by simp[Af,Ar];omega),Axb hb,Aa,if_neg (by rw[Bc];simp;omega),Aa,if_neg (by simp[Aj,Af];omega),Bp (by rw[Aj];simp;omega),Aa,hq4,if_neg (by rw[Ar];simp;omega)]
 rw[deframe_Decode,cadenzaref21_Decode,Za,hck,hasked,Aa,Aa,if_neg (by rw[Aj];simp),if_neg (by rw[Af];simp;omega),Bp (by rw[Aj];simp;omega),Aa,hq4,if_neg (by rw[Ar];simp;omega),if_neg (by rw[Aj];simp),Blp,Bpk]
 by_cases hs:Yh b≠0
 ·rw[if_pos hs]
  simp only[Aa]
  rw[if_pos (by rw[Aj];simpa using hs),if_pos (by rw[Aj];simpa using hs)]
  exact⟨[],Yh b,rfl,rfl,fun e=>absurd e hs,fun _=>rfl⟩
 have hs0:Yh b=0:=by simpa using hs
 have hlen:=Bw8 hs0
 have e4:Ah (Ac b) 4=((b.length-4:Nat):Int):=by rw[Ac,Bh (by omega) (by omega)];omega
 rw[if_neg hs,hs0]
 simp only[Aa]
 rw[if_neg (by rw[Aj];simp),if_neg (by rw[Aj];simp),e4,Lf (by omega) (by omega),Aa,show((b.length-4:Nat):Int).toNat=b.length-4 from rfl]
 have hpl:(b.take (b.length-4)).length=b.length-4:=by simp
 generalize b.take (b.length-4)=p at*
 have e8:Ay (8:Int) (Ac p)=((8*p.length:Nat):Int):=by rw[Ac,Fc (by omega) (by omega)];omega
 have hp:=Cae p (by omega)
 have hv:=values_eq hp h1 h6 hn
 have hr:=Ca2 (N:=8*p.length) (p:=p) rfl (by omega) h1 h6 hn
 have hat:=Bja (ch:=ch) (p:=p) (N:=8*p.length) (n*ch) 0 [] (by omega)
 rw[Bij,if_neg (by rw[Ar,Ac];simp;omega),Ez,Cq (by simp;omega),Aa,Aa,Aa,List.nil_append,e8]
 simp only
 rw[if_neg (by rw[Aj];simp),hv,hr,Aa,Aa]
 generalize Yl ch p (8*p.length) (n*ch) 0 []=V at*
 obtain⟨v,at',e⟩:=V
 simp only at*
 by_cases he:e≠0
 ·rw[if_pos he,if_pos he]
  simp only
  rw[if_pos (by rw[Aj];simpa using he),Oq,Ok,if_pos (by rw[Aj];simpa using he)]
  exact⟨[],e,rfl,rfl,fun h=>absurd h he,fun _=>rfl⟩
 have he0:e=0:=by simpa using he
 have hvl:=hat.2.2 he0
 simp only[List.length_nil,Nat.zero_add]at hvl
 rw[if_neg he,if_neg he]
 simp only
 rw[if_neg (by rw[Aj];simp),Bh (by omega) (by omega),show((8*p.length:Nat):Int)-(at':Int)=((8*p.length-at':Nat):Int) by omega,Oq,Ok]
 by_cases h7:7<8*p.length-at'
 ·have hE:(if 7<8*p.length-at'∨Bu p at' (8*p.length-at')≠0 then(12:Int)else 0)=12:=if_pos (.inl h7)
  rw[if_pos (by rw[Cz];simp;omega),hE,if_pos (by decide)]
  exact⟨[],12,rfl,rfl,fun h=>absurd h (by decide),fun _=>rfl⟩
 rw[if_neg (by rw[Cz];simp;omega),Ayg hp at' _ (by omega),if_neg (by omega),Aa]
 have hz:Ba (Tf p at' (8*p.length-at')) (0:UInt64)=decide (Bu p at' (8*p.length-at')≠0):=by
  rw[Agn,Bool.eq_iff_iff]
  simp only[bne_iff_ne,ne_eq,←UInt64.toNat_inj,decide_eq_true_eq]
  rw[Zg p _ _ (by omega)];rfl
 simp only
 rw[hz]
 by_cases hv0:Bu p at' (8*p.length-at')≠0
 ·have hE:(if 7<8*p.length-at'∨Bu p at' (8*p.length-at')≠0 then(12:Int)else 0)=12:=if_pos (.inr hv0)
  rw[if_pos (by simp[hv0]),hE,if_pos (by decide)]
  exact⟨[],12,rfl,rfl,fun h=>absurd h (by decide),fun _=>rfl⟩
 have hm:v.length %ch=0:=by rw[hvl];exact Nat.mul_mod_left n ch
 obtain⟨l,e,g1,g2,g3,g4,g5⟩:=Bi8 (v:=v) hb ht h1 h6 (by omega) hm
 have hE:(if 7<8*p.length-at'∨Bu p at' (8*p.length-at')≠0 then(12:Int)else 0)=0:=if_neg (by omega)
 rw[if_neg (by rw[decide_eq_false hv0];decide),hE,if_neg (by decide),g1,g3,Aa,Aa,g2]
 by_cases hl:e≠0
 ·rw[if_pos hl]
  exact⟨[],e,rfl,rfl,fun h=>absurd h hl,fun _=>rfl⟩
 ·rw[if_neg hl]
  have hl0:e=0:=by simpa using hl
  exact⟨l,0,rfl,rfl,fun _=>⟨by rw[g4,hl0],by omega,by omega⟩,fun e=>absurd rfl e⟩
end Go.Pl
set_option linter.unusedVariables false
set_option linter.unusedSimpArgs false
namespace Go.Pl
open Go Go.Lv
def P64:Nat:=4823603603198064275
def Afn(s:Nat):Nat:=(2*s %18446744073709551616)^^^ (s/9223372036854775808*P64)
theorem Al2{s:Nat}(h:s<18446744073709551616):Afn s<18446744073709551616:=by
 have h1:s/9223372036854775808=0∨s/9223372036854775808=1:=by omega
 exact Nat.xor_lt_two_pow (n:=64) (Nat.mod_lt _ (by decide)) (by rcases h1 with e|e<;>rw[e]<;>decide)
theorem Brb(x y:Nat):(x^^^y)/9223372036854775808=(x/9223372036854775808)^^^ (y/9223372036854775808):=by
 have:=Nat.shiftRight_xor_distrib (a:=x) (b:=y) (i:=63)
 simpa [Nat.shiftRight_eq_div_pow]using this
theorem Bqf(x y:Nat):2*(x^^^y) %18446744073709551616=(2*x %18446744073709551616)^^^ (2*y %18446744073709551616):=by
 have h1:=Nat.shiftLeft_xor_distrib (a:=x) (b:=y) (i:=1)
 have h2:=Nat.xor_mod_two_pow (a:=2*x) (b:=2*y) (n:=64)
 have e:2*(x^^^y)=(2*x)^^^ (2*y):=by simpa [Nat.shiftLeft_eq,Nat.mul_comm]using h1
 rw[e];exact h2
theorem Byx{a b:Nat}(ha:a=0∨a=1)(hb:b=0∨b=1)(p:Nat):(a^^^b)*p=(a*p)^^^ (b*p):=by
 rcases ha with rfl|rfl<;>rcases hb with rfl|rfl<;>simp
theorem Cfb(a b c d:Nat):(a^^^b)^^^ (c^^^d)=(a^^^c)^^^ (b^^^d):=by
 rw[Nat.xor_assoc,Nat.xor_assoc,←Nat.xor_assoc b c d,Nat.xor_comm b c,Nat.xor_assoc c b d]
theorem Bo4{x y:Nat}(hx:x<18446744073709551616)(hy:y<18446744073709551616):Afn (x^^^y)=Afn x^^^Afn y:=by
 rw[Afn,Afn,Afn,Bqf,Brb,Byx (by omega) (by omega),Cfb]
def Lm:Nat→Nat→Nat
 |0,s=>s
 |k+1,s=>Lm k (Afn s)
theorem Azb:∀(k:Nat) {s:Nat},s<18446744073709551616→Lm k s<18446744073709551616
 |0,_,h=>h
 |k+1,_,h=>Azb k (Al2 h)
theorem Bca:∀(k:Nat) {x y:Nat},x<18446744073709551616→y<18446744073709551616→Lm k (x^^^y)=Lm k x^^^Lm k y
 |0,_,_,_,_=>rfl
 |k+1,x,y,hx,hy=>by rw[Lm,Bo4 hx hy,Bca k (Al2 hx) (Al2 hy)];rfl
theorem Bek:∀(k h:Nat),2^k*h<18446744073709551616→Lm k h=2^k*h
 |0,h,_=>by simp[Lm]
 |k+1,h,hl=>by
  have hpos:0<2^k:=Nat.pow_pos (by omega)
  rw[Nat.pow_succ,Nat.mul_assoc]at hl
  have h2:2*h<18446744073709551616:=Nat.lt_of_le_of_lt (Nat.le_mul_of_pos_left _ hpos) hl
  have:Afn h=2*h:=by rw[Afn,Nat.mod_eq_of_lt h2,show h/9223372036854775808=0 by omega];simp
  rw[Lm,this,Bek k _ hl,Nat.pow_succ,Nat.mul_assoc]
def Arx(s c:Nat):Nat:=Lm 8 (s^^^ (c*72057594037927936))
theorem c56{c:Nat}(hc:c<256):c*72057594037927936<18446744073709551616:=by omega
theorem Azj{s c:Nat}(h:s<18446744073709551616)(hc:c<256):Arx s c<18446744073709551616:=Azb 8 (Nat.xor_lt_two_pow (n:=64) h (c56 hc))
theorem Bya(s:Nat):s=(s/72057594037927936*72057594037927936)^^^ (s %72057594037927936):=by
 have h1:s %72057594037927936<2^56:=Nat.mod_lt _ (by decide)
 have:=Nat.two_pow_add_eq_or_of_lt h1 (s/72057594037927936)
 have h2:2^56*(s/72057594037927936)|||s %72057594037927936=(2^56*(s/72057594037927936))^^^ (s %72057594037927936):=by
  apply Nat.eq_of_testBit_eq;intro i
  rw[Nat.testBit_or,Nat.testBit_xor]
  by_cases hi:i<56
  ·have:(2^56*(s/72057594037927936)).testBit i=false:=by rw[Nat.testBit_two_pow_mul];simp;omega
   rw[this];simp
  ·have:(s %72057594037927936).testBit i=false:=Nat.testBit_lt_two_pow (Nat.lt_of_lt_of_le h1 (Nat.pow_le_pow_right (by omega) (by omega)))
   rw[this];simp
 rw[Nat.mul_comm (s/72057594037927936)]
 show s=(2^56*(s/72057594037927936))^^^ _
 rw[←h2,←this]
 have:=Nat.div_add_mod s 72057594037927936
 show s=72057594037927936*_+_
 omega
theorem Btr(a c:Nat):(a^^^c)*72057594037927936=(a*72057594037927936)^^^ (c*72057594037927936):=by
 have h1:=Nat.shiftLeft_xor_distrib (a:=a) (b:=c) (i:=56)
 simpa [Nat.shiftLeft_eq]using h1
theorem Bj2{s c:Nat}(h:s<18446744073709551616)(hc:c<256):Arx s c=(256*s %18446744073709551616)^^^Lm 8 (((s/72057594037927936)^^^c)*72057594037927936):=by
 have hs:s/72057594037927936<2^8:=by show _<256;omega
 have hx:(s/72057594037927936)^^^c<256:=Nat.xor_lt_two_pow (n:=8) hs (by simpa using hc)
 have hl:s %72057594037927936<72057594037927936:=Nat.mod_lt _ (by decide)
 rw[Arx]
 conv=>lhs;rw[Bya s]
 rw[Nat.xor_comm (s/72057594037927936*72057594037927936),Nat.xor_assoc,←Btr,Bca 8 (by omega) (c56 hx),Bek 8 _ (by show 256*_<_;omega)]
 congr 1
 show 256*(s %72057594037927936)=_
 omega
def Bb7(s:Nat)(l:List UInt8):Nat:=l.foldl (fun s c=>Arx s c.toNat) s
theorem Bgg{n:Nat}(h:n<18446744073709551616):(UInt64.ofNat n).toNat=n:=by rw[UInt64.toNat_ofNat'];exact Nat.mod_eq_of_lt h
theorem Cb6(s:UInt64)(bit:Nat)(hb:bit=0∨bit=1):Zu s (bit:Int)=some (UInt64.ofNat ((2*s.toNat %18446744073709551616)^^^ (((s.toNat/9223372036854775808)^^^bit)*P64))):=by
 have hs:=s.toNat_lt
 have ht:s.toNat/9223372036854775808=0∨s.toNat/9223372036854775808=1:=by omega
 have e1:(Ay s (2:UInt64)).toNat=2*s.toNat %18446744073709551616:=by
  rw[Aeo,UInt64.toNat_mul];show s.toNat*2 %_=_;rw[Nat.mul_comm]
 have hlt:2*s.toNat %18446744073709551616<18446744073709551616:=Nat.mod_lt _ (by decide)
 have ey:To (Ay s (2:UInt64)) (4823603603198064275:UInt64)=UInt64.ofNat ((2*s.toNat %18446744073709551616)^^^P64):=by
  apply UInt64.toNat_inj.1
  rw[Bft,UInt64.toNat_xor,e1,Bgg (Nat.xor_lt_two_pow (n:=64) hlt (by decide))];rfl
 have en:Ay s (2:UInt64)=UInt64.ofNat (2*s.toNat %18446744073709551616):=by
  apply UInt64.toNat_inj.1
  rw[e1,Bgg hlt]
 have eg:Kl s (9223372036854775808:UInt64)=decide (s.toNat/9223372036854775808=1):=by
  rw[Cah,decide_eq_decide]
  show 9223372036854775808≤s.toNat↔_
  omega
 have hp:∀b:Bool,Sp s b=some (if b=true then UInt64.ofNat ((2*s.toNat %18446744073709551616)^^^P64)else UInt64.ofNat (2*s.toNat %18446744073709551616)):=by
  intro b
  rw[Sp,Aey,ey,en];cases b<;>rfl
 rw[Zu,Aew,hp,hp,eg]
 rcases hb with rfl|rfl<;>rcases ht with h|h<;>rw[h]<;>simp[Bc]
theorem Bas(c:UInt8):∀(j q:Nat) (s:UInt64),j≤8→j<q→Iy c q s ((2^j/2:Nat):Int)=some (UInt64.ofNat (Lm j (s.toNat^^^ (c.toNat %2^j*2^(64-j)))))
 |0,q+1,s,_,_=>by
  rw[Iy,Td,if_neg (by rw[Ar];simp),Ad0,Ady]
  simp[Lm,Nat.mod_one]
 |j+1,q+1,s,hj,hq=>by
  have hc:=c.toNat_lt
  have hs:=s.toNat_lt
  have hj2:2^j≤2^7:=Nat.pow_le_pow_right (by omega) (by omega)
  have hpos:0<2^j:=Nat.pow_pos (by omega)
  have e1:2^(j+1)/2=2^j:=by rw[Nat.pow_succ];omega
  have e2:Bf ((2^j:Nat):Int) 2=((2^j/2:Nat):Int):=by
   generalize 2^j=K at*
   rw[Ae9,Int.tdiv_eq_ediv_of_nonneg (by omega),Br (by omega) (by omega)];omega
  have e3:Ey (Bf (Ad c:Int) ((2^j:Nat):Int)) (2:Int)=((c.toNat/2^j %2:Nat):Int):=by
   have hX:=Nat.div_le_self c.toNat (2^j)
   rw[Acx,Ae9,←Int.ofNat_tdiv]
   generalize c.toNat/2^j=X at*
   rw[Br (by omega) (by omega),Ey,Int.tmod_eq_emod_of_nonneg (by omega)];omega
  have hbit:c.toNat/2^j %2=0∨c.toNat/2^j %2=1:=by omega
  rw[Iy,Td,e1,if_pos (by rw[Ar,decide_eq_true_eq];omega),Bp (by rw[Aj,bne_iff_ne];omega),Aa,e3,Cb6 s _ hbit,Aa,e2,Bas c j q _ (by omega) (by omega)]
  congr 2
  rw[Lm]
  congr 1
  have hx:c.toNat %2^(j+1)*2^(64-(j+1))=(c.toNat/2^j %2)*9223372036854775808+c.toNat %2^j*2^(63-j):=by
   have h63:(9223372036854775808:Nat)=2^j*2^(63-j):=by rw[←Nat.pow_add,show j+(63-j)=63 by omega]
   rw[Nat.mod_pow_succ,h63,show 64-(j+1)=63-j by omega,Nat.add_mul,Nat.add_comm,Nat.mul_assoc,Nat.mul_left_comm]
  have hr:c.toNat %2^j<2^j:=Nat.mod_lt _ hpos
  have hb63:c.toNat %2^j*2^(63-j)<9223372036854775808:=by
   have h63:(9223372036854775808:Nat)=2^j*2^(63-j):=by rw[←Nat.pow_add,show j+(63-j)=63 by omega]
   rw[h63];exact Nat.mul_lt_mul_of_pos_right hr (Nat.pow_pos (by omega))
  have h64:c.toNat %2^j*2^(64-j)=2*(c.toNat %2^j*2^(63-j)):=by
   rw[show 64-j=(63-j)+1 by omega,Nat.pow_succ,←Nat.mul_assoc,Nat.mul_comm]
  rw[hx,h64]
  generalize c.toNat %2^j*2^(63-j)=R at*
  generalize c.toNat/2^j %2=b at*
  have ht:s.toNat/9223372036854775808=0∨s.toNat/9223372036854775808=1:=by omega
  have hp:((s.toNat/9223372036854775808^^^b)*P64)<18446744073709551616:=by
   rcases ht with h|h<;>rcases hbit with h2|h2<;>rw[h,h2]<;>decide
  rw[Bgg (Nat.xor_lt_two_pow (n:=64) (Nat.mod_lt _ (by decide)) hp),Afn,Bqf,Brb,show(b*9223372036854775808+R)/9223372036854775808=b by omega,show 2*(b*9223372036854775808+R) %18446744073709551616=2*R by omega,Nat.xor_assoc,Nat.xor_assoc,Nat.xor_comm (2*R)]
theorem Cc1(c:UInt8)(s:UInt64):Ajx s c=some (UInt64.ofNat (Arx s.toNat c.toNat)):=by
 have h:=Bas c 8 Am s (Nat.le_refl _) (by have:=Ak;omega)
 have hc:=c.toNat_lt
 rw[Nat.mod_eq_of_lt (show c.toNat<2^8 by simpa using hc)]at h
 exact h
theorem Au4(b:List UInt8)(hb:b.length<4611686018427387904):∀(j i q:Nat) (s:UInt64),i+j=b.length→j<q→Gx b q s (i:Int)=some (UInt64.ofNat (Bb7 s.toNat (b.drop i)))
 |0,i,q+1,s,hi,_=>by
  rw[Gx,Oa,if_neg (by rw[Af,Ac];simp;omega),show i=b.length by omega,List.drop_length]
  simp[Aa1,Zj,Bb7]
 |j+1,i,q+1,s,hi,hq=>by
  have hlt:i<b.length:=by omega
  have hc:=b[i].toNat_lt
  rw[Gx,Oa,if_pos (by rw[Af,Ac];simp;omega),Cf hlt,Aa,Cc1,Aa,Ag (by omega) (by omega)]
  have h:=Au4 b hb j (i+1) q (UInt64.ofNat (Arx s.toNat b[i].toNat)) (by omega) (by omega)
  rw[show((i:Int)+1)=((i+1:Nat):Int) by omega,h,drop_cons hlt,Bgg (Azj s.toNat_lt (by simpa using hc))]
  rfl
def Aim(b:List UInt8):UInt64:=UInt64.ofNat (Bb7 0 b)
theorem Bm5(b:List UInt8)(hb:b.length≤100000):Ul 0 b=some (Aim b):=
 Au4 b (by omega) b.length 0 Am 0 (by omega) (by have:=Ak;omega)
theorem Bpo(c:UInt64):To (Cn c (GI.toZ (1:UInt64)).toNat) (Ay (4823603603198064275:UInt64) (Bn c (GI.toZ (63:UInt64)).toNat))=UInt64.ofNat (Afn c.toNat):=by
 have hc:=c.toNat_lt
 apply UInt64.toNat_inj.1
 have h1:(Cn c (GI.toZ (1:UInt64)).toNat).toNat=2*c.toNat %18446744073709551616:=by
  rw[show(GI.toZ (1:UInt64)).toNat=1 from rfl,Aly,Nat.mul_comm]
 have h2:(Ay (4823603603198064275:UInt64) (Bn c (GI.toZ (63:UInt64)).toNat)).toNat=c.toNat/9223372036854775808*P64:=by
  rw[show(GI.toZ (63:UInt64)).toNat=63 from rfl,Aeo,UInt64.toNat_mul,Aeu]
  show 4823603603198064275*(c.toNat/9223372036854775808) %18446744073709551616=_
  have h1:c.toNat/9223372036854775808=0∨c.toNat/9223372036854775808=1:=by omega
  rcases h1 with e|e<;>rw[e]<;>decide
 rw[Bft,UInt64.toNat_xor,h1,h2,Bgg (Al2 hc)];rfl
theorem Bav(bk16:Int→List UInt64→Option (UInt64×Int))(s:UInt64)(b:List UInt8)(x:Int)(t:List UInt64):∀(j i q:Nat) (c:UInt64),i+j=8→j<q→
  Ni bk16 s b x t q c (i:Int)=Zk bk16 s b x (UInt64.ofNat (Lm j c.toNat)) t
 |0,i,q+1,c,hi,_=>by
  obtain rfl:i=8:=by omega
  rw[Ni,Zv,if_neg (by rw[Af];simp),Lm,UInt64.ofNat_toNat]
 |j+1,i,q+1,c,hi,hq=>by
  rw[Ni,Zv,if_pos (by rw[Af];simp;omega),Bpo,Ag (by omega) (by omega),show((i:Int)+1)=((i+1:Nat):Int) by omega,Bav bk16 s b x t j (i+1) q _ (by omega) (by omega),Bgg (Al2 c.toNat_lt)];rfl
def Ajn(n:Nat):List UInt64:=(List.range n).map fun i=>UInt64.ofNat (Lm 8 (i*72057594037927936))
theorem Bfx(s:UInt64)(b:List UInt8):∀(j i q:Nat),i+j=256→j<q→Ko s b q (i:Int) (Ajn i++List.replicate j 0)=Zy s b (Ajn 256)
 |0,i,q+1,hi,_=>by
  obtain rfl:i=256:=by omega
  rw[Ko,Yz,if_neg (by rw[Af];simp)];simp
 |j+1,i,q+1,hi,hq=>by
  have hlen:(Ajn i++List.replicate (j+1) 0).length=i+(j+1):=by simp[Ajn]
  rw[Ko,Yz,if_pos (by rw[Af];simp;omega),Ag9]
  have h:=Bav (Ko s b q) s b (i:Int) (Ajn i++List.replicate (j+1) 0) 8 0 Am (Cn (Ad (i:Int):UInt64) (GI.toZ (56:UInt64)).toNat) (by omega) (by have:=Ak;omega)
  rw[show((0:Int))=((0:Nat):Int)from rfl,h,Zk,Ahv,Cf (by rw[hlen];omega),Aa,Uo _ (by rw[hlen];omega),Aa,Ahw,Arb,Ag (by omega) (by omega)]
  have e:(Cn (Ad (i:Int):UInt64) (GI.toZ (56:UInt64)).toNat).toNat=i*72057594037927936:=by
   rw[Aly,Ye,Bgg (by omega)]
   show i*72057594037927936 %18446744073709551616=_
   omega
  rw[e,List.replicate_succ,Ati (by simp[Ajn])]
  have h2:=Bfx s b j (i+1) q (by omega) (by omega)
  have h3:Ajn (i+1)=Ajn i++[UInt64.ofNat (Lm 8 (i*72057594037927936))]:=by simp[Ajn,List.range_succ]
  rw[h3]at h2
  rw[show((i:Int)+1)=((i+1:Nat):Int) by omega,←h2]
  simp
theorem Bsd{i:Nat}(h:i<256):getI (Ajn 256) (i:Int)=some (UInt64.ofNat (Lm 8 (i*72057594037927936))):=by
 rw[Cf (by simpa [Ajn]using h)];simp[Ajn]
theorem Bm2(s:UInt64)(c:UInt8):getI (Ajn 256) (GI.toZ (To (Ad (Bn s (GI.toZ (56:UInt64)).toNat):UInt8) c))=some (UInt64.ofNat (Lm 8 (((s.toNat/72057594037927936)^^^c.toNat)*72057594037927936))):=by
 have hs:=s.toNat_lt
 have e:GI.toZ (To (Ad (Bn s (GI.toZ (56:UInt64)).toNat):UInt8) c)=(((s.toNat/72057594037927936)^^^c.toNat:Nat):Int):=by
  have e2:((Ad (Bn s (GI.toZ (56:UInt64)).toNat):UInt8)).toNat=s.toNat/72057594037927936:=by
   rw[Aoq,UInt8.toNat_ofNat',Aeu]
   show s.toNat/72057594037927936 %256=_
   omega
  rw[Wm,Bpr,UInt8.toNat_xor,e2]
 rw[e,Bsd]
 exact Nat.xor_lt_two_pow (n:=8) (by show _<256;omega) (by simpa using c.toNat_lt)
theorem Bjs(s:UInt64)(c:UInt8):To (Cn s (GI.toZ (8:UInt64)).toNat) (UInt64.ofNat (Lm 8 (((s.toNat/72057594037927936)^^^c.toNat)*72057594037927936)))=UInt64.ofNat (Arx s.toNat c.toNat):=by
 have hs:=s.toNat_lt
 have hc:c.toNat<256:=by simpa using c.toNat_lt
 apply UInt64.toNat_inj.1
 have hlt:Lm 8 (((s.toNat/72057594037927936)^^^c.toNat)*72057594037927936)<18446744073709551616:=Azb 8 (c56 (Nat.xor_lt_two_pow (n:=8) (by show _<256;omega) (by simpa using c.toNat_lt)))
 have e:(GI.toZ (8:UInt64)).toNat=8:=rfl
 rw[e,Bft,UInt64.toNat_xor,Aly,Bgg hlt,Bgg (Azj hs hc),Bj2 hs hc,Nat.mul_comm s.toNat]
theorem Baw(b:List UInt8)(s0:UInt64)(hb:b.length<4611686018427387904):∀(j i q:Nat) (s:UInt64),i+j=b.length→j<q→Nv b s0 (Ajn 256) q s (i:Int)=some (UInt64.ofNat (Bb7 s.toNat (b.drop i)),0)
 |0,i,q+1,s,hi,_=>by
  rw[Nv,Zp,if_neg (by rw[Af,Ac];simp;omega),show i=b.length by omega,List.drop_length]
  simp[Ah5,Ahm,Ahd,Aq5,Bb7]
 |j+1,i,q+1,s,hi,hq=>by
  have hlt:i<b.length:=by omega
  have hc:=b[i].toNat_lt
  rw[Nv,Zp,if_pos (by rw[Af,Ac];simp;omega),Cf hlt,Aa,Bm2,Aa,Aa,Bjs,Ag (by omega) (by omega)]
  have h:=Baw b s0 hb j (i+1) q (UInt64.ofNat (Arx s.toNat b[i].toNat)) (by omega) (by omega)
  rw[show((i:Int)+1)=((i+1:Nat):Int) by omega,h,drop_cons hlt,Bgg (Azj s.toNat_lt (by simpa using hc))]
  rfl
theorem Bms(b:List UInt8)(hb:b.length≤100000):Alp b=some (Aim b,0):=by
 have h:=Bfx 0 b 256 0 Am (by omega) (by have:=Ak;omega)
 have h2:=Baw b 0 (by omega) b.length 0 Am 0 (by omega) (by have:=Ak;omega)
 have hn:Aoo 0 b=some (Aim b,0):=by
  rw[Aoo,Ak1,if_neg (by rw[Ar,Ac];simp;omega),Ais]
  refine Eq.trans h ?_
  rw[Zy,Ahf,Aja]
  exact h2
 rw[Alp,hn,Aa]
theorem Br8(p:List UInt8)(hp:p.length≤64):Aa6 p=some (leB (Aim p).toNat 8,0):=by
 rw[Aa6,Aza,if_neg (by rw[Ar,Ac];simp;omega),Bms p (by omega),Aa,Aa]
 simp only
 have h:=Bkj (Aim p) 8 (by omega) (by omega) (by simpa using(Aim p).toNat_lt)
 rw[if_neg (by rw[Aj];simp)]
 exact congrArg (fun o=>Option.bind o fun x:List UInt8×Int=>some (x.1,x.2)) h
theorem Br6(p:List UInt8)(hp:p.length≤64):Sd p=some (leB (Aim p).toNat 8):=by
 have h:=Bb9 (Aim p) 8 (by omega)
 rw[Sd,Akg,Bm5 p (by omega),Aa,Aa]
 exact congrArg (fun o=>Option.bind o fun l=>some l) h
def s8(n:Nat):Int32:=Int32.ofInt (if n<128 then(n:Int)else(n:Int)-256)
def Aki(d:UInt64)(n:Nat):List Int32:=(List.range n).map fun i=>s8 (d.toNat/256^i %256)
theorem Ams(d:UInt64)(n:Nat):(Aki d n).length=n:=by simp[Aki]
theorem Bex(d:UInt64)(n:Nat):Aki d (n+1)=Aki d n++[s8 (d.toNat/256^n %256)]:=by simp[Aki,List.range_succ]
theorem bm8(z:Nat):(z:Int).bmod Int8.size=if z %256<128 then((z %256:Nat):Int)else((z %256:Nat):Int)-256:=by
 rw[show Int8.size=256 from rfl,Int.bmod_def]
 split<;>split<;>omega
theorem Bri(d:UInt64):∀(j i q:Nat),i+j=8→j<q→Ace d q (i:Int) (Aki d i++List.replicate (16-i) 0)=some (Aki d 8++List.replicate 8 0)
 |0,i,q+1,hi,_=>by
  obtain rfl:i=8:=by omega
  rw[Ace,Am9,if_neg (by rw[Af];simp)];rfl
 |j+1,i,q+1,hi,hq=>by
  have hlen:(Aki d i++List.replicate (16-i) 0).length=16:=by simp[Ams];omega
  have ih:=Bri d j (i+1) q (by omega) (by omega)
  have e8:Ay (8:Int) (i:Int)=((8*i:Nat):Int):=by rw[Fc (by omega) (by omega)];omega
  have ev:(Ad (Ad (Bn d (GI.toZ (((8*i:Nat):Int))).toNat):Int8):Int32)=s8 (d.toNat/256^i %256):=by
   have e1:(Bn d (GI.toZ (((8*i:Nat):Int))).toNat).toNat=d.toNat/256^i:=by
    rw[show(GI.toZ (((8*i:Nat):Int))).toNat=8*i from rfl,Aeu,Nat.pow_mul]
   show Int32.ofInt (Int8.ofInt ((Bn d (GI.toZ (((8*i:Nat):Int))).toNat).toNat:Int)).toInt=_
   rw[e1,s8,Int8.toInt_ofInt,bm8]
  rw[Ace,Am9,if_pos (by rw[Af];simp;omega),e8,Bp (by rw[Cz];simp;omega),Aa,ev,Cf (by omega),Aa,Uo _ (by omega),Aa,Ag (by omega) (by omega),show 16-i=(15-i)+1 by omega,List.replicate_succ,Ati (Ams d i)]
  rw[Bex,show 16-(i+1)=15-i by omega,List.append_assoc]at ih
  exact ih
theorem Bu2(d:UInt64):∀(j i q:Nat) (e:UInt64),i+j=8→j<q→e.toNat=d.toNat/256^i→Ij q e (i:Int) (Aki d i++List.replicate (16-i) 0)=some (Aki d 8++List.replicate 8 0)
 |0,i,q+1,e,hi,_,he=>by
  obtain rfl:i=8:=by omega
  rw[Ij,Wt,if_neg (by rw[Af];simp)];rfl
 |j+1,i,q+1,e,hi,hq,he=>by
  have hlen:(Aki d i++List.replicate (16-i) 0).length=16:=by simp[Ams];omega
  have hq2:(Bf e (256:UInt64)).toNat=d.toNat/256^(i+1):=by
   rw[Axn,UInt64.toNat_div,he,Nat.pow_succ,←Nat.div_div_eq_div_mul];rfl
  have ih:=Bu2 d j (i+1) q (Bf e (256:UInt64)) (by omega) (by omega) hq2
  have ev:(Ad (Yk e (256:UInt64)):Int32)=Int32.ofInt ((d.toNat/256^i %256:Nat):Int):=by
   show Int32.ofInt ((Yk e (256:UInt64)).toNat:Int)=_
   rw[Bnp,UInt64.toNat_mod,he];rfl
  have hz:d.toNat/256^i %256<256:=Nat.mod_lt _ (by omega)
  have et:(Int32.ofInt ((d.toNat/256^i %256:Nat):Int)).toInt=((d.toNat/256^i %256:Nat):Int):=by
   rw[Int32.toInt_ofInt,Int.bmod_eq_of_le (by show -(4294967296/2:Int)≤_;omega) (by show _<(4294967296+1)/2;omega)]
  have hp8:∀x:Int32,x=s8 (d.toNat/256^i %256)→Wu (Ij q) e (i:Int) (Aki d i++List.replicate (16-i) 0) x=some (Aki d 8++List.replicate 8 0):=by
   intro x hx
   rw[Wu,Aie,hx,Cf (by omega),Aa,Uo _ (by omega),Aa,Ag (by omega) (by omega),show 16-i=(15-i)+1 by omega,List.replicate_succ,Ati (Ams d i)]
   rw[Bex,show 16-(i+1)=15-i by omega,List.append_assoc]at ih
   exact ih
  rw[Ij,Wt,if_pos (by rw[Af];simp;omega),ev,Box,et,show(127:Int32).toInt=127 from rfl]
  by_cases h:d.toNat/256^i %256<128
  ·rw[if_neg (by simp only[decide_eq_true_eq];omega)]
   exact hp8 _ (by rw[s8,if_pos h])
  ·rw[if_pos (by simp only[decide_eq_true_eq];omega)]
   refine hp8 _ ?_
   rw[s8,if_neg h,Be4,Int32.ofInt_sub];rfl
def tapsOf(p:List UInt8):List Int32:=Aki (Aim p) 8++List.replicate 8 0
theorem Bfh(p:List UInt8):(tapsOf p).length=16:=by simp[tapsOf,Ams]
theorem Bt9(p:List UInt8)(hp:p.length≤64):Xu p=some (tapsOf p,0):=by
 have h:=Bri (Aim p) 8 0 Am (by omega) (by have:=Ak;omega)
 have h2:Biz (Aim p)=some (tapsOf p):=h
 rw[Xu,if_neg (by rw[Ar,Ac];simp;omega),Bms p (by omega),Aa]
 simp only
 rw[if_neg (by rw[Aj];simp),h2,Aa]
theorem Bmi(p:List UInt8)(hp:p.length≤64):Zd p=some (tapsOf p,0):=by
 have h:=Bu2 (Aim p) 8 0 Am (Aim p) (by omega) (by have:=Ak;omega) (by simp)
 have h2:Apb (Aim p)=some (tapsOf p):=h
 rw[Zd,if_neg (by rw[Ar,Ac];simp;omega),Alz,Ajo,if_neg (by rw[Ar,Ac];simp;omega),Bm5 p (by omega),Aa,Aa,Aa]
 simp only
 rw[h2,Aa]
end Go.Pl
set_option linter.unusedVariables false
set_option linter.unusedSimpArgs false
namespace Go.Pl
open Go Go.Lv
def u8(z:Int):UInt8:=UInt8.ofNat (z %256).toNat
theorem Bj9(z:Int):u8 (z %256)=u8 z:=by rw[u8,u8];congr 2;omega
def wB(bits:Int):Nat:=if bits=8 then 1 else if bits=16 then 2 else 3
theorem Ayw{bits:Int}(h:Cl bits):Bf bits 8=(wB bits:Int):=by obtain rfl|rfl|rfl:=h<;>rfl
theorem Bbb(bits:Int):1≤wB bits∧wB bits≤3:=by
 unfold wB;split; · omega
 ·split<;>omega
def Ac0(bits:Int)(x:Int):List UInt8:=if bits=8 then [u8 (x+128)]else if bits=16 then [u8 x,u8 (x/256)]else [u8 x,u8 (x/256),u8 (x/65536)]
theorem Bmr(bits x:Int):(Ac0 bits x).length≤3:=by
 unfold Ac0;split; · simp
 ·split<;>simp
theorem Bvp(x:Int32)(k:Nat)(hk:k≤32):(Ad (Bn x k):UInt8)=u8 (x.toInt.fdiv (2^k)):=by
 have h:=Yo x
 have e:Bn x k=Int32.ofInt (x.toInt.fdiv (2^k)):=by
  show Int32.ofInt (x.toInt.fdiv (2^min k 32))=_
  rw[Nat.min_eq_left hk]
 have hb: -2147483648≤x.toInt.fdiv (2^k)∧x.toInt.fdiv (2^k)<2147483648:=by
  have hpos:(0:Int)<2^k:=Int.pow_pos (by omega)
  rw[Int.fdiv_eq_ediv_of_nonneg _ (by omega)]
  constructor
  ·refine(Int.le_ediv_iff_mul_le hpos).2 ?_
   have:(1:Int)≤2^k:=by omega
   have h2: -2147483648*(2^k:Int)≤ -2147483648*1:=Int.mul_le_mul_of_nonpos_left (by omega) this
   omega
  ·refine Int.ediv_lt_of_lt_mul hpos ?_
   have:(1:Int)≤2^k:=by omega
   have h2:(2147483648:Int)*1≤2147483648*2^k:=Int.mul_le_mul_of_nonneg_left this (by omega)
   omega
 show UInt8.ofNat ((Bn x k).toInt %256).toNat=_
 rw[e,Int32.toInt_ofInt,Int.bmod_eq_of_le (by show -(4294967296/2:Int)≤_;omega) (by show _<(4294967296+1)/2;omega)];rfl
section
variable (bk:Int→List UInt8→Option (List UInt8×Int)) (l:List Int32)
theorem Bb1{bits:Int}(h:Cl bits)(c:Int32)(x:Int)(i q:Nat)(acc:List UInt8)(hi:i<wB bits)(ha:acc.length≤100000):
  Hi bk bits l c x (q+1) (i:Int) acc=Hi bk bits l c x q ((i+1:Nat):Int) (acc++[u8 (c.toInt.fdiv (2^(8*i)))]):=by
 have hw:=Bbb bits
 have e8:Ay (8:Int) (i:Int)=((8*i:Nat):Int):=by rw[Fc (by omega) (by omega)];omega
 rw[Hi,Wd,Ayw h,if_pos (by rw[Af];simp;omega),e8,Bp (by rw[Cz];simp;omega),Aa,show(GI.toZ (((8*i:Nat):Int))).toNat=8*i from rfl,Bvp _ _ (by omega),Cq (by simp;omega),Aa,Ag (by omega) (by omega)];rfl
theorem Bpi{bits:Int}(h:Cl bits)(c:Int32)(x:Int)(q:Nat)(acc:List UInt8):Hi bk bits l c x (q+1) ((wB bits:Nat):Int) acc=bk (Ae x 1) acc:=by
 rw[Hi,Wd,Ayw h,if_neg (by rw[Af];simp),Afv,Ao8]
theorem Ccl{bits:Int}(h:Cl bits)(c:Int32)(x:Int)(acc:List UInt8)(ha:acc.length≤90000)(hr: -(hB bits)≤c.toInt∧c.toInt<hB bits):
  Jp bk bits l x acc (if bits=8 then Ae c (128:Int32)else c)=bk (Ae x 1) (acc++Ac0 bits c.toInt):=by
 have e:Am=(Am-4)+1+1+1+1:=by have:=Ak;omega
 have hc:=Yo c
 rw[Jp,Afh,Afi,e]
 have g0:=fun(c:Int32) q acc ha=>Bb1 bk l h c x 0 q acc (by have:=Bbb bits;omega) ha
 obtain rfl|rfl|rfl:=h
 ·have hh:hB 8=128:=rfl
  rw[hh]at hr
  have e1:(Ae c (128:Int32)).toInt=c.toInt+128:=by
   show(Int32.ofInt (c.toInt+(128:Int32).toInt)).toInt=_
   rw[show(128:Int32).toInt=128 from rfl,Int32.toInt_ofInt,Int.bmod_eq_of_le (by show -(4294967296/2:Int)≤_;omega) (by show _<(4294967296+1)/2;omega)]
  have g1:=Bpi bk l (bits:=8) (.inl rfl) (Ae c (128:Int32)) x (Am-4+1+1)
  rw[if_pos rfl,show(0:Int)=((0:Nat):Int)from rfl,g0 _ _ _ (by omega)]
  refine Eq.trans (g1 _) ?_
  rw[e1,Ac0,if_pos rfl]
  show bk _ (acc++[u8 ((c.toInt+128).fdiv 1)])=_
  rw[Int.fdiv_one]
 ·have g1:=fun q acc ha=>Bb1 bk l (bits:=16) (.inr (.inl rfl)) c x 1 q acc (by decide) ha
  have g2:=Bpi bk l (bits:=16) (.inr (.inl rfl)) c x (Am-4+1)
  rw[if_neg (by decide),show(0:Int)=((0:Nat):Int)from rfl,g0 _ _ _ (by omega),g1 _ _ (by simp;omega)]
  refine Eq.trans (g2 _) ?_
  rw[Ac0,if_neg (by decide),if_pos rfl,List.append_assoc]
  show bk _ (acc++[u8 (c.toInt.fdiv 1),u8 (c.toInt.fdiv 256)])=_
  rw[Int.fdiv_one,Int.fdiv_eq_ediv_of_nonneg _ (by omega)]
 ·have g1:=fun q acc ha=>Bb1 bk l (bits:=24) (.inr (.inr rfl)) c x 1 q acc (by decide) ha
  have g2:=fun q acc ha=>Bb1 bk l (bits:=24) (.inr (.inr rfl)) c x 2 q acc (by decide) ha
  have g3:=Bpi bk l (bits:=24) (.inr (.inr rfl)) c x (Am-4)
  rw[if_neg (by decide),show(0:Int)=((0:Nat):Int)from rfl,g0 _ _ _ (by omega),g1 _ _ (by simp;omega),g2 _ _ (by simp;omega)]
  refine Eq.trans (g3 _) ?_
  rw[Ac0,if_neg (by decide),if_neg (by decide),List.append_assoc,List.append_assoc]
  show bk _ (acc++[u8 (c.toInt.fdiv 1),u8 (c.toInt.fdiv 256),u8 (c.toInt.fdiv 65536)])=_
  rw[Int.fdiv_one,Int.fdiv_eq_ediv_of_nonneg _ (by omega),Int.fdiv_eq_ediv_of_nonneg _ (by omega)]
end
def bytesB(bits:Int)(l:List Int32):List UInt8:=l.flatMap fun x=>Ac0 bits x.toInt
theorem An5(bits:Int):∀l:List Int32,(bytesB bits l).length≤3*l.length
 |[]=>by simp[bytesB]
 |x::l=>by
  have h1:=An5 bits l
  have h2:=Bmr bits x.toInt
  simp only[bytesB,List.flatMap_cons,List.length_append,List.length_cons]at*
  omega
def inR(bits:Int)(l:List Int32):Prop:=∀x∈l, -(hB bits)≤x.toInt∧x.toInt<hB bits
theorem Br3{bits:Int}(h:Cl bits)(l:List Int32)(hl:l.length≤4000)(hr:inR bits l):∀(j i q:Nat),i+j=l.length→j<q→Ew bits l q (i:Int) (bytesB bits (l.take i))=some (bytesB bits l,0)
 |0,i,q+1,hi,_=>by
  rw[Ew,Wb,if_neg (by rw[Af,Ac];simp;omega),List.take_of_length_le (by omega)];rfl
 |j+1,i,q+1,hi,hq=>by
  have hlt:i<l.length:=by omega
  have ih:=Br3 h l hl hr j (i+1) q (by omega) (by omega)
  have hlen:=An5 bits (l.take i)
  have hx:=hr l[i] (List.getElem_mem _)
  have h1:=Ccl (Ew bits l q) l h l[i] (i:Int) (bytesB bits (l.take i)) (by rw[List.length_take]at hlen;omega) hx
  rw[Ew,Wb,if_pos (by rw[Af,Ac];simp;omega),Cf hlt,Aa]
  have e:(if(geq bits (8:Int))=true then Jp (Ew bits l q) bits l (i:Int) (bytesB bits (l.take i)) (Ae l[i] (128:Int32))else Jp (Ew bits l q) bits l (i:Int) (bytesB bits (l.take i)) l[i])=Jp (Ew bits l q) bits l (i:Int) (bytesB bits (l.take i)) (if bits=8 then Ae l[i] (128:Int32)else l[i]):=by
   by_cases h8:bits=8
   ·rw[if_pos (by rw[Bc];simpa using h8),if_pos h8]
   ·rw[if_neg (by rw[Bc];simpa using h8),if_neg h8]
  rw[e,h1,Ag (by omega) (by omega)]
  rw[Amx hlt]at ih
  have e2:bytesB bits (l.take i++[l[i]])=bytesB bits (l.take i)++Ac0 bits l[i].toInt:=by unfold bytesB;rw[List.flatMap_append,List.flatMap_singleton]
  rw[e2]at ih
  exact ih
theorem As8{bits:Int}(h:Cl bits){l:List Int32}(hl:l.length≤4000)(hc:cadenzaref18_Check bits l=some 0):inR bits l:=by
 have hh:=Anf bits
 have key:∀(j i q:Nat),i+j=l.length→j<q→Az l (hB bits) q (i:Int)=some 0→∀k,i≤k→(hk:k<l.length)→ -(hB bits)≤l[k].toInt∧l[k].toInt<hB bits:=by
  intro j
  induction j with
  |zero=>intro i q hi hq _ k h1 h2;omega
  |succ j ih=>
   intro i q hi hq hs k h1 h2
   obtain⟨q,rfl⟩:∃k,q=k+1:=⟨q-1,by omega⟩
   rw[Az,Ci,if_pos (by rw[Af,Ac];simp;omega),Cf (by omega),Aa,Aa,Ds,Bj1,Br (by omega) (by omega),Ag (by omega) (by omega),Af,Cz]at hs
   by_cases g1:l[i].toInt<0-hB bits
   ·rw[if_pos (by simpa using g1)]at hs;simp at hs
   ·rw[if_neg (by simpa using g1)]at hs
    by_cases g2:hB bits≤l[i].toInt
    ·rw[if_pos (by simpa using g2)]at hs;simp at hs
    ·rw[if_neg (by simpa using g2)]at hs
     by_cases hk:k=i
     ·subst hk;omega
     ·exact ih (i+1) q (by omega) (by omega) hs k (by omega) h2
 rw[cadenzaref18_Check,Ft,Axb h,Aa,if_neg (by rw[Bc];simp;omega),if_neg (by rw[Ar,Ac];simp;omega)]at hc
 have:=key l.length 0 Am (by omega) (by have:=Ak;omega) hc
 intro x hx
 obtain⟨k,hk,rfl⟩:=List.getElem_of_mem hx
 exact this k (by omega) hk
theorem Bet{bits:Int}(h:Cl bits){l:List Int32}(hl:l.length≤4000)(hc:cadenzaref18_Check bits l=some 0):width_Bytes bits l=some (bytesB bits l,0):=by
 have h1:=Br3 h l hl (As8 h hl hc) l.length 0 Am (by omega) (by have:=Ak;omega)
 rw[width_Bytes,Ahb,Bdt h l hl,hc,Aa,if_neg (by rw[Aj];simp)]
 exact h1
theorem Byk{bits:Int}(h:Cl bits)(x:Int32)(hr: -(hB bits)≤x.toInt∧x.toInt<hB bits):Ach bits x=some (Ac0 bits x.toInt):=by
 have hx:=Yo x
 have gu:∀z:Int,(Ad z:UInt8)=u8 z:=fun z=>rfl
 have hq:∀n:Int,0≤n→n≤20000000→Bf n (256:Int)=n/256∧Bf n (65536:Int)=n/65536:=by
  intro n h1 h2
  constructor<;>(rw[Ae9,Int.tdiv_eq_ediv_of_nonneg h1,Br (by omega) (by omega)])
 have hm:∀n:Int,0≤n→Ey n (256:Int)=n %256:=fun n h1=>by rw[Ey,Int.tmod_eq_emod_of_nonneg h1]
 rw[Ach,Af3,Ds]
 obtain rfl|rfl|rfl:=h
 ·rw[if_pos (by rw[Bc];rfl),Ag (by omega) (by omega),gu,Ac0,if_pos rfl]
 ·have hh:hB 16=32768:=rfl
  rw[hh]at hr
  have hp:∀n:Int,0≤n→n≤70000→u8 n=u8 x.toInt→u8 (n/256)=u8 (x.toInt/256)→Js 16 n=some (Ac0 16 x.toInt):=by
   intro n h1 h2 h3 h4
   rw[Js,Ug,if_neg (by rw[Bc];decide),hm n h1,(hq n h1 (by omega)).1,hm _ (by omega),gu,gu,Bj9,Bj9,h3,h4,Ac0,if_neg (by decide),if_pos rfl]
  rw[if_neg (by rw[Bc];decide)]
  by_cases hn:x.toInt<0
  ·rw[if_pos (by rw[Af];simpa using hn),Axb (.inr (.inl rfl)),Aa,hh,Fc (by omega) (by omega),Ag (by omega) (by omega)]
   refine hp _ (by omega) (by omega) ?_ ?_
   ·rw[u8,u8];congr 2;omega
   ·rw[u8,u8];congr 2;omega
  ·rw[if_neg (by rw[Af];simpa using hn)]
   exact hp _ (by omega) (by omega) rfl rfl
 ·have hh:hB 24=8388608:=rfl
  rw[hh]at hr
  have hp:∀n:Int,0≤n→n≤16777215→u8 n=u8 x.toInt→u8 (n/256)=u8 (x.toInt/256)→u8 (n/65536)=u8 (x.toInt/65536)→Js 24 n=some (Ac0 24 x.toInt):=by
   intro n h1 h2 h3 h4 h5
   rw[Js,Ug,if_pos (by rw[Bc];rfl),hm n h1,(hq n h1 (by omega)).1,(hq n h1 (by omega)).2,hm _ (by omega),gu,gu,gu,Bj9,Bj9,h3,h4,h5,Cq (by simp),Aa,Ac0,if_neg (by decide),if_neg (by decide)];rfl
  rw[if_neg (by rw[Bc];decide)]
  by_cases hn:x.toInt<0
  ·rw[if_pos (by rw[Af];simpa using hn),Axb (.inr (.inr rfl)),Aa,hh,Fc (by omega) (by omega),Ag (by omega) (by omega)]
   refine hp _ (by omega) (by omega) ?_ ?_ ?_
   ·rw[u8,u8];congr 2;omega
   ·rw[u8,u8];congr 2;omega
   ·rw[u8,u8];congr 2;omega
  ·rw[if_neg (by rw[Af];simpa using hn)]
   exact hp _ (by omega) (by omega) rfl rfl rfl
theorem Bqh{bits:Int}(h:Cl bits)(l:List Int32)(hl:l.length≤4000)(hr:inR bits l):∀(j i q:Nat),i+j=l.length→j<q→Hq bits l q (i:Int) (bytesB bits (l.take i))=some (bytesB bits l,0)
 |0,i,q+1,hi,_=>by
  rw[Hq,Qi,if_neg (by rw[Af,Ac];simp;omega),List.take_of_length_le (by omega)];rfl
 |j+1,i,q+1,hi,hq=>by
  have hlt:i<l.length:=by omega
  have ih:=Bqh h l hl hr j (i+1) q (by omega) (by omega)
  have hlen:=An5 bits (l.take i)
  have hol:=Bmr bits l[i].toInt
  rw[List.length_take]at hlen
  have e2:bytesB bits (l.take i++[l[i]])=bytesB bits (l.take i)++Ac0 bits l[i].toInt:=by unfold bytesB;rw[List.flatMap_append,List.flatMap_singleton]
  rw[Amx hlt,e2]at ih
  rw[Hq,Qi,if_pos (by rw[Af,Ac];simp;omega),Cf hlt,Aa,Byk h _ (hr l[i] (List.getElem_mem _)),Aa,Cq (by omega),Aa,Ag (by omega) (by omega)]
  exact ih
theorem Bhg{bits:Int}(h:Cl bits){l:List Int32}(hl:l.length≤4000)(hc:cadenzaref18_Check bits l=some 0):Wy bits l=some (bytesB bits l,0):=by
 have h1:=Bqh h l hl (As8 h hl hc) l.length 0 Am (by omega) (by have:=Ak;omega)
 rw[Wy,Ab3,hc,Aa,if_neg (by rw[Aj];simp)]
 exact h1
end Go.Pl
set_option linter.unusedVariables false
set_option linter.unusedSimpArgs false
namespace Go.Pl
open Go Go.Lv
def Ame:List UInt8→Nat→Int×Int
 |[],n=>((n:Int),0)
 |c::r,n=>if 128≤c.toNat then(0,12)else Ame r (128*n+c.toNat)
theorem Br0:∀(l:List UInt8) (n k:Nat),n<128^k→0≤(Ame l n).1∧(Ame l n).1<((128^(k+l.length):Nat):Int)
 |[],n,k,h=>by simp[Ame];exact_mod_cast h
 |c::r,n,k,h=>by
  rw[Ame]
  split
  ·have:0<128^(k+(c::r).length):=Nat.pow_pos (by omega)
   exact⟨Int.le_refl _,by simp only;exact_mod_cast this⟩
  ·have:=Br0 r (128*n+c.toNat) (k+1) (by rw[Nat.pow_succ];omega)
   rw[List.length_cons,show k+(r.length+1)=k+1+r.length by omega]
   exact this
theorem or7(n c:Nat)(hn:n<268435456)(hc:c<128):gor (Cn (n:Int) (GI.toZ (7:UInt64)).toNat) (c:Int)=((128*n+c:Nat):Int):=by
 have e:(GI.toZ (7:UInt64)).toNat=7:=rfl
 have h1:Cn (n:Int) 7=((2^7*n:Nat):Int):=by
  have:Cn (n:Int) 7=wrap64 ((n:Int)*2^7):=rfl
  rw[this,Br (by omega) (by omega)];omega
 rw[e,h1]
 have h2:gor ((2^7*n:Nat):Int) (c:Int)=wrap64 ((BitVec.ofInt 64 ((2^7*n:Nat):Int)|||BitVec.ofInt 64 (c:Int)).toNat:Int):=rfl
 rw[h2,BitVec.toNat_or,BitVec.toNat_ofInt,BitVec.toNat_ofInt]
 have h3:(((2^7*n:Nat):Int) %((2^64:Nat):Int)).toNat=2^7*n:=by omega
 have h4:((c:Int) %((2^64:Nat):Int)).toNat=c:=by omega
 rw[h3,h4,←Nat.two_pow_add_eq_or_of_lt (by simpa using hc),Br (by omega) (by omega)]
theorem Bqt(b:List UInt8)(hb:b.length=4):∀(j i q n:Nat),i+j=4→j<q→n<128^i→Kj b q (n:Int) (i:Int)=some (Ame (b.drop i) n)
 |0,i,q+1,n,hi,_,_=>by
  rw[Kj,Tw,if_neg (by rw[Af,Ac];simp;omega),show b.drop i=[] by simp;omega];rfl
 |j+1,i,q+1,n,hi,hq,hn=>by
  have hlt:i<b.length:=by omega
  have hn2:n<268435456:=Nat.lt_of_lt_of_le hn (show 128^i≤128^4 from Nat.pow_le_pow_right (by omega) (by omega))
  rw[Kj,Tw,if_pos (by rw[Af,Ac];simp;omega),Cf hlt,Aa,drop_cons hlt,Ame,Bwg]
  by_cases hc:128≤b[i].toNat
  ·rw[if_pos (by simp;omega),if_pos hc]
  ·rw[if_neg (by simp;omega),if_neg hc,Acx,or7 n _ hn2 (by omega),Ag (by omega) (by omega)]
   exact Bqt b hb j (i+1) q _ (by omega) (by omega) (by rw[Nat.pow_succ];omega)
theorem Bxs(b:List UInt8)(hb:b.length=4):∀(j i q n:Nat),i+j=4→j<q→n<128^i→Hp b q (n:Int) (i:Int)=some (Ame (b.drop i) n)
 |0,i,q+1,n,hi,_,_=>by
  rw[Hp,Qn,if_neg (by rw[Af];simp;omega),show b.drop i=[] by simp;omega];rfl
 |j+1,i,q+1,n,hi,hq,hn=>by
  have hlt:i<b.length:=by omega
  have hn2:n<268435456:=Nat.lt_of_lt_of_le hn (show 128^i≤128^4 from Nat.pow_le_pow_right (by omega) (by omega))
  rw[Hp,Qn,if_pos (by rw[Af];simp;omega),Cf hlt,Aa,drop_cons hlt,Ame,Bw1]
  have h128:(128:UInt8).toNat=128:=rfl
  by_cases hc:128≤b[i].toNat
  ·rw[if_pos (by simpa using hc),if_pos hc]
  ·have h3:=b[i].toNat_lt
   rw[if_neg (by simpa using hc),if_neg hc,Aa,Acx,Fc (by omega) (by omega),Ag (by omega) (by omega),Ag (by omega) (by omega)]
   have:=Bxs b hb j (i+1) q (128*n+b[i].toNat) (by omega) (by omega) (by rw[Nat.pow_succ];omega)
   rw[←this];rfl
theorem Bow(b:List UInt8)(hb:b.length=4):Adn b=some (Ame b 0):=by
 have h:=Bqt b hb 4 0 Am 0 (by omega) (by have:=Ak;omega) (by simp)
 rw[Adn,Acq,if_neg (by rw[Aj,Ac];simp;omega),Acf];exact h
theorem Bt5(b:List UInt8)(hb:b.length=4):Wi b=some (Ame b 0):=by
 have h:=Bxs b hb 4 0 Am 0 (by omega) (by have:=Ak;omega) (by simp)
 rw[Wi,Abs,if_neg (by rw[Aj,Ac];simp;omega),Ab4];exact h
theorem Bn8{b:List UInt8}(hb:b.length=4):0≤(Ame b 0).1∧(Ame b 0).1<268435456:=by
 have:=Br0 b 0 0 (by simp)
 rw[hb]at this
 simpa using this
theorem An0(s p:List UInt8):Jk s p=some (decide (p.length≤s.length∧s.take p.length=p)):=by
 rw[Jk]
 by_cases h:p.length≤s.length
 ·rw[if_pos (by rw[Cz,Ac,Ac];simp;omega),show Ac p=(p.length:Int)from rfl,Lf (by omega) (by omega),Aa,Hj,Aa,Int.toNat_natCast]
  congr 1
  rw[Bool.eq_iff_iff];simp[h]
 ·rw[if_neg (by rw[Cz,Ac,Ac];simp;omega)]
  simp[h]
def Aui(b:List UInt8)(n:Int):Int×Int:=
 if 4000<n then(0,4)else if(b.length:Int)<n then(0,24)else
 if b.getD 5 0=16∧(b.take n.toNat).drop (n-10).toNat≠ [51,68,73]++part b 3 7 then(0,12)else(n,0)
def Bht(b:List UInt8)(r:Int):Int×Int:=Aui b (r+10+(if b.getD 5 0=16 then 10 else 0))
def Aow(b:List UInt8):Int×Int:=
 if ¬(3≤b.length∧b.take 3=[73,68,51])then(0,6)else if b.length<10 then(0,24)else
 if(Ame (part b 6 4) 0).2≠0∨b.getD 4 0≠0∨¬((b.getD 5 0=0∧2≤(b.getD 3 0).toNat∧(b.getD 3 0).toNat≤4)∨(b.getD 5 0=16∧b.getD 3 0=4))then(0,12)else
 Bht b (Ame (part b 6 4) 0).1
theorem Av8{b:List UInt8}{i:Nat}(h:i<b.length):getI b (i:Int)=some (b.getD i 0):=by
 rw[Cf h];simp[List.getD_eq_getElem?_getD,h]
theorem Mf{b:List UInt8}(a w:Nat)(h:a+w≤b.length):Ca b (a:Int) ((a+w:Nat):Int)=some (part b a w):=by
 rw[Xa (by omega) (by omega) (by omega)];rfl
theorem Bym(b:List UInt8)(r:Int)(h10:10≤b.length)(h0:0≤r)(h1:r<268435456):Tm b r=some (Bht b r):=by
 have g5:getI b (5:Int)=some (b.getD 5 0):=Av8 (i:=5) (by omega)
 have key:∀n:Int,10≤n→n<268435500→Rv b n=some (Aui b n):=by
  intro n hn hn2
  rw[Rv,Aex,Aui]
  by_cases c1:4000<n
  ·rw[if_pos (by rw[Ar];simpa using c1),if_pos c1]
  ·rw[if_neg (by rw[Ar];simpa using c1),if_neg c1]
   by_cases c2:(b.length:Int)<n
   ·rw[if_pos (by rw[Af,Ac];simpa using c2),if_pos c2]
   ·have e3:Ca b (3:Int) (10:Int)=some (part b 3 7):=Mf 3 7 (by omega)
    rw[if_neg (by rw[Af,Ac];simpa using c2),if_neg c2,g5,Aa]
    by_cases c3:b.getD 5 0=16
    ·rw[if_pos (by rw[Aoc];simpa using c3),Bh (by omega) (by omega),Xa (by omega) (by omega) (by omega),Aa,e3,Aa,Cq (by rw[Cw (by omega)];simp),Aa]
     by_cases c4:(b.take n.toNat).drop (n-10).toNat=[51,68,73]++part b 3 7
     ·rw[if_neg (by simpa using c4),if_neg (by intro h;exact h.2 c4)]
     ·rw[if_pos (by simpa using c4),if_pos ⟨c3,c4⟩]
    ·rw[if_neg (by rw[Aoc];simpa using c3),if_neg (fun h=>c3 h.1)]
 rw[Tm,Adv,g5,Aa,Bht]
 by_cases c3:b.getD 5 0=16
 ·rw[if_pos (by rw[Aoc];simpa using c3),Ag (by rw[Ag]<;>omega) (by rw[Ag]<;>omega),Ag (by omega) (by omega),key _ (by omega) (by omega),if_pos c3,show 10+r+10=r+10+10 by omega]
 ·rw[if_neg (by rw[Aoc];simpa using c3),Ag (by omega) (by omega),key _ (by omega) (by omega),if_neg c3,show 10+r=r+10+0 by omega]
theorem Bvm(b:List UInt8)(hb:b.length<4611686018427387904):Zb b=some (Aow b):=by
 rw[Zb,Aen,Aow]
 by_cases h3:3≤b.length
 ·rw[if_neg (by rw[Af,Ac];simp;omega),Lf (by omega) (by omega),Aa]
  by_cases hp:b.take 3=[73,68,51]
  ·rw[if_neg (by simpa using hp),if_neg (by simp[h3,hp]),Ad8,Aed]
   by_cases h10:b.length<10
   ·rw[if_pos (by rw[Af,Ac];simp;omega),if_pos h10]
   ·have e6:Ca b (6:Int) (10:Int)=some (part b 6 4):=Mf 6 4 (by omega)
    have g3:getI b (3:Int)=some (b.getD 3 0):=Av8 (i:=3) (by omega)
    have g4:getI b (4:Int)=some (b.getD 4 0):=Av8 (i:=4) (by omega)
    have g5:getI b (5:Int)=some (b.getD 5 0):=Av8 (i:=5) (by omega)
    obtain⟨v1,v2⟩:=Bn8 (b:=part b 6 4) (Cw (by omega))
    rw[if_neg (by rw[Af,Ac];simp;omega),if_neg h10,e6,Aa,Bt5 _ (Cw (by omega)),Aa]
    have ht:=Bym b (Ame (part b 6 4) 0).1 (by omega) v1 v2
    generalize Ame (part b 6 4) 0=v at*
    obtain⟨v,e⟩:=v
    simp only at ht v1 v2⊢
    simp only[Aa,g3,g4,g5,ht]
    generalize b.getD 3 0=x at*
    generalize b.getD 4 0=y at*
    generalize b.getD 5 0=z at*
    simp only[Bpn,Ccg,Bwg,Aj]
    by_cases he:e=0<;>by_cases hy:y=0<;>by_cases hz:z=0<;>by_cases hz2:z=16<;>by_cases hx:x=4<;>by_cases hx2:x.toNat<2<;>by_cases hx4:4<x.toNat<;>simp_all<;>(rw[if_neg (by omega),if_neg (by omega)])
  ·rw[if_pos (by simpa using hp),if_pos (by simp[hp])]
 ·rw[if_pos (by rw[Af,Ac];simp;omega),if_pos (by simp[h3])]
theorem Bhs(b:List UInt8)(n:Int)(h10:10≤b.length)(hn:10≤n)(hn2:n<268435500):We b (b.getD 5 0) n=some (Aui b n):=by
 rw[We,Ao0]
 by_cases c1:4000<n
 ·rw[if_pos (by rw[Ar];simpa using c1),Aui,if_pos c1]
 ·rw[if_neg (by rw[Ar];simpa using c1)]
  by_cases c2:(b.length:Int)<n
  ·rw[if_pos (by rw[Af,Ac];simpa using c2),Aui,if_neg c1,if_pos c2]
  ·have e3:Ca b (3:Int) (10:Int)=some (part b 3 7):=Mf 3 7 (by omega)
   rw[if_neg (by rw[Af,Ac];simpa using c2)]
   by_cases c3:b.getD 5 0=16
   ·have hl:((b.take n.toNat).drop (n-10).toNat).length=10:=by simp;omega
    have ht:Aui b n=if(b.take n.toNat).drop (n-10).toNat≠ [51,68,73]++part b 3 7 then(0,12)else(n,0):=by rw[Aui,if_neg c1,if_neg c2];simp only[c3,true_and]
    rw[if_pos (by rw[Aoc];simpa using c3),Bh (by omega) (by omega),Xa (by omega) (by omega) (by omega),Aa,ht]
    generalize(b.take n.toNat).drop (n-10).toNat=f at*
    rw[Lf (by omega) (by omega),Aa,Ty (by omega) (by omega),Aa,e3,Aa,Hj,Aa]
    have hf:f=f.take 3++f.drop 3:=(List.take_append_drop 3 f).symm
    by_cases c4:f=[51,68,73]++part b 3 7
    ·subst c4
     simp
    ·by_cases c5:f.take 3=[51,68,73]
     ·have:f.drop 3≠part b 3 7:=fun h=>c4 (by rw[hf,c5,h])
      simp only[List.cons_append,List.nil_append]at c4
      simp[c4,c5,this]
     ·simp only[List.cons_append,List.nil_append]at c4
      simp[c4,c5]
   ·rw[if_neg (by rw[Aoc];simpa using c3),Aui,if_neg c1,if_neg c2,if_neg (fun h=>c3 h.1)]
theorem Bvc(b:List UInt8)(r:Int)(h10:10≤b.length)(h0:0≤r)(h1:r<268435456):Wg b r (b.getD 5 0)=some (Bht b r):=by
 rw[Wg,Afa,Bht]
 by_cases c3:b.getD 5 0=16
 ·rw[if_pos (by rw[Aoc];simpa using c3),Ag (by rw[Ag]<;>omega) (by rw[Ag]<;>omega),Ag (by omega) (by omega),Bhs b _ h10 (by omega) (by omega),if_pos c3]
 ·rw[if_neg (by rw[Aoc];simpa using c3),Ag (by omega) (by omega),Bhs b _ h10 (by omega) (by omega),if_neg c3];simp
theorem Bsu(b:List UInt8)(hb:b.length<4611686018427387904):Ago b=some (Aow b):=by
 rw[Ago,Wf,An0,Aa]
 by_cases hp:3≤b.length∧b.take 3=[73,68,51]
 ·rw[if_neg (by simpa using hp)]
  by_cases h10:b.length<10
  ·rw[if_pos (by rw[Af,Ac];simp;omega),Aow,if_neg (fun h=>h hp),if_pos h10]
  ·have e6:Ca b (6:Int) (10:Int)=some (part b 6 4):=Mf 6 4 (by omega)
   have g3:getI b (3:Int)=some (b.getD 3 0):=Av8 (i:=3) (by omega)
   have g4:getI b (4:Int)=some (b.getD 4 0):=Av8 (i:=4) (by omega)
   have g5:getI b (5:Int)=some (b.getD 5 0):=Av8 (i:=5) (by omega)
   obtain⟨v1,v2⟩:=Bn8 (b:=part b 6 4) (Cw (by omega))
   have ht:=Bvc b (Ame (part b 6 4) 0).1 (by omega) v1 v2
   rw[if_neg (by rw[Af,Ac];simp;omega),g3,Aa,g5,Aa,Aff,Afe,e6,Aa,Bow _ (Cw (by omega)),Aa,Aow,if_neg (fun h=>h hp),if_neg h10]
   generalize Ame (part b 6 4) 0=v at*
   obtain⟨v,e⟩:=v
   simp only at ht v1 v2⊢
   simp only[Aa,g4,Afu,Ae8]
   generalize b.getD 3 0=x at*
   generalize b.getD 4 0=y at*
   generalize b.getD 5 0=z at*
   simp only[Bpn,Cdn,Aoc,Bw1,Aj]
   have e2:(2:UInt8).toNat=2:=rfl
   have e4:(4:UInt8).toNat=4:=rfl
   by_cases he:e=0<;>by_cases hy:y=0<;>by_cases hz:z=0<;>by_cases hz2:z=16<;>by_cases hx:x=4<;>by_cases hx2:2≤x.toNat<;>by_cases hx4:x.toNat≤4<;>simp_all
 ·rw[if_pos (by rw[Bool.not_eq_true',decide_eq_false_iff_not];exact hp),Aow,if_pos hp]
theorem Bvj{b:List UInt8}{n:Int}(h:Aow b=(n,0)):10≤n∧n≤b.length∧n≤4000:=by
 unfold Aow at h
 split at h; · simp at h
 split at h; · simp at h
 split at h; · simp at h
 rename_i h10 _
 obtain⟨v1,v2⟩:=Bn8 (b:=part b 6 4) (Cw (by omega))
 unfold Bht at h
 generalize hm:(Ame (part b 6 4) 0).1+10+(if b.getD 5 0=16 then 10 else 0)=m at h
 unfold Aui at h
 split at h; · simp at h
 split at h; · simp at h
 split at h; · simp at h
 simp only[Prod.mk.injEq,and_true]at h
 subst h
 refine⟨?_,by omega,by omega⟩
 rw[←hm]
 split<;>omega
end Go.Pl
set_option linter.unusedVariables false
set_option linter.unusedSimpArgs false
namespace Go.Pl
open Go Go.Lv
def APE:List UInt8:=[65,80,69,84,65,71,69,88]
def Ql(n m fl:Nat):List UInt8:=APE++leB 2000 4++leB (n+32) 4++leB m 4++leB fl 4++List.replicate 8 0
theorem Aj3{n:Nat}(h:n<18446744073709551616):(UInt64.ofNat n).toNat=n:=by rw[UInt64.toNat_ofNat',Nat.mod_eq_of_lt h]
theorem Ath(n m:Int)(fl:UInt64)(c:UInt64)(i q:Nat)(acc:List UInt8)(hi:i<6)(hc:getI ([(2000:UInt64),(Ad (Ae n (32:Int)):UInt64),(Ad m:UInt64),fl,(0:UInt64),(0:UInt64)]:List UInt64) (i:Int)=some c)(h:c.toNat<4294967296)(ha:acc.length≤1000000):
  Wj n m fl (q+1) (i:Int) acc=Wj n m fl q ((i+1:Nat):Int) (acc++leB c.toNat 4):=by
 have hb:=Bkj c 4 (by omega) (by omega) (by simpa using h)
 rw[Wj,An1,if_pos (by rw[Af,Ac];simp;omega),hc,Aa,Aa,show((4:Int))=((4:Nat):Int)from rfl,hb,Aa]
 simp only
 rw[Cq (by rw[Mu];omega),Aa,Ag (by omega) (by omega)];rfl
theorem Bb6(n m:Nat)(fl:UInt64)(hn:n≤3000)(hm:m≤1000)(hf:fl.toNat<4294967296):Att (n:Int) (m:Int) fl=some (Ql n m fl.toNat):=by
 have e1:(Ad (Ae (n:Int) (32:Int)):UInt64).toNat=n+32:=by rw[Ag (by omega) (by omega),show(n:Int)+32=((n+32:Nat):Int) by omega,Ye,Aj3 (by omega)]
 have e2:(Ad (m:Int):UInt64).toNat=m:=by rw[Ye,Aj3 (by omega)]
 have hF:Am=(Am-7)+1+1+1+1+1+1+1:=by have:=Ak;omega
 rw[Att,Avi,Avk,hF]
 rw[show((0:Int))=((0:Nat):Int)from rfl,Ath n m fl 2000 0 _ _ (by omega) rfl (by decide) (by simp),Ath n m fl _ 1 _ _ (by omega) rfl (by rw[e1];omega) (by simp[Mu]),Ath n m fl _ 2 _ _ (by omega) rfl (by rw[e2];omega) (by simp[Mu]),
  Ath n m fl fl 3 _ _ (by omega) rfl hf (by simp[Mu]),Ath n m fl 0 4 _ _ (by omega) rfl (by decide) (by simp[Mu]),Ath n m fl 0 5 _ _ (by omega) rfl (by decide) (by simp[Mu]),e1,e2]
 rw[Wj,An1,if_neg (by rw[Af,Ac];simp),Avw,Bdd,Ql]
 have z:leB (0:UInt64).toNat 4++leB (0:UInt64).toNat 4=List.replicate 8 0:=by decide
 have z2:leB (2000:UInt64).toNat 4=leB 2000 4:=rfl
 rw[List.append_assoc _ (leB (0:UInt64).toNat 4),z,z2];rfl
theorem Brt(n m:Nat)(fl:UInt64)(hn:n≤3000)(hm:m≤1000)(hf:fl.toNat<4294967296):Nj (n:Int) (m:Int) fl=some (Ql n m fl.toNat):=by
 have e1:(Ad (Ae (n:Int) (32:Int)):UInt64).toNat=n+32:=by rw[Ag (by omega) (by omega),show(n:Int)+32=((n+32:Nat):Int) by omega,Ye,Aj3 (by omega)]
 have e2:(Ad (m:Int):UInt64).toNat=m:=by rw[Ye,Aj3 (by omega)]
 have w:∀c:UInt64,Db c 4=some (leB c.toNat 4):=fun c=>Bb9 c 4 (by omega)
 have z2:leB (2000:UInt64).toNat 4=leB 2000 4:=rfl
 rw[Nj]
 simp only[w,e1,e2,Aa]
 rw[Cq (by simp[Mu]),Aa,Cq (by simp[Mu]),Aa,Cq (by simp[Mu]),Aa,Cq (by simp[Mu]),Aa,Azt (by omega) (by omega),Aa,Cq (by simp[Mu]),Aa,z2];rfl
theorem Agv{b:List UInt8}{a w k:Nat}(h:a+w≤k):part (b.take k) a w=part b a w:=by rw[part,part,List.take_take,Nat.min_eq_left h]
def Afd(b:List UInt8):Bool:=decide (Ed (part b 12 4)<32∨3032<Ed (part b 12 4)∨1000<Ed (part b 16 4))
theorem Bvv(b:List UInt8)(h:20≤b.length):(((Bv (leU (part b 12 4)) (32:UInt64))||(Ff (leU (part b 12 4)) (3032:UInt64)))||(Ff (leU (part b 16 4)) (1000:UInt64)))=Afd b:=by
 rw[Bbz,Akh,Akh,Ajl (by rw[Cw (by omega)];omega),Ajl (by rw[Cw (by omega)];omega),Afd]
 show((decide (Ed (part b 12 4)<32)||decide (3032<Ed (part b 12 4)))||decide (1000<Ed (part b 16 4)))=_
 simp[Bool.or_assoc]
theorem Bdj(b:List UInt8)(h:20≤b.length)(hb:Afd b=false):Ah (Ad (leU (part b 12 4)):Int) (32:Int)=((Ed (part b 12 4)-32:Nat):Int)∧(Ad (leU (part b 16 4)):Int)=((Ed (part b 16 4):Nat):Int)∧Ed (part b 12 4)-32≤3000∧Ed (part b 16 4)≤1000:=by
 simp only[Afd,decide_eq_false_iff_not]at hb
 refine⟨?_,Adc (by rw[Cw (by omega)];omega),by omega,by omega⟩
 rw[Adc (by rw[Cw (by omega)];omega),Bh (by omega) (by omega)];omega
theorem Ant(b:List UInt8)(fl:UInt64)(h:20≤b.length)(hl:b.length<4611686018427387904)(hf:fl.toNat<4294967296):
  Ags b fl=some (if Afd b=true then(0,0,false)else(((Ed (part b 12 4)-32:Nat):Int),((Ed (part b 16 4):Nat):Int),b==Ql (Ed (part b 12 4)-32) (Ed (part b 16 4)) fl.toNat)):=by
 have a1:Amv b 12 4=some (leU (part b 12 4),0):=Bh0 b 12 4 (by omega) (by omega) (by omega) hl
 have a2:Amv b 16 4=some (leU (part b 16 4),0):=Bh0 b 16 4 (by omega) (by omega) (by omega) hl
 rw[Ags,a1,Aa]
 simp only
 rw[a2,Aa]
 simp only
 rw[Bvv b h]
 cases hb:Afd b with
 |true=>rfl
 |false=>
  obtain⟨i1,i2,i3,i4⟩:=Bdj b h hb
  rw[i1,i2,Bb6 _ _ _ i3 i4 hf]
  rfl
theorem Bxh(b:List UInt8)(h:20≤b.length)(hl:b.length<4611686018427387904):
  Aaj b=some (if Afd b=true then(0,0,false)else(((Ed (part b 12 4)-32:Nat):Int),((Ed (part b 16 4):Nat):Int),true)):=by
 have a1:Ca b 12 16=some (part b 12 4):=Mf 12 4 (by omega)
 have a2:Ca b 16 20=some (part b 16 4):=Mf 16 4 (by omega)
 rw[Aaj,a1,Aa,Bng _ (by rw[Cw (by omega)];omega),Aa,a2,Aa,Bng _ (by rw[Cw (by omega)];omega),Aa,Bvv b h]
 cases hb:Afd b with
 |true=>rfl
 |false=>
  obtain⟨i1,i2,i3,i4⟩:=Bdj b h hb
  rw[i1,i2];rfl
def Oi(b:List UInt8):Int×Int:=
 if ¬(8≤b.length∧b.take 8=APE)then(0,6)else if b.length<32 then(0,24)else
 if Afd b=true∨b.take 32≠Ql (Ed (part b 12 4)-32) (Ed (part b 16 4)) 2684354560 then(0,12)else
 if b.length<Ed (part b 12 4)+32 then(0,24)else
 if(b.take (Ed (part b 12 4)+32)).drop (Ed (part b 12 4))≠Ql (Ed (part b 12 4)-32) (Ed (part b 16 4)) 2147483648 then(0,12)else(((Ed (part b 12 4)+32:Nat):Int),0)
theorem Bmv(b:List UInt8):Afd (b.take 32)=Afd b:=by rw[Afd,Afd,Agv (by omega),Agv (by omega)]
section
variable {b:List UInt8}
theorem fa1(h:¬(8≤b.length∧b.take 8=APE)):Oi b=(0,6):=by rw[Oi,if_pos h]
theorem fa2(h:8≤b.length∧b.take 8=APE)(h2:b.length<32):Oi b=(0,24):=by rw[Oi,if_neg (fun h'=>h' h),if_pos h2]
variable (h:8≤b.length∧b.take 8=APE) (h2:¬b.length<32)
include h h2
theorem fa3(h3:Afd b=true):Oi b=(0,12):=by rw[Oi,if_neg (fun h'=>h' h),if_neg h2,if_pos (.inl h3)]
theorem fa4(h4:b.take 32≠Ql (Ed (part b 12 4)-32) (Ed (part b 16 4)) 2684354560):Oi b=(0,12):=by rw[Oi,if_neg (fun h'=>h' h),if_neg h2,if_pos (.inr h4)]
variable (h3:Afd b=false) (h4:b.take 32=Ql (Ed (part b 12 4)-32) (Ed (part b 16 4)) 2684354560)
include h3 h4
theorem fa5(h5:b.length<Ed (part b 12 4)+32):Oi b=(0,24):=by
 rw[Oi,if_neg (fun h'=>h' h),if_neg h2,if_neg (fun h'=>h'.elim (fun e=>by rw[h3]at e;cases e) fun e=>e h4),if_pos h5]
theorem fa6(h5:¬b.length<Ed (part b 12 4)+32)(h6:(b.take (Ed (part b 12 4)+32)).drop (Ed (part b 12 4))≠Ql (Ed (part b 12 4)-32) (Ed (part b 16 4)) 2147483648):Oi b=(0,12):=by
 rw[Oi,if_neg (fun h'=>h' h),if_neg h2,if_neg (fun h'=>h'.elim (fun e=>by rw[h3]at e;cases e) fun e=>e h4),if_neg h5,if_pos h6]
theorem fa7(h5:¬b.length<Ed (part b 12 4)+32)(h6:(b.take (Ed (part b 12 4)+32)).drop (Ed (part b 12 4))=Ql (Ed (part b 12 4)-32) (Ed (part b 16 4)) 2147483648):Oi b=(((Ed (part b 12 4)+32:Nat):Int),0):=by
 rw[Oi,if_neg (fun h'=>h' h),if_neg h2,if_neg (fun h'=>h'.elim (fun e=>by rw[h3]at e;cases e) fun e=>e h4),if_neg h5,if_neg (fun h'=>h' h6)]
end
theorem Boa(b:List UInt8)(hl:b.length<4611686018427387904):Atq b=some (Oi b):=by
 rw[Atq,An0,Aa]
 by_cases hp:8≤b.length∧b.take 8=APE
 ·rw[if_neg (by simpa [APE]using hp)]
  by_cases h32:b.length<32
  ·rw[if_pos (by rw[Af,Ac];simp;omega),fa2 hp h32]
  ·have t:=Ant (b.take 32) 2684354560 (by simp;omega) (by simp;omega) (by decide)
   rw[Bmv,Agv (by omega),Agv (by omega)]at t
   rw[if_neg (by rw[Af,Ac];simp;omega),Lf (by omega) (by omega),Aa,show(32:Int).toNat=32 from rfl,t,Aa]
   cases hb:Afd b with
   |true=>rw[fa3 hp h32 hb];simp
   |false=>
    obtain⟨i1,i2,i3,i4⟩:=Bdj b (by omega) hb
    have i5:32≤Ed (part b 12 4):=by simp only[Afd,decide_eq_false_iff_not]at hb;omega
    simp only[Bool.false_eq_true,if_false,false_or]
    by_cases c1:b.take 32=Ql (Ed (part b 12 4)-32) (Ed (part b 16 4)) 2684354560
    ·have c1':b.take 32=Ql (Ed (part b 12 4)-32) (Ed (part b 16 4)) (2684354560:UInt64).toNat:=c1
     rw[if_neg (by simpa using c1'),Ag (by omega) (by omega)]
     have e1:((Ed (part b 12 4)-32:Nat):Int)+64=((Ed (part b 12 4)+32:Nat):Int):=by omega
     rw[e1]
     by_cases c2:b.length<Ed (part b 12 4)+32
     ·rw[if_pos (by rw[Af,Ac];simp;omega),fa5 hp h32 hb c1 c2]
     ·rw[if_neg (by rw[Af,Ac];simp;omega),Bh (by omega) (by omega),Xa (by omega) (by omega) (by omega),Aa,Bb6 _ _ _ i3 i4 (by decide),Aa,Hj,Aa]
      rw[show(((Ed (part b 12 4)+32:Nat):Int)).toNat=Ed (part b 12 4)+32 by omega,show(((Ed (part b 12 4)+32:Nat):Int)-32).toNat=Ed (part b 12 4) by omega]
      by_cases c3:(b.take (Ed (part b 12 4)+32)).drop (Ed (part b 12 4))=Ql (Ed (part b 12 4)-32) (Ed (part b 16 4)) 2147483648
      ·have c3':(b.take (Ed (part b 12 4)+32)).drop (Ed (part b 12 4))=Ql (Ed (part b 12 4)-32) (Ed (part b 16 4)) (2147483648:UInt64).toNat:=c3
       rw[if_neg (by simpa using c3'),fa7 hp h32 hb c1 c2 c3]
      ·have c3':¬(b.take (Ed (part b 12 4)+32)).drop (Ed (part b 12 4))=Ql (Ed (part b 12 4)-32) (Ed (part b 16 4)) (2147483648:UInt64).toNat:=c3
       rw[if_pos (by simpa using c3'),fa6 hp h32 hb c1 c2 c3]
    ·have c1':¬b.take 32=Ql (Ed (part b 12 4)-32) (Ed (part b 16 4)) (2684354560:UInt64).toNat:=c1
     rw[if_pos (by simpa using c1'),fa4 hp h32 c1]
 ·rw[if_pos (by rw[Bool.not_eq_true',decide_eq_false_iff_not];exact hp),fa1 hp]
theorem Bti(b:List UInt8)(hl:b.length<4611686018427387904):Wk b=some (Oi b):=by
 rw[Wk,Abw]
 by_cases h8:8≤b.length
 ·rw[if_neg (by rw[Af,Ac];simp;omega),Lf (by omega) (by omega),Aa,show(8:Int).toNat=8 from rfl]
  by_cases ha:b.take 8=APE
  ·have hp:=And.intro h8 ha
   rw[if_neg (by simpa [APE]using ha),Abx,Ab5]
   by_cases h32:b.length<32
   ·rw[if_pos (by rw[Af,Ac];simp;omega),fa2 hp h32]
   ·have t:=Bxh (b.take 32) (by simp;omega) (by simp;omega)
    rw[Bmv,Agv (by omega),Agv (by omega)]at t
    rw[if_neg (by rw[Af,Ac];simp;omega),Lf (by omega) (by omega),Aa,show(32:Int).toNat=32 from rfl,t,Aa]
    cases hb:Afd b with
    |true=>rw[fa3 hp h32 hb];simp
    |false=>
     obtain⟨i1,i2,i3,i4⟩:=Bdj b (by omega) hb
     have i5:32≤Ed (part b 12 4):=by simp only[Afd,decide_eq_false_iff_not]at hb;omega
     simp only[Bool.false_eq_true,if_false,false_or,Aa,Bool.not_true]
     rw[Ajj,Brt _ _ _ i3 i4 (by decide),Aa,Aa]
     by_cases c1:b.take 32=Ql (Ed (part b 12 4)-32) (Ed (part b 16 4)) 2684354560
     ·have c1':b.take 32=Ql (Ed (part b 12 4)-32) (Ed (part b 16 4)) (2684354560:UInt64).toNat:=c1
      rw[if_neg (by simpa using c1'),Abv,Abn,Ag (by omega) (by omega)]
      have e1:64+((Ed (part b 12 4)-32:Nat):Int)=((Ed (part b 12 4)+32:Nat):Int):=by omega
      rw[e1]
      by_cases c2:b.length<Ed (part b 12 4)+32
      ·rw[if_pos (by rw[Af,Ac];simp;omega),fa5 hp h32 hb c1 c2]
      ·rw[if_neg (by rw[Af,Ac];simp;omega),Bh (by omega) (by omega),Xa (by omega) (by omega) (by omega),Aa,Aj0,if_pos rfl,Brt _ _ _ i3 i4 (by decide),Aa,Aa]
       rw[show(((Ed (part b 12 4)+32:Nat):Int)).toNat=Ed (part b 12 4)+32 by omega,show(((Ed (part b 12 4)+32:Nat):Int)-32).toNat=Ed (part b 12 4) by omega]
       by_cases c3:(b.take (Ed (part b 12 4)+32)).drop (Ed (part b 12 4))=Ql (Ed (part b 12 4)-32) (Ed (part b 16 4)) 2147483648
       ·have c3':(b.take (Ed (part b 12 4)+32)).drop (Ed (part b 12 4))=Ql (Ed (part b 12 4)-32) (Ed (part b 16 4)) (2147483648:UInt64).toNat:=c3
        rw[if_neg (by simpa using c3'),fa7 hp h32 hb c1 c2 c3]
       ·have c3':¬(b.take (Ed (part b 12 4)+32)).drop (Ed (part b 12 4))=Ql (Ed (part b 12 4)-32) (Ed (part b 16 4)) (2147483648:UInt64).toNat:=c3
        rw[if_pos (by simpa using c3'),fa6 hp h32 hb c1 c2 c3]
     ·have c1':¬b.take 32=Ql (Ed (part b 12 4)-32) (Ed (part b 16 4)) (2684354560:UInt64).toNat:=c1
      rw[if_pos (by simpa using c1'),fa4 hp h32 c1]
  ·rw[if_pos (by simpa [APE]using ha),fa1 (fun h=>ha h.2)]
 ·rw[if_pos (by rw[Af,Ac];simp;omega),fa1 (fun h=>h8 h.1)]
theorem Br7{b:List UInt8}{n:Int}(h:Oi b=(n,0)):64≤n∧n≤b.length:=by
 unfold Oi at h
 split at h; · simp at h
 split at h; · simp at h
 split at h; · simp at h
 rename_i hb
 split at h; · simp at h
 split at h; · simp at h
 simp only[Prod.mk.injEq,and_true]at h
 have hb':¬Afd b=true:=fun e=>hb (.inl e)
 simp only[Afd,decide_eq_true_eq]at hb'
 omega
end Go.Pl
set_option linter.unusedVariables false
set_option linter.unusedSimpArgs false
namespace Go.Pl
open Go Go.Lv
def Em(b:List UInt8):Int×Int:=if(Aow b).2≠6 then Aow b else Oi b
theorem size_eq(b:List UInt8)(hl:b.length<4611686018427387904):Tg b=some (Em b):=by
 rw[Tg,Bsu b hl,Aa,Boa b hl]
 by_cases h:(Aow b).2=6
 ·simp[Em,h,Aj]
 ·simp[Em,h,Aj]
theorem Beq{b:List UInt8}{n:Int}(h:Em b=(n,0)):10≤n∧n≤b.length:=by
 unfold Em at h
 split at h
 ·have:=Bvj h;omega
 ·have:=Br7 h;omega
def Ct(b:List UInt8):Nat→Nat→List Int×Int
 |0,_=>([],6)
 |j+1,p=>if(Em (b.drop p)).2=6 then([],0)else if(Em (b.drop p)).2≠0 then([],(Em (b.drop p)).2)else
  if 4000<(p:Int)+(Em (b.drop p)).1 then([],4)else
  if(Ct b j (p+(Em (b.drop p)).1.toNat)).2=0 then((Em (b.drop p)).1::(Ct b j (p+(Em (b.drop p)).1.toNat)).1,0)else([],(Ct b j (p+(Em (b.drop p)).1.toNat)).2)
theorem Ayp(b:List UInt8):∀(j p:Nat),p≤b.length→p≤4000→(Ct b j p).2=0→(∀x∈(Ct b j p).1,10≤x)∧(p:Int)+(Ct b j p).1.sum≤b.length∧(p:Int)+(Ct b j p).1.sum≤4000
 |0,p,_,_,h=>by simp[Ct]at h
 |j+1,p,hp,hq,h=>by
  rw[Ct]at h⊢
  split at h
  ·rename_i h6;rw[if_pos h6];simp;omega
  ·rename_i h6
   split at h
   ·rename_i h0;exact absurd h h0
   ·rename_i h0
    rw[if_neg h6,if_neg h0]
    have hz:Em (b.drop p)=((Em (b.drop p)).1,0):=by rw[Prod.ext_iff];exact⟨rfl,Classical.not_not.1 h0⟩
    have hs:=Beq hz
    rw[List.length_drop]at hs
    split at h
    ·simp at h
    ·rename_i h4
     rw[if_neg h4]
     split at h
     ·rename_i h00
      rw[if_pos h00]
      obtain⟨i1,i2,i3⟩:=Ayp b j _ (by omega) (by omega) h00
      refine⟨fun x hx=>?_,?_,?_⟩
      ·rcases List.mem_cons.1 hx with rfl|hx
       ·exact hs.1
       ·exact i1 x hx
      ·simp only[List.sum_cons];omega
      ·simp only[List.sum_cons];omega
     ·rename_i h00;exact absurd h h00
def Bsm(b:List UInt8)(j p:Nat):Int×Int:=if(Ct b j p).2=0 then((p:Int)+(Ct b j p).1.sum,0)else(0,(Ct b j p).2)
theorem Bc5(b:List UInt8)(hl:b.length<4611686018427387904):∀(j p q:Nat),p≤b.length→p≤4000→b.length-p<j→j≤q→Ps b q (p:Int)=some (Bsm b j p)
 |0,p,q,_,_,h,_=>by omega
 |j+1,p,q,hp,hp4,hj,hq=>by
  obtain⟨q,rfl⟩:∃k,q=k+1:=⟨q-1,by omega⟩
  rw[Ps,Ty (by omega) (by omega),Aa,Int.toNat_natCast,size_eq _ (by simp;omega),Aa,Bc,Bc,Aj,Bsm]
  by_cases h6:(Em (b.drop p)).2=6
  ·rw[if_pos (by simpa using h6)]
   have:Ct b (j+1) p=([],0):=by rw[Ct,if_pos h6]
   rw[this];simp
  ·rw[if_neg (by simpa using h6)]
   by_cases h0:(Em (b.drop p)).2=0
   ·have hz:Em (b.drop p)=((Em (b.drop p)).1,0):=by rw[Prod.ext_iff];exact⟨rfl,h0⟩
    have hs:=Beq hz
    rw[List.length_drop]at hs
    rw[Ag (by omega) (by omega),Ar]
    by_cases h4:4000<(p:Int)+(Em (b.drop p)).1
    ·rw[if_pos (by simp[h0];omega)]
     have:Ct b (j+1) p=([],4):=by rw[Ct,if_neg h6,if_neg (fun h=>h h0),if_pos h4]
     rw[this];simp
    ·rw[if_neg (by simp[h0];omega),if_neg (by simpa using h0)]
     have ih:=Bc5 b hl j (p+(Em (b.drop p)).1.toNat) q (by omega) (by omega) (by omega) (by omega)
     rw[show(p:Int)+(Em (b.drop p)).1=((p+(Em (b.drop p)).1.toNat:Nat):Int) by omega,ih,Bsm]
     have:Ct b (j+1) p=if(Ct b j (p+(Em (b.drop p)).1.toNat)).2=0 then((Em (b.drop p)).1::(Ct b j (p+(Em (b.drop p)).1.toNat)).1,0)else([],(Ct b j (p+(Em (b.drop p)).1.toNat)).2):=by
      rw[Ct,if_neg h6,if_neg (fun h=>h h0),if_neg h4]
     rw[this]
     by_cases hr:(Ct b j (p+(Em (b.drop p)).1.toNat)).2=0
     ·simp only[hr,if_true,List.sum_cons];congr 2;omega
     ·simp only[hr,if_false]
   ·rw[if_neg (by simp[h0]),if_pos (by simpa using h0)]
    have:Ct b (j+1) p=([],(Em (b.drop p)).2):=by rw[Ct,if_neg h6,if_pos h0]
    rw[this];simp[h0]
def Bxb(b:List UInt8)(j p:Nat)(xs:List Int):List Int×Int:=if(Ct b j p).2=0 then(xs++(Ct b j p).1,0)else([],(Ct b j p).2)
theorem Bvf(bk:Int→List Int→Option (List Int×Int))(b:List UInt8)(p:Nat)(hp:p≤b.length)(xs:List Int)(hx:xs.length≤4000)(hl:b.length<4611686018427387904):Qb (Le bk b) b (p:Int) xs=Le bk b (p:Int) xs (Em (b.drop p)).1 (Em (b.drop p)).2:=by
 have hf:=Bti (b.drop p) (by simp;omega)
 rw[Qb,Ty (by omega) (by omega),Aa,Int.toNat_natCast,Bvm _ (by simp;omega),Aa]
 by_cases h:(Aow (b.drop p)).2=6
 ·simp[Em,h,Bc,hf]
 ·simp[Em,h,Bc]
theorem Bgj(b:List UInt8)(hl:b.length<4611686018427387904):∀(j p q:Nat) (xs:List Int),p≤b.length→p≤4000→b.length-p<j→j≤q→xs.length≤p→Li b q (p:Int) xs=some (Bxb b j p xs)
 |0,p,q,_,_,_,h,_,_=>by omega
 |j+1,p,q,xs,hp,hp4,hj,hq,hx=>by
  obtain⟨q,rfl⟩:∃k,q=k+1:=⟨q-1,by omega⟩
  rw[Li,Bvf _ b p hp xs (by omega) hl,Le,Abz,Bc,Aj,Bxb]
  by_cases h6:(Em (b.drop p)).2=6
  ·rw[if_pos (by simpa using h6)]
   have:Ct b (j+1) p=([],0):=by rw[Ct,if_pos h6]
   rw[this];simp
  ·rw[if_neg (by simpa using h6)]
   by_cases h0:(Em (b.drop p)).2=0
   ·have hz:Em (b.drop p)=((Em (b.drop p)).1,0):=by rw[Prod.ext_iff];exact⟨rfl,h0⟩
    have hs:=Beq hz
    rw[List.length_drop]at hs
    rw[if_neg (by simpa using h0),Ag (by omega) (by omega),Ar]
    by_cases h4:4000<(p:Int)+(Em (b.drop p)).1
    ·rw[if_pos (by simp;omega)]
     have:Ct b (j+1) p=([],4):=by rw[Ct,if_neg h6,if_neg (fun h=>h h0),if_pos h4]
     rw[this];simp
    ·rw[if_neg (by simp;omega),Cq (by simp;omega),Aa]
     have ih:=Bgj b hl j (p+(Em (b.drop p)).1.toNat) q (xs++[(Em (b.drop p)).1]) (by omega) (by omega) (by omega) (by omega) (by simp;omega)
     rw[show(p:Int)+(Em (b.drop p)).1=((p+(Em (b.drop p)).1.toNat:Nat):Int) by omega,ih,Bxb]
     have:Ct b (j+1) p=if(Ct b j (p+(Em (b.drop p)).1.toNat)).2=0 then((Em (b.drop p)).1::(Ct b j (p+(Em (b.drop p)).1.toNat)).1,0)else([],(Ct b j (p+(Em (b.drop p)).1.toNat)).2):=by
      rw[Ct,if_neg h6,if_neg (fun h=>h h0),if_neg h4]
     rw[this]
     by_cases hr:(Ct b j (p+(Em (b.drop p)).1.toNat)).2=0
     ·simp only[hr,if_true];simp
     ·simp only[hr,if_false]
   ·rw[if_pos (by simpa using h0)]
    have:Ct b (j+1) p=([],(Em (b.drop p)).2):=by rw[Ct,if_neg h6,if_pos h0]
    rw[this];simp[h0]
theorem Bbn:∀{l:List Int},(∀x∈l,10≤x)→0≤l.sum∧(l.length:Int)≤l.sum
 |[],_=>by simp
 |x::l,h=>by
  have h1:=h x List.mem_cons_self
  have h2:=Bbn (l:=l) fun y hy=>h y (List.mem_cons_of_mem _ hy)
  simp only[List.sum_cons,List.length_cons];omega
theorem Bfj(r:Int)(l:List Int)(hl:l.length≤4000)(hx:∀x∈l,10≤x):∀(j i q:Nat) (n:Int),i+j=l.length→j<q→0≤n→n+(l.drop i).sum≤4000→Hv r l q n (i:Int)=some (n+(l.drop i).sum,r)
 |0,i,q+1,n,hi,_,_,_=>by
  rw[Hv,Qc,if_neg (by rw[Af,Ac];simp;omega),show i=l.length by omega,List.drop_length]
  simp[Ab0,Abq]
 |j+1,i,q+1,n,hi,hq,hn,hs=>by
  have hlt:i<l.length:=by omega
  rw[drop_cons hlt,List.sum_cons]at hs⊢
  have h1:=hx l[i] (List.getElem_mem hlt)
  have h2:=Bbn (l:=l.drop (i+1)) fun y hy=>hx y (List.mem_of_mem_drop hy)
  rw[Hv,Qc,if_pos (by rw[Af,Ac];simp;omega),Cf hlt,Aa,Aa,Ag (by omega) (by omega),Ag (by omega) (by omega)]
  have ih:=Bfj r l hl hx j (i+1) q (n+l[i]) (by omega) (by omega) (by omega) (by omega)
  rw[show((i:Int)+1)=((i+1:Nat):Int) by omega,ih]
  congr 2;omega
def frontS(b:List UInt8):Int×Int:=Bsm b (b.length+1) 0
theorem Bcf(b:List UInt8)(hl:b.length<4611686018427387904):Sk b=some (frontS b):=by
 have:=Bc5 b hl (b.length+1) 0 Am (by omega) (by omega) (by omega) (by have:=Ak;omega)
 exact this
theorem Bii(b:List UInt8)(hl:b.length<4611686018427387904):Wv b=some (frontS b):=by
 have h:=Bgj b hl (b.length+1) 0 Am [] (by omega) (by omega) (by omega) (by have:=Ak;omega) (by simp)
 have h':Aho b=some (Bxb b (b.length+1) 0 []):=h
 rw[Wv,Abu,h',Aa,frontS,Bsm,Bxb]
 have ho:=Ayp b (b.length+1) 0 (by omega) (by omega)
 by_cases h0:(Ct b (b.length+1) 0).2=0
 ·obtain⟨i1,i2,i3⟩:=ho h0
  have hp:=Bbn i1
  simp only[h0,if_true,List.nil_append]
  have:=Bfj 0 (Ct b (b.length+1) 0).1 (by omega) i1 (Ct b (b.length+1) 0).1.length 0 Am 0 (by omega) (by have:=Ak;omega) (by omega) (by simpa using i3)
  simpa [Qf]using this
 ·simp only[h0,if_false]
  have:=Bfj (Ct b (b.length+1) 0).2 [] (by simp) (by simp) 0 0 Am 0 (by simp) (by have:=Ak;omega) (by omega) (by simp)
  simpa [Qf]using this
theorem Btp{b:List UInt8}(h:(frontS b).2=0):0≤(frontS b).1∧(frontS b).1≤b.length∧(frontS b).1≤4000:=by
 unfold frontS Bsm at h⊢
 split at h
 ·rename_i h0
  rw[if_pos h0]
  obtain⟨i1,i2,i3⟩:=Ayp b (b.length+1) 0 (by omega) (by omega) h0
  have hp:=Bbn i1
  exact⟨by simp;omega,i2,i3⟩
 ·rename_i h0;exact absurd h h0
end Go.Pl
set_option linter.unusedVariables false
set_option linter.unusedSimpArgs false
namespace Go.Pl
open Go Go.Lv
def longN(r:Nat):Nat:=max 1 (256*r/245)
theorem Acz(r:Nat):1≤longN r:=Nat.le_max_left _ _
theorem Aw2{r:Nat}(h:r≤1048576):longN r≤1100000:=by unfold longN;omega
theorem Bdo{r:Nat}(h:r≤1048576):Atx (1:Int) (Bf (Ay (256:Int) (r:Int)) (245:Int))=(longN r:Int):=by
 rw[Fc (by omega) (by omega),Ae9,Int.tdiv_eq_ediv_of_nonneg (by omega),Br (by omega) (by omega),Bjc,longN];omega
def framesL(g n:Nat):List Int:=List.replicate ((n-1)/g) (g:Int)++[((n-(n-1)/g*g:Nat):Int)]
theorem Azs(g n:Nat):(framesL g n).length=(n-1)/g+1:=by simp[framesL]
theorem Ak2{g n:Nat}(h:n≤g)(h1:1≤n):framesL g n=[(n:Int)]:=by
 rw[framesL,Nat.div_eq_of_lt (by omega)];simp
theorem Bah{g n:Nat}(hg:1≤g)(h:g<n):framesL g n=(g:Int)::framesL g (n-g):=by
 have e:(n-1)/g=(n-g-1)/g+1:=by rw[←Nat.add_div_right _ (by omega)];congr 1;omega
 rw[framesL,framesL,e,List.replicate_succ,List.cons_append]
 congr 4
 have:=Nat.div_mul_le_self (n-g-1) g
 rw[Nat.add_mul,Nat.one_mul];omega
theorem Axw{g n:Nat}(hg:1≤g)(h1:1≤n):(n+g-1)/g=(n-1)/g+1:=by
 rw[←Nat.add_div_right _ (by omega)];congr 1;omega
theorem Bg7{r:Nat}(h1:1≤r)(h:r≤1048576):Aba (r:Int)=some ((longN r:Int),0):=by
 rw[Aba,if_neg (by simp[Af,Ar];omega),Bdo h]
theorem Bvw{r:Nat}(h:r≤1048576):Me (r:Int)=some (longN r:Int):=by rw[Me,Bdo h]
theorem Bc4{r n:Nat}(h1:1≤r)(h:r≤1048576)(n1:1≤n)(n2:n≤4000):Pm (r:Int) (n:Int)=some (if 1000<(n-1)/longN r+1 then(0,4)else((((n-1)/longN r+1:Nat):Int),0)):=by
 have hp:=Acz r
 have hl:=Aw2 h
 have e:Bf (Ah (Ae (n:Int) (longN r:Int)) (1:Int)) (longN r:Int)=(((n-1)/longN r+1:Nat):Int):=by
  have:(n+longN r-1)/longN r≤n+longN r-1:=Nat.div_le_self _ _
  rw[Ag (by omega) (by omega),Bh (by omega) (by omega),Ae9,Int.tdiv_eq_ediv_of_nonneg (by omega),show(n:Int)+(longN r:Int)-1=((n+longN r-1:Nat):Int) by omega,←Int.natCast_ediv,Axw hp n1]
  rw[Axw hp n1]at this
  generalize(n-1)/longN r=k at*
  exact Br (by omega) (by omega)
 rw[Pm,Bg7 h1 h,Aa]
 simp only
 rw[if_neg (by rw[Aj];simp),if_neg (by simp[Af,Ar];omega),Bp (by rw[Aj];simp;omega),Aa,e]
 by_cases hk:1000<(n-1)/longN r+1
 ·rw[if_pos (by rw[Ar];simp;omega),if_pos hk]
 ·rw[if_neg (by rw[Ar];simp;omega),if_neg hk]
theorem Bdb{r:Nat}(h:r≤1048576):∀(j n q:Nat) (acc:List Int),n≤4000→n≤j→j<q→acc.length+n≤10000→Cx (r:Int) q (n:Int) acc=some (acc++(if n=0 then []else framesL (longN r) n))
 |0,n,q+1,acc,hn,hj,hq,ha=>by
  obtain rfl:n=0:=by omega
  rw[Cx,Fu,if_neg (by rw[Ar];simp)]
  simp[Hx,Lh]
 |j+1,n,q+1,acc,hn,hj,hq,ha=>by
  have hp:=Acz r
  have hl:=Aw2 h
  by_cases h0:n=0
  ·subst h0
   rw[Cx,Fu,if_neg (by rw[Ar];simp)]
   simp[Hx,Lh]
  ·rw[Cx,Fu,if_pos (by rw[Ar];simp;omega),Bvw h,Aa,Cq (by simp;omega),Aa,Aa,Bh (by omega) (by omega),Ajd]
   by_cases hs:n≤longN r
   ·rw[show min (n:Int) (longN r:Int)=(n:Int) by omega,if_neg h0,Ak2 hs (by omega)]
    have hz:∃k,q=k+1:=⟨q-1,by omega⟩
    obtain⟨q,rfl⟩:=hz
    rw[Cx,Fu,if_neg (by rw[Ar];simp;omega)]
    simp[Hx,Lh]
   ·rw[show min (n:Int) (longN r:Int)=(longN r:Int) by omega,show(n:Int)-(longN r:Int)=((n-longN r:Nat):Int) by omega,Bdb h j (n-longN r) q _ (by omega) (by omega) (by omega) (by simp;omega),if_neg (by omega),if_neg h0,Bah hp (show longN r<n by omega)]
    simp
theorem Amz{r n:Nat}(h:r≤1048576)(n1:1≤n)(n2:n≤4000):Er (r:Int) (n:Int)=some (framesL (longN r) n):=by
 have:=Bdb h n n Am [] n2 (Nat.le_refl _) (by have:=Ak;omega) (by simp;omega)
 rw[Er,Pz,Py,this,if_neg (by omega)];rfl
theorem mul_one(m:Nat)(h:m≤100000):Adf (1:UInt64) (UInt64.ofNat m)=some (0,UInt64.ofNat m):=by
 have y1:(UInt64.ofNat m).toNat=m:=Aj3 (by omega)
 have s1:Bn (1:UInt64) (GI.toZ (32:UInt64)).toNat=0:=by decide
 have s2:Bn (UInt64.ofNat m) (GI.toZ (32:UInt64)).toNat=0:=by
  apply UInt64.toNat_inj.1
  rw[Aeu,y1]
  exact Nat.div_eq_of_lt (Nat.lt_of_le_of_lt h (by decide))
 have s0:Bn (0:UInt64) (GI.toZ (32:UInt64)).toNat=0:=by decide
 have a1:Dg (1:UInt64) (4294967295:UInt64)=1:=by decide
 have a0:Dg (0:UInt64) (4294967295:UInt64)=0:=by decide
 have a2:Dg (UInt64.ofNat m) (4294967295:UInt64)=UInt64.ofNat m:=by
  apply UInt64.toNat_inj.1
  rw[Bda,UInt64.toNat_and,y1]
  show m&&& (2^32-1)=m
  rw[Nat.and_two_pow_sub_one_eq_mod,Nat.mod_eq_of_lt (by omega)]
 have m1:∀x:UInt64,Ay 1 x=x:=fun x=>by rw[Aeo,UInt64.one_mul]
 have m0:∀x:UInt64,Ay 0 x=0:=fun x=>by rw[Aeo,UInt64.zero_mul]
 have p0:∀x:UInt64,Ae 0 x=x:=fun x=>by rw[Aeb,UInt64.zero_add]
 have p1:∀x:UInt64,Ae x 0=x:=fun x=>by rw[Aeb,UInt64.add_zero]
 rw[Adf,Afp]
 simp only[s1,s2,a1,a2,m1,m0,p0,p1,s0,a0,Aa]
theorem Bar(v:Int)(m:Nat)(hm:m≤100000):∀(j n q:Nat),1≤n→n≤m→m-n≤j→j<q→Dw q (n:Int) (List.replicate n v++List.replicate (m-n) 0)=some (List.replicate m v)
 |j,n,q+1,hn,hnm,hj,hq=>by
  have hlen:Ac (List.replicate n v++List.replicate (m-n) 0)=(m:Int):=by simp[Ac];omega
  rw[Dw,Fx,hlen]
  by_cases h:n<m
  ·obtain⟨j,rfl⟩:∃k,j=k+1:=⟨j-1,by omega⟩
   rw[if_pos (by rw[Af];simp;omega)]
   have v1:vwI (m:Int) (n:Int) (m:Int)=some ():=by rw[vwI,Bp];simp;omega
   have v2:vwI (m:Int) (0:Int) (n:Int)=some ():=by rw[vwI,Bp];simp;omega
   have e1:Akr (List.replicate n v++List.replicate (m-n) 0) (0:Int) ((n:Int)-0)=List.replicate n v:=by
    simp[Akr]
   rw[v1,Aa,v2,Aa,e1]
   have e2:Ag5 ((m:Int)-(n:Int)) (List.replicate n v).length=((min n (m-n):Nat):Int):=by
    rw[Ag5,List.length_replicate];split<;>omega
   have e3:Qa (List.replicate n v++List.replicate (m-n) 0) (n:Int) ((m:Int)-(n:Int)) (List.replicate n v)=List.replicate (n+min n (m-n)) v++List.replicate (m-(n+min n (m-n))) 0:=by
    have t1:((m:Int)-(n:Int)).toNat=m-n:=by omega
    have t2:(List.replicate n v++List.replicate (m-n) (0:Int)).take n=List.replicate n v:=by simp
    rw[Qa,t1,Int.toNat_natCast,t2,List.take_replicate,List.length_replicate,←List.append_assoc,List.replicate_append_replicate,List.drop_append,List.length_replicate,Nat.min_comm (m-n) n]
    simp only[List.drop_replicate]
    rw[show n-(n+min n (m-n))=0 by omega,List.replicate_zero,List.nil_append,show m-n-(n+min n (m-n)-n)=m-(n+min n (m-n)) by omega]
   rw[e2,e3,Ag (by omega) (by omega),show(n:Int)+((min n (m-n):Nat):Int)=((n+min n (m-n):Nat):Int) by omega]
   exact Bar v m hm j (n+min n (m-n)) q (by omega) (by omega) (by omega) (by omega)
  ·rw[if_neg (by rw[Af];simp;omega)]
   obtain rfl:n=m:=by omega
   simp[Hn,Ln]
theorem Bta(v:Int)(m:Nat)(hm:m≤100000):Lk [v] (m:Int)=some (List.replicate m v):=by
 have y1:(UInt64.ofNat m).toNat=m:=Aj3 (by omega)
 have c1:(Ad (Ac [v]):UInt64)=1:=by rfl
 have c2:(Ad (m:Int):UInt64)=UInt64.ofNat m:=Ye m
 have c3:(Ad (UInt64.ofNat m):Int)=(m:Int):=by rw[Ayi (by omega),y1]
 rw[Lk,Ml,if_neg (by rw[Af];simp),Mo,Mk,c1,c2,mul_one m hm,Aa]
 simp only
 rw[if_neg (by rw[Akh,Akh,y1];simp;show m≤9223372036854775807;omega),Mq,Mr,c3,Azt (by omega) (by omega),Aa,Bp (by rw[Bc];simp),Aa,Mj,Int.toNat_natCast]
 by_cases h0:m=0
 ·subst h0
  have hF:Am=(Am-1)+1:=by have:=Ak;omega
  rw[hF,Dw,Fx]
  simp[Ac,Bcy,Ag5,Af,Hn,Ln]
 ·have:=Bar v m hm m 1 Am (by omega) (by omega) (by omega) (by have:=Ak;omega)
  have e1:Ag5 (Ac (List.replicate m (0:Int))) [v].length=((1:Nat):Int):=by simp[Ag5,Ac];omega
  have e2:Bcy (List.replicate m (0:Int)) [v]=List.replicate 1 v++List.replicate (m-1) 0:=by
   obtain⟨k,rfl⟩:∃k,m=k+1:=⟨m-1,by omega⟩
   simp[Bcy]
  rw[e1,e2,this]
theorem Bsb(l m:List Int)(h:l.length+m.length≤1000000):Ll [l,m]=some (l++m):=by
 have hF:Am=(Am-3)+1+1+1:=by have:=Ak;omega
 rw[Ll,Mh,Mp]
 have g0:getI [l,m] (0:Int)=some l:=rfl
 have g1:getI [l,m] (1:Int)=some m:=rfl
 have l2:Ac [l,m]=2:=rfl
 have h3:Hm [l,m] []=some (l++m):=by
  rw[Hm,Lr,Lt,hF,Dd,Fg,l2,if_pos (by decide),g0,Aa,Cq (by simp;omega),Aa,List.nil_append,show Ae (0:Int) 1=1 by decide,
   Dd,Fg,l2,if_pos (by decide),g1,Aa,Cq (by omega),Aa,show Ae (1:Int) 1=2 by decide,Dd,Fg,l2,if_neg (by decide)]
  rfl
 rw[hF,Dr,Fv,l2,if_pos (by decide),g0,Aa,Ag (by unfold Ac;omega) (by unfold Ac;omega),if_neg (by rw[Af,Ac];simp),show Ae (0:Int) 1=1 by decide,
  Dr,Fv,l2,if_pos (by decide),g1,Aa,Ag (by unfold Ac;omega) (by unfold Ac;omega),if_neg (by rw[Af,Ac,Ac];simp;omega),show Ae (1:Int) 1=2 by decide,
  Dr,Fv,l2,if_neg (by decide),Lq,Lu,if_neg (by rw[Af,Ac,Ac];simp;omega),Lo,Ls]
 have z:Ah (0:Int) 0=0:=by decide
 have n0:(0:Int)+Ac l+Ac m=((l.length+m.length:Nat):Int):=by simp[Ac]
 rw[z,n0,Bh (by omega) (by omega),Int.sub_zero]
 by_cases hp:0<l.length+m.length
 ·rw[if_pos (by rw[Ar];simp;omega),show vwI (0:Int) 0 0=some ()from rfl,Aa,Azt (by omega) (by omega),Aa,Cq (by simp;omega),Aa]
  rw[show vwI (Ac ([]++List.replicate ((l.length+m.length:Nat):Int).toNat (0:Int))) 0 0=some () by rw[vwI,Bp];simp[Ac];omega,Aa]
  simp only[Akr,Int.sub_self,Int.toNat_zero,List.take_zero]
  exact h3
 ·rw[if_neg (by rw[Ar];simp;omega)];exact h3
theorem Bul{r n:Nat}(h1:1≤r)(h:r≤1048576)(n1:1≤n)(n2:n≤4000)(hk:(n-1)/longN r+1≤1000):Tl (r:Int) (n:Int)=some (framesL (longN r) n,0):=by
 have hp:=Acz r
 have hl:=Aw2 h
 have hd:=Nat.div_mul_le_self (n-1) (longN r)
 rw[Tl,Bc4 h1 h n1 n2,if_neg (by omega),Aa]
 simp only
 rw[if_neg (by rw[Aj];simp),Bg7 h1 h,Aa]
 simp only
 rw[framesL]
 generalize(n-1)/longN r=k at*
 have e1:Ah ((k+1:Nat):Int) 1=(k:Int):=by rw[Bh (by omega) (by omega)];omega
 have e2:(k:Int)*(longN r:Int)=((k*longN r:Nat):Int):=by simp
 rw[e1,Bta _ _ (by omega),Aa,Fc (by rw[e2];omega) (by rw[e2];omega),e2,Bh (by omega) (by omega),Ag3,Bsb _ _ (by simp;omega),Aa,Aa,show(n:Int)-((k*longN r:Nat):Int)=((n-k*longN r:Nat):Int) by omega]
end Go.Pl
set_option linter.unusedVariables false
set_option linter.unusedSimpArgs false
namespace Go.Pl
open Go Go.Lv
def shapeB(f c w r n:Nat):Bool:=decide ((f=1∨f=2)∧(1≤c∧c≤6)∧(w=8∨w=16∨w=24)∧(1≤r∧r≤1048576)∧1≤n)
def fitB(c r n:Nat):Bool:=decide (n≤4000/c∧(n-1)/longN r+1≤1000)
theorem Baa(f c w r n:Nat):Vw (f:Int) (c:Int) (w:Int) (r:Int) (n:Int)=some (shapeB f c w r n):=by
 have e2:Tn (f:Int) (c:Int) (w:Int) (r:Int) (n:Int)=some (decide ((f=1∨f=2)∧(1≤c∧c≤6)∧(1≤r∧r≤1048576)∧1≤n)):=by
  rw[Tn,Am1]
  congr 1
  rw[Bool.eq_iff_iff]
  simp only[Bc,Ar,Bhl,Bool.and_eq_true,Bool.or_eq_true,beq_iff_eq,decide_eq_true_eq]
  omega
 have g:∀k:Nat,geq (w:Int) (k:Int)=decide (w=k):=fun k=>by rw[Bc,Bool.eq_iff_iff];simp;omega
 have g8:geq (w:Int) (8:Int)=decide (w=8):=g 8
 have g16:geq (w:Int) (16:Int)=decide (w=16):=g 16
 have g24:geq (w:Int) (24:Int)=decide (w=24):=g 24
 rw[Vw,Aci,e2,g8,g16,g24,shapeB]
 by_cases h8:w=8
 ·subst h8;simp
 ·by_cases h16:w=16
  ·subst h16;simp
  ·by_cases h24:w=24
   ·subst h24;simp
   ·simp[h8,h16,h24]
theorem Be5(f c w r n:Nat):Jq (f:Int) (c:Int) (w:Int) (r:Int) (n:Int)=some (shapeB f c w r n):=by
 rw[Jq,shapeB]
 simp only[Bc,Cz,Bhl,Bool.and_eq_true,Bool.or_eq_true,beq_iff_eq,decide_eq_true_eq,Bool.false_and]
 split
 ·rename_i h
  congr 1
  rw[Bool.eq_iff_iff]
  simp only[Bool.and_eq_true,Bool.or_eq_true,beq_iff_eq,decide_eq_true_eq]
  omega
 ·rename_i h
  congr 1
  symm
  rw[decide_eq_false_iff_not]
  omega
theorem Cb1{c:Nat}(h:1≤c):Bf (4000:Int) (c:Int)=((4000/c:Nat):Int):=by
 have:4000/c≤4000:=Nat.div_le_self _ _
 rw[Ae9,Int.tdiv_eq_ediv_of_nonneg (by omega),show(4000:Int)=((4000:Nat):Int)from rfl,←Int.natCast_ediv]
 generalize 4000/c=k at*
 exact Br (by omega) (by omega)
theorem Bgz{f c w r n:Nat}(h:shapeB f c w r n=true):Ae5 (f:Int) (c:Int) (w:Int) (r:Int) (n:Int)=some (fitB c r n):=by
 simp only[shapeB,decide_eq_true_eq]at h
 have hd:4000/c≤4000:=Nat.div_le_self _ _
 rw[Ae5,Bp (by rw[Aj];simp;omega),Aa,Cb1 (by omega),fitB]
 generalize 4000/c=m at*
 by_cases h1:n≤m
 ·rw[if_neg (by rw[Ar];simp;omega),Bc4 (by omega) (by omega) (by omega) (by omega),Aa]
  generalize(n-1)/longN r+1=k
  by_cases h2:1000<k
  ·rw[if_pos h2]
   simp[Bc,Bhl]
   omega
  ·rw[if_neg h2]
   simp[Bc,Bhl,h1]
   omega
 ·rw[if_pos (by rw[Ar];simp;omega)]
  simp[h1]
theorem Blt{f c w r n:Nat}(h:shapeB f c w r n=true):Gv (f:Int) (c:Int) (w:Int) (r:Int) (n:Int)=some (!fitB c r n):=by
 simp only[shapeB,decide_eq_true_eq]at h
 have hd:4000/c≤4000:=Nat.div_le_self _ _
 rw[Gv,Bp (by rw[Aj];simp;omega),Aa,Cb1 (by omega),fitB]
 generalize 4000/c=m at*
 by_cases h1:n≤m
 ·rw[if_neg (by rw[Ar];simp;omega),Amz (by omega) (by omega) (by omega),Aa,Ac,Azs]
  generalize(n-1)/longN r+1=k
  congr 1
  rw[Ar,Bool.eq_iff_iff]
  simp only[decide_eq_true_eq,Bool.not_eq_true',decide_eq_false_iff_not]
  omega
 ·rw[if_pos (by rw[Ar];simp;omega)]
  simp[h1]
def Bao:List UInt8:=[84,84,65,49]
def f0(b:List UInt8):Nat:=Ed (part b 4 2)
def f1(b:List UInt8):Nat:=Ed (part b 6 2)
def f2(b:List UInt8):Nat:=Ed (part b 8 2)
def f3(b:List UInt8):Nat:=Ed (part b 10 4)
def f4(b:List UInt8):Nat:=Ed (part b 14 4)
abbrev H6:=Int×Int×Int×Int×Int×Int
def readS(b:List UInt8):H6:=
 if b.take (min 4 b.length)≠Bao.take (min 4 b.length)then(0,0,0,0,0,12)else if b.length<22 then(0,0,0,0,0,24)else
 if(Gy (b.take 18)).toNat≠Ed (part b 18 4)then(0,0,0,0,0,22)else
 if shapeB (f0 b) (f1 b) (f2 b) (f3 b) (f4 b)=false then(0,0,0,0,0,12)else
 if fitB (f1 b) (f3 b) (f4 b)=false then(0,0,0,0,0,4)else((f0 b:Int),(f1 b:Int),(f2 b:Int),(f3 b:Int),(f4 b:Int),0)
section
variable {b:List UInt8}
theorem rs1(h:b.take (min 4 b.length)≠Bao.take (min 4 b.length)):readS b=(0,0,0,0,0,12):=by rw[readS,if_pos h]
variable (h:b.take (min 4 b.length)=Bao.take (min 4 b.length))
include h
theorem rs2(h2:b.length<22):readS b=(0,0,0,0,0,24):=by rw[readS,if_neg (fun e=>e h),if_pos h2]
variable (h2:¬b.length<22)
include h2
theorem rs3(h3:(Gy (b.take 18)).toNat≠Ed (part b 18 4)):readS b=(0,0,0,0,0,22):=by rw[readS,if_neg (fun e=>e h),if_neg h2,if_pos h3]
variable (h3:(Gy (b.take 18)).toNat=Ed (part b 18 4))
include h3
theorem rs4(h4:shapeB (f0 b) (f1 b) (f2 b) (f3 b) (f4 b)=false):readS b=(0,0,0,0,0,12):=by rw[readS,if_neg (fun e=>e h),if_neg h2,if_neg (fun e=>e h3),if_pos h4]
variable (h4:shapeB (f0 b) (f1 b) (f2 b) (f3 b) (f4 b)=true)
include h4
theorem rs5(h5:fitB (f1 b) (f3 b) (f4 b)=false):readS b=(0,0,0,0,0,4):=by rw[readS,if_neg (fun e=>e h),if_neg h2,if_neg (fun e=>e h3),if_neg (by rw[h4];simp),if_pos h5]
theorem rs6(h5:fitB (f1 b) (f3 b) (f4 b)=true):readS b=((f0 b:Int),(f1 b:Int),(f2 b:Int),(f3 b:Int),(f4 b:Int),0):=by rw[readS,if_neg (fun e=>e h),if_neg h2,if_neg (fun e=>e h3),if_neg (by rw[h4];simp),if_neg (by rw[h5];simp)]
end
theorem Bv3(b:List UInt8)(h2:¬b.length<22):Ba (Ad (Gy (b.take 18)):UInt64) (leU (part b 18 4))=decide ((Gy (b.take 18)).toNat≠Ed (part b 18 4)):=by
 rw[Agn,Hh,Bool.eq_iff_iff]
 simp only[bne_iff_ne,ne_eq,decide_eq_true_eq]
 rw[←UInt64.toNat_inj,Aj3 (by have:=(Gy (b.take 18)).toNat_lt;omega),Ajl (by rw[Cw (by omega)];omega)]
theorem Asr(b:List UInt8)(a w:Nat)(i q:Nat)(l:List Int)(hi:i<5)(hl:l.length=5)(hw:getI ([2,2,2,4,4]:List Int) (i:Int)=some (w:Int))(h1:1≤w)(h4:w≤4)(ha:a+w≤b.length)(hb:b.length<4611686018427387904):
  Lc b (q+1) (a:Int) (i:Int) l=Lc b q ((a+w:Nat):Int) ((i+1:Nat):Int) (l.set i (Ed (part b a w):Int)):=by
 rw[Lc,Aaa,if_pos (by rw[Af];simp;omega),hw,Aa,Bh0 b a w h1 (by omega) ha hb,Aa]
 simp only
 rw[Cf (by omega),Aa,Uo _ (by omega),Aa,Adc (by rw[Cw ha];omega),Ag (by omega) (by omega),Ag (by omega) (by omega)]
 rfl
theorem Bwa(b:List UInt8)(h22:¬b.length<22)(hb:b.length<4611686018427387904):Aaf b 4 0 (List.replicate 5 0)=Aak [(f0 b:Int),(f1 b:Int),(f2 b:Int),(f3 b:Int),(f4 b:Int)]:=by
 have hF:Am=(Am-6)+1+1+1+1+1+1:=by have:=Ak;omega
 rw[Aaf,hF,show(4:Int)=((4:Nat):Int)from rfl,show(0:Int)=((0:Nat):Int)from rfl]
 rw[Asr b 4 2 0 _ _ (by omega) (by simp) rfl (by omega) (by omega) (by omega) hb,Asr b 6 2 1 _ _ (by omega) (by simp) rfl (by omega) (by omega) (by omega) hb,Asr b 8 2 2 _ _ (by omega) (by simp) rfl (by omega) (by omega) (by omega) hb,
  Asr b 10 4 3 _ _ (by omega) (by simp) rfl (by omega) (by omega) (by omega) hb,Asr b 14 4 4 _ _ (by omega) (by simp) rfl (by omega) (by omega) (by omega) hb,Lc,Aaa,if_neg (by rw[Af];simp)]
 rfl
theorem Cfg(b:List UInt8):Ri [84,84,65,49] (b.take (min 4 b.length))=some (decide (b.take (min 4 b.length)=Bao.take (min 4 b.length))):=by
 have hl:(b.take (min 4 b.length)).length=min 4 b.length:=by rw[List.length_take];omega
 rw[Ri,Ic,if_pos (by rw[Cz,Ac,Ac,hl];simp;omega),Ac,hl,Lf (by omega) (by simp;omega),Aa,Aa,Int.toNat_natCast]
 congr 1
 rw[Bool.eq_iff_iff]
 rw[decide_eq_true_eq,beq_iff_eq]
 exact eq_comm
theorem Cd1(b:List UInt8):Dj (4:Int) (Ac b)=((min 4 b.length:Nat):Int):=by rw[Ajd,Ac];omega
theorem Btu(b:List UInt8)(hb:b.length<4611686018427387904):Aee b=some (readS b):=by
 rw[Aee,Ag4,Cd1,Lf (by omega) (by omega),Aa,Int.toNat_natCast,Cfg,Aa]
 by_cases h:b.take (min 4 b.length)=Bao.take (min 4 b.length)
 ·rw[if_neg (by simpa using h)]
  by_cases h2:b.length<22
  ·rw[if_pos (by rw[Af,Ac];simp;omega),rs2 h h2]
  ·have a1:Amv b 18 4=some (leU (part b 18 4),0):=Bh0 b 18 4 (by omega) (by omega) (by omega) hb
   rw[if_neg (by rw[Af,Ac];simp;omega),a1,Aa]
   simp only
   rw[Lf (by omega) (by omega),Aa,show(18:Int).toNat=18 from rfl,Bod _ (by simp;omega),Aa]
   simp only
   rw[Bv3 b h2]
   by_cases h3:(Gy (b.take 18)).toNat=Ed (part b 18 4)
   ·rw[if_neg (by simpa using h3),Bwa b h2 hb,Aak,Arf]
    rw[show getI [(f0 b:Int),(f1 b:Int),(f2 b:Int),(f3 b:Int),(f4 b:Int)] 0=some (f0 b:Int)from rfl,show getI [(f0 b:Int),(f1 b:Int),(f2 b:Int),(f3 b:Int),(f4 b:Int)] 1=some (f1 b:Int)from rfl,show getI [(f0 b:Int),(f1 b:Int),(f2 b:Int),(f3 b:Int),(f4 b:Int)] 2=some (f2 b:Int)from rfl,
     show getI [(f0 b:Int),(f1 b:Int),(f2 b:Int),(f3 b:Int),(f4 b:Int)] 3=some (f3 b:Int)from rfl,show getI [(f0 b:Int),(f1 b:Int),(f2 b:Int),(f3 b:Int),(f4 b:Int)] 4=some (f4 b:Int)from rfl]
    simp only[Aa,Baa]
    cases h4:shapeB (f0 b) (f1 b) (f2 b) (f3 b) (f4 b)with
    |false=>rw[rs4 h h2 h3 h4];rfl
    |true=>
     rw[Bgz h4,if_neg (by simp),Aa]
     cases h5:fitB (f1 b) (f3 b) (f4 b)with
     |false=>rw[rs5 h h2 h3 h4 h5];rfl
     |true=>rw[rs6 h h2 h3 h4 h5];rfl
   ·rw[if_pos (by simpa using h3),rs3 h h2 h3]
 ·rw[if_pos (by simpa using h),rs1 h]
theorem Bw2(b:List UInt8)(hb:b.length<4611686018427387904):Zn b=some (readS b):=by
 rw[Zn,Adw,Cd1,Lf (by omega) (by omega),Aa,Int.toNat_natCast,Lf (by omega) (by simp;omega),Aa,Int.toNat_natCast]
 by_cases h:b.take (min 4 b.length)=Bao.take (min 4 b.length)
 ·rw[if_neg (by rw[h];simp[Bao]),Adu,Aet]
  by_cases h2:b.length<22
  ·rw[if_pos (by rw[Af,Ac];simp;omega),rs2 h h2]
  ·have a1:Ca b 18 22=some (part b 18 4):=Mf 18 4 (by omega)
   have c1:Ca b 4 6=some (part b 4 2):=Mf 4 2 (by omega)
   have c2:Ca b 6 8=some (part b 6 2):=Mf 6 2 (by omega)
   have c3:Ca b 8 10=some (part b 8 2):=Mf 8 2 (by omega)
   have c4:Ca b 10 14=some (part b 10 4):=Mf 10 4 (by omega)
   have c5:Ca b 14 18=some (part b 14 4):=Mf 14 4 (by omega)
   have hs:Ba (leU (part b 18 4)) (Ad (Gy (b.take 18)):UInt64)=decide ((Gy (b.take 18)).toNat≠Ed (part b 18 4)):=by
    rw[←Bv3 b h2,Agn,Agn,Bool.eq_iff_iff];simp only[bne_iff_ne,ne_eq];exact not_congr eq_comm
   have lp:∀a w,a+w≤b.length→Cp (part b a w)=some (leU (part b a w)):=fun a w h=>Bng _ (by rw[Cw h];omega)
   rw[if_neg (by rw[Af,Ac];simp;omega),a1,Aa,Lf (by omega) (by omega),Aa,show(18:Int).toNat=18 from rfl,lp _ _ (by omega),Aa,Bxf _ (by simp;omega),Aa,hs]
   by_cases h3:(Gy (b.take 18)).toNat=Ed (part b 18 4)
   ·rw[if_neg (by simpa using h3),Ae4,Adz,c1,Aa,c2,Aa,c3,Aa,c4,Aa,c5,Aa,lp _ _ (by omega),Aa,lp _ _ (by omega),Aa,lp _ _ (by omega),Aa,lp _ _ (by omega),Aa,lp _ _ (by omega),Aa,
     Ad7,Ael,Adc (by rw[Cw (by omega)];omega),Adc (by rw[Cw (by omega)];omega),Adc (by rw[Cw (by omega)];omega),Adc (by rw[Cw (by omega)];omega),Adc (by rw[Cw (by omega)];omega)]
    rw[show Ed (part b 4 2)=f0 b from rfl,show Ed (part b 6 2)=f1 b from rfl,show Ed (part b 8 2)=f2 b from rfl,show Ed (part b 10 4)=f3 b from rfl,show Ed (part b 14 4)=f4 b from rfl,Be5,Aa]
    cases h4:shapeB (f0 b) (f1 b) (f2 b) (f3 b) (f4 b)with
    |false=>rw[rs4 h h2 h3 h4];rfl
    |true=>
     rw[Blt h4,if_neg (by simp),Aa]
     cases h5:fitB (f1 b) (f3 b) (f4 b)with
     |false=>rw[rs5 h h2 h3 h4 h5];rfl
     |true=>rw[rs6 h h2 h3 h4 h5];rfl
   ·rw[if_pos (by simpa using h3),rs3 h h2 h3]
 ·rw[if_pos (by simpa [Bao]using h),rs1 h]
theorem But{b:List UInt8}(h:(readS b).2.2.2.2.2=0):readS b=((f0 b:Int),(f1 b:Int),(f2 b:Int),(f3 b:Int),(f4 b:Int),0)∧22≤b.length∧shapeB (f0 b) (f1 b) (f2 b) (f3 b) (f4 b)=true∧fitB (f1 b) (f3 b) (f4 b)=true:=by
 unfold readS at h⊢
 split at h; · simp at h
 rename_i c1;rw[if_neg c1]
 split at h; · simp at h
 rename_i c2;rw[if_neg c2]
 split at h; · simp at h
 rename_i c3;rw[if_neg c3]
 split at h; · simp at h
 rename_i c4;rw[if_neg c4]
 split at h; · simp at h
 rename_i c5;rw[if_neg c5]
 exact⟨rfl,by omega,by simpa using c4,by simpa using c5⟩
theorem Aj5{f c w r n:Nat}(h:shapeB f c w r n=true)(h2:fitB c r n=true):Kg (f:Int) (c:Int) (w:Int) (r:Int) (n:Int)=some (framesL (longN r) n,0):=by
 have hc:Zq (f:Int) (c:Int) (w:Int) (r:Int) (n:Int)=some 0:=by
  rw[Zq,Baa,Aa,h,if_neg (by simp),Bgz h,Aa,h2];rfl
 have hd:4000/c≤4000:=Nat.div_le_self _ _
 simp only[shapeB,decide_eq_true_eq]at h
 simp only[fitB,decide_eq_true_eq]at h2
 rw[Kg,hc,Aa,if_neg (by rw[Aj];simp),Bul (by omega) (by omega) (by omega) (by omega) h2.2]
 rfl
end Go.Pl
set_option linter.unusedVariables false
set_option linter.unusedSimpArgs false
namespace Go.Pl
open Go Go.Lv
def okL:List Int→Int→Bool
 |[],_=>true
 |x::l,left=>decide (5≤x∧x≤left)&&okL l (left-x)
theorem Bvk:∀l:List Int,(∀x∈l,5≤x)→0≤l.sum
 |[],_=>by simp
 |x::l,h=>by
  have h1:=h x List.mem_cons_self
  have h2:=Bvk l fun y hy=>h y (List.mem_cons_of_mem _ hy)
  rw[List.sum_cons];omega
theorem Bbp:∀(l:List Int) (left:Int),0≤left→(okL l left=true↔(∀x∈l,5≤x)∧l.sum≤left)
 |[],left,h=>by simp[okL];exact h
 |x::l,left,h=>by
  rw[okL,Bool.and_eq_true,decide_eq_true_eq,List.sum_cons]
  by_cases hx:5≤x∧x≤left
  ·rw[Bbp l (left-x) (by omega)]
   constructor
   ·rintro⟨_,h1,h2⟩
    exact⟨fun y hy=>(List.mem_cons.1 hy).elim (fun e=>e▸hx.1) (h1 y),by omega⟩
   ·rintro⟨h1,h2⟩
    exact⟨hx,fun y hy=>h1 y (List.mem_cons_of_mem _ hy),by omega⟩
  ·constructor
   ·rintro⟨h1,_⟩;exact absurd h1 hx
   ·rintro⟨h1,h2⟩
    have h3:=h1 x List.mem_cons_self
    have:0≤l.sum:=Bvk l fun y hy=>h1 y (List.mem_cons_of_mem _ hy)
    omega
theorem Bdc(l:List Int)(hl:l.length≤1000):∀(j i q:Nat) (left:Int),i+j=l.length→j<q→0≤left→left≤100000→Ng l q left (i:Int)=some (if okL (l.drop i) left=true then 0 else 8)
 |0,i,q+1,left,hi,_,_,_=>by
  rw[Ng,Zi,if_neg (by rw[Af,Ac];simp;omega),show i=l.length by omega,List.drop_length];rfl
 |j+1,i,q+1,left,hi,hq,h0,h1=>by
  have hlt:i<l.length:=by omega
  rw[Ng,Zi,if_pos (by rw[Af,Ac];simp;omega),Cf hlt,Aa,drop_cons hlt]
  by_cases h:5≤l[i]∧l[i]≤left
  ·rw[if_neg (by simp[Af,Ar];omega),Bh (by omega) (by omega),Ag (by omega) (by omega)]
   have ih:=Bdc l hl j (i+1) q (left-l[i]) (by omega) (by omega) (by omega) (by omega)
   rw[show((i:Int)+1)=((i+1:Nat):Int) by omega,ih]
   simp[okL,h]
  ·rw[if_pos (by simp[Af,Ar];omega)]
   have:okL (l[i]::l.drop (i+1)) left=false:=by rw[okL,decide_eq_false h];rfl
   rw[this];rfl
def Ar3(l:List Int):Bool:=decide (1≤l.length∧l.length≤1000)&&okL l 100000
theorem Bi3(l:List Int)(hl:l.length≤1000):Ly l=some (if Ar3 l=true then 0 else 8):=by
 rw[Ly,Aa3,Ar3]
 by_cases h:1≤l.length
 ·rw[if_neg (by rw[Bc,Ar,Ac];simp;constructor;(intro e;subst e;simp at h);omega),Ah7]
  have:=Bdc l hl l.length 0 Am 100000 (by omega) (by have:=Ak;omega) (by omega) (by omega)
  rw[List.drop_zero]at this
  rw[decide_eq_true (show 1≤l.length∧l.length≤1000 from⟨h,hl⟩),Bool.true_and]
  exact this
 ·have:l=[]:=by
   cases l with
   |nil=>rfl
   |cons _ _=>simp at h
  subst this;rfl
theorem Bh2(l:List Int)(hl:l.length≤1000):∀(j i q:Nat) (s:Int),i+j=l.length→j<q→0≤s→s≤100000*(i:Int)→Ho l q s (i:Int)=some (if(∀x∈l.drop i,5≤x∧x≤100000)∧s+(l.drop i).sum≤100000 then 0 else 8)
 |0,i,q+1,s,hi,_,_,_=>by
  rw[Ho,Qp,if_neg (by rw[Af,Ac];simp;omega),show i=l.length by omega,List.drop_length,Zr,Aaw]
  by_cases h:s≤100000
  ·rw[if_neg (by rw[Ar];simp;omega),if_pos (by simp;omega)]
  ·rw[if_pos (by rw[Ar];simp;omega),if_neg (by simp;omega)]
 |j+1,i,q+1,s,hi,hq,h0,h1=>by
  have hlt:i<l.length:=by omega
  rw[Ho,Qp,if_pos (by rw[Af,Ac];simp;omega),Cf hlt,Aa,drop_cons hlt]
  by_cases h5:l[i]<5
  ·rw[if_pos (by rw[Af];simpa using h5),if_neg (fun h=>by have:=(h.1 l[i] List.mem_cons_self).1;omega)]
  ·rw[if_neg (by rw[Af];simpa using h5),Aa]
   by_cases h6:100000<l[i]
   ·rw[if_pos (by rw[Ar];simpa using h6),if_neg (fun h=>by have:=(h.1 l[i] List.mem_cons_self).2;omega)]
   ·rw[if_neg (by rw[Ar];simpa using h6),Ab8,Ab7,Cf hlt,Aa,Ag (by omega) (by omega),Ag (by omega) (by omega)]
    have ih:=Bh2 l hl j (i+1) q (s+l[i]) (by omega) (by omega) (by omega) (by omega)
    rw[show((i:Int)+1)=((i+1:Nat):Int) by omega,ih]
    have e:((∀x∈l.drop (i+1),5≤x∧x≤100000)∧s+l[i]+(l.drop (i+1)).sum≤100000)↔((∀x∈l[i]::l.drop (i+1),5≤x∧x≤100000)∧s+(l[i]::l.drop (i+1)).sum≤100000):=by
     rw[List.sum_cons,List.forall_mem_cons,Int.add_assoc]
     constructor
     ·rintro⟨a,b⟩;exact⟨⟨by omega,a⟩,b⟩
     ·rintro⟨⟨_,a⟩,b⟩;exact⟨a,b⟩
    simp only[e]
theorem Boc:∀{l:List Int},(∀x∈l,5≤x)→∀x∈l,x≤l.sum
 |[],_,x,hx=>by simp at hx
 |y::l,h,x,hx=>by
  have h1:=h y List.mem_cons_self
  have h2:=Bvk l fun z hz=>h z (List.mem_cons_of_mem _ hz)
  rw[List.sum_cons]
  rcases List.mem_cons.1 hx with rfl|hx
  ·omega
  ·have:=Boc (l:=l) (fun z hz=>h z (List.mem_cons_of_mem _ hz)) x hx
   omega
theorem Bm6(l:List Int)(hl:l.length≤1000):Ie l=some (if Ar3 l=true then 0 else 8):=by
 rw[Ie,Qh,Ar3]
 by_cases h:1≤l.length
 ·have:=Bh2 l hl l.length 0 Am 0 (by omega) (by have:=Ak;omega) (by omega) (by omega)
  rw[if_neg (by rw[Af,Ar,Ac];simp;omega),Abr]
  refine Eq.trans this ?_
  rw[List.drop_zero,decide_eq_true (show 1≤l.length∧l.length≤1000 from⟨h,hl⟩),Bool.true_and]
  have e:((∀x∈l,5≤x∧x≤100000)∧0+l.sum≤100000)↔okL l 100000=true:=by
   rw[Bbp l 100000 (by omega),Int.zero_add]
   constructor
   ·rintro⟨a,b⟩;exact⟨fun x hx=>(a x hx).1,b⟩
   ·rintro⟨a,b⟩;exact⟨fun x hx=>⟨a x hx,Int.le_trans (Boc a x hx) b⟩,b⟩
  simp only[e]
 ·have:l=[]:=by
   cases l with
   |nil=>rfl
   |cons _ _=>simp at h
  subst this;rfl
theorem Bcb(l:List Int):Ly l=some (if Ar3 l=true then 0 else 8):=by
 by_cases hl:l.length≤1000
 ·exact Bi3 l hl
 ·rw[Ly,Aa3,if_pos (by rw[Ar,Ac];simp;omega),Ar3,decide_eq_false (by omega)];rfl
theorem Bgh(l:List Int):Ie l=some (if Ar3 l=true then 0 else 8):=by
 by_cases hl:l.length≤1000
 ·exact Bm6 l hl
 ·rw[Ie,Qh,if_pos (by rw[Ar,Ac];simp;omega),Ar3,decide_eq_false (by omega)];rfl
theorem Bc1(l:List Int)(hl:l.length≤1000)(hx:∀x∈l,0≤x∧x<4294967296):Ly l=some (if Ar3 l=true then 0 else 8):=Bcb l
theorem Bt1(l:List Int)(hl:l.length≤1000)(hx:∀x∈l,0≤x∧x<4294967296):Ie l=some (if Ar3 l=true then 0 else 8):=Bgh l
def Ale(b:List UInt8)(n:Nat):List Int:=(List.range n).map fun i=>(Ed (part b (4*i) 4):Int)
theorem Aeq(b:List UInt8)(n:Nat):(Ale b n).length=n:=by simp[Ale]
theorem Bha(b:List UInt8)(n:Nat):Ale b (n+1)=Ale b n++[(Ed (part b (4*n) 4):Int)]:=by simp[Ale,List.range_succ]
theorem Brj(b:List UInt8)(n:Nat)(h:4*n≤b.length):∀x∈Ale b n,0≤x∧x<4294967296:=by
 intro x hx
 simp only[Ale,List.mem_map,List.mem_range]at hx
 obtain⟨i,hi,rfl⟩:=hx
 have:=Bp8 (l:=part b (4*i) 4) (by rw[Cw (by omega)];omega)
 omega
def seekS(b:List UInt8)(n:Nat):List Int×Int:=
 if ¬(1≤n∧n≤1000)then([],2)else if b.length<4*n+4 then([],24)else if(Gy (b.take (4*n))).toNat≠Ed (part b (4*n) 4)then([],22)else
 if Ar3 (Ale b n)=true then(Ale b n,0)else([],12)
theorem Brg{b:List UInt8}{n:Nat}(h:1≤n∧n≤1000)(h2:¬b.length<4*n+4):Ba (Ad (Gy (b.take (4*n))):UInt64) (leU (part b (4*n) 4))=decide ((Gy (b.take (4*n))).toNat≠Ed (part b (4*n) 4)):=by
 rw[Agn,Hh,Bool.eq_iff_iff]
 simp only[bne_iff_ne,ne_eq,decide_eq_true_eq]
 rw[←UInt64.toNat_inj,Aj3 (by have:=(Gy (b.take (4*n))).toNat_lt;omega),Ajl (by rw[Cw (by omega)];omega)]
section
variable {b:List UInt8} {n:Nat}
theorem ss1(h:¬(1≤n∧n≤1000)):seekS b n=([],2):=by rw[seekS,if_pos h]
variable (h:1≤n∧n≤1000)
include h
theorem ss2(h2:b.length<4*n+4):seekS b n=([],24):=by rw[seekS,if_neg (fun e=>e h),if_pos h2]
variable (h2:¬b.length<4*n+4)
include h2
theorem ss3(h3:(Gy (b.take (4*n))).toNat≠Ed (part b (4*n) 4)):seekS b n=([],22):=by rw[seekS,if_neg (fun e=>e h),if_neg h2,if_pos h3]
theorem ss4(h3:(Gy (b.take (4*n))).toNat=Ed (part b (4*n) 4)):seekS b n=if Ar3 (Ale b n)=true then(Ale b n,0)else([],12):=by rw[seekS,if_neg (fun e=>e h),if_neg h2,if_neg (fun e=>e h3)]
end
theorem Bhf(b:List UInt8)(l8:List Int)(n:Nat)(hn:n≤1000)(h8:l8.length=n)(hb:4*n+4≤b.length)(hb2:b.length<4611686018427387904):∀(j i q:Nat),i+j=n→j<q→Pp b l8 q (i:Int) (Ale b i++List.replicate j 0)=Adj (Ale b n)
 |0,i,q+1,hi,_=>by
  obtain rfl:i=n:=by omega
  rw[Pp,Adp,if_neg (by rw[Af,Ac];simp;omega)];simp
 |j+1,i,q+1,hi,hq=>by
  have hlen:(Ale b i++List.replicate (j+1) 0).length=i+(j+1):=by simp[Aeq]
  have ha:=Bh0 b (4*i) 4 (by omega) (by omega) (by omega) hb2
  rw[Pp,Adp,if_pos (by rw[Af,Ac];simp;omega),Fc (by omega) (by omega),show(4:Int)*(i:Int)=((4*i:Nat):Int) by omega,show(4:Int)=((4:Nat):Int)from rfl,ha,Aa]
  simp only
  rw[Cf (by rw[hlen];omega),Aa,Uo _ (by rw[hlen];omega),Aa,Adc (by rw[Cw (by omega)];omega),Ag (by omega) (by omega),List.replicate_succ,Ati (Aeq _ _)]
  have ih:=Bhf b l8 n hn h8 hb hb2 j (i+1) q (by omega) (by omega)
  rw[Bha]at ih
  rw[show((i:Int)+1)=((i+1:Nat):Int) by omega,←ih]
  simp
theorem Bty(b:List UInt8)(n:Nat)(hb:b.length≤100100):Ag8 b (n:Int)=some (seekS b n):=by
 rw[Ag8,Aku]
 by_cases h:1≤n∧n≤1000
 ·rw[if_neg (by simp[Af,Ar];omega),Fc (by omega) (by omega),Ag (by omega) (by omega)]
  by_cases h2:b.length<4*n+4
  ·rw[if_pos (by rw[Af,Ac];simp;omega),ss2 h h2]
  ·have ha:Amv b (4*(n:Int)) 4=some (leU (part b (4*n) 4),0):=by
    rw[show(4:Int)*(n:Int)=((4*n:Nat):Int) by omega]
    exact Bh0 b (4*n) 4 (by omega) (by omega) (by omega) (by omega)
   rw[if_neg (by rw[Af,Ac];simp;omega),ha,Aa]
   simp only
   rw[Lf (by omega) (by omega),Aa,show(4*(n:Int)).toNat=4*n by omega,Bod _ (by simp;omega),Aa]
   simp only
   rw[Brg h h2]
   by_cases h3:(Gy (b.take (4*n))).toNat=Ed (part b (4*n) 4)
   ·have hlp:=Bhf b (List.replicate n 0) n (by omega) (by simp) (by omega) (by omega) n 0 Am (by omega) (by have:=Ak;omega)
    rw[if_neg (by simpa using h3),Azt (by omega) (by omega),Aa,Bp (by rw[Bc];simp),Aa,Ak8,Int.toNat_natCast]
    refine Eq.trans (hlp) ?_
    rw[Adj,Au1,Bc1 _ (by rw[Aeq];omega) (Brj b n (by omega)),Aa,ss4 h h2 h3]
    cases Ar3 (Ale b n)<;>rfl
   ·rw[if_pos (by simpa using h3),ss3 h h2 h3]
 ·rw[if_pos (by simp[Af,Ar];omega),ss1 h]
theorem Auv(b:List UInt8)(n:Nat)(hn:n≤1000)(hb:4*n+4≤b.length)(hb2:b.length<4611686018427387904):∀(j i q:Nat),i+j=n→j<q→Ir b (n:Int) q (i:Int) (Ale b i)=Sc (Ale b n)
 |0,i,q+1,hi,_=>by
  obtain rfl:i=n:=by omega
  rw[Ir,Sa,if_neg (by rw[Af];simp)]
 |j+1,i,q+1,hi,hq=>by
  have hc:Ca b ((4:Int)*(i:Int)) ((4:Int)*(i:Int)+4)=some (part b (4*i) 4):=by
   rw[show(4:Int)*(i:Int)=((4*i:Nat):Int) by omega]
   exact Mf (4*i) 4 (by omega)
  rw[Ir,Sa,if_pos (by rw[Af];simp;omega),Fc (by omega) (by omega),Ag (by omega) (by omega),hc,Aa,Bng _ (by rw[Cw (by omega)];omega),Aa,Cq (by rw[Aeq];simp;omega),Aa,
   Adc (by rw[Cw (by omega)];omega),Ag (by omega) (by omega),←Bha]
  exact Auv b n hn hb hb2 j (i+1) q (by omega) (by omega)
theorem Bvt(b:List UInt8)(n:Nat)(hb:b.length≤100100):Ys b (n:Int)=some (seekS b n):=by
 rw[Ys,Ad5]
 by_cases h:1≤n∧n≤1000
 ·rw[if_neg (by simp[Af,Ar];omega),Fc (by omega) (by omega),Ag (by omega) (by omega)]
  by_cases h2:b.length<4*n+4
  ·rw[if_pos (by rw[Af,Ac];simp;omega),ss2 h h2]
  ·have hc:Ca b ((4:Int)*(n:Int)) ((4:Int)*(n:Int)+4)=some (part b (4*n) 4):=by
    rw[show(4:Int)*(n:Int)=((4*n:Nat):Int) by omega]
    exact Mf (4*n) 4 (by omega)
   have hs:Ba (leU (part b (4*n) 4)) (Ad (Gy (b.take (4*n))):UInt64)=decide ((Gy (b.take (4*n))).toNat≠Ed (part b (4*n) 4)):=by
    rw[←Brg h h2,Agn,Agn,Bool.eq_iff_iff];simp only[bne_iff_ne,ne_eq];exact not_congr eq_comm
   rw[if_neg (by rw[Af,Ac];simp;omega),hc,Aa,Lf (by omega) (by omega),Aa,show(4*(n:Int)).toNat=4*n by omega,Bng _ (by rw[Cw (by omega)];omega),Aa,Bxf _ (by simp;omega),Aa,hs]
   by_cases h3:(Gy (b.take (4*n))).toNat=Ed (part b (4*n) 4)
   ·have hlp:=Auv b n (by omega) (by omega) (by omega) n 0 Am (by omega) (by have:=Ak;omega)
    rw[if_neg (by simpa using h3),Aea,Aev,Aep]
    refine Eq.trans hlp ?_
    rw[Sc,Ae1,Bt1 _ (by rw[Aeq];omega) (Brj b n (by omega)),Aa,ss4 h h2 h3]
    cases Ar3 (Ale b n)<;>rfl
   ·rw[if_pos (by simpa using h3),ss3 h h2 h3]
 ·rw[if_pos (by simp[Af,Ar];omega),ss1 h]
theorem Bdi{b:List UInt8}{n:Nat}(h:(seekS b n).2=0):seekS b n=(Ale b n,0)∧1≤n∧n≤1000∧4*n+4≤b.length∧(∀x∈Ale b n,5≤x)∧(Ale b n).sum≤100000:=by
 unfold seekS at h⊢
 split at h; · simp at h
 rename_i c1;rw[if_neg c1]
 split at h; · simp at h
 rename_i c2;rw[if_neg c2]
 split at h; · simp at h
 rename_i c3;rw[if_neg c3]
 split at h
 ·rename_i c4
  rw[if_pos c4]
  have c4':=c4
  rw[Ar3,Bool.and_eq_true,Bbp _ _ (by omega)]at c4'
  exact⟨rfl,by omega,by omega,by omega,c4'.2.1,c4'.2.2⟩
 ·simp at h
end Go.Pl
set_option linter.unusedVariables false
set_option linter.unusedSimpArgs false
namespace Go.Pl
open Go Go.Lv
def hdr(b:List UInt8):List UInt8:=b.drop (frontS b).1.toNat
abbrev Op8:=Int×Int×Int×Int×Int×Int×(List Int)×Int
def Bcv(e:Int):Op8:=(0,0,0,0,0,0,[],e)
theorem Bxx(A K:Nat)(h:A≤200000)(hk:K≤1000):Ae (Ae (A:Int) (Ay 4 (K:Int))) 4=((A+4*K+4:Nat):Int):=by
 rw[Fc (by omega) (by omega),Ag (a:=(A:Int)) (by omega) (by omega),Ag (by omega) (by omega)];omega
theorem Bt2{f c w r n:Nat}(h1:shapeB f c w r n=true)(h2:fitB c r n=true)(b:List UInt8)(hb:b.length≤100100)(A:Nat)(hA:A≤b.length):
  Se b (f:Int) (c:Int) (w:Int) (r:Int) (n:Int) (A:Int)=
   some (if(seekS (b.drop A) (framesL (longN r) n).length).2≠0 then Bcv (seekS (b.drop A) (framesL (longN r) n).length).2 else((f:Int),(c:Int),(w:Int),(r:Int),(n:Int),((A+4*(framesL (longN r) n).length+4:Nat):Int),(seekS (b.drop A) (framesL (longN r) n).length).1,0)):=by
 rw[Se,Ard,Aj5 h1 h2,Aa]
 simp only
 rw[if_neg (by rw[Aj];simp),Ty (by omega) (by omega),Aa,Ac,show(A:Int).toNat=A from rfl,Bty _ _ (by simp;omega),Aa]
 by_cases h:(seekS (b.drop A) (framesL (longN r) n).length).2≠0
 ·rw[if_pos h,if_pos (by rw[Aj];simpa using h)];rfl
 ·have h0:(seekS (b.drop A) (framesL (longN r) n).length).2=0:=by simpa using h
  obtain⟨g1,g2,g3,g4,g5,g6⟩:=Bdi h0
  have gl:(seekS (b.drop A) (framesL (longN r) n).length).1.length=(framesL (longN r) n).length:=by rw[g1];exact Aeq _ _
  rw[if_neg h,if_neg (by rw[Aj];simpa using h),Ac,gl,Bxx _ _ (by omega) (by omega)]
theorem Bxd{f c w r n:Nat}(h1:shapeB f c w r n=true)(h2:fitB c r n=true)(b:List UInt8)(hb:b.length≤100100)(A:Nat)(hA:A≤b.length):
  Ke b (f:Int) (c:Int) (w:Int) (r:Int) (n:Int) (A:Int)=
   some (if(seekS (b.drop A) (framesL (longN r) n).length).2≠0 then Bcv (seekS (b.drop A) (framesL (longN r) n).length).2 else((f:Int),(c:Int),(w:Int),(r:Int),(n:Int),((A+4*(framesL (longN r) n).length+4:Nat):Int),(seekS (b.drop A) (framesL (longN r) n).length).1,0)):=by
 have hs:(1≤r∧r≤1048576)∧1≤n∧1≤c:=by
  simp only[shapeB,decide_eq_true_eq]at h1;omega
 have hf:n≤4000:=by
  simp only[fitB,decide_eq_true_eq]at h2
  have:=Nat.div_le_self 4000 c
  omega
 rw[Ke,Aaq,Ty (by omega) (by omega),Aa,Amz hs.1.2 hs.2.1 hf,Aa,Ac,show(A:Int).toNat=A from rfl,Bvt _ _ (by simp;omega),Aa]
 simp only
 rw[Aa5,Abi]
 by_cases h:(seekS (b.drop A) (framesL (longN r) n).length).2≠0
 ·rw[if_pos h,if_pos (by rw[Aj];simpa using h)];rfl
 ·have h0:(seekS (b.drop A) (framesL (longN r) n).length).2=0:=by simpa using h
  obtain⟨g1,g2,g3,g4,g5,g6⟩:=Bdi h0
  have gl:(seekS (b.drop A) (framesL (longN r) n).length).1.length=(framesL (longN r) n).length:=by rw[g1];exact Aeq _ _
  rw[if_neg h,if_neg (by rw[Aj];simpa using h),Ac,gl,Bxx _ _ (by omega) (by omega)]
structure Opn (b p:List UInt8) (f c w r n A:Nat) (l:List Int):Prop where
 prog:seekto_Open b p=some ((f:Int),(c:Int),(w:Int),(r:Int),(n:Int),(A:Int),l,0)
 ref:cadenzaref40_Opened b p=some ((f:Int),(c:Int),(w:Int),(r:Int),(n:Int),(A:Int),l,0)
 pass:p.length≤64
 file:b.length≤100000
 shape:shapeB f c w r n=true
 fit:fitB c r n=true
 len:l.length=(framesL (longN r) n).length
 some1:1≤l.length∧l.length≤1000
 five:∀x∈l,5≤x
 sum:l.sum≤100000
 at':A≤b.length
 tag:(frontS b).2=0
 head:readS (hdr b)=((f:Int),(c:Int),(w:Int),(r:Int),(n:Int),0)
 tab:seekS (b.drop ((frontS b).1.toNat+22+(if f=2 then 8 else 0))) l.length=(l,0)
 pos:A=(frontS b).1.toNat+22+(if f=2 then 8 else 0)+4*l.length+4
theorem Cac(b p:List UInt8)(hb:b.length≤100100)(hp:p.length≤64):
  (∃e:Int,e≠0∧seekto_Open b p=some (Bcv e)∧cadenzaref40_Opened b p=some (Bcv e))∨(∃f c w r n A l,Opn b p f c w r n A l):=by
 by_cases h1:100000<b.length
 ·refine .inl ⟨4,by omega,?_,?_⟩
  ·rw[seekto_Open,Abc,if_neg (by rw[Ar,Ac];simp;omega),if_pos (by rw[Ar,Ac];simp;omega)];rfl
  ·rw[cadenzaref40_Opened,Od,if_pos (by rw[Ar,Ac];simp;omega)];rfl
 have hP:seekto_Open b p=seekto_Open b p:=rfl
 have hR:cadenzaref40_Opened b p=cadenzaref40_Opened b p:=rfl
 conv at hP=>rhs;rw[seekto_Open,Abc,if_neg (by rw[Ar,Ac];simp;omega),if_neg (by rw[Ar,Ac];simp;omega),Bcf b (by omega),Aa]
 conv at hR=>rhs;rw[cadenzaref40_Opened,Od,if_neg (by rw[Ar,Ac];simp;omega),Bii b (by omega),Aa]
 by_cases h2:(frontS b).2=0
 ·obtain⟨p0,p1,p2⟩:=Btp h2
  have hc:=Ty (l:=b) p0 p1
  simp only[h2]at hP hR
  rw[if_neg (by rw[Aj];simp),hc,Aa,show b.drop (frontS b).1.toNat=hdr b from rfl,Btu _ (by simp[hdr];omega),Aa]at hP
  rw[if_neg (by rw[Aj];simp),hc,Aa,show b.drop (frontS b).1.toNat=hdr b from rfl,Bw2 _ (by simp[hdr];omega),Aa]at hR
  by_cases h3:(readS (hdr b)).2.2.2.2.2=0
  ·obtain⟨g1,g2,g3,g4⟩:=But h3
   have hlen:(hdr b).length=b.length-(frontS b).1.toNat:=by simp[hdr]
   generalize hF:(frontS b).1.toNat=F at*
   have hF':(frontS b).1=(F:Int):=by omega
   rw[g1,hF']at hP hR
   simp only at hP hR
   generalize f0 (hdr b)=f at*
   generalize f1 (hdr b)=c at*
   generalize f2 (hdr b)=w at*
   generalize f3 (hdr b)=r at*
   generalize f4 (hdr b)=n at*
   have t22:Ae (F:Int) 22=((F+22:Nat):Int):=by rw[Ag (by omega) (by omega)];omega
   have t30:Ae ((F+22:Nat):Int) 8=((F+30:Nat):Int):=by rw[Ag (by omega) (by omega)];omega
   have hf12:f=1∨f=2:=by simp only[shapeB,decide_eq_true_eq]at g3;omega
   rw[if_neg (by rw[Aj];simp),t22,t30]at hP hR
   have hend:∀A:Nat,A≤b.length→A=F+22+(if f=2 then 8 else 0)→seekto_Open b p=Se b (f:Int) (c:Int) (w:Int) (r:Int) (n:Int) (A:Int)→cadenzaref40_Opened b p=Ke b (f:Int) (c:Int) (w:Int) (r:Int) (n:Int) (A:Int)→
     (∃e:Int,e≠0∧seekto_Open b p=some (Bcv e)∧cadenzaref40_Opened b p=some (Bcv e))∨(∃f c w r n A l,Opn b p f c w r n A l):=by
    intro A hA hA2 e1 e2
    rw[Bt2 g3 g4 b hb A hA]at e1
    rw[Bxd g3 g4 b hb A hA]at e2
    by_cases h:(seekS (b.drop A) (framesL (longN r) n).length).2≠0
    ·rw[if_pos h]at e1 e2
     exact .inl ⟨_,h,e1,e2⟩
    ·have h0:(seekS (b.drop A) (framesL (longN r) n).length).2=0:=by simpa using h
     obtain⟨k1,k2,k3,k4,k5,k6⟩:=Bdi h0
     have gl:(seekS (b.drop A) (framesL (longN r) n).length).1.length=(framesL (longN r) n).length:=by rw[k1];exact Aeq _ _
     rw[if_neg h]at e1 e2
     rw[List.length_drop]at k4
     refine .inr ⟨f,c,w,r,n,_,_,⟨e1,e2,hp,by omega,g3,g4,gl,by omega,by rw[k1];exact k5,by rw[k1];exact k6,by omega,h2,g1,by rw[gl,hF,←hA2];exact Prod.ext rfl h0,by rw[gl,hF,←hA2]⟩⟩
   by_cases hpass:((p==([]:List UInt8)) !=(geq (f:Int) (1:Int)))=true
   ·rw[if_pos hpass]at hP hR
    exact .inl ⟨26,by omega,hP,hR⟩
   ·rw[if_neg hpass]at hP hR
    have hpf:(p=[]↔f=1):=by
     rw[Bc]at hpass
     have h5:(p==([]:List UInt8))=((f:Int)==1):=by simpa using hpass
     have h6:(p==([]:List UInt8))=true↔((f:Int)==1)=true:=by rw[h5]
     rw[beq_iff_eq,beq_iff_eq]at h6
     rw[h6];omega
    by_cases h5:f=2
    ·have hpne:p≠ []:=fun e=>by have:=hpf.1 e;omega
     have h64:(p !=([]:List UInt8))=true:=by simpa using hpne
     rw[if_pos h64]at hP
     rw[if_pos (by rw[Bc,h5];rfl),Bh (by rw[Ac];omega) (by rw[Ac];omega)]at hR
     by_cases h6:b.length<F+30
     ·rw[if_pos (by rw[Af,Ac];simp;omega)]at hP hR
      exact .inl ⟨24,by omega,hP,hR⟩
     ·have hseg:((b.take (F+30)).drop (F+22)).length=8:=by simp;omega
      rw[if_neg (by rw[Af,Ac];simp;omega),Xa (by omega) (by omega) (by omega),Aa]at hP hR
      rw[Agd,Br8 p hp,Aa]at hP
      rw[Br6 p hp,Aa]at hR
      simp only at hP
      rw[if_neg (by rw[Aj,Aj,Ac,Ac,Mu,show((F+30:Nat):Int).toNat=F+30 from rfl,show((F+22:Nat):Int).toNat=F+22 from rfl,hseg];simp),Hj,Aa,Aa]at hP
      simp only at hP
      rw[if_neg (by rw[Aj];simp)]at hP
      generalize(b.take ((F+30:Nat):Int).toNat).drop ((F+22:Nat):Int).toNat=seg at*
      by_cases h7:seg=leB (Aim p).toNat 8
      ·rw[if_neg (by simp[h7])]at hP
       rw[if_neg (by simp[h7])]at hR
       exact hend (F+30) (by omega) (by rw[if_pos h5]) hP hR
      ·rw[if_pos (by simpa using h7)]at hP
       rw[if_pos (by simpa using h7)]at hR
       exact .inl ⟨26,by omega,hP,hR⟩
    ·have hpe:p=[]:=hpf.2 (by omega)
     rw[if_neg (by rw[hpe];simp)]at hP
     rw[if_neg (by rw[Bc];simp;omega)]at hR
     exact hend (F+22) (by omega) (by rw[if_neg h5]) hP hR
  ·generalize readS (hdr b)=v at*
   obtain⟨v1,v2,v3,v4,v5,v6⟩:=v
   simp only at h3 hP hR
   rw[if_pos (by rw[Aj];simpa using h3)]at hP hR
   exact .inl ⟨v6,h3,hP,hR⟩
 ·generalize frontS b=v at*
  obtain⟨v,e⟩:=v
  simp only at h2 hP hR
  rw[if_pos (by rw[Aj];simpa using h2)]at hP hR
  exact .inl ⟨e,h2,hP,hR⟩
end Go.Pl
set_option linter.unusedVariables false
set_option linter.unusedSimpArgs false
namespace Go.Pl
open Go Go.Lv
theorem Bgi(l:List Int)(i:Nat):(l.take i).sum+(l.drop i).sum=l.sum:=by
 conv=>rhs;rw[←List.take_append_drop i l,List.sum_append]
theorem Kz{l:List Int}(h5:∀x∈l,5≤x)(i:Nat):0≤(l.take i).sum∧(l.take i).sum≤l.sum:=by
 have h1:=Bvk (l.take i) fun x hx=>h5 x (List.mem_of_mem_take hx)
 have h2:=Bvk (l.drop i) fun x hx=>h5 x (List.mem_of_mem_drop hx)
 have:=Bgi l i
 omega
theorem Pv{l:List Int}{i:Nat}(h:i<l.length):(l.take (i+1)).sum=(l.take i).sum+l[i]:=by
 rw[Amx h,List.sum_append];simp
def Bbg(l:List Int)(n:Nat):List Int:=(List.range n).map fun i=>(l.take i).sum
theorem Bkk(l:List Int)(n:Nat):(Bbg l n).length=n:=by simp[Bbg]
theorem Bsr(l:List Int)(n:Nat):Bbg l (n+1)=Bbg l n++[(l.take n).sum]:=by simp[Bbg,List.range_succ]
theorem Bcd(l:List Int){n i:Nat}(h:i<n):getI (Bbg l n) (i:Int)=some ((l.take i).sum):=by
 rw[Cf (by rw[Bkk];exact h)];simp[Bbg]
section
variable {l:List Int} (hl:l.length≤1000) (h5:∀x∈l,5≤x) (hs:l.sum≤100000)
include hl h5 hs
theorem Bhe:∀(j i q:Nat),i+j=l.length→j<q→Ki l q (i:Int) ((l.take i).sum) (Bbg l (i+1))=some (Bbg l (l.length+1),0)
 |0,i,q+1,hi,_=>by
  rw[Ki,Tp,if_neg (by rw[Af,Ac];simp;omega),show i=l.length by omega];rfl
 |j+1,i,q+1,hi,hq=>by
  have hlt:i<l.length:=by omega
  have ih:=Bhe j (i+1) q (by omega) (by omega)
  have b1:=Kz h5 i
  have b2:=Kz h5 (i+1)
  have e:=Pv hlt
  rw[Bsr l (i+1),e]at ih
  rw[Ki,Tp,if_pos (by rw[Af,Ac];simp;omega),Cf hlt,Aa,Ag (by omega) (by omega),Cq (by simp[Bkk];omega),Aa,Ac2,Amy,Ag (by omega) (by omega),Ag (by omega) (by omega)]
  exact ih
theorem Bys(h1:1≤l.length):Adl l=some (Bbg l (l.length+1),0):=by
 have h:=Bhe hl h5 hs l.length 0 Am (by omega) (by have:=Ak;omega)
 have hx:∀x∈l,0≤x∧x<4294967296:=fun x hx=>by
  have:=Boc h5 x hx
  have:=h5 x hx
  omega
 have ht:Ar3 l=true:=by
  rw[Ar3,Bool.and_eq_true]
  exact⟨by simpa using⟨h1,hl⟩,(Bbp l 100000 (by omega)).2 ⟨h5,hs⟩⟩
 rw[Adl,Acw,Bc1 l hl hx,Aa,if_pos ht,if_neg (by rw[Aj];simp)]
 exact h
theorem Bfz(f c w r n A:Int)(hA:0≤A)(hA2:A≤200000)(k:Nat)(hk:k≤l.length):∀(j i q:Nat),i+j=k→j<q→Hw (k:Int) f c w r n A l q (A+(l.take i).sum) (i:Int)=some (A+(l.take k).sum)
 |0,i,q+1,hi,_=>by
  rw[Hw,Qe,if_neg (by rw[Af];simp;omega),show i=k by omega];rfl
 |j+1,i,q+1,hi,hq=>by
  have hlt:i<l.length:=by omega
  have ih:=Bfz f c w r n A hA hA2 k hk j (i+1) q (by omega) (by omega)
  have b1:=Kz h5 i
  have b2:=Kz h5 (i+1)
  have e:=Pv hlt
  rw[e,←Int.add_assoc]at ih
  rw[Hw,Qe,if_pos (by rw[Af];simp;omega),Cf hlt,Aa,Ag (by omega) (by omega),Ag (by omega) (by omega)]
  exact ih
theorem Bgx(f c w r n A:Int)(hA:0≤A)(hA2:A≤200000)(k:Nat)(hk:k≤l.length):Aic f c w r n A l (k:Int)=some (A+(l.take k).sum):=by
 have h:=Bfz hl h5 hs f c w r n A hA hA2 k hk k 0 Am (by omega) (by have:=Ak;omega)
 rw[List.take_zero,List.sum_nil,Int.add_zero]at h
 exact h
end
theorem Avs{g n:Nat}(hg:1≤g)(hn:1≤n){x:Int}(h:x∈framesL g n):∃m:Nat,x=m∧1≤m∧m≤n:=by
 have hmul:=Nat.div_mul_le_self (n-1) g
 rw[framesL,List.mem_append]at h
 rcases h with h|h
 ·rw[List.mem_replicate]at h
  have h1:1≤(n-1)/g:=Nat.pos_of_ne_zero h.1
  have:=Nat.mul_le_mul_right g h1
  exact⟨g,h.2,hg,by omega⟩
 ·rw[List.mem_singleton]at h
  exact⟨_,h,by omega,by omega⟩
theorem Sm{f c w r n:Nat}(h:shapeB f c w r n=true):(1≤c∧c≤6)∧Cl (w:Int)∧(1≤r∧r≤1048576)∧1≤n∧(f=1∨f=2):=by
 simp only[shapeB,decide_eq_true_eq]at h
 refine⟨h.2.1,?_,h.2.2.2.1,h.2.2.2.2,h.1⟩
 rcases h.2.2.1 with rfl|rfl|rfl
 ·exact .inl rfl
 ·exact .inr (.inl rfl)
 ·exact .inr (.inr rfl)
theorem Btv{b p:List UInt8}{f c w r n A:Nat}{l:List Int}(o:Opn b p f c w r n A l)(k:Nat)(hk:k<l.length):
  ∃y:List UInt8×Int,Pg (k:Int) (framesL (longN r) n) (f:Int) (c:Int) (w:Int) (r:Int) (n:Int) (A:Int) b (tapsOf p) l (Bbg l (l.length+1))=some y∧
   cadenzaref40_Got b p (f:Int) (c:Int) (w:Int) (r:Int) (n:Int) (A:Int) l (k:Int)=some y:=by
 obtain⟨hc,hw,hr,hn,_⟩:=Sm o.shape
 have hfit:n≤4000/c:=by have:=o.fit;simp only[fitB,decide_eq_true_eq]at this;exact this.1
 have hn4:n≤4000:=by have:=Nat.div_le_self 4000 c;omega
 have hA:=o.at'
 have hfile:=o.file
 have hlen:=o.len
 have b1:=Kz o.five k
 have b2:=Kz o.five (k+1)
 have e:=Pv hk
 have h5:=o.five l[k] (List.getElem_mem _)
 have hsum:=o.sum
 have hs1:=o.some1
 have hkf:k<(framesL (longN r) n).length:=by omega
 obtain⟨m,hm,m1,m2⟩:=Avs (Acz r) hn (List.getElem_mem hkf)
 have e1:Ae (k:Int) 1=((k+1:Nat):Int):=by rw[Ag (by omega) (by omega)];omega
 rw[Pg,Aft,if_neg (by rw[Aj];simp),if_neg (by simp[Af,Cz,Ac];omega),e1,Bcd l (by omega),Bcd l (by omega),Aa,Aa,Aa,Aa,Afm,Afo,Ag (a:=(A:Int)) (b:=(l.take (k+1)).sum) (by omega) (by omega),Ag (by omega) (by omega)]
 rw[cadenzaref40_Got,Vh,Bgx hs1.2 o.five o.sum _ _ _ _ _ (A:Int) (by omega) (by omega) k (by omega),Aa,Cf hk,Aa,Bh (by rw[Ac];omega) (by rw[Ac];omega)]
 by_cases hto:(b.length:Int)<(A:Int)+(l.take (k+1)).sum
 ·rw[if_pos (by rw[Ar,Ac,decide_eq_true_eq];omega),if_pos (by rw[Af,Ac,decide_eq_true_eq];omega)]
  exact⟨_,rfl,rfl⟩
 ·rw[if_neg (by rw[Ar,Ac,decide_eq_true_eq];omega),if_neg (by rw[Af,Ac,decide_eq_true_eq];omega),Bmi p o.pass,Amz hr.2 hn hn4]
  simp only[Aa]
  rw[Ag (a:=(A:Int)+(l.take k).sum) (b:=l[k]) (by omega) (by omega),Int.add_assoc,←e,Cf hkf,hm]
  simp only[Aa]
  rw[Xa (by omega) (by omega) (by omega),Aa,Aa]
  obtain⟨x,er,g1,g2,g3,_⟩:=Baq (ch:=c) (n:=m) (t:=tapsOf p) ((b.take ((A:Int)+(l.take (k+1)).sum).toNat).drop ((A:Int)+(l.take k).sum).toNat) hw (Bfh p) hc.1 hc.2 m1 (by omega)
  rw[g1,g2,Aa,Aa]
  simp only
  rw[Afj,Afb,Uy,Uk]
  by_cases her:er=0
  ·obtain⟨g4,g5,_⟩:=g3 her
   rw[if_neg (by rw[Aj];simpa using her),if_neg (by rw[Aj];simpa using her),Bet hw g5 g4,Bhg hw g5 g4,Aa,Aa]
   exact⟨_,rfl,rfl⟩
  ·rw[if_pos (by rw[Aj];simpa using her),if_pos (by rw[Aj];simpa using her)]
   exact⟨_,rfl,rfl⟩
theorem Bmo{b p:List UInt8}{f c w r n A:Nat}{l:List Int}(o:Opn b p f c w r n A l)(k:Int):Lz b p k=Pg k (framesL (longN r) n) (f:Int) (c:Int) (w:Int) (r:Int) (n:Int) (A:Int) b (tapsOf p) l (Bbg l (l.length+1)):=by
 have hs1:=o.some1
 rw[Lz,Afl,o.prog,Aa]
 simp only
 rw[if_neg (by rw[Aj];simp),Aj5 o.shape o.fit,Aa]
 simp only
 rw[if_neg (by rw[Aj];simp),Bys hs1.2 o.five o.sum hs1.1,Aa]
 simp only
 rw[if_neg (by rw[Aj];simp),Bt9 p o.pass,Aa]
 simp only
 rw[if_neg (by rw[Aj];simp),Ac,←o.len,Bcd l (by omega),Aa,Aa]
theorem Auc(l:List Int)(hl:l.length≤100000):∀(j i q:Nat),i+j=l.length→j<q→Dp l l q (i:Int)=some true
 |0,i,q+1,hi,_=>by
  rw[Dp,Il,if_neg (by rw[Af,Ac];simp;omega)];rfl
 |j+1,i,q+1,hi,hq=>by
  rw[Dp,Il,if_pos (by rw[Af,Ac];simp;omega),Cf (by omega),Aa,Aa,if_neg (by rw[Aj];simp),Ag (by omega) (by omega)]
  exact Auc l hl j (i+1) q (by omega) (by omega)
theorem Bw5(l:List Int)(hl:l.length≤100000):By l l=some true:=by
 rw[By,Mi,if_neg (by rw[Aj];simp)]
 exact Auc l hl l.length 0 Am (by omega) (by have:=Ak;omega)
end Go.Pl
set_option linter.unusedVariables false
set_option linter.unusedSimpArgs false
namespace Go.Pl
open Go Go.Lv
def De(b:List UInt8):List UInt8:=b.drop (b.length-32)
theorem Bu4{b:List UInt8}(h:32≤b.length):(De b).length=32:=by rw[De,List.length_drop];omega
def itA(t:List UInt8):Nat:=Ed (part t 12 4)-32
def mnA(t:List UInt8):Nat:=Ed (part t 16 4)
def Vm(b:List UInt8):Int×Int:=
 if ¬(32≤b.length∧(De b).take 8=APE)then(0,6)else if Afd (De b)=true then(0,12)else
 if De b=Ql (itA (De b)) (mnA (De b)) 0 then(if b.length<itA (De b)+32 then(0,24)else(((itA (De b)+32:Nat):Int),0))else
 if De b≠Ql (itA (De b)) (mnA (De b)) 2147483648 then(0,12)else
 if b.length<itA (De b)+64 then(0,24)else
 if(b.take (b.length-(itA (De b)+64)+32)).drop (b.length-(itA (De b)+64))≠Ql (itA (De b)) (mnA (De b)) 2684354560 then(0,12)else(((itA (De b)+64:Nat):Int),0)
section
variable {b:List UInt8}
theorem ba1(h:¬(32≤b.length∧(De b).take 8=APE)):Vm b=(0,6):=by rw[Vm,if_pos h]
variable (h:32≤b.length∧(De b).take 8=APE)
include h
theorem ba2(h2:Afd (De b)=true):Vm b=(0,12):=by rw[Vm,if_neg (fun h'=>h' h),if_pos h2]
variable (h2:Afd (De b)=false)
include h2
theorem ba3(h3:De b=Ql (itA (De b)) (mnA (De b)) 0):Vm b=if b.length<itA (De b)+32 then(0,24)else(((itA (De b)+32:Nat):Int),0):=by
 rw[Vm,if_neg (fun h'=>h' h),if_neg (by rw[h2];simp),if_pos h3]
variable (h3:De b≠Ql (itA (De b)) (mnA (De b)) 0)
include h3
theorem ba4(h4:De b≠Ql (itA (De b)) (mnA (De b)) 2147483648):Vm b=(0,12):=by
 rw[Vm,if_neg (fun h'=>h' h),if_neg (by rw[h2];simp),if_neg h3,if_pos h4]
variable (h4:De b=Ql (itA (De b)) (mnA (De b)) 2147483648)
include h4
theorem ba5(h5:b.length<itA (De b)+64):Vm b=(0,24):=by
 rw[Vm,if_neg (fun h'=>h' h),if_neg (by rw[h2];simp),if_neg h3,if_neg (fun e=>e h4),if_pos h5]
theorem ba6(h5:¬b.length<itA (De b)+64):Vm b=if(b.take (b.length-(itA (De b)+64)+32)).drop (b.length-(itA (De b)+64))≠Ql (itA (De b)) (mnA (De b)) 2684354560 then(0,12)else(((itA (De b)+64:Nat):Int),0):=by
 rw[Vm,if_neg (fun h'=>h' h),if_neg (by rw[h2];simp),if_neg h3,if_neg (fun e=>e h4),if_neg h5]
end
theorem Bxg{b:List UInt8}{n:Int}(h:Vm b=(n,0)):32≤n∧n≤b.length:=by
 unfold Vm at h
 split at h; · simp at h
 rename_i h32
 split at h; · simp at h
 split at h
 ·split at h; · simp at h
  simp only[Prod.mk.injEq,and_true]at h;omega
 split at h; · simp at h
 split at h; · simp at h
 split at h; · simp at h
 simp only[Prod.mk.injEq,and_true]at h;omega
theorem Bs8{b:List UInt8}(h:(Vm b).2≠0):(Vm b).1=0:=by
 revert h
 unfold Vm
 split; · simp
 split; · simp
 split
 ·split<;>simp
 split; · simp
 split; · simp
 split<;>simp
theorem Cdb{b:List UInt8}(h:32≤b.length)(hl:b.length<4611686018427387904):Ah (Ac b) 32=((b.length-32:Nat):Int)∧Ca b ((b.length-32:Nat):Int) (Ac b)=some (De b):=by
 refine⟨by rw[Ac,Bh (by omega) (by omega)];omega,?_⟩
 rw[Ty (by omega) (by omega)];rfl
theorem Bs6(b:List UInt8)(hl:b.length<4611686018427387904):Axd b=some (Vm b):=by
 rw[Axd,Aso]
 by_cases h32:32≤b.length
 ·obtain⟨e1,e2⟩:=Cdb h32 hl
  have hl3:=Bu4 h32
  rw[if_neg (by rw[e1,Af];simp),e1,e2,Aa,An0,Aa]
  by_cases hp:(De b).take 8=APE
  ·have h:=And.intro h32 hp
   rw[if_neg (by simpa [APE,hl3]using hp),Arn,Bay,e1,e2,Aa,Ant _ 0 (by omega) (by omega) (by decide),Aa]
   cases hb:Afd (De b)with
   |true=>
    rw[ba2 h hb]
    simp only[if_true,Bool.false_eq_true,if_false]
    rw[Aa,Ant _ 2147483648 (by omega) (by omega) (by decide),Aa,hb];rfl
   |false=>
    obtain⟨i1,i2,i3,i4⟩:=Bdj (De b) (by omega) hb
    have eI:Ed (part (De b) 12 4)-32=itA (De b):=rfl
    have eM:Ed (part (De b) 16 4)=mnA (De b):=rfl
    simp only[Bool.false_eq_true,if_false]
    rw[eI]at i3
    rw[eM]at i4
    rw[eI,eM]
    by_cases c1:De b=Ql (itA (De b)) (mnA (De b)) 0
    ·have c1':De b=Ql (itA (De b)) (mnA (De b)) (0:UInt64).toNat:=c1
     rw[if_pos (by simpa using c1'),ba3 h hb c1]
     by_cases c2:b.length<itA (De b)+32
     ·rw[if_pos (by rw[Af];simp;omega),if_pos c2]
     ·rw[if_neg (by rw[Af];simp;omega),if_neg c2,Ag (by omega) (by omega)];rfl
    ·have c1':¬De b=Ql (itA (De b)) (mnA (De b)) (0:UInt64).toNat:=c1
     rw[if_neg (by simpa using c1'),Aa,Ant _ 2147483648 (by omega) (by omega) (by decide),Aa,hb]
     simp only[Bool.false_eq_true,if_false]
     rw[eI,eM]
     by_cases c2:De b=Ql (itA (De b)) (mnA (De b)) 2147483648
     ·have c2':De b=Ql (itA (De b)) (mnA (De b)) (2147483648:UInt64).toNat:=c2
      rw[if_neg (by simpa using c2'),Ag (by omega) (by omega)]
      by_cases c3:b.length<itA (De b)+64
      ·rw[if_pos (by rw[Af,Ac];simp;omega),ba5 h hb c1 c2 c3]
      ·rw[if_neg (by rw[Af,Ac];simp;omega),Ac,Bh (by omega) (by omega),Ag (by omega) (by omega),Xa (by omega) (by omega) (by omega),Aa,Bb6 _ _ _ i3 i4 (by decide),Aa,Hj,Aa,ba6 h hb c1 c2 c3]
       rw[show((b.length:Int)-(((itA (De b):Nat):Int)+64)).toNat=b.length-(itA (De b)+64) by omega,show((b.length:Int)-(((itA (De b):Nat):Int)+64)+32).toNat=b.length-(itA (De b)+64)+32 by omega]
       have e7:(2684354560:UInt64).toNat=2684354560:=rfl
       rw[e7]
       by_cases c4:(b.take (b.length-(itA (De b)+64)+32)).drop (b.length-(itA (De b)+64))=Ql (itA (De b)) (mnA (De b)) 2684354560
       ·rw[if_neg (by simpa using c4),if_neg (fun e=>e c4)];rfl
       ·rw[if_pos (by simpa using c4),if_pos c4]
     ·have c2':¬De b=Ql (itA (De b)) (mnA (De b)) (2147483648:UInt64).toNat:=c2
      rw[if_pos (by simpa using c2'),ba4 h hb c1 c2]
  ·rw[if_pos (by rw[Bool.not_eq_true',decide_eq_false_iff_not];intro h;exact hp h.2),ba1 (fun h=>hp h.2)]
 ·rw[if_pos (by rw[Ac,Bh (by omega) (by omega),Af];simp;omega),ba1 (fun h=>h32 h.1)]
def Caj:Nat→List UInt8→Nat→Int×Int
 |0,_,_=>(0,38)
 |j+1,b,a=>if b=[]then((a:Int),0)else if(Vm b).2≠0 then(0,38)else Caj j (b.take (b.length-(Vm b).1.toNat)) (a+1)
theorem Bmz:∀(j q a:Nat) (b:List UInt8),b.length<j→j≤q→b.length≤4000→a+b.length≤4000→Pk q (a:Int) b=some (Caj j b a)
 |0,_,_,_,h,_,_,_=>by omega
 |j+1,q+1,a,b,h,hq,h4,ha=>by
  rw[Pk,Afq,Caj]
  by_cases hb:b=[]
  ·subst hb;rw[if_neg (by decide),if_pos rfl];rfl
  ·have hpos:0<b.length:=List.length_pos_iff.2 hb
   rw[if_pos (by rw[Ar,Ac];simp;omega),if_neg hb,Bs6 b (by omega),Aa]
   have hbad:=Bs8 (b:=b)
   have hok:=fun n=>Bxg (b:=b) (n:=n)
   generalize Vm b=v at*
   obtain⟨n,e⟩:=v
   simp only at hbad⊢
   rw[Acp,Ada]
   by_cases he:e≠0
   ·rw[if_pos he,hbad he,if_pos (by decide)]
   ·obtain⟨k1,k2⟩:=hok n (by rw[show e=0 by simpa using he])
    rw[if_neg he,if_neg (by rw[Bc];simp;omega),Ac,Bh (by omega) (by omega),Lf (by omega) (by omega),Aa,Acr,Amf,Ag (by omega) (by omega)]
    rw[show((b.length:Int)-n).toNat=b.length-n.toNat by omega]
    have ih:=Bmz j q (a+1) (b.take (b.length-n.toNat)) (by rw[List.length_take];omega) (by omega) (by rw[List.length_take];omega) (by rw[List.length_take];omega)
    rw[←ih];rfl
def Bb2(b:List UInt8):Int×Int:=if 4000<b.length then(0,38)else Caj (b.length+1) b 0
theorem Bk1(b:List UInt8)(hl:b.length<4611686018427387904):Agh b=some (Bb2 b):=by
 rw[Agh,Afk,Bb2]
 by_cases h:4000<b.length
 ·rw[if_pos (by rw[Ar,Ac];simp;omega),if_pos h]
 ·rw[if_neg (by rw[Ar,Ac];simp;omega),if_neg h]
  exact Bmz _ Am 0 b (by omega) (by have:=Ak;omega) (by omega) (by omega)
end Go.Pl
set_option linter.unusedVariables false
set_option linter.unusedSimpArgs false
namespace Go.Pl
open Go Go.Lv
theorem Bi6{a b:Nat}(h:a<9223372036854775808):Bf (a:Int) (b:Int)=((a/b:Nat):Int):=by
 have:a/b≤a:=Nat.div_le_self _ _
 rw[Ae9,Int.tdiv_eq_ediv_of_nonneg (by omega),←Int.natCast_ediv]
 generalize a/b=k at*
 exact Br (by omega) (by omega)
theorem Aze{bits:Int}(h:Cl bits)(x:Int):(Ac0 bits x).length=wB bits:=by
 obtain rfl|rfl|rfl:=h<;>rfl
theorem Ast{bits:Int}(h:Cl bits):∀l:List Int32,(bytesB bits l).length=l.length*wB bits
 |[]=>by simp[bytesB]
 |x::l=>by
  have h1:=Ast h l
  have h2:=Aze h x.toInt
  simp only[bytesB,List.flatMap_cons,List.length_append,List.length_cons,Nat.succ_mul]at*
  omega
def segF(b:List UInt8)(A:Nat)(l:List Int)(k:Nat):List UInt8:=(b.take ((A:Int)+(l.take (k+1)).sum).toNat).drop ((A:Int)+(l.take k).sum).toNat
structure Gts (b p:List UInt8) (f c w r n A:Nat) (l:List Int) (k m:Nat) (x:List Int32) (s:List UInt8) (e:Int):Prop where
 mom:getI (framesL (longN r) n) (k:Int)=some (m:Int)
 pos:1≤m∧m*c≤4000
 got:cadenzaref40_Got b p (f:Int) (c:Int) (w:Int) (r:Int) (n:Int) (A:Int) l (k:Int)=some (s,e)
 none':e≠0→s=[]∧x=[]
 some':e=0→s=bytesB (w:Int) x∧x.length=m*c∧cadenzaref18_Check (w:Int) x=some 0∧width_Bytes (w:Int) x=some (s,0)∧(A:Int)+(l.take (k+1)).sum≤b.length
 way:((b.length:Int)<(A:Int)+(l.take (k+1)).sum∧e=24)∨((A:Int)+(l.take (k+1)).sum≤b.length∧deframe_Decode (c:Int) (w:Int) (tapsOf p) (m:Int) (segF b A l k)=some (x,e)∧cadenzaref21_Decode (c:Int) (w:Int) (tapsOf p) (m:Int) (segF b A l k)=some (x,e))
theorem Atr{b p:List UInt8}{f c w r n A:Nat}{l:List Int}(o:Opn b p f c w r n A l)(k:Nat)(hk:k<l.length):∃m x s e,Gts b p f c w r n A l k m x s e:=by
 obtain⟨hc,hw,hr,hn,_⟩:=Sm o.shape
 have hfit:n≤4000/c:=by have:=o.fit;simp only[fitB,decide_eq_true_eq]at this;exact this.1
 have hn4:n≤4000:=by have:=Nat.div_le_self 4000 c;omega
 have hA:=o.at'
 have hfile:=o.file
 have hlen:=o.len
 have b1:=Kz o.five k
 have b2:=Kz o.five (k+1)
 have e:=Pv hk
 have h5:=o.five l[k] (List.getElem_mem _)
 have hsum:=o.sum
 have hs1:=o.some1
 have hkf:k<(framesL (longN r) n).length:=by omega
 obtain⟨m,hm,m1,m2⟩:=Avs (Acz r) hn (List.getElem_mem hkf)
 have hmom:getI (framesL (longN r) n) (k:Int)=some (m:Int):=by rw[Cf hkf,hm]
 have hpos:1≤m∧m*c≤4000:=by
  refine⟨m1,?_⟩
  have:=Nat.mul_le_mul_right c (Nat.le_trans m2 hfit)
  have:=Nat.div_mul_le_self 4000 c
  omega
 have hR:cadenzaref40_Got b p (f:Int) (c:Int) (w:Int) (r:Int) (n:Int) (A:Int) l (k:Int)=cadenzaref40_Got b p (f:Int) (c:Int) (w:Int) (r:Int) (n:Int) (A:Int) l (k:Int):=rfl
 conv at hR=>rhs;rw[cadenzaref40_Got,Vh,Bgx hs1.2 o.five o.sum _ _ _ _ _ (A:Int) (by omega) (by omega) k (by omega),Aa,Cf hk,Aa,Bh (by rw[Ac];omega) (by rw[Ac];omega)]
 by_cases hto:(b.length:Int)<(A:Int)+(l.take (k+1)).sum
 ·rw[if_pos (by rw[Af,Ac,decide_eq_true_eq];omega)]at hR
  exact⟨m,[],[],24,hmom,hpos,hR,fun _=>⟨rfl,rfl⟩,fun h=>by simp at h, .inl ⟨hto,rfl⟩⟩
 ·rw[if_neg (by rw[Af,Ac,decide_eq_true_eq];omega),Bmi p o.pass,Amz hr.2 hn hn4]at hR
  simp only[Aa]at hR
  rw[Ag (a:=(A:Int)+(l.take k).sum) (b:=l[k]) (by omega) (by omega),Int.add_assoc,←e,hmom]at hR
  simp only[Aa]at hR
  rw[Xa (by omega) (by omega) (by omega),Aa]at hR
  obtain⟨x,er,g1,g2,g3,g4⟩:=Baq (ch:=c) (n:=m) (t:=tapsOf p) (segF b A l k) hw (Bfh p) hc.1 hc.2 m1 (by omega)
  rw[show(b.take ((A:Int)+(l.take (k+1)).sum).toNat).drop ((A:Int)+(l.take k).sum).toNat=segF b A l k from rfl,g2,Aa]at hR
  simp only at hR
  rw[Uy,Uk]at hR
  by_cases her:er=0
  ·obtain⟨g5,g6,g7⟩:=g3 her
   rw[if_neg (by rw[Aj];simpa using her),Bhg hw g6 g5,Aa]at hR
   subst her
   exact⟨m,x,_,0,hmom,hpos,hR,fun h=>absurd rfl h,fun _=>⟨rfl,g7,g5,Bet hw g6 g5,by omega⟩, .inr ⟨by omega,g1,g2⟩⟩
  ·rw[if_pos (by rw[Aj];simpa using her)]at hR
   exact⟨m,x,_,er,hmom,hpos,hR,fun h=>⟨rfl,g4 h⟩,fun h=>absurd h her, .inr ⟨by omega,g1,g2⟩⟩
theorem Gts.lens{b p:List UInt8}{f c w r n A:Nat}{l:List Int}{k m:Nat}{x:List Int32}{s:List UInt8}{e:Int}(hw:Cl (w:Int))(g:Gts b p f c w r n A l k m x s e):s.length≤12000∧x.length≤4000∧(e=0→s.length=m*c*wB (w:Int)):=by
 by_cases he:e=0
 ·obtain⟨h1,h2,_⟩:=g.some' he
  have h3:=An5 (w:Int) x
  have h4:=Ast hw x
  have h5:=g.pos
  rw[←h1]at h3 h4
  refine⟨by omega,by omega,fun _=>by rw[h4,h2]⟩
 ·obtain⟨h1,h2⟩:=g.none' he
  exact⟨by simp[h1],by simp[h2],fun h=>absurd h he⟩
def Cv(b p:List UInt8)(f c w r n A:Nat)(l:List Int)(k:Nat):List UInt8×Int:=(cadenzaref40_Got b p (f:Int) (c:Int) (w:Int) (r:Int) (n:Int) (A:Int) l (k:Int)).getD ([],0)
theorem Gts.eq{b p:List UInt8}{f c w r n A:Nat}{l:List Int}{k m:Nat}{x:List Int32}{s:List UInt8}{e:Int}(g:Gts b p f c w r n A l k m x s e):Cv b p f c w r n A l k=(s,e):=by rw[Cv,g.got];rfl
def Ce0(b:List UInt8)(A:Nat)(l:List Int):Int:=(Bb2 (b.drop ((A:Int)+l.sum).toNat)).2
end Go.Pl
