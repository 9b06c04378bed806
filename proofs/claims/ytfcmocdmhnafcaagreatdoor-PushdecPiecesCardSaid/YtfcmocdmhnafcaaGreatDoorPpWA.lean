/- A part of the proof of a statement of this seat (see the text that ends in Proof): LwBase, LwBitB, LwLe, LwBits, LwRef02, LwCut, LwUn, LwRice, LwDual, LwVal, LwI32, LwFil, LwUnm, LwSam, LwCrc, LwFrm, LwC64, LwWby, LwId, LwApe, LwStrip, LwLen, LwHead, LwSeek, LwOpen, LwFrame, LwBack, LwGot, LwWs, LwGoes, LwPol, LwRt, LwClip, LwPts, LwTrc, LwPd, LwDt, LwDu, LwNn, LwHdI. No conditions of its own. -/
import Derived.Test.YtfcmocdmhnafcaaGreatDoorPpBA
import Derived.Test.YtfcmocdmhnafcaaGreatDoorPpPA
set_option linter.unusedVariables false
set_option linter.unusedSimpArgs false
namespace Go.Lv
theorem Ah{a b:Int}(h: -9223372036854775808≤a+b)(h':a+b≤9223372036854775807):Ae a b=a+b:=by rw[Cee,Ce h h']
theorem Bv{a b:Int}(h: -9223372036854775808≤a-b)(h':a-b≤9223372036854775807):Aj a b=a-b:=by rw[Cem,Ce h h']
theorem Ib{a b:Int}(h: -9223372036854775808≤a*b)(h':a*b≤9223372036854775807):Bi a b=a*b:=by rw[Bz4,Ce h h']
theorem Aie(c:UInt8):(Ad c:Int)=(c.toNat:Int):=by rw[Bxq,Ce]<;>have:=c.toNat_lt<;>omega
theorem Bqz(c:UInt32):(Ad c:Int)=(c.toNat:Int):=by rw[Bv4,Ce]<;>have:=c.toNat_lt<;>omega
theorem Axe(c:UInt8):(Ad c:UInt64)=UInt64.ofNat c.toNat:=by simp only[Ad,Yh,Gt]
theorem Hx(c:UInt32):(Ad c:UInt64)=UInt64.ofNat c.toNat:=by simp only[Ad,Uz,Gt]
theorem Aoi(c:UInt64):(Ad c:UInt8)=UInt8.ofNat c.toNat:=by simp only[Ad,Ig,Md]
theorem Axc(c:UInt32):(Ad c:UInt8)=UInt8.ofNat c.toNat:=by simp only[Ad,Uz,Md]
theorem Zm(n:Nat):(Ad (n:Int):UInt64)=UInt64.ofNat n:=by simp only[Ad];exact Gt n
theorem Bia(n:Nat):(Ad (n:Int):UInt32)=UInt32.ofNat n:=by simp only[Ad];exact Ef n
theorem Bzv(n:Nat):(Ad (n:Int):UInt8)=UInt8.ofNat n:=by simp only[Ad];exact Md n
theorem Azo{c:UInt64}(h:c.toNat<9223372036854775808):(Ad c:Int)=(c.toNat:Int):=by rw[Bu0,Ce]<;>omega
theorem Btt:LIM=17179869184:=by decide
theorem Am:36893488147419103231<FUEL:=by decide
theorem Cc{α:Type}{l:List α}{n:Nat}(h:n<l.length):getI l (n:Int)=some l[n]:=by simp[getI,h]
theorem Vy{α:Type}{l:List α}{n:Nat}(x:α)(h:n<l.length):Kt l (n:Int) x=some (l.set n x):=by simp[Kt,h]
theorem Ad9{α:Type}{l:List α}{a b:Int}(h:0≤a)(h1:a≤b)(h2:b≤l.length):Bb l a b=some ((l.take b.toNat).drop a.toNat):=by rw[Bb,if_pos ⟨h,h1,h2⟩]
theorem Cx{α:Type}{l:List α}{a:Int}(h:0≤a)(h1:a≤l.length):Bb l a (Ac l)=some (l.drop a.toNat):=by
 unfold Ac;rw[Ad9 h h1 (Int.le_refl _),Int.toNat_natCast,List.take_length]
theorem Cs{α:Type}{l:List α}{b:Int}(h:0≤b)(h1:b≤l.length):Bb l 0 b=some (l.take b.toNat):=by rw[Ad9 (Int.le_refl _) h h1];rfl
theorem Cj{α:Type}{l m:List α}(h:l.length+m.length≤17179869184):Da l m=some (l++m):=by rw[Da,Btt,if_pos h]
theorem Bdx{α:Type}{n:Int}{z:α}(h:0≤n)(h':n≤17179869184):mkI n z=some (List.replicate n.toNat z):=by rw[mkI,Btt,if_pos ⟨h,h'⟩]
theorem Cv{b:Bool}(h:b=true):Jp b=some ():=by rw[h];rfl
theorem Aa{α β:Type}(a:α)(f:α→Option β):Option.bind (some a) f=f a:=rfl
theorem drop_cons{α:Type}{l:List α}{n:Nat}(h:n<l.length):l.drop n=l[n]::l.drop (n+1):=List.drop_eq_getElem_cons h
theorem Ah9{α:Type}{l:List α}{n:Nat}(h:n<l.length):l.take (n+1)=l.take n++[l[n]]:=by rw[List.take_add_one,List.getElem?_eq_getElem h];rfl
def Eh:List UInt8→Nat
 |[]=>0
 |x::r=>x.toNat+256*Eh r
theorem Bkw:∀l:List UInt8,Eh l<256^l.length
 |[]=>by simp[Eh]
 |x::r=>by
  have h:=Bkw r
  have:=x.toNat_lt
  simp only[Eh,List.length_cons,Nat.pow_succ]
  omega
theorem Bfc:∀l m:List UInt8,Eh (l++m)=Eh l+256^l.length*Eh m
 |[],m=>by simp[Eh]
 |x::r,m=>by
  simp only[Eh,List.cons_append,Bfc r m,List.length_cons,Nat.pow_succ,Nat.mul_add]
  rw[Nat.mul_comm (256^r.length) 256,Nat.mul_assoc];omega
def leU(l:List UInt8):UInt64:=UInt64.ofNat (Eh l)
theorem Cap{l:List UInt8}(h:l.length≤8):Eh l<18446744073709551616:=by
 have h1:=Bkw l
 have h2:256^l.length≤256^8:=Nat.pow_le_pow_right (by omega) h
 exact Nat.lt_of_lt_of_le h1 (by simpa using h2)
theorem Brq{l:List UInt8}(h:l.length≤4):Eh l<4294967296:=by
 have h1:=Bkw l
 have h2:256^l.length≤256^4:=Nat.pow_le_pow_right (by omega) h
 exact Nat.lt_of_lt_of_le h1 (by simpa using h2)
theorem Alk{l:List UInt8}(h:l.length≤8):(leU l).toNat=Eh l:=by
 rw[leU,UInt64.toNat_ofNat',Nat.mod_eq_of_lt (Cap h)]
theorem Ael{l:List UInt8}(h:l.length≤4):(Ad (leU l):Int)=(Eh l:Int):=by
 have:=Brq h
 rw[Azo]<;>rw[Alk (by omega)];omega
def leB(n:Nat):Nat→List UInt8
 |0=>[]
 |w+1=>UInt8.ofNat n::leB (n/256) w
theorem Og:∀(w n:Nat),(leB n w).length=w
 |0,_=>rfl
 |w+1,n=>by simp[leB,Og w]
theorem Bms:∀(w n:Nat),leB n (w+1)=leB n w++[UInt8.ofNat (n/256^w)]
 |0,n=>by simp[leB]
 |w+1,n=>by
  rw[leB,Bms w (n/256),leB]
  simp[Nat.div_div_eq_div_mul,Nat.pow_succ,Nat.mul_comm]
end Go.Lv
set_option linter.unusedVariables false
set_option linter.unusedSimpArgs false
namespace Go.Lv
def Kf(p:List UInt8)(i:Nat):Nat:=(p.getD (i/8) 0).toNat/2^(i %8) %2
theorem Wv(p:List UInt8)(i:Nat):Kf p i<2:=Nat.mod_lt _ (by omega)
def Cg(p:List UInt8):Nat→Nat→Nat
 |_,0=>0
 |a,n+1=>Kf p a+2*Cg p (a+1) n
theorem Qg(p:List UInt8):∀(n a:Nat),Cg p a n<2^n
 |0,_=>by simp[Cg]
 |n+1,a=>by
  have:=Qg p n (a+1)
  have:=Wv p a
  rw[Cg,Nat.pow_succ];omega
theorem Ai6(p:List UInt8):∀(m n a:Nat),Cg p a (m+n)=Cg p a m+2^m*Cg p (a+m) n
 |0,n,a=>by simp[Cg]
 |m+1,n,a=>by
  rw[show m+1+n=(m+n)+1 by omega,Cg,Cg,Ai6 p m n (a+1),show a+1+m=a+(m+1) by omega,Nat.pow_succ,Nat.mul_add,Nat.mul_comm (2^m) 2,Nat.mul_assoc];omega
theorem Bmk(p:List UInt8)(a:Nat):Cg p a 1=Kf p a:=by simp[Cg]
theorem Bi6(p:List UInt8)(a n:Nat):Cg p a (n+1)=Cg p a n+2^n*Kf p (a+n):=by rw[Ai6 p n 1 a,Bmk]
theorem Azx(p:List UInt8)(a:Nat):∀t:Nat,a %8+t≤8→Cg p a t=(p.getD (a/8) 0).toNat/2^(a %8) %2^t
 |0,_=>by simp[Cg,Nat.mod_one]
 |t+1,h=>by
  have h1:(a+t)/8=a/8:=by omega
  have h2:(a+t) %8=a %8+t:=by omega
  rw[Bi6,Azx p a t (by omega),Kf,h1,h2,Nat.mod_pow_succ,Nat.pow_add,Nat.div_div_eq_div_mul]
theorem Bit{p:List UInt8}:∀(n a:Nat),(∀k,k<n→Kf p (a+k)=0)→Cg p a n=0
 |0,_,_=>rfl
 |n+1,a,h=>by
  have h0:=h 0 (by omega)
  rw[Cg,Bit n (a+1) fun k hk=>by have:=h (k+1) (by omega);rwa [show a+1+k=a+(k+1) by omega]]
  rw[Nat.add_zero]at h0;omega
def okB(p:List UInt8)(n:Nat):Prop:=n≤330000∧p.length=(n+7)/8∧∀k,n≤k→k<8*p.length→Kf p k=0
def Ady(p:List UInt8)(a n:Nat):List UInt8:=(List.range ((n+7)/8)).map fun j=>UInt8.ofNat (Cg p (a+8*j) (min 8 (n-8*j)))
theorem Nj(p:List UInt8)(a n:Nat):(Ady p a n).length=(n+7)/8:=by simp[Ady]
theorem Bn4(p:List UInt8):∀(n a k:Nat),k<n→Cg p a n/2^k %2=Kf p (a+k)
 |n+1,a,0,_=>by have:=Wv p a;rw[Cg];simp;omega
 |n+1,a,k+1,h=>by
  have hb:=Wv p a
  have e:(Kf p a+2*Cg p (a+1) n)/2=Cg p (a+1) n:=by omega
  rw[Cg,Nat.pow_succ,Nat.mul_comm (2^k) 2,←Nat.div_div_eq_div_mul,e,Bn4 p n (a+1) k (by omega),show a+1+k=a+(k+1) by omega]
theorem Bvv(p:List UInt8)(n a k:Nat)(h:n≤k):Cg p a n/2^k %2=0:=by
 have:=Qg p n a
 rw[Nat.div_eq_of_lt (Nat.lt_of_lt_of_le this (Nat.pow_le_pow_right (by omega) h))]
theorem By6(p:List UInt8)(a n k:Nat):Kf (Ady p a n) k=if k<n then Kf p (a+k)else 0:=by
 rw[Kf]
 by_cases hj:k/8<(n+7)/8
 ·have e:(Ady p a n).getD (k/8) 0=UInt8.ofNat (Cg p (a+8*(k/8)) (min 8 (n-8*(k/8)))):=by
   rw[List.getD_eq_getElem?_getD,List.getElem?_eq_getElem (by rw[Nj];exact hj)];simp[Ady]
  have hlt:Cg p (a+8*(k/8)) (min 8 (n-8*(k/8)))<256:=by
   have:=Qg p (min 8 (n-8*(k/8))) (a+8*(k/8))
   have h2:2^(min 8 (n-8*(k/8)))≤2^8:=Nat.pow_le_pow_right (by omega) (by omega)
   omega
  have hu:(UInt8.ofNat (Cg p (a+8*(k/8)) (min 8 (n-8*(k/8))))).toNat=Cg p (a+8*(k/8)) (min 8 (n-8*(k/8))):=by
   rw[UInt8.toNat_ofNat'];exact Nat.mod_eq_of_lt hlt
  rw[e,hu]
  by_cases hk:k<n
  ·rw[if_pos hk,Bn4 p _ _ _ (by omega),show a+8*(k/8)+k %8=a+k by omega]
  ·rw[if_neg hk,Bvv p _ _ _ (by omega)]
 ·have e:(Ady p a n).getD (k/8) 0=0:=by
   rw[List.getD_eq_getElem?_getD,List.getElem?_eq_none (by rw[Nj];omega)];rfl
  rw[e,if_neg (by omega)];simp
theorem Br0(p:List UInt8)(a n:Nat)(h:n≤330000):okB (Ady p a n) n:=⟨h,Nj p a n,fun k hk _=>by rw[By6,if_neg (by omega)]⟩
end Go.Lv
set_option linter.unusedVariables false
set_option linter.unusedSimpArgs false
namespace Go.Pl
open Go Go.Lv
theorem By7(b:List UInt8)(hb:b.length<4611686018427387904):∀(j q:Nat),j≤b.length→j<q→Lw b q (leU (b.drop j)) ((j:Int)-1)=some (leU b)
 |0,q+1,_,_=>by
  rw[Lw,Ys,if_neg (by rw[Dx];simp)]
  simp[Ai0,Aij]
 |j+1,q+1,hj,hq=>by
  rw[Lw,Ys,if_pos (by rw[Dx];simp),show((j+1:Nat):Int)-1=(j:Int) by omega,Cc (by omega),Aa,Bv (by omega) (by omega)]
  have h:Ae (Bi (256:UInt64) (leU (b.drop (j+1)))) (Ad b[j]:UInt64)=leU (b.drop j):=by
   rw[Afl,Aex,Axe,drop_cons (n:=j) (by omega),leU,leU,Eh,UInt64.ofNat_add,UInt64.ofNat_mul]
   exact UInt64.add_comm _ _
  rw[h]
  exact By7 b hb j q (by omega) (by omega)
theorem Bl3(b:List UInt8)(hb:b.length<4611686018427387904):Cy b=some (leU b):=by
 have h:=By7 b hb b.length FUEL (Nat.le_refl _) (by have:=Am;omega)
 rw[Cy,Akn,Ajv]
 have e:Aj (Ac b) 1=(b.length:Int)-1:=Bv (by unfold Ac;omega) (by unfold Ac;omega)
 rw[e,←h,List.drop_length];rfl
theorem Bzh{n c:UInt64}{i:Nat}(hn:n.toNat<2^i)(hc:c.toNat*2^i<18446744073709551616):gor n (Dm c i)=UInt64.ofNat (n.toNat+c.toNat*2^i):=by
 rw[Ccb];apply UInt64.toNat_inj.1
 rw[UInt64.toNat_or,Anf,Nat.mod_eq_of_lt hc,Nat.mul_comm,Nat.or_comm,←Nat.two_pow_add_eq_or_of_lt hn,UInt64.toNat_ofNat',Nat.mod_eq_of_lt,Nat.add_comm,Nat.mul_comm]
 have h:=Nat.two_pow_add_eq_or_of_lt hn c.toNat
 have h2:2^i*c.toNat+n.toNat<2^64:=by
  rw[h]
  exact Nat.or_lt_two_pow (by rw[Nat.mul_comm];simpa using hc) n.toNat_lt
 rw[Nat.add_comm];first|exact h2|(rw[Nat.mul_comm];exact h2)
theorem Bhr(b:List UInt8)(hb:b.length≤8):∀(j i q:Nat),i+j=b.length→j<q→Zi b q (leU (b.take i)) (i:Int)=some (leU b,0)
 |0,i,q+1,hi,_=>by
  rw[Zi,Alo,if_neg (by rw[Af,Ac];simp;omega),show i=b.length by omega,List.take_length];rfl
 |j+1,i,q+1,hi,hq=>by
  have hlt:i<b.length:=by omega
  rw[Zi,Alo,if_pos (by rw[Af,Ac];simp;omega),Cc hlt,Aa,Ib (by omega) (by omega),Cv (by rw[Dx];simp;omega),Aa,Ah (by omega) (by omega)]
  have h:gor (leU (b.take i)) (Dm (Ad b[i]:UInt64) (GI.toZ ((8:Int)*(i:Int))).toNat)=leU (b.take (i+1)):=by
   have e:(GI.toZ ((8:Int)*(i:Int))).toNat=8*i:=by show((8:Int)*(i:Int)).toNat=_;omega
   have e2:(2:Nat)^(8*i)=256^i:=by rw[Nat.pow_mul]
   have h1:=Bkw (b.take i)
   rw[List.length_take,Nat.min_eq_left (by omega)]at h1
   have h3:=b[i].toNat_lt
   have hle:(256:Nat)^(i+1)≤256^8:=Nat.pow_le_pow_right (by omega) (by omega)
   rw[Nat.pow_succ]at hle
   have h4:(Ad b[i]:UInt64).toNat=b[i].toNat:=by rw[Axe,UInt64.toNat_ofNat'];omega
   have h5:b[i].toNat*256^i<18446744073709551616:=by
    have:b[i].toNat*256^i<256*256^i:=Nat.mul_lt_mul_of_pos_right (by simpa using h3) (Nat.pow_pos (by omega))
    simp at hle;omega
   rw[e,Bzh (by rw[Alk (by simp;omega),e2];exact h1) (by rw[h4,e2];exact h5),Alk (by simp;omega),h4,e2,Ah9 hlt]
   rw[leU,Bfc]
   simp only[Eh,List.length_take,Nat.min_eq_left (Nat.le_of_lt hlt),Nat.mul_zero,Nat.add_zero]
   rw[Nat.mul_comm]
  rw[h]
  exact Bhr b hb j (i+1) q (by omega) (by omega)
theorem Bng(b:List UInt8)(h1:1≤b.length)(h2:b.length≤8):Aso b=some (leU b,0):=by
 have h:=Bhr b h2 b.length 0 FUEL (by omega) (by have:=Am;omega)
 rw[Aso,Asm,if_neg (by simp[Af,Aq,Ac];omega),At2]
 exact h
def part(b:List UInt8)(at' w:Nat):List UInt8:=(b.take (at'+w)).drop at'
theorem Df{b:List UInt8}{a w:Nat}(h:a+w≤b.length):(part b a w).length=w:=by simp[part];omega
theorem Bjm(b:List UInt8)(a w:Nat)(h1:1≤w)(h2:w≤8)(h3:a+w≤b.length)(hb:b.length<4611686018427387904):Amt b (a:Int) (w:Int)=some (leU (part b a w),0):=by
 rw[Amt,if_neg (by simp[Af,Aq];omega),if_neg (by rw[Aq,Bv (by unfold Ac;omega) (by unfold Ac;omega),Ac];simp;omega),Ah (by omega) (by omega),Ad9 (by omega) (by omega) (by omega),Aa]
 rw[show((a:Int)+(w:Int)).toNat=a+w by omega,show(a:Int).toNat=a by omega]
 rw[Bng _ (by rw[show((b.take (a+w)).drop a).length=_ from Df h3];exact h1) (by rw[show((b.take (a+w)).drop a).length=_ from Df h3];exact h2),Aa];rfl
theorem Bbt(w:Nat)(hw:w≤1000):∀(j i q:Nat) (n:UInt64) (acc:List UInt8),i+j=w→j<q→acc.length+j≤1000000→Gs (w:Int) q n (i:Int) acc=some (acc++leB n.toNat j)
 |0,i,q+1,n,acc,hi,_,_=>by
  rw[Gs,Pd,if_neg (by rw[Af];simp;omega)]
  simp[Zb,Za,leB]
 |j+1,i,q+1,n,acc,hi,hq,ha=>by
  rw[Gs,Pd,if_pos (by rw[Af];simp;omega)]
  have e:(Ad (Zy n (256:UInt64)):UInt8)=UInt8.ofNat n.toNat:=by
   rw[Aoi,Bo2];apply UInt8.toNat_inj.1
   rw[UInt8.toNat_ofNat',UInt8.toNat_ofNat',UInt64.toNat_mod]
   show n.toNat %256 %256=_
   omega
  have e2:(Ck n (256:UInt64)).toNat=n.toNat/256:=by rw[Ay3,UInt64.toNat_div];rfl
  rw[Cj (by simp;omega),Aa,Ah (by omega) (by omega),e]
  have h:=Bbt w hw j (i+1) q (Ck n 256) (acc++[UInt8.ofNat n.toNat]) (by omega) (by omega) (by simp;omega)
  rw[e2]at h
  rw[show((i:Int)+1)=((i+1:Nat):Int) by omega,h,leB];simp
theorem Bgb(n:UInt64)(w:Nat)(hw:w≤1000):Dl n (w:Int)=some (leB n.toNat w):=by
 rw[Dl,Zc,Yt]
 have h:=Bbt w hw w 0 FUEL n [] (by omega) (by have:=Am;omega) (by simp;omega)
 simpa using h
theorem Aut{α:Type}{l m:List α}{x y:α}{i:Nat}(h:l.length=i):(l++x::m).set i y=l++y::m:=by subst h;simp
theorem Bja(n:UInt64)(l4:List UInt8)(w:Nat)(hl:l4.length=w)(hw:w≤8):∀(j i q:Nat),i+j=w→j<q→Zs n l4 q (i:Int) (leB n.toNat i++List.replicate j 0)=some (leB n.toNat w,0)
 |0,i,q+1,hi,_=>by
  rw[Zs,Alm,if_neg (by rw[Af,Ac];simp;omega)]
  obtain rfl:i=w:=by omega
  simp[Arn,Ba3]
 |j+1,i,q+1,hi,hq=>by
  have hlen:(leB n.toNat i++List.replicate (j+1) 0).length=i+(j+1):=by simp[Og]
  rw[Zs,Alm,if_pos (by rw[Af,Ac];simp;omega),Ib (by omega) (by omega),Cv (by rw[Dx];simp;omega),Aa,Cc (by rw[hlen];omega),Aa,Vy _ (by rw[hlen];omega),Aa,Ah (by omega) (by omega)]
  have e:(Ad (Bu n (GI.toZ ((8:Int)*(i:Int))).toNat):UInt8)=UInt8.ofNat (n.toNat/256^i):=by
   have e:(GI.toZ ((8:Int)*(i:Int))).toNat=8*i:=by show((8:Int)*(i:Int)).toNat=_;omega
   rw[e,Aoi,Agc,Nat.pow_mul]
  rw[e,List.replicate_succ,Aut (Og _ _)]
  have h:=Bja n l4 w hl hw j (i+1) q (by omega) (by omega)
  rw[Bms]at h
  simpa using h
theorem Cdf(n:UInt64)(w:Nat)(h1:1≤w)(h2:w≤8)(h:n.toNat<256^w):Bco n (w:Int)=some true:=by
 rw[Bco]
 by_cases h8:w=8
 ·subst h8;rw[if_pos (by rw[Ap];rfl)]
 ·rw[if_neg (by rw[Ap];simp;omega),Ib (by omega) (by omega),Cv (by rw[Dx];simp;omega),Aa]
  have e:(GI.toZ ((8:Int)*(w:Int))).toNat=8*w:=by show((8:Int)*(w:Int)).toNat=_;omega
  rw[e,Bcp]
  have:Bu n (8*w)=0:=by
   apply UInt64.toNat_inj.1
   rw[Agc,Nat.pow_mul]
   exact Nat.div_eq_of_lt h
  rw[this];rfl
theorem Bn7(n:UInt64)(w:Nat)(h1:1≤w)(h2:w≤8)(h:n.toNat<256^w):Xd n (w:Int)=some (leB n.toNat w,0):=by
 rw[Xd,Arw,if_neg (by simp[Af,Aq];omega),Cdf n w h1 h2 h,Aa,if_neg (by simp),Bdx (by omega) (by omega),Aa,Cv (by rw[Ap];simp),Aa,Ary]
 have h:=Bja n (List.replicate (w:Int).toNat 0) w (by simp) h2 w 0 FUEL (by omega) (by have:=Am;omega)
 simpa [leB]using h
end Go.Pl
set_option linter.unusedVariables false
set_option linter.unusedSimpArgs false
namespace Go.Pl
open Go Go.Lv
theorem Bma(n:Nat)(h:n<4611686018427387904):Ds (n:Int) (7:Int)=((n %8:Nat):Int):=by
 have e:Ds (n:Int) (7:Int)=wrap64 ((BitVec.ofInt 64 (n:Int)&&&BitVec.ofInt 64 7).toNat:Int):=rfl
 rw[e,BitVec.toNat_and,BitVec.toNat_ofInt,BitVec.toNat_ofInt]
 have h1:((n:Int) %((2^64:Nat):Int)).toNat=n:=by omega
 have h2:((7:Int) %((2^64:Nat):Int)).toNat=2^3-1:=by decide
 rw[h1,h2,Nat.and_two_pow_sub_one_eq_mod,Ce (by omega) (by omega)]
theorem Cgy(n:Nat):Bkp (n:Int) (GI.toZ (3:UInt64)).toNat=((n/8:Nat):Int):=by
 have e:Bkp (n:Int) (GI.toZ (3:UInt64)).toNat=(n:Int).fdiv 8:=rfl
 rw[e,Int.fdiv_eq_ediv_of_nonneg _ (by omega)];omega
theorem Che{t:Nat}(h:t≤8):Aj (Dm (1:UInt8) t) (1:UInt8)=UInt8.ofNat (2^t-1):=by
 have:t=0∨t=1∨t=2∨t=3∨t=4∨t=5∨t=6∨t=7∨t=8:=by omega
 rcases this with rfl|rfl|rfl|rfl|rfl|rfl|rfl|rfl|rfl<;>decide
theorem bitsOf(c:UInt8)(off t:Nat)(h:t≤8):(Ds (Bu c off) (Aj (Dm (1:UInt8) t) (1:UInt8))).toNat=c.toNat/2^off %2^t:=by
 have hp:2^t≤2^8:=Nat.pow_le_pow_right (by omega) h
 rw[Che h,Cal,UInt8.toNat_and,Bs8,UInt8.toNat_ofNat',Nat.mod_eq_of_lt (by have:=Nat.pow_pos (n:=t) (show 0<2 by omega);omega),Nat.and_two_pow_sub_one_eq_mod]
theorem Bdc{p:List UInt8}{k:Nat}(h:k<p.length):getI p (k:Int)=some (p.getD k 0):=by
 rw[Cc h];simp[List.getD_eq_getElem?_getD,h]
def Ub(p:List UInt8)(a n:Nat):UInt64:=UInt64.ofNat (Cg p a n)
theorem Abp(p:List UInt8)(a n:Nat)(h:n≤64):(Ub p a n).toNat=Cg p a n:=by
 have h1:=Qg p n a
 have h2:2^n≤2^64:=Nat.pow_le_pow_right (by omega) h
 rw[Ub,UInt64.toNat_ofNat',Nat.mod_eq_of_lt (by omega)]
theorem Bob(p:List UInt8)(N:Int)(a n:Nat)(hn:n≤64)(ha:a+n≤8*p.length)(hp:p.length≤1000000):∀(j h q:Nat),h+j=n→j<q→Ae0 (a:Int) (n:Int) p N q (Ub p a h) (h:Int)=some (Ub p a n)
 |j,h,q+1,hj,hq=>by
  rw[Ae0,Ar4]
  by_cases hlt:h<n
  ·have e1:Ae (a:Int) (h:Int)=((a+h:Nat):Int):=by rw[Ah (by omega) (by omega)];omega
   have e2:Dk (Aj (n:Int) (h:Int)) (Aj (8:Int) (((a+h) %8:Nat):Int))=((min (n-h) (8-(a+h) %8):Nat):Int):=by
    rw[Agt,Bv (by omega) (by omega),Bv (by omega) (by omega)];omega
   have hm:(a+h)/8<p.length:=by omega
   rw[if_pos (by rw[Af];simp;omega),e1,Cgy,Bdc hm,Aa,Bma _ (by omega),Cv (by rw[Dx];simp;omega),Aa,e2,Cv (by rw[Dx];simp),Aa,Cv (by rw[Dx];simp),Aa]
   generalize hT:min (n-h) (8-(a+h) %8)=T
   have hT8:T≤8:=by omega
   have hT1:1≤T:=by omega
   have hb:(a+h) %8+T≤8:=by omega
   have hv:=Azx p (a+h) T hb
   have z1:(GI.toZ (((a+h) %8:Nat):Int)).toNat=(a+h) %8:=rfl
   have z2:(GI.toZ ((T:Nat):Int)).toNat=T:=rfl
   have z3:(GI.toZ ((h:Nat):Int)).toNat=h:=rfl
   rw[z1,z2,z3]
   have hx:(Ad (Ds (Bu (p.getD ((a+h)/8) 0) ((a+h) %8)) (Aj (Dm (1:UInt8) T) (1:UInt8))):UInt64).toNat=Cg p (a+h) T:=by
    rw[Axe,UInt64.toNat_ofNat',bitsOf _ _ _ hT8,←hv]
    have:=Qg p T (a+h)
    have h2:2^T≤2^8:=Nat.pow_le_pow_right (by omega) hT8
    omega
   have hlt2:=Qg p (h+T) a
   rw[Ai6]at hlt2
   have h64:2^(h+T)≤2^64:=Nat.pow_le_pow_right (by omega) (by omega)
   have hor:gor (Ub p a h) (Dm (Ad (Ds (Bu (p.getD ((a+h)/8) 0) ((a+h) %8)) (Aj (Dm (1:UInt8) T) (1:UInt8))):UInt64) h)=Ub p a (h+T):=by
    rw[Bzh (by rw[Abp p a h (by omega)];exact Qg p h a) (by rw[hx,Nat.mul_comm];omega),hx,Abp p a h (by omega),Ub,Ai6,Nat.mul_comm (2^h)]
   rw[hor,Ah (by omega) (by omega),show(h:Int)+((T:Nat):Int)=((h+T:Nat):Int) by omega]
   exact Bob p N a n hn ha hp (j-T) (h+T) q (by omega) (by omega)
  ·rw[if_neg (by rw[Af];simp;omega),show h=n by omega];rfl
theorem get_eq(p:List UInt8)(N:Int)(a n:Nat)(hn:n≤64)(ha:a+n≤8*p.length)(hp:p.length≤1000000):Axq p N (a:Int) (n:Int)=some (Ub p a n):=by
 have:=Bob p N a n hn ha hp n 0 FUEL (by omega) (by have:=Am;omega)
 exact this
theorem Aic{p:List UInt8}{n:Nat}(h:okB p n):Jj p (n:Int)=some 0:=by
 obtain⟨h1,h2,h3⟩:=h
 have e7:Ae (n:Int) 7=((n+7:Nat):Int):=by rw[Ah (by omega) (by omega)];omega
 rw[Jj,e7,Cgy,if_neg (by simp[Af,Aq,Ak,Ac,h2];omega),Bma _ (by omega)]
 by_cases hz:n %8=0
 ·rw[if_neg (by rw[Aq];simp;omega)]
 ·have el:Aj (Ac p) 1=((p.length-1:Nat):Int):=by rw[Ac,Bv (by omega) (by omega)];omega
  rw[if_pos (by rw[Aq];simp;omega),el,Bdc (by omega),Aa,Cv (by rw[Dx];simp;omega),Aa]
  have z:(GI.toZ ((n %8:Nat):Int)).toNat=n %8:=rfl
  have hs:Bu (p.getD (p.length-1) 0) (n %8)=0:=by
   apply UInt8.toNat_inj.1
   rw[Bs8]
   have hv:=Azx p n (8-n %8) (by omega)
   have h0:Cg p n (8-n %8)=0:=Bit _ _ fun k hk=>h3 _ (by omega) (by omega)
   rw[h0,show n/8=p.length-1 by omega]at hv
   have hlt:(p.getD (p.length-1) 0).toNat/2^(n %8)<2^(8-n %8):=by
    have:=(p.getD (p.length-1) 0).toNat_lt
    rw[Nat.div_lt_iff_lt_mul (Nat.pow_pos (by omega)),←Nat.pow_add,show 8-n %8+n %8=8 by omega];simpa using this
   rw[Nat.mod_eq_of_lt hlt]at hv
   exact hv.symm
  rw[z,hs,if_neg (by rw[Brc];simp)]
theorem Azz{p:List UInt8}{N:Nat}(h:okB p N)(a n:Nat)(hn:n≤64):Acb p (N:Int) (a:Int) (n:Int)=some (if N<a+n then(0,24)else(Ub p a n,0)):=by
 obtain⟨h1,h2,h3⟩:=h
 rw[Acb,Aic ⟨h1,h2,h3⟩,Aa,if_neg (by rw[Ak];simp),if_neg (by simp[Af,Aq];omega),Bv (by omega) (by omega)]
 by_cases hl:N<a+n
 ·rw[if_pos (by rw[Aq];simp;omega),if_pos hl]
 ·rw[if_neg (by rw[Aq];simp;omega),get_eq p N a n hn (by omega) (by omega),Aa,if_neg hl]
end Go.Pl
set_option linter.unusedVariables false
set_option linter.unusedSimpArgs false
namespace Go.Pl
open Go Go.Lv
theorem Cht(c:Nat)(h:c<4611686018427387904):Ck (c:Int) (2:Int)=((c/2:Nat):Int):=by
 rw[Ag3,Int.tdiv_eq_ediv_of_nonneg (by omega),Ce (by omega) (by omega)];omega
theorem Cgj(c:Nat)(h:c<4611686018427387904):Ck (c:Int) (8:Int)=((c/8:Nat):Int):=by
 rw[Ag3,Int.tdiv_eq_ediv_of_nonneg (by omega),Ce (by omega) (by omega)];omega
theorem Bzr(c:Nat):Gp (c:Int) (8:Int)=((c %8:Nat):Int):=by rw[Gp,Int.tmod_eq_emod_of_nonneg (by omega)];omega
theorem Chs(c:Nat):Gp (c:Int) (2:Int)=((c %2:Nat):Int):=by rw[Gp,Int.tmod_eq_emod_of_nonneg (by omega)];omega
theorem Btr(i c:Nat)(hc:c<256):∀(j k q:Nat),k+j=i %8→j<q→Mb (i:Int) q ((c/2^k:Nat):Int) (k:Int)=some (((c/2^(i %8) %2:Nat):Int))
 |0,k,q+1,hk,_=>by
  rw[Mb,Xt,Bzr,if_neg (by rw[Af];simp;omega),Aj2,Ajj,Chs,show k=i %8 by omega]
 |j+1,k,q+1,hk,hq=>by
  have hle:c/2^k≤c:=Nat.div_le_self _ _
  rw[Mb,Xt,Bzr,if_pos (by rw[Af];simp;omega),Cht _ (by omega),Ah (by omega) (by omega),Nat.div_div_eq_div_mul,←Nat.pow_succ]
  exact Btr i c hc j (k+1) q (by omega) (by omega)
theorem Az4(p:List UInt8)(N:Int)(i:Nat)(h:i/8<p.length)(hi:i<4611686018427387904):Kk p N (i:Int)=some ((Kf p i:Nat):Int):=by
 have hc:=(p.getD (i/8) 0).toNat_lt
 have:=Btr i (p.getD (i/8) 0).toNat (by simpa using hc) (i %8) 0 FUEL (by omega) (by have:=Am;omega)
 rw[Kk,Akk,Cgj _ hi,Bdc h,Aa,Aie,Ajn]
 simpa [Kf]using this
theorem Bfs(p:List UInt8)(N:Int)(a n:Nat)(ha:a+n≤8*p.length)(hp:p.length≤1000000):∀(j q:Nat),j≤n→j<q→Iv (a:Int) p N q (Ub p (a+j) (n-j)) ((j:Int)-1)=some (Ub p a n)
 |0,q+1,_,_=>by
  rw[Iv,Ru,if_neg (by rw[Dx];simp)];rfl
 |j+1,q+1,hj,hq=>by
  have hb:=Wv p (a+j)
  rw[Iv,Ru,show((j+1:Nat):Int)-1=(j:Int) by omega,if_pos (by rw[Dx];simp),Ah (a:=(a:Int)) (by omega) (by omega),show(a:Int)+(j:Int)=((a+j:Nat):Int) by omega,Az4 p N (a+j) (by omega) (by omega),Aa,Bv (by omega) (by omega)]
  have e:Ae (Bi (2:UInt64) (Ub p (a+(j+1)) (n-(j+1)))) (Ad ((Kf p (a+j):Nat):Int):UInt64)=Ub p (a+j) (n-j):=by
   rw[Afl,Aex,Zm,Ub,Ub,show n-j=(n-(j+1))+1 by omega,Cg,show a+j+1=a+(j+1) by omega,UInt64.ofNat_add,UInt64.ofNat_mul]
   exact UInt64.add_comm _ _
  rw[e]
  exact Bfs p N a n ha hp j q (by omega) (by omega)
theorem Awp(p:List UInt8)(N:Int)(a n:Nat)(ha:a+n≤8*p.length)(hp:p.length≤1000000):Pz p N (a:Int) (n:Int)=some (Ub p a n):=by
 have:=Bfs p N a n ha hp n FUEL (Nat.le_refl _) (by have:=Am;omega)
 have hz:Ub p (a+n) (n-n)=0:=by rw[Nat.sub_self];rfl
 rw[hz]at this
 rw[Pz,Acz,Ac4,Bv (by omega) (by omega)]
 exact this
theorem Brk(bit:Int)(N:Nat)(l:List UInt8):∀(j k q:Nat),k+j=N %8→j<q→Kr bit (N:Int) l q ((2^k:Nat):Int) (k:Int)=We bit ((2^(N %8):Nat):Int) (N:Int) l
 |0,k,q+1,hk,_=>by
  rw[Kr,Vw,Bzr,if_neg (by rw[Af];simp;omega),show k=N %8 by omega]
 |j+1,k,q+1,hk,hq=>by
  have hp:2^k≤2^8:=Nat.pow_le_pow_right (by omega) (by omega)
  have e:Bi ((2^k:Nat):Int) 2=((2^(k+1):Nat):Int):=by
   rw[Nat.pow_succ]
   generalize 2^k=K at*
   rw[Ib (by omega) (by omega)];omega
  rw[Kr,Vw,Bzr,if_pos (by rw[Af];simp;omega),e,Ah (by omega) (by omega)]
  exact Brk bit N l j (k+1) q (by omega) (by omega)
theorem Bhb(p:List UInt8)(a n j:Nat)(h:j<(n+7)/8):(Ady p a n)[j]'(by rw[Nj];exact h)=UInt8.ofNat (Cg p (a+8*j) (min 8 (n-8*j))):=by simp[Ady]
theorem Blv(p:List UInt8)(a t:Nat)(h:t≤8):Cg p a t<256:=by
 have h1:=Qg p t a
 have h2:2^t≤2^8:=Nat.pow_le_pow_right (by omega) h
 omega
def room(p:List UInt8)(a n:Nat):List UInt8:=if n %8=0 then Ady p a n++[0]else Ady p a n
theorem Ww(p:List UInt8)(a n:Nat):(room p a n).length=n/8+1:=by
 rw[room];split<;>simp[Nj]<;>omega
theorem Bl1(p:List UInt8)(a n j:Nat)(h:j<n/8+1):(room p a n)[j]'(by rw[Ww];exact h)=UInt8.ofNat (Cg p (a+8*j) (min 8 (n-8*j))):=by
 have h0:(room p a n)[j]? =some (UInt8.ofNat (Cg p (a+8*j) (min 8 (n-8*j)))):=by
  rw[room]
  split
  ·by_cases hj:j<(n+7)/8
   ·rw[List.getElem?_append_left (by rw[Nj];exact hj),List.getElem?_eq_getElem (by rw[Nj];exact hj),Bhb p a n j hj]
   ·rw[List.getElem?_append_right (by rw[Nj];omega),Nj,show j-(n+7)/8=0 by omega,show n-8*j=0 by omega];rfl
  ·rw[List.getElem?_eq_getElem (by rw[Nj];omega),Bhb p a n j (by omega)]
 rw[List.getElem?_eq_getElem (by rw[Ww];exact h)]at h0
 exact Option.some.inj h0
theorem Blu(p:List UInt8)(a n T:Nat)(h1:1≤T)(h:n %8+T≤8):(room p a n).set (n/8) (UInt8.ofNat (Cg p (a+8*(n/8)) (n %8+T)))=Ady p a (n+T):=by
 apply List.ext_getElem (by rw[List.length_set,Ww,Nj];omega)
 intro j g1 g2
 rw[List.length_set,Ww]at g1
 rw[List.getElem_set,Bhb p a (n+T) j (by rw[Nj]at g2;exact g2)]
 split
 ·rename_i e;subst e;rw[show min 8 (n+T-8*(n/8))=n %8+T by omega]
 ·rw[Bl1 p a n j g1,show min 8 (n-8*j)=8 by omega,show min 8 (n+T-8*j)=8 by omega]
theorem Bht(p:List UInt8)(a n:Nat):(room p a n)[n/8]'(by rw[Ww];omega)=UInt8.ofNat (Cg p (a+8*(n/8)) (n %8)):=by
 rw[Bl1 p a n _ (by omega),show min 8 (n-8*(n/8))=n %8 by omega]
theorem Bys(p:List UInt8)(a n:Nat)(hn:n≤400000):Vi (Ady p a n) (n:Int) ((Kf p (a+n):Nat):Int)=some (Ady p a (n+1),((n+1:Nat):Int)):=by
 have hb:=Wv p (a+n)
 have hp:2^(n %8)≤2^7:=Nat.pow_le_pow_right (by omega) (by omega)
 have hroom:Vi (Ady p a n) (n:Int) ((Kf p (a+n):Nat):Int)=Vz ((Kf p (a+n):Nat):Int) (n:Int) (room p a n):=by
  rw[Vi,Ag8,Bzr,room]
  by_cases h0:n %8=0
  ·rw[if_pos (by rw[Ap,h0];rfl),Cj (by rw[Nj];simp;omega),Aa,if_pos h0]
  ·rw[if_neg (by rw[Ap];simp;omega),if_neg h0]
 have hl:=Brk ((Kf p (a+n):Nat):Int) n (room p a n) (n %8) 0 FUEL (by omega) (by have:=Am;omega)
 rw[hroom,Vz,Ahj,Ahm]
 refine Eq.trans hl ?_
 have hg:getI (room p a n) ((n/8:Nat):Int)=some (UInt8.ofNat (Cg p (a+8*(n/8)) (n %8))):=by
  rw[Cc (by rw[Ww];omega),Bht]
 have hlt:=Blv p (a+8*(n/8)) (n %8+1) (by omega)
 have hsn:=Bi6 p (a+8*(n/8)) (n %8)
 rw[show a+8*(n/8)+n %8=a+n by omega]at hsn
 have hm:Bi ((Kf p (a+n):Nat):Int) ((2^(n %8):Nat):Int)=((2^(n %8)*Kf p (a+n):Nat):Int):=by
  have hle:2^(n %8)*Kf p (a+n)≤2^7*1:=Nat.mul_le_mul hp (by omega)
  rw[Bz4,←Int.natCast_mul,Ce (by omega) (by rw[Nat.mul_comm];omega),Nat.mul_comm]
 have hx:Ae (UInt8.ofNat (Cg p (a+8*(n/8)) (n %8))) (Ad (((2^(n %8)*Kf p (a+n):Nat):Int)):UInt8)=UInt8.ofNat (Cg p (a+8*(n/8)) (n %8+1)):=by
  rw[Cbb,Bzv,hsn,UInt8.ofNat_add]
 rw[We,Ag9,Cgj _ (by omega),hg,Aa,Aa,Aa,hm,hx,Vy _ (by rw[Ww];omega),Aa,Blu p a n 1 (by omega) (by omega),Ah (by omega) (by omega)];rfl
theorem Axy(p:List UInt8)(N:Int)(a n:Nat)(ha:a+n≤8*p.length)(hp:p.length≤1000000)(hn:n≤300000):∀(j m q:Nat),m+j=n→j<q→Gw ((a+n:Nat):Int) p N q ((a+m:Nat):Int) (m:Int) (Ady p a m)=some (Ady p a n,(n:Int))
 |0,m,q+1,hm,_=>by
  rw[Gw,On,if_neg (by rw[Af];simp;omega),show m=n by omega];rfl
 |j+1,m,q+1,hm,hq=>by
  rw[Gw,On,if_pos (by rw[Af];simp;omega),Az4 p N (a+m) (by omega) (by omega),Aa,Bys p a m (by omega),Aa]
  simp only
  rw[Ah (by omega) (by omega)]
  exact Axy p N a n ha hp hn j (m+1) q (by omega) (by omega)
theorem Bnf(p:List UInt8)(N:Int)(a n:Nat)(ha:a+n≤8*p.length)(hp:p.length≤1000000)(hn:n≤300000):Aez p N (a:Int) ((a+n:Nat):Int)=some (Ady p a n,(n:Int)):=by
 have:=Axy p N a n ha hp hn n 0 FUEL (by omega) (by have:=Am;omega)
 exact this
end Go.Pl
set_option linter.unusedVariables false
set_option linter.unusedSimpArgs false
namespace Go.Pl
open Go Go.Lv
theorem Cfd{t:Nat}(h:t≤8):Aj (Dm (1:UInt64) t) (1:UInt64)=UInt64.ofNat (2^t-1):=by
 have:t=0∨t=1∨t=2∨t=3∨t=4∨t=5∨t=6∨t=7∨t=8:=by omega
 rcases this with rfl|rfl|rfl|rfl|rfl|rfl|rfl|rfl|rfl<;>decide
theorem Chq(v:UInt64){t:Nat}(h:t≤8):(Ds v (Aj (Dm (1:UInt64) t) (1:UInt64))).toNat=v.toNat %2^t:=by
 have hp:2^t≤2^8:=Nat.pow_le_pow_right (by omega) h
 rw[Cfd h,Bds,UInt64.toNat_and,UInt64.toNat_ofNat',Nat.mod_eq_of_lt (by have:=Nat.pow_pos (n:=t) (show 0<2 by omega);omega),Nat.and_two_pow_sub_one_eq_mod]
theorem or8{v w i:Nat}(hv:v<2^i)(hw:w*2^i<256)(hi:i<8):gor (UInt8.ofNat v) (Dm (UInt8.ofNat w) i)=UInt8.ofNat (v+w*2^i):=by
 have hp:2^i≤2^8:=Nat.pow_le_pow_right (by omega) (by omega)
 have hpos:0<2^i:=Nat.pow_pos (by omega)
 have hw2:w<256:=Nat.lt_of_le_of_lt (Nat.le_mul_of_pos_right w hpos) hw
 rw[Cfj];apply UInt8.toNat_inj.1
 have e1:(UInt8.ofNat v).toNat=v:=by rw[UInt8.toNat_ofNat',Nat.mod_eq_of_lt (by omega)]
 have e2:(UInt8.ofNat w).toNat=w:=by rw[UInt8.toNat_ofNat',Nat.mod_eq_of_lt (by omega)]
 rw[UInt8.toNat_or,Cbq,e1,e2,Nat.mod_eq_of_lt hw,Nat.mul_comm w,Nat.or_comm,←Nat.two_pow_add_eq_or_of_lt hv,UInt8.toNat_ofNat',Nat.add_comm v]
 rw[Nat.mul_comm]at hw
 have hb:2^i*w+v<256:=by
  rw[Nat.two_pow_add_eq_or_of_lt hv]
  exact Nat.or_lt_two_pow (n:=8) hw (by omega)
 rw[Nat.mod_eq_of_lt hb]
theorem Bwz(p:List UInt8)(a n T:Nat)(h:T≤n)(hn:n≤64):Bu (Ub p a n) T=Ub p (a+T) (n-T):=by
 apply UInt64.toNat_inj.1
 rw[Agc,Abp p a n hn,Abp p (a+T) (n-T) (by omega)]
 have:=Qg p T a
 conv=>lhs;rw[show n=T+(n-T) by omega,Ai6,Nat.add_mul_div_left _ _ (Nat.pow_pos (by omega)),Nat.div_eq_of_lt this,Nat.zero_add]
theorem Bx2(p:List UInt8)(a n T:Nat)(h:T≤n)(hn:n≤64):(Ub p a n).toNat %2^T=Cg p a T:=by
 have:=Qg p T a
 rw[Abp p a n hn]
 conv=>lhs;rw[show n=T+(n-T) by omega,Ai6,Nat.add_mul_mod_self_left,Nat.mod_eq_of_lt this]
theorem Bec(bk:Int→Int→List UInt8→Option (List UInt8×Int×Int))(to':Int)(p:List UInt8)(N fr:Int)(r6:UInt64)(a:Nat):∀(j m q:Nat),m+j≤300000→j≤64→j<q→
  Nk bk to' p N fr r6 q (Ub p (a+m) j) (j:Int) (m:Int) (Ady p a m)=Ah0 bk to' p N fr ((m+j:Nat):Int) (Ady p a (m+j))
 |0,m,q+1,_,_,_=>by
  rw[Nk,Ah5,if_neg (by rw[Aq];simp)];rfl
 |j+1,m,q+1,hm,hj,hq=>by
  have hroom:Nk bk to' p N fr r6 (q+1) (Ub p (a+m) (j+1)) ((j+1:Nat):Int) (m:Int) (Ady p a m)=Ah3 (Nk bk to' p N fr r6 q) to' fr p N r6 (Ub p (a+m) (j+1)) ((j+1:Nat):Int) (m:Int) (room p a m):=by
   rw[Nk,Ah5,if_pos (by rw[Aq];simp),Bma m (by omega),room]
   by_cases h0:m %8=0
   ·rw[if_pos (by rw[Ap,h0];rfl),Cj (by rw[Nj];simp;omega),Aa,if_pos h0]
   ·rw[if_neg (by rw[Ap];simp;omega),if_neg h0]
  have hl:Aj (Ac (room p a m)) 1=((m/8:Nat):Int):=by
   rw[Ac,Ww,Bv (by omega) (by omega)];omega
  have e2:Dk ((j+1:Nat):Int) (Aj (8:Int) ((m %8:Nat):Int))=((min (j+1) (8-m %8):Nat):Int):=by
   rw[Agt,Bv (by omega) (by omega)];omega
  rw[hroom,Ah3,Aoq,Bma m (by omega),e2,hl]
  generalize hT:min (j+1) (8-m %8)=T
  have hT1:1≤T:=by omega
  have hT8:m %8+T≤8:=by omega
  have hg:getI (room p a m) ((m/8:Nat):Int)=some (UInt8.ofNat (Cg p (a+8*(m/8)) (m %8))):=by
   rw[Cc (by rw[Ww];omega),Bht]
  have z1:(GI.toZ ((m %8:Nat):Int)).toNat=m %8:=rfl
  have z2:(GI.toZ ((T:Nat):Int)).toNat=T:=rfl
  have hlt:=Blv p (a+8*(m/8)) (m %8+T) (by omega)
  have hadd:=Ai6 p (m %8) T (a+8*(m/8))
  rw[show a+8*(m/8)+m %8=a+m by omega]at hadd
  have hbyte:(Ad (Ds (Ub p (a+m) (j+1)) (Aj (Dm (1:UInt64) T) (1:UInt64))):UInt8)=UInt8.ofNat (Cg p (a+m) T):=by
   rw[Aoi,Chq _ (by omega),Bx2 p (a+m) (j+1) T (by omega) hj]
  have hnew:gor (UInt8.ofNat (Cg p (a+8*(m/8)) (m %8))) (Dm (UInt8.ofNat (Cg p (a+m) T)) (m %8))=UInt8.ofNat (Cg p (a+8*(m/8)) (m %8+T)):=by
   rw[or8 (Qg _ _ _) (by rw[Nat.mul_comm];omega) (by omega),hadd,Nat.mul_comm (2^(m %8))]
  rw[hg,z1,z2,hbyte]
  simp only[Aa]
  rw[Cv (by rw[Dx];simp),Aa,Cv (by rw[Dx];simp;omega),Aa,hnew,Vy _ (by rw[Ww];omega),Aa,Blu p a m T hT1 hT8,Aol,Ayo,Bma m (by omega),e2,hT,Cv (by rw[Dx];simp),Aa,z2,Bwz p (a+m) (j+1) T (by omega) hj,Bv (by omega) (by omega),Ah (by omega) (by omega)]
  have ih:=Bec bk to' p N fr r6 a (j+1-T) (m+T) q (by omega) (by omega) (by omega)
  rw[show m+T+(j+1-T)=m+(j+1) by omega]at ih
  rw[←ih,show a+m+T=a+(m+T) by omega,show((j+1:Nat):Int)-((T:Nat):Int)=((j+1-T:Nat):Int) by omega,show(m:Int)+((T:Nat):Int)=((m+T:Nat):Int) by omega]
theorem Bnb(p:List UInt8)(N:Int)(a n:Nat)(ha:a+n≤8*p.length)(hp:p.length≤1000000)(hn:n≤300000):∀(j m f q:Nat),(f=m∨n≤f∧m=n)→m+j=n→f≤n+64→j<q→Vl ((a+n:Nat):Int) p N q ((a+f:Nat):Int) (m:Int) (Ady p a m)=some (Ady p a n,(n:Int),0)
 |j,m,f,q+1,hf,hm,hf2,hq=>by
  rw[Vl,Aph]
  by_cases hlt:f<n
  ·obtain rfl:f=m:=by omega
   have e1:Dk (64:Int) (Aj ((a+n:Nat):Int) ((a+f:Nat):Int))=((min 64 (n-f):Nat):Int):=by
    rw[Agt,Bv (by omega) (by omega)];omega
   rw[if_pos (by rw[Af];simp;omega),e1,get_eq p N (a+f) _ (by omega) (by omega) hp,Aa,Apg]
   have h1:=Bec (Vl ((a+n:Nat):Int) p N q) ((a+n:Nat):Int) p N ((a+f:Nat):Int) (Ub p (a+f) (min 64 (n-f))) a (min 64 (n-f)) f FUEL (by omega) (by omega) (by have:=Am;omega)
   refine Eq.trans h1 ?_
   rw[Ah0,Ax1,Ah (by omega) (by omega),show((a+f:Nat):Int)+64=((a+(f+64):Nat):Int) by omega]
   exact Bnb p N a n ha hp hn (j-min 64 (n-f)) (f+min 64 (n-f)) (f+64) q (by omega) (by omega) (by omega) (by omega)
  ·rw[if_neg (by rw[Af];simp;omega),Aog,Ay0,show m=n by omega]
theorem Ceg{p:List UInt8}{N:Nat}(h:okB p N)(a n:Nat)(ha:a+n≤N)(hn:n≤300000):As0 p (N:Int) (a:Int) ((a+n:Nat):Int)=some (Ady p a n,(n:Int),0):=by
 obtain⟨h1,h2,h3⟩:=h
 have:=Bnb p N a n (by omega) (by omega) hn n 0 0 FUEL (by omega) (by omega) (by omega) (by have:=Am;omega)
 rw[As0,Atw,Aic ⟨h1,h2,h3⟩,Aa,if_neg (by rw[Ak];simp),if_neg (by simp[Af,Aq];omega),Api]
 exact this
end Go.Pl
set_option linter.unusedVariables false
set_option linter.unusedSimpArgs false
namespace Go.Pl
open Go Go.Lv
def Gb(p:List UInt8):Nat→Nat→Nat
 |_,0=>0
 |a,m+1=>if Kf p a=1 then 1+Gb p (a+1) m else 0
theorem Akx(p:List UInt8):∀(m a:Nat),Gb p a m≤m
 |0,_=>Nat.le_refl _
 |m+1,a=>by rw[Gb];split<;>have:=Akx p m (a+1)<;>omega
theorem Boj(p:List UInt8):∀(m a:Nat),∃s,Cg p a m+1=2^(Gb p a m+1)*s+2^Gb p a m∧(Gb p a m=m→s=0)
 |0,a=>⟨0,by simp[Cg,Gb],fun _=>rfl⟩
 |m+1,a=>by
  have hb:=Wv p a
  obtain⟨s,h1,h2⟩:=Boj p m (a+1)
  by_cases h:Kf p a=1
  ·refine⟨s,?_,fun e=>h2 ?_⟩
   ·rw[Gb,if_pos h,Cg,h,show 1+Gb p (a+1) m+1=(Gb p (a+1) m+1)+1 by omega,show 1+Gb p (a+1) m=Gb p (a+1) m+1 by omega,Nat.pow_succ,Nat.pow_succ (n:=2) (m:=Gb p (a+1) m)]
    rw[Nat.pow_succ]at h1
    generalize Cg p (a+1) m=V at*
    generalize 2^Gb p (a+1) m=W at*
    have e1:W*2*2*s=2*(W*2*s):=by rw[Nat.mul_right_comm (W*2) 2 s,Nat.mul_comm]
    omega
   ·rw[Gb,if_pos h]at e;omega
  ·refine⟨Cg p (a+1) m,?_,fun e=>?_⟩
   ·rw[Gb,if_neg h,Cg];simp;omega
   ·rw[Gb,if_neg h]at e;omega
theorem Cad{n t s:Nat}(h:2^(t+1)*s+2^t≤2^n)(ht:t<n)(x:Nat)(hx:x=2^n-(2^(t+1)*s+2^t)):x&&& (2^(t+1)*s+2^t)=2^t:=by
 have hpos:0<2^t:=Nat.pow_pos (by omega)
 have hlt:2^t<2^(t+1):=by rw[Nat.pow_succ];omega
 have e:x=2^n-((2^(t+1)*s+(2^t-1))+1):=by rw[hx];congr 1;omega
 apply Nat.eq_of_testBit_eq
 intro i
 rw[Nat.testBit_and,e,Nat.testBit_two_pow_sub_succ (by omega),Nat.testBit_two_pow_mul_add _ (by omega),Nat.testBit_two_pow_mul_add _ hlt]
 by_cases hi:i<t+1
 ·rw[if_pos hi,if_pos hi,Nat.testBit_two_pow_sub_one,Nat.testBit_two_pow]
  by_cases hit:t=i
  ·subst hit;simp;exact ht
  ·have:¬i=t:=fun e=>hit e.symm
   simp[hit]
 ·rw[if_neg hi,if_neg hi,Nat.testBit_two_pow]
  have:¬t=i:=by omega
  simp[this]
theorem Byg(a:UInt64):(Bf8 a).toNat=18446744073709551615-a.toNat:=by
 have h:=a.toNat_lt
 have e:Bf8 a=UInt64.ofNat (BitVec.ofInt 64 18446744073709551615^^^BitVec.ofInt 64 (a.toNat:Int)).toNat:=Gt _
 have h1:BitVec.ofInt 64 (a.toNat:Int)=a.toBitVec:=Bk2 a
 have h2:(BitVec.ofInt 64 18446744073709551615:BitVec 64)=BitVec.allOnes 64:=by decide
 rw[e,UInt64.toNat_ofNat',h1,h2,BitVec.allOnes_xor,BitVec.toNat_not]
 show(18446744073709551616-1-a.toNat) %18446744073709551616=18446744073709551615-a.toNat
 omega
theorem Bwp(a:UInt64):(Axz a).toNat=(18446744073709551616-a.toNat) %18446744073709551616:=by
 have h:=a.toNat_lt
 have e:Axz a=UInt64.ofNat ((0-(a.toNat:Int)) %18446744073709551616).toNat:=Bkq _
 rw[e,UInt64.toNat_ofNat']
 show((0-(a.toNat:Int)) %18446744073709551616).toNat %18446744073709551616=_
 omega
def Cf9:List UInt8:=[0,1,56,2,57,49,28,3,61,58,42,50,38,29,17,4,62,47,59,36,45,43,51,22,53,39,33,30,24,18,12,5,63,55,48,27,60,41,37,16,46,35,44,21,52,32,23,11,54,26,40,15,34,20,31,10,25,14,19,9,13,8,7,6]
theorem Bt7:∀t:Fin 64,getI Cf9 (GI.toZ (Bu (Bi (UInt64.ofNat (2^t.val)) (285870213051353865:UInt64)) (GI.toZ (58:UInt64)).toNat))=some (UInt8.ofNat t.val):=by decide +kernel
theorem Cf5(x:UInt64)(t s:Nat)(ht:t<64)(h:x.toNat+(2^(t+1)*s+2^t)=18446744073709551616):Fu x=some (t:Int):=by
 have hpos:0<2^t:=Nat.pow_pos (by omega)
 have hx:x.toNat=2^64-(2^(t+1)*s+2^t):=by show x.toNat=18446744073709551616-_;omega
 have hle:2^t≤2^63:=Nat.pow_le_pow_right (by omega) (by omega)
 have hne:x≠0:=by
  intro e
  rw[e]at h
  have h':2^t*(2*s+1)=2^64:=by
   rw[Nat.mul_add,Nat.mul_one,←Nat.mul_assoc,←Nat.pow_succ]
   show _=18446744073709551616
   simpa using h
  have h2:2^64=2^t*2^(64-t):=by rw[←Nat.pow_add];congr 1;omega
  rw[h2]at h'
  have h3:=Nat.eq_of_mul_eq_mul_left hpos h'
  rw[show 64-t=(63-t)+1 by omega,Nat.pow_succ]at h3
  omega
 have hx0:x.toNat≠0:=fun e=>hne (UInt64.toNat_inj.1 e)
 have hl:Ds x (Axz x)=UInt64.ofNat (2^t):=by
  apply UInt64.toNat_inj.1
  rw[Bds,UInt64.toNat_and,Bwp,show(18446744073709551616-x.toNat) %18446744073709551616=2^(t+1)*s+2^t by omega,Cad (n:=64) (by show _≤18446744073709551616;omega) ht _ hx,UInt64.toNat_ofNat',Nat.mod_eq_of_lt]
  exact Nat.lt_of_le_of_lt hle (by decide)
 have hb:=Bt7 ⟨t,ht⟩
 rw[Fu,if_neg (by rw[Bcp];simpa using hne),hl]
 refine Eq.trans (congrArg (fun o=>Option.bind o fun c=>some (Ad c:Int)) hb) ?_
 rw[Aa,Aie,UInt8.toNat_ofNat',Nat.mod_eq_of_lt (by show t<256;omega)]
theorem Cdo(p:List UInt8)(a m:Nat)(hm:m≤48):Fu (Bf8 (Ub p a m))=some ((Gb p a m:Nat):Int):=by
 obtain⟨s,h1,h2⟩:=Boj p m a
 have hle:=Akx p m a
 have hlt:=Qg p m a
 have h48:2^m≤2^48:=Nat.pow_le_pow_right (by omega) hm
 have hn:(Bf8 (Ub p a m)).toNat=18446744073709551615-Cg p a m:=by rw[Byg,Abp p a m (by omega)]
 have h3:(281474976710656:Nat)=2^48:=rfl
 refine Cf5 _ (Gb p a m) s (by omega) ?_
 rw[hn];omega
def unS(p:List UInt8)(N a:Nat):Int×Int×Int:=
 if Gb p a (min 48 (N-a))<min 48 (N-a)then((Gb p a (min 48 (N-a)):Nat),((a+Gb p a (min 48 (N-a))+1:Nat):Int),0)else
 if Gb p a (min 48 (N-a))=48 then(48,((a+48:Nat):Int),0)else(0,0,24)
theorem Byd{p:List UInt8}{N:Nat}(h:okB p N)(a:Nat)(ha:a<N):Aee p (N:Int) (a:Int)=some (unS p N a):=by
 have hN:=h.1
 have e1:Dk (48:Int) (Aj (N:Int) (a:Int))=((min 48 (N-a):Nat):Int):=by rw[Agt,Bv (by omega) (by omega)];omega
 have hle:=Akx p (min 48 (N-a)) a
 rw[Aee,Xh,Aic h,Aa,if_neg (by rw[Ak];simp),if_neg (by rw[Af];simp),if_neg (by rw[Dx];simp;omega),e1,Azz h a _ (by omega),if_neg (by omega),Aa]
 simp only
 rw[Al8,Amo,if_neg (by rw[Ak];simp),Cdo p a _ (by omega),Aa,Al5,Ama,e1,unS]
 by_cases h1:Gb p a (min 48 (N-a))<min 48 (N-a)
 ·rw[if_pos (by rw[Af];simp;omega),if_pos h1,Ah (a:=(a:Int)) (by omega) (by omega),show Ae (0:Int) 1=1 by decide,Ah (by omega) (by omega)]
  congr 3;omega
 ·rw[if_neg (by rw[Af];simp;omega),if_neg h1,Amd,Al4]
  by_cases h2:Gb p a (min 48 (N-a))=48
  ·rw[if_pos (by rw[Ap,h2];rfl),if_pos h2,h2,Ah (a:=(a:Int)) (by omega) (by omega),Ah (by omega) (by omega)]
   congr 3;omega
  ·rw[if_neg (by rw[Ap];simp;omega),if_neg h2];rfl
theorem Bh3(p:List UInt8):∀(m a:Nat),Gb p a m<m→Kf p (a+Gb p a m)≠1
 |0,_,h=>by simp[Gb]at h
 |m+1,a,h=>by
  by_cases hb:Kf p a=1
  ·rw[Gb,if_pos hb]at h⊢
   have:=Bh3 p m (a+1) (by omega)
   rwa [show a+(1+Gb p (a+1) m)=a+1+Gb p (a+1) m by omega]
  ·rw[Gb,if_neg hb];exact hb
theorem Bik(p:List UInt8):∀(m a k:Nat),k<Gb p a m→Kf p (a+k)=1
 |0,a,k,h=>by simp[Gb]at h
 |m+1,a,k,h=>by
  by_cases hb:Kf p a=1
  ·rw[Gb,if_pos hb]at h
   cases k with
   |zero=>exact hb
   |succ k=>
    have:=Bik p m (a+1) k (by omega)
    rwa [show a+(k+1)=a+1+k by omega]
  ·rw[Gb,if_neg hb]at h;omega
def unR(p:List UInt8)(N a:Nat):Int×Int:=if(unS p N a).2.2=0 then((unS p N a).1,(unS p N a).2.1)else(-1,0)
theorem Be6{p:List UInt8}{N:Nat}(h:okB p N)(a:Nat)(ha:a<N):∀(j k q:Nat),k+j=Gb p a (min 48 (N-a))→j<q→Kw (a:Int) p (N:Int) q (k:Int)=some (unR p N a)
 |0,k,q+1,hk,_=>by
  obtain⟨hN,hl,hz⟩:=h
  have hle:=Akx p (min 48 (N-a)) a
  have hk':k=Gb p a (min 48 (N-a)):=by omega
  have e1:Ae (a:Int) (k:Int)=((a+k:Nat):Int):=by rw[Ah (by omega) (by omega)];omega
  have hend:Wg (a:Int) (k:Int) p (N:Int)=some (unR p N a):=by
   rw[Wg,Ahf,e1]
   by_cases h48:k=48
   ·have hu:unS p N a=(48,((a+48:Nat):Int),0):=by rw[unS,←hk',if_neg (by omega),if_pos h48]
    rw[if_pos (by rw[Ap,h48];rfl),unR,hu,h48];rfl
   ·rw[if_neg (by rw[Ap];simp;omega)]
    by_cases hN2:N≤a+k
    ·have hu:unS p N a=(0,0,24):=by rw[unS,←hk',if_neg (by omega),if_neg h48]
     rw[if_pos (by rw[Dx];simp;omega),unR,hu];rfl
    ·have hu:unS p N a=(((k:Nat):Int),((a+k+1:Nat):Int),0):=by rw[unS,←hk',if_pos (by omega)]
     rw[if_neg (by rw[Dx];simp;omega),unR,hu,Ah (by omega) (by omega)];rfl
  rw[Kw,Wb,e1]
  by_cases hc:a+k<N∧k<48
  ·have hb:=Wv p (a+k)
   have hs:=Bh3 p (min 48 (N-a)) a (by omega)
   rw[←hk']at hs
   rw[if_pos (by simp[Af];omega),Az4 p _ (a+k) (by omega) (by omega),Aa,if_neg (by rw[Ap];simp;omega),hend]
  ·rw[if_neg (by simp[Af];omega),hend]
 |j+1,k,q+1,hk,hq=>by
  obtain⟨hN,hl,hz⟩:=h
  have hle:=Akx p (min 48 (N-a)) a
  have hb:=Bik p (min 48 (N-a)) a k (by omega)
  have e1:Ae (a:Int) (k:Int)=((a+k:Nat):Int):=by rw[Ah (by omega) (by omega)];omega
  rw[Kw,Wb,e1,if_pos (by simp[Af];omega),Az4 p _ (a+k) (by omega) (by omega),Aa,hb,if_pos (by decide),Ah (by omega) (by omega)]
  exact Be6 ⟨hN,hl,hz⟩ a ha j (k+1) q (by omega) (by omega)
theorem Bw1{p:List UInt8}{N:Nat}(h:okB p N)(a:Nat)(ha:a<N):Anr p (N:Int) (a:Int)=some (unR p N a):=by
 have hle:=Akx p (min 48 (N-a)) a
 have:=Be6 h a ha (Gb p a (min 48 (N-a))) 0 FUEL (by omega) (by have:=Am;omega)
 exact this
end Go.Pl
set_option linter.unusedVariables false
set_option linter.unusedSimpArgs false
namespace Go.Pl
open Go Go.Lv
theorem Bww{p:List UInt8}{N a:Nat}(h:Gb p a (min 48 (N-a))<min 48 (N-a)):unS p N a=(((Gb p a (min 48 (N-a)):Nat):Int),((a+Gb p a (min 48 (N-a))+1:Nat):Int),0):=by rw[unS,if_pos h]
theorem Bxj{p:List UInt8}{N a:Nat}(h:¬Gb p a (min 48 (N-a))<min 48 (N-a))(h2:Gb p a (min 48 (N-a))=48):unS p N a=(48,((a+48:Nat):Int),0):=by rw[unS,if_neg h,if_pos h2]
theorem Bw2{p:List UInt8}{N a:Nat}(h:¬Gb p a (min 48 (N-a))<min 48 (N-a))(h2:¬Gb p a (min 48 (N-a))=48):unS p N a=(0,0,24):=by rw[unS,if_neg h,if_neg h2]
theorem Bt5{p:List UInt8}{N:Nat}(h:okB p N)(a:Nat)(ha:N≤a):Aee p (N:Int) (a:Int)=some (0,0,24):=by
 rw[Aee,Xh,Aic h,Aa,if_neg (by rw[Ak];simp),if_neg (by rw[Af];simp),if_pos (by rw[Dx];simp;omega)]
def rcS(p:List UInt8)(N a k:Nat):UInt32×Int×Int:=
 if N≤a then(0,0,24)else
 if Gb p a (min 48 (N-a))<min 48 (N-a)then
  (if N<a+Gb p a (min 48 (N-a))+1+k then(0,0,24)else(UInt32.ofNat (Gb p a (min 48 (N-a))*2^k+Cg p (a+Gb p a (min 48 (N-a))+1) k),((a+Gb p a (min 48 (N-a))+1+k:Nat):Int),0))
 else if Gb p a (min 48 (N-a))=48 then
  (if N<a+48+32 then(0,0,24)else if Cg p (a+48) 32/2^k<48 then(0,0,12)else(UInt32.ofNat (Cg p (a+48) 32),((a+48+32:Nat):Int),0))
 else(0,0,24)
theorem Azg{p:List UInt8}{a n:Nat}(h:n≤32):(Ad (Ub p a n):UInt32)=UInt32.ofNat (Cg p a n):=by
 have e:(Ad (Ub p a n):UInt32)=UInt32.ofNat (Ub p a n).toNat:=by simp only[Ad,Ig,Ef]
 rw[e,Abp p a n (by omega)]
theorem Aok{n:Nat}(h:n<4294967296):(UInt32.ofNat n).toNat=n:=by rw[UInt32.toNat_ofNat'];exact Nat.mod_eq_of_lt h
theorem Bnw(p:List UInt8)(a:Nat){n:Nat}(h:n≤32):Cg p a n<4294967296:=by
 have h1:=Qg p n a
 have h2:2^n≤2^32:=Nat.pow_le_pow_right (by omega) h
 omega
theorem Cec{q v k:Nat}(hq:q<48)(hv:v<2^k)(hk:k≤24):gor (Dm (Ad (q:Int):UInt32) k) (UInt32.ofNat v)=UInt32.ofNat (q*2^k+v):=by
 have hp:2^k≤2^24:=Nat.pow_le_pow_right (by omega) hk
 have h1:q*2^k≤47*2^24:=Nat.mul_le_mul (by omega) hp
 rw[Ccy];apply UInt32.toNat_inj.1
 rw[UInt32.toNat_or,Bgj,Bia,Aok (by omega),Aok (n:=v) (by omega),Nat.mod_eq_of_lt (by omega),Nat.mul_comm q,←Nat.two_pow_add_eq_or_of_lt hv,Aok (by rw[Nat.mul_comm];omega)]
theorem Cdd{p:List UInt8}{N:Nat}(h:okB p N)(a k:Nat)(hk:k≤24):Auo p (N:Int) (a:Int) (k:Int)=some (rcS p N a k):=by
 have hN:=h.1
 rw[Auo,Apf,Aic h,Aa,if_neg (by rw[Ak];simp),if_neg (by simp[Af,Aq];omega)]
 by_cases ha:N≤a
 ·rw[Bt5 h a ha,Aa,rcS,if_pos ha];rfl
 have hle:=Akx p (min 48 (N-a)) a
 rw[Byd h a (by omega),Aa]
 by_cases h1:Gb p a (min 48 (N-a))<min 48 (N-a)
 ·have hS:rcS p N a k=if N<a+Gb p a (min 48 (N-a))+1+k then(0,0,24)else(UInt32.ofNat (Gb p a (min 48 (N-a))*2^k+Cg p (a+Gb p a (min 48 (N-a))+1) k),((a+Gb p a (min 48 (N-a))+1+k:Nat):Int),0):=by rw[rcS,if_neg ha,if_pos h1]
  rw[Bww h1,hS]
  generalize Gb p a (min 48 (N-a))=q at*
  simp only
  rw[if_neg (by rw[Ak];simp),if_neg (by rw[Ap];simp;omega),Ahw,Apd,Azz h _ k (by omega),Aa]
  by_cases h2:N<a+q+1+k
  ·rw[if_pos h2,if_pos h2];rfl
  ·rw[if_neg h2,if_neg h2]
   simp only
   have z:(GI.toZ (k:Int)).toNat=k:=rfl
   rw[if_neg (by rw[Ak];simp),if_pos (by rw[Af];simp;omega),Cv (by rw[Dx];simp),Aa,z,Azg (by omega),Cec (by omega) (Qg _ _ _) hk,Ah (by omega) (by omega)];rfl
 ·by_cases h2:Gb p a (min 48 (N-a))=48
  ·have hS:rcS p N a k=if N<a+48+32 then(0,0,24)else if Cg p (a+48) 32/2^k<48 then(0,0,12)else(UInt32.ofNat (Cg p (a+48) 32),((a+48+32:Nat):Int),0):=by rw[rcS,if_neg ha,if_neg h1,if_pos h2]
   have hg:=Azz h (a+48) 32 (by omega)
   rw[Bxj h1 h2,hS]
   simp only
   rw[if_neg (by rw[Ak];simp),if_pos (by rw[Ap];rfl),Ahw,Apd]
   refine Eq.trans (congrArg (fun o=>Option.bind o _) hg) ?_
   rw[Aa]
   by_cases h3:N<a+48+32
   ·rw[if_pos h3,if_pos h3];rfl
   ·rw[if_neg h3,if_neg h3]
    simp only
    have z:(GI.toZ (k:Int)).toNat=k:=rfl
    have hv:=Bnw p (a+48) (n:=32) (by omega)
    rw[if_neg (by rw[Ak];simp),if_neg (by rw[Af];simp),Ahs,Cv (by rw[Dx];simp),Aa,Aa,z,Azg (by omega),Ccm]
    have e:(decide ((48:UInt32).toNat≤(Bu (UInt32.ofNat (Cg p (a+48) 32)) k).toNat))=decide (¬Cg p (a+48) 32/2^k<48):=by
     rw[Ani,Aok hv];simp
    rw[e]
    by_cases h4:Cg p (a+48) 32/2^k<48
    ·rw[if_pos (by simp[h4]),if_pos h4]
    ·rw[if_neg (by simp;omega),if_neg h4,Ah (by omega) (by omega)];rfl
  ·rw[Bw2 h1 h2,rcS,if_neg ha,if_neg h1,if_neg h2];rfl
theorem Bgk(k:Nat)(hk:k≤63):∀(j i q:Nat),i+j=k→j<q→Iq (k:Int) q (UInt64.ofNat (2^i)) (i:Int)=some (UInt64.ofNat (2^k))
 |0,i,q+1,hi,_=>by
  rw[Iq,Rr,if_neg (by rw[Af];simp;omega),show i=k by omega];rfl
 |j+1,i,q+1,hi,hq=>by
  have e:Bi (UInt64.ofNat (2^i)) (2:UInt64)=UInt64.ofNat (2^(i+1)):=by
   rw[Aex,Nat.pow_succ,UInt64.ofNat_mul];rfl
  rw[Iq,Rr,if_pos (by rw[Af];simp;omega),Ah (by omega) (by omega),e]
  exact Bgk k hk j (i+1) q (by omega) (by omega)
theorem Afp(k:Nat)(hk:k≤63):Ey (k:Int)=some (UInt64.ofNat (2^k)):=
 Bgk k hk k 0 FUEL (by omega) (by have:=Am;omega)
theorem Alg{k:Nat}(hk:k≤63):(UInt64.ofNat (2^k)).toNat=2^k:=by
 have hp:2^k≤2^63:=Nat.pow_le_pow_right (by omega) hk
 rw[UInt64.toNat_ofNat',Nat.mod_eq_of_lt (by omega)]
theorem Cb7(v:UInt32)(k:Nat)(hk:k≤24):Aap v (k:Int)=some ((min 48 (v.toNat/2^k):Nat):Int):=by
 have hpos:0<2^k:=Nat.pow_pos (by omega)
 have hv:=v.toNat_lt
 rw[Aap,Afp k (by omega),Aa,Cv (by rw[Ahz];simp only[bne_iff_ne,ne_eq,←UInt64.toNat_inj,Alg (show k≤63 by omega)];simp),Aa]
 have e:(Ck (Ad v:UInt64) (UInt64.ofNat (2^k))).toNat=v.toNat/2^k:=by
  rw[Ay3,UInt64.toNat_div,Hx,Alg (by omega),UInt64.toNat_ofNat',Nat.mod_eq_of_lt (by omega)]
 have hle:v.toNat/2^k≤v.toNat:=Nat.div_le_self _ _
 have e2:Dk (48:UInt64) (Ck (Ad v:UInt64) (UInt64.ofNat (2^k)))=UInt64.ofNat (min 48 (v.toNat/2^k)):=by
  apply UInt64.toNat_inj.1
  rw[UInt64.toNat_ofNat',Nat.mod_eq_of_lt (by omega)]
  show(if _ then _ else _:UInt64).toNat=_
  rw[show(GI.toZ (Ck (Ad v:UInt64) (UInt64.ofNat (2^k))))=((v.toNat/2^k:Nat):Int) by rw[Ig,e],show GI.toZ (48:UInt64)=48 from rfl]
  split
  ·rw[e];omega
  ·show 48=_;omega
 rw[e2,Azo (by rw[UInt64.toNat_ofNat',Nat.mod_eq_of_lt]<;>omega),UInt64.toNat_ofNat',Nat.mod_eq_of_lt (by omega)]
theorem Byx{p:List UInt8}{N:Nat}(h:okB p N)(a k:Nat)(hk:k≤24):Aea p (N:Int) (a:Int) (k:Int)=some (rcS p N a k):=by
 obtain⟨hN,hl,hz⟩:=h
 have h:okB p N:=⟨hN,hl,hz⟩
 rw[Aea,Ahq]
 by_cases ha:N≤a
 ·rw[if_pos (by rw[Dx];simp;omega),rcS,if_pos ha]
 have hle:=Akx p (min 48 (N-a)) a
 rw[if_neg (by rw[Dx];simp;omega),Bw1 h a (by omega),Aa,unR]
 by_cases h1:Gb p a (min 48 (N-a))<min 48 (N-a)
 ·have hS:rcS p N a k=if N<a+Gb p a (min 48 (N-a))+1+k then(0,0,24)else(UInt32.ofNat (Gb p a (min 48 (N-a))*2^k+Cg p (a+Gb p a (min 48 (N-a))+1) k),((a+Gb p a (min 48 (N-a))+1+k:Nat):Int),0):=by rw[rcS,if_neg ha,if_pos h1]
  rw[Bww h1,hS]
  generalize Gb p a (min 48 (N-a))=q at*
  rw[if_pos rfl]
  simp only
  rw[if_neg (by rw[Ap];simp;omega),Wi,Wp,Bv (by omega) (by omega)]
  by_cases h2:N<a+q+1+k
  ·rw[if_pos (by simp[Af];omega),if_pos h2]
  ·have hp:2^k≤2^24:=Nat.pow_le_pow_right (by omega) hk
   have hm:q*2^k≤47*2^24:=Nat.mul_le_mul (by omega) hp
   have hv:=Qg p k (a+q+1)
   have e:(Ad (Ae (Bi (Ad (q:Int):UInt64) (UInt64.ofNat (2^k))) (Ub p (a+q+1) k)):UInt32)=UInt32.ofNat (q*2^k+Cg p (a+q+1) k):=by
    have e1:Ae (Bi (Ad (q:Int):UInt64) (UInt64.ofNat (2^k))) (Ub p (a+q+1) k)=UInt64.ofNat (q*2^k+Cg p (a+q+1) k):=by
     rw[Afl,Aex,Zm,Ub,UInt64.ofNat_add,UInt64.ofNat_mul]
    rw[e1]
    have e2:∀x:UInt64,(Ad x:UInt32)=UInt32.ofNat x.toNat:=fun x=>by simp only[Ad,Ig,Ef]
    rw[e2,UInt64.toNat_ofNat',Nat.mod_eq_of_lt (by omega)]
   rw[if_neg (by simp[Af];omega),if_neg h2,Awp p _ _ k (by omega) (by omega),Aa,if_pos (by rw[Af];simp;omega),Afp k (by omega),Aa,e,Ah (by omega) (by omega)];rfl
 ·by_cases h2:Gb p a (min 48 (N-a))=48
  ·have hS:rcS p N a k=if N<a+48+32 then(0,0,24)else if Cg p (a+48) 32/2^k<48 then(0,0,12)else(UInt32.ofNat (Cg p (a+48) 32),((a+48+32:Nat):Int),0):=by rw[rcS,if_neg ha,if_neg h1,if_pos h2]
   rw[Bxj h1 h2,hS,if_pos rfl]
   simp only
   rw[if_pos (by rw[Ap];rfl),Wi,Wp,Bv (by omega) (by omega)]
   by_cases h3:N<a+48+32
   ·rw[if_pos (by simp[Af];omega),if_pos h3]
   ·have hg:=Awp p (N:Int) (a+48) 32 (by omega) (by omega)
    have hv:=Bnw p (a+48) (n:=32) (by omega)
    rw[if_neg (by simp[Af];omega),if_neg h3]
    refine Eq.trans (congrArg (fun o=>Option.bind o _) hg) ?_
    rw[Aa,if_neg (by rw[Af];simp),Azg (by omega),Cb7 _ k hk,Aa,Aok hv]
    by_cases h4:Cg p (a+48) 32/2^k<48
    ·rw[if_pos (by rw[Af];simp;omega),if_pos h4]
    ·rw[if_neg (by rw[Af];simp;omega),if_neg h4,Ah (by omega) (by omega)];rfl
  ·rw[Bw2 h1 h2,rcS,if_neg ha,if_neg h1,if_neg h2]
   have e:(if((0:Int),(0:Int),(24:Int)).2.2=0 then(((0:Int),(0:Int),(24:Int)).1,((0:Int),(0:Int),(24:Int)).2.1)else((-1:Int),(0:Int)))=(-1,0):=by decide
   rw[e];rfl
theorem Ced{p:List UInt8}{N a k:Nat}{v:UInt32}{n:Int}(h:rcS p N a k=(v,n,0)):(a:Int)<n∧n≤N:=by
 unfold rcS at h
 split at h
 ·simp at h
 split at h
 ·split at h
  ·simp at h
  ·simp only[Prod.mk.injEq]at h;omega
 ·split at h
  ·split at h
   ·simp at h
   ·split at h
    ·simp at h
    ·simp only[Prod.mk.injEq]at h;omega
  ·simp at h
end Go.Pl
set_option linter.unusedVariables false
set_option linter.unusedSimpArgs false
namespace Go.Pl
open Go Go.Lv
def okD(k l:Nat)(s t:UInt64):Prop:=k≤24∧l≤24∧s.toNat≤68719476735∧t.toNat≤68719476735
theorem Bm6(a b:UInt64)(h:a.toNat≤b.toNat):Dk a b=a:=by
 show(if _ then _ else _)=_
 rw[Ig,Ig,if_neg (by omega)]
theorem Ayl(a:UInt64):geq a a=true:=by rw[Bcp];simp
theorem Cfh{k l:Nat}{s t:UInt64}(h:okD k l s t):Aki (k:Int) (l:Int) s t=some 0:=by
 obtain⟨h1,h2,h3,h4⟩:=h
 have e1:Dk (Ant (k:Int) 0) 24=(k:Int):=by rw[Agt,Bd3];omega
 have e2:Dk (Ant (l:Int) 0) 24=(l:Int):=by rw[Agt,Bd3];omega
 have e3:Dk s (68719476735:UInt64)=s:=Bm6 _ _ (by simpa using h3)
 have e4:Dk t (68719476735:UInt64)=t:=Bm6 _ _ (by simpa using h4)
 have e5:∀a:Int,geq a a=true:=fun a=>by rw[Ap];simp
 rw[Aki,Aet,Ame,Aer,Amm,Av5,e1,e2,e3,e4,e5,e5,Ayl,Ayl];rfl
def Aas(s n:UInt64):UInt64:=s+n-s/16
def kS(k:Nat)(s:UInt64):Nat:=if 0<k∧s.toNat<2^(k+4)then k-1 else if k<24∧2^(k+5)<s.toNat then k+1 else k
theorem Cd4{k:Nat}(h:k≤24)(s:UInt64):kS k s≤24:=by
 unfold kS
 by_cases h1:0<k∧s.toNat<2^(k+4)
 ·rw[if_pos h1];omega
 ·rw[if_neg h1];split<;>omega
theorem Bsu{k:Nat}{s:UInt64}(h:¬(0<k∧s.toNat<2^(k+4))):(if k<24∧2^(k+5)<s.toNat then((k+1:Nat):Int)else(k:Int))=((kS k s:Nat):Int):=by
 rw[kS,if_neg h];split<;>rfl
theorem Bs0{s n:UInt64}(h:s.toNat≤68719476735)(hn:n.toNat≤4294967295):(Aas s n).toNat≤68719476735:=by
 have h1:=s.toNat_lt
 have e:(s+n).toNat=s.toNat+n.toNat:=by rw[UInt64.toNat_add];omega
 have e2:(s/16).toNat=s.toNat/16:=by rw[UInt64.toNat_div];rfl
 rw[Aas,UInt64.toNat_sub_of_le _ _ (by rw[UInt64.le_iff_toNat_le,e,e2];omega),e,e2];omega
theorem Bdp(s n:UInt64):Ae s (Aj n (Bu s (GI.toZ (4:UInt64)).toNat))=Aas s n:=by
 have e:Bu s (GI.toZ (4:UInt64)).toNat=s/16:=by
  apply UInt64.toNat_inj.1
  rw[Agc,UInt64.toNat_div];rfl
 rw[e,Afl,Bdf,Aas,UInt64.sub_eq_add_neg,UInt64.sub_eq_add_neg,UInt64.add_assoc]
theorem Brn(s n:UInt64):Aj (Ae s n) (Ck s (16:UInt64))=Aas s n:=by rw[Afl,Bdf,Ay3,Aas]
theorem Cgo{k:Nat}(h:k≤24):(Dm (16:UInt64) k).toNat=2^(k+4):=by
 have hp:2^k≤2^24:=Nat.pow_le_pow_right (by omega) h
 rw[Anf,Nat.pow_add]
 show 16*2^k %_=2^k*16
 rw[Nat.mod_eq_of_lt (by omega),Nat.mul_comm]
theorem Ce0{k:Nat}(h:k≤24):(Dm (32:UInt64) k).toNat=2^(k+5):=by
 have hp:2^k≤2^24:=Nat.pow_le_pow_right (by omega) h
 rw[Anf,Nat.pow_add]
 show 32*2^k %_=2^k*32
 rw[Nat.mod_eq_of_lt (by omega),Nat.mul_comm]
theorem Cdq{k:Nat}{s:UInt64}(h:0<k)(h2:s.toNat<2^(k+4)):kS k s=k-1:=by rw[kS,if_pos ⟨h,h2⟩]
theorem Cdw{k:Nat}{s:UInt64}(h:¬(0<k∧s.toNat<2^(k+4)))(h2:k<24)(h3:2^(k+5)<s.toNat):kS k s=k+1:=by rw[kS,if_neg h,if_pos ⟨h2,h3⟩]
theorem Bsx{k:Nat}{s:UInt64}(h:¬(0<k∧s.toNat<2^(k+4)))(h2:¬(k<24∧2^(k+5)<s.toNat)):kS k s=k:=by rw[kS,if_neg h,if_neg h2]
theorem Cd7{α:Type}(k:Nat)(hk:k≤24)(s:UInt64)(f:Int→Option α):
  (if(Dw (k:Int) (0:Int))=true then(
   Option.bind (Jp (Lk (k:Int) (0:Int))) fun _=>
   if(Bz s (Dm (16:UInt64) (GI.toZ (k:Int)).toNat))=true then f (Aj (k:Int) (1:Int))
   else(if(Bz (k:Int) (24:Int))=true then(
    Option.bind (Jp (Lk (k:Int) (0:Int))) fun _=>
    if(Dw s (Dm (32:UInt64) (GI.toZ (k:Int)).toNat))=true then f (Ae (k:Int) (1:Int))else f (k:Int))
    else f (k:Int)))
  else(if(Bz (k:Int) (24:Int))=true then(
    Option.bind (Jp (Lk (k:Int) (0:Int))) fun _=>
    if(Dw s (Dm (32:UInt64) (GI.toZ (k:Int)).toNat))=true then f (Ae (k:Int) (1:Int))else f (k:Int))
    else f (k:Int)))=f ((kS k s:Nat):Int):=by
 have z:(GI.toZ (k:Int)).toNat=k:=rfl
 rw[z,Cv (by rw[Dx];simp)]
 simp only[Aa]
 rw[Bct,Ak9,Cgo hk,Ce0 hk]
 by_cases h0:0<k
 ·rw[if_pos (by rw[Aq];simp;omega)]
  by_cases h1:s.toNat<2^(k+4)
  ·rw[if_pos (by simp[h1]),Cdq h0 h1,Bv (by omega) (by omega)];congr 1;omega
  ·rw[if_neg (by simp;omega)]
   by_cases h2:k<24
   ·rw[if_pos (by rw[Af];simp;omega)]
    by_cases h3:2^(k+5)<s.toNat
    ·rw[if_pos (by simp[h3]),Cdw (fun h=>h1 h.2) h2 h3,Ah (by omega) (by omega)];rfl
    ·rw[if_neg (by simp;omega),Bsx (fun h=>h1 h.2) (fun h=>h3 h.2)]
   ·rw[if_neg (by rw[Af];simp;omega),Bsx (fun h=>h1 h.2) (fun h=>h2 h.1)]
 ·rw[if_neg (by rw[Aq];simp;omega)]
  by_cases h2:k<24
  ·rw[if_pos (by rw[Af];simp;omega)]
   by_cases h3:2^(k+5)<s.toNat
   ·rw[if_pos (by simp[h3]),Cdw (fun h=>h0 h.1) h2 h3,Ah (by omega) (by omega)];rfl
   ·rw[if_neg (by simp;omega),Bsx (fun h=>h0 h.1) (fun h=>h3 h.2)]
  ·rw[if_neg (by rw[Af];simp;omega),Bsx (fun h=>h0 h.1) (fun h=>h2 h.1)]
theorem Brr(k:Nat)(hk:k≤24)(s n:UInt64):Td (k:Int) s n=some (((kS k (Aas s n):Nat):Int),Aas s n):=by
 have g1:Ae (k:Int) 4=((k+4:Nat):Int):=by rw[Ah (by omega) (by omega)];omega
 have g2:Ae (k:Int) 5=((k+5:Nat):Int):=by rw[Ah (by omega) (by omega)];omega
 have hp:Ug (k:Int) s n=some (if k<24∧2^(k+5)<(Aas s n).toNat then((k+1:Nat):Int)else(k:Int),Aas s n):=by
  rw[Ug,Agg,g2,Afp _ (by omega),Aa,Brn,Ak9,Alg (by omega)]
  by_cases h2:k<24
  ·rw[if_pos (by rw[Af];simp;omega)]
   by_cases h3:2^(k+5)<(Aas s n).toNat
   ·rw[if_pos (by simp[h3]),if_pos ⟨h2,h3⟩,Ah (by omega) (by omega)];rfl
   ·rw[if_neg (by simp;omega),if_neg (fun h=>h3 h.2)]
  ·rw[if_neg (by rw[Af];simp;omega),if_neg (fun h=>h2 h.1)]
 rw[Td,Afc,g1,Afp _ (by omega),Aa,Brn,Bct,Alg (by omega),hp]
 by_cases h0:0<k
 ·rw[if_pos (by rw[Aq];simp;omega)]
  by_cases h1:(Aas s n).toNat<2^(k+4)
  ·rw[if_pos (by simp[h1]),Cdq h0 h1,Bv (by omega) (by omega)];congr 2;omega
  ·rw[if_neg (by simp;omega),Bsu (fun h=>h1 h.2)]
 ·rw[if_neg (by rw[Aq];simp;omega),Bsu (fun h=>h0 h.1)]
def n64(v:UInt32):UInt64:=UInt64.ofNat v.toNat
theorem Byr(v:UInt32):(n64 v).toNat≤4294967295:=by have:=v.toNat_lt;rw[n64,UInt64.toNat_ofNat',Nat.mod_eq_of_lt (by omega)];omega
def Bbn(k:Nat)(v:UInt32):UInt32:=UInt32.ofNat (v.toNat-2^k)
def lK(l:Nat)(t:UInt64)(k:Nat)(v:UInt32):Nat:=if v.toNat<2^k then l else kS l (Aas t (n64 (Bbn k v)))
def lT(t:UInt64)(k:Nat)(v:UInt32):UInt64:=if v.toNat<2^k then t else Aas t (n64 (Bbn k v))
theorem Bz3{k l:Nat}{s t:UInt64}(h:okD k l s t)(v:UInt32):okD (kS k (Aas s (n64 v))) (lK l t k v) (Aas s (n64 v)) (lT t k v):=by
 obtain⟨h1,h2,h3,h4⟩:=h
 refine⟨Cd4 h1 _,?_,Bs0 h3 (Byr v),?_⟩
 ·unfold lK;split; · exact h2
  exact Cd4 h2 _
 ·unfold lT;split; · exact h4
  exact Bs0 h4 (Byr _)
theorem Cew(k l:Nat)(s t:UInt64)(hk:k≤24)(v:UInt32):Adr (k:Int) (l:Int) s t v=some (decide (v.toNat<2^k)):=by
 have:=v.toNat_lt
 rw[Adr,Afp k (by omega),Aa,Bct,Alg (by omega),Hx,UInt64.toNat_ofNat',Nat.mod_eq_of_lt (by omega)]
theorem left_eq(k l:Nat)(s t:UInt64)(hk:k≤24)(v:UInt32)(h:¬v.toNat<2^k):Acf (k:Int) (l:Int) s t v=some (Bbn k v):=by
 have:=v.toNat_lt
 have e2:∀x:UInt64,(Ad x:UInt32)=UInt32.ofNat x.toNat:=fun x=>by simp only[Ad,Ig,Ef]
 have e3:(UInt64.ofNat v.toNat).toNat=v.toNat:=by rw[UInt64.toNat_ofNat',Nat.mod_eq_of_lt (by omega)]
 rw[Acf,Afp k (by omega),Aa,e2,Bdf,Hx,UInt64.toNat_sub_of_le _ _ (by rw[UInt64.le_iff_toNat_le,Alg (by omega),e3];omega),Alg (by omega),e3,Bbn]
theorem But{k l:Nat}{s t:UInt64}(h:okD k l s t)(v:UInt32):Wl (k:Int) (l:Int) s t v=some (((kS k (Aas s (n64 v)):Nat):Int),((lK l t k v:Nat):Int),Aas s (n64 v),lT t k v):=by
 obtain⟨h1,h2,h3,h4⟩:=h
 have hp:∀(r1:Int) (r2:UInt64),Qj v (k:Int) (l:Int) s t r1 r2=some (((kS k (Aas s (n64 v)):Nat):Int),r1,Aas s (n64 v),r2):=by
  intro r1 r2
  rw[Qj,Aak,Hx,Brr k h1,Aa];rfl
 rw[Wl,Abo,Cew k l s t h1,Aa]
 by_cases hv:v.toNat<2^k
 ·rw[if_neg (by simp[hv]),hp,lK,if_pos hv,lT,if_pos hv]
 ·rw[if_pos (by simp;omega),left_eq k l s t h1 v hv,Aa,Hx,Brr l h2,Aa]
  simp only
  rw[hp,lK,if_neg hv,lT,if_neg hv];rfl
theorem Bxm(k l:Nat)(s t:UInt64)(hk:k≤24)(v:UInt32):Ado (k:Int) (l:Int) s t v=some (if v.toNat<2^k then(0,v)else(1,Bbn k v)):=by
 have hp:2^k≤2^24:=Nat.pow_le_pow_right (by omega) hk
 have hpos:0<2^k:=Nat.pow_pos (by omega)
 have hl:=v.toNat_lt
 have z:(GI.toZ (k:Int)).toNat=k:=rfl
 have e1:geq (Bu v k) (0:UInt32)=decide (v.toNat<2^k):=by
  rw[Bj8,Bool.eq_iff_iff]
  simp only[beq_iff_eq,←UInt32.toNat_inj,Ani,decide_eq_true_eq]
  show _/_=0↔_
  rw[Nat.div_eq_zero_iff];omega
 have e2:¬v.toNat<2^k→Aj v (Dm (1:UInt32) k)=Bbn k v:=by
  intro h
  have e3:(Dm (1:UInt32) k).toNat=2^k:=by rw[Bgj];show 1*2^k %_=_;rw[Nat.mod_eq_of_lt (by omega),Nat.one_mul]
  apply UInt32.toNat_inj.1
  rw[Bno,UInt32.toNat_sub_of_le _ _ (by rw[UInt32.le_iff_toNat_le,e3];omega),e3,Bbn,Aok (by omega)]
 rw[Ado,Cv (by rw[Dx];simp),Aa,Aa,z,e1]
 by_cases h:v.toNat<2^k
 ·rw[if_pos (by simp[h]),if_pos h]
 ·rw[if_neg (by simp;omega),if_neg h,e2 h]
abbrev Rd:=UInt32×Int×Int×Int×UInt64×UInt64×Int
theorem Bf9{k l:Nat}{s t:UInt64}(h:okD k l s t)(v:UInt32)(r:Int):Ahy (k:Int) (l:Int) s t v r=some (v,r,((kS k (Aas s (n64 v)):Nat):Int),((lK l t k v:Nat):Int),Aas s (n64 v),lT t k v,0):=by
 obtain⟨h1,h2,h3,h4⟩:=h
 have hp:∀(x:Int) (y:UInt64),Aaf v r (k:Int) s x y=some (v,r,((kS k (Aas s (n64 v)):Nat):Int),x,Aas s (n64 v),y,0):=by
  intro x y
  rw[Aaf,Apj,Hx,Bdp,Cd7 k h1]
  rw[Aoh,Aoz,Amf,Av4,Hx,Bdp];rfl
 rw[Ahy,Aow,Bxm k l s t h1,Aa]
 by_cases hv:v.toNat<2^k
 ·rw[if_pos hv]
  simp only
  rw[if_neg (by rw[Ap];simp),hp,lK,if_pos hv,lT,if_pos hv]
 ·rw[if_neg hv]
  simp only
  rw[if_pos (by rw[Ap];rfl),Hx,Bdp,Cd7 l h2 _ (fun x=>Aaf v r (k:Int) s x (Aas t (UInt64.ofNat (Bbn k v).toNat))),hp,lK,if_neg hv,lT,if_neg hv];rfl
def dgS(p:List UInt8)(N a k l:Nat):UInt32×Int×Int:=
 if N≤a then(0,0,24)else
 if Kf p a=0 then(if N<a+1+k then(0,0,24)else(UInt32.ofNat (Cg p (a+1) k),((a+1+k:Nat):Int),0))else
 if(rcS p N (a+1) l).2.2≠0 then(0,0,(rcS p N (a+1) l).2.2)else
 if 4294967295<(rcS p N (a+1) l).1.toNat+2^k then(0,0,12)else(UInt32.ofNat ((rcS p N (a+1) l).1.toNat+2^k),(rcS p N (a+1) l).2.1,0)
theorem Cfg{p:List UInt8}{N a k l:Nat}(h:(dgS p N a k l).2.2=0):(a:Int)<(dgS p N a k l).2.1∧(dgS p N a k l).2.1≤N:=by
 revert h
 unfold dgS
 split
 ·simp
 split
 ·split
  ·simp
  ·simp only;omega
 ·split
  ·intro h;contradiction
  ·rename_i h1
   split
   ·simp
   ·intro _
    have:=Ced (p:=p) (N:=N) (a:=a+1) (k:=l) (v:=(rcS p N (a+1) l).1) (n:=(rcS p N (a+1) l).2.1) (by
     have e:(rcS p N (a+1) l).2.2=0:=by simpa using h1
     rw[←e])
    simp only;omega
theorem Cai{p:List UInt8}{N:Nat}(h:okB p N)(a:Nat){k l:Nat}{s t:UInt64}(hd:okD k l s t):Ad6 p (N:Int) (a:Int) (k:Int) (l:Int) s t=
  some (if(dgS p N a k l).2.2≠0 then(0,0,0,0,0,0,(dgS p N a k l).2.2)else((dgS p N a k l).1,(dgS p N a k l).2.1,((kS k (Aas s (n64 (dgS p N a k l).1)):Nat):Int),((lK l t k (dgS p N a k l).1:Nat):Int),Aas s (n64 (dgS p N a k l).1),lT t k (dgS p N a k l).1,0)):=by
 obtain⟨h1,h2,h3,h4⟩:=hd
 have hd:okD k l s t:=⟨h1,h2,h3,h4⟩
 have hN:=h.1
 have hg:=Azz h a 1 (by omega)
 have hb:=Wv p a
 rw[Ad6,Aof,Aic h,Aa,if_neg (by rw[Ak];simp),Cfh hd,Aa,if_neg (by rw[Ak];simp),Aom,Ao8]
 refine Eq.trans (congrArg (fun o=>Option.bind o _) hg) ?_
 rw[Aa]
 by_cases ha:N≤a
 ·have hS:dgS p N a k l=(0,0,24):=by rw[dgS,if_pos ha]
  rw[if_pos (by omega),hS];rfl
 rw[if_neg (by omega)]
 simp only
 have e0:geq (Ub p a 1) (0:UInt64)=decide (Kf p a=0):=by
  rw[Bcp,Bool.eq_iff_iff]
  simp only[beq_iff_eq,←UInt64.toNat_inj,decide_eq_true_eq,Abp p a 1 (by omega),Bmk];rfl
 have e1:Ae (a:Int) 1=((a+1:Nat):Int):=by rw[Ah (by omega) (by omega)];omega
 rw[if_neg (by rw[Ak];simp),e0,e1]
 by_cases hz:Kf p a=0
 ·rw[if_pos (by simp[hz]),Azz h (a+1) k (by omega),Aa]
  by_cases h5:N<a+1+k
  ·have hS:dgS p N a k l=(0,0,24):=by rw[dgS,if_neg ha,if_pos hz,if_pos h5]
   rw[if_pos h5,hS];rfl
  ·have hS:dgS p N a k l=(UInt32.ofNat (Cg p (a+1) k),((a+1+k:Nat):Int),0):=by rw[dgS,if_neg ha,if_pos hz,if_neg h5]
   rw[if_neg h5,hS]
   simp only
   rw[if_neg (by rw[Ak];simp),Bf9 hd,Azg (by omega),Ah (by omega) (by omega)];rfl
 ·rw[if_neg (by simp[hz]),Cdd h (a+1) l h2,Aa]
  have hp:2^k≤2^24:=Nat.pow_le_pow_right (by omega) h1
  by_cases h5:(rcS p N (a+1) l).2.2≠0
  ·have hS:dgS p N a k l=(0,0,(rcS p N (a+1) l).2.2):=by rw[dgS,if_neg ha,if_neg hz,if_pos h5]
   rw[hS]
   generalize rcS p N (a+1) l=R at*
   obtain⟨v,n,e⟩:=R
   simp only at*
   rw[if_pos (by rw[Ak];simpa using h5),if_pos h5]
  ·have hv:=(rcS p N (a+1) l).1.toNat_lt
   have z:(GI.toZ (k:Int)).toNat=k:=rfl
   have e3:(Dm (1:UInt32) k).toNat=2^k:=by rw[Bgj];show 1*2^k %_=_;rw[Nat.mod_eq_of_lt (by omega),Nat.one_mul]
   by_cases h6:4294967295<(rcS p N (a+1) l).1.toNat+2^k
   ·have hS:dgS p N a k l=(0,0,12):=by rw[dgS,if_neg ha,if_neg hz,if_neg h5,if_pos h6]
    rw[hS]
    generalize rcS p N (a+1) l=R at*
    obtain⟨v,n,e⟩:=R
    simp only at*
    rw[if_neg (by rw[Ak];simpa using h5),Cv (by rw[Dx];simp),Aa,z,if_pos (by rw[Bru,Bfv,UInt32.toNat_add,e3];simp;omega),if_pos (by decide)]
   ·have hS:dgS p N a k l=(UInt32.ofNat ((rcS p N (a+1) l).1.toNat+2^k),(rcS p N (a+1) l).2.1,0):=by rw[dgS,if_neg ha,if_neg hz,if_neg h5,if_neg h6]
    rw[hS]
    generalize rcS p N (a+1) l=R at*
    obtain⟨v,n,e⟩:=R
    simp only at*
    have e4:Ae v (Dm (1:UInt32) k)=UInt32.ofNat (v.toNat+2^k):=by
     apply UInt32.toNat_inj.1
     rw[Bfv,UInt32.toNat_add,e3,Aok (by omega),Nat.mod_eq_of_lt (by omega)]
    rw[if_neg (by rw[Ak];simpa using h5),Cv (by rw[Dx];simp),Aa,z,if_neg (by rw[Bru,Bfv,UInt32.toNat_add,e3];simp;omega),e4,Bf9 hd];rfl
theorem Byh{p:List UInt8}{N:Nat}(h:okB p N)(a:Nat)(k l:Nat)(s t:UInt64)(h1:k≤24)(h2:l≤24):Ad7 p (N:Int) (a:Int) (k:Int) (l:Int) s t=some (dgS p N a k l):=by
 have hN:=h.1
 have hl:=h.2.1
 have hb:=Wv p a
 rw[Ad7]
 by_cases ha:N≤a
 ·rw[if_pos (by rw[Dx];simp;omega),dgS,if_pos ha]
 rw[if_neg (by rw[Dx];simp;omega),Az4 p _ a (by omega) (by omega),Aa,Bv (a:=(N:Int)) (b:=(a:Int)) (by omega) (by omega),Bv (by omega) (by omega)]
 have e1:Ae (a:Int) 1=((a+1:Nat):Int):=by rw[Ah (by omega) (by omega)];omega
 rw[e1]
 by_cases hz:Kf p a=0
 ·rw[if_pos (by rw[Ap];simp[hz])]
  by_cases h5:N<a+1+k
  ·rw[if_pos (by rw[Af];simp;omega),dgS,if_neg ha,if_pos hz,if_pos h5]
  ·rw[if_neg (by rw[Af];simp;omega),Awp p _ (a+1) k (by omega) (by omega),Aa,dgS,if_neg ha,if_pos hz,if_neg h5,Azg (by omega),Ah (by omega) (by omega)];rfl
 ·rw[if_neg (by rw[Ap];simp;omega),Byx h (a+1) l h2,Aa]
  have hp:2^k≤2^24:=Nat.pow_le_pow_right (by omega) h1
  have hv:=(rcS p N (a+1) l).1.toNat_lt
  have e2:∀x:UInt64,(Ad x:UInt32)=UInt32.ofNat x.toNat:=fun x=>by simp only[Ad,Ig,Ef]
  by_cases h5:(rcS p N (a+1) l).2.2≠0
  ·have hS:dgS p N a k l=(0,0,(rcS p N (a+1) l).2.2):=by rw[dgS,if_neg ha,if_neg hz,if_pos h5]
   rw[hS]
   generalize rcS p N (a+1) l=R at*
   obtain⟨v,n,e⟩:=R
   simp only at*
   rw[if_pos (by rw[Ak];simpa using h5)]
  ·have hsum:∀v:UInt32,(Ae (Ad v:UInt64) (UInt64.ofNat (2^k))).toNat=v.toNat+2^k:=by
    intro v
    have:=v.toNat_lt
    have:=Nat.pow_pos (n:=k) (show 0<2 by omega)
    rw[Afl,UInt64.toNat_add,Hx,Alg (by omega),UInt64.toNat_ofNat'];omega
   by_cases h6:4294967295<(rcS p N (a+1) l).1.toNat+2^k
   ·have hS:dgS p N a k l=(0,0,12):=by rw[dgS,if_neg ha,if_neg hz,if_neg h5,if_pos h6]
    rw[hS]
    generalize rcS p N (a+1) l=R at*
    obtain⟨v,n,e⟩:=R
    simp only at*
    rw[if_neg (by rw[Ak];simpa using h5),Afp k (by omega),Aa,if_pos (by rw[Ak9,hsum];simpa using h6)]
   ·have hS:dgS p N a k l=(UInt32.ofNat ((rcS p N (a+1) l).1.toNat+2^k),(rcS p N (a+1) l).2.1,0):=by rw[dgS,if_neg ha,if_neg hz,if_neg h5,if_neg h6]
    rw[hS]
    generalize rcS p N (a+1) l=R at*
    obtain⟨v,n,e⟩:=R
    simp only at*
    rw[if_neg (by rw[Ak];simpa using h5),Afp k (by omega),Aa,if_neg (by rw[Ak9,hsum];simpa using h6),e2,hsum]
end Go.Pl
set_option linter.unusedVariables false
set_option linter.unusedSimpArgs false
namespace Go.Pl
open Go Go.Lv
abbrev DuN:=Nat×Nat×UInt64×UInt64
def okN(d:DuN):Prop:=okD d.1 d.2.1 d.2.2.1 d.2.2.2
def nxt(d:DuN)(v:UInt32):DuN:=(kS d.1 (Aas d.2.2.1 (n64 v)),lK d.2.1 d.2.2.2 d.1 v,Aas d.2.2.1 (n64 v),lT d.2.2.2 d.1 v)
def Bkx:DuN:=(10,10,16384,16384)
theorem Bxt:okN Bkx:=⟨by decide,by decide,by decide,by decide⟩
theorem Cfu{d:DuN}(h:okN d)(v:UInt32):okN (nxt d v):=Bz3 h v
abbrev DuL:=Int×Int×UInt64×UInt64×Unit
def toI(d:DuN):DuL:=((d.1:Int),(d.2.1:Int),d.2.2.1,d.2.2.2,())
def chP(ch:Nat)(v:List UInt32)(c:Nat):Nat→DuN
 |0=>Bkx
 |m+1=>if m %ch=c then nxt (chP ch v c m) (v.getD m 0)else chP ch v c m
theorem Bae(ch:Nat)(v:List UInt32)(c:Nat):∀m,okN (chP ch v c m)
 |0=>Bxt
 |m+1=>by rw[chP];split;exact Cfu (Bae ch v c m) _;exact Bae ch v c m
theorem Bsy(ch:Nat)(v w:List UInt32)(c:Nat):∀m,m≤v.length→chP ch (v++w) c m=chP ch v c m
 |0,_=>rfl
 |m+1,h=>by
  have e:(v++w).getD m 0=v.getD m 0:=by simp[List.getD_eq_getElem?_getD,List.getElem?_append_left (show m<v.length by omega)]
  rw[chP,chP,Bsy ch v w c m (by omega),e]
theorem Bju(ch:Nat)(v:List UInt32)(c:Nat):∀m,m≤c→c<ch→chP ch v c m=Bkx
 |0,_,_=>rfl
 |m+1,h,h2=>by rw[chP,if_neg (by rw[Nat.mod_eq_of_lt (by omega)];omega),Bju ch v c m (by omega) h2]
theorem Bmb(ch:Nat)(v:List UInt32)(c i:Nat)(hi:i %ch=c)(hc:c<ch):∀j,j<ch→chP ch v c (i+1+j)=chP ch v c (i+1)
 |0,_=>rfl
 |j+1,h=>by
  have hne:(i+1+j) %ch≠c:=by
   intro e
   have h1:(i+(1+j)) %ch=i %ch:=by rw[hi,←e];congr 1;omega
   have h2:(1+j) %ch=0:=by
    have h3:=Nat.sub_mod_eq_zero_of_mod_eq h1
    rwa [Nat.add_sub_cancel_left]at h3
   rw[Nat.mod_eq_of_lt (by omega)]at h2;omega
  rw[show i+1+(j+1)=(i+1+j)+1 by omega,chP,if_neg hne,Bmb ch v c i hi hc j (by omega)]
theorem Byt(ch:Nat)(v:List UInt32)(c i:Nat)(hi:i %ch=c)(hc:c<ch):chP ch v c (i+ch)=nxt (chP ch v c i) (v.getD i 0):=by
 have h:=Bmb ch v c i hi hc (ch-1) (by omega)
 rw[show i+1+(ch-1)=i+ch by omega]at h
 rw[h,chP,if_pos hi]
theorem Bgy{l:List UInt32}{k:Nat}(h:k<l.length):getI l (k:Int)=some (l.getD k 0):=by
 rw[Cc h];simp[List.getD_eq_getElem?_getD,h]
theorem Bfr(a b:Nat):Gp (a:Int) (b:Int)=((a %b:Nat):Int):=by rw[Gp,Int.tmod_eq_emod_of_nonneg (by omega)];omega
theorem Bbj(ch:Nat)(v:List UInt32)(hch:1≤ch)(hch6:ch≤6)(hv:v.length≤4000):∀(j i q:Nat),i %ch=v.length %ch→i≤v.length→v.length-i≤j→j<q→
  Lb (ch:Int) v q (i:Int) ((chP ch v (v.length %ch) i).1:Int) ((chP ch v (v.length %ch) i).2.1:Int) (chP ch v (v.length %ch) i).2.2.1 (chP ch v (v.length %ch) i).2.2.2=
   some (((chP ch v (v.length %ch) v.length).1:Int),((chP ch v (v.length %ch) v.length).2.1:Int),(chP ch v (v.length %ch) v.length).2.2.1,(chP ch v (v.length %ch) v.length).2.2.2)
 |j,i,q+1,hi,hl,hj,hq=>by
  have hc:v.length %ch<ch:=Nat.mod_lt _ (by omega)
  rw[Lb,Aa8]
  by_cases h:i<v.length
  ·have h1:=But (Bae ch v (v.length %ch) i) (v.getD i 0)
   rw[if_pos (by rw[Af,Ac];simp;omega),Bgy h,Aa,h1,Aa]
   have hle:i+ch≤v.length:=by
    have h2:=Nat.div_add_mod i ch
    have h3:=Nat.div_add_mod v.length ch
    rw[hi]at h2
    have h4:ch*(i/ch)<ch*(v.length/ch):=by omega
    have h5:=Nat.lt_of_mul_lt_mul_left h4
    have h6:ch*(i/ch+1)≤ch*(v.length/ch):=Nat.mul_le_mul_left _ h5
    rw[Nat.mul_add]at h6;omega
   have ih:=Bbj ch v hch hch6 hv (j-ch) (i+ch) q (by rw[Nat.add_mod_right];exact hi) hle (by omega) (by omega)
   rw[Byt ch v _ i hi hc]at ih
   simp only
   rw[Ah (by omega) (by omega)]
   exact ih
  ·rw[if_neg (by rw[Af,Ac];simp;omega),show i=v.length by omega];rfl
theorem Bur(ch:Nat)(v:List UInt32)(hch:1≤ch)(hch6:ch≤6)(hv:v.length≤4000):Od (ch:Int) v=some (((chP ch v (v.length %ch) v.length).1:Int),((chP ch v (v.length %ch) v.length).2.1:Int),(chP ch v (v.length %ch) v.length).2.2.1,(chP ch v (v.length %ch) v.length).2.2.2):=by
 have hc:v.length %ch<ch:=Nat.mod_lt _ (by omega)
 have hle:v.length %ch≤v.length:=Nat.mod_le _ _
 have h:=Bbj ch v hch hch6 hv v.length (v.length %ch) FUEL (by rw[Nat.mod_mod]) hle (by omega) (by have:=Am;omega)
 rw[Bju ch v _ _ (Nat.le_refl _) hc]at h
 rw[Od,Abe,Lm,Aa]
 simp only
 rw[Cv (by rw[Ak];simp;omega),Aa,Ac,Bfr]
 exact h
def now(ch:Nat)(v:List UInt32):DuN:=chP ch v (v.length %ch) v.length
def win(N a:Nat):Nat:=min 81 (N-a)
def Lc(ch:Nat)(p:List UInt8)(N a:Nat)(out:List UInt32):UInt32×Int×Int:=dgS (Ady p a (win N a)) (win N a) 0 (now ch out).1 (now ch out).2.1
def Vo(ch:Nat)(p:List UInt8)(N:Nat):Nat→Nat→List UInt32→List UInt32×Nat×Int
 |0,a,out=>(out,a,0)
 |j+1,a,out=>if(Lc ch p N a out).2.2≠0 then(out,a,(Lc ch p N a out).2.2)else Vo ch p N j (a+(Lc ch p N a out).2.1.toNat) (out++[(Lc ch p N a out).1])
theorem Auz{ch:Nat}{p:List UInt8}{N a:Nat}{out:List UInt32}(h:(Lc ch p N a out).2.2=0):0<(Lc ch p N a out).2.1∧(Lc ch p N a out).2.1≤win N a:=by
 have:=Cfg h
 exact⟨this.1,this.2⟩
theorem Bhs{ch:Nat}{p:List UInt8}{N a:Nat}{out:List UInt32}(h:(Lc ch p N a out).2.2=0):((a:Int)+(Lc ch p N a out).2.1)=((a+(Lc ch p N a out).2.1.toNat:Nat):Int):=by
 have:=Auz h;omega
def sts(ch:Nat)(v:List UInt32):List DuL:=(List.range 6).map fun c=>toI (chP ch v c v.length)
theorem Bss{ch:Nat}{v:List UInt32}{c:Nat}(h:c<6):getI (sts ch v) (c:Int)=some (toI (chP ch v c v.length)):=by
 rw[Cc (by simp[sts];exact h)];simp[sts]
theorem Cda{ch:Nat}{v:List UInt32}{c:Nat}(x:UInt32)(h:c<6)(hc:c=v.length %ch):Kt (sts ch v) (c:Int) (toI (nxt (chP ch v c v.length) x))=some (sts ch (v++[x])):=by
 rw[Vy _ (by simp[sts];exact h)]
 congr 1
 apply List.ext_getElem (by simp[sts])
 intro i h1 h2
 rw[List.getElem_set]
 simp only[sts,List.getElem_map,List.getElem_range]
 have e:(v++[x]).getD v.length 0=x:=by simp
 rw[List.length_append,List.length_singleton,chP,e,Bsy ch v [x] i v.length (Nat.le_refl _)]
 by_cases hi:c=i
 ·subst hi;rw[if_pos rfl,if_pos hc.symm]
 ·rw[if_neg hi,if_neg (by omega)]
section
variable {p:List UInt8} {N ch n:Nat}
theorem Bmu(hp:okB p N)(h1:1≤ch)(h6:ch≤6)(hn:n*ch≤4000):∀(j a q:Nat) (out:List UInt32),out.length+j=n*ch→j<q→a≤N→
  Ll (ch:Int) (n:Int) p (N:Int) q (a:Int) (out.length:Int) (sts ch out) out=
   some (if(Vo ch p N j a out).2.2≠0 then([],0,(Vo ch p N j a out).2.2)else((Vo ch p N j a out).1,((Vo ch p N j a out).2.1:Int),0))
 |j,a,q+1,out,hj,hq,ha=>by
  have hN:=hp.1
  have hnn:n≤n*ch:=Nat.le_mul_of_pos_right n (by omega)
  have em:Bi (n:Int) (ch:Int)=((n*ch:Nat):Int):=by rw[Ib (by rw[←Int.natCast_mul];omega) (by rw[←Int.natCast_mul];omega),Int.natCast_mul]
  rw[Ll,Pw,em]
  cases j with
  |zero=>
   rw[if_neg (by rw[Af];simp;omega)];rfl
  |succ j=>
   have hc:out.length %ch<6:=Nat.lt_of_lt_of_le (Nat.mod_lt _ (by omega)) h6
   have ew:Dk (Ae (a:Int) 81) (N:Int)=((a+win N a:Nat):Int):=by rw[Agt,Ah (by omega) (by omega)];unfold win;omega
   have hw:a+win N a≤N:=by unfold win;omega
   have hw2:win N a≤81:=by unfold win;omega
   have hd:=Cai (Br0 p a (win N a) (by omega)) 0 (Bae ch out (out.length %ch) out.length)
   have ecode:dgS (Ady p a (win N a)) (win N a) 0 (chP ch out (out.length %ch) out.length).1 (chP ch out (out.length %ch) out.length).2.1=Lc ch p N a out:=rfl
   rw[if_pos (by rw[Af];simp;omega),ew,Ceg hp a _ hw (by omega),Aa]
   simp only
   rw[if_neg (by rw[Ak];simp),Cv (by rw[Ak];simp;omega),Aa,Bfr,Bss hc,Aa,Aa]
   refine Eq.trans (congrArg (fun o=>Option.bind o _) hd) ?_
   rw[Aa,ecode,Vo]
   by_cases he:(Lc ch p N a out).2.2≠0
   ·rw[if_pos he,if_pos he]
    simp only
    rw[Qq,Qk,if_pos (by rw[Ak];simpa using he),if_pos he]
   ·have he0:(Lc ch p N a out).2.2=0:=by simpa using he
    have hok:=Auz he0
    have hset:=Cda (ch:=ch) (v:=out) (Lc ch p N a out).1 hc rfl
    rw[if_neg he,if_neg he]
    simp only
    rw[Qq,Qk,if_neg (by rw[Ak];simp),Cv (by rw[Ak];simp;omega),Aa,Bfr,Bss hc,Aa]
    refine Eq.trans (congrArg (fun o=>Option.bind o _) hset) ?_
    rw[Aa,Xr,Akj,Cj (by simp;omega),Aa,Ah (by omega) (by omega),Ah (by omega) (by omega),Bhs he0]
    have ih:=Bmu hp h1 h6 hn j (a+(Lc ch p N a out).2.1.toNat) q (out++[(Lc ch p N a out).1]) (by simp;omega) (by omega) (by omega)
    rw[List.length_append,List.length_singleton]at ih
    exact ih
theorem Br8{p:List UInt8}(hN:N=8*p.length)(hN2:N≤330000)(h1:1≤ch)(h6:ch≤6)(hn:n*ch≤4000):∀(j a q:Nat) (out:List UInt32),out.length+j=n*ch→j<q→a≤N→
  En (ch:Int) (n:Int) p q (a:Int) (out.length:Int) out=
   if(Vo ch p N j a out).2.2≠0 then some ((Vo ch p N j a out).1,(Vo ch p N j a out).2.2)else Rk ((Vo ch p N j a out).2.1:Int) p (Vo ch p N j a out).1
 |j,a,q+1,out,hj,hq,ha=>by
  have hnn:n≤n*ch:=Nat.le_mul_of_pos_right n (by omega)
  have em:Bi (n:Int) (ch:Int)=((n*ch:Nat):Int):=by rw[Ib (by rw[←Int.natCast_mul];omega) (by rw[←Int.natCast_mul];omega),Int.natCast_mul]
  have e8:Bi (8:Int) (Ac p)=(N:Int):=by rw[Ac,Ib (by omega) (by omega)];omega
  rw[En,Acv,em]
  cases j with
  |zero=>
   rw[if_neg (by rw[Af];simp;omega)];rfl
  |succ j=>
   have ew:Dk (Ae (a:Int) 81) (N:Int)=((a+win N a:Nat):Int):=by rw[Agt,Ah (by omega) (by omega)];unfold win;omega
   have hw:a+win N a≤N:=by unfold win;omega
   have hw2:win N a≤81:=by unfold win;omega
   have hpre:(Option.bind Lm fun(r_4,r_5,r_6,r_7)=>
     if(Lk (out.length:Int) (ch:Int))=true then(
     Option.bind (Od (ch:Int) out) fun(r_8,r_9,r_10,r_11)=>
     Ip (En (ch:Int) (n:Int) p q) (ch:Int) (n:Int) p (a:Int) (out.length:Int) out r_8 r_9 r_10 r_11)
     else Ip (En (ch:Int) (n:Int) p q) (ch:Int) (n:Int) p (a:Int) (out.length:Int) out r_4 r_5 r_6 r_7)=
     Ip (En (ch:Int) (n:Int) p q) (ch:Int) (n:Int) p (a:Int) (out.length:Int) out ((now ch out).1:Int) ((now ch out).2.1:Int) (now ch out).2.2.1 (now ch out).2.2.2:=by
    rw[Lm,Aa]
    by_cases hc:ch≤out.length
    ·simp only
     rw[if_pos (by rw[Dx];simp;omega),Bur ch out h1 h6 (by omega),Aa];rfl
    ·have e:now ch out=Bkx:=by rw[now,Nat.mod_eq_of_lt (by omega),Bju ch out _ _ (Nat.le_refl _) (by omega)]
     simp only
     rw[if_neg (by rw[Dx];simp;omega),e];rfl
   have hd:=Byh (Br0 p a (win N a) (by omega)) 0 (now ch out).1 (now ch out).2.1 (now ch out).2.2.1 (now ch out).2.2.2 (Bae ch out _ _).1 (Bae ch out _ _).2.1
   have ecode:dgS (Ady p a (win N a)) (win N a) 0 (now ch out).1 (now ch out).2.1=Lc ch p N a out:=rfl
   rw[if_pos (by rw[Af];simp;omega),hpre,Ip,Ac2,e8,ew,Bnf p (N:Int) a _ (by omega) (by omega) (by omega),Aa]
   simp only
   refine Eq.trans (congrArg (fun o=>Option.bind o _) hd) ?_
   rw[Aa,ecode,Vo]
   by_cases he:(Lc ch p N a out).2.2≠0
   ·rw[if_pos he,if_pos (by rw[Ak];simpa using he),if_pos he]
   ·have he0:(Lc ch p N a out).2.2=0:=by simpa using he
    have hok:=Auz he0
    have ih:=Br8 hN hN2 h1 h6 hn j (a+(Lc ch p N a out).2.1.toNat) q (out++[(Lc ch p N a out).1]) (by simp;omega) (by omega) (by omega)
    have hx:=Bhs he0
    rw[List.length_append,List.length_singleton]at ih
    rw[if_neg he]
    generalize Lc ch p N a out=R at*
    obtain⟨v,nx,e⟩:=R
    simp only at*
    rw[if_neg (by rw[Ak];simpa using he),Cj (by simp;omega),Aa,Ah (by omega) (by omega),Ah (by omega) (by omega),hx]
    exact ih
end
theorem Bcn{ch:Nat}{p:List UInt8}{N:Nat}:∀(j a:Nat) (out:List UInt32),a≤N→(Vo ch p N j a out).2.1≤N∧(Vo ch p N j a out).1.length≤out.length+j∧((Vo ch p N j a out).2.2=0→(Vo ch p N j a out).1.length=out.length+j)
 |0,a,out,h=>⟨h,Nat.le_refl _,fun _=>rfl⟩
 |j+1,a,out,h=>by
  rw[Vo]
  split
  ·rename_i he
   exact⟨h,by simp,fun e=>absurd e he⟩
  ·rename_i he
   have hok:=Auz (ch:=ch) (p:=p) (N:=N) (a:=a) (out:=out) (by simpa using he)
   have hw:a+win N a≤N:=by unfold win;omega
   have ih:=Bcn (ch:=ch) (p:=p) (N:=N) j (a+(Lc ch p N a out).2.1.toNat) (out++[(Lc ch p N a out).1]) (by omega)
   rw[List.length_append,List.length_singleton]at ih
   exact⟨ih.1,by omega,fun e=>by have:=ih.2.2 e;omega⟩
theorem Bmf(ch n:Int)(b:List UInt8)(N:Int):Qn ch n b N 0 (List.replicate 6 ((0:Int),(0:Int),(0:UInt64),(0:UInt64),()))=Ym ch n b N (List.replicate 6 ((10:Int),(10:Int),(16384:UInt64),(16384:UInt64),())):=by
 have e:FUEL=(FUEL-7)+1+1+1+1+1+1+1:=by have:=Am;omega
 rw[Qn,e]
 rfl
theorem values_eq{p:List UInt8}{N ch n:Nat}(hp:okB p N)(h1:1≤ch)(h6:ch≤6)(hn:n*ch≤4000):Abs (ch:Int) (n:Int) p (N:Int)=
  some (if(Vo ch p N (n*ch) 0 []).2.2≠0 then([],0,(Vo ch p N (n*ch) 0 []).2.2)else((Vo ch p N (n*ch) 0 []).1,((Vo ch p N (n*ch) 0 []).2.1:Int),0)):=by
 have h:=Bmu hp h1 h6 hn (n*ch) 0 FUEL [] (by simp) (by have:=Am;omega) (by omega)
 rw[Abs,Aae,Bmf]
 exact h
theorem Biu(p:List UInt8)(x:List UInt32)(N:Nat)(hN:N=8*p.length)(hN2:N≤330000):∀(j a q:Nat),a+j=N→j<q→Io p x q (a:Int)=some (x,if Cg p a j=0 then 0 else 12)
 |0,a,q+1,ha,_=>by
  have e8:Bi (8:Int) (Ac p)=(N:Int):=by rw[Ac,Ib (by omega) (by omega)];omega
  rw[Io,Sf,e8,if_neg (by rw[Af];simp;omega),Cg,if_pos rfl];rfl
 |j+1,a,q+1,ha,hq=>by
  have e8:Bi (8:Int) (Ac p)=(N:Int):=by rw[Ac,Ib (by omega) (by omega)];omega
  have hb:=Wv p a
  rw[Io,Sf,e8,if_pos (by rw[Af];simp;omega),Az4 p _ a (by omega) (by omega),Aa,Cg]
  by_cases h:Kf p a=0
  ·rw[if_neg (by rw[Ak];simp[h]),Ah (by omega) (by omega),h]
   have ih:=Biu p x N hN hN2 j (a+1) q (by omega) (by omega)
   rw[show((a:Int)+1)=((a+1:Nat):Int) by omega,ih]
   congr 2
   by_cases hv:Cg p (a+1) j=0
   ·rw[if_pos hv,if_pos (by omega)]
   ·rw[if_neg hv,if_neg (by omega)]
  ·rw[if_pos (by rw[Ak];simp;omega),if_neg (by omega)]
theorem Bth{p:List UInt8}{N ch n:Nat}(hN:N=8*p.length)(hN2:N≤330000)(h1:1≤ch)(h6:ch≤6)(hn:n*ch≤4000):Zz (ch:Int) (n:Int) p=
  some (if(Vo ch p N (n*ch) 0 []).2.2≠0 then((Vo ch p N (n*ch) 0 []).1,(Vo ch p N (n*ch) 0 []).2.2)else
   ((Vo ch p N (n*ch) 0 []).1,if 7<N-(Vo ch p N (n*ch) 0 []).2.1∨Cg p (Vo ch p N (n*ch) 0 []).2.1 (N-(Vo ch p N (n*ch) 0 []).2.1)≠0 then 12 else 0)):=by
 have h:=Br8 hN hN2 h1 h6 hn (n*ch) 0 FUEL [] (by simp) (by have:=Am;omega) (by omega)
 have hat:=(Bcn (ch:=ch) (p:=p) (N:=N) (n*ch) 0 [] (by omega)).1
 have e8:Bi (8:Int) (Ac p)=(N:Int):=by rw[Ac,Ib (by omega) (by omega)];omega
 rw[Zz,Afw]
 refine Eq.trans h ?_
 generalize Vo ch p N (n*ch) 0 []=V at*
 obtain⟨v,a,e⟩:=V
 simp only at*
 by_cases he:e≠0
 ·rw[if_pos he,if_pos he]
 ·rw[if_neg he,if_neg he,Rk,Ac9,e8,Bv (by omega) (by omega)]
  by_cases h7:7<N-a
  ·rw[if_pos (by rw[Aq];simp;omega),if_pos (.inl h7)]
  ·rw[if_neg (by rw[Aq];simp;omega),Acu,Biu p v N hN hN2 (N-a) a FUEL (by omega) (by have:=Am;omega)]
   by_cases hv:Cg p a (N-a)=0
   ·rw[if_pos hv,if_neg (by omega)]
   ·rw[if_neg hv,if_pos (.inr hv)]
end Go.Pl
set_option linter.unusedVariables false
set_option linter.unusedSimpArgs false
namespace Go.Pl
open Go Go.Lv
theorem Bk5(n:Int):(GI.ofZ n:Int32)=Int32.ofInt n:=rfl
theorem Akt(a:Int32):GI.toZ a=a.toInt:=rfl
theorem Anx(a b:Int32):Ae a b=a+b:=by
 rw[Ae,Akt,Akt,Bk5,Int32.ofInt_add,Int32.ofInt_toInt,Int32.ofInt_toInt]
theorem Bg8(a b:Int32):Aj a b=a-b:=by
 rw[Aj,Akt,Akt,Bk5,Int32.ofInt_sub,Int32.ofInt_toInt,Int32.ofInt_toInt]
theorem Bs1(a b:Int32):geq a b=(a==b):=by
 rw[geq,Akt,Akt,Bool.eq_iff_iff];simp[Int32.toInt_inj]
def sel(p:Nat→Bool)(a b:List Int32):List Int32:=(List.range a.length).map fun k=>if p k=true then a.getD k 0 else b.getD k 0
section
variable {p q:Nat→Bool} {a b:List Int32}
theorem Aoj:(sel p a b).length=a.length:=by simp[sel]
theorem Mo{k:Nat}(h:k<a.length):a.getD k 0=a[k]:=by simp[List.getD_eq_getElem?_getD,h]
theorem Yv{k:Nat}(h:k<(sel p a b).length):(sel p a b)[k]=if p k=true then a.getD k 0 else b.getD k 0:=by simp[sel]
theorem Alj{k:Nat}(h:k<a.length):getI (sel p a b) (k:Int)=some (if p k=true then a.getD k 0 else b.getD k 0):=by
 rw[Cc (by rw[Aoj];exact h),Yv]
theorem Zg(h:∀k,k<a.length→p k=q k):sel p a b=sel q a b:=by
 apply List.map_congr_left
 intro k hk
 rw[h k (List.mem_range.1 hk)]
theorem Aye{k:Nat}(h:k<a.length):Kt (sel p a b) (k:Int) (a.getD k 0)=some (sel (fun j=>p j||decide (j=k)) a b):=by
 rw[Vy _ (by rw[Aoj];exact h)]
 congr 1
 apply List.ext_getElem (by simp[Aoj])
 intro i h1 h2
 rw[List.getElem_set,Yv,Yv]
 by_cases hi:k=i
 ·subst hi;simp
 ·have:¬i=k:=fun e=>hi e.symm
  simp[hi,this]
theorem Ayi(h:∀k,k<a.length→p k=true):sel p a b=a:=by
 apply List.ext_getElem (by simp[Aoj])
 intro i h1 h2
 rw[Yv,if_pos (h i h2),Mo h2]
theorem Aza(hl:b.length=a.length)(h:∀k,k<a.length→p k=false):sel p a b=b:=by
 apply List.ext_getElem (by simp[Aoj,hl])
 intro i h1 h2
 rw[Yv,h i (by omega)]
 simp[List.getD_eq_getElem?_getD,h2]
end
end Go.Pl
set_option linter.unusedVariables false
set_option linter.unusedSimpArgs false
namespace Go.Pl
open Go Go.Lv
theorem Bg3(a b:Int32):Bi a b=a*b:=by
 rw[Bi,Akt,Akt,Bk5,Int32.ofInt_mul,Int32.ofInt_toInt,Int32.ofInt_toInt]
theorem Abz(a:Int32): -2147483648≤a.toInt∧a.toInt<2147483648:=⟨a.le_toInt,a.toInt_lt⟩
theorem Eu(a:Int32):(Ad a:Int)=a.toInt:=by
 have:=Abz a
 show wrap64 a.toInt=_
 rw[Ce]<;>omega
theorem Aia(n:Int):(Ad n:Int32)=Int32.ofInt n:=rfl
theorem Bvl(x:Int):Int32.ofInt (x %4294967296)=Int32.ofInt x:=by
 apply Int32.toInt_inj.1
 rw[Int32.toInt_ofInt,Int32.toInt_ofInt]
 exact Int.emod_bmod x 4294967296
theorem Bcr(x:Int):Ci x=some (Int32.ofInt x):=by
 have e1:(Ad x:UInt64).toNat=(x %18446744073709551616).toNat:=by
  rw[Bmh,UInt64.toNat_ofNat',Nat.mod_eq_of_lt (by omega)]
 have e2:(Ad (Ad x:UInt64):UInt32).toNat=(x %4294967296).toNat:=by
  have e:(Ad (Ad x:UInt64):UInt32)=UInt32.ofNat (Ad x:UInt64).toNat:=by simp only[Ad,Ig,Ef]
  rw[e,UInt32.toNat_ofNat',e1]
  show(x %18446744073709551616).toNat %4294967296=_
  omega
 have e3:(Ad (Ad (Ad x:UInt64):UInt32):Int32)=Int32.ofInt ((Ad (Ad x:UInt64):UInt32).toNat:Int):=rfl
 rw[Ci,e3,e2,←Bvl x]
 congr 2;omega
theorem Ayg(a b:Int32):Ci (Ae (Ad a:Int) (Ad b:Int))=some (a+b):=by
 have:=Abz a
 have:=Abz b
 rw[Eu,Eu,Ah (by omega) (by omega),Bcr,Int32.ofInt_add,Int32.ofInt_toInt,Int32.ofInt_toInt]
theorem Bxi(a b:Int32):Ci (Bi (Ad a:Int) (Ad b:Int))=some (a*b):=by
 have ha:=Abz a
 have hb:=Abz b
 have h1: -9223372036854775808≤a.toInt*b.toInt∧a.toInt*b.toInt≤9223372036854775807:=by
  have h2:(a.toInt*b.toInt).natAbs≤2147483648*2147483648:=by
   rw[Int.natAbs_mul];exact Nat.mul_le_mul (by omega) (by omega)
  omega
 rw[Eu,Eu,Ib h1.1 h1.2,Bcr,Int32.ofInt_mul,Int32.ofInt_toInt,Int32.ofInt_toInt]
def OkF(s:Int)(t p:List Int32):Prop:=(s=9∨s=10)∧t.length=16∧p.length=16
theorem Az6{s:Int}{t p:List Int32}(h:OkF s t p):Ad1 s t p=some 0:=by
 obtain⟨rfl|rfl,_,_⟩:=h<;>rfl
theorem g32{l:List Int32}{k:Nat}(h:k<l.length):getI l (k:Int)=some (l.getD k 0):=by
 rw[Cc h];simp[List.getD_eq_getElem?_getD,h]
def At4(t p:List Int32):Nat→Int32
 |0=>0
 |i+1=>At4 t p i+t.getD i 0*p.getD i 0
def half(s:Int):Int32:=if s=9 then 256 else 512
def gF(s:Int)(t p:List Int32):Int32:=Int32.ofInt ((half s+At4 t p 16).toInt.fdiv (if s=9 then 512 else 1024))
theorem Bid{s:Int}{t p:List Int32}(h:OkF s t p):∀(j i q:Nat),i+j=16→j<q→Ri t s p q (half s+At4 t p i) (i:Int)=some (gF s t p,0)
 |0,i,q+1,hi,_=>by
  obtain rfl:i=16:=by omega
  have hs:=h.1
  rw[Ri,Aep,if_neg (by rw[Af];simp),Al0,Avs,Cv (by rw[Dx];simp;omega),Aa]
  obtain rfl|rfl:=hs<;>rfl
 |j+1,i,q+1,hi,hq=>by
  obtain⟨hs,ht,hp⟩:=h
  rw[Ri,Aep,if_pos (by rw[Af];simp;omega),g32 (by omega),Aa,g32 (by omega),Aa,Aa,Ah (b:=1) (by omega) (by omega),Anx,Bg3,Int32.add_assoc]
  exact Bid ⟨hs,ht,hp⟩ j (i+1) q (by omega) (by omega)
theorem Bzo{s:Int}{t p:List Int32}(h:OkF s t p):Aiz s t p=some (gF s t p,0):=by
 have hs:=h.1
 have h1:=Bid h 16 0 FUEL (by omega) (by have:=Am;omega)
 have e:Dm (1:Int32) (GI.toZ (Aj s (1:Int))).toNat=half s+At4 t p 0:=by
  obtain rfl|rfl:=hs<;>rfl
 rw[Aiz,Alz,Az6 h,Aa,if_neg (by rw[Ak];simp),Cv (by rw[Dx,Bv (by omega) (by omega)];simp;omega),Aa,Amh,e]
 exact h1
theorem Bfw{s:Int}{t p:List Int32}(ht:t.length=16)(hp:p.length=16){g:Int32}(hg:At4 t p 16=g):∀(j i q:Nat),i+j=16→j<q→Kv s t p q (At4 t p i).toInt (i:Int)=some g
 |0,i,q+1,hi,_=>by
  obtain rfl:i=16:=by omega
  rw[Kv,Wf,if_neg (by rw[Af];simp),Ahn,Ahc,Aia,Int32.ofInt_toInt,hg]
 |j+1,i,q+1,hi,hq=>by
  have ih:=Bfw (s:=s) ht hp hg j (i+1) q (by omega) (by omega)
  rw[At4]at ih
  rw[Kv,Wf,if_pos (by rw[Af];simp;omega),g32 (by omega),g32 (by omega),Aa,Aa,Aa,Aa,Bxi,Aa,←Eu (At4 t p i),Ayg,Aa,Eu,Ah (by omega) (by omega)]
  exact ih
theorem Bzi{s:Int}{t p:List Int32}(h:OkF s t p):Anh s t p=some (At4 t p 16):=
 Bfw h.2.1 h.2.2 rfl 16 0 FUEL (by omega) (by have:=Am;omega)
theorem Buk(x n:Int)(hn:n=512∨n=1024∨n=16∨n=32):(if x.tmod n<0 then x.tdiv n-1 else x.tdiv n)=x.fdiv n:=by
 have hs:n.sign=1:=by obtain rfl|rfl|rfl|rfl:=hn<;>rfl
 rw[Int.tdiv_eq_ediv,Int.tmod_eq_emod,hs,Int.fdiv_eq_ediv_of_nonneg _ (by omega)]
 by_cases h:0≤x∨n∣x
 ·rw[if_pos h,if_pos h]
  obtain rfl|rfl|rfl|rfl:=hn<;>(rw[if_neg (by omega)];omega)
 ·rw[if_neg h,if_neg h]
  obtain rfl|rfl|rfl|rfl:=hn<;>(rw[if_pos (by omega)];omega)
theorem Bge(x n:Int)(hn:n=512∨n=1024∨n=16∨n=32)(h: -1000000000000≤x)(h':x≤1000000000000): -1000000000000≤x.tdiv n∧x.tdiv n≤1000000000000:=by
 have hs:n.sign=1:=by obtain rfl|rfl|rfl|rfl:=hn<;>rfl
 rw[Int.tdiv_eq_ediv,hs]
 by_cases h:0≤x∨n∣x
 ·rw[if_pos h];obtain rfl|rfl|rfl|rfl:=hn<;>omega
 ·rw[if_neg h];obtain rfl|rfl|rfl|rfl:=hn<;>omega
theorem Chf(x n:Int)(hn:n=512∨n=1024∨n=16∨n=32)(h: -1000000000000≤x)(h':x≤1000000000000):Ck x n=x.tdiv n:=by
 have:=Bge x n hn h h'
 rw[Ag3,Ce (by omega) (by omega)]
theorem Bmj(x n:Int)(hn:n=512∨n=1024∨n=16∨n=32)(h: -1000000000000≤x)(h':x≤1000000000000):
  (if(Bz (Gp x n) (0:Int))=true then some (Ad (Aj (Ck x n) (1:Int)):Int32)else some (Ad (Ck x n):Int32))=some (Int32.ofInt (x.fdiv n)):=by
 have hb:=Bge x n hn h h'
 rw[Af,Gp,Chf x n hn h h',Bv (by omega) (by omega),Aia,Aia,←Buk x n hn]
 by_cases hx:x.tmod n<0
 ·rw[if_pos (by simpa using hx),if_pos hx]
 ·rw[if_neg (by simpa using hx),if_neg hx]
theorem Cb8{s:Int}{t p:List Int32}(h:OkF s t p):Aaz s t p=some (gF s t p):=by
 obtain⟨hs,ht,hp⟩:=h
 have h:OkF s t p:=⟨hs,ht,hp⟩
 have hx:=Abz (At4 t p 16+half s)
 have key:∀n:Int,(n=512∨n=1024)→(half s).toInt=n/2→gF s t p=Int32.ofInt ((half s+At4 t p 16).toInt.fdiv n)→Uw s t p n=some (gF s t p):=by
  intro n hn hh hg
  have e2:Ck n (2:Int)=(half s).toInt:=by rw[hh];obtain rfl|rfl:=hn<;>rfl
  rw[Uw,Ae2,Bzi h,Aa,e2,←Eu (half s),Ayg,Aa,Cv (by rw[Ak];simp;omega),Aa,Aa,Eu,Bmj _ n (by omega) (by omega) (by omega),hg,Int32.add_comm]
 rw[Aaz,Af2]
 obtain rfl|rfl:=hs
 ·rw[if_pos (by rw[Ap];rfl)];exact key 512 (.inl rfl) rfl rfl
 ·rw[if_neg (by rw[Ap];decide)];exact key 1024 (.inr rfl) rfl rfl
def stp(i:Nat):Int32:=if i=0 then 4 else if i<4 then 2 else 1
def sg(x:Int32):Int32:=if x.toInt<0 then -1 else if 0<x.toInt then 1 else 0
def lrn(t p:List Int32)(w:Int32):List Int32:=(List.range 16).map fun i=>t.getD i 0+stp i*sg (p.getD i 0)*sg w
theorem Aen(t p:List Int32)(w:Int32):(lrn t p w).length=16:=by simp[lrn]
theorem Bj4(t p:List Int32)(w:Int32){i:Nat}(h:i<16):(lrn t p w).getD i 0=t.getD i 0+stp i*sg (p.getD i 0)*sg w:=by
 rw[Mo (by rw[Aen];exact h)];simp[lrn]
theorem step_eq(i:Nat):Am2 (i:Int)=some (stp i):=by
 rw[Am2,stp]
 by_cases h:i=0
 ·rw[if_pos (by rw[Ap];simp[h]),if_pos h]
 ·rw[if_neg (by rw[Ap];simp;omega),if_neg h]
  by_cases h2:i<4
  ·rw[if_pos (by rw[Af];simp;omega),if_pos h2]
  ·rw[if_neg (by rw[Af];simp;omega),if_neg h2]
theorem Bu8(i:Nat):Abh (i:Int)=some (stp i):=by
 rw[Abh,stp]
 by_cases h:i=0
 ·rw[if_pos (by rw[Ap];simp[h]),if_pos h]
 ·rw[if_neg (by rw[Ap];simp;omega),if_neg h]
  by_cases h2:i<4
  ·rw[if_pos (by rw[Ahl];simp;omega),if_pos h2]
  ·rw[if_neg (by rw[Ahl];simp;omega),if_neg h2]
theorem Bk9(a b:Int32):Bz a b=decide (a.toInt<b.toInt):=rfl
theorem Bp1(a b:Int32):Dw a b=decide (b.toInt<a.toInt):=rfl
theorem sign_eq(x:Int32):Tk x=some (sg x):=by
 rw[Tk,sg,Bk9,Bp1,show(0:Int32).toInt=0 from rfl]
 by_cases h:x.toInt<0
 ·rw[if_pos (by simpa using h),if_pos h]
 ·rw[if_neg (by simpa using h),if_neg h]
  by_cases h2:0<x.toInt
  ·rw[if_pos (by simpa using h2),if_pos h2]
  ·rw[if_neg (by simpa using h2),if_neg h2]
theorem Bsq:sg 0=0:=rfl
theorem toInt_ne{x:Int32}(h:x≠0):x.toInt≠0:=fun e=>h (Int32.toInt_inj.1 (by rw[e];rfl))
theorem Bk3{x:Int32}(h:x.toInt<0):sg x= -1:=by rw[sg,if_pos h]
theorem Bjw{x:Int32}(h:x≠0)(h2:¬x.toInt<0):sg x=1:=by
 have:=toInt_ne h
 rw[sg,if_neg h2,if_pos (by omega)]
theorem Au1(i:Nat):stp i=4∨stp i=2∨stp i=1:=by
 unfold stp
 by_cases h:i=0
 ·rw[if_pos h];exact .inl rfl
 ·rw[if_neg h];split;exact .inr (.inl rfl);exact .inr (.inr rfl)
theorem Buh{x w:Int32}(hx:x≠0)(hw:w≠0)(h:(x.toInt<0)=(w.toInt<0))(i:Nat):stp i*sg x*sg w=stp i:=by
 by_cases h1:x.toInt<0
 ·rw[Bk3 h1,Bk3 (by rw[←h];exact h1)]
  obtain e|e|e:=Au1 i<;>rw[e]<;>decide
 ·rw[Bjw hx h1,Bjw hw (by rw[←h];exact h1)]
  obtain e|e|e:=Au1 i<;>rw[e]<;>decide
theorem Bpt{x w:Int32}(hx:x≠0)(hw:w≠0)(h:¬(x.toInt<0)=(w.toInt<0))(i:Nat)(a:Int32):a+stp i*sg x*sg w=a-stp i:=by
 have key:stp i*sg x*sg w=-stp i:=by
  by_cases h1:x.toInt<0
  ·have h2:¬w.toInt<0:=fun h2=>h (propext ⟨fun _=>h2,fun _=>h1⟩)
   rw[Bk3 h1,Bjw hw h2]
   obtain e|e|e:=Au1 i<;>rw[e]<;>decide
  ·have h2:w.toInt<0:=Decidable.by_contra fun h2=>h (propext ⟨fun h3=>absurd h3 h1,fun h3=>absurd h3 h2⟩)
   rw[Bjw hx h1,Bk3 h2]
   obtain e|e|e:=Au1 i<;>rw[e]<;>decide
 rw[key,Int32.sub_eq_add_neg]
def Ayd(i:Nat):Nat→Bool:=fun j=>decide (j<i)
theorem Bea{a b:List Int32}{i:Nat}(h:i<a.length):Kt (sel (Ayd i) a b) (i:Int) (a.getD i 0)=some (sel (Ayd (i+1)) a b):=by
 rw[Aye h]
 congr 1
 apply Zg
 intro k _
 rw[Bool.eq_iff_iff]
 simp only[Ayd,Bool.or_eq_true,decide_eq_true_eq];omega
theorem Bud{a b:List Int32}{i:Nat}(e:a.getD i 0=b.getD i 0):sel (Ayd i) a b=sel (Ayd (i+1)) a b:=by
 apply List.map_congr_left
 intro k _
 simp only[Ayd,decide_eq_true_eq]
 by_cases h1:k<i
 ·rw[if_pos h1,if_pos (by omega)]
 ·by_cases h2:k=i
  ·subst h2;rw[if_neg h1,if_pos (by omega),e]
  ·rw[if_neg h1,if_neg (by omega)]
theorem Blp{a b:List Int32}{i:Nat}(h:i<a.length):getI (sel (Ayd i) a b) (i:Int)=some (b.getD i 0):=by
 rw[Alj h,if_neg (by simp[Ayd])]
theorem Big{s:Int}{t p:List Int32}{w:Int32}(hw:w≠0)(ht:t.length=16)(hp:p.length=16):∀(j i q:Nat),i+j=16→j<q→Rj w p s q (i:Int) (sel (Ayd i) (lrn t p w) t)=some (s,lrn t p w,p,0)
 |0,i,q+1,hi,_=>by
  obtain rfl:i=16:=by omega
  rw[Rj,Aes,if_neg (by rw[Af];simp),Ayi (fun k hk=>by rw[Aen]at hk;simpa [Ayd]using hk)];rfl
 |j+1,i,q+1,hi,hq=>by
  have hl:=Aen t p w
  have hg:=Bj4 t p w (i:=i) (by omega)
  rw[Rj,Aes,if_pos (by rw[Af];simp;omega),g32 (by omega),Aa,Ah (b:=1) (by omega) (by omega),Blp (by omega),step_eq]
  simp only[Aa]
  rw[Anx,Bg8,Bs1,Bk9,Bk9,show(0:Int32).toInt=0 from rfl]
  have ih:=Big (s:=s) hw ht hp j (i+1) q (by omega) (by omega)
  by_cases hx:p.getD i 0=0
  ·rw[if_pos (by rw[hx];rfl),Bud (by rw[hg,hx,Bsq,Int32.mul_zero,Int32.zero_mul,Int32.add_zero])]
   exact ih
  ·rw[if_neg (by simpa using hx)]
   by_cases hs:((p.getD i 0).toInt<0)=(w.toInt<0)
   ·rw[if_pos (by rw[beq_iff_eq];simp only[hs]),show t.getD i 0+stp i=(lrn t p w).getD i 0 by rw[hg,Buh hx hw hs],Bea (by omega),Aa]
    exact ih
   ·rw[if_neg (by rw[beq_iff_eq,decide_eq_decide];exact fun h=>hs (propext h)),show t.getD i 0-stp i=(lrn t p w).getD i 0 by rw[hg,Bpt hx hw hs],Bea (by omega),Aa]
    exact ih
theorem Bw5{t:List Int32}(p:List Int32)(ht:t.length=16):lrn t p 0=t:=by
 apply List.ext_getElem (by rw[Aen,ht])
 intro i h1 h2
 have:=Bj4 t p 0 (i:=i) (by omega)
 rw[Mo h1,Mo h2]at this
 rw[this,Bsq,Int32.mul_zero,Int32.add_zero]
theorem Byu{s:Int}{t p:List Int32}(h:OkF s t p)(w:Int32):Ao6 s t p w=some (s,lrn t p w,p,0):=by
 rw[Ao6,Al1,Az6 h,Aa,if_neg (by rw[Ak];simp),Bs1]
 by_cases hw:w=0
 ·rw[if_pos (by simpa using hw),hw,Bw5 p h.2.1]
 ·have h1:=Big (s:=s) hw h.2.1 h.2.2 16 0 FUEL (by omega) (by have:=Am;omega)
  rw[Aza (by rw[Aen,h.2.1]) (fun k _=>by simp[Ayd])]at h1
  rw[if_neg (by simpa using hw)]
  exact h1
theorem Azd{s:Int}{t p:List Int32}{w:Int32}(ht:t.length=16)(hp:p.length=16):∀(j i q:Nat),i+j=16→j<q→Gx w s p q (i:Int) (sel (Ayd i) (lrn t p w) t)=some (s,lrn t p w,p)
 |0,i,q+1,hi,_=>by
  obtain rfl:i=16:=by omega
  rw[Gx,Pk,if_neg (by rw[Af];simp),Ayi (fun k hk=>by rw[Aen]at hk;simpa [Ayd]using hk)];rfl
 |j+1,i,q+1,hi,hq=>by
  have hl:=Aen t p w
  have hg:=Bj4 t p w (i:=i) (by omega)
  rw[Gx,Pk,if_pos (by rw[Af];simp;omega),g32 (l:=p) (by omega),Ah (b:=1) (by omega) (by omega),Blp (by omega),Bu8,sign_eq w,Aa,Aa,Aa,Aa,Aa,sign_eq,Aa,Aa,Aa,Anx,Bg3,Bg3,←hg,Bea (by omega),Aa]
  exact Azd ht hp j (i+1) q (by omega) (by omega)
theorem Bqc{s:Int}{t p:List Int32}(h:OkF s t p)(w:Int32):Afn s t p w=some (s,lrn t p w,p):=by
 have h1:=Azd (s:=s) (w:=w) h.2.1 h.2.2 16 0 FUEL (by omega) (by have:=Am;omega)
 rw[Aza (by rw[Aen,h.2.1]) (fun k _=>by simp[Ayd])]at h1
 exact h1
theorem Cbn{p:List Int32}(h:p.length=16):∃a0 a1 a2 a3 a4 a5 a6 a7 a8 a9 b0 b1 b2 b3 b4 b5,p=[a0,a1,a2,a3,a4,a5,a6,a7,a8,a9,b0,b1,b2,b3,b4,b5]:=by
 match p,h with
 |[a0,a1,a2,a3,a4,a5,a6,a7,a8,a9,b0,b1,b2,b3,b4,b5],_=>exact⟨a0,a1,a2,a3,a4,a5,a6,a7,a8,a9,b0,b1,b2,b3,b4,b5,rfl⟩
theorem Cax{s:Int}{t p:List Int32}(h:OkF s t p)(x:Int32):Aux s t p x=some (s,t,x::p.take 15,0):=by
 obtain⟨hs,ht,hp⟩:=h
 rw[Aux,Ahx,Az6 ⟨hs,ht,hp⟩,Aa,if_neg (by rw[Ak];simp),show vwI (16:Int) 1 16=some ()from rfl,Aa,show vwI (16:Int) 0 16=some ()from rfl,Aa,Ao0,Ay5]
 obtain⟨a0,a1,a2,a3,a4,a5,a6,a7,a8,a9,b0,b1,b2,b3,b4,b5,rfl⟩:=Cbn hp
 rfl
def shf(p:List Int32)(i:Nat):List Int32:=(List.range 16).map fun k=>if k≤i then p.getD k 0 else p.getD (k-1) 0
theorem Xi(p:List Int32)(i:Nat):(shf p i).length=16:=by simp[shf]
theorem Ca4(p:List Int32)(i k:Nat)(h:k<16):(shf p i).getD k 0=if k≤i then p.getD k 0 else p.getD (k-1) 0:=by
 rw[Mo (by rw[Xi];exact h)];simp[shf]
theorem Cae(p:List Int32)(i:Nat)(h:i+1<16):Kt (shf p (i+1)) ((i+1:Nat):Int) (p.getD i 0)=some (shf p i):=by
 rw[Vy _ (by rw[Xi];exact h)]
 congr 1
 apply List.ext_getElem (by simp[Xi])
 intro k h1 h2
 rw[Xi]at h2
 rw[List.getElem_set]
 simp only[shf,List.getElem_map,List.getElem_range]
 by_cases hk:i+1=k
 ·subst hk;rw[if_pos rfl,if_neg (by omega)];rfl
 ·rw[if_neg hk]
  by_cases h3:k≤i
  ·rw[if_pos (by omega),if_pos h3]
  ·rw[if_neg (by omega),if_neg h3]
theorem Bbr(s:Int)(t p:List Int32)(x:Int32)(hp:p.length=16):∀(i q:Nat),i<16→i<q→Ho x s t q (i:Int) (shf p i)=some (s,t,x::p.take 15)
 |0,q+1,_,_=>by
  have hg:getI (shf p 0) (0:Int)=some ((shf p 0).getD 0 0):=g32 (l:=shf p 0) (k:=0) (by rw[Xi];omega)
  have hset:Kt (shf p 0) (0:Int) x=some ((shf p 0).set 0 x):=Vy (l:=shf p 0) (n:=0) x (by rw[Xi];omega)
  rw[Ho,Qm,if_neg (by rw[Aq];simp),Abf,Aaj,hg,Aa,hset,Aa]
  congr 3
  apply List.ext_getElem (by simp[Xi,hp])
  intro k h1 h2
  rw[List.length_set,Xi]at h1
  rw[List.getElem_set]
  cases k with
  |zero=>rw[if_pos rfl];rfl
  |succ k=>
   rw[if_neg (by omega)]
   simp only[shf,List.getElem_map,List.getElem_range,List.getElem_cons_succ,List.getElem_take]
   rw[if_neg (by omega),Nat.add_sub_cancel,Mo (by omega)]
 |i+1,q+1,hi,hq=>by
  have hg:=g32 (l:=shf p (i+1)) (k:=i) (by rw[Xi];omega)
  rw[Ca4 p (i+1) i (by omega),if_pos (by omega)]at hg
  have e1:Aj ((i+1:Nat):Int) (1:Int)=(i:Int):=by rw[Bv (by omega) (by omega)];omega
  have hg2:=g32 (l:=shf p (i+1)) (k:=i+1) (by rw[Xi];omega)
  rw[Ho,Qm,if_pos (by rw[Aq];simp),e1,hg,Aa,Aa,hg2,Aa,Cae p i hi,Aa]
  exact Bbr s t p x hp i q (by omega) (by omega)
theorem Bvu{s:Int}{t p:List Int32}(hp:p.length=16)(x:Int32):Ahg s t p x=some (s,t,x::p.take 15):=by
 have h:=Bbr s t p x hp 15 FUEL (by omega) (by have:=Am;omega)
 have e:shf p 15=p:=by
  apply List.ext_getElem (by rw[Xi,hp])
  intro k h1 h2
  rw[Xi]at h1
  simp only[shf,List.getElem_map,List.getElem_range]
  rw[if_pos (by omega),Mo h2]
 rw[e]at h
 exact h
theorem Bwd{s:Int}{t p:List Int32}(h:OkF s t p)(w x:Int32):OkF s (lrn t p w) (x::p.take 15):=⟨h.1,Aen _ _ _,by simp[h.2.2]⟩
theorem Cbs{s:Int}{t p:List Int32}(h:OkF s t p)(y:Int32):At5 s t p y=some (y+gF s t p,s,lrn t p y,(y+gF s t p)::p.take 15,0):=by
 rw[At5,Bzo h,Aa]
 simp only
 rw[if_neg (by rw[Ak];simp),Anx,Aou,Byu h,Aa]
 simp only
 rw[Cax (s:=s) (t:=lrn t p y) (p:=p) ⟨h.1,Aen _ _ _,h.2.2⟩,Aa];rfl
theorem Bv5{s:Int}{t p:List Int32}(h:OkF s t p)(y:Int32):Ua s t p y=some (y+gF s t p,s,lrn t p y,(y+gF s t p)::p.take 15):=by
 rw[Ua,Cb8 h,Aa,Ayg,Aa,Bqc h,Aa]
 simp only
 rw[Bvu h.2.2,Aa]
def sB(bits:Int):Int:=if bits=16 then 9 else 10
def shB(bits:Int):Int:=if bits=8 then 4 else 5
def Ch(bits:Int):Prop:=bits=8∨bits=16∨bits=24
def gs(sh:Int)(last:Int32):Int32:=Ad (Bkp (Aj (Dm (Ad last:Int) sh.toNat) (Ad last)) sh.toNat)
theorem Cgi(bits:Int):sB bits=9∨sB bits=10:=by unfold sB;split<;>simp
theorem Caj(bits:Int):0≤shB bits:=by unfold shB;split<;>omega
theorem Chy{bits:Int}(h:Ch bits)(t:List Int32):Aym bits t=some (sB bits,t,List.replicate 16 0,0):=by
 obtain rfl|rfl|rfl:=h<;>rfl
theorem Cef{bits:Int}(h:Ch bits):Atp bits=some (shB bits,0):=by
 obtain rfl|rfl|rfl:=h<;>rfl
theorem Cer{sh:Int}(h:0≤sh)(last:Int32):Aks sh last=some (gs sh last):=by
 rw[Aks,Cv (by rw[Dx];simpa using h),Aa,Aa];rfl
theorem Cei{bits:Int}(h:Ch bits)(last:Int32):Ur bits last=some (gs (shB bits) last,0):=by
 rw[Ur,Cef h,Aa]
 simp only
 rw[if_neg (by rw[Ak];simp),Cer (Caj bits),Aa]
theorem Bqk{bits:Int}(h:Ch bits)(last:Int32)(t p:List Int32):Uf bits last (sB bits) t p=some 0:=by
 rw[Uf,Chy h,Aa]
 simp only
 rw[if_neg (by rw[Ak,Ak];simp)]
theorem Bux{bits:Int}(h:Ch bits){t p:List Int32}(hF:OkF (sB bits) t p)(last y:Int32):
  Kj bits last (sB bits) t p y=some (y+gF (sB bits) t p+gs (shB bits) last,bits,y+gF (sB bits) t p+gs (shB bits) last,sB bits,lrn t p y,(y+gF (sB bits) t p)::p.take 15,0):=by
 rw[Kj,Bqk h,Aa,if_neg (by rw[Ak];simp),Cei h,Aa]
 simp only
 rw[Cbs hF,Aa]
 simp only
 rw[Anx]
theorem Azw(sh:Int)(hs:sh=4∨sh=5)(last:Int32):Of sh last=some (gs sh last):=by
 have hl:=Abz last
 have key:∀n:Int,n=16∨n=32→gs sh last=Int32.ofInt (((n-1)*last.toInt).fdiv n)→Qi last n=some (gs sh last):=by
  intro n hn hg
  have e:Bi (Aj n (1:Int)) (Ad last:Int)=(n-1)*last.toInt:=by
   obtain rfl|rfl:=hn<;>(rw[Eu,Bv (by omega) (by omega),Ib (by omega) (by omega)])
  rw[Qi,Acl,Cv (by rw[Ak];simp;omega),Aa,Aa,e,Bmj _ n (by omega) (by obtain rfl|rfl:=hn<;>omega) (by obtain rfl|rfl:=hn<;>omega),hg]
 rw[Of,Abi]
 obtain rfl|rfl:=hs
 ·rw[if_neg (by rw[Ap];decide)]
  refine key 16 (.inl rfl) ?_
  have e:Dm (Ad last:Int) (4:Int).toNat=last.toInt*16:=by
   rw[Eu];show wrap64 (last.toInt*2^4)=_;rw[Ce]<;>omega
  rw[gs,e,Eu,Bv (by omega) (by omega),Aia]
  show Int32.ofInt ((last.toInt*16-last.toInt).fdiv 16)=_
  congr 2;omega
 ·rw[if_pos (by rw[Ap];rfl)]
  refine key 32 (.inr rfl) ?_
  have e:Dm (Ad last:Int) (5:Int).toNat=last.toInt*32:=by
   rw[Eu];show wrap64 (last.toInt*2^5)=_;rw[Ce]<;>omega
  rw[gs,e,Eu,Bv (by omega) (by omega),Aia]
  show Int32.ofInt ((last.toInt*32-last.toInt).fdiv 32)=_
  congr 2;omega
theorem Bvp{bits:Int}(h:Ch bits){t p:List Int32}(hF:OkF (sB bits) t p)(last y:Int32):
  Uv bits last (sB bits) t p y=some (y+gF (sB bits) t p+gs (shB bits) last,bits,y+gF (sB bits) t p+gs (shB bits) last,sB bits,lrn t p y,(y+gF (sB bits) t p)::p.take 15):=by
 have hb:Wo bits last (sB bits) t p=some (Ad (gs (shB bits) last):Int):=by
  rw[Wo]
  obtain rfl|rfl|rfl:=h
  ·rw[if_pos (by rw[Ap];rfl),Azw 4 (.inl rfl),Aa];rfl
  ·rw[if_neg (by rw[Ap];decide),Azw 5 (.inr rfl),Aa];rfl
  ·rw[if_neg (by rw[Ap];decide),Azw 5 (.inr rfl),Aa];rfl
 rw[Uv,Bv5 hF,Aa]
 simp only
 rw[hb,Aa,Ayg,Aa]
theorem Cg2{bits:Int}(h:Ch bits)(t:List Int32):An1 bits t=some (bits,0,sB bits,t,List.replicate 16 0,0):=by
 obtain rfl|rfl|rfl:=h<;>rfl
def Aqc(n:UInt32):Int32:=if n.toNat %2=0 then Int32.ofInt ((n.toNat/2:Nat):Int)else Int32.ofInt (-((n.toNat/2:Nat):Int)-1)
theorem Bm5(a b:Int32):(Wn a b).toBitVec=a.toBitVec^^^b.toBitVec:=by
 show(Int32.ofInt ((BitVec.ofInt 32 a.toBitVec.toInt^^^BitVec.ofInt 32 b.toBitVec.toInt).toNat:Int)).toBitVec=_
 rw[BitVec.ofInt_toInt,BitVec.ofInt_toInt,Int32.toBitVec_ofInt,BitVec.ofInt_natCast,BitVec.ofNat_toNat,BitVec.setWidth_eq]
theorem Cgs(m:Nat)(h:m<2147483648):Wn (Int32.ofInt (m:Int)) (Int32.ofInt (-1))=Int32.ofInt (-(m:Int)-1):=by
 apply Int32.toBitVec_inj.1
 have e1:(Int32.ofInt (-1)).toBitVec=BitVec.allOnes 32:=by decide
 rw[Bm5,e1,BitVec.xor_allOnes,Int32.toBitVec_ofInt,Int32.toBitVec_ofInt]
 apply BitVec.eq_of_toNat_eq
 rw[BitVec.toNat_not,BitVec.toNat_ofInt,BitVec.toNat_ofInt]
 omega
theorem Bwu(n:UInt32):Vm n=some (Aqc n):=by
 have hn:=n.toNat_lt
 have e1:(Ad (Bu n (GI.toZ (1:UInt64)).toNat):Int32)=Int32.ofInt ((n.toNat/2:Nat):Int):=by
  show Int32.ofInt ((Bu n 1).toNat:Int)=_
  rw[Ani]
 have e2:(Ad (Ds n (1:UInt32)):Int32)=Int32.ofInt ((n.toNat %2:Nat):Int):=by
  show Int32.ofInt ((Ds n (1:UInt32)).toNat:Int)=_
  rw[Bl7,UInt32.toNat_and]
  show Int32.ofInt ((n.toNat&&&1:Nat):Int)=_
  rw[Nat.and_one_is_mod]
 rw[Vm,e1,e2,Aqc]
 congr 1
 by_cases h:n.toNat %2=0
 ·have e3:Axz (Int32.ofInt ((n.toNat %2:Nat):Int))=Int32.ofInt 0:=by rw[h];decide
  rw[if_pos h,e3]
  apply Int32.toBitVec_inj.1
  rw[Bm5,show(Int32.ofInt 0).toBitVec=0#32 from rfl,BitVec.xor_zero]
 ·have e3:Axz (Int32.ofInt ((n.toNat %2:Nat):Int))=Int32.ofInt (-1):=by rw[show n.toNat %2=1 by omega];decide
  rw[if_neg h,e3,Cgs _ (by omega)]
theorem Cb4(n:UInt32):Acd n=some (Aqc n):=by
 have hn:=n.toNat_lt
 have e1:geq (Zy n (2:UInt32)) (0:UInt32)=decide (n.toNat %2=0):=by
  rw[Bj8,Blr,Bool.eq_iff_iff]
  simp only[beq_iff_eq,←UInt32.toNat_inj,UInt32.toNat_mod,decide_eq_true_eq];rfl
 rw[Acd,e1,Aqc]
 by_cases h:n.toNat %2=0
 ·rw[if_pos (by simpa using h),if_pos h,Bn5];rfl
 ·have e2:(Ad n:Int)=(n.toNat:Int):=Bqz n
  rw[if_neg (by simpa using h),if_neg h,e2,Ah (by omega) (by omega),Brb,Ce (by omega) (by omega),Ag3,Int.tdiv_eq_ediv,Aia]
  congr 2
  rw[if_pos (.inr (by omega)),Ce (by omega) (by omega)];omega
end Go.Pl
set_option linter.unusedVariables false
set_option linter.unusedSimpArgs false
namespace Go.Pl
open Go Go.Lv
theorem Bo3{c:Prop} [Decidable c](h:c):Jp (decide c)=some ():=by rw[decide_eq_true h];rfl
def unV(f:Nat→Int32)(ch:Nat):Nat→Int32
 |0=>if 1<ch then f (ch-1)+Ck (f (ch-2)) (2:Int32)else f (ch-1)
 |j+1=>unV f ch j-f (ch-2-j)
def unm(ch:Nat)(m:List Int32):List Int32:=(List.range m.length).map fun k=>unV (fun i=>m.getD (k-k %ch+i) 0) ch (ch-1-k %ch)
theorem Auh(ch:Nat)(m:List Int32):(unm ch m).length=m.length:=by simp[unm]
theorem Bc2{ch:Nat}{m:List Int32}{a i:Nat}(ha:a %ch=0)(hi:i<ch)(h:a+i<m.length):(unm ch m).getD (a+i) 0=unV (fun i=>m.getD (a+i) 0) ch (ch-1-i):=by
 have hb:(a+i) %ch=i:=by rw[Nat.add_mod,ha,Nat.zero_add,Nat.mod_mod,Nat.mod_eq_of_lt hi]
 rw[Mo (by rw[Auh];exact h)]
 simp only[unm,List.getElem_map,List.getElem_range,hb]
 rw[show a+i-i=a by omega]
section
variable (ch:Nat) (m:List Int32)
theorem Bz6(h1:1≤ch)(h6:ch≤6)(hm:m.length %ch=0)(hl2:m.length≤4000):Am6 (ch:Int) m=some 0:=by
 rw[Am6,if_neg (by simp[Af,Aq];omega),if_neg (by rw[Aq,Ac];simp;omega),Cv (by rw[Ak];simp;omega),Aa,if_neg]
 rw[Ak,Gp,Ac,←Int.ofNat_tmod,hm];simp
theorem Bgx(bk:Int→List Int32→Option (List Int32×Int))(at':Nat)(h1:1≤ch)(h6:ch≤6)(hm:at' %ch=0)(hl:at'+ch≤m.length)(hl2:m.length≤4000):∀(i q:Nat),i≤ch-1→i<q→
  Vn bk (ch:Int) (at':Int) q ((i:Int)-1) (sel (fun k=>decide (k<at'∨(at'+i≤k∧k<at'+ch))) (unm ch m) m)=bk ((at'+ch:Nat):Int) (sel (fun k=>decide (k<at'+ch)) (unm ch m) m)
 |0,q+1,hi,_=>by
  have e4:Ae (at':Int) (ch:Int)=((at'+ch:Nat):Int):=by rw[Ah (by omega) (by omega)];omega
  rw[Vn,Ah6,if_neg (by rw[Dx];simp),Apm,Axx,e4]
  congr 1
  apply Zg
  intro k _
  rw[Bool.eq_iff_iff];simp;omega
 |i+1,q+1,hi,hq=>by
  have hlen:=Auh ch m
  have e2:Ae (at':Int) (ch:Int)-(at':Int)=(ch:Int):=by rw[Ah (by omega) (by omega)];omega
  have e3:Ae (i:Int) 1=((i+1:Nat):Int):=by rw[Ah (by omega) (by omega)];omega
  have hv:((unm ch m).getD (at'+(i+1)) 0-m.getD (at'+i) 0)=(unm ch m).getD (at'+i) 0:=by
   rw[Bc2 hm (by omega) (by omega),Bc2 hm (by omega) (by omega),show ch-1-i=(ch-1-(i+1))+1 by omega,unV,show ch-2-(ch-1-(i+1))=i by omega]
  rw[Vn,Ah6,show((i+1:Nat):Int)-1=(i:Int) by omega,if_pos (by rw[Dx];simp),e2,e3,Bo3 (by omega),Aa,Bo3 (by omega),Aa,
   show(at':Int)+((i+1:Nat):Int)=((at'+(i+1):Nat):Int) by omega,show(at':Int)+(i:Int)=((at'+i:Nat):Int) by omega,
   Alj (by omega),Aa,Alj (by omega),Aa,Aa,if_pos (by simp;omega),if_neg (by simp;omega),Bg8,hv,Aye (by omega),Aa,Bv (by omega) (by omega)]
  have ih:=Bgx bk at' h1 h6 hm hl hl2 i q (by omega) (by omega)
  rw[←ih]
  congr 1
  apply Zg
  intro k _
  rw[Bool.eq_iff_iff];simp;omega
theorem Bnr{at' ch n:Nat}(ha:at' %ch=0)(hm:n %ch=0)(h:at'<n):at'+ch≤n:=by
 have d1:=Nat.div_add_mod at' ch
 have d2:=Nat.div_add_mod n ch
 rw[ha,Nat.add_zero]at d1
 rw[hm,Nat.add_zero]at d2
 have hlt:at'/ch<n/ch:=by
  rcases Nat.lt_or_ge (at'/ch) (n/ch)with h'|h'
  ·exact h'
  ·have:=Nat.mul_le_mul_left ch h';omega
 have:=Nat.mul_le_mul_left ch (show at'/ch+1≤n/ch from hlt)
 rw[Nat.mul_add]at this;omega
theorem Bhv(h1:1≤ch)(h6:ch≤6)(hm:m.length %ch=0)(hl2:m.length≤4000):∀(j at' q:Nat),at' %ch=0→at'≤m.length→m.length-at'≤j→j<q→
  Qs (ch:Int) q (at':Int) (sel (fun k=>decide (k<at')) (unm ch m) m)=some (unm ch m,0)
 |j,at',q+1,ha,hle,hj,hq=>by
  have hlen:=Auh ch m
  have hl:Ac (sel (fun k=>decide (k<at')) (unm ch m) m)=(m.length:Int):=by rw[Ac,Aoj,hlen]
  rw[Qs,Apb,hl]
  by_cases h:at'<m.length
  ·have hb:=Bnr ha hm h
   obtain⟨j,rfl⟩:∃k,j=k+1:=⟨j-1,by omega⟩
   have e1:Aj (Ae (at':Int) (ch:Int)-(at':Int)) 1=((ch-1:Nat):Int):=by rw[Ah (by omega) (by omega),Bv (by omega) (by omega)];omega
   have e2:Ae (at':Int) (ch:Int)-(at':Int)=(ch:Int):=by rw[Ah (by omega) (by omega)];omega
   have e4:Ae (at':Int) (ch:Int)=((at'+ch:Nat):Int):=by rw[Ah (by omega) (by omega)];omega
   have hi:=Bgx ch m (Qs (ch:Int) q) at' h1 h6 ha hb hl2 (ch-1) FUEL (by omega) (by have:=Am;omega)
   have hrest:=Bhv h1 h6 hm hl2 j (at'+ch) q (by rw[Nat.add_mod_right,ha]) hb (by omega) (by omega)
   have hstart:Ah7 (Qs (ch:Int) q) (ch:Int) (at':Int) (sel (fun k=>decide (k<at'∨(at'+(ch-1)≤k∧k<at'+ch))) (unm ch m) m)=some (unm ch m,0):=by
    have e6:Aj ((ch-1:Nat):Int) 1=((ch-1:Nat):Int)-1:=Bv (by omega) (by omega)
    rw[Ah7,Aop,Apt,e1,e6]
    exact Eq.trans hi hrest
   rw[if_pos (by rw[Af];simp;omega),show vwI (m.length:Int) (at':Int) (Ae (at':Int) (ch:Int))=some () by rw[e4,vwI,Bo3];omega,Aa,e1,e2]
   have hlast:=Bc2 (m:=m) ha (show ch-1<ch by omega) (by omega)
   rw[show ch-1-(ch-1)=0 by omega,unV]at hlast
   by_cases hc:1<ch
   ·have e5:Aj ((ch-1:Nat):Int) 1=((ch-2:Nat):Int):=by rw[Bv (by omega) (by omega)];omega
    rw[if_pos hc]at hlast
    rw[if_pos (by rw[Aq];simp;omega),Bo3 (by omega),Aa,e5,Bo3 (by omega),Aa,show(at':Int)+((ch-1:Nat):Int)=((at'+(ch-1):Nat):Int) by omega,show(at':Int)+((ch-2:Nat):Int)=((at'+(ch-2):Nat):Int) by omega,
     Alj (by omega),Aa,Alj (by omega),Aa,Aa,if_neg (by simp),if_neg (by simp),Anx,←hlast,Aye (by omega),Aa]
    rw[←hstart]
    congr 1
    apply Zg
    intro k _
    rw[Bool.eq_iff_iff];simp;omega
   ·have hc1:ch=1:=by omega
    rw[if_neg (by rw[Aq];simp;omega),←hstart]
    congr 1
    rw[if_neg hc]at hlast
    apply List.map_congr_left
    intro k hk
    by_cases hk2:k=at'
    ·subst hk2
     rw[if_neg (by simp),if_pos (by simp;omega)]
     rw[show k+(ch-1)=k by omega]at hlast
     exact hlast.symm
    ·by_cases hk3:k<at'
     ·rw[if_pos (by simp;omega),if_pos (by simp;omega)]
     ·rw[if_neg (by simp;omega),if_neg (by simp;omega)]
  ·rw[if_neg (by rw[Af];simp;omega),Ayi (fun k hk=>by simp;omega)]
   rfl
theorem Ccn(h1:1≤ch)(h6:ch≤6)(hm:m.length %ch=0)(hl2:m.length≤4000):Ayn (ch:Int) m=some (unm ch m,0):=by
 have hlen:=Auh ch m
 have h:=Bhv ch m h1 h6 hm hl2 m.length 0 FUEL (by simp) (by omega) (by omega) (by have:=Am;omega)
 rw[Ayn,Aud,Bz6 ch m h1 h6 hm hl2,Aa,if_neg (by rw[Ak];simp),Eb,Cj (by simp;omega),Aa,Aa,List.nil_append,Apc]
 rw[Aza hlen.symm (fun k _=>by simp)]at h
 exact h
end
def Az5(f:Nat→Int32)(ch:Nat):List Int32:=(List.range ch).map fun i=>unV f ch (ch-1-i)
theorem Ane(f:Nat→Int32)(ch:Nat):(Az5 f ch).length=ch:=by simp[Az5]
theorem Ay1(f:Nat→Int32){ch i:Nat}(h:i<ch):(Az5 f ch).getD i 0=unV f ch (ch-1-i):=by
 rw[Mo (by rw[Ane];exact h)];simp[Az5]
theorem Bzy(a b:Int32):Ci (Aj (Ad a:Int) (Ad b:Int))=some (a-b):=by
 have:=Abz a
 have:=Abz b
 rw[Eu,Eu,Bv (by omega) (by omega),Bcr,Int32.ofInt_sub,Int32.ofInt_toInt,Int32.ofInt_toInt]
theorem Btv(a b:Int32):Ci (Ae (Ad a:Int) (Ck (Ad b:Int) (2:Int)))=some (a+Ck b (2:Int32)):=by
 have:=Abz a
 have hb:=Abz b
 have hd: -2147483648≤b.toInt.tdiv 2∧b.toInt.tdiv 2≤2147483648:=by
  rw[Int.tdiv_eq_ediv,show Int.sign 2=1 from rfl]
  by_cases h:0≤b.toInt∨2∣b.toInt
  ·rw[if_pos h];omega
  ·rw[if_neg h];omega
 have e:Ck b (2:Int32)=Int32.ofInt (b.toInt.tdiv 2):=rfl
 rw[Eu,Eu,Ag3,Ce (by omega) (by omega),Ah (by omega) (by omega),Bcr,Int32.ofInt_add,Int32.ofInt_toInt,e]
theorem Ayf(seg z:List Int32)(ch:Nat)(h6:ch≤6)(hs:seg.length=ch)(hz:z.length=ch):∀(i q:Nat),i+1≤ch→i<q→
  Gv seg q ((i:Int)-1) (sel (fun k=>decide (i≤k)) (Az5 (fun i=>seg.getD i 0) ch) z)=some (Az5 (fun i=>seg.getD i 0) ch)
 |0,q+1,hi,_=>by
  rw[Gv,Pr,if_neg (by rw[Dx];simp),Ayi (fun k hk=>by simp)];rfl
 |i+1,q+1,hi,hq=>by
  have hlen:=Ane (fun i=>seg.getD i 0) ch
  have e3:Ae (i:Int) 1=((i+1:Nat):Int):=by rw[Ah (by omega) (by omega)];omega
  have hv:(Az5 (fun i=>seg.getD i 0) ch).getD (i+1) 0-seg.getD i 0=(Az5 (fun i=>seg.getD i 0) ch).getD i 0:=by
   rw[Ay1 _ (by omega),Ay1 _ (by omega),show ch-1-i=(ch-1-(i+1))+1 by omega,unV,show ch-2-(ch-1-(i+1))=i by omega]
  rw[Gv,Pr,show((i+1:Nat):Int)-1=(i:Int) by omega,if_pos (by rw[Dx];simp),e3,Alj (by omega),Aa,g32 (by omega),Aa,Aa,if_pos (by simp),Bzy,Aa,Alj (by omega),Aa,hv,Aye (by omega),Aa,Bv (by omega) (by omega)]
  have ih:=Ayf seg z ch h6 hs hz i q (by omega) (by omega)
  rw[←ih]
  congr 1
  apply Zg
  intro k _
  rw[Bool.eq_iff_iff];simp;omega
theorem Bnz{l:List Int32}{i:Nat}(v:Int32)(h:i<l.length):(l.set i v).getD i 0=v:=by
 rw[Mo (by rw[List.length_set];exact h)];simp
theorem Bq8(seg:List Int32)(ch:Nat)(h1:1≤ch)(h6:ch≤6)(hs:seg.length=ch):Uq seg=some (Az5 (fun i=>seg.getD i 0) ch):=by
 have hlen:=Ane (fun i=>seg.getD i 0) ch
 have hzl:(List.replicate ch (0:Int32)).length=ch:=by simp
 have e1:Aj (Ac seg) 1=((ch-1:Nat):Int):=by rw[Ac,hs,Bv (by omega) (by omega)];omega
 have e2:Aj (Ac seg) 2=((ch-1:Nat):Int)-1:=by rw[Ac,hs,Bv (by omega) (by omega)];omega
 have hlast:=Ay1 (fun i=>seg.getD i 0) (show ch-1<ch by omega)
 rw[show ch-1-(ch-1)=0 by omega,unV]at hlast
 have hend:∀z:List Int32,z.length=ch→z.getD (ch-1) 0=(Az5 (fun i=>seg.getD i 0) ch).getD (ch-1) 0→Pg seg z=some (Az5 (fun i=>seg.getD i 0) ch):=by
  intro z hz hzl
  have h:=Ayf seg z ch h6 hs hz (ch-1) FUEL (by omega) (by have:=Am;omega)
  have e:sel (fun k=>decide (ch-1≤k)) (Az5 (fun i=>seg.getD i 0) ch) z=z:=by
   apply List.ext_getElem (by rw[Aoj,hlen,hz])
   intro k k1 k2
   rw[Yv]
   by_cases hk:ch-1≤k
   ·obtain rfl:k=ch-1:=by omega
    rw[if_pos (by simp),←hzl,Mo k2]
   ·rw[if_neg (by simpa using hk),Mo k2]
  rw[e]at h
  rw[Pg,Zn,e2]
  exact h
 rw[Uq,Zf,Ac,hs,Bdx (by omega) (by omega),Aa,Cv (by rw[Ap];simp),Aa]
 rw[Ac,hs]at e1
 rw[Ac,hs]at e2
 have hz1:(List.replicate (Int.toNat (ch:Int)) (0:Int32)).length=ch:=by simp
 have hs1:=g32 (l:=seg) (k:=ch-1) (by omega)
 rw[e1,hs1,Aa,g32 (by omega),Aa,Vy _ (by omega),Aa]
 by_cases hc:1<ch
 ·rw[if_pos hc]at hlast
  have e3:((ch-1:Nat):Int)-1=((ch-2:Nat):Int):=by omega
  have hs2:=g32 (l:=seg) (k:=ch-2) (by omega)
  rw[if_pos (by rw[Aq];simp;omega),Aa,e2,e3,hs2,Aa,Btv,Aa,g32 (by rw[List.length_set];omega),Aa,Vy _ (by rw[List.length_set];omega),Aa]
  refine hend _ (by simp) ?_
  rw[hlast,Bnz _ (by rw[List.length_set];omega)]
 ·rw[if_neg hc]at hlast
  rw[if_neg (by rw[Aq];simp;omega)]
  refine hend _ (by simp) ?_
  rw[hlast,Bnz _ (by omega)]
theorem Cct(ch:Nat)(m:List Int32)(h1:1≤ch)(h6:ch≤6)(hm:m.length %ch=0)(hl2:m.length≤4000):Qu (ch:Int) m=some 0:=by
 rw[Qu,if_neg (by simp[Af,Aq];omega),if_neg (by rw[Aq,Ac];simp;omega),Cv (by rw[Ak];simp;omega),Aa,if_neg]
 rw[Aq,Gp,Ac,←Int.ofNat_tmod,hm];simp
theorem Bbo(ch:Nat)(m:List Int32)(h1:1≤ch)(h6:ch≤6)(hm:m.length %ch=0)(hl2:m.length≤4000):∀(j at' q:Nat),at' %ch=0→at'≤m.length→m.length-at'≤j→j<q→
  Nd (ch:Int) m q (at':Int) ((unm ch m).take at')=some (unm ch m,0)
 |j,at',q+1,ha,hle,hj,hq=>by
  have hlen:=Auh ch m
  rw[Nd,Afe]
  by_cases h:at'<m.length
  ·have hb:=Bnr ha hm h
   have e4:Ae (at':Int) (ch:Int)=((at'+ch:Nat):Int):=by rw[Ah (by omega) (by omega)];omega
   have hrest:=Bbo ch m h1 h6 hm hl2 (j-1) (at'+ch) q (by rw[Nat.add_mod_right,ha]) hb (by omega) (by omega)
   have hseg:((m.take (at'+ch)).drop at').length=ch:=by simp;omega
   have htl:((unm ch m).take at').length=at':=by simp[hlen];omega
   rw[if_pos (by rw[Af,Ac];simp;omega),e4,Ad9 (by omega) (by omega) (by omega),Aa,show((at'+ch:Nat):Int).toNat=at'+ch from rfl,show(at':Int).toNat=at' from rfl,Bq8 _ ch h1 h6 hseg,Aa,Cj (by rw[htl,Ane];omega),Aa]
   have e:(unm ch m).take at'++Az5 (fun i=>((m.take (at'+ch)).drop at').getD i 0) ch=(unm ch m).take (at'+ch):=by
    apply List.ext_getElem (by rw[List.length_append,htl,Ane,List.length_take,hlen];omega)
    intro k k1 k2
    rw[List.length_take,hlen]at k2
    rw[List.getElem_append,List.getElem_take]
    by_cases hk:k<at'
    ·rw[dif_pos (by rw[htl];exact hk),List.getElem_take]
    ·rw[dif_neg (by rw[htl];exact hk)]
     have hu:=Bc2 (m:=m) ha (show k-at'<ch by omega) (by omega)
     rw[show at'+(k-at')=k by omega,Mo (by omega)]at hu
     have hx:∀n,n≤ch→unV (fun i=>((m.take (at'+ch)).drop at').getD i 0) ch n=unV (fun i=>m.getD (at'+i) 0) ch n:=by
      have hf:∀i,i<ch→((m.take (at'+ch)).drop at').getD i 0=m.getD (at'+i) 0:=by
       intro i hi
       rw[Mo (by omega),Mo (by omega)];simp
      intro n
      induction n with
      |zero=>
       intro _;rw[unV,unV,hf _ (by omega)];split
       ·rw[hf _ (by omega)]
       ·rfl
      |succ n ih=>intro hn;rw[unV,unV,ih (by omega),hf _ (by omega)]
     have hy:=Ay1 (fun i=>((m.take (at'+ch)).drop at').getD i 0) (show k-at'<ch by omega)
     rw[Mo (by rw[Ane];omega)]at hy
     rw[hu,←hx _ (by omega),←hy]
     congr 1
     rw[htl]
   rw[e]
   exact hrest
  ·rw[if_neg (by rw[Af,Ac];simp;omega),List.take_of_length_le (by omega)];rfl
theorem Buo(ch:Nat)(m:List Int32)(h1:1≤ch)(h6:ch≤6)(hm:m.length %ch=0)(hl2:m.length≤4000):Aao (ch:Int) m=some (unm ch m,0):=by
 have h:=Bbo ch m h1 h6 hm hl2 m.length 0 FUEL (by simp) (by omega) (by omega) (by have:=Am;omega)
 rw[Aao,Afx,Cct ch m h1 h6 hm hl2,Aa,if_neg (by rw[Ak];simp)]
 exact h
end Go.Pl
set_option linter.unusedVariables false
set_option linter.unusedSimpArgs false
namespace Go.Pl
open Go Go.Lv
def pre{α:Type}(ch c:Nat)(f:α→Nat→α)(a0:α):Nat→α
 |0=>a0
 |m+1=>if m %ch=c then f (pre ch c f a0 m) m else pre ch c f a0 m
theorem Bro{α:Type}(ch c:Nat)(f:α→Nat→α)(a0:α):∀m,m≤c→c<ch→pre ch c f a0 m=a0
 |0,_,_=>rfl
 |m+1,h,h2=>by rw[pre,if_neg (by rw[Nat.mod_eq_of_lt (by omega)];omega),Bro ch c f a0 m (by omega) h2]
theorem Boc{α:Type}(ch c i:Nat)(f:α→Nat→α)(a0:α)(hi:i %ch=c)(hc:c<ch):∀j,j<ch→pre ch c f a0 (i+1+j)=pre ch c f a0 (i+1)
 |0,_=>rfl
 |j+1,h=>by
  have hne:(i+1+j) %ch≠c:=by
   intro e
   have h1:(i+(1+j)) %ch=i %ch:=by rw[hi,←e];congr 1;omega
   have h2:(1+j) %ch=0:=by
    have h3:=Nat.sub_mod_eq_zero_of_mod_eq h1
    rwa [Nat.add_sub_cancel_left]at h3
   rw[Nat.mod_eq_of_lt (by omega)]at h2;omega
  rw[show i+1+(j+1)=(i+1+j)+1 by omega,pre,if_neg hne,Boc ch c i f a0 hi hc j (by omega)]
theorem Bzd{α:Type}(ch c i:Nat)(f:α→Nat→α)(a0:α)(hi:i %ch=c)(hc:c<ch):pre ch c f a0 (i+ch)=f (pre ch c f a0 i) i:=by
 have h:=Boc ch c i f a0 hi hc (ch-1) (by omega)
 rw[show i+1+(ch-1)=i+ch by omega]at h
 rw[h,pre,if_pos hi]
abbrev CS:=Int32×List Int32×List Int32
def Bx5(bits:Int)(s:CS)(y:Int32):Int32:=y+gF (sB bits) s.2.1 s.2.2+gs (shB bits) s.1
def Brp(bits:Int)(s:CS)(y:Int32):CS:=(Bx5 bits s y,lrn s.2.1 s.2.2 y,(y+gF (sB bits) s.2.1 s.2.2)::s.2.2.take 15)
def cst(bits:Int)(ch:Nat)(t:List Int32)(v:List UInt32)(c:Nat):Nat→CS:=pre ch c (fun s i=>Brp bits s (Aqc (v.getD i 0))) (0,t,List.replicate 16 0)
def OkC(bits:Int)(s:CS):Prop:=OkF (sB bits) s.2.1 s.2.2
theorem Bpw(bits:Int)(ch:Nat){t:List Int32}(ht:t.length=16)(v:List UInt32)(c:Nat):∀m,OkC bits (cst bits ch t v c m)
 |0=>⟨Cgi bits,ht,by simp[cst,pre]⟩
 |m+1=>by
  have ih:=Bpw bits ch ht v c m
  rw[cst,pre]
  split
  ·exact Bwd ih _ _
  ·exact ih
def smp(bits:Int)(ch:Nat)(t:List Int32)(v:List UInt32):List Int32:=(List.range v.length).map fun i=>Bx5 bits (cst bits ch t v (i %ch) i) (Aqc (v.getD i 0))
theorem Aun(bits:Int)(ch:Nat)(t:List Int32)(v:List UInt32):(smp bits ch t v).length=v.length:=by simp[smp]
theorem Br5(bits:Int)(ch:Nat)(t:List Int32)(v:List UInt32){i:Nat}(h:i<v.length):(smp bits ch t v).getD i 0=Bx5 bits (cst bits ch t v (i %ch) i) (Aqc (v.getD i 0)):=by
 rw[Mo (by rw[Aun];exact h)];simp[smp]
abbrev CL:=Int×Int32×(Int×(List Int32)×(List Int32)×Unit)×Unit
def toC(bits:Int)(s:CS):CL:=(bits,s.1,(sB bits,s.2.1,s.2.2,()),())
def cts(bits:Int)(ch:Nat)(t:List Int32)(v:List UInt32)(i:Nat):List CL:=(List.range 6).map fun c=>toC bits (cst bits ch t v c i)
theorem Caq{bits:Int}{ch:Nat}{t:List Int32}{v:List UInt32}{i c:Nat}(h:c<6):getI (cts bits ch t v i) (c:Int)=some (toC bits (cst bits ch t v c i)):=by
 rw[Cc (by simp[cts];exact h)];simp[cts]
theorem Bm9(bits:Int)(ch:Nat)(t:List Int32)(v:List UInt32)(c m:Nat):cst bits ch t v c (m+1)=if m %ch=c then Brp bits (cst bits ch t v c m) (Aqc (v.getD m 0))else cst bits ch t v c m:=rfl
theorem Ccu{bits:Int}{ch:Nat}{t:List Int32}{v:List UInt32}{i c:Nat}(h:c<6)(hc:i %ch=c):Kt (cts bits ch t v i) (c:Int) (toC bits (Brp bits (cst bits ch t v c i) (Aqc (v.getD i 0))))=some (cts bits ch t v (i+1)):=by
 rw[Vy _ (by simp[cts];exact h)]
 congr 1
 apply List.ext_getElem (by simp[cts])
 intro k h1 h2
 rw[List.getElem_set]
 simp only[cts,List.getElem_map,List.getElem_range]
 by_cases hk:c=k
 ·subst hk;rw[if_pos rfl,Bm9,if_pos hc]
 ·rw[if_neg hk,Bm9,if_neg (by omega)]
section
variable {bits:Int} {ch:Nat} {t:List Int32} {v:List UInt32}
theorem Bmi(hb:Ch bits)(ht:t.length=16)(h1:1≤ch)(h6:ch≤6)(hv:v.length≤4000):∀(j i q:Nat),i+j=v.length→j<q→
  Hs v (ch:Int) bits q (i:Int) (cts bits ch t v i) ((smp bits ch t v).take i)=Kq (ch:Int) bits (smp bits ch t v)
 |0,i,q+1,hi,_=>by
  rw[Hs,Ko,if_neg (by rw[Af,Ac];simp;omega),List.take_of_length_le (by rw[Aun];omega)]
 |j+1,i,q+1,hi,hq=>by
  have hlen:=Aun bits ch t v
  have hc:i %ch<6:=Nat.lt_of_lt_of_le (Nat.mod_lt _ (by omega)) h6
  have hok:=Bpw bits ch ht v (i %ch) i
  have hs:=Ccu (bits:=bits) (ch:=ch) (t:=t) (v:=v) (i:=i) hc rfl
  have hx:=Br5 bits ch t v (i:=i) (by omega)
  have hcb:=Bux hb hok (cst bits ch t v (i %ch) i).1 (Aqc (v.getD i 0))
  have ih:=Bmi hb ht h1 h6 hv j (i+1) q (by omega) (by omega)
  rw[Ah9 (by omega),←Mo (by omega),hx]at ih
  rw[Hs,Ko,if_pos (by rw[Af,Ac];simp;omega),Bgy (by omega),Aa,Cv (by rw[Ak];simp;omega),Aa,Bfr,Caq hc,Aa,Aa,Bwu,Aa]
  refine Eq.trans (congrArg (fun o=>Option.bind o _) hcb) ?_
  rw[Aa]
  simp only
  rw[Wk,Aho,if_neg (by rw[Ak];simp),Bfr]
  refine Eq.trans (congrArg (fun o=>Option.bind o _) hs) ?_
  rw[Aa,Cj (by simp;omega),Aa,Ah (by omega) (by omega)]
  exact ih
theorem Buz(hb:Ch bits)(ht:t.length=16)(h1:1≤ch)(h6:ch≤6)(hv:v.length≤4000):Qx (ch:Int) bits t v=Kq (ch:Int) bits (smp bits ch t v):=by
 have h:=Bmi hb ht h1 h6 hv v.length 0 FUEL (by omega) (by have:=Am;omega)
 have e:FUEL=(FUEL-7)+1+1+1+1+1+1+1:=by have:=Am;omega
 have hs:Oe v (ch:Int) bits t 0 (List.replicate 6 ((0:Int),(0:Int32),((0:Int),(List.replicate 16 (0:Int32)),(List.replicate 16 (0:Int32)),()),()))=Vv v (ch:Int) bits (cts bits ch t v 0):=by
  rw[Oe,e]
  obtain rfl|rfl|rfl:=hb<;>rfl
 rw[Qx,Xx,hs]
 exact h
theorem Bim(bk:Int→List Int32→Option (List Int32))(hb:Ch bits)(ht:t.length=16)(h1:1≤ch)(h6:ch≤6)(hv:v.length≤4000)(z:List Int32)(c:Nat)(hc:c<ch):∀(j i q:Nat),i %ch=c→v.length-i≤j→i≤5000→j<q→
  Ke bk v (ch:Int) bits t (c:Int) q (i:Int) (sel (fun k=>decide (k %ch<c∨(k %ch=c∧k<i))) (smp bits ch t v) z) bits (cst bits ch t v c i).1 (sB bits) (cst bits ch t v c i).2.1 (cst bits ch t v c i).2.2=
   bk ((c+1:Nat):Int) (sel (fun k=>decide (k %ch<c+1)) (smp bits ch t v) z)
 |j,i,q+1,hi,hj,hi5,hq=>by
  have hlen:=Aun bits ch t v
  rw[Ke,Yu]
  by_cases h:i<v.length
  ·have hok:=Bpw bits ch ht v c i
   have hst:=Bvp hb hok (cst bits ch t v c i).1 (Aqc (v.getD i 0))
   have hx:=Br5 bits ch t v (i:=i) h
   rw[hi]at hx
   have ih:=Bim bk hb ht h1 h6 hv z c hc (j-1) (i+ch) q (by rw[Nat.add_mod_right];exact hi) (by omega) (by omega) (by omega)
   have hstep:cst bits ch t v c (i+ch)=Brp bits (cst bits ch t v c i) (Aqc (v.getD i 0)):=Bzd ch c i _ _ hi hc
   rw[hstep]at ih
   have hset:=Aye (p:=fun k=>decide (k %ch<c∨(k %ch=c∧k<i))) (a:=smp bits ch t v) (b:=z) (k:=i) (by omega)
   rw[hx]at hset
   have hcong:sel (fun j=>decide (j %ch<c∨(j %ch=c∧j<i))||decide (j=i)) (smp bits ch t v) z=sel (fun k=>decide (k %ch<c∨(k %ch=c∧k<i+ch))) (smp bits ch t v) z:=by
    apply Zg
    intro k _
    rw[Bool.eq_iff_iff]
    simp only[Bool.or_eq_true,decide_eq_true_eq]
    constructor
    ·rintro((h1|h1)|h1)
     ·exact .inl h1
     ·exact .inr ⟨h1.1,by omega⟩
     ·subst h1;exact .inr ⟨hi,by omega⟩
    ·rintro(h1|⟨h1,h2⟩)
     ·exact .inl (.inl h1)
     ·by_cases h3:k<i
      ·exact .inl (.inr ⟨h1,h3⟩)
      ·refine .inr ?_
       have h4:(i+(k-i)) %ch=i %ch:=by rw[show i+(k-i)=k by omega,h1,hi]
       have h5:=Nat.sub_mod_eq_zero_of_mod_eq h4
       rw[Nat.add_sub_cancel_left,Nat.mod_eq_of_lt (by omega)]at h5
       omega
   rw[hcong]at hset
   rw[if_pos (by rw[Af,Ac];simp;omega),Bgy h,Aa,Cb4,Aa]
   refine Eq.trans (congrArg (fun o=>Option.bind o _) hst) ?_
   rw[Aa]
   simp only
   rw[Yw,Zd,Alj (by omega),Aa]
   refine Eq.trans (congrArg (fun o=>Option.bind o _) hset) ?_
   rw[Aa,Ze,Zt,Ah (by omega) (by omega)]
   exact ih
  ·rw[if_neg (by rw[Af,Ac];simp;omega),Zl,Zj,Ah (by omega) (by omega)]
   have hcong:sel (fun k=>decide (k %ch<c∨(k %ch=c∧k<i))) (smp bits ch t v) z=sel (fun k=>decide (k %ch<c+1)) (smp bits ch t v) z:=by
    apply Zg
    intro k hk
    rw[Bool.eq_iff_iff]
    simp only[decide_eq_true_eq]
    omega
   rw[hcong];rfl
theorem Bh6(hb:Ch bits)(ht:t.length=16)(h1:1≤ch)(h6:ch≤6)(hv:v.length≤4000)(z:List Int32):∀(j c q:Nat),c+j=ch→j<q→
  Es v (ch:Int) bits t q (c:Int) (sel (fun k=>decide (k %ch<c)) (smp bits ch t v) z)=Pe (ch:Int) bits (smp bits ch t v)
 |0,c,q+1,hc,_=>by
  rw[Es,Pp,if_neg (by rw[Af];simp;omega),Ayi (fun k hk=>by have:=Nat.mod_lt k (show 0<ch by omega);simp;omega)]
 |j+1,c,q+1,hc,hq=>by
  have ih:=Bh6 hb ht h1 h6 hv z j (c+1) q (by omega) (by omega)
  have hin:=Bim (Es v (ch:Int) bits t q) hb ht h1 h6 hv z c (by omega) v.length c FUEL (Nat.mod_eq_of_lt (by omega)) (by omega) (by omega) (by have:=Am;omega)
  have h0:cst bits ch t v c c=(0,t,List.replicate 16 0):=Bro ch c _ _ c (Nat.le_refl _) (by omega)
  rw[h0]at hin
  have hcong:sel (fun k=>decide (k %ch<c∨(k %ch=c∧k<c))) (smp bits ch t v) z=sel (fun k=>decide (k %ch<c)) (smp bits ch t v) z:=by
   apply Zg
   intro k hk
   have:=Nat.mod_le k ch
   rw[Bool.eq_iff_iff]
   simp only[decide_eq_true_eq]
   omega
  rw[hcong]at hin
  rw[Es,Pp,if_pos (by rw[Af];simp;omega),Cg2 hb,Aa]
  simp only
  rw[Zh]
  exact Eq.trans hin ih
theorem Bv3(hb:Ch bits)(ht:t.length=16)(h1:1≤ch)(h6:ch≤6)(hv:v.length≤4000)(hm:v.length %ch=0):Oh (ch:Int) bits t v=some (unm ch (smp bits ch t v)):=by
 have hlen:=Aun bits ch t v
 have h:=Bh6 hb ht h1 h6 hv (List.replicate v.length 0) ch 0 FUEL (by omega) (by have:=Am;omega)
 rw[Aza (by rw[hlen];simp) (fun k _=>by simp)]at h
 rw[Oh,Abk,Ac,Bdx (by omega) (by omega),Aa,Cv (by rw[Ap];simp),Aa,Zw]
 refine Eq.trans h ?_
 rw[Pe,Zp,Buo ch _ h1 h6 (by rw[hlen];exact hm) (by omega),Aa]
end
def hB(bits:Int):Int:=if bits=8 then 128 else if bits=16 then 32768 else 8388608
theorem Bw7{bits:Int}(h:Ch bits):Afg bits=some (Int32.ofInt (-(hB bits)),Int32.ofInt (hB bits-1),0):=by
 obtain rfl|rfl|rfl:=h<;>decide
theorem Bb0{bits:Int}(h:Ch bits):Tl bits=some (hB bits):=by
 obtain rfl|rfl|rfl:=h<;>rfl
theorem Awt(bits:Int):0<hB bits∧hB bits≤8388608:=by
 unfold hB;split; · omega
 ·split<;>omega
theorem Bfq{bits:Int}(h:Ch bits)(l:List Int32)(hl:l.length≤4000):∀(j i q:Nat),i+j=l.length→j<q→
  Oo (Int32.ofInt (-(hB bits))) (Int32.ofInt (hB bits-1)) l q (i:Int)=Bd l (hB bits) q (i:Int)
 |0,i,q+1,hi,_=>by
  rw[Oo,Ab9,Bd,El,if_neg (by rw[Af,Ac];simp;omega),if_neg (by rw[Af,Ac];simp;omega)];rfl
 |j+1,i,q+1,hi,hq=>by
  have hh:=Awt bits
  have ih:=Bfq h l hl j (i+1) q (by omega) (by omega)
  have e1:(Int32.ofInt (-(hB bits))).toInt= -(hB bits):=by rw[Int32.toInt_ofInt,Int.bmod_eq_of_le (by show -(4294967296/2:Int)≤_;omega) (by show _<(4294967296+1)/2;omega)]
  have e2:(Int32.ofInt (hB bits-1)).toInt=hB bits-1:=by rw[Int32.toInt_ofInt,Int.bmod_eq_of_le (by show -(4294967296/2:Int)≤_;omega) (by show _<(4294967296+1)/2;omega)]
  rw[Oo,Ab9,Bd,El,if_pos (by rw[Af,Ac];simp;omega),if_pos (by rw[Af,Ac];simp;omega),g32 (by omega),Aa,Aa,Aa,Eu,Brb,Ce (by omega) (by omega),Ah (by omega) (by omega),Bk9,Bp1,e1,e2,Af,Dx]
  generalize(l.getD i 0).toInt=X
  by_cases h1:X< -(hB bits)
  ·rw[if_pos (by simp;omega),if_pos (by simp;omega)]
  ·rw[if_neg (c:=decide (X<0-hB bits)=true) (by simp;omega)]
   by_cases h2:hB bits≤X
   ·rw[if_pos (by simp;omega),if_pos (by simp;omega)]
   ·rw[if_neg (by simp;omega),if_neg (by simp;omega)];exact ih
theorem Bew{bits:Int}(h:Ch bits)(l:List Int32)(hl:l.length≤4000):Um bits l=cadenzaref18_Check bits l:=by
 have hh:=Awt bits
 rw[Um,Aiu,Bw7 h,Aa,cadenzaref18_Check,Ii,Bb0 h,Aa]
 simp only
 rw[if_neg (by rw[Ak];simp),if_neg (by rw[Aq,Ac];simp;omega),if_neg (by rw[Ap];simp;omega),if_neg (by rw[Aq,Ac];simp;omega)]
 exact Bfq h l hl l.length 0 FUEL (by omega) (by have:=Am;omega)
theorem Bqp{bits:Int}(h:Ch bits)(l:List Int32)(hl:l.length≤4000):∃e,cadenzaref18_Check bits l=some e:=by
 have hh:=Awt bits
 have key:∀(j i q:Nat),i+j=l.length→j<q→∃e,Bd l (hB bits) q (i:Int)=some e:=by
  intro j
  induction j with
  |zero=>
   intro i q hi hq
   obtain⟨q,rfl⟩:∃k,q=k+1:=⟨q-1,by omega⟩
   rw[Bd,El,if_neg (by rw[Af,Ac];simp;omega)]
   exact⟨_,rfl⟩
  |succ j ih=>
   intro i q hi hq
   obtain⟨q,rfl⟩:∃k,q=k+1:=⟨q-1,by omega⟩
   rw[Bd,El,if_pos (by rw[Af,Ac];simp;omega),g32 (by omega),Aa,Aa,Ah (by omega) (by omega)]
   split
   ·exact⟨_,rfl⟩
   ·split
    ·exact⟨_,rfl⟩
    ·exact ih (i+1) q (by omega) (by omega)
 obtain⟨e,he⟩:=key l.length 0 FUEL (by omega) (by have:=Am;omega)
 rw[cadenzaref18_Check,Ii,Bb0 h,Aa,if_neg (by rw[Ap];simp;omega),if_neg (by rw[Aq,Ac];simp;omega)]
 exact⟨e,he⟩
theorem Azj{bits:Int}{ch:Nat}{t:List Int32}{v:List UInt32}(hb:Ch bits)(ht:t.length=16)(h1:1≤ch)(h6:ch≤6)(hv:v.length≤4000)(hm:v.length %ch=0):
  ∃l e,Oh (ch:Int) bits t v=some l∧Wa (ch:Int) bits l=some (if e≠0 then([],e)else(l,0))∧Qx (ch:Int) bits t v=some (if e≠0 then([],e)else(l,0))∧cadenzaref18_Check bits l=some e∧l.length=v.length:=by
 have hlen:=Aun bits ch t v
 have hul:=Auh ch (smp bits ch t v)
 obtain⟨e,he⟩:=Bqp hb (unm ch (smp bits ch t v)) (by omega)
 refine⟨unm ch (smp bits ch t v),e,Bv3 hb ht h1 h6 hv hm,?_,?_,he,by omega⟩
 ·rw[Wa,he,Aa]
  by_cases h:e=0
  ·rw[if_neg (by rw[Ak];simpa using h),if_neg (by simpa using h)]
  ·rw[if_pos (by rw[Ak];simpa using h),if_pos h]
 ·rw[Buz hb ht h1 h6 hv,Kq,Aha,Ccn ch _ h1 h6 (by rw[hlen];exact hm) (by omega),Aa]
  simp only
  rw[if_neg (by rw[Ak];simp),Bew hb _ (by omega),he,Aa]
  by_cases h:e=0
  ·rw[if_neg (by rw[Ak];simpa using h),if_neg (by simpa using h)]
  ·rw[if_pos (by rw[Ak];simpa using h),if_pos h]
end Go.Pl
set_option linter.unusedVariables false
set_option linter.unusedSimpArgs false
namespace Go.Pl
open Go Go.Lv
def Arm(s:Nat):Nat:=(s/2)^^^ (if s %2=1 then 3988292384 else 0)
theorem Bgc{s:Nat}(h:s<4294967296):Arm s<4294967296:=by
 unfold Arm
 exact Nat.xor_lt_two_pow (n:=32) (by simp;omega) (by split<;>decide)
theorem Bol(x y:Nat):(x^^^y)/2=(x/2)^^^ (y/2):=by
 have:=Nat.shiftRight_xor_distrib (a:=x) (b:=y) (i:=1)
 simpa [Nat.shiftRight_eq_div_pow]using this
theorem Bt9(x y:Nat):Arm (x^^^y)=Arm x^^^Arm y:=by
 have h:(x^^^y) %2=(x %2+y %2) %2:=by
  have:=Nat.xor_mod_two_eq_one (a:=x) (b:=y)
  have h1:(x^^^y) %2<2:=Nat.mod_lt _ (by omega)
  omega
 simp only[Arm,Bol,h]
 have hx:x %2=0∨x %2=1:=by omega
 have hy:y %2=0∨y %2=1:=by omega
 rcases hx with hx|hx<;>rcases hy with hy|hy<;>simp only[hx,hy]<;>simp
 ·rw[Nat.xor_assoc]
 ·rw[Nat.xor_assoc,Nat.xor_comm (y/2),Nat.xor_assoc,Nat.xor_comm 3988292384 (y/2)]
 ·rw[Nat.xor_assoc,Nat.xor_comm 3988292384,Nat.xor_assoc,Nat.xor_self];simp
def Vq:Nat→Nat→Nat
 |0,s=>s
 |k+1,s=>Vq k (Arm s)
theorem Bi5:∀(k x y:Nat),Vq k (x^^^y)=Vq k x^^^Vq k y
 |0,_,_=>rfl
 |k+1,x,y=>by rw[Vq,Bt9,Bi5 k];rfl
theorem Bh5:∀(k h:Nat),Vq k (2^k*h)=h
 |0,h=>by simp[Vq]
 |k+1,h=>by
  have:Arm (2^(k+1)*h)=2^k*h:=by
   rw[Nat.pow_succ,Nat.mul_comm (2^k) 2,Nat.mul_assoc,Arm,if_neg (by omega),Nat.mul_div_cancel_left _ (by omega)];simp
  rw[Vq,this,Bh5 k]
theorem Bdz:∀(k:Nat) {s:Nat},s<4294967296→Vq k s<4294967296
 |0,_,h=>h
 |k+1,_,h=>Bdz k (Bgc h)
def Bba(s c:Nat):Nat:=Vq 8 (s^^^c)
theorem Bdu{s c:Nat}(h:s<4294967296)(hc:c<256):Bba s c<4294967296:=Bdz 8 (Nat.xor_lt_two_pow (n:=32) (by simpa using h) (by simp;omega))
theorem Bot{s c:Nat}(hc:c<256):Bba s c=(s/256)^^^Vq 8 ((s %256)^^^c):=by
 have h:s=(2^8*(s/256))^^^ (s %256):=by
  have h1:s %256<2^8:=by simpa using Nat.mod_lt s (by omega:256>0)
  have:=Nat.two_pow_add_eq_or_of_lt h1 (s/256)
  have h2:2^8*(s/256)|||s %256=(2^8*(s/256))^^^ (s %256):=by
   apply Nat.eq_of_testBit_eq;intro i
   rw[Nat.testBit_or,Nat.testBit_xor]
   by_cases hi:i<8
   ·have:(2^8*(s/256)).testBit i=false:=by rw[Nat.testBit_two_pow_mul];simp;omega
    rw[this];simp
   ·have:(s %256).testBit i=false:=Nat.testBit_lt_two_pow (Nat.lt_of_lt_of_le h1 (Nat.pow_le_pow_right (by omega) (by omega)))
    rw[this];simp
  omega
 rw[Bba]
 conv=>lhs;rw[h]
 rw[Nat.xor_assoc,Bi5,Bh5]
def Bvi(s:Nat)(l:List UInt8):Nat:=l.foldl (fun s c=>Bba s c.toNat) s
def Ha(b:List UInt8):UInt32:=4294967295-UInt32.ofNat (Bvi 4294967295 b)
theorem Ccc(s:UInt32)(c:Nat)(hc:c<256):Aca s (Ad (Zy (UInt8.ofNat c) (2:UInt8)):Int)=some (UInt32.ofNat (s.toNat/2^^^ (if(s.toNat^^^c) %2=1 then 3988292384 else 0))):=by
 have h1:(Ad (Zy (UInt8.ofNat c) (2:UInt8)):Int)=((c %2:Nat):Int):=by
  rw[Aie,Cbk,UInt8.toNat_mod,UInt8.toNat_ofNat']
  show((c %256 %2:Nat):Int)=_
  omega
 have h2:geq (Zy s (2:UInt32)) (1:UInt32)=decide (s.toNat %2=1):=by
  rw[Bj8,Blr,Bool.eq_iff_iff]
  simp only[beq_iff_eq,decide_eq_true_eq]
  rw[←UInt32.toNat_inj,UInt32.toNat_mod];rfl
 have h3:Ck s (2:UInt32)=UInt32.ofNat (s.toNat/2):=by
  apply UInt32.toNat_inj.1
  rw[Bn5,UInt32.toNat_div,UInt32.toNat_ofNat']
  show s.toNat/2=_
  have:=s.toNat_lt
  omega
 have h4:Wn (Ck s (2:UInt32)) (3988292384:UInt32)=UInt32.ofNat (s.toNat/2^^^3988292384):=by
  apply UInt32.toNat_inj.1
  rw[h3,Ax7,UInt32.toNat_xor,UInt32.toNat_ofNat',UInt32.toNat_ofNat']
  have:=s.toNat_lt
  rw[Nat.mod_eq_of_lt (a:=s.toNat/2) (by omega),Nat.mod_eq_of_lt]
  ·rfl
  ·exact Nat.xor_lt_two_pow (n:=32) (by omega) (by decide)
 have hx:(s.toNat^^^c) %2=(s.toNat %2+c %2) %2:=by
  have:=Nat.xor_mod_two_eq_one (a:=s.toNat) (b:=c)
  have h1:(s.toNat^^^c) %2<2:=Nat.mod_lt _ (by omega)
  omega
 have hs:s.toNat %2=0∨s.toNat %2=1:=by omega
 have hc2:c %2=0∨c %2=1:=by omega
 rw[Aca,Agf,h1,h2,hx]
 rcases hs with hs|hs<;>rcases hc2 with hc2|hc2<;>simp[hs,hc2,Ap,Afo,Afa,Ax7,h3]
theorem Bb7:∀(j i q:Nat) (s:UInt32) (c:Nat),i+j=8→j<q→c<2^j→Jv q s (UInt8.ofNat c) (i:Int)=some (UInt32.ofNat (Vq j (s.toNat^^^c)))
 |0,i,q+1,s,c,hi,_,hc=>by
  obtain rfl:i=8:=by omega
  obtain rfl:c=0:=by simpa using hc
  rw[Jv,Uh,if_neg (by rw[Af];simp),Afj,Afq,Vq]
  simp
 |j+1,i,q+1,s,c,hi,hq,hc=>by
  have hc8:c<256:=Nat.lt_of_lt_of_le hc (show 2^(j+1)≤2^8 from Nat.pow_le_pow_right (by omega) (by omega))
  rw[Jv,Uh,if_pos (by rw[Af];simp;omega),Ccc s c hc8,Aa,Ah (by omega) (by omega)]
  have e:Ck (UInt8.ofNat c) (2:UInt8)=UInt8.ofNat (c/2):=by
   apply UInt8.toNat_inj.1
   rw[Cay,UInt8.toNat_div,UInt8.toNat_ofNat',UInt8.toNat_ofNat']
   show c %256/2=_
   omega
  rw[e]
  have h:=Bb7 j (i+1) q (UInt32.ofNat (s.toNat/2^^^ (if(s.toNat^^^c) %2=1 then 3988292384 else 0))) (c/2) (by omega) (by omega) (by rw[Nat.pow_succ]at hc;omega)
  rw[show((i:Int)+1)=((i+1:Nat):Int) by omega,h,UInt32.toNat_ofNat',Vq]
  congr 3
  have:=s.toNat_lt
  rw[Nat.mod_eq_of_lt,Arm,Bol,Nat.xor_assoc,Nat.xor_assoc,Nat.xor_comm (c/2)]
  exact Nat.xor_lt_two_pow (n:=32) (by omega) (by split<;>decide)
theorem Cb6(s:UInt32)(c:UInt8):Alr s c=some (UInt32.ofNat (Bba s.toNat c.toNat)):=by
 have h:=Bb7 8 0 FUEL s c.toNat (by omega) (by have:=Am;omega) (by simpa using c.toNat_lt)
 rw[UInt8.ofNat_toNat]at h
 exact h
theorem Av9(b:List UInt8)(hb:b.length<4611686018427387904):∀(j i q:Nat) (s:UInt32),i+j=b.length→j<q→Hn b q s (i:Int)=some (UInt32.ofNat (Bvi s.toNat (b.drop i)))
 |0,i,q+1,s,hi,_=>by
  rw[Hn,Qe,if_neg (by rw[Af,Ac];simp;omega),show i=b.length by omega,List.drop_length]
  simp[Abc,Abr,Bvi]
 |j+1,i,q+1,s,hi,hq=>by
  have hlt:i<b.length:=by omega
  rw[Hn,Qe,if_pos (by rw[Af,Ac];simp;omega),Cc hlt,Aa,Cb6,Aa,Ah (by omega) (by omega)]
  have h:=Av9 b hb j (i+1) q (UInt32.ofNat (Bba s.toNat b[i].toNat)) (by omega) (by omega)
  rw[show((i:Int)+1)=((i+1:Nat):Int) by omega,h,drop_cons hlt,UInt32.toNat_ofNat',Nat.mod_eq_of_lt (Bdu s.toNat_lt b[i].toNat_lt)]
  rfl
theorem Bzq(b:List UInt8)(hb:b.length<4611686018427387904):Qw b=some (Ha b):=by
 have h:=Av9 b hb b.length 0 FUEL 4294967295 (by omega) (by have:=Am;omega)
 rw[Qw,Ahr,Aaw,Ab8,show((0:Int))=((0:Nat):Int)from rfl,h,Aa,Bno];rfl
theorem Ccz(c:UInt32):Wn (Bu c (GI.toZ (1:UInt64)).toNat) (Bi (3988292384:UInt32) (Ds c (1:UInt32)))=UInt32.ofNat (Arm c.toNat):=by
 apply UInt32.toNat_inj.1
 have e:(GI.toZ (1:UInt64)).toNat=1:=rfl
 have h1:(Bu c 1).toNat=c.toNat/2:=by rw[Ani]
 have h2:(Bi (3988292384:UInt32) (Ds c (1:UInt32))).toNat=if c.toNat %2=1 then 3988292384 else 0:=by
  rw[Bwg,Bl7,UInt32.toNat_mul,UInt32.toNat_and]
  show 3988292384*(c.toNat&&&1) %4294967296=_
  rw[Nat.and_one_is_mod]
  have:c.toNat %2=0∨c.toNat %2=1:=by omega
  rcases this with h|h<;>simp[h]
 rw[e,Ax7,UInt32.toNat_xor,h1,h2,UInt32.toNat_ofNat',Nat.mod_eq_of_lt (Bgc c.toNat_lt)];rfl
theorem Bmd(bk16:Int→List UInt32→Option (UInt32×Int))(s:UInt32)(b:List UInt8)(x:Int)(t:List UInt32):∀(j i q:Nat) (c:UInt32),i+j=8→j<q→
  Pn bk16 s b x t q c (i:Int)=Ab3 bk16 s b x (UInt32.ofNat (Vq j c.toNat)) t
 |0,i,q+1,c,hi,_=>by
  obtain rfl:i=8:=by omega
  rw[Pn,Aam,if_neg (by rw[Af];simp),Vq,UInt32.ofNat_toNat]
 |j+1,i,q+1,c,hi,hq=>by
  rw[Pn,Aam,if_pos (by rw[Af];simp;omega),Ccz,Ah (by omega) (by omega),show((i:Int)+1)=((i+1:Nat):Int) by omega,Bmd bk16 s b x t j (i+1) q _ (by omega) (by omega),UInt32.toNat_ofNat',Nat.mod_eq_of_lt (Bgc c.toNat_lt)];rfl
def tbl(n:Nat):List UInt32:=(List.range n).map fun i=>UInt32.ofNat (Vq 8 i)
theorem Brj(s:UInt32)(b:List UInt8):∀(j i q:Nat),i+j=256→j<q→Ma s b q (i:Int) (tbl i++List.replicate j 0)=Abx s b (tbl 256)
 |0,i,q+1,hi,_=>by
  obtain rfl:i=256:=by omega
  rw[Ma,Ab7,if_neg (by rw[Af];simp)];simp
 |j+1,i,q+1,hi,hq=>by
  have hlen:(tbl i++List.replicate (j+1) 0).length=i+(j+1):=by simp[tbl]
  rw[Ma,Ab7,if_pos (by rw[Af];simp;omega),Ai1]
  have h:=Bmd (Ma s b q) s b (i:Int) (tbl i++List.replicate (j+1) 0) 8 0 FUEL (Ad (i:Int)) (by omega) (by have:=Am;omega)
  rw[show((0:Int))=((0:Nat):Int)from rfl,h,Ab3,Akp,Cc (by rw[hlen];omega),Aa,Vy _ (by rw[hlen];omega),Aa,Akb,At0,Ah (by omega) (by omega)]
  have e:(Ad (i:Int):UInt32).toNat=i:=by rw[Bia,UInt32.toNat_ofNat',Nat.mod_eq_of_lt (by omega)]
  rw[e,List.replicate_succ,Aut (by simp[tbl])]
  have h2:=Brj s b j (i+1) q (by omega) (by omega)
  have h3:tbl (i+1)=tbl i++[UInt32.ofNat (Vq 8 i)]:=by simp[tbl,List.range_succ]
  rw[h3]at h2
  rw[show((i:Int)+1)=((i+1:Nat):Int) by omega,←h2]
  simp
theorem Cbo{i:Nat}(h:i<256):getI (tbl 256) (i:Int)=some (UInt32.ofNat (Vq 8 i)):=by
 rw[Cc (by simpa [tbl]using h)];simp[tbl]
theorem Bza(s:UInt32)(c:UInt8):getI (tbl 256) (GI.toZ (Wn (Ad s:UInt8) c))=some (UInt32.ofNat (Vq 8 ((s.toNat %256)^^^c.toNat))):=by
 have e:GI.toZ (Wn (Ad s:UInt8) c)=(((s.toNat %256)^^^c.toNat:Nat):Int):=by
  rw[Yh,Bsl,UInt8.toNat_xor,Axc,UInt8.toNat_ofNat']
 rw[e,Cbo]
 exact Nat.xor_lt_two_pow (n:=8) (by simp;omega) (by simpa using c.toNat_lt)
theorem Buf(s:UInt32)(c:UInt8):Wn (Bu s (GI.toZ (8:UInt64)).toNat) (UInt32.ofNat (Vq 8 ((s.toNat %256)^^^c.toNat)))=UInt32.ofNat (Bba s.toNat c.toNat):=by
 apply UInt32.toNat_inj.1
 have hlt:Vq 8 ((s.toNat %256)^^^c.toNat)<4294967296:=Bdz 8 (Nat.xor_lt_two_pow (n:=32) (by simp;omega) (by have:=c.toNat_lt;simp;omega))
 have e:(GI.toZ (8:UInt64)).toNat=8:=rfl
 rw[e,Ax7,UInt32.toNat_xor,Ani,UInt32.toNat_ofNat',UInt32.toNat_ofNat',Nat.mod_eq_of_lt hlt,Nat.mod_eq_of_lt (Bdu s.toNat_lt c.toNat_lt),Bot c.toNat_lt]
theorem Boy(b:List UInt8)(hb:b.length<4611686018427387904):∀(j i q:Nat) (s:UInt32),i+j=b.length→j<q→Oy b (tbl 256) q s (i:Int)=some (UInt32.ofNat (Bvi s.toNat (b.drop i)),0)
 |0,i,q+1,s,hi,_=>by
  rw[Oy,Acm,if_neg (by rw[Af,Ac];simp;omega),show i=b.length by omega,List.drop_length]
  simp[Ajy,Asv,Bvi]
 |j+1,i,q+1,s,hi,hq=>by
  have hlt:i<b.length:=by omega
  rw[Oy,Acm,if_pos (by rw[Af,Ac];simp;omega),Cc hlt,Aa,Bza,Aa,Aa,Buf,Ah (by omega) (by omega)]
  have h:=Boy b hb j (i+1) q (UInt32.ofNat (Bba s.toNat b[i].toNat)) (by omega) (by omega)
  rw[show((i:Int)+1)=((i+1:Nat):Int) by omega,h,drop_cons hlt,UInt32.toNat_ofNat',Nat.mod_eq_of_lt (Bdu s.toNat_lt b[i].toNat_lt)]
  rfl
theorem Cbm(s:UInt32)(b:List UInt8)(hb:b.length≤100000):An9 s b=some (UInt32.ofNat (Bvi s.toNat b),0):=by
 have h:=Brj s b 256 0 FUEL (by omega) (by have:=Am;omega)
 have h2:=Boy b (by omega) b.length 0 FUEL s (by omega) (by have:=Am;omega)
 rw[An9,Amk,if_neg (by rw[Aq,Ac];simp;omega),Aj6]
 refine Eq.trans h ?_
 rw[Abx,Ai7,Aj4,Aju,Ajf]
 exact h2
theorem Byf(a:UInt32):Bf8 a=4294967295-a:=by
 have h:=a.toNat_lt
 have e:Bf8 a=UInt32.ofNat (BitVec.ofInt 32 4294967295^^^BitVec.ofInt 32 (a.toNat:Int)).toNat:=Ef _
 apply UInt32.toNat_inj.1
 rw[e,UInt32.toNat_ofNat',UInt32.toNat_sub_of_le _ _ (by rw[UInt32.le_iff_toNat_le];show a.toNat≤4294967295;omega)]
 have h1:BitVec.ofInt 32 (a.toNat:Int)=a.toBitVec:=Bkz a
 have h2:(BitVec.ofInt 32 4294967295:BitVec 32)=BitVec.allOnes 32:=by decide
 rw[h1,h2,BitVec.allOnes_xor,BitVec.toNat_not]
 show(4294967296-1-a.toNat) %4294967296=4294967295-a.toNat
 omega
theorem Bq1(b:List UInt8)(hb:b.length≤100000):Vj b=some (Ha b,0):=by
 rw[Vj,Cbm _ _ hb,Aa]
 simp only[Ak,Byf]
 rfl
end Go.Pl
set_option linter.unusedVariables false
set_option linter.unusedSimpArgs false
namespace Go.Pl
open Go Go.Lv
theorem Bto:∀{l m:List UInt8},l.length=m.length→Eh l=Eh m→l=m
 |[],[],_,_=>rfl
 |x::l,y::m,h,e=>by
  simp only[Eh]at e
  have hx:=x.toNat_lt
  have hy:=y.toNat_lt
  have h1:x=y:=UInt8.toNat_inj.1 (by omega)
  rw[h1,Bto (l:=l) (m:=m) (by simpa using h) (by omega)]
theorem Bkg:∀(w n:Nat),Eh (leB n w)=n %256^w
 |0,n=>by simp[leB,Eh,Nat.mod_one]
 |w+1,n=>by
  rw[leB,Eh,Bkg w (n/256),UInt8.toNat_ofNat',show(256:Nat)^(w+1)=256*256^w by rw[Nat.pow_succ,Nat.mul_comm],Nat.mod_mul]
def Ti(b:List UInt8):Int:=
 if b.length<5 then 24 else if 41254<b.length then 4 else if(Ha (b.take (b.length-4))).toNat≠Eh (b.drop (b.length-4))then 22 else 0
theorem Bn9(b:List UInt8):Aa2 b=some (if Ti b≠0 then([],Ti b)else(b.take (b.length-4),0)):=by
 rw[Aa2]
 by_cases h1:b.length<5
 ·have hS:Ti b=24:=by rw[Ti,if_pos h1]
  rw[if_pos (by rw[Af,Ac];simp;omega),hS];rfl
 rw[if_neg (by rw[Af,Ac];simp;omega)]
 by_cases h2:41254<b.length
 ·have hS:Ti b=4:=by rw[Ti,if_neg h1,if_pos h2]
  rw[if_pos (by rw[Aq,Ac];simp;omega),hS];rfl
 have e4:Aj (Ac b) 4=((b.length-4:Nat):Int):=by rw[Ac,Bv (by omega) (by omega)];omega
 have hd:(b.drop (b.length-4)).length=4:=by simp;omega
 rw[if_neg (by rw[Aq,Ac];simp;omega),e4,Cs (by omega) (by omega),Aa,show((b.length-4:Nat):Int).toNat=b.length-4 from rfl,Bq1 _ (by simp;omega),Aa]
 simp only
 rw[if_neg (by rw[Ak];simp),Cx (by omega) (by omega),Aa,show((b.length-4:Nat):Int).toNat=b.length-4 from rfl,Bng _ (by omega) (by omega),Aa]
 have hne:Ax (leU (b.drop (b.length-4))) (Ad (Ha (b.take (b.length-4))):UInt64)=decide ((Ha (b.take (b.length-4))).toNat≠Eh (b.drop (b.length-4))):=by
  have hlt:=(Ha (b.take (b.length-4))).toNat_lt
  rw[Ahz,Bool.eq_iff_iff]
  simp only[bne_iff_ne,ne_eq,←UInt64.toNat_inj,decide_eq_true_eq]
  rw[Alk (by omega),Hx,UInt64.toNat_ofNat',Nat.mod_eq_of_lt (by omega)]
  exact⟨fun h e=>h e.symm,fun h e=>h e.symm⟩
 simp only
 rw[hne,Aa]
 by_cases h3:(Ha (b.take (b.length-4))).toNat≠Eh (b.drop (b.length-4))
 ·have hS:Ti b=22:=by rw[Ti,if_neg h1,if_neg h2,if_pos h3]
  rw[if_pos (by simp[h3]),hS];rfl
 ·have hS:Ti b=0:=by rw[Ti,if_neg h1,if_neg h2,if_neg h3]
  rw[if_neg (by rw[decide_eq_false h3];decide),hS];rfl
theorem Bva(b:List UInt8)(hb:b.length≤1000000):Wc b=some (b++leB (Ha b).toNat 4):=by
 have h:∀k:Nat,(Ad (Bu (Ha b) k):UInt8)=UInt8.ofNat ((Ha b).toNat/2^k):=by
  intro k;rw[Axc,Ani]
 have h0:(Ad (Ha b):UInt8)=UInt8.ofNat (Ha b).toNat:=Axc _
 have h1:=h 8
 have h2:=h 16
 have h3:=h 24
 rw[Wc,Bzq b (by omega),Aa,Cj (by simp;omega),Aa,Cj (by simp;omega),Aa,h0,show(GI.toZ (8:UInt64)).toNat=8 from rfl,show(GI.toZ (16:UInt64)).toNat=16 from rfl,show(GI.toZ (24:UInt64)).toNat=24 from rfl,h1,h2,h3]
 simp only[leB,Nat.div_div_eq_div_mul,List.nil_append]
theorem Be5(b:List UInt8):Oi b=some (Ti b):=by
 rw[Oi]
 by_cases h1:b.length<5
 ·rw[if_pos (by rw[Af,Ac];simp;omega),Ti,if_pos h1]
 rw[if_neg (by rw[Af,Ac];simp;omega)]
 by_cases h2:41254<b.length
 ·rw[if_pos (by rw[Aq,Ac];simp;omega),Ti,if_neg h1,if_pos h2]
 have e4:Aj (Ac b) 4=((b.length-4:Nat):Int):=by rw[Ac,Bv (by omega) (by omega)];omega
 have hd:(b.drop (b.length-4)).length=4:=by simp;omega
 rw[if_neg (by rw[Aq,Ac];simp;omega),e4,Cs (by omega) (by omega),Aa,show((b.length-4:Nat):Int).toNat=b.length-4 from rfl,Bva _ (by simp;omega),Aa]
 have hlt:=(Ha (b.take (b.length-4))).toNat_lt
 have hiff:(b.take (b.length-4)++leB (Ha (b.take (b.length-4))).toNat 4 !=b)=decide ((Ha (b.take (b.length-4))).toNat≠Eh (b.drop (b.length-4))):=by
  rw[Bool.eq_iff_iff]
  simp only[bne_iff_ne,ne_eq,decide_eq_true_eq]
  constructor
  ·intro h e
   apply h
   have:leB (Ha (b.take (b.length-4))).toNat 4=b.drop (b.length-4):=Bto (by rw[Og,hd]) (by rw[Bkg,Nat.mod_eq_of_lt (by omega),e])
   rw[this,List.take_append_drop]
  ·intro h e
   apply h
   have hx:leB (Ha (b.take (b.length-4))).toNat 4=b.drop (b.length-4):=by
    have e2:b.take (b.length-4)++leB (Ha (b.take (b.length-4))).toNat 4=b.take (b.length-4)++b.drop (b.length-4):=by rw[e,List.take_append_drop]
    exact List.append_cancel_left e2
   rw[←hx,Bkg,Nat.mod_eq_of_lt (by omega)]
 rw[hiff]
 by_cases h3:(Ha (b.take (b.length-4))).toNat≠Eh (b.drop (b.length-4))
 ·rw[if_pos (by simp[h3]),Ti,if_neg h1,if_neg h2,if_pos h3]
 ·rw[if_neg (by rw[decide_eq_false h3];decide),Ti,if_neg h1,if_neg h2,if_neg h3]
theorem Bou{b:List UInt8}(h:Ti b=0):5≤b.length∧b.length≤41254:=by
 unfold Ti at h
 split at h
 ·simp at h
 ·split at h
  ·simp at h
  ·omega
theorem Bsw{c:Nat}(h1:1≤c)(h6:c≤6):Ck (4000:Int) (c:Int)=((4000/c:Nat):Int):=by
 have:c=1∨c=2∨c=3∨c=4∨c=5∨c=6:=by omega
 rcases this with rfl|rfl|rfl|rfl|rfl|rfl<;>rfl
theorem Ccg(p:List UInt8)(h:p.length≤41250):okB p (8*p.length):=⟨by omega,by omega,fun k h1 h2=>by omega⟩
theorem Ae4{bits:Int}{ch n:Nat}{t:List Int32}(b:List UInt8)(hb:Ch bits)(ht:t.length=16)(h1:1≤ch)(h6:ch≤6)(n1:1≤n)(n2:n≤4000/ch):
  ∃l e,deframe_Decode (ch:Int) bits t (n:Int) b=some (l,e)∧cadenzaref21_Decode (ch:Int) bits t (n:Int) b=some (l,e)∧(e=0→cadenzaref18_Check bits l=some 0∧l.length≤4000∧l.length=n*ch)∧(e≠0→l=[]):=by
 have hn:n*ch≤4000:=by
  have:=Nat.mul_le_mul_right ch n2
  have h2:=Nat.div_mul_le_self 4000 ch
  omega
 have hq4:=Bsw h1 h6
 generalize 4000/ch=mm at*
 have hck:Rb (ch:Int) bits=some 0:=by
  have hr:∃x y,Afg bits=some (x,y,0):=⟨_,_,Bw7 hb⟩
  obtain⟨x,y,hr⟩:=hr
  rw[Rb,hr,Aa]
  simp only
  rw[if_neg (by simp[Ak,Af,Aq];omega)]
 have hh:=Awt bits
 have hasked:Lu (ch:Int) bits (n:Int)=some 0:=by
  rw[Lu,Yp,if_neg (by simp[Af,Aq];omega),Bb0 hb,Aa,if_neg (by rw[Ap];simp;omega),Aa,if_neg (by simp[Ak,Af];omega),Cv (by rw[Ak];simp;omega),Aa,hq4,if_neg (by rw[Aq];simp;omega)]
 rw[deframe_Decode,cadenzaref21_Decode,Qr,hck,hasked,Aa,Aa,if_neg (by rw[Ak];simp),if_neg (by rw[Af];simp;omega),Cv (by rw[Ak];simp;omega),Aa,hq4,if_neg (by rw[Aq];simp;omega),if_neg (by rw[Ak];simp),Bn9,Be5]
 by_cases hs:Ti b≠0
 ·rw[if_pos hs]
  simp only[Aa]
  rw[if_pos (by rw[Ak];simpa using hs),if_pos (by rw[Ak];simpa using hs)]
  exact⟨[],Ti b,rfl,rfl,fun e=>absurd e hs,fun _=>rfl⟩
 have hs0:Ti b=0:=by simpa using hs
 have hlen:=Bou hs0
 have e4:Aj (Ac b) 4=((b.length-4:Nat):Int):=by rw[Ac,Bv (by omega) (by omega)];omega
 rw[if_neg hs,hs0]
 simp only[Aa]
 rw[if_neg (by rw[Ak];simp),if_neg (by rw[Ak];simp),e4,Cs (by omega) (by omega),Aa,show((b.length-4:Nat):Int).toNat=b.length-4 from rfl]
 have hpl:(b.take (b.length-4)).length=b.length-4:=by simp
 generalize b.take (b.length-4)=p at*
 have e8:Bi (8:Int) (Ac p)=((8*p.length:Nat):Int):=by rw[Ac,Ib (by omega) (by omega)];omega
 have hp:=Ccg p (by omega)
 have hv:=values_eq hp h1 h6 hn
 have hr:=Bth (N:=8*p.length) (p:=p) rfl (by omega) h1 h6 hn
 have hat:=Bcn (ch:=ch) (p:=p) (N:=8*p.length) (n*ch) 0 [] (by omega)
 rw[Bkl,if_neg (by rw[Aq,Ac];simp;omega),Fo,Cj (by simp;omega),Aa,Aa,Aa,List.nil_append,e8]
 simp only
 rw[if_neg (by rw[Ak];simp),hv,hr,Aa,Aa]
 generalize Vo ch p (8*p.length) (n*ch) 0 []=V at*
 obtain⟨v,at',e⟩:=V
 simp only at*
 by_cases he:e≠0
 ·rw[if_pos he,if_pos he]
  simp only
  rw[if_pos (by rw[Ak];simpa using he),Hh,Hi,if_pos (by rw[Ak];simpa using he)]
  exact⟨[],e,rfl,rfl,fun h=>absurd h he,fun _=>rfl⟩
 have he0:e=0:=by simpa using he
 have hvl:=hat.2.2 he0
 simp only[List.length_nil,Nat.zero_add]at hvl
 rw[if_neg he,if_neg he]
 simp only
 rw[if_neg (by rw[Ak];simp),Bv (by omega) (by omega),show((8*p.length:Nat):Int)-(at':Int)=((8*p.length-at':Nat):Int) by omega,Hh,Hi]
 by_cases h7:7<8*p.length-at'
 ·have hE:(if 7<8*p.length-at'∨Cg p at' (8*p.length-at')≠0 then(12:Int)else 0)=12:=if_pos (.inl h7)
  rw[if_pos (by rw[Dx];simp;omega),hE,if_pos (by decide)]
  exact⟨[],12,rfl,rfl,fun h=>absurd h (by decide),fun _=>rfl⟩
 rw[if_neg (by rw[Dx];simp;omega),Azz hp at' _ (by omega),if_neg (by omega),Aa]
 have hz:Ax (Ub p at' (8*p.length-at')) (0:UInt64)=decide (Cg p at' (8*p.length-at')≠0):=by
  rw[Ahz,Bool.eq_iff_iff]
  simp only[bne_iff_ne,ne_eq,←UInt64.toNat_inj,decide_eq_true_eq]
  rw[Abp p _ _ (by omega)];rfl
 simp only
 rw[hz]
 by_cases hv0:Cg p at' (8*p.length-at')≠0
 ·have hE:(if 7<8*p.length-at'∨Cg p at' (8*p.length-at')≠0 then(12:Int)else 0)=12:=if_pos (.inr hv0)
  rw[if_pos (by simp[hv0]),hE,if_pos (by decide)]
  exact⟨[],12,rfl,rfl,fun h=>absurd h (by decide),fun _=>rfl⟩
 have hm:v.length %ch=0:=by rw[hvl];exact Nat.mul_mod_left n ch
 obtain⟨l,e,g1,g2,g3,g4,g5⟩:=Azj (v:=v) hb ht h1 h6 (by omega) hm
 have hE:(if 7<8*p.length-at'∨Cg p at' (8*p.length-at')≠0 then(12:Int)else 0)=0:=if_neg (by omega)
 rw[if_neg (by rw[decide_eq_false hv0];decide),hE,if_neg (by decide),g1,g3,Aa,Aa,g2]
 by_cases hl:e≠0
 ·rw[if_pos hl]
  exact⟨[],e,rfl,rfl,fun h=>absurd h hl,fun _=>rfl⟩
 ·rw[if_neg hl]
  have hl0:e=0:=by simpa using hl
  exact⟨l,0,rfl,rfl,fun _=>⟨by rw[g4,hl0],by omega,by omega⟩,fun e=>absurd rfl e⟩
end Go.Pl
set_option linter.unusedVariables false
set_option linter.unusedSimpArgs false
namespace Go.Pl
open Go Go.Lv
def P64:Nat:=4823603603198064275
def Ag4(s:Nat):Nat:=(2*s %18446744073709551616)^^^ (s/9223372036854775808*P64)
theorem An8{s:Nat}(h:s<18446744073709551616):Ag4 s<18446744073709551616:=by
 have h1:s/9223372036854775808=0∨s/9223372036854775808=1:=by omega
 exact Nat.xor_lt_two_pow (n:=64) (Nat.mod_lt _ (by decide)) (by rcases h1 with e|e<;>rw[e]<;>decide)
theorem Bs2(x y:Nat):(x^^^y)/9223372036854775808=(x/9223372036854775808)^^^ (y/9223372036854775808):=by
 have:=Nat.shiftRight_xor_distrib (a:=x) (b:=y) (i:=63)
 simpa [Nat.shiftRight_eq_div_pow]using this
theorem Bts(x y:Nat):2*(x^^^y) %18446744073709551616=(2*x %18446744073709551616)^^^ (2*y %18446744073709551616):=by
 have h1:=Nat.shiftLeft_xor_distrib (a:=x) (b:=y) (i:=1)
 have h2:=Nat.xor_mod_two_pow (a:=2*x) (b:=2*y) (n:=64)
 have e:2*(x^^^y)=(2*x)^^^ (2*y):=by simpa [Nat.shiftLeft_eq,Nat.mul_comm]using h1
 rw[e];exact h2
theorem Ca1{a b:Nat}(ha:a=0∨a=1)(hb:b=0∨b=1)(p:Nat):(a^^^b)*p=(a*p)^^^ (b*p):=by
 rcases ha with rfl|rfl<;>rcases hb with rfl|rfl<;>simp
theorem Cho(a b c d:Nat):(a^^^b)^^^ (c^^^d)=(a^^^c)^^^ (b^^^d):=by
 rw[Nat.xor_assoc,Nat.xor_assoc,←Nat.xor_assoc b c d,Nat.xor_comm b c,Nat.xor_assoc c b d]
theorem Bp6{x y:Nat}(hx:x<18446744073709551616)(hy:y<18446744073709551616):Ag4 (x^^^y)=Ag4 x^^^Ag4 y:=by
 rw[Ag4,Ag4,Ag4,Bts,Bs2,Ca1 (by omega) (by omega),Cho]
def Mp:Nat→Nat→Nat
 |0,s=>s
 |k+1,s=>Mp k (Ag4 s)
theorem Ban:∀(k:Nat) {s:Nat},s<18446744073709551616→Mp k s<18446744073709551616
 |0,_,h=>h
 |k+1,_,h=>Ban k (An8 h)
theorem Bg7:∀(k:Nat) {x y:Nat},x<18446744073709551616→y<18446744073709551616→Mp k (x^^^y)=Mp k x^^^Mp k y
 |0,_,_,_,_=>rfl
 |k+1,x,y,hx,hy=>by rw[Mp,Bp6 hx hy,Bg7 k (An8 hx) (An8 hy)];rfl
theorem Bgq:∀(k h:Nat),2^k*h<18446744073709551616→Mp k h=2^k*h
 |0,h,_=>by simp[Mp]
 |k+1,h,hl=>by
  have hpos:0<2^k:=Nat.pow_pos (by omega)
  rw[Nat.pow_succ,Nat.mul_assoc]at hl
  have h2:2*h<18446744073709551616:=Nat.lt_of_le_of_lt (Nat.le_mul_of_pos_left _ hpos) hl
  have:Ag4 h=2*h:=by rw[Ag4,Nat.mod_eq_of_lt h2,show h/9223372036854775808=0 by omega];simp
  rw[Mp,this,Bgq k _ hl,Nat.pow_succ,Nat.mul_assoc]
def Asn(s c:Nat):Nat:=Mp 8 (s^^^ (c*72057594037927936))
theorem c56{c:Nat}(hc:c<256):c*72057594037927936<18446744073709551616:=by omega
theorem Azy{s c:Nat}(h:s<18446744073709551616)(hc:c<256):Asn s c<18446744073709551616:=Ban 8 (Nat.xor_lt_two_pow (n:=64) h (c56 hc))
theorem Cck(s:Nat):s=(s/72057594037927936*72057594037927936)^^^ (s %72057594037927936):=by
 have h1:s %72057594037927936<2^56:=Nat.mod_lt _ (by decide)
 have:=Nat.two_pow_add_eq_or_of_lt h1 (s/72057594037927936)
 have h2:2^56*(s/72057594037927936)|||s %72057594037927936=(2^56*(s/72057594037927936))^^^ (s %72057594037927936):=by
  apply Nat.eq_of_testBit_eq;intro i
  rw[Nat.testBit_or,Nat.testBit_xor]
  by_cases hi:i<56
  ·have:(2^56*(s/72057594037927936)).testBit i=false:=by rw[Nat.testBit_two_pow_mul];simp;omega
   rw[this];simp
  ·have:(s %72057594037927936).testBit i=false:=Nat.testBit_lt_two_pow (Nat.lt_of_lt_of_le h1 (Nat.pow_le_pow_right (by omega) (by omega)))
   rw[this];simp
 rw[Nat.mul_comm (s/72057594037927936)]
 show s=(2^56*(s/72057594037927936))^^^ _
 rw[←h2,←this]
 have:=Nat.div_add_mod s 72057594037927936
 show s=72057594037927936*_+_
 omega
theorem Bt6(a c:Nat):(a^^^c)*72057594037927936=(a*72057594037927936)^^^ (c*72057594037927936):=by
 have h1:=Nat.shiftLeft_xor_distrib (a:=a) (b:=c) (i:=56)
 simpa [Nat.shiftLeft_eq]using h1
theorem Bj9{s c:Nat}(h:s<18446744073709551616)(hc:c<256):Asn s c=(256*s %18446744073709551616)^^^Mp 8 (((s/72057594037927936)^^^c)*72057594037927936):=by
 have hs:s/72057594037927936<2^8:=by show _<256;omega
 have hx:(s/72057594037927936)^^^c<256:=Nat.xor_lt_two_pow (n:=8) hs (by simpa using hc)
 have hl:s %72057594037927936<72057594037927936:=Nat.mod_lt _ (by decide)
 rw[Asn]
 conv=>lhs;rw[Cck s]
 rw[Nat.xor_comm (s/72057594037927936*72057594037927936),Nat.xor_assoc,←Bt6,Bg7 8 (by omega) (c56 hx),Bgq 8 _ (by show 256*_<_;omega)]
 congr 1
 show 256*(s %72057594037927936)=_
 omega
def Bd5(s:Nat)(l:List UInt8):Nat:=l.foldl (fun s c=>Asn s c.toNat) s
theorem Bho{n:Nat}(h:n<18446744073709551616):(UInt64.ofNat n).toNat=n:=by rw[UInt64.toNat_ofNat'];exact Nat.mod_eq_of_lt h
theorem Cfb(s:UInt64)(bit:Nat)(hb:bit=0∨bit=1):Ace s (bit:Int)=some (UInt64.ofNat ((2*s.toNat %18446744073709551616)^^^ (((s.toNat/9223372036854775808)^^^bit)*P64))):=by
 have hs:=s.toNat_lt
 have ht:s.toNat/9223372036854775808=0∨s.toNat/9223372036854775808=1:=by omega
 have e1:(Bi s (2:UInt64)).toNat=2*s.toNat %18446744073709551616:=by
  rw[Aex,UInt64.toNat_mul];show s.toNat*2 %_=_;rw[Nat.mul_comm]
 have hlt:2*s.toNat %18446744073709551616<18446744073709551616:=Nat.mod_lt _ (by decide)
 have ey:Wn (Bi s (2:UInt64)) (4823603603198064275:UInt64)=UInt64.ofNat ((2*s.toNat %18446744073709551616)^^^P64):=by
  apply UInt64.toNat_inj.1
  rw[Bdj,UInt64.toNat_xor,e1,Bho (Nat.xor_lt_two_pow (n:=64) hlt (by decide))];rfl
 have en:Bi s (2:UInt64)=UInt64.ofNat (2*s.toNat %18446744073709551616):=by
  apply UInt64.toNat_inj.1
  rw[e1,Bho hlt]
 have eg:Lk s (9223372036854775808:UInt64)=decide (s.toNat/9223372036854775808=1):=by
  rw[Caz,decide_eq_decide]
  show 9223372036854775808≤s.toNat↔_
  omega
 have hp:∀b:Bool,Ul s b=some (if b=true then UInt64.ofNat ((2*s.toNat %18446744073709551616)^^^P64)else UInt64.ofNat (2*s.toNat %18446744073709551616)):=by
  intro b
  rw[Ul,Af6,ey,en];cases b<;>rfl
 rw[Ace,Afr,hp,hp,eg]
 rcases hb with rfl|rfl<;>rcases ht with h|h<;>rw[h]<;>simp[Ap]
theorem Bbq(c:UInt8):∀(j q:Nat) (s:UInt64),j≤8→j<q→Jw c q s ((2^j/2:Nat):Int)=some (UInt64.ofNat (Mp j (s.toNat^^^ (c.toNat %2^j*2^(64-j)))))
 |0,q+1,s,_,_=>by
  rw[Jw,Tx,if_neg (by rw[Aq];simp),Afb,Ae3]
  simp[Mp,Nat.mod_one]
 |j+1,q+1,s,hj,hq=>by
  have hc:=c.toNat_lt
  have hs:=s.toNat_lt
  have hj2:2^j≤2^7:=Nat.pow_le_pow_right (by omega) (by omega)
  have hpos:0<2^j:=Nat.pow_pos (by omega)
  have e1:2^(j+1)/2=2^j:=by rw[Nat.pow_succ];omega
  have e2:Ck ((2^j:Nat):Int) 2=((2^j/2:Nat):Int):=by
   generalize 2^j=K at*
   rw[Ag3,Int.tdiv_eq_ediv_of_nonneg (by omega),Ce (by omega) (by omega)];omega
  have e3:Gp (Ck (Ad c:Int) ((2^j:Nat):Int)) (2:Int)=((c.toNat/2^j %2:Nat):Int):=by
   have hX:=Nat.div_le_self c.toNat (2^j)
   rw[Aie,Ag3,←Int.ofNat_tdiv]
   generalize c.toNat/2^j=X at*
   rw[Ce (by omega) (by omega),Gp,Int.tmod_eq_emod_of_nonneg (by omega)];omega
  have hbit:c.toNat/2^j %2=0∨c.toNat/2^j %2=1:=by omega
  rw[Jw,Tx,e1,if_pos (by rw[Aq,decide_eq_true_eq];omega),Cv (by rw[Ak,bne_iff_ne];omega),Aa,e3,Cfb s _ hbit,Aa,e2,Bbq c j q _ (by omega) (by omega)]
  congr 2
  rw[Mp]
  congr 1
  have hx:c.toNat %2^(j+1)*2^(64-(j+1))=(c.toNat/2^j %2)*9223372036854775808+c.toNat %2^j*2^(63-j):=by
   have h63:(9223372036854775808:Nat)=2^j*2^(63-j):=by rw[←Nat.pow_add,show j+(63-j)=63 by omega]
   rw[Nat.mod_pow_succ,h63,show 64-(j+1)=63-j by omega,Nat.add_mul,Nat.add_comm,Nat.mul_assoc,Nat.mul_left_comm]
  have hr:c.toNat %2^j<2^j:=Nat.mod_lt _ hpos
  have hb63:c.toNat %2^j*2^(63-j)<9223372036854775808:=by
   have h63:(9223372036854775808:Nat)=2^j*2^(63-j):=by rw[←Nat.pow_add,show j+(63-j)=63 by omega]
   rw[h63];exact Nat.mul_lt_mul_of_pos_right hr (Nat.pow_pos (by omega))
  have h64:c.toNat %2^j*2^(64-j)=2*(c.toNat %2^j*2^(63-j)):=by
   rw[show 64-j=(63-j)+1 by omega,Nat.pow_succ,←Nat.mul_assoc,Nat.mul_comm]
  rw[hx,h64]
  generalize c.toNat %2^j*2^(63-j)=R at*
  generalize c.toNat/2^j %2=b at*
  have ht:s.toNat/9223372036854775808=0∨s.toNat/9223372036854775808=1:=by omega
  have hp:((s.toNat/9223372036854775808^^^b)*P64)<18446744073709551616:=by
   rcases ht with h|h<;>rcases hbit with h2|h2<;>rw[h,h2]<;>decide
  rw[Bho (Nat.xor_lt_two_pow (n:=64) (Nat.mod_lt _ (by decide)) hp),Ag4,Bts,Bs2,show(b*9223372036854775808+R)/9223372036854775808=b by omega,show 2*(b*9223372036854775808+R) %18446744073709551616=2*R by omega,Nat.xor_assoc,Nat.xor_assoc,Nat.xor_comm (2*R)]
theorem Cfm(c:UInt8)(s:UInt64):All s c=some (UInt64.ofNat (Asn s.toNat c.toNat)):=by
 have h:=Bbq c 8 FUEL s (Nat.le_refl _) (by have:=Am;omega)
 have hc:=c.toNat_lt
 rw[Nat.mod_eq_of_lt (show c.toNat<2^8 by simpa using hc)]at h
 exact h
theorem Avv(b:List UInt8)(hb:b.length<4611686018427387904):∀(j i q:Nat) (s:UInt64),i+j=b.length→j<q→Hp b q s (i:Int)=some (UInt64.ofNat (Bd5 s.toNat (b.drop i)))
 |0,i,q+1,s,hi,_=>by
  rw[Hp,Qd,if_neg (by rw[Af,Ac];simp;omega),show i=b.length by omega,List.drop_length]
  simp[Aa0,Aah,Bd5]
 |j+1,i,q+1,s,hi,hq=>by
  have hlt:i<b.length:=by omega
  have hc:=b[i].toNat_lt
  rw[Hp,Qd,if_pos (by rw[Af,Ac];simp;omega),Cc hlt,Aa,Cfm,Aa,Ah (by omega) (by omega)]
  have h:=Avv b hb j (i+1) q (UInt64.ofNat (Asn s.toNat b[i].toNat)) (by omega) (by omega)
  rw[show((i:Int)+1)=((i+1:Nat):Int) by omega,h,drop_cons hlt,Bho (Azy s.toNat_lt (by simpa using hc))]
  rfl
def Aax(b:List UInt8):UInt64:=UInt64.ofNat (Bd5 0 b)
theorem Blx(b:List UInt8)(hb:b.length≤100000):Wh 0 b=some (Aax b):=
 Avv b (by omega) b.length 0 FUEL 0 (by omega) (by have:=Am;omega)
theorem Bq6(c:UInt64):Wn (Dm c (GI.toZ (1:UInt64)).toNat) (Bi (4823603603198064275:UInt64) (Bu c (GI.toZ (63:UInt64)).toNat))=UInt64.ofNat (Ag4 c.toNat):=by
 have hc:=c.toNat_lt
 apply UInt64.toNat_inj.1
 have h1:(Dm c (GI.toZ (1:UInt64)).toNat).toNat=2*c.toNat %18446744073709551616:=by
  rw[show(GI.toZ (1:UInt64)).toNat=1 from rfl,Anf,Nat.mul_comm]
 have h2:(Bi (4823603603198064275:UInt64) (Bu c (GI.toZ (63:UInt64)).toNat)).toNat=c.toNat/9223372036854775808*P64:=by
  rw[show(GI.toZ (63:UInt64)).toNat=63 from rfl,Aex,UInt64.toNat_mul,Agc]
  show 4823603603198064275*(c.toNat/9223372036854775808) %18446744073709551616=_
  have h1:c.toNat/9223372036854775808=0∨c.toNat/9223372036854775808=1:=by omega
  rcases h1 with e|e<;>rw[e]<;>decide
 rw[Bdj,UInt64.toNat_xor,h1,h2,Bho (An8 hc)];rfl
theorem Bbp(bk16:Int→List UInt64→Option (UInt64×Int))(s:UInt64)(b:List UInt8)(x:Int)(t:List UInt64):∀(j i q:Nat) (c:UInt64),i+j=8→j<q→
  Ot bk16 s b x t q c (i:Int)=Aaq bk16 s b x (UInt64.ofNat (Mp j c.toNat)) t
 |0,i,q+1,c,hi,_=>by
  obtain rfl:i=8:=by omega
  rw[Ot,Abn,if_neg (by rw[Af];simp),Mp,UInt64.ofNat_toNat]
 |j+1,i,q+1,c,hi,hq=>by
  rw[Ot,Abn,if_pos (by rw[Af];simp;omega),Bq6,Ah (by omega) (by omega),show((i:Int)+1)=((i+1:Nat):Int) by omega,Bbp bk16 s b x t j (i+1) q _ (by omega) (by omega),Bho (An8 c.toNat_lt)];rfl
def Akz(n:Nat):List UInt64:=(List.range n).map fun i=>UInt64.ofNat (Mp 8 (i*72057594037927936))
theorem Bgl(s:UInt64)(b:List UInt8):∀(j i q:Nat),i+j=256→j<q→Ly s b q (i:Int) (Akz i++List.replicate j 0)=Aau s b (Akz 256)
 |0,i,q+1,hi,_=>by
  obtain rfl:i=256:=by omega
  rw[Ly,Aa5,if_neg (by rw[Af];simp)];simp
 |j+1,i,q+1,hi,hq=>by
  have hlen:(Akz i++List.replicate (j+1) 0).length=i+(j+1):=by simp[Akz]
  rw[Ly,Aa5,if_pos (by rw[Af];simp;omega),Ajg]
  have h:=Bbp (Ly s b q) s b (i:Int) (Akz i++List.replicate (j+1) 0) 8 0 FUEL (Dm (Ad (i:Int):UInt64) (GI.toZ (56:UInt64)).toNat) (by omega) (by have:=Am;omega)
  rw[show((0:Int))=((0:Nat):Int)from rfl,h,Aaq,Ai9,Cc (by rw[hlen];omega),Aa,Vy _ (by rw[hlen];omega),Aa,Ain,Ath,Ah (by omega) (by omega)]
  have e:(Dm (Ad (i:Int):UInt64) (GI.toZ (56:UInt64)).toNat).toNat=i*72057594037927936:=by
   rw[Anf,Zm,Bho (by omega)]
   show i*72057594037927936 %18446744073709551616=_
   omega
  rw[e,List.replicate_succ,Aut (by simp[Akz])]
  have h2:=Bgl s b j (i+1) q (by omega) (by omega)
  have h3:Akz (i+1)=Akz i++[UInt64.ofNat (Mp 8 (i*72057594037927936))]:=by simp[Akz,List.range_succ]
  rw[h3]at h2
  rw[show((i:Int)+1)=((i+1:Nat):Int) by omega,←h2]
  simp
theorem Bue{i:Nat}(h:i<256):getI (Akz 256) (i:Int)=some (UInt64.ofNat (Mp 8 (i*72057594037927936))):=by
 rw[Cc (by simpa [Akz]using h)];simp[Akz]
theorem Bly(s:UInt64)(c:UInt8):getI (Akz 256) (GI.toZ (Wn (Ad (Bu s (GI.toZ (56:UInt64)).toNat):UInt8) c))=some (UInt64.ofNat (Mp 8 (((s.toNat/72057594037927936)^^^c.toNat)*72057594037927936))):=by
 have hs:=s.toNat_lt
 have e:GI.toZ (Wn (Ad (Bu s (GI.toZ (56:UInt64)).toNat):UInt8) c)=(((s.toNat/72057594037927936)^^^c.toNat:Nat):Int):=by
  have e2:((Ad (Bu s (GI.toZ (56:UInt64)).toNat):UInt8)).toNat=s.toNat/72057594037927936:=by
   rw[Aoi,UInt8.toNat_ofNat',Agc]
   show s.toNat/72057594037927936 %256=_
   omega
  rw[Yh,Bsl,UInt8.toNat_xor,e2]
 rw[e,Bue]
 exact Nat.xor_lt_two_pow (n:=8) (by show _<256;omega) (by simpa using c.toNat_lt)
theorem Bkv(s:UInt64)(c:UInt8):Wn (Dm s (GI.toZ (8:UInt64)).toNat) (UInt64.ofNat (Mp 8 (((s.toNat/72057594037927936)^^^c.toNat)*72057594037927936)))=UInt64.ofNat (Asn s.toNat c.toNat):=by
 have hs:=s.toNat_lt
 have hc:c.toNat<256:=by simpa using c.toNat_lt
 apply UInt64.toNat_inj.1
 have hlt:Mp 8 (((s.toNat/72057594037927936)^^^c.toNat)*72057594037927936)<18446744073709551616:=Ban 8 (c56 (Nat.xor_lt_two_pow (n:=8) (by show _<256;omega) (by simpa using c.toNat_lt)))
 have e:(GI.toZ (8:UInt64)).toNat=8:=rfl
 rw[e,Bdj,UInt64.toNat_xor,Anf,Bho hlt,Bho (Azy hs hc),Bj9 hs hc,Nat.mul_comm s.toNat]
theorem Bbs(b:List UInt8)(s0:UInt64)(hb:b.length<4611686018427387904):∀(j i q:Nat) (s:UInt64),i+j=b.length→j<q→Pm b s0 (Akz 256) q s (i:Int)=some (UInt64.ofNat (Bd5 s.toNat (b.drop i)),0)
 |0,i,q+1,s,hi,_=>by
  rw[Pm,Abt,if_neg (by rw[Af,Ac];simp;omega),show i=b.length by omega,List.drop_length]
  simp[Aiq,Ai4,Ait,Auc,Bd5]
 |j+1,i,q+1,s,hi,hq=>by
  have hlt:i<b.length:=by omega
  have hc:=b[i].toNat_lt
  rw[Pm,Abt,if_pos (by rw[Af,Ac];simp;omega),Cc hlt,Aa,Bly,Aa,Aa,Bkv,Ah (by omega) (by omega)]
  have h:=Bbs b s0 hb j (i+1) q (UInt64.ofNat (Asn s.toNat b[i].toNat)) (by omega) (by omega)
  rw[show((i:Int)+1)=((i+1:Nat):Int) by omega,h,drop_cons hlt,Bho (Azy s.toNat_lt (by simpa using hc))]
  rfl
theorem Bom(b:List UInt8)(hb:b.length≤100000):Anv b=some (Aax b,0):=by
 have h:=Bgl 0 b 256 0 FUEL (by omega) (by have:=Am;omega)
 have h2:=Bbs b 0 (by omega) b.length 0 FUEL 0 (by omega) (by have:=Am;omega)
 have hn:Aoe 0 b=some (Aax b,0):=by
  rw[Aoe,Amj,if_neg (by rw[Aq,Ac];simp;omega),Aj0]
  refine Eq.trans h ?_
  rw[Aau,Aj5,Ai5]
  exact h2
 rw[Anv,hn,Aa]
theorem Bt0(p:List UInt8)(hp:p.length≤64):Ab4 p=some (leB (Aax p).toNat 8,0):=by
 rw[Ab4,Azq,if_neg (by rw[Aq,Ac];simp;omega),Bom p (by omega),Aa,Aa]
 simp only
 have h:=Bn7 (Aax p) 8 (by omega) (by omega) (by simpa using(Aax p).toNat_lt)
 rw[if_neg (by rw[Ak];simp)]
 exact congrArg (fun o=>Option.bind o fun x:List UInt8×Int=>some (x.1,x.2)) h
theorem Biy(p:List UInt8)(hp:p.length≤64):Nb p=some (leB (Aax p).toNat 8):=by
 have h:=Bgb (Aax p) 8 (by omega)
 rw[Nb,Alc,Blx p (by omega),Aa,Aa]
 exact congrArg (fun o=>Option.bind o fun l=>some l) h
def s8(n:Nat):Int32:=Int32.ofInt (if n<128 then(n:Int)else(n:Int)-256)
def Ak5(d:UInt64)(n:Nat):List Int32:=(List.range n).map fun i=>s8 (d.toNat/256^i %256)
theorem Anl(d:UInt64)(n:Nat):(Ak5 d n).length=n:=by simp[Ak5]
theorem Bf0(d:UInt64)(n:Nat):Ak5 d (n+1)=Ak5 d n++[s8 (d.toNat/256^n %256)]:=by simp[Ak5,List.range_succ]
theorem bm8(z:Nat):(z:Int).bmod Int8.size=if z %256<128 then((z %256:Nat):Int)else((z %256:Nat):Int)-256:=by
 rw[show Int8.size=256 from rfl,Int.bmod_def]
 split<;>split<;>omega
theorem Bsc(d:UInt64):∀(j i q:Nat),i+j=8→j<q→Adm d q (i:Int) (Ak5 d i++List.replicate (16-i) 0)=some (Ak5 d 8++List.replicate 8 0)
 |0,i,q+1,hi,_=>by
  obtain rfl:i=8:=by omega
  rw[Adm,Aoc,if_neg (by rw[Af];simp)];rfl
 |j+1,i,q+1,hi,hq=>by
  have hlen:(Ak5 d i++List.replicate (16-i) 0).length=16:=by simp[Anl];omega
  have ih:=Bsc d j (i+1) q (by omega) (by omega)
  have e8:Bi (8:Int) (i:Int)=((8*i:Nat):Int):=by rw[Ib (by omega) (by omega)];omega
  have ev:(Ad (Ad (Bu d (GI.toZ (((8*i:Nat):Int))).toNat):Int8):Int32)=s8 (d.toNat/256^i %256):=by
   have e1:(Bu d (GI.toZ (((8*i:Nat):Int))).toNat).toNat=d.toNat/256^i:=by
    rw[show(GI.toZ (((8*i:Nat):Int))).toNat=8*i from rfl,Agc,Nat.pow_mul]
   show Int32.ofInt (Int8.ofInt ((Bu d (GI.toZ (((8*i:Nat):Int))).toNat).toNat:Int)).toInt=_
   rw[e1,s8,Int8.toInt_ofInt,bm8]
  rw[Adm,Aoc,if_pos (by rw[Af];simp;omega),e8,Cv (by rw[Dx];simp;omega),Aa,ev,Cc (by omega),Aa,Vy _ (by omega),Aa,Ah (by omega) (by omega),show 16-i=(15-i)+1 by omega,List.replicate_succ,Aut (Anl d i)]
  rw[Bf0,show 16-(i+1)=15-i by omega,List.append_assoc]at ih
  exact ih
theorem Bze(d:UInt64):∀(j i q:Nat) (e:UInt64),i+j=8→j<q→e.toNat=d.toNat/256^i→Jh q e (i:Int) (Ak5 d i++List.replicate (16-i) 0)=some (Ak5 d 8++List.replicate 8 0)
 |0,i,q+1,e,hi,_,he=>by
  obtain rfl:i=8:=by omega
  rw[Jh,Yd,if_neg (by rw[Af];simp)];rfl
 |j+1,i,q+1,e,hi,hq,he=>by
  have hlen:(Ak5 d i++List.replicate (16-i) 0).length=16:=by simp[Anl];omega
  have hq2:(Ck e (256:UInt64)).toNat=d.toNat/256^(i+1):=by
   rw[Ay3,UInt64.toNat_div,he,Nat.pow_succ,←Nat.div_div_eq_div_mul];rfl
  have ih:=Bze d j (i+1) q (Ck e (256:UInt64)) (by omega) (by omega) hq2
  have ev:(Ad (Zy e (256:UInt64)):Int32)=Int32.ofInt ((d.toNat/256^i %256:Nat):Int):=by
   show Int32.ofInt ((Zy e (256:UInt64)).toNat:Int)=_
   rw[Bo2,UInt64.toNat_mod,he];rfl
  have hz:d.toNat/256^i %256<256:=Nat.mod_lt _ (by omega)
  have et:(Int32.ofInt ((d.toNat/256^i %256:Nat):Int)).toInt=((d.toNat/256^i %256:Nat):Int):=by
   rw[Int32.toInt_ofInt,Int.bmod_eq_of_le (by show -(4294967296/2:Int)≤_;omega) (by show _<(4294967296+1)/2;omega)]
  have hp8:∀x:Int32,x=s8 (d.toNat/256^i %256)→Yb (Jh q) e (i:Int) (Ak5 d i++List.replicate (16-i) 0) x=some (Ak5 d 8++List.replicate 8 0):=by
   intro x hx
   rw[Yb,Ajl,hx,Cc (by omega),Aa,Vy _ (by omega),Aa,Ah (by omega) (by omega),show 16-i=(15-i)+1 by omega,List.replicate_succ,Aut (Anl d i)]
   rw[Bf0,show 16-(i+1)=15-i by omega,List.append_assoc]at ih
   exact ih
  rw[Jh,Yd,if_pos (by rw[Af];simp;omega),ev,Bp1,et,show(127:Int32).toInt=127 from rfl]
  by_cases h:d.toNat/256^i %256<128
  ·rw[if_neg (by simp only[decide_eq_true_eq];omega)]
   exact hp8 _ (by rw[s8,if_pos h])
  ·rw[if_pos (by simp only[decide_eq_true_eq];omega)]
   refine hp8 _ ?_
   rw[s8,if_neg h,Bg8,Int32.ofInt_sub];rfl
def tapsOf(p:List UInt8):List Int32:=Ak5 (Aax p) 8++List.replicate 8 0
theorem Ui(p:List UInt8):(tapsOf p).length=16:=by simp[tapsOf,Anl]
theorem Bjn(p:List UInt8)(hp:p.length≤64):Pf p=some (tapsOf p,0):=by
 have h:=Bsc (Aax p) 8 0 FUEL (by omega) (by have:=Am;omega)
 have h2:Bj1 (Aax p)=some (tapsOf p):=h
 rw[Pf,if_neg (by rw[Aq,Ac];simp;omega),Bom p (by omega),Aa]
 simp only
 rw[if_neg (by rw[Ak];simp),h2,Aa]
theorem At3(p:List UInt8)(hp:p.length≤64):Sp p=some (tapsOf p,0):=by
 have h:=Bze (Aax p) 8 0 FUEL (Aax p) (by omega) (by have:=Am;omega) (by simp)
 have h2:Aqe (Aax p)=some (tapsOf p):=h
 rw[Sp,if_neg (by rw[Aq,Ac];simp;omega),An0,Alb,if_neg (by rw[Aq,Ac];simp;omega),Blx p (by omega),Aa,Aa,Aa]
 simp only
 rw[h2,Aa]
end Go.Pl
set_option linter.unusedVariables false
set_option linter.unusedSimpArgs false
namespace Go.Pl
open Go Go.Lv
def u8(z:Int):UInt8:=UInt8.ofNat (z %256).toNat
theorem Blj(z:Int):u8 (z %256)=u8 z:=by rw[u8,u8];congr 2;omega
def wB(bits:Int):Nat:=if bits=8 then 1 else if bits=16 then 2 else 3
theorem Bxy{bits:Int}(h:Ch bits):Ck bits 8=(wB bits:Int):=by obtain rfl|rfl|rfl:=h<;>rfl
theorem Bh1(bits:Int):1≤wB bits∧wB bits≤3:=by
 unfold wB;split; · omega
 ·split<;>omega
def Adh(bits:Int)(x:Int):List UInt8:=if bits=8 then [u8 (x+128)]else if bits=16 then [u8 x,u8 (x/256)]else [u8 x,u8 (x/256),u8 (x/65536)]
theorem Bmy(bits x:Int):(Adh bits x).length≤3:=by
 unfold Adh;split; · simp
 ·split<;>simp
theorem Bxe(x:Int32)(k:Nat)(hk:k≤32):(Ad (Bu x k):UInt8)=u8 (x.toInt.fdiv (2^k)):=by
 have h:=Abz x
 have e:Bu x k=Int32.ofInt (x.toInt.fdiv (2^k)):=by
  show Int32.ofInt (x.toInt.fdiv (2^min k 32))=_
  rw[Nat.min_eq_left hk]
 have hb: -2147483648≤x.toInt.fdiv (2^k)∧x.toInt.fdiv (2^k)<2147483648:=by
  have hpos:(0:Int)<2^k:=Int.pow_pos (by omega)
  rw[Int.fdiv_eq_ediv_of_nonneg _ (by omega)]
  constructor
  ·refine(Int.le_ediv_iff_mul_le hpos).2 ?_
   have:(1:Int)≤2^k:=by omega
   have h2: -2147483648*(2^k:Int)≤ -2147483648*1:=Int.mul_le_mul_of_nonpos_left (by omega) this
   omega
  ·refine Int.ediv_lt_of_lt_mul hpos ?_
   have:(1:Int)≤2^k:=by omega
   have h2:(2147483648:Int)*1≤2147483648*2^k:=Int.mul_le_mul_of_nonneg_left this (by omega)
   omega
 show UInt8.ofNat ((Bu x k).toInt %256).toNat=_
 rw[e,Int32.toInt_ofInt,Int.bmod_eq_of_le (by show -(4294967296/2:Int)≤_;omega) (by show _<(4294967296+1)/2;omega)];rfl
section
variable (bk:Int→List UInt8→Option (List UInt8×Int)) (l:List Int32)
theorem Bcl{bits:Int}(h:Ch bits)(c:Int32)(x:Int)(i q:Nat)(acc:List UInt8)(hi:i<wB bits)(ha:acc.length≤100000):
  Hv bk bits l c x (q+1) (i:Int) acc=Hv bk bits l c x q ((i+1:Nat):Int) (acc++[u8 (c.toInt.fdiv (2^(8*i)))]):=by
 have hw:=Bh1 bits
 have e8:Bi (8:Int) (i:Int)=((8*i:Nat):Int):=by rw[Ib (by omega) (by omega)];omega
 rw[Hv,Xn,Bxy h,if_pos (by rw[Af];simp;omega),e8,Cv (by rw[Dx];simp;omega),Aa,show(GI.toZ (((8*i:Nat):Int))).toNat=8*i from rfl,Bxe _ _ (by omega),Cj (by simp;omega),Aa,Ah (by omega) (by omega)];rfl
theorem Bpk{bits:Int}(h:Ch bits)(c:Int32)(x:Int)(q:Nat)(acc:List UInt8):Hv bk bits l c x (q+1) ((wB bits:Nat):Int) acc=bk (Ae x 1) acc:=by
 rw[Hv,Xn,Bxy h,if_neg (by rw[Af];simp),Ags,Aqp]
theorem Cfw{bits:Int}(h:Ch bits)(c:Int32)(x:Int)(acc:List UInt8)(ha:acc.length≤90000)(hr: -(hB bits)≤c.toInt∧c.toInt<hB bits):
  Kh bk bits l x acc (if bits=8 then Ae c (128:Int32)else c)=bk (Ae x 1) (acc++Adh bits c.toInt):=by
 have e:FUEL=(FUEL-4)+1+1+1+1:=by have:=Am;omega
 have hc:=Abz c
 rw[Kh,Agj,Agu,e]
 have g0:=fun(c:Int32) q acc ha=>Bcl bk l h c x 0 q acc (by have:=Bh1 bits;omega) ha
 obtain rfl|rfl|rfl:=h
 ·have hh:hB 8=128:=rfl
  rw[hh]at hr
  have e1:(Ae c (128:Int32)).toInt=c.toInt+128:=by
   show(Int32.ofInt (c.toInt+(128:Int32).toInt)).toInt=_
   rw[show(128:Int32).toInt=128 from rfl,Int32.toInt_ofInt,Int.bmod_eq_of_le (by show -(4294967296/2:Int)≤_;omega) (by show _<(4294967296+1)/2;omega)]
  have g1:=Bpk bk l (bits:=8) (.inl rfl) (Ae c (128:Int32)) x (FUEL-4+1+1)
  rw[if_pos rfl,show(0:Int)=((0:Nat):Int)from rfl,g0 _ _ _ (by omega)]
  refine Eq.trans (g1 _) ?_
  rw[e1,Adh,if_pos rfl]
  show bk _ (acc++[u8 ((c.toInt+128).fdiv 1)])=_
  rw[Int.fdiv_one]
 ·have g1:=fun q acc ha=>Bcl bk l (bits:=16) (.inr (.inl rfl)) c x 1 q acc (by decide) ha
  have g2:=Bpk bk l (bits:=16) (.inr (.inl rfl)) c x (FUEL-4+1)
  rw[if_neg (by decide),show(0:Int)=((0:Nat):Int)from rfl,g0 _ _ _ (by omega),g1 _ _ (by simp;omega)]
  refine Eq.trans (g2 _) ?_
  rw[Adh,if_neg (by decide),if_pos rfl,List.append_assoc]
  show bk _ (acc++[u8 (c.toInt.fdiv 1),u8 (c.toInt.fdiv 256)])=_
  rw[Int.fdiv_one,Int.fdiv_eq_ediv_of_nonneg _ (by omega)]
 ·have g1:=fun q acc ha=>Bcl bk l (bits:=24) (.inr (.inr rfl)) c x 1 q acc (by decide) ha
  have g2:=fun q acc ha=>Bcl bk l (bits:=24) (.inr (.inr rfl)) c x 2 q acc (by decide) ha
  have g3:=Bpk bk l (bits:=24) (.inr (.inr rfl)) c x (FUEL-4)
  rw[if_neg (by decide),show(0:Int)=((0:Nat):Int)from rfl,g0 _ _ _ (by omega),g1 _ _ (by simp;omega),g2 _ _ (by simp;omega)]
  refine Eq.trans (g3 _) ?_
  rw[Adh,if_neg (by decide),if_neg (by decide),List.append_assoc,List.append_assoc]
  show bk _ (acc++[u8 (c.toInt.fdiv 1),u8 (c.toInt.fdiv 256),u8 (c.toInt.fdiv 65536)])=_
  rw[Int.fdiv_one,Int.fdiv_eq_ediv_of_nonneg _ (by omega),Int.fdiv_eq_ediv_of_nonneg _ (by omega)]
end
def bytesB(bits:Int)(l:List Int32):List UInt8:=l.flatMap fun x=>Adh bits x.toInt
theorem Adv(bits:Int):∀l:List Int32,(bytesB bits l).length≤3*l.length
 |[]=>by simp[bytesB]
 |x::l=>by
  have h1:=Adv bits l
  have h2:=Bmy bits x.toInt
  simp only[bytesB,List.flatMap_cons,List.length_append,List.length_cons]at*
  omega
def inR(bits:Int)(l:List Int32):Prop:=∀x∈l, -(hB bits)≤x.toInt∧x.toInt<hB bits
theorem Brh{bits:Int}(h:Ch bits)(l:List Int32)(hl:l.length≤4000)(hr:inR bits l):∀(j i q:Nat),i+j=l.length→j<q→Fh bits l q (i:Int) (bytesB bits (l.take i))=some (bytesB bits l,0)
 |0,i,q+1,hi,_=>by
  rw[Fh,Xo,if_neg (by rw[Af,Ac];simp;omega),List.take_of_length_le (by omega)];rfl
 |j+1,i,q+1,hi,hq=>by
  have hlt:i<l.length:=by omega
  have ih:=Brh h l hl hr j (i+1) q (by omega) (by omega)
  have hlen:=Adv bits (l.take i)
  have hx:=hr l[i] (List.getElem_mem _)
  have h1:=Cfw (Fh bits l q) l h l[i] (i:Int) (bytesB bits (l.take i)) (by rw[List.length_take]at hlen;omega) hx
  rw[Fh,Xo,if_pos (by rw[Af,Ac];simp;omega),Cc hlt,Aa]
  have e:(if(geq bits (8:Int))=true then Kh (Fh bits l q) bits l (i:Int) (bytesB bits (l.take i)) (Ae l[i] (128:Int32))else Kh (Fh bits l q) bits l (i:Int) (bytesB bits (l.take i)) l[i])=Kh (Fh bits l q) bits l (i:Int) (bytesB bits (l.take i)) (if bits=8 then Ae l[i] (128:Int32)else l[i]):=by
   by_cases h8:bits=8
   ·rw[if_pos (by rw[Ap];simpa using h8),if_pos h8]
   ·rw[if_neg (by rw[Ap];simpa using h8),if_neg h8]
  rw[e,h1,Ah (by omega) (by omega)]
  rw[Ah9 hlt]at ih
  have e2:bytesB bits (l.take i++[l[i]])=bytesB bits (l.take i)++Adh bits l[i].toInt:=by unfold bytesB;rw[List.flatMap_append,List.flatMap_singleton]
  rw[e2]at ih
  exact ih
theorem Azu{bits:Int}(h:Ch bits){l:List Int32}(hl:l.length≤4000)(hc:cadenzaref18_Check bits l=some 0):inR bits l:=by
 have hh:=Awt bits
 have key:∀(j i q:Nat),i+j=l.length→j<q→Bd l (hB bits) q (i:Int)=some 0→∀k,i≤k→(hk:k<l.length)→ -(hB bits)≤l[k].toInt∧l[k].toInt<hB bits:=by
  intro j
  induction j with
  |zero=>intro i q hi hq _ k h1 h2;omega
  |succ j ih=>
   intro i q hi hq hs k h1 h2
   obtain⟨q,rfl⟩:∃k,q=k+1:=⟨q-1,by omega⟩
   rw[Bd,El,if_pos (by rw[Af,Ac];simp;omega),Cc (by omega),Aa,Aa,Eu,Brb,Ce (by omega) (by omega),Ah (by omega) (by omega),Af,Dx]at hs
   by_cases g1:l[i].toInt<0-hB bits
   ·rw[if_pos (by simpa using g1)]at hs;simp at hs
   ·rw[if_neg (by simpa using g1)]at hs
    by_cases g2:hB bits≤l[i].toInt
    ·rw[if_pos (by simpa using g2)]at hs;simp at hs
    ·rw[if_neg (by simpa using g2)]at hs
     by_cases hk:k=i
     ·subst hk;omega
     ·exact ih (i+1) q (by omega) (by omega) hs k (by omega) h2
 rw[cadenzaref18_Check,Ii,Bb0 h,Aa,if_neg (by rw[Ap];simp;omega),if_neg (by rw[Aq,Ac];simp;omega)]at hc
 have:=key l.length 0 FUEL (by omega) (by have:=Am;omega) hc
 intro x hx
 obtain⟨k,hk,rfl⟩:=List.getElem_of_mem hx
 exact this k (by omega) hk
theorem Awk{bits:Int}(h:Ch bits){l:List Int32}(hl:l.length≤4000)(hc:cadenzaref18_Check bits l=some 0):width_Bytes bits l=some (bytesB bits l,0):=by
 have h1:=Brh h l hl (Azu h hl hc) l.length 0 FUEL (by omega) (by have:=Am;omega)
 rw[width_Bytes,Ajs,Bew h l hl,hc,Aa,if_neg (by rw[Ak];simp)]
 exact h1
theorem Ca2{bits:Int}(h:Ch bits)(x:Int32)(hr: -(hB bits)≤x.toInt∧x.toInt<hB bits):Aef bits x=some (Adh bits x.toInt):=by
 have hx:=Abz x
 have gu:∀z:Int,(Ad z:UInt8)=u8 z:=fun z=>rfl
 have hq:∀n:Int,0≤n→n≤20000000→Ck n (256:Int)=n/256∧Ck n (65536:Int)=n/65536:=by
  intro n h1 h2
  constructor<;>(rw[Ag3,Int.tdiv_eq_ediv_of_nonneg h1,Ce (by omega) (by omega)])
 have hm:∀n:Int,0≤n→Gp n (256:Int)=n %256:=fun n h1=>by rw[Gp,Int.tmod_eq_emod_of_nonneg h1]
 rw[Aef,Ahd,Eu]
 obtain rfl|rfl|rfl:=h
 ·rw[if_pos (by rw[Ap];rfl),Ah (by omega) (by omega),gu,Adh,if_pos rfl]
 ·have hh:hB 16=32768:=rfl
  rw[hh]at hr
  have hp:∀n:Int,0≤n→n≤70000→u8 n=u8 x.toInt→u8 (n/256)=u8 (x.toInt/256)→Kx 16 n=some (Adh 16 x.toInt):=by
   intro n h1 h2 h3 h4
   rw[Kx,Vt,if_neg (by rw[Ap];decide),hm n h1,(hq n h1 (by omega)).1,hm _ (by omega),gu,gu,Blj,Blj,h3,h4,Adh,if_neg (by decide),if_pos rfl]
  rw[if_neg (by rw[Ap];decide)]
  by_cases hn:x.toInt<0
  ·rw[if_pos (by rw[Af];simpa using hn),Bb0 (.inr (.inl rfl)),Aa,hh,Ib (by omega) (by omega),Ah (by omega) (by omega)]
   refine hp _ (by omega) (by omega) ?_ ?_
   ·rw[u8,u8];congr 2;omega
   ·rw[u8,u8];congr 2;omega
  ·rw[if_neg (by rw[Af];simpa using hn)]
   exact hp _ (by omega) (by omega) rfl rfl
 ·have hh:hB 24=8388608:=rfl
  rw[hh]at hr
  have hp:∀n:Int,0≤n→n≤16777215→u8 n=u8 x.toInt→u8 (n/256)=u8 (x.toInt/256)→u8 (n/65536)=u8 (x.toInt/65536)→Kx 24 n=some (Adh 24 x.toInt):=by
   intro n h1 h2 h3 h4 h5
   rw[Kx,Vt,if_pos (by rw[Ap];rfl),hm n h1,(hq n h1 (by omega)).1,(hq n h1 (by omega)).2,hm _ (by omega),gu,gu,gu,Blj,Blj,h3,h4,h5,Cj (by simp),Aa,Adh,if_neg (by decide),if_neg (by decide)];rfl
  rw[if_neg (by rw[Ap];decide)]
  by_cases hn:x.toInt<0
  ·rw[if_pos (by rw[Af];simpa using hn),Bb0 (.inr (.inr rfl)),Aa,hh,Ib (by omega) (by omega),Ah (by omega) (by omega)]
   refine hp _ (by omega) (by omega) ?_ ?_ ?_
   ·rw[u8,u8];congr 2;omega
   ·rw[u8,u8];congr 2;omega
   ·rw[u8,u8];congr 2;omega
  ·rw[if_neg (by rw[Af];simpa using hn)]
   exact hp _ (by omega) (by omega) rfl rfl rfl
theorem Bsm{bits:Int}(h:Ch bits)(l:List Int32)(hl:l.length≤4000)(hr:inR bits l):∀(j i q:Nat),i+j=l.length→j<q→It bits l q (i:Int) (bytesB bits (l.take i))=some (bytesB bits l,0)
 |0,i,q+1,hi,_=>by
  rw[It,Rl,if_neg (by rw[Af,Ac];simp;omega),List.take_of_length_le (by omega)];rfl
 |j+1,i,q+1,hi,hq=>by
  have hlt:i<l.length:=by omega
  have ih:=Bsm h l hl hr j (i+1) q (by omega) (by omega)
  have hlen:=Adv bits (l.take i)
  have hol:=Bmy bits l[i].toInt
  rw[List.length_take]at hlen
  have e2:bytesB bits (l.take i++[l[i]])=bytesB bits (l.take i)++Adh bits l[i].toInt:=by unfold bytesB;rw[List.flatMap_append,List.flatMap_singleton]
  rw[Ah9 hlt,e2]at ih
  rw[It,Rl,if_pos (by rw[Af,Ac];simp;omega),Cc hlt,Aa,Ca2 h _ (hr l[i] (List.getElem_mem _)),Aa,Cj (by omega),Aa,Ah (by omega) (by omega)]
  exact ih
theorem An5{bits:Int}(h:Ch bits){l:List Int32}(hl:l.length≤4000)(hc:cadenzaref18_Check bits l=some 0):Qt bits l=some (bytesB bits l,0):=by
 have h1:=Bsm h l hl (Azu h hl hc) l.length 0 FUEL (by omega) (by have:=Am;omega)
 rw[Qt,Ac6,hc,Aa,if_neg (by rw[Ak];simp)]
 exact h1
end Go.Pl
set_option linter.unusedVariables false
set_option linter.unusedSimpArgs false
namespace Go.Pl
open Go Go.Lv
def Amp:List UInt8→Nat→Int×Int
 |[],n=>((n:Int),0)
 |c::r,n=>if 128≤c.toNat then(0,12)else Amp r (128*n+c.toNat)
theorem Bsd:∀(l:List UInt8) (n k:Nat),n<128^k→0≤(Amp l n).1∧(Amp l n).1<((128^(k+l.length):Nat):Int)
 |[],n,k,h=>by simp[Amp];exact_mod_cast h
 |c::r,n,k,h=>by
  rw[Amp]
  split
  ·have:0<128^(k+(c::r).length):=Nat.pow_pos (by omega)
   exact⟨Int.le_refl _,by simp only;exact_mod_cast this⟩
  ·have:=Bsd r (128*n+c.toNat) (k+1) (by rw[Nat.pow_succ];omega)
   rw[List.length_cons,show k+(r.length+1)=k+1+r.length by omega]
   exact this
theorem or7(n c:Nat)(hn:n<268435456)(hc:c<128):gor (Dm (n:Int) (GI.toZ (7:UInt64)).toNat) (c:Int)=((128*n+c:Nat):Int):=by
 have e:(GI.toZ (7:UInt64)).toNat=7:=rfl
 have h1:Dm (n:Int) 7=((2^7*n:Nat):Int):=by
  have:Dm (n:Int) 7=wrap64 ((n:Int)*2^7):=rfl
  rw[this,Ce (by omega) (by omega)];omega
 rw[e,h1]
 have h2:gor ((2^7*n:Nat):Int) (c:Int)=wrap64 ((BitVec.ofInt 64 ((2^7*n:Nat):Int)|||BitVec.ofInt 64 (c:Int)).toNat:Int):=rfl
 rw[h2,BitVec.toNat_or,BitVec.toNat_ofInt,BitVec.toNat_ofInt]
 have h3:(((2^7*n:Nat):Int) %((2^64:Nat):Int)).toNat=2^7*n:=by omega
 have h4:((c:Int) %((2^64:Nat):Int)).toNat=c:=by omega
 rw[h3,h4,←Nat.two_pow_add_eq_or_of_lt (by simpa using hc),Ce (by omega) (by omega)]
theorem Bsg(b:List UInt8)(hb:b.length=4):∀(j i q n:Nat),i+j=4→j<q→n<128^i→Lj b q (n:Int) (i:Int)=some (Amp (b.drop i) n)
 |0,i,q+1,n,hi,_,_=>by
  rw[Lj,Uy,if_neg (by rw[Af,Ac];simp;omega),show b.drop i=[] by simp;omega];rfl
 |j+1,i,q+1,n,hi,hq,hn=>by
  have hlt:i<b.length:=by omega
  have hn2:n<268435456:=Nat.lt_of_lt_of_le hn (show 128^i≤128^4 from Nat.pow_le_pow_right (by omega) (by omega))
  rw[Lj,Uy,if_pos (by rw[Af,Ac];simp;omega),Cc hlt,Aa,drop_cons hlt,Amp,Bx8]
  by_cases hc:128≤b[i].toNat
  ·rw[if_pos (by simp;omega),if_pos hc]
  ·rw[if_neg (by simp;omega),if_neg hc,Aie,or7 n _ hn2 (by omega),Ah (by omega) (by omega)]
   exact Bsg b hb j (i+1) q _ (by omega) (by omega) (by rw[Nat.pow_succ];omega)
theorem Bwi(b:List UInt8)(hb:b.length=4):∀(j i q n:Nat),i+j=4→j<q→n<128^i→Ij b q (n:Int) (i:Int)=some (Amp (b.drop i) n)
 |0,i,q+1,n,hi,_,_=>by
  rw[Ij,Sa,if_neg (by rw[Af];simp;omega),show b.drop i=[] by simp;omega];rfl
 |j+1,i,q+1,n,hi,hq,hn=>by
  have hlt:i<b.length:=by omega
  have hn2:n<268435456:=Nat.lt_of_lt_of_le hn (show 128^i≤128^4 from Nat.pow_le_pow_right (by omega) (by omega))
  rw[Ij,Sa,if_pos (by rw[Af];simp;omega),Cc hlt,Aa,drop_cons hlt,Amp,Bw6]
  have h128:(128:UInt8).toNat=128:=rfl
  by_cases hc:128≤b[i].toNat
  ·rw[if_pos (by simpa using hc),if_pos hc]
  ·have h3:=b[i].toNat_lt
   rw[if_neg (by simpa using hc),if_neg hc,Aa,Aie,Ib (by omega) (by omega),Ah (by omega) (by omega),Ah (by omega) (by omega)]
   have:=Bwi b hb j (i+1) q (128*n+b[i].toNat) (by omega) (by omega) (by rw[Nat.pow_succ];omega)
   rw[←this];rfl
theorem Bq2(b:List UInt8)(hb:b.length=4):Aem b=some (Amp b 0):=by
 have h:=Bsg b hb 4 0 FUEL 0 (by omega) (by have:=Am;omega) (by simp)
 rw[Aem,Ad2,if_neg (by rw[Ak,Ac];simp;omega),Adk];exact h
theorem Bv1(b:List UInt8)(hb:b.length=4):Xv b=some (Amp b 0):=by
 have h:=Bwi b hb 4 0 FUEL 0 (by omega) (by have:=Am;omega) (by simp)
 rw[Xv,Ade,if_neg (by rw[Ak,Ac];simp;omega),Ac3];exact h
theorem Bq3{b:List UInt8}(hb:b.length=4):0≤(Amp b 0).1∧(Amp b 0).1<268435456:=by
 have:=Bsd b 0 0 (by simp)
 rw[hb]at this
 simpa using this
theorem Aov(s p:List UInt8):Ki s p=some (decide (p.length≤s.length∧s.take p.length=p)):=by
 rw[Ki]
 by_cases h:p.length≤s.length
 ·rw[if_pos (by rw[Dx,Ac,Ac];simp;omega),show Ac p=(p.length:Int)from rfl,Cs (by omega) (by omega),Aa,Hw,Aa,Int.toNat_natCast]
  congr 1
  rw[Bool.eq_iff_iff];simp[h]
 ·rw[if_neg (by rw[Dx,Ac,Ac];simp;omega)]
  simp[h]
def Anp(b:List UInt8)(n:Int):Int×Int:=
 if 4000<n then(0,4)else if(b.length:Int)<n then(0,24)else
 if b.getD 5 0=16∧(b.take n.toNat).drop (n-10).toNat≠ [51,68,73]++part b 3 7 then(0,12)else(n,0)
def Bbf(b:List UInt8)(r:Int):Int×Int:=Anp b (r+10+(if b.getD 5 0=16 then 10 else 0))
def Vr(b:List UInt8):Int×Int:=
 if ¬(3≤b.length∧b.take 3=[73,68,51])then(0,6)else if b.length<10 then(0,24)else
 if(Amp (part b 6 4) 0).2≠0∨b.getD 4 0≠0∨¬((b.getD 5 0=0∧2≤(b.getD 3 0).toNat∧(b.getD 3 0).toNat≤4)∨(b.getD 5 0=16∧b.getD 3 0=4))then(0,12)else
 Bbf b (Amp (part b 6 4) 0).1
theorem Axn{b:List UInt8}{i:Nat}(h:i<b.length):getI b (i:Int)=some (b.getD i 0):=by
 rw[Cc h];simp[List.getD_eq_getElem?_getD,h]
theorem Ni{b:List UInt8}(a w:Nat)(h:a+w≤b.length):Bb b (a:Int) ((a+w:Nat):Int)=some (part b a w):=by
 rw[Ad9 (by omega) (by omega) (by omega)];rfl
theorem Cac(b:List UInt8)(r:Int)(h10:10≤b.length)(h0:0≤r)(h1:r<268435456):Tu b r=some (Bbf b r):=by
 have g5:getI b (5:Int)=some (b.getD 5 0):=Axn (i:=5) (by omega)
 have key:∀n:Int,10≤n→n<268435500→Tz b n=some (Anp b n):=by
  intro n hn hn2
  rw[Tz,Aev,Anp]
  by_cases c1:4000<n
  ·rw[if_pos (by rw[Aq];simpa using c1),if_pos c1]
  ·rw[if_neg (by rw[Aq];simpa using c1),if_neg c1]
   by_cases c2:(b.length:Int)<n
   ·rw[if_pos (by rw[Af,Ac];simpa using c2),if_pos c2]
   ·have e3:Bb b (3:Int) (10:Int)=some (part b 3 7):=Ni 3 7 (by omega)
    rw[if_neg (by rw[Af,Ac];simpa using c2),if_neg c2,g5,Aa]
    by_cases c3:b.getD 5 0=16
    ·rw[if_pos (by rw[Apr];simpa using c3),Bv (by omega) (by omega),Ad9 (by omega) (by omega) (by omega),Aa,e3,Aa,Cj (by rw[Df (by omega)];simp),Aa]
     by_cases c4:(b.take n.toNat).drop (n-10).toNat=[51,68,73]++part b 3 7
     ·rw[if_neg (by simpa using c4),if_neg (by intro h;exact h.2 c4)]
     ·rw[if_pos (by simpa using c4),if_pos ⟨c3,c4⟩]
    ·rw[if_neg (by rw[Apr];simpa using c3),if_neg (fun h=>c3 h.1)]
 rw[Tu,Aga,g5,Aa,Bbf]
 by_cases c3:b.getD 5 0=16
 ·rw[if_pos (by rw[Apr];simpa using c3),Ah (by rw[Ah]<;>omega) (by rw[Ah]<;>omega),Ah (by omega) (by omega),key _ (by omega) (by omega),if_pos c3,show 10+r+10=r+10+10 by omega]
 ·rw[if_neg (by rw[Apr];simpa using c3),Ah (by omega) (by omega),key _ (by omega) (by omega),if_neg c3,show 10+r=r+10+0 by omega]
theorem Bxa(b:List UInt8)(hb:b.length<4611686018427387904):Abd b=some (Vr b):=by
 rw[Abd,Aey,Vr]
 by_cases h3:3≤b.length
 ·rw[if_neg (by rw[Af,Ac];simp;omega),Cs (by omega) (by omega),Aa]
  by_cases hp:b.take 3=[73,68,51]
  ·rw[if_neg (by simpa using hp),if_neg (by simp[h3,hp]),Agb,Afm]
   by_cases h10:b.length<10
   ·rw[if_pos (by rw[Af,Ac];simp;omega),if_pos h10]
   ·have e6:Bb b (6:Int) (10:Int)=some (part b 6 4):=Ni 6 4 (by omega)
    have g3:getI b (3:Int)=some (b.getD 3 0):=Axn (i:=3) (by omega)
    have g4:getI b (4:Int)=some (b.getD 4 0):=Axn (i:=4) (by omega)
    have g5:getI b (5:Int)=some (b.getD 5 0):=Axn (i:=5) (by omega)
    obtain⟨v1,v2⟩:=Bq3 (b:=part b 6 4) (Df (by omega))
    rw[if_neg (by rw[Af,Ac];simp;omega),if_neg h10,e6,Aa,Bv1 _ (Df (by omega)),Aa]
    have ht:=Cac b (Amp (part b 6 4) 0).1 (by omega) v1 v2
    generalize Amp (part b 6 4) 0=v at*
    obtain⟨v,e⟩:=v
    simp only at ht v1 v2⊢
    simp only[Aa,g3,g4,g5,ht]
    generalize b.getD 3 0=x at*
    generalize b.getD 4 0=y at*
    generalize b.getD 5 0=z at*
    simp only[Brc,Cea,Bx8,Ak]
    by_cases he:e=0<;>by_cases hy:y=0<;>by_cases hz:z=0<;>by_cases hz2:z=16<;>by_cases hx:x=4<;>by_cases hx2:x.toNat<2<;>by_cases hx4:4<x.toNat<;>simp_all<;>(rw[if_neg (by omega),if_neg (by omega)])
  ·rw[if_pos (by simpa using hp),if_pos (by simp[hp])]
 ·rw[if_pos (by rw[Af,Ac];simp;omega),if_pos (by simp[h3])]
theorem Bjf(b:List UInt8)(n:Int)(h10:10≤b.length)(hn:10≤n)(hn2:n<268435500):Xj b (b.getD 5 0) n=some (Anp b n):=by
 rw[Xj,Aqb]
 by_cases c1:4000<n
 ·rw[if_pos (by rw[Aq];simpa using c1),Anp,if_pos c1]
 ·rw[if_neg (by rw[Aq];simpa using c1)]
  by_cases c2:(b.length:Int)<n
  ·rw[if_pos (by rw[Af,Ac];simpa using c2),Anp,if_neg c1,if_pos c2]
  ·have e3:Bb b (3:Int) (10:Int)=some (part b 3 7):=Ni 3 7 (by omega)
   rw[if_neg (by rw[Af,Ac];simpa using c2)]
   by_cases c3:b.getD 5 0=16
   ·have hl:((b.take n.toNat).drop (n-10).toNat).length=10:=by simp;omega
    have ht:Anp b n=if(b.take n.toNat).drop (n-10).toNat≠ [51,68,73]++part b 3 7 then(0,12)else(n,0):=by rw[Anp,if_neg c1,if_neg c2];simp only[c3,true_and]
    rw[if_pos (by rw[Apr];simpa using c3),Bv (by omega) (by omega),Ad9 (by omega) (by omega) (by omega),Aa,ht]
    generalize(b.take n.toNat).drop (n-10).toNat=f at*
    rw[Cs (by omega) (by omega),Aa,Cx (by omega) (by omega),Aa,e3,Aa,Hw,Aa]
    have hf:f=f.take 3++f.drop 3:=(List.take_append_drop 3 f).symm
    by_cases c4:f=[51,68,73]++part b 3 7
    ·subst c4
     simp
    ·by_cases c5:f.take 3=[51,68,73]
     ·have:f.drop 3≠part b 3 7:=fun h=>c4 (by rw[hf,c5,h])
      simp only[List.cons_append,List.nil_append]at c4
      simp[c4,c5,this]
     ·simp only[List.cons_append,List.nil_append]at c4
      simp[c4,c5]
   ·rw[if_neg (by rw[Apr];simpa using c3),Anp,if_neg c1,if_neg c2,if_neg (fun h=>c3 h.1)]
theorem Bwq(b:List UInt8)(r:Int)(h10:10≤b.length)(h0:0≤r)(h1:r<268435456):Xl b r (b.getD 5 0)=some (Bbf b r):=by
 rw[Xl,Agr,Bbf]
 by_cases c3:b.getD 5 0=16
 ·rw[if_pos (by rw[Apr];simpa using c3),Ah (by rw[Ah]<;>omega) (by rw[Ah]<;>omega),Ah (by omega) (by omega),Bjf b _ h10 (by omega) (by omega),if_pos c3]
 ·rw[if_neg (by rw[Apr];simpa using c3),Ah (by omega) (by omega),Bjf b _ h10 (by omega) (by omega),if_neg c3];simp
theorem Bvr(b:List UInt8)(hb:b.length<4611686018427387904):Ah8 b=some (Vr b):=by
 rw[Ah8,Xp,Aov,Aa]
 by_cases hp:3≤b.length∧b.take 3=[73,68,51]
 ·rw[if_neg (by simpa using hp)]
  by_cases h10:b.length<10
  ·rw[if_pos (by rw[Af,Ac];simp;omega),Vr,if_neg (fun h=>h hp),if_pos h10]
  ·have e6:Bb b (6:Int) (10:Int)=some (part b 6 4):=Ni 6 4 (by omega)
   have g3:getI b (3:Int)=some (b.getD 3 0):=Axn (i:=3) (by omega)
   have g4:getI b (4:Int)=some (b.getD 4 0):=Axn (i:=4) (by omega)
   have g5:getI b (5:Int)=some (b.getD 5 0):=Axn (i:=5) (by omega)
   obtain⟨v1,v2⟩:=Bq3 (b:=part b 6 4) (Df (by omega))
   have ht:=Bwq b (Amp (part b 6 4) 0).1 (by omega) v1 v2
   rw[if_neg (by rw[Af,Ac];simp;omega),g3,Aa,g5,Aa,Ago,Agx,e6,Aa,Bq2 _ (Df (by omega)),Aa,Vr,if_neg (fun h=>h hp),if_neg h10]
   generalize Amp (part b 6 4) 0=v at*
   obtain⟨v,e⟩:=v
   simp only at ht v1 v2⊢
   simp only[Aa,g4,Agv,Ag2]
   generalize b.getD 3 0=x at*
   generalize b.getD 4 0=y at*
   generalize b.getD 5 0=z at*
   simp only[Brc,Cfq,Apr,Bw6,Ak]
   have e2:(2:UInt8).toNat=2:=rfl
   have e4:(4:UInt8).toNat=4:=rfl
   by_cases he:e=0<;>by_cases hy:y=0<;>by_cases hz:z=0<;>by_cases hz2:z=16<;>by_cases hx:x=4<;>by_cases hx2:2≤x.toNat<;>by_cases hx4:x.toNat≤4<;>simp_all
 ·rw[if_pos (by rw[Bool.not_eq_true',decide_eq_false_iff_not];exact hp),Vr,if_pos hp]
theorem Bz5{b:List UInt8}{n:Int}(h:Vr b=(n,0)):10≤n∧n≤b.length∧n≤4000:=by
 unfold Vr at h
 split at h; · simp at h
 split at h; · simp at h
 split at h; · simp at h
 rename_i h10 _
 obtain⟨v1,v2⟩:=Bq3 (b:=part b 6 4) (Df (by omega))
 unfold Bbf at h
 generalize hm:(Amp (part b 6 4) 0).1+10+(if b.getD 5 0=16 then 10 else 0)=m at h
 unfold Anp at h
 split at h; · simp at h
 split at h; · simp at h
 split at h; · simp at h
 simp only[Prod.mk.injEq,and_true]at h
 subst h
 refine⟨?_,by omega,by omega⟩
 rw[←hm]
 split<;>omega
end Go.Pl
set_option linter.unusedVariables false
set_option linter.unusedSimpArgs false
namespace Go.Pl
open Go Go.Lv
def APE:List UInt8:=[65,80,69,84,65,71,69,88]
def Rv(n m fl:Nat):List UInt8:=APE++leB 2000 4++leB (n+32) 4++leB m 4++leB fl 4++List.replicate 8 0
theorem Ala{n:Nat}(h:n<18446744073709551616):(UInt64.ofNat n).toNat=n:=by rw[UInt64.toNat_ofNat',Nat.mod_eq_of_lt h]
theorem Aur(n m:Int)(fl:UInt64)(c:UInt64)(i q:Nat)(acc:List UInt8)(hi:i<6)(hc:getI ([(2000:UInt64),(Ad (Ae n (32:Int)):UInt64),(Ad m:UInt64),fl,(0:UInt64),(0:UInt64)]:List UInt64) (i:Int)=some c)(h:c.toNat<4294967296)(ha:acc.length≤1000000):
  Yc n m fl (q+1) (i:Int) acc=Yc n m fl q ((i+1:Nat):Int) (acc++leB c.toNat 4):=by
 have hb:=Bn7 c 4 (by omega) (by omega) (by simpa using h)
 rw[Yc,Ap3,if_pos (by rw[Af,Ac];simp;omega),hc,Aa,Aa,show((4:Int))=((4:Nat):Int)from rfl,hb,Aa]
 simp only
 rw[Cj (by rw[Og];omega),Aa,Ah (by omega) (by omega)];rfl
theorem Bfz(n m:Nat)(fl:UInt64)(hn:n≤3000)(hm:m≤1000)(hf:fl.toNat<4294967296):Aum (n:Int) (m:Int) fl=some (Rv n m fl.toNat):=by
 have e1:(Ad (Ae (n:Int) (32:Int)):UInt64).toNat=n+32:=by rw[Ah (by omega) (by omega),show(n:Int)+32=((n+32:Nat):Int) by omega,Zm,Ala (by omega)]
 have e2:(Ad (m:Int):UInt64).toNat=m:=by rw[Zm,Ala (by omega)]
 have hF:FUEL=(FUEL-7)+1+1+1+1+1+1+1:=by have:=Am;omega
 rw[Aum,Awe,Awg,hF]
 rw[show((0:Int))=((0:Nat):Int)from rfl,Aur n m fl 2000 0 _ _ (by omega) rfl (by decide) (by simp),Aur n m fl _ 1 _ _ (by omega) rfl (by rw[e1];omega) (by simp[Og]),Aur n m fl _ 2 _ _ (by omega) rfl (by rw[e2];omega) (by simp[Og]),
  Aur n m fl fl 3 _ _ (by omega) rfl hf (by simp[Og]),Aur n m fl 0 4 _ _ (by omega) rfl (by decide) (by simp[Og]),Aur n m fl 0 5 _ _ (by omega) rfl (by decide) (by simp[Og]),e1,e2]
 rw[Yc,Ap3,if_neg (by rw[Af,Ac];simp),Awu,Bf1,Rv]
 have z:leB (0:UInt64).toNat 4++leB (0:UInt64).toNat 4=List.replicate 8 0:=by decide
 have z2:leB (2000:UInt64).toNat 4=leB 2000 4:=rfl
 rw[List.append_assoc _ (leB (0:UInt64).toNat 4),z,z2];rfl
theorem Bri(n m:Nat)(fl:UInt64)(hn:n≤3000)(hm:m≤1000)(hf:fl.toNat<4294967296):Pa (n:Int) (m:Int) fl=some (Rv n m fl.toNat):=by
 have e1:(Ad (Ae (n:Int) (32:Int)):UInt64).toNat=n+32:=by rw[Ah (by omega) (by omega),show(n:Int)+32=((n+32:Nat):Int) by omega,Zm,Ala (by omega)]
 have e2:(Ad (m:Int):UInt64).toNat=m:=by rw[Zm,Ala (by omega)]
 have w:∀c:UInt64,Dl c 4=some (leB c.toNat 4):=fun c=>Bgb c 4 (by omega)
 have z2:leB (2000:UInt64).toNat 4=leB 2000 4:=rfl
 rw[Pa]
 simp only[w,e1,e2,Aa]
 rw[Cj (by simp[Og]),Aa,Cj (by simp[Og]),Aa,Cj (by simp[Og]),Aa,Cj (by simp[Og]),Aa,Bdx (by omega) (by omega),Aa,Cj (by simp[Og]),Aa,z2];rfl
theorem Aif{b:List UInt8}{a w k:Nat}(h:a+w≤k):part (b.take k) a w=part b a w:=by rw[part,part,List.take_take,Nat.min_eq_left h]
def Aac(b:List UInt8):Bool:=decide (Eh (part b 12 4)<32∨3032<Eh (part b 12 4)∨1000<Eh (part b 16 4))
theorem Bwh(b:List UInt8)(h:20≤b.length):(((Bz (leU (part b 12 4)) (32:UInt64))||(Dw (leU (part b 12 4)) (3032:UInt64)))||(Dw (leU (part b 16 4)) (1000:UInt64)))=Aac b:=by
 rw[Bct,Ak9,Ak9,Alk (by rw[Df (by omega)];omega),Alk (by rw[Df (by omega)];omega),Aac]
 show((decide (Eh (part b 12 4)<32)||decide (3032<Eh (part b 12 4)))||decide (1000<Eh (part b 16 4)))=_
 simp[Bool.or_assoc]
theorem Bgf(b:List UInt8)(h:20≤b.length)(hb:Aac b=false):Aj (Ad (leU (part b 12 4)):Int) (32:Int)=((Eh (part b 12 4)-32:Nat):Int)∧(Ad (leU (part b 16 4)):Int)=((Eh (part b 16 4):Nat):Int)∧Eh (part b 12 4)-32≤3000∧Eh (part b 16 4)≤1000:=by
 simp only[Aac,decide_eq_false_iff_not]at hb
 refine⟨?_,Ael (by rw[Df (by omega)];omega),by omega,by omega⟩
 rw[Ael (by rw[Df (by omega)];omega),Bv (by omega) (by omega)];omega
theorem Aos(b:List UInt8)(fl:UInt64)(h:20≤b.length)(hl:b.length<4611686018427387904)(hf:fl.toNat<4294967296):
  Aid b fl=some (if Aac b=true then(0,0,false)else(((Eh (part b 12 4)-32:Nat):Int),((Eh (part b 16 4):Nat):Int),b==Rv (Eh (part b 12 4)-32) (Eh (part b 16 4)) fl.toNat)):=by
 have a1:Amt b 12 4=some (leU (part b 12 4),0):=Bjm b 12 4 (by omega) (by omega) (by omega) hl
 have a2:Amt b 16 4=some (leU (part b 16 4),0):=Bjm b 16 4 (by omega) (by omega) (by omega) hl
 rw[Aid,a1,Aa]
 simp only
 rw[a2,Aa]
 simp only
 rw[Bwh b h]
 cases hb:Aac b with
 |true=>rfl
 |false=>
  obtain⟨i1,i2,i3,i4⟩:=Bgf b h hb
  rw[i1,i2,Bfz _ _ _ i3 i4 hf]
  rfl
theorem Bx7(b:List UInt8)(h:20≤b.length)(hl:b.length<4611686018427387904):
  Ack b=some (if Aac b=true then(0,0,false)else(((Eh (part b 12 4)-32:Nat):Int),((Eh (part b 16 4):Nat):Int),true)):=by
 have a1:Bb b 12 16=some (part b 12 4):=Ni 12 4 (by omega)
 have a2:Bb b 16 20=some (part b 16 4):=Ni 16 4 (by omega)
 rw[Ack,a1,Aa,Bl3 _ (by rw[Df (by omega)];omega),Aa,a2,Aa,Bl3 _ (by rw[Df (by omega)];omega),Aa,Bwh b h]
 cases hb:Aac b with
 |true=>rfl
 |false=>
  obtain⟨i1,i2,i3,i4⟩:=Bgf b h hb
  rw[i1,i2];rfl
def Ic(b:List UInt8):Int×Int:=
 if ¬(8≤b.length∧b.take 8=APE)then(0,6)else if b.length<32 then(0,24)else
 if Aac b=true∨b.take 32≠Rv (Eh (part b 12 4)-32) (Eh (part b 16 4)) 2684354560 then(0,12)else
 if b.length<Eh (part b 12 4)+32 then(0,24)else
 if(b.take (Eh (part b 12 4)+32)).drop (Eh (part b 12 4))≠Rv (Eh (part b 12 4)-32) (Eh (part b 16 4)) 2147483648 then(0,12)else(((Eh (part b 12 4)+32:Nat):Int),0)
theorem Blt(b:List UInt8):Aac (b.take 32)=Aac b:=by rw[Aac,Aac,Aif (by omega),Aif (by omega)]
section
variable {b:List UInt8}
theorem fa1(h:¬(8≤b.length∧b.take 8=APE)):Ic b=(0,6):=by rw[Ic,if_pos h]
theorem fa2(h:8≤b.length∧b.take 8=APE)(h2:b.length<32):Ic b=(0,24):=by rw[Ic,if_neg (fun h'=>h' h),if_pos h2]
variable (h:8≤b.length∧b.take 8=APE) (h2:¬b.length<32)
include h h2
theorem fa3(h3:Aac b=true):Ic b=(0,12):=by rw[Ic,if_neg (fun h'=>h' h),if_neg h2,if_pos (.inl h3)]
theorem fa4(h4:b.take 32≠Rv (Eh (part b 12 4)-32) (Eh (part b 16 4)) 2684354560):Ic b=(0,12):=by rw[Ic,if_neg (fun h'=>h' h),if_neg h2,if_pos (.inr h4)]
variable (h3:Aac b=false) (h4:b.take 32=Rv (Eh (part b 12 4)-32) (Eh (part b 16 4)) 2684354560)
include h3 h4
theorem fa5(h5:b.length<Eh (part b 12 4)+32):Ic b=(0,24):=by
 rw[Ic,if_neg (fun h'=>h' h),if_neg h2,if_neg (fun h'=>h'.elim (fun e=>by rw[h3]at e;cases e) fun e=>e h4),if_pos h5]
theorem fa6(h5:¬b.length<Eh (part b 12 4)+32)(h6:(b.take (Eh (part b 12 4)+32)).drop (Eh (part b 12 4))≠Rv (Eh (part b 12 4)-32) (Eh (part b 16 4)) 2147483648):Ic b=(0,12):=by
 rw[Ic,if_neg (fun h'=>h' h),if_neg h2,if_neg (fun h'=>h'.elim (fun e=>by rw[h3]at e;cases e) fun e=>e h4),if_neg h5,if_pos h6]
theorem fa7(h5:¬b.length<Eh (part b 12 4)+32)(h6:(b.take (Eh (part b 12 4)+32)).drop (Eh (part b 12 4))=Rv (Eh (part b 12 4)-32) (Eh (part b 16 4)) 2147483648):Ic b=(((Eh (part b 12 4)+32:Nat):Int),0):=by
 rw[Ic,if_neg (fun h'=>h' h),if_neg h2,if_neg (fun h'=>h'.elim (fun e=>by rw[h3]at e;cases e) fun e=>e h4),if_neg h5,if_neg (fun h'=>h' h6)]
end
theorem Bqy(b:List UInt8)(hl:b.length<4611686018427387904):Auj b=some (Ic b):=by
 rw[Auj,Aov,Aa]
 by_cases hp:8≤b.length∧b.take 8=APE
 ·rw[if_neg (by simpa [APE]using hp)]
  by_cases h32:b.length<32
  ·rw[if_pos (by rw[Af,Ac];simp;omega),fa2 hp h32]
  ·have t:=Aos (b.take 32) 2684354560 (by simp;omega) (by simp;omega) (by decide)
   rw[Blt,Aif (by omega),Aif (by omega)]at t
   rw[if_neg (by rw[Af,Ac];simp;omega),Cs (by omega) (by omega),Aa,show(32:Int).toNat=32 from rfl,t,Aa]
   cases hb:Aac b with
   |true=>rw[fa3 hp h32 hb];simp
   |false=>
    obtain⟨i1,i2,i3,i4⟩:=Bgf b (by omega) hb
    have i5:32≤Eh (part b 12 4):=by simp only[Aac,decide_eq_false_iff_not]at hb;omega
    simp only[Bool.false_eq_true,if_false,false_or]
    by_cases c1:b.take 32=Rv (Eh (part b 12 4)-32) (Eh (part b 16 4)) 2684354560
    ·have c1':b.take 32=Rv (Eh (part b 12 4)-32) (Eh (part b 16 4)) (2684354560:UInt64).toNat:=c1
     rw[if_neg (by simpa using c1'),Ah (by omega) (by omega)]
     have e1:((Eh (part b 12 4)-32:Nat):Int)+64=((Eh (part b 12 4)+32:Nat):Int):=by omega
     rw[e1]
     by_cases c2:b.length<Eh (part b 12 4)+32
     ·rw[if_pos (by rw[Af,Ac];simp;omega),fa5 hp h32 hb c1 c2]
     ·rw[if_neg (by rw[Af,Ac];simp;omega),Bv (by omega) (by omega),Ad9 (by omega) (by omega) (by omega),Aa,Bfz _ _ _ i3 i4 (by decide),Aa,Hw,Aa]
      rw[show(((Eh (part b 12 4)+32:Nat):Int)).toNat=Eh (part b 12 4)+32 by omega,show(((Eh (part b 12 4)+32:Nat):Int)-32).toNat=Eh (part b 12 4) by omega]
      by_cases c3:(b.take (Eh (part b 12 4)+32)).drop (Eh (part b 12 4))=Rv (Eh (part b 12 4)-32) (Eh (part b 16 4)) 2147483648
      ·have c3':(b.take (Eh (part b 12 4)+32)).drop (Eh (part b 12 4))=Rv (Eh (part b 12 4)-32) (Eh (part b 16 4)) (2147483648:UInt64).toNat:=c3
       rw[if_neg (by simpa using c3'),fa7 hp h32 hb c1 c2 c3]
      ·have c3':¬(b.take (Eh (part b 12 4)+32)).drop (Eh (part b 12 4))=Rv (Eh (part b 12 4)-32) (Eh (part b 16 4)) (2147483648:UInt64).toNat:=c3
       rw[if_pos (by simpa using c3'),fa6 hp h32 hb c1 c2 c3]
    ·have c1':¬b.take 32=Rv (Eh (part b 12 4)-32) (Eh (part b 16 4)) (2684354560:UInt64).toNat:=c1
     rw[if_pos (by simpa using c1'),fa4 hp h32 c1]
 ·rw[if_pos (by rw[Bool.not_eq_true',decide_eq_false_iff_not];exact hp),fa1 hp]
theorem Bun(b:List UInt8)(hl:b.length<4611686018427387904):Xz b=some (Ic b):=by
 rw[Xz,Acq]
 by_cases h8:8≤b.length
 ·rw[if_neg (by rw[Af,Ac];simp;omega),Cs (by omega) (by omega),Aa,show(8:Int).toNat=8 from rfl]
  by_cases ha:b.take 8=APE
  ·have hp:=And.intro h8 ha
   rw[if_neg (by simpa [APE]using ha),Acs,Ada]
   by_cases h32:b.length<32
   ·rw[if_pos (by rw[Af,Ac];simp;omega),fa2 hp h32]
   ·have t:=Bx7 (b.take 32) (by simp;omega) (by simp;omega)
    rw[Blt,Aif (by omega),Aif (by omega)]at t
    rw[if_neg (by rw[Af,Ac];simp;omega),Cs (by omega) (by omega),Aa,show(32:Int).toNat=32 from rfl,t,Aa]
    cases hb:Aac b with
    |true=>rw[fa3 hp h32 hb];simp
    |false=>
     obtain⟨i1,i2,i3,i4⟩:=Bgf b (by omega) hb
     have i5:32≤Eh (part b 12 4):=by simp only[Aac,decide_eq_false_iff_not]at hb;omega
     simp only[Bool.false_eq_true,if_false,false_or,Aa,Bool.not_true]
     rw[Ak8,Bri _ _ _ i3 i4 (by decide),Aa,Aa]
     by_cases c1:b.take 32=Rv (Eh (part b 12 4)-32) (Eh (part b 16 4)) 2684354560
     ·have c1':b.take 32=Rv (Eh (part b 12 4)-32) (Eh (part b 16 4)) (2684354560:UInt64).toNat:=c1
      rw[if_neg (by simpa using c1'),Acx,Ac1,Ah (by omega) (by omega)]
      have e1:64+((Eh (part b 12 4)-32:Nat):Int)=((Eh (part b 12 4)+32:Nat):Int):=by omega
      rw[e1]
      by_cases c2:b.length<Eh (part b 12 4)+32
      ·rw[if_pos (by rw[Af,Ac];simp;omega),fa5 hp h32 hb c1 c2]
      ·rw[if_neg (by rw[Af,Ac];simp;omega),Bv (by omega) (by omega),Ad9 (by omega) (by omega) (by omega),Aa,Ak2,if_pos rfl,Bri _ _ _ i3 i4 (by decide),Aa,Aa]
       rw[show(((Eh (part b 12 4)+32:Nat):Int)).toNat=Eh (part b 12 4)+32 by omega,show(((Eh (part b 12 4)+32:Nat):Int)-32).toNat=Eh (part b 12 4) by omega]
       by_cases c3:(b.take (Eh (part b 12 4)+32)).drop (Eh (part b 12 4))=Rv (Eh (part b 12 4)-32) (Eh (part b 16 4)) 2147483648
       ·have c3':(b.take (Eh (part b 12 4)+32)).drop (Eh (part b 12 4))=Rv (Eh (part b 12 4)-32) (Eh (part b 16 4)) (2147483648:UInt64).toNat:=c3
        rw[if_neg (by simpa using c3'),fa7 hp h32 hb c1 c2 c3]
       ·have c3':¬(b.take (Eh (part b 12 4)+32)).drop (Eh (part b 12 4))=Rv (Eh (part b 12 4)-32) (Eh (part b 16 4)) (2147483648:UInt64).toNat:=c3
        rw[if_pos (by simpa using c3'),fa6 hp h32 hb c1 c2 c3]
     ·have c1':¬b.take 32=Rv (Eh (part b 12 4)-32) (Eh (part b 16 4)) (2684354560:UInt64).toNat:=c1
      rw[if_pos (by simpa using c1'),fa4 hp h32 c1]
  ·rw[if_pos (by simpa [APE]using ha),fa1 (fun h=>ha h.2)]
 ·rw[if_pos (by rw[Af,Ac];simp;omega),fa1 (fun h=>h8 h.1)]
theorem Bv8{b:List UInt8}{n:Int}(h:Ic b=(n,0)):64≤n∧n≤b.length:=by
 unfold Ic at h
 split at h; · simp at h
 split at h; · simp at h
 split at h; · simp at h
 rename_i hb
 split at h; · simp at h
 split at h; · simp at h
 simp only[Prod.mk.injEq,and_true]at h
 have hb':¬Aac b=true:=fun e=>hb (.inl e)
 simp only[Aac,decide_eq_true_eq]at hb'
 omega
end Go.Pl
set_option linter.unusedVariables false
set_option linter.unusedSimpArgs false
namespace Go.Pl
open Go Go.Lv
def Bw(b:List UInt8):Int×Int:=if(Vr b).2≠6 then Vr b else Ic b
theorem size_eq(b:List UInt8)(hl:b.length<4611686018427387904):Un b=some (Bw b):=by
 rw[Un,Bvr b hl,Aa,Bqy b hl]
 by_cases h:(Vr b).2=6
 ·simp[Bw,h,Ak]
 ·simp[Bw,h,Ak]
theorem Ash{b:List UInt8}{n:Int}(h:Bw b=(n,0)):10≤n∧n≤b.length:=by
 unfold Bw at h
 split at h
 ·have:=Bz5 h;omega
 ·have:=Bv8 h;omega
def Bn(b:List UInt8):Nat→Nat→List Int×Int
 |0,_=>([],6)
 |j+1,p=>if(Bw (b.drop p)).2=6 then([],0)else if(Bw (b.drop p)).2≠0 then([],(Bw (b.drop p)).2)else
  if 4000<(p:Int)+(Bw (b.drop p)).1 then([],4)else
  if(Bn b j (p+(Bw (b.drop p)).1.toNat)).2=0 then((Bw (b.drop p)).1::(Bn b j (p+(Bw (b.drop p)).1.toNat)).1,0)else([],(Bn b j (p+(Bw (b.drop p)).1.toNat)).2)
theorem Au0(b:List UInt8):∀(j p:Nat),p≤b.length→p≤4000→(Bn b j p).2=0→(∀x∈(Bn b j p).1,10≤x)∧(p:Int)+(Bn b j p).1.sum≤b.length∧(p:Int)+(Bn b j p).1.sum≤4000
 |0,p,_,_,h=>by simp[Bn]at h
 |j+1,p,hp,hq,h=>by
  rw[Bn]at h⊢
  split at h
  ·rename_i h6;rw[if_pos h6];simp;omega
  ·rename_i h6
   split at h
   ·rename_i h0;exact absurd h h0
   ·rename_i h0
    rw[if_neg h6,if_neg h0]
    have hz:Bw (b.drop p)=((Bw (b.drop p)).1,0):=by rw[Prod.ext_iff];exact⟨rfl,Classical.not_not.1 h0⟩
    have hs:=Ash hz
    rw[List.length_drop]at hs
    split at h
    ·simp at h
    ·rename_i h4
     rw[if_neg h4]
     split at h
     ·rename_i h00
      rw[if_pos h00]
      obtain⟨i1,i2,i3⟩:=Au0 b j _ (by omega) (by omega) h00
      refine⟨fun x hx=>?_,?_,?_⟩
      ·rcases List.mem_cons.1 hx with rfl|hx
       ·exact hs.1
       ·exact i1 x hx
      ·simp only[List.sum_cons];omega
      ·simp only[List.sum_cons];omega
     ·rename_i h00;exact absurd h h00
def Bhl(b:List UInt8)(j p:Nat):Int×Int:=if(Bn b j p).2=0 then((p:Int)+(Bn b j p).1.sum,0)else(0,(Bn b j p).2)
theorem Beo(b:List UInt8)(hl:b.length<4611686018427387904):∀(j p q:Nat),p≤b.length→p≤4000→b.length-p<j→j≤q→Rc b q (p:Int)=some (Bhl b j p)
 |0,p,q,_,_,h,_=>by omega
 |j+1,p,q,hp,hp4,hj,hq=>by
  obtain⟨q,rfl⟩:∃k,q=k+1:=⟨q-1,by omega⟩
  rw[Rc,Cx (by omega) (by omega),Aa,Int.toNat_natCast,size_eq _ (by simp;omega),Aa,Ap,Ap,Ak,Bhl]
  by_cases h6:(Bw (b.drop p)).2=6
  ·rw[if_pos (by simpa using h6)]
   have:Bn b (j+1) p=([],0):=by rw[Bn,if_pos h6]
   rw[this];simp
  ·rw[if_neg (by simpa using h6)]
   by_cases h0:(Bw (b.drop p)).2=0
   ·have hz:Bw (b.drop p)=((Bw (b.drop p)).1,0):=by rw[Prod.ext_iff];exact⟨rfl,h0⟩
    have hs:=Ash hz
    rw[List.length_drop]at hs
    rw[Ah (by omega) (by omega),Aq]
    by_cases h4:4000<(p:Int)+(Bw (b.drop p)).1
    ·rw[if_pos (by simp[h0];omega)]
     have:Bn b (j+1) p=([],4):=by rw[Bn,if_neg h6,if_neg (fun h=>h h0),if_pos h4]
     rw[this];simp
    ·rw[if_neg (by simp[h0];omega),if_neg (by simpa using h0)]
     have ih:=Beo b hl j (p+(Bw (b.drop p)).1.toNat) q (by omega) (by omega) (by omega) (by omega)
     rw[show(p:Int)+(Bw (b.drop p)).1=((p+(Bw (b.drop p)).1.toNat:Nat):Int) by omega,ih,Bhl]
     have:Bn b (j+1) p=if(Bn b j (p+(Bw (b.drop p)).1.toNat)).2=0 then((Bw (b.drop p)).1::(Bn b j (p+(Bw (b.drop p)).1.toNat)).1,0)else([],(Bn b j (p+(Bw (b.drop p)).1.toNat)).2):=by
      rw[Bn,if_neg h6,if_neg (fun h=>h h0),if_neg h4]
     rw[this]
     by_cases hr:(Bn b j (p+(Bw (b.drop p)).1.toNat)).2=0
     ·simp only[hr,if_true,List.sum_cons];congr 2;omega
     ·simp only[hr,if_false]
   ·rw[if_neg (by simp[h0]),if_pos (by simpa using h0)]
    have:Bn b (j+1) p=([],(Bw (b.drop p)).2):=by rw[Bn,if_neg h6,if_pos h0]
    rw[this];simp[h0]
def Bxs(b:List UInt8)(j p:Nat)(xs:List Int):List Int×Int:=if(Bn b j p).2=0 then(xs++(Bn b j p).1,0)else([],(Bn b j p).2)
theorem By1(bk:Int→List Int→Option (List Int×Int))(b:List UInt8)(p:Nat)(hp:p≤b.length)(xs:List Int)(hx:xs.length≤4000)(hl:b.length<4611686018427387904):Rt (Mg bk b) b (p:Int) xs=Mg bk b (p:Int) xs (Bw (b.drop p)).1 (Bw (b.drop p)).2:=by
 have hf:=Bun (b.drop p) (by simp;omega)
 rw[Rt,Cx (by omega) (by omega),Aa,Int.toNat_natCast,Bxa _ (by simp;omega),Aa]
 by_cases h:(Vr (b.drop p)).2=6
 ·simp[Bw,h,Ap,hf]
 ·simp[Bw,h,Ap]
theorem Bib(b:List UInt8)(hl:b.length<4611686018427387904):∀(j p q:Nat) (xs:List Int),p≤b.length→p≤4000→b.length-p<j→j≤q→xs.length≤p→Mi b q (p:Int) xs=some (Bxs b j p xs)
 |0,p,q,_,_,_,h,_,_=>by omega
 |j+1,p,q,xs,hp,hp4,hj,hq,hx=>by
  obtain⟨q,rfl⟩:∃k,q=k+1:=⟨q-1,by omega⟩
  rw[Mi,By1 _ b p hp xs (by omega) hl,Mg,Adf,Ap,Ak,Bxs]
  by_cases h6:(Bw (b.drop p)).2=6
  ·rw[if_pos (by simpa using h6)]
   have:Bn b (j+1) p=([],0):=by rw[Bn,if_pos h6]
   rw[this];simp
  ·rw[if_neg (by simpa using h6)]
   by_cases h0:(Bw (b.drop p)).2=0
   ·have hz:Bw (b.drop p)=((Bw (b.drop p)).1,0):=by rw[Prod.ext_iff];exact⟨rfl,h0⟩
    have hs:=Ash hz
    rw[List.length_drop]at hs
    rw[if_neg (by simpa using h0),Ah (by omega) (by omega),Aq]
    by_cases h4:4000<(p:Int)+(Bw (b.drop p)).1
    ·rw[if_pos (by simp;omega)]
     have:Bn b (j+1) p=([],4):=by rw[Bn,if_neg h6,if_neg (fun h=>h h0),if_pos h4]
     rw[this];simp
    ·rw[if_neg (by simp;omega),Cj (by simp;omega),Aa]
     have ih:=Bib b hl j (p+(Bw (b.drop p)).1.toNat) q (xs++[(Bw (b.drop p)).1]) (by omega) (by omega) (by omega) (by omega) (by simp;omega)
     rw[show(p:Int)+(Bw (b.drop p)).1=((p+(Bw (b.drop p)).1.toNat:Nat):Int) by omega,ih,Bxs]
     have:Bn b (j+1) p=if(Bn b j (p+(Bw (b.drop p)).1.toNat)).2=0 then((Bw (b.drop p)).1::(Bn b j (p+(Bw (b.drop p)).1.toNat)).1,0)else([],(Bn b j (p+(Bw (b.drop p)).1.toNat)).2):=by
      rw[Bn,if_neg h6,if_neg (fun h=>h h0),if_neg h4]
     rw[this]
     by_cases hr:(Bn b j (p+(Bw (b.drop p)).1.toNat)).2=0
     ·simp only[hr,if_true];simp
     ·simp only[hr,if_false]
   ·rw[if_pos (by simpa using h0)]
    have:Bn b (j+1) p=([],(Bw (b.drop p)).2):=by rw[Bn,if_neg h6,if_pos h0]
    rw[this];simp[h0]
theorem Bc3:∀{l:List Int},(∀x∈l,10≤x)→0≤l.sum∧(l.length:Int)≤l.sum
 |[],_=>by simp
 |x::l,h=>by
  have h1:=h x List.mem_cons_self
  have h2:=Bc3 (l:=l) fun y hy=>h y (List.mem_cons_of_mem _ hy)
  simp only[List.sum_cons,List.length_cons];omega
theorem Bf2(r:Int)(l:List Int)(hl:l.length≤4000)(hx:∀x∈l,10≤x):∀(j i q:Nat) (n:Int),i+j=l.length→j<q→0≤n→n+(l.drop i).sum≤4000→Ik r l q n (i:Int)=some (n+(l.drop i).sum,r)
 |0,i,q+1,n,hi,_,_,_=>by
  rw[Ik,Rq,if_neg (by rw[Af,Ac];simp;omega),show i=l.length by omega,List.drop_length]
  simp[Acp,Adb]
 |j+1,i,q+1,n,hi,hq,hn,hs=>by
  have hlt:i<l.length:=by omega
  rw[drop_cons hlt,List.sum_cons]at hs⊢
  have h1:=hx l[i] (List.getElem_mem hlt)
  have h2:=Bc3 (l:=l.drop (i+1)) fun y hy=>hx y (List.mem_of_mem_drop hy)
  rw[Ik,Rq,if_pos (by rw[Af,Ac];simp;omega),Cc hlt,Aa,Aa,Ah (by omega) (by omega),Ah (by omega) (by omega)]
  have ih:=Bf2 r l hl hx j (i+1) q (n+l[i]) (by omega) (by omega) (by omega) (by omega)
  rw[show((i:Int)+1)=((i+1:Nat):Int) by omega,ih]
  congr 2;omega
def frontS(b:List UInt8):Int×Int:=Bhl b (b.length+1) 0
theorem Atr(b:List UInt8)(hl:b.length<4611686018427387904):Hy b=some (frontS b):=by
 have:=Beo b hl (b.length+1) 0 FUEL (by omega) (by omega) (by omega) (by have:=Am;omega)
 exact this
theorem Blb(b:List UInt8)(hl:b.length<4611686018427387904):Qa b=some (frontS b):=by
 have h:=Bib b hl (b.length+1) 0 FUEL [] (by omega) (by omega) (by omega) (by have:=Am;omega) (by simp)
 have h':Aiy b=some (Bxs b (b.length+1) 0 []):=h
 rw[Qa,Acw,h',Aa,frontS,Bhl,Bxs]
 have ho:=Au0 b (b.length+1) 0 (by omega) (by omega)
 by_cases h0:(Bn b (b.length+1) 0).2=0
 ·obtain⟨i1,i2,i3⟩:=ho h0
  have hp:=Bc3 i1
  simp only[h0,if_true,List.nil_append]
  have:=Bf2 0 (Bn b (b.length+1) 0).1 (by omega) i1 (Bn b (b.length+1) 0).1.length 0 FUEL 0 (by omega) (by have:=Am;omega) (by omega) (by simpa using i3)
  simpa [Rp]using this
 ·simp only[h0,if_false]
  have:=Bf2 (Bn b (b.length+1) 0).2 [] (by simp) (by simp) 0 0 FUEL 0 (by simp) (by have:=Am;omega) (by omega) (by simp)
  simpa [Rp]using this
theorem Auu{b:List UInt8}(h:(frontS b).2=0):0≤(frontS b).1∧(frontS b).1≤b.length∧(frontS b).1≤4000:=by
 unfold frontS Bhl at h⊢
 split at h
 ·rename_i h0
  rw[if_pos h0]
  obtain⟨i1,i2,i3⟩:=Au0 b (b.length+1) 0 (by omega) (by omega) h0
  have hp:=Bc3 i1
  exact⟨by simp;omega,i2,i3⟩
 ·rename_i h0;exact absurd h h0
end Go.Pl
set_option linter.unusedVariables false
set_option linter.unusedSimpArgs false
namespace Go.Pl
open Go Go.Lv
def longN(r:Nat):Nat:=max 1 (256*r/245)
theorem Rh(r:Nat):1≤longN r:=Nat.le_max_left _ _
theorem Bft{r:Nat}(h:r≤1048576):longN r≤1100000:=by unfold longN;omega
theorem Bo6{r:Nat}(h:r≤1048576):Ant (1:Int) (Ck (Bi (256:Int) (r:Int)) (245:Int))=(longN r:Int):=by
 rw[Ib (by omega) (by omega),Ag3,Int.tdiv_eq_ediv_of_nonneg (by omega),Ce (by omega) (by omega),Bd3,longN];omega
def framesL(g n:Nat):List Int:=List.replicate ((n-1)/g) (g:Int)++[((n-(n-1)/g*g:Nat):Int)]
theorem Baw(g n:Nat):(framesL g n).length=(n-1)/g+1:=by simp[framesL]
theorem Bhi{g n:Nat}(h:n≤g)(h1:1≤n):framesL g n=[(n:Int)]:=by
 rw[framesL,Nat.div_eq_of_lt (by omega)];simp
theorem Bl9{g n:Nat}(hg:1≤g)(h:g<n):framesL g n=(g:Int)::framesL g (n-g):=by
 have e:(n-1)/g=(n-g-1)/g+1:=by rw[←Nat.add_div_right _ (by omega)];congr 1;omega
 rw[framesL,framesL,e,List.replicate_succ,List.cons_append]
 congr 4
 have:=Nat.div_mul_le_self (n-g-1) g
 rw[Nat.add_mul,Nat.one_mul];omega
theorem Ay9{g n:Nat}(hg:1≤g)(h1:1≤n):(n+g-1)/g=(n-1)/g+1:=by
 rw[←Nat.add_div_right _ (by omega)];congr 1;omega
theorem Bhu{r:Nat}(h1:1≤r)(h:r≤1048576):Aby (r:Int)=some ((longN r:Int),0):=by
 rw[Aby,if_neg (by simp[Af,Aq];omega),Bo6 h]
theorem By0{r:Nat}(h:r≤1048576):Tr (r:Int)=some (longN r:Int):=by rw[Tr,Bo6 h]
theorem Bfp{r n:Nat}(h1:1≤r)(h:r≤1048576)(n1:1≤n)(n2:n≤4000):Rg (r:Int) (n:Int)=some (if 1000<(n-1)/longN r+1 then(0,4)else((((n-1)/longN r+1:Nat):Int),0)):=by
 have hp:=Rh r
 have hl:=Bft h
 have e:Ck (Aj (Ae (n:Int) (longN r:Int)) (1:Int)) (longN r:Int)=(((n-1)/longN r+1:Nat):Int):=by
  have:(n+longN r-1)/longN r≤n+longN r-1:=Nat.div_le_self _ _
  rw[Ah (by omega) (by omega),Bv (by omega) (by omega),Ag3,Int.tdiv_eq_ediv_of_nonneg (by omega),show(n:Int)+(longN r:Int)-1=((n+longN r-1:Nat):Int) by omega,←Int.natCast_ediv,Ay9 hp n1]
  rw[Ay9 hp n1]at this
  generalize(n-1)/longN r=k at*
  exact Ce (by omega) (by omega)
 rw[Rg,Bhu h1 h,Aa]
 simp only
 rw[if_neg (by rw[Ak];simp),if_neg (by simp[Af,Aq];omega),Cv (by rw[Ak];simp;omega),Aa,e]
 by_cases hk:1000<(n-1)/longN r+1
 ·rw[if_pos (by rw[Aq];simp;omega),if_pos hk]
 ·rw[if_neg (by rw[Aq];simp;omega),if_neg hk]
theorem Bgt{r:Nat}(h:r≤1048576):∀(j n q:Nat) (acc:List Int),n≤4000→n≤j→j<q→acc.length+n≤10000→Ei (r:Int) q (n:Int) acc=some (acc++(if n=0 then []else framesL (longN r) n))
 |0,n,q+1,acc,hn,hj,hq,ha=>by
  obtain rfl:n=0:=by omega
  rw[Ei,Ir,if_neg (by rw[Aq];simp)]
  simp[Mm,Mk]
 |j+1,n,q+1,acc,hn,hj,hq,ha=>by
  have hp:=Rh r
  have hl:=Bft h
  by_cases h0:n=0
  ·subst h0
   rw[Ei,Ir,if_neg (by rw[Aq];simp)]
   simp[Mm,Mk]
  ·rw[Ei,Ir,if_pos (by rw[Aq];simp;omega),By0 h,Aa,Cj (by simp;omega),Aa,Aa,Bv (by omega) (by omega),Agt]
   by_cases hs:n≤longN r
   ·rw[show min (n:Int) (longN r:Int)=(n:Int) by omega,if_neg h0,Bhi hs (by omega)]
    have hz:∃k,q=k+1:=⟨q-1,by omega⟩
    obtain⟨q,rfl⟩:=hz
    rw[Ei,Ir,if_neg (by rw[Aq];simp;omega)]
    simp[Mm,Mk]
   ·rw[show min (n:Int) (longN r:Int)=(longN r:Int) by omega,show(n:Int)-(longN r:Int)=((n-longN r:Nat):Int) by omega,Bgt h j (n-longN r) q _ (by omega) (by omega) (by omega) (by simp;omega),if_neg (by omega),if_neg h0,Bl9 hp (show longN r<n by omega)]
    simp
theorem Axr{r n:Nat}(h:r≤1048576)(n1:1≤n)(n2:n≤4000):Jm (r:Int) (n:Int)=some (framesL (longN r) n):=by
 have:=Bgt h n n FUEL [] n2 (Nat.le_refl _) (by have:=Am;omega) (by simp;omega)
 rw[Jm,Acy,Ac0,this,if_neg (by omega)];rfl
theorem mul_one(m:Nat)(h:m≤100000):Aeo (1:UInt64) (UInt64.ofNat m)=some (0,UInt64.ofNat m):=by
 have y1:(UInt64.ofNat m).toNat=m:=Ala (by omega)
 have s1:Bu (1:UInt64) (GI.toZ (32:UInt64)).toNat=0:=by decide
 have s2:Bu (UInt64.ofNat m) (GI.toZ (32:UInt64)).toNat=0:=by
  apply UInt64.toNat_inj.1
  rw[Agc,y1]
  exact Nat.div_eq_of_lt (Nat.lt_of_le_of_lt h (by decide))
 have s0:Bu (0:UInt64) (GI.toZ (32:UInt64)).toNat=0:=by decide
 have a1:Ds (1:UInt64) (4294967295:UInt64)=1:=by decide
 have a0:Ds (0:UInt64) (4294967295:UInt64)=0:=by decide
 have a2:Ds (UInt64.ofNat m) (4294967295:UInt64)=UInt64.ofNat m:=by
  apply UInt64.toNat_inj.1
  rw[Bds,UInt64.toNat_and,y1]
  show m&&& (2^32-1)=m
  rw[Nat.and_two_pow_sub_one_eq_mod,Nat.mod_eq_of_lt (by omega)]
 have m1:∀x:UInt64,Bi 1 x=x:=fun x=>by rw[Aex,UInt64.one_mul]
 have m0:∀x:UInt64,Bi 0 x=0:=fun x=>by rw[Aex,UInt64.zero_mul]
 have p0:∀x:UInt64,Ae 0 x=x:=fun x=>by rw[Afl,UInt64.zero_add]
 have p1:∀x:UInt64,Ae x 0=x:=fun x=>by rw[Afl,UInt64.add_zero]
 rw[Aeo,Agz]
 simp only[s1,s2,a1,a2,m1,m0,p0,p1,s0,a0,Aa]
theorem Bb9(v:Int)(m:Nat)(hm:m≤100000):∀(j n q:Nat),1≤n→n≤m→m-n≤j→j<q→Ed q (n:Int) (List.replicate n v++List.replicate (m-n) 0)=some (List.replicate m v)
 |j,n,q+1,hn,hnm,hj,hq=>by
  have hlen:Ac (List.replicate n v++List.replicate (m-n) 0)=(m:Int):=by simp[Ac];omega
  rw[Ed,Gc,hlen]
  by_cases h:n<m
  ·obtain⟨j,rfl⟩:∃k,j=k+1:=⟨j-1,by omega⟩
   rw[if_pos (by rw[Af];simp;omega)]
   have v1:vwI (m:Int) (n:Int) (m:Int)=some ():=by rw[vwI,Cv];simp;omega
   have v2:vwI (m:Int) (0:Int) (n:Int)=some ():=by rw[vwI,Cv];simp;omega
   have e1:Amc (List.replicate n v++List.replicate (m-n) 0) (0:Int) ((n:Int)-0)=List.replicate n v:=by
    simp[Amc]
   rw[v1,Aa,v2,Aa,e1]
   have e2:Ai8 ((m:Int)-(n:Int)) (List.replicate n v).length=((min n (m-n):Nat):Int):=by
    rw[Ai8,List.length_replicate];split<;>omega
   have e3:Se (List.replicate n v++List.replicate (m-n) 0) (n:Int) ((m:Int)-(n:Int)) (List.replicate n v)=List.replicate (n+min n (m-n)) v++List.replicate (m-(n+min n (m-n))) 0:=by
    have t1:((m:Int)-(n:Int)).toNat=m-n:=by omega
    have t2:(List.replicate n v++List.replicate (m-n) (0:Int)).take n=List.replicate n v:=by simp
    rw[Se,t1,Int.toNat_natCast,t2,List.take_replicate,List.length_replicate,←List.append_assoc,List.replicate_append_replicate,List.drop_append,List.length_replicate,Nat.min_comm (m-n) n]
    simp only[List.drop_replicate]
    rw[show n-(n+min n (m-n))=0 by omega,List.replicate_zero,List.nil_append,show m-n-(n+min n (m-n)-n)=m-(n+min n (m-n)) by omega]
   rw[e2,e3,Ah (by omega) (by omega),show(n:Int)+((min n (m-n):Nat):Int)=((n+min n (m-n):Nat):Int) by omega]
   exact Bb9 v m hm j (n+min n (m-n)) q (by omega) (by omega) (by omega) (by omega)
  ·rw[if_neg (by rw[Af];simp;omega)]
   obtain rfl:n=m:=by omega
   simp[If,Mw]
theorem Buw(v:Int)(m:Nat)(hm:m≤100000):Mn [v] (m:Int)=some (List.replicate m v):=by
 have y1:(UInt64.ofNat m).toNat=m:=Ala (by omega)
 have c1:(Ad (Ac [v]):UInt64)=1:=by rfl
 have c2:(Ad (m:Int):UInt64)=UInt64.ofNat m:=Zm m
 have c3:(Ad (UInt64.ofNat m):Int)=(m:Int):=by rw[Azo (by omega),y1]
 rw[Mn,Nt,if_neg (by rw[Af];simp),Ny,Nl,c1,c2,mul_one m hm,Aa]
 simp only
 rw[if_neg (by rw[Ak9,Ak9,y1];simp;show m≤9223372036854775807;omega),Nz,Nm,c3,Bdx (by omega) (by omega),Aa,Cv (by rw[Ap];simp),Aa,Nu,Int.toNat_natCast]
 by_cases h0:m=0
 ·subst h0
  have hF:FUEL=(FUEL-1)+1:=by have:=Am;omega
  rw[hF,Ed,Gc]
  simp[Ac,Bdw,Ai8,Af,If,Mw]
 ·have:=Bb9 v m hm m 1 FUEL (by omega) (by omega) (by omega) (by have:=Am;omega)
  have e1:Ai8 (Ac (List.replicate m (0:Int))) [v].length=((1:Nat):Int):=by simp[Ai8,Ac];omega
  have e2:Bdw (List.replicate m (0:Int)) [v]=List.replicate 1 v++List.replicate (m-1) 0:=by
   obtain⟨k,rfl⟩:∃k,m=k+1:=⟨m-1,by omega⟩
   simp[Bdw]
  rw[e1,e2,this]
theorem Bvo(l m:List Int)(h:l.length+m.length≤1000000):Mh [l,m]=some (l++m):=by
 have hF:FUEL=(FUEL-3)+1+1+1:=by have:=Am;omega
 rw[Mh,Nx,Nq]
 have g0:getI [l,m] (0:Int)=some l:=rfl
 have g1:getI [l,m] (1:Int)=some m:=rfl
 have l2:Ac [l,m]=2:=rfl
 have h3:Ih [l,m] []=some (l++m):=by
  rw[Ih,Mt,Mu,hF,Dp,Fv,l2,if_pos (by decide),g0,Aa,Cj (by simp;omega),Aa,List.nil_append,show Ae (0:Int) 1=1 by decide,
   Dp,Fv,l2,if_pos (by decide),g1,Aa,Cj (by omega),Aa,show Ae (1:Int) 1=2 by decide,Dp,Fv,l2,if_neg (by decide)]
  rfl
 rw[hF,Ee,Ge,l2,if_pos (by decide),g0,Aa,Ah (by unfold Ac;omega) (by unfold Ac;omega),if_neg (by rw[Af,Ac];simp),show Ae (0:Int) 1=1 by decide,
  Ee,Ge,l2,if_pos (by decide),g1,Aa,Ah (by unfold Ac;omega) (by unfold Ac;omega),if_neg (by rw[Af,Ac,Ac];simp;omega),show Ae (1:Int) 1=2 by decide,
  Ee,Ge,l2,if_neg (by decide),Mv,Mx,if_neg (by rw[Af,Ac,Ac];simp;omega),Mr,Ms]
 have z:Aj (0:Int) 0=0:=by decide
 have n0:(0:Int)+Ac l+Ac m=((l.length+m.length:Nat):Int):=by simp[Ac]
 rw[z,n0,Bv (by omega) (by omega),Int.sub_zero]
 by_cases hp:0<l.length+m.length
 ·rw[if_pos (by rw[Aq];simp;omega),show vwI (0:Int) 0 0=some ()from rfl,Aa,Bdx (by omega) (by omega),Aa,Cj (by simp;omega),Aa]
  rw[show vwI (Ac ([]++List.replicate ((l.length+m.length:Nat):Int).toNat (0:Int))) 0 0=some () by rw[vwI,Cv];simp[Ac];omega,Aa]
  simp only[Amc,Int.sub_self,Int.toNat_zero,List.take_zero]
  exact h3
 ·rw[if_neg (by rw[Aq];simp;omega)];exact h3
theorem By9{r n:Nat}(h1:1≤r)(h:r≤1048576)(n1:1≤n)(n2:n≤4000)(hk:(n-1)/longN r+1≤1000):Up (r:Int) (n:Int)=some (framesL (longN r) n,0):=by
 have hp:=Rh r
 have hl:=Bft h
 have hd:=Nat.div_mul_le_self (n-1) (longN r)
 rw[Up,Bfp h1 h n1 n2,if_neg (by omega),Aa]
 simp only
 rw[if_neg (by rw[Ak];simp),Bhu h1 h,Aa]
 simp only
 rw[framesL]
 generalize(n-1)/longN r=k at*
 have e1:Aj ((k+1:Nat):Int) 1=(k:Int):=by rw[Bv (by omega) (by omega)];omega
 have e2:(k:Int)*(longN r:Int)=((k*longN r:Nat):Int):=by simp
 rw[e1,Buw _ _ (by omega),Aa,Ib (by rw[e2];omega) (by rw[e2];omega),e2,Bv (by omega) (by omega),Ako,Bvo _ _ (by simp;omega),Aa,Aa,show(n:Int)-((k*longN r:Nat):Int)=((n-k*longN r:Nat):Int) by omega]
end Go.Pl
set_option linter.unusedVariables false
set_option linter.unusedSimpArgs false
namespace Go.Pl
open Go Go.Lv
def shapeB(f c w r n:Nat):Bool:=decide ((f=1∨f=2)∧(1≤c∧c≤6)∧(w=8∨w=16∨w=24)∧(1≤r∧r≤1048576)∧1≤n)
def fitB(c r n:Nat):Bool:=decide (n≤4000/c∧(n-1)/longN r+1≤1000)
theorem Asg(f c w r n:Nat):Nn (f:Int) (c:Int) (w:Int) (r:Int) (n:Int)=some (shapeB f c w r n):=by
 have e2:Lh (f:Int) (c:Int) (w:Int) (r:Int) (n:Int)=some (decide ((f=1∨f=2)∧(1≤c∧c≤6)∧(1≤r∧r≤1048576)∧1≤n)):=by
  rw[Lh,Adj]
  congr 1
  rw[Bool.eq_iff_iff]
  simp only[Ap,Aq,Ahl,Bool.and_eq_true,Bool.or_eq_true,beq_iff_eq,decide_eq_true_eq]
  omega
 have g:∀k:Nat,geq (w:Int) (k:Int)=decide (w=k):=fun k=>by rw[Ap,Bool.eq_iff_iff];simp;omega
 have g8:geq (w:Int) (8:Int)=decide (w=8):=g 8
 have g16:geq (w:Int) (16:Int)=decide (w=16):=g 16
 have g24:geq (w:Int) (24:Int)=decide (w=24):=g 24
 rw[Nn,Va,e2,g8,g16,g24,shapeB]
 by_cases h8:w=8
 ·subst h8;simp
 ·by_cases h16:w=16
  ·subst h16;simp
  ·by_cases h24:w=24
   ·subst h24;simp
   ·simp[h8,h16,h24]
theorem Awh(f c w r n:Nat):Hu (f:Int) (c:Int) (w:Int) (r:Int) (n:Int)=some (shapeB f c w r n):=by
 rw[Hu,shapeB]
 simp only[Ap,Dx,Ahl,Bool.and_eq_true,Bool.or_eq_true,beq_iff_eq,decide_eq_true_eq,Bool.false_and]
 split
 ·rename_i h
  congr 1
  rw[Bool.eq_iff_iff]
  simp only[Bool.and_eq_true,Bool.or_eq_true,beq_iff_eq,decide_eq_true_eq]
  omega
 ·rename_i h
  congr 1
  symm
  rw[decide_eq_false_iff_not]
  omega
theorem Cdx{c:Nat}(h:1≤c):Ck (4000:Int) (c:Int)=((4000/c:Nat):Int):=by
 have:4000/c≤4000:=Nat.div_le_self _ _
 rw[Ag3,Int.tdiv_eq_ediv_of_nonneg (by omega),show(4000:Int)=((4000:Nat):Int)from rfl,←Int.natCast_ediv]
 generalize 4000/c=k at*
 exact Ce (by omega) (by omega)
theorem Az8{f c w r n:Nat}(h:shapeB f c w r n=true):Af7 (f:Int) (c:Int) (w:Int) (r:Int) (n:Int)=some (fitB c r n):=by
 simp only[shapeB,decide_eq_true_eq]at h
 have hd:4000/c≤4000:=Nat.div_le_self _ _
 rw[Af7,Cv (by rw[Ak];simp;omega),Aa,Cdx (by omega),fitB]
 generalize 4000/c=m at*
 by_cases h1:n≤m
 ·rw[if_neg (by rw[Aq];simp;omega),Bfp (by omega) (by omega) (by omega) (by omega),Aa]
  generalize(n-1)/longN r+1=k
  by_cases h2:1000<k
  ·rw[if_pos h2]
   simp[Ap,Ahl]
   omega
  ·rw[if_neg h2]
   simp[Ap,Ahl,h1]
   omega
 ·rw[if_pos (by rw[Aq];simp;omega)]
  simp[h1]
theorem Bfx{f c w r n:Nat}(h:shapeB f c w r n=true):Sm (f:Int) (c:Int) (w:Int) (r:Int) (n:Int)=some (!fitB c r n):=by
 simp only[shapeB,decide_eq_true_eq]at h
 have hd:4000/c≤4000:=Nat.div_le_self _ _
 rw[Sm,Cv (by rw[Ak];simp;omega),Aa,Cdx (by omega),fitB]
 generalize 4000/c=m at*
 by_cases h1:n≤m
 ·rw[if_neg (by rw[Aq];simp;omega),Axr (by omega) (by omega) (by omega),Aa,Ac,Baw]
  generalize(n-1)/longN r+1=k
  congr 1
  rw[Aq,Bool.eq_iff_iff]
  simp only[decide_eq_true_eq,Bool.not_eq_true',decide_eq_false_iff_not]
  omega
 ·rw[if_pos (by rw[Aq];simp;omega)]
  simp[h1]
def As1:List UInt8:=[84,84,65,49]
def f0(b:List UInt8):Nat:=Eh (part b 4 2)
def f1(b:List UInt8):Nat:=Eh (part b 6 2)
def f2(b:List UInt8):Nat:=Eh (part b 8 2)
def f3(b:List UInt8):Nat:=Eh (part b 10 4)
def f4(b:List UInt8):Nat:=Eh (part b 14 4)
abbrev H6:=Int×Int×Int×Int×Int×Int
def readS(b:List UInt8):H6:=
 if b.take (min 4 b.length)≠As1.take (min 4 b.length)then(0,0,0,0,0,12)else if b.length<22 then(0,0,0,0,0,24)else
 if(Ha (b.take 18)).toNat≠Eh (part b 18 4)then(0,0,0,0,0,22)else
 if shapeB (f0 b) (f1 b) (f2 b) (f3 b) (f4 b)=false then(0,0,0,0,0,12)else
 if fitB (f1 b) (f3 b) (f4 b)=false then(0,0,0,0,0,4)else((f0 b:Int),(f1 b:Int),(f2 b:Int),(f3 b:Int),(f4 b:Int),0)
section
variable {b:List UInt8}
theorem rs1(h:b.take (min 4 b.length)≠As1.take (min 4 b.length)):readS b=(0,0,0,0,0,12):=by rw[readS,if_pos h]
variable (h:b.take (min 4 b.length)=As1.take (min 4 b.length))
include h
theorem rs2(h2:b.length<22):readS b=(0,0,0,0,0,24):=by rw[readS,if_neg (fun e=>e h),if_pos h2]
variable (h2:¬b.length<22)
include h2
theorem rs3(h3:(Ha (b.take 18)).toNat≠Eh (part b 18 4)):readS b=(0,0,0,0,0,22):=by rw[readS,if_neg (fun e=>e h),if_neg h2,if_pos h3]
variable (h3:(Ha (b.take 18)).toNat=Eh (part b 18 4))
include h3
theorem rs4(h4:shapeB (f0 b) (f1 b) (f2 b) (f3 b) (f4 b)=false):readS b=(0,0,0,0,0,12):=by rw[readS,if_neg (fun e=>e h),if_neg h2,if_neg (fun e=>e h3),if_pos h4]
variable (h4:shapeB (f0 b) (f1 b) (f2 b) (f3 b) (f4 b)=true)
include h4
theorem rs5(h5:fitB (f1 b) (f3 b) (f4 b)=false):readS b=(0,0,0,0,0,4):=by rw[readS,if_neg (fun e=>e h),if_neg h2,if_neg (fun e=>e h3),if_neg (by rw[h4];simp),if_pos h5]
theorem rs6(h5:fitB (f1 b) (f3 b) (f4 b)=true):readS b=((f0 b:Int),(f1 b:Int),(f2 b:Int),(f3 b:Int),(f4 b:Int),0):=by rw[readS,if_neg (fun e=>e h),if_neg h2,if_neg (fun e=>e h3),if_neg (by rw[h4];simp),if_neg (by rw[h5];simp)]
end
theorem Bwk(b:List UInt8)(h2:¬b.length<22):Ax (Ad (Ha (b.take 18)):UInt64) (leU (part b 18 4))=decide ((Ha (b.take 18)).toNat≠Eh (part b 18 4)):=by
 rw[Ahz,Hx,Bool.eq_iff_iff]
 simp only[bne_iff_ne,ne_eq,decide_eq_true_eq]
 rw[←UInt64.toNat_inj,Ala (by have:=(Ha (b.take 18)).toNat_lt;omega),Alk (by rw[Df (by omega)];omega)]
theorem As4(b:List UInt8)(a w:Nat)(i q:Nat)(l:List Int)(hi:i<5)(hl:l.length=5)(hw:getI ([2,2,2,4,4]:List Int) (i:Int)=some (w:Int))(h1:1≤w)(h4:w≤4)(ha:a+w≤b.length)(hb:b.length<4611686018427387904):
  Lz b (q+1) (a:Int) (i:Int) l=Lz b q ((a+w:Nat):Int) ((i+1:Nat):Int) (l.set i (Eh (part b a w):Int)):=by
 rw[Lz,Aci,if_pos (by rw[Af];simp;omega),hw,Aa,Bjm b a w h1 (by omega) ha hb,Aa]
 simp only
 rw[Cc (by omega),Aa,Vy _ (by omega),Aa,Ael (by rw[Df ha];omega),Ah (by omega) (by omega),Ah (by omega) (by omega)]
 rfl
theorem Byj(b:List UInt8)(h22:¬b.length<22)(hb:b.length<4611686018427387904):Aay b 4 0 (List.replicate 5 0)=Aa9 [(f0 b:Int),(f1 b:Int),(f2 b:Int),(f3 b:Int),(f4 b:Int)]:=by
 have hF:FUEL=(FUEL-6)+1+1+1+1+1+1:=by have:=Am;omega
 rw[Aay,hF,show(4:Int)=((4:Nat):Int)from rfl,show(0:Int)=((0:Nat):Int)from rfl]
 rw[As4 b 4 2 0 _ _ (by omega) (by simp) rfl (by omega) (by omega) (by omega) hb,As4 b 6 2 1 _ _ (by omega) (by simp) rfl (by omega) (by omega) (by omega) hb,As4 b 8 2 2 _ _ (by omega) (by simp) rfl (by omega) (by omega) (by omega) hb,
  As4 b 10 4 3 _ _ (by omega) (by simp) rfl (by omega) (by omega) (by omega) hb,As4 b 14 4 4 _ _ (by omega) (by simp) rfl (by omega) (by omega) (by omega) hb,Lz,Aci,if_neg (by rw[Af];simp)]
 rfl
theorem Chx(b:List UInt8):Hr [84,84,65,49] (b.take (min 4 b.length))=some (decide (b.take (min 4 b.length)=As1.take (min 4 b.length))):=by
 have hl:(b.take (min 4 b.length)).length=min 4 b.length:=by rw[List.length_take];omega
 rw[Hr,Fq,if_pos (by rw[Dx,Ac,Ac,hl];simp;omega),Ac,hl,Cs (by omega) (by simp;omega),Aa,Aa,Int.toNat_natCast]
 congr 1
 rw[Bool.eq_iff_iff]
 rw[decide_eq_true_eq,beq_iff_eq]
 exact eq_comm
theorem Cg0(b:List UInt8):Dk (4:Int) (Ac b)=((min 4 b.length:Nat):Int):=by rw[Agt,Ac];omega
theorem Bil(b:List UInt8)(hb:b.length<4611686018427387904):Ld b=some (readS b):=by
 rw[Ld,Ajh,Cg0,Cs (by omega) (by omega),Aa,Int.toNat_natCast,Chx,Aa]
 by_cases h:b.take (min 4 b.length)=As1.take (min 4 b.length)
 ·rw[if_neg (by simpa using h)]
  by_cases h2:b.length<22
  ·rw[if_pos (by rw[Af,Ac];simp;omega),rs2 h h2]
  ·have a1:Amt b 18 4=some (leU (part b 18 4),0):=Bjm b 18 4 (by omega) (by omega) (by omega) hb
   rw[if_neg (by rw[Af,Ac];simp;omega),a1,Aa]
   simp only
   rw[Cs (by omega) (by omega),Aa,show(18:Int).toNat=18 from rfl,Bq1 _ (by simp;omega),Aa]
   simp only
   rw[Bwk b h2]
   by_cases h3:(Ha (b.take 18)).toNat=Eh (part b 18 4)
   ·rw[if_neg (by simpa using h3),Byj b h2 hb,Aa9,Atc]
    rw[show getI [(f0 b:Int),(f1 b:Int),(f2 b:Int),(f3 b:Int),(f4 b:Int)] 0=some (f0 b:Int)from rfl,show getI [(f0 b:Int),(f1 b:Int),(f2 b:Int),(f3 b:Int),(f4 b:Int)] 1=some (f1 b:Int)from rfl,show getI [(f0 b:Int),(f1 b:Int),(f2 b:Int),(f3 b:Int),(f4 b:Int)] 2=some (f2 b:Int)from rfl,
     show getI [(f0 b:Int),(f1 b:Int),(f2 b:Int),(f3 b:Int),(f4 b:Int)] 3=some (f3 b:Int)from rfl,show getI [(f0 b:Int),(f1 b:Int),(f2 b:Int),(f3 b:Int),(f4 b:Int)] 4=some (f4 b:Int)from rfl]
    simp only[Aa,Asg]
    cases h4:shapeB (f0 b) (f1 b) (f2 b) (f3 b) (f4 b)with
    |false=>rw[rs4 h h2 h3 h4];rfl
    |true=>
     rw[Az8 h4,if_neg (by simp),Aa]
     cases h5:fitB (f1 b) (f3 b) (f4 b)with
     |false=>rw[rs5 h h2 h3 h4 h5];rfl
     |true=>rw[rs6 h h2 h3 h4 h5];rfl
   ·rw[if_pos (by simpa using h3),rs3 h h2 h3]
 ·rw[if_pos (by simpa using h),rs1 h]
theorem Bxc(b:List UInt8)(hb:b.length<4611686018427387904):Te b=some (readS b):=by
 rw[Te,Afv,Cg0,Cs (by omega) (by omega),Aa,Int.toNat_natCast,Cs (by omega) (by simp;omega),Aa,Int.toNat_natCast]
 by_cases h:b.take (min 4 b.length)=As1.take (min 4 b.length)
 ·rw[if_neg (by rw[h];simp[As1]),Ae6,Aff]
  by_cases h2:b.length<22
  ·rw[if_pos (by rw[Af,Ac];simp;omega),rs2 h h2]
  ·have a1:Bb b 18 22=some (part b 18 4):=Ni 18 4 (by omega)
   have c1:Bb b 4 6=some (part b 4 2):=Ni 4 2 (by omega)
   have c2:Bb b 6 8=some (part b 6 2):=Ni 6 2 (by omega)
   have c3:Bb b 8 10=some (part b 8 2):=Ni 8 2 (by omega)
   have c4:Bb b 10 14=some (part b 10 4):=Ni 10 4 (by omega)
   have c5:Bb b 14 18=some (part b 14 4):=Ni 14 4 (by omega)
   have hs:Ax (leU (part b 18 4)) (Ad (Ha (b.take 18)):UInt64)=decide ((Ha (b.take 18)).toNat≠Eh (part b 18 4)):=by
    rw[←Bwk b h2,Ahz,Ahz,Bool.eq_iff_iff];simp only[bne_iff_ne,ne_eq];exact not_congr eq_comm
   have lp:∀a w,a+w≤b.length→Cy (part b a w)=some (leU (part b a w)):=fun a w h=>Bl3 _ (by rw[Df h];omega)
   rw[if_neg (by rw[Af,Ac];simp;omega),a1,Aa,Cs (by omega) (by omega),Aa,show(18:Int).toNat=18 from rfl,lp _ _ (by omega),Aa,Bzq _ (by simp;omega),Aa,hs]
   by_cases h3:(Ha (b.take 18)).toNat=Eh (part b 18 4)
   ·rw[if_neg (by simpa using h3),Af3,Af0,c1,Aa,c2,Aa,c3,Aa,c4,Aa,c5,Aa,lp _ _ (by omega),Aa,lp _ _ (by omega),Aa,lp _ _ (by omega),Aa,lp _ _ (by omega),Aa,lp _ _ (by omega),Aa,
     Agd,Aew,Ael (by rw[Df (by omega)];omega),Ael (by rw[Df (by omega)];omega),Ael (by rw[Df (by omega)];omega),Ael (by rw[Df (by omega)];omega),Ael (by rw[Df (by omega)];omega)]
    rw[show Eh (part b 4 2)=f0 b from rfl,show Eh (part b 6 2)=f1 b from rfl,show Eh (part b 8 2)=f2 b from rfl,show Eh (part b 10 4)=f3 b from rfl,show Eh (part b 14 4)=f4 b from rfl,Awh,Aa]
    cases h4:shapeB (f0 b) (f1 b) (f2 b) (f3 b) (f4 b)with
    |false=>rw[rs4 h h2 h3 h4];rfl
    |true=>
     rw[Bfx h4,if_neg (by simp),Aa]
     cases h5:fitB (f1 b) (f3 b) (f4 b)with
     |false=>rw[rs5 h h2 h3 h4 h5];rfl
     |true=>rw[rs6 h h2 h3 h4 h5];rfl
   ·rw[if_pos (by simpa using h3),rs3 h h2 h3]
 ·rw[if_pos (by simpa [As1]using h),rs1 h]
theorem Bmm{b:List UInt8}(h:(readS b).2.2.2.2.2=0):readS b=((f0 b:Int),(f1 b:Int),(f2 b:Int),(f3 b:Int),(f4 b:Int),0)∧22≤b.length∧shapeB (f0 b) (f1 b) (f2 b) (f3 b) (f4 b)=true∧fitB (f1 b) (f3 b) (f4 b)=true:=by
 unfold readS at h⊢
 split at h; · simp at h
 rename_i c1;rw[if_neg c1]
 split at h; · simp at h
 rename_i c2;rw[if_neg c2]
 split at h; · simp at h
 rename_i c3;rw[if_neg c3]
 split at h; · simp at h
 rename_i c4;rw[if_neg c4]
 split at h; · simp at h
 rename_i c5;rw[if_neg c5]
 exact⟨rfl,by omega,by simpa using c4,by simpa using c5⟩
theorem Bl0{f c w r n:Nat}(h:shapeB f c w r n=true)(h2:fitB c r n=true):Cu (f:Int) (c:Int) (w:Int) (r:Int) (n:Int)=some (framesL (longN r) n,0):=by
 have hc:Pu (f:Int) (c:Int) (w:Int) (r:Int) (n:Int)=some 0:=by
  rw[Pu,Asg,Aa,h,if_neg (by simp),Az8 h,Aa,h2];rfl
 have hd:4000/c≤4000:=Nat.div_le_self _ _
 simp only[shapeB,decide_eq_true_eq]at h
 simp only[fitB,decide_eq_true_eq]at h2
 rw[Cu,hc,Aa,if_neg (by rw[Ak];simp),By9 (by omega) (by omega) (by omega) (by omega) h2.2]
 rfl
end Go.Pl
set_option linter.unusedVariables false
set_option linter.unusedSimpArgs false
namespace Go.Pl
open Go Go.Lv
def okL:List Int→Int→Bool
 |[],_=>true
 |x::l,left=>decide (5≤x∧x≤left)&&okL l (left-x)
theorem Bzj:∀l:List Int,(∀x∈l,5≤x)→0≤l.sum
 |[],_=>by simp
 |x::l,h=>by
  have h1:=h x List.mem_cons_self
  have h2:=Bzj l fun y hy=>h y (List.mem_cons_of_mem _ hy)
  rw[List.sum_cons];omega
theorem Ah2:∀(l:List Int) (left:Int),0≤left→(okL l left=true↔(∀x∈l,5≤x)∧l.sum≤left)
 |[],left,h=>by simp[okL];exact h
 |x::l,left,h=>by
  rw[okL,Bool.and_eq_true,decide_eq_true_eq,List.sum_cons]
  by_cases hx:5≤x∧x≤left
  ·rw[Ah2 l (left-x) (by omega)]
   constructor
   ·rintro⟨_,h1,h2⟩
    exact⟨fun y hy=>(List.mem_cons.1 hy).elim (fun e=>e▸hx.1) (h1 y),by omega⟩
   ·rintro⟨h1,h2⟩
    exact⟨hx,fun y hy=>h1 y (List.mem_cons_of_mem _ hy),by omega⟩
  ·constructor
   ·rintro⟨h1,_⟩;exact absurd h1 hx
   ·rintro⟨h1,h2⟩
    have h3:=h1 x List.mem_cons_self
    have:0≤l.sum:=Bzj l fun y hy=>h1 y (List.mem_cons_of_mem _ hy)
    omega
theorem Bex(l:List Int)(hl:l.length≤1000):∀(j i q:Nat) (left:Int),i+j=l.length→j<q→0≤left→left≤100000→Pb l q left (i:Int)=some (if okL (l.drop i) left=true then 0 else 8)
 |0,i,q+1,left,hi,_,_,_=>by
  rw[Pb,Aa1,if_neg (by rw[Af,Ac];simp;omega),show i=l.length by omega,List.drop_length];rfl
 |j+1,i,q+1,left,hi,hq,h0,h1=>by
  have hlt:i<l.length:=by omega
  rw[Pb,Aa1,if_pos (by rw[Af,Ac];simp;omega),Cc hlt,Aa,drop_cons hlt]
  by_cases h:5≤l[i]∧l[i]≤left
  ·rw[if_neg (by simp[Af,Aq];omega),Bv (by omega) (by omega),Ah (by omega) (by omega)]
   have ih:=Bex l hl j (i+1) q (left-l[i]) (by omega) (by omega) (by omega) (by omega)
   rw[show((i:Int)+1)=((i+1:Nat):Int) by omega,ih]
   simp[okL,h]
  ·rw[if_pos (by simp[Af,Aq];omega)]
   have:okL (l[i]::l.drop (i+1)) left=false:=by rw[okL,decide_eq_false h];rfl
   rw[this];rfl
def tabB(l:List Int):Bool:=decide (1≤l.length∧l.length≤1000)&&okL l 100000
theorem Bkk(l:List Int)(hl:l.length≤1000):Nc l=some (if tabB l=true then 0 else 8):=by
 rw[Nc,Abw,tabB]
 by_cases h:1≤l.length
 ·rw[if_neg (by rw[Ap,Aq,Ac];simp;constructor;(intro e;subst e;simp at h);omega),Ajm]
  have:=Bex l hl l.length 0 FUEL 100000 (by omega) (by have:=Am;omega) (by omega) (by omega)
  rw[List.drop_zero]at this
  rw[decide_eq_true (show 1≤l.length∧l.length≤1000 from⟨h,hl⟩),Bool.true_and]
  exact this
 ·have:l=[]:=by
   cases l with
   |nil=>rfl
   |cons _ _=>simp at h
  subst this;rfl
theorem Bi4(l:List Int)(hl:l.length≤1000):∀(j i q:Nat) (s:Int),i+j=l.length→j<q→0≤s→s≤100000*(i:Int)→Il l q s (i:Int)=some (if(∀x∈l.drop i,5≤x∧x≤100000)∧s+(l.drop i).sum≤100000 then 0 else 8)
 |0,i,q+1,s,hi,_,_,_=>by
  rw[Il,Ry,if_neg (by rw[Af,Ac];simp;omega),show i=l.length by omega,List.drop_length,Aab,Abu]
  by_cases h:s≤100000
  ·rw[if_neg (by rw[Aq];simp;omega),if_pos (by simp;omega)]
  ·rw[if_pos (by rw[Aq];simp;omega),if_neg (by simp;omega)]
 |j+1,i,q+1,s,hi,hq,h0,h1=>by
  have hlt:i<l.length:=by omega
  rw[Il,Ry,if_pos (by rw[Af,Ac];simp;omega),Cc hlt,Aa,drop_cons hlt]
  by_cases h5:l[i]<5
  ·rw[if_pos (by rw[Af];simpa using h5),if_neg (fun h=>by have:=(h.1 l[i] List.mem_cons_self).1;omega)]
  ·rw[if_neg (by rw[Af];simpa using h5),Aa]
   by_cases h6:100000<l[i]
   ·rw[if_pos (by rw[Aq];simpa using h6),if_neg (fun h=>by have:=(h.1 l[i] List.mem_cons_self).2;omega)]
   ·rw[if_neg (by rw[Aq];simpa using h6),Ac5,Adc,Cc hlt,Aa,Ah (by omega) (by omega),Ah (by omega) (by omega)]
    have ih:=Bi4 l hl j (i+1) q (s+l[i]) (by omega) (by omega) (by omega) (by omega)
    rw[show((i:Int)+1)=((i+1:Nat):Int) by omega,ih]
    have e:((∀x∈l.drop (i+1),5≤x∧x≤100000)∧s+l[i]+(l.drop (i+1)).sum≤100000)↔((∀x∈l[i]::l.drop (i+1),5≤x∧x≤100000)∧s+(l[i]::l.drop (i+1)).sum≤100000):=by
     rw[List.sum_cons,List.forall_mem_cons,Int.add_assoc]
     constructor
     ·rintro⟨a,b⟩;exact⟨⟨by omega,a⟩,b⟩
     ·rintro⟨⟨_,a⟩,b⟩;exact⟨a,b⟩
    simp only[e]
theorem Bjs:∀{l:List Int},(∀x∈l,5≤x)→∀x∈l,x≤l.sum
 |[],_,x,hx=>by simp at hx
 |y::l,h,x,hx=>by
  have h1:=h y List.mem_cons_self
  have h2:=Bzj l fun z hz=>h z (List.mem_cons_of_mem _ hz)
  rw[List.sum_cons]
  rcases List.mem_cons.1 hx with rfl|hx
  ·omega
  ·have:=Bjs (l:=l) (fun z hz=>h z (List.mem_cons_of_mem _ hz)) x hx
   omega
theorem Bm1(l:List Int)(hl:l.length≤1000):Gm l=some (if tabB l=true then 0 else 8):=by
 rw[Gm,Rw,tabB]
 by_cases h:1≤l.length
 ·have:=Bi4 l hl l.length 0 FUEL 0 (by omega) (by have:=Am;omega) (by omega) (by omega)
  rw[if_neg (by rw[Af,Aq,Ac];simp;omega),Acr]
  refine Eq.trans this ?_
  rw[List.drop_zero,decide_eq_true (show 1≤l.length∧l.length≤1000 from⟨h,hl⟩),Bool.true_and]
  have e:((∀x∈l,5≤x∧x≤100000)∧0+l.sum≤100000)↔okL l 100000=true:=by
   rw[Ah2 l 100000 (by omega),Int.zero_add]
   constructor
   ·rintro⟨a,b⟩;exact⟨fun x hx=>(a x hx).1,b⟩
   ·rintro⟨a,b⟩;exact⟨fun x hx=>⟨a x hx,Int.le_trans (Bjs a x hx) b⟩,b⟩
  simp only[e]
 ·have:l=[]:=by
   cases l with
   |nil=>rfl
   |cons _ _=>simp at h
  subst this;rfl
theorem Ar0(l:List Int):Nc l=some (if tabB l=true then 0 else 8):=by
 by_cases hl:l.length≤1000
 ·exact Bkk l hl
 ·rw[Nc,Abw,if_pos (by rw[Aq,Ac];simp;omega),tabB,decide_eq_false (by omega)];rfl
theorem Al2(l:List Int):Gm l=some (if tabB l=true then 0 else 8):=by
 by_cases hl:l.length≤1000
 ·exact Bm1 l hl
 ·rw[Gm,Rw,if_pos (by rw[Aq,Ac];simp;omega),tabB,decide_eq_false (by omega)];rfl
theorem Bqx(l:List Int)(hl:l.length≤1000)(hx:∀x∈l,0≤x∧x<4294967296):Nc l=some (if tabB l=true then 0 else 8):=Ar0 l
theorem Bvf(l:List Int)(hl:l.length≤1000)(hx:∀x∈l,0≤x∧x<4294967296):Gm l=some (if tabB l=true then 0 else 8):=Al2 l
def Aht(b:List UInt8)(n:Nat):List Int:=(List.range n).map fun i=>(Eh (part b (4*i) 4):Int)
theorem Aft(b:List UInt8)(n:Nat):(Aht b n).length=n:=by simp[Aht]
theorem Bh4(b:List UInt8)(n:Nat):Aht b (n+1)=Aht b n++[(Eh (part b (4*n) 4):Int)]:=by simp[Aht,List.range_succ]
theorem Brl(b:List UInt8)(n:Nat)(h:4*n≤b.length):∀x∈Aht b n,0≤x∧x<4294967296:=by
 intro x hx
 simp only[Aht,List.mem_map,List.mem_range]at hx
 obtain⟨i,hi,rfl⟩:=hx
 have:=Brq (l:=part b (4*i) 4) (by rw[Df (by omega)];omega)
 omega
def seekS(b:List UInt8)(n:Nat):List Int×Int:=
 if ¬(1≤n∧n≤1000)then([],2)else if b.length<4*n+4 then([],24)else if(Ha (b.take (4*n))).toNat≠Eh (part b (4*n) 4)then([],22)else
 if tabB (Aht b n)=true then(Aht b n,0)else([],12)
theorem Bs7{b:List UInt8}{n:Nat}(h:1≤n∧n≤1000)(h2:¬b.length<4*n+4):Ax (Ad (Ha (b.take (4*n))):UInt64) (leU (part b (4*n) 4))=decide ((Ha (b.take (4*n))).toNat≠Eh (part b (4*n) 4)):=by
 rw[Ahz,Hx,Bool.eq_iff_iff]
 simp only[bne_iff_ne,ne_eq,decide_eq_true_eq]
 rw[←UInt64.toNat_inj,Ala (by have:=(Ha (b.take (4*n))).toNat_lt;omega),Alk (by rw[Df (by omega)];omega)]
section
variable {b:List UInt8} {n:Nat}
theorem ss1(h:¬(1≤n∧n≤1000)):seekS b n=([],2):=by rw[seekS,if_pos h]
variable (h:1≤n∧n≤1000)
include h
theorem ss2(h2:b.length<4*n+4):seekS b n=([],24):=by rw[seekS,if_neg (fun e=>e h),if_pos h2]
variable (h2:¬b.length<4*n+4)
include h2
theorem ss3(h3:(Ha (b.take (4*n))).toNat≠Eh (part b (4*n) 4)):seekS b n=([],22):=by rw[seekS,if_neg (fun e=>e h),if_neg h2,if_pos h3]
theorem ss4(h3:(Ha (b.take (4*n))).toNat=Eh (part b (4*n) 4)):seekS b n=if tabB (Aht b n)=true then(Aht b n,0)else([],12):=by rw[seekS,if_neg (fun e=>e h),if_neg h2,if_neg (fun e=>e h3)]
end
theorem Bjl(b:List UInt8)(l8:List Int)(n:Nat)(hn:n≤1000)(h8:l8.length=n)(hb:4*n+4≤b.length)(hb2:b.length<4611686018427387904):∀(j i q:Nat),i+j=n→j<q→Re b l8 q (i:Int) (Aht b i++List.replicate j 0)=Aeu (Aht b n)
 |0,i,q+1,hi,_=>by
  obtain rfl:i=n:=by omega
  rw[Re,Aek,if_neg (by rw[Af,Ac];simp;omega)];simp
 |j+1,i,q+1,hi,hq=>by
  have hlen:(Aht b i++List.replicate (j+1) 0).length=i+(j+1):=by simp[Aft]
  have ha:=Bjm b (4*i) 4 (by omega) (by omega) (by omega) hb2
  rw[Re,Aek,if_pos (by rw[Af,Ac];simp;omega),Ib (by omega) (by omega),show(4:Int)*(i:Int)=((4*i:Nat):Int) by omega,show(4:Int)=((4:Nat):Int)from rfl,ha,Aa]
  simp only
  rw[Cc (by rw[hlen];omega),Aa,Vy _ (by rw[hlen];omega),Aa,Ael (by rw[Df (by omega)];omega),Ah (by omega) (by omega),List.replicate_succ,Aut (Aft _ _)]
  have ih:=Bjl b l8 n hn h8 hb hb2 j (i+1) q (by omega) (by omega)
  rw[Bh4]at ih
  rw[show((i:Int)+1)=((i+1:Nat):Int) by omega,←ih]
  simp
theorem Bjq(b:List UInt8)(n:Nat)(hb:b.length≤100100):Aeb b (n:Int)=some (seekS b n):=by
 rw[Aeb,Al7]
 by_cases h:1≤n∧n≤1000
 ·rw[if_neg (by simp[Af,Aq];omega),Ib (by omega) (by omega),Ah (by omega) (by omega)]
  by_cases h2:b.length<4*n+4
  ·rw[if_pos (by rw[Af,Ac];simp;omega),ss2 h h2]
  ·have ha:Amt b (4*(n:Int)) 4=some (leU (part b (4*n) 4),0):=by
    rw[show(4:Int)*(n:Int)=((4*n:Nat):Int) by omega]
    exact Bjm b (4*n) 4 (by omega) (by omega) (by omega) (by omega)
   rw[if_neg (by rw[Af,Ac];simp;omega),ha,Aa]
   simp only
   rw[Cs (by omega) (by omega),Aa,show(4*(n:Int)).toNat=4*n by omega,Bq1 _ (by simp;omega),Aa]
   simp only
   rw[Bs7 h h2]
   by_cases h3:(Ha (b.take (4*n))).toNat=Eh (part b (4*n) 4)
   ·have hlp:=Bjl b (List.replicate n 0) n (by omega) (by simp) (by omega) (by omega) n 0 FUEL (by omega) (by have:=Am;omega)
    rw[if_neg (by simpa using h3),Bdx (by omega) (by omega),Aa,Cv (by rw[Ap];simp),Aa,Al9,Int.toNat_natCast]
    refine Eq.trans (hlp) ?_
    rw[Aeu,Awd,Bqx _ (by rw[Aft];omega) (Brl b n (by omega)),Aa,ss4 h h2 h3]
    cases tabB (Aht b n)<;>rfl
   ·rw[if_pos (by simpa using h3),ss3 h h2 h3]
 ·rw[if_pos (by simp[Af,Aq];omega),ss1 h]
theorem Av8(b:List UInt8)(n:Nat)(hn:n≤1000)(hb:4*n+4≤b.length)(hb2:b.length<4611686018427387904):∀(j i q:Nat),i+j=n→j<q→Jz b (n:Int) q (i:Int) (Aht b i)=Uj (Aht b n)
 |0,i,q+1,hi,_=>by
  obtain rfl:i=n:=by omega
  rw[Jz,Uu,if_neg (by rw[Af];simp)]
 |j+1,i,q+1,hi,hq=>by
  have hc:Bb b ((4:Int)*(i:Int)) ((4:Int)*(i:Int)+4)=some (part b (4*i) 4):=by
   rw[show(4:Int)*(i:Int)=((4*i:Nat):Int) by omega]
   exact Ni (4*i) 4 (by omega)
  rw[Jz,Uu,if_pos (by rw[Af];simp;omega),Ib (by omega) (by omega),Ah (by omega) (by omega),hc,Aa,Bl3 _ (by rw[Df (by omega)];omega),Aa,Cj (by rw[Aft];simp;omega),Aa,
   Ael (by rw[Df (by omega)];omega),Ah (by omega) (by omega),←Bh4]
  exact Av8 b n hn hb hb2 j (i+1) q (by omega) (by omega)
theorem Bws(b:List UInt8)(n:Nat)(hb:b.length≤100100):To b (n:Int)=some (seekS b n):=by
 rw[To,Af4]
 by_cases h:1≤n∧n≤1000
 ·rw[if_neg (by simp[Af,Aq];omega),Ib (by omega) (by omega),Ah (by omega) (by omega)]
  by_cases h2:b.length<4*n+4
  ·rw[if_pos (by rw[Af,Ac];simp;omega),ss2 h h2]
  ·have hc:Bb b ((4:Int)*(n:Int)) ((4:Int)*(n:Int)+4)=some (part b (4*n) 4):=by
    rw[show(4:Int)*(n:Int)=((4*n:Nat):Int) by omega]
    exact Ni (4*n) 4 (by omega)
   have hs:Ax (leU (part b (4*n) 4)) (Ad (Ha (b.take (4*n))):UInt64)=decide ((Ha (b.take (4*n))).toNat≠Eh (part b (4*n) 4)):=by
    rw[←Bs7 h h2,Ahz,Ahz,Bool.eq_iff_iff];simp only[bne_iff_ne,ne_eq];exact not_congr eq_comm
   rw[if_neg (by rw[Af,Ac];simp;omega),hc,Aa,Cs (by omega) (by omega),Aa,show(4*(n:Int)).toNat=4*n by omega,Bl3 _ (by rw[Df (by omega)];omega),Aa,Bzq _ (by simp;omega),Aa,hs]
   by_cases h3:(Ha (b.take (4*n))).toNat=Eh (part b (4*n) 4)
   ·have hlp:=Av8 b n (by omega) (by omega) (by omega) n 0 FUEL (by omega) (by have:=Am;omega)
    rw[if_neg (by simpa using h3),Afz,Afu,Afd]
    refine Eq.trans hlp ?_
    rw[Uj,Ae9,Bvf _ (by rw[Aft];omega) (Brl b n (by omega)),Aa,ss4 h h2 h3]
    cases tabB (Aht b n)<;>rfl
   ·rw[if_pos (by simpa using h3),ss3 h h2 h3]
 ·rw[if_pos (by simp[Af,Aq];omega),ss1 h]
theorem Bmx{b:List UInt8}{n:Nat}(h:(seekS b n).2=0):seekS b n=(Aht b n,0)∧1≤n∧n≤1000∧4*n+4≤b.length∧(∀x∈Aht b n,5≤x)∧(Aht b n).sum≤100000:=by
 unfold seekS at h⊢
 split at h; · simp at h
 rename_i c1;rw[if_neg c1]
 split at h; · simp at h
 rename_i c2;rw[if_neg c2]
 split at h; · simp at h
 rename_i c3;rw[if_neg c3]
 split at h
 ·rename_i c4
  rw[if_pos c4]
  have c4':=c4
  rw[tabB,Bool.and_eq_true,Ah2 _ _ (by omega)]at c4'
  exact⟨rfl,by omega,by omega,by omega,c4'.2.1,c4'.2.2⟩
 ·simp at h
end Go.Pl
set_option linter.unusedVariables false
set_option linter.unusedSimpArgs false
namespace Go.Pl
open Go Go.Lv
def hdr(b:List UInt8):List UInt8:=b.drop (frontS b).1.toNat
theorem Bq0(A K:Nat)(h:A≤200000)(hk:K≤1000):Ae (Ae (A:Int) (Bi 4 (K:Int))) 4=((A+4*K+4:Nat):Int):=by
 rw[Ib (by omega) (by omega),Ah (a:=(A:Int)) (by omega) (by omega),Ah (by omega) (by omega)];omega
structure Opn (b p:List UInt8) (f c w r n A:Nat) (l:List Int):Prop where
 prog:seekto_Open b p=some ((f:Int),(c:Int),(w:Int),(r:Int),(n:Int),(A:Int),l,0)
 ref:cadenzaref40_Opened b p=some ((f:Int),(c:Int),(w:Int),(r:Int),(n:Int),(A:Int),l,0)
 pass:p.length≤64
 file:b.length≤100000
 shape:shapeB f c w r n=true
 fit:fitB c r n=true
 len:l.length=(framesL (longN r) n).length
 some1:1≤l.length∧l.length≤1000
 five:∀x∈l,5≤x
 sum:l.sum≤100000
 at':A≤b.length
 tag:(frontS b).2=0
 head:readS (hdr b)=((f:Int),(c:Int),(w:Int),(r:Int),(n:Int),0)
 tab:seekS (b.drop ((frontS b).1.toNat+22+(if f=2 then 8 else 0))) l.length=(l,0)
 pos:A=(frontS b).1.toNat+22+(if f=2 then 8 else 0)+4*l.length+4
end Go.Pl
set_option linter.unusedVariables false
set_option linter.unusedSimpArgs false
namespace Go.Pl
open Go Go.Lv
theorem Bjd(l:List Int)(i:Nat):(l.take i).sum+(l.drop i).sum=l.sum:=by
 conv=>rhs;rw[←List.take_append_drop i l,List.sum_append]
theorem Yo{l:List Int}(h5:∀x∈l,5≤x)(i:Nat):0≤(l.take i).sum∧(l.take i).sum≤l.sum:=by
 have h1:=Bzj (l.take i) fun x hx=>h5 x (List.mem_of_mem_take hx)
 have h2:=Bzj (l.drop i) fun x hx=>h5 x (List.mem_of_mem_drop hx)
 have:=Bjd l i
 omega
theorem Wz{l:List Int}{i:Nat}(h:i<l.length):(l.take (i+1)).sum=(l.take i).sum+l[i]:=by
 rw[Ah9 h,List.sum_append];simp
section
variable {l:List Int} (hl:l.length≤1000) (h5:∀x∈l,5≤x) (hs:l.sum≤100000)
include hl h5 hs
theorem Bd4(f c w r n A:Int)(hA:0≤A)(hA2:A≤200000)(k:Nat)(hk:k≤l.length):∀(j i q:Nat),i+j=k→j<q→Iu (k:Int) f c w r n A l q (A+(l.take i).sum) (i:Int)=some (A+(l.take k).sum)
 |0,i,q+1,hi,_=>by
  rw[Iu,Rs,if_neg (by rw[Af];simp;omega),show i=k by omega];rfl
 |j+1,i,q+1,hi,hq=>by
  have hlt:i<l.length:=by omega
  have ih:=Bd4 f c w r n A hA hA2 k hk j (i+1) q (by omega) (by omega)
  have b1:=Yo h5 i
  have b2:=Yo h5 (i+1)
  have e:=Wz hlt
  rw[e,←Int.add_assoc]at ih
  rw[Iu,Rs,if_pos (by rw[Af];simp;omega),Cc hlt,Aa,Ah (by omega) (by omega),Ah (by omega) (by omega)]
  exact ih
theorem Bt2(f c w r n A:Int)(hA:0≤A)(hA2:A≤200000)(k:Nat)(hk:k≤l.length):Akg f c w r n A l (k:Int)=some (A+(l.take k).sum):=by
 have h:=Bd4 hl h5 hs f c w r n A hA hA2 k hk k 0 FUEL (by omega) (by have:=Am;omega)
 rw[List.take_zero,List.sum_nil,Int.add_zero]at h
 exact h
end
theorem Yj{g n:Nat}(hg:1≤g)(hn:1≤n){x:Int}(h:x∈framesL g n):∃m:Nat,x=m∧1≤m∧m≤n:=by
 have hmul:=Nat.div_mul_le_self (n-1) g
 rw[framesL,List.mem_append]at h
 rcases h with h|h
 ·rw[List.mem_replicate]at h
  have h1:1≤(n-1)/g:=Nat.pos_of_ne_zero h.1
  have:=Nat.mul_le_mul_right g h1
  exact⟨g,h.2,hg,by omega⟩
 ·rw[List.mem_singleton]at h
  exact⟨_,h,by omega,by omega⟩
theorem Ana{f c w r n:Nat}(h:shapeB f c w r n=true):(1≤c∧c≤6)∧Ch (w:Int)∧(1≤r∧r≤1048576)∧1≤n∧(f=1∨f=2):=by
 simp only[shapeB,decide_eq_true_eq]at h
 refine⟨h.2.1,?_,h.2.2.2.1,h.2.2.2.2,h.1⟩
 rcases h.2.2.1 with rfl|rfl|rfl
 ·exact .inl rfl
 ·exact .inr (.inl rfl)
 ·exact .inr (.inr rfl)
end Go.Pl
set_option linter.unusedVariables false
set_option linter.unusedSimpArgs false
namespace Go.Pl
open Go Go.Lv
def Dv(b:List UInt8):List UInt8:=b.drop (b.length-32)
theorem Bw9{b:List UInt8}(h:32≤b.length):(Dv b).length=32:=by rw[Dv,List.length_drop];omega
def itA(t:List UInt8):Nat:=Eh (part t 12 4)-32
def mnA(t:List UInt8):Nat:=Eh (part t 16 4)
def Ws(b:List UInt8):Int×Int:=
 if ¬(32≤b.length∧(Dv b).take 8=APE)then(0,6)else if Aac (Dv b)=true then(0,12)else
 if Dv b=Rv (itA (Dv b)) (mnA (Dv b)) 0 then(if b.length<itA (Dv b)+32 then(0,24)else(((itA (Dv b)+32:Nat):Int),0))else
 if Dv b≠Rv (itA (Dv b)) (mnA (Dv b)) 2147483648 then(0,12)else
 if b.length<itA (Dv b)+64 then(0,24)else
 if(b.take (b.length-(itA (Dv b)+64)+32)).drop (b.length-(itA (Dv b)+64))≠Rv (itA (Dv b)) (mnA (Dv b)) 2684354560 then(0,12)else(((itA (Dv b)+64:Nat):Int),0)
section
variable {b:List UInt8}
theorem ba1(h:¬(32≤b.length∧(Dv b).take 8=APE)):Ws b=(0,6):=by rw[Ws,if_pos h]
variable (h:32≤b.length∧(Dv b).take 8=APE)
include h
theorem ba2(h2:Aac (Dv b)=true):Ws b=(0,12):=by rw[Ws,if_neg (fun h'=>h' h),if_pos h2]
variable (h2:Aac (Dv b)=false)
include h2
theorem ba3(h3:Dv b=Rv (itA (Dv b)) (mnA (Dv b)) 0):Ws b=if b.length<itA (Dv b)+32 then(0,24)else(((itA (Dv b)+32:Nat):Int),0):=by
 rw[Ws,if_neg (fun h'=>h' h),if_neg (by rw[h2];simp),if_pos h3]
variable (h3:Dv b≠Rv (itA (Dv b)) (mnA (Dv b)) 0)
include h3
theorem ba4(h4:Dv b≠Rv (itA (Dv b)) (mnA (Dv b)) 2147483648):Ws b=(0,12):=by
 rw[Ws,if_neg (fun h'=>h' h),if_neg (by rw[h2];simp),if_neg h3,if_pos h4]
variable (h4:Dv b=Rv (itA (Dv b)) (mnA (Dv b)) 2147483648)
include h4
theorem ba5(h5:b.length<itA (Dv b)+64):Ws b=(0,24):=by
 rw[Ws,if_neg (fun h'=>h' h),if_neg (by rw[h2];simp),if_neg h3,if_neg (fun e=>e h4),if_pos h5]
theorem ba6(h5:¬b.length<itA (Dv b)+64):Ws b=if(b.take (b.length-(itA (Dv b)+64)+32)).drop (b.length-(itA (Dv b)+64))≠Rv (itA (Dv b)) (mnA (Dv b)) 2684354560 then(0,12)else(((itA (Dv b)+64:Nat):Int),0):=by
 rw[Ws,if_neg (fun h'=>h' h),if_neg (by rw[h2];simp),if_neg h3,if_neg (fun e=>e h4),if_neg h5]
end
theorem Byv{b:List UInt8}{n:Int}(h:Ws b=(n,0)):32≤n∧n≤b.length:=by
 unfold Ws at h
 split at h; · simp at h
 rename_i h32
 split at h; · simp at h
 split at h
 ·split at h; · simp at h
  simp only[Prod.mk.injEq,and_true]at h;omega
 split at h; · simp at h
 split at h; · simp at h
 split at h; · simp at h
 simp only[Prod.mk.injEq,and_true]at h;omega
theorem Bu1{b:List UInt8}(h:(Ws b).2≠0):(Ws b).1=0:=by
 revert h
 unfold Ws
 split; · simp
 split; · simp
 split
 ·split<;>simp
 split; · simp
 split; · simp
 split<;>simp
theorem Cfr{b:List UInt8}(h:32≤b.length)(hl:b.length<4611686018427387904):Aj (Ac b) 32=((b.length-32:Nat):Int)∧Bb b ((b.length-32:Nat):Int) (Ac b)=some (Dv b):=by
 refine⟨by rw[Ac,Bv (by omega) (by omega)];omega,?_⟩
 rw[Cx (by omega) (by omega)];rfl
theorem Bv2(b:List UInt8)(hl:b.length<4611686018427387904):Ayw b=some (Ws b):=by
 rw[Ayw,As5]
 by_cases h32:32≤b.length
 ·obtain⟨e1,e2⟩:=Cfr h32 hl
  have hl3:=Bw9 h32
  rw[if_neg (by rw[e1,Af];simp),e1,e2,Aa,Aov,Aa]
  by_cases hp:(Dv b).take 8=APE
  ·have h:=And.intro h32 hp
   rw[if_neg (by simpa [APE,hl3]using hp),Asz,Bbb,e1,e2,Aa,Aos _ 0 (by omega) (by omega) (by decide),Aa]
   cases hb:Aac (Dv b)with
   |true=>
    rw[ba2 h hb]
    simp only[if_true,Bool.false_eq_true,if_false]
    rw[Aa,Aos _ 2147483648 (by omega) (by omega) (by decide),Aa,hb];rfl
   |false=>
    obtain⟨i1,i2,i3,i4⟩:=Bgf (Dv b) (by omega) hb
    have eI:Eh (part (Dv b) 12 4)-32=itA (Dv b):=rfl
    have eM:Eh (part (Dv b) 16 4)=mnA (Dv b):=rfl
    simp only[Bool.false_eq_true,if_false]
    rw[eI]at i3
    rw[eM]at i4
    rw[eI,eM]
    by_cases c1:Dv b=Rv (itA (Dv b)) (mnA (Dv b)) 0
    ·have c1':Dv b=Rv (itA (Dv b)) (mnA (Dv b)) (0:UInt64).toNat:=c1
     rw[if_pos (by simpa using c1'),ba3 h hb c1]
     by_cases c2:b.length<itA (Dv b)+32
     ·rw[if_pos (by rw[Af];simp;omega),if_pos c2]
     ·rw[if_neg (by rw[Af];simp;omega),if_neg c2,Ah (by omega) (by omega)];rfl
    ·have c1':¬Dv b=Rv (itA (Dv b)) (mnA (Dv b)) (0:UInt64).toNat:=c1
     rw[if_neg (by simpa using c1'),Aa,Aos _ 2147483648 (by omega) (by omega) (by decide),Aa,hb]
     simp only[Bool.false_eq_true,if_false]
     rw[eI,eM]
     by_cases c2:Dv b=Rv (itA (Dv b)) (mnA (Dv b)) 2147483648
     ·have c2':Dv b=Rv (itA (Dv b)) (mnA (Dv b)) (2147483648:UInt64).toNat:=c2
      rw[if_neg (by simpa using c2'),Ah (by omega) (by omega)]
      by_cases c3:b.length<itA (Dv b)+64
      ·rw[if_pos (by rw[Af,Ac];simp;omega),ba5 h hb c1 c2 c3]
      ·rw[if_neg (by rw[Af,Ac];simp;omega),Ac,Bv (by omega) (by omega),Ah (by omega) (by omega),Ad9 (by omega) (by omega) (by omega),Aa,Bfz _ _ _ i3 i4 (by decide),Aa,Hw,Aa,ba6 h hb c1 c2 c3]
       rw[show((b.length:Int)-(((itA (Dv b):Nat):Int)+64)).toNat=b.length-(itA (Dv b)+64) by omega,show((b.length:Int)-(((itA (Dv b):Nat):Int)+64)+32).toNat=b.length-(itA (Dv b)+64)+32 by omega]
       have e7:(2684354560:UInt64).toNat=2684354560:=rfl
       rw[e7]
       by_cases c4:(b.take (b.length-(itA (Dv b)+64)+32)).drop (b.length-(itA (Dv b)+64))=Rv (itA (Dv b)) (mnA (Dv b)) 2684354560
       ·rw[if_neg (by simpa using c4),if_neg (fun e=>e c4)];rfl
       ·rw[if_pos (by simpa using c4),if_pos c4]
     ·have c2':¬Dv b=Rv (itA (Dv b)) (mnA (Dv b)) (2147483648:UInt64).toNat:=c2
      rw[if_pos (by simpa using c2'),ba4 h hb c1 c2]
  ·rw[if_pos (by rw[Bool.not_eq_true',decide_eq_false_iff_not];intro h;exact hp h.2),ba1 (fun h=>hp h.2)]
 ·rw[if_pos (by rw[Ac,Bv (by omega) (by omega),Af];simp;omega),ba1 (fun h=>h32 h.1)]
def Cav:Nat→List UInt8→Nat→Int×Int
 |0,_,_=>(0,38)
 |j+1,b,a=>if b=[]then((a:Int),0)else if(Ws b).2≠0 then(0,38)else Cav j (b.take (b.length-(Ws b).1.toNat)) (a+1)
theorem Bmq:∀(j q a:Nat) (b:List UInt8),b.length<j→j≤q→b.length≤4000→a+b.length≤4000→Qz q (a:Int) b=some (Cav j b a)
 |0,_,_,_,h,_,_,_=>by omega
 |j+1,q+1,a,b,h,hq,h4,ha=>by
  rw[Qz,Ag1,Cav]
  by_cases hb:b=[]
  ·subst hb;rw[if_neg (by decide),if_pos rfl];rfl
  ·have hpos:0<b.length:=List.length_pos_iff.2 hb
   rw[if_pos (by rw[Aq,Ac];simp;omega),if_neg hb,Bv2 b (by omega),Aa]
   have hbad:=Bu1 (b:=b)
   have hok:=fun n=>Byv (b:=b) (n:=n)
   generalize Ws b=v at*
   obtain⟨n,e⟩:=v
   simp only at hbad⊢
   rw[Adl,Ad3]
   by_cases he:e≠0
   ·rw[if_pos he,hbad he,if_pos (by decide)]
   ·obtain⟨k1,k2⟩:=hok n (by rw[show e=0 by simpa using he])
    rw[if_neg he,if_neg (by rw[Ap];simp;omega),Ac,Bv (by omega) (by omega),Cs (by omega) (by omega),Aa,Adg,Anw,Ah (by omega) (by omega)]
    rw[show((b.length:Int)-n).toNat=b.length-n.toNat by omega]
    have ih:=Bmq j q (a+1) (b.take (b.length-n.toNat)) (by rw[List.length_take];omega) (by omega) (by rw[List.length_take];omega) (by rw[List.length_take];omega)
    rw[←ih];rfl
def Bcx(b:List UInt8):Int×Int:=if 4000<b.length then(0,38)else Cav (b.length+1) b 0
theorem Boe(b:List UInt8)(hl:b.length<4611686018427387904):Aag b=some (Bcx b):=by
 rw[Aag,Agw,Bcx]
 by_cases h:4000<b.length
 ·rw[if_pos (by rw[Aq,Ac];simp;omega),if_pos h]
 ·rw[if_neg (by rw[Aq,Ac];simp;omega),if_neg h]
  exact Bmq _ FUEL 0 b (by omega) (by have:=Am;omega) (by omega) (by omega)
end Go.Pl
set_option linter.unusedVariables false
set_option linter.unusedSimpArgs false
namespace Go.Pl
open Go Go.Lv
theorem Cfa{a b:Nat}(h:a<9223372036854775808):Ck (a:Int) (b:Int)=((a/b:Nat):Int):=by
 have:a/b≤a:=Nat.div_le_self _ _
 rw[Ag3,Int.tdiv_eq_ediv_of_nonneg (by omega),←Int.natCast_ediv]
 generalize a/b=k at*
 exact Ce (by omega) (by omega)
theorem Baq{bits:Int}(h:Ch bits)(x:Int):(Adh bits x).length=wB bits:=by
 obtain rfl|rfl|rfl:=h<;>rfl
theorem Ale{bits:Int}(h:Ch bits):∀l:List Int32,(bytesB bits l).length=l.length*wB bits
 |[]=>by simp[bytesB]
 |x::l=>by
  have h1:=Ale h l
  have h2:=Baq h x.toInt
  simp only[bytesB,List.flatMap_cons,List.length_append,List.length_cons,Nat.succ_mul]at*
  omega
def segF(b:List UInt8)(A:Nat)(l:List Int)(k:Nat):List UInt8:=(b.take ((A:Int)+(l.take (k+1)).sum).toNat).drop ((A:Int)+(l.take k).sum).toNat
structure Gts (b p:List UInt8) (f c w r n A:Nat) (l:List Int) (k m:Nat) (x:List Int32) (s:List UInt8) (e:Int):Prop where
 mom:getI (framesL (longN r) n) (k:Int)=some (m:Int)
 pos:1≤m∧m*c≤4000
 got:cadenzaref40_Got b p (f:Int) (c:Int) (w:Int) (r:Int) (n:Int) (A:Int) l (k:Int)=some (s,e)
 none':e≠0→s=[]∧x=[]
 some':e=0→s=bytesB (w:Int) x∧x.length=m*c∧cadenzaref18_Check (w:Int) x=some 0∧width_Bytes (w:Int) x=some (s,0)∧(A:Int)+(l.take (k+1)).sum≤b.length
 way:((b.length:Int)<(A:Int)+(l.take (k+1)).sum∧e=24)∨((A:Int)+(l.take (k+1)).sum≤b.length∧deframe_Decode (c:Int) (w:Int) (tapsOf p) (m:Int) (segF b A l k)=some (x,e)∧cadenzaref21_Decode (c:Int) (w:Int) (tapsOf p) (m:Int) (segF b A l k)=some (x,e))
theorem Bu4{b p:List UInt8}{f c w r n A:Nat}{l:List Int}(o:Opn b p f c w r n A l)(k:Nat)(hk:k<l.length):∃m x s e,Gts b p f c w r n A l k m x s e:=by
 obtain⟨hc,hw,hr,hn,_⟩:=Ana o.shape
 have hfit:n≤4000/c:=by have:=o.fit;simp only[fitB,decide_eq_true_eq]at this;exact this.1
 have hn4:n≤4000:=by have:=Nat.div_le_self 4000 c;omega
 have hA:=o.at'
 have hfile:=o.file
 have hlen:=o.len
 have b1:=Yo o.five k
 have b2:=Yo o.five (k+1)
 have e:=Wz hk
 have h5:=o.five l[k] (List.getElem_mem _)
 have hsum:=o.sum
 have hs1:=o.some1
 have hkf:k<(framesL (longN r) n).length:=by omega
 obtain⟨m,hm,m1,m2⟩:=Yj (Rh r) hn (List.getElem_mem hkf)
 have hmom:getI (framesL (longN r) n) (k:Int)=some (m:Int):=by rw[Cc hkf,hm]
 have hpos:1≤m∧m*c≤4000:=by
  refine⟨m1,?_⟩
  have:=Nat.mul_le_mul_right c (Nat.le_trans m2 hfit)
  have:=Nat.div_mul_le_self 4000 c
  omega
 have hR:cadenzaref40_Got b p (f:Int) (c:Int) (w:Int) (r:Int) (n:Int) (A:Int) l (k:Int)=cadenzaref40_Got b p (f:Int) (c:Int) (w:Int) (r:Int) (n:Int) (A:Int) l (k:Int):=rfl
 conv at hR=>rhs;rw[cadenzaref40_Got,Ahb,Bt2 hs1.2 o.five o.sum _ _ _ _ _ (A:Int) (by omega) (by omega) k (by omega),Aa,Cc hk,Aa,Bv (by rw[Ac];omega) (by rw[Ac];omega)]
 by_cases hto:(b.length:Int)<(A:Int)+(l.take (k+1)).sum
 ·rw[if_pos (by rw[Af,Ac,decide_eq_true_eq];omega)]at hR
  exact⟨m,[],[],24,hmom,hpos,hR,fun _=>⟨rfl,rfl⟩,fun h=>by simp at h, .inl ⟨hto,rfl⟩⟩
 ·rw[if_neg (by rw[Af,Ac,decide_eq_true_eq];omega),At3 p o.pass,Axr hr.2 hn hn4]at hR
  simp only[Aa]at hR
  rw[Ah (a:=(A:Int)+(l.take k).sum) (b:=l[k]) (by omega) (by omega),Int.add_assoc,←e,hmom]at hR
  simp only[Aa]at hR
  rw[Ad9 (by omega) (by omega) (by omega),Aa]at hR
  obtain⟨x,er,g1,g2,g3,g4⟩:=Ae4 (ch:=c) (n:=m) (t:=tapsOf p) (segF b A l k) hw (Ui p) hc.1 hc.2 m1 (by omega)
  rw[show(b.take ((A:Int)+(l.take (k+1)).sum).toNat).drop ((A:Int)+(l.take k).sum).toNat=segF b A l k from rfl,g2,Aa]at hR
  simp only at hR
  rw[Ahh,Ahi]at hR
  by_cases her:er=0
  ·obtain⟨g5,g6,g7⟩:=g3 her
   rw[if_neg (by rw[Ak];simpa using her),An5 hw g6 g5,Aa]at hR
   subst her
   exact⟨m,x,_,0,hmom,hpos,hR,fun h=>absurd rfl h,fun _=>⟨rfl,g7,g5,Awk hw g6 g5,by omega⟩, .inr ⟨by omega,g1,g2⟩⟩
  ·rw[if_pos (by rw[Ak];simpa using her)]at hR
   exact⟨m,x,_,er,hmom,hpos,hR,fun h=>⟨rfl,g4 h⟩,fun h=>absurd h her, .inr ⟨by omega,g1,g2⟩⟩
theorem Gts.lens{b p:List UInt8}{f c w r n A:Nat}{l:List Int}{k m:Nat}{x:List Int32}{s:List UInt8}{e:Int}(hw:Ch (w:Int))(g:Gts b p f c w r n A l k m x s e):s.length≤12000∧x.length≤4000∧(e=0→s.length=m*c*wB (w:Int)):=by
 by_cases he:e=0
 ·obtain⟨h1,h2,_⟩:=g.some' he
  have h3:=Adv (w:Int) x
  have h4:=Ale hw x
  have h5:=g.pos
  rw[←h1]at h3 h4
  refine⟨by omega,by omega,fun _=>by rw[h4,h2]⟩
 ·obtain⟨h1,h2⟩:=g.none' he
  exact⟨by simp[h1],by simp[h2],fun h=>absurd h he⟩
def Cdl(b p:List UInt8)(f c w r n A:Nat)(l:List Int)(k:Nat):List UInt8×Int:=(cadenzaref40_Got b p (f:Int) (c:Int) (w:Int) (r:Int) (n:Int) (A:Int) l (k:Int)).getD ([],0)
theorem Gts.eq{b p:List UInt8}{f c w r n A:Nat}{l:List Int}{k m:Nat}{x:List Int32}{s:List UInt8}{e:Int}(g:Gts b p f c w r n A l k m x s e):Cdl b p f c w r n A l k=(s,e):=by rw[Cdl,g.got];rfl
def Cgx(b:List UInt8)(A:Nat)(l:List Int):Int:=(Bcx (b.drop ((A:Int)+l.sum).toNat)).2
end Go.Pl
set_option linter.unusedVariables false
set_option linter.unusedSimpArgs false
namespace Go.Pl
open Go Go.Lv
def by'(b:List UInt8)(k:Nat):Nat:=(b.getD k 0).toNat
def sx(n:Nat)(b:List UInt8)(a:Nat):Int:=
 if n=1 then(by' b a:Int)-128 else
 if n=2 then(if by' b a+256*by' b (a+1)<32768 then(by' b a+256*by' b (a+1):Nat)else((by' b a+256*by' b (a+1):Nat):Int)-65536)else
 (if by' b a+256*by' b (a+1)+65536*by' b (a+2)<8388608 then(by' b a+256*by' b (a+1)+65536*by' b (a+2):Nat)else((by' b a+256*by' b (a+1)+65536*by' b (a+2):Nat):Int)-16777216)
def sxs(n m:Nat)(b:List UInt8):List Int32:=(List.range m).map fun x=>Int32.ofInt (sx n b (x*n))
theorem Ca0(n m:Nat)(b:List UInt8):(sxs n m b).length=m:=by simp[sxs]
theorem sx2(b:List UInt8)(a:Nat):sx 2 b a=if by' b a+256*by' b (a+1)<32768 then((by' b a+256*by' b (a+1):Nat):Int)else((by' b a+256*by' b (a+1):Nat):Int)-65536:=rfl
theorem sx3(b:List UInt8)(a:Nat):sx 3 b a=if by' b a+256*by' b (a+1)+65536*by' b (a+2)<8388608 then((by' b a+256*by' b (a+1)+65536*by' b (a+2):Nat):Int)else((by' b a+256*by' b (a+1)+65536*by' b (a+2):Nat):Int)-16777216:=rfl
variable (b:List UInt8)
end Go.Pl
set_option linter.unusedVariables false
set_option linter.unusedSimpArgs false
namespace Go.Pl
open Go Go.Lv
theorem Cet{c:Nat}{w:Nat}(hc:c≤6)(hw:Ch (w:Int)):Ck (Bi (c:Int) (w:Int)) 8=((c*wB (w:Int):Nat):Int):=by
 have h:w=8∨w=16∨w=24:=by unfold Ch at hw;omega
 have:c=0∨c=1∨c=2∨c=3∨c=4∨c=5∨c=6:=by omega
 rcases h with rfl|rfl|rfl<;>rcases this with rfl|rfl|rfl|rfl|rfl|rfl|rfl<;>rfl
theorem Cez{w:Nat}(hw:Ch (w:Int)):8*wB (w:Int)=w∧w≤24:=by
 have h:w=8∨w=16∨w=24:=by unfold Ch at hw;omega
 rcases h with rfl|rfl|rfl<;>exact⟨rfl,by omega⟩
theorem Cfn{t c w:Nat}(ht:t≤4000)(hc:c≤6)(hw:Ch (w:Int)):Ck (Bi (Bi (t:Int) (c:Int)) (w:Int)) 8=((t*(c*wB (w:Int)):Nat):Int):=by
 obtain⟨h1,h2⟩:=Cez hw
 have e1:(t:Int)*(c:Int)=((t*c:Nat):Int):=by simp
 have b1:t*c≤4000*6:=Nat.mul_le_mul ht hc
 have b2:t*c*w≤24000*24:=Nat.mul_le_mul b1 h2
 rw[Ib (a:=(t:Int)) (by rw[e1];omega) (by rw[e1];omega),e1,Ib (by rw[←Int.natCast_mul];omega) (by rw[←Int.natCast_mul];omega),←Int.natCast_mul,show(8:Int)=((8:Nat):Int)from rfl,Cfa (by omega)]
 congr 1
 generalize wB (w:Int)=W at*
 subst h1
 rw[Nat.mul_left_comm,Nat.mul_div_cancel_left _ (by omega),Nat.mul_assoc]
end Go.Pl
set_option linter.unusedVariables false
set_option linter.unusedSimpArgs false
namespace Go.Pl
open Go Go.Lv
def smF(w:Nat)(y:List UInt8×Int):List Int32:=if y.2≠0 then []else sxs (wB (w:Int)) (y.1.length/wB (w:Int)) y.1
end Go.Pl
set_option linter.unusedVariables false
set_option linter.unusedSimpArgs false
namespace Go.Pl
open Go Go.Lv
theorem Bao(z:Int):(u8 z).toNat=(z %256).toNat:=by
 have:(z %256).toNat<256:=by omega
 rw[u8,UInt8.toNat_ofNat',Nat.mod_eq_of_lt (by omega)]
theorem Bdq{bits:Int}(h:Ch bits):∀(l:List Int32) (i j:Nat),i<l.length→j<wB bits→(bytesB bits l).getD (i*wB bits+j) 0=(Adh bits (l.getD i 0).toInt).getD j 0
 |[],i,j,hi,_=>by simp at hi
 |x::l,0,j,_,hj=>by
  have h1:=Baq h x.toInt
  have e:bytesB bits (x::l)=Adh bits x.toInt++bytesB bits l:=by simp[bytesB]
  rw[e,Nat.zero_mul,Nat.zero_add,List.getD_eq_getElem?_getD,List.getD_eq_getElem?_getD,List.getElem?_append_left (by omega)];rfl
 |x::l,i+1,j,hi,hj=>by
  have h1:=Baq h x.toInt
  have e:bytesB bits (x::l)=Adh bits x.toInt++bytesB bits l:=by simp[bytesB]
  have ih:=Bdq h l i j (by simpa using hi) hj
  have e2:(i+1)*wB bits+j=(Adh bits x.toInt).length+(i*wB bits+j):=by rw[Nat.add_mul,Nat.one_mul,h1];omega
  rw[e,e2,List.getD_eq_getElem?_getD,List.getElem?_append_right (by omega),Nat.add_sub_cancel_left,←List.getD_eq_getElem?_getD,ih];rfl
theorem Cb3{bits:Int}(h:Ch bits)(l:List Int32)(hr:inR bits l)(i:Nat)(hi:i<l.length):Int32.ofInt (sx (wB bits) (bytesB bits l) (i*wB bits))=l.getD i 0:=by
 have hm:l.getD i 0∈l:=by rw[List.getD_eq_getElem?_getD,List.getElem?_eq_getElem hi];exact List.getElem_mem hi
 have hv:=hr _ hm
 have g:∀j,j<wB bits→by' (bytesB bits l) (i*wB bits+j)=((Adh bits (l.getD i 0).toInt).getD j 0).toNat:=fun j hj=>by rw[by',Bdq h l i j hi hj]
 generalize l.getD i 0=x at*
 have key:sx (wB bits) (bytesB bits l) (i*wB bits)=x.toInt:=by
  generalize hA:i*wB bits=a at*
  obtain rfl|rfl|rfl:=h
  ·have g0:=g 0 (by decide)
   have e1:(Adh 8 x.toInt).getD 0 0=u8 (x.toInt+128):=rfl
   rw[Nat.add_zero,e1,Bao]at g0
   simp only[hB]at hv
   simp at hv
   have e2:wB 8=1:=rfl
   rw[e2,sx,if_pos rfl,g0];omega
  ·have g0:=g 0 (by decide)
   have g1:=g 1 (by decide)
   have e0:(Adh 16 x.toInt).getD 0 0=u8 x.toInt:=rfl
   have e1:(Adh 16 x.toInt).getD 1 0=u8 (x.toInt/256):=rfl
   rw[Nat.add_zero,e0,Bao]at g0
   rw[e1,Bao]at g1
   simp only[hB]at hv
   simp at hv
   have e2:wB 16=2:=rfl
   rw[e2,sx2,g0,g1]
   split<;>omega
  ·have g0:=g 0 (by decide)
   have g1:=g 1 (by decide)
   have g2:=g 2 (by decide)
   have e0:(Adh 24 x.toInt).getD 0 0=u8 x.toInt:=rfl
   have e1:(Adh 24 x.toInt).getD 1 0=u8 (x.toInt/256):=rfl
   have e3:(Adh 24 x.toInt).getD 2 0=u8 (x.toInt/65536):=rfl
   rw[Nat.add_zero,e0,Bao]at g0
   rw[e1,Bao]at g1
   rw[e3,Bao]at g2
   simp only[hB]at hv
   simp at hv
   have e2:wB 24=3:=rfl
   rw[e2,sx3,g0,g1,g2]
   split<;>omega
 rw[key];simp
theorem Byy{bits:Int}(h:Ch bits)(l:List Int32)(hr:inR bits l):sxs (wB bits) l.length (bytesB bits l)=l:=by
 refine List.ext_getElem (Ca0 _ _ _) fun i h1 h2=>?_
 have:=Cb3 h l hr i h2
 simp only[sxs,List.getElem_map,List.getElem_range]
 rw[this,List.getD_eq_getElem?_getD,List.getElem?_eq_getElem h2];rfl
theorem Gts.smp{b p:List UInt8}{f c w r n A:Nat}{l:List Int}{k m:Nat}{x:List Int32}{s:List UInt8}{e:Int}(hw:Ch (w:Int))(g:Gts b p f c w r n A l k m x s e):smF w (s,e)=x:=by
 have hwb:=Bh1 (w:Int)
 by_cases he:e=0
 ·obtain⟨h1,h2,h3,_⟩:=g.some' he
  have h4:=g.pos
  have h5:=Ale hw x
  rw[smF,if_neg (by simpa using he)]
  simp only
  rw[h1,h5,Nat.mul_div_cancel _ (by omega)]
  exact Byy hw x (Azu hw (by omega) h3)
 ·rw[smF,if_pos he,(g.none' he).2]
end Go.Pl
set_option linter.unusedVariables false
set_option linter.unusedSimpArgs false
namespace Go.Pl
open Go Go.Lv
abbrev C5:=Int×Int×Int×List Int32×Int
def Chz(e:Int):C5:=(0,0,0,[],e)
theorem Bmt{seg p:List UInt8}(hs:seg.length=8)(hp:p.length≤64):Vp seg p=some (seg==leB (Aax p).toNat 8,0):=by
 rw[Vp,Bt0 p hp,Aa]
 simp only
 rw[if_neg (by rw[Ak,Ak,Ac,Ac,Og,hs];simp),Hw,Aa]
def Cdj(X:Nat→List Int32)(E:Nat→Int)(be:Int):Nat→Nat→List Int32→List Int32×Int
 |0,_,acc=>if be≠0 then([],38)else(acc,0)
 |j+1,k,acc=>if E k≠0 then([],E k)else Cdj X E be j (k+1) (acc++X k)
def Bop(c w r:Nat)(y:List Int32×Int):C5:=if y.2≠0 then Chz y.2 else((c:Int),(w:Int),(r:Int),y.1,0)
section
variable {b p:List UInt8} {f c w r n A:Nat} {l:List Int} (o:Opn b p f c w r n A l)
include o
theorem Azr(a1 a2 a3 a4:Int):∀(j k q:Nat) (acc:List Int32),k+j=l.length→j<q→(k=l.length→(A:Int)+l.sum≤b.length)→acc.length≤4000*k→
  Aal b l (f:Int) (c:Int) (w:Int) (r:Int) (n:Int) a1 a2 a3 (A:Int) a4 (tapsOf p) (framesL (longN r) n) q ((A:Int)+(l.take k).sum) (k:Int) acc=
   some (Bop c w r (Cdj (fun k=>smF w (Cdl b p f c w r n A l k)) (fun k=>(Cdl b p f c w r n A l k).2) (Cgx b A l) j k acc))
 |0,k,q+1,acc,hk,_,hfit,_=>by
  have hA:=o.at'
  have hfile:=o.file
  have hs1:=o.some1
  have hsum:=o.sum
  have b1:=Yo o.five l.length
  have hf:=hfit (by omega)
  obtain rfl:k=l.length:=by omega
  rw[List.take_length]at b1⊢
  rw[Aal,Ajw,if_neg (by rw[Af,Ac];simp),As6,Atz,Cx (by omega) (by omega),Aa,Boe _ (by rw[List.length_drop];omega),Aa,Cdj,Cgx]
  generalize Bcx (b.drop ((A:Int)+l.sum).toNat)=v
  obtain⟨v1,v2⟩:=v
  simp only
  by_cases hv:v2≠0
  ·rw[if_pos hv,if_pos (by rw[Ak];simpa using hv),Bop,if_pos (by simp)];rfl
  ·rw[if_neg hv,if_neg (by rw[Ak];simpa using hv),Bop,if_neg (by simp)]
 |j+1,k,q+1,acc,hk,hq,hfit,hacc=>by
  have hA:=o.at'
  have hfile:=o.file
  have hs1:=o.some1
  have hsum:=o.sum
  have b1:=Yo o.five k
  have b2:=Yo o.five (k+1)
  have hkl:k<l.length:=by omega
  have e2:=Wz hkl
  have h5:=o.five l[k] (List.getElem_mem _)
  obtain⟨m,x,s,e,g⟩:=Bu4 o k hkl
  obtain⟨hc,hw,hr,hn,_⟩:=Ana o.shape
  have hl:=g.lens hw
  rw[Aal,Ajw,if_pos (by rw[Af,Ac];simp;omega),Cc hkl,Aa,Aa,Ah (a:=(A:Int)+(l.take k).sum) (by omega) (by omega),Int.add_assoc,←e2,Ac,Cdj,g.eq]
  simp only
  rcases g.way with⟨h1,h2⟩|⟨h1,h2,_⟩
  ·rw[if_pos (by rw[Af,decide_eq_true_eq];omega),if_pos (by rw[h2];simp),h2,Bop,if_pos (by simp)];rfl
  ·rw[if_neg (by rw[Af,decide_eq_true_eq];omega),g.mom]
   simp only[Aa]
   rw[Ad9 (by omega) (by omega) (by omega),Aa,show(b.take ((A:Int)+(l.take (k+1)).sum).toNat).drop ((A:Int)+(l.take k).sum).toNat=segF b A l k from rfl,h2,Aa]
   simp only
   rw[As7,Arr]
   by_cases he:e≠0
   ·rw[if_pos (by rw[Ak];simpa using he),if_pos he,Bop,if_pos he];rfl
   ·have he0:e=0:=by simpa using he
    have hfit2:=(g.some' he0).2.2.2.2
    rw[if_neg (by rw[Ak];simpa using he),if_neg he,g.smp hw,Cj (by omega),Aa,Ah (a:=(A:Int)+(l.take k).sum) (by omega) (by omega),Int.add_assoc,←e2,Ah (by omega) (by omega)]
    exact Azr a1 a2 a3 a4 j (k+1) q (acc++x) (by omega) (by omega) (fun h=>by rw[h,List.take_length]at hfit2;exact hfit2) (by rw[List.length_append];omega)
end
end Go.Pl
set_option linter.unusedVariables false
set_option linter.unusedSimpArgs false
namespace Go.Pl
open Go Go.Lv
def Bak(b:List UInt8):List Int:=framesL (longN (f3 (hdr b))) (f4 (hdr b))
end Go.Pl
set_option linter.unusedVariables false
set_option linter.unusedSimpArgs false
namespace Go.Pl
open Go Go.Lv
end Go.Pl
set_option linter.unusedVariables false
set_option linter.unusedSimpArgs false
namespace Go.Pl
open Go Go.Lv
end Go.Pl
set_option linter.unusedVariables false
set_option linter.unusedSimpArgs false
namespace Go.Pl
open Go Go.Lv
theorem Bei{c r n:Nat}(h:fitB c r n=true):1≤(framesL (longN r) n).length∧(framesL (longN r) n).length≤1000:=by
 simp only[fitB,decide_eq_true_eq]at h
 rw[Baw];exact⟨Nat.le_add_left _ _,h.2⟩
end Go.Pl
set_option linter.unusedVariables false
set_option linter.unusedSimpArgs false
namespace Go.Pl
open Go Go.Lv
theorem Brx(g:Nat):∀K:Nat,(List.replicate K (g:Int)).sum=((K*g:Nat):Int)
 |0=>by simp
 |K+1=>by
  rw[List.replicate_succ,List.sum_cons,Brx g K,Nat.succ_mul];omega
theorem Bnn{g n:Nat}(hn:1≤n):(framesL g n).sum=(n:Int):=by
 have h:=Nat.div_mul_le_self (n-1) g
 rw[framesL,List.sum_append,Brx]
 simp only[List.sum_cons,List.sum_nil]
 omega
theorem Bqw:∀{l:List Int},(∀x∈l,0≤x)→0≤l.sum
 |[],_=>by simp
 |x::l,h=>by
  have h1:=h x List.mem_cons_self
  have h2:=Bqw (l:=l) fun y hy=>h y (List.mem_cons_of_mem _ hy)
  rw[List.sum_cons];omega
theorem Aul{l:List Int}(h:∀x∈l,0≤x)(i:Nat):0≤(l.take i).sum∧(l.take i).sum≤l.sum:=by
 have h1:=Bqw (l:=l.take i) fun x hx=>h x (List.mem_of_mem_take hx)
 have h2:=Bqw (l:=l.drop i) fun x hx=>h x (List.mem_of_mem_drop hx)
 have:=Bjd l i
 omega
def Zu(c w:Nat)(fr:List Int)(k:Nat):Int:=(((fr.take k).sum.toNat*(c*wB (w:Int)):Nat):Int)
section
variable {f c w r n:Nat} (h1:shapeB f c w r n=true) (h2:fitB c r n=true)
include h1 h2
theorem Aip:(∀x∈framesL (longN r) n,0≤x)∧(framesL (longN r) n).sum=(n:Int)∧n≤4000:=by
 obtain⟨hc,hw,hr,hn,_⟩:=Ana h1
 have hfit:n≤4000/c:=by simp only[fitB,decide_eq_true_eq]at h2;exact h2.1
 have hn4:n≤4000:=by have:=Nat.div_le_self 4000 c;omega
 refine⟨fun x hx=>?_,Bnn hn,hn4⟩
 obtain⟨m,rfl,_⟩:=Yj (Rh r) hn hx
 omega
end
end Go.Pl
set_option linter.unusedVariables false
set_option linter.unusedSimpArgs false
namespace Go.Pl
open Go Go.Lv
def Cd(e:Int):Prop:=e=0∨e=4∨e=12∨e=16∨e=22∨e=24∨e=26∨e=38
instance(e:Int):Decidable (Cd e):=by unfold Cd;infer_instance
theorem Cd.nn{e:Int}(h:Cd e):0≤e:=by unfold Cd at h;omega
theorem Ce7(p:List UInt8)(N a k:Nat):Cd (rcS p N a k).2.2:=by
 unfold rcS
 repeat' split
 all_goals first|decide|exact .inl rfl
theorem Cfl(p:List UInt8)(N a k l:Nat):Cd (dgS p N a k l).2.2:=by
 have h:=Ce7 p N (a+1) l
 unfold dgS
 repeat' split
 all_goals first|exact h|decide|exact .inl rfl
theorem Btj(ch:Nat)(p:List UInt8)(N:Nat):∀(j a:Nat) (out:List UInt32),Cd (Vo ch p N j a out).2.2
 |0,a,out=>by rw[Vo];exact .inl rfl
 |j+1,a,out=>by
  rw[Vo]
  split
  ·exact Cfl ..
  ·exact Btj ch p N j _ _
theorem Bzk(b:List UInt8):Cd (Ti b):=by
 unfold Ti
 repeat' split
 all_goals first|decide|exact .inl rfl
theorem Bhp(a:List Int32)(b:Int):∀(q:Nat) (i e:Int),Bd a b q i=some e→Cd e
 |0,_,_,h=>by rw[Bd]at h;cases h
 |q+1,i,e,h=>by
  rw[Bd,El]at h
  split at h
  ·cases hg:getI a i with
   |none=>rw[hg]at h;cases h
   |some g=>
    rw[hg,Aa]at h
    split at h
    ·cases h;decide
    ·rw[Aa]at h
     split at h
     ·cases h;decide
     ·exact Bhp a b q _ e h
  ·cases h;decide
theorem Bq9{bits:Int}{a:List Int32}{e:Int}(hb:Ch bits)(h:cadenzaref18_Check bits a=some e):Cd e:=by
 rw[cadenzaref18_Check,Ii]at h
 rw[Bb0 hb,Aa,if_neg (by have:=Awt bits;rw[Ap];simp;omega)]at h
 split at h
 ·cases h;decide
 ·exact Bhp a _ _ _ e h
theorem Bhz{bits:Int}{ch n:Nat}{t:List Int32}{b:List UInt8}(hb:Ch bits)(ht:t.length=16)(h1:1≤ch)(h6:ch≤6)(n1:1≤n)(n2:n≤4000/ch){l:List Int32}{e:Int}
  (h:cadenzaref21_Decode (ch:Int) bits t (n:Int) b=some (l,e)):Cd e:=by
 have hn:n*ch≤4000:=by
  have:=Nat.mul_le_mul_right ch n2
  have h2:=Nat.div_mul_le_self 4000 ch
  omega
 have hq4:=Bsw h1 h6
 generalize 4000/ch=mm at*
 have hh:=Awt bits
 have hasked:Lu (ch:Int) bits (n:Int)=some 0:=by
  rw[Lu,Yp,if_neg (by simp[Af,Aq];omega),Bb0 hb,Aa,if_neg (by rw[Ap];simp;omega),Aa,if_neg (by simp[Ak,Af];omega),Cv (by rw[Ak];simp;omega),Aa,hq4,if_neg (by rw[Aq];simp;omega)]
 rw[cadenzaref21_Decode,Qr,hasked,Aa,if_neg (by rw[Ak];simp),Be5,Aa]at h
 by_cases hs:Ti b≠0
 ·rw[if_pos (by rw[Ak];simpa using hs)]at h
  simp only[Aa]at h
  cases h
  exact Bzk b
 have hs0:Ti b=0:=by simpa using hs
 have hlen:=Bou hs0
 have e4:Aj (Ac b) 4=((b.length-4:Nat):Int):=by rw[Ac,Bv (by omega) (by omega)];omega
 rw[if_neg (by rw[Ak,hs0];simp),e4,Cs (by omega) (by omega),Aa,show((b.length-4:Nat):Int).toNat=b.length-4 from rfl]at h
 have hpl:(b.take (b.length-4)).length=b.length-4:=by simp
 generalize b.take (b.length-4)=p at*
 have hr:=Bth (N:=8*p.length) (p:=p) rfl (by omega) h1 h6 hn
 have hV:=Btj ch p (8*p.length) (n*ch) 0 []
 have hat:=Bcn (ch:=ch) (p:=p) (N:=8*p.length) (n*ch) 0 [] (by omega)
 rw[hr,Aa]at h
 generalize Vo ch p (8*p.length) (n*ch) 0 []=V at*
 obtain⟨v,at',er⟩:=V
 simp only at*
 by_cases he:er≠0
 ·rw[if_pos he]at h
  simp only at h
  rw[Hh,Hi,if_pos (by rw[Ak];simpa using he)]at h
  cases h
  exact hV
 have he0:er=0:=by simpa using he
 have hvl:=hat.2.2 he0
 simp only[List.length_nil,Nat.zero_add]at hvl
 rw[if_neg he]at h
 simp only at h
 rw[Hh,Hi]at h
 split at h
 ·cases h
  decide
 ·rw[if_neg (by decide)]at h
  have hm:v.length %ch=0:=by rw[hvl];exact Nat.mul_mod_left n ch
  obtain⟨l',e',g1,g2,g3,g4,g5⟩:=Azj (v:=v) hb ht h1 h6 (by omega) hm
  rw[g1,Aa,g2,Aa]at h
  have:=Bq9 hb g4
  by_cases hl:e'≠0
  ·rw[if_pos hl]at h;cases h;exact this
  ·rw[if_neg hl]at h;cases h;decide
theorem Bix{bits:Int}{ch n:Nat}{t:List Int32}{b:List UInt8}(hb:Ch bits)(ht:t.length=16)(h1:1≤ch)(h6:ch≤6)(n1:1≤n)(n2:n≤4000/ch){l:List Int32}{e:Int}
  (h:cadenzaref21_Decode (ch:Int) bits t (n:Int) b=some (l,e)):0≤e:=(Bhz hb ht h1 h6 n1 n2 h).nn
end Go.Pl
set_option linter.unusedVariables false
set_option linter.unusedSimpArgs false
namespace Go.Pl
open Go Go.Lv
def shI(f c w r n:Int):Bool:=decide ((f=1∨f=2)∧(1≤c∧c≤6)∧(w=8∨w=16∨w=24)∧(1≤r∧r≤1048576)∧1≤n)
theorem Byq(f c w r n:Int):Nn f c w r n=some (shI f c w r n):=by
 have e2:Lh f c w r n=some (decide ((f=1∨f=2)∧(1≤c∧c≤6)∧(1≤r∧r≤1048576)∧1≤n)):=by
  rw[Lh,Adj]
  congr 1
  rw[Bool.eq_iff_iff]
  simp only[Ap,Aq,Ahl,Bool.and_eq_true,Bool.or_eq_true,beq_iff_eq,decide_eq_true_eq]
  omega
 have g:∀k:Int,geq w k=decide (w=k):=fun k=>by rw[Ap,Bool.eq_iff_iff];simp
 rw[Nn,Va,e2,g,g,g,shI]
 by_cases h8:w=8
 ·subst h8;simp
 ·by_cases h16:w=16
  ·subst h16;simp
  ·by_cases h24:w=24
   ·subst h24;simp
   ·simp[h8,h16,h24]
theorem Ccp(f c w r n:Int):Hu f c w r n=some (shI f c w r n):=by
 rw[Hu,shI]
 simp only[Ap,Dx,Ahl,Bool.and_eq_true,Bool.or_eq_true,beq_iff_eq,decide_eq_true_eq,Bool.false_and]
 split
 ·rename_i h
  congr 1
  rw[Bool.eq_iff_iff]
  simp only[Bool.and_eq_true,Bool.or_eq_true,beq_iff_eq,decide_eq_true_eq]
  omega
 ·rename_i h
  congr 1
  symm
  rw[decide_eq_false_iff_not]
  omega
structure HdI (f c w r n:Int) (F C W R N:Nat):Prop where
 ef:f=F
 ec:c=C
 ew:w=W
 er:r=R
 en:n=N
 shape:shapeB F C W R N=true
 fit:fitB C R N=true
theorem Bvc(f c w r n:Int):(∃F C W R N:Nat,HdI f c w r n F C W R N)∨(Jg f c w r n=some 8∧Cu f c w r n=some ([],8)):=by
 by_cases h:shI f c w r n=true
 ·have h':=h
  simp only[shI,decide_eq_true_eq]at h'
  obtain⟨F,rfl⟩:=Int.eq_ofNat_of_zero_le (show 0≤f by omega)
  obtain⟨C,rfl⟩:=Int.eq_ofNat_of_zero_le (show 0≤c by omega)
  obtain⟨W,rfl⟩:=Int.eq_ofNat_of_zero_le (show 0≤w by omega)
  obtain⟨R,rfl⟩:=Int.eq_ofNat_of_zero_le (show 0≤r by omega)
  obtain⟨N,rfl⟩:=Int.eq_ofNat_of_zero_le (show 0≤n by omega)
  have hs:shapeB F C W R N=true:=by simp only[shapeB,decide_eq_true_eq];omega
  by_cases hf:fitB C R N=true
  ·exact .inl ⟨F,C,W,R,N,rfl,rfl,rfl,rfl,rfl,hs,hf⟩
  ·have hf':fitB C R N=false:=by simpa using hf
   refine .inr ⟨?_,?_⟩
   ·rw[Jg,Awh,Aa,hs,if_neg (by simp),Bfx hs,Aa,hf'];rfl
   ·rw[Cu,Pu,Asg,Aa,hs,if_neg (by simp),Az8 hs,Aa,hf'];rfl
 ·have h':shI f c w r n=false:=by simpa using h
  refine .inr ⟨?_,?_⟩
  ·rw[Jg,Ccp,Aa,h'];rfl
  ·rw[Cu,Pu,Byq,Aa,h'];rfl
theorem HdI.check{f c w r n:Int}{F C W R N:Nat}(h:HdI f c w r n F C W R N):Jg f c w r n=some 0:=by
 obtain⟨rfl,rfl,rfl,rfl,rfl,hs,hf⟩:=h
 rw[Jg,Awh,Aa,hs,if_neg (by simp),Bfx hs,Aa,hf];rfl
theorem HdI.Bak{f c w r n:Int}{F C W R N:Nat}(h:HdI f c w r n F C W R N):Cu f c w r n=some (framesL (longN R) N,0):=by
 obtain⟨rfl,rfl,rfl,rfl,rfl,hs,hf⟩:=h
 exact Bl0 hs hf
theorem HdI.num{f c w r n:Int}{F C W R N:Nat}(h:HdI f c w r n F C W R N):(F=1∨F=2)∧(1≤C∧C≤6)∧(W=8∨W=16∨W=24)∧(1≤R∧R≤1048576)∧1≤N∧N≤4000/C∧N≤4000∧(N-1)/longN R+1≤1000:=by
 obtain⟨rfl,rfl,rfl,rfl,rfl,hs,hf⟩:=h
 simp only[shapeB,decide_eq_true_eq]at hs
 simp only[fitB,decide_eq_true_eq]at hf
 have hd:4000/C≤4000:=Nat.div_le_self _ _
 omega
theorem HdI.Bqg{f c w r n:Int}{F C W R N:Nat}(h:HdI f c w r n F C W R N):Fb f c w r n=some (framesL (longN R) N):=by
 have hn:=h.num
 obtain⟨rfl,rfl,rfl,rfl,rfl,hs,hf⟩:=h
 rw[Fb,Axr (by omega) (by omega) (by omega)];rfl
end Go.Pl
