/- A part of the proof of a statement of this seat (see the text that ends in Proof): LwBase, LwBitB, LwLe, LwBits, LwRef02, LwCut, LwUn, LwRice, LwDual, LwVal, LwI32, LwFil, LwUnm, LwSam, LwCrc, LwFrm, LwC64, LwWby, LwId, LwApe, LwStrip, LwLen, LwHead, LwSeek, LwOpen, LwFrame, LwBack, LwGot, LwWs. No conditions of its own. -/
import Derived.Test.YtkkcakakemjdeaaGreatDoorSrBA
import Derived.Test.YtkkcakakemjdeaaGreatDoorSrPA
set_option linter.unusedVariables false
set_option linter.unusedSimpArgs false
namespace Go.Lv
theorem Ag{a b:Int}(h: -9223372036854775808≤a+b)(h':a+b≤9223372036854775807):Ad a b=a+b:=by rw[Ca0,Bm h h']
theorem Bi{a b:Int}(h: -9223372036854775808≤a-b)(h':a-b≤9223372036854775807):Ah a b=a-b:=by rw[Cb6,Bm h h']
theorem Fm{a b:Int}(h: -9223372036854775808≤a*b)(h':a*b≤9223372036854775807):Ax a b=a*b:=by rw[Bu4,Bm h h']
theorem Afx(c:UInt8):(Ae c:Int)=(c.toNat:Int):=by rw[Bve,Bm]<;>have:=c.toNat_lt<;>omega
theorem Bn9(c:UInt32):(Ae c:Int)=(c.toNat:Int):=by rw[Bs6,Bm]<;>have:=c.toNat_lt<;>omega
theorem Au2(c:UInt8):(Ae c:UInt64)=UInt64.ofNat c.toNat:=by simp only[Ae,Ux,Fl]
theorem Gg(c:UInt32):(Ae c:UInt64)=UInt64.ofNat c.toNat:=by simp only[Ae,Sg,Fl]
theorem Al9(c:UInt64):(Ae c:UInt8)=UInt8.ofNat c.toNat:=by simp only[Ae,Gk,Jq]
theorem Au8(c:UInt32):(Ae c:UInt8)=UInt8.ofNat c.toNat:=by simp only[Ae,Sg,Jq]
theorem We(n:Nat):(Ae (n:Int):UInt64)=UInt64.ofNat n:=by simp only[Ae];exact Fl n
theorem Bg1(n:Nat):(Ae (n:Int):UInt32)=UInt32.ofNat n:=by simp only[Ae];exact Dh n
theorem Bvt(n:Nat):(Ae (n:Int):UInt8)=UInt8.ofNat n:=by simp only[Ae];exact Jq n
theorem Aym{c:UInt64}(h:c.toNat<9223372036854775808):(Ae c:Int)=(c.toNat:Int):=by rw[Bsf,Bm]<;>omega
theorem Bqp:LIM=17179869184:=by decide
theorem Al:36893488147419103231<Am:=by decide
theorem Ca{α:Type}{l:List α}{n:Nat}(h:n<l.length):getI l (n:Int)=some l[n]:=by simp[getI,h]
theorem Ti{α:Type}{l:List α}{n:Nat}(x:α)(h:n<l.length):Ic l (n:Int) x=some (l.set n x):=by simp[Ic,h]
theorem Oo{α:Type}{l:List α}{a b:Int}(h:0≤a)(h1:a≤b)(h2:b≤l.length):Bo l a b=some ((l.take b.toNat).drop a.toNat):=by rw[Bo,if_pos ⟨h,h1,h2⟩]
theorem Ge{α:Type}{l:List α}{a:Int}(h:0≤a)(h1:a≤l.length):Bo l a (Ac l)=some (l.drop a.toNat):=by
 unfold Ac;rw[Oo h h1 (Int.le_refl _),Int.toNat_natCast,List.take_length]
theorem Iw{α:Type}{l:List α}{b:Int}(h:0≤b)(h1:b≤l.length):Bo l 0 b=some (l.take b.toNat):=by rw[Oo (Int.le_refl _) h h1];rfl
theorem Fc{α:Type}{l m:List α}(h:l.length+m.length≤17179869184):Ew l m=some (l++m):=by rw[Ew,Bqp,if_pos h]
theorem Bdf{α:Type}{n:Int}{z:α}(h:0≤n)(h':n≤17179869184):mkI n z=some (List.replicate n.toNat z):=by rw[mkI,Bqp,if_pos ⟨h,h'⟩]
theorem Bz{b:Bool}(h:b=true):Gj b=some ():=by rw[h];rfl
theorem Aa{α β:Type}(a:α)(f:α→Option β):Option.bind (some a) f=f a:=rfl
theorem drop_cons{α:Type}{l:List α}{n:Nat}(h:n<l.length):l.drop n=l[n]::l.drop (n+1):=List.drop_eq_getElem_cons h
theorem Aft{α:Type}{l:List α}{n:Nat}(h:n<l.length):l.take (n+1)=l.take n++[l[n]]:=by rw[List.take_add_one,List.getElem?_eq_getElem h];rfl
def Di:List UInt8→Nat
 |[]=>0
 |x::r=>x.toNat+256*Di r
theorem Bhq:∀l:List UInt8,Di l<256^l.length
 |[]=>by simp[Di]
 |x::r=>by
  have h:=Bhq r
  have:=x.toNat_lt
  simp only[Di,List.length_cons,Nat.pow_succ]
  omega
theorem Bci:∀l m:List UInt8,Di (l++m)=Di l+256^l.length*Di m
 |[],m=>by simp[Di]
 |x::r,m=>by
  simp only[Di,List.cons_append,Bci r m,List.length_cons,Nat.pow_succ,Nat.mul_add]
  rw[Nat.mul_comm (256^r.length) 256,Nat.mul_assoc];omega
def leU(l:List UInt8):UInt64:=UInt64.ofNat (Di l)
theorem Bx0{l:List UInt8}(h:l.length≤8):Di l<18446744073709551616:=by
 have h1:=Bhq l
 have h2:256^l.length≤256^8:=Nat.pow_le_pow_right (by omega) h
 exact Nat.lt_of_lt_of_le h1 (by simpa using h2)
theorem Bqn{l:List UInt8}(h:l.length≤4):Di l<4294967296:=by
 have h1:=Bhq l
 have h2:256^l.length≤256^4:=Nat.pow_le_pow_right (by omega) h
 exact Nat.lt_of_lt_of_le h1 (by simpa using h2)
theorem Aiw{l:List UInt8}(h:l.length≤8):(leU l).toNat=Di l:=by
 rw[leU,UInt64.toNat_ofNat',Nat.mod_eq_of_lt (Bx0 h)]
theorem Aca{l:List UInt8}(h:l.length≤4):(Ae (leU l):Int)=(Di l:Int):=by
 have:=Bqn h
 rw[Aym]<;>rw[Aiw (by omega)];omega
def leB(n:Nat):Nat→List UInt8
 |0=>[]
 |w+1=>UInt8.ofNat n::leB (n/256) w
theorem Kw:∀(w n:Nat),(leB n w).length=w
 |0,_=>rfl
 |w+1,n=>by simp[leB,Kw w]
theorem Bk0:∀(w n:Nat),leB n (w+1)=leB n w++[UInt8.ofNat (n/256^w)]
 |0,n=>by simp[leB]
 |w+1,n=>by
  rw[leB,Bk0 w (n/256),leB]
  simp[Nat.div_div_eq_div_mul,Nat.pow_succ,Nat.mul_comm]
end Go.Lv
set_option linter.unusedVariables false
set_option linter.unusedSimpArgs false
namespace Go.Lv
def Hx(p:List UInt8)(i:Nat):Nat:=(p.getD (i/8) 0).toNat/2^(i %8) %2
theorem Tx(p:List UInt8)(i:Nat):Hx p i<2:=Nat.mod_lt _ (by omega)
def Bs(p:List UInt8):Nat→Nat→Nat
 |_,0=>0
 |a,n+1=>Hx p a+2*Bs p (a+1) n
theorem Ni(p:List UInt8):∀(n a:Nat),Bs p a n<2^n
 |0,_=>by simp[Bs]
 |n+1,a=>by
  have:=Ni p n (a+1)
  have:=Tx p a
  rw[Bs,Nat.pow_succ];omega
theorem Ag7(p:List UInt8):∀(m n a:Nat),Bs p a (m+n)=Bs p a m+2^m*Bs p (a+m) n
 |0,n,a=>by simp[Bs]
 |m+1,n,a=>by
  rw[show m+1+n=(m+n)+1 by omega,Bs,Bs,Ag7 p m n (a+1),show a+1+m=a+(m+1) by omega,Nat.pow_succ,Nat.mul_add,Nat.mul_comm (2^m) 2,Nat.mul_assoc];omega
theorem Bkg(p:List UInt8)(a:Nat):Bs p a 1=Hx p a:=by simp[Bs]
theorem Bf6(p:List UInt8)(a n:Nat):Bs p a (n+1)=Bs p a n+2^n*Hx p (a+n):=by rw[Ag7 p n 1 a,Bkg]
theorem Axy(p:List UInt8)(a:Nat):∀t:Nat,a %8+t≤8→Bs p a t=(p.getD (a/8) 0).toNat/2^(a %8) %2^t
 |0,_=>by simp[Bs,Nat.mod_one]
 |t+1,h=>by
  have h1:(a+t)/8=a/8:=by omega
  have h2:(a+t) %8=a %8+t:=by omega
  rw[Bf6,Axy p a t (by omega),Hx,h1,h2,Nat.mod_pow_succ,Nat.pow_add,Nat.div_div_eq_div_mul]
theorem Bfb{p:List UInt8}:∀(n a:Nat),(∀k,k<n→Hx p (a+k)=0)→Bs p a n=0
 |0,_,_=>rfl
 |n+1,a,h=>by
  have h0:=h 0 (by omega)
  rw[Bs,Bfb n (a+1) fun k hk=>by have:=h (k+1) (by omega);rwa [show a+1+k=a+(k+1) by omega]]
  rw[Nat.add_zero]at h0;omega
def okB(p:List UInt8)(n:Nat):Prop:=n≤330000∧p.length=(n+7)/8∧∀k,n≤k→k<8*p.length→Hx p k=0
def Abn(p:List UInt8)(a n:Nat):List UInt8:=(List.range ((n+7)/8)).map fun j=>UInt8.ofNat (Bs p (a+8*j) (min 8 (n-8*j)))
theorem Ks(p:List UInt8)(a n:Nat):(Abn p a n).length=(n+7)/8:=by simp[Abn]
theorem Blo(p:List UInt8):∀(n a k:Nat),k<n→Bs p a n/2^k %2=Hx p (a+k)
 |n+1,a,0,_=>by have:=Tx p a;rw[Bs];simp;omega
 |n+1,a,k+1,h=>by
  have hb:=Tx p a
  have e:(Hx p a+2*Bs p (a+1) n)/2=Bs p (a+1) n:=by omega
  rw[Bs,Nat.pow_succ,Nat.mul_comm (2^k) 2,←Nat.div_div_eq_div_mul,e,Blo p n (a+1) k (by omega),show a+1+k=a+(k+1) by omega]
theorem Bse(p:List UInt8)(n a k:Nat)(h:n≤k):Bs p a n/2^k %2=0:=by
 have:=Ni p n a
 rw[Nat.div_eq_of_lt (Nat.lt_of_lt_of_le this (Nat.pow_le_pow_right (by omega) h))]
theorem Buv(p:List UInt8)(a n k:Nat):Hx (Abn p a n) k=if k<n then Hx p (a+k)else 0:=by
 rw[Hx]
 by_cases hj:k/8<(n+7)/8
 ·have e:(Abn p a n).getD (k/8) 0=UInt8.ofNat (Bs p (a+8*(k/8)) (min 8 (n-8*(k/8)))):=by
   rw[List.getD_eq_getElem?_getD,List.getElem?_eq_getElem (by rw[Ks];exact hj)];simp[Abn]
  have hlt:Bs p (a+8*(k/8)) (min 8 (n-8*(k/8)))<256:=by
   have:=Ni p (min 8 (n-8*(k/8))) (a+8*(k/8))
   have h2:2^(min 8 (n-8*(k/8)))≤2^8:=Nat.pow_le_pow_right (by omega) (by omega)
   omega
  have hu:(UInt8.ofNat (Bs p (a+8*(k/8)) (min 8 (n-8*(k/8))))).toNat=Bs p (a+8*(k/8)) (min 8 (n-8*(k/8))):=by
   rw[UInt8.toNat_ofNat'];exact Nat.mod_eq_of_lt hlt
  rw[e,hu]
  by_cases hk:k<n
  ·rw[if_pos hk,Blo p _ _ _ (by omega),show a+8*(k/8)+k %8=a+k by omega]
  ·rw[if_neg hk,Bse p _ _ _ (by omega)]
 ·have e:(Abn p a n).getD (k/8) 0=0:=by
   rw[List.getD_eq_getElem?_getD,List.getElem?_eq_none (by rw[Ks];omega)];rfl
  rw[e,if_neg (by omega)];simp
theorem Bqz(p:List UInt8)(a n:Nat)(h:n≤330000):okB (Abn p a n) n:=⟨h,Ks p a n,fun k hk _=>by rw[Buv,if_neg (by omega)]⟩
end Go.Lv
set_option linter.unusedVariables false
set_option linter.unusedSimpArgs false
namespace Go.Pl
open Go Go.Lv
theorem Bwo(b:List UInt8)(hb:b.length<4611686018427387904):∀(j q:Nat),j≤b.length→j<q→Je b q (leU (b.drop j)) ((j:Int)-1)=some (leU b)
 |0,q+1,_,_=>by
  rw[Je,Vk,if_neg (by rw[Ce];simp)]
  simp[Ahj,Aga]
 |j+1,q+1,hj,hq=>by
  rw[Je,Vk,if_pos (by rw[Ce];simp),show((j+1:Nat):Int)-1=(j:Int) by omega,Ca (by omega),Aa,Bi (by omega) (by omega)]
  have h:Ad (Ax (256:UInt64) (leU (b.drop (j+1)))) (Ae b[j]:UInt64)=leU (b.drop j):=by
   rw[Ad0,Ac3,Au2,drop_cons (n:=j) (by omega),leU,leU,Di,UInt64.ofNat_add,UInt64.ofNat_mul]
   exact UInt64.add_comm _ _
  rw[h]
  exact Bwo b hb j q (by omega) (by omega)
theorem Bl4(b:List UInt8)(hb:b.length<4611686018427387904):Cd b=some (leU b):=by
 have h:=Bwo b hb b.length Am (Nat.le_refl _) (by have:=Al;omega)
 rw[Cd,Ahg,Agc]
 have e:Ah (Ac b) 1=(b.length:Int)-1:=Bi (by unfold Ac;omega) (by unfold Ac;omega)
 rw[e,←h,List.drop_length];rfl
theorem Bvl{n c:UInt64}{i:Nat}(hn:n.toNat<2^i)(hc:c.toNat*2^i<18446744073709551616):gor n (Cr c i)=UInt64.ofNat (n.toNat+c.toNat*2^i):=by
 rw[Bx5];apply UInt64.toNat_inj.1
 rw[UInt64.toNat_or,Alf,Nat.mod_eq_of_lt hc,Nat.mul_comm,Nat.or_comm,←Nat.two_pow_add_eq_or_of_lt hn,UInt64.toNat_ofNat',Nat.mod_eq_of_lt,Nat.add_comm,Nat.mul_comm]
 have h:=Nat.two_pow_add_eq_or_of_lt hn c.toNat
 have h2:2^i*c.toNat+n.toNat<2^64:=by
  rw[h]
  exact Nat.or_lt_two_pow (by rw[Nat.mul_comm];simpa using hc) n.toNat_lt
 rw[Nat.add_comm];first|exact h2|(rw[Nat.mul_comm];exact h2)
theorem Bfh(b:List UInt8)(hb:b.length≤8):∀(j i q:Nat),i+j=b.length→j<q→Wr b q (leU (b.take i)) (i:Int)=some (leU b,0)
 |0,i,q+1,hi,_=>by
  rw[Wr,Ajg,if_neg (by rw[Af,Ac];simp;omega),show i=b.length by omega,List.take_length];rfl
 |j+1,i,q+1,hi,hq=>by
  have hlt:i<b.length:=by omega
  rw[Wr,Ajg,if_pos (by rw[Af,Ac];simp;omega),Ca hlt,Aa,Fm (by omega) (by omega),Bz (by rw[Ce];simp;omega),Aa,Ag (by omega) (by omega)]
  have h:gor (leU (b.take i)) (Cr (Ae b[i]:UInt64) (GI.toZ ((8:Int)*(i:Int))).toNat)=leU (b.take (i+1)):=by
   have e:(GI.toZ ((8:Int)*(i:Int))).toNat=8*i:=by show((8:Int)*(i:Int)).toNat=_;omega
   have e2:(2:Nat)^(8*i)=256^i:=by rw[Nat.pow_mul]
   have h1:=Bhq (b.take i)
   rw[List.length_take,Nat.min_eq_left (by omega)]at h1
   have h3:=b[i].toNat_lt
   have hle:(256:Nat)^(i+1)≤256^8:=Nat.pow_le_pow_right (by omega) (by omega)
   rw[Nat.pow_succ]at hle
   have h4:(Ae b[i]:UInt64).toNat=b[i].toNat:=by rw[Au2,UInt64.toNat_ofNat'];omega
   have h5:b[i].toNat*256^i<18446744073709551616:=by
    have:b[i].toNat*256^i<256*256^i:=Nat.mul_lt_mul_of_pos_right (by simpa using h3) (Nat.pow_pos (by omega))
    simp at hle;omega
   rw[e,Bvl (by rw[Aiw (by simp;omega),e2];exact h1) (by rw[h4,e2];exact h5),Aiw (by simp;omega),h4,e2,Aft hlt]
   rw[leU,Bci]
   simp only[Di,List.length_take,Nat.min_eq_left (Nat.le_of_lt hlt),Nat.mul_zero,Nat.add_zero]
   rw[Nat.mul_comm]
  rw[h]
  exact Bfh b hb j (i+1) q (by omega) (by omega)
theorem Bk9(b:List UInt8)(h1:1≤b.length)(h2:b.length≤8):Arl b=some (leU b,0):=by
 have h:=Bfh b h2 b.length 0 Am (by omega) (by have:=Al;omega)
 rw[Arl,Apu,if_neg (by simp[Af,Aq,Ac];omega),Apy]
 exact h
def part(b:List UInt8)(at' w:Nat):List UInt8:=(b.take (at'+w)).drop at'
theorem Ck{b:List UInt8}{a w:Nat}(h:a+w≤b.length):(part b a w).length=w:=by simp[part];omega
theorem Bgn(b:List UInt8)(a w:Nat)(h1:1≤w)(h2:w≤8)(h3:a+w≤b.length)(hb:b.length<4611686018427387904):Ali b (a:Int) (w:Int)=some (leU (part b a w),0):=by
 rw[Ali,if_neg (by simp[Af,Aq];omega),if_neg (by rw[Aq,Bi (by unfold Ac;omega) (by unfold Ac;omega),Ac];simp;omega),Ag (by omega) (by omega),Oo (by omega) (by omega) (by omega),Aa]
 rw[show((a:Int)+(w:Int)).toNat=a+w by omega,show(a:Int).toNat=a by omega]
 rw[Bk9 _ (by rw[show((b.take (a+w)).drop a).length=_ from Ck h3];exact h1) (by rw[show((b.take (a+w)).drop a).length=_ from Ck h3];exact h2),Aa];rfl
theorem Azn(w:Nat)(hw:w≤1000):∀(j i q:Nat) (n:UInt64) (acc:List UInt8),i+j=w→j<q→acc.length+j≤1000000→Ff (w:Int) q n (i:Int) acc=some (acc++leB n.toNat j)
 |0,i,q+1,n,acc,hi,_,_=>by
  rw[Ff,Mi,if_neg (by rw[Af];simp;omega)]
  simp[Wg,Wl,leB]
 |j+1,i,q+1,n,acc,hi,hq,ha=>by
  rw[Ff,Mi,if_pos (by rw[Af];simp;omega)]
  have e:(Ae (Wx n (256:UInt64)):UInt8)=UInt8.ofNat n.toNat:=by
   rw[Al9,Blx];apply UInt8.toNat_inj.1
   rw[UInt8.toNat_ofNat',UInt8.toNat_ofNat',UInt64.toNat_mod]
   show n.toNat %256 %256=_
   omega
  have e2:(Bq n (256:UInt64)).toNat=n.toNat/256:=by rw[Awz,UInt64.toNat_div];rfl
  rw[Fc (by simp;omega),Aa,Ag (by omega) (by omega),e]
  have h:=Azn w hw j (i+1) q (Bq n 256) (acc++[UInt8.ofNat n.toNat]) (by omega) (by omega) (by simp;omega)
  rw[e2]at h
  rw[show((i:Int)+1)=((i+1:Nat):Int) by omega,h,leB];simp
theorem Beq(n:UInt64)(w:Nat)(hw:w≤1000):Ct n (w:Int)=some (leB n.toNat w):=by
 rw[Ct,Wn,Wv]
 have h:=Azn w hw w 0 Am n [] (by omega) (by have:=Al;omega) (by simp;omega)
 simpa using h
theorem Asc{α:Type}{l m:List α}{x y:α}{i:Nat}(h:l.length=i):(l++x::m).set i y=l++y::m:=by subst h;simp
theorem Bgh(n:UInt64)(l4:List UInt8)(w:Nat)(hl:l4.length=w)(hw:w≤8):∀(j i q:Nat),i+j=w→j<q→Ws n l4 q (i:Int) (leB n.toNat i++List.replicate j 0)=some (leB n.toNat w,0)
 |0,i,q+1,hi,_=>by
  rw[Ws,Aix,if_neg (by rw[Af,Ac];simp;omega)]
  obtain rfl:i=w:=by omega
  simp[Aqf,Azj]
 |j+1,i,q+1,hi,hq=>by
  have hlen:(leB n.toNat i++List.replicate (j+1) 0).length=i+(j+1):=by simp[Kw]
  rw[Ws,Aix,if_pos (by rw[Af,Ac];simp;omega),Fm (by omega) (by omega),Bz (by rw[Ce];simp;omega),Aa,Ca (by rw[hlen];omega),Aa,Ti _ (by rw[hlen];omega),Aa,Ag (by omega) (by omega)]
  have e:(Ae (Bk n (GI.toZ ((8:Int)*(i:Int))).toNat):UInt8)=UInt8.ofNat (n.toNat/256^i):=by
   have e:(GI.toZ ((8:Int)*(i:Int))).toNat=8*i:=by show((8:Int)*(i:Int)).toNat=_;omega
   rw[e,Al9,Adf,Nat.pow_mul]
  rw[e,List.replicate_succ,Asc (Kw _ _)]
  have h:=Bgh n l4 w hl hw j (i+1) q (by omega) (by omega)
  rw[Bk0]at h
  simpa using h
theorem Bw9(n:UInt64)(w:Nat)(h1:1≤w)(h2:w≤8)(h:n.toNat<256^w):Bap n (w:Int)=some true:=by
 rw[Bap]
 by_cases h8:w=8
 ·subst h8;rw[if_pos (by rw[Bp];rfl)]
 ·rw[if_neg (by rw[Bp];simp;omega),Fm (by omega) (by omega),Bz (by rw[Ce];simp;omega),Aa]
  have e:(GI.toZ ((8:Int)*(w:Int))).toNat=8*w:=by show((8:Int)*(w:Int)).toNat=_;omega
  rw[e,Bax]
  have:Bk n (8*w)=0:=by
   apply UInt64.toNat_inj.1
   rw[Adf,Nat.pow_mul]
   exact Nat.div_eq_of_lt h
  rw[this];rfl
theorem Bl3(n:UInt64)(w:Nat)(h1:1≤w)(h2:w≤8)(h:n.toNat<256^w):Uf n (w:Int)=some (leB n.toNat w,0):=by
 rw[Uf,Aqx,if_neg (by simp[Af,Aq];omega),Bw9 n w h1 h2 h,Aa,if_neg (by simp),Bdf (by omega) (by omega),Aa,Bz (by rw[Bp];simp),Aa,Apv]
 have h:=Bgh n (List.replicate (w:Int).toNat 0) w (by simp) h2 w 0 Am (by omega) (by have:=Al;omega)
 simpa [leB]using h
end Go.Pl
set_option linter.unusedVariables false
set_option linter.unusedSimpArgs false
namespace Go.Pl
open Go Go.Lv
theorem Bmm(n:Nat)(h:n<4611686018427387904):Cx (n:Int) (7:Int)=((n %8:Nat):Int):=by
 have e:Cx (n:Int) (7:Int)=wrap64 ((BitVec.ofInt 64 (n:Int)&&&BitVec.ofInt 64 7).toNat:Int):=rfl
 rw[e,BitVec.toNat_and,BitVec.toNat_ofInt,BitVec.toNat_ofInt]
 have h1:((n:Int) %((2^64:Nat):Int)).toNat=n:=by omega
 have h2:((7:Int) %((2^64:Nat):Int)).toNat=2^3-1:=by decide
 rw[h1,h2,Nat.and_two_pow_sub_one_eq_mod,Bm (by omega) (by omega)]
theorem Ccs(n:Nat):Bg6 (n:Int) (GI.toZ (3:UInt64)).toNat=((n/8:Nat):Int):=by
 have e:Bg6 (n:Int) (GI.toZ (3:UInt64)).toNat=(n:Int).fdiv 8:=rfl
 rw[e,Int.fdiv_eq_ediv_of_nonneg _ (by omega)];omega
theorem Cdf{t:Nat}(h:t≤8):Ah (Cr (1:UInt8) t) (1:UInt8)=UInt8.ofNat (2^t-1):=by
 have:t=0∨t=1∨t=2∨t=3∨t=4∨t=5∨t=6∨t=7∨t=8:=by omega
 rcases this with rfl|rfl|rfl|rfl|rfl|rfl|rfl|rfl|rfl<;>decide
theorem bitsOf(c:UInt8)(off t:Nat)(h:t≤8):(Cx (Bk c off) (Ah (Cr (1:UInt8) t) (1:UInt8))).toNat=c.toNat/2^off %2^t:=by
 have hp:2^t≤2^8:=Nat.pow_le_pow_right (by omega) h
 rw[Cdf h,Byg,UInt8.toNat_and,Bp5,UInt8.toNat_ofNat',Nat.mod_eq_of_lt (by have:=Nat.pow_pos (n:=t) (show 0<2 by omega);omega),Nat.and_two_pow_sub_one_eq_mod]
theorem Ba4{p:List UInt8}{k:Nat}(h:k<p.length):getI p (k:Int)=some (p.getD k 0):=by
 rw[Ca h];simp[List.getD_eq_getElem?_getD,h]
def Qf(p:List UInt8)(a n:Nat):UInt64:=UInt64.ofNat (Bs p a n)
theorem Yo(p:List UInt8)(a n:Nat)(h:n≤64):(Qf p a n).toNat=Bs p a n:=by
 have h1:=Ni p n a
 have h2:2^n≤2^64:=Nat.pow_le_pow_right (by omega) h
 rw[Qf,UInt64.toNat_ofNat',Nat.mod_eq_of_lt (by omega)]
theorem Bi9(p:List UInt8)(N:Int)(a n:Nat)(hn:n≤64)(ha:a+n≤8*p.length)(hp:p.length≤1000000):∀(j h q:Nat),h+j=n→j<q→Adj (a:Int) (n:Int) p N q (Qf p a h) (h:Int)=some (Qf p a n)
 |j,h,q+1,hj,hq=>by
  rw[Adj,Arw]
  by_cases hlt:h<n
  ·have e1:Ad (a:Int) (h:Int)=((a+h:Nat):Int):=by rw[Ag (by omega) (by omega)];omega
   have e2:Db (Ah (n:Int) (h:Int)) (Ah (8:Int) (((a+h) %8:Nat):Int))=((min (n-h) (8-(a+h) %8):Nat):Int):=by
    rw[Aj5,Bi (by omega) (by omega),Bi (by omega) (by omega)];omega
   have hm:(a+h)/8<p.length:=by omega
   rw[if_pos (by rw[Af];simp;omega),e1,Ccs,Ba4 hm,Aa,Bmm _ (by omega),Bz (by rw[Ce];simp;omega),Aa,e2,Bz (by rw[Ce];simp),Aa,Bz (by rw[Ce];simp),Aa]
   generalize hT:min (n-h) (8-(a+h) %8)=T
   have hT8:T≤8:=by omega
   have hT1:1≤T:=by omega
   have hb:(a+h) %8+T≤8:=by omega
   have hv:=Axy p (a+h) T hb
   have z1:(GI.toZ (((a+h) %8:Nat):Int)).toNat=(a+h) %8:=rfl
   have z2:(GI.toZ ((T:Nat):Int)).toNat=T:=rfl
   have z3:(GI.toZ ((h:Nat):Int)).toNat=h:=rfl
   rw[z1,z2,z3]
   have hx:(Ae (Cx (Bk (p.getD ((a+h)/8) 0) ((a+h) %8)) (Ah (Cr (1:UInt8) T) (1:UInt8))):UInt64).toNat=Bs p (a+h) T:=by
    rw[Au2,UInt64.toNat_ofNat',bitsOf _ _ _ hT8,←hv]
    have:=Ni p T (a+h)
    have h2:2^T≤2^8:=Nat.pow_le_pow_right (by omega) hT8
    omega
   have hlt2:=Ni p (h+T) a
   rw[Ag7]at hlt2
   have h64:2^(h+T)≤2^64:=Nat.pow_le_pow_right (by omega) (by omega)
   have hor:gor (Qf p a h) (Cr (Ae (Cx (Bk (p.getD ((a+h)/8) 0) ((a+h) %8)) (Ah (Cr (1:UInt8) T) (1:UInt8))):UInt64) h)=Qf p a (h+T):=by
    rw[Bvl (by rw[Yo p a h (by omega)];exact Ni p h a) (by rw[hx,Nat.mul_comm];omega),hx,Yo p a h (by omega),Qf,Ag7,Nat.mul_comm (2^h)]
   rw[hor,Ag (by omega) (by omega),show(h:Int)+((T:Nat):Int)=((h+T:Nat):Int) by omega]
   exact Bi9 p N a n hn ha hp (j-T) (h+T) q (by omega) (by omega)
  ·rw[if_neg (by rw[Af];simp;omega),show h=n by omega];rfl
theorem get_eq(p:List UInt8)(N:Int)(a n:Nat)(hn:n≤64)(ha:a+n≤8*p.length)(hp:p.length≤1000000):Av1 p N (a:Int) (n:Int)=some (Qf p a n):=by
 have:=Bi9 p N a n hn ha hp n 0 Am (by omega) (by have:=Al;omega)
 exact this
theorem Afw{p:List UInt8}{n:Nat}(h:okB p n):Hk p (n:Int)=some 0:=by
 obtain⟨h1,h2,h3⟩:=h
 have e7:Ad (n:Int) 7=((n+7:Nat):Int):=by rw[Ag (by omega) (by omega)];omega
 rw[Hk,e7,Ccs,if_neg (by simp[Af,Aq,Aj,Ac,h2];omega),Bmm _ (by omega)]
 by_cases hz:n %8=0
 ·rw[if_neg (by rw[Aq];simp;omega)]
 ·have el:Ah (Ac p) 1=((p.length-1:Nat):Int):=by rw[Ac,Bi (by omega) (by omega)];omega
  rw[if_pos (by rw[Aq];simp;omega),el,Ba4 (by omega),Aa,Bz (by rw[Ce];simp;omega),Aa]
  have z:(GI.toZ ((n %8:Nat):Int)).toNat=n %8:=rfl
  have hs:Bk (p.getD (p.length-1) 0) (n %8)=0:=by
   apply UInt8.toNat_inj.1
   rw[Bp5]
   have hv:=Axy p n (8-n %8) (by omega)
   have h0:Bs p n (8-n %8)=0:=Bfb _ _ fun k hk=>h3 _ (by omega) (by omega)
   rw[h0,show n/8=p.length-1 by omega]at hv
   have hlt:(p.getD (p.length-1) 0).toNat/2^(n %8)<2^(8-n %8):=by
    have:=(p.getD (p.length-1) 0).toNat_lt
    rw[Nat.div_lt_iff_lt_mul (Nat.pow_pos (by omega)),←Nat.pow_add,show 8-n %8+n %8=8 by omega];simpa using this
   rw[Nat.mod_eq_of_lt hlt]at hv
   exact hv.symm
  rw[z,hs,if_neg (by rw[Boa];simp)]
theorem Axw{p:List UInt8}{N:Nat}(h:okB p N)(a n:Nat)(hn:n≤64):Yu p (N:Int) (a:Int) (n:Int)=some (if N<a+n then(0,24)else(Qf p a n,0)):=by
 obtain⟨h1,h2,h3⟩:=h
 rw[Yu,Afw ⟨h1,h2,h3⟩,Aa,if_neg (by rw[Aj];simp),if_neg (by simp[Af,Aq];omega),Bi (by omega) (by omega)]
 by_cases hl:N<a+n
 ·rw[if_pos (by rw[Aq];simp;omega),if_pos hl]
 ·rw[if_neg (by rw[Aq];simp;omega),get_eq p N a n hn (by omega) (by omega),Aa,if_neg hl]
end Go.Pl
set_option linter.unusedVariables false
set_option linter.unusedSimpArgs false
namespace Go.Pl
open Go Go.Lv
theorem Cd7(c:Nat)(h:c<4611686018427387904):Bq (c:Int) (2:Int)=((c/2:Nat):Int):=by
 rw[Aem,Int.tdiv_eq_ediv_of_nonneg (by omega),Bm (by omega) (by omega)];omega
theorem Cdu(c:Nat)(h:c<4611686018427387904):Bq (c:Int) (8:Int)=((c/8:Nat):Int):=by
 rw[Aem,Int.tdiv_eq_ediv_of_nonneg (by omega),Bm (by omega) (by omega)];omega
theorem Btl(c:Nat):Fa (c:Int) (8:Int)=((c %8:Nat):Int):=by rw[Fa,Int.tmod_eq_emod_of_nonneg (by omega)];omega
theorem Cd1(c:Nat):Fa (c:Int) (2:Int)=((c %2:Nat):Int):=by rw[Fa,Int.tmod_eq_emod_of_nonneg (by omega)];omega
theorem Bqj(i c:Nat)(hc:c<256):∀(j k q:Nat),k+j=i %8→j<q→Jl (i:Int) q ((c/2^k:Nat):Int) (k:Int)=some (((c/2^(i %8) %2:Nat):Int))
 |0,k,q+1,hk,_=>by
  rw[Jl,Va,Btl,if_neg (by rw[Af];simp;omega),Agi,Aid,Cd1,show k=i %8 by omega]
 |j+1,k,q+1,hk,hq=>by
  have hle:c/2^k≤c:=Nat.div_le_self _ _
  rw[Jl,Va,Btl,if_pos (by rw[Af];simp;omega),Cd7 _ (by omega),Ag (by omega) (by omega),Nat.div_div_eq_div_mul,←Nat.pow_succ]
  exact Bqj i c hc j (k+1) q (by omega) (by omega)
theorem Ax6(p:List UInt8)(N:Int)(i:Nat)(h:i/8<p.length)(hi:i<4611686018427387904):If p N (i:Int)=some ((Hx p i:Nat):Int):=by
 have hc:=(p.getD (i/8) 0).toNat_lt
 have:=Bqj i (p.getD (i/8) 0).toNat (by simpa using hc) (i %8) 0 Am (by omega) (by have:=Al;omega)
 rw[If,Ahe,Cdu _ hi,Ba4 h,Aa,Afx,Agq]
 simpa [Hx]using this
theorem Bdw(p:List UInt8)(N:Int)(a n:Nat)(ha:a+n≤8*p.length)(hp:p.length≤1000000):∀(j q:Nat),j≤n→j<q→Gv (a:Int) p N q (Qf p (a+j) (n-j)) ((j:Int)-1)=some (Qf p a n)
 |0,q+1,_,_=>by
  rw[Gv,Ok,if_neg (by rw[Ce];simp)];rfl
 |j+1,q+1,hj,hq=>by
  have hb:=Tx p (a+j)
  rw[Gv,Ok,show((j+1:Nat):Int)-1=(j:Int) by omega,if_pos (by rw[Ce];simp),Ag (a:=(a:Int)) (by omega) (by omega),show(a:Int)+(j:Int)=((a+j:Nat):Int) by omega,Ax6 p N (a+j) (by omega) (by omega),Aa,Bi (by omega) (by omega)]
  have e:Ad (Ax (2:UInt64) (Qf p (a+(j+1)) (n-(j+1)))) (Ae ((Hx p (a+j):Nat):Int):UInt64)=Qf p (a+j) (n-j):=by
   rw[Ad0,Ac3,We,Qf,Qf,show n-j=(n-(j+1))+1 by omega,Bs,show a+j+1=a+(j+1) by omega,UInt64.ofNat_add,UInt64.ofNat_mul]
   exact UInt64.add_comm _ _
  rw[e]
  exact Bdw p N a n ha hp j q (by omega) (by omega)
theorem Au7(p:List UInt8)(N:Int)(a n:Nat)(ha:a+n≤8*p.length)(hp:p.length≤1000000):Nq p N (a:Int) (n:Int)=some (Qf p a n):=by
 have:=Bdw p N a n ha hp n Am (Nat.le_refl _) (by have:=Al;omega)
 have hz:Qf p (a+n) (n-n)=0:=by rw[Nat.sub_self];rfl
 rw[hz]at this
 rw[Nq,Aan,Aa4,Bi (by omega) (by omega)]
 exact this
theorem Bot(bit:Int)(N:Nat)(l:List UInt8):∀(j k q:Nat),k+j=N %8→j<q→Ik bit (N:Int) l q ((2^k:Nat):Int) (k:Int)=Th bit ((2^(N %8):Nat):Int) (N:Int) l
 |0,k,q+1,hk,_=>by
  rw[Ik,Sr,Btl,if_neg (by rw[Af];simp;omega),show k=N %8 by omega]
 |j+1,k,q+1,hk,hq=>by
  have hp:2^k≤2^8:=Nat.pow_le_pow_right (by omega) (by omega)
  have e:Ax ((2^k:Nat):Int) 2=((2^(k+1):Nat):Int):=by
   rw[Nat.pow_succ]
   generalize 2^k=K at*
   rw[Fm (by omega) (by omega)];omega
  rw[Ik,Sr,Btl,if_pos (by rw[Af];simp;omega),e,Ag (by omega) (by omega)]
  exact Bot bit N l j (k+1) q (by omega) (by omega)
theorem Bb3(p:List UInt8)(a n j:Nat)(h:j<(n+7)/8):(Abn p a n)[j]'(by rw[Ks];exact h)=UInt8.ofNat (Bs p (a+8*j) (min 8 (n-8*j))):=by simp[Abn]
theorem Blj(p:List UInt8)(a t:Nat)(h:t≤8):Bs p a t<256:=by
 have h1:=Ni p t a
 have h2:2^t≤2^8:=Nat.pow_le_pow_right (by omega) h
 omega
def room(p:List UInt8)(a n:Nat):List UInt8:=if n %8=0 then Abn p a n++[0]else Abn p a n
theorem Tw(p:List UInt8)(a n:Nat):(room p a n).length=n/8+1:=by
 rw[room];split<;>simp[Ks]<;>omega
theorem Bmo(p:List UInt8)(a n j:Nat)(h:j<n/8+1):(room p a n)[j]'(by rw[Tw];exact h)=UInt8.ofNat (Bs p (a+8*j) (min 8 (n-8*j))):=by
 have h0:(room p a n)[j]? =some (UInt8.ofNat (Bs p (a+8*j) (min 8 (n-8*j)))):=by
  rw[room]
  split
  ·by_cases hj:j<(n+7)/8
   ·rw[List.getElem?_append_left (by rw[Ks];exact hj),List.getElem?_eq_getElem (by rw[Ks];exact hj),Bb3 p a n j hj]
   ·rw[List.getElem?_append_right (by rw[Ks];omega),Ks,show j-(n+7)/8=0 by omega,show n-8*j=0 by omega];rfl
  ·rw[List.getElem?_eq_getElem (by rw[Ks];omega),Bb3 p a n j (by omega)]
 rw[List.getElem?_eq_getElem (by rw[Tw];exact h)]at h0
 exact Option.some.inj h0
theorem Bjs(p:List UInt8)(a n T:Nat)(h1:1≤T)(h:n %8+T≤8):(room p a n).set (n/8) (UInt8.ofNat (Bs p (a+8*(n/8)) (n %8+T)))=Abn p a (n+T):=by
 apply List.ext_getElem (by rw[List.length_set,Tw,Ks];omega)
 intro j g1 g2
 rw[List.length_set,Tw]at g1
 rw[List.getElem_set,Bb3 p a (n+T) j (by rw[Ks]at g2;exact g2)]
 split
 ·rename_i e;subst e;rw[show min 8 (n+T-8*(n/8))=n %8+T by omega]
 ·rw[Bmo p a n j g1,show min 8 (n-8*j)=8 by omega,show min 8 (n+T-8*j)=8 by omega]
theorem Bf3(p:List UInt8)(a n:Nat):(room p a n)[n/8]'(by rw[Tw];omega)=UInt8.ofNat (Bs p (a+8*(n/8)) (n %8)):=by
 rw[Bmo p a n _ (by omega),show min 8 (n-8*(n/8))=n %8 by omega]
theorem Bvi(p:List UInt8)(a n:Nat)(hn:n≤400000):Ry (Abn p a n) (n:Int) ((Hx p (a+n):Nat):Int)=some (Abn p a (n+1),((n+1:Nat):Int)):=by
 have hb:=Tx p (a+n)
 have hp:2^(n %8)≤2^7:=Nat.pow_le_pow_right (by omega) (by omega)
 have hroom:Ry (Abn p a n) (n:Int) ((Hx p (a+n):Nat):Int)=Tl ((Hx p (a+n):Nat):Int) (n:Int) (room p a n):=by
  rw[Ry,Ae2,Btl,room]
  by_cases h0:n %8=0
  ·rw[if_pos (by rw[Bp,h0];rfl),Fc (by rw[Ks];simp;omega),Aa,if_pos h0]
  ·rw[if_neg (by rw[Bp];simp;omega),if_neg h0]
 have hl:=Bot ((Hx p (a+n):Nat):Int) n (room p a n) (n %8) 0 Am (by omega) (by have:=Al;omega)
 rw[hroom,Tl,Aez,Aex]
 refine Eq.trans hl ?_
 have hg:getI (room p a n) ((n/8:Nat):Int)=some (UInt8.ofNat (Bs p (a+8*(n/8)) (n %8))):=by
  rw[Ca (by rw[Tw];omega),Bf3]
 have hlt:=Blj p (a+8*(n/8)) (n %8+1) (by omega)
 have hsn:=Bf6 p (a+8*(n/8)) (n %8)
 rw[show a+8*(n/8)+n %8=a+n by omega]at hsn
 have hm:Ax ((Hx p (a+n):Nat):Int) ((2^(n %8):Nat):Int)=((2^(n %8)*Hx p (a+n):Nat):Int):=by
  have hle:2^(n %8)*Hx p (a+n)≤2^7*1:=Nat.mul_le_mul hp (by omega)
  rw[Bu4,←Int.natCast_mul,Bm (by omega) (by rw[Nat.mul_comm];omega),Nat.mul_comm]
 have hx:Ad (UInt8.ofNat (Bs p (a+8*(n/8)) (n %8))) (Ae (((2^(n %8)*Hx p (a+n):Nat):Int)):UInt8)=UInt8.ofNat (Bs p (a+8*(n/8)) (n %8+1)):=by
  rw[Byr,Bvt,hsn,UInt8.ofNat_add]
 rw[Th,Afb,Cdu _ (by omega),hg,Aa,Aa,Aa,hm,hx,Ti _ (by rw[Tw];omega),Aa,Bjs p a n 1 (by omega) (by omega),Ag (by omega) (by omega)];rfl
theorem Avy(p:List UInt8)(N:Int)(a n:Nat)(ha:a+n≤8*p.length)(hp:p.length≤1000000)(hn:n≤300000):∀(j m q:Nat),m+j=n→j<q→Fg ((a+n:Nat):Int) p N q ((a+m:Nat):Int) (m:Int) (Abn p a m)=some (Abn p a n,(n:Int))
 |0,m,q+1,hm,_=>by
  rw[Fg,Mf,if_neg (by rw[Af];simp;omega),show m=n by omega];rfl
 |j+1,m,q+1,hm,hq=>by
  rw[Fg,Mf,if_pos (by rw[Af];simp;omega),Ax6 p N (a+m) (by omega) (by omega),Aa,Bvi p a m (by omega),Aa]
  simp only
  rw[Ag (by omega) (by omega)]
  exact Avy p N a n ha hp hn j (m+1) q (by omega) (by omega)
theorem Bli(p:List UInt8)(N:Int)(a n:Nat)(ha:a+n≤8*p.length)(hp:p.length≤1000000)(hn:n≤300000):Adb p N (a:Int) ((a+n:Nat):Int)=some (Abn p a n,(n:Int)):=by
 have:=Avy p N a n ha hp hn n 0 Am (by omega) (by have:=Al;omega)
 exact this
end Go.Pl
set_option linter.unusedVariables false
set_option linter.unusedSimpArgs false
namespace Go.Pl
open Go Go.Lv
theorem Ca7{t:Nat}(h:t≤8):Ah (Cr (1:UInt64) t) (1:UInt64)=UInt64.ofNat (2^t-1):=by
 have:t=0∨t=1∨t=2∨t=3∨t=4∨t=5∨t=6∨t=7∨t=8:=by omega
 rcases this with rfl|rfl|rfl|rfl|rfl|rfl|rfl|rfl|rfl<;>decide
theorem Cd4(v:UInt64){t:Nat}(h:t≤8):(Cx v (Ah (Cr (1:UInt64) t) (1:UInt64))).toNat=v.toNat %2^t:=by
 have hp:2^t≤2^8:=Nat.pow_le_pow_right (by omega) h
 rw[Ca7 h,Ba9,UInt64.toNat_and,UInt64.toNat_ofNat',Nat.mod_eq_of_lt (by have:=Nat.pow_pos (n:=t) (show 0<2 by omega);omega),Nat.and_two_pow_sub_one_eq_mod]
theorem or8{v w i:Nat}(hv:v<2^i)(hw:w*2^i<256)(hi:i<8):gor (UInt8.ofNat v) (Cr (UInt8.ofNat w) i)=UInt8.ofNat (v+w*2^i):=by
 have hp:2^i≤2^8:=Nat.pow_le_pow_right (by omega) (by omega)
 have hpos:0<2^i:=Nat.pow_pos (by omega)
 have hw2:w<256:=Nat.lt_of_le_of_lt (Nat.le_mul_of_pos_right w hpos) hw
 rw[Cbb];apply UInt8.toNat_inj.1
 have e1:(UInt8.ofNat v).toNat=v:=by rw[UInt8.toNat_ofNat',Nat.mod_eq_of_lt (by omega)]
 have e2:(UInt8.ofNat w).toNat=w:=by rw[UInt8.toNat_ofNat',Nat.mod_eq_of_lt (by omega)]
 rw[UInt8.toNat_or,Bxt,e1,e2,Nat.mod_eq_of_lt hw,Nat.mul_comm w,Nat.or_comm,←Nat.two_pow_add_eq_or_of_lt hv,UInt8.toNat_ofNat',Nat.add_comm v]
 rw[Nat.mul_comm]at hw
 have hb:2^i*w+v<256:=by
  rw[Nat.two_pow_add_eq_or_of_lt hv]
  exact Nat.or_lt_two_pow (n:=8) hw (by omega)
 rw[Nat.mod_eq_of_lt hb]
theorem Buz(p:List UInt8)(a n T:Nat)(h:T≤n)(hn:n≤64):Bk (Qf p a n) T=Qf p (a+T) (n-T):=by
 apply UInt64.toNat_inj.1
 rw[Adf,Yo p a n hn,Yo p (a+T) (n-T) (by omega)]
 have:=Ni p T a
 conv=>lhs;rw[show n=T+(n-T) by omega,Ag7,Nat.add_mul_div_left _ _ (Nat.pow_pos (by omega)),Nat.div_eq_of_lt this,Nat.zero_add]
theorem Bu7(p:List UInt8)(a n T:Nat)(h:T≤n)(hn:n≤64):(Qf p a n).toNat %2^T=Bs p a T:=by
 have:=Ni p T a
 rw[Yo p a n hn]
 conv=>lhs;rw[show n=T+(n-T) by omega,Ag7,Nat.add_mul_mod_self_left,Nat.mod_eq_of_lt this]
theorem Bcv(bk:Int→Int→List UInt8→Option (List UInt8×Int×Int))(to':Int)(p:List UInt8)(N fr:Int)(r6:UInt64)(a:Nat):∀(j m q:Nat),m+j≤300000→j≤64→j<q→
  Kt bk to' p N fr r6 q (Qf p (a+m) j) (j:Int) (m:Int) (Abn p a m)=Afr bk to' p N fr ((m+j:Nat):Int) (Abn p a (m+j))
 |0,m,q+1,_,_,_=>by
  rw[Kt,Afl,if_neg (by rw[Aq];simp)];rfl
 |j+1,m,q+1,hm,hj,hq=>by
  have hroom:Kt bk to' p N fr r6 (q+1) (Qf p (a+m) (j+1)) ((j+1:Nat):Int) (m:Int) (Abn p a m)=Afq (Kt bk to' p N fr r6 q) to' fr p N r6 (Qf p (a+m) (j+1)) ((j+1:Nat):Int) (m:Int) (room p a m):=by
   rw[Kt,Afl,if_pos (by rw[Aq];simp),Bmm m (by omega),room]
   by_cases h0:m %8=0
   ·rw[if_pos (by rw[Bp,h0];rfl),Fc (by rw[Ks];simp;omega),Aa,if_pos h0]
   ·rw[if_neg (by rw[Bp];simp;omega),if_neg h0]
  have hl:Ah (Ac (room p a m)) 1=((m/8:Nat):Int):=by
   rw[Ac,Tw,Bi (by omega) (by omega)];omega
  have e2:Db ((j+1:Nat):Int) (Ah (8:Int) ((m %8:Nat):Int))=((min (j+1) (8-m %8):Nat):Int):=by
   rw[Aj5,Bi (by omega) (by omega)];omega
  rw[hroom,Afq,Alx,Bmm m (by omega),e2,hl]
  generalize hT:min (j+1) (8-m %8)=T
  have hT1:1≤T:=by omega
  have hT8:m %8+T≤8:=by omega
  have hg:getI (room p a m) ((m/8:Nat):Int)=some (UInt8.ofNat (Bs p (a+8*(m/8)) (m %8))):=by
   rw[Ca (by rw[Tw];omega),Bf3]
  have z1:(GI.toZ ((m %8:Nat):Int)).toNat=m %8:=rfl
  have z2:(GI.toZ ((T:Nat):Int)).toNat=T:=rfl
  have hlt:=Blj p (a+8*(m/8)) (m %8+T) (by omega)
  have hadd:=Ag7 p (m %8) T (a+8*(m/8))
  rw[show a+8*(m/8)+m %8=a+m by omega]at hadd
  have hbyte:(Ae (Cx (Qf p (a+m) (j+1)) (Ah (Cr (1:UInt64) T) (1:UInt64))):UInt8)=UInt8.ofNat (Bs p (a+m) T):=by
   rw[Al9,Cd4 _ (by omega),Bu7 p (a+m) (j+1) T (by omega) hj]
  have hnew:gor (UInt8.ofNat (Bs p (a+8*(m/8)) (m %8))) (Cr (UInt8.ofNat (Bs p (a+m) T)) (m %8))=UInt8.ofNat (Bs p (a+8*(m/8)) (m %8+T)):=by
   rw[or8 (Ni _ _ _) (by rw[Nat.mul_comm];omega) (by omega),hadd,Nat.mul_comm (2^(m %8))]
  rw[hg,z1,z2,hbyte]
  simp only[Aa]
  rw[Bz (by rw[Ce];simp),Aa,Bz (by rw[Ce];simp;omega),Aa,hnew,Ti _ (by rw[Tw];omega),Aa,Bjs p a m T hT1 hT8,Al8,Avm,Bmm m (by omega),e2,hT,Bz (by rw[Ce];simp),Aa,z2,Buz p (a+m) (j+1) T (by omega) hj,Bi (by omega) (by omega),Ag (by omega) (by omega)]
  have ih:=Bcv bk to' p N fr r6 a (j+1-T) (m+T) q (by omega) (by omega) (by omega)
  rw[show m+T+(j+1-T)=m+(j+1) by omega]at ih
  rw[←ih,show a+m+T=a+(m+T) by omega,show((j+1:Nat):Int)-((T:Nat):Int)=((j+1-T:Nat):Int) by omega,show(m:Int)+((T:Nat):Int)=((m+T:Nat):Int) by omega]
theorem Bja(p:List UInt8)(N:Int)(a n:Nat)(ha:a+n≤8*p.length)(hp:p.length≤1000000)(hn:n≤300000):∀(j m f q:Nat),(f=m∨n≤f∧m=n)→m+j=n→f≤n+64→j<q→Rs ((a+n:Nat):Int) p N q ((a+f:Nat):Int) (m:Int) (Abn p a m)=some (Abn p a n,(n:Int),0)
 |j,m,f,q+1,hf,hm,hf2,hq=>by
  rw[Rs,Anj]
  by_cases hlt:f<n
  ·obtain rfl:f=m:=by omega
   have e1:Db (64:Int) (Ah ((a+n:Nat):Int) ((a+f:Nat):Int))=((min 64 (n-f):Nat):Int):=by
    rw[Aj5,Bi (by omega) (by omega)];omega
   rw[if_pos (by rw[Af];simp;omega),e1,get_eq p N (a+f) _ (by omega) (by omega) hp,Aa,Amv]
   have h1:=Bcv (Rs ((a+n:Nat):Int) p N q) ((a+n:Nat):Int) p N ((a+f:Nat):Int) (Qf p (a+f) (min 64 (n-f))) a (min 64 (n-f)) f Am (by omega) (by omega) (by have:=Al;omega)
   refine Eq.trans h1 ?_
   rw[Afr,Avf,Ag (by omega) (by omega),show((a+f:Nat):Int)+64=((a+(f+64):Nat):Int) by omega]
   exact Bja p N a n ha hp hn (j-min 64 (n-f)) (f+min 64 (n-f)) (f+64) q (by omega) (by omega) (by omega) (by omega)
  ·rw[if_neg (by rw[Af];simp;omega),Ane,Aws,show m=n by omega]
theorem Cbo{p:List UInt8}{N:Nat}(h:okB p N)(a n:Nat)(ha:a+n≤N)(hn:n≤300000):Aqi p (N:Int) (a:Int) ((a+n:Nat):Int)=some (Abn p a n,(n:Int),0):=by
 obtain⟨h1,h2,h3⟩:=h
 have:=Bja p N a n (by omega) (by omega) hn n 0 0 Am (by omega) (by omega) (by omega) (by have:=Al;omega)
 rw[Aqi,Apl,Afw ⟨h1,h2,h3⟩,Aa,if_neg (by rw[Aj];simp),if_neg (by simp[Af,Aq];omega),Am1]
 exact this
end Go.Pl
set_option linter.unusedVariables false
set_option linter.unusedSimpArgs false
namespace Go.Pl
open Go Go.Lv
def Es(p:List UInt8):Nat→Nat→Nat
 |_,0=>0
 |a,m+1=>if Hx p a=1 then 1+Es p (a+1) m else 0
theorem Aip(p:List UInt8):∀(m a:Nat),Es p a m≤m
 |0,_=>Nat.le_refl _
 |m+1,a=>by rw[Es];split<;>have:=Aip p m (a+1)<;>omega
theorem Bka(p:List UInt8):∀(m a:Nat),∃s,Bs p a m+1=2^(Es p a m+1)*s+2^Es p a m∧(Es p a m=m→s=0)
 |0,a=>⟨0,by simp[Bs,Es],fun _=>rfl⟩
 |m+1,a=>by
  have hb:=Tx p a
  obtain⟨s,h1,h2⟩:=Bka p m (a+1)
  by_cases h:Hx p a=1
  ·refine⟨s,?_,fun e=>h2 ?_⟩
   ·rw[Es,if_pos h,Bs,h,show 1+Es p (a+1) m+1=(Es p (a+1) m+1)+1 by omega,show 1+Es p (a+1) m=Es p (a+1) m+1 by omega,Nat.pow_succ,Nat.pow_succ (n:=2) (m:=Es p (a+1) m)]
    rw[Nat.pow_succ]at h1
    generalize Bs p (a+1) m=V at*
    generalize 2^Es p (a+1) m=W at*
    have e1:W*2*2*s=2*(W*2*s):=by rw[Nat.mul_right_comm (W*2) 2 s,Nat.mul_comm]
    omega
   ·rw[Es,if_pos h]at e;omega
  ·refine⟨Bs p (a+1) m,?_,fun e=>?_⟩
   ·rw[Es,if_neg h,Bs];simp;omega
   ·rw[Es,if_neg h]at e;omega
theorem Bw4{n t s:Nat}(h:2^(t+1)*s+2^t≤2^n)(ht:t<n)(x:Nat)(hx:x=2^n-(2^(t+1)*s+2^t)):x&&& (2^(t+1)*s+2^t)=2^t:=by
 have hpos:0<2^t:=Nat.pow_pos (by omega)
 have hlt:2^t<2^(t+1):=by rw[Nat.pow_succ];omega
 have e:x=2^n-((2^(t+1)*s+(2^t-1))+1):=by rw[hx];congr 1;omega
 apply Nat.eq_of_testBit_eq
 intro i
 rw[Nat.testBit_and,e,Nat.testBit_two_pow_sub_succ (by omega),Nat.testBit_two_pow_mul_add _ (by omega),Nat.testBit_two_pow_mul_add _ hlt]
 by_cases hi:i<t+1
 ·rw[if_pos hi,if_pos hi,Nat.testBit_two_pow_sub_one,Nat.testBit_two_pow]
  by_cases hit:t=i
  ·subst hit;simp;exact ht
  ·have:¬i=t:=fun e=>hit e.symm
   simp[hit]
 ·rw[if_neg hi,if_neg hi,Nat.testBit_two_pow]
  have:¬t=i:=by omega
  simp[this]
theorem Bts(a:UInt64):(Bdk a).toNat=18446744073709551615-a.toNat:=by
 have h:=a.toNat_lt
 have e:Bdk a=UInt64.ofNat (BitVec.ofInt 64 18446744073709551615^^^BitVec.ofInt 64 (a.toNat:Int)).toNat:=Fl _
 have h1:BitVec.ofInt 64 (a.toNat:Int)=a.toBitVec:=Bhf a
 have h2:(BitVec.ofInt 64 18446744073709551615:BitVec 64)=BitVec.allOnes 64:=by decide
 rw[e,UInt64.toNat_ofNat',h1,h2,BitVec.allOnes_xor,BitVec.toNat_not]
 show(18446744073709551616-1-a.toNat) %18446744073709551616=18446744073709551615-a.toNat
 omega
theorem Bt1(a:UInt64):(Awk a).toNat=(18446744073709551616-a.toNat) %18446744073709551616:=by
 have h:=a.toNat_lt
 have e:Awk a=UInt64.ofNat ((0-(a.toNat:Int)) %18446744073709551616).toNat:=Bhg _
 rw[e,UInt64.toNat_ofNat']
 show((0-(a.toNat:Int)) %18446744073709551616).toNat %18446744073709551616=_
 omega
def Ccv:List UInt8:=[0,1,56,2,57,49,28,3,61,58,42,50,38,29,17,4,62,47,59,36,45,43,51,22,53,39,33,30,24,18,12,5,63,55,48,27,60,41,37,16,46,35,44,21,52,32,23,11,54,26,40,15,34,20,31,10,25,14,19,9,13,8,7,6]
theorem Bsy:∀t:Fin 64,getI Ccv (GI.toZ (Bk (Ax (UInt64.ofNat (2^t.val)) (285870213051353865:UInt64)) (GI.toZ (58:UInt64)).toNat))=some (UInt8.ofNat t.val):=by decide +kernel
theorem Cdd(x:UInt64)(t s:Nat)(ht:t<64)(h:x.toNat+(2^(t+1)*s+2^t)=18446744073709551616):Ej x=some (t:Int):=by
 have hpos:0<2^t:=Nat.pow_pos (by omega)
 have hx:x.toNat=2^64-(2^(t+1)*s+2^t):=by show x.toNat=18446744073709551616-_;omega
 have hle:2^t≤2^63:=Nat.pow_le_pow_right (by omega) (by omega)
 have hne:x≠0:=by
  intro e
  rw[e]at h
  have h':2^t*(2*s+1)=2^64:=by
   rw[Nat.mul_add,Nat.mul_one,←Nat.mul_assoc,←Nat.pow_succ]
   show _=18446744073709551616
   simpa using h
  have h2:2^64=2^t*2^(64-t):=by rw[←Nat.pow_add];congr 1;omega
  rw[h2]at h'
  have h3:=Nat.eq_of_mul_eq_mul_left hpos h'
  rw[show 64-t=(63-t)+1 by omega,Nat.pow_succ]at h3
  omega
 have hx0:x.toNat≠0:=fun e=>hne (UInt64.toNat_inj.1 e)
 have hl:Cx x (Awk x)=UInt64.ofNat (2^t):=by
  apply UInt64.toNat_inj.1
  rw[Ba9,UInt64.toNat_and,Bt1,show(18446744073709551616-x.toNat) %18446744073709551616=2^(t+1)*s+2^t by omega,Bw4 (n:=64) (by show _≤18446744073709551616;omega) ht _ hx,UInt64.toNat_ofNat',Nat.mod_eq_of_lt]
  exact Nat.lt_of_le_of_lt hle (by decide)
 have hb:=Bsy ⟨t,ht⟩
 rw[Ej,if_neg (by rw[Bax];simpa using hne),hl]
 refine Eq.trans (congrArg (fun o=>Option.bind o fun c=>some (Ae c:Int)) hb) ?_
 rw[Aa,Afx,UInt8.toNat_ofNat',Nat.mod_eq_of_lt (by show t<256;omega)]
theorem Bxx(p:List UInt8)(a m:Nat)(hm:m≤48):Ej (Bdk (Qf p a m))=some ((Es p a m:Nat):Int):=by
 obtain⟨s,h1,h2⟩:=Bka p m a
 have hle:=Aip p m a
 have hlt:=Ni p m a
 have h48:2^m≤2^48:=Nat.pow_le_pow_right (by omega) hm
 have hn:(Bdk (Qf p a m)).toNat=18446744073709551615-Bs p a m:=by rw[Bts,Yo p a m (by omega)]
 have h3:(281474976710656:Nat)=2^48:=rfl
 refine Cdd _ (Es p a m) s (by omega) ?_
 rw[hn];omega
def unS(p:List UInt8)(N a:Nat):Int×Int×Int:=
 if Es p a (min 48 (N-a))<min 48 (N-a)then((Es p a (min 48 (N-a)):Nat),((a+Es p a (min 48 (N-a))+1:Nat):Int),0)else
 if Es p a (min 48 (N-a))=48 then(48,((a+48:Nat):Int),0)else(0,0,24)
theorem Bux{p:List UInt8}{N:Nat}(h:okB p N)(a:Nat)(ha:a<N):Abq p (N:Int) (a:Int)=some (unS p N a):=by
 have hN:=h.1
 have e1:Db (48:Int) (Ah (N:Int) (a:Int))=((min 48 (N-a):Nat):Int):=by rw[Aj5,Bi (by omega) (by omega)];omega
 have hle:=Aip p (min 48 (N-a)) a
 rw[Abq,Ub,Afw h,Aa,if_neg (by rw[Aj];simp),if_neg (by rw[Af];simp),if_neg (by rw[Ce];simp;omega),e1,Axw h a _ (by omega),if_neg (by omega),Aa]
 simp only
 rw[Ajp,Ajr,if_neg (by rw[Aj];simp),Bxx p a _ (by omega),Aa,Ajo,Akc,e1,unS]
 by_cases h1:Es p a (min 48 (N-a))<min 48 (N-a)
 ·rw[if_pos (by rw[Af];simp;omega),if_pos h1,Ag (a:=(a:Int)) (by omega) (by omega),show Ad (0:Int) 1=1 by decide,Ag (by omega) (by omega)]
  congr 3;omega
 ·rw[if_neg (by rw[Af];simp;omega),if_neg h1,Aj1,Akd]
  by_cases h2:Es p a (min 48 (N-a))=48
  ·rw[if_pos (by rw[Bp,h2];rfl),if_pos h2,h2,Ag (a:=(a:Int)) (by omega) (by omega),Ag (by omega) (by omega)]
   congr 3;omega
  ·rw[if_neg (by rw[Bp];simp;omega),if_neg h2];rfl
theorem Bfy(p:List UInt8):∀(m a:Nat),Es p a m<m→Hx p (a+Es p a m)≠1
 |0,_,h=>by simp[Es]at h
 |m+1,a,h=>by
  by_cases hb:Hx p a=1
  ·rw[Es,if_pos hb]at h⊢
   have:=Bfy p m (a+1) (by omega)
   rwa [show a+(1+Es p (a+1) m)=a+1+Es p (a+1) m by omega]
  ·rw[Es,if_neg hb];exact hb
theorem Bga(p:List UInt8):∀(m a k:Nat),k<Es p a m→Hx p (a+k)=1
 |0,a,k,h=>by simp[Es]at h
 |m+1,a,k,h=>by
  by_cases hb:Hx p a=1
  ·rw[Es,if_pos hb]at h
   cases k with
   |zero=>exact hb
   |succ k=>
    have:=Bga p m (a+1) k (by omega)
    rwa [show a+(k+1)=a+1+k by omega]
  ·rw[Es,if_neg hb]at h;omega
def unR(p:List UInt8)(N a:Nat):Int×Int:=if(unS p N a).2.2=0 then((unS p N a).1,(unS p N a).2.1)else(-1,0)
theorem Bch{p:List UInt8}{N:Nat}(h:okB p N)(a:Nat)(ha:a<N):∀(j k q:Nat),k+j=Es p a (min 48 (N-a))→j<q→Im (a:Int) p (N:Int) q (k:Int)=some (unR p N a)
 |0,k,q+1,hk,_=>by
  obtain⟨hN,hl,hz⟩:=h
  have hle:=Aip p (min 48 (N-a)) a
  have hk':k=Es p a (min 48 (N-a)):=by omega
  have e1:Ad (a:Int) (k:Int)=((a+k:Nat):Int):=by rw[Ag (by omega) (by omega)];omega
  have hend:Tk (a:Int) (k:Int) p (N:Int)=some (unR p N a):=by
   rw[Tk,Afd,e1]
   by_cases h48:k=48
   ·have hu:unS p N a=(48,((a+48:Nat):Int),0):=by rw[unS,←hk',if_neg (by omega),if_pos h48]
    rw[if_pos (by rw[Bp,h48];rfl),unR,hu,h48];rfl
   ·rw[if_neg (by rw[Bp];simp;omega)]
    by_cases hN2:N≤a+k
    ·have hu:unS p N a=(0,0,24):=by rw[unS,←hk',if_neg (by omega),if_neg h48]
     rw[if_pos (by rw[Ce];simp;omega),unR,hu];rfl
    ·have hu:unS p N a=(((k:Nat):Int),((a+k+1:Nat):Int),0):=by rw[unS,←hk',if_pos (by omega)]
     rw[if_neg (by rw[Ce];simp;omega),unR,hu,Ag (by omega) (by omega)];rfl
  rw[Im,Tm,e1]
  by_cases hc:a+k<N∧k<48
  ·have hb:=Tx p (a+k)
   have hs:=Bfy p (min 48 (N-a)) a (by omega)
   rw[←hk']at hs
   rw[if_pos (by simp[Af];omega),Ax6 p _ (a+k) (by omega) (by omega),Aa,if_neg (by rw[Bp];simp;omega),hend]
  ·rw[if_neg (by simp[Af];omega),hend]
 |j+1,k,q+1,hk,hq=>by
  obtain⟨hN,hl,hz⟩:=h
  have hle:=Aip p (min 48 (N-a)) a
  have hb:=Bga p (min 48 (N-a)) a k (by omega)
  have e1:Ad (a:Int) (k:Int)=((a+k:Nat):Int):=by rw[Ag (by omega) (by omega)];omega
  rw[Im,Tm,e1,if_pos (by simp[Af];omega),Ax6 p _ (a+k) (by omega) (by omega),Aa,hb,if_pos (by decide),Ag (by omega) (by omega)]
  exact Bch ⟨hN,hl,hz⟩ a ha j (k+1) q (by omega) (by omega)
theorem Bwq{p:List UInt8}{N:Nat}(h:okB p N)(a:Nat)(ha:a<N):Alh p (N:Int) (a:Int)=some (unR p N a):=by
 have hle:=Aip p (min 48 (N-a)) a
 have:=Bch h a ha (Es p a (min 48 (N-a))) 0 Am (by omega) (by have:=Al;omega)
 exact this
end Go.Pl
set_option linter.unusedVariables false
set_option linter.unusedSimpArgs false
namespace Go.Pl
open Go Go.Lv
theorem Bvz{p:List UInt8}{N a:Nat}(h:Es p a (min 48 (N-a))<min 48 (N-a)):unS p N a=(((Es p a (min 48 (N-a)):Nat):Int),((a+Es p a (min 48 (N-a))+1:Nat):Int),0):=by rw[unS,if_pos h]
theorem Bu8{p:List UInt8}{N a:Nat}(h:¬Es p a (min 48 (N-a))<min 48 (N-a))(h2:Es p a (min 48 (N-a))=48):unS p N a=(48,((a+48:Nat):Int),0):=by rw[unS,if_neg h,if_pos h2]
theorem Buo{p:List UInt8}{N a:Nat}(h:¬Es p a (min 48 (N-a))<min 48 (N-a))(h2:¬Es p a (min 48 (N-a))=48):unS p N a=(0,0,24):=by rw[unS,if_neg h,if_neg h2]
theorem Bsl{p:List UInt8}{N:Nat}(h:okB p N)(a:Nat)(ha:N≤a):Abq p (N:Int) (a:Int)=some (0,0,24):=by
 rw[Abq,Ub,Afw h,Aa,if_neg (by rw[Aj];simp),if_neg (by rw[Af];simp),if_pos (by rw[Ce];simp;omega)]
def rcS(p:List UInt8)(N a k:Nat):UInt32×Int×Int:=
 if N≤a then(0,0,24)else
 if Es p a (min 48 (N-a))<min 48 (N-a)then
  (if N<a+Es p a (min 48 (N-a))+1+k then(0,0,24)else(UInt32.ofNat (Es p a (min 48 (N-a))*2^k+Bs p (a+Es p a (min 48 (N-a))+1) k),((a+Es p a (min 48 (N-a))+1+k:Nat):Int),0))
 else if Es p a (min 48 (N-a))=48 then
  (if N<a+48+32 then(0,0,24)else if Bs p (a+48) 32/2^k<48 then(0,0,12)else(UInt32.ofNat (Bs p (a+48) 32),((a+48+32:Nat):Int),0))
 else(0,0,24)
theorem Avp{p:List UInt8}{a n:Nat}(h:n≤32):(Ae (Qf p a n):UInt32)=UInt32.ofNat (Bs p a n):=by
 have e:(Ae (Qf p a n):UInt32)=UInt32.ofNat (Qf p a n).toNat:=by simp only[Ae,Gk,Dh]
 rw[e,Yo p a n (by omega)]
theorem Amn{n:Nat}(h:n<4294967296):(UInt32.ofNat n).toNat=n:=by rw[UInt32.toNat_ofNat'];exact Nat.mod_eq_of_lt h
theorem Bll(p:List UInt8)(a:Nat){n:Nat}(h:n≤32):Bs p a n<4294967296:=by
 have h1:=Ni p n a
 have h2:2^n≤2^32:=Nat.pow_le_pow_right (by omega) h
 omega
theorem Cb9{q v k:Nat}(hq:q<48)(hv:v<2^k)(hk:k≤24):gor (Cr (Ae (q:Int):UInt32) k) (UInt32.ofNat v)=UInt32.ofNat (q*2^k+v):=by
 have hp:2^k≤2^24:=Nat.pow_le_pow_right (by omega) hk
 have h1:q*2^k≤47*2^24:=Nat.mul_le_mul (by omega) hp
 rw[Bxo];apply UInt32.toNat_inj.1
 rw[UInt32.toNat_or,Bby,Bg1,Amn (by omega),Amn (n:=v) (by omega),Nat.mod_eq_of_lt (by omega),Nat.mul_comm q,←Nat.two_pow_add_eq_or_of_lt hv,Amn (by rw[Nat.mul_comm];omega)]
theorem Byw{p:List UInt8}{N:Nat}(h:okB p N)(a k:Nat)(hk:k≤24):Ar8 p (N:Int) (a:Int) (k:Int)=some (rcS p N a k):=by
 have hN:=h.1
 rw[Ar8,Ami,Afw h,Aa,if_neg (by rw[Aj];simp),if_neg (by simp[Af,Aq];omega)]
 by_cases ha:N≤a
 ·rw[Bsl h a ha,Aa,rcS,if_pos ha];rfl
 have hle:=Aip p (min 48 (N-a)) a
 rw[Bux h a (by omega),Aa]
 by_cases h1:Es p a (min 48 (N-a))<min 48 (N-a)
 ·have hS:rcS p N a k=if N<a+Es p a (min 48 (N-a))+1+k then(0,0,24)else(UInt32.ofNat (Es p a (min 48 (N-a))*2^k+Bs p (a+Es p a (min 48 (N-a))+1) k),((a+Es p a (min 48 (N-a))+1+k:Nat):Int),0):=by rw[rcS,if_neg ha,if_pos h1]
  rw[Bvz h1,hS]
  generalize Es p a (min 48 (N-a))=q at*
  simp only
  rw[if_neg (by rw[Aj];simp),if_neg (by rw[Bp];simp;omega),Afp,Al0,Axw h _ k (by omega),Aa]
  by_cases h2:N<a+q+1+k
  ·rw[if_pos h2,if_pos h2];rfl
  ·rw[if_neg h2,if_neg h2]
   simp only
   have z:(GI.toZ (k:Int)).toNat=k:=rfl
   rw[if_neg (by rw[Aj];simp),if_pos (by rw[Af];simp;omega),Bz (by rw[Ce];simp),Aa,z,Avp (by omega),Cb9 (by omega) (Ni _ _ _) hk,Ag (by omega) (by omega)];rfl
 ·by_cases h2:Es p a (min 48 (N-a))=48
  ·have hS:rcS p N a k=if N<a+48+32 then(0,0,24)else if Bs p (a+48) 32/2^k<48 then(0,0,12)else(UInt32.ofNat (Bs p (a+48) 32),((a+48+32:Nat):Int),0):=by rw[rcS,if_neg ha,if_neg h1,if_pos h2]
   have hg:=Axw h (a+48) 32 (by omega)
   rw[Bu8 h1 h2,hS]
   simp only
   rw[if_neg (by rw[Aj];simp),if_pos (by rw[Bp];rfl),Afp,Al0]
   refine Eq.trans (congrArg (fun o=>Option.bind o _) hg) ?_
   rw[Aa]
   by_cases h3:N<a+48+32
   ·rw[if_pos h3,if_pos h3];rfl
   ·rw[if_neg h3,if_neg h3]
    simp only
    have z:(GI.toZ (k:Int)).toNat=k:=rfl
    have hv:=Bll p (a+48) (n:=32) (by omega)
    rw[if_neg (by rw[Aj];simp),if_neg (by rw[Af];simp),Afo,Bz (by rw[Ce];simp),Aa,Aa,z,Avp (by omega),Bxg]
    have e:(decide ((48:UInt32).toNat≤(Bk (UInt32.ofNat (Bs p (a+48) 32)) k).toNat))=decide (¬Bs p (a+48) 32/2^k<48):=by
     rw[Alc,Amn hv];simp
    rw[e]
    by_cases h4:Bs p (a+48) 32/2^k<48
    ·rw[if_pos (by simp[h4]),if_pos h4]
    ·rw[if_neg (by simp;omega),if_neg h4,Ag (by omega) (by omega)];rfl
  ·rw[Buo h1 h2,rcS,if_neg ha,if_neg h1,if_neg h2];rfl
theorem Ben(k:Nat)(hk:k≤63):∀(j i q:Nat),i+j=k→j<q→Gw (k:Int) q (UInt64.ofNat (2^i)) (i:Int)=some (UInt64.ofNat (2^k))
 |0,i,q+1,hi,_=>by
  rw[Gw,Pc,if_neg (by rw[Af];simp;omega),show i=k by omega];rfl
 |j+1,i,q+1,hi,hq=>by
  have e:Ax (UInt64.ofNat (2^i)) (2:UInt64)=UInt64.ofNat (2^(i+1)):=by
   rw[Ac3,Nat.pow_succ,UInt64.ofNat_mul];rfl
  rw[Gw,Pc,if_pos (by rw[Af];simp;omega),Ag (by omega) (by omega),e]
  exact Ben k hk j (i+1) q (by omega) (by omega)
theorem Adp(k:Nat)(hk:k≤63):Dx (k:Int)=some (UInt64.ofNat (2^k)):=
 Ben k hk k 0 Am (by omega) (by have:=Al;omega)
theorem Aiy{k:Nat}(hk:k≤63):(UInt64.ofNat (2^k)).toNat=2^k:=by
 have hp:2^k≤2^63:=Nat.pow_le_pow_right (by omega) hk
 rw[UInt64.toNat_ofNat',Nat.mod_eq_of_lt (by omega)]
theorem Bzs(v:UInt32)(k:Nat)(hk:k≤24):Zf v (k:Int)=some ((min 48 (v.toNat/2^k):Nat):Int):=by
 have hpos:0<2^k:=Nat.pow_pos (by omega)
 have hv:=v.toNat_lt
 rw[Zf,Adp k (by omega),Aa,Bz (by rw[Afh];simp only[bne_iff_ne,ne_eq,←UInt64.toNat_inj,Aiy (show k≤63 by omega)];simp),Aa]
 have e:(Bq (Ae v:UInt64) (UInt64.ofNat (2^k))).toNat=v.toNat/2^k:=by
  rw[Awz,UInt64.toNat_div,Gg,Aiy (by omega),UInt64.toNat_ofNat',Nat.mod_eq_of_lt (by omega)]
 have hle:v.toNat/2^k≤v.toNat:=Nat.div_le_self _ _
 have e2:Db (48:UInt64) (Bq (Ae v:UInt64) (UInt64.ofNat (2^k)))=UInt64.ofNat (min 48 (v.toNat/2^k)):=by
  apply UInt64.toNat_inj.1
  rw[UInt64.toNat_ofNat',Nat.mod_eq_of_lt (by omega)]
  show(if _ then _ else _:UInt64).toNat=_
  rw[show(GI.toZ (Bq (Ae v:UInt64) (UInt64.ofNat (2^k))))=((v.toNat/2^k:Nat):Int) by rw[Gk,e],show GI.toZ (48:UInt64)=48 from rfl]
  split
  ·rw[e];omega
  ·show 48=_;omega
 rw[e2,Aym (by rw[UInt64.toNat_ofNat',Nat.mod_eq_of_lt]<;>omega),UInt64.toNat_ofNat',Nat.mod_eq_of_lt (by omega)]
theorem Btf{p:List UInt8}{N:Nat}(h:okB p N)(a k:Nat)(hk:k≤24):Abs p (N:Int) (a:Int) (k:Int)=some (rcS p N a k):=by
 obtain⟨hN,hl,hz⟩:=h
 have h:okB p N:=⟨hN,hl,hz⟩
 rw[Abs,Ae8]
 by_cases ha:N≤a
 ·rw[if_pos (by rw[Ce];simp;omega),rcS,if_pos ha]
 have hle:=Aip p (min 48 (N-a)) a
 rw[if_neg (by rw[Ce];simp;omega),Bwq h a (by omega),Aa,unR]
 by_cases h1:Es p a (min 48 (N-a))<min 48 (N-a)
 ·have hS:rcS p N a k=if N<a+Es p a (min 48 (N-a))+1+k then(0,0,24)else(UInt32.ofNat (Es p a (min 48 (N-a))*2^k+Bs p (a+Es p a (min 48 (N-a))+1) k),((a+Es p a (min 48 (N-a))+1+k:Nat):Int),0):=by rw[rcS,if_neg ha,if_pos h1]
  rw[Bvz h1,hS]
  generalize Es p a (min 48 (N-a))=q at*
  rw[if_pos rfl]
  simp only
  rw[if_neg (by rw[Bp];simp;omega),Tq,So,Bi (by omega) (by omega)]
  by_cases h2:N<a+q+1+k
  ·rw[if_pos (by simp[Af];omega),if_pos h2]
  ·have hp:2^k≤2^24:=Nat.pow_le_pow_right (by omega) hk
   have hm:q*2^k≤47*2^24:=Nat.mul_le_mul (by omega) hp
   have hv:=Ni p k (a+q+1)
   have e:(Ae (Ad (Ax (Ae (q:Int):UInt64) (UInt64.ofNat (2^k))) (Qf p (a+q+1) k)):UInt32)=UInt32.ofNat (q*2^k+Bs p (a+q+1) k):=by
    have e1:Ad (Ax (Ae (q:Int):UInt64) (UInt64.ofNat (2^k))) (Qf p (a+q+1) k)=UInt64.ofNat (q*2^k+Bs p (a+q+1) k):=by
     rw[Ad0,Ac3,We,Qf,UInt64.ofNat_add,UInt64.ofNat_mul]
    rw[e1]
    have e2:∀x:UInt64,(Ae x:UInt32)=UInt32.ofNat x.toNat:=fun x=>by simp only[Ae,Gk,Dh]
    rw[e2,UInt64.toNat_ofNat',Nat.mod_eq_of_lt (by omega)]
   rw[if_neg (by simp[Af];omega),if_neg h2,Au7 p _ _ k (by omega) (by omega),Aa,if_pos (by rw[Af];simp;omega),Adp k (by omega),Aa,e,Ag (by omega) (by omega)];rfl
 ·by_cases h2:Es p a (min 48 (N-a))=48
  ·have hS:rcS p N a k=if N<a+48+32 then(0,0,24)else if Bs p (a+48) 32/2^k<48 then(0,0,12)else(UInt32.ofNat (Bs p (a+48) 32),((a+48+32:Nat):Int),0):=by rw[rcS,if_neg ha,if_neg h1,if_pos h2]
   rw[Bu8 h1 h2,hS,if_pos rfl]
   simp only
   rw[if_pos (by rw[Bp];rfl),Tq,So,Bi (by omega) (by omega)]
   by_cases h3:N<a+48+32
   ·rw[if_pos (by simp[Af];omega),if_pos h3]
   ·have hg:=Au7 p (N:Int) (a+48) 32 (by omega) (by omega)
    have hv:=Bll p (a+48) (n:=32) (by omega)
    rw[if_neg (by simp[Af];omega),if_neg h3]
    refine Eq.trans (congrArg (fun o=>Option.bind o _) hg) ?_
    rw[Aa,if_neg (by rw[Af];simp),Avp (by omega),Bzs _ k hk,Aa,Amn hv]
    by_cases h4:Bs p (a+48) 32/2^k<48
    ·rw[if_pos (by rw[Af];simp;omega),if_pos h4]
    ·rw[if_neg (by rw[Af];simp;omega),if_neg h4,Ag (by omega) (by omega)];rfl
  ·rw[Buo h1 h2,rcS,if_neg ha,if_neg h1,if_neg h2]
   have e:(if((0:Int),(0:Int),(24:Int)).2.2=0 then(((0:Int),(0:Int),(24:Int)).1,((0:Int),(0:Int),(24:Int)).2.1)else((-1:Int),(0:Int)))=(-1,0):=by decide
   rw[e];rfl
theorem Cbf{p:List UInt8}{N a k:Nat}{v:UInt32}{n:Int}(h:rcS p N a k=(v,n,0)):(a:Int)<n∧n≤N:=by
 unfold rcS at h
 split at h
 ·simp at h
 split at h
 ·split at h
  ·simp at h
  ·simp only[Prod.mk.injEq]at h;omega
 ·split at h
  ·split at h
   ·simp at h
   ·split at h
    ·simp at h
    ·simp only[Prod.mk.injEq]at h;omega
  ·simp at h
end Go.Pl
set_option linter.unusedVariables false
set_option linter.unusedSimpArgs false
namespace Go.Pl
open Go Go.Lv
def okD(k l:Nat)(s t:UInt64):Prop:=k≤24∧l≤24∧s.toNat≤68719476735∧t.toNat≤68719476735
theorem Bjy(a b:UInt64)(h:a.toNat≤b.toNat):Db a b=a:=by
 show(if _ then _ else _)=_
 rw[Gk,Gk,if_neg (by omega)]
theorem Aw9(a:UInt64):geq a a=true:=by rw[Bax];simp
theorem Cbs{k l:Nat}{s t:UInt64}(h:okD k l s t):Ah5 (k:Int) (l:Int) s t=some 0:=by
 obtain⟨h1,h2,h3,h4⟩:=h
 have e1:Db (As4 (k:Int) 0) 24=(k:Int):=by rw[Aj5,Bok];omega
 have e2:Db (As4 (l:Int) 0) 24=(l:Int):=by rw[Aj5,Bok];omega
 have e3:Db s (68719476735:UInt64)=s:=Bjy _ _ (by simpa using h3)
 have e4:Db t (68719476735:UInt64)=t:=Bjy _ _ (by simpa using h4)
 have e5:∀a:Int,geq a a=true:=fun a=>by rw[Bp];simp
 rw[Ah5,Acd,Ake,Ace,Aj8,Atz,e1,e2,e3,e4,e5,e5,Aw9,Aw9];rfl
def Xq(s n:UInt64):UInt64:=s+n-s/16
def kS(k:Nat)(s:UInt64):Nat:=if 0<k∧s.toNat<2^(k+4)then k-1 else if k<24∧2^(k+5)<s.toNat then k+1 else k
theorem Caq{k:Nat}(h:k≤24)(s:UInt64):kS k s≤24:=by
 unfold kS
 by_cases h1:0<k∧s.toNat<2^(k+4)
 ·rw[if_pos h1];omega
 ·rw[if_neg h1];split<;>omega
theorem Bp0{k:Nat}{s:UInt64}(h:¬(0<k∧s.toNat<2^(k+4))):(if k<24∧2^(k+5)<s.toNat then((k+1:Nat):Int)else(k:Int))=((kS k s:Nat):Int):=by
 rw[kS,if_neg h];split<;>rfl
theorem Bpl{s n:UInt64}(h:s.toNat≤68719476735)(hn:n.toNat≤4294967295):(Xq s n).toNat≤68719476735:=by
 have h1:=s.toNat_lt
 have e:(s+n).toNat=s.toNat+n.toNat:=by rw[UInt64.toNat_add];omega
 have e2:(s/16).toNat=s.toNat/16:=by rw[UInt64.toNat_div];rfl
 rw[Xq,UInt64.toNat_sub_of_le _ _ (by rw[UInt64.le_iff_toNat_le,e,e2];omega),e,e2];omega
theorem Ba0(s n:UInt64):Ad s (Ah n (Bk s (GI.toZ (4:UInt64)).toNat))=Xq s n:=by
 have e:Bk s (GI.toZ (4:UInt64)).toNat=s/16:=by
  apply UInt64.toNat_inj.1
  rw[Adf,UInt64.toNat_div];rfl
 rw[e,Ad0,Bdl,Xq,UInt64.sub_eq_add_neg,UInt64.sub_eq_add_neg,UInt64.add_assoc]
theorem Bqf(s n:UInt64):Ah (Ad s n) (Bq s (16:UInt64))=Xq s n:=by rw[Ad0,Bdl,Awz,Xq]
theorem Cc7{k:Nat}(h:k≤24):(Cr (16:UInt64) k).toNat=2^(k+4):=by
 have hp:2^k≤2^24:=Nat.pow_le_pow_right (by omega) h
 rw[Alf,Nat.pow_add]
 show 16*2^k %_=2^k*16
 rw[Nat.mod_eq_of_lt (by omega),Nat.mul_comm]
theorem Cby{k:Nat}(h:k≤24):(Cr (32:UInt64) k).toNat=2^(k+5):=by
 have hp:2^k≤2^24:=Nat.pow_le_pow_right (by omega) h
 rw[Alf,Nat.pow_add]
 show 32*2^k %_=2^k*32
 rw[Nat.mod_eq_of_lt (by omega),Nat.mul_comm]
theorem Cag{k:Nat}{s:UInt64}(h:0<k)(h2:s.toNat<2^(k+4)):kS k s=k-1:=by rw[kS,if_pos ⟨h,h2⟩]
theorem Cas{k:Nat}{s:UInt64}(h:¬(0<k∧s.toNat<2^(k+4)))(h2:k<24)(h3:2^(k+5)<s.toNat):kS k s=k+1:=by rw[kS,if_neg h,if_pos ⟨h2,h3⟩]
theorem Bqv{k:Nat}{s:UInt64}(h:¬(0<k∧s.toNat<2^(k+4)))(h2:¬(k<24∧2^(k+5)<s.toNat)):kS k s=k:=by rw[kS,if_neg h,if_neg h2]
theorem Car{α:Type}(k:Nat)(hk:k≤24)(s:UInt64)(f:Int→Option α):
  (if(El (k:Int) (0:Int))=true then(
   Option.bind (Gj (Ja (k:Int) (0:Int))) fun _=>
   if(Bt s (Cr (16:UInt64) (GI.toZ (k:Int)).toNat))=true then f (Ah (k:Int) (1:Int))
   else(if(Bt (k:Int) (24:Int))=true then(
    Option.bind (Gj (Ja (k:Int) (0:Int))) fun _=>
    if(El s (Cr (32:UInt64) (GI.toZ (k:Int)).toNat))=true then f (Ad (k:Int) (1:Int))else f (k:Int))
    else f (k:Int)))
  else(if(Bt (k:Int) (24:Int))=true then(
    Option.bind (Gj (Ja (k:Int) (0:Int))) fun _=>
    if(El s (Cr (32:UInt64) (GI.toZ (k:Int)).toNat))=true then f (Ad (k:Int) (1:Int))else f (k:Int))
    else f (k:Int)))=f ((kS k s:Nat):Int):=by
 have z:(GI.toZ (k:Int)).toNat=k:=rfl
 rw[z,Bz (by rw[Ce];simp)]
 simp only[Aa]
 rw[Bay,Ajh,Cc7 hk,Cby hk]
 by_cases h0:0<k
 ·rw[if_pos (by rw[Aq];simp;omega)]
  by_cases h1:s.toNat<2^(k+4)
  ·rw[if_pos (by simp[h1]),Cag h0 h1,Bi (by omega) (by omega)];congr 1;omega
  ·rw[if_neg (by simp;omega)]
   by_cases h2:k<24
   ·rw[if_pos (by rw[Af];simp;omega)]
    by_cases h3:2^(k+5)<s.toNat
    ·rw[if_pos (by simp[h3]),Cas (fun h=>h1 h.2) h2 h3,Ag (by omega) (by omega)];rfl
    ·rw[if_neg (by simp;omega),Bqv (fun h=>h1 h.2) (fun h=>h3 h.2)]
   ·rw[if_neg (by rw[Af];simp;omega),Bqv (fun h=>h1 h.2) (fun h=>h2 h.1)]
 ·rw[if_neg (by rw[Aq];simp;omega)]
  by_cases h2:k<24
  ·rw[if_pos (by rw[Af];simp;omega)]
   by_cases h3:2^(k+5)<s.toNat
   ·rw[if_pos (by simp[h3]),Cas (fun h=>h0 h.1) h2 h3,Ag (by omega) (by omega)];rfl
   ·rw[if_neg (by simp;omega),Bqv (fun h=>h0 h.1) (fun h=>h3 h.2)]
  ·rw[if_neg (by rw[Af];simp;omega),Bqv (fun h=>h0 h.1) (fun h=>h2 h.1)]
theorem Bpi(k:Nat)(hk:k≤24)(s n:UInt64):Pg (k:Int) s n=some (((kS k (Xq s n):Nat):Int),Xq s n):=by
 have g1:Ad (k:Int) 4=((k+4:Nat):Int):=by rw[Ag (by omega) (by omega)];omega
 have g2:Ad (k:Int) 5=((k+5:Nat):Int):=by rw[Ag (by omega) (by omega)];omega
 have hp:Rm (k:Int) s n=some (if k<24∧2^(k+5)<(Xq s n).toNat then((k+1:Nat):Int)else(k:Int),Xq s n):=by
  rw[Rm,Ac0,g2,Adp _ (by omega),Aa,Bqf,Ajh,Aiy (by omega)]
  by_cases h2:k<24
  ·rw[if_pos (by rw[Af];simp;omega)]
   by_cases h3:2^(k+5)<(Xq s n).toNat
   ·rw[if_pos (by simp[h3]),if_pos ⟨h2,h3⟩,Ag (by omega) (by omega)];rfl
   ·rw[if_neg (by simp;omega),if_neg (fun h=>h3 h.2)]
  ·rw[if_neg (by rw[Af];simp;omega),if_neg (fun h=>h2 h.1)]
 rw[Pg,Acz,g1,Adp _ (by omega),Aa,Bqf,Bay,Aiy (by omega),hp]
 by_cases h0:0<k
 ·rw[if_pos (by rw[Aq];simp;omega)]
  by_cases h1:(Xq s n).toNat<2^(k+4)
  ·rw[if_pos (by simp[h1]),Cag h0 h1,Bi (by omega) (by omega)];congr 2;omega
  ·rw[if_neg (by simp;omega),Bp0 (fun h=>h1 h.2)]
 ·rw[if_neg (by rw[Aq];simp;omega),Bp0 (fun h=>h0 h.1)]
def n64(v:UInt32):UInt64:=UInt64.ofNat v.toNat
theorem Bvp(v:UInt32):(n64 v).toNat≤4294967295:=by have:=v.toNat_lt;rw[n64,UInt64.toNat_ofNat',Nat.mod_eq_of_lt (by omega)];omega
def Azw(k:Nat)(v:UInt32):UInt32:=UInt32.ofNat (v.toNat-2^k)
def lK(l:Nat)(t:UInt64)(k:Nat)(v:UInt32):Nat:=if v.toNat<2^k then l else kS l (Xq t (n64 (Azw k v)))
def lT(t:UInt64)(k:Nat)(v:UInt32):UInt64:=if v.toNat<2^k then t else Xq t (n64 (Azw k v))
theorem Bvv{k l:Nat}{s t:UInt64}(h:okD k l s t)(v:UInt32):okD (kS k (Xq s (n64 v))) (lK l t k v) (Xq s (n64 v)) (lT t k v):=by
 obtain⟨h1,h2,h3,h4⟩:=h
 refine⟨Caq h1 _,?_,Bpl h3 (Bvp v),?_⟩
 ·unfold lK;split; · exact h2
  exact Caq h2 _
 ·unfold lT;split; · exact h4
  exact Bpl h4 (Bvp _)
theorem Ccb(k l:Nat)(s t:UInt64)(hk:k≤24)(v:UInt32):Abo (k:Int) (l:Int) s t v=some (decide (v.toNat<2^k)):=by
 have:=v.toNat_lt
 rw[Abo,Adp k (by omega),Aa,Bay,Aiy (by omega),Gg,UInt64.toNat_ofNat',Nat.mod_eq_of_lt (by omega)]
theorem left_eq(k l:Nat)(s t:UInt64)(hk:k≤24)(v:UInt32)(h:¬v.toNat<2^k):Ys (k:Int) (l:Int) s t v=some (Azw k v):=by
 have:=v.toNat_lt
 have e2:∀x:UInt64,(Ae x:UInt32)=UInt32.ofNat x.toNat:=fun x=>by simp only[Ae,Gk,Dh]
 have e3:(UInt64.ofNat v.toNat).toNat=v.toNat:=by rw[UInt64.toNat_ofNat',Nat.mod_eq_of_lt (by omega)]
 rw[Ys,Adp k (by omega),Aa,e2,Bdl,Gg,UInt64.toNat_sub_of_le _ _ (by rw[UInt64.le_iff_toNat_le,Aiy (by omega),e3];omega),Aiy (by omega),e3,Azw]
theorem Brr{k l:Nat}{s t:UInt64}(h:okD k l s t)(v:UInt32):Td (k:Int) (l:Int) s t v=some (((kS k (Xq s (n64 v)):Nat):Int),((lK l t k v:Nat):Int),Xq s (n64 v),lT t k v):=by
 obtain⟨h1,h2,h3,h4⟩:=h
 have hp:∀(r1:Int) (r2:UInt64),Mx v (k:Int) (l:Int) s t r1 r2=some (((kS k (Xq s (n64 v)):Nat):Int),r1,Xq s (n64 v),r2):=by
  intro r1 r2
  rw[Mx,Yv,Gg,Bpi k h1,Aa];rfl
 rw[Td,Xn,Ccb k l s t h1,Aa]
 by_cases hv:v.toNat<2^k
 ·rw[if_neg (by simp[hv]),hp,lK,if_pos hv,lT,if_pos hv]
 ·rw[if_pos (by simp;omega),left_eq k l s t h1 v hv,Aa,Gg,Bpi l h2,Aa]
  simp only
  rw[hp,lK,if_neg hv,lT,if_neg hv];rfl
theorem Bwi(k l:Nat)(s t:UInt64)(hk:k≤24)(v:UInt32):Abg (k:Int) (l:Int) s t v=some (if v.toNat<2^k then(0,v)else(1,Azw k v)):=by
 have hp:2^k≤2^24:=Nat.pow_le_pow_right (by omega) hk
 have hpos:0<2^k:=Nat.pow_pos (by omega)
 have hl:=v.toNat_lt
 have z:(GI.toZ (k:Int)).toNat=k:=rfl
 have e1:geq (Bk v k) (0:UInt32)=decide (v.toNat<2^k):=by
  rw[Bh6,Bool.eq_iff_iff]
  simp only[beq_iff_eq,←UInt32.toNat_inj,Alc,decide_eq_true_eq]
  show _/_=0↔_
  rw[Nat.div_eq_zero_iff];omega
 have e2:¬v.toNat<2^k→Ah v (Cr (1:UInt32) k)=Azw k v:=by
  intro h
  have e3:(Cr (1:UInt32) k).toNat=2^k:=by rw[Bby];show 1*2^k %_=_;rw[Nat.mod_eq_of_lt (by omega),Nat.one_mul]
  apply UInt32.toNat_inj.1
  rw[Bkv,UInt32.toNat_sub_of_le _ _ (by rw[UInt32.le_iff_toNat_le,e3];omega),e3,Azw,Amn (by omega)]
 rw[Abg,Bz (by rw[Ce];simp),Aa,Aa,z,e1]
 by_cases h:v.toNat<2^k
 ·rw[if_pos (by simp[h]),if_pos h]
 ·rw[if_neg (by simp;omega),if_neg h,e2 h]
abbrev Rd:=UInt32×Int×Int×Int×UInt64×UInt64×Int
theorem Bbo{k l:Nat}{s t:UInt64}(h:okD k l s t)(v:UInt32)(r:Int):Afm (k:Int) (l:Int) s t v r=some (v,r,((kS k (Xq s (n64 v)):Nat):Int),((lK l t k v:Nat):Int),Xq s (n64 v),lT t k v,0):=by
 obtain⟨h1,h2,h3,h4⟩:=h
 have hp:∀(x:Int) (y:UInt64),Zn v r (k:Int) s x y=some (v,r,((kS k (Xq s (n64 v)):Nat):Int),x,Xq s (n64 v),y,0):=by
  intro x y
  rw[Zn,Amd,Gg,Ba0,Car k h1]
  rw[Amo,Ann,Aj2,Atp,Gg,Ba0];rfl
 rw[Afm,Al7,Bwi k l s t h1,Aa]
 by_cases hv:v.toNat<2^k
 ·rw[if_pos hv]
  simp only
  rw[if_neg (by rw[Bp];simp),hp,lK,if_pos hv,lT,if_pos hv]
 ·rw[if_neg hv]
  simp only
  rw[if_pos (by rw[Bp];rfl),Gg,Ba0,Car l h2 _ (fun x=>Zn v r (k:Int) s x (Xq t (UInt64.ofNat (Azw k v).toNat))),hp,lK,if_neg hv,lT,if_neg hv];rfl
def dgS(p:List UInt8)(N a k l:Nat):UInt32×Int×Int:=
 if N≤a then(0,0,24)else
 if Hx p a=0 then(if N<a+1+k then(0,0,24)else(UInt32.ofNat (Bs p (a+1) k),((a+1+k:Nat):Int),0))else
 if(rcS p N (a+1) l).2.2≠0 then(0,0,(rcS p N (a+1) l).2.2)else
 if 4294967295<(rcS p N (a+1) l).1.toNat+2^k then(0,0,12)else(UInt32.ofNat ((rcS p N (a+1) l).1.toNat+2^k),(rcS p N (a+1) l).2.1,0)
theorem Caz{p:List UInt8}{N a k l:Nat}(h:(dgS p N a k l).2.2=0):(a:Int)<(dgS p N a k l).2.1∧(dgS p N a k l).2.1≤N:=by
 revert h
 unfold dgS
 split
 ·simp
 split
 ·split
  ·simp
  ·simp only;omega
 ·split
  ·intro h;contradiction
  ·rename_i h1
   split
   ·simp
   ·intro _
    have:=Cbf (p:=p) (N:=N) (a:=a+1) (k:=l) (v:=(rcS p N (a+1) l).1) (n:=(rcS p N (a+1) l).2.1) (by
     have e:(rcS p N (a+1) l).2.2=0:=by simpa using h1
     rw[←e])
    simp only;omega
theorem Bx6{p:List UInt8}{N:Nat}(h:okB p N)(a:Nat){k l:Nat}{s t:UInt64}(hd:okD k l s t):Abp p (N:Int) (a:Int) (k:Int) (l:Int) s t=
  some (if(dgS p N a k l).2.2≠0 then(0,0,0,0,0,0,(dgS p N a k l).2.2)else((dgS p N a k l).1,(dgS p N a k l).2.1,((kS k (Xq s (n64 (dgS p N a k l).1)):Nat):Int),((lK l t k (dgS p N a k l).1:Nat):Int),Xq s (n64 (dgS p N a k l).1),lT t k (dgS p N a k l).1,0)):=by
 obtain⟨h1,h2,h3,h4⟩:=hd
 have hd:okD k l s t:=⟨h1,h2,h3,h4⟩
 have hN:=h.1
 have hg:=Axw h a 1 (by omega)
 have hb:=Tx p a
 rw[Abp,Aml,Afw h,Aa,if_neg (by rw[Aj];simp),Cbs hd,Aa,if_neg (by rw[Aj];simp),Ana,Alv]
 refine Eq.trans (congrArg (fun o=>Option.bind o _) hg) ?_
 rw[Aa]
 by_cases ha:N≤a
 ·have hS:dgS p N a k l=(0,0,24):=by rw[dgS,if_pos ha]
  rw[if_pos (by omega),hS];rfl
 rw[if_neg (by omega)]
 simp only
 have e0:geq (Qf p a 1) (0:UInt64)=decide (Hx p a=0):=by
  rw[Bax,Bool.eq_iff_iff]
  simp only[beq_iff_eq,←UInt64.toNat_inj,decide_eq_true_eq,Yo p a 1 (by omega),Bkg];rfl
 have e1:Ad (a:Int) 1=((a+1:Nat):Int):=by rw[Ag (by omega) (by omega)];omega
 rw[if_neg (by rw[Aj];simp),e0,e1]
 by_cases hz:Hx p a=0
 ·rw[if_pos (by simp[hz]),Axw h (a+1) k (by omega),Aa]
  by_cases h5:N<a+1+k
  ·have hS:dgS p N a k l=(0,0,24):=by rw[dgS,if_neg ha,if_pos hz,if_pos h5]
   rw[if_pos h5,hS];rfl
  ·have hS:dgS p N a k l=(UInt32.ofNat (Bs p (a+1) k),((a+1+k:Nat):Int),0):=by rw[dgS,if_neg ha,if_pos hz,if_neg h5]
   rw[if_neg h5,hS]
   simp only
   rw[if_neg (by rw[Aj];simp),Bbo hd,Avp (by omega),Ag (by omega) (by omega)];rfl
 ·rw[if_neg (by simp[hz]),Byw h (a+1) l h2,Aa]
  have hp:2^k≤2^24:=Nat.pow_le_pow_right (by omega) h1
  by_cases h5:(rcS p N (a+1) l).2.2≠0
  ·have hS:dgS p N a k l=(0,0,(rcS p N (a+1) l).2.2):=by rw[dgS,if_neg ha,if_neg hz,if_pos h5]
   rw[hS]
   generalize rcS p N (a+1) l=R at*
   obtain⟨v,n,e⟩:=R
   simp only at*
   rw[if_pos (by rw[Aj];simpa using h5),if_pos h5]
  ·have hv:=(rcS p N (a+1) l).1.toNat_lt
   have z:(GI.toZ (k:Int)).toNat=k:=rfl
   have e3:(Cr (1:UInt32) k).toNat=2^k:=by rw[Bby];show 1*2^k %_=_;rw[Nat.mod_eq_of_lt (by omega),Nat.one_mul]
   by_cases h6:4294967295<(rcS p N (a+1) l).1.toNat+2^k
   ·have hS:dgS p N a k l=(0,0,12):=by rw[dgS,if_neg ha,if_neg hz,if_neg h5,if_pos h6]
    rw[hS]
    generalize rcS p N (a+1) l=R at*
    obtain⟨v,n,e⟩:=R
    simp only at*
    rw[if_neg (by rw[Aj];simpa using h5),Bz (by rw[Ce];simp),Aa,z,if_pos (by rw[Bp8,Bcx,UInt32.toNat_add,e3];simp;omega),if_pos (by decide)]
   ·have hS:dgS p N a k l=(UInt32.ofNat ((rcS p N (a+1) l).1.toNat+2^k),(rcS p N (a+1) l).2.1,0):=by rw[dgS,if_neg ha,if_neg hz,if_neg h5,if_neg h6]
    rw[hS]
    generalize rcS p N (a+1) l=R at*
    obtain⟨v,n,e⟩:=R
    simp only at*
    have e4:Ad v (Cr (1:UInt32) k)=UInt32.ofNat (v.toNat+2^k):=by
     apply UInt32.toNat_inj.1
     rw[Bcx,UInt32.toNat_add,e3,Amn (by omega),Nat.mod_eq_of_lt (by omega)]
    rw[if_neg (by rw[Aj];simpa using h5),Bz (by rw[Ce];simp),Aa,z,if_neg (by rw[Bp8,Bcx,UInt32.toNat_add,e3];simp;omega),e4,Bbo hd];rfl
theorem Buy{p:List UInt8}{N:Nat}(h:okB p N)(a:Nat)(k l:Nat)(s t:UInt64)(h1:k≤24)(h2:l≤24):Abb p (N:Int) (a:Int) (k:Int) (l:Int) s t=some (dgS p N a k l):=by
 have hN:=h.1
 have hl:=h.2.1
 have hb:=Tx p a
 rw[Abb]
 by_cases ha:N≤a
 ·rw[if_pos (by rw[Ce];simp;omega),dgS,if_pos ha]
 rw[if_neg (by rw[Ce];simp;omega),Ax6 p _ a (by omega) (by omega),Aa,Bi (a:=(N:Int)) (b:=(a:Int)) (by omega) (by omega),Bi (by omega) (by omega)]
 have e1:Ad (a:Int) 1=((a+1:Nat):Int):=by rw[Ag (by omega) (by omega)];omega
 rw[e1]
 by_cases hz:Hx p a=0
 ·rw[if_pos (by rw[Bp];simp[hz])]
  by_cases h5:N<a+1+k
  ·rw[if_pos (by rw[Af];simp;omega),dgS,if_neg ha,if_pos hz,if_pos h5]
  ·rw[if_neg (by rw[Af];simp;omega),Au7 p _ (a+1) k (by omega) (by omega),Aa,dgS,if_neg ha,if_pos hz,if_neg h5,Avp (by omega),Ag (by omega) (by omega)];rfl
 ·rw[if_neg (by rw[Bp];simp;omega),Btf h (a+1) l h2,Aa]
  have hp:2^k≤2^24:=Nat.pow_le_pow_right (by omega) h1
  have hv:=(rcS p N (a+1) l).1.toNat_lt
  have e2:∀x:UInt64,(Ae x:UInt32)=UInt32.ofNat x.toNat:=fun x=>by simp only[Ae,Gk,Dh]
  by_cases h5:(rcS p N (a+1) l).2.2≠0
  ·have hS:dgS p N a k l=(0,0,(rcS p N (a+1) l).2.2):=by rw[dgS,if_neg ha,if_neg hz,if_pos h5]
   rw[hS]
   generalize rcS p N (a+1) l=R at*
   obtain⟨v,n,e⟩:=R
   simp only at*
   rw[if_pos (by rw[Aj];simpa using h5)]
  ·have hsum:∀v:UInt32,(Ad (Ae v:UInt64) (UInt64.ofNat (2^k))).toNat=v.toNat+2^k:=by
    intro v
    have:=v.toNat_lt
    have:=Nat.pow_pos (n:=k) (show 0<2 by omega)
    rw[Ad0,UInt64.toNat_add,Gg,Aiy (by omega),UInt64.toNat_ofNat'];omega
   by_cases h6:4294967295<(rcS p N (a+1) l).1.toNat+2^k
   ·have hS:dgS p N a k l=(0,0,12):=by rw[dgS,if_neg ha,if_neg hz,if_neg h5,if_pos h6]
    rw[hS]
    generalize rcS p N (a+1) l=R at*
    obtain⟨v,n,e⟩:=R
    simp only at*
    rw[if_neg (by rw[Aj];simpa using h5),Adp k (by omega),Aa,if_pos (by rw[Ajh,hsum];simpa using h6)]
   ·have hS:dgS p N a k l=(UInt32.ofNat ((rcS p N (a+1) l).1.toNat+2^k),(rcS p N (a+1) l).2.1,0):=by rw[dgS,if_neg ha,if_neg hz,if_neg h5,if_neg h6]
    rw[hS]
    generalize rcS p N (a+1) l=R at*
    obtain⟨v,n,e⟩:=R
    simp only at*
    rw[if_neg (by rw[Aj];simpa using h5),Adp k (by omega),Aa,if_neg (by rw[Ajh,hsum];simpa using h6),e2,hsum]
end Go.Pl
set_option linter.unusedVariables false
set_option linter.unusedSimpArgs false
namespace Go.Pl
open Go Go.Lv
abbrev DuN:=Nat×Nat×UInt64×UInt64
def okN(d:DuN):Prop:=okD d.1 d.2.1 d.2.2.1 d.2.2.2
def nxt(d:DuN)(v:UInt32):DuN:=(kS d.1 (Xq d.2.2.1 (n64 v)),lK d.2.1 d.2.2.2 d.1 v,Xq d.2.2.1 (n64 v),lT d.2.2.2 d.1 v)
def Bh5:DuN:=(10,10,16384,16384)
theorem Bvm:okN Bh5:=⟨by decide,by decide,by decide,by decide⟩
theorem Cbe{d:DuN}(h:okN d)(v:UInt32):okN (nxt d v):=Bvv h v
abbrev DuL:=Int×Int×UInt64×UInt64×Unit
def toI(d:DuN):DuL:=((d.1:Int),(d.2.1:Int),d.2.2.1,d.2.2.2,())
def chP(ch:Nat)(v:List UInt32)(c:Nat):Nat→DuN
 |0=>Bh5
 |m+1=>if m %ch=c then nxt (chP ch v c m) (v.getD m 0)else chP ch v c m
theorem Axs(ch:Nat)(v:List UInt32)(c:Nat):∀m,okN (chP ch v c m)
 |0=>Bvm
 |m+1=>by rw[chP];split;exact Cbe (Axs ch v c m) _;exact Axs ch v c m
theorem Bpd(ch:Nat)(v w:List UInt32)(c:Nat):∀m,m≤v.length→chP ch (v++w) c m=chP ch v c m
 |0,_=>rfl
 |m+1,h=>by
  have e:(v++w).getD m 0=v.getD m 0:=by simp[List.getD_eq_getElem?_getD,List.getElem?_append_left (show m<v.length by omega)]
  rw[chP,chP,Bpd ch v w c m (by omega),e]
theorem Bic(ch:Nat)(v:List UInt32)(c:Nat):∀m,m≤c→c<ch→chP ch v c m=Bh5
 |0,_,_=>rfl
 |m+1,h,h2=>by rw[chP,if_neg (by rw[Nat.mod_eq_of_lt (by omega)];omega),Bic ch v c m (by omega) h2]
theorem Bj7(ch:Nat)(v:List UInt32)(c i:Nat)(hi:i %ch=c)(hc:c<ch):∀j,j<ch→chP ch v c (i+1+j)=chP ch v c (i+1)
 |0,_=>rfl
 |j+1,h=>by
  have hne:(i+1+j) %ch≠c:=by
   intro e
   have h1:(i+(1+j)) %ch=i %ch:=by rw[hi,←e];congr 1;omega
   have h2:(1+j) %ch=0:=by
    have h3:=Nat.sub_mod_eq_zero_of_mod_eq h1
    rwa [Nat.add_sub_cancel_left]at h3
   rw[Nat.mod_eq_of_lt (by omega)]at h2;omega
  rw[show i+1+(j+1)=(i+1+j)+1 by omega,chP,if_neg hne,Bj7 ch v c i hi hc j (by omega)]
theorem Buk(ch:Nat)(v:List UInt32)(c i:Nat)(hi:i %ch=c)(hc:c<ch):chP ch v c (i+ch)=nxt (chP ch v c i) (v.getD i 0):=by
 have h:=Bj7 ch v c i hi hc (ch-1) (by omega)
 rw[show i+1+(ch-1)=i+ch by omega]at h
 rw[h,chP,if_pos hi]
theorem Bdb{l:List UInt32}{k:Nat}(h:k<l.length):getI l (k:Int)=some (l.getD k 0):=by
 rw[Ca h];simp[List.getD_eq_getElem?_getD,h]
theorem Ayb(a b:Nat):Fa (a:Int) (b:Int)=((a %b:Nat):Int):=by rw[Fa,Int.tmod_eq_emod_of_nonneg (by omega)];omega
theorem Ay7(ch:Nat)(v:List UInt32)(hch:1≤ch)(hch6:ch≤6)(hv:v.length≤4000):∀(j i q:Nat),i %ch=v.length %ch→i≤v.length→v.length-i≤j→j<q→
  It (ch:Int) v q (i:Int) ((chP ch v (v.length %ch) i).1:Int) ((chP ch v (v.length %ch) i).2.1:Int) (chP ch v (v.length %ch) i).2.2.1 (chP ch v (v.length %ch) i).2.2.2=
   some (((chP ch v (v.length %ch) v.length).1:Int),((chP ch v (v.length %ch) v.length).2.1:Int),(chP ch v (v.length %ch) v.length).2.2.1,(chP ch v (v.length %ch) v.length).2.2.2)
 |j,i,q+1,hi,hl,hj,hq=>by
  have hc:v.length %ch<ch:=Nat.mod_lt _ (by omega)
  rw[It,Xe]
  by_cases h:i<v.length
  ·have h1:=Brr (Axs ch v (v.length %ch) i) (v.getD i 0)
   rw[if_pos (by rw[Af,Ac];simp;omega),Bdb h,Aa,h1,Aa]
   have hle:i+ch≤v.length:=by
    have h2:=Nat.div_add_mod i ch
    have h3:=Nat.div_add_mod v.length ch
    rw[hi]at h2
    have h4:ch*(i/ch)<ch*(v.length/ch):=by omega
    have h5:=Nat.lt_of_mul_lt_mul_left h4
    have h6:ch*(i/ch+1)≤ch*(v.length/ch):=Nat.mul_le_mul_left _ h5
    rw[Nat.mul_add]at h6;omega
   have ih:=Ay7 ch v hch hch6 hv (j-ch) (i+ch) q (by rw[Nat.add_mod_right];exact hi) hle (by omega) (by omega)
   rw[Buk ch v _ i hi hc]at ih
   simp only
   rw[Ag (by omega) (by omega)]
   exact ih
  ·rw[if_neg (by rw[Af,Ac];simp;omega),show i=v.length by omega];rfl
theorem Brk(ch:Nat)(v:List UInt32)(hch:1≤ch)(hch6:ch≤6)(hv:v.length≤4000):Lo (ch:Int) v=some (((chP ch v (v.length %ch) v.length).1:Int),((chP ch v (v.length %ch) v.length).2.1:Int),(chP ch v (v.length %ch) v.length).2.2.1,(chP ch v (v.length %ch) v.length).2.2.2):=by
 have hc:v.length %ch<ch:=Nat.mod_lt _ (by omega)
 have hle:v.length %ch≤v.length:=Nat.mod_le _ _
 have h:=Ay7 ch v hch hch6 hv v.length (v.length %ch) Am (by rw[Nat.mod_mod]) hle (by omega) (by have:=Al;omega)
 rw[Bic ch v _ _ (Nat.le_refl _) hc]at h
 rw[Lo,Yy,Ji,Aa]
 simp only
 rw[Bz (by rw[Aj];simp;omega),Aa,Ac,Ayb]
 exact h
def now(ch:Nat)(v:List UInt32):DuN:=chP ch v (v.length %ch) v.length
def win(N a:Nat):Nat:=min 81 (N-a)
def Iy(ch:Nat)(p:List UInt8)(N a:Nat)(out:List UInt32):UInt32×Int×Int:=dgS (Abn p a (win N a)) (win N a) 0 (now ch out).1 (now ch out).2.1
def Ww(ch:Nat)(p:List UInt8)(N:Nat):Nat→Nat→List UInt32→List UInt32×Nat×Int
 |0,a,out=>(out,a,0)
 |j+1,a,out=>if(Iy ch p N a out).2.2≠0 then(out,a,(Iy ch p N a out).2.2)else Ww ch p N j (a+(Iy ch p N a out).2.1.toNat) (out++[(Iy ch p N a out).1])
theorem Ar9{ch:Nat}{p:List UInt8}{N a:Nat}{out:List UInt32}(h:(Iy ch p N a out).2.2=0):0<(Iy ch p N a out).2.1∧(Iy ch p N a out).2.1≤win N a:=by
 have:=Caz h
 exact⟨this.1,this.2⟩
theorem Bfz{ch:Nat}{p:List UInt8}{N a:Nat}{out:List UInt32}(h:(Iy ch p N a out).2.2=0):((a:Int)+(Iy ch p N a out).2.1)=((a+(Iy ch p N a out).2.1.toNat:Nat):Int):=by
 have:=Ar9 h;omega
def sts(ch:Nat)(v:List UInt32):List DuL:=(List.range 6).map fun c=>toI (chP ch v c v.length)
theorem Bqc{ch:Nat}{v:List UInt32}{c:Nat}(h:c<6):getI (sts ch v) (c:Int)=some (toI (chP ch v c v.length)):=by
 rw[Ca (by simp[sts];exact h)];simp[sts]
theorem Bxi{ch:Nat}{v:List UInt32}{c:Nat}(x:UInt32)(h:c<6)(hc:c=v.length %ch):Ic (sts ch v) (c:Int) (toI (nxt (chP ch v c v.length) x))=some (sts ch (v++[x])):=by
 rw[Ti _ (by simp[sts];exact h)]
 congr 1
 apply List.ext_getElem (by simp[sts])
 intro i h1 h2
 rw[List.getElem_set]
 simp only[sts,List.getElem_map,List.getElem_range]
 have e:(v++[x]).getD v.length 0=x:=by simp
 rw[List.length_append,List.length_singleton,chP,e,Bpd ch v [x] i v.length (Nat.le_refl _)]
 by_cases hi:c=i
 ·subst hi;rw[if_pos rfl,if_pos hc.symm]
 ·rw[if_neg hi,if_neg (by omega)]
section
variable {p:List UInt8} {N ch n:Nat}
theorem Bi8(hp:okB p N)(h1:1≤ch)(h6:ch≤6)(hn:n*ch≤4000):∀(j a q:Nat) (out:List UInt32),out.length+j=n*ch→j<q→a≤N→
  Jp (ch:Int) (n:Int) p (N:Int) q (a:Int) (out.length:Int) (sts ch out) out=
   some (if(Ww ch p N j a out).2.2≠0 then([],0,(Ww ch p N j a out).2.2)else((Ww ch p N j a out).1,((Ww ch p N j a out).2.1:Int),0))
 |j,a,q+1,out,hj,hq,ha=>by
  have hN:=hp.1
  have hnn:n≤n*ch:=Nat.le_mul_of_pos_right n (by omega)
  have em:Ax (n:Int) (ch:Int)=((n*ch:Nat):Int):=by rw[Fm (by rw[←Int.natCast_mul];omega) (by rw[←Int.natCast_mul];omega),Int.natCast_mul]
  rw[Jp,Ms,em]
  cases j with
  |zero=>
   rw[if_neg (by rw[Af];simp;omega)];rfl
  |succ j=>
   have hc:out.length %ch<6:=Nat.lt_of_lt_of_le (Nat.mod_lt _ (by omega)) h6
   have ew:Db (Ad (a:Int) 81) (N:Int)=((a+win N a:Nat):Int):=by rw[Aj5,Ag (by omega) (by omega)];unfold win;omega
   have hw:a+win N a≤N:=by unfold win;omega
   have hw2:win N a≤81:=by unfold win;omega
   have hd:=Bx6 (Bqz p a (win N a) (by omega)) 0 (Axs ch out (out.length %ch) out.length)
   have ecode:dgS (Abn p a (win N a)) (win N a) 0 (chP ch out (out.length %ch) out.length).1 (chP ch out (out.length %ch) out.length).2.1=Iy ch p N a out:=rfl
   rw[if_pos (by rw[Af];simp;omega),ew,Cbo hp a _ hw (by omega),Aa]
   simp only
   rw[if_neg (by rw[Aj];simp),Bz (by rw[Aj];simp;omega),Aa,Ayb,Bqc hc,Aa,Aa]
   refine Eq.trans (congrArg (fun o=>Option.bind o _) hd) ?_
   rw[Aa,ecode,Ww]
   by_cases he:(Iy ch p N a out).2.2≠0
   ·rw[if_pos he,if_pos he]
    simp only
    rw[Np,Nm,if_pos (by rw[Aj];simpa using he),if_pos he]
   ·have he0:(Iy ch p N a out).2.2=0:=by simpa using he
    have hok:=Ar9 he0
    have hset:=Bxi (ch:=ch) (v:=out) (Iy ch p N a out).1 hc rfl
    rw[if_neg he,if_neg he]
    simp only
    rw[Np,Nm,if_neg (by rw[Aj];simp),Bz (by rw[Aj];simp;omega),Aa,Ayb,Bqc hc,Aa]
    refine Eq.trans (congrArg (fun o=>Option.bind o _) hset) ?_
    rw[Aa,Us,Agp,Fc (by simp;omega),Aa,Ag (by omega) (by omega),Ag (by omega) (by omega),Bfz he0]
    have ih:=Bi8 hp h1 h6 hn j (a+(Iy ch p N a out).2.1.toNat) q (out++[(Iy ch p N a out).1]) (by simp;omega) (by omega) (by omega)
    rw[List.length_append,List.length_singleton]at ih
    exact ih
theorem Bo4{p:List UInt8}(hN:N=8*p.length)(hN2:N≤330000)(h1:1≤ch)(h6:ch≤6)(hn:n*ch≤4000):∀(j a q:Nat) (out:List UInt32),out.length+j=n*ch→j<q→a≤N→
  Dl (ch:Int) (n:Int) p q (a:Int) (out.length:Int) out=
   if(Ww ch p N j a out).2.2≠0 then some ((Ww ch p N j a out).1,(Ww ch p N j a out).2.2)else Pa ((Ww ch p N j a out).2.1:Int) p (Ww ch p N j a out).1
 |j,a,q+1,out,hj,hq,ha=>by
  have hnn:n≤n*ch:=Nat.le_mul_of_pos_right n (by omega)
  have em:Ax (n:Int) (ch:Int)=((n*ch:Nat):Int):=by rw[Fm (by rw[←Int.natCast_mul];omega) (by rw[←Int.natCast_mul];omega),Int.natCast_mul]
  have e8:Ax (8:Int) (Ac p)=(N:Int):=by rw[Ac,Fm (by omega) (by omega)];omega
  rw[Dl,Aa0,em]
  cases j with
  |zero=>
   rw[if_neg (by rw[Af];simp;omega)];rfl
  |succ j=>
   have ew:Db (Ad (a:Int) 81) (N:Int)=((a+win N a:Nat):Int):=by rw[Aj5,Ag (by omega) (by omega)];unfold win;omega
   have hw:a+win N a≤N:=by unfold win;omega
   have hw2:win N a≤81:=by unfold win;omega
   have hpre:(Option.bind Ji fun(r_4,r_5,r_6,r_7)=>
     if(Ja (out.length:Int) (ch:Int))=true then(
     Option.bind (Lo (ch:Int) out) fun(r_8,r_9,r_10,r_11)=>
     Gu (Dl (ch:Int) (n:Int) p q) (ch:Int) (n:Int) p (a:Int) (out.length:Int) out r_8 r_9 r_10 r_11)
     else Gu (Dl (ch:Int) (n:Int) p q) (ch:Int) (n:Int) p (a:Int) (out.length:Int) out r_4 r_5 r_6 r_7)=
     Gu (Dl (ch:Int) (n:Int) p q) (ch:Int) (n:Int) p (a:Int) (out.length:Int) out ((now ch out).1:Int) ((now ch out).2.1:Int) (now ch out).2.2.1 (now ch out).2.2.2:=by
    rw[Ji,Aa]
    by_cases hc:ch≤out.length
    ·simp only
     rw[if_pos (by rw[Ce];simp;omega),Brk ch out h1 h6 (by omega),Aa];rfl
    ·have e:now ch out=Bh5:=by rw[now,Nat.mod_eq_of_lt (by omega),Bic ch out _ _ (Nat.le_refl _) (by omega)]
     simp only
     rw[if_neg (by rw[Ce];simp;omega),e];rfl
   have hd:=Buy (Bqz p a (win N a) (by omega)) 0 (now ch out).1 (now ch out).2.1 (now ch out).2.2.1 (now ch out).2.2.2 (Axs ch out _ _).1 (Axs ch out _ _).2.1
   have ecode:dgS (Abn p a (win N a)) (win N a) 0 (now ch out).1 (now ch out).2.1=Iy ch p N a out:=rfl
   rw[if_pos (by rw[Af];simp;omega),hpre,Gu,Aa6,e8,ew,Bli p (N:Int) a _ (by omega) (by omega) (by omega),Aa]
   simp only
   refine Eq.trans (congrArg (fun o=>Option.bind o _) hd) ?_
   rw[Aa,ecode,Ww]
   by_cases he:(Iy ch p N a out).2.2≠0
   ·rw[if_pos he,if_pos (by rw[Aj];simpa using he),if_pos he]
   ·have he0:(Iy ch p N a out).2.2=0:=by simpa using he
    have hok:=Ar9 he0
    have ih:=Bo4 hN hN2 h1 h6 hn j (a+(Iy ch p N a out).2.1.toNat) q (out++[(Iy ch p N a out).1]) (by simp;omega) (by omega) (by omega)
    have hx:=Bfz he0
    rw[List.length_append,List.length_singleton]at ih
    rw[if_neg he]
    generalize Iy ch p N a out=R at*
    obtain⟨v,nx,e⟩:=R
    simp only at*
    rw[if_neg (by rw[Aj];simpa using he),Fc (by simp;omega),Aa,Ag (by omega) (by omega),Ag (by omega) (by omega),hx]
    exact ih
end
theorem Bid{ch:Nat}{p:List UInt8}{N:Nat}:∀(j a:Nat) (out:List UInt32),a≤N→(Ww ch p N j a out).2.1≤N∧(Ww ch p N j a out).1.length≤out.length+j∧((Ww ch p N j a out).2.2=0→(Ww ch p N j a out).1.length=out.length+j)
 |0,a,out,h=>⟨h,Nat.le_refl _,fun _=>rfl⟩
 |j+1,a,out,h=>by
  rw[Ww]
  split
  ·rename_i he
   exact⟨h,by simp,fun e=>absurd e he⟩
  ·rename_i he
   have hok:=Ar9 (ch:=ch) (p:=p) (N:=N) (a:=a) (out:=out) (by simpa using he)
   have hw:a+win N a≤N:=by unfold win;omega
   have ih:=Bid (ch:=ch) (p:=p) (N:=N) j (a+(Iy ch p N a out).2.1.toNat) (out++[(Iy ch p N a out).1]) (by omega)
   rw[List.length_append,List.length_singleton]at ih
   exact⟨ih.1,by omega,fun e=>by have:=ih.2.2 e;omega⟩
theorem Bj5(ch n:Int)(b:List UInt8)(N:Int):Nk ch n b N 0 (List.replicate 6 ((0:Int),(0:Int),(0:UInt64),(0:UInt64),()))=Vl ch n b N (List.replicate 6 ((10:Int),(10:Int),(16384:UInt64),(16384:UInt64),())):=by
 have e:Am=(Am-7)+1+1+1+1+1+1+1:=by have:=Al;omega
 rw[Nk,e]
 rfl
theorem values_eq{p:List UInt8}{N ch n:Nat}(hp:okB p N)(h1:1≤ch)(h6:ch≤6)(hn:n*ch≤4000):Yc (ch:Int) (n:Int) p (N:Int)=
  some (if(Ww ch p N (n*ch) 0 []).2.2≠0 then([],0,(Ww ch p N (n*ch) 0 []).2.2)else((Ww ch p N (n*ch) 0 []).1,((Ww ch p N (n*ch) 0 []).2.1:Int),0)):=by
 have h:=Bi8 hp h1 h6 hn (n*ch) 0 Am [] (by simp) (by have:=Al;omega) (by omega)
 rw[Yc,Zp,Bj5]
 exact h
theorem Bgm(p:List UInt8)(x:List UInt32)(N:Nat)(hN:N=8*p.length)(hN2:N≤330000):∀(j a q:Nat),a+j=N→j<q→Hc p x q (a:Int)=some (x,if Bs p a j=0 then 0 else 12)
 |0,a,q+1,ha,_=>by
  have e8:Ax (8:Int) (Ac p)=(N:Int):=by rw[Ac,Fm (by omega) (by omega)];omega
  rw[Hc,Pb,e8,if_neg (by rw[Af];simp;omega),Bs,if_pos rfl];rfl
 |j+1,a,q+1,ha,hq=>by
  have e8:Ax (8:Int) (Ac p)=(N:Int):=by rw[Ac,Fm (by omega) (by omega)];omega
  have hb:=Tx p a
  rw[Hc,Pb,e8,if_pos (by rw[Af];simp;omega),Ax6 p _ a (by omega) (by omega),Aa,Bs]
  by_cases h:Hx p a=0
  ·rw[if_neg (by rw[Aj];simp[h]),Ag (by omega) (by omega),h]
   have ih:=Bgm p x N hN hN2 j (a+1) q (by omega) (by omega)
   rw[show((a:Int)+1)=((a+1:Nat):Int) by omega,ih]
   congr 2
   by_cases hv:Bs p (a+1) j=0
   ·rw[if_pos hv,if_pos (by omega)]
   ·rw[if_neg hv,if_neg (by omega)]
  ·rw[if_pos (by rw[Aj];simp;omega),if_neg (by omega)]
theorem By0{p:List UInt8}{N ch n:Nat}(hN:N=8*p.length)(hN2:N≤330000)(h1:1≤ch)(h6:ch≤6)(hn:n*ch≤4000):Yq (ch:Int) (n:Int) p=
  some (if(Ww ch p N (n*ch) 0 []).2.2≠0 then((Ww ch p N (n*ch) 0 []).1,(Ww ch p N (n*ch) 0 []).2.2)else
   ((Ww ch p N (n*ch) 0 []).1,if 7<N-(Ww ch p N (n*ch) 0 []).2.1∨Bs p (Ww ch p N (n*ch) 0 []).2.1 (N-(Ww ch p N (n*ch) 0 []).2.1)≠0 then 12 else 0)):=by
 have h:=Bo4 hN hN2 h1 h6 hn (n*ch) 0 Am [] (by simp) (by have:=Al;omega) (by omega)
 have hat:=(Bid (ch:=ch) (p:=p) (N:=N) (n*ch) 0 [] (by omega)).1
 have e8:Ax (8:Int) (Ac p)=(N:Int):=by rw[Ac,Fm (by omega) (by omega)];omega
 rw[Yq,Acw]
 refine Eq.trans h ?_
 generalize Ww ch p N (n*ch) 0 []=V at*
 obtain⟨v,a,e⟩:=V
 simp only at*
 by_cases he:e≠0
 ·rw[if_pos he,if_pos he]
 ·rw[if_neg he,if_neg he,Pa,Aag,e8,Bi (by omega) (by omega)]
  by_cases h7:7<N-a
  ·rw[if_pos (by rw[Aq];simp;omega),if_pos (.inl h7)]
  ·rw[if_neg (by rw[Aq];simp;omega),Aa3,Bgm p v N hN hN2 (N-a) a Am (by omega) (by have:=Al;omega)]
   by_cases hv:Bs p a (N-a)=0
   ·rw[if_pos hv,if_neg (by omega)]
   ·rw[if_neg hv,if_pos (.inr hv)]
end Go.Pl
set_option linter.unusedVariables false
set_option linter.unusedSimpArgs false
namespace Go.Pl
open Go Go.Lv
theorem Bib(n:Int):(GI.ofZ n:Int32)=Int32.ofInt n:=rfl
theorem Ai0(a:Int32):GI.toZ a=a.toInt:=rfl
theorem Akx(a b:Int32):Ad a b=a+b:=by
 rw[Ad,Ai0,Ai0,Bib,Int32.ofInt_add,Int32.ofInt_toInt,Int32.ofInt_toInt]
theorem Bcq(a b:Int32):Ah a b=a-b:=by
 rw[Ah,Ai0,Ai0,Bib,Int32.ofInt_sub,Int32.ofInt_toInt,Int32.ofInt_toInt]
theorem Bo2(a b:Int32):geq a b=(a==b):=by
 rw[geq,Ai0,Ai0,Bool.eq_iff_iff];simp[Int32.toInt_inj]
def sel(p:Nat→Bool)(a b:List Int32):List Int32:=(List.range a.length).map fun k=>if p k=true then a.getD k 0 else b.getD k 0
section
variable {p q:Nat→Bool} {a b:List Int32}
theorem Amf:(sel p a b).length=a.length:=by simp[sel]
theorem Kc{k:Nat}(h:k<a.length):a.getD k 0=a[k]:=by simp[List.getD_eq_getElem?_getD,h]
theorem Wc{k:Nat}(h:k<(sel p a b).length):(sel p a b)[k]=if p k=true then a.getD k 0 else b.getD k 0:=by simp[sel]
theorem Ai4{k:Nat}(h:k<a.length):getI (sel p a b) (k:Int)=some (if p k=true then a.getD k 0 else b.getD k 0):=by
 rw[Ca (by rw[Amf];exact h),Wc]
theorem Wq(h:∀k,k<a.length→p k=q k):sel p a b=sel q a b:=by
 apply List.map_congr_left
 intro k hk
 rw[h k (List.mem_range.1 hk)]
theorem Awr{k:Nat}(h:k<a.length):Ic (sel p a b) (k:Int) (a.getD k 0)=some (sel (fun j=>p j||decide (j=k)) a b):=by
 rw[Ti _ (by rw[Amf];exact h)]
 congr 1
 apply List.ext_getElem (by simp[Amf])
 intro i h1 h2
 rw[List.getElem_set,Wc,Wc]
 by_cases hi:k=i
 ·subst hi;simp
 ·have:¬i=k:=fun e=>hi e.symm
  simp[hi,this]
theorem Awt(h:∀k,k<a.length→p k=true):sel p a b=a:=by
 apply List.ext_getElem (by simp[Amf])
 intro i h1 h2
 rw[Wc,if_pos (h i h2),Kc h2]
theorem Awp(hl:b.length=a.length)(h:∀k,k<a.length→p k=false):sel p a b=b:=by
 apply List.ext_getElem (by simp[Amf,hl])
 intro i h1 h2
 rw[Wc,h i (by omega)]
 simp[List.getD_eq_getElem?_getD,h2]
end
end Go.Pl
set_option linter.unusedVariables false
set_option linter.unusedSimpArgs false
namespace Go.Pl
open Go Go.Lv
theorem Bek(a b:Int32):Ax a b=a*b:=by
 rw[Ax,Ai0,Ai0,Bib,Int32.ofInt_mul,Int32.ofInt_toInt,Int32.ofInt_toInt]
theorem Yl(a:Int32): -2147483648≤a.toInt∧a.toInt<2147483648:=⟨a.le_toInt,a.toInt_lt⟩
theorem Df(a:Int32):(Ae a:Int)=a.toInt:=by
 have:=Yl a
 show wrap64 a.toInt=_
 rw[Bm]<;>omega
theorem Af0(n:Int):(Ae n:Int32)=Int32.ofInt n:=rfl
theorem Brn(x:Int):Int32.ofInt (x %4294967296)=Int32.ofInt x:=by
 apply Int32.toInt_inj.1
 rw[Int32.toInt_ofInt,Int32.toInt_ofInt]
 exact Int.emod_bmod x 4294967296
theorem Bar(x:Int):Bu x=some (Int32.ofInt x):=by
 have e1:(Ae x:UInt64).toNat=(x %18446744073709551616).toNat:=by
  rw[Bkq,UInt64.toNat_ofNat',Nat.mod_eq_of_lt (by omega)]
 have e2:(Ae (Ae x:UInt64):UInt32).toNat=(x %4294967296).toNat:=by
  have e:(Ae (Ae x:UInt64):UInt32)=UInt32.ofNat (Ae x:UInt64).toNat:=by simp only[Ae,Gk,Dh]
  rw[e,UInt32.toNat_ofNat',e1]
  show(x %18446744073709551616).toNat %4294967296=_
  omega
 have e3:(Ae (Ae (Ae x:UInt64):UInt32):Int32)=Int32.ofInt ((Ae (Ae x:UInt64):UInt32).toNat:Int):=rfl
 rw[Bu,e3,e2,←Brn x]
 congr 2;omega
theorem Awi(a b:Int32):Bu (Ad (Ae a:Int) (Ae b:Int))=some (a+b):=by
 have:=Yl a
 have:=Yl b
 rw[Df,Df,Ag (by omega) (by omega),Bar,Int32.ofInt_add,Int32.ofInt_toInt,Int32.ofInt_toInt]
theorem Bu6(a b:Int32):Bu (Ax (Ae a:Int) (Ae b:Int))=some (a*b):=by
 have ha:=Yl a
 have hb:=Yl b
 have h1: -9223372036854775808≤a.toInt*b.toInt∧a.toInt*b.toInt≤9223372036854775807:=by
  have h2:(a.toInt*b.toInt).natAbs≤2147483648*2147483648:=by
   rw[Int.natAbs_mul];exact Nat.mul_le_mul (by omega) (by omega)
  omega
 rw[Df,Df,Fm h1.1 h1.2,Bar,Int32.ofInt_mul,Int32.ofInt_toInt,Int32.ofInt_toInt]
def OkF(s:Int)(t p:List Int32):Prop:=(s=9∨s=10)∧t.length=16∧p.length=16
theorem Ax9{s:Int}{t p:List Int32}(h:OkF s t p):Abl s t p=some 0:=by
 obtain⟨rfl|rfl,_,_⟩:=h<;>rfl
theorem g32{l:List Int32}{k:Nat}(h:k<l.length):getI l (k:Int)=some (l.getD k 0):=by
 rw[Ca h];simp[List.getD_eq_getElem?_getD,h]
def Apz(t p:List Int32):Nat→Int32
 |0=>0
 |i+1=>Apz t p i+t.getD i 0*p.getD i 0
def half(s:Int):Int32:=if s=9 then 256 else 512
def gF(s:Int)(t p:List Int32):Int32:=Int32.ofInt ((half s+Apz t p 16).toInt.fdiv (if s=9 then 512 else 1024))
theorem Bgl{s:Int}{t p:List Int32}(h:OkF s t p):∀(j i q:Nat),i+j=16→j<q→Oa t s p q (half s+Apz t p i) (i:Int)=some (gF s t p,0)
 |0,i,q+1,hi,_=>by
  obtain rfl:i=16:=by omega
  have hs:=h.1
  rw[Oa,Ab3,if_neg (by rw[Af];simp),Ajv,Atj,Bz (by rw[Ce];simp;omega),Aa]
  obtain rfl|rfl:=hs<;>rfl
 |j+1,i,q+1,hi,hq=>by
  obtain⟨hs,ht,hp⟩:=h
  rw[Oa,Ab3,if_pos (by rw[Af];simp;omega),g32 (by omega),Aa,g32 (by omega),Aa,Aa,Ag (b:=1) (by omega) (by omega),Akx,Bek,Int32.add_assoc]
  exact Bgl ⟨hs,ht,hp⟩ j (i+1) q (by omega) (by omega)
theorem Bv5{s:Int}{t p:List Int32}(h:OkF s t p):Ahm s t p=some (gF s t p,0):=by
 have hs:=h.1
 have h1:=Bgl h 16 0 Am (by omega) (by have:=Al;omega)
 have e:Cr (1:Int32) (GI.toZ (Ah s (1:Int))).toNat=half s+Apz t p 0:=by
  obtain rfl|rfl:=hs<;>rfl
 rw[Ahm,Ajl,Ax9 h,Aa,if_neg (by rw[Aj];simp),Bz (by rw[Ce,Bi (by omega) (by omega)];simp;omega),Aa,Ajw,e]
 exact h1
theorem Bbf{s:Int}{t p:List Int32}(ht:t.length=16)(hp:p.length=16){g:Int32}(hg:Apz t p 16=g):∀(j i q:Nat),i+j=16→j<q→Ii s t p q (Apz t p i).toInt (i:Int)=some g
 |0,i,q+1,hi,_=>by
  obtain rfl:i=16:=by omega
  rw[Ii,Tj,if_neg (by rw[Af];simp),Ae7,Aev,Af0,Int32.ofInt_toInt,hg]
 |j+1,i,q+1,hi,hq=>by
  have ih:=Bbf (s:=s) ht hp hg j (i+1) q (by omega) (by omega)
  rw[Apz]at ih
  rw[Ii,Tj,if_pos (by rw[Af];simp;omega),g32 (by omega),g32 (by omega),Aa,Aa,Aa,Aa,Bu6,Aa,←Df (Apz t p i),Awi,Aa,Df,Ag (by omega) (by omega)]
  exact ih
theorem Bum{s:Int}{t p:List Int32}(h:OkF s t p):Alg s t p=some (Apz t p 16):=
 Bbf h.2.1 h.2.2 rfl 16 0 Am (by omega) (by have:=Al;omega)
theorem Brj(x n:Int)(hn:n=512∨n=1024∨n=16∨n=32):(if x.tmod n<0 then x.tdiv n-1 else x.tdiv n)=x.fdiv n:=by
 have hs:n.sign=1:=by obtain rfl|rfl|rfl|rfl:=hn<;>rfl
 rw[Int.tdiv_eq_ediv,Int.tmod_eq_emod,hs,Int.fdiv_eq_ediv_of_nonneg _ (by omega)]
 by_cases h:0≤x∨n∣x
 ·rw[if_pos h,if_pos h]
  obtain rfl|rfl|rfl|rfl:=hn<;>(rw[if_neg (by omega)];omega)
 ·rw[if_neg h,if_neg h]
  obtain rfl|rfl|rfl|rfl:=hn<;>(rw[if_pos (by omega)];omega)
theorem Bcf(x n:Int)(hn:n=512∨n=1024∨n=16∨n=32)(h: -1000000000000≤x)(h':x≤1000000000000): -1000000000000≤x.tdiv n∧x.tdiv n≤1000000000000:=by
 have hs:n.sign=1:=by obtain rfl|rfl|rfl|rfl:=hn<;>rfl
 rw[Int.tdiv_eq_ediv,hs]
 by_cases h:0≤x∨n∣x
 ·rw[if_pos h];obtain rfl|rfl|rfl|rfl:=hn<;>omega
 ·rw[if_neg h];obtain rfl|rfl|rfl|rfl:=hn<;>omega
theorem Cdb(x n:Int)(hn:n=512∨n=1024∨n=16∨n=32)(h: -1000000000000≤x)(h':x≤1000000000000):Bq x n=x.tdiv n:=by
 have:=Bcf x n hn h h'
 rw[Aem,Bm (by omega) (by omega)]
theorem Blp(x n:Int)(hn:n=512∨n=1024∨n=16∨n=32)(h: -1000000000000≤x)(h':x≤1000000000000):
  (if(Bt (Fa x n) (0:Int))=true then some (Ae (Ah (Bq x n) (1:Int)):Int32)else some (Ae (Bq x n):Int32))=some (Int32.ofInt (x.fdiv n)):=by
 have hb:=Bcf x n hn h h'
 rw[Af,Fa,Cdb x n hn h h',Bi (by omega) (by omega),Af0,Af0,←Brj x n hn]
 by_cases hx:x.tmod n<0
 ·rw[if_pos (by simpa using hx),if_pos hx]
 ·rw[if_neg (by simpa using hx),if_neg hx]
theorem Bzj{s:Int}{t p:List Int32}(h:OkF s t p):Zl s t p=some (gF s t p):=by
 obtain⟨hs,ht,hp⟩:=h
 have h:OkF s t p:=⟨hs,ht,hp⟩
 have hx:=Yl (Apz t p 16+half s)
 have key:∀n:Int,(n=512∨n=1024)→(half s).toInt=n/2→gF s t p=Int32.ofInt ((half s+Apz t p 16).toInt.fdiv n)→Re s t p n=some (gF s t p):=by
  intro n hn hh hg
  have e2:Bq n (2:Int)=(half s).toInt:=by rw[hh];obtain rfl|rfl:=hn<;>rfl
  rw[Re,Ac9,Bum h,Aa,e2,←Df (half s),Awi,Aa,Bz (by rw[Aj];simp;omega),Aa,Aa,Df,Blp _ n (by omega) (by omega) (by omega),hg,Int32.add_comm]
 rw[Zl,Adt]
 obtain rfl|rfl:=hs
 ·rw[if_pos (by rw[Bp];rfl)];exact key 512 (.inl rfl) rfl rfl
 ·rw[if_neg (by rw[Bp];decide)];exact key 1024 (.inr rfl) rfl rfl
def stp(i:Nat):Int32:=if i=0 then 4 else if i<4 then 2 else 1
def sg(x:Int32):Int32:=if x.toInt<0 then -1 else if 0<x.toInt then 1 else 0
def lrn(t p:List Int32)(w:Int32):List Int32:=(List.range 16).map fun i=>t.getD i 0+stp i*sg (p.getD i 0)*sg w
theorem Ab6(t p:List Int32)(w:Int32):(lrn t p w).length=16:=by simp[lrn]
theorem Biu(t p:List Int32)(w:Int32){i:Nat}(h:i<16):(lrn t p w).getD i 0=t.getD i 0+stp i*sg (p.getD i 0)*sg w:=by
 rw[Kc (by rw[Ab6];exact h)];simp[lrn]
theorem step_eq(i:Nat):Ako (i:Int)=some (stp i):=by
 rw[Ako,stp]
 by_cases h:i=0
 ·rw[if_pos (by rw[Bp];simp[h]),if_pos h]
 ·rw[if_neg (by rw[Bp];simp;omega),if_neg h]
  by_cases h2:i<4
  ·rw[if_pos (by rw[Af];simp;omega),if_pos h2]
  ·rw[if_neg (by rw[Af];simp;omega),if_neg h2]
theorem Bsw(i:Nat):Wz (i:Int)=some (stp i):=by
 rw[Wz,stp]
 by_cases h:i=0
 ·rw[if_pos (by rw[Bp];simp[h]),if_pos h]
 ·rw[if_neg (by rw[Bp];simp;omega),if_neg h]
  by_cases h2:i<4
  ·rw[if_pos (by rw[Bfc];simp;omega),if_pos h2]
  ·rw[if_neg (by rw[Bfc];simp;omega),if_neg h2]
theorem Bi1(a b:Int32):Bt a b=decide (a.toInt<b.toInt):=rfl
theorem Bns(a b:Int32):El a b=decide (b.toInt<a.toInt):=rfl
theorem sign_eq(x:Int32):Px x=some (sg x):=by
 rw[Px,sg,Bi1,Bns,show(0:Int32).toInt=0 from rfl]
 by_cases h:x.toInt<0
 ·rw[if_pos (by simpa using h),if_pos h]
 ·rw[if_neg (by simpa using h),if_neg h]
  by_cases h2:0<x.toInt
  ·rw[if_pos (by simpa using h2),if_pos h2]
  ·rw[if_neg (by simpa using h2),if_neg h2]
theorem Bou:sg 0=0:=rfl
theorem toInt_ne{x:Int32}(h:x≠0):x.toInt≠0:=fun e=>h (Int32.toInt_inj.1 (by rw[e];rfl))
theorem Bix{x:Int32}(h:x.toInt<0):sg x= -1:=by rw[sg,if_pos h]
theorem Bim{x:Int32}(h:x≠0)(h2:¬x.toInt<0):sg x=1:=by
 have:=toInt_ne h
 rw[sg,if_neg h2,if_pos (by omega)]
theorem Asd(i:Nat):stp i=4∨stp i=2∨stp i=1:=by
 unfold stp
 by_cases h:i=0
 ·rw[if_pos h];exact .inl rfl
 ·rw[if_neg h];split;exact .inr (.inl rfl);exact .inr (.inr rfl)
theorem Bsi{x w:Int32}(hx:x≠0)(hw:w≠0)(h:(x.toInt<0)=(w.toInt<0))(i:Nat):stp i*sg x*sg w=stp i:=by
 by_cases h1:x.toInt<0
 ·rw[Bix h1,Bix (by rw[←h];exact h1)]
  obtain e|e|e:=Asd i<;>rw[e]<;>decide
 ·rw[Bim hx h1,Bim hw (by rw[←h];exact h1)]
  obtain e|e|e:=Asd i<;>rw[e]<;>decide
theorem Bnk{x w:Int32}(hx:x≠0)(hw:w≠0)(h:¬(x.toInt<0)=(w.toInt<0))(i:Nat)(a:Int32):a+stp i*sg x*sg w=a-stp i:=by
 have key:stp i*sg x*sg w=-stp i:=by
  by_cases h1:x.toInt<0
  ·have h2:¬w.toInt<0:=fun h2=>h (propext ⟨fun _=>h2,fun _=>h1⟩)
   rw[Bix h1,Bim hw h2]
   obtain e|e|e:=Asd i<;>rw[e]<;>decide
  ·have h2:w.toInt<0:=Decidable.by_contra fun h2=>h (propext ⟨fun h3=>absurd h3 h1,fun h3=>absurd h3 h2⟩)
   rw[Bim hx h1,Bix h2]
   obtain e|e|e:=Asd i<;>rw[e]<;>decide
 rw[key,Int32.sub_eq_add_neg]
def Av0(i:Nat):Nat→Bool:=fun j=>decide (j<i)
theorem Bck{a b:List Int32}{i:Nat}(h:i<a.length):Ic (sel (Av0 i) a b) (i:Int) (a.getD i 0)=some (sel (Av0 (i+1)) a b):=by
 rw[Awr h]
 congr 1
 apply Wq
 intro k _
 rw[Bool.eq_iff_iff]
 simp only[Av0,Bool.or_eq_true,decide_eq_true_eq];omega
theorem Bro{a b:List Int32}{i:Nat}(e:a.getD i 0=b.getD i 0):sel (Av0 i) a b=sel (Av0 (i+1)) a b:=by
 apply List.map_congr_left
 intro k _
 simp only[Av0,decide_eq_true_eq]
 by_cases h1:k<i
 ·rw[if_pos h1,if_pos (by omega)]
 ·by_cases h2:k=i
  ·subst h2;rw[if_neg h1,if_pos (by omega),e]
  ·rw[if_neg h1,if_neg (by omega)]
theorem Bkn{a b:List Int32}{i:Nat}(h:i<a.length):getI (sel (Av0 i) a b) (i:Int)=some (b.getD i 0):=by
 rw[Ai4 h,if_neg (by simp[Av0])]
theorem Bgt{s:Int}{t p:List Int32}{w:Int32}(hw:w≠0)(ht:t.length=16)(hp:p.length=16):∀(j i q:Nat),i+j=16→j<q→Oe w p s q (i:Int) (sel (Av0 i) (lrn t p w) t)=some (s,lrn t p w,p,0)
 |0,i,q+1,hi,_=>by
  obtain rfl:i=16:=by omega
  rw[Oe,Ab9,if_neg (by rw[Af];simp),Awt (fun k hk=>by rw[Ab6]at hk;simpa [Av0]using hk)];rfl
 |j+1,i,q+1,hi,hq=>by
  have hl:=Ab6 t p w
  have hg:=Biu t p w (i:=i) (by omega)
  rw[Oe,Ab9,if_pos (by rw[Af];simp;omega),g32 (by omega),Aa,Ag (b:=1) (by omega) (by omega),Bkn (by omega),step_eq]
  simp only[Aa]
  rw[Akx,Bcq,Bo2,Bi1,Bi1,show(0:Int32).toInt=0 from rfl]
  have ih:=Bgt (s:=s) hw ht hp j (i+1) q (by omega) (by omega)
  by_cases hx:p.getD i 0=0
  ·rw[if_pos (by rw[hx];rfl),Bro (by rw[hg,hx,Bou,Int32.mul_zero,Int32.zero_mul,Int32.add_zero])]
   exact ih
  ·rw[if_neg (by simpa using hx)]
   by_cases hs:((p.getD i 0).toInt<0)=(w.toInt<0)
   ·rw[if_pos (by rw[beq_iff_eq];simp only[hs]),show t.getD i 0+stp i=(lrn t p w).getD i 0 by rw[hg,Bsi hx hw hs],Bck (by omega),Aa]
    exact ih
   ·rw[if_neg (by rw[beq_iff_eq,decide_eq_decide];exact fun h=>hs (propext h)),show t.getD i 0-stp i=(lrn t p w).getD i 0 by rw[hg,Bnk hx hw hs],Bck (by omega),Aa]
    exact ih
theorem Bt6{t:List Int32}(p:List Int32)(ht:t.length=16):lrn t p 0=t:=by
 apply List.ext_getElem (by rw[Ab6,ht])
 intro i h1 h2
 have:=Biu t p 0 (i:=i) (by omega)
 rw[Kc h1,Kc h2]at this
 rw[this,Bou,Int32.mul_zero,Int32.add_zero]
theorem Bwp{s:Int}{t p:List Int32}(h:OkF s t p)(w:Int32):Am2 s t p w=some (s,lrn t p w,p,0):=by
 rw[Am2,Aj3,Ax9 h,Aa,if_neg (by rw[Aj];simp),Bo2]
 by_cases hw:w=0
 ·rw[if_pos (by simpa using hw),hw,Bt6 p h.2.1]
 ·have h1:=Bgt (s:=s) hw h.2.1 h.2.2 16 0 Am (by omega) (by have:=Al;omega)
  rw[Awp (by rw[Ab6,h.2.1]) (fun k _=>by simp[Av0])]at h1
  rw[if_neg (by simpa using hw)]
  exact h1
theorem Awx{s:Int}{t p:List Int32}{w:Int32}(ht:t.length=16)(hp:p.length=16):∀(j i q:Nat),i+j=16→j<q→Fi w s p q (i:Int) (sel (Av0 i) (lrn t p w) t)=some (s,lrn t p w,p)
 |0,i,q+1,hi,_=>by
  obtain rfl:i=16:=by omega
  rw[Fi,Mg,if_neg (by rw[Af];simp),Awt (fun k hk=>by rw[Ab6]at hk;simpa [Av0]using hk)];rfl
 |j+1,i,q+1,hi,hq=>by
  have hl:=Ab6 t p w
  have hg:=Biu t p w (i:=i) (by omega)
  rw[Fi,Mg,if_pos (by rw[Af];simp;omega),g32 (l:=p) (by omega),Ag (b:=1) (by omega) (by omega),Bkn (by omega),Bsw,sign_eq w,Aa,Aa,Aa,Aa,Aa,sign_eq,Aa,Aa,Aa,Akx,Bek,Bek,←hg,Bck (by omega),Aa]
  exact Awx ht hp j (i+1) q (by omega) (by omega)
theorem Bmv{s:Int}{t p:List Int32}(h:OkF s t p)(w:Int32):Acs s t p w=some (s,lrn t p w,p):=by
 have h1:=Awx (s:=s) (w:=w) h.2.1 h.2.2 16 0 Am (by omega) (by have:=Al;omega)
 rw[Awp (by rw[Ab6,h.2.1]) (fun k _=>by simp[Av0])]at h1
 exact h1
theorem Bzn{p:List Int32}(h:p.length=16):∃a0 a1 a2 a3 a4 a5 a6 a7 a8 a9 b0 b1 b2 b3 b4 b5,p=[a0,a1,a2,a3,a4,a5,a6,a7,a8,a9,b0,b1,b2,b3,b4,b5]:=by
 match p,h with
 |[a0,a1,a2,a3,a4,a5,a6,a7,a8,a9,b0,b1,b2,b3,b4,b5],_=>exact⟨a0,a1,a2,a3,a4,a5,a6,a7,a8,a9,b0,b1,b2,b3,b4,b5,rfl⟩
theorem By5{s:Int}{t p:List Int32}(h:OkF s t p)(x:Int32):Asa s t p x=some (s,t,x::p.take 15,0):=by
 obtain⟨hs,ht,hp⟩:=h
 rw[Asa,Afn,Ax9 ⟨hs,ht,hp⟩,Aa,if_neg (by rw[Aj];simp),show vwI (16:Int) 1 16=some ()from rfl,Aa,show vwI (16:Int) 0 16=some ()from rfl,Aa,Ame,Avq]
 obtain⟨a0,a1,a2,a3,a4,a5,a6,a7,a8,a9,b0,b1,b2,b3,b4,b5,rfl⟩:=Bzn hp
 rfl
def shf(p:List Int32)(i:Nat):List Int32:=(List.range 16).map fun k=>if k≤i then p.getD k 0 else p.getD (k-1) 0
theorem Um(p:List Int32)(i:Nat):(shf p i).length=16:=by simp[shf]
theorem Bzx(p:List Int32)(i k:Nat)(h:k<16):(shf p i).getD k 0=if k≤i then p.getD k 0 else p.getD (k-1) 0:=by
 rw[Kc (by rw[Um];exact h)];simp[shf]
theorem Bzg(p:List Int32)(i:Nat)(h:i+1<16):Ic (shf p (i+1)) ((i+1:Nat):Int) (p.getD i 0)=some (shf p i):=by
 rw[Ti _ (by rw[Um];exact h)]
 congr 1
 apply List.ext_getElem (by simp[Um])
 intro k h1 h2
 rw[Um]at h2
 rw[List.getElem_set]
 simp only[shf,List.getElem_map,List.getElem_range]
 by_cases hk:i+1=k
 ·subst hk;rw[if_pos rfl,if_neg (by omega)];rfl
 ·rw[if_neg hk]
  by_cases h3:k≤i
  ·rw[if_pos (by omega),if_pos h3]
  ·rw[if_neg (by omega),if_neg h3]
theorem Az1(s:Int)(t p:List Int32)(x:Int32)(hp:p.length=16):∀(i q:Nat),i<16→i<q→Gc x s t q (i:Int) (shf p i)=some (s,t,x::p.take 15)
 |0,q+1,_,_=>by
  have hg:getI (shf p 0) (0:Int)=some ((shf p 0).getD 0 0):=g32 (l:=shf p 0) (k:=0) (by rw[Um];omega)
  have hset:Ic (shf p 0) (0:Int) x=some ((shf p 0).set 0 x):=Ti (l:=shf p 0) (n:=0) x (by rw[Um];omega)
  rw[Gc,Mu,if_neg (by rw[Aq];simp),Zi,Zz,hg,Aa,hset,Aa]
  congr 3
  apply List.ext_getElem (by simp[Um,hp])
  intro k h1 h2
  rw[List.length_set,Um]at h1
  rw[List.getElem_set]
  cases k with
  |zero=>rw[if_pos rfl];rfl
  |succ k=>
   rw[if_neg (by omega)]
   simp only[shf,List.getElem_map,List.getElem_range,List.getElem_cons_succ,List.getElem_take]
   rw[if_neg (by omega),Nat.add_sub_cancel,Kc (by omega)]
 |i+1,q+1,hi,hq=>by
  have hg:=g32 (l:=shf p (i+1)) (k:=i) (by rw[Um];omega)
  rw[Bzx p (i+1) i (by omega),if_pos (by omega)]at hg
  have e1:Ah ((i+1:Nat):Int) (1:Int)=(i:Int):=by rw[Bi (by omega) (by omega)];omega
  have hg2:=g32 (l:=shf p (i+1)) (k:=i+1) (by rw[Um];omega)
  rw[Gc,Mu,if_pos (by rw[Aq];simp),e1,hg,Aa,Aa,hg2,Aa,Bzg p i hi,Aa]
  exact Az1 s t p x hp i q (by omega) (by omega)
theorem Bsc{s:Int}{t p:List Int32}(hp:p.length=16)(x:Int32):Aey s t p x=some (s,t,x::p.take 15):=by
 have h:=Az1 s t p x hp 15 Am (by omega) (by have:=Al;omega)
 have e:shf p 15=p:=by
  apply List.ext_getElem (by rw[Um,hp])
  intro k h1 h2
  rw[Um]at h1
  simp only[shf,List.getElem_map,List.getElem_range]
  rw[if_pos (by omega),Kc h2]
 rw[e]at h
 exact h
theorem Bv1{s:Int}{t p:List Int32}(h:OkF s t p)(w x:Int32):OkF s (lrn t p w) (x::p.take 15):=⟨h.1,Ab6 _ _ _,by simp[h.2.2]⟩
theorem Bzk{s:Int}{t p:List Int32}(h:OkF s t p)(y:Int32):Ar4 s t p y=some (y+gF s t p,s,lrn t p y,(y+gF s t p)::p.take 15,0):=by
 rw[Ar4,Bv5 h,Aa]
 simp only
 rw[if_neg (by rw[Aj];simp),Akx,Amx,Bwp h,Aa]
 simp only
 rw[By5 (s:=s) (t:=lrn t p y) (p:=p) ⟨h.1,Ab6 _ _ _,h.2.2⟩,Aa];rfl
theorem Brx{s:Int}{t p:List Int32}(h:OkF s t p)(y:Int32):Rh s t p y=some (y+gF s t p,s,lrn t p y,(y+gF s t p)::p.take 15):=by
 rw[Rh,Bzj h,Aa,Awi,Aa,Bmv h,Aa]
 simp only
 rw[Bsc h.2.2,Aa]
def sB(bits:Int):Int:=if bits=16 then 9 else 10
def shB(bits:Int):Int:=if bits=8 then 4 else 5
def Ch(bits:Int):Prop:=bits=8∨bits=16∨bits=24
def gs(sh:Int)(last:Int32):Int32:=Ae (Bg6 (Ah (Cr (Ae last:Int) sh.toNat) (Ae last)) sh.toNat)
theorem Ccy(bits:Int):sB bits=9∨sB bits=10:=by unfold sB;split<;>simp
theorem Bz3(bits:Int):0≤shB bits:=by unfold shB;split<;>omega
theorem Cee{bits:Int}(h:Ch bits)(t:List Int32):Avn bits t=some (sB bits,t,List.replicate 16 0,0):=by
 obtain rfl|rfl|rfl:=h<;>rfl
theorem Cbj{bits:Int}(h:Ch bits):Apq bits=some (shB bits,0):=by
 obtain rfl|rfl|rfl:=h<;>rfl
theorem Cce{sh:Int}(h:0≤sh)(last:Int32):Ai7 sh last=some (gs sh last):=by
 rw[Ai7,Bz (by rw[Ce];simpa using h),Aa,Aa];rfl
theorem Cb5{bits:Int}(h:Ch bits)(last:Int32):Rj bits last=some (gs (shB bits) last,0):=by
 rw[Rj,Cbj h,Aa]
 simp only
 rw[if_neg (by rw[Aj];simp),Cce (Bz3 bits),Aa]
theorem Bnf{bits:Int}(h:Ch bits)(last:Int32)(t p:List Int32):Rb bits last (sB bits) t p=some 0:=by
 rw[Rb,Cee h,Aa]
 simp only
 rw[if_neg (by rw[Aj,Aj];simp)]
theorem Bta{bits:Int}(h:Ch bits){t p:List Int32}(hF:OkF (sB bits) t p)(last y:Int32):
  Ie bits last (sB bits) t p y=some (y+gF (sB bits) t p+gs (shB bits) last,bits,y+gF (sB bits) t p+gs (shB bits) last,sB bits,lrn t p y,(y+gF (sB bits) t p)::p.take 15,0):=by
 rw[Ie,Bnf h,Aa,if_neg (by rw[Aj];simp),Cb5 h,Aa]
 simp only
 rw[Bzk hF,Aa]
 simp only
 rw[Akx]
theorem Ayk(sh:Int)(hs:sh=4∨sh=5)(last:Int32):Lr sh last=some (gs sh last):=by
 have hl:=Yl last
 have key:∀n:Int,n=16∨n=32→gs sh last=Int32.ofInt (((n-1)*last.toInt).fdiv n)→Ng last n=some (gs sh last):=by
  intro n hn hg
  have e:Ax (Ah n (1:Int)) (Ae last:Int)=(n-1)*last.toInt:=by
   obtain rfl|rfl:=hn<;>(rw[Df,Bi (by omega) (by omega),Fm (by omega) (by omega)])
  rw[Ng,Ze,Bz (by rw[Aj];simp;omega),Aa,Aa,e,Blp _ n (by omega) (by obtain rfl|rfl:=hn<;>omega) (by obtain rfl|rfl:=hn<;>omega),hg]
 rw[Lr,Zv]
 obtain rfl|rfl:=hs
 ·rw[if_neg (by rw[Bp];decide)]
  refine key 16 (.inl rfl) ?_
  have e:Cr (Ae last:Int) (4:Int).toNat=last.toInt*16:=by
   rw[Df];show wrap64 (last.toInt*2^4)=_;rw[Bm]<;>omega
  rw[gs,e,Df,Bi (by omega) (by omega),Af0]
  show Int32.ofInt ((last.toInt*16-last.toInt).fdiv 16)=_
  congr 2;omega
 ·rw[if_pos (by rw[Bp];rfl)]
  refine key 32 (.inr rfl) ?_
  have e:Cr (Ae last:Int) (5:Int).toNat=last.toInt*32:=by
   rw[Df];show wrap64 (last.toInt*2^5)=_;rw[Bm]<;>omega
  rw[gs,e,Df,Bi (by omega) (by omega),Af0]
  show Int32.ofInt ((last.toInt*32-last.toInt).fdiv 32)=_
  congr 2;omega
theorem Brz{bits:Int}(h:Ch bits){t p:List Int32}(hF:OkF (sB bits) t p)(last y:Int32):
  Qt bits last (sB bits) t p y=some (y+gF (sB bits) t p+gs (shB bits) last,bits,y+gF (sB bits) t p+gs (shB bits) last,sB bits,lrn t p y,(y+gF (sB bits) t p)::p.take 15):=by
 have hb:Te bits last (sB bits) t p=some (Ae (gs (shB bits) last):Int):=by
  rw[Te]
  obtain rfl|rfl|rfl:=h
  ·rw[if_pos (by rw[Bp];rfl),Ayk 4 (.inl rfl),Aa];rfl
  ·rw[if_neg (by rw[Bp];decide),Ayk 5 (.inr rfl),Aa];rfl
  ·rw[if_neg (by rw[Bp];decide),Ayk 5 (.inr rfl),Aa];rfl
 rw[Qt,Brx hF,Aa]
 simp only
 rw[hb,Aa,Awi,Aa]
theorem Cdq{bits:Int}(h:Ch bits)(t:List Int32):Ak4 bits t=some (bits,0,sB bits,t,List.replicate 16 0,0):=by
 obtain rfl|rfl|rfl:=h<;>rfl
def Anr(n:UInt32):Int32:=if n.toNat %2=0 then Int32.ofInt ((n.toNat/2:Nat):Int)else Int32.ofInt (-((n.toNat/2:Nat):Int)-1)
theorem Bkt(a b:Int32):(Ru a b).toBitVec=a.toBitVec^^^b.toBitVec:=by
 show(Int32.ofInt ((BitVec.ofInt 32 a.toBitVec.toInt^^^BitVec.ofInt 32 b.toBitVec.toInt).toNat:Int)).toBitVec=_
 rw[BitVec.ofInt_toInt,BitVec.ofInt_toInt,Int32.toBitVec_ofInt,BitVec.ofInt_natCast,BitVec.ofNat_toNat,BitVec.setWidth_eq]
theorem Cc3(m:Nat)(h:m<2147483648):Ru (Int32.ofInt (m:Int)) (Int32.ofInt (-1))=Int32.ofInt (-(m:Int)-1):=by
 apply Int32.toBitVec_inj.1
 have e1:(Int32.ofInt (-1)).toBitVec=BitVec.allOnes 32:=by decide
 rw[Bkt,e1,BitVec.xor_allOnes,Int32.toBitVec_ofInt,Int32.toBitVec_ofInt]
 apply BitVec.eq_of_toNat_eq
 rw[BitVec.toNat_not,BitVec.toNat_ofInt,BitVec.toNat_ofInt]
 omega
theorem Bvy(n:UInt32):Se n=some (Anr n):=by
 have hn:=n.toNat_lt
 have e1:(Ae (Bk n (GI.toZ (1:UInt64)).toNat):Int32)=Int32.ofInt ((n.toNat/2:Nat):Int):=by
  show Int32.ofInt ((Bk n 1).toNat:Int)=_
  rw[Alc]
 have e2:(Ae (Cx n (1:UInt32)):Int32)=Int32.ofInt ((n.toNat %2:Nat):Int):=by
  show Int32.ofInt ((Cx n (1:UInt32)).toNat:Int)=_
  rw[Bk3,UInt32.toNat_and]
  show Int32.ofInt ((n.toNat&&&1:Nat):Int)=_
  rw[Nat.and_one_is_mod]
 rw[Se,e1,e2,Anr]
 congr 1
 by_cases h:n.toNat %2=0
 ·have e3:Awk (Int32.ofInt ((n.toNat %2:Nat):Int))=Int32.ofInt 0:=by rw[h];decide
  rw[if_pos h,e3]
  apply Int32.toBitVec_inj.1
  rw[Bkt,show(Int32.ofInt 0).toBitVec=0#32 from rfl,BitVec.xor_zero]
 ·have e3:Awk (Int32.ofInt ((n.toNat %2:Nat):Int))=Int32.ofInt (-1):=by rw[show n.toNat %2=1 by omega];decide
  rw[if_neg h,e3,Cc3 _ (by omega)]
theorem Byt(n:UInt32):Xr n=some (Anr n):=by
 have hn:=n.toNat_lt
 have e1:geq (Wx n (2:UInt32)) (0:UInt32)=decide (n.toNat %2=0):=by
  rw[Bh6,Bkj,Bool.eq_iff_iff]
  simp only[beq_iff_eq,←UInt32.toNat_inj,UInt32.toNat_mod,decide_eq_true_eq];rfl
 rw[Xr,e1,Anr]
 by_cases h:n.toNat %2=0
 ·rw[if_pos (by simpa using h),if_pos h,Bmk];rfl
 ·have e2:(Ae n:Int)=(n.toNat:Int):=Bn9 n
  rw[if_neg (by simpa using h),if_neg h,e2,Ag (by omega) (by omega),Bhv,Bm (by omega) (by omega),Aem,Int.tdiv_eq_ediv,Af0]
  congr 2
  rw[if_pos (.inr (by omega)),Bm (by omega) (by omega)];omega
end Go.Pl
set_option linter.unusedVariables false
set_option linter.unusedSimpArgs false
namespace Go.Pl
open Go Go.Lv
theorem Blv{c:Prop} [Decidable c](h:c):Gj (decide c)=some ():=by rw[decide_eq_true h];rfl
def unV(f:Nat→Int32)(ch:Nat):Nat→Int32
 |0=>if 1<ch then f (ch-1)+Bq (f (ch-2)) (2:Int32)else f (ch-1)
 |j+1=>unV f ch j-f (ch-2-j)
def unm(ch:Nat)(m:List Int32):List Int32:=(List.range m.length).map fun k=>unV (fun i=>m.getD (k-k %ch+i) 0) ch (ch-1-k %ch)
theorem Asr(ch:Nat)(m:List Int32):(unm ch m).length=m.length:=by simp[unm]
theorem Baq{ch:Nat}{m:List Int32}{a i:Nat}(ha:a %ch=0)(hi:i<ch)(h:a+i<m.length):(unm ch m).getD (a+i) 0=unV (fun i=>m.getD (a+i) 0) ch (ch-1-i):=by
 have hb:(a+i) %ch=i:=by rw[Nat.add_mod,ha,Nat.zero_add,Nat.mod_mod,Nat.mod_eq_of_lt hi]
 rw[Kc (by rw[Asr];exact h)]
 simp only[unm,List.getElem_map,List.getElem_range,hb]
 rw[show a+i-i=a by omega]
section
variable (ch:Nat) (m:List Int32)
theorem But(h1:1≤ch)(h6:ch≤6)(hm:m.length %ch=0)(hl2:m.length≤4000):Ak8 (ch:Int) m=some 0:=by
 rw[Ak8,if_neg (by simp[Af,Aq];omega),if_neg (by rw[Aq,Ac];simp;omega),Bz (by rw[Aj];simp;omega),Aa,if_neg]
 rw[Aj,Fa,Ac,←Int.ofNat_tmod,hm];simp
theorem Ba6(bk:Int→List Int32→Option (List Int32×Int))(at':Nat)(h1:1≤ch)(h6:ch≤6)(hm:at' %ch=0)(hl:at'+ch≤m.length)(hl2:m.length≤4000):∀(i q:Nat),i≤ch-1→i<q→
  Rv bk (ch:Int) (at':Int) q ((i:Int)-1) (sel (fun k=>decide (k<at'∨(at'+i≤k∧k<at'+ch))) (unm ch m) m)=bk ((at'+ch:Nat):Int) (sel (fun k=>decide (k<at'+ch)) (unm ch m) m)
 |0,q+1,hi,_=>by
  have e4:Ad (at':Int) (ch:Int)=((at'+ch:Nat):Int):=by rw[Ag (by omega) (by omega)];omega
  rw[Rv,Afi,if_neg (by rw[Ce];simp),Amq,Awj,e4]
  congr 1
  apply Wq
  intro k _
  rw[Bool.eq_iff_iff];simp;omega
 |i+1,q+1,hi,hq=>by
  have hlen:=Asr ch m
  have e2:Ad (at':Int) (ch:Int)-(at':Int)=(ch:Int):=by rw[Ag (by omega) (by omega)];omega
  have e3:Ad (i:Int) 1=((i+1:Nat):Int):=by rw[Ag (by omega) (by omega)];omega
  have hv:((unm ch m).getD (at'+(i+1)) 0-m.getD (at'+i) 0)=(unm ch m).getD (at'+i) 0:=by
   rw[Baq hm (by omega) (by omega),Baq hm (by omega) (by omega),show ch-1-i=(ch-1-(i+1))+1 by omega,unV,show ch-2-(ch-1-(i+1))=i by omega]
  rw[Rv,Afi,show((i+1:Nat):Int)-1=(i:Int) by omega,if_pos (by rw[Ce];simp),e2,e3,Blv (by omega),Aa,Blv (by omega),Aa,
   show(at':Int)+((i+1:Nat):Int)=((at'+(i+1):Nat):Int) by omega,show(at':Int)+(i:Int)=((at'+i:Nat):Int) by omega,
   Ai4 (by omega),Aa,Ai4 (by omega),Aa,Aa,if_pos (by simp;omega),if_neg (by simp;omega),Bcq,hv,Awr (by omega),Aa,Bi (by omega) (by omega)]
  have ih:=Ba6 bk at' h1 h6 hm hl hl2 i q (by omega) (by omega)
  rw[←ih]
  congr 1
  apply Wq
  intro k _
  rw[Bool.eq_iff_iff];simp;omega
theorem Bjg{at' ch n:Nat}(ha:at' %ch=0)(hm:n %ch=0)(h:at'<n):at'+ch≤n:=by
 have d1:=Nat.div_add_mod at' ch
 have d2:=Nat.div_add_mod n ch
 rw[ha,Nat.add_zero]at d1
 rw[hm,Nat.add_zero]at d2
 have hlt:at'/ch<n/ch:=by
  rcases Nat.lt_or_ge (at'/ch) (n/ch)with h'|h'
  ·exact h'
  ·have:=Nat.mul_le_mul_left ch h';omega
 have:=Nat.mul_le_mul_left ch (show at'/ch+1≤n/ch from hlt)
 rw[Nat.mul_add]at this;omega
theorem Bgx(h1:1≤ch)(h6:ch≤6)(hm:m.length %ch=0)(hl2:m.length≤4000):∀(j at' q:Nat),at' %ch=0→at'≤m.length→m.length-at'≤j→j<q→
  Nj (ch:Int) q (at':Int) (sel (fun k=>decide (k<at')) (unm ch m) m)=some (unm ch m,0)
 |j,at',q+1,ha,hle,hj,hq=>by
  have hlen:=Asr ch m
  have hl:Ac (sel (fun k=>decide (k<at')) (unm ch m) m)=(m.length:Int):=by rw[Ac,Amf,hlen]
  rw[Nj,Al4,hl]
  by_cases h:at'<m.length
  ·have hb:=Bjg ha hm h
   obtain⟨j,rfl⟩:∃k,j=k+1:=⟨j-1,by omega⟩
   have e1:Ah (Ad (at':Int) (ch:Int)-(at':Int)) 1=((ch-1:Nat):Int):=by rw[Ag (by omega) (by omega),Bi (by omega) (by omega)];omega
   have e2:Ad (at':Int) (ch:Int)-(at':Int)=(ch:Int):=by rw[Ag (by omega) (by omega)];omega
   have e4:Ad (at':Int) (ch:Int)=((at'+ch:Nat):Int):=by rw[Ag (by omega) (by omega)];omega
   have hi:=Ba6 ch m (Nj (ch:Int) q) at' h1 h6 ha hb hl2 (ch-1) Am (by omega) (by have:=Al;omega)
   have hrest:=Bgx h1 h6 hm hl2 j (at'+ch) q (by rw[Nat.add_mod_right,ha]) hb (by omega) (by omega)
   have hstart:Afj (Nj (ch:Int) q) (ch:Int) (at':Int) (sel (fun k=>decide (k<at'∨(at'+(ch-1)≤k∧k<at'+ch))) (unm ch m) m)=some (unm ch m,0):=by
    have e6:Ah ((ch-1:Nat):Int) 1=((ch-1:Nat):Int)-1:=Bi (by omega) (by omega)
    rw[Afj,Ama,Al3,e1,e6]
    exact Eq.trans hi hrest
   rw[if_pos (by rw[Af];simp;omega),show vwI (m.length:Int) (at':Int) (Ad (at':Int) (ch:Int))=some () by rw[e4,vwI,Blv];omega,Aa,e1,e2]
   have hlast:=Baq (m:=m) ha (show ch-1<ch by omega) (by omega)
   rw[show ch-1-(ch-1)=0 by omega,unV]at hlast
   by_cases hc:1<ch
   ·have e5:Ah ((ch-1:Nat):Int) 1=((ch-2:Nat):Int):=by rw[Bi (by omega) (by omega)];omega
    rw[if_pos hc]at hlast
    rw[if_pos (by rw[Aq];simp;omega),Blv (by omega),Aa,e5,Blv (by omega),Aa,show(at':Int)+((ch-1:Nat):Int)=((at'+(ch-1):Nat):Int) by omega,show(at':Int)+((ch-2:Nat):Int)=((at'+(ch-2):Nat):Int) by omega,
     Ai4 (by omega),Aa,Ai4 (by omega),Aa,Aa,if_neg (by simp),if_neg (by simp),Akx,←hlast,Awr (by omega),Aa]
    rw[←hstart]
    congr 1
    apply Wq
    intro k _
    rw[Bool.eq_iff_iff];simp;omega
   ·have hc1:ch=1:=by omega
    rw[if_neg (by rw[Aq];simp;omega),←hstart]
    congr 1
    rw[if_neg hc]at hlast
    apply List.map_congr_left
    intro k hk
    by_cases hk2:k=at'
    ·subst hk2
     rw[if_neg (by simp),if_pos (by simp;omega)]
     rw[show k+(ch-1)=k by omega]at hlast
     exact hlast.symm
    ·by_cases hk3:k<at'
     ·rw[if_pos (by simp;omega),if_pos (by simp;omega)]
     ·rw[if_neg (by simp;omega),if_neg (by simp;omega)]
  ·rw[if_neg (by rw[Af];simp;omega),Awt (fun k hk=>by simp;omega)]
   rfl
theorem By6(h1:1≤ch)(h6:ch≤6)(hm:m.length %ch=0)(hl2:m.length≤4000):Avk (ch:Int) m=some (unm ch m,0):=by
 have hlen:=Asr ch m
 have h:=Bgx ch m h1 h6 hm hl2 m.length 0 Am (by simp) (by omega) (by omega) (by have:=Al;omega)
 rw[Avk,Ars,But ch m h1 h6 hm hl2,Aa,if_neg (by rw[Aj];simp),Da,Fc (by simp;omega),Aa,Aa,List.nil_append,Anb]
 rw[Awp hlen.symm (fun k _=>by simp)]at h
 exact h
end
def Axf(f:Nat→Int32)(ch:Nat):List Int32:=(List.range ch).map fun i=>unV f ch (ch-1-i)
theorem Akv(f:Nat→Int32)(ch:Nat):(Axf f ch).length=ch:=by simp[Axf]
theorem Av5(f:Nat→Int32){ch i:Nat}(h:i<ch):(Axf f ch).getD i 0=unV f ch (ch-1-i):=by
 rw[Kc (by rw[Akv];exact h)];simp[Axf]
theorem Bvo(a b:Int32):Bu (Ah (Ae a:Int) (Ae b:Int))=some (a-b):=by
 have:=Yl a
 have:=Yl b
 rw[Df,Df,Bi (by omega) (by omega),Bar,Int32.ofInt_sub,Int32.ofInt_toInt,Int32.ofInt_toInt]
theorem Bsz(a b:Int32):Bu (Ad (Ae a:Int) (Bq (Ae b:Int) (2:Int)))=some (a+Bq b (2:Int32)):=by
 have:=Yl a
 have hb:=Yl b
 have hd: -2147483648≤b.toInt.tdiv 2∧b.toInt.tdiv 2≤2147483648:=by
  rw[Int.tdiv_eq_ediv,show Int.sign 2=1 from rfl]
  by_cases h:0≤b.toInt∨2∣b.toInt
  ·rw[if_pos h];omega
  ·rw[if_neg h];omega
 have e:Bq b (2:Int32)=Int32.ofInt (b.toInt.tdiv 2):=rfl
 rw[Df,Df,Aem,Bm (by omega) (by omega),Ag (by omega) (by omega),Bar,Int32.ofInt_add,Int32.ofInt_toInt,e]
theorem Awd(seg z:List Int32)(ch:Nat)(h6:ch≤6)(hs:seg.length=ch)(hz:z.length=ch):∀(i q:Nat),i+1≤ch→i<q→
  Fh seg q ((i:Int)-1) (sel (fun k=>decide (i≤k)) (Axf (fun i=>seg.getD i 0) ch) z)=some (Axf (fun i=>seg.getD i 0) ch)
 |0,q+1,hi,_=>by
  rw[Fh,Ma,if_neg (by rw[Ce];simp),Awt (fun k hk=>by simp)];rfl
 |i+1,q+1,hi,hq=>by
  have hlen:=Akv (fun i=>seg.getD i 0) ch
  have e3:Ad (i:Int) 1=((i+1:Nat):Int):=by rw[Ag (by omega) (by omega)];omega
  have hv:(Axf (fun i=>seg.getD i 0) ch).getD (i+1) 0-seg.getD i 0=(Axf (fun i=>seg.getD i 0) ch).getD i 0:=by
   rw[Av5 _ (by omega),Av5 _ (by omega),show ch-1-i=(ch-1-(i+1))+1 by omega,unV,show ch-2-(ch-1-(i+1))=i by omega]
  rw[Fh,Ma,show((i+1:Nat):Int)-1=(i:Int) by omega,if_pos (by rw[Ce];simp),e3,Ai4 (by omega),Aa,g32 (by omega),Aa,Aa,if_pos (by simp),Bvo,Aa,Ai4 (by omega),Aa,hv,Awr (by omega),Aa,Bi (by omega) (by omega)]
  have ih:=Awd seg z ch h6 hs hz i q (by omega) (by omega)
  rw[←ih]
  congr 1
  apply Wq
  intro k _
  rw[Bool.eq_iff_iff];simp;omega
theorem Bjt{l:List Int32}{i:Nat}(v:Int32)(h:i<l.length):(l.set i v).getD i 0=v:=by
 rw[Kc (by rw[List.length_set];exact h)];simp
theorem Boh(seg:List Int32)(ch:Nat)(h1:1≤ch)(h6:ch≤6)(hs:seg.length=ch):Rc seg=some (Axf (fun i=>seg.getD i 0) ch):=by
 have hlen:=Akv (fun i=>seg.getD i 0) ch
 have hzl:(List.replicate ch (0:Int32)).length=ch:=by simp
 have e1:Ah (Ac seg) 1=((ch-1:Nat):Int):=by rw[Ac,hs,Bi (by omega) (by omega)];omega
 have e2:Ah (Ac seg) 2=((ch-1:Nat):Int)-1:=by rw[Ac,hs,Bi (by omega) (by omega)];omega
 have hlast:=Av5 (fun i=>seg.getD i 0) (show ch-1<ch by omega)
 rw[show ch-1-(ch-1)=0 by omega,unV]at hlast
 have hend:∀z:List Int32,z.length=ch→z.getD (ch-1) 0=(Axf (fun i=>seg.getD i 0) ch).getD (ch-1) 0→Me seg z=some (Axf (fun i=>seg.getD i 0) ch):=by
  intro z hz hzl
  have h:=Awd seg z ch h6 hs hz (ch-1) Am (by omega) (by have:=Al;omega)
  have e:sel (fun k=>decide (ch-1≤k)) (Axf (fun i=>seg.getD i 0) ch) z=z:=by
   apply List.ext_getElem (by rw[Amf,hlen,hz])
   intro k k1 k2
   rw[Wc]
   by_cases hk:ch-1≤k
   ·obtain rfl:k=ch-1:=by omega
    rw[if_pos (by simp),←hzl,Kc k2]
   ·rw[if_neg (by simpa using hk),Kc k2]
  rw[e]at h
  rw[Me,Wu,e2]
  exact h
 rw[Rc,Wm,Ac,hs,Bdf (by omega) (by omega),Aa,Bz (by rw[Bp];simp),Aa]
 rw[Ac,hs]at e1
 rw[Ac,hs]at e2
 have hz1:(List.replicate (Int.toNat (ch:Int)) (0:Int32)).length=ch:=by simp
 have hs1:=g32 (l:=seg) (k:=ch-1) (by omega)
 rw[e1,hs1,Aa,g32 (by omega),Aa,Ti _ (by omega),Aa]
 by_cases hc:1<ch
 ·rw[if_pos hc]at hlast
  have e3:((ch-1:Nat):Int)-1=((ch-2:Nat):Int):=by omega
  have hs2:=g32 (l:=seg) (k:=ch-2) (by omega)
  rw[if_pos (by rw[Aq];simp;omega),Aa,e2,e3,hs2,Aa,Bsz,Aa,g32 (by rw[List.length_set];omega),Aa,Ti _ (by rw[List.length_set];omega),Aa]
  refine hend _ (by simp) ?_
  rw[hlast,Bjt _ (by rw[List.length_set];omega)]
 ·rw[if_neg hc]at hlast
  rw[if_neg (by rw[Aq];simp;omega)]
  refine hend _ (by simp) ?_
  rw[hlast,Bjt _ (by omega)]
theorem Bz8(ch:Nat)(m:List Int32)(h1:1≤ch)(h6:ch≤6)(hm:m.length %ch=0)(hl2:m.length≤4000):My (ch:Int) m=some 0:=by
 rw[My,if_neg (by simp[Af,Aq];omega),if_neg (by rw[Aq,Ac];simp;omega),Bz (by rw[Aj];simp;omega),Aa,if_neg]
 rw[Aq,Fa,Ac,←Int.ofNat_tmod,hm];simp
theorem Ays(ch:Nat)(m:List Int32)(h1:1≤ch)(h6:ch≤6)(hm:m.length %ch=0)(hl2:m.length≤4000):∀(j at' q:Nat),at' %ch=0→at'≤m.length→m.length-at'≤j→j<q→
  Kx (ch:Int) m q (at':Int) ((unm ch m).take at')=some (unm ch m,0)
 |j,at',q+1,ha,hle,hj,hq=>by
  have hlen:=Asr ch m
  rw[Kx,Ach]
  by_cases h:at'<m.length
  ·have hb:=Bjg ha hm h
   have e4:Ad (at':Int) (ch:Int)=((at'+ch:Nat):Int):=by rw[Ag (by omega) (by omega)];omega
   have hrest:=Ays ch m h1 h6 hm hl2 (j-1) (at'+ch) q (by rw[Nat.add_mod_right,ha]) hb (by omega) (by omega)
   have hseg:((m.take (at'+ch)).drop at').length=ch:=by simp;omega
   have htl:((unm ch m).take at').length=at':=by simp[hlen];omega
   rw[if_pos (by rw[Af,Ac];simp;omega),e4,Oo (by omega) (by omega) (by omega),Aa,show((at'+ch:Nat):Int).toNat=at'+ch from rfl,show(at':Int).toNat=at' from rfl,Boh _ ch h1 h6 hseg,Aa,Fc (by rw[htl,Akv];omega),Aa]
   have e:(unm ch m).take at'++Axf (fun i=>((m.take (at'+ch)).drop at').getD i 0) ch=(unm ch m).take (at'+ch):=by
    apply List.ext_getElem (by rw[List.length_append,htl,Akv,List.length_take,hlen];omega)
    intro k k1 k2
    rw[List.length_take,hlen]at k2
    rw[List.getElem_append,List.getElem_take]
    by_cases hk:k<at'
    ·rw[dif_pos (by rw[htl];exact hk),List.getElem_take]
    ·rw[dif_neg (by rw[htl];exact hk)]
     have hu:=Baq (m:=m) ha (show k-at'<ch by omega) (by omega)
     rw[show at'+(k-at')=k by omega,Kc (by omega)]at hu
     have hx:∀n,n≤ch→unV (fun i=>((m.take (at'+ch)).drop at').getD i 0) ch n=unV (fun i=>m.getD (at'+i) 0) ch n:=by
      have hf:∀i,i<ch→((m.take (at'+ch)).drop at').getD i 0=m.getD (at'+i) 0:=by
       intro i hi
       rw[Kc (by omega),Kc (by omega)];simp
      intro n
      induction n with
      |zero=>
       intro _;rw[unV,unV,hf _ (by omega)];split
       ·rw[hf _ (by omega)]
       ·rfl
      |succ n ih=>intro hn;rw[unV,unV,ih (by omega),hf _ (by omega)]
     have hy:=Av5 (fun i=>((m.take (at'+ch)).drop at').getD i 0) (show k-at'<ch by omega)
     rw[Kc (by rw[Akv];omega)]at hy
     rw[hu,←hx _ (by omega),←hy]
     congr 1
     rw[htl]
   rw[e]
   exact hrest
  ·rw[if_neg (by rw[Af,Ac];simp;omega),List.take_of_length_le (by omega)];rfl
theorem Bsn(ch:Nat)(m:List Int32)(h1:1≤ch)(h6:ch≤6)(hm:m.length %ch=0)(hl2:m.length≤4000):Yg (ch:Int) m=some (unm ch m,0):=by
 have h:=Ays ch m h1 h6 hm hl2 m.length 0 Am (by simp) (by omega) (by omega) (by have:=Al;omega)
 rw[Yg,Adn,Bz8 ch m h1 h6 hm hl2,Aa,if_neg (by rw[Aj];simp)]
 exact h
end Go.Pl
set_option linter.unusedVariables false
set_option linter.unusedSimpArgs false
namespace Go.Pl
open Go Go.Lv
def pre{α:Type}(ch c:Nat)(f:α→Nat→α)(a0:α):Nat→α
 |0=>a0
 |m+1=>if m %ch=c then f (pre ch c f a0 m) m else pre ch c f a0 m
theorem Bpv{α:Type}(ch c:Nat)(f:α→Nat→α)(a0:α):∀m,m≤c→c<ch→pre ch c f a0 m=a0
 |0,_,_=>rfl
 |m+1,h,h2=>by rw[pre,if_neg (by rw[Nat.mod_eq_of_lt (by omega)];omega),Bpv ch c f a0 m (by omega) h2]
theorem Bk1{α:Type}(ch c i:Nat)(f:α→Nat→α)(a0:α)(hi:i %ch=c)(hc:c<ch):∀j,j<ch→pre ch c f a0 (i+1+j)=pre ch c f a0 (i+1)
 |0,_=>rfl
 |j+1,h=>by
  have hne:(i+1+j) %ch≠c:=by
   intro e
   have h1:(i+(1+j)) %ch=i %ch:=by rw[hi,←e];congr 1;omega
   have h2:(1+j) %ch=0:=by
    have h3:=Nat.sub_mod_eq_zero_of_mod_eq h1
    rwa [Nat.add_sub_cancel_left]at h3
   rw[Nat.mod_eq_of_lt (by omega)]at h2;omega
  rw[show i+1+(j+1)=(i+1+j)+1 by omega,pre,if_neg hne,Bk1 ch c i f a0 hi hc j (by omega)]
theorem Bwe{α:Type}(ch c i:Nat)(f:α→Nat→α)(a0:α)(hi:i %ch=c)(hc:c<ch):pre ch c f a0 (i+ch)=f (pre ch c f a0 i) i:=by
 have h:=Bk1 ch c i f a0 hi hc (ch-1) (by omega)
 rw[show i+1+(ch-1)=i+ch by omega]at h
 rw[h,pre,if_pos hi]
abbrev CS:=Int32×List Int32×List Int32
def Bul(bits:Int)(s:CS)(y:Int32):Int32:=y+gF (sB bits) s.2.1 s.2.2+gs (shB bits) s.1
def Bps(bits:Int)(s:CS)(y:Int32):CS:=(Bul bits s y,lrn s.2.1 s.2.2 y,(y+gF (sB bits) s.2.1 s.2.2)::s.2.2.take 15)
def cst(bits:Int)(ch:Nat)(t:List Int32)(v:List UInt32)(c:Nat):Nat→CS:=pre ch c (fun s i=>Bps bits s (Anr (v.getD i 0))) (0,t,List.replicate 16 0)
def OkC(bits:Int)(s:CS):Prop:=OkF (sB bits) s.2.1 s.2.2
theorem Bob(bits:Int)(ch:Nat){t:List Int32}(ht:t.length=16)(v:List UInt32)(c:Nat):∀m,OkC bits (cst bits ch t v c m)
 |0=>⟨Ccy bits,ht,by simp[cst,pre]⟩
 |m+1=>by
  have ih:=Bob bits ch ht v c m
  rw[cst,pre]
  split
  ·exact Bv1 ih _ _
  ·exact ih
def smp(bits:Int)(ch:Nat)(t:List Int32)(v:List UInt32):List Int32:=(List.range v.length).map fun i=>Bul bits (cst bits ch t v (i %ch) i) (Anr (v.getD i 0))
theorem Aso(bits:Int)(ch:Nat)(t:List Int32)(v:List UInt32):(smp bits ch t v).length=v.length:=by simp[smp]
theorem Bow(bits:Int)(ch:Nat)(t:List Int32)(v:List UInt32){i:Nat}(h:i<v.length):(smp bits ch t v).getD i 0=Bul bits (cst bits ch t v (i %ch) i) (Anr (v.getD i 0)):=by
 rw[Kc (by rw[Aso];exact h)];simp[smp]
abbrev CL:=Int×Int32×(Int×(List Int32)×(List Int32)×Unit)×Unit
def toC(bits:Int)(s:CS):CL:=(bits,s.1,(sB bits,s.2.1,s.2.2,()),())
def cts(bits:Int)(ch:Nat)(t:List Int32)(v:List UInt32)(i:Nat):List CL:=(List.range 6).map fun c=>toC bits (cst bits ch t v c i)
theorem Cac{bits:Int}{ch:Nat}{t:List Int32}{v:List UInt32}{i c:Nat}(h:c<6):getI (cts bits ch t v i) (c:Int)=some (toC bits (cst bits ch t v c i)):=by
 rw[Ca (by simp[cts];exact h)];simp[cts]
theorem Bkf(bits:Int)(ch:Nat)(t:List Int32)(v:List UInt32)(c m:Nat):cst bits ch t v c (m+1)=if m %ch=c then Bps bits (cst bits ch t v c m) (Anr (v.getD m 0))else cst bits ch t v c m:=rfl
theorem Bzl{bits:Int}{ch:Nat}{t:List Int32}{v:List UInt32}{i c:Nat}(h:c<6)(hc:i %ch=c):Ic (cts bits ch t v i) (c:Int) (toC bits (Bps bits (cst bits ch t v c i) (Anr (v.getD i 0))))=some (cts bits ch t v (i+1)):=by
 rw[Ti _ (by simp[cts];exact h)]
 congr 1
 apply List.ext_getElem (by simp[cts])
 intro k h1 h2
 rw[List.getElem_set]
 simp only[cts,List.getElem_map,List.getElem_range]
 by_cases hk:c=k
 ·subst hk;rw[if_pos rfl,Bkf,if_pos hc]
 ·rw[if_neg hk,Bkf,if_neg (by omega)]
section
variable {bits:Int} {ch:Nat} {t:List Int32} {v:List UInt32}
theorem Blu(hb:Ch bits)(ht:t.length=16)(h1:1≤ch)(h6:ch≤6)(hv:v.length≤4000):∀(j i q:Nat),i+j=v.length→j<q→
  Gd v (ch:Int) bits q (i:Int) (cts bits ch t v i) ((smp bits ch t v).take i)=Io (ch:Int) bits (smp bits ch t v)
 |0,i,q+1,hi,_=>by
  rw[Gd,Ij,if_neg (by rw[Af,Ac];simp;omega),List.take_of_length_le (by rw[Aso];omega)]
 |j+1,i,q+1,hi,hq=>by
  have hlen:=Aso bits ch t v
  have hc:i %ch<6:=Nat.lt_of_lt_of_le (Nat.mod_lt _ (by omega)) h6
  have hok:=Bob bits ch ht v (i %ch) i
  have hs:=Bzl (bits:=bits) (ch:=ch) (t:=t) (v:=v) (i:=i) hc rfl
  have hx:=Bow bits ch t v (i:=i) (by omega)
  have hcb:=Bta hb hok (cst bits ch t v (i %ch) i).1 (Anr (v.getD i 0))
  have ih:=Blu hb ht h1 h6 hv j (i+1) q (by omega) (by omega)
  rw[Aft (by omega),←Kc (by omega),hx]at ih
  rw[Gd,Ij,if_pos (by rw[Af,Ac];simp;omega),Bdb (by omega),Aa,Bz (by rw[Aj];simp;omega),Aa,Ayb,Cac hc,Aa,Aa,Bvy,Aa]
  refine Eq.trans (congrArg (fun o=>Option.bind o _) hcb) ?_
  rw[Aa]
  simp only
  rw[To,Ae1,if_neg (by rw[Aj];simp),Ayb]
  refine Eq.trans (congrArg (fun o=>Option.bind o _) hs) ?_
  rw[Aa,Fc (by simp;omega),Aa,Ag (by omega) (by omega)]
  exact ih
theorem Br6(hb:Ch bits)(ht:t.length=16)(h1:1≤ch)(h6:ch≤6)(hv:v.length≤4000):Nu (ch:Int) bits t v=Io (ch:Int) bits (smp bits ch t v):=by
 have h:=Blu hb ht h1 h6 hv v.length 0 Am (by omega) (by have:=Al;omega)
 have e:Am=(Am-7)+1+1+1+1+1+1+1:=by have:=Al;omega
 have hs:Ls v (ch:Int) bits t 0 (List.replicate 6 ((0:Int),(0:Int32),((0:Int),(List.replicate 16 (0:Int32)),(List.replicate 16 (0:Int32)),()),()))=Tc v (ch:Int) bits (cts bits ch t v 0):=by
  rw[Ls,e]
  obtain rfl|rfl|rfl:=hb<;>rfl
 rw[Nu,Ur,hs]
 exact h
theorem Bfe(bk:Int→List Int32→Option (List Int32))(hb:Ch bits)(ht:t.length=16)(h1:1≤ch)(h6:ch≤6)(hv:v.length≤4000)(z:List Int32)(c:Nat)(hc:c<ch):∀(j i q:Nat),i %ch=c→v.length-i≤j→i≤5000→j<q→
  Hu bk v (ch:Int) bits t (c:Int) q (i:Int) (sel (fun k=>decide (k %ch<c∨(k %ch=c∧k<i))) (smp bits ch t v) z) bits (cst bits ch t v c i).1 (sB bits) (cst bits ch t v c i).2.1 (cst bits ch t v c i).2.2=
   bk ((c+1:Nat):Int) (sel (fun k=>decide (k %ch<c+1)) (smp bits ch t v) z)
 |j,i,q+1,hi,hj,hi5,hq=>by
  have hlen:=Aso bits ch t v
  rw[Hu,Wb]
  by_cases h:i<v.length
  ·have hok:=Bob bits ch ht v c i
   have hst:=Brz hb hok (cst bits ch t v c i).1 (Anr (v.getD i 0))
   have hx:=Bow bits ch t v (i:=i) h
   rw[hi]at hx
   have ih:=Bfe bk hb ht h1 h6 hv z c hc (j-1) (i+ch) q (by rw[Nat.add_mod_right];exact hi) (by omega) (by omega) (by omega)
   have hstep:cst bits ch t v c (i+ch)=Bps bits (cst bits ch t v c i) (Anr (v.getD i 0)):=Bwe ch c i _ _ hi hc
   rw[hstep]at ih
   have hset:=Awr (p:=fun k=>decide (k %ch<c∨(k %ch=c∧k<i))) (a:=smp bits ch t v) (b:=z) (k:=i) (by omega)
   rw[hx]at hset
   have hcong:sel (fun j=>decide (j %ch<c∨(j %ch=c∧j<i))||decide (j=i)) (smp bits ch t v) z=sel (fun k=>decide (k %ch<c∨(k %ch=c∧k<i+ch))) (smp bits ch t v) z:=by
    apply Wq
    intro k _
    rw[Bool.eq_iff_iff]
    simp only[Bool.or_eq_true,decide_eq_true_eq]
    constructor
    ·rintro((h1|h1)|h1)
     ·exact .inl h1
     ·exact .inr ⟨h1.1,by omega⟩
     ·subst h1;exact .inr ⟨hi,by omega⟩
    ·rintro(h1|⟨h1,h2⟩)
     ·exact .inl (.inl h1)
     ·by_cases h3:k<i
      ·exact .inl (.inr ⟨h1,h3⟩)
      ·refine .inr ?_
       have h4:(i+(k-i)) %ch=i %ch:=by rw[show i+(k-i)=k by omega,h1,hi]
       have h5:=Nat.sub_mod_eq_zero_of_mod_eq h4
       rw[Nat.add_sub_cancel_left,Nat.mod_eq_of_lt (by omega)]at h5
       omega
   rw[hcong]at hset
   rw[if_pos (by rw[Af,Ac];simp;omega),Bdb h,Aa,Byt,Aa]
   refine Eq.trans (congrArg (fun o=>Option.bind o _) hst) ?_
   rw[Aa]
   simp only
   rw[Wh,Vs,Ai4 (by omega),Aa]
   refine Eq.trans (congrArg (fun o=>Option.bind o _) hset) ?_
   rw[Aa,Wi,Wa,Ag (by omega) (by omega)]
   exact ih
  ·rw[if_neg (by rw[Af,Ac];simp;omega),Wo,Vx,Ag (by omega) (by omega)]
   have hcong:sel (fun k=>decide (k %ch<c∨(k %ch=c∧k<i))) (smp bits ch t v) z=sel (fun k=>decide (k %ch<c+1)) (smp bits ch t v) z:=by
    apply Wq
    intro k hk
    rw[Bool.eq_iff_iff]
    simp only[decide_eq_true_eq]
    omega
   rw[hcong];rfl
theorem Bge(hb:Ch bits)(ht:t.length=16)(h1:1≤ch)(h6:ch≤6)(hv:v.length≤4000)(z:List Int32):∀(j c q:Nat),c+j=ch→j<q→
  Du v (ch:Int) bits t q (c:Int) (sel (fun k=>decide (k %ch<c)) (smp bits ch t v) z)=Mk (ch:Int) bits (smp bits ch t v)
 |0,c,q+1,hc,_=>by
  rw[Du,Ly,if_neg (by rw[Af];simp;omega),Awt (fun k hk=>by have:=Nat.mod_lt k (show 0<ch by omega);simp;omega)]
 |j+1,c,q+1,hc,hq=>by
  have ih:=Bge hb ht h1 h6 hv z j (c+1) q (by omega) (by omega)
  have hin:=Bfe (Du v (ch:Int) bits t q) hb ht h1 h6 hv z c (by omega) v.length c Am (Nat.mod_eq_of_lt (by omega)) (by omega) (by omega) (by have:=Al;omega)
  have h0:cst bits ch t v c c=(0,t,List.replicate 16 0):=Bpv ch c _ _ c (Nat.le_refl _) (by omega)
  rw[h0]at hin
  have hcong:sel (fun k=>decide (k %ch<c∨(k %ch=c∧k<c))) (smp bits ch t v) z=sel (fun k=>decide (k %ch<c)) (smp bits ch t v) z:=by
   apply Wq
   intro k hk
   have:=Nat.mod_le k ch
   rw[Bool.eq_iff_iff]
   simp only[decide_eq_true_eq]
   omega
  rw[hcong]at hin
  rw[Du,Ly,if_pos (by rw[Af];simp;omega),Cdq hb,Aa]
  simp only
  rw[Wp]
  exact Eq.trans hin ih
theorem Brs(hb:Ch bits)(ht:t.length=16)(h1:1≤ch)(h6:ch≤6)(hv:v.length≤4000)(hm:v.length %ch=0):Lp (ch:Int) bits t v=some (unm ch (smp bits ch t v)):=by
 have hlen:=Aso bits ch t v
 have h:=Bge hb ht h1 h6 hv (List.replicate v.length 0) ch 0 Am (by omega) (by have:=Al;omega)
 rw[Awp (by rw[hlen];simp) (fun k _=>by simp)]at h
 rw[Lp,Yd,Ac,Bdf (by omega) (by omega),Aa,Bz (by rw[Bp];simp),Aa,Wk]
 refine Eq.trans h ?_
 rw[Mk,Wf,Bsn ch _ h1 h6 (by rw[hlen];exact hm) (by omega),Aa]
end
def hB(bits:Int):Int:=if bits=8 then 128 else if bits=16 then 32768 else 8388608
theorem Buw{bits:Int}(h:Ch bits):Ad1 bits=some (Int32.ofInt (-(hB bits)),Int32.ofInt (hB bits-1),0):=by
 obtain rfl|rfl|rfl:=h<;>decide
theorem Bda{bits:Int}(h:Ch bits):Qa bits=some (hB bits):=by
 obtain rfl|rfl|rfl:=h<;>rfl
theorem Aya(bits:Int):0<hB bits∧hB bits≤8388608:=by
 unfold hB;split; · omega
 ·split<;>omega
theorem Beo{bits:Int}(h:Ch bits)(l:List Int32)(hl:l.length≤4000):∀(j i q:Nat),i+j=l.length→j<q→
  Mb (Int32.ofInt (-(hB bits))) (Int32.ofInt (hB bits-1)) l q (i:Int)=Ba l (hB bits) q (i:Int)
 |0,i,q+1,hi,_=>by
  rw[Mb,Xk,Ba,Cl,if_neg (by rw[Af,Ac];simp;omega),if_neg (by rw[Af,Ac];simp;omega)];rfl
 |j+1,i,q+1,hi,hq=>by
  have hh:=Aya bits
  have ih:=Beo h l hl j (i+1) q (by omega) (by omega)
  have e1:(Int32.ofInt (-(hB bits))).toInt= -(hB bits):=by rw[Int32.toInt_ofInt,Int.bmod_eq_of_le (by show -(4294967296/2:Int)≤_;omega) (by show _<(4294967296+1)/2;omega)]
  have e2:(Int32.ofInt (hB bits-1)).toInt=hB bits-1:=by rw[Int32.toInt_ofInt,Int.bmod_eq_of_le (by show -(4294967296/2:Int)≤_;omega) (by show _<(4294967296+1)/2;omega)]
  rw[Mb,Xk,Ba,Cl,if_pos (by rw[Af,Ac];simp;omega),if_pos (by rw[Af,Ac];simp;omega),g32 (by omega),Aa,Aa,Aa,Df,Bhv,Bm (by omega) (by omega),Ag (by omega) (by omega),Bi1,Bns,e1,e2,Af,Ce]
  generalize(l.getD i 0).toInt=X
  by_cases h1:X< -(hB bits)
  ·rw[if_pos (by simp;omega),if_pos (by simp;omega)]
  ·rw[if_neg (c:=decide (X<0-hB bits)=true) (by simp;omega)]
   by_cases h2:hB bits≤X
   ·rw[if_pos (by simp;omega),if_pos (by simp;omega)]
   ·rw[if_neg (by simp;omega),if_neg (by simp;omega)];exact ih
theorem Bco{bits:Int}(h:Ch bits)(l:List Int32)(hl:l.length≤4000):Ql bits l=cadenzaref18_Check bits l:=by
 have hh:=Aya bits
 rw[Ql,Agf,Buw h,Aa,cadenzaref18_Check,Gy,Bda h,Aa]
 simp only
 rw[if_neg (by rw[Aj];simp),if_neg (by rw[Aq,Ac];simp;omega),if_neg (by rw[Bp];simp;omega),if_neg (by rw[Aq,Ac];simp;omega)]
 exact Beo h l hl l.length 0 Am (by omega) (by have:=Al;omega)
theorem Bnr{bits:Int}(h:Ch bits)(l:List Int32)(hl:l.length≤4000):∃e,cadenzaref18_Check bits l=some e:=by
 have hh:=Aya bits
 have key:∀(j i q:Nat),i+j=l.length→j<q→∃e,Ba l (hB bits) q (i:Int)=some e:=by
  intro j
  induction j with
  |zero=>
   intro i q hi hq
   obtain⟨q,rfl⟩:∃k,q=k+1:=⟨q-1,by omega⟩
   rw[Ba,Cl,if_neg (by rw[Af,Ac];simp;omega)]
   exact⟨_,rfl⟩
  |succ j ih=>
   intro i q hi hq
   obtain⟨q,rfl⟩:∃k,q=k+1:=⟨q-1,by omega⟩
   rw[Ba,Cl,if_pos (by rw[Af,Ac];simp;omega),g32 (by omega),Aa,Aa,Ag (by omega) (by omega)]
   split
   ·exact⟨_,rfl⟩
   ·split
    ·exact⟨_,rfl⟩
    ·exact ih (i+1) q (by omega) (by omega)
 obtain⟨e,he⟩:=key l.length 0 Am (by omega) (by have:=Al;omega)
 rw[cadenzaref18_Check,Gy,Bda h,Aa,if_neg (by rw[Bp];simp;omega),if_neg (by rw[Aq,Ac];simp;omega)]
 exact⟨e,he⟩
theorem Bhr{bits:Int}{ch:Nat}{t:List Int32}{v:List UInt32}(hb:Ch bits)(ht:t.length=16)(h1:1≤ch)(h6:ch≤6)(hv:v.length≤4000)(hm:v.length %ch=0):
  ∃l e,Lp (ch:Int) bits t v=some l∧Sn (ch:Int) bits l=some (if e≠0 then([],e)else(l,0))∧Nu (ch:Int) bits t v=some (if e≠0 then([],e)else(l,0))∧cadenzaref18_Check bits l=some e∧l.length=v.length:=by
 have hlen:=Aso bits ch t v
 have hul:=Asr ch (smp bits ch t v)
 obtain⟨e,he⟩:=Bnr hb (unm ch (smp bits ch t v)) (by omega)
 refine⟨unm ch (smp bits ch t v),e,Brs hb ht h1 h6 hv hm,?_,?_,he,by omega⟩
 ·rw[Sn,he,Aa]
  by_cases h:e=0
  ·rw[if_neg (by rw[Aj];simpa using h),if_neg (by simpa using h)]
  ·rw[if_pos (by rw[Aj];simpa using h),if_pos h]
 ·rw[Br6 hb ht h1 h6 hv,Io,Aew,By6 ch _ h1 h6 (by rw[hlen];exact hm) (by omega),Aa]
  simp only
  rw[if_neg (by rw[Aj];simp),Bco hb _ (by omega),he,Aa]
  by_cases h:e=0
  ·rw[if_neg (by rw[Aj];simpa using h),if_neg (by simpa using h)]
  ·rw[if_pos (by rw[Aj];simpa using h),if_pos h]
end Go.Pl
set_option linter.unusedVariables false
set_option linter.unusedSimpArgs false
namespace Go.Pl
open Go Go.Lv
def Apm(s:Nat):Nat:=(s/2)^^^ (if s %2=1 then 3988292384 else 0)
theorem Bew{s:Nat}(h:s<4294967296):Apm s<4294967296:=by
 unfold Apm
 exact Nat.xor_lt_two_pow (n:=32) (by simp;omega) (by split<;>decide)
theorem Bks(x y:Nat):(x^^^y)/2=(x/2)^^^ (y/2):=by
 have:=Nat.shiftRight_xor_distrib (a:=x) (b:=y) (i:=1)
 simpa [Nat.shiftRight_eq_div_pow]using this
theorem Br1(x y:Nat):Apm (x^^^y)=Apm x^^^Apm y:=by
 have h:(x^^^y) %2=(x %2+y %2) %2:=by
  have:=Nat.xor_mod_two_eq_one (a:=x) (b:=y)
  have h1:(x^^^y) %2<2:=Nat.mod_lt _ (by omega)
  omega
 simp only[Apm,Bks,h]
 have hx:x %2=0∨x %2=1:=by omega
 have hy:y %2=0∨y %2=1:=by omega
 rcases hx with hx|hx<;>rcases hy with hy|hy<;>simp only[hx,hy]<;>simp
 ·rw[Nat.xor_assoc]
 ·rw[Nat.xor_assoc,Nat.xor_comm (y/2),Nat.xor_assoc,Nat.xor_comm 3988292384 (y/2)]
 ·rw[Nat.xor_assoc,Nat.xor_comm 3988292384,Nat.xor_assoc,Nat.xor_self];simp
def Sj:Nat→Nat→Nat
 |0,s=>s
 |k+1,s=>Sj k (Apm s)
theorem Bf5:∀(k x y:Nat),Sj k (x^^^y)=Sj k x^^^Sj k y
 |0,_,_=>rfl
 |k+1,x,y=>by rw[Sj,Br1,Bf5 k];rfl
theorem Bfg:∀(k h:Nat),Sj k (2^k*h)=h
 |0,h=>by simp[Sj]
 |k+1,h=>by
  have:Apm (2^(k+1)*h)=2^k*h:=by
   rw[Nat.pow_succ,Nat.mul_comm (2^k) 2,Nat.mul_assoc,Apm,if_neg (by omega),Nat.mul_div_cancel_left _ (by omega)];simp
  rw[Sj,this,Bfg k]
theorem Bbp:∀(k:Nat) {s:Nat},s<4294967296→Sj k s<4294967296
 |0,_,h=>h
 |k+1,_,h=>Bbp k (Bew h)
def Az5(s c:Nat):Nat:=Sj 8 (s^^^c)
theorem Bc2{s c:Nat}(h:s<4294967296)(hc:c<256):Az5 s c<4294967296:=Bbp 8 (Nat.xor_lt_two_pow (n:=32) (by simpa using h) (by simp;omega))
theorem Bln{s c:Nat}(hc:c<256):Az5 s c=(s/256)^^^Sj 8 ((s %256)^^^c):=by
 have h:s=(2^8*(s/256))^^^ (s %256):=by
  have h1:s %256<2^8:=by simpa using Nat.mod_lt s (by omega:256>0)
  have:=Nat.two_pow_add_eq_or_of_lt h1 (s/256)
  have h2:2^8*(s/256)|||s %256=(2^8*(s/256))^^^ (s %256):=by
   apply Nat.eq_of_testBit_eq;intro i
   rw[Nat.testBit_or,Nat.testBit_xor]
   by_cases hi:i<8
   ·have:(2^8*(s/256)).testBit i=false:=by rw[Nat.testBit_two_pow_mul];simp;omega
    rw[this];simp
   ·have:(s %256).testBit i=false:=Nat.testBit_lt_two_pow (Nat.lt_of_lt_of_le h1 (Nat.pow_le_pow_right (by omega) (by omega)))
    rw[this];simp
  omega
 rw[Az5]
 conv=>lhs;rw[h]
 rw[Nat.xor_assoc,Bf5,Bfg]
def Bsg(s:Nat)(l:List UInt8):Nat:=l.foldl (fun s c=>Az5 s c.toNat) s
def Fx(b:List UInt8):UInt32:=4294967295-UInt32.ofNat (Bsg 4294967295 b)
theorem Bz2(s:UInt32)(c:Nat)(hc:c<256):Zt s (Ae (Wx (UInt8.ofNat c) (2:UInt8)):Int)=some (UInt32.ofNat (s.toNat/2^^^ (if(s.toNat^^^c) %2=1 then 3988292384 else 0))):=by
 have h1:(Ae (Wx (UInt8.ofNat c) (2:UInt8)):Int)=((c %2:Nat):Int):=by
  rw[Afx,By4,UInt8.toNat_mod,UInt8.toNat_ofNat']
  show((c %256 %2:Nat):Int)=_
  omega
 have h2:geq (Wx s (2:UInt32)) (1:UInt32)=decide (s.toNat %2=1):=by
  rw[Bh6,Bkj,Bool.eq_iff_iff]
  simp only[beq_iff_eq,decide_eq_true_eq]
  rw[←UInt32.toNat_inj,UInt32.toNat_mod];rfl
 have h3:Bq s (2:UInt32)=UInt32.ofNat (s.toNat/2):=by
  apply UInt32.toNat_inj.1
  rw[Bmk,UInt32.toNat_div,UInt32.toNat_ofNat']
  show s.toNat/2=_
  have:=s.toNat_lt
  omega
 have h4:Ru (Bq s (2:UInt32)) (3988292384:UInt32)=UInt32.ofNat (s.toNat/2^^^3988292384):=by
  apply UInt32.toNat_inj.1
  rw[h3,Avg,UInt32.toNat_xor,UInt32.toNat_ofNat',UInt32.toNat_ofNat']
  have:=s.toNat_lt
  rw[Nat.mod_eq_of_lt (a:=s.toNat/2) (by omega),Nat.mod_eq_of_lt]
  ·rfl
  ·exact Nat.xor_lt_two_pow (n:=32) (by omega) (by decide)
 have hx:(s.toNat^^^c) %2=(s.toNat %2+c %2) %2:=by
  have:=Nat.xor_mod_two_eq_one (a:=s.toNat) (b:=c)
  have h1:(s.toNat^^^c) %2<2:=Nat.mod_lt _ (by omega)
  omega
 have hs:s.toNat %2=0∨s.toNat %2=1:=by omega
 have hc2:c %2=0∨c %2=1:=by omega
 rw[Zt,Acu,h1,h2,hx]
 rcases hs with hs|hs<;>rcases hc2 with hc2|hc2<;>simp[hs,hc2,Bp,Ac6,Ade,Avg,h3]
theorem Ay6:∀(j i q:Nat) (s:UInt32) (c:Nat),i+j=8→j<q→c<2^j→Ho q s (UInt8.ofNat c) (i:Int)=some (UInt32.ofNat (Sj j (s.toNat^^^c)))
 |0,i,q+1,s,c,hi,_,hc=>by
  obtain rfl:i=8:=by omega
  obtain rfl:c=0:=by simpa using hc
  rw[Ho,Qp,if_neg (by rw[Af];simp),Ac4,Acm,Sj]
  simp
 |j+1,i,q+1,s,c,hi,hq,hc=>by
  have hc8:c<256:=Nat.lt_of_lt_of_le hc (show 2^(j+1)≤2^8 from Nat.pow_le_pow_right (by omega) (by omega))
  rw[Ho,Qp,if_pos (by rw[Af];simp;omega),Bz2 s c hc8,Aa,Ag (by omega) (by omega)]
  have e:Bq (UInt8.ofNat c) (2:UInt8)=UInt8.ofNat (c/2):=by
   apply UInt8.toNat_inj.1
   rw[Bx4,UInt8.toNat_div,UInt8.toNat_ofNat',UInt8.toNat_ofNat']
   show c %256/2=_
   omega
  rw[e]
  have h:=Ay6 j (i+1) q (UInt32.ofNat (s.toNat/2^^^ (if(s.toNat^^^c) %2=1 then 3988292384 else 0))) (c/2) (by omega) (by omega) (by rw[Nat.pow_succ]at hc;omega)
  rw[show((i:Int)+1)=((i+1:Nat):Int) by omega,h,UInt32.toNat_ofNat',Sj]
  congr 3
  have:=s.toNat_lt
  rw[Nat.mod_eq_of_lt,Apm,Bks,Nat.xor_assoc,Nat.xor_assoc,Nat.xor_comm (c/2)]
  exact Nat.xor_lt_two_pow (n:=32) (by omega) (by split<;>decide)
theorem Bz4(s:UInt32)(c:UInt8):Aiv s c=some (UInt32.ofNat (Az5 s.toNat c.toNat)):=by
 have h:=Ay6 8 0 Am s c.toNat (by omega) (by have:=Al;omega) (by simpa using c.toNat_lt)
 rw[UInt8.ofNat_toNat]at h
 exact h
theorem Aty(b:List UInt8)(hb:b.length<4611686018427387904):∀(j i q:Nat) (s:UInt32),i+j=b.length→j<q→Fv b q s (i:Int)=some (UInt32.ofNat (Bsg s.toNat (b.drop i)))
 |0,i,q+1,s,hi,_=>by
  rw[Fv,Nc,if_neg (by rw[Af,Ac];simp;omega),show i=b.length by omega,List.drop_length]
  simp[Yf,Zw,Bsg]
 |j+1,i,q+1,s,hi,hq=>by
  have hlt:i<b.length:=by omega
  rw[Fv,Nc,if_pos (by rw[Af,Ac];simp;omega),Ca hlt,Aa,Bz4,Aa,Ag (by omega) (by omega)]
  have h:=Aty b hb j (i+1) q (UInt32.ofNat (Az5 s.toNat b[i].toNat)) (by omega) (by omega)
  rw[show((i:Int)+1)=((i+1:Nat):Int) by omega,h,drop_cons hlt,UInt32.toNat_ofNat',Nat.mod_eq_of_lt (Bc2 s.toNat_lt b[i].toNat_lt)]
  rfl
theorem Bwn(b:List UInt8)(hb:b.length<4611686018427387904):Nx b=some (Fx b):=by
 have h:=Aty b hb b.length 0 Am 4294967295 (by omega) (by have:=Al;omega)
 rw[Nx,Ae4,Xd,Yk,show((0:Int))=((0:Nat):Int)from rfl,h,Aa,Bkv];rfl
theorem Bxe(c:UInt32):Ru (Bk c (GI.toZ (1:UInt64)).toNat) (Ax (3988292384:UInt32) (Cx c (1:UInt32)))=UInt32.ofNat (Apm c.toNat):=by
 apply UInt32.toNat_inj.1
 have e:(GI.toZ (1:UInt64)).toNat=1:=rfl
 have h1:(Bk c 1).toNat=c.toNat/2:=by rw[Alc]
 have h2:(Ax (3988292384:UInt32) (Cx c (1:UInt32))).toNat=if c.toNat %2=1 then 3988292384 else 0:=by
  rw[Bvr,Bk3,UInt32.toNat_mul,UInt32.toNat_and]
  show 3988292384*(c.toNat&&&1) %4294967296=_
  rw[Nat.and_one_is_mod]
  have:c.toNat %2=0∨c.toNat %2=1:=by omega
  rcases this with h|h<;>simp[h]
 rw[e,Avg,UInt32.toNat_xor,h1,h2,UInt32.toNat_ofNat',Nat.mod_eq_of_lt (Bew c.toNat_lt)];rfl
theorem Bjv(bk16:Int→List UInt32→Option (UInt32×Int))(s:UInt32)(b:List UInt8)(x:Int)(t:List UInt32):∀(j i q:Nat) (c:UInt32),i+j=8→j<q→
  Mn bk16 s b x t q c (i:Int)=Zx bk16 s b x (UInt32.ofNat (Sj j c.toNat)) t
 |0,i,q+1,c,hi,_=>by
  obtain rfl:i=8:=by omega
  rw[Mn,Xf,if_neg (by rw[Af];simp),Sj,UInt32.ofNat_toNat]
 |j+1,i,q+1,c,hi,hq=>by
  rw[Mn,Xf,if_pos (by rw[Af];simp;omega),Bxe,Ag (by omega) (by omega),show((i:Int)+1)=((i+1:Nat):Int) by omega,Bjv bk16 s b x t j (i+1) q _ (by omega) (by omega),UInt32.toNat_ofNat',Nat.mod_eq_of_lt (Bew c.toNat_lt)];rfl
def tbl(n:Nat):List UInt32:=(List.range n).map fun i=>UInt32.ofNat (Sj 8 i)
theorem Box(s:UInt32)(b:List UInt8):∀(j i q:Nat),i+j=256→j<q→Ju s b q (i:Int) (tbl i++List.replicate j 0)=Yn s b (tbl 256)
 |0,i,q+1,hi,_=>by
  obtain rfl:i=256:=by omega
  rw[Ju,Ym,if_neg (by rw[Af];simp)];simp
 |j+1,i,q+1,hi,hq=>by
  have hlen:(tbl i++List.replicate (j+1) 0).length=i+(j+1):=by simp[tbl]
  rw[Ju,Ym,if_pos (by rw[Af];simp;omega),Ahs]
  have h:=Bjv (Ju s b q) s b (i:Int) (tbl i++List.replicate (j+1) 0) 8 0 Am (Ae (i:Int)) (by omega) (by have:=Al;omega)
  rw[show((0:Int))=((0:Nat):Int)from rfl,h,Zx,Agu,Ca (by rw[hlen];omega),Aa,Ti _ (by rw[hlen];omega),Aa,Af5,Ard,Ag (by omega) (by omega)]
  have e:(Ae (i:Int):UInt32).toNat=i:=by rw[Bg1,UInt32.toNat_ofNat',Nat.mod_eq_of_lt (by omega)]
  rw[e,List.replicate_succ,Asc (by simp[tbl])]
  have h2:=Box s b j (i+1) q (by omega) (by omega)
  have h3:tbl (i+1)=tbl i++[UInt32.ofNat (Sj 8 i)]:=by simp[tbl,List.range_succ]
  rw[h3]at h2
  rw[show((i:Int)+1)=((i+1:Nat):Int) by omega,←h2]
  simp
theorem Bya{i:Nat}(h:i<256):getI (tbl 256) (i:Int)=some (UInt32.ofNat (Sj 8 i)):=by
 rw[Ca (by simpa [tbl]using h)];simp[tbl]
theorem Bwa(s:UInt32)(c:UInt8):getI (tbl 256) (GI.toZ (Ru (Ae s:UInt8) c))=some (UInt32.ofNat (Sj 8 ((s.toNat %256)^^^c.toNat))):=by
 have e:GI.toZ (Ru (Ae s:UInt8) c)=(((s.toNat %256)^^^c.toNat:Nat):Int):=by
  rw[Ux,Bp9,UInt8.toNat_xor,Au8,UInt8.toNat_ofNat']
 rw[e,Bya]
 exact Nat.xor_lt_two_pow (n:=8) (by simp;omega) (by simpa using c.toNat_lt)
theorem Brv(s:UInt32)(c:UInt8):Ru (Bk s (GI.toZ (8:UInt64)).toNat) (UInt32.ofNat (Sj 8 ((s.toNat %256)^^^c.toNat)))=UInt32.ofNat (Az5 s.toNat c.toNat):=by
 apply UInt32.toNat_inj.1
 have hlt:Sj 8 ((s.toNat %256)^^^c.toNat)<4294967296:=Bbp 8 (Nat.xor_lt_two_pow (n:=32) (by simp;omega) (by have:=c.toNat_lt;simp;omega))
 have e:(GI.toZ (8:UInt64)).toNat=8:=rfl
 rw[e,Avg,UInt32.toNat_xor,Alc,UInt32.toNat_ofNat',UInt32.toNat_ofNat',Nat.mod_eq_of_lt hlt,Nat.mod_eq_of_lt (Bc2 s.toNat_lt c.toNat_lt),Bln c.toNat_lt]
theorem Bku(b:List UInt8)(hb:b.length<4611686018427387904):∀(j i q:Nat) (s:UInt32),i+j=b.length→j<q→Lu b (tbl 256) q s (i:Int)=some (UInt32.ofNat (Bsg s.toNat (b.drop i)),0)
 |0,i,q+1,s,hi,_=>by
  rw[Lu,Zd,if_neg (by rw[Af,Ac];simp;omega),show i=b.length by omega,List.drop_length]
  simp[Aht,Aqc,Bsg]
 |j+1,i,q+1,s,hi,hq=>by
  have hlt:i<b.length:=by omega
  rw[Lu,Zd,if_pos (by rw[Af,Ac];simp;omega),Ca hlt,Aa,Bwa,Aa,Aa,Brv,Ag (by omega) (by omega)]
  have h:=Bku b hb j (i+1) q (UInt32.ofNat (Az5 s.toNat b[i].toNat)) (by omega) (by omega)
  rw[show((i:Int)+1)=((i+1:Nat):Int) by omega,h,drop_cons hlt,UInt32.toNat_ofNat',Nat.mod_eq_of_lt (Bc2 s.toNat_lt b[i].toNat_lt)]
  rfl
theorem Bxu(s:UInt32)(b:List UInt8)(hb:b.length≤100000):Alu s b=some (UInt32.ofNat (Bsg s.toNat b),0):=by
 have h:=Box s b 256 0 Am (by omega) (by have:=Al;omega)
 have h2:=Bku b (by omega) b.length 0 Am s (by omega) (by have:=Al;omega)
 rw[Alu,Aka,if_neg (by rw[Aq,Ac];simp;omega),Ahb]
 refine Eq.trans h ?_
 rw[Yn,Agj,Ag1,Ah1,Agr]
 exact h2
theorem Bwt(a:UInt32):Bdk a=4294967295-a:=by
 have h:=a.toNat_lt
 have e:Bdk a=UInt32.ofNat (BitVec.ofInt 32 4294967295^^^BitVec.ofInt 32 (a.toNat:Int)).toNat:=Dh _
 apply UInt32.toNat_inj.1
 rw[e,UInt32.toNat_ofNat',UInt32.toNat_sub_of_le _ _ (by rw[UInt32.le_iff_toNat_le];show a.toNat≤4294967295;omega)]
 have h1:BitVec.ofInt 32 (a.toNat:Int)=a.toBitVec:=Bit a
 have h2:(BitVec.ofInt 32 4294967295:BitVec 32)=BitVec.allOnes 32:=by decide
 rw[h1,h2,BitVec.allOnes_xor,BitVec.toNat_not]
 show(4294967296-1-a.toNat) %4294967296=4294967295-a.toNat
 omega
theorem Bm7(b:List UInt8)(hb:b.length≤100000):Rz b=some (Fx b,0):=by
 rw[Rz,Bxu _ _ hb,Aa]
 simp only[Aj,Bwt]
 rfl
end Go.Pl
set_option linter.unusedVariables false
set_option linter.unusedSimpArgs false
namespace Go.Pl
open Go Go.Lv
theorem Boz:∀{l m:List UInt8},l.length=m.length→Di l=Di m→l=m
 |[],[],_,_=>rfl
 |x::l,y::m,h,e=>by
  simp only[Di]at e
  have hx:=x.toNat_lt
  have hy:=y.toNat_lt
  have h1:x=y:=UInt8.toNat_inj.1 (by omega)
  rw[h1,Boz (l:=l) (m:=m) (by simpa using h) (by omega)]
theorem Bhx:∀(w n:Nat),Di (leB n w)=n %256^w
 |0,n=>by simp[leB,Di,Nat.mod_one]
 |w+1,n=>by
  rw[leB,Di,Bhx w (n/256),UInt8.toNat_ofNat',show(256:Nat)^(w+1)=256*256^w by rw[Nat.pow_succ,Nat.mul_comm],Nat.mod_mul]
def Wt(b:List UInt8):Int:=
 if b.length<5 then 24 else if 41254<b.length then 4 else if(Fx (b.take (b.length-4))).toNat≠Di (b.drop (b.length-4))then 22 else 0
theorem Bkd(b:List UInt8):Xy b=some (if Wt b≠0 then([],Wt b)else(b.take (b.length-4),0)):=by
 rw[Xy]
 by_cases h1:b.length<5
 ·have hS:Wt b=24:=by rw[Wt,if_pos h1]
  rw[if_pos (by rw[Af,Ac];simp;omega),hS];rfl
 rw[if_neg (by rw[Af,Ac];simp;omega)]
 by_cases h2:41254<b.length
 ·have hS:Wt b=4:=by rw[Wt,if_neg h1,if_pos h2]
  rw[if_pos (by rw[Aq,Ac];simp;omega),hS];rfl
 have e4:Ah (Ac b) 4=((b.length-4:Nat):Int):=by rw[Ac,Bi (by omega) (by omega)];omega
 have hd:(b.drop (b.length-4)).length=4:=by simp;omega
 rw[if_neg (by rw[Aq,Ac];simp;omega),e4,Iw (by omega) (by omega),Aa,show((b.length-4:Nat):Int).toNat=b.length-4 from rfl,Bm7 _ (by simp;omega),Aa]
 simp only
 rw[if_neg (by rw[Aj];simp),Ge (by omega) (by omega),Aa,show((b.length-4:Nat):Int).toNat=b.length-4 from rfl,Bk9 _ (by omega) (by omega),Aa]
 have hne:Bb (leU (b.drop (b.length-4))) (Ae (Fx (b.take (b.length-4))):UInt64)=decide ((Fx (b.take (b.length-4))).toNat≠Di (b.drop (b.length-4))):=by
  have hlt:=(Fx (b.take (b.length-4))).toNat_lt
  rw[Afh,Bool.eq_iff_iff]
  simp only[bne_iff_ne,ne_eq,←UInt64.toNat_inj,decide_eq_true_eq]
  rw[Aiw (by omega),Gg,UInt64.toNat_ofNat',Nat.mod_eq_of_lt (by omega)]
  exact⟨fun h e=>h e.symm,fun h e=>h e.symm⟩
 simp only
 rw[hne,Aa]
 by_cases h3:(Fx (b.take (b.length-4))).toNat≠Di (b.drop (b.length-4))
 ·have hS:Wt b=22:=by rw[Wt,if_neg h1,if_neg h2,if_pos h3]
  rw[if_pos (by simp[h3]),hS];rfl
 ·have hS:Wt b=0:=by rw[Wt,if_neg h1,if_neg h2,if_neg h3]
  rw[if_neg (by rw[decide_eq_false h3];decide),hS];rfl
theorem Btb(b:List UInt8)(hb:b.length≤1000000):Tr b=some (b++leB (Fx b).toNat 4):=by
 have h:∀k:Nat,(Ae (Bk (Fx b) k):UInt8)=UInt8.ofNat ((Fx b).toNat/2^k):=by
  intro k;rw[Au8,Alc]
 have h0:(Ae (Fx b):UInt8)=UInt8.ofNat (Fx b).toNat:=Au8 _
 have h1:=h 8
 have h2:=h 16
 have h3:=h 24
 rw[Tr,Bwn b (by omega),Aa,Fc (by simp;omega),Aa,Fc (by simp;omega),Aa,h0,show(GI.toZ (8:UInt64)).toNat=8 from rfl,show(GI.toZ (16:UInt64)).toNat=16 from rfl,show(GI.toZ (24:UInt64)).toNat=24 from rfl,h1,h2,h3]
 simp only[leB,Nat.div_div_eq_div_mul,List.nil_append]
theorem Bnd(b:List UInt8):Lq b=some (Wt b):=by
 rw[Lq]
 by_cases h1:b.length<5
 ·rw[if_pos (by rw[Af,Ac];simp;omega),Wt,if_pos h1]
 rw[if_neg (by rw[Af,Ac];simp;omega)]
 by_cases h2:41254<b.length
 ·rw[if_pos (by rw[Aq,Ac];simp;omega),Wt,if_neg h1,if_pos h2]
 have e4:Ah (Ac b) 4=((b.length-4:Nat):Int):=by rw[Ac,Bi (by omega) (by omega)];omega
 have hd:(b.drop (b.length-4)).length=4:=by simp;omega
 rw[if_neg (by rw[Aq,Ac];simp;omega),e4,Iw (by omega) (by omega),Aa,show((b.length-4:Nat):Int).toNat=b.length-4 from rfl,Btb _ (by simp;omega),Aa]
 have hlt:=(Fx (b.take (b.length-4))).toNat_lt
 have hiff:(b.take (b.length-4)++leB (Fx (b.take (b.length-4))).toNat 4 !=b)=decide ((Fx (b.take (b.length-4))).toNat≠Di (b.drop (b.length-4))):=by
  rw[Bool.eq_iff_iff]
  simp only[bne_iff_ne,ne_eq,decide_eq_true_eq]
  constructor
  ·intro h e
   apply h
   have:leB (Fx (b.take (b.length-4))).toNat 4=b.drop (b.length-4):=Boz (by rw[Kw,hd]) (by rw[Bhx,Nat.mod_eq_of_lt (by omega),e])
   rw[this,List.take_append_drop]
  ·intro h e
   apply h
   have hx:leB (Fx (b.take (b.length-4))).toNat 4=b.drop (b.length-4):=by
    have e2:b.take (b.length-4)++leB (Fx (b.take (b.length-4))).toNat 4=b.take (b.length-4)++b.drop (b.length-4):=by rw[e,List.take_append_drop]
    exact List.append_cancel_left e2
   rw[←hx,Bhx,Nat.mod_eq_of_lt (by omega)]
 rw[hiff]
 by_cases h3:(Fx (b.take (b.length-4))).toNat≠Di (b.drop (b.length-4))
 ·rw[if_pos (by simp[h3]),Wt,if_neg h1,if_neg h2,if_pos h3]
 ·rw[if_neg (by rw[decide_eq_false h3];decide),Wt,if_neg h1,if_neg h2,if_neg h3]
theorem Bt7{b:List UInt8}(h:Wt b=0):5≤b.length∧b.length≤41254:=by
 unfold Wt at h
 split at h
 ·simp at h
 ·split at h
  ·simp at h
  ·omega
theorem Bxp{c:Nat}(h1:1≤c)(h6:c≤6):Bq (4000:Int) (c:Int)=((4000/c:Nat):Int):=by
 have:c=1∨c=2∨c=3∨c=4∨c=5∨c=6:=by omega
 rcases this with rfl|rfl|rfl|rfl|rfl|rfl<;>rfl
theorem Bx9(p:List UInt8)(h:p.length≤41250):okB p (8*p.length):=⟨by omega,by omega,fun k h1 h2=>by omega⟩
theorem Bjr{bits:Int}{ch n:Nat}{t:List Int32}(b:List UInt8)(hb:Ch bits)(ht:t.length=16)(h1:1≤ch)(h6:ch≤6)(n1:1≤n)(n2:n≤4000/ch):
  ∃l e,deframe_Decode (ch:Int) bits t (n:Int) b=some (l,e)∧cadenzaref21_Decode (ch:Int) bits t (n:Int) b=some (l,e)∧(e=0→cadenzaref18_Check bits l=some 0∧l.length≤4000∧l.length=n*ch)∧(e≠0→l=[]):=by
 have hn:n*ch≤4000:=by
  have:=Nat.mul_le_mul_right ch n2
  have h2:=Nat.div_mul_le_self 4000 ch
  omega
 have hq4:=Bxp h1 h6
 generalize 4000/ch=mm at*
 have hck:Oc (ch:Int) bits=some 0:=by
  have hr:∃x y,Ad1 bits=some (x,y,0):=⟨_,_,Buw hb⟩
  obtain⟨x,y,hr⟩:=hr
  rw[Oc,hr,Aa]
  simp only
  rw[if_neg (by simp[Aj,Af,Aq];omega)]
 have hh:=Aya bits
 have hasked:Uv (ch:Int) bits (n:Int)=some 0:=by
  rw[Uv,Ahv,if_neg (by simp[Af,Aq];omega),Bda hb,Aa,if_neg (by rw[Bp];simp;omega),Aa,if_neg (by simp[Aj,Af];omega),Bz (by rw[Aj];simp;omega),Aa,hq4,if_neg (by rw[Aq];simp;omega)]
 rw[deframe_Decode,cadenzaref21_Decode,Yr,hck,hasked,Aa,Aa,if_neg (by rw[Aj];simp),if_neg (by rw[Af];simp;omega),Bz (by rw[Aj];simp;omega),Aa,hq4,if_neg (by rw[Aq];simp;omega),if_neg (by rw[Aj];simp),Bkd,Bnd]
 by_cases hs:Wt b≠0
 ·rw[if_pos hs]
  simp only[Aa]
  rw[if_pos (by rw[Aj];simpa using hs),if_pos (by rw[Aj];simpa using hs)]
  exact⟨[],Wt b,rfl,rfl,fun e=>absurd e hs,fun _=>rfl⟩
 have hs0:Wt b=0:=by simpa using hs
 have hlen:=Bt7 hs0
 have e4:Ah (Ac b) 4=((b.length-4:Nat):Int):=by rw[Ac,Bi (by omega) (by omega)];omega
 rw[if_neg hs,hs0]
 simp only[Aa]
 rw[if_neg (by rw[Aj];simp),if_neg (by rw[Aj];simp),e4,Iw (by omega) (by omega),Aa,show((b.length-4:Nat):Int).toNat=b.length-4 from rfl]
 have hpl:(b.take (b.length-4)).length=b.length-4:=by simp
 generalize b.take (b.length-4)=p at*
 have e8:Ax (8:Int) (Ac p)=((8*p.length:Nat):Int):=by rw[Ac,Fm (by omega) (by omega)];omega
 have hp:=Bx9 p (by omega)
 have hv:=values_eq hp h1 h6 hn
 have hr:=By0 (N:=8*p.length) (p:=p) rfl (by omega) h1 h6 hn
 have hat:=Bid (ch:=ch) (p:=p) (N:=8*p.length) (n*ch) 0 [] (by omega)
 rw[Bhm,if_neg (by rw[Aq,Ac];simp;omega),Eh,Fc (by simp;omega),Aa,Aa,Aa,List.nil_append,e8]
 simp only
 rw[if_neg (by rw[Aj];simp),hv,hr,Aa,Aa]
 generalize Ww ch p (8*p.length) (n*ch) 0 []=V at*
 obtain⟨v,at',e⟩:=V
 simp only at*
 by_cases he:e≠0
 ·rw[if_pos he,if_pos he]
  simp only
  rw[if_pos (by rw[Aj];simpa using he),Mt,Nr,if_pos (by rw[Aj];simpa using he)]
  exact⟨[],e,rfl,rfl,fun h=>absurd h he,fun _=>rfl⟩
 have he0:e=0:=by simpa using he
 have hvl:=hat.2.2 he0
 simp only[List.length_nil,Nat.zero_add]at hvl
 rw[if_neg he,if_neg he]
 simp only
 rw[if_neg (by rw[Aj];simp),Bi (by omega) (by omega),show((8*p.length:Nat):Int)-(at':Int)=((8*p.length-at':Nat):Int) by omega,Mt,Nr]
 by_cases h7:7<8*p.length-at'
 ·have hE:(if 7<8*p.length-at'∨Bs p at' (8*p.length-at')≠0 then(12:Int)else 0)=12:=if_pos (.inl h7)
  rw[if_pos (by rw[Ce];simp;omega),hE,if_pos (by decide)]
  exact⟨[],12,rfl,rfl,fun h=>absurd h (by decide),fun _=>rfl⟩
 rw[if_neg (by rw[Ce];simp;omega),Axw hp at' _ (by omega),if_neg (by omega),Aa]
 have hz:Bb (Qf p at' (8*p.length-at')) (0:UInt64)=decide (Bs p at' (8*p.length-at')≠0):=by
  rw[Afh,Bool.eq_iff_iff]
  simp only[bne_iff_ne,ne_eq,←UInt64.toNat_inj,decide_eq_true_eq]
  rw[Yo p _ _ (by omega)];rfl
 simp only
 rw[hz]
 by_cases hv0:Bs p at' (8*p.length-at')≠0
 ·have hE:(if 7<8*p.length-at'∨Bs p at' (8*p.length-at')≠0 then(12:Int)else 0)=12:=if_pos (.inr hv0)
  rw[if_pos (by simp[hv0]),hE,if_pos (by decide)]
  exact⟨[],12,rfl,rfl,fun h=>absurd h (by decide),fun _=>rfl⟩
 have hm:v.length %ch=0:=by rw[hvl];exact Nat.mul_mod_left n ch
 obtain⟨l,e,g1,g2,g3,g4,g5⟩:=Bhr (v:=v) hb ht h1 h6 (by omega) hm
 have hE:(if 7<8*p.length-at'∨Bs p at' (8*p.length-at')≠0 then(12:Int)else 0)=0:=if_neg (by omega)
 rw[if_neg (by rw[decide_eq_false hv0];decide),hE,if_neg (by decide),g1,g3,Aa,Aa,g2]
 by_cases hl:e≠0
 ·rw[if_pos hl]
  exact⟨[],e,rfl,rfl,fun h=>absurd h hl,fun _=>rfl⟩
 ·rw[if_neg hl]
  have hl0:e=0:=by simpa using hl
  exact⟨l,0,rfl,rfl,fun _=>⟨by rw[g4,hl0],by omega,by omega⟩,fun e=>absurd rfl e⟩
end Go.Pl
set_option linter.unusedVariables false
set_option linter.unusedSimpArgs false
namespace Go.Pl
open Go Go.Lv
def P64:Nat:=4823603603198064275
def Ad9(s:Nat):Nat:=(2*s %18446744073709551616)^^^ (s/9223372036854775808*P64)
theorem Alp{s:Nat}(h:s<18446744073709551616):Ad9 s<18446744073709551616:=by
 have h1:s/9223372036854775808=0∨s/9223372036854775808=1:=by omega
 exact Nat.xor_lt_two_pow (n:=64) (Nat.mod_lt _ (by decide)) (by rcases h1 with e|e<;>rw[e]<;>decide)
theorem Bo9(x y:Nat):(x^^^y)/9223372036854775808=(x/9223372036854775808)^^^ (y/9223372036854775808):=by
 have:=Nat.shiftRight_xor_distrib (a:=x) (b:=y) (i:=63)
 simpa [Nat.shiftRight_eq_div_pow]using this
theorem Bq1(x y:Nat):2*(x^^^y) %18446744073709551616=(2*x %18446744073709551616)^^^ (2*y %18446744073709551616):=by
 have h1:=Nat.shiftLeft_xor_distrib (a:=x) (b:=y) (i:=1)
 have h2:=Nat.xor_mod_two_pow (a:=2*x) (b:=2*y) (n:=64)
 have e:2*(x^^^y)=(2*x)^^^ (2*y):=by simpa [Nat.shiftLeft_eq,Nat.mul_comm]using h1
 rw[e];exact h2
theorem Bza{a b:Nat}(ha:a=0∨a=1)(hb:b=0∨b=1)(p:Nat):(a^^^b)*p=(a*p)^^^ (b*p):=by
 rcases ha with rfl|rfl<;>rcases hb with rfl|rfl<;>simp
theorem Cd3(a b c d:Nat):(a^^^b)^^^ (c^^^d)=(a^^^c)^^^ (b^^^d):=by
 rw[Nat.xor_assoc,Nat.xor_assoc,←Nat.xor_assoc b c d,Nat.xor_comm b c,Nat.xor_assoc c b d]
theorem Bna{x y:Nat}(hx:x<18446744073709551616)(hy:y<18446744073709551616):Ad9 (x^^^y)=Ad9 x^^^Ad9 y:=by
 rw[Ad9,Ad9,Ad9,Bq1,Bo9,Bza (by omega) (by omega),Cd3]
def Kg:Nat→Nat→Nat
 |0,s=>s
 |k+1,s=>Kg k (Ad9 s)
theorem Axz:∀(k:Nat) {s:Nat},s<18446744073709551616→Kg k s<18446744073709551616
 |0,_,h=>h
 |k+1,_,h=>Axz k (Alp h)
theorem Bc0:∀(k:Nat) {x y:Nat},x<18446744073709551616→y<18446744073709551616→Kg k (x^^^y)=Kg k x^^^Kg k y
 |0,_,_,_,_=>rfl
 |k+1,x,y,hx,hy=>by rw[Kg,Bna hx hy,Bc0 k (Alp hx) (Alp hy)];rfl
theorem Bdq:∀(k h:Nat),2^k*h<18446744073709551616→Kg k h=2^k*h
 |0,h,_=>by simp[Kg]
 |k+1,h,hl=>by
  have hpos:0<2^k:=Nat.pow_pos (by omega)
  rw[Nat.pow_succ,Nat.mul_assoc]at hl
  have h2:2*h<18446744073709551616:=Nat.lt_of_le_of_lt (Nat.le_mul_of_pos_left _ hpos) hl
  have:Ad9 h=2*h:=by rw[Ad9,Nat.mod_eq_of_lt h2,show h/9223372036854775808=0 by omega];simp
  rw[Kg,this,Bdq k _ hl,Nat.pow_succ,Nat.mul_assoc]
def Arn(s c:Nat):Nat:=Kg 8 (s^^^ (c*72057594037927936))
theorem c56{c:Nat}(hc:c<256):c*72057594037927936<18446744073709551616:=by omega
theorem Aye{s c:Nat}(h:s<18446744073709551616)(hc:c<256):Arn s c<18446744073709551616:=Axz 8 (Nat.xor_lt_two_pow (n:=64) h (c56 hc))
theorem By7(s:Nat):s=(s/72057594037927936*72057594037927936)^^^ (s %72057594037927936):=by
 have h1:s %72057594037927936<2^56:=Nat.mod_lt _ (by decide)
 have:=Nat.two_pow_add_eq_or_of_lt h1 (s/72057594037927936)
 have h2:2^56*(s/72057594037927936)|||s %72057594037927936=(2^56*(s/72057594037927936))^^^ (s %72057594037927936):=by
  apply Nat.eq_of_testBit_eq;intro i
  rw[Nat.testBit_or,Nat.testBit_xor]
  by_cases hi:i<56
  ·have:(2^56*(s/72057594037927936)).testBit i=false:=by rw[Nat.testBit_two_pow_mul];simp;omega
   rw[this];simp
  ·have:(s %72057594037927936).testBit i=false:=Nat.testBit_lt_two_pow (Nat.lt_of_lt_of_le h1 (Nat.pow_le_pow_right (by omega) (by omega)))
   rw[this];simp
 rw[Nat.mul_comm (s/72057594037927936)]
 show s=(2^56*(s/72057594037927936))^^^ _
 rw[←h2,←this]
 have:=Nat.div_add_mod s 72057594037927936
 show s=72057594037927936*_+_
 omega
theorem Bsm(a c:Nat):(a^^^c)*72057594037927936=(a*72057594037927936)^^^ (c*72057594037927936):=by
 have h1:=Nat.shiftLeft_xor_distrib (a:=a) (b:=c) (i:=56)
 simpa [Nat.shiftLeft_eq]using h1
theorem Big{s c:Nat}(h:s<18446744073709551616)(hc:c<256):Arn s c=(256*s %18446744073709551616)^^^Kg 8 (((s/72057594037927936)^^^c)*72057594037927936):=by
 have hs:s/72057594037927936<2^8:=by show _<256;omega
 have hx:(s/72057594037927936)^^^c<256:=Nat.xor_lt_two_pow (n:=8) hs (by simpa using hc)
 have hl:s %72057594037927936<72057594037927936:=Nat.mod_lt _ (by decide)
 rw[Arn]
 conv=>lhs;rw[By7 s]
 rw[Nat.xor_comm (s/72057594037927936*72057594037927936),Nat.xor_assoc,←Bsm,Bc0 8 (by omega) (c56 hx),Bdq 8 _ (by show 256*_<_;omega)]
 congr 1
 show 256*(s %72057594037927936)=_
 omega
def Beb(s:Nat)(l:List UInt8):Nat:=l.foldl (fun s c=>Arn s c.toNat) s
theorem Be2{n:Nat}(h:n<18446744073709551616):(UInt64.ofNat n).toNat=n:=by rw[UInt64.toNat_ofNat'];exact Nat.mod_eq_of_lt h
theorem Ca1(s:UInt64)(bit:Nat)(hb:bit=0∨bit=1):Yh s (bit:Int)=some (UInt64.ofNat ((2*s.toNat %18446744073709551616)^^^ (((s.toNat/9223372036854775808)^^^bit)*P64))):=by
 have hs:=s.toNat_lt
 have ht:s.toNat/9223372036854775808=0∨s.toNat/9223372036854775808=1:=by omega
 have e1:(Ax s (2:UInt64)).toNat=2*s.toNat %18446744073709551616:=by
  rw[Ac3,UInt64.toNat_mul];show s.toNat*2 %_=_;rw[Nat.mul_comm]
 have hlt:2*s.toNat %18446744073709551616<18446744073709551616:=Nat.mod_lt _ (by decide)
 have ey:Ru (Ax s (2:UInt64)) (4823603603198064275:UInt64)=UInt64.ofNat ((2*s.toNat %18446744073709551616)^^^P64):=by
  apply UInt64.toNat_inj.1
  rw[Bb1,UInt64.toNat_xor,e1,Be2 (Nat.xor_lt_two_pow (n:=64) hlt (by decide))];rfl
 have en:Ax s (2:UInt64)=UInt64.ofNat (2*s.toNat %18446744073709551616):=by
  apply UInt64.toNat_inj.1
  rw[e1,Be2 hlt]
 have eg:Ja s (9223372036854775808:UInt64)=decide (s.toNat/9223372036854775808=1):=by
  rw[Bzf,decide_eq_decide]
  show 9223372036854775808≤s.toNat↔_
  omega
 have hp:∀b:Bool,Qr s b=some (if b=true then UInt64.ofNat ((2*s.toNat %18446744073709551616)^^^P64)else UInt64.ofNat (2*s.toNat %18446744073709551616)):=by
  intro b
  rw[Qr,Acp,ey,en];cases b<;>rfl
 rw[Yh,Ad3,hp,hp,eg]
 rcases hb with rfl|rfl<;>rcases ht with h|h<;>rw[h]<;>simp[Bp]
theorem Ayr(c:UInt8):∀(j q:Nat) (s:UInt64),j≤8→j<q→Hr c q s ((2^j/2:Nat):Int)=some (UInt64.ofNat (Kg j (s.toNat^^^ (c.toNat %2^j*2^(64-j)))))
 |0,q+1,s,_,_=>by
  rw[Hr,Ra,if_neg (by rw[Aq];simp),Ady,Ac8]
  simp[Kg,Nat.mod_one]
 |j+1,q+1,s,hj,hq=>by
  have hc:=c.toNat_lt
  have hs:=s.toNat_lt
  have hj2:2^j≤2^7:=Nat.pow_le_pow_right (by omega) (by omega)
  have hpos:0<2^j:=Nat.pow_pos (by omega)
  have e1:2^(j+1)/2=2^j:=by rw[Nat.pow_succ];omega
  have e2:Bq ((2^j:Nat):Int) 2=((2^j/2:Nat):Int):=by
   generalize 2^j=K at*
   rw[Aem,Int.tdiv_eq_ediv_of_nonneg (by omega),Bm (by omega) (by omega)];omega
  have e3:Fa (Bq (Ae c:Int) ((2^j:Nat):Int)) (2:Int)=((c.toNat/2^j %2:Nat):Int):=by
   have hX:=Nat.div_le_self c.toNat (2^j)
   rw[Afx,Aem,←Int.ofNat_tdiv]
   generalize c.toNat/2^j=X at*
   rw[Bm (by omega) (by omega),Fa,Int.tmod_eq_emod_of_nonneg (by omega)];omega
  have hbit:c.toNat/2^j %2=0∨c.toNat/2^j %2=1:=by omega
  rw[Hr,Ra,e1,if_pos (by rw[Aq,decide_eq_true_eq];omega),Bz (by rw[Aj,bne_iff_ne];omega),Aa,e3,Ca1 s _ hbit,Aa,e2,Ayr c j q _ (by omega) (by omega)]
  congr 2
  rw[Kg]
  congr 1
  have hx:c.toNat %2^(j+1)*2^(64-(j+1))=(c.toNat/2^j %2)*9223372036854775808+c.toNat %2^j*2^(63-j):=by
   have h63:(9223372036854775808:Nat)=2^j*2^(63-j):=by rw[←Nat.pow_add,show j+(63-j)=63 by omega]
   rw[Nat.mod_pow_succ,h63,show 64-(j+1)=63-j by omega,Nat.add_mul,Nat.add_comm,Nat.mul_assoc,Nat.mul_left_comm]
  have hr:c.toNat %2^j<2^j:=Nat.mod_lt _ hpos
  have hb63:c.toNat %2^j*2^(63-j)<9223372036854775808:=by
   have h63:(9223372036854775808:Nat)=2^j*2^(63-j):=by rw[←Nat.pow_add,show j+(63-j)=63 by omega]
   rw[h63];exact Nat.mul_lt_mul_of_pos_right hr (Nat.pow_pos (by omega))
  have h64:c.toNat %2^j*2^(64-j)=2*(c.toNat %2^j*2^(63-j)):=by
   rw[show 64-j=(63-j)+1 by omega,Nat.pow_succ,←Nat.mul_assoc,Nat.mul_comm]
  rw[hx,h64]
  generalize c.toNat %2^j*2^(63-j)=R at*
  generalize c.toNat/2^j %2=b at*
  have ht:s.toNat/9223372036854775808=0∨s.toNat/9223372036854775808=1:=by omega
  have hp:((s.toNat/9223372036854775808^^^b)*P64)<18446744073709551616:=by
   rcases ht with h|h<;>rcases hbit with h2|h2<;>rw[h,h2]<;>decide
  rw[Be2 (Nat.xor_lt_two_pow (n:=64) (Nat.mod_lt _ (by decide)) hp),Ad9,Bq1,Bo9,show(b*9223372036854775808+R)/9223372036854775808=b by omega,show 2*(b*9223372036854775808+R) %18446744073709551616=2*R by omega,Nat.xor_assoc,Nat.xor_assoc,Nat.xor_comm (2*R)]
theorem Ccc(c:UInt8)(s:UInt64):Ajb s c=some (UInt64.ofNat (Arn s.toNat c.toNat)):=by
 have h:=Ayr c 8 Am s (Nat.le_refl _) (by have:=Al;omega)
 have hc:=c.toNat_lt
 rw[Nat.mod_eq_of_lt (show c.toNat<2^8 by simpa using hc)]at h
 exact h
theorem Atm(b:List UInt8)(hb:b.length<4611686018427387904):∀(j i q:Nat) (s:UInt64),i+j=b.length→j<q→Fu b q s (i:Int)=some (UInt64.ofNat (Beb s.toNat (b.drop i)))
 |0,i,q+1,s,hi,_=>by
  rw[Fu,Nb,if_neg (by rw[Af,Ac];simp;omega),show i=b.length by omega,List.drop_length]
  simp[Xi,Xh,Beb]
 |j+1,i,q+1,s,hi,hq=>by
  have hlt:i<b.length:=by omega
  have hc:=b[i].toNat_lt
  rw[Fu,Nb,if_pos (by rw[Af,Ac];simp;omega),Ca hlt,Aa,Ccc,Aa,Ag (by omega) (by omega)]
  have h:=Atm b hb j (i+1) q (UInt64.ofNat (Arn s.toNat b[i].toNat)) (by omega) (by omega)
  rw[show((i:Int)+1)=((i+1:Nat):Int) by omega,h,drop_cons hlt,Be2 (Aye s.toNat_lt (by simpa using hc))]
  rfl
def Adh(b:List UInt8):UInt64:=UInt64.ofNat (Beb 0 b)
theorem Bmg(b:List UInt8)(hb:b.length≤100000):Tg 0 b=some (Adh b):=
 Atm b (by omega) b.length 0 Am 0 (by omega) (by have:=Al;omega)
theorem Bmt(c:UInt64):Ru (Cr c (GI.toZ (1:UInt64)).toNat) (Ax (4823603603198064275:UInt64) (Bk c (GI.toZ (63:UInt64)).toNat))=UInt64.ofNat (Ad9 c.toNat):=by
 have hc:=c.toNat_lt
 apply UInt64.toNat_inj.1
 have h1:(Cr c (GI.toZ (1:UInt64)).toNat).toNat=2*c.toNat %18446744073709551616:=by
  rw[show(GI.toZ (1:UInt64)).toNat=1 from rfl,Alf,Nat.mul_comm]
 have h2:(Ax (4823603603198064275:UInt64) (Bk c (GI.toZ (63:UInt64)).toNat)).toNat=c.toNat/9223372036854775808*P64:=by
  rw[show(GI.toZ (63:UInt64)).toNat=63 from rfl,Ac3,UInt64.toNat_mul,Adf]
  show 4823603603198064275*(c.toNat/9223372036854775808) %18446744073709551616=_
  have h1:c.toNat/9223372036854775808=0∨c.toNat/9223372036854775808=1:=by omega
  rcases h1 with e|e<;>rw[e]<;>decide
 rw[Bb1,UInt64.toNat_xor,h1,h2,Be2 (Alp hc)];rfl
theorem Az6(bk16:Int→List UInt64→Option (UInt64×Int))(s:UInt64)(b:List UInt8)(x:Int)(t:List UInt64):∀(j i q:Nat) (c:UInt64),i+j=8→j<q→
  Mc bk16 s b x t q c (i:Int)=Zm bk16 s b x (UInt64.ofNat (Kg j c.toNat)) t
 |0,i,q+1,c,hi,_=>by
  obtain rfl:i=8:=by omega
  rw[Mc,Zq,if_neg (by rw[Af];simp),Kg,UInt64.ofNat_toNat]
 |j+1,i,q+1,c,hi,hq=>by
  rw[Mc,Zq,if_pos (by rw[Af];simp;omega),Bmt,Ag (by omega) (by omega),show((i:Int)+1)=((i+1:Nat):Int) by omega,Az6 bk16 s b x t j (i+1) q _ (by omega) (by omega),Be2 (Alp c.toNat_lt)];rfl
def Aja(n:Nat):List UInt64:=(List.range n).map fun i=>UInt64.ofNat (Kg 8 (i*72057594037927936))
theorem Bbi(s:UInt64)(b:List UInt8):∀(j i q:Nat),i+j=256→j<q→Jh s b q (i:Int) (Aja i++List.replicate j 0)=Zc s b (Aja 256)
 |0,i,q+1,hi,_=>by
  obtain rfl:i=256:=by omega
  rw[Jh,Xt,if_neg (by rw[Af];simp)];simp
 |j+1,i,q+1,hi,hq=>by
  have hlen:(Aja i++List.replicate (j+1) 0).length=i+(j+1):=by simp[Aja]
  rw[Jh,Xt,if_pos (by rw[Af];simp;omega),Ahl]
  have h:=Az6 (Jh s b q) s b (i:Int) (Aja i++List.replicate (j+1) 0) 8 0 Am (Cr (Ae (i:Int):UInt64) (GI.toZ (56:UInt64)).toNat) (by omega) (by have:=Al;omega)
  rw[show((0:Int))=((0:Nat):Int)from rfl,h,Zm,Ah3,Ca (by rw[hlen];omega),Aa,Ti _ (by rw[hlen];omega),Aa,Agz,Aqa,Ag (by omega) (by omega)]
  have e:(Cr (Ae (i:Int):UInt64) (GI.toZ (56:UInt64)).toNat).toNat=i*72057594037927936:=by
   rw[Alf,We,Be2 (by omega)]
   show i*72057594037927936 %18446744073709551616=_
   omega
  rw[e,List.replicate_succ,Asc (by simp[Aja])]
  have h2:=Bbi s b j (i+1) q (by omega) (by omega)
  have h3:Aja (i+1)=Aja i++[UInt64.ofNat (Kg 8 (i*72057594037927936))]:=by simp[Aja,List.range_succ]
  rw[h3]at h2
  rw[show((i:Int)+1)=((i+1:Nat):Int) by omega,←h2]
  simp
theorem Bre{i:Nat}(h:i<256):getI (Aja 256) (i:Int)=some (UInt64.ofNat (Kg 8 (i*72057594037927936))):=by
 rw[Ca (by simpa [Aja]using h)];simp[Aja]
theorem Bkz(s:UInt64)(c:UInt8):getI (Aja 256) (GI.toZ (Ru (Ae (Bk s (GI.toZ (56:UInt64)).toNat):UInt8) c))=some (UInt64.ofNat (Kg 8 (((s.toNat/72057594037927936)^^^c.toNat)*72057594037927936))):=by
 have hs:=s.toNat_lt
 have e:GI.toZ (Ru (Ae (Bk s (GI.toZ (56:UInt64)).toNat):UInt8) c)=(((s.toNat/72057594037927936)^^^c.toNat:Nat):Int):=by
  have e2:((Ae (Bk s (GI.toZ (56:UInt64)).toNat):UInt8)).toNat=s.toNat/72057594037927936:=by
   rw[Al9,UInt8.toNat_ofNat',Adf]
   show s.toNat/72057594037927936 %256=_
   omega
  rw[Ux,Bp9,UInt8.toNat_xor,e2]
 rw[e,Bre]
 exact Nat.xor_lt_two_pow (n:=8) (by show _<256;omega) (by simpa using c.toNat_lt)
theorem Bhl(s:UInt64)(c:UInt8):Ru (Cr s (GI.toZ (8:UInt64)).toNat) (UInt64.ofNat (Kg 8 (((s.toNat/72057594037927936)^^^c.toNat)*72057594037927936)))=UInt64.ofNat (Arn s.toNat c.toNat):=by
 have hs:=s.toNat_lt
 have hc:c.toNat<256:=by simpa using c.toNat_lt
 apply UInt64.toNat_inj.1
 have hlt:Kg 8 (((s.toNat/72057594037927936)^^^c.toNat)*72057594037927936)<18446744073709551616:=Axz 8 (c56 (Nat.xor_lt_two_pow (n:=8) (by show _<256;omega) (by simpa using c.toNat_lt)))
 have e:(GI.toZ (8:UInt64)).toNat=8:=rfl
 rw[e,Bb1,UInt64.toNat_xor,Alf,Be2 hlt,Be2 (Aye hs hc),Big hs hc,Nat.mul_comm s.toNat]
theorem Azz(b:List UInt8)(s0:UInt64)(hb:b.length<4611686018427387904):∀(j i q:Nat) (s:UInt64),i+j=b.length→j<q→Mo b s0 (Aja 256) q s (i:Int)=some (UInt64.ofNat (Beb s.toNat (b.drop i)),0)
 |0,i,q+1,s,hi,_=>by
  rw[Mo,Xl,if_neg (by rw[Af,Ac];simp;omega),show i=b.length by omega,List.drop_length]
  simp[Aia,Agh,Aie,Aqm,Beb]
 |j+1,i,q+1,s,hi,hq=>by
  have hlt:i<b.length:=by omega
  have hc:=b[i].toNat_lt
  rw[Mo,Xl,if_pos (by rw[Af,Ac];simp;omega),Ca hlt,Aa,Bkz,Aa,Aa,Bhl,Ag (by omega) (by omega)]
  have h:=Azz b s0 hb j (i+1) q (UInt64.ofNat (Arn s.toNat b[i].toNat)) (by omega) (by omega)
  rw[show((i:Int)+1)=((i+1:Nat):Int) by omega,h,drop_cons hlt,Be2 (Aye s.toNat_lt (by simpa using hc))]
  rfl
theorem Blm(b:List UInt8)(hb:b.length≤100000):Ak1 b=some (Adh b,0):=by
 have h:=Bbi 0 b 256 0 Am (by omega) (by have:=Al;omega)
 have h2:=Azz b 0 (by omega) b.length 0 Am 0 (by omega) (by have:=Al;omega)
 have hn:Am3 0 b=some (Adh b,0):=by
  rw[Am3,Aj0,if_neg (by rw[Aq,Ac];simp;omega),Ahn]
  refine Eq.trans h ?_
  rw[Zc,Ahf,Ahz]
  exact h2
 rw[Ak1,hn,Aa]
theorem Bfl(p:List UInt8)(hp:p.length≤64):Wy p=some (leB (Adh p).toNat 8,0):=by
 rw[Wy,Ayc,if_neg (by rw[Aq,Ac];simp;omega),Blm p (by omega),Aa,Aa]
 simp only
 have h:=Bl3 (Adh p) 8 (by omega) (by omega) (by simpa using(Adh p).toNat_lt)
 rw[if_neg (by rw[Aj];simp)]
 exact congrArg (fun o=>Option.bind o fun x:List UInt8×Int=>some (x.1,x.2)) h
theorem Bgz(p:List UInt8)(hp:p.length≤64):Kv p=some (leB (Adh p).toNat 8):=by
 have h:=Beq (Adh p) 8 (by omega)
 rw[Kv,Ajd,Bmg p (by omega),Aa,Aa]
 exact congrArg (fun o=>Option.bind o fun l=>some l) h
def s8(n:Nat):Int32:=Int32.ofInt (if n<128 then(n:Int)else(n:Int)-256)
def Air(d:UInt64)(n:Nat):List Int32:=(List.range n).map fun i=>s8 (d.toNat/256^i %256)
theorem Ala(d:UInt64)(n:Nat):(Air d n).length=n:=by simp[Air]
theorem Bb4(d:UInt64)(n:Nat):Air d (n+1)=Air d n++[s8 (d.toNat/256^n %256)]:=by simp[Air,List.range_succ]
theorem bm8(z:Nat):(z:Int).bmod Int8.size=if z %256<128 then((z %256:Nat):Int)else((z %256:Nat):Int)-256:=by
 rw[show Int8.size=256 from rfl,Int.bmod_def]
 split<;>split<;>omega
theorem Bq0(d:UInt64):∀(j i q:Nat),i+j=8→j<q→Aa9 d q (i:Int) (Air d i++List.replicate (16-i) 0)=some (Air d 8++List.replicate 8 0)
 |0,i,q+1,hi,_=>by
  obtain rfl:i=8:=by omega
  rw[Aa9,Alr,if_neg (by rw[Af];simp)];rfl
 |j+1,i,q+1,hi,hq=>by
  have hlen:(Air d i++List.replicate (16-i) 0).length=16:=by simp[Ala];omega
  have ih:=Bq0 d j (i+1) q (by omega) (by omega)
  have e8:Ax (8:Int) (i:Int)=((8*i:Nat):Int):=by rw[Fm (by omega) (by omega)];omega
  have ev:(Ae (Ae (Bk d (GI.toZ (((8*i:Nat):Int))).toNat):Int8):Int32)=s8 (d.toNat/256^i %256):=by
   have e1:(Bk d (GI.toZ (((8*i:Nat):Int))).toNat).toNat=d.toNat/256^i:=by
    rw[show(GI.toZ (((8*i:Nat):Int))).toNat=8*i from rfl,Adf,Nat.pow_mul]
   show Int32.ofInt (Int8.ofInt ((Bk d (GI.toZ (((8*i:Nat):Int))).toNat).toNat:Int)).toInt=_
   rw[e1,s8,Int8.toInt_ofInt,bm8]
  rw[Aa9,Alr,if_pos (by rw[Af];simp;omega),e8,Bz (by rw[Ce];simp;omega),Aa,ev,Ca (by omega),Aa,Ti _ (by omega),Aa,Ag (by omega) (by omega),show 16-i=(15-i)+1 by omega,List.replicate_succ,Asc (Ala d i)]
  rw[Bb4,show 16-(i+1)=15-i by omega,List.append_assoc]at ih
  exact ih
theorem Bwb(d:UInt64):∀(j i q:Nat) (e:UInt64),i+j=8→j<q→e.toNat=d.toNat/256^i→Hl q e (i:Int) (Air d i++List.replicate (16-i) 0)=some (Air d 8++List.replicate 8 0)
 |0,i,q+1,e,hi,_,he=>by
  obtain rfl:i=8:=by omega
  rw[Hl,Ut,if_neg (by rw[Af];simp)];rfl
 |j+1,i,q+1,e,hi,hq,he=>by
  have hlen:(Air d i++List.replicate (16-i) 0).length=16:=by simp[Ala];omega
  have hq2:(Bq e (256:UInt64)).toNat=d.toNat/256^(i+1):=by
   rw[Awz,UInt64.toNat_div,he,Nat.pow_succ,←Nat.div_div_eq_div_mul];rfl
  have ih:=Bwb d j (i+1) q (Bq e (256:UInt64)) (by omega) (by omega) hq2
  have ev:(Ae (Wx e (256:UInt64)):Int32)=Int32.ofInt ((d.toNat/256^i %256:Nat):Int):=by
   show Int32.ofInt ((Wx e (256:UInt64)).toNat:Int)=_
   rw[Blx,UInt64.toNat_mod,he];rfl
  have hz:d.toNat/256^i %256<256:=Nat.mod_lt _ (by omega)
  have et:(Int32.ofInt ((d.toNat/256^i %256:Nat):Int)).toInt=((d.toNat/256^i %256:Nat):Int):=by
   rw[Int32.toInt_ofInt,Int.bmod_eq_of_le (by show -(4294967296/2:Int)≤_;omega) (by show _<(4294967296+1)/2;omega)]
  have hp8:∀x:Int32,x=s8 (d.toNat/256^i %256)→Vg (Hl q) e (i:Int) (Air d i++List.replicate (16-i) 0) x=some (Air d 8++List.replicate 8 0):=by
   intro x hx
   rw[Vg,Age,hx,Ca (by omega),Aa,Ti _ (by omega),Aa,Ag (by omega) (by omega),show 16-i=(15-i)+1 by omega,List.replicate_succ,Asc (Ala d i)]
   rw[Bb4,show 16-(i+1)=15-i by omega,List.append_assoc]at ih
   exact ih
  rw[Hl,Ut,if_pos (by rw[Af];simp;omega),ev,Bns,et,show(127:Int32).toInt=127 from rfl]
  by_cases h:d.toNat/256^i %256<128
  ·rw[if_neg (by simp only[decide_eq_true_eq];omega)]
   exact hp8 _ (by rw[s8,if_pos h])
  ·rw[if_pos (by simp only[decide_eq_true_eq];omega)]
   refine hp8 _ ?_
   rw[s8,if_neg h,Bcq,Int32.ofInt_sub];rfl
def tapsOf(p:List UInt8):List Int32:=Air (Adh p) 8++List.replicate 8 0
theorem Bn2(p:List UInt8):(tapsOf p).length=16:=by simp[tapsOf,Ala]
theorem Bft(p:List UInt8)(hp:p.length≤64):Rw p=some (tapsOf p,0):=by
 have h:=Bq0 (Adh p) 8 0 Am (by omega) (by have:=Al;omega)
 have h2:Bhe (Adh p)=some (tapsOf p):=h
 rw[Rw,if_neg (by rw[Aq,Ac];simp;omega),Blm p (by omega),Aa]
 simp only
 rw[if_neg (by rw[Aj];simp),h2,Aa]
theorem Bjm(p:List UInt8)(hp:p.length≤64):La p=some (tapsOf p,0):=by
 have h:=Bwb (Adh p) 8 0 Am (Adh p) (by omega) (by have:=Al;omega) (by simp)
 have h2:Anx (Adh p)=some (tapsOf p):=h
 rw[La,if_neg (by rw[Aq,Ac];simp;omega),Aln,Ain,if_neg (by rw[Aq,Ac];simp;omega),Bmg p (by omega),Aa,Aa,Aa]
 simp only
 rw[h2,Aa]
end Go.Pl
set_option linter.unusedVariables false
set_option linter.unusedSimpArgs false
namespace Go.Pl
open Go Go.Lv
def u8(z:Int):UInt8:=UInt8.ofNat (z %256).toNat
theorem Bg8(z:Int):u8 (z %256)=u8 z:=by rw[u8,u8];congr 2;omega
def wB(bits:Int):Nat:=if bits=8 then 1 else if bits=16 then 2 else 3
theorem Bwh{bits:Int}(h:Ch bits):Bq bits 8=(wB bits:Int):=by obtain rfl|rfl|rfl:=h<;>rfl
theorem Bg2(bits:Int):1≤wB bits∧wB bits≤3:=by
 unfold wB;split; · omega
 ·split<;>omega
def Aby(bits:Int)(x:Int):List UInt8:=if bits=8 then [u8 (x+128)]else if bits=16 then [u8 x,u8 (x/256)]else [u8 x,u8 (x/256),u8 (x/65536)]
theorem Bjh(bits x:Int):(Aby bits x).length≤3:=by
 unfold Aby;split; · simp
 ·split<;>simp
theorem Bvk(x:Int32)(k:Nat)(hk:k≤32):(Ae (Bk x k):UInt8)=u8 (x.toInt.fdiv (2^k)):=by
 have h:=Yl x
 have e:Bk x k=Int32.ofInt (x.toInt.fdiv (2^k)):=by
  show Int32.ofInt (x.toInt.fdiv (2^min k 32))=_
  rw[Nat.min_eq_left hk]
 have hb: -2147483648≤x.toInt.fdiv (2^k)∧x.toInt.fdiv (2^k)<2147483648:=by
  have hpos:(0:Int)<2^k:=Int.pow_pos (by omega)
  rw[Int.fdiv_eq_ediv_of_nonneg _ (by omega)]
  constructor
  ·refine(Int.le_ediv_iff_mul_le hpos).2 ?_
   have:(1:Int)≤2^k:=by omega
   have h2: -2147483648*(2^k:Int)≤ -2147483648*1:=Int.mul_le_mul_of_nonpos_left (by omega) this
   omega
  ·refine Int.ediv_lt_of_lt_mul hpos ?_
   have:(1:Int)≤2^k:=by omega
   have h2:(2147483648:Int)*1≤2147483648*2^k:=Int.mul_le_mul_of_nonneg_left this (by omega)
   omega
 show UInt8.ofNat ((Bk x k).toInt %256).toNat=_
 rw[e,Int32.toInt_ofInt,Int.bmod_eq_of_le (by show -(4294967296/2:Int)≤_;omega) (by show _<(4294967296+1)/2;omega)];rfl
section
variable (bk:Int→List UInt8→Option (List UInt8×Int)) (l:List Int32)
theorem Bal{bits:Int}(h:Ch bits)(c:Int32)(x:Int)(i q:Nat)(acc:List UInt8)(hi:i<wB bits)(ha:acc.length≤100000):
  Gh bk bits l c x (q+1) (i:Int) acc=Gh bk bits l c x q ((i+1:Nat):Int) (acc++[u8 (c.toInt.fdiv (2^(8*i)))]):=by
 have hw:=Bg2 bits
 have e8:Ax (8:Int) (i:Int)=((8*i:Nat):Int):=by rw[Fm (by omega) (by omega)];omega
 rw[Gh,Uh,Bwh h,if_pos (by rw[Af];simp;omega),e8,Bz (by rw[Ce];simp;omega),Aa,show(GI.toZ (((8*i:Nat):Int))).toNat=8*i from rfl,Bvk _ _ (by omega),Fc (by simp;omega),Aa,Ag (by omega) (by omega)];rfl
theorem Bnp{bits:Int}(h:Ch bits)(c:Int32)(x:Int)(q:Nat)(acc:List UInt8):Gh bk bits l c x (q+1) ((wB bits:Nat):Int) acc=bk (Ad x 1) acc:=by
 rw[Gh,Uh,Bwh h,if_neg (by rw[Af];simp),Aea,Anp]
theorem Cbn{bits:Int}(h:Ch bits)(c:Int32)(x:Int)(acc:List UInt8)(ha:acc.length≤90000)(hr: -(hB bits)≤c.toInt∧c.toInt<hB bits):
  Ih bk bits l x acc (if bits=8 then Ad c (128:Int32)else c)=bk (Ad x 1) (acc++Aby bits c.toInt):=by
 have e:Am=(Am-4)+1+1+1+1:=by have:=Al;omega
 have hc:=Yl c
 rw[Ih,Ad6,Aef,e]
 have g0:=fun(c:Int32) q acc ha=>Bal bk l h c x 0 q acc (by have:=Bg2 bits;omega) ha
 obtain rfl|rfl|rfl:=h
 ·have hh:hB 8=128:=rfl
  rw[hh]at hr
  have e1:(Ad c (128:Int32)).toInt=c.toInt+128:=by
   show(Int32.ofInt (c.toInt+(128:Int32).toInt)).toInt=_
   rw[show(128:Int32).toInt=128 from rfl,Int32.toInt_ofInt,Int.bmod_eq_of_le (by show -(4294967296/2:Int)≤_;omega) (by show _<(4294967296+1)/2;omega)]
  have g1:=Bnp bk l (bits:=8) (.inl rfl) (Ad c (128:Int32)) x (Am-4+1+1)
  rw[if_pos rfl,show(0:Int)=((0:Nat):Int)from rfl,g0 _ _ _ (by omega)]
  refine Eq.trans (g1 _) ?_
  rw[e1,Aby,if_pos rfl]
  show bk _ (acc++[u8 ((c.toInt+128).fdiv 1)])=_
  rw[Int.fdiv_one]
 ·have g1:=fun q acc ha=>Bal bk l (bits:=16) (.inr (.inl rfl)) c x 1 q acc (by decide) ha
  have g2:=Bnp bk l (bits:=16) (.inr (.inl rfl)) c x (Am-4+1)
  rw[if_neg (by decide),show(0:Int)=((0:Nat):Int)from rfl,g0 _ _ _ (by omega),g1 _ _ (by simp;omega)]
  refine Eq.trans (g2 _) ?_
  rw[Aby,if_neg (by decide),if_pos rfl,List.append_assoc]
  show bk _ (acc++[u8 (c.toInt.fdiv 1),u8 (c.toInt.fdiv 256)])=_
  rw[Int.fdiv_one,Int.fdiv_eq_ediv_of_nonneg _ (by omega)]
 ·have g1:=fun q acc ha=>Bal bk l (bits:=24) (.inr (.inr rfl)) c x 1 q acc (by decide) ha
  have g2:=fun q acc ha=>Bal bk l (bits:=24) (.inr (.inr rfl)) c x 2 q acc (by decide) ha
  have g3:=Bnp bk l (bits:=24) (.inr (.inr rfl)) c x (Am-4)
  rw[if_neg (by decide),show(0:Int)=((0:Nat):Int)from rfl,g0 _ _ _ (by omega),g1 _ _ (by simp;omega),g2 _ _ (by simp;omega)]
  refine Eq.trans (g3 _) ?_
  rw[Aby,if_neg (by decide),if_neg (by decide),List.append_assoc,List.append_assoc]
  show bk _ (acc++[u8 (c.toInt.fdiv 1),u8 (c.toInt.fdiv 256),u8 (c.toInt.fdiv 65536)])=_
  rw[Int.fdiv_one,Int.fdiv_eq_ediv_of_nonneg _ (by omega),Int.fdiv_eq_ediv_of_nonneg _ (by omega)]
end
def bytesB(bits:Int)(l:List Int32):List UInt8:=l.flatMap fun x=>Aby bits x.toInt
theorem Al2(bits:Int):∀l:List Int32,(bytesB bits l).length≤3*l.length
 |[]=>by simp[bytesB]
 |x::l=>by
  have h1:=Al2 bits l
  have h2:=Bjh bits x.toInt
  simp only[bytesB,List.flatMap_cons,List.length_append,List.length_cons]at*
  omega
def inR(bits:Int)(l:List Int32):Prop:=∀x∈l, -(hB bits)≤x.toInt∧x.toInt<hB bits
theorem Bqu{bits:Int}(h:Ch bits)(l:List Int32)(hl:l.length≤4000)(hr:inR bits l):∀(j i q:Nat),i+j=l.length→j<q→Ee bits l q (i:Int) (bytesB bits (l.take i))=some (bytesB bits l,0)
 |0,i,q+1,hi,_=>by
  rw[Ee,Up,if_neg (by rw[Af,Ac];simp;omega),List.take_of_length_le (by omega)];rfl
 |j+1,i,q+1,hi,hq=>by
  have hlt:i<l.length:=by omega
  have ih:=Bqu h l hl hr j (i+1) q (by omega) (by omega)
  have hlen:=Al2 bits (l.take i)
  have hx:=hr l[i] (List.getElem_mem _)
  have h1:=Cbn (Ee bits l q) l h l[i] (i:Int) (bytesB bits (l.take i)) (by rw[List.length_take]at hlen;omega) hx
  rw[Ee,Up,if_pos (by rw[Af,Ac];simp;omega),Ca hlt,Aa]
  have e:(if(geq bits (8:Int))=true then Ih (Ee bits l q) bits l (i:Int) (bytesB bits (l.take i)) (Ad l[i] (128:Int32))else Ih (Ee bits l q) bits l (i:Int) (bytesB bits (l.take i)) l[i])=Ih (Ee bits l q) bits l (i:Int) (bytesB bits (l.take i)) (if bits=8 then Ad l[i] (128:Int32)else l[i]):=by
   by_cases h8:bits=8
   ·rw[if_pos (by rw[Bp];simpa using h8),if_pos h8]
   ·rw[if_neg (by rw[Bp];simpa using h8),if_neg h8]
  rw[e,h1,Ag (by omega) (by omega)]
  rw[Aft hlt]at ih
  have e2:bytesB bits (l.take i++[l[i]])=bytesB bits (l.take i)++Aby bits l[i].toInt:=by unfold bytesB;rw[List.flatMap_append,List.flatMap_singleton]
  rw[e2]at ih
  exact ih
theorem Asq{bits:Int}(h:Ch bits){l:List Int32}(hl:l.length≤4000)(hc:cadenzaref18_Check bits l=some 0):inR bits l:=by
 have hh:=Aya bits
 have key:∀(j i q:Nat),i+j=l.length→j<q→Ba l (hB bits) q (i:Int)=some 0→∀k,i≤k→(hk:k<l.length)→ -(hB bits)≤l[k].toInt∧l[k].toInt<hB bits:=by
  intro j
  induction j with
  |zero=>intro i q hi hq _ k h1 h2;omega
  |succ j ih=>
   intro i q hi hq hs k h1 h2
   obtain⟨q,rfl⟩:∃k,q=k+1:=⟨q-1,by omega⟩
   rw[Ba,Cl,if_pos (by rw[Af,Ac];simp;omega),Ca (by omega),Aa,Aa,Df,Bhv,Bm (by omega) (by omega),Ag (by omega) (by omega),Af,Ce]at hs
   by_cases g1:l[i].toInt<0-hB bits
   ·rw[if_pos (by simpa using g1)]at hs;simp at hs
   ·rw[if_neg (by simpa using g1)]at hs
    by_cases g2:hB bits≤l[i].toInt
    ·rw[if_pos (by simpa using g2)]at hs;simp at hs
    ·rw[if_neg (by simpa using g2)]at hs
     by_cases hk:k=i
     ·subst hk;omega
     ·exact ih (i+1) q (by omega) (by omega) hs k (by omega) h2
 rw[cadenzaref18_Check,Gy,Bda h,Aa,if_neg (by rw[Bp];simp;omega),if_neg (by rw[Aq,Ac];simp;omega)]at hc
 have:=key l.length 0 Am (by omega) (by have:=Al;omega) hc
 intro x hx
 obtain⟨k,hk,rfl⟩:=List.getElem_of_mem hx
 exact this k (by omega) hk
theorem Bd5{bits:Int}(h:Ch bits){l:List Int32}(hl:l.length≤4000)(hc:cadenzaref18_Check bits l=some 0):width_Bytes bits l=some (bytesB bits l,0):=by
 have h1:=Bqu h l hl (Asq h hl hc) l.length 0 Am (by omega) (by have:=Al;omega)
 rw[width_Bytes,Aha,Bco h l hl,hc,Aa,if_neg (by rw[Aj];simp)]
 exact h1
theorem Byv{bits:Int}(h:Ch bits)(x:Int32)(hr: -(hB bits)≤x.toInt∧x.toInt<hB bits):Abk bits x=some (Aby bits x.toInt):=by
 have hx:=Yl x
 have gu:∀z:Int,(Ae z:UInt8)=u8 z:=fun z=>rfl
 have hq:∀n:Int,0≤n→n≤20000000→Bq n (256:Int)=n/256∧Bq n (65536:Int)=n/65536:=by
  intro n h1 h2
  constructor<;>(rw[Aem,Int.tdiv_eq_ediv_of_nonneg h1,Bm (by omega) (by omega)])
 have hm:∀n:Int,0≤n→Fa n (256:Int)=n %256:=fun n h1=>by rw[Fa,Int.tmod_eq_emod_of_nonneg h1]
 rw[Abk,Afa,Df]
 obtain rfl|rfl|rfl:=h
 ·rw[if_pos (by rw[Bp];rfl),Ag (by omega) (by omega),gu,Aby,if_pos rfl]
 ·have hh:hB 16=32768:=rfl
  rw[hh]at hr
  have hp:∀n:Int,0≤n→n≤70000→u8 n=u8 x.toInt→u8 (n/256)=u8 (x.toInt/256)→Il 16 n=some (Aby 16 x.toInt):=by
   intro n h1 h2 h3 h4
   rw[Il,Sm,if_neg (by rw[Bp];decide),hm n h1,(hq n h1 (by omega)).1,hm _ (by omega),gu,gu,Bg8,Bg8,h3,h4,Aby,if_neg (by decide),if_pos rfl]
  rw[if_neg (by rw[Bp];decide)]
  by_cases hn:x.toInt<0
  ·rw[if_pos (by rw[Af];simpa using hn),Bda (.inr (.inl rfl)),Aa,hh,Fm (by omega) (by omega),Ag (by omega) (by omega)]
   refine hp _ (by omega) (by omega) ?_ ?_
   ·rw[u8,u8];congr 2;omega
   ·rw[u8,u8];congr 2;omega
  ·rw[if_neg (by rw[Af];simpa using hn)]
   exact hp _ (by omega) (by omega) rfl rfl
 ·have hh:hB 24=8388608:=rfl
  rw[hh]at hr
  have hp:∀n:Int,0≤n→n≤16777215→u8 n=u8 x.toInt→u8 (n/256)=u8 (x.toInt/256)→u8 (n/65536)=u8 (x.toInt/65536)→Il 24 n=some (Aby 24 x.toInt):=by
   intro n h1 h2 h3 h4 h5
   rw[Il,Sm,if_pos (by rw[Bp];rfl),hm n h1,(hq n h1 (by omega)).1,(hq n h1 (by omega)).2,hm _ (by omega),gu,gu,gu,Bg8,Bg8,h3,h4,h5,Fc (by simp),Aa,Aby,if_neg (by decide),if_neg (by decide)];rfl
  rw[if_neg (by rw[Bp];decide)]
  by_cases hn:x.toInt<0
  ·rw[if_pos (by rw[Af];simpa using hn),Bda (.inr (.inr rfl)),Aa,hh,Fm (by omega) (by omega),Ag (by omega) (by omega)]
   refine hp _ (by omega) (by omega) ?_ ?_ ?_
   ·rw[u8,u8];congr 2;omega
   ·rw[u8,u8];congr 2;omega
   ·rw[u8,u8];congr 2;omega
  ·rw[if_neg (by rw[Af];simpa using hn)]
   exact hp _ (by omega) (by omega) rfl rfl rfl
theorem Bo3{bits:Int}(h:Ch bits)(l:List Int32)(hl:l.length≤4000)(hr:inR bits l):∀(j i q:Nat),i+j=l.length→j<q→Gp bits l q (i:Int) (bytesB bits (l.take i))=some (bytesB bits l,0)
 |0,i,q+1,hi,_=>by
  rw[Gp,Om,if_neg (by rw[Af,Ac];simp;omega),List.take_of_length_le (by omega)];rfl
 |j+1,i,q+1,hi,hq=>by
  have hlt:i<l.length:=by omega
  have ih:=Bo3 h l hl hr j (i+1) q (by omega) (by omega)
  have hlen:=Al2 bits (l.take i)
  have hol:=Bjh bits l[i].toInt
  rw[List.length_take]at hlen
  have e2:bytesB bits (l.take i++[l[i]])=bytesB bits (l.take i)++Aby bits l[i].toInt:=by unfold bytesB;rw[List.flatMap_append,List.flatMap_singleton]
  rw[Aft hlt,e2]at ih
  rw[Gp,Om,if_pos (by rw[Af,Ac];simp;omega),Ca hlt,Aa,Byv h _ (hr l[i] (List.getElem_mem _)),Aa,Fc (by omega),Aa,Ag (by omega) (by omega)]
  exact ih
theorem Bso{bits:Int}(h:Ch bits){l:List Int32}(hl:l.length≤4000)(hc:cadenzaref18_Check bits l=some 0):Vp bits l=some (bytesB bits l,0):=by
 have h1:=Bo3 h l hl (Asq h hl hc) l.length 0 Am (by omega) (by have:=Al;omega)
 rw[Vp,Aa8,hc,Aa,if_neg (by rw[Aj];simp)]
 exact h1
end Go.Pl
set_option linter.unusedVariables false
set_option linter.unusedSimpArgs false
namespace Go.Pl
open Go Go.Lv
def Alk:List UInt8→Nat→Int×Int
 |[],n=>((n:Int),0)
 |c::r,n=>if 128≤c.toNat then(0,12)else Alk r (128*n+c.toNat)
theorem Bqg:∀(l:List UInt8) (n k:Nat),n<128^k→0≤(Alk l n).1∧(Alk l n).1<((128^(k+l.length):Nat):Int)
 |[],n,k,h=>by simp[Alk];exact_mod_cast h
 |c::r,n,k,h=>by
  rw[Alk]
  split
  ·have:0<128^(k+(c::r).length):=Nat.pow_pos (by omega)
   exact⟨Int.le_refl _,by simp only;exact_mod_cast this⟩
  ·have:=Bqg r (128*n+c.toNat) (k+1) (by rw[Nat.pow_succ];omega)
   rw[List.length_cons,show k+(r.length+1)=k+1+r.length by omega]
   exact this
theorem or7(n c:Nat)(hn:n<268435456)(hc:c<128):gor (Cr (n:Int) (GI.toZ (7:UInt64)).toNat) (c:Int)=((128*n+c:Nat):Int):=by
 have e:(GI.toZ (7:UInt64)).toNat=7:=rfl
 have h1:Cr (n:Int) 7=((2^7*n:Nat):Int):=by
  have:Cr (n:Int) 7=wrap64 ((n:Int)*2^7):=rfl
  rw[this,Bm (by omega) (by omega)];omega
 rw[e,h1]
 have h2:gor ((2^7*n:Nat):Int) (c:Int)=wrap64 ((BitVec.ofInt 64 ((2^7*n:Nat):Int)|||BitVec.ofInt 64 (c:Int)).toNat:Int):=rfl
 rw[h2,BitVec.toNat_or,BitVec.toNat_ofInt,BitVec.toNat_ofInt]
 have h3:(((2^7*n:Nat):Int) %((2^64:Nat):Int)).toNat=2^7*n:=by omega
 have h4:((c:Int) %((2^64:Nat):Int)).toNat=c:=by omega
 rw[h3,h4,←Nat.two_pow_add_eq_or_of_lt (by simpa using hc),Bm (by omega) (by omega)]
theorem Bpy(b:List UInt8)(hb:b.length=4):∀(j i q n:Nat),i+j=4→j<q→n<128^i→Jc b q (n:Int) (i:Int)=some (Alk (b.drop i) n)
 |0,i,q+1,n,hi,_,_=>by
  rw[Jc,Rr,if_neg (by rw[Af,Ac];simp;omega),show b.drop i=[] by simp;omega];rfl
 |j+1,i,q+1,n,hi,hq,hn=>by
  have hlt:i<b.length:=by omega
  have hn2:n<268435456:=Nat.lt_of_lt_of_le hn (show 128^i≤128^4 from Nat.pow_le_pow_right (by omega) (by omega))
  rw[Jc,Rr,if_pos (by rw[Af,Ac];simp;omega),Ca hlt,Aa,drop_cons hlt,Alk,Bwj]
  by_cases hc:128≤b[i].toNat
  ·rw[if_pos (by simp;omega),if_pos hc]
  ·rw[if_neg (by simp;omega),if_neg hc,Afx,or7 n _ hn2 (by omega),Ag (by omega) (by omega)]
   exact Bpy b hb j (i+1) q _ (by omega) (by omega) (by rw[Nat.pow_succ];omega)
theorem Bwl(b:List UInt8)(hb:b.length=4):∀(j i q n:Nat),i+j=4→j<q→n<128^i→Hb b q (n:Int) (i:Int)=some (Alk (b.drop i) n)
 |0,i,q+1,n,hi,_,_=>by
  rw[Hb,Ou,if_neg (by rw[Af];simp;omega),show b.drop i=[] by simp;omega];rfl
 |j+1,i,q+1,n,hi,hq,hn=>by
  have hlt:i<b.length:=by omega
  have hn2:n<268435456:=Nat.lt_of_lt_of_le hn (show 128^i≤128^4 from Nat.pow_le_pow_right (by omega) (by omega))
  rw[Hb,Ou,if_pos (by rw[Af];simp;omega),Ca hlt,Aa,drop_cons hlt,Alk,Btn]
  have h128:(128:UInt8).toNat=128:=rfl
  by_cases hc:128≤b[i].toNat
  ·rw[if_pos (by simpa using hc),if_pos hc]
  ·have h3:=b[i].toNat_lt
   rw[if_neg (by simpa using hc),if_neg hc,Aa,Afx,Fm (by omega) (by omega),Ag (by omega) (by omega),Ag (by omega) (by omega)]
   have:=Bwl b hb j (i+1) q (128*n+b[i].toNat) (by omega) (by omega) (by rw[Nat.pow_succ];omega)
   rw[←this];rfl
theorem Bn0(b:List UInt8)(hb:b.length=4):Ab4 b=some (Alk b 0):=by
 have h:=Bpy b hb 4 0 Am 0 (by omega) (by have:=Al;omega) (by simp)
 rw[Ab4,Aba,if_neg (by rw[Aj,Ac];simp;omega),Abe];exact h
theorem Bsb(b:List UInt8)(hb:b.length=4):Vm b=some (Alk b 0):=by
 have h:=Bwl b hb 4 0 Am 0 (by omega) (by have:=Al;omega) (by simp)
 rw[Vm,Aat,if_neg (by rw[Aj,Ac];simp;omega),Aao];exact h
theorem Bn3{b:List UInt8}(hb:b.length=4):0≤(Alk b 0).1∧(Alk b 0).1<268435456:=by
 have:=Bqg b 0 0 (by simp)
 rw[hb]at this
 simpa using this
theorem Alw(s p:List UInt8):Ib s p=some (decide (p.length≤s.length∧s.take p.length=p)):=by
 rw[Ib]
 by_cases h:p.length≤s.length
 ·rw[if_pos (by rw[Ce,Ac,Ac];simp;omega),show Ac p=(p.length:Int)from rfl,Iw (by omega) (by omega),Aa,Fj,Aa,Int.toNat_natCast]
  congr 1
  rw[Bool.eq_iff_iff];simp[h]
 ·rw[if_neg (by rw[Ce,Ac,Ac];simp;omega)]
  simp[h]
def Atf(b:List UInt8)(n:Int):Int×Int:=
 if 4000<n then(0,4)else if(b.length:Int)<n then(0,24)else
 if b.getD 5 0=16∧(b.take n.toNat).drop (n-10).toNat≠ [51,68,73]++part b 3 7 then(0,12)else(n,0)
def Bgw(b:List UInt8)(r:Int):Int×Int:=Atf b (r+10+(if b.getD 5 0=16 then 10 else 0))
def Aob(b:List UInt8):Int×Int:=
 if ¬(3≤b.length∧b.take 3=[73,68,51])then(0,6)else if b.length<10 then(0,24)else
 if(Alk (part b 6 4) 0).2≠0∨b.getD 4 0≠0∨¬((b.getD 5 0=0∧2≤(b.getD 3 0).toNat∧(b.getD 3 0).toNat≤4)∨(b.getD 5 0=16∧b.getD 3 0=4))then(0,12)else
 Bgw b (Alk (part b 6 4) 0).1
theorem Au9{b:List UInt8}{i:Nat}(h:i<b.length):getI b (i:Int)=some (b.getD i 0):=by
 rw[Ca h];simp[List.getD_eq_getElem?_getD,h]
theorem Kz{b:List UInt8}(a w:Nat)(h:a+w≤b.length):Bo b (a:Int) ((a+w:Nat):Int)=some (part b a w):=by
 rw[Oo (by omega) (by omega) (by omega)];rfl
theorem Bw5(b:List UInt8)(r:Int)(h10:10≤b.length)(h0:0≤r)(h1:r<268435456):Rf b r=some (Bgw b r):=by
 have g5:getI b (5:Int)=some (b.getD 5 0):=Au9 (i:=5) (by omega)
 have key:∀n:Int,10≤n→n<268435500→Qs b n=some (Atf b n):=by
  intro n hn hn2
  rw[Qs,Acr,Atf]
  by_cases c1:4000<n
  ·rw[if_pos (by rw[Aq];simpa using c1),if_pos c1]
  ·rw[if_neg (by rw[Aq];simpa using c1),if_neg c1]
   by_cases c2:(b.length:Int)<n
   ·rw[if_pos (by rw[Af,Ac];simpa using c2),if_pos c2]
   ·have e3:Bo b (3:Int) (10:Int)=some (part b 3 7):=Kz 3 7 (by omega)
    rw[if_neg (by rw[Af,Ac];simpa using c2),if_neg c2,g5,Aa]
    by_cases c3:b.getD 5 0=16
    ·rw[if_pos (by rw[Amy];simpa using c3),Bi (by omega) (by omega),Oo (by omega) (by omega) (by omega),Aa,e3,Aa,Fc (by rw[Ck (by omega)];simp),Aa]
     by_cases c4:(b.take n.toNat).drop (n-10).toNat=[51,68,73]++part b 3 7
     ·rw[if_neg (by simpa using c4),if_neg (by intro h;exact h.2 c4)]
     ·rw[if_pos (by simpa using c4),if_pos ⟨c3,c4⟩]
    ·rw[if_neg (by rw[Amy];simpa using c3),if_neg (fun h=>c3 h.1)]
 rw[Rf,Ada,g5,Aa,Bgw]
 by_cases c3:b.getD 5 0=16
 ·rw[if_pos (by rw[Amy];simpa using c3),Ag (by rw[Ag]<;>omega) (by rw[Ag]<;>omega),Ag (by omega) (by omega),key _ (by omega) (by omega),if_pos c3,show 10+r+10=r+10+10 by omega]
 ·rw[if_neg (by rw[Amy];simpa using c3),Ag (by omega) (by omega),key _ (by omega) (by omega),if_neg c3,show 10+r=r+10+0 by omega]
theorem Buc(b:List UInt8)(hb:b.length<4611686018427387904):Zy b=some (Aob b):=by
 rw[Zy,Adm,Aob]
 by_cases h3:3≤b.length
 ·rw[if_neg (by rw[Af,Ac];simp;omega),Iw (by omega) (by omega),Aa]
  by_cases hp:b.take 3=[73,68,51]
  ·rw[if_neg (by simpa using hp),if_neg (by simp[h3,hp]),Adu,Ac2]
   by_cases h10:b.length<10
   ·rw[if_pos (by rw[Af,Ac];simp;omega),if_pos h10]
   ·have e6:Bo b (6:Int) (10:Int)=some (part b 6 4):=Kz 6 4 (by omega)
    have g3:getI b (3:Int)=some (b.getD 3 0):=Au9 (i:=3) (by omega)
    have g4:getI b (4:Int)=some (b.getD 4 0):=Au9 (i:=4) (by omega)
    have g5:getI b (5:Int)=some (b.getD 5 0):=Au9 (i:=5) (by omega)
    obtain⟨v1,v2⟩:=Bn3 (b:=part b 6 4) (Ck (by omega))
    rw[if_neg (by rw[Af,Ac];simp;omega),if_neg h10,e6,Aa,Bsb _ (Ck (by omega)),Aa]
    have ht:=Bw5 b (Alk (part b 6 4) 0).1 (by omega) v1 v2
    generalize Alk (part b 6 4) 0=v at*
    obtain⟨v,e⟩:=v
    simp only at ht v1 v2⊢
    simp only[Aa,g3,g4,g5,ht]
    generalize b.getD 3 0=x at*
    generalize b.getD 4 0=y at*
    generalize b.getD 5 0=z at*
    simp only[Boa,Cci,Bwj,Aj]
    by_cases he:e=0<;>by_cases hy:y=0<;>by_cases hz:z=0<;>by_cases hz2:z=16<;>by_cases hx:x=4<;>by_cases hx2:x.toNat<2<;>by_cases hx4:4<x.toNat<;>simp_all<;>(rw[if_neg (by omega),if_neg (by omega)])
  ·rw[if_pos (by simpa using hp),if_pos (by simp[hp])]
 ·rw[if_pos (by rw[Af,Ac];simp;omega),if_pos (by simp[h3])]
theorem Bfr(b:List UInt8)(n:Int)(h10:10≤b.length)(hn:10≤n)(hn2:n<268435500):Uj b (b.getD 5 0) n=some (Atf b n):=by
 rw[Uj,An6]
 by_cases c1:4000<n
 ·rw[if_pos (by rw[Aq];simpa using c1),Atf,if_pos c1]
 ·rw[if_neg (by rw[Aq];simpa using c1)]
  by_cases c2:(b.length:Int)<n
  ·rw[if_pos (by rw[Af,Ac];simpa using c2),Atf,if_neg c1,if_pos c2]
  ·have e3:Bo b (3:Int) (10:Int)=some (part b 3 7):=Kz 3 7 (by omega)
   rw[if_neg (by rw[Af,Ac];simpa using c2)]
   by_cases c3:b.getD 5 0=16
   ·have hl:((b.take n.toNat).drop (n-10).toNat).length=10:=by simp;omega
    have ht:Atf b n=if(b.take n.toNat).drop (n-10).toNat≠ [51,68,73]++part b 3 7 then(0,12)else(n,0):=by rw[Atf,if_neg c1,if_neg c2];simp only[c3,true_and]
    rw[if_pos (by rw[Amy];simpa using c3),Bi (by omega) (by omega),Oo (by omega) (by omega) (by omega),Aa,ht]
    generalize(b.take n.toNat).drop (n-10).toNat=f at*
    rw[Iw (by omega) (by omega),Aa,Ge (by omega) (by omega),Aa,e3,Aa,Fj,Aa]
    have hf:f=f.take 3++f.drop 3:=(List.take_append_drop 3 f).symm
    by_cases c4:f=[51,68,73]++part b 3 7
    ·subst c4
     simp
    ·by_cases c5:f.take 3=[51,68,73]
     ·have:f.drop 3≠part b 3 7:=fun h=>c4 (by rw[hf,c5,h])
      simp only[List.cons_append,List.nil_append]at c4
      simp[c4,c5,this]
     ·simp only[List.cons_append,List.nil_append]at c4
      simp[c4,c5]
   ·rw[if_neg (by rw[Amy];simpa using c3),Atf,if_neg c1,if_neg c2,if_neg (fun h=>c3 h.1)]
theorem Bv0(b:List UInt8)(r:Int)(h10:10≤b.length)(h0:0≤r)(h1:r<268435456):Uk b r (b.getD 5 0)=some (Bgw b r):=by
 rw[Uk,Aei,Bgw]
 by_cases c3:b.getD 5 0=16
 ·rw[if_pos (by rw[Amy];simpa using c3),Ag (by rw[Ag]<;>omega) (by rw[Ag]<;>omega),Ag (by omega) (by omega),Bfr b _ h10 (by omega) (by omega),if_pos c3]
 ·rw[if_neg (by rw[Amy];simpa using c3),Ag (by omega) (by omega),Bfr b _ h10 (by omega) (by omega),if_neg c3];simp
theorem Bq5(b:List UInt8)(hb:b.length<4611686018427387904):Afk b=some (Aob b):=by
 rw[Afk,Ui,Alw,Aa]
 by_cases hp:3≤b.length∧b.take 3=[73,68,51]
 ·rw[if_neg (by simpa using hp)]
  by_cases h10:b.length<10
  ·rw[if_pos (by rw[Af,Ac];simp;omega),Aob,if_neg (fun h=>h hp),if_pos h10]
  ·have e6:Bo b (6:Int) (10:Int)=some (part b 6 4):=Kz 6 4 (by omega)
   have g3:getI b (3:Int)=some (b.getD 3 0):=Au9 (i:=3) (by omega)
   have g4:getI b (4:Int)=some (b.getD 4 0):=Au9 (i:=4) (by omega)
   have g5:getI b (5:Int)=some (b.getD 5 0):=Au9 (i:=5) (by omega)
   obtain⟨v1,v2⟩:=Bn3 (b:=part b 6 4) (Ck (by omega))
   have ht:=Bv0 b (Alk (part b 6 4) 0).1 (by omega) v1 v2
   rw[if_neg (by rw[Af,Ac];simp;omega),g3,Aa,g5,Aa,Ad7,Ad4,e6,Aa,Bn0 _ (Ck (by omega)),Aa,Aob,if_neg (fun h=>h hp),if_neg h10]
   generalize Alk (part b 6 4) 0=v at*
   obtain⟨v,e⟩:=v
   simp only at ht v1 v2⊢
   simp only[Aa,g4,Aer,Aeb]
   generalize b.getD 3 0=x at*
   generalize b.getD 4 0=y at*
   generalize b.getD 5 0=z at*
   simp only[Boa,Cbz,Amy,Btn,Aj]
   have e2:(2:UInt8).toNat=2:=rfl
   have e4:(4:UInt8).toNat=4:=rfl
   by_cases he:e=0<;>by_cases hy:y=0<;>by_cases hz:z=0<;>by_cases hz2:z=16<;>by_cases hx:x=4<;>by_cases hx2:2≤x.toNat<;>by_cases hx4:x.toNat≤4<;>simp_all
 ·rw[if_pos (by rw[Bool.not_eq_true',decide_eq_false_iff_not];exact hp),Aob,if_pos hp]
theorem Bv4{b:List UInt8}{n:Int}(h:Aob b=(n,0)):10≤n∧n≤b.length∧n≤4000:=by
 unfold Aob at h
 split at h; · simp at h
 split at h; · simp at h
 split at h; · simp at h
 rename_i h10 _
 obtain⟨v1,v2⟩:=Bn3 (b:=part b 6 4) (Ck (by omega))
 unfold Bgw at h
 generalize hm:(Alk (part b 6 4) 0).1+10+(if b.getD 5 0=16 then 10 else 0)=m at h
 unfold Atf at h
 split at h; · simp at h
 split at h; · simp at h
 split at h; · simp at h
 simp only[Prod.mk.injEq,and_true]at h
 subst h
 refine⟨?_,by omega,by omega⟩
 rw[←hm]
 split<;>omega
end Go.Pl
set_option linter.unusedVariables false
set_option linter.unusedSimpArgs false
namespace Go.Pl
open Go Go.Lv
def APE:List UInt8:=[65,80,69,84,65,71,69,88]
def Ke(n m fl:Nat):List UInt8:=APE++leB 2000 4++leB (n+32) 4++leB m 4++leB fl 4++List.replicate 8 0
theorem Ait{n:Nat}(h:n<18446744073709551616):(UInt64.ofNat n).toNat=n:=by rw[UInt64.toNat_ofNat',Nat.mod_eq_of_lt h]
theorem Ast(n m:Int)(fl:UInt64)(c:UInt64)(i q:Nat)(acc:List UInt8)(hi:i<6)(hc:getI ([(2000:UInt64),(Ae (Ad n (32:Int)):UInt64),(Ae m:UInt64),fl,(0:UInt64),(0:UInt64)]:List UInt64) (i:Int)=some c)(h:c.toNat<4294967296)(ha:acc.length≤1000000):
  Uq n m fl (q+1) (i:Int) acc=Uq n m fl q ((i+1:Nat):Int) (acc++leB c.toNat 4):=by
 have hb:=Bl3 c 4 (by omega) (by omega) (by simpa using h)
 rw[Uq,Anf,if_pos (by rw[Af,Ac];simp;omega),hc,Aa,Aa,show((4:Int))=((4:Nat):Int)from rfl,hb,Aa]
 simp only
 rw[Fc (by rw[Kw];omega),Aa,Ag (by omega) (by omega)];rfl
theorem Bbc(n m:Nat)(fl:UInt64)(hn:n≤3000)(hm:m≤1000)(hf:fl.toNat<4294967296):Asl (n:Int) (m:Int) fl=some (Ke n m fl.toNat):=by
 have e1:(Ae (Ad (n:Int) (32:Int)):UInt64).toNat=n+32:=by rw[Ag (by omega) (by omega),show(n:Int)+32=((n+32:Nat):Int) by omega,We,Ait (by omega)]
 have e2:(Ae (m:Int):UInt64).toNat=m:=by rw[We,Ait (by omega)]
 have hF:Am=(Am-7)+1+1+1+1+1+1+1:=by have:=Al;omega
 rw[Asl,Avc,Au0,hF]
 rw[show((0:Int))=((0:Nat):Int)from rfl,Ast n m fl 2000 0 _ _ (by omega) rfl (by decide) (by simp),Ast n m fl _ 1 _ _ (by omega) rfl (by rw[e1];omega) (by simp[Kw]),Ast n m fl _ 2 _ _ (by omega) rfl (by rw[e2];omega) (by simp[Kw]),
  Ast n m fl fl 3 _ _ (by omega) rfl hf (by simp[Kw]),Ast n m fl 0 4 _ _ (by omega) rfl (by decide) (by simp[Kw]),Ast n m fl 0 5 _ _ (by omega) rfl (by decide) (by simp[Kw]),e1,e2]
 rw[Uq,Anf,if_neg (by rw[Af,Ac];simp),Au1,Bcp,Ke]
 have z:leB (0:UInt64).toNat 4++leB (0:UInt64).toNat 4=List.replicate 8 0:=by decide
 have z2:leB (2000:UInt64).toNat 4=leB 2000 4:=rfl
 rw[List.append_assoc _ (leB (0:UInt64).toNat 4),z,z2];rfl
theorem Awa(n m:Nat)(fl:UInt64)(hn:n≤3000)(hm:m≤1000)(hf:fl.toNat<4294967296):Mj (n:Int) (m:Int) fl=some (Ke n m fl.toNat):=by
 have e1:(Ae (Ad (n:Int) (32:Int)):UInt64).toNat=n+32:=by rw[Ag (by omega) (by omega),show(n:Int)+32=((n+32:Nat):Int) by omega,We,Ait (by omega)]
 have e2:(Ae (m:Int):UInt64).toNat=m:=by rw[We,Ait (by omega)]
 have w:∀c:UInt64,Ct c 4=some (leB c.toNat 4):=fun c=>Beq c 4 (by omega)
 have z2:leB (2000:UInt64).toNat 4=leB 2000 4:=rfl
 rw[Mj]
 simp only[w,e1,e2,Aa]
 rw[Fc (by simp[Kw]),Aa,Fc (by simp[Kw]),Aa,Fc (by simp[Kw]),Aa,Fc (by simp[Kw]),Aa,Bdf (by omega) (by omega),Aa,Fc (by simp[Kw]),Aa,z2];rfl
theorem Afu{b:List UInt8}{a w k:Nat}(h:a+w≤k):part (b.take k) a w=part b a w:=by rw[part,part,List.take_take,Nat.min_eq_left h]
def Acn(b:List UInt8):Bool:=decide (Di (part b 12 4)<32∨3032<Di (part b 12 4)∨1000<Di (part b 16 4))
theorem Bwc(b:List UInt8)(h:20≤b.length):(((Bt (leU (part b 12 4)) (32:UInt64))||(El (leU (part b 12 4)) (3032:UInt64)))||(El (leU (part b 16 4)) (1000:UInt64)))=Acn b:=by
 rw[Bay,Ajh,Ajh,Aiw (by rw[Ck (by omega)];omega),Aiw (by rw[Ck (by omega)];omega),Acn]
 show((decide (Di (part b 12 4)<32)||decide (3032<Di (part b 12 4)))||decide (1000<Di (part b 16 4)))=_
 simp[Bool.or_assoc]
theorem Ayl(b:List UInt8)(h:20≤b.length)(hb:Acn b=false):Ah (Ae (leU (part b 12 4)):Int) (32:Int)=((Di (part b 12 4)-32:Nat):Int)∧(Ae (leU (part b 16 4)):Int)=((Di (part b 16 4):Nat):Int)∧Di (part b 12 4)-32≤3000∧Di (part b 16 4)≤1000:=by
 simp only[Acn,decide_eq_false_iff_not]at hb
 refine⟨?_,Aca (by rw[Ck (by omega)];omega),by omega,by omega⟩
 rw[Aca (by rw[Ck (by omega)];omega),Bi (by omega) (by omega)];omega
theorem Am6(b:List UInt8)(fl:UInt64)(h:20≤b.length)(hl:b.length<4611686018427387904)(hf:fl.toNat<4294967296):
  Afy b fl=some (if Acn b=true then(0,0,false)else(((Di (part b 12 4)-32:Nat):Int),((Di (part b 16 4):Nat):Int),b==Ke (Di (part b 12 4)-32) (Di (part b 16 4)) fl.toNat)):=by
 have a1:Ali b 12 4=some (leU (part b 12 4),0):=Bgn b 12 4 (by omega) (by omega) (by omega) hl
 have a2:Ali b 16 4=some (leU (part b 16 4),0):=Bgn b 16 4 (by omega) (by omega) (by omega) hl
 rw[Afy,a1,Aa]
 simp only
 rw[a2,Aa]
 simp only
 rw[Bwc b h]
 cases hb:Acn b with
 |true=>rfl
 |false=>
  obtain⟨i1,i2,i3,i4⟩:=Ayl b h hb
  rw[i1,i2,Bbc _ _ _ i3 i4 hf]
  rfl
theorem Bjz(b:List UInt8)(h:20≤b.length)(hl:b.length<4611686018427387904):
  Pq b=some (if Acn b=true then(0,0,false)else(((Di (part b 12 4)-32:Nat):Int),((Di (part b 16 4):Nat):Int),true)):=by
 have a1:Bo b 12 16=some (part b 12 4):=Kz 12 4 (by omega)
 have a2:Bo b 16 20=some (part b 16 4):=Kz 16 4 (by omega)
 rw[Pq,a1,Aa,Bl4 _ (by rw[Ck (by omega)];omega),Aa,a2,Aa,Bl4 _ (by rw[Ck (by omega)];omega),Aa,Bwc b h]
 cases hb:Acn b with
 |true=>rfl
 |false=>
  obtain⟨i1,i2,i3,i4⟩:=Ayl b h hb
  rw[i1,i2];rfl
def Mz(b:List UInt8):Int×Int:=
 if ¬(8≤b.length∧b.take 8=APE)then(0,6)else if b.length<32 then(0,24)else
 if Acn b=true∨b.take 32≠Ke (Di (part b 12 4)-32) (Di (part b 16 4)) 2684354560 then(0,12)else
 if b.length<Di (part b 12 4)+32 then(0,24)else
 if(b.take (Di (part b 12 4)+32)).drop (Di (part b 12 4))≠Ke (Di (part b 12 4)-32) (Di (part b 16 4)) 2147483648 then(0,12)else(((Di (part b 12 4)+32:Nat):Int),0)
theorem Bkh(b:List UInt8):Acn (b.take 32)=Acn b:=by rw[Acn,Acn,Afu (by omega),Afu (by omega)]
section
variable {b:List UInt8}
theorem fa1(h:¬(8≤b.length∧b.take 8=APE)):Mz b=(0,6):=by rw[Mz,if_pos h]
theorem fa2(h:8≤b.length∧b.take 8=APE)(h2:b.length<32):Mz b=(0,24):=by rw[Mz,if_neg (fun h'=>h' h),if_pos h2]
variable (h:8≤b.length∧b.take 8=APE) (h2:¬b.length<32)
include h h2
theorem fa3(h3:Acn b=true):Mz b=(0,12):=by rw[Mz,if_neg (fun h'=>h' h),if_neg h2,if_pos (.inl h3)]
theorem fa4(h4:b.take 32≠Ke (Di (part b 12 4)-32) (Di (part b 16 4)) 2684354560):Mz b=(0,12):=by rw[Mz,if_neg (fun h'=>h' h),if_neg h2,if_pos (.inr h4)]
variable (h3:Acn b=false) (h4:b.take 32=Ke (Di (part b 12 4)-32) (Di (part b 16 4)) 2684354560)
include h3 h4
theorem fa5(h5:b.length<Di (part b 12 4)+32):Mz b=(0,24):=by
 rw[Mz,if_neg (fun h'=>h' h),if_neg h2,if_neg (fun h'=>h'.elim (fun e=>by rw[h3]at e;cases e) fun e=>e h4),if_pos h5]
theorem fa6(h5:¬b.length<Di (part b 12 4)+32)(h6:(b.take (Di (part b 12 4)+32)).drop (Di (part b 12 4))≠Ke (Di (part b 12 4)-32) (Di (part b 16 4)) 2147483648):Mz b=(0,12):=by
 rw[Mz,if_neg (fun h'=>h' h),if_neg h2,if_neg (fun h'=>h'.elim (fun e=>by rw[h3]at e;cases e) fun e=>e h4),if_neg h5,if_pos h6]
theorem fa7(h5:¬b.length<Di (part b 12 4)+32)(h6:(b.take (Di (part b 12 4)+32)).drop (Di (part b 12 4))=Ke (Di (part b 12 4)-32) (Di (part b 16 4)) 2147483648):Mz b=(((Di (part b 12 4)+32:Nat):Int),0):=by
 rw[Mz,if_neg (fun h'=>h' h),if_neg h2,if_neg (fun h'=>h'.elim (fun e=>by rw[h3]at e;cases e) fun e=>e h4),if_neg h5,if_neg (fun h'=>h' h6)]
end
theorem Bnj(b:List UInt8)(hl:b.length<4611686018427387904):Asi b=some (Mz b):=by
 rw[Asi,Alw,Aa]
 by_cases hp:8≤b.length∧b.take 8=APE
 ·rw[if_neg (by simpa [APE]using hp)]
  by_cases h32:b.length<32
  ·rw[if_pos (by rw[Af,Ac];simp;omega),fa2 hp h32]
  ·have t:=Am6 (b.take 32) 2684354560 (by simp;omega) (by simp;omega) (by decide)
   rw[Bkh,Afu (by omega),Afu (by omega)]at t
   rw[if_neg (by rw[Af,Ac];simp;omega),Iw (by omega) (by omega),Aa,show(32:Int).toNat=32 from rfl,t,Aa]
   cases hb:Acn b with
   |true=>rw[fa3 hp h32 hb];simp
   |false=>
    obtain⟨i1,i2,i3,i4⟩:=Ayl b (by omega) hb
    have i5:32≤Di (part b 12 4):=by simp only[Acn,decide_eq_false_iff_not]at hb;omega
    simp only[Bool.false_eq_true,if_false,false_or]
    by_cases c1:b.take 32=Ke (Di (part b 12 4)-32) (Di (part b 16 4)) 2684354560
    ·have c1':b.take 32=Ke (Di (part b 12 4)-32) (Di (part b 16 4)) (2684354560:UInt64).toNat:=c1
     rw[if_neg (by simpa using c1'),Ag (by omega) (by omega)]
     have e1:((Di (part b 12 4)-32:Nat):Int)+64=((Di (part b 12 4)+32:Nat):Int):=by omega
     rw[e1]
     by_cases c2:b.length<Di (part b 12 4)+32
     ·rw[if_pos (by rw[Af,Ac];simp;omega),fa5 hp h32 hb c1 c2]
     ·rw[if_neg (by rw[Af,Ac];simp;omega),Bi (by omega) (by omega),Oo (by omega) (by omega) (by omega),Aa,Bbc _ _ _ i3 i4 (by decide),Aa,Fj,Aa]
      rw[show(((Di (part b 12 4)+32:Nat):Int)).toNat=Di (part b 12 4)+32 by omega,show(((Di (part b 12 4)+32:Nat):Int)-32).toNat=Di (part b 12 4) by omega]
      by_cases c3:(b.take (Di (part b 12 4)+32)).drop (Di (part b 12 4))=Ke (Di (part b 12 4)-32) (Di (part b 16 4)) 2147483648
      ·have c3':(b.take (Di (part b 12 4)+32)).drop (Di (part b 12 4))=Ke (Di (part b 12 4)-32) (Di (part b 16 4)) (2147483648:UInt64).toNat:=c3
       rw[if_neg (by simpa using c3'),fa7 hp h32 hb c1 c2 c3]
      ·have c3':¬(b.take (Di (part b 12 4)+32)).drop (Di (part b 12 4))=Ke (Di (part b 12 4)-32) (Di (part b 16 4)) (2147483648:UInt64).toNat:=c3
       rw[if_pos (by simpa using c3'),fa6 hp h32 hb c1 c2 c3]
    ·have c1':¬b.take 32=Ke (Di (part b 12 4)-32) (Di (part b 16 4)) (2684354560:UInt64).toNat:=c1
     rw[if_pos (by simpa using c1'),fa4 hp h32 c1]
 ·rw[if_pos (by rw[Bool.not_eq_true',decide_eq_false_iff_not];exact hp),fa1 hp]
theorem Bsu(b:List UInt8)(hl:b.length<4611686018427387904):Vr b=some (Mz b):=by
 rw[Vr,Aar]
 by_cases h8:8≤b.length
 ·rw[if_neg (by rw[Af,Ac];simp;omega),Iw (by omega) (by omega),Aa,show(8:Int).toNat=8 from rfl]
  by_cases ha:b.take 8=APE
  ·have hp:=And.intro h8 ha
   rw[if_neg (by simpa [APE]using ha),Aaq,Aad]
   by_cases h32:b.length<32
   ·rw[if_pos (by rw[Af,Ac];simp;omega),fa2 hp h32]
   ·have t:=Bjz (b.take 32) (by simp;omega) (by simp;omega)
    rw[Bkh,Afu (by omega),Afu (by omega)]at t
    rw[if_neg (by rw[Af,Ac];simp;omega),Iw (by omega) (by omega),Aa,show(32:Int).toNat=32 from rfl,t,Aa]
    cases hb:Acn b with
    |true=>rw[fa3 hp h32 hb];simp
    |false=>
     obtain⟨i1,i2,i3,i4⟩:=Ayl b (by omega) hb
     have i5:32≤Di (part b 12 4):=by simp only[Acn,decide_eq_false_iff_not]at hb;omega
     simp only[Bool.false_eq_true,if_false,false_or,Aa,Bool.not_true]
     rw[Po,Awa _ _ _ i3 i4 (by decide),Aa,Aa]
     by_cases c1:b.take 32=Ke (Di (part b 12 4)-32) (Di (part b 16 4)) 2684354560
     ·have c1':b.take 32=Ke (Di (part b 12 4)-32) (Di (part b 16 4)) (2684354560:UInt64).toNat:=c1
      rw[if_neg (by simpa using c1'),Aas,Aav,Ag (by omega) (by omega)]
      have e1:64+((Di (part b 12 4)-32:Nat):Int)=((Di (part b 12 4)+32:Nat):Int):=by omega
      rw[e1]
      by_cases c2:b.length<Di (part b 12 4)+32
      ·rw[if_pos (by rw[Af,Ac];simp;omega),fa5 hp h32 hb c1 c2]
      ·rw[if_neg (by rw[Af,Ac];simp;omega),Bi (by omega) (by omega),Oo (by omega) (by omega) (by omega),Aa,Hw,if_pos rfl,Awa _ _ _ i3 i4 (by decide),Aa,Aa]
       rw[show(((Di (part b 12 4)+32:Nat):Int)).toNat=Di (part b 12 4)+32 by omega,show(((Di (part b 12 4)+32:Nat):Int)-32).toNat=Di (part b 12 4) by omega]
       by_cases c3:(b.take (Di (part b 12 4)+32)).drop (Di (part b 12 4))=Ke (Di (part b 12 4)-32) (Di (part b 16 4)) 2147483648
       ·have c3':(b.take (Di (part b 12 4)+32)).drop (Di (part b 12 4))=Ke (Di (part b 12 4)-32) (Di (part b 16 4)) (2147483648:UInt64).toNat:=c3
        rw[if_neg (by simpa using c3'),fa7 hp h32 hb c1 c2 c3]
       ·have c3':¬(b.take (Di (part b 12 4)+32)).drop (Di (part b 12 4))=Ke (Di (part b 12 4)-32) (Di (part b 16 4)) (2147483648:UInt64).toNat:=c3
        rw[if_pos (by simpa using c3'),fa6 hp h32 hb c1 c2 c3]
     ·have c1':¬b.take 32=Ke (Di (part b 12 4)-32) (Di (part b 16 4)) (2684354560:UInt64).toNat:=c1
      rw[if_pos (by simpa using c1'),fa4 hp h32 c1]
  ·rw[if_pos (by simpa [APE]using ha),fa1 (fun h=>ha h.2)]
 ·rw[if_pos (by rw[Af,Ac];simp;omega),fa1 (fun h=>h8 h.1)]
theorem Bs1{b:List UInt8}{n:Int}(h:Mz b=(n,0)):64≤n∧n≤b.length:=by
 unfold Mz at h
 split at h; · simp at h
 split at h; · simp at h
 split at h; · simp at h
 rename_i hb
 split at h; · simp at h
 split at h; · simp at h
 simp only[Prod.mk.injEq,and_true]at h
 have hb':¬Acn b=true:=fun e=>hb (.inl e)
 simp only[Acn,decide_eq_true_eq]at hb'
 omega
end Go.Pl
set_option linter.unusedVariables false
set_option linter.unusedSimpArgs false
namespace Go.Pl
open Go Go.Lv
def Dt(b:List UInt8):Int×Int:=if(Aob b).2≠6 then Aob b else Mz b
theorem size_eq(b:List UInt8)(hl:b.length<4611686018427387904):Qw b=some (Dt b):=by
 rw[Qw,Bq5 b hl,Aa,Bnj b hl]
 by_cases h:(Aob b).2=6
 ·simp[Dt,h,Aj]
 ·simp[Dt,h,Aj]
theorem Beg{b:List UInt8}{n:Int}(h:Dt b=(n,0)):10≤n∧n≤b.length:=by
 unfold Dt at h
 split at h
 ·have:=Bv4 h;omega
 ·have:=Bs1 h;omega
def Ci(b:List UInt8):Nat→Nat→List Int×Int
 |0,_=>([],6)
 |j+1,p=>if(Dt (b.drop p)).2=6 then([],0)else if(Dt (b.drop p)).2≠0 then([],(Dt (b.drop p)).2)else
  if 4000<(p:Int)+(Dt (b.drop p)).1 then([],4)else
  if(Ci b j (p+(Dt (b.drop p)).1.toNat)).2=0 then((Dt (b.drop p)).1::(Ci b j (p+(Dt (b.drop p)).1.toNat)).1,0)else([],(Ci b j (p+(Dt (b.drop p)).1.toNat)).2)
theorem Axn(b:List UInt8):∀(j p:Nat),p≤b.length→p≤4000→(Ci b j p).2=0→(∀x∈(Ci b j p).1,10≤x)∧(p:Int)+(Ci b j p).1.sum≤b.length∧(p:Int)+(Ci b j p).1.sum≤4000
 |0,p,_,_,h=>by simp[Ci]at h
 |j+1,p,hp,hq,h=>by
  rw[Ci]at h⊢
  split at h
  ·rename_i h6;rw[if_pos h6];simp;omega
  ·rename_i h6
   split at h
   ·rename_i h0;exact absurd h h0
   ·rename_i h0
    rw[if_neg h6,if_neg h0]
    have hz:Dt (b.drop p)=((Dt (b.drop p)).1,0):=by rw[Prod.ext_iff];exact⟨rfl,Classical.not_not.1 h0⟩
    have hs:=Beg hz
    rw[List.length_drop]at hs
    split at h
    ·simp at h
    ·rename_i h4
     rw[if_neg h4]
     split at h
     ·rename_i h00
      rw[if_pos h00]
      obtain⟨i1,i2,i3⟩:=Axn b j _ (by omega) (by omega) h00
      refine⟨fun x hx=>?_,?_,?_⟩
      ·rcases List.mem_cons.1 hx with rfl|hx
       ·exact hs.1
       ·exact i1 x hx
      ·simp only[List.sum_cons];omega
      ·simp only[List.sum_cons];omega
     ·rename_i h00;exact absurd h h00
def Bsa(b:List UInt8)(j p:Nat):Int×Int:=if(Ci b j p).2=0 then((p:Int)+(Ci b j p).1.sum,0)else(0,(Ci b j p).2)
theorem Bbh(b:List UInt8)(hl:b.length<4611686018427387904):∀(j p q:Nat),p≤b.length→p≤4000→b.length-p<j→j≤q→Nz b q (p:Int)=some (Bsa b j p)
 |0,p,q,_,_,h,_=>by omega
 |j+1,p,q,hp,hp4,hj,hq=>by
  obtain⟨q,rfl⟩:∃k,q=k+1:=⟨q-1,by omega⟩
  rw[Nz,Ge (by omega) (by omega),Aa,Int.toNat_natCast,size_eq _ (by simp;omega),Aa,Bp,Bp,Aj,Bsa]
  by_cases h6:(Dt (b.drop p)).2=6
  ·rw[if_pos (by simpa using h6)]
   have:Ci b (j+1) p=([],0):=by rw[Ci,if_pos h6]
   rw[this];simp
  ·rw[if_neg (by simpa using h6)]
   by_cases h0:(Dt (b.drop p)).2=0
   ·have hz:Dt (b.drop p)=((Dt (b.drop p)).1,0):=by rw[Prod.ext_iff];exact⟨rfl,h0⟩
    have hs:=Beg hz
    rw[List.length_drop]at hs
    rw[Ag (by omega) (by omega),Aq]
    by_cases h4:4000<(p:Int)+(Dt (b.drop p)).1
    ·rw[if_pos (by simp[h0];omega)]
     have:Ci b (j+1) p=([],4):=by rw[Ci,if_neg h6,if_neg (fun h=>h h0),if_pos h4]
     rw[this];simp
    ·rw[if_neg (by simp[h0];omega),if_neg (by simpa using h0)]
     have ih:=Bbh b hl j (p+(Dt (b.drop p)).1.toNat) q (by omega) (by omega) (by omega) (by omega)
     rw[show(p:Int)+(Dt (b.drop p)).1=((p+(Dt (b.drop p)).1.toNat:Nat):Int) by omega,ih,Bsa]
     have:Ci b (j+1) p=if(Ci b j (p+(Dt (b.drop p)).1.toNat)).2=0 then((Dt (b.drop p)).1::(Ci b j (p+(Dt (b.drop p)).1.toNat)).1,0)else([],(Ci b j (p+(Dt (b.drop p)).1.toNat)).2):=by
      rw[Ci,if_neg h6,if_neg (fun h=>h h0),if_neg h4]
     rw[this]
     by_cases hr:(Ci b j (p+(Dt (b.drop p)).1.toNat)).2=0
     ·simp only[hr,if_true,List.sum_cons];congr 2;omega
     ·simp only[hr,if_false]
   ·rw[if_neg (by simp[h0]),if_pos (by simpa using h0)]
    have:Ci b (j+1) p=([],(Dt (b.drop p)).2):=by rw[Ci,if_neg h6,if_pos h0]
    rw[this];simp[h0]
def Buu(b:List UInt8)(j p:Nat)(xs:List Int):List Int×Int:=if(Ci b j p).2=0 then(xs++(Ci b j p).1,0)else([],(Ci b j p).2)
theorem Btw(bk:Int→List Int→Option (List Int×Int))(b:List UInt8)(p:Nat)(hp:p≤b.length)(xs:List Int)(hx:xs.length≤4000)(hl:b.length<4611686018427387904):Og (Ka bk b) b (p:Int) xs=Ka bk b (p:Int) xs (Dt (b.drop p)).1 (Dt (b.drop p)).2:=by
 have hf:=Bsu (b.drop p) (by simp;omega)
 rw[Og,Ge (by omega) (by omega),Aa,Int.toNat_natCast,Buc _ (by simp;omega),Aa]
 by_cases h:(Aob (b.drop p)).2=6
 ·simp[Dt,h,Bp,hf]
 ·simp[Dt,h,Bp]
theorem Bf8(b:List UInt8)(hl:b.length<4611686018427387904):∀(j p q:Nat) (xs:List Int),p≤b.length→p≤4000→b.length-p<j→j≤q→xs.length≤p→Jy b q (p:Int) xs=some (Buu b j p xs)
 |0,p,q,_,_,_,h,_,_=>by omega
 |j+1,p,q,xs,hp,hp4,hj,hq,hx=>by
  obtain⟨q,rfl⟩:∃k,q=k+1:=⟨q-1,by omega⟩
  rw[Jy,Btw _ b p hp xs (by omega) hl,Ka,Aau,Bp,Aj,Buu]
  by_cases h6:(Dt (b.drop p)).2=6
  ·rw[if_pos (by simpa using h6)]
   have:Ci b (j+1) p=([],0):=by rw[Ci,if_pos h6]
   rw[this];simp
  ·rw[if_neg (by simpa using h6)]
   by_cases h0:(Dt (b.drop p)).2=0
   ·have hz:Dt (b.drop p)=((Dt (b.drop p)).1,0):=by rw[Prod.ext_iff];exact⟨rfl,h0⟩
    have hs:=Beg hz
    rw[List.length_drop]at hs
    rw[if_neg (by simpa using h0),Ag (by omega) (by omega),Aq]
    by_cases h4:4000<(p:Int)+(Dt (b.drop p)).1
    ·rw[if_pos (by simp;omega)]
     have:Ci b (j+1) p=([],4):=by rw[Ci,if_neg h6,if_neg (fun h=>h h0),if_pos h4]
     rw[this];simp
    ·rw[if_neg (by simp;omega),Fc (by simp;omega),Aa]
     have ih:=Bf8 b hl j (p+(Dt (b.drop p)).1.toNat) q (xs++[(Dt (b.drop p)).1]) (by omega) (by omega) (by omega) (by omega) (by simp;omega)
     rw[show(p:Int)+(Dt (b.drop p)).1=((p+(Dt (b.drop p)).1.toNat:Nat):Int) by omega,ih,Buu]
     have:Ci b (j+1) p=if(Ci b j (p+(Dt (b.drop p)).1.toNat)).2=0 then((Dt (b.drop p)).1::(Ci b j (p+(Dt (b.drop p)).1.toNat)).1,0)else([],(Ci b j (p+(Dt (b.drop p)).1.toNat)).2):=by
      rw[Ci,if_neg h6,if_neg (fun h=>h h0),if_neg h4]
     rw[this]
     by_cases hr:(Ci b j (p+(Dt (b.drop p)).1.toNat)).2=0
     ·simp only[hr,if_true];simp
     ·simp only[hr,if_false]
   ·rw[if_pos (by simpa using h0)]
    have:Ci b (j+1) p=([],(Dt (b.drop p)).2):=by rw[Ci,if_neg h6,if_pos h0]
    rw[this];simp[h0]
theorem Bat:∀{l:List Int},(∀x∈l,10≤x)→0≤l.sum∧(l.length:Int)≤l.sum
 |[],_=>by simp
 |x::l,h=>by
  have h1:=h x List.mem_cons_self
  have h2:=Bat (l:=l) fun y hy=>h y (List.mem_cons_of_mem _ hy)
  simp only[List.sum_cons,List.length_cons];omega
theorem Bcl(r:Int)(l:List Int)(hl:l.length≤4000)(hx:∀x∈l,10≤x):∀(j i q:Nat) (n:Int),i+j=l.length→j<q→0≤n→n+(l.drop i).sum≤4000→Gz r l q n (i:Int)=some (n+(l.drop i).sum,r)
 |0,i,q+1,n,hi,_,_,_=>by
  rw[Gz,Oz,if_neg (by rw[Af,Ac];simp;omega),show i=l.length by omega,List.drop_length]
  simp[Aa1,Aal]
 |j+1,i,q+1,n,hi,hq,hn,hs=>by
  have hlt:i<l.length:=by omega
  rw[drop_cons hlt,List.sum_cons]at hs⊢
  have h1:=hx l[i] (List.getElem_mem hlt)
  have h2:=Bat (l:=l.drop (i+1)) fun y hy=>hx y (List.mem_of_mem_drop hy)
  rw[Gz,Oz,if_pos (by rw[Af,Ac];simp;omega),Ca hlt,Aa,Aa,Ag (by omega) (by omega),Ag (by omega) (by omega)]
  have ih:=Bcl r l hl hx j (i+1) q (n+l[i]) (by omega) (by omega) (by omega) (by omega)
  rw[show((i:Int)+1)=((i+1:Nat):Int) by omega,ih]
  congr 2;omega
def frontS(b:List UInt8):Int×Int:=Bsa b (b.length+1) 0
theorem Apw(b:List UInt8)(hl:b.length<4611686018427387904):Qk b=some (frontS b):=by
 have:=Bbh b hl (b.length+1) 0 Am (by omega) (by omega) (by omega) (by have:=Al;omega)
 exact this
theorem Awl(b:List UInt8)(hl:b.length<4611686018427387904):Na b=some (frontS b):=by
 have h:=Bf8 b hl (b.length+1) 0 Am [] (by omega) (by omega) (by omega) (by have:=Al;omega) (by simp)
 have h':Af7 b=some (Buu b (b.length+1) 0 []):=h
 rw[Na,Aaw,h',Aa,frontS,Bsa,Buu]
 have ho:=Axn b (b.length+1) 0 (by omega) (by omega)
 by_cases h0:(Ci b (b.length+1) 0).2=0
 ·obtain⟨i1,i2,i3⟩:=ho h0
  have hp:=Bat i1
  simp only[h0,if_true,List.nil_append]
  have:=Bcl 0 (Ci b (b.length+1) 0).1 (by omega) i1 (Ci b (b.length+1) 0).1.length 0 Am 0 (by omega) (by have:=Al;omega) (by omega) (by simpa using i3)
  simpa [Pd]using this
 ·simp only[h0,if_false]
  have:=Bcl (Ci b (b.length+1) 0).2 [] (by simp) (by simp) 0 0 Am 0 (by simp) (by have:=Al;omega) (by omega) (by simp)
  simpa [Pd]using this
theorem Bgu{b:List UInt8}(h:(frontS b).2=0):0≤(frontS b).1∧(frontS b).1≤b.length∧(frontS b).1≤4000:=by
 unfold frontS Bsa at h⊢
 split at h
 ·rename_i h0
  rw[if_pos h0]
  obtain⟨i1,i2,i3⟩:=Axn b (b.length+1) 0 (by omega) (by omega) h0
  have hp:=Bat i1
  exact⟨by simp;omega,i2,i3⟩
 ·rename_i h0;exact absurd h h0
end Go.Pl
set_option linter.unusedVariables false
set_option linter.unusedSimpArgs false
namespace Go.Pl
open Go Go.Lv
def longN(r:Nat):Nat:=max 1 (256*r/245)
theorem Sc(r:Nat):1≤longN r:=Nat.le_max_left _ _
theorem Bbj{r:Nat}(h:r≤1048576):longN r≤1100000:=by unfold longN;omega
theorem Bk7{r:Nat}(h:r≤1048576):As4 (1:Int) (Bq (Ax (256:Int) (r:Int)) (245:Int))=(longN r:Int):=by
 rw[Fm (by omega) (by omega),Aem,Int.tdiv_eq_ediv_of_nonneg (by omega),Bm (by omega) (by omega),Bok,longN];omega
def framesL(g n:Nat):List Int:=List.replicate ((n-1)/g) (g:Int)++[((n-(n-1)/g*g:Nat):Int)]
theorem Vy(g n:Nat):(framesL g n).length=(n-1)/g+1:=by simp[framesL]
theorem Be3{g n:Nat}(h:n≤g)(h1:1≤n):framesL g n=[(n:Int)]:=by
 rw[framesL,Nat.div_eq_of_lt (by omega)];simp
theorem Bj3{g n:Nat}(hg:1≤g)(h:g<n):framesL g n=(g:Int)::framesL g (n-g):=by
 have e:(n-1)/g=(n-g-1)/g+1:=by rw[←Nat.add_div_right _ (by omega)];congr 1;omega
 rw[framesL,framesL,e,List.replicate_succ,List.cons_append]
 congr 4
 have:=Nat.div_mul_le_self (n-g-1) g
 rw[Nat.add_mul,Nat.one_mul];omega
theorem Awy{g n:Nat}(hg:1≤g)(h1:1≤n):(n+g-1)/g=(n-1)/g+1:=by
 rw[←Nat.add_div_right _ (by omega)];congr 1;omega
theorem Asj{r:Nat}(h1:1≤r)(h:r≤1048576):Rt (r:Int)=some ((longN r:Int),0):=by
 rw[Rt,if_neg (by simp[Af,Aq];omega),Bk7 h]
theorem Bwv{r:Nat}(h:r≤1048576):Kr (r:Int)=some (longN r:Int):=by rw[Kr,Bk7 h]
theorem Amj{r n:Nat}(h1:1≤r)(h:r≤1048576)(n1:1≤n)(n2:n≤4000):Lf (r:Int) (n:Int)=some (if 1000<(n-1)/longN r+1 then(0,4)else((((n-1)/longN r+1:Nat):Int),0)):=by
 have hp:=Sc r
 have hl:=Bbj h
 have e:Bq (Ah (Ad (n:Int) (longN r:Int)) (1:Int)) (longN r:Int)=(((n-1)/longN r+1:Nat):Int):=by
  have:(n+longN r-1)/longN r≤n+longN r-1:=Nat.div_le_self _ _
  rw[Ag (by omega) (by omega),Bi (by omega) (by omega),Aem,Int.tdiv_eq_ediv_of_nonneg (by omega),show(n:Int)+(longN r:Int)-1=((n+longN r-1:Nat):Int) by omega,←Int.natCast_ediv,Awy hp n1]
  rw[Awy hp n1]at this
  generalize(n-1)/longN r=k at*
  exact Bm (by omega) (by omega)
 rw[Lf,Asj h1 h,Aa]
 simp only
 rw[if_neg (by rw[Aj];simp),if_neg (by simp[Af,Aq];omega),Bz (by rw[Aj];simp;omega),Aa,e]
 by_cases hk:1000<(n-1)/longN r+1
 ·rw[if_pos (by rw[Aq];simp;omega),if_pos hk]
 ·rw[if_neg (by rw[Aq];simp;omega),if_neg hk]
theorem Bc3{r:Nat}(h:r≤1048576):∀(j n q:Nat) (acc:List Int),n≤4000→n≤j→j<q→acc.length+n≤10000→Cm (r:Int) q (n:Int) acc=some (acc++(if n=0 then []else framesL (longN r) n))
 |0,n,q+1,acc,hn,hj,hq,ha=>by
  obtain rfl:n=0:=by omega
  rw[Cm,Et,if_neg (by rw[Aq];simp)]
  simp[Gs,Kb]
 |j+1,n,q+1,acc,hn,hj,hq,ha=>by
  have hp:=Sc r
  have hl:=Bbj h
  by_cases h0:n=0
  ·subst h0
   rw[Cm,Et,if_neg (by rw[Aq];simp)]
   simp[Gs,Kb]
  ·rw[Cm,Et,if_pos (by rw[Aq];simp;omega),Bwv h,Aa,Fc (by simp;omega),Aa,Aa,Bi (by omega) (by omega),Aj5]
   by_cases hs:n≤longN r
   ·rw[show min (n:Int) (longN r:Int)=(n:Int) by omega,if_neg h0,Be3 hs (by omega)]
    have hz:∃k,q=k+1:=⟨q-1,by omega⟩
    obtain⟨q,rfl⟩:=hz
    rw[Cm,Et,if_neg (by rw[Aq];simp;omega)]
    simp[Gs,Kb]
   ·rw[show min (n:Int) (longN r:Int)=(longN r:Int) by omega,show(n:Int)-(longN r:Int)=((n-longN r:Nat):Int) by omega,Bc3 h j (n-longN r) q _ (by omega) (by omega) (by omega) (by simp;omega),if_neg (by omega),if_neg h0,Bj3 hp (show longN r<n by omega)]
    simp
theorem Aq7{r n:Nat}(h:r≤1048576)(n1:1≤n)(n2:n≤4000):Cg (r:Int) (n:Int)=some (framesL (longN r) n):=by
 have:=Bc3 h n n Am [] n2 (Nat.le_refl _) (by have:=Al;omega) (by simp;omega)
 rw[Cg,Pe,Ot,this,if_neg (by omega)];rfl
theorem mul_one(m:Nat)(h:m≤100000):Ab2 (1:UInt64) (UInt64.ofNat m)=some (0,UInt64.ofNat m):=by
 have y1:(UInt64.ofNat m).toNat=m:=Ait (by omega)
 have s1:Bk (1:UInt64) (GI.toZ (32:UInt64)).toNat=0:=by decide
 have s2:Bk (UInt64.ofNat m) (GI.toZ (32:UInt64)).toNat=0:=by
  apply UInt64.toNat_inj.1
  rw[Adf,y1]
  exact Nat.div_eq_of_lt (Nat.lt_of_le_of_lt h (by decide))
 have s0:Bk (0:UInt64) (GI.toZ (32:UInt64)).toNat=0:=by decide
 have a1:Cx (1:UInt64) (4294967295:UInt64)=1:=by decide
 have a0:Cx (0:UInt64) (4294967295:UInt64)=0:=by decide
 have a2:Cx (UInt64.ofNat m) (4294967295:UInt64)=UInt64.ofNat m:=by
  apply UInt64.toNat_inj.1
  rw[Ba9,UInt64.toNat_and,y1]
  show m&&& (2^32-1)=m
  rw[Nat.and_two_pow_sub_one_eq_mod,Nat.mod_eq_of_lt (by omega)]
 have m1:∀x:UInt64,Ax 1 x=x:=fun x=>by rw[Ac3,UInt64.one_mul]
 have m0:∀x:UInt64,Ax 0 x=0:=fun x=>by rw[Ac3,UInt64.zero_mul]
 have p0:∀x:UInt64,Ad 0 x=x:=fun x=>by rw[Ad0,UInt64.zero_add]
 have p1:∀x:UInt64,Ad x 0=x:=fun x=>by rw[Ad0,UInt64.add_zero]
 rw[Ab2,Aeq]
 simp only[s1,s2,a1,a2,m1,m0,p0,p1,s0,a0,Aa]
theorem Az3(v:Int)(m:Nat)(hm:m≤100000):∀(j n q:Nat),1≤n→n≤m→m-n≤j→j<q→Dd q (n:Int) (List.replicate n v++List.replicate (m-n) 0)=some (List.replicate m v)
 |j,n,q+1,hn,hnm,hj,hq=>by
  have hlen:Ac (List.replicate n v++List.replicate (m-n) 0)=(m:Int):=by simp[Ac];omega
  rw[Dd,Eu,hlen]
  by_cases h:n<m
  ·obtain⟨j,rfl⟩:∃k,j=k+1:=⟨j-1,by omega⟩
   rw[if_pos (by rw[Af];simp;omega)]
   have v1:vwI (m:Int) (n:Int) (m:Int)=some ():=by rw[vwI,Bz];simp;omega
   have v2:vwI (m:Int) (0:Int) (n:Int)=some ():=by rw[vwI,Bz];simp;omega
   have e1:Aj9 (List.replicate n v++List.replicate (m-n) 0) (0:Int) ((n:Int)-0)=List.replicate n v:=by
    simp[Aj9]
   rw[v1,Aa,v2,Aa,e1]
   have e2:Ah0 ((m:Int)-(n:Int)) (List.replicate n v).length=((min n (m-n):Nat):Int):=by
    rw[Ah0,List.length_replicate];split<;>omega
   have e3:Oh (List.replicate n v++List.replicate (m-n) 0) (n:Int) ((m:Int)-(n:Int)) (List.replicate n v)=List.replicate (n+min n (m-n)) v++List.replicate (m-(n+min n (m-n))) 0:=by
    have t1:((m:Int)-(n:Int)).toNat=m-n:=by omega
    have t2:(List.replicate n v++List.replicate (m-n) (0:Int)).take n=List.replicate n v:=by simp
    rw[Oh,t1,Int.toNat_natCast,t2,List.take_replicate,List.length_replicate,←List.append_assoc,List.replicate_append_replicate,List.drop_append,List.length_replicate,Nat.min_comm (m-n) n]
    simp only[List.drop_replicate]
    rw[show n-(n+min n (m-n))=0 by omega,List.replicate_zero,List.nil_append,show m-n-(n+min n (m-n)-n)=m-(n+min n (m-n)) by omega]
   rw[e2,e3,Ag (by omega) (by omega),show(n:Int)+((min n (m-n):Nat):Int)=((n+min n (m-n):Nat):Int) by omega]
   exact Az3 v m hm j (n+min n (m-n)) q (by omega) (by omega) (by omega) (by omega)
  ·rw[if_neg (by rw[Af];simp;omega)]
   obtain rfl:n=m:=by omega
   simp[Gn,Ko]
theorem Bri(v:Int)(m:Nat)(hm:m≤100000):Jz [v] (m:Int)=some (List.replicate m v):=by
 have y1:(UInt64.ofNat m).toNat=m:=Ait (by omega)
 have c1:(Ae (Ac [v]):UInt64)=1:=by rfl
 have c2:(Ae (m:Int):UInt64)=UInt64.ofNat m:=We m
 have c3:(Ae (UInt64.ofNat m):Int)=(m:Int):=by rw[Aym (by omega),y1]
 rw[Jz,Lb,if_neg (by rw[Af];simp),Ll,Le,c1,c2,mul_one m hm,Aa]
 simp only
 rw[if_neg (by rw[Ajh,Ajh,y1];simp;show m≤9223372036854775807;omega),Lk,Lc,c3,Bdf (by omega) (by omega),Aa,Bz (by rw[Bp];simp),Aa,Ln,Int.toNat_natCast]
 by_cases h0:m=0
 ·subst h0
  have hF:Am=(Am-1)+1:=by have:=Al;omega
  rw[hF,Dd,Eu]
  simp[Ac,Beu,Ah0,Af,Gn,Ko]
 ·have:=Az3 v m hm m 1 Am (by omega) (by omega) (by omega) (by have:=Al;omega)
  have e1:Ah0 (Ac (List.replicate m (0:Int))) [v].length=((1:Nat):Int):=by simp[Ah0,Ac];omega
  have e2:Beu (List.replicate m (0:Int)) [v]=List.replicate 1 v++List.replicate (m-1) 0:=by
   obtain⟨k,rfl⟩:∃k,m=k+1:=⟨m-1,by omega⟩
   simp[Beu]
  rw[e1,e2,this]
theorem Bq9(l m:List Int)(h:l.length+m.length≤1000000):Jv [l,m]=some (l++m):=by
 have hF:Am=(Am-3)+1+1+1:=by have:=Al;omega
 rw[Jv,Ld,Lh]
 have g0:getI [l,m] (0:Int)=some l:=rfl
 have g1:getI [l,m] (1:Int)=some m:=rfl
 have l2:Ac [l,m]=2:=rfl
 have h3:Gl [l,m] []=some (l++m):=by
  rw[Gl,Kk,Kl,hF,Cu,Ek,l2,if_pos (by decide),g0,Aa,Fc (by simp;omega),Aa,List.nil_append,show Ad (0:Int) 1=1 by decide,
   Cu,Ek,l2,if_pos (by decide),g1,Aa,Fc (by omega),Aa,show Ad (1:Int) 1=2 by decide,Cu,Ek,l2,if_neg (by decide)]
  rfl
 rw[hF,Dg,Ev,l2,if_pos (by decide),g0,Aa,Ag (by unfold Ac;omega) (by unfold Ac;omega),if_neg (by rw[Af,Ac];simp),show Ad (0:Int) 1=1 by decide,
  Dg,Ev,l2,if_pos (by decide),g1,Aa,Ag (by unfold Ac;omega) (by unfold Ac;omega),if_neg (by rw[Af,Ac,Ac];simp;omega),show Ad (1:Int) 1=2 by decide,
  Dg,Ev,l2,if_neg (by decide),Kj,Kf,if_neg (by rw[Af,Ac,Ac];simp;omega),Km,Ki]
 have z:Ah (0:Int) 0=0:=by decide
 have n0:(0:Int)+Ac l+Ac m=((l.length+m.length:Nat):Int):=by simp[Ac]
 rw[z,n0,Bi (by omega) (by omega),Int.sub_zero]
 by_cases hp:0<l.length+m.length
 ·rw[if_pos (by rw[Aq];simp;omega),show vwI (0:Int) 0 0=some ()from rfl,Aa,Bdf (by omega) (by omega),Aa,Fc (by simp;omega),Aa]
  rw[show vwI (Ac ([]++List.replicate ((l.length+m.length:Nat):Int).toNat (0:Int))) 0 0=some () by rw[vwI,Bz];simp[Ac];omega,Aa]
  simp only[Aj9,Int.sub_self,Int.toNat_zero,List.take_zero]
  exact h3
 ·rw[if_neg (by rw[Aq];simp;omega)];exact h3
theorem Bvf{r n:Nat}(h1:1≤r)(h:r≤1048576)(n1:1≤n)(n2:n≤4000)(hk:(n-1)/longN r+1≤1000):Qm (r:Int) (n:Int)=some (framesL (longN r) n,0):=by
 have hp:=Sc r
 have hl:=Bbj h
 have hd:=Nat.div_mul_le_self (n-1) (longN r)
 rw[Qm,Amj h1 h n1 n2,if_neg (by omega),Aa]
 simp only
 rw[if_neg (by rw[Aj];simp),Asj h1 h,Aa]
 simp only
 rw[framesL]
 generalize(n-1)/longN r=k at*
 have e1:Ah ((k+1:Nat):Int) 1=(k:Int):=by rw[Bi (by omega) (by omega)];omega
 have e2:(k:Int)*(longN r:Int)=((k*longN r:Nat):Int):=by simp
 rw[e1,Bri _ _ (by omega),Aa,Fm (by rw[e2];omega) (by rw[e2];omega),e2,Bi (by omega) (by omega),Aif,Bq9 _ _ (by simp;omega),Aa,Aa,show(n:Int)-((k*longN r:Nat):Int)=((n-k*longN r:Nat):Int) by omega]
end Go.Pl
set_option linter.unusedVariables false
set_option linter.unusedSimpArgs false
namespace Go.Pl
open Go Go.Lv
def shapeB(f c w r n:Nat):Bool:=decide ((f=1∨f=2)∧(1≤c∧c≤6)∧(w=8∨w=16∨w=24)∧(1≤r∧r≤1048576)∧1≤n)
def fitB(c r n:Nat):Bool:=decide (n≤4000/c∧(n-1)/longN r+1≤1000)
theorem Ayq(f c w r n:Nat):Ue (f:Int) (c:Int) (w:Int) (r:Int) (n:Int)=some (shapeB f c w r n):=by
 have e2:Sf (f:Int) (c:Int) (w:Int) (r:Int) (n:Int)=some (decide ((f=1∨f=2)∧(1≤c∧c≤6)∧(1≤r∧r≤1048576)∧1≤n)):=by
  rw[Sf,Akz]
  congr 1
  rw[Bool.eq_iff_iff]
  simp only[Bp,Aq,Bfc,Bool.and_eq_true,Bool.or_eq_true,beq_iff_eq,decide_eq_true_eq]
  omega
 have g:∀k:Nat,geq (w:Int) (k:Int)=decide (w=k):=fun k=>by rw[Bp,Bool.eq_iff_iff];simp;omega
 have g8:geq (w:Int) (8:Int)=decide (w=8):=g 8
 have g16:geq (w:Int) (16:Int)=decide (w=16):=g 16
 have g24:geq (w:Int) (24:Int)=decide (w=24):=g 24
 rw[Ue,Abh,e2,g8,g16,g24,shapeB]
 by_cases h8:w=8
 ·subst h8;simp
 ·by_cases h16:w=16
  ·subst h16;simp
  ·by_cases h24:w=24
   ·subst h24;simp
   ·simp[h8,h16,h24]
theorem Bog(f c w r n:Nat):Sy (f:Int) (c:Int) (w:Int) (r:Int) (n:Int)=some (shapeB f c w r n):=by
 rw[Sy,shapeB]
 simp only[Bp,Ce,Bfc,Bool.and_eq_true,Bool.or_eq_true,beq_iff_eq,decide_eq_true_eq,Bool.false_and]
 split
 ·rename_i h
  congr 1
  rw[Bool.eq_iff_iff]
  simp only[Bool.and_eq_true,Bool.or_eq_true,beq_iff_eq,decide_eq_true_eq]
  omega
 ·rename_i h
  congr 1
  symm
  rw[decide_eq_false_iff_not]
  omega
theorem Caw{c:Nat}(h:1≤c):Bq (4000:Int) (c:Int)=((4000/c:Nat):Int):=by
 have:4000/c≤4000:=Nat.div_le_self _ _
 rw[Aem,Int.tdiv_eq_ediv_of_nonneg (by omega),show(4000:Int)=((4000:Nat):Int)from rfl,←Int.natCast_ediv]
 generalize 4000/c=k at*
 exact Bm (by omega) (by omega)
theorem Bf4{f c w r n:Nat}(h:shapeB f c w r n=true):Adl (f:Int) (c:Int) (w:Int) (r:Int) (n:Int)=some (fitB c r n):=by
 simp only[shapeB,decide_eq_true_eq]at h
 have hd:4000/c≤4000:=Nat.div_le_self _ _
 rw[Adl,Bz (by rw[Aj];simp;omega),Aa,Caw (by omega),fitB]
 generalize 4000/c=m at*
 by_cases h1:n≤m
 ·rw[if_neg (by rw[Aq];simp;omega),Amj (by omega) (by omega) (by omega) (by omega),Aa]
  generalize(n-1)/longN r+1=k
  by_cases h2:1000<k
  ·rw[if_pos h2]
   simp[Bp,Bfc]
   omega
  ·rw[if_neg h2]
   simp[Bp,Bfc,h1]
   omega
 ·rw[if_pos (by rw[Aq];simp;omega)]
  simp[h1]
theorem Bvg{f c w r n:Nat}(h:shapeB f c w r n=true):Xs (f:Int) (c:Int) (w:Int) (r:Int) (n:Int)=some (!fitB c r n):=by
 simp only[shapeB,decide_eq_true_eq]at h
 have hd:4000/c≤4000:=Nat.div_le_self _ _
 rw[Xs,Bz (by rw[Aj];simp;omega),Aa,Caw (by omega),fitB]
 generalize 4000/c=m at*
 by_cases h1:n≤m
 ·rw[if_neg (by rw[Aq];simp;omega),Aq7 (by omega) (by omega) (by omega),Aa,Ac,Vy]
  generalize(n-1)/longN r+1=k
  congr 1
  rw[Aq,Bool.eq_iff_iff]
  simp only[decide_eq_true_eq,Bool.not_eq_true',decide_eq_false_iff_not]
  omega
 ·rw[if_pos (by rw[Aq];simp;omega)]
  simp[h1]
def Aza:List UInt8:=[84,84,65,49]
def f0(b:List UInt8):Nat:=Di (part b 4 2)
def f1(b:List UInt8):Nat:=Di (part b 6 2)
def f2(b:List UInt8):Nat:=Di (part b 8 2)
def f3(b:List UInt8):Nat:=Di (part b 10 4)
def f4(b:List UInt8):Nat:=Di (part b 14 4)
abbrev H6:=Int×Int×Int×Int×Int×Int
def readS(b:List UInt8):H6:=
 if b.take (min 4 b.length)≠Aza.take (min 4 b.length)then(0,0,0,0,0,12)else if b.length<22 then(0,0,0,0,0,24)else
 if(Fx (b.take 18)).toNat≠Di (part b 18 4)then(0,0,0,0,0,22)else
 if shapeB (f0 b) (f1 b) (f2 b) (f3 b) (f4 b)=false then(0,0,0,0,0,12)else
 if fitB (f1 b) (f3 b) (f4 b)=false then(0,0,0,0,0,4)else((f0 b:Int),(f1 b:Int),(f2 b:Int),(f3 b:Int),(f4 b:Int),0)
section
variable {b:List UInt8}
theorem rs1(h:b.take (min 4 b.length)≠Aza.take (min 4 b.length)):readS b=(0,0,0,0,0,12):=by rw[readS,if_pos h]
variable (h:b.take (min 4 b.length)=Aza.take (min 4 b.length))
include h
theorem rs2(h2:b.length<22):readS b=(0,0,0,0,0,24):=by rw[readS,if_neg (fun e=>e h),if_pos h2]
variable (h2:¬b.length<22)
include h2
theorem rs3(h3:(Fx (b.take 18)).toNat≠Di (part b 18 4)):readS b=(0,0,0,0,0,22):=by rw[readS,if_neg (fun e=>e h),if_neg h2,if_pos h3]
variable (h3:(Fx (b.take 18)).toNat=Di (part b 18 4))
include h3
theorem rs4(h4:shapeB (f0 b) (f1 b) (f2 b) (f3 b) (f4 b)=false):readS b=(0,0,0,0,0,12):=by rw[readS,if_neg (fun e=>e h),if_neg h2,if_neg (fun e=>e h3),if_pos h4]
variable (h4:shapeB (f0 b) (f1 b) (f2 b) (f3 b) (f4 b)=true)
include h4
theorem rs5(h5:fitB (f1 b) (f3 b) (f4 b)=false):readS b=(0,0,0,0,0,4):=by rw[readS,if_neg (fun e=>e h),if_neg h2,if_neg (fun e=>e h3),if_neg (by rw[h4];simp),if_pos h5]
theorem rs6(h5:fitB (f1 b) (f3 b) (f4 b)=true):readS b=((f0 b:Int),(f1 b:Int),(f2 b:Int),(f3 b:Int),(f4 b:Int),0):=by rw[readS,if_neg (fun e=>e h),if_neg h2,if_neg (fun e=>e h3),if_neg (by rw[h4];simp),if_neg (by rw[h5];simp)]
end
theorem Bun(b:List UInt8)(h2:¬b.length<22):Bb (Ae (Fx (b.take 18)):UInt64) (leU (part b 18 4))=decide ((Fx (b.take 18)).toNat≠Di (part b 18 4)):=by
 rw[Afh,Gg,Bool.eq_iff_iff]
 simp only[bne_iff_ne,ne_eq,decide_eq_true_eq]
 rw[←UInt64.toNat_inj,Ait (by have:=(Fx (b.take 18)).toNat_lt;omega),Aiw (by rw[Ck (by omega)];omega)]
theorem Ap7(b:List UInt8)(a w:Nat)(i q:Nat)(l:List Int)(hi:i<5)(hl:l.length=5)(hw:getI ([2,2,2,4,4]:List Int) (i:Int)=some (w:Int))(h1:1≤w)(h4:w≤4)(ha:a+w≤b.length)(hb:b.length<4611686018427387904):
  Jr b (q+1) (a:Int) (i:Int) l=Jr b q ((a+w:Nat):Int) ((i+1:Nat):Int) (l.set i (Di (part b a w):Int)):=by
 rw[Jr,Zo,if_pos (by rw[Af];simp;omega),hw,Aa,Bgn b a w h1 (by omega) ha hb,Aa]
 simp only
 rw[Ca (by omega),Aa,Ti _ (by omega),Aa,Aca (by rw[Ck ha];omega),Ag (by omega) (by omega),Ag (by omega) (by omega)]
 rfl
theorem Bur(b:List UInt8)(h22:¬b.length<22)(hb:b.length<4611686018427387904):Zh b 4 0 (List.replicate 5 0)=Zj [(f0 b:Int),(f1 b:Int),(f2 b:Int),(f3 b:Int),(f4 b:Int)]:=by
 have hF:Am=(Am-6)+1+1+1+1+1+1:=by have:=Al;omega
 rw[Zh,hF,show(4:Int)=((4:Nat):Int)from rfl,show(0:Int)=((0:Nat):Int)from rfl]
 rw[Ap7 b 4 2 0 _ _ (by omega) (by simp) rfl (by omega) (by omega) (by omega) hb,Ap7 b 6 2 1 _ _ (by omega) (by simp) rfl (by omega) (by omega) (by omega) hb,Ap7 b 8 2 2 _ _ (by omega) (by simp) rfl (by omega) (by omega) (by omega) hb,
  Ap7 b 10 4 3 _ _ (by omega) (by simp) rfl (by omega) (by omega) (by omega) hb,Ap7 b 14 4 4 _ _ (by omega) (by simp) rfl (by omega) (by omega) (by omega) hb,Jr,Zo,if_neg (by rw[Af];simp)]
 rfl
theorem Cd5(b:List UInt8):Pf [84,84,65,49] (b.take (min 4 b.length))=some (decide (b.take (min 4 b.length)=Aza.take (min 4 b.length))):=by
 have hl:(b.take (min 4 b.length)).length=min 4 b.length:=by rw[List.length_take];omega
 rw[Pf,Hg,if_pos (by rw[Ce,Ac,Ac,hl];simp;omega),Ac,hl,Iw (by omega) (by simp;omega),Aa,Aa,Int.toNat_natCast]
 congr 1
 rw[Bool.eq_iff_iff]
 rw[decide_eq_true_eq,beq_iff_eq]
 exact eq_comm
theorem Cc1(b:List UInt8):Db (4:Int) (Ac b)=((min 4 b.length:Nat):Int):=by rw[Aj5,Ac];omega
theorem Bfk(b:List UInt8)(hb:b.length<4611686018427387904):Adx b=some (readS b):=by
 rw[Adx,Ag8,Cc1,Iw (by omega) (by omega),Aa,Int.toNat_natCast,Cd5,Aa]
 by_cases h:b.take (min 4 b.length)=Aza.take (min 4 b.length)
 ·rw[if_neg (by simpa using h)]
  by_cases h2:b.length<22
  ·rw[if_pos (by rw[Af,Ac];simp;omega),rs2 h h2]
  ·have a1:Ali b 18 4=some (leU (part b 18 4),0):=Bgn b 18 4 (by omega) (by omega) (by omega) hb
   rw[if_neg (by rw[Af,Ac];simp;omega),a1,Aa]
   simp only
   rw[Iw (by omega) (by omega),Aa,show(18:Int).toNat=18 from rfl,Bm7 _ (by simp;omega),Aa]
   simp only
   rw[Bun b h2]
   by_cases h3:(Fx (b.take 18)).toNat=Di (part b 18 4)
   ·rw[if_neg (by simpa using h3),Bur b h2 hb,Zj,Aqu]
    rw[show getI [(f0 b:Int),(f1 b:Int),(f2 b:Int),(f3 b:Int),(f4 b:Int)] 0=some (f0 b:Int)from rfl,show getI [(f0 b:Int),(f1 b:Int),(f2 b:Int),(f3 b:Int),(f4 b:Int)] 1=some (f1 b:Int)from rfl,show getI [(f0 b:Int),(f1 b:Int),(f2 b:Int),(f3 b:Int),(f4 b:Int)] 2=some (f2 b:Int)from rfl,
     show getI [(f0 b:Int),(f1 b:Int),(f2 b:Int),(f3 b:Int),(f4 b:Int)] 3=some (f3 b:Int)from rfl,show getI [(f0 b:Int),(f1 b:Int),(f2 b:Int),(f3 b:Int),(f4 b:Int)] 4=some (f4 b:Int)from rfl]
    simp only[Aa,Ayq]
    cases h4:shapeB (f0 b) (f1 b) (f2 b) (f3 b) (f4 b)with
    |false=>rw[rs4 h h2 h3 h4];rfl
    |true=>
     rw[Bf4 h4,if_neg (by simp),Aa]
     cases h5:fitB (f1 b) (f3 b) (f4 b)with
     |false=>rw[rs5 h h2 h3 h4 h5];rfl
     |true=>rw[rs6 h h2 h3 h4 h5];rfl
   ·rw[if_pos (by simpa using h3),rs3 h h2 h3]
 ·rw[if_pos (by simpa using h),rs1 h]
theorem Bl1(b:List UInt8)(hb:b.length<4611686018427387904):Ph b=some (readS b):=by
 rw[Ph,Adc,Cc1,Iw (by omega) (by omega),Aa,Int.toNat_natCast,Iw (by omega) (by simp;omega),Aa,Int.toNat_natCast]
 by_cases h:b.take (min 4 b.length)=Aza.take (min 4 b.length)
 ·rw[if_neg (by rw[h];simp[Aza]),Ac5,Ado]
  by_cases h2:b.length<22
  ·rw[if_pos (by rw[Af,Ac];simp;omega),rs2 h h2]
  ·have a1:Bo b 18 22=some (part b 18 4):=Kz 18 4 (by omega)
   have c1:Bo b 4 6=some (part b 4 2):=Kz 4 2 (by omega)
   have c2:Bo b 6 8=some (part b 6 2):=Kz 6 2 (by omega)
   have c3:Bo b 8 10=some (part b 8 2):=Kz 8 2 (by omega)
   have c4:Bo b 10 14=some (part b 10 4):=Kz 10 4 (by omega)
   have c5:Bo b 14 18=some (part b 14 4):=Kz 14 4 (by omega)
   have hs:Bb (leU (part b 18 4)) (Ae (Fx (b.take 18)):UInt64)=decide ((Fx (b.take 18)).toNat≠Di (part b 18 4)):=by
    rw[←Bun b h2,Afh,Afh,Bool.eq_iff_iff];simp only[bne_iff_ne,ne_eq];exact not_congr eq_comm
   have lp:∀a w,a+w≤b.length→Cd (part b a w)=some (leU (part b a w)):=fun a w h=>Bl4 _ (by rw[Ck h];omega)
   rw[if_neg (by rw[Af,Ac];simp;omega),a1,Aa,Iw (by omega) (by omega),Aa,show(18:Int).toNat=18 from rfl,lp _ _ (by omega),Aa,Bwn _ (by simp;omega),Aa,hs]
   by_cases h3:(Fx (b.take 18)).toNat=Di (part b 18 4)
   ·rw[if_neg (by simpa using h3),Adk,Acj,c1,Aa,c2,Aa,c3,Aa,c4,Aa,c5,Aa,lp _ _ (by omega),Aa,lp _ _ (by omega),Aa,lp _ _ (by omega),Aa,lp _ _ (by omega),Aa,lp _ _ (by omega),Aa,
     Ack,Ad2,Aca (by rw[Ck (by omega)];omega),Aca (by rw[Ck (by omega)];omega),Aca (by rw[Ck (by omega)];omega),Aca (by rw[Ck (by omega)];omega),Aca (by rw[Ck (by omega)];omega)]
    rw[show Di (part b 4 2)=f0 b from rfl,show Di (part b 6 2)=f1 b from rfl,show Di (part b 8 2)=f2 b from rfl,show Di (part b 10 4)=f3 b from rfl,show Di (part b 14 4)=f4 b from rfl,Bog,Aa]
    cases h4:shapeB (f0 b) (f1 b) (f2 b) (f3 b) (f4 b)with
    |false=>rw[rs4 h h2 h3 h4];rfl
    |true=>
     rw[Bvg h4,if_neg (by simp),Aa]
     cases h5:fitB (f1 b) (f3 b) (f4 b)with
     |false=>rw[rs5 h h2 h3 h4 h5];rfl
     |true=>rw[rs6 h h2 h3 h4 h5];rfl
   ·rw[if_pos (by simpa using h3),rs3 h h2 h3]
 ·rw[if_pos (by simpa [Aza]using h),rs1 h]
theorem Bk6{b:List UInt8}(h:(readS b).2.2.2.2.2=0):readS b=((f0 b:Int),(f1 b:Int),(f2 b:Int),(f3 b:Int),(f4 b:Int),0)∧22≤b.length∧shapeB (f0 b) (f1 b) (f2 b) (f3 b) (f4 b)=true∧fitB (f1 b) (f3 b) (f4 b)=true:=by
 unfold readS at h⊢
 split at h; · simp at h
 rename_i c1;rw[if_neg c1]
 split at h; · simp at h
 rename_i c2;rw[if_neg c2]
 split at h; · simp at h
 rename_i c3;rw[if_neg c3]
 split at h; · simp at h
 rename_i c4;rw[if_neg c4]
 split at h; · simp at h
 rename_i c5;rw[if_neg c5]
 exact⟨rfl,by omega,by simpa using c4,by simpa using c5⟩
theorem Ap3{f c w r n:Nat}(h:shapeB f c w r n=true)(h2:fitB c r n=true):Lj (f:Int) (c:Int) (w:Int) (r:Int) (n:Int)=some (framesL (longN r) n,0):=by
 have hc:Xx (f:Int) (c:Int) (w:Int) (r:Int) (n:Int)=some 0:=by
  rw[Xx,Ayq,Aa,h,if_neg (by simp),Bf4 h,Aa,h2];rfl
 have hd:4000/c≤4000:=Nat.div_le_self _ _
 simp only[shapeB,decide_eq_true_eq]at h
 simp only[fitB,decide_eq_true_eq]at h2
 rw[Lj,hc,Aa,if_neg (by rw[Aj];simp),Bvf (by omega) (by omega) (by omega) (by omega) h2.2]
 rfl
end Go.Pl
set_option linter.unusedVariables false
set_option linter.unusedSimpArgs false
namespace Go.Pl
open Go Go.Lv
def okL:List Int→Int→Bool
 |[],_=>true
 |x::l,left=>decide (5≤x∧x≤left)&&okL l (left-x)
theorem Bwu:∀l:List Int,(∀x∈l,5≤x)→0≤l.sum
 |[],_=>by simp
 |x::l,h=>by
  have h1:=h x List.mem_cons_self
  have h2:=Bwu l fun y hy=>h y (List.mem_cons_of_mem _ hy)
  rw[List.sum_cons];omega
theorem Bah:∀(l:List Int) (left:Int),0≤left→(okL l left=true↔(∀x∈l,5≤x)∧l.sum≤left)
 |[],left,h=>by simp[okL];exact h
 |x::l,left,h=>by
  rw[okL,Bool.and_eq_true,decide_eq_true_eq,List.sum_cons]
  by_cases hx:5≤x∧x≤left
  ·rw[Bah l (left-x) (by omega)]
   constructor
   ·rintro⟨_,h1,h2⟩
    exact⟨fun y hy=>(List.mem_cons.1 hy).elim (fun e=>e▸hx.1) (h1 y),by omega⟩
   ·rintro⟨h1,h2⟩
    exact⟨hx,fun y hy=>h1 y (List.mem_cons_of_mem _ hy),by omega⟩
  ·constructor
   ·rintro⟨h1,_⟩;exact absurd h1 hx
   ·rintro⟨h1,h2⟩
    have h3:=h1 x List.mem_cons_self
    have:0≤l.sum:=Bwu l fun y hy=>h1 y (List.mem_cons_of_mem _ hy)
    omega
theorem Bbv(l:List Int)(hl:l.length≤1000):∀(j i q:Nat) (left:Int),i+j=l.length→j<q→0≤left→left≤100000→Mm l q left (i:Int)=some (if okL (l.drop i) left=true then 0 else 8)
 |0,i,q+1,left,hi,_,_,_=>by
  rw[Mm,Yb,if_neg (by rw[Af,Ac];simp;omega),show i=l.length by omega,List.drop_length];rfl
 |j+1,i,q+1,left,hi,hq,h0,h1=>by
  have hlt:i<l.length:=by omega
  rw[Mm,Yb,if_pos (by rw[Af,Ac];simp;omega),Ca hlt,Aa,drop_cons hlt]
  by_cases h:5≤l[i]∧l[i]≤left
  ·rw[if_neg (by simp[Af,Aq];omega),Bi (by omega) (by omega),Ag (by omega) (by omega)]
   have ih:=Bbv l hl j (i+1) q (left-l[i]) (by omega) (by omega) (by omega) (by omega)
   rw[show((i:Int)+1)=((i+1:Nat):Int) by omega,ih]
   simp[okL,h]
  ·rw[if_pos (by simp[Af,Aq];omega)]
   have:okL (l[i]::l.drop (i+1)) left=false:=by rw[okL,decide_eq_false h];rfl
   rw[this];rfl
def Ari(l:List Int):Bool:=decide (1≤l.length∧l.length≤1000)&&okL l 100000
theorem Bh4(l:List Int)(hl:l.length≤1000):Ky l=some (if Ari l=true then 0 else 8):=by
 rw[Ky,Xp,Ari]
 by_cases h:1≤l.length
 ·rw[if_neg (by rw[Bp,Aq,Ac];simp;constructor;(intro e;subst e;simp at h);omega),Af6]
  have:=Bbv l hl l.length 0 Am 100000 (by omega) (by have:=Al;omega) (by omega) (by omega)
  rw[List.drop_zero]at this
  rw[decide_eq_true (show 1≤l.length∧l.length≤1000 from⟨h,hl⟩),Bool.true_and]
  exact this
 ·have:l=[]:=by
   cases l with
   |nil=>rfl
   |cons _ _=>simp at h
  subst this;rfl
theorem Bfx(l:List Int)(hl:l.length≤1000):∀(j i q:Nat) (s:Int),i+j=l.length→j<q→0≤s→s≤100000*(i:Int)→Gx l q s (i:Int)=some (if(∀x∈l.drop i,5≤x∧x≤100000)∧s+(l.drop i).sum≤100000 then 0 else 8)
 |0,i,q+1,s,hi,_,_,_=>by
  rw[Gx,Ox,if_neg (by rw[Af,Ac];simp;omega),show i=l.length by omega,List.drop_length,Zk,Xu]
  by_cases h:s≤100000
  ·rw[if_neg (by rw[Aq];simp;omega),if_pos (by simp;omega)]
  ·rw[if_pos (by rw[Aq];simp;omega),if_neg (by simp;omega)]
 |j+1,i,q+1,s,hi,hq,h0,h1=>by
  have hlt:i<l.length:=by omega
  rw[Gx,Ox,if_pos (by rw[Af,Ac];simp;omega),Ca hlt,Aa,drop_cons hlt]
  by_cases h5:l[i]<5
  ·rw[if_pos (by rw[Af];simpa using h5),if_neg (fun h=>by have:=(h.1 l[i] List.mem_cons_self).1;omega)]
  ·rw[if_neg (by rw[Af];simpa using h5),Aa]
   by_cases h6:100000<l[i]
   ·rw[if_pos (by rw[Aq];simpa using h6),if_neg (fun h=>by have:=(h.1 l[i] List.mem_cons_self).2;omega)]
   ·rw[if_neg (by rw[Aq];simpa using h6),Aak,Aay,Ca hlt,Aa,Ag (by omega) (by omega),Ag (by omega) (by omega)]
    have ih:=Bfx l hl j (i+1) q (s+l[i]) (by omega) (by omega) (by omega) (by omega)
    rw[show((i:Int)+1)=((i+1:Nat):Int) by omega,ih]
    have e:((∀x∈l.drop (i+1),5≤x∧x≤100000)∧s+l[i]+(l.drop (i+1)).sum≤100000)↔((∀x∈l[i]::l.drop (i+1),5≤x∧x≤100000)∧s+(l[i]::l.drop (i+1)).sum≤100000):=by
     rw[List.sum_cons,List.forall_mem_cons,Int.add_assoc]
     constructor
     ·rintro⟨a,b⟩;exact⟨⟨by omega,a⟩,b⟩
     ·rintro⟨⟨_,a⟩,b⟩;exact⟨a,b⟩
    simp only[e]
theorem Bne:∀{l:List Int},(∀x∈l,5≤x)→∀x∈l,x≤l.sum
 |[],_,x,hx=>by simp at hx
 |y::l,h,x,hx=>by
  have h1:=h y List.mem_cons_self
  have h2:=Bwu l fun z hz=>h z (List.mem_cons_of_mem _ hz)
  rw[List.sum_cons]
  rcases List.mem_cons.1 hx with rfl|hx
  ·omega
  ·have:=Bne (l:=l) (fun z hz=>h z (List.mem_cons_of_mem _ hz)) x hx
   omega
theorem Bkk(l:List Int)(hl:l.length≤1000):Hf l=some (if Ari l=true then 0 else 8):=by
 rw[Hf,Oq,Ari]
 by_cases h:1≤l.length
 ·have:=Bfx l hl l.length 0 Am 0 (by omega) (by have:=Al;omega) (by omega) (by omega)
  rw[if_neg (by rw[Af,Aq,Ac];simp;omega),Aae]
  refine Eq.trans this ?_
  rw[List.drop_zero,decide_eq_true (show 1≤l.length∧l.length≤1000 from⟨h,hl⟩),Bool.true_and]
  have e:((∀x∈l,5≤x∧x≤100000)∧0+l.sum≤100000)↔okL l 100000=true:=by
   rw[Bah l 100000 (by omega),Int.zero_add]
   constructor
   ·rintro⟨a,b⟩;exact⟨fun x hx=>(a x hx).1,b⟩
   ·rintro⟨a,b⟩;exact⟨fun x hx=>⟨a x hx,Int.le_trans (Bne a x hx) b⟩,b⟩
  simp only[e]
 ·have:l=[]:=by
   cases l with
   |nil=>rfl
   |cons _ _=>simp at h
  subst this;rfl
theorem Bbw(l:List Int):Ky l=some (if Ari l=true then 0 else 8):=by
 by_cases hl:l.length≤1000
 ·exact Bh4 l hl
 ·rw[Ky,Xp,if_pos (by rw[Aq,Ac];simp;omega),Ari,decide_eq_false (by omega)];rfl
theorem Be5(l:List Int):Hf l=some (if Ari l=true then 0 else 8):=by
 by_cases hl:l.length≤1000
 ·exact Bkk l hl
 ·rw[Hf,Oq,if_pos (by rw[Aq,Ac];simp;omega),Ari,decide_eq_false (by omega)];rfl
theorem Bc1(l:List Int)(hl:l.length≤1000)(hx:∀x∈l,0≤x∧x<4294967296):Ky l=some (if Ari l=true then 0 else 8):=Bbw l
theorem Br2(l:List Int)(hl:l.length≤1000)(hx:∀x∈l,0≤x∧x<4294967296):Hf l=some (if Ari l=true then 0 else 8):=Be5 l
def Ajq(b:List UInt8)(n:Nat):List Int:=(List.range n).map fun i=>(Di (part b (4*i) 4):Int)
theorem Acx(b:List UInt8)(n:Nat):(Ajq b n).length=n:=by simp[Ajq]
theorem Bf0(b:List UInt8)(n:Nat):Ajq b (n+1)=Ajq b n++[(Di (part b (4*n) 4):Int)]:=by simp[Ajq,List.range_succ]
theorem Bqy(b:List UInt8)(n:Nat)(h:4*n≤b.length):∀x∈Ajq b n,0≤x∧x<4294967296:=by
 intro x hx
 simp only[Ajq,List.mem_map,List.mem_range]at hx
 obtain⟨i,hi,rfl⟩:=hx
 have:=Bqn (l:=part b (4*i) 4) (by rw[Ck (by omega)];omega)
 omega
def seekS(b:List UInt8)(n:Nat):List Int×Int:=
 if ¬(1≤n∧n≤1000)then([],2)else if b.length<4*n+4 then([],24)else if(Fx (b.take (4*n))).toNat≠Di (part b (4*n) 4)then([],22)else
 if Ari (Ajq b n)=true then(Ajq b n,0)else([],12)
theorem Bp4{b:List UInt8}{n:Nat}(h:1≤n∧n≤1000)(h2:¬b.length<4*n+4):Bb (Ae (Fx (b.take (4*n))):UInt64) (leU (part b (4*n) 4))=decide ((Fx (b.take (4*n))).toNat≠Di (part b (4*n) 4)):=by
 rw[Afh,Gg,Bool.eq_iff_iff]
 simp only[bne_iff_ne,ne_eq,decide_eq_true_eq]
 rw[←UInt64.toNat_inj,Ait (by have:=(Fx (b.take (4*n))).toNat_lt;omega),Aiw (by rw[Ck (by omega)];omega)]
section
variable {b:List UInt8} {n:Nat}
theorem ss1(h:¬(1≤n∧n≤1000)):seekS b n=([],2):=by rw[seekS,if_pos h]
variable (h:1≤n∧n≤1000)
include h
theorem ss2(h2:b.length<4*n+4):seekS b n=([],24):=by rw[seekS,if_neg (fun e=>e h),if_pos h2]
variable (h2:¬b.length<4*n+4)
include h2
theorem ss3(h3:(Fx (b.take (4*n))).toNat≠Di (part b (4*n) 4)):seekS b n=([],22):=by rw[seekS,if_neg (fun e=>e h),if_neg h2,if_pos h3]
theorem ss4(h3:(Fx (b.take (4*n))).toNat=Di (part b (4*n) 4)):seekS b n=if Ari (Ajq b n)=true then(Ajq b n,0)else([],12):=by rw[seekS,if_neg (fun e=>e h),if_neg h2,if_neg (fun e=>e h3)]
end
theorem Bgj(b:List UInt8)(l8:List Int)(n:Nat)(hn:n≤1000)(h8:l8.length=n)(hb:4*n+4≤b.length)(hb2:b.length<4611686018427387904):∀(j i q:Nat),i+j=n→j<q→Ny b l8 q (i:Int) (Ajq b i++List.replicate j 0)=Acf (Ajq b n)
 |0,i,q+1,hi,_=>by
  obtain rfl:i=n:=by omega
  rw[Ny,Ab5,if_neg (by rw[Af,Ac];simp;omega)];simp
 |j+1,i,q+1,hi,hq=>by
  have hlen:(Ajq b i++List.replicate (j+1) 0).length=i+(j+1):=by simp[Acx]
  have ha:=Bgn b (4*i) 4 (by omega) (by omega) (by omega) hb2
  rw[Ny,Ab5,if_pos (by rw[Af,Ac];simp;omega),Fm (by omega) (by omega),show(4:Int)*(i:Int)=((4*i:Nat):Int) by omega,show(4:Int)=((4:Nat):Int)from rfl,ha,Aa]
  simp only
  rw[Ca (by rw[hlen];omega),Aa,Ti _ (by rw[hlen];omega),Aa,Aca (by rw[Ck (by omega)];omega),Ag (by omega) (by omega),List.replicate_succ,Asc (Acx _ _)]
  have ih:=Bgj b l8 n hn h8 hb hb2 j (i+1) q (by omega) (by omega)
  rw[Bf0]at ih
  rw[show((i:Int)+1)=((i+1:Nat):Int) by omega,←ih]
  simp
theorem Bgv(b:List UInt8)(n:Nat)(hb:b.length≤100100):Agt b (n:Int)=some (seekS b n):=by
 rw[Agt,Ajn]
 by_cases h:1≤n∧n≤1000
 ·rw[if_neg (by simp[Af,Aq];omega),Fm (by omega) (by omega),Ag (by omega) (by omega)]
  by_cases h2:b.length<4*n+4
  ·rw[if_pos (by rw[Af,Ac];simp;omega),ss2 h h2]
  ·have ha:Ali b (4*(n:Int)) 4=some (leU (part b (4*n) 4),0):=by
    rw[show(4:Int)*(n:Int)=((4*n:Nat):Int) by omega]
    exact Bgn b (4*n) 4 (by omega) (by omega) (by omega) (by omega)
   rw[if_neg (by rw[Af,Ac];simp;omega),ha,Aa]
   simp only
   rw[Iw (by omega) (by omega),Aa,show(4*(n:Int)).toNat=4*n by omega,Bm7 _ (by simp;omega),Aa]
   simp only
   rw[Bp4 h h2]
   by_cases h3:(Fx (b.take (4*n))).toNat=Di (part b (4*n) 4)
   ·have hlp:=Bgj b (List.replicate n 0) n (by omega) (by simp) (by omega) (by omega) n 0 Am (by omega) (by have:=Al;omega)
    rw[if_neg (by simpa using h3),Bdf (by omega) (by omega),Aa,Bz (by rw[Bp];simp),Aa,Ajj,Int.toNat_natCast]
    refine Eq.trans (hlp) ?_
    rw[Acf,Att,Bc1 _ (by rw[Acx];omega) (Bqy b n (by omega)),Aa,ss4 h h2 h3]
    cases Ari (Ajq b n)<;>rfl
   ·rw[if_pos (by simpa using h3),ss3 h h2 h3]
 ·rw[if_pos (by simp[Af,Aq];omega),ss1 h]
theorem At7(b:List UInt8)(n:Nat)(hn:n≤1000)(hb:4*n+4≤b.length)(hb2:b.length<4611686018427387904):∀(j i q:Nat),i+j=n→j<q→Hn b (n:Int) q (i:Int) (Ajq b i)=Qx (Ajq b n)
 |0,i,q+1,hi,_=>by
  obtain rfl:i=n:=by omega
  rw[Hn,Rg,if_neg (by rw[Af];simp)]
 |j+1,i,q+1,hi,hq=>by
  have hc:Bo b ((4:Int)*(i:Int)) ((4:Int)*(i:Int)+4)=some (part b (4*i) 4):=by
   rw[show(4:Int)*(i:Int)=((4*i:Nat):Int) by omega]
   exact Kz (4*i) 4 (by omega)
  rw[Hn,Rg,if_pos (by rw[Af];simp;omega),Fm (by omega) (by omega),Ag (by omega) (by omega),hc,Aa,Bl4 _ (by rw[Ck (by omega)];omega),Aa,Fc (by rw[Acx];simp;omega),Aa,
   Aca (by rw[Ck (by omega)];omega),Ag (by omega) (by omega),←Bf0]
  exact At7 b n hn hb hb2 j (i+1) q (by omega) (by omega)
theorem Bml(b:List UInt8)(n:Nat)(hb:b.length≤100100):Ps b (n:Int)=some (seekS b n):=by
 rw[Ps,Acl]
 by_cases h:1≤n∧n≤1000
 ·rw[if_neg (by simp[Af,Aq];omega),Fm (by omega) (by omega),Ag (by omega) (by omega)]
  by_cases h2:b.length<4*n+4
  ·rw[if_pos (by rw[Af,Ac];simp;omega),ss2 h h2]
  ·have hc:Bo b ((4:Int)*(n:Int)) ((4:Int)*(n:Int)+4)=some (part b (4*n) 4):=by
    rw[show(4:Int)*(n:Int)=((4*n:Nat):Int) by omega]
    exact Kz (4*n) 4 (by omega)
   have hs:Bb (leU (part b (4*n) 4)) (Ae (Fx (b.take (4*n))):UInt64)=decide ((Fx (b.take (4*n))).toNat≠Di (part b (4*n) 4)):=by
    rw[←Bp4 h h2,Afh,Afh,Bool.eq_iff_iff];simp only[bne_iff_ne,ne_eq];exact not_congr eq_comm
   rw[if_neg (by rw[Af,Ac];simp;omega),hc,Aa,Iw (by omega) (by omega),Aa,show(4*(n:Int)).toNat=4*n by omega,Bl4 _ (by rw[Ck (by omega)];omega),Aa,Bwn _ (by simp;omega),Aa,hs]
   by_cases h3:(Fx (b.take (4*n))).toNat=Di (part b (4*n) 4)
   ·have hlp:=At7 b n (by omega) (by omega) (by omega) n 0 Am (by omega) (by have:=Al;omega)
    rw[if_neg (by simpa using h3),Ads,Acv,Acy]
    refine Eq.trans hlp ?_
    rw[Qx,Ac7,Br2 _ (by rw[Acx];omega) (Bqy b n (by omega)),Aa,ss4 h h2 h3]
    cases Ari (Ajq b n)<;>rfl
   ·rw[if_pos (by simpa using h3),ss3 h h2 h3]
 ·rw[if_pos (by simp[Af,Aq];omega),ss1 h]
theorem Bb7{b:List UInt8}{n:Nat}(h:(seekS b n).2=0):seekS b n=(Ajq b n,0)∧1≤n∧n≤1000∧4*n+4≤b.length∧(∀x∈Ajq b n,5≤x)∧(Ajq b n).sum≤100000:=by
 unfold seekS at h⊢
 split at h; · simp at h
 rename_i c1;rw[if_neg c1]
 split at h; · simp at h
 rename_i c2;rw[if_neg c2]
 split at h; · simp at h
 rename_i c3;rw[if_neg c3]
 split at h
 ·rename_i c4
  rw[if_pos c4]
  have c4':=c4
  rw[Ari,Bool.and_eq_true,Bah _ _ (by omega)]at c4'
  exact⟨rfl,by omega,by omega,by omega,c4'.2.1,c4'.2.2⟩
 ·simp at h
end Go.Pl
set_option linter.unusedVariables false
set_option linter.unusedSimpArgs false
namespace Go.Pl
open Go Go.Lv
def hdr(b:List UInt8):List UInt8:=b.drop (frontS b).1.toNat
abbrev Op8:=Int×Int×Int×Int×Int×Int×(List Int)×Int
def Aro(e:Int):Op8:=(0,0,0,0,0,0,[],e)
theorem Bvs(A K:Nat)(h:A≤200000)(hk:K≤1000):Ad (Ad (A:Int) (Ax 4 (K:Int))) 4=((A+4*K+4:Nat):Int):=by
 rw[Fm (by omega) (by omega),Ag (a:=(A:Int)) (by omega) (by omega),Ag (by omega) (by omega)];omega
theorem Bfq{f c w r n:Nat}(h1:shapeB f c w r n=true)(h2:fitB c r n=true)(b:List UInt8)(hb:b.length≤100100)(A:Nat)(hA:A≤b.length):
  Lw b (f:Int) (c:Int) (w:Int) (r:Int) (n:Int) (A:Int)=
   some (if(seekS (b.drop A) (framesL (longN r) n).length).2≠0 then Aro (seekS (b.drop A) (framesL (longN r) n).length).2 else((f:Int),(c:Int),(w:Int),(r:Int),(n:Int),((A+4*(framesL (longN r) n).length+4:Nat):Int),(seekS (b.drop A) (framesL (longN r) n).length).1,0)):=by
 rw[Lw,Aqq,Ap3 h1 h2,Aa]
 simp only
 rw[if_neg (by rw[Aj];simp),Ge (by omega) (by omega),Aa,Ac,show(A:Int).toNat=A from rfl,Bgv _ _ (by simp;omega),Aa]
 by_cases h:(seekS (b.drop A) (framesL (longN r) n).length).2≠0
 ·rw[if_pos h,if_pos (by rw[Aj];simpa using h)];rfl
 ·have h0:(seekS (b.drop A) (framesL (longN r) n).length).2=0:=by simpa using h
  obtain⟨g1,g2,g3,g4,g5,g6⟩:=Bb7 h0
  have gl:(seekS (b.drop A) (framesL (longN r) n).length).1.length=(framesL (longN r) n).length:=by rw[g1];exact Acx _ _
  rw[if_neg h,if_neg (by rw[Aj];simpa using h),Ac,gl,Bvs _ _ (by omega) (by omega)]
theorem Bv8{f c w r n:Nat}(h1:shapeB f c w r n=true)(h2:fitB c r n=true)(b:List UInt8)(hb:b.length≤100100)(A:Nat)(hA:A≤b.length):
  Ir b (f:Int) (c:Int) (w:Int) (r:Int) (n:Int) (A:Int)=
   some (if(seekS (b.drop A) (framesL (longN r) n).length).2≠0 then Aro (seekS (b.drop A) (framesL (longN r) n).length).2 else((f:Int),(c:Int),(w:Int),(r:Int),(n:Int),((A+4*(framesL (longN r) n).length+4:Nat):Int),(seekS (b.drop A) (framesL (longN r) n).length).1,0)):=by
 have hs:(1≤r∧r≤1048576)∧1≤n∧1≤c:=by
  simp only[shapeB,decide_eq_true_eq]at h1;omega
 have hf:n≤4000:=by
  simp only[fitB,decide_eq_true_eq]at h2
  have:=Nat.div_le_self 4000 c
  omega
 rw[Ir,Xz,Ge (by omega) (by omega),Aa,Aq7 hs.1.2 hs.2.1 hf,Aa,Ac,show(A:Int).toNat=A from rfl,Bml _ _ (by simp;omega),Aa]
 simp only
 rw[Yt,Yx]
 by_cases h:(seekS (b.drop A) (framesL (longN r) n).length).2≠0
 ·rw[if_pos h,if_pos (by rw[Aj];simpa using h)];rfl
 ·have h0:(seekS (b.drop A) (framesL (longN r) n).length).2=0:=by simpa using h
  obtain⟨g1,g2,g3,g4,g5,g6⟩:=Bb7 h0
  have gl:(seekS (b.drop A) (framesL (longN r) n).length).1.length=(framesL (longN r) n).length:=by rw[g1];exact Acx _ _
  rw[if_neg h,if_neg (by rw[Aj];simpa using h),Ac,gl,Bvs _ _ (by omega) (by omega)]
structure Opn (b p:List UInt8) (f c w r n A:Nat) (l:List Int):Prop where
 prog:seekto_Open b p=some ((f:Int),(c:Int),(w:Int),(r:Int),(n:Int),(A:Int),l,0)
 ref:cadenzaref40_Opened b p=some ((f:Int),(c:Int),(w:Int),(r:Int),(n:Int),(A:Int),l,0)
 pass:p.length≤64
 file:b.length≤100000
 shape:shapeB f c w r n=true
 fit:fitB c r n=true
 len:l.length=(framesL (longN r) n).length
 some1:1≤l.length∧l.length≤1000
 five:∀x∈l,5≤x
 sum:l.sum≤100000
 at':A≤b.length
 tag:(frontS b).2=0
 head:readS (hdr b)=((f:Int),(c:Int),(w:Int),(r:Int),(n:Int),0)
 tab:seekS (b.drop ((frontS b).1.toNat+22+(if f=2 then 8 else 0))) l.length=(l,0)
 pos:A=(frontS b).1.toNat+22+(if f=2 then 8 else 0)+4*l.length+4
theorem Bih(b p:List UInt8)(hb:b.length≤100100)(hp:p.length≤64):
  (∃e:Int,e≠0∧seekto_Open b p=some (Aro e)∧cadenzaref40_Opened b p=some (Aro e))∨(∃f c w r n A l,Opn b p f c w r n A l):=by
 by_cases h1:100000<b.length
 ·refine .inl ⟨4,by omega,?_,?_⟩
  ·rw[seekto_Open,Qv,if_neg (by rw[Aq,Ac];simp;omega),if_pos (by rw[Aq,Ac];simp;omega)];rfl
  ·rw[cadenzaref40_Opened,Nn,if_pos (by rw[Aq,Ac];simp;omega)];rfl
 have hP:seekto_Open b p=seekto_Open b p:=rfl
 have hR:cadenzaref40_Opened b p=cadenzaref40_Opened b p:=rfl
 conv at hP=>rhs;rw[seekto_Open,Qv,if_neg (by rw[Aq,Ac];simp;omega),if_neg (by rw[Aq,Ac];simp;omega),Apw b (by omega),Aa]
 conv at hR=>rhs;rw[cadenzaref40_Opened,Nn,if_neg (by rw[Aq,Ac];simp;omega),Awl b (by omega),Aa]
 by_cases h2:(frontS b).2=0
 ·obtain⟨p0,p1,p2⟩:=Bgu h2
  have hc:=Ge (l:=b) p0 p1
  simp only[h2]at hP hR
  rw[if_neg (by rw[Aj];simp),hc,Aa,show b.drop (frontS b).1.toNat=hdr b from rfl,Bfk _ (by simp[hdr];omega),Aa]at hP
  rw[if_neg (by rw[Aj];simp),hc,Aa,show b.drop (frontS b).1.toNat=hdr b from rfl,Bl1 _ (by simp[hdr];omega),Aa]at hR
  by_cases h3:(readS (hdr b)).2.2.2.2.2=0
  ·obtain⟨g1,g2,g3,g4⟩:=Bk6 h3
   have hlen:(hdr b).length=b.length-(frontS b).1.toNat:=by simp[hdr]
   generalize hF:(frontS b).1.toNat=F at*
   have hF':(frontS b).1=(F:Int):=by omega
   rw[g1,hF']at hP hR
   simp only at hP hR
   generalize f0 (hdr b)=f at*
   generalize f1 (hdr b)=c at*
   generalize f2 (hdr b)=w at*
   generalize f3 (hdr b)=r at*
   generalize f4 (hdr b)=n at*
   have t22:Ad (F:Int) 22=((F+22:Nat):Int):=by rw[Ag (by omega) (by omega)];omega
   have t30:Ad ((F+22:Nat):Int) 8=((F+30:Nat):Int):=by rw[Ag (by omega) (by omega)];omega
   have hf12:f=1∨f=2:=by simp only[shapeB,decide_eq_true_eq]at g3;omega
   rw[if_neg (by rw[Aj];simp),t22,t30]at hP hR
   have hend:∀A:Nat,A≤b.length→A=F+22+(if f=2 then 8 else 0)→seekto_Open b p=Lw b (f:Int) (c:Int) (w:Int) (r:Int) (n:Int) (A:Int)→cadenzaref40_Opened b p=Ir b (f:Int) (c:Int) (w:Int) (r:Int) (n:Int) (A:Int)→
     (∃e:Int,e≠0∧seekto_Open b p=some (Aro e)∧cadenzaref40_Opened b p=some (Aro e))∨(∃f c w r n A l,Opn b p f c w r n A l):=by
    intro A hA hA2 e1 e2
    rw[Bfq g3 g4 b hb A hA]at e1
    rw[Bv8 g3 g4 b hb A hA]at e2
    by_cases h:(seekS (b.drop A) (framesL (longN r) n).length).2≠0
    ·rw[if_pos h]at e1 e2
     exact .inl ⟨_,h,e1,e2⟩
    ·have h0:(seekS (b.drop A) (framesL (longN r) n).length).2=0:=by simpa using h
     obtain⟨k1,k2,k3,k4,k5,k6⟩:=Bb7 h0
     have gl:(seekS (b.drop A) (framesL (longN r) n).length).1.length=(framesL (longN r) n).length:=by rw[k1];exact Acx _ _
     rw[if_neg h]at e1 e2
     rw[List.length_drop]at k4
     refine .inr ⟨f,c,w,r,n,_,_,⟨e1,e2,hp,by omega,g3,g4,gl,by omega,by rw[k1];exact k5,by rw[k1];exact k6,by omega,h2,g1,by rw[gl,hF,←hA2];exact Prod.ext rfl h0,by rw[gl,hF,←hA2]⟩⟩
   by_cases hpass:((p==([]:List UInt8)) !=(geq (f:Int) (1:Int)))=true
   ·rw[if_pos hpass]at hP hR
    exact .inl ⟨26,by omega,hP,hR⟩
   ·rw[if_neg hpass]at hP hR
    have hpf:(p=[]↔f=1):=by
     rw[Bp]at hpass
     have h5:(p==([]:List UInt8))=((f:Int)==1):=by simpa using hpass
     have h6:(p==([]:List UInt8))=true↔((f:Int)==1)=true:=by rw[h5]
     rw[beq_iff_eq,beq_iff_eq]at h6
     rw[h6];omega
    by_cases h5:f=2
    ·have hpne:p≠ []:=fun e=>by have:=hpf.1 e;omega
     have h64:(p !=([]:List UInt8))=true:=by simpa using hpne
     rw[if_pos h64]at hP
     rw[if_pos (by rw[Bp,h5];rfl),Bi (by rw[Ac];omega) (by rw[Ac];omega)]at hR
     by_cases h6:b.length<F+30
     ·rw[if_pos (by rw[Af,Ac];simp;omega)]at hP hR
      exact .inl ⟨24,by omega,hP,hR⟩
     ·have hseg:((b.take (F+30)).drop (F+22)).length=8:=by simp;omega
      rw[if_neg (by rw[Af,Ac];simp;omega),Oo (by omega) (by omega) (by omega),Aa]at hP hR
      rw[Sd,Bfl p hp,Aa]at hP
      rw[Bgz p hp,Aa]at hR
      simp only at hP
      rw[if_neg (by rw[Aj,Aj,Ac,Ac,Kw,show((F+30:Nat):Int).toNat=F+30 from rfl,show((F+22:Nat):Int).toNat=F+22 from rfl,hseg];simp),Fj,Aa,Aa]at hP
      simp only at hP
      rw[if_neg (by rw[Aj];simp)]at hP
      generalize(b.take ((F+30:Nat):Int).toNat).drop ((F+22:Nat):Int).toNat=seg at*
      by_cases h7:seg=leB (Adh p).toNat 8
      ·rw[if_neg (by simp[h7])]at hP
       rw[if_neg (by simp[h7])]at hR
       exact hend (F+30) (by omega) (by rw[if_pos h5]) hP hR
      ·rw[if_pos (by simpa using h7)]at hP
       rw[if_pos (by simpa using h7)]at hR
       exact .inl ⟨26,by omega,hP,hR⟩
    ·have hpe:p=[]:=hpf.2 (by omega)
     rw[if_neg (by rw[hpe];simp)]at hP
     rw[if_neg (by rw[Bp];simp;omega)]at hR
     exact hend (F+22) (by omega) (by rw[if_neg h5]) hP hR
  ·generalize readS (hdr b)=v at*
   obtain⟨v1,v2,v3,v4,v5,v6⟩:=v
   simp only at h3 hP hR
   rw[if_pos (by rw[Aj];simpa using h3)]at hP hR
   exact .inl ⟨v6,h3,hP,hR⟩
 ·generalize frontS b=v at*
  obtain⟨v,e⟩:=v
  simp only at h2 hP hR
  rw[if_pos (by rw[Aj];simpa using h2)]at hP hR
  exact .inl ⟨e,h2,hP,hR⟩
end Go.Pl
set_option linter.unusedVariables false
set_option linter.unusedSimpArgs false
namespace Go.Pl
open Go Go.Lv
theorem Bgf(l:List Int)(i:Nat):(l.take i).sum+(l.drop i).sum=l.sum:=by
 conv=>rhs;rw[←List.take_append_drop i l,List.sum_append]
theorem Ed{l:List Int}(h5:∀x∈l,5≤x)(i:Nat):0≤(l.take i).sum∧(l.take i).sum≤l.sum:=by
 have h1:=Bwu (l.take i) fun x hx=>h5 x (List.mem_of_mem_take hx)
 have h2:=Bwu (l.drop i) fun x hx=>h5 x (List.mem_of_mem_drop hx)
 have:=Bgf l i
 omega
theorem Iz{l:List Int}{i:Nat}(h:i<l.length):(l.take (i+1)).sum=(l.take i).sum+l[i]:=by
 rw[Aft h,List.sum_append];simp
def Awe(l:List Int)(n:Nat):List Int:=(List.range n).map fun i=>(l.take i).sum
theorem Bly(l:List Int)(n:Nat):(Awe l n).length=n:=by simp[Awe]
theorem Bs8(l:List Int)(n:Nat):Awe l (n+1)=Awe l n++[(l.take n).sum]:=by simp[Awe,List.range_succ]
theorem Bcg(l:List Int){n i:Nat}(h:i<n):getI (Awe l n) (i:Int)=some ((l.take i).sum):=by
 rw[Ca (by rw[Bly];exact h)];simp[Awe]
section
variable {l:List Int} (hl:l.length≤1000) (h5:∀x∈l,5≤x) (hs:l.sum≤100000)
include hl h5 hs
theorem Bgq:∀(j i q:Nat),i+j=l.length→j<q→Jd l q (i:Int) ((l.take i).sum) (Awe l (i+1))=some (Awe l (l.length+1),0)
 |0,i,q+1,hi,_=>by
  rw[Jd,Rq,if_neg (by rw[Af,Ac];simp;omega),show i=l.length by omega];rfl
 |j+1,i,q+1,hi,hq=>by
  have hlt:i<l.length:=by omega
  have ih:=Bgq j (i+1) q (by omega) (by omega)
  have b1:=Ed h5 i
  have b2:=Ed h5 (i+1)
  have e:=Iz hlt
  rw[Bs8 l (i+1),e]at ih
  rw[Jd,Rq,if_pos (by rw[Af,Ac];simp;omega),Ca hlt,Aa,Ag (by omega) (by omega),Fc (by simp[Bly];omega),Aa,Abv,Ale,Ag (by omega) (by omega),Ag (by omega) (by omega)]
  exact ih
theorem Byu(h1:1≤l.length):Tv l=some (Awe l (l.length+1),0):=by
 have h:=Bgq hl h5 hs l.length 0 Am (by omega) (by have:=Al;omega)
 have hx:∀x∈l,0≤x∧x<4294967296:=fun x hx=>by
  have:=Bne h5 x hx
  have:=h5 x hx
  omega
 have ht:Ari l=true:=by
  rw[Ari,Bool.and_eq_true]
  exact⟨by simpa using⟨h1,hl⟩,(Bah l 100000 (by omega)).2 ⟨h5,hs⟩⟩
 rw[Tv,Abc,Bc1 l hl hx,Aa,if_pos ht,if_neg (by rw[Aj];simp)]
 exact h
theorem Bca(f c w r n A:Int)(hA:0≤A)(hA2:A≤200000)(k:Nat)(hk:k≤l.length):∀(j i q:Nat),i+j=k→j<q→Gt (k:Int) f c w r n A l q (A+(l.take i).sum) (i:Int)=some (A+(l.take k).sum)
 |0,i,q+1,hi,_=>by
  rw[Gt,Oj,if_neg (by rw[Af];simp;omega),show i=k by omega];rfl
 |j+1,i,q+1,hi,hq=>by
  have hlt:i<l.length:=by omega
  have ih:=Bca f c w r n A hA hA2 k hk j (i+1) q (by omega) (by omega)
  have b1:=Ed h5 i
  have b2:=Ed h5 (i+1)
  have e:=Iz hlt
  rw[e,←Int.add_assoc]at ih
  rw[Gt,Oj,if_pos (by rw[Af];simp;omega),Ca hlt,Aa,Ag (by omega) (by omega),Ag (by omega) (by omega)]
  exact ih
theorem Bsk(f c w r n A:Int)(hA:0≤A)(hA2:A≤200000)(k:Nat)(hk:k≤l.length):Ahi f c w r n A l (k:Int)=some (A+(l.take k).sum):=by
 have h:=Bca hl h5 hs f c w r n A hA hA2 k hk k 0 Am (by omega) (by have:=Al;omega)
 rw[List.take_zero,List.sum_nil,Int.add_zero]at h
 exact h
end
theorem Bdt{g n:Nat}(hg:1≤g)(hn:1≤n){x:Int}(h:x∈framesL g n):∃m:Nat,x=m∧1≤m∧m≤n:=by
 have hmul:=Nat.div_mul_le_self (n-1) g
 rw[framesL,List.mem_append]at h
 rcases h with h|h
 ·rw[List.mem_replicate]at h
  have h1:1≤(n-1)/g:=Nat.pos_of_ne_zero h.1
  have:=Nat.mul_le_mul_right g h1
  exact⟨g,h.2,hg,by omega⟩
 ·rw[List.mem_singleton]at h
  exact⟨_,h,by omega,by omega⟩
theorem Ha{f c w r n:Nat}(h:shapeB f c w r n=true):(1≤c∧c≤6)∧Ch (w:Int)∧(1≤r∧r≤1048576)∧1≤n∧(f=1∨f=2):=by
 simp only[shapeB,decide_eq_true_eq]at h
 refine⟨h.2.1,?_,h.2.2.2.1,h.2.2.2.2,h.1⟩
 rcases h.2.2.1 with rfl|rfl|rfl
 ·exact .inl rfl
 ·exact .inr (.inl rfl)
 ·exact .inr (.inr rfl)
end Go.Pl
set_option linter.unusedVariables false
set_option linter.unusedSimpArgs false
namespace Go.Pl
open Go Go.Lv
theorem Ccf(n m:Nat):Ke n m 0≠Ke n m 2147483648:=by
 intro h
 simp[Ke,leB,APE]at h
def Bl(b:List UInt8):List UInt8:=b.drop (b.length-32)
theorem Bjb{b:List UInt8}(h:32≤b.length):(Bl b).length=32:=by rw[Bl,List.length_drop];omega
def itA(t:List UInt8):Nat:=Di (part t 12 4)-32
def mnA(t:List UInt8):Nat:=Di (part t 16 4)
def Rp(b:List UInt8):Int×Int:=
 if ¬(32≤b.length∧(Bl b).take 8=APE)then(0,6)else if Acn (Bl b)=true then(0,12)else
 if Bl b=Ke (itA (Bl b)) (mnA (Bl b)) 0 then(if b.length<itA (Bl b)+32 then(0,24)else(((itA (Bl b)+32:Nat):Int),0))else
 if Bl b≠Ke (itA (Bl b)) (mnA (Bl b)) 2147483648 then(0,12)else
 if b.length<itA (Bl b)+64 then(0,24)else
 if(b.take (b.length-(itA (Bl b)+64)+32)).drop (b.length-(itA (Bl b)+64))≠Ke (itA (Bl b)) (mnA (Bl b)) 2684354560 then(0,12)else(((itA (Bl b)+64:Nat):Int),0)
section
variable {b:List UInt8}
theorem ba1(h:¬(32≤b.length∧(Bl b).take 8=APE)):Rp b=(0,6):=by rw[Rp,if_pos h]
variable (h:32≤b.length∧(Bl b).take 8=APE)
include h
theorem ba2(h2:Acn (Bl b)=true):Rp b=(0,12):=by rw[Rp,if_neg (fun h'=>h' h),if_pos h2]
variable (h2:Acn (Bl b)=false)
include h2
theorem ba3(h3:Bl b=Ke (itA (Bl b)) (mnA (Bl b)) 0):Rp b=if b.length<itA (Bl b)+32 then(0,24)else(((itA (Bl b)+32:Nat):Int),0):=by
 rw[Rp,if_neg (fun h'=>h' h),if_neg (by rw[h2];simp),if_pos h3]
variable (h3:Bl b≠Ke (itA (Bl b)) (mnA (Bl b)) 0)
include h3
theorem ba4(h4:Bl b≠Ke (itA (Bl b)) (mnA (Bl b)) 2147483648):Rp b=(0,12):=by
 rw[Rp,if_neg (fun h'=>h' h),if_neg (by rw[h2];simp),if_neg h3,if_pos h4]
variable (h4:Bl b=Ke (itA (Bl b)) (mnA (Bl b)) 2147483648)
include h4
theorem ba5(h5:b.length<itA (Bl b)+64):Rp b=(0,24):=by
 rw[Rp,if_neg (fun h'=>h' h),if_neg (by rw[h2];simp),if_neg h3,if_neg (fun e=>e h4),if_pos h5]
theorem ba6(h5:¬b.length<itA (Bl b)+64):Rp b=if(b.take (b.length-(itA (Bl b)+64)+32)).drop (b.length-(itA (Bl b)+64))≠Ke (itA (Bl b)) (mnA (Bl b)) 2684354560 then(0,12)else(((itA (Bl b)+64:Nat):Int),0):=by
 rw[Rp,if_neg (fun h'=>h' h),if_neg (by rw[h2];simp),if_neg h3,if_neg (fun e=>e h4),if_neg h5]
end
theorem Bke{b:List UInt8}{n:Int}(h:Rp b=(n,0)):32≤n∧n≤b.length:=by
 unfold Rp at h
 split at h; · simp at h
 rename_i h32
 split at h; · simp at h
 split at h
 ·split at h; · simp at h
  simp only[Prod.mk.injEq,and_true]at h;omega
 split at h; · simp at h
 split at h; · simp at h
 split at h; · simp at h
 simp only[Prod.mk.injEq,and_true]at h;omega
theorem Br5{b:List UInt8}(h:(Rp b).2≠0):(Rp b).1=0:=by
 revert h
 unfold Rp
 split; · simp
 split; · simp
 split
 ·split<;>simp
 split; · simp
 split; · simp
 split<;>simp
theorem Bu9{b:List UInt8}(h:32≤b.length)(hl:b.length<4611686018427387904):Ah (Ac b) 32=((b.length-32:Nat):Int)∧Bo b ((b.length-32:Nat):Int) (Ac b)=some (Bl b):=by
 refine⟨by rw[Ac,Bi (by omega) (by omega)];omega,?_⟩
 rw[Ge (by omega) (by omega)];rfl
theorem Bsh(b:List UInt8)(hl:b.length<4611686018427387904):Avr b=some (Rp b):=by
 rw[Avr,Arv]
 by_cases h32:32≤b.length
 ·obtain⟨e1,e2⟩:=Bu9 h32 hl
  have hl3:=Bjb h32
  rw[if_neg (by rw[e1,Af];simp),e1,e2,Aa,Alw,Aa]
  by_cases hp:(Bl b).take 8=APE
  ·have h:=And.intro h32 hp
   rw[if_neg (by simpa [APE,hl3]using hp),Aq4,Ayz,e1,e2,Aa,Am6 _ 0 (by omega) (by omega) (by decide),Aa]
   cases hb:Acn (Bl b)with
   |true=>
    rw[ba2 h hb]
    simp only[if_true,Bool.false_eq_true,if_false]
    rw[Aa,Am6 _ 2147483648 (by omega) (by omega) (by decide),Aa,hb];rfl
   |false=>
    obtain⟨i1,i2,i3,i4⟩:=Ayl (Bl b) (by omega) hb
    have eI:Di (part (Bl b) 12 4)-32=itA (Bl b):=rfl
    have eM:Di (part (Bl b) 16 4)=mnA (Bl b):=rfl
    simp only[Bool.false_eq_true,if_false]
    rw[eI]at i3
    rw[eM]at i4
    rw[eI,eM]
    by_cases c1:Bl b=Ke (itA (Bl b)) (mnA (Bl b)) 0
    ·have c1':Bl b=Ke (itA (Bl b)) (mnA (Bl b)) (0:UInt64).toNat:=c1
     rw[if_pos (by simpa using c1'),ba3 h hb c1]
     by_cases c2:b.length<itA (Bl b)+32
     ·rw[if_pos (by rw[Af];simp;omega),if_pos c2]
     ·rw[if_neg (by rw[Af];simp;omega),if_neg c2,Ag (by omega) (by omega)];rfl
    ·have c1':¬Bl b=Ke (itA (Bl b)) (mnA (Bl b)) (0:UInt64).toNat:=c1
     rw[if_neg (by simpa using c1'),Aa,Am6 _ 2147483648 (by omega) (by omega) (by decide),Aa,hb]
     simp only[Bool.false_eq_true,if_false]
     rw[eI,eM]
     by_cases c2:Bl b=Ke (itA (Bl b)) (mnA (Bl b)) 2147483648
     ·have c2':Bl b=Ke (itA (Bl b)) (mnA (Bl b)) (2147483648:UInt64).toNat:=c2
      rw[if_neg (by simpa using c2'),Ag (by omega) (by omega)]
      by_cases c3:b.length<itA (Bl b)+64
      ·rw[if_pos (by rw[Af,Ac];simp;omega),ba5 h hb c1 c2 c3]
      ·rw[if_neg (by rw[Af,Ac];simp;omega),Ac,Bi (by omega) (by omega),Ag (by omega) (by omega),Oo (by omega) (by omega) (by omega),Aa,Bbc _ _ _ i3 i4 (by decide),Aa,Fj,Aa,ba6 h hb c1 c2 c3]
       rw[show((b.length:Int)-(((itA (Bl b):Nat):Int)+64)).toNat=b.length-(itA (Bl b)+64) by omega,show((b.length:Int)-(((itA (Bl b):Nat):Int)+64)+32).toNat=b.length-(itA (Bl b)+64)+32 by omega]
       have e7:(2684354560:UInt64).toNat=2684354560:=rfl
       rw[e7]
       by_cases c4:(b.take (b.length-(itA (Bl b)+64)+32)).drop (b.length-(itA (Bl b)+64))=Ke (itA (Bl b)) (mnA (Bl b)) 2684354560
       ·rw[if_neg (by simpa using c4),if_neg (fun e=>e c4)];rfl
       ·rw[if_pos (by simpa using c4),if_pos c4]
     ·have c2':¬Bl b=Ke (itA (Bl b)) (mnA (Bl b)) (2147483648:UInt64).toNat:=c2
      rw[if_pos (by simpa using c2'),ba4 h hb c1 c2]
  ·rw[if_pos (by rw[Bool.not_eq_true',decide_eq_false_iff_not];intro h;exact hp h.2),ba1 (fun h=>hp h.2)]
 ·rw[if_pos (by rw[Ac,Bi (by omega) (by omega),Af];simp;omega),ba1 (fun h=>h32 h.1)]
theorem Bx7{b:List UInt8}(h:32≤b.length):(b.take (b.length-32+8)).drop (b.length-32)=(Bl b).take 8:=by
 rw[Bl,List.take_drop]
theorem Bwg(b:List UInt8)(hl:b.length<4611686018427387904):Xo b=some (Rp b):=by
 rw[Xo,Acq]
 by_cases h32:32≤b.length
 ·obtain⟨e1,e2⟩:=Bu9 h32 hl
  have hl3:=Bjb h32
  rw[if_neg (by rw[Af,Ac];simp;omega),e1,Ag (by omega) (by omega),Oo (by omega) (by omega) (by omega),Aa,show((b.length-32:Nat):Int).toNat=b.length-32 from rfl,show(((b.length-32:Nat):Int)+8).toNat=b.length-32+8 by omega,Bx7 h32]
  by_cases hp:(Bl b).take 8=APE
  ·have h:=And.intro h32 hp
   rw[if_neg (by simpa [APE]using hp),Adv,Adr,e1,e2,Aa,Bjz _ (by omega) (by omega),Aa]
   cases hb:Acn (Bl b)with
   |true=>rw[ba2 h hb];rfl
   |false=>
    obtain⟨i1,i2,i3,i4⟩:=Ayl (Bl b) (by omega) hb
    have eI:Di (part (Bl b) 12 4)-32=itA (Bl b):=rfl
    have eM:Di (part (Bl b) 16 4)=mnA (Bl b):=rfl
    simp only[Bool.false_eq_true,if_false,Bool.not_true]
    rw[eI]at i3
    rw[eM]at i4
    rw[eI,eM,Hw,if_pos rfl,Awa _ _ _ i3 i4 (by decide),Aa,Aa]
    have e7:(2147483648:UInt64).toNat=2147483648:=rfl
    have e8:(2684354560:UInt64).toNat=2684354560:=rfl
    rw[e7]
    by_cases c2:Bl b=Ke (itA (Bl b)) (mnA (Bl b)) 2147483648
    ·have c1:Bl b≠Ke (itA (Bl b)) (mnA (Bl b)) 0:=fun e=>Ccf (itA (Bl b)) (mnA (Bl b)) (e.symm.trans c2)
     rw[if_neg (by simpa using c2),Qd,Qq,if_pos (by simpa using c2),Ro,Ri,Ag (a:=32) (by omega) (by omega),Ag (by omega) (by omega)]
     by_cases c3:b.length<itA (Bl b)+64
     ·rw[if_pos (by rw[Af,Ac];simp;omega),ba5 h hb c1 c2 c3]
     ·rw[if_neg (by rw[Af,Ac];simp;omega),if_pos (by simpa using c2),Ac,Bi (by omega) (by omega),Ag (by omega) (by omega),Oo (by omega) (by omega) (by omega),Aa,Po,Awa _ _ _ i3 i4 (by decide),Aa,Aa,ba6 h hb c1 c2 c3,e8]
      rw[show((b.length:Int)-(32+((itA (Bl b):Nat):Int)+32)).toNat=b.length-(itA (Bl b)+64) by omega,show((b.length:Int)-(32+((itA (Bl b):Nat):Int)+32)+32).toNat=b.length-(itA (Bl b)+64)+32 by omega]
      by_cases c4:(b.take (b.length-(itA (Bl b)+64)+32)).drop (b.length-(itA (Bl b)+64))=Ke (itA (Bl b)) (mnA (Bl b)) 2684354560
      ·rw[if_neg (by simpa using c4),if_neg (fun e=>e c4),show(32+((itA (Bl b):Nat):Int)+32)=((itA (Bl b)+64:Nat):Int) by omega]
      ·rw[if_pos (by simpa using c4),if_pos c4]
    ·rw[if_pos (by simpa using c2),Hw,if_neg (by simp),Awa _ _ _ i3 i4 (by decide),Aa,Aa]
     have e9:(0:UInt64).toNat=0:=rfl
     rw[e9]
     by_cases c1:Bl b=Ke (itA (Bl b)) (mnA (Bl b)) 0
     ·rw[if_neg (by simpa using c1),Qd,Qq,if_neg (by simpa using c2),Ro,Ri,Ag (by omega) (by omega),ba3 h hb c1,if_neg (c:=(Bl b==Ke (itA (Bl b)) (mnA (Bl b)) 2147483648)=true) (by simpa using c2)]
      by_cases c3:b.length<itA (Bl b)+32
      ·rw[if_pos (by rw[Af,Ac];simp;omega),if_pos c3]
      ·rw[if_neg (by rw[Af,Ac];simp;omega),if_neg c3,show(32+((itA (Bl b):Nat):Int))=((itA (Bl b)+32:Nat):Int) by omega]
     ·rw[if_pos (by simpa using c1),ba4 h hb c1 c2]
  ·rw[if_pos (by simpa [APE]using hp),ba1 (fun h=>hp h.2)]
 ·rw[if_pos (by rw[Af,Ac];simp;omega),ba1 (fun h=>h32 h.1)]
def Brt:Nat→List UInt8→Nat→Int×Int
 |0,_,_=>(0,38)
 |j+1,b,a=>if b=[]then((a:Int),0)else if(Rp b).2≠0 then(0,38)else Brt j (b.take (b.length-(Rp b).1.toNat)) (a+1)
theorem Bj2:∀(j q a:Nat) (b:List UInt8),b.length<j→j≤q→b.length≤4000→a+b.length≤4000→Nt q (a:Int) b=some (Brt j b a)
 |0,_,_,_,h,_,_,_=>by omega
 |j+1,q+1,a,b,h,hq,h4,ha=>by
  rw[Nt,Aed,Brt]
  by_cases hb:b=[]
  ·subst hb;rw[if_neg (by decide),if_pos rfl];rfl
  ·have hpos:0<b.length:=List.length_pos_iff.2 hb
   rw[if_pos (by rw[Aq,Ac];simp;omega),if_neg hb,Bsh b (by omega),Aa]
   have hbad:=Br5 (b:=b)
   have hok:=fun n=>Bke (b:=b) (n:=n)
   generalize Rp b=v at*
   obtain⟨n,e⟩:=v
   simp only at hbad⊢
   rw[Abm,Abt]
   by_cases he:e≠0
   ·rw[if_pos he,hbad he,if_pos (by decide)]
   ·obtain⟨k1,k2⟩:=hok n (by rw[show e=0 by simpa using he])
    rw[if_neg he,if_neg (by rw[Bp];simp;omega),Ac,Bi (by omega) (by omega),Iw (by omega) (by omega),Aa,Abu,Aku,Ag (by omega) (by omega)]
    rw[show((b.length:Int)-n).toNat=b.length-n.toNat by omega]
    have ih:=Bj2 j q (a+1) (b.take (b.length-n.toNat)) (by rw[List.length_take];omega) (by omega) (by rw[List.length_take];omega) (by rw[List.length_take];omega)
    rw[←ih];rfl
theorem Bqa:∀(j q a:Nat) (b:List UInt8),b.length<j→j≤q→b.length≤4000→a+b.length≤4000→Iv q b (a:Int)=some (Brt j b a)
 |0,_,_,_,h,_,_,_=>by omega
 |j+1,q+1,a,b,h,hq,h4,ha=>by
  rw[Iv,Yz,Brt]
  by_cases hb:b=[]
  ·subst hb;rw[if_neg (by decide),if_pos rfl];rfl
  ·have hpos:0<b.length:=List.length_pos_iff.2 hb
   rw[if_pos (by rw[Aq,Ac];simp;omega),if_neg hb,Bwg b (by omega),Aa]
   have hok:=fun n=>Bke (b:=b) (n:=n)
   generalize Rp b=v at*
   obtain⟨n,e⟩:=v
   simp only
   by_cases he:e≠0
   ·rw[if_pos he,if_pos (by rw[Aj];simpa using he)]
   ·obtain⟨k1,k2⟩:=hok n (by rw[show e=0 by simpa using he])
    rw[if_neg he,if_neg (by rw[Aj];simpa using he),Ac,Bi (by omega) (by omega),Iw (by omega) (by omega),Aa,Ag (by omega) (by omega)]
    rw[show((b.length:Int)-n).toNat=b.length-n.toNat by omega]
    have ih:=Bqa j q (a+1) (b.take (b.length-n.toNat)) (by rw[List.length_take];omega) (by omega) (by rw[List.length_take];omega) (by rw[List.length_take];omega)
    rw[←ih];rfl
def Aik(b:List UInt8):Int×Int:=if 4000<b.length then(0,38)else Brt (b.length+1) b 0
theorem Az4(b:List UInt8)(hl:b.length<4611686018427387904):Sa b=some (Aik b):=by
 rw[Sa,Aeh,Aik]
 by_cases h:4000<b.length
 ·rw[if_pos (by rw[Aq,Ac];simp;omega),if_pos h]
 ·rw[if_neg (by rw[Aq,Ac];simp;omega),if_neg h]
  exact Bj2 _ Am 0 b (by omega) (by have:=Al;omega) (by omega) (by omega)
theorem Bop(b:List UInt8)(hl:b.length<4611686018427387904):Tp b=some (Aik b):=by
 rw[Tp,Xj,Aik]
 by_cases h:4000<b.length
 ·rw[if_pos (by rw[Aq,Ac];simp;omega),if_pos h]
 ·rw[if_neg (by rw[Aq,Ac];simp;omega),if_neg h]
  exact Bqa _ Am 0 b (by omega) (by have:=Al;omega) (by omega) (by omega)
end Go.Pl
set_option linter.unusedVariables false
set_option linter.unusedSimpArgs false
namespace Go.Pl
open Go Go.Lv
theorem Bn1{a b:Nat}(h:a<9223372036854775808):Bq (a:Int) (b:Int)=((a/b:Nat):Int):=by
 have:a/b≤a:=Nat.div_le_self _ _
 rw[Aem,Int.tdiv_eq_ediv_of_nonneg (by omega),←Int.natCast_ediv]
 generalize a/b=k at*
 exact Bm (by omega) (by omega)
theorem Axx{bits:Int}(h:Ch bits)(x:Int):(Aby bits x).length=wB bits:=by
 obtain rfl|rfl|rfl:=h<;>rfl
theorem Wj{bits:Int}(h:Ch bits):∀l:List Int32,(bytesB bits l).length=l.length*wB bits
 |[]=>by simp[bytesB]
 |x::l=>by
  have h1:=Wj h l
  have h2:=Axx h x.toInt
  simp only[bytesB,List.flatMap_cons,List.length_append,List.length_cons,Nat.succ_mul]at*
  omega
def segF(b:List UInt8)(A:Nat)(l:List Int)(k:Nat):List UInt8:=(b.take ((A:Int)+(l.take (k+1)).sum).toNat).drop ((A:Int)+(l.take k).sum).toNat
structure Gts (b p:List UInt8) (f c w r n A:Nat) (l:List Int) (k m:Nat) (x:List Int32) (s:List UInt8) (e:Int):Prop where
 mom:getI (framesL (longN r) n) (k:Int)=some (m:Int)
 pos:1≤m∧m*c≤4000
 got:cadenzaref40_Got b p (f:Int) (c:Int) (w:Int) (r:Int) (n:Int) (A:Int) l (k:Int)=some (s,e)
 none':e≠0→s=[]∧x=[]
 some':e=0→s=bytesB (w:Int) x∧x.length=m*c∧cadenzaref18_Check (w:Int) x=some 0∧width_Bytes (w:Int) x=some (s,0)∧(A:Int)+(l.take (k+1)).sum≤b.length
 way:((b.length:Int)<(A:Int)+(l.take (k+1)).sum∧e=24)∨((A:Int)+(l.take (k+1)).sum≤b.length∧deframe_Decode (c:Int) (w:Int) (tapsOf p) (m:Int) (segF b A l k)=some (x,e)∧cadenzaref21_Decode (c:Int) (w:Int) (tapsOf p) (m:Int) (segF b A l k)=some (x,e))
theorem Af2{b p:List UInt8}{f c w r n A:Nat}{l:List Int}(o:Opn b p f c w r n A l)(k:Nat)(hk:k<l.length):∃m x s e,Gts b p f c w r n A l k m x s e:=by
 obtain⟨hc,hw,hr,hn,_⟩:=Ha o.shape
 have hfit:n≤4000/c:=by have:=o.fit;simp only[fitB,decide_eq_true_eq]at this;exact this.1
 have hn4:n≤4000:=by have:=Nat.div_le_self 4000 c;omega
 have hA:=o.at'
 have hfile:=o.file
 have hlen:=o.len
 have b1:=Ed o.five k
 have b2:=Ed o.five (k+1)
 have e:=Iz hk
 have h5:=o.five l[k] (List.getElem_mem _)
 have hsum:=o.sum
 have hs1:=o.some1
 have hkf:k<(framesL (longN r) n).length:=by omega
 obtain⟨m,hm,m1,m2⟩:=Bdt (Sc r) hn (List.getElem_mem hkf)
 have hmom:getI (framesL (longN r) n) (k:Int)=some (m:Int):=by rw[Ca hkf,hm]
 have hpos:1≤m∧m*c≤4000:=by
  refine⟨m1,?_⟩
  have:=Nat.mul_le_mul_right c (Nat.le_trans m2 hfit)
  have:=Nat.div_mul_le_self 4000 c
  omega
 have hR:cadenzaref40_Got b p (f:Int) (c:Int) (w:Int) (r:Int) (n:Int) (A:Int) l (k:Int)=cadenzaref40_Got b p (f:Int) (c:Int) (w:Int) (r:Int) (n:Int) (A:Int) l (k:Int):=rfl
 conv at hR=>rhs;rw[cadenzaref40_Got,Afe,Bsk hs1.2 o.five o.sum _ _ _ _ _ (A:Int) (by omega) (by omega) k (by omega),Aa,Ca hk,Aa,Bi (by rw[Ac];omega) (by rw[Ac];omega)]
 by_cases hto:(b.length:Int)<(A:Int)+(l.take (k+1)).sum
 ·rw[if_pos (by rw[Af,Ac,decide_eq_true_eq];omega)]at hR
  exact⟨m,[],[],24,hmom,hpos,hR,fun _=>⟨rfl,rfl⟩,fun h=>by simp at h, .inl ⟨hto,rfl⟩⟩
 ·rw[if_neg (by rw[Af,Ac,decide_eq_true_eq];omega),Bjm p o.pass,Aq7 hr.2 hn hn4]at hR
  simp only[Aa]at hR
  rw[Ag (a:=(A:Int)+(l.take k).sum) (b:=l[k]) (by omega) (by omega),Int.add_assoc,←e,hmom]at hR
  simp only[Aa]at hR
  rw[Oo (by omega) (by omega) (by omega),Aa]at hR
  obtain⟨x,er,g1,g2,g3,g4⟩:=Bjr (ch:=c) (n:=m) (t:=tapsOf p) (segF b A l k) hw (Bn2 p) hc.1 hc.2 m1 (by omega)
  rw[show(b.take ((A:Int)+(l.take (k+1)).sum).toNat).drop ((A:Int)+(l.take k).sum).toNat=segF b A l k from rfl,g2,Aa]at hR
  simp only at hR
  rw[Ae0,Ae3]at hR
  by_cases her:er=0
  ·obtain⟨g5,g6,g7⟩:=g3 her
   rw[if_neg (by rw[Aj];simpa using her),Bso hw g6 g5,Aa]at hR
   subst her
   exact⟨m,x,_,0,hmom,hpos,hR,fun h=>absurd rfl h,fun _=>⟨rfl,g7,g5,Bd5 hw g6 g5,by omega⟩, .inr ⟨by omega,g1,g2⟩⟩
  ·rw[if_pos (by rw[Aj];simpa using her)]at hR
   exact⟨m,x,_,er,hmom,hpos,hR,fun h=>⟨rfl,g4 h⟩,fun h=>absurd h her, .inr ⟨by omega,g1,g2⟩⟩
theorem Gts.lens{b p:List UInt8}{f c w r n A:Nat}{l:List Int}{k m:Nat}{x:List Int32}{s:List UInt8}{e:Int}(hw:Ch (w:Int))(g:Gts b p f c w r n A l k m x s e):s.length≤12000∧x.length≤4000∧(e=0→s.length=m*c*wB (w:Int)):=by
 by_cases he:e=0
 ·obtain⟨h1,h2,_⟩:=g.some' he
  have h3:=Al2 (w:Int) x
  have h4:=Wj hw x
  have h5:=g.pos
  rw[←h1]at h3 h4
  refine⟨by omega,by omega,fun _=>by rw[h4,h2]⟩
 ·obtain⟨h1,h2⟩:=g.none' he
  exact⟨by simp[h1],by simp[h2],fun h=>absurd h he⟩
def Qz(G:Nat→List UInt8×Int)(be:Int):Nat→Nat→List UInt8→List UInt8×Int
 |0,_,acc=>if be≠0 then([],38)else(acc,0)
 |j+1,k,acc=>if(G k).2≠0 then([],(G k).2)else Qz G be j (k+1) (acc++(G k).1)
def Ku(b p:List UInt8)(f c w r n A:Nat)(l:List Int)(k:Nat):List UInt8×Int:=(cadenzaref40_Got b p (f:Int) (c:Int) (w:Int) (r:Int) (n:Int) (A:Int) l (k:Int)).getD ([],0)
theorem Gts.eq{b p:List UInt8}{f c w r n A:Nat}{l:List Int}{k m:Nat}{x:List Int32}{s:List UInt8}{e:Int}(g:Gts b p f c w r n A l k m x s e):Ku b p f c w r n A l k=(s,e):=by rw[Ku,g.got];rfl
def Al1(b:List UInt8)(A:Nat)(l:List Int):Int:=(Aik (b.drop ((A:Int)+l.sum).toNat)).2
section
variable {b p:List UInt8} {f c w r n A:Nat} {l:List Int} (o:Opn b p f c w r n A l)
include o
theorem Bs5(k m:Nat)(x:List Int32)(s:List UInt8)(e:Int)(hk:k<l.length)(g:Gts b p f c w r n A l k m x s e)(bk:Int→LB→Au)(M:Int)(acc:List UInt8)(hacc:acc.length≤12000*k):
  Ul bk (A:Int) b (framesL (longN r) n) M (c:Int) (w:Int) (tapsOf p) (f:Int) (r:Int) (n:Int) l (Awe l (l.length+1)) (k:Int) ((l.take k).sum) ((l.take (k+1)).sum) acc=
   if e≠0 then some ([],e)else bk (((k+1:Nat)):Int) (acc++s):=by
 obtain⟨hc,hw,hr,hn,_⟩:=Ha o.shape
 have hA:=o.at'
 have hfile:=o.file
 have hs1:=o.some1
 have hsum:=o.sum
 have b1:=Ed o.five k
 have b2:=Ed o.five (k+1)
 have e2:=Iz hk
 have h5:=o.five l[k] (List.getElem_mem _)
 have hl:=g.lens hw
 rw[Ul,Aeu,Ag (a:=(A:Int)) (b:=(l.take (k+1)).sum) (by omega) (by omega),Ag (by omega) (by omega),Ac]
 have hend:∀(e1:Int) (s1:List UInt8),s1.length≤12000→Nv bk b (framesL (longN r) n) (A:Int) M (f:Int) (c:Int) (w:Int) (r:Int) (n:Int) (tapsOf p) l (Awe l (l.length+1)) (k:Int) acc e1 s1=if e1≠0 then some ([],e1)else bk (((k+1:Nat)):Int) (acc++s1):=by
  intro e1 s1 h1
  rw[Nv,Aen]
  by_cases h:e1≠0
  ·rw[if_pos h,if_pos (by rw[Aj];simpa using h)]
  ·rw[if_neg h,if_neg (by rw[Aj];simpa using h),Fc (by omega),Aa,Aek,An5,Ag (by omega) (by omega)];rfl
 rcases g.way with⟨h1,h2⟩|⟨h1,h2,_⟩
 ·rw[if_pos (by rw[Aq,decide_eq_true_eq];omega),hend 24 [] (by simp),h2];rfl
 ·rw[if_neg (by rw[Aq,decide_eq_true_eq];omega),g.mom]
  simp only[Aa]
  rw[Oo (by omega) (by omega) (by omega),Aa,show(b.take ((A:Int)+(l.take (k+1)).sum).toNat).drop ((A:Int)+(l.take k).sum).toNat=segF b A l k from rfl,h2,Aa]
  simp only
  rw[Ad5,Aep]
  by_cases he:e≠0
  ·rw[if_pos (by rw[Aj];simpa using he),hend e [] (by simp),if_pos he,if_pos he]
  ·have he0:e=0:=by simpa using he
   rw[if_neg (by rw[Aj];simpa using he),(g.some' he0).2.2.2.1,Aa]
   simp only
   rw[hend 0 s hl.1,if_neg (by simp),if_neg he]
theorem Bfp:∀(j k q:Nat) (acc:List UInt8),k+j=l.length→j<q→(k=l.length→(A:Int)+l.sum≤b.length)→acc.length≤12000*k→
  Kq b (framesL (longN r) n) (A:Int) l.sum (f:Int) (c:Int) (w:Int) (r:Int) (n:Int) (tapsOf p) l (Awe l (l.length+1)) q (k:Int) acc=some (Qz (Ku b p f c w r n A l) (Al1 b A l) j k acc)
 |0,k,q+1,acc,hk,_,hfit,_=>by
  have hA:=o.at'
  have hfile:=o.file
  have hs1:=o.some1
  have hsum:=o.sum
  have b1:=Ed o.five l.length
  have hf:=hfit (by omega)
  rw[List.take_length]at b1
  rw[Kq,Un,if_neg (by rw[Af,Ac,←o.len];simp;omega),Aet,An8,Ag (by omega) (by omega),Ge (by omega) (by omega),Aa,Az4 _ (by rw[List.length_drop];omega),Aa,Qz,Al1]
  generalize Aik (b.drop ((A:Int)+l.sum).toNat)=v
  obtain⟨v1,v2⟩:=v
  simp only
  by_cases hv:v2≠0
  ·rw[if_pos hv,if_pos (by rw[Aj];simpa using hv)]
  ·rw[if_neg hv,if_neg (by rw[Aj];simpa using hv)]
 |j+1,k,q+1,acc,hk,hq,hfit,hacc=>by
  have hs1:=o.some1
  obtain⟨m,x,s,e,g⟩:=Af2 o k (by omega)
  obtain⟨hc,hw,hr,hn,_⟩:=Ha o.shape
  have hl:=g.lens hw
  have e1:Ad (k:Int) 1=((k+1:Nat):Int):=by rw[Ag (by omega) (by omega)];omega
  rw[Kq,Un,if_pos (by rw[Af,Ac,←o.len];simp;omega),e1,Bcg l (by omega),Bcg l (by omega)]
  simp only[Aa]
  rw[Bs5 o k m x s e (by omega) g _ _ acc hacc,Qz,g.eq]
  simp only
  by_cases he:e≠0
  ·rw[if_pos he,if_pos he]
  ·have he0:e=0:=by simpa using he
   have hfit2:=(g.some' he0).2.2.2.2
   rw[if_neg he,if_neg he]
   exact Bfp j (k+1) q (acc++s) (by omega) (by omega) (fun h=>by rw[h,List.take_length]at hfit2;exact hfit2) (by rw[List.length_append];omega)
theorem Ayh(k:Int):Fk b p k=some (if k<0∨(l.length:Int)≤k then([],2)else Qz (Ku b p f c w r n A l) (Al1 b A l) (l.length-k.toNat) k.toNat []):=by
 have hs1:=o.some1
 have e1:getI (Awe l (l.length+1)) (Ac (framesL (longN r) n))=some l.sum:=by rw[Ac,←o.len,Bcg l (by omega),List.take_length]
 rw[Fk,Xv,o.prog,Aa]
 simp only
 rw[if_neg (by rw[Aj];simp),Ap3 o.shape o.fit,Aa]
 simp only
 rw[if_neg (by rw[Aj];simp),Byu hs1.2 o.five o.sum hs1.1,Aa]
 simp only
 rw[if_neg (by rw[Aj];simp),Bft p o.pass,Aa]
 simp only
 rw[if_neg (by rw[Aj];simp),e1,Aa,Aa,Aec,Aes,if_neg (by rw[Aj];simp)]
 by_cases hk:k<0∨(l.length:Int)≤k
 ·rw[if_pos hk,if_pos (by rw[Ac,←o.len];simp[Af,Ce];omega)]
 ·rw[if_neg hk,if_neg (by rw[Ac,←o.len];simp[Af,Ce];omega)]
  obtain⟨k,rfl⟩:=Int.eq_ofNat_of_zero_le (show 0≤k by omega)
  exact Bfp o (l.length-k) k Am [] (by omega) (by have:=Al;omega) (by omega) (by simp)
end
end Go.Pl
set_option linter.unusedVariables false
set_option linter.unusedSimpArgs false
namespace Go.Pl
open Go Go.Lv
def by'(b:List UInt8)(k:Nat):Nat:=(b.getD k 0).toNat
def sx(n:Nat)(b:List UInt8)(a:Nat):Int:=
 if n=1 then(by' b a:Int)-128 else
 if n=2 then(if by' b a+256*by' b (a+1)<32768 then(by' b a+256*by' b (a+1):Nat)else((by' b a+256*by' b (a+1):Nat):Int)-65536)else
 (if by' b a+256*by' b (a+1)+65536*by' b (a+2)<8388608 then(by' b a+256*by' b (a+1)+65536*by' b (a+2):Nat)else((by' b a+256*by' b (a+1)+65536*by' b (a+2):Nat):Int)-16777216)
def sxs(n m:Nat)(b:List UInt8):List Int32:=(List.range m).map fun x=>Int32.ofInt (sx n b (x*n))
theorem By1(n m:Nat)(b:List UInt8):(sxs n m b).length=m:=by simp[sxs]
theorem sx2(b:List UInt8)(a:Nat):sx 2 b a=if by' b a+256*by' b (a+1)<32768 then((by' b a+256*by' b (a+1):Nat):Int)else((by' b a+256*by' b (a+1):Nat):Int)-65536:=rfl
theorem sx3(b:List UInt8)(a:Nat):sx 3 b a=if by' b a+256*by' b (a+1)+65536*by' b (a+2)<8388608 then((by' b a+256*by' b (a+1)+65536*by' b (a+2):Nat):Int)else((by' b a+256*by' b (a+1)+65536*by' b (a+2):Nat):Int)-16777216:=rfl
variable (b:List UInt8)
end Go.Pl
