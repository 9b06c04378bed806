/- A part of the proof of a statement of this seat (see the text that ends in Proof): LwBase, LwBitB, LwLe, LwBits, LwRef02, LwCut, LwUn, LwRice, LwDual, LwVal, LwI32, LwFil, LwUnm, LwSam, LwCrc, LwFrm, LwC64, LwWby, LwId, LwApe, LwStrip, LwLen, LwHead, LwSeek, LwOpen, LwFrame, LwBack, LwGot, LwWs, LwGoes, LwPol, LwRt. No conditions of its own. -/
import Derived.Test.YtkkcakakemjdeaaGreatDoorPcBA
import Derived.Test.YtkkcakakemjdeaaGreatDoorPcPA
set_option linter.unusedVariables false
set_option linter.unusedSimpArgs false
namespace Go.Lv
theorem Aj{a b:Int}(h: -9223372036854775808≤a+b)(h':a+b≤9223372036854775807):Ad a b=a+b:=by rw[Che,Cg h h']
theorem Bv{a b:Int}(h: -9223372036854775808≤a-b)(h':a-b≤9223372036854775807):Ak a b=a-b:=by rw[Cg1,Cg h h']
theorem Hl{a b:Int}(h: -9223372036854775808≤a*b)(h':a*b≤9223372036854775807):Bd a b=a*b:=by rw[Byw,Cg h h']
theorem Ajb(c:UInt8):(Ae c:Int)=(c.toNat:Int):=by rw[Byu,Cg]<;>have:=c.toNat_lt<;>omega
theorem Bsh(c:UInt32):(Ae c:Int)=(c.toNat:Int):=by rw[Bxq,Cg]<;>have:=c.toNat_lt<;>omega
theorem Ax7(c:UInt8):(Ae c:UInt64)=UInt64.ofNat c.toNat:=by simp only[Ae,Za,Gy]
theorem Ie(c:UInt32):(Ae c:UInt64)=UInt64.ofNat c.toNat:=by simp only[Ae,Wi,Gy]
theorem Aqb(c:UInt64):(Ae c:UInt8)=UInt8.ofNat c.toNat:=by simp only[Ae,Ik,Mj]
theorem Ayn(c:UInt32):(Ae c:UInt8)=UInt8.ofNat c.toNat:=by simp only[Ae,Wi,Mj]
theorem Aad(n:Nat):(Ae (n:Int):UInt64)=UInt64.ofNat n:=by simp only[Ae];exact Gy n
theorem Bku(n:Nat):(Ae (n:Int):UInt32)=UInt32.ofNat n:=by simp only[Ae];exact Em n
theorem Caz(n:Nat):(Ae (n:Int):UInt8)=UInt8.ofNat n:=by simp only[Ae];exact Mj n
theorem Bb8{c:UInt64}(h:c.toNat<9223372036854775808):(Ae c:Int)=(c.toNat:Int):=by rw[Bwo,Cg]<;>omega
theorem Buw:LIM=17179869184:=by decide
theorem Ao:36893488147419103231<FUEL:=by decide
theorem By{α:Type}{l:List α}{n:Nat}(h:n<l.length):getI l (n:Int)=some l[n]:=by simp[getI,h]
theorem Xd{α:Type}{l:List α}{n:Nat}(x:α)(h:n<l.length):Kw l (n:Int) x=some (l.set n x):=by simp[Kw,h]
theorem Ta{α:Type}{l:List α}{a b:Int}(h:0≤a)(h1:a≤b)(h2:b≤l.length):Ba l a b=some ((l.take b.toNat).drop a.toNat):=by rw[Ba,if_pos ⟨h,h1,h2⟩]
theorem Bg{α:Type}{l:List α}{a:Int}(h:0≤a)(h1:a≤l.length):Ba l a (Ac l)=some (l.drop a.toNat):=by
 unfold Ac;rw[Ta h h1 (Int.le_refl _),Int.toNat_natCast,List.take_length]
theorem Cp{α:Type}{l:List α}{b:Int}(h:0≤b)(h1:b≤l.length):Ba l 0 b=some (l.take b.toNat):=by rw[Ta (Int.le_refl _) h h1];rfl
theorem Cl{α:Type}{l m:List α}(h:l.length+m.length≤17179869184):Dg l m=some (l++m):=by rw[Dg,Buw,if_pos h]
theorem Bi3{α:Type}{n:Int}{z:α}(h:0≤n)(h':n≤17179869184):mkI n z=some (List.replicate n.toNat z):=by rw[mkI,Buw,if_pos ⟨h,h'⟩]
theorem Db{b:Bool}(h:b=true):Jm b=some ():=by rw[h];rfl
theorem Aa{α β:Type}(a:α)(f:α→Option β):Option.bind (some a) f=f a:=rfl
theorem drop_cons{α:Type}{l:List α}{n:Nat}(h:n<l.length):l.drop n=l[n]::l.drop (n+1):=List.drop_eq_getElem_cons h
theorem Ajh{α:Type}{l:List α}{n:Nat}(h:n<l.length):l.take (n+1)=l.take n++[l[n]]:=by rw[List.take_add_one,List.getElem?_eq_getElem h];rfl
def Ee:List UInt8→Nat
 |[]=>0
 |x::r=>x.toNat+256*Ee r
theorem Blz:∀l:List UInt8,Ee l<256^l.length
 |[]=>by simp[Ee]
 |x::r=>by
  have h:=Blz r
  have:=x.toNat_lt
  simp only[Ee,List.length_cons,Nat.pow_succ]
  omega
theorem Bhf:∀l m:List UInt8,Ee (l++m)=Ee l+256^l.length*Ee m
 |[],m=>by simp[Ee]
 |x::r,m=>by
  simp only[Ee,List.cons_append,Bhf r m,List.length_cons,Nat.pow_succ,Nat.mul_add]
  rw[Nat.mul_comm (256^r.length) 256,Nat.mul_assoc];omega
def leU(l:List UInt8):UInt64:=UInt64.ofNat (Ee l)
theorem Cet{l:List UInt8}(h:l.length≤8):Ee l<18446744073709551616:=by
 have h1:=Blz l
 have h2:256^l.length≤256^8:=Nat.pow_le_pow_right (by omega) h
 exact Nat.lt_of_lt_of_le h1 (by simpa using h2)
theorem Bve{l:List UInt8}(h:l.length≤4):Ee l<4294967296:=by
 have h1:=Blz l
 have h2:256^l.length≤256^4:=Nat.pow_le_pow_right (by omega) h
 exact Nat.lt_of_lt_of_le h1 (by simpa using h2)
theorem Al9{l:List UInt8}(h:l.length≤8):(leU l).toNat=Ee l:=by
 rw[leU,UInt64.toNat_ofNat',Nat.mod_eq_of_lt (Cet h)]
theorem Afg{l:List UInt8}(h:l.length≤4):(Ae (leU l):Int)=(Ee l:Int):=by
 have:=Bve h
 rw[Bb8]<;>rw[Al9 (by omega)];omega
def leB(n:Nat):Nat→List UInt8
 |0=>[]
 |w+1=>UInt8.ofNat n::leB (n/256) w
theorem My:∀(w n:Nat),(leB n w).length=w
 |0,_=>rfl
 |w+1,n=>by simp[leB,My w]
theorem Bqe:∀(w n:Nat),leB n (w+1)=leB n w++[UInt8.ofNat (n/256^w)]
 |0,n=>by simp[leB]
 |w+1,n=>by
  rw[leB,Bqe w (n/256),leB]
  simp[Nat.div_div_eq_div_mul,Nat.pow_succ,Nat.mul_comm]
end Go.Lv
set_option linter.unusedVariables false
set_option linter.unusedSimpArgs false
namespace Go.Lv
def Kg(p:List UInt8)(i:Nat):Nat:=(p.getD (i/8) 0).toNat/2^(i %8) %2
theorem Xy(p:List UInt8)(i:Nat):Kg p i<2:=Nat.mod_lt _ (by omega)
def Ck(p:List UInt8):Nat→Nat→Nat
 |_,0=>0
 |a,n+1=>Kg p a+2*Ck p (a+1) n
theorem Rc(p:List UInt8):∀(n a:Nat),Ck p a n<2^n
 |0,_=>by simp[Ck]
 |n+1,a=>by
  have:=Rc p n (a+1)
  have:=Xy p a
  rw[Ck,Nat.pow_succ];omega
theorem Ak4(p:List UInt8):∀(m n a:Nat),Ck p a (m+n)=Ck p a m+2^m*Ck p (a+m) n
 |0,n,a=>by simp[Ck]
 |m+1,n,a=>by
  rw[show m+1+n=(m+n)+1 by omega,Ck,Ck,Ak4 p m n (a+1),show a+1+m=a+(m+1) by omega,Nat.pow_succ,Nat.mul_add,Nat.mul_comm (2^m) 2,Nat.mul_assoc];omega
theorem Bnu(p:List UInt8)(a:Nat):Ck p a 1=Kg p a:=by simp[Ck]
theorem Bjo(p:List UInt8)(a n:Nat):Ck p a (n+1)=Ck p a n+2^n*Kg p (a+n):=by rw[Ak4 p n 1 a,Bnu]
theorem Bbh(p:List UInt8)(a:Nat):∀t:Nat,a %8+t≤8→Ck p a t=(p.getD (a/8) 0).toNat/2^(a %8) %2^t
 |0,_=>by simp[Ck,Nat.mod_one]
 |t+1,h=>by
  have h1:(a+t)/8=a/8:=by omega
  have h2:(a+t) %8=a %8+t:=by omega
  rw[Bjo,Bbh p a t (by omega),Kg,h1,h2,Nat.mod_pow_succ,Nat.pow_add,Nat.div_div_eq_div_mul]
theorem Bkl{p:List UInt8}:∀(n a:Nat),(∀k,k<n→Kg p (a+k)=0)→Ck p a n=0
 |0,_,_=>rfl
 |n+1,a,h=>by
  have h0:=h 0 (by omega)
  rw[Ck,Bkl n (a+1) fun k hk=>by have:=h (k+1) (by omega);rwa [show a+1+k=a+(k+1) by omega]]
  rw[Nat.add_zero]at h0;omega
def okB(p:List UInt8)(n:Nat):Prop:=n≤330000∧p.length=(n+7)/8∧∀k,n≤k→k<8*p.length→Kg p k=0
def Aes(p:List UInt8)(a n:Nat):List UInt8:=(List.range ((n+7)/8)).map fun j=>UInt8.ofNat (Ck p (a+8*j) (min 8 (n-8*j)))
theorem Nx(p:List UInt8)(a n:Nat):(Aes p a n).length=(n+7)/8:=by simp[Aes]
theorem Bqz(p:List UInt8):∀(n a k:Nat),k<n→Ck p a n/2^k %2=Kg p (a+k)
 |n+1,a,0,_=>by have:=Xy p a;rw[Ck];simp;omega
 |n+1,a,k+1,h=>by
  have hb:=Xy p a
  have e:(Kg p a+2*Ck p (a+1) n)/2=Ck p (a+1) n:=by omega
  rw[Ck,Nat.pow_succ,Nat.mul_comm (2^k) 2,←Nat.div_div_eq_div_mul,e,Bqz p n (a+1) k (by omega),show a+1+k=a+(k+1) by omega]
theorem Bxw(p:List UInt8)(n a k:Nat)(h:n≤k):Ck p a n/2^k %2=0:=by
 have:=Rc p n a
 rw[Nat.div_eq_of_lt (Nat.lt_of_lt_of_le this (Nat.pow_le_pow_right (by omega) h))]
theorem Byt(p:List UInt8)(a n k:Nat):Kg (Aes p a n) k=if k<n then Kg p (a+k)else 0:=by
 rw[Kg]
 by_cases hj:k/8<(n+7)/8
 ·have e:(Aes p a n).getD (k/8) 0=UInt8.ofNat (Ck p (a+8*(k/8)) (min 8 (n-8*(k/8)))):=by
   rw[List.getD_eq_getElem?_getD,List.getElem?_eq_getElem (by rw[Nx];exact hj)];simp[Aes]
  have hlt:Ck p (a+8*(k/8)) (min 8 (n-8*(k/8)))<256:=by
   have:=Rc p (min 8 (n-8*(k/8))) (a+8*(k/8))
   have h2:2^(min 8 (n-8*(k/8)))≤2^8:=Nat.pow_le_pow_right (by omega) (by omega)
   omega
  have hu:(UInt8.ofNat (Ck p (a+8*(k/8)) (min 8 (n-8*(k/8))))).toNat=Ck p (a+8*(k/8)) (min 8 (n-8*(k/8))):=by
   rw[UInt8.toNat_ofNat'];exact Nat.mod_eq_of_lt hlt
  rw[e,hu]
  by_cases hk:k<n
  ·rw[if_pos hk,Bqz p _ _ _ (by omega),show a+8*(k/8)+k %8=a+k by omega]
  ·rw[if_neg hk,Bxw p _ _ _ (by omega)]
 ·have e:(Aes p a n).getD (k/8) 0=0:=by
   rw[List.getD_eq_getElem?_getD,List.getElem?_eq_none (by rw[Nx];omega)];rfl
  rw[e,if_neg (by omega)];simp
theorem Bu5(p:List UInt8)(a n:Nat)(h:n≤330000):okB (Aes p a n) n:=⟨h,Nx p a n,fun k hk _=>by rw[Byt,if_neg (by omega)]⟩
end Go.Lv
set_option linter.unusedVariables false
set_option linter.unusedSimpArgs false
namespace Go.Pl
open Go Go.Lv
theorem Byi(b:List UInt8)(hb:b.length<4611686018427387904):∀(j q:Nat),j≤b.length→j<q→Mg b q (leU (b.drop j)) ((j:Int)-1)=some (leU b)
 |0,q+1,_,_=>by
  rw[Mg,Yn,if_neg (by rw[Dq];simp)]
  simp[Alr,Aj1]
 |j+1,q+1,hj,hq=>by
  rw[Mg,Yn,if_pos (by rw[Dq];simp),show((j+1:Nat):Int)-1=(j:Int) by omega,By (by omega),Aa,Bv (by omega) (by omega)]
  have h:Ad (Bd (256:UInt64) (leU (b.drop (j+1)))) (Ae b[j]:UInt64)=leU (b.drop j):=by
   rw[Ahe,Af9,Ax7,drop_cons (n:=j) (by omega),leU,leU,Ee,UInt64.ofNat_add,UInt64.ofNat_mul]
   exact UInt64.add_comm _ _
  rw[h]
  exact Byi b hb j q (by omega) (by omega)
theorem Bon(b:List UInt8)(hb:b.length<4611686018427387904):Dc b=some (leU b):=by
 have h:=Byi b hb b.length FUEL (Nat.le_refl _) (by have:=Ao;omega)
 rw[Dc,Akt,Aju]
 have e:Ak (Ac b) 1=(b.length:Int)-1:=Bv (by unfold Ac;omega) (by unfold Ac;omega)
 rw[e,←h,List.drop_length];rfl
theorem Byd{n c:UInt64}{i:Nat}(hn:n.toNat<2^i)(hc:c.toNat*2^i<18446744073709551616):gor n (Dn c i)=UInt64.ofNat (n.toNat+c.toNat*2^i):=by
 rw[Cdp];apply UInt64.toNat_inj.1
 rw[UInt64.toNat_or,Ao3,Nat.mod_eq_of_lt hc,Nat.mul_comm,Nat.or_comm,←Nat.two_pow_add_eq_or_of_lt hn,UInt64.toNat_ofNat',Nat.mod_eq_of_lt,Nat.add_comm,Nat.mul_comm]
 have h:=Nat.two_pow_add_eq_or_of_lt hn c.toNat
 have h2:2^i*c.toNat+n.toNat<2^64:=by
  rw[h]
  exact Nat.or_lt_two_pow (by rw[Nat.mul_comm];simpa using hc) n.toNat_lt
 rw[Nat.add_comm];first|exact h2|(rw[Nat.mul_comm];exact h2)
theorem Bkn(b:List UInt8)(hb:b.length≤8):∀(j i q:Nat),i+j=b.length→j<q→Zx b q (leU (b.take i)) (i:Int)=some (leU b,0)
 |0,i,q+1,hi,_=>by
  rw[Zx,Amd,if_neg (by rw[Af,Ac];simp;omega),show i=b.length by omega,List.take_length];rfl
 |j+1,i,q+1,hi,hq=>by
  have hlt:i<b.length:=by omega
  rw[Zx,Amd,if_pos (by rw[Af,Ac];simp;omega),By hlt,Aa,Hl (by omega) (by omega),Db (by rw[Dq];simp;omega),Aa,Aj (by omega) (by omega)]
  have h:gor (leU (b.take i)) (Dn (Ae b[i]:UInt64) (GI.toZ ((8:Int)*(i:Int))).toNat)=leU (b.take (i+1)):=by
   have e:(GI.toZ ((8:Int)*(i:Int))).toNat=8*i:=by show((8:Int)*(i:Int)).toNat=_;omega
   have e2:(2:Nat)^(8*i)=256^i:=by rw[Nat.pow_mul]
   have h1:=Blz (b.take i)
   rw[List.length_take,Nat.min_eq_left (by omega)]at h1
   have h3:=b[i].toNat_lt
   have hle:(256:Nat)^(i+1)≤256^8:=Nat.pow_le_pow_right (by omega) (by omega)
   rw[Nat.pow_succ]at hle
   have h4:(Ae b[i]:UInt64).toNat=b[i].toNat:=by rw[Ax7,UInt64.toNat_ofNat'];omega
   have h5:b[i].toNat*256^i<18446744073709551616:=by
    have:b[i].toNat*256^i<256*256^i:=Nat.mul_lt_mul_of_pos_right (by simpa using h3) (Nat.pow_pos (by omega))
    simp at hle;omega
   rw[e,Byd (by rw[Al9 (by simp;omega),e2];exact h1) (by rw[h4,e2];exact h5),Al9 (by simp;omega),h4,e2,Ajh hlt]
   rw[leU,Bhf]
   simp only[Ee,List.length_take,Nat.min_eq_left (Nat.le_of_lt hlt),Nat.mul_zero,Nat.add_zero]
   rw[Nat.mul_comm]
  rw[h]
  exact Bkn b hb j (i+1) q (by omega) (by omega)
theorem Bqv(b:List UInt8)(h1:1≤b.length)(h2:b.length≤8):Avl b=some (leU b,0):=by
 have h:=Bkn b h2 b.length 0 FUEL (by omega) (by have:=Ao;omega)
 rw[Avl,Atn,if_neg (by simp[Af,Am,Ac];omega),At1]
 exact h
def part(b:List UInt8)(at' w:Nat):List UInt8:=(b.take (at'+w)).drop at'
theorem Df{b:List UInt8}{a w:Nat}(h:a+w≤b.length):(part b a w).length=w:=by simp[part];omega
theorem Bkj(b:List UInt8)(a w:Nat)(h1:1≤w)(h2:w≤8)(h3:a+w≤b.length)(hb:b.length<4611686018427387904):Aoq b (a:Int) (w:Int)=some (leU (part b a w),0):=by
 rw[Aoq,if_neg (by simp[Af,Am];omega),if_neg (by rw[Am,Bv (by unfold Ac;omega) (by unfold Ac;omega),Ac];simp;omega),Aj (by omega) (by omega),Ta (by omega) (by omega) (by omega),Aa]
 rw[show((a:Int)+(w:Int)).toNat=a+w by omega,show(a:Int).toNat=a by omega]
 rw[Bqv _ (by rw[show((b.take (a+w)).drop a).length=_ from Df h3];exact h1) (by rw[show((b.take (a+w)).drop a).length=_ from Df h3];exact h2),Aa];rfl
theorem Bdj(w:Nat)(hw:w≤1000):∀(j i q:Nat) (n:UInt64) (acc:List UInt8),i+j=w→j<q→acc.length+j≤1000000→Hb (w:Int) q n (i:Int) acc=some (acc++leB n.toNat j)
 |0,i,q+1,n,acc,hi,_,_=>by
  rw[Hb,Px,if_neg (by rw[Af];simp;omega)]
  simp[Zl,Zj,leB]
 |j+1,i,q+1,n,acc,hi,hq,ha=>by
  rw[Hb,Px,if_pos (by rw[Af];simp;omega)]
  have e:(Ae (Aao n (256:UInt64)):UInt8)=UInt8.ofNat n.toNat:=by
   rw[Aqb,Bps];apply UInt8.toNat_inj.1
   rw[UInt8.toNat_ofNat',UInt8.toNat_ofNat',UInt64.toNat_mod]
   show n.toNat %256 %256=_
   omega
  have e2:(Cn n (256:UInt64)).toNat=n.toNat/256:=by rw[Azb,UInt64.toNat_div];rfl
  rw[Cl (by simp;omega),Aa,Aj (by omega) (by omega),e]
  have h:=Bdj w hw j (i+1) q (Cn n 256) (acc++[UInt8.ofNat n.toNat]) (by omega) (by omega) (by simp;omega)
  rw[e2]at h
  rw[show((i:Int)+1)=((i+1:Nat):Int) by omega,h,leB];simp
theorem Bgq(n:UInt64)(w:Nat)(hw:w≤1000):Dr n (w:Int)=some (leB n.toNat w):=by
 rw[Dr,Zw,Zu]
 have h:=Bdj w hw w 0 FUEL n [] (by omega) (by have:=Ao;omega) (by simp;omega)
 simpa using h
theorem Avw{α:Type}{l m:List α}{x y:α}{i:Nat}(h:l.length=i):(l++x::m).set i y=l++y::m:=by subst h;simp
theorem Bkd(n:UInt64)(l4:List UInt8)(w:Nat)(hl:l4.length=w)(hw:w≤8):∀(j i q:Nat),i+j=w→j<q→Zo n l4 q (i:Int) (leB n.toNat i++List.replicate j 0)=some (leB n.toNat w,0)
 |0,i,q+1,hi,_=>by
  rw[Zo,Ame,if_neg (by rw[Af,Ac];simp;omega)]
  obtain rfl:i=w:=by omega
  simp[As9,Bc5]
 |j+1,i,q+1,hi,hq=>by
  have hlen:(leB n.toNat i++List.replicate (j+1) 0).length=i+(j+1):=by simp[My]
  rw[Zo,Ame,if_pos (by rw[Af,Ac];simp;omega),Hl (by omega) (by omega),Db (by rw[Dq];simp;omega),Aa,By (by rw[hlen];omega),Aa,Xd _ (by rw[hlen];omega),Aa,Aj (by omega) (by omega)]
  have e:(Ae (Ce n (GI.toZ ((8:Int)*(i:Int))).toNat):UInt8)=UInt8.ofNat (n.toNat/256^i):=by
   have e:(GI.toZ ((8:Int)*(i:Int))).toNat=8*i:=by show((8:Int)*(i:Int)).toNat=_;omega
   rw[e,Aqb,Agc,Nat.pow_mul]
  rw[e,List.replicate_succ,Avw (My _ _)]
  have h:=Bkd n l4 w hl hw j (i+1) q (by omega) (by omega)
  rw[Bqe]at h
  simpa using h
theorem Cfb(n:UInt64)(w:Nat)(h1:1≤w)(h2:w≤8)(h:n.toNat<256^w):Beo n (w:Int)=some true:=by
 rw[Beo]
 by_cases h8:w=8
 ·subst h8;rw[if_pos (by rw[Al];rfl)]
 ·rw[if_neg (by rw[Al];simp;omega),Hl (by omega) (by omega),Db (by rw[Dq];simp;omega),Aa]
  have e:(GI.toZ ((8:Int)*(w:Int))).toNat=8*w:=by show((8:Int)*(w:Int)).toNat=_;omega
  rw[e,Bej]
  have:Ce n (8*w)=0:=by
   apply UInt64.toNat_inj.1
   rw[Agc,Nat.pow_mul]
   exact Nat.div_eq_of_lt h
  rw[this];rfl
theorem Bo4(n:UInt64)(w:Nat)(h1:1≤w)(h2:w≤8)(h:n.toNat<256^w):Xv n (w:Int)=some (leB n.toNat w,0):=by
 rw[Xv,Atp,if_neg (by simp[Af,Am];omega),Cfb n w h1 h2 h,Aa,if_neg (by simp),Bi3 (by omega) (by omega),Aa,Db (by rw[Al];simp),Aa,Ava]
 have h:=Bkd n (List.replicate (w:Int).toNat 0) w (by simp) h2 w 0 FUEL (by omega) (by have:=Ao;omega)
 simpa [leB]using h
end Go.Pl
set_option linter.unusedVariables false
set_option linter.unusedSimpArgs false
namespace Go.Pl
open Go Go.Lv
theorem Bpd(n:Nat)(h:n<4611686018427387904):Dt (n:Int) (7:Int)=((n %8:Nat):Int):=by
 have e:Dt (n:Int) (7:Int)=wrap64 ((BitVec.ofInt 64 (n:Int)&&&BitVec.ofInt 64 7).toNat:Int):=rfl
 rw[e,BitVec.toNat_and,BitVec.toNat_ofInt,BitVec.toNat_ofInt]
 have h1:((n:Int) %((2^64:Nat):Int)).toNat=n:=by omega
 have h2:((7:Int) %((2^64:Nat):Int)).toNat=2^3-1:=by decide
 rw[h1,h2,Nat.and_two_pow_sub_one_eq_mod,Cg (by omega) (by omega)]
theorem Ci4(n:Nat):Bl2 (n:Int) (GI.toZ (3:UInt64)).toNat=((n/8:Nat):Int):=by
 have e:Bl2 (n:Int) (GI.toZ (3:UInt64)).toNat=(n:Int).fdiv 8:=rfl
 rw[e,Int.fdiv_eq_ediv_of_nonneg _ (by omega)];omega
theorem Ciu{t:Nat}(h:t≤8):Ak (Dn (1:UInt8) t) (1:UInt8)=UInt8.ofNat (2^t-1):=by
 have:t=0∨t=1∨t=2∨t=3∨t=4∨t=5∨t=6∨t=7∨t=8:=by omega
 rcases this with rfl|rfl|rfl|rfl|rfl|rfl|rfl|rfl|rfl<;>decide
theorem bitsOf(c:UInt8)(off t:Nat)(h:t≤8):(Dt (Ce c off) (Ak (Dn (1:UInt8) t) (1:UInt8))).toNat=c.toNat/2^off %2^t:=by
 have hp:2^t≤2^8:=Nat.pow_le_pow_right (by omega) h
 rw[Ciu h,Cce,UInt8.toNat_and,Bt9,UInt8.toNat_ofNat',Nat.mod_eq_of_lt (by have:=Nat.pow_pos (n:=t) (show 0<2 by omega);omega),Nat.and_two_pow_sub_one_eq_mod]
theorem Biq{p:List UInt8}{k:Nat}(h:k<p.length):getI p (k:Int)=some (p.getD k 0):=by
 rw[By h];simp[List.getD_eq_getElem?_getD,h]
def Vr(p:List UInt8)(a n:Nat):UInt64:=UInt64.ofNat (Ck p a n)
theorem Aav(p:List UInt8)(a n:Nat)(h:n≤64):(Vr p a n).toNat=Ck p a n:=by
 have h1:=Rc p n a
 have h2:2^n≤2^64:=Nat.pow_le_pow_right (by omega) h
 rw[Vr,UInt64.toNat_ofNat',Nat.mod_eq_of_lt (by omega)]
theorem Bqu(p:List UInt8)(N:Int)(a n:Nat)(hn:n≤64)(ha:a+n≤8*p.length)(hp:p.length≤1000000):∀(j h q:Nat),h+j=n→j<q→Agw (a:Int) (n:Int) p N q (Vr p a h) (h:Int)=some (Vr p a n)
 |j,h,q+1,hj,hq=>by
  rw[Agw,At6]
  by_cases hlt:h<n
  ·have e1:Ad (a:Int) (h:Int)=((a+h:Nat):Int):=by rw[Aj (by omega) (by omega)];omega
   have e2:Dz (Ak (n:Int) (h:Int)) (Ak (8:Int) (((a+h) %8:Nat):Int))=((min (n-h) (8-(a+h) %8):Nat):Int):=by
    rw[Ak9,Bv (by omega) (by omega),Bv (by omega) (by omega)];omega
   have hm:(a+h)/8<p.length:=by omega
   rw[if_pos (by rw[Af];simp;omega),e1,Ci4,Biq hm,Aa,Bpd _ (by omega),Db (by rw[Dq];simp;omega),Aa,e2,Db (by rw[Dq];simp),Aa,Db (by rw[Dq];simp),Aa]
   generalize hT:min (n-h) (8-(a+h) %8)=T
   have hT8:T≤8:=by omega
   have hT1:1≤T:=by omega
   have hb:(a+h) %8+T≤8:=by omega
   have hv:=Bbh p (a+h) T hb
   have z1:(GI.toZ (((a+h) %8:Nat):Int)).toNat=(a+h) %8:=rfl
   have z2:(GI.toZ ((T:Nat):Int)).toNat=T:=rfl
   have z3:(GI.toZ ((h:Nat):Int)).toNat=h:=rfl
   rw[z1,z2,z3]
   have hx:(Ae (Dt (Ce (p.getD ((a+h)/8) 0) ((a+h) %8)) (Ak (Dn (1:UInt8) T) (1:UInt8))):UInt64).toNat=Ck p (a+h) T:=by
    rw[Ax7,UInt64.toNat_ofNat',bitsOf _ _ _ hT8,←hv]
    have:=Rc p T (a+h)
    have h2:2^T≤2^8:=Nat.pow_le_pow_right (by omega) hT8
    omega
   have hlt2:=Rc p (h+T) a
   rw[Ak4]at hlt2
   have h64:2^(h+T)≤2^64:=Nat.pow_le_pow_right (by omega) (by omega)
   have hor:gor (Vr p a h) (Dn (Ae (Dt (Ce (p.getD ((a+h)/8) 0) ((a+h) %8)) (Ak (Dn (1:UInt8) T) (1:UInt8))):UInt64) h)=Vr p a (h+T):=by
    rw[Byd (by rw[Aav p a h (by omega)];exact Rc p h a) (by rw[hx,Nat.mul_comm];omega),hx,Aav p a h (by omega),Vr,Ak4,Nat.mul_comm (2^h)]
   rw[hor,Aj (by omega) (by omega),show(h:Int)+((T:Nat):Int)=((h+T:Nat):Int) by omega]
   exact Bqu p N a n hn ha hp (j-T) (h+T) q (by omega) (by omega)
  ·rw[if_neg (by rw[Af];simp;omega),show h=n by omega];rfl
theorem get_eq(p:List UInt8)(N:Int)(a n:Nat)(hn:n≤64)(ha:a+n≤8*p.length)(hp:p.length≤1000000):Azg p N (a:Int) (n:Int)=some (Vr p a n):=by
 have:=Bqu p N a n hn ha hp n 0 FUEL (by omega) (by have:=Ao;omega)
 exact this
theorem Ajc{p:List UInt8}{n:Nat}(h:okB p n):Ji p (n:Int)=some 0:=by
 obtain⟨h1,h2,h3⟩:=h
 have e7:Ad (n:Int) 7=((n+7:Nat):Int):=by rw[Aj (by omega) (by omega)];omega
 rw[Ji,e7,Ci4,if_neg (by simp[Af,Am,Ag,Ac,h2];omega),Bpd _ (by omega)]
 by_cases hz:n %8=0
 ·rw[if_neg (by rw[Am];simp;omega)]
 ·have el:Ak (Ac p) 1=((p.length-1:Nat):Int):=by rw[Ac,Bv (by omega) (by omega)];omega
  rw[if_pos (by rw[Am];simp;omega),el,Biq (by omega),Aa,Db (by rw[Dq];simp;omega),Aa]
  have z:(GI.toZ ((n %8:Nat):Int)).toNat=n %8:=rfl
  have hs:Ce (p.getD (p.length-1) 0) (n %8)=0:=by
   apply UInt8.toNat_inj.1
   rw[Bt9]
   have hv:=Bbh p n (8-n %8) (by omega)
   have h0:Ck p n (8-n %8)=0:=Bkl _ _ fun k hk=>h3 _ (by omega) (by omega)
   rw[h0,show n/8=p.length-1 by omega]at hv
   have hlt:(p.getD (p.length-1) 0).toNat/2^(n %8)<2^(8-n %8):=by
    have:=(p.getD (p.length-1) 0).toNat_lt
    rw[Nat.div_lt_iff_lt_mul (Nat.pow_pos (by omega)),←Nat.pow_add,show 8-n %8+n %8=8 by omega];simpa using this
   rw[Nat.mod_eq_of_lt hlt]at hv
   exact hv.symm
  rw[z,hs,if_neg (by rw[Brb];simp)]
theorem Bcj{p:List UInt8}{N:Nat}(h:okB p N)(a n:Nat)(hn:n≤64):Acb p (N:Int) (a:Int) (n:Int)=some (if N<a+n then(0,24)else(Vr p a n,0)):=by
 obtain⟨h1,h2,h3⟩:=h
 rw[Acb,Ajc ⟨h1,h2,h3⟩,Aa,if_neg (by rw[Ag];simp),if_neg (by simp[Af,Am];omega),Bv (by omega) (by omega)]
 by_cases hl:N<a+n
 ·rw[if_pos (by rw[Am];simp;omega),if_pos hl]
 ·rw[if_neg (by rw[Am];simp;omega),get_eq p N a n hn (by omega) (by omega),Aa,if_neg hl]
end Go.Pl
set_option linter.unusedVariables false
set_option linter.unusedSimpArgs false
namespace Go.Pl
open Go Go.Lv
theorem Cjt(c:Nat)(h:c<4611686018427387904):Cn (c:Int) (2:Int)=((c/2:Nat):Int):=by
 rw[Ah1,Int.tdiv_eq_ediv_of_nonneg (by omega),Cg (by omega) (by omega)];omega
theorem Ch4(c:Nat)(h:c<4611686018427387904):Cn (c:Int) (8:Int)=((c/8:Nat):Int):=by
 rw[Ah1,Int.tdiv_eq_ediv_of_nonneg (by omega),Cg (by omega) (by omega)];omega
theorem Bzk(c:Nat):Gs (c:Int) (8:Int)=((c %8:Nat):Int):=by rw[Gs,Int.tmod_eq_emod_of_nonneg (by omega)];omega
theorem Cjm(c:Nat):Gs (c:Int) (2:Int)=((c %2:Nat):Int):=by rw[Gs,Int.tmod_eq_emod_of_nonneg (by omega)];omega
theorem Buu(i c:Nat)(hc:c<256):∀(j k q:Nat),k+j=i %8→j<q→Lw (i:Int) q ((c/2^k:Nat):Int) (k:Int)=some (((c/2^(i %8) %2:Nat):Int))
 |0,k,q+1,hk,_=>by
  rw[Lw,Zi,Bzk,if_neg (by rw[Af];simp;omega),Ajy,Ala,Cjm,show k=i %8 by omega]
 |j+1,k,q+1,hk,hq=>by
  have hle:c/2^k≤c:=Nat.div_le_self _ _
  rw[Lw,Zi,Bzk,if_pos (by rw[Af];simp;omega),Cjt _ (by omega),Aj (by omega) (by omega),Nat.div_div_eq_div_mul,←Nat.pow_succ]
  exact Buu i c hc j (k+1) q (by omega) (by omega)
theorem Bbb(p:List UInt8)(N:Int)(i:Nat)(h:i/8<p.length)(hi:i<4611686018427387904):Kq p N (i:Int)=some ((Kg p i:Nat):Int):=by
 have hc:=(p.getD (i/8) 0).toNat_lt
 have:=Buu i (p.getD (i/8) 0).toNat (by simpa using hc) (i %8) 0 FUEL (by omega) (by have:=Ao;omega)
 rw[Kq,Aks,Ch4 _ hi,Biq h,Aa,Ajb,Alq]
 simpa [Kg]using this
theorem Bfa(p:List UInt8)(N:Int)(a n:Nat)(ha:a+n≤8*p.length)(hp:p.length≤1000000):∀(j q:Nat),j≤n→j<q→Iv (a:Int) p N q (Vr p (a+j) (n-j)) ((j:Int)-1)=some (Vr p a n)
 |0,q+1,_,_=>by
  rw[Iv,Se,if_neg (by rw[Dq];simp)];rfl
 |j+1,q+1,hj,hq=>by
  have hb:=Xy p (a+j)
  rw[Iv,Se,show((j+1:Nat):Int)-1=(j:Int) by omega,if_pos (by rw[Dq];simp),Aj (a:=(a:Int)) (by omega) (by omega),show(a:Int)+(j:Int)=((a+j:Nat):Int) by omega,Bbb p N (a+j) (by omega) (by omega),Aa,Bv (by omega) (by omega)]
  have e:Ad (Bd (2:UInt64) (Vr p (a+(j+1)) (n-(j+1)))) (Ae ((Kg p (a+j):Nat):Int):UInt64)=Vr p (a+j) (n-j):=by
   rw[Ahe,Af9,Aad,Vr,Vr,show n-j=(n-(j+1))+1 by omega,Ck,show a+j+1=a+(j+1) by omega,UInt64.ofNat_add,UInt64.ofNat_mul]
   exact UInt64.add_comm _ _
  rw[e]
  exact Bfa p N a n ha hp j q (by omega) (by omega)
theorem Ayj(p:List UInt8)(N:Int)(a n:Nat)(ha:a+n≤8*p.length)(hp:p.length≤1000000):Qr p N (a:Int) (n:Int)=some (Vr p a n):=by
 have:=Bfa p N a n ha hp n FUEL (Nat.le_refl _) (by have:=Ao;omega)
 have hz:Vr p (a+n) (n-n)=0:=by rw[Nat.sub_self];rfl
 rw[hz]at this
 rw[Qr,Adx,Adz,Bv (by omega) (by omega)]
 exact this
theorem Bts(bit:Int)(N:Nat)(l:List UInt8):∀(j k q:Nat),k+j=N %8→j<q→Kv bit (N:Int) l q ((2^k:Nat):Int) (k:Int)=Xg bit ((2^(N %8):Nat):Int) (N:Int) l
 |0,k,q+1,hk,_=>by
  rw[Kv,Xb,Bzk,if_neg (by rw[Af];simp;omega),show k=N %8 by omega]
 |j+1,k,q+1,hk,hq=>by
  have hp:2^k≤2^8:=Nat.pow_le_pow_right (by omega) (by omega)
  have e:Bd ((2^k:Nat):Int) 2=((2^(k+1):Nat):Int):=by
   rw[Nat.pow_succ]
   generalize 2^k=K at*
   rw[Hl (by omega) (by omega)];omega
  rw[Kv,Xb,Bzk,if_pos (by rw[Af];simp;omega),e,Aj (by omega) (by omega)]
  exact Bts bit N l j (k+1) q (by omega) (by omega)
theorem Bil(p:List UInt8)(a n j:Nat)(h:j<(n+7)/8):(Aes p a n)[j]'(by rw[Nx];exact h)=UInt8.ofNat (Ck p (a+8*j) (min 8 (n-8*j))):=by simp[Aes]
theorem Bpw(p:List UInt8)(a t:Nat)(h:t≤8):Ck p a t<256:=by
 have h1:=Rc p t a
 have h2:2^t≤2^8:=Nat.pow_le_pow_right (by omega) h
 omega
def room(p:List UInt8)(a n:Nat):List UInt8:=if n %8=0 then Aes p a n++[0]else Aes p a n
theorem Xt(p:List UInt8)(a n:Nat):(room p a n).length=n/8+1:=by
 rw[room];split<;>simp[Nx]<;>omega
theorem Bpc(p:List UInt8)(a n j:Nat)(h:j<n/8+1):(room p a n)[j]'(by rw[Xt];exact h)=UInt8.ofNat (Ck p (a+8*j) (min 8 (n-8*j))):=by
 have h0:(room p a n)[j]? =some (UInt8.ofNat (Ck p (a+8*j) (min 8 (n-8*j)))):=by
  rw[room]
  split
  ·by_cases hj:j<(n+7)/8
   ·rw[List.getElem?_append_left (by rw[Nx];exact hj),List.getElem?_eq_getElem (by rw[Nx];exact hj),Bil p a n j hj]
   ·rw[List.getElem?_append_right (by rw[Nx];omega),Nx,show j-(n+7)/8=0 by omega,show n-8*j=0 by omega];rfl
  ·rw[List.getElem?_eq_getElem (by rw[Nx];omega),Bil p a n j (by omega)]
 rw[List.getElem?_eq_getElem (by rw[Xt];exact h)]at h0
 exact Option.some.inj h0
theorem Bpu(p:List UInt8)(a n T:Nat)(h1:1≤T)(h:n %8+T≤8):(room p a n).set (n/8) (UInt8.ofNat (Ck p (a+8*(n/8)) (n %8+T)))=Aes p a (n+T):=by
 apply List.ext_getElem (by rw[List.length_set,Xt,Nx];omega)
 intro j g1 g2
 rw[List.length_set,Xt]at g1
 rw[List.getElem_set,Bil p a (n+T) j (by rw[Nx]at g2;exact g2)]
 split
 ·rename_i e;subst e;rw[show min 8 (n+T-8*(n/8))=n %8+T by omega]
 ·rw[Bpc p a n j g1,show min 8 (n-8*j)=8 by omega,show min 8 (n+T-8*j)=8 by omega]
theorem Bjk(p:List UInt8)(a n:Nat):(room p a n)[n/8]'(by rw[Xt];omega)=UInt8.ofNat (Ck p (a+8*(n/8)) (n %8)):=by
 rw[Bpc p a n _ (by omega),show min 8 (n-8*(n/8))=n %8 by omega]
theorem Bx9(p:List UInt8)(a n:Nat)(hn:n≤400000):Wa (Aes p a n) (n:Int) ((Kg p (a+n):Nat):Int)=some (Aes p a (n+1),((n+1:Nat):Int)):=by
 have hb:=Xy p (a+n)
 have hp:2^(n %8)≤2^7:=Nat.pow_le_pow_right (by omega) (by omega)
 have hroom:Wa (Aes p a n) (n:Int) ((Kg p (a+n):Nat):Int)=Wy ((Kg p (a+n):Nat):Int) (n:Int) (room p a n):=by
  rw[Wa,Aim,Bzk,room]
  by_cases h0:n %8=0
  ·rw[if_pos (by rw[Al,h0];rfl),Cl (by rw[Nx];simp;omega),Aa,if_pos h0]
  ·rw[if_neg (by rw[Al];simp;omega),if_neg h0]
 have hl:=Bts ((Kg p (a+n):Nat):Int) n (room p a n) (n %8) 0 FUEL (by omega) (by have:=Ao;omega)
 rw[hroom,Wy,Aid,Aib]
 refine Eq.trans hl ?_
 have hg:getI (room p a n) ((n/8:Nat):Int)=some (UInt8.ofNat (Ck p (a+8*(n/8)) (n %8))):=by
  rw[By (by rw[Xt];omega),Bjk]
 have hlt:=Bpw p (a+8*(n/8)) (n %8+1) (by omega)
 have hsn:=Bjo p (a+8*(n/8)) (n %8)
 rw[show a+8*(n/8)+n %8=a+n by omega]at hsn
 have hm:Bd ((Kg p (a+n):Nat):Int) ((2^(n %8):Nat):Int)=((2^(n %8)*Kg p (a+n):Nat):Int):=by
  have hle:2^(n %8)*Kg p (a+n)≤2^7*1:=Nat.mul_le_mul hp (by omega)
  rw[Byw,←Int.natCast_mul,Cg (by omega) (by rw[Nat.mul_comm];omega),Nat.mul_comm]
 have hx:Ad (UInt8.ofNat (Ck p (a+8*(n/8)) (n %8))) (Ae (((2^(n %8)*Kg p (a+n):Nat):Int)):UInt8)=UInt8.ofNat (Ck p (a+8*(n/8)) (n %8+1)):=by
  rw[Cex,Caz,hsn,UInt8.ofNat_add]
 rw[Xg,Aii,Ch4 _ (by omega),hg,Aa,Aa,Aa,hm,hx,Xd _ (by rw[Xt];omega),Aa,Bpu p a n 1 (by omega) (by omega),Aj (by omega) (by omega)];rfl
theorem Azy(p:List UInt8)(N:Int)(a n:Nat)(ha:a+n≤8*p.length)(hp:p.length≤1000000)(hn:n≤300000):∀(j m q:Nat),m+j=n→j<q→Ha ((a+n:Nat):Int) p N q ((a+m:Nat):Int) (m:Int) (Aes p a m)=some (Aes p a n,(n:Int))
 |0,m,q+1,hm,_=>by
  rw[Ha,Pp,if_neg (by rw[Af];simp;omega),show m=n by omega];rfl
 |j+1,m,q+1,hm,hq=>by
  rw[Ha,Pp,if_pos (by rw[Af];simp;omega),Bbb p N (a+m) (by omega) (by omega),Aa,Bx9 p a m (by omega),Aa]
  simp only
  rw[Aj (by omega) (by omega)]
  exact Azy p N a n ha hp hn j (m+1) q (by omega) (by omega)
theorem Boh(p:List UInt8)(N:Int)(a n:Nat)(ha:a+n≤8*p.length)(hp:p.length≤1000000)(hn:n≤300000):Ahc p N (a:Int) ((a+n:Nat):Int)=some (Aes p a n,(n:Int)):=by
 have:=Azy p N a n ha hp hn n 0 FUEL (by omega) (by have:=Ao;omega)
 exact this
end Go.Pl
set_option linter.unusedVariables false
set_option linter.unusedSimpArgs false
namespace Go.Pl
open Go Go.Lv
theorem Cgc{t:Nat}(h:t≤8):Ak (Dn (1:UInt64) t) (1:UInt64)=UInt64.ofNat (2^t-1):=by
 have:t=0∨t=1∨t=2∨t=3∨t=4∨t=5∨t=6∨t=7∨t=8:=by omega
 rcases this with rfl|rfl|rfl|rfl|rfl|rfl|rfl|rfl|rfl<;>decide
theorem Cju(v:UInt64){t:Nat}(h:t≤8):(Dt v (Ak (Dn (1:UInt64) t) (1:UInt64))).toNat=v.toNat %2^t:=by
 have hp:2^t≤2^8:=Nat.pow_le_pow_right (by omega) h
 rw[Cgc h,Bfy,UInt64.toNat_and,UInt64.toNat_ofNat',Nat.mod_eq_of_lt (by have:=Nat.pow_pos (n:=t) (show 0<2 by omega);omega),Nat.and_two_pow_sub_one_eq_mod]
theorem or8{v w i:Nat}(hv:v<2^i)(hw:w*2^i<256)(hi:i<8):gor (UInt8.ofNat v) (Dn (UInt8.ofNat w) i)=UInt8.ofNat (v+w*2^i):=by
 have hp:2^i≤2^8:=Nat.pow_le_pow_right (by omega) (by omega)
 have hpos:0<2^i:=Nat.pow_pos (by omega)
 have hw2:w<256:=Nat.lt_of_le_of_lt (Nat.le_mul_of_pos_right w hpos) hw
 rw[Cg4];apply UInt8.toNat_inj.1
 have e1:(UInt8.ofNat v).toNat=v:=by rw[UInt8.toNat_ofNat',Nat.mod_eq_of_lt (by omega)]
 have e2:(UInt8.ofNat w).toNat=w:=by rw[UInt8.toNat_ofNat',Nat.mod_eq_of_lt (by omega)]
 rw[UInt8.toNat_or,Cdf,e1,e2,Nat.mod_eq_of_lt hw,Nat.mul_comm w,Nat.or_comm,←Nat.two_pow_add_eq_or_of_lt hv,UInt8.toNat_ofNat',Nat.add_comm v]
 rw[Nat.mul_comm]at hw
 have hb:2^i*w+v<256:=by
  rw[Nat.two_pow_add_eq_or_of_lt hv]
  exact Nat.or_lt_two_pow (n:=8) hw (by omega)
 rw[Nat.mod_eq_of_lt hb]
theorem Cbt(p:List UInt8)(a n T:Nat)(h:T≤n)(hn:n≤64):Ce (Vr p a n) T=Vr p (a+T) (n-T):=by
 apply UInt64.toNat_inj.1
 rw[Agc,Aav p a n hn,Aav p (a+T) (n-T) (by omega)]
 have:=Rc p T a
 conv=>lhs;rw[show n=T+(n-T) by omega,Ak4,Nat.add_mul_div_left _ _ (Nat.pow_pos (by omega)),Nat.div_eq_of_lt this,Nat.zero_add]
theorem Byn(p:List UInt8)(a n T:Nat)(h:T≤n)(hn:n≤64):(Vr p a n).toNat %2^T=Ck p a T:=by
 have:=Rc p T a
 rw[Aav p a n hn]
 conv=>lhs;rw[show n=T+(n-T) by omega,Ak4,Nat.add_mul_mod_self_left,Nat.mod_eq_of_lt this]
theorem Bfz(bk:Int→Int→List UInt8→Option (List UInt8×Int×Int))(to':Int)(p:List UInt8)(N fr:Int)(r6:UInt64)(a:Nat):∀(j m q:Nat),m+j≤300000→j≤64→j<q→
  Nn bk to' p N fr r6 q (Vr p (a+m) j) (j:Int) (m:Int) (Aes p a m)=Ai3 bk to' p N fr ((m+j:Nat):Int) (Aes p a (m+j))
 |0,m,q+1,_,_,_=>by
  rw[Nn,Aja,if_neg (by rw[Am];simp)];rfl
 |j+1,m,q+1,hm,hj,hq=>by
  have hroom:Nn bk to' p N fr r6 (q+1) (Vr p (a+m) (j+1)) ((j+1:Nat):Int) (m:Int) (Aes p a m)=Aiw (Nn bk to' p N fr r6 q) to' fr p N r6 (Vr p (a+m) (j+1)) ((j+1:Nat):Int) (m:Int) (room p a m):=by
   rw[Nn,Aja,if_pos (by rw[Am];simp),Bpd m (by omega),room]
   by_cases h0:m %8=0
   ·rw[if_pos (by rw[Al,h0];rfl),Cl (by rw[Nx];simp;omega),Aa,if_pos h0]
   ·rw[if_neg (by rw[Al];simp;omega),if_neg h0]
  have hl:Ak (Ac (room p a m)) 1=((m/8:Nat):Int):=by
   rw[Ac,Xt,Bv (by omega) (by omega)];omega
  have e2:Dz ((j+1:Nat):Int) (Ak (8:Int) ((m %8:Nat):Int))=((min (j+1) (8-m %8):Nat):Int):=by
   rw[Ak9,Bv (by omega) (by omega)];omega
  rw[hroom,Aiw,Aq4,Bpd m (by omega),e2,hl]
  generalize hT:min (j+1) (8-m %8)=T
  have hT1:1≤T:=by omega
  have hT8:m %8+T≤8:=by omega
  have hg:getI (room p a m) ((m/8:Nat):Int)=some (UInt8.ofNat (Ck p (a+8*(m/8)) (m %8))):=by
   rw[By (by rw[Xt];omega),Bjk]
  have z1:(GI.toZ ((m %8:Nat):Int)).toNat=m %8:=rfl
  have z2:(GI.toZ ((T:Nat):Int)).toNat=T:=rfl
  have hlt:=Bpw p (a+8*(m/8)) (m %8+T) (by omega)
  have hadd:=Ak4 p (m %8) T (a+8*(m/8))
  rw[show a+8*(m/8)+m %8=a+m by omega]at hadd
  have hbyte:(Ae (Dt (Vr p (a+m) (j+1)) (Ak (Dn (1:UInt64) T) (1:UInt64))):UInt8)=UInt8.ofNat (Ck p (a+m) T):=by
   rw[Aqb,Cju _ (by omega),Byn p (a+m) (j+1) T (by omega) hj]
  have hnew:gor (UInt8.ofNat (Ck p (a+8*(m/8)) (m %8))) (Dn (UInt8.ofNat (Ck p (a+m) T)) (m %8))=UInt8.ofNat (Ck p (a+8*(m/8)) (m %8+T)):=by
   rw[or8 (Rc _ _ _) (by rw[Nat.mul_comm];omega) (by omega),hadd,Nat.mul_comm (2^(m %8))]
  rw[hg,z1,z2,hbyte]
  simp only[Aa]
  rw[Db (by rw[Dq];simp),Aa,Db (by rw[Dq];simp;omega),Aa,hnew,Xd _ (by rw[Xt];omega),Aa,Bpu p a m T hT1 hT8,Aq0,Bap,Bpd m (by omega),e2,hT,Db (by rw[Dq];simp),Aa,z2,Cbt p (a+m) (j+1) T (by omega) hj,Bv (by omega) (by omega),Aj (by omega) (by omega)]
  have ih:=Bfz bk to' p N fr r6 a (j+1-T) (m+T) q (by omega) (by omega) (by omega)
  rw[show m+T+(j+1-T)=m+(j+1) by omega]at ih
  rw[←ih,show a+m+T=a+(m+T) by omega,show((j+1:Nat):Int)-((T:Nat):Int)=((j+1-T:Nat):Int) by omega,show(m:Int)+((T:Nat):Int)=((m+T:Nat):Int) by omega]
theorem Bn8(p:List UInt8)(N:Int)(a n:Nat)(ha:a+n≤8*p.length)(hp:p.length≤1000000)(hn:n≤300000):∀(j m f q:Nat),(f=m∨n≤f∧m=n)→m+j=n→f≤n+64→j<q→Wk ((a+n:Nat):Int) p N q ((a+f:Nat):Int) (m:Int) (Aes p a m)=some (Aes p a n,(n:Int),0)
 |j,m,f,q+1,hf,hm,hf2,hq=>by
  rw[Wk,Apy]
  by_cases hlt:f<n
  ·obtain rfl:f=m:=by omega
   have e1:Dz (64:Int) (Ak ((a+n:Nat):Int) ((a+f:Nat):Int))=((min 64 (n-f):Nat):Int):=by
    rw[Ak9,Bv (by omega) (by omega)];omega
   rw[if_pos (by rw[Af];simp;omega),e1,get_eq p N (a+f) _ (by omega) (by omega) hp,Aa,Aqo]
   have h1:=Bfz (Wk ((a+n:Nat):Int) p N q) ((a+n:Nat):Int) p N ((a+f:Nat):Int) (Vr p (a+f) (min 64 (n-f))) a (min 64 (n-f)) f FUEL (by omega) (by omega) (by have:=Ao;omega)
   refine Eq.trans h1 ?_
   rw[Ai3,Baf,Aj (by omega) (by omega),show((a+f:Nat):Int)+64=((a+(f+64):Nat):Int) by omega]
   exact Bn8 p N a n ha hp hn (j-min 64 (n-f)) (f+min 64 (n-f)) (f+64) q (by omega) (by omega) (by omega) (by omega)
  ·rw[if_neg (by rw[Af];simp;omega),Aqp,Az5,show m=n by omega]
theorem Cgu{p:List UInt8}{N:Nat}(h:okB p N)(a n:Nat)(ha:a+n≤N)(hn:n≤300000):Atq p (N:Int) (a:Int) ((a+n:Nat):Int)=some (Aes p a n,(n:Int),0):=by
 obtain⟨h1,h2,h3⟩:=h
 have:=Bn8 p N a n (by omega) (by omega) hn n 0 0 FUEL (by omega) (by omega) (by omega) (by have:=Ao;omega)
 rw[Atq,Auz,Ajc ⟨h1,h2,h3⟩,Aa,if_neg (by rw[Ag];simp),if_neg (by simp[Af,Am];omega),Arf]
 exact this
end Go.Pl
set_option linter.unusedVariables false
set_option linter.unusedSimpArgs false
namespace Go.Pl
open Go Go.Lv
def Gf(p:List UInt8):Nat→Nat→Nat
 |_,0=>0
 |a,m+1=>if Kg p a=1 then 1+Gf p (a+1) m else 0
theorem Amf(p:List UInt8):∀(m a:Nat),Gf p a m≤m
 |0,_=>Nat.le_refl _
 |m+1,a=>by rw[Gf];split<;>have:=Amf p m (a+1)<;>omega
theorem Bpz(p:List UInt8):∀(m a:Nat),∃s,Ck p a m+1=2^(Gf p a m+1)*s+2^Gf p a m∧(Gf p a m=m→s=0)
 |0,a=>⟨0,by simp[Ck,Gf],fun _=>rfl⟩
 |m+1,a=>by
  have hb:=Xy p a
  obtain⟨s,h1,h2⟩:=Bpz p m (a+1)
  by_cases h:Kg p a=1
  ·refine⟨s,?_,fun e=>h2 ?_⟩
   ·rw[Gf,if_pos h,Ck,h,show 1+Gf p (a+1) m+1=(Gf p (a+1) m+1)+1 by omega,show 1+Gf p (a+1) m=Gf p (a+1) m+1 by omega,Nat.pow_succ,Nat.pow_succ (n:=2) (m:=Gf p (a+1) m)]
    rw[Nat.pow_succ]at h1
    generalize Ck p (a+1) m=V at*
    generalize 2^Gf p (a+1) m=W at*
    have e1:W*2*2*s=2*(W*2*s):=by rw[Nat.mul_right_comm (W*2) 2 s,Nat.mul_comm]
    omega
   ·rw[Gf,if_pos h]at e;omega
  ·refine⟨Ck p (a+1) m,?_,fun e=>?_⟩
   ·rw[Gf,if_neg h,Ck];simp;omega
   ·rw[Gf,if_neg h]at e;omega
theorem Cdr{n t s:Nat}(h:2^(t+1)*s+2^t≤2^n)(ht:t<n)(x:Nat)(hx:x=2^n-(2^(t+1)*s+2^t)):x&&& (2^(t+1)*s+2^t)=2^t:=by
 have hpos:0<2^t:=Nat.pow_pos (by omega)
 have hlt:2^t<2^(t+1):=by rw[Nat.pow_succ];omega
 have e:x=2^n-((2^(t+1)*s+(2^t-1))+1):=by rw[hx];congr 1;omega
 apply Nat.eq_of_testBit_eq
 intro i
 rw[Nat.testBit_and,e,Nat.testBit_two_pow_sub_succ (by omega),Nat.testBit_two_pow_mul_add _ (by omega),Nat.testBit_two_pow_mul_add _ hlt]
 by_cases hi:i<t+1
 ·rw[if_pos hi,if_pos hi,Nat.testBit_two_pow_sub_one,Nat.testBit_two_pow]
  by_cases hit:t=i
  ·subst hit;simp;exact ht
  ·have:¬i=t:=fun e=>hit e.symm
   simp[hit]
 ·rw[if_neg hi,if_neg hi,Nat.testBit_two_pow]
  have:¬t=i:=by omega
  simp[this]
theorem By8(a:UInt64):(Bfg a).toNat=18446744073709551615-a.toNat:=by
 have h:=a.toNat_lt
 have e:Bfg a=UInt64.ofNat (BitVec.ofInt 64 18446744073709551615^^^BitVec.ofInt 64 (a.toNat:Int)).toNat:=Gy _
 have h1:BitVec.ofInt 64 (a.toNat:Int)=a.toBitVec:=Bls a
 have h2:(BitVec.ofInt 64 18446744073709551615:BitVec 64)=BitVec.allOnes 64:=by decide
 rw[e,UInt64.toNat_ofNat',h1,h2,BitVec.allOnes_xor,BitVec.toNat_not]
 show(18446744073709551616-1-a.toNat) %18446744073709551616=18446744073709551615-a.toNat
 omega
theorem Bzd(a:UInt64):(Azu a).toNat=(18446744073709551616-a.toNat) %18446744073709551616:=by
 have h:=a.toNat_lt
 have e:Azu a=UInt64.ofNat ((0-(a.toNat:Int)) %18446744073709551616).toNat:=Bmm _
 rw[e,UInt64.toNat_ofNat']
 show((0-(a.toNat:Int)) %18446744073709551616).toNat %18446744073709551616=_
 omega
def Ci9:List UInt8:=[0,1,56,2,57,49,28,3,61,58,42,50,38,29,17,4,62,47,59,36,45,43,51,22,53,39,33,30,24,18,12,5,63,55,48,27,60,41,37,16,46,35,44,21,52,32,23,11,54,26,40,15,34,20,31,10,25,14,19,9,13,8,7,6]
theorem Bxf:∀t:Fin 64,getI Ci9 (GI.toZ (Ce (Bd (UInt64.ofNat (2^t.val)) (285870213051353865:UInt64)) (GI.toZ (58:UInt64)).toNat))=some (UInt8.ofNat t.val):=by decide +kernel
theorem Ciw(x:UInt64)(t s:Nat)(ht:t<64)(h:x.toNat+(2^(t+1)*s+2^t)=18446744073709551616):Fx x=some (t:Int):=by
 have hpos:0<2^t:=Nat.pow_pos (by omega)
 have hx:x.toNat=2^64-(2^(t+1)*s+2^t):=by show x.toNat=18446744073709551616-_;omega
 have hle:2^t≤2^63:=Nat.pow_le_pow_right (by omega) (by omega)
 have hne:x≠0:=by
  intro e
  rw[e]at h
  have h':2^t*(2*s+1)=2^64:=by
   rw[Nat.mul_add,Nat.mul_one,←Nat.mul_assoc,←Nat.pow_succ]
   show _=18446744073709551616
   simpa using h
  have h2:2^64=2^t*2^(64-t):=by rw[←Nat.pow_add];congr 1;omega
  rw[h2]at h'
  have h3:=Nat.eq_of_mul_eq_mul_left hpos h'
  rw[show 64-t=(63-t)+1 by omega,Nat.pow_succ]at h3
  omega
 have hx0:x.toNat≠0:=fun e=>hne (UInt64.toNat_inj.1 e)
 have hl:Dt x (Azu x)=UInt64.ofNat (2^t):=by
  apply UInt64.toNat_inj.1
  rw[Bfy,UInt64.toNat_and,Bzd,show(18446744073709551616-x.toNat) %18446744073709551616=2^(t+1)*s+2^t by omega,Cdr (n:=64) (by show _≤18446744073709551616;omega) ht _ hx,UInt64.toNat_ofNat',Nat.mod_eq_of_lt]
  exact Nat.lt_of_le_of_lt hle (by decide)
 have hb:=Bxf ⟨t,ht⟩
 rw[Fx,if_neg (by rw[Bej];simpa using hne),hl]
 refine Eq.trans (congrArg (fun o=>Option.bind o fun c=>some (Ae c:Int)) hb) ?_
 rw[Aa,Ajb,UInt8.toNat_ofNat',Nat.mod_eq_of_lt (by show t<256;omega)]
theorem Cd8(p:List UInt8)(a m:Nat)(hm:m≤48):Fx (Bfg (Vr p a m))=some ((Gf p a m:Nat):Int):=by
 obtain⟨s,h1,h2⟩:=Bpz p m a
 have hle:=Amf p m a
 have hlt:=Rc p m a
 have h48:2^m≤2^48:=Nat.pow_le_pow_right (by omega) hm
 have hn:(Bfg (Vr p a m)).toNat=18446744073709551615-Ck p a m:=by rw[By8,Aav p a m (by omega)]
 have h3:(281474976710656:Nat)=2^48:=rfl
 refine Ciw _ (Gf p a m) s (by omega) ?_
 rw[hn];omega
def unS(p:List UInt8)(N a:Nat):Int×Int×Int:=
 if Gf p a (min 48 (N-a))<min 48 (N-a)then((Gf p a (min 48 (N-a)):Nat),((a+Gf p a (min 48 (N-a))+1:Nat):Int),0)else
 if Gf p a (min 48 (N-a))=48 then(48,((a+48:Nat):Int),0)else(0,0,24)
theorem Bym{p:List UInt8}{N:Nat}(h:okB p N)(a:Nat)(ha:a<N):Ae9 p (N:Int) (a:Int)=some (unS p N a):=by
 have hN:=h.1
 have e1:Dz (48:Int) (Ak (N:Int) (a:Int))=((min 48 (N-a):Nat):Int):=by rw[Ak9,Bv (by omega) (by omega)];omega
 have hle:=Amf p (min 48 (N-a)) a
 rw[Ae9,Xw,Ajc h,Aa,if_neg (by rw[Ag];simp),if_neg (by rw[Af];simp),if_neg (by rw[Dq];simp;omega),e1,Bcj h a _ (by omega),if_neg (by omega),Aa]
 simp only
 rw[An1,Am8,if_neg (by rw[Ag];simp),Cd8 p a _ (by omega),Aa,Ana,Anq,e1,unS]
 by_cases h1:Gf p a (min 48 (N-a))<min 48 (N-a)
 ·rw[if_pos (by rw[Af];simp;omega),if_pos h1,Aj (a:=(a:Int)) (by omega) (by omega),show Ad (0:Int) 1=1 by decide,Aj (by omega) (by omega)]
  congr 3;omega
 ·rw[if_neg (by rw[Af];simp;omega),if_neg h1,Anx,Anz]
  by_cases h2:Gf p a (min 48 (N-a))=48
  ·rw[if_pos (by rw[Al,h2];rfl),if_pos h2,h2,Aj (a:=(a:Int)) (by omega) (by omega),Aj (by omega) (by omega)]
   congr 3;omega
  ·rw[if_neg (by rw[Al];simp;omega),if_neg h2];rfl
theorem Bju(p:List UInt8):∀(m a:Nat),Gf p a m<m→Kg p (a+Gf p a m)≠1
 |0,_,h=>by simp[Gf]at h
 |m+1,a,h=>by
  by_cases hb:Kg p a=1
  ·rw[Gf,if_pos hb]at h⊢
   have:=Bju p m (a+1) (by omega)
   rwa [show a+(1+Gf p (a+1) m)=a+1+Gf p (a+1) m by omega]
  ·rw[Gf,if_neg hb];exact hb
theorem Bk0(p:List UInt8):∀(m a k:Nat),k<Gf p a m→Kg p (a+k)=1
 |0,a,k,h=>by simp[Gf]at h
 |m+1,a,k,h=>by
  by_cases hb:Kg p a=1
  ·rw[Gf,if_pos hb]at h
   cases k with
   |zero=>exact hb
   |succ k=>
    have:=Bk0 p m (a+1) k (by omega)
    rwa [show a+(k+1)=a+1+k by omega]
  ·rw[Gf,if_neg hb]at h;omega
def unR(p:List UInt8)(N a:Nat):Int×Int:=if(unS p N a).2.2=0 then((unS p N a).1,(unS p N a).2.1)else(-1,0)
theorem Bgr{p:List UInt8}{N:Nat}(h:okB p N)(a:Nat)(ha:a<N):∀(j k q:Nat),k+j=Gf p a (min 48 (N-a))→j<q→Ks (a:Int) p (N:Int) q (k:Int)=some (unR p N a)
 |0,k,q+1,hk,_=>by
  obtain⟨hN,hl,hz⟩:=h
  have hle:=Amf p (min 48 (N-a)) a
  have hk':k=Gf p a (min 48 (N-a)):=by omega
  have e1:Ad (a:Int) (k:Int)=((a+k:Nat):Int):=by rw[Aj (by omega) (by omega)];omega
  have hend:Wx (a:Int) (k:Int) p (N:Int)=some (unR p N a):=by
   rw[Wx,Aig,e1]
   by_cases h48:k=48
   ·have hu:unS p N a=(48,((a+48:Nat):Int),0):=by rw[unS,←hk',if_neg (by omega),if_pos h48]
    rw[if_pos (by rw[Al,h48];rfl),unR,hu,h48];rfl
   ·rw[if_neg (by rw[Al];simp;omega)]
    by_cases hN2:N≤a+k
    ·have hu:unS p N a=(0,0,24):=by rw[unS,←hk',if_neg (by omega),if_neg h48]
     rw[if_pos (by rw[Dq];simp;omega),unR,hu];rfl
    ·have hu:unS p N a=(((k:Nat):Int),((a+k+1:Nat):Int),0):=by rw[unS,←hk',if_pos (by omega)]
     rw[if_neg (by rw[Dq];simp;omega),unR,hu,Aj (by omega) (by omega)];rfl
  rw[Ks,Xl,e1]
  by_cases hc:a+k<N∧k<48
  ·have hb:=Xy p (a+k)
   have hs:=Bju p (min 48 (N-a)) a (by omega)
   rw[←hk']at hs
   rw[if_pos (by simp[Af];omega),Bbb p _ (a+k) (by omega) (by omega),Aa,if_neg (by rw[Al];simp;omega),hend]
  ·rw[if_neg (by simp[Af];omega),hend]
 |j+1,k,q+1,hk,hq=>by
  obtain⟨hN,hl,hz⟩:=h
  have hle:=Amf p (min 48 (N-a)) a
  have hb:=Bk0 p (min 48 (N-a)) a k (by omega)
  have e1:Ad (a:Int) (k:Int)=((a+k:Nat):Int):=by rw[Aj (by omega) (by omega)];omega
  rw[Ks,Xl,e1,if_pos (by simp[Af];omega),Bbb p _ (a+k) (by omega) (by omega),Aa,hb,if_pos (by decide),Aj (by omega) (by omega)]
  exact Bgr ⟨hN,hl,hz⟩ a ha j (k+1) q (by omega) (by omega)
theorem Cbe{p:List UInt8}{N:Nat}(h:okB p N)(a:Nat)(ha:a<N):Aph p (N:Int) (a:Int)=some (unR p N a):=by
 have hle:=Amf p (min 48 (N-a)) a
 have:=Bgr h a ha (Gf p a (min 48 (N-a))) 0 FUEL (by omega) (by have:=Ao;omega)
 exact this
end Go.Pl
set_option linter.unusedVariables false
set_option linter.unusedSimpArgs false
namespace Go.Pl
open Go Go.Lv
theorem Cbx{p:List UInt8}{N a:Nat}(h:Gf p a (min 48 (N-a))<min 48 (N-a)):unS p N a=(((Gf p a (min 48 (N-a)):Nat):Int),((a+Gf p a (min 48 (N-a))+1:Nat):Int),0):=by rw[unS,if_pos h]
theorem Bzp{p:List UInt8}{N a:Nat}(h:¬Gf p a (min 48 (N-a))<min 48 (N-a))(h2:Gf p a (min 48 (N-a))=48):unS p N a=(48,((a+48:Nat):Int),0):=by rw[unS,if_neg h,if_pos h2]
theorem Byc{p:List UInt8}{N a:Nat}(h:¬Gf p a (min 48 (N-a))<min 48 (N-a))(h2:¬Gf p a (min 48 (N-a))=48):unS p N a=(0,0,24):=by rw[unS,if_neg h,if_neg h2]
theorem Bxt{p:List UInt8}{N:Nat}(h:okB p N)(a:Nat)(ha:N≤a):Ae9 p (N:Int) (a:Int)=some (0,0,24):=by
 rw[Ae9,Xw,Ajc h,Aa,if_neg (by rw[Ag];simp),if_neg (by rw[Af];simp),if_pos (by rw[Dq];simp;omega)]
def rcS(p:List UInt8)(N a k:Nat):UInt32×Int×Int:=
 if N≤a then(0,0,24)else
 if Gf p a (min 48 (N-a))<min 48 (N-a)then
  (if N<a+Gf p a (min 48 (N-a))+1+k then(0,0,24)else(UInt32.ofNat (Gf p a (min 48 (N-a))*2^k+Ck p (a+Gf p a (min 48 (N-a))+1) k),((a+Gf p a (min 48 (N-a))+1+k:Nat):Int),0))
 else if Gf p a (min 48 (N-a))=48 then
  (if N<a+48+32 then(0,0,24)else if Ck p (a+48) 32/2^k<48 then(0,0,12)else(UInt32.ofNat (Ck p (a+48) 32),((a+48+32:Nat):Int),0))
 else(0,0,24)
theorem Bar{p:List UInt8}{a n:Nat}(h:n≤32):(Ae (Vr p a n):UInt32)=UInt32.ofNat (Ck p a n):=by
 have e:(Ae (Vr p a n):UInt32)=UInt32.ofNat (Vr p a n).toNat:=by simp only[Ae,Ik,Em]
 rw[e,Aav p a n (by omega)]
theorem Ap6{n:Nat}(h:n<4294967296):(UInt32.ofNat n).toNat=n:=by rw[UInt32.toNat_ofNat'];exact Nat.mod_eq_of_lt h
theorem Bqb(p:List UInt8)(a:Nat){n:Nat}(h:n≤32):Ck p a n<4294967296:=by
 have h1:=Rc p n a
 have h2:2^n≤2^32:=Nat.pow_le_pow_right (by omega) h
 omega
theorem Cf7{q v k:Nat}(hq:q<48)(hv:v<2^k)(hk:k≤24):gor (Dn (Ae (q:Int):UInt32) k) (UInt32.ofNat v)=UInt32.ofNat (q*2^k+v):=by
 have hp:2^k≤2^24:=Nat.pow_le_pow_right (by omega) hk
 have h1:q*2^k≤47*2^24:=Nat.mul_le_mul (by omega) hp
 rw[Cd0];apply UInt32.toNat_inj.1
 rw[UInt32.toNat_or,Bfv,Bku,Ap6 (by omega),Ap6 (n:=v) (by omega),Nat.mod_eq_of_lt (by omega),Nat.mul_comm q,←Nat.two_pow_add_eq_or_of_lt hv,Ap6 (by rw[Nat.mul_comm];omega)]
theorem Cdm{p:List UInt8}{N:Nat}(h:okB p N)(a k:Nat)(hk:k≤24):Awh p (N:Int) (a:Int) (k:Int)=some (rcS p N a k):=by
 have hN:=h.1
 rw[Awh,Ap8,Ajc h,Aa,if_neg (by rw[Ag];simp),if_neg (by simp[Af,Am];omega)]
 by_cases ha:N≤a
 ·rw[Bxt h a ha,Aa,rcS,if_pos ha];rfl
 have hle:=Amf p (min 48 (N-a)) a
 rw[Bym h a (by omega),Aa]
 by_cases h1:Gf p a (min 48 (N-a))<min 48 (N-a)
 ·have hS:rcS p N a k=if N<a+Gf p a (min 48 (N-a))+1+k then(0,0,24)else(UInt32.ofNat (Gf p a (min 48 (N-a))*2^k+Ck p (a+Gf p a (min 48 (N-a))+1) k),((a+Gf p a (min 48 (N-a))+1+k:Nat):Int),0):=by rw[rcS,if_neg ha,if_pos h1]
  rw[Cbx h1,hS]
  generalize Gf p a (min 48 (N-a))=q at*
  simp only
  rw[if_neg (by rw[Ag];simp),if_neg (by rw[Al];simp;omega),Ai7,Aqt,Bcj h _ k (by omega),Aa]
  by_cases h2:N<a+q+1+k
  ·rw[if_pos h2,if_pos h2];rfl
  ·rw[if_neg h2,if_neg h2]
   simp only
   have z:(GI.toZ (k:Int)).toNat=k:=rfl
   rw[if_neg (by rw[Ag];simp),if_pos (by rw[Af];simp;omega),Db (by rw[Dq];simp),Aa,z,Bar (by omega),Cf7 (by omega) (Rc _ _ _) hk,Aj (by omega) (by omega)];rfl
 ·by_cases h2:Gf p a (min 48 (N-a))=48
  ·have hS:rcS p N a k=if N<a+48+32 then(0,0,24)else if Ck p (a+48) 32/2^k<48 then(0,0,12)else(UInt32.ofNat (Ck p (a+48) 32),((a+48+32:Nat):Int),0):=by rw[rcS,if_neg ha,if_neg h1,if_pos h2]
   have hg:=Bcj h (a+48) 32 (by omega)
   rw[Bzp h1 h2,hS]
   simp only
   rw[if_neg (by rw[Ag];simp),if_pos (by rw[Al];rfl),Ai7,Aqt]
   refine Eq.trans (congrArg (fun o=>Option.bind o _) hg) ?_
   rw[Aa]
   by_cases h3:N<a+48+32
   ·rw[if_pos h3,if_pos h3];rfl
   ·rw[if_neg h3,if_neg h3]
    simp only
    have z:(GI.toZ (k:Int)).toNat=k:=rfl
    have hv:=Bqb p (a+48) (n:=32) (by omega)
    rw[if_neg (by rw[Ag];simp),if_neg (by rw[Af];simp),Aix,Db (by rw[Dq];simp),Aa,Aa,z,Bar (by omega),Cc3]
    have e:(decide ((48:UInt32).toNat≤(Ce (UInt32.ofNat (Ck p (a+48) 32)) k).toNat))=decide (¬Ck p (a+48) 32/2^k<48):=by
     rw[Aoj,Ap6 hv];simp
    rw[e]
    by_cases h4:Ck p (a+48) 32/2^k<48
    ·rw[if_pos (by simp[h4]),if_pos h4]
    ·rw[if_neg (by simp;omega),if_neg h4,Aj (by omega) (by omega)];rfl
  ·rw[Byc h1 h2,rcS,if_neg ha,if_neg h1,if_neg h2];rfl
theorem Bhu(k:Nat)(hk:k≤63):∀(j i q:Nat),i+j=k→j<q→Iz (k:Int) q (UInt64.ofNat (2^i)) (i:Int)=some (UInt64.ofNat (2^k))
 |0,i,q+1,hi,_=>by
  rw[Iz,Sr,if_neg (by rw[Af];simp;omega),show i=k by omega];rfl
 |j+1,i,q+1,hi,hq=>by
  have e:Bd (UInt64.ofNat (2^i)) (2:UInt64)=UInt64.ofNat (2^(i+1)):=by
   rw[Af9,Nat.pow_succ,UInt64.ofNat_mul];rfl
  rw[Iz,Sr,if_pos (by rw[Af];simp;omega),Aj (by omega) (by omega),e]
  exact Bhu k hk j (i+1) q (by omega) (by omega)
theorem Agm(k:Nat)(hk:k≤63):Fl (k:Int)=some (UInt64.ofNat (2^k)):=
 Bhu k hk k 0 FUEL (by omega) (by have:=Ao;omega)
theorem Al4{k:Nat}(hk:k≤63):(UInt64.ofNat (2^k)).toNat=2^k:=by
 have hp:2^k≤2^63:=Nat.pow_le_pow_right (by omega) hk
 rw[UInt64.toNat_ofNat',Nat.mod_eq_of_lt (by omega)]
theorem Cdu(v:UInt32)(k:Nat)(hk:k≤24):Acd v (k:Int)=some ((min 48 (v.toNat/2^k):Nat):Int):=by
 have hpos:0<2^k:=Nat.pow_pos (by omega)
 have hv:=v.toNat_lt
 rw[Acd,Agm k (by omega),Aa,Db (by rw[Ait];simp only[bne_iff_ne,ne_eq,←UInt64.toNat_inj,Al4 (show k≤63 by omega)];simp),Aa]
 have e:(Cn (Ae v:UInt64) (UInt64.ofNat (2^k))).toNat=v.toNat/2^k:=by
  rw[Azb,UInt64.toNat_div,Ie,Al4 (by omega),UInt64.toNat_ofNat',Nat.mod_eq_of_lt (by omega)]
 have hle:v.toNat/2^k≤v.toNat:=Nat.div_le_self _ _
 have e2:Dz (48:UInt64) (Cn (Ae v:UInt64) (UInt64.ofNat (2^k)))=UInt64.ofNat (min 48 (v.toNat/2^k)):=by
  apply UInt64.toNat_inj.1
  rw[UInt64.toNat_ofNat',Nat.mod_eq_of_lt (by omega)]
  show(if _ then _ else _:UInt64).toNat=_
  rw[show(GI.toZ (Cn (Ae v:UInt64) (UInt64.ofNat (2^k))))=((v.toNat/2^k:Nat):Int) by rw[Ik,e],show GI.toZ (48:UInt64)=48 from rfl]
  split
  ·rw[e];omega
  ·show 48=_;omega
 rw[e2,Bb8 (by rw[UInt64.toNat_ofNat',Nat.mod_eq_of_lt]<;>omega),UInt64.toNat_ofNat',Nat.mod_eq_of_lt (by omega)]
theorem Cam{p:List UInt8}{N:Nat}(h:okB p N)(a k:Nat)(hk:k≤24):Aei p (N:Int) (a:Int) (k:Int)=some (rcS p N a k):=by
 obtain⟨hN,hl,hz⟩:=h
 have h:okB p N:=⟨hN,hl,hz⟩
 rw[Aei,Ail]
 by_cases ha:N≤a
 ·rw[if_pos (by rw[Dq];simp;omega),rcS,if_pos ha]
 have hle:=Amf p (min 48 (N-a)) a
 rw[if_neg (by rw[Dq];simp;omega),Cbe h a (by omega),Aa,unR]
 by_cases h1:Gf p a (min 48 (N-a))<min 48 (N-a)
 ·have hS:rcS p N a k=if N<a+Gf p a (min 48 (N-a))+1+k then(0,0,24)else(UInt32.ofNat (Gf p a (min 48 (N-a))*2^k+Ck p (a+Gf p a (min 48 (N-a))+1) k),((a+Gf p a (min 48 (N-a))+1+k:Nat):Int),0):=by rw[rcS,if_neg ha,if_pos h1]
  rw[Cbx h1,hS]
  generalize Gf p a (min 48 (N-a))=q at*
  rw[if_pos rfl]
  simp only
  rw[if_neg (by rw[Al];simp;omega),Ws,Wu,Bv (by omega) (by omega)]
  by_cases h2:N<a+q+1+k
  ·rw[if_pos (by simp[Af];omega),if_pos h2]
  ·have hp:2^k≤2^24:=Nat.pow_le_pow_right (by omega) hk
   have hm:q*2^k≤47*2^24:=Nat.mul_le_mul (by omega) hp
   have hv:=Rc p k (a+q+1)
   have e:(Ae (Ad (Bd (Ae (q:Int):UInt64) (UInt64.ofNat (2^k))) (Vr p (a+q+1) k)):UInt32)=UInt32.ofNat (q*2^k+Ck p (a+q+1) k):=by
    have e1:Ad (Bd (Ae (q:Int):UInt64) (UInt64.ofNat (2^k))) (Vr p (a+q+1) k)=UInt64.ofNat (q*2^k+Ck p (a+q+1) k):=by
     rw[Ahe,Af9,Aad,Vr,UInt64.ofNat_add,UInt64.ofNat_mul]
    rw[e1]
    have e2:∀x:UInt64,(Ae x:UInt32)=UInt32.ofNat x.toNat:=fun x=>by simp only[Ae,Ik,Em]
    rw[e2,UInt64.toNat_ofNat',Nat.mod_eq_of_lt (by omega)]
   rw[if_neg (by simp[Af];omega),if_neg h2,Ayj p _ _ k (by omega) (by omega),Aa,if_pos (by rw[Af];simp;omega),Agm k (by omega),Aa,e,Aj (by omega) (by omega)];rfl
 ·by_cases h2:Gf p a (min 48 (N-a))=48
  ·have hS:rcS p N a k=if N<a+48+32 then(0,0,24)else if Ck p (a+48) 32/2^k<48 then(0,0,12)else(UInt32.ofNat (Ck p (a+48) 32),((a+48+32:Nat):Int),0):=by rw[rcS,if_neg ha,if_neg h1,if_pos h2]
   rw[Bzp h1 h2,hS,if_pos rfl]
   simp only
   rw[if_pos (by rw[Al];rfl),Ws,Wu,Bv (by omega) (by omega)]
   by_cases h3:N<a+48+32
   ·rw[if_pos (by simp[Af];omega),if_pos h3]
   ·have hg:=Ayj p (N:Int) (a+48) 32 (by omega) (by omega)
    have hv:=Bqb p (a+48) (n:=32) (by omega)
    rw[if_neg (by simp[Af];omega),if_neg h3]
    refine Eq.trans (congrArg (fun o=>Option.bind o _) hg) ?_
    rw[Aa,if_neg (by rw[Af];simp),Bar (by omega),Cdu _ k hk,Aa,Ap6 hv]
    by_cases h4:Ck p (a+48) 32/2^k<48
    ·rw[if_pos (by rw[Af];simp;omega),if_pos h4]
    ·rw[if_neg (by rw[Af];simp;omega),if_neg h4,Aj (by omega) (by omega)];rfl
  ·rw[Byc h1 h2,rcS,if_neg ha,if_neg h1,if_neg h2]
   have e:(if((0:Int),(0:Int),(24:Int)).2.2=0 then(((0:Int),(0:Int),(24:Int)).1,((0:Int),(0:Int),(24:Int)).2.1)else((-1:Int),(0:Int)))=(-1,0):=by decide
   rw[e];rfl
theorem Chp{p:List UInt8}{N a k:Nat}{v:UInt32}{n:Int}(h:rcS p N a k=(v,n,0)):(a:Int)<n∧n≤N:=by
 unfold rcS at h
 split at h
 ·simp at h
 split at h
 ·split at h
  ·simp at h
  ·simp only[Prod.mk.injEq]at h;omega
 ·split at h
  ·split at h
   ·simp at h
   ·split at h
    ·simp at h
    ·simp only[Prod.mk.injEq]at h;omega
  ·simp at h
end Go.Pl
set_option linter.unusedVariables false
set_option linter.unusedSimpArgs false
namespace Go.Pl
open Go Go.Lv
def okD(k l:Nat)(s t:UInt64):Prop:=k≤24∧l≤24∧s.toNat≤68719476735∧t.toNat≤68719476735
theorem Bqo(a b:UInt64)(h:a.toNat≤b.toNat):Dz a b=a:=by
 show(if _ then _ else _)=_
 rw[Ik,Ik,if_neg (by omega)]
theorem Bas(a:UInt64):geq a a=true:=by rw[Bej];simp
theorem Chc{k l:Nat}{s t:UInt64}(h:okD k l s t):Alx (k:Int) (l:Int) s t=some 0:=by
 obtain⟨h1,h2,h3,h4⟩:=h
 have e1:Dz (Awr (k:Int) 0) 24=(k:Int):=by rw[Ak9,Bsw];omega
 have e2:Dz (Awr (l:Int) 0) 24=(l:Int):=by rw[Ak9,Bsw];omega
 have e3:Dz s (68719476735:UInt64)=s:=Bqo _ _ (by simpa using h3)
 have e4:Dz t (68719476735:UInt64)=t:=Bqo _ _ (by simpa using h4)
 have e5:∀a:Int,geq a a=true:=fun a=>by rw[Al];simp
 rw[Alx,Afp,Ans,Afo,An4,Aw6,e1,e2,e3,e4,e5,e5,Bas,Bas];rfl
def Aa0(s n:UInt64):UInt64:=s+n-s/16
def kS(k:Nat)(s:UInt64):Nat:=if 0<k∧s.toNat<2^(k+4)then k-1 else if k<24∧2^(k+5)<s.toNat then k+1 else k
theorem Cfr{k:Nat}(h:k≤24)(s:UInt64):kS k s≤24:=by
 unfold kS
 by_cases h1:0<k∧s.toNat<2^(k+4)
 ·rw[if_pos h1];omega
 ·rw[if_neg h1];split<;>omega
theorem Bul{k:Nat}{s:UInt64}(h:¬(0<k∧s.toNat<2^(k+4))):(if k<24∧2^(k+5)<s.toNat then((k+1:Nat):Int)else(k:Int))=((kS k s:Nat):Int):=by
 rw[kS,if_neg h];split<;>rfl
theorem Bue{s n:UInt64}(h:s.toNat≤68719476735)(hn:n.toNat≤4294967295):(Aa0 s n).toNat≤68719476735:=by
 have h1:=s.toNat_lt
 have e:(s+n).toNat=s.toNat+n.toNat:=by rw[UInt64.toNat_add];omega
 have e2:(s/16).toNat=s.toNat/16:=by rw[UInt64.toNat_div];rfl
 rw[Aa0,UInt64.toNat_sub_of_le _ _ (by rw[UInt64.le_iff_toNat_le,e,e2];omega),e,e2];omega
theorem Bhr(s n:UInt64):Ad s (Ak n (Ce s (GI.toZ (4:UInt64)).toNat))=Aa0 s n:=by
 have e:Ce s (GI.toZ (4:UInt64)).toNat=s/16:=by
  apply UInt64.toNat_inj.1
  rw[Agc,UInt64.toNat_div];rfl
 rw[e,Ahe,Bfd,Aa0,UInt64.sub_eq_add_neg,UInt64.sub_eq_add_neg,UInt64.add_assoc]
theorem Btu(s n:UInt64):Ak (Ad s n) (Cn s (16:UInt64))=Aa0 s n:=by rw[Ahe,Bfd,Azb,Aa0]
theorem Cip{k:Nat}(h:k≤24):(Dn (16:UInt64) k).toNat=2^(k+4):=by
 have hp:2^k≤2^24:=Nat.pow_le_pow_right (by omega) h
 rw[Ao3,Nat.pow_add]
 show 16*2^k %_=2^k*16
 rw[Nat.mod_eq_of_lt (by omega),Nat.mul_comm]
theorem Cgr{k:Nat}(h:k≤24):(Dn (32:UInt64) k).toNat=2^(k+5):=by
 have hp:2^k≤2^24:=Nat.pow_le_pow_right (by omega) h
 rw[Ao3,Nat.pow_add]
 show 32*2^k %_=2^k*32
 rw[Nat.mod_eq_of_lt (by omega),Nat.mul_comm]
theorem Cfn{k:Nat}{s:UInt64}(h:0<k)(h2:s.toNat<2^(k+4)):kS k s=k-1:=by rw[kS,if_pos ⟨h,h2⟩]
theorem Cfo{k:Nat}{s:UInt64}(h:¬(0<k∧s.toNat<2^(k+4)))(h2:k<24)(h3:2^(k+5)<s.toNat):kS k s=k+1:=by rw[kS,if_neg h,if_pos ⟨h2,h3⟩]
theorem Btw{k:Nat}{s:UInt64}(h:¬(0<k∧s.toNat<2^(k+4)))(h2:¬(k<24∧2^(k+5)<s.toNat)):kS k s=k:=by rw[kS,if_neg h,if_neg h2]
theorem Cfj{α:Type}(k:Nat)(hk:k≤24)(s:UInt64)(f:Int→Option α):
  (if(Eb (k:Int) (0:Int))=true then(
   Option.bind (Jm (Ls (k:Int) (0:Int))) fun _=>
   if(Cb s (Dn (16:UInt64) (GI.toZ (k:Int)).toNat))=true then f (Ak (k:Int) (1:Int))
   else(if(Cb (k:Int) (24:Int))=true then(
    Option.bind (Jm (Ls (k:Int) (0:Int))) fun _=>
    if(Eb s (Dn (32:UInt64) (GI.toZ (k:Int)).toNat))=true then f (Ad (k:Int) (1:Int))else f (k:Int))
    else f (k:Int)))
  else(if(Cb (k:Int) (24:Int))=true then(
    Option.bind (Jm (Ls (k:Int) (0:Int))) fun _=>
    if(Eb s (Dn (32:UInt64) (GI.toZ (k:Int)).toNat))=true then f (Ad (k:Int) (1:Int))else f (k:Int))
    else f (k:Int)))=f ((kS k s:Nat):Int):=by
 have z:(GI.toZ (k:Int)).toNat=k:=rfl
 rw[z,Db (by rw[Dq];simp)]
 simp only[Aa]
 rw[Bek,Amm,Cip hk,Cgr hk]
 by_cases h0:0<k
 ·rw[if_pos (by rw[Am];simp;omega)]
  by_cases h1:s.toNat<2^(k+4)
  ·rw[if_pos (by simp[h1]),Cfn h0 h1,Bv (by omega) (by omega)];congr 1;omega
  ·rw[if_neg (by simp;omega)]
   by_cases h2:k<24
   ·rw[if_pos (by rw[Af];simp;omega)]
    by_cases h3:2^(k+5)<s.toNat
    ·rw[if_pos (by simp[h3]),Cfo (fun h=>h1 h.2) h2 h3,Aj (by omega) (by omega)];rfl
    ·rw[if_neg (by simp;omega),Btw (fun h=>h1 h.2) (fun h=>h3 h.2)]
   ·rw[if_neg (by rw[Af];simp;omega),Btw (fun h=>h1 h.2) (fun h=>h2 h.1)]
 ·rw[if_neg (by rw[Am];simp;omega)]
  by_cases h2:k<24
  ·rw[if_pos (by rw[Af];simp;omega)]
   by_cases h3:2^(k+5)<s.toNat
   ·rw[if_pos (by simp[h3]),Cfo (fun h=>h0 h.1) h2 h3,Aj (by omega) (by omega)];rfl
   ·rw[if_neg (by simp;omega),Btw (fun h=>h0 h.1) (fun h=>h3 h.2)]
  ·rw[if_neg (by rw[Af];simp;omega),Btw (fun h=>h0 h.1) (fun h=>h2 h.1)]
theorem Bvk(k:Nat)(hk:k≤24)(s n:UInt64):Tl (k:Int) s n=some (((kS k (Aa0 s n):Nat):Int),Aa0 s n):=by
 have g1:Ad (k:Int) 4=((k+4:Nat):Int):=by rw[Aj (by omega) (by omega)];omega
 have g2:Ad (k:Int) 5=((k+5:Nat):Int):=by rw[Aj (by omega) (by omega)];omega
 have hp:Vf (k:Int) s n=some (if k<24∧2^(k+5)<(Aa0 s n).toNat then((k+1:Nat):Int)else(k:Int),Aa0 s n):=by
  rw[Vf,Agv,g2,Agm _ (by omega),Aa,Btu,Amm,Al4 (by omega)]
  by_cases h2:k<24
  ·rw[if_pos (by rw[Af];simp;omega)]
   by_cases h3:2^(k+5)<(Aa0 s n).toNat
   ·rw[if_pos (by simp[h3]),if_pos ⟨h2,h3⟩,Aj (by omega) (by omega)];rfl
   ·rw[if_neg (by simp;omega),if_neg (fun h=>h3 h.2)]
  ·rw[if_neg (by rw[Af];simp;omega),if_neg (fun h=>h2 h.1)]
 rw[Tl,Ag6,g1,Agm _ (by omega),Aa,Btu,Bek,Al4 (by omega),hp]
 by_cases h0:0<k
 ·rw[if_pos (by rw[Am];simp;omega)]
  by_cases h1:(Aa0 s n).toNat<2^(k+4)
  ·rw[if_pos (by simp[h1]),Cfn h0 h1,Bv (by omega) (by omega)];congr 2;omega
  ·rw[if_neg (by simp;omega),Bul (fun h=>h1 h.2)]
 ·rw[if_neg (by rw[Am];simp;omega),Bul (fun h=>h0 h.1)]
def n64(v:UInt32):UInt64:=UInt64.ofNat v.toNat
theorem Ca8(v:UInt32):(n64 v).toNat≤4294967295:=by have:=v.toNat_lt;rw[n64,UInt64.toNat_ofNat',Nat.mod_eq_of_lt (by omega)];omega
def Bcz(k:Nat)(v:UInt32):UInt32:=UInt32.ofNat (v.toNat-2^k)
def lK(l:Nat)(t:UInt64)(k:Nat)(v:UInt32):Nat:=if v.toNat<2^k then l else kS l (Aa0 t (n64 (Bcz k v)))
def lT(t:UInt64)(k:Nat)(v:UInt32):UInt64:=if v.toNat<2^k then t else Aa0 t (n64 (Bcz k v))
theorem Cai{k l:Nat}{s t:UInt64}(h:okD k l s t)(v:UInt32):okD (kS k (Aa0 s (n64 v))) (lK l t k v) (Aa0 s (n64 v)) (lT t k v):=by
 obtain⟨h1,h2,h3,h4⟩:=h
 refine⟨Cfr h1 _,?_,Bue h3 (Ca8 v),?_⟩
 ·unfold lK;split; · exact h2
  exact Cfr h2 _
 ·unfold lT;split; · exact h4
  exact Bue h4 (Ca8 _)
theorem Cf3(k l:Nat)(s t:UInt64)(hk:k≤24)(v:UInt32):Aen (k:Int) (l:Int) s t v=some (decide (v.toNat<2^k)):=by
 have:=v.toNat_lt
 rw[Aen,Agm k (by omega),Aa,Bek,Al4 (by omega),Ie,UInt64.toNat_ofNat',Nat.mod_eq_of_lt (by omega)]
theorem left_eq(k l:Nat)(s t:UInt64)(hk:k≤24)(v:UInt32)(h:¬v.toNat<2^k):Abu (k:Int) (l:Int) s t v=some (Bcz k v):=by
 have:=v.toNat_lt
 have e2:∀x:UInt64,(Ae x:UInt32)=UInt32.ofNat x.toNat:=fun x=>by simp only[Ae,Ik,Em]
 have e3:(UInt64.ofNat v.toNat).toNat=v.toNat:=by rw[UInt64.toNat_ofNat',Nat.mod_eq_of_lt (by omega)]
 rw[Abu,Agm k (by omega),Aa,e2,Bfd,Ie,UInt64.toNat_sub_of_le _ _ (by rw[UInt64.le_iff_toNat_le,Al4 (by omega),e3];omega),Al4 (by omega),e3,Bcz]
theorem Bw8{k l:Nat}{s t:UInt64}(h:okD k l s t)(v:UInt32):Xe (k:Int) (l:Int) s t v=some (((kS k (Aa0 s (n64 v)):Nat):Int),((lK l t k v:Nat):Int),Aa0 s (n64 v),lT t k v):=by
 obtain⟨h1,h2,h3,h4⟩:=h
 have hp:∀(r1:Int) (r2:UInt64),Qm v (k:Int) (l:Int) s t r1 r2=some (((kS k (Aa0 s (n64 v)):Nat):Int),r1,Aa0 s (n64 v),r2):=by
  intro r1 r2
  rw[Qm,Abq,Ie,Bvk k h1,Aa];rfl
 rw[Xe,Ab6,Cf3 k l s t h1,Aa]
 by_cases hv:v.toNat<2^k
 ·rw[if_neg (by simp[hv]),hp,lK,if_pos hv,lT,if_pos hv]
 ·rw[if_pos (by simp;omega),left_eq k l s t h1 v hv,Aa,Ie,Bvk l h2,Aa]
  simp only
  rw[hp,lK,if_neg hv,lT,if_neg hv];rfl
theorem Byr(k l:Nat)(s t:UInt64)(hk:k≤24)(v:UInt32):Afc (k:Int) (l:Int) s t v=some (if v.toNat<2^k then(0,v)else(1,Bcz k v)):=by
 have hp:2^k≤2^24:=Nat.pow_le_pow_right (by omega) hk
 have hpos:0<2^k:=Nat.pow_pos (by omega)
 have hl:=v.toNat_lt
 have z:(GI.toZ (k:Int)).toNat=k:=rfl
 have e1:geq (Ce v k) (0:UInt32)=decide (v.toNat<2^k):=by
  rw[Blr,Bool.eq_iff_iff]
  simp only[beq_iff_eq,←UInt32.toNat_inj,Aoj,decide_eq_true_eq]
  show _/_=0↔_
  rw[Nat.div_eq_zero_iff];omega
 have e2:¬v.toNat<2^k→Ak v (Dn (1:UInt32) k)=Bcz k v:=by
  intro h
  have e3:(Dn (1:UInt32) k).toNat=2^k:=by rw[Bfv];show 1*2^k %_=_;rw[Nat.mod_eq_of_lt (by omega),Nat.one_mul]
  apply UInt32.toNat_inj.1
  rw[Bnw,UInt32.toNat_sub_of_le _ _ (by rw[UInt32.le_iff_toNat_le,e3];omega),e3,Bcz,Ap6 (by omega)]
 rw[Afc,Db (by rw[Dq];simp),Aa,Aa,z,e1]
 by_cases h:v.toNat<2^k
 ·rw[if_pos (by simp[h]),if_pos h]
 ·rw[if_neg (by simp;omega),if_neg h,e2 h]
abbrev Rd:=UInt32×Int×Int×Int×UInt64×UInt64×Int
theorem Bh7{k l:Nat}{s t:UInt64}(h:okD k l s t)(v:UInt32)(r:Int):Aiz (k:Int) (l:Int) s t v r=some (v,r,((kS k (Aa0 s (n64 v)):Nat):Int),((lK l t k v:Nat):Int),Aa0 s (n64 v),lT t k v,0):=by
 obtain⟨h1,h2,h3,h4⟩:=h
 have hp:∀(x:Int) (y:UInt64),Abm v r (k:Int) s x y=some (v,r,((kS k (Aa0 s (n64 v)):Nat):Int),x,Aa0 s (n64 v),y,0):=by
  intro x y
  rw[Abm,Apw,Ie,Bhr,Cfj k h1]
  rw[Aqr,Ap3,Ani,Axj,Ie,Bhr];rfl
 rw[Aiz,Apl,Byr k l s t h1,Aa]
 by_cases hv:v.toNat<2^k
 ·rw[if_pos hv]
  simp only
  rw[if_neg (by rw[Al];simp),hp,lK,if_pos hv,lT,if_pos hv]
 ·rw[if_neg hv]
  simp only
  rw[if_pos (by rw[Al];rfl),Ie,Bhr,Cfj l h2 _ (fun x=>Abm v r (k:Int) s x (Aa0 t (UInt64.ofNat (Bcz k v).toNat))),hp,lK,if_neg hv,lT,if_neg hv];rfl
def dgS(p:List UInt8)(N a k l:Nat):UInt32×Int×Int:=
 if N≤a then(0,0,24)else
 if Kg p a=0 then(if N<a+1+k then(0,0,24)else(UInt32.ofNat (Ck p (a+1) k),((a+1+k:Nat):Int),0))else
 if(rcS p N (a+1) l).2.2≠0 then(0,0,(rcS p N (a+1) l).2.2)else
 if 4294967295<(rcS p N (a+1) l).1.toNat+2^k then(0,0,12)else(UInt32.ofNat ((rcS p N (a+1) l).1.toNat+2^k),(rcS p N (a+1) l).2.1,0)
theorem Cgd{p:List UInt8}{N a k l:Nat}(h:(dgS p N a k l).2.2=0):(a:Int)<(dgS p N a k l).2.1∧(dgS p N a k l).2.1≤N:=by
 revert h
 unfold dgS
 split
 ·simp
 split
 ·split
  ·simp
  ·simp only;omega
 ·split
  ·intro h;contradiction
  ·rename_i h1
   split
   ·simp
   ·intro _
    have:=Chp (p:=p) (N:=N) (a:=a+1) (k:=l) (v:=(rcS p N (a+1) l).1) (n:=(rcS p N (a+1) l).2.1) (by
     have e:(rcS p N (a+1) l).2.2=0:=by simpa using h1
     rw[←e])
    simp only;omega
theorem Ce5{p:List UInt8}{N:Nat}(h:okB p N)(a:Nat){k l:Nat}{s t:UInt64}(hd:okD k l s t):Aeo p (N:Int) (a:Int) (k:Int) (l:Int) s t=
  some (if(dgS p N a k l).2.2≠0 then(0,0,0,0,0,0,(dgS p N a k l).2.2)else((dgS p N a k l).1,(dgS p N a k l).2.1,((kS k (Aa0 s (n64 (dgS p N a k l).1)):Nat):Int),((lK l t k (dgS p N a k l).1:Nat):Int),Aa0 s (n64 (dgS p N a k l).1),lT t k (dgS p N a k l).1,0)):=by
 obtain⟨h1,h2,h3,h4⟩:=hd
 have hd:okD k l s t:=⟨h1,h2,h3,h4⟩
 have hN:=h.1
 have hg:=Bcj h a 1 (by omega)
 have hb:=Xy p a
 rw[Aeo,Aqk,Ajc h,Aa,if_neg (by rw[Ag];simp),Chc hd,Aa,if_neg (by rw[Ag];simp),Ard,Aq2]
 refine Eq.trans (congrArg (fun o=>Option.bind o _) hg) ?_
 rw[Aa]
 by_cases ha:N≤a
 ·have hS:dgS p N a k l=(0,0,24):=by rw[dgS,if_pos ha]
  rw[if_pos (by omega),hS];rfl
 rw[if_neg (by omega)]
 simp only
 have e0:geq (Vr p a 1) (0:UInt64)=decide (Kg p a=0):=by
  rw[Bej,Bool.eq_iff_iff]
  simp only[beq_iff_eq,←UInt64.toNat_inj,decide_eq_true_eq,Aav p a 1 (by omega),Bnu];rfl
 have e1:Ad (a:Int) 1=((a+1:Nat):Int):=by rw[Aj (by omega) (by omega)];omega
 rw[if_neg (by rw[Ag];simp),e0,e1]
 by_cases hz:Kg p a=0
 ·rw[if_pos (by simp[hz]),Bcj h (a+1) k (by omega),Aa]
  by_cases h5:N<a+1+k
  ·have hS:dgS p N a k l=(0,0,24):=by rw[dgS,if_neg ha,if_pos hz,if_pos h5]
   rw[if_pos h5,hS];rfl
  ·have hS:dgS p N a k l=(UInt32.ofNat (Ck p (a+1) k),((a+1+k:Nat):Int),0):=by rw[dgS,if_neg ha,if_pos hz,if_neg h5]
   rw[if_neg h5,hS]
   simp only
   rw[if_neg (by rw[Ag];simp),Bh7 hd,Bar (by omega),Aj (by omega) (by omega)];rfl
 ·rw[if_neg (by simp[hz]),Cdm h (a+1) l h2,Aa]
  have hp:2^k≤2^24:=Nat.pow_le_pow_right (by omega) h1
  by_cases h5:(rcS p N (a+1) l).2.2≠0
  ·have hS:dgS p N a k l=(0,0,(rcS p N (a+1) l).2.2):=by rw[dgS,if_neg ha,if_neg hz,if_pos h5]
   rw[hS]
   generalize rcS p N (a+1) l=R at*
   obtain⟨v,n,e⟩:=R
   simp only at*
   rw[if_pos (by rw[Ag];simpa using h5),if_pos h5]
  ·have hv:=(rcS p N (a+1) l).1.toNat_lt
   have z:(GI.toZ (k:Int)).toNat=k:=rfl
   have e3:(Dn (1:UInt32) k).toNat=2^k:=by rw[Bfv];show 1*2^k %_=_;rw[Nat.mod_eq_of_lt (by omega),Nat.one_mul]
   by_cases h6:4294967295<(rcS p N (a+1) l).1.toNat+2^k
   ·have hS:dgS p N a k l=(0,0,12):=by rw[dgS,if_neg ha,if_neg hz,if_neg h5,if_pos h6]
    rw[hS]
    generalize rcS p N (a+1) l=R at*
    obtain⟨v,n,e⟩:=R
    simp only at*
    rw[if_neg (by rw[Ag];simpa using h5),Db (by rw[Dq];simp),Aa,z,if_pos (by rw[Bt7,Bgi,UInt32.toNat_add,e3];simp;omega),if_pos (by decide)]
   ·have hS:dgS p N a k l=(UInt32.ofNat ((rcS p N (a+1) l).1.toNat+2^k),(rcS p N (a+1) l).2.1,0):=by rw[dgS,if_neg ha,if_neg hz,if_neg h5,if_neg h6]
    rw[hS]
    generalize rcS p N (a+1) l=R at*
    obtain⟨v,n,e⟩:=R
    simp only at*
    have e4:Ad v (Dn (1:UInt32) k)=UInt32.ofNat (v.toNat+2^k):=by
     apply UInt32.toNat_inj.1
     rw[Bgi,UInt32.toNat_add,e3,Ap6 (by omega),Nat.mod_eq_of_lt (by omega)]
    rw[if_neg (by rw[Ag];simpa using h5),Db (by rw[Dq];simp),Aa,z,if_neg (by rw[Bt7,Bgi,UInt32.toNat_add,e3];simp;omega),e4,Bh7 hd];rfl
theorem Bzo{p:List UInt8}{N:Nat}(h:okB p N)(a:Nat)(k l:Nat)(s t:UInt64)(h1:k≤24)(h2:l≤24):Aez p (N:Int) (a:Int) (k:Int) (l:Int) s t=some (dgS p N a k l):=by
 have hN:=h.1
 have hl:=h.2.1
 have hb:=Xy p a
 rw[Aez]
 by_cases ha:N≤a
 ·rw[if_pos (by rw[Dq];simp;omega),dgS,if_pos ha]
 rw[if_neg (by rw[Dq];simp;omega),Bbb p _ a (by omega) (by omega),Aa,Bv (a:=(N:Int)) (b:=(a:Int)) (by omega) (by omega),Bv (by omega) (by omega)]
 have e1:Ad (a:Int) 1=((a+1:Nat):Int):=by rw[Aj (by omega) (by omega)];omega
 rw[e1]
 by_cases hz:Kg p a=0
 ·rw[if_pos (by rw[Al];simp[hz])]
  by_cases h5:N<a+1+k
  ·rw[if_pos (by rw[Af];simp;omega),dgS,if_neg ha,if_pos hz,if_pos h5]
  ·rw[if_neg (by rw[Af];simp;omega),Ayj p _ (a+1) k (by omega) (by omega),Aa,dgS,if_neg ha,if_pos hz,if_neg h5,Bar (by omega),Aj (by omega) (by omega)];rfl
 ·rw[if_neg (by rw[Al];simp;omega),Cam h (a+1) l h2,Aa]
  have hp:2^k≤2^24:=Nat.pow_le_pow_right (by omega) h1
  have hv:=(rcS p N (a+1) l).1.toNat_lt
  have e2:∀x:UInt64,(Ae x:UInt32)=UInt32.ofNat x.toNat:=fun x=>by simp only[Ae,Ik,Em]
  by_cases h5:(rcS p N (a+1) l).2.2≠0
  ·have hS:dgS p N a k l=(0,0,(rcS p N (a+1) l).2.2):=by rw[dgS,if_neg ha,if_neg hz,if_pos h5]
   rw[hS]
   generalize rcS p N (a+1) l=R at*
   obtain⟨v,n,e⟩:=R
   simp only at*
   rw[if_pos (by rw[Ag];simpa using h5)]
  ·have hsum:∀v:UInt32,(Ad (Ae v:UInt64) (UInt64.ofNat (2^k))).toNat=v.toNat+2^k:=by
    intro v
    have:=v.toNat_lt
    have:=Nat.pow_pos (n:=k) (show 0<2 by omega)
    rw[Ahe,UInt64.toNat_add,Ie,Al4 (by omega),UInt64.toNat_ofNat'];omega
   by_cases h6:4294967295<(rcS p N (a+1) l).1.toNat+2^k
   ·have hS:dgS p N a k l=(0,0,12):=by rw[dgS,if_neg ha,if_neg hz,if_neg h5,if_pos h6]
    rw[hS]
    generalize rcS p N (a+1) l=R at*
    obtain⟨v,n,e⟩:=R
    simp only at*
    rw[if_neg (by rw[Ag];simpa using h5),Agm k (by omega),Aa,if_pos (by rw[Amm,hsum];simpa using h6)]
   ·have hS:dgS p N a k l=(UInt32.ofNat ((rcS p N (a+1) l).1.toNat+2^k),(rcS p N (a+1) l).2.1,0):=by rw[dgS,if_neg ha,if_neg hz,if_neg h5,if_neg h6]
    rw[hS]
    generalize rcS p N (a+1) l=R at*
    obtain⟨v,n,e⟩:=R
    simp only at*
    rw[if_neg (by rw[Ag];simpa using h5),Agm k (by omega),Aa,if_neg (by rw[Amm,hsum];simpa using h6),e2,hsum]
end Go.Pl
set_option linter.unusedVariables false
set_option linter.unusedSimpArgs false
namespace Go.Pl
open Go Go.Lv
abbrev DuN:=Nat×Nat×UInt64×UInt64
def okN(d:DuN):Prop:=okD d.1 d.2.1 d.2.2.1 d.2.2.2
def nxt(d:DuN)(v:UInt32):DuN:=(kS d.1 (Aa0 d.2.2.1 (n64 v)),lK d.2.1 d.2.2.2 d.1 v,Aa0 d.2.2.1 (n64 v),lT d.2.2.2 d.1 v)
def Bmw:DuN:=(10,10,16384,16384)
theorem Bz4:okN Bmw:=⟨by decide,by decide,by decide,by decide⟩
theorem Cgw{d:DuN}(h:okN d)(v:UInt32):okN (nxt d v):=Cai h v
abbrev DuL:=Int×Int×UInt64×UInt64×Unit
def toI(d:DuN):DuL:=((d.1:Int),(d.2.1:Int),d.2.2.1,d.2.2.2,())
def chP(ch:Nat)(v:List UInt32)(c:Nat):Nat→DuN
 |0=>Bmw
 |m+1=>if m %ch=c then nxt (chP ch v c m) (v.getD m 0)else chP ch v c m
theorem Bbc(ch:Nat)(v:List UInt32)(c:Nat):∀m,okN (chP ch v c m)
 |0=>Bz4
 |m+1=>by rw[chP];split;exact Cgw (Bbc ch v c m) _;exact Bbc ch v c m
theorem Bvg(ch:Nat)(v w:List UInt32)(c:Nat):∀m,m≤v.length→chP ch (v++w) c m=chP ch v c m
 |0,_=>rfl
 |m+1,h=>by
  have e:(v++w).getD m 0=v.getD m 0:=by simp[List.getD_eq_getElem?_getD,List.getElem?_append_left (show m<v.length by omega)]
  rw[chP,chP,Bvg ch v w c m (by omega),e]
theorem Bmd(ch:Nat)(v:List UInt32)(c:Nat):∀m,m≤c→c<ch→chP ch v c m=Bmw
 |0,_,_=>rfl
 |m+1,h,h2=>by rw[chP,if_neg (by rw[Nat.mod_eq_of_lt (by omega)];omega),Bmd ch v c m (by omega) h2]
theorem Bqn(ch:Nat)(v:List UInt32)(c i:Nat)(hi:i %ch=c)(hc:c<ch):∀j,j<ch→chP ch v c (i+1+j)=chP ch v c (i+1)
 |0,_=>rfl
 |j+1,h=>by
  have hne:(i+1+j) %ch≠c:=by
   intro e
   have h1:(i+(1+j)) %ch=i %ch:=by rw[hi,←e];congr 1;omega
   have h2:(1+j) %ch=0:=by
    have h3:=Nat.sub_mod_eq_zero_of_mod_eq h1
    rwa [Nat.add_sub_cancel_left]at h3
   rw[Nat.mod_eq_of_lt (by omega)]at h2;omega
  rw[show i+1+(j+1)=(i+1+j)+1 by omega,chP,if_neg hne,Bqn ch v c i hi hc j (by omega)]
theorem Cbf(ch:Nat)(v:List UInt32)(c i:Nat)(hi:i %ch=c)(hc:c<ch):chP ch v c (i+ch)=nxt (chP ch v c i) (v.getD i 0):=by
 have h:=Bqn ch v c i hi hc (ch-1) (by omega)
 rw[show i+1+(ch-1)=i+ch by omega]at h
 rw[h,chP,if_pos hi]
theorem Biz{l:List UInt32}{k:Nat}(h:k<l.length):getI l (k:Int)=some (l.getD k 0):=by
 rw[By h];simp[List.getD_eq_getElem?_getD,h]
theorem Bfj(a b:Nat):Gs (a:Int) (b:Int)=((a %b:Nat):Int):=by rw[Gs,Int.tmod_eq_emod_of_nonneg (by omega)];omega
theorem Bcy(ch:Nat)(v:List UInt32)(hch:1≤ch)(hch6:ch≤6)(hv:v.length≤4000):∀(j i q:Nat),i %ch=v.length %ch→i≤v.length→v.length-i≤j→j<q→
  Lj (ch:Int) v q (i:Int) ((chP ch v (v.length %ch) i).1:Int) ((chP ch v (v.length %ch) i).2.1:Int) (chP ch v (v.length %ch) i).2.2.1 (chP ch v (v.length %ch) i).2.2.2=
   some (((chP ch v (v.length %ch) v.length).1:Int),((chP ch v (v.length %ch) v.length).2.1:Int),(chP ch v (v.length %ch) v.length).2.2.1,(chP ch v (v.length %ch) v.length).2.2.2)
 |j,i,q+1,hi,hl,hj,hq=>by
  have hc:v.length %ch<ch:=Nat.mod_lt _ (by omega)
  rw[Lj,Ace]
  by_cases h:i<v.length
  ·have h1:=Bw8 (Bbc ch v (v.length %ch) i) (v.getD i 0)
   rw[if_pos (by rw[Af,Ac];simp;omega),Biz h,Aa,h1,Aa]
   have hle:i+ch≤v.length:=by
    have h2:=Nat.div_add_mod i ch
    have h3:=Nat.div_add_mod v.length ch
    rw[hi]at h2
    have h4:ch*(i/ch)<ch*(v.length/ch):=by omega
    have h5:=Nat.lt_of_mul_lt_mul_left h4
    have h6:ch*(i/ch+1)≤ch*(v.length/ch):=Nat.mul_le_mul_left _ h5
    rw[Nat.mul_add]at h6;omega
   have ih:=Bcy ch v hch hch6 hv (j-ch) (i+ch) q (by rw[Nat.add_mod_right];exact hi) hle (by omega) (by omega)
   rw[Cbf ch v _ i hi hc]at ih
   simp only
   rw[Aj (by omega) (by omega)]
   exact ih
  ·rw[if_neg (by rw[Af,Ac];simp;omega),show i=v.length by omega];rfl
theorem Bw6(ch:Nat)(v:List UInt32)(hch:1≤ch)(hch6:ch≤6)(hv:v.length≤4000):Ou (ch:Int) v=some (((chP ch v (v.length %ch) v.length).1:Int),((chP ch v (v.length %ch) v.length).2.1:Int),(chP ch v (v.length %ch) v.length).2.2.1,(chP ch v (v.length %ch) v.length).2.2.2):=by
 have hc:v.length %ch<ch:=Nat.mod_lt _ (by omega)
 have hle:v.length %ch≤v.length:=Nat.mod_le _ _
 have h:=Bcy ch v hch hch6 hv v.length (v.length %ch) FUEL (by rw[Nat.mod_mod]) hle (by omega) (by have:=Ao;omega)
 rw[Bmd ch v _ _ (Nat.le_refl _) hc]at h
 rw[Ou,Acn,Ly,Aa]
 simp only
 rw[Db (by rw[Ag];simp;omega),Aa,Ac,Bfj]
 exact h
def now(ch:Nat)(v:List UInt32):DuN:=chP ch v (v.length %ch) v.length
def win(N a:Nat):Nat:=min 81 (N-a)
def Ld(ch:Nat)(p:List UInt8)(N a:Nat)(out:List UInt32):UInt32×Int×Int:=dgS (Aes p a (win N a)) (win N a) 0 (now ch out).1 (now ch out).2.1
def Vz(ch:Nat)(p:List UInt8)(N:Nat):Nat→Nat→List UInt32→List UInt32×Nat×Int
 |0,a,out=>(out,a,0)
 |j+1,a,out=>if(Ld ch p N a out).2.2≠0 then(out,a,(Ld ch p N a out).2.2)else Vz ch p N j (a+(Ld ch p N a out).2.1.toNat) (out++[(Ld ch p N a out).1])
theorem Awj{ch:Nat}{p:List UInt8}{N a:Nat}{out:List UInt32}(h:(Ld ch p N a out).2.2=0):0<(Ld ch p N a out).2.1∧(Ld ch p N a out).2.1≤win N a:=by
 have:=Cgd h
 exact⟨this.1,this.2⟩
theorem Bla{ch:Nat}{p:List UInt8}{N a:Nat}{out:List UInt32}(h:(Ld ch p N a out).2.2=0):((a:Int)+(Ld ch p N a out).2.1)=((a+(Ld ch p N a out).2.1.toNat:Nat):Int):=by
 have:=Awj h;omega
def sts(ch:Nat)(v:List UInt32):List DuL:=(List.range 6).map fun c=>toI (chP ch v c v.length)
theorem Buc{ch:Nat}{v:List UInt32}{c:Nat}(h:c<6):getI (sts ch v) (c:Int)=some (toI (chP ch v c v.length)):=by
 rw[By (by simp[sts];exact h)];simp[sts]
theorem Ccl{ch:Nat}{v:List UInt32}{c:Nat}(x:UInt32)(h:c<6)(hc:c=v.length %ch):Kw (sts ch v) (c:Int) (toI (nxt (chP ch v c v.length) x))=some (sts ch (v++[x])):=by
 rw[Xd _ (by simp[sts];exact h)]
 congr 1
 apply List.ext_getElem (by simp[sts])
 intro i h1 h2
 rw[List.getElem_set]
 simp only[sts,List.getElem_map,List.getElem_range]
 have e:(v++[x]).getD v.length 0=x:=by simp
 rw[List.length_append,List.length_singleton,chP,e,Bvg ch v [x] i v.length (Nat.le_refl _)]
 by_cases hi:c=i
 ·subst hi;rw[if_pos rfl,if_pos hc.symm]
 ·rw[if_neg hi,if_neg (by omega)]
section
variable {p:List UInt8} {N ch n:Nat}
theorem Bns(hp:okB p N)(h1:1≤ch)(h6:ch≤6)(hn:n*ch≤4000):∀(j a q:Nat) (out:List UInt32),out.length+j=n*ch→j<q→a≤N→
  Me (ch:Int) (n:Int) p (N:Int) q (a:Int) (out.length:Int) (sts ch out) out=
   some (if(Vz ch p N j a out).2.2≠0 then([],0,(Vz ch p N j a out).2.2)else((Vz ch p N j a out).1,((Vz ch p N j a out).2.1:Int),0))
 |j,a,q+1,out,hj,hq,ha=>by
  have hN:=hp.1
  have hnn:n≤n*ch:=Nat.le_mul_of_pos_right n (by omega)
  have em:Bd (n:Int) (ch:Int)=((n*ch:Nat):Int):=by rw[Hl (by rw[←Int.natCast_mul];omega) (by rw[←Int.natCast_mul];omega),Int.natCast_mul]
  rw[Me,Qy,em]
  cases j with
  |zero=>
   rw[if_neg (by rw[Af];simp;omega)];rfl
  |succ j=>
   have hc:out.length %ch<6:=Nat.lt_of_lt_of_le (Nat.mod_lt _ (by omega)) h6
   have ew:Dz (Ad (a:Int) 81) (N:Int)=((a+win N a:Nat):Int):=by rw[Ak9,Aj (by omega) (by omega)];unfold win;omega
   have hw:a+win N a≤N:=by unfold win;omega
   have hw2:win N a≤81:=by unfold win;omega
   have hd:=Ce5 (Bu5 p a (win N a) (by omega)) 0 (Bbc ch out (out.length %ch) out.length)
   have ecode:dgS (Aes p a (win N a)) (win N a) 0 (chP ch out (out.length %ch) out.length).1 (chP ch out (out.length %ch) out.length).2.1=Ld ch p N a out:=rfl
   rw[if_pos (by rw[Af];simp;omega),ew,Cgu hp a _ hw (by omega),Aa]
   simp only
   rw[if_neg (by rw[Ag];simp),Db (by rw[Ag];simp;omega),Aa,Bfj,Buc hc,Aa,Aa]
   refine Eq.trans (congrArg (fun o=>Option.bind o _) hd) ?_
   rw[Aa,ecode,Vz]
   by_cases he:(Ld ch p N a out).2.2≠0
   ·rw[if_pos he,if_pos he]
    simp only
    rw[Qg,Qt,if_pos (by rw[Ag];simpa using he),if_pos he]
   ·have he0:(Ld ch p N a out).2.2=0:=by simpa using he
    have hok:=Awj he0
    have hset:=Ccl (ch:=ch) (v:=out) (Ld ch p N a out).1 hc rfl
    rw[if_neg he,if_neg he]
    simp only
    rw[Qg,Qt,if_neg (by rw[Ag];simp),Db (by rw[Ag];simp;omega),Aa,Bfj,Buc hc,Aa]
    refine Eq.trans (congrArg (fun o=>Option.bind o _) hset) ?_
    rw[Aa,Yz,Ale,Cl (by simp;omega),Aa,Aj (by omega) (by omega),Aj (by omega) (by omega),Bla he0]
    have ih:=Bns hp h1 h6 hn j (a+(Ld ch p N a out).2.1.toNat) q (out++[(Ld ch p N a out).1]) (by simp;omega) (by omega) (by omega)
    rw[List.length_append,List.length_singleton]at ih
    exact ih
theorem Btg{p:List UInt8}(hN:N=8*p.length)(hN2:N≤330000)(h1:1≤ch)(h6:ch≤6)(hn:n*ch≤4000):∀(j a q:Nat) (out:List UInt32),out.length+j=n*ch→j<q→a≤N→
  Er (ch:Int) (n:Int) p q (a:Int) (out.length:Int) out=
   if(Vz ch p N j a out).2.2≠0 then some ((Vz ch p N j a out).1,(Vz ch p N j a out).2.2)else Tf ((Vz ch p N j a out).2.1:Int) p (Vz ch p N j a out).1
 |j,a,q+1,out,hj,hq,ha=>by
  have hnn:n≤n*ch:=Nat.le_mul_of_pos_right n (by omega)
  have em:Bd (n:Int) (ch:Int)=((n*ch:Nat):Int):=by rw[Hl (by rw[←Int.natCast_mul];omega) (by rw[←Int.natCast_mul];omega),Int.natCast_mul]
  have e8:Bd (8:Int) (Ac p)=(N:Int):=by rw[Ac,Hl (by omega) (by omega)];omega
  rw[Er,Ads,em]
  cases j with
  |zero=>
   rw[if_neg (by rw[Af];simp;omega)];rfl
  |succ j=>
   have ew:Dz (Ad (a:Int) 81) (N:Int)=((a+win N a:Nat):Int):=by rw[Ak9,Aj (by omega) (by omega)];unfold win;omega
   have hw:a+win N a≤N:=by unfold win;omega
   have hw2:win N a≤81:=by unfold win;omega
   have hpre:(Option.bind Ly fun(r_4,r_5,r_6,r_7)=>
     if(Ls (out.length:Int) (ch:Int))=true then(
     Option.bind (Ou (ch:Int) out) fun(r_8,r_9,r_10,r_11)=>
     Is (Er (ch:Int) (n:Int) p q) (ch:Int) (n:Int) p (a:Int) (out.length:Int) out r_8 r_9 r_10 r_11)
     else Is (Er (ch:Int) (n:Int) p q) (ch:Int) (n:Int) p (a:Int) (out.length:Int) out r_4 r_5 r_6 r_7)=
     Is (Er (ch:Int) (n:Int) p q) (ch:Int) (n:Int) p (a:Int) (out.length:Int) out ((now ch out).1:Int) ((now ch out).2.1:Int) (now ch out).2.2.1 (now ch out).2.2.2:=by
    rw[Ly,Aa]
    by_cases hc:ch≤out.length
    ·simp only
     rw[if_pos (by rw[Dq];simp;omega),Bw6 ch out h1 h6 (by omega),Aa];rfl
    ·have e:now ch out=Bmw:=by rw[now,Nat.mod_eq_of_lt (by omega),Bmd ch out _ _ (Nat.le_refl _) (by omega)]
     simp only
     rw[if_neg (by rw[Dq];simp;omega),e];rfl
   have hd:=Bzo (Bu5 p a (win N a) (by omega)) 0 (now ch out).1 (now ch out).2.1 (now ch out).2.2.1 (now ch out).2.2.2 (Bbc ch out _ _).1 (Bbc ch out _ _).2.1
   have ecode:dgS (Aes p a (win N a)) (win N a) 0 (now ch out).1 (now ch out).2.1=Ld ch p N a out:=rfl
   rw[if_pos (by rw[Af];simp;omega),hpre,Is,Ad9,e8,ew,Boh p (N:Int) a _ (by omega) (by omega) (by omega),Aa]
   simp only
   refine Eq.trans (congrArg (fun o=>Option.bind o _) hd) ?_
   rw[Aa,ecode,Vz]
   by_cases he:(Ld ch p N a out).2.2≠0
   ·rw[if_pos he,if_pos (by rw[Ag];simpa using he),if_pos he]
   ·have he0:(Ld ch p N a out).2.2=0:=by simpa using he
    have hok:=Awj he0
    have ih:=Btg hN hN2 h1 h6 hn j (a+(Ld ch p N a out).2.1.toNat) q (out++[(Ld ch p N a out).1]) (by simp;omega) (by omega) (by omega)
    have hx:=Bla he0
    rw[List.length_append,List.length_singleton]at ih
    rw[if_neg he]
    generalize Ld ch p N a out=R at*
    obtain⟨v,nx,e⟩:=R
    simp only at*
    rw[if_neg (by rw[Ag];simpa using he),Cl (by simp;omega),Aa,Aj (by omega) (by omega),Aj (by omega) (by omega),hx]
    exact ih
end
theorem Bei{ch:Nat}{p:List UInt8}{N:Nat}:∀(j a:Nat) (out:List UInt32),a≤N→(Vz ch p N j a out).2.1≤N∧(Vz ch p N j a out).1.length≤out.length+j∧((Vz ch p N j a out).2.2=0→(Vz ch p N j a out).1.length=out.length+j)
 |0,a,out,h=>⟨h,Nat.le_refl _,fun _=>rfl⟩
 |j+1,a,out,h=>by
  rw[Vz]
  split
  ·rename_i he
   exact⟨h,by simp,fun e=>absurd e he⟩
  ·rename_i he
   have hok:=Awj (ch:=ch) (p:=p) (N:=N) (a:=a) (out:=out) (by simpa using he)
   have hw:a+win N a≤N:=by unfold win;omega
   have ih:=Bei (ch:=ch) (p:=p) (N:=N) j (a+(Ld ch p N a out).2.1.toNat) (out++[(Ld ch p N a out).1]) (by omega)
   rw[List.length_append,List.length_singleton]at ih
   exact⟨ih.1,by omega,fun e=>by have:=ih.2.2 e;omega⟩
theorem Boo(ch n:Int)(b:List UInt8)(N:Int):Qk ch n b N 0 (List.replicate 6 ((0:Int),(0:Int),(0:UInt64),(0:UInt64),()))=Zb ch n b N (List.replicate 6 ((10:Int),(10:Int),(16384:UInt64),(16384:UInt64),())):=by
 have e:FUEL=(FUEL-7)+1+1+1+1+1+1+1:=by have:=Ao;omega
 rw[Qk,e]
 rfl
theorem values_eq{p:List UInt8}{N ch n:Nat}(hp:okB p N)(h1:1≤ch)(h6:ch≤6)(hn:n*ch≤4000):Ab3 (ch:Int) (n:Int) p (N:Int)=
  some (if(Vz ch p N (n*ch) 0 []).2.2≠0 then([],0,(Vz ch p N (n*ch) 0 []).2.2)else((Vz ch p N (n*ch) 0 []).1,((Vz ch p N (n*ch) 0 []).2.1:Int),0)):=by
 have h:=Bns hp h1 h6 hn (n*ch) 0 FUEL [] (by simp) (by have:=Ao;omega) (by omega)
 rw[Ab3,Abe,Boo]
 exact h
theorem Bj9(p:List UInt8)(x:List UInt32)(N:Nat)(hN:N=8*p.length)(hN2:N≤330000):∀(j a q:Nat),a+j=N→j<q→Iq p x q (a:Int)=some (x,if Ck p a j=0 then 0 else 12)
 |0,a,q+1,ha,_=>by
  have e8:Bd (8:Int) (Ac p)=(N:Int):=by rw[Ac,Hl (by omega) (by omega)];omega
  rw[Iq,Sy,e8,if_neg (by rw[Af];simp;omega),Ck,if_pos rfl];rfl
 |j+1,a,q+1,ha,hq=>by
  have e8:Bd (8:Int) (Ac p)=(N:Int):=by rw[Ac,Hl (by omega) (by omega)];omega
  have hb:=Xy p a
  rw[Iq,Sy,e8,if_pos (by rw[Af];simp;omega),Bbb p _ a (by omega) (by omega),Aa,Ck]
  by_cases h:Kg p a=0
  ·rw[if_neg (by rw[Ag];simp[h]),Aj (by omega) (by omega),h]
   have ih:=Bj9 p x N hN hN2 j (a+1) q (by omega) (by omega)
   rw[show((a:Int)+1)=((a+1:Nat):Int) by omega,ih]
   congr 2
   by_cases hv:Ck p (a+1) j=0
   ·rw[if_pos hv,if_pos (by omega)]
   ·rw[if_neg hv,if_neg (by omega)]
  ·rw[if_pos (by rw[Ag];simp;omega),if_neg (by omega)]
theorem Bvm{p:List UInt8}{N ch n:Nat}(hN:N=8*p.length)(hN2:N≤330000)(h1:1≤ch)(h6:ch≤6)(hn:n*ch≤4000):Ach (ch:Int) (n:Int) p=
  some (if(Vz ch p N (n*ch) 0 []).2.2≠0 then((Vz ch p N (n*ch) 0 []).1,(Vz ch p N (n*ch) 0 []).2.2)else
   ((Vz ch p N (n*ch) 0 []).1,if 7<N-(Vz ch p N (n*ch) 0 []).2.1∨Ck p (Vz ch p N (n*ch) 0 []).2.1 (N-(Vz ch p N (n*ch) 0 []).2.1)≠0 then 12 else 0)):=by
 have h:=Btg hN hN2 h1 h6 hn (n*ch) 0 FUEL [] (by simp) (by have:=Ao;omega) (by omega)
 have hat:=(Bei (ch:=ch) (p:=p) (N:=N) (n*ch) 0 [] (by omega)).1
 have e8:Bd (8:Int) (Ac p)=(N:Int):=by rw[Ac,Hl (by omega) (by omega)];omega
 rw[Ach,Aga]
 refine Eq.trans h ?_
 generalize Vz ch p N (n*ch) 0 []=V at*
 obtain⟨v,a,e⟩:=V
 simp only at*
 by_cases he:e≠0
 ·rw[if_pos he,if_pos he]
 ·rw[if_neg he,if_neg he,Tf,Adt,e8,Bv (by omega) (by omega)]
  by_cases h7:7<N-a
  ·rw[if_pos (by rw[Am];simp;omega),if_pos (.inl h7)]
  ·rw[if_neg (by rw[Am];simp;omega),Adu,Bj9 p v N hN hN2 (N-a) a FUEL (by omega) (by have:=Ao;omega)]
   by_cases hv:Ck p a (N-a)=0
   ·rw[if_pos hv,if_neg (by omega)]
   ·rw[if_neg hv,if_pos (.inr hv)]
end Go.Pl
set_option linter.unusedVariables false
set_option linter.unusedSimpArgs false
namespace Go.Pl
open Go Go.Lv
theorem Blh(n:Int):(GI.ofZ n:Int32)=Int32.ofInt n:=rfl
theorem Amu(a:Int32):GI.toZ a=a.toInt:=rfl
theorem Aof(a b:Int32):Ad a b=a+b:=by
 rw[Ad,Amu,Amu,Blh,Int32.ofInt_add,Int32.ofInt_toInt,Int32.ofInt_toInt]
theorem Be0(a b:Int32):Ak a b=a-b:=by
 rw[Ak,Amu,Amu,Blh,Int32.ofInt_sub,Int32.ofInt_toInt,Int32.ofInt_toInt]
theorem Bty(a b:Int32):geq a b=(a==b):=by
 rw[geq,Amu,Amu,Bool.eq_iff_iff];simp[Int32.toInt_inj]
def sel(p:Nat→Bool)(a b:List Int32):List Int32:=(List.range a.length).map fun k=>if p k=true then a.getD k 0 else b.getD k 0
section
variable {p q:Nat→Bool} {a b:List Int32}
theorem Aps:(sel p a b).length=a.length:=by simp[sel]
theorem Mp{k:Nat}(h:k<a.length):a.getD k 0=a[k]:=by simp[List.getD_eq_getElem?_getD,h]
theorem Zm{k:Nat}(h:k<(sel p a b).length):(sel p a b)[k]=if p k=true then a.getD k 0 else b.getD k 0:=by simp[sel]
theorem Al5{k:Nat}(h:k<a.length):getI (sel p a b) (k:Int)=some (if p k=true then a.getD k 0 else b.getD k 0):=by
 rw[By (by rw[Aps];exact h),Zm]
theorem Zk(h:∀k,k<a.length→p k=q k):sel p a b=sel q a b:=by
 apply List.map_congr_left
 intro k hk
 rw[h k (List.mem_range.1 hk)]
theorem Azv{k:Nat}(h:k<a.length):Kw (sel p a b) (k:Int) (a.getD k 0)=some (sel (fun j=>p j||decide (j=k)) a b):=by
 rw[Xd _ (by rw[Aps];exact h)]
 congr 1
 apply List.ext_getElem (by simp[Aps])
 intro i h1 h2
 rw[List.getElem_set,Zm,Zm]
 by_cases hi:k=i
 ·subst hi;simp
 ·have:¬i=k:=fun e=>hi e.symm
  simp[hi,this]
theorem Baw(h:∀k,k<a.length→p k=true):sel p a b=a:=by
 apply List.ext_getElem (by simp[Aps])
 intro i h1 h2
 rw[Zm,if_pos (h i h2),Mp h2]
theorem Bac(hl:b.length=a.length)(h:∀k,k<a.length→p k=false):sel p a b=b:=by
 apply List.ext_getElem (by simp[Aps,hl])
 intro i h1 h2
 rw[Zm,h i (by omega)]
 simp[List.getD_eq_getElem?_getD,h2]
end
end Go.Pl
set_option linter.unusedVariables false
set_option linter.unusedSimpArgs false
namespace Go.Pl
open Go Go.Lv
theorem Bhw(a b:Int32):Bd a b=a*b:=by
 rw[Bd,Amu,Amu,Blh,Int32.ofInt_mul,Int32.ofInt_toInt,Int32.ofInt_toInt]
theorem Acm(a:Int32): -2147483648≤a.toInt∧a.toInt<2147483648:=⟨a.le_toInt,a.toInt_lt⟩
theorem Ek(a:Int32):(Ae a:Int)=a.toInt:=by
 have:=Acm a
 show wrap64 a.toInt=_
 rw[Cg]<;>omega
theorem Ajj(n:Int):(Ae n:Int32)=Int32.ofInt n:=rfl
theorem Bxd(x:Int):Int32.ofInt (x %4294967296)=Int32.ofInt x:=by
 apply Int32.toInt_inj.1
 rw[Int32.toInt_ofInt,Int32.toInt_ofInt]
 exact Int.emod_bmod x 4294967296
theorem Beg(x:Int):Cm x=some (Int32.ofInt x):=by
 have e1:(Ae x:UInt64).toNat=(x %18446744073709551616).toNat:=by
  rw[Bo2,UInt64.toNat_ofNat',Nat.mod_eq_of_lt (by omega)]
 have e2:(Ae (Ae x:UInt64):UInt32).toNat=(x %4294967296).toNat:=by
  have e:(Ae (Ae x:UInt64):UInt32)=UInt32.ofNat (Ae x:UInt64).toNat:=by simp only[Ae,Ik,Em]
  rw[e,UInt32.toNat_ofNat',e1]
  show(x %18446744073709551616).toNat %4294967296=_
  omega
 have e3:(Ae (Ae (Ae x:UInt64):UInt32):Int32)=Int32.ofInt ((Ae (Ae x:UInt64):UInt32).toNat:Int):=rfl
 rw[Cm,e3,e2,←Bxd x]
 congr 2;omega
theorem Ba1(a b:Int32):Cm (Ad (Ae a:Int) (Ae b:Int))=some (a+b):=by
 have:=Acm a
 have:=Acm b
 rw[Ek,Ek,Aj (by omega) (by omega),Beg,Int32.ofInt_add,Int32.ofInt_toInt,Int32.ofInt_toInt]
theorem Ca6(a b:Int32):Cm (Bd (Ae a:Int) (Ae b:Int))=some (a*b):=by
 have ha:=Acm a
 have hb:=Acm b
 have h1: -9223372036854775808≤a.toInt*b.toInt∧a.toInt*b.toInt≤9223372036854775807:=by
  have h2:(a.toInt*b.toInt).natAbs≤2147483648*2147483648:=by
   rw[Int.natAbs_mul];exact Nat.mul_le_mul (by omega) (by omega)
  omega
 rw[Ek,Ek,Hl h1.1 h1.2,Beg,Int32.ofInt_mul,Int32.ofInt_toInt,Int32.ofInt_toInt]
def OkF(s:Int)(t p:List Int32):Prop:=(s=9∨s=10)∧t.length=16∧p.length=16
theorem Bcd{s:Int}{t p:List Int32}(h:OkF s t p):Ae4 s t p=some 0:=by
 obtain⟨rfl|rfl,_,_⟩:=h<;>rfl
theorem g32{l:List Int32}{k:Nat}(h:k<l.length):getI l (k:Int)=some (l.getD k 0):=by
 rw[By h];simp[List.getD_eq_getElem?_getD,h]
def Aur(t p:List Int32):Nat→Int32
 |0=>0
 |i+1=>Aur t p i+t.getD i 0*p.getD i 0
def half(s:Int):Int32:=if s=9 then 256 else 512
def gF(s:Int)(t p:List Int32):Int32:=Int32.ofInt ((half s+Aur t p 16).toInt.fdiv (if s=9 then 512 else 1024))
theorem Bjs{s:Int}{t p:List Int32}(h:OkF s t p):∀(j i q:Nat),i+j=16→j<q→Rs t s p q (half s+Aur t p i) (i:Int)=some (gF s t p,0)
 |0,i,q+1,hi,_=>by
  obtain rfl:i=16:=by omega
  have hs:=h.1
  rw[Rs,Afe,if_neg (by rw[Af];simp),Ant,Awx,Db (by rw[Dq];simp;omega),Aa]
  obtain rfl|rfl:=hs<;>rfl
 |j+1,i,q+1,hi,hq=>by
  obtain⟨hs,ht,hp⟩:=h
  rw[Rs,Afe,if_pos (by rw[Af];simp;omega),g32 (by omega),Aa,g32 (by omega),Aa,Aa,Aj (b:=1) (by omega) (by omega),Aof,Bhw,Int32.add_assoc]
  exact Bjs ⟨hs,ht,hp⟩ j (i+1) q (by omega) (by omega)
theorem Bzq{s:Int}{t p:List Int32}(h:OkF s t p):Aku s t p=some (gF s t p,0):=by
 have hs:=h.1
 have h1:=Bjs h 16 0 FUEL (by omega) (by have:=Ao;omega)
 have e:Dn (1:Int32) (GI.toZ (Ak s (1:Int))).toNat=half s+Aur t p 0:=by
  obtain rfl|rfl:=hs<;>rfl
 rw[Aku,Am9,Bcd h,Aa,if_neg (by rw[Ag];simp),Db (by rw[Dq,Bv (by omega) (by omega)];simp;omega),Aa,Anr,e]
 exact h1
theorem Bfp{s:Int}{t p:List Int32}(ht:t.length=16)(hp:p.length=16){g:Int32}(hg:Aur t p 16=g):∀(j i q:Nat),i+j=16→j<q→Ky s t p q (Aur t p i).toInt (i:Int)=some g
 |0,i,q+1,hi,_=>by
  obtain rfl:i=16:=by omega
  rw[Ky,Xa,if_neg (by rw[Af];simp),Aiq,Aic,Ajj,Int32.ofInt_toInt,hg]
 |j+1,i,q+1,hi,hq=>by
  have ih:=Bfp (s:=s) ht hp hg j (i+1) q (by omega) (by omega)
  rw[Aur]at ih
  rw[Ky,Xa,if_pos (by rw[Af];simp;omega),g32 (by omega),g32 (by omega),Aa,Aa,Aa,Aa,Ca6,Aa,←Ek (Aur t p i),Ba1,Aa,Ek,Aj (by omega) (by omega)]
  exact ih
theorem Cat{s:Int}{t p:List Int32}(h:OkF s t p):Aoo s t p=some (Aur t p 16):=
 Bfp h.2.1 h.2.2 rfl 16 0 FUEL (by omega) (by have:=Ao;omega)
theorem Bxe(x n:Int)(hn:n=512∨n=1024∨n=16∨n=32):(if x.tmod n<0 then x.tdiv n-1 else x.tdiv n)=x.fdiv n:=by
 have hs:n.sign=1:=by obtain rfl|rfl|rfl|rfl:=hn<;>rfl
 rw[Int.tdiv_eq_ediv,Int.tmod_eq_emod,hs,Int.fdiv_eq_ediv_of_nonneg _ (by omega)]
 by_cases h:0≤x∨n∣x
 ·rw[if_pos h,if_pos h]
  obtain rfl|rfl|rfl|rfl:=hn<;>(rw[if_neg (by omega)];omega)
 ·rw[if_neg h,if_neg h]
  obtain rfl|rfl|rfl|rfl:=hn<;>(rw[if_pos (by omega)];omega)
theorem Bgv(x n:Int)(hn:n=512∨n=1024∨n=16∨n=32)(h: -1000000000000≤x)(h':x≤1000000000000): -1000000000000≤x.tdiv n∧x.tdiv n≤1000000000000:=by
 have hs:n.sign=1:=by obtain rfl|rfl|rfl|rfl:=hn<;>rfl
 rw[Int.tdiv_eq_ediv,hs]
 by_cases h:0≤x∨n∣x
 ·rw[if_pos h];obtain rfl|rfl|rfl|rfl:=hn<;>omega
 ·rw[if_neg h];obtain rfl|rfl|rfl|rfl:=hn<;>omega
theorem Cif(x n:Int)(hn:n=512∨n=1024∨n=16∨n=32)(h: -1000000000000≤x)(h':x≤1000000000000):Cn x n=x.tdiv n:=by
 have:=Bgv x n hn h h'
 rw[Ah1,Cg (by omega) (by omega)]
theorem Bn5(x n:Int)(hn:n=512∨n=1024∨n=16∨n=32)(h: -1000000000000≤x)(h':x≤1000000000000):
  (if(Cb (Gs x n) (0:Int))=true then some (Ae (Ak (Cn x n) (1:Int)):Int32)else some (Ae (Cn x n):Int32))=some (Int32.ofInt (x.fdiv n)):=by
 have hb:=Bgv x n hn h h'
 rw[Af,Gs,Cif x n hn h h',Bv (by omega) (by omega),Ajj,Ajj,←Bxe x n hn]
 by_cases hx:x.tmod n<0
 ·rw[if_pos (by simpa using hx),if_pos hx]
 ·rw[if_neg (by simpa using hx),if_neg hx]
theorem Cc4{s:Int}{t p:List Int32}(h:OkF s t p):Abd s t p=some (gF s t p):=by
 obtain⟨hs,ht,hp⟩:=h
 have h:OkF s t p:=⟨hs,ht,hp⟩
 have hx:=Acm (Aur t p 16+half s)
 have key:∀n:Int,(n=512∨n=1024)→(half s).toInt=n/2→gF s t p=Int32.ofInt ((half s+Aur t p 16).toInt.fdiv n)→Uk s t p n=some (gF s t p):=by
  intro n hn hh hg
  have e2:Cn n (2:Int)=(half s).toInt:=by rw[hh];obtain rfl|rfl:=hn<;>rfl
  rw[Uk,Agj,Cat h,Aa,e2,←Ek (half s),Ba1,Aa,Db (by rw[Ag];simp;omega),Aa,Aa,Ek,Bn5 _ n (by omega) (by omega) (by omega),hg,Int32.add_comm]
 rw[Abd,Af0]
 obtain rfl|rfl:=hs
 ·rw[if_pos (by rw[Al];rfl)];exact key 512 (.inl rfl) rfl rfl
 ·rw[if_neg (by rw[Al];decide)];exact key 1024 (.inr rfl) rfl rfl
def stp(i:Nat):Int32:=if i=0 then 4 else if i<4 then 2 else 1
def sg(x:Int32):Int32:=if x.toInt<0 then -1 else if 0<x.toInt then 1 else 0
def lrn(t p:List Int32)(w:Int32):List Int32:=(List.range 16).map fun i=>t.getD i 0+stp i*sg (p.getD i 0)*sg w
theorem Afq(t p:List Int32)(w:Int32):(lrn t p w).length=16:=by simp[lrn]
theorem Blp(t p:List Int32)(w:Int32){i:Nat}(h:i<16):(lrn t p w).getD i 0=t.getD i 0+stp i*sg (p.getD i 0)*sg w:=by
 rw[Mp (by rw[Afq];exact h)];simp[lrn]
theorem step_eq(i:Nat):Aox (i:Int)=some (stp i):=by
 rw[Aox,stp]
 by_cases h:i=0
 ·rw[if_pos (by rw[Al];simp[h]),if_pos h]
 ·rw[if_neg (by rw[Al];simp;omega),if_neg h]
  by_cases h2:i<4
  ·rw[if_pos (by rw[Af];simp;omega),if_pos h2]
  ·rw[if_neg (by rw[Af];simp;omega),if_neg h2]
theorem Bxk(i:Nat):Abc (i:Int)=some (stp i):=by
 rw[Abc,stp]
 by_cases h:i=0
 ·rw[if_pos (by rw[Al];simp[h]),if_pos h]
 ·rw[if_neg (by rw[Al];simp;omega),if_neg h]
  by_cases h2:i<4
  ·rw[if_pos (by rw[Arr];simp;omega),if_pos h2]
  ·rw[if_neg (by rw[Arr];simp;omega),if_neg h2]
theorem Bmk(a b:Int32):Cb a b=decide (a.toInt<b.toInt):=rfl
theorem Bq4(a b:Int32):Eb a b=decide (b.toInt<a.toInt):=rfl
theorem sign_eq(x:Int32):Ts x=some (sg x):=by
 rw[Ts,sg,Bmk,Bq4,show(0:Int32).toInt=0 from rfl]
 by_cases h:x.toInt<0
 ·rw[if_pos (by simpa using h),if_pos h]
 ·rw[if_neg (by simpa using h),if_neg h]
  by_cases h2:0<x.toInt
  ·rw[if_pos (by simpa using h2),if_pos h2]
  ·rw[if_neg (by simpa using h2),if_neg h2]
theorem Bun:sg 0=0:=rfl
theorem toInt_ne{x:Int32}(h:x≠0):x.toInt≠0:=fun e=>h (Int32.toInt_inj.1 (by rw[e];rfl))
theorem Bmv{x:Int32}(h:x.toInt<0):sg x= -1:=by rw[sg,if_pos h]
theorem Bma{x:Int32}(h:x≠0)(h2:¬x.toInt<0):sg x=1:=by
 have:=toInt_ne h
 rw[sg,if_neg h2,if_pos (by omega)]
theorem Av6(i:Nat):stp i=4∨stp i=2∨stp i=1:=by
 unfold stp
 by_cases h:i=0
 ·rw[if_pos h];exact .inl rfl
 ·rw[if_neg h];split;exact .inr (.inl rfl);exact .inr (.inr rfl)
theorem Bwz{x w:Int32}(hx:x≠0)(hw:w≠0)(h:(x.toInt<0)=(w.toInt<0))(i:Nat):stp i*sg x*sg w=stp i:=by
 by_cases h1:x.toInt<0
 ·rw[Bmv h1,Bmv (by rw[←h];exact h1)]
  obtain e|e|e:=Av6 i<;>rw[e]<;>decide
 ·rw[Bma hx h1,Bma hw (by rw[←h];exact h1)]
  obtain e|e|e:=Av6 i<;>rw[e]<;>decide
theorem Bsn{x w:Int32}(hx:x≠0)(hw:w≠0)(h:¬(x.toInt<0)=(w.toInt<0))(i:Nat)(a:Int32):a+stp i*sg x*sg w=a-stp i:=by
 have key:stp i*sg x*sg w=-stp i:=by
  by_cases h1:x.toInt<0
  ·have h2:¬w.toInt<0:=fun h2=>h (propext ⟨fun _=>h2,fun _=>h1⟩)
   rw[Bmv h1,Bma hw h2]
   obtain e|e|e:=Av6 i<;>rw[e]<;>decide
  ·have h2:w.toInt<0:=Decidable.by_contra fun h2=>h (propext ⟨fun h3=>absurd h3 h1,fun h3=>absurd h3 h2⟩)
   rw[Bma hx h1,Bmv h2]
   obtain e|e|e:=Av6 i<;>rw[e]<;>decide
 rw[key,Int32.sub_eq_add_neg]
def Azo(i:Nat):Nat→Bool:=fun j=>decide (j<i)
theorem Bh2{a b:List Int32}{i:Nat}(h:i<a.length):Kw (sel (Azo i) a b) (i:Int) (a.getD i 0)=some (sel (Azo (i+1)) a b):=by
 rw[Azv h]
 congr 1
 apply Zk
 intro k _
 rw[Bool.eq_iff_iff]
 simp only[Azo,Bool.or_eq_true,decide_eq_true_eq];omega
theorem Bvp{a b:List Int32}{i:Nat}(e:a.getD i 0=b.getD i 0):sel (Azo i) a b=sel (Azo (i+1)) a b:=by
 apply List.map_congr_left
 intro k _
 simp only[Azo,decide_eq_true_eq]
 by_cases h1:k<i
 ·rw[if_pos h1,if_pos (by omega)]
 ·by_cases h2:k=i
  ·subst h2;rw[if_neg h1,if_pos (by omega),e]
  ·rw[if_neg h1,if_neg (by omega)]
theorem Bpy{a b:List Int32}{i:Nat}(h:i<a.length):getI (sel (Azo i) a b) (i:Int)=some (b.getD i 0):=by
 rw[Al5 h,if_neg (by simp[Azo])]
theorem Bj1{s:Int}{t p:List Int32}{w:Int32}(hw:w≠0)(ht:t.length=16)(hp:p.length=16):∀(j i q:Nat),i+j=16→j<q→Ry w p s q (i:Int) (sel (Azo i) (lrn t p w) t)=some (s,lrn t p w,p,0)
 |0,i,q+1,hi,_=>by
  obtain rfl:i=16:=by omega
  rw[Ry,Aff,if_neg (by rw[Af];simp),Baw (fun k hk=>by rw[Afq]at hk;simpa [Azo]using hk)];rfl
 |j+1,i,q+1,hi,hq=>by
  have hl:=Afq t p w
  have hg:=Blp t p w (i:=i) (by omega)
  rw[Ry,Aff,if_pos (by rw[Af];simp;omega),g32 (by omega),Aa,Aj (b:=1) (by omega) (by omega),Bpy (by omega),step_eq]
  simp only[Aa]
  rw[Aof,Be0,Bty,Bmk,Bmk,show(0:Int32).toInt=0 from rfl]
  have ih:=Bj1 (s:=s) hw ht hp j (i+1) q (by omega) (by omega)
  by_cases hx:p.getD i 0=0
  ·rw[if_pos (by rw[hx];rfl),Bvp (by rw[hg,hx,Bun,Int32.mul_zero,Int32.zero_mul,Int32.add_zero])]
   exact ih
  ·rw[if_neg (by simpa using hx)]
   by_cases hs:((p.getD i 0).toInt<0)=(w.toInt<0)
   ·rw[if_pos (by rw[beq_iff_eq];simp only[hs]),show t.getD i 0+stp i=(lrn t p w).getD i 0 by rw[hg,Bwz hx hw hs],Bh2 (by omega),Aa]
    exact ih
   ·rw[if_neg (by rw[beq_iff_eq,decide_eq_decide];exact fun h=>hs (propext h)),show t.getD i 0-stp i=(lrn t p w).getD i 0 by rw[hg,Bsn hx hw hs],Bh2 (by omega),Aa]
    exact ih
theorem Cau{t:List Int32}(p:List Int32)(ht:t.length=16):lrn t p 0=t:=by
 apply List.ext_getElem (by rw[Afq,ht])
 intro i h1 h2
 have:=Blp t p 0 (i:=i) (by omega)
 rw[Mp h1,Mp h2]at this
 rw[this,Bun,Int32.mul_zero,Int32.add_zero]
theorem Cbg{s:Int}{t p:List Int32}(h:OkF s t p)(w:Int32):Ap2 s t p w=some (s,lrn t p w,p,0):=by
 rw[Ap2,Anh,Bcd h,Aa,if_neg (by rw[Ag];simp),Bty]
 by_cases hw:w=0
 ·rw[if_pos (by simpa using hw),hw,Cau p h.2.1]
 ·have h1:=Bj1 (s:=s) hw h.2.1 h.2.2 16 0 FUEL (by omega) (by have:=Ao;omega)
  rw[Bac (by rw[Afq,h.2.1]) (fun k _=>by simp[Azo])]at h1
  rw[if_neg (by simpa using hw)]
  exact h1
theorem Azn{s:Int}{t p:List Int32}{w:Int32}(ht:t.length=16)(hp:p.length=16):∀(j i q:Nat),i+j=16→j<q→Gv w s p q (i:Int) (sel (Azo i) (lrn t p w) t)=some (s,lrn t p w,p)
 |0,i,q+1,hi,_=>by
  obtain rfl:i=16:=by omega
  rw[Gv,Pu,if_neg (by rw[Af];simp),Baw (fun k hk=>by rw[Afq]at hk;simpa [Azo]using hk)];rfl
 |j+1,i,q+1,hi,hq=>by
  have hl:=Afq t p w
  have hg:=Blp t p w (i:=i) (by omega)
  rw[Gv,Pu,if_pos (by rw[Af];simp;omega),g32 (l:=p) (by omega),Aj (b:=1) (by omega) (by omega),Bpy (by omega),Bxk,sign_eq w,Aa,Aa,Aa,Aa,Aa,sign_eq,Aa,Aa,Aa,Aof,Bhw,Bhw,←hg,Bh2 (by omega),Aa]
  exact Azn ht hp j (i+1) q (by omega) (by omega)
theorem Br9{s:Int}{t p:List Int32}(h:OkF s t p)(w:Int32):Ag2 s t p w=some (s,lrn t p w,p):=by
 have h1:=Azn (s:=s) (w:=w) h.2.1 h.2.2 16 0 FUEL (by omega) (by have:=Ao;omega)
 rw[Bac (by rw[Afq,h.2.1]) (fun k _=>by simp[Azo])]at h1
 exact h1
theorem Cca{p:List Int32}(h:p.length=16):∃a0 a1 a2 a3 a4 a5 a6 a7 a8 a9 b0 b1 b2 b3 b4 b5,p=[a0,a1,a2,a3,a4,a5,a6,a7,a8,a9,b0,b1,b2,b3,b4,b5]:=by
 match p,h with
 |[a0,a1,a2,a3,a4,a5,a6,a7,a8,a9,b0,b1,b2,b3,b4,b5],_=>exact⟨a0,a1,a2,a3,a4,a5,a6,a7,a8,a9,b0,b1,b2,b3,b4,b5,rfl⟩
theorem Cb9{s:Int}{t p:List Int32}(h:OkF s t p)(x:Int32):Avt s t p x=some (s,t,x::p.take 15,0):=by
 obtain⟨hs,ht,hp⟩:=h
 rw[Avt,Aiu,Bcd ⟨hs,ht,hp⟩,Aa,if_neg (by rw[Ag];simp),show vwI (16:Int) 1 16=some ()from rfl,Aa,show vwI (16:Int) 0 16=some ()from rfl,Aa,Apu,Ba0]
 obtain⟨a0,a1,a2,a3,a4,a5,a6,a7,a8,a9,b0,b1,b2,b3,b4,b5,rfl⟩:=Cca hp
 rfl
def shf(p:List Int32)(i:Nat):List Int32:=(List.range 16).map fun k=>if k≤i then p.getD k 0 else p.getD (k-1) 0
theorem Yc(p:List Int32)(i:Nat):(shf p i).length=16:=by simp[shf]
theorem Ccm(p:List Int32)(i k:Nat)(h:k<16):(shf p i).getD k 0=if k≤i then p.getD k 0 else p.getD (k-1) 0:=by
 rw[Mp (by rw[Yc];exact h)];simp[shf]
theorem Cff(p:List Int32)(i:Nat)(h:i+1<16):Kw (shf p (i+1)) ((i+1:Nat):Int) (p.getD i 0)=some (shf p i):=by
 rw[Xd _ (by rw[Yc];exact h)]
 congr 1
 apply List.ext_getElem (by simp[Yc])
 intro k h1 h2
 rw[Yc]at h2
 rw[List.getElem_set]
 simp only[shf,List.getElem_map,List.getElem_range]
 by_cases hk:i+1=k
 ·subst hk;rw[if_pos rfl,if_neg (by omega)];rfl
 ·rw[if_neg hk]
  by_cases h3:k≤i
  ·rw[if_pos (by omega),if_pos h3]
  ·rw[if_neg (by omega),if_neg h3]
theorem Bc0(s:Int)(t p:List Int32)(x:Int32)(hp:p.length=16):∀(i q:Nat),i<16→i<q→Hi x s t q (i:Int) (shf p i)=some (s,t,x::p.take 15)
 |0,q+1,_,_=>by
  have hg:getI (shf p 0) (0:Int)=some ((shf p 0).getD 0 0):=g32 (l:=shf p 0) (k:=0) (by rw[Yc];omega)
  have hset:Kw (shf p 0) (0:Int) x=some ((shf p 0).set 0 x):=Xd (l:=shf p 0) (n:=0) x (by rw[Yc];omega)
  rw[Hi,Rf,if_neg (by rw[Am];simp),Ac2,Aco,hg,Aa,hset,Aa]
  congr 3
  apply List.ext_getElem (by simp[Yc,hp])
  intro k h1 h2
  rw[List.length_set,Yc]at h1
  rw[List.getElem_set]
  cases k with
  |zero=>rw[if_pos rfl];rfl
  |succ k=>
   rw[if_neg (by omega)]
   simp only[shf,List.getElem_map,List.getElem_range,List.getElem_cons_succ,List.getElem_take]
   rw[if_neg (by omega),Nat.add_sub_cancel,Mp (by omega)]
 |i+1,q+1,hi,hq=>by
  have hg:=g32 (l:=shf p (i+1)) (k:=i) (by rw[Yc];omega)
  rw[Ccm p (i+1) i (by omega),if_pos (by omega)]at hg
  have e1:Ak ((i+1:Nat):Int) (1:Int)=(i:Int):=by rw[Bv (by omega) (by omega)];omega
  have hg2:=g32 (l:=shf p (i+1)) (k:=i+1) (by rw[Yc];omega)
  rw[Hi,Rf,if_pos (by rw[Am];simp),e1,hg,Aa,Aa,hg2,Aa,Cff p i hi,Aa]
  exact Bc0 s t p x hp i q (by omega) (by omega)
theorem Bwp{s:Int}{t p:List Int32}(hp:p.length=16)(x:Int32):Ais s t p x=some (s,t,x::p.take 15):=by
 have h:=Bc0 s t p x hp 15 FUEL (by omega) (by have:=Ao;omega)
 have e:shf p 15=p:=by
  apply List.ext_getElem (by rw[Yc,hp])
  intro k h1 h2
  rw[Yc]at h1
  simp only[shf,List.getElem_map,List.getElem_range]
  rw[if_pos (by omega),Mp h2]
 rw[e]at h
 exact h
theorem Cbj{s:Int}{t p:List Int32}(h:OkF s t p)(w x:Int32):OkF s (lrn t p w) (x::p.take 15):=⟨h.1,Afq _ _ _,by simp[h.2.2]⟩
theorem Cco{s:Int}{t p:List Int32}(h:OkF s t p)(y:Int32):At4 s t p y=some (y+gF s t p,s,lrn t p y,(y+gF s t p)::p.take 15,0):=by
 rw[At4,Bzq h,Aa]
 simp only
 rw[if_neg (by rw[Ag];simp),Aof,Aqy,Cbg h,Aa]
 simp only
 rw[Cb9 (s:=s) (t:=lrn t p y) (p:=p) ⟨h.1,Afq _ _ _,h.2.2⟩,Aa];rfl
theorem Bw4{s:Int}{t p:List Int32}(h:OkF s t p)(y:Int32):Vu s t p y=some (y+gF s t p,s,lrn t p y,(y+gF s t p)::p.take 15):=by
 rw[Vu,Cc4 h,Aa,Ba1,Aa,Br9 h,Aa]
 simp only
 rw[Bwp h.2.2,Aa]
def sB(bits:Int):Int:=if bits=16 then 9 else 10
def shB(bits:Int):Int:=if bits=8 then 4 else 5
def Ci(bits:Int):Prop:=bits=8∨bits=16∨bits=24
def gs(sh:Int)(last:Int32):Int32:=Ae (Bl2 (Ak (Dn (Ae last:Int) sh.toNat) (Ae last)) sh.toNat)
theorem Cix(bits:Int):sB bits=9∨sB bits=10:=by unfold sB;split<;>simp
theorem Ce9(bits:Int):0≤shB bits:=by unfold shB;split<;>omega
theorem Cjq{bits:Int}(h:Ci bits)(t:List Int32):Azc bits t=some (sB bits,t,List.replicate 16 0,0):=by
 obtain rfl|rfl|rfl:=h<;>rfl
theorem Cg3{bits:Int}(h:Ci bits):Aub bits=some (shB bits,0):=by
 obtain rfl|rfl|rfl:=h<;>rfl
theorem Cgg{sh:Int}(h:0≤sh)(last:Int32):Amc sh last=some (gs sh last):=by
 rw[Amc,Db (by rw[Dq];simpa using h),Aa,Aa];rfl
theorem Cgt{bits:Int}(h:Ci bits)(last:Int32):Vg bits last=some (gs (shB bits) last,0):=by
 rw[Vg,Cg3 h,Aa]
 simp only
 rw[if_neg (by rw[Ag];simp),Cgg (Ce9 bits),Aa]
theorem Br7{bits:Int}(h:Ci bits)(last:Int32)(t p:List Int32):Uj bits last (sB bits) t p=some 0:=by
 rw[Uj,Cjq h,Aa]
 simp only
 rw[if_neg (by rw[Ag,Ag];simp)]
theorem Bv4{bits:Int}(h:Ci bits){t p:List Int32}(hF:OkF (sB bits) t p)(last y:Int32):
  Ko bits last (sB bits) t p y=some (y+gF (sB bits) t p+gs (shB bits) last,bits,y+gF (sB bits) t p+gs (shB bits) last,sB bits,lrn t p y,(y+gF (sB bits) t p)::p.take 15,0):=by
 rw[Ko,Br7 h,Aa,if_neg (by rw[Ag];simp),Cgt h,Aa]
 simp only
 rw[Cco hF,Aa]
 simp only
 rw[Aof]
theorem Bbi(sh:Int)(hs:sh=4∨sh=5)(last:Int32):On sh last=some (gs sh last):=by
 have hl:=Acm last
 have key:∀n:Int,n=16∨n=32→gs sh last=Int32.ofInt (((n-1)*last.toInt).fdiv n)→Qs last n=some (gs sh last):=by
  intro n hn hg
  have e:Bd (Ak n (1:Int)) (Ae last:Int)=(n-1)*last.toInt:=by
   obtain rfl|rfl:=hn<;>(rw[Ek,Bv (by omega) (by omega),Hl (by omega) (by omega)])
  rw[Qs,Aau,Db (by rw[Ag];simp;omega),Aa,Aa,e,Bn5 _ n (by omega) (by obtain rfl|rfl:=hn<;>omega) (by obtain rfl|rfl:=hn<;>omega),hg]
 rw[On,Aa5]
 obtain rfl|rfl:=hs
 ·rw[if_neg (by rw[Al];decide)]
  refine key 16 (.inl rfl) ?_
  have e:Dn (Ae last:Int) (4:Int).toNat=last.toInt*16:=by
   rw[Ek];show wrap64 (last.toInt*2^4)=_;rw[Cg]<;>omega
  rw[gs,e,Ek,Bv (by omega) (by omega),Ajj]
  show Int32.ofInt ((last.toInt*16-last.toInt).fdiv 16)=_
  congr 2;omega
 ·rw[if_pos (by rw[Al];rfl)]
  refine key 32 (.inr rfl) ?_
  have e:Dn (Ae last:Int) (5:Int).toNat=last.toInt*32:=by
   rw[Ek];show wrap64 (last.toInt*2^5)=_;rw[Cg]<;>omega
  rw[gs,e,Ek,Bv (by omega) (by omega),Ajj]
  show Int32.ofInt ((last.toInt*32-last.toInt).fdiv 32)=_
  congr 2;omega
theorem Bxz{bits:Int}(h:Ci bits){t p:List Int32}(hF:OkF (sB bits) t p)(last y:Int32):
  Um bits last (sB bits) t p y=some (y+gF (sB bits) t p+gs (shB bits) last,bits,y+gF (sB bits) t p+gs (shB bits) last,sB bits,lrn t p y,(y+gF (sB bits) t p)::p.take 15):=by
 have hb:Xk bits last (sB bits) t p=some (Ae (gs (shB bits) last):Int):=by
  rw[Xk]
  obtain rfl|rfl|rfl:=h
  ·rw[if_pos (by rw[Al];rfl),Bbi 4 (.inl rfl),Aa];rfl
  ·rw[if_neg (by rw[Al];decide),Bbi 5 (.inr rfl),Aa];rfl
  ·rw[if_neg (by rw[Al];decide),Bbi 5 (.inr rfl),Aa];rfl
 rw[Um,Bw4 hF,Aa]
 simp only
 rw[hb,Aa,Ba1,Aa]
theorem Cit{bits:Int}(h:Ci bits)(t:List Int32):Aoa bits t=some (bits,0,sB bits,t,List.replicate 16 0,0):=by
 obtain rfl|rfl|rfl:=h<;>rfl
def Ar9(n:UInt32):Int32:=if n.toNat %2=0 then Int32.ofInt ((n.toNat/2:Nat):Int)else Int32.ofInt (-((n.toNat/2:Nat):Int)-1)
theorem Bpl(a b:Int32):(Wz a b).toBitVec=a.toBitVec^^^b.toBitVec:=by
 show(Int32.ofInt ((BitVec.ofInt 32 a.toBitVec.toInt^^^BitVec.ofInt 32 b.toBitVec.toInt).toNat:Int)).toBitVec=_
 rw[BitVec.ofInt_toInt,BitVec.ofInt_toInt,Int32.toBitVec_ofInt,BitVec.ofInt_natCast,BitVec.ofNat_toNat,BitVec.setWidth_eq]
theorem Cii(m:Nat)(h:m<2147483648):Wz (Int32.ofInt (m:Int)) (Int32.ofInt (-1))=Int32.ofInt (-(m:Int)-1):=by
 apply Int32.toBitVec_inj.1
 have e1:(Int32.ofInt (-1)).toBitVec=BitVec.allOnes 32:=by decide
 rw[Bpl,e1,BitVec.xor_allOnes,Int32.toBitVec_ofInt,Int32.toBitVec_ofInt]
 apply BitVec.eq_of_toNat_eq
 rw[BitVec.toNat_not,BitVec.toNat_ofInt,BitVec.toNat_ofInt]
 omega
theorem Cae(n:UInt32):Vy n=some (Ar9 n):=by
 have hn:=n.toNat_lt
 have e1:(Ae (Ce n (GI.toZ (1:UInt64)).toNat):Int32)=Int32.ofInt ((n.toNat/2:Nat):Int):=by
  show Int32.ofInt ((Ce n 1).toNat:Int)=_
  rw[Aoj]
 have e2:(Ae (Dt n (1:UInt32)):Int32)=Int32.ofInt ((n.toNat %2:Nat):Int):=by
  show Int32.ofInt ((Dt n (1:UInt32)).toNat:Int)=_
  rw[Bqx,UInt32.toNat_and]
  show Int32.ofInt ((n.toNat&&&1:Nat):Int)=_
  rw[Nat.and_one_is_mod]
 rw[Vy,e1,e2,Ar9]
 congr 1
 by_cases h:n.toNat %2=0
 ·have e3:Azu (Int32.ofInt ((n.toNat %2:Nat):Int))=Int32.ofInt 0:=by rw[h];decide
  rw[if_pos h,e3]
  apply Int32.toBitVec_inj.1
  rw[Bpl,show(Int32.ofInt 0).toBitVec=0#32 from rfl,BitVec.xor_zero]
 ·have e3:Azu (Int32.ofInt ((n.toNat %2:Nat):Int))=Int32.ofInt (-1):=by rw[show n.toNat %2=1 by omega];decide
  rw[if_neg h,e3,Cii _ (by omega)]
theorem Cd4(n:UInt32):Aaw n=some (Ar9 n):=by
 have hn:=n.toNat_lt
 have e1:geq (Aao n (2:UInt32)) (0:UInt32)=decide (n.toNat %2=0):=by
  rw[Blr,Bpo,Bool.eq_iff_iff]
  simp only[beq_iff_eq,←UInt32.toNat_inj,UInt32.toNat_mod,decide_eq_true_eq];rfl
 rw[Aaw,e1,Ar9]
 by_cases h:n.toNat %2=0
 ·rw[if_pos (by simpa using h),if_pos h,Bny];rfl
 ·have e2:(Ae n:Int)=(n.toNat:Int):=Bsh n
  rw[if_neg (by simpa using h),if_neg h,e2,Aj (by omega) (by omega),Bmj,Cg (by omega) (by omega),Ah1,Int.tdiv_eq_ediv,Ajj]
  congr 2
  rw[if_pos (.inr (by omega)),Cg (by omega) (by omega)];omega
end Go.Pl
set_option linter.unusedVariables false
set_option linter.unusedSimpArgs false
namespace Go.Pl
open Go Go.Lv
theorem Bp8{c:Prop} [Decidable c](h:c):Jm (decide c)=some ():=by rw[decide_eq_true h];rfl
def unV(f:Nat→Int32)(ch:Nat):Nat→Int32
 |0=>if 1<ch then f (ch-1)+Cn (f (ch-2)) (2:Int32)else f (ch-1)
 |j+1=>unV f ch j-f (ch-2-j)
def unm(ch:Nat)(m:List Int32):List Int32:=(List.range m.length).map fun k=>unV (fun i=>m.getD (k-k %ch+i) 0) ch (ch-1-k %ch)
theorem Awg(ch:Nat)(m:List Int32):(unm ch m).length=m.length:=by simp[unm]
theorem Bex{ch:Nat}{m:List Int32}{a i:Nat}(ha:a %ch=0)(hi:i<ch)(h:a+i<m.length):(unm ch m).getD (a+i) 0=unV (fun i=>m.getD (a+i) 0) ch (ch-1-i):=by
 have hb:(a+i) %ch=i:=by rw[Nat.add_mod,ha,Nat.zero_add,Nat.mod_mod,Nat.mod_eq_of_lt hi]
 rw[Mp (by rw[Awg];exact h)]
 simp only[unm,List.getElem_map,List.getElem_range,hb]
 rw[show a+i-i=a by omega]
section
variable (ch:Nat) (m:List Int32)
theorem Ca2(h1:1≤ch)(h6:ch≤6)(hm:m.length %ch=0)(hl2:m.length≤4000):Ape (ch:Int) m=some 0:=by
 rw[Ape,if_neg (by simp[Af,Am];omega),if_neg (by rw[Am,Ac];simp;omega),Db (by rw[Ag];simp;omega),Aa,if_neg]
 rw[Ag,Gs,Ac,←Int.ofNat_tmod,hm];simp
theorem Bgy(bk:Int→List Int32→Option (List Int32×Int))(at':Nat)(h1:1≤ch)(h6:ch≤6)(hm:at' %ch=0)(hl:at'+ch≤m.length)(hl2:m.length≤4000):∀(i q:Nat),i≤ch-1→i<q→
  Wh bk (ch:Int) (at':Int) q ((i:Int)-1) (sel (fun k=>decide (k<at'∨(at'+i≤k∧k<at'+ch))) (unm ch m) m)=bk ((at'+ch:Nat):Int) (sel (fun k=>decide (k<at'+ch)) (unm ch m) m)
 |0,q+1,hi,_=>by
  have e4:Ad (at':Int) (ch:Int)=((at'+ch:Nat):Int):=by rw[Aj (by omega) (by omega)];omega
  rw[Wh,Aiv,if_neg (by rw[Dq];simp),Ap1,Az1,e4]
  congr 1
  apply Zk
  intro k _
  rw[Bool.eq_iff_iff];simp;omega
 |i+1,q+1,hi,hq=>by
  have hlen:=Awg ch m
  have e2:Ad (at':Int) (ch:Int)-(at':Int)=(ch:Int):=by rw[Aj (by omega) (by omega)];omega
  have e3:Ad (i:Int) 1=((i+1:Nat):Int):=by rw[Aj (by omega) (by omega)];omega
  have hv:((unm ch m).getD (at'+(i+1)) 0-m.getD (at'+i) 0)=(unm ch m).getD (at'+i) 0:=by
   rw[Bex hm (by omega) (by omega),Bex hm (by omega) (by omega),show ch-1-i=(ch-1-(i+1))+1 by omega,unV,show ch-2-(ch-1-(i+1))=i by omega]
  rw[Wh,Aiv,show((i+1:Nat):Int)-1=(i:Int) by omega,if_pos (by rw[Dq];simp),e2,e3,Bp8 (by omega),Aa,Bp8 (by omega),Aa,
   show(at':Int)+((i+1:Nat):Int)=((at'+(i+1):Nat):Int) by omega,show(at':Int)+(i:Int)=((at'+i:Nat):Int) by omega,
   Al5 (by omega),Aa,Al5 (by omega),Aa,Aa,if_pos (by simp;omega),if_neg (by simp;omega),Be0,hv,Azv (by omega),Aa,Bv (by omega) (by omega)]
  have ih:=Bgy bk at' h1 h6 hm hl hl2 i q (by omega) (by omega)
  rw[←ih]
  congr 1
  apply Zk
  intro k _
  rw[Bool.eq_iff_iff];simp;omega
theorem Bn6{at' ch n:Nat}(ha:at' %ch=0)(hm:n %ch=0)(h:at'<n):at'+ch≤n:=by
 have d1:=Nat.div_add_mod at' ch
 have d2:=Nat.div_add_mod n ch
 rw[ha,Nat.add_zero]at d1
 rw[hm,Nat.add_zero]at d2
 have hlt:at'/ch<n/ch:=by
  rcases Nat.lt_or_ge (at'/ch) (n/ch)with h'|h'
  ·exact h'
  ·have:=Nat.mul_le_mul_left ch h';omega
 have:=Nat.mul_le_mul_left ch (show at'/ch+1≤n/ch from hlt)
 rw[Nat.mul_add]at this;omega
theorem Bj3(h1:1≤ch)(h6:ch≤6)(hm:m.length %ch=0)(hl2:m.length≤4000):∀(j at' q:Nat),at' %ch=0→at'≤m.length→m.length-at'≤j→j<q→
  Qz (ch:Int) q (at':Int) (sel (fun k=>decide (k<at')) (unm ch m) m)=some (unm ch m,0)
 |j,at',q+1,ha,hle,hj,hq=>by
  have hlen:=Awg ch m
  have hl:Ac (sel (fun k=>decide (k<at')) (unm ch m) m)=(m.length:Int):=by rw[Ac,Aps,hlen]
  rw[Qz,Ap9,hl]
  by_cases h:at'<m.length
  ·have hb:=Bn6 ha hm h
   obtain⟨j,rfl⟩:∃k,j=k+1:=⟨j-1,by omega⟩
   have e1:Ak (Ad (at':Int) (ch:Int)-(at':Int)) 1=((ch-1:Nat):Int):=by rw[Aj (by omega) (by omega),Bv (by omega) (by omega)];omega
   have e2:Ad (at':Int) (ch:Int)-(at':Int)=(ch:Int):=by rw[Aj (by omega) (by omega)];omega
   have e4:Ad (at':Int) (ch:Int)=((at'+ch:Nat):Int):=by rw[Aj (by omega) (by omega)];omega
   have hi:=Bgy ch m (Qz (ch:Int) q) at' h1 h6 ha hb hl2 (ch-1) FUEL (by omega) (by have:=Ao;omega)
   have hrest:=Bj3 h1 h6 hm hl2 j (at'+ch) q (by rw[Nat.add_mod_right,ha]) hb (by omega) (by omega)
   have hstart:Ai1 (Qz (ch:Int) q) (ch:Int) (at':Int) (sel (fun k=>decide (k<at'∨(at'+(ch-1)≤k∧k<at'+ch))) (unm ch m) m)=some (unm ch m,0):=by
    have e6:Ak ((ch-1:Nat):Int) 1=((ch-1:Nat):Int)-1:=Bv (by omega) (by omega)
    rw[Ai1,Aq7,Aqv,e1,e6]
    exact Eq.trans hi hrest
   rw[if_pos (by rw[Af];simp;omega),show vwI (m.length:Int) (at':Int) (Ad (at':Int) (ch:Int))=some () by rw[e4,vwI,Bp8];omega,Aa,e1,e2]
   have hlast:=Bex (m:=m) ha (show ch-1<ch by omega) (by omega)
   rw[show ch-1-(ch-1)=0 by omega,unV]at hlast
   by_cases hc:1<ch
   ·have e5:Ak ((ch-1:Nat):Int) 1=((ch-2:Nat):Int):=by rw[Bv (by omega) (by omega)];omega
    rw[if_pos hc]at hlast
    rw[if_pos (by rw[Am];simp;omega),Bp8 (by omega),Aa,e5,Bp8 (by omega),Aa,show(at':Int)+((ch-1:Nat):Int)=((at'+(ch-1):Nat):Int) by omega,show(at':Int)+((ch-2:Nat):Int)=((at'+(ch-2):Nat):Int) by omega,
     Al5 (by omega),Aa,Al5 (by omega),Aa,Aa,if_neg (by simp),if_neg (by simp),Aof,←hlast,Azv (by omega),Aa]
    rw[←hstart]
    congr 1
    apply Zk
    intro k _
    rw[Bool.eq_iff_iff];simp;omega
   ·have hc1:ch=1:=by omega
    rw[if_neg (by rw[Am];simp;omega),←hstart]
    congr 1
    rw[if_neg hc]at hlast
    apply List.map_congr_left
    intro k hk
    by_cases hk2:k=at'
    ·subst hk2
     rw[if_neg (by simp),if_pos (by simp;omega)]
     rw[show k+(ch-1)=k by omega]at hlast
     exact hlast.symm
    ·by_cases hk3:k<at'
     ·rw[if_pos (by simp;omega),if_pos (by simp;omega)]
     ·rw[if_neg (by simp;omega),if_neg (by simp;omega)]
  ·rw[if_neg (by rw[Af];simp;omega),Baw (fun k hk=>by simp;omega)]
   rfl
theorem Cd9(h1:1≤ch)(h6:ch≤6)(hm:m.length %ch=0)(hl2:m.length≤4000):Baz (ch:Int) m=some (unm ch m,0):=by
 have hlen:=Awg ch m
 have h:=Bj3 ch m h1 h6 hm hl2 m.length 0 FUEL (by simp) (by omega) (by omega) (by have:=Ao;omega)
 rw[Baz,Aup,Ca2 ch m h1 h6 hm hl2,Aa,if_neg (by rw[Ag];simp),Eh,Cl (by simp;omega),Aa,Aa,List.nil_append,Aqx]
 rw[Bac hlen.symm (fun k _=>by simp)]at h
 exact h
end
def Ba6(f:Nat→Int32)(ch:Nat):List Int32:=(List.range ch).map fun i=>unV f ch (ch-1-i)
theorem Ao1(f:Nat→Int32)(ch:Nat):(Ba6 f ch).length=ch:=by simp[Ba6]
theorem Az8(f:Nat→Int32){ch i:Nat}(h:i<ch):(Ba6 f ch).getD i 0=unV f ch (ch-1-i):=by
 rw[Mp (by rw[Ao1];exact h)];simp[Ba6]
theorem Cba(a b:Int32):Cm (Ak (Ae a:Int) (Ae b:Int))=some (a-b):=by
 have:=Acm a
 have:=Acm b
 rw[Ek,Ek,Bv (by omega) (by omega),Beg,Int32.ofInt_sub,Int32.ofInt_toInt,Int32.ofInt_toInt]
theorem Bvs(a b:Int32):Cm (Ad (Ae a:Int) (Cn (Ae b:Int) (2:Int)))=some (a+Cn b (2:Int32)):=by
 have:=Acm a
 have hb:=Acm b
 have hd: -2147483648≤b.toInt.tdiv 2∧b.toInt.tdiv 2≤2147483648:=by
  rw[Int.tdiv_eq_ediv,show Int.sign 2=1 from rfl]
  by_cases h:0≤b.toInt∨2∣b.toInt
  ·rw[if_pos h];omega
  ·rw[if_neg h];omega
 have e:Cn b (2:Int32)=Int32.ofInt (b.toInt.tdiv 2):=rfl
 rw[Ek,Ek,Ah1,Cg (by omega) (by omega),Aj (by omega) (by omega),Beg,Int32.ofInt_add,Int32.ofInt_toInt,e]
theorem Ba5(seg z:List Int32)(ch:Nat)(h6:ch≤6)(hs:seg.length=ch)(hz:z.length=ch):∀(i q:Nat),i+1≤ch→i<q→
  Gx seg q ((i:Int)-1) (sel (fun k=>decide (i≤k)) (Ba6 (fun i=>seg.getD i 0) ch) z)=some (Ba6 (fun i=>seg.getD i 0) ch)
 |0,q+1,hi,_=>by
  rw[Gx,Pv,if_neg (by rw[Dq];simp),Baw (fun k hk=>by simp)];rfl
 |i+1,q+1,hi,hq=>by
  have hlen:=Ao1 (fun i=>seg.getD i 0) ch
  have e3:Ad (i:Int) 1=((i+1:Nat):Int):=by rw[Aj (by omega) (by omega)];omega
  have hv:(Ba6 (fun i=>seg.getD i 0) ch).getD (i+1) 0-seg.getD i 0=(Ba6 (fun i=>seg.getD i 0) ch).getD i 0:=by
   rw[Az8 _ (by omega),Az8 _ (by omega),show ch-1-i=(ch-1-(i+1))+1 by omega,unV,show ch-2-(ch-1-(i+1))=i by omega]
  rw[Gx,Pv,show((i+1:Nat):Int)-1=(i:Int) by omega,if_pos (by rw[Dq];simp),e3,Al5 (by omega),Aa,g32 (by omega),Aa,Aa,if_pos (by simp),Cba,Aa,Al5 (by omega),Aa,hv,Azv (by omega),Aa,Bv (by omega) (by omega)]
  have ih:=Ba5 seg z ch h6 hs hz i q (by omega) (by omega)
  rw[←ih]
  congr 1
  apply Zk
  intro k _
  rw[Bool.eq_iff_iff];simp;omega
theorem Bqf{l:List Int32}{i:Nat}(v:Int32)(h:i<l.length):(l.set i v).getD i 0=v:=by
 rw[Mp (by rw[List.length_set];exact h)];simp
theorem Bso(seg:List Int32)(ch:Nat)(h1:1≤ch)(h6:ch≤6)(hs:seg.length=ch):Ug seg=some (Ba6 (fun i=>seg.getD i 0) ch):=by
 have hlen:=Ao1 (fun i=>seg.getD i 0) ch
 have hzl:(List.replicate ch (0:Int32)).length=ch:=by simp
 have e1:Ak (Ac seg) 1=((ch-1:Nat):Int):=by rw[Ac,hs,Bv (by omega) (by omega)];omega
 have e2:Ak (Ac seg) 2=((ch-1:Nat):Int)-1:=by rw[Ac,hs,Bv (by omega) (by omega)];omega
 have hlast:=Az8 (fun i=>seg.getD i 0) (show ch-1<ch by omega)
 rw[show ch-1-(ch-1)=0 by omega,unV]at hlast
 have hend:∀z:List Int32,z.length=ch→z.getD (ch-1) 0=(Ba6 (fun i=>seg.getD i 0) ch).getD (ch-1) 0→Qc seg z=some (Ba6 (fun i=>seg.getD i 0) ch):=by
  intro z hz hzl
  have h:=Ba5 seg z ch h6 hs hz (ch-1) FUEL (by omega) (by have:=Ao;omega)
  have e:sel (fun k=>decide (ch-1≤k)) (Ba6 (fun i=>seg.getD i 0) ch) z=z:=by
   apply List.ext_getElem (by rw[Aps,hlen,hz])
   intro k k1 k2
   rw[Zm]
   by_cases hk:ch-1≤k
   ·obtain rfl:k=ch-1:=by omega
    rw[if_pos (by simp),←hzl,Mp k2]
   ·rw[if_neg (by simpa using hk),Mp k2]
  rw[e]at h
  rw[Qc,Aab,e2]
  exact h
 rw[Ug,Aah,Ac,hs,Bi3 (by omega) (by omega),Aa,Db (by rw[Al];simp),Aa]
 rw[Ac,hs]at e1
 rw[Ac,hs]at e2
 have hz1:(List.replicate (Int.toNat (ch:Int)) (0:Int32)).length=ch:=by simp
 have hs1:=g32 (l:=seg) (k:=ch-1) (by omega)
 rw[e1,hs1,Aa,g32 (by omega),Aa,Xd _ (by omega),Aa]
 by_cases hc:1<ch
 ·rw[if_pos hc]at hlast
  have e3:((ch-1:Nat):Int)-1=((ch-2:Nat):Int):=by omega
  have hs2:=g32 (l:=seg) (k:=ch-2) (by omega)
  rw[if_pos (by rw[Am];simp;omega),Aa,e2,e3,hs2,Aa,Bvs,Aa,g32 (by rw[List.length_set];omega),Aa,Xd _ (by rw[List.length_set];omega),Aa]
  refine hend _ (by simp) ?_
  rw[hlast,Bqf _ (by rw[List.length_set];omega)]
 ·rw[if_neg hc]at hlast
  rw[if_neg (by rw[Am];simp;omega)]
  refine hend _ (by simp) ?_
  rw[hlast,Bqf _ (by omega)]
theorem Ccs(ch:Nat)(m:List Int32)(h1:1≤ch)(h6:ch≤6)(hm:m.length %ch=0)(hl2:m.length≤4000):Qj (ch:Int) m=some 0:=by
 rw[Qj,if_neg (by simp[Af,Am];omega),if_neg (by rw[Am,Ac];simp;omega),Db (by rw[Ag];simp;omega),Aa,if_neg]
 rw[Am,Gs,Ac,←Int.ofNat_tmod,hm];simp
theorem Bds(ch:Nat)(m:List Int32)(h1:1≤ch)(h6:ch≤6)(hm:m.length %ch=0)(hl2:m.length≤4000):∀(j at' q:Nat),at' %ch=0→at'≤m.length→m.length-at'≤j→j<q→
  Nr (ch:Int) m q (at':Int) ((unm ch m).take at')=some (unm ch m,0)
 |j,at',q+1,ha,hle,hj,hq=>by
  have hlen:=Awg ch m
  rw[Nr,Agy]
  by_cases h:at'<m.length
  ·have hb:=Bn6 ha hm h
   have e4:Ad (at':Int) (ch:Int)=((at'+ch:Nat):Int):=by rw[Aj (by omega) (by omega)];omega
   have hrest:=Bds ch m h1 h6 hm hl2 (j-1) (at'+ch) q (by rw[Nat.add_mod_right,ha]) hb (by omega) (by omega)
   have hseg:((m.take (at'+ch)).drop at').length=ch:=by simp;omega
   have htl:((unm ch m).take at').length=at':=by simp[hlen];omega
   rw[if_pos (by rw[Af,Ac];simp;omega),e4,Ta (by omega) (by omega) (by omega),Aa,show((at'+ch:Nat):Int).toNat=at'+ch from rfl,show(at':Int).toNat=at' from rfl,Bso _ ch h1 h6 hseg,Aa,Cl (by rw[htl,Ao1];omega),Aa]
   have e:(unm ch m).take at'++Ba6 (fun i=>((m.take (at'+ch)).drop at').getD i 0) ch=(unm ch m).take (at'+ch):=by
    apply List.ext_getElem (by rw[List.length_append,htl,Ao1,List.length_take,hlen];omega)
    intro k k1 k2
    rw[List.length_take,hlen]at k2
    rw[List.getElem_append,List.getElem_take]
    by_cases hk:k<at'
    ·rw[dif_pos (by rw[htl];exact hk),List.getElem_take]
    ·rw[dif_neg (by rw[htl];exact hk)]
     have hu:=Bex (m:=m) ha (show k-at'<ch by omega) (by omega)
     rw[show at'+(k-at')=k by omega,Mp (by omega)]at hu
     have hx:∀n,n≤ch→unV (fun i=>((m.take (at'+ch)).drop at').getD i 0) ch n=unV (fun i=>m.getD (at'+i) 0) ch n:=by
      have hf:∀i,i<ch→((m.take (at'+ch)).drop at').getD i 0=m.getD (at'+i) 0:=by
       intro i hi
       rw[Mp (by omega),Mp (by omega)];simp
      intro n
      induction n with
      |zero=>
       intro _;rw[unV,unV,hf _ (by omega)];split
       ·rw[hf _ (by omega)]
       ·rfl
      |succ n ih=>intro hn;rw[unV,unV,ih (by omega),hf _ (by omega)]
     have hy:=Az8 (fun i=>((m.take (at'+ch)).drop at').getD i 0) (show k-at'<ch by omega)
     rw[Mp (by rw[Ao1];omega)]at hy
     rw[hu,←hx _ (by omega),←hy]
     congr 1
     rw[htl]
   rw[e]
   exact hrest
  ·rw[if_neg (by rw[Af,Ac];simp;omega),List.take_of_length_le (by omega)];rfl
theorem Bvu(ch:Nat)(m:List Int32)(h1:1≤ch)(h6:ch≤6)(hm:m.length %ch=0)(hl2:m.length≤4000):Ac7 (ch:Int) m=some (unm ch m,0):=by
 have h:=Bds ch m h1 h6 hm hl2 m.length 0 FUEL (by simp) (by omega) (by omega) (by have:=Ao;omega)
 rw[Ac7,Afz,Ccs ch m h1 h6 hm hl2,Aa,if_neg (by rw[Ag];simp)]
 exact h
end Go.Pl
set_option linter.unusedVariables false
set_option linter.unusedSimpArgs false
namespace Go.Pl
open Go Go.Lv
def pre{α:Type}(ch c:Nat)(f:α→Nat→α)(a0:α):Nat→α
 |0=>a0
 |m+1=>if m %ch=c then f (pre ch c f a0 m) m else pre ch c f a0 m
theorem Btv{α:Type}(ch c:Nat)(f:α→Nat→α)(a0:α):∀m,m≤c→c<ch→pre ch c f a0 m=a0
 |0,_,_=>rfl
 |m+1,h,h2=>by rw[pre,if_neg (by rw[Nat.mod_eq_of_lt (by omega)];omega),Btv ch c f a0 m (by omega) h2]
theorem Bpn{α:Type}(ch c i:Nat)(f:α→Nat→α)(a0:α)(hi:i %ch=c)(hc:c<ch):∀j,j<ch→pre ch c f a0 (i+1+j)=pre ch c f a0 (i+1)
 |0,_=>rfl
 |j+1,h=>by
  have hne:(i+1+j) %ch≠c:=by
   intro e
   have h1:(i+(1+j)) %ch=i %ch:=by rw[hi,←e];congr 1;omega
   have h2:(1+j) %ch=0:=by
    have h3:=Nat.sub_mod_eq_zero_of_mod_eq h1
    rwa [Nat.add_sub_cancel_left]at h3
   rw[Nat.mod_eq_of_lt (by omega)]at h2;omega
  rw[show i+1+(j+1)=(i+1+j)+1 by omega,pre,if_neg hne,Bpn ch c i f a0 hi hc j (by omega)]
theorem Cbb{α:Type}(ch c i:Nat)(f:α→Nat→α)(a0:α)(hi:i %ch=c)(hc:c<ch):pre ch c f a0 (i+ch)=f (pre ch c f a0 i) i:=by
 have h:=Bpn ch c i f a0 hi hc (ch-1) (by omega)
 rw[show i+1+(ch-1)=i+ch by omega]at h
 rw[h,pre,if_pos hi]
abbrev CS:=Int32×List Int32×List Int32
def Car(bits:Int)(s:CS)(y:Int32):Int32:=y+gF (sB bits) s.2.1 s.2.2+gs (shB bits) s.1
def Btc(bits:Int)(s:CS)(y:Int32):CS:=(Car bits s y,lrn s.2.1 s.2.2 y,(y+gF (sB bits) s.2.1 s.2.2)::s.2.2.take 15)
def cst(bits:Int)(ch:Nat)(t:List Int32)(v:List UInt32)(c:Nat):Nat→CS:=pre ch c (fun s i=>Btc bits s (Ar9 (v.getD i 0))) (0,t,List.replicate 16 0)
def OkC(bits:Int)(s:CS):Prop:=OkF (sB bits) s.2.1 s.2.2
theorem Bro(bits:Int)(ch:Nat){t:List Int32}(ht:t.length=16)(v:List UInt32)(c:Nat):∀m,OkC bits (cst bits ch t v c m)
 |0=>⟨Cix bits,ht,by simp[cst,pre]⟩
 |m+1=>by
  have ih:=Bro bits ch ht v c m
  rw[cst,pre]
  split
  ·exact Cbj ih _ _
  ·exact ih
def smp(bits:Int)(ch:Nat)(t:List Int32)(v:List UInt32):List Int32:=(List.range v.length).map fun i=>Car bits (cst bits ch t v (i %ch) i) (Ar9 (v.getD i 0))
theorem Awf(bits:Int)(ch:Nat)(t:List Int32)(v:List UInt32):(smp bits ch t v).length=v.length:=by simp[smp]
theorem Buj(bits:Int)(ch:Nat)(t:List Int32)(v:List UInt32){i:Nat}(h:i<v.length):(smp bits ch t v).getD i 0=Car bits (cst bits ch t v (i %ch) i) (Ar9 (v.getD i 0)):=by
 rw[Mp (by rw[Awf];exact h)];simp[smp]
abbrev CL:=Int×Int32×(Int×(List Int32)×(List Int32)×Unit)×Unit
def toC(bits:Int)(s:CS):CL:=(bits,s.1,(sB bits,s.2.1,s.2.2,()),())
def cts(bits:Int)(ch:Nat)(t:List Int32)(v:List UInt32)(i:Nat):List CL:=(List.range 6).map fun c=>toC bits (cst bits ch t v c i)
theorem Ced{bits:Int}{ch:Nat}{t:List Int32}{v:List UInt32}{i c:Nat}(h:c<6):getI (cts bits ch t v i) (c:Int)=some (toC bits (cst bits ch t v c i)):=by
 rw[By (by simp[cts];exact h)];simp[cts]
theorem Bnx(bits:Int)(ch:Nat)(t:List Int32)(v:List UInt32)(c m:Nat):cst bits ch t v c (m+1)=if m %ch=c then Btc bits (cst bits ch t v c m) (Ar9 (v.getD m 0))else cst bits ch t v c m:=rfl
theorem Cc2{bits:Int}{ch:Nat}{t:List Int32}{v:List UInt32}{i c:Nat}(h:c<6)(hc:i %ch=c):Kw (cts bits ch t v i) (c:Int) (toC bits (Btc bits (cst bits ch t v c i) (Ar9 (v.getD i 0))))=some (cts bits ch t v (i+1)):=by
 rw[Xd _ (by simp[cts];exact h)]
 congr 1
 apply List.ext_getElem (by simp[cts])
 intro k h1 h2
 rw[List.getElem_set]
 simp only[cts,List.getElem_map,List.getElem_range]
 by_cases hk:c=k
 ·subst hk;rw[if_pos rfl,Bnx,if_pos hc]
 ·rw[if_neg hk,Bnx,if_neg (by omega)]
section
variable {bits:Int} {ch:Nat} {t:List Int32} {v:List UInt32}
theorem Bqq(hb:Ci bits)(ht:t.length=16)(h1:1≤ch)(h6:ch≤6)(hv:v.length≤4000):∀(j i q:Nat),i+j=v.length→j<q→
  Ia v (ch:Int) bits q (i:Int) (cts bits ch t v i) ((smp bits ch t v).take i)=Kz (ch:Int) bits (smp bits ch t v)
 |0,i,q+1,hi,_=>by
  rw[Ia,Kr,if_neg (by rw[Af,Ac];simp;omega),List.take_of_length_le (by rw[Awf];omega)]
 |j+1,i,q+1,hi,hq=>by
  have hlen:=Awf bits ch t v
  have hc:i %ch<6:=Nat.lt_of_lt_of_le (Nat.mod_lt _ (by omega)) h6
  have hok:=Bro bits ch ht v (i %ch) i
  have hs:=Cc2 (bits:=bits) (ch:=ch) (t:=t) (v:=v) (i:=i) hc rfl
  have hx:=Buj bits ch t v (i:=i) (by omega)
  have hcb:=Bv4 hb hok (cst bits ch t v (i %ch) i).1 (Ar9 (v.getD i 0))
  have ih:=Bqq hb ht h1 h6 hv j (i+1) q (by omega) (by omega)
  rw[Ajh (by omega),←Mp (by omega),hx]at ih
  rw[Ia,Kr,if_pos (by rw[Af,Ac];simp;omega),Biz (by omega),Aa,Db (by rw[Ag];simp;omega),Aa,Bfj,Ced hc,Aa,Aa,Cae,Aa]
  refine Eq.trans (congrArg (fun o=>Option.bind o _) hcb) ?_
  rw[Aa]
  simp only
  rw[Xn,Aij,if_neg (by rw[Ag];simp),Bfj]
  refine Eq.trans (congrArg (fun o=>Option.bind o _) hs) ?_
  rw[Aa,Cl (by simp;omega),Aa,Aj (by omega) (by omega)]
  exact ih
theorem Bxv(hb:Ci bits)(ht:t.length=16)(h1:1≤ch)(h6:ch≤6)(hv:v.length≤4000):Rj (ch:Int) bits t v=Kz (ch:Int) bits (smp bits ch t v):=by
 have h:=Bqq hb ht h1 h6 hv v.length 0 FUEL (by omega) (by have:=Ao;omega)
 have e:FUEL=(FUEL-7)+1+1+1+1+1+1+1:=by have:=Ao;omega
 have hs:Oz v (ch:Int) bits t 0 (List.replicate 6 ((0:Int),(0:Int32),((0:Int),(List.replicate 16 (0:Int32)),(List.replicate 16 (0:Int32)),()),()))=Xm v (ch:Int) bits (cts bits ch t v 0):=by
  rw[Oz,e]
  obtain rfl|rfl|rfl:=hb<;>rfl
 rw[Rj,Ym,hs]
 exact h
theorem Blb(bk:Int→List Int32→Option (List Int32))(hb:Ci bits)(ht:t.length=16)(h1:1≤ch)(h6:ch≤6)(hv:v.length≤4000)(z:List Int32)(c:Nat)(hc:c<ch):∀(j i q:Nat),i %ch=c→v.length-i≤j→i≤5000→j<q→
  Kf bk v (ch:Int) bits t (c:Int) q (i:Int) (sel (fun k=>decide (k %ch<c∨(k %ch=c∧k<i))) (smp bits ch t v) z) bits (cst bits ch t v c i).1 (sB bits) (cst bits ch t v c i).2.1 (cst bits ch t v c i).2.2=
   bk ((c+1:Nat):Int) (sel (fun k=>decide (k %ch<c+1)) (smp bits ch t v) z)
 |j,i,q+1,hi,hj,hi5,hq=>by
  have hlen:=Awf bits ch t v
  rw[Kf,Zr]
  by_cases h:i<v.length
  ·have hok:=Bro bits ch ht v c i
   have hst:=Bxz hb hok (cst bits ch t v c i).1 (Ar9 (v.getD i 0))
   have hx:=Buj bits ch t v (i:=i) h
   rw[hi]at hx
   have ih:=Blb bk hb ht h1 h6 hv z c hc (j-1) (i+ch) q (by rw[Nat.add_mod_right];exact hi) (by omega) (by omega) (by omega)
   have hstep:cst bits ch t v c (i+ch)=Btc bits (cst bits ch t v c i) (Ar9 (v.getD i 0)):=Cbb ch c i _ _ hi hc
   rw[hstep]at ih
   have hset:=Azv (p:=fun k=>decide (k %ch<c∨(k %ch=c∧k<i))) (a:=smp bits ch t v) (b:=z) (k:=i) (by omega)
   rw[hx]at hset
   have hcong:sel (fun j=>decide (j %ch<c∨(j %ch=c∧j<i))||decide (j=i)) (smp bits ch t v) z=sel (fun k=>decide (k %ch<c∨(k %ch=c∧k<i+ch))) (smp bits ch t v) z:=by
    apply Zk
    intro k _
    rw[Bool.eq_iff_iff]
    simp only[Bool.or_eq_true,decide_eq_true_eq]
    constructor
    ·rintro((h1|h1)|h1)
     ·exact .inl h1
     ·exact .inr ⟨h1.1,by omega⟩
     ·subst h1;exact .inr ⟨hi,by omega⟩
    ·rintro(h1|⟨h1,h2⟩)
     ·exact .inl (.inl h1)
     ·by_cases h3:k<i
      ·exact .inl (.inr ⟨h1,h3⟩)
      ·refine .inr ?_
       have h4:(i+(k-i)) %ch=i %ch:=by rw[show i+(k-i)=k by omega,h1,hi]
       have h5:=Nat.sub_mod_eq_zero_of_mod_eq h4
       rw[Nat.add_sub_cancel_left,Nat.mod_eq_of_lt (by omega)]at h5
       omega
   rw[hcong]at hset
   rw[if_pos (by rw[Af,Ac];simp;omega),Biz h,Aa,Cd4,Aa]
   refine Eq.trans (congrArg (fun o=>Option.bind o _) hst) ?_
   rw[Aa]
   simp only
   rw[Aaj,Aac,Al5 (by omega),Aa]
   refine Eq.trans (congrArg (fun o=>Option.bind o _) hset) ?_
   rw[Aa,Aae,Zv,Aj (by omega) (by omega)]
   exact ih
  ·rw[if_neg (by rw[Af,Ac];simp;omega),Zy,Aal,Aj (by omega) (by omega)]
   have hcong:sel (fun k=>decide (k %ch<c∨(k %ch=c∧k<i))) (smp bits ch t v) z=sel (fun k=>decide (k %ch<c+1)) (smp bits ch t v) z:=by
    apply Zk
    intro k hk
    rw[Bool.eq_iff_iff]
    simp only[decide_eq_true_eq]
    omega
   rw[hcong];rfl
theorem Bkf(hb:Ci bits)(ht:t.length=16)(h1:1≤ch)(h6:ch≤6)(hv:v.length≤4000)(z:List Int32):∀(j c q:Nat),c+j=ch→j<q→
  Ey v (ch:Int) bits t q (c:Int) (sel (fun k=>decide (k %ch<c)) (smp bits ch t v) z)=Ph (ch:Int) bits (smp bits ch t v)
 |0,c,q+1,hc,_=>by
  rw[Ey,Pj,if_neg (by rw[Af];simp;omega),Baw (fun k hk=>by have:=Nat.mod_lt k (show 0<ch by omega);simp;omega)]
 |j+1,c,q+1,hc,hq=>by
  have ih:=Bkf hb ht h1 h6 hv z j (c+1) q (by omega) (by omega)
  have hin:=Blb (Ey v (ch:Int) bits t q) hb ht h1 h6 hv z c (by omega) v.length c FUEL (Nat.mod_eq_of_lt (by omega)) (by omega) (by omega) (by have:=Ao;omega)
  have h0:cst bits ch t v c c=(0,t,List.replicate 16 0):=Btv ch c _ _ c (Nat.le_refl _) (by omega)
  rw[h0]at hin
  have hcong:sel (fun k=>decide (k %ch<c∨(k %ch=c∧k<c))) (smp bits ch t v) z=sel (fun k=>decide (k %ch<c)) (smp bits ch t v) z:=by
   apply Zk
   intro k hk
   have:=Nat.mod_le k ch
   rw[Bool.eq_iff_iff]
   simp only[decide_eq_true_eq]
   omega
  rw[hcong]at hin
  rw[Ey,Pj,if_pos (by rw[Af];simp;omega),Cit hb,Aa]
  simp only
  rw[Zs]
  exact Eq.trans hin ih
theorem Bwk(hb:Ci bits)(ht:t.length=16)(h1:1≤ch)(h6:ch≤6)(hv:v.length≤4000)(hm:v.length %ch=0):Pa (ch:Int) bits t v=some (unm ch (smp bits ch t v)):=by
 have hlen:=Awf bits ch t v
 have h:=Bkf hb ht h1 h6 hv (List.replicate v.length 0) ch 0 FUEL (by omega) (by have:=Ao;omega)
 rw[Bac (by rw[hlen];simp) (fun k _=>by simp)]at h
 rw[Pa,Ac4,Ac,Bi3 (by omega) (by omega),Aa,Db (by rw[Al];simp),Aa,Aam]
 refine Eq.trans h ?_
 rw[Ph,Aag,Bvu ch _ h1 h6 (by rw[hlen];exact hm) (by omega),Aa]
end
def hB(bits:Int):Int:=if bits=8 then 128 else if bits=16 then 32768 else 8388608
theorem By4{bits:Int}(h:Ci bits):Af3 bits=some (Int32.ofInt (-(hB bits)),Int32.ofInt (hB bits-1),0):=by
 obtain rfl|rfl|rfl:=h<;>decide
theorem Aza{bits:Int}(h:Ci bits):Ud bits=some (hB bits):=by
 obtain rfl|rfl|rfl:=h<;>rfl
theorem Atb(bits:Int):0<hB bits∧hB bits≤8388608:=by
 unfold hB;split; · omega
 ·split<;>omega
theorem Bgf{bits:Int}(h:Ci bits)(l:List Int32)(hl:l.length≤4000):∀(j i q:Nat),i+j=l.length→j<q→
  Pd (Int32.ofInt (-(hB bits))) (Int32.ofInt (hB bits-1)) l q (i:Int)=Az l (hB bits) q (i:Int)
 |0,i,q+1,hi,_=>by
  rw[Pd,Acz,Az,Cy,if_neg (by rw[Af,Ac];simp;omega),if_neg (by rw[Af,Ac];simp;omega)];rfl
 |j+1,i,q+1,hi,hq=>by
  have hh:=Atb bits
  have ih:=Bgf h l hl j (i+1) q (by omega) (by omega)
  have e1:(Int32.ofInt (-(hB bits))).toInt= -(hB bits):=by rw[Int32.toInt_ofInt,Int.bmod_eq_of_le (by show -(4294967296/2:Int)≤_;omega) (by show _<(4294967296+1)/2;omega)]
  have e2:(Int32.ofInt (hB bits-1)).toInt=hB bits-1:=by rw[Int32.toInt_ofInt,Int.bmod_eq_of_le (by show -(4294967296/2:Int)≤_;omega) (by show _<(4294967296+1)/2;omega)]
  rw[Pd,Acz,Az,Cy,if_pos (by rw[Af,Ac];simp;omega),if_pos (by rw[Af,Ac];simp;omega),g32 (by omega),Aa,Aa,Aa,Ek,Bmj,Cg (by omega) (by omega),Aj (by omega) (by omega),Bmk,Bq4,e1,e2,Af,Dq]
  generalize(l.getD i 0).toInt=X
  by_cases h1:X< -(hB bits)
  ·rw[if_pos (by simp;omega),if_pos (by simp;omega)]
  ·rw[if_neg (c:=decide (X<0-hB bits)=true) (by simp;omega)]
   by_cases h2:hB bits≤X
   ·rw[if_pos (by simp;omega),if_pos (by simp;omega)]
   ·rw[if_neg (by simp;omega),if_neg (by simp;omega)];exact ih
theorem Bi6{bits:Int}(h:Ci bits)(l:List Int32)(hl:l.length≤4000):Vk bits l=cadenzaref18_Check bits l:=by
 have hh:=Atb bits
 rw[Vk,Aly,By4 h,Aa,cadenzaref18_Check,Gg,Aza h,Aa]
 simp only
 rw[if_neg (by rw[Ag];simp),if_neg (by rw[Am,Ac];simp;omega),if_neg (by rw[Al];simp;omega),if_neg (by rw[Am,Ac];simp;omega)]
 exact Bgf h l hl l.length 0 FUEL (by omega) (by have:=Ao;omega)
theorem Bs1{bits:Int}(h:Ci bits)(l:List Int32)(hl:l.length≤4000):∃e,cadenzaref18_Check bits l=some e:=by
 have hh:=Atb bits
 have key:∀(j i q:Nat),i+j=l.length→j<q→∃e,Az l (hB bits) q (i:Int)=some e:=by
  intro j
  induction j with
  |zero=>
   intro i q hi hq
   obtain⟨q,rfl⟩:∃k,q=k+1:=⟨q-1,by omega⟩
   rw[Az,Cy,if_neg (by rw[Af,Ac];simp;omega)]
   exact⟨_,rfl⟩
  |succ j ih=>
   intro i q hi hq
   obtain⟨q,rfl⟩:∃k,q=k+1:=⟨q-1,by omega⟩
   rw[Az,Cy,if_pos (by rw[Af,Ac];simp;omega),g32 (by omega),Aa,Aa,Aj (by omega) (by omega)]
   split
   ·exact⟨_,rfl⟩
   ·split
    ·exact⟨_,rfl⟩
    ·exact ih (i+1) q (by omega) (by omega)
 obtain⟨e,he⟩:=key l.length 0 FUEL (by omega) (by have:=Ao;omega)
 rw[cadenzaref18_Check,Gg,Aza h,Aa,if_neg (by rw[Al];simp;omega),if_neg (by rw[Am,Ac];simp;omega)]
 exact⟨e,he⟩
theorem Az2{bits:Int}{ch:Nat}{t:List Int32}{v:List UInt32}(hb:Ci bits)(ht:t.length=16)(h1:1≤ch)(h6:ch≤6)(hv:v.length≤4000)(hm:v.length %ch=0):
  ∃l e,Pa (ch:Int) bits t v=some l∧Xf (ch:Int) bits l=some (if e≠0 then([],e)else(l,0))∧Rj (ch:Int) bits t v=some (if e≠0 then([],e)else(l,0))∧cadenzaref18_Check bits l=some e∧l.length=v.length:=by
 have hlen:=Awf bits ch t v
 have hul:=Awg ch (smp bits ch t v)
 obtain⟨e,he⟩:=Bs1 hb (unm ch (smp bits ch t v)) (by omega)
 refine⟨unm ch (smp bits ch t v),e,Bwk hb ht h1 h6 hv hm,?_,?_,he,by omega⟩
 ·rw[Xf,he,Aa]
  by_cases h:e=0
  ·rw[if_neg (by rw[Ag];simpa using h),if_neg (by simpa using h)]
  ·rw[if_pos (by rw[Ag];simpa using h),if_pos h]
 ·rw[Bxv hb ht h1 h6 hv,Kz,Aia,Cd9 ch _ h1 h6 (by rw[hlen];exact hm) (by omega),Aa]
  simp only
  rw[if_neg (by rw[Ag];simp),Bi6 hb _ (by omega),he,Aa]
  by_cases h:e=0
  ·rw[if_neg (by rw[Ag];simpa using h),if_neg (by simpa using h)]
  ·rw[if_pos (by rw[Ag];simpa using h),if_pos h]
end Go.Pl
set_option linter.unusedVariables false
set_option linter.unusedSimpArgs false
namespace Go.Pl
open Go Go.Lv
def Avc(s:Nat):Nat:=(s/2)^^^ (if s %2=1 then 3988292384 else 0)
theorem Be6{s:Nat}(h:s<4294967296):Avc s<4294967296:=by
 unfold Avc
 exact Nat.xor_lt_two_pow (n:=32) (by simp;omega) (by split<;>decide)
theorem Bom(x y:Nat):(x^^^y)/2=(x/2)^^^ (y/2):=by
 have:=Nat.shiftRight_xor_distrib (a:=x) (b:=y) (i:=1)
 simpa [Nat.shiftRight_eq_div_pow]using this
theorem Bx2(x y:Nat):Avc (x^^^y)=Avc x^^^Avc y:=by
 have h:(x^^^y) %2=(x %2+y %2) %2:=by
  have:=Nat.xor_mod_two_eq_one (a:=x) (b:=y)
  have h1:(x^^^y) %2<2:=Nat.mod_lt _ (by omega)
  omega
 simp only[Avc,Bom,h]
 have hx:x %2=0∨x %2=1:=by omega
 have hy:y %2=0∨y %2=1:=by omega
 rcases hx with hx|hx<;>rcases hy with hy|hy<;>simp only[hx,hy]<;>simp
 ·rw[Nat.xor_assoc]
 ·rw[Nat.xor_assoc,Nat.xor_comm (y/2),Nat.xor_assoc,Nat.xor_comm 3988292384 (y/2)]
 ·rw[Nat.xor_assoc,Nat.xor_comm 3988292384,Nat.xor_assoc,Nat.xor_self];simp
def Wp:Nat→Nat→Nat
 |0,s=>s
 |k+1,s=>Wp k (Avc s)
theorem Bj5:∀(k x y:Nat),Wp k (x^^^y)=Wp k x^^^Wp k y
 |0,_,_=>rfl
 |k+1,x,y=>by rw[Wp,Bx2,Bj5 k];rfl
theorem Bk1:∀(k h:Nat),Wp k (2^k*h)=h
 |0,h=>by simp[Wp]
 |k+1,h=>by
  have:Avc (2^(k+1)*h)=2^k*h:=by
   rw[Nat.pow_succ,Nat.mul_comm (2^k) 2,Nat.mul_assoc,Avc,if_neg (by omega),Nat.mul_div_cancel_left _ (by omega)];simp
  rw[Wp,this,Bk1 k]
theorem Bit:∀(k:Nat) {s:Nat},s<4294967296→Wp k s<4294967296
 |0,_,h=>h
 |k+1,_,h=>Bit k (Be6 h)
def Bdm(s c:Nat):Nat:=Wp 8 (s^^^c)
theorem Bga{s c:Nat}(h:s<4294967296)(hc:c<256):Bdm s c<4294967296:=Bit 8 (Nat.xor_lt_two_pow (n:=32) (by simpa using h) (by simp;omega))
theorem Bop{s c:Nat}(hc:c<256):Bdm s c=(s/256)^^^Wp 8 ((s %256)^^^c):=by
 have h:s=(2^8*(s/256))^^^ (s %256):=by
  have h1:s %256<2^8:=by simpa using Nat.mod_lt s (by omega:256>0)
  have:=Nat.two_pow_add_eq_or_of_lt h1 (s/256)
  have h2:2^8*(s/256)|||s %256=(2^8*(s/256))^^^ (s %256):=by
   apply Nat.eq_of_testBit_eq;intro i
   rw[Nat.testBit_or,Nat.testBit_xor]
   by_cases hi:i<8
   ·have:(2^8*(s/256)).testBit i=false:=by rw[Nat.testBit_two_pow_mul];simp;omega
    rw[this];simp
   ·have:(s %256).testBit i=false:=Nat.testBit_lt_two_pow (Nat.lt_of_lt_of_le h1 (Nat.pow_le_pow_right (by omega) (by omega)))
    rw[this];simp
  omega
 rw[Bdm]
 conv=>lhs;rw[h]
 rw[Nat.xor_assoc,Bj5,Bk1]
def Bwx(s:Nat)(l:List UInt8):Nat:=l.foldl (fun s c=>Bdm s c.toNat) s
def Hv(b:List UInt8):UInt32:=4294967295-UInt32.ofNat (Bwx 4294967295 b)
theorem Cci(s:UInt32)(c:Nat)(hc:c<256):Aa9 s (Ae (Aao (UInt8.ofNat c) (2:UInt8)):Int)=some (UInt32.ofNat (s.toNat/2^^^ (if(s.toNat^^^c) %2=1 then 3988292384 else 0))):=by
 have h1:(Ae (Aao (UInt8.ofNat c) (2:UInt8)):Int)=((c %2:Nat):Int):=by
  rw[Ajb,Ccz,UInt8.toNat_mod,UInt8.toNat_ofNat']
  show((c %256 %2:Nat):Int)=_
  omega
 have h2:geq (Aao s (2:UInt32)) (1:UInt32)=decide (s.toNat %2=1):=by
  rw[Blr,Bpo,Bool.eq_iff_iff]
  simp only[beq_iff_eq,decide_eq_true_eq]
  rw[←UInt32.toNat_inj,UInt32.toNat_mod];rfl
 have h3:Cn s (2:UInt32)=UInt32.ofNat (s.toNat/2):=by
  apply UInt32.toNat_inj.1
  rw[Bny,UInt32.toNat_div,UInt32.toNat_ofNat']
  show s.toNat/2=_
  have:=s.toNat_lt
  omega
 have h4:Wz (Cn s (2:UInt32)) (3988292384:UInt32)=UInt32.ofNat (s.toNat/2^^^3988292384):=by
  apply UInt32.toNat_inj.1
  rw[h3,Baa,UInt32.toNat_xor,UInt32.toNat_ofNat',UInt32.toNat_ofNat']
  have:=s.toNat_lt
  rw[Nat.mod_eq_of_lt (a:=s.toNat/2) (by omega),Nat.mod_eq_of_lt]
  ·rfl
  ·exact Nat.xor_lt_two_pow (n:=32) (by omega) (by decide)
 have hx:(s.toNat^^^c) %2=(s.toNat %2+c %2) %2:=by
  have:=Nat.xor_mod_two_eq_one (a:=s.toNat) (b:=c)
  have h1:(s.toNat^^^c) %2<2:=Nat.mod_lt _ (by omega)
  omega
 have hs:s.toNat %2=0∨s.toNat %2=1:=by omega
 have hc2:c %2=0∨c %2=1:=by omega
 rw[Aa9,Ag1,h1,h2,hx]
 rcases hs with hs|hs<;>rcases hc2 with hc2|hc2<;>simp[hs,hc2,Al,Agq,Afu,Baa,h3]
theorem Bdt:∀(j i q:Nat) (s:UInt32) (c:Nat),i+j=8→j<q→c<2^j→Ju q s (UInt8.ofNat c) (i:Int)=some (UInt32.ofNat (Wp j (s.toNat^^^c)))
 |0,i,q+1,s,c,hi,_,hc=>by
  obtain rfl:i=8:=by omega
  obtain rfl:c=0:=by simpa using hc
  rw[Ju,Uy,if_neg (by rw[Af];simp),Ag9,Ahb,Wp]
  simp
 |j+1,i,q+1,s,c,hi,hq,hc=>by
  have hc8:c<256:=Nat.lt_of_lt_of_le hc (show 2^(j+1)≤2^8 from Nat.pow_le_pow_right (by omega) (by omega))
  rw[Ju,Uy,if_pos (by rw[Af];simp;omega),Cci s c hc8,Aa,Aj (by omega) (by omega)]
  have e:Cn (UInt8.ofNat c) (2:UInt8)=UInt8.ofNat (c/2):=by
   apply UInt8.toNat_inj.1
   rw[Cc5,UInt8.toNat_div,UInt8.toNat_ofNat',UInt8.toNat_ofNat']
   show c %256/2=_
   omega
  rw[e]
  have h:=Bdt j (i+1) q (UInt32.ofNat (s.toNat/2^^^ (if(s.toNat^^^c) %2=1 then 3988292384 else 0))) (c/2) (by omega) (by omega) (by rw[Nat.pow_succ]at hc;omega)
  rw[show((i:Int)+1)=((i+1:Nat):Int) by omega,h,UInt32.toNat_ofNat',Wp]
  congr 3
  have:=s.toNat_lt
  rw[Nat.mod_eq_of_lt,Avc,Bom,Nat.xor_assoc,Nat.xor_assoc,Nat.xor_comm (c/2)]
  exact Nat.xor_lt_two_pow (n:=32) (by omega) (by split<;>decide)
theorem Cc6(s:UInt32)(c:UInt8):Al8 s c=some (UInt32.ofNat (Bdm s.toNat c.toNat)):=by
 have h:=Bdt 8 0 FUEL s c.toNat (by omega) (by have:=Ao;omega) (by simpa using c.toNat_lt)
 rw[UInt8.ofNat_toNat]at h
 exact h
theorem Aw2(b:List UInt8)(hb:b.length<4611686018427387904):∀(j i q:Nat) (s:UInt32),i+j=b.length→j<q→Hj b q s (i:Int)=some (UInt32.ofNat (Bwx s.toNat (b.drop i)))
 |0,i,q+1,s,hi,_=>by
  rw[Hj,Qw,if_neg (by rw[Af,Ac];simp;omega),show i=b.length by omega,List.drop_length]
  simp[Acj,Acg,Bwx]
 |j+1,i,q+1,s,hi,hq=>by
  have hlt:i<b.length:=by omega
  rw[Hj,Qw,if_pos (by rw[Af,Ac];simp;omega),By hlt,Aa,Cc6,Aa,Aj (by omega) (by omega)]
  have h:=Aw2 b hb j (i+1) q (UInt32.ofNat (Bdm s.toNat b[i].toNat)) (by omega) (by omega)
  rw[show((i:Int)+1)=((i+1:Nat):Int) by omega,h,drop_cons hlt,UInt32.toNat_ofNat',Nat.mod_eq_of_lt (Bga s.toNat_lt b[i].toNat_lt)]
  rfl
theorem Bx8(b:List UInt8)(hb:b.length<4611686018427387904):Ro b=some (Hv b):=by
 have h:=Aw2 b hb b.length 0 FUEL 4294967295 (by omega) (by have:=Ao;omega)
 rw[Ro,Aif,Adf,Aas,show((0:Int))=((0:Nat):Int)from rfl,h,Aa,Bnw];rfl
theorem Ces(c:UInt32):Wz (Ce c (GI.toZ (1:UInt64)).toNat) (Bd (3988292384:UInt32) (Dt c (1:UInt32)))=UInt32.ofNat (Avc c.toNat):=by
 apply UInt32.toNat_inj.1
 have e:(GI.toZ (1:UInt64)).toNat=1:=rfl
 have h1:(Ce c 1).toNat=c.toNat/2:=by rw[Aoj]
 have h2:(Bd (3988292384:UInt32) (Dt c (1:UInt32))).toNat=if c.toNat %2=1 then 3988292384 else 0:=by
  rw[By5,Bqx,UInt32.toNat_mul,UInt32.toNat_and]
  show 3988292384*(c.toNat&&&1) %4294967296=_
  rw[Nat.and_one_is_mod]
  have:c.toNat %2=0∨c.toNat %2=1:=by omega
  rcases this with h|h<;>simp[h]
 rw[e,Baa,UInt32.toNat_xor,h1,h2,UInt32.toNat_ofNat',Nat.mod_eq_of_lt (Be6 c.toNat_lt)];rfl
theorem Bqr(bk16:Int→List UInt32→Option (UInt32×Int))(s:UInt32)(b:List UInt8)(x:Int)(t:List UInt32):∀(j i q:Nat) (c:UInt32),i+j=8→j<q→
  Pb bk16 s b x t q c (i:Int)=Ab9 bk16 s b x (UInt32.ofNat (Wp j c.toNat)) t
 |0,i,q+1,c,hi,_=>by
  obtain rfl:i=8:=by omega
  rw[Pb,Abs,if_neg (by rw[Af];simp),Wp,UInt32.ofNat_toNat]
 |j+1,i,q+1,c,hi,hq=>by
  rw[Pb,Abs,if_pos (by rw[Af];simp;omega),Ces,Aj (by omega) (by omega),show((i:Int)+1)=((i+1:Nat):Int) by omega,Bqr bk16 s b x t j (i+1) q _ (by omega) (by omega),UInt32.toNat_ofNat',Nat.mod_eq_of_lt (Be6 c.toNat_lt)];rfl
def tbl(n:Nat):List UInt32:=(List.range n).map fun i=>UInt32.ofNat (Wp 8 i)
theorem Bu0(s:UInt32)(b:List UInt8):∀(j i q:Nat),i+j=256→j<q→Mh s b q (i:Int) (tbl i++List.replicate j 0)=Abx s b (tbl 256)
 |0,i,q+1,hi,_=>by
  obtain rfl:i=256:=by omega
  rw[Mh,Acq,if_neg (by rw[Af];simp)];simp
 |j+1,i,q+1,hi,hq=>by
  have hlen:(tbl i++List.replicate (j+1) 0).length=i+(j+1):=by simp[tbl]
  rw[Mh,Acq,if_pos (by rw[Af];simp;omega),Ajt]
  have h:=Bqr (Mh s b q) s b (i:Int) (tbl i++List.replicate (j+1) 0) 8 0 FUEL (Ae (i:Int)) (by omega) (by have:=Ao;omega)
  rw[show((0:Int))=((0:Nat):Int)from rfl,h,Ab9,Alz,By (by rw[hlen];omega),Aa,Xd _ (by rw[hlen];omega),Aa,Ajo,Ata,Aj (by omega) (by omega)]
  have e:(Ae (i:Int):UInt32).toNat=i:=by rw[Bku,UInt32.toNat_ofNat',Nat.mod_eq_of_lt (by omega)]
  rw[e,List.replicate_succ,Avw (by simp[tbl])]
  have h2:=Bu0 s b j (i+1) q (by omega) (by omega)
  have h3:tbl (i+1)=tbl i++[UInt32.ofNat (Wp 8 i)]:=by simp[tbl,List.range_succ]
  rw[h3]at h2
  rw[show((i:Int)+1)=((i+1:Nat):Int) by omega,←h2]
  simp
theorem Cd6{i:Nat}(h:i<256):getI (tbl 256) (i:Int)=some (UInt32.ofNat (Wp 8 i)):=by
 rw[By (by simpa [tbl]using h)];simp[tbl]
theorem Cb2(s:UInt32)(c:UInt8):getI (tbl 256) (GI.toZ (Wz (Ae s:UInt8) c))=some (UInt32.ofNat (Wp 8 ((s.toNat %256)^^^c.toNat))):=by
 have e:GI.toZ (Wz (Ae s:UInt8) c)=(((s.toNat %256)^^^c.toNat:Nat):Int):=by
  rw[Za,Bt1,UInt8.toNat_xor,Ayn,UInt8.toNat_ofNat']
 rw[e,Cd6]
 exact Nat.xor_lt_two_pow (n:=8) (by simp;omega) (by simpa using c.toNat_lt)
theorem Bwm(s:UInt32)(c:UInt8):Wz (Ce s (GI.toZ (8:UInt64)).toNat) (UInt32.ofNat (Wp 8 ((s.toNat %256)^^^c.toNat)))=UInt32.ofNat (Bdm s.toNat c.toNat):=by
 apply UInt32.toNat_inj.1
 have hlt:Wp 8 ((s.toNat %256)^^^c.toNat)<4294967296:=Bit 8 (Nat.xor_lt_two_pow (n:=32) (by simp;omega) (by have:=c.toNat_lt;simp;omega))
 have e:(GI.toZ (8:UInt64)).toNat=8:=rfl
 rw[e,Baa,UInt32.toNat_xor,Aoj,UInt32.toNat_ofNat',UInt32.toNat_ofNat',Nat.mod_eq_of_lt hlt,Nat.mod_eq_of_lt (Bga s.toNat_lt c.toNat_lt),Bop c.toNat_lt]
theorem Bnq(b:List UInt8)(hb:b.length<4611686018427387904):∀(j i q:Nat) (s:UInt32),i+j=b.length→j<q→Pf b (tbl 256) q s (i:Int)=some (UInt32.ofNat (Bwx s.toNat (b.drop i)),0)
 |0,i,q+1,s,hi,_=>by
  rw[Pf,Ab2,if_neg (by rw[Af,Ac];simp;omega),show i=b.length by omega,List.drop_length]
  simp[Ajz,Att,Bwx]
 |j+1,i,q+1,s,hi,hq=>by
  have hlt:i<b.length:=by omega
  rw[Pf,Ab2,if_pos (by rw[Af,Ac];simp;omega),By hlt,Aa,Cb2,Aa,Aa,Bwm,Aj (by omega) (by omega)]
  have h:=Bnq b hb j (i+1) q (UInt32.ofNat (Bdm s.toNat b[i].toNat)) (by omega) (by omega)
  rw[show((i:Int)+1)=((i+1:Nat):Int) by omega,h,drop_cons hlt,UInt32.toNat_ofNat',Nat.mod_eq_of_lt (Bga s.toNat_lt b[i].toNat_lt)]
  rfl
theorem Ccy(s:UInt32)(b:List UInt8)(hb:b.length≤100000):Ap5 s b=some (UInt32.ofNat (Bwx s.toNat b),0):=by
 have h:=Bu0 s b 256 0 FUEL (by omega) (by have:=Ao;omega)
 have h2:=Bnq b (by omega) b.length 0 FUEL s (by omega) (by have:=Ao;omega)
 rw[Ap5,Anu,if_neg (by rw[Am,Ac];simp;omega),Ajm]
 refine Eq.trans h ?_
 rw[Abx,Ald,Alb,Aj0,Ajw]
 exact h2
theorem By2(a:UInt32):Bfg a=4294967295-a:=by
 have h:=a.toNat_lt
 have e:Bfg a=UInt32.ofNat (BitVec.ofInt 32 4294967295^^^BitVec.ofInt 32 (a.toNat:Int)).toNat:=Em _
 apply UInt32.toNat_inj.1
 rw[e,UInt32.toNat_ofNat',UInt32.toNat_sub_of_le _ _ (by rw[UInt32.le_iff_toNat_le];show a.toNat≤4294967295;omega)]
 have h1:BitVec.ofInt 32 (a.toNat:Int)=a.toBitVec:=Bmr a
 have h2:(BitVec.ofInt 32 4294967295:BitVec 32)=BitVec.allOnes 32:=by decide
 rw[h1,h2,BitVec.allOnes_xor,BitVec.toNat_not]
 show(4294967296-1-a.toNat) %4294967296=4294967295-a.toNat
 omega
theorem Bq8(b:List UInt8)(hb:b.length≤100000):Wg b=some (Hv b,0):=by
 rw[Wg,Ccy _ _ hb,Aa]
 simp only[Ag,By2]
 rfl
end Go.Pl
set_option linter.unusedVariables false
set_option linter.unusedSimpArgs false
namespace Go.Pl
open Go Go.Lv
theorem Bt3:∀{l m:List UInt8},l.length=m.length→Ee l=Ee m→l=m
 |[],[],_,_=>rfl
 |x::l,y::m,h,e=>by
  simp only[Ee]at e
  have hx:=x.toNat_lt
  have hy:=y.toNat_lt
  have h1:x=y:=UInt8.toNat_inj.1 (by omega)
  rw[h1,Bt3 (l:=l) (m:=m) (by simpa using h) (by omega)]
theorem Bln:∀(w n:Nat),Ee (leB n w)=n %256^w
 |0,n=>by simp[leB,Ee,Nat.mod_one]
 |w+1,n=>by
  rw[leB,Ee,Bln w (n/256),UInt8.toNat_ofNat',show(256:Nat)^(w+1)=256*256^w by rw[Nat.pow_succ,Nat.mul_comm],Nat.mod_mul]
def Tn(b:List UInt8):Int:=
 if b.length<5 then 24 else if 41254<b.length then 4 else if(Hv (b.take (b.length-4))).toNat≠Ee (b.drop (b.length-4))then 22 else 0
theorem Bn2(b:List UInt8):Ab4 b=some (if Tn b≠0 then([],Tn b)else(b.take (b.length-4),0)):=by
 rw[Ab4]
 by_cases h1:b.length<5
 ·have hS:Tn b=24:=by rw[Tn,if_pos h1]
  rw[if_pos (by rw[Af,Ac];simp;omega),hS];rfl
 rw[if_neg (by rw[Af,Ac];simp;omega)]
 by_cases h2:41254<b.length
 ·have hS:Tn b=4:=by rw[Tn,if_neg h1,if_pos h2]
  rw[if_pos (by rw[Am,Ac];simp;omega),hS];rfl
 have e4:Ak (Ac b) 4=((b.length-4:Nat):Int):=by rw[Ac,Bv (by omega) (by omega)];omega
 have hd:(b.drop (b.length-4)).length=4:=by simp;omega
 rw[if_neg (by rw[Am,Ac];simp;omega),e4,Cp (by omega) (by omega),Aa,show((b.length-4:Nat):Int).toNat=b.length-4 from rfl,Bq8 _ (by simp;omega),Aa]
 simp only
 rw[if_neg (by rw[Ag];simp),Bg (by omega) (by omega),Aa,show((b.length-4:Nat):Int).toNat=b.length-4 from rfl,Bqv _ (by omega) (by omega),Aa]
 have hne:Ay (leU (b.drop (b.length-4))) (Ae (Hv (b.take (b.length-4))):UInt64)=decide ((Hv (b.take (b.length-4))).toNat≠Ee (b.drop (b.length-4))):=by
  have hlt:=(Hv (b.take (b.length-4))).toNat_lt
  rw[Ait,Bool.eq_iff_iff]
  simp only[bne_iff_ne,ne_eq,←UInt64.toNat_inj,decide_eq_true_eq]
  rw[Al9 (by omega),Ie,UInt64.toNat_ofNat',Nat.mod_eq_of_lt (by omega)]
  exact⟨fun h e=>h e.symm,fun h e=>h e.symm⟩
 simp only
 rw[hne,Aa]
 by_cases h3:(Hv (b.take (b.length-4))).toNat≠Ee (b.drop (b.length-4))
 ·have hS:Tn b=22:=by rw[Tn,if_neg h1,if_neg h2,if_pos h3]
  rw[if_pos (by simp[h3]),hS];rfl
 ·have hS:Tn b=0:=by rw[Tn,if_neg h1,if_neg h2,if_neg h3]
  rw[if_neg (by rw[decide_eq_false h3];decide),hS];rfl
theorem Bvv(b:List UInt8)(hb:b.length≤1000000):Wv b=some (b++leB (Hv b).toNat 4):=by
 have h:∀k:Nat,(Ae (Ce (Hv b) k):UInt8)=UInt8.ofNat ((Hv b).toNat/2^k):=by
  intro k;rw[Ayn,Aoj]
 have h0:(Ae (Hv b):UInt8)=UInt8.ofNat (Hv b).toNat:=Ayn _
 have h1:=h 8
 have h2:=h 16
 have h3:=h 24
 rw[Wv,Bx8 b (by omega),Aa,Cl (by simp;omega),Aa,Cl (by simp;omega),Aa,h0,show(GI.toZ (8:UInt64)).toNat=8 from rfl,show(GI.toZ (16:UInt64)).toNat=16 from rfl,show(GI.toZ (24:UInt64)).toNat=24 from rfl,h1,h2,h3]
 simp only[leB,Nat.div_div_eq_div_mul,List.nil_append]
theorem Bf5(b:List UInt8):Oy b=some (Tn b):=by
 rw[Oy]
 by_cases h1:b.length<5
 ·rw[if_pos (by rw[Af,Ac];simp;omega),Tn,if_pos h1]
 rw[if_neg (by rw[Af,Ac];simp;omega)]
 by_cases h2:41254<b.length
 ·rw[if_pos (by rw[Am,Ac];simp;omega),Tn,if_neg h1,if_pos h2]
 have e4:Ak (Ac b) 4=((b.length-4:Nat):Int):=by rw[Ac,Bv (by omega) (by omega)];omega
 have hd:(b.drop (b.length-4)).length=4:=by simp;omega
 rw[if_neg (by rw[Am,Ac];simp;omega),e4,Cp (by omega) (by omega),Aa,show((b.length-4:Nat):Int).toNat=b.length-4 from rfl,Bvv _ (by simp;omega),Aa]
 have hlt:=(Hv (b.take (b.length-4))).toNat_lt
 have hiff:(b.take (b.length-4)++leB (Hv (b.take (b.length-4))).toNat 4 !=b)=decide ((Hv (b.take (b.length-4))).toNat≠Ee (b.drop (b.length-4))):=by
  rw[Bool.eq_iff_iff]
  simp only[bne_iff_ne,ne_eq,decide_eq_true_eq]
  constructor
  ·intro h e
   apply h
   have:leB (Hv (b.take (b.length-4))).toNat 4=b.drop (b.length-4):=Bt3 (by rw[My,hd]) (by rw[Bln,Nat.mod_eq_of_lt (by omega),e])
   rw[this,List.take_append_drop]
  ·intro h e
   apply h
   have hx:leB (Hv (b.take (b.length-4))).toNat 4=b.drop (b.length-4):=by
    have e2:b.take (b.length-4)++leB (Hv (b.take (b.length-4))).toNat 4=b.take (b.length-4)++b.drop (b.length-4):=by rw[e,List.take_append_drop]
    exact List.append_cancel_left e2
   rw[←hx,Bln,Nat.mod_eq_of_lt (by omega)]
 rw[hiff]
 by_cases h3:(Hv (b.take (b.length-4))).toNat≠Ee (b.drop (b.length-4))
 ·rw[if_pos (by simp[h3]),Tn,if_neg h1,if_neg h2,if_pos h3]
 ·rw[if_neg (by rw[decide_eq_false h3];decide),Tn,if_neg h1,if_neg h2,if_neg h3]
theorem Bqd{b:List UInt8}(h:Tn b=0):5≤b.length∧b.length≤41254:=by
 unfold Tn at h
 split at h
 ·simp at h
 ·split at h
  ·simp at h
  ·omega
theorem Bs9{c:Nat}(h1:1≤c)(h6:c≤6):Cn (4000:Int) (c:Int)=((4000/c:Nat):Int):=by
 have:c=1∨c=2∨c=3∨c=4∨c=5∨c=6:=by omega
 rcases this with rfl|rfl|rfl|rfl|rfl|rfl<;>rfl
theorem Cfh(p:List UInt8)(h:p.length≤41250):okB p (8*p.length):=⟨by omega,by omega,fun k h1 h2=>by omega⟩
theorem Af7{bits:Int}{ch n:Nat}{t:List Int32}(b:List UInt8)(hb:Ci bits)(ht:t.length=16)(h1:1≤ch)(h6:ch≤6)(n1:1≤n)(n2:n≤4000/ch):
  ∃l e,deframe_Decode (ch:Int) bits t (n:Int) b=some (l,e)∧cadenzaref21_Decode (ch:Int) bits t (n:Int) b=some (l,e)∧(e=0→cadenzaref18_Check bits l=some 0∧l.length≤4000∧l.length=n*ch)∧(e≠0→l=[]):=by
 have hn:n*ch≤4000:=by
  have:=Nat.mul_le_mul_right ch n2
  have h2:=Nat.div_mul_le_self 4000 ch
  omega
 have hq4:=Bs9 h1 h6
 generalize 4000/ch=mm at*
 have hck:Rr (ch:Int) bits=some 0:=by
  have hr:∃x y,Af3 bits=some (x,y,0):=⟨_,_,By4 hb⟩
  obtain⟨x,y,hr⟩:=hr
  rw[Rr,hr,Aa]
  simp only
  rw[if_neg (by simp[Ag,Af,Am];omega)]
 have hh:=Atb bits
 have hasked:Ml (ch:Int) bits (n:Int)=some 0:=by
  rw[Ml,Yj,if_neg (by simp[Af,Am];omega),Aza hb,Aa,if_neg (by rw[Al];simp;omega),Aa,if_neg (by simp[Ag,Af];omega),Db (by rw[Ag];simp;omega),Aa,hq4,if_neg (by rw[Am];simp;omega)]
 rw[deframe_Decode,cadenzaref21_Decode,Qu,hck,hasked,Aa,Aa,if_neg (by rw[Ag];simp),if_neg (by rw[Af];simp;omega),Db (by rw[Ag];simp;omega),Aa,hq4,if_neg (by rw[Am];simp;omega),if_neg (by rw[Ag];simp),Bn2,Bf5]
 by_cases hs:Tn b≠0
 ·rw[if_pos hs]
  simp only[Aa]
  rw[if_pos (by rw[Ag];simpa using hs),if_pos (by rw[Ag];simpa using hs)]
  exact⟨[],Tn b,rfl,rfl,fun e=>absurd e hs,fun _=>rfl⟩
 have hs0:Tn b=0:=by simpa using hs
 have hlen:=Bqd hs0
 have e4:Ak (Ac b) 4=((b.length-4:Nat):Int):=by rw[Ac,Bv (by omega) (by omega)];omega
 rw[if_neg hs,hs0]
 simp only[Aa]
 rw[if_neg (by rw[Ag];simp),if_neg (by rw[Ag];simp),e4,Cp (by omega) (by omega),Aa,show((b.length-4:Nat):Int).toNat=b.length-4 from rfl]
 have hpl:(b.take (b.length-4)).length=b.length-4:=by simp
 generalize b.take (b.length-4)=p at*
 have e8:Bd (8:Int) (Ac p)=((8*p.length:Nat):Int):=by rw[Ac,Hl (by omega) (by omega)];omega
 have hp:=Cfh p (by omega)
 have hv:=values_eq hp h1 h6 hn
 have hr:=Bvm (N:=8*p.length) (p:=p) rfl (by omega) h1 h6 hn
 have hat:=Bei (ch:=ch) (p:=p) (N:=8*p.length) (n*ch) 0 [] (by omega)
 rw[Bmi,if_neg (by rw[Am,Ac];simp;omega),Ft,Cl (by simp;omega),Aa,Aa,Aa,List.nil_append,e8]
 simp only
 rw[if_neg (by rw[Ag];simp),hv,hr,Aa,Aa]
 generalize Vz ch p (8*p.length) (n*ch) 0 []=V at*
 obtain⟨v,at',e⟩:=V
 simp only at*
 by_cases he:e≠0
 ·rw[if_pos he,if_pos he]
  simp only
  rw[if_pos (by rw[Ag];simpa using he),Hn,Hy,if_pos (by rw[Ag];simpa using he)]
  exact⟨[],e,rfl,rfl,fun h=>absurd h he,fun _=>rfl⟩
 have he0:e=0:=by simpa using he
 have hvl:=hat.2.2 he0
 simp only[List.length_nil,Nat.zero_add]at hvl
 rw[if_neg he,if_neg he]
 simp only
 rw[if_neg (by rw[Ag];simp),Bv (by omega) (by omega),show((8*p.length:Nat):Int)-(at':Int)=((8*p.length-at':Nat):Int) by omega,Hn,Hy]
 by_cases h7:7<8*p.length-at'
 ·have hE:(if 7<8*p.length-at'∨Ck p at' (8*p.length-at')≠0 then(12:Int)else 0)=12:=if_pos (.inl h7)
  rw[if_pos (by rw[Dq];simp;omega),hE,if_pos (by decide)]
  exact⟨[],12,rfl,rfl,fun h=>absurd h (by decide),fun _=>rfl⟩
 rw[if_neg (by rw[Dq];simp;omega),Bcj hp at' _ (by omega),if_neg (by omega),Aa]
 have hz:Ay (Vr p at' (8*p.length-at')) (0:UInt64)=decide (Ck p at' (8*p.length-at')≠0):=by
  rw[Ait,Bool.eq_iff_iff]
  simp only[bne_iff_ne,ne_eq,←UInt64.toNat_inj,decide_eq_true_eq]
  rw[Aav p _ _ (by omega)];rfl
 simp only
 rw[hz]
 by_cases hv0:Ck p at' (8*p.length-at')≠0
 ·have hE:(if 7<8*p.length-at'∨Ck p at' (8*p.length-at')≠0 then(12:Int)else 0)=12:=if_pos (.inr hv0)
  rw[if_pos (by simp[hv0]),hE,if_pos (by decide)]
  exact⟨[],12,rfl,rfl,fun h=>absurd h (by decide),fun _=>rfl⟩
 have hm:v.length %ch=0:=by rw[hvl];exact Nat.mul_mod_left n ch
 obtain⟨l,e,g1,g2,g3,g4,g5⟩:=Az2 (v:=v) hb ht h1 h6 (by omega) hm
 have hE:(if 7<8*p.length-at'∨Ck p at' (8*p.length-at')≠0 then(12:Int)else 0)=0:=if_neg (by omega)
 rw[if_neg (by rw[decide_eq_false hv0];decide),hE,if_neg (by decide),g1,g3,Aa,Aa,g2]
 by_cases hl:e≠0
 ·rw[if_pos hl]
  exact⟨[],e,rfl,rfl,fun h=>absurd h hl,fun _=>rfl⟩
 ·rw[if_neg hl]
  have hl0:e=0:=by simpa using hl
  exact⟨l,0,rfl,rfl,fun _=>⟨by rw[g4,hl0],by omega,by omega⟩,fun e=>absurd rfl e⟩
end Go.Pl
set_option linter.unusedVariables false
set_option linter.unusedSimpArgs false
namespace Go.Pl
open Go Go.Lv
def P64:Nat:=4823603603198064275
def Ahv(s:Nat):Nat:=(2*s %18446744073709551616)^^^ (s/9223372036854775808*P64)
theorem Aor{s:Nat}(h:s<18446744073709551616):Ahv s<18446744073709551616:=by
 have h1:s/9223372036854775808=0∨s/9223372036854775808=1:=by omega
 exact Nat.xor_lt_two_pow (n:=64) (Nat.mod_lt _ (by decide)) (by rcases h1 with e|e<;>rw[e]<;>decide)
theorem Bt2(x y:Nat):(x^^^y)/9223372036854775808=(x/9223372036854775808)^^^ (y/9223372036854775808):=by
 have:=Nat.shiftRight_xor_distrib (a:=x) (b:=y) (i:=63)
 simpa [Nat.shiftRight_eq_div_pow]using this
theorem Buf(x y:Nat):2*(x^^^y) %18446744073709551616=(2*x %18446744073709551616)^^^ (2*y %18446744073709551616):=by
 have h1:=Nat.shiftLeft_xor_distrib (a:=x) (b:=y) (i:=1)
 have h2:=Nat.xor_mod_two_pow (a:=2*x) (b:=2*y) (n:=64)
 have e:2*(x^^^y)=(2*x)^^^ (2*y):=by simpa [Nat.shiftLeft_eq,Nat.mul_comm]using h1
 rw[e];exact h2
theorem Cea{a b:Nat}(ha:a=0∨a=1)(hb:b=0∨b=1)(p:Nat):(a^^^b)*p=(a*p)^^^ (b*p):=by
 rcases ha with rfl|rfl<;>rcases hb with rfl|rfl<;>simp
theorem Cjn(a b c d:Nat):(a^^^b)^^^ (c^^^d)=(a^^^c)^^^ (b^^^d):=by
 rw[Nat.xor_assoc,Nat.xor_assoc,←Nat.xor_assoc b c d,Nat.xor_comm b c,Nat.xor_assoc c b d]
theorem Bs0{x y:Nat}(hx:x<18446744073709551616)(hy:y<18446744073709551616):Ahv (x^^^y)=Ahv x^^^Ahv y:=by
 rw[Ahv,Ahv,Ahv,Buf,Bt2,Cea (by omega) (by omega),Cjn]
def Ng:Nat→Nat→Nat
 |0,s=>s
 |k+1,s=>Ng k (Ahv s)
theorem Bb4:∀(k:Nat) {s:Nat},s<18446744073709551616→Ng k s<18446744073709551616
 |0,_,h=>h
 |k+1,_,h=>Bb4 k (Aor h)
theorem Bim:∀(k:Nat) {x y:Nat},x<18446744073709551616→y<18446744073709551616→Ng k (x^^^y)=Ng k x^^^Ng k y
 |0,_,_,_,_=>rfl
 |k+1,x,y,hx,hy=>by rw[Ng,Bs0 hx hy,Bim k (Aor hx) (Aor hy)];rfl
theorem Bgl:∀(k h:Nat),2^k*h<18446744073709551616→Ng k h=2^k*h
 |0,h,_=>by simp[Ng]
 |k+1,h,hl=>by
  have hpos:0<2^k:=Nat.pow_pos (by omega)
  rw[Nat.pow_succ,Nat.mul_assoc]at hl
  have h2:2*h<18446744073709551616:=Nat.lt_of_le_of_lt (Nat.le_mul_of_pos_left _ hpos) hl
  have:Ahv h=2*h:=by rw[Ahv,Nat.mod_eq_of_lt h2,show h/9223372036854775808=0 by omega];simp
  rw[Ng,this,Bgl k _ hl,Nat.pow_succ,Nat.mul_assoc]
def Atm(s c:Nat):Nat:=Ng 8 (s^^^ (c*72057594037927936))
theorem c56{c:Nat}(hc:c<256):c*72057594037927936<18446744073709551616:=by omega
theorem Bb1{s c:Nat}(h:s<18446744073709551616)(hc:c<256):Atm s c<18446744073709551616:=Bb4 8 (Nat.xor_lt_two_pow (n:=64) h (c56 hc))
theorem Cd1(s:Nat):s=(s/72057594037927936*72057594037927936)^^^ (s %72057594037927936):=by
 have h1:s %72057594037927936<2^56:=Nat.mod_lt _ (by decide)
 have:=Nat.two_pow_add_eq_or_of_lt h1 (s/72057594037927936)
 have h2:2^56*(s/72057594037927936)|||s %72057594037927936=(2^56*(s/72057594037927936))^^^ (s %72057594037927936):=by
  apply Nat.eq_of_testBit_eq;intro i
  rw[Nat.testBit_or,Nat.testBit_xor]
  by_cases hi:i<56
  ·have:(2^56*(s/72057594037927936)).testBit i=false:=by rw[Nat.testBit_two_pow_mul];simp;omega
   rw[this];simp
  ·have:(s %72057594037927936).testBit i=false:=Nat.testBit_lt_two_pow (Nat.lt_of_lt_of_le h1 (Nat.pow_le_pow_right (by omega) (by omega)))
   rw[this];simp
 rw[Nat.mul_comm (s/72057594037927936)]
 show s=(2^56*(s/72057594037927936))^^^ _
 rw[←h2,←this]
 have:=Nat.div_add_mod s 72057594037927936
 show s=72057594037927936*_+_
 omega
theorem Bwn(a c:Nat):(a^^^c)*72057594037927936=(a*72057594037927936)^^^ (c*72057594037927936):=by
 have h1:=Nat.shiftLeft_xor_distrib (a:=a) (b:=c) (i:=56)
 simpa [Nat.shiftLeft_eq]using h1
theorem Bnc{s c:Nat}(h:s<18446744073709551616)(hc:c<256):Atm s c=(256*s %18446744073709551616)^^^Ng 8 (((s/72057594037927936)^^^c)*72057594037927936):=by
 have hs:s/72057594037927936<2^8:=by show _<256;omega
 have hx:(s/72057594037927936)^^^c<256:=Nat.xor_lt_two_pow (n:=8) hs (by simpa using hc)
 have hl:s %72057594037927936<72057594037927936:=Nat.mod_lt _ (by decide)
 rw[Atm]
 conv=>lhs;rw[Cd1 s]
 rw[Nat.xor_comm (s/72057594037927936*72057594037927936),Nat.xor_assoc,←Bwn,Bim 8 (by omega) (c56 hx),Bgl 8 _ (by show 256*_<_;omega)]
 congr 1
 show 256*(s %72057594037927936)=_
 omega
def Bip(s:Nat)(l:List UInt8):Nat:=l.foldl (fun s c=>Atm s c.toNat) s
theorem Bjg{n:Nat}(h:n<18446744073709551616):(UInt64.ofNat n).toNat=n:=by rw[UInt64.toNat_ofNat'];exact Nat.mod_eq_of_lt h
theorem Chf(s:UInt64)(bit:Nat)(hb:bit=0∨bit=1):Ac8 s (bit:Int)=some (UInt64.ofNat ((2*s.toNat %18446744073709551616)^^^ (((s.toNat/9223372036854775808)^^^bit)*P64))):=by
 have hs:=s.toNat_lt
 have ht:s.toNat/9223372036854775808=0∨s.toNat/9223372036854775808=1:=by omega
 have e1:(Bd s (2:UInt64)).toNat=2*s.toNat %18446744073709551616:=by
  rw[Af9,UInt64.toNat_mul];show s.toNat*2 %_=_;rw[Nat.mul_comm]
 have hlt:2*s.toNat %18446744073709551616<18446744073709551616:=Nat.mod_lt _ (by decide)
 have ey:Wz (Bd s (2:UInt64)) (4823603603198064275:UInt64)=UInt64.ofNat ((2*s.toNat %18446744073709551616)^^^P64):=by
  apply UInt64.toNat_inj.1
  rw[Bgc,UInt64.toNat_xor,e1,Bjg (Nat.xor_lt_two_pow (n:=64) hlt (by decide))];rfl
 have en:Bd s (2:UInt64)=UInt64.ofNat (2*s.toNat %18446744073709551616):=by
  apply UInt64.toNat_inj.1
  rw[e1,Bjg hlt]
 have eg:Ls s (9223372036854775808:UInt64)=decide (s.toNat/9223372036854775808=1):=by
  rw[Ceg,decide_eq_decide]
  show 9223372036854775808≤s.toNat↔_
  omega
 have hp:∀b:Bool,Uz s b=some (if b=true then UInt64.ofNat ((2*s.toNat %18446744073709551616)^^^P64)else UInt64.ofNat (2*s.toNat %18446744073709551616)):=by
  intro b
  rw[Uz,Agz,ey,en];cases b<;>rfl
 rw[Ac8,Agp,hp,hp,eg]
 rcases hb with rfl|rfl<;>rcases ht with h|h<;>rw[h]<;>simp[Al]
theorem Bdg(c:UInt8):∀(j q:Nat) (s:UInt64),j≤8→j<q→Kb c q s ((2^j/2:Nat):Int)=some (UInt64.ofNat (Ng j (s.toNat^^^ (c.toNat %2^j*2^(64-j)))))
 |0,q+1,s,_,_=>by
  rw[Kb,Vp,if_neg (by rw[Am];simp),Ag4,Agr]
  simp[Ng,Nat.mod_one]
 |j+1,q+1,s,hj,hq=>by
  have hc:=c.toNat_lt
  have hs:=s.toNat_lt
  have hj2:2^j≤2^7:=Nat.pow_le_pow_right (by omega) (by omega)
  have hpos:0<2^j:=Nat.pow_pos (by omega)
  have e1:2^(j+1)/2=2^j:=by rw[Nat.pow_succ];omega
  have e2:Cn ((2^j:Nat):Int) 2=((2^j/2:Nat):Int):=by
   generalize 2^j=K at*
   rw[Ah1,Int.tdiv_eq_ediv_of_nonneg (by omega),Cg (by omega) (by omega)];omega
  have e3:Gs (Cn (Ae c:Int) ((2^j:Nat):Int)) (2:Int)=((c.toNat/2^j %2:Nat):Int):=by
   have hX:=Nat.div_le_self c.toNat (2^j)
   rw[Ajb,Ah1,←Int.ofNat_tdiv]
   generalize c.toNat/2^j=X at*
   rw[Cg (by omega) (by omega),Gs,Int.tmod_eq_emod_of_nonneg (by omega)];omega
  have hbit:c.toNat/2^j %2=0∨c.toNat/2^j %2=1:=by omega
  rw[Kb,Vp,e1,if_pos (by rw[Am,decide_eq_true_eq];omega),Db (by rw[Ag,bne_iff_ne];omega),Aa,e3,Chf s _ hbit,Aa,e2,Bdg c j q _ (by omega) (by omega)]
  congr 2
  rw[Ng]
  congr 1
  have hx:c.toNat %2^(j+1)*2^(64-(j+1))=(c.toNat/2^j %2)*9223372036854775808+c.toNat %2^j*2^(63-j):=by
   have h63:(9223372036854775808:Nat)=2^j*2^(63-j):=by rw[←Nat.pow_add,show j+(63-j)=63 by omega]
   rw[Nat.mod_pow_succ,h63,show 64-(j+1)=63-j by omega,Nat.add_mul,Nat.add_comm,Nat.mul_assoc,Nat.mul_left_comm]
  have hr:c.toNat %2^j<2^j:=Nat.mod_lt _ hpos
  have hb63:c.toNat %2^j*2^(63-j)<9223372036854775808:=by
   have h63:(9223372036854775808:Nat)=2^j*2^(63-j):=by rw[←Nat.pow_add,show j+(63-j)=63 by omega]
   rw[h63];exact Nat.mul_lt_mul_of_pos_right hr (Nat.pow_pos (by omega))
  have h64:c.toNat %2^j*2^(64-j)=2*(c.toNat %2^j*2^(63-j)):=by
   rw[show 64-j=(63-j)+1 by omega,Nat.pow_succ,←Nat.mul_assoc,Nat.mul_comm]
  rw[hx,h64]
  generalize c.toNat %2^j*2^(63-j)=R at*
  generalize c.toNat/2^j %2=b at*
  have ht:s.toNat/9223372036854775808=0∨s.toNat/9223372036854775808=1:=by omega
  have hp:((s.toNat/9223372036854775808^^^b)*P64)<18446744073709551616:=by
   rcases ht with h|h<;>rcases hbit with h2|h2<;>rw[h,h2]<;>decide
  rw[Bjg (Nat.xor_lt_two_pow (n:=64) (Nat.mod_lt _ (by decide)) hp),Ahv,Buf,Bt2,show(b*9223372036854775808+R)/9223372036854775808=b by omega,show 2*(b*9223372036854775808+R) %18446744073709551616=2*R by omega,Nat.xor_assoc,Nat.xor_assoc,Nat.xor_comm (2*R)]
theorem Cg5(c:UInt8)(s:UInt64):Al7 s c=some (UInt64.ofNat (Atm s.toNat c.toNat)):=by
 have h:=Bdg c 8 FUEL s (Nat.le_refl _) (by have:=Ao;omega)
 have hc:=c.toNat_lt
 rw[Nat.mod_eq_of_lt (show c.toNat<2^8 by simpa using hc)]at h
 exact h
theorem Axf(b:List UInt8)(hb:b.length<4611686018427387904):∀(j i q:Nat) (s:UInt64),i+j=b.length→j<q→Hr b q s (i:Int)=some (UInt64.ofNat (Bip s.toNat (b.drop i)))
 |0,i,q+1,s,hi,_=>by
  rw[Hr,Qp,if_neg (by rw[Af,Ac];simp;omega),show i=b.length by omega,List.drop_length]
  simp[Aba,Ade,Bip]
 |j+1,i,q+1,s,hi,hq=>by
  have hlt:i<b.length:=by omega
  have hc:=b[i].toNat_lt
  rw[Hr,Qp,if_pos (by rw[Af,Ac];simp;omega),By hlt,Aa,Cg5,Aa,Aj (by omega) (by omega)]
  have h:=Axf b hb j (i+1) q (UInt64.ofNat (Atm s.toNat b[i].toNat)) (by omega) (by omega)
  rw[show((i:Int)+1)=((i+1:Nat):Int) by omega,h,drop_cons hlt,Bjg (Bb1 s.toNat_lt (by simpa using hc))]
  rfl
def Wo(b:List UInt8):UInt64:=UInt64.ofNat (Bip 0 b)
theorem Bo1(b:List UInt8)(hb:b.length≤100000):Xj 0 b=some (Wo b):=
 Axf b (by omega) b.length 0 FUEL 0 (by omega) (by have:=Ao;omega)
theorem Bsj(c:UInt64):Wz (Dn c (GI.toZ (1:UInt64)).toNat) (Bd (4823603603198064275:UInt64) (Ce c (GI.toZ (63:UInt64)).toNat))=UInt64.ofNat (Ahv c.toNat):=by
 have hc:=c.toNat_lt
 apply UInt64.toNat_inj.1
 have h1:(Dn c (GI.toZ (1:UInt64)).toNat).toNat=2*c.toNat %18446744073709551616:=by
  rw[show(GI.toZ (1:UInt64)).toNat=1 from rfl,Ao3,Nat.mul_comm]
 have h2:(Bd (4823603603198064275:UInt64) (Ce c (GI.toZ (63:UInt64)).toNat)).toNat=c.toNat/9223372036854775808*P64:=by
  rw[show(GI.toZ (63:UInt64)).toNat=63 from rfl,Af9,UInt64.toNat_mul,Agc]
  show 4823603603198064275*(c.toNat/9223372036854775808) %18446744073709551616=_
  have h1:c.toNat/9223372036854775808=0∨c.toNat/9223372036854775808=1:=by omega
  rcases h1 with e|e<;>rw[e]<;>decide
 rw[Bgc,UInt64.toNat_xor,h1,h2,Bjg (Aor hc)];rfl
theorem Bc9(bk16:Int→List UInt64→Option (UInt64×Int))(s:UInt64)(b:List UInt8)(x:Int)(t:List UInt64):∀(j i q:Nat) (c:UInt64),i+j=8→j<q→
  Pk bk16 s b x t q c (i:Int)=Aca bk16 s b x (UInt64.ofNat (Ng j c.toNat)) t
 |0,i,q+1,c,hi,_=>by
  obtain rfl:i=8:=by omega
  rw[Pk,Abr,if_neg (by rw[Af];simp),Ng,UInt64.ofNat_toNat]
 |j+1,i,q+1,c,hi,hq=>by
  rw[Pk,Abr,if_pos (by rw[Af];simp;omega),Bsj,Aj (by omega) (by omega),show((i:Int)+1)=((i+1:Nat):Int) by omega,Bc9 bk16 s b x t j (i+1) q _ (by omega) (by omega),Bjg (Aor c.toNat_lt)];rfl
def Amb(n:Nat):List UInt64:=(List.range n).map fun i=>UInt64.ofNat (Ng 8 (i*72057594037927936))
theorem Bic(s:UInt64)(b:List UInt8):∀(j i q:Nat),i+j=256→j<q→Ma s b q (i:Int) (Amb i++List.replicate j 0)=Adc s b (Amb 256)
 |0,i,q+1,hi,_=>by
  obtain rfl:i=256:=by omega
  rw[Ma,Ab8,if_neg (by rw[Af];simp)];simp
 |j+1,i,q+1,hi,hq=>by
  have hlen:(Amb i++List.replicate (j+1) 0).length=i+(j+1):=by simp[Amb]
  rw[Ma,Ab8,if_pos (by rw[Af];simp;omega),Aj8]
  have h:=Bc9 (Ma s b q) s b (i:Int) (Amb i++List.replicate (j+1) 0) 8 0 FUEL (Dn (Ae (i:Int):UInt64) (GI.toZ (56:UInt64)).toNat) (by omega) (by have:=Ao;omega)
  rw[show((0:Int))=((0:Nat):Int)from rfl,h,Aca,Akn,By (by rw[hlen];omega),Aa,Xd _ (by rw[hlen];omega),Aa,Ak5,At8,Aj (by omega) (by omega)]
  have e:(Dn (Ae (i:Int):UInt64) (GI.toZ (56:UInt64)).toNat).toNat=i*72057594037927936:=by
   rw[Ao3,Aad,Bjg (by omega)]
   show i*72057594037927936 %18446744073709551616=_
   omega
  rw[e,List.replicate_succ,Avw (by simp[Amb])]
  have h2:=Bic s b j (i+1) q (by omega) (by omega)
  have h3:Amb (i+1)=Amb i++[UInt64.ofNat (Ng 8 (i*72057594037927936))]:=by simp[Amb,List.range_succ]
  rw[h3]at h2
  rw[show((i:Int)+1)=((i+1:Nat):Int) by omega,←h2]
  simp
theorem Bvy{i:Nat}(h:i<256):getI (Amb 256) (i:Int)=some (UInt64.ofNat (Ng 8 (i*72057594037927936))):=by
 rw[By (by simpa [Amb]using h)];simp[Amb]
theorem Bot(s:UInt64)(c:UInt8):getI (Amb 256) (GI.toZ (Wz (Ae (Ce s (GI.toZ (56:UInt64)).toNat):UInt8) c))=some (UInt64.ofNat (Ng 8 (((s.toNat/72057594037927936)^^^c.toNat)*72057594037927936))):=by
 have hs:=s.toNat_lt
 have e:GI.toZ (Wz (Ae (Ce s (GI.toZ (56:UInt64)).toNat):UInt8) c)=(((s.toNat/72057594037927936)^^^c.toNat:Nat):Int):=by
  have e2:((Ae (Ce s (GI.toZ (56:UInt64)).toNat):UInt8)).toNat=s.toNat/72057594037927936:=by
   rw[Aqb,UInt8.toNat_ofNat',Agc]
   show s.toNat/72057594037927936 %256=_
   omega
  rw[Za,Bt1,UInt8.toNat_xor,e2]
 rw[e,Bvy]
 exact Nat.xor_lt_two_pow (n:=8) (by show _<256;omega) (by simpa using c.toNat_lt)
theorem Bmg(s:UInt64)(c:UInt8):Wz (Dn s (GI.toZ (8:UInt64)).toNat) (UInt64.ofNat (Ng 8 (((s.toNat/72057594037927936)^^^c.toNat)*72057594037927936)))=UInt64.ofNat (Atm s.toNat c.toNat):=by
 have hs:=s.toNat_lt
 have hc:c.toNat<256:=by simpa using c.toNat_lt
 apply UInt64.toNat_inj.1
 have hlt:Ng 8 (((s.toNat/72057594037927936)^^^c.toNat)*72057594037927936)<18446744073709551616:=Bb4 8 (c56 (Nat.xor_lt_two_pow (n:=8) (by show _<256;omega) (by simpa using c.toNat_lt)))
 have e:(GI.toZ (8:UInt64)).toNat=8:=rfl
 rw[e,Bgc,UInt64.toNat_xor,Ao3,Bjg hlt,Bjg (Bb1 hs hc),Bnc hs hc,Nat.mul_comm s.toNat]
theorem Bdk(b:List UInt8)(s0:UInt64)(hb:b.length<4611686018427387904):∀(j i q:Nat) (s:UInt64),i+j=b.length→j<q→Ps b s0 (Amb 256) q s (i:Int)=some (UInt64.ofNat (Bip s.toNat (b.drop i)),0)
 |0,i,q+1,s,hi,_=>by
  rw[Ps,Acu,if_neg (by rw[Af,Ac];simp;omega),show i=b.length by omega,List.drop_length]
  simp[Alu,Akd,Aj2,Avj,Bip]
 |j+1,i,q+1,s,hi,hq=>by
  have hlt:i<b.length:=by omega
  have hc:=b[i].toNat_lt
  rw[Ps,Acu,if_pos (by rw[Af,Ac];simp;omega),By hlt,Aa,Bot,Aa,Aa,Bmg,Aj (by omega) (by omega)]
  have h:=Bdk b s0 hb j (i+1) q (UInt64.ofNat (Atm s.toNat b[i].toNat)) (by omega) (by omega)
  rw[show((i:Int)+1)=((i+1:Nat):Int) by omega,h,drop_cons hlt,Bjg (Bb1 s.toNat_lt (by simpa using hc))]
  rfl
theorem Bpf(b:List UInt8)(hb:b.length≤100000):Apf b=some (Wo b,0):=by
 have h:=Bic 0 b 256 0 FUEL (by omega) (by have:=Ao;omega)
 have h2:=Bdk b 0 (by omega) b.length 0 FUEL 0 (by omega) (by have:=Ao;omega)
 have hn:Aqa 0 b=some (Wo b,0):=by
  rw[Aqa,Anc,if_neg (by rw[Am,Ac];simp;omega),Ak3]
  refine Eq.trans h ?_
  rw[Adc,Ajp,Alc]
  exact h2
 rw[Apf,hn,Aa]
theorem Bbv(p:List UInt8)(hp:p.length≤64):Aci p=some (leB (Wo p).toNat 8,0):=by
 rw[Aci,Bbe,if_neg (by rw[Am,Ac];simp;omega),Bpf p (by omega),Aa,Aa]
 simp only
 have h:=Bo4 (Wo p) 8 (by omega) (by omega) (by simpa using(Wo p).toNat_lt)
 rw[if_neg (by rw[Ag];simp)]
 exact congrArg (fun o=>Option.bind o fun x:List UInt8×Int=>some (x.1,x.2)) h
theorem Apa(p:List UInt8)(hp:p.length≤64):Jz p=some (leB (Wo p).toNat 8):=by
 have h:=Bgq (Wo p) 8 (by omega)
 rw[Jz,Ama,Bo1 p (by omega),Aa,Aa]
 exact congrArg (fun o=>Option.bind o fun l=>some l) h
def s8(n:Nat):Int32:=Int32.ofInt (if n<128 then(n:Int)else(n:Int)-256)
def Am2(d:UInt64)(n:Nat):List Int32:=(List.range n).map fun i=>s8 (d.toNat/256^i %256)
theorem Apg(d:UInt64)(n:Nat):(Am2 d n).length=n:=by simp[Am2]
theorem Bix(d:UInt64)(n:Nat):Am2 d (n+1)=Am2 d n++[s8 (d.toNat/256^n %256)]:=by simp[Am2,List.range_succ]
theorem bm8(z:Nat):(z:Int).bmod Int8.size=if z %256<128 then((z %256:Nat):Int)else((z %256:Nat):Int)-256:=by
 rw[show Int8.size=256 from rfl,Int.bmod_def]
 split<;>split<;>omega
theorem Buy(d:UInt64):∀(j i q:Nat),i+j=8→j<q→Ael d q (i:Int) (Am2 d i++List.replicate (16-i) 0)=some (Am2 d 8++List.replicate 8 0)
 |0,i,q+1,hi,_=>by
  obtain rfl:i=8:=by omega
  rw[Ael,Aqu,if_neg (by rw[Af];simp)];rfl
 |j+1,i,q+1,hi,hq=>by
  have hlen:(Am2 d i++List.replicate (16-i) 0).length=16:=by simp[Apg];omega
  have ih:=Buy d j (i+1) q (by omega) (by omega)
  have e8:Bd (8:Int) (i:Int)=((8*i:Nat):Int):=by rw[Hl (by omega) (by omega)];omega
  have ev:(Ae (Ae (Ce d (GI.toZ (((8*i:Nat):Int))).toNat):Int8):Int32)=s8 (d.toNat/256^i %256):=by
   have e1:(Ce d (GI.toZ (((8*i:Nat):Int))).toNat).toNat=d.toNat/256^i:=by
    rw[show(GI.toZ (((8*i:Nat):Int))).toNat=8*i from rfl,Agc,Nat.pow_mul]
   show Int32.ofInt (Int8.ofInt ((Ce d (GI.toZ (((8*i:Nat):Int))).toNat).toNat:Int)).toInt=_
   rw[e1,s8,Int8.toInt_ofInt,bm8]
  rw[Ael,Aqu,if_pos (by rw[Af];simp;omega),e8,Db (by rw[Dq];simp;omega),Aa,ev,By (by omega),Aa,Xd _ (by omega),Aa,Aj (by omega) (by omega),show 16-i=(15-i)+1 by omega,List.replicate_succ,Avw (Apg d i)]
  rw[Bix,show 16-(i+1)=15-i by omega,List.append_assoc]at ih
  exact ih
theorem Cbk(d:UInt64):∀(j i q:Nat) (e:UInt64),i+j=8→j<q→e.toNat=d.toNat/256^i→Jj q e (i:Int) (Am2 d i++List.replicate (16-i) 0)=some (Am2 d 8++List.replicate 8 0)
 |0,i,q+1,e,hi,_,he=>by
  obtain rfl:i=8:=by omega
  rw[Jj,Yp,if_neg (by rw[Af];simp)];rfl
 |j+1,i,q+1,e,hi,hq,he=>by
  have hlen:(Am2 d i++List.replicate (16-i) 0).length=16:=by simp[Apg];omega
  have hq2:(Cn e (256:UInt64)).toNat=d.toNat/256^(i+1):=by
   rw[Azb,UInt64.toNat_div,he,Nat.pow_succ,←Nat.div_div_eq_div_mul];rfl
  have ih:=Cbk d j (i+1) q (Cn e (256:UInt64)) (by omega) (by omega) hq2
  have ev:(Ae (Aao e (256:UInt64)):Int32)=Int32.ofInt ((d.toNat/256^i %256:Nat):Int):=by
   show Int32.ofInt ((Aao e (256:UInt64)).toNat:Int)=_
   rw[Bps,UInt64.toNat_mod,he];rfl
  have hz:d.toNat/256^i %256<256:=Nat.mod_lt _ (by omega)
  have et:(Int32.ofInt ((d.toNat/256^i %256:Nat):Int)).toInt=((d.toNat/256^i %256:Nat):Int):=by
   rw[Int32.toInt_ofInt,Int.bmod_eq_of_le (by show -(4294967296/2:Int)≤_;omega) (by show _<(4294967296+1)/2;omega)]
  have hp8:∀x:Int32,x=s8 (d.toNat/256^i %256)→Yv (Jj q) e (i:Int) (Am2 d i++List.replicate (16-i) 0) x=some (Am2 d 8++List.replicate 8 0):=by
   intro x hx
   rw[Yv,Aj3,hx,By (by omega),Aa,Xd _ (by omega),Aa,Aj (by omega) (by omega),show 16-i=(15-i)+1 by omega,List.replicate_succ,Avw (Apg d i)]
   rw[Bix,show 16-(i+1)=15-i by omega,List.append_assoc]at ih
   exact ih
  rw[Jj,Yp,if_pos (by rw[Af];simp;omega),ev,Bq4,et,show(127:Int32).toInt=127 from rfl]
  by_cases h:d.toNat/256^i %256<128
  ·rw[if_neg (by simp only[decide_eq_true_eq];omega)]
   exact hp8 _ (by rw[s8,if_pos h])
  ·rw[if_pos (by simp only[decide_eq_true_eq];omega)]
   refine hp8 _ ?_
   rw[s8,if_neg h,Be0,Int32.ofInt_sub];rfl
def tapsOf(p:List UInt8):List Int32:=Am2 (Wo p) 8++List.replicate 8 0
theorem Qf(p:List UInt8):(tapsOf p).length=16:=by simp[tapsOf,Apg]
theorem Bce(p:List UInt8)(hp:p.length≤64):Nl p=some (tapsOf p,0):=by
 have h:=Buy (Wo p) 8 0 FUEL (by omega) (by have:=Ao;omega)
 have h2:Bmq (Wo p)=some (tapsOf p):=h
 rw[Nl,if_neg (by rw[Am,Ac];simp;omega),Bpf p (by omega),Aa]
 simp only
 rw[if_neg (by rw[Ag];simp),h2,Aa]
theorem Alm(p:List UInt8)(hp:p.length≤64):Kh p=some (tapsOf p,0):=by
 have h:=Cbk (Wo p) 8 0 FUEL (Wo p) (by omega) (by have:=Ao;omega) (by simp)
 have h2:Ar7 (Wo p)=some (tapsOf p):=h
 rw[Kh,if_neg (by rw[Am,Ac];simp;omega),Aoe,Amz,if_neg (by rw[Am,Ac];simp;omega),Bo1 p (by omega),Aa,Aa,Aa]
 simp only
 rw[h2,Aa]
end Go.Pl
set_option linter.unusedVariables false
set_option linter.unusedSimpArgs false
namespace Go.Pl
open Go Go.Lv
def u8(z:Int):UInt8:=UInt8.ofNat (z %256).toNat
theorem Blo(z:Int):u8 (z %256)=u8 z:=by rw[u8,u8];congr 2;omega
def wB(bits:Int):Nat:=if bits=8 then 1 else if bits=16 then 2 else 3
theorem Cbh{bits:Int}(h:Ci bits):Cn bits 8=(wB bits:Int):=by obtain rfl|rfl|rfl:=h<;>rfl
theorem Bj2(bits:Int):1≤wB bits∧wB bits≤3:=by
 unfold wB;split; · omega
 ·split<;>omega
def Aee(bits:Int)(x:Int):List UInt8:=if bits=8 then [u8 (x+128)]else if bits=16 then [u8 x,u8 (x/256)]else [u8 x,u8 (x/256),u8 (x/65536)]
theorem Bn9(bits x:Int):(Aee bits x).length≤3:=by
 unfold Aee;split; · simp
 ·split<;>simp
theorem Cbi(x:Int32)(k:Nat)(hk:k≤32):(Ae (Ce x k):UInt8)=u8 (x.toInt.fdiv (2^k)):=by
 have h:=Acm x
 have e:Ce x k=Int32.ofInt (x.toInt.fdiv (2^k)):=by
  show Int32.ofInt (x.toInt.fdiv (2^min k 32))=_
  rw[Nat.min_eq_left hk]
 have hb: -2147483648≤x.toInt.fdiv (2^k)∧x.toInt.fdiv (2^k)<2147483648:=by
  have hpos:(0:Int)<2^k:=Int.pow_pos (by omega)
  rw[Int.fdiv_eq_ediv_of_nonneg _ (by omega)]
  constructor
  ·refine(Int.le_ediv_iff_mul_le hpos).2 ?_
   have:(1:Int)≤2^k:=by omega
   have h2: -2147483648*(2^k:Int)≤ -2147483648*1:=Int.mul_le_mul_of_nonpos_left (by omega) this
   omega
  ·refine Int.ediv_lt_of_lt_mul hpos ?_
   have:(1:Int)≤2^k:=by omega
   have h2:(2147483648:Int)*1≤2147483648*2^k:=Int.mul_le_mul_of_nonneg_left this (by omega)
   omega
 show UInt8.ofNat ((Ce x k).toInt %256).toNat=_
 rw[e,Int32.toInt_ofInt,Int.bmod_eq_of_le (by show -(4294967296/2:Int)≤_;omega) (by show _<(4294967296+1)/2;omega)];rfl
section
variable (bk:Int→List UInt8→Option (List UInt8×Int)) (l:List Int32)
theorem Bev{bits:Int}(h:Ci bits)(c:Int32)(x:Int)(i q:Nat)(acc:List UInt8)(hi:i<wB bits)(ha:acc.length≤100000):
  Ig bk bits l c x (q+1) (i:Int) acc=Ig bk bits l c x q ((i+1:Nat):Int) (acc++[u8 (c.toInt.fdiv (2^(8*i)))]):=by
 have hw:=Bj2 bits
 have e8:Bd (8:Int) (i:Int)=((8*i:Nat):Int):=by rw[Hl (by omega) (by omega)];omega
 rw[Ig,Yf,Cbh h,if_pos (by rw[Af];simp;omega),e8,Db (by rw[Dq];simp;omega),Aa,show(GI.toZ (((8*i:Nat):Int))).toNat=8*i from rfl,Cbi _ _ (by omega),Cl (by simp;omega),Aa,Aj (by omega) (by omega)];rfl
theorem Br0{bits:Int}(h:Ci bits)(c:Int32)(x:Int)(q:Nat)(acc:List UInt8):Ig bk bits l c x (q+1) ((wB bits:Nat):Int) acc=bk (Ad x 1) acc:=by
 rw[Ig,Yf,Cbh h,if_neg (by rw[Af];simp),Ahm,Arp]
theorem Chm{bits:Int}(h:Ci bits)(c:Int32)(x:Int)(acc:List UInt8)(ha:acc.length≤90000)(hr: -(hB bits)≤c.toInt∧c.toInt<hB bits):
  Kj bk bits l x acc (if bits=8 then Ad c (128:Int32)else c)=bk (Ad x 1) (acc++Aee bits c.toInt):=by
 have e:FUEL=(FUEL-4)+1+1+1+1:=by have:=Ao;omega
 have hc:=Acm c
 rw[Kj,Ahk,Ah2,e]
 have g0:=fun(c:Int32) q acc ha=>Bev bk l h c x 0 q acc (by have:=Bj2 bits;omega) ha
 obtain rfl|rfl|rfl:=h
 ·have hh:hB 8=128:=rfl
  rw[hh]at hr
  have e1:(Ad c (128:Int32)).toInt=c.toInt+128:=by
   show(Int32.ofInt (c.toInt+(128:Int32).toInt)).toInt=_
   rw[show(128:Int32).toInt=128 from rfl,Int32.toInt_ofInt,Int.bmod_eq_of_le (by show -(4294967296/2:Int)≤_;omega) (by show _<(4294967296+1)/2;omega)]
  have g1:=Br0 bk l (bits:=8) (.inl rfl) (Ad c (128:Int32)) x (FUEL-4+1+1)
  rw[if_pos rfl,show(0:Int)=((0:Nat):Int)from rfl,g0 _ _ _ (by omega)]
  refine Eq.trans (g1 _) ?_
  rw[e1,Aee,if_pos rfl]
  show bk _ (acc++[u8 ((c.toInt+128).fdiv 1)])=_
  rw[Int.fdiv_one]
 ·have g1:=fun q acc ha=>Bev bk l (bits:=16) (.inr (.inl rfl)) c x 1 q acc (by decide) ha
  have g2:=Br0 bk l (bits:=16) (.inr (.inl rfl)) c x (FUEL-4+1)
  rw[if_neg (by decide),show(0:Int)=((0:Nat):Int)from rfl,g0 _ _ _ (by omega),g1 _ _ (by simp;omega)]
  refine Eq.trans (g2 _) ?_
  rw[Aee,if_neg (by decide),if_pos rfl,List.append_assoc]
  show bk _ (acc++[u8 (c.toInt.fdiv 1),u8 (c.toInt.fdiv 256)])=_
  rw[Int.fdiv_one,Int.fdiv_eq_ediv_of_nonneg _ (by omega)]
 ·have g1:=fun q acc ha=>Bev bk l (bits:=24) (.inr (.inr rfl)) c x 1 q acc (by decide) ha
  have g2:=fun q acc ha=>Bev bk l (bits:=24) (.inr (.inr rfl)) c x 2 q acc (by decide) ha
  have g3:=Br0 bk l (bits:=24) (.inr (.inr rfl)) c x (FUEL-4)
  rw[if_neg (by decide),show(0:Int)=((0:Nat):Int)from rfl,g0 _ _ _ (by omega),g1 _ _ (by simp;omega),g2 _ _ (by simp;omega)]
  refine Eq.trans (g3 _) ?_
  rw[Aee,if_neg (by decide),if_neg (by decide),List.append_assoc,List.append_assoc]
  show bk _ (acc++[u8 (c.toInt.fdiv 1),u8 (c.toInt.fdiv 256),u8 (c.toInt.fdiv 65536)])=_
  rw[Int.fdiv_one,Int.fdiv_eq_ediv_of_nonneg _ (by omega),Int.fdiv_eq_ediv_of_nonneg _ (by omega)]
end
def bytesB(bits:Int)(l:List Int32):List UInt8:=l.flatMap fun x=>Aee bits x.toInt
theorem Afb(bits:Int):∀l:List Int32,(bytesB bits l).length≤3*l.length
 |[]=>by simp[bytesB]
 |x::l=>by
  have h1:=Afb bits l
  have h2:=Bn9 bits x.toInt
  simp only[bytesB,List.flatMap_cons,List.length_append,List.length_cons]at*
  omega
def inR(bits:Int)(l:List Int32):Prop:=∀x∈l, -(hB bits)≤x.toInt∧x.toInt<hB bits
theorem Bt8{bits:Int}(h:Ci bits)(l:List Int32)(hl:l.length≤4000)(hr:inR bits l):∀(j i q:Nat),i+j=l.length→j<q→Fp bits l q (i:Int) (bytesB bits (l.take i))=some (bytesB bits l,0)
 |0,i,q+1,hi,_=>by
  rw[Fp,Ya,if_neg (by rw[Af,Ac];simp;omega),List.take_of_length_le (by omega)];rfl
 |j+1,i,q+1,hi,hq=>by
  have hlt:i<l.length:=by omega
  have ih:=Bt8 h l hl hr j (i+1) q (by omega) (by omega)
  have hlen:=Afb bits (l.take i)
  have hx:=hr l[i] (List.getElem_mem _)
  have h1:=Chm (Fp bits l q) l h l[i] (i:Int) (bytesB bits (l.take i)) (by rw[List.length_take]at hlen;omega) hx
  rw[Fp,Ya,if_pos (by rw[Af,Ac];simp;omega),By hlt,Aa]
  have e:(if(geq bits (8:Int))=true then Kj (Fp bits l q) bits l (i:Int) (bytesB bits (l.take i)) (Ad l[i] (128:Int32))else Kj (Fp bits l q) bits l (i:Int) (bytesB bits (l.take i)) l[i])=Kj (Fp bits l q) bits l (i:Int) (bytesB bits (l.take i)) (if bits=8 then Ad l[i] (128:Int32)else l[i]):=by
   by_cases h8:bits=8
   ·rw[if_pos (by rw[Al];simpa using h8),if_pos h8]
   ·rw[if_neg (by rw[Al];simpa using h8),if_neg h8]
  rw[e,h1,Aj (by omega) (by omega)]
  rw[Ajh hlt]at ih
  have e2:bytesB bits (l.take i++[l[i]])=bytesB bits (l.take i)++Aee bits l[i].toInt:=by unfold bytesB;rw[List.flatMap_append,List.flatMap_singleton]
  rw[e2]at ih
  exact ih
theorem Av7{bits:Int}(h:Ci bits){l:List Int32}(hl:l.length≤4000)(hc:cadenzaref18_Check bits l=some 0):inR bits l:=by
 have hh:=Atb bits
 have key:∀(j i q:Nat),i+j=l.length→j<q→Az l (hB bits) q (i:Int)=some 0→∀k,i≤k→(hk:k<l.length)→ -(hB bits)≤l[k].toInt∧l[k].toInt<hB bits:=by
  intro j
  induction j with
  |zero=>intro i q hi hq _ k h1 h2;omega
  |succ j ih=>
   intro i q hi hq hs k h1 h2
   obtain⟨q,rfl⟩:∃k,q=k+1:=⟨q-1,by omega⟩
   rw[Az,Cy,if_pos (by rw[Af,Ac];simp;omega),By (by omega),Aa,Aa,Ek,Bmj,Cg (by omega) (by omega),Aj (by omega) (by omega),Af,Dq]at hs
   by_cases g1:l[i].toInt<0-hB bits
   ·rw[if_pos (by simpa using g1)]at hs;simp at hs
   ·rw[if_neg (by simpa using g1)]at hs
    by_cases g2:hB bits≤l[i].toInt
    ·rw[if_pos (by simpa using g2)]at hs;simp at hs
    ·rw[if_neg (by simpa using g2)]at hs
     by_cases hk:k=i
     ·subst hk;omega
     ·exact ih (i+1) q (by omega) (by omega) hs k (by omega) h2
 rw[cadenzaref18_Check,Gg,Aza h,Aa,if_neg (by rw[Al];simp;omega),if_neg (by rw[Am,Ac];simp;omega)]at hc
 have:=key l.length 0 FUEL (by omega) (by have:=Ao;omega) hc
 intro x hx
 obtain⟨k,hk,rfl⟩:=List.getElem_of_mem hx
 exact this k (by omega) hk
theorem Arb{bits:Int}(h:Ci bits){l:List Int32}(hl:l.length≤4000)(hc:cadenzaref18_Check bits l=some 0):width_Bytes bits l=some (bytesB bits l,0):=by
 have h1:=Bt8 h l hl (Av7 h hl hc) l.length 0 FUEL (by omega) (by have:=Ao;omega)
 rw[width_Bytes,Alg,Bi6 h l hl,hc,Aa,if_neg (by rw[Ag];simp)]
 exact h1
theorem Cep{bits:Int}(h:Ci bits)(x:Int32)(hr: -(hB bits)≤x.toInt∧x.toInt<hB bits):Ae0 bits x=some (Aee bits x.toInt):=by
 have hx:=Acm x
 have gu:∀z:Int,(Ae z:UInt8)=u8 z:=fun z=>rfl
 have hq:∀n:Int,0≤n→n≤20000000→Cn n (256:Int)=n/256∧Cn n (65536:Int)=n/65536:=by
  intro n h1 h2
  constructor<;>(rw[Ah1,Int.tdiv_eq_ediv_of_nonneg h1,Cg (by omega) (by omega)])
 have hm:∀n:Int,0≤n→Gs n (256:Int)=n %256:=fun n h1=>by rw[Gs,Int.tmod_eq_emod_of_nonneg h1]
 rw[Ae0,Aih,Ek]
 obtain rfl|rfl|rfl:=h
 ·rw[if_pos (by rw[Al];rfl),Aj (by omega) (by omega),gu,Aee,if_pos rfl]
 ·have hh:hB 16=32768:=rfl
  rw[hh]at hr
  have hp:∀n:Int,0≤n→n≤70000→u8 n=u8 x.toInt→u8 (n/256)=u8 (x.toInt/256)→La 16 n=some (Aee 16 x.toInt):=by
   intro n h1 h2 h3 h4
   rw[La,Xc,if_neg (by rw[Al];decide),hm n h1,(hq n h1 (by omega)).1,hm _ (by omega),gu,gu,Blo,Blo,h3,h4,Aee,if_neg (by decide),if_pos rfl]
  rw[if_neg (by rw[Al];decide)]
  by_cases hn:x.toInt<0
  ·rw[if_pos (by rw[Af];simpa using hn),Aza (.inr (.inl rfl)),Aa,hh,Hl (by omega) (by omega),Aj (by omega) (by omega)]
   refine hp _ (by omega) (by omega) ?_ ?_
   ·rw[u8,u8];congr 2;omega
   ·rw[u8,u8];congr 2;omega
  ·rw[if_neg (by rw[Af];simpa using hn)]
   exact hp _ (by omega) (by omega) rfl rfl
 ·have hh:hB 24=8388608:=rfl
  rw[hh]at hr
  have hp:∀n:Int,0≤n→n≤16777215→u8 n=u8 x.toInt→u8 (n/256)=u8 (x.toInt/256)→u8 (n/65536)=u8 (x.toInt/65536)→La 24 n=some (Aee 24 x.toInt):=by
   intro n h1 h2 h3 h4 h5
   rw[La,Xc,if_pos (by rw[Al];rfl),hm n h1,(hq n h1 (by omega)).1,(hq n h1 (by omega)).2,hm _ (by omega),gu,gu,gu,Blo,Blo,h3,h4,h5,Cl (by simp),Aa,Aee,if_neg (by decide),if_neg (by decide)];rfl
  rw[if_neg (by rw[Al];decide)]
  by_cases hn:x.toInt<0
  ·rw[if_pos (by rw[Af];simpa using hn),Aza (.inr (.inr rfl)),Aa,hh,Hl (by omega) (by omega),Aj (by omega) (by omega)]
   refine hp _ (by omega) (by omega) ?_ ?_ ?_
   ·rw[u8,u8];congr 2;omega
   ·rw[u8,u8];congr 2;omega
   ·rw[u8,u8];congr 2;omega
  ·rw[if_neg (by rw[Af];simpa using hn)]
   exact hp _ (by omega) (by omega) rfl rfl rfl
theorem Bua{bits:Int}(h:Ci bits)(l:List Int32)(hl:l.length≤4000)(hr:inR bits l):∀(j i q:Nat),i+j=l.length→j<q→Iy bits l q (i:Int) (bytesB bits (l.take i))=some (bytesB bits l,0)
 |0,i,q+1,hi,_=>by
  rw[Iy,Sj,if_neg (by rw[Af,Ac];simp;omega),List.take_of_length_le (by omega)];rfl
 |j+1,i,q+1,hi,hq=>by
  have hlt:i<l.length:=by omega
  have ih:=Bua h l hl hr j (i+1) q (by omega) (by omega)
  have hlen:=Afb bits (l.take i)
  have hol:=Bn9 bits l[i].toInt
  rw[List.length_take]at hlen
  have e2:bytesB bits (l.take i++[l[i]])=bytesB bits (l.take i)++Aee bits l[i].toInt:=by unfold bytesB;rw[List.flatMap_append,List.flatMap_singleton]
  rw[Ajh hlt,e2]at ih
  rw[Iy,Sj,if_pos (by rw[Af,Ac];simp;omega),By hlt,Aa,Cep h _ (hr l[i] (List.getElem_mem _)),Aa,Cl (by omega),Aa,Aj (by omega) (by omega)]
  exact ih
theorem Ajg{bits:Int}(h:Ci bits){l:List Int32}(hl:l.length≤4000)(hc:cadenzaref18_Check bits l=some 0):Qx bits l=some (bytesB bits l,0):=by
 have h1:=Bua h l hl (Av7 h hl hc) l.length 0 FUEL (by omega) (by have:=Ao;omega)
 rw[Qx,Adp,hc,Aa,if_neg (by rw[Ag];simp)]
 exact h1
end Go.Pl
set_option linter.unusedVariables false
set_option linter.unusedSimpArgs false
namespace Go.Pl
open Go Go.Lv
def Am7:List UInt8→Nat→Int×Int
 |[],n=>((n:Int),0)
 |c::r,n=>if 128≤c.toNat then(0,12)else Am7 r (128*n+c.toNat)
theorem Buq:∀(l:List UInt8) (n k:Nat),n<128^k→0≤(Am7 l n).1∧(Am7 l n).1<((128^(k+l.length):Nat):Int)
 |[],n,k,h=>by simp[Am7];exact_mod_cast h
 |c::r,n,k,h=>by
  rw[Am7]
  split
  ·have:0<128^(k+(c::r).length):=Nat.pow_pos (by omega)
   exact⟨Int.le_refl _,by simp only;exact_mod_cast this⟩
  ·have:=Buq r (128*n+c.toNat) (k+1) (by rw[Nat.pow_succ];omega)
   rw[List.length_cons,show k+(r.length+1)=k+1+r.length by omega]
   exact this
theorem or7(n c:Nat)(hn:n<268435456)(hc:c<128):gor (Dn (n:Int) (GI.toZ (7:UInt64)).toNat) (c:Int)=((128*n+c:Nat):Int):=by
 have e:(GI.toZ (7:UInt64)).toNat=7:=rfl
 have h1:Dn (n:Int) 7=((2^7*n:Nat):Int):=by
  have:Dn (n:Int) 7=wrap64 ((n:Int)*2^7):=rfl
  rw[this,Cg (by omega) (by omega)];omega
 rw[e,h1]
 have h2:gor ((2^7*n:Nat):Int) (c:Int)=wrap64 ((BitVec.ofInt 64 ((2^7*n:Nat):Int)|||BitVec.ofInt 64 (c:Int)).toNat:Int):=rfl
 rw[h2,BitVec.toNat_or,BitVec.toNat_ofInt,BitVec.toNat_ofInt]
 have h3:(((2^7*n:Nat):Int) %((2^64:Nat):Int)).toNat=2^7*n:=by omega
 have h4:((c:Int) %((2^64:Nat):Int)).toNat=c:=by omega
 rw[h3,h4,←Nat.two_pow_add_eq_or_of_lt (by simpa using hc),Cg (by omega) (by omega)]
theorem Bs8(b:List UInt8)(hb:b.length=4):∀(j i q n:Nat),i+j=4→j<q→n<128^i→Lq b q (n:Int) (i:Int)=some (Am7 (b.drop i) n)
 |0,i,q+1,n,hi,_,_=>by
  rw[Lq,Wc,if_neg (by rw[Af,Ac];simp;omega),show b.drop i=[] by simp;omega];rfl
 |j+1,i,q+1,n,hi,hq,hn=>by
  have hlt:i<b.length:=by omega
  have hn2:n<268435456:=Nat.lt_of_lt_of_le hn (show 128^i≤128^4 from Nat.pow_le_pow_right (by omega) (by omega))
  rw[Lq,Wc,if_pos (by rw[Af,Ac];simp;omega),By hlt,Aa,drop_cons hlt,Am7,Cbc]
  by_cases hc:128≤b[i].toNat
  ·rw[if_pos (by simp;omega),if_pos hc]
  ·rw[if_neg (by simp;omega),if_neg hc,Ajb,or7 n _ hn2 (by omega),Aj (by omega) (by omega)]
   exact Bs8 b hb j (i+1) q _ (by omega) (by omega) (by rw[Nat.pow_succ];omega)
theorem Cbq(b:List UInt8)(hb:b.length=4):∀(j i q n:Nat),i+j=4→j<q→n<128^i→Iu b q (n:Int) (i:Int)=some (Am7 (b.drop i) n)
 |0,i,q+1,n,hi,_,_=>by
  rw[Iu,Sp,if_neg (by rw[Af];simp;omega),show b.drop i=[] by simp;omega];rfl
 |j+1,i,q+1,n,hi,hq,hn=>by
  have hlt:i<b.length:=by omega
  have hn2:n<268435456:=Nat.lt_of_lt_of_le hn (show 128^i≤128^4 from Nat.pow_le_pow_right (by omega) (by omega))
  rw[Iu,Sp,if_pos (by rw[Af];simp;omega),By hlt,Aa,drop_cons hlt,Am7,Byk]
  have h128:(128:UInt8).toNat=128:=rfl
  by_cases hc:128≤b[i].toNat
  ·rw[if_pos (by simpa using hc),if_pos hc]
  ·have h3:=b[i].toNat_lt
   rw[if_neg (by simpa using hc),if_neg hc,Aa,Ajb,Hl (by omega) (by omega),Aj (by omega) (by omega),Aj (by omega) (by omega)]
   have:=Cbq b hb j (i+1) q (128*n+b[i].toNat) (by omega) (by omega) (by rw[Nat.pow_succ];omega)
   rw[←this];rfl
theorem Brg(b:List UInt8)(hb:b.length=4):Afl b=some (Am7 b 0):=by
 have h:=Bs8 b hb 4 0 FUEL 0 (by omega) (by have:=Ao;omega) (by simp)
 rw[Afl,Aet,if_neg (by rw[Ag,Ac];simp;omega),Aey];exact h
theorem Bwu(b:List UInt8)(hb:b.length=4):Zh b=some (Am7 b 0):=by
 have h:=Cbq b hb 4 0 FUEL 0 (by omega) (by have:=Ao;omega) (by simp)
 rw[Zh,Aea,if_neg (by rw[Ag,Ac];simp;omega),Adw];exact h
theorem Br4{b:List UInt8}(hb:b.length=4):0≤(Am7 b 0).1∧(Am7 b 0).1<268435456:=by
 have:=Buq b 0 0 (by simp)
 rw[hb]at this
 simpa using this
theorem Aqs(s p:List UInt8):Kn s p=some (decide (p.length≤s.length∧s.take p.length=p)):=by
 rw[Kn]
 by_cases h:p.length≤s.length
 ·rw[if_pos (by rw[Dq,Ac,Ac];simp;omega),show Ac p=(p.length:Int)from rfl,Cp (by omega) (by omega),Aa,Ge,Aa,Int.toNat_natCast]
  congr 1
  rw[Bool.eq_iff_iff];simp[h]
 ·rw[if_neg (by rw[Dq,Ac,Ac];simp;omega)]
  simp[h]
def Ao2(b:List UInt8)(n:Int):Int×Int:=
 if 4000<n then(0,4)else if(b.length:Int)<n then(0,24)else
 if b.getD 5 0=16∧(b.take n.toNat).drop (n-10).toNat≠ [51,68,73]++part b 3 7 then(0,12)else(n,0)
def Bdq(b:List UInt8)(r:Int):Int×Int:=Ao2 b (r+10+(if b.getD 5 0=16 then 10 else 0))
def Wq(b:List UInt8):Int×Int:=
 if ¬(3≤b.length∧b.take 3=[73,68,51])then(0,6)else if b.length<10 then(0,24)else
 if(Am7 (part b 6 4) 0).2≠0∨b.getD 4 0≠0∨¬((b.getD 5 0=0∧2≤(b.getD 3 0).toNat∧(b.getD 3 0).toNat≤4)∨(b.getD 5 0=16∧b.getD 3 0=4))then(0,12)else
 Bdq b (Am7 (part b 6 4) 0).1
theorem Ax2{b:List UInt8}{i:Nat}(h:i<b.length):getI b (i:Int)=some (b.getD i 0):=by
 rw[By h];simp[List.getD_eq_getElem?_getD,h]
theorem Np{b:List UInt8}(a w:Nat)(h:a+w≤b.length):Ba b (a:Int) ((a+w:Nat):Int)=some (part b a w):=by
 rw[Ta (by omega) (by omega) (by omega)];rfl
theorem Cc0(b:List UInt8)(r:Int)(h10:10≤b.length)(h0:0≤r)(h1:r<268435456):Vs b r=some (Bdq b r):=by
 have g5:getI b (5:Int)=some (b.getD 5 0):=Ax2 (i:=5) (by omega)
 have key:∀n:Int,10≤n→n<268435500→Vj b n=some (Ao2 b n):=by
  intro n hn hn2
  rw[Vj,Agx,Ao2]
  by_cases c1:4000<n
  ·rw[if_pos (by rw[Am];simpa using c1),if_pos c1]
  ·rw[if_neg (by rw[Am];simpa using c1),if_neg c1]
   by_cases c2:(b.length:Int)<n
   ·rw[if_pos (by rw[Af,Ac];simpa using c2),if_pos c2]
   ·have e3:Ba b (3:Int) (10:Int)=some (part b 3 7):=Np 3 7 (by omega)
    rw[if_neg (by rw[Af,Ac];simpa using c2),if_neg c2,g5,Aa]
    by_cases c3:b.getD 5 0=16
    ·rw[if_pos (by rw[Aqj];simpa using c3),Bv (by omega) (by omega),Ta (by omega) (by omega) (by omega),Aa,e3,Aa,Cl (by rw[Df (by omega)];simp),Aa]
     by_cases c4:(b.take n.toNat).drop (n-10).toNat=[51,68,73]++part b 3 7
     ·rw[if_neg (by simpa using c4),if_neg (by intro h;exact h.2 c4)]
     ·rw[if_pos (by simpa using c4),if_pos ⟨c3,c4⟩]
    ·rw[if_neg (by rw[Aqj];simpa using c3),if_neg (fun h=>c3 h.1)]
 rw[Vs,Agn,g5,Aa,Bdq]
 by_cases c3:b.getD 5 0=16
 ·rw[if_pos (by rw[Aqj];simpa using c3),Aj (by rw[Aj]<;>omega) (by rw[Aj]<;>omega),Aj (by omega) (by omega),key _ (by omega) (by omega),if_pos c3,show 10+r+10=r+10+10 by omega]
 ·rw[if_neg (by rw[Aqj];simpa using c3),Aj (by omega) (by omega),key _ (by omega) (by omega),if_neg c3,show 10+r=r+10+0 by omega]
theorem Cal(b:List UInt8)(hb:b.length<4611686018427387904):Aaz b=some (Wq b):=by
 rw[Aaz,Age,Wq]
 by_cases h3:3≤b.length
 ·rw[if_neg (by rw[Af,Ac];simp;omega),Cp (by omega) (by omega),Aa]
  by_cases hp:b.take 3=[73,68,51]
  ·rw[if_neg (by simpa using hp),if_neg (by simp[h3,hp]),Afv,Ag7]
   by_cases h10:b.length<10
   ·rw[if_pos (by rw[Af,Ac];simp;omega),if_pos h10]
   ·have e6:Ba b (6:Int) (10:Int)=some (part b 6 4):=Np 6 4 (by omega)
    have g3:getI b (3:Int)=some (b.getD 3 0):=Ax2 (i:=3) (by omega)
    have g4:getI b (4:Int)=some (b.getD 4 0):=Ax2 (i:=4) (by omega)
    have g5:getI b (5:Int)=some (b.getD 5 0):=Ax2 (i:=5) (by omega)
    obtain⟨v1,v2⟩:=Br4 (b:=part b 6 4) (Df (by omega))
    rw[if_neg (by rw[Af,Ac];simp;omega),if_neg h10,e6,Aa,Bwu _ (Df (by omega)),Aa]
    have ht:=Cc0 b (Am7 (part b 6 4) 0).1 (by omega) v1 v2
    generalize Am7 (part b 6 4) 0=v at*
    obtain⟨v,e⟩:=v
    simp only at ht v1 v2⊢
    simp only[Aa,g3,g4,g5,ht]
    generalize b.getD 3 0=x at*
    generalize b.getD 4 0=y at*
    generalize b.getD 5 0=z at*
    simp only[Brb,Cgp,Cbc,Ag]
    by_cases he:e=0<;>by_cases hy:y=0<;>by_cases hz:z=0<;>by_cases hz2:z=16<;>by_cases hx:x=4<;>by_cases hx2:x.toNat<2<;>by_cases hx4:4<x.toNat<;>simp_all<;>(rw[if_neg (by omega),if_neg (by omega)])
  ·rw[if_pos (by simpa using hp),if_pos (by simp[hp])]
 ·rw[if_pos (by rw[Af,Ac];simp;omega),if_pos (by simp[h3])]
theorem Bki(b:List UInt8)(n:Int)(h10:10≤b.length)(hn:10≤n)(hn2:n<268435500):Yh b (b.getD 5 0) n=some (Ao2 b n):=by
 rw[Yh,Ar8]
 by_cases c1:4000<n
 ·rw[if_pos (by rw[Am];simpa using c1),Ao2,if_pos c1]
 ·rw[if_neg (by rw[Am];simpa using c1)]
  by_cases c2:(b.length:Int)<n
  ·rw[if_pos (by rw[Af,Ac];simpa using c2),Ao2,if_neg c1,if_pos c2]
  ·have e3:Ba b (3:Int) (10:Int)=some (part b 3 7):=Np 3 7 (by omega)
   rw[if_neg (by rw[Af,Ac];simpa using c2)]
   by_cases c3:b.getD 5 0=16
   ·have hl:((b.take n.toNat).drop (n-10).toNat).length=10:=by simp;omega
    have ht:Ao2 b n=if(b.take n.toNat).drop (n-10).toNat≠ [51,68,73]++part b 3 7 then(0,12)else(n,0):=by rw[Ao2,if_neg c1,if_neg c2];simp only[c3,true_and]
    rw[if_pos (by rw[Aqj];simpa using c3),Bv (by omega) (by omega),Ta (by omega) (by omega) (by omega),Aa,ht]
    generalize(b.take n.toNat).drop (n-10).toNat=f at*
    rw[Cp (by omega) (by omega),Aa,Bg (by omega) (by omega),Aa,e3,Aa,Ge,Aa]
    have hf:f=f.take 3++f.drop 3:=(List.take_append_drop 3 f).symm
    by_cases c4:f=[51,68,73]++part b 3 7
    ·subst c4
     simp
    ·by_cases c5:f.take 3=[51,68,73]
     ·have:f.drop 3≠part b 3 7:=fun h=>c4 (by rw[hf,c5,h])
      simp only[List.cons_append,List.nil_append]at c4
      simp[c4,c5,this]
     ·simp only[List.cons_append,List.nil_append]at c4
      simp[c4,c5]
   ·rw[if_neg (by rw[Aqj];simpa using c3),Ao2,if_neg c1,if_neg c2,if_neg (fun h=>c3 h.1)]
theorem Bzw(b:List UInt8)(r:Int)(h10:10≤b.length)(h0:0≤r)(h1:r<268435456):Yb b r (b.getD 5 0)=some (Bdq b r):=by
 rw[Yb,Ahs,Bdq]
 by_cases c3:b.getD 5 0=16
 ·rw[if_pos (by rw[Aqj];simpa using c3),Aj (by rw[Aj]<;>omega) (by rw[Aj]<;>omega),Aj (by omega) (by omega),Bki b _ h10 (by omega) (by omega),if_pos c3]
 ·rw[if_neg (by rw[Aqj];simpa using c3),Aj (by omega) (by omega),Bki b _ h10 (by omega) (by omega),if_neg c3];simp
theorem Bwg(b:List UInt8)(hb:b.length<4611686018427387904):Aiy b=some (Wq b):=by
 rw[Aiy,Ye,Aqs,Aa]
 by_cases hp:3≤b.length∧b.take 3=[73,68,51]
 ·rw[if_neg (by simpa using hp)]
  by_cases h10:b.length<10
  ·rw[if_pos (by rw[Af,Ac];simp;omega),Wq,if_neg (fun h=>h hp),if_pos h10]
  ·have e6:Ba b (6:Int) (10:Int)=some (part b 6 4):=Np 6 4 (by omega)
   have g3:getI b (3:Int)=some (b.getD 3 0):=Ax2 (i:=3) (by omega)
   have g4:getI b (4:Int)=some (b.getD 4 0):=Ax2 (i:=4) (by omega)
   have g5:getI b (5:Int)=some (b.getD 5 0):=Ax2 (i:=5) (by omega)
   obtain⟨v1,v2⟩:=Br4 (b:=part b 6 4) (Df (by omega))
   have ht:=Bzw b (Am7 (part b 6 4) 0).1 (by omega) v1 v2
   rw[if_neg (by rw[Af,Ac];simp;omega),g3,Aa,g5,Aa,Ahw,Ah3,e6,Aa,Brg _ (Df (by omega)),Aa,Wq,if_neg (fun h=>h hp),if_neg h10]
   generalize Am7 (part b 6 4) 0=v at*
   obtain⟨v,e⟩:=v
   simp only at ht v1 v2⊢
   simp only[Aa,g4,Ahz,Ah6]
   generalize b.getD 3 0=x at*
   generalize b.getD 4 0=y at*
   generalize b.getD 5 0=z at*
   simp only[Brb,Cgv,Aqj,Byk,Ag]
   have e2:(2:UInt8).toNat=2:=rfl
   have e4:(4:UInt8).toNat=4:=rfl
   by_cases he:e=0<;>by_cases hy:y=0<;>by_cases hz:z=0<;>by_cases hz2:z=16<;>by_cases hx:x=4<;>by_cases hx2:2≤x.toNat<;>by_cases hx4:x.toNat≤4<;>simp_all
 ·rw[if_pos (by rw[Bool.not_eq_true',decide_eq_false_iff_not];exact hp),Wq,if_pos hp]
theorem Bzu{b:List UInt8}{n:Int}(h:Wq b=(n,0)):10≤n∧n≤b.length∧n≤4000:=by
 unfold Wq at h
 split at h; · simp at h
 split at h; · simp at h
 split at h; · simp at h
 rename_i h10 _
 obtain⟨v1,v2⟩:=Br4 (b:=part b 6 4) (Df (by omega))
 unfold Bdq at h
 generalize hm:(Am7 (part b 6 4) 0).1+10+(if b.getD 5 0=16 then 10 else 0)=m at h
 unfold Ao2 at h
 split at h; · simp at h
 split at h; · simp at h
 split at h; · simp at h
 simp only[Prod.mk.injEq,and_true]at h
 subst h
 refine⟨?_,by omega,by omega⟩
 rw[←hm]
 split<;>omega
end Go.Pl
set_option linter.unusedVariables false
set_option linter.unusedSimpArgs false
namespace Go.Pl
open Go Go.Lv
def APE:List UInt8:=[65,80,69,84,65,71,69,88]
def Nj(n m fl:Nat):List UInt8:=APE++leB 2000 4++leB (n+32) 4++leB m 4++leB fl 4++List.replicate 8 0
theorem Amy{n:Nat}(h:n<18446744073709551616):(UInt64.ofNat n).toNat=n:=by rw[UInt64.toNat_ofNat',Nat.mod_eq_of_lt h]
theorem Av0(n m:Int)(fl:UInt64)(c:UInt64)(i q:Nat)(acc:List UInt8)(hi:i<6)(hc:getI ([(2000:UInt64),(Ae (Ad n (32:Int)):UInt64),(Ae m:UInt64),fl,(0:UInt64),(0:UInt64)]:List UInt64) (i:Int)=some c)(h:c.toNat<4294967296)(ha:acc.length≤1000000):
  Yy n m fl (q+1) (i:Int) acc=Yy n m fl q ((i+1:Nat):Int) (acc++leB c.toNat 4):=by
 have hb:=Bo4 c 4 (by omega) (by omega) (by simpa using h)
 rw[Yy,Ara,if_pos (by rw[Af,Ac];simp;omega),hc,Aa,Aa,show((4:Int))=((4:Nat):Int)from rfl,hb,Aa]
 simp only
 rw[Cl (by rw[My];omega),Aa,Aj (by omega) (by omega)];rfl
theorem Bhh(n m:Nat)(fl:UInt64)(hn:n≤3000)(hm:m≤1000)(hf:fl.toNat<4294967296):Av4 (n:Int) (m:Int) fl=some (Nj n m fl.toNat):=by
 have e1:(Ae (Ad (n:Int) (32:Int)):UInt64).toNat=n+32:=by rw[Aj (by omega) (by omega),show(n:Int)+32=((n+32:Nat):Int) by omega,Aad,Amy (by omega)]
 have e2:(Ae (m:Int):UInt64).toNat=m:=by rw[Aad,Amy (by omega)]
 have hF:FUEL=(FUEL-7)+1+1+1+1+1+1+1:=by have:=Ao;omega
 rw[Av4,Ax9,Ay0,hF]
 rw[show((0:Int))=((0:Nat):Int)from rfl,Av0 n m fl 2000 0 _ _ (by omega) rfl (by decide) (by simp),Av0 n m fl _ 1 _ _ (by omega) rfl (by rw[e1];omega) (by simp[My]),Av0 n m fl _ 2 _ _ (by omega) rfl (by rw[e2];omega) (by simp[My]),
  Av0 n m fl fl 3 _ _ (by omega) rfl hf (by simp[My]),Av0 n m fl 0 4 _ _ (by omega) rfl (by decide) (by simp[My]),Av0 n m fl 0 5 _ _ (by omega) rfl (by decide) (by simp[My]),e1,e2]
 rw[Yy,Ara,if_neg (by rw[Af,Ac];simp),Ayb,Bge,Nj]
 have z:leB (0:UInt64).toNat 4++leB (0:UInt64).toNat 4=List.replicate 8 0:=by decide
 have z2:leB (2000:UInt64).toNat 4=leB 2000 4:=rfl
 rw[List.append_assoc _ (leB (0:UInt64).toNat 4),z,z2];rfl
theorem Ay8(n m:Nat)(fl:UInt64)(hn:n≤3000)(hm:m≤1000)(hf:fl.toNat<4294967296):Pr (n:Int) (m:Int) fl=some (Nj n m fl.toNat):=by
 have e1:(Ae (Ad (n:Int) (32:Int)):UInt64).toNat=n+32:=by rw[Aj (by omega) (by omega),show(n:Int)+32=((n+32:Nat):Int) by omega,Aad,Amy (by omega)]
 have e2:(Ae (m:Int):UInt64).toNat=m:=by rw[Aad,Amy (by omega)]
 have w:∀c:UInt64,Dr c 4=some (leB c.toNat 4):=fun c=>Bgq c 4 (by omega)
 have z2:leB (2000:UInt64).toNat 4=leB 2000 4:=rfl
 rw[Pr]
 simp only[w,e1,e2,Aa]
 rw[Cl (by simp[My]),Aa,Cl (by simp[My]),Aa,Cl (by simp[My]),Aa,Cl (by simp[My]),Aa,Bi3 (by omega) (by omega),Aa,Cl (by simp[My]),Aa,z2];rfl
theorem Ajd{b:List UInt8}{a w k:Nat}(h:a+w≤k):part (b.take k) a w=part b a w:=by rw[part,part,List.take_take,Nat.min_eq_left h]
def Aap(b:List UInt8):Bool:=decide (Ee (part b 12 4)<32∨3032<Ee (part b 12 4)∨1000<Ee (part b 16 4))
theorem Byj(b:List UInt8)(h:20≤b.length):(((Cb (leU (part b 12 4)) (32:UInt64))||(Eb (leU (part b 12 4)) (3032:UInt64)))||(Eb (leU (part b 16 4)) (1000:UInt64)))=Aap b:=by
 rw[Bek,Amm,Amm,Al9 (by rw[Df (by omega)];omega),Al9 (by rw[Df (by omega)];omega),Aap]
 show((decide (Ee (part b 12 4)<32)||decide (3032<Ee (part b 12 4)))||decide (1000<Ee (part b 16 4)))=_
 simp[Bool.or_assoc]
theorem Ba7(b:List UInt8)(h:20≤b.length)(hb:Aap b=false):Ak (Ae (leU (part b 12 4)):Int) (32:Int)=((Ee (part b 12 4)-32:Nat):Int)∧(Ae (leU (part b 16 4)):Int)=((Ee (part b 16 4):Nat):Int)∧Ee (part b 12 4)-32≤3000∧Ee (part b 16 4)≤1000:=by
 simp only[Aap,decide_eq_false_iff_not]at hb
 refine⟨?_,Afg (by rw[Df (by omega)];omega),by omega,by omega⟩
 rw[Afg (by rw[Df (by omega)];omega),Bv (by omega) (by omega)];omega
theorem Apk(b:List UInt8)(fl:UInt64)(h:20≤b.length)(hl:b.length<4611686018427387904)(hf:fl.toNat<4294967296):
  Ajk b fl=some (if Aap b=true then(0,0,false)else(((Ee (part b 12 4)-32:Nat):Int),((Ee (part b 16 4):Nat):Int),b==Nj (Ee (part b 12 4)-32) (Ee (part b 16 4)) fl.toNat)):=by
 have a1:Aoq b 12 4=some (leU (part b 12 4),0):=Bkj b 12 4 (by omega) (by omega) (by omega) hl
 have a2:Aoq b 16 4=some (leU (part b 16 4),0):=Bkj b 16 4 (by omega) (by omega) (by omega) hl
 rw[Ajk,a1,Aa]
 simp only
 rw[a2,Aa]
 simp only
 rw[Byj b h]
 cases hb:Aap b with
 |true=>rfl
 |false=>
  obtain⟨i1,i2,i3,i4⟩:=Ba7 b h hb
  rw[i1,i2,Bhh _ _ _ i3 i4 hf]
  rfl
theorem Boa(b:List UInt8)(h:20≤b.length)(hl:b.length<4611686018427387904):
  Ty b=some (if Aap b=true then(0,0,false)else(((Ee (part b 12 4)-32:Nat):Int),((Ee (part b 16 4):Nat):Int),true)):=by
 have a1:Ba b 12 16=some (part b 12 4):=Np 12 4 (by omega)
 have a2:Ba b 16 20=some (part b 16 4):=Np 16 4 (by omega)
 rw[Ty,a1,Aa,Bon _ (by rw[Df (by omega)];omega),Aa,a2,Aa,Bon _ (by rw[Df (by omega)];omega),Aa,Byj b h]
 cases hb:Aap b with
 |true=>rfl
 |false=>
  obtain⟨i1,i2,i3,i4⟩:=Ba7 b h hb
  rw[i1,i2];rfl
def Ii(b:List UInt8):Int×Int:=
 if ¬(8≤b.length∧b.take 8=APE)then(0,6)else if b.length<32 then(0,24)else
 if Aap b=true∨b.take 32≠Nj (Ee (part b 12 4)-32) (Ee (part b 16 4)) 2684354560 then(0,12)else
 if b.length<Ee (part b 12 4)+32 then(0,24)else
 if(b.take (Ee (part b 12 4)+32)).drop (Ee (part b 12 4))≠Nj (Ee (part b 12 4)-32) (Ee (part b 16 4)) 2147483648 then(0,12)else(((Ee (part b 12 4)+32:Nat):Int),0)
theorem Box(b:List UInt8):Aap (b.take 32)=Aap b:=by rw[Aap,Aap,Ajd (by omega),Ajd (by omega)]
section
variable {b:List UInt8}
theorem fa1(h:¬(8≤b.length∧b.take 8=APE)):Ii b=(0,6):=by rw[Ii,if_pos h]
theorem fa2(h:8≤b.length∧b.take 8=APE)(h2:b.length<32):Ii b=(0,24):=by rw[Ii,if_neg (fun h'=>h' h),if_pos h2]
variable (h:8≤b.length∧b.take 8=APE) (h2:¬b.length<32)
include h h2
theorem fa3(h3:Aap b=true):Ii b=(0,12):=by rw[Ii,if_neg (fun h'=>h' h),if_neg h2,if_pos (.inl h3)]
theorem fa4(h4:b.take 32≠Nj (Ee (part b 12 4)-32) (Ee (part b 16 4)) 2684354560):Ii b=(0,12):=by rw[Ii,if_neg (fun h'=>h' h),if_neg h2,if_pos (.inr h4)]
variable (h3:Aap b=false) (h4:b.take 32=Nj (Ee (part b 12 4)-32) (Ee (part b 16 4)) 2684354560)
include h3 h4
theorem fa5(h5:b.length<Ee (part b 12 4)+32):Ii b=(0,24):=by
 rw[Ii,if_neg (fun h'=>h' h),if_neg h2,if_neg (fun h'=>h'.elim (fun e=>by rw[h3]at e;cases e) fun e=>e h4),if_pos h5]
theorem fa6(h5:¬b.length<Ee (part b 12 4)+32)(h6:(b.take (Ee (part b 12 4)+32)).drop (Ee (part b 12 4))≠Nj (Ee (part b 12 4)-32) (Ee (part b 16 4)) 2147483648):Ii b=(0,12):=by
 rw[Ii,if_neg (fun h'=>h' h),if_neg h2,if_neg (fun h'=>h'.elim (fun e=>by rw[h3]at e;cases e) fun e=>e h4),if_neg h5,if_pos h6]
theorem fa7(h5:¬b.length<Ee (part b 12 4)+32)(h6:(b.take (Ee (part b 12 4)+32)).drop (Ee (part b 12 4))=Nj (Ee (part b 12 4)-32) (Ee (part b 16 4)) 2147483648):Ii b=(((Ee (part b 12 4)+32:Nat):Int),0):=by
 rw[Ii,if_neg (fun h'=>h' h),if_neg h2,if_neg (fun h'=>h'.elim (fun e=>by rw[h3]at e;cases e) fun e=>e h4),if_neg h5,if_neg (fun h'=>h' h6)]
end
theorem Bsi(b:List UInt8)(hl:b.length<4611686018427387904):Awd b=some (Ii b):=by
 rw[Awd,Aqs,Aa]
 by_cases hp:8≤b.length∧b.take 8=APE
 ·rw[if_neg (by simpa [APE]using hp)]
  by_cases h32:b.length<32
  ·rw[if_pos (by rw[Af,Ac];simp;omega),fa2 hp h32]
  ·have t:=Apk (b.take 32) 2684354560 (by simp;omega) (by simp;omega) (by decide)
   rw[Box,Ajd (by omega),Ajd (by omega)]at t
   rw[if_neg (by rw[Af,Ac];simp;omega),Cp (by omega) (by omega),Aa,show(32:Int).toNat=32 from rfl,t,Aa]
   cases hb:Aap b with
   |true=>rw[fa3 hp h32 hb];simp
   |false=>
    obtain⟨i1,i2,i3,i4⟩:=Ba7 b (by omega) hb
    have i5:32≤Ee (part b 12 4):=by simp only[Aap,decide_eq_false_iff_not]at hb;omega
    simp only[Bool.false_eq_true,if_false,false_or]
    by_cases c1:b.take 32=Nj (Ee (part b 12 4)-32) (Ee (part b 16 4)) 2684354560
    ·have c1':b.take 32=Nj (Ee (part b 12 4)-32) (Ee (part b 16 4)) (2684354560:UInt64).toNat:=c1
     rw[if_neg (by simpa using c1'),Aj (by omega) (by omega)]
     have e1:((Ee (part b 12 4)-32:Nat):Int)+64=((Ee (part b 12 4)+32:Nat):Int):=by omega
     rw[e1]
     by_cases c2:b.length<Ee (part b 12 4)+32
     ·rw[if_pos (by rw[Af,Ac];simp;omega),fa5 hp h32 hb c1 c2]
     ·rw[if_neg (by rw[Af,Ac];simp;omega),Bv (by omega) (by omega),Ta (by omega) (by omega) (by omega),Aa,Bhh _ _ _ i3 i4 (by decide),Aa,Ge,Aa]
      rw[show(((Ee (part b 12 4)+32:Nat):Int)).toNat=Ee (part b 12 4)+32 by omega,show(((Ee (part b 12 4)+32:Nat):Int)-32).toNat=Ee (part b 12 4) by omega]
      by_cases c3:(b.take (Ee (part b 12 4)+32)).drop (Ee (part b 12 4))=Nj (Ee (part b 12 4)-32) (Ee (part b 16 4)) 2147483648
      ·have c3':(b.take (Ee (part b 12 4)+32)).drop (Ee (part b 12 4))=Nj (Ee (part b 12 4)-32) (Ee (part b 16 4)) (2147483648:UInt64).toNat:=c3
       rw[if_neg (by simpa using c3'),fa7 hp h32 hb c1 c2 c3]
      ·have c3':¬(b.take (Ee (part b 12 4)+32)).drop (Ee (part b 12 4))=Nj (Ee (part b 12 4)-32) (Ee (part b 16 4)) (2147483648:UInt64).toNat:=c3
       rw[if_pos (by simpa using c3'),fa6 hp h32 hb c1 c2 c3]
    ·have c1':¬b.take 32=Nj (Ee (part b 12 4)-32) (Ee (part b 16 4)) (2684354560:UInt64).toNat:=c1
     rw[if_pos (by simpa using c1'),fa4 hp h32 c1]
 ·rw[if_pos (by rw[Bool.not_eq_true',decide_eq_false_iff_not];exact hp),fa1 hp]
theorem Bww(b:List UInt8)(hl:b.length<4611686018427387904):Yk b=some (Ii b):=by
 rw[Yk,Aeb]
 by_cases h8:8≤b.length
 ·rw[if_neg (by rw[Af,Ac];simp;omega),Cp (by omega) (by omega),Aa,show(8:Int).toNat=8 from rfl]
  by_cases ha:b.take 8=APE
  ·have hp:=And.intro h8 ha
   rw[if_neg (by simpa [APE]using ha),Adk,Adl]
   by_cases h32:b.length<32
   ·rw[if_pos (by rw[Af,Ac];simp;omega),fa2 hp h32]
   ·have t:=Boa (b.take 32) (by simp;omega) (by simp;omega)
    rw[Box,Ajd (by omega),Ajd (by omega)]at t
    rw[if_neg (by rw[Af,Ac];simp;omega),Cp (by omega) (by omega),Aa,show(32:Int).toNat=32 from rfl,t,Aa]
    cases hb:Aap b with
    |true=>rw[fa3 hp h32 hb];simp
    |false=>
     obtain⟨i1,i2,i3,i4⟩:=Ba7 b (by omega) hb
     have i5:32≤Ee (part b 12 4):=by simp only[Aap,decide_eq_false_iff_not]at hb;omega
     simp only[Bool.false_eq_true,if_false,false_or,Aa,Bool.not_true]
     rw[Tp,Ay8 _ _ _ i3 i4 (by decide),Aa,Aa]
     by_cases c1:b.take 32=Nj (Ee (part b 12 4)-32) (Ee (part b 16 4)) 2684354560
     ·have c1':b.take 32=Nj (Ee (part b 12 4)-32) (Ee (part b 16 4)) (2684354560:UInt64).toNat:=c1
      rw[if_neg (by simpa using c1'),Ad1,Ad7,Aj (by omega) (by omega)]
      have e1:64+((Ee (part b 12 4)-32:Nat):Int)=((Ee (part b 12 4)+32:Nat):Int):=by omega
      rw[e1]
      by_cases c2:b.length<Ee (part b 12 4)+32
      ·rw[if_pos (by rw[Af,Ac];simp;omega),fa5 hp h32 hb c1 c2]
      ·rw[if_neg (by rw[Af,Ac];simp;omega),Bv (by omega) (by omega),Ta (by omega) (by omega) (by omega),Aa,Ki,if_pos rfl,Ay8 _ _ _ i3 i4 (by decide),Aa,Aa]
       rw[show(((Ee (part b 12 4)+32:Nat):Int)).toNat=Ee (part b 12 4)+32 by omega,show(((Ee (part b 12 4)+32:Nat):Int)-32).toNat=Ee (part b 12 4) by omega]
       by_cases c3:(b.take (Ee (part b 12 4)+32)).drop (Ee (part b 12 4))=Nj (Ee (part b 12 4)-32) (Ee (part b 16 4)) 2147483648
       ·have c3':(b.take (Ee (part b 12 4)+32)).drop (Ee (part b 12 4))=Nj (Ee (part b 12 4)-32) (Ee (part b 16 4)) (2147483648:UInt64).toNat:=c3
        rw[if_neg (by simpa using c3'),fa7 hp h32 hb c1 c2 c3]
       ·have c3':¬(b.take (Ee (part b 12 4)+32)).drop (Ee (part b 12 4))=Nj (Ee (part b 12 4)-32) (Ee (part b 16 4)) (2147483648:UInt64).toNat:=c3
        rw[if_pos (by simpa using c3'),fa6 hp h32 hb c1 c2 c3]
     ·have c1':¬b.take 32=Nj (Ee (part b 12 4)-32) (Ee (part b 16 4)) (2684354560:UInt64).toNat:=c1
      rw[if_pos (by simpa using c1'),fa4 hp h32 c1]
  ·rw[if_pos (by simpa [APE]using ha),fa1 (fun h=>ha h.2)]
 ·rw[if_pos (by rw[Af,Ac];simp;omega),fa1 (fun h=>h8 h.1)]
theorem Bwe{b:List UInt8}{n:Int}(h:Ii b=(n,0)):64≤n∧n≤b.length:=by
 unfold Ii at h
 split at h; · simp at h
 split at h; · simp at h
 split at h; · simp at h
 rename_i hb
 split at h; · simp at h
 split at h; · simp at h
 simp only[Prod.mk.injEq,and_true]at h
 have hb':¬Aap b=true:=fun e=>hb (.inl e)
 simp only[Aap,decide_eq_true_eq]at hb'
 omega
end Go.Pl
set_option linter.unusedVariables false
set_option linter.unusedSimpArgs false
namespace Go.Pl
open Go Go.Lv
def Cf(b:List UInt8):Int×Int:=if(Wq b).2≠6 then Wq b else Ii b
theorem size_eq(b:List UInt8)(hl:b.length<4611686018427387904):Uq b=some (Cf b):=by
 rw[Uq,Bwg b hl,Aa,Bsi b hl]
 by_cases h:(Wq b).2=6
 ·simp[Cf,h,Ag]
 ·simp[Cf,h,Ag]
theorem As8{b:List UInt8}{n:Int}(h:Cf b=(n,0)):10≤n∧n≤b.length:=by
 unfold Cf at h
 split at h
 ·have:=Bzu h;omega
 ·have:=Bwe h;omega
def Bt(b:List UInt8):Nat→Nat→List Int×Int
 |0,_=>([],6)
 |j+1,p=>if(Cf (b.drop p)).2=6 then([],0)else if(Cf (b.drop p)).2≠0 then([],(Cf (b.drop p)).2)else
  if 4000<(p:Int)+(Cf (b.drop p)).1 then([],4)else
  if(Bt b j (p+(Cf (b.drop p)).1.toNat)).2=0 then((Cf (b.drop p)).1::(Bt b j (p+(Cf (b.drop p)).1.toNat)).1,0)else([],(Bt b j (p+(Cf (b.drop p)).1.toNat)).2)
theorem Awa(b:List UInt8):∀(j p:Nat),p≤b.length→p≤4000→(Bt b j p).2=0→(∀x∈(Bt b j p).1,10≤x)∧(p:Int)+(Bt b j p).1.sum≤b.length∧(p:Int)+(Bt b j p).1.sum≤4000
 |0,p,_,_,h=>by simp[Bt]at h
 |j+1,p,hp,hq,h=>by
  rw[Bt]at h⊢
  split at h
  ·rename_i h6;rw[if_pos h6];simp;omega
  ·rename_i h6
   split at h
   ·rename_i h0;exact absurd h h0
   ·rename_i h0
    rw[if_neg h6,if_neg h0]
    have hz:Cf (b.drop p)=((Cf (b.drop p)).1,0):=by rw[Prod.ext_iff];exact⟨rfl,Classical.not_not.1 h0⟩
    have hs:=As8 hz
    rw[List.length_drop]at hs
    split at h
    ·simp at h
    ·rename_i h4
     rw[if_neg h4]
     split at h
     ·rename_i h00
      rw[if_pos h00]
      obtain⟨i1,i2,i3⟩:=Awa b j _ (by omega) (by omega) h00
      refine⟨fun x hx=>?_,?_,?_⟩
      ·rcases List.mem_cons.1 hx with rfl|hx
       ·exact hs.1
       ·exact i1 x hx
      ·simp only[List.sum_cons];omega
      ·simp only[List.sum_cons];omega
     ·rename_i h00;exact absurd h h00
def Bji(b:List UInt8)(j p:Nat):Int×Int:=if(Bt b j p).2=0 then((p:Int)+(Bt b j p).1.sum,0)else(0,(Bt b j p).2)
theorem Bhi(b:List UInt8)(hl:b.length<4611686018427387904):∀(j p q:Nat),p≤b.length→p≤4000→b.length-p<j→j≤q→Rt b q (p:Int)=some (Bji b j p)
 |0,p,q,_,_,h,_=>by omega
 |j+1,p,q,hp,hp4,hj,hq=>by
  obtain⟨q,rfl⟩:∃k,q=k+1:=⟨q-1,by omega⟩
  rw[Rt,Bg (by omega) (by omega),Aa,Int.toNat_natCast,size_eq _ (by simp;omega),Aa,Al,Al,Ag,Bji]
  by_cases h6:(Cf (b.drop p)).2=6
  ·rw[if_pos (by simpa using h6)]
   have:Bt b (j+1) p=([],0):=by rw[Bt,if_pos h6]
   rw[this];simp
  ·rw[if_neg (by simpa using h6)]
   by_cases h0:(Cf (b.drop p)).2=0
   ·have hz:Cf (b.drop p)=((Cf (b.drop p)).1,0):=by rw[Prod.ext_iff];exact⟨rfl,h0⟩
    have hs:=As8 hz
    rw[List.length_drop]at hs
    rw[Aj (by omega) (by omega),Am]
    by_cases h4:4000<(p:Int)+(Cf (b.drop p)).1
    ·rw[if_pos (by simp[h0];omega)]
     have:Bt b (j+1) p=([],4):=by rw[Bt,if_neg h6,if_neg (fun h=>h h0),if_pos h4]
     rw[this];simp
    ·rw[if_neg (by simp[h0];omega),if_neg (by simpa using h0)]
     have ih:=Bhi b hl j (p+(Cf (b.drop p)).1.toNat) q (by omega) (by omega) (by omega) (by omega)
     rw[show(p:Int)+(Cf (b.drop p)).1=((p+(Cf (b.drop p)).1.toNat:Nat):Int) by omega,ih,Bji]
     have:Bt b (j+1) p=if(Bt b j (p+(Cf (b.drop p)).1.toNat)).2=0 then((Cf (b.drop p)).1::(Bt b j (p+(Cf (b.drop p)).1.toNat)).1,0)else([],(Bt b j (p+(Cf (b.drop p)).1.toNat)).2):=by
      rw[Bt,if_neg h6,if_neg (fun h=>h h0),if_neg h4]
     rw[this]
     by_cases hr:(Bt b j (p+(Cf (b.drop p)).1.toNat)).2=0
     ·simp only[hr,if_true,List.sum_cons];congr 2;omega
     ·simp only[hr,if_false]
   ·rw[if_neg (by simp[h0]),if_pos (by simpa using h0)]
    have:Bt b (j+1) p=([],(Cf (b.drop p)).2):=by rw[Bt,if_neg h6,if_pos h0]
    rw[this];simp[h0]
def Ca9(b:List UInt8)(j p:Nat)(xs:List Int):List Int×Int:=if(Bt b j p).2=0 then(xs++(Bt b j p).1,0)else([],(Bt b j p).2)
theorem Bzn(bk:Int→List Int→Option (List Int×Int))(b:List UInt8)(p:Nat)(hp:p≤b.length)(xs:List Int)(hx:xs.length≤4000)(hl:b.length<4611686018427387904):Sn (Mu bk b) b (p:Int) xs=Mu bk b (p:Int) xs (Cf (b.drop p)).1 (Cf (b.drop p)).2:=by
 have hf:=Bww (b.drop p) (by simp;omega)
 rw[Sn,Bg (by omega) (by omega),Aa,Int.toNat_natCast,Cal _ (by simp;omega),Aa]
 by_cases h:(Wq (b.drop p)).2=6
 ·simp[Cf,h,Al,hf]
 ·simp[Cf,h,Al]
theorem Bk9(b:List UInt8)(hl:b.length<4611686018427387904):∀(j p q:Nat) (xs:List Int),p≤b.length→p≤4000→b.length-p<j→j≤q→xs.length≤p→Mv b q (p:Int) xs=some (Ca9 b j p xs)
 |0,p,q,_,_,_,h,_,_=>by omega
 |j+1,p,q,xs,hp,hp4,hj,hq,hx=>by
  obtain⟨q,rfl⟩:∃k,q=k+1:=⟨q-1,by omega⟩
  rw[Mv,Bzn _ b p hp xs (by omega) hl,Mu,Ad3,Al,Ag,Ca9]
  by_cases h6:(Cf (b.drop p)).2=6
  ·rw[if_pos (by simpa using h6)]
   have:Bt b (j+1) p=([],0):=by rw[Bt,if_pos h6]
   rw[this];simp
  ·rw[if_neg (by simpa using h6)]
   by_cases h0:(Cf (b.drop p)).2=0
   ·have hz:Cf (b.drop p)=((Cf (b.drop p)).1,0):=by rw[Prod.ext_iff];exact⟨rfl,h0⟩
    have hs:=As8 hz
    rw[List.length_drop]at hs
    rw[if_neg (by simpa using h0),Aj (by omega) (by omega),Am]
    by_cases h4:4000<(p:Int)+(Cf (b.drop p)).1
    ·rw[if_pos (by simp;omega)]
     have:Bt b (j+1) p=([],4):=by rw[Bt,if_neg h6,if_neg (fun h=>h h0),if_pos h4]
     rw[this];simp
    ·rw[if_neg (by simp;omega),Cl (by simp;omega),Aa]
     have ih:=Bk9 b hl j (p+(Cf (b.drop p)).1.toNat) q (xs++[(Cf (b.drop p)).1]) (by omega) (by omega) (by omega) (by omega) (by simp;omega)
     rw[show(p:Int)+(Cf (b.drop p)).1=((p+(Cf (b.drop p)).1.toNat:Nat):Int) by omega,ih,Ca9]
     have:Bt b (j+1) p=if(Bt b j (p+(Cf (b.drop p)).1.toNat)).2=0 then((Cf (b.drop p)).1::(Bt b j (p+(Cf (b.drop p)).1.toNat)).1,0)else([],(Bt b j (p+(Cf (b.drop p)).1.toNat)).2):=by
      rw[Bt,if_neg h6,if_neg (fun h=>h h0),if_neg h4]
     rw[this]
     by_cases hr:(Bt b j (p+(Cf (b.drop p)).1.toNat)).2=0
     ·simp only[hr,if_true];simp
     ·simp only[hr,if_false]
   ·rw[if_pos (by simpa using h0)]
    have:Bt b (j+1) p=([],(Cf (b.drop p)).2):=by rw[Bt,if_neg h6,if_pos h0]
    rw[this];simp[h0]
theorem Bet:∀{l:List Int},(∀x∈l,10≤x)→0≤l.sum∧(l.length:Int)≤l.sum
 |[],_=>by simp
 |x::l,h=>by
  have h1:=h x List.mem_cons_self
  have h2:=Bet (l:=l) fun y hy=>h y (List.mem_cons_of_mem _ hy)
  simp only[List.sum_cons,List.length_cons];omega
theorem Bfc(r:Int)(l:List Int)(hl:l.length≤4000)(hx:∀x∈l,10≤x):∀(j i q:Nat) (n:Int),i+j=l.length→j<q→0≤n→n+(l.drop i).sum≤4000→Im r l q n (i:Int)=some (n+(l.drop i).sum,r)
 |0,i,q+1,n,hi,_,_,_=>by
  rw[Im,Sg,if_neg (by rw[Af,Ac];simp;omega),show i=l.length by omega,List.drop_length]
  simp[Aed,Adr]
 |j+1,i,q+1,n,hi,hq,hn,hs=>by
  have hlt:i<l.length:=by omega
  rw[drop_cons hlt,List.sum_cons]at hs⊢
  have h1:=hx l[i] (List.getElem_mem hlt)
  have h2:=Bet (l:=l.drop (i+1)) fun y hy=>hx y (List.mem_of_mem_drop hy)
  rw[Im,Sg,if_pos (by rw[Af,Ac];simp;omega),By hlt,Aa,Aa,Aj (by omega) (by omega),Aj (by omega) (by omega)]
  have ih:=Bfc r l hl hx j (i+1) q (n+l[i]) (by omega) (by omega) (by omega) (by omega)
  rw[show((i:Int)+1)=((i+1:Nat):Int) by omega,ih]
  congr 2;omega
def frontS(b:List UInt8):Int×Int:=Bji b (b.length+1) 0
theorem Qa(b:List UInt8)(hl:b.length<4611686018427387904):Gz b=some (frontS b):=by
 have:=Bhi b hl (b.length+1) 0 FUEL (by omega) (by omega) (by omega) (by have:=Ao;omega)
 exact this
theorem Wl(b:List UInt8)(hl:b.length<4611686018427387904):Jd b=some (frontS b):=by
 have h:=Bk9 b hl (b.length+1) 0 FUEL [] (by omega) (by omega) (by omega) (by have:=Ao;omega) (by simp)
 have h':Aj4 b=some (Ca9 b (b.length+1) 0 []):=h
 rw[Jd,Adm,h',Aa,frontS,Bji,Ca9]
 have ho:=Awa b (b.length+1) 0 (by omega) (by omega)
 by_cases h0:(Bt b (b.length+1) 0).2=0
 ·obtain⟨i1,i2,i3⟩:=ho h0
  have hp:=Bet i1
  simp only[h0,if_true,List.nil_append]
  have:=Bfc 0 (Bt b (b.length+1) 0).1 (by omega) i1 (Bt b (b.length+1) 0).1.length 0 FUEL 0 (by omega) (by have:=Ao;omega) (by omega) (by simpa using i3)
  simpa [Sk]using this
 ·simp only[h0,if_false]
  have:=Bfc (Bt b (b.length+1) 0).2 [] (by simp) (by simp) 0 0 FUEL 0 (by simp) (by have:=Ao;omega) (by omega) (by simp)
  simpa [Sk]using this
theorem Wd{b:List UInt8}(h:(frontS b).2=0):0≤(frontS b).1∧(frontS b).1≤b.length∧(frontS b).1≤4000:=by
 unfold frontS Bji at h⊢
 split at h
 ·rename_i h0
  rw[if_pos h0]
  obtain⟨i1,i2,i3⟩:=Awa b (b.length+1) 0 (by omega) (by omega) h0
  have hp:=Bet i1
  exact⟨by simp;omega,i2,i3⟩
 ·rename_i h0;exact absurd h h0
end Go.Pl
set_option linter.unusedVariables false
set_option linter.unusedSimpArgs false
namespace Go.Pl
open Go Go.Lv
def longN(r:Nat):Nat:=max 1 (256*r/245)
theorem Pe(r:Nat):1≤longN r:=Nat.le_max_left _ _
theorem Bgs{r:Nat}(h:r≤1048576):longN r≤1100000:=by unfold longN;omega
theorem Bob{r:Nat}(h:r≤1048576):Awr (1:Int) (Cn (Bd (256:Int) (r:Int)) (245:Int))=(longN r:Int):=by
 rw[Hl (by omega) (by omega),Ah1,Int.tdiv_eq_ediv_of_nonneg (by omega),Cg (by omega) (by omega),Bsw,longN];omega
def framesL(g n:Nat):List Int:=List.replicate ((n-1)/g) (g:Int)++[((n-(n-1)/g*g:Nat):Int)]
theorem Bdc(g n:Nat):(framesL g n).length=(n-1)/g+1:=by simp[framesL]
theorem Bjd{g n:Nat}(h:n≤g)(h1:1≤n):framesL g n=[(n:Int)]:=by
 rw[framesL,Nat.div_eq_of_lt (by omega)];simp
theorem Bpq{g n:Nat}(hg:1≤g)(h:g<n):framesL g n=(g:Int)::framesL g (n-g):=by
 have e:(n-1)/g=(n-g-1)/g+1:=by rw[←Nat.add_div_right _ (by omega)];congr 1;omega
 rw[framesL,framesL,e,List.replicate_succ,List.cons_append]
 congr 4
 have:=Nat.div_mul_le_self (n-g-1) g
 rw[Nat.add_mul,Nat.one_mul];omega
theorem Bam{g n:Nat}(hg:1≤g)(h1:1≤n):(n+g-1)/g=(n-1)/g+1:=by
 rw[←Nat.add_div_right _ (by omega)];congr 1;omega
theorem Bkx{r:Nat}(h1:1≤r)(h:r≤1048576):Abg (r:Int)=some ((longN r:Int),0):=by
 rw[Abg,if_neg (by simp[Af,Am];omega),Bob h]
theorem Bz1{r:Nat}(h:r≤1048576):Tk (r:Int)=some (longN r:Int):=by rw[Tk,Bob h]
theorem Bhn{r n:Nat}(h1:1≤r)(h:r≤1048576)(n1:1≤n)(n2:n≤4000):Rv (r:Int) (n:Int)=some (if 1000<(n-1)/longN r+1 then(0,4)else((((n-1)/longN r+1:Nat):Int),0)):=by
 have hp:=Pe r
 have hl:=Bgs h
 have e:Cn (Ak (Ad (n:Int) (longN r:Int)) (1:Int)) (longN r:Int)=(((n-1)/longN r+1:Nat):Int):=by
  have:(n+longN r-1)/longN r≤n+longN r-1:=Nat.div_le_self _ _
  rw[Aj (by omega) (by omega),Bv (by omega) (by omega),Ah1,Int.tdiv_eq_ediv_of_nonneg (by omega),show(n:Int)+(longN r:Int)-1=((n+longN r-1:Nat):Int) by omega,←Int.natCast_ediv,Bam hp n1]
  rw[Bam hp n1]at this
  generalize(n-1)/longN r=k at*
  exact Cg (by omega) (by omega)
 rw[Rv,Bkx h1 h,Aa]
 simp only
 rw[if_neg (by rw[Ag];simp),if_neg (by simp[Af,Am];omega),Db (by rw[Ag];simp;omega),Aa,e]
 by_cases hk:1000<(n-1)/longN r+1
 ·rw[if_pos (by rw[Am];simp;omega),if_pos hk]
 ·rw[if_neg (by rw[Am];simp;omega),if_neg hk]
theorem Bhj{r:Nat}(h:r≤1048576):∀(j n q:Nat) (acc:List Int),n≤4000→n≤j→j<q→acc.length+n≤10000→Es (r:Int) q (n:Int) acc=some (acc++(if n=0 then []else framesL (longN r) n))
 |0,n,q+1,acc,hn,hj,hq,ha=>by
  obtain rfl:n=0:=by omega
  rw[Es,Ir,if_neg (by rw[Am];simp)]
  simp[Mx,Mq]
 |j+1,n,q+1,acc,hn,hj,hq,ha=>by
  have hp:=Pe r
  have hl:=Bgs h
  by_cases h0:n=0
  ·subst h0
   rw[Es,Ir,if_neg (by rw[Am];simp)]
   simp[Mx,Mq]
  ·rw[Es,Ir,if_pos (by rw[Am];simp;omega),Bz1 h,Aa,Cl (by simp;omega),Aa,Aa,Bv (by omega) (by omega),Ak9]
   by_cases hs:n≤longN r
   ·rw[show min (n:Int) (longN r:Int)=(n:Int) by omega,if_neg h0,Bjd hs (by omega)]
    have hz:∃k,q=k+1:=⟨q-1,by omega⟩
    obtain⟨q,rfl⟩:=hz
    rw[Es,Ir,if_neg (by rw[Am];simp;omega)]
    simp[Mx,Mq]
   ·rw[show min (n:Int) (longN r:Int)=(longN r:Int) by omega,show(n:Int)-(longN r:Int)=((n-longN r:Nat):Int) by omega,Bhj h j (n-longN r) q _ (by omega) (by omega) (by omega) (by simp;omega),if_neg (by omega),if_neg h0,Bpq hp (show longN r<n by omega)]
    simp
theorem Aoc{r n:Nat}(h:r≤1048576)(n1:1≤n)(n2:n≤4000):Du (r:Int) (n:Int)=some (framesL (longN r) n):=by
 have:=Bhj h n n FUEL [] n2 (Nat.le_refl _) (by have:=Ao;omega) (by simp;omega)
 rw[Du,Ad8,Ad0,this,if_neg (by omega)];rfl
theorem mul_one(m:Nat)(h:m≤100000):Afm (1:UInt64) (UInt64.ofNat m)=some (0,UInt64.ofNat m):=by
 have y1:(UInt64.ofNat m).toNat=m:=Amy (by omega)
 have s1:Ce (1:UInt64) (GI.toZ (32:UInt64)).toNat=0:=by decide
 have s2:Ce (UInt64.ofNat m) (GI.toZ (32:UInt64)).toNat=0:=by
  apply UInt64.toNat_inj.1
  rw[Agc,y1]
  exact Nat.div_eq_of_lt (Nat.lt_of_le_of_lt h (by decide))
 have s0:Ce (0:UInt64) (GI.toZ (32:UInt64)).toNat=0:=by decide
 have a1:Dt (1:UInt64) (4294967295:UInt64)=1:=by decide
 have a0:Dt (0:UInt64) (4294967295:UInt64)=0:=by decide
 have a2:Dt (UInt64.ofNat m) (4294967295:UInt64)=UInt64.ofNat m:=by
  apply UInt64.toNat_inj.1
  rw[Bfy,UInt64.toNat_and,y1]
  show m&&& (2^32-1)=m
  rw[Nat.and_two_pow_sub_one_eq_mod,Nat.mod_eq_of_lt (by omega)]
 have m1:∀x:UInt64,Bd 1 x=x:=fun x=>by rw[Af9,UInt64.one_mul]
 have m0:∀x:UInt64,Bd 0 x=0:=fun x=>by rw[Af9,UInt64.zero_mul]
 have p0:∀x:UInt64,Ad 0 x=x:=fun x=>by rw[Ahe,UInt64.zero_add]
 have p1:∀x:UInt64,Ad x 0=x:=fun x=>by rw[Ahe,UInt64.add_zero]
 rw[Afm,Ah0]
 simp only[s1,s2,a1,a2,m1,m0,p0,p1,s0,a0,Aa]
theorem Bd0(v:Int)(m:Nat)(hm:m≤100000):∀(j n q:Nat),1≤n→n≤m→m-n≤j→j<q→El q (n:Int) (List.replicate n v++List.replicate (m-n) 0)=some (List.replicate m v)
 |j,n,q+1,hn,hnm,hj,hq=>by
  have hlen:Ac (List.replicate n v++List.replicate (m-n) 0)=(m:Int):=by simp[Ac];omega
  rw[El,Gl,hlen]
  by_cases h:n<m
  ·obtain⟨j,rfl⟩:∃k,j=k+1:=⟨j-1,by omega⟩
   rw[if_pos (by rw[Af];simp;omega)]
   have v1:vwI (m:Int) (n:Int) (m:Int)=some ():=by rw[vwI,Db];simp;omega
   have v2:vwI (m:Int) (0:Int) (n:Int)=some ():=by rw[vwI,Db];simp;omega
   have e1:Anf (List.replicate n v++List.replicate (m-n) 0) (0:Int) ((n:Int)-0)=List.replicate n v:=by
    simp[Anf]
   rw[v1,Aa,v2,Aa,e1]
   have e2:Akp ((m:Int)-(n:Int)) (List.replicate n v).length=((min n (m-n):Nat):Int):=by
    rw[Akp,List.length_replicate];split<;>omega
   have e3:Rz (List.replicate n v++List.replicate (m-n) 0) (n:Int) ((m:Int)-(n:Int)) (List.replicate n v)=List.replicate (n+min n (m-n)) v++List.replicate (m-(n+min n (m-n))) 0:=by
    have t1:((m:Int)-(n:Int)).toNat=m-n:=by omega
    have t2:(List.replicate n v++List.replicate (m-n) (0:Int)).take n=List.replicate n v:=by simp
    rw[Rz,t1,Int.toNat_natCast,t2,List.take_replicate,List.length_replicate,←List.append_assoc,List.replicate_append_replicate,List.drop_append,List.length_replicate,Nat.min_comm (m-n) n]
    simp only[List.drop_replicate]
    rw[show n-(n+min n (m-n))=0 by omega,List.replicate_zero,List.nil_append,show m-n-(n+min n (m-n)-n)=m-(n+min n (m-n)) by omega]
   rw[e2,e3,Aj (by omega) (by omega),show(n:Int)+((min n (m-n):Nat):Int)=((n+min n (m-n):Nat):Int) by omega]
   exact Bd0 v m hm j (n+min n (m-n)) q (by omega) (by omega) (by omega) (by omega)
  ·rw[if_neg (by rw[Af];simp;omega)]
   obtain rfl:n=m:=by omega
   simp[Ij,Nd]
theorem Bxs(v:Int)(m:Nat)(hm:m≤100000):Mw [v] (m:Int)=some (List.replicate m v):=by
 have y1:(UInt64.ofNat m).toNat=m:=Amy (by omega)
 have c1:(Ae (Ac [v]):UInt64)=1:=by rfl
 have c2:(Ae (m:Int):UInt64)=UInt64.ofNat m:=Aad m
 have c3:(Ae (UInt64.ofNat m):Int)=(m:Int):=by rw[Bb8 (by omega),y1]
 rw[Mw,Om,if_neg (by rw[Af];simp),Of,Ok,c1,c2,mul_one m hm,Aa]
 simp only
 rw[if_neg (by rw[Amm,Amm,y1];simp;show m≤9223372036854775807;omega),Oe,Oa,c3,Bi3 (by omega) (by omega),Aa,Db (by rw[Al];simp),Aa,Oc,Int.toNat_natCast]
 by_cases h0:m=0
 ·subst h0
  have hF:FUEL=(FUEL-1)+1:=by have:=Ao;omega
  rw[hF,El,Gl]
  simp[Ac,Be9,Akp,Af,Ij,Nd]
 ·have:=Bd0 v m hm m 1 FUEL (by omega) (by omega) (by omega) (by have:=Ao;omega)
  have e1:Akp (Ac (List.replicate m (0:Int))) [v].length=((1:Nat):Int):=by simp[Akp,Ac];omega
  have e2:Be9 (List.replicate m (0:Int)) [v]=List.replicate 1 v++List.replicate (m-1) 0:=by
   obtain⟨k,rfl⟩:∃k,m=k+1:=⟨m-1,by omega⟩
   simp[Be9]
  rw[e1,e2,this]
theorem Bwd(l m:List Int)(h:l.length+m.length≤1000000):Mt [l,m]=some (l++m):=by
 have hF:FUEL=(FUEL-3)+1+1+1:=by have:=Ao;omega
 rw[Mt,Od,Og]
 have g0:getI [l,m] (0:Int)=some l:=rfl
 have g1:getI [l,m] (1:Int)=some m:=rfl
 have l2:Ac [l,m]=2:=rfl
 have h3:Il [l,m] []=some (l++m):=by
  rw[Il,Ni,Nh,hF,Ds,Fw,l2,if_pos (by decide),g0,Aa,Cl (by simp;omega),Aa,List.nil_append,show Ad (0:Int) 1=1 by decide,
   Ds,Fw,l2,if_pos (by decide),g1,Aa,Cl (by omega),Aa,show Ad (1:Int) 1=2 by decide,Ds,Fw,l2,if_neg (by decide)]
  rfl
 rw[hF,Ej,Gk,l2,if_pos (by decide),g0,Aa,Aj (by unfold Ac;omega) (by unfold Ac;omega),if_neg (by rw[Af,Ac];simp),show Ad (0:Int) 1=1 by decide,
  Ej,Gk,l2,if_pos (by decide),g1,Aa,Aj (by unfold Ac;omega) (by unfold Ac;omega),if_neg (by rw[Af,Ac,Ac];simp;omega),show Ad (1:Int) 1=2 by decide,
  Ej,Gk,l2,if_neg (by decide),Nb,Nc,if_neg (by rw[Af,Ac,Ac];simp;omega),Nf,Nk]
 have z:Ak (0:Int) 0=0:=by decide
 have n0:(0:Int)+Ac l+Ac m=((l.length+m.length:Nat):Int):=by simp[Ac]
 rw[z,n0,Bv (by omega) (by omega),Int.sub_zero]
 by_cases hp:0<l.length+m.length
 ·rw[if_pos (by rw[Am];simp;omega),show vwI (0:Int) 0 0=some ()from rfl,Aa,Bi3 (by omega) (by omega),Aa,Cl (by simp;omega),Aa]
  rw[show vwI (Ac ([]++List.replicate ((l.length+m.length:Nat):Int).toNat (0:Int))) 0 0=some () by rw[vwI,Db];simp[Ac];omega,Aa]
  simp only[Anf,Int.sub_self,Int.toNat_zero,List.take_zero]
  exact h3
 ·rw[if_neg (by rw[Am];simp;omega)];exact h3
theorem Bzb{r n:Nat}(h1:1≤r)(h:r≤1048576)(n1:1≤n)(n2:n≤4000)(hk:(n-1)/longN r+1≤1000):Vv (r:Int) (n:Int)=some (framesL (longN r) n,0):=by
 have hp:=Pe r
 have hl:=Bgs h
 have hd:=Nat.div_mul_le_self (n-1) (longN r)
 rw[Vv,Bhn h1 h n1 n2,if_neg (by omega),Aa]
 simp only
 rw[if_neg (by rw[Ag];simp),Bkx h1 h,Aa]
 simp only
 rw[framesL]
 generalize(n-1)/longN r=k at*
 have e1:Ak ((k+1:Nat):Int) 1=(k:Int):=by rw[Bv (by omega) (by omega)];omega
 have e2:(k:Int)*(longN r:Int)=((k*longN r:Nat):Int):=by simp
 rw[e1,Bxs _ _ (by omega),Aa,Hl (by rw[e2];omega) (by rw[e2];omega),e2,Bv (by omega) (by omega),All,Bwd _ _ (by simp;omega),Aa,Aa,show(n:Int)-((k*longN r:Nat):Int)=((n-k*longN r:Nat):Int) by omega]
end Go.Pl
set_option linter.unusedVariables false
set_option linter.unusedSimpArgs false
namespace Go.Pl
open Go Go.Lv
def shapeB(f c w r n:Nat):Bool:=decide ((f=1∨f=2)∧(1≤c∧c≤6)∧(w=8∨w=16∨w=24)∧(1≤r∧r≤1048576)∧1≤n)
def fitB(c r n:Nat):Bool:=decide (n≤4000/c∧(n-1)/longN r+1≤1000)
theorem Au3(f c w r n:Nat):Oj (f:Int) (c:Int) (w:Int) (r:Int) (n:Int)=some (shapeB f c w r n):=by
 have e2:Lr (f:Int) (c:Int) (w:Int) (r:Int) (n:Int)=some (decide ((f=1∨f=2)∧(1≤c∧c≤6)∧(1≤r∧r≤1048576)∧1≤n)):=by
  rw[Lr,Aex]
  congr 1
  rw[Bool.eq_iff_iff]
  simp only[Al,Am,Arr,Bool.and_eq_true,Bool.or_eq_true,beq_iff_eq,decide_eq_true_eq]
  omega
 have g:∀k:Nat,geq (w:Int) (k:Int)=decide (w=k):=fun k=>by rw[Al,Bool.eq_iff_iff];simp;omega
 have g8:geq (w:Int) (8:Int)=decide (w=8):=g 8
 have g16:geq (w:Int) (16:Int)=decide (w=16):=g 16
 have g24:geq (w:Int) (24:Int)=decide (w=24):=g 24
 rw[Oj,We,e2,g8,g16,g24,shapeB]
 by_cases h8:w=8
 ·subst h8;simp
 ·by_cases h16:w=16
  ·subst h16;simp
  ·by_cases h24:w=24
   ·subst h24;simp
   ·simp[h8,h16,h24]
theorem Axz(f c w r n:Nat):Ib (f:Int) (c:Int) (w:Int) (r:Int) (n:Int)=some (shapeB f c w r n):=by
 rw[Ib,shapeB]
 simp only[Al,Dq,Arr,Bool.and_eq_true,Bool.or_eq_true,beq_iff_eq,decide_eq_true_eq,Bool.false_and]
 split
 ·rename_i h
  congr 1
  rw[Bool.eq_iff_iff]
  simp only[Bool.and_eq_true,Bool.or_eq_true,beq_iff_eq,decide_eq_true_eq]
  omega
 ·rename_i h
  congr 1
  symm
  rw[decide_eq_false_iff_not]
  omega
theorem Cft{c:Nat}(h:1≤c):Cn (4000:Int) (c:Int)=((4000/c:Nat):Int):=by
 have:4000/c≤4000:=Nat.div_le_self _ _
 rw[Ah1,Int.tdiv_eq_ediv_of_nonneg (by omega),show(4000:Int)=((4000:Nat):Int)from rfl,←Int.natCast_ediv]
 generalize 4000/c=k at*
 exact Cg (by omega) (by omega)
theorem Bcl{f c w r n:Nat}(h:shapeB f c w r n=true):Af2 (f:Int) (c:Int) (w:Int) (r:Int) (n:Int)=some (fitB c r n):=by
 simp only[shapeB,decide_eq_true_eq]at h
 have hd:4000/c≤4000:=Nat.div_le_self _ _
 rw[Af2,Db (by rw[Ag];simp;omega),Aa,Cft (by omega),fitB]
 generalize 4000/c=m at*
 by_cases h1:n≤m
 ·rw[if_neg (by rw[Am];simp;omega),Bhn (by omega) (by omega) (by omega) (by omega),Aa]
  generalize(n-1)/longN r+1=k
  by_cases h2:1000<k
  ·rw[if_pos h2]
   simp[Al,Arr]
   omega
  ·rw[if_neg h2]
   simp[Al,Arr,h1]
   omega
 ·rw[if_pos (by rw[Am];simp;omega)]
  simp[h1]
theorem Bgw{f c w r n:Nat}(h:shapeB f c w r n=true):Tj (f:Int) (c:Int) (w:Int) (r:Int) (n:Int)=some (!fitB c r n):=by
 simp only[shapeB,decide_eq_true_eq]at h
 have hd:4000/c≤4000:=Nat.div_le_self _ _
 rw[Tj,Db (by rw[Ag];simp;omega),Aa,Cft (by omega),fitB]
 generalize 4000/c=m at*
 by_cases h1:n≤m
 ·rw[if_neg (by rw[Am];simp;omega),Aoc (by omega) (by omega) (by omega),Aa,Ac,Bdc]
  generalize(n-1)/longN r+1=k
  congr 1
  rw[Am,Bool.eq_iff_iff]
  simp only[decide_eq_true_eq,Bool.not_eq_true',decide_eq_false_iff_not]
  omega
 ·rw[if_pos (by rw[Am];simp;omega)]
  simp[h1]
def Atz:List UInt8:=[84,84,65,49]
def f0(b:List UInt8):Nat:=Ee (part b 4 2)
def f1(b:List UInt8):Nat:=Ee (part b 6 2)
def f2(b:List UInt8):Nat:=Ee (part b 8 2)
def f3(b:List UInt8):Nat:=Ee (part b 10 4)
def f4(b:List UInt8):Nat:=Ee (part b 14 4)
abbrev H6:=Int×Int×Int×Int×Int×Int
def readS(b:List UInt8):H6:=
 if b.take (min 4 b.length)≠Atz.take (min 4 b.length)then(0,0,0,0,0,12)else if b.length<22 then(0,0,0,0,0,24)else
 if(Hv (b.take 18)).toNat≠Ee (part b 18 4)then(0,0,0,0,0,22)else
 if shapeB (f0 b) (f1 b) (f2 b) (f3 b) (f4 b)=false then(0,0,0,0,0,12)else
 if fitB (f1 b) (f3 b) (f4 b)=false then(0,0,0,0,0,4)else((f0 b:Int),(f1 b:Int),(f2 b:Int),(f3 b:Int),(f4 b:Int),0)
section
variable {b:List UInt8}
theorem rs1(h:b.take (min 4 b.length)≠Atz.take (min 4 b.length)):readS b=(0,0,0,0,0,12):=by rw[readS,if_pos h]
variable (h:b.take (min 4 b.length)=Atz.take (min 4 b.length))
include h
theorem rs2(h2:b.length<22):readS b=(0,0,0,0,0,24):=by rw[readS,if_neg (fun e=>e h),if_pos h2]
variable (h2:¬b.length<22)
include h2
theorem rs3(h3:(Hv (b.take 18)).toNat≠Ee (part b 18 4)):readS b=(0,0,0,0,0,22):=by rw[readS,if_neg (fun e=>e h),if_neg h2,if_pos h3]
variable (h3:(Hv (b.take 18)).toNat=Ee (part b 18 4))
include h3
theorem rs4(h4:shapeB (f0 b) (f1 b) (f2 b) (f3 b) (f4 b)=false):readS b=(0,0,0,0,0,12):=by rw[readS,if_neg (fun e=>e h),if_neg h2,if_neg (fun e=>e h3),if_pos h4]
variable (h4:shapeB (f0 b) (f1 b) (f2 b) (f3 b) (f4 b)=true)
include h4
theorem rs5(h5:fitB (f1 b) (f3 b) (f4 b)=false):readS b=(0,0,0,0,0,4):=by rw[readS,if_neg (fun e=>e h),if_neg h2,if_neg (fun e=>e h3),if_neg (by rw[h4];simp),if_pos h5]
theorem rs6(h5:fitB (f1 b) (f3 b) (f4 b)=true):readS b=((f0 b:Int),(f1 b:Int),(f2 b:Int),(f3 b:Int),(f4 b:Int),0):=by rw[readS,if_neg (fun e=>e h),if_neg h2,if_neg (fun e=>e h3),if_neg (by rw[h4];simp),if_neg (by rw[h5];simp)]
end
theorem Cah(b:List UInt8)(h2:¬b.length<22):Ay (Ae (Hv (b.take 18)):UInt64) (leU (part b 18 4))=decide ((Hv (b.take 18)).toNat≠Ee (part b 18 4)):=by
 rw[Ait,Ie,Bool.eq_iff_iff]
 simp only[bne_iff_ne,ne_eq,decide_eq_true_eq]
 rw[←UInt64.toNat_inj,Amy (by have:=(Hv (b.take 18)).toNat_lt;omega),Al9 (by rw[Df (by omega)];omega)]
theorem Atl(b:List UInt8)(a w:Nat)(i q:Nat)(l:List Int)(hi:i<5)(hl:l.length=5)(hw:getI ([2,2,2,4,4]:List Int) (i:Int)=some (w:Int))(h1:1≤w)(h4:w≤4)(ha:a+w≤b.length)(hb:b.length<4611686018427387904):
  Lz b (q+1) (a:Int) (i:Int) l=Lz b q ((a+w:Nat):Int) ((i+1:Nat):Int) (l.set i (Ee (part b a w):Int)):=by
 rw[Lz,Ack,if_pos (by rw[Af];simp;omega),hw,Aa,Bkj b a w h1 (by omega) ha hb,Aa]
 simp only
 rw[By (by omega),Aa,Xd _ (by omega),Aa,Afg (by rw[Df ha];omega),Aj (by omega) (by omega),Aj (by omega) (by omega)]
 rfl
theorem Caa(b:List UInt8)(h22:¬b.length<22)(hb:b.length<4611686018427387904):Aa2 b 4 0 (List.replicate 5 0)=Ac6 [(f0 b:Int),(f1 b:Int),(f2 b:Int),(f3 b:Int),(f4 b:Int)]:=by
 have hF:FUEL=(FUEL-6)+1+1+1+1+1+1:=by have:=Ao;omega
 rw[Aa2,hF,show(4:Int)=((4:Nat):Int)from rfl,show(0:Int)=((0:Nat):Int)from rfl]
 rw[Atl b 4 2 0 _ _ (by omega) (by simp) rfl (by omega) (by omega) (by omega) hb,Atl b 6 2 1 _ _ (by omega) (by simp) rfl (by omega) (by omega) (by omega) hb,Atl b 8 2 2 _ _ (by omega) (by simp) rfl (by omega) (by omega) (by omega) hb,
  Atl b 10 4 3 _ _ (by omega) (by simp) rfl (by omega) (by omega) (by omega) hb,Atl b 14 4 4 _ _ (by omega) (by simp) rfl (by omega) (by omega) (by omega) hb,Lz,Ack,if_neg (by rw[Af];simp)]
 rfl
theorem Cjr(b:List UInt8):Hx [84,84,65,49] (b.take (min 4 b.length))=some (decide (b.take (min 4 b.length)=Atz.take (min 4 b.length))):=by
 have hl:(b.take (min 4 b.length)).length=min 4 b.length:=by rw[List.length_take];omega
 rw[Hx,Fv,if_pos (by rw[Dq,Ac,Ac,hl];simp;omega),Ac,hl,Cp (by omega) (by simp;omega),Aa,Aa,Int.toNat_natCast]
 congr 1
 rw[Bool.eq_iff_iff]
 rw[decide_eq_true_eq,beq_iff_eq]
 exact eq_comm
theorem Ch7(b:List UInt8):Dz (4:Int) (Ac b)=((min 4 b.length:Nat):Int):=by rw[Ak9,Ac];omega
theorem Aji(b:List UInt8)(hb:b.length<4611686018427387904):Jr b=some (readS b):=by
 rw[Jr,Akw,Ch7,Cp (by omega) (by omega),Aa,Int.toNat_natCast,Cjr,Aa]
 by_cases h:b.take (min 4 b.length)=Atz.take (min 4 b.length)
 ·rw[if_neg (by simpa using h)]
  by_cases h2:b.length<22
  ·rw[if_pos (by rw[Af,Ac];simp;omega),rs2 h h2]
  ·have a1:Aoq b 18 4=some (leU (part b 18 4),0):=Bkj b 18 4 (by omega) (by omega) (by omega) hb
   rw[if_neg (by rw[Af,Ac];simp;omega),a1,Aa]
   simp only
   rw[Cp (by omega) (by omega),Aa,show(18:Int).toNat=18 from rfl,Bq8 _ (by simp;omega),Aa]
   simp only
   rw[Cah b h2]
   by_cases h3:(Hv (b.take 18)).toNat=Ee (part b 18 4)
   ·rw[if_neg (by simpa using h3),Caa b h2 hb,Ac6,Auj]
    rw[show getI [(f0 b:Int),(f1 b:Int),(f2 b:Int),(f3 b:Int),(f4 b:Int)] 0=some (f0 b:Int)from rfl,show getI [(f0 b:Int),(f1 b:Int),(f2 b:Int),(f3 b:Int),(f4 b:Int)] 1=some (f1 b:Int)from rfl,show getI [(f0 b:Int),(f1 b:Int),(f2 b:Int),(f3 b:Int),(f4 b:Int)] 2=some (f2 b:Int)from rfl,
     show getI [(f0 b:Int),(f1 b:Int),(f2 b:Int),(f3 b:Int),(f4 b:Int)] 3=some (f3 b:Int)from rfl,show getI [(f0 b:Int),(f1 b:Int),(f2 b:Int),(f3 b:Int),(f4 b:Int)] 4=some (f4 b:Int)from rfl]
    simp only[Aa,Au3]
    cases h4:shapeB (f0 b) (f1 b) (f2 b) (f3 b) (f4 b)with
    |false=>rw[rs4 h h2 h3 h4];rfl
    |true=>
     rw[Bcl h4,if_neg (by simp),Aa]
     cases h5:fitB (f1 b) (f3 b) (f4 b)with
     |false=>rw[rs5 h h2 h3 h4 h5];rfl
     |true=>rw[rs6 h h2 h3 h4 h5];rfl
   ·rw[if_pos (by simpa using h3),rs3 h h2 h3]
 ·rw[if_pos (by simpa using h),rs1 h]
theorem An7(b:List UInt8)(hb:b.length<4611686018427387904):Ke b=some (readS b):=by
 rw[Ke,Ago,Ch7,Cp (by omega) (by omega),Aa,Int.toNat_natCast,Cp (by omega) (by simp;omega),Aa,Int.toNat_natCast]
 by_cases h:b.take (min 4 b.length)=Atz.take (min 4 b.length)
 ·rw[if_neg (by rw[h];simp[Atz]),Aft,Af5]
  by_cases h2:b.length<22
  ·rw[if_pos (by rw[Af,Ac];simp;omega),rs2 h h2]
  ·have a1:Ba b 18 22=some (part b 18 4):=Np 18 4 (by omega)
   have c1:Ba b 4 6=some (part b 4 2):=Np 4 2 (by omega)
   have c2:Ba b 6 8=some (part b 6 2):=Np 6 2 (by omega)
   have c3:Ba b 8 10=some (part b 8 2):=Np 8 2 (by omega)
   have c4:Ba b 10 14=some (part b 10 4):=Np 10 4 (by omega)
   have c5:Ba b 14 18=some (part b 14 4):=Np 14 4 (by omega)
   have hs:Ay (leU (part b 18 4)) (Ae (Hv (b.take 18)):UInt64)=decide ((Hv (b.take 18)).toNat≠Ee (part b 18 4)):=by
    rw[←Cah b h2,Ait,Ait,Bool.eq_iff_iff];simp only[bne_iff_ne,ne_eq];exact not_congr eq_comm
   have lp:∀a w,a+w≤b.length→Dc (part b a w)=some (leU (part b a w)):=fun a w h=>Bon _ (by rw[Df h];omega)
   rw[if_neg (by rw[Af,Ac];simp;omega),a1,Aa,Cp (by omega) (by omega),Aa,show(18:Int).toNat=18 from rfl,lp _ _ (by omega),Aa,Bx8 _ (by simp;omega),Aa,hs]
   by_cases h3:(Hv (b.take 18)).toNat=Ee (part b 18 4)
   ·rw[if_neg (by simpa using h3),Agl,Ahf,c1,Aa,c2,Aa,c3,Aa,c4,Aa,c5,Aa,lp _ _ (by omega),Aa,lp _ _ (by omega),Aa,lp _ _ (by omega),Aa,lp _ _ (by omega),Aa,lp _ _ (by omega),Aa,
     Agt,Afs,Afg (by rw[Df (by omega)];omega),Afg (by rw[Df (by omega)];omega),Afg (by rw[Df (by omega)];omega),Afg (by rw[Df (by omega)];omega),Afg (by rw[Df (by omega)];omega)]
    rw[show Ee (part b 4 2)=f0 b from rfl,show Ee (part b 6 2)=f1 b from rfl,show Ee (part b 8 2)=f2 b from rfl,show Ee (part b 10 4)=f3 b from rfl,show Ee (part b 14 4)=f4 b from rfl,Axz,Aa]
    cases h4:shapeB (f0 b) (f1 b) (f2 b) (f3 b) (f4 b)with
    |false=>rw[rs4 h h2 h3 h4];rfl
    |true=>
     rw[Bgw h4,if_neg (by simp),Aa]
     cases h5:fitB (f1 b) (f3 b) (f4 b)with
     |false=>rw[rs5 h h2 h3 h4 h5];rfl
     |true=>rw[rs6 h h2 h3 h4 h5];rfl
   ·rw[if_pos (by simpa using h3),rs3 h h2 h3]
 ·rw[if_pos (by simpa [Atz]using h),rs1 h]
theorem At7{b:List UInt8}(h:(readS b).2.2.2.2.2=0):readS b=((f0 b:Int),(f1 b:Int),(f2 b:Int),(f3 b:Int),(f4 b:Int),0)∧22≤b.length∧shapeB (f0 b) (f1 b) (f2 b) (f3 b) (f4 b)=true∧fitB (f1 b) (f3 b) (f4 b)=true:=by
 unfold readS at h⊢
 split at h; · simp at h
 rename_i c1;rw[if_neg c1]
 split at h; · simp at h
 rename_i c2;rw[if_neg c2]
 split at h; · simp at h
 rename_i c3;rw[if_neg c3]
 split at h; · simp at h
 rename_i c4;rw[if_neg c4]
 split at h; · simp at h
 rename_i c5;rw[if_neg c5]
 exact⟨rfl,by omega,by simpa using c4,by simpa using c5⟩
theorem As3{f c w r n:Nat}(h:shapeB f c w r n=true)(h2:fitB c r n=true):Cu (f:Int) (c:Int) (w:Int) (r:Int) (n:Int)=some (framesL (longN r) n,0):=by
 have hc:Rb (f:Int) (c:Int) (w:Int) (r:Int) (n:Int)=some 0:=by
  rw[Rb,Au3,Aa,h,if_neg (by simp),Bcl h,Aa,h2];rfl
 have hd:4000/c≤4000:=Nat.div_le_self _ _
 simp only[shapeB,decide_eq_true_eq]at h
 simp only[fitB,decide_eq_true_eq]at h2
 rw[Cu,hc,Aa,if_neg (by rw[Ag];simp),Bzb (by omega) (by omega) (by omega) (by omega) h2.2]
 rfl
end Go.Pl
set_option linter.unusedVariables false
set_option linter.unusedSimpArgs false
namespace Go.Pl
open Go Go.Lv
def okL:List Int→Int→Bool
 |[],_=>true
 |x::l,left=>decide (5≤x∧x≤left)&&okL l (left-x)
theorem Bzi:∀l:List Int,(∀x∈l,5≤x)→0≤l.sum
 |[],_=>by simp
 |x::l,h=>by
  have h1:=h x List.mem_cons_self
  have h2:=Bzi l fun y hy=>h y (List.mem_cons_of_mem _ hy)
  rw[List.sum_cons];omega
theorem Ai6:∀(l:List Int) (left:Int),0≤left→(okL l left=true↔(∀x∈l,5≤x)∧l.sum≤left)
 |[],left,h=>by simp[okL];exact h
 |x::l,left,h=>by
  rw[okL,Bool.and_eq_true,decide_eq_true_eq,List.sum_cons]
  by_cases hx:5≤x∧x≤left
  ·rw[Ai6 l (left-x) (by omega)]
   constructor
   ·rintro⟨_,h1,h2⟩
    exact⟨fun y hy=>(List.mem_cons.1 hy).elim (fun e=>e▸hx.1) (h1 y),by omega⟩
   ·rintro⟨h1,h2⟩
    exact⟨hx,fun y hy=>h1 y (List.mem_cons_of_mem _ hy),by omega⟩
  ·constructor
   ·rintro⟨h1,_⟩;exact absurd h1 hx
   ·rintro⟨h1,h2⟩
    have h3:=h1 x List.mem_cons_self
    have:0≤l.sum:=Bzi l fun y hy=>h1 y (List.mem_cons_of_mem _ hy)
    omega
theorem Bh0(l:List Int)(hl:l.length≤1000):∀(j i q:Nat) (left:Int),i+j=l.length→j<q→0≤left→left≤100000→Pw l q left (i:Int)=some (if okL (l.drop i) left=true then 0 else 8)
 |0,i,q+1,left,hi,_,_,_=>by
  rw[Pw,Ac1,if_neg (by rw[Af,Ac];simp;omega),show i=l.length by omega,List.drop_length];rfl
 |j+1,i,q+1,left,hi,hq,h0,h1=>by
  have hlt:i<l.length:=by omega
  rw[Pw,Ac1,if_pos (by rw[Af,Ac];simp;omega),By hlt,Aa,drop_cons hlt]
  by_cases h:5≤l[i]∧l[i]≤left
  ·rw[if_neg (by simp[Af,Am];omega),Bv (by omega) (by omega),Aj (by omega) (by omega)]
   have ih:=Bh0 l hl j (i+1) q (left-l[i]) (by omega) (by omega) (by omega) (by omega)
   rw[show((i:Int)+1)=((i+1:Nat):Int) by omega,ih]
   simp[okL,h]
  ·rw[if_pos (by simp[Af,Am];omega)]
   have:okL (l[i]::l.drop (i+1)) left=false:=by rw[okL,decide_eq_false h];rfl
   rw[this];rfl
def tabB(l:List Int):Bool:=decide (1≤l.length∧l.length≤1000)&&okL l 100000
theorem Bmf(l:List Int)(hl:l.length≤1000):Nt l=some (if tabB l=true then 0 else 8):=by
 rw[Nt,Aax,tabB]
 by_cases h:1≤l.length
 ·rw[if_neg (by rw[Al,Am,Ac];simp;constructor;(intro e;subst e;simp at h);omega),Ajs]
  have:=Bh0 l hl l.length 0 FUEL 100000 (by omega) (by have:=Ao;omega) (by omega) (by omega)
  rw[List.drop_zero]at this
  rw[decide_eq_true (show 1≤l.length∧l.length≤1000 from⟨h,hl⟩),Bool.true_and]
  exact this
 ·have:l=[]:=by
   cases l with
   |nil=>rfl
   |cons _ _=>simp at h
  subst this;rfl
theorem Bjx(l:List Int)(hl:l.length≤1000):∀(j i q:Nat) (s:Int),i+j=l.length→j<q→0≤s→s≤100000*(i:Int)→It l q s (i:Int)=some (if(∀x∈l.drop i,5≤x∧x≤100000)∧s+(l.drop i).sum≤100000 then 0 else 8)
 |0,i,q+1,s,hi,_,_,_=>by
  rw[It,Sa,if_neg (by rw[Af,Ac];simp;omega),show i=l.length by omega,List.drop_length,Aaq,Ab1]
  by_cases h:s≤100000
  ·rw[if_neg (by rw[Am];simp;omega),if_pos (by simp;omega)]
  ·rw[if_pos (by rw[Am];simp;omega),if_neg (by simp;omega)]
 |j+1,i,q+1,s,hi,hq,h0,h1=>by
  have hlt:i<l.length:=by omega
  rw[It,Sa,if_pos (by rw[Af,Ac];simp;omega),By hlt,Aa,drop_cons hlt]
  by_cases h5:l[i]<5
  ·rw[if_pos (by rw[Af];simpa using h5),if_neg (fun h=>by have:=(h.1 l[i] List.mem_cons_self).1;omega)]
  ·rw[if_neg (by rw[Af];simpa using h5),Aa]
   by_cases h6:100000<l[i]
   ·rw[if_pos (by rw[Am];simpa using h6),if_neg (fun h=>by have:=(h.1 l[i] List.mem_cons_self).2;omega)]
   ·rw[if_neg (by rw[Am];simpa using h6),Ad6,Ad5,By hlt,Aa,Aj (by omega) (by omega),Aj (by omega) (by omega)]
    have ih:=Bjx l hl j (i+1) q (s+l[i]) (by omega) (by omega) (by omega) (by omega)
    rw[show((i:Int)+1)=((i+1:Nat):Int) by omega,ih]
    have e:((∀x∈l.drop (i+1),5≤x∧x≤100000)∧s+l[i]+(l.drop (i+1)).sum≤100000)↔((∀x∈l[i]::l.drop (i+1),5≤x∧x≤100000)∧s+(l[i]::l.drop (i+1)).sum≤100000):=by
     rw[List.sum_cons,List.forall_mem_cons,Int.add_assoc]
     constructor
     ·rintro⟨a,b⟩;exact⟨⟨by omega,a⟩,b⟩
     ·rintro⟨⟨_,a⟩,b⟩;exact⟨a,b⟩
    simp only[e]
theorem Blq:∀{l:List Int},(∀x∈l,5≤x)→∀x∈l,x≤l.sum
 |[],_,x,hx=>by simp at hx
 |y::l,h,x,hx=>by
  have h1:=h y List.mem_cons_self
  have h2:=Bzi l fun z hz=>h z (List.mem_cons_of_mem _ hz)
  rw[List.sum_cons]
  rcases List.mem_cons.1 hx with rfl|hx
  ·omega
  ·have:=Blq (l:=l) (fun z hz=>h z (List.mem_cons_of_mem _ hz)) x hx
   omega
theorem Bqi(l:List Int)(hl:l.length≤1000):Gp l=some (if tabB l=true then 0 else 8):=by
 rw[Gp,So,tabB]
 by_cases h:1≤l.length
 ·have:=Bjx l hl l.length 0 FUEL 0 (by omega) (by have:=Ao;omega) (by omega) (by omega)
  rw[if_neg (by rw[Af,Am,Ac];simp;omega),Ad2]
  refine Eq.trans this ?_
  rw[List.drop_zero,decide_eq_true (show 1≤l.length∧l.length≤1000 from⟨h,hl⟩),Bool.true_and]
  have e:((∀x∈l,5≤x∧x≤100000)∧0+l.sum≤100000)↔okL l 100000=true:=by
   rw[Ai6 l 100000 (by omega),Int.zero_add]
   constructor
   ·rintro⟨a,b⟩;exact⟨fun x hx=>(a x hx).1,b⟩
   ·rintro⟨a,b⟩;exact⟨fun x hx=>⟨a x hx,Int.le_trans (Blq a x hx) b⟩,b⟩
  simp only[e]
 ·have:l=[]:=by
   cases l with
   |nil=>rfl
   |cons _ _=>simp at h
  subst this;rfl
theorem Au4(l:List Int):Nt l=some (if tabB l=true then 0 else 8):=by
 by_cases hl:l.length≤1000
 ·exact Bmf l hl
 ·rw[Nt,Aax,if_pos (by rw[Am,Ac];simp;omega),tabB,decide_eq_false (by omega)];rfl
theorem Anb(l:List Int):Gp l=some (if tabB l=true then 0 else 8):=by
 by_cases hl:l.length≤1000
 ·exact Bqi l hl
 ·rw[Gp,So,if_pos (by rw[Am,Ac];simp;omega),tabB,decide_eq_false (by omega)];rfl
theorem Bst(l:List Int)(hl:l.length≤1000)(hx:∀x∈l,0≤x∧x<4294967296):Nt l=some (if tabB l=true then 0 else 8):=Au4 l
theorem Bw1(l:List Int)(hl:l.length≤1000)(hx:∀x∈l,0≤x∧x<4294967296):Gp l=some (if tabB l=true then 0 else 8):=Anb l
def Ai9(b:List UInt8)(n:Nat):List Int:=(List.range n).map fun i=>(Ee (part b (4*i) 4):Int)
theorem Rl(b:List UInt8)(n:Nat):(Ai9 b n).length=n:=by simp[Ai9]
theorem Bkt(b:List UInt8)(n:Nat):Ai9 b (n+1)=Ai9 b n++[(Ee (part b (4*n) 4):Int)]:=by simp[Ai9,List.range_succ]
theorem Bs6(b:List UInt8)(n:Nat)(h:4*n≤b.length):∀x∈Ai9 b n,0≤x∧x<4294967296:=by
 intro x hx
 simp only[Ai9,List.mem_map,List.mem_range]at hx
 obtain⟨i,hi,rfl⟩:=hx
 have:=Bve (l:=part b (4*i) 4) (by rw[Df (by omega)];omega)
 omega
def seekS(b:List UInt8)(n:Nat):List Int×Int:=
 if ¬(1≤n∧n≤1000)then([],2)else if b.length<4*n+4 then([],24)else if(Hv (b.take (4*n))).toNat≠Ee (part b (4*n) 4)then([],22)else
 if tabB (Ai9 b n)=true then(Ai9 b n,0)else([],12)
theorem Bt0{b:List UInt8}{n:Nat}(h:1≤n∧n≤1000)(h2:¬b.length<4*n+4):Ay (Ae (Hv (b.take (4*n))):UInt64) (leU (part b (4*n) 4))=decide ((Hv (b.take (4*n))).toNat≠Ee (part b (4*n) 4)):=by
 rw[Ait,Ie,Bool.eq_iff_iff]
 simp only[bne_iff_ne,ne_eq,decide_eq_true_eq]
 rw[←UInt64.toNat_inj,Amy (by have:=(Hv (b.take (4*n))).toNat_lt;omega),Al9 (by rw[Df (by omega)];omega)]
section
variable {b:List UInt8} {n:Nat}
theorem ss1(h:¬(1≤n∧n≤1000)):seekS b n=([],2):=by rw[seekS,if_pos h]
variable (h:1≤n∧n≤1000)
include h
theorem ss2(h2:b.length<4*n+4):seekS b n=([],24):=by rw[seekS,if_neg (fun e=>e h),if_pos h2]
variable (h2:¬b.length<4*n+4)
include h2
theorem ss3(h3:(Hv (b.take (4*n))).toNat≠Ee (part b (4*n) 4)):seekS b n=([],22):=by rw[seekS,if_neg (fun e=>e h),if_neg h2,if_pos h3]
theorem ss4(h3:(Hv (b.take (4*n))).toNat=Ee (part b (4*n) 4)):seekS b n=if tabB (Ai9 b n)=true then(Ai9 b n,0)else([],12):=by rw[seekS,if_neg (fun e=>e h),if_neg h2,if_neg (fun e=>e h3)]
end
theorem Bkv(b:List UInt8)(l8:List Int)(n:Nat)(hn:n≤1000)(h8:l8.length=n)(hb:4*n+4≤b.length)(hb2:b.length<4611686018427387904):∀(j i q:Nat),i+j=n→j<q→Rw b l8 q (i:Int) (Ai9 b i++List.replicate j 0)=Afh (Ai9 b n)
 |0,i,q+1,hi,_=>by
  obtain rfl:i=n:=by omega
  rw[Rw,Afk,if_neg (by rw[Af,Ac];simp;omega)];simp
 |j+1,i,q+1,hi,hq=>by
  have hlen:(Ai9 b i++List.replicate (j+1) 0).length=i+(j+1):=by simp[Rl]
  have ha:=Bkj b (4*i) 4 (by omega) (by omega) (by omega) hb2
  rw[Rw,Afk,if_pos (by rw[Af,Ac];simp;omega),Hl (by omega) (by omega),show(4:Int)*(i:Int)=((4*i:Nat):Int) by omega,show(4:Int)=((4:Nat):Int)from rfl,ha,Aa]
  simp only
  rw[By (by rw[hlen];omega),Aa,Xd _ (by rw[hlen];omega),Aa,Afg (by rw[Df (by omega)];omega),Aj (by omega) (by omega),List.replicate_succ,Avw (Rl _ _)]
  have ih:=Bkv b l8 n hn h8 hb hb2 j (i+1) q (by omega) (by omega)
  rw[Bkt]at ih
  rw[show((i:Int)+1)=((i+1:Nat):Int) by omega,←ih]
  simp
theorem Av2(b:List UInt8)(n:Nat)(hb:b.length≤100100):Yq b (n:Int)=some (seekS b n):=by
 rw[Yq,Anl]
 by_cases h:1≤n∧n≤1000
 ·rw[if_neg (by simp[Af,Am];omega),Hl (by omega) (by omega),Aj (by omega) (by omega)]
  by_cases h2:b.length<4*n+4
  ·rw[if_pos (by rw[Af,Ac];simp;omega),ss2 h h2]
  ·have ha:Aoq b (4*(n:Int)) 4=some (leU (part b (4*n) 4),0):=by
    rw[show(4:Int)*(n:Int)=((4*n:Nat):Int) by omega]
    exact Bkj b (4*n) 4 (by omega) (by omega) (by omega) (by omega)
   rw[if_neg (by rw[Af,Ac];simp;omega),ha,Aa]
   simp only
   rw[Cp (by omega) (by omega),Aa,show(4*(n:Int)).toNat=4*n by omega,Bq8 _ (by simp;omega),Aa]
   simp only
   rw[Bt0 h h2]
   by_cases h3:(Hv (b.take (4*n))).toNat=Ee (part b (4*n) 4)
   ·have hlp:=Bkv b (List.replicate n 0) n (by omega) (by simp) (by omega) (by omega) n 0 FUEL (by omega) (by have:=Ao;omega)
    rw[if_neg (by simpa using h3),Bi3 (by omega) (by omega),Aa,Db (by rw[Al];simp),Aa,Ann,Int.toNat_natCast]
    refine Eq.trans (hlp) ?_
    rw[Afh,Aw5,Bst _ (by rw[Rl];omega) (Bs6 b n (by omega)),Aa,ss4 h h2 h3]
    cases tabB (Ai9 b n)<;>rfl
   ·rw[if_pos (by simpa using h3),ss3 h h2 h3]
 ·rw[if_pos (by simp[Af,Am];omega),ss1 h]
theorem Axv(b:List UInt8)(n:Nat)(hn:n≤1000)(hb:4*n+4≤b.length)(hb2:b.length<4611686018427387904):∀(j i q:Nat),i+j=n→j<q→Jv b (n:Int) q (i:Int) (Ai9 b i)=Us (Ai9 b n)
 |0,i,q+1,hi,_=>by
  obtain rfl:i=n:=by omega
  rw[Jv,Vl,if_neg (by rw[Af];simp)]
 |j+1,i,q+1,hi,hq=>by
  have hc:Ba b ((4:Int)*(i:Int)) ((4:Int)*(i:Int)+4)=some (part b (4*i) 4):=by
   rw[show(4:Int)*(i:Int)=((4*i:Nat):Int) by omega]
   exact Np (4*i) 4 (by omega)
  rw[Jv,Vl,if_pos (by rw[Af];simp;omega),Hl (by omega) (by omega),Aj (by omega) (by omega),hc,Aa,Bon _ (by rw[Df (by omega)];omega),Aa,Cl (by rw[Rl];simp;omega),Aa,
   Afg (by rw[Df (by omega)];omega),Aj (by omega) (by omega),←Bkt]
  exact Axv b n hn hb hb2 j (i+1) q (by omega) (by omega)
theorem Bg0(b:List UInt8)(n:Nat)(hb:b.length≤100100):Nv b (n:Int)=some (seekS b n):=by
 rw[Nv,Ag0]
 by_cases h:1≤n∧n≤1000
 ·rw[if_neg (by simp[Af,Am];omega),Hl (by omega) (by omega),Aj (by omega) (by omega)]
  by_cases h2:b.length<4*n+4
  ·rw[if_pos (by rw[Af,Ac];simp;omega),ss2 h h2]
  ·have hc:Ba b ((4:Int)*(n:Int)) ((4:Int)*(n:Int)+4)=some (part b (4*n) 4):=by
    rw[show(4:Int)*(n:Int)=((4*n:Nat):Int) by omega]
    exact Np (4*n) 4 (by omega)
   have hs:Ay (leU (part b (4*n) 4)) (Ae (Hv (b.take (4*n))):UInt64)=decide ((Hv (b.take (4*n))).toNat≠Ee (part b (4*n) 4)):=by
    rw[←Bt0 h h2,Ait,Ait,Bool.eq_iff_iff];simp only[bne_iff_ne,ne_eq];exact not_congr eq_comm
   rw[if_neg (by rw[Af,Ac];simp;omega),hc,Aa,Cp (by omega) (by omega),Aa,show(4*(n:Int)).toNat=4*n by omega,Bon _ (by rw[Df (by omega)];omega),Aa,Bx8 _ (by simp;omega),Aa,hs]
   by_cases h3:(Hv (b.take (4*n))).toNat=Ee (part b (4*n) 4)
   ·have hlp:=Axv b n (by omega) (by omega) (by omega) n 0 FUEL (by omega) (by have:=Ao;omega)
    rw[if_neg (by simpa using h3),Afx,Agu,Ag5]
    refine Eq.trans hlp ?_
    rw[Us,Af1,Bw1 _ (by rw[Rl];omega) (Bs6 b n (by omega)),Aa,ss4 h h2 h3]
    cases tabB (Ai9 b n)<;>rfl
   ·rw[if_pos (by simpa using h3),ss3 h h2 h3]
 ·rw[if_pos (by simp[Af,Am];omega),ss1 h]
theorem Ao0{b:List UInt8}{n:Nat}(h:(seekS b n).2=0):seekS b n=(Ai9 b n,0)∧1≤n∧n≤1000∧4*n+4≤b.length∧(∀x∈Ai9 b n,5≤x)∧(Ai9 b n).sum≤100000:=by
 unfold seekS at h⊢
 split at h; · simp at h
 rename_i c1;rw[if_neg c1]
 split at h; · simp at h
 rename_i c2;rw[if_neg c2]
 split at h; · simp at h
 rename_i c3;rw[if_neg c3]
 split at h
 ·rename_i c4
  rw[if_pos c4]
  have c4':=c4
  rw[tabB,Bool.and_eq_true,Ai6 _ _ (by omega)]at c4'
  exact⟨rfl,by omega,by omega,by omega,c4'.2.1,c4'.2.2⟩
 ·simp at h
end Go.Pl
set_option linter.unusedVariables false
set_option linter.unusedSimpArgs false
namespace Go.Pl
open Go Go.Lv
def hdr(b:List UInt8):List UInt8:=b.drop (frontS b).1.toNat
abbrev Op8:=Int×Int×Int×Int×Int×Int×(List Int)×Int
def Ang(e:Int):Op8:=(0,0,0,0,0,0,[],e)
theorem Bfs(A K:Nat)(h:A≤200000)(hk:K≤1000):Ad (Ad (A:Int) (Bd 4 (K:Int))) 4=((A+4*K+4:Nat):Int):=by
 rw[Hl (by omega) (by omega),Aj (a:=(A:Int)) (by omega) (by omega),Aj (by omega) (by omega)];omega
theorem Ba9{f c w r n:Nat}(h1:shapeB f c w r n=true)(h2:fitB c r n=true)(b:List UInt8)(hb:b.length≤100100)(A:Nat)(hA:A≤b.length):
  Pn b (f:Int) (c:Int) (w:Int) (r:Int) (n:Int) (A:Int)=
   some (if(seekS (b.drop A) (framesL (longN r) n).length).2≠0 then Ang (seekS (b.drop A) (framesL (longN r) n).length).2 else((f:Int),(c:Int),(w:Int),(r:Int),(n:Int),((A+4*(framesL (longN r) n).length+4:Nat):Int),(seekS (b.drop A) (framesL (longN r) n).length).1,0)):=by
 rw[Pn,Avn,As3 h1 h2,Aa]
 simp only
 rw[if_neg (by rw[Ag];simp),Bg (by omega) (by omega),Aa,Ac,show(A:Int).toNat=A from rfl,Av2 _ _ (by simp;omega),Aa]
 by_cases h:(seekS (b.drop A) (framesL (longN r) n).length).2≠0
 ·rw[if_pos h,if_pos (by rw[Ag];simpa using h)];rfl
 ·have h0:(seekS (b.drop A) (framesL (longN r) n).length).2=0:=by simpa using h
  obtain⟨g1,g2,g3,g4,g5,g6⟩:=Ao0 h0
  have gl:(seekS (b.drop A) (framesL (longN r) n).length).1.length=(framesL (longN r) n).length:=by rw[g1];exact Rl _ _
  rw[if_neg h,if_neg (by rw[Ag];simpa using h),Ac,gl,Bfs _ _ (by omega) (by omega)]
theorem Byq{f c w r n:Nat}(h1:shapeB f c w r n=true)(h2:fitB c r n=true)(b:List UInt8)(hb:b.length≤100100)(A:Nat)(hA:A≤b.length):
  Lc b (f:Int) (c:Int) (w:Int) (r:Int) (n:Int) (A:Int)=
   some (if(seekS (b.drop A) (framesL (longN r) n).length).2≠0 then Ang (seekS (b.drop A) (framesL (longN r) n).length).2 else((f:Int),(c:Int),(w:Int),(r:Int),(n:Int),((A+4*(framesL (longN r) n).length+4:Nat):Int),(seekS (b.drop A) (framesL (longN r) n).length).1,0)):=by
 have hs:(1≤r∧r≤1048576)∧1≤n∧1≤c:=by
  simp only[shapeB,decide_eq_true_eq]at h1;omega
 have hf:n≤4000:=by
  simp only[fitB,decide_eq_true_eq]at h2
  have:=Nat.div_le_self 4000 c
  omega
 rw[Lc,Abn,Bg (by omega) (by omega),Aa,Aoc hs.1.2 hs.2.1 hf,Aa,Ac,show(A:Int).toNat=A from rfl,Bg0 _ _ (by simp;omega),Aa]
 simp only
 rw[Abi,Aa8]
 by_cases h:(seekS (b.drop A) (framesL (longN r) n).length).2≠0
 ·rw[if_pos h,if_pos (by rw[Ag];simpa using h)];rfl
 ·have h0:(seekS (b.drop A) (framesL (longN r) n).length).2=0:=by simpa using h
  obtain⟨g1,g2,g3,g4,g5,g6⟩:=Ao0 h0
  have gl:(seekS (b.drop A) (framesL (longN r) n).length).1.length=(framesL (longN r) n).length:=by rw[g1];exact Rl _ _
  rw[if_neg h,if_neg (by rw[Ag];simpa using h),Ac,gl,Bfs _ _ (by omega) (by omega)]
structure Opn (b p:List UInt8) (f c w r n A:Nat) (l:List Int):Prop where
 prog:seekto_Open b p=some ((f:Int),(c:Int),(w:Int),(r:Int),(n:Int),(A:Int),l,0)
 ref:cadenzaref40_Opened b p=some ((f:Int),(c:Int),(w:Int),(r:Int),(n:Int),(A:Int),l,0)
 pass:p.length≤64
 file:b.length≤100000
 shape:shapeB f c w r n=true
 fit:fitB c r n=true
 len:l.length=(framesL (longN r) n).length
 some1:1≤l.length∧l.length≤1000
 five:∀x∈l,5≤x
 sum:l.sum≤100000
 at':A≤b.length
 tag:(frontS b).2=0
 head:readS (hdr b)=((f:Int),(c:Int),(w:Int),(r:Int),(n:Int),0)
 tab:seekS (b.drop ((frontS b).1.toNat+22+(if f=2 then 8 else 0))) l.length=(l,0)
 pos:A=(frontS b).1.toNat+22+(if f=2 then 8 else 0)+4*l.length+4
theorem Beh(b p:List UInt8)(hb:b.length≤100100)(hp:p.length≤64):
  (∃e:Int,e≠0∧seekto_Open b p=some (Ang e)∧cadenzaref40_Opened b p=some (Ang e))∨(∃f c w r n A l,Opn b p f c w r n A l):=by
 by_cases h1:100000<b.length
 ·refine .inl ⟨4,by omega,?_,?_⟩
  ·rw[seekto_Open,Uw,if_neg (by rw[Am,Ac];simp;omega),if_pos (by rw[Am,Ac];simp;omega)];rfl
  ·rw[cadenzaref40_Opened,Qe,if_pos (by rw[Am,Ac];simp;omega)];rfl
 have hP:seekto_Open b p=seekto_Open b p:=rfl
 have hR:cadenzaref40_Opened b p=cadenzaref40_Opened b p:=rfl
 conv at hP=>rhs;rw[seekto_Open,Uw,if_neg (by rw[Am,Ac];simp;omega),if_neg (by rw[Am,Ac];simp;omega),Qa b (by omega),Aa]
 conv at hR=>rhs;rw[cadenzaref40_Opened,Qe,if_neg (by rw[Am,Ac];simp;omega),Wl b (by omega),Aa]
 by_cases h2:(frontS b).2=0
 ·obtain⟨p0,p1,p2⟩:=Wd h2
  have hc:=Bg (l:=b) p0 p1
  simp only[h2]at hP hR
  rw[if_neg (by rw[Ag];simp),hc,Aa,show b.drop (frontS b).1.toNat=hdr b from rfl,Aji _ (by simp[hdr];omega),Aa]at hP
  rw[if_neg (by rw[Ag];simp),hc,Aa,show b.drop (frontS b).1.toNat=hdr b from rfl,An7 _ (by simp[hdr];omega),Aa]at hR
  by_cases h3:(readS (hdr b)).2.2.2.2.2=0
  ·obtain⟨g1,g2,g3,g4⟩:=At7 h3
   have hlen:(hdr b).length=b.length-(frontS b).1.toNat:=by simp[hdr]
   generalize hF:(frontS b).1.toNat=F at*
   have hF':(frontS b).1=(F:Int):=by omega
   rw[g1,hF']at hP hR
   simp only at hP hR
   generalize f0 (hdr b)=f at*
   generalize f1 (hdr b)=c at*
   generalize f2 (hdr b)=w at*
   generalize f3 (hdr b)=r at*
   generalize f4 (hdr b)=n at*
   have t22:Ad (F:Int) 22=((F+22:Nat):Int):=by rw[Aj (by omega) (by omega)];omega
   have t30:Ad ((F+22:Nat):Int) 8=((F+30:Nat):Int):=by rw[Aj (by omega) (by omega)];omega
   have hf12:f=1∨f=2:=by simp only[shapeB,decide_eq_true_eq]at g3;omega
   rw[if_neg (by rw[Ag];simp),t22,t30]at hP hR
   have hend:∀A:Nat,A≤b.length→A=F+22+(if f=2 then 8 else 0)→seekto_Open b p=Pn b (f:Int) (c:Int) (w:Int) (r:Int) (n:Int) (A:Int)→cadenzaref40_Opened b p=Lc b (f:Int) (c:Int) (w:Int) (r:Int) (n:Int) (A:Int)→
     (∃e:Int,e≠0∧seekto_Open b p=some (Ang e)∧cadenzaref40_Opened b p=some (Ang e))∨(∃f c w r n A l,Opn b p f c w r n A l):=by
    intro A hA hA2 e1 e2
    rw[Ba9 g3 g4 b hb A hA]at e1
    rw[Byq g3 g4 b hb A hA]at e2
    by_cases h:(seekS (b.drop A) (framesL (longN r) n).length).2≠0
    ·rw[if_pos h]at e1 e2
     exact .inl ⟨_,h,e1,e2⟩
    ·have h0:(seekS (b.drop A) (framesL (longN r) n).length).2=0:=by simpa using h
     obtain⟨k1,k2,k3,k4,k5,k6⟩:=Ao0 h0
     have gl:(seekS (b.drop A) (framesL (longN r) n).length).1.length=(framesL (longN r) n).length:=by rw[k1];exact Rl _ _
     rw[if_neg h]at e1 e2
     rw[List.length_drop]at k4
     refine .inr ⟨f,c,w,r,n,_,_,⟨e1,e2,hp,by omega,g3,g4,gl,by omega,by rw[k1];exact k5,by rw[k1];exact k6,by omega,h2,g1,by rw[gl,hF,←hA2];exact Prod.ext rfl h0,by rw[gl,hF,←hA2]⟩⟩
   by_cases hpass:((p==([]:List UInt8)) !=(geq (f:Int) (1:Int)))=true
   ·rw[if_pos hpass]at hP hR
    exact .inl ⟨26,by omega,hP,hR⟩
   ·rw[if_neg hpass]at hP hR
    have hpf:(p=[]↔f=1):=by
     rw[Al]at hpass
     have h5:(p==([]:List UInt8))=((f:Int)==1):=by simpa using hpass
     have h6:(p==([]:List UInt8))=true↔((f:Int)==1)=true:=by rw[h5]
     rw[beq_iff_eq,beq_iff_eq]at h6
     rw[h6];omega
    by_cases h5:f=2
    ·have hpne:p≠ []:=fun e=>by have:=hpf.1 e;omega
     have h64:(p !=([]:List UInt8))=true:=by simpa using hpne
     rw[if_pos h64]at hP
     rw[if_pos (by rw[Al,h5];rfl),Bv (by rw[Ac];omega) (by rw[Ac];omega)]at hR
     by_cases h6:b.length<F+30
     ·rw[if_pos (by rw[Af,Ac];simp;omega)]at hP hR
      exact .inl ⟨24,by omega,hP,hR⟩
     ·have hseg:((b.take (F+30)).drop (F+22)).length=8:=by simp;omega
      rw[if_neg (by rw[Af,Ac];simp;omega),Ta (by omega) (by omega) (by omega),Aa]at hP hR
      rw[Lk,Bbv p hp,Aa]at hP
      rw[Apa p hp,Aa]at hR
      simp only at hP
      rw[if_neg (by rw[Ag,Ag,Ac,Ac,My,show((F+30:Nat):Int).toNat=F+30 from rfl,show((F+22:Nat):Int).toNat=F+22 from rfl,hseg];simp),Ge,Aa,Aa]at hP
      simp only at hP
      rw[if_neg (by rw[Ag];simp)]at hP
      generalize(b.take ((F+30:Nat):Int).toNat).drop ((F+22:Nat):Int).toNat=seg at*
      by_cases h7:seg=leB (Wo p).toNat 8
      ·rw[if_neg (by simp[h7])]at hP
       rw[if_neg (by simp[h7])]at hR
       exact hend (F+30) (by omega) (by rw[if_pos h5]) hP hR
      ·rw[if_pos (by simpa using h7)]at hP
       rw[if_pos (by simpa using h7)]at hR
       exact .inl ⟨26,by omega,hP,hR⟩
    ·have hpe:p=[]:=hpf.2 (by omega)
     rw[if_neg (by rw[hpe];simp)]at hP
     rw[if_neg (by rw[Al];simp;omega)]at hR
     exact hend (F+22) (by omega) (by rw[if_neg h5]) hP hR
  ·generalize readS (hdr b)=v at*
   obtain⟨v1,v2,v3,v4,v5,v6⟩:=v
   simp only at h3 hP hR
   rw[if_pos (by rw[Ag];simpa using h3)]at hP hR
   exact .inl ⟨v6,h3,hP,hR⟩
 ·generalize frontS b=v at*
  obtain⟨v,e⟩:=v
  simp only at h2 hP hR
  rw[if_pos (by rw[Ag];simpa using h2)]at hP hR
  exact .inl ⟨e,h2,hP,hR⟩
end Go.Pl
set_option linter.unusedVariables false
set_option linter.unusedSimpArgs false
namespace Go.Pl
open Go Go.Lv
theorem Bk4(l:List Int)(i:Nat):(l.take i).sum+(l.drop i).sum=l.sum:=by
 conv=>rhs;rw[←List.take_append_drop i l,List.sum_append]
theorem Ht{l:List Int}(h5:∀x∈l,5≤x)(i:Nat):0≤(l.take i).sum∧(l.take i).sum≤l.sum:=by
 have h1:=Bzi (l.take i) fun x hx=>h5 x (List.mem_of_mem_take hx)
 have h2:=Bzi (l.drop i) fun x hx=>h5 x (List.mem_of_mem_drop hx)
 have:=Bk4 l i
 omega
theorem Jn{l:List Int}{i:Nat}(h:i<l.length):(l.take (i+1)).sum=(l.take i).sum+l[i]:=by
 rw[Ajh h,List.sum_append];simp
section
variable {l:List Int} (hl:l.length≤1000) (h5:∀x∈l,5≤x) (hs:l.sum≤100000)
include hl h5 hs
theorem Bgn(f c w r n A:Int)(hA:0≤A)(hA2:A≤200000)(k:Nat)(hk:k≤l.length):∀(j i q:Nat),i+j=k→j<q→Iw (k:Int) f c w r n A l q (A+(l.take i).sum) (i:Int)=some (A+(l.take k).sum)
 |0,i,q+1,hi,_=>by
  rw[Iw,Sf,if_neg (by rw[Af];simp;omega),show i=k by omega];rfl
 |j+1,i,q+1,hi,hq=>by
  have hlt:i<l.length:=by omega
  have ih:=Bgn f c w r n A hA hA2 k hk j (i+1) q (by omega) (by omega)
  have b1:=Ht h5 i
  have b2:=Ht h5 (i+1)
  have e:=Jn hlt
  rw[e,←Int.add_assoc]at ih
  rw[Iw,Sf,if_pos (by rw[Af];simp;omega),By hlt,Aa,Aj (by omega) (by omega),Aj (by omega) (by omega)]
  exact ih
theorem Bx1(f c w r n A:Int)(hA:0≤A)(hA2:A≤200000)(k:Nat)(hk:k≤l.length):Ajr f c w r n A l (k:Int)=some (A+(l.take k).sum):=by
 have h:=Bgn hl h5 hs f c w r n A hA hA2 k hk k 0 FUEL (by omega) (by have:=Ao;omega)
 rw[List.take_zero,List.sum_nil,Int.add_zero]at h
 exact h
end
theorem Ui{g n:Nat}(hg:1≤g)(hn:1≤n){x:Int}(h:x∈framesL g n):∃m:Nat,x=m∧1≤m∧m≤n:=by
 have hmul:=Nat.div_mul_le_self (n-1) g
 rw[framesL,List.mem_append]at h
 rcases h with h|h
 ·rw[List.mem_replicate]at h
  have h1:1≤(n-1)/g:=Nat.pos_of_ne_zero h.1
  have:=Nat.mul_le_mul_right g h1
  exact⟨g,h.2,hg,by omega⟩
 ·rw[List.mem_singleton]at h
  exact⟨_,h,by omega,by omega⟩
theorem Ri{f c w r n:Nat}(h:shapeB f c w r n=true):(1≤c∧c≤6)∧Ci (w:Int)∧(1≤r∧r≤1048576)∧1≤n∧(f=1∨f=2):=by
 simp only[shapeB,decide_eq_true_eq]at h
 refine⟨h.2.1,?_,h.2.2.2.1,h.2.2.2.2,h.1⟩
 rcases h.2.2.1 with rfl|rfl|rfl
 ·exact .inl rfl
 ·exact .inr (.inl rfl)
 ·exact .inr (.inr rfl)
end Go.Pl
set_option linter.unusedVariables false
set_option linter.unusedSimpArgs false
namespace Go.Pl
open Go Go.Lv
theorem Cht(n m:Nat):Nj n m 0≠Nj n m 2147483648:=by
 intro h
 simp[Nj,leB,APE]at h
def Cc(b:List UInt8):List UInt8:=b.drop (b.length-32)
theorem Bn4{b:List UInt8}(h:32≤b.length):(Cc b).length=32:=by rw[Cc,List.length_drop];omega
def itA(t:List UInt8):Nat:=Ee (part t 12 4)-32
def mnA(t:List UInt8):Nat:=Ee (part t 16 4)
def Vw(b:List UInt8):Int×Int:=
 if ¬(32≤b.length∧(Cc b).take 8=APE)then(0,6)else if Aap (Cc b)=true then(0,12)else
 if Cc b=Nj (itA (Cc b)) (mnA (Cc b)) 0 then(if b.length<itA (Cc b)+32 then(0,24)else(((itA (Cc b)+32:Nat):Int),0))else
 if Cc b≠Nj (itA (Cc b)) (mnA (Cc b)) 2147483648 then(0,12)else
 if b.length<itA (Cc b)+64 then(0,24)else
 if(b.take (b.length-(itA (Cc b)+64)+32)).drop (b.length-(itA (Cc b)+64))≠Nj (itA (Cc b)) (mnA (Cc b)) 2684354560 then(0,12)else(((itA (Cc b)+64:Nat):Int),0)
section
variable {b:List UInt8}
theorem ba1(h:¬(32≤b.length∧(Cc b).take 8=APE)):Vw b=(0,6):=by rw[Vw,if_pos h]
variable (h:32≤b.length∧(Cc b).take 8=APE)
include h
theorem ba2(h2:Aap (Cc b)=true):Vw b=(0,12):=by rw[Vw,if_neg (fun h'=>h' h),if_pos h2]
variable (h2:Aap (Cc b)=false)
include h2
theorem ba3(h3:Cc b=Nj (itA (Cc b)) (mnA (Cc b)) 0):Vw b=if b.length<itA (Cc b)+32 then(0,24)else(((itA (Cc b)+32:Nat):Int),0):=by
 rw[Vw,if_neg (fun h'=>h' h),if_neg (by rw[h2];simp),if_pos h3]
variable (h3:Cc b≠Nj (itA (Cc b)) (mnA (Cc b)) 0)
include h3
theorem ba4(h4:Cc b≠Nj (itA (Cc b)) (mnA (Cc b)) 2147483648):Vw b=(0,12):=by
 rw[Vw,if_neg (fun h'=>h' h),if_neg (by rw[h2];simp),if_neg h3,if_pos h4]
variable (h4:Cc b=Nj (itA (Cc b)) (mnA (Cc b)) 2147483648)
include h4
theorem ba5(h5:b.length<itA (Cc b)+64):Vw b=(0,24):=by
 rw[Vw,if_neg (fun h'=>h' h),if_neg (by rw[h2];simp),if_neg h3,if_neg (fun e=>e h4),if_pos h5]
theorem ba6(h5:¬b.length<itA (Cc b)+64):Vw b=if(b.take (b.length-(itA (Cc b)+64)+32)).drop (b.length-(itA (Cc b)+64))≠Nj (itA (Cc b)) (mnA (Cc b)) 2684354560 then(0,12)else(((itA (Cc b)+64:Nat):Int),0):=by
 rw[Vw,if_neg (fun h'=>h' h),if_neg (by rw[h2];simp),if_neg h3,if_neg (fun e=>e h4),if_neg h5]
end
theorem Bqh{b:List UInt8}{n:Int}(h:Vw b=(n,0)):32≤n∧n≤b.length:=by
 unfold Vw at h
 split at h; · simp at h
 rename_i h32
 split at h; · simp at h
 split at h
 ·split at h; · simp at h
  simp only[Prod.mk.injEq,and_true]at h;omega
 split at h; · simp at h
 split at h; · simp at h
 split at h; · simp at h
 simp only[Prod.mk.injEq,and_true]at h;omega
theorem Bv1{b:List UInt8}(h:(Vw b).2≠0):(Vw b).1=0:=by
 revert h
 unfold Vw
 split; · simp
 split; · simp
 split
 ·split<;>simp
 split; · simp
 split; · simp
 split<;>simp
theorem By0{b:List UInt8}(h:32≤b.length)(hl:b.length<4611686018427387904):Ak (Ac b) 32=((b.length-32:Nat):Int)∧Ba b ((b.length-32:Nat):Int) (Ac b)=some (Cc b):=by
 refine⟨by rw[Ac,Bv (by omega) (by omega)];omega,?_⟩
 rw[Bg (by omega) (by omega)];rfl
theorem Bwa(b:List UInt8)(hl:b.length<4611686018427387904):Bah b=some (Vw b):=by
 rw[Bah,Avf]
 by_cases h32:32≤b.length
 ·obtain⟨e1,e2⟩:=By0 h32 hl
  have hl3:=Bn4 h32
  rw[if_neg (by rw[e1,Af];simp),e1,e2,Aa,Aqs,Aa]
  by_cases hp:(Cc b).take 8=APE
  ·have h:=And.intro h32 hp
   rw[if_neg (by simpa [APE,hl3]using hp),Aum,Bcr,e1,e2,Aa,Apk _ 0 (by omega) (by omega) (by decide),Aa]
   cases hb:Aap (Cc b)with
   |true=>
    rw[ba2 h hb]
    simp only[if_true,Bool.false_eq_true,if_false]
    rw[Aa,Apk _ 2147483648 (by omega) (by omega) (by decide),Aa,hb];rfl
   |false=>
    obtain⟨i1,i2,i3,i4⟩:=Ba7 (Cc b) (by omega) hb
    have eI:Ee (part (Cc b) 12 4)-32=itA (Cc b):=rfl
    have eM:Ee (part (Cc b) 16 4)=mnA (Cc b):=rfl
    simp only[Bool.false_eq_true,if_false]
    rw[eI]at i3
    rw[eM]at i4
    rw[eI,eM]
    by_cases c1:Cc b=Nj (itA (Cc b)) (mnA (Cc b)) 0
    ·have c1':Cc b=Nj (itA (Cc b)) (mnA (Cc b)) (0:UInt64).toNat:=c1
     rw[if_pos (by simpa using c1'),ba3 h hb c1]
     by_cases c2:b.length<itA (Cc b)+32
     ·rw[if_pos (by rw[Af];simp;omega),if_pos c2]
     ·rw[if_neg (by rw[Af];simp;omega),if_neg c2,Aj (by omega) (by omega)];rfl
    ·have c1':¬Cc b=Nj (itA (Cc b)) (mnA (Cc b)) (0:UInt64).toNat:=c1
     rw[if_neg (by simpa using c1'),Aa,Apk _ 2147483648 (by omega) (by omega) (by decide),Aa,hb]
     simp only[Bool.false_eq_true,if_false]
     rw[eI,eM]
     by_cases c2:Cc b=Nj (itA (Cc b)) (mnA (Cc b)) 2147483648
     ·have c2':Cc b=Nj (itA (Cc b)) (mnA (Cc b)) (2147483648:UInt64).toNat:=c2
      rw[if_neg (by simpa using c2'),Aj (by omega) (by omega)]
      by_cases c3:b.length<itA (Cc b)+64
      ·rw[if_pos (by rw[Af,Ac];simp;omega),ba5 h hb c1 c2 c3]
      ·rw[if_neg (by rw[Af,Ac];simp;omega),Ac,Bv (by omega) (by omega),Aj (by omega) (by omega),Ta (by omega) (by omega) (by omega),Aa,Bhh _ _ _ i3 i4 (by decide),Aa,Ge,Aa,ba6 h hb c1 c2 c3]
       rw[show((b.length:Int)-(((itA (Cc b):Nat):Int)+64)).toNat=b.length-(itA (Cc b)+64) by omega,show((b.length:Int)-(((itA (Cc b):Nat):Int)+64)+32).toNat=b.length-(itA (Cc b)+64)+32 by omega]
       have e7:(2684354560:UInt64).toNat=2684354560:=rfl
       rw[e7]
       by_cases c4:(b.take (b.length-(itA (Cc b)+64)+32)).drop (b.length-(itA (Cc b)+64))=Nj (itA (Cc b)) (mnA (Cc b)) 2684354560
       ·rw[if_neg (by simpa using c4),if_neg (fun e=>e c4)];rfl
       ·rw[if_pos (by simpa using c4),if_pos c4]
     ·have c2':¬Cc b=Nj (itA (Cc b)) (mnA (Cc b)) (2147483648:UInt64).toNat:=c2
      rw[if_pos (by simpa using c2'),ba4 h hb c1 c2]
  ·rw[if_pos (by rw[Bool.not_eq_true',decide_eq_false_iff_not];intro h;exact hp h.2),ba1 (fun h=>hp h.2)]
 ·rw[if_pos (by rw[Ac,Bv (by omega) (by omega),Af];simp;omega),ba1 (fun h=>h32 h.1)]
theorem Cdo{b:List UInt8}(h:32≤b.length):(b.take (b.length-32+8)).drop (b.length-32)=(Cc b).take 8:=by
 rw[Cc,List.take_drop]
theorem Bx7(b:List UInt8)(hl:b.length<4611686018427387904):Ac9 b=some (Vw b):=by
 rw[Ac9,Af8]
 by_cases h32:32≤b.length
 ·obtain⟨e1,e2⟩:=By0 h32 hl
  have hl3:=Bn4 h32
  rw[if_neg (by rw[Af,Ac];simp;omega),e1,Aj (by omega) (by omega),Ta (by omega) (by omega) (by omega),Aa,show((b.length-32:Nat):Int).toNat=b.length-32 from rfl,show(((b.length-32:Nat):Int)+8).toNat=b.length-32+8 by omega,Cdo h32]
  by_cases hp:(Cc b).take 8=APE
  ·have h:=And.intro h32 hp
   rw[if_neg (by simpa [APE]using hp),Afy,Afw,e1,e2,Aa,Boa _ (by omega) (by omega),Aa]
   cases hb:Aap (Cc b)with
   |true=>rw[ba2 h hb];rfl
   |false=>
    obtain⟨i1,i2,i3,i4⟩:=Ba7 (Cc b) (by omega) hb
    have eI:Ee (part (Cc b) 12 4)-32=itA (Cc b):=rfl
    have eM:Ee (part (Cc b) 16 4)=mnA (Cc b):=rfl
    simp only[Bool.false_eq_true,if_false,Bool.not_true]
    rw[eI]at i3
    rw[eM]at i4
    rw[eI,eM,Ki,if_pos rfl,Ay8 _ _ _ i3 i4 (by decide),Aa,Aa]
    have e7:(2147483648:UInt64).toNat=2147483648:=rfl
    have e8:(2684354560:UInt64).toNat=2684354560:=rfl
    rw[e7]
    by_cases c2:Cc b=Nj (itA (Cc b)) (mnA (Cc b)) 2147483648
    ·have c1:Cc b≠Nj (itA (Cc b)) (mnA (Cc b)) 0:=fun e=>Cht (itA (Cc b)) (mnA (Cc b)) (e.symm.trans c2)
     rw[if_neg (by simpa using c2),Va,Un,if_pos (by simpa using c2),Uu,Vh,Aj (a:=32) (by omega) (by omega),Aj (by omega) (by omega)]
     by_cases c3:b.length<itA (Cc b)+64
     ·rw[if_pos (by rw[Af,Ac];simp;omega),ba5 h hb c1 c2 c3]
     ·rw[if_neg (by rw[Af,Ac];simp;omega),if_pos (by simpa using c2),Ac,Bv (by omega) (by omega),Aj (by omega) (by omega),Ta (by omega) (by omega) (by omega),Aa,Tp,Ay8 _ _ _ i3 i4 (by decide),Aa,Aa,ba6 h hb c1 c2 c3,e8]
      rw[show((b.length:Int)-(32+((itA (Cc b):Nat):Int)+32)).toNat=b.length-(itA (Cc b)+64) by omega,show((b.length:Int)-(32+((itA (Cc b):Nat):Int)+32)+32).toNat=b.length-(itA (Cc b)+64)+32 by omega]
      by_cases c4:(b.take (b.length-(itA (Cc b)+64)+32)).drop (b.length-(itA (Cc b)+64))=Nj (itA (Cc b)) (mnA (Cc b)) 2684354560
      ·rw[if_neg (by simpa using c4),if_neg (fun e=>e c4),show(32+((itA (Cc b):Nat):Int)+32)=((itA (Cc b)+64:Nat):Int) by omega]
      ·rw[if_pos (by simpa using c4),if_pos c4]
    ·rw[if_pos (by simpa using c2),Ki,if_neg (by simp),Ay8 _ _ _ i3 i4 (by decide),Aa,Aa]
     have e9:(0:UInt64).toNat=0:=rfl
     rw[e9]
     by_cases c1:Cc b=Nj (itA (Cc b)) (mnA (Cc b)) 0
     ·rw[if_neg (by simpa using c1),Va,Un,if_neg (by simpa using c2),Uu,Vh,Aj (by omega) (by omega),ba3 h hb c1,if_neg (c:=(Cc b==Nj (itA (Cc b)) (mnA (Cc b)) 2147483648)=true) (by simpa using c2)]
      by_cases c3:b.length<itA (Cc b)+32
      ·rw[if_pos (by rw[Af,Ac];simp;omega),if_pos c3]
      ·rw[if_neg (by rw[Af,Ac];simp;omega),if_neg c3,show(32+((itA (Cc b):Nat):Int))=((itA (Cc b)+32:Nat):Int) by omega]
     ·rw[if_pos (by simpa using c1),ba4 h hb c1 c2]
  ·rw[if_pos (by simpa [APE]using hp),ba1 (fun h=>hp h.2)]
 ·rw[if_pos (by rw[Af,Ac];simp;omega),ba1 (fun h=>h32 h.1)]
def Bm5:Nat→List UInt8→Nat→Int×Int
 |0,_,_=>(0,38)
 |j+1,b,a=>if b=[]then((a:Int),0)else if(Vw b).2≠0 then(0,38)else Bm5 j (b.take (b.length-(Vw b).1.toNat)) (a+1)
theorem Bpj:∀(j q a:Nat) (b:List UInt8),b.length<j→j≤q→b.length≤4000→a+b.length≤4000→Rn q (a:Int) b=some (Bm5 j b a)
 |0,_,_,_,h,_,_,_=>by omega
 |j+1,q+1,a,b,h,hq,h4,ha=>by
  rw[Rn,Aht,Bm5]
  by_cases hb:b=[]
  ·subst hb;rw[if_neg (by decide),if_pos rfl];rfl
  ·have hpos:0<b.length:=List.length_pos_iff.2 hb
   rw[if_pos (by rw[Am,Ac];simp;omega),if_neg hb,Bwa b (by omega),Aa]
   have hbad:=Bv1 (b:=b)
   have hok:=fun n=>Bqh (b:=b) (n:=n)
   generalize Vw b=v at*
   obtain⟨n,e⟩:=v
   simp only at hbad⊢
   rw[Aem,Ae1]
   by_cases he:e≠0
   ·rw[if_pos he,hbad he,if_pos (by decide)]
   ·obtain⟨k1,k2⟩:=hok n (by rw[show e=0 by simpa using he])
    rw[if_neg he,if_neg (by rw[Al];simp;omega),Ac,Bv (by omega) (by omega),Cp (by omega) (by omega),Aa,Aev,Ao9,Aj (by omega) (by omega)]
    rw[show((b.length:Int)-n).toNat=b.length-n.toNat by omega]
    have ih:=Bpj j q (a+1) (b.take (b.length-n.toNat)) (by rw[List.length_take];omega) (by omega) (by rw[List.length_take];omega) (by rw[List.length_take];omega)
    rw[←ih];rfl
theorem Bvd:∀(j q a:Nat) (b:List UInt8),b.length<j→j≤q→b.length≤4000→a+b.length≤4000→Li q b (a:Int)=some (Bm5 j b a)
 |0,_,_,_,h,_,_,_=>by omega
 |j+1,q+1,a,b,h,hq,h4,ha=>by
  rw[Li,Abh,Bm5]
  by_cases hb:b=[]
  ·subst hb;rw[if_neg (by decide),if_pos rfl];rfl
  ·have hpos:0<b.length:=List.length_pos_iff.2 hb
   rw[if_pos (by rw[Am,Ac];simp;omega),if_neg hb,Bx7 b (by omega),Aa]
   have hok:=fun n=>Bqh (b:=b) (n:=n)
   generalize Vw b=v at*
   obtain⟨n,e⟩:=v
   simp only
   by_cases he:e≠0
   ·rw[if_pos he,if_pos (by rw[Ag];simpa using he)]
   ·obtain⟨k1,k2⟩:=hok n (by rw[show e=0 by simpa using he])
    rw[if_neg he,if_neg (by rw[Ag];simpa using he),Ac,Bv (by omega) (by omega),Cp (by omega) (by omega),Aa,Aj (by omega) (by omega)]
    rw[show((b.length:Int)-n).toNat=b.length-n.toNat by omega]
    have ih:=Bvd j q (a+1) (b.take (b.length-n.toNat)) (by rw[List.length_take];omega) (by omega) (by rw[List.length_take];omega) (by rw[List.length_take];omega)
    rw[←ih];rfl
def Qn(b:List UInt8):Int×Int:=if 4000<b.length then(0,38)else Bm5 (b.length+1) b 0
theorem Bdd(b:List UInt8)(hl:b.length<4611686018427387904):Ab7 b=some (Qn b):=by
 rw[Ab7,Ahu,Qn]
 by_cases h:4000<b.length
 ·rw[if_pos (by rw[Am,Ac];simp;omega),if_pos h]
 ·rw[if_neg (by rw[Am,Ac];simp;omega),if_neg h]
  exact Bpj _ FUEL 0 b (by omega) (by have:=Ao;omega) (by omega) (by omega)
theorem Ayg(b:List UInt8)(hl:b.length<4611686018427387904):Ot b=some (Qn b):=by
 rw[Ot,Abf,Qn]
 by_cases h:4000<b.length
 ·rw[if_pos (by rw[Am,Ac];simp;omega),if_pos h]
 ·rw[if_neg (by rw[Am,Ac];simp;omega),if_neg h]
  exact Bvd _ FUEL 0 b (by omega) (by have:=Ao;omega) (by omega) (by omega)
end Go.Pl
set_option linter.unusedVariables false
set_option linter.unusedSimpArgs false
namespace Go.Pl
open Go Go.Lv
theorem Chd{a b:Nat}(h:a<9223372036854775808):Cn (a:Int) (b:Int)=((a/b:Nat):Int):=by
 have:a/b≤a:=Nat.div_le_self _ _
 rw[Ah1,Int.tdiv_eq_ediv_of_nonneg (by omega),←Int.natCast_ediv]
 generalize a/b=k at*
 exact Cg (by omega) (by omega)
theorem Bbu{bits:Int}(h:Ci bits)(x:Int):(Aee bits x).length=wB bits:=by
 obtain rfl|rfl|rfl:=h<;>rfl
theorem Amw{bits:Int}(h:Ci bits):∀l:List Int32,(bytesB bits l).length=l.length*wB bits
 |[]=>by simp[bytesB]
 |x::l=>by
  have h1:=Amw h l
  have h2:=Bbu h x.toInt
  simp only[bytesB,List.flatMap_cons,List.length_append,List.length_cons,Nat.succ_mul]at*
  omega
def segF(b:List UInt8)(A:Nat)(l:List Int)(k:Nat):List UInt8:=(b.take ((A:Int)+(l.take (k+1)).sum).toNat).drop ((A:Int)+(l.take k).sum).toNat
structure Gts (b p:List UInt8) (f c w r n A:Nat) (l:List Int) (k m:Nat) (x:List Int32) (s:List UInt8) (e:Int):Prop where
 mom:getI (framesL (longN r) n) (k:Int)=some (m:Int)
 pos:1≤m∧m*c≤4000
 got:cadenzaref40_Got b p (f:Int) (c:Int) (w:Int) (r:Int) (n:Int) (A:Int) l (k:Int)=some (s,e)
 none':e≠0→s=[]∧x=[]
 some':e=0→s=bytesB (w:Int) x∧x.length=m*c∧cadenzaref18_Check (w:Int) x=some 0∧width_Bytes (w:Int) x=some (s,0)∧(A:Int)+(l.take (k+1)).sum≤b.length
 way:((b.length:Int)<(A:Int)+(l.take (k+1)).sum∧e=24)∨((A:Int)+(l.take (k+1)).sum≤b.length∧deframe_Decode (c:Int) (w:Int) (tapsOf p) (m:Int) (segF b A l k)=some (x,e)∧cadenzaref21_Decode (c:Int) (w:Int) (tapsOf p) (m:Int) (segF b A l k)=some (x,e))
theorem Awi{b p:List UInt8}{f c w r n A:Nat}{l:List Int}(o:Opn b p f c w r n A l)(k:Nat)(hk:k<l.length):∃m x s e,Gts b p f c w r n A l k m x s e:=by
 obtain⟨hc,hw,hr,hn,_⟩:=Ri o.shape
 have hfit:n≤4000/c:=by have:=o.fit;simp only[fitB,decide_eq_true_eq]at this;exact this.1
 have hn4:n≤4000:=by have:=Nat.div_le_self 4000 c;omega
 have hA:=o.at'
 have hfile:=o.file
 have hlen:=o.len
 have b1:=Ht o.five k
 have b2:=Ht o.five (k+1)
 have e:=Jn hk
 have h5:=o.five l[k] (List.getElem_mem _)
 have hsum:=o.sum
 have hs1:=o.some1
 have hkf:k<(framesL (longN r) n).length:=by omega
 obtain⟨m,hm,m1,m2⟩:=Ui (Pe r) hn (List.getElem_mem hkf)
 have hmom:getI (framesL (longN r) n) (k:Int)=some (m:Int):=by rw[By hkf,hm]
 have hpos:1≤m∧m*c≤4000:=by
  refine⟨m1,?_⟩
  have:=Nat.mul_le_mul_right c (Nat.le_trans m2 hfit)
  have:=Nat.div_mul_le_self 4000 c
  omega
 have hR:cadenzaref40_Got b p (f:Int) (c:Int) (w:Int) (r:Int) (n:Int) (A:Int) l (k:Int)=cadenzaref40_Got b p (f:Int) (c:Int) (w:Int) (r:Int) (n:Int) (A:Int) l (k:Int):=rfl
 conv at hR=>rhs;rw[cadenzaref40_Got,Ah8,Bx1 hs1.2 o.five o.sum _ _ _ _ _ (A:Int) (by omega) (by omega) k (by omega),Aa,By hk,Aa,Bv (by rw[Ac];omega) (by rw[Ac];omega)]
 by_cases hto:(b.length:Int)<(A:Int)+(l.take (k+1)).sum
 ·rw[if_pos (by rw[Af,Ac,decide_eq_true_eq];omega)]at hR
  exact⟨m,[],[],24,hmom,hpos,hR,fun _=>⟨rfl,rfl⟩,fun h=>by simp at h, .inl ⟨hto,rfl⟩⟩
 ·rw[if_neg (by rw[Af,Ac,decide_eq_true_eq];omega),Alm p o.pass,Aoc hr.2 hn hn4]at hR
  simp only[Aa]at hR
  rw[Aj (a:=(A:Int)+(l.take k).sum) (b:=l[k]) (by omega) (by omega),Int.add_assoc,←e,hmom]at hR
  simp only[Aa]at hR
  rw[Ta (by omega) (by omega) (by omega),Aa]at hR
  obtain⟨x,er,g1,g2,g3,g4⟩:=Af7 (ch:=c) (n:=m) (t:=tapsOf p) (segF b A l k) hw (Qf p) hc.1 hc.2 m1 (by omega)
  rw[show(b.take ((A:Int)+(l.take (k+1)).sum).toNat).drop ((A:Int)+(l.take k).sum).toNat=segF b A l k from rfl,g2,Aa]at hR
  simp only at hR
  rw[Ain,Air]at hR
  by_cases her:er=0
  ·obtain⟨g5,g6,g7⟩:=g3 her
   rw[if_neg (by rw[Ag];simpa using her),Ajg hw g6 g5,Aa]at hR
   subst her
   exact⟨m,x,_,0,hmom,hpos,hR,fun h=>absurd rfl h,fun _=>⟨rfl,g7,g5,Arb hw g6 g5,by omega⟩, .inr ⟨by omega,g1,g2⟩⟩
  ·rw[if_pos (by rw[Ag];simpa using her)]at hR
   exact⟨m,x,_,er,hmom,hpos,hR,fun h=>⟨rfl,g4 h⟩,fun h=>absurd h her, .inr ⟨by omega,g1,g2⟩⟩
theorem Gts.lens{b p:List UInt8}{f c w r n A:Nat}{l:List Int}{k m:Nat}{x:List Int32}{s:List UInt8}{e:Int}(hw:Ci (w:Int))(g:Gts b p f c w r n A l k m x s e):s.length≤12000∧x.length≤4000∧(e=0→s.length=m*c*wB (w:Int)):=by
 by_cases he:e=0
 ·obtain⟨h1,h2,_⟩:=g.some' he
  have h3:=Afb (w:Int) x
  have h4:=Amw hw x
  have h5:=g.pos
  rw[←h1]at h3 h4
  refine⟨by omega,by omega,fun _=>by rw[h4,h2]⟩
 ·obtain⟨h1,h2⟩:=g.none' he
  exact⟨by simp[h1],by simp[h2],fun h=>absurd h he⟩
def Ar0(G:Nat→List UInt8×Int)(be:Int):Nat→Nat→List UInt8→List UInt8×Int
 |0,_,acc=>if be≠0 then([],38)else(acc,0)
 |j+1,k,acc=>if(G k).2≠0 then([],(G k).2)else Ar0 G be j (k+1) (acc++(G k).1)
def Yw(b p:List UInt8)(f c w r n A:Nat)(l:List Int)(k:Nat):List UInt8×Int:=(cadenzaref40_Got b p (f:Int) (c:Int) (w:Int) (r:Int) (n:Int) (A:Int) l (k:Int)).getD ([],0)
theorem Gts.eq{b p:List UInt8}{f c w r n A:Nat}{l:List Int}{k m:Nat}{x:List Int32}{s:List UInt8}{e:Int}(g:Gts b p f c w r n A l k m x s e):Yw b p f c w r n A l k=(s,e):=by rw[Yw,g.got];rfl
def Bat(b:List UInt8)(A:Nat)(l:List Int):Int:=(Qn (b.drop ((A:Int)+l.sum).toNat)).2
end Go.Pl
set_option linter.unusedVariables false
set_option linter.unusedSimpArgs false
namespace Go.Pl
open Go Go.Lv
def by'(b:List UInt8)(k:Nat):Nat:=(b.getD k 0).toNat
def sx(n:Nat)(b:List UInt8)(a:Nat):Int:=
 if n=1 then(by' b a:Int)-128 else
 if n=2 then(if by' b a+256*by' b (a+1)<32768 then(by' b a+256*by' b (a+1):Nat)else((by' b a+256*by' b (a+1):Nat):Int)-65536)else
 (if by' b a+256*by' b (a+1)+65536*by' b (a+2)<8388608 then(by' b a+256*by' b (a+1)+65536*by' b (a+2):Nat)else((by' b a+256*by' b (a+1)+65536*by' b (a+2):Nat):Int)-16777216)
def sxs(n m:Nat)(b:List UInt8):List Int32:=(List.range m).map fun x=>Int32.ofInt (sx n b (x*n))
theorem Cdi(n m:Nat)(b:List UInt8):(sxs n m b).length=m:=by simp[sxs]
theorem sx2(b:List UInt8)(a:Nat):sx 2 b a=if by' b a+256*by' b (a+1)<32768 then((by' b a+256*by' b (a+1):Nat):Int)else((by' b a+256*by' b (a+1):Nat):Int)-65536:=rfl
theorem sx3(b:List UInt8)(a:Nat):sx 3 b a=if by' b a+256*by' b (a+1)+65536*by' b (a+2)<8388608 then((by' b a+256*by' b (a+1)+65536*by' b (a+2):Nat):Int)else((by' b a+256*by' b (a+1)+65536*by' b (a+2):Nat):Int)-16777216:=rfl
variable (b:List UInt8)
end Go.Pl
set_option linter.unusedVariables false
set_option linter.unusedSimpArgs false
namespace Go.Pl
open Go Go.Lv
theorem Chb{c:Nat}{w:Nat}(hc:c≤6)(hw:Ci (w:Int)):Cn (Bd (c:Int) (w:Int)) 8=((c*wB (w:Int):Nat):Int):=by
 have h:w=8∨w=16∨w=24:=by unfold Ci at hw;omega
 have:c=0∨c=1∨c=2∨c=3∨c=4∨c=5∨c=6:=by omega
 rcases h with rfl|rfl|rfl<;>rcases this with rfl|rfl|rfl|rfl|rfl|rfl|rfl<;>rfl
theorem Cg2{w:Nat}(hw:Ci (w:Int)):8*wB (w:Int)=w∧w≤24:=by
 have h:w=8∨w=16∨w=24:=by unfold Ci at hw;omega
 rcases h with rfl|rfl|rfl<;>exact⟨rfl,by omega⟩
theorem Cf8{t c w:Nat}(ht:t≤4000)(hc:c≤6)(hw:Ci (w:Int)):Cn (Bd (Bd (t:Int) (c:Int)) (w:Int)) 8=((t*(c*wB (w:Int)):Nat):Int):=by
 obtain⟨h1,h2⟩:=Cg2 hw
 have e1:(t:Int)*(c:Int)=((t*c:Nat):Int):=by simp
 have b1:t*c≤4000*6:=Nat.mul_le_mul ht hc
 have b2:t*c*w≤24000*24:=Nat.mul_le_mul b1 h2
 rw[Hl (a:=(t:Int)) (by rw[e1];omega) (by rw[e1];omega),e1,Hl (by rw[←Int.natCast_mul];omega) (by rw[←Int.natCast_mul];omega),←Int.natCast_mul,show(8:Int)=((8:Nat):Int)from rfl,Chd (by omega)]
 congr 1
 generalize wB (w:Int)=W at*
 subst h1
 rw[Nat.mul_left_comm,Nat.mul_div_cancel_left _ (by omega),Nat.mul_assoc]
end Go.Pl
set_option linter.unusedVariables false
set_option linter.unusedSimpArgs false
namespace Go.Pl
open Go Go.Lv
def smF(w:Nat)(y:List UInt8×Int):List Int32:=if y.2≠0 then []else sxs (wB (w:Int)) (y.1.length/wB (w:Int)) y.1
end Go.Pl
set_option linter.unusedVariables false
set_option linter.unusedSimpArgs false
namespace Go.Pl
open Go Go.Lv
theorem Bba(z:Int):(u8 z).toNat=(z %256).toNat:=by
 have:(z %256).toNat<256:=by omega
 rw[u8,UInt8.toNat_ofNat',Nat.mod_eq_of_lt (by omega)]
theorem Biu{bits:Int}(h:Ci bits):∀(l:List Int32) (i j:Nat),i<l.length→j<wB bits→(bytesB bits l).getD (i*wB bits+j) 0=(Aee bits (l.getD i 0).toInt).getD j 0
 |[],i,j,hi,_=>by simp at hi
 |x::l,0,j,_,hj=>by
  have h1:=Bbu h x.toInt
  have e:bytesB bits (x::l)=Aee bits x.toInt++bytesB bits l:=by simp[bytesB]
  rw[e,Nat.zero_mul,Nat.zero_add,List.getD_eq_getElem?_getD,List.getD_eq_getElem?_getD,List.getElem?_append_left (by omega)];rfl
 |x::l,i+1,j,hi,hj=>by
  have h1:=Bbu h x.toInt
  have e:bytesB bits (x::l)=Aee bits x.toInt++bytesB bits l:=by simp[bytesB]
  have ih:=Biu h l i j (by simpa using hi) hj
  have e2:(i+1)*wB bits+j=(Aee bits x.toInt).length+(i*wB bits+j):=by rw[Nat.add_mul,Nat.one_mul,h1];omega
  rw[e,e2,List.getD_eq_getElem?_getD,List.getElem?_append_right (by omega),Nat.add_sub_cancel_left,←List.getD_eq_getElem?_getD,ih];rfl
theorem Ccx{bits:Int}(h:Ci bits)(l:List Int32)(hr:inR bits l)(i:Nat)(hi:i<l.length):Int32.ofInt (sx (wB bits) (bytesB bits l) (i*wB bits))=l.getD i 0:=by
 have hm:l.getD i 0∈l:=by rw[List.getD_eq_getElem?_getD,List.getElem?_eq_getElem hi];exact List.getElem_mem hi
 have hv:=hr _ hm
 have g:∀j,j<wB bits→by' (bytesB bits l) (i*wB bits+j)=((Aee bits (l.getD i 0).toInt).getD j 0).toNat:=fun j hj=>by rw[by',Biu h l i j hi hj]
 generalize l.getD i 0=x at*
 have key:sx (wB bits) (bytesB bits l) (i*wB bits)=x.toInt:=by
  generalize hA:i*wB bits=a at*
  obtain rfl|rfl|rfl:=h
  ·have g0:=g 0 (by decide)
   have e1:(Aee 8 x.toInt).getD 0 0=u8 (x.toInt+128):=rfl
   rw[Nat.add_zero,e1,Bba]at g0
   simp only[hB]at hv
   simp at hv
   have e2:wB 8=1:=rfl
   rw[e2,sx,if_pos rfl,g0];omega
  ·have g0:=g 0 (by decide)
   have g1:=g 1 (by decide)
   have e0:(Aee 16 x.toInt).getD 0 0=u8 x.toInt:=rfl
   have e1:(Aee 16 x.toInt).getD 1 0=u8 (x.toInt/256):=rfl
   rw[Nat.add_zero,e0,Bba]at g0
   rw[e1,Bba]at g1
   simp only[hB]at hv
   simp at hv
   have e2:wB 16=2:=rfl
   rw[e2,sx2,g0,g1]
   split<;>omega
  ·have g0:=g 0 (by decide)
   have g1:=g 1 (by decide)
   have g2:=g 2 (by decide)
   have e0:(Aee 24 x.toInt).getD 0 0=u8 x.toInt:=rfl
   have e1:(Aee 24 x.toInt).getD 1 0=u8 (x.toInt/256):=rfl
   have e3:(Aee 24 x.toInt).getD 2 0=u8 (x.toInt/65536):=rfl
   rw[Nat.add_zero,e0,Bba]at g0
   rw[e1,Bba]at g1
   rw[e3,Bba]at g2
   simp only[hB]at hv
   simp at hv
   have e2:wB 24=3:=rfl
   rw[e2,sx3,g0,g1,g2]
   split<;>omega
 rw[key];simp
theorem Cbn{bits:Int}(h:Ci bits)(l:List Int32)(hr:inR bits l):sxs (wB bits) l.length (bytesB bits l)=l:=by
 refine List.ext_getElem (Cdi _ _ _) fun i h1 h2=>?_
 have:=Ccx h l hr i h2
 simp only[sxs,List.getElem_map,List.getElem_range]
 rw[this,List.getD_eq_getElem?_getD,List.getElem?_eq_getElem h2];rfl
theorem Gts.smp{b p:List UInt8}{f c w r n A:Nat}{l:List Int}{k m:Nat}{x:List Int32}{s:List UInt8}{e:Int}(hw:Ci (w:Int))(g:Gts b p f c w r n A l k m x s e):smF w (s,e)=x:=by
 have hwb:=Bj2 (w:Int)
 by_cases he:e=0
 ·obtain⟨h1,h2,h3,_⟩:=g.some' he
  have h4:=g.pos
  have h5:=Amw hw x
  rw[smF,if_neg (by simpa using he)]
  simp only
  rw[h1,h5,Nat.mul_div_cancel _ (by omega)]
  exact Cbn hw x (Av7 hw (by omega) h3)
 ·rw[smF,if_pos he,(g.none' he).2]
end Go.Pl
