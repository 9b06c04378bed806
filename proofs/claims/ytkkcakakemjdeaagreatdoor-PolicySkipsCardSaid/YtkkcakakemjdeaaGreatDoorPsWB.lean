/- A part of the proof of a statement of this seat (see the text that ends in Proof): LwWs, LwGoes, LwPol, LwRt, LwClip, LwPts, LwTrc, LwPd, LwDt, LwDu, LwAll, LwA41, LwPv, LwPk. No conditions of its own. -/
import Derived.Test.YtkkcakakemjdeaaGreatDoorPsWA
import Derived.Test.YtkkcakakemjdeaaGreatDoorPsPA
import Derived.KernelRfl
set_option linter.unusedVariables false
set_option linter.unusedSimpArgs false
namespace Go.Pl
open Go Go.Lv
def Mt(b:List UInt8)(k:Nat):Nat:=(b.getD k 0).toNat
theorem Auy(b:List UInt8)(k:Nat):Mt b k<256:=(b.getD k 0).toNat_lt
def sx(n:Nat)(b:List UInt8)(a:Nat):Int:=
 if n=1 then(Mt b a:Int)-128 else
 if n=2 then(if Mt b a+256*Mt b (a+1)<32768 then(Mt b a+256*Mt b (a+1):Nat)else((Mt b a+256*Mt b (a+1):Nat):Int)-65536)else
 (if Mt b a+256*Mt b (a+1)+65536*Mt b (a+2)<8388608 then(Mt b a+256*Mt b (a+1)+65536*Mt b (a+2):Nat)else((Mt b a+256*Mt b (a+1)+65536*Mt b (a+2):Nat):Int)-16777216)
def sxs(n m:Nat)(b:List UInt8):List Int32:=(List.range m).map fun x=>Int32.ofInt (sx n b (x*n))
theorem Bbq(n m:Nat)(b:List UInt8):(sxs n m b).length=m:=by simp[sxs]
theorem Bkv(n m:Nat)(b:List UInt8):sxs n (m+1) b=sxs n m b++[Int32.ofInt (sx n b (m*n))]:=by simp[sxs,List.range_succ]
theorem Awx{n:Int}(h: -2147483648≤n)(h':n<2147483648):(Int32.ofInt n).toInt=n:=by
 rw[Int32.toInt_ofInt,Int.bmod_def,show((Int32.size:Nat):Int)=4294967296 from rfl];split<;>omega
theorem Anu{b:List UInt8}{k:Nat}(h:k<b.length):getI b (k:Int)=some (b.getD k 0):=by
 rw[Cf h];simp[List.getD_eq_getElem?_getD,h]
theorem Ahk(c:UInt8):(Ad c:Int32)=Int32.ofInt (c.toNat:Int):=rfl
theorem Azc{v:Nat}(k:Nat)(hk:k≤32)(h:v<2147483648):Cn (Int32.ofInt (v:Int)) k=Int32.ofInt ((v*2^k:Nat):Int):=by
 have e:Cn (Int32.ofInt (v:Int)) k=Int32.ofInt ((Int32.ofInt (v:Int)).toInt*2^min k 32):=rfl
 rw[e,Awx (by omega) (by omega),Nat.min_eq_left hk];simp
theorem Bzv{v w i:Nat}(hv:v<2^i)(hw:w*2^i<2147483648)(hi:i≤31):gor (Int32.ofInt (v:Int)) (Int32.ofInt ((w*2^i:Nat):Int))=Int32.ofInt ((v+w*2^i:Nat):Int):=by
 have hv2:v<2147483648:=Nat.lt_of_lt_of_le hv (show 2^i≤2^31 from Nat.pow_le_pow_right (by omega) hi)
 have e:gor (Int32.ofInt (v:Int)) (Int32.ofInt ((w*2^i:Nat):Int))=Int32.ofInt ((BitVec.ofInt 32 (Int32.ofInt (v:Int)).toInt|||BitVec.ofInt 32 (Int32.ofInt ((w*2^i:Nat):Int)).toInt).toNat:Int):=rfl
 rw[e,Awx (by omega) (by omega),Awx (by omega) (by omega),BitVec.toNat_or,BitVec.toNat_ofInt,BitVec.toNat_ofInt]
 have a1:((v:Int) %((2^32:Nat):Int)).toNat=v:=by omega
 have a2:(((w*2^i:Nat):Int) %((2^32:Nat):Int)).toNat=w*2^i:=by omega
 rw[a1,a2,Nat.or_comm,Nat.mul_comm w,←Nat.two_pow_add_eq_or_of_lt hv,Nat.add_comm]
theorem Bhv(w:Nat)(h:w<2147483648):gor (0:Int32) (Int32.ofInt (w:Int))=Int32.ofInt (w:Int):=by
 have:=Bzv (v:=0) (w:=w) (i:=0) (by simp) (by simpa using h) (by omega)
 simpa using this
theorem carry{v k:Nat}(hk:k≤31)(h:v*2^k<4294967296)(hv:v<2147483648):Bn (Cn (Int32.ofInt (v:Int)) k) k=Int32.ofInt ((if v*2^k<2147483648 then((v*2^k:Nat):Int)else((v*2^k:Nat):Int)-4294967296).fdiv (2^k)):=by
 rw[Azc k (by omega) hv]
 have e:∀x:Int32,Bn x k=Int32.ofInt (x.toInt.fdiv (2^min k 32)):=fun _=>rfl
 have hX:(Int32.ofInt ((v*2^k:Nat):Int)).toInt=if v*2^k<2147483648 then((v*2^k:Nat):Int)else((v*2^k:Nat):Int)-4294967296:=by
  rw[Int32.toInt_ofInt,Int.bmod_def,show((Int32.size:Nat):Int)=4294967296 from rfl]
  generalize v*2^k=X at*
  split<;>split<;>omega
 rw[e,Nat.min_eq_left (by omega),hX]
theorem sx2(b:List UInt8)(a:Nat):sx 2 b a=if Mt b a+256*Mt b (a+1)<32768 then((Mt b a+256*Mt b (a+1):Nat):Int)else((Mt b a+256*Mt b (a+1):Nat):Int)-65536:=rfl
theorem sx3(b:List UInt8)(a:Nat):sx 3 b a=if Mt b a+256*Mt b (a+1)+65536*Mt b (a+2)<8388608 then((Mt b a+256*Mt b (a+1)+65536*Mt b (a+2):Nat):Int)else((Mt b a+256*Mt b (a+1)+65536*Mt b (a+2):Nat):Int)-16777216:=rfl
variable (b:List UInt8)
theorem Cer(bk:Int→List Int32→Option (List Int32×Int))(a:Nat)(acc:List Int32)(h:a+1≤b.length)(hl:b.length≤100000)(ha:acc.length≤100000)(j25:Int→List Int32→Int32→Int→Option (List Int32×Int))(j30:List Int32→Option (List Int32×Int)):
  Ee (Hc bk 8 b) j25 j30 8 b (a:Int) acc=bk ((a+1:Nat):Int) (acc++[Int32.ofInt (sx 1 b a)]):=by
 have hb:=Auy b a
 have e:Ah (Ad (b.getD a 0):Int32) (128:Int32)=Int32.ofInt (sx 1 b a):=by
  have e1:Ah (Ad (b.getD a 0):Int32) (128:Int32)=Int32.ofInt ((Int32.ofInt ((b.getD a 0).toNat:Int)).toInt-(128:Int32).toInt):=rfl
  rw[e1,Awx (by omega) (by have:=(b.getD a 0).toNat_lt;omega)];rfl
 have q8:Bf (8:Int) 8=1:=by decide
 rw[Ee,if_pos (by rw[Af,Ac];simp;omega),if_pos (by rw[Bc];rfl),Anu (by omega),Aa,e,Cq (by simp;omega),Aa,Hc,Rm,q8,Ag (by omega) (by omega)];rfl
theorem Ccu(bk:Int→List Int32→Option (List Int32×Int))(a:Nat)(acc:List Int32)(h:a+2≤b.length)(hl:b.length≤100000)(ha:acc.length≤100000)(j28:Int→List Int32→Option (List Int32×Int))(j30:List Int32→Option (List Int32×Int)):
  Ee j28 (Jb bk 16 b) j30 16 b (a:Int) acc=bk ((a+2:Nat):Int) (acc++[Int32.ofInt (sx 2 b a)]):=by
 have h0:=Auy b a
 have h1:=Auy b (a+1)
 have q:Bf (16:Int) 8=2:=by decide
 have hF:Am=(Am-3)+1+1+1:=by have:=Ak;omega
 have z0:(GI.toZ (Ay (8:Int) 0)).toNat=0:=by decide
 have z1:(GI.toZ (Ay (8:Int) 1)).toNat=8:=by decide
 have z16:(GI.toZ (Ah (32:Int) 16)).toNat=16:=by decide
 have s0:Cn (Int32.ofInt (Mt b a:Int)) 0=Int32.ofInt (Mt b a:Int):=by have:=Azc (v:=Mt b a) 0 (by omega) (by omega);simpa using this
 have s1:Cn (Int32.ofInt (Mt b (a+1):Int)) 8=Int32.ofInt ((Mt b (a+1)*2^8:Nat):Int):=Azc 8 (by omega) (by omega)
 have o1:=Bzv (v:=Mt b a) (w:=Mt b (a+1)) (i:=8) (by simpa using h0) (by omega) (by omega)
 have c:=carry (v:=Mt b a+Mt b (a+1)*2^8) (k:=16) (by omega) (by omega) (by omega)
 rw[Ee,if_pos (by rw[Af,Ac];simp;omega),if_neg (by rw[Bc];decide),Jb,hF,Da,Ei,q,if_pos (by decide),show Ae (a:Int) 0=((a:Nat):Int) by rw[Ag (by omega) (by omega)];omega,Anu (by omega),Aa,Bp (by decide),Aa,z0,
  Ahk,show((b.getD a 0).toNat:Int)=(Mt b a:Int)from rfl,s0,Bhv _ (by omega),show Ae (0:Int) 1=1 by decide,
  Da,Ei,q,if_pos (by decide),show Ae (a:Int) 1=((a+1:Nat):Int) by rw[Ag (by omega) (by omega)];omega,Anu (by omega),Aa,Bp (by decide),Aa,z1,
  Ahk,show((b.getD (a+1) 0).toNat:Int)=(Mt b (a+1):Int)from rfl,s1,o1,show Ae (1:Int) 1=2 by decide,
  Da,Ei,q,if_neg (by decide),Rc,Ra,Bp (by decide),Aa,Aa,z16,c,Cq (by simp;omega),Aa,Hc,Rm,q,Ag (by omega) (by omega)]
 have e:((if(Mt b a+Mt b (a+1)*2^8)*2^16<2147483648 then(((Mt b a+Mt b (a+1)*2^8)*2^16:Nat):Int)else(((Mt b a+Mt b (a+1)*2^8)*2^16:Nat):Int)-4294967296).fdiv (2^16))=sx 2 b a:=by
  rw[Int.fdiv_eq_ediv_of_nonneg _ (by omega),sx2]
  split<;>split<;>omega
 rw[e];rfl
theorem Cdr(bk:Int→List Int32→Option (List Int32×Int))(a:Nat)(acc:List Int32)(h:a+3≤b.length)(hl:b.length≤100000)(ha:acc.length≤100000)(j28:Int→List Int32→Option (List Int32×Int))(j30:List Int32→Option (List Int32×Int)):
  Ee j28 (Jb bk 24 b) j30 24 b (a:Int) acc=bk ((a+3:Nat):Int) (acc++[Int32.ofInt (sx 3 b a)]):=by
 have h0:=Auy b a
 have h1:=Auy b (a+1)
 have h2:=Auy b (a+2)
 have q:Bf (24:Int) 8=3:=by decide
 have hF:Am=(Am-4)+1+1+1+1:=by have:=Ak;omega
 have z0:(GI.toZ (Ay (8:Int) 0)).toNat=0:=by decide
 have z1:(GI.toZ (Ay (8:Int) 1)).toNat=8:=by decide
 have z2:(GI.toZ (Ay (8:Int) 2)).toNat=16:=by decide
 have z8:(GI.toZ (Ah (32:Int) 24)).toNat=8:=by decide
 have s0:Cn (Int32.ofInt (Mt b a:Int)) 0=Int32.ofInt (Mt b a:Int):=by have:=Azc (v:=Mt b a) 0 (by omega) (by omega);simpa using this
 have s1:Cn (Int32.ofInt (Mt b (a+1):Int)) 8=Int32.ofInt ((Mt b (a+1)*2^8:Nat):Int):=Azc 8 (by omega) (by omega)
 have s2:Cn (Int32.ofInt (Mt b (a+2):Int)) 16=Int32.ofInt ((Mt b (a+2)*2^16:Nat):Int):=Azc 16 (by omega) (by omega)
 have o1:=Bzv (v:=Mt b a) (w:=Mt b (a+1)) (i:=8) (by simpa using h0) (by omega) (by omega)
 have o2:=Bzv (v:=Mt b a+Mt b (a+1)*2^8) (w:=Mt b (a+2)) (i:=16) (by omega) (by omega) (by omega)
 have c:=carry (v:=Mt b a+Mt b (a+1)*2^8+Mt b (a+2)*2^16) (k:=8) (by omega) (by omega) (by omega)
 rw[Ee,if_pos (by rw[Af,Ac];simp;omega),if_neg (by rw[Bc];decide),Jb,hF,Da,Ei,q,if_pos (by decide),show Ae (a:Int) 0=((a:Nat):Int) by rw[Ag (by omega) (by omega)];omega,Anu (by omega),Aa,Bp (by decide),Aa,z0,
  Ahk,show((b.getD a 0).toNat:Int)=(Mt b a:Int)from rfl,s0,Bhv _ (by omega),show Ae (0:Int) 1=1 by decide,
  Da,Ei,q,if_pos (by decide),show Ae (a:Int) 1=((a+1:Nat):Int) by rw[Ag (by omega) (by omega)];omega,Anu (by omega),Aa,Bp (by decide),Aa,z1,
  Ahk,show((b.getD (a+1) 0).toNat:Int)=(Mt b (a+1):Int)from rfl,s1,o1,show Ae (1:Int) 1=2 by decide,
  Da,Ei,q,if_pos (by decide),show Ae (a:Int) 2=((a+2:Nat):Int) by rw[Ag (by omega) (by omega)];omega,Anu (by omega),Aa,Bp (by decide),Aa,z2,
  Ahk,show((b.getD (a+2) 0).toNat:Int)=(Mt b (a+2):Int)from rfl,s2,o2,show Ae (2:Int) 1=3 by decide,
  Da,Ei,q,if_neg (by decide),Rc,Ra,Bp (by decide),Aa,Aa,z8,c,Cq (by simp;omega),Aa,Hc,Rm,q,Ag (by omega) (by omega)]
 have e:((if(Mt b a+Mt b (a+1)*2^8+Mt b (a+2)*2^16)*2^8<2147483648 then(((Mt b a+Mt b (a+1)*2^8+Mt b (a+2)*2^16)*2^8:Nat):Int)else(((Mt b a+Mt b (a+1)*2^8+Mt b (a+2)*2^16)*2^8:Nat):Int)-4294967296).fdiv (2^8))=sx 3 b a:=by
  rw[Int.fdiv_eq_ediv_of_nonneg _ (by omega),sx3]
  split<;>split<;>omega
 rw[e];rfl
theorem Ax1(bits:Int)(n m:Nat)(hn:1≤n)(hm:b.length=m*n)(hl:b.length≤100000)(step:∀(q a:Nat) (acc:List Int32),a+n≤b.length→acc.length≤100000→Cr bits b (q+1) (a:Int) acc=Cr bits b q ((a+n:Nat):Int) (acc++[Int32.ofInt (sx n b a)])):
  ∀(j x q:Nat),x+j=m→j<q→Cr bits b q ((x*n:Nat):Int) (sxs n x b)=some (sxs n m b,0)
 |0,x,q+1,hx,_=>by
  obtain rfl:x=m:=by omega
  rw[Cr,Ee,if_neg (by rw[Af,Ac];simp;omega)];rfl
 |j+1,x,q+1,hx,hq=>by
  have h1:(x+1)*n≤m*n:=Nat.mul_le_mul_right n (by omega)
  rw[Nat.add_mul,Nat.one_mul]at h1
  have h2:m≤m*n:=Nat.le_mul_of_pos_right m hn
  rw[step q (x*n) _ (by omega) (by rw[Bbq];omega),←Bkv,show x*n+n=(x+1)*n by rw[Nat.add_mul,Nat.one_mul]]
  exact Ax1 bits n m hn hm hl step j (x+1) q (by omega) (by omega)
theorem Cev{bits:Int}(h:Cl bits)(hl:b.length≤100000)(q a:Nat)(acc:List Int32)(ha:a+wB bits≤b.length)(hc:acc.length≤100000):
  Cr bits b (q+1) (a:Int) acc=Cr bits b q ((a+wB bits:Nat):Int) (acc++[Int32.ofInt (sx (wB bits) b a)]):=by
 rw[Cr]
 obtain rfl|rfl|rfl:=h
 ·exact Cer b _ a acc ha hl hc _ _
 ·exact Ccu b _ a acc ha hl hc _ _
 ·exact Cdr b _ a acc ha hl hc _ _
theorem Bjo{bits:Int}(h:Cl bits){m:Nat}(hm:b.length=m*wB bits)(h4:m≤4000):Pr bits b=some (sxs (wB bits) m b,0):=by
 have hn:=Bbb bits
 have hl:b.length≤12000:=by rw[hm];exact Nat.mul_le_mul h4 hn.2
 rw[Pr,Acl,Bif h,Aa]
 simp only
 rw[if_neg (by rw[Aj];simp),Ayw h,Bp (by rw[Aj];simp;omega),Aa]
 have hr:Ey (Ac b) (wB bits:Int)=0:=by rw[Ac,Aqu,hm,Nat.mul_mod_left];rfl
 have hq:Bf (Ac b) (wB bits:Int)=(m:Int):=by rw[Ac,Bi6 (by omega),hm,Nat.mul_div_cancel _ (by omega)]
 rw[if_neg (by rw[Aj,hr];simp),Aa,hq,if_neg (by rw[Ar];simp;omega),Zx]
 have:=Ax1 b bits (wB bits) m (by omega) hm (by omega) (fun q a acc ha hc=>Cev b h (by omega) q a acc ha hc) m 0 Am (by omega) (by have:=Ak;omega)
 simpa [sxs]using this
theorem By1{bits:Int}(h:Cl bits)(hl:b.length≤100000)(q a:Nat)(acc:List Int32)(ha:a+wB bits≤b.length)(hc:acc.length≤100000):
  Cd bits b (hB bits) (q+1) (a:Int) acc=Cd bits b (hB bits) q ((a+wB bits:Nat):Int) (acc++[Int32.ofInt (sx (wB bits) b a)]):=by
 have h0:=Auy b a
 have h1:=Auy b (a+1)
 have h2:=Auy b (a+2)
 have gc:∀k,(Ad (b.getD k 0):Int)=(Mt b k:Int):=fun k=>Acx _
 have gx:∀z:Int,(Ad z:Int32)=Int32.ofInt z:=fun z=>rfl
 have hF:Am=(Am-7)+1+1+1+1+1+1+1:=by have:=Ak;omega
 have hw1:wB bits=1∨wB bits=2∨wB bits=3:=by have:=Bbb bits;omega
 have hend:∀(bk:Int→List Int32→Option (List Int32×Int)) (z:Int),0≤z→z<2*hB bits→z=(if bits=8 then(Mt b a:Int)else if bits=16 then((Mt b a+256*Mt b (a+1):Nat):Int)else((Mt b a+256*Mt b (a+1)+65536*Mt b (a+2):Nat):Int))→
   Io bk bits b (hB bits) (a:Int) z acc=bk ((a+wB bits:Nat):Int) (acc++[Int32.ofInt (sx (wB bits) b a)]):=by
  intro bk z z0 z1 z2
  rw[Io,Vt]
  have e28:∀acc2,Mm bk bits b (hB bits) (a:Int) acc2=bk ((a+wB bits:Nat):Int) acc2:=by
   intro acc2
   rw[Mm,Vx,Ayw h,Ag (by omega) (by omega)];rfl
  simp only[e28]
  obtain rfl|rfl|rfl:=h
  ·rw[if_pos (by decide),Bh (by omega) (by simp[hB]at z1;omega),Cq (by simp;omega),Aa,gx,z2];rfl
  ·rw[if_neg (by decide)]
   have e9:hB 16=32768:=rfl
   rw[e9]at z1⊢
   simp only[show ¬(16:Int)=8 by decide,if_false,if_true]at z2
   have e10:wB 16=2:=rfl
   rw[e10,sx2]
   by_cases hz:32768≤z
   ·rw[if_pos (by rw[Cz];simpa using hz),Fc (by omega) (by omega),Bh (by omega) (by omega),Cq (by simp;omega),Aa,gx,if_neg (by omega),z2];rfl
   ·rw[if_neg (by rw[Cz];simpa using hz),Cq (by simp;omega),Aa,gx,if_pos (by omega),z2]
  ·rw[if_neg (by decide)]
   have e9:hB 24=8388608:=rfl
   rw[e9]at z1⊢
   simp only[show ¬(24:Int)=8 by decide,show ¬(24:Int)=16 by decide,if_false]at z2
   have e10:wB 24=3:=rfl
   rw[e10,sx3]
   by_cases hz:8388608≤z
   ·rw[if_pos (by rw[Cz];simpa using hz),Fc (by omega) (by omega),Bh (by omega) (by omega),Cq (by simp;omega),Aa,gx,if_neg (by omega),z2];rfl
   ·rw[if_neg (by rw[Cz];simpa using hz),Cq (by simp;omega),Aa,gx,if_pos (by omega),z2]
 have step:∀(bk:Int→List Int32→Option (List Int32×Int)) (q2:Nat) (k:Int) (i:Nat),a+i<b.length→0≤k→k<65536→Cs bk bits b (hB bits) (a:Int) acc (q2+1) k (i:Int)=Cs bk bits b (hB bits) (a:Int) acc q2 (256*k+(Mt b (a+i):Int)) ((i:Int)-1):=by
  intro bk q2 k i hi hk hk2
  have:=Auy b (a+i)
  rw[Cs,Ms,if_pos (by rw[Cz];simp),Ag (a:=(a:Int)) (by omega) (by omega),show(a:Int)+(i:Int)=((a+i:Nat):Int) by omega,Anu (by omega),Aa,gc,Fc (by omega) (by omega),Ag (by omega) (by omega),Bh (by omega) (by omega)]
 have last:∀(bk:Int→List Int32→Option (List Int32×Int)) (q2:Nat) (k:Int),Cs bk bits b (hB bits) (a:Int) acc (q2+1) k (-1)=Io bk bits b (hB bits) (a:Int) k acc:=by
  intro bk q2 k
  rw[Cs,Ms,if_neg (by rw[Cz];decide)]
 rw[Cd,Mn,if_pos (by rw[Af,Ac];simp;omega),Vk,hF]
 generalize Cd bits b (hB bits) q=bk at*
 have hwq:=Ayw h
 rw[hwq,Bh (by omega) (by omega)]
 obtain rfl|rfl|rfl:=h
 ·have e10:wB 8=1:=rfl
  rw[e10]at ha⊢
  rw[show(((1:Nat):Int)-1)=((0:Nat):Int) by omega,step _ _ 0 0 (by omega) (by omega) (by omega),show(((0:Nat):Int)-1)= -1 by omega,last]
  exact hend bk _ (by omega) (by simp[hB];omega) (by simp)
 ·have e10:wB 16=2:=rfl
  rw[e10]at ha⊢
  rw[show(((2:Nat):Int)-1)=((1:Nat):Int) by omega,step _ _ 0 1 (by omega) (by omega) (by omega),show(((1:Nat):Int)-1)=((0:Nat):Int) by omega,step _ _ _ 0 (by omega) (by omega) (by omega),show(((0:Nat):Int)-1)= -1 by omega,last]
  exact hend bk _ (by omega) (by simp[hB];omega) (by simp;omega)
 ·have e10:wB 24=3:=rfl
  rw[e10]at ha⊢
  rw[show(((3:Nat):Int)-1)=((2:Nat):Int) by omega,step _ _ 0 2 (by omega) (by omega) (by omega),show(((2:Nat):Int)-1)=((1:Nat):Int) by omega,step _ _ _ 1 (by omega) (by omega) (by omega),show(((1:Nat):Int)-1)=((0:Nat):Int) by omega,step _ _ _ 0 (by omega) (by omega) (by omega),show(((0:Nat):Int)-1)= -1 by omega,last]
  exact hend bk _ (by omega) (by simp[hB];omega) (by simp;omega)
theorem Al1{bits:Int}(h:Cl bits){m:Nat}(hm:b.length=m*wB bits)(hl:b.length≤100000):
  ∀(j x q:Nat),x+j=m→j<q→Cd bits b (hB bits) q ((x*wB bits:Nat):Int) (sxs (wB bits) x b)=some (sxs (wB bits) m b,0)
 |0,x,q+1,hx,_=>by
  obtain rfl:x=m:=by omega
  rw[Cd,Mn,if_neg (by rw[Af,Ac];simp;omega)];rfl
 |j+1,x,q+1,hx,hq=>by
  have hn:=Bbb bits
  have h1:(x+1)*wB bits≤m*wB bits:=Nat.mul_le_mul_right _ (by omega)
  rw[Nat.add_mul,Nat.one_mul]at h1
  have h2:m≤m*wB bits:=Nat.le_mul_of_pos_right m hn.1
  rw[By1 b h hl q (x*wB bits) _ (by omega) (by rw[Bbq];omega),←Bkv,show x*wB bits+wB bits=(x+1)*wB bits by rw[Nat.add_mul,Nat.one_mul]]
  exact Al1 h hm hl j (x+1) q (by omega) (by omega)
theorem Bl4{bits:Int}(h:Cl bits){m:Nat}(hm:b.length=m*wB bits)(h4:m≤4000):Rs bits b=some (sxs (wB bits) m b,0):=by
 have hn:=Bbb bits
 have hl:b.length≤12000:=by rw[hm];exact Nat.mul_le_mul h4 hn.2
 have hpos:=Anf bits
 rw[Rs,Yg,Axb h,Aa,if_neg (by rw[Bc];simp;omega),Ayw h,Bp (by rw[Aj];simp;omega),Aa]
 have hr:Ey (Ac b) (wB bits:Int)=0:=by rw[Ac,Aqu,hm,Nat.mul_mod_left];rfl
 have hq:Bf (Ac b) (wB bits:Int)=(m:Int):=by rw[Ac,Bi6 (by omega),hm,Nat.mul_div_cancel _ (by omega)]
 rw[if_neg (by rw[Ar,hr];simp),Aa,hq,if_neg (by rw[Ar];simp;omega),Vu]
 have:=Al1 b h hm (by omega) m 0 Am (by omega) (by have:=Ak;omega)
 simpa [sxs]using this
end Go.Pl
set_option linter.unusedVariables false
set_option linter.unusedSimpArgs false
namespace Go.Pl
open Go Go.Lv
end Go.Pl
set_option linter.unusedVariables false
set_option linter.unusedSimpArgs false
namespace Go.Pl
open Go Go.Lv
section
variable {b p:List UInt8} {f c w r n A:Nat} {l:List Int} (o:Opn b p f c w r n A l)
include o
theorem Ay7{k m:Nat}{x:List Int32}{s:List UInt8}{e:Int}(hk:k<l.length)(g:Gts b p f c w r n A l k m x s e):Lz b p (k:Int)=some (s,e):=by
 obtain⟨y,h1,h2⟩:=Btv o k hk
 rw[Bmo o,h1,←g.got,h2]
end
def Fi(G:Nat→List UInt8×Int):Nat→Nat→List Int→List Int
 |0,_,acc=>acc
 |j+1,k,acc=>Fi G j (k+1) (if(G k).2≠0 then acc++[(k:Int)]else acc)
theorem Bcm(G:Nat→List UInt8×Int):∀(j k:Nat) (acc:List Int),(Fi G j k acc).length≤acc.length+j
 |0,k,acc=>by simp[Fi]
 |j+1,k,acc=>by
  have:=Bcm G j (k+1) (if(G k).2≠0 then acc++[(k:Int)]else acc)
  rw[Fi]
  by_cases h:(G k).2≠0
  ·rw[if_pos h]at this⊢;rw[List.length_append]at this;simp at this;omega
  ·rw[if_neg h]at this⊢;omega
def smF(w:Nat)(y:List UInt8×Int):List Int32:=if y.2≠0 then []else sxs (wB (w:Int)) (y.1.length/wB (w:Int)) y.1
section
variable {b p:List UInt8} {f c w r n A:Nat} {l:List Int} (o:Opn b p f c w r n A l)
include o
theorem Bak{k m:Nat}{x:List Int32}{s:List UInt8}(g:Gts b p f c w r n A l k m x s 0):Pr (w:Int) s=some (smF w (s,0),0)∧Rs (w:Int) s=some (smF w (s,0),0)∧(smF w (s,0)).length=m*c:=by
 obtain⟨hc,hw,hr,hn,_⟩:=Sm o.shape
 have hwb:=Bbb (w:Int)
 have hl:=(g.lens hw).2.2 rfl
 have hm:=g.pos
 have e:s.length/wB (w:Int)=m*c:=by rw[hl,Nat.mul_div_cancel _ (by omega)]
 rw[smF,if_neg (by simp),e]
 exact⟨Bjo s hw hl hm.2,Bl4 s hw hl hm.2,Bbq _ _ _⟩
theorem Bm3:∀(j k q:Nat) (acc:List Int),k+j=l.length→j<q→acc.length≤k→
  Kq b p (framesL (longN r) n) (f:Int) (c:Int) (w:Int) (r:Int) (n:Int) (A:Int) l q (k:Int) acc=some (Fi (Cv b p f c w r n A l) j k acc,0)
 |0,k,q+1,acc,hk,_,_=>by
  rw[Kq,Aaz,if_neg (by rw[Af,Ac,←o.len];simp;omega),Ahu,Ah0,Ld,Ajb,if_neg (by rw[Aj];simp)];rfl
 |j+1,k,q+1,acc,hk,hq,ha=>by
  have hs1:=o.some1
  obtain⟨m,x,s,e,g⟩:=Atr o k (by omega)
  have hf:=Ay7 o (by omega) g
  have hnext:∀acc2:List Int,acc2.length≤k+1→Yr (Kq b p (framesL (longN r) n) (f:Int) (c:Int) (w:Int) (r:Int) (n:Int) (A:Int) l q) b p (framesL (longN r) n) (f:Int) (c:Int) (w:Int) (r:Int) (n:Int) (A:Int) l (k:Int) acc2=some (Fi (Cv b p f c w r n A l) j (k+1) acc2,0):=by
   intro acc2 h2
   rw[Yr,Ah9,if_neg (by rw[Aj];simp),Aid,Aqm,Ag (by omega) (by omega)]
   exact Bm3 j (k+1) q acc2 (by omega) (by omega) h2
  rw[Kq,Aaz,if_pos (by rw[Af,Ac,←o.len];simp;omega),g.mom,Aa,Aa,hf,Aa,Fi,g.eq]
  simp only
  by_cases he:e=0
  ·subst he
   obtain⟨s1,_,_⟩:=Bak o g
   rw[if_pos (by decide),s1,Aa]
   simp only
   rw[if_neg (by rw[Aj];simp),Aa0,Aa7,if_neg (by decide),if_neg (by simp)]
   exact hnext acc (by omega)
  ·rw[if_neg (by rw[Bc];simpa using he),Aa0,Aa7,if_pos (by rw[Bc];simpa using he),Cq (by simp;omega),Aa,if_pos he]
   exact hnext _ (by simp;omega)
theorem Bw3:Rz b p=some (Fi (Cv b p f c w r n A l) l.length 0 [],0):=by
 have hs1:=o.some1
 rw[Rz,Adi,o.prog,Aa]
 simp only
 rw[if_neg (by rw[Aj];simp),Aj5 o.shape o.fit,Aa]
 simp only
 rw[if_neg (by rw[Aj];simp)]
 exact Bm3 o l.length 0 Am [] (by omega) (by have:=Ak;omega) (by simp)
end
theorem Byo{b p:List UInt8}{e:Int}(he:e≠0)(h:seekto_Open b p=some (Bcv e)):Rz b p=some ([],e):=by
 rw[Rz,Adi,h,Aa,Bcv]
 simp only
 rw[if_pos (by rw[Aj];simpa using he),Ld,Ajb,if_pos (by rw[Aj];simpa using he)]
end Go.Pl
set_option linter.unusedVariables false
set_option linter.unusedSimpArgs false
namespace Go.Pl
open Go Go.Lv
theorem Ayy(z:Int):(u8 z).toNat=(z %256).toNat:=by
 have:(z %256).toNat<256:=by omega
 rw[u8,UInt8.toNat_ofNat',Nat.mod_eq_of_lt (by omega)]
theorem Be9{bits:Int}(h:Cl bits):∀(l:List Int32) (i j:Nat),i<l.length→j<wB bits→(bytesB bits l).getD (i*wB bits+j) 0=(Ac0 bits (l.getD i 0).toInt).getD j 0
 |[],i,j,hi,_=>by simp at hi
 |x::l,0,j,_,hj=>by
  have h1:=Aze h x.toInt
  have e:bytesB bits (x::l)=Ac0 bits x.toInt++bytesB bits l:=by simp[bytesB]
  rw[e,Nat.zero_mul,Nat.zero_add,List.getD_eq_getElem?_getD,List.getD_eq_getElem?_getD,List.getElem?_append_left (by omega)];rfl
 |x::l,i+1,j,hi,hj=>by
  have h1:=Aze h x.toInt
  have e:bytesB bits (x::l)=Ac0 bits x.toInt++bytesB bits l:=by simp[bytesB]
  have ih:=Be9 h l i j (by simpa using hi) hj
  have e2:(i+1)*wB bits+j=(Ac0 bits x.toInt).length+(i*wB bits+j):=by rw[Nat.add_mul,Nat.one_mul,h1];omega
  rw[e,e2,List.getD_eq_getElem?_getD,List.getElem?_append_right (by omega),Nat.add_sub_cancel_left,←List.getD_eq_getElem?_getD,ih];rfl
theorem Cbi{bits:Int}(h:Cl bits)(l:List Int32)(hr:inR bits l)(i:Nat)(hi:i<l.length):Int32.ofInt (sx (wB bits) (bytesB bits l) (i*wB bits))=l.getD i 0:=by
 have hm:l.getD i 0∈l:=by rw[List.getD_eq_getElem?_getD,List.getElem?_eq_getElem hi];exact List.getElem_mem hi
 have hv:=hr _ hm
 have g:∀j,j<wB bits→Mt (bytesB bits l) (i*wB bits+j)=((Ac0 bits (l.getD i 0).toInt).getD j 0).toNat:=fun j hj=>by rw[Mt,Be9 h l i j hi hj]
 generalize l.getD i 0=x at*
 have key:sx (wB bits) (bytesB bits l) (i*wB bits)=x.toInt:=by
  generalize hA:i*wB bits=a at*
  obtain rfl|rfl|rfl:=h
  ·have g0:=g 0 (by decide)
   have e1:(Ac0 8 x.toInt).getD 0 0=u8 (x.toInt+128):=rfl
   rw[Nat.add_zero,e1,Ayy]at g0
   simp only[hB]at hv
   simp at hv
   have e2:wB 8=1:=rfl
   rw[e2,sx,if_pos rfl,g0];omega
  ·have g0:=g 0 (by decide)
   have g1:=g 1 (by decide)
   have e0:(Ac0 16 x.toInt).getD 0 0=u8 x.toInt:=rfl
   have e1:(Ac0 16 x.toInt).getD 1 0=u8 (x.toInt/256):=rfl
   rw[Nat.add_zero,e0,Ayy]at g0
   rw[e1,Ayy]at g1
   simp only[hB]at hv
   simp at hv
   have e2:wB 16=2:=rfl
   rw[e2,sx2,g0,g1]
   split<;>omega
  ·have g0:=g 0 (by decide)
   have g1:=g 1 (by decide)
   have g2:=g 2 (by decide)
   have e0:(Ac0 24 x.toInt).getD 0 0=u8 x.toInt:=rfl
   have e1:(Ac0 24 x.toInt).getD 1 0=u8 (x.toInt/256):=rfl
   have e3:(Ac0 24 x.toInt).getD 2 0=u8 (x.toInt/65536):=rfl
   rw[Nat.add_zero,e0,Ayy]at g0
   rw[e1,Ayy]at g1
   rw[e3,Ayy]at g2
   simp only[hB]at hv
   simp at hv
   have e2:wB 24=3:=rfl
   rw[e2,sx3,g0,g1,g2]
   split<;>omega
 rw[key];simp
theorem Bw0{bits:Int}(h:Cl bits)(l:List Int32)(hr:inR bits l):sxs (wB bits) l.length (bytesB bits l)=l:=by
 refine List.ext_getElem (Bbq _ _ _) fun i h1 h2=>?_
 have:=Cbi h l hr i h2
 simp only[sxs,List.getElem_map,List.getElem_range]
 rw[this,List.getD_eq_getElem?_getD,List.getElem?_eq_getElem h2];rfl
theorem Gts.smp{b p:List UInt8}{f c w r n A:Nat}{l:List Int}{k m:Nat}{x:List Int32}{s:List UInt8}{e:Int}(hw:Cl (w:Int))(g:Gts b p f c w r n A l k m x s e):smF w (s,e)=x:=by
 have hwb:=Bbb (w:Int)
 by_cases he:e=0
 ·obtain⟨h1,h2,h3,_⟩:=g.some' he
  have h4:=g.pos
  have h5:=Ast hw x
  rw[smF,if_neg (by simpa using he)]
  simp only
  rw[h1,h5,Nat.mul_div_cancel _ (by omega)]
  exact Bw0 hw x (As8 hw (by omega) h3)
 ·rw[smF,if_pos he,(g.none' he).2]
end Go.Pl
set_option linter.unusedVariables false
set_option linter.unusedSimpArgs false
namespace Go.Pl
open Go Go.Lv
abbrev C5:=Int×Int×Int×List Int32×Int
def Cfn(e:Int):C5:=(0,0,0,[],e)
def Ca3(X:Nat→List Int32)(E:Nat→Int)(be:Int):Nat→Nat→List Int32→List Int32×Int
 |0,_,acc=>if be≠0 then([],38)else(acc,0)
 |j+1,k,acc=>if E k≠0 then([],E k)else Ca3 X E be j (k+1) (acc++X k)
def Bku(c w r:Nat)(y:List Int32×Int):C5:=if y.2≠0 then Cfn y.2 else((c:Int),(w:Int),(r:Int),y.1,0)
section
variable {b p:List UInt8} {f c w r n A:Nat} {l:List Int} (o:Opn b p f c w r n A l)
include o
theorem Aym(a1 a2 a3 a4:Int):∀(j k q:Nat) (acc:List Int32),k+j=l.length→j<q→(k=l.length→(A:Int)+l.sum≤b.length)→acc.length≤4000*k→
  Nd b l (f:Int) (c:Int) (w:Int) (r:Int) (n:Int) a1 a2 a3 (A:Int) a4 (tapsOf p) (framesL (longN r) n) q ((A:Int)+(l.take k).sum) (k:Int) acc=
   some (Bku c w r (Ca3 (fun k=>smF w (Cv b p f c w r n A l k)) (fun k=>(Cv b p f c w r n A l k).2) (Ce0 b A l) j k acc))
 |0,k,q+1,acc,hk,_,hfit,_=>by
  have hA:=o.at'
  have hfile:=o.file
  have hs1:=o.some1
  have hsum:=o.sum
  have b1:=Kz o.five l.length
  have hf:=hfit (by omega)
  obtain rfl:k=l.length:=by omega
  rw[List.take_length]at b1⊢
  rw[Nd,Aay,if_neg (by rw[Af,Ac];simp),Ail,Asm,Ty (by omega) (by omega),Aa,Bk1 _ (by rw[List.length_drop];omega),Aa,Ca3,Ce0]
  generalize Bb2 (b.drop ((A:Int)+l.sum).toNat)=v
  obtain⟨v1,v2⟩:=v
  simp only
  by_cases hv:v2≠0
  ·rw[if_pos hv,if_pos (by rw[Aj];simpa using hv),Bku,if_pos (by simp)];rfl
  ·rw[if_neg hv,if_neg (by rw[Aj];simpa using hv),Bku,if_neg (by simp)]
 |j+1,k,q+1,acc,hk,hq,hfit,hacc=>by
  have hA:=o.at'
  have hfile:=o.file
  have hs1:=o.some1
  have hsum:=o.sum
  have b1:=Kz o.five k
  have b2:=Kz o.five (k+1)
  have hkl:k<l.length:=by omega
  have e2:=Pv hkl
  have h5:=o.five l[k] (List.getElem_mem _)
  obtain⟨m,x,s,e,g⟩:=Atr o k hkl
  obtain⟨hc,hw,hr,hn,_⟩:=Sm o.shape
  have hl:=g.lens hw
  rw[Nd,Aay,if_pos (by rw[Af,Ac];simp;omega),Cf hkl,Aa,Aa,Ag (a:=(A:Int)+(l.take k).sum) (by omega) (by omega),Int.add_assoc,←e2,Ac,Ca3,g.eq]
  simp only
  rcases g.way with⟨h1,h2⟩|⟨h1,h2,_⟩
  ·rw[if_pos (by rw[Af,decide_eq_true_eq];omega),if_pos (by rw[h2];simp),h2,Bku,if_pos (by simp)];rfl
  ·rw[if_neg (by rw[Af,decide_eq_true_eq];omega),g.mom]
   simp only[Aa]
   rw[Xa (by omega) (by omega) (by omega),Aa,show(b.take ((A:Int)+(l.take (k+1)).sum).toNat).drop ((A:Int)+(l.take k).sum).toNat=segF b A l k from rfl,h2,Aa]
   simp only
   rw[Ah1,Arz]
   by_cases he:e≠0
   ·rw[if_pos (by rw[Aj];simpa using he),if_pos he,Bku,if_pos he];rfl
   ·have he0:e=0:=by simpa using he
    have hfit2:=(g.some' he0).2.2.2.2
    rw[if_neg (by rw[Aj];simpa using he),if_neg he,g.smp hw,Cq (by omega),Aa,Ag (a:=(A:Int)+(l.take k).sum) (by omega) (by omega),Int.add_assoc,←e2,Ag (by omega) (by omega)]
    exact Aym a1 a2 a3 a4 j (k+1) q (acc++x) (by omega) (by omega) (fun h=>by rw[h,List.take_length]at hfit2;exact hfit2) (by rw[List.length_append];omega)
end
end Go.Pl
set_option linter.unusedVariables false
set_option linter.unusedSimpArgs false
namespace Go.Pl
open Go Go.Lv
def Cfa(b:List UInt8):List Int:=framesL (longN (f3 (hdr b))) (f4 (hdr b))
end Go.Pl
set_option linter.unusedVariables false
set_option linter.unusedSimpArgs false
namespace Go.Pl
open Go Go.Lv
end Go.Pl
set_option linter.unusedVariables false
set_option linter.unusedSimpArgs false
namespace Go.Pl
open Go Go.Lv
theorem Cc9{ch:Nat}{bits:Int}(hb:Cl bits)(h1:1≤ch)(h6:ch≤6):Ik (ch:Int) bits=some 0:=by
 have hr:∃x y,Sn bits=some (x,y,0):=⟨_,_,Bif hb⟩
 obtain⟨x,y,hr⟩:=hr
 rw[Ik,hr,Aa]
 simp only
 rw[if_neg (by simp[Aj,Af,Ar];omega)]
theorem Bpq{ch m:Nat}{bits:Int}(hb:Cl bits)(h1:1≤ch)(h6:ch≤6)(hm:1≤m∧m*ch≤4000):Vz (ch:Int) bits (m:Int)=some (List.replicate (m*ch) 0,0):=by
 have hmc:m≤4000/ch:=(Nat.le_div_iff_mul_le (by omega)).2 hm.2
 have e:(m:Int)*(ch:Int)=((m*ch:Nat):Int):=by simp
 have hg:Ay (m:Int) (ch:Int)=((m*ch:Nat):Int):=by rw[Fc (by omega) (by omega),e]
 have hq4:=Bjf h1 h6
 generalize 4000/ch=mm at*
 rw[Vz,Ako,Cc9 hb h1 h6,Aa,if_neg (by rw[Aj];simp),if_neg (by rw[Af];simp;omega),Bp (by rw[Aj];simp;omega),Aa,hq4,if_neg (by rw[Ar];simp;omega),Aa,if_neg (by rw[Aj];simp),hg,Azt (by omega) (by omega),Aa,Bp (by rw[Bc];simp),Aa,Int.toNat_natCast]
def Gq(kind c w:Nat)(fr:List Int)(G:Nat→List UInt8×Int)(k:Nat):List Int32:=
 if(G k).2≠0 then(if kind=2 then List.replicate ((fr.getD k 0).toNat*c) 0 else [])else smF w (G k)
def Bgd(kind c w:Nat)(fr:List Int)(G:Nat→List UInt8×Int):Nat→Nat→List Int32→List Int32
 |0,_,acc=>acc
 |j+1,k,acc=>Bgd kind c w fr G j (k+1) (acc++Gq kind c w fr G k)
abbrev P6':=Int×Int×Int×List Int32×List Int×Int
def Bwj(e:Int):P6':=(0,0,0,[],[],e)
def Bxc(b p:List UInt8)(f c w r n A:Nat)(l:List Int)(kind:Nat):P6':=
 if Bgd kind c w (framesL (longN r) n) (Cv b p f c w r n A l) l.length 0 []=[]then Bwj 6 else((c:Int),(w:Int),(r:Int),Bgd kind c w (framesL (longN r) n) (Cv b p f c w r n A l) l.length 0 [],Fi (Cv b p f c w r n A l) l.length 0 [],0)
section
variable {b p:List UInt8} {f c w r n A:Nat} {l:List Int} (o:Opn b p f c w r n A l)
include o
theorem Bg5{kind k m:Nat}{x:List Int32}{s:List UInt8}{e:Int}(g:Gts b p f c w r n A l k m x s e):(Gq kind c w (framesL (longN r) n) (Cv b p f c w r n A l) k).length≤4000∧((framesL (longN r) n).getD k 0).toNat=m:=by
 obtain⟨hc,hw,hr,hn,_⟩:=Sm o.shape
 have hm:=g.mom
 have hp:=g.pos
 have e1:(framesL (longN r) n).getD k 0=(m:Int):=by
  have:getI (framesL (longN r) n) (k:Int)=(framesL (longN r) n)[k]? :=by simp[getI]
  rw[this]at hm
  rw[List.getD_eq_getElem?_getD,hm];rfl
 refine⟨?_,by rw[e1];omega⟩
 rw[Gq,g.eq,e1]
 by_cases he:e≠0
 ·rw[if_pos he]
  split
  ·simpa using hp.2
  ·simp
 ·rw[if_neg he,g.smp hw];exact(g.lens hw).2.1
theorem Bmp(kind:Nat)(hk2:kind=1∨kind=2):∀(j k q:Nat) (bad:List Int) (acc:List Int32),k+j=l.length→j<q→bad.length≤k→acc.length≤4000*k→
  He b p (framesL (longN r) n) 0 (kind:Int) (c:Int) (w:Int) (r:Int) (f:Int) (c:Int) (w:Int) (r:Int) (n:Int) (A:Int) l q (k:Int) bad acc=
   Fq (c:Int) (w:Int) (r:Int) 0 (Fi (Cv b p f c w r n A l) j k bad) (Bgd kind c w (framesL (longN r) n) (Cv b p f c w r n A l) j k acc)
 |0,k,q+1,bad,acc,hk,_,_,_=>by
  rw[He,Qt,if_neg (by rw[Af,Ac,←o.len];simp;omega)];rfl
 |j+1,k,q+1,bad,acc,hk,hq,hb,ha=>by
  obtain⟨hc,hw,hr,hn,_⟩:=Sm o.shape
  have hs1:=o.some1
  obtain⟨m,x,s,e,g⟩:=Atr o k (by omega)
  have hf:=Ay7 o (by omega) g
  obtain⟨hpl,hfm⟩:=Bg5 o (kind:=kind) g
  have hpiece:Gq kind c w (framesL (longN r) n) (Cv b p f c w r n A l) k=if e≠0 then(if kind=2 then List.replicate (m*c) 0 else [])else smF w (s,e):=by rw[Gq,g.eq,hfm]
  have hnext:∀(bad2:List Int) (acc2:List Int32),bad2.length≤k+1→acc2.length≤4000*(k+1)→Je (He b p (framesL (longN r) n) 0 (kind:Int) (c:Int) (w:Int) (r:Int) (f:Int) (c:Int) (w:Int) (r:Int) (n:Int) (A:Int) l q) b p (framesL (longN r) n) 0 (kind:Int) (c:Int) (w:Int) (r:Int) (f:Int) (c:Int) (w:Int) (r:Int) (n:Int) (A:Int) l (k:Int) 0 bad2 acc2=
    Fq (c:Int) (w:Int) (r:Int) 0 (Fi (Cv b p f c w r n A l) j (k+1) bad2) (Bgd kind c w (framesL (longN r) n) (Cv b p f c w r n A l) j (k+1) acc2):=by
   intro bad2 acc2 h2 h3
   rw[Je,Yp,if_neg (by rw[Aj];simp),Aau,Ajm,Ag (by omega) (by omega)]
   exact Bmp kind hk2 j (k+1) q bad2 acc2 (by omega) (by omega) h2 h3
  rw[hpiece]at hpl
  rw[He,Qt,if_pos (by rw[Af,Ac,←o.len];simp;omega),g.mom,Aa,Aa,hf,Aa,Fi,Bgd,g.eq,hpiece]
  simp only
  by_cases he:e=0
  ·subst he
   obtain⟨s1,_,_⟩:=Bak o g
   rw[if_neg (by simp)]at hpl
   rw[if_pos (by decide),s1,Aa]
   simp only
   rw[if_neg (by rw[Aj];simp),Qs,Qw,if_neg (by decide),Qx,Rj,Cq (by omega),Aa,if_neg (by simp),if_neg (by simp)]
   exact hnext bad _ (by omega) (by rw[List.length_append];omega)
  ·rw[if_pos he]at hpl
   rw[if_neg (by rw[Bc];simpa using he),Qs,Qw,if_pos (by rw[Bc];simpa using he),Cq (by simp;omega),Aa,if_pos he,if_pos he]
   rcases hk2 with rfl|rfl
   ·rw[if_neg (by rw[Bc];decide),Qx,Rj,Cq (by simp;omega),Aa,if_neg (by omega)]
    exact hnext _ _ (by simp;omega) (by simp;omega)
   ·rw[if_pos (by rw[Bc];decide),Bpq hw hc.1 hc.2 g.pos,Aa]
    simp only
    rw[if_pos rfl]at hpl
    rw[if_neg (by rw[Aj];simp),Abk,Zl,Cq (by omega),Aa,if_pos trivial]
    exact hnext _ _ (by simp;omega) (by rw[List.length_append];omega)
theorem Bmj(kind:Nat)(hk2:kind=1∨kind=2):Du b p (kind:Int)=some (Bxc b p f c w r n A l kind):=by
 have hs1:=o.some1
 have h:=Bmp o kind hk2 l.length 0 Am [] [] (by omega) (by have:=Ak;omega) (by simp) (by simp)
 rw[Du,Tq,if_neg (by simp[Af,Ar];omega),if_neg (by rw[Bc];simp;omega),o.prog,Aa]
 simp only
 rw[if_neg (by rw[Aj];simp),Aa]
 simp only
 rw[if_neg (by rw[Aj];simp),Aj5 o.shape o.fit,Aa]
 simp only
 rw[if_neg (by rw[Aj];simp),Zw]
 refine Eq.trans h ?_
 rw[Fq,Rb,if_neg (by rw[Aj];simp),Bxc]
 by_cases h2:Bgd kind c w (framesL (longN r) n) (Cv b p f c w r n A l) l.length 0 []=[]
 ·rw[if_pos h2,if_pos (by rw[h2];decide)];rfl
 ·rw[if_neg h2,if_neg (by rw[Bc,Ac];simpa using h2)]
end
theorem Brx{b p:List UInt8}{e:Int}(he:e≠0)(h:seekto_Open b p=some (Bcv e))(kind:Nat)(hk2:kind=1∨kind=2):Du b p (kind:Int)=some (Bwj e):=by
 rw[Du,Tq,if_neg (by simp[Af,Ar];omega),if_neg (by rw[Bc];simp;omega),h,Aa,Bcv]
 simp only
 rw[if_pos (by rw[Aj];simpa using he)];rfl
theorem Ba0(l:List Int32)(hl:l.length≤4000000):∀(j i q:Nat),i+j=l.length→j<q→Gi l l q (i:Int)=some true
 |0,i,q+1,hi,_=>by
  rw[Gi,Mb,if_neg (by rw[Af,Ac];simp;omega)];rfl
 |j+1,i,q+1,hi,hq=>by
  rw[Gi,Mb,if_pos (by rw[Af,Ac];simp;omega),Cf (by omega),Aa,Aa,if_neg (by rw[Byg];simp),Ag (by omega) (by omega)]
  exact Ba0 l hl j (i+1) q (by omega) (by omega)
theorem Ccc(l:List Int32)(hl:l.length≤4000000):Rn l l=some true:=by
 rw[Rn,Rw,if_neg (by rw[Aj];simp)]
 exact Ba0 l hl l.length 0 Am (by omega) (by have:=Ak;omega)
theorem Cc7(a b c:Int)(l:List Int32)(hl:l.length≤4000000):Eg a b c l a b c l=some true:=by
 have e:∀a:Int,geq a a=true:=fun a=>by rw[Bc];simp
 rw[Eg,e,e,e,if_pos (by decide),Ccc l hl,Aa]
end Go.Pl
set_option linter.unusedVariables false
set_option linter.unusedSimpArgs false
namespace Go.Pl
open Go Go.Lv
end Go.Pl
set_option linter.unusedVariables false
set_option linter.unusedSimpArgs false
namespace Go.Pl
open Go Go.Lv
theorem Bq1(g:Nat):∀K:Nat,(List.replicate K (g:Int)).sum=((K*g:Nat):Int)
 |0=>by simp
 |K+1=>by
  rw[List.replicate_succ,List.sum_cons,Bq1 g K,Nat.succ_mul];omega
theorem Arc{g n:Nat}(hn:1≤n):(framesL g n).sum=(n:Int):=by
 have h:=Nat.div_mul_le_self (n-1) g
 rw[framesL,List.sum_append,Bq1]
 simp only[List.sum_cons,List.sum_nil]
 omega
theorem Bor:∀{l:List Int},(∀x∈l,0≤x)→0≤l.sum
 |[],_=>by simp
 |x::l,h=>by
  have h1:=h x List.mem_cons_self
  have h2:=Bor (l:=l) fun y hy=>h y (List.mem_cons_of_mem _ hy)
  rw[List.sum_cons];omega
theorem Bzy{l:List Int}(h:∀x∈l,0≤x)(i:Nat):0≤(l.take i).sum∧(l.take i).sum≤l.sum:=by
 have h1:=Bor (l:=l.take i) fun x hx=>h x (List.mem_of_mem_take hx)
 have h2:=Bor (l:=l.drop i) fun x hx=>h x (List.mem_of_mem_drop hx)
 have:=Bgi l i
 omega
section
variable {f c w r n:Nat} (h1:shapeB f c w r n=true) (h2:fitB c r n=true)
include h1 h2
theorem Bo0:(∀x∈framesL (longN r) n,0≤x)∧(framesL (longN r) n).sum=(n:Int)∧n≤4000:=by
 obtain⟨hc,hw,hr,hn,_⟩:=Sm h1
 have hfit:n≤4000/c:=by simp only[fitB,decide_eq_true_eq]at h2;exact h2.1
 have hn4:n≤4000:=by have:=Nat.div_le_self 4000 c;omega
 refine⟨fun x hx=>?_,Arc hn,hn4⟩
 obtain⟨m,rfl,_⟩:=Avs (Acz r) hn hx
 omega
end
end Go.Pl
set_option linter.unusedVariables false
set_option linter.unusedSimpArgs false
namespace Go.Pl
open Go Go.Lv
theorem Bs1{bits:Int}(h:Cl bits){l:List Int32}(hl:l.length≤4000)(hr:inR bits l):cadenzaref18_Check bits l=some 0:=by
 have hh:=Anf bits
 have key:∀(j i q:Nat),i+j=l.length→j<q→Az l (hB bits) q (i:Int)=some 0:=by
  intro j
  induction j with
  |zero=>
   intro i q hi hq
   obtain⟨q,rfl⟩:∃k,q=k+1:=⟨q-1,by omega⟩
   rw[Az,Ci,if_neg (by rw[Af,Ac];simp;omega)];rfl
  |succ j ih=>
   intro i q hi hq
   obtain⟨q,rfl⟩:∃k,q=k+1:=⟨q-1,by omega⟩
   have hx:=hr l[i] (List.getElem_mem (by omega))
   rw[Az,Ci,if_pos (by rw[Af,Ac];simp;omega),Cf (by omega),Aa,Aa,Ds,Bj1,Br (by omega) (by omega),Ag (by omega) (by omega),Af,Cz,if_neg (by simp;omega),if_neg (by simp;omega)]
   exact ih (i+1) q (by omega) (by omega)
 rw[cadenzaref18_Check,Ft,Axb h,Aa,if_neg (by rw[Bc];simp;omega),if_neg (by rw[Ar,Ac];simp;omega)]
 exact key l.length 0 Am (by omega) (by have:=Ak;omega)
def Rp{α:Type}(G:Nat→List α):Nat→Nat→List α
 |0,_=>[]
 |j+1,k=>G k++Rp G j (k+1)
theorem Bf3{α:Type}(G:Nat→List α):∀(i j k:Nat),Rp G (i+j) k=Rp G i k++Rp G j (k+i)
 |0,j,k=>by simp[Rp]
 |i+1,j,k=>by
  rw[show i+1+j=(i+j)+1 by omega,Rp,Rp,Bf3 G i j (k+1),List.append_assoc,show k+1+i=k+(i+1) by omega]
theorem Azn{α:Type}(G:Nat→List α)(i k:Nat):Rp G (i+1) k=Rp G i k++G (k+i):=by
 rw[Bf3 G i 1 k];simp[Rp]
end Go.Pl
set_option linter.unusedVariables false
namespace Go.Pl
open Go Go.Lv
theorem Cbl:Oo=some true:=by kernel_rfl
end Go.Pl
set_option linter.unusedVariables false
set_option linter.unusedSimpArgs false
namespace Go.Pl
open Go Go.Lv
end Go.Pl
set_option linter.unusedVariables false
set_option linter.unusedSimpArgs false
namespace Go.Pl
open Go Go.Lv
theorem Bfs(kind c w:Nat)(fr:List Int)(G:Nat→List UInt8×Int):∀(j k:Nat) (acc:List Int32),Bgd kind c w fr G j k acc=acc++Rp (Gq kind c w fr G) j k
 |0,k,acc=>by simp[Bgd,Rp]
 |j+1,k,acc=>by rw[Bgd,Bfs kind c w fr G j (k+1),Rp,List.append_assoc]
theorem Alu(G:Nat→List UInt8×Int):∀(j k:Nat) (acc:List Int),Fi G j k acc=acc++Fi G j k []
 |0,k,acc=>by simp[Fi]
 |j+1,k,acc=>by
  rw[Fi,Alu G j (k+1),Fi,Alu G j (k+1) (if(G k).2≠0 then []++[(k:Int)]else [])]
  split<;>simp
theorem Beg(G:Nat→List UInt8×Int):∀(i j k:Nat),Fi G (i+j) k []=Fi G i k []++Fi G j (k+i) []
 |0,j,k=>by simp[Fi]
 |i+1,j,k=>by
  rw[show i+1+j=(i+j)+1 by omega,Fi,Alu,Beg G i j (k+1),Fi,Alu G i (k+1) (if(G k).2≠0 then []++[(k:Int)]else []),List.append_assoc,show k+1+i=k+(i+1) by omega]
theorem Bky(G:Nat→List UInt8×Int):∀(j k:Nat) (x:Int),x∈Fi G j k []→(k:Int)≤x
 |0,k,x,h=>by simp[Fi]at h
 |j+1,k,x,h=>by
  rw[Fi,Alu,List.mem_append]at h
  rcases h with h|h
  ·split at h
   ·simp at h;omega
   ·simp at h
  ·have:=Bky G j (k+1) x h;omega
theorem Cbc{bits:Int}(m:Nat):inR bits (List.replicate m 0):=fun x hx=>by
 have hh:=Anf bits
 rw[(List.mem_replicate.1 hx).2]
 have:(0:Int32).toInt=0:=rfl
 omega
theorem Cb9{r:Nat}(h1:1≤r)(h:r≤1048576):Re (r:Int)=some ((longN r:Int),0):=by
 have hv:=Bdo h
 have e:Ay (r:Int) 256=Ay 256 (r:Int):=by rw[Fc (by omega) (by omega),Fc (by omega) (by omega)];omega
 rw[Re,if_neg (by simp[Af,Ar];omega),e]
 have hq:0≤Bf (Ay 256 (r:Int)) 245:=by
  have e2:Ay 256 (r:Int)=((256*r:Nat):Int):=by rw[Fc (by omega) (by omega)];omega
  rw[e2,show(245:Int)=((245:Nat):Int)from rfl,Bi6 (by omega)];omega
 rw[Bjc]at hv
 by_cases hz:Bf (Ay 256 (r:Int)) 245=0
 ·rw[if_pos (by rw[Bc];simpa using hz)]
  rw[hz]at hv
  have:(1:Int)=(longN r:Int):=by omega
  rw[this]
 ·rw[if_neg (by rw[Bc];simpa using hz)]
  have:Bf (Ay 256 (r:Int)) 245=(longN r:Int):=by omega
  rw[this]
theorem Awa{r:Nat}(h:r≤1048576)(K:Nat)(hK:K≤1000):∀(j n q:Nat) (acc:List Int),n≤4000→n≤j→j<q→acc.length+n≤10000→(acc++(if n=0 then []else framesL (longN r) n)).length=K→Fj (longN r:Int) q (n:Int) acc=some (acc++(if n=0 then []else framesL (longN r) n),0)
 |0,n,q+1,acc,hn,hj,hq,ha,hk=>by
  obtain rfl:n=0:=by omega
  rw[if_pos rfl,List.append_nil]at hk
  rw[Fj,Jy,if_neg (by rw[Ar];simp),Nb,Uh,if_neg (by rw[Ar,Ac];simp;omega),if_pos rfl,List.append_nil]
 |j+1,n,q+1,acc,hn,hj,hq,ha,hk=>by
  have hp:=Acz r
  have hl:=Aw2 h
  by_cases h0:n=0
  ·subst h0
   rw[if_pos rfl,List.append_nil]at hk
   rw[Fj,Jy,if_neg (by rw[Ar];simp),Nb,Uh,if_neg (by rw[Ar,Ac];simp;omega),if_pos rfl,List.append_nil]
  ·rw[Fj,Jy,if_pos (by rw[Ar];simp;omega),Cq (by simp;omega),Aa,Ajd]
   rw[if_neg h0]at hk⊢
   by_cases hs:n≤longN r
   ·rw[show min (n:Int) (longN r:Int)=(n:Int) by omega,Bh (by omega) (by omega),Int.sub_self]
    have ih:=Awa h K hK j 0 q (acc++[(n:Int)]) (by omega) (by omega) (by omega) (by simp;omega) (by rw[if_pos rfl,List.append_nil];rw[Ak2 hs (by omega)]at hk;exact hk)
    rw[if_pos rfl,List.append_nil]at ih
    rw[Ak2 hs (by omega)]
    exact ih
   ·rw[show min (n:Int) (longN r:Int)=(longN r:Int) by omega,Bh (by omega) (by omega),show(n:Int)-(longN r:Int)=((n-longN r:Nat):Int) by omega]
    have e:acc++framesL (longN r) n=(acc++[(longN r:Int)])++framesL (longN r) (n-longN r):=by rw[Bah hp (show longN r<n by omega)];simp
    have ih:=Awa h K hK j (n-longN r) q (acc++[(longN r:Int)]) (by omega) (by omega) (by omega) (by simp;omega) (by rw[if_neg (by omega),←e];exact hk)
    rw[if_neg (by omega),←e]at ih
    exact ih
theorem Cbd{r n:Nat}(h1:1≤r)(h:r≤1048576)(n1:1≤n)(n2:n≤4000)(hk:(n-1)/longN r+1≤1000):∃z:Int,Pb (r:Int) (n:Int)=some (z,0):=by
 have hl:=Awa h (framesL (longN r) n).length (by rw[Azs];omega) n n Am [] n2 (Nat.le_refl _) (by have:=Ak;omega) (by simp;omega) (by rw[if_neg (by omega)];rfl)
 rw[Pb,Aco,Va,Cb9 h1 h,Aa]
 simp only
 rw[if_neg (by simp[Aj,Af,Ar];omega),Ue,hl,Aa]
 exact⟨_,rfl⟩
section
variable {b p:List UInt8} {f c w r n A:Nat} {l:List Int} (o:Opn b p f c w r n A l)
include o
theorem Biq(i:Nat)(hi:i<l.length):∃(m:Nat) (s:LB) (e:Int),getI (framesL (longN r) n) (i:Int)=some (m:Int)∧1≤m∧Lz b p (i:Int)=some (s,e)∧(Cv b p f c w r n A l i).2=e∧
  (Gq 2 c w (framesL (longN r) n) (Cv b p f c w r n A l) i).length=m*c∧inR (w:Int) (Gq 2 c w (framesL (longN r) n) (Cv b p f c w r n A l) i)∧
  (e≠0→Gq 1 c w (framesL (longN r) n) (Cv b p f c w r n A l) i=[])∧
  (e=0→Gq 1 c w (framesL (longN r) n) (Cv b p f c w r n A l) i=Gq 2 c w (framesL (longN r) n) (Cv b p f c w r n A l) i∧width_Bytes (w:Int) (Gq 2 c w (framesL (longN r) n) (Cv b p f c w r n A l) i)=some (s,0)):=by
 have hw:=(Sm o.shape).2.1
 obtain⟨m,x,s,e,g⟩:=Atr o i hi
 have hsm:=g.smp hw
 have hl:=g.lens hw
 have hpl:=Bg5 o (kind:=2) g
 refine⟨m,s,e,g.mom,g.pos.1,Ay7 o hi g,by rw[g.eq],?_⟩
 unfold Gq
 rw[g.eq]
 by_cases he:e≠0
 ·rw[if_pos he,if_pos he,if_pos rfl,if_neg (by decide)]
  refine⟨?_,Cbc _,fun _=>rfl,fun h=>absurd h he⟩
  rw[List.length_replicate,hpl.2]
 ·have he0:e=0:=by simpa using he
  obtain⟨h1,h2,h3,h4,_⟩:=g.some' he0
  rw[if_neg he,if_neg he,hsm]
  exact⟨h2,As8 hw (by omega) h3,fun h=>absurd he0 h,fun _=>⟨rfl,h4⟩⟩
theorem Bup(j:Nat)(hj:j≤l.length):(Rp (Gq 2 c w (framesL (longN r) n) (Cv b p f c w r n A l)) j 0).length=((framesL (longN r) n).take j).sum.toNat*c:=by
 induction j with
 |zero=>simp[Rp]
 |succ j ih=>
  obtain⟨m,s,e,h0,_,_,_,h1,_⟩:=Biq o j (by omega)
  have hlen:=o.len
  have hlt:j<(framesL (longN r) n).length:=by omega
  rw[Cf hlt]at h0
  have h0':=Option.some.inj h0
  obtain⟨g1,g2,g3⟩:=Bo0 o.shape o.fit
  have b:=Bzy g1 j
  rw[Azn,List.length_append,ih (by omega),Nat.zero_add,h1,Pv hlt,h0']
  rw[show(((framesL (longN r) n).take j).sum+(m:Int)).toNat=((framesL (longN r) n).take j).sum.toNat+m by omega,Nat.add_mul]
theorem Bpc(kind:Nat)(hk:kind=1∨kind=2):∀(j k:Nat),k+j≤l.length→inR (w:Int) (Rp (Gq kind c w (framesL (longN r) n) (Cv b p f c w r n A l)) j k)
 |0,k,_=>fun x hx=>by simp[Rp]at hx
 |j+1,k,h=>by
  obtain⟨m,s,e,_,_,_,_,_,h1,h2,h3⟩:=Biq o k (by omega)
  intro x hx
  rw[Rp,List.mem_append]at hx
  rcases hx with hx|hx
  ·rcases hk with rfl|rfl
   ·by_cases he:e=0
    ·rw[(h3 he).1]at hx;exact h1 x hx
    ·rw[h2 he]at hx;simp at hx
   ·exact h1 x hx
  ·exact Bpc kind hk j (k+1) (by omega) x hx
theorem Bju:∀(j k:Nat),k+j≤l.length→∃N:Nat,(Rp (Gq 1 c w (framesL (longN r) n) (Cv b p f c w r n A l)) j k).length=N*c∧N*c≤(Rp (Gq 2 c w (framesL (longN r) n) (Cv b p f c w r n A l)) j k).length
 |0,k,_=>⟨0,by simp[Rp],by simp⟩
 |j+1,k,h=>by
  obtain⟨m,s,e,_,_,_,_,h0,h1,h2,h3⟩:=Biq o k (by omega)
  obtain⟨N,i1,i2⟩:=Bju j (k+1) (by omega)
  rw[Rp,Rp,List.length_append,List.length_append,i1,h0]
  by_cases he:e=0
  ·rw[(h3 he).1,h0]
   exact⟨m+N,by rw[Nat.add_mul],by rw[Nat.add_mul];omega⟩
  ·rw[h2 he]
   exact⟨N,by simp,by omega⟩
theorem Bqi{X:List Int32}{N:Nat}(hN:1≤N)(hNn:N≤n)(hX:X.length=N*c)(hr':inR (w:Int) X):Bi (c:Int) (w:Int) (r:Int) X=some 0:=by
 obtain⟨hc,hw,hr,hn,_⟩:=Sm o.shape
 have hfit:n≤4000/c∧(n-1)/longN r+1≤1000:=by have:=o.fit;simpa only[fitB,decide_eq_true_eq]using this
 have hX4:X.length≤4000:=by
  have h1:=Nat.mul_le_mul_right c (Nat.le_trans hNn hfit.1)
  have h2:=Nat.div_mul_le_self 4000 c
  omega
 have hX1:1≤X.length:=by rw[hX];exact Nat.mul_pos hN (by omega)
 have hhB:=Anf (w:Int)
 have hq4:=Bjf hc.1 hc.2
 have hn4:n≤4000:=by have:=Nat.div_le_self 4000 c;omega
 generalize 4000/c=mm at*
 have e20:Ig (c:Int) (w:Int)=some 0:=by
  rw[Ig,if_neg (by simp[Af,Ar];omega),Axb hw,Aa,if_neg (by rw[Bc];simp;omega)]
 have erem:Ey (Ac X) (c:Int)=0:=by
  rw[Ac,hX,Aqu,Nat.mul_mod_left];rfl
 have eA:Of (c:Int) (w:Int) X=some 0:=by
  rw[Of,e20,Aa,if_neg (by decide),Bs1 hw hX4 hr',Aa,if_neg (by decide),if_neg (by rw[Af,Ac];simp;omega),Bp (by rw[Aj];simp;omega),Aa,erem,if_neg (by decide)]
 have ecount:Bf (Ac X) (c:Int)=(N:Int):=by rw[Ac,Bi6 (by omega),hX,Nat.mul_div_cancel _ (by omega)]
 have e21:Gf (c:Int) (w:Int) (N:Int)=some 0:=by
  rw[Gf,e20,Aa,if_neg (by simp[Aj,Af];omega),Bp (by rw[Aj];simp;omega),Aa,hq4,if_neg (by rw[Ar];simp;omega)]
 obtain⟨z,e22⟩:=Cbd hr.1 hr.2 hN (by omega) (by have:=Nat.div_le_div_right (c:=longN r) (show N-1≤n-1 by omega);omega)
 rw[Bi,Ks,Aa]
 simp only
 rw[eA,Aa,if_neg (by decide),Bp (by rw[Aj];simp;omega),Aa,ecount,Aac,Ks,Aa]
 simp only
 rw[e21,Aa,if_neg (by decide),e22,Aa,Aa]
 rfl
theorem Brk(u:Int)(a1 a2 a3 a4 a5 a6:Int)(b1 b2 b3:Int)(m n' o':Int)(w' ah:LI)(H:LX)(hend:Dm true u ((Fi (Cv b p f c w r n A l) l.length 0 []).length:Int) (Fi (Cv b p f c w r n A l) l.length 0 []) m n' o' (Rp (Gq 2 c w (framesL (longN r) n) (Cv b p f c w r n A l)) l.length 0) b1 b2 b3 w' (Rp (Gq 1 c w (framesL (longN r) n) (Cv b p f c w r n A l)) l.length 0) H=some true):
  ∀(j i q:Nat),i+j=l.length→j<q→
  Bz b p true u a1 (c:Int) (w:Int) a4 a5 a6 (Fi (Cv b p f c w r n A l) l.length 0 []) m n' o' (Rp (Gq 2 c w (framesL (longN r) n) (Cv b p f c w r n A l)) l.length 0) b1 b2 b3 w' (framesL (longN r) n) ah H q
   (((Rp (Gq 2 c w (framesL (longN r) n) (Cv b p f c w r n A l)) i 0).length:Nat):Int) ((Fi (Cv b p f c w r n A l) i 0 []).length:Int) (i:Int) (Rp (Gq 1 c w (framesL (longN r) n) (Cv b p f c w r n A l)) i 0)=some true
 |j,i,0,_,h=>absurd h (Nat.not_lt_zero _)
 |0,i,q+1,hi,hq=>by
  have hlen:=o.len
  obtain rfl:i=l.length:=by omega
  rw[Bz,Dl,if_neg (by rw[Af,Ac];simp;omega)]
  exact hend
 |j+1,i,q+1,hi,hq=>by
  have hlen:=o.len
  have hs1:=o.some1
  obtain⟨hc,hw,hr,hn,_⟩:=Sm o.shape
  have hfit:n≤4000/c:=by have:=o.fit;simp only[fitB,decide_eq_true_eq]at this;exact this.1
  have hN:n*c≤4000:=by
   have h1:=Nat.mul_le_mul_right c hfit
   have h2:=Nat.div_mul_le_self 4000 c
   omega
  obtain⟨mm,s,e,h0,hm1,hfr,hge,hl2,hin,hbad,hgood⟩:=Biq o i (by omega)
  have htot:=Bup o l.length (Nat.le_refl _)
  rw[o.len,List.take_length,Arc hn,Int.toNat_natCast,←o.len]at htot
  have hsplit:=Bf3 (Gq 2 c w (framesL (longN r) n) (Cv b p f c w r n A l)) i (j+1) 0
  rw[hi,Nat.zero_add,Rp]at hsplit
  have hsn2:=Azn (Gq 2 c w (framesL (longN r) n) (Cv b p f c w r n A l)) i 0
  have hsn1:=Azn (Gq 1 c w (framesL (longN r) n) (Cv b p f c w r n A l)) i 0
  rw[Nat.zero_add]at hsn1 hsn2
  have hB:=Beg (Cv b p f c w r n A l) i (j+1) 0
  rw[hi,Nat.zero_add]at hB
  have hB1:=Beg (Cv b p f c w r n A l) i 1 0
  have hm:=Bky (Cv b p f c w r n A l) j (i+1)
  have hbl:=Bcm (Cv b p f c w r n A l) i 0 []
  have ih:=Brk u a1 a2 a3 a4 a5 a6 b1 b2 b3 m n' o' w' ah H hend j (i+1) q (by omega) (by omega)
  rw[hsn2,hsn1,hB1,Nat.zero_add]at ih
  have hsk:=Bju o i 0 (by omega)
  generalize Gq 2 c w (framesL (longN r) n) (Cv b p f c w r n A l)=P2 at*
  generalize Gq 1 c w (framesL (longN r) n) (Cv b p f c w r n A l)=P1 at*
  generalize Rp P2 l.length 0=SIL at*
  generalize Rp P2 i 0=C2 at*
  generalize Rp P1 i 0=C1 at*
  have hsl:SIL.length=C2.length+(mm*c+(Rp P2 j (i+1)).length):=by rw[hsplit,List.length_append,List.length_append,hl2]
  have hmc:Ay (mm:Int) (c:Int)=((mm*c:Nat):Int):=by rw[Fc (by rw[←Int.natCast_mul];omega) (by rw[←Int.natCast_mul];omega),←Int.natCast_mul]
  have hat:Ae ((C2.length:Nat):Int) ((mm*c:Nat):Int)=((C2.length+mm*c:Nat):Int):=by rw[Ag (by omega) (by omega)];omega
  have hcut:Ca SIL ((C2.length:Nat):Int) ((C2.length+mm*c:Nat):Int)=some (P2 i):=by
   rw[Xa (by omega) (by omega) (by omega),Int.toNat_natCast,Int.toNat_natCast,hsplit,List.take_append,List.take_of_length_le (by omega),List.drop_left',Nat.add_sub_cancel_left,List.take_append_of_le_length (by omega),List.take_of_length_le (by omega)]
   rfl
  have hown:Ae ((C2.length:Nat):Int) (Ac (P2 i))=(((C2++P2 i).length:Nat):Int):=by rw[Ac,hl2,hat,List.length_append,hl2]
  have hi1:Ae (i:Int) 1=((i+1:Nat):Int):=by rw[Ag (by omega) (by omega)];omega
  rw[Bz,Dl,if_pos (by rw[Af,Ac];simp;omega),h0,Aa,Aa,hmc,hat,hcut,Aa,Jo,Jj,hfr,Aa]
  simp only
  by_cases he:e=0
  ·obtain⟨hp1,hwd⟩:=hgood he
   have hG0:¬((Cv b p f c w r n A l i).2≠0):=by rw[hge];simpa using he
   have hb0:Fi (Cv b p f c w r n A l) 1 i []=[]:=by rw[Fi,Fi,if_neg hG0]
   have hbt:Fi (Cv b p f c w r n A l) (j+1) i []=Fi (Cv b p f c w r n A l) j (i+1) []:=by rw[Fi,if_neg hG0]
   rw[hb0,List.append_nil,hp1]at ih
   have h18:Ga (Bz b p true u a1 (c:Int) (w:Int) a4 a5 a6 (Fi (Cv b p f c w r n A l) l.length 0 []) m n' o' SIL b1 b2 b3 w' (framesL (longN r) n) ah H q) b p true u a1 (c:Int) (w:Int) a4 a5 a6 (Fi (Cv b p f c w r n A l) l.length 0 []) m n' o' SIL b1 b2 b3 w' ((framesL (longN r) n)) ah H ((C2.length:Nat):Int) (P2 i) ((Fi (Cv b p f c w r n A l) i 0 []).length:Int) (i:Int) e C1 s=some true:=by
    rw[Ga,Pj,hwd,Aa]
    simp only
    rw[if_neg (by simp[Aj,he]),Cq (by obtain⟨N,k1,k2⟩:=hsk;omega),Aa,hown,hi1]
    exact ih
   by_cases hlt:(Fi (Cv b p f c w r n A l) i 0 []).length<(Fi (Cv b p f c w r n A l) l.length 0 []).length
   ·have hne:(Fi (Cv b p f c w r n A l) l.length 0 [])[(Fi (Cv b p f c w r n A l) i 0 []).length]'hlt≠(i:Int):=by
     have hmem:(Fi (Cv b p f c w r n A l) l.length 0 [])[(Fi (Cv b p f c w r n A l) i 0 []).length]'hlt∈Fi (Cv b p f c w r n A l) j (i+1) []:=by
      have hlt2:(Fi (Cv b p f c w r n A l) i 0 []).length<(Fi (Cv b p f c w r n A l) i 0 []++Fi (Cv b p f c w r n A l) j (i+1) []).length:=by rw[←hbt,←hB];exact hlt
      have:(Fi (Cv b p f c w r n A l) l.length 0 [])[(Fi (Cv b p f c w r n A l) i 0 []).length]'hlt=(Fi (Cv b p f c w r n A l) i 0 []++Fi (Cv b p f c w r n A l) j (i+1) [])[(Fi (Cv b p f c w r n A l) i 0 []).length]'hlt2:=by
       congr 1;rw[hB,hbt]
      rw[this,List.getElem_append_right (Nat.le_refl _)]
      exact List.getElem_mem _
     have:=hm _ hmem
     omega
    rw[if_pos (by rw[Af,Ac];simp;omega),Cf hlt,Aa,Aa,if_neg (by rw[Bc];simpa using hne)]
    exact h18
   ·rw[if_neg (by rw[Af,Ac];simp;omega)]
    exact h18
  ·have hG0:(Cv b p f c w r n A l i).2≠0:=by rw[hge];exact he
   have hb0:Fi (Cv b p f c w r n A l) 1 i []=[(i:Int)]:=by rw[Fi,Fi,if_pos hG0];rfl
   have hbt:Fi (Cv b p f c w r n A l) (j+1) i []=(i:Int)::Fi (Cv b p f c w r n A l) j (i+1) []:=by rw[Fi,if_pos hG0,Alu];rfl
   rw[hb0,hbad he,List.append_nil]at ih
   have hlt:(Fi (Cv b p f c w r n A l) i 0 []).length<(Fi (Cv b p f c w r n A l) l.length 0 []).length:=by rw[hB,hbt,List.length_append,List.length_cons];omega
   have hget:getI (Fi (Cv b p f c w r n A l) l.length 0 []) ((Fi (Cv b p f c w r n A l) i 0 []).length:Int)=some (i:Int):=by
    rw[hB,hbt,Cf (by rw[List.length_append,List.length_cons];omega),List.getElem_append_right (Nat.le_refl _)]
    simp
   have haj:Ae (((Fi (Cv b p f c w r n A l) i 0 []).length:Nat):Int) 1=(((Fi (Cv b p f c w r n A l) i 0 []++[(i:Int)]).length:Nat):Int):=by
    simp only[List.length_nil,Nat.zero_add]at hbl
    rw[Ag (by omega) (by omega),List.length_append];simp
   rw[if_pos (by rw[Af,Ac];simp;omega),hget,Aa,Aa,if_pos (by simp[Bc]),if_neg (by rw[Bc];simpa using he),hown,hi1,haj]
   exact ih
end
theorem Bvq(hal:Oo=some true)(b p:LB):Ip b p=some true:=by
 rw[Ip,Kb,hal,Aa,Abg,Aa]
 by_cases hc:((((((Ff (Ac b) 5000)&&(Bv (Ac b) 12000))||(Ff (Ac b) 12100))||(Ff (Ac p) 64)))||(!true))=true
 ·rw[if_pos hc]
 ·rw[if_neg hc]
  simp only[Bool.or_eq_true,not_or,Ar,Af,Ac,decide_eq_true_eq]at hc
  obtain⟨⟨⟨c1,c2⟩,c3⟩,_⟩:=hc
  have p1:Du b p 1=Du b p ((1:Nat):Int):=rfl
  have p2:Du b p 2=Du b p ((2:Nat):Int):=rfl
  rcases Cac b p (by omega) (by omega)with⟨e,he,h1,h2⟩|⟨f,c,w,r,n,A,l,o⟩
  ·rw[h1,Aa,Bcv]
   simp only
   rw[Byo he h1,Aa]
   simp only
   rw[p2,Brx he h1 2 (.inr rfl),Aa,Bwj]
   simp only
   rw[p1,Brx he h1 1 (.inl rfl),Aa,Bwj]
   simp only
   rw[if_pos (by rw[Aj];simpa using he)]
   simp[Bc]
  ·obtain⟨hcc,hw,hr,hn,_⟩:=Sm o.shape
   have hfit:n≤4000/c:=by have:=o.fit;simp only[fitB,decide_eq_true_eq]at this;exact this.1
   have hn4:n≤4000:=by have:=Nat.div_le_self 4000 c;omega
   have hN:n*c≤4000:=by
    have h1:=Nat.mul_le_mul_right c hfit
    have h2:=Nat.div_mul_le_self 4000 c
    omega
   have hs1:=o.some1
   have hlen:=o.len
   have htot:=Bup o l.length (Nat.le_refl _)
   rw[o.len,List.take_length,Arc hn,Int.toNat_natCast,←o.len]at htot
   have hS:=Bfs 2 c w (framesL (longN r) n) (Cv b p f c w r n A l) l.length 0 []
   have hK:=Bfs 1 c w (framesL (longN r) n) (Cv b p f c w r n A l) l.length 0 []
   rw[List.nil_append]at hS hK
   have hck2:=Bqi o hn (Nat.le_refl _) htot (Bpc o 2 (.inr rfl) l.length 0 (by omega))
   have hin1:=Bpc o 1 (.inl rfl) l.length 0 (by omega)
   obtain⟨N,hk1,hk2⟩:=Bju o l.length 0 (by omega)
   have hbl:=Bcm (Cv b p f c w r n A l) l.length 0 []
   simp only[List.length_nil,Nat.zero_add]at hbl
   have hsame:=Bw5 (Fi (Cv b p f c w r n A l) l.length 0 []) (by omega)
   have hlp:=Brk o
   have c25:Kt (f:Int) (c:Int) (w:Int) (r:Int) (n:Int)=some 0:=by
    rw[Kt,Be5,Aa,o.shape,if_neg (by simp),Blt o.shape,Aa,o.fit];rfl
   have hmul:Ay (n:Int) (c:Int)=((n*c:Nat):Int):=by rw[Fc (by rw[←Int.natCast_mul];omega) (by rw[←Int.natCast_mul];omega),←Int.natCast_mul]
   have hR2:Bxc b p f c w r n A l 2=((c:Int),(w:Int),(r:Int),Rp (Gq 2 c w (framesL (longN r) n) (Cv b p f c w r n A l)) l.length 0,Fi (Cv b p f c w r n A l) l.length 0 [],0):=by
    rw[Bxc,hS,if_neg]
    intro h
    rw[h,List.length_nil]at htot
    have:=Nat.mul_pos hn hcc.1
    omega
   rw[o.prog,Aa]
   simp only
   rw[Bw3 o,Aa]
   simp only
   rw[p2,Bmj o 2 (.inr rfl),hR2,Aa]
   simp only
   rw[p1,Bmj o 1 (.inl rfl),Bxc,hK]
   by_cases h0:Rp (Gq 1 c w (framesL (longN r) n) (Cv b p f c w r n A l)) l.length 0=[]
   ·rw[if_pos h0,Aa,Bwj]
    simp only
    rw[if_neg (by decide),if_neg (by decide),hsame,Aa,if_neg (by decide),c25,Aa,hmul,if_neg (by simp[Aj,Ac,htot]),hck2,Aa,if_neg (by decide),Gb,Gc,Amz hr.2 hn hn4,Aa,Gd]
    refine hlp 6 _ 0 0 _ _ _ _ _ _ _ _ _ _ _ _ ?_ l.length 0 Am (by omega) (by have:=Ak;omega)
    rw[Dm,Dk,if_neg (by rw[Aj,Ac];simp),h0,if_pos (by decide)]
    rfl
   ·have hNp:1≤N:=by
     by_cases hz:N=0
     ·rw[hz,Nat.zero_mul]at hk1
      exact absurd (List.eq_nil_of_length_eq_zero hk1) h0
     ·omega
    have hNn:N≤n:=by
     rw[htot]at hk2
     exact Nat.le_of_mul_le_mul_right hk2 (by omega)
    have hck1:=Bqi o hNp hNn hk1 hin1
    have hsm:=Cc7 (c:Int) (w:Int) (r:Int) (Rp (Gq 1 c w (framesL (longN r) n) (Cv b p f c w r n A l)) l.length 0) (by omega)
    rw[if_neg h0,Aa]
    simp only
    rw[if_neg (by decide),if_neg (by decide),hsame,Aa,if_neg (by decide),c25,Aa,hmul,if_neg (by simp[Aj,Ac,htot]),hck2,Aa,if_neg (by decide),Gb,Gc,Amz hr.2 hn hn4,Aa,Gd]
    refine hlp 0 _ 0 0 _ _ _ _ _ _ _ _ _ _ _ _ ?_ l.length 0 Am (by omega) (by have:=Ak;omega)
    rw[Dm,Dk,if_neg (by rw[Aj,Ac];simp),if_neg (by rw[Bc,Ac];simp[h0]),if_pos (by decide),hsame,Aa,if_pos rfl,Ja,Aa]
    simp only
    rw[hsm,Aa,if_pos rfl,hck1,Aa]
    rfl
theorem law_PolicySkips(b p:LB):Ip b p=some true:=Bvq Cbl b p
end Go.Pl
