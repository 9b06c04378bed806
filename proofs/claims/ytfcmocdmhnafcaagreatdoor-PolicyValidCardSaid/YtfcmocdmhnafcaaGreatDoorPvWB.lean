/- A part of the proof of a statement of this seat (see the text that ends in Proof): LwWs, LwGoes, LwPol, LwRt, LwClip, LwPd, LwA41, LwPv. No conditions of its own. -/
import Derived.Test.YtfcmocdmhnafcaaGreatDoorPvWA
import Derived.Test.YtfcmocdmhnafcaaGreatDoorPvPA
import Derived.KernelRfl
set_option linter.unusedVariables false
set_option linter.unusedSimpArgs false
namespace Go.Pl
open Go Go.Lv
def Mh(b:List UInt8)(k:Nat):Nat:=(b.getD k 0).toNat
theorem Auh(b:List UInt8)(k:Nat):Mh b k<256:=(b.getD k 0).toNat_lt
def sx(n:Nat)(b:List UInt8)(a:Nat):Int:=
 if n=1 then(Mh b a:Int)-128 else
 if n=2 then(if Mh b a+256*Mh b (a+1)<32768 then(Mh b a+256*Mh b (a+1):Nat)else((Mh b a+256*Mh b (a+1):Nat):Int)-65536)else
 (if Mh b a+256*Mh b (a+1)+65536*Mh b (a+2)<8388608 then(Mh b a+256*Mh b (a+1)+65536*Mh b (a+2):Nat)else((Mh b a+256*Mh b (a+1)+65536*Mh b (a+2):Nat):Int)-16777216)
def sxs(n m:Nat)(b:List UInt8):List Int32:=(List.range m).map fun x=>Int32.ofInt (sx n b (x*n))
theorem Bbt(n m:Nat)(b:List UInt8):(sxs n m b).length=m:=by simp[sxs]
theorem Bk8(n m:Nat)(b:List UInt8):sxs n (m+1) b=sxs n m b++[Int32.ofInt (sx n b (m*n))]:=by simp[sxs,List.range_succ]
theorem Aya{n:Int}(h: -2147483648≤n)(h':n<2147483648):(Int32.ofInt n).toInt=n:=by
 rw[Int32.toInt_ofInt,Int.bmod_def,show((Int32.size:Nat):Int)=4294967296 from rfl];split<;>omega
theorem Anm{b:List UInt8}{k:Nat}(h:k<b.length):getI b (k:Int)=some (b.getD k 0):=by
 rw[Cf h];simp[List.getD_eq_getElem?_getD,h]
theorem Ag9(c:UInt8):(Ad c:Int32)=Int32.ofInt (c.toNat:Int):=rfl
theorem Azq{v:Nat}(k:Nat)(hk:k≤32)(h:v<2147483648):Ck (Int32.ofInt (v:Int)) k=Int32.ofInt ((v*2^k:Nat):Int):=by
 have e:Ck (Int32.ofInt (v:Int)) k=Int32.ofInt ((Int32.ofInt (v:Int)).toInt*2^min k 32):=rfl
 rw[e,Aya (by omega) (by omega),Nat.min_eq_left hk];simp
theorem Cah{v w i:Nat}(hv:v<2^i)(hw:w*2^i<2147483648)(hi:i≤31):gor (Int32.ofInt (v:Int)) (Int32.ofInt ((w*2^i:Nat):Int))=Int32.ofInt ((v+w*2^i:Nat):Int):=by
 have hv2:v<2147483648:=Nat.lt_of_lt_of_le hv (show 2^i≤2^31 from Nat.pow_le_pow_right (by omega) hi)
 have e:gor (Int32.ofInt (v:Int)) (Int32.ofInt ((w*2^i:Nat):Int))=Int32.ofInt ((BitVec.ofInt 32 (Int32.ofInt (v:Int)).toInt|||BitVec.ofInt 32 (Int32.ofInt ((w*2^i:Nat):Int)).toInt).toNat:Int):=rfl
 rw[e,Aya (by omega) (by omega),Aya (by omega) (by omega),BitVec.toNat_or,BitVec.toNat_ofInt,BitVec.toNat_ofInt]
 have a1:((v:Int) %((2^32:Nat):Int)).toNat=v:=by omega
 have a2:(((w*2^i:Nat):Int) %((2^32:Nat):Int)).toNat=w*2^i:=by omega
 rw[a1,a2,Nat.or_comm,Nat.mul_comm w,←Nat.two_pow_add_eq_or_of_lt hv,Nat.add_comm]
theorem Bgg(w:Nat)(h:w<2147483648):gor (0:Int32) (Int32.ofInt (w:Int))=Int32.ofInt (w:Int):=by
 have:=Cah (v:=0) (w:=w) (i:=0) (by simp) (by simpa using h) (by omega)
 simpa using this
theorem carry{v k:Nat}(hk:k≤31)(h:v*2^k<4294967296)(hv:v<2147483648):Bk (Ck (Int32.ofInt (v:Int)) k) k=Int32.ofInt ((if v*2^k<2147483648 then((v*2^k:Nat):Int)else((v*2^k:Nat):Int)-4294967296).fdiv (2^k)):=by
 rw[Azq k (by omega) hv]
 have e:∀x:Int32,Bk x k=Int32.ofInt (x.toInt.fdiv (2^min k 32)):=fun _=>rfl
 have hX:(Int32.ofInt ((v*2^k:Nat):Int)).toInt=if v*2^k<2147483648 then((v*2^k:Nat):Int)else((v*2^k:Nat):Int)-4294967296:=by
  rw[Int32.toInt_ofInt,Int.bmod_def,show((Int32.size:Nat):Int)=4294967296 from rfl]
  generalize v*2^k=X at*
  split<;>split<;>omega
 rw[e,Nat.min_eq_left (by omega),hX]
theorem sx2(b:List UInt8)(a:Nat):sx 2 b a=if Mh b a+256*Mh b (a+1)<32768 then((Mh b a+256*Mh b (a+1):Nat):Int)else((Mh b a+256*Mh b (a+1):Nat):Int)-65536:=rfl
theorem sx3(b:List UInt8)(a:Nat):sx 3 b a=if Mh b a+256*Mh b (a+1)+65536*Mh b (a+2)<8388608 then((Mh b a+256*Mh b (a+1)+65536*Mh b (a+2):Nat):Int)else((Mh b a+256*Mh b (a+1)+65536*Mh b (a+2):Nat):Int)-16777216:=rfl
variable (b:List UInt8)
theorem Cez(bk:Int→List Int32→Option (List Int32×Int))(a:Nat)(acc:List Int32)(h:a+1≤b.length)(hl:b.length≤100000)(ha:acc.length≤100000)(j25:Int→List Int32→Int32→Int→Option (List Int32×Int))(j30:List Int32→Option (List Int32×Int)):
  Dz (Gf bk 8 b) j25 j30 8 b (a:Int) acc=bk ((a+1:Nat):Int) (acc++[Int32.ofInt (sx 1 b a)]):=by
 have hb:=Auh b a
 have e:Ah (Ad (b.getD a 0):Int32) (128:Int32)=Int32.ofInt (sx 1 b a):=by
  have e1:Ah (Ad (b.getD a 0):Int32) (128:Int32)=Int32.ofInt ((Int32.ofInt ((b.getD a 0).toNat:Int)).toInt-(128:Int32).toInt):=rfl
  rw[e1,Aya (by omega) (by have:=(b.getD a 0).toNat_lt;omega)];rfl
 have q8:Bj (8:Int) 8=1:=by decide
 rw[Dz,if_pos (by rw[Af,Ac];simp;omega),if_pos (by rw[Az];rfl),Anm (by omega),Aa,e,Cr (by simp;omega),Aa,Gf,Qj,q8,Ag (by omega) (by omega)];rfl
theorem Ccs(bk:Int→List Int32→Option (List Int32×Int))(a:Nat)(acc:List Int32)(h:a+2≤b.length)(hl:b.length≤100000)(ha:acc.length≤100000)(j28:Int→List Int32→Option (List Int32×Int))(j30:List Int32→Option (List Int32×Int)):
  Dz j28 (Ij bk 16 b) j30 16 b (a:Int) acc=bk ((a+2:Nat):Int) (acc++[Int32.ofInt (sx 2 b a)]):=by
 have h0:=Auh b a
 have h1:=Auh b (a+1)
 have q:Bj (16:Int) 8=2:=by decide
 have hF:Am=(Am-3)+1+1+1:=by have:=Ak;omega
 have z0:(GI.toZ (Ay (8:Int) 0)).toNat=0:=by decide
 have z1:(GI.toZ (Ay (8:Int) 1)).toNat=8:=by decide
 have z16:(GI.toZ (Ah (32:Int) 16)).toNat=16:=by decide
 have s0:Ck (Int32.ofInt (Mh b a:Int)) 0=Int32.ofInt (Mh b a:Int):=by have:=Azq (v:=Mh b a) 0 (by omega) (by omega);simpa using this
 have s1:Ck (Int32.ofInt (Mh b (a+1):Int)) 8=Int32.ofInt ((Mh b (a+1)*2^8:Nat):Int):=Azq 8 (by omega) (by omega)
 have o1:=Cah (v:=Mh b a) (w:=Mh b (a+1)) (i:=8) (by simpa using h0) (by omega) (by omega)
 have c:=carry (v:=Mh b a+Mh b (a+1)*2^8) (k:=16) (by omega) (by omega) (by omega)
 rw[Dz,if_pos (by rw[Af,Ac];simp;omega),if_neg (by rw[Az];decide),Ij,hF,Cw,Dw,q,if_pos (by decide),show Ae (a:Int) 0=((a:Nat):Int) by rw[Ag (by omega) (by omega)];omega,Anm (by omega),Aa,Br (by decide),Aa,z0,
  Ag9,show((b.getD a 0).toNat:Int)=(Mh b a:Int)from rfl,s0,Bgg _ (by omega),show Ae (0:Int) 1=1 by decide,
  Cw,Dw,q,if_pos (by decide),show Ae (a:Int) 1=((a+1:Nat):Int) by rw[Ag (by omega) (by omega)];omega,Anm (by omega),Aa,Br (by decide),Aa,z1,
  Ag9,show((b.getD (a+1) 0).toNat:Int)=(Mh b (a+1):Int)from rfl,s1,o1,show Ae (1:Int) 1=2 by decide,
  Cw,Dw,q,if_neg (by decide),Qb,Qh,Br (by decide),Aa,Aa,z16,c,Cr (by simp;omega),Aa,Gf,Qj,q,Ag (by omega) (by omega)]
 have e:((if(Mh b a+Mh b (a+1)*2^8)*2^16<2147483648 then(((Mh b a+Mh b (a+1)*2^8)*2^16:Nat):Int)else(((Mh b a+Mh b (a+1)*2^8)*2^16:Nat):Int)-4294967296).fdiv (2^16))=sx 2 b a:=by
  rw[Int.fdiv_eq_ediv_of_nonneg _ (by omega),sx2]
  split<;>split<;>omega
 rw[e];rfl
theorem Cck(bk:Int→List Int32→Option (List Int32×Int))(a:Nat)(acc:List Int32)(h:a+3≤b.length)(hl:b.length≤100000)(ha:acc.length≤100000)(j28:Int→List Int32→Option (List Int32×Int))(j30:List Int32→Option (List Int32×Int)):
  Dz j28 (Ij bk 24 b) j30 24 b (a:Int) acc=bk ((a+3:Nat):Int) (acc++[Int32.ofInt (sx 3 b a)]):=by
 have h0:=Auh b a
 have h1:=Auh b (a+1)
 have h2:=Auh b (a+2)
 have q:Bj (24:Int) 8=3:=by decide
 have hF:Am=(Am-4)+1+1+1+1:=by have:=Ak;omega
 have z0:(GI.toZ (Ay (8:Int) 0)).toNat=0:=by decide
 have z1:(GI.toZ (Ay (8:Int) 1)).toNat=8:=by decide
 have z2:(GI.toZ (Ay (8:Int) 2)).toNat=16:=by decide
 have z8:(GI.toZ (Ah (32:Int) 24)).toNat=8:=by decide
 have s0:Ck (Int32.ofInt (Mh b a:Int)) 0=Int32.ofInt (Mh b a:Int):=by have:=Azq (v:=Mh b a) 0 (by omega) (by omega);simpa using this
 have s1:Ck (Int32.ofInt (Mh b (a+1):Int)) 8=Int32.ofInt ((Mh b (a+1)*2^8:Nat):Int):=Azq 8 (by omega) (by omega)
 have s2:Ck (Int32.ofInt (Mh b (a+2):Int)) 16=Int32.ofInt ((Mh b (a+2)*2^16:Nat):Int):=Azq 16 (by omega) (by omega)
 have o1:=Cah (v:=Mh b a) (w:=Mh b (a+1)) (i:=8) (by simpa using h0) (by omega) (by omega)
 have o2:=Cah (v:=Mh b a+Mh b (a+1)*2^8) (w:=Mh b (a+2)) (i:=16) (by omega) (by omega) (by omega)
 have c:=carry (v:=Mh b a+Mh b (a+1)*2^8+Mh b (a+2)*2^16) (k:=8) (by omega) (by omega) (by omega)
 rw[Dz,if_pos (by rw[Af,Ac];simp;omega),if_neg (by rw[Az];decide),Ij,hF,Cw,Dw,q,if_pos (by decide),show Ae (a:Int) 0=((a:Nat):Int) by rw[Ag (by omega) (by omega)];omega,Anm (by omega),Aa,Br (by decide),Aa,z0,
  Ag9,show((b.getD a 0).toNat:Int)=(Mh b a:Int)from rfl,s0,Bgg _ (by omega),show Ae (0:Int) 1=1 by decide,
  Cw,Dw,q,if_pos (by decide),show Ae (a:Int) 1=((a+1:Nat):Int) by rw[Ag (by omega) (by omega)];omega,Anm (by omega),Aa,Br (by decide),Aa,z1,
  Ag9,show((b.getD (a+1) 0).toNat:Int)=(Mh b (a+1):Int)from rfl,s1,o1,show Ae (1:Int) 1=2 by decide,
  Cw,Dw,q,if_pos (by decide),show Ae (a:Int) 2=((a+2:Nat):Int) by rw[Ag (by omega) (by omega)];omega,Anm (by omega),Aa,Br (by decide),Aa,z2,
  Ag9,show((b.getD (a+2) 0).toNat:Int)=(Mh b (a+2):Int)from rfl,s2,o2,show Ae (2:Int) 1=3 by decide,
  Cw,Dw,q,if_neg (by decide),Qb,Qh,Br (by decide),Aa,Aa,z8,c,Cr (by simp;omega),Aa,Gf,Qj,q,Ag (by omega) (by omega)]
 have e:((if(Mh b a+Mh b (a+1)*2^8+Mh b (a+2)*2^16)*2^8<2147483648 then(((Mh b a+Mh b (a+1)*2^8+Mh b (a+2)*2^16)*2^8:Nat):Int)else(((Mh b a+Mh b (a+1)*2^8+Mh b (a+2)*2^16)*2^8:Nat):Int)-4294967296).fdiv (2^8))=sx 3 b a:=by
  rw[Int.fdiv_eq_ediv_of_nonneg _ (by omega),sx3]
  split<;>split<;>omega
 rw[e];rfl
theorem Aw1(bits:Int)(n m:Nat)(hn:1≤n)(hm:b.length=m*n)(hl:b.length≤100000)(step:∀(q a:Nat) (acc:List Int32),a+n≤b.length→acc.length≤100000→Cl bits b (q+1) (a:Int) acc=Cl bits b q ((a+n:Nat):Int) (acc++[Int32.ofInt (sx n b a)])):
  ∀(j x q:Nat),x+j=m→j<q→Cl bits b q ((x*n:Nat):Int) (sxs n x b)=some (sxs n m b,0)
 |0,x,q+1,hx,_=>by
  obtain rfl:x=m:=by omega
  rw[Cl,Dz,if_neg (by rw[Af,Ac];simp;omega)];rfl
 |j+1,x,q+1,hx,hq=>by
  have h1:(x+1)*n≤m*n:=Nat.mul_le_mul_right n (by omega)
  rw[Nat.add_mul,Nat.one_mul]at h1
  have h2:m≤m*n:=Nat.le_mul_of_pos_right m hn
  rw[step q (x*n) _ (by omega) (by rw[Bbt];omega),←Bk8,show x*n+n=(x+1)*n by rw[Nat.add_mul,Nat.one_mul]]
  exact Aw1 bits n m hn hm hl step j (x+1) q (by omega) (by omega)
theorem Cdy{bits:Int}(h:Cm bits)(hl:b.length≤100000)(q a:Nat)(acc:List Int32)(ha:a+wB bits≤b.length)(hc:acc.length≤100000):
  Cl bits b (q+1) (a:Int) acc=Cl bits b q ((a+wB bits:Nat):Int) (acc++[Int32.ofInt (sx (wB bits) b a)]):=by
 rw[Cl]
 obtain rfl|rfl|rfl:=h
 ·exact Cez b _ a acc ha hl hc _ _
 ·exact Ccs b _ a acc ha hl hc _ _
 ·exact Cck b _ a acc ha hl hc _ _
theorem Bkc{bits:Int}(h:Cm bits){m:Nat}(hm:b.length=m*wB bits)(h4:m≤4000):Pb bits b=some (sxs (wB bits) m b,0):=by
 have hn:=Bab bits
 have hl:b.length≤12000:=by rw[hm];exact Nat.mul_le_mul h4 hn.2
 rw[Pb,Acf,Bj1 h,Aa]
 simp only
 rw[if_neg (by rw[Aj];simp),Azs h,Br (by rw[Aj];simp;omega),Aa]
 have hr:Fb (Ac b) (wB bits:Int)=0:=by rw[Ac,Av5,hm,Nat.mul_mod_left];rfl
 have hq:Bj (Ac b) (wB bits:Int)=(m:Int):=by rw[Ac,Bu7 (by omega),hm,Nat.mul_div_cancel _ (by omega)]
 rw[if_neg (by rw[Aj,hr];simp),Aa,hq,if_neg (by rw[Aq];simp;omega),Yn]
 have:=Aw1 b bits (wB bits) m (by omega) hm (by omega) (fun q a acc ha hc=>Cdy b h (by omega) q a acc ha hc) m 0 Am (by omega) (by have:=Ak;omega)
 simpa [sxs]using this
theorem Cbc{bits:Int}(h:Cm bits)(hl:b.length≤100000)(q a:Nat)(acc:List Int32)(ha:a+wB bits≤b.length)(hc:acc.length≤100000):
  Cb bits b (hB bits) (q+1) (a:Int) acc=Cb bits b (hB bits) q ((a+wB bits:Nat):Int) (acc++[Int32.ofInt (sx (wB bits) b a)]):=by
 have h0:=Auh b a
 have h1:=Auh b (a+1)
 have h2:=Auh b (a+2)
 have gc:∀k,(Ad (b.getD k 0):Int)=(Mh b k:Int):=fun k=>Ac8 _
 have gx:∀z:Int,(Ad z:Int32)=Int32.ofInt z:=fun z=>rfl
 have hF:Am=(Am-7)+1+1+1+1+1+1+1:=by have:=Ak;omega
 have hw1:wB bits=1∨wB bits=2∨wB bits=3:=by have:=Bab bits;omega
 have hend:∀(bk:Int→List Int32→Option (List Int32×Int)) (z:Int),0≤z→z<2*hB bits→z=(if bits=8 then(Mh b a:Int)else if bits=16 then((Mh b a+256*Mh b (a+1):Nat):Int)else((Mh b a+256*Mh b (a+1)+65536*Mh b (a+2):Nat):Int))→
   Hy bk bits b (hB bits) (a:Int) z acc=bk ((a+wB bits:Nat):Int) (acc++[Int32.ofInt (sx (wB bits) b a)]):=by
  intro bk z z0 z1 z2
  rw[Hy,Vl]
  have e28:∀acc2,Mf bk bits b (hB bits) (a:Int) acc2=bk ((a+wB bits:Nat):Int) acc2:=by
   intro acc2
   rw[Mf,Vn,Azs h,Ag (by omega) (by omega)];rfl
  simp only[e28]
  obtain rfl|rfl|rfl:=h
  ·rw[if_pos (by decide),Be (by omega) (by simp[hB]at z1;omega),Cr (by simp;omega),Aa,gx,z2];rfl
  ·rw[if_neg (by decide)]
   have e9:hB 16=32768:=rfl
   rw[e9]at z1⊢
   simp only[show ¬(16:Int)=8 by decide,if_false,if_true]at z2
   have e10:wB 16=2:=rfl
   rw[e10,sx2]
   by_cases hz:32768≤z
   ·rw[if_pos (by rw[Cx];simpa using hz),Gc (by omega) (by omega),Be (by omega) (by omega),Cr (by simp;omega),Aa,gx,if_neg (by omega),z2];rfl
   ·rw[if_neg (by rw[Cx];simpa using hz),Cr (by simp;omega),Aa,gx,if_pos (by omega),z2]
  ·rw[if_neg (by decide)]
   have e9:hB 24=8388608:=rfl
   rw[e9]at z1⊢
   simp only[show ¬(24:Int)=8 by decide,show ¬(24:Int)=16 by decide,if_false]at z2
   have e10:wB 24=3:=rfl
   rw[e10,sx3]
   by_cases hz:8388608≤z
   ·rw[if_pos (by rw[Cx];simpa using hz),Gc (by omega) (by omega),Be (by omega) (by omega),Cr (by simp;omega),Aa,gx,if_neg (by omega),z2];rfl
   ·rw[if_neg (by rw[Cx];simpa using hz),Cr (by simp;omega),Aa,gx,if_pos (by omega),z2]
 have step:∀(bk:Int→List Int32→Option (List Int32×Int)) (q2:Nat) (k:Int) (i:Nat),a+i<b.length→0≤k→k<65536→Cp bk bits b (hB bits) (a:Int) acc (q2+1) k (i:Int)=Cp bk bits b (hB bits) (a:Int) acc q2 (256*k+(Mh b (a+i):Int)) ((i:Int)-1):=by
  intro bk q2 k i hi hk hk2
  have:=Auh b (a+i)
  rw[Cp,Ly,if_pos (by rw[Cx];simp),Ag (a:=(a:Int)) (by omega) (by omega),show(a:Int)+(i:Int)=((a+i:Nat):Int) by omega,Anm (by omega),Aa,gc,Gc (by omega) (by omega),Ag (by omega) (by omega),Be (by omega) (by omega)]
 have last:∀(bk:Int→List Int32→Option (List Int32×Int)) (q2:Nat) (k:Int),Cp bk bits b (hB bits) (a:Int) acc (q2+1) k (-1)=Hy bk bits b (hB bits) (a:Int) k acc:=by
  intro bk q2 k
  rw[Cp,Ly,if_neg (by rw[Cx];decide)]
 rw[Cb,Ma,if_pos (by rw[Af,Ac];simp;omega),Uv,hF]
 generalize Cb bits b (hB bits) q=bk at*
 have hwq:=Azs h
 rw[hwq,Be (by omega) (by omega)]
 obtain rfl|rfl|rfl:=h
 ·have e10:wB 8=1:=rfl
  rw[e10]at ha⊢
  rw[show(((1:Nat):Int)-1)=((0:Nat):Int) by omega,step _ _ 0 0 (by omega) (by omega) (by omega),show(((0:Nat):Int)-1)= -1 by omega,last]
  exact hend bk _ (by omega) (by simp[hB];omega) (by simp)
 ·have e10:wB 16=2:=rfl
  rw[e10]at ha⊢
  rw[show(((2:Nat):Int)-1)=((1:Nat):Int) by omega,step _ _ 0 1 (by omega) (by omega) (by omega),show(((1:Nat):Int)-1)=((0:Nat):Int) by omega,step _ _ _ 0 (by omega) (by omega) (by omega),show(((0:Nat):Int)-1)= -1 by omega,last]
  exact hend bk _ (by omega) (by simp[hB];omega) (by simp;omega)
 ·have e10:wB 24=3:=rfl
  rw[e10]at ha⊢
  rw[show(((3:Nat):Int)-1)=((2:Nat):Int) by omega,step _ _ 0 2 (by omega) (by omega) (by omega),show(((2:Nat):Int)-1)=((1:Nat):Int) by omega,step _ _ _ 1 (by omega) (by omega) (by omega),show(((1:Nat):Int)-1)=((0:Nat):Int) by omega,step _ _ _ 0 (by omega) (by omega) (by omega),show(((0:Nat):Int)-1)= -1 by omega,last]
  exact hend bk _ (by omega) (by simp[hB];omega) (by simp;omega)
theorem Al1{bits:Int}(h:Cm bits){m:Nat}(hm:b.length=m*wB bits)(hl:b.length≤100000):
  ∀(j x q:Nat),x+j=m→j<q→Cb bits b (hB bits) q ((x*wB bits:Nat):Int) (sxs (wB bits) x b)=some (sxs (wB bits) m b,0)
 |0,x,q+1,hx,_=>by
  obtain rfl:x=m:=by omega
  rw[Cb,Ma,if_neg (by rw[Af,Ac];simp;omega)];rfl
 |j+1,x,q+1,hx,hq=>by
  have hn:=Bab bits
  have h1:(x+1)*wB bits≤m*wB bits:=Nat.mul_le_mul_right _ (by omega)
  rw[Nat.add_mul,Nat.one_mul]at h1
  have h2:m≤m*wB bits:=Nat.le_mul_of_pos_right m hn.1
  rw[Cbc b h hl q (x*wB bits) _ (by omega) (by rw[Bbt];omega),←Bk8,show x*wB bits+wB bits=(x+1)*wB bits by rw[Nat.add_mul,Nat.one_mul]]
  exact Al1 h hm hl j (x+1) q (by omega) (by omega)
theorem Blf{bits:Int}(h:Cm bits){m:Nat}(hm:b.length=m*wB bits)(h4:m≤4000):Rr bits b=some (sxs (wB bits) m b,0):=by
 have hn:=Bab bits
 have hl:b.length≤12000:=by rw[hm];exact Nat.mul_le_mul h4 hn.2
 have hpos:=Azk bits
 rw[Rr,Xf,Bc7 h,Aa,if_neg (by rw[Az];simp;omega),Azs h,Br (by rw[Aj];simp;omega),Aa]
 have hr:Fb (Ac b) (wB bits:Int)=0:=by rw[Ac,Av5,hm,Nat.mul_mod_left];rfl
 have hq:Bj (Ac b) (wB bits:Int)=(m:Int):=by rw[Ac,Bu7 (by omega),hm,Nat.mul_div_cancel _ (by omega)]
 rw[if_neg (by rw[Aq,hr];simp),Aa,hq,if_neg (by rw[Aq];simp;omega),Vq]
 have:=Al1 b h hm (by omega) m 0 Am (by omega) (by have:=Ak;omega)
 simpa [sxs]using this
end Go.Pl
set_option linter.unusedVariables false
set_option linter.unusedSimpArgs false
namespace Go.Pl
open Go Go.Lv
end Go.Pl
set_option linter.unusedVariables false
set_option linter.unusedSimpArgs false
namespace Go.Pl
open Go Go.Lv
section
variable {b p:List UInt8} {f c w r n A:Nat} {l:List Int} (o:Opn b p f c w r n A l)
include o
theorem Bhl{k m:Nat}{x:List Int32}{s:List UInt8}{e:Int}(hk:k<l.length)(g:Gts b p f c w r n A l k m x s e):Tr b p (k:Int)=some (s,e):=by
 obtain⟨y,h1,h2⟩:=Buf o k hk
 rw[Bky o,h1,←g.got,h2]
end
def Aq2(G:Nat→List UInt8×Int):Nat→Nat→List Int→List Int
 |0,_,acc=>acc
 |j+1,k,acc=>Aq2 G j (k+1) (if(G k).2≠0 then acc++[(k:Int)]else acc)
def smF(w:Nat)(y:List UInt8×Int):List Int32:=if y.2≠0 then []else sxs (wB (w:Int)) (y.1.length/wB (w:Int)) y.1
section
variable {b p:List UInt8} {f c w r n A:Nat} {l:List Int} (o:Opn b p f c w r n A l)
include o
theorem Ba9{k m:Nat}{x:List Int32}{s:List UInt8}(g:Gts b p f c w r n A l k m x s 0):Pb (w:Int) s=some (smF w (s,0),0)∧Rr (w:Int) s=some (smF w (s,0),0)∧(smF w (s,0)).length=m*c:=by
 obtain⟨hc,hw,hr,hn,_⟩:=Ot o.shape
 have hwb:=Bab (w:Int)
 have hl:=(g.lens hw).2.2 rfl
 have hm:=g.pos
 have e:s.length/wB (w:Int)=m*c:=by rw[hl,Nat.mul_div_cancel _ (by omega)]
 rw[smF,if_neg (by simp),e]
 exact⟨Bkc s hw hl hm.2,Blf s hw hl hm.2,Bbt _ _ _⟩
theorem Bld:∀(j k q:Nat) (acc:List Int),k+j=l.length→j<q→acc.length≤k→
  Ka b p (framesL (longN r) n) (f:Int) (c:Int) (w:Int) (r:Int) (n:Int) (A:Int) l q (k:Int) acc=some (Aq2 (Oq b p f c w r n A l) j k acc,0)
 |0,k,q+1,acc,hk,_,_=>by
  rw[Ka,Zp,if_neg (by rw[Af,Ac,←o.len];simp;omega),Ai9,Aib,Jy,Aia,if_neg (by rw[Aj];simp)];rfl
 |j+1,k,q+1,acc,hk,hq,ha=>by
  have hs1:=o.some1
  obtain⟨m,x,s,e,g⟩:=Agz o k (by omega)
  have hf:=Bhl o (by omega) g
  have hnext:∀acc2:List Int,acc2.length≤k+1→Aa8 (Ka b p (framesL (longN r) n) (f:Int) (c:Int) (w:Int) (r:Int) (n:Int) (A:Int) l q) b p (framesL (longN r) n) (f:Int) (c:Int) (w:Int) (r:Int) (n:Int) (A:Int) l (k:Int) acc2=some (Aq2 (Oq b p f c w r n A l) j (k+1) acc2,0):=by
   intro acc2 h2
   rw[Aa8,Ai3,if_neg (by rw[Aj];simp),Ai6,Asc,Ag (by omega) (by omega)]
   exact Bld j (k+1) q acc2 (by omega) (by omega) h2
  rw[Ka,Zp,if_pos (by rw[Af,Ac,←o.len];simp;omega),g.mom,Aa,Aa,hf,Aa,Aq2,g.eq]
  simp only
  by_cases he:e=0
  ·subst he
   obtain⟨s1,_,_⟩:=Ba9 o g
   rw[if_pos (by decide),s1,Aa]
   simp only
   rw[if_neg (by rw[Aj];simp),Ys,Yi,if_neg (by decide),if_neg (by simp)]
   exact hnext acc (by omega)
  ·rw[if_neg (by rw[Az];simpa using he),Ys,Yi,if_pos (by rw[Az];simpa using he),Cr (by simp;omega),Aa,if_pos he]
   exact hnext _ (by simp;omega)
theorem Bkp:Se b p=some (Aq2 (Oq b p f c w r n A l) l.length 0 [],0):=by
 have hs1:=o.some1
 rw[Se,Adh,o.prog,Aa]
 simp only
 rw[if_neg (by rw[Aj];simp),Aew o.shape o.fit,Aa]
 simp only
 rw[if_neg (by rw[Aj];simp)]
 exact Bld o l.length 0 Am [] (by omega) (by have:=Ak;omega) (by simp)
end
theorem By0{b p:List UInt8}{e:Int}(he:e≠0)(h:seekto_Open b p=some (Aoe e)):Se b p=some ([],e):=by
 rw[Se,Adh,h,Aa,Aoe]
 simp only
 rw[if_pos (by rw[Aj];simpa using he),Jy,Aia,if_pos (by rw[Aj];simpa using he)]
end Go.Pl
set_option linter.unusedVariables false
set_option linter.unusedSimpArgs false
namespace Go.Pl
open Go Go.Lv
theorem Ay5(z:Int):(u8 z).toNat=(z %256).toNat:=by
 have:(z %256).toNat<256:=by omega
 rw[u8,UInt8.toNat_ofNat',Nat.mod_eq_of_lt (by omega)]
theorem Bc4{bits:Int}(h:Cm bits):∀(l:List Int32) (i j:Nat),i<l.length→j<wB bits→(bytesB bits l).getD (i*wB bits+j) 0=(Acu bits (l.getD i 0).toInt).getD j 0
 |[],i,j,hi,_=>by simp at hi
 |x::l,0,j,_,hj=>by
  have h1:=Ay3 h x.toInt
  have e:bytesB bits (x::l)=Acu bits x.toInt++bytesB bits l:=by simp[bytesB]
  rw[e,Nat.zero_mul,Nat.zero_add,List.getD_eq_getElem?_getD,List.getD_eq_getElem?_getD,List.getElem?_append_left (by omega)];rfl
 |x::l,i+1,j,hi,hj=>by
  have h1:=Ay3 h x.toInt
  have e:bytesB bits (x::l)=Acu bits x.toInt++bytesB bits l:=by simp[bytesB]
  have ih:=Bc4 h l i j (by simpa using hi) hj
  have e2:(i+1)*wB bits+j=(Acu bits x.toInt).length+(i*wB bits+j):=by rw[Nat.add_mul,Nat.one_mul,h1];omega
  rw[e,e2,List.getD_eq_getElem?_getD,List.getElem?_append_right (by omega),Nat.add_sub_cancel_left,←List.getD_eq_getElem?_getD,ih];rfl
theorem Bzu{bits:Int}(h:Cm bits)(l:List Int32)(hr:inR bits l)(i:Nat)(hi:i<l.length):Int32.ofInt (sx (wB bits) (bytesB bits l) (i*wB bits))=l.getD i 0:=by
 have hm:l.getD i 0∈l:=by rw[List.getD_eq_getElem?_getD,List.getElem?_eq_getElem hi];exact List.getElem_mem hi
 have hv:=hr _ hm
 have g:∀j,j<wB bits→Mh (bytesB bits l) (i*wB bits+j)=((Acu bits (l.getD i 0).toInt).getD j 0).toNat:=fun j hj=>by rw[Mh,Bc4 h l i j hi hj]
 generalize l.getD i 0=x at*
 have key:sx (wB bits) (bytesB bits l) (i*wB bits)=x.toInt:=by
  generalize hA:i*wB bits=a at*
  obtain rfl|rfl|rfl:=h
  ·have g0:=g 0 (by decide)
   have e1:(Acu 8 x.toInt).getD 0 0=u8 (x.toInt+128):=rfl
   rw[Nat.add_zero,e1,Ay5]at g0
   simp only[hB]at hv
   simp at hv
   have e2:wB 8=1:=rfl
   rw[e2,sx,if_pos rfl,g0];omega
  ·have g0:=g 0 (by decide)
   have g1:=g 1 (by decide)
   have e0:(Acu 16 x.toInt).getD 0 0=u8 x.toInt:=rfl
   have e1:(Acu 16 x.toInt).getD 1 0=u8 (x.toInt/256):=rfl
   rw[Nat.add_zero,e0,Ay5]at g0
   rw[e1,Ay5]at g1
   simp only[hB]at hv
   simp at hv
   have e2:wB 16=2:=rfl
   rw[e2,sx2,g0,g1]
   split<;>omega
  ·have g0:=g 0 (by decide)
   have g1:=g 1 (by decide)
   have g2:=g 2 (by decide)
   have e0:(Acu 24 x.toInt).getD 0 0=u8 x.toInt:=rfl
   have e1:(Acu 24 x.toInt).getD 1 0=u8 (x.toInt/256):=rfl
   have e3:(Acu 24 x.toInt).getD 2 0=u8 (x.toInt/65536):=rfl
   rw[Nat.add_zero,e0,Ay5]at g0
   rw[e1,Ay5]at g1
   rw[e3,Ay5]at g2
   simp only[hB]at hv
   simp at hv
   have e2:wB 24=3:=rfl
   rw[e2,sx3,g0,g1,g2]
   split<;>omega
 rw[key];simp
theorem Bxq{bits:Int}(h:Cm bits)(l:List Int32)(hr:inR bits l):sxs (wB bits) l.length (bytesB bits l)=l:=by
 refine List.ext_getElem (Bbt _ _ _) fun i h1 h2=>?_
 have:=Bzu h l hr i h2
 simp only[sxs,List.getElem_map,List.getElem_range]
 rw[this,List.getD_eq_getElem?_getD,List.getElem?_eq_getElem h2];rfl
theorem Gts.smp{b p:List UInt8}{f c w r n A:Nat}{l:List Int}{k m:Nat}{x:List Int32}{s:List UInt8}{e:Int}(hw:Cm (w:Int))(g:Gts b p f c w r n A l k m x s e):smF w (s,e)=x:=by
 have hwb:=Bab (w:Int)
 by_cases he:e=0
 ·obtain⟨h1,h2,h3,_⟩:=g.some' he
  have h4:=g.pos
  have h5:=Arj hw x
  rw[smF,if_neg (by simpa using he)]
  simp only
  rw[h1,h5,Nat.mul_div_cancel _ (by omega)]
  exact Bxq hw x (Ayq hw (by omega) h3)
 ·rw[smF,if_pos he,(g.none' he).2]
end Go.Pl
set_option linter.unusedVariables false
set_option linter.unusedSimpArgs false
namespace Go.Pl
open Go Go.Lv
abbrev C5:=Int×Int×Int×List Int32×Int
def Bcm(e:Int):C5:=(0,0,0,[],e)
theorem Bvp{seg p:List UInt8}(hs:seg.length=8)(hp:p.length≤64):Tq seg p=some (seg==leB (Ad6 p).toNat 8,0):=by
 rw[Tq,Bhh p hp,Aa]
 simp only
 rw[if_neg (by rw[Aj,Aj,Ac,Ac,Li,hs];simp),Fv,Aa]
theorem Cab(b p:List UInt8)(m c w h o q n g y ab:Int)(k v:List Int){e:Int}(he:e≠0):Js b p m c w h o q n g k e y ab v=some (Bcm e):=by
 rw[Js,Aay,if_pos (by rw[Aj];simpa using he)];rfl
theorem Bbw(b p:List UInt8)(m c w h o q n g y ab:Int)(k:List Int){e:Int}(he:e≠0):My b p m c w h o q n g y ab k e=some (Bcm e):=by
 rw[My,Aao,if_pos (by rw[Aj];simpa using he)];rfl
theorem Bwy(b p:List UInt8)(m c w h o q n g y ab:Int)(k:List Int):My b p m c w h o q n g y ab k 0=Sj b p m c w h o q n g y ab k:=by
 rw[My,Aao,if_neg (by rw[Aj];simp)]
def Ajp(X:Nat→List Int32)(E:Nat→Int)(be:Int):Nat→Nat→List Int32→List Int32×Int
 |0,_,acc=>if be≠0 then([],38)else(acc,0)
 |j+1,k,acc=>if E k≠0 then([],E k)else Ajp X E be j (k+1) (acc++X k)
def Amk(c w r:Nat)(y:List Int32×Int):C5:=if y.2≠0 then Bcm y.2 else((c:Int),(w:Int),(r:Int),y.1,0)
def Bgv(b p:List UInt8)(f c w r n A:Nat)(l:List Int):C5:=
 Amk c w r (Ajp (fun k=>smF w (Oq b p f c w r n A l k)) (fun k=>(Oq b p f c w r n A l k).2) (Bda b A l) l.length 0 [])
section
variable {b p:List UInt8} {f c w r n A:Nat} {l:List Int} (o:Opn b p f c w r n A l)
include o
theorem Atn(a1 a2 a3 a4:Int):∀(j k q:Nat) (acc:List Int32),k+j=l.length→j<q→(k=l.length→(A:Int)+l.sum≤b.length)→acc.length≤4000*k→
  Nb b l (f:Int) (c:Int) (w:Int) (r:Int) (n:Int) a1 a2 a3 (A:Int) a4 (tapsOf p) (framesL (longN r) n) q ((A:Int)+(l.take k).sum) (k:Int) acc=
   some (Amk c w r (Ajp (fun k=>smF w (Oq b p f c w r n A l k)) (fun k=>(Oq b p f c w r n A l k).2) (Bda b A l) j k acc))
 |0,k,q+1,acc,hk,_,hfit,_=>by
  have hA:=o.at'
  have hfile:=o.file
  have hs1:=o.some1
  have hsum:=o.sum
  have b1:=Fc o.five l.length
  have hf:=hfit (by omega)
  obtain rfl:k=l.length:=by omega
  rw[List.take_length]at b1⊢
  rw[Nb,Aai,if_neg (by rw[Af,Ac];simp),Aih,Asd,Lg (by omega) (by omega),Aa,Bk6 _ (by rw[List.length_drop];omega),Aa,Ajp,Bda]
  generalize Aoa (b.drop ((A:Int)+l.sum).toNat)=v
  obtain⟨v1,v2⟩:=v
  simp only
  by_cases hv:v2≠0
  ·rw[if_pos hv,if_pos (by rw[Aj];simpa using hv),Amk,if_pos (by simp)];rfl
  ·rw[if_neg hv,if_neg (by rw[Aj];simpa using hv),Amk,if_neg (by simp)]
 |j+1,k,q+1,acc,hk,hq,hfit,hacc=>by
  have hA:=o.at'
  have hfile:=o.file
  have hs1:=o.some1
  have hsum:=o.sum
  have b1:=Fc o.five k
  have b2:=Fc o.five (k+1)
  have hkl:k<l.length:=by omega
  have e2:=Lw hkl
  have h5:=o.five l[k] (List.getElem_mem _)
  obtain⟨m,x,s,e,g⟩:=Agz o k hkl
  obtain⟨hc,hw,hr,hn,_⟩:=Ot o.shape
  have hl:=g.lens hw
  rw[Nb,Aai,if_pos (by rw[Af,Ac];simp;omega),Cf hkl,Aa,Aa,Ag (a:=(A:Int)+(l.take k).sum) (by omega) (by omega),Int.add_assoc,←e2,Ac,Ajp,g.eq]
  simp only
  rcases g.way with⟨h1,h2⟩|⟨h1,h2,_⟩
  ·rw[if_pos (by rw[Af,decide_eq_true_eq];omega),if_pos (by rw[h2];simp),h2,Amk,if_pos (by simp)];rfl
  ·rw[if_neg (by rw[Af,decide_eq_true_eq];omega),g.mom]
   simp only[Aa]
   rw[Py (by omega) (by omega) (by omega),Aa,show(b.take ((A:Int)+(l.take (k+1)).sum).toNat).drop ((A:Int)+(l.take k).sum).toNat=segF b A l k from rfl,h2,Aa]
   simp only
   rw[Ajc,As6]
   by_cases he:e≠0
   ·rw[if_pos (by rw[Aj];simpa using he),if_pos he,Amk,if_pos he];rfl
   ·have he0:e=0:=by simpa using he
    have hfit2:=(g.some' he0).2.2.2.2
    rw[if_neg (by rw[Aj];simpa using he),if_neg he,g.smp hw,Cr (by omega),Aa,Ag (a:=(A:Int)+(l.take k).sum) (by omega) (by omega),Int.add_assoc,←e2,Ag (by omega) (by omega)]
    exact Atn a1 a2 a3 a4 j (k+1) q (acc++x) (by omega) (by omega) (fun h=>by rw[h,List.take_length]at hfit2;exact hfit2) (by rw[List.length_append];omega)
theorem Au7:∀(j k q:Nat) (acc:List Int32),k+j=l.length→j<q→(k=l.length→(A:Int)+l.sum≤b.length)→acc.length≤4000*k→
  If b (f:Int) (c:Int) (w:Int) (r:Int) (n:Int) l (framesL (longN r) n) (tapsOf p) q ((A:Int)+(l.take k).sum) (k:Int) acc=
   some (Amk c w r (Ajp (fun k=>smF w (Oq b p f c w r n A l k)) (fun k=>(Oq b p f c w r n A l k).2) (Bda b A l) j k acc))
 |0,k,q+1,acc,hk,_,hfit,_=>by
  have hA:=o.at'
  have hfile:=o.file
  have hs1:=o.some1
  have hsum:=o.sum
  have b1:=Fc o.five l.length
  have hf:=hfit (by omega)
  obtain rfl:k=l.length:=by omega
  rw[List.take_length]at b1⊢
  rw[If,Rw,if_neg (by rw[Af,Ac];simp),Abo,Abn,Lg (by omega) (by omega),Aa,Bpt _ (by rw[List.length_drop];omega),Aa,Ajp,Bda]
  generalize Aoa (b.drop ((A:Int)+l.sum).toNat)=v
  obtain⟨v1,v2⟩:=v
  simp only
  by_cases hv:v2≠0
  ·rw[if_pos hv,if_pos (by rw[Aj];simpa using hv),Amk,if_pos (by simp)];rfl
  ·rw[if_neg hv,if_neg (by rw[Aj];simpa using hv),Amk,if_neg (by simp)]
 |j+1,k,q+1,acc,hk,hq,hfit,hacc=>by
  have hA:=o.at'
  have hfile:=o.file
  have hs1:=o.some1
  have hsum:=o.sum
  have b1:=Fc o.five k
  have b2:=Fc o.five (k+1)
  have hkl:k<l.length:=by omega
  have e2:=Lw hkl
  have h5:=o.five l[k] (List.getElem_mem _)
  obtain⟨m,x,s,e,g⟩:=Agz o k hkl
  obtain⟨hc,hw,hr,hn,_⟩:=Ot o.shape
  have hl:=g.lens hw
  rw[If,Rw,if_pos (by rw[Af,Ac];simp;omega),Cf hkl,Aa,Aa,Ac,Be (by omega) (by omega),Ajp,g.eq]
  simp only
  rcases g.way with⟨h1,h2⟩|⟨h1,_,h2⟩
  ·rw[if_pos (by rw[Af,decide_eq_true_eq];omega),if_pos (by rw[h2];simp),h2,Amk,if_pos (by simp)];rfl
  ·rw[if_neg (by rw[Af,decide_eq_true_eq];omega),g.mom]
   simp only[Aa]
   rw[Ag (a:=(A:Int)+(l.take k).sum) (by omega) (by omega),Int.add_assoc,←e2,Py (by omega) (by omega) (by omega),Aa,show(b.take ((A:Int)+(l.take (k+1)).sum).toNat).drop ((A:Int)+(l.take k).sum).toNat=segF b A l k from rfl,h2,Aa]
   simp only
   rw[Abu,Abj]
   by_cases he:e≠0
   ·rw[if_pos (by rw[Aj];simpa using he),if_pos he,Amk,if_pos he];rfl
   ·have he0:e=0:=by simpa using he
    have hfit2:=(g.some' he0).2.2.2.2
    rw[if_neg (by rw[Aj];simpa using he),if_neg he,g.smp hw,Cr (by omega),Aa,Cf hkl,Aa,Aa,Ag (a:=(A:Int)+(l.take k).sum) (by omega) (by omega),Int.add_assoc,←e2,Ag (by omega) (by omega)]
    exact Au7 j (k+1) q (acc++x) (by omega) (by omega) (fun h=>by rw[h,List.take_length]at hfit2;exact hfit2) (by rw[List.length_append];omega)
end
theorem Bhf(l:List Int)(b p:List UInt8)(m c w h o q n g:Int)(k:List Int)(hl:l.length≤1000)(h5:∀x∈l,5≤x)(A:Int)(hA:0≤A)(hb:A+l.sum≤1000000):∀(j i z:Nat),i+j=l.length→j<z→Ms l b p m c w h o q n g k z (i:Int) (A+(l.take i).sum)=Aaq b p l m c w h o q n g (A+l.sum) k
 |0,i,z+1,hi,_=>by
  rw[Ms,Yv,if_neg (by rw[Af,Ac];simp;omega),show i=l.length by omega,List.take_length]
 |j+1,i,z+1,hi,hz=>by
  have hlt:i<l.length:=by omega
  have b1:=Fc h5 i
  have b2:=Fc h5 (i+1)
  have e:=Lw hlt
  have ih:=Bhf l b p m c w h o q n g k hl h5 A hA hb j (i+1) z (by omega) (by omega)
  rw[e,←Int.add_assoc]at ih
  rw[Ms,Yv,if_pos (by rw[Af,Ac];simp;omega),Cf hlt,Aa,Aa,Ag (by omega) (by omega),Ag (by omega) (by omega)]
  exact ih
theorem Bot(b p:List UInt8)(hb:b.length≤100100)(hp:p.length≤64):
  (∃e:Int,e≠0∧seekto_Open b p=some (Aoe e)∧Kc b p=some (Bcm e)∧Gq b p=some (Bcm e))∨
  (∃f c w r n T:Nat,∃q d:Int,T≤b.length∧b.length≤100000∧shapeB f c w r n=true∧fitB c r n=true∧
   seekto_Open b p=Mt b (f:Int) (c:Int) (w:Int) (r:Int) (n:Int) (T:Int)∧
   Kc b p=Sj b p (f:Int) (c:Int) (w:Int) (r:Int) (n:Int) q d (T:Int) 0 0 (framesL (longN r) n)∧
   Gq b p=(Wi b (T:Int) (f:Int) (c:Int) (w:Int) (r:Int) (n:Int)).bind fun(h,ae)=>if Bb ae 0=true then some (Bcm ae)else(Ek (r:Int) (n:Int)).bind fun p2=>(Lj p).bind fun(u,ap)=>Ae8 b (f:Int) (c:Int) (w:Int) (r:Int) (n:Int) h p2 u (Ae (T:Int) (Ae (Ay 4 (Ac h)) 4)) 0 []):=by
 have hO:seekto_Open b p=seekto_Open b p:=rfl
 have hV:Kc b p=Kc b p:=rfl
 have hR:Gq b p=Gq b p:=rfl
 conv at hO=>rhs;rw[seekto_Open,Rm,if_neg (by rw[Aq,Ac];simp;omega)]
 conv at hV=>rhs;rw[Kc,Ak8,if_neg (by rw[Aq,Ac];simp;omega),Asa]
 conv at hR=>rhs;rw[Gq,Aez,if_neg (by rw[Aq,Ac];simp;omega),Aid]
 by_cases h1:100000<b.length
 ·rw[if_pos (by rw[Aq,Ac];simp;omega)]at hO hV hR
  refine .inl ⟨4,by omega,hO,?_,?_⟩
  ·rw[hV,Aa];rfl
  ·rw[hR,Aa];rfl
 rw[if_neg (by rw[Aq,Ac];simp;omega)]at hO hV hR
 rw[Aq3 b (by omega),Aa]at hO hV
 rw[Axj b (by omega),Aa]at hR
 by_cases h2:(frontS b).2=0
 ·obtain⟨p0,p1,p2⟩:=Bh7 h2
  have hc:=Lg (l:=b) p0 p1
  simp only[h2]at hO hV hR
  rw[if_neg (by rw[Aj];simp),hc,Aa,show b.drop (frontS b).1.toNat=hdr b from rfl]at hO hV hR
  rw[Bg4 _ (by simp[hdr];omega),Aa]at hO hV
  rw[Bki _ (by simp[hdr];omega),Aa]at hR
  by_cases h3:(readS (hdr b)).2.2.2.2.2=0
  ·obtain⟨g1,g2,g3,g4⟩:=Bko h3
   have hlen:(hdr b).length=b.length-(frontS b).1.toNat:=by simp[hdr]
   generalize hF:(frontS b).1.toNat=F at*
   have hF':(frontS b).1=(F:Int):=by omega
   rw[g1,hF']at hO hV hR
   simp only at hO hV hR
   generalize f0 (hdr b)=f at*
   generalize f1 (hdr b)=c at*
   generalize f2 (hdr b)=w at*
   generalize f3 (hdr b)=r at*
   generalize f4 (hdr b)=n at*
   have t22:Ae (F:Int) 22=((F+22:Nat):Int):=by rw[Ag (by omega) (by omega)];omega
   have t30:Ae ((F+22:Nat):Int) 8=((F+30:Nat):Int):=by rw[Ag (by omega) (by omega)];omega
   have hf12:f=1∨f=2:=by simp only[shapeB,decide_eq_true_eq]at g3;omega
   rw[if_neg (by rw[Aj];simp),t22,t30]at hO
   rw[if_neg (by rw[Aj];simp),Aew g3 g4,Aa,t22,t30]at hV
   rw[Aa]at hR
   simp only at hV hR
   rw[if_neg (by rw[Aj];simp),t22,Af7,t30]at hR
   by_cases hpass:((p==([]:List UInt8)) !=(geq (f:Int) (1:Int)))=true
   ·rw[if_pos hpass]at hO hR
    refine .inl ⟨26,by omega,hO,?_,?_⟩
    ·rw[hV]
     by_cases h5:f=2
     ·rw[if_pos (by rw[Az,h5];rfl),Aa]
      simp only
      rw[if_neg (by rw[Aj];simp),if_pos hpass,Bbw _ _ _ _ _ _ _ _ _ _ _ _ _ (by omega)]
     ·rw[if_neg (by rw[Az];simp;omega),Aa]
      simp only
      rw[if_neg (by rw[Aj];simp),if_pos hpass,Bbw _ _ _ _ _ _ _ _ _ _ _ _ _ (by omega)]
    ·rw[hR,Aa];rfl
   ·rw[if_neg hpass]at hO hR
    have hpf:(p=[]↔f=1):=by
     rw[Az]at hpass
     have h5:(p==([]:List UInt8))=((f:Int)==1):=by simpa using hpass
     have h6:(p==([]:List UInt8))=true↔((f:Int)==1)=true:=by rw[h5]
     rw[beq_iff_eq,beq_iff_eq]at h6
     rw[h6];omega
    by_cases h5:f=2
    ·have hpne:p≠ []:=fun e=>by have:=hpf.1 e;omega
     rw[if_pos (by rw[Az,h5];rfl),Aa]at hV
     simp only at hV
     rw[if_neg (by rw[Aj];simp),if_neg hpass,if_neg (by rw[Az];simp;omega)]at hV
     rw[if_pos (by simpa using hpne)]at hO
     rw[if_neg (by simpa using hpne)]at hR
     by_cases h6:b.length<F+30
     ·rw[if_pos (by rw[Af,Ac];simp;omega)]at hO hV hR
      refine .inl ⟨24,by omega,hO,?_,?_⟩
      ·rw[hV,Bbw _ _ _ _ _ _ _ _ _ _ _ _ _ (by omega)]
      ·rw[hR,Aa];rfl
     ·have hseg:((b.take (F+30)).drop (F+22)).length=8:=by simp;omega
      rw[if_neg (by rw[Af,Ac];simp;omega),Py (by omega) (by omega) (by omega),Aa,show((F+30:Nat):Int).toNat=F+30 from rfl,show((F+22:Nat):Int).toNat=F+22 from rfl]at hO hV hR
      rw[Bvp hseg hp,Aa]at hO hV
      rw[Bg2 p hp,Aa]at hR
      simp only at hO hV
      rw[if_neg (by rw[Aj];simp)]at hO
      generalize(b.take (F+30)).drop (F+22)=seg at*
      by_cases h7:seg=leB (Ad6 p).toNat 8
      ·rw[if_neg (by simp[h7])]at hO hV
       rw[if_neg (by simp[h7]),Aa]at hR
       simp only at hR
       rw[if_neg (by rw[Aj];simp)]at hR
       rw[Bwy]at hV
       exact .inr ⟨f,c,w,r,n,F+30,(F:Int),((F+22:Nat):Int),by omega,by omega,g3,g4,hO,hV,hR⟩
      ·rw[if_pos (by simpa using h7)]at hO hV
       rw[if_pos (by simpa using h7)]at hR
       refine .inl ⟨26,by omega,hO,?_,?_⟩
       ·rw[hV,Bbw _ _ _ _ _ _ _ _ _ _ _ _ _ (by omega)]
       ·rw[hR,Aa];rfl
    ·have hpe:p=[]:=hpf.2 (by omega)
     rw[if_neg (by rw[Az];simp;omega),Aa]at hV
     simp only at hV
     rw[if_neg (by rw[Aj];simp),if_neg hpass,if_pos (by rw[Az];simp;omega),Bwy]at hV
     rw[if_neg (by rw[hpe];simp)]at hO
     rw[if_pos (by rw[hpe];rfl),Aa]at hR
     simp only at hR
     rw[if_neg (by rw[Aj];simp)]at hR
     exact .inr ⟨f,c,w,r,n,F+22,(F:Int),((F+22:Nat):Int),by omega,by omega,g3,g4,hO,hV,hR⟩
  ·generalize readS (hdr b)=v at*
   obtain⟨v1,v2,v3,v4,v5,v6⟩:=v
   simp only at h3 hO hV hR
   rw[if_pos (by rw[Aj];simpa using h3)]at hO hV
   refine .inl ⟨v6,h3,hO,?_,?_⟩
   ·rw[hV,Aa]
    simp only
    rw[if_pos (by rw[Aj];simpa using h3)];rfl
   ·rw[hR,Aa]
    simp only
    rw[if_pos (by rw[Aj];simpa using h3)];rfl
 ·generalize frontS b=v at*
  obtain⟨v,e⟩:=v
  simp only at h2 hO hV hR
  rw[if_pos (by rw[Aj];simpa using h2)]at hO hV hR
  refine .inl ⟨e,h2,hO,?_,?_⟩
  ·rw[hV,Aa]
   simp only
   rw[if_pos (by rw[Aj];simpa using h2)];rfl
  ·rw[hR,Aa]
   simp only
   rw[if_pos (by rw[Aj];simpa using h2)];rfl
theorem Cau(b p:List UInt8)(hb:b.length≤100100)(hp:p.length≤64):
  (∃e:Int,e≠0∧seekto_Open b p=some (Aoe e)∧cadenzaref40_Opened b p=some (Aoe e)∧Kc b p=some (Bcm e)∧Gq b p=some (Bcm e))∨
  (∃f c w r n A l,Opn b p f c w r n A l∧Kc b p=some (Bgv b p f c w r n A l)∧Gq b p=some (Bgv b p f c w r n A l)):=by
 have hbadI:∀{e e2:Int},Aoe e=Aoe e2→e=e2:=fun h=>by simpa [Aoe]using h
 rcases Bot b p hb hp with⟨e,he,h1,h2,h3⟩|⟨f,c,w,r,n,T,q,d,hT,hfile,g3,g4,hO,hV,hR⟩
 ·rcases Bj8 b p hb hp with⟨e',he',k1,k2⟩|⟨f,c,w,r,n,A,l,o⟩
  ·rw[h1]at k1
   have:=hbadI (Option.some.inj k1)
   subst this
   exact .inl ⟨e,he,h1,k2,h2,h3⟩
  ·have:=o.prog
   rw[h1]at this
   have:=Option.some.inj this
   simp only[Aoe,Prod.mk.injEq]at this
   exact absurd this.2.2.2.2.2.2.2 he
 ·obtain⟨hc,hw,hr,hn,_⟩:=Ot g3
  have hfit:n≤4000/c:=by simp only[fitB,decide_eq_true_eq]at g4;exact g4.1
  have hn4:n≤4000:=by have:=Nat.div_le_self 4000 c;omega
  rw[Bhq g3 g4 b hb T hT]at hO
  have hcut:=Lg (l:=b) (a:=(T:Int)) (by omega) (by omega)
  rw[Int.toNat_natCast]at hcut
  have hdl:(b.drop T).length≤100100:=by simp;omega
  rw[Sj,Ahy,if_neg (by rw[Af,Ac];simp;omega),hcut,Aa,Ac,Bgs _ _ hdl,Aa]at hV
  rw[Wi,hcut,Aa,Ark hr.2 hn hn4,Aa,Ac,Bkk _ _ hdl,Aa,Aa]at hR
  by_cases h:(seekS (b.drop T) (framesL (longN r) n).length).2≠0
  ·rw[if_pos h]at hO
   generalize seekS (b.drop T) (framesL (longN r) n).length=v at*
   obtain⟨v1,v2⟩:=v
   simp only at h hO hV hR
   rcases Bj8 b p hb hp with⟨e',he',k1,k2⟩|⟨f,c,w,r,n,A,l,o⟩
   ·rw[hO]at k1
    have:=hbadI (Option.some.inj k1)
    subst this
    refine .inl ⟨_,h,hO,k2,?_,?_⟩
    ·rw[hV,Aaf,Zy,if_pos (by rw[Aj];simpa using h),Cab _ _ _ _ _ _ _ _ _ _ _ _ _ _ h]
    ·rw[hR,if_pos (by rw[Aj];simpa using h)]
   ·have:=o.prog
    rw[hO]at this
    have:=Option.some.inj this
    simp only[Aoe,Prod.mk.injEq]at this
    exact absurd this.2.2.2.2.2.2.2 h
  ·have h0:(seekS (b.drop T) (framesL (longN r) n).length).2=0:=by simpa using h
   rw[if_neg h]at hO
   generalize hsv:seekS (b.drop T) (framesL (longN r) n).length=v at*
   obtain⟨v1,v2⟩:=v
   simp only at h0 hO hV hR
   subst h0
   rcases Bj8 b p hb hp with⟨e',he',k1,k2⟩|⟨f',c',w',r',n',A,l,o⟩
   ·rw[hO]at k1
    have:=Option.some.inj k1
    simp only[Aoe,Prod.mk.injEq]at this
    exact absurd this.2.2.2.2.2.2.2.symm he'
   ·have hp2:=o.prog
    rw[hO]at hp2
    have hp3:=Option.some.inj hp2
    simp only[Prod.mk.injEq]at hp3
    obtain⟨i1,i2,i3,i4,i5,i6,i7,_⟩:=hp3
    obtain rfl:f=f':=by omega
    obtain rfl:c=c':=by omega
    obtain rfl:w=w':=by omega
    obtain rfl:r=r':=by omega
    obtain rfl:n=n':=by omega
    subst i7
    have hlen:=o.len
    have hs1:=o.some1
    have hsum:=o.sum
    have hA:=o.at'
    have hAT:(A:Int)=(T:Int)+4*(v1.length:Int)+4:=by omega
    have a1:Ay 4 (v1.length:Int)=4*(v1.length:Int):=Gc (by omega) (by omega)
    have eV:Ae (Ae (T:Int) (Ay 4 (Ac v1))) 4=(A:Int):=by
     rw[Ac,a1,Ag (a:=(T:Int)) (by omega) (by omega),Ag (by omega) (by omega)];omega
    have eR:Ae (T:Int) (Ae (Ay 4 (Ac v1)) 4)=(A:Int):=by
     rw[Ac,a1,Ag (a:=4*(v1.length:Int)) (by omega) (by omega),Ag (by omega) (by omega)];omega
    have hlv:=Atn o q d (T:Int) ((A:Int)+v1.sum) v1.length 0 Am [] (by omega) (by have:=Ak;omega) (by omega) (by simp)
    have hlr:=Au7 o v1.length 0 Am [] (by omega) (by have:=Ak;omega) (by omega) (by simp)
    rw[List.take_zero,List.sum_nil,Int.add_zero]at hlv hlr
    refine .inr ⟨f,c,w,r,n,A,v1,o,?_,?_⟩
    ·have hs:=Bhf v1 b p (f:Int) (c:Int) (w:Int) (r:Int) (n:Int) q d (T:Int) (framesL (longN r) n) hs1.2 o.five (A:Int) (by omega) (by omega) v1.length 0 Am (by omega) (by have:=Ak;omega)
     rw[List.take_zero,List.sum_nil,Int.add_zero]at hs
     rw[hV,Aaf,Zy,if_neg (by rw[Aj];simp),Ait,eV]
     refine Eq.trans hs ?_
     rw[Aaq,Ag6,eV,Js,Aay,if_neg (by rw[Aj];simp),Bhe p o.pass,Aa]
     exact hlv
    ·rw[hR,if_neg (by rw[Aj];simp),Aa,Bdg p o.pass,Aa,eR]
     exact hlr
end Go.Pl
set_option linter.unusedVariables false
set_option linter.unusedSimpArgs false
namespace Go.Pl
open Go Go.Lv
theorem Cc1{ch:Nat}{bits:Int}(hb:Cm bits)(h1:1≤ch)(h6:ch≤6):Hw (ch:Int) bits=some 0:=by
 have hr:∃x y,Sf bits=some (x,y,0):=⟨_,_,Bj1 hb⟩
 obtain⟨x,y,hr⟩:=hr
 rw[Hw,hr,Aa]
 simp only
 rw[if_neg (by simp[Aj,Af,Aq];omega)]
theorem Bo3{ch m:Nat}{bits:Int}(hb:Cm bits)(h1:1≤ch)(h6:ch≤6)(hm:1≤m∧m*ch≤4000):Vy (ch:Int) bits (m:Int)=some (List.replicate (m*ch) 0,0):=by
 have hmc:m≤4000/ch:=(Nat.le_div_iff_mul_le (by omega)).2 hm.2
 have e:(m:Int)*(ch:Int)=((m*ch:Nat):Int):=by simp
 have hg:Ay (m:Int) (ch:Int)=((m*ch:Nat):Int):=by rw[Gc (by omega) (by omega),e]
 have hq4:=Brh h1 h6
 generalize 4000/ch=mm at*
 rw[Vy,Alk,Cc1 hb h1 h6,Aa,if_neg (by rw[Aj];simp),if_neg (by rw[Af];simp;omega),Br (by rw[Aj];simp;omega),Aa,hq4,if_neg (by rw[Aq];simp;omega),Aa,if_neg (by rw[Aj];simp),hg,Az4 (by omega) (by omega),Aa,Br (by rw[Az];simp),Aa,Int.toNat_natCast]
def Anr(kind c w:Nat)(fr:List Int)(G:Nat→List UInt8×Int)(k:Nat):List Int32:=
 if(G k).2≠0 then(if kind=2 then List.replicate ((fr.getD k 0).toNat*c) 0 else [])else smF w (G k)
def Ay2(kind c w:Nat)(fr:List Int)(G:Nat→List UInt8×Int):Nat→Nat→List Int32→List Int32
 |0,_,acc=>acc
 |j+1,k,acc=>Ay2 kind c w fr G j (k+1) (acc++Anr kind c w fr G k)
theorem Br9(kind c w:Nat)(fr:List Int)(G:Nat→List UInt8×Int):∀(j k:Nat) (acc:List Int32),acc.length≤(Ay2 kind c w fr G j k acc).length
 |0,k,acc=>Nat.le_refl _
 |j+1,k,acc=>by
  have:=Br9 kind c w fr G j (k+1) (acc++Anr kind c w fr G k)
  rw[List.length_append]at this
  rw[Ay2];omega
theorem Brq(G:Nat→List UInt8×Int):∀(j k:Nat) (acc:List Int),acc.length≤(Aq2 G j k acc).length
 |0,k,acc=>Nat.le_refl _
 |j+1,k,acc=>by
  have:=Brq G j (k+1) (if(G k).2≠0 then acc++[(k:Int)]else acc)
  rw[Aq2]
  by_cases h:(G k).2≠0
  ·rw[if_pos h]at this⊢;rw[List.length_append]at this;omega
  ·rw[if_neg h]at this⊢;omega
abbrev P6':=Int×Int×Int×List Int32×List Int×Int
def Cb7(e:Int):P6':=(0,0,0,[],[],e)
def Bmo(b p:List UInt8)(f c w r n A:Nat)(l:List Int)(kind:Nat):P6':=
 if Ay2 kind c w (framesL (longN r) n) (Oq b p f c w r n A l) l.length 0 []=[]then Cb7 6 else((c:Int),(w:Int),(r:Int),Ay2 kind c w (framesL (longN r) n) (Oq b p f c w r n A l) l.length 0 [],Aq2 (Oq b p f c w r n A l) l.length 0 [],0)
section
variable {b p:List UInt8} {f c w r n A:Nat} {l:List Int} (o:Opn b p f c w r n A l)
include o
theorem Bs4{kind k m:Nat}{x:List Int32}{s:List UInt8}{e:Int}(g:Gts b p f c w r n A l k m x s e):(Anr kind c w (framesL (longN r) n) (Oq b p f c w r n A l) k).length≤4000∧((framesL (longN r) n).getD k 0).toNat=m:=by
 obtain⟨hc,hw,hr,hn,_⟩:=Ot o.shape
 have hm:=g.mom
 have hp:=g.pos
 have e1:(framesL (longN r) n).getD k 0=(m:Int):=by
  have:getI (framesL (longN r) n) (k:Int)=(framesL (longN r) n)[k]? :=by simp[getI]
  rw[this]at hm
  rw[List.getD_eq_getElem?_getD,hm];rfl
 refine⟨?_,by rw[e1];omega⟩
 rw[Anr,g.eq,e1]
 by_cases he:e≠0
 ·rw[if_pos he]
  split
  ·simpa using hp.2
  ·simp
 ·rw[if_neg he,g.smp hw];exact(g.lens hw).2.1
theorem Bne(kind:Nat)(hk2:kind=1∨kind=2):∀(j k q:Nat) (bad:List Int) (acc:List Int32),k+j=l.length→j<q→bad.length≤k→acc.length≤4000*k→
  Gm b p (framesL (longN r) n) 0 (kind:Int) (c:Int) (w:Int) (r:Int) (f:Int) (c:Int) (w:Int) (r:Int) (n:Int) (A:Int) l q (k:Int) bad acc=
   Fh (c:Int) (w:Int) (r:Int) 0 (Aq2 (Oq b p f c w r n A l) j k bad) (Ay2 kind c w (framesL (longN r) n) (Oq b p f c w r n A l) j k acc)
 |0,k,q+1,bad,acc,hk,_,_,_=>by
  rw[Gm,Qi,if_neg (by rw[Af,Ac,←o.len];simp;omega)];rfl
 |j+1,k,q+1,bad,acc,hk,hq,hb,ha=>by
  obtain⟨hc,hw,hr,hn,_⟩:=Ot o.shape
  have hs1:=o.some1
  obtain⟨m,x,s,e,g⟩:=Agz o k (by omega)
  have hf:=Bhl o (by omega) g
  obtain⟨hpl,hfm⟩:=Bs4 o (kind:=kind) g
  have hpiece:Anr kind c w (framesL (longN r) n) (Oq b p f c w r n A l) k=if e≠0 then(if kind=2 then List.replicate (m*c) 0 else [])else smF w (s,e):=by rw[Anr,g.eq,hfm]
  have hnext:∀(bad2:List Int) (acc2:List Int32),bad2.length≤k+1→acc2.length≤4000*(k+1)→Im (Gm b p (framesL (longN r) n) 0 (kind:Int) (c:Int) (w:Int) (r:Int) (f:Int) (c:Int) (w:Int) (r:Int) (n:Int) (A:Int) l q) b p (framesL (longN r) n) 0 (kind:Int) (c:Int) (w:Int) (r:Int) (f:Int) (c:Int) (w:Int) (r:Int) (n:Int) (A:Int) l (k:Int) 0 bad2 acc2=
    Fh (c:Int) (w:Int) (r:Int) 0 (Aq2 (Oq b p f c w r n A l) j (k+1) bad2) (Ay2 kind c w (framesL (longN r) n) (Oq b p f c w r n A l) j (k+1) acc2):=by
   intro bad2 acc2 h2 h3
   rw[Im,Aaz,if_neg (by rw[Aj];simp),Yl,Akd,Ag (by omega) (by omega)]
   exact Bne kind hk2 j (k+1) q bad2 acc2 (by omega) (by omega) h2 h3
  rw[hpiece]at hpl
  rw[Gm,Qi,if_pos (by rw[Af,Ac,←o.len];simp;omega),g.mom,Aa,Aa,hf,Aa,Aq2,Ay2,g.eq,hpiece]
  simp only
  by_cases he:e=0
  ·subst he
   obtain⟨s1,_,_⟩:=Ba9 o g
   rw[if_neg (by simp)]at hpl
   rw[if_pos (by decide),s1,Aa]
   simp only
   rw[if_neg (by rw[Aj];simp),Qx,Qt,if_neg (by decide),Ql,Ra,Cr (by omega),Aa,if_neg (by simp),if_neg (by simp)]
   exact hnext bad _ (by omega) (by rw[List.length_append];omega)
  ·rw[if_pos he]at hpl
   rw[if_neg (by rw[Az];simpa using he),Qx,Qt,if_pos (by rw[Az];simpa using he),Cr (by simp;omega),Aa,if_pos he,if_pos he]
   rcases hk2 with rfl|rfl
   ·rw[if_neg (by rw[Az];decide),Ql,Ra,Cr (by simp;omega),Aa,if_neg (by omega)]
    exact hnext _ _ (by simp;omega) (by simp;omega)
   ·rw[if_pos (by rw[Az];decide),Bo3 hw hc.1 hc.2 g.pos,Aa]
    simp only
    rw[if_pos rfl]at hpl
    rw[if_neg (by rw[Aj];simp),Yq,Aan,Cr (by omega),Aa,if_pos trivial]
    exact hnext _ _ (by simp;omega) (by rw[List.length_append];omega)
theorem Axd(kind:Nat)(hk2:kind=1∨kind=2):Ch b p (kind:Int)=some (Bmo b p f c w r n A l kind):=by
 have hs1:=o.some1
 have h:=Bne o kind hk2 l.length 0 Am [] [] (by omega) (by have:=Ak;omega) (by simp) (by simp)
 rw[Ch,Mw,if_neg (by simp[Af,Aq];omega),if_neg (by rw[Az];simp;omega),o.prog,Aa]
 simp only
 rw[if_neg (by rw[Aj];simp),Aa]
 simp only
 rw[if_neg (by rw[Aj];simp),Aew o.shape o.fit,Aa]
 simp only
 rw[if_neg (by rw[Aj];simp),Zu]
 refine Eq.trans h ?_
 rw[Fh,Qd,if_neg (by rw[Aj];simp),Bmo]
 by_cases h2:Ay2 kind c w (framesL (longN r) n) (Oq b p f c w r n A l) l.length 0 []=[]
 ·rw[if_pos h2,if_pos (by rw[h2];decide)];rfl
 ·rw[if_neg h2,if_neg (by rw[Az,Ac];simpa using h2)]
end
theorem Br2{b p:List UInt8}{e:Int}(he:e≠0)(h:seekto_Open b p=some (Aoe e))(kind:Nat)(hk2:kind=1∨kind=2):Ch b p (kind:Int)=some (Cb7 e):=by
 rw[Ch,Mw,if_neg (by simp[Af,Aq];omega),if_neg (by rw[Az];simp;omega),h,Aa,Aoe]
 simp only
 rw[if_pos (by rw[Aj];simpa using he)];rfl
theorem Azv(l:List Int32)(hl:l.length≤4000000):∀(j i q:Nat),i+j=l.length→j<q→Fw l l q (i:Int)=some true
 |0,i,q+1,hi,_=>by
  rw[Fw,Lk,if_neg (by rw[Af,Ac];simp;omega)];rfl
 |j+1,i,q+1,hi,hq=>by
  rw[Fw,Lk,if_pos (by rw[Af,Ac];simp;omega),Cf (by omega),Aa,Aa,if_neg (by rw[Byg];simp),Ag (by omega) (by omega)]
  exact Azv l hl j (i+1) q (by omega) (by omega)
theorem Cb9(l:List Int32)(hl:l.length≤4000000):Qw l l=some true:=by
 rw[Qw,Tf,if_neg (by rw[Aj];simp)]
 exact Azv l hl l.length 0 Am (by omega) (by have:=Ak;omega)
theorem Bpm(a b c:Int)(l:List Int32)(hl:l.length≤4000000):Eb a b c l a b c l=some true:=by
 have e:∀a:Int,geq a a=true:=fun a=>by rw[Az];simp
 rw[Eb,e,e,e,if_pos (by decide),Cb9 l hl,Aa]
theorem Bu4{b p:List UInt8}{f c w r n A:Nat}{l:List Int}(o:Opn b p f c w r n A l):(Bgv b p f c w r n A l).2.2.2.1.length≤4000000:=by
 have hs1:=o.some1
 have key:∀(j k:Nat) (acc:List Int32),k+j=l.length→(Ajp (fun k=>smF w (Oq b p f c w r n A l k)) (fun k=>(Oq b p f c w r n A l k).2) (Bda b A l) j k acc).1.length≤acc.length+4000*j:=by
  intro j
  induction j with
  |zero=>intro k acc _;rw[Ajp];split<;>simp
  |succ j ih=>
   intro k acc hk
   obtain⟨m,x,s,e,g⟩:=Agz o k (by omega)
   rw[Ajp]
   split
   ·simp
   ·have h1:=ih (k+1) (acc++smF w (Oq b p f c w r n A l k)) (by omega)
    rw[g.eq,g.smp (Ot o.shape).2.1]at h1⊢
    have h2:=(g.lens (Ot o.shape).2.1).2.1
    rw[List.length_append]at h1;omega
 have:=key l.length 0 [] (by omega)
 simp only[List.length_nil]at this
 rw[Bgv,Amk]
 split
 ·simp[Bcm]
 ·simp only;omega
end Go.Pl
set_option linter.unusedVariables false
namespace Go.Pl
open Go Go.Lv
theorem Cay:Nw=some true:=by kernel_rfl
end Go.Pl
set_option linter.unusedVariables false
set_option linter.unusedSimpArgs false
namespace Go.Pl
open Go Go.Lv
theorem Ayx(c w:Nat)(fr:List Int)(G:Nat→List UInt8×Int)(be:Int)(kind:Nat):∀(j k:Nat) (acc:List Int32) (bad:List Int),(Ajp (fun k=>smF w (G k)) (fun k=>(G k).2) be j k acc).2=0→
  Ay2 kind c w fr G j k acc=(Ajp (fun k=>smF w (G k)) (fun k=>(G k).2) be j k acc).1∧Aq2 G j k bad=bad
 |0,k,acc,bad,h=>by
  rw[Ajp]at h⊢
  by_cases hb:be≠0
  ·rw[if_pos hb]at h;cases h
  ·rw[if_neg hb];exact⟨rfl,rfl⟩
 |j+1,k,acc,bad,h=>by
  rw[Ajp]at h⊢
  by_cases hb:(G k).2≠0
  ·rw[if_pos hb]at h;exact absurd h hb
  ·rw[if_neg hb]at h⊢
   rw[Ay2,Aq2,Anr,if_neg hb,if_neg hb]
   exact Ayx c w fr G be kind j (k+1) _ bad h
theorem Bli(w:Nat)(G:Nat→List UInt8×Int)(be:Int):∀(j k:Nat) (acc:List Int32) (bad:List Int),(Ajp (fun k=>smF w (G k)) (fun k=>(G k).2) be j k acc).2≠0→
  (Ajp (fun k=>smF w (G k)) (fun k=>(G k).2) be j k acc).2=38∨bad.length<(Aq2 G j k bad).length
 |0,k,acc,bad,h=>by
  rw[Ajp]at h⊢
  by_cases hb:be≠0
  ·rw[if_pos hb];exact .inl rfl
  ·rw[if_neg hb]at h;exact absurd rfl h
 |j+1,k,acc,bad,h=>by
  rw[Ajp]at h⊢
  by_cases hb:(G k).2≠0
  ·have:=Brq G j (k+1) (bad++[(k:Int)])
   rw[List.length_append]at this
   simp at this
   refine .inr ?_
   rw[Aq2,if_pos hb]
   omega
  ·rw[if_neg hb]at h⊢
   rw[Aq2,if_neg hb]
   exact Bli w G be j (k+1) _ bad h
theorem Bmm{b p:LB}{x1 x2 x3 x5:Int}{x4:LX}(h:Kc b p=some (x1,x2,x3,x4,x5)):Ch b p 0=some (x1,x2,x3,x4,[],x5):=by
 rw[Ch,Mw,if_neg (by decide),if_pos (by decide),h,Aa]
theorem Bm6{b p:LB}{f c w r n A:Nat}{l:List Int}(o:Opn b p f c w r n A l){kind:Nat}(h:(Oq b p f c w r n A l 0).2=0):Ay2 kind c w (framesL (longN r) n) (Oq b p f c w r n A l) l.length 0 []≠ []:=by
 have hs1:=o.some1
 obtain⟨j,hj⟩:∃j,l.length=j+1:=⟨l.length-1,by omega⟩
 obtain⟨m,x,s,e,g⟩:=Agz o 0 (by omega)
 have hw:=(Ot o.shape).2.1
 have hc:=(Ot o.shape).1
 have hsm:=g.smp hw
 have ge:=Br9 kind c w (framesL (longN r) n) (Oq b p f c w r n A l) j 1 ([]++Anr kind c w (framesL (longN r) n) (Oq b p f c w r n A l) 0)
 rw[hj,Ay2]
 intro h0
 rw[h0]at ge
 rw[Anr,if_neg (by rw[h];simp),g.eq,hsm]at ge
 rw[g.eq]at h
 have h2:=(g.some' h).2.1
 have h3:=g.pos
 have h4:1≤m*c:=Nat.mul_pos (by omega) (by omega)
 simp at ge
 rw[ge]at h2
 simp at h2
 omega
theorem Btx(hal:Nw=some true)(b p:LB):Hz b p=some true:=by
 rw[Hz,Jj,hal,Aa,Zc,Aa]
 by_cases hc:((((((Ey (Ac b) 5000)&&(Bv (Ac b) 12000))||(Ey (Ac b) 12100))||(Ey (Ac p) 64)))||(!true))=true
 ·rw[if_pos hc]
 ·rw[if_neg hc]
  simp only[Bool.or_eq_true,not_or,Aq,Af,Ac,decide_eq_true_eq]at hc
  obtain⟨⟨⟨c1,c2⟩,c3⟩,_⟩:=hc
  have p1:Ch b p 1=Ch b p ((1:Nat):Int):=rfl
  have p2:Ch b p 2=Ch b p ((2:Nat):Int):=rfl
  rcases Cau b p (by omega) (by omega)with⟨e,he,h1,h2,h3,_⟩|⟨f,c,w,r,n,A,l,o,h3,_⟩
  ·have hz:=Bmm h3
   have e0:¬(geq e 0=true):=by rw[Az];simpa using he
   rw[h3,Aa,Bcm]
   simp only
   rw[hz,Aa,p1,Br2 he h1 1 (.inl rfl),Aa,p2,Br2 he h1 2 (.inr rfl),Aa,By0 he h1,Aa]
   simp only[Cb7]
   rw[if_neg (by rw[Aj];simp),Bpm 0 0 0 [] (by simp),Aa,if_neg (by decide),Dv,Dx,if_neg e0,Ga,Jl,if_pos rfl]
   simp[Aj,Az,he]
  ·have hs1:=o.some1
   have hlen:=Bu4 o
   have hg1:=Ayx c w (framesL (longN r) n) (Oq b p f c w r n A l) (Bda b A l) 1 l.length 0 [] []
   have hg2:=Ayx c w (framesL (longN r) n) (Oq b p f c w r n A l) (Bda b A l) 2 l.length 0 [] []
   have hbd:=Bli w (Oq b p f c w r n A l) (Bda b A l) l.length 0 [] []
   have hfst:(Ajp (fun k=>smF w (Oq b p f c w r n A l k)) (fun k=>(Oq b p f c w r n A l k).2) (Bda b A l) l.length 0 []).2=0→(Oq b p f c w r n A l 0).2=0:=by
    obtain⟨j,hj⟩:∃j,l.length=j+1:=⟨l.length-1,by omega⟩
    rw[hj,Ajp]
    intro h
    by_cases hb:(Oq b p f c w r n A l 0).2≠0
    ·rw[if_pos hb]at h;exact h
    ·simpa using hb
   rw[h3,Aa]
   have hz:=fun{x1 x2 x3 x5:Int} {x4:LX} (h:Bgv b p f c w r n A l=(x1,x2,x3,x4,x5))=>Bmm (h3.trans (congrArg some h))
   rw[Bgv,Amk]at hlen hz⊢
   generalize Ajp (fun k=>smF w (Oq b p f c w r n A l k)) (fun k=>(Oq b p f c w r n A l k).2) (Bda b A l) l.length 0 []=C at*
   by_cases hC:C.2≠0
   ·rw[if_pos hC]at hlen hz⊢
    have e0:¬(geq C.2 0=true):=by rw[Az];simpa using hC
    have hz':=hz rfl
    simp only[Bcm]
    rw[hz',Aa,p1,Axd o 1 (.inl rfl),Aa]
    generalize Bmo b p f c w r n A l 1=R1
    obtain⟨r1,r2,r3,r4,r5,r6⟩:=R1
    simp only
    rw[p2,Axd o 2 (.inr rfl),Aa]
    generalize Bmo b p f c w r n A l 2=R2
    obtain⟨q1,q2,q3,q4,q5,q6⟩:=R2
    simp only
    rw[Bkp o,Aa]
    simp only
    rw[if_neg (by rw[Aj];simp),Bpm 0 0 0 [] (by simp),Aa,if_neg (by decide),Dv,Dx,if_neg e0,Ga,Jl,if_pos rfl]
    rcases hbd hC with h|h
    ·rw[h];simp[Az]
    ·have:Ey (Ac (Aq2 (Oq b p f c w r n A l) l.length 0 [])) 0=true:=by rw[Aq,Ac];simpa using h
     rw[this];simp
   ·have hC0:C.2=0:=by simpa using hC
    rw[if_neg hC]at hlen hz⊢
    have hz':=hz rfl
    obtain⟨a1,a2⟩:=hg1 hC0
    obtain⟨b1,b2⟩:=hg2 hC0
    have n1:=Bm6 o (kind:=1) (hfst hC0)
    have n2:=Bm6 o (kind:=2) (hfst hC0)
    have P1:Bmo b p f c w r n A l 1=((c:Int),(w:Int),(r:Int),C.1,[],0):=by rw[Bmo,if_neg n1,a1,a2]
    have P2:Bmo b p f c w r n A l 2=((c:Int),(w:Int),(r:Int),C.1,[],0):=by rw[Bmo,if_neg n2,b1,b2]
    simp only at hlen⊢
    rw[hz',Aa,p1,Axd o 1 (.inl rfl),P1,Aa]
    simp only
    rw[p2,Axd o 2 (.inr rfl),P2,Aa]
    simp only
    rw[Bkp o,a2,Aa]
    simp only
    have hS:=Bpm (c:Int) (w:Int) (r:Int) C.1 hlen
    rw[if_neg (by decide),hS,Aa,if_neg (by decide),Dv,Dx,if_pos (by decide),if_pos (by decide),hS,Aa,if_pos rfl,Aa]
theorem law_PolicyValid(b p:LB):Hz b p=some true:=Btx Cay b p
end Go.Pl
