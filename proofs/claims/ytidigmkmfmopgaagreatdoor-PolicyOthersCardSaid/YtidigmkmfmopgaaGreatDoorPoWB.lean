/- A part of the proof of a statement of this seat (see the text that ends in Proof): LwBack, LwGot, LwWs, LwGoes, LwPol, LwRt, LwClip, LwPts, LwTrc, LwPd, LwDt, LwDu, LwAll, LwEc3, LwEc4, LwEb1, LwEb2, LwEb3, LwEb4, LwA41, LwPv, LwPk, LwEf1, LwEf2, LwEf3, LwEf4, LwEf5, LwEf6, LwPo. No conditions of its own. -/
import Derived.Test.YtidigmkmfmopgaaGreatDoorPoWA
import Derived.Test.YtidigmkmfmopgaaGreatDoorPoPA
import Derived.KernelRfl
set_option linter.unusedVariables false
set_option linter.unusedSimpArgs false
namespace Go.Pl
open Go Go.Lv
def Eb(b:List UInt8):List UInt8:=b.drop (b.length-32)
theorem Ca0{b:List UInt8}(h:32≤b.length):(Eb b).length=32:=by rw[Eb,List.length_drop];omega
def itA(t:List UInt8):Nat:=Ef (part t 12 4)-32
def mnA(t:List UInt8):Nat:=Ef (part t 16 4)
def Yk(b:List UInt8):Int×Int:=
 if ¬(32≤b.length∧(Eb b).take 8=APE)then(0,6)else if Aic (Eb b)=true then(0,12)else
 if Eb b=Tq (itA (Eb b)) (mnA (Eb b)) 0 then(if b.length<itA (Eb b)+32 then(0,24)else(((itA (Eb b)+32:Nat):Int),0))else
 if Eb b≠Tq (itA (Eb b)) (mnA (Eb b)) 2147483648 then(0,12)else
 if b.length<itA (Eb b)+64 then(0,24)else
 if(b.take (b.length-(itA (Eb b)+64)+32)).drop (b.length-(itA (Eb b)+64))≠Tq (itA (Eb b)) (mnA (Eb b)) 2684354560 then(0,12)else(((itA (Eb b)+64:Nat):Int),0)
section
variable {b:List UInt8}
theorem ba1(h:¬(32≤b.length∧(Eb b).take 8=APE)):Yk b=(0,6):=by rw[Yk,if_pos h]
variable (h:32≤b.length∧(Eb b).take 8=APE)
include h
theorem ba2(h2:Aic (Eb b)=true):Yk b=(0,12):=by rw[Yk,if_neg (fun h'=>h' h),if_pos h2]
variable (h2:Aic (Eb b)=false)
include h2
theorem ba3(h3:Eb b=Tq (itA (Eb b)) (mnA (Eb b)) 0):Yk b=if b.length<itA (Eb b)+32 then(0,24)else(((itA (Eb b)+32:Nat):Int),0):=by
 rw[Yk,if_neg (fun h'=>h' h),if_neg (by rw[h2];simp),if_pos h3]
variable (h3:Eb b≠Tq (itA (Eb b)) (mnA (Eb b)) 0)
include h3
theorem ba4(h4:Eb b≠Tq (itA (Eb b)) (mnA (Eb b)) 2147483648):Yk b=(0,12):=by
 rw[Yk,if_neg (fun h'=>h' h),if_neg (by rw[h2];simp),if_neg h3,if_pos h4]
variable (h4:Eb b=Tq (itA (Eb b)) (mnA (Eb b)) 2147483648)
include h4
theorem ba5(h5:b.length<itA (Eb b)+64):Yk b=(0,24):=by
 rw[Yk,if_neg (fun h'=>h' h),if_neg (by rw[h2];simp),if_neg h3,if_neg (fun e=>e h4),if_pos h5]
theorem ba6(h5:¬b.length<itA (Eb b)+64):Yk b=if(b.take (b.length-(itA (Eb b)+64)+32)).drop (b.length-(itA (Eb b)+64))≠Tq (itA (Eb b)) (mnA (Eb b)) 2684354560 then(0,12)else(((itA (Eb b)+64:Nat):Int),0):=by
 rw[Yk,if_neg (fun h'=>h' h),if_neg (by rw[h2];simp),if_neg h3,if_neg (fun e=>e h4),if_neg h5]
end
theorem Cac{b:List UInt8}{n:Int}(h:Yk b=(n,0)):32≤n∧n≤b.length:=by
 unfold Yk at h
 split at h; · simp at h
 rename_i h32
 split at h; · simp at h
 split at h
 ·split at h; · simp at h
  simp only[Prod.mk.injEq,and_true]at h;omega
 split at h; · simp at h
 split at h; · simp at h
 split at h; · simp at h
 simp only[Prod.mk.injEq,and_true]at h;omega
theorem Bxd{b:List UInt8}(h:(Yk b).2≠0):(Yk b).1=0:=by
 revert h
 unfold Yk
 split; · simp
 split; · simp
 split
 ·split<;>simp
 split; · simp
 split; · simp
 split<;>simp
theorem Cib{b:List UInt8}(h:32≤b.length)(hl:b.length<4611686018427387904):Ah (Ac b) 32=((b.length-32:Nat):Int)∧Bv b ((b.length-32:Nat):Int) (Ac b)=some (Eb b):=by
 refine⟨by rw[Ac,Bc (by omega) (by omega)];omega,?_⟩
 rw[Qe (by omega) (by omega)];rfl
theorem Byg(b:List UInt8)(hl:b.length<4611686018427387904):Bao b=some (Yk b):=by
 rw[Bao,At5]
 by_cases h32:32≤b.length
 ·obtain⟨e1,e2⟩:=Cib h32 hl
  have hl3:=Ca0 h32
  rw[if_neg (by rw[e1,Af];simp),e1,e2,Aa,Asi,Aa]
  by_cases hp:(Eb b).take 8=APE
  ·have h:=And.intro h32 hp
   rw[if_neg (by simpa [APE,hl3]using hp),Avg,Bdu,e1,e2,Aa,Arq _ 0 (by omega) (by omega) (by decide),Aa]
   cases hb:Aic (Eb b)with
   |true=>
    rw[ba2 h hb]
    simp only[if_true,Bool.false_eq_true,if_false]
    rw[Aa,Arq _ 2147483648 (by omega) (by omega) (by decide),Aa,hb];rfl
   |false=>
    obtain⟨i1,i2,i3,i4⟩:=Bfs (Eb b) (by omega) hb
    have eI:Ef (part (Eb b) 12 4)-32=itA (Eb b):=rfl
    have eM:Ef (part (Eb b) 16 4)=mnA (Eb b):=rfl
    simp only[Bool.false_eq_true,if_false]
    rw[eI]at i3
    rw[eM]at i4
    rw[eI,eM]
    by_cases c1:Eb b=Tq (itA (Eb b)) (mnA (Eb b)) 0
    ·have c1':Eb b=Tq (itA (Eb b)) (mnA (Eb b)) (0:UInt64).toNat:=c1
     rw[if_pos (by simpa using c1'),ba3 h hb c1]
     by_cases c2:b.length<itA (Eb b)+32
     ·rw[if_pos (by rw[Af];simp;omega),if_pos c2]
     ·rw[if_neg (by rw[Af];simp;omega),if_neg c2,Ag (by omega) (by omega)];rfl
    ·have c1':¬Eb b=Tq (itA (Eb b)) (mnA (Eb b)) (0:UInt64).toNat:=c1
     rw[if_neg (by simpa using c1'),Aa,Arq _ 2147483648 (by omega) (by omega) (by decide),Aa,hb]
     simp only[Bool.false_eq_true,if_false]
     rw[eI,eM]
     by_cases c2:Eb b=Tq (itA (Eb b)) (mnA (Eb b)) 2147483648
     ·have c2':Eb b=Tq (itA (Eb b)) (mnA (Eb b)) (2147483648:UInt64).toNat:=c2
      rw[if_neg (by simpa using c2'),Ag (by omega) (by omega)]
      by_cases c3:b.length<itA (Eb b)+64
      ·rw[if_pos (by rw[Af,Ac];simp;omega),ba5 h hb c1 c2 c3]
      ·rw[if_neg (by rw[Af,Ac];simp;omega),Ac,Bc (by omega) (by omega),Ag (by omega) (by omega),Ww (by omega) (by omega) (by omega),Aa,Bhl _ _ _ i3 i4 (by decide),Aa,Hc,Aa,ba6 h hb c1 c2 c3]
       rw[show((b.length:Int)-(((itA (Eb b):Nat):Int)+64)).toNat=b.length-(itA (Eb b)+64) by omega,show((b.length:Int)-(((itA (Eb b):Nat):Int)+64)+32).toNat=b.length-(itA (Eb b)+64)+32 by omega]
       have e7:(2684354560:UInt64).toNat=2684354560:=rfl
       rw[e7]
       by_cases c4:(b.take (b.length-(itA (Eb b)+64)+32)).drop (b.length-(itA (Eb b)+64))=Tq (itA (Eb b)) (mnA (Eb b)) 2684354560
       ·rw[if_neg (by simpa using c4),if_neg (fun e=>e c4)];rfl
       ·rw[if_pos (by simpa using c4),if_pos c4]
     ·have c2':¬Eb b=Tq (itA (Eb b)) (mnA (Eb b)) (2147483648:UInt64).toNat:=c2
      rw[if_pos (by simpa using c2'),ba4 h hb c1 c2]
  ·rw[if_pos (by rw[Bool.not_eq_true',decide_eq_false_iff_not];intro h;exact hp h.2),ba1 (fun h=>hp h.2)]
 ·rw[if_pos (by rw[Ac,Bc (by omega) (by omega),Af];simp;omega),ba1 (fun h=>h32 h.1)]
def Cc6:Nat→List UInt8→Nat→Int×Int
 |0,_,_=>(0,38)
 |j+1,b,a=>if b=[]then((a:Int),0)else if(Yk b).2≠0 then(0,38)else Cc6 j (b.take (b.length-(Yk b).1.toNat)) (a+1)
theorem Brq:∀(j q a:Nat) (b:List UInt8),b.length<j→j≤q→b.length≤4000→a+b.length≤4000→Sm q (a:Int) b=some (Cc6 j b a)
 |0,_,_,_,h,_,_,_=>by omega
 |j+1,q+1,a,b,h,hq,h4,ha=>by
  rw[Sm,Aij,Cc6]
  by_cases hb:b=[]
  ·subst hb;rw[if_neg (by decide),if_pos rfl];rfl
  ·have hpos:0<b.length:=List.length_pos_iff.2 hb
   rw[if_pos (by rw[Am,Ac];simp;omega),if_neg hb,Byg b (by omega),Aa]
   have hbad:=Bxd (b:=b)
   have hok:=fun n=>Cac (b:=b) (n:=n)
   generalize Yk b=v at*
   obtain⟨n,e⟩:=v
   simp only at hbad⊢
   rw[Afe,Aft]
   by_cases he:e≠0
   ·rw[if_pos he,hbad he,if_pos (by decide)]
   ·obtain⟨k1,k2⟩:=hok n (by rw[show e=0 by simpa using he])
    rw[if_neg he,if_neg (by rw[Bb];simp;omega),Ac,Bc (by omega) (by omega),Kt (by omega) (by omega),Aa,Afs,Aqs,Ag (by omega) (by omega)]
    rw[show((b.length:Int)-n).toNat=b.length-n.toNat by omega]
    have ih:=Brq j q (a+1) (b.take (b.length-n.toNat)) (by rw[List.length_take];omega) (by omega) (by rw[List.length_take];omega) (by rw[List.length_take];omega)
    rw[←ih];rfl
def Bfe(b:List UInt8):Int×Int:=if 4000<b.length then(0,38)else Cc6 (b.length+1) b 0
theorem Bpr(b:List UInt8)(hl:b.length<4611686018427387904):Ajd b=some (Bfe b):=by
 rw[Ajd,Aif,Bfe]
 by_cases h:4000<b.length
 ·rw[if_pos (by rw[Am,Ac];simp;omega),if_pos h]
 ·rw[if_neg (by rw[Am,Ac];simp;omega),if_neg h]
  exact Brq _ Al 0 b (by omega) (by have:=Ak;omega) (by omega) (by omega)
end Go.Pl
set_option linter.unusedVariables false
set_option linter.unusedSimpArgs false
namespace Go.Pl
open Go Go.Lv
theorem Ar2{a b:Nat}(h:a<9223372036854775808):Bg (a:Int) (b:Int)=((a/b:Nat):Int):=by
 have:a/b≤a:=Nat.div_le_self _ _
 rw[Aid,Int.tdiv_eq_ediv_of_nonneg (by omega),←Int.natCast_ediv]
 generalize a/b=k at*
 exact Cc (by omega) (by omega)
theorem Bcr{bits:Int}(h:BitsOk bits)(x:Int):(Aex bits x).length=wB bits:=by
 obtain rfl|rfl|rfl:=h<;>rfl
theorem Aus{bits:Int}(h:BitsOk bits):∀l:List Int32,(bytesB bits l).length=l.length*wB bits
 |[]=>by simp[bytesB]
 |x::l=>by
  have h1:=Aus h l
  have h2:=Bcr h x.toInt
  simp only[bytesB,List.flatMap_cons,List.length_append,List.length_cons,Nat.succ_mul]at*
  omega
def segF(b:List UInt8)(A:Nat)(l:List Int)(k:Nat):List UInt8:=(b.take ((A:Int)+(l.take (k+1)).sum).toNat).drop ((A:Int)+(l.take k).sum).toNat
structure Gts (b p:List UInt8) (f c w r n A:Nat) (l:List Int) (k m:Nat) (x:List Int32) (s:List UInt8) (e:Int):Prop where
 mom:getI (framesL (longN r) n) (k:Int)=some (m:Int)
 pos:1≤m∧m*c≤4000
 got:cadenzaref40_Got b p (f:Int) (c:Int) (w:Int) (r:Int) (n:Int) (A:Int) l (k:Int)=some (s,e)
 none':e≠0→s=[]∧x=[]
 some':e=0→s=bytesB (w:Int) x∧x.length=m*c∧cadenzaref18_Check (w:Int) x=some 0∧width_Bytes (w:Int) x=some (s,0)∧(A:Int)+(l.take (k+1)).sum≤b.length
 way:((b.length:Int)<(A:Int)+(l.take (k+1)).sum∧e=24)∨((A:Int)+(l.take (k+1)).sum≤b.length∧deframe_Decode (c:Int) (w:Int) (tapsOf p) (m:Int) (segF b A l k)=some (x,e)∧cadenzaref21_Decode (c:Int) (w:Int) (tapsOf p) (m:Int) (segF b A l k)=some (x,e))
theorem Aw7{b p:List UInt8}{f c w r n A:Nat}{l:List Int}(o:Opn b p f c w r n A l)(k:Nat)(hk:k<l.length):∃m x s e,Gts b p f c w r n A l k m x s e:=by
 obtain⟨hc,hw,hr,hn,_⟩:=Alg o.shape
 have hfit:n≤4000/c:=by have:=o.fit;simp only[fitB,decide_eq_true_eq]at this;exact this.1
 have hn4:n≤4000:=by have:=Nat.div_le_self 4000 c;omega
 have hA:=o.at'
 have hfile:=o.file
 have hlen:=o.len
 have b1:=Mr o.five k
 have b2:=Mr o.five (k+1)
 have e:=Hn hk
 have h5:=o.five l[k] (List.getElem_mem _)
 have hsum:=o.sum
 have hs1:=o.some1
 have hkf:k<(framesL (longN r) n).length:=by omega
 obtain⟨m,hm,m1,m2⟩:=Bhx (Ie r) hn (List.getElem_mem hkf)
 have hmom:getI (framesL (longN r) n) (k:Int)=some (m:Int):=by rw[Bu hkf,hm]
 have hpos:1≤m∧m*c≤4000:=by
  refine⟨m1,?_⟩
  have:=Nat.mul_le_mul_right c (Nat.le_trans m2 hfit)
  have:=Nat.div_mul_le_self 4000 c
  omega
 have hR:cadenzaref40_Got b p (f:Int) (c:Int) (w:Int) (r:Int) (n:Int) (A:Int) l (k:Int)=cadenzaref40_Got b p (f:Int) (c:Int) (w:Int) (r:Int) (n:Int) (A:Int) l (k:Int):=rfl
 conv at hR=>rhs;rw[cadenzaref40_Got,Xq,Ble hs1.2 o.five o.sum _ _ _ _ _ (A:Int) (by omega) (by omega) k (by omega),Aa,Bu hk,Aa,Bc (by rw[Ac];omega) (by rw[Ac];omega)]
 by_cases hto:(b.length:Int)<(A:Int)+(l.take (k+1)).sum
 ·rw[if_pos (by rw[Af,Ac,decide_eq_true_eq];omega)]at hR
  exact⟨m,[],[],24,hmom,hpos,hR,fun _=>⟨rfl,rfl⟩,fun h=>by simp at h, .inl ⟨hto,rfl⟩⟩
 ·rw[if_neg (by rw[Af,Ac,decide_eq_true_eq];omega),Bqb p o.pass,Avt hr.2 hn hn4]at hR
  simp only[Aa]at hR
  rw[Ag (a:=(A:Int)+(l.take k).sum) (b:=l[k]) (by omega) (by omega),Int.add_assoc,←e,hmom]at hR
  simp only[Aa]at hR
  rw[Ww (by omega) (by omega) (by omega),Aa]at hR
  obtain⟨x,er,g1,g2,g3,g4⟩:=Amz (ch:=c) (n:=m) (t:=tapsOf p) (segF b A l k) hw (Ake p) hc.1 hc.2 m1 (by omega)
  rw[show(b.take ((A:Int)+(l.take (k+1)).sum).toNat).drop ((A:Int)+(l.take k).sum).toNat=segF b A l k from rfl,g2,Aa]at hR
  simp only at hR
  rw[Xf,Xl]at hR
  by_cases her:er=0
  ·obtain⟨g5,g6,g7⟩:=g3 her
   rw[if_neg (by rw[Aj];simpa using her),Bku hw g6 g5,Aa]at hR
   subst her
   exact⟨m,x,_,0,hmom,hpos,hR,fun h=>absurd rfl h,fun _=>⟨rfl,g7,g5,Biu hw g6 g5,by omega⟩, .inr ⟨by omega,g1,g2⟩⟩
  ·rw[if_pos (by rw[Aj];simpa using her)]at hR
   exact⟨m,x,_,er,hmom,hpos,hR,fun h=>⟨rfl,g4 h⟩,fun h=>absurd h her, .inr ⟨by omega,g1,g2⟩⟩
theorem Gts.lens{b p:List UInt8}{f c w r n A:Nat}{l:List Int}{k m:Nat}{x:List Int32}{s:List UInt8}{e:Int}(hw:BitsOk (w:Int))(g:Gts b p f c w r n A l k m x s e):s.length≤12000∧x.length≤4000∧(e=0→s.length=m*c*wB (w:Int)):=by
 by_cases he:e=0
 ·obtain⟨h1,h2,_⟩:=g.some' he
  have h3:=Arr (w:Int) x
  have h4:=Aus hw x
  have h5:=g.pos
  rw[←h1]at h3 h4
  refine⟨by omega,by omega,fun _=>by rw[h4,h2]⟩
 ·obtain⟨h1,h2⟩:=g.none' he
  exact⟨by simp[h1],by simp[h2],fun h=>absurd h he⟩
def Adg(b p:List UInt8)(f c w r n A:Nat)(l:List Int)(k:Nat):List UInt8×Int:=(cadenzaref40_Got b p (f:Int) (c:Int) (w:Int) (r:Int) (n:Int) (A:Int) l (k:Int)).getD ([],0)
theorem Gts.eq{b p:List UInt8}{f c w r n A:Nat}{l:List Int}{k m:Nat}{x:List Int32}{s:List UInt8}{e:Int}(g:Gts b p f c w r n A l k m x s e):Adg b p f c w r n A l k=(s,e):=by rw[Adg,g.got];rfl
def Cjg(b:List UInt8)(A:Nat)(l:List Int):Int:=(Bfe (b.drop ((A:Int)+l.sum).toNat)).2
end Go.Pl
set_option linter.unusedVariables false
set_option linter.unusedSimpArgs false
namespace Go.Pl
open Go Go.Lv
def Lo(b:List UInt8)(k:Nat):Nat:=(b.getD k 0).toNat
theorem Ayb(b:List UInt8)(k:Nat):Lo b k<256:=(b.getD k 0).toNat_lt
def sx(n:Nat)(b:List UInt8)(a:Nat):Int:=
 if n=1 then(Lo b a:Int)-128 else
 if n=2 then(if Lo b a+256*Lo b (a+1)<32768 then(Lo b a+256*Lo b (a+1):Nat)else((Lo b a+256*Lo b (a+1):Nat):Int)-65536)else
 (if Lo b a+256*Lo b (a+1)+65536*Lo b (a+2)<8388608 then(Lo b a+256*Lo b (a+1)+65536*Lo b (a+2):Nat)else((Lo b a+256*Lo b (a+1)+65536*Lo b (a+2):Nat):Int)-16777216)
def sxs(n m:Nat)(b:List UInt8):List Int32:=(List.range m).map fun x=>Int32.ofInt (sx n b (x*n))
theorem Bfa(n m:Nat)(b:List UInt8):(sxs n m b).length=m:=by simp[sxs]
theorem Bpy(n m:Nat)(b:List UInt8):sxs n (m+1) b=sxs n m b++[Int32.ofInt (sx n b (m*n))]:=by simp[sxs,List.range_succ]
theorem Bal{n:Int}(h: -2147483648≤n)(h':n<2147483648):(Int32.ofInt n).toInt=n:=by
 rw[Int32.toInt_ofInt,Int.bmod_def,show((Int32.size:Nat):Int)=4294967296 from rfl];split<;>omega
theorem Asa{b:List UInt8}{k:Nat}(h:k<b.length):getI b (k:Int)=some (b.getD k 0):=by
 rw[Bu h];simp[List.getD_eq_getElem?_getD,h]
theorem Alf(c:UInt8):(Ae c:Int32)=Int32.ofInt (c.toNat:Int):=rfl
theorem Bcn{v:Nat}(k:Nat)(hk:k≤32)(h:v<2147483648):Cm (Int32.ofInt (v:Int)) k=Int32.ofInt ((v*2^k:Nat):Int):=by
 have e:Cm (Int32.ofInt (v:Int)) k=Int32.ofInt ((Int32.ofInt (v:Int)).toInt*2^min k 32):=rfl
 rw[e,Bal (by omega) (by omega),Nat.min_eq_left hk];simp
theorem Cds{v w i:Nat}(hv:v<2^i)(hw:w*2^i<2147483648)(hi:i≤31):gor (Int32.ofInt (v:Int)) (Int32.ofInt ((w*2^i:Nat):Int))=Int32.ofInt ((v+w*2^i:Nat):Int):=by
 have hv2:v<2147483648:=Nat.lt_of_lt_of_le hv (show 2^i≤2^31 from Nat.pow_le_pow_right (by omega) hi)
 have e:gor (Int32.ofInt (v:Int)) (Int32.ofInt ((w*2^i:Nat):Int))=Int32.ofInt ((BitVec.ofInt 32 (Int32.ofInt (v:Int)).toInt|||BitVec.ofInt 32 (Int32.ofInt ((w*2^i:Nat):Int)).toInt).toNat:Int):=rfl
 rw[e,Bal (by omega) (by omega),Bal (by omega) (by omega),BitVec.toNat_or,BitVec.toNat_ofInt,BitVec.toNat_ofInt]
 have a1:((v:Int) %((2^32:Nat):Int)).toNat=v:=by omega
 have a2:(((w*2^i:Nat):Int) %((2^32:Nat):Int)).toNat=w*2^i:=by omega
 rw[a1,a2,Nat.or_comm,Nat.mul_comm w,←Nat.two_pow_add_eq_or_of_lt hv,Nat.add_comm]
theorem Bj6(w:Nat)(h:w<2147483648):gor (0:Int32) (Int32.ofInt (w:Int))=Int32.ofInt (w:Int):=by
 have:=Cds (v:=0) (w:=w) (i:=0) (by simp) (by simpa using h) (by omega)
 simpa using this
theorem carry{v k:Nat}(hk:k≤31)(h:v*2^k<4294967296)(hv:v<2147483648):Bo (Cm (Int32.ofInt (v:Int)) k) k=Int32.ofInt ((if v*2^k<2147483648 then((v*2^k:Nat):Int)else((v*2^k:Nat):Int)-4294967296).fdiv (2^k)):=by
 rw[Bcn k (by omega) hv]
 have e:∀x:Int32,Bo x k=Int32.ofInt (x.toInt.fdiv (2^min k 32)):=fun _=>rfl
 have hX:(Int32.ofInt ((v*2^k:Nat):Int)).toInt=if v*2^k<2147483648 then((v*2^k:Nat):Int)else((v*2^k:Nat):Int)-4294967296:=by
  rw[Int32.toInt_ofInt,Int.bmod_def,show((Int32.size:Nat):Int)=4294967296 from rfl]
  generalize v*2^k=X at*
  split<;>split<;>omega
 rw[e,Nat.min_eq_left (by omega),hX]
theorem sx2(b:List UInt8)(a:Nat):sx 2 b a=if Lo b a+256*Lo b (a+1)<32768 then((Lo b a+256*Lo b (a+1):Nat):Int)else((Lo b a+256*Lo b (a+1):Nat):Int)-65536:=rfl
theorem sx3(b:List UInt8)(a:Nat):sx 3 b a=if Lo b a+256*Lo b (a+1)+65536*Lo b (a+2)<8388608 then((Lo b a+256*Lo b (a+1)+65536*Lo b (a+2):Nat):Int)else((Lo b a+256*Lo b (a+1)+65536*Lo b (a+2):Nat):Int)-16777216:=rfl
variable (b:List UInt8)
theorem Ci8(bk:Int→List Int32→Option (List Int32×Int))(a:Nat)(acc:List Int32)(h:a+1≤b.length)(hl:b.length≤100000)(ha:acc.length≤100000)(j25:Int→List Int32→Int32→Int→Option (List Int32×Int))(j30:List Int32→Option (List Int32×Int)):
  Ev (Hs bk 8 b) j25 j30 8 b (a:Int) acc=bk ((a+1:Nat):Int) (acc++[Int32.ofInt (sx 1 b a)]):=by
 have hb:=Ayb b a
 have e:Ah (Ae (b.getD a 0):Int32) (128:Int32)=Int32.ofInt (sx 1 b a):=by
  have e1:Ah (Ae (b.getD a 0):Int32) (128:Int32)=Int32.ofInt ((Int32.ofInt ((b.getD a 0).toNat:Int)).toInt-(128:Int32).toInt):=rfl
  rw[e1,Bal (by omega) (by have:=(b.getD a 0).toNat_lt;omega)];rfl
 have q8:Bg (8:Int) 8=1:=by decide
 rw[Ev,if_pos (by rw[Af,Ac];simp;omega),if_pos (by rw[Bb];rfl),Asa (by omega),Aa,e,Bt (by simp;omega),Aa,Hs,Uq,q8,Ag (by omega) (by omega)];rfl
theorem Che(bk:Int→List Int32→Option (List Int32×Int))(a:Nat)(acc:List Int32)(h:a+2≤b.length)(hl:b.length≤100000)(ha:acc.length≤100000)(j28:Int→List Int32→Option (List Int32×Int))(j30:List Int32→Option (List Int32×Int)):
  Ev j28 (Kr bk 16 b) j30 16 b (a:Int) acc=bk ((a+2:Nat):Int) (acc++[Int32.ofInt (sx 2 b a)]):=by
 have h0:=Ayb b a
 have h1:=Ayb b (a+1)
 have q:Bg (16:Int) 8=2:=by decide
 have hF:Al=(Al-3)+1+1+1:=by have:=Ak;omega
 have z0:(GI.toZ (Ar (8:Int) 0)).toNat=0:=by decide
 have z1:(GI.toZ (Ar (8:Int) 1)).toNat=8:=by decide
 have z16:(GI.toZ (Ah (32:Int) 16)).toNat=16:=by decide
 have s0:Cm (Int32.ofInt (Lo b a:Int)) 0=Int32.ofInt (Lo b a:Int):=by have:=Bcn (v:=Lo b a) 0 (by omega) (by omega);simpa using this
 have s1:Cm (Int32.ofInt (Lo b (a+1):Int)) 8=Int32.ofInt ((Lo b (a+1)*2^8:Nat):Int):=Bcn 8 (by omega) (by omega)
 have o1:=Cds (v:=Lo b a) (w:=Lo b (a+1)) (i:=8) (by simpa using h0) (by omega) (by omega)
 have c:=carry (v:=Lo b a+Lo b (a+1)*2^8) (k:=16) (by omega) (by omega) (by omega)
 rw[Ev,if_pos (by rw[Af,Ac];simp;omega),if_neg (by rw[Bb];decide),Kr,hF,Dt,Ey,q,if_pos (by decide),show Ad (a:Int) 0=((a:Nat):Int) by rw[Ag (by omega) (by omega)];omega,Asa (by omega),Aa,Ay (by decide),Aa,z0,
  Alf,show((b.getD a 0).toNat:Int)=(Lo b a:Int)from rfl,s0,Bj6 _ (by omega),show Ad (0:Int) 1=1 by decide,
  Dt,Ey,q,if_pos (by decide),show Ad (a:Int) 1=((a+1:Nat):Int) by rw[Ag (by omega) (by omega)];omega,Asa (by omega),Aa,Ay (by decide),Aa,z1,
  Alf,show((b.getD (a+1) 0).toNat:Int)=(Lo b (a+1):Int)from rfl,s1,o1,show Ad (1:Int) 1=2 by decide,
  Dt,Ey,q,if_neg (by decide),Uk,Ue,Ay (by decide),Aa,Aa,z16,c,Bt (by simp;omega),Aa,Hs,Uq,q,Ag (by omega) (by omega)]
 have e:((if(Lo b a+Lo b (a+1)*2^8)*2^16<2147483648 then(((Lo b a+Lo b (a+1)*2^8)*2^16:Nat):Int)else(((Lo b a+Lo b (a+1)*2^8)*2^16:Nat):Int)-4294967296).fdiv (2^16))=sx 2 b a:=by
  rw[Int.fdiv_eq_ediv_of_nonneg _ (by omega),sx2]
  split<;>split<;>omega
 rw[e];rfl
theorem Chh(bk:Int→List Int32→Option (List Int32×Int))(a:Nat)(acc:List Int32)(h:a+3≤b.length)(hl:b.length≤100000)(ha:acc.length≤100000)(j28:Int→List Int32→Option (List Int32×Int))(j30:List Int32→Option (List Int32×Int)):
  Ev j28 (Kr bk 24 b) j30 24 b (a:Int) acc=bk ((a+3:Nat):Int) (acc++[Int32.ofInt (sx 3 b a)]):=by
 have h0:=Ayb b a
 have h1:=Ayb b (a+1)
 have h2:=Ayb b (a+2)
 have q:Bg (24:Int) 8=3:=by decide
 have hF:Al=(Al-4)+1+1+1+1:=by have:=Ak;omega
 have z0:(GI.toZ (Ar (8:Int) 0)).toNat=0:=by decide
 have z1:(GI.toZ (Ar (8:Int) 1)).toNat=8:=by decide
 have z2:(GI.toZ (Ar (8:Int) 2)).toNat=16:=by decide
 have z8:(GI.toZ (Ah (32:Int) 24)).toNat=8:=by decide
 have s0:Cm (Int32.ofInt (Lo b a:Int)) 0=Int32.ofInt (Lo b a:Int):=by have:=Bcn (v:=Lo b a) 0 (by omega) (by omega);simpa using this
 have s1:Cm (Int32.ofInt (Lo b (a+1):Int)) 8=Int32.ofInt ((Lo b (a+1)*2^8:Nat):Int):=Bcn 8 (by omega) (by omega)
 have s2:Cm (Int32.ofInt (Lo b (a+2):Int)) 16=Int32.ofInt ((Lo b (a+2)*2^16:Nat):Int):=Bcn 16 (by omega) (by omega)
 have o1:=Cds (v:=Lo b a) (w:=Lo b (a+1)) (i:=8) (by simpa using h0) (by omega) (by omega)
 have o2:=Cds (v:=Lo b a+Lo b (a+1)*2^8) (w:=Lo b (a+2)) (i:=16) (by omega) (by omega) (by omega)
 have c:=carry (v:=Lo b a+Lo b (a+1)*2^8+Lo b (a+2)*2^16) (k:=8) (by omega) (by omega) (by omega)
 rw[Ev,if_pos (by rw[Af,Ac];simp;omega),if_neg (by rw[Bb];decide),Kr,hF,Dt,Ey,q,if_pos (by decide),show Ad (a:Int) 0=((a:Nat):Int) by rw[Ag (by omega) (by omega)];omega,Asa (by omega),Aa,Ay (by decide),Aa,z0,
  Alf,show((b.getD a 0).toNat:Int)=(Lo b a:Int)from rfl,s0,Bj6 _ (by omega),show Ad (0:Int) 1=1 by decide,
  Dt,Ey,q,if_pos (by decide),show Ad (a:Int) 1=((a+1:Nat):Int) by rw[Ag (by omega) (by omega)];omega,Asa (by omega),Aa,Ay (by decide),Aa,z1,
  Alf,show((b.getD (a+1) 0).toNat:Int)=(Lo b (a+1):Int)from rfl,s1,o1,show Ad (1:Int) 1=2 by decide,
  Dt,Ey,q,if_pos (by decide),show Ad (a:Int) 2=((a+2:Nat):Int) by rw[Ag (by omega) (by omega)];omega,Asa (by omega),Aa,Ay (by decide),Aa,z2,
  Alf,show((b.getD (a+2) 0).toNat:Int)=(Lo b (a+2):Int)from rfl,s2,o2,show Ad (2:Int) 1=3 by decide,
  Dt,Ey,q,if_neg (by decide),Uk,Ue,Ay (by decide),Aa,Aa,z8,c,Bt (by simp;omega),Aa,Hs,Uq,q,Ag (by omega) (by omega)]
 have e:((if(Lo b a+Lo b (a+1)*2^8+Lo b (a+2)*2^16)*2^8<2147483648 then(((Lo b a+Lo b (a+1)*2^8+Lo b (a+2)*2^16)*2^8:Nat):Int)else(((Lo b a+Lo b (a+1)*2^8+Lo b (a+2)*2^16)*2^8:Nat):Int)-4294967296).fdiv (2^8))=sx 3 b a:=by
  rw[Int.fdiv_eq_ediv_of_nonneg _ (by omega),sx3]
  split<;>split<;>omega
 rw[e];rfl
theorem Azy(bits:Int)(n m:Nat)(hn:1≤n)(hm:b.length=m*n)(hl:b.length≤100000)(step:∀(q a:Nat) (acc:List Int32),a+n≤b.length→acc.length≤100000→Dg bits b (q+1) (a:Int) acc=Dg bits b q ((a+n:Nat):Int) (acc++[Int32.ofInt (sx n b a)])):
  ∀(j x q:Nat),x+j=m→j<q→Dg bits b q ((x*n:Nat):Int) (sxs n x b)=some (sxs n m b,0)
 |0,x,q+1,hx,_=>by
  obtain rfl:x=m:=by omega
  rw[Dg,Ev,if_neg (by rw[Af,Ac];simp;omega)];rfl
 |j+1,x,q+1,hx,hq=>by
  have h1:(x+1)*n≤m*n:=Nat.mul_le_mul_right n (by omega)
  rw[Nat.add_mul,Nat.one_mul]at h1
  have h2:m≤m*n:=Nat.le_mul_of_pos_right m hn
  rw[step q (x*n) _ (by omega) (by rw[Bfa];omega),←Bpy,show x*n+n=(x+1)*n by rw[Nat.add_mul,Nat.one_mul]]
  exact Azy bits n m hn hm hl step j (x+1) q (by omega) (by omega)
theorem Cjo{bits:Int}(h:BitsOk bits)(hl:b.length≤100000)(q a:Nat)(acc:List Int32)(ha:a+wB bits≤b.length)(hc:acc.length≤100000):
  Dg bits b (q+1) (a:Int) acc=Dg bits b q ((a+wB bits:Nat):Int) (acc++[Int32.ofInt (sx (wB bits) b a)]):=by
 rw[Dg]
 obtain rfl|rfl|rfl:=h
 ·exact Ci8 b _ a acc ha hl hc _ _
 ·exact Che b _ a acc ha hl hc _ _
 ·exact Chh b _ a acc ha hl hc _ _
theorem Blt{bits:Int}(h:BitsOk bits){m:Nat}(hm:b.length=m*wB bits)(h4:m≤4000):Te bits b=some (sxs (wB bits) m b,0):=by
 have hn:=Bd5 bits
 have hl:b.length≤12000:=by rw[hm];exact Nat.mul_le_mul h4 hn.2
 rw[Te,Afd,Bf7 h,Aa]
 simp only
 rw[if_neg (by rw[Aj];simp),Bb3 h,Ay (by rw[Aj];simp;omega),Aa]
 have hr:Ff (Ac b) (wB bits:Int)=0:=by rw[Ac,Ae8,hm,Nat.mul_mod_left];rfl
 have hq:Bg (Ac b) (wB bits:Int)=(m:Int):=by rw[Ac,Ar2 (by omega),hm,Nat.mul_div_cancel _ (by omega)]
 rw[if_neg (by rw[Aj,hr];simp),Aa,hq,if_neg (by rw[Am];simp;omega),Ac9]
 have:=Azy b bits (wB bits) m (by omega) hm (by omega) (fun q a acc ha hc=>Cjo b h (by omega) q a acc ha hc) m 0 Al (by omega) (by have:=Ak;omega)
 simpa [sxs]using this
theorem Cep{bits:Int}(h:BitsOk bits)(hl:b.length≤100000)(q a:Nat)(acc:List Int32)(ha:a+wB bits≤b.length)(hc:acc.length≤100000):
  Cs bits b (hB bits) (q+1) (a:Int) acc=Cs bits b (hB bits) q ((a+wB bits:Nat):Int) (acc++[Int32.ofInt (sx (wB bits) b a)]):=by
 have h0:=Ayb b a
 have h1:=Ayb b (a+1)
 have h2:=Ayb b (a+2)
 have gc:∀k,(Ae (b.getD k 0):Int)=(Lo b k:Int):=fun k=>Afk _
 have gx:∀z:Int,(Ae z:Int32)=Int32.ofInt z:=fun z=>rfl
 have hF:Al=(Al-7)+1+1+1+1+1+1+1:=by have:=Ak;omega
 have hw1:wB bits=1∨wB bits=2∨wB bits=3:=by have:=Bd5 bits;omega
 have hend:∀(bk:Int→List Int32→Option (List Int32×Int)) (z:Int),0≤z→z<2*hB bits→z=(if bits=8 then(Lo b a:Int)else if bits=16 then((Lo b a+256*Lo b (a+1):Nat):Int)else((Lo b a+256*Lo b (a+1)+65536*Lo b (a+2):Nat):Int))→
   Js bk bits b (hB bits) (a:Int) z acc=bk ((a+wB bits:Nat):Int) (acc++[Int32.ofInt (sx (wB bits) b a)]):=by
  intro bk z z0 z1 z2
  rw[Js,Yg]
  have e28:∀acc2,Oq bk bits b (hB bits) (a:Int) acc2=bk ((a+wB bits:Nat):Int) acc2:=by
   intro acc2
   rw[Oq,Xt,Bb3 h,Ag (by omega) (by omega)];rfl
  simp only[e28]
  obtain rfl|rfl|rfl:=h
  ·rw[if_pos (by decide),Bc (by omega) (by simp[hB]at z1;omega),Bt (by simp;omega),Aa,gx,z2];rfl
  ·rw[if_neg (by decide)]
   have e9:hB 16=32768:=rfl
   rw[e9]at z1⊢
   simp only[show ¬(16:Int)=8 by decide,if_false,if_true]at z2
   have e10:wB 16=2:=rfl
   rw[e10,sx2]
   by_cases hz:32768≤z
   ·rw[if_pos (by rw[Cl];simpa using hz),Fq (by omega) (by omega),Bc (by omega) (by omega),Bt (by simp;omega),Aa,gx,if_neg (by omega),z2];rfl
   ·rw[if_neg (by rw[Cl];simpa using hz),Bt (by simp;omega),Aa,gx,if_pos (by omega),z2]
  ·rw[if_neg (by decide)]
   have e9:hB 24=8388608:=rfl
   rw[e9]at z1⊢
   simp only[show ¬(24:Int)=8 by decide,show ¬(24:Int)=16 by decide,if_false]at z2
   have e10:wB 24=3:=rfl
   rw[e10,sx3]
   by_cases hz:8388608≤z
   ·rw[if_pos (by rw[Cl];simpa using hz),Fq (by omega) (by omega),Bc (by omega) (by omega),Bt (by simp;omega),Aa,gx,if_neg (by omega),z2];rfl
   ·rw[if_neg (by rw[Cl];simpa using hz),Bt (by simp;omega),Aa,gx,if_pos (by omega),z2]
 have step:∀(bk:Int→List Int32→Option (List Int32×Int)) (q2:Nat) (k:Int) (i:Nat),a+i<b.length→0≤k→k<65536→Dh bk bits b (hB bits) (a:Int) acc (q2+1) k (i:Int)=Dh bk bits b (hB bits) (a:Int) acc q2 (256*k+(Lo b (a+i):Int)) ((i:Int)-1):=by
  intro bk q2 k i hi hk hk2
  have:=Ayb b (a+i)
  rw[Dh,Pa,if_pos (by rw[Cl];simp),Ag (a:=(a:Int)) (by omega) (by omega),show(a:Int)+(i:Int)=((a+i:Nat):Int) by omega,Asa (by omega),Aa,gc,Fq (by omega) (by omega),Ag (by omega) (by omega),Bc (by omega) (by omega)]
 have last:∀(bk:Int→List Int32→Option (List Int32×Int)) (q2:Nat) (k:Int),Dh bk bits b (hB bits) (a:Int) acc (q2+1) k (-1)=Js bk bits b (hB bits) (a:Int) k acc:=by
  intro bk q2 k
  rw[Dh,Pa,if_neg (by rw[Cl];decide)]
 rw[Cs,Pe,if_pos (by rw[Af,Ac];simp;omega),Xx,hF]
 generalize Cs bits b (hB bits) q=bk at*
 have hwq:=Bb3 h
 rw[hwq,Bc (by omega) (by omega)]
 obtain rfl|rfl|rfl:=h
 ·have e10:wB 8=1:=rfl
  rw[e10]at ha⊢
  rw[show(((1:Nat):Int)-1)=((0:Nat):Int) by omega,step _ _ 0 0 (by omega) (by omega) (by omega),show(((0:Nat):Int)-1)= -1 by omega,last]
  exact hend bk _ (by omega) (by simp[hB];omega) (by simp)
 ·have e10:wB 16=2:=rfl
  rw[e10]at ha⊢
  rw[show(((2:Nat):Int)-1)=((1:Nat):Int) by omega,step _ _ 0 1 (by omega) (by omega) (by omega),show(((1:Nat):Int)-1)=((0:Nat):Int) by omega,step _ _ _ 0 (by omega) (by omega) (by omega),show(((0:Nat):Int)-1)= -1 by omega,last]
  exact hend bk _ (by omega) (by simp[hB];omega) (by simp;omega)
 ·have e10:wB 24=3:=rfl
  rw[e10]at ha⊢
  rw[show(((3:Nat):Int)-1)=((2:Nat):Int) by omega,step _ _ 0 2 (by omega) (by omega) (by omega),show(((2:Nat):Int)-1)=((1:Nat):Int) by omega,step _ _ _ 1 (by omega) (by omega) (by omega),show(((1:Nat):Int)-1)=((0:Nat):Int) by omega,step _ _ _ 0 (by omega) (by omega) (by omega),show(((0:Nat):Int)-1)= -1 by omega,last]
  exact hend bk _ (by omega) (by simp[hB];omega) (by simp;omega)
theorem Aqq{bits:Int}(h:BitsOk bits){m:Nat}(hm:b.length=m*wB bits)(hl:b.length≤100000):
  ∀(j x q:Nat),x+j=m→j<q→Cs bits b (hB bits) q ((x*wB bits:Nat):Int) (sxs (wB bits) x b)=some (sxs (wB bits) m b,0)
 |0,x,q+1,hx,_=>by
  obtain rfl:x=m:=by omega
  rw[Cs,Pe,if_neg (by rw[Af,Ac];simp;omega)];rfl
 |j+1,x,q+1,hx,hq=>by
  have hn:=Bd5 bits
  have h1:(x+1)*wB bits≤m*wB bits:=Nat.mul_le_mul_right _ (by omega)
  rw[Nat.add_mul,Nat.one_mul]at h1
  have h2:m≤m*wB bits:=Nat.le_mul_of_pos_right m hn.1
  rw[Cep b h hl q (x*wB bits) _ (by omega) (by rw[Bfa];omega),←Bpy,show x*wB bits+wB bits=(x+1)*wB bits by rw[Nat.add_mul,Nat.one_mul]]
  exact Aqq h hm hl j (x+1) q (by omega) (by omega)
theorem Bp3{bits:Int}(h:BitsOk bits){m:Nat}(hm:b.length=m*wB bits)(h4:m≤4000):Uw bits b=some (sxs (wB bits) m b,0):=by
 have hn:=Bd5 bits
 have hl:b.length≤12000:=by rw[hm];exact Nat.mul_le_mul h4 hn.2
 have hpos:=Ah0 bits
 rw[Uw,Aai,Ak2 h,Aa,if_neg (by rw[Bb];simp;omega),Bb3 h,Ay (by rw[Aj];simp;omega),Aa]
 have hr:Ff (Ac b) (wB bits:Int)=0:=by rw[Ac,Ae8,hm,Nat.mul_mod_left];rfl
 have hq:Bg (Ac b) (wB bits:Int)=(m:Int):=by rw[Ac,Ar2 (by omega),hm,Nat.mul_div_cancel _ (by omega)]
 rw[if_neg (by rw[Am,hr];simp),Aa,hq,if_neg (by rw[Am];simp;omega),Xw]
 have:=Aqq b h hm (by omega) m 0 Al (by omega) (by have:=Ak;omega)
 simpa [sxs]using this
end Go.Pl
set_option linter.unusedVariables false
set_option linter.unusedSimpArgs false
namespace Go.Pl
open Go Go.Lv
end Go.Pl
set_option linter.unusedVariables false
set_option linter.unusedSimpArgs false
namespace Go.Pl
open Go Go.Lv
section
variable {b p:List UInt8} {f c w r n A:Nat} {l:List Int} (o:Opn b p f c w r n A l)
include o
theorem Bj1{k m:Nat}{x:List Int32}{s:List UInt8}{e:Int}(hk:k<l.length)(g:Gts b p f c w r n A l k m x s e):Wj b p (k:Int)=some (s,e):=by
 obtain⟨y,h1,h2⟩:=Bwl o k hk
 rw[Box o,h1,←g.got,h2]
end
def Bc0(G:Nat→List UInt8×Int):Nat→Nat→List Int→List Int
 |0,_,acc=>acc
 |j+1,k,acc=>Bc0 G j (k+1) (if(G k).2≠0 then acc++[(k:Int)]else acc)
def smF(w:Nat)(y:List UInt8×Int):List Int32:=if y.2≠0 then []else sxs (wB (w:Int)) (y.1.length/wB (w:Int)) y.1
section
variable {b p:List UInt8} {f c w r n A:Nat} {l:List Int} (o:Opn b p f c w r n A l)
include o
theorem Bef{k m:Nat}{x:List Int32}{s:List UInt8}(g:Gts b p f c w r n A l k m x s 0):Te (w:Int) s=some (smF w (s,0),0)∧Uw (w:Int) s=some (smF w (s,0),0)∧(smF w (s,0)).length=m*c:=by
 obtain⟨hc,hw,hr,hn,_⟩:=Alg o.shape
 have hwb:=Bd5 (w:Int)
 have hl:=(g.lens hw).2.2 rfl
 have hm:=g.pos
 have e:s.length/wB (w:Int)=m*c:=by rw[hl,Nat.mul_div_cancel _ (by omega)]
 rw[smF,if_neg (by simp),e]
 exact⟨Blt s hw hl hm.2,Bp3 s hw hl hm.2,Bfa _ _ _⟩
theorem Bn1:∀(j k q:Nat) (acc:List Int),k+j=l.length→j<q→acc.length≤k→
  Mt b p (framesL (longN r) n) (f:Int) (c:Int) (w:Int) (r:Int) (n:Int) (A:Int) l q (k:Int) acc=some (Bc0 (Adg b p f c w r n A l) j k acc,0)
 |0,k,q+1,acc,hk,_,_=>by
  rw[Mt,Acz,if_neg (by rw[Af,Ac,←o.len];simp;omega),Akk,Akd,Qc,Avj,if_neg (by rw[Aj];simp)];rfl
 |j+1,k,q+1,acc,hk,hq,ha=>by
  have hs1:=o.some1
  obtain⟨m,x,s,e,g⟩:=Aw7 o k (by omega)
  have hf:=Bj1 o (by omega) g
  have hnext:∀acc2:List Int,acc2.length≤k+1→Ads (Mt b p (framesL (longN r) n) (f:Int) (c:Int) (w:Int) (r:Int) (n:Int) (A:Int) l q) b p (framesL (longN r) n) (f:Int) (c:Int) (w:Int) (r:Int) (n:Int) (A:Int) l (k:Int) acc2=some (Bc0 (Adg b p f c w r n A l) j (k+1) acc2,0):=by
   intro acc2 h2
   rw[Ads,Ak9,if_neg (by rw[Aj];simp),Al0,Auk,Ag (by omega) (by omega)]
   exact Bn1 j (k+1) q acc2 (by omega) (by omega) h2
  rw[Mt,Acz,if_pos (by rw[Af,Ac,←o.len];simp;omega),g.mom,Aa,Aa,hf,Aa,Bc0,g.eq]
  simp only
  by_cases he:e=0
  ·subst he
   obtain⟨s1,_,_⟩:=Bef o g
   rw[if_pos (by decide),s1,Aa]
   simp only
   rw[if_neg (by rw[Aj];simp),Abo,Adj,if_neg (by decide),if_neg (by simp)]
   exact hnext acc (by omega)
  ·rw[if_neg (by rw[Bb];simpa using he),Abo,Adj,if_pos (by rw[Bb];simpa using he),Bt (by simp;omega),Aa,if_pos he]
   exact hnext _ (by simp;omega)
theorem Cba:Wa b p=some (Bc0 (Adg b p f c w r n A l) l.length 0 [],0):=by
 have hs1:=o.some1
 rw[Wa,Ao9,o.prog,Aa]
 simp only
 rw[if_neg (by rw[Aj];simp),Anx o.shape o.fit,Aa]
 simp only
 rw[if_neg (by rw[Aj];simp)]
 exact Bn1 o l.length 0 Al [] (by omega) (by have:=Ak;omega) (by simp)
end
end Go.Pl
set_option linter.unusedVariables false
set_option linter.unusedSimpArgs false
namespace Go.Pl
open Go Go.Lv
theorem Bcc(z:Int):(u8 z).toNat=(z %256).toNat:=by
 have:(z %256).toNat<256:=by omega
 rw[u8,UInt8.toNat_ofNat',Nat.mod_eq_of_lt (by omega)]
theorem Bis{bits:Int}(h:BitsOk bits):∀(l:List Int32) (i j:Nat),i<l.length→j<wB bits→(bytesB bits l).getD (i*wB bits+j) 0=(Aex bits (l.getD i 0).toInt).getD j 0
 |[],i,j,hi,_=>by simp at hi
 |x::l,0,j,_,hj=>by
  have h1:=Bcr h x.toInt
  have e:bytesB bits (x::l)=Aex bits x.toInt++bytesB bits l:=by simp[bytesB]
  rw[e,Nat.zero_mul,Nat.zero_add,List.getD_eq_getElem?_getD,List.getD_eq_getElem?_getD,List.getElem?_append_left (by omega)];rfl
 |x::l,i+1,j,hi,hj=>by
  have h1:=Bcr h x.toInt
  have e:bytesB bits (x::l)=Aex bits x.toInt++bytesB bits l:=by simp[bytesB]
  have ih:=Bis h l i j (by simpa using hi) hj
  have e2:(i+1)*wB bits+j=(Aex bits x.toInt).length+(i*wB bits+j):=by rw[Nat.add_mul,Nat.one_mul,h1];omega
  rw[e,e2,List.getD_eq_getElem?_getD,List.getElem?_append_right (by omega),Nat.add_sub_cancel_left,←List.getD_eq_getElem?_getD,ih];rfl
theorem Cga{bits:Int}(h:BitsOk bits)(l:List Int32)(hr:inR bits l)(i:Nat)(hi:i<l.length):Int32.ofInt (sx (wB bits) (bytesB bits l) (i*wB bits))=l.getD i 0:=by
 have hm:l.getD i 0∈l:=by rw[List.getD_eq_getElem?_getD,List.getElem?_eq_getElem hi];exact List.getElem_mem hi
 have hv:=hr _ hm
 have g:∀j,j<wB bits→Lo (bytesB bits l) (i*wB bits+j)=((Aex bits (l.getD i 0).toInt).getD j 0).toNat:=fun j hj=>by rw[Lo,Bis h l i j hi hj]
 generalize l.getD i 0=x at*
 have key:sx (wB bits) (bytesB bits l) (i*wB bits)=x.toInt:=by
  generalize hA:i*wB bits=a at*
  obtain rfl|rfl|rfl:=h
  ·have g0:=g 0 (by decide)
   have e1:(Aex 8 x.toInt).getD 0 0=u8 (x.toInt+128):=rfl
   rw[Nat.add_zero,e1,Bcc]at g0
   simp only[hB]at hv
   simp at hv
   have e2:wB 8=1:=rfl
   rw[e2,sx,if_pos rfl,g0];omega
  ·have g0:=g 0 (by decide)
   have g1:=g 1 (by decide)
   have e0:(Aex 16 x.toInt).getD 0 0=u8 x.toInt:=rfl
   have e1:(Aex 16 x.toInt).getD 1 0=u8 (x.toInt/256):=rfl
   rw[Nat.add_zero,e0,Bcc]at g0
   rw[e1,Bcc]at g1
   simp only[hB]at hv
   simp at hv
   have e2:wB 16=2:=rfl
   rw[e2,sx2,g0,g1]
   split<;>omega
  ·have g0:=g 0 (by decide)
   have g1:=g 1 (by decide)
   have g2:=g 2 (by decide)
   have e0:(Aex 24 x.toInt).getD 0 0=u8 x.toInt:=rfl
   have e1:(Aex 24 x.toInt).getD 1 0=u8 (x.toInt/256):=rfl
   have e3:(Aex 24 x.toInt).getD 2 0=u8 (x.toInt/65536):=rfl
   rw[Nat.add_zero,e0,Bcc]at g0
   rw[e1,Bcc]at g1
   rw[e3,Bcc]at g2
   simp only[hB]at hv
   simp at hv
   have e2:wB 24=3:=rfl
   rw[e2,sx3,g0,g1,g2]
   split<;>omega
 rw[key];simp
theorem Caa{bits:Int}(h:BitsOk bits)(l:List Int32)(hr:inR bits l):sxs (wB bits) l.length (bytesB bits l)=l:=by
 refine List.ext_getElem (Bfa _ _ _) fun i h1 h2=>?_
 have:=Cga h l hr i h2
 simp only[sxs,List.getElem_map,List.getElem_range]
 rw[this,List.getD_eq_getElem?_getD,List.getElem?_eq_getElem h2];rfl
theorem Gts.smp{b p:List UInt8}{f c w r n A:Nat}{l:List Int}{k m:Nat}{x:List Int32}{s:List UInt8}{e:Int}(hw:BitsOk (w:Int))(g:Gts b p f c w r n A l k m x s e):smF w (s,e)=x:=by
 have hwb:=Bd5 (w:Int)
 by_cases he:e=0
 ·obtain⟨h1,h2,h3,_⟩:=g.some' he
  have h4:=g.pos
  have h5:=Aus hw x
  rw[smF,if_neg (by simpa using he)]
  simp only
  rw[h1,h5,Nat.mul_div_cancel _ (by omega)]
  exact Caa hw x (Aw1 hw (by omega) h3)
 ·rw[smF,if_pos he,(g.none' he).2]
end Go.Pl
set_option linter.unusedVariables false
set_option linter.unusedSimpArgs false
namespace Go.Pl
open Go Go.Lv
abbrev C5:=Int×Int×Int×List Int32×Int
def Ckb(e:Int):C5:=(0,0,0,[],e)
theorem Bzu{seg p:List UInt8}(hs:seg.length=8)(hp:p.length≤64):Wl seg p=some (seg==Qv (Aaa p).toNat 8,0):=by
 rw[Wl,Bdc p hp,Aa]
 simp only
 rw[if_neg (by rw[Aj,Aj,Ac,Ac,Bq,hs];simp),Hc,Aa]
def Ce3(X:Nat→List Int32)(E:Nat→Int)(be:Int):Nat→Nat→List Int32→List Int32×Int
 |0,_,acc=>if be≠0 then([],38)else(acc,0)
 |j+1,k,acc=>if E k≠0 then([],E k)else Ce3 X E be j (k+1) (acc++X k)
def Bo9(c w r:Nat)(y:List Int32×Int):C5:=if y.2≠0 then Ckb y.2 else((c:Int),(w:Int),(r:Int),y.1,0)
section
variable {b p:List UInt8} {f c w r n A:Nat} {l:List Int} (o:Opn b p f c w r n A l)
include o
theorem Bc5(a1 a2 a3 a4:Int):∀(j k q:Nat) (acc:List Int32),k+j=l.length→j<q→(k=l.length→(A:Int)+l.sum≤b.length)→acc.length≤4000*k→
  Qs b l (f:Int) (c:Int) (w:Int) (r:Int) (n:Int) a1 a2 a3 (A:Int) a4 (tapsOf p) (framesL (longN r) n) q ((A:Int)+(l.take k).sum) (k:Int) acc=
   some (Bo9 c w r (Ce3 (fun k=>smF w (Adg b p f c w r n A l k)) (fun k=>(Adg b p f c w r n A l k).2) (Cjg b A l) j k acc))
 |0,k,q+1,acc,hk,_,hfit,_=>by
  have hA:=o.at'
  have hfile:=o.file
  have hs1:=o.some1
  have hsum:=o.sum
  have b1:=Mr o.five l.length
  have hf:=hfit (by omega)
  obtain rfl:k=l.length:=by omega
  rw[List.take_length]at b1⊢
  rw[Qs,Acj,if_neg (by rw[Af,Ac];simp),Ame,Auy,Qe (by omega) (by omega),Aa,Bpr _ (by rw[List.length_drop];omega),Aa,Ce3,Cjg]
  generalize Bfe (b.drop ((A:Int)+l.sum).toNat)=v
  obtain⟨v1,v2⟩:=v
  simp only
  by_cases hv:v2≠0
  ·rw[if_pos hv,if_pos (by rw[Aj];simpa using hv),Bo9,if_pos (by simp)];rfl
  ·rw[if_neg hv,if_neg (by rw[Aj];simpa using hv),Bo9,if_neg (by simp)]
 |j+1,k,q+1,acc,hk,hq,hfit,hacc=>by
  have hA:=o.at'
  have hfile:=o.file
  have hs1:=o.some1
  have hsum:=o.sum
  have b1:=Mr o.five k
  have b2:=Mr o.five (k+1)
  have hkl:k<l.length:=by omega
  have e2:=Hn hkl
  have h5:=o.five l[k] (List.getElem_mem _)
  obtain⟨m,x,s,e,g⟩:=Aw7 o k hkl
  obtain⟨hc,hw,hr,hn,_⟩:=Alg o.shape
  have hl:=g.lens hw
  rw[Qs,Acj,if_pos (by rw[Af,Ac];simp;omega),Bu hkl,Aa,Aa,Ag (a:=(A:Int)+(l.take k).sum) (by omega) (by omega),Int.add_assoc,←e2,Ac,Ce3,g.eq]
  simp only
  rcases g.way with⟨h1,h2⟩|⟨h1,h2,_⟩
  ·rw[if_pos (by rw[Af,decide_eq_true_eq];omega),if_pos (by rw[h2];simp),h2,Bo9,if_pos (by simp)];rfl
  ·rw[if_neg (by rw[Af,decide_eq_true_eq];omega),g.mom]
   simp only[Aa]
   rw[Ww (by omega) (by omega) (by omega),Aa,show(b.take ((A:Int)+(l.take (k+1)).sum).toNat).drop ((A:Int)+(l.take k).sum).toNat=segF b A l k from rfl,h2,Aa]
   simp only
   rw[Akc,Awi]
   by_cases he:e≠0
   ·rw[if_pos (by rw[Aj];simpa using he),if_pos he,Bo9,if_pos he];rfl
   ·have he0:e=0:=by simpa using he
    have hfit2:=(g.some' he0).2.2.2.2
    rw[if_neg (by rw[Aj];simpa using he),if_neg he,g.smp hw,Bt (by omega),Aa,Ag (a:=(A:Int)+(l.take k).sum) (by omega) (by omega),Int.add_assoc,←e2,Ag (by omega) (by omega)]
    exact Bc5 a1 a2 a3 a4 j (k+1) q (acc++x) (by omega) (by omega) (fun h=>by rw[h,List.take_length]at hfit2;exact hfit2) (by rw[List.length_append];omega)
end
end Go.Pl
set_option linter.unusedVariables false
set_option linter.unusedSimpArgs false
namespace Go.Pl
open Go Go.Lv
def Ckd(b:List UInt8):List Int:=framesL (longN (f3 (hdr b))) (f4 (hdr b))
end Go.Pl
set_option linter.unusedVariables false
set_option linter.unusedSimpArgs false
namespace Go.Pl
open Go Go.Lv
end Go.Pl
set_option linter.unusedVariables false
set_option linter.unusedSimpArgs false
namespace Go.Pl
open Go Go.Lv
theorem Bsn{ch:Nat}{bits:Int}(hb:BitsOk bits)(h1:1≤ch)(h6:ch≤6):Eg (ch:Int) bits=some 0:=by
 have hr:∃x y,Oc bits=some (x,y,0):=⟨_,_,Bf7 hb⟩
 obtain⟨x,y,hr⟩:=hr
 rw[Eg,hr,Aa]
 simp only
 rw[if_neg (by simp[Aj,Af,Am];omega)]
theorem Btm{ch m:Nat}{bits:Int}(hb:BitsOk bits)(h1:1≤ch)(h6:ch≤6)(hm:1≤m∧m*ch≤4000):Yx (ch:Int) bits (m:Int)=some (List.replicate (m*ch) 0,0):=by
 have hmc:m≤4000/ch:=(Nat.le_div_iff_mul_le (by omega)).2 hm.2
 have e:(m:Int)*(ch:Int)=((m*ch:Nat):Int):=by simp
 have hg:Ar (m:Int) (ch:Int)=((m*ch:Nat):Int):=by rw[Fq (by omega) (by omega),e]
 have hq4:=Bbd h1 h6
 generalize 4000/ch=mm at*
 rw[Yx,Apa,Bsn hb h1 h6,Aa,if_neg (by rw[Aj];simp),if_neg (by rw[Af];simp;omega),Ay (by rw[Aj];simp;omega),Aa,hq4,if_neg (by rw[Am];simp;omega),Aa,if_neg (by rw[Aj];simp),hg,Ayj (by omega) (by omega),Aa,Ay (by rw[Bb];simp),Aa,Int.toNat_natCast]
def Ahx(kind c w:Nat)(fr:List Int)(G:Nat→List UInt8×Int)(k:Nat):List Int32:=
 if(G k).2≠0 then(if kind=2 then List.replicate ((fr.getD k 0).toNat*c) 0 else [])else smF w (G k)
def Bjl(kind c w:Nat)(fr:List Int)(G:Nat→List UInt8×Int):Nat→Nat→List Int32→List Int32
 |0,_,acc=>acc
 |j+1,k,acc=>Bjl kind c w fr G j (k+1) (acc++Ahx kind c w fr G k)
abbrev P6':=Int×Int×Int×List Int32×List Int×Int
def Byv(e:Int):P6':=(0,0,0,[],[],e)
def Cdm(b p:List UInt8)(f c w r n A:Nat)(l:List Int)(kind:Nat):P6':=
 if Bjl kind c w (framesL (longN r) n) (Adg b p f c w r n A l) l.length 0 []=[]then Byv 6 else((c:Int),(w:Int),(r:Int),Bjl kind c w (framesL (longN r) n) (Adg b p f c w r n A l) l.length 0 [],Bc0 (Adg b p f c w r n A l) l.length 0 [],0)
section
variable {b p:List UInt8} {f c w r n A:Nat} {l:List Int} (o:Opn b p f c w r n A l)
include o
theorem Bwj{kind k m:Nat}{x:List Int32}{s:List UInt8}{e:Int}(g:Gts b p f c w r n A l k m x s e):(Ahx kind c w (framesL (longN r) n) (Adg b p f c w r n A l) k).length≤4000∧((framesL (longN r) n).getD k 0).toNat=m:=by
 obtain⟨hc,hw,hr,hn,_⟩:=Alg o.shape
 have hm:=g.mom
 have hp:=g.pos
 have e1:(framesL (longN r) n).getD k 0=(m:Int):=by
  have:getI (framesL (longN r) n) (k:Int)=(framesL (longN r) n)[k]? :=by simp[getI]
  rw[this]at hm
  rw[List.getD_eq_getElem?_getD,hm];rfl
 refine⟨?_,by rw[e1];omega⟩
 rw[Ahx,g.eq,e1]
 by_cases he:e≠0
 ·rw[if_pos he]
  split
  ·simpa using hp.2
  ·simp
 ·rw[if_neg he,g.smp hw];exact(g.lens hw).2.1
theorem Bpk(kind:Nat)(hk2:kind=1∨kind=2):∀(j k q:Nat) (bad:List Int) (acc:List Int32),k+j=l.length→j<q→bad.length≤k→acc.length≤4000*k→
  Hv b p (framesL (longN r) n) 0 (kind:Int) (c:Int) (w:Int) (r:Int) (f:Int) (c:Int) (w:Int) (r:Int) (n:Int) (A:Int) l q (k:Int) bad acc=
   Gl (c:Int) (w:Int) (r:Int) 0 (Bc0 (Adg b p f c w r n A l) j k bad) (Bjl kind c w (framesL (longN r) n) (Adg b p f c w r n A l) j k acc)
 |0,k,q+1,bad,acc,hk,_,_,_=>by
  rw[Hv,Up,if_neg (by rw[Af,Ac,←o.len];simp;omega)];rfl
 |j+1,k,q+1,bad,acc,hk,hq,hb,ha=>by
  obtain⟨hc,hw,hr,hn,_⟩:=Alg o.shape
  have hs1:=o.some1
  obtain⟨m,x,s,e,g⟩:=Aw7 o k (by omega)
  have hf:=Bj1 o (by omega) g
  obtain⟨hpl,hfm⟩:=Bwj o (kind:=kind) g
  have hpiece:Ahx kind c w (framesL (longN r) n) (Adg b p f c w r n A l) k=if e≠0 then(if kind=2 then List.replicate (m*c) 0 else [])else smF w (s,e):=by rw[Ahx,g.eq,hfm]
  have hnext:∀(bad2:List Int) (acc2:List Int32),bad2.length≤k+1→acc2.length≤4000*(k+1)→Ku (Hv b p (framesL (longN r) n) 0 (kind:Int) (c:Int) (w:Int) (r:Int) (f:Int) (c:Int) (w:Int) (r:Int) (n:Int) (A:Int) l q) b p (framesL (longN r) n) 0 (kind:Int) (c:Int) (w:Int) (r:Int) (f:Int) (c:Int) (w:Int) (r:Int) (n:Int) (A:Int) l (k:Int) 0 bad2 acc2=
    Gl (c:Int) (w:Int) (r:Int) 0 (Bc0 (Adg b p f c w r n A l) j (k+1) bad2) (Bjl kind c w (framesL (longN r) n) (Adg b p f c w r n A l) j (k+1) acc2):=by
   intro bad2 acc2 h2 h3
   rw[Ku,Adx,if_neg (by rw[Aj];simp),Ab9,Ann,Ag (by omega) (by omega)]
   exact Bpk kind hk2 j (k+1) q bad2 acc2 (by omega) (by omega) h2 h3
  rw[hpiece]at hpl
  rw[Hv,Up,if_pos (by rw[Af,Ac,←o.len];simp;omega),g.mom,Aa,Aa,hf,Aa,Bc0,Bjl,g.eq,hpiece]
  simp only
  by_cases he:e=0
  ·subst he
   obtain⟨s1,_,_⟩:=Bef o g
   rw[if_neg (by simp)]at hpl
   rw[if_pos (by decide),s1,Aa]
   simp only
   rw[if_neg (by rw[Aj];simp),Ul,Un,if_neg (by decide),Uo,Um,Bt (by omega),Aa,if_neg (by simp),if_neg (by simp)]
   exact hnext bad _ (by omega) (by rw[List.length_append];omega)
  ·rw[if_pos he]at hpl
   rw[if_neg (by rw[Bb];simpa using he),Ul,Un,if_pos (by rw[Bb];simpa using he),Bt (by simp;omega),Aa,if_pos he,if_pos he]
   rcases hk2 with rfl|rfl
   ·rw[if_neg (by rw[Bb];decide),Uo,Um,Bt (by simp;omega),Aa,if_neg (by omega)]
    exact hnext _ _ (by simp;omega) (by simp;omega)
   ·rw[if_pos (by rw[Bb];decide),Btm hw hc.1 hc.2 g.pos,Aa]
    simp only
    rw[if_pos rfl]at hpl
    rw[if_neg (by rw[Aj];simp),Aby,Abz,Bt (by omega),Aa,if_pos trivial]
    exact hnext _ _ (by simp;omega) (by rw[List.length_append];omega)
theorem Boa(kind:Nat)(hk2:kind=1∨kind=2):Fs b p (kind:Int)=some (Cdm b p f c w r n A l kind):=by
 have hs1:=o.some1
 have h:=Bpk o kind hk2 l.length 0 Al [] [] (by omega) (by have:=Ak;omega) (by simp) (by simp)
 rw[Fs,Ae1,if_neg (by simp[Af,Am];omega),if_neg (by rw[Bb];simp;omega),o.prog,Aa]
 simp only
 rw[if_neg (by rw[Aj];simp),Aa]
 simp only
 rw[if_neg (by rw[Aj];simp),Anx o.shape o.fit,Aa]
 simp only
 rw[if_neg (by rw[Aj];simp),Acm]
 refine Eq.trans h ?_
 rw[Gl,Uf,if_neg (by rw[Aj];simp),Cdm]
 by_cases h2:Bjl kind c w (framesL (longN r) n) (Adg b p f c w r n A l) l.length 0 []=[]
 ·rw[if_pos h2,if_pos (by rw[h2];decide)];rfl
 ·rw[if_neg h2,if_neg (by rw[Bb,Ac];simpa using h2)]
end
theorem Bd9(l:List Int32)(hl:l.length≤4000000):∀(j i q:Nat),i+j=l.length→j<q→Hg l l q (i:Int)=some true
 |0,i,q+1,hi,_=>by
  rw[Hg,Of,if_neg (by rw[Af,Ac];simp;omega)];rfl
 |j+1,i,q+1,hi,hq=>by
  rw[Hg,Of,if_pos (by rw[Af,Ac];simp;omega),Bu (by omega),Aa,Aa,if_neg (by rw[Cd5];simp),Ag (by omega) (by omega)]
  exact Bd9 l hl j (i+1) q (by omega) (by omega)
theorem Cid(l:List Int32)(hl:l.length≤4000000):Uj l l=some true:=by
 rw[Uj,Vj,if_neg (by rw[Aj];simp)]
 exact Bd9 l hl l.length 0 Al (by omega) (by have:=Ak;omega)
theorem Ca1(a b c:Int)(l:List Int32)(hl:l.length≤4000000):Bj a b c l a b c l=some true:=by
 have e:∀a:Int,geq a a=true:=fun a=>by rw[Bb];simp
 rw[Bj,e,e,e,if_pos (by decide),Cid l hl,Aa]
end Go.Pl
set_option linter.unusedVariables false
set_option linter.unusedSimpArgs false
namespace Go.Pl
open Go Go.Lv
end Go.Pl
set_option linter.unusedVariables false
set_option linter.unusedSimpArgs false
namespace Go.Pl
open Go Go.Lv
theorem Bwa(g:Nat):∀K:Nat,(List.replicate K (g:Int)).sum=((K*g:Nat):Int)
 |0=>by simp
 |K+1=>by
  rw[List.replicate_succ,List.sum_cons,Bwa g K,Nat.succ_mul];omega
theorem Bo5{g n:Nat}(hn:1≤n):(framesL g n).sum=(n:Int):=by
 have h:=Nat.div_mul_le_self (n-1) g
 rw[framesL,List.sum_append,Bwa]
 simp only[List.sum_cons,List.sum_nil]
 omega
theorem Bsj:∀{l:List Int},(∀x∈l,0≤x)→0≤l.sum
 |[],_=>by simp
 |x::l,h=>by
  have h1:=h x List.mem_cons_self
  have h2:=Bsj (l:=l) fun y hy=>h y (List.mem_cons_of_mem _ hy)
  rw[List.sum_cons];omega
theorem Blw{l:List Int}(h:∀x∈l,0≤x)(i:Nat):0≤(l.take i).sum∧(l.take i).sum≤l.sum:=by
 have h1:=Bsj (l:=l.take i) fun x hx=>h x (List.mem_of_mem_take hx)
 have h2:=Bsj (l:=l.drop i) fun x hx=>h x (List.mem_of_mem_drop hx)
 have:=Bj9 l i
 omega
end Go.Pl
set_option linter.unusedVariables false
set_option linter.unusedSimpArgs false
namespace Go.Pl
open Go Go.Lv
theorem Bkx{bits:Int}(h:BitsOk bits){l:List Int32}(hl:l.length≤4000)(hr:inR bits l):cadenzaref18_Check bits l=some 0:=by
 have hh:=Ah0 bits
 have key:∀(j i q:Nat),i+j=l.length→j<q→As l (hB bits) q (i:Int)=some 0:=by
  intro j
  induction j with
  |zero=>
   intro i q hi hq
   obtain⟨q,rfl⟩:∃k,q=k+1:=⟨q-1,by omega⟩
   rw[As,Cd,if_neg (by rw[Af,Ac];simp;omega)];rfl
  |succ j ih=>
   intro i q hi hq
   obtain⟨q,rfl⟩:∃k,q=k+1:=⟨q-1,by omega⟩
   have hx:=hr l[i] (List.getElem_mem (by omega))
   rw[As,Cd,if_pos (by rw[Af,Ac];simp;omega),Bu (by omega),Aa,Aa,El,Bmx,Cc (by omega) (by omega),Ag (by omega) (by omega),Af,Cl,if_neg (by simp;omega),if_neg (by simp;omega)]
   exact ih (i+1) q (by omega) (by omega)
 rw[cadenzaref18_Check,Cx,Ak2 h,Aa,if_neg (by rw[Bb];simp;omega),if_neg (by rw[Am,Ac];simp;omega)]
 exact key l.length 0 Al (by omega) (by have:=Ak;omega)
def Azn{α:Type}(G:Nat→List α):Nat→Nat→List α
 |0,_=>[]
 |j+1,k=>G k++Azn G j (k+1)
theorem Bn5{α:Type}(G:Nat→List α):∀(i j k:Nat),Azn G (i+j) k=Azn G i k++Azn G j (k+i)
 |0,j,k=>by simp[Azn]
 |i+1,j,k=>by
  rw[show i+1+j=(i+j)+1 by omega,Azn,Azn,Bn5 G i j (k+1),List.append_assoc,show k+1+i=k+(i+1) by omega]
end Go.Pl
set_option linter.unusedVariables false
set_option linter.unusedSimpArgs false
namespace Go.Pl
open Go Go.Lv
def Km(bits:Int)(ch:Nat)(t x:List Int32):List UInt32:=evl bits ch t (mx ch x) x.length
def Al6(bits:Int)(ch:Nat)(t x:List Int32):List UInt8:=Jq (Pd ch (Km bits ch t x) x.length)
def Nk(bits:Int)(ch:Nat)(t x:List Int32):List UInt8:=Al6 bits ch t x++Qv (Cp (Al6 bits ch t x)).toNat 4
theorem Bo8(bits:Int)(ch:Nat)(t x:List Int32)(h0:1≤x.length)(h4:x.length≤4000):1≤(Al6 bits ch t x).length∧(Al6 bits ch t x).length≤40501:=by
 have h:=Avd ch (Km bits ch t x) x.length
 obtain⟨k,hk⟩:∃k,x.length=k+1:=⟨x.length-1,by omega⟩
 have h1:1≤(Pd ch (Km bits ch t x) x.length).length:=by
  rw[hk,Pd,List.length_append]
  have hn:=Bmw ch ((Km bits ch t x).take k)
  have:=Aqm ((Km bits ch t x).getD k 0) hn.1 hn.2
  omega
 rw[Al6,Wc]
 omega
theorem Bfu(bits:Int)(ch:Nat)(t x:List Int32)(h0:1≤x.length)(h4:x.length≤4000):5≤(Nk bits ch t x).length∧(Nk bits ch t x).length≤40505:=by
 have:=Bo8 bits ch t x h0 h4
 rw[Nk,List.length_append,Bq]
 omega
theorem Bj5(bits:Int)(ch:Nat)(t x:List Int32)(h0:1≤x.length)(h4:x.length≤4000):Nj (Nk bits ch t x)=0∧(Nk bits ch t x).take ((Nk bits ch t x).length-4)=Al6 bits ch t x:=by
 have h:=Bfu bits ch t x h0 h4
 have hl:(Nk bits ch t x).length-4=(Al6 bits ch t x).length:=by rw[Nk,List.length_append,Bq];omega
 have h1:(Nk bits ch t x).take ((Nk bits ch t x).length-4)=Al6 bits ch t x:=by rw[hl,Nk,List.take_left]
 have h2:(Nk bits ch t x).drop ((Nk bits ch t x).length-4)=Qv (Cp (Al6 bits ch t x)).toNat 4:=by rw[hl,Nk,List.drop_left]
 have hlt:=(Cp (Al6 bits ch t x)).toNat_lt
 refine⟨?_,h1⟩
 rw[Nj,if_neg (by omega),if_neg (by omega),h1,h2,Yp,Nat.mod_eq_of_lt (by omega),if_neg (by simp)]
theorem Btd{bits:Int}{ch n:Nat}{t x:List Int32}(hb:BitsOk bits)(ht:t.length=16)(h1:1≤ch)(h6:ch≤6)(n1:1≤n)(n2:n≤4000/ch)(hx:x.length=n*ch)(hr:inR bits x):
  deframe_Decode (ch:Int) bits t (n:Int) (Nk bits ch t x)=some (x,0)∧cadenzaref21_Decode (ch:Int) bits t (n:Int) (Nk bits ch t x)=some (x,0):=by
 have hn:n*ch≤4000:=by
  have:=Nat.mul_le_mul_right ch n2
  have h2:=Nat.div_mul_le_self 4000 ch
  omega
 have hq4:=Bbd h1 h6
 have hx1:1≤x.length:=by rw[hx];exact Nat.mul_pos n1 h1
 have key:cadenzaref21_Decode (ch:Int) bits t (n:Int) (Nk bits ch t x)=some (x,0):=by
  generalize 4000/ch=mm at*
  have hh:=Ah0 bits
  have hasked:Cw (ch:Int) bits (n:Int)=some 0:=by
   rw[Cw,Ck,if_neg (by simp[Af,Am];omega),Ak2 hb,Aa,if_neg (by rw[Bb];simp;omega),Aa,if_neg (by simp[Aj,Af];omega),Ay (by rw[Aj];simp;omega),Aa,hq4,if_neg (by rw[Am];simp;omega)]
  have hlen:=Bfu bits ch t x hx1 (by omega)
  obtain⟨hs,htk⟩:=Bj5 bits ch t x hx1 (by omega)
  have hpl:=Bo8 bits ch t x hx1 (by omega)
  have e4:Ah (Ac (Nk bits ch t x)) 4=(((Nk bits ch t x).length-4:Nat):Int):=by rw[Ac,Bc (by omega) (by omega)];omega
  have hVl:(Km bits ch t x).length=x.length:=Axg _ _ _ _ _
  have hEl:=Wc (Pd ch (Km bits ch t x) x.length)
  have hvb:=Bkg ch (Km bits ch t x) (8*(Al6 bits ch t x).length) (by rw[hVl,Al6,hEl];omega) (n*ch) 0 (by omega)
  rw[hVl]at hvb
  have hread:=Buk (N:=8*(Al6 bits ch t x).length) (p:=Al6 bits ch t x) rfl (by omega) h1 h6 hn
  have hvb':Wq ch (Al6 bits ch t x) (8*(Al6 bits ch t x).length) (n*ch) 0 []=(Km bits ch t x,(Pd ch (Km bits ch t x) x.length).length,0):=hvb
  have hz:Bk (Al6 bits ch t x) (Pd ch (Km bits ch t x) x.length).length (8*(Al6 bits ch t x).length-(Pd ch (Km bits ch t x) x.length).length)=0:=by
   apply Bco
   intro k _
   rw[Al6,Aa1,Bmc (by omega)]
  have hgap:¬7<8*(Al6 bits ch t x).length-(Pd ch (Km bits ch t x) x.length).length:=by rw[Al6,hEl];omega
  rw[hvb']at hread
  simp only at hread
  rw[if_neg (by decide),if_neg (by rw[hz];simp;omega)]at hread
  have hm:(Km bits ch t x).length %ch=0:=by rw[hVl,hx];exact Nat.mul_mod_left n ch
  have hund:=Bk3 (v:=Km bits ch t x) hb ht h1 h6 (by omega) hm
  have hsm:smp bits ch t (Km bits ch t x)=mx ch x:=by
   have:=Cev bits ch t (mx ch x)
   rw[Alr]at this
   exact this
  rw[hsm,Cht h1 (by rw[hx];exact Nat.mul_mod_left n ch)]at hund
  rw[cadenzaref21_Decode,Lr,hasked,Aa,if_neg (by rw[Aj];simp),Ayz,Aa,hs,if_neg (by decide),e4,Kt (by omega) (by omega),Aa,Int.toNat_natCast,htk,hread,Aa]
  simp only
  rw[Ls,Md,if_neg (by decide),hund,Aa,Pn,Bkx hb (by omega) hr,Aa,if_neg (by decide)]
  rfl
 obtain⟨l,e,d1,d2,_,_⟩:=Amz (Nk bits ch t x) hb ht h1 h6 n1 n2
 rw[key]at d2
 cases d2
 exact⟨d1,key⟩
end Go.Pl
set_option linter.unusedVariables false
set_option linter.unusedSimpArgs false
namespace Go.Pl
open Go Go.Lv
theorem Byw{a b:Nat}(ha:a<2^32)(hb:b<2^32)(h:Ady a=Ady b):a=b:=by
 have key:∀s:Nat,s<2^32→(Ady s).testBit 31=decide (s %2=1)∧(∀i,i<31→(Ady s).testBit i=((s/2).testBit i^^ (decide (s %2=1)&&(3988292384:Nat).testBit i))):=by
  intro s hs
  have h31:(s/2).testBit 31=false:=Nat.testBit_lt_two_pow (by omega)
  rcases Nat.mod_two_eq_zero_or_one s with e|e
  ·refine⟨?_,fun i _=>?_⟩<;>rw[Ady,if_neg (by omega),Nat.xor_zero]
   ·rw[h31];simp[e]
   ·simp[e]
  ·refine⟨?_,fun i _=>?_⟩<;>rw[Ady,if_pos e,Nat.testBit_xor]
   ·rw[h31];simp[e];decide
   ·simp[e]
 obtain⟨a1,a2⟩:=key a ha
 obtain⟨b1,b2⟩:=key b hb
 rw[h,b1]at a1
 have hm:a %2=b %2:=by
  have:(b %2=1)=(a %2=1):=by simpa using a1
  rcases Nat.mod_two_eq_zero_or_one a with e|e<;>rcases Nat.mod_two_eq_zero_or_one b with e'|e'<;>simp_all
 have hd:a/2=b/2:=by
  apply Nat.eq_of_testBit_eq
  intro i
  by_cases hi:i<31
  ·have e1:=a2 i hi
   have e2:=b2 i hi
   rw[h,e2,hm]at e1
   cases hx:(a/2).testBit i<;>cases hy:(b/2).testBit i<;>simp_all
  ·rw[Nat.testBit_lt_two_pow (show a/2<2^i from Nat.lt_of_lt_of_le (by omega:a/2<2^31) (Nat.pow_le_pow_right (by omega) (by omega))),Nat.testBit_lt_two_pow (show b/2<2^i from Nat.lt_of_lt_of_le (by omega:b/2<2^31) (Nat.pow_le_pow_right (by omega) (by omega)))]
 omega
theorem Bcy{s:Nat}(h:s<2^32):Ady s<2^32:=by
 unfold Ady
 exact Nat.xor_lt_two_pow (n:=32) (by omega) (by split<;>decide)
theorem Aju:∀(k:Nat) {s:Nat},s<2^32→Sr k s<2^32
 |0,_,h=>h
 |k+1,_,h=>Aju k (Bcy h)
theorem Bb2:∀(k:Nat) {a b:Nat},a<2^32→b<2^32→Sr k a=Sr k b→a=b
 |0,_,_,_,_,h=>h
 |k+1,_,_,ha,hb,h=>Byw ha hb (Bb2 k (Bcy ha) (Bcy hb) h)
theorem Adh{a b:Nat}(ha:a<2^32)(hb:b<2^32):a^^^b<2^32:=Nat.xor_lt_two_pow ha hb
theorem Ba2{a b c:Nat}(h:a^^^c=b^^^c):a=b:=by
 have:=congrArg (· ^^^c) h
 simpa [Nat.xor_assoc]using this
theorem Bry:∀(l:List UInt8) {a b:Nat},a<2^32→b<2^32→Aps a l=Aps b l→a=b
 |[],_,_,_,_,h=>h
 |c::l,a,b,ha,hb,h=>by
  have hc:=c.toNat_lt
  have h1:Anz a c.toNat<2^32:=Aju 8 (Adh ha (by omega))
  have h2:Anz b c.toNat<2^32:=Aju 8 (Adh hb (by omega))
  have h3:Anz a c.toNat=Anz b c.toNat:=Bry l h1 h2 h
  exact Ba2 (Bb2 8 (Adh ha (by omega)) (Adh hb (by omega)) h3)
theorem Bph(s:Nat)(a b:List UInt8):Aps s (a++b)=Aps (Aps s a) b:=by rw[Aps,Aps,Aps,List.foldl_append]
theorem Bhe:∀(l:List UInt8) {s:Nat},s<2^32→Aps s l<2^32
 |[],_,h=>h
 |c::l,s,h=>Bhe l (Aju 8 (Adh h (by have:=c.toNat_lt;omega)))
theorem Cbx{a r:List UInt8}{x y:UInt8}(h:x≠y):Cp (a++x::r)≠Cp (a++y::r):=by
 intro e
 have h0:(4294967295:Nat)<2^32:=by decide
 have hs:=Bhe a h0
 have hlt:∀z:UInt8,Aps 4294967295 (a++z::r)<2^32:=fun z=>Bhe _ h0
 have e1:Aps 4294967295 (a++x::r)=Aps 4294967295 (a++y::r):=by
  have e2:=congrArg UInt32.toNat e
  rw[Cp,Cp,UInt32.toNat_sub,UInt32.toNat_sub,UInt32.toNat_ofNat',UInt32.toNat_ofNat',Nat.mod_eq_of_lt (hlt x),Nat.mod_eq_of_lt (hlt y)]at e2
  have:=hlt x
  have:=hlt y
  have e3:(4294967295:UInt32).toNat=4294967295:=rfl
  omega
 rw[Bph,Bph]at e1
 have hx:=x.toNat_lt
 have hy:=y.toNat_lt
 have e2:Anz (Aps 4294967295 a) x.toNat=Anz (Aps 4294967295 a) y.toNat:=Bry r (Aju 8 (Adh hs (by omega))) (Aju 8 (Adh hs (by omega))) e1
 have e3:=Bb2 8 (Adh hs (by omega)) (Adh hs (by omega)) e2
 rw[Nat.xor_comm,Nat.xor_comm _ y.toNat]at e3
 exact h (UInt8.toNat_inj.1 (Ba2 e3))
theorem Bw9{b:List UInt8}{i:Nat}{y:UInt8}(hs:Nj b=0)(hi:i<b.length)(hy:b[i]≠y):Nj (b.set i y)=22:=by
 have hl:=Bq8 hs
 have h22:(Cp ((b.set i y).take (b.length-4))).toNat≠Ef ((b.set i y).drop (b.length-4)):=by
  have h0:(Cp (b.take (b.length-4))).toNat=Ef (b.drop (b.length-4)):=by
   rw[Nj,if_neg (by omega),if_neg (by omega)]at hs
   by_cases h:(Cp (b.take (b.length-4))).toNat≠Ef (b.drop (b.length-4))
   ·rw[if_pos h]at hs;cases hs
   ·simpa using h
  by_cases hlt:i<b.length-4
  ·have e1:(b.set i y).drop (b.length-4)=b.drop (b.length-4):=by rw[List.drop_set,if_pos hlt]
   have e2:(b.set i y).take (b.length-4)=(b.take (b.length-4)).set i y:=by rw[List.take_set]
   rw[e1,e2,←h0]
   intro e
   have hget:(b.take (b.length-4)).length=b.length-4:=by rw[List.length_take];omega
   have hsplit:b.take (b.length-4)=(b.take (b.length-4)).take i++b[i]::(b.take (b.length-4)).drop (i+1):=by
    have:=(List.take_append_drop i (b.take (b.length-4))).symm
    rw[List.drop_eq_getElem_cons (by omega)]at this
    simpa using this
   have hsplit2:(b.take (b.length-4)).set i y=(b.take (b.length-4)).take i++y::(b.take (b.length-4)).drop (i+1):=by
    rw[List.set_eq_take_append_cons_drop,if_pos (by omega)]
   have e':=UInt32.toNat_inj.1 e
   rw[hsplit2]at e'
   conv at e'=>rhs;rw[hsplit]
   exact Cbx (fun h=>hy h.symm) e'
  ·have e1:(b.set i y).take (b.length-4)=b.take (b.length-4):=by rw[List.take_set_of_le (by omega)]
   rw[e1,h0]
   intro e
   have hd:(b.set i y).drop (b.length-4)=b.drop (b.length-4):=(Bmd (by simp) e).symm
   have:=congrArg (fun l=>b.take (b.length-4)++l) hd
   simp only[List.take_append_drop]at this
   have h3:b.take (b.length-4)++(b.set i y).drop (b.length-4)=b.set i y:=by rw[←e1,List.take_append_drop]
   rw[h3]at this
   have h4:(b.set i y)[i]'(by simpa using hi)=b[i]:=by congr 1
   rw[List.getElem_set_self]at h4
   exact hy h4.symm
 rw[Nj,List.length_set,if_neg (by omega),if_neg (by omega),if_pos h22]
end Go.Pl
set_option linter.unusedVariables false
set_option linter.unusedSimpArgs false
namespace Go.Pl
open Go Go.Lv
theorem Brn(p:List UInt8)(b0:UInt64)(a0:Int):∀(j m q:Nat),m+j≤300000→j≤64→j<q→
  Od b0 a0 q (Ni p m j) (j:Int) (m:Int) (Oi p 0 m)=some (Oi p 0 (m+j),((m+j:Nat):Int),0)
 |0,m,q+1,_,_,_=>by
  rw[Od,Ajh,if_neg (by rw[Am];simp),Ari,Bbu];rfl
 |j+1,m,q+1,hm,hj,hq=>by
  have hroom:Od b0 a0 (q+1) (Ni p m (j+1)) ((j+1:Nat):Int) (m:Int) (Oi p 0 m)=Ajg (Od b0 a0 q) b0 a0 (Ni p m (j+1)) ((j+1:Nat):Int) (m:Int) (room p 0 m):=by
   rw[Od,Ajh,if_pos (by rw[Am];simp),Bel m (by omega),room]
   by_cases h0:m %8=0
   ·rw[if_pos (by rw[Bb,h0];rfl),Bt (by rw[Hp];simp;omega),Aa,if_pos h0]
   ·rw[if_neg (by rw[Bb];simp;omega),if_neg h0]
  have hl:Ah (Ac (room p 0 m)) 1=((m/8:Nat):Int):=by
   rw[Ac,Ml,Bc (by omega) (by omega)];omega
  have e2:Dx ((j+1:Nat):Int) (Ah (8:Int) ((m %8:Nat):Int))=((min (j+1) (8-m %8):Nat):Int):=by
   rw[Afb,Bc (by omega) (by omega)];omega
  rw[hroom,Ajg,Arh,Bel m (by omega),e2,hl]
  generalize hT:min (j+1) (8-m %8)=T
  have hT1:1≤T:=by omega
  have hT8:m %8+T≤8:=by omega
  have hg:getI (room p 0 m) ((m/8:Nat):Int)=some (UInt8.ofNat (Bk p (0+8*(m/8)) (m %8))):=by
   rw[Bu (by rw[Ml];omega),Axj]
  have z1:(GI.toZ ((m %8:Nat):Int)).toNat=m %8:=rfl
  have z2:(GI.toZ ((T:Nat):Int)).toNat=T:=rfl
  have hlt:=Bad p (0+8*(m/8)) (m %8+T) (by omega)
  have hadd:=Ahj p (m %8) T (0+8*(m/8))
  rw[show 0+8*(m/8)+m %8=m by omega]at hadd
  have hbyte:(Ae (Dq (Ni p m (j+1)) (Ah (Cm (1:UInt64) T) (1:UInt64))):UInt8)=UInt8.ofNat (Bk p m T):=by
   rw[Aj3,Cje _ (by omega),Bqc p m (j+1) T (by omega) hj]
  have hnew:gor (UInt8.ofNat (Bk p (0+8*(m/8)) (m %8))) (Cm (UInt8.ofNat (Bk p m T)) (m %8))=UInt8.ofNat (Bk p (0+8*(m/8)) (m %8+T)):=by
   rw[or8 (Nh _ _ _) (by rw[Nat.mul_comm];omega) (by omega),hadd,Nat.mul_comm (2^(m %8))]
  rw[hg,z1,z2,hbyte]
  simp only[Aa]
  rw[Ay (by rw[Cl];simp),Aa,Ay (by rw[Cl];simp;omega),Aa,hnew,Oz _ (by rw[Ml];omega),Aa,Az4 p 0 m T hT1 hT8,Aq2,Bau,Bel m (by omega),e2,hT,Ay (by rw[Cl];simp),Aa,z2,Bqz p m (j+1) T (by omega) hj,Bc (by omega) (by omega),Ag (by omega) (by omega)]
  have ih:=Brn p b0 a0 (j+1-T) (m+T) q (by omega) (by omega) (by omega)
  rw[show m+T+(j+1-T)=m+(j+1) by omega]at ih
  rw[←ih,show((j+1:Nat):Int)-((T:Nat):Int)=((j+1-T:Nat):Int) by omega,show(m:Int)+((T:Nat):Int)=((m+T:Nat):Int) by omega]
theorem put_eq(p:List UInt8)(m j:Nat)(hm:m+j≤300000)(hj:j≤63):Akg (Oi p 0 m) (m:Int) (Ni p m j) (j:Int)=some (Oi p 0 (m+j),((m+j:Nat):Int),0):=by
 have hz:Be (Bo (Ni p m j) (GI.toZ (j:Int)).toNat) 0=false:=by
  have:Bo (Ni p m j) j=0:=by
   apply UInt64.toNat_inj.1
   rw[Abj,Ux p m j (by omega),Nat.div_eq_of_lt (Nh p j m)];rfl
  rw[show(GI.toZ (j:Int)).toNat=j from rfl,this];rfl
 have hl:=Hp p 0 m
 have htw:Aqd (Oi p 0 m) (m:Int)=some (Oi p 0 m,(m:Int)):=by
  rw[Aqd,Ec,Bt (by simp;omega),Aa,Aa];rfl
 rw[Akg,Av6,Wm (Bbm p 0 m (by omega)),Aa,if_neg (by decide),if_neg (by simp[Af,Am];omega),if_pos (by rw[Af];simp;omega),Ay (by rw[Cl];simp),Aa,hz,if_neg (by decide),Ag (by omega) (by omega),if_neg (by rw[Am];simp;omega),htw,Aa]
 exact Brn p _ _ j m Al hm (by omega) (by have:=Ak;omega)
end Go.Pl
set_option linter.unusedVariables false
set_option linter.unusedSimpArgs false
namespace Go.Pl
open Go Go.Lv
theorem At.cat{p:List UInt8}{a:Nat}{c d:List Bool}(h:At p a (c++d)):At p a c∧At p (a+c.length) d:=⟨h.left,h.right⟩
theorem Bqq(p:List UInt8):∀(q a:Nat),At p a (List.replicate q true)→Bk p a q+1=2^q
 |0,a,_=>by rw[Bk]
 |q+1,a,h=>by
  rw[List.replicate_succ]at h
  obtain⟨h0,h1⟩:=h.cons
  have:=Bqq p q (a+1) h1
  rw[Bk,h0,Nat.pow_succ,if_pos rfl];omega
theorem Bcq{x:UInt64}{p:List UInt8}{m n:Nat}(hn:n≤63)(h:x.toNat=Bk p m n):x=Ni p m n:=by
 apply UInt64.toNat_inj.1
 rw[h,Ux p m n (by omega)]
theorem Ank{n:Nat}(h:n<2^64):(UInt64.ofNat n).toNat=n:=by rw[UInt64.toNat_ofNat'];exact Nat.mod_eq_of_lt h
theorem Bkh{p:List UInt8}{m q:Nat}(hq:q≤48)(hm:m+48≤300000)(h:At p m (List.replicate q true++(if q=48 then []else [false]))):
  Ans (Oi p 0 m) (m:Int) (q:Int)=some (Oi p 0 (m+min (q+1) 48),((m+min (q+1) 48:Nat):Int),0):=by
 have h1:=h.left
 have hv:=Bqq p q m h1
 have hp48:2^q≤2^48:=Nat.pow_le_pow_right (by omega) hq
 have hval:Bk p m (min (q+1) 48)+1=2^q:=by
  by_cases h48:q=48
  ·subst h48;exact hv
  ·rw[if_neg h48]at h
   have h2:=h.right
   rw[List.length_replicate]at h2
   have h0:=h2.cons.1
   rw[show min (q+1) 48=q+1 by omega,Aw2,h0]
   simpa using hv
 have hx:(Ah (Cm (1:UInt64) q) (1:UInt64)).toNat=Bk p m (min (q+1) 48):=by
  have e1:(Cm (1:UInt64) q).toNat=2^q:=by rw[Ak5];show 1*2^q %_=_;rw[Nat.one_mul];exact Nat.mod_eq_of_lt (by omega)
  have hpos:0<2^q:=Nat.pow_pos (by omega)
  rw[Az9,UInt64.toNat_sub_of_le _ _ (by rw[UInt64.le_iff_toNat_le,e1];exact hpos),e1]
  show 2^q-1=_
  omega
 rw[Ans,Wm (Bbm p 0 m (by omega)),Aa,if_neg (by decide),Aq3,if_neg (by simp[Af,Am];omega),Aa]
 simp only
 have e2:Dx (Ad (q:Int) 1) 48=((min (q+1) 48:Nat):Int):=by rw[Afb,Ag (by omega) (by omega)];omega
 rw[if_neg (by decide),Ay (by rw[Cl];simp),Aa,e2,show(GI.toZ (q:Int)).toNat=q from rfl,Bcq (by omega) hx,put_eq p m _ (by omega) (by omega),Aa]
theorem Ccv{p:List UInt8}{m l:Nat}{v:UInt32}(hl:l≤24)(hm:m+81≤300000)(h:At p m (Als l v.toNat)):
  Arv (Oi p 0 m) (m:Int) v (l:Int)=some (Oi p 0 (m+(Als l v.toNat).length),((m+(Als l v.toNat).length:Nat):Int),0):=by
 have hvl:=v.toNat_lt
 have hz:(GI.toZ (l:Int)).toNat=l:=rfl
 have hlp:2^l≤2^24:=Nat.pow_le_pow_right (by omega) hl
 have hpos:0<2^l:=Nat.pow_pos (by omega)
 have hesc:We v (l:Int)=some (decide (48≤v.toNat/2^l)):=by
  rw[We,Ay (by rw[Cl];simp),Aa,hz,Bt3,Ahp];rfl
 rw[Arv,Aol,Wm (Bbm p 0 m (by omega)),Aa,if_neg (by decide),if_neg (by simp[Af,Am];omega),Ay (by rw[Cl];simp),Aa,Aa,hesc,Aa]
 rw[Als]at h⊢
 by_cases h48:48≤v.toNat/2^l
 ·rw[if_pos h48]at h⊢
  obtain⟨h1,h2⟩:=h.cat
  rw[List.length_replicate]at h2
  have hval:=Aew p 32 (m+48) v.toNat h2
  rw[Nat.mod_eq_of_lt (by omega)]at hval
  have hu:=Bkh (p:=p) (m:=m) (q:=48) (Nat.le_refl _) (by omega) (by rw[if_pos rfl,List.append_nil];exact h1)
  rw[if_pos (by simpa using h48),Af3,Apc,show(48:Int)=((48:Nat):Int)from rfl,hu,Aa]
  simp only
  rw[if_neg (by decide),Cr,Bcq (x:=UInt64.ofNat v.toNat) (p:=p) (m:=m+48) (n:=32) (by omega) (by rw[Ank (by omega),hval]),show(32:Int)=((32:Nat):Int)from rfl,show m+min (48+1) 48=m+48 by omega,put_eq p (m+48) 32 (by omega) (by omega),Aa,List.length_append,List.length_replicate,Qq,Nat.add_assoc]
 ·rw[if_neg h48]at h⊢
  generalize hq:v.toNat/2^l=q at*
  obtain⟨h1,h2⟩:=h.cat
  rw[List.length_replicate]at h2
  obtain⟨h3,h4⟩:=h2.cons
  have hval:=Aew p l (m+q+1) (v.toNat %2^l) h4
  rw[Nat.mod_mod]at hval
  have hqa:At p m (List.replicate q true++[false]):=by
   have:List.replicate q true++(false::As0 (v.toNat %2^l) l)=(List.replicate q true++[false])++As0 (v.toNat %2^l) l:=by simp
   rw[this]at h
   exact h.left
  have hu:=Bkh (p:=p) (m:=m) (q:=q) (by omega) (by omega) (by rw[if_neg (by omega)];exact hqa)
  have hgq:(Ae (Bo v l):Int)=(q:Int):=by rw[Bik,Ahp,hq]
  have hrest:(Ae (Dq v (Ah (Cm (1:UInt32) l) 1)):UInt64)=Ni p (m+q+1) l:=by
   apply Bcq (by omega)
   have e1:(Cm (1:UInt32) l).toNat=2^l:=by rw[Awc];show 1*2^l %_=_;rw[Nat.one_mul];exact Nat.mod_eq_of_lt (by omega)
   have e2:(Ah (Cm (1:UInt32) l) (1:UInt32)).toNat=2^l-1:=by
    rw[Bft,UInt32.toNat_sub_of_le _ _ (by rw[UInt32.le_iff_toNat_le,e1];exact hpos),e1];rfl
   have e3:(Dq v (Ah (Cm (1:UInt32) l) 1)).toNat=v.toNat %2^l:=by
    rw[Biy,UInt32.toNat_and,e2,Nat.and_two_pow_sub_one_eq_mod]
   rw[Cr,Ank (by rw[e3];have:=Nat.mod_lt v.toNat hpos;omega),e3,hval]
  rw[if_neg (by simpa using h48),Af3,Apc,hz,hgq,hu,Aa]
  simp only
  rw[if_neg (by decide),hrest,show m+min (q+1) 48=m+q+1 by omega,put_eq p (m+q+1) l (by omega) (by omega),Aa,List.length_append,List.length_replicate,List.length_cons,Qq,show m+q+1+l=m+(q+(l+1)) by omega]
theorem Ccj{k l:Nat}{s t:UInt64}(h:okD k l s t)(v:UInt32):Are [] 0 (k:Int) (l:Int) s t v=
  some (Jq (Pj k l v),((Pj k l v).length:Int),((kS k (Ut s (n64 v)):Nat):Int),((lK l t k v:Nat):Int),Ut s (n64 v),lT t k v,0):=by
 obtain⟨h1,h2,h3,h4⟩:=h
 have hvl:=v.toNat_lt
 have hAt:At (Jq (Pj k l v)) 0 (Pj k l v):=fun i hi=>by rw[Nat.zero_add,Aa1]
 have hlen:=Aqm v h1 h2
 have hfull:Oi (Jq (Pj k l v)) 0 (Pj k l v).length=Jq (Pj k l v):=by
  apply Bpa (by rw[Hp,Wc])
  intro i hi
  rw[Bbi,Nat.zero_add,Aa1]
  by_cases hlt:i<(Pj k l v).length
  ·rw[if_pos hlt]
  ·rw[if_neg hlt,Bmc (by omega)]
 generalize hP:Jq (Pj k l v)=P at*
 have h0:Oi P 0 0=[]:=rfl
 have hp10:∀(x:Int) (y:UInt64) (aj ai:Int),Xz v (k:Int) s ai P x y=some (P,ai,((kS k (Ut s (n64 v)):Nat):Int),x,Ut s (n64 v),y,0):=by
  intro x y aj ai
  rw[Xz,Aoc,Cr,Aqp,Bt8 k h1]
  rw[Ao1,Aor,Akj,Ac6,Cr,Aqp];rfl
 have hp7:∀ai:Int,Af8 v (k:Int) (l:Int) s t 0 ai P=some (P,ai,((kS k (Ut s (n64 v)):Nat):Int),((lK l t k v:Nat):Int),Ut s (n64 v),lT t k v,0):=by
  intro ai
  rw[Af8,An7,if_neg (by decide),Bit k l s t h1,Aa]
  by_cases hv:v.toNat<2^k
  ·rw[if_pos hv]
   simp only
   rw[if_neg (by rw[Bb];simp),hp10 _ _ 0,lK,if_pos hv,lT,if_pos hv]
  ·rw[if_neg hv]
   simp only
   rw[if_pos (by rw[Bb];rfl),Cr,Aqp,Bt8 l h2 _ (fun x=>Xz v (k:Int) s ai P x (Ut t (UInt64.ofNat (As7 k v).toNat))),hp10 _ _ 0,lK,if_neg hv,lT,if_neg hv];rfl
 rw[Are,An6,show Hw [] 0=some 0 from rfl,Aa,if_neg (by decide),Cb4 ⟨h1,h2,h3,h4⟩,Aa,if_neg (by decide),Aob,Aoo,Bit k l s t h1,Aa]
 have hput:=put_eq P 0 1 (by omega) (by omega)
 rw[h0,Nat.zero_add,show((0:Nat):Int)=0 from rfl,show((1:Nat):Int)=1 from rfl]at hput
 by_cases hv:v.toNat<2^k
 ·have hc:Pj k l v=false::As0 v.toNat k:=by rw[Pj,if_pos hv]
  rw[hc]at hAt hfull
  obtain⟨b0,b1⟩:=hAt.cons
  have hval:=Aew P k 1 v.toNat b1
  rw[Nat.mod_eq_of_lt hv]at hval
  have hz:(Ae (0:Int):UInt64)=Ni P 0 1:=Bcq (by omega) (by rw[Baq,b0];rfl)
  rw[if_pos hv]
  simp only
  rw[hz,hput,Aa]
  simp only
  rw[if_pos (by decide),Cr,Bcq (x:=UInt64.ofNat v.toNat) (p:=P) (m:=1) (n:=k) (by omega) (by rw[Ank (by omega),hval]),show(1:Int)=((1:Nat):Int)from rfl,put_eq P 1 k (by omega) (by omega),Aa]
  simp only
  rw[List.length_cons,Qq,Nat.add_comm k 1]at hfull
  rw[hfull,hp7,hc,List.length_cons,Qq,Nat.add_comm k 1]
 ·have hc:Pj k l v=true::Als l (v.toNat-2^k):=by rw[Pj,if_neg hv]
  rw[hc]at hAt hfull
  obtain⟨b0,b1⟩:=hAt.cons
  have hsub:=Nat.sub_le v.toNat (2^k)
  have hlv:(As7 k v).toNat=v.toNat-2^k:=by rw[As7,Anf (by omega)]
  have hz:(Ae (1:Int):UInt64)=Ni P 0 1:=Bcq (by omega) (by rw[Baq,b0];rfl)
  have hr:=Ccv (p:=P) (m:=1) (l:=l) (v:=As7 k v) h2 (by omega) (by rw[hlv];exact b1)
  rw[hlv,show((1:Nat):Int)=1 from rfl]at hr
  rw[if_neg hv]
  simp only
  rw[hz,hput,Aa]
  simp only
  rw[if_neg (by decide),if_pos (by decide),hr,Aa]
  simp only
  rw[List.length_cons,Nat.add_comm _ 1]at hfull
  rw[hfull,hp7,hc,List.length_cons,Nat.add_comm _ 1]
end Go.Pl
set_option linter.unusedVariables false
set_option linter.unusedSimpArgs false
namespace Go.Pl
open Go Go.Lv
section
variable (ch:Nat) (x:List Int32)
theorem An3{at' i:Nat}(ha:at' %ch=0)(hi:i<ch)(h:at'+i<x.length):(mx ch x).getD (at'+i) 0=mxV (fun i=>x.getD (at'+i) 0) ch i:=by
 have hb:(at'+i) %ch=i:=by rw[Nat.add_mod,ha,Nat.zero_add,Nat.mod_mod,Nat.mod_eq_of_lt hi]
 rw[Cbu h,hb,show at'+i-i=at' by omega]
theorem Brl(bk:Int→List Int32→Option (List Int32×Int))(at':Nat)(h1:1≤ch)(h6:ch≤6)(hm:at' %ch=0)(hl:at'+ch≤x.length)(hl2:x.length≤4000):∀(j i q:Nat),i+j=ch-1→j<q→
  Aaj bk (ch:Int) (at':Int) q (i:Int) (sel (fun k=>decide (k<at'+i)) (mx ch x) x)=bk ((at'+ch:Nat):Int) (sel (fun k=>decide (k<at'+ch)) (mx ch x) x)
 |j,i,0,_,h=>absurd h (Nat.not_lt_zero _)
 |0,i,q+1,hi,_=>by
  have hlen:=Alr ch x
  have e1:Ah (Ad (at':Int) (ch:Int)-(at':Int)) 1=((ch-1:Nat):Int):=by rw[Ag (by omega) (by omega),Bc (by omega) (by omega)];omega
  have e2:Ad (at':Int) (ch:Int)-(at':Int)=(ch:Int):=by rw[Ag (by omega) (by omega)];omega
  have e4:Ad (at':Int) (ch:Int)=((at'+ch:Nat):Int):=by rw[Ag (by omega) (by omega)];omega
  rw[Aaj,Amt,e1,if_neg (by rw[Af];simp;omega),At9,At7,e1,e2]
  obtain rfl:i=ch-1:=by omega
  by_cases h2:1<ch
  ·have e3:Ah ((ch-1:Nat):Int) 1=((ch-2:Nat):Int):=by rw[Bc (by omega) (by omega)];omega
   have hv:Ah (x.getD (at'+(ch-1)) 0) (Bg ((mx ch x).getD (at'+(ch-2)) 0) 2)=(mx ch x).getD (at'+(ch-1)) 0:=by
    rw[An3 ch x hm (by omega) (by omega),An3 ch x hm (by omega) (by omega),mxV,mxV,if_pos (by omega),if_neg (by omega),if_pos h2,Aj8,show ch-2+1=ch-1 by omega]
   rw[if_pos (by rw[Am];simp;omega),Axz (by omega),Aa,e3,Axz (by omega),Aa,
    show(at':Int)+((ch-1:Nat):Int)=((at'+(ch-1):Nat):Int) by omega,show(at':Int)+((ch-2:Nat):Int)=((at'+(ch-2):Nat):Int) by omega,
    Yv (by omega),Aa,Yv (by omega),Aa,Aa,if_neg (by simp),if_pos (by simp;omega),hv,Ars (by omega),Aa,Amx,Ave,e4]
   congr 1
   apply Tj
   intro k _
   rw[Bool.eq_iff_iff];simp;omega
  ·obtain rfl:ch=1:=by omega
   have hlast:x.getD at' 0=(mx 1 x).getD at' 0:=by
    have:=An3 1 x (i:=0) hm (by omega) (by omega)
    rw[Nat.add_zero]at this
    rw[this,mxV,if_neg (by omega),if_neg (by omega)];rfl
   rw[if_neg (by rw[Am];simp),Amx,Ave,e4]
   congr 1
   apply List.ext_getElem (by rw[Af4,Af4])
   intro k g1 g2
   rw[Ra,Ra]
   by_cases hk:k<at'
   ·rw[if_pos (by simp;omega),if_pos (by simp;omega)]
   ·by_cases hk2:k=at'
    ·subst hk2
     rw[if_neg (by simp),if_pos (by simp)]
     exact hlast
    ·rw[if_neg (by simp;omega),if_neg (by simp;omega)]
 |j+1,i,q+1,hi,hq=>by
  have hlen:=Alr ch x
  have e1:Ah (Ad (at':Int) (ch:Int)-(at':Int)) 1=((ch-1:Nat):Int):=by rw[Ag (by omega) (by omega),Bc (by omega) (by omega)];omega
  have e2:Ad (at':Int) (ch:Int)-(at':Int)=(ch:Int):=by rw[Ag (by omega) (by omega)];omega
  have e3:Ad (i:Int) 1=((i+1:Nat):Int):=by rw[Ag (by omega) (by omega)];omega
  have hv:Ah (x.getD (at'+(i+1)) 0) (x.getD (at'+i) 0)=(mx ch x).getD (at'+i) 0:=by
   rw[An3 ch x hm (by omega) (by omega),mxV,if_pos (by omega),Aj8]
  rw[Aaj,Amt,e1,if_pos (by rw[Af];simp;omega),e2,e3,Axz (by omega),Aa,Axz (by omega),Aa,
   show(at':Int)+((i+1:Nat):Int)=((at'+(i+1):Nat):Int) by omega,show(at':Int)+(i:Int)=((at'+i:Nat):Int) by omega,
   Yv (by omega),Aa,Yv (by omega),Aa,Aa,if_neg (by simp),if_neg (by simp),hv,Ars (by omega),Aa]
  have ih:=Brl bk at' h1 h6 hm hl hl2 j (i+1) q (by omega) (by omega)
  rw[←ih]
  congr 1
  apply Tj
  intro k _
  rw[Bool.eq_iff_iff];simp;omega
theorem Ben(h1:1≤ch)(h6:ch≤6)(hm:x.length %ch=0)(hl2:x.length≤4000):∀(j at' q:Nat),at' %ch=0→at'≤x.length→x.length-at'≤j→j<q→
  Aam (ch:Int) q (at':Int) (sel (fun k=>decide (k<at')) (mx ch x) x)=some (mx ch x,0)
 |j,at',0,_,_,_,h=>absurd h (Nat.not_lt_zero _)
 |j,at',q+1,ha,hle,hj,hq=>by
  have hlen:=Alr ch x
  have hl:Ac (sel (fun k=>decide (k<at')) (mx ch x) x)=(x.length:Int):=by rw[Ac,Af4,hlen]
  rw[Aam,Avc,hl]
  by_cases h:at'<x.length
  ·have hb:=Az0 ha hm h
   obtain⟨j,rfl⟩:∃k,j=k+1:=⟨j-1,by omega⟩
   have e4:Ad (at':Int) (ch:Int)=((at'+ch:Nat):Int):=by rw[Ag (by omega) (by omega)];omega
   have hi:=Brl ch x (Aam (ch:Int) q) at' h1 h6 ha hb hl2 (ch-1) 0 Al (by omega) (by have:=Ak;omega)
   have hrest:=Ben h1 h6 hm hl2 j (at'+ch) q (by rw[Nat.add_mod_right,ha]) hb (by omega) (by omega)
   rw[Nat.add_zero]at hi
   rw[if_pos (by rw[Af];simp;omega),show vwI (x.length:Int) (at':Int) (Ad (at':Int) (ch:Int))=some () by rw[e4,vwI,Axz];omega,Aa]
   exact Eq.trans hi hrest
  ·rw[if_neg (by rw[Af];simp;omega),Aw0 (fun k hk=>by simp;omega)]
   rfl
theorem Bx9(h1:1≤ch)(h6:ch≤6)(hm:x.length %ch=0)(hl2:x.length≤4000):Bey (ch:Int) x=some (mx ch x,0):=by
 have hlen:=Alr ch x
 have h:=Ben ch x h1 h6 hm hl2 x.length 0 Al (by simp) (by omega) (by omega) (by have:=Ak;omega)
 rw[Bey,Ay0,Bo0 ch x h1 h6 hm hl2,Aa,if_neg (by rw[Aj];simp),Dj,Bt (by simp;omega),Aa,Aa,List.nil_append,Aud]
 rw[Avk hlen.symm (fun k _=>by simp)]at h
 exact h
end
theorem Bz2(a:Int32):Axi a=some (Av7 a):=by
 have h:=Wv a
 have hc:(Ae a:UInt32)=UInt32.ofNat (a.toInt %4294967296).toNat:=rfl
 have hs:(Bo a (GI.toZ (31:UInt64)).toNat)=if 0≤a.toInt then(0:Int32)else -1:=by
  have e:Bo a 31=Int32.ofInt (a.toInt.fdiv (2^31)):=rfl
  rw[show(GI.toZ (31:UInt64)).toNat=31 from rfl,e]
  by_cases h0:0≤a.toInt
  ·rw[if_pos h0,show a.toInt.fdiv (2^31)=0 by rw[Int.fdiv_eq_ediv_of_nonneg _ (by decide)];omega];rfl
  ·rw[if_neg h0,show a.toInt.fdiv (2^31)= -1 by rw[Int.fdiv_eq_ediv_of_nonneg _ (by decide)];omega];rfl
 rw[Axi,hs,hc,Av7]
 congr 1
 have hsh:(Cm (UInt32.ofNat (a.toInt %4294967296).toNat) (GI.toZ (1:UInt64)).toNat).toNat=2*(a.toInt %4294967296).toNat %4294967296:=by
  rw[show(GI.toZ (1:UInt64)).toNat=1 from rfl,Awc,UInt32.toNat_ofNat',Nat.mod_eq_of_lt (show(a.toInt %4294967296).toNat<2^32 by omega)]
  omega
 by_cases h0:0≤a.toInt
 ·rw[if_pos h0,if_pos h0,show(Ae (0:Int32):UInt32)=0 from rfl]
  apply UInt32.toNat_inj.1
  rw[show∀z:UInt32,Pk z (0:UInt32)=z^^^0 from fun z=>by rw[Aqt],UInt32.toNat_xor,hsh,UInt32.toNat_ofNat',Nat.mod_eq_of_lt (show 2*a.toInt.toNat<2^32 by omega)]
  show _^^^0=_
  rw[Nat.xor_zero];omega
 ·rw[if_neg h0,if_neg h0,show(Ae (-1:Int32):UInt32)=4294967295 from rfl]
  apply UInt32.toNat_inj.1
  rw[show∀z:UInt32,Pk z (4294967295:UInt32)=z^^^4294967295 from fun z=>by rw[Aqt],UInt32.toNat_xor,hsh,UInt32.toNat_ofNat',Nat.mod_eq_of_lt (show 2*(-a.toInt-1).toNat+1<2^32 by omega)]
  show _^^^4294967295=_
  have key:∀n:Nat,n<4294967296→n^^^4294967295=4294967295-n:=by
   intro n hn
   have:=BitVec.toNat_not (x:=BitVec.ofNat 32 n)
   rw[←BitVec.xor_allOnes,BitVec.toNat_xor,BitVec.toNat_ofNat,Nat.mod_eq_of_lt (by omega)]at this
   simpa using this
  rw[key _ (by omega)]
  omega
theorem Cck{bits:Int}(h:BitsOk bits){t p:List Int32}(hF:OkF (sB bits) t p)(last x:Int32):
  Tg bits last (sB bits) t p x=some (Bes bits (last,t,p) x,bits,x,sB bits,lrn t p (Bes bits (last,t,p) x),(x-gs (shB bits) last)::p.take 15,0):=by
 rw[Tg,Bf6 h,Aa,if_neg (by rw[Aj];simp),Bz1 h,Aa]
 simp only
 rw[Aj8,Anb,Bqj hF,Aa]
 simp only
 rw[if_neg (by rw[Aj];simp),Aj8,Al4,Bqa hF,Aa]
 simp only
 rw[Bvm (s:=sB bits) (t:=lrn t p _) (p:=p) ⟨hF.1,Ab2 _ _ _,hF.2.2⟩,Aa,Aa]
 rfl
end Go.Pl
set_option linter.unusedVariables false
set_option linter.unusedSimpArgs false
namespace Go.Pl
open Go Go.Lv
theorem Bhj(bits:Int)(ch:Nat)(t x:List Int32):(Km bits ch t x).length=x.length:=Axg _ _ _ _ _
theorem Cbd{bits:Int}{ch:Nat}{t x:List Int32}{i:Nat}(h:i<x.length):(Km bits ch t x).getD i 0=Av7 (Bes bits (cst bits ch t (Km bits ch t x) (i %ch) i) ((mx ch x).getD i 0)):=by
 obtain⟨w,hw⟩:=Bng bits ch t (mx ch x) (x.length-(i+1)) (i+1)
 rw[show i+1+(x.length-(i+1))=x.length by omega,evl,List.append_assoc]at hw
 have hli:=Axg bits ch t (mx ch x) i
 have hw':Km bits ch t x=_:=hw
 have hg:(Km bits ch t x).getD i 0=Av7 (Bes bits (cst bits ch t (evl bits ch t (mx ch x) i) (i %ch) i) ((mx ch x).getD i 0)):=by
  rw[hw',List.getD_eq_getElem?_getD,List.getElem?_append_right (by omega),hli,Nat.sub_self];rfl
 have hc:cst bits ch t (Km bits ch t x) (i %ch) i=cst bits ch t (evl bits ch t (mx ch x) i) (i %ch) i:=by rw[hw',Bvd _ _ _ _ _ _ _ (by omega)]
 rw[hg,hc]
section
variable {bits:Int} {ch:Nat} {t x:List Int32} (hb:BitsOk bits) (ht:t.length=16) (h1:1≤ch) (h6:ch≤6) (hx1:1≤x.length) (hx4:x.length≤4000) (hm:x.length %ch=0)
include hb ht h1 h6 hx1 hx4 hm
omit ht in
theorem Cgw(hr:inR bits x):Af5 (ch:Int) bits x=some 0:=by
 rw[Af5,Bsn hb h1 h6,Aa,if_neg (by decide),Ark hb x hx4,Bkx hb hx4 hr,Aa,if_neg (by decide),if_neg (by rw[Bb,Ac,beq_iff_eq];omega),Ay (by rw[Aj];simp;omega),Aa,Ac,Ae8,hm,if_neg (by decide)]
omit hm in
theorem Blp:∀(j i q:Nat),i+j=x.length→j<q→
  Jg (mx ch x) (ch:Int) bits q (i:Int) (cts bits ch t (Km bits ch t x) i) ((Km bits ch t x).take i)=some (Km bits ch t x,0)
 |j,i,0,_,h=>absurd h (Nat.not_lt_zero _)
 |0,i,q+1,hi,_=>by
  have hl:=Alr ch x
  have hV:=Bhj bits ch t x
  rw[Jg,Ri,if_neg (by rw[Af,Ac];simp;omega),List.take_of_length_le (by omega)]
  rfl
 |j+1,i,q+1,hi,hq=>by
  have hl:=Alr ch x
  have hV:=Bhj bits ch t x
  have hc:i %ch<6:=Nat.lt_of_lt_of_le (Nat.mod_lt _ (by omega)) h6
  have hok:=Bl0 bits ch ht (Km bits ch t x) (i %ch) i
  have hs:=Bvz (bits:=bits) (ch:=ch) (t:=t) (v:=Km bits ch t x) (i:=i) hc rfl
  have hg:=Cbd (bits:=bits) (ch:=ch) (t:=t) (x:=x) (i:=i) (by omega)
  have ih:=Blp j (i+1) q (by omega) (by omega)
  have htk:(Km bits ch t x).take i++[(Km bits ch t x).getD i 0]=(Km bits ch t x).take (i+1):=by
   have:(Km bits ch t x).getD i 0=(Km bits ch t x)[i]'(by omega):=by rw[List.getD_eq_getElem?_getD,List.getElem?_eq_getElem (by omega)];rfl
   rw[this,Kn (by omega)]
  have hfw:=Cck hb hok (cst bits ch t (Km bits ch t x) (i %ch) i).1 ((mx ch x).getD i 0)
  rw[Jg,Ri,if_pos (by rw[Af,Ac];simp;omega),g32 (by omega),Aa,Aa,Ay (by rw[Aj];simp;omega),Aa,Ae8,Bu1 hc,Aa,Aa]
  refine Eq.trans (congrArg (fun o=>Option.bind o _) hfw) ?_
  rw[Aa]
  simp only
  rw[if_neg (by decide)]
  have hst:((bits,(mx ch x).getD i 0,(sB bits,lrn (cst bits ch t (Km bits ch t x) (i %ch) i).2.1 (cst bits ch t (Km bits ch t x) (i %ch) i).2.2 (Bes bits (cst bits ch t (Km bits ch t x) (i %ch) i) ((mx ch x).getD i 0)),((mx ch x).getD i 0-gs (shB bits) (cst bits ch t (Km bits ch t x) (i %ch) i).1)::(cst bits ch t (Km bits ch t x) (i %ch) i).2.2.take 15,()),()):CL)=toC bits (Bjy bits (cst bits ch t (Km bits ch t x) (i %ch) i) (Aj1 ((Km bits ch t x).getD i 0))):=by
   rw[hg,Ccn,toC,Bjy,Bk8]
   simp only
   rw[Bes,Anj]
  refine Eq.trans (congrArg (fun o=>Option.bind o _) ((congrArg (fun z=>Ji (cts bits ch t (Km bits ch t x) i) ((i %ch:Nat):Int) z) hst).trans hs)) ?_
  rw[Aa,Bz2,Aa]
  have hg2:Av7 (Bes bits ((cst bits ch t (Km bits ch t x) (i %ch) i).1,(cst bits ch t (Km bits ch t x) (i %ch) i).2.1,(cst bits ch t (Km bits ch t x) (i %ch) i).2.2) ((mx ch x).getD i 0))=(Km bits ch t x).getD i 0:=hg.symm
  rw[hg2,Bt (by rw[List.length_take];simp;omega),Aa,htk,Ag (by omega) (by omega)]
  exact ih
theorem Bsr(hr:inR bits x):Abv (ch:Int) bits t x=some (Km bits ch t x,0):=by
 have hl:=Alr ch x
 have h:=Blp hb ht h1 h6 hx1 hx4 x.length 0 Al (by omega) (by have:=Ak;omega)
 have e:Al=(Al-7)+1+1+1+1+1+1+1:=by have:=Ak;omega
 have hs:Ur (ch:Int) bits t (mx ch x) 0 (List.replicate 6 ((0:Int),(0:Int32),((0:Int),(List.replicate 16 (0:Int32)),(List.replicate 16 (0:Int32)),()),()))=Ac1 (ch:Int) bits (mx ch x) (cts bits ch t (Km bits ch t x) 0):=by
  rw[Ur,e]
  obtain rfl|rfl|rfl:=hb<;>rfl
 rw[Abv,Abp,Cgw hb h1 h6 hx1 hx4 hm hr,Aa,if_neg (by decide),Bx9 ch x h1 h6 hm hx4,Aa]
 simp only
 rw[if_neg (by decide)]
 refine Eq.trans hs ?_
 exact h
end
theorem Bte(ch:Nat):Abu=some (sts ch []):=by
 have e:Al=(Al-7)+1+1+1+1+1+1+1:=by have:=Ak;omega
 rw[Abu,Abe,Abx,e]
 rfl
theorem Boz(c:List Bool){n:Nat}(h:n≤c.length):Oi (Jq c) 0 n=Jq (c.take n):=by
 have hl:(c.take n).length=n:=by rw[List.length_take];omega
 apply Bpa (by rw[Hp,Wc,hl])
 intro i hi
 rw[Bbi,Nat.zero_add,Aa1,Aa1]
 by_cases hlt:i<n
 ·rw[if_pos hlt,tb,tb,List.getD_eq_getElem?_getD,List.getD_eq_getElem?_getD,List.getElem?_take,if_pos hlt]
 ·rw[if_neg hlt,Bmc (by omega)]
theorem Chf(a:UInt8){k:Nat}(hk:k<8):Dq (Bo a k) (1:UInt8)=UInt8.ofNat (a.toNat/2^k %2):=by
 apply UInt8.toNat_inj.1
 rw[Bwd,UInt8.toNat_and,Bm0,UInt8.toNat_ofNat']
 show _&&&1=_
 rw[Nat.and_one_is_mod]
 generalize a.toNat/2^k=X
 omega
theorem Bn6(E code:List Bool)(hE:E.length+code.length≤330000)(bk:Int→List (Int×Int×UInt64×UInt64×Unit)→Int→List UInt8→Bf)(V:List UInt32)(b f g:Int)(k:List (Int×Int×UInt64×UInt64×Unit)):∀(j o q:Nat),o+j=code.length→j<q→
  Fj bk V b f (code.length:Int) g k (Jq code) q (o:Int) ((E.length+o:Nat):Int) (Oi (Jq (E++code)) 0 (E.length+o))=bk (Ad g 1) k ((E.length+code.length:Nat):Int) (Jq (E++code))
 |j,o,0,_,h=>absurd h (Nat.not_lt_zero _)
 |0,o,q+1,ho,_=>by
  obtain rfl:o=code.length:=by omega
  rw[Fj,Rt,if_neg (by rw[Af];simp),Zn,Alq,Boz _ (by rw[List.length_append];omega),List.take_of_length_le (by rw[List.length_append];omega)]
 |j+1,o,q+1,ho,hq=>by
  generalize hP:Jq (E++code)=P
  have hPo:Fv P (E.length+o)=Fv (Jq code) o:=by rw[←hP,Aa1,Aa1,Bnd]
  have ih:=Bn6 E code hE bk V b f g k j (o+1) q (by omega) (by omega)
  rw[hP,←Nat.add_assoc]at ih
  generalize hn:E.length+o=n at*
  have hq8:Bg (n:Int) 8=((n/8:Nat):Int):=by rw[show(8:Int)=((8:Nat):Int)from rfl,Ar2 (by omega)]
  have hr8:Ff (n:Int) 8=((n %8:Nat):Int):=by rw[show(8:Int)=((8:Nat):Int)from rfl,Ae8]
  have hqo:Bg (o:Int) 8=((o/8:Nat):Int):=by rw[show(8:Int)=((8:Nat):Int)from rfl,Ar2 (by omega)]
  have hro:Ff (o:Int) 8=((o %8:Nat):Int):=by rw[show(8:Int)=((8:Nat):Int)from rfl,Ae8]
  have hroom:Fj bk V b f (code.length:Int) g k (Jq code) (q+1) (o:Int) (n:Int) (Oi P 0 n)=Ry (Fj bk V b f (code.length:Int) g k (Jq code) q) (code.length:Int) V g b f k (Jq code) (o:Int) (n:Int) (room P 0 n):=by
   rw[Fj,Rt,if_pos (by rw[Af];simp;omega),hr8,room]
   by_cases h0:n %8=0
   ·rw[if_pos (by rw[Bb,h0];rfl),Bt (by rw[Hp];simp;omega),Aa,if_pos h0]
   ·rw[if_neg (by rw[Bb];simp;omega),if_neg h0]
  have hcl:=Wc code
  have hgm:getI (Jq code) ((o/8:Nat):Int)=some ((Jq code).getD (o/8) 0):=by
   rw[Bu (by omega),List.getD_eq_getElem?_getD,List.getElem?_eq_getElem (by omega)];rfl
  have hg:getI (room P 0 n) ((n/8:Nat):Int)=some (UInt8.ofNat (Bk P (0+8*(n/8)) (n %8))):=by
   rw[Bu (by rw[Ml];omega),Axj]
  have hbit:Dq (Bo ((Jq code).getD (o/8) 0) (o %8)) (1:UInt8)=UInt8.ofNat (Fv P n):=by
   rw[Chf _ (by omega),hPo,Fv]
  have hlt:=Bad P (0+8*(n/8)) (n %8+1) (by omega)
  have hsn:=Aw2 P (0+8*(n/8)) (n %8)
  rw[show 0+8*(n/8)+n %8=n by omega]at hsn
  have hnew:gor (UInt8.ofNat (Bk P (0+8*(n/8)) (n %8))) (Cm (UInt8.ofNat (Fv P n)) (n %8))=UInt8.ofNat (Bk P (0+8*(n/8)) (n %8+1)):=by
   rw[or8 (Nh _ _ _) (by rw[Nat.mul_comm];omega) (by omega),hsn,Nat.mul_comm (2^(n %8))]
  rw[hroom,Ry,Zc,hqo,hro,hq8,hr8,hgm,Aa,Aa,Ay (by rw[Cl];simp;omega),Aa,hg,Aa,Ay (by rw[Cl];simp;omega),Aa,Aa,Aa,
   show(GI.toZ ((o %8:Nat):Int)).toNat=o %8 from rfl,show(GI.toZ ((n %8:Nat):Int)).toNat=n %8 from rfl,hbit,hnew,Oz _ (by rw[Ml];omega),Aa,Az4 P 0 n 1 (by omega) (by omega),Zq,Akm,Ag (by omega) (by omega),Ag (by omega) (by omega)]
  exact ih
theorem Ckg(l m:List UInt8)(h:l.length+m.length≤1000000):Ks [l,m]=some (l++m):=by
 have hF:Al=(Al-3)+1+1+1:=by have:=Ak;omega
 rw[Ks,Mz,Mv]
 have g0:getI [l,m] (0:Int)=some l:=rfl
 have g1:getI [l,m] (1:Int)=some m:=rfl
 have l2:Ac [l,m]=2:=rfl
 have h3:Hk [l,m] []=some (l++m):=by
  rw[Hk,Lu,Mc,hF,Dl,Ez,l2,if_pos (by decide),g0,Aa,Bt (by simp;omega),Aa,List.nil_append,show Ad (0:Int) 1=1 by decide,
   Dl,Ez,l2,if_pos (by decide),g1,Aa,Bt (by omega),Aa,show Ad (1:Int) 1=2 by decide,Dl,Ez,l2,if_neg (by decide)]
  rfl
 rw[hF,Dr,Fo,l2,if_pos (by decide),g0,Aa,Ag (by unfold Ac;omega) (by unfold Ac;omega),if_neg (by rw[Af,Ac];simp),show Ad (0:Int) 1=1 by decide,
  Dr,Fo,l2,if_pos (by decide),g1,Aa,Ag (by unfold Ac;omega) (by unfold Ac;omega),if_neg (by rw[Af,Ac,Ac];simp;omega),show Ad (1:Int) 1=2 by decide,
  Dr,Fo,l2,if_neg (by decide),Lp,Lq,if_neg (by rw[Af,Ac,Ac];simp;omega),Mb,Ma]
 have z:Ah (0:Int) 0=0:=by decide
 have n0:(0:Int)+Ac l+Ac m=((l.length+m.length:Nat):Int):=by simp[Ac]
 rw[z,n0,Bc (by omega) (by omega),Int.sub_zero]
 by_cases hp:0<l.length+m.length
 ·rw[if_pos (by rw[Am];simp;omega),show vwI (0:Int) 0 0=some ()from rfl,Aa,Ayj (by omega) (by omega),Aa,Bt (by simp;omega),Aa]
  rw[show vwI (Ac ([]++List.replicate ((l.length+m.length:Nat):Int).toNat (0:UInt8))) 0 0=some () by rw[vwI,Ay];simp[Ac];omega,Aa]
  simp only[Amq,Int.sub_self,Int.toNat_zero,List.take_zero]
  exact h3
 ·rw[if_neg (by rw[Am];simp;omega)];exact h3
theorem Boy(bits:Int)(ch:Nat)(h1:1≤ch)(h6:ch≤6)(V:List UInt32)(hV:V.length≤4000):∀(j i q:Nat),i+j=V.length→j<q→
  Gx V (ch:Int) bits q (i:Int) (sts ch (V.take i)) ((Pd ch V i).length:Int) (Jq (Pd ch V i))=some (Jq (Pd ch V V.length)++Qv (Cp (Jq (Pd ch V V.length))).toNat 4,0)
 |j,i,0,_,h=>absurd h (Nat.not_lt_zero _)
 |0,i,q+1,hi,_=>by
  obtain rfl:i=V.length:=by omega
  have hel:=Avd ch V V.length
  have hpl:=Wc (Pd ch V V.length)
  have hlt:=(Cp (Jq (Pd ch V V.length))).toNat_lt
  rw[Gx,Sf,if_neg (by rw[Af,Ac];simp),Zi,Aka,Bcv _ (by omega),Aa]
  simp only
  have e64:(UInt64.ofNat (Cp (Jq (Pd ch V V.length))).toNat).toNat=(Cp (Jq (Pd ch V V.length))).toNat:=Ank (by omega)
  rw[if_neg (by decide),Cr,show(4:Int)=((4:Nat):Int)from rfl,Alh _ 4 (by omega) (by omega) (by rw[e64];omega),Aa]
  simp only
  rw[if_neg (by decide),e64,Ckg _ _ (by rw[Bq];omega),Aa]
 |j+1,i,q+1,hi,hq=>by
  have hc:i %ch<6:=Nat.lt_of_lt_of_le (Nat.mod_lt _ (by omega)) h6
  have hvl:(V.take i).length=i:=by rw[List.length_take];omega
  have hel:=Avd ch V i
  have hk:=Bmw ch (V.take i)
  have hcl:=Aqm (V.getD i 0) hk.1 hk.2
  have ih:=Boy bits ch h1 h6 V hV j (i+1) q (by omega) (by omega)
  have hvi:V.getD i 0=V[i]'(by omega):=by rw[List.getD_eq_getElem?_getD,List.getElem?_eq_getElem (by omega)];rfl
  have htk:V.take i++[V.getD i 0]=V.take (i+1):=by rw[hvi,Kn (by omega)]
  have hst:=Bnn (ch:=ch) (v:=V.take i) hc
  have hset:=Buq (ch:=ch) (v:=V.take i) (V.getD i 0) hc (by rw[hvl])
  have hnow:chP ch (V.take i) (i %ch) (V.take i).length=now ch (V.take i):=Cew (by rw[hvl])
  rw[hnow]at hst hset
  rw[htk]at hset
  have hdp:=Ccj (k:=(now ch (V.take i)).1) (l:=(now ch (V.take i)).2.1) (s:=(now ch (V.take i)).2.2.1) (t:=(now ch (V.take i)).2.2.2) (Ava ch (V.take i) _ _) (V.getD i 0)
  have hpc:=Bn6 (Pd ch V i) (Pj (now ch (V.take i)).1 (now ch (V.take i)).2.1 (V.getD i 0)) (by omega) (Gx V (ch:Int) bits q) V (ch:Int) bits (i:Int) (sts ch (V.take (i+1))) (Pj (now ch (V.take i)).1 (now ch (V.take i)).2.1 (V.getD i 0)).length 0 Al (by omega) (by have:=Ak;omega)
  rw[show(Pd ch V i).length+0=(Pd ch V i).length from rfl,Boz _ (by rw[List.length_append];omega),List.take_left,show((0:Nat):Int)=0 from rfl]at hpc
  rw[Gx,Sf,if_pos (by rw[Af,Ac];simp;omega),Ba1 (by omega),Aa,Aa,Ay (by rw[Aj];simp;omega),Aa,Ae8,hst,Aa,Aa]
  refine Eq.trans (congrArg (fun o=>Option.bind o _) hdp) ?_
  rw[Aa]
  simp only
  rw[if_neg (by decide),Aa,Aa]
  refine Eq.trans (congrArg (fun o=>Option.bind o _) hset) ?_
  rw[Aa]
  refine Eq.trans hpc ?_
  rw[Ag (by omega) (by omega)]
  rw[Pd,List.length_append]at ih
  exact ih
theorem Bmz{bits:Int}{ch:Nat}{t x:List Int32}(hb:BitsOk bits)(ht:t.length=16)(h1:1≤ch)(h6:ch≤6)(hx1:1≤x.length)(hx4:x.length≤4000)(hm:x.length %ch=0)(hr:inR bits x):
  Qa (ch:Int) bits t x=some (Nk bits ch t x,0):=by
 have hV:=Bhj bits ch t x
 have h:=Boy bits ch h1 h6 (Km bits ch t x) (by omega) (Km bits ch t x).length 0 Al (by omega) (by have:=Ak;omega)
 have e0:Jq (Pd ch (Km bits ch t x) 0)=[]:=by simp[Pd,Jq]
 have e1:((Pd ch (Km bits ch t x) 0).length:Int)=0:=rfl
 rw[e0,e1,List.take_zero,hV,show((0:Nat):Int)=0 from rfl]at h
 rw[Qa,Adm,Bsr hb ht h1 h6 hx1 hx4 hm hr,Aa]
 simp only
 rw[if_neg (by decide),Bte ch,Aa,Nk,Al6,Zw]
 exact h
end Go.Pl
set_option linter.unusedVariables false
namespace Go.Pl
open Go Go.Lv
theorem Cdy:Rf=some true:=by kernel_rfl
end Go.Pl
set_option linter.unusedVariables false
set_option linter.unusedSimpArgs false
namespace Go.Pl
open Go Go.Lv
end Go.Pl
set_option linter.unusedVariables false
set_option linter.unusedSimpArgs false
namespace Go.Pl
open Go Go.Lv
theorem Az3(kind c w:Nat)(fr:List Int)(G:Nat→List UInt8×Int):∀(j k:Nat) (acc:List Int32),Bjl kind c w fr G j k acc=acc++Azn (Ahx kind c w fr G) j k
 |0,k,acc=>by simp[Bjl,Azn]
 |j+1,k,acc=>by rw[Bjl,Az3 kind c w fr G j (k+1),Azn,List.append_assoc]
theorem Cg8{r:Nat}(h1:1≤r)(h:r≤1048576):Oh (r:Int)=some ((longN r:Int),0):=by
 have hv:=Bi8 h
 have e:Ar (r:Int) 256=Ar 256 (r:Int):=by rw[Fq (by omega) (by omega),Fq (by omega) (by omega)];omega
 rw[Oh,if_neg (by simp[Af,Am];omega),e]
 have hq:0≤Bg (Ar 256 (r:Int)) 245:=by
  have e2:Ar 256 (r:Int)=((256*r:Nat):Int):=by rw[Fq (by omega) (by omega)];omega
  rw[e2,show(245:Int)=((245:Nat):Int)from rfl,Ar2 (by omega)];omega
 rw[Bgx]at hv
 by_cases hz:Bg (Ar 256 (r:Int)) 245=0
 ·rw[if_pos (by rw[Bb];simpa using hz)]
  rw[hz]at hv
  have:(1:Int)=(longN r:Int):=by omega
  rw[this]
 ·rw[if_neg (by rw[Bb];simpa using hz)]
  have:Bg (Ar 256 (r:Int)) 245=(longN r:Int):=by omega
  rw[this]
end Go.Pl
set_option linter.unusedVariables false
set_option linter.unusedSimpArgs false
namespace Go.Pl
open Go Go.Lv
structure ClipOk (c w r n:Nat) (x:List Int32):Prop where
 ch:1≤c∧c≤6
 bits:BitsOk (w:Int)
 rate:1≤r∧r≤1048576
 cnt:1≤n∧n≤4000/c
 len:x.length=n*c
 fr:(n-1)/longN r+1≤1000
 rng:inR (w:Int) x
theorem ClipOk.le{c w r n:Nat}{x:List Int32}(h:ClipOk c w r n x):n≤4000∧n*c≤4000∧1≤x.length∧x.length≤4000:=by
 have h1:=Nat.mul_le_mul_right c h.cnt.2
 have h2:=Nat.div_mul_le_self 4000 c
 have h3:=Nat.div_le_self 4000 c
 have h4:=Nat.mul_pos h.cnt.1 h.ch.1
 have h5:=h.len
 have:=h.cnt
 omega
theorem ClipOk.w3{c w r n:Nat}{x:List Int32}(h:ClipOk c w r n x):w=8∨w=16∨w=24:=by
 have:=h.bits
 unfold BitsOk at this
 omega
theorem ClipOk.shape{c w r n:Nat}{x:List Int32}(h:ClipOk c w r n x)(f:Nat)(hf:f=1∨f=2):shapeB f c w r n=true:=by
 have:=h.w3
 have:=h.ch
 have:=h.rate
 have:=h.cnt
 simp only[shapeB,decide_eq_true_eq]
 omega
theorem ClipOk.fit{c w r n:Nat}{x:List Int32}(h:ClipOk c w r n x):fitB c r n=true:=by
 have:=h.cnt
 have:=h.fr
 simp only[fitB,decide_eq_true_eq]
 omega
theorem Ci9{bits:Int}(h:BitsOk bits){l:List Int32}(hl:l.length≤4000):cadenzaref18_Check bits l=some 0∨cadenzaref18_Check bits l=some 16:=by
 have hh:=Ah0 bits
 have key:∀(j i q:Nat),i+j=l.length→j<q→As l (hB bits) q (i:Int)=some 0∨As l (hB bits) q (i:Int)=some 16:=by
  intro j
  induction j with
  |zero=>
   intro i q hi hq
   obtain⟨q,rfl⟩:∃q',q=q'+1:=⟨q-1,by omega⟩
   rw[As,Cd,if_neg (by rw[Af,Ac];simp;omega)]
   exact .inl rfl
  |succ j ih=>
   intro i q hi hq
   obtain⟨q,rfl⟩:∃q',q=q'+1:=⟨q-1,by omega⟩
   have ih:=ih (i+1) q (by omega) (by omega)
   have hi1:Ad (i:Int) 1=((i+1:Nat):Int):=by rw[Ag (by omega) (by omega)];omega
   rw[As,Cd,if_pos (by rw[Af,Ac];simp;omega),Bu (by omega),Aa,Aa,hi1]
   split
   ·exact .inr rfl
   ·split
    ·exact .inr rfl
    ·exact ih
 have hk:=key l.length 0 Al (by omega) (by have:=Ak;omega)
 rw[cadenzaref18_Check,Cx,Ak2 h,Aa,if_neg (by rw[Bb];simp;omega),if_neg (by rw[Am,Ac];simp;omega)]
 exact hk
theorem Bab{bits:Int}(h:¬BitsOk bits):Gg bits=some 0∧Oc bits=some (0,0,2):=by
 unfold BitsOk at h
 constructor
 ·rw[Gg,if_neg (by rw[Bb,beq_iff_eq];omega),if_neg (by rw[Bb,beq_iff_eq];omega),if_neg (by rw[Bb,beq_iff_eq];omega)]
 ·have e:(geq bits 24)=false:=by rw[Bb,beq_eq_false_iff_ne];omega
  rw[Oc,Ajz,if_neg (by rw[Bb,beq_iff_eq];omega),if_neg (by rw[Bb,beq_iff_eq];omega),e,Aj0,Au7,if_neg (by decide)]
theorem Bb1{r:Nat}(h:r≤1048576):∀(j n q:Nat) (acc:List Int),n≤4000→n≤j→j<q→acc.length+n≤10000→
  Ib (longN r:Int) q (n:Int) acc=some (if 1000<(acc++(if n=0 then []else framesL (longN r) n)).length then([],4)else(acc++(if n=0 then []else framesL (longN r) n),0))
 |j,n,0,acc,_,_,h,_=>absurd h (Nat.not_lt_zero _)
 |j,n,q+1,acc,hn,hj,hq,ha=>by
  have hp:=Ie r
  by_cases h0:n=0
  ·subst h0
   rw[if_pos rfl,List.append_nil,Ib,Pq,if_neg (by rw[Am];simp),Xc,Ai4,Am,Ac]
   by_cases hk:1000<acc.length
   ·rw[if_pos hk,if_pos (by simp;omega)]
   ·rw[if_neg hk,if_neg (by simp;omega)]
  ·obtain⟨j,rfl⟩:∃j',j=j'+1:=⟨j-1,by omega⟩
   rw[Ib,Pq,if_pos (by rw[Am];simp;omega),Bt (by simp;omega),Aa,Afb]
   by_cases hs:n≤longN r
   ·rw[show min (n:Int) (longN r:Int)=(n:Int) by omega,Bc (by omega) (by omega),Int.sub_self]
    have ih:=Bb1 h j 0 q (acc++[(n:Int)]) (by omega) (by omega) (by omega) (by simp;omega)
    rw[if_pos rfl,List.append_nil]at ih
    rw[if_neg h0,Ayc hs (by omega)]
    exact ih
   ·rw[show min (n:Int) (longN r:Int)=(longN r:Int) by omega,Bc (by omega) (by omega),show(n:Int)-(longN r:Int)=((n-longN r:Nat):Int) by omega]
    have e:acc++framesL (longN r) n=(acc++[(longN r:Int)])++framesL (longN r) (n-longN r):=by rw[Bdw hp (show longN r<n by omega)];simp
    have ih:=Bb1 h j (n-longN r) q (acc++[(longN r:Int)]) (by omega) (by omega) (by omega) (by simp;omega)
    rw[if_neg (show ¬n-longN r=0 by omega),←e]at ih
    rw[if_neg h0]
    exact ih
theorem Bsy(C W R:Int)(x:List Int32)(hlen:x.length<4611686018427387904):(Cj C W R x=some 8∧Ds C W R x=some 8)∨
  (∃c w r n:Nat,C=(c:Int)∧W=(w:Int)∧R=(r:Int)∧ClipOk c w r n x∧Cj C W R x=some 0∧Ds C W R x=some 0):=by
 have bad24:∀e:Int,e≠0→Bw C W x=some e→Cj C W R x=some 8:=by
  intro e he h
  rw[Cj,Gy,Aa]
  simp only
  rw[h,Aa,if_pos (by rw[Aj];simpa using he)]
 by_cases hC:C<1
 ·refine .inl ⟨bad24 2 (by decide) ?_,?_⟩
  ·rw[Bw,Ck,if_pos (by simp[Af,Am];omega),Aa,if_pos (by decide)]
  ·rw[Ds,if_pos (by rw[Af];simpa using hC)]
 obtain⟨c,rfl⟩:=Int.eq_ofNat_of_zero_le (show 0≤C by omega)
 have hc1:1≤c:=by omega
 have hq:Bg (Ac x) (c:Int)=((x.length/c:Nat):Int):=by rw[Ac,Ar2 (by omega)]
 have hr0:Ff (Ac x) (c:Int)=((x.length %c:Nat):Int):=by rw[Ac,Ae8]
 have Byv:(∀m:Nat,x.length=m*c→Ae0 (c:Int) W R x (m:Int)=some 8)→Ds (c:Int) W R x=some 8:=by
  intro h
  rw[Ds,if_neg (by rw[Af];simpa using hC),Ay (by rw[Aj];simp;omega),Aa,hr0]
  by_cases hm:x.length %c=0
  ·have hx:x.length=x.length/c*c:=by have:=Nat.div_add_mod x.length c;rw[hm,Nat.mul_comm]at this;omega
   rw[hm,if_neg (by decide),Aa,hq,h _ hx,Aa,if_pos (by decide)]
  ·rw[if_pos (by rw[Aj];simp;omega)]
 by_cases h6:6<c
 ·refine .inl ⟨bad24 2 (by decide) ?_,Byv fun m hm=>?_⟩
  ·rw[Bw,Ck,if_pos (by simp[Af,Am];omega),Aa,if_pos (by decide)]
  ·rw[Ae0,Afm,Aa]
   simp only
   have:Eg (c:Int) W=some 2:=by
    rw[Eg]
    by_cases hb:BitsOk W
    ·rw[Bf7 hb,Aa]
     simp only
     rw[if_pos (by simp[Aj,Af,Am];omega)]
    ·rw[(Bab hb).2,Aa]
     simp only
     rw[if_pos (by simp[Aj])]
   rw[this,Aa,if_pos (by simp[Aj])]
 by_cases hb:BitsOk W
 rotate_left
 ·refine .inl ⟨bad24 2 (by decide) ?_,Byv fun m hm=>?_⟩
  ·rw[Bw,Ck,if_neg (by simp[Af,Am];omega),(Bab hb).1,Aa,if_pos (by decide),Aa,if_pos (by decide)]
  ·rw[Ae0,Afm,Aa]
   simp only
   have:Eg (c:Int) W=some 2:=by
    rw[Eg,(Bab hb).2,Aa]
    simp only
    rw[if_pos (by simp[Aj])]
   rw[this,Aa,if_pos (by simp[Aj])]
 have hhB:=Ah0 W
 have e20:Ck (c:Int) W=some 0:=by
  rw[Ck,if_neg (by simp[Af,Am];omega),Ak2 hb,Aa,if_neg (by rw[Bb];simp;omega)]
 have hq4:=Bbd hc1 (show c≤6 by omega)
 have ecf:=Bsn hb hc1 (show c≤6 by omega)
 have headQ:∀m:Nat,Ae0 (c:Int) W R x (m:Int)=if m<1∨4000/c<m then some 8 else Option.bind (Ho R (m:Int)) fun y=>if(Be y.2 0)=true then some 8 else some 0:=by
  intro m
  rw[Ae0,Afm,Aa]
  simp only
  rw[ecf,Aa]
  by_cases hm:m<1
  ·rw[if_pos (by simp[Aj,Af];omega),if_pos (.inl hm)]
  ·rw[if_neg (by simp[Aj,Af];omega),Ay (by rw[Aj];simp;omega),Aa,hq4]
   by_cases hm2:4000/c<m
   ·rw[if_pos (by rw[Am,decide_eq_true_eq,gt_iff_lt,Int.ofNat_lt];exact hm2),if_pos (.inr hm2)]
   ·rw[if_neg (by rw[Am,decide_eq_true_eq,gt_iff_lt,Int.ofNat_lt];exact hm2),if_neg (by omega)]
 by_cases hx4:4000<x.length
 ·refine .inl ⟨bad24 4 (by decide) ?_,Byv fun m hm=>?_⟩
  ·have:cadenzaref18_Check W x=some 4:=by
    rw[cadenzaref18_Check,Cx,Ak2 hb,Aa,if_neg (by rw[Bb];simp;omega),if_pos (by rw[Am,Ac];simp;omega)]
   rw[Bw,e20,Aa,if_neg (by decide),this,Aa,if_pos (by decide),Aa]
  ·rw[headQ,if_pos]
   refine .inr ?_
   rw[Nat.div_lt_iff_lt_mul (by omega)]
   omega
 have hx4:x.length≤4000:=by omega
 have hsame:=Ark hb x hx4
 rcases Ci9 hb hx4 with h18|h18
 rotate_left
 ·refine .inl ⟨bad24 16 (by decide) ?_,?_⟩
  ·rw[Bw,e20,Aa,if_neg (by decide),h18,Aa,if_pos (by decide),Aa]
  ·rw[Ds,if_neg (by rw[Af];simpa using hC),Ay (by rw[Aj];simp;omega),Aa,hr0]
   by_cases hm:x.length %c=0
   ·rw[hm,if_neg (by decide),Aa,hq,headQ]
    split
    ·rw[Aa,if_pos (by decide)]
    ·rename_i hh
     by_cases hR:1≤R∧R≤1048576
     ·obtain⟨r,rfl⟩:=Int.eq_ofNat_of_zero_le (show 0≤R by omega)
      have hd:=Nat.div_le_self x.length c
      rw[Ar4 (by omega) (by omega) (by omega) (by omega),Aa]
      split
      ·rw[if_pos (by decide),Aa,if_pos (by decide)]
      ·rw[if_neg (by simp[Aj]),Aa,if_neg (by decide),hsame,h18,Aa,if_pos (by decide)]
     ·rw[Ho,Rv,if_pos (by simp[Af,Am];omega),Aa]
      simp only
      rw[if_pos (by decide),Aa]
      simp only
      rw[if_pos (by decide),Aa,if_pos (by decide)]
   ·rw[if_pos (by rw[Aj];simp;omega)]
 by_cases hx1:x.length<1
 ·refine .inl ⟨bad24 2 (by decide) ?_,Byv fun m hm=>?_⟩
  ·rw[Bw,e20,Aa,if_neg (by decide),h18,Aa,if_neg (by decide),if_pos (by rw[Af,Ac];simp;omega)]
  ·have h0:m*c=0:=by omega
   have:m=0:=by rcases Nat.mul_eq_zero.1 h0 with h|h<;>omega
   rw[headQ,if_pos (.inl (by omega))]
 have hA:x.length %c=0→Bw (c:Int) W x=some 0:=by
  intro hm
  rw[Bw,e20,Aa,if_neg (by decide),h18,Aa,if_neg (by decide),if_neg (by rw[Af,Ac];simp;omega),Ay (by rw[Aj];simp;omega),Aa,hr0,hm,if_neg (by decide)]
 by_cases hm:x.length %c=0
 rotate_left
 ·refine .inl ⟨bad24 2 (by decide) ?_,?_⟩
  ·rw[Bw,e20,Aa,if_neg (by decide),h18,Aa,if_neg (by decide),if_neg (by rw[Af,Ac];simp;omega),Ay (by rw[Aj];simp;omega),Aa,hr0,if_pos (by rw[Am];simp;omega)]
  ·rw[Ds,if_neg (by rw[Af];simpa using hC),Ay (by rw[Aj];simp;omega),Aa,hr0,if_pos (by rw[Aj];simp;omega)]
 have hxn:x.length=x.length/c*c:=by have:=Nat.div_add_mod x.length c;rw[hm,Nat.mul_comm]at this;omega
 generalize hN:x.length/c=n at*
 have hn1:1≤n:=by
  by_cases h0:n=0
  ·rw[h0]at hxn;omega
  ·omega
 have hn4:n≤4000/c:=by rw[←hN];exact Nat.div_le_div_right hx4
 have hn4':n≤4000:=Nat.le_trans hn4 (Nat.div_le_self _ _)
 have e21:Cw (c:Int) W (n:Int)=some 0:=by
  rw[Cw,e20,Aa,if_neg (by simp[Aj,Af];omega),Ay (by rw[Aj];simp;omega),Aa,hq4,if_neg (by rw[Am,decide_eq_true_eq,gt_iff_lt,Int.ofNat_lt];omega)]
 have goal24:∀z e:Int,Jf R (n:Int)=some (z,e)→Cj (c:Int) W R x=some (if e=0 then 0 else 8):=by
  intro z e hz
  rw[Cj,Gy,Aa]
  simp only
  rw[hA hm,Aa,if_neg (by decide),Ay (by rw[Aj];simp;omega),Aa,hq,Acb,Gy,Aa]
  simp only
  rw[e21,Aa,if_neg (by decide),hz,Aa,Aa,Bb]
  by_cases he:e=0
  ·subst he;rfl
  ·rw[if_neg he,if_pos (by simpa using he)]
 have goalP:Ds (c:Int) W R x=Option.bind (Option.bind (Ho R (n:Int)) fun y=>if(Be y.2 0)=true then some 8 else some 0) fun g=>if(Be g 0)=true then some g else some 0:=by
  rw[Ds,if_neg (by rw[Af];simpa using hC),Ay (by rw[Aj];simp;omega),Aa,hr0,hm,if_neg (by decide),Aa,hq,headQ,if_neg (by omega),hsame,h18]
  rfl
 by_cases hR:1≤R∧R≤1048576
 rotate_left
 ·refine .inl ⟨?_,?_⟩
  ·refine goal24 0 2 ?_
   rw[Jf,Wd,Pr,Oh,if_pos (by simp[Af,Am];omega),Aa]
   simp only
   rw[if_pos (by simp[Aj]),Aa]
   rfl
  ·rw[goalP,Ho,Rv,if_pos (by simp[Af,Am];omega),Aa]
   simp only
   rw[if_pos (by decide),Aa]
   simp only
   rw[if_pos (by decide),Aa,if_pos (by decide)]
 obtain⟨r,rfl⟩:=Int.eq_ofNat_of_zero_le (show 0≤R by omega)
 have hl:=Bb1 (r:=r) (by omega) n n Al [] hn4' (Nat.le_refl _) (by have:=Ak;omega) (by simp;omega)
 rw[if_neg (show ¬n=0 by omega),List.nil_append,Agy]at hl
 have hcount:∃z:Int,Jf (r:Int) (n:Int)=some (z,if 1000<(n-1)/longN r+1 then 4 else 0):=by
  rw[Jf,Wd,Pr,Cg8 (by omega) (by omega),Aa]
  simp only
  rw[if_neg (by simp[Aj,Af,Am];omega),Wy,hl,Aa]
  split<;>exact⟨_,rfl⟩
 obtain⟨z,hz⟩:=hcount
 have h24:=goal24 z _ hz
 rw[Ar4 (by omega) (by omega) hn1 hn4',Aa]at goalP
 by_cases hk:1000<(n-1)/longN r+1
 ·rw[if_pos hk]at h24 goalP
  exact .inl ⟨h24,goalP⟩
 ·rw[if_neg hk]at h24 goalP
  have hw:∃w:Nat,W=(w:Int):=by
   rcases hb with rfl|rfl|rfl
   ·exact⟨8,rfl⟩
   ·exact⟨16,rfl⟩
   ·exact⟨24,rfl⟩
  obtain⟨w,rfl⟩:=hw
  exact .inr ⟨c,w,r,n,rfl,rfl,rfl,⟨⟨hc1,by omega⟩,hb,by omega,⟨hn1,hn4⟩,hxn,by omega,Aw1 hb hx4 h18⟩,h24,goalP⟩
theorem Byl(C W R:Int){x:List Int32}(h:4000<x.length):Cj C W R x=some 8:=by
 have key:∃e:Int,e≠0∧Bw C W x=some e:=by
  rw[Bw,Ck]
  by_cases h1:((Ch C 1)||(Ga C 6))=true
  ·rw[if_pos h1,Aa,if_pos (by decide)];exact⟨2,by decide,rfl⟩
  ·rw[if_neg h1]
   by_cases hb:BitsOk W
   ·have hh:=Ah0 W
    have h18:cadenzaref18_Check W x=some 4:=by
     rw[cadenzaref18_Check,Cx,Ak2 hb,Aa,if_neg (by rw[Bb];simp;omega),if_pos (by rw[Am,Ac];simp;omega)]
    rw[Ak2 hb,Aa,if_neg (by rw[Bb];simp;omega),Aa,if_neg (by decide),h18,Aa,if_pos (by decide),Aa]
    exact⟨4,by decide,rfl⟩
   ·rw[(Bab hb).1,Aa,if_pos (by decide),Aa,if_pos (by decide)]
    exact⟨2,by decide,rfl⟩
 obtain⟨e,he,h1⟩:=key
 rw[Cj,Gy,Aa]
 simp only
 rw[h1,Aa,if_pos (by rw[Aj];simpa using he)]
theorem Bps(C W R:Int)(x:List Int32):(Cj C W R x=some 8∧(x.length<4611686018427387904→Ds C W R x=some 8))∨
  (∃c w r n:Nat,C=(c:Int)∧W=(w:Int)∧R=(r:Int)∧ClipOk c w r n x∧Cj C W R x=some 0∧Ds C W R x=some 0):=by
 by_cases hx:x.length<4611686018427387904
 ·rcases Bsy C W R x hx with⟨h1,h2⟩|h
  ·exact .inl ⟨h1,fun _=>h2⟩
  ·exact .inr h
 ·exact .inl ⟨Byl C W R (by omega),fun h=>absurd h hx⟩
end Go.Pl
set_option linter.unusedVariables false
set_option linter.unusedSimpArgs false
namespace Go.Pl
open Go Go.Lv
def Bb7(f c w r n:Nat):List UInt8:=Oj++Qv f 2++Qv c 2++Qv w 2++Qv r 4++Qv n 4
def hdrB(f c w r n:Nat):List UInt8:=Bb7 f c w r n++Qv (Cp (Bb7 f c w r n)).toNat 4
theorem Apx(f c w r n:Nat):(Bb7 f c w r n).length=18:=by simp only[Bb7,Oj,List.length_append,Bq];rfl
theorem Ap4(f c w r n:Nat):(hdrB f c w r n).length=22:=by rw[hdrB,List.length_append,Apx,Bq]
theorem Bha(b f g h k:Int)(m v w q:Nat)(a:List UInt8)(hm:m<5)(hv:getI ([b,f,g,h,k]:List Int) (m:Int)=some (v:Int))(hw:getI ([2,2,2,4,4]:List Int) (m:Int)=some (w:Int))(h1:1≤w)(h8:w≤8)(hlt:v<256^w)(h64:v<18446744073709551616)(ha:a.length≤100):
  Ky b f g h k (q+1) (m:Int) a=Ky b f g h k q ((m+1:Nat):Int) (a++Qv v w):=by
 have e64:(UInt64.ofNat v).toNat=v:=Ank (by omega)
 have hi1:Ad (m:Int) 1=((m+1:Nat):Int):=by rw[Ag (by omega) (by omega)];omega
 rw[Ky,Ym,if_pos (by rw[Af];simp;omega),hv,Aa,hw,Aa,Td,Alh _ w h1 h8 (by rw[e64];exact hlt),Aa]
 simp only
 rw[Bt (by rw[Bq];omega),Aa,hi1,e64]
theorem Bmh{f c w r n:Nat}(h1:shapeB f c w r n=true)(h2:fitB c r n=true):Ajf (f:Int) (c:Int) (w:Int) (r:Int) (n:Int)=some (hdrB f c w r n,0):=by
 have hs:(f=1∨f=2)∧(1≤c∧c≤6)∧(w=8∨w=16∨w=24)∧(1≤r∧r≤1048576)∧1≤n:=by simpa only[shapeB,decide_eq_true_eq]using h1
 have hn:n≤4000:=by
  simp only[fitB,decide_eq_true_eq]at h2
  have:=Nat.div_le_self 4000 c
  omega
 have hck:Sa (f:Int) (c:Int) (w:Int) (r:Int) (n:Int)=some 0:=by
  rw[Sa,Avw,Aa,h1,if_neg (by decide),Bca h1,Aa,h2,if_neg (by decide)]
 have hF:Al=(Al-6)+1+1+1+1+1+1:=by have:=Ak;omega
 have hlt:=(Cp (Bb7 f c w r n)).toNat_lt
 have e64:(UInt64.ofNat (Cp (Bb7 f c w r n)).toNat).toNat=(Cp (Bb7 f c w r n)).toNat:=Ank (by omega)
 have hfin:Yt (Bb7 f c w r n)=some (hdrB f c w r n,0):=by
  rw[Yt,Atd,Bcv _ (by rw[Apx];omega),Aa]
  simp only
  rw[Cr,show(4:Int)=((4:Nat):Int)from rfl,Alh _ 4 (by omega) (by omega) (by rw[e64];omega),Aa]
  simp only
  rw[Bt (by rw[Apx,Bq];omega),Aa,e64]
  rfl
 rw[Ajf,Aio,hck,Aa,if_neg (by decide),Ah5,hF]
 have s0:=Bha (f:Int) (c:Int) (w:Int) (r:Int) (n:Int) 0 f 2 ((Al-6)+1+1+1+1+1) Oj (by omega) rfl rfl (by omega) (by omega) (by omega) (by omega) (by decide)
 have s1:=Bha (f:Int) (c:Int) (w:Int) (r:Int) (n:Int) 1 c 2 ((Al-6)+1+1+1+1) (Oj++Qv f 2) (by omega) rfl rfl (by omega) (by omega) (by omega) (by omega) (by simp[Bq,Oj])
 have s2:=Bha (f:Int) (c:Int) (w:Int) (r:Int) (n:Int) 2 w 2 ((Al-6)+1+1+1) (Oj++Qv f 2++Qv c 2) (by omega) rfl rfl (by omega) (by omega) (by omega) (by omega) (by simp[Bq,Oj])
 have s3:=Bha (f:Int) (c:Int) (w:Int) (r:Int) (n:Int) 3 r 4 ((Al-6)+1+1) (Oj++Qv f 2++Qv c 2++Qv w 2) (by omega) rfl rfl (by omega) (by omega) (by omega) (by omega) (by simp[Bq,Oj])
 have s4:=Bha (f:Int) (c:Int) (w:Int) (r:Int) (n:Int) 4 n 4 ((Al-6)+1) (Oj++Qv f 2++Qv c 2++Qv w 2++Qv r 4) (by omega) rfl rfl (by omega) (by omega) (by omega) (by omega) (by simp[Bq,Oj])
 refine s0.trans (s1.trans (s2.trans (s3.trans (s4.trans ?_))))
 rw[Ky,Ym,if_neg (by decide)]
 exact hfin
def Amo(l:List Int):List UInt8:=l.flatMap fun x=>Qv x.toNat 4
def tblB(l:List Int):List UInt8:=Amo l++Qv (Cp (Amo l)).toNat 4
theorem Agw(l:List Int):(Amo l).length=4*l.length:=by
 induction l with
 |nil=>rfl
 |cons x l ih=>rw[Amo,List.flatMap_cons,List.length_append,Bq,show(l.flatMap fun x=>Qv x.toNat 4)=Amo l from rfl,ih,List.length_cons];omega
theorem Avs(l:List Int):(tblB l).length=4*l.length+4:=by rw[tblB,List.length_append,Agw,Bq]
theorem Bx2(l:List Int)(x:Int):Amo (l++[x])=Amo l++Qv x.toNat 4:=by simp[Amo]
theorem Bdo(l:List Int)(hl:l.length≤1000)(h5:∀x∈l,5≤x∧x≤100000):∀(j i q:Nat),i+j=l.length→j<q→Qj l q (i:Int) (Amo (l.take i))=some (tblB l,0)
 |j,i,0,_,h=>absurd h (Nat.not_lt_zero _)
 |0,i,q+1,hi,_=>by
  have hlt:=(Cp (Amo l)).toNat_lt
  have e64:(UInt64.ofNat (Cp (Amo l)).toNat).toNat=(Cp (Amo l)).toNat:=Ank (by omega)
  rw[Qj,Ab5,if_neg (by rw[Af,Ac];simp;omega),List.take_of_length_le (by omega),Aim,Aiq,Bcv _ (by rw[Agw];omega),Aa]
  simp only
  rw[Cr,show(4:Int)=((4:Nat):Int)from rfl,Alh _ 4 (by omega) (by omega) (by rw[e64];omega),Aa]
  simp only
  rw[Bt (by rw[Agw,Bq];omega),Aa,e64]
  rfl
 |j+1,i,q+1,hi,hq=>by
  have ih:=Bdo l hl h5 j (i+1) q (by omega) (by omega)
  obtain⟨x5,x6⟩:=h5 l[i] (List.getElem_mem _)
  obtain⟨v,hv⟩:=Int.eq_ofNat_of_zero_le (show 0≤l[i] by omega)
  have e64:(UInt64.ofNat v).toNat=v:=Ank (by omega)
  have hi1:Ad (i:Int) 1=((i+1:Nat):Int):=by rw[Ag (by omega) (by omega)];omega
  rw[Qj,Ab5,if_pos (by rw[Af,Ac];simp;omega),Bu (by omega),Aa,hv,Td,show(4:Int)=((4:Nat):Int)from rfl,Alh _ 4 (by omega) (by omega) (by rw[e64];omega),Aa]
  simp only
  rw[Bt (by rw[Agw,Bq,List.length_take];omega),Aa,Air,As8,hi1,e64]
  rw[Kn (by omega),Bx2,hv,Int.toNat_natCast]at ih
  exact ih
theorem Bn8(l:List Int):Am0 l=some (if Afc l=true then(tblB l,0)else([],8)):=by
 rw[Am0,Akl,Av8,Aa]
 by_cases h:Afc l=true
 ·rw[if_pos h,if_pos h,if_neg (by decide)]
  simp only[Afc,Bool.and_eq_true,decide_eq_true_eq]at h
  obtain⟨⟨h1,h2⟩,h3⟩:=h
  have h4:=(Ar5 l 100000 (by omega)).1 h3
  have h6:=Bdb h4.1
  have hl:=Bdo l h2 (fun x hx=>⟨h4.1 x hx,by have:=h6 x hx;omega⟩) l.length 0 Al (by omega) (by have:=Ak;omega)
  exact hl
 ·rw[if_neg h,if_neg h,if_pos (by decide)]
theorem Bk7(l:List LB)(hl:l.length≤100000)(hf:l.flatten.length≤1000000):∀(j i q:Nat),i+j=l.length→j<q→Qd l q (i:Int) (l.take i).flatten=some l.flatten
 |j,i,0,_,h=>absurd h (Nat.not_lt_zero _)
 |0,i,q+1,hi,_=>by
  rw[Qd,Adw,if_neg (by rw[Af,Ac];simp;omega),List.take_of_length_le (by omega)]
  rfl
 |j+1,i,q+1,hi,hq=>by
  have ih:=Bk7 l hl hf j (i+1) q (by omega) (by omega)
  have hi1:Ad (i:Int) 1=((i+1:Nat):Int):=by rw[Ag (by omega) (by omega)];omega
  have hsn:(l.take (i+1)).flatten=(l.take i).flatten++l[i]:=by rw[Kn (by omega),List.flatten_append];simp
  have hsp:l.flatten=(l.take (i+1)).flatten++(l.drop (i+1)).flatten:=by rw[←List.flatten_append,List.take_append_drop]
  have hle:((l.take i).flatten).length+(l[i]).length≤1000000:=by
   rw[hsp,List.length_append,hsn,List.length_append]at hf;omega
  rw[Qd,Adw,if_pos (by rw[Af,Ac];simp;omega),Bu (by omega),Aa,Bt (by omega),Aa,hi1,←hsn]
  exact ih
theorem join_eq(l:List LB)(hl:l.length≤100000)(hf:l.flatten.length≤1000000):Avr l=some l.flatten:=by
 have h:=Bk7 l hl hf l.length 0 Al (by omega) (by have:=Ak;omega)
 exact h
def Zx(c:Nat):List Int32→List Int→List (List Int32)
 |_,[]=>[]
 |x,m::l=>x.take (m.toNat*c)::Zx c (x.drop (m.toNat*c)) l
theorem Azo(c:Nat):∀(l:List Int) (x:List Int32),(Zx c x l).length=l.length
 |[],x=>rfl
 |m::l,x=>by rw[Zx,List.length_cons,List.length_cons,Azo c l]
theorem Bd6(c:Nat):∀(l:List Int) (x:List Int32),(∀m∈l,0≤m)→x.length=l.sum.toNat*c→(Zx c x l).flatten=x
 |[],x,_,h=>by
  have:x=[]:=List.eq_nil_of_length_eq_zero (by simpa using h)
  rw[this];rfl
 |m::l,x,h0,h=>by
  have hm:=h0 m List.mem_cons_self
  have hl:0≤l.sum:=by
   have:∀l:List Int,(∀m∈l,0≤m)→0≤l.sum:=by
    intro l
    induction l with
    |nil=>intro _;simp
    |cons a l ih=>intro h;have:=ih (fun m hm=>h m (List.mem_cons_of_mem _ hm));have:=h a List.mem_cons_self;rw[List.sum_cons];omega
   exact this l fun m hm=>h0 m (List.mem_cons_of_mem _ hm)
  rw[List.sum_cons,show(m+l.sum).toNat=m.toNat+l.sum.toNat by omega,Nat.add_mul]at h
  have ih:=Bd6 c l (x.drop (m.toNat*c)) (fun m hm=>h0 m (List.mem_cons_of_mem _ hm)) (by rw[List.length_drop];omega)
  rw[Zx,List.flatten_cons,ih,List.take_append_drop]
theorem Ayg(c:Nat)(x:List Int32)(hx:x.length≤4000):∀(l:List Int) (a:Nat),(∀m∈l,1≤m)→a+l.sum.toNat*c=x.length→Oy (c:Int) x l (a:Int)=some (Zx c (x.drop a) l)
 |[],a,_,_=>rfl
 |m::l,a,h1,ha=>by
  have hm:=h1 m List.mem_cons_self
  have hl:=h1
  have hs:0≤l.sum:=by
   have:∀l:List Int,(∀m∈l,1≤m)→0≤l.sum:=by
    intro l
    induction l with
    |nil=>intro _;simp
    |cons a l ih=>intro h;have:=ih (fun m hm=>h m (List.mem_cons_of_mem _ hm));have:=h a List.mem_cons_self;rw[List.sum_cons];omega
   exact this l fun m hm=>h1 m (List.mem_cons_of_mem _ hm)
  obtain⟨k,rfl⟩:=Int.eq_ofNat_of_zero_le (show 0≤m by omega)
  rw[List.sum_cons,show((k:Int)+l.sum).toNat=k+l.sum.toNat by omega,Nat.add_mul]at ha
  have hkc:Ar (k:Int) (c:Int)=((k*c:Nat):Int):=by rw[Fq (by rw[←Int.natCast_mul];omega) (by rw[←Int.natCast_mul];omega),←Int.natCast_mul]
  have hadd:Ad (a:Int) ((k*c:Nat):Int)=((a+k*c:Nat):Int):=by rw[Ag (by omega) (by omega)];omega
  have ih:=Ayg c x hx l (a+k*c) (fun m hm=>h1 m (List.mem_cons_of_mem _ hm)) (by omega)
  rw[Oy,hkc,hadd,Ww (by omega) (by omega) (by omega),Aa,ih,Aa,Zx,Int.toNat_natCast,Int.toNat_natCast,Int.toNat_natCast,List.drop_drop,List.drop_take,Nat.add_sub_cancel_left]
theorem But(w c:Nat)(hb:BitsOk (w:Int))(h1:1≤c)(h6:c≤6)(t:List Int32)(ht:t.length=16):∀(xs:List (List Int32)) (o:List LB),o.length+xs.length≤10000→(∀y∈xs,1≤y.length∧y.length≤4000∧y.length %c=0∧inR (w:Int) y)→
  On (c:Int) (w:Int) t xs o=some (o++xs.map (Nk (w:Int) c t),0)
 |[],o,_,_=>by rw[On];simp
 |x::xs,o,ho,h=>by
  obtain⟨a1,a2,a3,a4⟩:=h x List.mem_cons_self
  rw[List.length_cons]at ho
  have ih:=But w c hb h1 h6 t ht xs (o++[Nk (w:Int) c t x]) (by simp;omega) (fun y hy=>h y (List.mem_cons_of_mem _ hy))
  rw[On,Bmz hb ht h1 h6 a1 a2 a3 a4,Aa,if_neg (by simp[Aj]),Bt (by simp;omega),Aa,ih,List.map_cons]
  simp
end Go.Pl
set_option linter.unusedVariables false
set_option linter.unusedSimpArgs false
namespace Go.Pl
open Go Go.Lv
theorem Ayu(c:Nat)(h1:1≤c):∀(l:List Int) (x:List Int32),(∀m∈l,1≤m)→x.length=l.sum.toNat*c→∀y∈Zx c x l,1≤y.length∧y.length≤x.length∧y.length %c=0∧∀v∈y,v∈x
 |[],x,_,_=>fun y hy=>by simp[Zx]at hy
 |m::l,x,hm,hx=>by
  have hm1:=hm m List.mem_cons_self
  have hl:0≤l.sum:=by
   have:∀l:List Int,(∀m∈l,1≤m)→0≤l.sum:=by
    intro l
    induction l with
    |nil=>intro _;simp
    |cons a l ih=>intro h;have:=ih (fun m hm=>h m (List.mem_cons_of_mem _ hm));have:=h a List.mem_cons_self;rw[List.sum_cons];omega
   exact this l fun m hm'=>hm m (List.mem_cons_of_mem _ hm')
  rw[List.sum_cons,show(m+l.sum).toNat=m.toNat+l.sum.toNat by omega,Nat.add_mul]at hx
  have hpos:1≤m.toNat*c:=Nat.mul_pos (by omega) h1
  intro y hy
  rw[Zx,List.mem_cons]at hy
  rcases hy with rfl|hy
  ·have hlen:(x.take (m.toNat*c)).length=m.toNat*c:=by rw[List.length_take];omega
   rw[hlen]
   exact⟨hpos,by omega,Nat.mul_mod_left _ _,fun v hv=>List.mem_of_mem_take hv⟩
  ·obtain⟨a1,a2,a3,a4⟩:=Ayu c h1 l (x.drop (m.toNat*c)) (fun m hm'=>hm m (List.mem_cons_of_mem _ hm')) (by rw[List.length_drop];omega) y hy
   rw[List.length_drop]at a2
   exact⟨a1,by omega,a3,fun v hv=>List.mem_of_mem_drop (a4 v hv)⟩
theorem Bij(bits:Int)(ch:Nat)(t x:List Int32)(h0:1≤x.length)(h4:x.length≤4000):5≤(Nk bits ch t x).length∧(Nk bits ch t x).length≤15*x.length:=by
 have h5:=Bfu bits ch t x h0 h4
 have h:=Avd ch (Km bits ch t x) x.length
 refine⟨h5.1,?_⟩
 rw[Nk,List.length_append,Bq,Al6,Wc]
 omega
def lensOf(fs:List LB):List Int:=fs.map fun f=>(f.length:Int)
theorem Ja(fs:List LB):(lensOf fs).length=fs.length:=by rw[lensOf,List.length_map]
theorem Aey:∀fs:List LB,(lensOf fs).sum=(fs.flatten.length:Int)
 |[]=>rfl
 |f::fs=>by rw[lensOf,List.map_cons,List.sum_cons,List.flatten_cons,List.length_append,show(fs.map fun f=>(f.length:Int))=lensOf fs from rfl,Aey fs];omega
theorem By8(bits:Int)(ch:Nat)(t:List Int32):∀ys:List (List Int32),(∀y∈ys,1≤y.length∧y.length≤4000)→((ys.map (Nk bits ch t)).flatten).length≤15*ys.flatten.length
 |[],_=>by simp
 |y::ys,h=>by
  have ih:=By8 bits ch t ys fun y hy=>h y (List.mem_cons_of_mem _ hy)
  obtain⟨h1,h4⟩:=h y List.mem_cons_self
  have:=(Bij bits ch t y h1 h4).2
  rw[List.map_cons,List.flatten_cons,List.flatten_cons,List.length_append,List.length_append];omega
def fmtOf(p:LB):Nat:=if p=[]then 1 else 2
def digP(p:LB):LB:=if p=[]then []else Qv (Aaa p).toNat 8
theorem Bo6(p:LB):fmtOf p=1∨fmtOf p=2:=by unfold fmtOf;split<;>simp
theorem Avf(p:LB):(digP p).length=if fmtOf p=2 then 8 else 0:=by
 unfold digP fmtOf
 by_cases h:p=[]
 ·rw[if_pos h,if_pos h];rfl
 ·rw[if_neg h,if_neg h,Bq];rfl
def Mi(c r n:Nat)(x:List Int32):List (List Int32):=Zx c x (framesL (longN r) n)
def frs(c w r n:Nat)(x:List Int32)(p:LB):List LB:=(Mi c r n x).map (Nk (w:Int) c (tapsOf p))
def Yd(c w r n:Nat)(x:List Int32)(p:LB):LB:=hdrB (fmtOf p) c w r n++(digP p++(tblB (lensOf (frs c w r n x p))++(frs c w r n x p).flatten))
theorem Mf{g n:Nat}(hg:1≤g)(h1:1≤n):∀m∈framesL g n,1≤m:=by
 intro m hm
 rw[framesL,List.mem_append,List.mem_replicate,List.mem_singleton]at hm
 have h:=Nat.div_mul_le_self (n-1) g
 rcases hm with⟨_,rfl⟩|rfl
 ·omega
 ·omega
section
variable {c w r n:Nat} {x:List Int32} (h:ClipOk c w r n x)
include h
theorem ClipOk.sum:(framesL (longN r) n).sum=(n:Int):=Bo5 h.cnt.1
omit h in
theorem Baz:(Mi c r n x).length=(framesL (longN r) n).length:=Azo _ _ _
theorem Blb:(Mi c r n x).flatten=x:=by
 refine Bd6 _ _ _ (fun m hm=>?_) ?_
 ·have:=Mf (Ie r) h.cnt.1 m hm
  omega
 ·rw[h.sum,h.len,Int.toNat_natCast]
theorem Ack:∀y∈Mi c r n x,1≤y.length∧y.length≤4000∧y.length %c=0∧inR (w:Int) y:=by
 intro y hy
 obtain⟨a1,a2,a3,a4⟩:=Ayu c h.ch.1 _ _ (Mf (Ie r) h.cnt.1) (by rw[h.sum,h.len,Int.toNat_natCast]) y hy
 have:=h.le
 exact⟨a1,by omega,a3,fun v hv=>h.rng v (a4 v hv)⟩
omit h in
theorem Be9(p:LB):(frs c w r n x p).length=(framesL (longN r) n).length:=by rw[frs,List.length_map];exact Azo _ _ _
theorem Bt7(p:LB):1≤(frs c w r n x p).length∧(frs c w r n x p).length≤1000:=by
 rw[Be9,Agy]
 exact⟨Nat.le_add_left _ _,h.fr⟩
theorem Bor(p:LB):((frs c w r n x p).flatten).length≤15*x.length:=by
 have:=By8 (w:Int) c (tapsOf p) (Mi c r n x) fun y hy=>⟨(Ack h y hy).1,(Ack h y hy).2.1⟩
 rw[Blb h]at this
 exact this
theorem Cad(p:LB):∀f∈frs c w r n x p,5≤f.length:=by
 intro f hf
 rw[frs,List.mem_map]at hf
 obtain⟨y,hy,rfl⟩:=hf
 exact(Bij _ _ _ _ (Ack h y hy).1 (Ack h y hy).2.1).1
theorem Bos(p:LB):Afc (lensOf (frs c w r n x p))=true:=by
 have h1:=Bt7 h p
 have h2:=Bor h p
 have h3:=h.le
 simp only[Afc,Bool.and_eq_true,decide_eq_true_eq]
 rw[Ar5 _ _ (by omega),Ja,Aey]
 refine⟨by omega,fun z hz=>?_,by omega⟩
 rw[lensOf,List.mem_map]at hz
 obtain⟨f,hf,rfl⟩:=hz
 have:=Cad h p f hf
 omega
omit h in
theorem Bjq(p:LB):(Yd c w r n x p).length=22+(if fmtOf p=2 then 8 else 0)+(4*(frs c w r n x p).length+4)+(frs c w r n x p).flatten.length:=by
 rw[Yd,List.length_append,List.length_append,List.length_append,Ap4,Avf,Avs,Ja];omega
theorem Cbt(p:LB):(Yd c w r n x p).length≤34+4*(frs c w r n x p).length+15*x.length:=by
 have h1:=Bjq (c:=c) (w:=w) (r:=r) (n:=n) (x:=x) p
 have h2:=Bor h p
 split at h1<;>omega
theorem Bjs(p:LB):(Yd c w r n x p).length≤64034:=by
 have:=Cbt h p
 have:=Bt7 h p
 have:=h.le
 omega
theorem Cae(hk:Ds (c:Int) (w:Int) (r:Int) x=some 0)(p:LB)(hp:p.length≤64):Ant (c:Int) (w:Int) (r:Int) x p=some ((fmtOf p:Int),(c:Int),(w:Int),(r:Int),(n:Int),0):=by
 have hc:=h.ch
 have hq:Bg (Ac x) (c:Int)=(n:Int):=by rw[Ac,Ar2 (by have:=h.le;omega),h.len,Nat.mul_div_cancel _ (by omega)]
 rw[Ant,Ac0,hk,Aa,if_neg (by decide),if_neg (by rw[Am,Ac];simp;omega),Ay (by rw[Aj];simp;omega),Aa,Aky,Awj,hq,fmtOf]
 by_cases h0:p=[]
 ·rw[if_neg (by simp[h0]),if_pos h0];rfl
 ·rw[if_pos (by simpa using h0),if_neg h0];rfl
theorem Bet(hk:Ds (c:Int) (w:Int) (r:Int) x=some 0)(p:LB)(hp:p.length≤64):Ag0 (c:Int) (w:Int) (r:Int) x p=some (frs c w r n x p,0):=by
 have hc:=h.ch
 have hle:=h.le
 have hr:=h.rate
 have hq:Bg (Ac x) (c:Int)=(n:Int):=by rw[Ac,Ar2 (by omega),h.len,Nat.mul_div_cancel _ (by omega)]
 have hcut:Aj9 (c:Int) (r:Int) x=some (Mi c r n x):=by
  have hp:=Ayg c x (by omega) (framesL (longN r) n) 0 (Mf (Ie r) h.cnt.1) (by rw[h.sum,h.len,Int.toNat_natCast];omega)
  rw[Aj9,Ay (by rw[Aj];simp;omega),Aa,hq,Bo2 hr.1 hr.2 h.cnt.1 (by omega) h.fr,Aa,Ay (by have:=h.fr;simp only[Ac,Agy,decide_eq_true_eq];omega),Aa]
  exact hp
 have hfs:=But w c h.bits hc.1 hc.2 (tapsOf p) (Ake p) (Mi c r n x) [] (by rw[Baz,Agy];exact Nat.le_trans (Nat.add_le_add_left h.fr _) (by simp)) (Ack h)
 rw[Ag0,hk,Aa,if_neg (by decide),Bkb p hp,Aa]
 simp only
 rw[if_neg (by decide),hcut,Aa,hfs]
 rfl
omit h in
theorem Bgt(a:List LB)(b f:LB)(v:LB)(ha:a.length≤1000)(hfin:Sp (lensOf a) a b f=some (v,0)):∀(j i q:Nat),i+j=a.length→j<q→Qh a b f q (i:Int) (lensOf (a.take i)++List.replicate j 0)=some (v,0)
 |j,i,0,_,h=>absurd h (Nat.not_lt_zero _)
 |0,i,q+1,hi,_=>by
  rw[Qh,Abs,if_neg (by rw[Af,Ac];simp;omega),List.take_of_length_le (by omega),List.replicate_zero,List.append_nil]
  exact hfin
 |j+1,i,q+1,hi,hq=>by
  have ih:=Bgt a b f v ha hfin j (i+1) q (by omega) (by omega)
  have hi1:Ad (i:Int) 1=((i+1:Nat):Int):=by rw[Ag (by omega) (by omega)];omega
  have hll:(lensOf (a.take i)).length=i:=by rw[Ja,List.length_take];omega
  have hset:(lensOf (a.take i)++List.replicate (j+1) (0:Int)).set i (Ac a[i])=lensOf (a.take (i+1))++List.replicate j 0:=by
   rw[List.replicate_succ,Am1 hll,Kn (by omega),lensOf,lensOf,List.map_append,List.append_assoc];rfl
  rw[Qh,Abs,if_pos (by rw[Af,Ac];simp;omega),Bu (by omega),Aa,Aa,Aoi,Aa,Bu (by rw[List.length_append,hll,List.length_replicate];omega),Aa,Oz _ (by rw[List.length_append,hll,List.length_replicate];omega),Aa,hset,Ais,As4,hi1]
  exact ih
theorem Bqg(hk:Ds (c:Int) (w:Int) (r:Int) x=some 0)(p:LB)(hp:p.length≤64):Ahf (c:Int) (w:Int) (r:Int) x p=some (Yd c w r n x p,0):=by
 have hn:=Bt7 h p
 have hfin:Sp (lensOf (frs c w r n x p)) (frs c w r n x p) (hdrB (fmtOf p) c w r n) (digP p)=some (Yd c w r n x p,0):=by
  have hl:=Bjs h p
  rw[Sp,Aip,Bn8,if_pos (Bos h p),Aa]
  simp only
  rw[Aik,Asy,if_neg (by decide),Bt (by simp;omega),Aa,join_eq _ (by simp;omega) (by
   have:(([hdrB (fmtOf p) c w r n,digP p,tblB (lensOf (frs c w r n x p))]++frs c w r n x p).flatten)=Yd c w r n x p:=by simp[Yd]
   rw[this];omega),Aa]
  simp[Yd]
 have hlp:=Bgt (frs c w r n x p) (hdrB (fmtOf p) c w r n) (digP p) _ (by omega) hfin (frs c w r n x p).length 0 Al (by omega) (by have:=Ak;omega)
 have h8:Acs (frs c w r n x p) (hdrB (fmtOf p) c w r n) (digP p)=some (Yd c w r n x p,0):=by
  rw[Acs,Ali,Ayj (by unfold Ac;omega) (by unfold Ac;omega),Aa,Ay (by rw[Bb];simp),Aa]
  exact hlp
 rw[Ahf,Aml,Cae h hk p hp,Aa]
 simp only
 rw[if_neg (by decide),Bet h hk p hp,Aa]
 simp only
 rw[if_neg (by decide),Bmh (h.shape _ (Bo6 p)) h.fit,Aa]
 simp only
 rw[if_neg (by decide)]
 by_cases h0:p=[]
 ·have e1:fmtOf p=1:=by rw[fmtOf,if_pos h0]
  have e2:digP p=[]:=by rw[digP,if_pos h0]
  rw[e2]at h8
  rw[if_neg (by rw[e1];decide)]
  exact h8
 ·have e1:fmtOf p=2:=by rw[fmtOf,if_neg h0]
  have e2:digP p=Qv (Aaa p).toNat 8:=by rw[digP,if_neg h0]
  rw[e2]at h8
  rw[if_pos (by rw[e1];decide),Bdc p hp,Aa]
  exact h8
end
end Go.Pl
set_option linter.unusedVariables false
set_option linter.unusedSimpArgs false
namespace Go.Pl
open Go Go.Lv
theorem Agu{a m z:LB}{i k:Nat}(hi:a.length=i)(hk:m.length=k):part (a++(m++z)) i k=m:=by
 subst hi hk
 rw[part,List.take_append,List.take_of_length_le (by omega),List.drop_left',Nat.add_sub_cancel_left,List.take_append_of_le_length (Nat.le_refl _),List.take_length]
 rfl
theorem Aav(f c w r n:Nat)(z:LB):hdrB f c w r n++z=Oj++(Qv f 2++(Qv c 2++(Qv w 2++(Qv r 4++(Qv n 4++(Qv (Cp (Bb7 f c w r n)).toNat 4++z)))))):=by
 simp only[hdrB,Bb7,List.append_assoc]
theorem Bwt{f c w r n:Nat}(h1:shapeB f c w r n=true)(h2:fitB c r n=true)(z:LB):readS (hdrB f c w r n++z)=((f:Int),(c:Int),(w:Int),(r:Int),(n:Int),0):=by
 have hs:(f=1∨f=2)∧(1≤c∧c≤6)∧(w=8∨w=16∨w=24)∧(1≤r∧r≤1048576)∧1≤n:=by simpa only[shapeB,decide_eq_true_eq]using h1
 have hn:n≤4000:=by
  simp only[fitB,decide_eq_true_eq]at h2
  have:=Nat.div_le_self 4000 c
  omega
 have hlen:22≤(hdrB f c w r n++z).length:=by rw[List.length_append,Ap4];omega
 have m4:min 4 (hdrB f c w r n++z).length=4:=by omega
 have e4:(hdrB f c w r n++z).take 4=Oj:=by rw[Aav];rfl
 have e18:(hdrB f c w r n++z).take 18=Bb7 f c w r n:=by
  rw[hdrB,List.append_assoc,List.take_append_of_le_length (by rw[Apx];omega),List.take_of_length_le (by rw[Apx];omega)]
 have hlt:=(Cp (Bb7 f c w r n)).toNat_lt
 have p18:part (hdrB f c w r n++z) 18 4=Qv (Cp (Bb7 f c w r n)).toNat 4:=by
  rw[hdrB,List.append_assoc]
  exact Agu (Apx _ _ _ _ _) (Bq _ _)
 have q0:f0 (hdrB f c w r n++z)=f:=by
  rw[f0,Aav,Agu (a:=Oj) (i:=4) (k:=2) rfl (Bq _ _),Yp];omega
 have q1:f1 (hdrB f c w r n++z)=c:=by
  rw[f1,Aav,←List.append_assoc,Agu (by simp[Oj,Bq]) (Bq _ _),Yp];omega
 have q2:f2 (hdrB f c w r n++z)=w:=by
  rw[f2,Aav,←List.append_assoc,←List.append_assoc,Agu (by simp[Oj,Bq]) (Bq _ _),Yp];omega
 have q3:f3 (hdrB f c w r n++z)=r:=by
  rw[f3,Aav,←List.append_assoc,←List.append_assoc,←List.append_assoc,Agu (by simp[Oj,Bq]) (Bq _ _),Yp];omega
 have q4:f4 (hdrB f c w r n++z)=n:=by
  rw[f4,Aav,←List.append_assoc,←List.append_assoc,←List.append_assoc,←List.append_assoc,Agu (by simp[Oj,Bq]) (Bq _ _),Yp];omega
 have h:=rs6 (b:=hdrB f c w r n++z) (by rw[m4,e4];rfl) (by omega) (by rw[e18,p18,Yp];omega) (by rw[q0,q1,q2,q3,q4];exact h1) (by rw[q1,q3,q4];exact h2)
 rw[q0,q1,q2,q3,q4]at h
 exact h
theorem Bz4(l:List Int)(z:LB){i:Nat}(hi:i<l.length):part (Amo l++z) (4*i) 4=Qv (l[i]).toNat 4:=by
 have hs:Amo l=Amo (l.take i)++(Qv (l[i]).toNat 4++Amo (l.drop (i+1))):=by
  conv=>lhs;rw[←List.take_append_drop i l,drop_cons hi]
  rw[Amo,Amo,Amo,List.flatMap_append,List.flatMap_cons]
 rw[hs,List.append_assoc,List.append_assoc]
 exact Agu (by rw[Agw,List.length_take];omega) (Bq _ _)
theorem Byc{l:List Int}(ht:Afc l=true)(z:LB):seekS (tblB l++z) l.length=(l,0):=by
 have h:=ht
 simp only[Afc,Bool.and_eq_true,decide_eq_true_eq]at h
 obtain⟨hn,h3⟩:=h
 have h4:=(Ar5 l 100000 (by omega)).1 h3
 have h6:=Bdb h4.1
 have hlt:=(Cp (Amo l)).toNat_lt
 have e1:(tblB l++z).take (4*l.length)=Amo l:=by
  rw[tblB,List.append_assoc,List.take_append_of_le_length (by rw[Agw];omega),List.take_of_length_le (by rw[Agw];omega)]
 have e2:part (tblB l++z) (4*l.length) 4=Qv (Cp (Amo l)).toNat 4:=by
  rw[tblB,List.append_assoc]
  exact Agu (Agw _) (Bq _ _)
 have e3:Alp (tblB l++z) l.length=l:=by
  apply List.ext_getElem
  ·rw[Adc]
  ·intro i h1 h2
   have hx:=h4.1 l[i] (List.getElem_mem _)
   have hy:=h6 l[i] (List.getElem_mem _)
   simp only[Alp,List.getElem_map,List.getElem_range]
   rw[tblB,List.append_assoc,Bz4 l _ h2,Yp]
   omega
 rw[ss4 hn (by rw[List.length_append,Avs];omega) (by rw[e1,e2,Yp];omega),e3,if_pos ht]
theorem Cbk{b p:LB}{f c w r n T:Nat}{l:List Int}{z:LB}(hp:p.length≤64)(hf:f=fmtOf p)(h1:shapeB f c w r n=true)(h2:fitB c r n=true)(hT:frontS b=((T:Int),0))(hb:b.length≤100000)(hd:b.drop T=hdrB f c w r n++(digP p++(tblB l++z)))
  (hl:l.length=(framesL (longN r) n).length) (ht:Afc l=true):Opn b p f c w r n (T+22+(if f=2 then 8 else 0)+4*l.length+4) l:=by
 have hlen:=congrArg List.length hd
 rw[List.length_drop,List.length_append,List.length_append,List.length_append,Ap4,Avf,Avs,←hf]at hlen
 have hl1000:l.length≤1000∧1≤l.length:=by
  have h:=ht
  simp only[Afc,Bool.and_eq_true,decide_eq_true_eq]at h
  omega
 have hread:readS (b.drop T)=((f:Int),(c:Int),(w:Int),(r:Int),(n:Int),0):=by rw[hd];exact Bwt h1 h2 _
 have t22:Ad (T:Int) 22=((T+22:Nat):Int):=by rw[Ag (by omega) (by omega)];omega
 have t30:Ad ((T+22:Nat):Int) 8=((T+30:Nat):Int):=by rw[Ag (by omega) (by omega)];omega
 have d22:b.drop (T+22)=digP p++(tblB l++z):=by
  rw[←List.drop_drop,hd,←Ap4 f c w r n,List.drop_left]
 have dA:b.drop (T+22+(if f=2 then 8 else 0))=tblB l++z:=by
  rw[←List.drop_drop,d22,hf,←Avf p,List.drop_left]
 have hend:∀A:Nat,A≤b.length→A=T+22+(if f=2 then 8 else 0)→seekto_Open b p=Ql b (f:Int) (c:Int) (w:Int) (r:Int) (n:Int) (A:Int)→seekto_Open b p=some ((f:Int),(c:Int),(w:Int),(r:Int),(n:Int),((A+4*l.length+4:Nat):Int),l,0):=by
  intro A hA hA2 e
  rw[e,Blc h1 h2 b (by omega) A hA,hA2,dA,←hl,Byc ht,if_neg (by simp)]
 have hprog:seekto_Open b p=some ((f:Int),(c:Int),(w:Int),(r:Int),(n:Int),((T+22+(if f=2 then 8 else 0)+4*l.length+4:Nat):Int),l,0):=by
  refine hend (T+22+(if f=2 then 8 else 0)) (by omega) rfl ?_
  rw[seekto_Open,Vy,if_neg (by rw[Am,Ac];simp;omega),if_neg (by rw[Am,Ac];simp;omega),Avm b (by omega),hT,Aa]
  simp only
  rw[if_neg (by decide),Qe (by omega) (by omega),Aa,Int.toNat_natCast,Bj2 _ (by rw[List.length_drop];omega),Aa,hread]
  simp only
  rw[if_neg (by decide)]
  by_cases h0:p=[]
  ·have e1:f=1:=by rw[hf,fmtOf,if_pos h0]
   rw[if_neg (by rw[h0,e1];decide),if_neg (by rw[h0];decide),t22,e1]
   rfl
  ·have e1:f=2:=by rw[hf,fmtOf,if_neg h0]
   have hne:(p !=([]:LB))=true:=by simpa using h0
   have hne2:(p==([]:LB))=false:=by simpa using h0
   have hdg:digP p=Qv (Aaa p).toNat 8:=by rw[digP,if_neg h0]
   have hseg:(b.take (T+30)).drop (T+22)=Qv (Aaa p).toNat 8:=by
    rw[List.drop_take,show T+30-(T+22)=8 by omega,d22,hdg,List.take_append_of_le_length (by rw[Bq];omega),List.take_of_length_le (by rw[Bq];omega)]
   rw[e1,if_pos rfl]at hlen
   rw[if_neg (by rw[hne2,e1];decide),if_pos hne,t22,t30,if_neg (by rw[Af,Ac];simp;omega),Ww (by omega) (by omega) (by omega),Aa,Int.toNat_natCast,Int.toNat_natCast,hseg,Bzu (Bq _ _) hp,Aa]
   simp only
   rw[if_neg (by decide),if_neg (by simp),e1]
   rfl
 rcases Cc7 b p (by omega) hp with⟨e,he,h,_⟩|⟨f',c',w',r',n',A',l',o⟩
 ·rw[hprog]at h
  have:=congrArg (fun o=>(o.getD (Boo 0)).2.2.2.2.2.2.2) h
  simp only[Option.getD_some,Boo]at this
  exact absurd this.symm he
 ·have h:=o.prog
  rw[hprog]at h
  simp only[Option.some.injEq,Prod.mk.injEq]at h
  obtain⟨i1,i2,i3,i4,i5,i6,i7,_⟩:=h
  have j1:f=f':=by omega
  have j2:c=c':=by omega
  have j3:w=w':=by omega
  have j4:r=r':=by omega
  have j5:n=n':=by omega
  have j6:=Int.ofNat.inj i6
  subst j1 j2 j3 j4 j5 i7
  rw[j6]
  exact o
theorem Bdm{b:LB}(h:b.take 4=Oj):frontS b=(0,0):=by
 have h4:4≤b.length:=by
  have:=congrArg List.length h
  rw[List.length_take]at this
  simp only[Oj,List.length_cons,List.length_nil]at this
  omega
 have h3:b.take 3≠ [73,68,51]:=by
  intro e
  have:(b.take 4).take 3=[73,68,51]:=by rw[List.take_take];exact e
  rw[h]at this
  exact absurd this (by decide)
 have h8:b.take 8≠APE:=by
  intro e
  have:(b.take 8).take 4=Oj:=by rw[List.take_take];exact h
  rw[e]at this
  exact absurd this (by decide)
 have hs:Ep b=(0,6):=by
  have h1:Am7 b=(0,6):=by rw[Am7,if_pos (by intro hh;exact h3 hh.2)]
  rw[Ep,h1,if_neg (by decide),fa1 (by intro hh;exact h8 hh.2)]
 rw[frontS,Btt,Df,List.drop_zero,hs]
 rfl
theorem Agz:∀{l:List Int},(∀x∈l,0≤x)→∀k,0≤(l.take k).sum
 |[],_,k=>by simp
 |x::l,h,0=>by simp
 |x::l,h,k+1=>by
  have:=Agz (l:=l) (fun y hy=>h y (List.mem_cons_of_mem _ hy)) k
  have:=h x List.mem_cons_self
  rw[List.take_succ_cons,List.sum_cons];omega
theorem Axe(fs:List LB)(k:Nat):(lensOf fs).take k=lensOf (fs.take k):=by rw[lensOf,lensOf,List.map_take]
theorem Cg7{b z:LB}{A:Nat}{fs:List LB}(hd:b.drop A=fs.flatten++z){k:Nat}(hk:k<fs.length):segF b A (lensOf fs) k=fs[k]:=by
 have e0:fs.flatten=(fs.take k).flatten++(fs[k]++(fs.drop (k+1)).flatten):=by
  conv=>lhs;rw[←List.take_append_drop k fs,drop_cons hk]
  rw[List.flatten_append,List.flatten_cons]
 have s1:((lensOf fs).take k).sum=((fs.take k).flatten.length:Int):=by rw[Axe,Aey]
 have s2:((lensOf fs).take (k+1)).sum=((fs.take k).flatten.length+fs[k].length:Nat):=by rw[Axe,Aey,Kn hk,List.flatten_append];simp
 rw[segF,s1,s2,show((A:Int)+((fs.take k).flatten.length+fs[k].length:Nat)).toNat=A+((fs.take k).flatten.length+fs[k].length) by omega,show((A:Int)+((fs.take k).flatten.length:Int)).toNat=A+(fs.take k).flatten.length by omega,
  List.drop_take,←List.drop_drop,hd,e0,List.append_assoc,List.drop_left,Nat.add_sub_add_left,Nat.add_sub_cancel_left,List.append_assoc,List.take_left]
theorem Bw3{b z:LB}{A:Nat}{fs:List LB}(hd:b.drop A=fs.flatten++z)(hA:A≤b.length)(k:Nat):(A:Int)+((lensOf fs).take k).sum≤b.length:=by
 have h:=congrArg List.length hd
 rw[List.length_drop,List.length_append]at h
 have h2:(fs.take k).flatten.length≤fs.flatten.length:=by
  conv=>rhs;rw[←List.take_append_drop k fs,List.flatten_append,List.length_append]
  omega
 rw[Axe,Aey];omega
section
variable {b p:List UInt8} {f c w r n A:Nat} {fs:List LB} {z:LB} (o:Opn b p f c w r n A (lensOf fs)) (hd:b.drop A=fs.flatten++z)
include o hd
theorem Bzy{k:Nat}(hk:k<fs.length){y:List Int32}{e:Int}{m:Nat}(hm:getI (framesL (longN r) n) (k:Int)=some (m:Int))(hdec:deframe_Decode (c:Int) (w:Int) (tapsOf p) (m:Int) fs[k]=some (y,e)):
  (Adg b p f c w r n A (lensOf fs) k).2=e∧(e=0→Adg b p f c w r n A (lensOf fs) k=(bytesB (w:Int) y,0)∧smF w (Adg b p f c w r n A (lensOf fs) k)=y):=by
 have hkl:k<(lensOf fs).length:=by rw[Ja];exact hk
 obtain⟨m',x',s',e',g⟩:=Aw7 o k hkl
 have hin:=Bw3 hd o.at' (k+1)
 have hmm:m'=m:=by
  have:=g.mom
  rw[hm]at this
  have:=Option.some.inj this
  omega
 subst hmm
 rcases g.way with⟨h1,_⟩|⟨_,h2,_⟩
 ·omega
 ·rw[Cg7 hd hk,hdec]at h2
  simp only[Option.some.injEq,Prod.mk.injEq]at h2
  obtain⟨rfl,rfl⟩:=h2
  refine⟨by rw[g.eq],fun he=>?_⟩
  have:=g.smp (Alg o.shape).2.1
  obtain⟨h3,_⟩:=g.some' he
  rw[g.eq,this,h3,he]
  exact⟨rfl,rfl⟩
end
end Go.Pl
set_option linter.unusedVariables false
set_option linter.unusedSimpArgs false
namespace Go.Pl
open Go Go.Lv
theorem Ayv(c:Nat)(h1:1≤c):∀(l:List Int) (x:List Int32),(∀m∈l,1≤m)→x.length=l.sum.toNat*c→∀(k:Nat) (hk:k<l.length) (hk':k<(Zx c x l).length),(Zx c x l)[k].length=l[k].toNat*c
 |[],x,_,_=>fun k hk=>absurd hk (Nat.not_lt_zero _)
 |m::l,x,hm,hx=>by
  have hm1:=hm m List.mem_cons_self
  have hl:0≤l.sum:=by
   have:=Agz (l:=l) (fun y hy=>by have:=hm y (List.mem_cons_of_mem _ hy);omega) l.length
   rw[List.take_length]at this;exact this
  rw[List.sum_cons,show(m+l.sum).toNat=m.toNat+l.sum.toNat by omega,Nat.add_mul]at hx
  intro k hk hk'
  cases k with
  |zero=>simp only[Zx,List.getElem_cons_zero,List.length_take];omega
  |succ k=>
   simp only[Zx,List.getElem_cons_succ]
   exact Ayv c h1 l (x.drop (m.toNat*c)) (fun m hm'=>hm m (List.mem_cons_of_mem _ hm')) (by rw[List.length_drop];omega) k (by simpa using hk) _
theorem Bto{bits:Int}{ch n:Nat}{t:List Int32}{b:LB}{e:Int}(hb:BitsOk bits)(ht:t.length=16)(h1:1≤ch)(h6:ch≤6)(n1:1≤n)(n2:n≤4000/ch)(hs:Nj b=e)(he:e≠0):deframe_Decode (ch:Int) bits t (n:Int) b=some ([],e):=by
 have hq4:=Bbd h1 h6
 have hh:=Ah0 bits
 obtain⟨l,e',d1,d2,_,d4⟩:=Amz b hb ht h1 h6 n1 n2
 have key:∃l,cadenzaref21_Decode (ch:Int) bits t (n:Int) b=some (l,e):=by
  generalize 4000/ch=mm at*
  have hasked:Cw (ch:Int) bits (n:Int)=some 0:=by
   rw[Cw,Ck,if_neg (by simp[Af,Am];omega),Ak2 hb,Aa,if_neg (by rw[Bb];simp;omega),Aa,if_neg (by simp[Aj,Af];omega),Ay (by rw[Aj];simp;omega),Aa,hq4,if_neg (by rw[Am];simp;omega)]
  rw[cadenzaref21_Decode,Lr,hasked,Aa,if_neg (by rw[Aj];simp),Ayz,Aa,hs,if_pos (by rw[Aj];simpa using he)]
  exact⟨_,rfl⟩
 obtain⟨l',hl⟩:=key
 rw[hl]at d2
 simp only[Option.some.injEq,Prod.mk.injEq]at d2
 obtain⟨rfl,rfl⟩:=d2
 rw[d1,d4 he]
structure FileOf (c w r n:Nat) (x:List Int32) (p:LB) (T:Nat) (fs:List LB) (z b:LB):Prop where
 clip:ClipOk c w r n x
 pass:p.length≤64
 front:frontS b=((T:Int),0)
 le:b.length≤100000
 lens:lensOf fs=lensOf (frs c w r n x p)
 form:b.drop T=hdrB (fmtOf p) c w r n++(digP p++(tblB (lensOf (frs c w r n x p))++(fs.flatten++z)))
def Ad5(T:Nat)(p:LB)(K:Nat):Nat:=T+22+(if fmtOf p=2 then 8 else 0)+4*K+4
section
variable {c w r n:Nat} {x:List Int32} {p:LB} {T:Nat} {fs:List LB} {z b:LB} (h:FileOf c w r n x p T fs z b)
include h
theorem FileOf.cnt:fs.length=(frs c w r n x p).length:=by
 have:=congrArg List.length h.lens
 rw[Ja,Ja]at this
 exact this
theorem FileOf.Eh:Opn b p (fmtOf p) c w r n (Ad5 T p fs.length) (lensOf fs):=by
 have hc:=h.clip
 have hl:(lensOf fs).length=(framesL (longN r) n).length:=by rw[Ja,h.cnt];exact Be9 p
 have ht:Afc (lensOf fs)=true:=by rw[h.lens];exact Bos hc p
 have hd:=h.form
 rw[←h.lens]at hd
 have:=Cbk (z:=fs.flatten++z) h.pass rfl (hc.shape _ (Bo6 p)) hc.fit h.front h.le hd hl ht
 rw[Ja]at this
 exact this
theorem FileOf.Bvw:b.drop (Ad5 T p fs.length)=fs.flatten++z:=by
 have hd:=h.form
 rw[←h.lens]at hd
 have e:Ad5 T p fs.length=T+(22+((if fmtOf p=2 then 8 else 0)+(4*fs.length+4))):=by unfold Ad5;omega
 have e2:4*fs.length+4=(tblB (lensOf fs)).length:=by rw[Avs,Ja]
 rw[e,←List.drop_drop,hd,←List.drop_drop]
 conv=>lhs;rw[←Ap4 (fmtOf p) c w r n,List.drop_left,←List.drop_drop,←Avf p,List.drop_left,e2,List.drop_left]
theorem FileOf.mom{k:Nat}(hk:k<fs.length):∃(m:Nat) (hk':k<(Mi c r n x).length),getI (framesL (longN r) n) (k:Int)=some (m:Int)∧1≤m∧m≤4000/c∧((Mi c r n x)[k]).length=m*c∧inR (w:Int) (Mi c r n x)[k]∧(frs c w r n x p)[k]'(by rw[←h.cnt];exact hk)=Nk (w:Int) c (tapsOf p) (Mi c r n x)[k]:=by
 have hc:=h.clip
 have hlen:fs.length=(framesL (longN r) n).length:=by rw[h.cnt];exact Be9 p
 have hkf:k<(framesL (longN r) n).length:=by omega
 have hk':k<(Mi c r n x).length:=by rw[Baz];exact hkf
 have hm1:=Mf (Ie r) hc.cnt.1 _ (List.getElem_mem hkf)
 obtain⟨m,hm⟩:=Int.eq_ofNat_of_zero_le (show 0≤(framesL (longN r) n)[k] by omega)
 have hg:=Ayv c hc.ch.1 _ x (Mf (Ie r) hc.cnt.1) (by rw[hc.sum,hc.len,Int.toNat_natCast]) k hkf hk'
 rw[hm,Int.toNat_natCast]at hg
 have hmem:=Ack hc _ (List.getElem_mem hk')
 have hx:=Ayu c hc.ch.1 _ x (Mf (Ie r) hc.cnt.1) (by rw[hc.sum,hc.len,Int.toNat_natCast]) _ (List.getElem_mem hk')
 have hg':((Mi c r n x)[k]).length=m*c:=hg
 refine⟨m,hk',by rw[Bu hkf,hm],by omega,?_,hg',hmem.2.2.2,?_⟩
 ·have h1:=hx.2.1
  have h2:m*c≤n*c:=by rw[←hg',←hc.len];exact h1
  have h3:m≤n:=Nat.le_of_mul_le_mul_right h2 hc.ch.1
  exact Nat.le_trans h3 hc.cnt.2
 ·simp only[frs,List.getElem_map]
theorem FileOf.Ckh{k:Nat}(hk:k<fs.length)(he:fs[k]=(frs c w r n x p)[k]'(by rw[←h.cnt];exact hk)):
  Adg b p (fmtOf p) c w r n (Ad5 T p fs.length) (lensOf fs) k=(bytesB (w:Int) ((Mi c r n x).getD k []),0)∧smF w (Adg b p (fmtOf p) c w r n (Ad5 T p fs.length) (lensOf fs) k)=(Mi c r n x).getD k []:=by
 have hc:=h.clip
 obtain⟨m,hk',h1,h2,h3,h4,h5,h6⟩:=h.mom hk
 have hd:=(Btd hc.bits (Ake p) hc.ch.1 hc.ch.2 h2 h3 h4 h5).1
 have hg:=Bzy h.Eh h.Bvw hk h1 (by rw[he,h6];exact hd)
 have e:(Mi c r n x).getD k []=(Mi c r n x)[k]:=by rw[List.getD_eq_getElem?_getD,List.getElem?_eq_getElem hk'];rfl
 rw[e]
 exact hg.2 rfl
theorem FileOf.Cj5{k:Nat}(hk:k<fs.length)(he:Nj fs[k]=22):(Adg b p (fmtOf p) c w r n (Ad5 T p fs.length) (lensOf fs) k).2=22:=by
 have hc:=h.clip
 obtain⟨m,hk',h1,h2,h3,h4,h5,h6⟩:=h.mom hk
 exact(Bzy h.Eh h.Bvw hk h1 (Bto hc.bits (Ake p) hc.ch.1 hc.ch.2 h2 h3 he (by decide))).1
end
theorem Bks{c w r n:Nat}{x:List Int32}(h:ClipOk c w r n x){p:LB}(hp:p.length≤64):FileOf c w r n x p 0 (frs c w r n x p) [] (Yd c w r n x p):=by
 refine⟨h,hp,Bdm ?_,by have:=Bjs h p;omega,rfl,by rw[List.append_nil];rfl⟩
 rw[Yd,Aav];rfl
end Go.Pl
set_option linter.unusedVariables false
set_option linter.unusedSimpArgs false
namespace Go.Pl
open Go Go.Lv
theorem Bqy:∀(fs:List LB) (a:Nat),a<fs.flatten.length→∃k j:Nat,∃(hk:k<fs.length) (hj:j<fs[k].length),a=(fs.take k).flatten.length+j∧fs.flatten[a]? =some fs[k][j]∧∀y:UInt8,fs.flatten.set a y=(fs.set k (fs[k].set j y)).flatten
 |[],a,h=>by simp at h
 |f::fs,a,h=>by
  by_cases ha:a<f.length
  ·exact⟨0,a,by simp,by simpa using ha,by simp,by simp[List.getElem?_append_left ha,ha],fun y=>by simp[List.set_append,ha]⟩
  ·rw[List.flatten_cons,List.length_append]at h
   obtain⟨k,j,hk,hj,h1,h2,h3⟩:=Bqy fs (a-f.length) (by omega)
   refine⟨k+1,j,by simp;omega,by simpa using hj,?_,?_,fun y=>?_⟩
   ·rw[List.take_succ_cons,List.flatten_cons,List.length_append];omega
   ·rw[List.flatten_cons,List.getElem?_append_right (by omega),h2];simp
   ·rw[List.flatten_cons,List.set_append,if_neg ha,h3 y];simp
theorem Bpc{fs:List LB}{k:Nat}(hk:k<fs.length){g:LB}(h:g.length=fs[k].length):lensOf (fs.set k g)=lensOf fs:=by
 rw[lensOf,List.map_set]
 have:((g.length:Nat):Int)=(lensOf fs)[k]'(by rw[Ja];exact hk):=by simp[lensOf,h]
 rw[show(fs.map fun f=>(f.length:Int))=lensOf fs from rfl,this]
 exact List.set_getElem_self _
theorem Bzt{l:List Int}(h:∀x∈l,0≤x){i j:Nat}(hij:i≤j):(l.take i).sum≤(l.take j).sum:=by
 obtain⟨d,rfl⟩:=Nat.exists_eq_add_of_le hij
 rw[List.take_add,List.sum_append]
 have:=Agz (l:=l.drop i) (fun x hx=>h x (List.mem_of_mem_drop hx)) d
 omega
section
variable {c w r n:Nat} {x:List Int32} (h:ClipOk c w r n x) {p:LB} (hp:p.length≤64)
include h hp
omit hp in
theorem Bzn{k:Nat}(hk:k<(frs c w r n x p).length):Nj (frs c w r n x p)[k]=0:=by
 have hm:(frs c w r n x p)[k]∈frs c w r n x p:=List.getElem_mem hk
 obtain⟨y,hy,he⟩:=List.mem_map.1 (show(frs c w r n x p)[k]∈(Mi c r n x).map (Nk (w:Int) c (tapsOf p))from hm)
 have hy':=Ack h y hy
 rw[←he]
 exact(Bj5 _ _ _ _ hy'.1 hy'.2.1).1
theorem Cb0{a:Nat}(ha:a<(frs c w r n x p).flatten.length):∃k j:Nat,∃(hk:k<(frs c w r n x p).length) (hj:j<(frs c w r n x p)[k].length),a=((frs c w r n x p).take k).flatten.length+j∧
  getI (Yd c w r n x p) ((Ad5 0 p (frs c w r n x p).length+a:Nat):Int)=some (frs c w r n x p)[k][j]∧
  ∀y:UInt8,FileOf c w r n x p 0 ((frs c w r n x p).set k ((frs c w r n x p)[k].set j y)) [] ((Yd c w r n x p).set (Ad5 0 p (frs c w r n x p).length+a) y)∧(y≠(frs c w r n x p)[k][j]→Nj ((frs c w r n x p)[k].set j y)=22):=by
 have fo:=Bks h hp
 have hd:=fo.Bvw
 have hle:=fo.le
 obtain⟨k,j,hk,hj,h1,h2,h3⟩:=Bqy _ a ha
 have hs:=Bzn h hk
 have hA:Ad5 0 p (frs c w r n x p).length≤(Yd c w r n x p).length:=by
  have:=Bjq (c:=c) (w:=w) (r:=r) (n:=n) (x:=x) p
  unfold Ad5;omega
 have hlen:=congrArg List.length hd
 rw[List.length_drop,List.append_nil]at hlen
 have hA4:4≤Ad5 0 p (frs c w r n x p).length:=by unfold Ad5;omega
 refine⟨k,j,hk,hj,h1,?_,fun y=>⟨⟨h,hp,Bdm ?_,by rw[List.length_set];exact hle,Bpc hk (by rw[List.length_set]),?_⟩,fun hy=>Bw9 hs hj (fun e=>hy e.symm)⟩⟩
 ·rw[List.append_nil]at hd
  rw[Bu (by omega)]
  have:(Yd c w r n x p)[Ad5 0 p (frs c w r n x p).length+a]? =some (frs c w r n x p)[k][j]:=by rw[←List.getElem?_drop,hd,h2]
  rw[List.getElem?_eq_getElem (by omega)]at this
  exact this
 ·rw[List.take_set_of_le (by omega)]
  rw[Yd,Aav];rfl
 ·rw[List.append_nil,←h3 y,List.drop_zero]
  have e1:Yd c w r n x p=(hdrB (fmtOf p) c w r n++(digP p++tblB (lensOf (frs c w r n x p))))++(frs c w r n x p).flatten:=by simp[Yd]
  have e2:(hdrB (fmtOf p) c w r n++(digP p++tblB (lensOf (frs c w r n x p)))).length=Ad5 0 p (frs c w r n x p).length:=by
   rw[List.length_append,List.length_append,Ap4,Avf,Avs,Ja];unfold Ad5;omega
  rw[e1,List.set_append,if_neg (by omega),e2,Nat.add_sub_cancel_left]
  simp
end
theorem Bc4{α:Type}(ys:List (List α))(G:Nat→List α):∀(j k:Nat),(∀i,k≤i→i<k+j→G i=ys.getD i [])→k+j≤ys.length→Azn G j k=((ys.drop k).take j).flatten
 |0,k,_,_=>by simp[Azn]
 |j+1,k,h,hk=>by
  have e:ys.getD k []=ys[k]:=by rw[List.getD_eq_getElem?_getD,List.getElem?_eq_getElem (by omega)];rfl
  rw[Azn,Bc4 ys G j (k+1) (fun i h1 h2=>h i (by omega) (by omega)) (by omega),h k (by omega) (by omega),drop_cons (show k<ys.length by omega),List.take_succ_cons,List.flatten_cons,e]
section
variable {c w r n:Nat} {x:List Int32} (h:ClipOk c w r n x)
include h
theorem Bn4{k:Nat}(hk:k<(Mi c r n x).length)(hk':k<(framesL (longN r) n).length):((Mi c r n x)[k]).length=((framesL (longN r) n)[k]).toNat*c:=
 Ayv c h.ch.1 _ x (Mf (Ie r) h.cnt.1) (by rw[h.sum,h.len,Int.toNat_natCast]) k hk' hk
theorem Aoe:∀K:Nat,K≤(Mi c r n x).length→((Mi c r n x).take K).flatten.length=((framesL (longN r) n).take K).sum.toNat*c
 |0,_=>by simp
 |K+1,hK=>by
  have hl:=Baz (c:=c) (r:=r) (n:=n) (x:=x)
  have hk':K<(framesL (longN r) n).length:=by omega
  have h1:=Mf (Ie r) h.cnt.1 _ (List.getElem_mem hk')
  have h2:=Agz (l:=framesL (longN r) n) (fun m hm=>by have:=Mf (Ie r) h.cnt.1 m hm;omega) K
  rw[Kn (show K<(Mi c r n x).length by omega),List.flatten_append,List.length_append,Aoe K (by omega),Kn hk',List.sum_append,List.sum_singleton,List.flatten_singleton,Bn4 h (by omega) hk',←Nat.add_mul]
  congr 1;omega
theorem Btj{K:Nat}(hK:K<(Mi c r n x).length):x=((Mi c r n x).take K).flatten++((Mi c r n x)[K]++((Mi c r n x).drop (K+1)).flatten):=by
 conv=>lhs;rw[←Blb h,←List.take_append_drop K (Mi c r n x),drop_cons hK]
 rw[List.flatten_append,List.flatten_cons]
end
end Go.Pl
set_option linter.unusedVariables false
set_option linter.unusedSimpArgs false
namespace Go.Pl
open Go Go.Lv
section
variable (x P M Q:LX) (S m c:Nat) (hx:x=P++(M++Q)) (hP:P.length=S*c) (hM:M.length=m*c) (h4:x.length≤4000)
include hx hP hM h4
theorem Bk0(a1 a2 a4:Int)(fr o:LI)(b1 b2 b3 b4 b5 b6:Int)(af:LI)(al aa:LX)(k aj bb:Int)(hto:Ar (Ad k aj) bb=((S*c+m*c:Nat):Int)){v:Bool}(hfin:Du true a1 k bb aj a2 a4 x fr o b1 b2 b3 b4 b5 b6 af (P++List.replicate (m*c) 0++Q) al aa=some v):
  ∀(j i q:Nat),i+j=S*c+m*c→S*c≤i→j<q→Bi true a1 k bb aj a2 a4 x fr o b1 b2 b3 b4 b5 b6 af al aa q (i:Int) (P++List.replicate (i-S*c) 0++x.drop i)=some v
 |j,i,0,_,_,h=>absurd h (Nat.not_lt_zero _)
 |0,i,q+1,hi,h1,_=>by
  have e:x.drop i=Q:=by rw[show i=P.length+M.length by omega,hx,←List.append_assoc,←List.length_append,List.drop_left]
  rw[Bi,Gj,hto,if_neg (by rw[Af];simp;omega),e,show i-S*c=m*c by omega]
  exact hfin
 |j+1,i,q+1,hi,h1,hq=>by
  have hxl:=congrArg List.length hx
  rw[List.length_append,List.length_append]at hxl
  have ih:=Bk0 a1 a2 a4 fr o b1 b2 b3 b4 b5 b6 af al aa k aj bb hto hfin j (i+1) q (by omega) (by omega) (by omega)
  have hi1:Ad (i:Int) 1=((i+1:Nat):Int):=by rw[Ag (by omega) (by omega)];omega
  have hlen:(P++List.replicate (i-S*c) (0:Int32)).length=i:=by rw[List.length_append,List.length_replicate];omega
  have hset:(P++List.replicate (i-S*c) (0:Int32)++x.drop i).set i 0=P++List.replicate (i+1-S*c) 0++x.drop (i+1):=by
   rw[drop_cons (show i<x.length by omega),Am1 hlen,show i+1-S*c=(i-S*c)+1 by omega,List.replicate_succ']
   simp
  have hl2:i<(P++List.replicate (i-S*c) (0:Int32)++x.drop i).length:=by rw[List.length_append,hlen,List.length_drop];omega
  rw[Bi,Gj,hto,if_pos (by rw[Af];simp;omega),Bu hl2,Aa,Oz _ hl2,Aa,hset,hi1]
  exact ih
theorem Ce0(w r K:Nat)(fr:LI)(hK:getI fr (K:Int)=some (m:Int))(hSm:S+m≤4000)(hmc:S*c+m*c≤4000)(u:Int)(v w' y:Int)(af:LI)(aa:LX)
  (hu:(fr.length=1∧u=6)∨(fr.length≠1∧u=0∧v=(c:Int)∧w'=(w:Int)∧y=(r:Int)∧af=[(K:Int)]∧aa=P++Q)):
  Bn true (K:Int) (S:Int) u (c:Int) (w:Int) (r:Int) x fr [(K:Int)] (c:Int) (w:Int) (r:Int) v w' y af (P++List.replicate (m*c) 0++Q) aa=some true:=by
 have hxl:=congrArg List.length hx
 rw[List.length_append,List.length_append]at hxl
 have hk1:Ar (S:Int) (c:Int)=((S*c:Nat):Int):=by rw[Fq (by rw[←Int.natCast_mul];omega) (by rw[←Int.natCast_mul];omega),←Int.natCast_mul]
 have hk2:Ar (Ad (S:Int) (m:Int)) (c:Int)=((S*c+m*c:Nat):Int):=by
  rw[Ag (by omega) (by omega),show(S:Int)+(m:Int)=((S+m:Nat):Int) by omega,Fq (by rw[←Int.natCast_mul,Nat.add_mul];omega) (by rw[←Int.natCast_mul,Nat.add_mul];omega),←Int.natCast_mul,Nat.add_mul]
 have hSL:(P++List.replicate (m*c) (0:Int32)++Q).length=x.length:=by rw[List.length_append,List.length_append,List.length_replicate];omega
 have hfin:Du true u (S:Int) (c:Int) (m:Int) (w:Int) (r:Int) x fr [(K:Int)] (c:Int) (w:Int) (r:Int) v w' y af (P++List.replicate (m*c) 0++Q) (P++List.replicate (m*c) 0++Q) aa=some true:=by
  rw[Du,Gi,Bz,Aa]
  simp only
  rw[Ca1 _ _ _ _ (by omega),Aa,if_neg (by decide),Jv,Gh]
  rcases hu with⟨h1,h2⟩|⟨h1,h2,rfl,rfl,rfl,rfl,rfl⟩
  ·rw[if_pos (by rw[Bb,Ac,h1];rfl),h2];rfl
  ·have c1:Bv x 0 ((S*c:Nat):Int)=some P:=by
    rw[Kt (by omega) (by omega),Int.toNat_natCast,hx,←hP,List.take_left]
   have c2:Bv x ((S*c+m*c:Nat):Int) (Ac x)=some Q:=by
    rw[Qe (by omega) (by omega),Int.toNat_natCast,hx,←List.append_assoc,←hP,←hM,←List.length_append,List.drop_left]
   rw[if_neg (by rw[Bb,Ac,beq_iff_eq];omega),hk1,hk2,c1,Aa,Bt (by simp;omega),Aa,c2,Aa,Bt (by simp;omega),Aa,List.nil_append,Kc,Gf,h2,if_pos (by decide),Bp6 _ (by simp),Aa,if_pos rfl,Bz,Aa]
   simp only
   rw[Ca1 _ _ _ _ (by rw[List.length_append];omega),Aa]
 have hz:=Bk0 x P M Q S m c hx hP hM h4 u (w:Int) (r:Int) fr [(K:Int)] (c:Int) (w:Int) (r:Int) v w' y af (P++List.replicate (m*c) 0++Q) aa (S:Int) (m:Int) (c:Int) hk2 hfin (m*c) (S*c) Al rfl (Nat.le_refl _) (by have:=Ak;omega)
 have e0:P++List.replicate (S*c-S*c) (0:Int32)++x.drop (S*c)=x:=by
  rw[Nat.sub_self,List.replicate_zero,List.append_nil,hx,←hP,List.drop_left]
 rw[e0]at hz
 rw[Bn,Lb,hK,Aa,Aa,Bt (by simp;omega),Aa,List.nil_append,hk1]
 exact hz
end
theorem Cfy:Gk=Bn:=by
 have hl:∀h n k b ak g f a m p am an ao ab ac ad ag ai ae (q:Nat),∀bj be,Cz h n k b ak g f a m p am an ao ab ac ad ag ai ae q bj be=Bi h n k b ak g f a m p am an ao ab ac ad ag ai ae q bj be:=by
  intro h n k b ak g f a m p am an ao ab ac ad ag ai ae q
  induction q with
  |zero=>intro bj be;rfl
  |succ q ih=>
   intro bj be
   have e:Cz h n k b ak g f a m p am an ao ab ac ad ag ai ae q=Bi h n k b ak g f a m p am an ao ab ac ad ag ai ae q:=by
    funext bj be;exact ih bj be
   rw[Cz,Bi,e]
   rfl
 have h16:Kb=Jy:=by
  funext h n k b ak g f a m p am an ao ab ac ad ag ai ae bj be
  exact hl h n k b ak g f a m p am an ao ab ac ad ag ai ae Al bj be
 rw[Gk,Bn,h16]
 rfl
theorem Brd(G:Nat→List UInt8×Int){K:Nat}(hK:(G K).2≠0):∀(j k:Nat) (acc:List Int),(∀i,k≤i→i<k+j→i≠K→(G i).2=0)→k≤K→K<k+j→Bc0 G j k acc=acc++[(K:Int)]
 |0,k,acc,_,h1,h2=>by omega
 |j+1,k,acc,h,h1,h2=>by
  rw[Bc0]
  by_cases hk:k=K
  ·subst hk
   rw[if_pos hK]
   have:∀(j k':Nat) (acc:List Int),(∀i,k'≤i→i<k'+j→(G i).2=0)→Bc0 G j k' acc=acc:=by
    intro j
    induction j with
    |zero=>intro k' acc _;rfl
    |succ j ih=>intro k' acc h;rw[Bc0,if_neg (by rw[h k' (by omega) (by omega)];simp)];exact ih (k'+1) acc (fun i a b=>h i (by omega) (by omega))
   exact this j (k+1) _ fun i a b=>h i (by omega) (by omega) (by omega)
  ·rw[if_neg (by rw[h k (by omega) (by omega) hk];simp)]
   exact Brd G hK j (k+1) acc (fun i a b hne=>h i (by omega) (by omega) hne) (by omega) (by omega)
theorem Cau{b' p:LB}{c w r K a:Nat}{l fr:LI}{x:LX}(hlen:l.length=fr.length)(hn:l.length≤1000)(h5:∀z∈l,5≤z∧z≤100000)(hf0:∀z∈fr,0≤z)(hfs:fr.sum≤4000)(hK:K<l.length)(ha1:(l.take K).sum≤(a:Int))(ha2:(a:Int)<(l.take (K+1)).sum)(ha3:a≤100000)
  (b1 b2 b3 b4 b5 b6:Int) {SIL aa:LX} {v w' y u:Int} {af:LI} (e1:Wa b' p=some ([(K:Int)],0)) (e2:Fs b' p 2=some ((c:Int),(w:Int),(r:Int),SIL,[(K:Int)],0)) (e3:Fs b' p 1=some (v,w',y,aa,af,u)) (hsl:SIL.length=x.length)
  (htail:Bn true (K:Int) ((fr.take K).sum) u (c:Int) (w:Int) (r:Int) x fr [(K:Int)] (c:Int) (w:Int) (r:Int) v w' y af SIL aa=some true):
  ∀(j i q:Nat),i+j=K→j<q→Dd p true (c:Int) (w:Int) (r:Int) x b' b1 b2 b3 b4 b5 b6 fr l q ((a:Int)-(l.take i).sum) (i:Int) ((fr.take i).sum)=some true
 |j,i,0,_,h=>absurd h (Nat.not_lt_zero _)
 |0,i,q+1,hi,_=>by
  obtain rfl:i=K:=by omega
  have hgl:Ah (Ac fr) 1=((fr.length-1:Nat):Int):=by rw[Ac,Bc (by omega) (by omega)];omega
  have hsame:=Bp6 [(i:Int)] (by simp)
  rw[Dd,Gt,hgl,e1,e2,e3,Cfy]
  have fin:(Option.bind (Ap [(i:Int)] [(i:Int)]) fun ga=>if(!ga)=true then(if(true||(Be (Ac SIL) (Ac x)))=true then some false else Bn true (i:Int) ((fr.take i).sum) u (c:Int) (w:Int) (r:Int) x fr [(i:Int)] (c:Int) (w:Int) (r:Int) v w' y af SIL aa)else
    Option.bind (Ap [(i:Int)] [(i:Int)]) fun bu=>if((!bu)||(Be (Ac SIL) (Ac x)))=true then some false else Bn true (i:Int) ((fr.take i).sum) u (c:Int) (w:Int) (r:Int) x fr [(i:Int)] (c:Int) (w:Int) (r:Int) v w' y af SIL aa)=some true:=by
   rw[hsame,Aa,if_neg (by decide),Aa,if_neg (by simp[Aj,Ac,hsl])]
   exact htail
  by_cases hlast:i<fr.length-1
  ·have hs1:=Hn hK
   rw[if_pos (by rw[Af];simp;omega),Bu hK,Aa,Aa,if_neg (by simp[Cl];omega),Aa]
   simp only
   rw[Aa]
   simp only
   rw[Aa]
   simp only
   rw[if_neg (by simp[Aj])]
   exact fin
  ·rw[if_neg (by rw[Af];simp;omega),Aa]
   simp only
   rw[Aa]
   simp only
   rw[Aa]
   simp only
   rw[if_neg (by simp[Aj])]
   exact fin
 |j+1,i,q+1,hi,hq=>by
  have hil:i<l.length:=by omega
  have hif:i<fr.length:=by omega
  have hgl:Ah (Ac fr) 1=((fr.length-1:Nat):Int):=by rw[Ac,Bc (by omega) (by omega)];omega
  have ih:=Cau hlen hn h5 hf0 hfs hK ha1 ha2 ha3 b1 b2 b3 b4 b5 b6 e1 e2 e3 hsl htail j (i+1) q (by omega) (by omega)
  have hs1:=Hn hil
  have hs2:=Hn hif
  have hm:=Bzt (l:=l) (fun z hz=>by have:=h5 z hz;omega) (show i+1≤K by omega)
  have hx5:=h5 l[i] (List.getElem_mem _)
  have ht0:=Agz (l:=l) (fun z hz=>by have:=h5 z hz;omega) i
  have hf1:=Blw hf0 i
  have hf2:=Blw hf0 (i+1)
  have hi1:Ad (i:Int) 1=((i+1:Nat):Int):=by rw[Ag (by omega) (by omega)];omega
  have e5:Ah ((a:Int)-(l.take i).sum) (At3 1 l[i])=(a:Int)-(l.take (i+1)).sum:=by
   rw[Bgx,show max (1:Int) l[i]=l[i] by omega,Bc (by omega) (by omega)];omega
  have e6:Ad ((fr.take i).sum) fr[i]=(fr.take (i+1)).sum:=by rw[Ag (by omega) (by omega)];omega
  rw[Dd,Gt,hgl,if_pos (by rw[Af];simp;omega),Bu hil,Aa,Aa,if_pos (by simp[Cl];omega),Kz,Sj,Bu hil,Aa,Aa,Bu hif,Aa,Aa,e5,e6,hi1]
  exact ih
theorem Bsb(hal:Rf=some true)(C W R:Int)(x:List Int32)(p:LB)(at':Int)(Lo:UInt8):Il C W R x p at' Lo=some true:=by
 rw[Il,Lg,hal,Aa]
 rcases Bps C W R x with⟨e8,_⟩|⟨c,w,r,n,rfl,rfl,rfl,h,e24,eck⟩
 ·rw[e8,Aa,if_pos (by simp[Aj])]
 rw[e24,Aa]
 by_cases hc:(((((Be (0:Int) 0||Ga (Ac x) 400)||Ga (Ac p) 64)||Ch at' 0)||geq Lo 0)|| !true)=true
 ·rw[if_pos hc]
 rw[if_neg hc]
 simp only[Bool.or_eq_true,not_or,Am,Af,Ac,decide_eq_true_eq]at hc
 obtain⟨⟨⟨⟨⟨_,c2⟩,c3⟩,c4⟩,c5⟩,_⟩:=hc
 obtain⟨a,rfl⟩:=Int.eq_ofNat_of_zero_le (show 0≤at' by omega)
 have hp:p.length≤64:=by omega
 have hle:=h.le
 have hcc:=h.ch
 have fo:=Bks h hp
 have o:=fo.Eh
 have hd:=fo.Bvw
 have hfn:=Bt7 h p
 have hfl2:=Be9 (c:=c) (w:=w) (r:=r) (n:=n) (x:=x) p
 have hlen:=congrArg List.length hd
 rw[List.length_drop,List.append_nil]at hlen
 have hA:=o.at'
 have hfl:=o.file
 have hq:Bg (Ac x) (c:Int)=(n:Int):=by rw[Ac,Ar2 (by omega),h.len,Nat.mul_div_cancel _ (by omega)]
 rw[Bqg h eck p hp,Aa]
 simp only
 rw[o.prog,Aa]
 simp only
 rw[Ay (by rw[Aj];simp;omega),Aa,hq,Avt h.rate.2 h.cnt.1 hle.1,Aa,show Ac (lensOf (frs c w r n x p))=Ac (framesL (longN r) n) by rw[Ac,Ac,Ja,hfl2],if_neg (by simp[Aj,Af,Am,Ac];omega)]
 have hsub:Ah (Ac (Yd c w r n x p)) (Ad5 0 p (frs c w r n x p).length:Int)=((frs c w r n x p).flatten.length:Int):=by rw[Ac,Bc (by omega) (by omega)];omega
 rw[hsub]
 by_cases hc2:(Ly (a:Int) ((frs c w r n x p).flatten.length:Int))=true
 ·rw[if_pos hc2]
 rw[if_neg hc2]
 simp only[Cl,decide_eq_true_eq]at hc2
 obtain⟨K,j,hK,hj,h1,h2,h3⟩:=Cb0 h hp (a:=a) (by omega)
 have hy:Lo≠0:=by intro e;rw[e]at c5;exact c5 rfl
 generalize hv:(frs c w r n x p)[K][j]=v at*
 have hne:Pk v Lo≠v:=by
  intro e
  apply hy
  have h5:(v^^^Lo)=v:=by rw[←Bm2];exact e
  have h6:v^^^ (v^^^Lo)=v^^^v:=by rw[h5]
  rw[←UInt8.xor_assoc,UInt8.xor_self,UInt8.zero_xor]at h6
  exact h6
 have hadd:Ad (Ad5 0 p (frs c w r n x p).length:Int) (a:Int)=((Ad5 0 p (frs c w r n x p).length+a:Nat):Int):=by rw[Ag (by omega) (by omega)];omega
 rw[hadd,h2,Aa,Aa,Aa,Oz _ (by omega),Aa]
 obtain⟨fo',hbad⟩:=h3 (Pk v Lo)
 have hbad:=hbad hne
 have o':=fo'.Eh
 have hl':=Bpc (fs:=frs c w r n x p) hK (g:=(frs c w r n x p)[K].set j (Pk v Lo)) (by rw[List.length_set])
 have hlen':((frs c w r n x p).set K ((frs c w r n x p)[K].set j (Pk v Lo))).length=(frs c w r n x p).length:=List.length_set
 have hgood':∀i,(hi:i<(frs c w r n x p).length)→i≠K→_:=fun i hi hiK=>fo'.Ckh (k:=i) (by rw[hlen'];exact hi) (by rw[List.getElem_set_ne (fun e=>hiK e.symm)])
 have hbd:=fo'.Cj5 (k:=K) (by rw[hlen'];exact hK) (by rw[List.getElem_set_self];exact hbad)
 rw[hl',hlen']at o' hgood' hbd
 generalize hb':(Yd c w r n x p).set (Ad5 0 p (frs c w r n x p).length+a) (Pk v Lo)=b' at*
 have hPl:=Baz (c:=c) (r:=r) (n:=n) (x:=x)
 have hKf:K<(framesL (longN r) n).length:=by omega
 have hKp:K<(Mi c r n x).length:=by omega
 have hfr1:=Mf (Ie r) h.cnt.1
 obtain⟨m,hm⟩:=Int.eq_ofNat_of_zero_le (show 0≤(framesL (longN r) n)[K] by have:=hfr1 _ (List.getElem_mem hKf);omega)
 have hnn:=Blw (l:=framesL (longN r) n) (fun z hz=>by have:=hfr1 z hz;omega)
 obtain⟨S,hS⟩:=Int.eq_ofNat_of_zero_le (hnn K).1
 have hx:=Btj h hKp
 have hP:=Aoe h K (by omega)
 have hM:=Bn4 h hKp hKf
 rw[hS,Int.toNat_natCast]at hP
 rw[hm,Int.toNat_natCast]at hM
 have hSm:S+m≤n:=by
  have t:=Hn hKf
  have:=(hnn (K+1)).2
  rw[h.sum]at this
  omega
 have hSmc:S*c+m*c≤n*c:=by rw[←Nat.add_mul];exact Nat.mul_le_mul_right c hSm
 have hG':∀i,0≤i→i<0+(frs c w r n x p).length→i≠K→(Adg b' p (fmtOf p) c w r n (Ad5 0 p (frs c w r n x p).length) (lensOf (frs c w r n x p)) i).2=0:=fun i _ hi hiK=>by rw[(hgood' i (by omega) hiK).1]
 have hG22:(Adg b' p (fmtOf p) c w r n (Ad5 0 p (frs c w r n x p).length) (lensOf (frs c w r n x p)) K).2≠0:=by rw[hbd];decide
 have hbadS:=Brd _ hG22 (frs c w r n x p).length 0 [] hG' (by omega) (by omega)
 rw[List.nil_append]at hbadS
 have hll:(lensOf (frs c w r n x p)).length=(frs c w r n x p).length:=Ja _
 have e1:=Cba o'
 rw[hll,hbadS]at e1
 have hpl:=Az3
 have hcat:∀kind:Nat,Azn (Ahx kind c w (framesL (longN r) n) (Adg b' p (fmtOf p) c w r n (Ad5 0 p (frs c w r n x p).length) (lensOf (frs c w r n x p)))) (frs c w r n x p).length 0=((Mi c r n x).take K).flatten++((if kind=2 then List.replicate (m*c) 0 else [])++((Mi c r n x).drop (K+1)).flatten):=by
  intro kind
  have hpc:∀i,i<(frs c w r n x p).length→i≠K→Ahx kind c w (framesL (longN r) n) (Adg b' p (fmtOf p) c w r n (Ad5 0 p (frs c w r n x p).length) (lensOf (frs c w r n x p))) i=(Mi c r n x).getD i []:=fun i hi hiK=>by
   rw[Ahx,if_neg (by rw[hG' i (by omega) (by omega) hiK];simp),(hgood' i hi hiK).2]
  have hpk:Ahx kind c w (framesL (longN r) n) (Adg b' p (fmtOf p) c w r n (Ad5 0 p (frs c w r n x p).length) (lensOf (frs c w r n x p))) K=(if kind=2 then List.replicate (m*c) 0 else []):=by
   rw[Ahx,if_pos hG22]
   have:(framesL (longN r) n).getD K 0=(m:Int):=by rw[List.getD_eq_getElem?_getD,List.getElem?_eq_getElem hKf];exact hm
   rw[this,Int.toNat_natCast]
  generalize Ahx kind c w (framesL (longN r) n) (Adg b' p (fmtOf p) c w r n (Ad5 0 p (frs c w r n x p).length) (lensOf (frs c w r n x p)))=PP at hpc hpk⊢
  have es:(frs c w r n x p).length=K+((frs c w r n x p).length-K-1+1):=by omega
  rw[es,Bn5,Nat.zero_add,Azn,hpk,Bc4 (Mi c r n x) _ K 0 (fun i _ hi=>hpc i (by omega) (by omega)) (by omega),Bc4 (Mi c r n x) _ _ (K+1) (fun i h1 h2=>hpc i (by omega) (by omega)) (by omega),List.drop_zero,List.take_of_length_le (l:=(Mi c r n x).drop (K+1)) (by rw[List.length_drop];omega)]
 have hne1:1≤c:=hcc.1
 have hxl:=congrArg List.length hx
 rw[List.length_append,List.length_append]at hxl
 have hm1:1≤m:=by have:=hfr1 _ (List.getElem_mem hKf);omega
 have hmc1:1≤m*c:=Nat.mul_pos hm1 hne1
 have e2:=Boa o' 2 (.inr rfl)
 rw[Cdm,hll,Az3,List.nil_append,hcat 2,if_pos rfl,if_neg (by
  intro e
  have:=congrArg List.length e
  rw[List.length_append,List.length_append,List.length_replicate,List.length_nil]at this
  omega),hbadS,←List.append_assoc]at e2
 have e3:=Boa o' 1 (.inl rfl)
 rw[Cdm,hll,Az3,List.nil_append,hcat 1,if_neg (show ¬(1=2) by decide),List.nil_append,hbadS]at e3
 have hh5:∀z∈lensOf (frs c w r n x p),5≤z∧z≤100000:=fun z hz=>⟨o'.five z hz,by have:=Bdb o'.five z hz;have:=o'.sum;omega⟩
 have hs1:((lensOf (frs c w r n x p)).take K).sum=(((frs c w r n x p).take K).flatten.length:Int):=by rw[Axe,Aey]
 have hs2:(lensOf (frs c w r n x p))[K]'(by rw[hll];exact hK)=((frs c w r n x p)[K].length:Int):=by simp[lensOf]
 have hs3:=Hn (l:=lensOf (frs c w r n x p)) (i:=K) (by rw[hll];exact hK)
 have hgetm:getI (framesL (longN r) n) (K:Int)=some (m:Int):=by rw[Bu hKf,hm]
 have hgo:∀(v w' y u:Int) (af:LI) (aa:LX),Fs b' p 1=some (v,w',y,aa,af,u)→(((framesL (longN r) n).length=1∧u=6)∨((framesL (longN r) n).length≠1∧u=0∧v=(c:Int)∧w'=(w:Int)∧y=(r:Int)∧af=[(K:Int)]∧aa=((Mi c r n x).take K).flatten++((Mi c r n x).drop (K+1)).flatten))→
   Le p true (c:Int) (w:Int) (r:Int) x b' (fmtOf p:Int) (c:Int) (w:Int) (r:Int) (n:Int) (Ad5 0 p (frs c w r n x p).length:Int) (framesL (longN r) n) (lensOf (frs c w r n x p)) (a:Int) 0 0=some true:=by
  intro v w' y u af aa e3' hcase
  have htail:=Ce0 x _ _ _ S m c hx hP hM (by omega) w r K (framesL (longN r) n) hgetm (by omega) (by omega) u v w' y af aa hcase
  rw[←hS]at htail
  have:=Cau (b':=b') (p:=p) (c:=c) (w:=w) (r:=r) (K:=K) (a:=a) (l:=lensOf (frs c w r n x p)) (fr:=framesL (longN r) n) (x:=x) (by rw[hll];exact hfl2) (by omega) hh5 (fun z hz=>by have:=hfr1 z hz;omega) (by rw[h.sum];omega) (by omega) (by omega) (by omega) (by omega) (fmtOf p:Int) (c:Int) (w:Int) (r:Int) (n:Int) (Ad5 0 p (frs c w r n x p).length:Int) e1 e2 e3' (by rw[List.length_append,List.length_append,List.length_replicate];omega) htail K 0 Al (by omega) (by have:=Ak;omega)
  rw[List.take_zero,List.take_zero,List.sum_nil,Int.sub_zero]at this
  exact this
 by_cases hone:(framesL (longN r) n).length=1
 ·rw[if_pos (by
   have hK0:K=0:=by omega
   subst hK0
   rw[List.take_zero,List.drop_of_length_le (by omega)];rfl)]at e3
  exact hgo _ _ _ _ _ _ e3 (.inl ⟨hone,rfl⟩)
 ·rw[if_neg (by
   intro e
   have:=congrArg List.length e
   rw[List.length_append,List.length_nil]at this
   have t:=Aoe h K (by omega)
   by_cases hK0:K=0
   ·have hp1:1<(Mi c r n x).length:=by omega
    have hmem:(Mi c r n x)[1]∈(Mi c r n x).drop (K+1):=by
     subst hK0
     rw[drop_cons (show 0+1<(Mi c r n x).length by omega)]
     exact List.mem_cons_self
    have h1':=(Ack h _ (List.getElem_mem hp1)).1
    have:((Mi c r n x).drop (K+1)).flatten=[]:=List.eq_nil_of_length_eq_zero (by omega)
    rw[List.flatten_eq_nil_iff]at this
    rw[this _ hmem]at h1'
    simp at h1'
   ·have hmem:(Mi c r n x)[0]∈(Mi c r n x).take K:=by
     have e0:((Mi c r n x).take K)[0]'(by rw[List.length_take];omega)=(Mi c r n x)[0]:=List.getElem_take
     rw[←e0]
     exact List.getElem_mem _
    have h1':=(Ack h _ (List.getElem_mem (show 0<(Mi c r n x).length by omega))).1
    have:((Mi c r n x).take K).flatten=[]:=List.eq_nil_of_length_eq_zero (by omega)
    rw[List.flatten_eq_nil_iff]at this
    rw[this _ hmem]at h1'
    simp at h1')]at e3
  exact hgo _ _ _ _ _ _ e3 (.inr ⟨hone,rfl,rfl,rfl,rfl,rfl,rfl⟩)
theorem law_PolicyOthers(C W R:Int)(x:List Int32)(p:LB)(at':Int)(Lo:UInt8):Il C W R x p at' Lo=some true:=Bsb Cdy C W R x p at' Lo
end Go.Pl
