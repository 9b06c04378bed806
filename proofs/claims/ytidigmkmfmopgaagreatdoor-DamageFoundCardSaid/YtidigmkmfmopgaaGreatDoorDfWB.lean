/- A part of the proof of a statement of this seat (see the text that ends in Proof): LwBack, LwGot, LwWs, LwGoes, LwPol, LwRt, LwClip, LwPts, LwTrc, LwPd, LwDt, LwDu, LwAll, LwEc3, LwEc4, LwEb1, LwEb2, LwEb3, LwEb4, LwA41, LwPv, LwPk, LwEf1, LwEf2, LwEf3, LwEf4, LwEf5, LwEf6, LwNn, LwHdI, LwFit, LwFitC, LwStart, LwStb, LwChk, LwChkT, LwChkF, LwPc, LwTake, LwGre, LwSteps, LwStb2, LwFed, LwOut, LwErr, LwCat, LwJoin, LwPp, LwPt, LwPe2, LwEf7, LwEf8, LwA44, LwUndo, LwEg1, LwDp, LwEg2, LwEg3, LwDg, LwDf. No conditions of its own. -/
import Derived.Test.YtidigmkmfmopgaaGreatDoorDfWA
import Derived.Test.YtidigmkmfmopgaaGreatDoorDfPA
import Derived.KernelRfl
set_option linter.unusedVariables false
set_option linter.unusedSimpArgs false
namespace Go.Pl
open Go Go.Lv
theorem Ckw(n m:Nat):Nk n m 0≠Nk n m 2147483648:=by
 intro h
 simp[Nk,Ns,APE]at h
def Bu(b:List UInt8):List UInt8:=b.drop (b.length-32)
theorem Btn{b:List UInt8}(h:32≤b.length):(Bu b).length=32:=by rw[Bu,List.length_drop];omega
def itA(t:List UInt8):Nat:=leN (part t 12 4)-32
def mnA(t:List UInt8):Nat:=leN (part t 16 4)
def Vq(b:List UInt8):Int×Int:=
 if ¬(32≤b.length∧(Bu b).take 8=APE)then(0,6)else if Ahl (Bu b)=true then(0,12)else
 if Bu b=Nk (itA (Bu b)) (mnA (Bu b)) 0 then(if b.length<itA (Bu b)+32 then(0,24)else(((itA (Bu b)+32:Nat):Int),0))else
 if Bu b≠Nk (itA (Bu b)) (mnA (Bu b)) 2147483648 then(0,12)else
 if b.length<itA (Bu b)+64 then(0,24)else
 if(b.take (b.length-(itA (Bu b)+64)+32)).drop (b.length-(itA (Bu b)+64))≠Nk (itA (Bu b)) (mnA (Bu b)) 2684354560 then(0,12)else(((itA (Bu b)+64:Nat):Int),0)
section
variable {b:List UInt8}
theorem ba1(h:¬(32≤b.length∧(Bu b).take 8=APE)):Vq b=(0,6):=by rw[Vq,if_pos h]
variable (h:32≤b.length∧(Bu b).take 8=APE)
include h
theorem ba2(h2:Ahl (Bu b)=true):Vq b=(0,12):=by rw[Vq,if_neg (fun h'=>h' h),if_pos h2]
variable (h2:Ahl (Bu b)=false)
include h2
theorem ba3(h3:Bu b=Nk (itA (Bu b)) (mnA (Bu b)) 0):Vq b=if b.length<itA (Bu b)+32 then(0,24)else(((itA (Bu b)+32:Nat):Int),0):=by
 rw[Vq,if_neg (fun h'=>h' h),if_neg (by rw[h2];simp),if_pos h3]
variable (h3:Bu b≠Nk (itA (Bu b)) (mnA (Bu b)) 0)
include h3
theorem ba4(h4:Bu b≠Nk (itA (Bu b)) (mnA (Bu b)) 2147483648):Vq b=(0,12):=by
 rw[Vq,if_neg (fun h'=>h' h),if_neg (by rw[h2];simp),if_neg h3,if_pos h4]
variable (h4:Bu b=Nk (itA (Bu b)) (mnA (Bu b)) 2147483648)
include h4
theorem ba5(h5:b.length<itA (Bu b)+64):Vq b=(0,24):=by
 rw[Vq,if_neg (fun h'=>h' h),if_neg (by rw[h2];simp),if_neg h3,if_neg (fun e=>e h4),if_pos h5]
theorem ba6(h5:¬b.length<itA (Bu b)+64):Vq b=if(b.take (b.length-(itA (Bu b)+64)+32)).drop (b.length-(itA (Bu b)+64))≠Nk (itA (Bu b)) (mnA (Bu b)) 2684354560 then(0,12)else(((itA (Bu b)+64:Nat):Int),0):=by
 rw[Vq,if_neg (fun h'=>h' h),if_neg (by rw[h2];simp),if_neg h3,if_neg (fun e=>e h4),if_neg h5]
end
theorem Bp9{b:List UInt8}{n:Int}(h:Vq b=(n,0)):32≤n∧n≤b.length:=by
 unfold Vq at h
 split at h; · simp at h
 rename_i h32
 split at h; · simp at h
 split at h
 ·split at h; · simp at h
  simp only[Prod.mk.injEq,and_true]at h;omega
 split at h; · simp at h
 split at h; · simp at h
 split at h; · simp at h
 simp only[Prod.mk.injEq,and_true]at h;omega
theorem Bzf{b:List UInt8}(h:(Vq b).2≠0):(Vq b).1=0:=by
 revert h
 unfold Vq
 split; · simp
 split; · simp
 split
 ·split<;>simp
 split; · simp
 split; · simp
 split<;>simp
theorem Cc6{b:List UInt8}(h:32≤b.length)(hl:b.length<4611686018427387904):Aj (Ac b) 32=((b.length-32:Nat):Int)∧Bo b ((b.length-32:Nat):Int) (Ac b)=some (Bu b):=by
 refine⟨by rw[Ac,Az (by omega) (by omega)];omega,?_⟩
 rw[Cb (by omega) (by omega)];rfl
theorem Byw(b:List UInt8)(hl:b.length<4611686018427387904):Bbx b=some (Vq b):=by
 rw[Bbx,Avi]
 by_cases h32:32≤b.length
 ·obtain⟨e1,e2⟩:=Cc6 h32 hl
  have hl3:=Btn h32
  rw[if_neg (by rw[e1,Ae];simp),e1,e2,Aa,Asm,Aa]
  by_cases hp:(Bu b).take 8=APE
  ·have h:=And.intro h32 hp
   rw[if_neg (by simpa [APE,hl3]using hp),Avx,Bfi,e1,e2,Aa,Atg _ 0 (by omega) (by omega) (by decide),Aa]
   cases hb:Ahl (Bu b)with
   |true=>
    rw[ba2 h hb]
    simp only[if_true,Bool.false_eq_true,if_false]
    rw[Aa,Atg _ 2147483648 (by omega) (by omega) (by decide),Aa,hb];rfl
   |false=>
    obtain⟨i1,i2,i3,i4⟩:=Bd1 (Bu b) (by omega) hb
    have eI:leN (part (Bu b) 12 4)-32=itA (Bu b):=rfl
    have eM:leN (part (Bu b) 16 4)=mnA (Bu b):=rfl
    simp only[Bool.false_eq_true,if_false]
    rw[eI]at i3
    rw[eM]at i4
    rw[eI,eM]
    by_cases c1:Bu b=Nk (itA (Bu b)) (mnA (Bu b)) 0
    ·have c1':Bu b=Nk (itA (Bu b)) (mnA (Bu b)) (0:UInt64).toNat:=c1
     rw[if_pos (by simpa using c1'),ba3 h hb c1]
     by_cases c2:b.length<itA (Bu b)+32
     ·rw[if_pos (by rw[Ae];simp;omega),if_pos c2]
     ·rw[if_neg (by rw[Ae];simp;omega),if_neg c2,Ag (by omega) (by omega)];rfl
    ·have c1':¬Bu b=Nk (itA (Bu b)) (mnA (Bu b)) (0:UInt64).toNat:=c1
     rw[if_neg (by simpa using c1'),Aa,Atg _ 2147483648 (by omega) (by omega) (by decide),Aa,hb]
     simp only[Bool.false_eq_true,if_false]
     rw[eI,eM]
     by_cases c2:Bu b=Nk (itA (Bu b)) (mnA (Bu b)) 2147483648
     ·have c2':Bu b=Nk (itA (Bu b)) (mnA (Bu b)) (2147483648:UInt64).toNat:=c2
      rw[if_neg (by simpa using c2'),Ag (by omega) (by omega)]
      by_cases c3:b.length<itA (Bu b)+64
      ·rw[if_pos (by rw[Ae,Ac];simp;omega),ba5 h hb c1 c2 c3]
      ·rw[if_neg (by rw[Ae,Ac];simp;omega),Ac,Az (by omega) (by omega),Ag (by omega) (by omega),Me (by omega) (by omega) (by omega),Aa,Bhs _ _ _ i3 i4 (by decide),Aa,Fv,Aa,ba6 h hb c1 c2 c3]
       rw[show((b.length:Int)-(((itA (Bu b):Nat):Int)+64)).toNat=b.length-(itA (Bu b)+64) by omega,show((b.length:Int)-(((itA (Bu b):Nat):Int)+64)+32).toNat=b.length-(itA (Bu b)+64)+32 by omega]
       have e7:(2684354560:UInt64).toNat=2684354560:=rfl
       rw[e7]
       by_cases c4:(b.take (b.length-(itA (Bu b)+64)+32)).drop (b.length-(itA (Bu b)+64))=Nk (itA (Bu b)) (mnA (Bu b)) 2684354560
       ·rw[if_neg (by simpa using c4),if_neg (fun e=>e c4)];rfl
       ·rw[if_pos (by simpa using c4),if_pos c4]
     ·have c2':¬Bu b=Nk (itA (Bu b)) (mnA (Bu b)) (2147483648:UInt64).toNat:=c2
      rw[if_pos (by simpa using c2'),ba4 h hb c1 c2]
  ·rw[if_pos (by rw[Bool.not_eq_true',decide_eq_false_iff_not];intro h;exact hp h.2),ba1 (fun h=>hp h.2)]
 ·rw[if_pos (by rw[Ac,Az (by omega) (by omega),Ae];simp;omega),ba1 (fun h=>h32 h.1)]
theorem Cik{b:List UInt8}(h:32≤b.length):(b.take (b.length-32+8)).drop (b.length-32)=(Bu b).take 8:=by
 rw[Bu,List.take_drop]
theorem Cdb(b:List UInt8)(hl:b.length<4611686018427387904):Abo b=some (Vq b):=by
 rw[Abo,Ahv]
 by_cases h32:32≤b.length
 ·obtain⟨e1,e2⟩:=Cc6 h32 hl
  have hl3:=Btn h32
  rw[if_neg (by rw[Ae,Ac];simp;omega),e1,Ag (by omega) (by omega),Me (by omega) (by omega) (by omega),Aa,show((b.length-32:Nat):Int).toNat=b.length-32 from rfl,show(((b.length-32:Nat):Int)+8).toNat=b.length-32+8 by omega,Cik h32]
  by_cases hp:(Bu b).take 8=APE
  ·have h:=And.intro h32 hp
   rw[if_neg (by simpa [APE]using hp),Ah6,Agy,e1,e2,Aa,Br1 _ (by omega) (by omega),Aa]
   cases hb:Ahl (Bu b)with
   |true=>rw[ba2 h hb];rfl
   |false=>
    obtain⟨i1,i2,i3,i4⟩:=Bd1 (Bu b) (by omega) hb
    have eI:leN (part (Bu b) 12 4)-32=itA (Bu b):=rfl
    have eM:leN (part (Bu b) 16 4)=mnA (Bu b):=rfl
    simp only[Bool.false_eq_true,if_false,Bool.not_true]
    rw[eI]at i3
    rw[eM]at i4
    rw[eI,eM,Kb,if_pos rfl,Bdg _ _ _ i3 i4 (by decide),Aa,Aa]
    have e7:(2147483648:UInt64).toNat=2147483648:=rfl
    have e8:(2684354560:UInt64).toNat=2684354560:=rfl
    rw[e7]
    by_cases c2:Bu b=Nk (itA (Bu b)) (mnA (Bu b)) 2147483648
    ·have c1:Bu b≠Nk (itA (Bu b)) (mnA (Bu b)) 0:=fun e=>Ckw (itA (Bu b)) (mnA (Bu b)) (e.symm.trans c2)
     rw[if_neg (by simpa using c2),Us,Vm,if_pos (by simpa using c2),Vw,Uv,Ag (a:=32) (by omega) (by omega),Ag (by omega) (by omega)]
     by_cases c3:b.length<itA (Bu b)+64
     ·rw[if_pos (by rw[Ae,Ac];simp;omega),ba5 h hb c1 c2 c3]
     ·rw[if_neg (by rw[Ae,Ac];simp;omega),if_pos (by simpa using c2),Ac,Az (by omega) (by omega),Ag (by omega) (by omega),Me (by omega) (by omega) (by omega),Aa,Ug,Bdg _ _ _ i3 i4 (by decide),Aa,Aa,ba6 h hb c1 c2 c3,e8]
      rw[show((b.length:Int)-(32+((itA (Bu b):Nat):Int)+32)).toNat=b.length-(itA (Bu b)+64) by omega,show((b.length:Int)-(32+((itA (Bu b):Nat):Int)+32)+32).toNat=b.length-(itA (Bu b)+64)+32 by omega]
      by_cases c4:(b.take (b.length-(itA (Bu b)+64)+32)).drop (b.length-(itA (Bu b)+64))=Nk (itA (Bu b)) (mnA (Bu b)) 2684354560
      ·rw[if_neg (by simpa using c4),if_neg (fun e=>e c4),show(32+((itA (Bu b):Nat):Int)+32)=((itA (Bu b)+64:Nat):Int) by omega]
      ·rw[if_pos (by simpa using c4),if_pos c4]
    ·rw[if_pos (by simpa using c2),Kb,if_neg (by simp),Bdg _ _ _ i3 i4 (by decide),Aa,Aa]
     have e9:(0:UInt64).toNat=0:=rfl
     rw[e9]
     by_cases c1:Bu b=Nk (itA (Bu b)) (mnA (Bu b)) 0
     ·rw[if_neg (by simpa using c1),Us,Vm,if_neg (by simpa using c2),Vw,Uv,Ag (by omega) (by omega),ba3 h hb c1,if_neg (c:=(Bu b==Nk (itA (Bu b)) (mnA (Bu b)) 2147483648)=true) (by simpa using c2)]
      by_cases c3:b.length<itA (Bu b)+32
      ·rw[if_pos (by rw[Ae,Ac];simp;omega),if_pos c3]
      ·rw[if_neg (by rw[Ae,Ac];simp;omega),if_neg c3,show(32+((itA (Bu b):Nat):Int))=((itA (Bu b)+32:Nat):Int) by omega]
     ·rw[if_pos (by simpa using c1),ba4 h hb c1 c2]
  ·rw[if_pos (by simpa [APE]using hp),ba1 (fun h=>hp h.2)]
 ·rw[if_pos (by rw[Ae,Ac];simp;omega),ba1 (fun h=>h32 h.1)]
def Byo:Nat→List UInt8→Nat→Int×Int
 |0,_,_=>(0,38)
 |j+1,b,a=>if b=[]then((a:Int),0)else if(Vq b).2≠0 then(0,38)else Byo j (b.take (b.length-(Vq b).1.toNat)) (a+1)
theorem Bse:∀(j q a:Nat) (b:List UInt8),b.length<j→j≤q→b.length≤4000→a+b.length≤4000→Sf q (a:Int) b=some (Byo j b a)
 |0,_,_,_,h,_,_,_=>by omega
 |j+1,q+1,a,b,h,hq,h4,ha=>by
  rw[Sf,Aik,Byo]
  by_cases hb:b=[]
  ·subst hb;rw[if_neg (by decide),if_pos rfl];rfl
  ·have hpos:0<b.length:=List.length_pos_iff.2 hb
   rw[if_pos (by rw[Ak,Ac];simp;omega),if_neg hb,Byw b (by omega),Aa]
   have hbad:=Bzf (b:=b)
   have hok:=fun n=>Bp9 (b:=b) (n:=n)
   generalize Vq b=v at*
   obtain⟨n,e⟩:=v
   simp only at hbad⊢
   rw[Afw,Afy]
   by_cases he:e≠0
   ·rw[if_pos he,hbad he,if_pos (by decide)]
   ·obtain⟨k1,k2⟩:=hok n (by rw[show e=0 by simpa using he])
    rw[if_neg he,if_neg (by rw[As];simp;omega),Ac,Az (by omega) (by omega),Gz (by omega) (by omega),Aa,Afo,Ary,Ag (by omega) (by omega)]
    rw[show((b.length:Int)-n).toNat=b.length-n.toNat by omega]
    have ih:=Bse j q (a+1) (b.take (b.length-n.toNat)) (by rw[List.length_take];omega) (by omega) (by rw[List.length_take];omega) (by rw[List.length_take];omega)
    rw[←ih];rfl
theorem Bwf:∀(j q a:Nat) (b:List UInt8),b.length<j→j≤q→b.length≤4000→a+b.length≤4000→Ln q b (a:Int)=some (Byo j b a)
 |0,_,_,_,h,_,_,_=>by omega
 |j+1,q+1,a,b,h,hq,h4,ha=>by
  rw[Ln,Ad0,Byo]
  by_cases hb:b=[]
  ·subst hb;rw[if_neg (by decide),if_pos rfl];rfl
  ·have hpos:0<b.length:=List.length_pos_iff.2 hb
   rw[if_pos (by rw[Ak,Ac];simp;omega),if_neg hb,Cdb b (by omega),Aa]
   have hok:=fun n=>Bp9 (b:=b) (n:=n)
   generalize Vq b=v at*
   obtain⟨n,e⟩:=v
   simp only
   by_cases he:e≠0
   ·rw[if_pos he,if_pos (by rw[Ah];simpa using he)]
   ·obtain⟨k1,k2⟩:=hok n (by rw[show e=0 by simpa using he])
    rw[if_neg he,if_neg (by rw[Ah];simpa using he),Ac,Az (by omega) (by omega),Gz (by omega) (by omega),Aa,Ag (by omega) (by omega)]
    rw[show((b.length:Int)-n).toNat=b.length-n.toNat by omega]
    have ih:=Bwf j q (a+1) (b.take (b.length-n.toNat)) (by rw[List.length_take];omega) (by omega) (by rw[List.length_take];omega) (by rw[List.length_take];omega)
    rw[←ih];rfl
def Agk(b:List UInt8):Int×Int:=if 4000<b.length then(0,38)else Byo (b.length+1) b 0
theorem Bqn(b:List UInt8)(hl:b.length<4611686018427387904):Aj5 b=some (Agk b):=by
 rw[Aj5,Ajj,Agk]
 by_cases h:4000<b.length
 ·rw[if_pos (by rw[Ak,Ac];simp;omega),if_pos h]
 ·rw[if_neg (by rw[Ak,Ac];simp;omega),if_neg h]
  exact Bse _ FUEL 0 b (by omega) (by have:=Al;omega) (by omega) (by omega)
theorem Buj(b:List UInt8)(hl:b.length<4611686018427387904):Pj b=some (Agk b):=by
 rw[Pj,Adi,Agk]
 by_cases h:4000<b.length
 ·rw[if_pos (by rw[Ak,Ac];simp;omega),if_pos h]
 ·rw[if_neg (by rw[Ak,Ac];simp;omega),if_neg h]
  exact Bwf _ FUEL 0 b (by omega) (by have:=Al;omega) (by omega) (by omega)
end Go.Pl
set_option linter.unusedVariables false
set_option linter.unusedSimpArgs false
namespace Go.Pl
open Go Go.Lv
theorem Ba0{a b:Nat}(h:a<9223372036854775808):Bt (a:Int) (b:Int)=((a/b:Nat):Int):=by
 have:a/b≤a:=Nat.div_le_self _ _
 rw[Afj,Int.tdiv_eq_ediv_of_nonneg (by omega),←Int.natCast_ediv]
 generalize a/b=k at*
 exact Br (by omega) (by omega)
theorem Bei{bits:Int}(h:BitsOk bits)(x:Int):(Afq bits x).length=wB bits:=by
 obtain rfl|rfl|rfl:=h<;>rfl
theorem Axq{bits:Int}(h:BitsOk bits):∀l:List Int32,(bytesB bits l).length=l.length*wB bits
 |[]=>by simp[bytesB]
 |x::l=>by
  have h1:=Axq h l
  have h2:=Bei h x.toInt
  simp only[bytesB,List.flatMap_cons,List.length_append,List.length_cons,Nat.succ_mul]at*
  omega
def segF(b:List UInt8)(A:Nat)(l:List Int)(k:Nat):List UInt8:=(b.take ((A:Int)+(l.take (k+1)).sum).toNat).drop ((A:Int)+(l.take k).sum).toNat
structure Gts (b p:List UInt8) (f c w r n A:Nat) (l:List Int) (k m:Nat) (x:List Int32) (s:List UInt8) (e:Int):Prop where
 mom:getI (framesL (longN r) n) (k:Int)=some (m:Int)
 pos:1≤m∧m*c≤4000
 got:cadenzaref40_Got b p (f:Int) (c:Int) (w:Int) (r:Int) (n:Int) (A:Int) l (k:Int)=some (s,e)
 none':e≠0→s=[]∧x=[]
 some':e=0→s=bytesB (w:Int) x∧x.length=m*c∧cadenzaref18_Check (w:Int) x=some 0∧width_Bytes (w:Int) x=some (s,0)∧(A:Int)+(l.take (k+1)).sum≤b.length
 way:((b.length:Int)<(A:Int)+(l.take (k+1)).sum∧e=24)∨((A:Int)+(l.take (k+1)).sum≤b.length∧deframe_Decode (c:Int) (w:Int) (tapsOf p) (m:Int) (segF b A l k)=some (x,e)∧cadenzaref21_Decode (c:Int) (w:Int) (tapsOf p) (m:Int) (segF b A l k)=some (x,e))
theorem Aq3{b p:List UInt8}{f c w r n A:Nat}{l:List Int}(o:Opn b p f c w r n A l)(k:Nat)(hk:k<l.length):∃m x s e,Gts b p f c w r n A l k m x s e:=by
 obtain⟨hc,hw,hr,hn,_⟩:=Abs o.shape
 have hfit:n≤4000/c:=by have:=o.fit;simp only[fitB,decide_eq_true_eq]at this;exact this.1
 have hn4:n≤4000:=by have:=Nat.div_le_self 4000 c;omega
 have hA:=o.at'
 have hfile:=o.file
 have hlen:=o.len
 have b1:=Ef o.five k
 have b2:=Ef o.five (k+1)
 have e:=Jf hk
 have h5:=o.five l[k] (List.getElem_mem _)
 have hsum:=o.sum
 have hs1:=o.some1
 have hkf:k<(framesL (longN r) n).length:=by omega
 obtain⟨m,hm,m1,m2⟩:=Ba6 (Lt r) hn (List.getElem_mem hkf)
 have hmom:getI (framesL (longN r) n) (k:Int)=some (m:Int):=by rw[Bm hkf,hm]
 have hpos:1≤m∧m*c≤4000:=by
  refine⟨m1,?_⟩
  have:=Nat.mul_le_mul_right c (Nat.le_trans m2 hfit)
  have:=Nat.div_mul_le_self 4000 c
  omega
 have hR:cadenzaref40_Got b p (f:Int) (c:Int) (w:Int) (r:Int) (n:Int) (A:Int) l (k:Int)=cadenzaref40_Got b p (f:Int) (c:Int) (w:Int) (r:Int) (n:Int) (A:Int) l (k:Int):=rfl
 conv at hR=>rhs;rw[cadenzaref40_Got,Xm,Bm8 hs1.2 o.five o.sum _ _ _ _ _ (A:Int) (by omega) (by omega) k (by omega),Aa,Bm hk,Aa,Az (by rw[Ac];omega) (by rw[Ac];omega)]
 by_cases hto:(b.length:Int)<(A:Int)+(l.take (k+1)).sum
 ·rw[if_pos (by rw[Ae,Ac,decide_eq_true_eq];omega)]at hR
  exact⟨m,[],[],24,hmom,hpos,hR,fun _=>⟨rfl,rfl⟩,fun h=>by simp at h, .inl ⟨hto,rfl⟩⟩
 ·rw[if_neg (by rw[Ae,Ac,decide_eq_true_eq];omega),Bh3 p o.pass,Ak7 hr.2 hn hn4]at hR
  simp only[Aa]at hR
  rw[Ag (a:=(A:Int)+(l.take k).sum) (b:=l[k]) (by omega) (by omega),Int.add_assoc,←e,hmom]at hR
  simp only[Aa]at hR
  rw[Me (by omega) (by omega) (by omega),Aa]at hR
  obtain⟨x,er,g1,g2,g3,g4⟩:=Aol (ch:=c) (n:=m) (t:=tapsOf p) (segF b A l k) hw (Al6 p) hc.1 hc.2 m1 (by omega)
  rw[show(b.take ((A:Int)+(l.take (k+1)).sum).toNat).drop ((A:Int)+(l.take k).sum).toNat=segF b A l k from rfl,g2,Aa]at hR
  simp only at hR
  rw[Xz,Xn]at hR
  by_cases her:er=0
  ·obtain⟨g5,g6,g7⟩:=g3 her
   rw[if_neg (by rw[Ah];simpa using her),Bma hw g6 g5,Aa]at hR
   subst her
   exact⟨m,x,_,0,hmom,hpos,hR,fun h=>absurd rfl h,fun _=>⟨rfl,g7,g5,Bkv hw g6 g5,by omega⟩, .inr ⟨by omega,g1,g2⟩⟩
  ·rw[if_pos (by rw[Ah];simpa using her)]at hR
   exact⟨m,x,_,er,hmom,hpos,hR,fun h=>⟨rfl,g4 h⟩,fun h=>absurd h her, .inr ⟨by omega,g1,g2⟩⟩
theorem Gts.lens{b p:List UInt8}{f c w r n A:Nat}{l:List Int}{k m:Nat}{x:List Int32}{s:List UInt8}{e:Int}(hw:BitsOk (w:Int))(g:Gts b p f c w r n A l k m x s e):s.length≤12000∧x.length≤4000∧(e=0→s.length=m*c*wB (w:Int)):=by
 by_cases he:e=0
 ·obtain⟨h1,h2,_⟩:=g.some' he
  have h3:=Ats (w:Int) x
  have h4:=Axq hw x
  have h5:=g.pos
  rw[←h1]at h3 h4
  refine⟨by omega,by omega,fun _=>by rw[h4,h2]⟩
 ·obtain⟨h1,h2⟩:=g.none' he
  exact⟨by simp[h1],by simp[h2],fun h=>absurd h he⟩
def Bkm(G:Nat→List UInt8×Int)(be:Int):Nat→Nat→List UInt8→List UInt8×Int
 |0,_,acc=>if be≠0 then([],38)else(acc,0)
 |j+1,k,acc=>if(G k).2≠0 then([],(G k).2)else Bkm G be j (k+1) (acc++(G k).1)
def Agq(b p:List UInt8)(f c w r n A:Nat)(l:List Int)(k:Nat):List UInt8×Int:=(cadenzaref40_Got b p (f:Int) (c:Int) (w:Int) (r:Int) (n:Int) (A:Int) l (k:Int)).getD ([],0)
theorem Gts.eq{b p:List UInt8}{f c w r n A:Nat}{l:List Int}{k m:Nat}{x:List Int32}{s:List UInt8}{e:Int}(g:Gts b p f c w r n A l k m x s e):Agq b p f c w r n A l k=(s,e):=by rw[Agq,g.got];rfl
def Bey(b:List UInt8)(A:Nat)(l:List Int):Int:=(Agk (b.drop ((A:Int)+l.sum).toNat)).2
end Go.Pl
set_option linter.unusedVariables false
set_option linter.unusedSimpArgs false
namespace Go.Pl
open Go Go.Lv
def by'(b:List UInt8)(k:Nat):Nat:=(b.getD k 0).toNat
def sx(n:Nat)(b:List UInt8)(a:Nat):Int:=
 if n=1 then(by' b a:Int)-128 else
 if n=2 then(if by' b a+256*by' b (a+1)<32768 then(by' b a+256*by' b (a+1):Nat)else((by' b a+256*by' b (a+1):Nat):Int)-65536)else
 (if by' b a+256*by' b (a+1)+65536*by' b (a+2)<8388608 then(by' b a+256*by' b (a+1)+65536*by' b (a+2):Nat)else((by' b a+256*by' b (a+1)+65536*by' b (a+2):Nat):Int)-16777216)
def sxs(n m:Nat)(b:List UInt8):List Int32:=(List.range m).map fun x=>Int32.ofInt (sx n b (x*n))
theorem Cgs(n m:Nat)(b:List UInt8):(sxs n m b).length=m:=by simp[sxs]
theorem sx2(b:List UInt8)(a:Nat):sx 2 b a=if by' b a+256*by' b (a+1)<32768 then((by' b a+256*by' b (a+1):Nat):Int)else((by' b a+256*by' b (a+1):Nat):Int)-65536:=rfl
theorem sx3(b:List UInt8)(a:Nat):sx 3 b a=if by' b a+256*by' b (a+1)+65536*by' b (a+2)<8388608 then((by' b a+256*by' b (a+1)+65536*by' b (a+2):Nat):Int)else((by' b a+256*by' b (a+1)+65536*by' b (a+2):Nat):Int)-16777216:=rfl
variable (b:List UInt8)
end Go.Pl
set_option linter.unusedVariables false
set_option linter.unusedSimpArgs false
namespace Go.Pl
open Go Go.Lv
theorem Ckp{w:Nat}(hw:BitsOk (w:Int)):8*wB (w:Int)=w∧w≤24:=by
 have h:w=8∨w=16∨w=24:=by unfold BitsOk at hw;omega
 rcases h with rfl|rfl|rfl<;>exact⟨rfl,by omega⟩
theorem Cjh{t c w:Nat}(ht:t≤4000)(hc:c≤6)(hw:BitsOk (w:Int)):Bt (Au (Au (t:Int) (c:Int)) (w:Int)) 8=((t*(c*wB (w:Int)):Nat):Int):=by
 obtain⟨h1,h2⟩:=Ckp hw
 have e1:(t:Int)*(c:Int)=((t*c:Nat):Int):=by simp
 have b1:t*c≤4000*6:=Nat.mul_le_mul ht hc
 have b2:t*c*w≤24000*24:=Nat.mul_le_mul b1 h2
 rw[Fb (a:=(t:Int)) (by rw[e1];omega) (by rw[e1];omega),e1,Fb (by rw[←Int.natCast_mul];omega) (by rw[←Int.natCast_mul];omega),←Int.natCast_mul,show(8:Int)=((8:Nat):Int)from rfl,Ba0 (by omega)]
 congr 1
 generalize wB (w:Int)=W at*
 subst h1
 rw[Nat.mul_left_comm,Nat.mul_div_cancel_left _ (by omega),Nat.mul_assoc]
end Go.Pl
set_option linter.unusedVariables false
set_option linter.unusedSimpArgs false
namespace Go.Pl
open Go Go.Lv
section
variable {b p:List UInt8} {f c w r n A:Nat} {l:List Int} (o:Opn b p f c w r n A l)
include o
theorem Bzp{k m:Nat}{x:List Int32}{s:List UInt8}{e:Int}(hk:k<l.length)(g:Gts b p f c w r n A l k m x s e):Abf b p (k:Int)=some (s,e):=by
 obtain⟨y,h1,h2⟩:=By1 o k hk
 rw[Brz o,h1,←g.got,h2]
end
def smF(w:Nat)(y:List UInt8×Int):List Int32:=if y.2≠0 then []else sxs (wB (w:Int)) (y.1.length/wB (w:Int)) y.1
end Go.Pl
set_option linter.unusedVariables false
set_option linter.unusedSimpArgs false
namespace Go.Pl
open Go Go.Lv
theorem Beh(z:Int):(u8 z).toNat=(z %256).toNat:=by
 have:(z %256).toNat<256:=by omega
 rw[u8,UInt8.toNat_ofNat',Nat.mod_eq_of_lt (by omega)]
theorem Bip{bits:Int}(h:BitsOk bits):∀(l:List Int32) (i j:Nat),i<l.length→j<wB bits→(bytesB bits l).getD (i*wB bits+j) 0=(Afq bits (l.getD i 0).toInt).getD j 0
 |[],i,j,hi,_=>by simp at hi
 |x::l,0,j,_,hj=>by
  have h1:=Bei h x.toInt
  have e:bytesB bits (x::l)=Afq bits x.toInt++bytesB bits l:=by simp[bytesB]
  rw[e,Nat.zero_mul,Nat.zero_add,List.getD_eq_getElem?_getD,List.getD_eq_getElem?_getD,List.getElem?_append_left (by omega)];rfl
 |x::l,i+1,j,hi,hj=>by
  have h1:=Bei h x.toInt
  have e:bytesB bits (x::l)=Afq bits x.toInt++bytesB bits l:=by simp[bytesB]
  have ih:=Bip h l i j (by simpa using hi) hj
  have e2:(i+1)*wB bits+j=(Afq bits x.toInt).length+(i*wB bits+j):=by rw[Nat.add_mul,Nat.one_mul,h1];omega
  rw[e,e2,List.getD_eq_getElem?_getD,List.getElem?_append_right (by omega),Nat.add_sub_cancel_left,←List.getD_eq_getElem?_getD,ih];rfl
theorem Cg1{bits:Int}(h:BitsOk bits)(l:List Int32)(hr:inR bits l)(i:Nat)(hi:i<l.length):Int32.ofInt (sx (wB bits) (bytesB bits l) (i*wB bits))=l.getD i 0:=by
 have hm:l.getD i 0∈l:=by rw[List.getD_eq_getElem?_getD,List.getElem?_eq_getElem hi];exact List.getElem_mem hi
 have hv:=hr _ hm
 have g:∀j,j<wB bits→by' (bytesB bits l) (i*wB bits+j)=((Afq bits (l.getD i 0).toInt).getD j 0).toNat:=fun j hj=>by rw[by',Bip h l i j hi hj]
 generalize l.getD i 0=x at*
 have key:sx (wB bits) (bytesB bits l) (i*wB bits)=x.toInt:=by
  generalize hA:i*wB bits=a at*
  obtain rfl|rfl|rfl:=h
  ·have g0:=g 0 (by decide)
   have e1:(Afq 8 x.toInt).getD 0 0=u8 (x.toInt+128):=rfl
   rw[Nat.add_zero,e1,Beh]at g0
   simp only[hB]at hv
   simp at hv
   have e2:wB 8=1:=rfl
   rw[e2,sx,if_pos rfl,g0];omega
  ·have g0:=g 0 (by decide)
   have g1:=g 1 (by decide)
   have e0:(Afq 16 x.toInt).getD 0 0=u8 x.toInt:=rfl
   have e1:(Afq 16 x.toInt).getD 1 0=u8 (x.toInt/256):=rfl
   rw[Nat.add_zero,e0,Beh]at g0
   rw[e1,Beh]at g1
   simp only[hB]at hv
   simp at hv
   have e2:wB 16=2:=rfl
   rw[e2,sx2,g0,g1]
   split<;>omega
  ·have g0:=g 0 (by decide)
   have g1:=g 1 (by decide)
   have g2:=g 2 (by decide)
   have e0:(Afq 24 x.toInt).getD 0 0=u8 x.toInt:=rfl
   have e1:(Afq 24 x.toInt).getD 1 0=u8 (x.toInt/256):=rfl
   have e3:(Afq 24 x.toInt).getD 2 0=u8 (x.toInt/65536):=rfl
   rw[Nat.add_zero,e0,Beh]at g0
   rw[e1,Beh]at g1
   rw[e3,Beh]at g2
   simp only[hB]at hv
   simp at hv
   have e2:wB 24=3:=rfl
   rw[e2,sx3,g0,g1,g2]
   split<;>omega
 rw[key];simp
theorem Cbx{bits:Int}(h:BitsOk bits)(l:List Int32)(hr:inR bits l):sxs (wB bits) l.length (bytesB bits l)=l:=by
 refine List.ext_getElem (Cgs _ _ _) fun i h1 h2=>?_
 have:=Cg1 h l hr i h2
 simp only[sxs,List.getElem_map,List.getElem_range]
 rw[this,List.getD_eq_getElem?_getD,List.getElem?_eq_getElem h2];rfl
theorem Gts.smp{b p:List UInt8}{f c w r n A:Nat}{l:List Int}{k m:Nat}{x:List Int32}{s:List UInt8}{e:Int}(hw:BitsOk (w:Int))(g:Gts b p f c w r n A l k m x s e):smF w (s,e)=x:=by
 have hwb:=Ccn (w:Int)
 by_cases he:e=0
 ·obtain⟨h1,h2,h3,_⟩:=g.some' he
  have h4:=g.pos
  have h5:=Axq hw x
  rw[smF,if_neg (by simpa using he)]
  simp only
  rw[h1,h5,Nat.mul_div_cancel _ (by omega)]
  exact Cbx hw x (Ayl hw (by omega) h3)
 ·rw[smF,if_pos he,(g.none' he).2]
end Go.Pl
set_option linter.unusedVariables false
set_option linter.unusedSimpArgs false
namespace Go.Pl
open Go Go.Lv
abbrev C5:=Int×Int×Int×List Int32×Int
def Bio(e:Int):C5:=(0,0,0,[],e)
theorem Bbc{seg p:List UInt8}(hs:seg.length=8)(hp:p.length≤64):Rg seg p=some (seg==Ns (Sk p).toNat 8,0):=by
 rw[Rg,Aym p hp,Aa]
 simp only
 rw[if_neg (by rw[Ah,Ah,Ac,Ac,Bb,hs];simp),Fv,Aa]
theorem Cf0(b p:List UInt8)(m c w h o q n g y ab:Int)(k v:List Int){e:Int}(he:e≠0):Mj b p m c w h o q n g k e y ab v=some (Bio e):=by
 rw[Mj,Adw,if_pos (by rw[Ah];simpa using he)];rfl
theorem Bg3(b p:List UInt8)(m c w h o q n g y ab:Int)(k:List Int){e:Int}(he:e≠0):Px b p m c w h o q n g y ab k e=some (Bio e):=by
 rw[Px,Ab6,if_pos (by rw[Ah];simpa using he)];rfl
theorem Cbp(b p:List UInt8)(m c w h o q n g y ab:Int)(k:List Int):Px b p m c w h o q n g y ab k 0=Vy b p m c w h o q n g y ab k:=by
 rw[Px,Ab6,if_neg (by rw[Ah];simp)]
def Ayy(X:Nat→List Int32)(E:Nat→Int)(be:Int):Nat→Nat→List Int32→List Int32×Int
 |0,_,acc=>if be≠0 then([],38)else(acc,0)
 |j+1,k,acc=>if E k≠0 then([],E k)else Ayy X E be j (k+1) (acc++X k)
def Ao5(c w r:Nat)(y:List Int32×Int):C5:=if y.2≠0 then Bio y.2 else((c:Int),(w:Int),(r:Int),y.1,0)
def Aws(b p:List UInt8)(f c w r n A:Nat)(l:List Int):C5:=
 Ao5 c w r (Ayy (fun k=>smF w (Agq b p f c w r n A l k)) (fun k=>(Agq b p f c w r n A l k).2) (Bey b A l) l.length 0 [])
section
variable {b p:List UInt8} {f c w r n A:Nat} {l:List Int} (o:Opn b p f c w r n A l)
include o
theorem Ayf(a1 a2 a3 a4:Int):∀(j k q:Nat) (acc:List Int32),k+j=l.length→j<q→(k=l.length→(A:Int)+l.sum≤b.length)→acc.length≤4000*k→
  Qm b l (f:Int) (c:Int) (w:Int) (r:Int) (n:Int) a1 a2 a3 (A:Int) a4 (tapsOf p) (framesL (longN r) n) q ((A:Int)+(l.take k).sum) (k:Int) acc=
   some (Ao5 c w r (Ayy (fun k=>smF w (Agq b p f c w r n A l k)) (fun k=>(Agq b p f c w r n A l k).2) (Bey b A l) j k acc))
 |0,k,q+1,acc,hk,_,hfit,_=>by
  have hA:=o.at'
  have hfile:=o.file
  have hs1:=o.some1
  have hsum:=o.sum
  have b1:=Ef o.five l.length
  have hf:=hfit (by omega)
  obtain rfl:k=l.length:=by omega
  rw[List.take_length]at b1⊢
  rw[Qm,Abg,if_neg (by rw[Ae,Ac];simp),Alu,Av4,Cb (by omega) (by omega),Aa,Bqn _ (by rw[List.length_drop];omega),Aa,Ayy,Bey]
  generalize Agk (b.drop ((A:Int)+l.sum).toNat)=v
  obtain⟨v1,v2⟩:=v
  simp only
  by_cases hv:v2≠0
  ·rw[if_pos hv,if_pos (by rw[Ah];simpa using hv),Ao5,if_pos (by simp)];rfl
  ·rw[if_neg hv,if_neg (by rw[Ah];simpa using hv),Ao5,if_neg (by simp)]
 |j+1,k,q+1,acc,hk,hq,hfit,hacc=>by
  have hA:=o.at'
  have hfile:=o.file
  have hs1:=o.some1
  have hsum:=o.sum
  have b1:=Ef o.five k
  have b2:=Ef o.five (k+1)
  have hkl:k<l.length:=by omega
  have e2:=Jf hkl
  have h5:=o.five l[k] (List.getElem_mem _)
  obtain⟨m,x,s,e,g⟩:=Aq3 o k hkl
  obtain⟨hc,hw,hr,hn,_⟩:=Abs o.shape
  have hl:=g.lens hw
  rw[Qm,Abg,if_pos (by rw[Ae,Ac];simp;omega),Bm hkl,Aa,Aa,Ag (a:=(A:Int)+(l.take k).sum) (by omega) (by omega),Int.add_assoc,←e2,Ac,Ayy,g.eq]
  simp only
  rcases g.way with⟨h1,h2⟩|⟨h1,h2,_⟩
  ·rw[if_pos (by rw[Ae,decide_eq_true_eq];omega),if_pos (by rw[h2];simp),h2,Ao5,if_pos (by simp)];rfl
  ·rw[if_neg (by rw[Ae,decide_eq_true_eq];omega),g.mom]
   simp only[Aa]
   rw[Me (by omega) (by omega) (by omega),Aa,show(b.take ((A:Int)+(l.take (k+1)).sum).toNat).drop ((A:Int)+(l.take k).sum).toNat=segF b A l k from rfl,h2,Aa]
   simp only
   rw[Al2,Awj]
   by_cases he:e≠0
   ·rw[if_pos (by rw[Ah];simpa using he),if_pos he,Ao5,if_pos he];rfl
   ·have he0:e=0:=by simpa using he
    have hfit2:=(g.some' he0).2.2.2.2
    rw[if_neg (by rw[Ah];simpa using he),if_neg he,g.smp hw,Ce (by omega),Aa,Ag (a:=(A:Int)+(l.take k).sum) (by omega) (by omega),Int.add_assoc,←e2,Ag (by omega) (by omega)]
    exact Ayf a1 a2 a3 a4 j (k+1) q (acc++x) (by omega) (by omega) (fun h=>by rw[h,List.take_length]at hfit2;exact hfit2) (by rw[List.length_append];omega)
theorem Azm:∀(j k q:Nat) (acc:List Int32),k+j=l.length→j<q→(k=l.length→(A:Int)+l.sum≤b.length)→acc.length≤4000*k→
  Jp b (f:Int) (c:Int) (w:Int) (r:Int) (n:Int) l (framesL (longN r) n) (tapsOf p) q ((A:Int)+(l.take k).sum) (k:Int) acc=
   some (Ao5 c w r (Ayy (fun k=>smF w (Agq b p f c w r n A l k)) (fun k=>(Agq b p f c w r n A l k).2) (Bey b A l) j k acc))
 |0,k,q+1,acc,hk,_,hfit,_=>by
  have hA:=o.at'
  have hfile:=o.file
  have hs1:=o.some1
  have hsum:=o.sum
  have b1:=Ef o.five l.length
  have hf:=hfit (by omega)
  obtain rfl:k=l.length:=by omega
  rw[List.take_length]at b1⊢
  rw[Jp,Ux,if_neg (by rw[Ae,Ac];simp),Ae6,Aez,Cb (by omega) (by omega),Aa,Buj _ (by rw[List.length_drop];omega),Aa,Ayy,Bey]
  generalize Agk (b.drop ((A:Int)+l.sum).toNat)=v
  obtain⟨v1,v2⟩:=v
  simp only
  by_cases hv:v2≠0
  ·rw[if_pos hv,if_pos (by rw[Ah];simpa using hv),Ao5,if_pos (by simp)];rfl
  ·rw[if_neg hv,if_neg (by rw[Ah];simpa using hv),Ao5,if_neg (by simp)]
 |j+1,k,q+1,acc,hk,hq,hfit,hacc=>by
  have hA:=o.at'
  have hfile:=o.file
  have hs1:=o.some1
  have hsum:=o.sum
  have b1:=Ef o.five k
  have b2:=Ef o.five (k+1)
  have hkl:k<l.length:=by omega
  have e2:=Jf hkl
  have h5:=o.five l[k] (List.getElem_mem _)
  obtain⟨m,x,s,e,g⟩:=Aq3 o k hkl
  obtain⟨hc,hw,hr,hn,_⟩:=Abs o.shape
  have hl:=g.lens hw
  rw[Jp,Ux,if_pos (by rw[Ae,Ac];simp;omega),Bm hkl,Aa,Aa,Ac,Az (by omega) (by omega),Ayy,g.eq]
  simp only
  rcases g.way with⟨h1,h2⟩|⟨h1,_,h2⟩
  ·rw[if_pos (by rw[Ae,decide_eq_true_eq];omega),if_pos (by rw[h2];simp),h2,Ao5,if_pos (by simp)];rfl
  ·rw[if_neg (by rw[Ae,decide_eq_true_eq];omega),g.mom]
   simp only[Aa]
   rw[Ag (a:=(A:Int)+(l.take k).sum) (by omega) (by omega),Int.add_assoc,←e2,Me (by omega) (by omega) (by omega),Aa,show(b.take ((A:Int)+(l.take (k+1)).sum).toNat).drop ((A:Int)+(l.take k).sum).toNat=segF b A l k from rfl,h2,Aa]
   simp only
   rw[Aes,Ae3]
   by_cases he:e≠0
   ·rw[if_pos (by rw[Ah];simpa using he),if_pos he,Ao5,if_pos he];rfl
   ·have he0:e=0:=by simpa using he
    have hfit2:=(g.some' he0).2.2.2.2
    rw[if_neg (by rw[Ah];simpa using he),if_neg he,g.smp hw,Ce (by omega),Aa,Bm hkl,Aa,Aa,Ag (a:=(A:Int)+(l.take k).sum) (by omega) (by omega),Int.add_assoc,←e2,Ag (by omega) (by omega)]
    exact Azm j (k+1) q (acc++x) (by omega) (by omega) (fun h=>by rw[h,List.take_length]at hfit2;exact hfit2) (by rw[List.length_append];omega)
end
theorem Bmw(l:List Int)(b p:List UInt8)(m c w h o q n g:Int)(k:List Int)(hl:l.length≤1000)(h5:∀x∈l,5≤x)(A:Int)(hA:0≤A)(hb:A+l.sum≤1000000):∀(j i z:Nat),i+j=l.length→j<z→Qs l b p m c w h o q n g k z (i:Int) (A+(l.take i).sum)=Abi b p l m c w h o q n g (A+l.sum) k
 |0,i,z+1,hi,_=>by
  rw[Qs,Abn,if_neg (by rw[Ae,Ac];simp;omega),show i=l.length by omega,List.take_length]
 |j+1,i,z+1,hi,hz=>by
  have hlt:i<l.length:=by omega
  have b1:=Ef h5 i
  have b2:=Ef h5 (i+1)
  have e:=Jf hlt
  have ih:=Bmw l b p m c w h o q n g k hl h5 A hA hb j (i+1) z (by omega) (by omega)
  rw[e,←Int.add_assoc]at ih
  rw[Qs,Abn,if_pos (by rw[Ae,Ac];simp;omega),Bm hlt,Aa,Aa,Ag (by omega) (by omega),Ag (by omega) (by omega)]
  exact ih
theorem Bvv(b p:List UInt8)(hb:b.length≤100100)(hp:p.length≤64):
  (∃e:Int,e≠0∧seekto_Open b p=some (Up e)∧Ki b p=some (Bio e)∧Hl b p=some (Bio e))∨
  (∃f c w r n T:Nat,∃q d:Int,T≤b.length∧b.length≤100000∧shapeB f c w r n=true∧fitB c r n=true∧
   seekto_Open b p=Ha b (f:Int) (c:Int) (w:Int) (r:Int) (n:Int) (T:Int)∧
   Ki b p=Vy b p (f:Int) (c:Int) (w:Int) (r:Int) (n:Int) q d (T:Int) 0 0 (framesL (longN r) n)∧
   Hl b p=(Mp b (T:Int) (f:Int) (c:Int) (w:Int) (r:Int) (n:Int)).bind fun(h,ae)=>if Ay ae 0=true then some (Bio ae)else(Cz (r:Int) (n:Int)).bind fun p2=>(Jy p).bind fun(u,ap)=>Ag2 b (f:Int) (c:Int) (w:Int) (r:Int) (n:Int) h p2 u (Ad (T:Int) (Ad (Au 4 (Ac h)) 4)) 0 []):=by
 have hO:seekto_Open b p=seekto_Open b p:=rfl
 have hV:Ki b p=Ki b p:=rfl
 have hR:Hl b p=Hl b p:=rfl
 conv at hO=>rhs;rw[seekto_Open,Fx,if_neg (by rw[Ak,Ac];simp;omega)]
 conv at hV=>rhs;rw[Ki,Apo,if_neg (by rw[Ak,Ac];simp;omega),Qv]
 conv at hR=>rhs;rw[Hl,Ahd,if_neg (by rw[Ak,Ac];simp;omega),Cx]
 by_cases h1:100000<b.length
 ·rw[if_pos (by rw[Ak,Ac];simp;omega)]at hO hV hR
  refine .inl ⟨4,by omega,hO,?_,?_⟩
  ·rw[hV,Aa];rfl
  ·rw[hR,Aa];rfl
 rw[if_neg (by rw[Ak,Ac];simp;omega)]at hO hV hR
 rw[Ez b (by omega),Aa]at hO hV
 rw[Wv b (by omega),Aa]at hR
 by_cases h2:(frontS b).2=0
 ·obtain⟨p0,p1,p2⟩:=Akr h2
  have hc:=Cb (l:=b) p0 p1
  simp only[h2]at hO hV hR
  rw[if_neg (by rw[Ah];simp),hc,Aa,show b.drop (frontS b).1.toNat=hdr b from rfl]at hO hV hR
  rw[Ql _ (by simp[hdr];omega),Aa]at hO hV
  rw[Aqx _ (by simp[hdr];omega),Aa]at hR
  by_cases h3:(readS (hdr b)).2.2.2.2.2=0
  ·obtain⟨g1,g2,g3,g4⟩:=Avt h3
   have hlen:(hdr b).length=b.length-(frontS b).1.toNat:=by simp[hdr]
   generalize hF:(frontS b).1.toNat=F at*
   have hF':(frontS b).1=(F:Int):=by omega
   rw[g1,hF']at hO hV hR
   simp only at hO hV hR
   generalize f0 (hdr b)=f at*
   generalize f1 (hdr b)=c at*
   generalize f2 (hdr b)=w at*
   generalize f3 (hdr b)=r at*
   generalize f4 (hdr b)=n at*
   have t22:Ad (F:Int) 22=((F+22:Nat):Int):=by rw[Ag (by omega) (by omega)];omega
   have t30:Ad ((F+22:Nat):Int) 8=((F+30:Nat):Int):=by rw[Ag (by omega) (by omega)];omega
   have hf12:f=1∨f=2:=by simp only[shapeB,decide_eq_true_eq]at g3;omega
   rw[if_neg (by rw[Ah];simp),t22,t30]at hO
   rw[if_neg (by rw[Ah];simp),Aal g3 g4,Aa,t22,t30]at hV
   rw[Aa]at hR
   simp only at hV hR
   rw[if_neg (by rw[Ah];simp),t22,Ajt,t30]at hR
   by_cases hpass:((p==([]:List UInt8)) !=(geq (f:Int) (1:Int)))=true
   ·rw[if_pos hpass]at hO hR
    refine .inl ⟨26,by omega,hO,?_,?_⟩
    ·rw[hV]
     by_cases h5:f=2
     ·rw[if_pos (by rw[As,h5];rfl),Aa]
      simp only
      rw[if_neg (by rw[Ah];simp),if_pos hpass,Bg3 _ _ _ _ _ _ _ _ _ _ _ _ _ (by omega)]
     ·rw[if_neg (by rw[As];simp;omega),Aa]
      simp only
      rw[if_neg (by rw[Ah];simp),if_pos hpass,Bg3 _ _ _ _ _ _ _ _ _ _ _ _ _ (by omega)]
    ·rw[hR,Aa];rfl
   ·rw[if_neg hpass]at hO hR
    have hpf:(p=[]↔f=1):=by
     rw[As]at hpass
     have h5:(p==([]:List UInt8))=((f:Int)==1):=by simpa using hpass
     have h6:(p==([]:List UInt8))=true↔((f:Int)==1)=true:=by rw[h5]
     rw[beq_iff_eq,beq_iff_eq]at h6
     rw[h6];omega
    by_cases h5:f=2
    ·have hpne:p≠ []:=fun e=>by have:=hpf.1 e;omega
     rw[if_pos (by rw[As,h5];rfl),Aa]at hV
     simp only at hV
     rw[if_neg (by rw[Ah];simp),if_neg hpass,if_neg (by rw[As];simp;omega)]at hV
     rw[if_pos (by simpa using hpne)]at hO
     rw[if_neg (by simpa using hpne)]at hR
     by_cases h6:b.length<F+30
     ·rw[if_pos (by rw[Ae,Ac];simp;omega)]at hO hV hR
      refine .inl ⟨24,by omega,hO,?_,?_⟩
      ·rw[hV,Bg3 _ _ _ _ _ _ _ _ _ _ _ _ _ (by omega)]
      ·rw[hR,Aa];rfl
     ·have hseg:((b.take (F+30)).drop (F+22)).length=8:=by simp;omega
      rw[if_neg (by rw[Ae,Ac];simp;omega),Me (by omega) (by omega) (by omega),Aa,show((F+30:Nat):Int).toNat=F+30 from rfl,show((F+22:Nat):Int).toNat=F+22 from rfl]at hO hV hR
      rw[Bbc hseg hp,Aa]at hO hV
      rw[Be4 p hp,Aa]at hR
      simp only at hO hV
      rw[if_neg (by rw[Ah];simp)]at hO
      generalize(b.take (F+30)).drop (F+22)=seg at*
      by_cases h7:seg=Ns (Sk p).toNat 8
      ·rw[if_neg (by simp[h7])]at hO hV
       rw[if_neg (by simp[h7]),Aa]at hR
       simp only at hR
       rw[if_neg (by rw[Ah];simp)]at hR
       rw[Cbp]at hV
       exact .inr ⟨f,c,w,r,n,F+30,(F:Int),((F+22:Nat):Int),by omega,by omega,g3,g4,hO,hV,hR⟩
      ·rw[if_pos (by simpa using h7)]at hO hV
       rw[if_pos (by simpa using h7)]at hR
       refine .inl ⟨26,by omega,hO,?_,?_⟩
       ·rw[hV,Bg3 _ _ _ _ _ _ _ _ _ _ _ _ _ (by omega)]
       ·rw[hR,Aa];rfl
    ·have hpe:p=[]:=hpf.2 (by omega)
     rw[if_neg (by rw[As];simp;omega),Aa]at hV
     simp only at hV
     rw[if_neg (by rw[Ah];simp),if_neg hpass,if_pos (by rw[As];simp;omega),Cbp]at hV
     rw[if_neg (by rw[hpe];simp)]at hO
     rw[if_pos (by rw[hpe];rfl),Aa]at hR
     simp only at hR
     rw[if_neg (by rw[Ah];simp)]at hR
     exact .inr ⟨f,c,w,r,n,F+22,(F:Int),((F+22:Nat):Int),by omega,by omega,g3,g4,hO,hV,hR⟩
  ·generalize readS (hdr b)=v at*
   obtain⟨v1,v2,v3,v4,v5,v6⟩:=v
   simp only at h3 hO hV hR
   rw[if_pos (by rw[Ah];simpa using h3)]at hO hV
   refine .inl ⟨v6,h3,hO,?_,?_⟩
   ·rw[hV,Aa]
    simp only
    rw[if_pos (by rw[Ah];simpa using h3)];rfl
   ·rw[hR,Aa]
    simp only
    rw[if_pos (by rw[Ah];simpa using h3)];rfl
 ·generalize frontS b=v at*
  obtain⟨v,e⟩:=v
  simp only at h2 hO hV hR
  rw[if_pos (by rw[Ah];simpa using h2)]at hO hV hR
  refine .inl ⟨e,h2,hO,?_,?_⟩
  ·rw[hV,Aa]
   simp only
   rw[if_pos (by rw[Ah];simpa using h2)];rfl
  ·rw[hR,Aa]
   simp only
   rw[if_pos (by rw[Ah];simpa using h2)];rfl
theorem Bpa(b p:List UInt8)(hb:b.length≤100100)(hp:p.length≤64):
  (∃e:Int,e≠0∧seekto_Open b p=some (Up e)∧cadenzaref40_Opened b p=some (Up e)∧Ki b p=some (Bio e)∧Hl b p=some (Bio e))∨
  (∃f c w r n A l,Opn b p f c w r n A l∧Ki b p=some (Aws b p f c w r n A l)∧Hl b p=some (Aws b p f c w r n A l)):=by
 have hbadI:∀{e e2:Int},Up e=Up e2→e=e2:=fun h=>by simpa [Up]using h
 rcases Bvv b p hb hp with⟨e,he,h1,h2,h3⟩|⟨f,c,w,r,n,T,q,d,hT,hfile,g3,g4,hO,hV,hR⟩
 ·rcases Bc2 b p hb hp with⟨e',he',k1,k2⟩|⟨f,c,w,r,n,A,l,o⟩
  ·rw[h1]at k1
   have:=hbadI (Option.some.inj k1)
   subst this
   exact .inl ⟨e,he,h1,k2,h2,h3⟩
  ·have:=o.prog
   rw[h1]at this
   have:=Option.some.inj this
   simp only[Up,Prod.mk.injEq]at this
   exact absurd this.2.2.2.2.2.2.2 he
 ·obtain⟨hc,hw,hr,hn,_⟩:=Abs g3
  have hfit:n≤4000/c:=by simp only[fitB,decide_eq_true_eq]at g4;exact g4.1
  have hn4:n≤4000:=by have:=Nat.div_le_self 4000 c;omega
  rw[Aq6 g3 g4 b hb T hT]at hO
  have hcut:=Cb (l:=b) (a:=(T:Int)) (by omega) (by omega)
  rw[Int.toNat_natCast]at hcut
  have hdl:(b.drop T).length≤100100:=by simp;omega
  rw[Vy,Amj,if_neg (by rw[Ae,Ac];simp;omega),hcut,Aa,Ac,Ayi _ _ hdl,Aa]at hV
  rw[Mp,hcut,Aa,Ak7 hr.2 hn hn4,Aa,Ac,Bdd _ _ hdl,Aa,Aa]at hR
  by_cases h:(seekS (b.drop T) (framesL (longN r) n).length).2≠0
  ·rw[if_pos h]at hO
   generalize seekS (b.drop T) (framesL (longN r) n).length=v at*
   obtain⟨v1,v2⟩:=v
   simp only at h hO hV hR
   rcases Bc2 b p hb hp with⟨e',he',k1,k2⟩|⟨f,c,w,r,n,A,l,o⟩
   ·rw[hO]at k1
    have:=hbadI (Option.some.inj k1)
    subst this
    refine .inl ⟨_,h,hO,k2,?_,?_⟩
    ·rw[hV,Abz,Ade,if_pos (by rw[Ah];simpa using h),Cf0 _ _ _ _ _ _ _ _ _ _ _ _ _ _ h]
    ·rw[hR,if_pos (by rw[Ah];simpa using h)]
   ·have:=o.prog
    rw[hO]at this
    have:=Option.some.inj this
    simp only[Up,Prod.mk.injEq]at this
    exact absurd this.2.2.2.2.2.2.2 h
  ·have h0:(seekS (b.drop T) (framesL (longN r) n).length).2=0:=by simpa using h
   rw[if_neg h]at hO
   generalize hsv:seekS (b.drop T) (framesL (longN r) n).length=v at*
   obtain⟨v1,v2⟩:=v
   simp only at h0 hO hV hR
   subst h0
   rcases Bc2 b p hb hp with⟨e',he',k1,k2⟩|⟨f',c',w',r',n',A,l,o⟩
   ·rw[hO]at k1
    have:=Option.some.inj k1
    simp only[Up,Prod.mk.injEq]at this
    exact absurd this.2.2.2.2.2.2.2.symm he'
   ·have hp2:=o.prog
    rw[hO]at hp2
    have hp3:=Option.some.inj hp2
    simp only[Prod.mk.injEq]at hp3
    obtain⟨i1,i2,i3,i4,i5,i6,i7,_⟩:=hp3
    obtain rfl:f=f':=by omega
    obtain rfl:c=c':=by omega
    obtain rfl:w=w':=by omega
    obtain rfl:r=r':=by omega
    obtain rfl:n=n':=by omega
    subst i7
    have hlen:=o.len
    have hs1:=o.some1
    have hsum:=o.sum
    have hA:=o.at'
    have hAT:(A:Int)=(T:Int)+4*(v1.length:Int)+4:=by omega
    have a1:Au 4 (v1.length:Int)=4*(v1.length:Int):=Fb (by omega) (by omega)
    have eV:Ad (Ad (T:Int) (Au 4 (Ac v1))) 4=(A:Int):=by
     rw[Ac,a1,Ag (a:=(T:Int)) (by omega) (by omega),Ag (by omega) (by omega)];omega
    have eR:Ad (T:Int) (Ad (Au 4 (Ac v1)) 4)=(A:Int):=by
     rw[Ac,a1,Ag (a:=4*(v1.length:Int)) (by omega) (by omega),Ag (by omega) (by omega)];omega
    have hlv:=Ayf o q d (T:Int) ((A:Int)+v1.sum) v1.length 0 FUEL [] (by omega) (by have:=Al;omega) (by omega) (by simp)
    have hlr:=Azm o v1.length 0 FUEL [] (by omega) (by have:=Al;omega) (by omega) (by simp)
    rw[List.take_zero,List.sum_nil,Int.add_zero]at hlv hlr
    refine .inr ⟨f,c,w,r,n,A,v1,o,?_,?_⟩
    ·have hs:=Bmw v1 b p (f:Int) (c:Int) (w:Int) (r:Int) (n:Int) q d (T:Int) (framesL (longN r) n) hs1.2 o.five (A:Int) (by omega) (by omega) v1.length 0 FUEL (by omega) (by have:=Al;omega)
     rw[List.take_zero,List.sum_nil,Int.add_zero]at hs
     rw[hV,Abz,Ade,if_neg (by rw[Ah];simp),Alg,eV]
     refine Eq.trans hs ?_
     rw[Abi,Ana,eV,Mj,Adw,if_neg (by rw[Ah];simp),Bdu p o.pass,Aa]
     exact hlv
    ·rw[hR,if_neg (by rw[Ah];simp),Aa,Bh3 p o.pass,Aa,eR]
     exact hlr
end Go.Pl
set_option linter.unusedVariables false
set_option linter.unusedSimpArgs false
namespace Go.Pl
open Go Go.Lv
def Ajd(b:List UInt8):List Int:=framesL (longN (f3 (hdr b))) (f4 (hdr b))
def Anv(b:List UInt8):Nat:=(frontS b).1.toNat+22+(if f0 (hdr b)=2 then 8 else 0)
theorem start_eq(b:List UInt8)(hb:b.length≤100100):
  (∃e:Int,e≠0∧(∃r1 r2 r3 r4 r5,Qv b=some (r1,r2,r3,r4,r5,0,0,0,0,0,[],e))∧(∃q0 q1 q2 q3 q4 q5,Cx b=some (q0,q1,q2,q3,q4,q5,e)))∨
  (b.length≤100000∧(frontS b).2=0∧(readS (hdr b)).2.2.2.2.2=0∧
   Qv b=some ((f0 (hdr b):Int),(f1 (hdr b):Int),(f2 (hdr b):Int),(f3 (hdr b):Int),(f4 (hdr b):Int),(frontS b).1,(frontS b).1+22,(Anv b:Int),0,0,Ajd b,0)∧
   Cx b=some ((frontS b).1,(f0 (hdr b):Int),(f1 (hdr b):Int),(f2 (hdr b):Int),(f3 (hdr b):Int),(f4 (hdr b):Int),0)):=by
 by_cases h1:100000<b.length
 ·refine .inl ⟨4,by omega,⟨0,0,0,0,0,?_⟩,⟨0,0,0,0,0,0,?_⟩⟩
  ·rw[Qv,if_pos (by rw[Ak,Ac];simp;omega)]
  ·rw[Cx,if_pos (by rw[Ak,Ac];simp;omega)]
 ·rw[Qv,if_neg (by rw[Ak,Ac];simp;omega),Cx,if_neg (by rw[Ak,Ac];simp;omega),Ez b (by omega),Wv b (by omega),Aa,Aa]
  by_cases h2:(frontS b).2=0
  ·obtain⟨p0,p1,p2⟩:=Akr h2
   have hc:=Cb (l:=b) p0 p1
   simp only[h2]
   rw[if_neg (by rw[Ah];simp),if_neg (by rw[Ah];simp),hc,Aa,Aa,show b.drop (frontS b).1.toNat=hdr b from rfl,Ql _ (by simp[hdr];omega),Aqx _ (by simp[hdr];omega),Aa,Aa]
   by_cases h3:(readS (hdr b)).2.2.2.2.2=0
   ·obtain⟨g1,g2,g3,g4⟩:=Avt h3
    refine .inr ⟨by omega,trivial,h3,?_,?_⟩
    ·rw[g1]
     simp only
     rw[if_neg (by rw[Ah];simp),Aal g3 g4,Aa]
     simp only
     have t22:Ad (frontS b).1 22=(frontS b).1+22:=Ag (by omega) (by omega)
     have t30:Ad ((frontS b).1+22) 8=(frontS b).1+22+8:=Ag (by omega) (by omega)
     rw[As,t22,t30]
     by_cases h5:f0 (hdr b)=2
     ·rw[if_pos (by rw[h5];rfl)]
      rw[show(frontS b).1+22+8=(Anv b:Int) by rw[Anv,if_pos h5];omega];rfl
     ·rw[if_neg (by simp;omega)]
      rw[show(Anv b:Int)=(frontS b).1+22 by rw[Anv,if_neg h5];omega];rfl
    ·rw[g1]
   ·generalize readS (hdr b)=v at*
    obtain⟨v1,v2,v3,v4,v5,v6⟩:=v
    simp only at h3⊢
    exact .inl ⟨v6,h3,⟨v1,v2,v3,v4,v5,by rw[if_pos (by rw[Ah];simpa using h3)]⟩,⟨(frontS b).1,v1,v2,v3,v4,v5,rfl⟩⟩
  ·generalize frontS b=v at*
   obtain⟨v,e⟩:=v
   simp only at h2⊢
   refine .inl ⟨e,h2,⟨0,0,0,0,0,?_⟩,⟨0,0,0,0,0,0,?_⟩⟩
   ·rw[if_pos (by rw[Ah];simpa using h2)]
   ·rw[if_pos (by rw[Ah];simpa using h2)]
theorem Big(l:List Int)(b:List UInt8)(r2 r3 r4 r5 r6 r7 r8 r9:Int)(l12:List Int)(hl:l.length≤1000)(h5:∀x∈l,5≤x):∀(j i q:Nat) (s:Int),i+j=l.length→j<q→0≤s→s+(l.drop i).sum≤1000000→
  Po l b r2 r3 r4 r5 r6 r7 r8 r9 l12 q (i:Int) s=Yy b l r2 r3 r4 r5 r6 r7 r8 r9 (s+(l.drop i).sum) l12
 |0,i,q+1,s,hi,_,_,_=>by
  rw[Po,Acg,if_neg (by rw[Ae,Ac];simp;omega),show i=l.length by omega,List.drop_length];simp
 |j+1,i,q+1,s,hi,hq,h0,hs=>by
  have hlt:i<l.length:=by omega
  have hx:=h5 l[i] (List.getElem_mem hlt)
  have h2:=Buu (l.drop (i+1)) fun y hy=>h5 y (List.mem_of_mem_drop hy)
  rw[drop_cons hlt,List.sum_cons]at hs⊢
  rw[Po,Acg,if_pos (by rw[Ae,Ac];simp;omega),Bm hlt,Aa,Aa,Ag (by omega) (by omega),Ag (by omega) (by omega)]
  have ih:=Big l b r2 r3 r4 r5 r6 r7 r8 r9 l12 hl h5 j (i+1) q (s+l[i]) (by omega) (by omega) (by omega) (by omega)
  rw[show((i:Int)+1)=((i+1:Nat):Int) by omega,ih,Int.add_assoc]
theorem Avv(b:List UInt8)(r2 x1:Int)(l:List Int)(hl:l.length≤1000)(h5:∀x∈l,5≤x):∀(j i q:Nat) (s:Int),i+j=l.length→j<q→0≤s→s+(l.drop i).sum≤1000000→
  Im b r2 x1 l q (i:Int) s=Tp b r2 x1 l (s+(l.drop i).sum)
 |0,i,q+1,s,hi,_,_,_=>by
  rw[Im,Tl,if_neg (by rw[Ae,Ac];simp;omega),show i=l.length by omega,List.drop_length];simp
 |j+1,i,q+1,s,hi,hq,h0,hs=>by
  have hlt:i<l.length:=by omega
  have hx:=h5 l[i] (List.getElem_mem hlt)
  have h2:=Buu (l.drop (i+1)) fun y hy=>h5 y (List.mem_of_mem_drop hy)
  rw[drop_cons hlt,List.sum_cons]at hs⊢
  rw[Im,Tl,if_pos (by rw[Ae,Ac];simp;omega),Bm hlt,Aa,Aa,Ag (by omega) (by omega),Ag (by omega) (by omega)]
  have ih:=Avv b r2 x1 l hl h5 j (i+1) q (s+l[i]) (by omega) (by omega) (by omega) (by omega)
  rw[show((i:Int)+1)=((i+1:Nat):Int) by omega,ih,Int.add_assoc]
theorem Bvg{b p:List UInt8}{f c w r n A:Nat}{l:List Int}(o:Opn b p f c w r n A l)(hfit:(A:Int)+l.sum≤b.length):
  Aoh b=some ((frontS b).1,(frontS b).1+22,(A:Int)-4*(l.length:Int)-4,(A:Int),(A:Int)+l.sum,0)∧Amc b=some ((frontS b).1,(frontS b).1+22,(A:Int)-4*(l.length:Int)-4,(A:Int),(A:Int)+l.sum,0):=by
 have hfile:=o.file
 have hhead:=o.head
 have hpos:=o.pos
 have hlen:=o.len
 have hs1:=o.some1
 have hsum:=o.sum
 have hA:=o.at'
 obtain⟨p0,p1,p2⟩:=Akr o.tag
 have h3:(readS (hdr b)).2.2.2.2.2=0:=by rw[hhead]
 obtain⟨c1,c2,c3,c4⟩:=Avt h3
 rw[c1]at hhead
 simp only[Prod.mk.injEq]at hhead
 obtain⟨i1,i2,i3,i4,i5,_⟩:=hhead
 have e1:f0 (hdr b)=f:=by omega
 have e2:f1 (hdr b)=c:=by omega
 have e3:f2 (hdr b)=w:=by omega
 have e4:f3 (hdr b)=r:=by omega
 have e5:f4 (hdr b)=n:=by omega
 have htab:=o.tab
 have hT:(frontS b).1.toNat+22+(if f=2 then 8 else 0)=Anv b:=by rw[Anv,e1]
 rw[hT]at htab
 have hTA:(Anv b:Int)=(A:Int)-4*(l.length:Int)-4:=by omega
 have hfr:Ajd b=framesL (longN r) n:=by rw[Ajd,e4,e5]
 have hk:(Ajd b).length=l.length:=by rw[hfr,hlen]
 obtain⟨hc,hw,hr,hn,_⟩:=Abs o.shape
 have hfit4:n≤4000/c:=by have:=o.fit;simp only[fitB,decide_eq_true_eq]at this;exact this.1
 have hn4:n≤4000:=by have:=Nat.div_le_self 4000 c;omega
 have hspl:Cz (f3 (hdr b):Int) (f4 (hdr b):Int)=some (Ajd b):=by rw[hfr,e4,e5];exact Ak7 hr.2 hn hn4
 rw[Aoh,Ak8,Amc,Aee]
 rcases start_eq b (by omega)with⟨e,he,_,⟨q0,q1,q2,q3,q4,q5,h2⟩⟩|⟨_,_,_,h1,h2⟩
 ·exfalso
  have hr2:=Cx b
  have:Cx b=some ((frontS b).1,(f0 (hdr b):Int),(f1 (hdr b):Int),(f2 (hdr b):Int),(f3 (hdr b):Int),(f4 (hdr b):Int),0):=by
   have hcut:=Cb (l:=b) p0 p1
   have htag:=o.tag
   rw[Cx,if_neg (by rw[Ak,Ac];simp;omega),Wv b (by omega),Aa]
   generalize hv:frontS b=v at*
   obtain⟨v1,v2⟩:=v
   simp only at htag hcut⊢
   rw[if_neg (by rw[Ah];simpa using htag),hcut,Aa,show b.drop v1.toNat=hdr b by rw[hdr,hv],Aqx _ (by simp[hdr];omega),c1,Aa]
  rw[h2]at this
  have:=Option.some.inj this
  simp only[Prod.mk.injEq]at this
  exact he this.2.2.2.2.2.2
 ·rw[h1,h2,Aa,Aa]
  have z:Ay (0:Int) 0=false:=by decide
  simp only[z,Bool.false_eq_true,if_false]
  have e22:Ad (frontS b).1 22=(frontS b).1+22:=Ag (by omega) (by omega)
  have e30:Ad ((frontS b).1+22) 8=(frontS b).1+22+8:=Ag (by omega) (by omega)
  have hr:(if geq (f0 (hdr b):Int) 2=true then Ie b (f0 (hdr b)) (f1 (hdr b)) (f2 (hdr b)) (f3 (hdr b)) (f4 (hdr b)) (frontS b).1 (Ad (Ad (frontS b).1 22) 8)else Ie b (f0 (hdr b)) (f1 (hdr b)) (f2 (hdr b)) (f3 (hdr b)) (f4 (hdr b)) (frontS b).1 (Ad (frontS b).1 22))=
    Ie b (f0 (hdr b)) (f1 (hdr b)) (f2 (hdr b)) (f3 (hdr b)) (f4 (hdr b)) (frontS b).1 (Anv b:Int):=by
   rw[e22,e30,As]
   by_cases h5:f0 (hdr b)=2
   ·rw[if_pos (by rw[h5];rfl),show(frontS b).1+22+8=(Anv b:Int) by rw[Anv,if_pos h5];omega]
   ·rw[if_neg (by simp;omega),show(frontS b).1+22=(Anv b:Int) by rw[Anv,if_neg h5];omega]
  have hc:=Cb (l:=b) (a:=(Anv b:Int)) (by omega) (by omega)
  rw[Int.toNat_natCast]at hc
  have hdl:(b.drop (Anv b)).length≤100100:=by simp;omega
  have hsp:=Ayi (b.drop (Anv b)) (Ajd b).length hdl
  have hsr:=Bdd (b.drop (Anv b)) (Ajd b).length hdl
  rw[hk,htab]at hsp hsr
  have eA:Ad (Ad (Anv b:Int) (Au 4 (Ac l))) 4=(A:Int):=by
   have a1:Au 4 (Ac l)=4*(l.length:Int):=Fb (by unfold Ac;omega) (by unfold Ac;omega)
   have a2:Ad (Anv b:Int) (4*(l.length:Int))=(Anv b:Int)+4*(l.length:Int):=Ag (by omega) (by omega)
   rw[a1,a2,Ag (by omega) (by omega)];omega
  rw[hr,Ie,Aeq,if_neg (by rw[Ae,Ac];simp;omega),if_neg (by rw[Ae,Ac];simp;omega),Mp,hc,hspl,Aa,Aa,Aa,show Ac (Ajd b)=((Ajd b).length:Int)from rfl,hk,hsp,hsr,Aa,Aa,Aa]
  simp only
  rw[Alp,Am9]
  simp only[z,Bool.false_eq_true,if_false]
  rw[eA,Anr,Aeu]
  have q1:=Big l b (f0 (hdr b)) (f1 (hdr b)) (f2 (hdr b)) (f3 (hdr b)) (f4 (hdr b)) (frontS b).1 ((frontS b).1+22) (Anv b) (Ajd b) (by omega) o.five l.length 0 FUEL (A:Int) (by omega) (by have:=Al;omega) (by omega) (by rw[List.drop_zero];omega)
  have q2:=Avv b (frontS b).1 (Anv b) l (by omega) o.five l.length 0 FUEL (A:Int) (by omega) (by have:=Al;omega) (by omega) (by rw[List.drop_zero];omega)
  rw[List.drop_zero]at q1 q2
  rw[show(0:Int)=((0:Nat):Int)from rfl,q1,q2,Yy,Aih,Sm,Aiu,z,if_neg (by simp),Ai9,Aug,Tp,Aem,eA,e22]
  rw[if_neg (by rw[Ae,Ac];simpa using hfit),hTA]
  exact⟨rfl,rfl⟩
end Go.Pl
set_option linter.unusedVariables false
set_option linter.unusedSimpArgs false
namespace Go.Pl
open Go Go.Lv
end Go.Pl
set_option linter.unusedVariables false
set_option linter.unusedSimpArgs false
namespace Go.Pl
open Go Go.Lv
theorem Cb9{ch:Nat}{bits:Int}(hb:BitsOk bits)(h1:1≤ch)(h6:ch≤6):Ff (ch:Int) bits=some 0:=by
 have hr:∃x y,Qt bits=some (x,y,0):=⟨_,_,Bod hb⟩
 obtain⟨x,y,hr⟩:=hr
 rw[Ff,hr,Aa]
 simp only
 rw[if_neg (by simp[Ah,Ae,Ak];omega)]
abbrev P6':=Int×Int×Int×List Int32×List Int×Int
def Cci(e:Int):P6':=(0,0,0,[],[],e)
end Go.Pl
set_option linter.unusedVariables false
set_option linter.unusedSimpArgs false
namespace Go.Pl
open Go Go.Lv
theorem Cdn{c r n:Nat}(h:fitB c r n=true):1≤(framesL (longN r) n).length∧(framesL (longN r) n).length≤1000:=by
 simp only[fitB,decide_eq_true_eq]at h
 rw[Uw];exact⟨Nat.le_add_left _ _,h.2⟩
end Go.Pl
set_option linter.unusedVariables false
set_option linter.unusedSimpArgs false
namespace Go.Pl
open Go Go.Lv
theorem Bwu(g:Nat):∀K:Nat,(List.replicate K (g:Int)).sum=((K*g:Nat):Int)
 |0=>by simp
 |K+1=>by
  rw[List.replicate_succ,List.sum_cons,Bwu g K,Nat.succ_mul];omega
theorem Bfv{g n:Nat}(hn:1≤n):(framesL g n).sum=(n:Int):=by
 have h:=Nat.div_mul_le_self (n-1) g
 rw[framesL,List.sum_append,Bwu]
 simp only[List.sum_cons,List.sum_nil]
 omega
theorem Bva:∀{l:List Int},(∀x∈l,0≤x)→0≤l.sum
 |[],_=>by simp
 |x::l,h=>by
  have h1:=h x List.mem_cons_self
  have h2:=Bva (l:=l) fun y hy=>h y (List.mem_cons_of_mem _ hy)
  rw[List.sum_cons];omega
theorem Boc{l:List Int}(h:∀x∈l,0≤x)(i:Nat):0≤(l.take i).sum∧(l.take i).sum≤l.sum:=by
 have h1:=Bva (l:=l.take i) fun x hx=>h x (List.mem_of_mem_take hx)
 have h2:=Bva (l:=l.drop i) fun x hx=>h x (List.mem_of_mem_drop hx)
 have:=Bmt l i
 omega
def Ars(c w:Nat)(fr:List Int)(k:Nat):Int:=(((fr.take k).sum.toNat*(c*wB (w:Int)):Nat):Int)
section
variable {f c w r n:Nat} (h1:shapeB f c w r n=true) (h2:fitB c r n=true)
include h1 h2
theorem Bhz:(∀x∈framesL (longN r) n,0≤x)∧(framesL (longN r) n).sum=(n:Int)∧n≤4000:=by
 obtain⟨hc,hw,hr,hn,_⟩:=Abs h1
 have hfit:n≤4000/c:=by simp only[fitB,decide_eq_true_eq]at h2;exact h2.1
 have hn4:n≤4000:=by have:=Nat.div_le_self 4000 c;omega
 refine⟨fun x hx=>?_,Bfv hn,hn4⟩
 obtain⟨m,rfl,_⟩:=Ba6 (Lt r) hn hx
 omega
theorem Bm4(k:Nat)(hk:k≤(framesL (longN r) n).length):∀(j i q:Nat),i+j=k→j<q→Qg (k:Int) (f:Int) (c:Int) (w:Int) (r:Int) (n:Int) (framesL (longN r) n) q (((framesL (longN r) n).take i).sum) (i:Int)=some (Ars c w (framesL (longN r) n) k,0)
 |0,i,q+1,hi,_=>by
  obtain⟨hc,hw,hr,hn,_⟩:=Abs h1
  obtain⟨g1,g2,g3⟩:=Bhz h1 h2
  have b:=Boc g1 i
  obtain rfl:i=k:=by omega
  rw[Qg,Abp,if_neg (by rw[Ae];simp),Amb,Axt,Ars]
  have e:((framesL (longN r) n).take i).sum=((((framesL (longN r) n).take i).sum.toNat:Nat):Int):=by omega
  rw[e,Cjh (by omega) hc.2 hw];rfl
 |j+1,i,q+1,hi,hq=>by
  obtain⟨g1,g2,g3⟩:=Bhz h1 h2
  have hK:=Cdn h2
  have hlt:i<(framesL (longN r) n).length:=by omega
  have b1:=Boc g1 i
  have b2:=Boc g1 (i+1)
  have e:=Jf hlt
  have ih:=Bm4 k hk j (i+1) q (by omega) (by omega)
  rw[e]at ih
  rw[Qg,Abp,if_pos (by rw[Ae];simp;omega),Bm hlt,Aa,Aa,Ag (by omega) (by omega),Ag (by omega) (by omega)]
  exact ih
theorem Bex(k:Nat)(hk:k≤(framesL (longN r) n).length):Agw (f:Int) (c:Int) (w:Int) (r:Int) (n:Int) (k:Int)=some (Ars c w (framesL (longN r) n) k,0):=by
 have hK:=Cdn h2
 have h:=Bm4 h1 h2 k hk k 0 FUEL (by omega) (by have:=Al;omega)
 rw[List.take_zero,List.sum_nil]at h
 rw[Agw,Ak3,Aal h1 h2,Aa]
 simp only
 rw[if_neg (by simp[Ah,Ak,Ac];omega)]
 exact h
end
abbrev D5:=Int×UInt8×Int×Int×Int
def Bqs(G:Nat→List UInt8×Int)(ce:Int)(Bet:Nat→Int)(L:Nat):Nat→Nat→D5
 |0,_=>(ce,6,0,Bet L,0)
 |j+1,v=>if(G v).2≠0 then(ce,5,(v:Int),Bet v,0)else Bqs G ce Bet L j (v+1)
section
variable {b p:List UInt8} {f c w r n A:Nat} {l:List Int} (o:Opn b p f c w r n A l)
include o
theorem Bnk(ce:Int)(hce:ce≠0):∀(j v q:Nat),v+j=l.length→j<q→Qa b p l ce 6 (f:Int) (c:Int) (w:Int) (r:Int) (n:Int) (A:Int) q (v:Int)=some (Bqs (Agq b p f c w r n A l) ce (Ars c w (framesL (longN r) n)) l.length j v)
 |0,v,q+1,hv,_=>by
  rw[Qa,Acx,if_neg (by rw[Ae,Ac];simp;omega),Ac6,Akt,Ac,Bex o.shape o.fit l.length (by rw[←o.len];exact Nat.le_refl _),Aa];rfl
 |j+1,v,q+1,hv,hq=>by
  have hs1:=o.some1
  obtain⟨m,x,s,e,g⟩:=Aq3 o v (by omega)
  rw[Qa,Acx,if_pos (by rw[Ae,Ac];simp;omega),if_neg (by rw[As];simpa using hce),Bzp o (by omega) g,Aa,Bqs,g.eq]
  simp only
  by_cases he:e≠0
  ·rw[if_pos (by rw[Ah];simpa using he),if_pos he,Ac6,Akt,Bex o.shape o.fit v (by rw[←o.len];omega),Aa]
  ·rw[if_neg (by rw[Ah];simpa using he),if_neg he,Ag (by omega) (by omega)]
   exact Bnk ce hce j (v+1) q (by omega) (by omega)
end
def Bmz(Bet:Nat→Int)(A at':Int)(l:List Int):Nat→Nat→D5
 |0,_=>(0,6,0,0,0)
 |j+1,i=>if at'<A+(l.take (i+1)).sum then(0,5,(i:Int),Bet i,0)else Bmz Bet A at' l j (i+1)
section
variable {b p:List UInt8} {f c w r n A:Nat} {l:List Int} (o:Opn b p f c w r n A l)
include o
theorem Bm3(a:Int)(ha:0≤a)(ha2:a≤100100):∀(j i q:Nat),i+j=l.length→j<q→Nr a l (f:Int) (c:Int) (w:Int) (r:Int) (n:Int) (A:Int) q ((A:Int)+(l.take i).sum) (i:Int)=some (Bmz (Ars c w (framesL (longN r) n)) (A:Int) a l j i)
 |0,i,q+1,hi,_=>by
  rw[Nr,Yw,if_neg (by rw[Ae,Ac];simp;omega)];rfl
 |j+1,i,q+1,hi,hq=>by
  have hs1:=o.some1
  have hsum:=o.sum
  have hA:=o.at'
  have hfile:=o.file
  have hlt:i<l.length:=by omega
  have b1:=Ef o.five i
  have b2:=Ef o.five (i+1)
  have e:=Jf hlt
  rw[Nr,Yw,if_pos (by rw[Ae,Ac];simp;omega),Bm hlt,Aa,Aa,Ag (a:=(A:Int)+(l.take i).sum) (by omega) (by omega),Int.add_assoc,←e,Bmz]
  by_cases h:a<(A:Int)+(l.take (i+1)).sum
  ·rw[if_pos (by rw[Ae];simpa using h),if_pos h,Bex o.shape o.fit i (by rw[←o.len];omega),Aa]
  ·rw[if_neg (by rw[Ae];simpa using h),if_neg h,Ag (by omega) (by omega)]
   exact Bm3 a ha ha2 j (i+1) q (by omega) (by omega)
theorem Cee(h:(Aws b p f c w r n A l).2.2.2.2=0):(A:Int)+l.sum≤b.length:=by
 have hs1:=o.some1
 have key:∀(j k:Nat) (acc:List Int32),k+j=l.length→1≤j→(Ayy (fun k=>smF w (Agq b p f c w r n A l k)) (fun k=>(Agq b p f c w r n A l k).2) (Bey b A l) j k acc).2=0→(A:Int)+l.sum≤b.length:=by
  intro j
  induction j with
  |zero=>intro k acc _ h;omega
  |succ j ih=>
   intro k acc hk _ h
   obtain⟨m,x,s,e,g⟩:=Aq3 o k (by omega)
   rw[Ayy]at h
   by_cases he:(Agq b p f c w r n A l k).2≠0
   ·rw[if_pos he]at h;exact absurd h he
   ·rw[if_neg he]at h
    by_cases hj:j=0
    ·rw[g.eq]at he
     have:=(g.some' (by simpa using he)).2.2.2.2
     rw[show k+1=l.length by omega,List.take_length]at this
     exact this
    ·exact ih (k+1) _ (by omega) (by omega) h
 rw[Aws,Ao5]at h
 refine key l.length 0 [] (by omega) hs1.1 ?_
 split at h
 ·simpa [Bio]using h
 ·rename_i h2;simpa using h2
end
theorem Bt8(C W:Nat)(fr:List Int):Ars C W fr 0=0:=by rw[Ars,List.take_zero,List.sum_nil];simp
end Go.Pl
set_option linter.unusedVariables false
set_option linter.unusedSimpArgs false
namespace Go.Pl
open Go Go.Lv
theorem Blq{bits:Int}(h:BitsOk bits){l:List Int32}(hl:l.length≤4000)(hr:inR bits l):cadenzaref18_Check bits l=some 0:=by
 have hh:=Aky bits
 have key:∀(j i q:Nat),i+j=l.length→j<q→Ao l (hB bits) q (i:Int)=some 0:=by
  intro j
  induction j with
  |zero=>
   intro i q hi hq
   obtain⟨q,rfl⟩:∃k,q=k+1:=⟨q-1,by omega⟩
   rw[Ao,Bv,if_neg (by rw[Ae,Ac];simp;omega)];rfl
  |succ j ih=>
   intro i q hi hq
   obtain⟨q,rfl⟩:∃k,q=k+1:=⟨q-1,by omega⟩
   have hx:=hr l[i] (List.getElem_mem (by omega))
   rw[Ao,Bv,if_pos (by rw[Ae,Ac];simp;omega),Bm (by omega),Aa,Aa,Dx,Bnr,Br (by omega) (by omega),Ag (by omega) (by omega),Ae,Cu,if_neg (by simp;omega),if_neg (by simp;omega)]
   exact ih (i+1) q (by omega) (by omega)
 rw[cadenzaref18_Check,Cm,Aoq h,Aa,if_neg (by rw[As];simp;omega),if_neg (by rw[Ak,Ac];simp;omega)]
 exact key l.length 0 FUEL (by omega) (by have:=Al;omega)
def Cgu{α:Type}(G:Nat→List α):Nat→Nat→List α
 |0,_=>[]
 |j+1,k=>G k++Cgu G j (k+1)
theorem Bts(w:Nat)(G:Nat→List UInt8×Int)(be:Int):∀(j k:Nat) (acc:List UInt8) (acc2:List Int32),(Bkm G be j k acc).2=(Ayy (fun k=>smF w (G k)) (fun k=>(G k).2) be j k acc2).2
 |0,k,acc,acc2=>by
  rw[Bkm,Ayy]
  split<;>rfl
 |j+1,k,acc,acc2=>by
  rw[Bkm,Ayy]
  split
  ·rfl
  ·exact Bts w G be j (k+1) _ _
theorem Bng(G:Nat→List UInt8×Int):∀(j k:Nat) (acc:List UInt8),(∀i,k≤i→i<k+j→(G i).2=0)→Bkm G 0 j k acc=(acc++Cgu (fun i=>(G i).1) j k,0)
 |0,k,acc,h=>by
  rw[Bkm,if_neg (by simp),Cgu];simp
 |j+1,k,acc,h=>by
  rw[Bkm,if_neg (by rw[h k (by omega) (by omega)];simp),Bng G j (k+1) _ fun i h1 h2=>h i (by omega) (by omega),Cgu,List.append_assoc]
end Go.Pl
set_option linter.unusedVariables false
set_option linter.unusedSimpArgs false
namespace Go.Pl
open Go Go.Lv
def Ju(bits:Int)(ch:Nat)(t x:List Int32):List UInt32:=evl bits ch t (mx ch x) x.length
def Ale(bits:Int)(ch:Nat)(t x:List Int32):List UInt8:=Jd (Oo ch (Ju bits ch t x) x.length)
def Nl(bits:Int)(ch:Nat)(t x:List Int32):List UInt8:=Ale bits ch t x++Ns (Bz (Ale bits ch t x)).toNat 4
theorem Bqt(bits:Int)(ch:Nat)(t x:List Int32)(h0:1≤x.length)(h4:x.length≤4000):1≤(Ale bits ch t x).length∧(Ale bits ch t x).length≤40501:=by
 have h:=Avh ch (Ju bits ch t x) x.length
 obtain⟨k,hk⟩:∃k,x.length=k+1:=⟨x.length-1,by omega⟩
 have h1:1≤(Oo ch (Ju bits ch t x) x.length).length:=by
  rw[hk,Oo,List.length_append]
  have hn:=Bo6 ch ((Ju bits ch t x).take k)
  have:=Aq0 ((Ju bits ch t x).getD k 0) hn.1 hn.2
  omega
 rw[Ale,Wf]
 omega
theorem Bkg(bits:Int)(ch:Nat)(t x:List Int32)(h0:1≤x.length)(h4:x.length≤4000):5≤(Nl bits ch t x).length∧(Nl bits ch t x).length≤40505:=by
 have:=Bqt bits ch t x h0 h4
 rw[Nl,List.length_append,Bb]
 omega
theorem Bne(bits:Int)(ch:Nat)(t x:List Int32)(h0:1≤x.length)(h4:x.length≤4000):Na (Nl bits ch t x)=0∧(Nl bits ch t x).take ((Nl bits ch t x).length-4)=Ale bits ch t x:=by
 have h:=Bkg bits ch t x h0 h4
 have hl:(Nl bits ch t x).length-4=(Ale bits ch t x).length:=by rw[Nl,List.length_append,Bb];omega
 have h1:(Nl bits ch t x).take ((Nl bits ch t x).length-4)=Ale bits ch t x:=by rw[hl,Nl,List.take_left]
 have h2:(Nl bits ch t x).drop ((Nl bits ch t x).length-4)=Ns (Bz (Ale bits ch t x)).toNat 4:=by rw[hl,Nl,List.drop_left]
 have hlt:=(Bz (Ale bits ch t x)).toNat_lt
 refine⟨?_,h1⟩
 rw[Na,if_neg (by omega),if_neg (by omega),h1,h2,Ul,Nat.mod_eq_of_lt (by omega),if_neg (by simp)]
theorem Buh{bits:Int}{ch n:Nat}{t x:List Int32}(hb:BitsOk bits)(ht:t.length=16)(h1:1≤ch)(h6:ch≤6)(n1:1≤n)(n2:n≤4000/ch)(hx:x.length=n*ch)(hr:inR bits x):
  deframe_Decode (ch:Int) bits t (n:Int) (Nl bits ch t x)=some (x,0)∧cadenzaref21_Decode (ch:Int) bits t (n:Int) (Nl bits ch t x)=some (x,0):=by
 have hn:n*ch≤4000:=by
  have:=Nat.mul_le_mul_right ch n2
  have h2:=Nat.div_mul_le_self 4000 ch
  omega
 have hq4:=Bgp h1 h6
 have hx1:1≤x.length:=by rw[hx];exact Nat.mul_pos n1 h1
 have key:cadenzaref21_Decode (ch:Int) bits t (n:Int) (Nl bits ch t x)=some (x,0):=by
  generalize 4000/ch=mm at*
  have hh:=Aky bits
  have hasked:Ck (ch:Int) bits (n:Int)=some 0:=by
   rw[Ck,Cc,if_neg (by simp[Ae,Ak];omega),Aoq hb,Aa,if_neg (by rw[As];simp;omega),Aa,if_neg (by simp[Ah,Ae];omega),Ba (by rw[Ah];simp;omega),Aa,hq4,if_neg (by rw[Ak];simp;omega)]
  have hlen:=Bkg bits ch t x hx1 (by omega)
  obtain⟨hs,htk⟩:=Bne bits ch t x hx1 (by omega)
  have hpl:=Bqt bits ch t x hx1 (by omega)
  have e4:Aj (Ac (Nl bits ch t x)) 4=(((Nl bits ch t x).length-4:Nat):Int):=by rw[Ac,Az (by omega) (by omega)];omega
  have hVl:(Ju bits ch t x).length=x.length:=Aya _ _ _ _ _
  have hEl:=Wf (Oo ch (Ju bits ch t x) x.length)
  have hvb:=Bly ch (Ju bits ch t x) (8*(Ale bits ch t x).length) (by rw[hVl,Ale,hEl];omega) (n*ch) 0 (by omega)
  rw[hVl]at hvb
  have hread:=Bxc (N:=8*(Ale bits ch t x).length) (p:=Ale bits ch t x) rfl (by omega) h1 h6 hn
  have hvb':Wl ch (Ale bits ch t x) (8*(Ale bits ch t x).length) (n*ch) 0 []=(Ju bits ch t x,(Oo ch (Ju bits ch t x) x.length).length,0):=hvb
  have hz:Be (Ale bits ch t x) (Oo ch (Ju bits ch t x) x.length).length (8*(Ale bits ch t x).length-(Oo ch (Ju bits ch t x) x.length).length)=0:=by
   apply Bdr
   intro k _
   rw[Ale,Aa3,Bpi (by omega)]
  have hgap:¬7<8*(Ale bits ch t x).length-(Oo ch (Ju bits ch t x) x.length).length:=by rw[Ale,hEl];omega
  rw[hvb']at hread
  simp only at hread
  rw[if_neg (by decide),if_neg (by rw[hz];simp;omega)]at hread
  have hm:(Ju bits ch t x).length %ch=0:=by rw[hVl,hx];exact Nat.mul_mod_left n ch
  have hund:=Bnn (v:=Ju bits ch t x) hb ht h1 h6 (by omega) hm
  have hsm:smp bits ch t (Ju bits ch t x)=mx ch x:=by
   have:=Cgm bits ch t (mx ch x)
   rw[Aln]at this
   exact this
  rw[hsm,Cjq h1 (by rw[hx];exact Nat.mul_mod_left n ch)]at hund
  rw[cadenzaref21_Decode,Lj,hasked,Aa,if_neg (by rw[Ah];simp),Bau,Aa,hs,if_neg (by decide),e4,Gz (by omega) (by omega),Aa,Int.toNat_natCast,htk,hread,Aa]
  simp only
  rw[Lc,Lo,if_neg (by decide),hund,Aa,Pg,Blq hb (by omega) hr,Aa,if_neg (by decide)]
  rfl
 obtain⟨l,e,d1,d2,_,_⟩:=Aol (Nl bits ch t x) hb ht h1 h6 n1 n2
 rw[key]at d2
 cases d2
 exact⟨d1,key⟩
end Go.Pl
set_option linter.unusedVariables false
set_option linter.unusedSimpArgs false
namespace Go.Pl
open Go Go.Lv
theorem Bzl{a b:Nat}(ha:a<2^32)(hb:b<2^32)(h:Aac a=Aac b):a=b:=by
 have key:∀s:Nat,s<2^32→(Aac s).testBit 31=decide (s %2=1)∧(∀i,i<31→(Aac s).testBit i=((s/2).testBit i^^ (decide (s %2=1)&&(3988292384:Nat).testBit i))):=by
  intro s hs
  have h31:(s/2).testBit 31=false:=Nat.testBit_lt_two_pow (by omega)
  rcases Nat.mod_two_eq_zero_or_one s with e|e
  ·refine⟨?_,fun i _=>?_⟩<;>rw[Aac,if_neg (by omega),Nat.xor_zero]
   ·rw[h31];simp[e]
   ·simp[e]
  ·refine⟨?_,fun i _=>?_⟩<;>rw[Aac,if_pos e,Nat.testBit_xor]
   ·rw[h31];simp[e];decide
   ·simp[e]
 obtain⟨a1,a2⟩:=key a ha
 obtain⟨b1,b2⟩:=key b hb
 rw[h,b1]at a1
 have hm:a %2=b %2:=by
  have:(b %2=1)=(a %2=1):=by simpa using a1
  rcases Nat.mod_two_eq_zero_or_one a with e|e<;>rcases Nat.mod_two_eq_zero_or_one b with e'|e'<;>simp_all
 have hd:a/2=b/2:=by
  apply Nat.eq_of_testBit_eq
  intro i
  by_cases hi:i<31
  ·have e1:=a2 i hi
   have e2:=b2 i hi
   rw[h,e2,hm]at e1
   cases hx:(a/2).testBit i<;>cases hy:(b/2).testBit i<;>simp_all
  ·rw[Nat.testBit_lt_two_pow (show a/2<2^i from Nat.lt_of_lt_of_le (by omega:a/2<2^31) (Nat.pow_le_pow_right (by omega) (by omega))),Nat.testBit_lt_two_pow (show b/2<2^i from Nat.lt_of_lt_of_le (by omega:b/2<2^31) (Nat.pow_le_pow_right (by omega) (by omega)))]
 omega
theorem Bdq{s:Nat}(h:s<2^32):Aac s<2^32:=by
 unfold Aac
 exact Nat.xor_lt_two_pow (n:=32) (by omega) (by split<;>decide)
theorem Blu:∀(k:Nat) {s:Nat},s<2^32→Jc k s<2^32
 |0,_,h=>h
 |k+1,_,h=>Blu k (Bdq h)
theorem Bec:∀(k:Nat) {a b:Nat},a<2^32→b<2^32→Jc k a=Jc k b→a=b
 |0,_,_,_,_,h=>h
 |k+1,_,_,ha,hb,h=>Bzl ha hb (Bec k (Bdq ha) (Bdq hb) h)
theorem Bp4{a b:Nat}(ha:a<2^32)(hb:b<2^32):a^^^b<2^32:=Nat.xor_lt_two_pow ha hb
theorem Ccz(s:Nat)(a b:List UInt8):Ail s (a++b)=Ail (Ail s a) b:=by rw[Ail,Ail,Ail,List.foldl_append]
theorem Bp8:∀(l:List UInt8) {s:Nat},s<2^32→Ail s l<2^32
 |[],_,h=>h
 |c::l,s,h=>Bp8 l (Blu 8 (Bp4 h (by have:=c.toNat_lt;omega)))
end Go.Pl
set_option linter.unusedVariables false
set_option linter.unusedSimpArgs false
namespace Go.Pl
open Go Go.Lv
theorem Bsb(p:List UInt8)(b0:UInt64)(a0:Int):∀(j m q:Nat),m+j≤300000→j≤64→j<q→
  Nu b0 a0 q (Mz p m j) (j:Int) (m:Int) (Nt p 0 m)=some (Nt p 0 (m+j),((m+j:Nat):Int),0)
 |0,m,q+1,_,_,_=>by
  rw[Nu,Aj7,if_neg (by rw[Ak];simp),At3,Bcz];rfl
 |j+1,m,q+1,hm,hj,hq=>by
  have hroom:Nu b0 a0 (q+1) (Mz p m (j+1)) ((j+1:Nat):Int) (m:Int) (Nt p 0 m)=Akb (Nu b0 a0 q) b0 a0 (Mz p m (j+1)) ((j+1:Nat):Int) (m:Int) (room p 0 m):=by
   rw[Nu,Aj7,if_pos (by rw[Ak];simp),Bf8 m (by omega),room]
   by_cases h0:m %8=0
   ·rw[if_pos (by rw[As,h0];rfl),Ce (by rw[Hg];simp;omega),Aa,if_pos h0]
   ·rw[if_neg (by rw[As];simp;omega),if_neg h0]
  have hl:Aj (Ac (room p 0 m)) 1=((m/8:Nat):Int):=by
   rw[Ac,Mq,Az (by omega) (by omega)];omega
  have e2:Dj ((j+1:Nat):Int) (Aj (8:Int) ((m %8:Nat):Int))=((min (j+1) (8-m %8):Nat):Int):=by
   rw[Acd,Az (by omega) (by omega)];omega
  rw[hroom,Akb,Atq,Bf8 m (by omega),e2,hl]
  generalize hT:min (j+1) (8-m %8)=T
  have hT1:1≤T:=by omega
  have hT8:m %8+T≤8:=by omega
  have hg:getI (room p 0 m) ((m/8:Nat):Int)=some (UInt8.ofNat (Be p (0+8*(m/8)) (m %8))):=by
   rw[Bm (by rw[Mq];omega),Ax3]
  have z1:(GI.toZ ((m %8:Nat):Int)).toNat=m %8:=rfl
  have z2:(GI.toZ ((T:Nat):Int)).toNat=T:=rfl
  have hlt:=Bch p (0+8*(m/8)) (m %8+T) (by omega)
  have hadd:=Aht p (m %8) T (0+8*(m/8))
  rw[show 0+8*(m/8)+m %8=m by omega]at hadd
  have hbyte:(Af (Dc (Mz p m (j+1)) (Aj (Cp (1:UInt64) T) (1:UInt64))):UInt8)=UInt8.ofNat (Be p m T):=by
   rw[Alf,Cmm _ (by omega),Bqw p m (j+1) T (by omega) hj]
  have hnew:gor (UInt8.ofNat (Be p (0+8*(m/8)) (m %8))) (Cp (UInt8.ofNat (Be p m T)) (m %8))=UInt8.ofNat (Be p (0+8*(m/8)) (m %8+T)):=by
   rw[or8 (Mw _ _ _) (by rw[Nat.mul_comm];omega) (by omega),hadd,Nat.mul_comm (2^(m %8))]
  rw[hg,z1,z2,hbyte]
  simp only[Aa]
  rw[Ba (by rw[Cu];simp),Aa,Ba (by rw[Cu];simp;omega),Aa,hnew,Qj _ (by rw[Mq];omega),Aa,Bbt p 0 m T hT1 hT8,Ase,Bc7,Bf8 m (by omega),e2,hT,Ba (by rw[Cu];simp),Aa,z2,Bsi p m (j+1) T (by omega) hj,Az (by omega) (by omega),Ag (by omega) (by omega)]
  have ih:=Bsb p b0 a0 (j+1-T) (m+T) q (by omega) (by omega) (by omega)
  rw[show m+T+(j+1-T)=m+(j+1) by omega]at ih
  rw[←ih,show((j+1:Nat):Int)-((T:Nat):Int)=((j+1-T:Nat):Int) by omega,show(m:Int)+((T:Nat):Int)=((m+T:Nat):Int) by omega]
theorem put_eq(p:List UInt8)(m j:Nat)(hm:m+j≤300000)(hj:j≤63):Alr (Nt p 0 m) (m:Int) (Mz p m j) (j:Int)=some (Nt p 0 (m+j),((m+j:Nat):Int),0):=by
 have hz:Ay (Bi (Mz p m j) (GI.toZ (j:Int)).toNat) 0=false:=by
  have:Bi (Mz p m j) j=0:=by
   apply UInt64.toNat_inj.1
   rw[Adr,Wa p m j (by omega),Nat.div_eq_of_lt (Mw p j m)];rfl
  rw[show(GI.toZ (j:Int)).toNat=j from rfl,this];rfl
 have hl:=Hg p 0 m
 have htw:Aro (Nt p 0 m) (m:Int)=some (Nt p 0 m,(m:Int)):=by
  rw[Aro,Dp,Ce (by simp;omega),Aa,Aa];rfl
 rw[Alr,Axs,Wg (Bbg p 0 m (by omega)),Aa,if_neg (by decide),if_neg (by simp[Ae,Ak];omega),if_pos (by rw[Ae];simp;omega),Ba (by rw[Cu];simp),Aa,hz,if_neg (by decide),Ag (by omega) (by omega),if_neg (by rw[Ak];simp;omega),htw,Aa]
 exact Bsb p _ _ j m FUEL hm (by omega) (by have:=Al;omega)
end Go.Pl
set_option linter.unusedVariables false
set_option linter.unusedSimpArgs false
namespace Go.Pl
open Go Go.Lv
theorem At.cat{p:List UInt8}{a:Nat}{c d:List Bool}(h:At p a (c++d)):At p a c∧At p (a+c.length) d:=⟨h.left,h.right⟩
theorem Br8(p:List UInt8):∀(q a:Nat),At p a (List.replicate q true)→Be p a q+1=2^q
 |0,a,_=>by rw[Be]
 |q+1,a,h=>by
  rw[List.replicate_succ]at h
  obtain⟨h0,h1⟩:=h.cons
  have:=Br8 p q (a+1) h1
  rw[Be,h0,Nat.pow_succ,if_pos rfl];omega
theorem Bdz{x:UInt64}{p:List UInt8}{m n:Nat}(hn:n≤63)(h:x.toNat=Be p m n):x=Mz p m n:=by
 apply UInt64.toNat_inj.1
 rw[h,Wa p m n (by omega)]
theorem Aoy{n:Nat}(h:n<2^64):(UInt64.ofNat n).toNat=n:=by rw[UInt64.toNat_ofNat'];exact Nat.mod_eq_of_lt h
theorem Bmu{p:List UInt8}{m q:Nat}(hq:q≤48)(hm:m+48≤300000)(h:At p m (List.replicate q true++(if q=48 then []else [false]))):
  An9 (Nt p 0 m) (m:Int) (q:Int)=some (Nt p 0 (m+min (q+1) 48),((m+min (q+1) 48:Nat):Int),0):=by
 have h1:=h.left
 have hv:=Br8 p q m h1
 have hp48:2^q≤2^48:=Nat.pow_le_pow_right (by omega) hq
 have hval:Be p m (min (q+1) 48)+1=2^q:=by
  by_cases h48:q=48
  ·subst h48;exact hv
  ·rw[if_neg h48]at h
   have h2:=h.right
   rw[List.length_replicate]at h2
   have h0:=h2.cons.1
   rw[show min (q+1) 48=q+1 by omega,Ayt,h0]
   simpa using hv
 have hx:(Aj (Cp (1:UInt64) q) (1:UInt64)).toNat=Be p m (min (q+1) 48):=by
  have e1:(Cp (1:UInt64) q).toNat=2^q:=by rw[Anp];show 1*2^q %_=_;rw[Nat.one_mul];exact Nat.mod_eq_of_lt (by omega)
  have hpos:0<2^q:=Nat.pow_pos (by omega)
  rw[Bb8,UInt64.toNat_sub_of_le _ _ (by rw[UInt64.le_iff_toNat_le,e1];exact hpos),e1]
  show 2^q-1=_
  omega
 rw[An9,Wg (Bbg p 0 m (by omega)),Aa,if_neg (by decide),Atv,if_neg (by simp[Ae,Ak];omega),Aa]
 simp only
 have e2:Dj (Ad (q:Int) 1) 48=((min (q+1) 48:Nat):Int):=by rw[Acd,Ag (by omega) (by omega)];omega
 rw[if_neg (by decide),Ba (by rw[Cu];simp),Aa,e2,show(GI.toZ (q:Int)).toNat=q from rfl,Bdz (by omega) hx,put_eq p m _ (by omega) (by omega),Aa]
theorem Cca{p:List UInt8}{m l:Nat}{v:UInt32}(hl:l≤24)(hm:m+81≤300000)(h:At p m (Am2 l v.toNat)):
  Atu (Nt p 0 m) (m:Int) v (l:Int)=some (Nt p 0 (m+(Am2 l v.toNat).length),((m+(Am2 l v.toNat).length:Nat):Int),0):=by
 have hvl:=v.toNat_lt
 have hz:(GI.toZ (l:Int)).toNat=l:=rfl
 have hlp:2^l≤2^24:=Nat.pow_le_pow_right (by omega) hl
 have hpos:0<2^l:=Nat.pow_pos (by omega)
 have hesc:Wj v (l:Int)=some (decide (48≤v.toNat/2^l)):=by
  rw[Wj,Ba (by rw[Cu];simp),Aa,hz,Bxv,Acz];rfl
 rw[Atu,Ap4,Wg (Bbg p 0 m (by omega)),Aa,if_neg (by decide),if_neg (by simp[Ae,Ak];omega),Ba (by rw[Cu];simp),Aa,Aa,hesc,Aa]
 rw[Am2]at h⊢
 by_cases h48:48≤v.toNat/2^l
 ·rw[if_pos h48]at h⊢
  obtain⟨h1,h2⟩:=h.cat
  rw[List.length_replicate]at h2
  have hval:=Afz p 32 (m+48) v.toNat h2
  rw[Nat.mod_eq_of_lt (by omega)]at hval
  have hu:=Bmu (p:=p) (m:=m) (q:=48) (Nat.le_refl _) (by omega) (by rw[if_pos rfl,List.append_nil];exact h1)
  rw[if_pos (by simpa using h48),Agh,Api,show(48:Int)=((48:Nat):Int)from rfl,hu,Aa]
  simp only
  rw[if_neg (by decide),Ci,Bdz (x:=UInt64.ofNat v.toNat) (p:=p) (m:=m+48) (n:=32) (by omega) (by rw[Aoy (by omega),hval]),show(32:Int)=((32:Nat):Int)from rfl,show m+min (48+1) 48=m+48 by omega,put_eq p (m+48) 32 (by omega) (by omega),Aa,List.length_append,List.length_replicate,Qh,Nat.add_assoc]
 ·rw[if_neg h48]at h⊢
  generalize hq:v.toNat/2^l=q at*
  obtain⟨h1,h2⟩:=h.cat
  rw[List.length_replicate]at h2
  obtain⟨h3,h4⟩:=h2.cons
  have hval:=Afz p l (m+q+1) (v.toNat %2^l) h4
  rw[Nat.mod_mod]at hval
  have hqa:At p m (List.replicate q true++[false]):=by
   have:List.replicate q true++(false::Aua (v.toNat %2^l) l)=(List.replicate q true++[false])++Aua (v.toNat %2^l) l:=by simp
   rw[this]at h
   exact h.left
  have hu:=Bmu (p:=p) (m:=m) (q:=q) (by omega) (by omega) (by rw[if_neg (by omega)];exact hqa)
  have hgq:(Af (Bi v l):Int)=(q:Int):=by rw[Bi9,Acz,hq]
  have hrest:(Af (Dc v (Aj (Cp (1:UInt32) l) 1)):UInt64)=Mz p (m+q+1) l:=by
   apply Bdz (by omega)
   have e1:(Cp (1:UInt32) l).toNat=2^l:=by rw[Av0];show 1*2^l %_=_;rw[Nat.one_mul];exact Nat.mod_eq_of_lt (by omega)
   have e2:(Aj (Cp (1:UInt32) l) (1:UInt32)).toNat=2^l-1:=by
    rw[Bh9,UInt32.toNat_sub_of_le _ _ (by rw[UInt32.le_iff_toNat_le,e1];exact hpos),e1];rfl
   have e3:(Dc v (Aj (Cp (1:UInt32) l) 1)).toNat=v.toNat %2^l:=by
    rw[Bbk,UInt32.toNat_and,e2,Nat.and_two_pow_sub_one_eq_mod]
   rw[Ci,Aoy (by rw[e3];have:=Nat.mod_lt v.toNat hpos;omega),e3,hval]
  rw[if_neg (by simpa using h48),Agh,Api,hz,hgq,hu,Aa]
  simp only
  rw[if_neg (by decide),hrest,show m+min (q+1) 48=m+q+1 by omega,put_eq p (m+q+1) l (by omega) (by omega),Aa,List.length_append,List.length_replicate,List.length_cons,Qh,show m+q+1+l=m+(q+(l+1)) by omega]
theorem Cdc{k l:Nat}{s t:UInt64}(h:okD k l s t)(v:UInt32):Asb [] 0 (k:Int) (l:Int) s t v=
  some (Jd (Pa k l v),((Pa k l v).length:Int),((kS k (Uo s (n64 v)):Nat):Int),((lK l t k v:Nat):Int),Uo s (n64 v),lT t k v,0):=by
 obtain⟨h1,h2,h3,h4⟩:=h
 have hvl:=v.toNat_lt
 have hAt:At (Jd (Pa k l v)) 0 (Pa k l v):=fun i hi=>by rw[Nat.zero_add,Aa3]
 have hlen:=Aq0 v h1 h2
 have hfull:Nt (Jd (Pa k l v)) 0 (Pa k l v).length=Jd (Pa k l v):=by
  apply Bqz (by rw[Hg,Wf])
  intro i hi
  rw[Bbi,Nat.zero_add,Aa3]
  by_cases hlt:i<(Pa k l v).length
  ·rw[if_pos hlt]
  ·rw[if_neg hlt,Bpi (by omega)]
 generalize hP:Jd (Pa k l v)=P at*
 have h0:Nt P 0 0=[]:=rfl
 have hp10:∀(x:Int) (y:UInt64) (aj ai:Int),Yf v (k:Int) s ai P x y=some (P,ai,((kS k (Uo s (n64 v)):Nat):Int),x,Uo s (n64 v),y,0):=by
  intro x y aj ai
  rw[Yf,Apv,Ci,Arw,Bx9 k h1]
  rw[Ap3,Aqb,Ans,Ac2,Ci,Arw];rfl
 have hp7:∀ai:Int,Af9 v (k:Int) (l:Int) s t 0 ai P=some (P,ai,((kS k (Uo s (n64 v)):Nat):Int),((lK l t k v:Nat):Int),Uo s (n64 v),lT t k v,0):=by
  intro ai
  rw[Af9,Aqc,if_neg (by decide),Bim k l s t h1,Aa]
  by_cases hv:v.toNat<2^k
  ·rw[if_pos hv]
   simp only
   rw[if_neg (by rw[As];simp),hp10 _ _ 0,lK,if_pos hv,lT,if_pos hv]
  ·rw[if_neg hv]
   simp only
   rw[if_pos (by rw[As];rfl),Ci,Arw,Bx9 l h2 _ (fun x=>Yf v (k:Int) s ai P x (Uo t (UInt64.ofNat (Aui k v).toNat))),hp10 _ _ 0,lK,if_neg hv,lT,if_neg hv];rfl
 rw[Asb,Apf,show Gy [] 0=some 0 from rfl,Aa,if_neg (by decide),Ccj ⟨h1,h2,h3,h4⟩,Aa,if_neg (by decide),Apa,Apc,Bim k l s t h1,Aa]
 have hput:=put_eq P 0 1 (by omega) (by omega)
 rw[h0,Nat.zero_add,show((0:Nat):Int)=0 from rfl,show((1:Nat):Int)=1 from rfl]at hput
 by_cases hv:v.toNat<2^k
 ·have hc:Pa k l v=false::Aua v.toNat k:=by rw[Pa,if_pos hv]
  rw[hc]at hAt hfull
  obtain⟨b0,b1⟩:=hAt.cons
  have hval:=Afz P k 1 v.toNat b1
  rw[Nat.mod_eq_of_lt hv]at hval
  have hz:(Af (0:Int):UInt64)=Mz P 0 1:=Bdz (by omega) (by rw[Bbh,b0];rfl)
  rw[if_pos hv]
  simp only
  rw[hz,hput,Aa]
  simp only
  rw[if_pos (by decide),Ci,Bdz (x:=UInt64.ofNat v.toNat) (p:=P) (m:=1) (n:=k) (by omega) (by rw[Aoy (by omega),hval]),show(1:Int)=((1:Nat):Int)from rfl,put_eq P 1 k (by omega) (by omega),Aa]
  simp only
  rw[List.length_cons,Qh,Nat.add_comm k 1]at hfull
  rw[hfull,hp7,hc,List.length_cons,Qh,Nat.add_comm k 1]
 ·have hc:Pa k l v=true::Am2 l (v.toNat-2^k):=by rw[Pa,if_neg hv]
  rw[hc]at hAt hfull
  obtain⟨b0,b1⟩:=hAt.cons
  have hsub:=Nat.sub_le v.toNat (2^k)
  have hlv:(Aui k v).toNat=v.toNat-2^k:=by rw[Aui,Ao0 (by omega)]
  have hz:(Af (1:Int):UInt64)=Mz P 0 1:=Bdz (by omega) (by rw[Bbh,b0];rfl)
  have hr:=Cca (p:=P) (m:=1) (l:=l) (v:=Aui k v) h2 (by omega) (by rw[hlv];exact b1)
  rw[hlv,show((1:Nat):Int)=1 from rfl]at hr
  rw[if_neg hv]
  simp only
  rw[hz,hput,Aa]
  simp only
  rw[if_neg (by decide),if_pos (by decide),hr,Aa]
  simp only
  rw[List.length_cons,Nat.add_comm _ 1]at hfull
  rw[hfull,hp7,hc,List.length_cons,Nat.add_comm _ 1]
end Go.Pl
set_option linter.unusedVariables false
set_option linter.unusedSimpArgs false
namespace Go.Pl
open Go Go.Lv
section
variable (ch:Nat) (x:List Int32)
theorem Ao8{at' i:Nat}(ha:at' %ch=0)(hi:i<ch)(h:at'+i<x.length):(mx ch x).getD (at'+i) 0=mxV (fun i=>x.getD (at'+i) 0) ch i:=by
 have hb:(at'+i) %ch=i:=by rw[Nat.add_mod,ha,Nat.zero_add,Nat.mod_mod,Nat.mod_eq_of_lt hi]
 rw[Ceo h,hb,show at'+i-i=at' by omega]
theorem Bto(bk:Int→List Int32→Option (List Int32×Int))(at':Nat)(h1:1≤ch)(h6:ch≤6)(hm:at' %ch=0)(hl:at'+ch≤x.length)(hl2:x.length≤4000):∀(j i q:Nat),i+j=ch-1→j<q→
  Aat bk (ch:Int) (at':Int) q (i:Int) (sel (fun k=>decide (k<at'+i)) (mx ch x) x)=bk ((at'+ch:Nat):Int) (sel (fun k=>decide (k<at'+ch)) (mx ch x) x)
 |j,i,0,_,h=>absurd h (Nat.not_lt_zero _)
 |0,i,q+1,hi,_=>by
  have hlen:=Aln ch x
  have e1:Aj (Ad (at':Int) (ch:Int)-(at':Int)) 1=((ch-1:Nat):Int):=by rw[Ag (by omega) (by omega),Az (by omega) (by omega)];omega
  have e2:Ad (at':Int) (ch:Int)-(at':Int)=(ch:Int):=by rw[Ag (by omega) (by omega)];omega
  have e4:Ad (at':Int) (ch:Int)=((at'+ch:Nat):Int):=by rw[Ag (by omega) (by omega)];omega
  rw[Aat,Aow,e1,if_neg (by rw[Ae];simp;omega),Axc,Axp,e1,e2]
  obtain rfl:i=ch-1:=by omega
  by_cases h2:1<ch
  ·have e3:Aj ((ch-1:Nat):Int) 1=((ch-2:Nat):Int):=by rw[Az (by omega) (by omega)];omega
   have hv:Aj (x.getD (at'+(ch-1)) 0) (Bt ((mx ch x).getD (at'+(ch-2)) 0) 2)=(mx ch x).getD (at'+(ch-1)) 0:=by
    rw[Ao8 ch x hm (by omega) (by omega),Ao8 ch x hm (by omega) (by omega),mxV,mxV,if_pos (by omega),if_neg (by omega),if_pos h2,Am0,show ch-2+1=ch-1 by omega]
   rw[if_pos (by rw[Ak];simp;omega),Azq (by omega),Aa,e3,Azq (by omega),Aa,
    show(at':Int)+((ch-1:Nat):Int)=((at'+(ch-1):Nat):Int) by omega,show(at':Int)+((ch-2:Nat):Int)=((at'+(ch-2):Nat):Int) by omega,
    Ys (by omega),Aa,Ys (by omega),Aa,Aa,if_neg (by simp),if_pos (by simp;omega),hv,Atc (by omega),Aa,An3,Aww,e4]
   congr 1
   apply Ta
   intro k _
   rw[Bool.eq_iff_iff];simp;omega
  ·obtain rfl:ch=1:=by omega
   have hlast:x.getD at' 0=(mx 1 x).getD at' 0:=by
    have:=Ao8 1 x (i:=0) hm (by omega) (by omega)
    rw[Nat.add_zero]at this
    rw[this,mxV,if_neg (by omega),if_neg (by omega)];rfl
   rw[if_neg (by rw[Ak];simp),An3,Aww,e4]
   congr 1
   apply List.ext_getElem (by rw[Af7,Af7])
   intro k g1 g2
   rw[Qx,Qx]
   by_cases hk:k<at'
   ·rw[if_pos (by simp;omega),if_pos (by simp;omega)]
   ·by_cases hk2:k=at'
    ·subst hk2
     rw[if_neg (by simp),if_pos (by simp)]
     exact hlast
    ·rw[if_neg (by simp;omega),if_neg (by simp;omega)]
 |j+1,i,q+1,hi,hq=>by
  have hlen:=Aln ch x
  have e1:Aj (Ad (at':Int) (ch:Int)-(at':Int)) 1=((ch-1:Nat):Int):=by rw[Ag (by omega) (by omega),Az (by omega) (by omega)];omega
  have e2:Ad (at':Int) (ch:Int)-(at':Int)=(ch:Int):=by rw[Ag (by omega) (by omega)];omega
  have e3:Ad (i:Int) 1=((i+1:Nat):Int):=by rw[Ag (by omega) (by omega)];omega
  have hv:Aj (x.getD (at'+(i+1)) 0) (x.getD (at'+i) 0)=(mx ch x).getD (at'+i) 0:=by
   rw[Ao8 ch x hm (by omega) (by omega),mxV,if_pos (by omega),Am0]
  rw[Aat,Aow,e1,if_pos (by rw[Ae];simp;omega),e2,e3,Azq (by omega),Aa,Azq (by omega),Aa,
   show(at':Int)+((i+1:Nat):Int)=((at'+(i+1):Nat):Int) by omega,show(at':Int)+(i:Int)=((at'+i:Nat):Int) by omega,
   Ys (by omega),Aa,Ys (by omega),Aa,Aa,if_neg (by simp),if_neg (by simp),hv,Atc (by omega),Aa]
  have ih:=Bto bk at' h1 h6 hm hl hl2 j (i+1) q (by omega) (by omega)
  rw[←ih]
  congr 1
  apply Ta
  intro k _
  rw[Bool.eq_iff_iff];simp;omega
theorem Bf6(h1:1≤ch)(h6:ch≤6)(hm:x.length %ch=0)(hl2:x.length≤4000):∀(j at' q:Nat),at' %ch=0→at'≤x.length→x.length-at'≤j→j<q→
  Aag (ch:Int) q (at':Int) (sel (fun k=>decide (k<at')) (mx ch x) x)=some (mx ch x,0)
 |j,at',0,_,_,_,h=>absurd h (Nat.not_lt_zero _)
 |j,at',q+1,ha,hle,hj,hq=>by
  have hlen:=Aln ch x
  have hl:Ac (sel (fun k=>decide (k<at')) (mx ch x) x)=(x.length:Int):=by rw[Ac,Af7,hlen]
  rw[Aag,Awi,hl]
  by_cases h:at'<x.length
  ·have hb:=Bb9 ha hm h
   obtain⟨j,rfl⟩:∃k,j=k+1:=⟨j-1,by omega⟩
   have e4:Ad (at':Int) (ch:Int)=((at'+ch:Nat):Int):=by rw[Ag (by omega) (by omega)];omega
   have hi:=Bto ch x (Aag (ch:Int) q) at' h1 h6 ha hb hl2 (ch-1) 0 FUEL (by omega) (by have:=Al;omega)
   have hrest:=Bf6 h1 h6 hm hl2 j (at'+ch) q (by rw[Nat.add_mod_right,ha]) hb (by omega) (by omega)
   rw[Nat.add_zero]at hi
   rw[if_pos (by rw[Ae];simp;omega),show vwI (x.length:Int) (at':Int) (Ad (at':Int) (ch:Int))=some () by rw[e4,vwI,Azq];omega,Aa]
   exact Eq.trans hi hrest
  ·rw[if_neg (by rw[Ae];simp;omega),Ays (fun k hk=>by simp;omega)]
   rfl
theorem Bze(h1:1≤ch)(h6:ch≤6)(hm:x.length %ch=0)(hl2:x.length≤4000):Bg0 (ch:Int) x=some (mx ch x,0):=by
 have hlen:=Aln ch x
 have h:=Bf6 ch x h1 h6 hm hl2 x.length 0 FUEL (by simp) (by omega) (by omega) (by have:=Al;omega)
 rw[Bg0,Bai,Br5 ch x h1 h6 hm hl2,Aa,if_neg (by rw[Ah];simp),Cv,Ce (by simp;omega),Aa,Aa,List.nil_append,Awn]
 rw[Aw1 hlen.symm (fun k _=>by simp)]at h
 exact h
end
theorem Cbs(a:Int32):Ax6 a=some (Awv a):=by
 have h:=Xa a
 have hc:(Af a:UInt32)=UInt32.ofNat (a.toInt %4294967296).toNat:=rfl
 have hs:(Bi a (GI.toZ (31:UInt64)).toNat)=if 0≤a.toInt then(0:Int32)else -1:=by
  have e:Bi a 31=Int32.ofInt (a.toInt.fdiv (2^31)):=rfl
  rw[show(GI.toZ (31:UInt64)).toNat=31 from rfl,e]
  by_cases h0:0≤a.toInt
  ·rw[if_pos h0,show a.toInt.fdiv (2^31)=0 by rw[Int.fdiv_eq_ediv_of_nonneg _ (by decide)];omega];rfl
  ·rw[if_neg h0,show a.toInt.fdiv (2^31)= -1 by rw[Int.fdiv_eq_ediv_of_nonneg _ (by decide)];omega];rfl
 rw[Ax6,hs,hc,Awv]
 congr 1
 have hsh:(Cp (UInt32.ofNat (a.toInt %4294967296).toNat) (GI.toZ (1:UInt64)).toNat).toNat=2*(a.toInt %4294967296).toNat %4294967296:=by
  rw[show(GI.toZ (1:UInt64)).toNat=1 from rfl,Av0,UInt32.toNat_ofNat',Nat.mod_eq_of_lt (show(a.toInt %4294967296).toNat<2^32 by omega)]
  omega
 by_cases h0:0≤a.toInt
 ·rw[if_pos h0,if_pos h0,show(Af (0:Int32):UInt32)=0 from rfl]
  apply UInt32.toNat_inj.1
  rw[show∀z:UInt32,Sy z (0:UInt32)=z^^^0 from fun z=>by rw[Arr],UInt32.toNat_xor,hsh,UInt32.toNat_ofNat',Nat.mod_eq_of_lt (show 2*a.toInt.toNat<2^32 by omega)]
  show _^^^0=_
  rw[Nat.xor_zero];omega
 ·rw[if_neg h0,if_neg h0,show(Af (-1:Int32):UInt32)=4294967295 from rfl]
  apply UInt32.toNat_inj.1
  rw[show∀z:UInt32,Sy z (4294967295:UInt32)=z^^^4294967295 from fun z=>by rw[Arr],UInt32.toNat_xor,hsh,UInt32.toNat_ofNat',Nat.mod_eq_of_lt (show 2*(-a.toInt-1).toNat+1<2^32 by omega)]
  show _^^^4294967295=_
  have key:∀n:Nat,n<4294967296→n^^^4294967295=4294967295-n:=by
   intro n hn
   have:=BitVec.toNat_not (x:=BitVec.ofNat 32 n)
   rw[←BitVec.xor_allOnes,BitVec.toNat_xor,BitVec.toNat_ofNat,Nat.mod_eq_of_lt (by omega)]at this
   simpa using this
  rw[key _ (by omega)]
  omega
theorem Cen{bits:Int}(h:BitsOk bits){t p:List Int32}(hF:OkF (sB bits) t p)(last x:Int32):
  Ti bits last (sB bits) t p x=some (Bgj bits (last,t,p) x,bits,x,sB bits,lrn t p (Bgj bits (last,t,p) x),(x-gs (shB bits) last)::p.take 15,0):=by
 rw[Ti,Blc h,Aa,if_neg (by rw[Ah];simp),Cdm h,Aa]
 simp only
 rw[Am0,Ao3,Bqd hF,Aa]
 simp only
 rw[if_neg (by rw[Ah];simp),Am0,Amk,Bp7 hF,Aa]
 simp only
 rw[Bxj (s:=sB bits) (t:=lrn t p _) (p:=p) ⟨hF.1,Ab3 _ _ _,hF.2.2⟩,Aa,Aa]
 rfl
end Go.Pl
set_option linter.unusedVariables false
set_option linter.unusedSimpArgs false
namespace Go.Pl
open Go Go.Lv
theorem Bj8(bits:Int)(ch:Nat)(t x:List Int32):(Ju bits ch t x).length=x.length:=Aya _ _ _ _ _
theorem Ccf{bits:Int}{ch:Nat}{t x:List Int32}{i:Nat}(h:i<x.length):(Ju bits ch t x).getD i 0=Awv (Bgj bits (cst bits ch t (Ju bits ch t x) (i %ch) i) ((mx ch x).getD i 0)):=by
 obtain⟨w,hw⟩:=Bok bits ch t (mx ch x) (x.length-(i+1)) (i+1)
 rw[show i+1+(x.length-(i+1))=x.length by omega,evl,List.append_assoc]at hw
 have hli:=Aya bits ch t (mx ch x) i
 have hw':Ju bits ch t x=_:=hw
 have hg:(Ju bits ch t x).getD i 0=Awv (Bgj bits (cst bits ch t (evl bits ch t (mx ch x) i) (i %ch) i) ((mx ch x).getD i 0)):=by
  rw[hw',List.getD_eq_getElem?_getD,List.getElem?_append_right (by omega),hli,Nat.sub_self];rfl
 have hc:cst bits ch t (Ju bits ch t x) (i %ch) i=cst bits ch t (evl bits ch t (mx ch x) i) (i %ch) i:=by rw[hw',Bv3 _ _ _ _ _ _ _ (by omega)]
 rw[hg,hc]
section
variable {bits:Int} {ch:Nat} {t x:List Int32} (hb:BitsOk bits) (ht:t.length=16) (h1:1≤ch) (h6:ch≤6) (hx1:1≤x.length) (hx4:x.length≤4000) (hm:x.length %ch=0)
include hb ht h1 h6 hx1 hx4 hm
omit ht in
theorem Ckd(hr:inR bits x):Age (ch:Int) bits x=some 0:=by
 rw[Age,Cb9 hb h1 h6,Aa,if_neg (by decide),As7 hb x hx4,Blq hb hx4 hr,Aa,if_neg (by decide),if_neg (by rw[As,Ac,beq_iff_eq];omega),Ba (by rw[Ah];simp;omega),Aa,Ac,Anm,hm,if_neg (by decide)]
omit hm in
theorem Bnd:∀(j i q:Nat),i+j=x.length→j<q→
  Iy (mx ch x) (ch:Int) bits q (i:Int) (cts bits ch t (Ju bits ch t x) i) ((Ju bits ch t x).take i)=some (Ju bits ch t x,0)
 |j,i,0,_,h=>absurd h (Nat.not_lt_zero _)
 |0,i,q+1,hi,_=>by
  have hl:=Aln ch x
  have hV:=Bj8 bits ch t x
  rw[Iy,Ry,if_neg (by rw[Ae,Ac];simp;omega),List.take_of_length_le (by omega)]
  rfl
 |j+1,i,q+1,hi,hq=>by
  have hl:=Aln ch x
  have hV:=Bj8 bits ch t x
  have hc:i %ch<6:=Nat.lt_of_lt_of_le (Nat.mod_lt _ (by omega)) h6
  have hok:=Bps bits ch ht (Ju bits ch t x) (i %ch) i
  have hs:=Bx7 (bits:=bits) (ch:=ch) (t:=t) (v:=Ju bits ch t x) (i:=i) hc rfl
  have hg:=Ccf (bits:=bits) (ch:=ch) (t:=t) (x:=x) (i:=i) (by omega)
  have ih:=Bnd j (i+1) q (by omega) (by omega)
  have htk:(Ju bits ch t x).take i++[(Ju bits ch t x).getD i 0]=(Ju bits ch t x).take (i+1):=by
   have:(Ju bits ch t x).getD i 0=(Ju bits ch t x)[i]'(by omega):=by rw[List.getD_eq_getElem?_getD,List.getElem?_eq_getElem (by omega)];rfl
   rw[this,Ir (by omega)]
  have hfw:=Cen hb hok (cst bits ch t (Ju bits ch t x) (i %ch) i).1 ((mx ch x).getD i 0)
  rw[Iy,Ry,if_pos (by rw[Ae,Ac];simp;omega),g32 (by omega),Aa,Aa,Ba (by rw[Ah];simp;omega),Aa,Anm,Bwv hc,Aa,Aa]
  refine Eq.trans (congrArg (fun o=>Option.bind o _) hfw) ?_
  rw[Aa]
  simp only
  rw[if_neg (by decide)]
  have hst:((bits,(mx ch x).getD i 0,(sB bits,lrn (cst bits ch t (Ju bits ch t x) (i %ch) i).2.1 (cst bits ch t (Ju bits ch t x) (i %ch) i).2.2 (Bgj bits (cst bits ch t (Ju bits ch t x) (i %ch) i) ((mx ch x).getD i 0)),((mx ch x).getD i 0-gs (shB bits) (cst bits ch t (Ju bits ch t x) (i %ch) i).1)::(cst bits ch t (Ju bits ch t x) (i %ch) i).2.2.take 15,()),()):CL)=toC bits (Bm7 bits (cst bits ch t (Ju bits ch t x) (i %ch) i) (Anf ((Ju bits ch t x).getD i 0))):=by
   rw[hg,Cd6,toC,Bm7,Blp]
   simp only
   rw[Bgj,Ao2]
  refine Eq.trans (congrArg (fun o=>Option.bind o _) ((congrArg (fun z=>Jj (cts bits ch t (Ju bits ch t x) i) ((i %ch:Nat):Int) z) hst).trans hs)) ?_
  rw[Aa,Cbs,Aa]
  have hg2:Awv (Bgj bits ((cst bits ch t (Ju bits ch t x) (i %ch) i).1,(cst bits ch t (Ju bits ch t x) (i %ch) i).2.1,(cst bits ch t (Ju bits ch t x) (i %ch) i).2.2) ((mx ch x).getD i 0))=(Ju bits ch t x).getD i 0:=hg.symm
  rw[hg2,Ce (by rw[List.length_take];simp;omega),Aa,htk,Ag (by omega) (by omega)]
  exact ih
theorem Bve(hr:inR bits x):Abl (ch:Int) bits t x=some (Ju bits ch t x,0):=by
 have hl:=Aln ch x
 have h:=Bnd hb ht h1 h6 hx1 hx4 x.length 0 FUEL (by omega) (by have:=Al;omega)
 have e:FUEL=(FUEL-7)+1+1+1+1+1+1+1:=by have:=Al;omega
 have hs:Um (ch:Int) bits t (mx ch x) 0 (List.replicate 6 ((0:Int),(0:Int32),((0:Int),(List.replicate 16 (0:Int32)),(List.replicate 16 (0:Int32)),()),()))=Ac9 (ch:Int) bits (mx ch x) (cts bits ch t (Ju bits ch t x) 0):=by
  rw[Um,e]
  obtain rfl|rfl|rfl:=hb<;>rfl
 rw[Abl,Ab0,Ckd hb h1 h6 hx1 hx4 hm hr,Aa,if_neg (by decide),Bze ch x h1 h6 hm hx4,Aa]
 simp only
 rw[if_neg (by decide)]
 refine Eq.trans hs ?_
 exact h
end
theorem Bt2(ch:Nat):Aa9=some (sts ch []):=by
 have e:FUEL=(FUEL-7)+1+1+1+1+1+1+1:=by have:=Al;omega
 rw[Aa9,Abu,Abq,e]
 rfl
theorem Bri(c:List Bool){n:Nat}(h:n≤c.length):Nt (Jd c) 0 n=Jd (c.take n):=by
 have hl:(c.take n).length=n:=by rw[List.length_take];omega
 apply Bqz (by rw[Hg,Wf,hl])
 intro i hi
 rw[Bbi,Nat.zero_add,Aa3,Aa3]
 by_cases hlt:i<n
 ·rw[if_pos hlt,tb,tb,List.getD_eq_getElem?_getD,List.getD_eq_getElem?_getD,List.getElem?_take,if_pos hlt]
 ·rw[if_neg hlt,Bpi (by omega)]
theorem Ck1(a:UInt8){k:Nat}(hk:k<8):Dc (Bi a k) (1:UInt8)=UInt8.ofNat (a.toNat/2^k %2):=by
 apply UInt8.toNat_inj.1
 rw[Byn,UInt8.toNat_and,Bpv,UInt8.toNat_ofNat']
 show _&&&1=_
 rw[Nat.and_one_is_mod]
 generalize a.toNat/2^k=X
 omega
theorem Bth(E code:List Bool)(hE:E.length+code.length≤330000)(bk:Int→List (Int×Int×UInt64×UInt64×Unit)→Int→List UInt8→Bc)(V:List UInt32)(b f g:Int)(k:List (Int×Int×UInt64×UInt64×Unit)):∀(j o q:Nat),o+j=code.length→j<q→
  Es bk V b f (code.length:Int) g k (Jd code) q (o:Int) ((E.length+o:Nat):Int) (Nt (Jd (E++code)) 0 (E.length+o))=bk (Ad g 1) k ((E.length+code.length:Nat):Int) (Jd (E++code))
 |j,o,0,_,h=>absurd h (Nat.not_lt_zero _)
 |0,o,q+1,ho,_=>by
  obtain rfl:o=code.length:=by omega
  rw[Es,Sa,if_neg (by rw[Ae];simp),Zj,Anl,Bri _ (by rw[List.length_append];omega),List.take_of_length_le (by rw[List.length_append];omega)]
 |j+1,o,q+1,ho,hq=>by
  generalize hP:Jd (E++code)=P
  have hPo:Fh P (E.length+o)=Fh (Jd code) o:=by rw[←hP,Aa3,Aa3,Bob]
  have ih:=Bth E code hE bk V b f g k j (o+1) q (by omega) (by omega)
  rw[hP,←Nat.add_assoc]at ih
  generalize hn:E.length+o=n at*
  have hq8:Bt (n:Int) 8=((n/8:Nat):Int):=by rw[show(8:Int)=((8:Nat):Int)from rfl,Ba0 (by omega)]
  have hr8:Fc (n:Int) 8=((n %8:Nat):Int):=by rw[show(8:Int)=((8:Nat):Int)from rfl,Anm]
  have hqo:Bt (o:Int) 8=((o/8:Nat):Int):=by rw[show(8:Int)=((8:Nat):Int)from rfl,Ba0 (by omega)]
  have hro:Fc (o:Int) 8=((o %8:Nat):Int):=by rw[show(8:Int)=((8:Nat):Int)from rfl,Anm]
  have hroom:Es bk V b f (code.length:Int) g k (Jd code) (q+1) (o:Int) (n:Int) (Nt P 0 n)=Rz (Es bk V b f (code.length:Int) g k (Jd code) q) (code.length:Int) V g b f k (Jd code) (o:Int) (n:Int) (room P 0 n):=by
   rw[Es,Sa,if_pos (by rw[Ae];simp;omega),hr8,room]
   by_cases h0:n %8=0
   ·rw[if_pos (by rw[As,h0];rfl),Ce (by rw[Hg];simp;omega),Aa,if_pos h0]
   ·rw[if_neg (by rw[As];simp;omega),if_neg h0]
  have hcl:=Wf code
  have hgm:getI (Jd code) ((o/8:Nat):Int)=some ((Jd code).getD (o/8) 0):=by
   rw[Bm (by omega),List.getD_eq_getElem?_getD,List.getElem?_eq_getElem (by omega)];rfl
  have hg:getI (room P 0 n) ((n/8:Nat):Int)=some (UInt8.ofNat (Be P (0+8*(n/8)) (n %8))):=by
   rw[Bm (by rw[Mq];omega),Ax3]
  have hbit:Dc (Bi ((Jd code).getD (o/8) 0) (o %8)) (1:UInt8)=UInt8.ofNat (Fh P n):=by
   rw[Ck1 _ (by omega),hPo,Fh]
  have hlt:=Bch P (0+8*(n/8)) (n %8+1) (by omega)
  have hsn:=Ayt P (0+8*(n/8)) (n %8)
  rw[show 0+8*(n/8)+n %8=n by omega]at hsn
  have hnew:gor (UInt8.ofNat (Be P (0+8*(n/8)) (n %8))) (Cp (UInt8.ofNat (Fh P n)) (n %8))=UInt8.ofNat (Be P (0+8*(n/8)) (n %8+1)):=by
   rw[or8 (Mw _ _ _) (by rw[Nat.mul_comm];omega) (by omega),hsn,Nat.mul_comm (2^(n %8))]
  rw[hroom,Rz,Zo,hqo,hro,hq8,hr8,hgm,Aa,Aa,Ba (by rw[Cu];simp;omega),Aa,hg,Aa,Ba (by rw[Cu];simp;omega),Aa,Aa,Aa,
   show(GI.toZ ((o %8:Nat):Int)).toNat=o %8 from rfl,show(GI.toZ ((n %8:Nat):Int)).toNat=n %8 from rfl,hbit,hnew,Qj _ (by rw[Mq];omega),Aa,Bbt P 0 n 1 (by omega) (by omega),Zx,Amx,Ag (by omega) (by omega),Ag (by omega) (by omega)]
  exact ih
theorem Cmz(l m:List UInt8)(h:l.length+m.length≤1000000):Jw [l,m]=some (l++m):=by
 have hF:FUEL=(FUEL-3)+1+1+1:=by have:=Al;omega
 rw[Jw,Ly,Md]
 have g0:getI [l,m] (0:Int)=some l:=rfl
 have g1:getI [l,m] (1:Int)=some m:=rfl
 have l2:Ac [l,m]=2:=rfl
 have h3:Gt [l,m] []=some (l++m):=by
  rw[Gt,Li,Lq,hF,Db,Ej,l2,if_pos (by decide),g0,Aa,Ce (by simp;omega),Aa,List.nil_append,show Ad (0:Int) 1=1 by decide,
   Db,Ej,l2,if_pos (by decide),g1,Aa,Ce (by omega),Aa,show Ad (1:Int) 1=2 by decide,Db,Ej,l2,if_neg (by decide)]
  rfl
 rw[hF,Di,Ex,l2,if_pos (by decide),g0,Aa,Ag (by unfold Ac;omega) (by unfold Ac;omega),if_neg (by rw[Ae,Ac];simp),show Ad (0:Int) 1=1 by decide,
  Di,Ex,l2,if_pos (by decide),g1,Aa,Ag (by unfold Ac;omega) (by unfold Ac;omega),if_neg (by rw[Ae,Ac,Ac];simp;omega),show Ad (1:Int) 1=2 by decide,
  Di,Ex,l2,if_neg (by decide),Lb,Le,if_neg (by rw[Ae,Ac,Ac];simp;omega),Lg,Lf]
 have z:Aj (0:Int) 0=0:=by decide
 have n0:(0:Int)+Ac l+Ac m=((l.length+m.length:Nat):Int):=by simp[Ac]
 rw[z,n0,Az (by omega) (by omega),Int.sub_zero]
 by_cases hp:0<l.length+m.length
 ·rw[if_pos (by rw[Ak];simp;omega),show vwI (0:Int) 0 0=some ()from rfl,Aa,Bcw (by omega) (by omega),Aa,Ce (by simp;omega),Aa]
  rw[show vwI (Ac ([]++List.replicate ((l.length+m.length:Nat):Int).toNat (0:UInt8))) 0 0=some () by rw[vwI,Ba];simp[Ac];omega,Aa]
  simp only[Anw,Int.sub_self,Int.toNat_zero,List.take_zero]
  exact h3
 ·rw[if_neg (by rw[Ak];simp;omega)];exact h3
theorem Bs3(bits:Int)(ch:Nat)(h1:1≤ch)(h6:ch≤6)(V:List UInt32)(hV:V.length≤4000):∀(j i q:Nat),i+j=V.length→j<q→
  Gh V (ch:Int) bits q (i:Int) (sts ch (V.take i)) ((Oo ch V i).length:Int) (Jd (Oo ch V i))=some (Jd (Oo ch V V.length)++Ns (Bz (Jd (Oo ch V V.length))).toNat 4,0)
 |j,i,0,_,h=>absurd h (Nat.not_lt_zero _)
 |0,i,q+1,hi,_=>by
  obtain rfl:i=V.length:=by omega
  have hel:=Avh ch V V.length
  have hpl:=Wf (Oo ch V V.length)
  have hlt:=(Bz (Jd (Oo ch V V.length))).toNat_lt
  rw[Gh,Sd,if_neg (by rw[Ae,Ac];simp),Zk,Alj,Bew _ (by omega),Aa]
  simp only
  have e64:(UInt64.ofNat (Bz (Jd (Oo ch V V.length))).toNat).toNat=(Bz (Jd (Oo ch V V.length))).toNat:=Aoy (by omega)
  rw[if_neg (by decide),Ci,show(4:Int)=((4:Nat):Int)from rfl,Amr _ 4 (by omega) (by omega) (by rw[e64];omega),Aa]
  simp only
  rw[if_neg (by decide),e64,Cmz _ _ (by rw[Bb];omega),Aa]
 |j+1,i,q+1,hi,hq=>by
  have hc:i %ch<6:=Nat.lt_of_lt_of_le (Nat.mod_lt _ (by omega)) h6
  have hvl:(V.take i).length=i:=by rw[List.length_take];omega
  have hel:=Avh ch V i
  have hk:=Bo6 ch (V.take i)
  have hcl:=Aq0 (V.getD i 0) hk.1 hk.2
  have ih:=Bs3 bits ch h1 h6 V hV j (i+1) q (by omega) (by omega)
  have hvi:V.getD i 0=V[i]'(by omega):=by rw[List.getD_eq_getElem?_getD,List.getElem?_eq_getElem (by omega)];rfl
  have htk:V.take i++[V.getD i 0]=V.take (i+1):=by rw[hvi,Ir (by omega)]
  have hst:=Bpf (ch:=ch) (v:=V.take i) hc
  have hset:=Byg (ch:=ch) (v:=V.take i) (V.getD i 0) hc (by rw[hvl])
  have hnow:chP ch (V.take i) (i %ch) (V.take i).length=now ch (V.take i):=Che (by rw[hvl])
  rw[hnow]at hst hset
  rw[htk]at hset
  have hdp:=Cdc (k:=(now ch (V.take i)).1) (l:=(now ch (V.take i)).2.1) (s:=(now ch (V.take i)).2.2.1) (t:=(now ch (V.take i)).2.2.2) (Awr ch (V.take i) _ _) (V.getD i 0)
  have hpc:=Bth (Oo ch V i) (Pa (now ch (V.take i)).1 (now ch (V.take i)).2.1 (V.getD i 0)) (by omega) (Gh V (ch:Int) bits q) V (ch:Int) bits (i:Int) (sts ch (V.take (i+1))) (Pa (now ch (V.take i)).1 (now ch (V.take i)).2.1 (V.getD i 0)).length 0 FUEL (by omega) (by have:=Al;omega)
  rw[show(Oo ch V i).length+0=(Oo ch V i).length from rfl,Bri _ (by rw[List.length_append];omega),List.take_left,show((0:Nat):Int)=0 from rfl]at hpc
  rw[Gh,Sd,if_pos (by rw[Ae,Ac];simp;omega),Bbn (by omega),Aa,Aa,Ba (by rw[Ah];simp;omega),Aa,Anm,hst,Aa,Aa]
  refine Eq.trans (congrArg (fun o=>Option.bind o _) hdp) ?_
  rw[Aa]
  simp only
  rw[if_neg (by decide),Aa,Aa]
  refine Eq.trans (congrArg (fun o=>Option.bind o _) hset) ?_
  rw[Aa]
  refine Eq.trans hpc ?_
  rw[Ag (by omega) (by omega)]
  rw[Oo,List.length_append]at ih
  exact ih
theorem Bpm{bits:Int}{ch:Nat}{t x:List Int32}(hb:BitsOk bits)(ht:t.length=16)(h1:1≤ch)(h6:ch≤6)(hx1:1≤x.length)(hx4:x.length≤4000)(hm:x.length %ch=0)(hr:inR bits x):
  Qo (ch:Int) bits t x=some (Nl bits ch t x,0):=by
 have hV:=Bj8 bits ch t x
 have h:=Bs3 bits ch h1 h6 (Ju bits ch t x) (by omega) (Ju bits ch t x).length 0 FUEL (by omega) (by have:=Al;omega)
 have e0:Jd (Oo ch (Ju bits ch t x) 0)=[]:=by simp[Oo,Jd]
 have e1:((Oo ch (Ju bits ch t x) 0).length:Int)=0:=rfl
 rw[e0,e1,List.take_zero,hV,show((0:Nat):Int)=0 from rfl]at h
 rw[Qo,Ada,Bve hb ht h1 h6 hx1 hx4 hm hr,Aa]
 simp only
 rw[if_neg (by decide),Bt2 ch,Aa,Nl,Ale,Zp]
 exact h
end Go.Pl
set_option linter.unusedVariables false
namespace Go.Pl
open Go Go.Lv
end Go.Pl
set_option linter.unusedVariables false
set_option linter.unusedSimpArgs false
namespace Go.Pl
open Go Go.Lv
end Go.Pl
set_option linter.unusedVariables false
set_option linter.unusedSimpArgs false
namespace Go.Pl
open Go Go.Lv
theorem Ckn{r:Nat}(h1:1≤r)(h:r≤1048576):Ny (r:Int)=some ((longN r:Int),0):=by
 have hv:=Bjn h
 have e:Au (r:Int) 256=Au 256 (r:Int):=by rw[Fb (by omega) (by omega),Fb (by omega) (by omega)];omega
 rw[Ny,if_neg (by simp[Ae,Ak];omega),e]
 have hq:0≤Bt (Au 256 (r:Int)) 245:=by
  have e2:Au 256 (r:Int)=((256*r:Nat):Int):=by rw[Fb (by omega) (by omega)];omega
  rw[e2,show(245:Int)=((245:Nat):Int)from rfl,Ba0 (by omega)];omega
 rw[Bov]at hv
 by_cases hz:Bt (Au 256 (r:Int)) 245=0
 ·rw[if_pos (by rw[As];simpa using hz)]
  rw[hz]at hv
  have:(1:Int)=(longN r:Int):=by omega
  rw[this]
 ·rw[if_neg (by rw[As];simpa using hz)]
  have:Bt (Au 256 (r:Int)) 245=(longN r:Int):=by omega
  rw[this]
end Go.Pl
set_option linter.unusedVariables false
set_option linter.unusedSimpArgs false
namespace Go.Pl
open Go Go.Lv
structure ClipOk (c w r n:Nat) (x:List Int32):Prop where
 ch:1≤c∧c≤6
 bits:BitsOk (w:Int)
 rate:1≤r∧r≤1048576
 cnt:1≤n∧n≤4000/c
 len:x.length=n*c
 fr:(n-1)/longN r+1≤1000
 rng:inR (w:Int) x
theorem ClipOk.le{c w r n:Nat}{x:List Int32}(h:ClipOk c w r n x):n≤4000∧n*c≤4000∧1≤x.length∧x.length≤4000:=by
 have h1:=Nat.mul_le_mul_right c h.cnt.2
 have h2:=Nat.div_mul_le_self 4000 c
 have h3:=Nat.div_le_self 4000 c
 have h4:=Nat.mul_pos h.cnt.1 h.ch.1
 have h5:=h.len
 have:=h.cnt
 omega
theorem ClipOk.w3{c w r n:Nat}{x:List Int32}(h:ClipOk c w r n x):w=8∨w=16∨w=24:=by
 have:=h.bits
 unfold BitsOk at this
 omega
theorem ClipOk.shape{c w r n:Nat}{x:List Int32}(h:ClipOk c w r n x)(f:Nat)(hf:f=1∨f=2):shapeB f c w r n=true:=by
 have:=h.w3
 have:=h.ch
 have:=h.rate
 have:=h.cnt
 simp only[shapeB,decide_eq_true_eq]
 omega
theorem ClipOk.fit{c w r n:Nat}{x:List Int32}(h:ClipOk c w r n x):fitB c r n=true:=by
 have:=h.cnt
 have:=h.fr
 simp only[fitB,decide_eq_true_eq]
 omega
theorem Cmf{bits:Int}(h:BitsOk bits){l:List Int32}(hl:l.length≤4000):cadenzaref18_Check bits l=some 0∨cadenzaref18_Check bits l=some 16:=by
 have hh:=Aky bits
 have key:∀(j i q:Nat),i+j=l.length→j<q→Ao l (hB bits) q (i:Int)=some 0∨Ao l (hB bits) q (i:Int)=some 16:=by
  intro j
  induction j with
  |zero=>
   intro i q hi hq
   obtain⟨q,rfl⟩:∃q',q=q'+1:=⟨q-1,by omega⟩
   rw[Ao,Bv,if_neg (by rw[Ae,Ac];simp;omega)]
   exact .inl rfl
  |succ j ih=>
   intro i q hi hq
   obtain⟨q,rfl⟩:∃q',q=q'+1:=⟨q-1,by omega⟩
   have ih:=ih (i+1) q (by omega) (by omega)
   have hi1:Ad (i:Int) 1=((i+1:Nat):Int):=by rw[Ag (by omega) (by omega)];omega
   rw[Ao,Bv,if_pos (by rw[Ae,Ac];simp;omega),Bm (by omega),Aa,Aa,hi1]
   split
   ·exact .inr rfl
   ·split
    ·exact .inr rfl
    ·exact ih
 have hk:=key l.length 0 FUEL (by omega) (by have:=Al;omega)
 rw[cadenzaref18_Check,Cm,Aoq h,Aa,if_neg (by rw[As];simp;omega),if_neg (by rw[Ak,Ac];simp;omega)]
 exact hk
theorem Bcr{bits:Int}(h:¬BitsOk bits):Hm bits=some 0∧Qt bits=some (0,0,2):=by
 unfold BitsOk at h
 constructor
 ·rw[Hm,if_neg (by rw[As,beq_iff_eq];omega),if_neg (by rw[As,beq_iff_eq];omega),if_neg (by rw[As,beq_iff_eq];omega)]
 ·have e:(geq bits 24)=false:=by rw[As,beq_eq_false_iff_ne];omega
  rw[Qt,Ane,if_neg (by rw[As,beq_iff_eq];omega),if_neg (by rw[As,beq_iff_eq];omega),e,Amz,Awt,if_neg (by decide)]
theorem Bd9{r:Nat}(h:r≤1048576):∀(j n q:Nat) (acc:List Int),n≤4000→n≤j→j<q→acc.length+n≤10000→
  Ho (longN r:Int) q (n:Int) acc=some (if 1000<(acc++(if n=0 then []else framesL (longN r) n)).length then([],4)else(acc++(if n=0 then []else framesL (longN r) n),0))
 |j,n,0,acc,_,_,h,_=>absurd h (Nat.not_lt_zero _)
 |j,n,q+1,acc,hn,hj,hq,ha=>by
  have hp:=Lt r
  by_cases h0:n=0
  ·subst h0
   rw[if_pos rfl,List.append_nil,Ho,Pb,if_neg (by rw[Ak];simp),Xl,Ajm,Ak,Ac]
   by_cases hk:1000<acc.length
   ·rw[if_pos hk,if_pos (by simp;omega)]
   ·rw[if_neg hk,if_neg (by simp;omega)]
  ·obtain⟨j,rfl⟩:∃j',j=j'+1:=⟨j-1,by omega⟩
   rw[Ho,Pb,if_pos (by rw[Ak];simp;omega),Ce (by simp;omega),Aa,Acd]
   by_cases hs:n≤longN r
   ·rw[show min (n:Int) (longN r:Int)=(n:Int) by omega,Az (by omega) (by omega),Int.sub_self]
    have ih:=Bd9 h j 0 q (acc++[(n:Int)]) (by omega) (by omega) (by omega) (by simp;omega)
    rw[if_pos rfl,List.append_nil]at ih
    rw[if_neg h0,Azk hs (by omega)]
    exact ih
   ·rw[show min (n:Int) (longN r:Int)=(longN r:Int) by omega,Az (by omega) (by omega),show(n:Int)-(longN r:Int)=((n-longN r:Nat):Int) by omega]
    have e:acc++framesL (longN r) n=(acc++[(longN r:Int)])++framesL (longN r) (n-longN r):=by rw[Bff hp (show longN r<n by omega)];simp
    have ih:=Bd9 h j (n-longN r) q (acc++[(longN r:Int)]) (by omega) (by omega) (by omega) (by simp;omega)
    rw[if_neg (show ¬n-longN r=0 by omega),←e]at ih
    rw[if_neg h0]
    exact ih
theorem Bvf(C W R:Int)(x:List Int32)(hlen:x.length<4611686018427387904):(Cf C W R x=some 8∧Dh C W R x=some 8)∨
  (∃c w r n:Nat,C=(c:Int)∧W=(w:Int)∧R=(r:Int)∧ClipOk c w r n x∧Cf C W R x=some 0∧Dh C W R x=some 0):=by
 have bad24:∀e:Int,e≠0→Bp C W x=some e→Cf C W R x=some 8:=by
  intro e he h
  rw[Cf,Gj,Aa]
  simp only
  rw[h,Aa,if_pos (by rw[Ah];simpa using he)]
 by_cases hC:C<1
 ·refine .inl ⟨bad24 2 (by decide) ?_,?_⟩
  ·rw[Bp,Cc,if_pos (by simp[Ae,Ak];omega),Aa,if_pos (by decide)]
  ·rw[Dh,if_pos (by rw[Ae];simpa using hC)]
 obtain⟨c,rfl⟩:=Int.eq_ofNat_of_zero_le (show 0≤C by omega)
 have hc1:1≤c:=by omega
 have hq:Bt (Ac x) (c:Int)=((x.length/c:Nat):Int):=by rw[Ac,Ba0 (by omega)]
 have hr0:Fc (Ac x) (c:Int)=((x.length %c:Nat):Int):=by rw[Ac,Anm]
 have Cci:(∀m:Nat,x.length=m*c→Afp (c:Int) W R x (m:Int)=some 8)→Dh (c:Int) W R x=some 8:=by
  intro h
  rw[Dh,if_neg (by rw[Ae];simpa using hC),Ba (by rw[Ah];simp;omega),Aa,hr0]
  by_cases hm:x.length %c=0
  ·have hx:x.length=x.length/c*c:=by have:=Nat.div_add_mod x.length c;rw[hm,Nat.mul_comm]at this;omega
   rw[hm,if_neg (by decide),Aa,hq,h _ hx,Aa,if_pos (by decide)]
  ·rw[if_pos (by rw[Ah];simp;omega)]
 by_cases h6:6<c
 ·refine .inl ⟨bad24 2 (by decide) ?_,Cci fun m hm=>?_⟩
  ·rw[Bp,Cc,if_pos (by simp[Ae,Ak];omega),Aa,if_pos (by decide)]
  ·rw[Afp,Afm,Aa]
   simp only
   have:Ff (c:Int) W=some 2:=by
    rw[Ff]
    by_cases hb:BitsOk W
    ·rw[Bod hb,Aa]
     simp only
     rw[if_pos (by simp[Ah,Ae,Ak];omega)]
    ·rw[(Bcr hb).2,Aa]
     simp only
     rw[if_pos (by simp[Ah])]
   rw[this,Aa,if_pos (by simp[Ah])]
 by_cases hb:BitsOk W
 rotate_left
 ·refine .inl ⟨bad24 2 (by decide) ?_,Cci fun m hm=>?_⟩
  ·rw[Bp,Cc,if_neg (by simp[Ae,Ak];omega),(Bcr hb).1,Aa,if_pos (by decide),Aa,if_pos (by decide)]
  ·rw[Afp,Afm,Aa]
   simp only
   have:Ff (c:Int) W=some 2:=by
    rw[Ff,(Bcr hb).2,Aa]
    simp only
    rw[if_pos (by simp[Ah])]
   rw[this,Aa,if_pos (by simp[Ah])]
 have hhB:=Aky W
 have e20:Cc (c:Int) W=some 0:=by
  rw[Cc,if_neg (by simp[Ae,Ak];omega),Aoq hb,Aa,if_neg (by rw[As];simp;omega)]
 have hq4:=Bgp hc1 (show c≤6 by omega)
 have ecf:=Cb9 hb hc1 (show c≤6 by omega)
 have headQ:∀m:Nat,Afp (c:Int) W R x (m:Int)=if m<1∨4000/c<m then some 8 else Option.bind (Gw R (m:Int)) fun y=>if(Ay y.2 0)=true then some 8 else some 0:=by
  intro m
  rw[Afp,Afm,Aa]
  simp only
  rw[ecf,Aa]
  by_cases hm:m<1
  ·rw[if_pos (by simp[Ah,Ae];omega),if_pos (.inl hm)]
  ·rw[if_neg (by simp[Ah,Ae];omega),Ba (by rw[Ah];simp;omega),Aa,hq4]
   by_cases hm2:4000/c<m
   ·rw[if_pos (by rw[Ak,decide_eq_true_eq,gt_iff_lt,Int.ofNat_lt];exact hm2),if_pos (.inr hm2)]
   ·rw[if_neg (by rw[Ak,decide_eq_true_eq,gt_iff_lt,Int.ofNat_lt];exact hm2),if_neg (by omega)]
 by_cases hx4:4000<x.length
 ·refine .inl ⟨bad24 4 (by decide) ?_,Cci fun m hm=>?_⟩
  ·have:cadenzaref18_Check W x=some 4:=by
    rw[cadenzaref18_Check,Cm,Aoq hb,Aa,if_neg (by rw[As];simp;omega),if_pos (by rw[Ak,Ac];simp;omega)]
   rw[Bp,e20,Aa,if_neg (by decide),this,Aa,if_pos (by decide),Aa]
  ·rw[headQ,if_pos]
   refine .inr ?_
   rw[Nat.div_lt_iff_lt_mul (by omega)]
   omega
 have hx4:x.length≤4000:=by omega
 have hsame:=As7 hb x hx4
 rcases Cmf hb hx4 with h18|h18
 rotate_left
 ·refine .inl ⟨bad24 16 (by decide) ?_,?_⟩
  ·rw[Bp,e20,Aa,if_neg (by decide),h18,Aa,if_pos (by decide),Aa]
  ·rw[Dh,if_neg (by rw[Ae];simpa using hC),Ba (by rw[Ah];simp;omega),Aa,hr0]
   by_cases hm:x.length %c=0
   ·rw[hm,if_neg (by decide),Aa,hq,headQ]
    split
    ·rw[Aa,if_pos (by decide)]
    ·rename_i hh
     by_cases hR:1≤R∧R≤1048576
     ·obtain⟨r,rfl⟩:=Int.eq_ofNat_of_zero_le (show 0≤R by omega)
      have hd:=Nat.div_le_self x.length c
      rw[Ass (by omega) (by omega) (by omega) (by omega),Aa]
      split
      ·rw[if_pos (by decide),Aa,if_pos (by decide)]
      ·rw[if_neg (by simp[Ah]),Aa,if_neg (by decide),hsame,h18,Aa,if_pos (by decide)]
     ·rw[Gw,Re,if_pos (by simp[Ae,Ak];omega),Aa]
      simp only
      rw[if_pos (by decide),Aa]
      simp only
      rw[if_pos (by decide),Aa,if_pos (by decide)]
   ·rw[if_pos (by rw[Ah];simp;omega)]
 by_cases hx1:x.length<1
 ·refine .inl ⟨bad24 2 (by decide) ?_,Cci fun m hm=>?_⟩
  ·rw[Bp,e20,Aa,if_neg (by decide),h18,Aa,if_neg (by decide),if_pos (by rw[Ae,Ac];simp;omega)]
  ·have h0:m*c=0:=by omega
   have:m=0:=by rcases Nat.mul_eq_zero.1 h0 with h|h<;>omega
   rw[headQ,if_pos (.inl (by omega))]
 have hA:x.length %c=0→Bp (c:Int) W x=some 0:=by
  intro hm
  rw[Bp,e20,Aa,if_neg (by decide),h18,Aa,if_neg (by decide),if_neg (by rw[Ae,Ac];simp;omega),Ba (by rw[Ah];simp;omega),Aa,hr0,hm,if_neg (by decide)]
 by_cases hm:x.length %c=0
 rotate_left
 ·refine .inl ⟨bad24 2 (by decide) ?_,?_⟩
  ·rw[Bp,e20,Aa,if_neg (by decide),h18,Aa,if_neg (by decide),if_neg (by rw[Ae,Ac];simp;omega),Ba (by rw[Ah];simp;omega),Aa,hr0,if_pos (by rw[Ak];simp;omega)]
  ·rw[Dh,if_neg (by rw[Ae];simpa using hC),Ba (by rw[Ah];simp;omega),Aa,hr0,if_pos (by rw[Ah];simp;omega)]
 have hxn:x.length=x.length/c*c:=by have:=Nat.div_add_mod x.length c;rw[hm,Nat.mul_comm]at this;omega
 generalize hN:x.length/c=n at*
 have hn1:1≤n:=by
  by_cases h0:n=0
  ·rw[h0]at hxn;omega
  ·omega
 have hn4:n≤4000/c:=by rw[←hN];exact Nat.div_le_div_right hx4
 have hn4':n≤4000:=Nat.le_trans hn4 (Nat.div_le_self _ _)
 have e21:Ck (c:Int) W (n:Int)=some 0:=by
  rw[Ck,e20,Aa,if_neg (by simp[Ah,Ae];omega),Ba (by rw[Ah];simp;omega),Aa,hq4,if_neg (by rw[Ak,decide_eq_true_eq,gt_iff_lt,Int.ofNat_lt];omega)]
 have goal24:∀z e:Int,Is R (n:Int)=some (z,e)→Cf (c:Int) W R x=some (if e=0 then 0 else 8):=by
  intro z e hz
  rw[Cf,Gj,Aa]
  simp only
  rw[hA hm,Aa,if_neg (by decide),Ba (by rw[Ah];simp;omega),Aa,hq,Ads,Gj,Aa]
  simp only
  rw[e21,Aa,if_neg (by decide),hz,Aa,Aa,As]
  by_cases he:e=0
  ·subst he;rfl
  ·rw[if_neg he,if_pos (by simpa using he)]
 have goalP:Dh (c:Int) W R x=Option.bind (Option.bind (Gw R (n:Int)) fun y=>if(Ay y.2 0)=true then some 8 else some 0) fun g=>if(Ay g 0)=true then some g else some 0:=by
  rw[Dh,if_neg (by rw[Ae];simpa using hC),Ba (by rw[Ah];simp;omega),Aa,hr0,hm,if_neg (by decide),Aa,hq,headQ,if_neg (by omega),hsame,h18]
  rfl
 by_cases hR:1≤R∧R≤1048576
 rotate_left
 ·refine .inl ⟨?_,?_⟩
  ·refine goal24 0 2 ?_
   rw[Is,Wp,Pn,Ny,if_pos (by simp[Ae,Ak];omega),Aa]
   simp only
   rw[if_pos (by simp[Ah]),Aa]
   rfl
  ·rw[goalP,Gw,Re,if_pos (by simp[Ae,Ak];omega),Aa]
   simp only
   rw[if_pos (by decide),Aa]
   simp only
   rw[if_pos (by decide),Aa,if_pos (by decide)]
 obtain⟨r,rfl⟩:=Int.eq_ofNat_of_zero_le (show 0≤R by omega)
 have hl:=Bd9 (r:=r) (by omega) n n FUEL [] hn4' (Nat.le_refl _) (by have:=Al;omega) (by simp;omega)
 rw[if_neg (show ¬n=0 by omega),List.nil_append,Uw]at hl
 have hcount:∃z:Int,Is (r:Int) (n:Int)=some (z,if 1000<(n-1)/longN r+1 then 4 else 0):=by
  rw[Is,Wp,Pn,Ckn (by omega) (by omega),Aa]
  simp only
  rw[if_neg (by simp[Ah,Ae,Ak];omega),Xi,hl,Aa]
  split<;>exact⟨_,rfl⟩
 obtain⟨z,hz⟩:=hcount
 have h24:=goal24 z _ hz
 rw[Ass (by omega) (by omega) hn1 hn4',Aa]at goalP
 by_cases hk:1000<(n-1)/longN r+1
 ·rw[if_pos hk]at h24 goalP
  exact .inl ⟨h24,goalP⟩
 ·rw[if_neg hk]at h24 goalP
  have hw:∃w:Nat,W=(w:Int):=by
   rcases hb with rfl|rfl|rfl
   ·exact⟨8,rfl⟩
   ·exact⟨16,rfl⟩
   ·exact⟨24,rfl⟩
  obtain⟨w,rfl⟩:=hw
  exact .inr ⟨c,w,r,n,rfl,rfl,rfl,⟨⟨hc1,by omega⟩,hb,by omega,⟨hn1,hn4⟩,hxn,by omega,Ayl hb hx4 h18⟩,h24,goalP⟩
theorem Bz5(C W R:Int){x:List Int32}(h:4000<x.length):Cf C W R x=some 8:=by
 have key:∃e:Int,e≠0∧Bp C W x=some e:=by
  rw[Bp,Cc]
  by_cases h1:((Bn C 1)||(Fi C 6))=true
  ·rw[if_pos h1,Aa,if_pos (by decide)];exact⟨2,by decide,rfl⟩
  ·rw[if_neg h1]
   by_cases hb:BitsOk W
   ·have hh:=Aky W
    have h18:cadenzaref18_Check W x=some 4:=by
     rw[cadenzaref18_Check,Cm,Aoq hb,Aa,if_neg (by rw[As];simp;omega),if_pos (by rw[Ak,Ac];simp;omega)]
    rw[Aoq hb,Aa,if_neg (by rw[As];simp;omega),Aa,if_neg (by decide),h18,Aa,if_pos (by decide),Aa]
    exact⟨4,by decide,rfl⟩
   ·rw[(Bcr hb).1,Aa,if_pos (by decide),Aa,if_pos (by decide)]
    exact⟨2,by decide,rfl⟩
 obtain⟨e,he,h1⟩:=key
 rw[Cf,Gj,Aa]
 simp only
 rw[h1,Aa,if_pos (by rw[Ah];simpa using he)]
theorem Brs(C W R:Int)(x:List Int32):(Cf C W R x=some 8∧(x.length<4611686018427387904→Dh C W R x=some 8))∨
  (∃c w r n:Nat,C=(c:Int)∧W=(w:Int)∧R=(r:Int)∧ClipOk c w r n x∧Cf C W R x=some 0∧Dh C W R x=some 0):=by
 by_cases hx:x.length<4611686018427387904
 ·rcases Bvf C W R x hx with⟨h1,h2⟩|h
  ·exact .inl ⟨h1,fun _=>h2⟩
  ·exact .inr h
 ·exact .inl ⟨Bz5 C W R (by omega),fun h=>absurd h hx⟩
end Go.Pl
set_option linter.unusedVariables false
set_option linter.unusedSimpArgs false
namespace Go.Pl
open Go Go.Lv
def Ay3(f c w r n:Nat):List UInt8:=Nb++Ns f 2++Ns c 2++Ns w 2++Ns r 4++Ns n 4
def hdrB(f c w r n:Nat):List UInt8:=Ay3 f c w r n++Ns (Bz (Ay3 f c w r n)).toNat 4
theorem Arm(f c w r n:Nat):(Ay3 f c w r n).length=18:=by simp only[Ay3,Nb,List.length_append,Bb];rfl
theorem Ib(f c w r n:Nat):(hdrB f c w r n).length=22:=by rw[hdrB,List.length_append,Arm,Bb]
theorem Bhr(b f g h k:Int)(m v w q:Nat)(a:List UInt8)(hm:m<5)(hv:getI ([b,f,g,h,k]:List Int) (m:Int)=some (v:Int))(hw:getI ([2,2,2,4,4]:List Int) (m:Int)=some (w:Int))(h1:1≤w)(h8:w≤8)(hlt:v<256^w)(h64:v<18446744073709551616)(ha:a.length≤100):
  Kn b f g h k (q+1) (m:Int) a=Kn b f g h k q ((m+1:Nat):Int) (a++Ns v w):=by
 have e64:(UInt64.ofNat v).toNat=v:=Aoy (by omega)
 have hi1:Ad (m:Int) 1=((m+1:Nat):Int):=by rw[Ag (by omega) (by omega)];omega
 rw[Kn,Yq,if_pos (by rw[Ae];simp;omega),hv,Aa,hw,Aa,Te,Amr _ w h1 h8 (by rw[e64];exact hlt),Aa]
 simp only
 rw[Ce (by rw[Bb];omega),Aa,hi1,e64]
theorem Bnt{f c w r n:Nat}(h1:shapeB f c w r n=true)(h2:fitB c r n=true):Aki (f:Int) (c:Int) (w:Int) (r:Int) (n:Int)=some (hdrB f c w r n,0):=by
 have hs:(f=1∨f=2)∧(1≤c∧c≤6)∧(w=8∨w=16∨w=24)∧(1≤r∧r≤1048576)∧1≤n:=by simpa only[shapeB,decide_eq_true_eq]using h1
 have hn:n≤4000:=by
  simp only[fitB,decide_eq_true_eq]at h2
  have:=Nat.div_le_self 4000 c
  omega
 have hck:Rn (f:Int) (c:Int) (w:Int) (r:Int) (n:Int)=some 0:=by
  rw[Rn,Awz,Aa,h1,if_neg (by decide),Be2 h1,Aa,h2,if_neg (by decide)]
 have hF:FUEL=(FUEL-6)+1+1+1+1+1+1:=by have:=Al;omega
 have hlt:=(Bz (Ay3 f c w r n)).toNat_lt
 have e64:(UInt64.ofNat (Bz (Ay3 f c w r n)).toNat).toNat=(Bz (Ay3 f c w r n)).toNat:=Aoy (by omega)
 have hfin:Yr (Ay3 f c w r n)=some (hdrB f c w r n,0):=by
  rw[Yr,Auh,Bew _ (by rw[Arm];omega),Aa]
  simp only
  rw[Ci,show(4:Int)=((4:Nat):Int)from rfl,Amr _ 4 (by omega) (by omega) (by rw[e64];omega),Aa]
  simp only
  rw[Ce (by rw[Arm,Bb];omega),Aa,e64]
  rfl
 rw[Aki,Ajc,hck,Aa,if_neg (by decide),Air,hF]
 have s0:=Bhr (f:Int) (c:Int) (w:Int) (r:Int) (n:Int) 0 f 2 ((FUEL-6)+1+1+1+1+1) Nb (by omega) rfl rfl (by omega) (by omega) (by omega) (by omega) (by decide)
 have s1:=Bhr (f:Int) (c:Int) (w:Int) (r:Int) (n:Int) 1 c 2 ((FUEL-6)+1+1+1+1) (Nb++Ns f 2) (by omega) rfl rfl (by omega) (by omega) (by omega) (by omega) (by simp[Bb,Nb])
 have s2:=Bhr (f:Int) (c:Int) (w:Int) (r:Int) (n:Int) 2 w 2 ((FUEL-6)+1+1+1) (Nb++Ns f 2++Ns c 2) (by omega) rfl rfl (by omega) (by omega) (by omega) (by omega) (by simp[Bb,Nb])
 have s3:=Bhr (f:Int) (c:Int) (w:Int) (r:Int) (n:Int) 3 r 4 ((FUEL-6)+1+1) (Nb++Ns f 2++Ns c 2++Ns w 2) (by omega) rfl rfl (by omega) (by omega) (by omega) (by omega) (by simp[Bb,Nb])
 have s4:=Bhr (f:Int) (c:Int) (w:Int) (r:Int) (n:Int) 4 n 4 ((FUEL-6)+1) (Nb++Ns f 2++Ns c 2++Ns w 2++Ns r 4) (by omega) rfl rfl (by omega) (by omega) (by omega) (by omega) (by simp[Bb,Nb])
 refine s0.trans (s1.trans (s2.trans (s3.trans (s4.trans ?_))))
 rw[Kn,Yq,if_neg (by decide)]
 exact hfin
def Aiz(l:List Int):List UInt8:=l.flatMap fun x=>Ns x.toNat 4
def tblB(l:List Int):List UInt8:=Aiz l++Ns (Bz (Aiz l)).toNat 4
theorem Agr(l:List Int):(Aiz l).length=4*l.length:=by
 induction l with
 |nil=>rfl
 |cons x l ih=>rw[Aiz,List.flatMap_cons,List.length_append,Bb,show(l.flatMap fun x=>Ns x.toNat 4)=Aiz l from rfl,ih,List.length_cons];omega
theorem Akz(l:List Int):(tblB l).length=4*l.length+4:=by rw[tblB,List.length_append,Agr,Bb]
theorem Cau(l:List Int)(x:Int):Aiz (l++[x])=Aiz l++Ns x.toNat 4:=by simp[Aiz]
theorem Bfn(l:List Int)(hl:l.length≤1000)(h5:∀x∈l,5≤x∧x≤100000):∀(j i q:Nat),i+j=l.length→j<q→Pr l q (i:Int) (Aiz (l.take i))=some (tblB l,0)
 |j,i,0,_,h=>absurd h (Nat.not_lt_zero _)
 |0,i,q+1,hi,_=>by
  have hlt:=(Bz (Aiz l)).toNat_lt
  have e64:(UInt64.ofNat (Bz (Aiz l)).toNat).toNat=(Bz (Aiz l)).toNat:=Aoy (by omega)
  rw[Pr,Adz,if_neg (by rw[Ae,Ac];simp;omega),List.take_of_length_le (by omega),Ain,Ai1,Bew _ (by rw[Agr];omega),Aa]
  simp only
  rw[Ci,show(4:Int)=((4:Nat):Int)from rfl,Amr _ 4 (by omega) (by omega) (by rw[e64];omega),Aa]
  simp only
  rw[Ce (by rw[Agr,Bb];omega),Aa,e64]
  rfl
 |j+1,i,q+1,hi,hq=>by
  have ih:=Bfn l hl h5 j (i+1) q (by omega) (by omega)
  obtain⟨x5,x6⟩:=h5 l[i] (List.getElem_mem _)
  obtain⟨v,hv⟩:=Int.eq_ofNat_of_zero_le (show 0≤l[i] by omega)
  have e64:(UInt64.ofNat v).toNat=v:=Aoy (by omega)
  have hi1:Ad (i:Int) 1=((i+1:Nat):Int):=by rw[Ag (by omega) (by omega)];omega
  rw[Pr,Adz,if_pos (by rw[Ae,Ac];simp;omega),Bm (by omega),Aa,hv,Te,show(4:Int)=((4:Nat):Int)from rfl,Amr _ 4 (by omega) (by omega) (by rw[e64];omega),Aa]
  simp only
  rw[Ce (by rw[Agr,Bb,List.length_take];omega),Aa,Ai0,Auc,hi1,e64]
  rw[Ir (by omega),Cau,hv,Int.toNat_natCast]at ih
  exact ih
theorem Br3(l:List Int):Aof l=some (if tabB l=true then(tblB l,0)else([],8)):=by
 rw[Aof,Alb,Av5,Aa]
 by_cases h:tabB l=true
 ·rw[if_pos h,if_pos h,if_neg (by decide)]
  simp only[tabB,Bool.and_eq_true,decide_eq_true_eq]at h
  obtain⟨⟨h1,h2⟩,h3⟩:=h
  have h4:=(Atf l 100000 (by omega)).1 h3
  have h6:=Bhd h4.1
  have hl:=Bfn l h2 (fun x hx=>⟨h4.1 x hx,by have:=h6 x hx;omega⟩) l.length 0 FUEL (by omega) (by have:=Al;omega)
  exact hl
 ·rw[if_neg h,if_neg h,if_pos (by decide)]
theorem Blx(l:List LB)(hl:l.length≤100000)(hf:l.flatten.length≤1000000):∀(j i q:Nat),i+j=l.length→j<q→Pp l q (i:Int) (l.take i).flatten=some l.flatten
 |j,i,0,_,h=>absurd h (Nat.not_lt_zero _)
 |0,i,q+1,hi,_=>by
  rw[Pp,Acs,if_neg (by rw[Ae,Ac];simp;omega),List.take_of_length_le (by omega)]
  rfl
 |j+1,i,q+1,hi,hq=>by
  have ih:=Blx l hl hf j (i+1) q (by omega) (by omega)
  have hi1:Ad (i:Int) 1=((i+1:Nat):Int):=by rw[Ag (by omega) (by omega)];omega
  have hsn:(l.take (i+1)).flatten=(l.take i).flatten++l[i]:=by rw[Ir (by omega),List.flatten_append];simp
  have hsp:l.flatten=(l.take (i+1)).flatten++(l.drop (i+1)).flatten:=by rw[←List.flatten_append,List.take_append_drop]
  have hle:((l.take i).flatten).length+(l[i]).length≤1000000:=by
   rw[hsp,List.length_append,hsn,List.length_append]at hf;omega
  rw[Pp,Acs,if_pos (by rw[Ae,Ac];simp;omega),Bm (by omega),Aa,Ce (by omega),Aa,hi1,←hsn]
  exact ih
theorem join_eq(l:List LB)(hl:l.length≤100000)(hf:l.flatten.length≤1000000):Axb l=some l.flatten:=by
 have h:=Blx l hl hf l.length 0 FUEL (by omega) (by have:=Al;omega)
 exact h
def Zs(c:Nat):List Int32→List Int→List (List Int32)
 |_,[]=>[]
 |x,m::l=>x.take (m.toNat*c)::Zs c (x.drop (m.toNat*c)) l
theorem Baa(c:Nat):∀(l:List Int) (x:List Int32),(Zs c x l).length=l.length
 |[],x=>rfl
 |m::l,x=>by rw[Zs,List.length_cons,List.length_cons,Baa c l]
theorem Bfh(c:Nat):∀(l:List Int) (x:List Int32),(∀m∈l,0≤m)→x.length=l.sum.toNat*c→(Zs c x l).flatten=x
 |[],x,_,h=>by
  have:x=[]:=List.eq_nil_of_length_eq_zero (by simpa using h)
  rw[this];rfl
 |m::l,x,h0,h=>by
  have hm:=h0 m List.mem_cons_self
  have hl:0≤l.sum:=by
   have:∀l:List Int,(∀m∈l,0≤m)→0≤l.sum:=by
    intro l
    induction l with
    |nil=>intro _;simp
    |cons a l ih=>intro h;have:=ih (fun m hm=>h m (List.mem_cons_of_mem _ hm));have:=h a List.mem_cons_self;rw[List.sum_cons];omega
   exact this l fun m hm=>h0 m (List.mem_cons_of_mem _ hm)
  rw[List.sum_cons,show(m+l.sum).toNat=m.toNat+l.sum.toNat by omega,Nat.add_mul]at h
  have ih:=Bfh c l (x.drop (m.toNat*c)) (fun m hm=>h0 m (List.mem_cons_of_mem _ hm)) (by rw[List.length_drop];omega)
  rw[Zs,List.flatten_cons,ih,List.take_append_drop]
theorem Azf(c:Nat)(x:List Int32)(hx:x.length≤4000):∀(l:List Int) (a:Nat),(∀m∈l,1≤m)→a+l.sum.toNat*c=x.length→Ou (c:Int) x l (a:Int)=some (Zs c (x.drop a) l)
 |[],a,_,_=>rfl
 |m::l,a,h1,ha=>by
  have hm:=h1 m List.mem_cons_self
  have hl:=h1
  have hs:0≤l.sum:=by
   have:∀l:List Int,(∀m∈l,1≤m)→0≤l.sum:=by
    intro l
    induction l with
    |nil=>intro _;simp
    |cons a l ih=>intro h;have:=ih (fun m hm=>h m (List.mem_cons_of_mem _ hm));have:=h a List.mem_cons_self;rw[List.sum_cons];omega
   exact this l fun m hm=>h1 m (List.mem_cons_of_mem _ hm)
  obtain⟨k,rfl⟩:=Int.eq_ofNat_of_zero_le (show 0≤m by omega)
  rw[List.sum_cons,show((k:Int)+l.sum).toNat=k+l.sum.toNat by omega,Nat.add_mul]at ha
  have hkc:Au (k:Int) (c:Int)=((k*c:Nat):Int):=by rw[Fb (by rw[←Int.natCast_mul];omega) (by rw[←Int.natCast_mul];omega),←Int.natCast_mul]
  have hadd:Ad (a:Int) ((k*c:Nat):Int)=((a+k*c:Nat):Int):=by rw[Ag (by omega) (by omega)];omega
  have ih:=Azf c x hx l (a+k*c) (fun m hm=>h1 m (List.mem_cons_of_mem _ hm)) (by omega)
  rw[Ou,hkc,hadd,Me (by omega) (by omega) (by omega),Aa,ih,Aa,Zs,Int.toNat_natCast,Int.toNat_natCast,Int.toNat_natCast,List.drop_drop,List.drop_take,Nat.add_sub_cancel_left]
theorem Bv6(w c:Nat)(hb:BitsOk (w:Int))(h1:1≤c)(h6:c≤6)(t:List Int32)(ht:t.length=16):∀(xs:List (List Int32)) (o:List LB),o.length+xs.length≤10000→(∀y∈xs,1≤y.length∧y.length≤4000∧y.length %c=0∧inR (w:Int) y)→
  Ok (c:Int) (w:Int) t xs o=some (o++xs.map (Nl (w:Int) c t),0)
 |[],o,_,_=>by rw[Ok];simp
 |x::xs,o,ho,h=>by
  obtain⟨a1,a2,a3,a4⟩:=h x List.mem_cons_self
  rw[List.length_cons]at ho
  have ih:=Bv6 w c hb h1 h6 t ht xs (o++[Nl (w:Int) c t x]) (by simp;omega) (fun y hy=>h y (List.mem_cons_of_mem _ hy))
  rw[Ok,Bpm hb ht h1 h6 a1 a2 a3 a4,Aa,if_neg (by simp[Ah]),Ce (by simp;omega),Aa,ih,List.map_cons]
  simp
end Go.Pl
set_option linter.unusedVariables false
set_option linter.unusedSimpArgs false
namespace Go.Pl
open Go Go.Lv
theorem Baz(c:Nat)(h1:1≤c):∀(l:List Int) (x:List Int32),(∀m∈l,1≤m)→x.length=l.sum.toNat*c→∀y∈Zs c x l,1≤y.length∧y.length≤x.length∧y.length %c=0∧∀v∈y,v∈x
 |[],x,_,_=>fun y hy=>by simp[Zs]at hy
 |m::l,x,hm,hx=>by
  have hm1:=hm m List.mem_cons_self
  have hl:0≤l.sum:=by
   have:∀l:List Int,(∀m∈l,1≤m)→0≤l.sum:=by
    intro l
    induction l with
    |nil=>intro _;simp
    |cons a l ih=>intro h;have:=ih (fun m hm=>h m (List.mem_cons_of_mem _ hm));have:=h a List.mem_cons_self;rw[List.sum_cons];omega
   exact this l fun m hm'=>hm m (List.mem_cons_of_mem _ hm')
  rw[List.sum_cons,show(m+l.sum).toNat=m.toNat+l.sum.toNat by omega,Nat.add_mul]at hx
  have hpos:1≤m.toNat*c:=Nat.mul_pos (by omega) h1
  intro y hy
  rw[Zs,List.mem_cons]at hy
  rcases hy with rfl|hy
  ·have hlen:(x.take (m.toNat*c)).length=m.toNat*c:=by rw[List.length_take];omega
   rw[hlen]
   exact⟨hpos,by omega,Nat.mul_mod_left _ _,fun v hv=>List.mem_of_mem_take hv⟩
  ·obtain⟨a1,a2,a3,a4⟩:=Baz c h1 l (x.drop (m.toNat*c)) (fun m hm'=>hm m (List.mem_cons_of_mem _ hm')) (by rw[List.length_drop];omega) y hy
   rw[List.length_drop]at a2
   exact⟨a1,by omega,a3,fun v hv=>List.mem_of_mem_drop (a4 v hv)⟩
theorem Bi8(bits:Int)(ch:Nat)(t x:List Int32)(h0:1≤x.length)(h4:x.length≤4000):5≤(Nl bits ch t x).length∧(Nl bits ch t x).length≤15*x.length:=by
 have h5:=Bkg bits ch t x h0 h4
 have h:=Avh ch (Ju bits ch t x) x.length
 refine⟨h5.1,?_⟩
 rw[Nl,List.length_append,Bb,Ale,Wf]
 omega
def lensOf(fs:List LB):List Int:=fs.map fun f=>(f.length:Int)
theorem Kj(fs:List LB):(lensOf fs).length=fs.length:=by rw[lensOf,List.length_map]
theorem Vt:∀fs:List LB,(lensOf fs).sum=(fs.flatten.length:Int)
 |[]=>rfl
 |f::fs=>by rw[lensOf,List.map_cons,List.sum_cons,List.flatten_cons,List.length_append,show(fs.map fun f=>(f.length:Int))=lensOf fs from rfl,Vt fs];omega
theorem Cdy(bits:Int)(ch:Nat)(t:List Int32):∀ys:List (List Int32),(∀y∈ys,1≤y.length∧y.length≤4000)→((ys.map (Nl bits ch t)).flatten).length≤15*ys.flatten.length
 |[],_=>by simp
 |y::ys,h=>by
  have ih:=Cdy bits ch t ys fun y hy=>h y (List.mem_cons_of_mem _ hy)
  obtain⟨h1,h4⟩:=h y List.mem_cons_self
  have:=(Bi8 bits ch t y h1 h4).2
  rw[List.map_cons,List.flatten_cons,List.flatten_cons,List.length_append,List.length_append];omega
def fmtOf(p:LB):Nat:=if p=[]then 1 else 2
def digP(p:LB):LB:=if p=[]then []else Ns (Sk p).toNat 8
theorem Bdf(p:LB):fmtOf p=1∨fmtOf p=2:=by unfold fmtOf;split<;>simp
theorem Aid(p:LB):(digP p).length=if fmtOf p=2 then 8 else 0:=by
 unfold digP fmtOf
 by_cases h:p=[]
 ·rw[if_pos h,if_pos h];rfl
 ·rw[if_neg h,if_neg h,Bb];rfl
def Aut(c r n:Nat)(x:List Int32):List (List Int32):=Zs c x (framesL (longN r) n)
def frs(c w r n:Nat)(x:List Int32)(p:LB):List LB:=(Aut c r n x).map (Nl (w:Int) c (tapsOf p))
def Gv(c w r n:Nat)(x:List Int32)(p:LB):LB:=hdrB (fmtOf p) c w r n++(digP p++(tblB (lensOf (frs c w r n x p))++(frs c w r n x p).flatten))
theorem Aas{g n:Nat}(hg:1≤g)(h1:1≤n):∀m∈framesL g n,1≤m:=by
 intro m hm
 rw[framesL,List.mem_append,List.mem_replicate,List.mem_singleton]at hm
 have h:=Nat.div_mul_le_self (n-1) g
 rcases hm with⟨_,rfl⟩|rfl
 ·omega
 ·omega
section
variable {c w r n:Nat} {x:List Int32} (h:ClipOk c w r n x)
include h
theorem ClipOk.sum:(framesL (longN r) n).sum=(n:Int):=Bfv h.cnt.1
omit h in
theorem Bre:(Aut c r n x).length=(framesL (longN r) n).length:=Baa _ _ _
theorem Bz2:(Aut c r n x).flatten=x:=by
 refine Bfh _ _ _ (fun m hm=>?_) ?_
 ·have:=Aas (Lt r) h.cnt.1 m hm
  omega
 ·rw[h.sum,h.len,Int.toNat_natCast]
theorem Als:∀y∈Aut c r n x,1≤y.length∧y.length≤4000∧y.length %c=0∧inR (w:Int) y:=by
 intro y hy
 obtain⟨a1,a2,a3,a4⟩:=Baz c h.ch.1 _ _ (Aas (Lt r) h.cnt.1) (by rw[h.sum,h.len,Int.toNat_natCast]) y hy
 have:=h.le
 exact⟨a1,by omega,a3,fun v hv=>h.rng v (a4 v hv)⟩
omit h in
theorem Bda(p:LB):(frs c w r n x p).length=(framesL (longN r) n).length:=by rw[frs,List.length_map];exact Baa _ _ _
theorem Ccx(p:LB):1≤(frs c w r n x p).length∧(frs c w r n x p).length≤1000:=by
 rw[Bda,Uw]
 exact⟨Nat.le_add_left _ _,h.fr⟩
theorem Bsk(p:LB):((frs c w r n x p).flatten).length≤15*x.length:=by
 have:=Cdy (w:Int) c (tapsOf p) (Aut c r n x) fun y hy=>⟨(Als h y hy).1,(Als h y hy).2.1⟩
 rw[Bz2 h]at this
 exact this
theorem Cch(p:LB):∀f∈frs c w r n x p,5≤f.length:=by
 intro f hf
 rw[frs,List.mem_map]at hf
 obtain⟨y,hy,rfl⟩:=hf
 exact(Bi8 _ _ _ _ (Als h y hy).1 (Als h y hy).2.1).1
theorem Bh5(p:LB):tabB (lensOf (frs c w r n x p))=true:=by
 have h1:=Ccx h p
 have h2:=Bsk h p
 have h3:=h.le
 simp only[tabB,Bool.and_eq_true,decide_eq_true_eq]
 rw[Atf _ _ (by omega),Kj,Vt]
 refine⟨by omega,fun z hz=>?_,by omega⟩
 rw[lensOf,List.mem_map]at hz
 obtain⟨f,hf,rfl⟩:=hz
 have:=Cch h p f hf
 omega
omit h in
theorem By9(p:LB):(Gv c w r n x p).length=22+(if fmtOf p=2 then 8 else 0)+(4*(frs c w r n x p).length+4)+(frs c w r n x p).flatten.length:=by
 rw[Gv,List.length_append,List.length_append,List.length_append,Ib,Aid,Akz,Kj];omega
theorem Brb(p:LB):(Gv c w r n x p).length≤34+4*(frs c w r n x p).length+15*x.length:=by
 have h1:=By9 (c:=c) (w:=w) (r:=r) (n:=n) (x:=x) p
 have h2:=Bsk h p
 split at h1<;>omega
theorem Bnp(p:LB):(Gv c w r n x p).length≤64034:=by
 have:=Brb h p
 have:=Ccx h p
 have:=h.le
 omega
theorem Cea(hk:Dh (c:Int) (w:Int) (r:Int) x=some 0)(p:LB)(hp:p.length≤64):Aou (c:Int) (w:Int) (r:Int) x p=some ((fmtOf p:Int),(c:Int),(w:Int),(r:Int),(n:Int),0):=by
 have hc:=h.ch
 have hq:Bt (Ac x) (c:Int)=(n:Int):=by rw[Ac,Ba0 (by have:=h.le;omega),h.len,Nat.mul_div_cancel _ (by omega)]
 rw[Aou,Ad7,hk,Aa,if_neg (by decide),if_neg (by rw[Ak,Ac];simp;omega),Ba (by rw[Ah];simp;omega),Aa,Ant,Axo,hq,fmtOf]
 by_cases h0:p=[]
 ·rw[if_neg (by simp[h0]),if_pos h0];rfl
 ·rw[if_pos (by simpa using h0),if_neg h0];rfl
theorem Bgh(hk:Dh (c:Int) (w:Int) (r:Int) x=some 0)(p:LB)(hp:p.length≤64):Agx (c:Int) (w:Int) (r:Int) x p=some (frs c w r n x p,0):=by
 have hc:=h.ch
 have hle:=h.le
 have hr:=h.rate
 have hq:Bt (Ac x) (c:Int)=(n:Int):=by rw[Ac,Ba0 (by omega),h.len,Nat.mul_div_cancel _ (by omega)]
 have hcut:Al4 (c:Int) (r:Int) x=some (Aut c r n x):=by
  have hp:=Azf c x (by omega) (framesL (longN r) n) 0 (Aas (Lt r) h.cnt.1) (by rw[h.sum,h.len,Int.toNat_natCast];omega)
  rw[Al4,Ba (by rw[Ah];simp;omega),Aa,hq,Bqc hr.1 hr.2 h.cnt.1 (by omega) h.fr,Aa,Ba (by have:=h.fr;simp only[Ac,Uw,decide_eq_true_eq];omega),Aa]
  exact hp
 have hfs:=Bv6 w c h.bits hc.1 hc.2 (tapsOf p) (Al6 p) (Aut c r n x) [] (by rw[Bre,Uw];exact Nat.le_trans (Nat.add_le_add_left h.fr _) (by simp)) (Als h)
 rw[Agx,hk,Aa,if_neg (by decide),Bdu p hp,Aa]
 simp only
 rw[if_neg (by decide),hcut,Aa,hfs]
 rfl
omit h in
theorem Bi7(a:List LB)(b f:LB)(v:LB)(ha:a.length≤1000)(hfin:So (lensOf a) a b f=some (v,0)):∀(j i q:Nat),i+j=a.length→j<q→Pv a b f q (i:Int) (lensOf (a.take i)++List.replicate j 0)=some (v,0)
 |j,i,0,_,h=>absurd h (Nat.not_lt_zero _)
 |0,i,q+1,hi,_=>by
  rw[Pv,Acl,if_neg (by rw[Ae,Ac];simp;omega),List.take_of_length_le (by omega),List.replicate_zero,List.append_nil]
  exact hfin
 |j+1,i,q+1,hi,hq=>by
  have ih:=Bi7 a b f v ha hfin j (i+1) q (by omega) (by omega)
  have hi1:Ad (i:Int) 1=((i+1:Nat):Int):=by rw[Ag (by omega) (by omega)];omega
  have hll:(lensOf (a.take i)).length=i:=by rw[Kj,List.length_take];omega
  have hset:(lensOf (a.take i)++List.replicate (j+1) (0:Int)).set i (Ac a[i])=lensOf (a.take (i+1))++List.replicate j 0:=by
   rw[List.replicate_succ,As6 hll,Ir (by omega),lensOf,lensOf,List.map_append,List.append_assoc];rfl
  rw[Pv,Acl,if_pos (by rw[Ae,Ac];simp;omega),Bm (by omega),Aa,Aa,Aps,Aa,Bm (by rw[List.length_append,hll,List.length_replicate];omega),Aa,Qj _ (by rw[List.length_append,hll,List.length_replicate];omega),Aa,hset,Ai7,Auf,hi1]
  exact ih
theorem Bs2(hk:Dh (c:Int) (w:Int) (r:Int) x=some 0)(p:LB)(hp:p.length≤64):Agp (c:Int) (w:Int) (r:Int) x p=some (Gv c w r n x p,0):=by
 have hn:=Ccx h p
 have hfin:So (lensOf (frs c w r n x p)) (frs c w r n x p) (hdrB (fmtOf p) c w r n) (digP p)=some (Gv c w r n x p,0):=by
  have hl:=Bnp h p
  rw[So,Ajb,Br3,if_pos (Bh5 h p),Aa]
  simp only
  rw[Aja,Aus,if_neg (by decide),Ce (by simp;omega),Aa,join_eq _ (by simp;omega) (by
   have:(([hdrB (fmtOf p) c w r n,digP p,tblB (lensOf (frs c w r n x p))]++frs c w r n x p).flatten)=Gv c w r n x p:=by simp[Gv]
   rw[this];omega),Aa]
  simp[Gv]
 have hlp:=Bi7 (frs c w r n x p) (hdrB (fmtOf p) c w r n) (digP p) _ (by omega) hfin (frs c w r n x p).length 0 FUEL (by omega) (by have:=Al;omega)
 have h8:Ace (frs c w r n x p) (hdrB (fmtOf p) c w r n) (digP p)=some (Gv c w r n x p,0):=by
  rw[Ace,Ak2,Bcw (by unfold Ac;omega) (by unfold Ac;omega),Aa,Ba (by rw[As];simp),Aa]
  exact hlp
 rw[Agp,Alc,Cea h hk p hp,Aa]
 simp only
 rw[if_neg (by decide),Bgh h hk p hp,Aa]
 simp only
 rw[if_neg (by decide),Bnt (h.shape _ (Bdf p)) h.fit,Aa]
 simp only
 rw[if_neg (by decide)]
 by_cases h0:p=[]
 ·have e1:fmtOf p=1:=by rw[fmtOf,if_pos h0]
  have e2:digP p=[]:=by rw[digP,if_pos h0]
  rw[e2]at h8
  rw[if_neg (by rw[e1];decide)]
  exact h8
 ·have e1:fmtOf p=2:=by rw[fmtOf,if_neg h0]
  have e2:digP p=Ns (Sk p).toNat 8:=by rw[digP,if_neg h0]
  rw[e2]at h8
  rw[if_pos (by rw[e1];decide),Aym p hp,Aa]
  exact h8
end
end Go.Pl
set_option linter.unusedVariables false
set_option linter.unusedSimpArgs false
namespace Go.Pl
open Go Go.Lv
theorem Vk{a m z:LB}{i k:Nat}(hi:a.length=i)(hk:m.length=k):part (a++(m++z)) i k=m:=by
 subst hi hk
 rw[part,List.take_append,List.take_of_length_le (by omega),List.drop_left',Nat.add_sub_cancel_left,List.take_append_of_le_length (Nat.le_refl _),List.take_length]
 rfl
theorem Th(f c w r n:Nat)(z:LB):hdrB f c w r n++z=Nb++(Ns f 2++(Ns c 2++(Ns w 2++(Ns r 4++(Ns n 4++(Ns (Bz (Ay3 f c w r n)).toNat 4++z)))))):=by
 simp only[hdrB,Ay3,List.append_assoc]
theorem Bep{f c w r n:Nat}(h1:shapeB f c w r n=true)(h2:fitB c r n=true)(z:LB):readS (hdrB f c w r n++z)=((f:Int),(c:Int),(w:Int),(r:Int),(n:Int),0):=by
 have hs:(f=1∨f=2)∧(1≤c∧c≤6)∧(w=8∨w=16∨w=24)∧(1≤r∧r≤1048576)∧1≤n:=by simpa only[shapeB,decide_eq_true_eq]using h1
 have hn:n≤4000:=by
  simp only[fitB,decide_eq_true_eq]at h2
  have:=Nat.div_le_self 4000 c
  omega
 have hlen:22≤(hdrB f c w r n++z).length:=by rw[List.length_append,Ib];omega
 have m4:min 4 (hdrB f c w r n++z).length=4:=by omega
 have e4:(hdrB f c w r n++z).take 4=Nb:=by rw[Th];rfl
 have e18:(hdrB f c w r n++z).take 18=Ay3 f c w r n:=by
  rw[hdrB,List.append_assoc,List.take_append_of_le_length (by rw[Arm];omega),List.take_of_length_le (by rw[Arm];omega)]
 have hlt:=(Bz (Ay3 f c w r n)).toNat_lt
 have p18:part (hdrB f c w r n++z) 18 4=Ns (Bz (Ay3 f c w r n)).toNat 4:=by
  rw[hdrB,List.append_assoc]
  exact Vk (Arm _ _ _ _ _) (Bb _ _)
 have q0:f0 (hdrB f c w r n++z)=f:=by
  rw[f0,Th,Vk (a:=Nb) (i:=4) (k:=2) rfl (Bb _ _),Ul];omega
 have q1:f1 (hdrB f c w r n++z)=c:=by
  rw[f1,Th,←List.append_assoc,Vk (by simp[Nb,Bb]) (Bb _ _),Ul];omega
 have q2:f2 (hdrB f c w r n++z)=w:=by
  rw[f2,Th,←List.append_assoc,←List.append_assoc,Vk (by simp[Nb,Bb]) (Bb _ _),Ul];omega
 have q3:f3 (hdrB f c w r n++z)=r:=by
  rw[f3,Th,←List.append_assoc,←List.append_assoc,←List.append_assoc,Vk (by simp[Nb,Bb]) (Bb _ _),Ul];omega
 have q4:f4 (hdrB f c w r n++z)=n:=by
  rw[f4,Th,←List.append_assoc,←List.append_assoc,←List.append_assoc,←List.append_assoc,Vk (by simp[Nb,Bb]) (Bb _ _),Ul];omega
 have h:=rs6 (b:=hdrB f c w r n++z) (by rw[m4,e4];rfl) (by omega) (by rw[e18,p18,Ul];omega) (by rw[q0,q1,q2,q3,q4];exact h1) (by rw[q1,q3,q4];exact h2)
 rw[q0,q1,q2,q3,q4]at h
 exact h
theorem Ce7(l:List Int)(z:LB){i:Nat}(hi:i<l.length):part (Aiz l++z) (4*i) 4=Ns (l[i]).toNat 4:=by
 have hs:Aiz l=Aiz (l.take i)++(Ns (l[i]).toNat 4++Aiz (l.drop (i+1))):=by
  conv=>lhs;rw[←List.take_append_drop i l,drop_cons hi]
  rw[Aiz,Aiz,Aiz,List.flatMap_append,List.flatMap_cons]
 rw[hs,List.append_assoc,List.append_assoc]
 exact Vk (by rw[Agr,List.length_take];omega) (Bb _ _)
theorem By3{l:List Int}(ht:tabB l=true)(z:LB):seekS (tblB l++z) l.length=(l,0):=by
 have h:=ht
 simp only[tabB,Bool.and_eq_true,decide_eq_true_eq]at h
 obtain⟨hn,h3⟩:=h
 have h4:=(Atf l 100000 (by omega)).1 h3
 have h6:=Bhd h4.1
 have hlt:=(Bz (Aiz l)).toNat_lt
 have e1:(tblB l++z).take (4*l.length)=Aiz l:=by
  rw[tblB,List.append_assoc,List.take_append_of_le_length (by rw[Agr];omega),List.take_of_length_le (by rw[Agr];omega)]
 have e2:part (tblB l++z) (4*l.length) 4=Ns (Bz (Aiz l)).toNat 4:=by
  rw[tblB,List.append_assoc]
  exact Vk (Agr _) (Bb _ _)
 have e3:Am8 (tblB l++z) l.length=l:=by
  apply List.ext_getElem
  ·rw[Se]
  ·intro i h1 h2
   have hx:=h4.1 l[i] (List.getElem_mem _)
   have hy:=h6 l[i] (List.getElem_mem _)
   simp only[Am8,List.getElem_map,List.getElem_range]
   rw[tblB,List.append_assoc,Ce7 l _ h2,Ul]
   omega
 rw[ss4 hn (by rw[List.length_append,Akz];omega) (by rw[e1,e2,Ul];omega),e3,if_pos ht]
theorem Cex{b p:LB}{f c w r n T:Nat}{l:List Int}{z:LB}(hp:p.length≤64)(hf:f=fmtOf p)(h1:shapeB f c w r n=true)(h2:fitB c r n=true)(hT:frontS b=((T:Int),0))(hb:b.length≤100000)(hd:b.drop T=hdrB f c w r n++(digP p++(tblB l++z)))
  (hl:l.length=(framesL (longN r) n).length) (ht:tabB l=true):Opn b p f c w r n (T+22+(if f=2 then 8 else 0)+4*l.length+4) l:=by
 have hlen:=congrArg List.length hd
 rw[List.length_drop,List.length_append,List.length_append,List.length_append,Ib,Aid,Akz,←hf]at hlen
 have hl1000:l.length≤1000∧1≤l.length:=by
  have h:=ht
  simp only[tabB,Bool.and_eq_true,decide_eq_true_eq]at h
  omega
 have hread:readS (b.drop T)=((f:Int),(c:Int),(w:Int),(r:Int),(n:Int),0):=by rw[hd];exact Bep h1 h2 _
 have t22:Ad (T:Int) 22=((T+22:Nat):Int):=by rw[Ag (by omega) (by omega)];omega
 have t30:Ad ((T+22:Nat):Int) 8=((T+30:Nat):Int):=by rw[Ag (by omega) (by omega)];omega
 have d22:b.drop (T+22)=digP p++(tblB l++z):=by
  rw[←List.drop_drop,hd,←Ib f c w r n,List.drop_left]
 have dA:b.drop (T+22+(if f=2 then 8 else 0))=tblB l++z:=by
  rw[←List.drop_drop,d22,hf,←Aid p,List.drop_left]
 have hend:∀A:Nat,A≤b.length→A=T+22+(if f=2 then 8 else 0)→seekto_Open b p=Ha b (f:Int) (c:Int) (w:Int) (r:Int) (n:Int) (A:Int)→seekto_Open b p=some ((f:Int),(c:Int),(w:Int),(r:Int),(n:Int),((A+4*l.length+4:Nat):Int),l,0):=by
  intro A hA hA2 e
  rw[e,Aq6 h1 h2 b (by omega) A hA,hA2,dA,←hl,By3 ht,if_neg (by simp)]
 have hprog:seekto_Open b p=some ((f:Int),(c:Int),(w:Int),(r:Int),(n:Int),((T+22+(if f=2 then 8 else 0)+4*l.length+4:Nat):Int),l,0):=by
  refine hend (T+22+(if f=2 then 8 else 0)) (by omega) rfl ?_
  rw[seekto_Open,Fx,if_neg (by rw[Ak,Ac];simp;omega),if_neg (by rw[Ak,Ac];simp;omega),Ez b (by omega),hT,Aa]
  simp only
  rw[if_neg (by decide),Cb (by omega) (by omega),Aa,Int.toNat_natCast,Ql _ (by rw[List.length_drop];omega),Aa,hread]
  simp only
  rw[if_neg (by decide)]
  by_cases h0:p=[]
  ·have e1:f=1:=by rw[hf,fmtOf,if_pos h0]
   rw[if_neg (by rw[h0,e1];decide),if_neg (by rw[h0];decide),t22,e1]
   rfl
  ·have e1:f=2:=by rw[hf,fmtOf,if_neg h0]
   have hne:(p !=([]:LB))=true:=by simpa using h0
   have hne2:(p==([]:LB))=false:=by simpa using h0
   have hdg:digP p=Ns (Sk p).toNat 8:=by rw[digP,if_neg h0]
   have hseg:(b.take (T+30)).drop (T+22)=Ns (Sk p).toNat 8:=by
    rw[List.drop_take,show T+30-(T+22)=8 by omega,d22,hdg,List.take_append_of_le_length (by rw[Bb];omega),List.take_of_length_le (by rw[Bb];omega)]
   rw[e1,if_pos rfl]at hlen
   rw[if_neg (by rw[hne2,e1];decide),if_pos hne,t22,t30,if_neg (by rw[Ae,Ac];simp;omega),Me (by omega) (by omega) (by omega),Aa,Int.toNat_natCast,Int.toNat_natCast,hseg,Bbc (Bb _ _) hp,Aa]
   simp only
   rw[if_neg (by decide),if_neg (by simp),e1]
   rfl
 rcases Bc2 b p (by omega) hp with⟨e,he,h,_⟩|⟨f',c',w',r',n',A',l',o⟩
 ·rw[hprog]at h
  have:=congrArg (fun o=>(o.getD (Up 0)).2.2.2.2.2.2.2) h
  simp only[Option.getD_some,Up]at this
  exact absurd this.symm he
 ·have h:=o.prog
  rw[hprog]at h
  simp only[Option.some.injEq,Prod.mk.injEq]at h
  obtain⟨i1,i2,i3,i4,i5,i6,i7,_⟩:=h
  have j1:f=f':=by omega
  have j2:c=c':=by omega
  have j3:w=w':=by omega
  have j4:r=r':=by omega
  have j5:n=n':=by omega
  have j6:=Int.ofNat.inj i6
  subst j1 j2 j3 j4 j5 i7
  rw[j6]
  exact o
theorem Bf1{b:LB}(h:b.take 4=Nb):frontS b=(0,0):=by
 have h4:4≤b.length:=by
  have:=congrArg List.length h
  rw[List.length_take]at this
  simp only[Nb,List.length_cons,List.length_nil]at this
  omega
 have h3:b.take 3≠ [73,68,51]:=by
  intro e
  have:(b.take 4).take 3=[73,68,51]:=by rw[List.take_take];exact e
  rw[h]at this
  exact absurd this (by decide)
 have h8:b.take 8≠APE:=by
  intro e
  have:(b.take 8).take 4=Nb:=by rw[List.take_take];exact h
  rw[e]at this
  exact absurd this (by decide)
 have hs:Dd b=(0,6):=by
  have h1:Abx b=(0,6):=by rw[Abx,if_pos (by intro hh;exact h3 hh.2)]
  rw[Dd,h1,if_neg (by decide),fa1 (by intro hh;exact h8 hh.2)]
 rw[frontS,Bot,Cl,List.drop_zero,hs]
 rfl
theorem Bfg:∀{l:List Int},(∀x∈l,0≤x)→∀k,0≤(l.take k).sum
 |[],_,k=>by simp
 |x::l,h,0=>by simp
 |x::l,h,k+1=>by
  have:=Bfg (l:=l) (fun y hy=>h y (List.mem_cons_of_mem _ hy)) k
  have:=h x List.mem_cons_self
  rw[List.take_succ_cons,List.sum_cons];omega
theorem Ax1(fs:List LB)(k:Nat):(lensOf fs).take k=lensOf (fs.take k):=by rw[lensOf,lensOf,List.map_take]
theorem Ckf{b z:LB}{A:Nat}{fs:List LB}(hd:b.drop A=fs.flatten++z){k:Nat}(hk:k<fs.length):segF b A (lensOf fs) k=fs[k]:=by
 have e0:fs.flatten=(fs.take k).flatten++(fs[k]++(fs.drop (k+1)).flatten):=by
  conv=>lhs;rw[←List.take_append_drop k fs,drop_cons hk]
  rw[List.flatten_append,List.flatten_cons]
 have s1:((lensOf fs).take k).sum=((fs.take k).flatten.length:Int):=by rw[Ax1,Vt]
 have s2:((lensOf fs).take (k+1)).sum=((fs.take k).flatten.length+fs[k].length:Nat):=by rw[Ax1,Vt,Ir hk,List.flatten_append];simp
 rw[segF,s1,s2,show((A:Int)+((fs.take k).flatten.length+fs[k].length:Nat)).toNat=A+((fs.take k).flatten.length+fs[k].length) by omega,show((A:Int)+((fs.take k).flatten.length:Int)).toNat=A+(fs.take k).flatten.length by omega,
  List.drop_take,←List.drop_drop,hd,e0,List.append_assoc,List.drop_left,Nat.add_sub_add_left,Nat.add_sub_cancel_left,List.append_assoc,List.take_left]
theorem Bz3{b z:LB}{A:Nat}{fs:List LB}(hd:b.drop A=fs.flatten++z)(hA:A≤b.length)(k:Nat):(A:Int)+((lensOf fs).take k).sum≤b.length:=by
 have h:=congrArg List.length hd
 rw[List.length_drop,List.length_append]at h
 have h2:(fs.take k).flatten.length≤fs.flatten.length:=by
  conv=>rhs;rw[←List.take_append_drop k fs,List.flatten_append,List.length_append]
  omega
 rw[Ax1,Vt];omega
theorem Bzh{b z:LB}{A:Nat}{fs:List LB}(hd:b.drop A=fs.flatten++z):Bey b A (lensOf fs)=(Agk z).2:=by
 rw[Bey,Vt,show((A:Int)+(fs.flatten.length:Int)).toNat=A+fs.flatten.length by omega,←List.drop_drop,hd,List.drop_left]
theorem Bu2:Agk []=(0,0):=rfl
section
variable {b p:List UInt8} {f c w r n A:Nat} {fs:List LB} {z:LB} (o:Opn b p f c w r n A (lensOf fs)) (hd:b.drop A=fs.flatten++z)
include o hd
theorem Cc1{k:Nat}(hk:k<fs.length){y:List Int32}{e:Int}{m:Nat}(hm:getI (framesL (longN r) n) (k:Int)=some (m:Int))(hdec:deframe_Decode (c:Int) (w:Int) (tapsOf p) (m:Int) fs[k]=some (y,e)):
  (Agq b p f c w r n A (lensOf fs) k).2=e∧(e=0→Agq b p f c w r n A (lensOf fs) k=(bytesB (w:Int) y,0)∧smF w (Agq b p f c w r n A (lensOf fs) k)=y):=by
 have hkl:k<(lensOf fs).length:=by rw[Kj];exact hk
 obtain⟨m',x',s',e',g⟩:=Aq3 o k hkl
 have hin:=Bz3 hd o.at' (k+1)
 have hmm:m'=m:=by
  have:=g.mom
  rw[hm]at this
  have:=Option.some.inj this
  omega
 subst hmm
 rcases g.way with⟨h1,_⟩|⟨_,h2,_⟩
 ·omega
 ·rw[Ckf hd hk,hdec]at h2
  simp only[Option.some.injEq,Prod.mk.injEq]at h2
  obtain⟨rfl,rfl⟩:=h2
  refine⟨by rw[g.eq],fun he=>?_⟩
  have:=g.smp (Abs o.shape).2.1
  obtain⟨h3,_⟩:=g.some' he
  rw[g.eq,this,h3,he]
  exact⟨rfl,rfl⟩
end
end Go.Pl
set_option linter.unusedVariables false
set_option linter.unusedSimpArgs false
namespace Go.Pl
open Go Go.Lv
theorem Bjv(c:Nat)(h1:1≤c):∀(l:List Int) (x:List Int32),(∀m∈l,1≤m)→x.length=l.sum.toNat*c→∀(k:Nat) (hk:k<l.length) (hk':k<(Zs c x l).length),(Zs c x l)[k].length=l[k].toNat*c
 |[],x,_,_=>fun k hk=>absurd hk (Nat.not_lt_zero _)
 |m::l,x,hm,hx=>by
  have hm1:=hm m List.mem_cons_self
  have hl:0≤l.sum:=by
   have:=Bfg (l:=l) (fun y hy=>by have:=hm y (List.mem_cons_of_mem _ hy);omega) l.length
   rw[List.take_length]at this;exact this
  rw[List.sum_cons,show(m+l.sum).toNat=m.toNat+l.sum.toNat by omega,Nat.add_mul]at hx
  intro k hk hk'
  cases k with
  |zero=>simp only[Zs,List.getElem_cons_zero,List.length_take];omega
  |succ k=>
   simp only[Zs,List.getElem_cons_succ]
   exact Bjv c h1 l (x.drop (m.toNat*c)) (fun m hm'=>hm m (List.mem_cons_of_mem _ hm')) (by rw[List.length_drop];omega) k (by simpa using hk) _
theorem Bvm{bits:Int}{ch n:Nat}{t:List Int32}{b:LB}{e:Int}(hb:BitsOk bits)(ht:t.length=16)(h1:1≤ch)(h6:ch≤6)(n1:1≤n)(n2:n≤4000/ch)(hs:Na b=e)(he:e≠0):deframe_Decode (ch:Int) bits t (n:Int) b=some ([],e):=by
 have hq4:=Bgp h1 h6
 have hh:=Aky bits
 obtain⟨l,e',d1,d2,_,d4⟩:=Aol b hb ht h1 h6 n1 n2
 have key:∃l,cadenzaref21_Decode (ch:Int) bits t (n:Int) b=some (l,e):=by
  generalize 4000/ch=mm at*
  have hasked:Ck (ch:Int) bits (n:Int)=some 0:=by
   rw[Ck,Cc,if_neg (by simp[Ae,Ak];omega),Aoq hb,Aa,if_neg (by rw[As];simp;omega),Aa,if_neg (by simp[Ah,Ae];omega),Ba (by rw[Ah];simp;omega),Aa,hq4,if_neg (by rw[Ak];simp;omega)]
  rw[cadenzaref21_Decode,Lj,hasked,Aa,if_neg (by rw[Ah];simp),Bau,Aa,hs,if_pos (by rw[Ah];simpa using he)]
  exact⟨_,rfl⟩
 obtain⟨l',hl⟩:=key
 rw[hl]at d2
 simp only[Option.some.injEq,Prod.mk.injEq]at d2
 obtain⟨rfl,rfl⟩:=d2
 rw[d1,d4 he]
structure FileOf (c w r n:Nat) (x:List Int32) (p:LB) (T:Nat) (fs:List LB) (z b:LB):Prop where
 clip:ClipOk c w r n x
 pass:p.length≤64
 front:frontS b=((T:Int),0)
 le:b.length≤100000
 lens:lensOf fs=lensOf (frs c w r n x p)
 form:b.drop T=hdrB (fmtOf p) c w r n++(digP p++(tblB (lensOf (frs c w r n x p))++(fs.flatten++z)))
def Aif(T:Nat)(p:LB)(K:Nat):Nat:=T+22+(if fmtOf p=2 then 8 else 0)+4*K+4
section
variable {c w r n:Nat} {x:List Int32} {p:LB} {T:Nat} {fs:List LB} {z b:LB} (h:FileOf c w r n x p T fs z b)
include h
theorem FileOf.cnt:fs.length=(frs c w r n x p).length:=by
 have:=congrArg List.length h.lens
 rw[Kj,Kj]at this
 exact this
theorem FileOf.Du:Opn b p (fmtOf p) c w r n (Aif T p fs.length) (lensOf fs):=by
 have hc:=h.clip
 have hl:(lensOf fs).length=(framesL (longN r) n).length:=by rw[Kj,h.cnt];exact Bda p
 have ht:tabB (lensOf fs)=true:=by rw[h.lens];exact Bh5 hc p
 have hd:=h.form
 rw[←h.lens]at hd
 have:=Cex (z:=fs.flatten++z) h.pass rfl (hc.shape _ (Bdf p)) hc.fit h.front h.le hd hl ht
 rw[Kj]at this
 exact this
theorem FileOf.Bxh:b.drop (Aif T p fs.length)=fs.flatten++z:=by
 have hd:=h.form
 rw[←h.lens]at hd
 have e:Aif T p fs.length=T+(22+((if fmtOf p=2 then 8 else 0)+(4*fs.length+4))):=by unfold Aif;omega
 have e2:4*fs.length+4=(tblB (lensOf fs)).length:=by rw[Akz,Kj]
 rw[e,←List.drop_drop,hd,←List.drop_drop]
 conv=>lhs;rw[←Ib (fmtOf p) c w r n,List.drop_left,←List.drop_drop,←Aid p,List.drop_left,e2,List.drop_left]
theorem FileOf.mom{k:Nat}(hk:k<fs.length):∃(m:Nat) (hk':k<(Aut c r n x).length),getI (framesL (longN r) n) (k:Int)=some (m:Int)∧1≤m∧m≤4000/c∧((Aut c r n x)[k]).length=m*c∧inR (w:Int) (Aut c r n x)[k]∧(frs c w r n x p)[k]'(by rw[←h.cnt];exact hk)=Nl (w:Int) c (tapsOf p) (Aut c r n x)[k]:=by
 have hc:=h.clip
 have hlen:fs.length=(framesL (longN r) n).length:=by rw[h.cnt];exact Bda p
 have hkf:k<(framesL (longN r) n).length:=by omega
 have hk':k<(Aut c r n x).length:=by rw[Bre];exact hkf
 have hm1:=Aas (Lt r) hc.cnt.1 _ (List.getElem_mem hkf)
 obtain⟨m,hm⟩:=Int.eq_ofNat_of_zero_le (show 0≤(framesL (longN r) n)[k] by omega)
 have hg:=Bjv c hc.ch.1 _ x (Aas (Lt r) hc.cnt.1) (by rw[hc.sum,hc.len,Int.toNat_natCast]) k hkf hk'
 rw[hm,Int.toNat_natCast]at hg
 have hmem:=Als hc _ (List.getElem_mem hk')
 have hx:=Baz c hc.ch.1 _ x (Aas (Lt r) hc.cnt.1) (by rw[hc.sum,hc.len,Int.toNat_natCast]) _ (List.getElem_mem hk')
 have hg':((Aut c r n x)[k]).length=m*c:=hg
 refine⟨m,hk',by rw[Bm hkf,hm],by omega,?_,hg',hmem.2.2.2,?_⟩
 ·have h1:=hx.2.1
  have h2:m*c≤n*c:=by rw[←hg',←hc.len];exact h1
  have h3:m≤n:=Nat.le_of_mul_le_mul_right h2 hc.ch.1
  exact Nat.le_trans h3 hc.cnt.2
 ·simp only[frs,List.getElem_map]
theorem FileOf.Bet{k:Nat}(hk:k<fs.length)(he:fs[k]=(frs c w r n x p)[k]'(by rw[←h.cnt];exact hk)):
  Agq b p (fmtOf p) c w r n (Aif T p fs.length) (lensOf fs) k=(bytesB (w:Int) ((Aut c r n x).getD k []),0)∧smF w (Agq b p (fmtOf p) c w r n (Aif T p fs.length) (lensOf fs) k)=(Aut c r n x).getD k []:=by
 have hc:=h.clip
 obtain⟨m,hk',h1,h2,h3,h4,h5,h6⟩:=h.mom hk
 have hd:=(Buh hc.bits (Al6 p) hc.ch.1 hc.ch.2 h2 h3 h4 h5).1
 have hg:=Cc1 h.Du h.Bxh hk h1 (by rw[he,h6];exact hd)
 have e:(Aut c r n x).getD k []=(Aut c r n x)[k]:=by rw[List.getD_eq_getElem?_getD,List.getElem?_eq_getElem hk'];rfl
 rw[e]
 exact hg.2 rfl
theorem FileOf.Cna{k:Nat}(hk:k<fs.length)(he:Na fs[k]=22):(Agq b p (fmtOf p) c w r n (Aif T p fs.length) (lensOf fs) k).2=22:=by
 have hc:=h.clip
 obtain⟨m,hk',h1,h2,h3,h4,h5,h6⟩:=h.mom hk
 exact(Cc1 h.Du h.Bxh hk h1 (Bvm hc.bits (Al6 p) hc.ch.1 hc.ch.2 h2 h3 he (by decide))).1
theorem FileOf.beh:Bey b (Aif T p fs.length) (lensOf fs)=(Agk z).2:=Bzh h.Bxh
end
theorem Bl8{c w r n:Nat}{x:List Int32}(h:ClipOk c w r n x){p:LB}(hp:p.length≤64):FileOf c w r n x p 0 (frs c w r n x p) [] (Gv c w r n x p):=by
 refine⟨h,hp,Bf1 ?_,by have:=Bnp h p;omega,rfl,by rw[List.append_nil];rfl⟩
 rw[Gv,Th];rfl
end Go.Pl
set_option linter.unusedVariables false
set_option linter.unusedSimpArgs false
namespace Go.Pl
open Go Go.Lv
theorem Brj{fs:List LB}{k:Nat}(hk:k<fs.length){g:LB}(h:g.length=fs[k].length):lensOf (fs.set k g)=lensOf fs:=by
 rw[lensOf,List.map_set]
 have:((g.length:Nat):Int)=(lensOf fs)[k]'(by rw[Kj];exact hk):=by simp[lensOf,h]
 rw[show(fs.map fun f=>(f.length:Int))=lensOf fs from rfl,this]
 exact List.set_getElem_self _
theorem Cha(fs:List LB):∀x∈lensOf fs,0≤x:=by
 intro x hx
 rw[lensOf,List.mem_map]at hx
 obtain⟨f,_,rfl⟩:=hx
 omega
section
variable {c w r n:Nat} {x:List Int32} (h:ClipOk c w r n x) {p:LB} (hp:p.length≤64)
include h hp
omit hp in
theorem Cfd{k:Nat}(hk:k<(frs c w r n x p).length):Na (frs c w r n x p)[k]=0:=by
 have hm:(frs c w r n x p)[k]∈frs c w r n x p:=List.getElem_mem hk
 obtain⟨y,hy,he⟩:=List.mem_map.1 (show(frs c w r n x p)[k]∈(Aut c r n x).map (Nl (w:Int) c (tapsOf p))from hm)
 have hy':=Als h y hy
 rw[←he]
 exact(Bne _ _ _ _ hy'.1 hy'.2.1).1
end
theorem Bzq{l:List Int}{i:Nat}(hi:i<l.length):(l.take (i+1)).sum=(l.take i).sum+l[i]:=by
 rw[Ir hi,List.sum_append,List.sum_singleton]
end Go.Pl
set_option linter.unusedVariables false
set_option linter.unusedSimpArgs false
namespace Go.Pl
open Go Go.Lv
def Cd(e:Int):Prop:=e=0∨e=4∨e=12∨e=16∨e=22∨e=24∨e=26∨e=38
instance(e:Int):Decidable (Cd e):=by unfold Cd;infer_instance
theorem Cd.nn{e:Int}(h:Cd e):0≤e:=by unfold Cd at h;omega
end Go.Pl
set_option linter.unusedVariables false
set_option linter.unusedSimpArgs false
namespace Go.Pl
open Go Go.Lv
structure HdI (f c w r n:Int) (F C W R N:Nat):Prop where
 ef:f=F
 ec:c=C
 ew:w=W
 er:r=R
 en:n=N
 shape:shapeB F C W R N=true
 fit:fitB C R N=true
theorem HdI.Ajd{f c w r n:Int}{F C W R N:Nat}(h:HdI f c w r n F C W R N):Jh f c w r n=some (framesL (longN R) N,0):=by
 obtain⟨rfl,rfl,rfl,rfl,rfl,hs,hf⟩:=h
 exact Aal hs hf
theorem HdI.num{f c w r n:Int}{F C W R N:Nat}(h:HdI f c w r n F C W R N):(F=1∨F=2)∧(1≤C∧C≤6)∧(W=8∨W=16∨W=24)∧(1≤R∧R≤1048576)∧1≤N∧N≤4000/C∧N≤4000∧(N-1)/longN R+1≤1000:=by
 obtain⟨rfl,rfl,rfl,rfl,rfl,hs,hf⟩:=h
 simp only[shapeB,decide_eq_true_eq]at hs
 simp only[fitB,decide_eq_true_eq]at hf
 have hd:4000/C≤4000:=Nat.div_le_self _ _
 omega
theorem HdI.Cm3{f c w r n:Int}{F C W R N:Nat}(h:HdI f c w r n F C W R N):Nz f c w r n=some (framesL (longN R) N):=by
 have hn:=h.num
 obtain⟨rfl,rfl,rfl,rfl,rfl,hs,hf⟩:=h
 rw[Nz,Ak7 (by omega) (by omega) (by omega)];rfl
end Go.Pl
set_option linter.unusedVariables false
set_option linter.unusedSimpArgs false
namespace Go.Pl
open Go Go.Lv
end Go.Pl
set_option linter.unusedVariables false
set_option linter.unusedSimpArgs false
namespace Go.Pl
open Go Go.Lv
inductive FitD (o:LB) (f c w r n:Int) (g:LI) (a:Int) (x:LB):Prop
 |new:f=0→c=0→w=0→r=0→n=0→g=[]→a=0→x=[]→FitD o f c w r n g a x
 |head (F C W R N:Nat):HdI f c w r n F C W R N→(o==([]:LB))=decide (F=1)→g=[]→a=0→x=[]→FitD o f c w r n g a x
 |tab (F C W R N A:Nat):HdI f c w r n F C W R N→(o==([]:LB))=decide (F=1)→tabB g=true→g.length=(framesL (longN R) N).length→a=A→A≤g.length→FitD o f c w r n g a x
end Go.Pl
set_option linter.unusedVariables false
set_option linter.unusedSimpArgs false
namespace Go.Pl
open Go Go.Lv
theorem Cds(b:List UInt8)(n:Int):Cd (Auo b n).2:=by
 unfold Auo
 repeat' split
 all_goals first|decide|exact .inl rfl
theorem Cb6(b:List UInt8):(Abx b).2=6∨Cd (Abx b).2:=by
 unfold Abx Bi1
 repeat' split
 all_goals first|exact .inl rfl|exact .inr (Cds _ _)|exact .inr (by decide)
theorem Bzb(b:List UInt8):(Nm b).2=6∨Cd (Nm b).2:=by
 unfold Nm
 repeat' split
 all_goals first|exact .inl rfl|exact .inr (.inl rfl)|exact .inr (by decide)
theorem Cd1(b:List UInt8):(Dd b).2=6∨Cd (Dd b).2:=by
 unfold Dd
 split
 ·exact Cb6 b
 ·exact Bzb b
theorem Bmk(b:List UInt8):∀(j p:Nat),p≤b.length→b.length<j+p→Cd (Cl b j p).2
 |0,p,h1,h2=>by omega
 |j+1,p,h1,h2=>by
  rw[Cl]
  split
  ·exact .inl rfl
  ·rename_i h6
   split
   ·exact(Cd1 _).resolve_left h6
   ·rename_i h0
    split
    ·exact(by decide:Cd 4)
    ·have hz:Dd (b.drop p)=((Dd (b.drop p)).1,0):=by rw[Prod.ext_iff];exact⟨rfl,by simpa using h0⟩
     obtain⟨k1,k2⟩:=Bbb hz
     rw[List.length_drop]at k2
     split
     ·exact .inl rfl
     ·exact Bmk b j _ (by omega) (by omega)
theorem Bz9(b:List UInt8):Cd (frontS b).2:=by
 unfold frontS Bot
 split
 ·exact .inl rfl
 ·exact Bmk b _ _ (by omega) (by omega)
theorem Cag(b:List UInt8):0≤(frontS b).2:=(Bz9 b).nn
theorem Cd5(b:List UInt8):Cd (readS b).2.2.2.2.2:=by
 unfold readS
 repeat' split
 all_goals first|decide|exact .inl rfl
theorem Cfe(b:List UInt8):0≤(readS b).2.2.2.2.2:=(Cd5 b).nn
theorem Cbi(b:List UInt8)(n:Nat):0≤(seekS b n).2:=by
 unfold seekS
 repeat' split
 all_goals simp
def ID3:List UInt8:=[73,68,51]
def APX:List UInt8:=[65,80,69,84,65,71,69,88]
def Bc3(b s:List UInt8):Bool:=decide (b.length<s.length)&&(b==s.take b.length)
theorem Bni(b s:List UInt8):Pf b s=some (Bc3 b s):=by
 rw[Pf,Bc3]
 by_cases h:b.length<s.length
 ·rw[if_pos (by rw[Ae,Ac,Ac];simp;omega),Ac,Gz (by omega) (by omega),Aa,decide_eq_true h,Bool.true_and];rfl
 ·rw[if_neg (by rw[Ae,Ac,Ac];simp;omega),decide_eq_false h];rfl
def stS(b:List UInt8):Int×Int×Int×Int×Int×Int×Int:=
 if(frontS b).2=24 then(0,0,0,0,0,0, -1)else if(frontS b).2≠0 then(0,0,0,0,0,0,(frontS b).2)else
 if(Bc3 (hdr b) ID3||Bc3 (hdr b) APX)=true then(0,0,0,0,0,0, -1)else
 if(readS (hdr b)).2.2.2.2.2=24 then(0,0,0,0,0,0, -1)else((frontS b).1+22,(readS (hdr b)).1,(readS (hdr b)).2.1,(readS (hdr b)).2.2.1,(readS (hdr b)).2.2.2.1,(readS (hdr b)).2.2.2.2.1,(readS (hdr b)).2.2.2.2.2)
theorem Bhl(b:List UInt8)(hb:b.length≤100000):Vo b=some (stS b):=by
 rw[Vo,Aa4,Wv b (by omega),Aa,stS]
 have hok:=Akr (b:=b)
 simp only
 by_cases h1:(frontS b).2=24
 ·rw[if_pos (by rw[As];simpa using h1),if_pos h1]
 rw[if_neg (by rw[As];simpa using h1),if_neg h1]
 by_cases h2:(frontS b).2≠0
 ·rw[if_pos (by rw[Ah];simpa using h2),if_pos h2]
 have h0:(frontS b).2=0:=by simpa using h2
 obtain⟨k1,k2,k3⟩:=hok h0
 rw[if_neg (by rw[Ah,h0];simp),if_neg h2,Cb (by omega) (by omega),Aa,Bni,Aa,show b.drop (frontS b).1.toNat=hdr b from rfl,show([73,68,51]:LB)=ID3 from rfl,show([65,80,69,84,65,71,69,88]:LB)=APX from rfl]
 by_cases h3:Bc3 (hdr b) ID3=true
 ·rw[if_pos h3,h3,Bool.true_or,if_pos rfl]
 rw[if_neg h3,Bni,Aa,Bool.eq_false_iff.2 h3,Bool.false_or]
 by_cases h4:Bc3 (hdr b) APX=true
 ·rw[if_pos h4,if_pos h4]
 have hl:(hdr b).length≤b.length:=by rw[hdr,List.length_drop];omega
 rw[if_neg h4,if_neg h4,Aa0,Aaa,Aqx _ (by omega),Aa]
 simp only
 by_cases h5:(readS (hdr b)).2.2.2.2.2=24
 ·rw[if_pos (by rw[As];simpa using h5),if_pos h5]
 ·rw[if_neg (by rw[As];simpa using h5),if_neg h5,Ag (by omega) (by omega)]
end Go.Pl
set_option linter.unusedVariables false
set_option linter.unusedSimpArgs false
namespace Go.Pl
open Go Go.Lv
end Go.Pl
set_option linter.unusedVariables false
set_option linter.unusedSimpArgs false
namespace Go.Pl
open Go Go.Lv
theorem Bvo(d:Bool)(e:Int):Adq d e=Adb (d&&geq e 0):=by
 rw[Adq,An7];cases d<;>simp
theorem Cku{e:Int}(h:0≤e):geq e (-1)=false:=by rw[As,beq_eq_false_iff_ne];omega
end Go.Pl
set_option linter.unusedVariables false
set_option linter.unusedSimpArgs false
namespace Go.Pl
open Go Go.Lv
section
variable {f c w r n:Int} {F C W R N:Nat} (hd:HdI f c w r n F C W R N)
include hd
theorem Cjy(o p:LB)(hp:p.length≤100000)(A:Nat)(hA:A≤p.length)(a:Int)(x:LB)(u:Bool)(v:Int):
  (An6 o p f c w r n a u v [] x (A:Int)=Adb (decide ((seekS (p.drop A) (framesL (longN R) N).length).2=24)))∧
  La p f c w r n (A:Int)=some (if(seekS (p.drop A) (framesL (longN R) N).length).2=24 then(0,[], -1)else((A:Int)+(4*((seekS (p.drop A) (framesL (longN R) N).length).1.length:Int)+4),(seekS (p.drop A) (framesL (longN R) N).length).1,(seekS (p.drop A) (framesL (longN R) N).length).2))∧
  ((seekS (p.drop A) (framesL (longN R) N).length).2=0→(A:Int)+(4*((seekS (p.drop A) (framesL (longN R) N).length).1.length:Int)+4)≤p.length):=by
 have hs:=Ayi (p.drop A) (framesL (longN R) N).length (by rw[List.length_drop];omega)
 have hr:=Bdd (p.drop A) (framesL (longN R) N).length (by rw[List.length_drop];omega)
 have hok:=Awb (b:=p.drop A) (n:=(framesL (longN R) N).length)
 have hlen:(seekS (p.drop A) (framesL (longN R) N).length).1.length≤1000:=by
  unfold seekS
  repeat' split
  all_goals simp[Se]
  all_goals omega
 have hfit:(seekS (p.drop A) (framesL (longN R) N).length).2=0→(A:Int)+(4*((seekS (p.drop A) (framesL (longN R) N).length).1.length:Int)+4)≤p.length:=by
  intro h0
  obtain⟨k1,k2,k3,k4,_⟩:=hok h0
  rw[k1]
  simp only[Se]
  rw[List.length_drop]at k4
  omega
 refine⟨?_,?_,hfit⟩
 ·rw[An6,Aon,hd.Ajd,Aa]
  simp only
  rw[if_neg (by decide),Cb (by omega) (by omega),Aa,Int.toNat_natCast,Ac,hs,Aa]
  generalize seekS (p.drop A) (framesL (longN R) N).length=z at*
  obtain⟨z1,z2⟩:=z
  simp only at*
  by_cases h1:z2=24
  ·rw[if_pos (by rw[As];simpa using h1),Bvo,decide_eq_true h1];rfl
  rw[if_neg (by rw[As];simpa using h1),decide_eq_false h1]
  by_cases h2:z2≠0
  ·rw[if_pos (by rw[Ah];simpa using h2),Apu,Aa]
   simp only
   rw[Bvo];rfl
  ·have h0:z2=0:=by simpa using h2
   have:=hfit h0
   rw[if_neg (by rw[Ah,h0];simp),Ac,Bpc A z1.length (by omega) (by omega),Cb (by omega) (by omega),Aa,Bvo];rfl
 ·rw[La,Ad8,Cb (by omega) (by omega),Aa,hd.Cm3,Aa,Ac,Int.toNat_natCast,hr,Aa]
  generalize seekS (p.drop A) (framesL (longN R) N).length=z at*
  obtain⟨z1,z2⟩:=z
  simp only at*
  rw[Adm,Aca]
  by_cases h1:z2=24
  ·rw[if_pos (by rw[As];simpa using h1),if_pos h1]
  ·rw[if_neg (by rw[As];simpa using h1),if_neg h1,Ac,Bpc A z1.length (by omega) (by omega)]
   congr 2
end
end Go.Pl
set_option linter.unusedVariables false
set_option linter.unusedSimpArgs false
namespace Go.Pl
open Go Go.Lv
end Go.Pl
set_option linter.unusedVariables false
set_option linter.unusedSimpArgs false
namespace Go.Pl
open Go Go.Lv
end Go.Pl
set_option linter.unusedVariables false
set_option linter.unusedSimpArgs false
namespace Go.Pl
open Go Go.Lv
structure SzD (p:LB) (g:LI) (a:Int) (x:LB):Prop where
 hp:p.length≤100000
 hg:g.length≤1000
 hx:x.length+12000*(g.length-a.toNat)≤13000000
section
variable {bk:LB→Int→Int→Int→Int→Int→Int→LI→LB→Lw} {o p:LB} {f c w r n:Int} {g:LI} {a:Int} {x:LB} {u:Bool} {v:Int}
theorem f75{d:Bool}{e:Int}:Bea bk o u v f c w r n a x d e p g=Wr bk o u v p f c w r n a d e g x:=rfl
theorem f78{d:Bool}{e:Int}:Bdm bk o u v f c w r n g d e p a x=Wr bk o u v p f c w r n a d e g x:=rfl
end
end Go.Pl
set_option linter.unusedVariables false
set_option linter.unusedSimpArgs false
namespace Go.Pl
open Go Go.Lv
end Go.Pl
set_option linter.unusedVariables false
set_option linter.unusedSimpArgs false
namespace Go.Pl
open Go Go.Lv
abbrev Cnd:=LB×LB×Int×Int×Int×Int×Int×LI×Int×LB×Bool×Int×Int
theorem Cck{o p:LB}{f c w r n:Int}{g:LI}{a:Int}{x:LB}{u:Bool}{v:Int}(hp:p.length≤100000)(hg:g.length≤2000)(hx:x.length≤13000000):Acu o p f c w r n g a x u v=some (o,p,f,c,w,r,n,g,a,x,u,v):=by
 rw[Acu,Ag0,Ce (by simp;omega),Aa,Ce (by simp;omega),Aa,Ago,Ah4,Ce (by simp;omega),Aa]
 rfl
theorem Bur{o p:LB}{f c w r n:Int}{g:LI}{a:Int}{x:LB}{u:Bool}{v e:Int}(hx:x.length≤13000000):Xg o p f c w r n g a x u v e=some (o,[],0,0,0,0,0,[],0,x,false,e,e):=by
 rw[Xg,Aos,Ce (by simp;omega),Aa];rfl
end Go.Pl
set_option linter.unusedVariables false
set_option linter.unusedSimpArgs false
namespace Go.Pl
open Go Go.Lv
theorem bnd{α β:Type}{o:Option α}{f:α→Option β}{r:β}(h:Option.bind o f=some r):∃x,o=some x∧f x=some r:=by
 cases o with
 |none=>cases h
 |some x=>exact⟨x,rfl,h⟩
end Go.Pl
set_option linter.unusedVariables false
set_option linter.unusedSimpArgs false
namespace Go.Pl
open Go Go.Lv
end Go.Pl
set_option linter.unusedVariables false
set_option linter.unusedSimpArgs false
namespace Go.Pl
open Go Go.Lv
def OutB(f c w r n:Int)(g:LI)(a:Int)(x:LB):Prop:=∀(F C W R N A:Nat),HdI f c w r n F C W R N→g≠ []→a=(A:Int)→(x.length:Int)≤Ars C W (framesL (longN R) N) A
theorem OutB.nil{f c w r n:Int}{a:Int}{x:LB}:OutB f c w r n [] a x:=fun _ _ _ _ _ _ _ h=>absurd rfl h
theorem OutB.zero{f c w r n:Int}{g:LI}:OutB f c w r n g 0 []:=fun F C W R N A h hg ha=>by
 obtain rfl:A=0:=by omega
 rw[Bt8];simp
end Go.Pl
set_option linter.unusedVariables false
set_option linter.unusedSimpArgs false
namespace Go.Pl
open Go Go.Lv
end Go.Pl
set_option linter.unusedVariables false
set_option linter.unusedSimpArgs false
namespace Go.Pl
open Go Go.Lv
structure Wt (o p:LB) (f c w r n:Int) (g:LI) (a:Int) (x:LB):Prop where
 fit:FitD o f c w r n g a x
 sz:SzD p g a x
 out:OutB f c w r n g a x
 wait:cadenzaref37_take o p f c w r n g a x false 0=some (o,p,f,c,w,r,n,g,a,x,false,0, -1)
abbrev loopR(q:Nat)(o p:LB)(f c w r n:Int)(g:LI)(a:Int)(x:LB):=Jn q o p f c w r n g a x false 0
end Go.Pl
set_option linter.unusedVariables false
set_option linter.unusedSimpArgs false
namespace Go.Pl
open Go Go.Lv
abbrev Fd(o s:LB):=loopR FUEL o s 0 0 0 0 0 [] 0 []
inductive Bh (o s:LB):LB→Int→Int→Int→Int→Int→LI→Int→LB→Int→Prop
 |wt {p:LB} {f c w r n:Int} {g:LI} {a:Int} {x:LB}:Wt o p f c w r n g a x→p.length≤s.length→(∀b:LB,(s++b).length≤100000→Fd o (s++b)=loopR FUEL o (p++b) f c w r n g a x)→Bh o s p f c w r n g a x 0
 |er {x:LB} {e:Int}:0<e→Cd e→x.length≤12000→(∀b:LB,(s++b).length≤100000→Fd o (s++b)=some (o,[],0,0,0,0,0,[],0,x,false,e,e))→Bh o s [] 0 0 0 0 0 [] 0 x e
variable {o s p:LB} {f c w r n:Int} {g:LI} {a:Int} {x:LB} {e:Int}
theorem Bh.new(ho:o.length≤64):Bh o [] [] 0 0 0 0 0 [] 0 [] 0:=by
 refine .wt ⟨.new rfl rfl rfl rfl rfl rfl rfl rfl,⟨by simp,by simp,by simp⟩,OutB.nil,?_⟩ (Nat.le_refl _) fun b _=>rfl
 rw[cadenzaref37_take,Oc,if_pos (by decide),Bhl [] (by simp),Aa]
 rfl
end Go.Pl
set_option linter.unusedVariables false
set_option linter.unusedSimpArgs false
namespace Go.Pl
open Go Go.Lv
section
variable {o s p:LB} {f c w r n:Int} {g:LI} {a:Int} {x:LB} {e:Int}
theorem FitD.drop(h:FitD o f c w r n g a x)(t:Nat):FitD o f c w r n g a (x.drop t):=by
 cases h with
 |new e1 e2 e3 e4 e5 e6 e7 e8=>subst e8;exact .new e1 e2 e3 e4 e5 e6 e7 (by simp)
 |head F C W R N hd hpw e6 e7 e8=>subst e8;exact .head F C W R N hd hpw e6 e7 (by simp)
 |tab F C W R N A hd hpw ht hl ea hA=>exact .tab F C W R N A hd hpw ht hl ea hA
theorem OutB.drop(h:OutB f c w r n g a x)(t:Nat):OutB f c w r n g a (x.drop t):=by
 intro F C W R N A hd hg ha
 have:=h F C W R N A hd hg ha
 rw[List.length_drop];omega
end
end Go.Pl
set_option linter.unusedVariables false
set_option linter.unusedSimpArgs false
namespace Go.Pl
open Go Go.Lv
end Go.Pl
set_option linter.unusedVariables false
set_option linter.unusedSimpArgs false
namespace Go.Pl
open Go Go.Lv
section
variable {o p:LB} {f c w r n:Int} {g:LI} {a:Int} {x:LB} {q:Nat}
theorem Aq4(hp:p.length≤100000)(hg:g.length≤1000)(hx:x.length≤13000000)(h:cadenzaref37_take o p f c w r n g a x false 0=some (o,p,f,c,w,r,n,g,a,x,false,0, -1)):loopR (q+1) o p f c w r n g a x=some (o,p,f,c,w,r,n,g,a,x,false,0,0):=by
 rw[loopR,Jn,Od,h,Aa]
 simp only
 rw[if_pos (by decide),Cck hp (by omega) hx,Aa]
theorem Awd(hx:x.length≤13000000){e:Int}(he:0<e){t2:LB}{t3 t4 t5 t6 t7:Int}{t8:LI}{t9:Int}{t11:Bool}{t12:Int}(h:cadenzaref37_take o p f c w r n g a x false 0=some (o,t2,t3,t4,t5,t6,t7,t8,t9,x,t11,t12,e)):loopR (q+1) o p f c w r n g a x=some (o,[],0,0,0,0,0,[],0,x,false,e,e):=by
 rw[loopR,Jn,Od,h,Aa]
 simp only
 rw[if_neg (by rw[Cku (by omega)];decide),if_pos (by rw[Ah];simp;omega),Bur hx,Aa]
theorem Bmg{p':LB}{f' c' w' r' n':Int}{g':LI}{a':Int}{x':LB}(h:cadenzaref37_take o p f c w r n g a x false 0=some (o,p',f',c',w',r',n',g',a',x',false,0,0)):loopR (q+1) o p f c w r n g a x=loopR q o p' f' c' w' r' n' g' a' x':=by
 rw[loopR,Jn,Od,h,Aa]
 simp only
 rw[if_neg (by decide),if_neg (by decide)]
end
def Ends(o:LB)(R:Option Cnd)(x:LB)(e:Int):Prop:=(0<e∧R=some (o,[],0,0,0,0,0,[],0,x,false,e,e))∨(∃(p:LB) (f c w r n:Int) (g:LI) (a:Int),p.length≤100000∧R=some (o,p,f,c,w,r,n,g,a,x,false,0,0)∧Hr o p f c w r n g a x false 0=some e)
theorem Bui(b p:LB)(hb:b.length≤20000)(hp:p.length≤64)(q:Nat):
  (∃e:Int,e≠0∧seekto_Open b p=some (Up e)∧Ends p (loopR (q+2) p b 0 0 0 0 0 [] 0 []) [] e)∨(∃f c w r n A l,Opn b p f c w r n A l∧loopR (q+2) p b 0 0 0 0 0 [] 0 []=loopR q p (b.drop A) (f:Int) (c:Int) (w:Int) (r:Int) (n:Int) l 0 []):=by
 have hx0:([]:LB).length≤13000000:=by simp
 have hg0:([]:LI).length≤1000:=by simp
 have hT:cadenzaref37_take p b 0 0 0 0 0 [] 0 [] false 0=cadenzaref37_take p b 0 0 0 0 0 [] 0 [] false 0:=rfl
 conv at hT=>rhs;rw[cadenzaref37_take,Oc,if_pos (by decide),Bhl b (by omega),Aa,stS]
 have hE:Hr p b 0 0 0 0 0 [] 0 [] false 0=Hr p b 0 0 0 0 0 [] 0 [] false 0:=rfl
 conv at hE=>rhs;rw[Hr,if_pos (by decide),Wv b (by omega),Aa]
 have hP:seekto_Open b p=seekto_Open b p:=rfl
 conv at hP=>rhs;rw[seekto_Open,Fx,if_neg (by rw[Ak,Ac];simp;omega),if_neg (by rw[Ak,Ac];simp;omega),Ez b (by omega),Aa]
 have hfn:=Cag b
 have hrn:=Cfe (hdr b)
 have hopen:=Bc2 b p (by omega) hp
 simp only at hE
 by_cases h2:(frontS b).2=0
 ·obtain⟨p0,p1,p2⟩:=Akr h2
  have hc:=Cb (l:=b) p0 p1
  have hlen:(hdr b).length=b.length-(frontS b).1.toNat:=by simp[hdr]
  simp only[h2]at hP hE
  rw[if_neg (show ¬(frontS b).2=24 by omega),if_neg (show ¬(frontS b).2≠0 by omega)]at hT
  rw[if_neg (by rw[Ah];simp),hc,Aa,show b.drop (frontS b).1.toNat=hdr b from rfl,Ql _ (by simp[hdr];omega),Aa]at hP
  rw[if_neg (by rw[Ah];simp),hc,Aa,show b.drop (frontS b).1.toNat=hdr b from rfl,Aqx _ (by simp[hdr];omega),Aa]at hE
  by_cases h3:(readS (hdr b)).2.2.2.2.2=0
  ·obtain⟨g1,g2,g3,g4⟩:=Avt h3
   have hbeg:¬((Bc3 (hdr b) ID3||Bc3 (hdr b) APX)=true):=by
    have i1:Bc3 (hdr b) ID3=false:=by rw[Bc3,decide_eq_false (by simp[ID3];omega)];rfl
    have i2:Bc3 (hdr b) APX=false:=by rw[Bc3,decide_eq_false (by simp[APX];omega)];rfl
    rw[i1,i2];decide
   rw[if_neg hbeg,if_neg (show ¬(readS (hdr b)).2.2.2.2.2=24 by omega),h3]at hT
   simp only at hT
   rw[if_neg (by decide)]at hT
   have hd:HdI (f0 (hdr b):Int) (f1 (hdr b):Int) (f2 (hdr b):Int) (f3 (hdr b):Int) (f4 (hdr b):Int) (f0 (hdr b)) (f1 (hdr b)) (f2 (hdr b)) (f3 (hdr b)) (f4 (hdr b)):=⟨rfl,rfl,rfl,rfl,rfl,g3,g4⟩
   generalize hF:(frontS b).1.toNat=F at*
   have hF':(frontS b).1=(F:Int):=by omega
   rw[g1,hF']at hP hT
   simp only at hP hT
   generalize f0 (hdr b)=f at*
   generalize f1 (hdr b)=c at*
   generalize f2 (hdr b)=w at*
   generalize f3 (hdr b)=r at*
   generalize f4 (hdr b)=n at*
   have t22:Ad (F:Int) 22=((F+22:Nat):Int):=by rw[Ag (by omega) (by omega)];omega
   have t30:Ad ((F+22:Nat):Int) 8=((F+30:Nat):Int):=by rw[Ag (by omega) (by omega)];omega
   have hf12:f=1∨f=2:=by simp only[shapeB,decide_eq_true_eq]at g3;omega
   have hf1:geq (f:Int) 1=decide (f=1):=by rw[As,Bool.eq_iff_iff];simp;omega
   rw[if_neg (by rw[Ah];simp),t22,t30]at hP
   rw[Cb (by omega) (by omega),Aa,Aie,Ah5,Alm,show((F:Int)+22).toNat=F+22 by omega]at hT
   by_cases hpass:((p==([]:List UInt8)) !=(geq (f:Int) (1:Int)))=true
   ·rw[if_pos hpass]at hP hT
    rw[Aa]at hT
    exact .inl ⟨26,by omega,hP, .inl ⟨by omega,Awd (q:=q+1) hx0 (by decide) hT⟩⟩
   ·rw[if_neg hpass]at hP hT
    rw[Aa]at hT
    have hl1:=Bmg (q:=q+1) hT
    have hpf:(p=[]↔f=1):=by
     rw[As]at hpass
     have h5:(p==([]:List UInt8))=((f:Int)==1):=by simpa using hpass
     have h6:(p==([]:List UInt8))=true↔((f:Int)==1)=true:=by rw[h5]
     rw[beq_iff_eq,beq_iff_eq]at h6
     rw[h6];omega
    have hpw:(p==([]:LB))=decide (f=1):=by rw[←hf1];simpa using hpass
    have hdl:(b.drop (F+22)).length=b.length-(F+22):=List.length_drop
    have hE2:Hr p (b.drop (F+22)) (f:Int) (c:Int) (w:Int) (r:Int) (n:Int) [] 0 [] false 0=some 24:=by
     rw[Hr,if_neg (by rw[As];simp;omega),if_pos (by decide)]
    have hT2:cadenzaref37_take p (b.drop (F+22)) (f:Int) (c:Int) (w:Int) (r:Int) (n:Int) [] 0 [] false 0=cadenzaref37_take p (b.drop (F+22)) (f:Int) (c:Int) (w:Int) (r:Int) (n:Int) [] 0 [] false 0:=rfl
    conv at hT2=>rhs;rw[cadenzaref37_take,Oc,if_neg (by rw[As];simp;omega),Ahn,Ah1,if_pos (by decide),Aj2,Acj]
    have hend:∀D:Nat,F+22+D≤b.length→D=(if f=2 then 8 else 0)→seekto_Open b p=Ha b (f:Int) (c:Int) (w:Int) (r:Int) (n:Int) ((F+22+D:Nat):Int)→
      cadenzaref37_take p (b.drop (F+22)) (f:Int) (c:Int) (w:Int) (r:Int) (n:Int) [] 0 [] false 0=((La (b.drop (F+22)) (f:Int) (c:Int) (w:Int) (r:Int) (n:Int) (D:Int)).bind (fun(ag,ak,w1)=>if(Ay w1 0)then some (p,b.drop (F+22),(f:Int),(c:Int),(w:Int),(r:Int),(n:Int),([]:LI),(0:Int),([]:LB),false,(0:Int),w1)else(Bo (b.drop (F+22)) ag (Ac (b.drop (F+22)))).bind fun al=>some (p,al,(f:Int),(c:Int),(w:Int),(r:Int),(n:Int),ak,(0:Int),([]:LB),false,(0:Int),(0:Int))))→
      (∃e:Int,e≠0∧seekto_Open b p=some (Up e)∧Ends p (loopR (q+2) p b 0 0 0 0 0 [] 0 []) [] e)∨(∃f c w r n A l,Opn b p f c w r n A l∧loopR (q+2) p b 0 0 0 0 0 [] 0 []=loopR q p (b.drop A) (f:Int) (c:Int) (w:Int) (r:Int) (n:Int) l 0 []):=by
     intro D hD hD2 e1 e2
     obtain⟨_,k2,k3⟩:=Cjy hd p (b.drop (F+22)) (by omega) D (by omega) 0 [] false 0
     rw[Aq6 g3 g4 b (by omega) (F+22+D) hD]at e1
     rw[k2,Aa]at e2
     have hnn:=Cbi ((b.drop (F+22)).drop D) (framesL (longN r) n).length
     have hok:=Awb (b:=(b.drop (F+22)).drop D) (n:=(framesL (longN r) n).length)
     rw[List.drop_drop]at e2 hnn hok k3
     generalize hz:seekS (b.drop (F+22+D)) (framesL (longN r) n).length=z at*
     obtain⟨z1,z2⟩:=z
     simp only at e1 e2 hnn hok k3
     by_cases h:z2≠0
     ·rw[if_pos h]at e1
      refine .inl ⟨z2,h,e1,?_⟩
      by_cases h24:z2=24
      ·rw[if_pos h24]at e2
       simp only at e2
       rw[if_pos (by decide)]at e2
       rw[h24]
       exact .inr ⟨_,_,_,_,_,_,_,_,by omega,hl1.trans (Aq4 (by omega) hg0 hx0 e2),hE2⟩
      ·rw[if_neg h24]at e2
       simp only at e2
       rw[if_pos (by rw[Ah];simpa using h)]at e2
       exact .inl ⟨by omega,hl1.trans (Awd hx0 (by omega) e2)⟩
     ·have h0:z2=0:=by simpa using h
      subst h0
      obtain⟨k1,m2,m3,m4,m5,m6⟩:=hok rfl
      have hk3:=k3 rfl
      simp only[Prod.mk.injEq,and_true]at k1
      have gl:z1.length=(framesL (longN r) n).length:=by rw[k1];exact Se _ _
      rw[if_neg (show ¬((0:Int)≠0) by decide)]at e1
      rw[if_neg (show ¬((0:Int)=24) by decide)]at e2
      simp only at e2
      rw[if_neg (by decide),Cb (by omega) (by omega),Aa,List.drop_drop]at e2
      rcases hopen with⟨e,he,h1,_⟩|⟨f',c',w',r',n',A',l',o'⟩
      ·rw[e1]at h1
       have:=Option.some.inj h1
       simp only[Up,Prod.mk.injEq]at this
       exact absurd this.2.2.2.2.2.2.2.symm he
      ·have hpr:=o'.prog
       rw[e1]at hpr
       simp only[Option.some.injEq,Prod.mk.injEq]at hpr
       obtain⟨v1,v2,v3,v4,v5,v6,v7,_⟩:=hpr
       refine .inr ⟨f',c',w',r',n',A',l',o',?_⟩
       rw[←v1,←v2,←v3,←v4,←v5,←v7]
       refine hl1.trans ((Bmg e2).trans ?_)
       congr 2
       omega
    by_cases h5:f=2
    ·have hpne:p≠ []:=fun e=>by have:=hpf.1 e;omega
     have h64:(p !=([]:List UInt8))=true:=by simpa using hpne
     rw[if_pos h64]at hP
     rw[if_pos (by rw[As,h5];rfl)]at hT2
     by_cases h6:b.length<F+30
     ·rw[if_pos (by rw[Ae,Ac];simp;omega)]at hP hT2
      rw[Aa]at hT2
      simp only at hT2
      rw[if_pos (by decide)]at hT2
      exact .inl ⟨24,by omega,hP, .inr ⟨_,_,_,_,_,_,_,_,by omega,hl1.trans (Aq4 (by omega) hg0 hx0 hT2),hE2⟩⟩
     ·have hseg:((b.take (F+30)).drop (F+22)).length=8:=by simp;omega
      have hsg2:(b.drop (F+22)).take 8=(b.take (F+30)).drop (F+22):=by rw[List.drop_take];congr 1;omega
      rw[if_neg (by rw[Ae,Ac];simp;omega),Me (by omega) (by omega) (by omega),Aa]at hP
      rw[if_neg (by rw[Ae,Ac,hdl];simp;omega),Gz (by omega) (by omega),Aa,Be4 p hp,Aa,show(8:Int).toNat=8 from rfl,hsg2]at hT2
      rw[Rg,Aym p hp,Aa]at hP
      simp only at hP
      rw[if_neg (by rw[Ah,Ah,Ac,Ac,Bb,show((F+30:Nat):Int).toNat=F+30 from rfl,show((F+22:Nat):Int).toNat=F+22 from rfl,hseg];simp),Fv,Aa,Aa]at hP
      simp only at hP
      rw[if_neg (by rw[Ah];simp),show((F+30:Nat):Int).toNat=F+30 from rfl,show((F+22:Nat):Int).toNat=F+22 from rfl]at hP
      generalize(b.take (F+30)).drop (F+22)=seg at*
      by_cases h7:seg=Ns (Sk p).toNat 8
      ·rw[if_neg (by simp[h7])]at hP hT2
       exact hend 8 (by omega) (by rw[if_pos h5]) hP hT2
      ·rw[if_pos (by simpa using h7)]at hP
       rw[if_pos (by simpa using h7),Aa]at hT2
       simp only at hT2
       rw[if_pos (by decide)]at hT2
       exact .inl ⟨26,by omega,hP, .inl ⟨by omega,hl1.trans (Awd hx0 (by decide) hT2)⟩⟩
    ·have hpe:p=[]:=hpf.2 (by omega)
     rw[if_neg (by rw[hpe];simp)]at hP
     rw[if_neg (by rw[As];simp;omega)]at hT2
     exact hend 0 (by omega) (by rw[if_neg h5]) hP hT2
  ·have h3':=h3
   generalize readS (hdr b)=v at*
   obtain⟨v1,v2,v3,v4,v5,v6⟩:=v
   simp only at h3 hP hE hrn
   rw[if_pos (by rw[Ah];simpa using h3)]at hP
   refine .inl ⟨v6,h3,hP,?_⟩
   by_cases hbeg:(Bc3 (hdr b) ID3||Bc3 (hdr b) APX)=true
   ·rw[if_pos hbeg]at hT
    simp only at hT
    rw[if_pos (by decide)]at hT
    exact .inr ⟨_,_,_,_,_,_,_,_,by omega,Aq4 (by omega) hg0 hx0 hT,hE⟩
   ·rw[if_neg hbeg]at hT
    by_cases h24:v6=24
    ·rw[if_pos h24]at hT
     simp only at hT
     rw[if_pos (by decide)]at hT
     exact .inr ⟨_,_,_,_,_,_,_,_,by omega,Aq4 (by omega) hg0 hx0 hT,hE⟩
    ·rw[if_neg h24]at hT
     simp only at hT
     rw[if_pos (by rw[Ah];simpa using h3)]at hT
     exact .inl ⟨by omega,Awd hx0 (by omega) hT⟩
 ·have h2':=h2
  generalize frontS b=v at*
  obtain⟨v,e⟩:=v
  simp only at h2 hP hT hE hfn
  rw[if_pos (by rw[Ah];simpa using h2)]at hP hE
  refine .inl ⟨e,h2,hP,?_⟩
  by_cases h24:e=24
  ·rw[if_pos h24]at hT
   simp only at hT
   rw[if_pos (by decide)]at hT
   exact .inr ⟨_,_,_,_,_,_,_,_,by omega,Aq4 (by omega) hg0 hx0 hT,hE⟩
  ·rw[if_neg h24,if_pos h2]at hT
   simp only at hT
   rw[if_pos (by rw[Ah];simpa using h2)]at hT
   exact .inl ⟨by omega,Awd hx0 (by omega) hT⟩
end Go.Pl
set_option linter.unusedVariables false
set_option linter.unusedSimpArgs false
namespace Go.Pl
open Go Go.Lv
end Go.Pl
set_option linter.unusedVariables false
set_option linter.unusedSimpArgs false
namespace Go.Pl
open Go Go.Lv
section
variable {c w r n:Nat} {x:List Int32} (h:ClipOk c w r n x) {p:LB} (hp:p.length≤64) (h4:x.length≤400)
include h hp h4
omit hp in
theorem Bhw:(Gv c w r n x p).length≤8000:=by
 have h1:=Brb h p
 have h2:=Bda (c:=c) (w:=w) (r:=r) (n:=n) (x:=x) p
 rw[Uw]at h2
 have h3:(n-1)/longN r≤n-1:=Nat.div_le_self _ _
 have h5:n*1≤n*c:=Nat.mul_le_mul_left n h.ch.1
 have h6:=h.len
 have:=h.cnt
 omega
end
end Go.Pl
set_option linter.unusedVariables false
namespace Go.Pl
open Go Go.Lv
theorem Cg7:Rf=some true:=by kernel_rfl
end Go.Pl
set_option linter.unusedVariables false
set_option linter.unusedSimpArgs false
namespace Go.Pl
open Go Go.Lv
def Ba8(f:LB)(n:Nat):Bool:=(f.getD (n/8) 0).toNat.testBit (n %8)
def bfl(f:LB)(n:Nat):LB:=f.set (n/8) ((f.getD (n/8) 0)^^^UInt8.ofNat (2^(n %8)))
def bB(a g:Nat):Nat→Nat→LB→LB
 |0,_,f=>f
 |q+1,k,f=>bB a g q (k+1) (if g.testBit k=true∧a+k<8*f.length then bfl f (a+k)else f)
def bF(a g n:Nat):Nat→Nat→Bool
 |0,_=>false
 |q+1,k=>(g.testBit k&&decide (a+k<8*n))||bF a g n q (k+1)
theorem Bpr(f:LB)(n:Nat):(bfl f n).length=f.length:=by simp[bfl]
theorem Cbr(a g:Nat):∀(q k:Nat) (f:LB),(bB a g q k f).length=f.length
 |0,_,_=>rfl
 |q+1,k,f=>by
  rw[bB,Cbr a g q]
  split
  ·exact Bpr _ _
  ·rfl
theorem Bx1(f:LB){n m:Nat}(hn:n<8*f.length)(hm:m<8*f.length):Ba8 (bfl f n) m=(Ba8 f m^^decide (m=n)):=by
 unfold Ba8 bfl
 by_cases h:m/8=n/8
 ·rw[h,List.getD_eq_getElem?_getD,List.getElem?_set_self (by omega),Option.getD_some,UInt8.toNat_xor,Nat.testBit_xor]
  have h1:(UInt8.ofNat (2^(n %8))).toNat=2^(n %8):=by
   rw[UInt8.toNat_ofNat']
   exact Nat.mod_eq_of_lt (Nat.pow_lt_pow_right (by omega) (by omega:n %8<8))
  rw[h1,Nat.testBit_two_pow]
  congr 1
  exact decide_eq_decide.2 ⟨fun e=>by omega,fun e=>by subst e;rfl⟩
 ·rw[List.getD_eq_getElem?_getD,List.getElem?_set_ne (Ne.symm h),←List.getD_eq_getElem?_getD]
  have:decide (m=n)=false:=decide_eq_false (fun e=>h (by rw[e]))
  rw[this,Bool.xor_false]
theorem Bu0(a g:Nat):∀(q k:Nat) (f:LB) {m:Nat},m<8*f.length→Ba8 (bB a g q k f) m=(Ba8 f m^^ (decide (a+k≤m∧m<a+k+q)&&g.testBit (m-a)))
 |0,k,f,m,hm=>by
  have:decide (a+k≤m∧m<a+k+0)=false:=decide_eq_false (by omega)
  rw[this];simp[bB]
 |q+1,k,f,m,hm=>by
  rw[bB]
  have hl:(if g.testBit k=true∧a+k<8*f.length then bfl f (a+k)else f).length=f.length:=by
   split
   ·exact Bpr _ _
   ·rfl
  rw[Bu0 a g q (k+1) _ (by rw[hl];exact hm)]
  by_cases he:m=a+k
  ·subst he
   have h1:decide (a+(k+1)≤a+k∧a+k<a+(k+1)+q)=false:=decide_eq_false (by omega)
   have h2:decide (a+k≤a+k∧a+k<a+k+(q+1))=true:=decide_eq_true (by omega)
   rw[h1,h2,Nat.add_sub_cancel_left,Bool.false_and,Bool.xor_false,Bool.true_and]
   by_cases hg:g.testBit k=true
   ·rw[if_pos ⟨hg,hm⟩,Bx1 f hm hm,hg];simp
   ·rw[if_neg (fun h=>hg h.1)]
    simp only[Bool.not_eq_true]at hg
    rw[hg,Bool.xor_false]
  ·have h1:decide (a+(k+1)≤m∧m<a+(k+1)+q)=decide (a+k≤m∧m<a+k+(q+1)):=decide_eq_decide.2 (by omega)
   rw[h1]
   congr 1
   split
   ·rename_i h
    rw[Bx1 f h.2 hm,decide_eq_false he,Bool.xor_false]
   ·rfl
theorem Cde{a g n:Nat}:∀{q k:Nat},bF a g n q k=true→∃j,k≤j∧j<k+q∧g.testBit j=true∧a+j<8*n
 |0,k,h=>by simp[bF]at h
 |q+1,k,h=>by
  simp only[bF,Bool.or_eq_true,Bool.and_eq_true,decide_eq_true_eq]at h
  rcases h with⟨h1,h2⟩|h
  ·exact⟨k,Nat.le_refl _,by omega,h1,h2⟩
  ·obtain⟨j,h1,h2,h3⟩:=Cde h
   exact⟨j,by omega,by omega,h3⟩
theorem Cl4{a g:Nat}{f:LB}(h:bF a g f.length 32 0=true):bB a g 32 0 f≠f:=by
 obtain⟨j,h1,h2,h3,h4⟩:=Cde h
 intro e
 have:=Bu0 a g 32 0 f (m:=a+j) h4
 rw[e,Nat.add_sub_cancel_left,h3,decide_eq_true (by omega:a+0≤a+j∧a+j<a+0+32)]at this
 cases hb:Ba8 f (a+j)<;>rw[hb]at this<;>simp at this
theorem Cmc(g:UInt32)(k:Nat):geq (Dc (Bi g (GI.toZ (k:Int)).toNat) 1) (1:UInt32)=g.toNat.testBit k:=by
 rw[show(GI.toZ (k:Int)).toNat=k from by simp[GI.toZ],Bg6,Bbk]
 rw[Nat.testBit_eq_decide_div_mod_eq]
 have h1:((Bi g k)&&&1).toNat=g.toNat/2^k %2:=by
  rw[UInt32.toNat_and,Acz]
  exact Nat.and_one_is_mod _
 rw[show((Bi g k&&&1)==(1:UInt32))=decide ((Bi g k&&&1)=1)from rfl]
 refine decide_eq_decide.2 ⟨fun e=>by rw[←h1,e];rfl,fun e=>UInt32.toNat_inj.1 (by rw[h1,e];rfl)⟩
theorem Biq(a:Nat)(g:UInt32):∀(r k q:Nat) (h:Bool) (f:LB),r+k=32→r<q→a<8*f.length→f.length≤100000→
  Kh (a:Int) g q (k:Int) h f=Wq (h||bF a g.toNat f.length r k) (bB a g.toNat r k f)
 |r,k,0,h,f,_,hq,_,_=>absurd hq (Nat.not_lt_zero _)
 |0,k,q+1,h,f,hk,_,_,_=>by
  obtain rfl:k=32:=by omega
  simp only[Kh,Yo]
  rw[if_neg (by decide),bF,Bool.or_false]
  rfl
 |r+1,k,q+1,h,f,hk,hq,ha,hl=>by
  simp only[Kh,Yo]
  have hk32:k<32:=by omega
  have e1:Bn (k:Int) 32=true:=by simp[Bn,GI.toZ];omega
  have e2:Jz (k:Int) 0=true:=by simp[Jz,GI.toZ]
  have e3:Ad (a:Int) (k:Int)=((a+k:Nat):Int):=by rw[Ag (by omega) (by omega)];omega
  have e4:Au 8 (Ac f)=((8*f.length:Nat):Int):=by unfold Ac;rw[Fb (by omega) (by omega)];omega
  rw[if_pos e1,e2,Ci2,Aa,Cmc,e3,e4]
  have hadd:Ad (k:Int) 1=((k+1:Nat):Int):=by rw[Ag (by omega) (by omega)];omega
  have go:∀(h':Bool) (f':LB),f'.length=f.length→Yz (Kh (a:Int) g q) (a:Int) g (k:Int) h' f'=Wq (h'||bF a g.toNat f.length r (k+1)) (bB a g.toNat r (k+1) f'):=fun h' f' hf'=>by
   simp only[Yz,At9,hadd]
   rw[Biq a g r (k+1) q h' f' (by omega) (by omega) (by rw[hf'];exact ha) (by rw[hf'];exact hl),hf']
  rw[bF,bB]
  by_cases hb:g.toNat.testBit k=true
  ·rw[if_pos hb]
   by_cases hlt:a+k<8*f.length
   ·have e5:Bn ((a+k:Nat):Int) ((8*f.length:Nat):Int)=true:=by simp[Bn,GI.toZ];omega
    have e6:Bt ((a+k:Nat):Int) 8=(((a+k)/8:Nat):Int):=by
     rw[Afj,Int.tdiv_eq_ediv_of_nonneg (by omega),Br (by omega) (by omega)];omega
    have e7:Fc ((a+k:Nat):Int) 8=(((a+k) %8:Nat):Int):=by
     unfold Fc;rw[Int.tmod_eq_emod_of_nonneg (by omega)];omega
    have e8:Jz (((a+k) %8:Nat):Int) 0=true:=by simp[Jz,GI.toZ];omega
    have hlt8:(a+k)/8<f.length:=by omega
    rw[if_pos e5,e6,Bm hlt8]
    simp only[Aa,e7,e8,Ci2]
    rw[Qj _ hlt8,Aa,if_pos ⟨hb,hlt⟩]
    have ef:f.set ((a+k)/8) (Sy f[(a+k)/8] (Cp (1:UInt8) (GI.toZ (((a+k) %8:Nat):Int)).toNat))=bfl f (a+k):=by
     unfold bfl
     rw[Bnz,List.getD_eq_getElem?_getD,List.getElem?_eq_getElem hlt8]
     congr 2
     apply UInt8.toNat_inj.1
     rw[Bxu,UInt8.toNat_ofNat',show(GI.toZ (((a+k) %8:Nat):Int)).toNat=(a+k) %8 from Int.toNat_natCast _]
     simp
    rw[ef,go true _ (Bpr _ _)]
    simp[hb,hlt]
   ·have e5:Bn ((a+k:Nat):Int) ((8*f.length:Nat):Int)=false:=by simp[Bn,GI.toZ];omega
    rw[e5,if_neg (by simp),if_neg (fun h=>hlt h.2),go h f rfl]
    simp[hlt]
  ·rw[if_neg hb,if_neg (fun h=>hb h.1),go h f rfl]
   simp only[Bool.not_eq_true]at hb
   simp[hb]
theorem Cce(f:LB)(bit:Int)(g:UInt32)(hl:f.length≤100000):Akc f bit g=
  if 0≤bit∧bit<8*f.length∧bF bit.toNat g.toNat f.length 32 0=true then some (bB bit.toNat g.toNat 32 0 f,0)else some ([],2):=by
 unfold Akc Ajf
 have e4:Au 8 (Ac f)=((8*f.length:Nat):Int):=by unfold Ac;rw[Fb (by omega) (by omega)];omega
 have hc:Oe f=some f:=by unfold Oe;rw[Ce (by simp;omega)];rfl
 rw[e4,hc,Aa]
 by_cases hb:0≤bit∧bit<8*f.length
 ·have h1:(Bn bit 0||Jz bit ((8*f.length:Nat):Int))=false:=by simp[Bn,Jz,GI.toZ];omega
  rw[h1]
  obtain⟨a,rfl⟩:=Int.eq_ofNat_of_zero_le hb.1
  have:=Biq a g 32 0 FUEL false f rfl (by have:=Al;omega) (by omega) hl
  rw[show((0:Nat):Int)=0 from rfl]at this
  rw[Int.toNat_natCast,Aio,this,Bool.false_or]
  unfold Wq
  cases hf:bF a g.toNat f.length 32 0 with
  |true=>exact(if_pos ⟨hb.1,hb.2,rfl⟩).symm
  |false=>exact(if_neg (fun h=>by cases h.2.2)).symm
 ·have h1:(Bn bit 0||Jz bit ((8*f.length:Nat):Int))=true:=by simp[Bn,Jz,GI.toZ];omega
  rw[h1]
  exact(if_neg (fun h=>hb ⟨h.1,h.2.1⟩)).symm
theorem tb8(c:UInt8){j:Nat}(hj:8≤j):c.toNat.testBit j=false:=Nat.testBit_lt_two_pow (Nat.lt_of_lt_of_le c.toNat_lt (Nat.pow_le_pow_right (by omega) hj))
end Go.Pl
set_option linter.unusedVariables false
set_option linter.unusedSimpArgs false
namespace Go.Pl
open Go Go.Lv
theorem Box{c n:Nat}(h:c<2^n)(L:Nat):2^n*L+c=(2^n*L)^^^c:=by
 rw[Nat.two_pow_add_eq_or_of_lt h]
 apply Nat.eq_of_testBit_eq;intro i
 rw[Nat.testBit_or,Nat.testBit_xor]
 by_cases hi:i<n
 ·have:(2^n*L).testBit i=false:=by rw[Nat.testBit_two_pow_mul];simp;omega
  rw[this];simp
 ·have:c.testBit i=false:=Nat.testBit_lt_two_pow (Nat.lt_of_lt_of_le h (Nat.pow_le_pow_right (by omega) (by omega)))
  rw[this];simp
theorem Bww(n a b:Nat):2^n*(a^^^b)=(2^n*a)^^^ (2^n*b):=by
 rw[Nat.mul_comm,Nat.mul_comm _ a,Nat.mul_comm _ b,←Nat.shiftLeft_eq,←Nat.shiftLeft_eq,←Nat.shiftLeft_eq,Nat.shiftLeft_xor_distrib]
theorem Beg:∀(a b s:Nat),Jc (a+b) s=Jc b (Jc a s)
 |0,b,s=>by rw[Nat.zero_add];rfl
 |a+1,b,s=>by rw[show a+1+b=(a+b)+1 by omega,Jc,Beg a b,Jc]
theorem Bjs:∀k:Nat,Jc k 0=0
 |0=>rfl
 |k+1=>by rw[Jc,show Aac 0=0 from rfl,Bjs k]
theorem Bvu(k:Nat):256^k=2^(8*k):=by rw[Nat.pow_mul]
theorem Bc8(c:UInt8)(r:LB):leN (c::r)=c.toNat^^^ (2^8*leN r):=by
 have:=Box (n:=8) c.toNat_lt (leN r)
 rw[leN,Nat.xor_comm,←this];omega
theorem Ayk:∀(l:LB) (s:Nat),Ail s l=Jc (8*l.length) (s^^^leN l)
 |[],s=>by simp[Ail,leN,Jc]
 |c::r,s=>by
  have ih:=Ayk r (Axy s c.toNat)
  have e:Ail s (c::r)=Ail (Axy s c.toNat) r:=rfl
  rw[e,ih,Axy,List.length_cons,show 8*(r.length+1)=8+8*r.length by omega,Beg,Bc8,←Nat.xor_assoc,Ax7 8 _ (2^8*leN r),Ayg]
theorem Aak(a b:LB):leN (a++b)=leN a^^^ (2^(8*a.length)*leN b):=by
 have h:=Bas a
 rw[Bvu]at h
 rw[Az6,Bvu,Nat.add_comm,Box h,Nat.xor_comm]
theorem Aph(a b c:Nat):(a^^^b)^^^ (a^^^c)=b^^^c:=by
 rw[Nat.xor_comm a b,Nat.xor_assoc,←Nat.xor_assoc a a c,Nat.xor_self,Nat.zero_xor]
structure Brst (b x:LB):Prop where
 len:x.length=b.length
 win:∃k W:Nat,0<W∧W<2^32∧leN b^^^leN x=2^k*W
theorem Brst.mid{a m m' z:LB}(hm:m'.length=m.length)(h:Brst (a++(m++z)) (a++(m'++z))):Brst m m':=by
 obtain⟨_,k,W,h1,h2,h3⟩:=h
 refine⟨hm,?_⟩
 rw[Aak,Aak a,Aph,←Bww,Aak,Aak m',hm,Nat.xor_comm (leN m) _,Nat.xor_comm (leN m') _,Aph]at h3
 generalize leN m^^^leN m'=Z at*
 generalize 8*a.length=j at*
 by_cases hk:j≤k
 ·refine⟨k-j,W,h1,h2,?_⟩
  have:2^j*Z=2^j*(2^(k-j)*W):=by rw[h3,←Nat.mul_assoc,←Nat.pow_add];congr 2;omega
  exact Nat.eq_of_mul_eq_mul_left (Nat.two_pow_pos j) this
 ·have e:2^k*(2^(j-k)*Z)=2^k*W:=by rw[←h3,←Nat.mul_assoc,←Nat.pow_add];congr 2;omega
  have e:=Nat.eq_of_mul_eq_mul_left (Nat.two_pow_pos k) e
  have hp:=Nat.two_pow_pos (j-k)
  have hZ:Z≤W:=by
   have:=Nat.mul_le_mul_right Z hp
   omega
  refine⟨0,Z,?_,by omega,by rw[Nat.pow_zero,Nat.one_mul]⟩
  rcases Nat.eq_zero_or_pos Z with h0|h0
  ·rw[h0,Nat.mul_zero]at e;omega
  ·exact h0
theorem Brst.ne{b x:LB}(h:Brst b x):b≠x:=by
 obtain⟨_,k,W,h1,h2,h3⟩:=h
 intro e
 rw[e,Nat.xor_self]at h3
 have:=Nat.mul_pos (Nat.two_pow_pos k) h1
 omega
theorem By7{N:Nat}(h:N<2^32):N^^^4294967295=4294967295-N:=by
 apply Nat.eq_of_testBit_eq;intro i
 have e1:4294967295-N=2^32-(N+1):=by omega
 have e2:(4294967295:Nat)=2^32-1:=by decide
 rw[Nat.testBit_xor,e1,Nat.testBit_two_pow_sub_succ h,e2,Nat.testBit_two_pow_sub_one]
 by_cases hi:i<32
 ·simp[hi]
 ·have:N.testBit i=false:=Nat.testBit_lt_two_pow (Nat.lt_of_lt_of_le h (Nat.pow_le_pow_right (by omega) (by omega)))
  simp[hi,this]
theorem Br2(d q:LB)(hq:q.length=4):((Bz d).toNat=leN q)↔Ail 4294967295 (d++q)=Jc 32 4294967295:=by
 have hN:Ail 4294967295 d<2^32:=Bp8 d (by decide)
 have hqlt:leN q<2^32:=by have:=Bph (l:=q) (by omega);omega
 have e1:(Bz d).toNat=4294967295-Ail 4294967295 d:=by
  have h1:(UInt32.ofNat (Ail 4294967295 d)).toNat=Ail 4294967295 d:=by rw[UInt32.toNat_ofNat'];exact Nat.mod_eq_of_lt hN
  rw[Bz,UInt32.toNat_sub_of_le]
  ·rw[h1];rfl
  ·rw[UInt32.le_iff_toNat_le,h1];show _≤4294967295;omega
 rw[e1,←By7 hN,Ccz,Ayk q,hq]
 generalize Ail 4294967295 d=N at*
 constructor
 ·intro h
  rw[←h,←Nat.xor_assoc,Nat.xor_self,Nat.zero_xor]
 ·intro h
  have:=Bec 32 (Bp4 hN hqlt) (by decide) h
  rw[←this,←Nat.xor_assoc,Nat.xor_self,Nat.zero_xor]
theorem Ce1{b x:LB}(h:Brst b x)(s:Nat):Ail s b≠Ail s x:=by
 obtain⟨hl,k,W,h1,h2,h3⟩:=h
 rw[Ayk,Ayk,hl]
 intro e
 have e2:Jc (8*b.length) (leN b^^^leN x)=0:=by
  have:=Ax7 (8*b.length) (s^^^leN b) (s^^^leN x)
  rw[Aph,e,Nat.xor_self]at this
  exact this
 have hlt:leN b^^^leN x<2^(8*b.length):=by
  have a1:=Bas b
  have a2:=Bas x
  rw[Bvu]at a1 a2
  rw[hl]at a2
  exact Nat.xor_lt_two_pow a1 a2
 rw[h3]at e2 hlt
 have hk:k≤8*b.length:=by
  refine Nat.le_of_not_lt fun hh=>?_
  have h4:2^(8*b.length)≤2^k:=Nat.pow_le_pow_right (by omega) (by omega)
  have h5:2^k*1≤2^k*W:=Nat.mul_le_mul_left _ h1
  omega
 rw[show 8*b.length=k+(8*b.length-k) by omega,Beg,Ayg]at e2
 have:=Bec (8*b.length-k) h2 (by decide:0<2^32) (by rw[e2,Bjs])
 omega
theorem Be0{d q d' q':LB}(hq:q.length=4)(hq':q'.length=4)(h:Brst (d++q) (d'++q'))(hs:(Bz d).toNat=leN q):(Bz d').toNat≠leN q':=by
 intro h'
 rw[Br2 _ _ hq]at hs
 rw[Br2 _ _ hq']at h'
 exact Ce1 h _ (hs.trans h'.symm)
theorem Bu7{b x:LB}(h:Brst b x)(hs:Na b=0):Na x=22:=by
 have hl:=Brh hs
 have hx:=h.len
 rw[Na,if_neg (by omega),if_neg (by omega)]at hs
 have h0:(Bz (b.take (b.length-4))).toNat=leN (b.drop (b.length-4)):=by
  by_cases h:(Bz (b.take (b.length-4))).toNat≠leN (b.drop (b.length-4))
  ·rw[if_pos h]at hs;cases hs
  ·simpa using h
 have:=Be0 (d:=b.take (b.length-4)) (q:=b.drop (b.length-4)) (d':=x.take (x.length-4)) (q':=x.drop (x.length-4)) (by rw[List.length_drop];omega) (by rw[List.length_drop];omega) (by rw[List.take_append_drop,List.take_append_drop];exact h) h0
 rw[Na,if_neg (by omega),if_neg (by omega),if_pos this]
theorem Bb0:∀(f:LB) (m:Nat),(leN f).testBit m=Ba8 f m
 |[],m=>by simp[leN,Ba8]
 |c::r,m=>by
  rw[Bc8,Nat.testBit_xor,Nat.testBit_two_pow_mul,Bb0 r,Ba8,Ba8]
  by_cases h:m<8
  ·have e1:m/8=0:=by omega
   have e2:m %8=m:=by omega
   have e3:¬8≤m:=by omega
   simp[e1,e2,e3]
  ·have e1:m/8=(m-8)/8+1:=by omega
   have e2:m %8=(m-8) %8:=by omega
   have e3:c.toNat.testBit m=false:=tb8 c (by omega)
   rw[e1,←e2,e3]
   simp[show 8≤m by omega]
theorem Bu1{f:LB}{a g:Nat}(h:bF a g f.length 32 0=true):Brst f (bB a g 32 0 f):=by
 have hlen:=Cbr a g 32 0 f
 refine⟨hlen,a,(leN f^^^leN (bB a g 32 0 f))/2^a,?_,?_,?_⟩
 all_goals
  have hbit:∀m,(leN f^^^leN (bB a g 32 0 f)).testBit m=true→a≤m∧m<a+32:=by
   intro m hm
   rw[Nat.testBit_xor,Bb0,Bb0]at hm
   by_cases hml:m<8*f.length
   ·rw[Bu0 a g 32 0 f hml]at hm
    have:decide (a+0≤m∧m<a+0+32)=true:=by
     cases Ba8 f m<;>simp at hm<;>simp<;>omega
    simp at this
    exact this
   ·have z:∀q:LB,q.length=f.length→Ba8 q m=false:=fun q hq=>by
     rw[Ba8,List.getD_eq_getElem?_getD,List.getElem?_eq_none (by omega)];simp
    rw[z f rfl,z _ hlen]at hm
    cases hm
  have hD:leN f^^^leN (bB a g 32 0 f)=2^a*((leN f^^^leN (bB a g 32 0 f))/2^a):=by
   apply Nat.eq_of_testBit_eq;intro i
   rw[Nat.testBit_two_pow_mul,Nat.testBit_div_two_pow]
   by_cases hi:a≤i
   ·simp[hi]
   ·have:(leN f^^^leN (bB a g 32 0 f)).testBit i=false:=by
     cases hh:(leN f^^^leN (bB a g 32 0 f)).testBit i
     ·rfl
     ·exact absurd (hbit i hh).1 hi
    rw[this];simp[hi]
 ·rcases Nat.eq_zero_or_pos ((leN f^^^leN (bB a g 32 0 f))/2^a)with h0|h0
  ·rw[h0,Nat.mul_zero]at hD
   have h1:leN f=leN (bB a g 32 0 f):=by
    have:=congrArg (fun z=>leN f^^^z) hD
    simp only[Nat.xor_zero]at this
    rw[←Nat.xor_assoc,Nat.xor_self,Nat.zero_xor]at this
    exact this.symm
   exact absurd (Bgq hlen.symm h1).symm (Cl4 h)
  ·exact h0
 ·refine Nat.lt_pow_two_of_testBit _ fun i hi=>?_
  rw[Nat.testBit_div_two_pow]
  cases hh:(leN f^^^leN (bB a g 32 0 f)).testBit (i+a)
  ·rfl
  ·have:=hbit _ hh;omega
 ·exact hD
end Go.Pl
set_option linter.unusedVariables false
set_option linter.unusedSimpArgs false
namespace Go.Pl
open Go Go.Lv
inductive Pl (S D A:Int) (G:Nat→Int) (l:List Int) (a:Int):UInt8→Int→Int→Prop
 |t:a<S→Pl S D A G l a 1 0 0
 |h:S≤a→a<S+22→Pl S D A G l a 2 0 0
 |d:S+22≤a→a<D→Pl S D A G l a 3 0 0
 |s:S+22≤a→D≤a→a<A→Pl S D A G l a 4 0 0
 |f (i:Nat):S+22≤a→D≤a→A≤a→i<l.length→A+(l.take i).sum≤a→a<A+(l.take (i+1)).sum→Pl S D A G l a 5 i (G i)
 |b:S+22≤a→D≤a→A≤a→A+l.sum≤a→Pl S D A G l a 6 0 0
section
variable {b p:List UInt8} {f c w r n A:Nat} {l:List Int} (o:Opn b p f c w r n A l)
include o
omit o in
theorem Byl(A:Nat)(l:List Int)(S D:Int)(G:Nat→Int)(a:Int)(h1:S+22≤a)(h2:D≤a)(h3:(A:Int)≤a):∀(j i:Nat),i+j=l.length→(A:Int)+(l.take i).sum≤a→∃g x y,Bmz G (A:Int) a l j i=(0,g,x,y,0)∧Pl S D A G l a g x y
 |0,i,hi,ha=>⟨6,0,0,rfl, .b h1 h2 h3 (by rw[show i=l.length by omega,List.take_length]at ha;exact ha)⟩
 |j+1,i,hi,ha=>by
  rw[Bmz]
  by_cases h:a<(A:Int)+(l.take (i+1)).sum
  ·rw[if_pos h]
   exact⟨5,i,G i,rfl, .f i h1 h2 h3 (by omega) ha h⟩
  ·rw[if_neg h]
   exact Byl A l S D G a h1 h2 h3 j (i+1) (by omega) (by omega)
theorem Bnc(hc0:(Aws b p f c w r n A l).2.2.2.2=0)(h3:Ki b p=some (Aws b p f c w r n A l))(a:Nat)(ha:a<b.length):
  ∃g x y,Ld b p (a:Int)=some (0,g,x,y,0)∧Pl (frontS b).1 ((A:Int)-4*(l.length:Int)-4) A (Ars c w (framesL (longN r) n)) l a g x y:=by
 have hfit:=Cee o hc0
 obtain⟨k1,k2⟩:=Bvg o hfit
 have hs1:=o.some1
 have hsum:=o.sum
 have hfile:=o.file
 have hP:Ld b p (a:Int)=Ld b p (a:Int):=rfl
 conv at hP=>rhs;rw[Ld,Aim,Gq,h3,Aa,Aa,hc0,if_neg (by rw[Ah];simp),if_neg (by simp[Ae,Cu,Ac];omega),k1,Aa]
 simp only at hP
 rw[if_neg (by rw[Ah];simp),o.prog,Aa]at hP
 simp only at hP
 rw[if_neg (by rw[Ah];simp)]at hP
 by_cases c1:(a:Int)<(frontS b).1
 ·rw[if_pos (by rw[Ae];simpa using c1)]at hP
  exact⟨_,_,_,hP, .t c1⟩
 rw[if_neg (by rw[Ae];simpa using c1)]at hP
 by_cases c2:(a:Int)<(frontS b).1+22
 ·rw[if_pos (by rw[Ae];simpa using c2)]at hP
  exact⟨_,_,_,hP, .h (by omega) c2⟩
 rw[if_neg (by rw[Ae];simpa using c2)]at hP
 by_cases c3:(a:Int)<(A:Int)-4*(l.length:Int)-4
 ·rw[if_pos (by rw[Ae];simpa using c3)]at hP
  exact⟨_,_,_,hP, .d (by omega) c3⟩
 rw[if_neg (by rw[Ae];simpa using c3)]at hP
 by_cases c4:(a:Int)<(A:Int)
 ·rw[if_pos (by rw[Ae];simpa using c4)]at hP
  exact⟨_,_,_,hP, .s (by omega) (by omega) c4⟩
 rw[if_neg (by rw[Ae];simpa using c4)]at hP
 have hl:=Bm3 o (a:Int) (by omega) (by omega) l.length 0 FUEL (by omega) (by have:=Al;omega)
 rw[List.take_zero,List.sum_nil,Int.add_zero]at hl
 have hP2:Ld b p (a:Int)=some (Bmz (Ars c w (framesL (longN r) n)) (A:Int) (a:Int) l l.length 0):=hP.trans hl
 obtain⟨g,x,y,e1,e2⟩:=Byl A l (frontS b).1 ((A:Int)-4*(l.length:Int)-4) (Ars c w (framesL (longN r) n)) (a:Int) (by omega) (by omega) (by omega) l.length 0 (by omega) (by rw[List.take_zero,List.sum_nil];omega)
 rw[e1]at hP2
 exact⟨g,x,y,hP2,e2⟩
end
end Go.Pl
set_option linter.unusedVariables false
set_option linter.unusedSimpArgs false
namespace Go.Pl
open Go Go.Lv
theorem Bk8{b p:LB}(hb:b.length≤20000)(hp:p.length≤64){e:Int}(he:e≠0)(h:seekto_Open b p=some (Up e)){g:UInt8}(hf:Fj b p e=some g):
  Og b p=some (e,g,0,0,0)∧Gq b p=some e∧Ends p (Fd p b) [] e:=by
 have hclip:Ki b p=some (Bio e):=by
  rcases Bpa b p (by omega) hp with⟨e',he',h1,_,h3,_⟩|⟨f,c,w,r,n,A,l,o,_,_⟩
  ·rw[h]at h1
   have:=Option.some.inj h1
   simp only[Up,Prod.mk.injEq]at this
   rw[this.2.2.2.2.2.2.2];exact h3
  ·have:=o.prog
   rw[h]at this
   have:=Option.some.inj this
   simp only[Up,Prod.mk.injEq]at this
   exact absurd this.2.2.2.2.2.2.2 he
 refine⟨?_,?_,?_⟩
 ·rw[Og,Ado,if_neg (by rw[Ak,Ac];simp;omega),Gq,hclip,Aa,Aa,h,Aa,Bio,Up]
  simp only
  rw[if_pos (by rw[Ah];simpa using he),hf,Aa]
 ·rw[Gq,hclip,Aa];rfl
 ·obtain⟨q,hq⟩:∃q,FUEL=q+2:=⟨FUEL-2,by have:=Al;omega⟩
  rw[Fd,hq]
  rcases Bui b p hb hp q with⟨e',he',h1,h2⟩|⟨f,c,w,r,n,A,l,o,_⟩
  ·rw[h]at h1
   have:=Option.some.inj h1
   simp only[Up,Prod.mk.injEq]at this
   rw[this.2.2.2.2.2.2.2];exact h2
  ·have:=o.prog
   rw[h]at this
   have:=Option.some.inj this
   simp only[Up,Prod.mk.injEq]at this
   exact absurd this.2.2.2.2.2.2.2 he
theorem Bws(X:Nat→List Int32)(E:Nat→Int)(be:Int){K:Nat}(hK:E K≠0):∀(j k:Nat) (acc:List Int32),k≤K→K<k+j→(∀i,k≤i→i<K→E i=0)→(Ayy X E be j k acc).2=E K
 |0,k,acc,h1,h2,_=>by omega
 |j+1,k,acc,h1,h2,h3=>by
  rw[Ayy]
  by_cases hk:k=K
  ·subst hk
   rw[if_pos hK]
  ·rw[if_neg (by rw[h3 k (Nat.le_refl _) (by omega)];simp)]
   exact Bws X E be hK j (k+1) _ (by omega) (by omega) (fun i a b=>h3 i (by omega) b)
theorem Bw3(G:Nat→List UInt8×Int)(ce:Int)(Bet:Nat→Int)(L:Nat){K:Nat}(hK:(G K).2≠0):∀(j v:Nat),v≤K→K<v+j→(∀i,v≤i→i<K→(G i).2=0)→Bqs G ce Bet L j v=(ce,5,(K:Int),Bet K,0)
 |0,v,h1,h2,_=>by omega
 |j+1,v,h1,h2,h3=>by
  rw[Bqs]
  by_cases hk:v=K
  ·subst hk;rw[if_pos hK]
  ·rw[if_neg (by rw[h3 v (Nat.le_refl _) (by omega)];simp)]
   exact Bw3 G ce Bet L hK j (v+1) (by omega) (by omega) (fun i a b=>h3 i (by omega) b)
theorem Bvr{b p:LB}{f c w r n A:Nat}{l:LI}(o:Opn b p f c w r n A l){K:Nat}(hK:K<l.length)(hg:∀i,i<K→(Agq b p f c w r n A l i).2=0){e:Int}(he:(Agq b p f c w r n A l K).2=e)(he0:e≠0):
  Og b p=some (e,5,(K:Int),Ars c w (framesL (longN r) n) K,0)∧Gq b p=some e:=by
 have hp:=o.pass
 have hs1:=o.some1
 have hfile:=o.file
 rcases Bpa b p (by omega) hp with⟨e',he',h1,_,_,_⟩|⟨f',c',w',r',n',A',l',o',k3,_⟩
 ·have:=o.prog
  rw[h1]at this
  have:=Option.some.inj this
  simp only[Up,Prod.mk.injEq]at this
  exact absurd this.2.2.2.2.2.2.2 he'
 have hpr:=o'.prog
 rw[o.prog]at hpr
 simp only[Option.some.injEq,Prod.mk.injEq]at hpr
 obtain⟨v1,v2,v3,v4,v5,v6,v7,_⟩:=hpr
 obtain rfl:f=f':=by omega
 obtain rfl:c=c':=by omega
 obtain rfl:w=w':=by omega
 obtain rfl:r=r':=by omega
 obtain rfl:n=n':=by omega
 obtain rfl:A=A':=by omega
 subst v7
 have hce:(Ayy (fun k=>smF w (Agq b p f c w r n A l k)) (fun k=>(Agq b p f c w r n A l k).2) (Bey b A l) l.length 0 []).2=e:=by
  have:=Bws (fun k=>smF w (Agq b p f c w r n A l k)) (fun k=>(Agq b p f c w r n A l k).2) (Bey b A l) (K:=K) (by rw[he];exact he0) l.length 0 [] (by omega) (by omega) (fun i _ h=>hg i h)
  rw[this];exact he
 have hcl:(Aws b p f c w r n A l).2.2.2.2=e:=by
  rw[Aws,Ao5,hce,if_pos he0];rfl
 have hchk:Gq b p=some e:=by rw[Gq,k3,Aa];exact congrArg some hcl
 refine⟨?_,hchk⟩
 have htl:=Bnk o e he0 l.length 0 FUEL (by omega) (by have:=Al;omega)
 rw[Bw3 _ e _ l.length (K:=K) (by rw[he];exact he0) l.length 0 (by omega) (by omega) (fun i _ h=>hg i h)]at htl
 rw[Og,Ado,if_neg (by rw[Ak,Ac];simp;omega),hchk,Aa,o.prog,Aa]
 simp only
 rw[if_neg (by rw[Ah];simp),if_pos (by rw[Ah];simpa using he0),Amo,Am3]
 exact htl
theorem Bl2{b p:LB}(hp:p.length≤64)(hb:b.length≤20000)(hf:frontS b=(0,0)){v:H6}(hr:readS b=v)(he:v.2.2.2.2.2≠0):seekto_Open b p=some (Up v.2.2.2.2.2)∧Fj b p v.2.2.2.2.2=some 2:=by
 obtain⟨v1,v2,v3,v4,v5,v6⟩:=v
 simp only at he⊢
 constructor
 ·rw[seekto_Open,Fx,if_neg (by rw[Ak,Ac];simp;omega),if_neg (by rw[Ak,Ac];simp;omega),Ez b (by omega),hf,Aa]
  simp only
  rw[if_neg (by decide),Cb (by omega) (by omega),Aa,Int.toNat_zero,List.drop_zero,Ql _ (by omega),hr,Aa]
  simp only
  rw[if_pos (by rw[Ah];simpa using he)];rfl
 ·rw[Fj,if_neg (by rw[Ak,Ac];simp;omega),Ez b (by omega),hf,Aa]
  simp only
  rw[if_neg (by decide),Cb (by omega) (by omega),Aa,Int.toNat_zero,List.drop_zero,Ql _ (by omega),hr,Aa]
  simp only
  rw[if_pos (by rw[Ah];simpa using he)]
theorem Bvn{b:LB}(h3:b.take 3≠ [73,68,51])(h8:b.take 8≠APE):frontS b=(0,0):=by
 have hs:Dd b=(0,6):=by
  have h1:Abx b=(0,6):=by rw[Abx,if_pos (by intro hh;exact h3 hh.2)]
  rw[Dd,h1,if_neg (by decide),fa1 (by intro hh;exact h8 hh.2)]
 rw[frontS,Bot,Cl,List.drop_zero,hs]
 rfl
theorem Car{f c w r n:Nat}(h1:shapeB f c w r n=true){H z p:LB}(hB:Brst (hdrB f c w r n) H)(h3:H.take 3≠ [73,68,51])(hp:p.length≤64)(hb:(H++z).length≤20000):
  ∃e:Int,(e=22∨e=12)∧seekto_Open (H++z) p=some (Up e)∧Fj (H++z) p e=some 2:=by
 have hHl:=hB.len
 rw[Ib]at hHl
 have hs:(f=1∨f=2):=by simp only[shapeB,decide_eq_true_eq]at h1;omega
 have h8:H.take 8≠APE:=by
  intro e
  obtain⟨_,k,W,w1,w2,w3⟩:=hB
  have e4:H=[65,80,69,84]++H.drop 4:=by
   have:H.take 4=[65,80,69,84]:=by rw[show H.take 4=(H.take 8).take 4 by rw[List.take_take];rfl,e];rfl
   rw[←this,List.take_append_drop]
  have e5:(H.drop 4).take 1=[65]:=by
   have:(H.drop 4).take 1=((H.take 8).drop 4).take 1:=by rw[List.drop_take,List.take_take];rfl
   rw[this,e];rfl
  have e6:hdrB f c w r n=[84,84,65,49]++(hdrB f c w r n).drop 4:=by
   have:(hdrB f c w r n).take 4=[84,84,65,49]:=by
    have:=Th f c w r n []
    rw[List.append_nil]at this
    rw[this];rfl
   rw[←this,List.take_append_drop]
  have e7:((hdrB f c w r n).drop 4).take 1=[UInt8.ofNat f]:=by
   have:=Th f c w r n []
   rw[List.append_nil]at this
   rw[this];rfl
  rw[e4,e6,Aak,Aak [65,80,69,84]]at w3
  have hx:(leN ([84,84,65,49]:LB)^^^ (2^(8*([84,84,65,49]:LB).length)*leN ((hdrB f c w r n).drop 4)))^^^ (leN ([65,80,69,84]:LB)^^^ (2^(8*([65,80,69,84]:LB).length)*leN (H.drop 4)))=2^32*(leN ((hdrB f c w r n).drop 4)^^^leN (H.drop 4))+(leN ([84,84,65,49]:LB)^^^leN ([65,80,69,84]:LB)):=by
   rw[Box (by decide),Bww]
   show(leN ([84,84,65,49]:LB)^^^ (2^32*_))^^^ (leN ([65,80,69,84]:LB)^^^ (2^32*_))=_
   generalize 2^32*leN ((hdrB f c w r n).drop 4)=X
   generalize 2^32*leN (H.drop 4)=Y
   generalize leN ([84,84,65,49]:LB)=a
   generalize leN ([65,80,69,84]:LB)=b
   rw[Nat.xor_comm a X,Nat.xor_assoc,←Nat.xor_assoc a b Y,Nat.xor_comm (a^^^b) Y,←Nat.xor_assoc]
  rw[hx]at w3
  have hc:leN ([84,84,65,49]:LB)^^^leN ([65,80,69,84]:LB)=1694762005:=by decide
  rw[hc]at w3
  have hk:k=0:=by
   rcases Nat.eq_zero_or_pos k with h|h
   ·exact h
   ·obtain⟨k',rfl⟩:∃k',k=k'+1:=⟨k-1,by omega⟩
    have e9:2^(k'+1)*W=2*(2^k'*W):=by rw[Nat.pow_succ,Nat.mul_comm (2^k') 2,Nat.mul_assoc]
    rw[e9]at w3
    omega
  rw[hk,Nat.pow_zero,Nat.one_mul]at w3
  have hz:leN ((hdrB f c w r n).drop 4)^^^leN (H.drop 4)=0:=by omega
  have heq:leN ((hdrB f c w r n).drop 4)=leN (H.drop 4):=by
   have:=congrArg (fun z=>leN ((hdrB f c w r n).drop 4)^^^z) hz
   simp only[Nat.xor_zero]at this
   rw[←Nat.xor_assoc,Nat.xor_self,Nat.zero_xor]at this
   exact this.symm
  have hl:=Bgq (by rw[List.length_drop,List.length_drop,Ib,hHl]) heq
  rw[hl,e5]at e7
  have:=congrArg (fun l:LB=>(l.getD 0 0).toNat) e7
  simp only[List.getD_cons_zero]at this
  rcases hs with rfl|rfl
  ·exact absurd this (by decide)
  ·exact absurd this (by decide)
 have t3:(H++z).take 3=H.take 3:=List.take_append_of_le_length (by omega)
 have t8:(H++z).take 8=H.take 8:=List.take_append_of_le_length (by omega)
 have hfr:=Bvn (b:=H++z) (by rw[t3];exact h3) (by rw[t8];exact h8)
 have hlen:22≤(H++z).length:=by rw[List.length_append];omega
 by_cases hm:(H++z).take (min 4 (H++z).length)=Nb.take (min 4 (H++z).length)
 ·have ht18:(H++z).take 18=H.take 18:=List.take_append_of_le_length (by omega)
  have hp18:part (H++z) 18 4=H.drop 18:=by
   have:H++z=H.take 18++(H.drop 18++z):=by rw[←List.append_assoc,List.take_append_drop]
   rw[this]
   exact Vk (by rw[List.length_take];omega) (by rw[List.length_drop];omega)
  have hlt:=(Bz (Ay3 f c w r n)).toNat_lt
  have hne:=Be0 (d:=Ay3 f c w r n) (q:=Ns (Bz (Ay3 f c w r n)).toNat 4) (d':=H.take 18) (q':=H.drop 18) (Bb _ _) (by rw[List.length_drop];omega) (by rw[List.take_append_drop];exact hB) (by rw[Ul];omega)
  have hr:=rs3 hm (by omega) (by rw[ht18,hp18];exact hne)
  obtain⟨k1,k2⟩:=Bl2 hp hb hfr hr (by simp)
  exact⟨22, .inl rfl,k1,k2⟩
 ·have hr:=rs1 hm
  obtain⟨k1,k2⟩:=Bl2 hp hb hfr hr (by simp)
  exact⟨12, .inr rfl,k1,k2⟩
section
variable {f c w r n:Nat} (h1:shapeB f c w r n=true) (h2:fitB c r n=true) {p:LB} (hp:p.length≤64) (hf:f=fmtOf p)
include h1 h2 hp hf
omit h1 h2 hp hf in
theorem Bej(z:LB):frontS (hdrB f c w r n++z)=(0,0):=Bf1 (by rw[Th];rfl)
theorem Cih{D z:LB}(hD:D≠digP p)(hDl:D.length=(digP p).length)(hb:(hdrB f c w r n++(D++z)).length≤20000):
  seekto_Open (hdrB f c w r n++(D++z)) p=some (Up 26)∧Fj (hdrB f c w r n++(D++z)) p 26=some 3:=by
 have hfr:=Bej (f:=f) (c:=c) (w:=w) (r:=r) (n:=n) (D++z)
 have hrd:=Bep h1 h2 (D++z)
 have hne:p≠ []:=by
  intro e
  have e2:digP p=[]:=by rw[digP,if_pos e]
  rw[e2]at hD hDl
  exact hD (List.eq_nil_of_length_eq_zero (by simpa using hDl))
 have hdg:digP p=Ns (Sk p).toNat 8:=by rw[digP,if_neg hne]
 have e1:f=2:=by rw[hf,fmtOf,if_neg hne]
 rw[hdg,Bb]at hDl
 have hl:(hdrB f c w r n++(D++z)).length=30+z.length:=by rw[List.length_append,List.length_append,Ib];omega
 have hseg:((hdrB f c w r n++(D++z)).take 30).drop 22=D:=Vk (Ib _ _ _ _ _) hDl
 generalize hdrB f c w r n++(D++z)=b at*
 constructor
 ·rw[seekto_Open,Fx,if_neg (by rw[Ak,Ac];simp;omega),if_neg (by rw[Ak,Ac];simp;omega),Ez b (by omega),hfr,Aa]
  simp only
  rw[if_neg (by decide),Cb (by omega) (by omega),Aa,Int.toNat_zero,List.drop_zero,Ql _ (by omega),hrd,Aa]
  simp only
  have hne3:(p !=([]:LB))=true:=by simpa using hne
  have hne2:(p==([]:LB))=false:=by simpa using hne
  have t22:Ad (0:Int) 22=((22:Nat):Int):=rfl
  have t30:Ad ((22:Nat):Int) 8=((30:Nat):Int):=rfl
  rw[if_neg (by decide),if_neg (by rw[hne2,e1];decide),if_pos hne3,t22,t30,if_neg (by rw[Ae,Ac];simp;omega),Me (by omega) (by omega) (by omega),Aa,Int.toNat_natCast,Int.toNat_natCast,hseg,Bbc hDl hp,Aa]
  simp only
  rw[if_neg (by decide),if_pos (by rw[hdg]at hD;simp[hD])];rfl
 ·rw[Fj,if_neg (by rw[Ak,Ac];simp;omega),Ez b (by omega),hfr,Aa]
  simp only
  rw[if_neg (by decide),Cb (by omega) (by omega),Aa,Int.toNat_zero,List.drop_zero,Ql _ (by omega),hrd,Aa]
  simp only
  rw[if_neg (by decide),if_pos (by decide),if_pos (by decide)]
theorem Cfz{l:LI}(ht:tabB l=true)(hl:l.length=(framesL (longN r) n).length){T z:LB}(hT:Brst (tblB l) T)(hb:(hdrB f c w r n++(digP p++(T++z))).length≤20000):
  seekto_Open (hdrB f c w r n++(digP p++(T++z))) p=some (Up 22)∧Fj (hdrB f c w r n++(digP p++(T++z))) p 22=some 4:=by
 have hfr:=Bej (f:=f) (c:=c) (w:=w) (r:=r) (n:=n) (digP p++(T++z))
 have hrd:=Bep h1 h2 (digP p++(T++z))
 have hTl:=hT.len
 rw[Akz]at hTl
 have h:=ht
 simp only[tabB,Bool.and_eq_true,decide_eq_true_eq]at h
 obtain⟨hn,h3⟩:=h
 have hlt:=(Bz (Aiz l)).toNat_lt
 have hne:=Be0 (d:=Aiz l) (q:=Ns (Bz (Aiz l)).toNat 4) (d':=T.take (4*l.length)) (q':=T.drop (4*l.length)) (Bb _ _) (by rw[List.length_drop];omega) (by rw[List.take_append_drop];exact hT) (by rw[Ul];omega)
 have hsk:seekS (T++z) l.length=([],22):=by
  have e1:(T++z).take (4*l.length)=T.take (4*l.length):=List.take_append_of_le_length (by omega)
  have e2:part (T++z) (4*l.length) 4=T.drop (4*l.length):=by
   have:T++z=T.take (4*l.length)++(T.drop (4*l.length)++z):=by rw[←List.append_assoc,List.take_append_drop]
   rw[this]
   exact Vk (by rw[List.length_take];omega) (by rw[List.length_drop];omega)
  exact ss3 hn (by rw[List.length_append];omega) (by rw[e1,e2];exact hne)
 have hDl:=Aid p
 rw[←hf]at hDl
 have hl':(hdrB f c w r n++(digP p++(T++z))).length=22+(if f=2 then 8 else 0)+(4*l.length+4)+z.length:=by rw[List.length_append,List.length_append,List.length_append,Ib,hDl,hTl];omega
 have d22:(hdrB f c w r n++(digP p++(T++z))).drop 22=digP p++(T++z):=by
  conv=>lhs;rw[←Ib f c w r n,List.drop_left]
 have dA:(hdrB f c w r n++(digP p++(T++z))).drop (22+(if f=2 then 8 else 0))=T++z:=by
  rw[←List.drop_drop,d22,←hDl,List.drop_left]
 have hf12:f=1∨f=2:=by rw[hf];exact Bdf p
 generalize hdrB f c w r n++(digP p++(T++z))=b at*
 have hend:∀A:Nat,A≤b.length→A=22+(if f=2 then 8 else 0)→seekto_Open b p=Ha b (f:Int) (c:Int) (w:Int) (r:Int) (n:Int) (A:Int)→seekto_Open b p=some (Up 22):=by
  intro A hA hA2 e
  rw[e,Aq6 h1 h2 b (by omega) A hA,hA2,dA,←hl,hsk,if_pos (by simp)]
 constructor
 ·refine hend (22+(if f=2 then 8 else 0)) (by omega) rfl ?_
  rw[seekto_Open,Fx,if_neg (by rw[Ak,Ac];simp;omega),if_neg (by rw[Ak,Ac];simp;omega),Ez b (by omega),hfr,Aa]
  simp only
  rw[if_neg (by decide),Cb (by omega) (by omega),Aa,Int.toNat_zero,List.drop_zero,Ql _ (by omega),hrd,Aa]
  simp only
  have t22:Ad (0:Int) 22=((22:Nat):Int):=rfl
  have t30:Ad ((22:Nat):Int) 8=((30:Nat):Int):=rfl
  rw[if_neg (by decide)]
  by_cases h0:p=[]
  ·have e1:f=1:=by rw[hf,fmtOf,if_pos h0]
   rw[if_neg (by rw[h0,e1];decide),if_neg (by rw[h0];decide),t22,e1]
   rfl
  ·have e1:f=2:=by rw[hf,fmtOf,if_neg h0]
   have hne3:(p !=([]:LB))=true:=by simpa using h0
   have hne2:(p==([]:LB))=false:=by simpa using h0
   have hdg:digP p=Ns (Sk p).toNat 8:=by rw[digP,if_neg h0]
   have hseg:(b.take 30).drop 22=Ns (Sk p).toNat 8:=by
    rw[List.drop_take,show 30-22=8 from rfl,d22,hdg,List.take_append_of_le_length (by rw[Bb];omega),List.take_of_length_le (by rw[Bb];omega)]
   rw[e1,if_pos rfl]at hl'
   rw[if_neg (by rw[hne2,e1];decide),if_pos hne3,t22,t30,if_neg (by rw[Ae,Ac];simp;omega),Me (by omega) (by omega) (by omega),Aa,Int.toNat_natCast,Int.toNat_natCast,hseg,Bbc (Bb _ _) hp,Aa]
   simp only
   rw[if_neg (by decide),if_neg (by simp),e1]
   rfl
 ·rw[Fj,if_neg (by rw[Ak,Ac];simp;omega),Ez b (by omega),hfr,Aa]
  simp only
  rw[if_neg (by decide),Cb (by omega) (by omega),Aa,Int.toNat_zero,List.drop_zero,Ql _ (by omega),hrd,Aa]
  simp only
  rw[if_neg (by decide),if_neg (by decide),if_neg]
  intro hh
  rcases hf12 with e1|e1
  ·rw[e1]at hh;simp[As]at hh
  ·rw[e1,if_pos rfl]at hl'
   rw[Ac,Az (by omega) (by omega)]at hh
   simp[Ae]at hh
   omega
end
end Go.Pl
set_option linter.unusedVariables false
set_option linter.unusedSimpArgs false
namespace Go.Pl
open Go Go.Lv
theorem Bpk{F x U M V:LB}(hF:F=U++(M++V))(hl:x.length=F.length){a1 a2:Nat}(h1:U.length≤a1)(h2:a2<U.length+M.length)(e1:x.take a1=F.take a1)(e2:x.drop (a2+1)=F.drop (a2+1)):
  x=U++((x.drop U.length).take M.length++V)∧((x.drop U.length).take M.length).length=M.length:=by
 have hFl:=congrArg List.length hF
 rw[List.length_append,List.length_append]at hFl
 have u1:x.take U.length=U:=by
  have:x.take U.length=(x.take a1).take U.length:=by rw[List.take_take,Nat.min_eq_left h1]
  rw[this,e1,List.take_take,Nat.min_eq_left h1,hF,List.take_left]
 have u2:x.drop (U.length+M.length)=V:=by
  have:x.drop (U.length+M.length)=(x.drop (a2+1)).drop (U.length+M.length-(a2+1)):=by rw[List.drop_drop];congr 1;omega
  rw[this,e2,List.drop_drop,show a2+1+(U.length+M.length-(a2+1))=U.length+M.length by omega,hF,←List.drop_drop,List.drop_left,List.drop_left]
 refine⟨?_,by rw[List.length_take,List.length_drop];omega⟩
 conv=>lhs;rw[←List.take_append_drop U.length x,u1,←List.take_append_drop M.length (x.drop U.length),List.drop_drop,u2]
section
variable {c w r n:Nat} {x:List Int32} (h:ClipOk c w r n x) {p:LB} (hp:p.length≤64) (h4:x.length≤400)
include h hp h4
theorem Ca8{x':LB}(hB:Brst (Gv c w r n x p) x'){a1 a2:Nat}(h12:a1≤a2)(e1:x'.take a1=(Gv c w r n x p).take a1)(e2:x'.drop (a2+1)=(Gv c w r n x p).drop (a2+1)):
  (a2<22→x'.take 3≠ [73,68,51]→∃e:Int,(e=22∨e=12)∧seekto_Open x' p=some (Up e)∧Fj x' p e=some 2)∧
  (22≤a1→a2<22+(digP p).length→seekto_Open x' p=some (Up 26)∧Fj x' p 26=some 3)∧
  (22+(digP p).length≤a1→a2<Aif 0 p (frs c w r n x p).length→seekto_Open x' p=some (Up 22)∧Fj x' p 22=some 4)∧
  (∀K,(hK:K<(frs c w r n x p).length)→(Aif 0 p (frs c w r n x p).length:Int)+((lensOf (frs c w r n x p)).take K).sum≤a1→(a2:Int)<(Aif 0 p (frs c w r n x p).length:Int)+((lensOf (frs c w r n x p)).take (K+1)).sum→
   ∃g':LB,g'.length=(frs c w r n x p)[K].length∧Na g'=22∧FileOf c w r n x p 0 ((frs c w r n x p).set K g') [] x'):=by
 have hsm:=Bhw h (p:=p) h4
 have fo:=Bl8 h hp
 have hl:=hB.len
 have hshape:=h.shape _ (Bdf p)
 have hlf:=Kj (frs c w r n x p)
 refine⟨fun k1 k2=>?_,fun k1 k2=>?_,fun k1 k2=>?_,fun K hK k1 k2=>?_⟩
 ·have hF:Gv c w r n x p=[]++(hdrB (fmtOf p) c w r n++(digP p++(tblB (lensOf (frs c w r n x p))++(frs c w r n x p).flatten))):=rfl
  obtain⟨s1,s2⟩:=Bpk hF hl (a1:=a1) (a2:=a2) (by simp) (by rw[Ib];simp;omega) e1 e2
  generalize(x'.drop ([]:LB).length).take (hdrB (fmtOf p) c w r n).length=M at s1 s2
  rw[s1,hF]at hB
  have hM:=hB.mid s2
  rw[List.nil_append]at s1
  rw[Ib]at s2
  rw[s1]
  exact Car hshape hM (by
   intro e
   apply k2
   rw[s1,List.take_append_of_le_length (by omega)];exact e) hp (by rw[←s1];omega)
 ·have hF:Gv c w r n x p=hdrB (fmtOf p) c w r n++(digP p++(tblB (lensOf (frs c w r n x p))++(frs c w r n x p).flatten)):=rfl
  obtain⟨s1,s2⟩:=Bpk hF hl (a1:=a1) (a2:=a2) (by rw[Ib];omega) (by rw[Ib];omega) e1 e2
  generalize(x'.drop (hdrB (fmtOf p) c w r n).length).take (digP p).length=M at s1 s2
  rw[s1,hF]at hB
  have hM:=hB.mid s2
  rw[s1]
  exact Cih hshape h.fit hp rfl (fun e=>hM.ne e.symm) s2 (by rw[←s1];omega)
 ·have hF:Gv c w r n x p=(hdrB (fmtOf p) c w r n++digP p)++(tblB (lensOf (frs c w r n x p))++(frs c w r n x p).flatten):=by simp[Gv]
  have hdl:=Aid p
  obtain⟨s1,s2⟩:=Bpk hF hl (a1:=a1) (a2:=a2) (by rw[List.length_append,Ib];omega) (by rw[List.length_append,Ib,Akz,hlf];unfold Aif at k2;omega) e1 e2
  generalize(x'.drop (hdrB (fmtOf p) c w r n++digP p).length).take (tblB (lensOf (frs c w r n x p))).length=M at s1 s2
  rw[s1,hF]at hB
  have hM:=hB.mid s2
  rw[List.append_assoc]at s1
  rw[s1]
  exact Cfz hshape h.fit hp rfl (Bh5 h p) (by rw[hlf];exact Bda p) hM (by rw[←s1];omega)
 ·have e0:(frs c w r n x p).flatten=((frs c w r n x p).take K).flatten++((frs c w r n x p)[K]++((frs c w r n x p).drop (K+1)).flatten):=by
   conv=>lhs;rw[←List.take_append_drop K (frs c w r n x p),drop_cons hK]
   rw[List.flatten_append,List.flatten_cons]
  have hF:Gv c w r n x p=(hdrB (fmtOf p) c w r n++(digP p++(tblB (lensOf (frs c w r n x p))++((frs c w r n x p).take K).flatten)))++((frs c w r n x p)[K]++((frs c w r n x p).drop (K+1)).flatten):=by
   rw[Gv,e0];simp
  have hUl:(hdrB (fmtOf p) c w r n++(digP p++(tblB (lensOf (frs c w r n x p))++((frs c w r n x p).take K).flatten))).length=Aif 0 p (frs c w r n x p).length+((frs c w r n x p).take K).flatten.length:=by
   rw[List.length_append,List.length_append,List.length_append,Ib,Aid,Akz,hlf];unfold Aif;omega
  have s1:((lensOf (frs c w r n x p)).take K).sum=(((frs c w r n x p).take K).flatten.length:Int):=by rw[Ax1,Vt]
  have s2:=Bzq (l:=lensOf (frs c w r n x p)) (i:=K) (by rw[hlf];exact hK)
  have s3:(lensOf (frs c w r n x p))[K]'(by rw[hlf];exact hK)=((frs c w r n x p)[K].length:Int):=by simp[lensOf]
  obtain⟨t1,t2⟩:=Bpk hF hl (a1:=a1) (a2:=a2) (by rw[hUl];omega) (by rw[hUl];omega) e1 e2
  generalize(x'.drop (hdrB (fmtOf p) c w r n++(digP p++(tblB (lensOf (frs c w r n x p))++((frs c w r n x p).take K).flatten))).length).take (frs c w r n x p)[K].length=M at t1 t2
  rw[t1,hF]at hB
  have hM:=hB.mid t2
  have hset:((frs c w r n x p).set K M).flatten=((frs c w r n x p).take K).flatten++(M++((frs c w r n x p).drop (K+1)).flatten):=by
   rw[List.set_eq_take_append_cons_drop,if_pos hK,List.flatten_append,List.flatten_cons]
  have hx:x'=hdrB (fmtOf p) c w r n++(digP p++(tblB (lensOf (frs c w r n x p))++(((frs c w r n x p).set K M).flatten++[]))):=by
   rw[t1,hset];simp
  exact⟨M,t2,Bu7 hM (Cfd h hK),⟨h,hp,by rw[hx];exact Bej _,by omega,Brj hK t2,by rw[List.drop_zero];exact hx⟩⟩
end
end Go.Pl
set_option linter.unusedVariables false
set_option linter.unusedSimpArgs false
namespace Go.Pl
open Go Go.Lv
end Go.Pl
set_option linter.unusedVariables false
set_option linter.unusedSimpArgs false
namespace Go.Pl
open Go Go.Lv
theorem Cey{a b:UInt8}(h:a≠b):∃j,j<8∧a.toNat.testBit j≠b.toNat.testBit j:=by
 refine Classical.byContradiction fun hn=>h (UInt8.toNat_inj.1 (Nat.eq_of_testBit_eq fun j=>?_))
 by_cases hj:j<8
 ·exact Classical.byContradiction fun hne=>hn ⟨j,hj,hne⟩
 ·rw[tb8 a (by omega),tb8 b (by omega)]
theorem Cff{b x:LB}(h:Brst b x):∃k:Nat,∀i,(hi:i<b.length)→(hx:i<x.length)→b[i]≠x[i]→k≤8*i+7∧8*i<k+32:=by
 obtain⟨_,k,W,h1,h2,h3⟩:=h
 refine⟨k,fun i hi hx hne=>?_⟩
 obtain⟨j,hj,hb⟩:=Cey hne
 have ht:(leN b^^^leN x).testBit (8*i+j)=true:=by
  rw[Nat.testBit_xor,Bb0,Bb0,Ba8,Ba8,show(8*i+j)/8=i by omega,show(8*i+j) %8=j by omega,List.getD_eq_getElem?_getD,List.getD_eq_getElem?_getD,List.getElem?_eq_getElem hi,List.getElem?_eq_getElem hx]
  simp only[Option.getD_some]
  revert hb
  cases(b[i]).toNat.testBit j<;>cases(x[i]).toNat.testBit j<;>simp
 rw[h3,Nat.testBit_two_pow_mul]at ht
 simp only[Bool.and_eq_true,decide_eq_true_eq]at ht
 have h32:8*i+j-k<32:=by
  refine Nat.lt_of_not_le fun hh=>?_
  rw[Nat.testBit_lt_two_pow (Nat.lt_of_lt_of_le h2 (Nat.pow_le_pow_right (by omega) hh))]at ht
  exact absurd ht.2 (by decide)
 omega
def Dif(F x:LB)(h:Nat)(k m:Int):Prop:=(k= -1∧m= -1∧x.take h=F.take h)∨(∃k' m':Nat,k=(k':Int)∧m=(m':Int)∧k'≤m'∧m'<h∧x[k']? ≠F[k']? ∧x[m']? ≠F[m']? ∧x.take k'=F.take k'∧∀i,m'<i→i<h→x[i]? =F[i]?)
theorem Bw2{F x p:LB}(hl:x.length=F.length)(hF:F.length≤100000)(hend:∀k m:Int,Dif F x F.length k m→Ds p true k m F x=some true):
  ∀(j i q:Nat) (k m:Int),i+j=F.length→j<q→Dif F x i k m→Da p true F x q k m (i:Int)=some true
 |j,i,0,k,m,_,h,_=>absurd h (Nat.not_lt_zero _)
 |0,i,q+1,k,m,hi,_,hd=>by
  obtain rfl:i=F.length:=by omega
  rw[Da,Gs,if_neg (by simp[Ae,Ac])]
  exact hend k m hd
 |j+1,i,q+1,k,m,hi,hq,hd=>by
  have hi1:Ad (i:Int) 1=((i+1:Nat):Int):=by rw[Ag (by omega) (by omega)];omega
  have ih:=Bw2 hl hF hend j (i+1) q
  have g1:F[i]? =some F[i]:=List.getElem?_eq_getElem (by omega)
  have g2:x[i]? =some (x[i]'(by omega)):=List.getElem?_eq_getElem (by omega)
  rw[Da,Gs,if_pos (by simp[Ae,Ac];omega),Bm (by omega),Aa,Bm (by omega),Aa,Aa,Aa,Ke,Sn,hi1]
  by_cases hne:x[i]'(by omega)=F[i]
  ·rw[if_neg (by rw[hne,Beu];simp)]
   refine ih _ _ (by omega) (by omega) ?_
   rcases hd with⟨h1,h2,h3⟩|⟨k',m',h1,h2,h3,h4,h5,h6,h7,h8⟩
   ·refine .inl ⟨h1,h2,?_⟩
    rw[Ir (by omega),Ir (by omega),h3,hne]
   ·refine .inr ⟨k',m',h1,h2,h3,by omega,h5,h6,h7,fun t t1 t2=>?_⟩
    by_cases ht:t=i
    ·subst ht;rw[g1,g2,hne]
    ·exact h8 t t1 (by omega)
  ·have hnq:x[i]? ≠F[i]? :=by rw[g1,g2];intro e;exact hne (Option.some.inj e)
   rw[if_pos (by rw[Beu];simp;exact fun e=>hne e.symm)]
   rcases hd with⟨h1,h2,h3⟩|⟨k',m',h1,h2,h3,h4,h5,h6,h7,h8⟩
   ·rw[if_pos (by rw[Ae,h1];decide)]
    exact ih _ _ (by omega) (by omega) (.inr ⟨i,i,rfl,rfl,Nat.le_refl _,by omega,hnq,hnq,h3,fun t t1 t2=>by omega⟩)
   ·rw[if_neg (by rw[Ae,h1];simp)]
    exact ih _ _ (by omega) (by omega) (.inr ⟨k',i,h1,rfl,by omega,by omega,h5,hnq,h7,fun t t1 t2=>by omega⟩)
theorem Clc{n:UInt8}{u:Int}(v o p y aa:Int)(w:UInt8)(h:(n=2∧(u=22∨u=12))∨(n=3∧u=26)∨(n=4∧u=22)∨(n=5∧u=22)):Gc true v n o p u w y aa=some true:=by
 rw[Gc,Sp]
 rcases h with⟨rfl,rfl|rfl⟩|⟨rfl,rfl⟩|⟨rfl,rfl⟩|⟨rfl,rfl⟩<;>rfl
theorem Byf{x p:LB}{n:UInt8}{o g u:Int}(v:Int)(hT:Og x p=some (u,n,o,g,0))(hC:Gq x p=some u)(h:(n=2∧(u=22∨u=12))∨(n=3∧u=26)∨(n=4∧u=22)∨(n=5∧u=22)):Ga p true x v n o g=some true:=by
 rw[Ga,Ge,hT,Aa]
 simp only
 rw[if_neg (by simp[Ah,Beu]),hC,Aa,if_neg (by simp[Ah])]
 exact Clc _ _ _ _ _ _ h
theorem Cdh(hal:Rf=some true)(C W R:Int)(x:List Int32)(p:LB)(bit:Int)(mask:UInt32):Je C W R x p bit mask=some true:=by
 rw[Je,Lh,hal,Aa]
 rcases Brs C W R x with⟨e8,_⟩|⟨c,w,r,n,rfl,rfl,rfl,h,e24,eck⟩
 ·rw[e8,Aa,if_pos (by simp[Ah])]
 rw[e24,Aa]
 by_cases hc:(((Ay (0:Int) 0||Fi (Ac x) 400)||Fi (Ac p) 64)|| !true)=true
 ·rw[if_pos hc]
 rw[if_neg hc]
 simp only[Bool.or_eq_true,not_or,Ak,Ac,decide_eq_true_eq]at hc
 obtain⟨⟨⟨_,c2⟩,c3⟩,_⟩:=hc
 have hp:p.length≤64:=by omega
 have hx4:x.length≤400:=by omega
 have hsm:=Bhw h (p:=p) hx4
 have fo:=Bl8 h hp
 have o:=fo.Du
 have hd:=fo.Bxh
 have hlen:=congrArg List.length hd
 rw[List.length_drop,List.append_nil]at hlen
 have hA:=o.at'
 have hlf:=Kj (frs c w r n x p)
 have hlsum:=Vt (frs c w r n x p)
 have hnn:=Cha (frs c w r n x p)
 rw[Bs2 h eck p hp,Aa]
 simp only
 rw[if_neg (by decide),Cce _ _ _ (by omega)]
 by_cases hbf:0≤bit∧bit<8*(Gv c w r n x p).length∧bF bit.toNat mask.toNat (Gv c w r n x p).length 32 0=true
 rotate_left
 ·rw[if_neg hbf,Aa]
  simp only
  rw[if_pos (by decide)]
  rfl
 rw[if_pos hbf,Aa]
 simp only
 rw[if_neg (by decide)]
 have hB:=Bu1 hbf.2.2
 generalize bB bit.toNat mask.toNat 32 0 (Gv c w r n x p)=x' at hB⊢
 have hl:=hB.len
 have hxl:x'.length≤20000:=by omega
 have hgood:∀i,(hi:i<(frs c w r n x p).length)→_:=fun i hi=>(fo.Bet (k:=i) hi rfl).1
 have hbe:Bey (Gv c w r n x p) (Aif 0 p (frs c w r n x p).length) (lensOf (frs c w r n x p))=0:=by rw[fo.beh,Bu2]
 have hc0:(Aws (Gv c w r n x p) p (fmtOf p) c w r n (Aif 0 p (frs c w r n x p).length) (lensOf (frs c w r n x p))).2.2.2.2=0:=by
  have hr:=Bng (Agq (Gv c w r n x p) p (fmtOf p) c w r n (Aif 0 p (frs c w r n x p).length) (lensOf (frs c w r n x p))) (lensOf (frs c w r n x p)).length 0 [] (fun i _ hi=>by rw[hgood i (by omega)])
  have hcl:=Bts w (Agq (Gv c w r n x p) p (fmtOf p) c w r n (Aif 0 p (frs c w r n x p).length) (lensOf (frs c w r n x p))) (Bey (Gv c w r n x p) (Aif 0 p (frs c w r n x p).length) (lensOf (frs c w r n x p))) (lensOf (frs c w r n x p)).length 0 [] []
  rw[hbe,hr]at hcl
  rw[Aws,Ao5,hbe,if_neg (by rw[←hcl];simp)]
 have h3:Ki (Gv c w r n x p) p=some (Aws (Gv c w r n x p) p (fmtOf p) c w r n (Aif 0 p (frs c w r n x p).length) (lensOf (frs c w r n x p))):=by
  rcases Bpa (Gv c w r n x p) p (by omega) hp with⟨e,he,k1,_⟩|⟨f',c',w',r',n',A',l',o',k3,_⟩
  ·have:=o.prog
   rw[k1]at this
   have:=Option.some.inj this
   simp only[Up,Prod.mk.injEq]at this
   exact absurd this.2.2.2.2.2.2.2 he
  ·have hpr:=o'.prog
   rw[o.prog]at hpr
   simp only[Option.some.injEq,Prod.mk.injEq]at hpr
   obtain⟨v1,v2,v3,v4,v5,v6,v7,_⟩:=hpr
   have j1:fmtOf p=f':=by omega
   have j2:c=c':=by omega
   have j3:w=w':=by omega
   have j4:r=r':=by omega
   have j5:n=n':=by omega
   have j6:Aif 0 p (frs c w r n x p).length=A':=by omega
   subst j1 j2 j3 j4 j5 v7
   rw[←j6]at k3
   exact k3
 have hfr0:(frontS (Gv c w r n x p)).1=0:=by rw[fo.front];rfl
 have hfin:∀k m:Int,Dif (Gv c w r n x p) x' (Gv c w r n x p).length k m→Ds p true k m (Gv c w r n x p) x'=some true:=by
  intro k m hdif
  rcases hdif with⟨_,_,e⟩|⟨a1,a2,rfl,rfl,d1,d2,d3,d4,d5,d6⟩
  ·rw[List.take_length,List.take_of_length_le (by omega)]at e
   exact absurd e.symm hB.ne
  have t2:x'.drop (a2+1)=(Gv c w r n x p).drop (a2+1):=by
   apply List.ext_getElem?
   intro i
   rw[List.getElem?_drop,List.getElem?_drop]
   by_cases hi:a2+1+i<(Gv c w r n x p).length
   ·exact d6 _ (by omega) hi
   ·rw[List.getElem?_eq_none (by omega),List.getElem?_eq_none (by omega)]
  have hwin:a2-a1≤4:=by
   obtain⟨K,hK⟩:=Cff hB
   have b1:=hK a1 (by omega) (by omega) (by
    intro e
    exact d3 (by rw[List.getElem?_eq_getElem (by omega),List.getElem?_eq_getElem (by omega),e]))
   have b2:=hK a2 (by omega) (by omega) (by
    intro e
    exact d4 (by rw[List.getElem?_eq_getElem (by omega),List.getElem?_eq_getElem (by omega),e]))
   omega
  obtain⟨g1,x1,y1,pl1,P1⟩:=Bnc o hc0 h3 a1 (by omega)
  obtain⟨g2,x2,y2,pl2,P2⟩:=Bnc o hc0 h3 a2 (by omega)
  have hsub:Aj (a2:Int) (a1:Int)=((a2-a1:Nat):Int):=by rw[Az (by omega) (by omega)];omega
  rw[Ds,Ks,hsub,if_neg (by simp[Ah,Ae,Ak,Ac,hl];omega),pl1,Aa]
  simp only
  rw[pl2,Aa]
  simp only
  rw[if_neg (by decide)]
  by_cases hsame:(!((geq (0:Int) 0)&&((geq g1 g2)&&((geq x1 x2)&&((geq y1 y2)&&true)))))=true
  ·rw[if_pos hsame]
  rw[if_neg hsame]
  simp only[As,Aqd,Bool.not_eq_true',Bool.and_true,beq_self_eq_true,Bool.true_and,Bool.not_eq_false,Bool.and_eq_true,beq_iff_eq]at hsame
  obtain⟨s1,s2,s3⟩:=hsame
  subst s1 s2 s3
  have hcut:Bo x' 0 (Dj 3 (Ac x'))=some (x'.take 3):=by
   have hAA:26≤Aif 0 p (frs c w r n x p).length:=by unfold Aif;omega
   rw[Acd,Ac,show min (3:Int) (x'.length:Int)=3 by omega,Gz (by omega) (by omega)];rfl
  rw[hcut,Aa]
  by_cases h3':(x'.take 3==([73,68,51]:LB))=true
  ·rw[if_pos h3']
  rw[if_neg h3']
  have h3n:x'.take 3≠ [73,68,51]:=by simpa using h3'
  obtain⟨q1,q2,q3,q4⟩:=Ca8 h hp hx4 hB d1 d5 t2
  have hDe:(Aif 0 p (frs c w r n x p).length:Int)-4*((lensOf (frs c w r n x p)).length:Int)-4=((22+(digP p).length:Nat):Int):=by
   rw[hlf,Aid];unfold Aif;omega
  rw[hDe,hfr0]at P1 P2
  cases P1 with
  |t k1=>omega
  |h k1 k2=>
   cases P2 with
   |h m1 m2=>
    obtain⟨e,he,z1,z2⟩:=q1 (by omega) h3n
    obtain⟨t1,t2,_⟩:=Bk8 hxl hp (by omega) z1 z2
    exact Byf _ t1 t2 (.inl ⟨rfl,he⟩)
  |d k1 k2=>
   cases P2 with
   |d m1 m2=>
    obtain⟨z1,z2⟩:=q2 (by omega) (by omega)
    obtain⟨t1,t2,_⟩:=Bk8 hxl hp (by decide) z1 z2
    exact Byf _ t1 t2 (.inr (.inl ⟨rfl,rfl⟩))
  |s k1 k2 k3=>
   cases P2 with
   |s m1 m2 m3=>
    obtain⟨z1,z2⟩:=q3 (by omega) (by omega)
    obtain⟨t1,t2,_⟩:=Bk8 hxl hp (by decide) z1 z2
    exact Byf _ t1 t2 (.inr (.inr (.inl ⟨rfl,rfl⟩)))
  |f i k1 k2 k3 k4 k5 k6=>
   have hi:=k4
   rw[hlf]at hi
   have hm6:(a2:Int)<(Aif 0 p (frs c w r n x p).length:Int)+((lensOf (frs c w r n x p)).take (i+1)).sum:=by
    generalize hy:Ars c w (framesL (longN r) n) i=yy at P2
    generalize hx:(i:Int)=xx at P2
    cases P2 with
    |f i2 m1 m2 m3 m4 m5 m6=>
     have:i2=i:=by omega
     subst this
     exact m6
   obtain⟨g',u1,u2,fo'⟩:=q4 i hi (by omega) hm6
   have o':=fo'.Du
   have hl':=Brj (fs:=frs c w r n x p) hi (g:=g') u1
   have hlen':((frs c w r n x p).set i g').length=(frs c w r n x p).length:=List.length_set
   have hgood':∀j,(hj:j<(frs c w r n x p).length)→j≠i→_:=fun j hj hji=>(fo'.Bet (k:=j) (by rw[hlen'];exact hj) (by rw[List.getElem_set_ne (fun e=>hji e.symm)])).1
   have hbd:=fo'.Cna (k:=i) (by rw[hlen'];exact hi) (by rw[List.getElem_set_self];exact u2)
   rw[hl',hlen']at o' hgood' hbd
   obtain⟨t1,t2⟩:=Bvr o' (K:=i) k4 (fun j hj=>by rw[hgood' j (by omega) (by omega)]) hbd (by decide)
   exact Byf _ t1 t2 (.inr (.inr (.inr ⟨rfl,rfl⟩)))
  |b k1 k2 k3 k4=>omega
 rw[Lk]
 exact Bw2 hl (by omega) hfin (Gv c w r n x p).length 0 FUEL (-1) (-1) (by omega) (by have:=Al;omega) (.inl ⟨rfl,rfl,by simp⟩)
theorem law_DamageFound(C W R:Int)(x:List Int32)(p:LB)(bit:Int)(mask:UInt32):Je C W R x p bit mask=some true:=Cdh Cg7 C W R x p bit mask
end Go.Pl
