/- A part of the proof of a statement of this seat (see the text that ends in Proof): LwBack, LwGot, LwWs, LwGoes, LwPol, LwRt, LwClip, LwPts, LwTrc, LwPd, LwDt, LwDu, LwAll, LwEc3, LwEc4, LwEb1, LwEb2, LwEb3, LwEb4, LwA41, LwPv, LwPk, LwEf1, LwEf2, LwEf3, LwEf4, LwEf5, LwEf6, LwA40, LwSo. No conditions of its own. -/
import Derived.Test.YtidigmkmfmopgaaGreatDoorSoWA
import Derived.Test.YtidigmkmfmopgaaGreatDoorSoPA
import Derived.KernelRfl
set_option linter.unusedVariables false
set_option linter.unusedSimpArgs false
namespace Go.Pl
open Go Go.Lv
def De(b:List UInt8):List UInt8:=b.drop (b.length-32)
theorem Bzb{b:List UInt8}(h:32≤b.length):(De b).length=32:=by rw[De,List.length_drop];omega
def itA(t:List UInt8):Nat:=Dk (part t 12 4)-32
def mnA(t:List UInt8):Nat:=Dk (part t 16 4)
def Uq(b:List UInt8):Int×Int:=
 if ¬(32≤b.length∧(De b).take 8=APE)then(0,6)else if Ae6 (De b)=true then(0,12)else
 if De b=Qw (itA (De b)) (mnA (De b)) 0 then(if b.length<itA (De b)+32 then(0,24)else(((itA (De b)+32:Nat):Int),0))else
 if De b≠Qw (itA (De b)) (mnA (De b)) 2147483648 then(0,12)else
 if b.length<itA (De b)+64 then(0,24)else
 if(b.take (b.length-(itA (De b)+64)+32)).drop (b.length-(itA (De b)+64))≠Qw (itA (De b)) (mnA (De b)) 2684354560 then(0,12)else(((itA (De b)+64:Nat):Int),0)
section
variable {b:List UInt8}
theorem ba1(h:¬(32≤b.length∧(De b).take 8=APE)):Uq b=(0,6):=by rw[Uq,if_pos h]
variable (h:32≤b.length∧(De b).take 8=APE)
include h
theorem ba2(h2:Ae6 (De b)=true):Uq b=(0,12):=by rw[Uq,if_neg (fun h'=>h' h),if_pos h2]
variable (h2:Ae6 (De b)=false)
include h2
theorem ba3(h3:De b=Qw (itA (De b)) (mnA (De b)) 0):Uq b=if b.length<itA (De b)+32 then(0,24)else(((itA (De b)+32:Nat):Int),0):=by
 rw[Uq,if_neg (fun h'=>h' h),if_neg (by rw[h2];simp),if_pos h3]
variable (h3:De b≠Qw (itA (De b)) (mnA (De b)) 0)
include h3
theorem ba4(h4:De b≠Qw (itA (De b)) (mnA (De b)) 2147483648):Uq b=(0,12):=by
 rw[Uq,if_neg (fun h'=>h' h),if_neg (by rw[h2];simp),if_neg h3,if_pos h4]
variable (h4:De b=Qw (itA (De b)) (mnA (De b)) 2147483648)
include h4
theorem ba5(h5:b.length<itA (De b)+64):Uq b=(0,24):=by
 rw[Uq,if_neg (fun h'=>h' h),if_neg (by rw[h2];simp),if_neg h3,if_neg (fun e=>e h4),if_pos h5]
theorem ba6(h5:¬b.length<itA (De b)+64):Uq b=if(b.take (b.length-(itA (De b)+64)+32)).drop (b.length-(itA (De b)+64))≠Qw (itA (De b)) (mnA (De b)) 2684354560 then(0,12)else(((itA (De b)+64:Nat):Int),0):=by
 rw[Uq,if_neg (fun h'=>h' h),if_neg (by rw[h2];simp),if_neg h3,if_neg (fun e=>e h4),if_neg h5]
end
theorem Byt{b:List UInt8}{n:Int}(h:Uq b=(n,0)):32≤n∧n≤b.length:=by
 unfold Uq at h
 split at h; · simp at h
 rename_i h32
 split at h; · simp at h
 split at h
 ·split at h; · simp at h
  simp only[Prod.mk.injEq,and_true]at h;omega
 split at h; · simp at h
 split at h; · simp at h
 split at h; · simp at h
 simp only[Prod.mk.injEq,and_true]at h;omega
theorem Bum{b:List UInt8}(h:(Uq b).2≠0):(Uq b).1=0:=by
 revert h
 unfold Uq
 split; · simp
 split; · simp
 split
 ·split<;>simp
 split; · simp
 split; · simp
 split<;>simp
theorem Cd9{b:List UInt8}(h:32≤b.length)(hl:b.length<4611686018427387904):Ah (Ac b) 32=((b.length-32:Nat):Int)∧Cf b ((b.length-32:Nat):Int) (Ac b)=some (De b):=by
 refine⟨by rw[Ac,Bb (by omega) (by omega)];omega,?_⟩
 rw[Nk (by omega) (by omega)];rfl
theorem Bs3(b:List UInt8)(hl:b.length<4611686018427387904):Aya b=some (Uq b):=by
 rw[Aya,Ase]
 by_cases h32:32≤b.length
 ·obtain⟨e1,e2⟩:=Cd9 h32 hl
  have hl3:=Bzb h32
  rw[if_neg (by rw[e1,Af];simp),e1,e2,Aa,Aoy,Aa]
  by_cases hp:(De b).take 8=APE
  ·have h:=And.intro h32 hp
   rw[if_neg (by simpa [APE,hl3]using hp),Atq,Bar,e1,e2,Aa,Apm _ 0 (by omega) (by omega) (by decide),Aa]
   cases hb:Ae6 (De b)with
   |true=>
    rw[ba2 h hb]
    simp only[if_true,Bool.false_eq_true,if_false]
    rw[Aa,Apm _ 2147483648 (by omega) (by omega) (by decide),Aa,hb];rfl
   |false=>
    obtain⟨i1,i2,i3,i4⟩:=Bfx (De b) (by omega) hb
    have eI:Dk (part (De b) 12 4)-32=itA (De b):=rfl
    have eM:Dk (part (De b) 16 4)=mnA (De b):=rfl
    simp only[Bool.false_eq_true,if_false]
    rw[eI]at i3
    rw[eM]at i4
    rw[eI,eM]
    by_cases c1:De b=Qw (itA (De b)) (mnA (De b)) 0
    ·have c1':De b=Qw (itA (De b)) (mnA (De b)) (0:UInt64).toNat:=c1
     rw[if_pos (by simpa using c1'),ba3 h hb c1]
     by_cases c2:b.length<itA (De b)+32
     ·rw[if_pos (by rw[Af];simp;omega),if_pos c2]
     ·rw[if_neg (by rw[Af];simp;omega),if_neg c2,Ag (by omega) (by omega)];rfl
    ·have c1':¬De b=Qw (itA (De b)) (mnA (De b)) (0:UInt64).toNat:=c1
     rw[if_neg (by simpa using c1'),Aa,Apm _ 2147483648 (by omega) (by omega) (by decide),Aa,hb]
     simp only[Bool.false_eq_true,if_false]
     rw[eI,eM]
     by_cases c2:De b=Qw (itA (De b)) (mnA (De b)) 2147483648
     ·have c2':De b=Qw (itA (De b)) (mnA (De b)) (2147483648:UInt64).toNat:=c2
      rw[if_neg (by simpa using c2'),Ag (by omega) (by omega)]
      by_cases c3:b.length<itA (De b)+64
      ·rw[if_pos (by rw[Af,Ac];simp;omega),ba5 h hb c1 c2 c3]
      ·rw[if_neg (by rw[Af,Ac];simp;omega),Ac,Bb (by omega) (by omega),Ag (by omega) (by omega),Rq (by omega) (by omega) (by omega),Aa,Bd8 _ _ _ i3 i4 (by decide),Aa,Fy,Aa,ba6 h hb c1 c2 c3]
       rw[show((b.length:Int)-(((itA (De b):Nat):Int)+64)).toNat=b.length-(itA (De b)+64) by omega,show((b.length:Int)-(((itA (De b):Nat):Int)+64)+32).toNat=b.length-(itA (De b)+64)+32 by omega]
       have e7:(2684354560:UInt64).toNat=2684354560:=rfl
       rw[e7]
       by_cases c4:(b.take (b.length-(itA (De b)+64)+32)).drop (b.length-(itA (De b)+64))=Qw (itA (De b)) (mnA (De b)) 2684354560
       ·rw[if_neg (by simpa using c4),if_neg (fun e=>e c4)];rfl
       ·rw[if_pos (by simpa using c4),if_pos c4]
     ·have c2':¬De b=Qw (itA (De b)) (mnA (De b)) (2147483648:UInt64).toNat:=c2
      rw[if_pos (by simpa using c2'),ba4 h hb c1 c2]
  ·rw[if_pos (by rw[Bool.not_eq_true',decide_eq_false_iff_not];intro h;exact hp h.2),ba1 (fun h=>hp h.2)]
 ·rw[if_pos (by rw[Ac,Bb (by omega) (by omega),Af];simp;omega),ba1 (fun h=>h32 h.1)]
def Cao:Nat→List UInt8→Nat→Int×Int
 |0,_,_=>(0,38)
 |j+1,b,a=>if b=[]then((a:Int),0)else if(Uq b).2≠0 then(0,38)else Cao j (b.take (b.length-(Uq b).1.toNat)) (a+1)
theorem Bme:∀(j q a:Nat) (b:List UInt8),b.length<j→j≤q→b.length≤4000→a+b.length≤4000→Po q (a:Int) b=some (Cao j b a)
 |0,_,_,_,h,_,_,_=>by omega
 |j+1,q+1,a,b,h,hq,h4,ha=>by
  rw[Po,Af5,Cao]
  by_cases hb:b=[]
  ·subst hb;rw[if_neg (by decide),if_pos rfl];rfl
  ·have hpos:0<b.length:=List.length_pos_iff.2 hb
   rw[if_pos (by rw[Ak,Ac];simp;omega),if_neg hb,Bs3 b (by omega),Aa]
   have hbad:=Bum (b:=b)
   have hok:=fun n=>Byt (b:=b) (n:=n)
   generalize Uq b=v at*
   obtain⟨n,e⟩:=v
   simp only at hbad⊢
   rw[Ab5,Acx]
   by_cases he:e≠0
   ·rw[if_pos he,hbad he,if_pos (by decide)]
   ·obtain⟨k1,k2⟩:=hok n (by rw[show e=0 by simpa using he])
    rw[if_neg he,if_neg (by rw[Az];simp;omega),Ac,Bb (by omega) (by omega),Jq (by omega) (by omega),Aa,Acr,Ani,Ag (by omega) (by omega)]
    rw[show((b.length:Int)-n).toNat=b.length-n.toNat by omega]
    have ih:=Bme j q (a+1) (b.take (b.length-n.toNat)) (by rw[List.length_take];omega) (by omega) (by rw[List.length_take];omega) (by rw[List.length_take];omega)
    rw[←ih];rfl
def Aj9(b:List UInt8):Int×Int:=if 4000<b.length then(0,38)else Cao (b.length+1) b 0
theorem Bad(b:List UInt8)(hl:b.length<4611686018427387904):Ti b=some (Aj9 b):=by
 rw[Ti,Afu,Aj9]
 by_cases h:4000<b.length
 ·rw[if_pos (by rw[Ak,Ac];simp;omega),if_pos h]
 ·rw[if_neg (by rw[Ak,Ac];simp;omega),if_neg h]
  exact Bme _ Ao 0 b (by omega) (by have:=Al;omega) (by omega) (by omega)
end Go.Pl
set_option linter.unusedVariables false
set_option linter.unusedSimpArgs false
namespace Go.Pl
open Go Go.Lv
theorem Az5{a b:Nat}(h:a<9223372036854775808):Bs (a:Int) (b:Int)=((a/b:Nat):Int):=by
 have:a/b≤a:=Nat.div_le_self _ _
 rw[Afp,Int.tdiv_eq_ediv_of_nonneg (by omega),←Int.natCast_ediv]
 generalize a/b=k at*
 exact Bp (by omega) (by omega)
theorem Aza{bits:Int}(h:BitsOk bits)(x:Int):(Acm bits x).length=wB bits:=by
 obtain rfl|rfl|rfl:=h<;>rfl
theorem Ar0{bits:Int}(h:BitsOk bits):∀l:List Int32,(bytesB bits l).length=l.length*wB bits
 |[]=>by simp[bytesB]
 |x::l=>by
  have h1:=Ar0 h l
  have h2:=Aza h x.toInt
  simp only[bytesB,List.flatMap_cons,List.length_append,List.length_cons,Nat.succ_mul]at*
  omega
def segF(b:List UInt8)(A:Nat)(l:List Int)(k:Nat):List UInt8:=(b.take ((A:Int)+(l.take (k+1)).sum).toNat).drop ((A:Int)+(l.take k).sum).toNat
structure Gts (b p:List UInt8) (f c w r n A:Nat) (l:List Int) (k m:Nat) (x:List Int32) (s:List UInt8) (e:Int):Prop where
 mom:getI (framesL (longN r) n) (k:Int)=some (m:Int)
 pos:1≤m∧m*c≤4000
 got:cadenzaref40_Got b p (f:Int) (c:Int) (w:Int) (r:Int) (n:Int) (A:Int) l (k:Int)=some (s,e)
 none':e≠0→s=[]∧x=[]
 some':e=0→s=bytesB (w:Int) x∧x.length=m*c∧cadenzaref18_Check (w:Int) x=some 0∧width_Bytes (w:Int) x=some (s,0)∧(A:Int)+(l.take (k+1)).sum≤b.length
 way:((b.length:Int)<(A:Int)+(l.take (k+1)).sum∧e=24)∨((A:Int)+(l.take (k+1)).sum≤b.length∧deframe_Decode (c:Int) (w:Int) (tapsOf p) (m:Int) (segF b A l k)=some (x,e)∧cadenzaref21_Decode (c:Int) (w:Int) (tapsOf p) (m:Int) (segF b A l k)=some (x,e))
theorem Aud{b p:List UInt8}{f c w r n A:Nat}{l:List Int}(o:Opn b p f c w r n A l)(k:Nat)(hk:k<l.length):∃m x s e,Gts b p f c w r n A l k m x s e:=by
 obtain⟨hc,hw,hr,hn,_⟩:=Amo o.shape
 have hfit:n≤4000/c:=by have:=o.fit;simp only[fitB,decide_eq_true_eq]at this;exact this.1
 have hn4:n≤4000:=by have:=Nat.div_le_self 4000 c;omega
 have hA:=o.at'
 have hfile:=o.file
 have hlen:=o.len
 have b1:=Gh o.five k
 have b2:=Gh o.five (k+1)
 have e:=Qd hk
 have h5:=o.five l[k] (List.getElem_mem _)
 have hsum:=o.sum
 have hs1:=o.some1
 have hkf:k<(framesL (longN r) n).length:=by omega
 obtain⟨m,hm,m1,m2⟩:=Beb (Ll r) hn (List.getElem_mem hkf)
 have hmom:getI (framesL (longN r) n) (k:Int)=some (m:Int):=by rw[Bu hkf,hm]
 have hpos:1≤m∧m*c≤4000:=by
  refine⟨m1,?_⟩
  have:=Nat.mul_le_mul_right c (Nat.le_trans m2 hfit)
  have:=Nat.div_mul_le_self 4000 c
  omega
 have hR:cadenzaref40_Got b p (f:Int) (c:Int) (w:Int) (r:Int) (n:Int) (A:Int) l (k:Int)=cadenzaref40_Got b p (f:Int) (c:Int) (w:Int) (r:Int) (n:Int) (A:Int) l (k:Int):=rfl
 conv at hR=>rhs;rw[cadenzaref40_Got,Ts,Bh0 hs1.2 o.five o.sum _ _ _ _ _ (A:Int) (by omega) (by omega) k (by omega),Aa,Bu hk,Aa,Bb (by rw[Ac];omega) (by rw[Ac];omega)]
 by_cases hto:(b.length:Int)<(A:Int)+(l.take (k+1)).sum
 ·rw[if_pos (by rw[Af,Ac,decide_eq_true_eq];omega)]at hR
  exact⟨m,[],[],24,hmom,hpos,hR,fun _=>⟨rfl,rfl⟩,fun h=>by simp at h, .inl ⟨hto,rfl⟩⟩
 ·rw[if_neg (by rw[Af,Ac,decide_eq_true_eq];omega),Bm7 p o.pass,Aw8 hr.2 hn hn4]at hR
  simp only[Aa]at hR
  rw[Ag (a:=(A:Int)+(l.take k).sum) (b:=l[k]) (by omega) (by omega),Int.add_assoc,←e,hmom]at hR
  simp only[Aa]at hR
  rw[Rq (by omega) (by omega) (by omega),Aa]at hR
  obtain⟨x,er,g1,g2,g3,g4⟩:=Akh (ch:=c) (n:=m) (t:=tapsOf p) (segF b A l k) hw (Ahf p) hc.1 hc.2 m1 (by omega)
  rw[show(b.take ((A:Int)+(l.take (k+1)).sum).toNat).drop ((A:Int)+(l.take k).sum).toNat=segF b A l k from rfl,g2,Aa]at hR
  simp only at hR
  rw[Tp,Ug]at hR
  by_cases her:er=0
  ·obtain⟨g5,g6,g7⟩:=g3 her
   rw[if_neg (by rw[Aj];simpa using her),Bhc hw g6 g5,Aa]at hR
   subst her
   exact⟨m,x,_,0,hmom,hpos,hR,fun h=>absurd rfl h,fun _=>⟨rfl,g7,g5,Beh hw g6 g5,by omega⟩, .inr ⟨by omega,g1,g2⟩⟩
  ·rw[if_pos (by rw[Aj];simpa using her)]at hR
   exact⟨m,x,_,er,hmom,hpos,hR,fun h=>⟨rfl,g4 h⟩,fun h=>absurd h her, .inr ⟨by omega,g1,g2⟩⟩
theorem Gts.lens{b p:List UInt8}{f c w r n A:Nat}{l:List Int}{k m:Nat}{x:List Int32}{s:List UInt8}{e:Int}(hw:BitsOk (w:Int))(g:Gts b p f c w r n A l k m x s e):s.length≤12000∧x.length≤4000∧(e=0→s.length=m*c*wB (w:Int)):=by
 by_cases he:e=0
 ·obtain⟨h1,h2,_⟩:=g.some' he
  have h3:=Ao2 (w:Int) x
  have h4:=Ar0 hw x
  have h5:=g.pos
  rw[←h1]at h3 h4
  refine⟨by omega,by omega,fun _=>by rw[h4,h2]⟩
 ·obtain⟨h1,h2⟩:=g.none' he
  exact⟨by simp[h1],by simp[h2],fun h=>absurd h he⟩
def Aka(G:Nat→List UInt8×Int)(be:Int):Nat→Nat→List UInt8→List UInt8×Int
 |0,_,acc=>if be≠0 then([],38)else(acc,0)
 |j+1,k,acc=>if(G k).2≠0 then([],(G k).2)else Aka G be j (k+1) (acc++(G k).1)
def Af3(b p:List UInt8)(f c w r n A:Nat)(l:List Int)(k:Nat):List UInt8×Int:=(cadenzaref40_Got b p (f:Int) (c:Int) (w:Int) (r:Int) (n:Int) (A:Int) l (k:Int)).getD ([],0)
theorem Gts.eq{b p:List UInt8}{f c w r n A:Nat}{l:List Int}{k m:Nat}{x:List Int32}{s:List UInt8}{e:Int}(g:Gts b p f c w r n A l k m x s e):Af3 b p f c w r n A l k=(s,e):=by rw[Af3,g.got];rfl
def Bgc(b:List UInt8)(A:Nat)(l:List Int):Int:=(Aj9 (b.drop ((A:Int)+l.sum).toNat)).2
section
variable {b p:List UInt8} {f c w r n A:Nat} {l:List Int} (o:Opn b p f c w r n A l)
include o
theorem Bu7(k m:Nat)(x:List Int32)(s:List UInt8)(e:Int)(hk:k<l.length)(g:Gts b p f c w r n A l k m x s e)(bk:Int→LB→Ax)(M:Int)(acc:List UInt8)(hacc:acc.length≤12000*k):
  Vp bk (A:Int) b (framesL (longN r) n) M (c:Int) (w:Int) (tapsOf p) (f:Int) (r:Int) (n:Int) l (Aur l (l.length+1)) (k:Int) ((l.take k).sum) ((l.take (k+1)).sum) acc=
   if e≠0 then some ([],e)else bk (((k+1:Nat)):Int) (acc++s):=by
 obtain⟨hc,hw,hr,hn,_⟩:=Amo o.shape
 have hA:=o.at'
 have hfile:=o.file
 have hs1:=o.some1
 have hsum:=o.sum
 have b1:=Gh o.five k
 have b2:=Gh o.five (k+1)
 have e2:=Qd hk
 have h5:=o.five l[k] (List.getElem_mem _)
 have hl:=g.lens hw
 rw[Vp,Af1,Ag (a:=(A:Int)) (b:=(l.take (k+1)).sum) (by omega) (by omega),Ag (by omega) (by omega),Ac]
 have hend:∀(e1:Int) (s1:List UInt8),s1.length≤12000→Ps bk b (framesL (longN r) n) (A:Int) M (f:Int) (c:Int) (w:Int) (r:Int) (n:Int) (tapsOf p) l (Aur l (l.length+1)) (k:Int) acc e1 s1=if e1≠0 then some ([],e1)else bk (((k+1:Nat)):Int) (acc++s1):=by
  intro e1 s1 h1
  rw[Ps,Aff]
  by_cases h:e1≠0
  ·rw[if_pos h,if_pos (by rw[Aj];simpa using h)]
  ·rw[if_neg h,if_neg (by rw[Aj];simpa using h),Cg (by omega),Aa,Afe,Ap9,Ag (by omega) (by omega)];rfl
 rcases g.way with⟨h1,h2⟩|⟨h1,h2,_⟩
 ·rw[if_pos (by rw[Ak,decide_eq_true_eq];omega),hend 24 [] (by simp),h2];rfl
 ·rw[if_neg (by rw[Ak,decide_eq_true_eq];omega),g.mom]
  simp only[Aa]
  rw[Rq (by omega) (by omega) (by omega),Aa,show(b.take ((A:Int)+(l.take (k+1)).sum).toNat).drop ((A:Int)+(l.take k).sum).toNat=segF b A l k from rfl,h2,Aa]
  simp only
  rw[Afv,Afz]
  by_cases he:e≠0
  ·rw[if_pos (by rw[Aj];simpa using he),hend e [] (by simp),if_pos he,if_pos he]
  ·have he0:e=0:=by simpa using he
   rw[if_neg (by rw[Aj];simpa using he),(g.some' he0).2.2.2.1,Aa]
   simp only
   rw[hend 0 s hl.1,if_neg (by simp),if_neg he]
theorem Bh1:∀(j k q:Nat) (acc:List UInt8),k+j=l.length→j<q→(k=l.length→(A:Int)+l.sum≤b.length)→acc.length≤12000*k→
  Lk b (framesL (longN r) n) (A:Int) l.sum (f:Int) (c:Int) (w:Int) (r:Int) (n:Int) (tapsOf p) l (Aur l (l.length+1)) q (k:Int) acc=some (Aka (Af3 b p f c w r n A l) (Bgc b A l) j k acc)
 |0,k,q+1,acc,hk,_,hfit,_=>by
  have hA:=o.at'
  have hfile:=o.file
  have hs1:=o.some1
  have hsum:=o.sum
  have b1:=Gh o.five l.length
  have hf:=hfit (by omega)
  rw[List.take_length]at b1
  rw[Lk,Vv,if_neg (by rw[Af,Ac,←o.len];simp;omega),Ae5,Apz,Ag (by omega) (by omega),Nk (by omega) (by omega),Aa,Bad _ (by rw[List.length_drop];omega),Aa,Aka,Bgc]
  generalize Aj9 (b.drop ((A:Int)+l.sum).toNat)=v
  obtain⟨v1,v2⟩:=v
  simp only
  by_cases hv:v2≠0
  ·rw[if_pos hv,if_pos (by rw[Aj];simpa using hv)]
  ·rw[if_neg hv,if_neg (by rw[Aj];simpa using hv)]
 |j+1,k,q+1,acc,hk,hq,hfit,hacc=>by
  have hs1:=o.some1
  obtain⟨m,x,s,e,g⟩:=Aud o k (by omega)
  obtain⟨hc,hw,hr,hn,_⟩:=Amo o.shape
  have hl:=g.lens hw
  have e1:Ad (k:Int) 1=((k+1:Nat):Int):=by rw[Ag (by omega) (by omega)];omega
  rw[Lk,Vv,if_pos (by rw[Af,Ac,←o.len];simp;omega),e1,Amz l (by omega),Amz l (by omega)]
  simp only[Aa]
  rw[Bu7 o k m x s e (by omega) g _ _ acc hacc,Aka,g.eq]
  simp only
  by_cases he:e≠0
  ·rw[if_pos he,if_pos he]
  ·have he0:e=0:=by simpa using he
   have hfit2:=(g.some' he0).2.2.2.2
   rw[if_neg he,if_neg he]
   exact Bh1 j (k+1) q (acc++s) (by omega) (by omega) (fun h=>by rw[h,List.take_length]at hfit2;exact hfit2) (by rw[List.length_append];omega)
theorem Bhz(k:Int):Lp b p k=some (if k<0∨(l.length:Int)≤k then([],2)else Aka (Af3 b p f c w r n A l) (Bgc b A l) (l.length-k.toNat) k.toNat []):=by
 have hs1:=o.some1
 have e1:getI (Aur l (l.length+1)) (Ac (framesL (longN r) n))=some l.sum:=by rw[Ac,←o.len,Amz l (by omega),List.take_length]
 rw[Lp,Ah8,o.prog,Aa]
 simp only
 rw[if_neg (by rw[Aj];simp),Asc o.shape o.fit,Aa]
 simp only
 rw[if_neg (by rw[Aj];simp),Bsf hs1.2 o.five o.sum hs1.1,Aa]
 simp only
 rw[if_neg (by rw[Aj];simp),Az9 p o.pass,Aa]
 simp only
 rw[if_neg (by rw[Aj];simp),e1,Aa,Aa,Afn,Af2,if_neg (by rw[Aj];simp)]
 by_cases hk:k<0∨(l.length:Int)≤k
 ·rw[if_pos hk,if_pos (by rw[Ac,←o.len];simp[Af,Ck];omega)]
 ·rw[if_neg hk,if_neg (by rw[Ac,←o.len];simp[Af,Ck];omega)]
  obtain⟨k,rfl⟩:=Int.eq_ofNat_of_zero_le (show 0≤k by omega)
  exact Bh1 o (l.length-k) k Ao [] (by omega) (by have:=Al;omega) (by omega) (by simp)
end
end Go.Pl
set_option linter.unusedVariables false
set_option linter.unusedSimpArgs false
namespace Go.Pl
open Go Go.Lv
def by'(b:List UInt8)(k:Nat):Nat:=(b.getD k 0).toNat
def sx(n:Nat)(b:List UInt8)(a:Nat):Int:=
 if n=1 then(by' b a:Int)-128 else
 if n=2 then(if by' b a+256*by' b (a+1)<32768 then(by' b a+256*by' b (a+1):Nat)else((by' b a+256*by' b (a+1):Nat):Int)-65536)else
 (if by' b a+256*by' b (a+1)+65536*by' b (a+2)<8388608 then(by' b a+256*by' b (a+1)+65536*by' b (a+2):Nat)else((by' b a+256*by' b (a+1)+65536*by' b (a+2):Nat):Int)-16777216)
def sxs(n m:Nat)(b:List UInt8):List Int32:=(List.range m).map fun x=>Int32.ofInt (sx n b (x*n))
theorem Cb8(n m:Nat)(b:List UInt8):(sxs n m b).length=m:=by simp[sxs]
theorem sx2(b:List UInt8)(a:Nat):sx 2 b a=if by' b a+256*by' b (a+1)<32768 then((by' b a+256*by' b (a+1):Nat):Int)else((by' b a+256*by' b (a+1):Nat):Int)-65536:=rfl
theorem sx3(b:List UInt8)(a:Nat):sx 3 b a=if by' b a+256*by' b (a+1)+65536*by' b (a+2)<8388608 then((by' b a+256*by' b (a+1)+65536*by' b (a+2):Nat):Int)else((by' b a+256*by' b (a+1)+65536*by' b (a+2):Nat):Int)-16777216:=rfl
variable (b:List UInt8)
end Go.Pl
set_option linter.unusedVariables false
set_option linter.unusedSimpArgs false
namespace Go.Pl
open Go Go.Lv
end Go.Pl
set_option linter.unusedVariables false
set_option linter.unusedSimpArgs false
namespace Go.Pl
open Go Go.Lv
section
variable {b p:List UInt8} {f c w r n A:Nat} {l:List Int} (o:Opn b p f c w r n A l)
include o
theorem Btl{k m:Nat}{x:List Int32}{s:List UInt8}{e:Int}(hk:k<l.length)(g:Gts b p f c w r n A l k m x s e):Jk b p (k:Int)=some (s,e):=by
 obtain⟨y,h1,h2⟩:=Buc o k hk
 rw[Bno o,h1,←g.got,h2]
end
def smF(w:Nat)(y:List UInt8×Int):List Int32:=if y.2≠0 then []else sxs (wB (w:Int)) (y.1.length/wB (w:Int)) y.1
end Go.Pl
set_option linter.unusedVariables false
set_option linter.unusedSimpArgs false
namespace Go.Pl
open Go Go.Lv
theorem Azr(z:Int):(u8 z).toNat=(z %256).toNat:=by
 have:(z %256).toNat<256:=by omega
 rw[u8,UInt8.toNat_ofNat',Nat.mod_eq_of_lt (by omega)]
theorem Bb9{bits:Int}(h:BitsOk bits):∀(l:List Int32) (i j:Nat),i<l.length→j<wB bits→(bytesB bits l).getD (i*wB bits+j) 0=(Acm bits (l.getD i 0).toInt).getD j 0
 |[],i,j,hi,_=>by simp at hi
 |x::l,0,j,_,hj=>by
  have h1:=Aza h x.toInt
  have e:bytesB bits (x::l)=Acm bits x.toInt++bytesB bits l:=by simp[bytesB]
  rw[e,Nat.zero_mul,Nat.zero_add,List.getD_eq_getElem?_getD,List.getD_eq_getElem?_getD,List.getElem?_append_left (by omega)];rfl
 |x::l,i+1,j,hi,hj=>by
  have h1:=Aza h x.toInt
  have e:bytesB bits (x::l)=Acm bits x.toInt++bytesB bits l:=by simp[bytesB]
  have ih:=Bb9 h l i j (by simpa using hi) hj
  have e2:(i+1)*wB bits+j=(Acm bits x.toInt).length+(i*wB bits+j):=by rw[Nat.add_mul,Nat.one_mul,h1];omega
  rw[e,e2,List.getD_eq_getElem?_getD,List.getElem?_append_right (by omega),Nat.add_sub_cancel_left,←List.getD_eq_getElem?_getD,ih];rfl
theorem Ca0{bits:Int}(h:BitsOk bits)(l:List Int32)(hr:inR bits l)(i:Nat)(hi:i<l.length):Int32.ofInt (sx (wB bits) (bytesB bits l) (i*wB bits))=l.getD i 0:=by
 have hm:l.getD i 0∈l:=by rw[List.getD_eq_getElem?_getD,List.getElem?_eq_getElem hi];exact List.getElem_mem hi
 have hv:=hr _ hm
 have g:∀j,j<wB bits→by' (bytesB bits l) (i*wB bits+j)=((Acm bits (l.getD i 0).toInt).getD j 0).toNat:=fun j hj=>by rw[by',Bb9 h l i j hi hj]
 generalize l.getD i 0=x at*
 have key:sx (wB bits) (bytesB bits l) (i*wB bits)=x.toInt:=by
  generalize hA:i*wB bits=a at*
  obtain rfl|rfl|rfl:=h
  ·have g0:=g 0 (by decide)
   have e1:(Acm 8 x.toInt).getD 0 0=u8 (x.toInt+128):=rfl
   rw[Nat.add_zero,e1,Azr]at g0
   simp only[hB]at hv
   simp at hv
   have e2:wB 8=1:=rfl
   rw[e2,sx,if_pos rfl,g0];omega
  ·have g0:=g 0 (by decide)
   have g1:=g 1 (by decide)
   have e0:(Acm 16 x.toInt).getD 0 0=u8 x.toInt:=rfl
   have e1:(Acm 16 x.toInt).getD 1 0=u8 (x.toInt/256):=rfl
   rw[Nat.add_zero,e0,Azr]at g0
   rw[e1,Azr]at g1
   simp only[hB]at hv
   simp at hv
   have e2:wB 16=2:=rfl
   rw[e2,sx2,g0,g1]
   split<;>omega
  ·have g0:=g 0 (by decide)
   have g1:=g 1 (by decide)
   have g2:=g 2 (by decide)
   have e0:(Acm 24 x.toInt).getD 0 0=u8 x.toInt:=rfl
   have e1:(Acm 24 x.toInt).getD 1 0=u8 (x.toInt/256):=rfl
   have e3:(Acm 24 x.toInt).getD 2 0=u8 (x.toInt/65536):=rfl
   rw[Nat.add_zero,e0,Azr]at g0
   rw[e1,Azr]at g1
   rw[e3,Azr]at g2
   simp only[hB]at hv
   simp at hv
   have e2:wB 24=3:=rfl
   rw[e2,sx3,g0,g1,g2]
   split<;>omega
 rw[key];simp
theorem Bwt{bits:Int}(h:BitsOk bits)(l:List Int32)(hr:inR bits l):sxs (wB bits) l.length (bytesB bits l)=l:=by
 refine List.ext_getElem (Cb8 _ _ _) fun i h1 h2=>?_
 have:=Ca0 h l hr i h2
 simp only[sxs,List.getElem_map,List.getElem_range]
 rw[this,List.getD_eq_getElem?_getD,List.getElem?_eq_getElem h2];rfl
theorem Gts.smp{b p:List UInt8}{f c w r n A:Nat}{l:List Int}{k m:Nat}{x:List Int32}{s:List UInt8}{e:Int}(hw:BitsOk (w:Int))(g:Gts b p f c w r n A l k m x s e):smF w (s,e)=x:=by
 have hwb:=Byy (w:Int)
 by_cases he:e=0
 ·obtain⟨h1,h2,h3,_⟩:=g.some' he
  have h4:=g.pos
  have h5:=Ar0 hw x
  rw[smF,if_neg (by simpa using he)]
  simp only
  rw[h1,h5,Nat.mul_div_cancel _ (by omega)]
  exact Bwt hw x (Atz hw (by omega) h3)
 ·rw[smF,if_pos he,(g.none' he).2]
end Go.Pl
set_option linter.unusedVariables false
set_option linter.unusedSimpArgs false
namespace Go.Pl
open Go Go.Lv
abbrev C5:=Int×Int×Int×List Int32×Int
def Cgf(e:Int):C5:=(0,0,0,[],e)
theorem Bxc{seg p:List UInt8}(hs:seg.length=8)(hp:p.length≤64):Aas seg p=some (seg==Nx (Xp p).toNat 8,0):=by
 rw[Aas,Azm p hp,Aa]
 simp only
 rw[if_neg (by rw[Aj,Aj,Ac,Ac,Bk,hs];simp),Fy,Aa]
def Cbu(X:Nat→List Int32)(E:Nat→Int)(be:Int):Nat→Nat→List Int32→List Int32×Int
 |0,_,acc=>if be≠0 then([],38)else(acc,0)
 |j+1,k,acc=>if E k≠0 then([],E k)else Cbu X E be j (k+1) (acc++X k)
def Blt(c w r:Nat)(y:List Int32×Int):C5:=if y.2≠0 then Cgf y.2 else((c:Int),(w:Int),(r:Int),y.1,0)
section
variable {b p:List UInt8} {f c w r n A:Nat} {l:List Int} (o:Opn b p f c w r n A l)
include o
theorem Az2(a1 a2 a3 a4:Int):∀(j k q:Nat) (acc:List Int32),k+j=l.length→j<q→(k=l.length→(A:Int)+l.sum≤b.length)→acc.length≤4000*k→
  Aav b l (f:Int) (c:Int) (w:Int) (r:Int) (n:Int) a1 a2 a3 (A:Int) a4 (tapsOf p) (framesL (longN r) n) q ((A:Int)+(l.take k).sum) (k:Int) acc=
   some (Blt c w r (Cbu (fun k=>smF w (Af3 b p f c w r n A l k)) (fun k=>(Af3 b p f c w r n A l k).2) (Bgc b A l) j k acc))
 |0,k,q+1,acc,hk,_,hfit,_=>by
  have hA:=o.at'
  have hfile:=o.file
  have hs1:=o.some1
  have hsum:=o.sum
  have b1:=Gh o.five l.length
  have hf:=hfit (by omega)
  obtain rfl:k=l.length:=by omega
  rw[List.take_length]at b1⊢
  rw[Aav,Aiq,if_neg (by rw[Af,Ac];simp),Arp,Asj,Nk (by omega) (by omega),Aa,Bad _ (by rw[List.length_drop];omega),Aa,Cbu,Bgc]
  generalize Aj9 (b.drop ((A:Int)+l.sum).toNat)=v
  obtain⟨v1,v2⟩:=v
  simp only
  by_cases hv:v2≠0
  ·rw[if_pos hv,if_pos (by rw[Aj];simpa using hv),Blt,if_pos (by simp)];rfl
  ·rw[if_neg hv,if_neg (by rw[Aj];simpa using hv),Blt,if_neg (by simp)]
 |j+1,k,q+1,acc,hk,hq,hfit,hacc=>by
  have hA:=o.at'
  have hfile:=o.file
  have hs1:=o.some1
  have hsum:=o.sum
  have b1:=Gh o.five k
  have b2:=Gh o.five (k+1)
  have hkl:k<l.length:=by omega
  have e2:=Qd hkl
  have h5:=o.five l[k] (List.getElem_mem _)
  obtain⟨m,x,s,e,g⟩:=Aud o k hkl
  obtain⟨hc,hw,hr,hn,_⟩:=Amo o.shape
  have hl:=g.lens hw
  rw[Aav,Aiq,if_pos (by rw[Af,Ac];simp;omega),Bu hkl,Aa,Aa,Ag (a:=(A:Int)+(l.take k).sum) (by omega) (by omega),Int.add_assoc,←e2,Ac,Cbu,g.eq]
  simp only
  rcases g.way with⟨h1,h2⟩|⟨h1,h2,_⟩
  ·rw[if_pos (by rw[Af,decide_eq_true_eq];omega),if_pos (by rw[h2];simp),h2,Blt,if_pos (by simp)];rfl
  ·rw[if_neg (by rw[Af,decide_eq_true_eq];omega),g.mom]
   simp only[Aa]
   rw[Rq (by omega) (by omega) (by omega),Aa,show(b.take ((A:Int)+(l.take (k+1)).sum).toNat).drop ((A:Int)+(l.take k).sum).toNat=segF b A l k from rfl,h2,Aa]
   simp only
   rw[Ash,Atv]
   by_cases he:e≠0
   ·rw[if_pos (by rw[Aj];simpa using he),if_pos he,Blt,if_pos he];rfl
   ·have he0:e=0:=by simpa using he
    have hfit2:=(g.some' he0).2.2.2.2
    rw[if_neg (by rw[Aj];simpa using he),if_neg he,g.smp hw,Cg (by omega),Aa,Ag (a:=(A:Int)+(l.take k).sum) (by omega) (by omega),Int.add_assoc,←e2,Ag (by omega) (by omega)]
    exact Az2 a1 a2 a3 a4 j (k+1) q (acc++x) (by omega) (by omega) (fun h=>by rw[h,List.take_length]at hfit2;exact hfit2) (by rw[List.length_append];omega)
end
end Go.Pl
set_option linter.unusedVariables false
set_option linter.unusedSimpArgs false
namespace Go.Pl
open Go Go.Lv
def Cgi(b:List UInt8):List Int:=framesL (longN (f3 (hdr b))) (f4 (hdr b))
end Go.Pl
set_option linter.unusedVariables false
set_option linter.unusedSimpArgs false
namespace Go.Pl
open Go Go.Lv
end Go.Pl
set_option linter.unusedVariables false
set_option linter.unusedSimpArgs false
namespace Go.Pl
open Go Go.Lv
theorem Bx9{ch:Nat}{bits:Int}(hb:BitsOk bits)(h1:1≤ch)(h6:ch≤6):Ep (ch:Int) bits=some 0:=by
 have hr:∃x y,Ny bits=some (x,y,0):=⟨_,_,Bj8 hb⟩
 obtain⟨x,y,hr⟩:=hr
 rw[Ep,hr,Aa]
 simp only
 rw[if_neg (by simp[Aj,Af,Ak];omega)]
abbrev P6':=Int×Int×Int×List Int32×List Int×Int
def Bxo(e:Int):P6':=(0,0,0,[],[],e)
end Go.Pl
set_option linter.unusedVariables false
set_option linter.unusedSimpArgs false
namespace Go.Pl
open Go Go.Lv
end Go.Pl
set_option linter.unusedVariables false
set_option linter.unusedSimpArgs false
namespace Go.Pl
open Go Go.Lv
theorem Brm(g:Nat):∀K:Nat,(List.replicate K (g:Int)).sum=((K*g:Nat):Int)
 |0=>by simp
 |K+1=>by
  rw[List.replicate_succ,List.sum_cons,Brm g K,Nat.succ_mul];omega
theorem Bls{g n:Nat}(hn:1≤n):(framesL g n).sum=(n:Int):=by
 have h:=Nat.div_mul_le_self (n-1) g
 rw[framesL,List.sum_append,Brm]
 simp only[List.sum_cons,List.sum_nil]
 omega
end Go.Pl
set_option linter.unusedVariables false
set_option linter.unusedSimpArgs false
namespace Go.Pl
open Go Go.Lv
theorem Bhb{bits:Int}(h:BitsOk bits){l:List Int32}(hl:l.length≤4000)(hr:inR bits l):cadenzaref18_Check bits l=some 0:=by
 have hh:=Aie bits
 have key:∀(j i q:Nat),i+j=l.length→j<q→Ap l (hB bits) q (i:Int)=some 0:=by
  intro j
  induction j with
  |zero=>
   intro i q hi hq
   obtain⟨q,rfl⟩:∃k,q=k+1:=⟨q-1,by omega⟩
   rw[Ap,Br,if_neg (by rw[Af,Ac];simp;omega)];rfl
  |succ j ih=>
   intro i q hi hq
   obtain⟨q,rfl⟩:∃k,q=k+1:=⟨q-1,by omega⟩
   have hx:=hr l[i] (List.getElem_mem (by omega))
   rw[Ap,Br,if_pos (by rw[Af,Ac];simp;omega),Bu (by omega),Aa,Aa,Dp,Bj2,Bp (by omega) (by omega),Ag (by omega) (by omega),Af,Ck,if_neg (by simp;omega),if_neg (by simp;omega)]
   exact ih (i+1) q (by omega) (by omega)
 rw[cadenzaref18_Check,Ci,Aj8 h,Aa,if_neg (by rw[Az];simp;omega),if_neg (by rw[Ak,Ac];simp;omega)]
 exact key l.length 0 Ao (by omega) (by have:=Al;omega)
def Bjg{α:Type}(G:Nat→List α):Nat→Nat→List α
 |0,_=>[]
 |j+1,k=>G k++Bjg G j (k+1)
theorem Ay2(G:Nat→List UInt8×Int):∀(j k:Nat) (acc:List UInt8),(∀i,k≤i→i<k+j→(G i).2=0)→Aka G 0 j k acc=(acc++Bjg (fun i=>(G i).1) j k,0)
 |0,k,acc,h=>by
  rw[Aka,if_neg (by simp),Bjg];simp
 |j+1,k,acc,h=>by
  rw[Aka,if_neg (by rw[h k (by omega) (by omega)];simp),Ay2 G j (k+1) _ fun i h1 h2=>h i (by omega) (by omega),Bjg,List.append_assoc]
end Go.Pl
set_option linter.unusedVariables false
set_option linter.unusedSimpArgs false
namespace Go.Pl
open Go Go.Lv
def Ih(bits:Int)(ch:Nat)(t x:List Int32):List UInt32:=evl bits ch t (mx ch x) x.length
def Ah5(bits:Int)(ch:Nat)(t x:List Int32):List UInt8:=Hw (Mc ch (Ih bits ch t x) x.length)
def Li(bits:Int)(ch:Nat)(t x:List Int32):List UInt8:=Ah5 bits ch t x++Nx (Ca (Ah5 bits ch t x)).toNat 4
theorem Blz(bits:Int)(ch:Nat)(t x:List Int32)(h0:1≤x.length)(h4:x.length≤4000):1≤(Ah5 bits ch t x).length∧(Ah5 bits ch t x).length≤40501:=by
 have h:=Asl ch (Ih bits ch t x) x.length
 obtain⟨k,hk⟩:∃k,x.length=k+1:=⟨x.length-1,by omega⟩
 have h1:1≤(Mc ch (Ih bits ch t x) x.length).length:=by
  rw[hk,Mc,List.length_append]
  have hn:=Bip ch ((Ih bits ch t x).take k)
  have:=Amv ((Ih bits ch t x).getD k 0) hn.1 hn.2
  omega
 rw[Ah5,Sr]
 omega
theorem Bc2(bits:Int)(ch:Nat)(t x:List Int32)(h0:1≤x.length)(h4:x.length≤4000):5≤(Li bits ch t x).length∧(Li bits ch t x).length≤40505:=by
 have:=Blz bits ch t x h0 h4
 rw[Li,List.length_append,Bk]
 omega
theorem Bge(bits:Int)(ch:Nat)(t x:List Int32)(h0:1≤x.length)(h4:x.length≤4000):Ky (Li bits ch t x)=0∧(Li bits ch t x).take ((Li bits ch t x).length-4)=Ah5 bits ch t x:=by
 have h:=Bc2 bits ch t x h0 h4
 have hl:(Li bits ch t x).length-4=(Ah5 bits ch t x).length:=by rw[Li,List.length_append,Bk];omega
 have h1:(Li bits ch t x).take ((Li bits ch t x).length-4)=Ah5 bits ch t x:=by rw[hl,Li,List.take_left]
 have h2:(Li bits ch t x).drop ((Li bits ch t x).length-4)=Nx (Ca (Ah5 bits ch t x)).toNat 4:=by rw[hl,Li,List.drop_left]
 have hlt:=(Ca (Ah5 bits ch t x)).toNat_lt
 refine⟨?_,h1⟩
 rw[Ky,if_neg (by omega),if_neg (by omega),h1,h2,Vs,Nat.mod_eq_of_lt (by omega),if_neg (by simp)]
theorem Bpl{bits:Int}{ch n:Nat}{t x:List Int32}(hb:BitsOk bits)(ht:t.length=16)(h1:1≤ch)(h6:ch≤6)(n1:1≤n)(n2:n≤4000/ch)(hx:x.length=n*ch)(hr:inR bits x):
  deframe_Decode (ch:Int) bits t (n:Int) (Li bits ch t x)=some (x,0)∧cadenzaref21_Decode (ch:Int) bits t (n:Int) (Li bits ch t x)=some (x,0):=by
 have hn:n*ch≤4000:=by
  have:=Nat.mul_le_mul_right ch n2
  have h2:=Nat.div_mul_le_self 4000 ch
  omega
 have hq4:=Bbw h1 h6
 have hx1:1≤x.length:=by rw[hx];exact Nat.mul_pos n1 h1
 have key:cadenzaref21_Decode (ch:Int) bits t (n:Int) (Li bits ch t x)=some (x,0):=by
  generalize 4000/ch=mm at*
  have hh:=Aie bits
  have hasked:Ch (ch:Int) bits (n:Int)=some 0:=by
   rw[Ch,By,if_neg (by simp[Af,Ak];omega),Aj8 hb,Aa,if_neg (by rw[Az];simp;omega),Aa,if_neg (by simp[Aj,Af];omega),Ay (by rw[Aj];simp;omega),Aa,hq4,if_neg (by rw[Ak];simp;omega)]
  have hlen:=Bc2 bits ch t x hx1 (by omega)
  obtain⟨hs,htk⟩:=Bge bits ch t x hx1 (by omega)
  have hpl:=Blz bits ch t x hx1 (by omega)
  have e4:Ah (Ac (Li bits ch t x)) 4=(((Li bits ch t x).length-4:Nat):Int):=by rw[Ac,Bb (by omega) (by omega)];omega
  have hVl:(Ih bits ch t x).length=x.length:=Auc _ _ _ _ _
  have hEl:=Sr (Mc ch (Ih bits ch t x) x.length)
  have hvb:=Bg0 ch (Ih bits ch t x) (8*(Ah5 bits ch t x).length) (by rw[hVl,Ah5,hEl];omega) (n*ch) 0 (by omega)
  rw[hVl]at hvb
  have hread:=Bq3 (N:=8*(Ah5 bits ch t x).length) (p:=Ah5 bits ch t x) rfl (by omega) h1 h6 hn
  have hvb':Ta ch (Ah5 bits ch t x) (8*(Ah5 bits ch t x).length) (n*ch) 0 []=(Ih bits ch t x,(Mc ch (Ih bits ch t x) x.length).length,0):=hvb
  have hz:Bd (Ah5 bits ch t x) (Mc ch (Ih bits ch t x) x.length).length (8*(Ah5 bits ch t x).length-(Mc ch (Ih bits ch t x) x.length).length)=0:=by
   apply Az4
   intro k _
   rw[Ah5,Xx,Bj5 (by omega)]
  have hgap:¬7<8*(Ah5 bits ch t x).length-(Mc ch (Ih bits ch t x) x.length).length:=by rw[Ah5,hEl];omega
  rw[hvb']at hread
  simp only at hread
  rw[if_neg (by decide),if_neg (by rw[hz];simp;omega)]at hread
  have hm:(Ih bits ch t x).length %ch=0:=by rw[hVl,hx];exact Nat.mul_mod_left n ch
  have hund:=Bhw (v:=Ih bits ch t x) hb ht h1 h6 (by omega) hm
  have hsm:smp bits ch t (Ih bits ch t x)=mx ch x:=by
   have:=Bzx bits ch t (mx ch x)
   rw[Ait]at this
   exact this
  rw[hsm,Cdp h1 (by rw[hx];exact Nat.mul_mod_left n ch)]at hund
  rw[cadenzaref21_Decode,Jl,hasked,Aa,if_neg (by rw[Aj];simp),Awr,Aa,hs,if_neg (by decide),e4,Jq (by omega) (by omega),Aa,Int.toNat_natCast,htk,hread,Aa]
  simp only
  rw[Jj,Jg,if_neg (by decide),hund,Aa,Mr,Bhb hb (by omega) hr,Aa,if_neg (by decide)]
  rfl
 obtain⟨l,e,d1,d2,_,_⟩:=Akh (Li bits ch t x) hb ht h1 h6 n1 n2
 rw[key]at d2
 cases d2
 exact⟨d1,key⟩
end Go.Pl
set_option linter.unusedVariables false
set_option linter.unusedSimpArgs false
namespace Go.Pl
open Go Go.Lv
theorem Buw{a b:Nat}(ha:a<2^32)(hb:b<2^32)(h:Yj a=Yj b):a=b:=by
 have key:∀s:Nat,s<2^32→(Yj s).testBit 31=decide (s %2=1)∧(∀i,i<31→(Yj s).testBit i=((s/2).testBit i^^ (decide (s %2=1)&&(3988292384:Nat).testBit i))):=by
  intro s hs
  have h31:(s/2).testBit 31=false:=Nat.testBit_lt_two_pow (by omega)
  rcases Nat.mod_two_eq_zero_or_one s with e|e
  ·refine⟨?_,fun i _=>?_⟩<;>rw[Yj,if_neg (by omega),Nat.xor_zero]
   ·rw[h31];simp[e]
   ·simp[e]
  ·refine⟨?_,fun i _=>?_⟩<;>rw[Yj,if_pos e,Nat.testBit_xor]
   ·rw[h31];simp[e];decide
   ·simp[e]
 obtain⟨a1,a2⟩:=key a ha
 obtain⟨b1,b2⟩:=key b hb
 rw[h,b1]at a1
 have hm:a %2=b %2:=by
  have:(b %2=1)=(a %2=1):=by simpa using a1
  rcases Nat.mod_two_eq_zero_or_one a with e|e<;>rcases Nat.mod_two_eq_zero_or_one b with e'|e'<;>simp_all
 have hd:a/2=b/2:=by
  apply Nat.eq_of_testBit_eq
  intro i
  by_cases hi:i<31
  ·have e1:=a2 i hi
   have e2:=b2 i hi
   rw[h,e2,hm]at e1
   cases hx:(a/2).testBit i<;>cases hy:(b/2).testBit i<;>simp_all
  ·rw[Nat.testBit_lt_two_pow (show a/2<2^i from Nat.lt_of_lt_of_le (by omega:a/2<2^31) (Nat.pow_le_pow_right (by omega) (by omega))),Nat.testBit_lt_two_pow (show b/2<2^i from Nat.lt_of_lt_of_le (by omega:b/2<2^31) (Nat.pow_le_pow_right (by omega) (by omega)))]
 omega
theorem Ay0{s:Nat}(h:s<2^32):Yj s<2^32:=by
 unfold Yj
 exact Nat.xor_lt_two_pow (n:=32) (by omega) (by split<;>decide)
theorem Ag9:∀(k:Nat) {s:Nat},s<2^32→Pr k s<2^32
 |0,_,h=>h
 |k+1,_,h=>Ag9 k (Ay0 h)
theorem Azy:∀(k:Nat) {a b:Nat},a<2^32→b<2^32→Pr k a=Pr k b→a=b
 |0,_,_,_,_,h=>h
 |k+1,_,_,ha,hb,h=>Buw ha hb (Azy k (Ay0 ha) (Ay0 hb) h)
theorem Aa0{a b:Nat}(ha:a<2^32)(hb:b<2^32):a^^^b<2^32:=Nat.xor_lt_two_pow ha hb
theorem Aw2{a b c:Nat}(h:a^^^c=b^^^c):a=b:=by
 have:=congrArg (· ^^^c) h
 simpa [Nat.xor_assoc]using this
theorem Bnx:∀(l:List UInt8) {a b:Nat},a<2^32→b<2^32→Anq a l=Anq b l→a=b
 |[],_,_,_,_,h=>h
 |c::l,a,b,ha,hb,h=>by
  have hc:=c.toNat_lt
  have h1:Akr a c.toNat<2^32:=Ag9 8 (Aa0 ha (by omega))
  have h2:Akr b c.toNat<2^32:=Ag9 8 (Aa0 hb (by omega))
  have h3:Akr a c.toNat=Akr b c.toNat:=Bnx l h1 h2 h
  exact Aw2 (Azy 8 (Aa0 ha (by omega)) (Aa0 hb (by omega)) h3)
theorem Bl7(s:Nat)(a b:List UInt8):Anq s (a++b)=Anq (Anq s a) b:=by rw[Anq,Anq,Anq,List.foldl_append]
theorem Bfl:∀(l:List UInt8) {s:Nat},s<2^32→Anq s l<2^32
 |[],_,h=>h
 |c::l,s,h=>Bfl l (Ag9 8 (Aa0 h (by have:=c.toNat_lt;omega)))
theorem Bwh{a r:List UInt8}{x y:UInt8}(h:x≠y):Ca (a++x::r)≠Ca (a++y::r):=by
 intro e
 have h0:(4294967295:Nat)<2^32:=by decide
 have hs:=Bfl a h0
 have hlt:∀z:UInt8,Anq 4294967295 (a++z::r)<2^32:=fun z=>Bfl _ h0
 have e1:Anq 4294967295 (a++x::r)=Anq 4294967295 (a++y::r):=by
  have e2:=congrArg UInt32.toNat e
  rw[Ca,Ca,UInt32.toNat_sub,UInt32.toNat_sub,UInt32.toNat_ofNat',UInt32.toNat_ofNat',Nat.mod_eq_of_lt (hlt x),Nat.mod_eq_of_lt (hlt y)]at e2
  have:=hlt x
  have:=hlt y
  have e3:(4294967295:UInt32).toNat=4294967295:=rfl
  omega
 rw[Bl7,Bl7]at e1
 have hx:=x.toNat_lt
 have hy:=y.toNat_lt
 have e2:Akr (Anq 4294967295 a) x.toNat=Akr (Anq 4294967295 a) y.toNat:=Bnx r (Ag9 8 (Aa0 hs (by omega))) (Ag9 8 (Aa0 hs (by omega))) e1
 have e3:=Azy 8 (Aa0 hs (by omega)) (Aa0 hs (by omega)) e2
 rw[Nat.xor_comm,Nat.xor_comm _ y.toNat]at e3
 exact h (UInt8.toNat_inj.1 (Aw2 e3))
theorem Btj{b:List UInt8}{i:Nat}{y:UInt8}(hs:Ky b=0)(hi:i<b.length)(hy:b[i]≠y):Ky (b.set i y)=22:=by
 have hl:=Bmm hs
 have h22:(Ca ((b.set i y).take (b.length-4))).toNat≠Dk ((b.set i y).drop (b.length-4)):=by
  have h0:(Ca (b.take (b.length-4))).toNat=Dk (b.drop (b.length-4)):=by
   rw[Ky,if_neg (by omega),if_neg (by omega)]at hs
   by_cases h:(Ca (b.take (b.length-4))).toNat≠Dk (b.drop (b.length-4))
   ·rw[if_pos h]at hs;cases hs
   ·simpa using h
  by_cases hlt:i<b.length-4
  ·have e1:(b.set i y).drop (b.length-4)=b.drop (b.length-4):=by rw[List.drop_set,if_pos hlt]
   have e2:(b.set i y).take (b.length-4)=(b.take (b.length-4)).set i y:=by rw[List.take_set]
   rw[e1,e2,←h0]
   intro e
   have hget:(b.take (b.length-4)).length=b.length-4:=by rw[List.length_take];omega
   have hsplit:b.take (b.length-4)=(b.take (b.length-4)).take i++b[i]::(b.take (b.length-4)).drop (i+1):=by
    have:=(List.take_append_drop i (b.take (b.length-4))).symm
    rw[List.drop_eq_getElem_cons (by omega)]at this
    simpa using this
   have hsplit2:(b.take (b.length-4)).set i y=(b.take (b.length-4)).take i++y::(b.take (b.length-4)).drop (i+1):=by
    rw[List.set_eq_take_append_cons_drop,if_pos (by omega)]
   have e':=UInt32.toNat_inj.1 e
   rw[hsplit2]at e'
   conv at e'=>rhs;rw[hsplit]
   exact Bwh (fun h=>hy h.symm) e'
  ·have e1:(b.set i y).take (b.length-4)=b.take (b.length-4):=by rw[List.take_set_of_le (by omega)]
   rw[e1,h0]
   intro e
   have hd:(b.set i y).drop (b.length-4)=b.drop (b.length-4):=(Bjy (by simp) e).symm
   have:=congrArg (fun l=>b.take (b.length-4)++l) hd
   simp only[List.take_append_drop]at this
   have h3:b.take (b.length-4)++(b.set i y).drop (b.length-4)=b.set i y:=by rw[←e1,List.take_append_drop]
   rw[h3]at this
   have h4:(b.set i y)[i]'(by simpa using hi)=b[i]:=by congr 1
   rw[List.getElem_set_self]at h4
   exact hy h4.symm
 rw[Ky,List.length_set,if_neg (by omega),if_neg (by omega),if_pos h22]
end Go.Pl
set_option linter.unusedVariables false
set_option linter.unusedSimpArgs false
namespace Go.Pl
open Go Go.Lv
theorem Bnm(p:List UInt8)(b0:UInt64)(a0:Int):∀(j m q:Nat),m+j≤300000→j≤64→j<q→
  Lw b0 a0 q (Kx p m j) (j:Int) (m:Int) (Lq p 0 m)=some (Lq p 0 (m+j),((m+j:Nat):Int),0)
 |0,m,q+1,_,_,_=>by
  rw[Lw,Agx,if_neg (by rw[Ak];simp),Ao1,Axk];rfl
 |j+1,m,q+1,hm,hj,hq=>by
  have hroom:Lw b0 a0 (q+1) (Kx p m (j+1)) ((j+1:Nat):Int) (m:Int) (Lq p 0 m)=Ag0 (Lw b0 a0 q) b0 a0 (Kx p m (j+1)) ((j+1:Nat):Int) (m:Int) (room p 0 m):=by
   rw[Lw,Agx,if_pos (by rw[Ak];simp),Bba m (by omega),room]
   by_cases h0:m %8=0
   ·rw[if_pos (by rw[Az,h0];rfl),Cg (by rw[Gg];simp;omega),Aa,if_pos h0]
   ·rw[if_neg (by rw[Az];simp;omega),if_neg h0]
  have hl:Ah (Ac (room p 0 m)) 1=((m/8:Nat):Int):=by
   rw[Ac,Ka,Bb (by omega) (by omega)];omega
  have e2:Da ((j+1:Nat):Int) (Ah (8:Int) ((m %8:Nat):Int))=((min (j+1) (8-m %8):Nat):Int):=by
   rw[Ab6,Bb (by omega) (by omega)];omega
  rw[hroom,Ag0,Aog,Bba m (by omega),e2,hl]
  generalize hT:min (j+1) (8-m %8)=T
  have hT1:1≤T:=by omega
  have hT8:m %8+T≤8:=by omega
  have hg:getI (room p 0 m) ((m/8:Nat):Int)=some (UInt8.ofNat (Bd p (0+8*(m/8)) (m %8))):=by
   rw[Bu (by rw[Ka];omega),Aub]
  have z1:(GI.toZ ((m %8:Nat):Int)).toNat=m %8:=rfl
  have z2:(GI.toZ ((T:Nat):Int)).toNat=T:=rfl
  have hlt:=Ayb p (0+8*(m/8)) (m %8+T) (by omega)
  have hadd:=Aea p (m %8) T (0+8*(m/8))
  rw[show 0+8*(m/8)+m %8=m by omega]at hadd
  have hbyte:(Ae (Cx (Kx p m (j+1)) (Ah (Cn (1:UInt64) T) (1:UInt64))):UInt8)=UInt8.ofNat (Bd p m T):=by
   rw[Aja,Ce6 _ (by omega),Bod p m (j+1) T (by omega) hj]
  have hnew:gor (UInt8.ofNat (Bd p (0+8*(m/8)) (m %8))) (Cn (UInt8.ofNat (Bd p m T)) (m %8))=UInt8.ofNat (Bd p (0+8*(m/8)) (m %8+T)):=by
   rw[or8 (Kw _ _ _) (by rw[Nat.mul_comm];omega) (by omega),hadd,Nat.mul_comm (2^(m %8))]
  rw[hg,z1,z2,hbyte]
  simp only[Aa]
  rw[Ay (by rw[Ck];simp),Aa,Ay (by rw[Ck];simp;omega),Aa,hnew,My _ (by rw[Ka];omega),Aa,Axe p 0 m T hT1 hT8,Ao8,Ax1,Bba m (by omega),e2,hT,Ay (by rw[Ck];simp),Aa,z2,Bnt p m (j+1) T (by omega) hj,Bb (by omega) (by omega),Ag (by omega) (by omega)]
  have ih:=Bnm p b0 a0 (j+1-T) (m+T) q (by omega) (by omega) (by omega)
  rw[show m+T+(j+1-T)=m+(j+1) by omega]at ih
  rw[←ih,show((j+1:Nat):Int)-((T:Nat):Int)=((j+1-T:Nat):Int) by omega,show(m:Int)+((T:Nat):Int)=((m+T:Nat):Int) by omega]
theorem put_eq(p:List UInt8)(m j:Nat)(hm:m+j≤300000)(hj:j≤63):Ajd (Lq p 0 m) (m:Int) (Kx p m j) (j:Int)=some (Lq p 0 (m+j),((m+j:Nat):Int),0):=by
 have hz:Bf (Bl (Kx p m j) (GI.toZ (j:Int)).toNat) 0=false:=by
  have:Bl (Kx p m j) j=0:=by
   apply UInt64.toNat_inj.1
   rw[Aai,Rv p m j (by omega),Nat.div_eq_of_lt (Kw p j m)];rfl
  rw[show(GI.toZ (j:Int)).toNat=j from rfl,this];rfl
 have hl:=Gg p 0 m
 have htw:Ane (Lq p 0 m) (m:Int)=some (Lq p 0 m,(m:Int)):=by
  rw[Ane,Dg,Cg (by simp;omega),Aa,Aa];rfl
 rw[Ajd,Asa,Tc (Ax7 p 0 m (by omega)),Aa,if_neg (by decide),if_neg (by simp[Af,Ak];omega),if_pos (by rw[Af];simp;omega),Ay (by rw[Ck];simp),Aa,hz,if_neg (by decide),Ag (by omega) (by omega),if_neg (by rw[Ak];simp;omega),htw,Aa]
 exact Bnm p _ _ j m Ao hm (by omega) (by have:=Al;omega)
end Go.Pl
set_option linter.unusedVariables false
set_option linter.unusedSimpArgs false
namespace Go.Pl
open Go Go.Lv
theorem At.cat{p:List UInt8}{a:Nat}{c d:List Bool}(h:At p a (c++d)):At p a c∧At p (a+c.length) d:=⟨h.left,h.right⟩
theorem Bms(p:List UInt8):∀(q a:Nat),At p a (List.replicate q true)→Bd p a q+1=2^q
 |0,a,_=>by rw[Bd]
 |q+1,a,h=>by
  rw[List.replicate_succ]at h
  obtain⟨h0,h1⟩:=h.cons
  have:=Bms p q (a+1) h1
  rw[Bd,h0,Nat.pow_succ,if_pos rfl];omega
theorem Ay8{x:UInt64}{p:List UInt8}{m n:Nat}(hn:n≤63)(h:x.toNat=Bd p m n):x=Kx p m n:=by
 apply UInt64.toNat_inj.1
 rw[h,Rv p m n (by omega)]
theorem Ake{n:Nat}(h:n<2^64):(UInt64.ofNat n).toNat=n:=by rw[UInt64.toNat_ofNat'];exact Nat.mod_eq_of_lt h
theorem Bgf{p:List UInt8}{m q:Nat}(hq:q≤48)(hm:m+48≤300000)(h:At p m (List.replicate q true++(if q=48 then []else [false]))):
  Akv (Lq p 0 m) (m:Int) (q:Int)=some (Lq p 0 (m+min (q+1) 48),((m+min (q+1) 48:Nat):Int),0):=by
 have h1:=h.left
 have hv:=Bms p q m h1
 have hp48:2^q≤2^48:=Nat.pow_le_pow_right (by omega) hq
 have hval:Bd p m (min (q+1) 48)+1=2^q:=by
  by_cases h48:q=48
  ·subst h48;exact hv
  ·rw[if_neg h48]at h
   have h2:=h.right
   rw[List.length_replicate]at h2
   have h0:=h2.cons.1
   rw[show min (q+1) 48=q+1 by omega,At0,h0]
   simpa using hv
 have hx:(Ah (Cn (1:UInt64) q) (1:UInt64)).toNat=Bd p m (min (q+1) 48):=by
  have e1:(Cn (1:UInt64) q).toNat=2^q:=by rw[Aio];show 1*2^q %_=_;rw[Nat.one_mul];exact Nat.mod_eq_of_lt (by omega)
  have hpos:0<2^q:=Nat.pow_pos (by omega)
  rw[Ax2,UInt64.toNat_sub_of_le _ _ (by rw[UInt64.le_iff_toNat_le,e1];exact hpos),e1]
  show 2^q-1=_
  omega
 rw[Akv,Tc (Ax7 p 0 m (by omega)),Aa,if_neg (by decide),Apk,if_neg (by simp[Af,Ak];omega),Aa]
 simp only
 have e2:Da (Ad (q:Int) 1) 48=((min (q+1) 48:Nat):Int):=by rw[Ab6,Ag (by omega) (by omega)];omega
 rw[if_neg (by decide),Ay (by rw[Ck];simp),Aa,e2,show(GI.toZ (q:Int)).toNat=q from rfl,Ay8 (by omega) hx,put_eq p m _ (by omega) (by omega),Aa]
theorem Bw7{p:List UInt8}{m l:Nat}{v:UInt32}(hl:l≤24)(hm:m+81≤300000)(h:At p m (Ai1 l v.toNat)):
  Aop (Lq p 0 m) (m:Int) v (l:Int)=some (Lq p 0 (m+(Ai1 l v.toNat).length),((m+(Ai1 l v.toNat).length:Nat):Int),0):=by
 have hvl:=v.toNat_lt
 have hz:(GI.toZ (l:Int)).toNat=l:=rfl
 have hlp:2^l≤2^24:=Nat.pow_le_pow_right (by omega) hl
 have hpos:0<2^l:=Nat.pow_pos (by omega)
 have hesc:Sy v (l:Int)=some (decide (48≤v.toNat/2^l)):=by
  rw[Sy,Ay (by rw[Ck];simp),Aa,hz,Bq7,Aer];rfl
 rw[Aop,Al1,Tc (Ax7 p 0 m (by omega)),Aa,if_neg (by decide),if_neg (by simp[Af,Ak];omega),Ay (by rw[Ck];simp),Aa,Aa,hesc,Aa]
 rw[Ai1]at h⊢
 by_cases h48:48≤v.toNat/2^l
 ·rw[if_pos h48]at h⊢
  obtain⟨h1,h2⟩:=h.cat
  rw[List.length_replicate]at h2
  have hval:=Acq p 32 (m+48) v.toNat h2
  rw[Nat.mod_eq_of_lt (by omega)]at hval
  have hu:=Bgf (p:=p) (m:=m) (q:=48) (Nat.le_refl _) (by omega) (by rw[if_pos rfl,List.append_nil];exact h1)
  rw[if_pos (by simpa using h48),Ac3,Alv,show(48:Int)=((48:Nat):Int)from rfl,hu,Aa]
  simp only
  rw[if_neg (by decide),Cd,Ay8 (x:=UInt64.ofNat v.toNat) (p:=p) (m:=m+48) (n:=32) (by omega) (by rw[Ake (by omega),hval]),show(32:Int)=((32:Nat):Int)from rfl,show m+min (48+1) 48=m+48 by omega,put_eq p (m+48) 32 (by omega) (by omega),Aa,List.length_append,List.length_replicate,Nu,Nat.add_assoc]
 ·rw[if_neg h48]at h⊢
  generalize hq:v.toNat/2^l=q at*
  obtain⟨h1,h2⟩:=h.cat
  rw[List.length_replicate]at h2
  obtain⟨h3,h4⟩:=h2.cons
  have hval:=Acq p l (m+q+1) (v.toNat %2^l) h4
  rw[Nat.mod_mod]at hval
  have hqa:At p m (List.replicate q true++[false]):=by
   have:List.replicate q true++(false::Ap7 (v.toNat %2^l) l)=(List.replicate q true++[false])++Ap7 (v.toNat %2^l) l:=by simp
   rw[this]at h
   exact h.left
  have hu:=Bgf (p:=p) (m:=m) (q:=q) (by omega) (by omega) (by rw[if_neg (by omega)];exact hqa)
  have hgq:(Ae (Bl v l):Int)=(q:Int):=by rw[Bea,Aer,hq]
  have hrest:(Ae (Cx v (Ah (Cn (1:UInt32) l) 1)):UInt64)=Kx p (m+q+1) l:=by
   apply Ay8 (by omega)
   have e1:(Cn (1:UInt32) l).toNat=2^l:=by rw[Ar7];show 1*2^l %_=_;rw[Nat.one_mul];exact Nat.mod_eq_of_lt (by omega)
   have e2:(Ah (Cn (1:UInt32) l) (1:UInt32)).toNat=2^l-1:=by
    rw[Bc1,UInt32.toNat_sub_of_le _ _ (by rw[UInt32.le_iff_toNat_le,e1];exact hpos),e1];rfl
   have e3:(Cx v (Ah (Cn (1:UInt32) l) 1)).toNat=v.toNat %2^l:=by
    rw[Bcm,UInt32.toNat_and,e2,Nat.and_two_pow_sub_one_eq_mod]
   rw[Cd,Ake (by rw[e3];have:=Nat.mod_lt v.toNat hpos;omega),e3,hval]
  rw[if_neg (by simpa using h48),Ac3,Alv,hz,hgq,hu,Aa]
  simp only
  rw[if_neg (by decide),hrest,show m+min (q+1) 48=m+q+1 by omega,put_eq p (m+q+1) l (by omega) (by omega),Aa,List.length_append,List.length_replicate,List.length_cons,Nu,show m+q+1+l=m+(q+(l+1)) by omega]
theorem Bx5{k l:Nat}{s t:UInt64}(h:okD k l s t)(v:UInt32):Apr [] 0 (k:Int) (l:Int) s t v=
  some (Hw (Mm k l v),((Mm k l v).length:Int),((kS k (Rf s (n64 v)):Nat):Int),((lK l t k v:Nat):Int),Rf s (n64 v),lT t k v,0):=by
 obtain⟨h1,h2,h3,h4⟩:=h
 have hvl:=v.toNat_lt
 have hAt:At (Hw (Mm k l v)) 0 (Mm k l v):=fun i hi=>by rw[Nat.zero_add,Xx]
 have hlen:=Amv v h1 h2
 have hfull:Lq (Hw (Mm k l v)) 0 (Mm k l v).length=Hw (Mm k l v):=by
  apply Bn1 (by rw[Gg,Sr])
  intro i hi
  rw[Ayr,Nat.zero_add,Xx]
  by_cases hlt:i<(Mm k l v).length
  ·rw[if_pos hlt]
  ·rw[if_neg hlt,Bj5 (by omega)]
 generalize hP:Hw (Mm k l v)=P at*
 have h0:Lq P 0 0=[]:=rfl
 have hp10:∀(x:Int) (y:UInt64) (aj ai:Int),Up v (k:Int) s ai P x y=some (P,ai,((kS k (Rf s (n64 v)):Nat):Int),x,Rf s (n64 v),y,0):=by
  intro x y aj ai
  rw[Up,Aln,Cd,Ams,Bqm k h1]
  rw[Ale,Alm,Aip,Aa5,Cd,Ams];rfl
 have hp7:∀ai:Int,Ac6 v (k:Int) (l:Int) s t 0 ai P=some (P,ai,((kS k (Rf s (n64 v)):Nat):Int),((lK l t k v:Nat):Int),Rf s (n64 v),lT t k v,0):=by
  intro ai
  rw[Ac6,Al3,if_neg (by decide),Bdr k l s t h1,Aa]
  by_cases hv:v.toNat<2^k
  ·rw[if_pos hv]
   simp only
   rw[if_neg (by rw[Az];simp),hp10 _ _ 0,lK,if_pos hv,lT,if_pos hv]
  ·rw[if_neg hv]
   simp only
   rw[if_pos (by rw[Az];rfl),Cd,Ams,Bqm l h2 _ (fun x=>Up v (k:Int) s ai P x (Rf t (UInt64.ofNat (Aqa k v).toNat))),hp10 _ _ 0,lK,if_neg hv,lT,if_neg hv];rfl
 rw[Apr,Alo,show Ge [] 0=some 0 from rfl,Aa,if_neg (by decide),Bwa ⟨h1,h2,h3,h4⟩,Aa,if_neg (by decide),Ame,Al4,Bdr k l s t h1,Aa]
 have hput:=put_eq P 0 1 (by omega) (by omega)
 rw[h0,Nat.zero_add,show((0:Nat):Int)=0 from rfl,show((1:Nat):Int)=1 from rfl]at hput
 by_cases hv:v.toNat<2^k
 ·have hc:Mm k l v=false::Ap7 v.toNat k:=by rw[Mm,if_pos hv]
  rw[hc]at hAt hfull
  obtain⟨b0,b1⟩:=hAt.cons
  have hval:=Acq P k 1 v.toNat b1
  rw[Nat.mod_eq_of_lt hv]at hval
  have hz:(Ae (0:Int):UInt64)=Kx P 0 1:=Ay8 (by omega) (by rw[Axx,b0];rfl)
  rw[if_pos hv]
  simp only
  rw[hz,hput,Aa]
  simp only
  rw[if_pos (by decide),Cd,Ay8 (x:=UInt64.ofNat v.toNat) (p:=P) (m:=1) (n:=k) (by omega) (by rw[Ake (by omega),hval]),show(1:Int)=((1:Nat):Int)from rfl,put_eq P 1 k (by omega) (by omega),Aa]
  simp only
  rw[List.length_cons,Nu,Nat.add_comm k 1]at hfull
  rw[hfull,hp7,hc,List.length_cons,Nu,Nat.add_comm k 1]
 ·have hc:Mm k l v=true::Ai1 l (v.toNat-2^k):=by rw[Mm,if_neg hv]
  rw[hc]at hAt hfull
  obtain⟨b0,b1⟩:=hAt.cons
  have hsub:=Nat.sub_le v.toNat (2^k)
  have hlv:(Aqa k v).toNat=v.toNat-2^k:=by rw[Aqa,Akd (by omega)]
  have hz:(Ae (1:Int):UInt64)=Kx P 0 1:=Ay8 (by omega) (by rw[Axx,b0];rfl)
  have hr:=Bw7 (p:=P) (m:=1) (l:=l) (v:=Aqa k v) h2 (by omega) (by rw[hlv];exact b1)
  rw[hlv,show((1:Nat):Int)=1 from rfl]at hr
  rw[if_neg hv]
  simp only
  rw[hz,hput,Aa]
  simp only
  rw[if_neg (by decide),if_pos (by decide),hr,Aa]
  simp only
  rw[List.length_cons,Nat.add_comm _ 1]at hfull
  rw[hfull,hp7,hc,List.length_cons,Nat.add_comm _ 1]
end Go.Pl
set_option linter.unusedVariables false
set_option linter.unusedSimpArgs false
namespace Go.Pl
open Go Go.Lv
section
variable (ch:Nat) (x:List Int32)
theorem Akz{at' i:Nat}(ha:at' %ch=0)(hi:i<ch)(h:at'+i<x.length):(mx ch x).getD (at'+i) 0=mxV (fun i=>x.getD (at'+i) 0) ch i:=by
 have hb:(at'+i) %ch=i:=by rw[Nat.add_mod,ha,Nat.zero_add,Nat.mod_mod,Nat.mod_eq_of_lt hi]
 rw[Bxl h,hb,show at'+i-i=at' by omega]
theorem Blv(bk:Int→List Int32→Option (List Int32×Int))(at':Nat)(h1:1≤ch)(h6:ch≤6)(hm:at' %ch=0)(hl:at'+ch≤x.length)(hl2:x.length≤4000):∀(j i q:Nat),i+j=ch-1→j<q→
  Xt bk (ch:Int) (at':Int) q (i:Int) (sel (fun k=>decide (k<at'+i)) (mx ch x) x)=bk ((at'+ch:Nat):Int) (sel (fun k=>decide (k<at'+ch)) (mx ch x) x)
 |j,i,0,_,h=>absurd h (Nat.not_lt_zero _)
 |0,i,q+1,hi,_=>by
  have hlen:=Ait ch x
  have e1:Ah (Ad (at':Int) (ch:Int)-(at':Int)) 1=((ch-1:Nat):Int):=by rw[Ag (by omega) (by omega),Bb (by omega) (by omega)];omega
  have e2:Ad (at':Int) (ch:Int)-(at':Int)=(ch:Int):=by rw[Ag (by omega) (by omega)];omega
  have e4:Ad (at':Int) (ch:Int)=((at'+ch:Nat):Int):=by rw[Ag (by omega) (by omega)];omega
  rw[Xt,Aj0,e1,if_neg (by rw[Af];simp;omega),Atr,Att,e1,e2]
  obtain rfl:i=ch-1:=by omega
  by_cases h2:1<ch
  ·have e3:Ah ((ch-1:Nat):Int) 1=((ch-2:Nat):Int):=by rw[Bb (by omega) (by omega)];omega
   have hv:Ah (x.getD (at'+(ch-1)) 0) (Bs ((mx ch x).getD (at'+(ch-2)) 0) 2)=(mx ch x).getD (at'+(ch-1)) 0:=by
    rw[Akz ch x hm (by omega) (by omega),Akz ch x hm (by omega) (by omega),mxV,mxV,if_pos (by omega),if_neg (by omega),if_pos h2,Ai4,show ch-2+1=ch-1 by omega]
   rw[if_pos (by rw[Ak];simp;omega),Avc (by omega),Aa,e3,Avc (by omega),Aa,
    show(at':Int)+((ch-1:Nat):Int)=((at'+(ch-1):Nat):Int) by omega,show(at':Int)+((ch-2:Nat):Int)=((at'+(ch-2):Nat):Int) by omega,
    Vu (by omega),Aa,Vu (by omega),Aa,Aa,if_neg (by simp),if_pos (by simp;omega),hv,Ao3 (by omega),Aa,Akp,Asq,e4]
   congr 1
   apply Qa
   intro k _
   rw[Bool.eq_iff_iff];simp;omega
  ·obtain rfl:ch=1:=by omega
   have hlast:x.getD at' 0=(mx 1 x).getD at' 0:=by
    have:=Akz 1 x (i:=0) hm (by omega) (by omega)
    rw[Nat.add_zero]at this
    rw[this,mxV,if_neg (by omega),if_neg (by omega)];rfl
   rw[if_neg (by rw[Ak];simp),Akp,Asq,e4]
   congr 1
   apply List.ext_getElem (by rw[Ac5,Ac5])
   intro k g1 g2
   rw[Nz,Nz]
   by_cases hk:k<at'
   ·rw[if_pos (by simp;omega),if_pos (by simp;omega)]
   ·by_cases hk2:k=at'
    ·subst hk2
     rw[if_neg (by simp),if_pos (by simp)]
     exact hlast
    ·rw[if_neg (by simp;omega),if_neg (by simp;omega)]
 |j+1,i,q+1,hi,hq=>by
  have hlen:=Ait ch x
  have e1:Ah (Ad (at':Int) (ch:Int)-(at':Int)) 1=((ch-1:Nat):Int):=by rw[Ag (by omega) (by omega),Bb (by omega) (by omega)];omega
  have e2:Ad (at':Int) (ch:Int)-(at':Int)=(ch:Int):=by rw[Ag (by omega) (by omega)];omega
  have e3:Ad (i:Int) 1=((i+1:Nat):Int):=by rw[Ag (by omega) (by omega)];omega
  have hv:Ah (x.getD (at'+(i+1)) 0) (x.getD (at'+i) 0)=(mx ch x).getD (at'+i) 0:=by
   rw[Akz ch x hm (by omega) (by omega),mxV,if_pos (by omega),Ai4]
  rw[Xt,Aj0,e1,if_pos (by rw[Af];simp;omega),e2,e3,Avc (by omega),Aa,Avc (by omega),Aa,
   show(at':Int)+((i+1:Nat):Int)=((at'+(i+1):Nat):Int) by omega,show(at':Int)+(i:Int)=((at'+i:Nat):Int) by omega,
   Vu (by omega),Aa,Vu (by omega),Aa,Aa,if_neg (by simp),if_neg (by simp),hv,Ao3 (by omega),Aa]
  have ih:=Blv bk at' h1 h6 hm hl hl2 j (i+1) q (by omega) (by omega)
  rw[←ih]
  congr 1
  apply Qa
  intro k _
  rw[Bool.eq_iff_iff];simp;omega
theorem Bau(h1:1≤ch)(h6:ch≤6)(hm:x.length %ch=0)(hl2:x.length≤4000):∀(j at' q:Nat),at' %ch=0→at'≤x.length→x.length-at'≤j→j<q→
  Xq (ch:Int) q (at':Int) (sel (fun k=>decide (k<at')) (mx ch x) x)=some (mx ch x,0)
 |j,at',0,_,_,_,h=>absurd h (Nat.not_lt_zero _)
 |j,at',q+1,ha,hle,hj,hq=>by
  have hlen:=Ait ch x
  have hl:Ac (sel (fun k=>decide (k<at')) (mx ch x) x)=(x.length:Int):=by rw[Ac,Ac5,hlen]
  rw[Xq,Asr,hl]
  by_cases h:at'<x.length
  ·have hb:=Axf ha hm h
   obtain⟨j,rfl⟩:∃k,j=k+1:=⟨j-1,by omega⟩
   have e4:Ad (at':Int) (ch:Int)=((at'+ch:Nat):Int):=by rw[Ag (by omega) (by omega)];omega
   have hi:=Blv ch x (Xq (ch:Int) q) at' h1 h6 ha hb hl2 (ch-1) 0 Ao (by omega) (by have:=Al;omega)
   have hrest:=Bau h1 h6 hm hl2 j (at'+ch) q (by rw[Nat.add_mod_right,ha]) hb (by omega) (by omega)
   rw[Nat.add_zero]at hi
   rw[if_pos (by rw[Af];simp;omega),show vwI (x.length:Int) (at':Int) (Ad (at':Int) (ch:Int))=some () by rw[e4,vwI,Avc];omega,Aa]
   exact Eq.trans hi hrest
  ·rw[if_neg (by rw[Af];simp;omega),Aui (fun k hk=>by simp;omega)]
   rfl
theorem Bs5(h1:1≤ch)(h6:ch≤6)(hm:x.length %ch=0)(hl2:x.length≤4000):Bbr (ch:Int) x=some (mx ch x,0):=by
 have hlen:=Ait ch x
 have h:=Bau ch x h1 h6 hm hl2 x.length 0 Ao (by simp) (by omega) (by omega) (by have:=Al;omega)
 rw[Bbr,Awf,Blp ch x h1 h6 hm hl2,Aa,if_neg (by rw[Aj];simp),Cr,Cg (by simp;omega),Aa,Aa,List.nil_append,As1]
 rw[Ary hlen.symm (fun k _=>by simp)]at h
 exact h
end
theorem Bwg(a:Int32):At6 a=some (Ark a):=by
 have h:=Uj a
 have hc:(Ae a:UInt32)=UInt32.ofNat (a.toInt %4294967296).toNat:=rfl
 have hs:(Bl a (GI.toZ (31:UInt64)).toNat)=if 0≤a.toInt then(0:Int32)else -1:=by
  have e:Bl a 31=Int32.ofInt (a.toInt.fdiv (2^31)):=rfl
  rw[show(GI.toZ (31:UInt64)).toNat=31 from rfl,e]
  by_cases h0:0≤a.toInt
  ·rw[if_pos h0,show a.toInt.fdiv (2^31)=0 by rw[Int.fdiv_eq_ediv_of_nonneg _ (by decide)];omega];rfl
  ·rw[if_neg h0,show a.toInt.fdiv (2^31)= -1 by rw[Int.fdiv_eq_ediv_of_nonneg _ (by decide)];omega];rfl
 rw[At6,hs,hc,Ark]
 congr 1
 have hsh:(Cn (UInt32.ofNat (a.toInt %4294967296).toNat) (GI.toZ (1:UInt64)).toNat).toNat=2*(a.toInt %4294967296).toNat %4294967296:=by
  rw[show(GI.toZ (1:UInt64)).toNat=1 from rfl,Ar7,UInt32.toNat_ofNat',Nat.mod_eq_of_lt (show(a.toInt %4294967296).toNat<2^32 by omega)]
  omega
 by_cases h0:0≤a.toInt
 ·rw[if_pos h0,if_pos h0,show(Ae (0:Int32):UInt32)=0 from rfl]
  apply UInt32.toNat_inj.1
  rw[show∀z:UInt32,Nn z (0:UInt32)=z^^^0 from fun z=>by rw[Amu],UInt32.toNat_xor,hsh,UInt32.toNat_ofNat',Nat.mod_eq_of_lt (show 2*a.toInt.toNat<2^32 by omega)]
  show _^^^0=_
  rw[Nat.xor_zero];omega
 ·rw[if_neg h0,if_neg h0,show(Ae (-1:Int32):UInt32)=4294967295 from rfl]
  apply UInt32.toNat_inj.1
  rw[show∀z:UInt32,Nn z (4294967295:UInt32)=z^^^4294967295 from fun z=>by rw[Amu],UInt32.toNat_xor,hsh,UInt32.toNat_ofNat',Nat.mod_eq_of_lt (show 2*(-a.toInt-1).toNat+1<2^32 by omega)]
  show _^^^4294967295=_
  have key:∀n:Nat,n<4294967296→n^^^4294967295=4294967295-n:=by
   intro n hn
   have:=BitVec.toNat_not (x:=BitVec.ofNat 32 n)
   rw[←BitVec.xor_allOnes,BitVec.toNat_xor,BitVec.toNat_ofNat,Nat.mod_eq_of_lt (by omega)]at this
   simpa using this
  rw[key _ (by omega)]
  omega
theorem Bwy{bits:Int}(h:BitsOk bits){t p:List Int32}(hF:OkF (sB bits) t p)(last x:Int32):
  Pu bits last (sB bits) t p x=some (Bbl bits (last,t,p) x,bits,x,sB bits,lrn t p (Bbl bits (last,t,p) x),(x-gs (shB bits) last)::p.take 15,0):=by
 rw[Pu,Be0 h,Aa,if_neg (by rw[Aj];simp),Bwe h,Aa]
 simp only
 rw[Ai4,Aj4,Bml hF,Aa]
 simp only
 rw[if_neg (by rw[Aj];simp),Ai4,Ajn,Bli hF,Aa]
 simp only
 rw[Brz (s:=sB bits) (t:=lrn t p _) (p:=p) ⟨hF.1,Zk _ _ _,hF.2.2⟩,Aa,Aa]
 rfl
end Go.Pl
set_option linter.unusedVariables false
set_option linter.unusedSimpArgs false
namespace Go.Pl
open Go Go.Lv
theorem Bc3(bits:Int)(ch:Nat)(t x:List Int32):(Ih bits ch t x).length=x.length:=Auc _ _ _ _ _
theorem Byj{bits:Int}{ch:Nat}{t x:List Int32}{i:Nat}(h:i<x.length):(Ih bits ch t x).getD i 0=Ark (Bbl bits (cst bits ch t (Ih bits ch t x) (i %ch) i) ((mx ch x).getD i 0)):=by
 obtain⟨w,hw⟩:=Bis bits ch t (mx ch x) (x.length-(i+1)) (i+1)
 rw[show i+1+(x.length-(i+1))=x.length by omega,evl,List.append_assoc]at hw
 have hli:=Auc bits ch t (mx ch x) i
 have hw':Ih bits ch t x=_:=hw
 have hg:(Ih bits ch t x).getD i 0=Ark (Bbl bits (cst bits ch t (evl bits ch t (mx ch x) i) (i %ch) i) ((mx ch x).getD i 0)):=by
  rw[hw',List.getD_eq_getElem?_getD,List.getElem?_append_right (by omega),hli,Nat.sub_self];rfl
 have hc:cst bits ch t (Ih bits ch t x) (i %ch) i=cst bits ch t (evl bits ch t (mx ch x) i) (i %ch) i:=by rw[hw',Br5 _ _ _ _ _ _ _ (by omega)]
 rw[hg,hc]
section
variable {bits:Int} {ch:Nat} {t x:List Int32} (hb:BitsOk bits) (ht:t.length=16) (h1:1≤ch) (h6:ch≤6) (hx1:1≤x.length) (hx4:x.length≤4000) (hm:x.length %ch=0)
include hb ht h1 h6 hx1 hx4 hm
omit ht in
theorem Cd7(hr:inR bits x):Ac7 (ch:Int) bits x=some 0:=by
 rw[Ac7,Bx9 hb h1 h6,Aa,if_neg (by decide),Apa hb x hx4,Bhb hb hx4 hr,Aa,if_neg (by decide),if_neg (by rw[Az,Ac,beq_iff_eq];omega),Ay (by rw[Aj];simp;omega),Aa,Ac,Ajm,hm,if_neg (by decide)]
omit hm in
theorem Bgd:∀(j i q:Nat),i+j=x.length→j<q→
  Hu (mx ch x) (ch:Int) bits q (i:Int) (cts bits ch t (Ih bits ch t x) i) ((Ih bits ch t x).take i)=some (Ih bits ch t x,0)
 |j,i,0,_,h=>absurd h (Nat.not_lt_zero _)
 |0,i,q+1,hi,_=>by
  have hl:=Ait ch x
  have hV:=Bc3 bits ch t x
  rw[Hu,Oe,if_neg (by rw[Af,Ac];simp;omega),List.take_of_length_le (by omega)]
  rfl
 |j+1,i,q+1,hi,hq=>by
  have hl:=Ait ch x
  have hV:=Bc3 bits ch t x
  have hc:i %ch<6:=Nat.lt_of_lt_of_le (Nat.mod_lt _ (by omega)) h6
  have hok:=Bjd bits ch ht (Ih bits ch t x) (i %ch) i
  have hs:=Brv (bits:=bits) (ch:=ch) (t:=t) (v:=Ih bits ch t x) (i:=i) hc rfl
  have hg:=Byj (bits:=bits) (ch:=ch) (t:=t) (x:=x) (i:=i) (by omega)
  have ih:=Bgd j (i+1) q (by omega) (by omega)
  have htk:(Ih bits ch t x).take i++[(Ih bits ch t x).getD i 0]=(Ih bits ch t x).take (i+1):=by
   have:(Ih bits ch t x).getD i 0=(Ih bits ch t x)[i]'(by omega):=by rw[List.getD_eq_getElem?_getD,List.getElem?_eq_getElem (by omega)];rfl
   rw[this,Jw (by omega)]
  have hfw:=Bwy hb hok (cst bits ch t (Ih bits ch t x) (i %ch) i).1 ((mx ch x).getD i 0)
  rw[Hu,Oe,if_pos (by rw[Af,Ac];simp;omega),g32 (by omega),Aa,Aa,Ay (by rw[Aj];simp;omega),Aa,Ajm,Bqz hc,Aa,Aa]
  refine Eq.trans (congrArg (fun o=>Option.bind o _) hfw) ?_
  rw[Aa]
  simp only
  rw[if_neg (by decide)]
  have hst:((bits,(mx ch x).getD i 0,(sB bits,lrn (cst bits ch t (Ih bits ch t x) (i %ch) i).2.1 (cst bits ch t (Ih bits ch t x) (i %ch) i).2.2 (Bbl bits (cst bits ch t (Ih bits ch t x) (i %ch) i) ((mx ch x).getD i 0)),((mx ch x).getD i 0-gs (shB bits) (cst bits ch t (Ih bits ch t x) (i %ch) i).1)::(cst bits ch t (Ih bits ch t x) (i %ch) i).2.2.take 15,()),()):CL)=toC bits (Bgq bits (cst bits ch t (Ih bits ch t x) (i %ch) i) (Aij ((Ih bits ch t x).getD i 0))):=by
   rw[hg,Byb,toC,Bgq,Bgw]
   simp only
   rw[Bbl,Akk]
  refine Eq.trans (congrArg (fun o=>Option.bind o _) ((congrArg (fun z=>Ia (cts bits ch t (Ih bits ch t x) i) ((i %ch:Nat):Int) z) hst).trans hs)) ?_
  rw[Aa,Bwg,Aa]
  have hg2:Ark (Bbl bits ((cst bits ch t (Ih bits ch t x) (i %ch) i).1,(cst bits ch t (Ih bits ch t x) (i %ch) i).2.1,(cst bits ch t (Ih bits ch t x) (i %ch) i).2.2) ((mx ch x).getD i 0))=(Ih bits ch t x).getD i 0:=hg.symm
  rw[hg2,Cg (by rw[List.length_take];simp;omega),Aa,htk,Ag (by omega) (by omega)]
  exact ih
theorem Bov(hr:inR bits x):Yo (ch:Int) bits t x=some (Ih bits ch t x,0):=by
 have hl:=Ait ch x
 have h:=Bgd hb ht h1 h6 hx1 hx4 x.length 0 Ao (by omega) (by have:=Al;omega)
 have e:Ao=(Ao-7)+1+1+1+1+1+1+1:=by have:=Al;omega
 have hs:Qx (ch:Int) bits t (mx ch x) 0 (List.replicate 6 ((0:Int),(0:Int32),((0:Int),(List.replicate 16 (0:Int32)),(List.replicate 16 (0:Int32)),()),()))=Yy (ch:Int) bits (mx ch x) (cts bits ch t (Ih bits ch t x) 0):=by
  rw[Qx,e]
  obtain rfl|rfl|rfl:=hb<;>rfl
 rw[Yo,Aap,Cd7 hb h1 h6 hx1 hx4 hm hr,Aa,if_neg (by decide),Bs5 ch x h1 h6 hm hx4,Aa]
 simp only
 rw[if_neg (by decide)]
 refine Eq.trans hs ?_
 exact h
end
theorem Bpa(ch:Nat):Aam=some (sts ch []):=by
 have e:Ao=(Ao-7)+1+1+1+1+1+1+1:=by have:=Al;omega
 rw[Aam,Aan,Ye,e]
 rfl
theorem Bmw(c:List Bool){n:Nat}(h:n≤c.length):Lq (Hw c) 0 n=Hw (c.take n):=by
 have hl:(c.take n).length=n:=by rw[List.length_take];omega
 apply Bn1 (by rw[Gg,Sr,hl])
 intro i hi
 rw[Ayr,Nat.zero_add,Xx,Xx]
 by_cases hlt:i<n
 ·rw[if_pos hlt,tb,tb,List.getD_eq_getElem?_getD,List.getD_eq_getElem?_getD,List.getElem?_take,if_pos hlt]
 ·rw[if_neg hlt,Bj5 (by omega)]
theorem Cdd(a:UInt8){k:Nat}(hk:k<8):Cx (Bl a k) (1:UInt8)=UInt8.ofNat (a.toNat/2^k %2):=by
 apply UInt8.toNat_inj.1
 rw[Br0,UInt8.toNat_and,Bij,UInt8.toNat_ofNat']
 show _&&&1=_
 rw[Nat.and_one_is_mod]
 generalize a.toNat/2^k=X
 omega
theorem Bob(E code:List Bool)(hE:E.length+code.length≤330000)(bk:Int→List (Int×Int×UInt64×UInt64×Unit)→Int→List UInt8→Ba)(V:List UInt32)(b f g:Int)(k:List (Int×Int×UInt64×UInt64×Unit)):∀(j o q:Nat),o+j=code.length→j<q→
  Eo bk V b f (code.length:Int) g k (Hw code) q (o:Int) ((E.length+o:Nat):Int) (Lq (Hw (E++code)) 0 (E.length+o))=bk (Ad g 1) k ((E.length+code.length:Nat):Int) (Hw (E++code))
 |j,o,0,_,h=>absurd h (Nat.not_lt_zero _)
 |0,o,q+1,ho,_=>by
  obtain rfl:o=code.length:=by omega
  rw[Eo,Pd,if_neg (by rw[Af];simp),Wq,Ajs,Bmw _ (by rw[List.length_append];omega),List.take_of_length_le (by rw[List.length_append];omega)]
 |j+1,o,q+1,ho,hq=>by
  generalize hP:Hw (E++code)=P
  have hPo:Et P (E.length+o)=Et (Hw code) o:=by rw[←hP,Xx,Xx,Bjo]
  have ih:=Bob E code hE bk V b f g k j (o+1) q (by omega) (by omega)
  rw[hP,←Nat.add_assoc]at ih
  generalize hn:E.length+o=n at*
  have hq8:Bs (n:Int) 8=((n/8:Nat):Int):=by rw[show(8:Int)=((8:Nat):Int)from rfl,Az5 (by omega)]
  have hr8:Ew (n:Int) 8=((n %8:Nat):Int):=by rw[show(8:Int)=((8:Nat):Int)from rfl,Ajm]
  have hqo:Bs (o:Int) 8=((o/8:Nat):Int):=by rw[show(8:Int)=((8:Nat):Int)from rfl,Az5 (by omega)]
  have hro:Ew (o:Int) 8=((o %8:Nat):Int):=by rw[show(8:Int)=((8:Nat):Int)from rfl,Ajm]
  have hroom:Eo bk V b f (code.length:Int) g k (Hw code) (q+1) (o:Int) (n:Int) (Lq P 0 n)=Oj (Eo bk V b f (code.length:Int) g k (Hw code) q) (code.length:Int) V g b f k (Hw code) (o:Int) (n:Int) (room P 0 n):=by
   rw[Eo,Pd,if_pos (by rw[Af];simp;omega),hr8,room]
   by_cases h0:n %8=0
   ·rw[if_pos (by rw[Az,h0];rfl),Cg (by rw[Gg];simp;omega),Aa,if_pos h0]
   ·rw[if_neg (by rw[Az];simp;omega),if_neg h0]
  have hcl:=Sr code
  have hgm:getI (Hw code) ((o/8:Nat):Int)=some ((Hw code).getD (o/8) 0):=by
   rw[Bu (by omega),List.getD_eq_getElem?_getD,List.getElem?_eq_getElem (by omega)];rfl
  have hg:getI (room P 0 n) ((n/8:Nat):Int)=some (UInt8.ofNat (Bd P (0+8*(n/8)) (n %8))):=by
   rw[Bu (by rw[Ka];omega),Aub]
  have hbit:Cx (Bl ((Hw code).getD (o/8) 0) (o %8)) (1:UInt8)=UInt8.ofNat (Et P n):=by
   rw[Cdd _ (by omega),hPo,Et]
  have hlt:=Ayb P (0+8*(n/8)) (n %8+1) (by omega)
  have hsn:=At0 P (0+8*(n/8)) (n %8)
  rw[show 0+8*(n/8)+n %8=n by omega]at hsn
  have hnew:gor (UInt8.ofNat (Bd P (0+8*(n/8)) (n %8))) (Cn (UInt8.ofNat (Et P n)) (n %8))=UInt8.ofNat (Bd P (0+8*(n/8)) (n %8+1)):=by
   rw[or8 (Kw _ _ _) (by rw[Nat.mul_comm];omega) (by omega),hsn,Nat.mul_comm (2^(n %8))]
  rw[hroom,Oj,Wo,hqo,hro,hq8,hr8,hgm,Aa,Aa,Ay (by rw[Ck];simp;omega),Aa,hg,Aa,Ay (by rw[Ck];simp;omega),Aa,Aa,Aa,
   show(GI.toZ ((o %8:Nat):Int)).toNat=o %8 from rfl,show(GI.toZ ((n %8:Nat):Int)).toNat=n %8 from rfl,hbit,hnew,My _ (by rw[Ka];omega),Aa,Axe P 0 n 1 (by omega) (by omega),Wl,Aiw,Ag (by omega) (by omega),Ag (by omega) (by omega)]
  exact ih
theorem Cgm(l m:List UInt8)(h:l.length+m.length≤1000000):Il [l,m]=some (l++m):=by
 have hF:Ao=(Ao-3)+1+1+1:=by have:=Al;omega
 rw[Il,Ke,Kb]
 have g0:getI [l,m] (0:Int)=some l:=rfl
 have g1:getI [l,m] (1:Int)=some m:=rfl
 have l2:Ac [l,m]=2:=rfl
 have h3:Ga [l,m] []=some (l++m):=by
  rw[Ga,Jn,Jp,hF,Ct,Ea,l2,if_pos (by decide),g0,Aa,Cg (by simp;omega),Aa,List.nil_append,show Ad (0:Int) 1=1 by decide,
   Ct,Ea,l2,if_pos (by decide),g1,Aa,Cg (by omega),Aa,show Ad (1:Int) 1=2 by decide,Ct,Ea,l2,if_neg (by decide)]
  rfl
 rw[hF,Cy,Em,l2,if_pos (by decide),g0,Aa,Ag (by unfold Ac;omega) (by unfold Ac;omega),if_neg (by rw[Af,Ac];simp),show Ad (0:Int) 1=1 by decide,
  Cy,Em,l2,if_pos (by decide),g1,Aa,Ag (by unfold Ac;omega) (by unfold Ac;omega),if_neg (by rw[Af,Ac,Ac];simp;omega),show Ad (1:Int) 1=2 by decide,
  Cy,Em,l2,if_neg (by decide),Jh,Jm,if_neg (by rw[Af,Ac,Ac];simp;omega),Jo,Jf]
 have z:Ah (0:Int) 0=0:=by decide
 have n0:(0:Int)+Ac l+Ac m=((l.length+m.length:Nat):Int):=by simp[Ac]
 rw[z,n0,Bb (by omega) (by omega),Int.sub_zero]
 by_cases hp:0<l.length+m.length
 ·rw[if_pos (by rw[Ak];simp;omega),show vwI (0:Int) 0 0=some ()from rfl,Aa,Ax8 (by omega) (by omega),Aa,Cg (by simp;omega),Aa]
  rw[show vwI (Ac ([]++List.replicate ((l.length+m.length:Nat):Int).toNat (0:UInt8))) 0 0=some () by rw[vwI,Ay];simp[Ac];omega,Aa]
  simp only[Ajv,Int.sub_self,Int.toNat_zero,List.take_zero]
  exact h3
 ·rw[if_neg (by rw[Ak];simp;omega)];exact h3
theorem Bk7(bits:Int)(ch:Nat)(h1:1≤ch)(h6:ch≤6)(V:List UInt32)(hV:V.length≤4000):∀(j i q:Nat),i+j=V.length→j<q→
  Fs V (ch:Int) bits q (i:Int) (sts ch (V.take i)) ((Mc ch V i).length:Int) (Hw (Mc ch V i))=some (Hw (Mc ch V V.length)++Nx (Ca (Hw (Mc ch V V.length))).toNat 4,0)
 |j,i,0,_,h=>absurd h (Nat.not_lt_zero _)
 |0,i,q+1,hi,_=>by
  obtain rfl:i=V.length:=by omega
  have hel:=Asl ch V V.length
  have hpl:=Sr (Mc ch V V.length)
  have hlt:=(Ca (Hw (Mc ch V V.length))).toNat_lt
  rw[Fs,Oh,if_neg (by rw[Af,Ac];simp),Wh,Ahc,Az6 _ (by omega),Aa]
  simp only
  have e64:(UInt64.ofNat (Ca (Hw (Mc ch V V.length))).toNat).toNat=(Ca (Hw (Mc ch V V.length))).toNat:=Ake (by omega)
  rw[if_neg (by decide),Cd,show(4:Int)=((4:Nat):Int)from rfl,Aix _ 4 (by omega) (by omega) (by rw[e64];omega),Aa]
  simp only
  rw[if_neg (by decide),e64,Cgm _ _ (by rw[Bk];omega),Aa]
 |j+1,i,q+1,hi,hq=>by
  have hc:i %ch<6:=Nat.lt_of_lt_of_le (Nat.mod_lt _ (by omega)) h6
  have hvl:(V.take i).length=i:=by rw[List.length_take];omega
  have hel:=Asl ch V i
  have hk:=Bip ch (V.take i)
  have hcl:=Amv (V.getD i 0) hk.1 hk.2
  have ih:=Bk7 bits ch h1 h6 V hV j (i+1) q (by omega) (by omega)
  have hvi:V.getD i 0=V[i]'(by omega):=by rw[List.getD_eq_getElem?_getD,List.getElem?_eq_getElem (by omega)];rfl
  have htk:V.take i++[V.getD i 0]=V.take (i+1):=by rw[hvi,Jw (by omega)]
  have hst:=Biq (ch:=ch) (v:=V.take i) hc
  have hset:=Brd (ch:=ch) (v:=V.take i) (V.getD i 0) hc (by rw[hvl])
  have hnow:chP ch (V.take i) (i %ch) (V.take i).length=now ch (V.take i):=Bz4 (by rw[hvl])
  rw[hnow]at hst hset
  rw[htk]at hset
  have hdp:=Bx5 (k:=(now ch (V.take i)).1) (l:=(now ch (V.take i)).2.1) (s:=(now ch (V.take i)).2.2.1) (t:=(now ch (V.take i)).2.2.2) (As6 ch (V.take i) _ _) (V.getD i 0)
  have hpc:=Bob (Mc ch V i) (Mm (now ch (V.take i)).1 (now ch (V.take i)).2.1 (V.getD i 0)) (by omega) (Fs V (ch:Int) bits q) V (ch:Int) bits (i:Int) (sts ch (V.take (i+1))) (Mm (now ch (V.take i)).1 (now ch (V.take i)).2.1 (V.getD i 0)).length 0 Ao (by omega) (by have:=Al;omega)
  rw[show(Mc ch V i).length+0=(Mc ch V i).length from rfl,Bmw _ (by rw[List.length_append];omega),List.take_left,show((0:Nat):Int)=0 from rfl]at hpc
  rw[Fs,Oh,if_pos (by rw[Af,Ac];simp;omega),Aw3 (by omega),Aa,Aa,Ay (by rw[Aj];simp;omega),Aa,Ajm,hst,Aa,Aa]
  refine Eq.trans (congrArg (fun o=>Option.bind o _) hdp) ?_
  rw[Aa]
  simp only
  rw[if_neg (by decide),Aa,Aa]
  refine Eq.trans (congrArg (fun o=>Option.bind o _) hset) ?_
  rw[Aa]
  refine Eq.trans hpc ?_
  rw[Ag (by omega) (by omega)]
  rw[Mc,List.length_append]at ih
  exact ih
theorem Bjc{bits:Int}{ch:Nat}{t x:List Int32}(hb:BitsOk bits)(ht:t.length=16)(h1:1≤ch)(h6:ch≤6)(hx1:1≤x.length)(hx4:x.length≤4000)(hm:x.length %ch=0)(hr:inR bits x):
  Nl (ch:Int) bits t x=some (Li bits ch t x,0):=by
 have hV:=Bc3 bits ch t x
 have h:=Bk7 bits ch h1 h6 (Ih bits ch t x) (by omega) (Ih bits ch t x).length 0 Ao (by omega) (by have:=Al;omega)
 have e0:Hw (Mc ch (Ih bits ch t x) 0)=[]:=by simp[Mc,Hw]
 have e1:((Mc ch (Ih bits ch t x) 0).length:Int)=0:=rfl
 rw[e0,e1,List.take_zero,hV,show((0:Nat):Int)=0 from rfl]at h
 rw[Nl,Aaj,Bov hb ht h1 h6 hx1 hx4 hm hr,Aa]
 simp only
 rw[if_neg (by decide),Bpa ch,Aa,Li,Ah5,Wk]
 exact h
end Go.Pl
set_option linter.unusedVariables false
namespace Go.Pl
open Go Go.Lv
end Go.Pl
set_option linter.unusedVariables false
set_option linter.unusedSimpArgs false
namespace Go.Pl
open Go Go.Lv
end Go.Pl
set_option linter.unusedVariables false
set_option linter.unusedSimpArgs false
namespace Go.Pl
open Go Go.Lv
theorem Cdo{r:Nat}(h1:1≤r)(h:r≤1048576):Lo (r:Int)=some ((longN r:Int),0):=by
 have hv:=Be4 h
 have e:Bg (r:Int) 256=Bg 256 (r:Int):=by rw[Gn (by omega) (by omega),Gn (by omega) (by omega)];omega
 rw[Lo,if_neg (by simp[Af,Ak];omega),e]
 have hq:0≤Bs (Bg 256 (r:Int)) 245:=by
  have e2:Bg 256 (r:Int)=((256*r:Nat):Int):=by rw[Gn (by omega) (by omega)];omega
  rw[e2,show(245:Int)=((245:Nat):Int)from rfl,Az5 (by omega)];omega
 rw[Bkh]at hv
 by_cases hz:Bs (Bg 256 (r:Int)) 245=0
 ·rw[if_pos (by rw[Az];simpa using hz)]
  rw[hz]at hv
  have:(1:Int)=(longN r:Int):=by omega
  rw[this]
 ·rw[if_neg (by rw[Az];simpa using hz)]
  have:Bs (Bg 256 (r:Int)) 245=(longN r:Int):=by omega
  rw[this]
end Go.Pl
set_option linter.unusedVariables false
set_option linter.unusedSimpArgs false
namespace Go.Pl
open Go Go.Lv
structure ClipOk (c w r n:Nat) (x:List Int32):Prop where
 ch:1≤c∧c≤6
 bits:BitsOk (w:Int)
 rate:1≤r∧r≤1048576
 cnt:1≤n∧n≤4000/c
 len:x.length=n*c
 fr:(n-1)/longN r+1≤1000
 rng:inR (w:Int) x
theorem ClipOk.le{c w r n:Nat}{x:List Int32}(h:ClipOk c w r n x):n≤4000∧n*c≤4000∧1≤x.length∧x.length≤4000:=by
 have h1:=Nat.mul_le_mul_right c h.cnt.2
 have h2:=Nat.div_mul_le_self 4000 c
 have h3:=Nat.div_le_self 4000 c
 have h4:=Nat.mul_pos h.cnt.1 h.ch.1
 have h5:=h.len
 have:=h.cnt
 omega
theorem ClipOk.w3{c w r n:Nat}{x:List Int32}(h:ClipOk c w r n x):w=8∨w=16∨w=24:=by
 have:=h.bits
 unfold BitsOk at this
 omega
theorem ClipOk.shape{c w r n:Nat}{x:List Int32}(h:ClipOk c w r n x)(f:Nat)(hf:f=1∨f=2):shapeB f c w r n=true:=by
 have:=h.w3
 have:=h.ch
 have:=h.rate
 have:=h.cnt
 simp only[shapeB,decide_eq_true_eq]
 omega
theorem ClipOk.fit{c w r n:Nat}{x:List Int32}(h:ClipOk c w r n x):fitB c r n=true:=by
 have:=h.cnt
 have:=h.fr
 simp only[fitB,decide_eq_true_eq]
 omega
theorem Cfm{bits:Int}(h:BitsOk bits){l:List Int32}(hl:l.length≤4000):cadenzaref18_Check bits l=some 0∨cadenzaref18_Check bits l=some 16:=by
 have hh:=Aie bits
 have key:∀(j i q:Nat),i+j=l.length→j<q→Ap l (hB bits) q (i:Int)=some 0∨Ap l (hB bits) q (i:Int)=some 16:=by
  intro j
  induction j with
  |zero=>
   intro i q hi hq
   obtain⟨q,rfl⟩:∃q',q=q'+1:=⟨q-1,by omega⟩
   rw[Ap,Br,if_neg (by rw[Af,Ac];simp;omega)]
   exact .inl rfl
  |succ j ih=>
   intro i q hi hq
   obtain⟨q,rfl⟩:∃q',q=q'+1:=⟨q-1,by omega⟩
   have ih:=ih (i+1) q (by omega) (by omega)
   have hi1:Ad (i:Int) 1=((i+1:Nat):Int):=by rw[Ag (by omega) (by omega)];omega
   rw[Ap,Br,if_pos (by rw[Af,Ac];simp;omega),Bu (by omega),Aa,Aa,hi1]
   split
   ·exact .inr rfl
   ·split
    ·exact .inr rfl
    ·exact ih
 have hk:=key l.length 0 Ao (by omega) (by have:=Al;omega)
 rw[cadenzaref18_Check,Ci,Aj8 h,Aa,if_neg (by rw[Az];simp;omega),if_neg (by rw[Ak,Ac];simp;omega)]
 exact hk
theorem Axj{bits:Int}(h:¬BitsOk bits):Gm bits=some 0∧Ny bits=some (0,0,2):=by
 unfold BitsOk at h
 constructor
 ·rw[Gm,if_neg (by rw[Az,beq_iff_eq];omega),if_neg (by rw[Az,beq_iff_eq];omega),if_neg (by rw[Az,beq_iff_eq];omega)]
 ·have e:(geq bits 24)=false:=by rw[Az,beq_eq_false_iff_ne];omega
  rw[Ny,Ajc,if_neg (by rw[Az,beq_iff_eq];omega),if_neg (by rw[Az,beq_iff_eq];omega),e,Ah9,Aru,if_neg (by decide)]
theorem Azf{r:Nat}(h:r≤1048576):∀(j n q:Nat) (acc:List Int),n≤4000→n≤j→j<q→acc.length+n≤10000→
  Gq (longN r:Int) q (n:Int) acc=some (if 1000<(acc++(if n=0 then []else framesL (longN r) n)).length then([],4)else(acc++(if n=0 then []else framesL (longN r) n),0))
 |j,n,0,acc,_,_,h,_=>absurd h (Nat.not_lt_zero _)
 |j,n,q+1,acc,hn,hj,hq,ha=>by
  have hp:=Ll r
  by_cases h0:n=0
  ·subst h0
   rw[if_pos rfl,List.append_nil,Gq,Ms,if_neg (by rw[Ak];simp),Tn,Agm,Ak,Ac]
   by_cases hk:1000<acc.length
   ·rw[if_pos hk,if_pos (by simp;omega)]
   ·rw[if_neg hk,if_neg (by simp;omega)]
  ·obtain⟨j,rfl⟩:∃j',j=j'+1:=⟨j-1,by omega⟩
   rw[Gq,Ms,if_pos (by rw[Ak];simp;omega),Cg (by simp;omega),Aa,Ab6]
   by_cases hs:n≤longN r
   ·rw[show min (n:Int) (longN r:Int)=(n:Int) by omega,Bb (by omega) (by omega),Int.sub_self]
    have ih:=Azf h j 0 q (acc++[(n:Int)]) (by omega) (by omega) (by omega) (by simp;omega)
    rw[if_pos rfl,List.append_nil]at ih
    rw[if_neg h0,Avh hs (by omega)]
    exact ih
   ·rw[show min (n:Int) (longN r:Int)=(longN r:Int) by omega,Bb (by omega) (by omega),show(n:Int)-(longN r:Int)=((n-longN r:Nat):Int) by omega]
    have e:acc++framesL (longN r) n=(acc++[(longN r:Int)])++framesL (longN r) (n-longN r):=by rw[Ba8 hp (show longN r<n by omega)];simp
    have ih:=Azf h j (n-longN r) q (acc++[(longN r:Int)]) (by omega) (by omega) (by omega) (by simp;omega)
    rw[if_neg (show ¬n-longN r=0 by omega),←e]at ih
    rw[if_neg h0]
    exact ih
theorem Bpr(C W R:Int)(x:List Int32)(hlen:x.length<4611686018427387904):(Bz C W R x=some 8∧Cz C W R x=some 8)∨
  (∃c w r n:Nat,C=(c:Int)∧W=(w:Int)∧R=(r:Int)∧ClipOk c w r n x∧Bz C W R x=some 0∧Cz C W R x=some 0):=by
 have bad24:∀e:Int,e≠0→Bm C W x=some e→Bz C W R x=some 8:=by
  intro e he h
  rw[Bz,Ft,Aa]
  simp only
  rw[h,Aa,if_pos (by rw[Aj];simpa using he)]
 by_cases hC:C<1
 ·refine .inl ⟨bad24 2 (by decide) ?_,?_⟩
  ·rw[Bm,By,if_pos (by simp[Af,Ak];omega),Aa,if_pos (by decide)]
  ·rw[Cz,if_pos (by rw[Af];simpa using hC)]
 obtain⟨c,rfl⟩:=Int.eq_ofNat_of_zero_le (show 0≤C by omega)
 have hc1:1≤c:=by omega
 have hq:Bs (Ac x) (c:Int)=((x.length/c:Nat):Int):=by rw[Ac,Az5 (by omega)]
 have hr0:Ew (Ac x) (c:Int)=((x.length %c:Nat):Int):=by rw[Ac,Ajm]
 have Bxo:(∀m:Nat,x.length=m*c→Acp (c:Int) W R x (m:Int)=some 8)→Cz (c:Int) W R x=some 8:=by
  intro h
  rw[Cz,if_neg (by rw[Af];simpa using hC),Ay (by rw[Aj];simp;omega),Aa,hr0]
  by_cases hm:x.length %c=0
  ·have hx:x.length=x.length/c*c:=by have:=Nat.div_add_mod x.length c;rw[hm,Nat.mul_comm]at this;omega
   rw[hm,if_neg (by decide),Aa,hq,h _ hx,Aa,if_pos (by decide)]
  ·rw[if_pos (by rw[Aj];simp;omega)]
 by_cases h6:6<c
 ·refine .inl ⟨bad24 2 (by decide) ?_,Bxo fun m hm=>?_⟩
  ·rw[Bm,By,if_pos (by simp[Af,Ak];omega),Aa,if_pos (by decide)]
  ·rw[Acp,Acu,Aa]
   simp only
   have:Ep (c:Int) W=some 2:=by
    rw[Ep]
    by_cases hb:BitsOk W
    ·rw[Bj8 hb,Aa]
     simp only
     rw[if_pos (by simp[Aj,Af,Ak];omega)]
    ·rw[(Axj hb).2,Aa]
     simp only
     rw[if_pos (by simp[Aj])]
   rw[this,Aa,if_pos (by simp[Aj])]
 by_cases hb:BitsOk W
 rotate_left
 ·refine .inl ⟨bad24 2 (by decide) ?_,Bxo fun m hm=>?_⟩
  ·rw[Bm,By,if_neg (by simp[Af,Ak];omega),(Axj hb).1,Aa,if_pos (by decide),Aa,if_pos (by decide)]
  ·rw[Acp,Acu,Aa]
   simp only
   have:Ep (c:Int) W=some 2:=by
    rw[Ep,(Axj hb).2,Aa]
    simp only
    rw[if_pos (by simp[Aj])]
   rw[this,Aa,if_pos (by simp[Aj])]
 have hhB:=Aie W
 have e20:By (c:Int) W=some 0:=by
  rw[By,if_neg (by simp[Af,Ak];omega),Aj8 hb,Aa,if_neg (by rw[Az];simp;omega)]
 have hq4:=Bbw hc1 (show c≤6 by omega)
 have ecf:=Bx9 hb hc1 (show c≤6 by omega)
 have headQ:∀m:Nat,Acp (c:Int) W R x (m:Int)=if m<1∨4000/c<m then some 8 else Option.bind (Fh R (m:Int)) fun y=>if(Bf y.2 0)=true then some 8 else some 0:=by
  intro m
  rw[Acp,Acu,Aa]
  simp only
  rw[ecf,Aa]
  by_cases hm:m<1
  ·rw[if_pos (by simp[Aj,Af];omega),if_pos (.inl hm)]
  ·rw[if_neg (by simp[Aj,Af];omega),Ay (by rw[Aj];simp;omega),Aa,hq4]
   by_cases hm2:4000/c<m
   ·rw[if_pos (by rw[Ak,decide_eq_true_eq,gt_iff_lt,Int.ofNat_lt];exact hm2),if_pos (.inr hm2)]
   ·rw[if_neg (by rw[Ak,decide_eq_true_eq,gt_iff_lt,Int.ofNat_lt];exact hm2),if_neg (by omega)]
 by_cases hx4:4000<x.length
 ·refine .inl ⟨bad24 4 (by decide) ?_,Bxo fun m hm=>?_⟩
  ·have:cadenzaref18_Check W x=some 4:=by
    rw[cadenzaref18_Check,Ci,Aj8 hb,Aa,if_neg (by rw[Az];simp;omega),if_pos (by rw[Ak,Ac];simp;omega)]
   rw[Bm,e20,Aa,if_neg (by decide),this,Aa,if_pos (by decide),Aa]
  ·rw[headQ,if_pos]
   refine .inr ?_
   rw[Nat.div_lt_iff_lt_mul (by omega)]
   omega
 have hx4:x.length≤4000:=by omega
 have hsame:=Apa hb x hx4
 rcases Cfm hb hx4 with h18|h18
 rotate_left
 ·refine .inl ⟨bad24 16 (by decide) ?_,?_⟩
  ·rw[Bm,e20,Aa,if_neg (by decide),h18,Aa,if_pos (by decide),Aa]
  ·rw[Cz,if_neg (by rw[Af];simpa using hC),Ay (by rw[Aj];simp;omega),Aa,hr0]
   by_cases hm:x.length %c=0
   ·rw[hm,if_neg (by decide),Aa,hq,headQ]
    split
    ·rw[Aa,if_pos (by decide)]
    ·rename_i hh
     by_cases hR:1≤R∧R≤1048576
     ·obtain⟨r,rfl⟩:=Int.eq_ofNat_of_zero_le (show 0≤R by omega)
      have hd:=Nat.div_le_self x.length c
      rw[An9 (by omega) (by omega) (by omega) (by omega),Aa]
      split
      ·rw[if_pos (by decide),Aa,if_pos (by decide)]
      ·rw[if_neg (by simp[Aj]),Aa,if_neg (by decide),hsame,h18,Aa,if_pos (by decide)]
     ·rw[Fh,Lm,if_pos (by simp[Af,Ak];omega),Aa]
      simp only
      rw[if_pos (by decide),Aa]
      simp only
      rw[if_pos (by decide),Aa,if_pos (by decide)]
   ·rw[if_pos (by rw[Aj];simp;omega)]
 by_cases hx1:x.length<1
 ·refine .inl ⟨bad24 2 (by decide) ?_,Bxo fun m hm=>?_⟩
  ·rw[Bm,e20,Aa,if_neg (by decide),h18,Aa,if_neg (by decide),if_pos (by rw[Af,Ac];simp;omega)]
  ·have h0:m*c=0:=by omega
   have:m=0:=by rcases Nat.mul_eq_zero.1 h0 with h|h<;>omega
   rw[headQ,if_pos (.inl (by omega))]
 have hA:x.length %c=0→Bm (c:Int) W x=some 0:=by
  intro hm
  rw[Bm,e20,Aa,if_neg (by decide),h18,Aa,if_neg (by decide),if_neg (by rw[Af,Ac];simp;omega),Ay (by rw[Aj];simp;omega),Aa,hr0,hm,if_neg (by decide)]
 by_cases hm:x.length %c=0
 rotate_left
 ·refine .inl ⟨bad24 2 (by decide) ?_,?_⟩
  ·rw[Bm,e20,Aa,if_neg (by decide),h18,Aa,if_neg (by decide),if_neg (by rw[Af,Ac];simp;omega),Ay (by rw[Aj];simp;omega),Aa,hr0,if_pos (by rw[Ak];simp;omega)]
  ·rw[Cz,if_neg (by rw[Af];simpa using hC),Ay (by rw[Aj];simp;omega),Aa,hr0,if_pos (by rw[Aj];simp;omega)]
 have hxn:x.length=x.length/c*c:=by have:=Nat.div_add_mod x.length c;rw[hm,Nat.mul_comm]at this;omega
 generalize hN:x.length/c=n at*
 have hn1:1≤n:=by
  by_cases h0:n=0
  ·rw[h0]at hxn;omega
  ·omega
 have hn4:n≤4000/c:=by rw[←hN];exact Nat.div_le_div_right hx4
 have hn4':n≤4000:=Nat.le_trans hn4 (Nat.div_le_self _ _)
 have e21:Ch (c:Int) W (n:Int)=some 0:=by
  rw[Ch,e20,Aa,if_neg (by simp[Aj,Af];omega),Ay (by rw[Aj];simp;omega),Aa,hq4,if_neg (by rw[Ak,decide_eq_true_eq,gt_iff_lt,Int.ofNat_lt];omega)]
 have goal24:∀z e:Int,Ht R (n:Int)=some (z,e)→Bz (c:Int) W R x=some (if e=0 then 0 else 8):=by
  intro z e hz
  rw[Bz,Ft,Aa]
  simp only
  rw[hA hm,Aa,if_neg (by decide),Ay (by rw[Aj];simp;omega),Aa,hq,Yw,Ft,Aa]
  simp only
  rw[e21,Aa,if_neg (by decide),hz,Aa,Aa,Az]
  by_cases he:e=0
  ·subst he;rfl
  ·rw[if_neg he,if_pos (by simpa using he)]
 have goalP:Cz (c:Int) W R x=Option.bind (Option.bind (Fh R (n:Int)) fun y=>if(Bf y.2 0)=true then some 8 else some 0) fun g=>if(Bf g 0)=true then some g else some 0:=by
  rw[Cz,if_neg (by rw[Af];simpa using hC),Ay (by rw[Aj];simp;omega),Aa,hr0,hm,if_neg (by decide),Aa,hq,headQ,if_neg (by omega),hsame,h18]
  rfl
 by_cases hR:1≤R∧R≤1048576
 rotate_left
 ·refine .inl ⟨?_,?_⟩
  ·refine goal24 0 2 ?_
   rw[Ht,Sp,Mt,Lo,if_pos (by simp[Af,Ak];omega),Aa]
   simp only
   rw[if_pos (by simp[Aj]),Aa]
   rfl
  ·rw[goalP,Fh,Lm,if_pos (by simp[Af,Ak];omega),Aa]
   simp only
   rw[if_pos (by decide),Aa]
   simp only
   rw[if_pos (by decide),Aa,if_pos (by decide)]
 obtain⟨r,rfl⟩:=Int.eq_ofNat_of_zero_le (show 0≤R by omega)
 have hl:=Azf (r:=r) (by omega) n n Ao [] hn4' (Nat.le_refl _) (by have:=Al;omega) (by simp;omega)
 rw[if_neg (show ¬n=0 by omega),List.nil_append,Aeo]at hl
 have hcount:∃z:Int,Ht (r:Int) (n:Int)=some (z,if 1000<(n-1)/longN r+1 then 4 else 0):=by
  rw[Ht,Sp,Mt,Cdo (by omega) (by omega),Aa]
  simp only
  rw[if_neg (by simp[Aj,Af,Ak];omega),Tt,hl,Aa]
  split<;>exact⟨_,rfl⟩
 obtain⟨z,hz⟩:=hcount
 have h24:=goal24 z _ hz
 rw[An9 (by omega) (by omega) hn1 hn4',Aa]at goalP
 by_cases hk:1000<(n-1)/longN r+1
 ·rw[if_pos hk]at h24 goalP
  exact .inl ⟨h24,goalP⟩
 ·rw[if_neg hk]at h24 goalP
  have hw:∃w:Nat,W=(w:Int):=by
   rcases hb with rfl|rfl|rfl
   ·exact⟨8,rfl⟩
   ·exact⟨16,rfl⟩
   ·exact⟨24,rfl⟩
  obtain⟨w,rfl⟩:=hw
  exact .inr ⟨c,w,r,n,rfl,rfl,rfl,⟨⟨hc1,by omega⟩,hb,by omega,⟨hn1,hn4⟩,hxn,by omega,Atz hb hx4 h18⟩,h24,goalP⟩
theorem Bt7(C W R:Int){x:List Int32}(h:4000<x.length):Bz C W R x=some 8:=by
 have key:∃e:Int,e≠0∧Bm C W x=some e:=by
  rw[Bm,By]
  by_cases h1:((Bw C 1)||(Ez C 6))=true
  ·rw[if_pos h1,Aa,if_pos (by decide)];exact⟨2,by decide,rfl⟩
  ·rw[if_neg h1]
   by_cases hb:BitsOk W
   ·have hh:=Aie W
    have h18:cadenzaref18_Check W x=some 4:=by
     rw[cadenzaref18_Check,Ci,Aj8 hb,Aa,if_neg (by rw[Az];simp;omega),if_pos (by rw[Ak,Ac];simp;omega)]
    rw[Aj8 hb,Aa,if_neg (by rw[Az];simp;omega),Aa,if_neg (by decide),h18,Aa,if_pos (by decide),Aa]
    exact⟨4,by decide,rfl⟩
   ·rw[(Axj hb).1,Aa,if_pos (by decide),Aa,if_pos (by decide)]
    exact⟨2,by decide,rfl⟩
 obtain⟨e,he,h1⟩:=key
 rw[Bz,Ft,Aa]
 simp only
 rw[h1,Aa,if_pos (by rw[Aj];simpa using he)]
theorem Bny(C W R:Int)(x:List Int32):(Bz C W R x=some 8∧(x.length<4611686018427387904→Cz C W R x=some 8))∨
  (∃c w r n:Nat,C=(c:Int)∧W=(w:Int)∧R=(r:Int)∧ClipOk c w r n x∧Bz C W R x=some 0∧Cz C W R x=some 0):=by
 by_cases hx:x.length<4611686018427387904
 ·rcases Bpr C W R x hx with⟨h1,h2⟩|h
  ·exact .inl ⟨h1,fun _=>h2⟩
  ·exact .inr h
 ·exact .inl ⟨Bt7 C W R (by omega),fun h=>absurd h hx⟩
end Go.Pl
set_option linter.unusedVariables false
set_option linter.unusedSimpArgs false
namespace Go.Pl
open Go Go.Lv
def Ayx(f c w r n:Nat):List UInt8:=Lu++Nx f 2++Nx c 2++Nx w 2++Nx r 4++Nx n 4
def hdrB(f c w r n:Nat):List UInt8:=Ayx f c w r n++Nx (Ca (Ayx f c w r n)).toNat 4
theorem Anh(f c w r n:Nat):(Ayx f c w r n).length=18:=by simp only[Ayx,Lu,List.length_append,Bk];rfl
theorem Ant(f c w r n:Nat):(hdrB f c w r n).length=22:=by rw[hdrB,List.length_append,Anh,Bk]
theorem Bfm(b f g h k:Int)(m v w q:Nat)(a:List UInt8)(hm:m<5)(hv:getI ([b,f,g,h,k]:List Int) (m:Int)=some (v:Int))(hw:getI ([2,2,2,4,4]:List Int) (m:Int)=some (w:Int))(h1:1≤w)(h8:w≤8)(hlt:v<256^w)(h64:v<18446744073709551616)(ha:a.length≤100):
  Ip b f g h k (q+1) (m:Int) a=Ip b f g h k q ((m+1:Nat):Int) (a++Nx v w):=by
 have e64:(UInt64.ofNat v).toNat=v:=Ake (by omega)
 have hi1:Ad (m:Int) 1=((m+1:Nat):Int):=by rw[Ag (by omega) (by omega)];omega
 rw[Ip,Vm,if_pos (by rw[Af];simp;omega),hv,Aa,hw,Aa,Pz,Aix _ w h1 h8 (by rw[e64];exact hlt),Aa]
 simp only
 rw[Cg (by rw[Bk];omega),Aa,hi1,e64]
theorem Bjz{f c w r n:Nat}(h1:shapeB f c w r n=true)(h2:fitB c r n=true):Agp (f:Int) (c:Int) (w:Int) (r:Int) (n:Int)=some (hdrB f c w r n,0):=by
 have hs:(f=1∨f=2)∧(1≤c∧c≤6)∧(w=8∨w=16∨w=24)∧(1≤r∧r≤1048576)∧1≤n:=by simpa only[shapeB,decide_eq_true_eq]using h1
 have hn:n≤4000:=by
  simp only[fitB,decide_eq_true_eq]at h2
  have:=Nat.div_le_self 4000 c
  omega
 have hck:Ou (f:Int) (c:Int) (w:Int) (r:Int) (n:Int)=some 0:=by
  rw[Ou,As7,Aa,h1,if_neg (by decide),Az1 h1,Aa,h2,if_neg (by decide)]
 have hF:Ao=(Ao-6)+1+1+1+1+1+1:=by have:=Al;omega
 have hlt:=(Ca (Ayx f c w r n)).toNat_lt
 have e64:(UInt64.ofNat (Ca (Ayx f c w r n)).toNat).toNat=(Ca (Ayx f c w r n)).toNat:=Ake (by omega)
 have hfin:Vn (Ayx f c w r n)=some (hdrB f c w r n,0):=by
  rw[Vn,Aqe,Az6 _ (by rw[Anh];omega),Aa]
  simp only
  rw[Cd,show(4:Int)=((4:Nat):Int)from rfl,Aix _ 4 (by omega) (by omega) (by rw[e64];omega),Aa]
  simp only
  rw[Cg (by rw[Anh,Bk];omega),Aa,e64]
  rfl
 rw[Agp,Af4,hck,Aa,if_neg (by decide),Afh,hF]
 have s0:=Bfm (f:Int) (c:Int) (w:Int) (r:Int) (n:Int) 0 f 2 ((Ao-6)+1+1+1+1+1) Lu (by omega) rfl rfl (by omega) (by omega) (by omega) (by omega) (by decide)
 have s1:=Bfm (f:Int) (c:Int) (w:Int) (r:Int) (n:Int) 1 c 2 ((Ao-6)+1+1+1+1) (Lu++Nx f 2) (by omega) rfl rfl (by omega) (by omega) (by omega) (by omega) (by simp[Bk,Lu])
 have s2:=Bfm (f:Int) (c:Int) (w:Int) (r:Int) (n:Int) 2 w 2 ((Ao-6)+1+1+1) (Lu++Nx f 2++Nx c 2) (by omega) rfl rfl (by omega) (by omega) (by omega) (by omega) (by simp[Bk,Lu])
 have s3:=Bfm (f:Int) (c:Int) (w:Int) (r:Int) (n:Int) 3 r 4 ((Ao-6)+1+1) (Lu++Nx f 2++Nx c 2++Nx w 2) (by omega) rfl rfl (by omega) (by omega) (by omega) (by omega) (by simp[Bk,Lu])
 have s4:=Bfm (f:Int) (c:Int) (w:Int) (r:Int) (n:Int) 4 n 4 ((Ao-6)+1) (Lu++Nx f 2++Nx c 2++Nx w 2++Nx r 4) (by omega) rfl rfl (by omega) (by omega) (by omega) (by omega) (by simp[Bk,Lu])
 refine s0.trans (s1.trans (s2.trans (s3.trans (s4.trans ?_))))
 rw[Ip,Vm,if_neg (by decide)]
 exact hfin
def Ajw(l:List Int):List UInt8:=l.flatMap fun x=>Nx x.toNat 4
def tblB(l:List Int):List UInt8:=Ajw l++Nx (Ca (Ajw l)).toNat 4
theorem Ad8(l:List Int):(Ajw l).length=4*l.length:=by
 induction l with
 |nil=>rfl
 |cons x l ih=>rw[Ajw,List.flatMap_cons,List.length_append,Bk,show(l.flatMap fun x=>Nx x.toNat 4)=Ajw l from rfl,ih,List.length_cons];omega
theorem Asw(l:List Int):(tblB l).length=4*l.length+4:=by rw[tblB,List.length_append,Ad8,Bk]
theorem Bu8(l:List Int)(x:Int):Ajw (l++[x])=Ajw l++Nx x.toNat 4:=by simp[Ajw]
theorem Bao(l:List Int)(hl:l.length≤1000)(h5:∀x∈l,5≤x∧x≤100000):∀(j i q:Nat),i+j=l.length→j<q→Nf l q (i:Int) (Ajw (l.take i))=some (tblB l,0)
 |j,i,0,_,h=>absurd h (Nat.not_lt_zero _)
 |0,i,q+1,hi,_=>by
  have hlt:=(Ca (Ajw l)).toNat_lt
  have e64:(UInt64.ofNat (Ca (Ajw l)).toNat).toNat=(Ca (Ajw l)).toNat:=Ake (by omega)
  rw[Nf,Yi,if_neg (by rw[Af,Ac];simp;omega),List.take_of_length_le (by omega),Afj,Afa,Az6 _ (by rw[Ad8];omega),Aa]
  simp only
  rw[Cd,show(4:Int)=((4:Nat):Int)from rfl,Aix _ 4 (by omega) (by omega) (by rw[e64];omega),Aa]
  simp only
  rw[Cg (by rw[Ad8,Bk];omega),Aa,e64]
  rfl
 |j+1,i,q+1,hi,hq=>by
  have ih:=Bao l hl h5 j (i+1) q (by omega) (by omega)
  obtain⟨x5,x6⟩:=h5 l[i] (List.getElem_mem _)
  obtain⟨v,hv⟩:=Int.eq_ofNat_of_zero_le (show 0≤l[i] by omega)
  have e64:(UInt64.ofNat v).toNat=v:=Ake (by omega)
  have hi1:Ad (i:Int) 1=((i+1:Nat):Int):=by rw[Ag (by omega) (by omega)];omega
  rw[Nf,Yi,if_pos (by rw[Af,Ac];simp;omega),Bu (by omega),Aa,hv,Pz,show(4:Int)=((4:Nat):Int)from rfl,Aix _ 4 (by omega) (by omega) (by rw[e64];omega),Aa]
  simp only
  rw[Cg (by rw[Ad8,Bk,List.length_take];omega),Aa,Afi,Ap0,hi1,e64]
  rw[Jw (by omega),Bu8,hv,Int.toNat_natCast]at ih
  exact ih
theorem Bmb(l:List Int):Ak6 l=some (if Acy l=true then(tblB l,0)else([],8)):=by
 rw[Ak6,Ahv,Atp,Aa]
 by_cases h:Acy l=true
 ·rw[if_pos h,if_pos h,if_neg (by decide)]
  simp only[Acy,Bool.and_eq_true,decide_eq_true_eq]at h
  obtain⟨⟨h1,h2⟩,h3⟩:=h
  have h4:=(Aou l 100000 (by omega)).1 h3
  have h6:=Bet h4.1
  have hl:=Bao l h2 (fun x hx=>⟨h4.1 x hx,by have:=h6 x hx;omega⟩) l.length 0 Ao (by omega) (by have:=Al;omega)
  exact hl
 ·rw[if_neg h,if_neg h,if_pos (by decide)]
theorem Bht(l:List LB)(hl:l.length≤100000)(hf:l.flatten.length≤1000000):∀(j i q:Nat),i+j=l.length→j<q→Ns l q (i:Int) (l.take i).flatten=some l.flatten
 |j,i,0,_,h=>absurd h (Nat.not_lt_zero _)
 |0,i,q+1,hi,_=>by
  rw[Ns,Aah,if_neg (by rw[Af,Ac];simp;omega),List.take_of_length_le (by omega)]
  rfl
 |j+1,i,q+1,hi,hq=>by
  have ih:=Bht l hl hf j (i+1) q (by omega) (by omega)
  have hi1:Ad (i:Int) 1=((i+1:Nat):Int):=by rw[Ag (by omega) (by omega)];omega
  have hsn:(l.take (i+1)).flatten=(l.take i).flatten++l[i]:=by rw[Jw (by omega),List.flatten_append];simp
  have hsp:l.flatten=(l.take (i+1)).flatten++(l.drop (i+1)).flatten:=by rw[←List.flatten_append,List.take_append_drop]
  have hle:((l.take i).flatten).length+(l[i]).length≤1000000:=by
   rw[hsp,List.length_append,hsn,List.length_append]at hf;omega
  rw[Ns,Aah,if_pos (by rw[Af,Ac];simp;omega),Bu (by omega),Aa,Cg (by omega),Aa,hi1,←hsn]
  exact ih
theorem join_eq(l:List LB)(hl:l.length≤100000)(hf:l.flatten.length≤1000000):Atb l=some l.flatten:=by
 have h:=Bht l hl hf l.length 0 Ao (by omega) (by have:=Al;omega)
 exact h
def Wb(c:Nat):List Int32→List Int→List (List Int32)
 |_,[]=>[]
 |x,m::l=>x.take (m.toNat*c)::Wb c (x.drop (m.toNat*c)) l
theorem Avt(c:Nat):∀(l:List Int) (x:List Int32),(Wb c x l).length=l.length
 |[],x=>rfl
 |m::l,x=>by rw[Wb,List.length_cons,List.length_cons,Avt c l]
theorem Ba1(c:Nat):∀(l:List Int) (x:List Int32),(∀m∈l,0≤m)→x.length=l.sum.toNat*c→(Wb c x l).flatten=x
 |[],x,_,h=>by
  have:x=[]:=List.eq_nil_of_length_eq_zero (by simpa using h)
  rw[this];rfl
 |m::l,x,h0,h=>by
  have hm:=h0 m List.mem_cons_self
  have hl:0≤l.sum:=by
   have:∀l:List Int,(∀m∈l,0≤m)→0≤l.sum:=by
    intro l
    induction l with
    |nil=>intro _;simp
    |cons a l ih=>intro h;have:=ih (fun m hm=>h m (List.mem_cons_of_mem _ hm));have:=h a List.mem_cons_self;rw[List.sum_cons];omega
   exact this l fun m hm=>h0 m (List.mem_cons_of_mem _ hm)
  rw[List.sum_cons,show(m+l.sum).toNat=m.toNat+l.sum.toNat by omega,Nat.add_mul]at h
  have ih:=Ba1 c l (x.drop (m.toNat*c)) (fun m hm=>h0 m (List.mem_cons_of_mem _ hm)) (by rw[List.length_drop];omega)
  rw[Wb,List.flatten_cons,ih,List.take_append_drop]
theorem Au3(c:Nat)(x:List Int32)(hx:x.length≤4000):∀(l:List Int) (a:Nat),(∀m∈l,1≤m)→a+l.sum.toNat*c=x.length→Mk (c:Int) x l (a:Int)=some (Wb c (x.drop a) l)
 |[],a,_,_=>rfl
 |m::l,a,h1,ha=>by
  have hm:=h1 m List.mem_cons_self
  have hl:=h1
  have hs:0≤l.sum:=by
   have:∀l:List Int,(∀m∈l,1≤m)→0≤l.sum:=by
    intro l
    induction l with
    |nil=>intro _;simp
    |cons a l ih=>intro h;have:=ih (fun m hm=>h m (List.mem_cons_of_mem _ hm));have:=h a List.mem_cons_self;rw[List.sum_cons];omega
   exact this l fun m hm=>h1 m (List.mem_cons_of_mem _ hm)
  obtain⟨k,rfl⟩:=Int.eq_ofNat_of_zero_le (show 0≤m by omega)
  rw[List.sum_cons,show((k:Int)+l.sum).toNat=k+l.sum.toNat by omega,Nat.add_mul]at ha
  have hkc:Bg (k:Int) (c:Int)=((k*c:Nat):Int):=by rw[Gn (by rw[←Int.natCast_mul];omega) (by rw[←Int.natCast_mul];omega),←Int.natCast_mul]
  have hadd:Ad (a:Int) ((k*c:Nat):Int)=((a+k*c:Nat):Int):=by rw[Ag (by omega) (by omega)];omega
  have ih:=Au3 c x hx l (a+k*c) (fun m hm=>h1 m (List.mem_cons_of_mem _ hm)) (by omega)
  rw[Mk,hkc,hadd,Rq (by omega) (by omega) (by omega),Aa,ih,Aa,Wb,Int.toNat_natCast,Int.toNat_natCast,Int.toNat_natCast,List.drop_drop,List.drop_take,Nat.add_sub_cancel_left]
theorem Bsb(w c:Nat)(hb:BitsOk (w:Int))(h1:1≤c)(h6:c≤6)(t:List Int32)(ht:t.length=16):∀(xs:List (List Int32)) (o:List LB),o.length+xs.length≤10000→(∀y∈xs,1≤y.length∧y.length≤4000∧y.length %c=0∧inR (w:Int) y)→
  Mb (c:Int) (w:Int) t xs o=some (o++xs.map (Li (w:Int) c t),0)
 |[],o,_,_=>by rw[Mb];simp
 |x::xs,o,ho,h=>by
  obtain⟨a1,a2,a3,a4⟩:=h x List.mem_cons_self
  rw[List.length_cons]at ho
  have ih:=Bsb w c hb h1 h6 t ht xs (o++[Li (w:Int) c t x]) (by simp;omega) (fun y hy=>h y (List.mem_cons_of_mem _ hy))
  rw[Mb,Bjc hb ht h1 h6 a1 a2 a3 a4,Aa,if_neg (by simp[Aj]),Cg (by simp;omega),Aa,ih,List.map_cons]
  simp
end Go.Pl
set_option linter.unusedVariables false
set_option linter.unusedSimpArgs false
namespace Go.Pl
open Go Go.Lv
theorem Awt(c:Nat)(h1:1≤c):∀(l:List Int) (x:List Int32),(∀m∈l,1≤m)→x.length=l.sum.toNat*c→∀y∈Wb c x l,1≤y.length∧y.length≤x.length∧y.length %c=0∧∀v∈y,v∈x
 |[],x,_,_=>fun y hy=>by simp[Wb]at hy
 |m::l,x,hm,hx=>by
  have hm1:=hm m List.mem_cons_self
  have hl:0≤l.sum:=by
   have:∀l:List Int,(∀m∈l,1≤m)→0≤l.sum:=by
    intro l
    induction l with
    |nil=>intro _;simp
    |cons a l ih=>intro h;have:=ih (fun m hm=>h m (List.mem_cons_of_mem _ hm));have:=h a List.mem_cons_self;rw[List.sum_cons];omega
   exact this l fun m hm'=>hm m (List.mem_cons_of_mem _ hm')
  rw[List.sum_cons,show(m+l.sum).toNat=m.toNat+l.sum.toNat by omega,Nat.add_mul]at hx
  have hpos:1≤m.toNat*c:=Nat.mul_pos (by omega) h1
  intro y hy
  rw[Wb,List.mem_cons]at hy
  rcases hy with rfl|hy
  ·have hlen:(x.take (m.toNat*c)).length=m.toNat*c:=by rw[List.length_take];omega
   rw[hlen]
   exact⟨hpos,by omega,Nat.mul_mod_left _ _,fun v hv=>List.mem_of_mem_take hv⟩
  ·obtain⟨a1,a2,a3,a4⟩:=Awt c h1 l (x.drop (m.toNat*c)) (fun m hm'=>hm m (List.mem_cons_of_mem _ hm')) (by rw[List.length_drop];omega) y hy
   rw[List.length_drop]at a2
   exact⟨a1,by omega,a3,fun v hv=>List.mem_of_mem_drop (a4 v hv)⟩
theorem Bdf(bits:Int)(ch:Nat)(t x:List Int32)(h0:1≤x.length)(h4:x.length≤4000):5≤(Li bits ch t x).length∧(Li bits ch t x).length≤15*x.length:=by
 have h5:=Bc2 bits ch t x h0 h4
 have h:=Asl ch (Ih bits ch t x) x.length
 refine⟨h5.1,?_⟩
 rw[Li,List.length_append,Bk,Ah5,Sr]
 omega
def lensOf(fs:List LB):List Int:=fs.map fun f=>(f.length:Int)
theorem Ek(fs:List LB):(lensOf fs).length=fs.length:=by rw[lensOf,List.length_map]
theorem Wn:∀fs:List LB,(lensOf fs).sum=(fs.flatten.length:Int)
 |[]=>rfl
 |f::fs=>by rw[lensOf,List.map_cons,List.sum_cons,List.flatten_cons,List.length_append,show(fs.map fun f=>(f.length:Int))=lensOf fs from rfl,Wn fs];omega
theorem Bwx(bits:Int)(ch:Nat)(t:List Int32):∀ys:List (List Int32),(∀y∈ys,1≤y.length∧y.length≤4000)→((ys.map (Li bits ch t)).flatten).length≤15*ys.flatten.length
 |[],_=>by simp
 |y::ys,h=>by
  have ih:=Bwx bits ch t ys fun y hy=>h y (List.mem_cons_of_mem _ hy)
  obtain⟨h1,h4⟩:=h y List.mem_cons_self
  have:=(Bdf bits ch t y h1 h4).2
  rw[List.map_cons,List.flatten_cons,List.flatten_cons,List.length_append,List.length_append];omega
def fmtOf(p:LB):Nat:=if p=[]then 1 else 2
def digP(p:LB):LB:=if p=[]then []else Nx (Xp p).toNat 8
theorem Bnl(p:LB):fmtOf p=1∨fmtOf p=2:=by unfold fmtOf;split<;>simp
theorem Atw(p:LB):(digP p).length=if fmtOf p=2 then 8 else 0:=by
 unfold digP fmtOf
 by_cases h:p=[]
 ·rw[if_pos h,if_pos h];rfl
 ·rw[if_neg h,if_neg h,Bk];rfl
def Aq4(c r n:Nat)(x:List Int32):List (List Int32):=Wb c x (framesL (longN r) n)
def frs(c w r n:Nat)(x:List Int32)(p:LB):List LB:=(Aq4 c r n x).map (Li (w:Int) c (tapsOf p))
def Um(c w r n:Nat)(x:List Int32)(p:LB):LB:=hdrB (fmtOf p) c w r n++(digP p++(tblB (lensOf (frs c w r n x p))++(frs c w r n x p).flatten))
theorem Xg{g n:Nat}(hg:1≤g)(h1:1≤n):∀m∈framesL g n,1≤m:=by
 intro m hm
 rw[framesL,List.mem_append,List.mem_replicate,List.mem_singleton]at hm
 have h:=Nat.div_mul_le_self (n-1) g
 rcases hm with⟨_,rfl⟩|rfl
 ·omega
 ·omega
section
variable {c w r n:Nat} {x:List Int32} (h:ClipOk c w r n x)
include h
theorem ClipOk.sum:(framesL (longN r) n).sum=(n:Int):=Bls h.cnt.1
omit h in
theorem Bmx:(Aq4 c r n x).length=(framesL (longN r) n).length:=Avt _ _ _
theorem Bts:(Aq4 c r n x).flatten=x:=by
 refine Ba1 _ _ _ (fun m hm=>?_) ?_
 ·have:=Xg (Ll r) h.cnt.1 m hm
  omega
 ·rw[h.sum,h.len,Int.toNat_natCast]
theorem Ajo:∀y∈Aq4 c r n x,1≤y.length∧y.length≤4000∧y.length %c=0∧inR (w:Int) y:=by
 intro y hy
 obtain⟨a1,a2,a3,a4⟩:=Awt c h.ch.1 _ _ (Xg (Ll r) h.cnt.1) (by rw[h.sum,h.len,Int.toNat_natCast]) y hy
 have:=h.le
 exact⟨a1,by omega,a3,fun v hv=>h.rng v (a4 v hv)⟩
omit h in
theorem Bj6(p:LB):(frs c w r n x p).length=(framesL (longN r) n).length:=by rw[frs,List.length_map];exact Avt _ _ _
theorem Brj(p:LB):1≤(frs c w r n x p).length∧(frs c w r n x p).length≤1000:=by
 rw[Bj6,Aeo]
 exact⟨Nat.le_add_left _ _,h.fr⟩
theorem Bn5(p:LB):((frs c w r n x p).flatten).length≤15*x.length:=by
 have:=Bwx (w:Int) c (tapsOf p) (Aq4 c r n x) fun y hy=>⟨(Ajo h y hy).1,(Ajo h y hy).2.1⟩
 rw[Bts h]at this
 exact this
theorem Bxj(p:LB):∀f∈frs c w r n x p,5≤f.length:=by
 intro f hf
 rw[frs,List.mem_map]at hf
 obtain⟨y,hy,rfl⟩:=hf
 exact(Bdf _ _ _ _ (Ajo h y hy).1 (Ajo h y hy).2.1).1
theorem Ble(p:LB):Acy (lensOf (frs c w r n x p))=true:=by
 have h1:=Brj h p
 have h2:=Bn5 h p
 have h3:=h.le
 simp only[Acy,Bool.and_eq_true,decide_eq_true_eq]
 rw[Aou _ _ (by omega),Ek,Wn]
 refine⟨by omega,fun z hz=>?_,by omega⟩
 rw[lensOf,List.mem_map]at hz
 obtain⟨f,hf,rfl⟩:=hz
 have:=Bxj h p f hf
 omega
omit h in
theorem Bib(p:LB):(Um c w r n x p).length=22+(if fmtOf p=2 then 8 else 0)+(4*(frs c w r n x p).length+4)+(frs c w r n x p).flatten.length:=by
 rw[Um,List.length_append,List.length_append,List.length_append,Ant,Atw,Asw,Ek];omega
theorem Bv6(p:LB):(Um c w r n x p).length≤34+4*(frs c w r n x p).length+15*x.length:=by
 have h1:=Bib (c:=c) (w:=w) (r:=r) (n:=n) (x:=x) p
 have h2:=Bn5 h p
 split at h1<;>omega
theorem Bhx(p:LB):(Um c w r n x p).length≤64034:=by
 have:=Bv6 h p
 have:=Brj h p
 have:=h.le
 omega
theorem Bwo(hk:Cz (c:Int) (w:Int) (r:Int) x=some 0)(p:LB)(hp:p.length≤64):Ak8 (c:Int) (w:Int) (r:Int) x p=some ((fmtOf p:Int),(c:Int),(w:Int),(r:Int),(n:Int),0):=by
 have hc:=h.ch
 have hq:Bs (Ac x) (c:Int)=(n:Int):=by rw[Ac,Az5 (by have:=h.le;omega),h.len,Nat.mul_div_cancel _ (by omega)]
 rw[Ak8,Zv,hk,Aa,if_neg (by decide),if_neg (by rw[Ak,Ac];simp;omega),Ay (by rw[Aj];simp;omega),Aa,Aiy,Asp,hq,fmtOf]
 by_cases h0:p=[]
 ·rw[if_neg (by simp[h0]),if_pos h0];rfl
 ·rw[if_pos (by simpa using h0),if_neg h0];rfl
theorem Bbk(hk:Cz (c:Int) (w:Int) (r:Int) x=some 0)(p:LB)(hp:p.length≤64):Adn (c:Int) (w:Int) (r:Int) x p=some (frs c w r n x p,0):=by
 have hc:=h.ch
 have hle:=h.le
 have hr:=h.rate
 have hq:Bs (Ac x) (c:Int)=(n:Int):=by rw[Ac,Az5 (by omega),h.len,Nat.mul_div_cancel _ (by omega)]
 have hcut:Ajp (c:Int) (r:Int) x=some (Aq4 c r n x):=by
  have hp:=Au3 c x (by omega) (framesL (longN r) n) 0 (Xg (Ll r) h.cnt.1) (by rw[h.sum,h.len,Int.toNat_natCast];omega)
  rw[Ajp,Ay (by rw[Aj];simp;omega),Aa,hq,Bmj hr.1 hr.2 h.cnt.1 (by omega) h.fr,Aa,Ay (by have:=h.fr;simp only[Ac,Aeo,decide_eq_true_eq];omega),Aa]
  exact hp
 have hfs:=Bsb w c h.bits hc.1 hc.2 (tapsOf p) (Ahf p) (Aq4 c r n x) [] (by rw[Bmx,Aeo];exact Nat.le_trans (Nat.add_le_add_left h.fr _) (by simp)) (Ajo h)
 rw[Adn,hk,Aa,if_neg (by decide),Az9 p hp,Aa]
 simp only
 rw[if_neg (by decide),hcut,Aa,hfs]
 rfl
omit h in
theorem Bee(a:List LB)(b f:LB)(v:LB)(ha:a.length≤1000)(hfin:Pk (lensOf a) a b f=some (v,0)):∀(j i q:Nat),i+j=a.length→j<q→Nm a b f q (i:Int) (lensOf (a.take i)++List.replicate j 0)=some (v,0)
 |j,i,0,_,h=>absurd h (Nat.not_lt_zero _)
 |0,i,q+1,hi,_=>by
  rw[Nm,Yt,if_neg (by rw[Af,Ac];simp;omega),List.take_of_length_le (by omega),List.replicate_zero,List.append_nil]
  exact hfin
 |j+1,i,q+1,hi,hq=>by
  have ih:=Bee a b f v ha hfin j (i+1) q (by omega) (by omega)
  have hi1:Ad (i:Int) 1=((i+1:Nat):Int):=by rw[Ag (by omega) (by omega)];omega
  have hll:(lensOf (a.take i)).length=i:=by rw[Ek,List.length_take];omega
  have hset:(lensOf (a.take i)++List.replicate (j+1) (0:Int)).set i (Ac a[i])=lensOf (a.take (i+1))++List.replicate j 0:=by
   rw[List.replicate_succ,Apo hll,Jw (by omega),lensOf,lensOf,List.map_append,List.append_assoc];rfl
  rw[Nm,Yt,if_pos (by rw[Af,Ac];simp;omega),Bu (by omega),Aa,Aa,Amb,Aa,Bu (by rw[List.length_append,hll,List.length_replicate];omega),Aa,My _ (by rw[List.length_append,hll,List.length_replicate];omega),Aa,hset,Ae1,Aqf,hi1]
  exact ih
theorem Bn0(hk:Cz (c:Int) (w:Int) (r:Int) x=some 0)(p:LB)(hp:p.length≤64):Aeq (c:Int) (w:Int) (r:Int) x p=some (Um c w r n x p,0):=by
 have hn:=Brj h p
 have hfin:Pk (lensOf (frs c w r n x p)) (frs c w r n x p) (hdrB (fmtOf p) c w r n) (digP p)=some (Um c w r n x p,0):=by
  have hl:=Bhx h p
  rw[Pk,Afq,Bmb,if_pos (Ble h p),Aa]
  simp only
  rw[Afr,Aqo,if_neg (by decide),Cg (by simp;omega),Aa,join_eq _ (by simp;omega) (by
   have:(([hdrB (fmtOf p) c w r n,digP p,tblB (lensOf (frs c w r n x p))]++frs c w r n x p).flatten)=Um c w r n x p:=by simp[Um]
   rw[this];omega),Aa]
  simp[Um]
 have hlp:=Bee (frs c w r n x p) (hdrB (fmtOf p) c w r n) (digP p) _ (by omega) hfin (frs c w r n x p).length 0 Ao (by omega) (by have:=Al;omega)
 have h8:Zd (frs c w r n x p) (hdrB (fmtOf p) c w r n) (digP p)=some (Um c w r n x p,0):=by
  rw[Zd,Aiu,Ax8 (by unfold Ac;omega) (by unfold Ac;omega),Aa,Ay (by rw[Az];simp),Aa]
  exact hlp
 rw[Aeq,Ahs,Bwo h hk p hp,Aa]
 simp only
 rw[if_neg (by decide),Bbk h hk p hp,Aa]
 simp only
 rw[if_neg (by decide),Bjz (h.shape _ (Bnl p)) h.fit,Aa]
 simp only
 rw[if_neg (by decide)]
 by_cases h0:p=[]
 ·have e1:fmtOf p=1:=by rw[fmtOf,if_pos h0]
  have e2:digP p=[]:=by rw[digP,if_pos h0]
  rw[e2]at h8
  rw[if_neg (by rw[e1];decide)]
  exact h8
 ·have e1:fmtOf p=2:=by rw[fmtOf,if_neg h0]
  have e2:digP p=Nx (Xp p).toNat 8:=by rw[digP,if_neg h0]
  rw[e2]at h8
  rw[if_pos (by rw[e1];decide),Azm p hp,Aa]
  exact h8
end
end Go.Pl
set_option linter.unusedVariables false
set_option linter.unusedSimpArgs false
namespace Go.Pl
open Go Go.Lv
theorem Ado{a m z:LB}{i k:Nat}(hi:a.length=i)(hk:m.length=k):part (a++(m++z)) i k=m:=by
 subst hi hk
 rw[part,List.take_append,List.take_of_length_le (by omega),List.drop_left',Nat.add_sub_cancel_left,List.take_append_of_le_length (Nat.le_refl _),List.take_length]
 rfl
theorem Wz(f c w r n:Nat)(z:LB):hdrB f c w r n++z=Lu++(Nx f 2++(Nx c 2++(Nx w 2++(Nx r 4++(Nx n 4++(Nx (Ca (Ayx f c w r n)).toNat 4++z)))))):=by
 simp only[hdrB,Ayx,List.append_assoc]
theorem Bur{f c w r n:Nat}(h1:shapeB f c w r n=true)(h2:fitB c r n=true)(z:LB):readS (hdrB f c w r n++z)=((f:Int),(c:Int),(w:Int),(r:Int),(n:Int),0):=by
 have hs:(f=1∨f=2)∧(1≤c∧c≤6)∧(w=8∨w=16∨w=24)∧(1≤r∧r≤1048576)∧1≤n:=by simpa only[shapeB,decide_eq_true_eq]using h1
 have hn:n≤4000:=by
  simp only[fitB,decide_eq_true_eq]at h2
  have:=Nat.div_le_self 4000 c
  omega
 have hlen:22≤(hdrB f c w r n++z).length:=by rw[List.length_append,Ant];omega
 have m4:min 4 (hdrB f c w r n++z).length=4:=by omega
 have e4:(hdrB f c w r n++z).take 4=Lu:=by rw[Wz];rfl
 have e18:(hdrB f c w r n++z).take 18=Ayx f c w r n:=by
  rw[hdrB,List.append_assoc,List.take_append_of_le_length (by rw[Anh];omega),List.take_of_length_le (by rw[Anh];omega)]
 have hlt:=(Ca (Ayx f c w r n)).toNat_lt
 have p18:part (hdrB f c w r n++z) 18 4=Nx (Ca (Ayx f c w r n)).toNat 4:=by
  rw[hdrB,List.append_assoc]
  exact Ado (Anh _ _ _ _ _) (Bk _ _)
 have q0:f0 (hdrB f c w r n++z)=f:=by
  rw[f0,Wz,Ado (a:=Lu) (i:=4) (k:=2) rfl (Bk _ _),Vs];omega
 have q1:f1 (hdrB f c w r n++z)=c:=by
  rw[f1,Wz,←List.append_assoc,Ado (by simp[Lu,Bk]) (Bk _ _),Vs];omega
 have q2:f2 (hdrB f c w r n++z)=w:=by
  rw[f2,Wz,←List.append_assoc,←List.append_assoc,Ado (by simp[Lu,Bk]) (Bk _ _),Vs];omega
 have q3:f3 (hdrB f c w r n++z)=r:=by
  rw[f3,Wz,←List.append_assoc,←List.append_assoc,←List.append_assoc,Ado (by simp[Lu,Bk]) (Bk _ _),Vs];omega
 have q4:f4 (hdrB f c w r n++z)=n:=by
  rw[f4,Wz,←List.append_assoc,←List.append_assoc,←List.append_assoc,←List.append_assoc,Ado (by simp[Lu,Bk]) (Bk _ _),Vs];omega
 have h:=rs6 (b:=hdrB f c w r n++z) (by rw[m4,e4];rfl) (by omega) (by rw[e18,p18,Vs];omega) (by rw[q0,q1,q2,q3,q4];exact h1) (by rw[q1,q3,q4];exact h2)
 rw[q0,q1,q2,q3,q4]at h
 exact h
theorem Bwk(l:List Int)(z:LB){i:Nat}(hi:i<l.length):part (Ajw l++z) (4*i) 4=Nx (l[i]).toNat 4:=by
 have hs:Ajw l=Ajw (l.take i)++(Nx (l[i]).toNat 4++Ajw (l.drop (i+1))):=by
  conv=>lhs;rw[←List.take_append_drop i l,drop_cons hi]
  rw[Ajw,Ajw,Ajw,List.flatMap_append,List.flatMap_cons]
 rw[hs,List.append_assoc,List.append_assoc]
 exact Ado (by rw[Ad8,List.length_take];omega) (Bk _ _)
theorem Btn{l:List Int}(ht:Acy l=true)(z:LB):seekS (tblB l++z) l.length=(l,0):=by
 have h:=ht
 simp only[Acy,Bool.and_eq_true,decide_eq_true_eq]at h
 obtain⟨hn,h3⟩:=h
 have h4:=(Aou l 100000 (by omega)).1 h3
 have h6:=Bet h4.1
 have hlt:=(Ca (Ajw l)).toNat_lt
 have e1:(tblB l++z).take (4*l.length)=Ajw l:=by
  rw[tblB,List.append_assoc,List.take_append_of_le_length (by rw[Ad8];omega),List.take_of_length_le (by rw[Ad8];omega)]
 have e2:part (tblB l++z) (4*l.length) 4=Nx (Ca (Ajw l)).toNat 4:=by
  rw[tblB,List.append_assoc]
  exact Ado (Ad8 _) (Bk _ _)
 have e3:Ahi (tblB l++z) l.length=l:=by
  apply List.ext_getElem
  ·rw[Yp]
  ·intro i h1 h2
   have hx:=h4.1 l[i] (List.getElem_mem _)
   have hy:=h6 l[i] (List.getElem_mem _)
   simp only[Ahi,List.getElem_map,List.getElem_range]
   rw[tblB,List.append_assoc,Bwk l _ h2,Vs]
   omega
 rw[ss4 hn (by rw[List.length_append,Asw];omega) (by rw[e1,e2,Vs];omega),e3,if_pos ht]
theorem Bxv{b p:LB}{f c w r n T:Nat}{l:List Int}{z:LB}(hp:p.length≤64)(hf:f=fmtOf p)(h1:shapeB f c w r n=true)(h2:fitB c r n=true)(hT:frontS b=((T:Int),0))(hb:b.length≤100000)(hd:b.drop T=hdrB f c w r n++(digP p++(tblB l++z)))
  (hl:l.length=(framesL (longN r) n).length) (ht:Acy l=true):Opn b p f c w r n (T+22+(if f=2 then 8 else 0)+4*l.length+4) l:=by
 have hlen:=congrArg List.length hd
 rw[List.length_drop,List.length_append,List.length_append,List.length_append,Ant,Atw,Asw,←hf]at hlen
 have hl1000:l.length≤1000∧1≤l.length:=by
  have h:=ht
  simp only[Acy,Bool.and_eq_true,decide_eq_true_eq]at h
  omega
 have hread:readS (b.drop T)=((f:Int),(c:Int),(w:Int),(r:Int),(n:Int),0):=by rw[hd];exact Bur h1 h2 _
 have t22:Ad (T:Int) 22=((T+22:Nat):Int):=by rw[Ag (by omega) (by omega)];omega
 have t30:Ad ((T+22:Nat):Int) 8=((T+30:Nat):Int):=by rw[Ag (by omega) (by omega)];omega
 have d22:b.drop (T+22)=digP p++(tblB l++z):=by
  rw[←List.drop_drop,hd,←Ant f c w r n,List.drop_left]
 have dA:b.drop (T+22+(if f=2 then 8 else 0))=tblB l++z:=by
  rw[←List.drop_drop,d22,hf,←Atw p,List.drop_left]
 have hend:∀A:Nat,A≤b.length→A=T+22+(if f=2 then 8 else 0)→seekto_Open b p=Nc b (f:Int) (c:Int) (w:Int) (r:Int) (n:Int) (A:Int)→seekto_Open b p=some ((f:Int),(c:Int),(w:Int),(r:Int),(n:Int),((A+4*l.length+4:Nat):Int),l,0):=by
  intro A hA hA2 e
  rw[e,Bha h1 h2 b (by omega) A hA,hA2,dA,←hl,Btn ht,if_neg (by simp)]
 have hprog:seekto_Open b p=some ((f:Int),(c:Int),(w:Int),(r:Int),(n:Int),((T+22+(if f=2 then 8 else 0)+4*l.length+4:Nat):Int),l,0):=by
  refine hend (T+22+(if f=2 then 8 else 0)) (by omega) rfl ?_
  rw[seekto_Open,Rp,if_neg (by rw[Ak,Ac];simp;omega),if_neg (by rw[Ak,Ac];simp;omega),Asn b (by omega),hT,Aa]
  simp only
  rw[if_neg (by decide),Nk (by omega) (by omega),Aa,Int.toNat_natCast,Bhh _ (by rw[List.length_drop];omega),Aa,hread]
  simp only
  rw[if_neg (by decide)]
  by_cases h0:p=[]
  ·have e1:f=1:=by rw[hf,fmtOf,if_pos h0]
   rw[if_neg (by rw[h0,e1];decide),if_neg (by rw[h0];decide),t22,e1]
   rfl
  ·have e1:f=2:=by rw[hf,fmtOf,if_neg h0]
   have hne:(p !=([]:LB))=true:=by simpa using h0
   have hne2:(p==([]:LB))=false:=by simpa using h0
   have hdg:digP p=Nx (Xp p).toNat 8:=by rw[digP,if_neg h0]
   have hseg:(b.take (T+30)).drop (T+22)=Nx (Xp p).toNat 8:=by
    rw[List.drop_take,show T+30-(T+22)=8 by omega,d22,hdg,List.take_append_of_le_length (by rw[Bk];omega),List.take_of_length_le (by rw[Bk];omega)]
   rw[e1,if_pos rfl]at hlen
   rw[if_neg (by rw[hne2,e1];decide),if_pos hne,t22,t30,if_neg (by rw[Af,Ac];simp;omega),Rq (by omega) (by omega) (by omega),Aa,Int.toNat_natCast,Int.toNat_natCast,hseg,Bxc (Bk _ _) hp,Aa]
   simp only
   rw[if_neg (by decide),if_neg (by simp),e1]
   rfl
 rcases Bzs b p (by omega) hp with⟨e,he,h,_⟩|⟨f',c',w',r',n',A',l',o⟩
 ·rw[hprog]at h
  have:=congrArg (fun o=>(o.getD (Bnj 0)).2.2.2.2.2.2.2) h
  simp only[Option.getD_some,Bnj]at this
  exact absurd this.symm he
 ·have h:=o.prog
  rw[hprog]at h
  simp only[Option.some.injEq,Prod.mk.injEq]at h
  obtain⟨i1,i2,i3,i4,i5,i6,i7,_⟩:=h
  have j1:f=f':=by omega
  have j2:c=c':=by omega
  have j3:w=w':=by omega
  have j4:r=r':=by omega
  have j5:n=n':=by omega
  have j6:=Int.ofNat.inj i6
  subst j1 j2 j3 j4 j5 i7
  rw[j6]
  exact o
theorem Bbc{b:LB}(h:b.take 4=Lu):frontS b=(0,0):=by
 have h4:4≤b.length:=by
  have:=congrArg List.length h
  rw[List.length_take]at this
  simp only[Lu,List.length_cons,List.length_nil]at this
  omega
 have h3:b.take 3≠ [73,68,51]:=by
  intro e
  have:(b.take 4).take 3=[73,68,51]:=by rw[List.take_take];exact e
  rw[h]at this
  exact absurd this (by decide)
 have h8:b.take 8≠APE:=by
  intro e
  have:(b.take 8).take 4=Lu:=by rw[List.take_take];exact h
  rw[e]at this
  exact absurd this (by decide)
 have hs:Dt b=(0,6):=by
  have h1:Aky b=(0,6):=by rw[Aky,if_pos (by intro hh;exact h3 hh.2)]
  rw[Dt,h1,if_neg (by decide),fa1 (by intro hh;exact h8 hh.2)]
 rw[frontS,Bpq,Cq,List.drop_zero,hs]
 rfl
theorem Akc:∀{l:List Int},(∀x∈l,0≤x)→∀k,0≤(l.take k).sum
 |[],_,k=>by simp
 |x::l,h,0=>by simp
 |x::l,h,k+1=>by
  have:=Akc (l:=l) (fun y hy=>h y (List.mem_cons_of_mem _ hy)) k
  have:=h x List.mem_cons_self
  rw[List.take_succ_cons,List.sum_cons];omega
theorem Aun(fs:List LB)(k:Nat):(lensOf fs).take k=lensOf (fs.take k):=by rw[lensOf,lensOf,List.map_take]
theorem Cc8{b z:LB}{A:Nat}{fs:List LB}(hd:b.drop A=fs.flatten++z){k:Nat}(hk:k<fs.length):segF b A (lensOf fs) k=fs[k]:=by
 have e0:fs.flatten=(fs.take k).flatten++(fs[k]++(fs.drop (k+1)).flatten):=by
  conv=>lhs;rw[←List.take_append_drop k fs,drop_cons hk]
  rw[List.flatten_append,List.flatten_cons]
 have s1:((lensOf fs).take k).sum=((fs.take k).flatten.length:Int):=by rw[Aun,Wn]
 have s2:((lensOf fs).take (k+1)).sum=((fs.take k).flatten.length+fs[k].length:Nat):=by rw[Aun,Wn,Jw hk,List.flatten_append];simp
 rw[segF,s1,s2,show((A:Int)+((fs.take k).flatten.length+fs[k].length:Nat)).toNat=A+((fs.take k).flatten.length+fs[k].length) by omega,show((A:Int)+((fs.take k).flatten.length:Int)).toNat=A+(fs.take k).flatten.length by omega,
  List.drop_take,←List.drop_drop,hd,e0,List.append_assoc,List.drop_left,Nat.add_sub_add_left,Nat.add_sub_cancel_left,List.append_assoc,List.take_left]
theorem Buv{b z:LB}{A:Nat}{fs:List LB}(hd:b.drop A=fs.flatten++z)(hA:A≤b.length)(k:Nat):(A:Int)+((lensOf fs).take k).sum≤b.length:=by
 have h:=congrArg List.length hd
 rw[List.length_drop,List.length_append]at h
 have h2:(fs.take k).flatten.length≤fs.flatten.length:=by
  conv=>rhs;rw[←List.take_append_drop k fs,List.flatten_append,List.length_append]
  omega
 rw[Aun,Wn];omega
theorem Btc{b z:LB}{A:Nat}{fs:List LB}(hd:b.drop A=fs.flatten++z):Bgc b A (lensOf fs)=(Aj9 z).2:=by
 rw[Bgc,Wn,show((A:Int)+(fs.flatten.length:Int)).toNat=A+fs.flatten.length by omega,←List.drop_drop,hd,List.drop_left]
theorem Bej:Aj9 []=(0,0):=rfl
section
variable {b p:List UInt8} {f c w r n A:Nat} {fs:List LB} {z:LB} (o:Opn b p f c w r n A (lensOf fs)) (hd:b.drop A=fs.flatten++z)
include o hd
theorem Bvk{k:Nat}(hk:k<fs.length){y:List Int32}{e:Int}{m:Nat}(hm:getI (framesL (longN r) n) (k:Int)=some (m:Int))(hdec:deframe_Decode (c:Int) (w:Int) (tapsOf p) (m:Int) fs[k]=some (y,e)):
  (Af3 b p f c w r n A (lensOf fs) k).2=e∧(e=0→Af3 b p f c w r n A (lensOf fs) k=(bytesB (w:Int) y,0)∧smF w (Af3 b p f c w r n A (lensOf fs) k)=y):=by
 have hkl:k<(lensOf fs).length:=by rw[Ek];exact hk
 obtain⟨m',x',s',e',g⟩:=Aud o k hkl
 have hin:=Buv hd o.at' (k+1)
 have hmm:m'=m:=by
  have:=g.mom
  rw[hm]at this
  have:=Option.some.inj this
  omega
 subst hmm
 rcases g.way with⟨h1,_⟩|⟨_,h2,_⟩
 ·omega
 ·rw[Cc8 hd hk,hdec]at h2
  simp only[Option.some.injEq,Prod.mk.injEq]at h2
  obtain⟨rfl,rfl⟩:=h2
  refine⟨by rw[g.eq],fun he=>?_⟩
  have:=g.smp (Amo o.shape).2.1
  obtain⟨h3,_⟩:=g.some' he
  rw[g.eq,this,h3,he]
  exact⟨rfl,rfl⟩
end
end Go.Pl
set_option linter.unusedVariables false
set_option linter.unusedSimpArgs false
namespace Go.Pl
open Go Go.Lv
theorem Beo(c:Nat)(h1:1≤c):∀(l:List Int) (x:List Int32),(∀m∈l,1≤m)→x.length=l.sum.toNat*c→∀(k:Nat) (hk:k<l.length) (hk':k<(Wb c x l).length),(Wb c x l)[k].length=l[k].toNat*c
 |[],x,_,_=>fun k hk=>absurd hk (Nat.not_lt_zero _)
 |m::l,x,hm,hx=>by
  have hm1:=hm m List.mem_cons_self
  have hl:0≤l.sum:=by
   have:=Akc (l:=l) (fun y hy=>by have:=hm y (List.mem_cons_of_mem _ hy);omega) l.length
   rw[List.take_length]at this;exact this
  rw[List.sum_cons,show(m+l.sum).toNat=m.toNat+l.sum.toNat by omega,Nat.add_mul]at hx
  intro k hk hk'
  cases k with
  |zero=>simp only[Wb,List.getElem_cons_zero,List.length_take];omega
  |succ k=>
   simp only[Wb,List.getElem_cons_succ]
   exact Beo c h1 l (x.drop (m.toNat*c)) (fun m hm'=>hm m (List.mem_cons_of_mem _ hm')) (by rw[List.length_drop];omega) k (by simpa using hk) _
theorem Boz{bits:Int}{ch n:Nat}{t:List Int32}{b:LB}{e:Int}(hb:BitsOk bits)(ht:t.length=16)(h1:1≤ch)(h6:ch≤6)(n1:1≤n)(n2:n≤4000/ch)(hs:Ky b=e)(he:e≠0):deframe_Decode (ch:Int) bits t (n:Int) b=some ([],e):=by
 have hq4:=Bbw h1 h6
 have hh:=Aie bits
 obtain⟨l,e',d1,d2,_,d4⟩:=Akh b hb ht h1 h6 n1 n2
 have key:∃l,cadenzaref21_Decode (ch:Int) bits t (n:Int) b=some (l,e):=by
  generalize 4000/ch=mm at*
  have hasked:Ch (ch:Int) bits (n:Int)=some 0:=by
   rw[Ch,By,if_neg (by simp[Af,Ak];omega),Aj8 hb,Aa,if_neg (by rw[Az];simp;omega),Aa,if_neg (by simp[Aj,Af];omega),Ay (by rw[Aj];simp;omega),Aa,hq4,if_neg (by rw[Ak];simp;omega)]
  rw[cadenzaref21_Decode,Jl,hasked,Aa,if_neg (by rw[Aj];simp),Awr,Aa,hs,if_pos (by rw[Aj];simpa using he)]
  exact⟨_,rfl⟩
 obtain⟨l',hl⟩:=key
 rw[hl]at d2
 simp only[Option.some.injEq,Prod.mk.injEq]at d2
 obtain⟨rfl,rfl⟩:=d2
 rw[d1,d4 he]
structure FileOf (c w r n:Nat) (x:List Int32) (p:LB) (T:Nat) (fs:List LB) (z b:LB):Prop where
 clip:ClipOk c w r n x
 pass:p.length≤64
 front:frontS b=((T:Int),0)
 le:b.length≤100000
 lens:lensOf fs=lensOf (frs c w r n x p)
 form:b.drop T=hdrB (fmtOf p) c w r n++(digP p++(tblB (lensOf (frs c w r n x p))++(fs.flatten++z)))
def Alw(T:Nat)(p:LB)(K:Nat):Nat:=T+22+(if fmtOf p=2 then 8 else 0)+4*K+4
section
variable {c w r n:Nat} {x:List Int32} {p:LB} {T:Nat} {fs:List LB} {z b:LB} (h:FileOf c w r n x p T fs z b)
include h
theorem FileOf.cnt:fs.length=(frs c w r n x p).length:=by
 have:=congrArg List.length h.lens
 rw[Ek,Ek]at this
 exact this
theorem FileOf.Dr:Opn b p (fmtOf p) c w r n (Alw T p fs.length) (lensOf fs):=by
 have hc:=h.clip
 have hl:(lensOf fs).length=(framesL (longN r) n).length:=by rw[Ek,h.cnt];exact Bj6 p
 have ht:Acy (lensOf fs)=true:=by rw[h.lens];exact Ble hc p
 have hd:=h.form
 rw[←h.lens]at hd
 have:=Bxv (z:=fs.flatten++z) h.pass rfl (hc.shape _ (Bnl p)) hc.fit h.front h.le hd hl ht
 rw[Ek]at this
 exact this
theorem FileOf.Blr:b.drop (Alw T p fs.length)=fs.flatten++z:=by
 have hd:=h.form
 rw[←h.lens]at hd
 have e:Alw T p fs.length=T+(22+((if fmtOf p=2 then 8 else 0)+(4*fs.length+4))):=by unfold Alw;omega
 have e2:4*fs.length+4=(tblB (lensOf fs)).length:=by rw[Asw,Ek]
 rw[e,←List.drop_drop,hd,←List.drop_drop]
 conv=>lhs;rw[←Ant (fmtOf p) c w r n,List.drop_left,←List.drop_drop,←Atw p,List.drop_left,e2,List.drop_left]
theorem FileOf.mom{k:Nat}(hk:k<fs.length):∃(m:Nat) (hk':k<(Aq4 c r n x).length),getI (framesL (longN r) n) (k:Int)=some (m:Int)∧1≤m∧m≤4000/c∧((Aq4 c r n x)[k]).length=m*c∧inR (w:Int) (Aq4 c r n x)[k]∧(frs c w r n x p)[k]'(by rw[←h.cnt];exact hk)=Li (w:Int) c (tapsOf p) (Aq4 c r n x)[k]:=by
 have hc:=h.clip
 have hlen:fs.length=(framesL (longN r) n).length:=by rw[h.cnt];exact Bj6 p
 have hkf:k<(framesL (longN r) n).length:=by omega
 have hk':k<(Aq4 c r n x).length:=by rw[Bmx];exact hkf
 have hm1:=Xg (Ll r) hc.cnt.1 _ (List.getElem_mem hkf)
 obtain⟨m,hm⟩:=Int.eq_ofNat_of_zero_le (show 0≤(framesL (longN r) n)[k] by omega)
 have hg:=Beo c hc.ch.1 _ x (Xg (Ll r) hc.cnt.1) (by rw[hc.sum,hc.len,Int.toNat_natCast]) k hkf hk'
 rw[hm,Int.toNat_natCast]at hg
 have hmem:=Ajo hc _ (List.getElem_mem hk')
 have hx:=Awt c hc.ch.1 _ x (Xg (Ll r) hc.cnt.1) (by rw[hc.sum,hc.len,Int.toNat_natCast]) _ (List.getElem_mem hk')
 have hg':((Aq4 c r n x)[k]).length=m*c:=hg
 refine⟨m,hk',by rw[Bu hkf,hm],by omega,?_,hg',hmem.2.2.2,?_⟩
 ·have h1:=hx.2.1
  have h2:m*c≤n*c:=by rw[←hg',←hc.len];exact h1
  have h3:m≤n:=Nat.le_of_mul_le_mul_right h2 hc.ch.1
  exact Nat.le_trans h3 hc.cnt.2
 ·simp only[frs,List.getElem_map]
theorem FileOf.Cfh{k:Nat}(hk:k<fs.length)(he:fs[k]=(frs c w r n x p)[k]'(by rw[←h.cnt];exact hk)):
  Af3 b p (fmtOf p) c w r n (Alw T p fs.length) (lensOf fs) k=(bytesB (w:Int) ((Aq4 c r n x).getD k []),0)∧smF w (Af3 b p (fmtOf p) c w r n (Alw T p fs.length) (lensOf fs) k)=(Aq4 c r n x).getD k []:=by
 have hc:=h.clip
 obtain⟨m,hk',h1,h2,h3,h4,h5,h6⟩:=h.mom hk
 have hd:=(Bpl hc.bits (Ahf p) hc.ch.1 hc.ch.2 h2 h3 h4 h5).1
 have hg:=Bvk h.Dr h.Blr hk h1 (by rw[he,h6];exact hd)
 have e:(Aq4 c r n x).getD k []=(Aq4 c r n x)[k]:=by rw[List.getD_eq_getElem?_getD,List.getElem?_eq_getElem hk'];rfl
 rw[e]
 exact hg.2 rfl
theorem FileOf.Cgg{k:Nat}(hk:k<fs.length)(he:Ky fs[k]=22):(Af3 b p (fmtOf p) c w r n (Alw T p fs.length) (lensOf fs) k).2=22:=by
 have hc:=h.clip
 obtain⟨m,hk',h1,h2,h3,h4,h5,h6⟩:=h.mom hk
 exact(Bvk h.Dr h.Blr hk h1 (Boz hc.bits (Ahf p) hc.ch.1 hc.ch.2 h2 h3 he (by decide))).1
theorem FileOf.beh:Bgc b (Alw T p fs.length) (lensOf fs)=(Aj9 z).2:=Btc h.Blr
end
theorem Bhl{c w r n:Nat}{x:List Int32}(h:ClipOk c w r n x){p:LB}(hp:p.length≤64):FileOf c w r n x p 0 (frs c w r n x p) [] (Um c w r n x p):=by
 refine⟨h,hp,Bbc ?_,by have:=Bhx h p;omega,rfl,by rw[List.append_nil];rfl⟩
 rw[Um,Wz];rfl
end Go.Pl
set_option linter.unusedVariables false
set_option linter.unusedSimpArgs false
namespace Go.Pl
open Go Go.Lv
theorem Bnb:∀(fs:List LB) (a:Nat),a<fs.flatten.length→∃k j:Nat,∃(hk:k<fs.length) (hj:j<fs[k].length),a=(fs.take k).flatten.length+j∧fs.flatten[a]? =some fs[k][j]∧∀y:UInt8,fs.flatten.set a y=(fs.set k (fs[k].set j y)).flatten
 |[],a,h=>by simp at h
 |f::fs,a,h=>by
  by_cases ha:a<f.length
  ·exact⟨0,a,by simp,by simpa using ha,by simp,by simp[List.getElem?_append_left ha,ha],fun y=>by simp[List.set_append,ha]⟩
  ·rw[List.flatten_cons,List.length_append]at h
   obtain⟨k,j,hk,hj,h1,h2,h3⟩:=Bnb fs (a-f.length) (by omega)
   refine⟨k+1,j,by simp;omega,by simpa using hj,?_,?_,fun y=>?_⟩
   ·rw[List.take_succ_cons,List.flatten_cons,List.length_append];omega
   ·rw[List.flatten_cons,List.getElem?_append_right (by omega),h2];simp
   ·rw[List.flatten_cons,List.set_append,if_neg ha,h3 y];simp
theorem Bmn{fs:List LB}{k:Nat}(hk:k<fs.length){g:LB}(h:g.length=fs[k].length):lensOf (fs.set k g)=lensOf fs:=by
 rw[lensOf,List.map_set]
 have:((g.length:Nat):Int)=(lensOf fs)[k]'(by rw[Ek];exact hk):=by simp[lensOf,h]
 rw[show(fs.map fun f=>(f.length:Int))=lensOf fs from rfl,this]
 exact List.set_getElem_self _
theorem Bds{l:List Int}(h:∀x∈l,0≤x){i j:Nat}(hij:i≤j):(l.take i).sum≤(l.take j).sum:=by
 obtain⟨d,rfl⟩:=Nat.exists_eq_add_of_le hij
 rw[List.take_add,List.sum_append]
 have:=Akc (l:=l.drop i) (fun x hx=>h x (List.mem_of_mem_drop hx)) d
 omega
theorem Bzn(fs:List LB):∀x∈lensOf fs,0≤x:=by
 intro x hx
 rw[lensOf,List.mem_map]at hx
 obtain⟨f,_,rfl⟩:=hx
 omega
section
variable {c w r n:Nat} {x:List Int32} (h:ClipOk c w r n x) {p:LB} (hp:p.length≤64)
include h hp
omit hp in
theorem Bwb{k:Nat}(hk:k<(frs c w r n x p).length):Ky (frs c w r n x p)[k]=0:=by
 have hm:(frs c w r n x p)[k]∈frs c w r n x p:=List.getElem_mem hk
 obtain⟨y,hy,he⟩:=List.mem_map.1 (show(frs c w r n x p)[k]∈(Aq4 c r n x).map (Li (w:Int) c (tapsOf p))from hm)
 have hy':=Ajo h y hy
 rw[←he]
 exact(Bge _ _ _ _ hy'.1 hy'.2.1).1
theorem By2{a:Nat}(ha:a<(frs c w r n x p).flatten.length):∃k j:Nat,∃(hk:k<(frs c w r n x p).length) (hj:j<(frs c w r n x p)[k].length),a=((frs c w r n x p).take k).flatten.length+j∧
  getI (Um c w r n x p) ((Alw 0 p (frs c w r n x p).length+a:Nat):Int)=some (frs c w r n x p)[k][j]∧
  ∀y:UInt8,FileOf c w r n x p 0 ((frs c w r n x p).set k ((frs c w r n x p)[k].set j y)) [] ((Um c w r n x p).set (Alw 0 p (frs c w r n x p).length+a) y)∧(y≠(frs c w r n x p)[k][j]→Ky ((frs c w r n x p)[k].set j y)=22):=by
 have fo:=Bhl h hp
 have hd:=fo.Blr
 have hle:=fo.le
 obtain⟨k,j,hk,hj,h1,h2,h3⟩:=Bnb _ a ha
 have hs:=Bwb h hk
 have hA:Alw 0 p (frs c w r n x p).length≤(Um c w r n x p).length:=by
  have:=Bib (c:=c) (w:=w) (r:=r) (n:=n) (x:=x) p
  unfold Alw;omega
 have hlen:=congrArg List.length hd
 rw[List.length_drop,List.append_nil]at hlen
 have hA4:4≤Alw 0 p (frs c w r n x p).length:=by unfold Alw;omega
 refine⟨k,j,hk,hj,h1,?_,fun y=>⟨⟨h,hp,Bbc ?_,by rw[List.length_set];exact hle,Bmn hk (by rw[List.length_set]),?_⟩,fun hy=>Btj hs hj (fun e=>hy e.symm)⟩⟩
 ·rw[List.append_nil]at hd
  rw[Bu (by omega)]
  have:(Um c w r n x p)[Alw 0 p (frs c w r n x p).length+a]? =some (frs c w r n x p)[k][j]:=by rw[←List.getElem?_drop,hd,h2]
  rw[List.getElem?_eq_getElem (by omega)]at this
  exact this
 ·rw[List.take_set_of_le (by omega)]
  rw[Um,Wz];rfl
 ·rw[List.append_nil,←h3 y,List.drop_zero]
  have e1:Um c w r n x p=(hdrB (fmtOf p) c w r n++(digP p++tblB (lensOf (frs c w r n x p))))++(frs c w r n x p).flatten:=by simp[Um]
  have e2:(hdrB (fmtOf p) c w r n++(digP p++tblB (lensOf (frs c w r n x p)))).length=Alw 0 p (frs c w r n x p).length:=by
   rw[List.length_append,List.length_append,Ant,Atw,Asw,Ek];unfold Alw;omega
  rw[e1,List.set_append,if_neg (by omega),e2,Nat.add_sub_cancel_left]
  simp
end
theorem Bmu(G:Nat→List UInt8×Int)(be:Int):∀(j k:Nat) (acc:List UInt8),(∃i,k≤i∧i<k+j∧(G i).2≠0)→(Aka G be j k acc).2≠0
 |0,k,acc,⟨i,h1,h2,_⟩=>by omega
 |j+1,k,acc,⟨i,h1,h2,h3⟩=>by
  rw[Aka]
  by_cases hk:(G k).2≠0
  ·rw[if_pos hk];exact hk
  ·rw[if_neg hk]
   have:i≠k:=fun e=>hk (e▸h3)
   exact Bmu G be j (k+1) _ ⟨i,by omega,by omega,h3⟩
theorem Bh5{b p:LB}{f c w r n A:Nat}{l:List Int}(o:Opn b p f c w r n A l){i:Nat}(hi:i<l.length):Jk b p (i:Int)=some ((Af3 b p f c w r n A l i).1,(Af3 b p f c w r n A l i).2):=by
 obtain⟨m,x,s,e,g⟩:=Aud o i hi
 rw[Btl o hi g,g.eq]
theorem Bhn{l:List Int}{i:Nat}(hi:i<l.length):(l.take (i+1)).sum=(l.take i).sum+l[i]:=by
 rw[Jw hi,List.sum_append,List.sum_singleton]
theorem Bhg{α:Type}(G H:Nat→List α):∀(j k:Nat),(∀i,k≤i→i<k+j→G i=H i)→Bjg G j k=Bjg H j k
 |0,k,_=>rfl
 |j+1,k,h=>by rw[Bjg,Bjg,h k (by omega) (by omega),Bhg G H j (k+1) (fun i h1 h2=>h i (by omega) (by omega))]
end Go.Pl
set_option linter.unusedVariables false
namespace Go.Pl
open Go Go.Lv
theorem Cbf:Oz=some true:=by kernel_rfl
end Go.Pl
set_option linter.unusedVariables false
set_option linter.unusedSimpArgs false
namespace Go.Pl
open Go Go.Lv
theorem Brh{b b' p:LB}{f c w r n A:Nat}{l:List Int}{f' c' w' r' n':Nat}(o:Opn b p f c w r n A l)(o':Opn b' p f' c' w' r' n' A l)(hn:∀x∈l,0≤x){K a:Nat}(hK:K<l.length)(ha1:(l.take K).sum≤(a:Int))(ha2:(a:Int)<(l.take (K+1)).sum)
  (hG:∀i,i<l.length→(Af3 b p f c w r n A l i).2=0) (hG':∀i,i<l.length→i≠K→Af3 b' p f' c' w' r' n' A l i=Af3 b p f c w r n A l i) (hB:(Af3 b' p f' c' w' r' n' A l K).2≠0) (hbe:Bgc b A l=0) (hbe':Bgc b' A l=0) (a1 a2 a3 a4 a5:Int):
  ∀(j i q:Nat),i+j=l.length→j<q→Cm p (a:Int) true b a1 a2 a3 a4 a5 (A:Int) b' l q ((A:Int)+(l.take i).sum) (i:Int)=some true
 |j,i,0,_,h=>absurd h (Nat.not_lt_zero _)
 |0,i,q+1,hi,_=>by
  rw[Cm,Fm,if_neg (by rw[Af,Ac];simp;omega)]
  rfl
 |j+1,i,q+1,hi,hq=>by
  have hlt:i<l.length:=by omega
  have ih:=Brh o o' hn hK ha1 ha2 hG hG' hB hbe hbe' a1 a2 a3 a4 a5 j (i+1) q (by omega) (by omega)
  have hs1:=o.some1
  have hsum:=o.sum
  have hA:=o.at'
  have hfile:=o.file
  have hi1:Ad (i:Int) 1=((i+1:Nat):Int):=by rw[Ag (by omega) (by omega)];omega
  have hnn:=Akc hn
  have hS1:=Bhn hlt
  have hle:∀k,(l.take k).sum≤l.sum:=fun k=>by
   have:=Bds hn (show k≤max k l.length by omega)
   rw[List.take_of_length_le (i:=max k l.length) (by omega)]at this;exact this
  have hx:=hn l[i] (List.getElem_mem _)
  have h1:=hle (i+1)
  have h0:=hnn i
  have hKs:=hle (K+1)
  have eg:Ad ((A:Int)+(l.take i).sum) l[i]=(A:Int)+(l.take (i+1)).sum:=by rw[Ag (by omega) (by omega)];omega
  have ea:Ad (A:Int) (a:Int)=(A:Int)+(a:Int):=Ag (by omega) (by omega)
  have fr:=Bhz o (i:Int)
  have fr':=Bhz o' (i:Int)
  rw[if_neg (by omega),Int.toNat_natCast,hbe,Ay2 _ _ _ _ (fun k k1 k2=>hG k (by omega)),List.nil_append]at fr
  rw[if_neg (by omega),Int.toNat_natCast,hbe']at fr'
  have hgi:=hG i hlt
  replace fr':Lp b' p (i:Int)=some ((Aka (Af3 b' p f' c' w' r' n' A l) 0 (l.length-i) i []).1,(Aka (Af3 b' p f' c' w' r' n' A l) 0 (l.length-i) i []).2):=fr'
  rw[Cm,Fm,if_pos (by rw[Af,Ac];simp;omega),Bu hlt,Aa,Aa,Bh5 o hlt,Aa]
  simp only
  rw[Bh5 o' hlt,Aa]
  simp only
  rw[fr,Aa]
  simp only
  rw[fr',Aa]
  simp only[eg,ea,hi1,hgi]
  rcases Nat.lt_trichotomy i K with hiK|rfl|hiK
  ·
   have hm:=Bds hn (show i+1≤K by omega)
   rw[hG' i hlt (by omega),hgi,if_neg (by simp[Aj,Am5,Af,Az];omega),if_neg (by simp[Am5,Af]),if_neg (by simp[Ak];omega),if_neg (by decide),if_neg (by simp[Ak];omega)]
   exact ih
  ·
   have hbad:=Bmu (Af3 b' p f' c' w' r' n' A l) 0 (l.length-i) i [] ⟨i,by omega,by omega,hB⟩
   have hB2:geq (Af3 b' p f' c' w' r' n' A l i).2 0=false:=by rw[Az];simpa using hB
   rw[if_neg (by rw[hB2];simp[Aj,Am5,Af];omega),if_neg (by simp[Am5,Af];omega)]
   have hcond:¬((Ez ((A:Int)+(l.take (i+1)).sum) ((A:Int)+(a:Int))&&gle ((A:Int)+(l.take i).sum) ((A:Int)+(a:Int)))&&geq (Aka (Af3 b' p f' c' w' r' n' A l) 0 (l.length-i) i []).2 0)=true:=by simp[Az,hbad]
   by_cases hgt:(Ez ((A:Int)+(l.take i).sum) ((A:Int)+(a:Int)))=true
   ·simp[Ak]at hgt;omega
   ·rw[if_neg hgt,if_neg (by decide),if_neg hcond]
    exact ih
  ·
   have hm:=Bds hn (show K+1≤i by omega)
   have hrg:Aka (Af3 b' p f' c' w' r' n' A l) 0 (l.length-i) i []=(Bjg (fun k=>(Af3 b p f c w r n A l k).1) (l.length-i) i,0):=by
    rw[Ay2 _ _ _ _ (fun k k1 k2=>by rw[hG' k (by omega) (by omega)];exact hG k (by omega)),List.nil_append,Bhg _ _ _ _ (fun k k1 k2=>by rw[hG' k (by omega) (by omega)])]
   rw[hG' i hlt (by omega),hgi,hrg,if_neg (by simp[Aj,Am5,Af,Az];omega),if_neg (by simp[Am5,Af]),if_pos (by simp[Ak];omega),if_neg (by simp[Aj]),if_neg (by simp[Am5,Ak];omega)]
   exact ih
theorem Bt2(hal:Oz=some true)(C W R:Int)(x:List Int32)(p:LB)(at':Int)(by':UInt8):Gz C W R x p at' by'=some true:=by
 rw[Gz,Iq,hal,Aa]
 rcases Bny C W R x with⟨e8,_⟩|⟨c,w,r,n,rfl,rfl,rfl,h,e24,eck⟩
 ·rw[e8,Aa,if_pos (by simp[Aj])]
 rw[e24,Aa]
 by_cases hc:((((Bf (0:Int) 0||Ez (Ac x) 400)||Ez (Ac p) 64)||Bw at' 0)|| !true)=true
 ·rw[if_pos hc]
 rw[if_neg hc]
 simp only[Bool.or_eq_true,not_or,Ak,Af,Ac,decide_eq_true_eq]at hc
 obtain⟨⟨⟨⟨_,c2⟩,c3⟩,c4⟩,_⟩:=hc
 obtain⟨a,rfl⟩:=Int.eq_ofNat_of_zero_le (show 0≤at' by omega)
 have hp:p.length≤64:=by omega
 have fo:=Bhl h hp
 have o:=fo.Dr
 have hd:=fo.Blr
 have hfn:=Brj h p
 have hlen:=congrArg List.length hd
 rw[List.length_drop,List.append_nil]at hlen
 have hA:=o.at'
 have hfl:=o.file
 rw[Bn0 h eck p hp,Aa]
 simp only
 rw[o.prog,Aa]
 simp only
 rw[if_neg (by simp[Aj,Af,Ak,Ac];omega)]
 by_cases hc2:((Jt (a:Int) (Ah (Ac (Um c w r n x p)) (Alw 0 p (frs c w r n x p).length:Int))||geq by' 0)||Ez (Ac (lensOf (frs c w r n x p))) 60)=true
 ·rw[if_pos hc2]
 rw[if_neg hc2]
 have hsub:Ah (Ac (Um c w r n x p)) (Alw 0 p (frs c w r n x p).length:Int)=((frs c w r n x p).flatten.length:Int):=by rw[Ac,Bb (by omega) (by omega)];omega
 rw[hsub]at hc2
 simp only[Bool.or_eq_true,not_or,Ak,Ck,Ac,decide_eq_true_eq]at hc2
 obtain⟨⟨d1,d2⟩,d3⟩:=hc2
 obtain⟨K,j,hK,hj,h1,h2,h3⟩:=By2 h hp (a:=a) (by omega)
 have hy:by'≠0:=by intro e;rw[e]at d2;exact d2 rfl
 generalize hv:(frs c w r n x p)[K][j]=v at*
 have hne:Nn v by'≠v:=by
  intro e
  apply hy
  have h5:(v^^^by')=v:=by rw[←Biu];exact e
  have h6:v^^^ (v^^^by')=v^^^v:=by rw[h5]
  rw[←UInt8.xor_assoc,UInt8.xor_self,UInt8.zero_xor]at h6
  exact h6
 have hadd:Ad (Alw 0 p (frs c w r n x p).length:Int) (a:Int)=((Alw 0 p (frs c w r n x p).length+a:Nat):Int):=by rw[Ag (by omega) (by omega)];omega
 rw[Cg (by simp;omega),Aa,List.nil_append,hadd,h2,Aa,Aa,Aa,My _ (by omega),Aa]
 obtain⟨fo',hbad⟩:=h3 (Nn v by')
 have hbad:=hbad hne
 have o':=fo'.Dr
 have hl':=Bmn (fs:=frs c w r n x p) hK (g:=(frs c w r n x p)[K].set j (Nn v by')) (by rw[List.length_set])
 have hlen':((frs c w r n x p).set K ((frs c w r n x p)[K].set j (Nn v by'))).length=(frs c w r n x p).length:=List.length_set
 have hbe:=fo.beh
 have hbe':=fo'.beh
 have hgood:∀i,i<(frs c w r n x p).length→_:=fun i hi=>fo.Cfh hi rfl
 have hgood':∀i,(hi:i<(frs c w r n x p).length)→i≠K→_:=fun i hi hiK=>fo'.Cfh (k:=i) (by rw[hlen'];exact hi) (by rw[List.getElem_set_ne (fun e=>hiK e.symm)])
 have hbd:=fo'.Cgg (k:=K) (by rw[hlen'];exact hK) (by rw[List.getElem_set_self];exact hbad)
 rw[hl',hlen']at o' hbe' hgood' hbd
 have hs1:((lensOf (frs c w r n x p)).take K).sum=(((frs c w r n x p).take K).flatten.length:Int):=by rw[Aun,Wn]
 have hlp:=Brh o o' (Bzn _) (K:=K) (a:=a) (by rw[Ek];exact hK) (by omega) (by
   rw[Bhn (by rw[Ek];exact hK),hs1]
   have:(lensOf (frs c w r n x p))[K]'(by rw[Ek];exact hK)=((frs c w r n x p)[K].length:Int):=by simp[lensOf]
   rw[this];omega)
  (fun i hi=>by rw[Ek]at hi;rw[(hgood i hi).1]) (fun i hi hiK=>by rw[Ek]at hi;rw[(hgood i hi).1,(hgood' i hi hiK).1]) (by rw[hbd];decide) (by rw[hbe,Bej]) (by rw[hbe',Bej]) (fmtOf p:Int) (c:Int) (w:Int) (r:Int) (n:Int) (frs c w r n x p).length 0 Ao (by rw[Ek];omega) (by have:=Al;omega)
 rw[List.take_zero,List.sum_nil,Int.add_zero]at hlp
 exact hlp
theorem law_SeektoOthers(C W R:Int)(x:List Int32)(p:LB)(at':Int)(by':UInt8):Gz C W R x p at' by'=some true:=Bt2 Cbf C W R x p at' by'
end Go.Pl
