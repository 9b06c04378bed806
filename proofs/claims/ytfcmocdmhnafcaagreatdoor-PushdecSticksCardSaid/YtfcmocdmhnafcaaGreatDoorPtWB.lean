/- A part of the proof of a statement of this seat (see the text that ends in Proof): LwNn, LwHdI, LwFit, LwFitC, LwStart, LwStb, LwChk, LwChkT, LwChkF, LwPc, LwTake, LwGre, LwSteps, LwStb2, LwFed, LwOut, LwErr, LwCat, LwJoin, LwPp, LwPt. No conditions of its own. -/
import Derived.Test.YtfcmocdmhnafcaaGreatDoorPtWA
import Derived.KernelRfl
set_option linter.unusedVariables false
set_option linter.unusedSimpArgs false
namespace Go.Pl
open Go Go.Lv
def Cd(e:Int):Prop:=e=0∨e=4∨e=12∨e=16∨e=22∨e=24∨e=26∨e=38
instance(e:Int):Decidable (Cd e):=by unfold Cd;infer_instance
theorem Cd.nn{e:Int}(h:Cd e):0≤e:=by unfold Cd at h;omega
theorem Cgb(p:List UInt8)(N a k:Nat):Cd (rcS p N a k).2.2:=by
 unfold rcS
 repeat' split
 all_goals first|decide|exact .inl rfl
theorem Cfu(p:List UInt8)(N a k l:Nat):Cd (dgS p N a k l).2.2:=by
 have h:=Cgb p N (a+1) l
 unfold dgS
 repeat' split
 all_goals first|exact h|decide|exact .inl rfl
theorem Bs2(ch:Nat)(p:List UInt8)(N:Nat):∀(j a:Nat) (out:List UInt32),Cd (Aab ch p N j a out).2.2
 |0,a,out=>by rw[Aab];exact .inl rfl
 |j+1,a,out=>by
  rw[Aab]
  split
  ·exact Cfu ..
  ·exact Bs2 ch p N j _ _
theorem Bxf(b:List UInt8):Cd (Xd b):=by
 unfold Xd
 repeat' split
 all_goals first|decide|exact .inl rfl
theorem Bjs(a:List Int32)(b:Int):∀(q:Nat) (i e:Int),Bc a b q i=some e→Cd e
 |0,_,_,h=>by rw[Bc]at h;cases h
 |q+1,i,e,h=>by
  rw[Bc,Dk]at h
  split at h
  ·cases hg:getI a i with
   |none=>rw[hg]at h;cases h
   |some g=>
    rw[hg,Aa]at h
    split at h
    ·cases h;decide
    ·rw[Aa]at h
     split at h
     ·cases h;decide
     ·exact Bjs a b q _ e h
  ·cases h;decide
theorem Bqf{bits:Int}{a:List Int32}{e:Int}(hb:Cm bits)(h:cadenzaref18_Check bits a=some e):Cd e:=by
 rw[cadenzaref18_Check,Gv]at h
 rw[Bbo hb,Aa,if_neg (by have:=Axx bits;rw[Aq];simp;omega)]at h
 split at h
 ·cases h;decide
 ·exact Bjs a _ _ _ e h
theorem Bjr{bits:Int}{ch n:Nat}{t:List Int32}{b:List UInt8}(hb:Cm bits)(ht:t.length=16)(h1:1≤ch)(h6:ch≤6)(n1:1≤n)(n2:n≤4000/ch){l:List Int32}{e:Int}
  (h:cadenzaref21_Decode (ch:Int) bits t (n:Int) b=some (l,e)):Cd e:=by
 have hn:n*ch≤4000:=by
  have:=Nat.mul_le_mul_right ch n2
  have h2:=Nat.div_mul_le_self 4000 ch
  omega
 have hq4:=Btu h1 h6
 generalize 4000/ch=mm at*
 have hh:=Axx bits
 have hasked:Ke (ch:Int) bits (n:Int)=some 0:=by
  rw[Ke,Uv,if_neg (by simp[Af,As];omega),Bbo hb,Aa,if_neg (by rw[Aq];simp;omega),Aa,if_neg (by simp[Ak,Af];omega),Dc (by rw[Ak];simp;omega),Aa,hq4,if_neg (by rw[As];simp;omega)]
 rw[cadenzaref21_Decode,Ms,hasked,Aa,if_neg (by rw[Ak];simp),Bel,Aa]at h
 by_cases hs:Xd b≠0
 ·rw[if_pos (by rw[Ak];simpa using hs)]at h
  simp only[Aa]at h
  cases h
  exact Bxf b
 have hs0:Xd b=0:=by simpa using hs
 have hlen:=Bok hs0
 have e4:Aj (Ac b) 4=((b.length-4:Nat):Int):=by rw[Ac,Bw (by omega) (by omega)];omega
 rw[if_neg (by rw[Ak,hs0];simp),e4,Cv (by omega) (by omega),Aa,show((b.length-4:Nat):Int).toNat=b.length-4 from rfl]at h
 have hpl:(b.take (b.length-4)).length=b.length-4:=by simp
 generalize b.take (b.length-4)=p at*
 have hr:=Bsi (N:=8*p.length) (p:=p) rfl (by omega) h1 h6 hn
 have hV:=Bs2 ch p (8*p.length) (n*ch) 0 []
 have hat:=Bdf (ch:=ch) (p:=p) (N:=8*p.length) (n*ch) 0 [] (by omega)
 rw[hr,Aa]at h
 generalize Aab ch p (8*p.length) (n*ch) 0 []=V at*
 obtain⟨v,at',er⟩:=V
 simp only at*
 by_cases he:er≠0
 ·rw[if_pos he]at h
  simp only at h
  rw[Gb,Dw,if_pos (by rw[Ak];simpa using he)]at h
  cases h
  exact hV
 have he0:er=0:=by simpa using he
 have hvl:=hat.2.2 he0
 simp only[List.length_nil,Nat.zero_add]at hvl
 rw[if_neg he]at h
 simp only at h
 rw[Gb,Dw]at h
 split at h
 ·cases h
  decide
 ·rw[if_neg (by decide)]at h
  have hm:v.length %ch=0:=by rw[hvl];exact Nat.mul_mod_left n ch
  obtain⟨l',e',g1,g2,g3,g4,g5⟩:=Ayc (v:=v) hb ht h1 h6 (by omega) hm
  rw[g1,Aa,g2,Aa]at h
  have:=Bqf hb g4
  by_cases hl:e'≠0
  ·rw[if_pos hl]at h;cases h;exact this
  ·rw[if_neg hl]at h;cases h;decide
theorem Bio{bits:Int}{ch n:Nat}{t:List Int32}{b:List UInt8}(hb:Cm bits)(ht:t.length=16)(h1:1≤ch)(h6:ch≤6)(n1:1≤n)(n2:n≤4000/ch){l:List Int32}{e:Int}
  (h:cadenzaref21_Decode (ch:Int) bits t (n:Int) b=some (l,e)):0≤e:=(Bjr hb ht h1 h6 n1 n2 h).nn
end Go.Pl
set_option linter.unusedVariables false
set_option linter.unusedSimpArgs false
namespace Go.Pl
open Go Go.Lv
def shI(f c w r n:Int):Bool:=decide ((f=1∨f=2)∧(1≤c∧c≤6)∧(w=8∨w=16∨w=24)∧(1≤r∧r≤1048576)∧1≤n)
theorem Bzi(f c w r n:Int):Rb f c w r n=some (shI f c w r n):=by
 have e2:Nc f c w r n=some (decide ((f=1∨f=2)∧(1≤c∧c≤6)∧(1≤r∧r≤1048576)∧1≤n)):=by
  rw[Nc,Agt]
  congr 1
  rw[Bool.eq_iff_iff]
  simp only[Aq,As,Aro,Bool.and_eq_true,Bool.or_eq_true,beq_iff_eq,decide_eq_true_eq]
  omega
 have g:∀k:Int,geq w k=decide (w=k):=fun k=>by rw[Aq,Bool.eq_iff_iff];simp
 rw[Rb,Zu,e2,g,g,g,shI]
 by_cases h8:w=8
 ·subst h8;simp
 ·by_cases h16:w=16
  ·subst h16;simp
  ·by_cases h24:w=24
   ·subst h24;simp
   ·simp[h8,h16,h24]
theorem Ccw(f c w r n:Int):Gl f c w r n=some (shI f c w r n):=by
 rw[Gl,shI]
 simp only[Aq,Ef,Aro,Bool.and_eq_true,Bool.or_eq_true,beq_iff_eq,decide_eq_true_eq,Bool.false_and]
 split
 ·rename_i h
  congr 1
  rw[Bool.eq_iff_iff]
  simp only[Bool.and_eq_true,Bool.or_eq_true,beq_iff_eq,decide_eq_true_eq]
  omega
 ·rename_i h
  congr 1
  symm
  rw[decide_eq_false_iff_not]
  omega
structure HdI (f c w r n:Int) (F C W R N:Nat):Prop where
 ef:f=F
 ec:c=C
 ew:w=W
 er:r=R
 en:n=N
 shape:shapeB F C W R N=true
 fit:fitB C R N=true
theorem Bwh(f c w r n:Int):(∃F C W R N:Nat,HdI f c w r n F C W R N)∨(Hs f c w r n=some 8∧Cy f c w r n=some ([],8)):=by
 by_cases h:shI f c w r n=true
 ·have h':=h
  simp only[shI,decide_eq_true_eq]at h'
  obtain⟨F,rfl⟩:=Int.eq_ofNat_of_zero_le (show 0≤f by omega)
  obtain⟨C,rfl⟩:=Int.eq_ofNat_of_zero_le (show 0≤c by omega)
  obtain⟨W,rfl⟩:=Int.eq_ofNat_of_zero_le (show 0≤w by omega)
  obtain⟨R,rfl⟩:=Int.eq_ofNat_of_zero_le (show 0≤r by omega)
  obtain⟨N,rfl⟩:=Int.eq_ofNat_of_zero_le (show 0≤n by omega)
  have hs:shapeB F C W R N=true:=by simp only[shapeB,decide_eq_true_eq];omega
  by_cases hf:fitB C R N=true
  ·exact .inl ⟨F,C,W,R,N,rfl,rfl,rfl,rfl,rfl,hs,hf⟩
  ·have hf':fitB C R N=false:=by simpa using hf
   refine .inr ⟨?_,?_⟩
   ·rw[Hs,Axy,Aa,hs,if_neg (by simp),Beq hs,Aa,hf'];rfl
   ·rw[Cy,Up,Auf,Aa,hs,if_neg (by simp),Baw hs,Aa,hf'];rfl
 ·have h':shI f c w r n=false:=by simpa using h
  refine .inr ⟨?_,?_⟩
  ·rw[Hs,Ccw,Aa,h'];rfl
  ·rw[Cy,Up,Bzi,Aa,h'];rfl
theorem HdI.check{f c w r n:Int}{F C W R N:Nat}(h:HdI f c w r n F C W R N):Hs f c w r n=some 0:=by
 obtain⟨rfl,rfl,rfl,rfl,rfl,hs,hf⟩:=h
 rw[Hs,Axy,Aa,hs,if_neg (by simp),Beq hs,Aa,hf];rfl
theorem HdI.Bbd{f c w r n:Int}{F C W R N:Nat}(h:HdI f c w r n F C W R N):Cy f c w r n=some (framesL (longN R) N,0):=by
 obtain⟨rfl,rfl,rfl,rfl,rfl,hs,hf⟩:=h
 exact Bph hs hf
theorem HdI.num{f c w r n:Int}{F C W R N:Nat}(h:HdI f c w r n F C W R N):(F=1∨F=2)∧(1≤C∧C≤6)∧(W=8∨W=16∨W=24)∧(1≤R∧R≤1048576)∧1≤N∧N≤4000/C∧N≤4000∧(N-1)/longN R+1≤1000:=by
 obtain⟨rfl,rfl,rfl,rfl,rfl,hs,hf⟩:=h
 simp only[shapeB,decide_eq_true_eq]at hs
 simp only[fitB,decide_eq_true_eq]at hf
 have hd:4000/C≤4000:=Nat.div_le_self _ _
 omega
theorem HdI.Brs{f c w r n:Int}{F C W R N:Nat}(h:HdI f c w r n F C W R N):Du f c w r n=some (framesL (longN R) N):=by
 have hn:=h.num
 obtain⟨rfl,rfl,rfl,rfl,rfl,hs,hf⟩:=h
 rw[Du,Ayn (by omega) (by omega) (by omega)];rfl
end Go.Pl
set_option linter.unusedVariables false
set_option linter.unusedSimpArgs false
namespace Go.Pl
open Go Go.Lv
section
variable {f c w r n:Nat} (h1:shapeB f c w r n=true) (h2:fitB c r n=true)
include h1 h2
theorem Bju(k:Nat)(hk:k≤(framesL (longN r) n).length):∀(j i q:Nat),i+j=k→j<q→Hz (k:Int) (f:Int) (c:Int) (w:Int) (r:Int) (n:Int) (framesL (longN r) n) q (((framesL (longN r) n).take i).sum) (i:Int)=some (Acx c w (framesL (longN r) n) k)
 |0,i,q+1,hi,_=>by
  obtain⟨hc,hw,hr,hn,_⟩:=Aph h1
  obtain⟨g1,g2,g3⟩:=Aml h1 h2
  have b:=Avv g1 i
  obtain rfl:i=k:=by omega
  have hb:((framesL (longN r) n).take i).sum.toNat*(c*wB (w:Int))≤4000*(6*3):=Nat.mul_le_mul (by omega) (Nat.mul_le_mul hc.2 (Bi6 (w:Int)).2)
  rw[Hz,Pv,if_neg (by rw[Af];simp),Xw,Aia,Fh,Aa]
  simp only
  rw[Aap,Cgi hc.2 hw,Aa,Acx]
  have e:((framesL (longN r) n).take i).sum=((((framesL (longN r) n).take i).sum.toNat:Nat):Int):=by omega
  rw[e,Jl (by rw[←Int.natCast_mul];omega) (by rw[←Int.natCast_mul];omega),←Int.natCast_mul];rfl
 |j+1,i,q+1,hi,hq=>by
  obtain⟨g1,g2,g3⟩:=Aml h1 h2
  have hK:=Bev h2
  have hlt:i<(framesL (longN r) n).length:=by omega
  have b1:=Avv g1 i
  have b2:=Avv g1 (i+1)
  have e:=Abd hlt
  have ih:=Bju k hk j (i+1) q (by omega) (by omega)
  rw[e]at ih
  rw[Hz,Pv,if_pos (by rw[Af];simp;omega),Cl hlt,Aa,Aa,Ah (by omega) (by omega),Ah (by omega) (by omega)]
  exact ih
theorem Bot(k:Nat)(hk:k≤(framesL (longN r) n).length):Qc (f:Int) (c:Int) (w:Int) (r:Int) (n:Int) (k:Int)=some (Acx c w (framesL (longN r) n) k):=by
 have hK:=Bev h2
 obtain⟨g1,g2,g3⟩:=Aml h1 h2
 obtain⟨hc,hw,hr,hn,_⟩:=Aph h1
 have h:=Bju h1 h2 k hk k 0 FUEL (by omega) (by have:=Ap;omega)
 rw[List.take_zero,List.sum_nil]at h
 rw[Qc,Zf,Du,Ayn hr.2 hn g3,Aa,Aa]
 exact h
theorem Bp3{i:Nat}(hlt:i<(framesL (longN r) n).length):Ae (Acx c w (framesL (longN r) n) i) (Cp (Bj (Bj ((framesL (longN r) n)[i]) (c:Int)) (w:Int)) 8)=Acx c w (framesL (longN r) n) (i+1):=by
 obtain⟨hc,hw,hr,hn,_⟩:=Aph h1
 obtain⟨g1,g2,g3⟩:=Aml h1 h2
 have b1:=Avv g1 i
 have b2:=Avv g1 (i+1)
 have e:=Abd hlt
 have h0:=g1 _ (List.getElem_mem hlt)
 have e2:(framesL (longN r) n)[i]=(((framesL (longN r) n)[i].toNat:Nat):Int):=by omega
 have hb:((framesL (longN r) n).take (i+1)).sum.toNat*(c*wB (w:Int))≤4000*(6*3):=Nat.mul_le_mul (by omega) (Nat.mul_le_mul hc.2 (Bi6 (w:Int)).2)
 rw[e2,Cf6 (by omega) hc.2 hw,Acx,Acx]
 have e3:((framesL (longN r) n).take (i+1)).sum.toNat=((framesL (longN r) n).take i).sum.toNat+(framesL (longN r) n)[i].toNat:=by omega
 rw[e3,Nat.add_mul]at hb⊢
 rw[Ah (by omega) (by omega)]
 omega
theorem Bjp(a:Nat)(ha:a≤(framesL (longN r) n).length)(o p:LB)(m:LI)(a':Int)(N:LB)(u:Bool)(v:Int):∀(j i q:Nat),i+j=a→j<q→
  Pj ((framesL (longN r) n).take a) o p (f:Int) (c:Int) (w:Int) (r:Int) (n:Int) m a' N u v q (Acx c w (framesL (longN r) n) i) (i:Int)=some (gle (Ac N) (Acx c w (framesL (longN r) n) a))
 |0,i,q+1,hi,_=>by
  obtain rfl:i=a:=by omega
  rw[Pj,Abp,if_neg (by rw[Af,Ac,List.length_take];simp;omega),Aik,Aru]
 |j+1,i,q+1,hi,hq=>by
  have hK:=Bev h2
  have hlt:i<(framesL (longN r) n).length:=by omega
  have hlt2:i<((framesL (longN r) n).take a).length:=by rw[List.length_take];omega
  have ih:=Bjp a ha o p m a' N u v j (i+1) q (by omega) (by omega)
  rw[Pj,Abp,if_pos (by rw[Af,Ac];simp;omega),Cl hlt2,Aa,List.getElem_take,Bp3 h1 h2 hlt,Ah (by omega) (by omega)]
  exact ih
end
end Go.Pl
set_option linter.unusedVariables false
set_option linter.unusedSimpArgs false
namespace Go.Pl
open Go Go.Lv
theorem Bdj{α:Type}(l:List α):geq (Ac l) 0=decide (l=[]):=by
 cases l with
 |nil=>rfl
 |cons x l=>rw[Aq,Ac,List.length_cons,decide_eq_false (by simp),beq_eq_false_iff_ne];omega
theorem Blh{α:Type}(l:List α):Ee (Ac l) 0=decide (l≠ []):=by
 cases l with
 |nil=>rfl
 |cons x l=>rw[As,Ac,List.length_cons,decide_eq_true (by simp)];simp
inductive FitD (o:LB) (f c w r n:Int) (g:LI) (a:Int) (x:LB):Prop
 |new:f=0→c=0→w=0→r=0→n=0→g=[]→a=0→x=[]→FitD o f c w r n g a x
 |head (F C W R N:Nat):HdI f c w r n F C W R N→(o==([]:LB))=decide (F=1)→g=[]→a=0→x=[]→FitD o f c w r n g a x
 |tab (F C W R N A:Nat):HdI f c w r n F C W R N→(o==([]:LB))=decide (F=1)→tabB g=true→g.length=(framesL (longN R) N).length→a=A→A≤g.length→FitD o f c w r n g a x
theorem Bq5(f c w r n:Int)(o:LB):Nq f c w r n o=Dh f c w r n o:=rfl
theorem Bqc(o p:LB)(f c w r n:Int)(g:LI)(a:Int)(x:LB)(u:Bool)(v:Int):
  (Zw o p f c w r n g a x u v=some false∧Hr o p f c w r n g a x u v=some false)∨
  (Zw o p f c w r n g a x u v=some true∧Hr o p f c w r n g a x u v=Bf o p f c w r n g a x u v∧FitD o f c w r n g a x):=by
 rw[Zw,Ai6,Hr,Oc]
 by_cases hz:f=0∧c=0∧w=0∧r=0∧n=0
 ·obtain⟨rfl,rfl,rfl,rfl,rfl⟩:=hz
  rw[if_pos (by decide),if_pos (by decide),Bdj,Bdj,Blh,Blh]
  by_cases h:g=[]∧a=0∧x=[]
  ·obtain⟨rfl,rfl,rfl⟩:=h
   exact .inr ⟨rfl,by rw[if_neg (by decide)], .new rfl rfl rfl rfl rfl rfl rfl rfl⟩
  ·refine .inl ⟨?_,?_⟩
   ·congr 1
    rw[Bool.eq_false_iff]
    intro e
    simp only[Bool.and_eq_true,decide_eq_true_eq,Aq,beq_iff_eq]at e
    exact h ⟨e.1.1,e.1.2,e.2⟩
   ·rw[if_pos]
    simp only[Bool.or_eq_true,decide_eq_true_eq,Ak,bne_iff_ne]
    by_cases e1:g=[]
    ·by_cases e2:a=0
     ·exact .inr fun e3=>h ⟨e1,e2,e3⟩
     ·exact .inl (.inr e2)
    ·exact .inl (.inl e1)
 ·have hz2:¬(((geq f 0)&&((geq c 0)&&((geq w 0)&&((geq r 0)&&((geq n 0)&&true)))))=true):=by
   simp only[Bool.and_eq_true,Aq,beq_iff_eq,and_true]
   exact hz
  rw[if_neg hz2,if_neg hz2]
  rcases Bwh f c w r n with⟨F,C,W,R,N,h⟩|⟨e1,e2⟩
  ·rw[h.Bbd,h.check,Aa,Aa,Bq5]
   simp only
   rw[if_neg (by decide),if_neg (by decide),Dh]
   have hf:geq f 1=decide (F=1):=by rw[h.ef,Aq,Bool.eq_iff_iff];simp;omega
   rw[hf]
   by_cases hp:(o==([]:LB))=decide (F=1)
   ·rw[if_neg (by rw[hp];simp),Aa,Aa,if_neg (by decide),if_neg (by decide),Ai2,Ai3,Jq,Ju,Bdj,Bdj,Blh]
    by_cases hg:g=[]
    ·subst hg
     rw[if_pos (by simp),if_pos (by simp)]
     by_cases h':a=0∧x=[]
     ·obtain⟨rfl,rfl⟩:=h'
      exact .inr ⟨rfl,by rw[if_neg (by decide)], .head F C W R N h hp rfl rfl rfl⟩
     ·refine .inl ⟨?_,?_⟩
      ·congr 1
       rw[Bool.eq_false_iff]
       intro e
       simp only[Bool.and_eq_true,decide_eq_true_eq,Aq,beq_iff_eq]at e
       exact h' e
      ·rw[if_pos]
       simp only[Bool.or_eq_true,decide_eq_true_eq,Ak,bne_iff_ne]
       by_cases e2:a=0
       ·exact .inr fun e3=>h' ⟨e2,e3⟩
       ·exact .inl e2
    ·rw[if_neg (by simpa using hg),if_neg (by simpa using hg),Asq,Aoq,Aa,Aa]
     by_cases ht:tabB g=true
     ·rw[if_pos ht,h.Brs]
      simp only[Aa]
      by_cases hl:g.length=(framesL (longN R) N).length∧0≤a∧a≤g.length
      ·obtain⟨hl,ha0,ha1⟩:=hl
       obtain⟨A,rfl⟩:=Int.eq_ofNat_of_zero_le ha0
       have hA:A≤(framesL (longN R) N).length:=by omega
       rw[if_neg (by simp[Ak,Af,As,Ac];omega),if_neg (by decide),if_neg (by simp[Ak,Af,As,Ac];omega),Cv (by omega) (by omega),Aa,Aiu]
       have hh:=h
       clear hf
       obtain⟨rfl,rfl,rfl,rfl,rfl,hs,hf⟩:=hh
       have hlp:=Bjp hs hf A hA o p g (A:Int) x u v A 0 FUEL (by omega) (by have:=Ap;have:=Bev hf;omega)
       have h0:Acx C W (framesL (longN R) N) 0=0:=by rw[Acx,List.take_zero,List.sum_nil];simp
       rw[h0,show((0:Nat):Int)=0 from rfl]at hlp
       rw[show((A:Int)).toNat=A from rfl,hlp,Bot hs hf A hA,Aa]
       by_cases hx:(x.length:Int)≤Acx C W (framesL (longN R) N) A
       ·refine .inr ⟨?_,?_, .tab F C W R N A h hp ht hl rfl (by omega)⟩
        ·rw[Aro,Ac,decide_eq_true hx]
        ·rw[if_neg (by rw[As,Ac];simp;omega)]
       ·refine .inl ⟨?_,?_⟩
        ·rw[Aro,Ac,decide_eq_false hx]
        ·rw[if_pos (by rw[As,Ac];simp;omega)]
      ·refine .inl ⟨?_,?_⟩
       ·rw[if_pos (by simp[Ak,Af,As,Ac];omega)]
       ·rw[if_neg (by decide),if_pos (by simp[Ak,Af,As,Ac];omega)]
     ·refine .inl ⟨?_,?_⟩
      ·rw[if_neg ht,if_pos (by simp[Ak])]
      ·rw[if_neg ht,if_pos (by decide),if_pos (by simp)]
   ·rw[if_pos (by simpa using hp),Aa,Aa,if_pos (by decide),if_pos (by decide)]
    exact .inl ⟨rfl,rfl⟩
  ·rw[e1,e2,Aa,Aa]
   simp only
   rw[if_pos (by decide),if_pos (by decide)]
   exact .inl ⟨rfl,rfl⟩
end Go.Pl
set_option linter.unusedVariables false
set_option linter.unusedSimpArgs false
namespace Go.Pl
open Go Go.Lv
theorem Bxn(b:List UInt8)(n:Int):Cd (Apd b n).2:=by
 unfold Apd
 repeat' split
 all_goals first|decide|exact .inl rfl
theorem Cao(b:List UInt8):(Aaj b).2=6∨Cd (Aaj b).2:=by
 unfold Aaj Bb0
 repeat' split
 all_goals first|exact .inl rfl|exact .inr (Bxn _ _)|exact .inr (by decide)
theorem Buu(b:List UInt8):(Jm b).2=6∨Cd (Jm b).2:=by
 unfold Jm
 repeat' split
 all_goals first|exact .inl rfl|exact .inr (.inl rfl)|exact .inr (by decide)
theorem By9(b:List UInt8):(Cb b).2=6∨Cd (Cb b).2:=by
 unfold Cb
 split
 ·exact Cao b
 ·exact Buu b
theorem Bjw(b:List UInt8):∀(j p:Nat),p≤b.length→b.length<j+p→Cd (Bs b j p).2
 |0,p,h1,h2=>by omega
 |j+1,p,h1,h2=>by
  rw[Bs]
  split
  ·exact .inl rfl
  ·rename_i h6
   split
   ·exact(By9 _).resolve_left h6
   ·rename_i h0
    split
    ·exact(by decide:Cd 4)
    ·have hz:Cb (b.drop p)=((Cb (b.drop p)).1,0):=by rw[Prod.ext_iff];exact⟨rfl,by simpa using h0⟩
     obtain⟨k1,k2⟩:=Aux hz
     rw[List.length_drop]at k2
     split
     ·exact .inl rfl
     ·exact Bjw b j _ (by omega) (by omega)
theorem Bak(b:List UInt8):Cd (frontS b).2:=by
 unfold frontS Bid
 split
 ·exact .inl rfl
 ·exact Bjw b _ _ (by omega) (by omega)
theorem Bit(b:List UInt8):0≤(frontS b).2:=(Bak b).nn
theorem Bhx(b:List UInt8):Cd (readS b).2.2.2.2.2:=by
 unfold readS
 repeat' split
 all_goals first|decide|exact .inl rfl
theorem Bmj(b:List UInt8):0≤(readS b).2.2.2.2.2:=(Bhx b).nn
theorem Bxr(b:List UInt8){n:Nat}(h:1≤n∧n≤1000):Cd (seekS b n).2:=by
 unfold seekS
 rw[if_neg (fun e=>e h)]
 repeat' split
 all_goals first|decide|exact .inl rfl
theorem Bpf(b:List UInt8)(n:Nat):0≤(seekS b n).2:=by
 unfold seekS
 repeat' split
 all_goals simp
def ID3:List UInt8:=[73,68,51]
def APX:List UInt8:=[65,80,69,84,65,71,69,88]
def Rz(b s:List UInt8):Bool:=decide (b.length<s.length)&&(b==s.take b.length)
theorem Bjy(b s:List UInt8):Me b s=some (Rz b s):=by
 rw[Me,Rz]
 by_cases h:b.length<s.length
 ·rw[if_pos (by rw[Af,Ac,Ac];simp;omega),Ac,Cv (by omega) (by omega),Aa,decide_eq_true h,Bool.true_and];rfl
 ·rw[if_neg (by rw[Af,Ac,Ac];simp;omega),decide_eq_false h];rfl
theorem Bzl(b s:List UInt8)(h:b.length<s.length):Ih s b=some (Rz b s):=by
 rw[Ih,Fy,if_pos (by rw[Ef,Ac,Ac];simp;omega),Ac,Cv (by omega) (by omega),Aa,Aa,Rz,decide_eq_true h,Bool.true_and,Int.toNat_natCast]
 congr 1
 rw[Bool.eq_iff_iff,beq_iff_eq,beq_iff_eq]
 exact eq_comm
theorem Avu{b s:List UInt8}(h:¬b.length<s.length):Rz b s=false:=by rw[Rz,decide_eq_false h];rfl
theorem Bw4(b:List UInt8):Pq b=some (Rz b ID3||Rz b APX):=by
 obtain⟨q,hq⟩:∃q,FUEL=q+3:=⟨FUEL-3,by have:=Ap;omega⟩
 have l3:Jf b (q+1) 2=some false:=by rw[Jf,Vf,if_neg (by decide)];rfl
 have l2:Jf b (q+2) 1=some (Rz b APX):=by
  rw[Jf,Vf,if_pos (by decide),show getI ([([73,68,51]:LB),([65,80,69,84,65,71,69,88]:LB)]:List LB) 1=some APX from rfl,Aa,show Ae (1:Int) 1=2 from rfl]
  by_cases h:b.length<APX.length
  ·rw[if_pos (by rw[Af,Ac,Ac];simp;omega),Bzl b APX h,Aa]
   by_cases hb:Rz b APX=true
   ·rw[if_pos hb,hb]
   ·rw[if_neg hb,l3];simpa using hb
  ·rw[if_neg (by rw[Af,Ac,Ac];simp;omega),l3,Avu h]
 rw[Pq,Aix,Ai5,hq,Jf,Vf,if_pos (by decide),show getI ([([73,68,51]:LB),([65,80,69,84,65,71,69,88]:LB)]:List LB) 0=some ID3 from rfl,Aa,show Ae (0:Int) 1=1 from rfl]
 by_cases h:b.length<ID3.length
 ·rw[if_pos (by rw[Af,Ac,Ac];simp;omega),Bzl b ID3 h,Aa]
  by_cases hb:Rz b ID3=true
  ·rw[if_pos hb,hb];rfl
  ·rw[if_neg hb,l2,Bool.eq_false_iff.2 hb];rfl
 ·rw[if_neg (by rw[Af,Ac,Ac];simp;omega),l2,Avu h];rfl
def stS(b:List UInt8):Int×Int×Int×Int×Int×Int×Int:=
 if(frontS b).2=24 then(0,0,0,0,0,0, -1)else if(frontS b).2≠0 then(0,0,0,0,0,0,(frontS b).2)else
 if(Rz (hdr b) ID3||Rz (hdr b) APX)=true then(0,0,0,0,0,0, -1)else
 if(readS (hdr b)).2.2.2.2.2=24 then(0,0,0,0,0,0, -1)else((frontS b).1+22,(readS (hdr b)).1,(readS (hdr b)).2.1,(readS (hdr b)).2.2.1,(readS (hdr b)).2.2.2.1,(readS (hdr b)).2.2.2.2.1,(readS (hdr b)).2.2.2.2.2)
theorem Abw(b:List UInt8)(hb:b.length≤100000):Ld b=some (stS b):=by
 rw[Ld,Tc,Aql b (by omega),Aa,stS]
 have hok:=Aj9 (b:=b)
 simp only
 by_cases h1:(frontS b).2=24
 ·rw[if_pos (by rw[Aq];simpa using h1),if_pos h1]
 rw[if_neg (by rw[Aq];simpa using h1),if_neg h1]
 by_cases h2:(frontS b).2≠0
 ·rw[if_pos (by rw[Ak];simpa using h2),if_pos h2]
 have h0:(frontS b).2=0:=by simpa using h2
 obtain⟨k1,k2,k3⟩:=hok h0
 rw[if_neg (by rw[Ak,h0];simp),if_neg h2,Cw (by omega) (by omega),Aa,Bjy,Aa,show b.drop (frontS b).1.toNat=hdr b from rfl,show([73,68,51]:LB)=ID3 from rfl,show([65,80,69,84,65,71,69,88]:LB)=APX from rfl]
 by_cases h3:Rz (hdr b) ID3=true
 ·rw[if_pos h3,h3,Bool.true_or,if_pos rfl]
 rw[if_neg h3,Bjy,Aa,Bool.eq_false_iff.2 h3,Bool.false_or]
 by_cases h4:Rz (hdr b) APX=true
 ·rw[if_pos h4,if_pos h4]
 have hl:(hdr b).length≤b.length:=by rw[hdr,List.length_drop];omega
 rw[if_neg h4,if_neg h4,Td,Ac7,Bf0 _ (by omega),Aa]
 simp only
 by_cases h5:(readS (hdr b)).2.2.2.2.2=24
 ·rw[if_pos (by rw[Aq];simpa using h5),if_pos h5]
 ·rw[if_neg (by rw[Aq];simpa using h5),if_neg h5,Ah (by omega) (by omega)]
end Go.Pl
set_option linter.unusedVariables false
set_option linter.unusedSimpArgs false
namespace Go.Pl
open Go Go.Lv
theorem Mh{p q:LB}{n:Nat}(h:n≤p.length):(p++q).take n=p.take n:=by rw[List.take_append_of_le_length h]
theorem Aye{p q:LB}{i:Nat}(h:i<p.length):(p++q).getD i 0=p.getD i 0:=by
 rw[List.getD_eq_getElem?_getD,List.getElem?_append_left h,←List.getD_eq_getElem?_getD]
theorem Pn{p q:LB}{a w:Nat}(h:a+w≤p.length):part (p++q) a w=part p a w:=by rw[part,Mh h,part]
theorem Bya{p q s:LB}(h:Rz p s=false)(hl:p.length<s.length):(p++q).take s.length≠s:=by
 intro e
 rw[Rz,decide_eq_true hl,Bool.true_and]at h
 have h1:p=s.take p.length:=by
  have:=congrArg (List.take p.length) e
  rw[List.take_take,Nat.min_eq_left (by omega),Mh (Nat.le_refl _),List.take_length]at this
  exact this
 rw[←h1]at h
 simp at h
theorem Bjm{p:LB}(q:LB)(h:(Aaj p).2≠24)(h6:Rz p ID3=false):Aaj (p++q)=Aaj p:=by
 unfold Aaj at h⊢
 by_cases h3:3≤p.length∧p.take 3=[73,68,51]
 ·have h3':3≤(p++q).length∧(p++q).take 3=[73,68,51]:=⟨by rw[List.length_append];omega,by rw[Mh h3.1];exact h3.2⟩
  have n1:¬ ¬(3≤p.length∧p.take 3=[73,68,51]):=fun f=>f h3
  have n2:¬ ¬(3≤(p++q).length∧(p++q).take 3=[73,68,51]):=fun f=>f h3'
  rw[if_neg n1]at h
  rw[if_neg n1,if_neg n2]
  by_cases h10:p.length<10
  ·rw[if_pos h10]at h;exact absurd rfl h
  ·have h10':¬(p++q).length<10:=by rw[List.length_append];omega
   rw[if_neg h10]at h
   rw[if_neg h10,if_neg h10',Pn (by omega),Aye (by omega),Aye (by omega),Aye (by omega)]
   split
   ·rfl
   ·rename_i hc
    rw[if_neg hc]at h
    unfold Bb0 Apd at h⊢
    rw[Aye (by omega)]
    generalize(Aom (part p 6 4) 0).1+10+(if p.getD 5 0=16 then 10 else 0)=n at h⊢
    by_cases c1:4000<n
    ·rw[if_pos c1,if_pos c1]
    ·rw[if_neg c1]at h
     rw[if_neg c1,if_neg c1]
     by_cases c2:(p.length:Int)<n
     ·rw[if_pos c2]at h;exact absurd rfl h
     ·have c2':¬((p++q).length:Int)<n:=by rw[List.length_append];omega
      rw[if_neg c2,if_neg c2',Mh (by omega),Pn (by omega)]
 ·rw[if_pos h3,if_pos]
  rintro⟨_,h5⟩
  by_cases hl:3≤p.length
  ·rw[Mh hl]at h5;exact h3 ⟨hl,h5⟩
  ·exact Bya h6 (by simp[ID3];omega) h5
theorem Bqk{p:LB}(q:LB)(h:(Jm p).2≠24)(h6:Rz p APX=false):Jm (p++q)=Jm p:=by
 unfold Jm at h⊢
 by_cases h3:8≤p.length∧p.take 8=APE
 ·have h3':8≤(p++q).length∧(p++q).take 8=APE:=⟨by rw[List.length_append];omega,by rw[Mh h3.1];exact h3.2⟩
  have n1:¬ ¬(8≤p.length∧p.take 8=APE):=fun f=>f h3
  have n2:¬ ¬(8≤(p++q).length∧(p++q).take 8=APE):=fun f=>f h3'
  rw[if_neg n1]at h
  rw[if_neg n1,if_neg n2]
  by_cases h10:p.length<32
  ·rw[if_pos h10]at h;exact absurd rfl h
  ·have h10':¬(p++q).length<32:=by rw[List.length_append];omega
   have eb:Adb (p++q)=Adb p:=by rw[Adb,Adb,Pn (by omega),Pn (by omega)]
   rw[if_neg h10]at h
   rw[if_neg h10,if_neg h10',Pn (by omega),Pn (by omega),eb,Mh (n:=32) (by omega)]
   split
   ·rfl
   ·rename_i hc
    rw[if_neg hc]at h
    by_cases c2:p.length<Eg (part p 12 4)+32
    ·rw[if_pos c2]at h;exact absurd rfl h
    ·have c2':¬(p++q).length<Eg (part p 12 4)+32:=by rw[List.length_append];omega
     rw[if_neg c2,if_neg c2',Mh (by omega)]
 ·rw[if_pos h3,if_pos]
  rintro⟨_,h5⟩
  by_cases hl:8≤p.length
  ·rw[Mh hl]at h5;exact h3 ⟨hl,h5⟩
  ·exact Bya h6 (by simp[APX];omega) h5
theorem Bam{p:LB}(q:LB)(h:(Cb p).2≠24)(h6:(Cb p).2=6→Rz p ID3=false∧Rz p APX=false):Cb (p++q)=Cb p:=by
 have beg8:∀s:LB,s.length≤p.length→Rz p s=false:=fun s hs=>Avu (by omega)
 unfold Cb at h h6⊢
 by_cases hT:(Aaj p).2≠6
 ·rw[if_pos hT]at h⊢
  have h3:Rz p ID3=false:=by
   refine beg8 _ ?_
   unfold Aaj at hT
   by_cases h3:3≤p.length∧p.take 3=[73,68,51]
   ·simp[ID3];omega
   ·rw[if_pos h3]at hT;exact absurd rfl hT
  rw[Bjm q h h3,if_pos hT]
 ·rw[if_neg hT]at h h6⊢
  have hb:Rz p ID3=false∧Rz p APX=false:=by
   by_cases hA:(Jm p).2=6
   ·exact h6 hA
   ·unfold Jm at hA
    by_cases h3:8≤p.length∧p.take 8=APE
    ·exact⟨beg8 _ (by simp[ID3];omega),beg8 _ (by simp[APX];omega)⟩
    ·rw[if_pos h3]at hA;exact absurd rfl hA
  have hT':¬(Aaj (p++q)).2≠6:=by
   rw[Bjm q (by simp only[ne_eq,Classical.not_not]at hT;rw[hT];decide) hb.1];exact hT
  rw[if_neg hT',Bqk q h hb.2]
theorem Bfy{p:LB}(q:LB):∀(j s j':Nat),s≤p.length→p.length-s<j→p.length+q.length-s<j'→(Bs p j s).2≠24→
  ((Bs p j s).2=0→Rz (p.drop (s+(Bs p j s).1.sum.toNat)) ID3=false∧Rz (p.drop (s+(Bs p j s).1.sum.toNat)) APX=false)→Bs (p++q) j' s=Bs p j s
 |0,s,j',_,hj,_,_,_=>absurd hj (Nat.not_lt_zero _)
 |j+1,s,0,_,_,hj,_,_=>absurd hj (Nat.not_lt_zero _)
 |j+1,s,j'+1,hs,hj,hj',h,hb=>by
  have ed:(p++q).drop s=p.drop s++q:=List.drop_append_of_le_length hs
  rw[Bs]at h hb⊢
  rw[Bs,ed]
  by_cases h6:(Cb (p.drop s)).2=6
  ·rw[if_pos h6]at h hb⊢
   have hb':=hb rfl
   simp only[List.sum_nil,Int.toNat_zero,Nat.add_zero]at hb'
   rw[Bam q (by rw[h6];decide) (fun _=>hb'),if_pos h6]
  ·rw[if_neg h6]at h hb⊢
   by_cases h0:(Cb (p.drop s)).2≠0
   ·rw[if_pos h0]at h⊢
    rw[Bam q h (fun e=>absurd e h6),if_neg h6,if_pos h0]
   ·rw[if_neg h0]at h hb⊢
    have h0':(Cb (p.drop s)).2=0:=by simpa using h0
    have e1:Cb (p.drop s++q)=Cb (p.drop s):=Bam q (by rw[h0'];decide) (fun e=>absurd e h6)
    rw[e1,if_neg h6,if_neg h0]
    have hok:=Aux (b:=p.drop s) (n:=(Cb (p.drop s)).1) (by rw[←h0'])
    rw[List.length_drop]at hok
    by_cases hm:4000<(s:Int)+(Cb (p.drop s)).1
    ·rw[if_pos hm,if_pos hm]
    ·rw[if_neg hm]at h hb⊢
     rw[if_neg hm]
     have hl1:s+(Cb (p.drop s)).1.toNat≤p.length:=by omega
     have ih:=Bfy (p:=p) q j (s+(Cb (p.drop s)).1.toNat) j' hl1 (by omega) (by omega)
     by_cases hr:(Bs p j (s+(Cb (p.drop s)).1.toNat)).2=0
     ·rw[if_pos hr]at hb⊢
      have hle1:s+(Cb (p.drop s)).1.toNat≤p.length:=by omega
      have hle2:s+(Cb (p.drop s)).1.toNat≤4000:=by omega
      have hi:=(Avc p j (s+(Cb (p.drop s)).1.toNat) hle1 hle2 hr).1
      have hsum:(0:Int)≤(Bs p j (s+(Cb (p.drop s)).1.toNat)).1.sum:=by
       have:∀l:List Int,(∀x∈l,10≤x)→0≤l.sum:=by
        intro l
        induction l with
        |nil=>intro _;simp
        |cons a l ih=>intro h;rw[List.sum_cons];have:=h a (by simp);have:=ih (fun x hx=>h x (by simp[hx]));omega
       exact this _ hi
      rw[ih (by rw[hr];decide) (fun _=>by
       have:=hb rfl
       simp only[List.sum_cons]at this
       rw[show s+((Cb (p.drop s)).1+(Bs p j (s+(Cb (p.drop s)).1.toNat)).1.sum).toNat=s+(Cb (p.drop s)).1.toNat+(Bs p j (s+(Cb (p.drop s)).1.toNat)).1.sum.toNat by omega]at this
       exact this),if_pos hr]
     ·rw[if_neg hr]at h⊢
      rw[ih h (fun e=>absurd e hr),if_neg hr]
theorem Bg8{p:LB}(q:LB)(h:(frontS p).2≠24)(hb:(frontS p).2=0→Rz (hdr p) ID3=false∧Rz (hdr p) APX=false):frontS (p++q)=frontS p:=by
 have key:Bs (p++q) ((p++q).length+1) 0=Bs p (p.length+1) 0:=by
  refine Bfy q (p.length+1) 0 ((p++q).length+1) (Nat.zero_le _) (by omega) (by rw[List.length_append];omega) ?_ ?_
  ·unfold frontS Bid at h
   by_cases h0:(Bs p (p.length+1) 0).2=0
   ·rw[h0];decide
   ·rw[if_neg h0]at h;exact h
  ·intro h0
   have e:frontS p=(((0:Nat):Int)+(Bs p (p.length+1) 0).1.sum,0):=by unfold frontS Bid;rw[if_pos h0]
   have:=hb (by rw[e])
   rw[hdr,e]at this
   simpa using this
 unfold frontS Bid
 rw[key]
theorem Bu4{p:LB}(q:LB)(h:(readS p).2.2.2.2.2≠24):readS (p++q)=readS p:=by
 unfold readS at h⊢
 by_cases h1:p.take (min 4 p.length)≠Auz.take (min 4 p.length)
 ·have h1':(p++q).take (min 4 (p++q).length)≠Auz.take (min 4 (p++q).length):=by
   intro e
   have hle:min 4 p.length≤min 4 (p++q).length:=by rw[List.length_append];omega
   have:=congrArg (List.take (min 4 p.length)) e
   rw[List.take_take,List.take_take,Nat.min_eq_left hle,Mh (by omega)]at this
   exact h1 this
  rw[if_pos h1,if_pos h1']
 ·rw[if_neg h1]at h
  by_cases h2:p.length<22
  ·rw[if_pos h2]at h;exact absurd rfl h
  ·have h2':¬(p++q).length<22:=by rw[List.length_append];omega
   have h1':¬(p++q).take (min 4 (p++q).length)≠Auz.take (min 4 (p++q).length):=by
    rw[Nat.min_eq_left (by omega)]at h1⊢
    rw[Mh (by omega)];exact h1
   have e0:f0 (p++q)=f0 p:=by unfold f0;rw[Pn (by omega)]
   have e1:f1 (p++q)=f1 p:=by unfold f1;rw[Pn (by omega)]
   have e2:f2 (p++q)=f2 p:=by unfold f2;rw[Pn (by omega)]
   have e3:f3 (p++q)=f3 p:=by unfold f3;rw[Pn (by omega)]
   have e4:f4 (p++q)=f4 p:=by unfold f4;rw[Pn (by omega)]
   rw[if_neg h1,if_neg h1',if_neg h2,if_neg h2',e0,e1,e2,e3,e4,Mh (by omega),Pn (by omega)]
theorem Cb3{p:LB}(q:LB)(h:(stS p).2.2.2.2.2.2≠ -1):stS (p++q)=stS p:=by
 unfold stS at h⊢
 by_cases h1:(frontS p).2=24
 ·rw[if_pos h1]at h;exact absurd rfl h
 rw[if_neg h1]at h
 by_cases h2:(frontS p).2≠0
 ·rw[Bg8 q h1 (fun e=>absurd e h2),if_neg h1,if_pos h2,if_neg h1,if_pos h2]
 rw[if_neg h2]at h
 have h0:(frontS p).2=0:=by simpa using h2
 by_cases h3:(Rz (hdr p) ID3||Rz (hdr p) APX)=true
 ·rw[if_pos h3]at h;exact absurd rfl h
 rw[if_neg h3]at h
 have h3f:Rz (hdr p) ID3=false∧Rz (hdr p) APX=false:=by
  simp only[Bool.not_eq_true,Bool.or_eq_false_iff]at h3;exact h3
 have eF:=Bg8 q h1 (fun _=>h3f)
 obtain⟨k1,k2,k3⟩:=Aj9 h0
 have eH:hdr (p++q)=hdr p++q:=by rw[hdr,eF,hdr,List.drop_append_of_le_length (by omega)]
 by_cases h5:(readS (hdr p)).2.2.2.2.2=24
 ·rw[if_pos h5]at h;exact absurd rfl h
 have eR:readS (hdr p++q)=readS (hdr p):=Bu4 q h5
 have beg:∀s:LB,Rz (hdr p) s=false→(s=ID3∨s=APX)→Rz (hdr p++q) s=false:=by
  intro s hs hk
  by_cases hl:(hdr p++q).length<s.length
  ·have hp:(hdr p).length<s.length:=by rw[List.length_append]at hl;omega
   rw[Rz,decide_eq_true hp,Bool.true_and]at hs
   rw[Rz,decide_eq_true hl,Bool.true_and]
   refine beq_eq_false_iff_ne.2 fun e=>?_
   have:=congrArg (List.take (hdr p).length) e
   rw[Mh (Nat.le_refl _),List.take_length,List.take_take,Nat.min_eq_left (by rw[List.length_append];omega)]at this
   rw[←this]at hs
   simp at hs
  ·exact Avu hl
 rw[eF,eH,eR,if_neg h1,if_neg h2,beg _ h3f.1 (.inl rfl),beg _ h3f.2 (.inr rfl),if_neg (by decide),if_neg h5,if_neg h1,if_neg h2,if_neg h3]
theorem Bv9{p:LB}(q:LB)(n:Nat)(h:(seekS p n).2≠24):seekS (p++q) n=seekS p n:=by
 unfold seekS at h⊢
 by_cases h1:1≤n∧n≤1000
 ·have n1:¬ ¬(1≤n∧n≤1000):=fun f=>f h1
  rw[if_neg n1]at h
  rw[if_neg n1,if_neg n1]
  by_cases h2:p.length<4*n+4
  ·rw[if_pos h2]at h;exact absurd rfl h
  ·have h2':¬(p++q).length<4*n+4:=by rw[List.length_append];omega
   have et:Aj6 (p++q) n=Aj6 p n:=by
    unfold Aj6
    refine List.map_congr_left fun i hi=>?_
    rw[List.mem_range]at hi
    rw[Pn (by omega)]
   rw[if_neg h2,if_neg h2',Mh (by omega),Pn (by omega),et]
 ·rw[if_pos h1,if_pos h1]
end Go.Pl
set_option linter.unusedVariables false
set_option linter.unusedSimpArgs false
namespace Go.Pl
open Go Go.Lv
def Bq8(g a:LB)(k p o u v:Int)(f:LI)(b:Int)(h:LB)(m:Bool)(n:Int):Option Int:=
if(geq k 0)then
(Jg a).bind fun(al,ba)=>
if(geq ba 24)then
Dq true 0
else
if(Ay ba 0)then
(Ag ba).bind fun(bx,bz)=>
Dq bx bz
else
(Az a al (Ac a)).bind fun da=>
(Pq da).bind fun an=>
if an then
Dq true 0
else
(Az a al (Ac a)).bind fun db=>
(Mz db).bind fun(ae,af,aa,ag,ab,bb)=>
if(geq bb 24)then
Dq true 0
else
if(Ay bb 0)then
(Ag bb).bind fun(dc,dd)=>
Dq dc dd
else
(
(Az a (Ae al 22) (Ac a)).bind fun ak=>
(
Xb g ak ae af aa ag ab b m n f h))
else
if(geq (Ac f) 0)then
if(geq k 2)then
if(Cc (Ac a) 8)then
Il true 0
else
Xs g a k p o u v b m n f h
else
Ii g a k p o u v b m n f h 0
else
if(Cc b (Ac f))then
(getI f b).bind fun _=>
(getI f b).bind fun w=>
if(Cc (Ac a) w)then
Gn true 0
else
(Tj g).bind fun(ap,am)=>
if(Ay am 0)then
(Ag am).bind fun(de,df)=>
Gn de df
else
(Cy k p o u v).bind fun(ad,dg)=>
if((Ay dg 0)||(Ni b (Ac ad)))then
(Ag 8).bind fun(dh,di)=>
Gn dh di
else
Wx w g a k p o u v b m n ap ad f h
else
if(Ee (Ac a) 4000)then
(Ag 38).bind fun(dj,bf)=>
Bb ((dj==true)&&((geq bf 0)&&true))
else
Xm
theorem Axl(d:Bool)(e:Int):Dq d e=Bb (d&&geq e 0):=by
 rw[Dq,Aem];cases d<;>simp
theorem Bes(d:Bool)(e:Int):Il d e=Bb (d&&geq e 0):=by
 rw[Il,Adt];cases d<;>simp
theorem Brp(d:Bool)(e:Int):Gn d e=Bb (d&&geq e 0):=by
 rw[Gn,Adp];cases d<;>simp
theorem rp4{o p:LB}{f c w r n:Int}{g:LI}{a:Int}{x:LB}{u:Bool}{v:Int}{t1 t2:LB}{t3 t4 t5 t6 t7:Int}{t8:LI}{t9:Int}{t10:LB}{t11:Bool}{t12 e:Int}
  (h:cadenzaref37_take o p f c w r n g a x u v=some (t1,t2,t3,t4,t5,t6,t7,t8,t9,t10,t11,t12,e)):Bf o p f c w r n g a x u v=some (geq e (-1)):=by
 rw[Bf,Wn,h,Aa]
theorem Ast{e:Int}(h:0≤e):geq e (-1)=false:=by rw[Aq,beq_eq_false_iff_ne];omega
theorem Bw1(o p:LB)(c w r n:Int)(g:LI)(a:Int)(x:LB)(u:Bool)(v:Int)(hp:p.length≤100000):
  ∃B:Bool,Bq8 o p 0 c w r n g a x u v=Bb B∧Bf o p 0 c w r n g a x u v=some B:=by
 have hT:cadenzaref37_take o p 0 c w r n g a x u v=cadenzaref37_take o p 0 c w r n g a x u v:=rfl
 conv at hT=>rhs;rw[cadenzaref37_take,Bo,if_pos (by decide),Abw p hp,Aa,stS]
 have hfn:=Bit p
 have hrn:=Bmj (hdr p)
 rw[Bq8,if_pos (by decide),Akx p (by omega),Aa]
 have hok:=Aj9 (b:=p)
 simp only at hT⊢
 by_cases h1:(frontS p).2=24
 ·rw[if_pos h1]at hT
  simp only at hT
  rw[if_pos (by decide)]at hT
  rw[if_pos (by rw[Aq];simpa using h1),Axl]
  exact⟨_,rfl,rp4 hT⟩
 rw[if_neg h1]at hT
 rw[if_neg (by rw[Aq];simpa using h1)]
 by_cases h2:(frontS p).2≠0
 ·rw[if_pos h2]at hT
  simp only at hT
  rw[if_pos (by rw[Ak];simpa using h2)]at hT
  rw[if_pos (by rw[Ak];simpa using h2),Ag,Aa]
  simp only
  rw[Axl]
  exact⟨_,rfl,(rp4 hT).trans (by rw[Ast hfn];rfl)⟩
 have h0:(frontS p).2=0:=by simpa using h2
 obtain⟨k1,k2,k3⟩:=hok h0
 have hl:(hdr p).length=p.length-(frontS p).1.toNat:=by rw[hdr,List.length_drop]
 rw[if_neg h2]at hT
 rw[if_neg (by rw[Ak,h0];simp),Cw (by omega) (by omega),Aa,Aa,show p.drop (frontS p).1.toNat=hdr p from rfl,Bw4,Aa]
 by_cases h3:(Rz (hdr p) ID3||Rz (hdr p) APX)=true
 ·rw[if_pos h3]at hT⊢
  simp only at hT
  rw[if_pos (by decide)]at hT
  rw[Axl]
  exact⟨_,rfl,rp4 hT⟩
 rw[if_neg h3]at hT⊢
 rw[Ba5 _ (by omega),Aa]
 by_cases h5:(readS (hdr p)).2.2.2.2.2=24
 ·rw[if_pos h5]at hT
  simp only at hT
  rw[if_pos (by decide)]at hT
  rw[if_pos (by rw[Aq];simpa using h5),Axl]
  exact⟨_,rfl,rp4 hT⟩
 rw[if_neg h5]at hT
 rw[if_neg (by rw[Aq];simpa using h5)]
 simp only at hT
 by_cases h6:(readS (hdr p)).2.2.2.2.2≠0
 ·rw[if_pos (by rw[Ak];simpa using h6)]at hT⊢
  rw[Ag,Aa]
  simp only
  rw[Axl]
  exact⟨_,rfl,(rp4 hT).trans (by rw[Ast hrn];rfl)⟩
 have h7:(readS (hdr p)).2.2.2.2.2=0:=by simpa using h6
 have h22:=(Bm3 h7).2.1
 rw[if_neg (by rw[Ak,h7];simp),Cw (by omega) (by omega),Aa,Fk,Hx,Dh]at hT
 rw[if_neg (by rw[Ak,h7];simp),Ah (by omega) (by omega),Cw (by omega) (by omega),Aa,Xb,Ae0,Nq]
 simp only
 by_cases h8:((o==([]:LB)) !=geq (readS (hdr p)).1 1)=true
 ·rw[if_pos h8]at hT⊢
  rw[Aa]at hT⊢
  rw[Ag,Aa]
  simp only
  rw[Axl]
  exact⟨_,rfl,rp4 hT⟩
 ·rw[if_neg h8]at hT⊢
  rw[Aa]at hT⊢
  rw[Ag,Aa]
  simp only
  rw[Axl]
  exact⟨_,rfl,rp4 hT⟩
end Go.Pl
set_option linter.unusedVariables false
set_option linter.unusedSimpArgs false
namespace Go.Pl
open Go Go.Lv
section
variable {f c w r n:Int} {F C W R N:Nat} (hd:HdI f c w r n F C W R N)
include hd
theorem HdI.ne0:¬(geq f 0=true):=by
 have:=hd.num
 rw[Aq,beq_iff_eq,hd.ef];omega
theorem Bgs(o p:LB)(hp:p.length≤100000)(A:Nat)(hA:A≤p.length)(a:Int)(x:LB)(u:Bool)(v:Int):
  (Ii o p f c w r n a u v [] x (A:Int)=Bb (decide ((seekS (p.drop A) (framesL (longN R) N).length).2=24)))∧
  Cr p f c w r n (A:Int)=some (if(seekS (p.drop A) (framesL (longN R) N).length).2=24 then(0,[], -1)else((A:Int)+(4*((seekS (p.drop A) (framesL (longN R) N).length).1.length:Int)+4),(seekS (p.drop A) (framesL (longN R) N).length).1,(seekS (p.drop A) (framesL (longN R) N).length).2))∧
  ((seekS (p.drop A) (framesL (longN R) N).length).2=0→(A:Int)+(4*((seekS (p.drop A) (framesL (longN R) N).length).1.length:Int)+4)≤p.length):=by
 have hs:=Bi7 (p.drop A) (framesL (longN R) N).length (by rw[List.length_drop];omega)
 have hr:=Cag (p.drop A) (framesL (longN R) N).length (by rw[List.length_drop];omega)
 have hok:=Bpu (b:=p.drop A) (n:=(framesL (longN R) N).length)
 have hlen:(seekS (p.drop A) (framesL (longN R) N).length).1.length≤1000:=by
  unfold seekS
  repeat' split
  all_goals simp[Ahw]
  all_goals omega
 have hfit:(seekS (p.drop A) (framesL (longN R) N).length).2=0→(A:Int)+(4*((seekS (p.drop A) (framesL (longN R) N).length).1.length:Int)+4)≤p.length:=by
  intro h0
  obtain⟨k1,k2,k3,k4,_⟩:=hok h0
  rw[k1]
  simp only[Ahw]
  rw[List.length_drop]at k4
  omega
 refine⟨?_,?_,hfit⟩
 ·rw[Ii,Aef,hd.Bbd,Aa]
  simp only
  rw[if_neg (by decide),Cw (by omega) (by omega),Aa,Int.toNat_natCast,Ac,hs,Aa]
  generalize seekS (p.drop A) (framesL (longN R) N).length=z at*
  obtain⟨z1,z2⟩:=z
  simp only at*
  by_cases h1:z2=24
  ·rw[if_pos (by rw[Aq];simpa using h1),Bes,decide_eq_true h1];rfl
  rw[if_neg (by rw[Aq];simpa using h1),decide_eq_false h1]
  by_cases h2:z2≠0
  ·rw[if_pos (by rw[Ak];simpa using h2),Ag,Aa]
   simp only
   rw[Bes];rfl
  ·have h0:z2=0:=by simpa using h2
   have:=hfit h0
   rw[if_neg (by rw[Ak,h0];simp),Ac,Bqg A z1.length (by omega) (by omega),Cw (by omega) (by omega),Aa,Bes];rfl
 ·rw[Cr,Uu,Cw (by omega) (by omega),Aa,hd.Brs,Aa,Ac,Int.toNat_natCast,hr,Aa]
  generalize seekS (p.drop A) (framesL (longN R) N).length=z at*
  obtain⟨z1,z2⟩:=z
  simp only at*
  rw[Un,Aer]
  by_cases h1:z2=24
  ·rw[if_pos (by rw[Aq];simpa using h1),if_pos h1]
  ·rw[if_neg (by rw[Aq];simpa using h1),if_neg h1,Ac,Bqg A z1.length (by omega) (by omega)]
   congr 2
theorem Ccd(o p:LB)(ho:o.length≤64)(hp:p.length≤100000)(a:Int)(x:LB)(u:Bool)(v:Int):
  ∃B:Bool,Bq8 o p f c w r n [] a x u v=Bb B∧Bf o p f c w r n [] a x u v=some B:=by
 have hT:cadenzaref37_take o p f c w r n [] a x u v=cadenzaref37_take o p f c w r n [] a x u v:=rfl
 conv at hT=>rhs;rw[cadenzaref37_take,Bo,if_neg hd.ne0,Bz,Bp,if_pos (by decide),Da,Fx]
 rw[Bq8,if_neg hd.ne0,if_pos (by decide)]
 have fin:∀A:Nat,A≤p.length→cadenzaref37_take o p f c w r n [] a x u v=(Cr p f c w r n (A:Int)).bind (fun(ag,ak,w1)=>
   if(Ay w1 0)then some (o,p,f,c,w,r,n,[],a,x,u,v,w1)else(Az p ag (Ac p)).bind fun al=>some (o,al,f,c,w,r,n,ak,a,x,u,v,0))→
   ∃B:Bool,Ii o p f c w r n a u v [] x (A:Int)=Bb B∧Bf o p f c w r n [] a x u v=some B:=by
  intro A hA hT
  obtain⟨t1,t2,t3⟩:=Bgs hd o p hp A hA a x u v
  have hnn:=Bpf (p.drop A) (framesL (longN R) N).length
  rw[t2,Aa]at hT
  rw[t1]
  generalize seekS (p.drop A) (framesL (longN R) N).length=z at*
  obtain⟨z1,z2⟩:=z
  simp only at*
  by_cases h1:z2=24
  ·rw[if_pos h1]at hT
   simp only at hT
   rw[if_pos (by decide)]at hT
   exact⟨_,rfl,(rp4 hT).trans (by rw[decide_eq_true h1];rfl)⟩
  rw[if_neg h1]at hT
  simp only at hT
  by_cases h2:z2≠0
  ·rw[if_pos (by rw[Ak];simpa using h2)]at hT
   exact⟨_,rfl,(rp4 hT).trans (by rw[decide_eq_false h1,Ast hnn])⟩
  ·have h0:z2=0:=by simpa using h2
   have:=t3 h0
   rw[if_neg (by rw[Ak,h0];simp),Cw (by omega) (by omega),Aa]at hT
   exact⟨_,rfl,(rp4 hT).trans (by rw[decide_eq_false h1];rfl)⟩
 by_cases h2:geq f 2=true
 ·rw[if_pos h2]at hT⊢
  by_cases h8:p.length<8
  ·rw[if_pos (by rw[Af,Ac];simp;omega)]at hT⊢
   rw[Aa]at hT
   simp only at hT
   rw[if_pos (by decide)]at hT
   rw[Bes]
   exact⟨_,rfl,rp4 hT⟩
  ·rw[if_neg (by rw[Af,Ac];simp;omega)]at hT⊢
   have h8':(p.take 8).length=8:=by rw[List.length_take];omega
   rw[Cv (by omega) (by omega),Aa,Bi1 o ho,Aa]at hT
   rw[Xs,Afa,Cv (by omega) (by omega),Aa,show(8:Int).toNat=8 from rfl,Bnp h8' ho,Aa]
   rw[show(8:Int).toNat=8 from rfl]at hT
   simp only
   rw[Ad4,Afb,if_neg (by decide)]
   by_cases he:(p.take 8==leB (Aey o).toNat 8)=true
   ·rw[if_neg (by rw[bne,he];decide)]at hT
    rw[if_neg (by rw[he];decide)]
    exact fin 8 (by omega) hT
   ·have he':(p.take 8==leB (Aey o).toNat 8)=false:=by simpa using he
    rw[if_pos (by rw[bne,he'];decide),Aa]at hT
    simp only at hT
    rw[if_pos (by decide)]at hT
    rw[if_pos (by rw[he'];decide),Ag,Aa]
    simp only
    rw[Bes]
    exact⟨_,rfl,rp4 hT⟩
 ·rw[if_neg h2]at hT⊢
  exact fin 0 (by omega) hT
end
end Go.Pl
set_option linter.unusedVariables false
set_option linter.unusedSimpArgs false
namespace Go.Pl
open Go Go.Lv
theorem Bvq{f c w r n:Int}{F C W R N:Nat}(hd:HdI f c w r n F C W R N)(o p:LB)(ho:o.length≤64)(hp:p.length≤100000)(g:LI)(hg:tabB g=true)(hl:g.length=(framesL (longN R) N).length)(A:Nat)(hA:A≤g.length)(x:LB)(hx:x.length≤14000000)(u:Bool)(v:Int):
  ∃B:Bool,Bq8 o p f c w r n g (A:Int) x u v=Bb B∧Bf o p f c w r n g (A:Int) x u v=some B:=by
 have hc:=hd.ec
 subst hc
 have hg':=hg
 rw[tabB,Bool.and_eq_true,decide_eq_true_eq,Ajt g 100000 (by omega)]at hg'
 obtain⟨⟨g1,g2⟩,g5,g6⟩:=hg'
 have hT:cadenzaref37_take o p f (C:Int) w r n g (A:Int) x u v=cadenzaref37_take o p f (C:Int) w r n g (A:Int) x u v:=rfl
 conv at hT=>rhs;rw[cadenzaref37_take,Bo,if_neg hd.ne0,Bz,Bp,if_neg (by rw[Aq,Ac];simp;intro e;subst e;simp at g1)]
 rw[Bq8,if_neg hd.ne0,if_neg (by rw[Aq,Ac];simp;intro e;subst e;simp at g1)]
 by_cases hA2:A=g.length
 ·subst hA2
  rw[if_pos (by rw[Aq,Ac];simp)]at hT
  rw[if_neg (by rw[Af,Ac];simp)]
  by_cases h4:4000<p.length
  ·rw[if_pos (by rw[As,Ac];simp;omega)]at hT⊢
   rw[Ag,Aa]
   simp only
   exact⟨_,rfl,rp4 hT⟩
  ·rw[if_neg (by rw[As,Ac];simp;omega)]at hT⊢
   rw[Xm,Adj]
   exact⟨_,rfl,rp4 hT⟩
 ·have hlt:A<g.length:=by omega
  have h5:=g5 g[A] (List.getElem_mem hlt)
  have hsum:=Bkl g5 g[A] (List.getElem_mem hlt)
  rw[if_neg (by rw[Aq,Ac];simp;omega),Ch,Ec,Cl hlt,Aa]at hT
  rw[if_pos (by rw[Af,Ac];simp;omega),Cl hlt,Aa,Aa]
  by_cases hw:(p.length:Int)<g[A]
  ·rw[if_pos (by rw[Af,Ac];simpa using hw)]at hT⊢
   rw[Aa]at hT
   simp only at hT
   rw[if_pos (by decide)]at hT
   rw[Brp]
   exact⟨_,rfl,rp4 hT⟩
  rw[if_neg (by rw[Af,Ac];simpa using hw)]at hT⊢
  have hnum:=hd.num
  have hlt2:A<(framesL (longN R) N).length:=by omega
  obtain⟨m,hm,m1,m2⟩:=Acb (Vn R) hnum.2.2.2.2.1 (List.getElem_mem hlt2)
  have hb:Cm w:=by rw[hd.ew];unfold Cm;omega
  obtain⟨xs,e,d1,d2,d3,d4⟩:=Ahp (bits:=w) (ch:=C) (n:=m) (t:=tapsOf o) (p.take g[A].toNat) hb (Yg o) hnum.2.1.1 hnum.2.1.2 m1 (by omega)
  have hnn:=Bio hb (Yg o) hnum.2.1.1 hnum.2.1.2 m1 (by omega) d2
  rw[Bjv o ho,Aa]
  simp only
  rw[if_neg (by decide),hd.Bbd,Aa]
  simp only
  rw[if_neg (by simp[Ak,Ef,Ac];omega),Wx,Ad8,Cl hlt2,Aa,Cv (by omega) (by omega),Aa,Aa,Abc,Aa]
  simp only
  rw[hm,d1,Aa]
  simp only
  rw[Au7 o ho,Aa]at hT
  simp only at hT
  rw[Cv (by omega) (by omega),Aa,Fh,Aa]at hT
  simp only at hT
  rw[hd.Brs,Aa,Cl hlt2,Aa,Aa,hm]at hT
  rw[d2,Aa]at hT
  simp only at hT
  rw[Ed,Ga]at hT
  rw[Adr,Xk]
  by_cases he:e≠0
  ·rw[if_pos (by rw[Ak];simpa using he)]at hT⊢
   rw[Aa]at hT
   simp only at hT
   rw[if_pos (by rw[Ak];simpa using he)]at hT
   rw[Ag,Aa]
   simp only
   rw[Brp]
   exact⟨_,rfl,(rp4 hT).trans (by rw[Ast hnn];rfl)⟩
  ·have he0:e=0:=by simpa using he
   obtain⟨k1,k2,k3⟩:=d3 he0
   have hbl:=Agg w xs
   rw[if_neg (by rw[Ak,he0];simp)]at hT⊢
   rw[Aot hb k2 k1,Aa,Aa]at hT
   simp only at hT
   rw[if_neg (by decide),Cs (by simp;omega),Aa,List.nil_append,Cs (by omega),Aa,Aa,Cw (by omega) (by omega),Aa]at hT
   rw[Ax7 hb k2 k1,Aa]
   simp only
   rw[if_neg (by decide),Cs (by omega),Aa,Cw (by omega) (by omega),Aa,Brp]
   exact⟨_,rfl,rp4 hT⟩
end Go.Pl
set_option linter.unusedVariables false
set_option linter.unusedSimpArgs false
namespace Go.Pl
open Go Go.Lv
theorem Bnl(a:LI)(b:Int)(ha:a.length≤100):∀(j i q:Nat),i+j=a.length→j<q→∃r,Bl a b q (i:Int)=some r∧Ni r 0=(a.drop i).any fun y=>b==y
 |0,i,q+1,hi,_=>by
  refine⟨-1,?_,?_⟩
  ·rw[Bl,Dr,if_neg (by rw[Af,Ac];simp;omega)];rfl
  ·rw[show i=a.length by omega,List.drop_length];rfl
 |j+1,i,q+1,hi,hq=>by
  have hlt:i<a.length:=by omega
  obtain⟨r,h1,h2⟩:=Bnl a b ha j (i+1) q (by omega) (by omega)
  rw[Bl,Dr,if_pos (by rw[Af,Ac];simp;omega),Cl hlt,Aa,drop_cons hlt,List.any_cons]
  by_cases h:b=a[i]
  ·rw[if_pos (by rw[Aq];simpa using h)]
   refine⟨_,rfl,?_⟩
   rw[Ef,decide_eq_true (by omega),h];simp
  ·rw[if_neg (by rw[Aq];simpa using h),Ah (by omega) (by omega)]
   refine⟨r,h1,?_⟩
   rw[h2,beq_eq_false_iff_ne.2 h,Bool.false_or]
theorem By2(v:Int):∃B:Bool,Rg v=some B∧Qp v=some B:=by
 obtain⟨r,h1,h2⟩:=Bnl [4,12,16,22,24,26,38] v (by decide) 7 0 FUEL rfl (by have:=Ap;omega)
 refine⟨_,?_,rfl⟩
 rw[Rg,He,If,Hc,Hj]
 have h1':Bl [4,12,16,22,24,26,38] v FUEL 0=some r:=h1
 rw[h1',Aa,Aa,h2]
 simp only[List.drop_zero,List.any_cons,List.any_nil,Bool.or_false,Aq,Bool.or_assoc]
theorem Axp(B:Bool):Bb B=some (if B=true then 0 else 8):=by
 rw[Bb,Am5];cases B<;>rfl
theorem Cdu(a b:LB)(f g h k m:Int)(n:LI)(o:Int)(p:LB)(u:Bool)(v:Int)(hb:b.length≤16000000)(hn:n.length≤16000000)(hp:p.length≤16000000):
  Dd a b f g h k m n o p u v=some (a,b,f,g,h,k,m,n,o,p,u,v):=by
 rw[Dd,Kz,Cs (by simp;omega),Aa,Aa,Kz,Cs (by simp;omega),Aa,Aa,Fl,Cs (by simp;omega),Aa,Aa]
 rfl
theorem Bfl(o p:LB)(f c w r n:Int)(g:LI)(a:Int)(x:LB)(u:Bool)(v:Int)(hp:p.length≤100000)(hg:g.length≤100000)(hx:x.length≤14000000):
  ∃E,Ie o p f c w r n g a x u v=some E∧Bt o p f c w r n g a x u v=some E:=by
 rw[Ie,Zt,Bt]
 by_cases ho:64<o.length
 ·rw[if_pos (by rw[As,Ac];simp;omega),if_pos (by rw[As,Ac];simp;omega)]
  exact⟨8,rfl,rfl⟩
 have hO:¬(Ee (Ac o) 64=true):=by rw[As,Ac];simp;omega
 rw[if_neg hO,if_neg hO]
 by_cases hw:(geq v 0&& !u)=true
 ·rw[if_pos hw,if_pos hw,Cdu o p f c w r n g a x u v (by omega) (by omega) (by omega),Aa]
  simp only
  rcases Bqc o p f c w r n g a x u v with⟨e1,e2⟩|⟨e1,e2,hd⟩
  ·rw[e1,e2,Aa,Aa,if_neg (by decide),if_pos (by decide),Axp]
   exact⟨8,rfl,rfl⟩
  ·rw[e1,e2,Aa,if_pos rfl]
   have key:∃B:Bool,Bq8 o p f c w r n g a x u v=Bb B∧Bf o p f c w r n g a x u v=some B:=by
    cases hd with
    |new e1 e2 e3 e4 e5 e6 e7 e8=>subst e1;exact Bw1 o p c w r n g a x u v hp
    |head F C W R N h hpw e6 e7 e8=>subst e6;exact Ccd h o p (by omega) hp a x u v
    |tab F C W R N A h hpw ht hl ea hA=>subst ea;exact Bvq h o p (by omega) hp g ht hl A hA x hx u v
   obtain⟨B,k1,k2⟩:=key
   rw[k2,Aa]
   refine⟨if B=true then 0 else 8,k1.trans (Axp B),?_⟩
   cases B<;>rfl
 ·rw[if_neg hw,if_neg hw]
  by_cases hl:(geq (Ac p) 0&&geq (Ac g) 0)=true
  ·rw[if_pos hl,if_pos hl]
   generalize(geq f 0&&(geq c 0&&(geq w 0&&(geq r 0&&(geq n 0&&true)))))=z
   by_cases hz:((z&&geq a 0)&&gle (Ac x) 12000)=true
   ·rw[if_pos hz]
    simp only[Bool.and_eq_true,Aro,Ac,decide_eq_true_eq]at hz
    obtain⟨⟨z1,z2⟩,z3⟩:=hz
    have hN:¬((!(z&&geq a 0)||Ee (Ac x) 12000)=true):=by rw[z1,z2,As,Ac];simp;omega
    rw[if_neg hN]
    by_cases hv:v=0
    ·have v1:geq v 0=true:=by rw[Aq];simpa using hv
     have v2:¬(Ay v 0=true):=by rw[Ak];simpa using hv
     rw[if_pos v1,if_neg v2,Axp]
     exact⟨0,rfl,rfl⟩
    ·have v1:¬(geq v 0=true):=by rw[Aq];simpa using hv
     have v2:Ay v 0=true:=by rw[Ak];simpa using hv
     rw[if_neg v1,if_pos v2]
     obtain⟨B,k1,k2⟩:=By2 v
     rw[k1,k2,Aa,Aa,Axp,Axp]
     cases u
     ·refine⟨if B=true then 0 else 8,by simp,?_⟩
      cases B<;>rfl
     ·exact⟨8,rfl,rfl⟩
   ·rw[if_neg hz,if_pos,Axp]
    ·exact⟨8,rfl,rfl⟩
    ·simp only[Bool.and_eq_true,Aro,Ac,decide_eq_true_eq]at hz
     simp only[Bool.or_eq_true,Bool.not_eq_true',As,Ac,decide_eq_true_eq]
     by_cases hz2:(z&&geq a 0)=true
     ·rw[Bool.and_eq_true]at hz2
      exact .inr (by have hq:¬((x.length:Int)≤12000):=fun h=>hz ⟨hz2,h⟩;omega)
     ·exact .inl (by simpa using hz2)
  ·rw[if_neg hl,if_neg hl,if_neg (by simp),if_pos (by simp),Axp]
   exact⟨8,rfl,rfl⟩
end Go.Pl
set_option linter.unusedVariables false
set_option linter.unusedSimpArgs false
namespace Go.Pl
open Go Go.Lv
def feedP(bk:LB→Int→Int→Int→Int→Int→Int→LI→LB→pushdec_Feed_O)(o:LB)(u:Bool)(v:Int):LB→Int→Int→Int→Int→Int→Int→LI→LB→pushdec_Feed_O:=
 Hv (Nd bk o u v) (Sn bk o u v) (Kl bk o u v) (Tn bk o u v) (Ka bk o u v) (Ng bk o u v) (Sy bk o u v) (Bn bk o u v) (Aae bk o u v) o u v
structure SzD (p:LB) (g:LI) (a:Int) (x:LB):Prop where
 hp:p.length≤100000
 hg:g.length≤1000
 hx:x.length+12000*(g.length-a.toNat)≤13000000
def muD(f:Int)(g:LI)(a:Int):Nat:=if f=0 then 1003 else if g=[]then 1002 else g.length-a.toNat+1
section
variable {bk:LB→Int→Int→Int→Int→Int→Int→LI→LB→pushdec_Feed_O} {o p:LB} {f c w r n:Int} {g:LI} {a:Int} {x:LB} {u:Bool} {v:Int}
theorem Bw5(hp:p.length≤100000)(hg:g.length≤1000)(hx:x.length≤13000000):Dd o p f c w r n g a x u v=some (o,p,f,c,w,r,n,g,a,x,u,v):=by
 rw[Dd,Kz,Cs (by simp;omega),Aa,Aa,Kz,Cs (by simp;omega),Aa,Aa,Fl,Cs (by simp;omega),Aa,Aa]
 rfl
theorem Chf(h:SzD p g a x)(e:Int):Bn bk o u v p f c w r n a true e g x=some (o,p,f,c,w,r,n,g,a,x,u,v,0):=by
 rw[Bn,Agf,if_pos rfl,Bw5 h.hp h.hg (by have:=h.hx;omega),Aa]
theorem Ch6{e:Int}(h:e≠0):Bn bk o u v p f c w r n a false e g x=some (o,[],0,0,0,0,0,[],0,x,false,e,e):=by
 rw[Bn,Agf,if_neg (by decide),if_pos (by rw[Ak];simpa using h)];rfl
inductive StepR (bk:LB→Int→Int→Int→Int→Int→Int→LI→LB→pushdec_Feed_O) (o p:LB) (f c w r n:Int) (g:LI) (a:Int) (x:LB) (u:Bool) (v:Int):Prop
 |wait:feedP bk o u v p f c w r n a g x=some (o,p,f,c,w,r,n,g,a,x,u,v,0)→cadenzaref37_take o p f c w r n g a x u v=some (o,p,f,c,w,r,n,g,a,x,u,v, -1)→StepR bk o p f c w r n g a x u v
 |err (e:Int) {t1 t2:LB} {t3 t4 t5 t6 t7:Int} {t8:LI} {t9:Int} {t10:LB} {t11:Bool} {t12:Int}:0<e→feedP bk o u v p f c w r n a g x=some (o,[],0,0,0,0,0,[],0,x,false,e,e)→
   cadenzaref37_take o p f c w r n g a x u v=some (t1,t2,t3,t4,t5,t6,t7,t8,t9,t10,t11,t12,e)→StepR bk o p f c w r n g a x u v
 |next (p':LB) (f' c' w' r' n':Int) (g':LI) (a':Int) (x':LB):feedP bk o u v p f c w r n a g x=bk p' f' c' w' r' n' a' g' x'→cadenzaref37_take o p f c w r n g a x u v=some (o,p',f',c',w',r',n',g',a',x',u,v,0)→
   FitD o f' c' w' r' n' g' a' x'→SzD p' g' a' x'→p'.length≤p.length→muD f' g' a'<muD f g a→StepR bk o p f c w r n g a x u v
theorem f62{d:Bool}{e:Int}:Nd bk o u v a g x d e p f c w r n=Bn bk o u v p f c w r n a d e g x:=rfl
theorem f75{d:Bool}{e:Int}:Kl bk o u v f c w r n a x d e p g=Bn bk o u v p f c w r n a d e g x:=rfl
theorem f78{d:Bool}{e:Int}:Ng bk o u v f c w r n g d e p a x=Bn bk o u v p f c w r n a d e g x:=rfl
theorem mkW(hZ:SzD p g a x)(hF:feedP bk o u v p f c w r n a g x=Bn bk o u v p f c w r n a true 0 g x)(hT:cadenzaref37_take o p f c w r n g a x u v=some (o,p,f,c,w,r,n,g,a,x,u,v, -1)):StepR bk o p f c w r n g a x u v:=
 .wait (hF.trans (Chf hZ 0)) hT
theorem mkE{e:Int}{p2:LB}{f2 c2 w2 r2 n2 a2:Int}{g2:LI}{t1 t2:LB}{t3 t4 t5 t6 t7:Int}{t8:LI}{t9:Int}{t10:LB}{t11:Bool}{t12:Int}(he:0<e)(hF:feedP bk o u v p f c w r n a g x=Bn bk o u v p2 f2 c2 w2 r2 n2 a2 false e g2 x)
  (hT:cadenzaref37_take o p f c w r n g a x u v=some (t1,t2,t3,t4,t5,t6,t7,t8,t9,t10,t11,t12,e)):StepR bk o p f c w r n g a x u v:= .err e he (hF.trans (Ch6 (by omega))) hT
theorem HdI.fnz{F C W R N:Nat}(h:HdI f c w r n F C W R N):f≠0:=by
 have:=h.num
 rw[h.ef];omega
theorem Bx7(hp:p.length≤100000):StepR bk o p 0 0 0 0 0 [] 0 [] u v:=by
 have hZ:SzD p [] 0 []:=⟨hp,by simp,by simp⟩
 have hT:cadenzaref37_take o p 0 0 0 0 0 [] 0 [] u v=cadenzaref37_take o p 0 0 0 0 0 [] 0 [] u v:=rfl
 conv at hT=>rhs;rw[cadenzaref37_take,Bo,if_pos (by decide),Abw p hp,Aa,stS]
 have hF:feedP bk o u v p 0 0 0 0 0 0 [] []=feedP bk o u v p 0 0 0 0 0 0 [] []:=rfl
 conv at hF=>rhs;rw[feedP,Hv,if_pos (by decide),Akx p (by omega),Aa]
 have hfn:=Bit p
 have hrn:=Bmj (hdr p)
 have hok:=Aj9 (b:=p)
 simp only at hT hF
 by_cases h1:(frontS p).2=24
 ·rw[if_pos h1]at hT
  simp only at hT
  rw[if_pos (by decide)]at hT
  rw[if_pos (by rw[Aq];simpa using h1)]at hF
  exact mkW hZ hF hT
 rw[if_neg h1]at hT
 rw[if_neg (by rw[Aq];simpa using h1)]at hF
 by_cases h2:(frontS p).2≠0
 ·rw[if_pos h2]at hT
  simp only at hT
  rw[if_pos (by rw[Ak];simpa using h2)]at hT
  rw[if_pos (by rw[Ak];simpa using h2),Ag,Aa]at hF
  exact mkE (by omega) hF hT
 have h0:(frontS p).2=0:=by simpa using h2
 obtain⟨k1,k2,k3⟩:=hok h0
 have hl:(hdr p).length=p.length-(frontS p).1.toNat:=by rw[hdr,List.length_drop]
 rw[if_neg h2]at hT
 rw[if_neg (by rw[Ak,h0];simp),Cw (by omega) (by omega),Aa,Aa,show p.drop (frontS p).1.toNat=hdr p from rfl,Bw4,Aa]at hF
 by_cases h3:(Rz (hdr p) ID3||Rz (hdr p) APX)=true
 ·rw[if_pos h3]at hT hF
  simp only at hT
  rw[if_pos (by decide)]at hT
  exact mkW hZ hF hT
 rw[if_neg h3]at hT hF
 rw[Ba5 _ (by omega),Aa]at hF
 by_cases h5:(readS (hdr p)).2.2.2.2.2=24
 ·rw[if_pos h5]at hT
  simp only at hT
  rw[if_pos (by decide)]at hT
  rw[if_pos (by rw[Aq];simpa using h5)]at hF
  exact mkW hZ hF hT
 rw[if_neg h5]at hT
 rw[if_neg (by rw[Aq];simpa using h5)]at hF
 simp only at hT
 by_cases h6:(readS (hdr p)).2.2.2.2.2≠0
 ·rw[if_pos (by rw[Ak];simpa using h6)]at hT hF
  rw[Ag,Aa]at hF
  exact mkE (by have:=hrn;generalize(readS (hdr p)).2.2.2.2.2=z at *;omega) (hF.trans f62) hT
 have h7:(readS (hdr p)).2.2.2.2.2=0:=by simpa using h6
 obtain⟨r1,h22,r3,r4⟩:=Bm3 h7
 rw[if_neg (by rw[Ak,h7];simp),Cw (by omega) (by omega),Aa,Fk,Hx,Dh]at hT
 rw[if_neg (by rw[Ak,h7];simp),Ah (by omega) (by omega),Cw (by omega) (by omega),Aa,Sn,Agr,Nq]at hF
 simp only at hT hF
 by_cases h8:((o==([]:LB)) !=geq (readS (hdr p)).1 1)=true
 ·rw[if_pos h8]at hT hF
  rw[Aa]at hT hF
  rw[Ag,Aa]at hF
  simp only at hF
  exact mkE (by decide) (hF.trans f62) hT
 ·rw[if_neg h8]at hT hF
  rw[Aa]at hT hF
  rw[Ag,Aa]at hF
  have hd:HdI (readS (hdr p)).1 (readS (hdr p)).2.1 (readS (hdr p)).2.2.1 (readS (hdr p)).2.2.2.1 (readS (hdr p)).2.2.2.2.1 (f0 (hdr p)) (f1 (hdr p)) (f2 (hdr p)) (f3 (hdr p)) (f4 (hdr p)):=by
   constructor<;>first|(rw[r1])|assumption
  refine .next _ _ _ _ _ _ [] 0 [] (by exact hF) hT (.head _ _ _ _ _ hd ?_ rfl rfl rfl) ⟨by rw[List.length_drop];omega,by simp,by simp⟩ (by rw[List.length_drop];omega) ?_
  ·have e:geq (readS (hdr p)).1 1=decide (f0 (hdr p)=1):=by rw[hd.ef,Aq,Bool.eq_iff_iff];simp;omega
   rw[←e];simpa using h8
  ·rw[muD,muD,if_neg hd.fnz,if_pos rfl,if_pos rfl];omega
section
variable {F C W R N:Nat} (hd:HdI f c w r n F C W R N)
include hd
theorem Bug(hp:p.length≤100000)(hpw:(o==([]:LB))=decide (F=1))(A:Nat)(hA:A≤p.length)
  (hT:cadenzaref37_take o p f c w r n [] 0 [] u v=(Cr p f c w r n (A:Int)).bind (fun(ag,ak,w1)=>if(Ay w1 0)then some (o,p,f,c,w,r,n,([]:LI),(0:Int),([]:LB),u,v,w1)else(Az p ag (Ac p)).bind fun al=>some (o,al,f,c,w,r,n,ak,(0:Int),([]:LB),u,v,(0:Int))))
  (hF:feedP bk o u v p f c w r n 0 [] []=Ka bk o u v p f c w r n 0 [] [] (A:Int)):StepR bk o p f c w r n [] 0 [] u v:=by
 have hZ:SzD p [] 0 []:=⟨hp,by simp,by simp⟩
 obtain⟨_,t2,t3⟩:=Bgs hd o p hp A hA 0 [] u v
 have hs:=Bi7 (p.drop A) (framesL (longN R) N).length (by rw[List.length_drop];omega)
 have hnn:=Bpf (p.drop A) (framesL (longN R) N).length
 have hok:=Bpu (b:=p.drop A) (n:=(framesL (longN R) N).length)
 rw[t2,Aa]at hT
 rw[Ka,Age,hd.Bbd,Aa]at hF
 simp only at hF
 rw[if_neg (by decide),Cw (by omega) (by omega),Aa,Int.toNat_natCast,Ac,hs,Aa]at hF
 generalize hz:seekS (p.drop A) (framesL (longN R) N).length=z at*
 obtain⟨z1,z2⟩:=z
 simp only at*
 by_cases h1:z2=24
 ·rw[if_pos h1]at hT
  simp only at hT
  rw[if_pos (by decide)]at hT
  rw[if_pos (by rw[Aq];simpa using h1)]at hF
  exact mkW hZ hF hT
 rw[if_neg h1]at hT
 rw[if_neg (by rw[Aq];simpa using h1)]at hF
 simp only at hT
 by_cases h2:z2≠0
 ·rw[if_pos (by rw[Ak];simpa using h2)]at hT hF
  rw[Ag,Aa]at hF
  exact mkE (by omega) hF hT
 ·have h0:z2=0:=by simpa using h2
  subst h0
  have h3:=t3 rfl
  obtain⟨k1,k2,k3,k4,k5,k6⟩:=hok rfl
  simp only[Prod.mk.injEq,and_true]at k1
  have hl:z1.length=(framesL (longN R) N).length:=by rw[k1];exact Ahw _ _
  rw[←k1]at k5 k6
  rw[if_neg (by decide),Cw (by omega) (by omega),Aa]at hT
  rw[if_neg (by decide),Ac,Bqg A z1.length (by omega) (by omega),Cw (by omega) (by omega),Aa]at hF
  have hne:z1≠ []:=by intro e;rw[e]at hl;simp at hl;omega
  refine .next _ _ _ _ _ _ z1 0 [] (by exact hF) hT (.tab _ _ _ _ _ 0 hd hpw ?_ hl rfl (by omega)) ⟨by rw[List.length_drop];omega,by omega,by simp;omega⟩ (by rw[List.length_drop];omega) ?_
  ·rw[tabB,Bool.and_eq_true,decide_eq_true_eq,Ajt z1 100000 (by omega)]
   exact⟨by omega,k5,k6⟩
  ·rw[muD,muD,if_neg hd.fnz,if_neg hd.fnz,if_pos rfl,if_neg hne]
   simp;omega
theorem Bwy(ho:o.length≤64)(hp:p.length≤100000)(hpw:(o==([]:LB))=decide (F=1)):StepR bk o p f c w r n [] 0 [] u v:=by
 have hZ:SzD p [] 0 []:=⟨hp,by simp,by simp⟩
 have hT:cadenzaref37_take o p f c w r n [] 0 [] u v=cadenzaref37_take o p f c w r n [] 0 [] u v:=rfl
 conv at hT=>rhs;rw[cadenzaref37_take,Bo,if_neg hd.ne0,Bz,Bp,if_pos (by decide),Da,Fx]
 have hF:feedP bk o u v p f c w r n 0 [] []=feedP bk o u v p f c w r n 0 [] []:=rfl
 conv at hF=>rhs;rw[feedP,Hv,if_neg hd.ne0,if_pos (by decide)]
 by_cases h2:geq f 2=true
 ·rw[if_pos h2]at hT hF
  by_cases h8:p.length<8
  ·rw[if_pos (by rw[Af,Ac];simp;omega)]at hT hF
   rw[Aa]at hT
   simp only at hT
   rw[if_pos (by decide)]at hT
   exact mkW hZ hF hT
  ·rw[if_neg (by rw[Af,Ac];simp;omega)]at hT hF
   have h8':(p.take 8).length=8:=by rw[List.length_take];omega
   rw[Cv (by omega) (by omega),Aa,Bi1 o ho,Aa]at hT
   rw[Tn,Af5,Cv (by omega) (by omega),Aa,show(8:Int).toNat=8 from rfl,Bnp h8' ho,Aa]at hF
   rw[show(8:Int).toNat=8 from rfl]at hT
   simp only at hF
   rw[Agi,Agq,if_neg (by decide)]at hF
   by_cases he:(p.take 8==leB (Aey o).toNat 8)=true
   ·rw[if_neg (by rw[bne,he];decide)]at hT
    rw[if_neg (by rw[he];decide)]at hF
    exact Bug hd hp hpw 8 (by omega) hT hF
   ·have he':(p.take 8==leB (Aey o).toNat 8)=false:=by simpa using he
    rw[if_pos (by rw[bne,he'];decide),Aa]at hT
    simp only at hT
    rw[if_pos (by decide)]at hT
    rw[if_pos (by rw[he'];decide),Ag,Aa]at hF
    simp only at hF
    exact mkE (by decide) (hF.trans f75) hT
 ·rw[if_neg h2]at hT hF
  exact Bug hd hp hpw 0 (by omega) hT hF
theorem Bxs(ho:o.length≤64)(hpw:(o==([]:LB))=decide (F=1))(hg:tabB g=true)(hl:g.length=(framesL (longN R) N).length)(A:Nat)(hA:A≤g.length)(hZ:SzD p g (A:Int) x):StepR bk o p f c w r n g (A:Int) x u v:=by
 have hp:=hZ.hp
 have hx:=hZ.hx
 have hc:=hd.ec
 subst hc
 have hg':=hg
 rw[tabB,Bool.and_eq_true,decide_eq_true_eq,Ajt g 100000 (by omega)]at hg'
 obtain⟨⟨g1,g2⟩,g5,g6⟩:=hg'
 have hgn:¬(geq (Ac g) 0=true):=by rw[Aq,Ac];simp;intro e;subst e;simp at g1
 have hT:cadenzaref37_take o p f (C:Int) w r n g (A:Int) x u v=cadenzaref37_take o p f (C:Int) w r n g (A:Int) x u v:=rfl
 conv at hT=>rhs;rw[cadenzaref37_take,Bo,if_neg hd.ne0,Bz,Bp,if_neg hgn]
 have hF:feedP bk o u v p f (C:Int) w r n (A:Int) g x=feedP bk o u v p f (C:Int) w r n (A:Int) g x:=rfl
 conv at hF=>rhs;rw[feedP,Hv,if_neg hd.ne0,if_neg hgn]
 by_cases hA2:A=g.length
 ·subst hA2
  rw[if_pos (by rw[Aq,Ac];simp)]at hT
  rw[if_neg (by rw[Af,Ac];simp)]at hF
  by_cases h4:4000<p.length
  ·rw[if_pos (by rw[As,Ac];simp;omega)]at hT hF
   rw[Ag,Aa]at hF
   exact mkE (by decide) hF hT
  ·rw[if_neg (by rw[As,Ac];simp;omega)]at hT hF
   exact mkW hZ hF hT
 ·have hlt:A<g.length:=by omega
  have h5:=g5 g[A] (List.getElem_mem hlt)
  have hsum:=Bkl g5 g[A] (List.getElem_mem hlt)
  rw[if_neg (by rw[Aq,Ac];simp;omega),Ch,Ec,Cl hlt,Aa]at hT
  rw[if_pos (by rw[Af,Ac];simp;omega),Cl hlt,Aa,Aa]at hF
  by_cases hw:(p.length:Int)<g[A]
  ·rw[if_pos (by rw[Af,Ac];simpa using hw)]at hT hF
   rw[Aa]at hT
   simp only at hT
   rw[if_pos (by decide)]at hT
   exact mkW hZ hF hT
  rw[if_neg (by rw[Af,Ac];simpa using hw)]at hT hF
  have hnum:=hd.num
  have hlt2:A<(framesL (longN R) N).length:=by omega
  obtain⟨m,hm,m1,m2⟩:=Acb (Vn R) hnum.2.2.2.2.1 (List.getElem_mem hlt2)
  have hb:Cm w:=by rw[hd.ew];unfold Cm;omega
  obtain⟨xs,e,d1,d2,d3,d4⟩:=Ahp (bits:=w) (ch:=C) (n:=m) (t:=tapsOf o) (p.take g[A].toNat) hb (Yg o) hnum.2.1.1 hnum.2.1.2 m1 (by omega)
  have hnn:=Bio hb (Yg o) hnum.2.1.1 hnum.2.1.2 m1 (by omega) d2
  rw[Bjv o ho,Aa]at hF
  simp only at hF
  rw[if_neg (by decide),hd.Bbd,Aa]at hF
  simp only at hF
  rw[if_neg (by simp[Ak,Ef,Ac];omega),Sy,Agb,Cl hlt2,Aa,Cv (by omega) (by omega),Aa,Aa,Abc,Aa]at hF
  simp only at hF
  rw[hm,d1,Aa]at hF
  simp only at hF
  rw[Au7 o ho,Aa]at hT
  simp only at hT
  rw[Cv (by omega) (by omega),Aa,Fh,Aa]at hT
  simp only at hT
  rw[hd.Brs,Aa,Cl hlt2,Aa,Aa,hm]at hT
  rw[d2,Aa]at hT
  simp only at hT
  rw[Ed,Ga]at hT
  rw[Af6,Aaf]at hF
  by_cases he:e≠0
  ·rw[if_pos (by rw[Ak];simpa using he)]at hT hF
   rw[Aa]at hT
   simp only at hT
   rw[if_pos (by rw[Ak];simpa using he)]at hT
   rw[Ag,Aa]at hF
   exact mkE (by omega) hF hT
  ·have he0:e=0:=by simpa using he
   obtain⟨k1,k2,k3⟩:=d3 he0
   have hbl:=Agg w xs
   have ht:((A:Int)).toNat=A:=rfl
   rw[ht]at hx
   rw[if_neg (by rw[Ak,he0];simp)]at hT hF
   rw[Aot hb k2 k1,Aa,Aa]at hT
   simp only at hT
   rw[if_neg (by decide),Cs (by simp;omega),Aa,List.nil_append,Cs (by omega),Aa,Aa,Cw (by omega) (by omega),Aa,Ah (by omega) (by omega)]at hT
   rw[Ax7 hb k2 k1,Aa]at hF
   simp only at hF
   rw[if_neg (by decide),Cs (by omega),Aa,Cw (by omega) (by omega),Aa,Ah (by omega) (by omega)]at hF
   have e1:((A:Int)+1).toNat=A+1:=rfl
   refine .next _ _ _ _ _ _ _ _ _ (by exact hF) hT (.tab _ _ _ _ _ (A+1) hd hpw hg hl rfl (by omega)) ⟨by rw[List.length_drop];omega,hZ.hg,by rw[e1,List.length_append];omega⟩ (by rw[List.length_drop];omega) ?_
   have hne:g≠ []:=by intro e;subst e;simp at g1
   rw[muD,muD,if_neg hd.fnz,if_neg hd.fnz,if_neg hne,if_neg hne,e1,ht]
   omega
end
theorem Bez(hf:FitD o f c w r n g a x)(ho:o.length≤64)(hZ:SzD p g a x):StepR bk o p f c w r n g a x u v:=by
 cases hf with
 |new e1 e2 e3 e4 e5 e6 e7 e8=>subst e1 e2 e3 e4 e5 e6 e7 e8;exact Bx7 hZ.hp
 |head F C W R N h hpw e6 e7 e8=>subst e6 e7 e8;exact Bwy h ho hZ.hp hpw
 |tab F C W R N A h hpw ht hl ea hA=>subst ea;exact Bxs h ho hpw ht hl A hA hZ
end
end Go.Pl
set_option linter.unusedVariables false
set_option linter.unusedSimpArgs false
namespace Go.Pl
open Go Go.Lv
end Go.Pl
set_option linter.unusedVariables false
set_option linter.unusedSimpArgs false
namespace Go.Pl
open Go Go.Lv
abbrev Cin:=LB×LB×Int×Int×Int×Int×Int×LI×Int×LB×Bool×Int×Int
theorem Bzc:∀(j:Nat) (b:LB) (a:Nat),(Bla j b a).2=0∨(Bla j b a).2=38
 |0,_,_=> .inr rfl
 |j+1,b,a=>by
  rw[Bla]
  split
  ·exact .inl rfl
  ·split
   ·exact .inr rfl
   ·exact Bzc j _ _
theorem Bwe(b:LB):(Ag2 b).2=0∨(Ag2 b).2=38:=by
 rw[Ag2]
 split
 ·exact .inr rfl
 ·exact Bzc _ _ _
theorem Aum{o p:LB}{f c w r n:Int}{g:LI}{a:Int}{x:LB}{u:Bool}{v:Int}(hp:p.length≤100000)(hg:g.length≤2000)(hx:x.length≤13000000):Wz o p f c w r n g a x u v=some (o,p,f,c,w,r,n,g,a,x,u,v):=by
 rw[Wz,Ahs,Cs (by simp;omega),Aa,Cs (by simp;omega),Aa,Ah8,Ahr,Cs (by simp;omega),Aa]
 rfl
theorem Bu5{o p:LB}{f c w r n:Int}{g:LI}{a:Int}{x:LB}{u:Bool}{v:Int}(hp:p.length≤100000)(hg:g.length≤2000)(hx:x.length≤13000000):Dd o p f c w r n g a x u v=some (o,p,f,c,w,r,n,g,a,x,u,v):=by
 rw[Dd,Kz,Cs (by simp;omega),Aa,Aa,Kz,Cs (by simp;omega),Aa,Aa,Fl,Cs (by simp;omega),Aa,Aa]
 rfl
theorem Bhw{o p:LB}{f c w r n:Int}{g:LI}{a:Int}{x:LB}{u:Bool}{v e:Int}(hx:x.length≤13000000):Aam o p f c w r n g a x u v e=some (o,[],0,0,0,0,0,[],0,x,false,e,e):=by
 rw[Aam,Ano,Cs (by simp;omega),Aa];rfl
theorem Byp{p:LB}{f:Int}{g:LI}{a:Int}{x:LB}(h:SzD p g a x):muD f g a<1004:=by
 have:=h.hg
 unfold muD
 split
 ·omega
 ·split<;>omega
section
variable {o p:LB} {f c w r n:Int} {g:LI} {a:Int} {x:LB} {u:Bool} {v:Int} (hp:p.length≤20000) (hg:g.length≤2000) (hx:x.length≤13000000)
include hp hg hx
theorem Azc{E:Int}(hE:Ie o p f c w r n g a x u v=some E):Qu o p f c w r n g a x u v=if E≠0 then some ([],[],0,0,0,0,0,[],0,[],false,0,E)else some (o,p,f,c,w,r,n,g,a,x,u,v,if v≠0 then v else if u=true then 36 else 0):=by
 rw[Qu,hE,Aa]
 by_cases h:E≠0
 ·rw[if_pos (by rw[Ak];simpa using h),if_pos h]
 rw[if_neg (by rw[Ak];simpa using h),if_neg h,Bu5 (by omega) hg (by omega)]
 by_cases hv:v≠0
 ·rw[if_pos (by rw[Ak];simpa using hv),if_pos hv,Aa]
 ·rw[if_neg (by rw[Ak];simpa using hv),if_neg hv]
  cases u<;>simp[Aa]
omit hg hx in
theorem Bmr:∃e,Ae3 o p f c w r n g a x u v=some e∧Rt o p f c w r n g a x u v=some e:=by
 rw[Ae3,Rt]
 by_cases h0:geq f 0=true
 ·rw[if_pos h0,if_pos h0,Akx p (by omega),Aql p (by omega),Aa,Aa]
  have hok:=Aj9 (b:=p)
  simp only
  by_cases h2:(frontS p).2≠0
  ·rw[if_pos (by rw[Ak];simpa using h2),if_pos (by rw[Ak];simpa using h2)]
   exact⟨_,rfl,rfl⟩
  have h3:(frontS p).2=0:=by simpa using h2
  obtain⟨k1,k2,k3⟩:=hok h3
  have hl:(hdr p).length≤p.length:=by rw[hdr,List.length_drop];omega
  rw[if_neg (by rw[Ak,h3];simp),if_neg (by rw[Ak,h3];simp),Cw (by omega) (by omega),Aa,Aa,show p.drop (frontS p).1.toNat=hdr p from rfl,Ba5 _ (by omega),Bf0 _ (by omega),Aa]
  exact⟨_,rfl,rfl⟩
 ·rw[if_neg h0,if_neg h0,Bool.or_comm]
  by_cases h1:(geq (Ac g) 0||Cc a (Ac g))=true
  ·rw[if_pos h1,if_pos h1]
   exact⟨_,rfl,rfl⟩
  ·rw[if_neg h1,if_neg h1,Bbp p (by omega),Bqj p (by omega),Aa,Aa]
   simp only
   refine⟨(Ag2 p).2,rfl,?_⟩
   rcases Bwe p with h|h
   ·rw[if_neg (by rw[h];decide),h]
   ·rw[if_pos (by rw[h];decide),h]
end
theorem Bw0(l:LI)(h:l.length≤2000):Ot l l=some true:=by
 have key:∀(j i q:Nat),i+j=l.length→j<q→El l l q (i:Int)=some true:=by
  intro j
  induction j with
  |zero=>
   intro i q hi hq
   obtain⟨q,rfl⟩:∃k,q=k+1:=⟨q-1,by omega⟩
   rw[El,Ks,if_neg (by rw[Af,Ac];simp;omega)];rfl
  |succ j ih=>
   intro i q hi hq
   obtain⟨q,rfl⟩:∃k,q=k+1:=⟨q-1,by omega⟩
   have hlt:i<l.length:=by omega
   rw[El,Ks,if_pos (by rw[Af,Ac];simp;omega),Cl hlt,Aa,Aa,if_neg (by rw[Ak];simp),Ah (by omega) (by omega)]
   exact ih (i+1) q (by omega) (by omega)
 rw[Ot,Qx,if_neg (by rw[Ak];simp)]
 exact key l.length 0 FUEL (by omega) (by have:=Ap;omega)
theorem Bu0(t1 t2:LB)(t3 t4 t5 t6 t7:Int)(t8:LI)(t9:Int)(t10:LB)(t11:Bool)(t12:Int)(h:t8.length≤2000):Lm t1 t2 t3 t4 t5 t6 t7 t8 t9 t10 t11 t12 t1 t2 t3 t4 t5 t6 t7 t8 t9 t10 t11 t12=some true:=by
 rw[Lm,if_pos (by simp[Aq]),Bw0 t8 h,Aa]
 simp[Aq]
end Go.Pl
set_option linter.unusedVariables false
set_option linter.unusedSimpArgs false
namespace Go.Pl
open Go Go.Lv
theorem bnd{α β:Type}{o:Option α}{f:α→Option β}{r:β}(h:Option.bind o f=some r):∃x,o=some x∧f x=some r:=by
 cases o with
 |none=>cases h
 |some x=>exact⟨x,rfl,h⟩
theorem Bx4{α:Type}{l:List α}{i:Int}{x:α}(h:Go.Lv.getI l i=some x):x∈l:=by
 unfold Go.Lv.getI at h
 split at h
 ·exact List.mem_of_getElem? h
 ·cases h
theorem Bgw{o p:LB}(q:LB){f c w r n:Int}{g:LI}{a:Int}{x:LB}{u:Bool}{v:Int}{y:LB}{e:Int}(hg:∀z∈g,0≤z)(h:Ch o p f c w r n g a x u v=some (y,e))(he:e≠ -1):Ch o (p++q) f c w r n g a x u v=some (y,e):=by
 rw[Ch,Ec]at h⊢
 obtain⟨l,hl,h⟩:=bnd h
 have hl0:=hg l (Bx4 hl)
 rw[hl,Aa]
 by_cases hc:(p.length:Int)<l
 ·rw[if_pos (by rw[Af,Ac];simpa using hc)]at h
  cases h;exact absurd rfl he
 ·have hc':¬(Cc (Ac (p++q)) l=true):=by rw[Af,Ac,List.length_append];simp;omega
  rw[if_neg (by rw[Af,Ac];simpa using hc)]at h
  rw[if_neg hc',Cv hl0 (by rw[List.length_append];omega),Mh (by omega)]
  rw[Cv hl0 (by omega)]at h
  simpa only[Ed,Ga]using h
theorem Bmv{f c w r n:Int}{F C W R N:Nat}(hd:HdI f c w r n F C W R N){p:LB}(q:LB)(hp:(p++q).length≤100000){A:Nat}(hA:A≤p.length){k:Int}{l:LI}{e:Int}(h:Cr p f c w r n (A:Int)=some (k,l,e))(he:e≠ -1):
  Cr (p++q) f c w r n (A:Int)=some (k,l,e)∧(e=0→0≤k∧k≤p.length):=by
 have hp':p.length≤100000:=by rw[List.length_append]at hp;omega
 obtain⟨_,t2,t3⟩:=Bgs hd [] p hp' A hA 0 [] false 0
 obtain⟨_,s2,_⟩:=Bgs hd [] (p++q) hp A (by rw[List.length_append];omega) 0 [] false 0
 rw[t2]at h
 rw[s2,List.drop_append_of_le_length hA]
 by_cases h1:(seekS (p.drop A) (framesL (longN R) N).length).2=24
 ·rw[if_pos h1]at h
  cases h;exact absurd rfl he
 ·rw[if_neg h1]at h
  rw[Bv9 q _ h1,if_neg h1]
  refine⟨h,fun e0=>?_⟩
  cases h
  have:=t3 e0
  constructor
  ·omega
  ·exact this
theorem Bfd{f c w r n:Int}{F C W R N:Nat}(hd:HdI f c w r n F C W R N){o p:LB}(q:LB)(hp:(p++q).length≤100000){k:Int}{l:LI}{e:Int}(h:Da p f c w r n o=some (k,l,e))(he:e≠ -1):
  Da (p++q) f c w r n o=some (k,l,e)∧(e=0→0≤k∧k≤p.length):=by
 rw[Da,Fx]at h⊢
 by_cases hf:geq f 2=true
 ·rw[if_pos hf]at h⊢
  by_cases h8:p.length<8
  ·rw[if_pos (by rw[Af,Ac];simp;omega)]at h
   cases h;exact absurd rfl he
  ·have n1:¬(Cc (Ac p) 8=true):=by rw[Af,Ac];simp;omega
   have n2:¬(Cc (Ac (p++q)) 8=true):=by rw[Af,Ac,List.length_append];simp;omega
   rw[if_neg n1,Cv (by decide) (by omega),Aa]at h
   rw[if_neg n2,Cv (by decide) (by rw[List.length_append];omega),Aa,Mh (show(8:Int).toNat≤p.length from by simp;omega)]
   obtain⟨y,hy,h⟩:=bnd h
   rw[hy,Aa]
   by_cases hm:(p.take (8:Int).toNat !=y)=true
   ·rw[if_pos hm]at h⊢
    cases h
    exact⟨rfl,fun e=>by cases e⟩
   ·rw[if_neg hm]at h⊢
    exact Bmv hd q hp (A:=8) (by omega) h he
 ·rw[if_neg hf]at h⊢
  exact Bmv hd q hp (A:=0) (by omega) h he
theorem Arh{p q af:LB}{n:Int}(h:Az p n (Ac p)=some af):Az (p++q) n (Ac (p++q))=some (af++q):=by
 unfold Az Ac at h⊢
 split at h
 ·rename_i hc
  cases h
  rw[if_pos ⟨hc.1,by rw[List.length_append];omega,by omega⟩]
  simp only[Int.toNat_natCast,List.take_length]
  rw[List.drop_append_of_le_length (by omega)]
 ·cases h
theorem As4{o p:LB}(q:LB){f c w r n:Int}{g:LI}{a:Int}{x:LB}{u:Bool}{v:Int}(hf:FitD o f c w r n g a x)(hp:(p++q).length≤100000){t1 t2:LB}{t3 t4 t5 t6 t7:Int}{t8:LI}{t9:Int}{t10:LB}{t11:Bool}{t12 e:Int}
  (h:cadenzaref37_take o p f c w r n g a x u v=some (t1,t2,t3,t4,t5,t6,t7,t8,t9,t10,t11,t12,e)) (he:e≠ -1):
  (e=0→cadenzaref37_take o (p++q) f c w r n g a x u v=some (t1,t2++q,t3,t4,t5,t6,t7,t8,t9,t10,t11,t12,0))∧
  (e≠0→∃(s1 s2:LB) (s3 s4 s5 s6 s7:Int) (s8:LI) (s9:Int) (s10:LB) (s11:Bool) (s12:Int),cadenzaref37_take o (p++q) f c w r n g a x u v=some (s1,s2,s3,s4,s5,s6,s7,s8,s9,s10,s11,s12,e)):=by
 have hp':p.length≤100000:=by rw[List.length_append]at hp;omega
 have zero:¬(Ay (0:Int) 0=true):=by decide
 rw[cadenzaref37_take,Bo]at h⊢
 cases hf with
 |new e1 e2 e3 e4 e5 e6 e7 e8=>
  subst e1
  rw[if_pos (by decide),Abw p hp',Aa]at h
  rw[if_pos (by decide),Abw (p++q) hp,Aa]
  have hst:(stS p).2.2.2.2.2.2≠ -1→stS (p++q)=stS p:=Cb3 q
  generalize stS p=z at h hst
  obtain⟨z1,z2,z3,z4,z5,z6,z7⟩:=z
  simp only at h hst
  by_cases hz:Ay z7 0=true
  ·rw[if_pos hz]at h
   simp only[Option.some.injEq,Prod.mk.injEq]at h
   obtain⟨-, -, -, -, -, -, -, -, -, -, -, -,rfl⟩:=h
   rw[hst he]
   simp only
   rw[if_pos hz]
   refine⟨fun e0=>?_,fun _=>⟨_,_,_,_,_,_,_,_,_,_,_,_,rfl⟩⟩
   rw[e0]at hz;exact absurd hz zero
  ·rw[if_neg hz]at h
   have z70:z7=0:=by rw[Ak]at hz;simpa using hz
   rw[hst (by rw[z70];decide)]
   simp only
   rw[if_neg hz]
   obtain⟨af,h1,h⟩:=bnd h
   rw[Arh h1,Aa]
   rw[Fk,Hx]at h⊢
   obtain⟨aw,h2,h⟩:=bnd h
   rw[h2,Aa]
   simp only[Option.some.injEq,Prod.mk.injEq]at h
   obtain⟨rfl,rfl,rfl,rfl,rfl,rfl,rfl,rfl,rfl,rfl,rfl,rfl,rfl⟩:=h
   exact⟨fun e0=>by rw[e0],fun _=>⟨_,_,_,_,_,_,_,_,_,_,_,_,rfl⟩⟩
 |head F C W R N hd hpw e6 e7 e8=>
  subst e6
  have hfn:¬(geq f 0=true):=by rw[Aq];simpa using hd.fnz
  rw[if_neg hfn,Bz,Bp,if_pos (by decide)]at h⊢
  obtain⟨⟨k,l,e1⟩,h1,h⟩:=bnd h
  simp only at h
  by_cases hz:Ay e1 0=true
  ·rw[if_pos hz]at h
   simp only[Option.some.injEq,Prod.mk.injEq]at h
   obtain⟨-, -, -, -, -, -, -, -, -, -, -, -,rfl⟩:=h
   rw[(Bfd hd q hp h1 he).1,Aa]
   simp only
   rw[if_pos hz]
   refine⟨fun e0=>?_,fun _=>⟨_,_,_,_,_,_,_,_,_,_,_,_,rfl⟩⟩
   rw[e0]at hz;exact absurd hz zero
  ·rw[if_neg hz]at h
   have z70:e1=0:=by rw[Ak]at hz;simpa using hz
   rw[(Bfd hd q hp h1 (by rw[z70];decide)).1,Aa]
   simp only
   rw[if_neg hz]
   obtain⟨af,h2,h⟩:=bnd h
   rw[Arh h2,Aa]
   simp only[Option.some.injEq,Prod.mk.injEq]at h
   obtain⟨rfl,rfl,rfl,rfl,rfl,rfl,rfl,rfl,rfl,rfl,rfl,rfl,rfl⟩:=h
   exact⟨fun e0=>rfl,fun e0=>absurd rfl e0⟩
 |tab F C W R N A hd hpw ht hl ea hA=>
  have hfn:¬(geq f 0=true):=by rw[Aq];simpa using hd.fnz
  have ht':=ht
  rw[tabB,Bool.and_eq_true,decide_eq_true_eq]at ht'
  have hgl:¬(geq (Ac g) 0=true):=by
   intro e
   rw[Aq,Ac]at e
   have hl1:=ht'.1.1
   simp only[beq_iff_eq,decide_eq_true_eq]at e
   omega
  rw[if_neg hfn,Bz,Bp,if_neg hgl]at h⊢
  by_cases hend:geq a (Ac g)=true
  ·rw[if_pos hend]at h⊢
   by_cases hm:Ee (Ac p) 4000=true
   ·have hm':Ee (Ac (p++q)) 4000=true:=by rw[As,Ac]at hm⊢;simp only[decide_eq_true_eq]at hm⊢;rw[List.length_append];omega
    rw[if_pos hm]at h
    rw[if_pos hm']
    simp only[Option.some.injEq,Prod.mk.injEq]at h
    obtain⟨-, -, -, -, -, -, -, -, -, -, -, -,rfl⟩:=h
    exact⟨(fun e0=>by cases e0),fun _=>⟨_,_,_,_,_,_,_,_,_,_,_,_,rfl⟩⟩
   ·rw[if_neg hm]at h
    simp only[Option.some.injEq,Prod.mk.injEq]at h
    obtain⟨-, -, -, -, -, -, -, -, -, -, -, -,rfl⟩:=h
    exact absurd rfl he
  ·rw[if_neg hend]at h⊢
   have hpos:∀z∈g,0≤z:=by
    have:=(Ajt g 100000 (by omega)).1 ht'.2
    intro z hz
    have:=this.1 z hz
    omega
   obtain⟨⟨y,e1⟩,h1,h⟩:=bnd h
   simp only at h
   by_cases hz:Ay e1 0=true
   ·rw[if_pos hz]at h
    simp only[Option.some.injEq,Prod.mk.injEq]at h
    obtain⟨-, -, -, -, -, -, -, -, -, -, -, -,rfl⟩:=h
    rw[Bgw q hpos h1 he,Aa]
    simp only
    rw[if_pos hz]
    refine⟨fun e0=>?_,fun _=>⟨_,_,_,_,_,_,_,_,_,_,_,_,rfl⟩⟩
    rw[e0]at hz;exact absurd hz zero
   ·rw[if_neg hz]at h
    have z70:e1=0:=by rw[Ak]at hz;simpa using hz
    rw[Bgw q hpos h1 (by rw[z70];decide),Aa]
    simp only
    rw[if_neg hz]
    obtain⟨an,h2,h⟩:=bnd h
    rw[h2,Aa]
    obtain⟨ah,h3,h⟩:=bnd h
    rw[h3,Aa]
    obtain⟨ad,h4,h⟩:=bnd h
    rw[h4,Aa]
    obtain⟨ae,h5,h⟩:=bnd h
    rw[Arh h5,Aa]
    simp only[Option.some.injEq,Prod.mk.injEq]at h
    obtain⟨rfl,rfl,rfl,rfl,rfl,rfl,rfl,rfl,rfl,rfl,rfl,rfl,rfl⟩:=h
    exact⟨fun e0=>rfl,fun e0=>absurd rfl e0⟩
end Go.Pl
set_option linter.unusedVariables false
set_option linter.unusedSimpArgs false
namespace Go.Pl
open Go Go.Lv
def Cg0(o:LB)(K:Nat)(u:Bool)(v:Int)(X Y:Option Cin):Prop:=∃(t1 t2:LB) (t3 t4 t5 t6 t7:Int) (t8:LI) (t9:Int) (t10:LB) (t11:Bool) (t12 e:Int),X=some (t1,t2,t3,t4,t5,t6,t7,t8,t9,t10,t11,t12,e)∧Y=some (t1,t2,t3,t4,t5,t6,t7,t8,t9,t10,t11,t12,e)∧t10.length≤13000000∧
 (e=0→t1=o∧t2.length≤K∧FitD o t3 t4 t5 t6 t7 t8 t9 t10∧SzD t2 t8 t9 t10∧t11=u∧t12=v)
theorem Bfi(K:Nat):∀(k q1 q2:Nat) (o p:LB) (f c w r n:Int) (g:LI) (a:Int) (x:LB) (u:Bool) (v:Int),FitD o f c w r n g a x→o.length≤64→SzD p g a x→p.length≤K→muD f g a<k→k≤q1→k≤q2→
  Cg0 o K u v (Ar o u v q1 p f c w r n a g x) (Be q2 o p f c w r n g a x u v)
 |0,_,_,_,_,_,_,_,_,_,_,_,_,_,_,_,_,_,_,h,_,_=>by omega
 |k+1,q1,q2,o,p,f,c,w,r,n,g,a,x,u,v,hf,ho,hZ,hK,hm,h1,h2=>by
  obtain⟨q1,rfl⟩:∃q,q1=q+1:=⟨q1-1,by omega⟩
  obtain⟨q2,rfl⟩:∃q,q2=q+1:=⟨q2-1,by omega⟩
  have hx:x.length≤13000000:=by have:=hZ.hx;omega
  rw[Ar,Be,Df]
  have hS:StepR (Ar o u v q1) o p f c w r n g a x u v:=Bez hf ho hZ
  cases hS with
  |wait hF hT=>
   rw[hT,Aa]
   simp only
   rw[if_pos (by decide),Aum hZ.hp (by have:=hZ.hg;omega) hx,Aa]
   exact⟨_,_,_,_,_,_,_,_,_,_,_,_,_,hF,rfl,hx,fun _=>⟨rfl,hK,hf,hZ,rfl,rfl⟩⟩
  |err e he hF hT=>
   rw[hT,Aa]
   simp only
   rw[if_neg (by rw[Ast (by omega)];decide),if_pos (by rw[Ak];simp;omega),Bhw hx,Aa]
   exact⟨_,_,_,_,_,_,_,_,_,_,_,_,_,hF,rfl,hx,fun h=>absurd h (by omega)⟩
  |next p' f' c' w' r' n' g' a' x' hF hT hf' hZ' hle hmu=>
   rw[hT,Aa]
   simp only
   rw[if_neg (by decide),if_neg (by decide)]
   have ih:=Bfi K k q1 q2 o p' f' c' w' r' n' g' a' x' u v hf' ho hZ' (by omega) (by omega) (by omega) (by omega)
   have hF':Hv (Nd (Ar o u v q1) o u v) (Sn (Ar o u v q1) o u v) (Kl (Ar o u v q1) o u v) (Tn (Ar o u v q1) o u v) (Ka (Ar o u v q1) o u v) (Ng (Ar o u v q1) o u v) (Sy (Ar o u v q1) o u v) (Bn (Ar o u v q1) o u v) (Aae (Ar o u v q1) o u v) o u v p f c w r n a g x=Ar o u v q1 p' f' c' w' r' n' a' g' x':=hF
   rw[hF']
   exact ih
theorem Cg3{o p:LB}{f c w r n:Int}{g:LI}{a:Int}{x:LB}(ho:o.length≤64)(hf:FitD o f c w r n g a x)(hZ:SzD p g a x)(b:LB)(hp:p.length≤20000)(hb:b.length≤20000):
  Cg0 o (p.length+b.length) false 0 (Hm o p f c w r n g a x false 0 b) (Im o p f c w r n g a x false 0 b):=by
 have hx:x.length≤13000000:=by have:=hZ.hx;omega
 have hg:g.length≤2000:=by have:=hZ.hg;omega
 obtain⟨E,e1,e2⟩:=Bfl o p f c w r n g a x false 0 (by omega) (by omega) (by omega)
 rw[Hm,Va,Azc hp hg hx e1,Im,Ql,e2,Aa]
 by_cases h:E≠0
 ·rw[if_pos h,Aa,if_pos (by rw[Ak];simpa using h)]
  simp only
  rw[if_pos (by rw[Ak];simpa using h)]
  exact⟨_,_,_,_,_,_,_,_,_,_,_,_,_,rfl,rfl,by simp,fun h'=>absurd h' h⟩
 have h0:E=0:=by simpa using h
 subst h0
 have hE:¬(Ay (0:Int) 0=true):=by decide
 rw[if_neg h,Aa,if_neg hE,Aum (by omega) hg (by omega),Aa]
 simp only
 have hF:¬(false=true):=by decide
 rw[Qe,if_neg (show ¬((0:Int)≠0)from fun h=>h rfl),if_neg hF]
 repeat (first|rw[Aa]|rw[if_neg hE]|rw[if_neg hF])
 rw[Cs (by omega)]
 rw[Aa,Aa]
 have hZ':SzD (p++b) g a x:=⟨by rw[List.length_append];omega,hZ.hg,hZ.hx⟩
 exact Bfi _ 1004 FUEL FUEL o (p++b) f c w r n g a x false 0 hf ho hZ' (by rw[List.length_append];exact Nat.le_refl _) (Byp hZ') (by have:=Ap;omega) (by have:=Ap;omega)
end Go.Pl
set_option linter.unusedVariables false
set_option linter.unusedSimpArgs false
namespace Go.Pl
open Go Go.Lv
def OutB(f c w r n:Int)(g:LI)(a:Int)(x:LB):Prop:=∀(F C W R N A:Nat),HdI f c w r n F C W R N→g≠ []→a=(A:Int)→(x.length:Int)≤Acx C W (framesL (longN R) N) A
theorem OutB.nil{f c w r n:Int}{a:Int}{x:LB}:OutB f c w r n [] a x:=fun _ _ _ _ _ _ _ h=>absurd rfl h
theorem OutB.zero{f c w r n:Int}{g:LI}:OutB f c w r n g 0 []:=fun F C W R N A h hg ha=>by
 obtain rfl:A=0:=by omega
 rw[Brx];simp
theorem Bq6{o p:LB}{f c w r n:Int}{F C W R N:Nat}(hd:HdI f c w r n F C W R N)(ho:o.length≤64)(hp:p.length≤100000){g:LI}(ht:tabB g=true)(hl:g.length=(framesL (longN R) N).length){A:Nat}(hA:A<g.length){x:LB}{u:Bool}{v:Int}{y:LB}{e:Int}
  (h:Ch o p f c w r n g (A:Int) x u v=some (y,e)) (he:e=0):∃m:Nat,(framesL (longN R) N)[A]'(by omega)=(m:Int)∧y.length=m*C*wB (W:Int):=by
 subst he
 have hlt2:A<(framesL (longN R) N).length:=by omega
 have hnum:=hd.num
 rw[tabB,Bool.and_eq_true,decide_eq_true_eq,Ajt g 100000 (by omega)]at ht
 obtain⟨ht1,g5,gs⟩:=ht
 have h5:=g5 g[A] (List.getElem_mem hA)
 rw[Ch,Ec,Cl hA,Aa]at h
 by_cases hw:(p.length:Int)<g[A]
 ·rw[if_pos (by rw[Af,Ac];simpa using hw)]at h
  cases h
 rw[if_neg (by rw[Af,Ac];simpa using hw)]at h
 obtain⟨m,hm,m1,m2⟩:=Acb (Vn R) hnum.2.2.2.2.1 (List.getElem_mem hlt2)
 have hb:Cm w:=by rw[hd.ew];unfold Cm;omega
 obtain⟨xs,e,d1,d2,d3,d4⟩:=Ahp (bits:=w) (ch:=C) (n:=m) (t:=tapsOf o) (p.take g[A].toNat) hb (Yg o) hnum.2.1.1 hnum.2.1.2 m1 (by omega)
 rw[Au7 o ho,Aa]at h
 simp only at h
 rw[Cv (by omega) (by omega),Aa,Fh,Aa]at h
 simp only at h
 rw[hd.Brs,Aa,Cl hlt2,Aa,Aa,hm,hd.ec]at h
 rw[d2,Aa]at h
 simp only at h
 rw[Ed,Ga]at h
 by_cases he:e≠0
 ·rw[if_pos (by rw[Ak];simpa using he)]at h
  cases h;exact absurd rfl he
 ·have he0:e=0:=by simpa using he
  obtain⟨k1,k2,k3⟩:=d3 he0
  rw[if_neg (by rw[Ak,he0];simp),Aot hb k2 k1,Aa]at h
  cases h
  refine⟨m,hm,?_⟩
  rw[Amu hb,k3,hd.ew]
theorem Bx6{o p:LB}{f c w r n:Int}{g:LI}{a:Int}{x:LB}{u:Bool}{v:Int}(hf:FitD o f c w r n g a x)(ho:o.length≤64)(hZ:SzD p g a x)(hO:OutB f c w r n g a x){t1 t2:LB}{t3 t4 t5 t6 t7:Int}{t8:LI}{t9:Int}{t10:LB}{t11:Bool}{t12:Int}
  (h:cadenzaref37_take o p f c w r n g a x u v=some (t1,t2,t3,t4,t5,t6,t7,t8,t9,t10,t11,t12,0)):OutB t3 t4 t5 t6 t7 t8 t9 t10:=by
 have hp':=hZ.hp
 have zero:¬(Ay (0:Int) 0=true):=by decide
 rw[cadenzaref37_take,Bo]at h
 cases hf with
 |new e1 e2 e3 e4 e5 e6 e7 e8=>
  subst e1 e6 e7 e8
  rw[if_pos (by decide),Abw p hp',Aa]at h
  generalize stS p=z at h
  obtain⟨z1,z2,z3,z4,z5,z6,z7⟩:=z
  simp only at h
  by_cases hz:Ay z7 0=true
  ·rw[if_pos hz]at h
   simp only[Option.some.injEq,Prod.mk.injEq]at h
   obtain⟨-, -, -, -, -, -, -,rfl, -⟩:=h
   exact OutB.nil
  ·rw[if_neg hz]at h
   obtain⟨af,h1,h⟩:=bnd h
   rw[Fk,Hx]at h
   obtain⟨aw,h2,h⟩:=bnd h
   simp only[Option.some.injEq,Prod.mk.injEq]at h
   obtain⟨-, -, -, -, -, -, -,rfl, -⟩:=h
   exact OutB.nil
 |head F C W R N hd hpw e6 e7 e8=>
  subst e6 e7 e8
  have hfn:¬(geq f 0=true):=by rw[Aq];simpa using hd.fnz
  rw[if_neg hfn,Bz,Bp,if_pos (by decide)]at h
  obtain⟨⟨k,l,e1⟩,h1,h⟩:=bnd h
  simp only at h
  by_cases hz:Ay e1 0=true
  ·rw[if_pos hz]at h
   simp only[Option.some.injEq,Prod.mk.injEq]at h
   obtain⟨-, -, -, -, -, -, -,rfl, -⟩:=h
   exact OutB.nil
  ·rw[if_neg hz]at h
   obtain⟨af,h2,h⟩:=bnd h
   simp only[Option.some.injEq,Prod.mk.injEq]at h
   obtain⟨-, -, -, -, -, -, -, -,rfl,rfl, -⟩:=h
   exact OutB.zero
 |tab F C W R N A hd hpw ht hl ea hA=>
  subst ea
  have hfn:¬(geq f 0=true):=by rw[Aq];simpa using hd.fnz
  have ht':=ht
  rw[tabB,Bool.and_eq_true,decide_eq_true_eq]at ht'
  have hgl:¬(geq (Ac g) 0=true):=by
   intro e
   rw[Aq,Ac]at e
   have hl1:=ht'.1.1
   simp only[beq_iff_eq,decide_eq_true_eq]at e
   omega
  have hne:g≠ []:=by intro e;subst e;simp at ht'
  rw[if_neg hfn,Bz,Bp,if_neg hgl]at h
  by_cases hend:geq (A:Int) (Ac g)=true
  ·rw[if_pos hend]at h
   by_cases hm:Ee (Ac p) 4000=true
   ·rw[if_pos hm]at h
    simp only[Option.some.injEq,Prod.mk.injEq]at h
    exact absurd h.2.2.2.2.2.2.2.2.2.2.2.2 (by decide)
   ·rw[if_neg hm]at h
    simp only[Option.some.injEq,Prod.mk.injEq]at h
    exact absurd h.2.2.2.2.2.2.2.2.2.2.2.2 (by decide)
  ·rw[if_neg hend]at h
   have hlt:A<g.length:=by
    rw[Aq,Ac]at hend
    simp only[beq_iff_eq]at hend
    omega
   obtain⟨⟨y,e1⟩,h1,h⟩:=bnd h
   simp only at h
   by_cases hz:Ay e1 0=true
   ·rw[if_pos hz]at h
    simp only[Option.some.injEq,Prod.mk.injEq]at h
    have:=h.2.2.2.2.2.2.2.2.2.2.2.2
    rw[this]at hz;exact absurd hz zero
   ·rw[if_neg hz]at h
    have z70:e1=0:=by rw[Ak]at hz;simpa using hz
    obtain⟨m,hm,hy⟩:=Bq6 hd ho hp' ht hl hlt h1 z70
    obtain⟨an,h2,h⟩:=bnd h
    obtain⟨ah,h3,h⟩:=bnd h
    obtain⟨ad,h4,h⟩:=bnd h
    obtain⟨ae,h5,h⟩:=bnd h
    simp only[Option.some.injEq,Prod.mk.injEq]at h
    obtain⟨-, -,rfl,rfl,rfl,rfl,rfl,rfl,rfl,rfl, -⟩:=h
    intro F' C' W' R' N' A' hd' _ ha'
    have eqs:C'=C∧W'=W∧R'=R∧N'=N:=by
     have q1:=hd.ec.symm.trans hd'.ec
     have q2:=hd.ew.symm.trans hd'.ew
     have q3:=hd.er.symm.trans hd'.er
     have q4:=hd.en.symm.trans hd'.en
     omega
    obtain⟨rfl,rfl,rfl,rfl⟩:=eqs
    have hold:=hO F C' W' R' N' A hd hne rfl
    have e2:Ae (A:Int) 1=((A+1:Nat):Int):=by rw[Ah (by omega) (by omega)];omega
    rw[e2]at ha'
    obtain rfl:A'=A+1:=by omega
    have hah:ah.length=x.length+y.length:=by
     unfold Cx at h2 h3
     split at h2
     ·cases h2
      split at h3
      ·cases h3;simp
      ·cases h3
     ·cases h2
    have hpos:∀z∈framesL (longN R') N',0≤z:=by
     intro z hz
     obtain⟨m,hm,m1,m2⟩:=Acb (Vn R') hd.num.2.2.2.2.1 hz
     omega
    rw[Bqn C' W' hpos (by omega) hm,hah,hy]
    omega
theorem Bd2{o p:LB}{f c w r n:Int}{g:LI}{a:Int}{x:LB}(hf:FitD o f c w r n g a x)(ho:o.length≤64)(hO:OutB f c w r n g a x){t1 t2:LB}{t3 t4 t5 t6 t7:Int}{t8:LI}{t9:Int}{t10:LB}{t11:Bool}{t12:Int}
  (h:cadenzaref37_take o p f c w r n g a x false 0=some (t1,t2,t3,t4,t5,t6,t7,t8,t9,t10,t11,t12, -1)):Bt o p f c w r n g a x false 0=some 0:=by
 have h4:Bf o p f c w r n g a x false 0=some true:=by
  rw[Bf,Wn,h,Aa]
  rfl
 have hr:Hr o p f c w r n g a x false 0=some true:=by
  rw[Hr,Oc]
  cases hf with
  |new e1 e2 e3 e4 e5 e6 e7 e8=>
   subst e1 e2 e3 e4 e5 e6 e7 e8
   rw[if_pos (by decide),if_neg (by decide)]
   exact h4
  |head F C W R N hd hpw e6 e7 e8=>
   subst e6 e7 e8
   have hz:¬(((geq f 0)&&((geq c 0)&&((geq w 0)&&((geq r 0)&&((geq n 0)&&true)))))=true):=by
    simp only[Bool.and_eq_true,Aq,beq_iff_eq,and_true]
    exact fun e=>hd.fnz e.1
   have hff:geq f 1=decide (F=1):=by rw[hd.ef,Aq,Bool.eq_iff_iff];simp;omega
   rw[if_neg hz,hd.check,Aa,if_neg (by decide),Dh,hff,hpw,if_neg (by simp),Aa,if_neg (by decide),Jq,Ju,if_pos (by decide),if_neg (by decide)]
   exact h4
  |tab F C W R N A hd hpw ht hl ea hA=>
   subst ea
   have hz:¬(((geq f 0)&&((geq c 0)&&((geq w 0)&&((geq r 0)&&((geq n 0)&&true)))))=true):=by
    simp only[Bool.and_eq_true,Aq,beq_iff_eq,and_true]
    exact fun e=>hd.fnz e.1
   have hff:geq f 1=decide (F=1):=by rw[hd.ef,Aq,Bool.eq_iff_iff];simp;omega
   have ht':=ht
   rw[tabB,Bool.and_eq_true,decide_eq_true_eq]at ht'
   have hgl:¬(geq (Ac g) 0=true):=by
    intro e
    rw[Aq,Ac]at e
    have hl1:=ht'.1.1
    simp only[beq_iff_eq,decide_eq_true_eq]at e
    omega
   have hne:g≠ []:=by intro e;subst e;simp at ht'
   have hout:=hO F C W R N A hd hne rfl
   rw[if_neg hz,hd.check,Aa,if_neg (by decide),Dh,hff,hpw,if_neg (by simp),Aa,if_neg (by decide),Jq,Ju,if_neg hgl,Aoq,Aa,if_pos ht,if_neg (by decide),hd.Brs,Aa]
   rw[if_neg (by simp[Ak,Af,As,Ac];omega)]
   obtain⟨rfl,rfl,rfl,rfl,rfl,hs,hfit⟩:=hd
   rw[Bot hs hfit A (by omega),Aa,if_neg (by rw[As,Ac];simp;omega)]
   exact h4
 have hO':¬(Ee (Ac o) 64=true):=by rw[As,Ac];simp;omega
 rw[Bt,if_neg hO',if_pos (by decide),hr,Aa]
 rfl
end Go.Pl
set_option linter.unusedVariables false
set_option linter.unusedSimpArgs false
namespace Go.Pl
open Go Go.Lv
theorem Bvr{o p:LB}{f c w r n:Int}{F C W R N:Nat}(hd:HdI f c w r n F C W R N)(ho:o.length≤64)(hp:p.length≤100000){g:LI}(ht:tabB g=true)(hl:g.length=(framesL (longN R) N).length){A:Nat}(hA:A<g.length){x:LB}{u:Bool}{v:Int}{y:LB}{e:Int}
  (h:Ch o p f c w r n g (A:Int) x u v=some (y,e)) (he:e≠ -1):Cd e:=by
 have hlt2:A<(framesL (longN R) N).length:=by omega
 have hnum:=hd.num
 rw[tabB,Bool.and_eq_true,decide_eq_true_eq,Ajt g 100000 (by omega)]at ht
 obtain⟨ht1,g5,gs⟩:=ht
 have h5:=g5 g[A] (List.getElem_mem hA)
 rw[Ch,Ec,Cl hA,Aa]at h
 by_cases hw:(p.length:Int)<g[A]
 ·rw[if_pos (by rw[Af,Ac];simpa using hw)]at h
  cases h;exact absurd rfl he
 rw[if_neg (by rw[Af,Ac];simpa using hw)]at h
 obtain⟨m,hm,m1,m2⟩:=Acb (Vn R) hnum.2.2.2.2.1 (List.getElem_mem hlt2)
 have hb:Cm w:=by rw[hd.ew];unfold Cm;omega
 obtain⟨xs,e',d1,d2,d3,d4⟩:=Ahp (bits:=w) (ch:=C) (n:=m) (t:=tapsOf o) (p.take g[A].toNat) hb (Yg o) hnum.2.1.1 hnum.2.1.2 m1 (by omega)
 have hcd:=Bjr hb (Yg o) hnum.2.1.1 hnum.2.1.2 m1 (by omega) d2
 rw[Au7 o ho,Aa]at h
 simp only at h
 rw[Cv (by omega) (by omega),Aa,Fh,Aa]at h
 simp only at h
 rw[hd.Brs,Aa,Cl hlt2,Aa,Aa,hm,hd.ec]at h
 rw[d2,Aa]at h
 simp only at h
 rw[Ed,Ga]at h
 by_cases he:e'≠0
 ·rw[if_pos (by rw[Ak];simpa using he)]at h
  cases h;exact hcd
 ·have he0:e'=0:=by simpa using he
  obtain⟨k1,k2,k3⟩:=d3 he0
  rw[if_neg (by rw[Ak,he0];simp),Aot hb k2 k1,Aa]at h
  cases h
  exact .inl rfl
theorem Bsa{f c w r n:Int}{F C W R N:Nat}(hd:HdI f c w r n F C W R N){p:LB}(hp:p.length≤100000){A:Nat}(hA:A≤p.length){k:Int}{l:LI}{e:Int}(h:Cr p f c w r n (A:Int)=some (k,l,e))(he:e≠ -1):Cd e:=by
 obtain⟨_,t2,t3⟩:=Bgs hd [] p hp A hA 0 [] false 0
 rw[t2]at h
 by_cases h1:(seekS (p.drop A) (framesL (longN R) N).length).2=24
 ·rw[if_pos h1]at h
  cases h;exact absurd rfl he
 ·rw[if_neg h1]at h
  cases h
  exact Bxr _ (Bev hd.fit)
theorem Bu8{f c w r n:Int}{F C W R N:Nat}(hd:HdI f c w r n F C W R N){o p:LB}(hp:p.length≤100000){k:Int}{l:LI}{e:Int}(h:Da p f c w r n o=some (k,l,e))(he:e≠ -1):Cd e:=by
 rw[Da,Fx]at h
 by_cases hf:geq f 2=true
 ·rw[if_pos hf]at h
  by_cases h8:p.length<8
  ·rw[if_pos (by rw[Af,Ac];simp;omega)]at h
   cases h;exact absurd rfl he
  ·have n1:¬(Cc (Ac p) 8=true):=by rw[Af,Ac];simp;omega
   rw[if_neg n1]at h
   obtain⟨z,hz,h⟩:=bnd h
   obtain⟨y,hy,h⟩:=bnd h
   by_cases hm:(z !=y)=true
   ·rw[if_pos hm]at h
    cases h;decide
   ·rw[if_neg hm]at h
    exact Bsa hd hp (A:=8) (by omega) h he
 ·rw[if_neg hf]at h
  exact Bsa hd hp (A:=0) (by omega) h he
theorem Cf2(p:LB):(stS p).2.2.2.2.2.2= -1∨Cd (stS p).2.2.2.2.2.2:=by
 unfold stS
 repeat' split
 ·exact .inl rfl
 ·exact .inr (Bak p)
 ·exact .inl rfl
 ·exact .inl rfl
 ·exact .inr (Bhx _)
theorem Cd1{o p:LB}{f c w r n:Int}{g:LI}{a:Int}{x:LB}{u:Bool}{v:Int}(hf:FitD o f c w r n g a x)(ho:o.length≤64)(hp':p.length≤100000){t1 t2:LB}{t3 t4 t5 t6 t7:Int}{t8:LI}{t9:Int}{t10:LB}{t11:Bool}{t12 e:Int}
  (h:cadenzaref37_take o p f c w r n g a x u v=some (t1,t2,t3,t4,t5,t6,t7,t8,t9,t10,t11,t12,e)) (he:e≠ -1):Cd e:=by
 have zero:¬(Ay (0:Int) 0=true):=by decide
 rw[cadenzaref37_take,Bo]at h
 cases hf with
 |new e1 e2 e3 e4 e5 e6 e7 e8=>
  subst e1 e6 e7 e8
  rw[if_pos (by decide),Abw p hp',Aa]at h
  have hcd:=Cf2 p
  generalize stS p=z at h hcd
  obtain⟨z1,z2,z3,z4,z5,z6,z7⟩:=z
  simp only at h hcd
  by_cases hz:Ay z7 0=true
  ·rw[if_pos hz]at h
   simp only[Option.some.injEq,Prod.mk.injEq]at h
   obtain⟨-, -, -, -, -, -, -, -, -, -, -, -,rfl⟩:=h
   exact hcd.resolve_left he
  ·rw[if_neg hz]at h
   obtain⟨af,h1,h⟩:=bnd h
   rw[Fk,Hx,Dh]at h
   obtain⟨aw,h2,h⟩:=bnd h
   simp only[Option.some.injEq,Prod.mk.injEq]at h
   obtain⟨-, -, -, -, -, -, -, -, -, -, -, -,rfl⟩:=h
   split at h2
   ·cases h2;decide
   ·cases h2;decide
 |head F C W R N hd hpw e6 e7 e8=>
  subst e6 e7 e8
  have hfn:¬(geq f 0=true):=by rw[Aq];simpa using hd.fnz
  rw[if_neg hfn,Bz,Bp,if_pos (by decide)]at h
  obtain⟨⟨k,l,e1⟩,h1,h⟩:=bnd h
  simp only at h
  by_cases hz:Ay e1 0=true
  ·rw[if_pos hz]at h
   simp only[Option.some.injEq,Prod.mk.injEq]at h
   obtain⟨-, -, -, -, -, -, -, -, -, -, -, -,rfl⟩:=h
   exact Bu8 hd hp' h1 he
  ·rw[if_neg hz]at h
   obtain⟨af,h2,h⟩:=bnd h
   simp only[Option.some.injEq,Prod.mk.injEq]at h
   obtain⟨-, -, -, -, -, -, -, -, -, -, -, -,rfl⟩:=h
   exact .inl rfl
 |tab F C W R N A hd hpw ht hl ea hA=>
  subst ea
  have hfn:¬(geq f 0=true):=by rw[Aq];simpa using hd.fnz
  have ht':=ht
  rw[tabB,Bool.and_eq_true,decide_eq_true_eq]at ht'
  have hgl:¬(geq (Ac g) 0=true):=by
   intro e
   rw[Aq,Ac]at e
   have hl1:=ht'.1.1
   simp only[beq_iff_eq,decide_eq_true_eq]at e
   omega
  rw[if_neg hfn,Bz,Bp,if_neg hgl]at h
  by_cases hend:geq (A:Int) (Ac g)=true
  ·rw[if_pos hend]at h
   by_cases hm:Ee (Ac p) 4000=true
   ·rw[if_pos hm]at h
    simp only[Option.some.injEq,Prod.mk.injEq]at h
    obtain⟨-, -, -, -, -, -, -, -, -, -, -, -,rfl⟩:=h
    decide
   ·rw[if_neg hm]at h
    simp only[Option.some.injEq,Prod.mk.injEq]at h
    exact absurd h.2.2.2.2.2.2.2.2.2.2.2.2.symm he
  ·rw[if_neg hend]at h
   have hlt:A<g.length:=by
    rw[Aq,Ac]at hend
    simp only[beq_iff_eq]at hend
    omega
   obtain⟨⟨y,e1⟩,h1,h⟩:=bnd h
   simp only at h
   by_cases hz:Ay e1 0=true
   ·rw[if_pos hz]at h
    simp only[Option.some.injEq,Prod.mk.injEq]at h
    obtain⟨-, -, -, -, -, -, -, -, -, -, -, -,rfl⟩:=h
    exact Bvr hd ho hp' ht hl hlt h1 he
   ·rw[if_neg hz]at h
    obtain⟨an,h2,h⟩:=bnd h
    obtain⟨ah,h3,h⟩:=bnd h
    obtain⟨ad,h4,h⟩:=bnd h
    obtain⟨ae,h5,h⟩:=bnd h
    simp only[Option.some.injEq,Prod.mk.injEq]at h
    obtain⟨-, -, -, -, -, -, -, -, -, -, -, -,rfl⟩:=h
    exact .inl rfl
theorem Bw6{o:LB}{f c w r n:Int}{g:LI}{a:Int}{x:LB}(hf:FitD o f c w r n g a x)(hO:OutB f c w r n g a x):x.length≤12000:=by
 cases hf with
 |new e1 e2 e3 e4 e5 e6 e7 e8=>subst e8;simp
 |head F C W R N hd hpw e6 e7 e8=>subst e8;simp
 |tab F C W R N A hd hpw ht hl ea hA=>
  have hne:g≠ []:=by intro e;subst e;simp[tabB]at ht
  have h:=hO F C W R N A hd hne ea
  obtain⟨g1,g2,g3⟩:=Aml hd.shape hd.fit
  have b:=Avv g1 A
  have hnum:=hd.num
  have hw:=(Bi6 (W:Int)).2
  have hN:N*C≤4000:=by
   have h1:=Nat.mul_le_mul_right C hnum.2.2.2.2.2.1
   have h2:=Nat.div_mul_le_self 4000 C
   omega
  have hs:((framesL (longN R) N).take A).sum.toNat≤N:=by omega
  rw[Acx]at h
  have hb:((framesL (longN R) N).take A).sum.toNat*(C*wB (W:Int))≤4000*3:=by
   have h1:=Nat.mul_le_mul_right (C*wB (W:Int)) hs
   have h2:=Nat.mul_le_mul hN hw
   rw[←Nat.mul_assoc N]at h1
   omega
  omega
theorem Bjd{o x:LB}{e:Int}(ho:o.length≤64)(hx:x.length≤12000)(he:Cd e)(h0:0<e):Bt o [] 0 0 0 0 0 [] 0 x false e=some 0:=by
 have hO':¬(Ee (Ac o) 64=true):=by rw[As,Ac];simp;omega
 have hX:Ee (Ac x) 12000=false:=by rw[As,Ac];simp;omega
 rw[Bt,if_neg hO',if_neg (by rw[Aq];simp;omega),if_pos (by decide),hX,if_neg (by decide),if_pos (by rw[Ak];simp;omega),if_neg (by decide)]
 obtain rfl|rfl|rfl|rfl|rfl|rfl|rfl|rfl:=he
 ·omega
 all_goals rfl
end Go.Pl
set_option linter.unusedVariables false
set_option linter.unusedSimpArgs false
namespace Go.Pl
open Go Go.Lv
theorem Bi4:∀(k q1 q2:Nat) (o p:LB) (f c w r n:Int) (g:LI) (a:Int) (x:LB) (u:Bool) (v:Int),FitD o f c w r n g a x→o.length≤64→SzD p g a x→muD f g a<k→k≤q1→k≤q2→
  Be q1 o p f c w r n g a x u v=Be q2 o p f c w r n g a x u v
 |0,_,_,_,_,_,_,_,_,_,_,_,_,_,_,_,_,_,h,_,_=>by omega
 |k+1,q1,q2,o,p,f,c,w,r,n,g,a,x,u,v,hf,ho,hZ,hm,h1,h2=>by
  obtain⟨q1,rfl⟩:∃q,q1=q+1:=⟨q1-1,by omega⟩
  obtain⟨q2,rfl⟩:∃q,q2=q+1:=⟨q2-1,by omega⟩
  rw[Be,Be,Df,Df]
  have hS:StepR (Ar o u v q1) o p f c w r n g a x u v:=Bez hf ho hZ
  cases hS with
  |wait hF hT=>
   rw[hT,Aa,Aa]
   simp only
   rw[if_pos (by decide),if_pos (by decide)]
  |err e he hF hT=>
   rw[hT,Aa,Aa]
   simp only
   rw[if_neg (by rw[Ast (by omega)];decide),if_pos (by rw[Ak];simp;omega),if_neg (by rw[Ast (by omega)];decide),if_pos (by rw[Ak];simp;omega)]
  |next p' f' c' w' r' n' g' a' x' hF hT hf' hZ' hle hmu=>
   rw[hT,Aa,Aa]
   simp only
   rw[if_neg (by decide),if_neg (by decide),if_neg (by decide),if_neg (by decide)]
   exact Bi4 k q1 q2 o p' f' c' w' r' n' g' a' x' u v hf' ho hZ' (by omega) (by omega) (by omega)
structure Wt (o p:LB) (f c w r n:Int) (g:LI) (a:Int) (x:LB):Prop where
 fit:FitD o f c w r n g a x
 sz:SzD p g a x
 out:OutB f c w r n g a x
 wait:cadenzaref37_take o p f c w r n g a x false 0=some (o,p,f,c,w,r,n,g,a,x,false,0, -1)
abbrev loopR(q:Nat)(o p:LB)(f c w r n:Int)(g:LI)(a:Int)(x:LB):=Be q o p f c w r n g a x false 0
theorem Bon:∀(k q:Nat) (o p:LB) (f c w r n:Int) (g:LI) (a:Int) (x:LB),FitD o f c w r n g a x→o.length≤64→SzD p g a x→OutB f c w r n g a x→p.length≤100000→muD f g a<k→k≤q→
  (∃(t2:LB) (t3 t4 t5 t6 t7:Int) (t8:LI) (t9:Int) (t10:LB),loopR q o p f c w r n g a x=some (o,t2,t3,t4,t5,t6,t7,t8,t9,t10,false,0,0)∧Wt o t2 t3 t4 t5 t6 t7 t8 t9 t10∧t2.length≤p.length∧muD t3 t8 t9<k∧
   ∀b:LB,(p++b).length≤100000→loopR q o (p++b) f c w r n g a x=loopR q o (t2++b) t3 t4 t5 t6 t7 t8 t9 t10)∨
  (∃(x':LB) (e:Int),0<e∧Cd e∧x'.length≤12000∧∀b:LB,(p++b).length≤100000→loopR q o (p++b) f c w r n g a x=some (o,[],0,0,0,0,0,[],0,x',false,e,e))
 |0,_,_,_,_,_,_,_,_,_,_,_,_,_,_,_,_,h,_=>by omega
 |k+1,q,o,p,f,c,w,r,n,g,a,x,hf,ho,hZ,hO,hp,hm,h1=>by
  obtain⟨q,rfl⟩:∃q',q=q'+1:=⟨q-1,by omega⟩
  have hx:x.length≤13000000:=by have:=hZ.hx;omega
  have hS:StepR (Ar o false 0 q) o p f c w r n g a x false 0:=Bez hf ho hZ
  cases hS with
  |wait hF hT=>
   refine .inl ⟨p,f,c,w,r,n,g,a,x,?_,⟨hf,hZ,hO,hT⟩,Nat.le_refl _,hm,fun b _=>rfl⟩
   rw[loopR,Be,Df,hT,Aa]
   simp only
   rw[if_pos (by decide),Aum hZ.hp (by have:=hZ.hg;omega) hx,Aa]
  |err e he hF hT=>
   refine .inr ⟨x,e,he,Cd1 hf ho hp hT (by omega),Bw6 hf hO,fun b hL=>?_⟩
   obtain⟨s1,s2,s3,s4,s5,s6,s7,s8,s9,s10,s11,s12,hs⟩:=(As4 b hf hL hT (by omega)).2 (by omega)
   rw[loopR,Be,Df,hs,Aa]
   simp only
   rw[if_neg (by rw[Ast (by omega)];decide),if_pos (by rw[Ak];simp;omega),Bhw hx,Aa]
  |next p' f' c' w' r' n' g' a' x' hF hT hf' hZ' hle hmu=>
   have hp':p'.length≤100000:=by omega
   rcases Bon k q o p' f' c' w' r' n' g' a' x' hf' ho hZ' (Bx6 hf ho hZ hO hT) hp' (by omega) (by omega)with⟨t2,t3,t4,t5,t6,t7,t8,t9,t10,k1,k2,k3,k4,k5⟩|⟨x2,e,k1,k2,k3,k4⟩
   ·refine .inl ⟨t2,t3,t4,t5,t6,t7,t8,t9,t10,?_,k2,by omega,by omega,fun b hL=>?_⟩
    ·rw[loopR,Be,Df,hT,Aa]
     simp only
     rw[if_neg (by decide),if_neg (by decide)]
     exact k1
    ·have hs:=(As4 b hf hL hT (by decide)).1 rfl
     have hL':(p'++b).length≤100000:=by rw[List.length_append]at hL⊢;omega
     rw[loopR,Be,Df,hs,Aa]
     simp only
     rw[if_neg (by decide),if_neg (by decide)]
     refine(k5 b hL').trans ?_
     exact Bi4 k q (q+1) o (t2++b) t3 t4 t5 t6 t7 t8 t9 t10 false 0 k2.fit ho ⟨by rw[List.length_append]at hL⊢;omega,k2.sz.hg,k2.sz.hx⟩ k4 (by omega) (by omega)
   ·refine .inr ⟨x2,e,k1,k2,k3,fun b hL=>?_⟩
    have hs:=(As4 b hf hL hT (by decide)).1 rfl
    have hL':(p'++b).length≤100000:=by rw[List.length_append]at hL⊢;omega
    rw[loopR,Be,Df,hs,Aa]
    simp only
    rw[if_neg (by decide),if_neg (by decide)]
    exact k4 b hL'
end Go.Pl
set_option linter.unusedVariables false
set_option linter.unusedSimpArgs false
namespace Go.Pl
open Go Go.Lv
abbrev Fd(o s:LB):=loopR FUEL o s 0 0 0 0 0 [] 0 []
inductive Bh (o s:LB):LB→Int→Int→Int→Int→Int→LI→Int→LB→Int→Prop
 |wt {p:LB} {f c w r n:Int} {g:LI} {a:Int} {x:LB}:Wt o p f c w r n g a x→p.length≤s.length→(∀b:LB,(s++b).length≤100000→Fd o (s++b)=loopR FUEL o (p++b) f c w r n g a x)→Bh o s p f c w r n g a x 0
 |er {x:LB} {e:Int}:0<e→Cd e→x.length≤12000→(∀b:LB,(s++b).length≤100000→Fd o (s++b)=some (o,[],0,0,0,0,0,[],0,x,false,e,e))→Bh o s [] 0 0 0 0 0 [] 0 x e
variable {o s p:LB} {f c w r n:Int} {g:LI} {a:Int} {x:LB} {e:Int}
theorem Bh.new(ho:o.length≤64):Bh o [] [] 0 0 0 0 0 [] 0 [] 0:=by
 refine .wt ⟨.new rfl rfl rfl rfl rfl rfl rfl rfl,⟨by simp,by simp,by simp⟩,OutB.nil,?_⟩ (Nat.le_refl _) fun b _=>rfl
 rw[cadenzaref37_take,Bo,if_pos (by decide),Abw [] (by simp),Aa]
 rfl
theorem Cdb(ho:o.length≤64)(W:Wt o p f c w r n g a x)(b:LB)(hp:p.length≤20000)(hb:b.length≤20000):
  Hm o p f c w r n g a x false 0 b=loopR FUEL o (p++b) f c w r n g a x∧Im o p f c w r n g a x false 0 b=loopR FUEL o (p++b) f c w r n g a x:=by
 have hR:Im o p f c w r n g a x false 0 b=loopR FUEL o (p++b) f c w r n g a x:=by
  have hx:x.length≤13000000:=by have:=W.sz.hx;omega
  have hg:g.length≤2000:=by have:=W.sz.hg;omega
  have hE:¬(Ay (0:Int) 0=true):=by decide
  have hF:¬(false=true):=by decide
  rw[Im,Ql,Bd2 W.fit ho W.out W.wait,Aa,if_neg hE,Aum (by omega) hg hx,Aa]
  simp only
  rw[Qe]
  repeat (first|rw[Aa]|rw[if_neg hE]|rw[if_neg hF])
  rw[Cs (by omega),Aa]
  rfl
 obtain⟨t1,t2,t3,t4,t5,t6,t7,t8,t9,t10,t11,t12,e,h1,h2,_⟩:=Cg3 ho W.fit W.sz b hp hb
 exact⟨h1.trans (h2.symm.trans hR),hR⟩
theorem Bh.check(ho:o.length≤64)(h:Bh o s p f c w r n g a x e)(hp:p.length≤100000):Ie o p f c w r n g a x false e=some 0∧Bt o p f c w r n g a x false e=some 0:=by
 have key:Bt o p f c w r n g a x false e=some 0∧g.length≤1000∧x.length≤13000000:=by
  cases h with
  |wt W hl hb=>exact⟨Bd2 W.fit ho W.out W.wait,W.sz.hg,by have:=W.sz.hx;omega⟩
  |er h0 hc hx hb=>exact⟨Bjd ho hx hc h0,by simp,by omega⟩
 obtain⟨k1,k2,k3⟩:=key
 obtain⟨E,e1,e2⟩:=Bfl o p f c w r n g a x false e hp (by omega) (by omega)
 rw[k1]at e2
 cases e2
 exact⟨e1,k1⟩
theorem Bh.feed(ho:o.length≤64)(h:Bh o s p f c w r n g a x e)(hp:p.length≤20000)(b:LB)(hb:b.length≤20000)(hs:(s++b).length≤100000):
  ∃(p':LB) (f' c' w' r' n':Int) (g':LI) (a':Int) (x':LB) (e':Int),Hm o p f c w r n g a x false e b=some (o,p',f',c',w',r',n',g',a',x',false,e',e')∧
   Im o p f c w r n g a x false e b=some (o,p',f',c',w',r',n',g',a',x',false,e',e')∧Bh o (s++b) p' f' c' w' r' n' g' a' x' e':=by
 have hck:=h.check ho (by omega)
 cases h with
 |wt W hl hB=>
  obtain⟨h1,h2⟩:=Cdb ho W b hp hb
  have hpb:(p++b).length≤100000:=by rw[List.length_append];omega
  have hZ:SzD (p++b) g a x:=⟨hpb,W.sz.hg,W.sz.hx⟩
  rcases Bon 1004 FUEL o (p++b) f c w r n g a x W.fit ho hZ W.out hpb (Byp hZ) (by have:=Ap;omega)with⟨t2,t3,t4,t5,t6,t7,t8,t9,t10,k1,k2,k3,k4,k5⟩|⟨x2,e,k1,k2,k3,k4⟩
  ·refine⟨t2,t3,t4,t5,t6,t7,t8,t9,t10,0,h1.trans k1,h2.trans k1, .wt k2 ?_ fun b2 hL=>?_⟩
   ·rw[List.length_append]at k3⊢;omega
   ·rw[List.append_assoc,hB (b++b2) (by rw[←List.append_assoc];exact hL),←List.append_assoc]
    refine k5 b2 ?_
    rw[List.length_append,List.length_append]at hL⊢;omega
  ·have k4':=k4 [] (by simpa using hpb)
   rw[List.append_nil]at k4'
   refine⟨_,_,_,_,_,_,_,_,_,_,h1.trans k4',h2.trans k4', .er k1 k2 k3 fun b2 hL=>?_⟩
   rw[List.append_assoc,hB (b++b2) (by rw[←List.append_assoc];exact hL),←List.append_assoc]
   refine k4 b2 ?_
   rw[List.length_append,List.length_append]at hL⊢;omega
 |er h0 hc hx hB=>
  have hne:Ay e 0=true:=by rw[Ak];simp;omega
  refine⟨_,_,_,_,_,_,_,_,_,_,?_,?_, .er h0 hc hx fun b2 hL=>?_⟩
  ·rw[Hm,Va,Azc (by simp) (by simp) (by omega) hck.1,if_neg (by decide),Aa]
   simp only
   rw[if_pos (show e≠0 by omega),if_pos hne]
  ·rw[Im,Ql,hck.2,Aa,if_neg (by decide),Aum (by simp) (by simp) (by omega),Aa]
   simp only
   rw[Qe,if_pos hne,Aa,if_pos hne]
  ·rw[List.append_assoc]
   exact hB (b++b2) (by rw[←List.append_assoc];exact hL)
end Go.Pl
set_option linter.unusedVariables false
set_option linter.unusedSimpArgs false
namespace Go.Pl
open Go Go.Lv
section
variable {o s p:LB} {f c w r n:Int} {g:LI} {a:Int} {x:LB} {e:Int}
theorem FitD.drop(h:FitD o f c w r n g a x)(t:Nat):FitD o f c w r n g a (x.drop t):=by
 cases h with
 |new e1 e2 e3 e4 e5 e6 e7 e8=>subst e8;exact .new e1 e2 e3 e4 e5 e6 e7 (by simp)
 |head F C W R N hd hpw e6 e7 e8=>subst e8;exact .head F C W R N hd hpw e6 e7 (by simp)
 |tab F C W R N A hd hpw ht hl ea hA=>exact .tab F C W R N A hd hpw ht hl ea hA
theorem OutB.drop(h:OutB f c w r n g a x)(t:Nat):OutB f c w r n g a (x.drop t):=by
 intro F C W R N A hd hg ha
 have:=h F C W R N A hd hg ha
 rw[List.length_drop];omega
theorem Bh.Cel(h:Bh o s p f c w r n g a x e):p.length≤s.length∧g.length≤1000∧x.length≤12000:=by
 cases h with
 |wt W hl hb=>exact⟨hl,W.sz.hg,Bw6 W.fit W.out⟩
 |er h0 hc hx hb=>exact⟨by simp,by simp,hx⟩
end
theorem Ca4:Uc=some true:=by kernel_rfl
end Go.Pl
set_option linter.unusedVariables false
set_option linter.unusedSimpArgs false
namespace Go.Pl
open Go Go.Lv
section
variable {o s p:LB} {f c w r n:Int} {g:LI} {a:Int} {x:LB} {e:Int}
theorem Bws{u:Bool}{v:Int}(hp:p.length≤20000)(h:Rt o p f c w r n g a x u v=some e):Cd e:=by
 rw[Rt]at h
 split at h
 ·rw[Aql p (by omega),Aa]at h
  have hok:=Aj9 (b:=p)
  simp only at h
  by_cases h2:(frontS p).2≠0
  ·rw[if_pos (by rw[Ak];simpa using h2)]at h
   cases h;exact Bak p
  ·have h3:(frontS p).2=0:=by simpa using h2
   obtain⟨k1,k2,k3⟩:=hok h3
   have hl:(hdr p).length≤p.length:=by rw[hdr,List.length_drop];omega
   rw[if_neg (by rw[Ak,h3];simp),Cw (by omega) (by omega),Aa,show p.drop (frontS p).1.toNat=hdr p from rfl,Bf0 _ (by omega),Aa]at h
   cases h
   exact Bhx _
 ·split at h
  ·cases h;decide
  ·obtain⟨⟨z1,z2⟩,hz,h⟩:=bnd h
   simp only at h
   split at h<;>(cases h;decide)
theorem Cfl{u:Bool}{v k:Int}(ho:o.length≤64)(hx:x.length≤12000)(hk:(u=false∧v=k∧0<k∧Cd k)∨(u=true∧v=0∧k=36)):
  Ie o [] 0 0 0 0 0 [] 0 x u v=some 0∧(∀b,Hm o [] 0 0 0 0 0 [] 0 x u v b=some (o,[],0,0,0,0,0,[],0,x,u,v,k))∧It o [] 0 0 0 0 0 [] 0 x u v=some (o,[],0,0,0,0,0,[],0,x,u,v,k):=by
 have key:Bt o [] 0 0 0 0 0 [] 0 x u v=some 0:=by
  rcases hk with⟨rfl,rfl,h1,h2⟩|⟨rfl,rfl,rfl⟩
  ·exact Bjd ho hx h2 h1
  ·have hX:Ee (Ac x) 12000=false:=by rw[As,Ac];simp;omega
   rw[Bt,if_neg (by rw[As,Ac];simp;omega),if_neg (by decide),if_pos (by decide),hX,if_neg (by decide),if_neg (by decide)]
 obtain⟨E,e1,e2⟩:=Bfl o [] 0 0 0 0 0 [] 0 x u v (by simp) (by simp) (by omega)
 rw[key]at e2
 cases e2
 have hv:(if v≠0 then v else if u=true then 36 else 0)=k:=by
  rcases hk with⟨rfl,rfl,h1,h2⟩|⟨rfl,rfl,rfl⟩
  ·rw[if_pos (by omega)]
  ·rfl
 have hk0:Ay k 0=true:=by
  rw[Ak]
  rcases hk with⟨rfl,rfl,h1,h2⟩|⟨rfl,rfl,rfl⟩
  ·simp;omega
  ·rfl
 have hb:=Azc (o:=o) (p:=[]) (f:=0) (c:=0) (w:=0) (r:=0) (n:=0) (g:=[]) (a:=0) (x:=x) (u:=u) (v:=v) (by simp) (by simp) (by omega) e1
 rw[if_neg (by decide),hv]at hb
 refine⟨e1,fun b=>?_,?_⟩
 ·rw[Hm,Va,hb,Aa]
  simp only
  rw[if_pos hk0]
 ·rw[It,hb,Aa]
  simp only
  rw[if_pos hk0]
theorem Bh.finish(ho:o.length≤64)(h:Bh o s p f c w r n g a x e)(hp:p.length≤20000):
  ∃(u:Bool) (v k:Int),It o p f c w r n g a x false e=some (o,[],0,0,0,0,0,[],0,x,u,v,k)∧((u=false∧v=k∧0<k∧Cd k∧(e=0∨e=k))∨(u=true∧v=0∧k=0)):=by
 have hs:=h.Cel
 have hck:=(h.check ho (by omega)).1
 have hb:=Azc (o:=o) (p:=p) (f:=f) (c:=c) (w:=w) (r:=r) (n:=n) (g:=g) (a:=a) (x:=x) (u:=false) (v:=e) (by omega) (by omega) (by omega) hck
 rw[if_neg (by decide)]at hb
 cases h with
 |wt W hl hB=>
  obtain⟨e1,d1,d2⟩:=Bmr (o:=o) (p:=p) (f:=f) (c:=c) (w:=w) (r:=r) (n:=n) (a:=a) (u:=false) (v:=0) (g:=g) (x:=x) hp
  have hcd:=Bws hp d2
  rw[It,hb,Aa]
  simp only
  rw[if_neg (by decide),d1,Aa]
  by_cases he:Ay e1 0=true
  ·rw[if_pos he]
   refine⟨false,e1,e1,rfl, .inl ⟨rfl,rfl,?_,hcd,by simp⟩⟩
   have:=hcd.nn
   rw[Ak]at he
   simp only[bne_iff_ne]at he
   omega
  ·rw[if_neg he]
   exact⟨true,0,0,rfl, .inr ⟨rfl,rfl,rfl⟩⟩
 |er h0 hc hx hB=>
  have hne:Ay e 0=true:=by rw[Ak];simp;omega
  rw[It,hb,Aa]
  simp only
  rw[if_pos (show e≠0 by omega),if_pos hne]
  exact⟨false,e,e,rfl, .inl ⟨rfl,rfl,h0,hc, .inr rfl⟩⟩
end
theorem Bvp(hal:Uc=some true)(o b c:LB):Is o b c=some true:=by
 have main:o.length≤64→b.length≤12100→Gm o b c true=some true:=by
  intro ho hb
  rw[Gm,Kt,Ahm,if_neg (by rw[As,Ac];simp;omega),Aa]
  simp only
  obtain⟨p2,f2,c2,w2,r2,n2,g2,a2,x2,e3,d1,_,d3⟩:=(Bh.new ho).feed ho (by simp) b (by omega) (by simp;omega)
  rw[List.nil_append]at d3
  have hs:=d3.Cel
  have hck:=d3.check ho (by omega)
  obtain⟨u,v,k,q1,q2⟩:=d3.finish ho (by omega)
  rw[d1,Aa]
  simp only
  rw[if_neg (by decide),hck.1,Aa,if_neg (by decide),hck.2,Aa,if_neg (by simp[Ak])]
  have hs0:(0:Nat)≤2000:=by decide
  have he:∃K:Int,(u=false∧v=K∧0<K∧Cd K)∨(u=true∧v=0∧K=36):=by
   rcases q2 with⟨h1,h2,h3,h4,_⟩|⟨h1,h2,h3⟩
   ·exact⟨k, .inl ⟨h1,h2,h3,h4⟩⟩
   ·exact⟨36, .inr ⟨h1,h2,rfl⟩⟩
  obtain⟨K,hK⟩:=he
  obtain⟨j1,j2,j3⟩:=Cfl ho hs.2.2 hK
  have hsame:=Bu0 o [] 0 0 0 0 0 [] 0 x2 u v (by simp)
  have hvk:v=k:=by
   rcases q2 with⟨h1,h2,h3,h4,_⟩|⟨h1,h2,h3⟩
   ·exact h2
   ·omega
  rw[Lb,Kw,q1,Aa]
  simp only
  rw[j2 c,Aa]
  simp only
  rw[j3,Aa]
  simp only
  rw[j1,Aa,if_neg (by decide),hsame,Aa,if_neg (by decide),Aa,if_neg (by simp[Ak,Ac,hvk]),Kx,Tr]
  rcases q2 with⟨rfl,rfl,h3,h4,h5⟩|⟨rfl,rfl,rfl⟩
  ·have hKk:K=v:=by
    rcases hK with⟨_,h,_⟩|⟨h,_⟩
    ·exact h.symm
    ·cases h
   subst hKk
   rw[if_pos (by rw[Ak];simp;omega),if_pos (by simp[Aq])]
   rcases h5 with rfl|rfl
   ·rfl
   ·simp[Aq]
  ·have hKk:K=36:=by
    rcases hK with⟨h,_⟩|⟨_,_,h⟩
    ·cases h
    ·exact h
   subst hKk
   rw[if_neg (by decide)]
   rfl
 rw[Is,Ky,hal,Aa]
 by_cases ho:o.length≤64
 ·rw[if_neg (by rw[As,Ac];simp;omega),Ll,Aa,Ll,Aa]
  by_cases hb:((((Ee (Ac b) 5000)&&(Cc (Ac b) 12000))||(Ee (Ac b) 12100)))=true
  ·rw[if_pos hb,if_pos (by simp)]
  ·rw[if_neg hb]
   simp only[Bool.or_eq_true,not_or,As,Ac,decide_eq_true_eq]at hb
   split
   ·rfl
   ·exact main ho (by omega)
 ·rw[if_pos (by rw[As,Ac];simp;omega),if_pos (by simp),if_pos (by simp)]
theorem law_PushdecSticks(o b c:LB):Is o b c=some true:=Bvp Ca4 o b c
end Go.Pl
