/- A part of the proof of a statement of this seat (see the text that ends in Proof): LwFit, LwFitC, LwStart, LwStb, LwChk, LwChkT, LwChkF, LwPc, LwTake, LwGre, LwSteps, LwStb2, LwFed, LwOut, LwErr, LwCat, LwJoin, LwPp. No conditions of its own. -/
import Derived.Test.YtfcmocdmhnafcaaGreatDoorPpWA
import Derived.KernelRfl
set_option linter.unusedVariables false
set_option linter.unusedSimpArgs false
namespace Go.Pl
open Go Go.Lv
section
variable {f c w r n:Nat} (h1:shapeB f c w r n=true) (h2:fitB c r n=true)
include h1 h2
theorem Bhw(k:Nat)(hk:k≤(framesL (longN r) n).length):∀(j i q:Nat),i+j=k→j<q→Jy (k:Int) (f:Int) (c:Int) (w:Int) (r:Int) (n:Int) (framesL (longN r) n) q (((framesL (longN r) n).take i).sum) (i:Int)=some (Zu c w (framesL (longN r) n) k)
 |0,i,q+1,hi,_=>by
  obtain⟨hc,hw,hr,hn,_⟩:=Ana h1
  obtain⟨g1,g2,g3⟩:=Aip h1 h2
  have b:=Aul g1 i
  obtain rfl:i=k:=by omega
  have hb:((framesL (longN r) n).take i).sum.toNat*(c*wB (w:Int))≤4000*(6*3):=Nat.mul_le_mul (by omega) (Nat.mul_le_mul hc.2 (Bh1 (w:Int)).2)
  rw[Jy,Us,if_neg (by rw[Af];simp),Afs,Af8,Gl,Aa]
  simp only
  rw[Ag7,Cet hc.2 hw,Aa,Zu]
  have e:((framesL (longN r) n).take i).sum=((((framesL (longN r) n).take i).sum.toNat:Nat):Int):=by omega
  rw[e,Ib (by rw[←Int.natCast_mul];omega) (by rw[←Int.natCast_mul];omega),←Int.natCast_mul];rfl
 |j+1,i,q+1,hi,hq=>by
  obtain⟨g1,g2,g3⟩:=Aip h1 h2
  have hK:=Bei h2
  have hlt:i<(framesL (longN r) n).length:=by omega
  have b1:=Aul g1 i
  have b2:=Aul g1 (i+1)
  have e:=Wz hlt
  have ih:=Bhw k hk j (i+1) q (by omega) (by omega)
  rw[e]at ih
  rw[Jy,Us,if_pos (by rw[Af];simp;omega),Cc hlt,Aa,Aa,Ah (by omega) (by omega),Ah (by omega) (by omega)]
  exact ih
theorem Boz(k:Nat)(hk:k≤(framesL (longN r) n).length):Ta (f:Int) (c:Int) (w:Int) (r:Int) (n:Int) (k:Int)=some (Zu c w (framesL (longN r) n) k):=by
 have hK:=Bei h2
 obtain⟨g1,g2,g3⟩:=Aip h1 h2
 obtain⟨hc,hw,hr,hn,_⟩:=Ana h1
 have h:=Bhw h1 h2 k hk k 0 FUEL (by omega) (by have:=Am;omega)
 rw[List.take_zero,List.sum_nil]at h
 rw[Ta,Afy,Fb,Axr hr.2 hn g3,Aa,Aa]
 exact h
theorem Brf{i:Nat}(hlt:i<(framesL (longN r) n).length):Ae (Zu c w (framesL (longN r) n) i) (Ck (Bi (Bi ((framesL (longN r) n)[i]) (c:Int)) (w:Int)) 8)=Zu c w (framesL (longN r) n) (i+1):=by
 obtain⟨hc,hw,hr,hn,_⟩:=Ana h1
 obtain⟨g1,g2,g3⟩:=Aip h1 h2
 have b1:=Aul g1 i
 have b2:=Aul g1 (i+1)
 have e:=Wz hlt
 have h0:=g1 _ (List.getElem_mem hlt)
 have e2:(framesL (longN r) n)[i]=(((framesL (longN r) n)[i].toNat:Nat):Int):=by omega
 have hb:((framesL (longN r) n).take (i+1)).sum.toNat*(c*wB (w:Int))≤4000*(6*3):=Nat.mul_le_mul (by omega) (Nat.mul_le_mul hc.2 (Bh1 (w:Int)).2)
 rw[e2,Cfn (by omega) hc.2 hw,Zu,Zu]
 have e3:((framesL (longN r) n).take (i+1)).sum.toNat=((framesL (longN r) n).take i).sum.toNat+(framesL (longN r) n)[i].toNat:=by omega
 rw[e3,Nat.add_mul]at hb⊢
 rw[Ah (by omega) (by omega)]
 omega
theorem Bis(a:Nat)(ha:a≤(framesL (longN r) n).length)(o p:LB)(m:LI)(a':Int)(N:LB)(u:Bool)(v:Int):∀(j i q:Nat),i+j=a→j<q→
  Mz ((framesL (longN r) n).take a) o p (f:Int) (c:Int) (w:Int) (r:Int) (n:Int) m a' N u v q (Zu c w (framesL (longN r) n) i) (i:Int)=some (gle (Ac N) (Zu c w (framesL (longN r) n) a))
 |0,i,q+1,hi,_=>by
  obtain rfl:i=a:=by omega
  rw[Mz,Xm,if_neg (by rw[Af,Ac,List.length_take];simp;omega),Agq,Aqm]
 |j+1,i,q+1,hi,hq=>by
  have hK:=Bei h2
  have hlt:i<(framesL (longN r) n).length:=by omega
  have hlt2:i<((framesL (longN r) n).take a).length:=by rw[List.length_take];omega
  have ih:=Bis a ha o p m a' N u v j (i+1) q (by omega) (by omega)
  rw[Mz,Xm,if_pos (by rw[Af,Ac];simp;omega),Cc hlt2,Aa,List.getElem_take,Brf h1 h2 hlt,Ah (by omega) (by omega)]
  exact ih
end
end Go.Pl
set_option linter.unusedVariables false
set_option linter.unusedSimpArgs false
namespace Go.Pl
open Go Go.Lv
theorem Bcw{α:Type}(l:List α):geq (Ac l) 0=decide (l=[]):=by
 cases l with
 |nil=>rfl
 |cons x l=>rw[Ap,Ac,List.length_cons,decide_eq_false (by simp),beq_eq_false_iff_ne];omega
theorem Bld{α:Type}(l:List α):Dw (Ac l) 0=decide (l≠ []):=by
 cases l with
 |nil=>rfl
 |cons x l=>rw[Aq,Ac,List.length_cons,decide_eq_true (by simp)];simp
inductive FitD (o:LB) (f c w r n:Int) (g:LI) (a:Int) (x:LB):Prop
 |new:f=0→c=0→w=0→r=0→n=0→g=[]→a=0→x=[]→FitD o f c w r n g a x
 |head (F C W R N:Nat):HdI f c w r n F C W R N→(o==([]:LB))=decide (F=1)→g=[]→a=0→x=[]→FitD o f c w r n g a x
 |tab (F C W R N A:Nat):HdI f c w r n F C W R N→(o==([]:LB))=decide (F=1)→tabB g=true→g.length=(framesL (longN R) N).length→a=A→A≤g.length→FitD o f c w r n g a x
theorem Bql(f c w r n:Int)(o:LB):Lt f c w r n o=Db f c w r n o:=rfl
theorem Bqb(o p:LB)(f c w r n:Int)(g:LI)(a:Int)(x:LB)(u:Bool)(v:Int):
  (Vg o p f c w r n g a x u v=some false∧Iz o p f c w r n g a x u v=some false)∨
  (Vg o p f c w r n g a x u v=some true∧Iz o p f c w r n g a x u v=Bo o p f c w r n g a x u v∧FitD o f c w r n g a x):=by
 rw[Vg,Ag0,Iz,Sc]
 by_cases hz:f=0∧c=0∧w=0∧r=0∧n=0
 ·obtain⟨rfl,rfl,rfl,rfl,rfl⟩:=hz
  rw[if_pos (by decide),if_pos (by decide),Bcw,Bcw,Bld,Bld]
  by_cases h:g=[]∧a=0∧x=[]
  ·obtain⟨rfl,rfl,rfl⟩:=h
   exact .inr ⟨rfl,by rw[if_neg (by decide)], .new rfl rfl rfl rfl rfl rfl rfl rfl⟩
  ·refine .inl ⟨?_,?_⟩
   ·congr 1
    rw[Bool.eq_false_iff]
    intro e
    simp only[Bool.and_eq_true,decide_eq_true_eq,Ap,beq_iff_eq]at e
    exact h ⟨e.1.1,e.1.2,e.2⟩
   ·rw[if_pos]
    simp only[Bool.or_eq_true,decide_eq_true_eq,Ak,bne_iff_ne]
    by_cases e1:g=[]
    ·by_cases e2:a=0
     ·exact .inr fun e3=>h ⟨e1,e2,e3⟩
     ·exact .inl (.inr e2)
    ·exact .inl (.inl e1)
 ·have hz2:¬(((geq f 0)&&((geq c 0)&&((geq w 0)&&((geq r 0)&&((geq n 0)&&true)))))=true):=by
   simp only[Bool.and_eq_true,Ap,beq_iff_eq,and_true]
   exact hz
  rw[if_neg hz2,if_neg hz2]
  rcases Bvc f c w r n with⟨F,C,W,R,N,h⟩|⟨e1,e2⟩
  ·rw[h.Bak,h.check,Aa,Aa,Bql]
   simp only
   rw[if_neg (by decide),if_neg (by decide),Db]
   have hf:geq f 1=decide (F=1):=by rw[h.ef,Ap,Bool.eq_iff_iff];simp;omega
   rw[hf]
   by_cases hp:(o==([]:LB))=decide (F=1)
   ·rw[if_neg (by rw[hp];simp),Aa,Aa,if_neg (by decide),if_neg (by decide),Agn,Agy,Me,Mj,Bcw,Bcw,Bld]
    by_cases hg:g=[]
    ·subst hg
     rw[if_pos (by simp),if_pos (by simp)]
     by_cases h':a=0∧x=[]
     ·obtain⟨rfl,rfl⟩:=h'
      exact .inr ⟨rfl,by rw[if_neg (by decide)], .head F C W R N h hp rfl rfl rfl⟩
     ·refine .inl ⟨?_,?_⟩
      ·congr 1
       rw[Bool.eq_false_iff]
       intro e
       simp only[Bool.and_eq_true,decide_eq_true_eq,Ap,beq_iff_eq]at e
       exact h' e
      ·rw[if_pos]
       simp only[Bool.or_eq_true,decide_eq_true_eq,Ak,bne_iff_ne]
       by_cases e2:a=0
       ·exact .inr fun e3=>h' ⟨e2,e3⟩
       ·exact .inl e2
    ·rw[if_neg (by simpa using hg),if_neg (by simpa using hg),Ar0,Al2,Aa,Aa]
     by_cases ht:tabB g=true
     ·rw[if_pos ht,h.Bqg]
      simp only[Aa]
      by_cases hl:g.length=(framesL (longN R) N).length∧0≤a∧a≤g.length
      ·obtain⟨hl,ha0,ha1⟩:=hl
       obtain⟨A,rfl⟩:=Int.eq_ofNat_of_zero_le ha0
       have hA:A≤(framesL (longN R) N).length:=by omega
       rw[if_neg (by simp[Ak,Af,Aq,Ac];omega),if_neg (by decide),if_neg (by simp[Ak,Af,Aq,Ac];omega),Cs (by omega) (by omega),Aa,Agl]
       have hh:=h
       clear hf
       obtain⟨rfl,rfl,rfl,rfl,rfl,hs,hf⟩:=hh
       have hlp:=Bis hs hf A hA o p g (A:Int) x u v A 0 FUEL (by omega) (by have:=Am;have:=Bei hf;omega)
       have h0:Zu C W (framesL (longN R) N) 0=0:=by rw[Zu,List.take_zero,List.sum_nil];simp
       rw[h0,show((0:Nat):Int)=0 from rfl]at hlp
       rw[show((A:Int)).toNat=A from rfl,hlp,Boz hs hf A hA,Aa]
       by_cases hx:(x.length:Int)≤Zu C W (framesL (longN R) N) A
       ·refine .inr ⟨?_,?_, .tab F C W R N A h hp ht hl rfl (by omega)⟩
        ·rw[Ahl,Ac,decide_eq_true hx]
        ·rw[if_neg (by rw[Aq,Ac];simp;omega)]
       ·refine .inl ⟨?_,?_⟩
        ·rw[Ahl,Ac,decide_eq_false hx]
        ·rw[if_pos (by rw[Aq,Ac];simp;omega)]
      ·refine .inl ⟨?_,?_⟩
       ·rw[if_pos (by simp[Ak,Af,Aq,Ac];omega)]
       ·rw[if_neg (by decide),if_pos (by simp[Ak,Af,Aq,Ac];omega)]
     ·refine .inl ⟨?_,?_⟩
      ·rw[if_neg ht,if_pos (by simp[Ak])]
      ·rw[if_neg ht,if_pos (by decide),if_pos (by simp)]
   ·rw[if_pos (by simpa using hp),Aa,Aa,if_pos (by decide),if_pos (by decide)]
    exact .inl ⟨rfl,rfl⟩
  ·rw[e1,e2,Aa,Aa]
   simp only
   rw[if_pos (by decide),if_pos (by decide)]
   exact .inl ⟨rfl,rfl⟩
end Go.Pl
set_option linter.unusedVariables false
set_option linter.unusedSimpArgs false
namespace Go.Pl
open Go Go.Lv
theorem By3(b:List UInt8)(n:Int):Cd (Anp b n).2:=by
 unfold Anp
 repeat' split
 all_goals first|decide|exact .inl rfl
theorem Bxk(b:List UInt8):(Vr b).2=6∨Cd (Vr b).2:=by
 unfold Vr Bbf
 repeat' split
 all_goals first|exact .inl rfl|exact .inr (By3 _ _)|exact .inr (by decide)
theorem Bvb(b:List UInt8):(Ic b).2=6∨Cd (Ic b).2:=by
 unfold Ic
 repeat' split
 all_goals first|exact .inl rfl|exact .inr (.inl rfl)|exact .inr (by decide)
theorem Byk(b:List UInt8):(Bw b).2=6∨Cd (Bw b).2:=by
 unfold Bw
 split
 ·exact Bxk b
 ·exact Bvb b
theorem Bir(b:List UInt8):∀(j p:Nat),p≤b.length→b.length<j+p→Cd (Bn b j p).2
 |0,p,h1,h2=>by omega
 |j+1,p,h1,h2=>by
  rw[Bn]
  split
  ·exact .inl rfl
  ·rename_i h6
   split
   ·exact(Byk _).resolve_left h6
   ·rename_i h0
    split
    ·exact(by decide:Cd 4)
    ·have hz:Bw (b.drop p)=((Bw (b.drop p)).1,0):=by rw[Prod.ext_iff];exact⟨rfl,by simpa using h0⟩
     obtain⟨k1,k2⟩:=Ash hz
     rw[List.length_drop]at k2
     split
     ·exact .inl rfl
     ·exact Bir b j _ (by omega) (by omega)
theorem Bjo(b:List UInt8):Cd (frontS b).2:=by
 unfold frontS Bhl
 split
 ·exact .inl rfl
 ·exact Bir b _ _ (by omega) (by omega)
theorem Bi3(b:List UInt8):0≤(frontS b).2:=(Bjo b).nn
theorem Bo5(b:List UInt8):Cd (readS b).2.2.2.2.2:=by
 unfold readS
 repeat' split
 all_goals first|decide|exact .inl rfl
theorem Blo(b:List UInt8):0≤(readS b).2.2.2.2.2:=(Bo5 b).nn
theorem Bzt(b:List UInt8){n:Nat}(h:1≤n∧n≤1000):Cd (seekS b n).2:=by
 unfold seekS
 rw[if_neg (fun e=>e h)]
 repeat' split
 all_goals first|decide|exact .inl rfl
theorem Bn3(b:List UInt8)(n:Nat):0≤(seekS b n).2:=by
 unfold seekS
 repeat' split
 all_goals simp
def ID3:List UInt8:=[73,68,51]
def APX:List UInt8:=[65,80,69,84,65,71,69,88]
def Ou(b s:List UInt8):Bool:=decide (b.length<s.length)&&(b==s.take b.length)
theorem Bi7(b s:List UInt8):Oc b s=some (Ou b s):=by
 rw[Oc,Ou]
 by_cases h:b.length<s.length
 ·rw[if_pos (by rw[Af,Ac,Ac];simp;omega),Ac,Cs (by omega) (by omega),Aa,decide_eq_true h,Bool.true_and];rfl
 ·rw[if_neg (by rw[Af,Ac,Ac];simp;omega),decide_eq_false h];rfl
theorem Bxl(b s:List UInt8)(h:b.length<s.length):Hr s b=some (Ou b s):=by
 rw[Hr,Fq,if_pos (by rw[Dx,Ac,Ac];simp;omega),Ac,Cs (by omega) (by omega),Aa,Aa,Ou,decide_eq_true h,Bool.true_and,Int.toNat_natCast]
 congr 1
 rw[Bool.eq_iff_iff,beq_iff_eq,beq_iff_eq]
 exact eq_comm
theorem Auw{b s:List UInt8}(h:¬b.length<s.length):Ou b s=false:=by rw[Ou,decide_eq_false h];rfl
theorem Bwl(b:List UInt8):Na b=some (Ou b ID3||Ou b APX):=by
 obtain⟨q,hq⟩:∃q,FUEL=q+3:=⟨FUEL-3,by have:=Am;omega⟩
 have l3:Ia b (q+1) 2=some false:=by rw[Ia,Qy,if_neg (by decide)];rfl
 have l2:Ia b (q+2) 1=some (Ou b APX):=by
  rw[Ia,Qy,if_pos (by decide),show getI ([([73,68,51]:LB),([65,80,69,84,65,71,69,88]:LB)]:List LB) 1=some APX from rfl,Aa,show Ae (1:Int) 1=2 from rfl]
  by_cases h:b.length<APX.length
  ·rw[if_pos (by rw[Af,Ac,Ac];simp;omega),Bxl b APX h,Aa]
   by_cases hb:Ou b APX=true
   ·rw[if_pos hb,hb]
   ·rw[if_neg hb,l3];simpa using hb
  ·rw[if_neg (by rw[Af,Ac,Ac];simp;omega),l3,Auw h]
 rw[Na,Ag6,Agm,hq,Ia,Qy,if_pos (by decide),show getI ([([73,68,51]:LB),([65,80,69,84,65,71,69,88]:LB)]:List LB) 0=some ID3 from rfl,Aa,show Ae (0:Int) 1=1 from rfl]
 by_cases h:b.length<ID3.length
 ·rw[if_pos (by rw[Af,Ac,Ac];simp;omega),Bxl b ID3 h,Aa]
  by_cases hb:Ou b ID3=true
  ·rw[if_pos hb,hb];rfl
  ·rw[if_neg hb,l2,Bool.eq_false_iff.2 hb];rfl
 ·rw[if_neg (by rw[Af,Ac,Ac];simp;omega),l2,Auw h];rfl
def stS(b:List UInt8):Int×Int×Int×Int×Int×Int×Int:=
 if(frontS b).2=24 then(0,0,0,0,0,0, -1)else if(frontS b).2≠0 then(0,0,0,0,0,0,(frontS b).2)else
 if(Ou (hdr b) ID3||Ou (hdr b) APX)=true then(0,0,0,0,0,0, -1)else
 if(readS (hdr b)).2.2.2.2.2=24 then(0,0,0,0,0,0, -1)else((frontS b).1+22,(readS (hdr b)).1,(readS (hdr b)).2.1,(readS (hdr b)).2.2.1,(readS (hdr b)).2.2.2.1,(readS (hdr b)).2.2.2.2.1,(readS (hdr b)).2.2.2.2.2)
theorem Yi(b:List UInt8)(hb:b.length≤100000):Ue b=some (stS b):=by
 rw[Ue,Zx,Blb b (by omega),Aa,stS]
 have hok:=Auu (b:=b)
 simp only
 by_cases h1:(frontS b).2=24
 ·rw[if_pos (by rw[Ap];simpa using h1),if_pos h1]
 rw[if_neg (by rw[Ap];simpa using h1),if_neg h1]
 by_cases h2:(frontS b).2≠0
 ·rw[if_pos (by rw[Ak];simpa using h2),if_pos h2]
 have h0:(frontS b).2=0:=by simpa using h2
 obtain⟨k1,k2,k3⟩:=hok h0
 rw[if_neg (by rw[Ak,h0];simp),if_neg h2,Cx (by omega) (by omega),Aa,Bi7,Aa,show b.drop (frontS b).1.toNat=hdr b from rfl,show([73,68,51]:LB)=ID3 from rfl,show([65,80,69,84,65,71,69,88]:LB)=APX from rfl]
 by_cases h3:Ou (hdr b) ID3=true
 ·rw[if_pos h3,h3,Bool.true_or,if_pos rfl]
 rw[if_neg h3,Bi7,Aa,Bool.eq_false_iff.2 h3,Bool.false_or]
 by_cases h4:Ou (hdr b) APX=true
 ·rw[if_pos h4,if_pos h4]
 have hl:(hdr b).length≤b.length:=by rw[hdr,List.length_drop];omega
 rw[if_neg h4,if_neg h4,Zq,Zv,Bxc _ (by omega),Aa]
 simp only
 by_cases h5:(readS (hdr b)).2.2.2.2.2=24
 ·rw[if_pos (by rw[Ap];simpa using h5),if_pos h5]
 ·rw[if_neg (by rw[Ap];simpa using h5),if_neg h5,Ah (by omega) (by omega)]
end Go.Pl
set_option linter.unusedVariables false
set_option linter.unusedSimpArgs false
namespace Go.Pl
open Go Go.Lv
theorem Ky{p q:LB}{n:Nat}(h:n≤p.length):(p++q).take n=p.take n:=by rw[List.take_append_of_le_length h]
theorem Ayk{p q:LB}{i:Nat}(h:i<p.length):(p++q).getD i 0=p.getD i 0:=by
 rw[List.getD_eq_getElem?_getD,List.getElem?_append_left h,←List.getD_eq_getElem?_getD]
theorem Nf{p q:LB}{a w:Nat}(h:a+w≤p.length):part (p++q) a w=part p a w:=by rw[part,Ky h,part]
theorem Bxx{p q s:LB}(h:Ou p s=false)(hl:p.length<s.length):(p++q).take s.length≠s:=by
 intro e
 rw[Ou,decide_eq_true hl,Bool.true_and]at h
 have h1:p=s.take p.length:=by
  have:=congrArg (List.take p.length) e
  rw[List.take_take,Nat.min_eq_left (by omega),Ky (Nat.le_refl _),List.take_length]at this
  exact this
 rw[←h1]at h
 simp at h
theorem Biv{p:LB}(q:LB)(h:(Vr p).2≠24)(h6:Ou p ID3=false):Vr (p++q)=Vr p:=by
 unfold Vr at h⊢
 by_cases h3:3≤p.length∧p.take 3=[73,68,51]
 ·have h3':3≤(p++q).length∧(p++q).take 3=[73,68,51]:=⟨by rw[List.length_append];omega,by rw[Ky h3.1];exact h3.2⟩
  have n1:¬ ¬(3≤p.length∧p.take 3=[73,68,51]):=fun f=>f h3
  have n2:¬ ¬(3≤(p++q).length∧(p++q).take 3=[73,68,51]):=fun f=>f h3'
  rw[if_neg n1]at h
  rw[if_neg n1,if_neg n2]
  by_cases h10:p.length<10
  ·rw[if_pos h10]at h;exact absurd rfl h
  ·have h10':¬(p++q).length<10:=by rw[List.length_append];omega
   rw[if_neg h10]at h
   rw[if_neg h10,if_neg h10',Nf (by omega),Ayk (by omega),Ayk (by omega),Ayk (by omega)]
   split
   ·rfl
   ·rename_i hc
    rw[if_neg hc]at h
    unfold Bbf Anp at h⊢
    rw[Ayk (by omega)]
    generalize(Amp (part p 6 4) 0).1+10+(if p.getD 5 0=16 then 10 else 0)=n at h⊢
    by_cases c1:4000<n
    ·rw[if_pos c1,if_pos c1]
    ·rw[if_neg c1]at h
     rw[if_neg c1,if_neg c1]
     by_cases c2:(p.length:Int)<n
     ·rw[if_pos c2]at h;exact absurd rfl h
     ·have c2':¬((p++q).length:Int)<n:=by rw[List.length_append];omega
      rw[if_neg c2,if_neg c2',Ky (by omega),Nf (by omega)]
 ·rw[if_pos h3,if_pos]
  rintro⟨_,h5⟩
  by_cases hl:3≤p.length
  ·rw[Ky hl]at h5;exact h3 ⟨hl,h5⟩
  ·exact Bxx h6 (by simp[ID3];omega) h5
theorem Bpp{p:LB}(q:LB)(h:(Ic p).2≠24)(h6:Ou p APX=false):Ic (p++q)=Ic p:=by
 unfold Ic at h⊢
 by_cases h3:8≤p.length∧p.take 8=APE
 ·have h3':8≤(p++q).length∧(p++q).take 8=APE:=⟨by rw[List.length_append];omega,by rw[Ky h3.1];exact h3.2⟩
  have n1:¬ ¬(8≤p.length∧p.take 8=APE):=fun f=>f h3
  have n2:¬ ¬(8≤(p++q).length∧(p++q).take 8=APE):=fun f=>f h3'
  rw[if_neg n1]at h
  rw[if_neg n1,if_neg n2]
  by_cases h10:p.length<32
  ·rw[if_pos h10]at h;exact absurd rfl h
  ·have h10':¬(p++q).length<32:=by rw[List.length_append];omega
   have eb:Aac (p++q)=Aac p:=by rw[Aac,Aac,Nf (by omega),Nf (by omega)]
   rw[if_neg h10]at h
   rw[if_neg h10,if_neg h10',Nf (by omega),Nf (by omega),eb,Ky (n:=32) (by omega)]
   split
   ·rfl
   ·rename_i hc
    rw[if_neg hc]at h
    by_cases c2:p.length<Eh (part p 12 4)+32
    ·rw[if_pos c2]at h;exact absurd rfl h
    ·have c2':¬(p++q).length<Eh (part p 12 4)+32:=by rw[List.length_append];omega
     rw[if_neg c2,if_neg c2',Ky (by omega)]
 ·rw[if_pos h3,if_pos]
  rintro⟨_,h5⟩
  by_cases hl:8≤p.length
  ·rw[Ky hl]at h5;exact h3 ⟨hl,h5⟩
  ·exact Bxx h6 (by simp[APX];omega) h5
theorem Bac{p:LB}(q:LB)(h:(Bw p).2≠24)(h6:(Bw p).2=6→Ou p ID3=false∧Ou p APX=false):Bw (p++q)=Bw p:=by
 have beg8:∀s:LB,s.length≤p.length→Ou p s=false:=fun s hs=>Auw (by omega)
 unfold Bw at h h6⊢
 by_cases hT:(Vr p).2≠6
 ·rw[if_pos hT]at h⊢
  have h3:Ou p ID3=false:=by
   refine beg8 _ ?_
   unfold Vr at hT
   by_cases h3:3≤p.length∧p.take 3=[73,68,51]
   ·simp[ID3];omega
   ·rw[if_pos h3]at hT;exact absurd rfl hT
  rw[Biv q h h3,if_pos hT]
 ·rw[if_neg hT]at h h6⊢
  have hb:Ou p ID3=false∧Ou p APX=false:=by
   by_cases hA:(Ic p).2=6
   ·exact h6 hA
   ·unfold Ic at hA
    by_cases h3:8≤p.length∧p.take 8=APE
    ·exact⟨beg8 _ (by simp[ID3];omega),beg8 _ (by simp[APX];omega)⟩
    ·rw[if_pos h3]at hA;exact absurd rfl hA
  have hT':¬(Vr (p++q)).2≠6:=by
   rw[Biv q (by simp only[ne_eq,Classical.not_not]at hT;rw[hT];decide) hb.1];exact hT
  rw[if_neg hT',Bpp q h hb.2]
theorem Bc9{p:LB}(q:LB):∀(j s j':Nat),s≤p.length→p.length-s<j→p.length+q.length-s<j'→(Bn p j s).2≠24→
  ((Bn p j s).2=0→Ou (p.drop (s+(Bn p j s).1.sum.toNat)) ID3=false∧Ou (p.drop (s+(Bn p j s).1.sum.toNat)) APX=false)→Bn (p++q) j' s=Bn p j s
 |0,s,j',_,hj,_,_,_=>absurd hj (Nat.not_lt_zero _)
 |j+1,s,0,_,_,hj,_,_=>absurd hj (Nat.not_lt_zero _)
 |j+1,s,j'+1,hs,hj,hj',h,hb=>by
  have ed:(p++q).drop s=p.drop s++q:=List.drop_append_of_le_length hs
  rw[Bn]at h hb⊢
  rw[Bn,ed]
  by_cases h6:(Bw (p.drop s)).2=6
  ·rw[if_pos h6]at h hb⊢
   have hb':=hb rfl
   simp only[List.sum_nil,Int.toNat_zero,Nat.add_zero]at hb'
   rw[Bac q (by rw[h6];decide) (fun _=>hb'),if_pos h6]
  ·rw[if_neg h6]at h hb⊢
   by_cases h0:(Bw (p.drop s)).2≠0
   ·rw[if_pos h0]at h⊢
    rw[Bac q h (fun e=>absurd e h6),if_neg h6,if_pos h0]
   ·rw[if_neg h0]at h hb⊢
    have h0':(Bw (p.drop s)).2=0:=by simpa using h0
    have e1:Bw (p.drop s++q)=Bw (p.drop s):=Bac q (by rw[h0'];decide) (fun e=>absurd e h6)
    rw[e1,if_neg h6,if_neg h0]
    have hok:=Ash (b:=p.drop s) (n:=(Bw (p.drop s)).1) (by rw[←h0'])
    rw[List.length_drop]at hok
    by_cases hm:4000<(s:Int)+(Bw (p.drop s)).1
    ·rw[if_pos hm,if_pos hm]
    ·rw[if_neg hm]at h hb⊢
     rw[if_neg hm]
     have hl1:s+(Bw (p.drop s)).1.toNat≤p.length:=by omega
     have ih:=Bc9 (p:=p) q j (s+(Bw (p.drop s)).1.toNat) j' hl1 (by omega) (by omega)
     by_cases hr:(Bn p j (s+(Bw (p.drop s)).1.toNat)).2=0
     ·rw[if_pos hr]at hb⊢
      have hle1:s+(Bw (p.drop s)).1.toNat≤p.length:=by omega
      have hle2:s+(Bw (p.drop s)).1.toNat≤4000:=by omega
      have hi:=(Au0 p j (s+(Bw (p.drop s)).1.toNat) hle1 hle2 hr).1
      have hsum:(0:Int)≤(Bn p j (s+(Bw (p.drop s)).1.toNat)).1.sum:=by
       have:∀l:List Int,(∀x∈l,10≤x)→0≤l.sum:=by
        intro l
        induction l with
        |nil=>intro _;simp
        |cons a l ih=>intro h;rw[List.sum_cons];have:=h a (by simp);have:=ih (fun x hx=>h x (by simp[hx]));omega
       exact this _ hi
      rw[ih (by rw[hr];decide) (fun _=>by
       have:=hb rfl
       simp only[List.sum_cons]at this
       rw[show s+((Bw (p.drop s)).1+(Bn p j (s+(Bw (p.drop s)).1.toNat)).1.sum).toNat=s+(Bw (p.drop s)).1.toNat+(Bn p j (s+(Bw (p.drop s)).1.toNat)).1.sum.toNat by omega]at this
       exact this),if_pos hr]
     ·rw[if_neg hr]at h⊢
      rw[ih h (fun e=>absurd e hr),if_neg hr]
theorem Bhc{p:LB}(q:LB)(h:(frontS p).2≠24)(hb:(frontS p).2=0→Ou (hdr p) ID3=false∧Ou (hdr p) APX=false):frontS (p++q)=frontS p:=by
 have key:Bn (p++q) ((p++q).length+1) 0=Bn p (p.length+1) 0:=by
  refine Bc9 q (p.length+1) 0 ((p++q).length+1) (Nat.zero_le _) (by omega) (by rw[List.length_append];omega) ?_ ?_
  ·unfold frontS Bhl at h
   by_cases h0:(Bn p (p.length+1) 0).2=0
   ·rw[h0];decide
   ·rw[if_neg h0]at h;exact h
  ·intro h0
   have e:frontS p=(((0:Nat):Int)+(Bn p (p.length+1) 0).1.sum,0):=by unfold frontS Bhl;rw[if_pos h0]
   have:=hb (by rw[e])
   rw[hdr,e]at this
   simpa using this
 unfold frontS Bhl
 rw[key]
theorem Buv{p:LB}(q:LB)(h:(readS p).2.2.2.2.2≠24):readS (p++q)=readS p:=by
 unfold readS at h⊢
 by_cases h1:p.take (min 4 p.length)≠As1.take (min 4 p.length)
 ·have h1':(p++q).take (min 4 (p++q).length)≠As1.take (min 4 (p++q).length):=by
   intro e
   have hle:min 4 p.length≤min 4 (p++q).length:=by rw[List.length_append];omega
   have:=congrArg (List.take (min 4 p.length)) e
   rw[List.take_take,List.take_take,Nat.min_eq_left hle,Ky (by omega)]at this
   exact h1 this
  rw[if_pos h1,if_pos h1']
 ·rw[if_neg h1]at h
  by_cases h2:p.length<22
  ·rw[if_pos h2]at h;exact absurd rfl h
  ·have h2':¬(p++q).length<22:=by rw[List.length_append];omega
   have h1':¬(p++q).take (min 4 (p++q).length)≠As1.take (min 4 (p++q).length):=by
    rw[Nat.min_eq_left (by omega)]at h1⊢
    rw[Ky (by omega)];exact h1
   have e0:f0 (p++q)=f0 p:=by unfold f0;rw[Nf (by omega)]
   have e1:f1 (p++q)=f1 p:=by unfold f1;rw[Nf (by omega)]
   have e2:f2 (p++q)=f2 p:=by unfold f2;rw[Nf (by omega)]
   have e3:f3 (p++q)=f3 p:=by unfold f3;rw[Nf (by omega)]
   have e4:f4 (p++q)=f4 p:=by unfold f4;rw[Nf (by omega)]
   rw[if_neg h1,if_neg h1',if_neg h2,if_neg h2',e0,e1,e2,e3,e4,Ky (by omega),Nf (by omega)]
theorem Cdg{p:LB}(q:LB)(h:(stS p).2.2.2.2.2.2≠ -1):stS (p++q)=stS p:=by
 unfold stS at h⊢
 by_cases h1:(frontS p).2=24
 ·rw[if_pos h1]at h;exact absurd rfl h
 rw[if_neg h1]at h
 by_cases h2:(frontS p).2≠0
 ·rw[Bhc q h1 (fun e=>absurd e h2),if_neg h1,if_pos h2,if_neg h1,if_pos h2]
 rw[if_neg h2]at h
 have h0:(frontS p).2=0:=by simpa using h2
 by_cases h3:(Ou (hdr p) ID3||Ou (hdr p) APX)=true
 ·rw[if_pos h3]at h;exact absurd rfl h
 rw[if_neg h3]at h
 have h3f:Ou (hdr p) ID3=false∧Ou (hdr p) APX=false:=by
  simp only[Bool.not_eq_true,Bool.or_eq_false_iff]at h3;exact h3
 have eF:=Bhc q h1 (fun _=>h3f)
 obtain⟨k1,k2,k3⟩:=Auu h0
 have eH:hdr (p++q)=hdr p++q:=by rw[hdr,eF,hdr,List.drop_append_of_le_length (by omega)]
 by_cases h5:(readS (hdr p)).2.2.2.2.2=24
 ·rw[if_pos h5]at h;exact absurd rfl h
 have eR:readS (hdr p++q)=readS (hdr p):=Buv q h5
 have beg:∀s:LB,Ou (hdr p) s=false→(s=ID3∨s=APX)→Ou (hdr p++q) s=false:=by
  intro s hs hk
  by_cases hl:(hdr p++q).length<s.length
  ·have hp:(hdr p).length<s.length:=by rw[List.length_append]at hl;omega
   rw[Ou,decide_eq_true hp,Bool.true_and]at hs
   rw[Ou,decide_eq_true hl,Bool.true_and]
   refine beq_eq_false_iff_ne.2 fun e=>?_
   have:=congrArg (List.take (hdr p).length) e
   rw[Ky (Nat.le_refl _),List.take_length,List.take_take,Nat.min_eq_left (by rw[List.length_append];omega)]at this
   rw[←this]at hs
   simp at hs
  ·exact Auw hl
 rw[eF,eH,eR,if_neg h1,if_neg h2,beg _ h3f.1 (.inl rfl),beg _ h3f.2 (.inr rfl),if_neg (by decide),if_neg h5,if_neg h1,if_neg h2,if_neg h3]
theorem Btz{p:LB}(q:LB)(n:Nat)(h:(seekS p n).2≠24):seekS (p++q) n=seekS p n:=by
 unfold seekS at h⊢
 by_cases h1:1≤n∧n≤1000
 ·have n1:¬ ¬(1≤n∧n≤1000):=fun f=>f h1
  rw[if_neg n1]at h
  rw[if_neg n1,if_neg n1]
  by_cases h2:p.length<4*n+4
  ·rw[if_pos h2]at h;exact absurd rfl h
  ·have h2':¬(p++q).length<4*n+4:=by rw[List.length_append];omega
   have et:Aht (p++q) n=Aht p n:=by
    unfold Aht
    refine List.map_congr_left fun i hi=>?_
    rw[List.mem_range]at hi
    rw[Nf (by omega)]
   rw[if_neg h2,if_neg h2',Ky (by omega),Nf (by omega),et]
 ·rw[if_pos h1,if_pos h1]
end Go.Pl
set_option linter.unusedVariables false
set_option linter.unusedSimpArgs false
namespace Go.Pl
open Go Go.Lv
def Bqs(g a:LB)(k p o u v:Int)(f:LI)(b:Int)(h:LB)(m:Bool)(n:Int):Option Int:=
if(geq k 0)then
(Hy a).bind fun(al,ba)=>
if(geq ba 24)then
Di true 0
else
if(Ax ba 0)then
(Ag ba).bind fun(bx,bz)=>
Di bx bz
else
(Bb a al (Ac a)).bind fun da=>
(Na da).bind fun an=>
if an then
Di true 0
else
(Bb a al (Ac a)).bind fun db=>
(Ld db).bind fun(ae,af,aa,ag,ab,bb)=>
if(geq bb 24)then
Di true 0
else
if(Ax bb 0)then
(Ag bb).bind fun(dc,dd)=>
Di dc dd
else
(
(Bb a (Ae al 22) (Ac a)).bind fun ak=>
(
So g ak ae af aa ag ab b m n f h))
else
if(geq (Ac f) 0)then
if(geq k 2)then
if(Bz (Ac a) 8)then
Hg true 0
else
Tf g a k p o u v b m n f h
else
Hl g a k p o u v b m n f h 0
else
if(Bz b (Ac f))then
(getI f b).bind fun _=>
(getI f b).bind fun w=>
if(Bz (Ac a) w)then
Ga true 0
else
(Pf g).bind fun(ap,am)=>
if(Ax am 0)then
(Ag am).bind fun(de,df)=>
Ga de df
else
(Cu k p o u v).bind fun(ad,dg)=>
if((Ax dg 0)||(Lk b (Ac ad)))then
(Ag 8).bind fun(dh,di)=>
Ga dh di
else
Tn w g a k p o u v b m n ap ad f h
else
if(Dw (Ac a) 4000)then
(Ag 38).bind fun(dj,bf)=>
Ba ((dj==true)&&((geq bf 0)&&true))
else
Sn
theorem Awi(d:Bool)(e:Int):Di d e=Ba (d&&geq e 0):=by
 rw[Di,Aa3];cases d<;>simp
theorem Bdb(d:Bool)(e:Int):Hg d e=Ba (d&&geq e 0):=by
 rw[Hg,Ab1];cases d<;>simp
theorem Bqq(d:Bool)(e:Int):Ga d e=Ba (d&&geq e 0):=by
 rw[Ga,Aat];cases d<;>simp
theorem rp4{o p:LB}{f c w r n:Int}{g:LI}{a:Int}{x:LB}{u:Bool}{v:Int}{t1 t2:LB}{t3 t4 t5 t6 t7:Int}{t8:LI}{t9:Int}{t10:LB}{t11:Bool}{t12 e:Int}
  (h:cadenzaref37_take o p f c w r n g a x u v=some (t1,t2,t3,t4,t5,t6,t7,t8,t9,t10,t11,t12,e)):Bo o p f c w r n g a x u v=some (geq e (-1)):=by
 rw[Bo,Rm,h,Aa]
theorem Ati{e:Int}(h:0≤e):geq e (-1)=false:=by rw[Ap,beq_eq_false_iff_ne];omega
theorem Buq(o p:LB)(c w r n:Int)(g:LI)(a:Int)(x:LB)(u:Bool)(v:Int)(hp:p.length≤100000):
  ∃B:Bool,Bqs o p 0 c w r n g a x u v=Ba B∧Bo o p 0 c w r n g a x u v=some B:=by
 have hT:cadenzaref37_take o p 0 c w r n g a x u v=cadenzaref37_take o p 0 c w r n g a x u v:=rfl
 conv at hT=>rhs;rw[cadenzaref37_take,Bt,if_pos (by decide),Yi p hp,Aa,stS]
 have hfn:=Bi3 p
 have hrn:=Blo (hdr p)
 rw[Bqs,if_pos (by decide),Atr p (by omega),Aa]
 have hok:=Auu (b:=p)
 simp only at hT⊢
 by_cases h1:(frontS p).2=24
 ·rw[if_pos h1]at hT
  simp only at hT
  rw[if_pos (by decide)]at hT
  rw[if_pos (by rw[Ap];simpa using h1),Awi]
  exact⟨_,rfl,rp4 hT⟩
 rw[if_neg h1]at hT
 rw[if_neg (by rw[Ap];simpa using h1)]
 by_cases h2:(frontS p).2≠0
 ·rw[if_pos h2]at hT
  simp only at hT
  rw[if_pos (by rw[Ak];simpa using h2)]at hT
  rw[if_pos (by rw[Ak];simpa using h2),Ag,Aa]
  simp only
  rw[Awi]
  exact⟨_,rfl,(rp4 hT).trans (by rw[Ati hfn];rfl)⟩
 have h0:(frontS p).2=0:=by simpa using h2
 obtain⟨k1,k2,k3⟩:=hok h0
 have hl:(hdr p).length=p.length-(frontS p).1.toNat:=by rw[hdr,List.length_drop]
 rw[if_neg h2]at hT
 rw[if_neg (by rw[Ak,h0];simp),Cx (by omega) (by omega),Aa,Aa,show p.drop (frontS p).1.toNat=hdr p from rfl,Bwl,Aa]
 by_cases h3:(Ou (hdr p) ID3||Ou (hdr p) APX)=true
 ·rw[if_pos h3]at hT⊢
  simp only at hT
  rw[if_pos (by decide)]at hT
  rw[Awi]
  exact⟨_,rfl,rp4 hT⟩
 rw[if_neg h3]at hT⊢
 rw[Bil _ (by omega),Aa]
 by_cases h5:(readS (hdr p)).2.2.2.2.2=24
 ·rw[if_pos h5]at hT
  simp only at hT
  rw[if_pos (by decide)]at hT
  rw[if_pos (by rw[Ap];simpa using h5),Awi]
  exact⟨_,rfl,rp4 hT⟩
 rw[if_neg h5]at hT
 rw[if_neg (by rw[Ap];simpa using h5)]
 simp only at hT
 by_cases h6:(readS (hdr p)).2.2.2.2.2≠0
 ·rw[if_pos (by rw[Ak];simpa using h6)]at hT⊢
  rw[Ag,Aa]
  simp only
  rw[Awi]
  exact⟨_,rfl,(rp4 hT).trans (by rw[Ati hrn];rfl)⟩
 have h7:(readS (hdr p)).2.2.2.2.2=0:=by simpa using h6
 have h22:=(Bmm h7).2.1
 rw[if_neg (by rw[Ak,h7];simp),Cx (by omega) (by omega),Aa,Fe,Ex,Db]at hT
 rw[if_neg (by rw[Ak,h7];simp),Ah (by omega) (by omega),Cx (by omega) (by omega),Aa,So,Abl,Lt]
 simp only
 by_cases h8:((o==([]:LB)) !=geq (readS (hdr p)).1 1)=true
 ·rw[if_pos h8]at hT⊢
  rw[Aa]at hT⊢
  rw[Ag,Aa]
  simp only
  rw[Awi]
  exact⟨_,rfl,rp4 hT⟩
 ·rw[if_neg h8]at hT⊢
  rw[Aa]at hT⊢
  rw[Ag,Aa]
  simp only
  rw[Awi]
  exact⟨_,rfl,rp4 hT⟩
end Go.Pl
set_option linter.unusedVariables false
set_option linter.unusedSimpArgs false
namespace Go.Pl
open Go Go.Lv
section
variable {f c w r n:Int} {F C W R N:Nat} (hd:HdI f c w r n F C W R N)
include hd
theorem HdI.ne0:¬(geq f 0=true):=by
 have:=hd.num
 rw[Ap,beq_iff_eq,hd.ef];omega
theorem Bel(o p:LB)(hp:p.length≤100000)(A:Nat)(hA:A≤p.length)(a:Int)(x:LB)(u:Bool)(v:Int):
  (Hl o p f c w r n a u v [] x (A:Int)=Ba (decide ((seekS (p.drop A) (framesL (longN R) N).length).2=24)))∧
  Cz p f c w r n (A:Int)=some (if(seekS (p.drop A) (framesL (longN R) N).length).2=24 then(0,[], -1)else((A:Int)+(4*((seekS (p.drop A) (framesL (longN R) N).length).1.length:Int)+4),(seekS (p.drop A) (framesL (longN R) N).length).1,(seekS (p.drop A) (framesL (longN R) N).length).2))∧
  ((seekS (p.drop A) (framesL (longN R) N).length).2=0→(A:Int)+(4*((seekS (p.drop A) (framesL (longN R) N).length).1.length:Int)+4)≤p.length):=by
 have hs:=Bjq (p.drop A) (framesL (longN R) N).length (by rw[List.length_drop];omega)
 have hr:=Bws (p.drop A) (framesL (longN R) N).length (by rw[List.length_drop];omega)
 have hok:=Bmx (b:=p.drop A) (n:=(framesL (longN R) N).length)
 have hlen:(seekS (p.drop A) (framesL (longN R) N).length).1.length≤1000:=by
  unfold seekS
  repeat' split
  all_goals simp[Aft]
  all_goals omega
 have hfit:(seekS (p.drop A) (framesL (longN R) N).length).2=0→(A:Int)+(4*((seekS (p.drop A) (framesL (longN R) N).length).1.length:Int)+4)≤p.length:=by
  intro h0
  obtain⟨k1,k2,k3,k4,_⟩:=hok h0
  rw[k1]
  simp only[Aft]
  rw[List.length_drop]at k4
  omega
 refine⟨?_,?_,hfit⟩
 ·rw[Hl,Ab2,hd.Bak,Aa]
  simp only
  rw[if_neg (by decide),Cx (by omega) (by omega),Aa,Int.toNat_natCast,Ac,hs,Aa]
  generalize seekS (p.drop A) (framesL (longN R) N).length=z at*
  obtain⟨z1,z2⟩:=z
  simp only at*
  by_cases h1:z2=24
  ·rw[if_pos (by rw[Ap];simpa using h1),Bdb,decide_eq_true h1];rfl
  rw[if_neg (by rw[Ap];simpa using h1),decide_eq_false h1]
  by_cases h2:z2≠0
  ·rw[if_pos (by rw[Ak];simpa using h2),Ag,Aa]
   simp only
   rw[Bdb];rfl
  ·have h0:z2=0:=by simpa using h2
   have:=hfit h0
   rw[if_neg (by rw[Ak,h0];simp),Ac,Bq0 A z1.length (by omega) (by omega),Cx (by omega) (by omega),Aa,Bdb];rfl
 ·rw[Cz,Aad,Cx (by omega) (by omega),Aa,hd.Bqg,Aa,Ac,Int.toNat_natCast,hr,Aa]
  generalize seekS (p.drop A) (framesL (longN R) N).length=z at*
  obtain⟨z1,z2⟩:=z
  simp only at*
  rw[Aa4,Abj]
  by_cases h1:z2=24
  ·rw[if_pos (by rw[Ap];simpa using h1),if_pos h1]
  ·rw[if_neg (by rw[Ap];simpa using h1),if_neg h1,Ac,Bq0 A z1.length (by omega) (by omega)]
   congr 2
theorem Cbj(o p:LB)(ho:o.length≤64)(hp:p.length≤100000)(a:Int)(x:LB)(u:Bool)(v:Int):
  ∃B:Bool,Bqs o p f c w r n [] a x u v=Ba B∧Bo o p f c w r n [] a x u v=some B:=by
 have hT:cadenzaref37_take o p f c w r n [] a x u v=cadenzaref37_take o p f c w r n [] a x u v:=rfl
 conv at hT=>rhs;rw[cadenzaref37_take,Bt,if_neg hd.ne0,Br,Bs,if_pos (by decide),Eg,Hj]
 rw[Bqs,if_neg hd.ne0,if_pos (by decide)]
 have fin:∀A:Nat,A≤p.length→cadenzaref37_take o p f c w r n [] a x u v=(Cz p f c w r n (A:Int)).bind (fun(ag,ak,w1)=>
   if(Ax w1 0)then some (o,p,f,c,w,r,n,[],a,x,u,v,w1)else(Bb p ag (Ac p)).bind fun al=>some (o,al,f,c,w,r,n,ak,a,x,u,v,0))→
   ∃B:Bool,Hl o p f c w r n a u v [] x (A:Int)=Ba B∧Bo o p f c w r n [] a x u v=some B:=by
  intro A hA hT
  obtain⟨t1,t2,t3⟩:=Bel hd o p hp A hA a x u v
  have hnn:=Bn3 (p.drop A) (framesL (longN R) N).length
  rw[t2,Aa]at hT
  rw[t1]
  generalize seekS (p.drop A) (framesL (longN R) N).length=z at*
  obtain⟨z1,z2⟩:=z
  simp only at*
  by_cases h1:z2=24
  ·rw[if_pos h1]at hT
   simp only at hT
   rw[if_pos (by decide)]at hT
   exact⟨_,rfl,(rp4 hT).trans (by rw[decide_eq_true h1];rfl)⟩
  rw[if_neg h1]at hT
  simp only at hT
  by_cases h2:z2≠0
  ·rw[if_pos (by rw[Ak];simpa using h2)]at hT
   exact⟨_,rfl,(rp4 hT).trans (by rw[decide_eq_false h1,Ati hnn])⟩
  ·have h0:z2=0:=by simpa using h2
   have:=t3 h0
   rw[if_neg (by rw[Ak,h0];simp),Cx (by omega) (by omega),Aa]at hT
   exact⟨_,rfl,(rp4 hT).trans (by rw[decide_eq_false h1];rfl)⟩
 by_cases h2:geq f 2=true
 ·rw[if_pos h2]at hT⊢
  by_cases h8:p.length<8
  ·rw[if_pos (by rw[Af,Ac];simp;omega)]at hT⊢
   rw[Aa]at hT
   simp only at hT
   rw[if_pos (by decide)]at hT
   rw[Bdb]
   exact⟨_,rfl,rp4 hT⟩
  ·rw[if_neg (by rw[Af,Ac];simp;omega)]at hT⊢
   have h8':(p.take 8).length=8:=by rw[List.length_take];omega
   rw[Cs (by omega) (by omega),Aa,Biy o ho,Aa]at hT
   rw[Tf,Ab0,Cs (by omega) (by omega),Aa,show(8:Int).toNat=8 from rfl,Bmt h8' ho,Aa]
   rw[show(8:Int).toNat=8 from rfl]at hT
   simp only
   rw[Abg,Aav,if_neg (by decide)]
   by_cases he:(p.take 8==leB (Aax o).toNat 8)=true
   ·rw[if_neg (by rw[bne,he];decide)]at hT
    rw[if_neg (by rw[he];decide)]
    exact fin 8 (by omega) hT
   ·have he':(p.take 8==leB (Aax o).toNat 8)=false:=by simpa using he
    rw[if_pos (by rw[bne,he'];decide),Aa]at hT
    simp only at hT
    rw[if_pos (by decide)]at hT
    rw[if_pos (by rw[he'];decide),Ag,Aa]
    simp only
    rw[Bdb]
    exact⟨_,rfl,rp4 hT⟩
 ·rw[if_neg h2]at hT⊢
  exact fin 0 (by omega) hT
end
end Go.Pl
set_option linter.unusedVariables false
set_option linter.unusedSimpArgs false
namespace Go.Pl
open Go Go.Lv
theorem Bv7{f c w r n:Int}{F C W R N:Nat}(hd:HdI f c w r n F C W R N)(o p:LB)(ho:o.length≤64)(hp:p.length≤100000)(g:LI)(hg:tabB g=true)(hl:g.length=(framesL (longN R) N).length)(A:Nat)(hA:A≤g.length)(x:LB)(hx:x.length≤14000000)(u:Bool)(v:Int):
  ∃B:Bool,Bqs o p f c w r n g (A:Int) x u v=Ba B∧Bo o p f c w r n g (A:Int) x u v=some B:=by
 have hc:=hd.ec
 subst hc
 have hg':=hg
 rw[tabB,Bool.and_eq_true,decide_eq_true_eq,Ah2 g 100000 (by omega)]at hg'
 obtain⟨⟨g1,g2⟩,g5,g6⟩:=hg'
 have hT:cadenzaref37_take o p f (C:Int) w r n g (A:Int) x u v=cadenzaref37_take o p f (C:Int) w r n g (A:Int) x u v:=rfl
 conv at hT=>rhs;rw[cadenzaref37_take,Bt,if_neg hd.ne0,Br,Bs,if_neg (by rw[Ap,Ac];simp;intro e;subst e;simp at g1)]
 rw[Bqs,if_neg hd.ne0,if_neg (by rw[Ap,Ac];simp;intro e;subst e;simp at g1)]
 by_cases hA2:A=g.length
 ·subst hA2
  rw[if_pos (by rw[Ap,Ac];simp)]at hT
  rw[if_neg (by rw[Af,Ac];simp)]
  by_cases h4:4000<p.length
  ·rw[if_pos (by rw[Aq,Ac];simp;omega)]at hT⊢
   rw[Ag,Aa]
   simp only
   exact⟨_,rfl,rp4 hT⟩
  ·rw[if_neg (by rw[Aq,Ac];simp;omega)]at hT⊢
   rw[Sn,Ab5]
   exact⟨_,rfl,rp4 hT⟩
 ·have hlt:A<g.length:=by omega
  have h5:=g5 g[A] (List.getElem_mem hlt)
  have hsum:=Bjs g5 g[A] (List.getElem_mem hlt)
  rw[if_neg (by rw[Ap,Ac];simp;omega),Cl,Fm,Cc hlt,Aa]at hT
  rw[if_pos (by rw[Af,Ac];simp;omega),Cc hlt,Aa,Aa]
  by_cases hw:(p.length:Int)<g[A]
  ·rw[if_pos (by rw[Af,Ac];simpa using hw)]at hT⊢
   rw[Aa]at hT
   simp only at hT
   rw[if_pos (by decide)]at hT
   rw[Bqq]
   exact⟨_,rfl,rp4 hT⟩
  rw[if_neg (by rw[Af,Ac];simpa using hw)]at hT⊢
  have hnum:=hd.num
  have hlt2:A<(framesL (longN R) N).length:=by omega
  obtain⟨m,hm,m1,m2⟩:=Yj (Rh R) hnum.2.2.2.2.1 (List.getElem_mem hlt2)
  have hb:Ch w:=by rw[hd.ew];unfold Ch;omega
  obtain⟨xs,e,d1,d2,d3,d4⟩:=Ae4 (bits:=w) (ch:=C) (n:=m) (t:=tapsOf o) (p.take g[A].toNat) hb (Ui o) hnum.2.1.1 hnum.2.1.2 m1 (by omega)
  have hnn:=Bix hb (Ui o) hnum.2.1.1 hnum.2.1.2 m1 (by omega) d2
  rw[Bjn o ho,Aa]
  simp only
  rw[if_neg (by decide),hd.Bak,Aa]
  simp only
  rw[if_neg (by simp[Ak,Dx,Ac];omega),Tn,Abm,Cc hlt2,Aa,Cs (by omega) (by omega),Aa,Aa,Xa,Aa]
  simp only
  rw[hm,d1,Aa]
  simp only
  rw[At3 o ho,Aa]at hT
  simp only at hT
  rw[Cs (by omega) (by omega),Aa,Gl,Aa]at hT
  simp only at hT
  rw[hd.Bqg,Aa,Cc hlt2,Aa,Aa,hm]at hT
  rw[d2,Aa]at hT
  simp only at hT
  rw[Fp,Fl]at hT
  rw[Aba,Tp]
  by_cases he:e≠0
  ·rw[if_pos (by rw[Ak];simpa using he)]at hT⊢
   rw[Aa]at hT
   simp only at hT
   rw[if_pos (by rw[Ak];simpa using he)]at hT
   rw[Ag,Aa]
   simp only
   rw[Bqq]
   exact⟨_,rfl,(rp4 hT).trans (by rw[Ati hnn];rfl)⟩
  ·have he0:e=0:=by simpa using he
   obtain⟨k1,k2,k3⟩:=d3 he0
   have hbl:=Adv w xs
   rw[if_neg (by rw[Ak,he0];simp)]at hT⊢
   rw[An5 hb k2 k1,Aa,Aa]at hT
   simp only at hT
   rw[if_neg (by decide),Cj (by simp;omega),Aa,List.nil_append,Cj (by omega),Aa,Aa,Cx (by omega) (by omega),Aa]at hT
   rw[Awk hb k2 k1,Aa]
   simp only
   rw[if_neg (by decide),Cj (by omega),Aa,Cx (by omega) (by omega),Aa,Bqq]
   exact⟨_,rfl,rp4 hT⟩
end Go.Pl
set_option linter.unusedVariables false
set_option linter.unusedSimpArgs false
namespace Go.Pl
open Go Go.Lv
theorem Blq(a:LI)(b:Int)(ha:a.length≤100):∀(j i q:Nat),i+j=a.length→j<q→∃r,Bg a b q (i:Int)=some r∧Lk r 0=(a.drop i).any fun y=>b==y
 |0,i,q+1,hi,_=>by
  refine⟨-1,?_,?_⟩
  ·rw[Bg,Dj,if_neg (by rw[Af,Ac];simp;omega)];rfl
  ·rw[show i=a.length by omega,List.drop_length];rfl
 |j+1,i,q+1,hi,hq=>by
  have hlt:i<a.length:=by omega
  obtain⟨r,h1,h2⟩:=Blq a b ha j (i+1) q (by omega) (by omega)
  rw[Bg,Dj,if_pos (by rw[Af,Ac];simp;omega),Cc hlt,Aa,drop_cons hlt,List.any_cons]
  by_cases h:b=a[i]
  ·rw[if_pos (by rw[Ap];simpa using h)]
   refine⟨_,rfl,?_⟩
   rw[Dx,decide_eq_true (by omega),h];simp
  ·rw[if_neg (by rw[Ap];simpa using h),Ah (by omega) (by omega)]
   refine⟨r,h1,?_⟩
   rw[h2,beq_eq_false_iff_ne.2 h,Bool.false_or]
theorem Bw0(v:Int):∃B:Bool,Nw v=some B∧Uk v=some B:=by
 obtain⟨r,h1,h2⟩:=Blq [4,12,16,22,24,26,38] v (by decide) 7 0 FUEL rfl (by have:=Am;omega)
 refine⟨_,?_,rfl⟩
 rw[Nw,Gh,Hm,Gf,Gg]
 have h1':Bg [4,12,16,22,24,26,38] v FUEL 0=some r:=h1
 rw[h1',Aa,Aa,h2]
 simp only[List.drop_zero,List.any_cons,List.any_nil,Bool.or_false,Ap,Bool.or_assoc]
theorem Aw9(B:Bool):Ba B=some (if B=true then 0 else 8):=by
 rw[Ba,Alq];cases B<;>rfl
theorem Cdm(a b:LB)(f g h k m:Int)(n:LI)(o:Int)(p:LB)(u:Bool)(v:Int)(hb:b.length≤16000000)(hn:n.length≤16000000)(hp:p.length≤16000000):
  Cr a b f g h k m n o p u v=some (a,b,f,g,h,k,m,n,o,p,u,v):=by
 rw[Cr,Gu,Cj (by simp;omega),Aa,Aa,Gu,Cj (by simp;omega),Aa,Aa,Ez,Cj (by simp;omega),Aa,Aa]
 rfl
theorem Be1(o p:LB)(f c w r n:Int)(g:LI)(a:Int)(x:LB)(u:Bool)(v:Int)(hp:p.length≤100000)(hg:g.length≤100000)(hx:x.length≤14000000):
  ∃E,Gz o p f c w r n g a x u v=some E∧Dc o p f c w r n g a x u v=some E:=by
 rw[Gz,Vh,Dc]
 by_cases ho:64<o.length
 ·rw[if_pos (by rw[Aq,Ac];simp;omega),if_pos (by rw[Aq,Ac];simp;omega)]
  exact⟨8,rfl,rfl⟩
 have hO:¬(Dw (Ac o) 64=true):=by rw[Aq,Ac];simp;omega
 rw[if_neg hO,if_neg hO]
 by_cases hw:(geq v 0&& !u)=true
 ·rw[if_pos hw,if_pos hw,Cdm o p f c w r n g a x u v (by omega) (by omega) (by omega),Aa]
  simp only
  rcases Bqb o p f c w r n g a x u v with⟨e1,e2⟩|⟨e1,e2,hd⟩
  ·rw[e1,e2,Aa,Aa,if_neg (by decide),if_pos (by decide),Aw9]
   exact⟨8,rfl,rfl⟩
  ·rw[e1,e2,Aa,if_pos rfl]
   have key:∃B:Bool,Bqs o p f c w r n g a x u v=Ba B∧Bo o p f c w r n g a x u v=some B:=by
    cases hd with
    |new e1 e2 e3 e4 e5 e6 e7 e8=>subst e1;exact Buq o p c w r n g a x u v hp
    |head F C W R N h hpw e6 e7 e8=>subst e6;exact Cbj h o p (by omega) hp a x u v
    |tab F C W R N A h hpw ht hl ea hA=>subst ea;exact Bv7 h o p (by omega) hp g ht hl A hA x hx u v
   obtain⟨B,k1,k2⟩:=key
   rw[k2,Aa]
   refine⟨if B=true then 0 else 8,k1.trans (Aw9 B),?_⟩
   cases B<;>rfl
 ·rw[if_neg hw,if_neg hw]
  by_cases hl:(geq (Ac p) 0&&geq (Ac g) 0)=true
  ·rw[if_pos hl,if_pos hl]
   generalize(geq f 0&&(geq c 0&&(geq w 0&&(geq r 0&&(geq n 0&&true)))))=z
   by_cases hz:((z&&geq a 0)&&gle (Ac x) 12000)=true
   ·rw[if_pos hz]
    simp only[Bool.and_eq_true,Ahl,Ac,decide_eq_true_eq]at hz
    obtain⟨⟨z1,z2⟩,z3⟩:=hz
    have hN:¬((!(z&&geq a 0)||Dw (Ac x) 12000)=true):=by rw[z1,z2,Aq,Ac];simp;omega
    rw[if_neg hN]
    by_cases hv:v=0
    ·have v1:geq v 0=true:=by rw[Ap];simpa using hv
     have v2:¬(Ax v 0=true):=by rw[Ak];simpa using hv
     rw[if_pos v1,if_neg v2,Aw9]
     exact⟨0,rfl,rfl⟩
    ·have v1:¬(geq v 0=true):=by rw[Ap];simpa using hv
     have v2:Ax v 0=true:=by rw[Ak];simpa using hv
     rw[if_neg v1,if_pos v2]
     obtain⟨B,k1,k2⟩:=Bw0 v
     rw[k1,k2,Aa,Aa,Aw9,Aw9]
     cases u
     ·refine⟨if B=true then 0 else 8,by simp,?_⟩
      cases B<;>rfl
     ·exact⟨8,rfl,rfl⟩
   ·rw[if_neg hz,if_pos,Aw9]
    ·exact⟨8,rfl,rfl⟩
    ·simp only[Bool.and_eq_true,Ahl,Ac,decide_eq_true_eq]at hz
     simp only[Bool.or_eq_true,Bool.not_eq_true',Aq,Ac,decide_eq_true_eq]
     by_cases hz2:(z&&geq a 0)=true
     ·rw[Bool.and_eq_true]at hz2
      exact .inr (by have hq:¬((x.length:Int)≤12000):=fun h=>hz ⟨hz2,h⟩;omega)
     ·exact .inl (by simpa using hz2)
  ·rw[if_neg hl,if_neg hl,if_neg (by simp),if_pos (by simp),Aw9]
   exact⟨8,rfl,rfl⟩
end Go.Pl
set_option linter.unusedVariables false
set_option linter.unusedSimpArgs false
namespace Go.Pl
open Go Go.Lv
def feedP(bk:LB→Int→Int→Int→Int→Int→Int→LI→LB→pushdec_Feed_O)(o:LB)(u:Bool)(v:Int):LB→Int→Int→Int→Int→Int→Int→LI→LB→pushdec_Feed_O:=
 Gq (Lg bk o u v) (Oz bk o u v) (Jf bk o u v) (Po bk o u v) (Iw bk o u v) (Li bk o u v) (Ok bk o u v) (Bj bk o u v) (Vf bk o u v) o u v
structure SzD (p:LB) (g:LI) (a:Int) (x:LB):Prop where
 hp:p.length≤100000
 hg:g.length≤1000
 hx:x.length+12000*(g.length-a.toNat)≤13000000
def muD(f:Int)(g:LI)(a:Int):Nat:=if f=0 then 1003 else if g=[]then 1002 else g.length-a.toNat+1
section
variable {bk:LB→Int→Int→Int→Int→Int→Int→LI→LB→pushdec_Feed_O} {o p:LB} {f c w r n:Int} {g:LI} {a:Int} {x:LB} {u:Bool} {v:Int}
theorem Bxh(hp:p.length≤100000)(hg:g.length≤1000)(hx:x.length≤13000000):Cr o p f c w r n g a x u v=some (o,p,f,c,w,r,n,g,a,x,u,v):=by
 rw[Cr,Gu,Cj (by simp;omega),Aa,Aa,Gu,Cj (by simp;omega),Aa,Aa,Ez,Cj (by simp;omega),Aa,Aa]
 rfl
theorem Cg9(h:SzD p g a x)(e:Int):Bj bk o u v p f c w r n a true e g x=some (o,p,f,c,w,r,n,g,a,x,u,v,0):=by
 rw[Bj,Ad5,if_pos rfl,Bxh h.hp h.hg (by have:=h.hx;omega),Aa]
theorem Chd{e:Int}(h:e≠0):Bj bk o u v p f c w r n a false e g x=some (o,[],0,0,0,0,0,[],0,x,false,e,e):=by
 rw[Bj,Ad5,if_neg (by decide),if_pos (by rw[Ak];simpa using h)];rfl
inductive StepR (bk:LB→Int→Int→Int→Int→Int→Int→LI→LB→pushdec_Feed_O) (o p:LB) (f c w r n:Int) (g:LI) (a:Int) (x:LB) (u:Bool) (v:Int):Prop
 |wait:feedP bk o u v p f c w r n a g x=some (o,p,f,c,w,r,n,g,a,x,u,v,0)→cadenzaref37_take o p f c w r n g a x u v=some (o,p,f,c,w,r,n,g,a,x,u,v, -1)→StepR bk o p f c w r n g a x u v
 |err (e:Int) {t1 t2:LB} {t3 t4 t5 t6 t7:Int} {t8:LI} {t9:Int} {t10:LB} {t11:Bool} {t12:Int}:0<e→feedP bk o u v p f c w r n a g x=some (o,[],0,0,0,0,0,[],0,x,false,e,e)→
   cadenzaref37_take o p f c w r n g a x u v=some (t1,t2,t3,t4,t5,t6,t7,t8,t9,t10,t11,t12,e)→StepR bk o p f c w r n g a x u v
 |next (p':LB) (f' c' w' r' n':Int) (g':LI) (a':Int) (x':LB):feedP bk o u v p f c w r n a g x=bk p' f' c' w' r' n' a' g' x'→cadenzaref37_take o p f c w r n g a x u v=some (o,p',f',c',w',r',n',g',a',x',u,v,0)→
   FitD o f' c' w' r' n' g' a' x'→SzD p' g' a' x'→p'.length≤p.length→muD f' g' a'<muD f g a→StepR bk o p f c w r n g a x u v
theorem f62{d:Bool}{e:Int}:Lg bk o u v a g x d e p f c w r n=Bj bk o u v p f c w r n a d e g x:=rfl
theorem f75{d:Bool}{e:Int}:Jf bk o u v f c w r n a x d e p g=Bj bk o u v p f c w r n a d e g x:=rfl
theorem f78{d:Bool}{e:Int}:Li bk o u v f c w r n g d e p a x=Bj bk o u v p f c w r n a d e g x:=rfl
theorem mkW(hZ:SzD p g a x)(hF:feedP bk o u v p f c w r n a g x=Bj bk o u v p f c w r n a true 0 g x)(hT:cadenzaref37_take o p f c w r n g a x u v=some (o,p,f,c,w,r,n,g,a,x,u,v, -1)):StepR bk o p f c w r n g a x u v:=
 .wait (hF.trans (Cg9 hZ 0)) hT
theorem mkE{e:Int}{p2:LB}{f2 c2 w2 r2 n2 a2:Int}{g2:LI}{t1 t2:LB}{t3 t4 t5 t6 t7:Int}{t8:LI}{t9:Int}{t10:LB}{t11:Bool}{t12:Int}(he:0<e)(hF:feedP bk o u v p f c w r n a g x=Bj bk o u v p2 f2 c2 w2 r2 n2 a2 false e g2 x)
  (hT:cadenzaref37_take o p f c w r n g a x u v=some (t1,t2,t3,t4,t5,t6,t7,t8,t9,t10,t11,t12,e)):StepR bk o p f c w r n g a x u v:= .err e he (hF.trans (Chd (by omega))) hT
theorem HdI.fnz{F C W R N:Nat}(h:HdI f c w r n F C W R N):f≠0:=by
 have:=h.num
 rw[h.ef];omega
theorem Byo(hp:p.length≤100000):StepR bk o p 0 0 0 0 0 [] 0 [] u v:=by
 have hZ:SzD p [] 0 []:=⟨hp,by simp,by simp⟩
 have hT:cadenzaref37_take o p 0 0 0 0 0 [] 0 [] u v=cadenzaref37_take o p 0 0 0 0 0 [] 0 [] u v:=rfl
 conv at hT=>rhs;rw[cadenzaref37_take,Bt,if_pos (by decide),Yi p hp,Aa,stS]
 have hF:feedP bk o u v p 0 0 0 0 0 0 [] []=feedP bk o u v p 0 0 0 0 0 0 [] []:=rfl
 conv at hF=>rhs;rw[feedP,Gq,if_pos (by decide),Atr p (by omega),Aa]
 have hfn:=Bi3 p
 have hrn:=Blo (hdr p)
 have hok:=Auu (b:=p)
 simp only at hT hF
 by_cases h1:(frontS p).2=24
 ·rw[if_pos h1]at hT
  simp only at hT
  rw[if_pos (by decide)]at hT
  rw[if_pos (by rw[Ap];simpa using h1)]at hF
  exact mkW hZ hF hT
 rw[if_neg h1]at hT
 rw[if_neg (by rw[Ap];simpa using h1)]at hF
 by_cases h2:(frontS p).2≠0
 ·rw[if_pos h2]at hT
  simp only at hT
  rw[if_pos (by rw[Ak];simpa using h2)]at hT
  rw[if_pos (by rw[Ak];simpa using h2),Ag,Aa]at hF
  exact mkE (by omega) hF hT
 have h0:(frontS p).2=0:=by simpa using h2
 obtain⟨k1,k2,k3⟩:=hok h0
 have hl:(hdr p).length=p.length-(frontS p).1.toNat:=by rw[hdr,List.length_drop]
 rw[if_neg h2]at hT
 rw[if_neg (by rw[Ak,h0];simp),Cx (by omega) (by omega),Aa,Aa,show p.drop (frontS p).1.toNat=hdr p from rfl,Bwl,Aa]at hF
 by_cases h3:(Ou (hdr p) ID3||Ou (hdr p) APX)=true
 ·rw[if_pos h3]at hT hF
  simp only at hT
  rw[if_pos (by decide)]at hT
  exact mkW hZ hF hT
 rw[if_neg h3]at hT hF
 rw[Bil _ (by omega),Aa]at hF
 by_cases h5:(readS (hdr p)).2.2.2.2.2=24
 ·rw[if_pos h5]at hT
  simp only at hT
  rw[if_pos (by decide)]at hT
  rw[if_pos (by rw[Ap];simpa using h5)]at hF
  exact mkW hZ hF hT
 rw[if_neg h5]at hT
 rw[if_neg (by rw[Ap];simpa using h5)]at hF
 simp only at hT
 by_cases h6:(readS (hdr p)).2.2.2.2.2≠0
 ·rw[if_pos (by rw[Ak];simpa using h6)]at hT hF
  rw[Ag,Aa]at hF
  exact mkE (by have:=hrn;generalize(readS (hdr p)).2.2.2.2.2=z at *;omega) (hF.trans f62) hT
 have h7:(readS (hdr p)).2.2.2.2.2=0:=by simpa using h6
 obtain⟨r1,h22,r3,r4⟩:=Bmm h7
 rw[if_neg (by rw[Ak,h7];simp),Cx (by omega) (by omega),Aa,Fe,Ex,Db]at hT
 rw[if_neg (by rw[Ak,h7];simp),Ah (by omega) (by omega),Cx (by omega) (by omega),Aa,Oz,Ad0,Lt]at hF
 simp only at hT hF
 by_cases h8:((o==([]:LB)) !=geq (readS (hdr p)).1 1)=true
 ·rw[if_pos h8]at hT hF
  rw[Aa]at hT hF
  rw[Ag,Aa]at hF
  simp only at hF
  exact mkE (by decide) (hF.trans f62) hT
 ·rw[if_neg h8]at hT hF
  rw[Aa]at hT hF
  rw[Ag,Aa]at hF
  have hd:HdI (readS (hdr p)).1 (readS (hdr p)).2.1 (readS (hdr p)).2.2.1 (readS (hdr p)).2.2.2.1 (readS (hdr p)).2.2.2.2.1 (f0 (hdr p)) (f1 (hdr p)) (f2 (hdr p)) (f3 (hdr p)) (f4 (hdr p)):=by
   constructor<;>first|(rw[r1])|assumption
  refine .next _ _ _ _ _ _ [] 0 [] (by exact hF) hT (.head _ _ _ _ _ hd ?_ rfl rfl rfl) ⟨by rw[List.length_drop];omega,by simp,by simp⟩ (by rw[List.length_drop];omega) ?_
  ·have e:geq (readS (hdr p)).1 1=decide (f0 (hdr p)=1):=by rw[hd.ef,Ap,Bool.eq_iff_iff];simp;omega
   rw[←e];simpa using h8
  ·rw[muD,muD,if_neg hd.fnz,if_pos rfl,if_pos rfl];omega
section
variable {F C W R N:Nat} (hd:HdI f c w r n F C W R N)
include hd
theorem Bs9(hp:p.length≤100000)(hpw:(o==([]:LB))=decide (F=1))(A:Nat)(hA:A≤p.length)
  (hT:cadenzaref37_take o p f c w r n [] 0 [] u v=(Cz p f c w r n (A:Int)).bind (fun(ag,ak,w1)=>if(Ax w1 0)then some (o,p,f,c,w,r,n,([]:LI),(0:Int),([]:LB),u,v,w1)else(Bb p ag (Ac p)).bind fun al=>some (o,al,f,c,w,r,n,ak,(0:Int),([]:LB),u,v,(0:Int))))
  (hF:feedP bk o u v p f c w r n 0 [] []=Iw bk o u v p f c w r n 0 [] [] (A:Int)):StepR bk o p f c w r n [] 0 [] u v:=by
 have hZ:SzD p [] 0 []:=⟨hp,by simp,by simp⟩
 obtain⟨_,t2,t3⟩:=Bel hd o p hp A hA 0 [] u v
 have hs:=Bjq (p.drop A) (framesL (longN R) N).length (by rw[List.length_drop];omega)
 have hnn:=Bn3 (p.drop A) (framesL (longN R) N).length
 have hok:=Bmx (b:=p.drop A) (n:=(framesL (longN R) N).length)
 rw[t2,Aa]at hT
 rw[Iw,Aeg,hd.Bak,Aa]at hF
 simp only at hF
 rw[if_neg (by decide),Cx (by omega) (by omega),Aa,Int.toNat_natCast,Ac,hs,Aa]at hF
 generalize hz:seekS (p.drop A) (framesL (longN R) N).length=z at*
 obtain⟨z1,z2⟩:=z
 simp only at*
 by_cases h1:z2=24
 ·rw[if_pos h1]at hT
  simp only at hT
  rw[if_pos (by decide)]at hT
  rw[if_pos (by rw[Ap];simpa using h1)]at hF
  exact mkW hZ hF hT
 rw[if_neg h1]at hT
 rw[if_neg (by rw[Ap];simpa using h1)]at hF
 simp only at hT
 by_cases h2:z2≠0
 ·rw[if_pos (by rw[Ak];simpa using h2)]at hT hF
  rw[Ag,Aa]at hF
  exact mkE (by omega) hF hT
 ·have h0:z2=0:=by simpa using h2
  subst h0
  have h3:=t3 rfl
  obtain⟨k1,k2,k3,k4,k5,k6⟩:=hok rfl
  simp only[Prod.mk.injEq,and_true]at k1
  have hl:z1.length=(framesL (longN R) N).length:=by rw[k1];exact Aft _ _
  rw[←k1]at k5 k6
  rw[if_neg (by decide),Cx (by omega) (by omega),Aa]at hT
  rw[if_neg (by decide),Ac,Bq0 A z1.length (by omega) (by omega),Cx (by omega) (by omega),Aa]at hF
  have hne:z1≠ []:=by intro e;rw[e]at hl;simp at hl;omega
  refine .next _ _ _ _ _ _ z1 0 [] (by exact hF) hT (.tab _ _ _ _ _ 0 hd hpw ?_ hl rfl (by omega)) ⟨by rw[List.length_drop];omega,by omega,by simp;omega⟩ (by rw[List.length_drop];omega) ?_
  ·rw[tabB,Bool.and_eq_true,decide_eq_true_eq,Ah2 z1 100000 (by omega)]
   exact⟨by omega,k5,k6⟩
  ·rw[muD,muD,if_neg hd.fnz,if_neg hd.fnz,if_pos rfl,if_neg hne]
   simp;omega
theorem Bvq(ho:o.length≤64)(hp:p.length≤100000)(hpw:(o==([]:LB))=decide (F=1)):StepR bk o p f c w r n [] 0 [] u v:=by
 have hZ:SzD p [] 0 []:=⟨hp,by simp,by simp⟩
 have hT:cadenzaref37_take o p f c w r n [] 0 [] u v=cadenzaref37_take o p f c w r n [] 0 [] u v:=rfl
 conv at hT=>rhs;rw[cadenzaref37_take,Bt,if_neg hd.ne0,Br,Bs,if_pos (by decide),Eg,Hj]
 have hF:feedP bk o u v p f c w r n 0 [] []=feedP bk o u v p f c w r n 0 [] []:=rfl
 conv at hF=>rhs;rw[feedP,Gq,if_neg hd.ne0,if_pos (by decide)]
 by_cases h2:geq f 2=true
 ·rw[if_pos h2]at hT hF
  by_cases h8:p.length<8
  ·rw[if_pos (by rw[Af,Ac];simp;omega)]at hT hF
   rw[Aa]at hT
   simp only at hT
   rw[if_pos (by decide)]at hT
   exact mkW hZ hF hT
  ·rw[if_neg (by rw[Af,Ac];simp;omega)]at hT hF
   have h8':(p.take 8).length=8:=by rw[List.length_take];omega
   rw[Cs (by omega) (by omega),Aa,Biy o ho,Aa]at hT
   rw[Po,Adu,Cs (by omega) (by omega),Aa,show(8:Int).toNat=8 from rfl,Bmt h8' ho,Aa]at hF
   rw[show(8:Int).toNat=8 from rfl]at hT
   simp only at hF
   rw[Adw,Adn,if_neg (by decide)]at hF
   by_cases he:(p.take 8==leB (Aax o).toNat 8)=true
   ·rw[if_neg (by rw[bne,he];decide)]at hT
    rw[if_neg (by rw[he];decide)]at hF
    exact Bs9 hd hp hpw 8 (by omega) hT hF
   ·have he':(p.take 8==leB (Aax o).toNat 8)=false:=by simpa using he
    rw[if_pos (by rw[bne,he'];decide),Aa]at hT
    simp only at hT
    rw[if_pos (by decide)]at hT
    rw[if_pos (by rw[he'];decide),Ag,Aa]at hF
    simp only at hF
    exact mkE (by decide) (hF.trans f75) hT
 ·rw[if_neg h2]at hT hF
  exact Bs9 hd hp hpw 0 (by omega) hT hF
theorem Byw(ho:o.length≤64)(hpw:(o==([]:LB))=decide (F=1))(hg:tabB g=true)(hl:g.length=(framesL (longN R) N).length)(A:Nat)(hA:A≤g.length)(hZ:SzD p g (A:Int) x):StepR bk o p f c w r n g (A:Int) x u v:=by
 have hp:=hZ.hp
 have hx:=hZ.hx
 have hc:=hd.ec
 subst hc
 have hg':=hg
 rw[tabB,Bool.and_eq_true,decide_eq_true_eq,Ah2 g 100000 (by omega)]at hg'
 obtain⟨⟨g1,g2⟩,g5,g6⟩:=hg'
 have hgn:¬(geq (Ac g) 0=true):=by rw[Ap,Ac];simp;intro e;subst e;simp at g1
 have hT:cadenzaref37_take o p f (C:Int) w r n g (A:Int) x u v=cadenzaref37_take o p f (C:Int) w r n g (A:Int) x u v:=rfl
 conv at hT=>rhs;rw[cadenzaref37_take,Bt,if_neg hd.ne0,Br,Bs,if_neg hgn]
 have hF:feedP bk o u v p f (C:Int) w r n (A:Int) g x=feedP bk o u v p f (C:Int) w r n (A:Int) g x:=rfl
 conv at hF=>rhs;rw[feedP,Gq,if_neg hd.ne0,if_neg hgn]
 by_cases hA2:A=g.length
 ·subst hA2
  rw[if_pos (by rw[Ap,Ac];simp)]at hT
  rw[if_neg (by rw[Af,Ac];simp)]at hF
  by_cases h4:4000<p.length
  ·rw[if_pos (by rw[Aq,Ac];simp;omega)]at hT hF
   rw[Ag,Aa]at hF
   exact mkE (by decide) hF hT
  ·rw[if_neg (by rw[Aq,Ac];simp;omega)]at hT hF
   exact mkW hZ hF hT
 ·have hlt:A<g.length:=by omega
  have h5:=g5 g[A] (List.getElem_mem hlt)
  have hsum:=Bjs g5 g[A] (List.getElem_mem hlt)
  rw[if_neg (by rw[Ap,Ac];simp;omega),Cl,Fm,Cc hlt,Aa]at hT
  rw[if_pos (by rw[Af,Ac];simp;omega),Cc hlt,Aa,Aa]at hF
  by_cases hw:(p.length:Int)<g[A]
  ·rw[if_pos (by rw[Af,Ac];simpa using hw)]at hT hF
   rw[Aa]at hT
   simp only at hT
   rw[if_pos (by decide)]at hT
   exact mkW hZ hF hT
  rw[if_neg (by rw[Af,Ac];simpa using hw)]at hT hF
  have hnum:=hd.num
  have hlt2:A<(framesL (longN R) N).length:=by omega
  obtain⟨m,hm,m1,m2⟩:=Yj (Rh R) hnum.2.2.2.2.1 (List.getElem_mem hlt2)
  have hb:Ch w:=by rw[hd.ew];unfold Ch;omega
  obtain⟨xs,e,d1,d2,d3,d4⟩:=Ae4 (bits:=w) (ch:=C) (n:=m) (t:=tapsOf o) (p.take g[A].toNat) hb (Ui o) hnum.2.1.1 hnum.2.1.2 m1 (by omega)
  have hnn:=Bix hb (Ui o) hnum.2.1.1 hnum.2.1.2 m1 (by omega) d2
  rw[Bjn o ho,Aa]at hF
  simp only at hF
  rw[if_neg (by decide),hd.Bak,Aa]at hF
  simp only at hF
  rw[if_neg (by simp[Ak,Dx,Ac];omega),Ok,Aeh,Cc hlt2,Aa,Cs (by omega) (by omega),Aa,Aa,Xa,Aa]at hF
  simp only at hF
  rw[hm,d1,Aa]at hF
  simp only at hF
  rw[At3 o ho,Aa]at hT
  simp only at hT
  rw[Cs (by omega) (by omega),Aa,Gl,Aa]at hT
  simp only at hT
  rw[hd.Bqg,Aa,Cc hlt2,Aa,Aa,hm]at hT
  rw[d2,Aa]at hT
  simp only at hT
  rw[Fp,Fl]at hT
  rw[Adi,Vk]at hF
  by_cases he:e≠0
  ·rw[if_pos (by rw[Ak];simpa using he)]at hT hF
   rw[Aa]at hT
   simp only at hT
   rw[if_pos (by rw[Ak];simpa using he)]at hT
   rw[Ag,Aa]at hF
   exact mkE (by omega) hF hT
  ·have he0:e=0:=by simpa using he
   obtain⟨k1,k2,k3⟩:=d3 he0
   have hbl:=Adv w xs
   have ht:((A:Int)).toNat=A:=rfl
   rw[ht]at hx
   rw[if_neg (by rw[Ak,he0];simp)]at hT hF
   rw[An5 hb k2 k1,Aa,Aa]at hT
   simp only at hT
   rw[if_neg (by decide),Cj (by simp;omega),Aa,List.nil_append,Cj (by omega),Aa,Aa,Cx (by omega) (by omega),Aa,Ah (by omega) (by omega)]at hT
   rw[Awk hb k2 k1,Aa]at hF
   simp only at hF
   rw[if_neg (by decide),Cj (by omega),Aa,Cx (by omega) (by omega),Aa,Ah (by omega) (by omega)]at hF
   have e1:((A:Int)+1).toNat=A+1:=rfl
   refine .next _ _ _ _ _ _ _ _ _ (by exact hF) hT (.tab _ _ _ _ _ (A+1) hd hpw hg hl rfl (by omega)) ⟨by rw[List.length_drop];omega,hZ.hg,by rw[e1,List.length_append];omega⟩ (by rw[List.length_drop];omega) ?_
   have hne:g≠ []:=by intro e;subst e;simp at g1
   rw[muD,muD,if_neg hd.fnz,if_neg hd.fnz,if_neg hne,if_neg hne,e1,ht]
   omega
end
theorem Bf4(hf:FitD o f c w r n g a x)(ho:o.length≤64)(hZ:SzD p g a x):StepR bk o p f c w r n g a x u v:=by
 cases hf with
 |new e1 e2 e3 e4 e5 e6 e7 e8=>subst e1 e2 e3 e4 e5 e6 e7 e8;exact Byo hZ.hp
 |head F C W R N h hpw e6 e7 e8=>subst e6 e7 e8;exact Bvq h ho hZ.hp hpw
 |tab F C W R N A h hpw ht hl ea hA=>subst ea;exact Byw h ho hpw ht hl A hA hZ
end
end Go.Pl
set_option linter.unusedVariables false
set_option linter.unusedSimpArgs false
namespace Go.Pl
open Go Go.Lv
end Go.Pl
set_option linter.unusedVariables false
set_option linter.unusedSimpArgs false
namespace Go.Pl
open Go Go.Lv
abbrev Chu:=LB×LB×Int×Int×Int×Int×Int×LI×Int×LB×Bool×Int×Int
theorem Amy{o p:LB}{f c w r n:Int}{g:LI}{a:Int}{x:LB}{u:Bool}{v:Int}(hp:p.length≤100000)(hg:g.length≤2000)(hx:x.length≤13000000):Tm o p f c w r n g a x u v=some (o,p,f,c,w,r,n,g,a,x,u,v):=by
 rw[Tm,Af1,Cj (by simp;omega),Aa,Cj (by simp;omega),Aa,Ae1,Ae7,Cj (by simp;omega),Aa]
 rfl
theorem Biq{o p:LB}{f c w r n:Int}{g:LI}{a:Int}{x:LB}{u:Bool}{v:Int}(hp:p.length≤100000)(hg:g.length≤2000)(hx:x.length≤13000000):Cr o p f c w r n g a x u v=some (o,p,f,c,w,r,n,g,a,x,u,v):=by
 rw[Cr,Gu,Cj (by simp;omega),Aa,Aa,Gu,Cj (by simp;omega),Aa,Aa,Ez,Cj (by simp;omega),Aa,Aa]
 rfl
theorem Bdy{o p:LB}{f c w r n:Int}{g:LI}{a:Int}{x:LB}{u:Bool}{v e:Int}(hx:x.length≤13000000):Wm o p f c w r n g a x u v e=some (o,[],0,0,0,0,0,[],0,x,false,e,e):=by
 rw[Wm,Alp,Cj (by simp;omega),Aa];rfl
theorem Bwr{p:LB}{f:Int}{g:LI}{a:Int}{x:LB}(h:SzD p g a x):muD f g a<1004:=by
 have:=h.hg
 unfold muD
 split
 ·omega
 ·split<;>omega
section
variable {o p:LB} {f c w r n:Int} {g:LI} {a:Int} {x:LB} {u:Bool} {v:Int} (hp:p.length≤20000) (hg:g.length≤2000) (hx:x.length≤13000000)
include hp hg hx
theorem Boa{E:Int}(hE:Gz o p f c w r n g a x u v=some E):Np o p f c w r n g a x u v=if E≠0 then some ([],[],0,0,0,0,0,[],0,[],false,0,E)else some (o,p,f,c,w,r,n,g,a,x,u,v,if v≠0 then v else if u=true then 36 else 0):=by
 rw[Np,hE,Aa]
 by_cases h:E≠0
 ·rw[if_pos (by rw[Ak];simpa using h),if_pos h]
 rw[if_neg (by rw[Ak];simpa using h),if_neg h,Biq (by omega) hg (by omega)]
 by_cases hv:v≠0
 ·rw[if_pos (by rw[Ak];simpa using hv),if_pos hv,Aa]
 ·rw[if_neg (by rw[Ak];simpa using hv),if_neg hv]
  cases u<;>simp[Aa]
omit hg hx in
end
theorem Bvs(l:LI)(h:l.length≤2000):Ml l l=some true:=by
 have key:∀(j i q:Nat),i+j=l.length→j<q→Ec l l q (i:Int)=some true:=by
  intro j
  induction j with
  |zero=>
   intro i q hi hq
   obtain⟨q,rfl⟩:∃k,q=k+1:=⟨q-1,by omega⟩
   rw[Ec,Jr,if_neg (by rw[Af,Ac];simp;omega)];rfl
  |succ j ih=>
   intro i q hi hq
   obtain⟨q,rfl⟩:∃k,q=k+1:=⟨q-1,by omega⟩
   have hlt:i<l.length:=by omega
   rw[Ec,Jr,if_pos (by rw[Af,Ac];simp;omega),Cc hlt,Aa,Aa,if_neg (by rw[Ak];simp),Ah (by omega) (by omega)]
   exact ih (i+1) q (by omega) (by omega)
 rw[Ml,Nr,if_neg (by rw[Ak];simp)]
 exact key l.length 0 FUEL (by omega) (by have:=Am;omega)
theorem Bv0(t1 t2:LB)(t3 t4 t5 t6 t7:Int)(t8:LI)(t9:Int)(t10:LB)(t11:Bool)(t12:Int)(h:t8.length≤2000):Sg t1 t2 t3 t4 t5 t6 t7 t8 t9 t10 t11 t12 t1 t2 t3 t4 t5 t6 t7 t8 t9 t10 t11 t12=some true:=by
 rw[Sg,if_pos (by simp[Ap]),Bvs t8 h,Aa]
 simp[Ap]
end Go.Pl
set_option linter.unusedVariables false
set_option linter.unusedSimpArgs false
namespace Go.Pl
open Go Go.Lv
theorem bnd{α β:Type}{o:Option α}{f:α→Option β}{r:β}(h:Option.bind o f=some r):∃x,o=some x∧f x=some r:=by
 cases o with
 |none=>cases h
 |some x=>exact⟨x,rfl,h⟩
theorem Bzl{α:Type}{l:List α}{i:Int}{x:α}(h:Go.Lv.getI l i=some x):x∈l:=by
 unfold Go.Lv.getI at h
 split at h
 ·exact List.mem_of_getElem? h
 ·cases h
theorem Bff{o p:LB}(q:LB){f c w r n:Int}{g:LI}{a:Int}{x:LB}{u:Bool}{v:Int}{y:LB}{e:Int}(hg:∀z∈g,0≤z)(h:Cl o p f c w r n g a x u v=some (y,e))(he:e≠ -1):Cl o (p++q) f c w r n g a x u v=some (y,e):=by
 rw[Cl,Fm]at h⊢
 obtain⟨l,hl,h⟩:=bnd h
 have hl0:=hg l (Bzl hl)
 rw[hl,Aa]
 by_cases hc:(p.length:Int)<l
 ·rw[if_pos (by rw[Af,Ac];simpa using hc)]at h
  cases h;exact absurd rfl he
 ·have hc':¬(Bz (Ac (p++q)) l=true):=by rw[Af,Ac,List.length_append];simp;omega
  rw[if_neg (by rw[Af,Ac];simpa using hc)]at h
  rw[if_neg hc',Cs hl0 (by rw[List.length_append];omega),Ky (by omega)]
  rw[Cs hl0 (by omega)]at h
  simpa only[Fp,Fl]using h
theorem Blz{f c w r n:Int}{F C W R N:Nat}(hd:HdI f c w r n F C W R N){p:LB}(q:LB)(hp:(p++q).length≤100000){A:Nat}(hA:A≤p.length){k:Int}{l:LI}{e:Int}(h:Cz p f c w r n (A:Int)=some (k,l,e))(he:e≠ -1):
  Cz (p++q) f c w r n (A:Int)=some (k,l,e)∧(e=0→0≤k∧k≤p.length):=by
 have hp':p.length≤100000:=by rw[List.length_append]at hp;omega
 obtain⟨_,t2,t3⟩:=Bel hd [] p hp' A hA 0 [] false 0
 obtain⟨_,s2,_⟩:=Bel hd [] (p++q) hp A (by rw[List.length_append];omega) 0 [] false 0
 rw[t2]at h
 rw[s2,List.drop_append_of_le_length hA]
 by_cases h1:(seekS (p.drop A) (framesL (longN R) N).length).2=24
 ·rw[if_pos h1]at h
  cases h;exact absurd rfl he
 ·rw[if_neg h1]at h
  rw[Btz q _ h1,if_neg h1]
  refine⟨h,fun e0=>?_⟩
  cases h
  have:=t3 e0
  constructor
  ·omega
  ·exact this
theorem Bd2{f c w r n:Int}{F C W R N:Nat}(hd:HdI f c w r n F C W R N){o p:LB}(q:LB)(hp:(p++q).length≤100000){k:Int}{l:LI}{e:Int}(h:Eg p f c w r n o=some (k,l,e))(he:e≠ -1):
  Eg (p++q) f c w r n o=some (k,l,e)∧(e=0→0≤k∧k≤p.length):=by
 rw[Eg,Hj]at h⊢
 by_cases hf:geq f 2=true
 ·rw[if_pos hf]at h⊢
  by_cases h8:p.length<8
  ·rw[if_pos (by rw[Af,Ac];simp;omega)]at h
   cases h;exact absurd rfl he
  ·have n1:¬(Bz (Ac p) 8=true):=by rw[Af,Ac];simp;omega
   have n2:¬(Bz (Ac (p++q)) 8=true):=by rw[Af,Ac,List.length_append];simp;omega
   rw[if_neg n1,Cs (by decide) (by omega),Aa]at h
   rw[if_neg n2,Cs (by decide) (by rw[List.length_append];omega),Aa,Ky (show(8:Int).toNat≤p.length from by simp;omega)]
   obtain⟨y,hy,h⟩:=bnd h
   rw[hy,Aa]
   by_cases hm:(p.take (8:Int).toNat !=y)=true
   ·rw[if_pos hm]at h⊢
    cases h
    exact⟨rfl,fun e=>by cases e⟩
   ·rw[if_neg hm]at h⊢
    exact Blz hd q hp (A:=8) (by omega) h he
 ·rw[if_neg hf]at h⊢
  exact Blz hd q hp (A:=0) (by omega) h he
theorem Ao2{p q af:LB}{n:Int}(h:Bb p n (Ac p)=some af):Bb (p++q) n (Ac (p++q))=some (af++q):=by
 unfold Bb Ac at h⊢
 split at h
 ·rename_i hc
  cases h
  rw[if_pos ⟨hc.1,by rw[List.length_append];omega,by omega⟩]
  simp only[Int.toNat_natCast,List.take_length]
  rw[List.drop_append_of_le_length (by omega)]
 ·cases h
theorem At8{o p:LB}(q:LB){f c w r n:Int}{g:LI}{a:Int}{x:LB}{u:Bool}{v:Int}(hf:FitD o f c w r n g a x)(hp:(p++q).length≤100000){t1 t2:LB}{t3 t4 t5 t6 t7:Int}{t8:LI}{t9:Int}{t10:LB}{t11:Bool}{t12 e:Int}
  (h:cadenzaref37_take o p f c w r n g a x u v=some (t1,t2,t3,t4,t5,t6,t7,t8,t9,t10,t11,t12,e)) (he:e≠ -1):
  (e=0→cadenzaref37_take o (p++q) f c w r n g a x u v=some (t1,t2++q,t3,t4,t5,t6,t7,t8,t9,t10,t11,t12,0))∧
  (e≠0→∃(s1 s2:LB) (s3 s4 s5 s6 s7:Int) (s8:LI) (s9:Int) (s10:LB) (s11:Bool) (s12:Int),cadenzaref37_take o (p++q) f c w r n g a x u v=some (s1,s2,s3,s4,s5,s6,s7,s8,s9,s10,s11,s12,e)):=by
 have hp':p.length≤100000:=by rw[List.length_append]at hp;omega
 have zero:¬(Ax (0:Int) 0=true):=by decide
 rw[cadenzaref37_take,Bt]at h⊢
 cases hf with
 |new e1 e2 e3 e4 e5 e6 e7 e8=>
  subst e1
  rw[if_pos (by decide),Yi p hp',Aa]at h
  rw[if_pos (by decide),Yi (p++q) hp,Aa]
  have hst:(stS p).2.2.2.2.2.2≠ -1→stS (p++q)=stS p:=Cdg q
  generalize stS p=z at h hst
  obtain⟨z1,z2,z3,z4,z5,z6,z7⟩:=z
  simp only at h hst
  by_cases hz:Ax z7 0=true
  ·rw[if_pos hz]at h
   simp only[Option.some.injEq,Prod.mk.injEq]at h
   obtain⟨-, -, -, -, -, -, -, -, -, -, -, -,rfl⟩:=h
   rw[hst he]
   simp only
   rw[if_pos hz]
   refine⟨fun e0=>?_,fun _=>⟨_,_,_,_,_,_,_,_,_,_,_,_,rfl⟩⟩
   rw[e0]at hz;exact absurd hz zero
  ·rw[if_neg hz]at h
   have z70:z7=0:=by rw[Ak]at hz;simpa using hz
   rw[hst (by rw[z70];decide)]
   simp only
   rw[if_neg hz]
   obtain⟨af,h1,h⟩:=bnd h
   rw[Ao2 h1,Aa]
   rw[Fe,Ex]at h⊢
   obtain⟨aw,h2,h⟩:=bnd h
   rw[h2,Aa]
   simp only[Option.some.injEq,Prod.mk.injEq]at h
   obtain⟨rfl,rfl,rfl,rfl,rfl,rfl,rfl,rfl,rfl,rfl,rfl,rfl,rfl⟩:=h
   exact⟨fun e0=>by rw[e0],fun _=>⟨_,_,_,_,_,_,_,_,_,_,_,_,rfl⟩⟩
 |head F C W R N hd hpw e6 e7 e8=>
  subst e6
  have hfn:¬(geq f 0=true):=by rw[Ap];simpa using hd.fnz
  rw[if_neg hfn,Br,Bs,if_pos (by decide)]at h⊢
  obtain⟨⟨k,l,e1⟩,h1,h⟩:=bnd h
  simp only at h
  by_cases hz:Ax e1 0=true
  ·rw[if_pos hz]at h
   simp only[Option.some.injEq,Prod.mk.injEq]at h
   obtain⟨-, -, -, -, -, -, -, -, -, -, -, -,rfl⟩:=h
   rw[(Bd2 hd q hp h1 he).1,Aa]
   simp only
   rw[if_pos hz]
   refine⟨fun e0=>?_,fun _=>⟨_,_,_,_,_,_,_,_,_,_,_,_,rfl⟩⟩
   rw[e0]at hz;exact absurd hz zero
  ·rw[if_neg hz]at h
   have z70:e1=0:=by rw[Ak]at hz;simpa using hz
   rw[(Bd2 hd q hp h1 (by rw[z70];decide)).1,Aa]
   simp only
   rw[if_neg hz]
   obtain⟨af,h2,h⟩:=bnd h
   rw[Ao2 h2,Aa]
   simp only[Option.some.injEq,Prod.mk.injEq]at h
   obtain⟨rfl,rfl,rfl,rfl,rfl,rfl,rfl,rfl,rfl,rfl,rfl,rfl,rfl⟩:=h
   exact⟨fun e0=>rfl,fun e0=>absurd rfl e0⟩
 |tab F C W R N A hd hpw ht hl ea hA=>
  have hfn:¬(geq f 0=true):=by rw[Ap];simpa using hd.fnz
  have ht':=ht
  rw[tabB,Bool.and_eq_true,decide_eq_true_eq]at ht'
  have hgl:¬(geq (Ac g) 0=true):=by
   intro e
   rw[Ap,Ac]at e
   have hl1:=ht'.1.1
   simp only[beq_iff_eq,decide_eq_true_eq]at e
   omega
  rw[if_neg hfn,Br,Bs,if_neg hgl]at h⊢
  by_cases hend:geq a (Ac g)=true
  ·rw[if_pos hend]at h⊢
   by_cases hm:Dw (Ac p) 4000=true
   ·have hm':Dw (Ac (p++q)) 4000=true:=by rw[Aq,Ac]at hm⊢;simp only[decide_eq_true_eq]at hm⊢;rw[List.length_append];omega
    rw[if_pos hm]at h
    rw[if_pos hm']
    simp only[Option.some.injEq,Prod.mk.injEq]at h
    obtain⟨-, -, -, -, -, -, -, -, -, -, -, -,rfl⟩:=h
    exact⟨(fun e0=>by cases e0),fun _=>⟨_,_,_,_,_,_,_,_,_,_,_,_,rfl⟩⟩
   ·rw[if_neg hm]at h
    simp only[Option.some.injEq,Prod.mk.injEq]at h
    obtain⟨-, -, -, -, -, -, -, -, -, -, -, -,rfl⟩:=h
    exact absurd rfl he
  ·rw[if_neg hend]at h⊢
   have hpos:∀z∈g,0≤z:=by
    have:=(Ah2 g 100000 (by omega)).1 ht'.2
    intro z hz
    have:=this.1 z hz
    omega
   obtain⟨⟨y,e1⟩,h1,h⟩:=bnd h
   simp only at h
   by_cases hz:Ax e1 0=true
   ·rw[if_pos hz]at h
    simp only[Option.some.injEq,Prod.mk.injEq]at h
    obtain⟨-, -, -, -, -, -, -, -, -, -, -, -,rfl⟩:=h
    rw[Bff q hpos h1 he,Aa]
    simp only
    rw[if_pos hz]
    refine⟨fun e0=>?_,fun _=>⟨_,_,_,_,_,_,_,_,_,_,_,_,rfl⟩⟩
    rw[e0]at hz;exact absurd hz zero
   ·rw[if_neg hz]at h
    have z70:e1=0:=by rw[Ak]at hz;simpa using hz
    rw[Bff q hpos h1 (by rw[z70];decide),Aa]
    simp only
    rw[if_neg hz]
    obtain⟨an,h2,h⟩:=bnd h
    rw[h2,Aa]
    obtain⟨ah,h3,h⟩:=bnd h
    rw[h3,Aa]
    obtain⟨ad,h4,h⟩:=bnd h
    rw[h4,Aa]
    obtain⟨ae,h5,h⟩:=bnd h
    rw[Ao2 h5,Aa]
    simp only[Option.some.injEq,Prod.mk.injEq]at h
    obtain⟨rfl,rfl,rfl,rfl,rfl,rfl,rfl,rfl,rfl,rfl,rfl,rfl,rfl⟩:=h
    exact⟨fun e0=>rfl,fun e0=>absurd rfl e0⟩
end Go.Pl
set_option linter.unusedVariables false
set_option linter.unusedSimpArgs false
namespace Go.Pl
open Go Go.Lv
def Cf7(o:LB)(K:Nat)(u:Bool)(v:Int)(X Y:Option Chu):Prop:=∃(t1 t2:LB) (t3 t4 t5 t6 t7:Int) (t8:LI) (t9:Int) (t10:LB) (t11:Bool) (t12 e:Int),X=some (t1,t2,t3,t4,t5,t6,t7,t8,t9,t10,t11,t12,e)∧Y=some (t1,t2,t3,t4,t5,t6,t7,t8,t9,t10,t11,t12,e)∧t10.length≤13000000∧
 (e=0→t1=o∧t2.length≤K∧FitD o t3 t4 t5 t6 t7 t8 t9 t10∧SzD t2 t8 t9 t10∧t11=u∧t12=v)
theorem Bdd(K:Nat):∀(k q1 q2:Nat) (o p:LB) (f c w r n:Int) (g:LI) (a:Int) (x:LB) (u:Bool) (v:Int),FitD o f c w r n g a x→o.length≤64→SzD p g a x→p.length≤K→muD f g a<k→k≤q1→k≤q2→
  Cf7 o K u v (Ao o u v q1 p f c w r n a g x) (Az q2 o p f c w r n g a x u v)
 |0,_,_,_,_,_,_,_,_,_,_,_,_,_,_,_,_,_,_,h,_,_=>by omega
 |k+1,q1,q2,o,p,f,c,w,r,n,g,a,x,u,v,hf,ho,hZ,hK,hm,h1,h2=>by
  obtain⟨q1,rfl⟩:∃q,q1=q+1:=⟨q1-1,by omega⟩
  obtain⟨q2,rfl⟩:∃q,q2=q+1:=⟨q2-1,by omega⟩
  have hx:x.length≤13000000:=by have:=hZ.hx;omega
  rw[Ao,Az,Cp]
  have hS:StepR (Ao o u v q1) o p f c w r n g a x u v:=Bf4 hf ho hZ
  cases hS with
  |wait hF hT=>
   rw[hT,Aa]
   simp only
   rw[if_pos (by decide),Amy hZ.hp (by have:=hZ.hg;omega) hx,Aa]
   exact⟨_,_,_,_,_,_,_,_,_,_,_,_,_,hF,rfl,hx,fun _=>⟨rfl,hK,hf,hZ,rfl,rfl⟩⟩
  |err e he hF hT=>
   rw[hT,Aa]
   simp only
   rw[if_neg (by rw[Ati (by omega)];decide),if_pos (by rw[Ak];simp;omega),Bdy hx,Aa]
   exact⟨_,_,_,_,_,_,_,_,_,_,_,_,_,hF,rfl,hx,fun h=>absurd h (by omega)⟩
  |next p' f' c' w' r' n' g' a' x' hF hT hf' hZ' hle hmu=>
   rw[hT,Aa]
   simp only
   rw[if_neg (by decide),if_neg (by decide)]
   have ih:=Bdd K k q1 q2 o p' f' c' w' r' n' g' a' x' u v hf' ho hZ' (by omega) (by omega) (by omega) (by omega)
   have hF':Gq (Lg (Ao o u v q1) o u v) (Oz (Ao o u v q1) o u v) (Jf (Ao o u v q1) o u v) (Po (Ao o u v q1) o u v) (Iw (Ao o u v q1) o u v) (Li (Ao o u v q1) o u v) (Ok (Ao o u v q1) o u v) (Bj (Ao o u v q1) o u v) (Vf (Ao o u v q1) o u v) o u v p f c w r n a g x=Ao o u v q1 p' f' c' w' r' n' a' g' x':=hF
   rw[hF']
   exact ih
theorem Cgw{o p:LB}{f c w r n:Int}{g:LI}{a:Int}{x:LB}(ho:o.length≤64)(hf:FitD o f c w r n g a x)(hZ:SzD p g a x)(b:LB)(hp:p.length≤20000)(hb:b.length≤20000):
  Cf7 o (p.length+b.length) false 0 (Js o p f c w r n g a x false 0 b) (Hq o p f c w r n g a x false 0 b):=by
 have hx:x.length≤13000000:=by have:=hZ.hx;omega
 have hg:g.length≤2000:=by have:=hZ.hg;omega
 obtain⟨E,e1,e2⟩:=Be1 o p f c w r n g a x false 0 (by omega) (by omega) (by omega)
 rw[Js,Xq,Boa hp hg hx e1,Hq,Ng,e2,Aa]
 by_cases h:E≠0
 ·rw[if_pos h,Aa,if_pos (by rw[Ak];simpa using h)]
  simp only
  rw[if_pos (by rw[Ak];simpa using h)]
  exact⟨_,_,_,_,_,_,_,_,_,_,_,_,_,rfl,rfl,by simp,fun h'=>absurd h' h⟩
 have h0:E=0:=by simpa using h
 subst h0
 have hE:¬(Ax (0:Int) 0=true):=by decide
 rw[if_neg h,Aa,if_neg hE,Amy (by omega) hg (by omega),Aa]
 simp only
 have hF:¬(false=true):=by decide
 rw[Nh,if_neg (show ¬((0:Int)≠0)from fun h=>h rfl),if_neg hF]
 repeat (first|rw[Aa]|rw[if_neg hE]|rw[if_neg hF])
 rw[Cj (by omega)]
 rw[Aa,Aa]
 have hZ':SzD (p++b) g a x:=⟨by rw[List.length_append];omega,hZ.hg,hZ.hx⟩
 exact Bdd _ 1004 FUEL FUEL o (p++b) f c w r n g a x false 0 hf ho hZ' (by rw[List.length_append];exact Nat.le_refl _) (Bwr hZ') (by have:=Am;omega) (by have:=Am;omega)
end Go.Pl
set_option linter.unusedVariables false
set_option linter.unusedSimpArgs false
namespace Go.Pl
open Go Go.Lv
def OutB(f c w r n:Int)(g:LI)(a:Int)(x:LB):Prop:=∀(F C W R N A:Nat),HdI f c w r n F C W R N→g≠ []→a=(A:Int)→(x.length:Int)≤Zu C W (framesL (longN R) N) A
theorem OutB.nil{f c w r n:Int}{a:Int}{x:LB}:OutB f c w r n [] a x:=fun _ _ _ _ _ _ _ h=>absurd rfl h
theorem Bqm(C W:Nat)(fr:List Int):Zu C W fr 0=0:=by rw[Zu,List.take_zero,List.sum_nil];simp
theorem OutB.zero{f c w r n:Int}{g:LI}:OutB f c w r n g 0 []:=fun F C W R N A h hg ha=>by
 obtain rfl:A=0:=by omega
 rw[Bqm];simp
theorem Bqn{o p:LB}{f c w r n:Int}{F C W R N:Nat}(hd:HdI f c w r n F C W R N)(ho:o.length≤64)(hp:p.length≤100000){g:LI}(ht:tabB g=true)(hl:g.length=(framesL (longN R) N).length){A:Nat}(hA:A<g.length){x:LB}{u:Bool}{v:Int}{y:LB}{e:Int}
  (h:Cl o p f c w r n g (A:Int) x u v=some (y,e)) (he:e=0):∃m:Nat,(framesL (longN R) N)[A]'(by omega)=(m:Int)∧y.length=m*C*wB (W:Int):=by
 subst he
 have hlt2:A<(framesL (longN R) N).length:=by omega
 have hnum:=hd.num
 rw[tabB,Bool.and_eq_true,decide_eq_true_eq,Ah2 g 100000 (by omega)]at ht
 obtain⟨ht1,g5,gs⟩:=ht
 have h5:=g5 g[A] (List.getElem_mem hA)
 rw[Cl,Fm,Cc hA,Aa]at h
 by_cases hw:(p.length:Int)<g[A]
 ·rw[if_pos (by rw[Af,Ac];simpa using hw)]at h
  cases h
 rw[if_neg (by rw[Af,Ac];simpa using hw)]at h
 obtain⟨m,hm,m1,m2⟩:=Yj (Rh R) hnum.2.2.2.2.1 (List.getElem_mem hlt2)
 have hb:Ch w:=by rw[hd.ew];unfold Ch;omega
 obtain⟨xs,e,d1,d2,d3,d4⟩:=Ae4 (bits:=w) (ch:=C) (n:=m) (t:=tapsOf o) (p.take g[A].toNat) hb (Ui o) hnum.2.1.1 hnum.2.1.2 m1 (by omega)
 rw[At3 o ho,Aa]at h
 simp only at h
 rw[Cs (by omega) (by omega),Aa,Gl,Aa]at h
 simp only at h
 rw[hd.Bqg,Aa,Cc hlt2,Aa,Aa,hm,hd.ec]at h
 rw[d2,Aa]at h
 simp only at h
 rw[Fp,Fl]at h
 by_cases he:e≠0
 ·rw[if_pos (by rw[Ak];simpa using he)]at h
  cases h;exact absurd rfl he
 ·have he0:e=0:=by simpa using he
  obtain⟨k1,k2,k3⟩:=d3 he0
  rw[if_neg (by rw[Ak,he0];simp),An5 hb k2 k1,Aa]at h
  cases h
  refine⟨m,hm,?_⟩
  rw[Ale hb,k3,hd.ew]
theorem Bpz(C W:Nat){fr:List Int}(hp:∀z∈fr,0≤z){A m:Nat}(hA:A<fr.length)(hm:fr[A]=(m:Int)):Zu C W fr (A+1)=Zu C W fr A+((m*C*wB (W:Int):Nat):Int):=by
 have hs:0≤(fr.take A).sum:=by
  have:∀l:List Int,(∀z∈l,0≤z)→0≤l.sum:=by
   intro l
   induction l with
   |nil=>intro _;simp
   |cons a l ih=>intro h;rw[List.sum_cons];have:=h a (by simp);have:=ih (fun z hz=>h z (by simp[hz]));omega
  exact this _ fun z hz=>hp z (List.mem_of_mem_take hz)
 have e:(fr.take (A+1)).sum=(fr.take A).sum+m:=by rw[Ah9 hA,List.sum_append,List.sum_cons,List.sum_nil,hm];omega
 rw[Zu,Zu,e]
 have:((fr.take A).sum+(m:Int)).toNat=(fr.take A).sum.toNat+m:=by omega
 rw[this,Nat.add_mul,Nat.mul_assoc m]
 omega
theorem By2{o p:LB}{f c w r n:Int}{g:LI}{a:Int}{x:LB}{u:Bool}{v:Int}(hf:FitD o f c w r n g a x)(ho:o.length≤64)(hZ:SzD p g a x)(hO:OutB f c w r n g a x){t1 t2:LB}{t3 t4 t5 t6 t7:Int}{t8:LI}{t9:Int}{t10:LB}{t11:Bool}{t12:Int}
  (h:cadenzaref37_take o p f c w r n g a x u v=some (t1,t2,t3,t4,t5,t6,t7,t8,t9,t10,t11,t12,0)):OutB t3 t4 t5 t6 t7 t8 t9 t10:=by
 have hp':=hZ.hp
 have zero:¬(Ax (0:Int) 0=true):=by decide
 rw[cadenzaref37_take,Bt]at h
 cases hf with
 |new e1 e2 e3 e4 e5 e6 e7 e8=>
  subst e1 e6 e7 e8
  rw[if_pos (by decide),Yi p hp',Aa]at h
  generalize stS p=z at h
  obtain⟨z1,z2,z3,z4,z5,z6,z7⟩:=z
  simp only at h
  by_cases hz:Ax z7 0=true
  ·rw[if_pos hz]at h
   simp only[Option.some.injEq,Prod.mk.injEq]at h
   obtain⟨-, -, -, -, -, -, -,rfl, -⟩:=h
   exact OutB.nil
  ·rw[if_neg hz]at h
   obtain⟨af,h1,h⟩:=bnd h
   rw[Fe,Ex]at h
   obtain⟨aw,h2,h⟩:=bnd h
   simp only[Option.some.injEq,Prod.mk.injEq]at h
   obtain⟨-, -, -, -, -, -, -,rfl, -⟩:=h
   exact OutB.nil
 |head F C W R N hd hpw e6 e7 e8=>
  subst e6 e7 e8
  have hfn:¬(geq f 0=true):=by rw[Ap];simpa using hd.fnz
  rw[if_neg hfn,Br,Bs,if_pos (by decide)]at h
  obtain⟨⟨k,l,e1⟩,h1,h⟩:=bnd h
  simp only at h
  by_cases hz:Ax e1 0=true
  ·rw[if_pos hz]at h
   simp only[Option.some.injEq,Prod.mk.injEq]at h
   obtain⟨-, -, -, -, -, -, -,rfl, -⟩:=h
   exact OutB.nil
  ·rw[if_neg hz]at h
   obtain⟨af,h2,h⟩:=bnd h
   simp only[Option.some.injEq,Prod.mk.injEq]at h
   obtain⟨-, -, -, -, -, -, -, -,rfl,rfl, -⟩:=h
   exact OutB.zero
 |tab F C W R N A hd hpw ht hl ea hA=>
  subst ea
  have hfn:¬(geq f 0=true):=by rw[Ap];simpa using hd.fnz
  have ht':=ht
  rw[tabB,Bool.and_eq_true,decide_eq_true_eq]at ht'
  have hgl:¬(geq (Ac g) 0=true):=by
   intro e
   rw[Ap,Ac]at e
   have hl1:=ht'.1.1
   simp only[beq_iff_eq,decide_eq_true_eq]at e
   omega
  have hne:g≠ []:=by intro e;subst e;simp at ht'
  rw[if_neg hfn,Br,Bs,if_neg hgl]at h
  by_cases hend:geq (A:Int) (Ac g)=true
  ·rw[if_pos hend]at h
   by_cases hm:Dw (Ac p) 4000=true
   ·rw[if_pos hm]at h
    simp only[Option.some.injEq,Prod.mk.injEq]at h
    exact absurd h.2.2.2.2.2.2.2.2.2.2.2.2 (by decide)
   ·rw[if_neg hm]at h
    simp only[Option.some.injEq,Prod.mk.injEq]at h
    exact absurd h.2.2.2.2.2.2.2.2.2.2.2.2 (by decide)
  ·rw[if_neg hend]at h
   have hlt:A<g.length:=by
    rw[Ap,Ac]at hend
    simp only[beq_iff_eq]at hend
    omega
   obtain⟨⟨y,e1⟩,h1,h⟩:=bnd h
   simp only at h
   by_cases hz:Ax e1 0=true
   ·rw[if_pos hz]at h
    simp only[Option.some.injEq,Prod.mk.injEq]at h
    have:=h.2.2.2.2.2.2.2.2.2.2.2.2
    rw[this]at hz;exact absurd hz zero
   ·rw[if_neg hz]at h
    have z70:e1=0:=by rw[Ak]at hz;simpa using hz
    obtain⟨m,hm,hy⟩:=Bqn hd ho hp' ht hl hlt h1 z70
    obtain⟨an,h2,h⟩:=bnd h
    obtain⟨ah,h3,h⟩:=bnd h
    obtain⟨ad,h4,h⟩:=bnd h
    obtain⟨ae,h5,h⟩:=bnd h
    simp only[Option.some.injEq,Prod.mk.injEq]at h
    obtain⟨-, -,rfl,rfl,rfl,rfl,rfl,rfl,rfl,rfl, -⟩:=h
    intro F' C' W' R' N' A' hd' _ ha'
    have eqs:C'=C∧W'=W∧R'=R∧N'=N:=by
     have q1:=hd.ec.symm.trans hd'.ec
     have q2:=hd.ew.symm.trans hd'.ew
     have q3:=hd.er.symm.trans hd'.er
     have q4:=hd.en.symm.trans hd'.en
     omega
    obtain⟨rfl,rfl,rfl,rfl⟩:=eqs
    have hold:=hO F C' W' R' N' A hd hne rfl
    have e2:Ae (A:Int) 1=((A+1:Nat):Int):=by rw[Ah (by omega) (by omega)];omega
    rw[e2]at ha'
    obtain rfl:A'=A+1:=by omega
    have hah:ah.length=x.length+y.length:=by
     unfold Da at h2 h3
     split at h2
     ·cases h2
      split at h3
      ·cases h3;simp
      ·cases h3
     ·cases h2
    have hpos:∀z∈framesL (longN R') N',0≤z:=by
     intro z hz
     obtain⟨m,hm,m1,m2⟩:=Yj (Rh R') hd.num.2.2.2.2.1 hz
     omega
    rw[Bpz C' W' hpos (by omega) hm,hah,hy]
    omega
theorem Axg{o p:LB}{f c w r n:Int}{g:LI}{a:Int}{x:LB}(hf:FitD o f c w r n g a x)(ho:o.length≤64)(hO:OutB f c w r n g a x){t1 t2:LB}{t3 t4 t5 t6 t7:Int}{t8:LI}{t9:Int}{t10:LB}{t11:Bool}{t12:Int}
  (h:cadenzaref37_take o p f c w r n g a x false 0=some (t1,t2,t3,t4,t5,t6,t7,t8,t9,t10,t11,t12, -1)):Dc o p f c w r n g a x false 0=some 0:=by
 have h4:Bo o p f c w r n g a x false 0=some true:=by
  rw[Bo,Rm,h,Aa]
  rfl
 have hr:Iz o p f c w r n g a x false 0=some true:=by
  rw[Iz,Sc]
  cases hf with
  |new e1 e2 e3 e4 e5 e6 e7 e8=>
   subst e1 e2 e3 e4 e5 e6 e7 e8
   rw[if_pos (by decide),if_neg (by decide)]
   exact h4
  |head F C W R N hd hpw e6 e7 e8=>
   subst e6 e7 e8
   have hz:¬(((geq f 0)&&((geq c 0)&&((geq w 0)&&((geq r 0)&&((geq n 0)&&true)))))=true):=by
    simp only[Bool.and_eq_true,Ap,beq_iff_eq,and_true]
    exact fun e=>hd.fnz e.1
   have hff:geq f 1=decide (F=1):=by rw[hd.ef,Ap,Bool.eq_iff_iff];simp;omega
   rw[if_neg hz,hd.check,Aa,if_neg (by decide),Db,hff,hpw,if_neg (by simp),Aa,if_neg (by decide),Me,Mj,if_pos (by decide),if_neg (by decide)]
   exact h4
  |tab F C W R N A hd hpw ht hl ea hA=>
   subst ea
   have hz:¬(((geq f 0)&&((geq c 0)&&((geq w 0)&&((geq r 0)&&((geq n 0)&&true)))))=true):=by
    simp only[Bool.and_eq_true,Ap,beq_iff_eq,and_true]
    exact fun e=>hd.fnz e.1
   have hff:geq f 1=decide (F=1):=by rw[hd.ef,Ap,Bool.eq_iff_iff];simp;omega
   have ht':=ht
   rw[tabB,Bool.and_eq_true,decide_eq_true_eq]at ht'
   have hgl:¬(geq (Ac g) 0=true):=by
    intro e
    rw[Ap,Ac]at e
    have hl1:=ht'.1.1
    simp only[beq_iff_eq,decide_eq_true_eq]at e
    omega
   have hne:g≠ []:=by intro e;subst e;simp at ht'
   have hout:=hO F C W R N A hd hne rfl
   rw[if_neg hz,hd.check,Aa,if_neg (by decide),Db,hff,hpw,if_neg (by simp),Aa,if_neg (by decide),Me,Mj,if_neg hgl,Al2,Aa,if_pos ht,if_neg (by decide),hd.Bqg,Aa]
   rw[if_neg (by simp[Ak,Af,Aq,Ac];omega)]
   obtain⟨rfl,rfl,rfl,rfl,rfl,hs,hfit⟩:=hd
   rw[Boz hs hfit A (by omega),Aa,if_neg (by rw[Aq,Ac];simp;omega)]
   exact h4
 have hO':¬(Dw (Ac o) 64=true):=by rw[Aq,Ac];simp;omega
 rw[Dc,if_neg hO',if_pos (by decide),hr,Aa]
 rfl
end Go.Pl
set_option linter.unusedVariables false
set_option linter.unusedSimpArgs false
namespace Go.Pl
open Go Go.Lv
theorem Bu5{o p:LB}{f c w r n:Int}{F C W R N:Nat}(hd:HdI f c w r n F C W R N)(ho:o.length≤64)(hp:p.length≤100000){g:LI}(ht:tabB g=true)(hl:g.length=(framesL (longN R) N).length){A:Nat}(hA:A<g.length){x:LB}{u:Bool}{v:Int}{y:LB}{e:Int}
  (h:Cl o p f c w r n g (A:Int) x u v=some (y,e)) (he:e≠ -1):Cd e:=by
 have hlt2:A<(framesL (longN R) N).length:=by omega
 have hnum:=hd.num
 rw[tabB,Bool.and_eq_true,decide_eq_true_eq,Ah2 g 100000 (by omega)]at ht
 obtain⟨ht1,g5,gs⟩:=ht
 have h5:=g5 g[A] (List.getElem_mem hA)
 rw[Cl,Fm,Cc hA,Aa]at h
 by_cases hw:(p.length:Int)<g[A]
 ·rw[if_pos (by rw[Af,Ac];simpa using hw)]at h
  cases h;exact absurd rfl he
 rw[if_neg (by rw[Af,Ac];simpa using hw)]at h
 obtain⟨m,hm,m1,m2⟩:=Yj (Rh R) hnum.2.2.2.2.1 (List.getElem_mem hlt2)
 have hb:Ch w:=by rw[hd.ew];unfold Ch;omega
 obtain⟨xs,e',d1,d2,d3,d4⟩:=Ae4 (bits:=w) (ch:=C) (n:=m) (t:=tapsOf o) (p.take g[A].toNat) hb (Ui o) hnum.2.1.1 hnum.2.1.2 m1 (by omega)
 have hcd:=Bhz hb (Ui o) hnum.2.1.1 hnum.2.1.2 m1 (by omega) d2
 rw[At3 o ho,Aa]at h
 simp only at h
 rw[Cs (by omega) (by omega),Aa,Gl,Aa]at h
 simp only at h
 rw[hd.Bqg,Aa,Cc hlt2,Aa,Aa,hm,hd.ec]at h
 rw[d2,Aa]at h
 simp only at h
 rw[Fp,Fl]at h
 by_cases he:e'≠0
 ·rw[if_pos (by rw[Ak];simpa using he)]at h
  cases h;exact hcd
 ·have he0:e'=0:=by simpa using he
  obtain⟨k1,k2,k3⟩:=d3 he0
  rw[if_neg (by rw[Ak,he0];simp),An5 hb k2 k1,Aa]at h
  cases h
  exact .inl rfl
theorem Brv{f c w r n:Int}{F C W R N:Nat}(hd:HdI f c w r n F C W R N){p:LB}(hp:p.length≤100000){A:Nat}(hA:A≤p.length){k:Int}{l:LI}{e:Int}(h:Cz p f c w r n (A:Int)=some (k,l,e))(he:e≠ -1):Cd e:=by
 obtain⟨_,t2,t3⟩:=Bel hd [] p hp A hA 0 [] false 0
 rw[t2]at h
 by_cases h1:(seekS (p.drop A) (framesL (longN R) N).length).2=24
 ·rw[if_pos h1]at h
  cases h;exact absurd rfl he
 ·rw[if_neg h1]at h
  cases h
  exact Bzt _ (Bei hd.fit)
theorem Bvn{f c w r n:Int}{F C W R N:Nat}(hd:HdI f c w r n F C W R N){o p:LB}(hp:p.length≤100000){k:Int}{l:LI}{e:Int}(h:Eg p f c w r n o=some (k,l,e))(he:e≠ -1):Cd e:=by
 rw[Eg,Hj]at h
 by_cases hf:geq f 2=true
 ·rw[if_pos hf]at h
  by_cases h8:p.length<8
  ·rw[if_pos (by rw[Af,Ac];simp;omega)]at h
   cases h;exact absurd rfl he
  ·have n1:¬(Bz (Ac p) 8=true):=by rw[Af,Ac];simp;omega
   rw[if_neg n1]at h
   obtain⟨z,hz,h⟩:=bnd h
   obtain⟨y,hy,h⟩:=bnd h
   by_cases hm:(z !=y)=true
   ·rw[if_pos hm]at h
    cases h;decide
   ·rw[if_neg hm]at h
    exact Brv hd hp (A:=8) (by omega) h he
 ·rw[if_neg hf]at h
  exact Brv hd hp (A:=0) (by omega) h he
theorem Ce4(p:LB):(stS p).2.2.2.2.2.2= -1∨Cd (stS p).2.2.2.2.2.2:=by
 unfold stS
 repeat' split
 ·exact .inl rfl
 ·exact .inr (Bjo p)
 ·exact .inl rfl
 ·exact .inl rfl
 ·exact .inr (Bo5 _)
theorem Cdk{o p:LB}{f c w r n:Int}{g:LI}{a:Int}{x:LB}{u:Bool}{v:Int}(hf:FitD o f c w r n g a x)(ho:o.length≤64)(hp':p.length≤100000){t1 t2:LB}{t3 t4 t5 t6 t7:Int}{t8:LI}{t9:Int}{t10:LB}{t11:Bool}{t12 e:Int}
  (h:cadenzaref37_take o p f c w r n g a x u v=some (t1,t2,t3,t4,t5,t6,t7,t8,t9,t10,t11,t12,e)) (he:e≠ -1):Cd e:=by
 have zero:¬(Ax (0:Int) 0=true):=by decide
 rw[cadenzaref37_take,Bt]at h
 cases hf with
 |new e1 e2 e3 e4 e5 e6 e7 e8=>
  subst e1 e6 e7 e8
  rw[if_pos (by decide),Yi p hp',Aa]at h
  have hcd:=Ce4 p
  generalize stS p=z at h hcd
  obtain⟨z1,z2,z3,z4,z5,z6,z7⟩:=z
  simp only at h hcd
  by_cases hz:Ax z7 0=true
  ·rw[if_pos hz]at h
   simp only[Option.some.injEq,Prod.mk.injEq]at h
   obtain⟨-, -, -, -, -, -, -, -, -, -, -, -,rfl⟩:=h
   exact hcd.resolve_left he
  ·rw[if_neg hz]at h
   obtain⟨af,h1,h⟩:=bnd h
   rw[Fe,Ex,Db]at h
   obtain⟨aw,h2,h⟩:=bnd h
   simp only[Option.some.injEq,Prod.mk.injEq]at h
   obtain⟨-, -, -, -, -, -, -, -, -, -, -, -,rfl⟩:=h
   split at h2
   ·cases h2;decide
   ·cases h2;decide
 |head F C W R N hd hpw e6 e7 e8=>
  subst e6 e7 e8
  have hfn:¬(geq f 0=true):=by rw[Ap];simpa using hd.fnz
  rw[if_neg hfn,Br,Bs,if_pos (by decide)]at h
  obtain⟨⟨k,l,e1⟩,h1,h⟩:=bnd h
  simp only at h
  by_cases hz:Ax e1 0=true
  ·rw[if_pos hz]at h
   simp only[Option.some.injEq,Prod.mk.injEq]at h
   obtain⟨-, -, -, -, -, -, -, -, -, -, -, -,rfl⟩:=h
   exact Bvn hd hp' h1 he
  ·rw[if_neg hz]at h
   obtain⟨af,h2,h⟩:=bnd h
   simp only[Option.some.injEq,Prod.mk.injEq]at h
   obtain⟨-, -, -, -, -, -, -, -, -, -, -, -,rfl⟩:=h
   exact .inl rfl
 |tab F C W R N A hd hpw ht hl ea hA=>
  subst ea
  have hfn:¬(geq f 0=true):=by rw[Ap];simpa using hd.fnz
  have ht':=ht
  rw[tabB,Bool.and_eq_true,decide_eq_true_eq]at ht'
  have hgl:¬(geq (Ac g) 0=true):=by
   intro e
   rw[Ap,Ac]at e
   have hl1:=ht'.1.1
   simp only[beq_iff_eq,decide_eq_true_eq]at e
   omega
  rw[if_neg hfn,Br,Bs,if_neg hgl]at h
  by_cases hend:geq (A:Int) (Ac g)=true
  ·rw[if_pos hend]at h
   by_cases hm:Dw (Ac p) 4000=true
   ·rw[if_pos hm]at h
    simp only[Option.some.injEq,Prod.mk.injEq]at h
    obtain⟨-, -, -, -, -, -, -, -, -, -, -, -,rfl⟩:=h
    decide
   ·rw[if_neg hm]at h
    simp only[Option.some.injEq,Prod.mk.injEq]at h
    exact absurd h.2.2.2.2.2.2.2.2.2.2.2.2.symm he
  ·rw[if_neg hend]at h
   have hlt:A<g.length:=by
    rw[Ap,Ac]at hend
    simp only[beq_iff_eq]at hend
    omega
   obtain⟨⟨y,e1⟩,h1,h⟩:=bnd h
   simp only at h
   by_cases hz:Ax e1 0=true
   ·rw[if_pos hz]at h
    simp only[Option.some.injEq,Prod.mk.injEq]at h
    obtain⟨-, -, -, -, -, -, -, -, -, -, -, -,rfl⟩:=h
    exact Bu5 hd ho hp' ht hl hlt h1 he
   ·rw[if_neg hz]at h
    obtain⟨an,h2,h⟩:=bnd h
    obtain⟨ah,h3,h⟩:=bnd h
    obtain⟨ad,h4,h⟩:=bnd h
    obtain⟨ae,h5,h⟩:=bnd h
    simp only[Option.some.injEq,Prod.mk.injEq]at h
    obtain⟨-, -, -, -, -, -, -, -, -, -, -, -,rfl⟩:=h
    exact .inl rfl
theorem Bzn{o:LB}{f c w r n:Int}{g:LI}{a:Int}{x:LB}(hf:FitD o f c w r n g a x)(hO:OutB f c w r n g a x):x.length≤12000:=by
 cases hf with
 |new e1 e2 e3 e4 e5 e6 e7 e8=>subst e8;simp
 |head F C W R N hd hpw e6 e7 e8=>subst e8;simp
 |tab F C W R N A hd hpw ht hl ea hA=>
  have hne:g≠ []:=by intro e;subst e;simp[tabB]at ht
  have h:=hO F C W R N A hd hne ea
  obtain⟨g1,g2,g3⟩:=Aip hd.shape hd.fit
  have b:=Aul g1 A
  have hnum:=hd.num
  have hw:=(Bh1 (W:Int)).2
  have hN:N*C≤4000:=by
   have h1:=Nat.mul_le_mul_right C hnum.2.2.2.2.2.1
   have h2:=Nat.div_mul_le_self 4000 C
   omega
  have hs:((framesL (longN R) N).take A).sum.toNat≤N:=by omega
  rw[Zu]at h
  have hb:((framesL (longN R) N).take A).sum.toNat*(C*wB (W:Int))≤4000*3:=by
   have h1:=Nat.mul_le_mul_right (C*wB (W:Int)) hs
   have h2:=Nat.mul_le_mul hN hw
   rw[←Nat.mul_assoc N]at h1
   omega
  omega
theorem Bi1{o x:LB}{e:Int}(ho:o.length≤64)(hx:x.length≤12000)(he:Cd e)(h0:0<e):Dc o [] 0 0 0 0 0 [] 0 x false e=some 0:=by
 have hO':¬(Dw (Ac o) 64=true):=by rw[Aq,Ac];simp;omega
 have hX:Dw (Ac x) 12000=false:=by rw[Aq,Ac];simp;omega
 rw[Dc,if_neg hO',if_neg (by rw[Ap];simp;omega),if_pos (by decide),hX,if_neg (by decide),if_pos (by rw[Ak];simp;omega),if_neg (by decide)]
 obtain rfl|rfl|rfl|rfl|rfl|rfl|rfl|rfl:=he
 ·omega
 all_goals rfl
end Go.Pl
set_option linter.unusedVariables false
set_option linter.unusedSimpArgs false
namespace Go.Pl
open Go Go.Lv
theorem Bi8:∀(k q1 q2:Nat) (o p:LB) (f c w r n:Int) (g:LI) (a:Int) (x:LB) (u:Bool) (v:Int),FitD o f c w r n g a x→o.length≤64→SzD p g a x→muD f g a<k→k≤q1→k≤q2→
  Az q1 o p f c w r n g a x u v=Az q2 o p f c w r n g a x u v
 |0,_,_,_,_,_,_,_,_,_,_,_,_,_,_,_,_,_,h,_,_=>by omega
 |k+1,q1,q2,o,p,f,c,w,r,n,g,a,x,u,v,hf,ho,hZ,hm,h1,h2=>by
  obtain⟨q1,rfl⟩:∃q,q1=q+1:=⟨q1-1,by omega⟩
  obtain⟨q2,rfl⟩:∃q,q2=q+1:=⟨q2-1,by omega⟩
  rw[Az,Az,Cp,Cp]
  have hS:StepR (Ao o u v q1) o p f c w r n g a x u v:=Bf4 hf ho hZ
  cases hS with
  |wait hF hT=>
   rw[hT,Aa,Aa]
   simp only
   rw[if_pos (by decide),if_pos (by decide)]
  |err e he hF hT=>
   rw[hT,Aa,Aa]
   simp only
   rw[if_neg (by rw[Ati (by omega)];decide),if_pos (by rw[Ak];simp;omega),if_neg (by rw[Ati (by omega)];decide),if_pos (by rw[Ak];simp;omega)]
  |next p' f' c' w' r' n' g' a' x' hF hT hf' hZ' hle hmu=>
   rw[hT,Aa,Aa]
   simp only
   rw[if_neg (by decide),if_neg (by decide),if_neg (by decide),if_neg (by decide)]
   exact Bi8 k q1 q2 o p' f' c' w' r' n' g' a' x' u v hf' ho hZ' (by omega) (by omega) (by omega)
structure Wt (o p:LB) (f c w r n:Int) (g:LI) (a:Int) (x:LB):Prop where
 fit:FitD o f c w r n g a x
 sz:SzD p g a x
 out:OutB f c w r n g a x
 wait:cadenzaref37_take o p f c w r n g a x false 0=some (o,p,f,c,w,r,n,g,a,x,false,0, -1)
abbrev loopR(q:Nat)(o p:LB)(f c w r n:Int)(g:LI)(a:Int)(x:LB):=Az q o p f c w r n g a x false 0
theorem Bne:∀(k q:Nat) (o p:LB) (f c w r n:Int) (g:LI) (a:Int) (x:LB),FitD o f c w r n g a x→o.length≤64→SzD p g a x→OutB f c w r n g a x→p.length≤100000→muD f g a<k→k≤q→
  (∃(t2:LB) (t3 t4 t5 t6 t7:Int) (t8:LI) (t9:Int) (t10:LB),loopR q o p f c w r n g a x=some (o,t2,t3,t4,t5,t6,t7,t8,t9,t10,false,0,0)∧Wt o t2 t3 t4 t5 t6 t7 t8 t9 t10∧t2.length≤p.length∧muD t3 t8 t9<k∧
   ∀b:LB,(p++b).length≤100000→loopR q o (p++b) f c w r n g a x=loopR q o (t2++b) t3 t4 t5 t6 t7 t8 t9 t10)∨
  (∃(x':LB) (e:Int),0<e∧Cd e∧x'.length≤12000∧∀b:LB,(p++b).length≤100000→loopR q o (p++b) f c w r n g a x=some (o,[],0,0,0,0,0,[],0,x',false,e,e))
 |0,_,_,_,_,_,_,_,_,_,_,_,_,_,_,_,_,h,_=>by omega
 |k+1,q,o,p,f,c,w,r,n,g,a,x,hf,ho,hZ,hO,hp,hm,h1=>by
  obtain⟨q,rfl⟩:∃q',q=q'+1:=⟨q-1,by omega⟩
  have hx:x.length≤13000000:=by have:=hZ.hx;omega
  have hS:StepR (Ao o false 0 q) o p f c w r n g a x false 0:=Bf4 hf ho hZ
  cases hS with
  |wait hF hT=>
   refine .inl ⟨p,f,c,w,r,n,g,a,x,?_,⟨hf,hZ,hO,hT⟩,Nat.le_refl _,hm,fun b _=>rfl⟩
   rw[loopR,Az,Cp,hT,Aa]
   simp only
   rw[if_pos (by decide),Amy hZ.hp (by have:=hZ.hg;omega) hx,Aa]
  |err e he hF hT=>
   refine .inr ⟨x,e,he,Cdk hf ho hp hT (by omega),Bzn hf hO,fun b hL=>?_⟩
   obtain⟨s1,s2,s3,s4,s5,s6,s7,s8,s9,s10,s11,s12,hs⟩:=(At8 b hf hL hT (by omega)).2 (by omega)
   rw[loopR,Az,Cp,hs,Aa]
   simp only
   rw[if_neg (by rw[Ati (by omega)];decide),if_pos (by rw[Ak];simp;omega),Bdy hx,Aa]
  |next p' f' c' w' r' n' g' a' x' hF hT hf' hZ' hle hmu=>
   have hp':p'.length≤100000:=by omega
   rcases Bne k q o p' f' c' w' r' n' g' a' x' hf' ho hZ' (By2 hf ho hZ hO hT) hp' (by omega) (by omega)with⟨t2,t3,t4,t5,t6,t7,t8,t9,t10,k1,k2,k3,k4,k5⟩|⟨x2,e,k1,k2,k3,k4⟩
   ·refine .inl ⟨t2,t3,t4,t5,t6,t7,t8,t9,t10,?_,k2,by omega,by omega,fun b hL=>?_⟩
    ·rw[loopR,Az,Cp,hT,Aa]
     simp only
     rw[if_neg (by decide),if_neg (by decide)]
     exact k1
    ·have hs:=(At8 b hf hL hT (by decide)).1 rfl
     have hL':(p'++b).length≤100000:=by rw[List.length_append]at hL⊢;omega
     rw[loopR,Az,Cp,hs,Aa]
     simp only
     rw[if_neg (by decide),if_neg (by decide)]
     refine(k5 b hL').trans ?_
     exact Bi8 k q (q+1) o (t2++b) t3 t4 t5 t6 t7 t8 t9 t10 false 0 k2.fit ho ⟨by rw[List.length_append]at hL⊢;omega,k2.sz.hg,k2.sz.hx⟩ k4 (by omega) (by omega)
   ·refine .inr ⟨x2,e,k1,k2,k3,fun b hL=>?_⟩
    have hs:=(At8 b hf hL hT (by decide)).1 rfl
    have hL':(p'++b).length≤100000:=by rw[List.length_append]at hL⊢;omega
    rw[loopR,Az,Cp,hs,Aa]
    simp only
    rw[if_neg (by decide),if_neg (by decide)]
    exact k4 b hL'
end Go.Pl
set_option linter.unusedVariables false
set_option linter.unusedSimpArgs false
namespace Go.Pl
open Go Go.Lv
abbrev Fd(o s:LB):=loopR FUEL o s 0 0 0 0 0 [] 0 []
inductive Bh (o s:LB):LB→Int→Int→Int→Int→Int→LI→Int→LB→Int→Prop
 |wt {p:LB} {f c w r n:Int} {g:LI} {a:Int} {x:LB}:Wt o p f c w r n g a x→p.length≤s.length→(∀b:LB,(s++b).length≤100000→Fd o (s++b)=loopR FUEL o (p++b) f c w r n g a x)→Bh o s p f c w r n g a x 0
 |er {x:LB} {e:Int}:0<e→Cd e→x.length≤12000→(∀b:LB,(s++b).length≤100000→Fd o (s++b)=some (o,[],0,0,0,0,0,[],0,x,false,e,e))→Bh o s [] 0 0 0 0 0 [] 0 x e
variable {o s p:LB} {f c w r n:Int} {g:LI} {a:Int} {x:LB} {e:Int}
theorem Wt.stop(W:Wt o p f c w r n g a x):loopR FUEL o p f c w r n g a x=some (o,p,f,c,w,r,n,g,a,x,false,0,0):=by
 obtain⟨q,hq⟩:∃q,FUEL=q+1:=⟨FUEL-1,by have:=Am;omega⟩
 have hx:x.length≤13000000:=by have:=W.sz.hx;omega
 rw[loopR,hq,Az,Cp,W.wait,Aa]
 simp only
 rw[if_pos (by decide),Amy W.sz.hp (by have:=W.sz.hg;omega) hx,Aa]
theorem Bh.fd(h:Bh o s p f c w r n g a x e)(hs:s.length≤100000):Fd o s=some (o,p,f,c,w,r,n,g,a,x,false,e,e):=by
 cases h with
 |wt W hl hb=>
  have:=hb [] (by simpa using hs)
  rw[List.append_nil,List.append_nil]at this
  rw[this,W.stop]
 |er h0 hc hx hb=>
  have:=hb [] (by simpa using hs)
  rw[List.append_nil]at this
  exact this
theorem Bh.new(ho:o.length≤64):Bh o [] [] 0 0 0 0 0 [] 0 [] 0:=by
 refine .wt ⟨.new rfl rfl rfl rfl rfl rfl rfl rfl,⟨by simp,by simp,by simp⟩,OutB.nil,?_⟩ (Nat.le_refl _) fun b _=>rfl
 rw[cadenzaref37_take,Bt,if_pos (by decide),Yi [] (by simp),Aa]
 rfl
theorem Ccd(ho:o.length≤64)(W:Wt o p f c w r n g a x)(b:LB)(hp:p.length≤20000)(hb:b.length≤20000):
  Js o p f c w r n g a x false 0 b=loopR FUEL o (p++b) f c w r n g a x∧Hq o p f c w r n g a x false 0 b=loopR FUEL o (p++b) f c w r n g a x:=by
 have hR:Hq o p f c w r n g a x false 0 b=loopR FUEL o (p++b) f c w r n g a x:=by
  have hx:x.length≤13000000:=by have:=W.sz.hx;omega
  have hg:g.length≤2000:=by have:=W.sz.hg;omega
  have hE:¬(Ax (0:Int) 0=true):=by decide
  have hF:¬(false=true):=by decide
  rw[Hq,Ng,Axg W.fit ho W.out W.wait,Aa,if_neg hE,Amy (by omega) hg hx,Aa]
  simp only
  rw[Nh]
  repeat (first|rw[Aa]|rw[if_neg hE]|rw[if_neg hF])
  rw[Cj (by omega),Aa]
  rfl
 obtain⟨t1,t2,t3,t4,t5,t6,t7,t8,t9,t10,t11,t12,e,h1,h2,_⟩:=Cgw ho W.fit W.sz b hp hb
 exact⟨h1.trans (h2.symm.trans hR),hR⟩
theorem Bh.check(ho:o.length≤64)(h:Bh o s p f c w r n g a x e)(hp:p.length≤100000):Gz o p f c w r n g a x false e=some 0∧Dc o p f c w r n g a x false e=some 0:=by
 have key:Dc o p f c w r n g a x false e=some 0∧g.length≤1000∧x.length≤13000000:=by
  cases h with
  |wt W hl hb=>exact⟨Axg W.fit ho W.out W.wait,W.sz.hg,by have:=W.sz.hx;omega⟩
  |er h0 hc hx hb=>exact⟨Bi1 ho hx hc h0,by simp,by omega⟩
 obtain⟨k1,k2,k3⟩:=key
 obtain⟨E,e1,e2⟩:=Be1 o p f c w r n g a x false e hp (by omega) (by omega)
 rw[k1]at e2
 cases e2
 exact⟨e1,k1⟩
theorem Bh.feed(ho:o.length≤64)(h:Bh o s p f c w r n g a x e)(hp:p.length≤20000)(b:LB)(hb:b.length≤20000)(hs:(s++b).length≤100000):
  ∃(p':LB) (f' c' w' r' n':Int) (g':LI) (a':Int) (x':LB) (e':Int),Js o p f c w r n g a x false e b=some (o,p',f',c',w',r',n',g',a',x',false,e',e')∧
   Hq o p f c w r n g a x false e b=some (o,p',f',c',w',r',n',g',a',x',false,e',e')∧Bh o (s++b) p' f' c' w' r' n' g' a' x' e':=by
 have hck:=h.check ho (by omega)
 cases h with
 |wt W hl hB=>
  obtain⟨h1,h2⟩:=Ccd ho W b hp hb
  have hpb:(p++b).length≤100000:=by rw[List.length_append];omega
  have hZ:SzD (p++b) g a x:=⟨hpb,W.sz.hg,W.sz.hx⟩
  rcases Bne 1004 FUEL o (p++b) f c w r n g a x W.fit ho hZ W.out hpb (Bwr hZ) (by have:=Am;omega)with⟨t2,t3,t4,t5,t6,t7,t8,t9,t10,k1,k2,k3,k4,k5⟩|⟨x2,e,k1,k2,k3,k4⟩
  ·refine⟨t2,t3,t4,t5,t6,t7,t8,t9,t10,0,h1.trans k1,h2.trans k1, .wt k2 ?_ fun b2 hL=>?_⟩
   ·rw[List.length_append]at k3⊢;omega
   ·rw[List.append_assoc,hB (b++b2) (by rw[←List.append_assoc];exact hL),←List.append_assoc]
    refine k5 b2 ?_
    rw[List.length_append,List.length_append]at hL⊢;omega
  ·have k4':=k4 [] (by simpa using hpb)
   rw[List.append_nil]at k4'
   refine⟨_,_,_,_,_,_,_,_,_,_,h1.trans k4',h2.trans k4', .er k1 k2 k3 fun b2 hL=>?_⟩
   rw[List.append_assoc,hB (b++b2) (by rw[←List.append_assoc];exact hL),←List.append_assoc]
   refine k4 b2 ?_
   rw[List.length_append,List.length_append]at hL⊢;omega
 |er h0 hc hx hB=>
  have hne:Ax e 0=true:=by rw[Ak];simp;omega
  refine⟨_,_,_,_,_,_,_,_,_,_,?_,?_, .er h0 hc hx fun b2 hL=>?_⟩
  ·rw[Js,Xq,Boa (by simp) (by simp) (by omega) hck.1,if_neg (by decide),Aa]
   simp only
   rw[if_pos (show e≠0 by omega),if_pos hne]
  ·rw[Hq,Ng,hck.2,Aa,if_neg (by decide),Amy (by simp) (by simp) (by omega),Aa]
   simp only
   rw[Nh,if_pos hne,Aa,if_pos hne]
  ·rw[List.append_assoc]
   exact hB (b++b2) (by rw[←List.append_assoc];exact hL)
theorem Cfc{u:Bool}{v:Int}{y:LB}(hf:FitD o f c w r n g a x){t1 t2:LB}{t3 t4 t5 t6 t7:Int}{t8:LI}{t9:Int}{t10:LB}{t11:Bool}{t12:Int}
  (h:cadenzaref37_take o p f c w r n g a x u v=some (t1,t2,t3,t4,t5,t6,t7,t8,t9,t10,t11,t12, -1)) (hp:p.length≤100000):cadenzaref37_take o p f c w r n g a y u v=some (o,p,f,c,w,r,n,g,a,y,u,v, -1):=by
 have zero:¬(Ax (0:Int) 0=true):=by decide
 rw[cadenzaref37_take,Bt]at h⊢
 by_cases hz:geq f 0=true
 ·rw[if_pos hz]at h⊢
  obtain⟨⟨z1,z2,z3,z4,z5,z6,z7⟩,hz1,h⟩:=bnd h
  rw[hz1,Aa]
  simp only at h⊢
  by_cases h7:Ax z7 0=true
  ·rw[if_pos h7]at h⊢
   simp only[Option.some.injEq,Prod.mk.injEq]at h
   rw[h.2.2.2.2.2.2.2.2.2.2.2.2]
  ·rw[if_neg h7]at h
   obtain⟨af,h1,h⟩:=bnd h
   rw[Fe,Ex,Db]at h
   obtain⟨aw,h2,h⟩:=bnd h
   simp only[Option.some.injEq,Prod.mk.injEq]at h
   obtain⟨-, -, -, -, -, -, -, -, -, -, -, -,rfl⟩:=h
   split at h2<;>cases h2
 ·rw[if_neg hz]at h⊢
  rw[Br,Bs]at h⊢
  by_cases hg:geq (Ac g) 0=true
  ·rw[if_pos hg]at h⊢
   obtain⟨⟨z1,z2,z3⟩,hz1,h⟩:=bnd h
   rw[hz1,Aa]
   simp only at h⊢
   by_cases h7:Ax z3 0=true
   ·rw[if_pos h7]at h⊢
    simp only[Option.some.injEq,Prod.mk.injEq]at h
    rw[h.2.2.2.2.2.2.2.2.2.2.2.2]
   ·rw[if_neg h7]at h
    obtain⟨af,h1,h⟩:=bnd h
    simp only[Option.some.injEq,Prod.mk.injEq]at h
    exact absurd h.2.2.2.2.2.2.2.2.2.2.2.2 (by decide)
  ·rw[if_neg hg]at h⊢
   by_cases he:geq a (Ac g)=true
   ·rw[if_pos he]at h⊢
    by_cases hm:Dw (Ac p) 4000=true
    ·rw[if_pos hm]at h
     simp only[Option.some.injEq,Prod.mk.injEq]at h
     exact absurd h.2.2.2.2.2.2.2.2.2.2.2.2 (by decide)
    ·rw[if_neg hm]
   ·rw[if_neg he]at h⊢
    obtain⟨⟨z1,z2⟩,hz1,h⟩:=bnd h
    have hz2:Cl o p f c w r n g a y u v=some (z1,z2):=hz1
    rw[hz2,Aa]
    simp only at h⊢
    by_cases h7:Ax z2 0=true
    ·rw[if_pos h7]at h⊢
     simp only[Option.some.injEq,Prod.mk.injEq]at h
     rw[h.2.2.2.2.2.2.2.2.2.2.2.2]
    ·rw[if_neg h7]at h
     obtain⟨an,h2,h⟩:=bnd h
     obtain⟨ah,h3,h⟩:=bnd h
     obtain⟨ad,h4,h⟩:=bnd h
     obtain⟨ae,h5,h⟩:=bnd h
     simp only[Option.some.injEq,Prod.mk.injEq]at h
     exact absurd h.2.2.2.2.2.2.2.2.2.2.2.2 (by decide)
end Go.Pl
set_option linter.unusedVariables false
set_option linter.unusedSimpArgs false
namespace Go.Pl
open Go Go.Lv
section
variable {o s p:LB} {f c w r n:Int} {g:LI} {a:Int} {x:LB} {e:Int}
theorem FitD.drop(h:FitD o f c w r n g a x)(t:Nat):FitD o f c w r n g a (x.drop t):=by
 cases h with
 |new e1 e2 e3 e4 e5 e6 e7 e8=>subst e8;exact .new e1 e2 e3 e4 e5 e6 e7 (by simp)
 |head F C W R N hd hpw e6 e7 e8=>subst e8;exact .head F C W R N hd hpw e6 e7 (by simp)
 |tab F C W R N A hd hpw ht hl ea hA=>exact .tab F C W R N A hd hpw ht hl ea hA
theorem OutB.drop(h:OutB f c w r n g a x)(t:Nat):OutB f c w r n g a (x.drop t):=by
 intro F C W R N A hd hg ha
 have:=h F C W R N A hd hg ha
 rw[List.length_drop];omega
theorem Bh.Bo8(h:Bh o s p f c w r n g a x e):p.length≤s.length∧g.length≤1000∧x.length≤12000:=by
 cases h with
 |wt W hl hb=>exact⟨hl,W.sz.hg,Bzn W.fit W.out⟩
 |er h0 hc hx hb=>exact⟨by simp,by simp,hx⟩
theorem Bh.Bx3(ho:o.length≤64)(h:Bh o s p f c w r n g a x e)(hp:p.length≤100000)(t:Nat):Gz o p f c w r n g a (x.drop t) false e=some 0:=by
 have hs:=h.Bo8
 have key:Dc o p f c w r n g a (x.drop t) false e=some 0:=by
  cases h with
  |wt W hl hb=>exact Axg (W.fit.drop t) ho (W.out.drop t) (Cfc W.fit W.wait hp)
  |er h0 hc hx hb=>exact Bi1 ho (by rw[List.length_drop];omega) hc h0
 obtain⟨E,e1,e2⟩:=Be1 o p f c w r n g a (x.drop t) false e hp (by omega) (by rw[List.length_drop];omega)
 rw[key]at e2
 cases e2
 exact e1
theorem Bzg(hck:Gz o p f c w r n g a x false e=some 0)(hp:p.length≤20000)(hg:g.length≤2000)(hx:x.length≤12000)(m:Nat):
  Wy o p f c w r n g a x false e (m:Int)=some (o,p,f,c,w,r,n,g,a,x.drop (min m x.length),false,e,x.take (min m x.length),0):=by
 rw[Wy,hck,Aa,if_neg (by decide),if_neg (by rw[Af];simp),Biq (by omega) hg (by omega),Aa]
 simp only
 have hk:Dk (m:Int) (Ac x)=((min m x.length:Nat):Int):=by rw[Agt,Ac];omega
 rw[hk,Cs (by omega) (by omega),Aa,Gu,Cj (by simp;omega),Aa,Aa,Cx (by omega) (by omega),Aa]
 rfl
theorem Bgs(ho:o.length≤64)(hB:Bh o s p f c w r n g a x e)(hp:p.length≤20000)(b:LI)(hb:b.length≤60)(v1:LB)(v2 v3 v4 v5 v6 v7:Int)(v8:Bool)(v9:LB)(v10:LI):∀(k i t q:Nat),i+k=b.length+1→t≤x.length→(i=b.length+1→t=x.length)→k<q→
  Cb b true v1 v2 v3 v4 v5 v6 v7 x v8 e v9 v10 q (i:Int) (x.take t) o p f c w r n g a (x.drop t) false e=some true
 |k,i,t,0,_,_,_,h=>absurd h (Nat.not_lt_zero _)
 |0,i,t,q+1,hi,ht,hz,hq=>by
  obtain rfl:=hz (by omega)
  rw[Cb,Fk,if_neg (by rw[Ahl,Ac];simp;omega),Jo,Pj]
  simp[Ap,Ac]
 |k+1,i,t,q+1,hi,ht,hz,hq=>by
  have hs:=hB.Bo8
  have hxl:(x.drop t).length=x.length-t:=List.length_drop
  have step:∀m:Nat,(i=b.length→12000≤m)→Dh (Cb b true v1 v2 v3 v4 v5 v6 v7 x v8 e v9 v10 q) b true v1 v2 v3 v4 v5 v6 v7 x v8 e v9 v10 (i:Int) (x.take t) o p f c w r n g a (x.drop t) false e (m:Int)=some true:=by
   intro m hm
   rw[Dh,Bzg (hB.Bx3 ho (by omega) t) hp (by omega) (by omega) m,Aa]
   simp only
   have hl:((x.drop t).take (min m (x.drop t).length)).length=min m (x.length-t):=by rw[List.length_take,hxl];omega
   rw[if_neg (by simp[Ak,Aq,Ac];omega),Cj (by rw[hl,List.length_take];omega),Aa,Ah (by omega) (by omega),List.drop_drop,←List.take_add,hxl]
   exact Bgs ho hB hp b hb v1 v2 v3 v4 v5 v6 v7 v8 v9 v10 k (i+1) (t+min m (x.length-t)) q (by omega) (by omega) (fun h=>by have:=hm (by omega);omega) (by omega)
  rw[Cb,Fk,if_pos (by rw[Ahl,Ac];simp;omega)]
  by_cases hlt:i<b.length
  ·have e1:Ant 0 b[i]=((b[i].toNat:Nat):Int):=by rw[Bd3];omega
   rw[if_pos (by rw[Af,Ac];simp;omega),Cc hlt,Aa,e1]
   exact step _ (by omega)
  ·rw[if_neg (by rw[Af,Ac];simp;omega)]
   exact step 200000 (by omega)
end
section
variable {o:LB} (ho:o.length≤64) {aa:LB} (hl:aa.length≤12100) {b:LI} (hb:b.length≤60) {h:LB} {k m n z y:Int} {w:LI} {u:Int} {f:LB} {e:Int} (hall:Fd o aa=some (o,h,k,m,n,z,y,w,u,f,false,e,e)) (hw:w.length≤2000)
include ho hl hb hall hw
theorem Ba4:∀(j i t q:Nat) (p:LB) (f' c' w' r' n':Int) (g':LI) (a':Int) (x':LB) (e':Int),Bh o (aa.take t) p f' c' w' r' n' g' a' x' e'→i+j=b.length+1→t≤aa.length→(i=b.length+1→t=aa.length)→j<q→
  Ca aa b true e o k m n z y u f false e h w q e' (t:Int) (i:Int) o p f' c' w' r' n' g' a' x' false e'=some true
 |j,i,t,0,_,_,_,_,_,_,_,_,_,_,_,_,_,_,h=>absurd h (Nat.not_lt_zero _)
 |0,i,t,q+1,p,f',c',w',r',n',g',a',x',e',hB,hi,ht,hz,hq=>by
  obtain rfl:=hz (by omega)
  rw[List.take_length]at hB
  have hfd:=(hB.fd (by omega)).symm.trans hall
  simp only[Option.some.injEq,Prod.mk.injEq,true_and]at hfd
  obtain⟨rfl,rfl,rfl,rfl,rfl,rfl,rfl,rfl,rfl,rfl, -⟩:=hfd
  have hs:=hB.Bo8
  rw[Ca,Ft,if_neg (by rw[Ahl,Ac];simp;omega),Ja,Jl,Bv0 _ _ _ _ _ _ _ _ _ _ _ _ hw,Aa,if_neg (by simp[Ak])]
  have:=Bgs ho hB (by omega) b hb o f' c' w' r' n' a' false p g' (b.length+1) 0 0 FUEL (by omega) (by omega) (by omega) (by have:=Am;omega)
  rw[List.take_zero,List.drop_zero]at this
  exact this
 |j+1,i,t,q+1,p,f',c',w',r',n',g',a',x',e',hB,hi,ht,hz,hq=>by
  have hs:=hB.Bo8
  have htl:(aa.take t).length=t:=by rw[List.length_take];omega
  have step:∀M:Nat,M≤aa.length-t→(i=b.length→M=aa.length-t)→Ji (Ca aa b true e o k m n z y u f false e h w q) aa b true e o k m n z y u f false e h w (t:Int) (i:Int) o p f' c' w' r' n' g' a' x' false e' (M:Int)=some true:=by
   intro M hM hlast
   have e1:Ae (t:Int) (M:Int)=((t+M:Nat):Int):=by rw[Ah (by omega) (by omega)];omega
   have e2:aa.take t++(aa.take (t+M)).drop t=aa.take (t+M):=by
    have h1:aa.take t=(aa.take (t+M)).take t:=by rw[List.take_take];congr 1;omega
    rw[h1];exact List.take_append_drop t _
   have hl2:((aa.take (t+M)).drop t).length≤20000:=by rw[List.length_drop,List.length_take];omega
   have hl3:(aa.take t++(aa.take (t+M)).drop t).length≤100000:=by rw[e2,List.length_take];omega
   rw[Ji,e1,Ad9 (by omega) (by omega) (by omega),Aa,Int.toNat_natCast,Int.toNat_natCast]
   obtain⟨p2,f2,c2,w2,r2,n2,g2,a2,x2,e3,d1,_,d3⟩:=hB.feed ho (by omega) ((aa.take (t+M)).drop t) hl2 hl3
   rw[e2]at d3
   rw[d1,Aa]
   simp only
   rw[Ah (by omega) (by omega)]
   exact Ba4 j (i+1) (t+M) q p2 f2 c2 w2 r2 n2 g2 a2 x2 e3 d3 (by omega) (by omega) (fun h=>by have:=hlast (by omega);omega) (by omega)
  have e0:Aj (Ac aa) (t:Int)=((aa.length-t:Nat):Int):=by rw[Ac,Bv (by omega) (by omega)];omega
  rw[Ca,Ft,if_pos (by rw[Ahl,Ac];simp;omega)]
  by_cases hlt:i<b.length
  ·have e1:Dk (Aj (Ac aa) (t:Int)) (Ant 0 b[i])=((min (aa.length-t) b[i].toNat:Nat):Int):=by rw[e0,Bd3,Agt];omega
   rw[if_pos (by rw[Af,Ac];simp;omega),Cc hlt,Aa,e1]
   exact step _ (by omega) (by omega)
  ·rw[if_neg (by rw[Af,Ac];simp;omega),e0]
   exact step _ (by omega) (by omega)
end
theorem Bm0(hal:Qb=some true)(o aa:LB)(b:LI):Hk o aa b=some true:=by
 rw[Hk,Ka,hal,Aa]
 by_cases ho:o.length≤64
 ·rw[if_neg (by rw[Aq,Ac];simp;omega),Ach,Aa]
  by_cases hc:(((((Dw (Ac aa) 5000)&&(Bz (Ac aa) 12000))||(Dw (Ac aa) 12100))||(Dw (Ac b) 60))||(!true))=true
  ·rw[if_pos hc]
  ·rw[if_neg hc]
   simp only[Bool.or_eq_true,not_or,Aq,Ac,decide_eq_true_eq]at hc
   have hl:aa.length≤12100:=by omega
   have hb:b.length≤60:=by omega
   rw[Jk,Je,Afh,if_neg (by rw[Aq,Ac];simp;omega),Aa]
   simp only
   obtain⟨p2,f2,c2,w2,r2,n2,g2,a2,x2,e3,d1,_,d3⟩:=(Bh.new ho).feed ho (by simp) aa (by omega) (by simp;omega)
   rw[List.nil_append]at d3
   rw[if_neg (by decide),d1,Aa]
   have:=Ba4 ho hl hb (d3.fd (by omega)) (by have:=d3.Bo8;omega) (b.length+1) 0 0 FUEL [] 0 0 0 0 0 [] 0 [] 0 (by rw[List.take_zero];exact Bh.new ho) (by omega) (by omega) (by omega) (by have:=Am;omega)
   exact this
 ·rw[if_pos (by rw[Aq,Ac];simp;omega),if_pos (by simp)]
theorem Cb0:Qb=some true:=by kernel_rfl
theorem law_PushdecPieces(o aa:LB)(b:LI):Hk o aa b=some true:=Bm0 Cb0 o aa b
end Go.Pl
