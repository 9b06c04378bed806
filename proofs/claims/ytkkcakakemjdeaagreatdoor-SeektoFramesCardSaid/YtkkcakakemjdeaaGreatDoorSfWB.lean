/- A part of the proof of a statement of this seat (see the text that ends in Proof): LwSf. No conditions of its own. -/
import Derived.Test.YtkkcakakemjdeaaGreatDoorSfWA
set_option linter.unusedVariables false
set_option linter.unusedSimpArgs false
namespace Go.Pl
open Go Go.Lv
theorem Awx{b p:List UInt8}{f c w r n A:Nat}{l:List Int}(o:Opn b p f c w r n A l)(a1 a2 a3 a4 a5 a6:Int)(F:LB)(E:Int):∀(j k q:Nat) (acc:LB),k+j=l.length→j<q→acc.length≤12000*k→Atk (Bon b p f c w r n A l) (Bo8 b A l) j k acc=(F,E)→
  Bz b p true E a1 a2 a3 a4 a5 a6 F l q (k:Int) acc=some true
 |j,k,0,_,_,h,_,_=>absurd h (Nat.not_lt_zero _)
 |0,k,q+1,acc,hk,hq,ha,h=>by
  rw[Atk]at h
  rw[Bz,Ep,if_neg (by rw[Af,Ac];simp;omega),Hh,Ms,if_pos rfl]
  by_cases hb:Bo8 b A l≠0
  ·rw[if_pos hb]at h
   cases h
   rw[if_neg (by simp[Bp])]
   rfl
  ·rw[if_neg hb]at h
   cases h
   rw[if_pos (by simp[Bp])]
 |j+1,k,q+1,acc,hk,hq,ha,h=>by
  have hlt:k<l.length:=by omega
  obtain⟨m,x,s,e,g⟩:=Bcv o k hlt
  have hl:=g.lens (Aoc o.shape).2.1
  rw[Atk,g.eq]at h
  simp only at h
  rw[Bz,Ep,if_pos (by rw[Af,Ac];simp;omega),Bor o hlt g,Aa]
  simp only
  by_cases he:e≠0
  ·rw[if_pos he]at h
   cases h
   rw[if_pos (by rw[Ak];simpa using he)]
   simp[Bp,Ac]
  ·rw[if_neg he]at h
   have hs1:=o.some1
   rw[if_neg (by rw[Ak];simpa using he),Fc (by omega),Aa,Ag (by omega) (by omega)]
   exact Awx o a1 a2 a3 a4 a5 a6 F E j (k+1) q (acc++s) (by omega) (by omega) (by rw[List.length_append];omega) h
theorem Bkz(hal:Ml=some true)(b p:LB)(n:Int):Fw b p n=some true:=by
 rw[Fw,Hm,hal,Aa,Vo,Aa]
 by_cases hc:((((((Ev (Ac b) 5000)&&(Bq (Ac b) 12000))||(Ev (Ac b) 12100))||(Ev (Ac p) 64))||(Bq n 0))||(!true))=true
 ·rw[if_pos hc]
 ·rw[if_neg hc]
  simp only[Bool.or_eq_true,not_or,Ar,Af,Ac,decide_eq_true_eq]at hc
  obtain⟨⟨⟨⟨c1,c2⟩,c3⟩,c4⟩,_⟩:=hc
  obtain⟨k,rfl⟩:=Int.eq_ofNat_of_zero_le (show 0≤n by omega)
  rcases Buy b p (by omega) (by omega)with⟨e,he,h1,h2⟩|⟨f,c,w,r,n,A,l,o⟩
  ·rw[h1,Aa,Bft]
   simp only
   rw[Br8 he h1,Aa]
   simp only
   rw[if_pos (by rw[Ak];simpa using he)]
   simp[Bp]
  ·have hs1:=o.some1
   rw[o.prog,Aa]
   simp only
   rw[Bo3 o,Aa]
   generalize hy:(if(k:Int)<0∨(l.length:Int)≤(k:Int)then(([]:LB),(2:Int))else Atk (Bon b p f c w r n A l) (Bo8 b A l) (l.length-(k:Int).toNat) (k:Int).toNat [])=y
   obtain⟨F,E⟩:=y
   simp only
   rw[if_neg (by decide)]
   by_cases hk:l.length≤k
   ·rw[if_pos (by omega)]at hy
    cases hy
    rw[if_pos (by rw[Cs,Ac];simp;omega)]
    rfl
   ·rw[if_neg (by omega),Int.toNat_natCast]at hy
    rw[if_neg (by rw[Cs,Ac];simp;omega)]
    split
    ·rfl
    ·exact Awx o _ _ _ _ _ _ F E (l.length-k) k Ap [] (by omega) (by have:=Am;omega) (by simp) hy
theorem law_SeektoFrames(b p:LB)(n:Int):Fw b p n=some true:=Bkz Bvr b p n
end Go.Pl
