/- A part of the proof of a statement of this seat (see the text that ends in Proof): LwStart, LwStb, LwChk, LwChkT, LwChkF, LwPc, LwTake, LwGre, LwSteps, LwStb2, LwFed, LwOut, LwErr, LwCat, LwJoin, LwPcs, LwDec, LwWays, LwCw. No conditions of its own. -/
import Derived.Test.YtfcmocdmhnafcaaGreatDoorCwWA
import Derived.Test.YtfcmocdmhnafcaaGreatDoorCwPA
import Derived.KernelRfl
set_option linter.unusedVariables false
set_option linter.unusedSimpArgs false
namespace Go.Pl
open Go Go.Lv
theorem Bze(b:List UInt8)(n:Int):Cd (Aoy b n).2:=by
 unfold Aoy
 repeat' split
 all_goals first|decide|exact .inl rfl
theorem Byn(b:List UInt8):(Vw b).2=6∨Cd (Vw b).2:=by
 unfold Vw Bc7
 repeat' split
 all_goals first|exact .inl rfl|exact .inr (Bze _ _)|exact .inr (by decide)
theorem Bvr(b:List UInt8):(Ig b).2=6∨Cd (Ig b).2:=by
 unfold Ig
 repeat' split
 all_goals first|exact .inl rfl|exact .inr (.inl rfl)|exact .inr (by decide)
theorem Bxf(b:List UInt8):(Cb b).2=6∨Cd (Cb b).2:=by
 unfold Cb
 split
 ·exact Byn b
 ·exact Bvr b
theorem Bjd(b:List UInt8):∀(j p:Nat),p≤b.length→b.length<j+p→Cd (Bq b j p).2
 |0,p,h1,h2=>by omega
 |j+1,p,h1,h2=>by
  rw[Bq]
  split
  ·exact .inl rfl
  ·rename_i h6
   split
   ·exact(Bxf _).resolve_left h6
   ·rename_i h0
    split
    ·exact(by decide:Cd 4)
    ·have hz:Cb (b.drop p)=((Cb (b.drop p)).1,0):=by rw[Prod.ext_iff];exact⟨rfl,by simpa using h0⟩
     obtain⟨k1,k2⟩:=Avr hz
     rw[List.length_drop]at k2
     split
     ·exact .inl rfl
     ·exact Bjd b j _ (by omega) (by omega)
theorem Bi9(b:List UInt8):Cd (Dh b).2:=by
 unfold Dh Biu
 split
 ·exact .inl rfl
 ·exact Bjd b _ _ (by omega) (by omega)
theorem Bja(b:List UInt8):0≤(Dh b).2:=(Bi9 b).nn
theorem Bo1(b:List UInt8):Cd (Eh b).2.2.2.2.2:=by
 unfold Eh
 repeat' split
 all_goals first|decide|exact .inl rfl
theorem Bp0(b:List UInt8):0≤(Eh b).2.2.2.2.2:=(Bo1 b).nn
theorem Bzl(b:List UInt8){n:Nat}(h:1≤n∧n≤1000):Cd (Ie b n).2:=by
 unfold Ie
 rw[if_neg (fun e=>e h)]
 repeat' split
 all_goals first|decide|exact .inl rfl
theorem Bn5(b:List UInt8)(n:Nat):0≤(Ie b n).2:=by
 unfold Ie
 repeat' split
 all_goals simp
def ID3:List UInt8:=[73,68,51]
def APX:List UInt8:=[65,80,69,84,65,71,69,88]
def Pm(b s:List UInt8):Bool:=decide (b.length<s.length)&&(b==s.take b.length)
theorem Bjl(b s:List UInt8):Ok b s=some (Pm b s):=by
 rw[Ok,Pm]
 by_cases h:b.length<s.length
 ·rw[if_pos (by rw[Af,Ac,Ac];simp;omega),Ac,Cp (by omega) (by omega),Aa,decide_eq_true h,Bool.true_and];rfl
 ·rw[if_neg (by rw[Af,Ac,Ac];simp;omega),decide_eq_false h];rfl
theorem Byj(b s:List UInt8)(h:b.length<s.length):Hs s b=some (Pm b s):=by
 rw[Hs,Fo,if_pos (by rw[Eb,Ac,Ac];simp;omega),Ac,Cp (by omega) (by omega),Aa,Aa,Pm,decide_eq_true h,Bool.true_and,Int.toNat_natCast]
 congr 1
 rw[Bool.eq_iff_iff,beq_iff_eq,beq_iff_eq]
 exact eq_comm
theorem Av7{b s:List UInt8}(h:¬b.length<s.length):Pm b s=false:=by rw[Pm,decide_eq_false h];rfl
theorem Bxl(b:List UInt8):Nm b=some (Pm b ID3||Pm b APX):=by
 obtain⟨q,hq⟩:∃q,FUEL=q+3:=⟨FUEL-3,by have:=Am;omega⟩
 have l3:If b (q+1) 2=some false:=by rw[If,Qx,if_neg (by decide)];rfl
 have l2:If b (q+2) 1=some (Pm b APX):=by
  rw[If,Qx,if_pos (by decide),show Ak ([([73,68,51]:LB),([65,80,69,84,65,71,69,88]:LB)]:List LB) 1=some APX from rfl,Aa,show Ae (1:Int) 1=2 from rfl]
  by_cases h:b.length<APX.length
  ·rw[if_pos (by rw[Af,Ac,Ac];simp;omega),Byj b APX h,Aa]
   by_cases hb:Pm b APX=true
   ·rw[if_pos hb,hb]
   ·rw[if_neg hb,l3];simpa using hb
  ·rw[if_neg (by rw[Af,Ac,Ac];simp;omega),l3,Av7 h]
 rw[Nm,Aho,Ahx,hq,If,Qx,if_pos (by decide),show Ak ([([73,68,51]:LB),([65,80,69,84,65,71,69,88]:LB)]:List LB) 0=some ID3 from rfl,Aa,show Ae (0:Int) 1=1 from rfl]
 by_cases h:b.length<ID3.length
 ·rw[if_pos (by rw[Af,Ac,Ac];simp;omega),Byj b ID3 h,Aa]
  by_cases hb:Pm b ID3=true
  ·rw[if_pos hb,hb];rfl
  ·rw[if_neg hb,l2,Bool.eq_false_iff.2 hb];rfl
 ·rw[if_neg (by rw[Af,Ac,Ac];simp;omega),l2,Av7 h];rfl
def stS(b:List UInt8):Int×Int×Int×Int×Int×Int×Int:=
 if(Dh b).2=24 then(0,0,0,0,0,0, -1)else if(Dh b).2≠0 then(0,0,0,0,0,0,(Dh b).2)else
 if(Pm (Tv b) ID3||Pm (Tv b) APX)=true then(0,0,0,0,0,0, -1)else
 if(Eh (Tv b)).2.2.2.2.2=24 then(0,0,0,0,0,0, -1)else((Dh b).1+22,(Eh (Tv b)).1,(Eh (Tv b)).2.1,(Eh (Tv b)).2.2.1,(Eh (Tv b)).2.2.2.1,(Eh (Tv b)).2.2.2.2.1,(Eh (Tv b)).2.2.2.2.2)
theorem Yw(b:List UInt8)(hb:b.length≤100000):Ul b=some (stS b):=by
 rw[Ul,Zm,Azi b (by omega),Aa,stS]
 have hok:=Aod (b:=b)
 simp only
 by_cases h1:(Dh b).2=24
 ·rw[if_pos (by rw[As];simpa using h1),if_pos h1]
 rw[if_neg (by rw[As];simpa using h1),if_neg h1]
 by_cases h2:(Dh b).2≠0
 ·rw[if_pos (by rw[Al];simpa using h2),if_pos h2]
 have h0:(Dh b).2=0:=by simpa using h2
 obtain⟨k1,k2,k3⟩:=hok h0
 rw[if_neg (by rw[Al,h0];simp),if_neg h2,Cy (by omega) (by omega),Aa,Bjl,Aa,show b.drop (Dh b).1.toNat=Tv b from rfl,show([73,68,51]:LB)=ID3 from rfl,show([65,80,69,84,65,71,69,88]:LB)=APX from rfl]
 by_cases h3:Pm (Tv b) ID3=true
 ·rw[if_pos h3,h3,Bool.true_or,if_pos rfl]
 rw[if_neg h3,Bjl,Aa,Bool.eq_false_iff.2 h3,Bool.false_or]
 by_cases h4:Pm (Tv b) APX=true
 ·rw[if_pos h4,if_pos h4]
 have hl:(Tv b).length≤b.length:=by rw[Tv,List.length_drop];omega
 rw[if_neg h4,if_neg h4,Zs,Ze,Boh _ (by omega),Aa]
 simp only
 by_cases h5:(Eh (Tv b)).2.2.2.2.2=24
 ·rw[if_pos (by rw[As];simpa using h5),if_pos h5]
 ·rw[if_neg (by rw[As];simpa using h5),if_neg h5,Aj (by omega) (by omega)]
end Go.Pl
set_option linter.unusedVariables false
set_option linter.unusedSimpArgs false
namespace Go.Pl
open Go Go.Lv
theorem Kv{p q:LB}{n:Nat}(h:n≤p.length):(p++q).take n=p.take n:=by rw[List.take_append_of_le_length h]
theorem Ba0{p q:LB}{i:Nat}(h:i<p.length):(p++q).getD i 0=p.getD i 0:=by
 rw[List.getD_eq_getElem?_getD,List.getElem?_append_left h,←List.getD_eq_getElem?_getD]
theorem Ng{p q:LB}{a w:Nat}(h:a+w≤p.length):part (p++q) a w=part p a w:=by rw[part,Kv h,part]
theorem Bxo{p q s:LB}(h:Pm p s=false)(hl:p.length<s.length):(p++q).take s.length≠s:=by
 intro e
 rw[Pm,decide_eq_true hl,Bool.true_and]at h
 have h1:p=s.take p.length:=by
  have:=congrArg (List.take p.length) e
  rw[List.take_take,Nat.min_eq_left (by omega),Kv (Nat.le_refl _),List.take_length]at this
  exact this
 rw[←h1]at h
 simp at h
theorem Bjy{p:LB}(q:LB)(h:(Vw p).2≠24)(h6:Pm p ID3=false):Vw (p++q)=Vw p:=by
 unfold Vw at h⊢
 by_cases h3:3≤p.length∧p.take 3=[73,68,51]
 ·have h3':3≤(p++q).length∧(p++q).take 3=[73,68,51]:=⟨by rw[List.length_append];omega,by rw[Kv h3.1];exact h3.2⟩
  have n1:¬ ¬(3≤p.length∧p.take 3=[73,68,51]):=fun f=>f h3
  have n2:¬ ¬(3≤(p++q).length∧(p++q).take 3=[73,68,51]):=fun f=>f h3'
  rw[if_neg n1]at h
  rw[if_neg n1,if_neg n2]
  by_cases h10:p.length<10
  ·rw[if_pos h10]at h;exact absurd rfl h
  ·have h10':¬(p++q).length<10:=by rw[List.length_append];omega
   rw[if_neg h10]at h
   rw[if_neg h10,if_neg h10',Ng (by omega),Ba0 (by omega),Ba0 (by omega),Ba0 (by omega)]
   split
   ·rfl
   ·rename_i hc
    rw[if_neg hc]at h
    unfold Bc7 Aoy at h⊢
    rw[Ba0 (by omega)]
    generalize(Anp (part p 6 4) 0).1+10+(if p.getD 5 0=16 then 10 else 0)=n at h⊢
    by_cases c1:4000<n
    ·rw[if_pos c1,if_pos c1]
    ·rw[if_neg c1]at h
     rw[if_neg c1,if_neg c1]
     by_cases c2:(p.length:Int)<n
     ·rw[if_pos c2]at h;exact absurd rfl h
     ·have c2':¬((p++q).length:Int)<n:=by rw[List.length_append];omega
      rw[if_neg c2,if_neg c2',Kv (by omega),Ng (by omega)]
 ·rw[if_pos h3,if_pos]
  rintro⟨_,h5⟩
  by_cases hl:3≤p.length
  ·rw[Kv hl]at h5;exact h3 ⟨hl,h5⟩
  ·exact Bxo h6 (by simp[ID3];omega) h5
theorem Br8{p:LB}(q:LB)(h:(Ig p).2≠24)(h6:Pm p APX=false):Ig (p++q)=Ig p:=by
 unfold Ig at h⊢
 by_cases h3:8≤p.length∧p.take 8=APE
 ·have h3':8≤(p++q).length∧(p++q).take 8=APE:=⟨by rw[List.length_append];omega,by rw[Kv h3.1];exact h3.2⟩
  have n1:¬ ¬(8≤p.length∧p.take 8=APE):=fun f=>f h3
  have n2:¬ ¬(8≤(p++q).length∧(p++q).take 8=APE):=fun f=>f h3'
  rw[if_neg n1]at h
  rw[if_neg n1,if_neg n2]
  by_cases h10:p.length<32
  ·rw[if_pos h10]at h;exact absurd rfl h
  ·have h10':¬(p++q).length<32:=by rw[List.length_append];omega
   have eb:Aak (p++q)=Aak p:=by rw[Aak,Aak,Ng (by omega),Ng (by omega)]
   rw[if_neg h10]at h
   rw[if_neg h10,if_neg h10',Ng (by omega),Ng (by omega),eb,Kv (n:=32) (by omega)]
   split
   ·rfl
   ·rename_i hc
    rw[if_neg hc]at h
    by_cases c2:p.length<Ee (part p 12 4)+32
    ·rw[if_pos c2]at h;exact absurd rfl h
    ·have c2':¬(p++q).length<Ee (part p 12 4)+32:=by rw[List.length_append];omega
     rw[if_neg c2,if_neg c2',Kv (by omega)]
 ·rw[if_pos h3,if_pos]
  rintro⟨_,h5⟩
  by_cases hl:8≤p.length
  ·rw[Kv hl]at h5;exact h3 ⟨hl,h5⟩
  ·exact Bxo h6 (by simp[APX];omega) h5
theorem Bcf{p:LB}(q:LB)(h:(Cb p).2≠24)(h6:(Cb p).2=6→Pm p ID3=false∧Pm p APX=false):Cb (p++q)=Cb p:=by
 have beg8:∀s:LB,s.length≤p.length→Pm p s=false:=fun s hs=>Av7 (by omega)
 unfold Cb at h h6⊢
 by_cases hT:(Vw p).2≠6
 ·rw[if_pos hT]at h⊢
  have h3:Pm p ID3=false:=by
   refine beg8 _ ?_
   unfold Vw at hT
   by_cases h3:3≤p.length∧p.take 3=[73,68,51]
   ·simp[ID3];omega
   ·rw[if_pos h3]at hT;exact absurd rfl hT
  rw[Bjy q h h3,if_pos hT]
 ·rw[if_neg hT]at h h6⊢
  have hb:Pm p ID3=false∧Pm p APX=false:=by
   by_cases hA:(Ig p).2=6
   ·exact h6 hA
   ·unfold Ig at hA
    by_cases h3:8≤p.length∧p.take 8=APE
    ·exact⟨beg8 _ (by simp[ID3];omega),beg8 _ (by simp[APX];omega)⟩
    ·rw[if_pos h3]at hA;exact absurd rfl hA
  have hT':¬(Vw (p++q)).2≠6:=by
   rw[Bjy q (by simp only[ne_eq,Classical.not_not]at hT;rw[hT];decide) hb.1];exact hT
  rw[if_neg hT',Br8 q h hb.2]
theorem Bgy{p:LB}(q:LB):∀(j s j':Nat),s≤p.length→p.length-s<j→p.length+q.length-s<j'→(Bq p j s).2≠24→
  ((Bq p j s).2=0→Pm (p.drop (s+(Bq p j s).1.sum.toNat)) ID3=false∧Pm (p.drop (s+(Bq p j s).1.sum.toNat)) APX=false)→Bq (p++q) j' s=Bq p j s
 |0,s,j',_,hj,_,_,_=>absurd hj (Nat.not_lt_zero _)
 |j+1,s,0,_,_,hj,_,_=>absurd hj (Nat.not_lt_zero _)
 |j+1,s,j'+1,hs,hj,hj',h,hb=>by
  have ed:(p++q).drop s=p.drop s++q:=List.drop_append_of_le_length hs
  rw[Bq]at h hb⊢
  rw[Bq,ed]
  by_cases h6:(Cb (p.drop s)).2=6
  ·rw[if_pos h6]at h hb⊢
   have hb':=hb rfl
   simp only[List.sum_nil,Int.toNat_zero,Nat.add_zero]at hb'
   rw[Bcf q (by rw[h6];decide) (fun _=>hb'),if_pos h6]
  ·rw[if_neg h6]at h hb⊢
   by_cases h0:(Cb (p.drop s)).2≠0
   ·rw[if_pos h0]at h⊢
    rw[Bcf q h (fun e=>absurd e h6),if_neg h6,if_pos h0]
   ·rw[if_neg h0]at h hb⊢
    have h0':(Cb (p.drop s)).2=0:=by simpa using h0
    have e1:Cb (p.drop s++q)=Cb (p.drop s):=Bcf q (by rw[h0'];decide) (fun e=>absurd e h6)
    rw[e1,if_neg h6,if_neg h0]
    have hok:=Avr (b:=p.drop s) (n:=(Cb (p.drop s)).1) (by rw[←h0'])
    rw[List.length_drop]at hok
    by_cases hm:4000<(s:Int)+(Cb (p.drop s)).1
    ·rw[if_pos hm,if_pos hm]
    ·rw[if_neg hm]at h hb⊢
     rw[if_neg hm]
     have hl1:s+(Cb (p.drop s)).1.toNat≤p.length:=by omega
     have ih:=Bgy (p:=p) q j (s+(Cb (p.drop s)).1.toNat) j' hl1 (by omega) (by omega)
     by_cases hr:(Bq p j (s+(Cb (p.drop s)).1.toNat)).2=0
     ·rw[if_pos hr]at hb⊢
      have hle1:s+(Cb (p.drop s)).1.toNat≤p.length:=by omega
      have hle2:s+(Cb (p.drop s)).1.toNat≤4000:=by omega
      have hi:=(Awc p j (s+(Cb (p.drop s)).1.toNat) hle1 hle2 hr).1
      have hsum:(0:Int)≤(Bq p j (s+(Cb (p.drop s)).1.toNat)).1.sum:=by
       have:∀l:List Int,(∀x∈l,10≤x)→0≤l.sum:=by
        intro l
        induction l with
        |nil=>intro _;simp
        |cons a l ih=>intro h;rw[List.sum_cons];have:=h a (by simp);have:=ih (fun x hx=>h x (by simp[hx]));omega
       exact this _ hi
      rw[ih (by rw[hr];decide) (fun _=>by
       have:=hb rfl
       simp only[List.sum_cons]at this
       rw[show s+((Cb (p.drop s)).1+(Bq p j (s+(Cb (p.drop s)).1.toNat)).1.sum).toNat=s+(Cb (p.drop s)).1.toNat+(Bq p j (s+(Cb (p.drop s)).1.toNat)).1.sum.toNat by omega]at this
       exact this),if_pos hr]
     ·rw[if_neg hr]at h⊢
      rw[ih h (fun e=>absurd e hr),if_neg hr]
theorem Bgg{p:LB}(q:LB)(h:(Dh p).2≠24)(hb:(Dh p).2=0→Pm (Tv p) ID3=false∧Pm (Tv p) APX=false):Dh (p++q)=Dh p:=by
 have key:Bq (p++q) ((p++q).length+1) 0=Bq p (p.length+1) 0:=by
  refine Bgy q (p.length+1) 0 ((p++q).length+1) (Nat.zero_le _) (by omega) (by rw[List.length_append];omega) ?_ ?_
  ·unfold Dh Biu at h
   by_cases h0:(Bq p (p.length+1) 0).2=0
   ·rw[h0];decide
   ·rw[if_neg h0]at h;exact h
  ·intro h0
   have e:Dh p=(((0:Nat):Int)+(Bq p (p.length+1) 0).1.sum,0):=by unfold Dh Biu;rw[if_pos h0]
   have:=hb (by rw[e])
   rw[Tv,e]at this
   simpa using this
 unfold Dh Biu
 rw[key]
theorem Bui{p:LB}(q:LB)(h:(Eh p).2.2.2.2.2≠24):Eh (p++q)=Eh p:=by
 unfold Eh at h⊢
 by_cases h1:p.take (min 4 p.length)≠Au3.take (min 4 p.length)
 ·have h1':(p++q).take (min 4 (p++q).length)≠Au3.take (min 4 (p++q).length):=by
   intro e
   have hle:min 4 p.length≤min 4 (p++q).length:=by rw[List.length_append];omega
   have:=congrArg (List.take (min 4 p.length)) e
   rw[List.take_take,List.take_take,Nat.min_eq_left hle,Kv (by omega)]at this
   exact h1 this
  rw[if_pos h1,if_pos h1']
 ·rw[if_neg h1]at h
  by_cases h2:p.length<22
  ·rw[if_pos h2]at h;exact absurd rfl h
  ·have h2':¬(p++q).length<22:=by rw[List.length_append];omega
   have h1':¬(p++q).take (min 4 (p++q).length)≠Au3.take (min 4 (p++q).length):=by
    rw[Nat.min_eq_left (by omega)]at h1⊢
    rw[Kv (by omega)];exact h1
   have e0:f0 (p++q)=f0 p:=by unfold f0;rw[Ng (by omega)]
   have e1:f1 (p++q)=f1 p:=by unfold f1;rw[Ng (by omega)]
   have e2:f2 (p++q)=f2 p:=by unfold f2;rw[Ng (by omega)]
   have e3:f3 (p++q)=f3 p:=by unfold f3;rw[Ng (by omega)]
   have e4:f4 (p++q)=f4 p:=by unfold f4;rw[Ng (by omega)]
   rw[if_neg h1,if_neg h1',if_neg h2,if_neg h2',e0,e1,e2,e3,e4,Kv (by omega),Ng (by omega)]
theorem Ccs{p:LB}(q:LB)(h:(stS p).2.2.2.2.2.2≠ -1):stS (p++q)=stS p:=by
 unfold stS at h⊢
 by_cases h1:(Dh p).2=24
 ·rw[if_pos h1]at h;exact absurd rfl h
 rw[if_neg h1]at h
 by_cases h2:(Dh p).2≠0
 ·rw[Bgg q h1 (fun e=>absurd e h2),if_neg h1,if_pos h2,if_neg h1,if_pos h2]
 rw[if_neg h2]at h
 have h0:(Dh p).2=0:=by simpa using h2
 by_cases h3:(Pm (Tv p) ID3||Pm (Tv p) APX)=true
 ·rw[if_pos h3]at h;exact absurd rfl h
 rw[if_neg h3]at h
 have h3f:Pm (Tv p) ID3=false∧Pm (Tv p) APX=false:=by
  simp only[Bool.not_eq_true,Bool.or_eq_false_iff]at h3;exact h3
 have eF:=Bgg q h1 (fun _=>h3f)
 obtain⟨k1,k2,k3⟩:=Aod h0
 have eH:Tv (p++q)=Tv p++q:=by rw[Tv,eF,Tv,List.drop_append_of_le_length (by omega)]
 by_cases h5:(Eh (Tv p)).2.2.2.2.2=24
 ·rw[if_pos h5]at h;exact absurd rfl h
 have eR:Eh (Tv p++q)=Eh (Tv p):=Bui q h5
 have beg:∀s:LB,Pm (Tv p) s=false→(s=ID3∨s=APX)→Pm (Tv p++q) s=false:=by
  intro s hs hk
  by_cases hl:(Tv p++q).length<s.length
  ·have hp:(Tv p).length<s.length:=by rw[List.length_append]at hl;omega
   rw[Pm,decide_eq_true hp,Bool.true_and]at hs
   rw[Pm,decide_eq_true hl,Bool.true_and]
   refine beq_eq_false_iff_ne.2 fun e=>?_
   have:=congrArg (List.take (Tv p).length) e
   rw[Kv (Nat.le_refl _),List.take_length,List.take_take,Nat.min_eq_left (by rw[List.length_append];omega)]at this
   rw[←this]at hs
   simp at hs
  ·exact Av7 hl
 rw[eF,eH,eR,if_neg h1,if_neg h2,beg _ h3f.1 (.inl rfl),beg _ h3f.2 (.inr rfl),if_neg (by decide),if_neg h5,if_neg h1,if_neg h2,if_neg h3]
theorem Bv1{p:LB}(q:LB)(n:Nat)(h:(Ie p n).2≠24):Ie (p++q) n=Ie p n:=by
 unfold Ie at h⊢
 by_cases h1:1≤n∧n≤1000
 ·have n1:¬ ¬(1≤n∧n≤1000):=fun f=>f h1
  rw[if_neg n1]at h
  rw[if_neg n1,if_neg n1]
  by_cases h2:p.length<4*n+4
  ·rw[if_pos h2]at h;exact absurd rfl h
  ·have h2':¬(p++q).length<4*n+4:=by rw[List.length_append];omega
   have et:Aiy (p++q) n=Aiy p n:=by
    unfold Aiy
    refine List.map_congr_left fun i hi=>?_
    rw[List.mem_range]at hi
    rw[Ng (by omega)]
   rw[if_neg h2,if_neg h2',Kv (by omega),Ng (by omega),et]
 ·rw[if_pos h1,if_pos h1]
end Go.Pl
set_option linter.unusedVariables false
set_option linter.unusedSimpArgs false
namespace Go.Pl
open Go Go.Lv
def Bri(g a:LB)(k p o u v:Int)(f:LI)(b:Int)(h:LB)(m:Bool)(n:Int):Option Int:=
if(geq k 0)then
(Js a).bind fun(al,ba)=>
if(geq ba 24)then
Ds true 0
else
if(Ay ba 0)then
(Ag ba).bind fun(bx,bz)=>
Ds bx bz
else
(Bc a al (Ac a)).bind fun da=>
(Nm da).bind fun an=>
if an then
Ds true 0
else
(Bc a al (Ac a)).bind fun db=>
(Nh db).bind fun(ae,af,aa,ag,ab,bb)=>
if(geq bb 24)then
Ds true 0
else
if(Ay bb 0)then
(Ag bb).bind fun(dc,dd)=>
Ds dc dd
else
(
(Bc a (Ae al 22) (Ac a)).bind fun ak=>
(
To g ak ae af aa ag ab b m n f h))
else
if(geq (Ac f) 0)then
if(geq k 2)then
if(Bs (Ac a) 8)then
Hl true 0
else
Tn g a k p o u v b m n f h
else
Hj g a k p o u v b m n f h 0
else
if(Bs b (Ac f))then
(Ak f b).bind fun _=>
(Ak f b).bind fun w=>
if(Bs (Ac a) w)then
Gb true 0
else
(Rg g).bind fun(ap,am)=>
if(Ay am 0)then
(Ag am).bind fun(de,df)=>
Gb de df
else
(Dk k p o u v).bind fun(ad,dg)=>
if((Ay dg 0)||(Il b (Ac ad)))then
(Ag 8).bind fun(dh,di)=>
Gb dh di
else
Tc w g a k p o u v b m n ap ad f h
else
if(Di (Ac a) 4000)then
(Ag 38).bind fun(dj,bf)=>
Bb ((dj==true)&&((geq bf 0)&&true))
else
Ta
theorem Ay2(d:Bool)(e:Int):Ds d e=Bb (d&&geq e 0):=by
 rw[Ds,Abs];cases d<;>simp
theorem Bgw(d:Bool)(e:Int):Hl d e=Bb (d&&geq e 0):=by
 rw[Hl,Abf];cases d<;>simp
theorem Bru(d:Bool)(e:Int):Gb d e=Bb (d&&geq e 0):=by
 rw[Gb,Acf];cases d<;>simp
theorem rp4{o p:LB}{f c w r n:Int}{g:LI}{a:Int}{x:LB}{u:Bool}{v:Int}{t1 t2:LB}{t3 t4 t5 t6 t7:Int}{t8:LI}{t9:Int}{t10:LB}{t11:Bool}{t12 e:Int}
  (h:cadenzaref37_take o p f c w r n g a x u v=some (t1,t2,t3,t4,t5,t6,t7,t8,t9,t10,t11,t12,e)):Br o p f c w r n g a x u v=some (geq e (-1)):=by
 rw[Br,Rz,h,Aa]
theorem Aux{e:Int}(h:0≤e):geq e (-1)=false:=by rw[As,beq_eq_false_iff_ne];omega
theorem Bt7(o p:LB)(c w r n:Int)(g:LI)(a:Int)(x:LB)(u:Bool)(v:Int)(hp:p.length≤100000):
  ∃B:Bool,Bri o p 0 c w r n g a x u v=Bb B∧Br o p 0 c w r n g a x u v=some B:=by
 have hT:cadenzaref37_take o p 0 c w r n g a x u v=cadenzaref37_take o p 0 c w r n g a x u v:=rfl
 conv at hT=>rhs;rw[cadenzaref37_take,Ck,if_pos (by decide),Yw p hp,Aa,stS]
 have hfn:=Bja p
 have hrn:=Bp0 (Tv p)
 rw[Bri,if_pos (by decide),Ak8 p (by omega),Aa]
 have hok:=Aod (b:=p)
 simp only at hT⊢
 by_cases h1:(Dh p).2=24
 ·rw[if_pos h1]at hT
  simp only at hT
  rw[if_pos (by decide)]at hT
  rw[if_pos (by rw[As];simpa using h1),Ay2]
  exact⟨_,rfl,rp4 hT⟩
 rw[if_neg h1]at hT
 rw[if_neg (by rw[As];simpa using h1)]
 by_cases h2:(Dh p).2≠0
 ·rw[if_pos h2]at hT
  simp only at hT
  rw[if_pos (by rw[Al];simpa using h2)]at hT
  rw[if_pos (by rw[Al];simpa using h2),Ag,Aa]
  simp only
  rw[Ay2]
  exact⟨_,rfl,(rp4 hT).trans (by rw[Aux hfn];rfl)⟩
 have h0:(Dh p).2=0:=by simpa using h2
 obtain⟨k1,k2,k3⟩:=hok h0
 have hl:(Tv p).length=p.length-(Dh p).1.toNat:=by rw[Tv,List.length_drop]
 rw[if_neg h2]at hT
 rw[if_neg (by rw[Al,h0];simp),Cy (by omega) (by omega),Aa,Aa,show p.drop (Dh p).1.toNat=Tv p from rfl,Bxl,Aa]
 by_cases h3:(Pm (Tv p) ID3||Pm (Tv p) APX)=true
 ·rw[if_pos h3]at hT⊢
  simp only at hT
  rw[if_pos (by decide)]at hT
  rw[Ay2]
  exact⟨_,rfl,rp4 hT⟩
 rw[if_neg h3]at hT⊢
 rw[Bb9 _ (by omega),Aa]
 by_cases h5:(Eh (Tv p)).2.2.2.2.2=24
 ·rw[if_pos h5]at hT
  simp only at hT
  rw[if_pos (by decide)]at hT
  rw[if_pos (by rw[As];simpa using h5),Ay2]
  exact⟨_,rfl,rp4 hT⟩
 rw[if_neg h5]at hT
 rw[if_neg (by rw[As];simpa using h5)]
 simp only at hT
 by_cases h6:(Eh (Tv p)).2.2.2.2.2≠0
 ·rw[if_pos (by rw[Al];simpa using h6)]at hT⊢
  rw[Ag,Aa]
  simp only
  rw[Ay2]
  exact⟨_,rfl,(rp4 hT).trans (by rw[Aux hrn];rfl)⟩
 have h7:(Eh (Tv p)).2.2.2.2.2=0:=by simpa using h6
 have h22:=(Box h7).2.1
 rw[if_neg (by rw[Al,h7];simp),Cy (by omega) (by omega),Aa,Ha,Gy,Dz]at hT
 rw[if_neg (by rw[Al,h7];simp),Aj (by omega) (by omega),Cy (by omega) (by omega),Aa,To,Acs,Lm]
 simp only
 by_cases h8:((o==([]:LB)) !=geq (Eh (Tv p)).1 1)=true
 ·rw[if_pos h8]at hT⊢
  rw[Aa]at hT⊢
  rw[Ag,Aa]
  simp only
  rw[Ay2]
  exact⟨_,rfl,rp4 hT⟩
 ·rw[if_neg h8]at hT⊢
  rw[Aa]at hT⊢
  rw[Ag,Aa]
  simp only
  rw[Ay2]
  exact⟨_,rfl,rp4 hT⟩
end Go.Pl
set_option linter.unusedVariables false
set_option linter.unusedSimpArgs false
namespace Go.Pl
open Go Go.Lv
section
variable {f c w r n:Int} {F C W R N:Nat} (hd:HdI f c w r n F C W R N)
include hd
theorem HdI.ne0:¬(geq f 0=true):=by
 have:=hd.num
 rw[As,beq_iff_eq,hd.ef];omega
theorem Bgq(o p:LB)(hp:p.length≤100000)(A:Nat)(hA:A≤p.length)(a:Int)(x:LB)(u:Bool)(v:Int):
  (Hj o p f c w r n a u v [] x (A:Int)=Bb (decide ((Ie (p.drop A) (framesL (longN R) N).length).2=24)))∧
  Dg p f c w r n (A:Int)=some (if(Ie (p.drop A) (framesL (longN R) N).length).2=24 then(0,[], -1)else((A:Int)+(4*((Ie (p.drop A) (framesL (longN R) N).length).1.length:Int)+4),(Ie (p.drop A) (framesL (longN R) N).length).1,(Ie (p.drop A) (framesL (longN R) N).length).2))∧
  ((Ie (p.drop A) (framesL (longN R) N).length).2=0→(A:Int)+(4*((Ie (p.drop A) (framesL (longN R) N).length).1.length:Int)+4)≤p.length):=by
 have hs:=Bkq (p.drop A) (framesL (longN R) N).length (by rw[List.length_drop];omega)
 have hr:=Bxt (p.drop A) (framesL (longN R) N).length (by rw[List.length_drop];omega)
 have hok:=Bou (b:=p.drop A) (n:=(framesL (longN R) N).length)
 have hlen:(Ie (p.drop A) (framesL (longN R) N).length).1.length≤1000:=by
  unfold Ie
  repeat' split
  all_goals simp[Afn]
  all_goals omega
 have hfit:(Ie (p.drop A) (framesL (longN R) N).length).2=0→(A:Int)+(4*((Ie (p.drop A) (framesL (longN R) N).length).1.length:Int)+4)≤p.length:=by
  intro h0
  obtain⟨k1,k2,k3,k4,_⟩:=hok h0
  rw[k1]
  simp only[Afn]
  rw[List.length_drop]at k4
  omega
 refine⟨?_,?_,hfit⟩
 ·rw[Hj,Aap,hd.Bbg,Aa]
  simp only
  rw[if_neg (by decide),Cy (by omega) (by omega),Aa,Int.toNat_natCast,Ac,hs,Aa]
  generalize Ie (p.drop A) (framesL (longN R) N).length=z at*
  obtain⟨z1,z2⟩:=z
  simp only at*
  by_cases h1:z2=24
  ·rw[if_pos (by rw[As];simpa using h1),Bgw,decide_eq_true h1];rfl
  rw[if_neg (by rw[As];simpa using h1),decide_eq_false h1]
  by_cases h2:z2≠0
  ·rw[if_pos (by rw[Al];simpa using h2),Ag,Aa]
   simp only
   rw[Bgw];rfl
  ·have h0:z2=0:=by simpa using h2
   have:=hfit h0
   rw[if_neg (by rw[Al,h0];simp),Ac,Br1 A z1.length (by omega) (by omega),Cy (by omega) (by omega),Aa,Bgw];rfl
 ·rw[Dg,Abv,Cy (by omega) (by omega),Aa,hd.Br7,Aa,Ac,Int.toNat_natCast,hr,Aa]
  generalize Ie (p.drop A) (framesL (longN R) N).length=z at*
  obtain⟨z1,z2⟩:=z
  simp only at*
  rw[Ab4,Aas]
  by_cases h1:z2=24
  ·rw[if_pos (by rw[As];simpa using h1),if_pos h1]
  ·rw[if_neg (by rw[As];simpa using h1),if_neg h1,Ac,Br1 A z1.length (by omega) (by omega)]
   congr 2
theorem Cal(o p:LB)(ho:o.length≤64)(hp:p.length≤100000)(a:Int)(x:LB)(u:Bool)(v:Int):
  ∃B:Bool,Bri o p f c w r n [] a x u v=Bb B∧Br o p f c w r n [] a x u v=some B:=by
 have hT:cadenzaref37_take o p f c w r n [] a x u v=cadenzaref37_take o p f c w r n [] a x u v:=rfl
 conv at hT=>rhs;rw[cadenzaref37_take,Ck,if_neg hd.ne0,Ci,Cj,if_pos (by decide),Ej,Hn]
 rw[Bri,if_neg hd.ne0,if_pos (by decide)]
 have fin:∀A:Nat,A≤p.length→cadenzaref37_take o p f c w r n [] a x u v=(Dg p f c w r n (A:Int)).bind (fun(ag,ak,w1)=>
   if(Ay w1 0)then some (o,p,f,c,w,r,n,[],a,x,u,v,w1)else(Bc p ag (Ac p)).bind fun al=>some (o,al,f,c,w,r,n,ak,a,x,u,v,0))→
   ∃B:Bool,Hj o p f c w r n a u v [] x (A:Int)=Bb B∧Br o p f c w r n [] a x u v=some B:=by
  intro A hA hT
  obtain⟨t1,t2,t3⟩:=Bgq hd o p hp A hA a x u v
  have hnn:=Bn5 (p.drop A) (framesL (longN R) N).length
  rw[t2,Aa]at hT
  rw[t1]
  generalize Ie (p.drop A) (framesL (longN R) N).length=z at*
  obtain⟨z1,z2⟩:=z
  simp only at*
  by_cases h1:z2=24
  ·rw[if_pos h1]at hT
   simp only at hT
   rw[if_pos (by decide)]at hT
   exact⟨_,rfl,(rp4 hT).trans (by rw[decide_eq_true h1];rfl)⟩
  rw[if_neg h1]at hT
  simp only at hT
  by_cases h2:z2≠0
  ·rw[if_pos (by rw[Al];simpa using h2)]at hT
   exact⟨_,rfl,(rp4 hT).trans (by rw[decide_eq_false h1,Aux hnn])⟩
  ·have h0:z2=0:=by simpa using h2
   have:=t3 h0
   rw[if_neg (by rw[Al,h0];simp),Cy (by omega) (by omega),Aa]at hT
   exact⟨_,rfl,(rp4 hT).trans (by rw[decide_eq_false h1];rfl)⟩
 by_cases h2:geq f 2=true
 ·rw[if_pos h2]at hT⊢
  by_cases h8:p.length<8
  ·rw[if_pos (by rw[Af,Ac];simp;omega)]at hT⊢
   rw[Aa]at hT
   simp only at hT
   rw[if_pos (by decide)]at hT
   rw[Bgw]
   exact⟨_,rfl,rp4 hT⟩
  ·rw[if_neg (by rw[Af,Ac];simp;omega)]at hT⊢
   have h8':(p.take 8).length=8:=by rw[List.length_take];omega
   rw[Cp (by omega) (by omega),Aa,Bj8 o ho,Aa]at hT
   rw[Tn,Abp,Cp (by omega) (by omega),Aa,show(8:Int).toNat=8 from rfl,Bnw h8' ho,Aa]
   rw[show(8:Int).toNat=8 from rfl]at hT
   simp only
   rw[Abo,Acw,if_neg (by decide)]
   by_cases he:(p.take 8==leB (Aby o).toNat 8)=true
   ·rw[if_neg (by rw[bne,he];decide)]at hT
    rw[if_neg (by rw[he];decide)]
    exact fin 8 (by omega) hT
   ·have he':(p.take 8==leB (Aby o).toNat 8)=false:=by simpa using he
    rw[if_pos (by rw[bne,he'];decide),Aa]at hT
    simp only at hT
    rw[if_pos (by decide)]at hT
    rw[if_pos (by rw[he'];decide),Ag,Aa]
    simp only
    rw[Bgw]
    exact⟨_,rfl,rp4 hT⟩
 ·rw[if_neg h2]at hT⊢
  exact fin 0 (by omega) hT
end
end Go.Pl
set_option linter.unusedVariables false
set_option linter.unusedSimpArgs false
namespace Go.Pl
open Go Go.Lv
theorem Buu{f c w r n:Int}{F C W R N:Nat}(hd:HdI f c w r n F C W R N)(o p:LB)(ho:o.length≤64)(hp:p.length≤100000)(g:LI)(hg:tabB g=true)(hl:g.length=(framesL (longN R) N).length)(A:Nat)(hA:A≤g.length)(x:LB)(hx:x.length≤14000000)(u:Bool)(v:Int):
  ∃B:Bool,Bri o p f c w r n g (A:Int) x u v=Bb B∧Br o p f c w r n g (A:Int) x u v=some B:=by
 have hc:=hd.ec
 subst hc
 have hg':=hg
 rw[tabB,Bool.and_eq_true,decide_eq_true_eq,Ai2 g 100000 (by omega)]at hg'
 obtain⟨⟨g1,g2⟩,g5,g6⟩:=hg'
 have hT:cadenzaref37_take o p f (C:Int) w r n g (A:Int) x u v=cadenzaref37_take o p f (C:Int) w r n g (A:Int) x u v:=rfl
 conv at hT=>rhs;rw[cadenzaref37_take,Ck,if_neg hd.ne0,Ci,Cj,if_neg (by rw[As,Ac];simp;intro e;subst e;simp at g1)]
 rw[Bri,if_neg hd.ne0,if_neg (by rw[As,Ac];simp;intro e;subst e;simp at g1)]
 by_cases hA2:A=g.length
 ·subst hA2
  rw[if_pos (by rw[As,Ac];simp)]at hT
  rw[if_neg (by rw[Af,Ac];simp)]
  by_cases h4:4000<p.length
  ·rw[if_pos (by rw[Ap,Ac];simp;omega)]at hT⊢
   rw[Ag,Aa]
   simp only
   exact⟨_,rfl,rp4 hT⟩
  ·rw[if_neg (by rw[Ap,Ac];simp;omega)]at hT⊢
   rw[Ta,Ab0]
   exact⟨_,rfl,rp4 hT⟩
 ·have hlt:A<g.length:=by omega
  have h5:=g5 g[A] (List.getElem_mem hlt)
  have hsum:=Bl5 g5 g[A] (List.getElem_mem hlt)
  rw[if_neg (by rw[As,Ac];simp;omega),Da,Fq,Cq hlt,Aa]at hT
  rw[if_pos (by rw[Af,Ac];simp;omega),Cq hlt,Aa,Aa]
  by_cases hw:(p.length:Int)<g[A]
  ·rw[if_pos (by rw[Af,Ac];simpa using hw)]at hT⊢
   rw[Aa]at hT
   simp only at hT
   rw[if_pos (by decide)]at hT
   rw[Bru]
   exact⟨_,rfl,rp4 hT⟩
  rw[if_neg (by rw[Af,Ac];simpa using hw)]at hT⊢
  have hnum:=hd.num
  have hlt2:A<(framesL (longN R) N).length:=by omega
  obtain⟨m,hm,m1,m2⟩:=Aef (Vp R) hnum.2.2.2.2.1 (List.getElem_mem hlt2)
  have hb:Ct w:=by rw[hd.ew];unfold Ct;omega
  obtain⟨xs,e,d1,d2,d3,d4⟩:=Al1 (bits:=w) (ch:=C) (n:=m) (t:=Ang o) (p.take g[A].toNat) hb (Yf o) hnum.2.1.1 hnum.2.1.2 m1 (by omega)
  have hnn:=Bjm hb (Yf o) hnum.2.1.1 hnum.2.1.2 m1 (by omega) d2
  rw[Bju o ho,Aa]
  simp only
  rw[if_neg (by decide),hd.Bbg,Aa]
  simp only
  rw[if_neg (by simp[Al,Eb,Ac];omega),Tc,Abj,Cq hlt2,Aa,Cp (by omega) (by omega),Aa,Aa,Xk,Aa]
  simp only
  rw[hm,d1,Aa]
  simp only
  rw[Ba3 o ho,Aa]at hT
  simp only at hT
  rw[Cp (by omega) (by omega),Aa,Gq,Aa]at hT
  simp only at hT
  rw[hd.Br7,Aa,Cq hlt2,Aa,Aa,hm]at hT
  rw[d2,Aa]at hT
  simp only at hT
  rw[Fs,Fp]at hT
  rw[Acr,Sf]
  by_cases he:e≠0
  ·rw[if_pos (by rw[Al];simpa using he)]at hT⊢
   rw[Aa]at hT
   simp only at hT
   rw[if_pos (by rw[Al];simpa using he)]at hT
   rw[Ag,Aa]
   simp only
   rw[Bru]
   exact⟨_,rfl,(rp4 hT).trans (by rw[Aux hnn];rfl)⟩
  ·have he0:e=0:=by simpa using he
   obtain⟨k1,k2,k3⟩:=d3 he0
   have hbl:=Aj3 w xs
   rw[if_neg (by rw[Al,he0];simp)]at hT⊢
   rw[Av5 hb k2 k1,Aa,Aa]at hT
   simp only at hT
   rw[if_neg (by decide),Cm (by simp;omega),Aa,List.nil_append,Cm (by omega),Aa,Aa,Cy (by omega) (by omega),Aa]at hT
   rw[Bha hb k2 k1,Aa]
   simp only
   rw[if_neg (by decide),Cm (by omega),Aa,Cy (by omega) (by omega),Aa,Bru]
   exact⟨_,rfl,rp4 hT⟩
end Go.Pl
set_option linter.unusedVariables false
set_option linter.unusedSimpArgs false
namespace Go.Pl
open Go Go.Lv
theorem Bop(a:LI)(b:Int)(ha:a.length≤100):∀(j i q:Nat),i+j=a.length→j<q→∃r,Bi a b q (i:Int)=some r∧Il r 0=(a.drop i).any fun y=>b==y
 |0,i,q+1,hi,_=>by
  refine⟨-1,?_,?_⟩
  ·rw[Bi,Dr,if_neg (by rw[Af,Ac];simp;omega)];rfl
  ·rw[show i=a.length by omega,List.drop_length];rfl
 |j+1,i,q+1,hi,hq=>by
  have hlt:i<a.length:=by omega
  obtain⟨r,h1,h2⟩:=Bop a b ha j (i+1) q (by omega) (by omega)
  rw[Bi,Dr,if_pos (by rw[Af,Ac];simp;omega),Cq hlt,Aa,drop_cons hlt,List.any_cons]
  by_cases h:b=a[i]
  ·rw[if_pos (by rw[As];simpa using h)]
   refine⟨_,rfl,?_⟩
   rw[Eb,decide_eq_true (by omega),h];simp
  ·rw[if_neg (by rw[As];simpa using h),Aj (by omega) (by omega)]
   refine⟨r,h1,?_⟩
   rw[h2,beq_eq_false_iff_ne.2 h,Bool.false_or]
theorem Bwv(v:Int):∃B:Bool,Nw v=some B∧Um v=some B:=by
 obtain⟨r,h1,h2⟩:=Bop [4,12,16,22,24,26,38] v (by decide) 7 0 FUEL rfl (by have:=Am;omega)
 refine⟨_,?_,rfl⟩
 rw[Nw,Gi,Hq,Gj,Gh]
 have h1':Bi [4,12,16,22,24,26,38] v FUEL 0=some r:=h1
 rw[h1',Aa,Aa,h2]
 simp only[List.drop_zero,List.any_cons,List.any_nil,Bool.or_false,As,Bool.or_assoc]
theorem Aya(B:Bool):Bb B=some (if B=true then 0 else 8):=by
 rw[Bb,Al3];cases B<;>rfl
theorem Caz(a b:LB)(f g h k m:Int)(n:LI)(o:Int)(p:LB)(u:Bool)(v:Int)(hb:b.length≤16000000)(hn:n.length≤16000000)(hp:p.length≤16000000):
  De a b f g h k m n o p u v=some (a,b,f,g,h,k,m,n,o,p,u,v):=by
 rw[De,Jq,Cm (by simp;omega),Aa,Aa,Jq,Cm (by simp;omega),Aa,Aa,Fj,Cm (by simp;omega),Aa,Aa]
 rfl
theorem Bh7(o p:LB)(f c w r n:Int)(g:LI)(a:Int)(x:LB)(u:Bool)(v:Int)(hp:p.length≤100000)(hg:g.length≤100000)(hx:x.length≤14000000):
  ∃E,Od o p f c w r n g a x u v=some E∧Dl o p f c w r n g a x u v=some E:=by
 rw[Od,Vi,Dl]
 by_cases ho:64<o.length
 ·rw[if_pos (by rw[Ap,Ac];simp;omega),if_pos (by rw[Ap,Ac];simp;omega)]
  exact⟨8,rfl,rfl⟩
 have hO:¬(Di (Ac o) 64=true):=by rw[Ap,Ac];simp;omega
 rw[if_neg hO,if_neg hO]
 by_cases hw:(geq v 0&& !u)=true
 ·rw[if_pos hw,if_pos hw,Caz o p f c w r n g a x u v (by omega) (by omega) (by omega),Aa]
  simp only
  rcases Bqt o p f c w r n g a x u v with⟨e1,e2⟩|⟨e1,e2,hd⟩
  ·rw[e1,e2,Aa,Aa,if_neg (by decide),if_pos (by decide),Aya]
   exact⟨8,rfl,rfl⟩
  ·rw[e1,e2,Aa,if_pos rfl]
   have key:∃B:Bool,Bri o p f c w r n g a x u v=Bb B∧Br o p f c w r n g a x u v=some B:=by
    cases hd with
    |new e1 e2 e3 e4 e5 e6 e7 e8=>subst e1;exact Bt7 o p c w r n g a x u v hp
    |head F C W R N h hpw e6 e7 e8=>subst e6;exact Cal h o p (by omega) hp a x u v
    |tab F C W R N A h hpw ht hl ea hA=>subst ea;exact Buu h o p (by omega) hp g ht hl A hA x hx u v
   obtain⟨B,k1,k2⟩:=key
   rw[k2,Aa]
   refine⟨if B=true then 0 else 8,k1.trans (Aya B),?_⟩
   cases B<;>rfl
 ·rw[if_neg hw,if_neg hw]
  by_cases hl:(geq (Ac p) 0&&geq (Ac g) 0)=true
  ·rw[if_pos hl,if_pos hl]
   generalize(geq f 0&&(geq c 0&&(geq w 0&&(geq r 0&&(geq n 0&&true)))))=z
   by_cases hz:((z&&geq a 0)&&gle (Ac x) 12000)=true
   ·rw[if_pos hz]
    simp only[Bool.and_eq_true,As3,Ac,decide_eq_true_eq]at hz
    obtain⟨⟨z1,z2⟩,z3⟩:=hz
    have hN:¬((!(z&&geq a 0)||Di (Ac x) 12000)=true):=by rw[z1,z2,Ap,Ac];simp;omega
    rw[if_neg hN]
    by_cases hv:v=0
    ·have v1:geq v 0=true:=by rw[As];simpa using hv
     have v2:¬(Ay v 0=true):=by rw[Al];simpa using hv
     rw[if_pos v1,if_neg v2,Aya]
     exact⟨0,rfl,rfl⟩
    ·have v1:¬(geq v 0=true):=by rw[As];simpa using hv
     have v2:Ay v 0=true:=by rw[Al];simpa using hv
     rw[if_neg v1,if_pos v2]
     obtain⟨B,k1,k2⟩:=Bwv v
     rw[k1,k2,Aa,Aa,Aya,Aya]
     cases u
     ·refine⟨if B=true then 0 else 8,by simp,?_⟩
      cases B<;>rfl
     ·exact⟨8,rfl,rfl⟩
   ·rw[if_neg hz,if_pos,Aya]
    ·exact⟨8,rfl,rfl⟩
    ·simp only[Bool.and_eq_true,As3,Ac,decide_eq_true_eq]at hz
     simp only[Bool.or_eq_true,Bool.not_eq_true',Ap,Ac,decide_eq_true_eq]
     by_cases hz2:(z&&geq a 0)=true
     ·rw[Bool.and_eq_true]at hz2
      exact .inr (by have hq:¬((x.length:Int)≤12000):=fun h=>hz ⟨hz2,h⟩;omega)
     ·exact .inl (by simpa using hz2)
  ·rw[if_neg hl,if_neg hl,if_neg (by simp),if_pos (by simp),Aya]
   exact⟨8,rfl,rfl⟩
end Go.Pl
set_option linter.unusedVariables false
set_option linter.unusedSimpArgs false
namespace Go.Pl
open Go Go.Lv
def feedP(bk:LB→Int→Int→Int→Int→Int→Int→LI→LB→pushdec_Feed_O)(o:LB)(u:Bool)(v:Int):LB→Int→Int→Int→Int→Int→Int→LI→LB→pushdec_Feed_O:=
 Gv (Lf bk o u v) (Ph bk o u v) (Je bk o u v) (Pc bk o u v) (Jf bk o u v) (Oy bk o u v) (Pr bk o u v) (Bu bk o u v) (Vt bk o u v) o u v
structure SzD (p:LB) (g:LI) (a:Int) (x:LB):Prop where
 hp:p.length≤100000
 hg:g.length≤1000
 hx:x.length+12000*(g.length-a.toNat)≤13000000
def muD(f:Int)(g:LI)(a:Int):Nat:=if f=0 then 1003 else if g=[]then 1002 else g.length-a.toNat+1
section
variable {bk:LB→Int→Int→Int→Int→Int→Int→LI→LB→pushdec_Feed_O} {o p:LB} {f c w r n:Int} {g:LI} {a:Int} {x:LB} {u:Bool} {v:Int}
theorem Bye(hp:p.length≤100000)(hg:g.length≤1000)(hx:x.length≤13000000):De o p f c w r n g a x u v=some (o,p,f,c,w,r,n,g,a,x,u,v):=by
 rw[De,Jq,Cm (by simp;omega),Aa,Aa,Jq,Cm (by simp;omega),Aa,Aa,Fj,Cm (by simp;omega),Aa,Aa]
 rfl
theorem Cgi(h:SzD p g a x)(e:Int):Bu bk o u v p f c w r n a true e g x=some (o,p,f,c,w,r,n,g,a,x,u,v,0):=by
 rw[Bu,Ad6,if_pos rfl,Bye h.hp h.hg (by have:=h.hx;omega),Aa]
theorem Cfq{e:Int}(h:e≠0):Bu bk o u v p f c w r n a false e g x=some (o,[],0,0,0,0,0,[],0,x,false,e,e):=by
 rw[Bu,Ad6,if_neg (by decide),if_pos (by rw[Al];simpa using h)];rfl
inductive StepR (bk:LB→Int→Int→Int→Int→Int→Int→LI→LB→pushdec_Feed_O) (o p:LB) (f c w r n:Int) (g:LI) (a:Int) (x:LB) (u:Bool) (v:Int):Prop
 |wait:feedP bk o u v p f c w r n a g x=some (o,p,f,c,w,r,n,g,a,x,u,v,0)→cadenzaref37_take o p f c w r n g a x u v=some (o,p,f,c,w,r,n,g,a,x,u,v, -1)→StepR bk o p f c w r n g a x u v
 |err (e:Int) {t1 t2:LB} {t3 t4 t5 t6 t7:Int} {t8:LI} {t9:Int} {t10:LB} {t11:Bool} {t12:Int}:0<e→feedP bk o u v p f c w r n a g x=some (o,[],0,0,0,0,0,[],0,x,false,e,e)→
   cadenzaref37_take o p f c w r n g a x u v=some (t1,t2,t3,t4,t5,t6,t7,t8,t9,t10,t11,t12,e)→StepR bk o p f c w r n g a x u v
 |next (p':LB) (f' c' w' r' n':Int) (g':LI) (a':Int) (x':LB):feedP bk o u v p f c w r n a g x=bk p' f' c' w' r' n' a' g' x'→cadenzaref37_take o p f c w r n g a x u v=some (o,p',f',c',w',r',n',g',a',x',u,v,0)→
   FitD o f' c' w' r' n' g' a' x'→SzD p' g' a' x'→p'.length≤p.length→muD f' g' a'<muD f g a→StepR bk o p f c w r n g a x u v
theorem f62{d:Bool}{e:Int}:Lf bk o u v a g x d e p f c w r n=Bu bk o u v p f c w r n a d e g x:=rfl
theorem f75{d:Bool}{e:Int}:Je bk o u v f c w r n a x d e p g=Bu bk o u v p f c w r n a d e g x:=rfl
theorem mkW(hZ:SzD p g a x)(hF:feedP bk o u v p f c w r n a g x=Bu bk o u v p f c w r n a true 0 g x)(hT:cadenzaref37_take o p f c w r n g a x u v=some (o,p,f,c,w,r,n,g,a,x,u,v, -1)):StepR bk o p f c w r n g a x u v:=
 .wait (hF.trans (Cgi hZ 0)) hT
theorem mkE{e:Int}{p2:LB}{f2 c2 w2 r2 n2 a2:Int}{g2:LI}{t1 t2:LB}{t3 t4 t5 t6 t7:Int}{t8:LI}{t9:Int}{t10:LB}{t11:Bool}{t12:Int}(he:0<e)(hF:feedP bk o u v p f c w r n a g x=Bu bk o u v p2 f2 c2 w2 r2 n2 a2 false e g2 x)
  (hT:cadenzaref37_take o p f c w r n g a x u v=some (t1,t2,t3,t4,t5,t6,t7,t8,t9,t10,t11,t12,e)):StepR bk o p f c w r n g a x u v:= .err e he (hF.trans (Cfq (by omega))) hT
theorem HdI.fnz{F C W R N:Nat}(h:HdI f c w r n F C W R N):f≠0:=by
 have:=h.num
 rw[h.ef];omega
theorem By1(hp:p.length≤100000):StepR bk o p 0 0 0 0 0 [] 0 [] u v:=by
 have hZ:SzD p [] 0 []:=⟨hp,by simp,by simp⟩
 have hT:cadenzaref37_take o p 0 0 0 0 0 [] 0 [] u v=cadenzaref37_take o p 0 0 0 0 0 [] 0 [] u v:=rfl
 conv at hT=>rhs;rw[cadenzaref37_take,Ck,if_pos (by decide),Yw p hp,Aa,stS]
 have hF:feedP bk o u v p 0 0 0 0 0 0 [] []=feedP bk o u v p 0 0 0 0 0 0 [] []:=rfl
 conv at hF=>rhs;rw[feedP,Gv,if_pos (by decide),Ak8 p (by omega),Aa]
 have hfn:=Bja p
 have hrn:=Bp0 (Tv p)
 have hok:=Aod (b:=p)
 simp only at hT hF
 by_cases h1:(Dh p).2=24
 ·rw[if_pos h1]at hT
  simp only at hT
  rw[if_pos (by decide)]at hT
  rw[if_pos (by rw[As];simpa using h1)]at hF
  exact mkW hZ hF hT
 rw[if_neg h1]at hT
 rw[if_neg (by rw[As];simpa using h1)]at hF
 by_cases h2:(Dh p).2≠0
 ·rw[if_pos h2]at hT
  simp only at hT
  rw[if_pos (by rw[Al];simpa using h2)]at hT
  rw[if_pos (by rw[Al];simpa using h2),Ag,Aa]at hF
  exact mkE (by omega) hF hT
 have h0:(Dh p).2=0:=by simpa using h2
 obtain⟨k1,k2,k3⟩:=hok h0
 have hl:(Tv p).length=p.length-(Dh p).1.toNat:=by rw[Tv,List.length_drop]
 rw[if_neg h2]at hT
 rw[if_neg (by rw[Al,h0];simp),Cy (by omega) (by omega),Aa,Aa,show p.drop (Dh p).1.toNat=Tv p from rfl,Bxl,Aa]at hF
 by_cases h3:(Pm (Tv p) ID3||Pm (Tv p) APX)=true
 ·rw[if_pos h3]at hT hF
  simp only at hT
  rw[if_pos (by decide)]at hT
  exact mkW hZ hF hT
 rw[if_neg h3]at hT hF
 rw[Bb9 _ (by omega),Aa]at hF
 by_cases h5:(Eh (Tv p)).2.2.2.2.2=24
 ·rw[if_pos h5]at hT
  simp only at hT
  rw[if_pos (by decide)]at hT
  rw[if_pos (by rw[As];simpa using h5)]at hF
  exact mkW hZ hF hT
 rw[if_neg h5]at hT
 rw[if_neg (by rw[As];simpa using h5)]at hF
 simp only at hT
 by_cases h6:(Eh (Tv p)).2.2.2.2.2≠0
 ·rw[if_pos (by rw[Al];simpa using h6)]at hT hF
  rw[Ag,Aa]at hF
  exact mkE (by have:=hrn;generalize(Eh (Tv p)).2.2.2.2.2=z at *;omega) (hF.trans f62) hT
 have h7:(Eh (Tv p)).2.2.2.2.2=0:=by simpa using h6
 obtain⟨r1,h22,r3,r4⟩:=Box h7
 rw[if_neg (by rw[Al,h7];simp),Cy (by omega) (by omega),Aa,Ha,Gy,Dz]at hT
 rw[if_neg (by rw[Al,h7];simp),Aj (by omega) (by omega),Cy (by omega) (by omega),Aa,Ph,Aej,Lm]at hF
 simp only at hT hF
 by_cases h8:((o==([]:LB)) !=geq (Eh (Tv p)).1 1)=true
 ·rw[if_pos h8]at hT hF
  rw[Aa]at hT hF
  rw[Ag,Aa]at hF
  simp only at hF
  exact mkE (by decide) (hF.trans f62) hT
 ·rw[if_neg h8]at hT hF
  rw[Aa]at hT hF
  rw[Ag,Aa]at hF
  have hd:HdI (Eh (Tv p)).1 (Eh (Tv p)).2.1 (Eh (Tv p)).2.2.1 (Eh (Tv p)).2.2.2.1 (Eh (Tv p)).2.2.2.2.1 (f0 (Tv p)) (f1 (Tv p)) (f2 (Tv p)) (f3 (Tv p)) (f4 (Tv p)):=by
   constructor<;>first|(rw[r1])|assumption
  refine .next _ _ _ _ _ _ [] 0 [] (by exact hF) hT (.head _ _ _ _ _ hd ?_ rfl rfl rfl) ⟨by rw[List.length_drop];omega,by simp,by simp⟩ (by rw[List.length_drop];omega) ?_
  ·have e:geq (Eh (Tv p)).1 1=decide (f0 (Tv p)=1):=by rw[hd.ef,As,Bool.eq_iff_iff];simp;omega
   rw[←e];simpa using h8
  ·rw[muD,muD,if_neg hd.fnz,if_pos rfl,if_pos rfl];omega
section
variable {F C W R N:Nat} (hd:HdI f c w r n F C W R N)
include hd
theorem Bs1(hp:p.length≤100000)(hpw:(o==([]:LB))=decide (F=1))(A:Nat)(hA:A≤p.length)
  (hT:cadenzaref37_take o p f c w r n [] 0 [] u v=(Dg p f c w r n (A:Int)).bind (fun(ag,ak,w1)=>if(Ay w1 0)then some (o,p,f,c,w,r,n,([]:LI),(0:Int),([]:LB),u,v,w1)else(Bc p ag (Ac p)).bind fun al=>some (o,al,f,c,w,r,n,ak,(0:Int),([]:LB),u,v,(0:Int))))
  (hF:feedP bk o u v p f c w r n 0 [] []=Jf bk o u v p f c w r n 0 [] [] (A:Int)):StepR bk o p f c w r n [] 0 [] u v:=by
 have hZ:SzD p [] 0 []:=⟨hp,by simp,by simp⟩
 obtain⟨_,t2,t3⟩:=Bgq hd o p hp A hA 0 [] u v
 have hs:=Bkq (p.drop A) (framesL (longN R) N).length (by rw[List.length_drop];omega)
 have hnn:=Bn5 (p.drop A) (framesL (longN R) N).length
 have hok:=Bou (b:=p.drop A) (n:=(framesL (longN R) N).length)
 rw[t2,Aa]at hT
 rw[Jf,Ad5,hd.Bbg,Aa]at hF
 simp only at hF
 rw[if_neg (by decide),Cy (by omega) (by omega),Aa,Int.toNat_natCast,Ac,hs,Aa]at hF
 generalize hz:Ie (p.drop A) (framesL (longN R) N).length=z at*
 obtain⟨z1,z2⟩:=z
 simp only at*
 by_cases h1:z2=24
 ·rw[if_pos h1]at hT
  simp only at hT
  rw[if_pos (by decide)]at hT
  rw[if_pos (by rw[As];simpa using h1)]at hF
  exact mkW hZ hF hT
 rw[if_neg h1]at hT
 rw[if_neg (by rw[As];simpa using h1)]at hF
 simp only at hT
 by_cases h2:z2≠0
 ·rw[if_pos (by rw[Al];simpa using h2)]at hT hF
  rw[Ag,Aa]at hF
  exact mkE (by omega) hF hT
 ·have h0:z2=0:=by simpa using h2
  subst h0
  have h3:=t3 rfl
  obtain⟨k1,k2,k3,k4,k5,k6⟩:=hok rfl
  simp only[Prod.mk.injEq,and_true]at k1
  have hl:z1.length=(framesL (longN R) N).length:=by rw[k1];exact Afn _ _
  rw[←k1]at k5 k6
  rw[if_neg (by decide),Cy (by omega) (by omega),Aa]at hT
  rw[if_neg (by decide),Ac,Br1 A z1.length (by omega) (by omega),Cy (by omega) (by omega),Aa]at hF
  have hne:z1≠ []:=by intro e;rw[e]at hl;simp at hl;omega
  refine .next _ _ _ _ _ _ z1 0 [] (by exact hF) hT (.tab _ _ _ _ _ 0 hd hpw ?_ hl rfl (by omega)) ⟨by rw[List.length_drop];omega,by omega,by simp;omega⟩ (by rw[List.length_drop];omega) ?_
  ·rw[tabB,Bool.and_eq_true,decide_eq_true_eq,Ai2 z1 100000 (by omega)]
   exact⟨by omega,k5,k6⟩
  ·rw[muD,muD,if_neg hd.fnz,if_neg hd.fnz,if_pos rfl,if_neg hne]
   simp;omega
theorem Bwf(ho:o.length≤64)(hp:p.length≤100000)(hpw:(o==([]:LB))=decide (F=1)):StepR bk o p f c w r n [] 0 [] u v:=by
 have hZ:SzD p [] 0 []:=⟨hp,by simp,by simp⟩
 have hT:cadenzaref37_take o p f c w r n [] 0 [] u v=cadenzaref37_take o p f c w r n [] 0 [] u v:=rfl
 conv at hT=>rhs;rw[cadenzaref37_take,Ck,if_neg hd.ne0,Ci,Cj,if_pos (by decide),Ej,Hn]
 have hF:feedP bk o u v p f c w r n 0 [] []=feedP bk o u v p f c w r n 0 [] []:=rfl
 conv at hF=>rhs;rw[feedP,Gv,if_neg hd.ne0,if_pos (by decide)]
 by_cases h2:geq f 2=true
 ·rw[if_pos h2]at hT hF
  by_cases h8:p.length<8
  ·rw[if_pos (by rw[Af,Ac];simp;omega)]at hT hF
   rw[Aa]at hT
   simp only at hT
   rw[if_pos (by decide)]at hT
   exact mkW hZ hF hT
  ·rw[if_neg (by rw[Af,Ac];simp;omega)]at hT hF
   have h8':(p.take 8).length=8:=by rw[List.length_take];omega
   rw[Cp (by omega) (by omega),Aa,Bj8 o ho,Aa]at hT
   rw[Pc,Aev,Cp (by omega) (by omega),Aa,show(8:Int).toNat=8 from rfl,Bnw h8' ho,Aa]at hF
   rw[show(8:Int).toNat=8 from rfl]at hT
   simp only at hF
   rw[Ad7,Aep,if_neg (by decide)]at hF
   by_cases he:(p.take 8==leB (Aby o).toNat 8)=true
   ·rw[if_neg (by rw[bne,he];decide)]at hT
    rw[if_neg (by rw[he];decide)]at hF
    exact Bs1 hd hp hpw 8 (by omega) hT hF
   ·have he':(p.take 8==leB (Aby o).toNat 8)=false:=by simpa using he
    rw[if_pos (by rw[bne,he'];decide),Aa]at hT
    simp only at hT
    rw[if_pos (by decide)]at hT
    rw[if_pos (by rw[he'];decide),Ag,Aa]at hF
    simp only at hF
    exact mkE (by decide) (hF.trans f75) hT
 ·rw[if_neg h2]at hT hF
  exact Bs1 hd hp hpw 0 (by omega) hT hF
theorem Bxa(ho:o.length≤64)(hpw:(o==([]:LB))=decide (F=1))(hg:tabB g=true)(hl:g.length=(framesL (longN R) N).length)(A:Nat)(hA:A≤g.length)(hZ:SzD p g (A:Int) x):StepR bk o p f c w r n g (A:Int) x u v:=by
 have hp:=hZ.hp
 have hx:=hZ.hx
 have hc:=hd.ec
 subst hc
 have hg':=hg
 rw[tabB,Bool.and_eq_true,decide_eq_true_eq,Ai2 g 100000 (by omega)]at hg'
 obtain⟨⟨g1,g2⟩,g5,g6⟩:=hg'
 have hgn:¬(geq (Ac g) 0=true):=by rw[As,Ac];simp;intro e;subst e;simp at g1
 have hT:cadenzaref37_take o p f (C:Int) w r n g (A:Int) x u v=cadenzaref37_take o p f (C:Int) w r n g (A:Int) x u v:=rfl
 conv at hT=>rhs;rw[cadenzaref37_take,Ck,if_neg hd.ne0,Ci,Cj,if_neg hgn]
 have hF:feedP bk o u v p f (C:Int) w r n (A:Int) g x=feedP bk o u v p f (C:Int) w r n (A:Int) g x:=rfl
 conv at hF=>rhs;rw[feedP,Gv,if_neg hd.ne0,if_neg hgn]
 by_cases hA2:A=g.length
 ·subst hA2
  rw[if_pos (by rw[As,Ac];simp)]at hT
  rw[if_neg (by rw[Af,Ac];simp)]at hF
  by_cases h4:4000<p.length
  ·rw[if_pos (by rw[Ap,Ac];simp;omega)]at hT hF
   rw[Ag,Aa]at hF
   exact mkE (by decide) hF hT
  ·rw[if_neg (by rw[Ap,Ac];simp;omega)]at hT hF
   exact mkW hZ hF hT
 ·have hlt:A<g.length:=by omega
  have h5:=g5 g[A] (List.getElem_mem hlt)
  have hsum:=Bl5 g5 g[A] (List.getElem_mem hlt)
  rw[if_neg (by rw[As,Ac];simp;omega),Da,Fq,Cq hlt,Aa]at hT
  rw[if_pos (by rw[Af,Ac];simp;omega),Cq hlt,Aa,Aa]at hF
  by_cases hw:(p.length:Int)<g[A]
  ·rw[if_pos (by rw[Af,Ac];simpa using hw)]at hT hF
   rw[Aa]at hT
   simp only at hT
   rw[if_pos (by decide)]at hT
   exact mkW hZ hF hT
  rw[if_neg (by rw[Af,Ac];simpa using hw)]at hT hF
  have hnum:=hd.num
  have hlt2:A<(framesL (longN R) N).length:=by omega
  obtain⟨m,hm,m1,m2⟩:=Aef (Vp R) hnum.2.2.2.2.1 (List.getElem_mem hlt2)
  have hb:Ct w:=by rw[hd.ew];unfold Ct;omega
  obtain⟨xs,e,d1,d2,d3,d4⟩:=Al1 (bits:=w) (ch:=C) (n:=m) (t:=Ang o) (p.take g[A].toNat) hb (Yf o) hnum.2.1.1 hnum.2.1.2 m1 (by omega)
  have hnn:=Bjm hb (Yf o) hnum.2.1.1 hnum.2.1.2 m1 (by omega) d2
  rw[Bju o ho,Aa]at hF
  simp only at hF
  rw[if_neg (by decide),hd.Bbg,Aa]at hF
  simp only at hF
  rw[if_neg (by simp[Al,Eb,Ac];omega),Pr,Aez,Cq hlt2,Aa,Cp (by omega) (by omega),Aa,Aa,Xk,Aa]at hF
  simp only at hF
  rw[hm,d1,Aa]at hF
  simp only at hF
  rw[Ba3 o ho,Aa]at hT
  simp only at hT
  rw[Cp (by omega) (by omega),Aa,Gq,Aa]at hT
  simp only at hT
  rw[hd.Br7,Aa,Cq hlt2,Aa,Aa,hm]at hT
  rw[d2,Aa]at hT
  simp only at hT
  rw[Fs,Fp]at hT
  rw[Aek,Vg]at hF
  by_cases he:e≠0
  ·rw[if_pos (by rw[Al];simpa using he)]at hT hF
   rw[Aa]at hT
   simp only at hT
   rw[if_pos (by rw[Al];simpa using he)]at hT
   rw[Ag,Aa]at hF
   exact mkE (by omega) hF hT
  ·have he0:e=0:=by simpa using he
   obtain⟨k1,k2,k3⟩:=d3 he0
   have hbl:=Aj3 w xs
   have ht:((A:Int)).toNat=A:=rfl
   rw[ht]at hx
   rw[if_neg (by rw[Al,he0];simp)]at hT hF
   rw[Av5 hb k2 k1,Aa,Aa]at hT
   simp only at hT
   rw[if_neg (by decide),Cm (by simp;omega),Aa,List.nil_append,Cm (by omega),Aa,Aa,Cy (by omega) (by omega),Aa,Aj (by omega) (by omega)]at hT
   rw[Bha hb k2 k1,Aa]at hF
   simp only at hF
   rw[if_neg (by decide),Cm (by omega),Aa,Cy (by omega) (by omega),Aa,Aj (by omega) (by omega)]at hF
   have e1:((A:Int)+1).toNat=A+1:=rfl
   refine .next _ _ _ _ _ _ _ _ _ (by exact hF) hT (.tab _ _ _ _ _ (A+1) hd hpw hg hl rfl (by omega)) ⟨by rw[List.length_drop];omega,hZ.hg,by rw[e1,List.length_append];omega⟩ (by rw[List.length_drop];omega) ?_
   have hne:g≠ []:=by intro e;subst e;simp at g1
   rw[muD,muD,if_neg hd.fnz,if_neg hd.fnz,if_neg hne,if_neg hne,e1,ht]
   omega
end
theorem Bgj(hf:FitD o f c w r n g a x)(ho:o.length≤64)(hZ:SzD p g a x):StepR bk o p f c w r n g a x u v:=by
 cases hf with
 |new e1 e2 e3 e4 e5 e6 e7 e8=>subst e1 e2 e3 e4 e5 e6 e7 e8;exact By1 hZ.hp
 |head F C W R N h hpw e6 e7 e8=>subst e6 e7 e8;exact Bwf h ho hZ.hp hpw
 |tab F C W R N A h hpw ht hl ea hA=>subst ea;exact Bxa h ho hpw ht hl A hA hZ
end
end Go.Pl
set_option linter.unusedVariables false
set_option linter.unusedSimpArgs false
namespace Go.Pl
open Go Go.Lv
end Go.Pl
set_option linter.unusedVariables false
set_option linter.unusedSimpArgs false
namespace Go.Pl
open Go Go.Lv
abbrev Cfh:=LB×LB×Int×Int×Int×Int×Int×LI×Int×LB×Bool×Int×Int
def Res(X Y:Option Cfh):Prop:=∃(t1 t2:LB) (t3 t4 t5 t6 t7:Int) (t8:LI) (t9:Int) (t10:LB) (t11:Bool) (t12 e:Int),X=some (t1,t2,t3,t4,t5,t6,t7,t8,t9,t10,t11,t12,e)∧Y=some (t1,t2,t3,t4,t5,t6,t7,t8,t9,t10,t11,t12,e)∧t8.length≤2000
theorem Bw2:∀(j:Nat) (b:LB) (a:Nat),(Blw j b a).2=0∨(Blw j b a).2=38
 |0,_,_=> .inr rfl
 |j+1,b,a=>by
  rw[Blw]
  split
  ·exact .inl rfl
  ·split
   ·exact .inr rfl
   ·exact Bw2 j _ _
theorem Bv5(b:LB):(Al4 b).2=0∨(Al4 b).2=38:=by
 rw[Al4]
 split
 ·exact .inr rfl
 ·exact Bw2 _ _ _
theorem Alq{o p:LB}{f c w r n:Int}{g:LI}{a:Int}{x:LB}{u:Bool}{v:Int}(hp:p.length≤100000)(hg:g.length≤2000)(hx:x.length≤13000000):Nl o p f c w r n g a x u v=some (o,p,f,c,w,r,n,g,a,x,u,v):=by
 rw[Nl,Ago,Cm (by simp;omega),Aa,Cm (by simp;omega),Aa,Agk,Afq,Cm (by simp;omega),Aa]
 rfl
theorem Buw{o p:LB}{f c w r n:Int}{g:LI}{a:Int}{x:LB}{u:Bool}{v:Int}(hp:p.length≤100000)(hg:g.length≤2000)(hx:x.length≤13000000):De o p f c w r n g a x u v=some (o,p,f,c,w,r,n,g,a,x,u,v):=by
 rw[De,Jq,Cm (by simp;omega),Aa,Aa,Jq,Cm (by simp;omega),Aa,Aa,Fj,Cm (by simp;omega),Aa,Aa]
 rfl
theorem Ayu{o p:LB}{f c w r n:Int}{g:LI}{a:Int}{x:LB}{u:Bool}{v e:Int}(hx:x.length≤13000000):Om o p f c w r n g a x u v e=some (o,[],0,0,0,0,0,[],0,x,false,e,e):=by
 rw[Om,Ts,Cm (by simp;omega),Aa];rfl
theorem Byi{p:LB}{f:Int}{g:LI}{a:Int}{x:LB}(h:SzD p g a x):muD f g a<1004:=by
 have:=h.hg
 unfold muD
 split
 ·omega
 ·split<;>omega
section
variable {o p:LB} {f c w r n:Int} {g:LI} {a:Int} {x:LB} {u:Bool} {v:Int} (hp:p.length≤20000) (hg:g.length≤2000) (hx:x.length≤13000000)
include hp hg hx
theorem Bfr{E:Int}(hE:Od o p f c w r n g a x u v=some E):Np o p f c w r n g a x u v=if E≠0 then some ([],[],0,0,0,0,0,[],0,[],false,0,E)else some (o,p,f,c,w,r,n,g,a,x,u,v,if v≠0 then v else if u=true then 36 else 0):=by
 rw[Np,hE,Aa]
 by_cases h:E≠0
 ·rw[if_pos (by rw[Al];simpa using h),if_pos h]
 rw[if_neg (by rw[Al];simpa using h),if_neg h,Buw (by omega) hg (by omega)]
 by_cases hv:v≠0
 ·rw[if_pos (by rw[Al];simpa using hv),if_pos hv,Aa]
 ·rw[if_neg (by rw[Al];simpa using hv),if_neg hv]
  cases u<;>simp[Aa]
omit hg hx in
theorem Bph:∃e,Aca o p f c w r n g a x u v=some e∧Wg o p f c w r n g a x u v=some e:=by
 rw[Aca,Wg]
 by_cases h0:geq f 0=true
 ·rw[if_pos h0,if_pos h0,Ak8 p (by omega),Azi p (by omega),Aa,Aa]
  have hok:=Aod (b:=p)
  simp only
  by_cases h2:(Dh p).2≠0
  ·rw[if_pos (by rw[Al];simpa using h2),if_pos (by rw[Al];simpa using h2)]
   exact⟨_,rfl,rfl⟩
  have h3:(Dh p).2=0:=by simpa using h2
  obtain⟨k1,k2,k3⟩:=hok h3
  have hl:(Tv p).length≤p.length:=by rw[Tv,List.length_drop];omega
  rw[if_neg (by rw[Al,h3];simp),if_neg (by rw[Al,h3];simp),Cy (by omega) (by omega),Aa,Aa,show p.drop (Dh p).1.toNat=Tv p from rfl,Bb9 _ (by omega),Boh _ (by omega),Aa]
  exact⟨_,rfl,rfl⟩
 ·rw[if_neg h0,if_neg h0,Bool.or_comm]
  by_cases h1:(geq (Ac g) 0||Bs a (Ac g))=true
  ·rw[if_pos h1,if_pos h1]
   exact⟨_,rfl,rfl⟩
  ·rw[if_neg h1,if_neg h1,Bnm p (by omega),Brk p (by omega),Aa,Aa]
   simp only
   refine⟨(Al4 p).2,rfl,?_⟩
   rcases Bv5 p with h|h
   ·rw[if_neg (by rw[h];decide),h]
   ·rw[if_pos (by rw[h];decide),h]
theorem Bpt:Res (Ux o p f c w r n g a x u v) (Wo o p f c w r n g a x u v):=by
 obtain⟨E,e1,e2⟩:=Bh7 o p f c w r n g a x u v (by omega) (by omega) (by omega)
 rw[Ux,Bfr hp hg hx e1,Wo,e2,Aa]
 by_cases h:E≠0
 ·rw[if_pos h,Aa,if_pos (by rw[Al];simpa using h)]
  simp only
  rw[if_pos (by rw[Al];simpa using h)]
  exact⟨_,_,_,_,_,_,_,_,_,_,_,_,_,rfl,rfl,by simp⟩
 have h0:E=0:=by simpa using h
 subst h0
 have hE:¬(Ay (0:Int) 0=true):=by decide
 rw[if_neg h,Aa,if_neg hE,Alq (by omega) hg (by omega),Aa]
 simp only
 rw[Hc]
 by_cases hv:v≠0
 ·have hv':Ay v 0=true:=by rw[Al];simpa using hv
  rw[if_pos hv,if_pos hv',if_pos hv',Aa,if_pos hv']
  exact⟨_,_,_,_,_,_,_,_,_,_,_,_,_,rfl,rfl,hg⟩
 have hv':¬(Ay v 0=true):=by rw[Al];simpa using hv
 rw[if_neg hv,if_neg hv']
 obtain⟨e,d1,d2⟩:=Bph (o:=o) (f:=f) (c:=c) (w:=w) (r:=r) (n:=n) (a:=a) (u:=u) (v:=v) (g:=g) (x:=x) hp
 cases u with
 |true=>
  rw[if_pos rfl,if_pos rfl,Aa,if_pos (by decide),if_pos (by decide)]
  exact⟨_,_,_,_,_,_,_,_,_,_,_,_,_,rfl,rfl,hg⟩
 |false=>
  rw[if_neg (by decide),if_neg (by decide),Aa,if_neg (by decide),d1,d2,Aa,Aa]
  by_cases he:Ay e 0=true
  ·rw[if_pos he,if_pos he,Ayu (by omega),Aa]
   exact⟨_,_,_,_,_,_,_,_,_,_,_,_,_,rfl,rfl,by simp⟩
  ·rw[if_neg he,if_neg he,Ts,Cm (by simp;omega),Aa]
   exact⟨_,_,_,_,_,_,_,_,_,_,_,_,_,rfl,rfl,by simp⟩
end
end Go.Pl
set_option linter.unusedVariables false
set_option linter.unusedSimpArgs false
namespace Go.Pl
open Go Go.Lv
theorem bnd{α β:Type}{o:Option α}{f:α→Option β}{r:β}(h:Option.bind o f=some r):∃x,o=some x∧f x=some r:=by
 cases o with
 |none=>cases h
 |some x=>exact⟨x,rfl,h⟩
theorem By0{α:Type}{l:List α}{i:Int}{x:α}(h:Go.Lv.Ak l i=some x):x∈l:=by
 unfold Go.Lv.Ak at h
 split at h
 ·exact List.mem_of_getElem? h
 ·cases h
theorem Bh9{o p:LB}(q:LB){f c w r n:Int}{g:LI}{a:Int}{x:LB}{u:Bool}{v:Int}{y:LB}{e:Int}(hg:∀z∈g,0≤z)(h:Da o p f c w r n g a x u v=some (y,e))(he:e≠ -1):Da o (p++q) f c w r n g a x u v=some (y,e):=by
 rw[Da,Fq]at h⊢
 obtain⟨l,hl,h⟩:=bnd h
 have hl0:=hg l (By0 hl)
 rw[hl,Aa]
 by_cases hc:(p.length:Int)<l
 ·rw[if_pos (by rw[Af,Ac];simpa using hc)]at h
  cases h;exact absurd rfl he
 ·have hc':¬(Bs (Ac (p++q)) l=true):=by rw[Af,Ac,List.length_append];simp;omega
  rw[if_neg (by rw[Af,Ac];simpa using hc)]at h
  rw[if_neg hc',Cp hl0 (by rw[List.length_append];omega),Kv (by omega)]
  rw[Cp hl0 (by omega)]at h
  simpa only[Fs,Fp]using h
theorem Bow{f c w r n:Int}{F C W R N:Nat}(hd:HdI f c w r n F C W R N){p:LB}(q:LB)(hp:(p++q).length≤100000){A:Nat}(hA:A≤p.length){k:Int}{l:LI}{e:Int}(h:Dg p f c w r n (A:Int)=some (k,l,e))(he:e≠ -1):
  Dg (p++q) f c w r n (A:Int)=some (k,l,e)∧(e=0→0≤k∧k≤p.length):=by
 have hp':p.length≤100000:=by rw[List.length_append]at hp;omega
 obtain⟨_,t2,t3⟩:=Bgq hd [] p hp' A hA 0 [] false 0
 obtain⟨_,s2,_⟩:=Bgq hd [] (p++q) hp A (by rw[List.length_append];omega) 0 [] false 0
 rw[t2]at h
 rw[s2,List.drop_append_of_le_length hA]
 by_cases h1:(Ie (p.drop A) (framesL (longN R) N).length).2=24
 ·rw[if_pos h1]at h
  cases h;exact absurd rfl he
 ·rw[if_neg h1]at h
  rw[Bv1 q _ h1,if_neg h1]
  refine⟨h,fun e0=>?_⟩
  cases h
  have:=t3 e0
  constructor
  ·omega
  ·exact this
theorem Be2{f c w r n:Int}{F C W R N:Nat}(hd:HdI f c w r n F C W R N){o p:LB}(q:LB)(hp:(p++q).length≤100000){k:Int}{l:LI}{e:Int}(h:Ej p f c w r n o=some (k,l,e))(he:e≠ -1):
  Ej (p++q) f c w r n o=some (k,l,e)∧(e=0→0≤k∧k≤p.length):=by
 rw[Ej,Hn]at h⊢
 by_cases hf:geq f 2=true
 ·rw[if_pos hf]at h⊢
  by_cases h8:p.length<8
  ·rw[if_pos (by rw[Af,Ac];simp;omega)]at h
   cases h;exact absurd rfl he
  ·have n1:¬(Bs (Ac p) 8=true):=by rw[Af,Ac];simp;omega
   have n2:¬(Bs (Ac (p++q)) 8=true):=by rw[Af,Ac,List.length_append];simp;omega
   rw[if_neg n1,Cp (by decide) (by omega),Aa]at h
   rw[if_neg n2,Cp (by decide) (by rw[List.length_append];omega),Aa,Kv (show(8:Int).toNat≤p.length from by simp;omega)]
   obtain⟨y,hy,h⟩:=bnd h
   rw[hy,Aa]
   by_cases hm:(p.take (8:Int).toNat !=y)=true
   ·rw[if_pos hm]at h⊢
    cases h
    exact⟨rfl,fun e=>by cases e⟩
   ·rw[if_neg hm]at h⊢
    exact Bow hd q hp (A:=8) (by omega) h he
 ·rw[if_neg hf]at h⊢
  exact Bow hd q hp (A:=0) (by omega) h he
theorem Aqk{p q af:LB}{n:Int}(h:Bc p n (Ac p)=some af):Bc (p++q) n (Ac (p++q))=some (af++q):=by
 unfold Bc Ac at h⊢
 split at h
 ·rename_i hc
  cases h
  rw[if_pos ⟨hc.1,by rw[List.length_append];omega,by omega⟩]
  simp only[Int.toNat_natCast,List.take_length]
  rw[List.drop_append_of_le_length (by omega)]
 ·cases h
theorem Avo{o p:LB}(q:LB){f c w r n:Int}{g:LI}{a:Int}{x:LB}{u:Bool}{v:Int}(hf:FitD o f c w r n g a x)(hp:(p++q).length≤100000){t1 t2:LB}{t3 t4 t5 t6 t7:Int}{t8:LI}{t9:Int}{t10:LB}{t11:Bool}{t12 e:Int}
  (h:cadenzaref37_take o p f c w r n g a x u v=some (t1,t2,t3,t4,t5,t6,t7,t8,t9,t10,t11,t12,e)) (he:e≠ -1):
  (e=0→cadenzaref37_take o (p++q) f c w r n g a x u v=some (t1,t2++q,t3,t4,t5,t6,t7,t8,t9,t10,t11,t12,0))∧
  (e≠0→∃(s1 s2:LB) (s3 s4 s5 s6 s7:Int) (s8:LI) (s9:Int) (s10:LB) (s11:Bool) (s12:Int),cadenzaref37_take o (p++q) f c w r n g a x u v=some (s1,s2,s3,s4,s5,s6,s7,s8,s9,s10,s11,s12,e)):=by
 have hp':p.length≤100000:=by rw[List.length_append]at hp;omega
 have zero:¬(Ay (0:Int) 0=true):=by decide
 rw[cadenzaref37_take,Ck]at h⊢
 cases hf with
 |new e1 e2 e3 e4 e5 e6 e7 e8=>
  subst e1
  rw[if_pos (by decide),Yw p hp',Aa]at h
  rw[if_pos (by decide),Yw (p++q) hp,Aa]
  have hst:(stS p).2.2.2.2.2.2≠ -1→stS (p++q)=stS p:=Ccs q
  generalize stS p=z at h hst
  obtain⟨z1,z2,z3,z4,z5,z6,z7⟩:=z
  simp only at h hst
  by_cases hz:Ay z7 0=true
  ·rw[if_pos hz]at h
   simp only[Option.some.injEq,Prod.mk.injEq]at h
   obtain⟨-, -, -, -, -, -, -, -, -, -, -, -,rfl⟩:=h
   rw[hst he]
   simp only
   rw[if_pos hz]
   refine⟨fun e0=>?_,fun _=>⟨_,_,_,_,_,_,_,_,_,_,_,_,rfl⟩⟩
   rw[e0]at hz;exact absurd hz zero
  ·rw[if_neg hz]at h
   have z70:z7=0:=by rw[Al]at hz;simpa using hz
   rw[hst (by rw[z70];decide)]
   simp only
   rw[if_neg hz]
   obtain⟨af,h1,h⟩:=bnd h
   rw[Aqk h1,Aa]
   rw[Ha,Gy]at h⊢
   obtain⟨aw,h2,h⟩:=bnd h
   rw[h2,Aa]
   simp only[Option.some.injEq,Prod.mk.injEq]at h
   obtain⟨rfl,rfl,rfl,rfl,rfl,rfl,rfl,rfl,rfl,rfl,rfl,rfl,rfl⟩:=h
   exact⟨fun e0=>by rw[e0],fun _=>⟨_,_,_,_,_,_,_,_,_,_,_,_,rfl⟩⟩
 |head F C W R N hd hpw e6 e7 e8=>
  subst e6
  have hfn:¬(geq f 0=true):=by rw[As];simpa using hd.fnz
  rw[if_neg hfn,Ci,Cj,if_pos (by decide)]at h⊢
  obtain⟨⟨k,l,e1⟩,h1,h⟩:=bnd h
  simp only at h
  by_cases hz:Ay e1 0=true
  ·rw[if_pos hz]at h
   simp only[Option.some.injEq,Prod.mk.injEq]at h
   obtain⟨-, -, -, -, -, -, -, -, -, -, -, -,rfl⟩:=h
   rw[(Be2 hd q hp h1 he).1,Aa]
   simp only
   rw[if_pos hz]
   refine⟨fun e0=>?_,fun _=>⟨_,_,_,_,_,_,_,_,_,_,_,_,rfl⟩⟩
   rw[e0]at hz;exact absurd hz zero
  ·rw[if_neg hz]at h
   have z70:e1=0:=by rw[Al]at hz;simpa using hz
   rw[(Be2 hd q hp h1 (by rw[z70];decide)).1,Aa]
   simp only
   rw[if_neg hz]
   obtain⟨af,h2,h⟩:=bnd h
   rw[Aqk h2,Aa]
   simp only[Option.some.injEq,Prod.mk.injEq]at h
   obtain⟨rfl,rfl,rfl,rfl,rfl,rfl,rfl,rfl,rfl,rfl,rfl,rfl,rfl⟩:=h
   exact⟨fun e0=>rfl,fun e0=>absurd rfl e0⟩
 |tab F C W R N A hd hpw ht hl ea hA=>
  have hfn:¬(geq f 0=true):=by rw[As];simpa using hd.fnz
  have ht':=ht
  rw[tabB,Bool.and_eq_true,decide_eq_true_eq]at ht'
  have hgl:¬(geq (Ac g) 0=true):=by
   intro e
   rw[As,Ac]at e
   have hl1:=ht'.1.1
   simp only[beq_iff_eq,decide_eq_true_eq]at e
   omega
  rw[if_neg hfn,Ci,Cj,if_neg hgl]at h⊢
  by_cases hend:geq a (Ac g)=true
  ·rw[if_pos hend]at h⊢
   by_cases hm:Di (Ac p) 4000=true
   ·have hm':Di (Ac (p++q)) 4000=true:=by rw[Ap,Ac]at hm⊢;simp only[decide_eq_true_eq]at hm⊢;rw[List.length_append];omega
    rw[if_pos hm]at h
    rw[if_pos hm']
    simp only[Option.some.injEq,Prod.mk.injEq]at h
    obtain⟨-, -, -, -, -, -, -, -, -, -, -, -,rfl⟩:=h
    exact⟨(fun e0=>by cases e0),fun _=>⟨_,_,_,_,_,_,_,_,_,_,_,_,rfl⟩⟩
   ·rw[if_neg hm]at h
    simp only[Option.some.injEq,Prod.mk.injEq]at h
    obtain⟨-, -, -, -, -, -, -, -, -, -, -, -,rfl⟩:=h
    exact absurd rfl he
  ·rw[if_neg hend]at h⊢
   have hpos:∀z∈g,0≤z:=by
    have:=(Ai2 g 100000 (by omega)).1 ht'.2
    intro z hz
    have:=this.1 z hz
    omega
   obtain⟨⟨y,e1⟩,h1,h⟩:=bnd h
   simp only at h
   by_cases hz:Ay e1 0=true
   ·rw[if_pos hz]at h
    simp only[Option.some.injEq,Prod.mk.injEq]at h
    obtain⟨-, -, -, -, -, -, -, -, -, -, -, -,rfl⟩:=h
    rw[Bh9 q hpos h1 he,Aa]
    simp only
    rw[if_pos hz]
    refine⟨fun e0=>?_,fun _=>⟨_,_,_,_,_,_,_,_,_,_,_,_,rfl⟩⟩
    rw[e0]at hz;exact absurd hz zero
   ·rw[if_neg hz]at h
    have z70:e1=0:=by rw[Al]at hz;simpa using hz
    rw[Bh9 q hpos h1 (by rw[z70];decide),Aa]
    simp only
    rw[if_neg hz]
    obtain⟨an,h2,h⟩:=bnd h
    rw[h2,Aa]
    obtain⟨ah,h3,h⟩:=bnd h
    rw[h3,Aa]
    obtain⟨ad,h4,h⟩:=bnd h
    rw[h4,Aa]
    obtain⟨ae,h5,h⟩:=bnd h
    rw[Aqk h5,Aa]
    simp only[Option.some.injEq,Prod.mk.injEq]at h
    obtain⟨rfl,rfl,rfl,rfl,rfl,rfl,rfl,rfl,rfl,rfl,rfl,rfl,rfl⟩:=h
    exact⟨fun e0=>rfl,fun e0=>absurd rfl e0⟩
end Go.Pl
set_option linter.unusedVariables false
set_option linter.unusedSimpArgs false
namespace Go.Pl
open Go Go.Lv
def Cga(o:LB)(K:Nat)(u:Bool)(v:Int)(X Y:Option Cfh):Prop:=∃(t1 t2:LB) (t3 t4 t5 t6 t7:Int) (t8:LI) (t9:Int) (t10:LB) (t11:Bool) (t12 e:Int),X=some (t1,t2,t3,t4,t5,t6,t7,t8,t9,t10,t11,t12,e)∧Y=some (t1,t2,t3,t4,t5,t6,t7,t8,t9,t10,t11,t12,e)∧t10.length≤13000000∧
 (e=0→t1=o∧t2.length≤K∧FitD o t3 t4 t5 t6 t7 t8 t9 t10∧SzD t2 t8 t9 t10∧t11=u∧t12=v)
theorem Bhy(K:Nat):∀(k q1 q2:Nat) (o p:LB) (f c w r n:Int) (g:LI) (a:Int) (x:LB) (u:Bool) (v:Int),FitD o f c w r n g a x→o.length≤64→SzD p g a x→p.length≤K→muD f g a<k→k≤q1→k≤q2→
  Cga o K u v (Aq o u v q1 p f c w r n a g x) (Ba q2 o p f c w r n g a x u v)
 |0,_,_,_,_,_,_,_,_,_,_,_,_,_,_,_,_,_,_,h,_,_=>by omega
 |k+1,q1,q2,o,p,f,c,w,r,n,g,a,x,u,v,hf,ho,hZ,hK,hm,h1,h2=>by
  obtain⟨q1,rfl⟩:∃q,q1=q+1:=⟨q1-1,by omega⟩
  obtain⟨q2,rfl⟩:∃q,q2=q+1:=⟨q2-1,by omega⟩
  have hx:x.length≤13000000:=by have:=hZ.hx;omega
  rw[Aq,Ba,Cr]
  have hS:StepR (Aq o u v q1) o p f c w r n g a x u v:=Bgj hf ho hZ
  cases hS with
  |wait hF hT=>
   rw[hT,Aa]
   simp only
   rw[if_pos (by decide),Alq hZ.hp (by have:=hZ.hg;omega) hx,Aa]
   exact⟨_,_,_,_,_,_,_,_,_,_,_,_,_,hF,rfl,hx,fun _=>⟨rfl,hK,hf,hZ,rfl,rfl⟩⟩
  |err e he hF hT=>
   rw[hT,Aa]
   simp only
   rw[if_neg (by rw[Aux (by omega)];decide),if_pos (by rw[Al];simp;omega),Ayu hx,Aa]
   exact⟨_,_,_,_,_,_,_,_,_,_,_,_,_,hF,rfl,hx,fun h=>absurd h (by omega)⟩
  |next p' f' c' w' r' n' g' a' x' hF hT hf' hZ' hle hmu=>
   rw[hT,Aa]
   simp only
   rw[if_neg (by decide),if_neg (by decide)]
   have ih:=Bhy K k q1 q2 o p' f' c' w' r' n' g' a' x' u v hf' ho hZ' (by omega) (by omega) (by omega) (by omega)
   have hF':Gv (Lf (Aq o u v q1) o u v) (Ph (Aq o u v q1) o u v) (Je (Aq o u v q1) o u v) (Pc (Aq o u v q1) o u v) (Jf (Aq o u v q1) o u v) (Oy (Aq o u v q1) o u v) (Pr (Aq o u v q1) o u v) (Bu (Aq o u v q1) o u v) (Vt (Aq o u v q1) o u v) o u v p f c w r n a g x=Aq o u v q1 p' f' c' w' r' n' a' g' x':=hF
   rw[hF']
   exact ih
theorem Cdf{o p:LB}{f c w r n:Int}{g:LI}{a:Int}{x:LB}(ho:o.length≤64)(hf:FitD o f c w r n g a x)(hZ:SzD p g a x)(b:LB)(hp:p.length≤20000)(hb:b.length≤20000):
  Cga o (p.length+b.length) false 0 (Px o p f c w r n g a x false 0 b) (Gc o p f c w r n g a x false 0 b):=by
 have hx:x.length≤13000000:=by have:=hZ.hx;omega
 have hg:g.length≤2000:=by have:=hZ.hg;omega
 obtain⟨E,e1,e2⟩:=Bh7 o p f c w r n g a x false 0 (by omega) (by omega) (by omega)
 rw[Px,Xv,Bfr hp hg hx e1,Gc,Nd,e2,Aa]
 by_cases h:E≠0
 ·rw[if_pos h,Aa,if_pos (by rw[Al];simpa using h)]
  simp only
  rw[if_pos (by rw[Al];simpa using h)]
  exact⟨_,_,_,_,_,_,_,_,_,_,_,_,_,rfl,rfl,by simp,fun h'=>absurd h' h⟩
 have h0:E=0:=by simpa using h
 subst h0
 have hE:¬(Ay (0:Int) 0=true):=by decide
 rw[if_neg h,Aa,if_neg hE,Alq (by omega) hg (by omega),Aa]
 simp only
 have hF:¬(false=true):=by decide
 rw[Hc,if_neg (show ¬((0:Int)≠0)from fun h=>h rfl),if_neg hF]
 repeat (first|rw[Aa]|rw[if_neg hE]|rw[if_neg hF])
 rw[Cm (by omega)]
 rw[Aa,Aa]
 have hZ':SzD (p++b) g a x:=⟨by rw[List.length_append];omega,hZ.hg,hZ.hx⟩
 exact Bhy _ 1004 FUEL FUEL o (p++b) f c w r n g a x false 0 hf ho hZ' (by rw[List.length_append];exact Nat.le_refl _) (Byi hZ') (by have:=Am;omega) (by have:=Am;omega)
end Go.Pl
set_option linter.unusedVariables false
set_option linter.unusedSimpArgs false
namespace Go.Pl
open Go Go.Lv
def OutB(f c w r n:Int)(g:LI)(a:Int)(x:LB):Prop:=∀(F C W R N A:Nat),HdI f c w r n F C W R N→g≠ []→a=(A:Int)→(x.length:Int)≤Zy C W (framesL (longN R) N) A
theorem OutB.nil{f c w r n:Int}{a:Int}{x:LB}:OutB f c w r n [] a x:=fun _ _ _ _ _ _ _ h=>absurd rfl h
theorem OutB.zero{f c w r n:Int}{g:LI}:OutB f c w r n g 0 []:=fun F C W R N A h hg ha=>by
 obtain rfl:A=0:=by omega
 rw[Bq6];simp
theorem Brx{o p:LB}{f c w r n:Int}{F C W R N:Nat}(hd:HdI f c w r n F C W R N)(ho:o.length≤64)(hp:p.length≤100000){g:LI}(ht:tabB g=true)(hl:g.length=(framesL (longN R) N).length){A:Nat}(hA:A<g.length){x:LB}{u:Bool}{v:Int}{y:LB}{e:Int}
  (h:Da o p f c w r n g (A:Int) x u v=some (y,e)) (he:e=0):∃m:Nat,(framesL (longN R) N)[A]'(by omega)=(m:Int)∧y.length=m*C*wB (W:Int):=by
 subst he
 have hlt2:A<(framesL (longN R) N).length:=by omega
 have hnum:=hd.num
 rw[tabB,Bool.and_eq_true,decide_eq_true_eq,Ai2 g 100000 (by omega)]at ht
 obtain⟨ht1,g5,gs⟩:=ht
 have h5:=g5 g[A] (List.getElem_mem hA)
 rw[Da,Fq,Cq hA,Aa]at h
 by_cases hw:(p.length:Int)<g[A]
 ·rw[if_pos (by rw[Af,Ac];simpa using hw)]at h
  cases h
 rw[if_neg (by rw[Af,Ac];simpa using hw)]at h
 obtain⟨m,hm,m1,m2⟩:=Aef (Vp R) hnum.2.2.2.2.1 (List.getElem_mem hlt2)
 have hb:Ct w:=by rw[hd.ew];unfold Ct;omega
 obtain⟨xs,e,d1,d2,d3,d4⟩:=Al1 (bits:=w) (ch:=C) (n:=m) (t:=Ang o) (p.take g[A].toNat) hb (Yf o) hnum.2.1.1 hnum.2.1.2 m1 (by omega)
 rw[Ba3 o ho,Aa]at h
 simp only at h
 rw[Cp (by omega) (by omega),Aa,Gq,Aa]at h
 simp only at h
 rw[hd.Br7,Aa,Cq hlt2,Aa,Aa,hm,hd.ec]at h
 rw[d2,Aa]at h
 simp only at h
 rw[Fs,Fp]at h
 by_cases he:e≠0
 ·rw[if_pos (by rw[Al];simpa using he)]at h
  cases h;exact absurd rfl he
 ·have he0:e=0:=by simpa using he
  obtain⟨k1,k2,k3⟩:=d3 he0
  rw[if_neg (by rw[Al,he0];simp),Av5 hb k2 k1,Aa]at h
  cases h
  refine⟨m,hm,?_⟩
  rw[Bd0 hb,k3,hd.ew]
theorem Bzk{o p:LB}{f c w r n:Int}{g:LI}{a:Int}{x:LB}{u:Bool}{v:Int}(hf:FitD o f c w r n g a x)(ho:o.length≤64)(hZ:SzD p g a x)(hO:OutB f c w r n g a x){t1 t2:LB}{t3 t4 t5 t6 t7:Int}{t8:LI}{t9:Int}{t10:LB}{t11:Bool}{t12:Int}
  (h:cadenzaref37_take o p f c w r n g a x u v=some (t1,t2,t3,t4,t5,t6,t7,t8,t9,t10,t11,t12,0)):OutB t3 t4 t5 t6 t7 t8 t9 t10:=by
 have hp':=hZ.hp
 have zero:¬(Ay (0:Int) 0=true):=by decide
 rw[cadenzaref37_take,Ck]at h
 cases hf with
 |new e1 e2 e3 e4 e5 e6 e7 e8=>
  subst e1 e6 e7 e8
  rw[if_pos (by decide),Yw p hp',Aa]at h
  generalize stS p=z at h
  obtain⟨z1,z2,z3,z4,z5,z6,z7⟩:=z
  simp only at h
  by_cases hz:Ay z7 0=true
  ·rw[if_pos hz]at h
   simp only[Option.some.injEq,Prod.mk.injEq]at h
   obtain⟨-, -, -, -, -, -, -,rfl, -⟩:=h
   exact OutB.nil
  ·rw[if_neg hz]at h
   obtain⟨af,h1,h⟩:=bnd h
   rw[Ha,Gy]at h
   obtain⟨aw,h2,h⟩:=bnd h
   simp only[Option.some.injEq,Prod.mk.injEq]at h
   obtain⟨-, -, -, -, -, -, -,rfl, -⟩:=h
   exact OutB.nil
 |head F C W R N hd hpw e6 e7 e8=>
  subst e6 e7 e8
  have hfn:¬(geq f 0=true):=by rw[As];simpa using hd.fnz
  rw[if_neg hfn,Ci,Cj,if_pos (by decide)]at h
  obtain⟨⟨k,l,e1⟩,h1,h⟩:=bnd h
  simp only at h
  by_cases hz:Ay e1 0=true
  ·rw[if_pos hz]at h
   simp only[Option.some.injEq,Prod.mk.injEq]at h
   obtain⟨-, -, -, -, -, -, -,rfl, -⟩:=h
   exact OutB.nil
  ·rw[if_neg hz]at h
   obtain⟨af,h2,h⟩:=bnd h
   simp only[Option.some.injEq,Prod.mk.injEq]at h
   obtain⟨-, -, -, -, -, -, -, -,rfl,rfl, -⟩:=h
   exact OutB.zero
 |tab F C W R N A hd hpw ht hl ea hA=>
  subst ea
  have hfn:¬(geq f 0=true):=by rw[As];simpa using hd.fnz
  have ht':=ht
  rw[tabB,Bool.and_eq_true,decide_eq_true_eq]at ht'
  have hgl:¬(geq (Ac g) 0=true):=by
   intro e
   rw[As,Ac]at e
   have hl1:=ht'.1.1
   simp only[beq_iff_eq,decide_eq_true_eq]at e
   omega
  have hne:g≠ []:=by intro e;subst e;simp at ht'
  rw[if_neg hfn,Ci,Cj,if_neg hgl]at h
  by_cases hend:geq (A:Int) (Ac g)=true
  ·rw[if_pos hend]at h
   by_cases hm:Di (Ac p) 4000=true
   ·rw[if_pos hm]at h
    simp only[Option.some.injEq,Prod.mk.injEq]at h
    exact absurd h.2.2.2.2.2.2.2.2.2.2.2.2 (by decide)
   ·rw[if_neg hm]at h
    simp only[Option.some.injEq,Prod.mk.injEq]at h
    exact absurd h.2.2.2.2.2.2.2.2.2.2.2.2 (by decide)
  ·rw[if_neg hend]at h
   have hlt:A<g.length:=by
    rw[As,Ac]at hend
    simp only[beq_iff_eq]at hend
    omega
   obtain⟨⟨y,e1⟩,h1,h⟩:=bnd h
   simp only at h
   by_cases hz:Ay e1 0=true
   ·rw[if_pos hz]at h
    simp only[Option.some.injEq,Prod.mk.injEq]at h
    have:=h.2.2.2.2.2.2.2.2.2.2.2.2
    rw[this]at hz;exact absurd hz zero
   ·rw[if_neg hz]at h
    have z70:e1=0:=by rw[Al]at hz;simpa using hz
    obtain⟨m,hm,hy⟩:=Brx hd ho hp' ht hl hlt h1 z70
    obtain⟨an,h2,h⟩:=bnd h
    obtain⟨ah,h3,h⟩:=bnd h
    obtain⟨ad,h4,h⟩:=bnd h
    obtain⟨ae,h5,h⟩:=bnd h
    simp only[Option.some.injEq,Prod.mk.injEq]at h
    obtain⟨-, -,rfl,rfl,rfl,rfl,rfl,rfl,rfl,rfl, -⟩:=h
    intro F' C' W' R' N' A' hd' _ ha'
    have eqs:C'=C∧W'=W∧R'=R∧N'=N:=by
     have q1:=hd.ec.symm.trans hd'.ec
     have q2:=hd.ew.symm.trans hd'.ew
     have q3:=hd.er.symm.trans hd'.er
     have q4:=hd.en.symm.trans hd'.en
     omega
    obtain⟨rfl,rfl,rfl,rfl⟩:=eqs
    have hold:=hO F C' W' R' N' A hd hne rfl
    have e2:Ae (A:Int) 1=((A+1:Nat):Int):=by rw[Aj (by omega) (by omega)];omega
    rw[e2]at ha'
    obtain rfl:A'=A+1:=by omega
    have hah:ah.length=x.length+y.length:=by
     unfold Cw at h2 h3
     split at h2
     ·cases h2
      split at h3
      ·cases h3;simp
      ·cases h3
     ·cases h2
    have hpos:∀z∈framesL (longN R') N',0≤z:=by
     intro z hz
     obtain⟨m,hm,m1,m2⟩:=Aef (Vp R') hd.num.2.2.2.2.1 hz
     omega
    rw[Br4 C' W' hpos (by omega) hm,hah,hy]
    omega
theorem Bf2{o p:LB}{f c w r n:Int}{g:LI}{a:Int}{x:LB}(hf:FitD o f c w r n g a x)(ho:o.length≤64)(hO:OutB f c w r n g a x){t1 t2:LB}{t3 t4 t5 t6 t7:Int}{t8:LI}{t9:Int}{t10:LB}{t11:Bool}{t12:Int}
  (h:cadenzaref37_take o p f c w r n g a x false 0=some (t1,t2,t3,t4,t5,t6,t7,t8,t9,t10,t11,t12, -1)):Dl o p f c w r n g a x false 0=some 0:=by
 have h4:Br o p f c w r n g a x false 0=some true:=by
  rw[Br,Rz,h,Aa]
  rfl
 have hr:Jb o p f c w r n g a x false 0=some true:=by
  rw[Jb,Se]
  cases hf with
  |new e1 e2 e3 e4 e5 e6 e7 e8=>
   subst e1 e2 e3 e4 e5 e6 e7 e8
   rw[if_pos (by decide),if_neg (by decide)]
   exact h4
  |head F C W R N hd hpw e6 e7 e8=>
   subst e6 e7 e8
   have hz:¬(((geq f 0)&&((geq c 0)&&((geq w 0)&&((geq r 0)&&((geq n 0)&&true)))))=true):=by
    simp only[Bool.and_eq_true,As,beq_iff_eq,and_true]
    exact fun e=>hd.fnz e.1
   have hff:geq f 1=decide (F=1):=by rw[hd.ef,As,Bool.eq_iff_iff];simp;omega
   rw[if_neg hz,hd.check,Aa,if_neg (by decide),Dz,hff,hpw,if_neg (by simp),Aa,if_neg (by decide),Ml,Mg,if_pos (by decide),if_neg (by decide)]
   exact h4
  |tab F C W R N A hd hpw ht hl ea hA=>
   subst ea
   have hz:¬(((geq f 0)&&((geq c 0)&&((geq w 0)&&((geq r 0)&&((geq n 0)&&true)))))=true):=by
    simp only[Bool.and_eq_true,As,beq_iff_eq,and_true]
    exact fun e=>hd.fnz e.1
   have hff:geq f 1=decide (F=1):=by rw[hd.ef,As,Bool.eq_iff_iff];simp;omega
   have ht':=ht
   rw[tabB,Bool.and_eq_true,decide_eq_true_eq]at ht'
   have hgl:¬(geq (Ac g) 0=true):=by
    intro e
    rw[As,Ac]at e
    have hl1:=ht'.1.1
    simp only[beq_iff_eq,decide_eq_true_eq]at e
    omega
   have hne:g≠ []:=by intro e;subst e;simp at ht'
   have hout:=hO F C W R N A hd hne rfl
   rw[if_neg hz,hd.check,Aa,if_neg (by decide),Dz,hff,hpw,if_neg (by simp),Aa,if_neg (by decide),Ml,Mg,if_neg hgl,Ank,Aa,if_pos ht,if_neg (by decide),hd.Br7,Aa]
   rw[if_neg (by simp[Al,Af,Ap,Ac];omega)]
   obtain⟨rfl,rfl,rfl,rfl,rfl,hs,hfit⟩:=hd
   rw[Bpe hs hfit A (by omega),Aa,if_neg (by rw[Ap,Ac];simp;omega)]
   exact h4
 have hO':¬(Di (Ac o) 64=true):=by rw[Ap,Ac];simp;omega
 rw[Dl,if_neg hO',if_pos (by decide),hr,Aa]
 rfl
end Go.Pl
set_option linter.unusedVariables false
set_option linter.unusedSimpArgs false
namespace Go.Pl
open Go Go.Lv
theorem Bul{o p:LB}{f c w r n:Int}{F C W R N:Nat}(hd:HdI f c w r n F C W R N)(ho:o.length≤64)(hp:p.length≤100000){g:LI}(ht:tabB g=true)(hl:g.length=(framesL (longN R) N).length){A:Nat}(hA:A<g.length){x:LB}{u:Bool}{v:Int}{y:LB}{e:Int}
  (h:Da o p f c w r n g (A:Int) x u v=some (y,e)) (he:e≠ -1):Cd e:=by
 have hlt2:A<(framesL (longN R) N).length:=by omega
 have hnum:=hd.num
 rw[tabB,Bool.and_eq_true,decide_eq_true_eq,Ai2 g 100000 (by omega)]at ht
 obtain⟨ht1,g5,gs⟩:=ht
 have h5:=g5 g[A] (List.getElem_mem hA)
 rw[Da,Fq,Cq hA,Aa]at h
 by_cases hw:(p.length:Int)<g[A]
 ·rw[if_pos (by rw[Af,Ac];simpa using hw)]at h
  cases h;exact absurd rfl he
 rw[if_neg (by rw[Af,Ac];simpa using hw)]at h
 obtain⟨m,hm,m1,m2⟩:=Aef (Vp R) hnum.2.2.2.2.1 (List.getElem_mem hlt2)
 have hb:Ct w:=by rw[hd.ew];unfold Ct;omega
 obtain⟨xs,e',d1,d2,d3,d4⟩:=Al1 (bits:=w) (ch:=C) (n:=m) (t:=Ang o) (p.take g[A].toNat) hb (Yf o) hnum.2.1.1 hnum.2.1.2 m1 (by omega)
 have hcd:=Bj0 hb (Yf o) hnum.2.1.1 hnum.2.1.2 m1 (by omega) d2
 rw[Ba3 o ho,Aa]at h
 simp only at h
 rw[Cp (by omega) (by omega),Aa,Gq,Aa]at h
 simp only at h
 rw[hd.Br7,Aa,Cq hlt2,Aa,Aa,hm,hd.ec]at h
 rw[d2,Aa]at h
 simp only at h
 rw[Fs,Fp]at h
 by_cases he:e'≠0
 ·rw[if_pos (by rw[Al];simpa using he)]at h
  cases h;exact hcd
 ·have he0:e'=0:=by simpa using he
  obtain⟨k1,k2,k3⟩:=d3 he0
  rw[if_neg (by rw[Al,he0];simp),Av5 hb k2 k1,Aa]at h
  cases h
  exact .inl rfl
theorem Btu{f c w r n:Int}{F C W R N:Nat}(hd:HdI f c w r n F C W R N){p:LB}(hp:p.length≤100000){A:Nat}(hA:A≤p.length){k:Int}{l:LI}{e:Int}(h:Dg p f c w r n (A:Int)=some (k,l,e))(he:e≠ -1):Cd e:=by
 obtain⟨_,t2,t3⟩:=Bgq hd [] p hp A hA 0 [] false 0
 rw[t2]at h
 by_cases h1:(Ie (p.drop A) (framesL (longN R) N).length).2=24
 ·rw[if_pos h1]at h
  cases h;exact absurd rfl he
 ·rw[if_neg h1]at h
  cases h
  exact Bzl _ (Bhl hd.fit)
theorem Bvl{f c w r n:Int}{F C W R N:Nat}(hd:HdI f c w r n F C W R N){o p:LB}(hp:p.length≤100000){k:Int}{l:LI}{e:Int}(h:Ej p f c w r n o=some (k,l,e))(he:e≠ -1):Cd e:=by
 rw[Ej,Hn]at h
 by_cases hf:geq f 2=true
 ·rw[if_pos hf]at h
  by_cases h8:p.length<8
  ·rw[if_pos (by rw[Af,Ac];simp;omega)]at h
   cases h;exact absurd rfl he
  ·have n1:¬(Bs (Ac p) 8=true):=by rw[Af,Ac];simp;omega
   rw[if_neg n1]at h
   obtain⟨z,hz,h⟩:=bnd h
   obtain⟨y,hy,h⟩:=bnd h
   by_cases hm:(z !=y)=true
   ·rw[if_pos hm]at h
    cases h;decide
   ·rw[if_neg hm]at h
    exact Btu hd hp (A:=8) (by omega) h he
 ·rw[if_neg hf]at h
  exact Btu hd hp (A:=0) (by omega) h he
theorem Cdu(p:LB):(stS p).2.2.2.2.2.2= -1∨Cd (stS p).2.2.2.2.2.2:=by
 unfold stS
 repeat' split
 ·exact .inl rfl
 ·exact .inr (Bi9 p)
 ·exact .inl rfl
 ·exact .inl rfl
 ·exact .inr (Bo1 _)
theorem Cao{o p:LB}{f c w r n:Int}{g:LI}{a:Int}{x:LB}{u:Bool}{v:Int}(hf:FitD o f c w r n g a x)(ho:o.length≤64)(hp':p.length≤100000){t1 t2:LB}{t3 t4 t5 t6 t7:Int}{t8:LI}{t9:Int}{t10:LB}{t11:Bool}{t12 e:Int}
  (h:cadenzaref37_take o p f c w r n g a x u v=some (t1,t2,t3,t4,t5,t6,t7,t8,t9,t10,t11,t12,e)) (he:e≠ -1):Cd e:=by
 have zero:¬(Ay (0:Int) 0=true):=by decide
 rw[cadenzaref37_take,Ck]at h
 cases hf with
 |new e1 e2 e3 e4 e5 e6 e7 e8=>
  subst e1 e6 e7 e8
  rw[if_pos (by decide),Yw p hp',Aa]at h
  have hcd:=Cdu p
  generalize stS p=z at h hcd
  obtain⟨z1,z2,z3,z4,z5,z6,z7⟩:=z
  simp only at h hcd
  by_cases hz:Ay z7 0=true
  ·rw[if_pos hz]at h
   simp only[Option.some.injEq,Prod.mk.injEq]at h
   obtain⟨-, -, -, -, -, -, -, -, -, -, -, -,rfl⟩:=h
   exact hcd.resolve_left he
  ·rw[if_neg hz]at h
   obtain⟨af,h1,h⟩:=bnd h
   rw[Ha,Gy,Dz]at h
   obtain⟨aw,h2,h⟩:=bnd h
   simp only[Option.some.injEq,Prod.mk.injEq]at h
   obtain⟨-, -, -, -, -, -, -, -, -, -, -, -,rfl⟩:=h
   split at h2
   ·cases h2;decide
   ·cases h2;decide
 |head F C W R N hd hpw e6 e7 e8=>
  subst e6 e7 e8
  have hfn:¬(geq f 0=true):=by rw[As];simpa using hd.fnz
  rw[if_neg hfn,Ci,Cj,if_pos (by decide)]at h
  obtain⟨⟨k,l,e1⟩,h1,h⟩:=bnd h
  simp only at h
  by_cases hz:Ay e1 0=true
  ·rw[if_pos hz]at h
   simp only[Option.some.injEq,Prod.mk.injEq]at h
   obtain⟨-, -, -, -, -, -, -, -, -, -, -, -,rfl⟩:=h
   exact Bvl hd hp' h1 he
  ·rw[if_neg hz]at h
   obtain⟨af,h2,h⟩:=bnd h
   simp only[Option.some.injEq,Prod.mk.injEq]at h
   obtain⟨-, -, -, -, -, -, -, -, -, -, -, -,rfl⟩:=h
   exact .inl rfl
 |tab F C W R N A hd hpw ht hl ea hA=>
  subst ea
  have hfn:¬(geq f 0=true):=by rw[As];simpa using hd.fnz
  have ht':=ht
  rw[tabB,Bool.and_eq_true,decide_eq_true_eq]at ht'
  have hgl:¬(geq (Ac g) 0=true):=by
   intro e
   rw[As,Ac]at e
   have hl1:=ht'.1.1
   simp only[beq_iff_eq,decide_eq_true_eq]at e
   omega
  rw[if_neg hfn,Ci,Cj,if_neg hgl]at h
  by_cases hend:geq (A:Int) (Ac g)=true
  ·rw[if_pos hend]at h
   by_cases hm:Di (Ac p) 4000=true
   ·rw[if_pos hm]at h
    simp only[Option.some.injEq,Prod.mk.injEq]at h
    obtain⟨-, -, -, -, -, -, -, -, -, -, -, -,rfl⟩:=h
    decide
   ·rw[if_neg hm]at h
    simp only[Option.some.injEq,Prod.mk.injEq]at h
    exact absurd h.2.2.2.2.2.2.2.2.2.2.2.2.symm he
  ·rw[if_neg hend]at h
   have hlt:A<g.length:=by
    rw[As,Ac]at hend
    simp only[beq_iff_eq]at hend
    omega
   obtain⟨⟨y,e1⟩,h1,h⟩:=bnd h
   simp only at h
   by_cases hz:Ay e1 0=true
   ·rw[if_pos hz]at h
    simp only[Option.some.injEq,Prod.mk.injEq]at h
    obtain⟨-, -, -, -, -, -, -, -, -, -, -, -,rfl⟩:=h
    exact Bul hd ho hp' ht hl hlt h1 he
   ·rw[if_neg hz]at h
    obtain⟨an,h2,h⟩:=bnd h
    obtain⟨ah,h3,h⟩:=bnd h
    obtain⟨ad,h4,h⟩:=bnd h
    obtain⟨ae,h5,h⟩:=bnd h
    simp only[Option.some.injEq,Prod.mk.injEq]at h
    obtain⟨-, -, -, -, -, -, -, -, -, -, -, -,rfl⟩:=h
    exact .inl rfl
theorem Cek{o:LB}{f c w r n:Int}{g:LI}{a:Int}{x:LB}(hf:FitD o f c w r n g a x)(hO:OutB f c w r n g a x):x.length≤12000:=by
 cases hf with
 |new e1 e2 e3 e4 e5 e6 e7 e8=>subst e8;simp
 |head F C W R N hd hpw e6 e7 e8=>subst e8;simp
 |tab F C W R N A hd hpw ht hl ea hA=>
  have hne:g≠ []:=by intro e;subst e;simp[tabB]at ht
  have h:=hO F C W R N A hd hne ea
  obtain⟨g1,g2,g3⟩:=Akq hd.shape hd.fit
  have b:=Awa g1 A
  have hnum:=hd.num
  have hw:=(Bpq (W:Int)).2
  have hN:N*C≤4000:=by
   have h1:=Nat.mul_le_mul_right C hnum.2.2.2.2.2.1
   have h2:=Nat.div_mul_le_self 4000 C
   omega
  have hs:((framesL (longN R) N).take A).sum.toNat≤N:=by omega
  rw[Zy]at h
  have hb:((framesL (longN R) N).take A).sum.toNat*(C*wB (W:Int))≤4000*3:=by
   have h1:=Nat.mul_le_mul_right (C*wB (W:Int)) hs
   have h2:=Nat.mul_le_mul hN hw
   rw[←Nat.mul_assoc N]at h1
   omega
  omega
theorem Buk{o x:LB}{e:Int}(ho:o.length≤64)(hx:x.length≤12000)(he:Cd e)(h0:0<e):Dl o [] 0 0 0 0 0 [] 0 x false e=some 0:=by
 have hO':¬(Di (Ac o) 64=true):=by rw[Ap,Ac];simp;omega
 have hX:Di (Ac x) 12000=false:=by rw[Ap,Ac];simp;omega
 rw[Dl,if_neg hO',if_neg (by rw[As];simp;omega),if_pos (by decide),hX,if_neg (by decide),if_pos (by rw[Al];simp;omega),if_neg (by decide)]
 obtain rfl|rfl|rfl|rfl|rfl|rfl|rfl|rfl:=he
 ·omega
 all_goals rfl
end Go.Pl
set_option linter.unusedVariables false
set_option linter.unusedSimpArgs false
namespace Go.Pl
open Go Go.Lv
theorem Bkj:∀(k q1 q2:Nat) (o p:LB) (f c w r n:Int) (g:LI) (a:Int) (x:LB) (u:Bool) (v:Int),FitD o f c w r n g a x→o.length≤64→SzD p g a x→muD f g a<k→k≤q1→k≤q2→
  Ba q1 o p f c w r n g a x u v=Ba q2 o p f c w r n g a x u v
 |0,_,_,_,_,_,_,_,_,_,_,_,_,_,_,_,_,_,h,_,_=>by omega
 |k+1,q1,q2,o,p,f,c,w,r,n,g,a,x,u,v,hf,ho,hZ,hm,h1,h2=>by
  obtain⟨q1,rfl⟩:∃q,q1=q+1:=⟨q1-1,by omega⟩
  obtain⟨q2,rfl⟩:∃q,q2=q+1:=⟨q2-1,by omega⟩
  rw[Ba,Ba,Cr,Cr]
  have hS:StepR (Aq o u v q1) o p f c w r n g a x u v:=Bgj hf ho hZ
  cases hS with
  |wait hF hT=>
   rw[hT,Aa,Aa]
   simp only
   rw[if_pos (by decide),if_pos (by decide)]
  |err e he hF hT=>
   rw[hT,Aa,Aa]
   simp only
   rw[if_neg (by rw[Aux (by omega)];decide),if_pos (by rw[Al];simp;omega),if_neg (by rw[Aux (by omega)];decide),if_pos (by rw[Al];simp;omega)]
  |next p' f' c' w' r' n' g' a' x' hF hT hf' hZ' hle hmu=>
   rw[hT,Aa,Aa]
   simp only
   rw[if_neg (by decide),if_neg (by decide),if_neg (by decide),if_neg (by decide)]
   exact Bkj k q1 q2 o p' f' c' w' r' n' g' a' x' u v hf' ho hZ' (by omega) (by omega) (by omega)
structure Wt (o p:LB) (f c w r n:Int) (g:LI) (a:Int) (x:LB):Prop where
 fit:FitD o f c w r n g a x
 sz:SzD p g a x
 out:OutB f c w r n g a x
 wait:cadenzaref37_take o p f c w r n g a x false 0=some (o,p,f,c,w,r,n,g,a,x,false,0, -1)
abbrev loopR(q:Nat)(o p:LB)(f c w r n:Int)(g:LI)(a:Int)(x:LB):=Ba q o p f c w r n g a x false 0
theorem Bpy:∀(k q:Nat) (o p:LB) (f c w r n:Int) (g:LI) (a:Int) (x:LB),FitD o f c w r n g a x→o.length≤64→SzD p g a x→OutB f c w r n g a x→p.length≤100000→muD f g a<k→k≤q→
  (∃(t2:LB) (t3 t4 t5 t6 t7:Int) (t8:LI) (t9:Int) (t10:LB),loopR q o p f c w r n g a x=some (o,t2,t3,t4,t5,t6,t7,t8,t9,t10,false,0,0)∧Wt o t2 t3 t4 t5 t6 t7 t8 t9 t10∧t2.length≤p.length∧muD t3 t8 t9<k∧
   ∀b:LB,(p++b).length≤100000→loopR q o (p++b) f c w r n g a x=loopR q o (t2++b) t3 t4 t5 t6 t7 t8 t9 t10)∨
  (∃(x':LB) (e:Int),0<e∧Cd e∧x'.length≤12000∧∀b:LB,(p++b).length≤100000→loopR q o (p++b) f c w r n g a x=some (o,[],0,0,0,0,0,[],0,x',false,e,e))
 |0,_,_,_,_,_,_,_,_,_,_,_,_,_,_,_,_,h,_=>by omega
 |k+1,q,o,p,f,c,w,r,n,g,a,x,hf,ho,hZ,hO,hp,hm,h1=>by
  obtain⟨q,rfl⟩:∃q',q=q'+1:=⟨q-1,by omega⟩
  have hx:x.length≤13000000:=by have:=hZ.hx;omega
  have hS:StepR (Aq o false 0 q) o p f c w r n g a x false 0:=Bgj hf ho hZ
  cases hS with
  |wait hF hT=>
   refine .inl ⟨p,f,c,w,r,n,g,a,x,?_,⟨hf,hZ,hO,hT⟩,Nat.le_refl _,hm,fun b _=>rfl⟩
   rw[loopR,Ba,Cr,hT,Aa]
   simp only
   rw[if_pos (by decide),Alq hZ.hp (by have:=hZ.hg;omega) hx,Aa]
  |err e he hF hT=>
   refine .inr ⟨x,e,he,Cao hf ho hp hT (by omega),Cek hf hO,fun b hL=>?_⟩
   obtain⟨s1,s2,s3,s4,s5,s6,s7,s8,s9,s10,s11,s12,hs⟩:=(Avo b hf hL hT (by omega)).2 (by omega)
   rw[loopR,Ba,Cr,hs,Aa]
   simp only
   rw[if_neg (by rw[Aux (by omega)];decide),if_pos (by rw[Al];simp;omega),Ayu hx,Aa]
  |next p' f' c' w' r' n' g' a' x' hF hT hf' hZ' hle hmu=>
   have hp':p'.length≤100000:=by omega
   rcases Bpy k q o p' f' c' w' r' n' g' a' x' hf' ho hZ' (Bzk hf ho hZ hO hT) hp' (by omega) (by omega)with⟨t2,t3,t4,t5,t6,t7,t8,t9,t10,k1,k2,k3,k4,k5⟩|⟨x2,e,k1,k2,k3,k4⟩
   ·refine .inl ⟨t2,t3,t4,t5,t6,t7,t8,t9,t10,?_,k2,by omega,by omega,fun b hL=>?_⟩
    ·rw[loopR,Ba,Cr,hT,Aa]
     simp only
     rw[if_neg (by decide),if_neg (by decide)]
     exact k1
    ·have hs:=(Avo b hf hL hT (by decide)).1 rfl
     have hL':(p'++b).length≤100000:=by rw[List.length_append]at hL⊢;omega
     rw[loopR,Ba,Cr,hs,Aa]
     simp only
     rw[if_neg (by decide),if_neg (by decide)]
     refine(k5 b hL').trans ?_
     exact Bkj k q (q+1) o (t2++b) t3 t4 t5 t6 t7 t8 t9 t10 false 0 k2.fit ho ⟨by rw[List.length_append]at hL⊢;omega,k2.sz.hg,k2.sz.hx⟩ k4 (by omega) (by omega)
   ·refine .inr ⟨x2,e,k1,k2,k3,fun b hL=>?_⟩
    have hs:=(Avo b hf hL hT (by decide)).1 rfl
    have hL':(p'++b).length≤100000:=by rw[List.length_append]at hL⊢;omega
    rw[loopR,Ba,Cr,hs,Aa]
    simp only
    rw[if_neg (by decide),if_neg (by decide)]
    exact k4 b hL'
end Go.Pl
set_option linter.unusedVariables false
set_option linter.unusedSimpArgs false
namespace Go.Pl
open Go Go.Lv
abbrev Fd(o s:LB):=loopR FUEL o s 0 0 0 0 0 [] 0 []
inductive Bh (o s:LB):LB→Int→Int→Int→Int→Int→LI→Int→LB→Int→Prop
 |wt {p:LB} {f c w r n:Int} {g:LI} {a:Int} {x:LB}:Wt o p f c w r n g a x→p.length≤s.length→(∀b:LB,(s++b).length≤100000→Fd o (s++b)=loopR FUEL o (p++b) f c w r n g a x)→Bh o s p f c w r n g a x 0
 |er {x:LB} {e:Int}:0<e→Cd e→x.length≤12000→(∀b:LB,(s++b).length≤100000→Fd o (s++b)=some (o,[],0,0,0,0,0,[],0,x,false,e,e))→Bh o s [] 0 0 0 0 0 [] 0 x e
variable {o s p:LB} {f c w r n:Int} {g:LI} {a:Int} {x:LB} {e:Int}
theorem Wt.stop(W:Wt o p f c w r n g a x):loopR FUEL o p f c w r n g a x=some (o,p,f,c,w,r,n,g,a,x,false,0,0):=by
 obtain⟨q,hq⟩:∃q,FUEL=q+1:=⟨FUEL-1,by have:=Am;omega⟩
 have hx:x.length≤13000000:=by have:=W.sz.hx;omega
 rw[loopR,hq,Ba,Cr,W.wait,Aa]
 simp only
 rw[if_pos (by decide),Alq W.sz.hp (by have:=W.sz.hg;omega) hx,Aa]
theorem Bh.fd(h:Bh o s p f c w r n g a x e)(hs:s.length≤100000):Fd o s=some (o,p,f,c,w,r,n,g,a,x,false,e,e):=by
 cases h with
 |wt W hl hb=>
  have:=hb [] (by simpa using hs)
  rw[List.append_nil,List.append_nil]at this
  rw[this,W.stop]
 |er h0 hc hx hb=>
  have:=hb [] (by simpa using hs)
  rw[List.append_nil]at this
  exact this
theorem Bh.new(ho:o.length≤64):Bh o [] [] 0 0 0 0 0 [] 0 [] 0:=by
 refine .wt ⟨.new rfl rfl rfl rfl rfl rfl rfl rfl,⟨by simp,by simp,by simp⟩,OutB.nil,?_⟩ (Nat.le_refl _) fun b _=>rfl
 rw[cadenzaref37_take,Ck,if_pos (by decide),Yw [] (by simp),Aa]
 rfl
theorem Cbf(ho:o.length≤64)(W:Wt o p f c w r n g a x)(b:LB)(hp:p.length≤20000)(hb:b.length≤20000):
  Px o p f c w r n g a x false 0 b=loopR FUEL o (p++b) f c w r n g a x∧Gc o p f c w r n g a x false 0 b=loopR FUEL o (p++b) f c w r n g a x:=by
 have hR:Gc o p f c w r n g a x false 0 b=loopR FUEL o (p++b) f c w r n g a x:=by
  have hx:x.length≤13000000:=by have:=W.sz.hx;omega
  have hg:g.length≤2000:=by have:=W.sz.hg;omega
  have hE:¬(Ay (0:Int) 0=true):=by decide
  have hF:¬(false=true):=by decide
  rw[Gc,Nd,Bf2 W.fit ho W.out W.wait,Aa,if_neg hE,Alq (by omega) hg hx,Aa]
  simp only
  rw[Hc]
  repeat (first|rw[Aa]|rw[if_neg hE]|rw[if_neg hF])
  rw[Cm (by omega),Aa]
  rfl
 obtain⟨t1,t2,t3,t4,t5,t6,t7,t8,t9,t10,t11,t12,e,h1,h2,_⟩:=Cdf ho W.fit W.sz b hp hb
 exact⟨h1.trans (h2.symm.trans hR),hR⟩
theorem Bh.check(ho:o.length≤64)(h:Bh o s p f c w r n g a x e)(hp:p.length≤100000):Od o p f c w r n g a x false e=some 0∧Dl o p f c w r n g a x false e=some 0:=by
 have key:Dl o p f c w r n g a x false e=some 0∧g.length≤1000∧x.length≤13000000:=by
  cases h with
  |wt W hl hb=>exact⟨Bf2 W.fit ho W.out W.wait,W.sz.hg,by have:=W.sz.hx;omega⟩
  |er h0 hc hx hb=>exact⟨Buk ho hx hc h0,by simp,by omega⟩
 obtain⟨k1,k2,k3⟩:=key
 obtain⟨E,e1,e2⟩:=Bh7 o p f c w r n g a x false e hp (by omega) (by omega)
 rw[k1]at e2
 cases e2
 exact⟨e1,k1⟩
theorem Bh.feed(ho:o.length≤64)(h:Bh o s p f c w r n g a x e)(hp:p.length≤20000)(b:LB)(hb:b.length≤20000)(hs:(s++b).length≤100000):
  ∃(p':LB) (f' c' w' r' n':Int) (g':LI) (a':Int) (x':LB) (e':Int),Px o p f c w r n g a x false e b=some (o,p',f',c',w',r',n',g',a',x',false,e',e')∧
   Gc o p f c w r n g a x false e b=some (o,p',f',c',w',r',n',g',a',x',false,e',e')∧Bh o (s++b) p' f' c' w' r' n' g' a' x' e':=by
 have hck:=h.check ho (by omega)
 cases h with
 |wt W hl hB=>
  obtain⟨h1,h2⟩:=Cbf ho W b hp hb
  have hpb:(p++b).length≤100000:=by rw[List.length_append];omega
  have hZ:SzD (p++b) g a x:=⟨hpb,W.sz.hg,W.sz.hx⟩
  rcases Bpy 1004 FUEL o (p++b) f c w r n g a x W.fit ho hZ W.out hpb (Byi hZ) (by have:=Am;omega)with⟨t2,t3,t4,t5,t6,t7,t8,t9,t10,k1,k2,k3,k4,k5⟩|⟨x2,e,k1,k2,k3,k4⟩
  ·refine⟨t2,t3,t4,t5,t6,t7,t8,t9,t10,0,h1.trans k1,h2.trans k1, .wt k2 ?_ fun b2 hL=>?_⟩
   ·rw[List.length_append]at k3⊢;omega
   ·rw[List.append_assoc,hB (b++b2) (by rw[←List.append_assoc];exact hL),←List.append_assoc]
    refine k5 b2 ?_
    rw[List.length_append,List.length_append]at hL⊢;omega
  ·have k4':=k4 [] (by simpa using hpb)
   rw[List.append_nil]at k4'
   refine⟨_,_,_,_,_,_,_,_,_,_,h1.trans k4',h2.trans k4', .er k1 k2 k3 fun b2 hL=>?_⟩
   rw[List.append_assoc,hB (b++b2) (by rw[←List.append_assoc];exact hL),←List.append_assoc]
   refine k4 b2 ?_
   rw[List.length_append,List.length_append]at hL⊢;omega
 |er h0 hc hx hB=>
  have hne:Ay e 0=true:=by rw[Al];simp;omega
  refine⟨_,_,_,_,_,_,_,_,_,_,?_,?_, .er h0 hc hx fun b2 hL=>?_⟩
  ·rw[Px,Xv,Bfr (by simp) (by simp) (by omega) hck.1,if_neg (by decide),Aa]
   simp only
   rw[if_pos (show e≠0 by omega),if_pos hne]
  ·rw[Gc,Nd,hck.2,Aa,if_neg (by decide),Alq (by simp) (by simp) (by omega),Aa]
   simp only
   rw[Hc,if_pos hne,Aa,if_pos hne]
  ·rw[List.append_assoc]
   exact hB (b++b2) (by rw[←List.append_assoc];exact hL)
end Go.Pl
set_option linter.unusedVariables false
set_option linter.unusedSimpArgs false
namespace Go.Pl
open Go Go.Lv
theorem Cb4:Qw=some true:=by kernel_rfl
end Go.Pl
set_option linter.unusedVariables false
set_option linter.unusedSimpArgs false
namespace Go.Pl
open Go Go.Lv
def Sj(ns:List Nat):List Int:=List.map Int.ofNat ns
theorem Aec(ns:List Nat):(Sj ns).length=ns.length:=by simp[Sj]
theorem Bca{ns:List Nat}{i:Nat}(h:i<ns.length):Go.Lv.Ak (Sj ns) (i:Int)=some ((ns[i]:Nat):Int):=by
 rw[Cq (by rw[Aec];exact h)]
 simp[Sj]
def Ba6:List Nat→Nat|[]=>0|n::l=>n+Ba6 l
theorem Bpl{ns:List Nat}{i:Nat}(h:i<ns.length):Ba6 (ns.drop i)=ns[i]+Ba6 (ns.drop (i+1)):=by
 rw[List.drop_eq_getElem_cons h];rfl
theorem Bm6(b:LB)(ns:List Nat)(hb:b.length≤10000)(hn:ns.length≤10000):∀(r i s q1 q2:Nat) (o p:LB) (f c w rr n:Int) (g:LI) (a:Int) (x:LB),o.length≤64→FitD o f c w rr n g a x→SzD p g a x→p.length≤s→i+r=ns.length→s+Ba6 (ns.drop i)≤b.length→r<q1→r<q2→
  ∃R,Iy (Sj ns) q1 (b.drop s) (i:Int) o f c w rr n a x false 0 p g=some R∧Lc b (Sj ns) q2 (s:Int) (i:Int) o f c w rr n a false 0 p g x=some R
 |r,i,s,0,q2,_,_,_,_,_,_,_,_,_,_,_,_,_,_,_,_,h,_=>absurd h (Nat.not_lt_zero _)
 |r,i,s,q1,0,_,_,_,_,_,_,_,_,_,_,_,_,_,_,_,_,_,h=>absurd h (Nat.not_lt_zero _)
 |r,i,s,q1+1,q2+1,o,p,f,c,w,rr,n,g,a,x,ho,hf,hZ,hps,hi,hs,h1,h2=>by
  simp only[Iy,Vh,Lc,Abk]
  have hx:x.length≤13000000:=by have:=hZ.hx;omega
  have hg:g.length≤2000:=by have:=hZ.hg;omega
  cases r with
  |zero=>
   have hN:¬(Bs (i:Int) (Ac (Sj ns))=true):=by simp[Bs,GI.toZ,Ac,Aec];omega
   rw[if_neg hN,if_neg hN]
   obtain⟨t1,t2,t3,t4,t5,t6,t7,t8,t9,t10,t11,t12,e,d1,d2,_⟩:=Bpt (o:=o) (p:=p) (f:=f) (c:=c) (w:=w) (r:=rr) (n:=n) (g:=g) (a:=a) (x:=x) (u:=false) (v:=0) (by omega) hg hx
   simp only[Tr,Ac9,Aai,Zr]
   rw[d1,d2,Aa]
   exact⟨_,rfl,rfl⟩
  |succ r=>
   have hlt:i<ns.length:=by omega
   have hN:Bs (i:Int) (Ac (Sj ns))=true:=by simp[Bs,GI.toZ,Ac,Aec];omega
   have hsd:=Bpl hlt
   rw[if_pos hN,if_pos hN,Bca hlt]
   simp only[Aa]
   have hlen:(b.drop s).length=b.length-s:=List.length_drop
   have e1:Ae (s:Int) ((ns[i]:Nat):Int)=((s+ns[i]:Nat):Int):=by rw[Aj (by omega) (by omega)];omega
   have c1:Bc (b.drop s) 0 ((ns[i]:Nat):Int)=some ((b.drop s).take ns[i]):=by rw[Cp (by omega) (by omega)];simp
   have c2:Bc b (s:Int) ((s+ns[i]:Nat):Int)=some ((b.drop s).take ns[i]):=by
    rw[Aee (by omega) (by omega) (by omega)]
    simp only[Int.toNat_natCast,List.drop_take,Nat.add_sub_cancel_left]
   rw[e1,c1,c2,Aa,Aa]
   have htl:((b.drop s).take ns[i]).length=ns[i]:=by rw[List.length_take];omega
   obtain⟨t1,t2,t3,t4,t5,t6,t7,t8,t9,t10,t11,t12,e,d1,d2,d3,d4⟩:=Cdf ho hf hZ ((b.drop s).take ns[i]) (by omega) (by omega)
   rw[d1,d2,Aa,Aa]
   simp only[Td,Aa6,Ac3,Ace]
   by_cases he:e=0
   ·obtain⟨rfl,k2,k3,k4,rfl,rfl⟩:=d4 he
    have hE:¬(Ay e 0=true):=by rw[he];decide
    have e2:Ae (i:Int) 1=((i+1:Nat):Int):=by rw[Aj (by omega) (by omega)];omega
    have c3:Bc (b.drop s) ((ns[i]:Nat):Int) (Ac (b.drop s))=some (b.drop (s+ns[i])):=by
     rw[Cy (by omega) (by omega)]
     simp only[Int.toNat_natCast,List.drop_drop]
    rw[if_neg hE,if_neg hE,c3,Aa,Bca hlt,Aa,e1,e2]
    exact Bm6 b ns hb hn r (i+1) (s+ns[i]) q1 q2 t1 t2 t3 t4 t5 t6 t7 t8 t9 t10 ho k3 k4 (by rw[htl]at k2;omega) (by omega) (by omega) (by omega) (by omega)
   ·have hE:Ay e 0=true:=by rw[Al];simpa using he
    rw[if_pos hE,if_pos hE]
    exact⟨_,rfl,rfl⟩
theorem Bzt(o b:LB)(ns:List Nat)(hb:b.length≤10000)(hn:ns.length≤10000)(hs:Ba6 ns≤b.length):∃R,Jj o b (Sj ns)=some R∧Aix o b (Sj ns)=some R:=by
 rw[Jj,Vf,Aix,Aan,Aaa,Ap0]
 by_cases ho:o.length≤64
 ·have hO:¬(Di (Ac o) 64=true):=by rw[Ap,Ac];simp;omega
  rw[if_neg hO,Aa,Aa]
  simp only
  have hE:¬(Ay (0:Int) 0=true):=by decide
  rw[if_neg hE,if_neg hE]
  exact Bm6 b ns hb hn ns.length 0 0 FUEL FUEL o [] 0 0 0 0 0 [] 0 [] ho (.new rfl rfl rfl rfl rfl rfl rfl rfl) ⟨by simp,by simp,by simp⟩ (Nat.le_refl _) (Nat.zero_add _) (by rw[List.drop_zero,Nat.zero_add];exact hs) (by have:=Am;omega) (by have:=Am;omega)
 ·have hO:Di (Ac o) 64=true:=by rw[Ap,Ac];simp;omega
  rw[if_pos hO,Aa,Aa]
  exact⟨_,rfl,rfl⟩
end Go.Pl
set_option linter.unusedVariables false
set_option linter.unusedSimpArgs false
namespace Go.Pl
open Go Go.Lv
def Bhp(at_ w len:Nat):Nat→Nat→Nat→List Nat
 |0,_,fr=>[len-fr]
 |r+1,i,fr=>if w.testBit i=true then(at_+i+1-fr)::Bhp at_ w len r (i+1) (at_+i+1)else Bhp at_ w len r (i+1) fr
theorem Bhv(at_ w len:Nat):∀(r i fr:Nat),fr≤at_+i→at_+i+r≤len→Ba6 (Bhp at_ w len r i fr)=len-fr
 |0,i,fr,h,h1=>by simp[Bhp,Ba6]
 |r+1,i,fr,h,h1=>by
  rw[Bhp]
  split
  ·rw[Ba6,Bhv at_ w len r (i+1) _ (by omega) (by omega)];omega
  ·rw[Bhv at_ w len r (i+1) _ (by omega) (by omega)]
theorem Be7(at_ w len:Nat):∀(r i fr:Nat),(Bhp at_ w len r i fr).length≤r+1
 |0,i,fr=>by simp[Bhp]
 |r+1,i,fr=>by
  rw[Bhp]
  split
  ·rw[List.length_cons];have:=Be7 at_ w len r (i+1) (at_+i+1);omega
  ·have:=Be7 at_ w len r (i+1) fr;omega
theorem Bj2(a b:List Nat):Sj (a++b)=Sj a++Sj b:=by simp[Sj]
theorem Cg7(w i:Nat)(hw:w<256)(hi:i<8):geq (Dq (Bd6 (w:Int) (GI.toZ (i:Int)).toNat) 1) (1:Int)=w.testBit i:=by
 have h:∀w:Fin 256,∀i:Fin 8,geq (Dq (Bd6 ((w:Nat):Int) (GI.toZ ((i:Nat):Int)).toNat) 1) (1:Int)=(w:Nat).testBit (i:Nat):=by decide +kernel
 exact h ⟨w,hw⟩ ⟨i,hi⟩
section
variable {o b:LB} {at_ n:Nat} {h:LB} {k:Int}
def Byz(bk:Int→Int→Ce)(o b:LB)(at_ n:Nat)(h:LB)(k:Int)(oth:Int)(w:Nat)(L:List Nat):Ce:=
 (Jj o b (Sj L)).bind fun(aa,ab)=>
  if(Ay ab k)then Mz bk o b (at_:Int) (n:Int) h k (w:Int) (Ae oth 1)
  else(Ff aa h).bind fun ac=>if(!ac)then Mz bk o b (at_:Int) (n:Int) h k (w:Int) (Ae oth 1)else Mz bk o b (at_:Int) (n:Int) h k (w:Int) oth
theorem Cei(bk:Int→Int→Ce)(oth:Int)(w:Nat)(hw:w<256)(hn:n≤8)(hl:at_+n≤b.length)(hb:b.length≤10000):∀(r i fr q:Nat) (acc:List Nat),r+i=n→fr≤at_+i→acc.length≤i→r<q→
  My bk o b (at_:Int) (n:Int) h k oth (w:Int) q (fr:Int) (i:Int) (Sj acc)=Byz bk o b at_ n h k oth w (acc++Bhp at_ w b.length r i fr)
 |r,i,fr,0,acc,_,_,_,hq=>absurd hq (Nat.not_lt_zero _)
 |0,i,fr,q+1,acc,hi,hf,ha,hq=>by
  simp only[My,Xz]
  rw[if_neg (by simp[Bs,GI.toZ];omega)]
  simp only[Ag9,Ahz]
  have e1:Ah (Ac b) (fr:Int)=((b.length-fr:Nat):Int):=by unfold Ac;rw[Bp (by omega) (by omega)];omega
  rw[e1,Cm (by rw[Aec];simp;omega),Aa,Byz,Bhp,Bj2]
  rfl
 |r+1,i,fr,q+1,acc,hi,hf,ha,hq=>by
  simp only[My,Xz]
  have e0:Il (i:Int) 0=true:=by simp[Il,GI.toZ]
  have e1:Ae (Ae (at_:Int) (i:Int)) 1=((at_+i+1:Nat):Int):=by rw[show Ae (at_:Int) (i:Int)=((at_+i:Nat):Int) by rw[Aj (by omega) (by omega)];omega,Aj (by omega) (by omega)];omega
  have e2:Ah ((at_+i+1:Nat):Int) (fr:Int)=((at_+i+1-fr:Nat):Int):=by rw[Bp (by omega) (by omega)];omega
  have e3:Ae (i:Int) 1=((i+1:Nat):Int):=by rw[Aj (by omega) (by omega)];omega
  rw[if_pos (by simp[Bs,GI.toZ];omega),e0,Cgm,Aa,Cg7 w i hw (by omega),e1,e2,e3,Bhp]
  by_cases hbit:w.testBit i=true
  ·rw[if_pos hbit,if_pos hbit,Cm (by rw[Aec];simp;omega),Aa]
   have e4:Sj acc++[((at_+i+1-fr:Nat):Int)]=Sj (acc++[at_+i+1-fr]):=by rw[Bj2];rfl
   rw[e4,Cei bk oth w hw hn hl hb r (i+1) (at_+i+1) q _ (by omega) (by omega) (by simp;omega) (by omega),List.append_assoc]
   rfl
  ·rw[if_neg hbit,if_neg hbit,Cei bk oth w hw hn hl hb r (i+1) fr q acc (by omega) (by omega) (by omega) (by omega)]
end
end Go.Pl
set_option linter.unusedVariables false
set_option linter.unusedSimpArgs false
namespace Go.Pl
open Go Go.Lv
theorem Bh.len{o s p:LB}{f c w r n:Int}{g:LI}{a:Int}{x:LB}{e:Int}(h:Bh o s p f c w r n g a x e):p.length≤s.length∧g.length≤1000∧x.length≤13000000:=by
 cases h with
 |wt W hl hb=>exact⟨hl,W.sz.hg,by have:=W.sz.hx;omega⟩
 |er h0 hc hx hb=>exact⟨by simp,by simp,by omega⟩
def Bh5(o b:LB):Option (LB×Int):=(Fd o b).bind fun(t1,t2,t3,t4,t5,t6,t7,t8,t9,t10,t11,t12,e)=>if Ay e 0 then some (t10,e)else(Ux t1 t2 t3 t4 t5 t6 t7 t8 t9 t10 t11 t12).bind fun(_,_,_,_,_,_,_,_,_,y,_,_,k)=>some (y,k)
theorem Bh.whole{o b p:LB}{f c w r n:Int}{g:LI}{a:Int}{x:LB}{e:Int}(ho:o.length≤64)(hb:b.length≤100000){s:Nat}(h:Bh o (b.take s) p f c w r n g a x e)(h0:e≠0):Bh5 o b=some (x,e):=by
 cases h with
 |wt W hl hB=>exact absurd rfl h0
 |er h1 hc hx hB=>
  have:=hB (b.drop s) (by rw[List.take_append_drop];exact hb)
  rw[List.take_append_drop]at this
  rw[Bh5,this,Aa]
  simp only
  rw[if_pos (by rw[Al];simp;omega)]
theorem Bwt(o b:LB)(ho:o.length≤64)(ns:List Nat)(hb:b.length≤10000)(hn:ns.length≤10000):∀(r i s q:Nat) (p:LB) (f c w rr n:Int) (g:LI) (a:Int) (x:LB),Bh o (b.take s) p f c w rr n g a x 0→i+r=ns.length→s+Ba6 (ns.drop i)=b.length→r<q→
  Iy (Sj ns) q (b.drop s) (i:Int) o f c w rr n a x false 0 p g=Bh5 o b
 |r,i,s,0,_,_,_,_,_,_,_,_,_,_,_,_,h=>absurd h (Nat.not_lt_zero _)
 |r,i,s,q+1,p,f,c,w,rr,n,g,a,x,hB,hi,hs,hq=>by
  have hlen:=hB.len
  have hpl:p.length≤10000:=by have:=hlen.1;rw[List.length_take]at this;omega
  rw[Iy,Vh]
  cases r with
  |zero=>
   have hN:¬(Bs (i:Int) (Ac (Sj ns))=true):=by rw[Af,Ac,Aec];simp;omega
   have hd:ns.drop i=[]:=List.drop_eq_nil_of_le (by omega)
   rw[hd,Ba6,Nat.add_zero]at hs
   rw[hs,List.take_length]at hB
   rw[if_neg hN,Tr,Ac9,Bh5,hB.fd (by omega),Aa]
   rfl
  |succ r=>
   have hlt:i<ns.length:=by omega
   have hN:Bs (i:Int) (Ac (Sj ns))=true:=by rw[Af,Ac,Aec];simp;omega
   have hsd:=Bpl hlt
   rw[if_pos hN,Bca hlt]
   simp only[Aa]
   have hln:(b.drop s).length=b.length-s:=List.length_drop
   have c1:Bc (b.drop s) 0 ((ns[i]:Nat):Int)=some ((b.drop s).take ns[i]):=by rw[Cp (by omega) (by omega)];simp
   have e4:b.take s++(b.drop s).take ns[i]=b.take (s+ns[i]):=by rw[List.take_add]
   obtain⟨p2,f2,c2,w2,r2,n2,g2,a2,x2,e3,d1,_,d3⟩:=hB.feed ho (by omega) ((b.drop s).take ns[i]) (by rw[List.length_take];omega) (by rw[e4,List.length_take];omega)
   rw[e4]at d3
   rw[c1,Aa,d1,Aa]
   simp only[Td,Aa6]
   by_cases he:e3=0
   ·subst he
    have e2:Ae (i:Int) 1=((i+1:Nat):Int):=by rw[Aj (by omega) (by omega)];omega
    have c3:Bc (b.drop s) ((ns[i]:Nat):Int) (Ac (b.drop s))=some (b.drop (s+ns[i])):=by
     rw[Cy (by omega) (by omega)]
     simp only[Int.toNat_natCast,List.drop_drop]
    rw[if_neg (by decide),c3,Aa,e2]
    exact Bwt o b ho ns hb hn r (i+1) (s+ns[i]) q p2 f2 c2 w2 r2 n2 g2 a2 x2 d3 (by omega) (by omega) (by omega)
   ·rw[if_pos (by rw[Al];simpa using he),d3.whole ho (by omega) he]
theorem Bk7(o b:LB)(ho:o.length≤64)(ns:List Nat)(hb:b.length≤10000)(hn:ns.length≤10000)(hs:Ba6 ns=b.length):Jj o b (Sj ns)=Bh5 o b:=by
 have hO:¬(Di (Ac o) 64=true):=by rw[Ap,Ac];simp;omega
 rw[Jj,Vf,Aaa,if_neg hO,Aa]
 simp only
 rw[if_neg (by decide)]
 exact Bwt o b ho ns hb hn ns.length 0 0 FUEL [] 0 0 0 0 0 [] 0 [] (by rw[List.take_zero];exact Bh.new ho) (by omega) (by rw[List.drop_zero];omega) (by have:=Am;omega)
theorem Bw6(o b:LB)(hb:b.length≤10000):∃R,Bh5 o b=some R∨64<o.length:=by
 by_cases ho:o.length≤64
 ·obtain⟨R,h,_⟩:=Bzt o b [b.length] hb (by simp) (by simp[Ba6])
  rw[Bk7 o b ho [b.length] hb (by simp) (by simp[Ba6])]at h
  exact⟨R, .inl h⟩
 ·exact⟨([],0), .inr (by omega)⟩
section
variable {o b:LB} {at_ n:Nat} {h:LB} {k:Int} (ho:o.length≤64) (hA:Bh5 o b=some (h,k))
include ho hA
theorem Bkl(hn:n≤8)(hl:at_+n≤b.length)(hb:b.length≤10000):∀(r w q1:Nat),r+w=2^n→r<q1→
  Na o b (at_:Int) (n:Int) h k q1 0 (w:Int)=some (0,0)
 |r,w,0,_,hq=>absurd hq (Nat.not_lt_zero _)
 |r,w,q1+1,hr,h1=>by
  have hp:2^n≤256:=by have:2^n≤2^8:=Nat.pow_le_pow_right (by omega) hn;omega
  have esh:Df (1:Int) (GI.toZ (n:Int)).toNat=((2^n:Nat):Int):=by
   have hh:∀n:Fin 9,Df (1:Int) (GI.toZ ((n:Nat):Int)).toNat=((2^(n:Nat):Nat):Int):=by decide +kernel
   exact hh ⟨n,by omega⟩
  simp only[Na,Aht]
  rw[esh]
  cases r with
  |zero=>
   have hN:¬(Bs (w:Int) ((2^n:Nat):Int)=true):=by simp only[Bs,GI.toZ,decide_eq_true_eq];omega
   rw[if_neg hN]
   rfl
  |succ r=>
   have hN:Bs (w:Int) ((2^n:Nat):Int)=true:=by simp only[Bs,GI.toZ,decide_eq_true_eq];omega
   rw[if_pos hN,Ag6]
   have hP:=Cei (o:=o) (b:=b) (at_:=at_) (n:=n) (h:=h) (k:=k) (Na o b (at_:Int) (n:Int) h k q1) 0 w (by omega) hn hl hb n 0 0 FUEL [] (by omega) (by omega) (by simp) (by have:=Am;omega)
   rw[show((0:Nat):Int)=0 from rfl,show Sj []=[]from rfl,List.nil_append]at hP
   rw[hP,Byz,Bk7 o b ho _ hb (by have:=Be7 at_ w b.length n 0 0;omega) (by rw[Bhv _ _ _ _ _ _ (by omega) (by omega)];omega),hA,Aa]
   simp only
   have e1:Ae (w:Int) 1=((w+1:Nat):Int):=by rw[Aj (by omega) (by omega)];omega
   rw[if_neg (by rw[Al];simp),Ff,Aa,if_neg (by simp),Mz,Asw,e1]
   exact Bkl hn hl hb r (w+1) q1 (by omega) (by omega)
end
theorem Bv0(hal:Qw=some true)(o b:LB)(at_ n:Int):Jv o b at_ n=some true:=by
 rw[Jv,hal,Aa]
 by_cases hc:((((((((Di (Ac o) 64)||(Di (Ac b) 400))||(Bs n 0))||(Di n 8))||(Bs at_ 0))||(Di at_ (Ac b)))||(Di n (Ah (Ac b) at_)))||(!true))=true
 ·rw[if_pos hc]
 ·rw[if_neg hc]
  simp only[Bool.or_eq_true,not_or,Ap,Af,Ac,decide_eq_true_eq]at hc
  obtain⟨⟨⟨⟨⟨⟨⟨c1,c2⟩,c3⟩,c4⟩,c5⟩,c6⟩,c7⟩,_⟩:=hc
  obtain⟨N,rfl⟩:=Int.eq_ofNat_of_zero_le (by omega:0≤n)
  obtain⟨A,rfl⟩:=Int.eq_ofNat_of_zero_le (by omega:0≤at_)
  rw[Bp (by omega) (by omega)]at c7
  have ho:o.length≤64:=by omega
  obtain⟨⟨h,k⟩,hR|hR⟩:=Bw6 o b (by omega)
  ·have h1:=Bk7 o b ho [b.length] (by omega) (by simp) (by simp[Ba6])
   rw[hR,show Sj [b.length]=[Ac b]from rfl]at h1
   have e0:Hx (Il ((N:Nat):Int) 0)=some ():=by rw[show Il ((N:Nat):Int) 0=true by simp[Il,GI.toZ]];rfl
   rw[Aug,Ajz,if_neg (by rw[Ap,Ac];simp;omega),Aaa,if_neg (by rw[Ap,Ac];simp;omega),Aa]
   simp only
   rw[if_neg (by decide),if_neg (by simp[Af,Ap,Ac];rw[Bp (by omega) (by omega)];omega),h1,Aa]
   simp only
   rw[e0,Aa,Ahy,show(0:Int)=((0:Nat):Int)from rfl]
   have:=Bkl ho hR (at_:=A) (n:=N) (by omega) (by omega) (by omega) (2^N) 0 FUEL (by omega) (by have:2^N≤2^8:=Nat.pow_le_pow_right (by omega) (by omega);have:=Am;omega)
   rw[show((0:Nat):Int)=0 from rfl]at this
   rw[show((0:Nat):Int)=0 from rfl,this,Aa]
   rfl
  ·omega
theorem law_ChunksWays(o b:LB)(at_ n:Int):Jv o b at_ n=some true:=Bv0 Cb4 o b at_ n
end Go.Pl
