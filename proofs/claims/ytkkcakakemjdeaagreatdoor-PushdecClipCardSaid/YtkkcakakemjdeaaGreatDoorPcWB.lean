/- A part of the proof of a statement of this seat (see the text that ends in Proof): LwClip, LwPts, LwTrc, LwPd, LwDt, LwDu, LwNn, LwHdI, LwFit, LwFitC, LwStart, LwStb, LwChk, LwChkT, LwChkF, LwPc, LwTake, LwGre, LwSteps, LwStb2, LwFed, LwOut, LwErr, LwCat, LwJoin, LwPp, LwPt, LwAll, LwPe2. No conditions of its own. -/
import Derived.Test.YtkkcakakemjdeaaGreatDoorPcWA
import Derived.KernelRfl
set_option linter.unusedVariables false
set_option linter.unusedSimpArgs false
namespace Go.Pl
open Go Go.Lv
abbrev C5:=Int×Int×Int×List Int32×Int
def Bnb(e:Int):C5:=(0,0,0,[],e)
theorem Bg2{seg p:List UInt8}(hs:seg.length=8)(hp:p.length≤64):Lk seg p=some (seg==leB (Wo p).toNat 8,0):=by
 rw[Lk,Bbv p hp,Aa]
 simp only
 rw[if_neg (by rw[Ag,Ag,Ac,Ac,My,hs];simp),Ge,Aa]
theorem Cc9(b p:List UInt8)(m c w h o q n g y ab:Int)(k v:List Int){e:Int}(he:e≠0):Md b p m c w h o q n g k e y ab v=some (Bnb e):=by
 rw[Md,Aa6,if_pos (by rw[Ag];simpa using he)];rfl
theorem Bes(b p:List UInt8)(m c w h o q n g y ab:Int)(k:List Int){e:Int}(he:e≠0):Pq b p m c w h o q n g y ab k e=some (Bnb e):=by
 rw[Pq,Ac3,if_pos (by rw[Ag];simpa using he)];rfl
theorem Byz(b p:List UInt8)(m c w h o q n g y ab:Int)(k:List Int):Pq b p m c w h o q n g y ab k 0=Up b p m c w h o q n g y ab k:=by
 rw[Pq,Ac3,if_neg (by rw[Ag];simp)]
def Avd(X:Nat→List Int32)(E:Nat→Int)(be:Int):Nat→Nat→List Int32→List Int32×Int
 |0,_,acc=>if be≠0 then([],38)else(acc,0)
 |j+1,k,acc=>if E k≠0 then([],E k)else Avd X E be j (k+1) (acc++X k)
def Arz(c w r:Nat)(y:List Int32×Int):C5:=if y.2≠0 then Bnb y.2 else((c:Int),(w:Int),(r:Int),y.1,0)
def Bzv(b p:List UInt8)(f c w r n A:Nat)(l:List Int):C5:=
 Arz c w r (Avd (fun k=>smF w (Yw b p f c w r n A l k)) (fun k=>(Yw b p f c w r n A l k).2) (Bat b A l) l.length 0 [])
section
variable {b p:List UInt8} {f c w r n A:Nat} {l:List Int} (o:Opn b p f c w r n A l)
include o
theorem Awe(a1 a2 a3 a4:Int):∀(j k q:Nat) (acc:List Int32),k+j=l.length→j<q→(k=l.length→(A:Int)+l.sum≤b.length)→acc.length≤4000*k→
  Pc b l (f:Int) (c:Int) (w:Int) (r:Int) (n:Int) a1 a2 a3 (A:Int) a4 (tapsOf p) (framesL (longN r) n) q ((A:Int)+(l.take k).sum) (k:Int) acc=
   some (Arz c w r (Avd (fun k=>smF w (Yw b p f c w r n A l k)) (fun k=>(Yw b p f c w r n A l k).2) (Bat b A l) j k acc))
 |0,k,q+1,acc,hk,_,hfit,_=>by
  have hA:=o.at'
  have hfile:=o.file
  have hs1:=o.some1
  have hsum:=o.sum
  have b1:=Ht o.five l.length
  have hf:=hfit (by omega)
  obtain rfl:k=l.length:=by omega
  rw[List.take_length]at b1⊢
  rw[Pc,Ac5,if_neg (by rw[Af,Ac];simp),Alj,Au0,Bg (by omega) (by omega),Aa,Bdd _ (by rw[List.length_drop];omega),Aa,Avd,Bat]
  generalize Qn (b.drop ((A:Int)+l.sum).toNat)=v
  obtain⟨v1,v2⟩:=v
  simp only
  by_cases hv:v2≠0
  ·rw[if_pos hv,if_pos (by rw[Ag];simpa using hv),Arz,if_pos (by simp)];rfl
  ·rw[if_neg hv,if_neg (by rw[Ag];simpa using hv),Arz,if_neg (by simp)]
 |j+1,k,q+1,acc,hk,hq,hfit,hacc=>by
  have hA:=o.at'
  have hfile:=o.file
  have hs1:=o.some1
  have hsum:=o.sum
  have b1:=Ht o.five k
  have b2:=Ht o.five (k+1)
  have hkl:k<l.length:=by omega
  have e2:=Jn hkl
  have h5:=o.five l[k] (List.getElem_mem _)
  obtain⟨m,x,s,e,g⟩:=Awi o k hkl
  obtain⟨hc,hw,hr,hn,_⟩:=Ri o.shape
  have hl:=g.lens hw
  rw[Pc,Ac5,if_pos (by rw[Af,Ac];simp;omega),By hkl,Aa,Aa,Aj (a:=(A:Int)+(l.take k).sum) (by omega) (by omega),Int.add_assoc,←e2,Ac,Avd,g.eq]
  simp only
  rcases g.way with⟨h1,h2⟩|⟨h1,h2,_⟩
  ·rw[if_pos (by rw[Af,decide_eq_true_eq];omega),if_pos (by rw[h2];simp),h2,Arz,if_pos (by simp)];rfl
  ·rw[if_neg (by rw[Af,decide_eq_true_eq];omega),g.mom]
   simp only[Aa]
   rw[Ta (by omega) (by omega) (by omega),Aa,show(b.take ((A:Int)+(l.take (k+1)).sum).toNat).drop ((A:Int)+(l.take k).sum).toNat=segF b A l k from rfl,h2,Aa]
   simp only
   rw[Alw,Auo]
   by_cases he:e≠0
   ·rw[if_pos (by rw[Ag];simpa using he),if_pos he,Arz,if_pos he];rfl
   ·have he0:e=0:=by simpa using he
    have hfit2:=(g.some' he0).2.2.2.2
    rw[if_neg (by rw[Ag];simpa using he),if_neg he,g.smp hw,Cl (by omega),Aa,Aj (a:=(A:Int)+(l.take k).sum) (by omega) (by omega),Int.add_assoc,←e2,Aj (by omega) (by omega)]
    exact Awe a1 a2 a3 a4 j (k+1) q (acc++x) (by omega) (by omega) (fun h=>by rw[h,List.take_length]at hfit2;exact hfit2) (by rw[List.length_append];omega)
theorem Axi:∀(j k q:Nat) (acc:List Int32),k+j=l.length→j<q→(k=l.length→(A:Int)+l.sum≤b.length)→acc.length≤4000*k→
  Ka b (f:Int) (c:Int) (w:Int) (r:Int) (n:Int) l (framesL (longN r) n) (tapsOf p) q ((A:Int)+(l.take k).sum) (k:Int) acc=
   some (Arz c w r (Avd (fun k=>smF w (Yw b p f c w r n A l k)) (fun k=>(Yw b p f c w r n A l k).2) (Bat b A l) j k acc))
 |0,k,q+1,acc,hk,_,hfit,_=>by
  have hA:=o.at'
  have hfile:=o.file
  have hs1:=o.some1
  have hsum:=o.sum
  have b1:=Ht o.five l.length
  have hf:=hfit (by omega)
  obtain rfl:k=l.length:=by omega
  rw[List.take_length]at b1⊢
  rw[Ka,Vi,if_neg (by rw[Af,Ac];simp),Ado,Adn,Bg (by omega) (by omega),Aa,Ayg _ (by rw[List.length_drop];omega),Aa,Avd,Bat]
  generalize Qn (b.drop ((A:Int)+l.sum).toNat)=v
  obtain⟨v1,v2⟩:=v
  simp only
  by_cases hv:v2≠0
  ·rw[if_pos hv,if_pos (by rw[Ag];simpa using hv),Arz,if_pos (by simp)];rfl
  ·rw[if_neg hv,if_neg (by rw[Ag];simpa using hv),Arz,if_neg (by simp)]
 |j+1,k,q+1,acc,hk,hq,hfit,hacc=>by
  have hA:=o.at'
  have hfile:=o.file
  have hs1:=o.some1
  have hsum:=o.sum
  have b1:=Ht o.five k
  have b2:=Ht o.five (k+1)
  have hkl:k<l.length:=by omega
  have e2:=Jn hkl
  have h5:=o.five l[k] (List.getElem_mem _)
  obtain⟨m,x,s,e,g⟩:=Awi o k hkl
  obtain⟨hc,hw,hr,hn,_⟩:=Ri o.shape
  have hl:=g.lens hw
  rw[Ka,Vi,if_pos (by rw[Af,Ac];simp;omega),By hkl,Aa,Aa,Ac,Bv (by omega) (by omega),Avd,g.eq]
  simp only
  rcases g.way with⟨h1,h2⟩|⟨h1,_,h2⟩
  ·rw[if_pos (by rw[Af,decide_eq_true_eq];omega),if_pos (by rw[h2];simp),h2,Arz,if_pos (by simp)];rfl
  ·rw[if_neg (by rw[Af,decide_eq_true_eq];omega),g.mom]
   simp only[Aa]
   rw[Aj (a:=(A:Int)+(l.take k).sum) (by omega) (by omega),Int.add_assoc,←e2,Ta (by omega) (by omega) (by omega),Aa,show(b.take ((A:Int)+(l.take (k+1)).sum).toNat).drop ((A:Int)+(l.take k).sum).toNat=segF b A l k from rfl,h2,Aa]
   simp only
   rw[Ady,Adq]
   by_cases he:e≠0
   ·rw[if_pos (by rw[Ag];simpa using he),if_pos he,Arz,if_pos he];rfl
   ·have he0:e=0:=by simpa using he
    have hfit2:=(g.some' he0).2.2.2.2
    rw[if_neg (by rw[Ag];simpa using he),if_neg he,g.smp hw,Cl (by omega),Aa,By hkl,Aa,Aa,Aj (a:=(A:Int)+(l.take k).sum) (by omega) (by omega),Int.add_assoc,←e2,Aj (by omega) (by omega)]
    exact Axi j (k+1) q (acc++x) (by omega) (by omega) (fun h=>by rw[h,List.take_length]at hfit2;exact hfit2) (by rw[List.length_append];omega)
end
theorem Blg(l:List Int)(b p:List UInt8)(m c w h o q n g:Int)(k:List Int)(hl:l.length≤1000)(h5:∀x∈l,5≤x)(A:Int)(hA:0≤A)(hb:A+l.sum≤1000000):∀(j i z:Nat),i+j=l.length→j<z→Pm l b p m c w h o q n g k z (i:Int) (A+(l.take i).sum)=Acs b p l m c w h o q n g (A+l.sum) k
 |0,i,z+1,hi,_=>by
  rw[Pm,Ab5,if_neg (by rw[Af,Ac];simp;omega),show i=l.length by omega,List.take_length]
 |j+1,i,z+1,hi,hz=>by
  have hlt:i<l.length:=by omega
  have b1:=Ht h5 i
  have b2:=Ht h5 (i+1)
  have e:=Jn hlt
  have ih:=Blg l b p m c w h o q n g k hl h5 A hA hb j (i+1) z (by omega) (by omega)
  rw[e,←Int.add_assoc]at ih
  rw[Pm,Ab5,if_pos (by rw[Af,Ac];simp;omega),By hlt,Aa,Aa,Aj (by omega) (by omega),Aj (by omega) (by omega)]
  exact ih
theorem Bru(b p:List UInt8)(hb:b.length≤100100)(hp:p.length≤64):
  (∃e:Int,e≠0∧seekto_Open b p=some (Ang e)∧Mk b p=some (Bnb e)∧Hs b p=some (Bnb e))∨
  (∃f c w r n T:Nat,∃q d:Int,T≤b.length∧b.length≤100000∧shapeB f c w r n=true∧fitB c r n=true∧
   seekto_Open b p=Pn b (f:Int) (c:Int) (w:Int) (r:Int) (n:Int) (T:Int)∧
   Mk b p=Up b p (f:Int) (c:Int) (w:Int) (r:Int) (n:Int) q d (T:Int) 0 0 (framesL (longN r) n)∧
   Hs b p=(Yu b (T:Int) (f:Int) (c:Int) (w:Int) (r:Int) (n:Int)).bind fun(h,ae)=>if Ay ae 0=true then some (Bnb ae)else(Du (r:Int) (n:Int)).bind fun p2=>(Kh p).bind fun(u,ap)=>Ags b (f:Int) (c:Int) (w:Int) (r:Int) (n:Int) h p2 u (Ad (T:Int) (Ad (Bd 4 (Ac h)) 4)) 0 []):=by
 have hO:seekto_Open b p=seekto_Open b p:=rfl
 have hV:Mk b p=Mk b p:=rfl
 have hR:Hs b p=Hs b p:=rfl
 conv at hO=>rhs;rw[seekto_Open,Uw,if_neg (by rw[Am,Ac];simp;omega)]
 conv at hV=>rhs;rw[Mk,An2,if_neg (by rw[Am,Ac];simp;omega),Auh]
 conv at hR=>rhs;rw[Hs,Agd,if_neg (by rw[Am,Ac];simp;omega),Ajv]
 by_cases h1:100000<b.length
 ·rw[if_pos (by rw[Am,Ac];simp;omega)]at hO hV hR
  refine .inl ⟨4,by omega,hO,?_,?_⟩
  ·rw[hV,Aa];rfl
  ·rw[hR,Aa];rfl
 rw[if_neg (by rw[Am,Ac];simp;omega)]at hO hV hR
 rw[Qa b (by omega),Aa]at hO hV
 rw[Wl b (by omega),Aa]at hR
 by_cases h2:(frontS b).2=0
 ·obtain⟨p0,p1,p2⟩:=Wd h2
  have hc:=Bg (l:=b) p0 p1
  simp only[h2]at hO hV hR
  rw[if_neg (by rw[Ag];simp),hc,Aa,show b.drop (frontS b).1.toNat=hdr b from rfl]at hO hV hR
  rw[Aji _ (by simp[hdr];omega),Aa]at hO hV
  rw[An7 _ (by simp[hdr];omega),Aa]at hR
  by_cases h3:(readS (hdr b)).2.2.2.2.2=0
  ·obtain⟨g1,g2,g3,g4⟩:=At7 h3
   have hlen:(hdr b).length=b.length-(frontS b).1.toNat:=by simp[hdr]
   generalize hF:(frontS b).1.toNat=F at*
   have hF':(frontS b).1=(F:Int):=by omega
   rw[g1,hF']at hO hV hR
   simp only at hO hV hR
   generalize f0 (hdr b)=f at*
   generalize f1 (hdr b)=c at*
   generalize f2 (hdr b)=w at*
   generalize f3 (hdr b)=r at*
   generalize f4 (hdr b)=n at*
   have t22:Ad (F:Int) 22=((F+22:Nat):Int):=by rw[Aj (by omega) (by omega)];omega
   have t30:Ad ((F+22:Nat):Int) 8=((F+30:Nat):Int):=by rw[Aj (by omega) (by omega)];omega
   have hf12:f=1∨f=2:=by simp only[shapeB,decide_eq_true_eq]at g3;omega
   rw[if_neg (by rw[Ag];simp),t22,t30]at hO
   rw[if_neg (by rw[Ag];simp),As3 g3 g4,Aa,t22,t30]at hV
   rw[Aa]at hR
   simp only at hV hR
   rw[if_neg (by rw[Ag];simp),t22,Aio,t30]at hR
   by_cases hpass:((p==([]:List UInt8)) !=(geq (f:Int) (1:Int)))=true
   ·rw[if_pos hpass]at hO hR
    refine .inl ⟨26,by omega,hO,?_,?_⟩
    ·rw[hV]
     by_cases h5:f=2
     ·rw[if_pos (by rw[Al,h5];rfl),Aa]
      simp only
      rw[if_neg (by rw[Ag];simp),if_pos hpass,Bes _ _ _ _ _ _ _ _ _ _ _ _ _ (by omega)]
     ·rw[if_neg (by rw[Al];simp;omega),Aa]
      simp only
      rw[if_neg (by rw[Ag];simp),if_pos hpass,Bes _ _ _ _ _ _ _ _ _ _ _ _ _ (by omega)]
    ·rw[hR,Aa];rfl
   ·rw[if_neg hpass]at hO hR
    have hpf:(p=[]↔f=1):=by
     rw[Al]at hpass
     have h5:(p==([]:List UInt8))=((f:Int)==1):=by simpa using hpass
     have h6:(p==([]:List UInt8))=true↔((f:Int)==1)=true:=by rw[h5]
     rw[beq_iff_eq,beq_iff_eq]at h6
     rw[h6];omega
    by_cases h5:f=2
    ·have hpne:p≠ []:=fun e=>by have:=hpf.1 e;omega
     rw[if_pos (by rw[Al,h5];rfl),Aa]at hV
     simp only at hV
     rw[if_neg (by rw[Ag];simp),if_neg hpass,if_neg (by rw[Al];simp;omega)]at hV
     rw[if_pos (by simpa using hpne)]at hO
     rw[if_neg (by simpa using hpne)]at hR
     by_cases h6:b.length<F+30
     ·rw[if_pos (by rw[Af,Ac];simp;omega)]at hO hV hR
      refine .inl ⟨24,by omega,hO,?_,?_⟩
      ·rw[hV,Bes _ _ _ _ _ _ _ _ _ _ _ _ _ (by omega)]
      ·rw[hR,Aa];rfl
     ·have hseg:((b.take (F+30)).drop (F+22)).length=8:=by simp;omega
      rw[if_neg (by rw[Af,Ac];simp;omega),Ta (by omega) (by omega) (by omega),Aa,show((F+30:Nat):Int).toNat=F+30 from rfl,show((F+22:Nat):Int).toNat=F+22 from rfl]at hO hV hR
      rw[Bg2 hseg hp,Aa]at hO hV
      rw[Apa p hp,Aa]at hR
      simp only at hO hV
      rw[if_neg (by rw[Ag];simp)]at hO
      generalize(b.take (F+30)).drop (F+22)=seg at*
      by_cases h7:seg=leB (Wo p).toNat 8
      ·rw[if_neg (by simp[h7])]at hO hV
       rw[if_neg (by simp[h7]),Aa]at hR
       simp only at hR
       rw[if_neg (by rw[Ag];simp)]at hR
       rw[Byz]at hV
       exact .inr ⟨f,c,w,r,n,F+30,(F:Int),((F+22:Nat):Int),by omega,by omega,g3,g4,hO,hV,hR⟩
      ·rw[if_pos (by simpa using h7)]at hO hV
       rw[if_pos (by simpa using h7)]at hR
       refine .inl ⟨26,by omega,hO,?_,?_⟩
       ·rw[hV,Bes _ _ _ _ _ _ _ _ _ _ _ _ _ (by omega)]
       ·rw[hR,Aa];rfl
    ·have hpe:p=[]:=hpf.2 (by omega)
     rw[if_neg (by rw[Al];simp;omega),Aa]at hV
     simp only at hV
     rw[if_neg (by rw[Ag];simp),if_neg hpass,if_pos (by rw[Al];simp;omega),Byz]at hV
     rw[if_neg (by rw[hpe];simp)]at hO
     rw[if_pos (by rw[hpe];rfl),Aa]at hR
     simp only at hR
     rw[if_neg (by rw[Ag];simp)]at hR
     exact .inr ⟨f,c,w,r,n,F+22,(F:Int),((F+22:Nat):Int),by omega,by omega,g3,g4,hO,hV,hR⟩
  ·generalize readS (hdr b)=v at*
   obtain⟨v1,v2,v3,v4,v5,v6⟩:=v
   simp only at h3 hO hV hR
   rw[if_pos (by rw[Ag];simpa using h3)]at hO hV
   refine .inl ⟨v6,h3,hO,?_,?_⟩
   ·rw[hV,Aa]
    simp only
    rw[if_pos (by rw[Ag];simpa using h3)];rfl
   ·rw[hR,Aa]
    simp only
    rw[if_pos (by rw[Ag];simpa using h3)];rfl
 ·generalize frontS b=v at*
  obtain⟨v,e⟩:=v
  simp only at h2 hO hV hR
  rw[if_pos (by rw[Ag];simpa using h2)]at hO hV hR
  refine .inl ⟨e,h2,hO,?_,?_⟩
  ·rw[hV,Aa]
   simp only
   rw[if_pos (by rw[Ag];simpa using h2)];rfl
  ·rw[hR,Aa]
   simp only
   rw[if_pos (by rw[Ag];simpa using h2)];rfl
theorem Bu3(b p:List UInt8)(hb:b.length≤100100)(hp:p.length≤64):
  (∃e:Int,e≠0∧seekto_Open b p=some (Ang e)∧cadenzaref40_Opened b p=some (Ang e)∧Mk b p=some (Bnb e)∧Hs b p=some (Bnb e))∨
  (∃f c w r n A l,Opn b p f c w r n A l∧Mk b p=some (Bzv b p f c w r n A l)∧Hs b p=some (Bzv b p f c w r n A l)):=by
 have hbadI:∀{e e2:Int},Ang e=Ang e2→e=e2:=fun h=>by simpa [Ang]using h
 rcases Bru b p hb hp with⟨e,he,h1,h2,h3⟩|⟨f,c,w,r,n,T,q,d,hT,hfile,g3,g4,hO,hV,hR⟩
 ·rcases Beh b p hb hp with⟨e',he',k1,k2⟩|⟨f,c,w,r,n,A,l,o⟩
  ·rw[h1]at k1
   have:=hbadI (Option.some.inj k1)
   subst this
   exact .inl ⟨e,he,h1,k2,h2,h3⟩
  ·have:=o.prog
   rw[h1]at this
   have:=Option.some.inj this
   simp only[Ang,Prod.mk.injEq]at this
   exact absurd this.2.2.2.2.2.2.2 he
 ·obtain⟨hc,hw,hr,hn,_⟩:=Ri g3
  have hfit:n≤4000/c:=by simp only[fitB,decide_eq_true_eq]at g4;exact g4.1
  have hn4:n≤4000:=by have:=Nat.div_le_self 4000 c;omega
  rw[Ba9 g3 g4 b hb T hT]at hO
  have hcut:=Bg (l:=b) (a:=(T:Int)) (by omega) (by omega)
  rw[Int.toNat_natCast]at hcut
  have hdl:(b.drop T).length≤100100:=by simp;omega
  rw[Up,Alf,if_neg (by rw[Af,Ac];simp;omega),hcut,Aa,Ac,Av2 _ _ hdl,Aa]at hV
  rw[Yu,hcut,Aa,Aoc hr.2 hn hn4,Aa,Ac,Bg0 _ _ hdl,Aa,Aa]at hR
  by_cases h:(seekS (b.drop T) (framesL (longN r) n).length).2≠0
  ·rw[if_pos h]at hO
   generalize seekS (b.drop T) (framesL (longN r) n).length=v at*
   obtain⟨v1,v2⟩:=v
   simp only at h hO hV hR
   rcases Beh b p hb hp with⟨e',he',k1,k2⟩|⟨f,c,w,r,n,A,l,o⟩
   ·rw[hO]at k1
    have:=hbadI (Option.some.inj k1)
    subst this
    refine .inl ⟨_,h,hO,k2,?_,?_⟩
    ·rw[hV,Abl,Adg,if_pos (by rw[Ag];simpa using h),Cc9 _ _ _ _ _ _ _ _ _ _ _ _ _ _ h]
    ·rw[hR,if_pos (by rw[Ag];simpa using h)]
   ·have:=o.prog
    rw[hO]at this
    have:=Option.some.inj this
    simp only[Ang,Prod.mk.injEq]at this
    exact absurd this.2.2.2.2.2.2.2 h
  ·have h0:(seekS (b.drop T) (framesL (longN r) n).length).2=0:=by simpa using h
   rw[if_neg h]at hO
   generalize hsv:seekS (b.drop T) (framesL (longN r) n).length=v at*
   obtain⟨v1,v2⟩:=v
   simp only at h0 hO hV hR
   subst h0
   rcases Beh b p hb hp with⟨e',he',k1,k2⟩|⟨f',c',w',r',n',A,l,o⟩
   ·rw[hO]at k1
    have:=Option.some.inj k1
    simp only[Ang,Prod.mk.injEq]at this
    exact absurd this.2.2.2.2.2.2.2.symm he'
   ·have hp2:=o.prog
    rw[hO]at hp2
    have hp3:=Option.some.inj hp2
    simp only[Prod.mk.injEq]at hp3
    obtain⟨i1,i2,i3,i4,i5,i6,i7,_⟩:=hp3
    obtain rfl:f=f':=by omega
    obtain rfl:c=c':=by omega
    obtain rfl:w=w':=by omega
    obtain rfl:r=r':=by omega
    obtain rfl:n=n':=by omega
    subst i7
    have hlen:=o.len
    have hs1:=o.some1
    have hsum:=o.sum
    have hA:=o.at'
    have hAT:(A:Int)=(T:Int)+4*(v1.length:Int)+4:=by omega
    have a1:Bd 4 (v1.length:Int)=4*(v1.length:Int):=Hl (by omega) (by omega)
    have eV:Ad (Ad (T:Int) (Bd 4 (Ac v1))) 4=(A:Int):=by
     rw[Ac,a1,Aj (a:=(T:Int)) (by omega) (by omega),Aj (by omega) (by omega)];omega
    have eR:Ad (T:Int) (Ad (Bd 4 (Ac v1)) 4)=(A:Int):=by
     rw[Ac,a1,Aj (a:=4*(v1.length:Int)) (by omega) (by omega),Aj (by omega) (by omega)];omega
    have hlv:=Awe o q d (T:Int) ((A:Int)+v1.sum) v1.length 0 FUEL [] (by omega) (by have:=Ao;omega) (by omega) (by simp)
    have hlr:=Axi o v1.length 0 FUEL [] (by omega) (by have:=Ao;omega) (by omega) (by simp)
    rw[List.take_zero,List.sum_nil,Int.add_zero]at hlv hlr
    refine .inr ⟨f,c,w,r,n,A,v1,o,?_,?_⟩
    ·have hs:=Blg v1 b p (f:Int) (c:Int) (w:Int) (r:Int) (n:Int) q d (T:Int) (framesL (longN r) n) hs1.2 o.five (A:Int) (by omega) (by omega) v1.length 0 FUEL (by omega) (by have:=Ao;omega)
     rw[List.take_zero,List.sum_nil,Int.add_zero]at hs
     rw[hV,Abl,Adg,if_neg (by rw[Ag];simp),Aki,eV]
     refine Eq.trans hs ?_
     rw[Acs,Ak0,eV,Md,Aa6,if_neg (by rw[Ag];simp),Bce p o.pass,Aa]
     exact hlv
    ·rw[hR,if_neg (by rw[Ag];simp),Aa,Alm p o.pass,Aa,eR]
     exact hlr
end Go.Pl
set_option linter.unusedVariables false
set_option linter.unusedSimpArgs false
namespace Go.Pl
open Go Go.Lv
def Bbm(b:List UInt8):List Int:=framesL (longN (f3 (hdr b))) (f4 (hdr b))
end Go.Pl
set_option linter.unusedVariables false
set_option linter.unusedSimpArgs false
namespace Go.Pl
open Go Go.Lv
end Go.Pl
set_option linter.unusedVariables false
set_option linter.unusedSimpArgs false
namespace Go.Pl
open Go Go.Lv
end Go.Pl
set_option linter.unusedVariables false
set_option linter.unusedSimpArgs false
namespace Go.Pl
open Go Go.Lv
theorem Bf3{c r n:Nat}(h:fitB c r n=true):1≤(framesL (longN r) n).length∧(framesL (longN r) n).length≤1000:=by
 simp only[fitB,decide_eq_true_eq]at h
 rw[Bdc];exact⟨Nat.le_add_left _ _,h.2⟩
end Go.Pl
set_option linter.unusedVariables false
set_option linter.unusedSimpArgs false
namespace Go.Pl
open Go Go.Lv
theorem Bti(g:Nat):∀K:Nat,(List.replicate K (g:Int)).sum=((K*g:Nat):Int)
 |0=>by simp
 |K+1=>by
  rw[List.replicate_succ,List.sum_cons,Bti g K,Nat.succ_mul];omega
theorem Bcm{g n:Nat}(hn:1≤n):(framesL g n).sum=(n:Int):=by
 have h:=Nat.div_mul_le_self (n-1) g
 rw[framesL,List.sum_append,Bti]
 simp only[List.sum_cons,List.sum_nil]
 omega
theorem Bsl:∀{l:List Int},(∀x∈l,0≤x)→0≤l.sum
 |[],_=>by simp
 |x::l,h=>by
  have h1:=h x List.mem_cons_self
  have h2:=Bsl (l:=l) fun y hy=>h y (List.mem_cons_of_mem _ hy)
  rw[List.sum_cons];omega
theorem Aq6{l:List Int}(h:∀x∈l,0≤x)(i:Nat):0≤(l.take i).sum∧(l.take i).sum≤l.sum:=by
 have h1:=Bsl (l:=l.take i) fun x hx=>h x (List.mem_of_mem_take hx)
 have h2:=Bsl (l:=l.drop i) fun x hx=>h x (List.mem_of_mem_drop hx)
 have:=Bk4 l i
 omega
def Aaf(c w:Nat)(fr:List Int)(k:Nat):Int:=(((fr.take k).sum.toNat*(c*wB (w:Int)):Nat):Int)
section
variable {f c w r n:Nat} (h1:shapeB f c w r n=true) (h2:fitB c r n=true)
include h1 h2
theorem Ae8:(∀x∈framesL (longN r) n,0≤x)∧(framesL (longN r) n).sum=(n:Int)∧n≤4000:=by
 obtain⟨hc,hw,hr,hn,_⟩:=Ri h1
 have hfit:n≤4000/c:=by simp only[fitB,decide_eq_true_eq]at h2;exact h2.1
 have hn4:n≤4000:=by have:=Nat.div_le_self 4000 c;omega
 refine⟨fun x hx=>?_,Bcm hn,hn4⟩
 obtain⟨m,rfl,_⟩:=Ui (Pe r) hn hx
 omega
end
theorem Brw(C W:Nat)(fr:List Int):Aaf C W fr 0=0:=by rw[Aaf,List.take_zero,List.sum_nil];simp
theorem Bsk(C W:Nat){fr:List Int}(hp:∀z∈fr,0≤z){A m:Nat}(hA:A<fr.length)(hm:fr[A]=(m:Int)):Aaf C W fr (A+1)=Aaf C W fr A+((m*C*wB (W:Int):Nat):Int):=by
 have hs:0≤(fr.take A).sum:=by
  have:∀l:List Int,(∀z∈l,0≤z)→0≤l.sum:=by
   intro l
   induction l with
   |nil=>intro _;simp
   |cons a l ih=>intro h;rw[List.sum_cons];have:=h a (by simp);have:=ih (fun z hz=>h z (by simp[hz]));omega
  exact this _ fun z hz=>hp z (List.mem_of_mem_take hz)
 have e:(fr.take (A+1)).sum=(fr.take A).sum+m:=by rw[Ajh hA,List.sum_append,List.sum_cons,List.sum_nil,hm];omega
 rw[Aaf,Aaf,e]
 have:((fr.take A).sum+(m:Int)).toNat=(fr.take A).sum.toNat+m:=by omega
 rw[this,Nat.add_mul,Nat.mul_assoc m]
 omega
end Go.Pl
set_option linter.unusedVariables false
set_option linter.unusedSimpArgs false
namespace Go.Pl
open Go Go.Lv
def Cd(e:Int):Prop:=e=0∨e=4∨e=12∨e=16∨e=22∨e=24∨e=26∨e=38
instance(e:Int):Decidable (Cd e):=by unfold Cd;infer_instance
theorem Cd.nn{e:Int}(h:Cd e):0≤e:=by unfold Cd at h;omega
theorem Cho(p:List UInt8)(N a k:Nat):Cd (rcS p N a k).2.2:=by
 unfold rcS
 repeat' split
 all_goals first|decide|exact .inl rfl
theorem Cge(p:List UInt8)(N a k l:Nat):Cd (dgS p N a k l).2.2:=by
 have h:=Cho p N (a+1) l
 unfold dgS
 repeat' split
 all_goals first|exact h|decide|exact .inl rfl
theorem Bvh(ch:Nat)(p:List UInt8)(N:Nat):∀(j a:Nat) (out:List UInt32),Cd (Vz ch p N j a out).2.2
 |0,a,out=>by rw[Vz];exact .inl rfl
 |j+1,a,out=>by
  rw[Vz]
  split
  ·exact Cge ..
  ·exact Bvh ch p N j _ _
theorem Bz6(b:List UInt8):Cd (Tn b):=by
 unfold Tn
 repeat' split
 all_goals first|decide|exact .inl rfl
theorem Bld(a:List Int32)(b:Int):∀(q:Nat) (i e:Int),Az a b q i=some e→Cd e
 |0,_,_,h=>by rw[Az]at h;cases h
 |q+1,i,e,h=>by
  rw[Az,Cy]at h
  split at h
  ·cases hg:getI a i with
   |none=>rw[hg]at h;cases h
   |some g=>
    rw[hg,Aa]at h
    split at h
    ·cases h;decide
    ·rw[Aa]at h
     split at h
     ·cases h;decide
     ·exact Bld a b q _ e h
  ·cases h;decide
theorem Brh{bits:Int}{a:List Int32}{e:Int}(hb:Ci bits)(h:cadenzaref18_Check bits a=some e):Cd e:=by
 rw[cadenzaref18_Check,Gg]at h
 rw[Aza hb,Aa,if_neg (by have:=Atb bits;rw[Al];simp;omega)]at h
 split at h
 ·cases h;decide
 ·exact Bld a _ _ _ e h
theorem Bj6{bits:Int}{ch n:Nat}{t:List Int32}{b:List UInt8}(hb:Ci bits)(ht:t.length=16)(h1:1≤ch)(h6:ch≤6)(n1:1≤n)(n2:n≤4000/ch){l:List Int32}{e:Int}
  (h:cadenzaref21_Decode (ch:Int) bits t (n:Int) b=some (l,e)):Cd e:=by
 have hn:n*ch≤4000:=by
  have:=Nat.mul_le_mul_right ch n2
  have h2:=Nat.div_mul_le_self 4000 ch
  omega
 have hq4:=Bs9 h1 h6
 generalize 4000/ch=mm at*
 have hh:=Atb bits
 have hasked:Ml (ch:Int) bits (n:Int)=some 0:=by
  rw[Ml,Yj,if_neg (by simp[Af,Am];omega),Aza hb,Aa,if_neg (by rw[Al];simp;omega),Aa,if_neg (by simp[Ag,Af];omega),Db (by rw[Ag];simp;omega),Aa,hq4,if_neg (by rw[Am];simp;omega)]
 rw[cadenzaref21_Decode,Qu,hasked,Aa,if_neg (by rw[Ag];simp),Bf5,Aa]at h
 by_cases hs:Tn b≠0
 ·rw[if_pos (by rw[Ag];simpa using hs)]at h
  simp only[Aa]at h
  cases h
  exact Bz6 b
 have hs0:Tn b=0:=by simpa using hs
 have hlen:=Bqd hs0
 have e4:Ak (Ac b) 4=((b.length-4:Nat):Int):=by rw[Ac,Bv (by omega) (by omega)];omega
 rw[if_neg (by rw[Ag,hs0];simp),e4,Cp (by omega) (by omega),Aa,show((b.length-4:Nat):Int).toNat=b.length-4 from rfl]at h
 have hpl:(b.take (b.length-4)).length=b.length-4:=by simp
 generalize b.take (b.length-4)=p at*
 have hr:=Bvm (N:=8*p.length) (p:=p) rfl (by omega) h1 h6 hn
 have hV:=Bvh ch p (8*p.length) (n*ch) 0 []
 have hat:=Bei (ch:=ch) (p:=p) (N:=8*p.length) (n*ch) 0 [] (by omega)
 rw[hr,Aa]at h
 generalize Vz ch p (8*p.length) (n*ch) 0 []=V at*
 obtain⟨v,at',er⟩:=V
 simp only at*
 by_cases he:er≠0
 ·rw[if_pos he]at h
  simp only at h
  rw[Hn,Hy,if_pos (by rw[Ag];simpa using he)]at h
  cases h
  exact hV
 have he0:er=0:=by simpa using he
 have hvl:=hat.2.2 he0
 simp only[List.length_nil,Nat.zero_add]at hvl
 rw[if_neg he]at h
 simp only at h
 rw[Hn,Hy]at h
 split at h
 ·cases h
  decide
 ·rw[if_neg (by decide)]at h
  have hm:v.length %ch=0:=by rw[hvl];exact Nat.mul_mod_left n ch
  obtain⟨l',e',g1,g2,g3,g4,g5⟩:=Az2 (v:=v) hb ht h1 h6 (by omega) hm
  rw[g1,Aa,g2,Aa]at h
  have:=Brh hb g4
  by_cases hl:e'≠0
  ·rw[if_pos hl]at h;cases h;exact this
  ·rw[if_neg hl]at h;cases h;decide
theorem Bbk{bits:Int}{ch n:Nat}{t:List Int32}{b:List UInt8}(hb:Ci bits)(ht:t.length=16)(h1:1≤ch)(h6:ch≤6)(n1:1≤n)(n2:n≤4000/ch){l:List Int32}{e:Int}
  (h:cadenzaref21_Decode (ch:Int) bits t (n:Int) b=some (l,e)):0≤e:=(Bj6 hb ht h1 h6 n1 n2 h).nn
end Go.Pl
set_option linter.unusedVariables false
set_option linter.unusedSimpArgs false
namespace Go.Pl
open Go Go.Lv
def shI(f c w r n:Int):Bool:=decide ((f=1∨f=2)∧(1≤c∧c≤6)∧(w=8∨w=16∨w=24)∧(1≤r∧r≤1048576)∧1≤n)
theorem By1(f c w r n:Int):Oj f c w r n=some (shI f c w r n):=by
 have e2:Lr f c w r n=some (decide ((f=1∨f=2)∧(1≤c∧c≤6)∧(1≤r∧r≤1048576)∧1≤n)):=by
  rw[Lr,Aex]
  congr 1
  rw[Bool.eq_iff_iff]
  simp only[Al,Am,Arr,Bool.and_eq_true,Bool.or_eq_true,beq_iff_eq,decide_eq_true_eq]
  omega
 have g:∀k:Int,geq w k=decide (w=k):=fun k=>by rw[Al,Bool.eq_iff_iff];simp
 rw[Oj,We,e2,g,g,g,shI]
 by_cases h8:w=8
 ·subst h8;simp
 ·by_cases h16:w=16
  ·subst h16;simp
  ·by_cases h24:w=24
   ·subst h24;simp
   ·simp[h8,h16,h24]
theorem Ce2(f c w r n:Int):Ib f c w r n=some (shI f c w r n):=by
 rw[Ib,shI]
 simp only[Al,Dq,Arr,Bool.and_eq_true,Bool.or_eq_true,beq_iff_eq,decide_eq_true_eq,Bool.false_and]
 split
 ·rename_i h
  congr 1
  rw[Bool.eq_iff_iff]
  simp only[Bool.and_eq_true,Bool.or_eq_true,beq_iff_eq,decide_eq_true_eq]
  omega
 ·rename_i h
  congr 1
  symm
  rw[decide_eq_false_iff_not]
  omega
structure HdI (f c w r n:Int) (F C W R N:Nat):Prop where
 ef:f=F
 ec:c=C
 ew:w=W
 er:r=R
 en:n=N
 shape:shapeB F C W R N=true
 fit:fitB C R N=true
theorem Bw5(f c w r n:Int):(∃F C W R N:Nat,HdI f c w r n F C W R N)∨(Jk f c w r n=some 8∧Cu f c w r n=some ([],8)):=by
 by_cases h:shI f c w r n=true
 ·have h':=h
  simp only[shI,decide_eq_true_eq]at h'
  obtain⟨F,rfl⟩:=Int.eq_ofNat_of_zero_le (show 0≤f by omega)
  obtain⟨C,rfl⟩:=Int.eq_ofNat_of_zero_le (show 0≤c by omega)
  obtain⟨W,rfl⟩:=Int.eq_ofNat_of_zero_le (show 0≤w by omega)
  obtain⟨R,rfl⟩:=Int.eq_ofNat_of_zero_le (show 0≤r by omega)
  obtain⟨N,rfl⟩:=Int.eq_ofNat_of_zero_le (show 0≤n by omega)
  have hs:shapeB F C W R N=true:=by simp only[shapeB,decide_eq_true_eq];omega
  by_cases hf:fitB C R N=true
  ·exact .inl ⟨F,C,W,R,N,rfl,rfl,rfl,rfl,rfl,hs,hf⟩
  ·have hf':fitB C R N=false:=by simpa using hf
   refine .inr ⟨?_,?_⟩
   ·rw[Jk,Axz,Aa,hs,if_neg (by simp),Bgw hs,Aa,hf'];rfl
   ·rw[Cu,Rb,Au3,Aa,hs,if_neg (by simp),Bcl hs,Aa,hf'];rfl
 ·have h':shI f c w r n=false:=by simpa using h
  refine .inr ⟨?_,?_⟩
  ·rw[Jk,Ce2,Aa,h'];rfl
  ·rw[Cu,Rb,By1,Aa,h'];rfl
theorem HdI.check{f c w r n:Int}{F C W R N:Nat}(h:HdI f c w r n F C W R N):Jk f c w r n=some 0:=by
 obtain⟨rfl,rfl,rfl,rfl,rfl,hs,hf⟩:=h
 rw[Jk,Axz,Aa,hs,if_neg (by simp),Bgw hs,Aa,hf];rfl
theorem HdI.Bbm{f c w r n:Int}{F C W R N:Nat}(h:HdI f c w r n F C W R N):Cu f c w r n=some (framesL (longN R) N,0):=by
 obtain⟨rfl,rfl,rfl,rfl,rfl,hs,hf⟩:=h
 exact As3 hs hf
theorem HdI.num{f c w r n:Int}{F C W R N:Nat}(h:HdI f c w r n F C W R N):(F=1∨F=2)∧(1≤C∧C≤6)∧(W=8∨W=16∨W=24)∧(1≤R∧R≤1048576)∧1≤N∧N≤4000/C∧N≤4000∧(N-1)/longN R+1≤1000:=by
 obtain⟨rfl,rfl,rfl,rfl,rfl,hs,hf⟩:=h
 simp only[shapeB,decide_eq_true_eq]at hs
 simp only[fitB,decide_eq_true_eq]at hf
 have hd:4000/C≤4000:=Nat.div_le_self _ _
 omega
theorem HdI.Bnj{f c w r n:Int}{F C W R N:Nat}(h:HdI f c w r n F C W R N):Fg f c w r n=some (framesL (longN R) N):=by
 have hn:=h.num
 obtain⟨rfl,rfl,rfl,rfl,rfl,hs,hf⟩:=h
 rw[Fg,Aoc (by omega) (by omega) (by omega)];rfl
end Go.Pl
set_option linter.unusedVariables false
set_option linter.unusedSimpArgs false
namespace Go.Pl
open Go Go.Lv
section
variable {f c w r n:Nat} (h1:shapeB f c w r n=true) (h2:fitB c r n=true)
include h1 h2
theorem Bk8(k:Nat)(hk:k≤(framesL (longN r) n).length):∀(j i q:Nat),i+j=k→j<q→Js (k:Int) (f:Int) (c:Int) (w:Int) (r:Int) (n:Int) (framesL (longN r) n) q (((framesL (longN r) n).take i).sum) (i:Int)=some (Aaf c w (framesL (longN r) n) k)
 |0,i,q+1,hi,_=>by
  obtain⟨hc,hw,hr,hn,_⟩:=Ri h1
  obtain⟨g1,g2,g3⟩:=Ae8 h1 h2
  have b:=Aq6 g1 i
  obtain rfl:i=k:=by omega
  have hb:((framesL (longN r) n).take i).sum.toNat*(c*wB (w:Int))≤4000*(6*3):=Nat.mul_le_mul (by omega) (Nat.mul_le_mul hc.2 (Bj2 (w:Int)).2)
  rw[Js,Vt,if_neg (by rw[Af];simp),Agf,Agb,Fi,Aa]
  simp only
  rw[Aie,Chb hc.2 hw,Aa,Aaf]
  have e:((framesL (longN r) n).take i).sum=((((framesL (longN r) n).take i).sum.toNat:Nat):Int):=by omega
  rw[e,Hl (by rw[←Int.natCast_mul];omega) (by rw[←Int.natCast_mul];omega),←Int.natCast_mul];rfl
 |j+1,i,q+1,hi,hq=>by
  obtain⟨g1,g2,g3⟩:=Ae8 h1 h2
  have hK:=Bf3 h2
  have hlt:i<(framesL (longN r) n).length:=by omega
  have b1:=Aq6 g1 i
  have b2:=Aq6 g1 (i+1)
  have e:=Jn hlt
  have ih:=Bk8 k hk j (i+1) q (by omega) (by omega)
  rw[e]at ih
  rw[Js,Vt,if_pos (by rw[Af];simp;omega),By hlt,Aa,Aa,Aj (by omega) (by omega),Aj (by omega) (by omega)]
  exact ih
theorem Boi(k:Nat)(hk:k≤(framesL (longN r) n).length):Th (f:Int) (c:Int) (w:Int) (r:Int) (n:Int) (k:Int)=some (Aaf c w (framesL (longN r) n) k):=by
 have hK:=Bf3 h2
 obtain⟨g1,g2,g3⟩:=Ae8 h1 h2
 obtain⟨hc,hw,hr,hn,_⟩:=Ri h1
 have h:=Bk8 h1 h2 k hk k 0 FUEL (by omega) (by have:=Ao;omega)
 rw[List.take_zero,List.sum_nil]at h
 rw[Th,Agg,Fg,Aoc hr.2 hn g3,Aa,Aa]
 exact h
theorem Bsg{i:Nat}(hlt:i<(framesL (longN r) n).length):Ad (Aaf c w (framesL (longN r) n) i) (Cn (Bd (Bd ((framesL (longN r) n)[i]) (c:Int)) (w:Int)) 8)=Aaf c w (framesL (longN r) n) (i+1):=by
 obtain⟨hc,hw,hr,hn,_⟩:=Ri h1
 obtain⟨g1,g2,g3⟩:=Ae8 h1 h2
 have b1:=Aq6 g1 i
 have b2:=Aq6 g1 (i+1)
 have e:=Jn hlt
 have h0:=g1 _ (List.getElem_mem hlt)
 have e2:(framesL (longN r) n)[i]=(((framesL (longN r) n)[i].toNat:Nat):Int):=by omega
 have hb:((framesL (longN r) n).take (i+1)).sum.toNat*(c*wB (w:Int))≤4000*(6*3):=Nat.mul_le_mul (by omega) (Nat.mul_le_mul hc.2 (Bj2 (w:Int)).2)
 rw[e2,Cf8 (by omega) hc.2 hw,Aaf,Aaf]
 have e3:((framesL (longN r) n).take (i+1)).sum.toNat=((framesL (longN r) n).take i).sum.toNat+(framesL (longN r) n)[i].toNat:=by omega
 rw[e3,Nat.add_mul]at hb⊢
 rw[Aj (by omega) (by omega)]
 omega
theorem Bk5(a:Nat)(ha:a≤(framesL (longN r) n).length)(o p:LB)(m:LI)(a':Int)(N:LB)(u:Bool)(v:Int):∀(j i q:Nat),i+j=a→j<q→
  Nm ((framesL (longN r) n).take a) o p (f:Int) (c:Int) (w:Int) (r:Int) (n:Int) m a' N u v q (Aaf c w (framesL (longN r) n) i) (i:Int)=some (gle (Ac N) (Aaf c w (framesL (longN r) n) a))
 |0,i,q+1,hi,_=>by
  obtain rfl:i=a:=by omega
  rw[Nm,Yg,if_neg (by rw[Af,Ac,List.length_take];simp;omega),Ahp,Arw]
 |j+1,i,q+1,hi,hq=>by
  have hK:=Bf3 h2
  have hlt:i<(framesL (longN r) n).length:=by omega
  have hlt2:i<((framesL (longN r) n).take a).length:=by rw[List.length_take];omega
  have ih:=Bk5 a ha o p m a' N u v j (i+1) q (by omega) (by omega)
  rw[Nm,Yg,if_pos (by rw[Af,Ac];simp;omega),By hlt2,Aa,List.getElem_take,Bsg h1 h2 hlt,Aj (by omega) (by omega)]
  exact ih
end
end Go.Pl
set_option linter.unusedVariables false
set_option linter.unusedSimpArgs false
namespace Go.Pl
open Go Go.Lv
theorem Bez{α:Type}(l:List α):geq (Ac l) 0=decide (l=[]):=by
 cases l with
 |nil=>rfl
 |cons x l=>rw[Al,Ac,List.length_cons,decide_eq_false (by simp),beq_eq_false_iff_ne];omega
theorem Bmt{α:Type}(l:List α):Eb (Ac l) 0=decide (l≠ []):=by
 cases l with
 |nil=>rfl
 |cons x l=>rw[Am,Ac,List.length_cons,decide_eq_true (by simp)];simp
inductive FitD (o:LB) (f c w r n:Int) (g:LI) (a:Int) (x:LB):Prop
 |new:f=0→c=0→w=0→r=0→n=0→g=[]→a=0→x=[]→FitD o f c w r n g a x
 |head (F C W R N:Nat):HdI f c w r n F C W R N→(o==([]:LB))=decide (F=1)→g=[]→a=0→x=[]→FitD o f c w r n g a x
 |tab (F C W R N A:Nat):HdI f c w r n F C W R N→(o==([]:LB))=decide (F=1)→tabB g=true→g.length=(framesL (longN R) N).length→a=A→A≤g.length→FitD o f c w r n g a x
theorem Bre(f c w r n:Int)(o:LB):Mm f c w r n o=Dd f c w r n o:=rfl
theorem Br8(o p:LB)(f c w r n:Int)(g:LI)(a:Int)(x:LB)(u:Bool)(v:Int):
  (Wj o p f c w r n g a x u v=some false∧Jc o p f c w r n g a x u v=some false)∨
  (Wj o p f c w r n g a x u v=some true∧Jc o p f c w r n g a x u v=Bu o p f c w r n g a x u v∧FitD o f c w r n g a x):=by
 rw[Wj,Ahr,Jc,Tc]
 by_cases hz:f=0∧c=0∧w=0∧r=0∧n=0
 ·obtain⟨rfl,rfl,rfl,rfl,rfl⟩:=hz
  rw[if_pos (by decide),if_pos (by decide),Bez,Bez,Bmt,Bmt]
  by_cases h:g=[]∧a=0∧x=[]
  ·obtain⟨rfl,rfl,rfl⟩:=h
   exact .inr ⟨rfl,by rw[if_neg (by decide)], .new rfl rfl rfl rfl rfl rfl rfl rfl⟩
  ·refine .inl ⟨?_,?_⟩
   ·congr 1
    rw[Bool.eq_false_iff]
    intro e
    simp only[Bool.and_eq_true,decide_eq_true_eq,Al,beq_iff_eq]at e
    exact h ⟨e.1.1,e.1.2,e.2⟩
   ·rw[if_pos]
    simp only[Bool.or_eq_true,decide_eq_true_eq,Ag,bne_iff_ne]
    by_cases e1:g=[]
    ·by_cases e2:a=0
     ·exact .inr fun e3=>h ⟨e1,e2,e3⟩
     ·exact .inl (.inr e2)
    ·exact .inl (.inl e1)
 ·have hz2:¬(((geq f 0)&&((geq c 0)&&((geq w 0)&&((geq r 0)&&((geq n 0)&&true)))))=true):=by
   simp only[Bool.and_eq_true,Al,beq_iff_eq,and_true]
   exact hz
  rw[if_neg hz2,if_neg hz2]
  rcases Bw5 f c w r n with⟨F,C,W,R,N,h⟩|⟨e1,e2⟩
  ·rw[h.Bbm,h.check,Aa,Aa,Bre]
   simp only
   rw[if_neg (by decide),if_neg (by decide),Dd]
   have hf:geq f 1=decide (F=1):=by rw[h.ef,Al,Bool.eq_iff_iff];simp;omega
   rw[hf]
   by_cases hp:(o==([]:LB))=decide (F=1)
   ·rw[if_neg (by rw[hp];simp),Aa,Aa,if_neg (by decide),if_neg (by decide),Ahi,Ahx,Mo,Ms,Bez,Bez,Bmt]
    by_cases hg:g=[]
    ·subst hg
     rw[if_pos (by simp),if_pos (by simp)]
     by_cases h':a=0∧x=[]
     ·obtain⟨rfl,rfl⟩:=h'
      exact .inr ⟨rfl,by rw[if_neg (by decide)], .head F C W R N h hp rfl rfl rfl⟩
     ·refine .inl ⟨?_,?_⟩
      ·congr 1
       rw[Bool.eq_false_iff]
       intro e
       simp only[Bool.and_eq_true,decide_eq_true_eq,Al,beq_iff_eq]at e
       exact h' e
      ·rw[if_pos]
       simp only[Bool.or_eq_true,decide_eq_true_eq,Ag,bne_iff_ne]
       by_cases e2:a=0
       ·exact .inr fun e3=>h' ⟨e2,e3⟩
       ·exact .inl e2
    ·rw[if_neg (by simpa using hg),if_neg (by simpa using hg),Au4,Anb,Aa,Aa]
     by_cases ht:tabB g=true
     ·rw[if_pos ht,h.Bnj]
      simp only[Aa]
      by_cases hl:g.length=(framesL (longN R) N).length∧0≤a∧a≤g.length
      ·obtain⟨hl,ha0,ha1⟩:=hl
       obtain⟨A,rfl⟩:=Int.eq_ofNat_of_zero_le ha0
       have hA:A≤(framesL (longN R) N).length:=by omega
       rw[if_neg (by simp[Ag,Af,Am,Ac];omega),if_neg (by decide),if_neg (by simp[Ag,Af,Am,Ac];omega),Cp (by omega) (by omega),Aa,Ahh]
       have hh:=h
       clear hf
       obtain⟨rfl,rfl,rfl,rfl,rfl,hs,hf⟩:=hh
       have hlp:=Bk5 hs hf A hA o p g (A:Int) x u v A 0 FUEL (by omega) (by have:=Ao;have:=Bf3 hf;omega)
       have h0:Aaf C W (framesL (longN R) N) 0=0:=by rw[Aaf,List.take_zero,List.sum_nil];simp
       rw[h0,show((0:Nat):Int)=0 from rfl]at hlp
       rw[show((A:Int)).toNat=A from rfl,hlp,Boi hs hf A hA,Aa]
       by_cases hx:(x.length:Int)≤Aaf C W (framesL (longN R) N) A
       ·refine .inr ⟨?_,?_, .tab F C W R N A h hp ht hl rfl (by omega)⟩
        ·rw[Arr,Ac,decide_eq_true hx]
        ·rw[if_neg (by rw[Am,Ac];simp;omega)]
       ·refine .inl ⟨?_,?_⟩
        ·rw[Arr,Ac,decide_eq_false hx]
        ·rw[if_pos (by rw[Am,Ac];simp;omega)]
      ·refine .inl ⟨?_,?_⟩
       ·rw[if_pos (by simp[Ag,Af,Am,Ac];omega)]
       ·rw[if_neg (by decide),if_pos (by simp[Ag,Af,Am,Ac];omega)]
     ·refine .inl ⟨?_,?_⟩
      ·rw[if_neg ht,if_pos (by simp[Ag])]
      ·rw[if_neg ht,if_pos (by decide),if_pos (by simp)]
   ·rw[if_pos (by simpa using hp),Aa,Aa,if_pos (by decide),if_pos (by decide)]
    exact .inl ⟨rfl,rfl⟩
  ·rw[e1,e2,Aa,Aa]
   simp only
   rw[if_pos (by decide),if_pos (by decide)]
   exact .inl ⟨rfl,rfl⟩
end Go.Pl
set_option linter.unusedVariables false
set_option linter.unusedSimpArgs false
namespace Go.Pl
open Go Go.Lv
theorem Cav(b:List UInt8)(n:Int):Cd (Ao2 b n).2:=by
 unfold Ao2
 repeat' split
 all_goals first|decide|exact .inl rfl
theorem Bzl(b:List UInt8):(Wq b).2=6∨Cd (Wq b).2:=by
 unfold Wq Bdq
 repeat' split
 all_goals first|exact .inl rfl|exact .inr (Cav _ _)|exact .inr (by decide)
theorem Bvr(b:List UInt8):(Ii b).2=6∨Cd (Ii b).2:=by
 unfold Ii
 repeat' split
 all_goals first|exact .inl rfl|exact .inr (.inl rfl)|exact .inr (by decide)
theorem Caq(b:List UInt8):(Cf b).2=6∨Cd (Cf b).2:=by
 unfold Cf
 split
 ·exact Bzl b
 ·exact Bvr b
theorem Bjl(b:List UInt8):∀(j p:Nat),p≤b.length→b.length<j+p→Cd (Bt b j p).2
 |0,p,h1,h2=>by omega
 |j+1,p,h1,h2=>by
  rw[Bt]
  split
  ·exact .inl rfl
  ·rename_i h6
   split
   ·exact(Caq _).resolve_left h6
   ·rename_i h0
    split
    ·exact(by decide:Cd 4)
    ·have hz:Cf (b.drop p)=((Cf (b.drop p)).1,0):=by rw[Prod.ext_iff];exact⟨rfl,by simpa using h0⟩
     obtain⟨k1,k2⟩:=As8 hz
     rw[List.length_drop]at k2
     split
     ·exact .inl rfl
     ·exact Bjl b j _ (by omega) (by omega)
theorem Bbo(b:List UInt8):Cd (frontS b).2:=by
 unfold frontS Bji
 split
 ·exact .inl rfl
 ·exact Bjl b _ _ (by omega) (by omega)
theorem Bby(b:List UInt8):0≤(frontS b).2:=(Bbo b).nn
theorem Bh5(b:List UInt8):Cd (readS b).2.2.2.2.2:=by
 unfold readS
 repeat' split
 all_goals first|decide|exact .inl rfl
theorem Bfo(b:List UInt8):0≤(readS b).2.2.2.2.2:=(Bh5 b).nn
theorem Bz2(b:List UInt8){n:Nat}(h:1≤n∧n≤1000):Cd (seekS b n).2:=by
 unfold seekS
 rw[if_neg (fun e=>e h)]
 repeat' split
 all_goals first|decide|exact .inl rfl
theorem Bhg(b:List UInt8)(n:Nat):0≤(seekS b n).2:=by
 unfold seekS
 repeat' split
 all_goals simp
def ID3:List UInt8:=[73,68,51]
def APX:List UInt8:=[65,80,69,84,65,71,69,88]
def Ll(b s:List UInt8):Bool:=decide (b.length<s.length)&&(b==s.take b.length)
theorem Bkz(b s:List UInt8):Oq b s=some (Ll b s):=by
 rw[Oq,Ll]
 by_cases h:b.length<s.length
 ·rw[if_pos (by rw[Af,Ac,Ac];simp;omega),Ac,Cp (by omega) (by omega),Aa,decide_eq_true h,Bool.true_and];rfl
 ·rw[if_neg (by rw[Af,Ac,Ac];simp;omega),decide_eq_false h];rfl
theorem Bya(b s:List UInt8)(h:b.length<s.length):Hx s b=some (Ll b s):=by
 rw[Hx,Fv,if_pos (by rw[Dq,Ac,Ac];simp;omega),Ac,Cp (by omega) (by omega),Aa,Aa,Ll,decide_eq_true h,Bool.true_and,Int.toNat_natCast]
 congr 1
 rw[Bool.eq_iff_iff,beq_iff_eq,beq_iff_eq]
 exact eq_comm
theorem Av8{b s:List UInt8}(h:¬b.length<s.length):Ll b s=false:=by rw[Ll,decide_eq_false h];rfl
theorem Bys(b:List UInt8):Ns b=some (Ll b ID3||Ll b APX):=by
 obtain⟨q,hq⟩:∃q,FUEL=q+3:=⟨FUEL-3,by have:=Ao;omega⟩
 have l3:If b (q+1) 2=some false:=by rw[If,Rk,if_neg (by decide)];rfl
 have l2:If b (q+2) 1=some (Ll b APX):=by
  rw[If,Rk,if_pos (by decide),show getI ([([73,68,51]:LB),([65,80,69,84,65,71,69,88]:LB)]:List LB) 1=some APX from rfl,Aa,show Ad (1:Int) 1=2 from rfl]
  by_cases h:b.length<APX.length
  ·rw[if_pos (by rw[Af,Ac,Ac];simp;omega),Bya b APX h,Aa]
   by_cases hb:Ll b APX=true
   ·rw[if_pos hb,hb]
   ·rw[if_neg hb,l3];simpa using hb
  ·rw[if_neg (by rw[Af,Ac,Ac];simp;omega),l3,Av8 h]
 rw[Ns,Ahj,Ahn,hq,If,Rk,if_pos (by decide),show getI ([([73,68,51]:LB),([65,80,69,84,65,71,69,88]:LB)]:List LB) 0=some ID3 from rfl,Aa,show Ad (0:Int) 1=1 from rfl]
 by_cases h:b.length<ID3.length
 ·rw[if_pos (by rw[Af,Ac,Ac];simp;omega),Bya b ID3 h,Aa]
  by_cases hb:Ll b ID3=true
  ·rw[if_pos hb,hb];rfl
  ·rw[if_neg hb,l2,Bool.eq_false_iff.2 hb];rfl
 ·rw[if_neg (by rw[Af,Ac,Ac];simp;omega),l2,Av8 h];rfl
def stS(b:List UInt8):Int×Int×Int×Int×Int×Int×Int:=
 if(frontS b).2=24 then(0,0,0,0,0,0, -1)else if(frontS b).2≠0 then(0,0,0,0,0,0,(frontS b).2)else
 if(Ll (hdr b) ID3||Ll (hdr b) APX)=true then(0,0,0,0,0,0, -1)else
 if(readS (hdr b)).2.2.2.2.2=24 then(0,0,0,0,0,0, -1)else((frontS b).1+22,(readS (hdr b)).1,(readS (hdr b)).2.1,(readS (hdr b)).2.2.1,(readS (hdr b)).2.2.2.1,(readS (hdr b)).2.2.2.2.1,(readS (hdr b)).2.2.2.2.2)
theorem Ut(b:List UInt8)(hb:b.length≤100000):Uo b=some (stS b):=by
 rw[Uo,Aan,Wl b (by omega),Aa,stS]
 have hok:=Wd (b:=b)
 simp only
 by_cases h1:(frontS b).2=24
 ·rw[if_pos (by rw[Al];simpa using h1),if_pos h1]
 rw[if_neg (by rw[Al];simpa using h1),if_neg h1]
 by_cases h2:(frontS b).2≠0
 ·rw[if_pos (by rw[Ag];simpa using h2),if_pos h2]
 have h0:(frontS b).2=0:=by simpa using h2
 obtain⟨k1,k2,k3⟩:=hok h0
 rw[if_neg (by rw[Ag,h0];simp),if_neg h2,Bg (by omega) (by omega),Aa,Bkz,Aa,show b.drop (frontS b).1.toNat=hdr b from rfl,show([73,68,51]:LB)=ID3 from rfl,show([65,80,69,84,65,71,69,88]:LB)=APX from rfl]
 by_cases h3:Ll (hdr b) ID3=true
 ·rw[if_pos h3,h3,Bool.true_or,if_pos rfl]
 rw[if_neg h3,Bkz,Aa,Bool.eq_false_iff.2 h3,Bool.false_or]
 by_cases h4:Ll (hdr b) APX=true
 ·rw[if_pos h4,if_pos h4]
 have hl:(hdr b).length≤b.length:=by rw[hdr,List.length_drop];omega
 rw[if_neg h4,if_neg h4,Zn,Aai,An7 _ (by omega),Aa]
 simp only
 by_cases h5:(readS (hdr b)).2.2.2.2.2=24
 ·rw[if_pos (by rw[Al];simpa using h5),if_pos h5]
 ·rw[if_neg (by rw[Al];simpa using h5),if_neg h5,Aj (by omega) (by omega)]
end Go.Pl
set_option linter.unusedVariables false
set_option linter.unusedSimpArgs false
namespace Go.Pl
open Go Go.Lv
theorem Kt{p q:LB}{n:Nat}(h:n≤p.length):(p++q).take n=p.take n:=by rw[List.take_append_of_le_length h]
theorem Azs{p q:LB}{i:Nat}(h:i<p.length):(p++q).getD i 0=p.getD i 0:=by
 rw[List.getD_eq_getElem?_getD,List.getElem?_append_left h,←List.getD_eq_getElem?_getD]
theorem Nq{p q:LB}{a w:Nat}(h:a+w≤p.length):part (p++q) a w=part p a w:=by rw[part,Kt h,part]
theorem Cay{p q s:LB}(h:Ll p s=false)(hl:p.length<s.length):(p++q).take s.length≠s:=by
 intro e
 rw[Ll,decide_eq_true hl,Bool.true_and]at h
 have h1:p=s.take p.length:=by
  have:=congrArg (List.take p.length) e
  rw[List.take_take,Nat.min_eq_left (by omega),Kt (Nat.le_refl _),List.take_length]at this
  exact this
 rw[←h1]at h
 simp at h
theorem Bk2{p:LB}(q:LB)(h:(Wq p).2≠24)(h6:Ll p ID3=false):Wq (p++q)=Wq p:=by
 unfold Wq at h⊢
 by_cases h3:3≤p.length∧p.take 3=[73,68,51]
 ·have h3':3≤(p++q).length∧(p++q).take 3=[73,68,51]:=⟨by rw[List.length_append];omega,by rw[Kt h3.1];exact h3.2⟩
  have n1:¬ ¬(3≤p.length∧p.take 3=[73,68,51]):=fun f=>f h3
  have n2:¬ ¬(3≤(p++q).length∧(p++q).take 3=[73,68,51]):=fun f=>f h3'
  rw[if_neg n1]at h
  rw[if_neg n1,if_neg n2]
  by_cases h10:p.length<10
  ·rw[if_pos h10]at h;exact absurd rfl h
  ·have h10':¬(p++q).length<10:=by rw[List.length_append];omega
   rw[if_neg h10]at h
   rw[if_neg h10,if_neg h10',Nq (by omega),Azs (by omega),Azs (by omega),Azs (by omega)]
   split
   ·rfl
   ·rename_i hc
    rw[if_neg hc]at h
    unfold Bdq Ao2 at h⊢
    rw[Azs (by omega)]
    generalize(Am7 (part p 6 4) 0).1+10+(if p.getD 5 0=16 then 10 else 0)=n at h⊢
    by_cases c1:4000<n
    ·rw[if_pos c1,if_pos c1]
    ·rw[if_neg c1]at h
     rw[if_neg c1,if_neg c1]
     by_cases c2:(p.length:Int)<n
     ·rw[if_pos c2]at h;exact absurd rfl h
     ·have c2':¬((p++q).length:Int)<n:=by rw[List.length_append];omega
      rw[if_neg c2,if_neg c2',Kt (by omega),Nq (by omega)]
 ·rw[if_pos h3,if_pos]
  rintro⟨_,h5⟩
  by_cases hl:3≤p.length
  ·rw[Kt hl]at h5;exact h3 ⟨hl,h5⟩
  ·exact Cay h6 (by simp[ID3];omega) h5
theorem Bri{p:LB}(q:LB)(h:(Ii p).2≠24)(h6:Ll p APX=false):Ii (p++q)=Ii p:=by
 unfold Ii at h⊢
 by_cases h3:8≤p.length∧p.take 8=APE
 ·have h3':8≤(p++q).length∧(p++q).take 8=APE:=⟨by rw[List.length_append];omega,by rw[Kt h3.1];exact h3.2⟩
  have n1:¬ ¬(8≤p.length∧p.take 8=APE):=fun f=>f h3
  have n2:¬ ¬(8≤(p++q).length∧(p++q).take 8=APE):=fun f=>f h3'
  rw[if_neg n1]at h
  rw[if_neg n1,if_neg n2]
  by_cases h10:p.length<32
  ·rw[if_pos h10]at h;exact absurd rfl h
  ·have h10':¬(p++q).length<32:=by rw[List.length_append];omega
   have eb:Aap (p++q)=Aap p:=by rw[Aap,Aap,Nq (by omega),Nq (by omega)]
   rw[if_neg h10]at h
   rw[if_neg h10,if_neg h10',Nq (by omega),Nq (by omega),eb,Kt (n:=32) (by omega)]
   split
   ·rfl
   ·rename_i hc
    rw[if_neg hc]at h
    by_cases c2:p.length<Ee (part p 12 4)+32
    ·rw[if_pos c2]at h;exact absurd rfl h
    ·have c2':¬(p++q).length<Ee (part p 12 4)+32:=by rw[List.length_append];omega
     rw[if_neg c2,if_neg c2',Kt (by omega)]
 ·rw[if_pos h3,if_pos]
  rintro⟨_,h5⟩
  by_cases hl:8≤p.length
  ·rw[Kt hl]at h5;exact h3 ⟨hl,h5⟩
  ·exact Cay h6 (by simp[APX];omega) h5
theorem Bci{p:LB}(q:LB)(h:(Cf p).2≠24)(h6:(Cf p).2=6→Ll p ID3=false∧Ll p APX=false):Cf (p++q)=Cf p:=by
 have beg8:∀s:LB,s.length≤p.length→Ll p s=false:=fun s hs=>Av8 (by omega)
 unfold Cf at h h6⊢
 by_cases hT:(Wq p).2≠6
 ·rw[if_pos hT]at h⊢
  have h3:Ll p ID3=false:=by
   refine beg8 _ ?_
   unfold Wq at hT
   by_cases h3:3≤p.length∧p.take 3=[73,68,51]
   ·simp[ID3];omega
   ·rw[if_pos h3]at hT;exact absurd rfl hT
  rw[Bk2 q h h3,if_pos hT]
 ·rw[if_neg hT]at h h6⊢
  have hb:Ll p ID3=false∧Ll p APX=false:=by
   by_cases hA:(Ii p).2=6
   ·exact h6 hA
   ·unfold Ii at hA
    by_cases h3:8≤p.length∧p.take 8=APE
    ·exact⟨beg8 _ (by simp[ID3];omega),beg8 _ (by simp[APX];omega)⟩
    ·rw[if_pos h3]at hA;exact absurd rfl hA
  have hT':¬(Wq (p++q)).2≠6:=by
   rw[Bk2 q (by simp only[ne_eq,Classical.not_not]at hT;rw[hT];decide) hb.1];exact hT
  rw[if_neg hT',Bri q h hb.2]
theorem Bhb{p:LB}(q:LB):∀(j s j':Nat),s≤p.length→p.length-s<j→p.length+q.length-s<j'→(Bt p j s).2≠24→
  ((Bt p j s).2=0→Ll (p.drop (s+(Bt p j s).1.sum.toNat)) ID3=false∧Ll (p.drop (s+(Bt p j s).1.sum.toNat)) APX=false)→Bt (p++q) j' s=Bt p j s
 |0,s,j',_,hj,_,_,_=>absurd hj (Nat.not_lt_zero _)
 |j+1,s,0,_,_,hj,_,_=>absurd hj (Nat.not_lt_zero _)
 |j+1,s,j'+1,hs,hj,hj',h,hb=>by
  have ed:(p++q).drop s=p.drop s++q:=List.drop_append_of_le_length hs
  rw[Bt]at h hb⊢
  rw[Bt,ed]
  by_cases h6:(Cf (p.drop s)).2=6
  ·rw[if_pos h6]at h hb⊢
   have hb':=hb rfl
   simp only[List.sum_nil,Int.toNat_zero,Nat.add_zero]at hb'
   rw[Bci q (by rw[h6];decide) (fun _=>hb'),if_pos h6]
  ·rw[if_neg h6]at h hb⊢
   by_cases h0:(Cf (p.drop s)).2≠0
   ·rw[if_pos h0]at h⊢
    rw[Bci q h (fun e=>absurd e h6),if_neg h6,if_pos h0]
   ·rw[if_neg h0]at h hb⊢
    have h0':(Cf (p.drop s)).2=0:=by simpa using h0
    have e1:Cf (p.drop s++q)=Cf (p.drop s):=Bci q (by rw[h0'];decide) (fun e=>absurd e h6)
    rw[e1,if_neg h6,if_neg h0]
    have hok:=As8 (b:=p.drop s) (n:=(Cf (p.drop s)).1) (by rw[←h0'])
    rw[List.length_drop]at hok
    by_cases hm:4000<(s:Int)+(Cf (p.drop s)).1
    ·rw[if_pos hm,if_pos hm]
    ·rw[if_neg hm]at h hb⊢
     rw[if_neg hm]
     have hl1:s+(Cf (p.drop s)).1.toNat≤p.length:=by omega
     have ih:=Bhb (p:=p) q j (s+(Cf (p.drop s)).1.toNat) j' hl1 (by omega) (by omega)
     by_cases hr:(Bt p j (s+(Cf (p.drop s)).1.toNat)).2=0
     ·rw[if_pos hr]at hb⊢
      have hle1:s+(Cf (p.drop s)).1.toNat≤p.length:=by omega
      have hle2:s+(Cf (p.drop s)).1.toNat≤4000:=by omega
      have hi:=(Awa p j (s+(Cf (p.drop s)).1.toNat) hle1 hle2 hr).1
      have hsum:(0:Int)≤(Bt p j (s+(Cf (p.drop s)).1.toNat)).1.sum:=by
       have:∀l:List Int,(∀x∈l,10≤x)→0≤l.sum:=by
        intro l
        induction l with
        |nil=>intro _;simp
        |cons a l ih=>intro h;rw[List.sum_cons];have:=h a (by simp);have:=ih (fun x hx=>h x (by simp[hx]));omega
       exact this _ hi
      rw[ih (by rw[hr];decide) (fun _=>by
       have:=hb rfl
       simp only[List.sum_cons]at this
       rw[show s+((Cf (p.drop s)).1+(Bt p j (s+(Cf (p.drop s)).1.toNat)).1.sum).toNat=s+(Cf (p.drop s)).1.toNat+(Bt p j (s+(Cf (p.drop s)).1.toNat)).1.sum.toNat by omega]at this
       exact this),if_pos hr]
     ·rw[if_neg hr]at h⊢
      rw[ih h (fun e=>absurd e hr),if_neg hr]
theorem Bg4{p:LB}(q:LB)(h:(frontS p).2≠24)(hb:(frontS p).2=0→Ll (hdr p) ID3=false∧Ll (hdr p) APX=false):frontS (p++q)=frontS p:=by
 have key:Bt (p++q) ((p++q).length+1) 0=Bt p (p.length+1) 0:=by
  refine Bhb q (p.length+1) 0 ((p++q).length+1) (Nat.zero_le _) (by omega) (by rw[List.length_append];omega) ?_ ?_
  ·unfold frontS Bji at h
   by_cases h0:(Bt p (p.length+1) 0).2=0
   ·rw[h0];decide
   ·rw[if_neg h0]at h;exact h
  ·intro h0
   have e:frontS p=(((0:Nat):Int)+(Bt p (p.length+1) 0).1.sum,0):=by unfold frontS Bji;rw[if_pos h0]
   have:=hb (by rw[e])
   rw[hdr,e]at this
   simpa using this
 unfold frontS Bji
 rw[key]
theorem Bv8{p:LB}(q:LB)(h:(readS p).2.2.2.2.2≠24):readS (p++q)=readS p:=by
 unfold readS at h⊢
 by_cases h1:p.take (min 4 p.length)≠Atz.take (min 4 p.length)
 ·have h1':(p++q).take (min 4 (p++q).length)≠Atz.take (min 4 (p++q).length):=by
   intro e
   have hle:min 4 p.length≤min 4 (p++q).length:=by rw[List.length_append];omega
   have:=congrArg (List.take (min 4 p.length)) e
   rw[List.take_take,List.take_take,Nat.min_eq_left hle,Kt (by omega)]at this
   exact h1 this
  rw[if_pos h1,if_pos h1']
 ·rw[if_neg h1]at h
  by_cases h2:p.length<22
  ·rw[if_pos h2]at h;exact absurd rfl h
  ·have h2':¬(p++q).length<22:=by rw[List.length_append];omega
   have h1':¬(p++q).take (min 4 (p++q).length)≠Atz.take (min 4 (p++q).length):=by
    rw[Nat.min_eq_left (by omega)]at h1⊢
    rw[Kt (by omega)];exact h1
   have e0:f0 (p++q)=f0 p:=by unfold f0;rw[Nq (by omega)]
   have e1:f1 (p++q)=f1 p:=by unfold f1;rw[Nq (by omega)]
   have e2:f2 (p++q)=f2 p:=by unfold f2;rw[Nq (by omega)]
   have e3:f3 (p++q)=f3 p:=by unfold f3;rw[Nq (by omega)]
   have e4:f4 (p++q)=f4 p:=by unfold f4;rw[Nq (by omega)]
   rw[if_neg h1,if_neg h1',if_neg h2,if_neg h2',e0,e1,e2,e3,e4,Kt (by omega),Nq (by omega)]
theorem Cdz{p:LB}(q:LB)(h:(stS p).2.2.2.2.2.2≠ -1):stS (p++q)=stS p:=by
 unfold stS at h⊢
 by_cases h1:(frontS p).2=24
 ·rw[if_pos h1]at h;exact absurd rfl h
 rw[if_neg h1]at h
 by_cases h2:(frontS p).2≠0
 ·rw[Bg4 q h1 (fun e=>absurd e h2),if_neg h1,if_pos h2,if_neg h1,if_pos h2]
 rw[if_neg h2]at h
 have h0:(frontS p).2=0:=by simpa using h2
 by_cases h3:(Ll (hdr p) ID3||Ll (hdr p) APX)=true
 ·rw[if_pos h3]at h;exact absurd rfl h
 rw[if_neg h3]at h
 have h3f:Ll (hdr p) ID3=false∧Ll (hdr p) APX=false:=by
  simp only[Bool.not_eq_true,Bool.or_eq_false_iff]at h3;exact h3
 have eF:=Bg4 q h1 (fun _=>h3f)
 obtain⟨k1,k2,k3⟩:=Wd h0
 have eH:hdr (p++q)=hdr p++q:=by rw[hdr,eF,hdr,List.drop_append_of_le_length (by omega)]
 by_cases h5:(readS (hdr p)).2.2.2.2.2=24
 ·rw[if_pos h5]at h;exact absurd rfl h
 have eR:readS (hdr p++q)=readS (hdr p):=Bv8 q h5
 have beg:∀s:LB,Ll (hdr p) s=false→(s=ID3∨s=APX)→Ll (hdr p++q) s=false:=by
  intro s hs hk
  by_cases hl:(hdr p++q).length<s.length
  ·have hp:(hdr p).length<s.length:=by rw[List.length_append]at hl;omega
   rw[Ll,decide_eq_true hp,Bool.true_and]at hs
   rw[Ll,decide_eq_true hl,Bool.true_and]
   refine beq_eq_false_iff_ne.2 fun e=>?_
   have:=congrArg (List.take (hdr p).length) e
   rw[Kt (Nat.le_refl _),List.take_length,List.take_take,Nat.min_eq_left (by rw[List.length_append];omega)]at this
   rw[←this]at hs
   simp at hs
  ·exact Av8 hl
 rw[eF,eH,eR,if_neg h1,if_neg h2,beg _ h3f.1 (.inl rfl),beg _ h3f.2 (.inr rfl),if_neg (by decide),if_neg h5,if_neg h1,if_neg h2,if_neg h3]
theorem Bv7{p:LB}(q:LB)(n:Nat)(h:(seekS p n).2≠24):seekS (p++q) n=seekS p n:=by
 unfold seekS at h⊢
 by_cases h1:1≤n∧n≤1000
 ·have n1:¬ ¬(1≤n∧n≤1000):=fun f=>f h1
  rw[if_neg n1]at h
  rw[if_neg n1,if_neg n1]
  by_cases h2:p.length<4*n+4
  ·rw[if_pos h2]at h;exact absurd rfl h
  ·have h2':¬(p++q).length<4*n+4:=by rw[List.length_append];omega
   have et:Ai9 (p++q) n=Ai9 p n:=by
    unfold Ai9
    refine List.map_congr_left fun i hi=>?_
    rw[List.mem_range]at hi
    rw[Nq (by omega)]
   rw[if_neg h2,if_neg h2',Kt (by omega),Nq (by omega),et]
 ·rw[if_pos h1,if_pos h1]
end Go.Pl
set_option linter.unusedVariables false
set_option linter.unusedSimpArgs false
namespace Go.Pl
open Go Go.Lv
def Brz(g a:LB)(k p o u v:Int)(f:LI)(b:Int)(h:LB)(m:Bool)(n:Int):Option Int:=
if(geq k 0)then
(Gz a).bind fun(al,ba)=>
if(geq ba 24)then
Dl true 0
else
if(Ay ba 0)then
(Ah ba).bind fun(bx,bz)=>
Dl bx bz
else
(Ba a al (Ac a)).bind fun da=>
(Ns da).bind fun an=>
if an then
Dl true 0
else
(Ba a al (Ac a)).bind fun db=>
(Jr db).bind fun(ae,af,aa,ag,ab,bb)=>
if(geq bb 24)then
Dl true 0
else
if(Ay bb 0)then
(Ah bb).bind fun(dc,dd)=>
Dl dc dd
else
(
(Ba a (Ad al 22) (Ac a)).bind fun ak=>
(
Tv g ak ae af aa ag ab b m n f h))
else
if(geq (Ac f) 0)then
if(geq k 2)then
if(Cb (Ac a) 8)then
Hm true 0
else
To g a k p o u v b m n f h
else
Ho g a k p o u v b m n f h 0
else
if(Cb b (Ac f))then
(getI f b).bind fun _=>
(getI f b).bind fun w=>
if(Cb (Ac a) w)then
Gd true 0
else
(Nl g).bind fun(ap,am)=>
if(Ay am 0)then
(Ah am).bind fun(de,df)=>
Gd de df
else
(Cu k p o u v).bind fun(ad,dg)=>
if((Ay dg 0)||(Ls b (Ac ad)))then
(Ah 8).bind fun(dh,di)=>
Gd dh di
else
Tg w g a k p o u v b m n ap ad f h
else
if(Eb (Ac a) 4000)then
(Ah 38).bind fun(dj,bf)=>
Bc ((dj==true)&&((geq bf 0)&&true))
else
Tq
theorem Ay4(d:Bool)(e:Int):Dl d e=Bc (d&&geq e 0):=by
 rw[Dl,Aa1];cases d<;>simp
theorem Bf1(d:Bool)(e:Int):Hm d e=Bc (d&&geq e 0):=by
 rw[Hm,Ac0];cases d<;>simp
theorem Bsz(d:Bool)(e:Int):Gd d e=Bc (d&&geq e 0):=by
 rw[Gd,Abw];cases d<;>simp
theorem rp4{o p:LB}{f c w r n:Int}{g:LI}{a:Int}{x:LB}{u:Bool}{v:Int}{t1 t2:LB}{t3 t4 t5 t6 t7:Int}{t8:LI}{t9:Int}{t10:LB}{t11:Bool}{t12 e:Int}
  (h:cadenzaref37_take o p f c w r n g a x u v=some (t1,t2,t3,t4,t5,t6,t7,t8,t9,t10,t11,t12,e)):Bu o p f c w r n g a x u v=some (geq e (-1)):=by
 rw[Bu,Td,h,Aa]
theorem Ap4{e:Int}(h:0≤e):geq e (-1)=false:=by rw[Al,beq_eq_false_iff_ne];omega
theorem Bwb(o p:LB)(c w r n:Int)(g:LI)(a:Int)(x:LB)(u:Bool)(v:Int)(hp:p.length≤100000):
  ∃B:Bool,Brz o p 0 c w r n g a x u v=Bc B∧Bu o p 0 c w r n g a x u v=some B:=by
 have hT:cadenzaref37_take o p 0 c w r n g a x u v=cadenzaref37_take o p 0 c w r n g a x u v:=rfl
 conv at hT=>rhs;rw[cadenzaref37_take,Bf,if_pos (by decide),Ut p hp,Aa,stS]
 have hfn:=Bby p
 have hrn:=Bfo (hdr p)
 rw[Brz,if_pos (by decide),Qa p (by omega),Aa]
 have hok:=Wd (b:=p)
 simp only at hT⊢
 by_cases h1:(frontS p).2=24
 ·rw[if_pos h1]at hT
  simp only at hT
  rw[if_pos (by decide)]at hT
  rw[if_pos (by rw[Al];simpa using h1),Ay4]
  exact⟨_,rfl,rp4 hT⟩
 rw[if_neg h1]at hT
 rw[if_neg (by rw[Al];simpa using h1)]
 by_cases h2:(frontS p).2≠0
 ·rw[if_pos h2]at hT
  simp only at hT
  rw[if_pos (by rw[Ag];simpa using h2)]at hT
  rw[if_pos (by rw[Ag];simpa using h2),Ah,Aa]
  simp only
  rw[Ay4]
  exact⟨_,rfl,(rp4 hT).trans (by rw[Ap4 hfn];rfl)⟩
 have h0:(frontS p).2=0:=by simpa using h2
 obtain⟨k1,k2,k3⟩:=hok h0
 have hl:(hdr p).length=p.length-(frontS p).1.toNat:=by rw[hdr,List.length_drop]
 rw[if_neg h2]at hT
 rw[if_neg (by rw[Ag,h0];simp),Bg (by omega) (by omega),Aa,Aa,show p.drop (frontS p).1.toNat=hdr p from rfl,Bys,Aa]
 by_cases h3:(Ll (hdr p) ID3||Ll (hdr p) APX)=true
 ·rw[if_pos h3]at hT⊢
  simp only at hT
  rw[if_pos (by decide)]at hT
  rw[Ay4]
  exact⟨_,rfl,rp4 hT⟩
 rw[if_neg h3]at hT⊢
 rw[Aji _ (by omega),Aa]
 by_cases h5:(readS (hdr p)).2.2.2.2.2=24
 ·rw[if_pos h5]at hT
  simp only at hT
  rw[if_pos (by decide)]at hT
  rw[if_pos (by rw[Al];simpa using h5),Ay4]
  exact⟨_,rfl,rp4 hT⟩
 rw[if_neg h5]at hT
 rw[if_neg (by rw[Al];simpa using h5)]
 simp only at hT
 by_cases h6:(readS (hdr p)).2.2.2.2.2≠0
 ·rw[if_pos (by rw[Ag];simpa using h6)]at hT⊢
  rw[Ah,Aa]
  simp only
  rw[Ay4]
  exact⟨_,rfl,(rp4 hT).trans (by rw[Ap4 hrn];rfl)⟩
 have h7:(readS (hdr p)).2.2.2.2.2=0:=by simpa using h6
 have h22:=(At7 h7).2.1
 rw[if_neg (by rw[Ag,h7];simp),Bg (by omega) (by omega),Aa,Fb,Fm,Dd]at hT
 rw[if_neg (by rw[Ag,h7];simp),Aj (by omega) (by omega),Bg (by omega) (by omega),Aa,Tv,Aa7,Mm]
 simp only
 by_cases h8:((o==([]:LB)) !=geq (readS (hdr p)).1 1)=true
 ·rw[if_pos h8]at hT⊢
  rw[Aa]at hT⊢
  rw[Ah,Aa]
  simp only
  rw[Ay4]
  exact⟨_,rfl,rp4 hT⟩
 ·rw[if_neg h8]at hT⊢
  rw[Aa]at hT⊢
  rw[Ah,Aa]
  simp only
  rw[Ay4]
  exact⟨_,rfl,rp4 hT⟩
end Go.Pl
set_option linter.unusedVariables false
set_option linter.unusedSimpArgs false
namespace Go.Pl
open Go Go.Lv
section
variable {f c w r n:Int} {F C W R N:Nat} (hd:HdI f c w r n F C W R N)
include hd
theorem HdI.ne0:¬(geq f 0=true):=by
 have:=hd.num
 rw[Al,beq_iff_eq,hd.ef];omega
theorem Bb5(o p:LB)(hp:p.length≤100000)(A:Nat)(hA:A≤p.length)(a:Int)(x:LB)(u:Bool)(v:Int):
  (Ho o p f c w r n a u v [] x (A:Int)=Bc (decide ((seekS (p.drop A) (framesL (longN R) N).length).2=24)))∧
  Ct p f c w r n (A:Int)=some (if(seekS (p.drop A) (framesL (longN R) N).length).2=24 then(0,[], -1)else((A:Int)+(4*((seekS (p.drop A) (framesL (longN R) N).length).1.length:Int)+4),(seekS (p.drop A) (framesL (longN R) N).length).1,(seekS (p.drop A) (framesL (longN R) N).length).2))∧
  ((seekS (p.drop A) (framesL (longN R) N).length).2=0→(A:Int)+(4*((seekS (p.drop A) (framesL (longN R) N).length).1.length:Int)+4)≤p.length):=by
 have hs:=Av2 (p.drop A) (framesL (longN R) N).length (by rw[List.length_drop];omega)
 have hr:=Bg0 (p.drop A) (framesL (longN R) N).length (by rw[List.length_drop];omega)
 have hok:=Ao0 (b:=p.drop A) (n:=(framesL (longN R) N).length)
 have hlen:(seekS (p.drop A) (framesL (longN R) N).length).1.length≤1000:=by
  unfold seekS
  repeat' split
  all_goals simp[Rl]
  all_goals omega
 have hfit:(seekS (p.drop A) (framesL (longN R) N).length).2=0→(A:Int)+(4*((seekS (p.drop A) (framesL (longN R) N).length).1.length:Int)+4)≤p.length:=by
  intro h0
  obtain⟨k1,k2,k3,k4,_⟩:=hok h0
  rw[k1]
  simp only[Rl]
  rw[List.length_drop]at k4
  omega
 refine⟨?_,?_,hfit⟩
 ·rw[Ho,Acf,hd.Bbm,Aa]
  simp only
  rw[if_neg (by decide),Bg (by omega) (by omega),Aa,Int.toNat_natCast,Ac,hs,Aa]
  generalize seekS (p.drop A) (framesL (longN R) N).length=z at*
  obtain⟨z1,z2⟩:=z
  simp only at*
  by_cases h1:z2=24
  ·rw[if_pos (by rw[Al];simpa using h1),Bf1,decide_eq_true h1];rfl
  rw[if_neg (by rw[Al];simpa using h1),decide_eq_false h1]
  by_cases h2:z2≠0
  ·rw[if_pos (by rw[Ag];simpa using h2),Ah,Aa]
   simp only
   rw[Bf1];rfl
  ·have h0:z2=0:=by simpa using h2
   have:=hfit h0
   rw[if_neg (by rw[Ag,h0];simp),Ac,Bfs A z1.length (by omega) (by omega),Bg (by omega) (by omega),Aa,Bf1];rfl
 ·rw[Ct,Abk,Bg (by omega) (by omega),Aa,hd.Bnj,Aa,Ac,Int.toNat_natCast,hr,Aa]
  generalize seekS (p.drop A) (framesL (longN R) N).length=z at*
  obtain⟨z1,z2⟩:=z
  simp only at*
  rw[Abt,Acx]
  by_cases h1:z2=24
  ·rw[if_pos (by rw[Al];simpa using h1),if_pos h1]
  ·rw[if_neg (by rw[Al];simpa using h1),if_neg h1,Ac,Bfs A z1.length (by omega) (by omega)]
   congr 2
theorem Ce1(o p:LB)(ho:o.length≤64)(hp:p.length≤100000)(a:Int)(x:LB)(u:Bool)(v:Int):
  ∃B:Bool,Brz o p f c w r n [] a x u v=Bc B∧Bu o p f c w r n [] a x u v=some B:=by
 have hT:cadenzaref37_take o p f c w r n [] a x u v=cadenzaref37_take o p f c w r n [] a x u v:=rfl
 conv at hT=>rhs;rw[cadenzaref37_take,Bf,if_neg hd.ne0,Bp,Bm,if_pos (by decide),Di,Fs]
 rw[Brz,if_neg hd.ne0,if_pos (by decide)]
 have fin:∀A:Nat,A≤p.length→cadenzaref37_take o p f c w r n [] a x u v=(Ct p f c w r n (A:Int)).bind (fun(ag,ak,w1)=>
   if(Ay w1 0)then some (o,p,f,c,w,r,n,[],a,x,u,v,w1)else(Ba p ag (Ac p)).bind fun al=>some (o,al,f,c,w,r,n,ak,a,x,u,v,0))→
   ∃B:Bool,Ho o p f c w r n a u v [] x (A:Int)=Bc B∧Bu o p f c w r n [] a x u v=some B:=by
  intro A hA hT
  obtain⟨t1,t2,t3⟩:=Bb5 hd o p hp A hA a x u v
  have hnn:=Bhg (p.drop A) (framesL (longN R) N).length
  rw[t2,Aa]at hT
  rw[t1]
  generalize seekS (p.drop A) (framesL (longN R) N).length=z at*
  obtain⟨z1,z2⟩:=z
  simp only at*
  by_cases h1:z2=24
  ·rw[if_pos h1]at hT
   simp only at hT
   rw[if_pos (by decide)]at hT
   exact⟨_,rfl,(rp4 hT).trans (by rw[decide_eq_true h1];rfl)⟩
  rw[if_neg h1]at hT
  simp only at hT
  by_cases h2:z2≠0
  ·rw[if_pos (by rw[Ag];simpa using h2)]at hT
   exact⟨_,rfl,(rp4 hT).trans (by rw[decide_eq_false h1,Ap4 hnn])⟩
  ·have h0:z2=0:=by simpa using h2
   have:=t3 h0
   rw[if_neg (by rw[Ag,h0];simp),Bg (by omega) (by omega),Aa]at hT
   exact⟨_,rfl,(rp4 hT).trans (by rw[decide_eq_false h1];rfl)⟩
 by_cases h2:geq f 2=true
 ·rw[if_pos h2]at hT⊢
  by_cases h8:p.length<8
  ·rw[if_pos (by rw[Af,Ac];simp;omega)]at hT⊢
   rw[Aa]at hT
   simp only at hT
   rw[if_pos (by decide)]at hT
   rw[Bf1]
   exact⟨_,rfl,rp4 hT⟩
  ·rw[if_neg (by rw[Af,Ac];simp;omega)]at hT⊢
   have h8':(p.take 8).length=8:=by rw[List.length_take];omega
   rw[Cp (by omega) (by omega),Aa,Apa o ho,Aa]at hT
   rw[To,Abp,Cp (by omega) (by omega),Aa,show(8:Int).toNat=8 from rfl,Bg2 h8' ho,Aa]
   rw[show(8:Int).toNat=8 from rfl]at hT
   simp only
   rw[Acv,Aby,if_neg (by decide)]
   by_cases he:(p.take 8==leB (Wo o).toNat 8)=true
   ·rw[if_neg (by rw[bne,he];decide)]at hT
    rw[if_neg (by rw[he];decide)]
    exact fin 8 (by omega) hT
   ·have he':(p.take 8==leB (Wo o).toNat 8)=false:=by simpa using he
    rw[if_pos (by rw[bne,he'];decide),Aa]at hT
    simp only at hT
    rw[if_pos (by decide)]at hT
    rw[if_pos (by rw[he'];decide),Ah,Aa]
    simp only
    rw[Bf1]
    exact⟨_,rfl,rp4 hT⟩
 ·rw[if_neg h2]at hT⊢
  exact fin 0 (by omega) hT
end
end Go.Pl
set_option linter.unusedVariables false
set_option linter.unusedSimpArgs false
namespace Go.Pl
open Go Go.Lv
theorem Bxa{f c w r n:Int}{F C W R N:Nat}(hd:HdI f c w r n F C W R N)(o p:LB)(ho:o.length≤64)(hp:p.length≤100000)(g:LI)(hg:tabB g=true)(hl:g.length=(framesL (longN R) N).length)(A:Nat)(hA:A≤g.length)(x:LB)(hx:x.length≤14000000)(u:Bool)(v:Int):
  ∃B:Bool,Brz o p f c w r n g (A:Int) x u v=Bc B∧Bu o p f c w r n g (A:Int) x u v=some B:=by
 have hc:=hd.ec
 subst hc
 have hg':=hg
 rw[tabB,Bool.and_eq_true,decide_eq_true_eq,Ai6 g 100000 (by omega)]at hg'
 obtain⟨⟨g1,g2⟩,g5,g6⟩:=hg'
 have hT:cadenzaref37_take o p f (C:Int) w r n g (A:Int) x u v=cadenzaref37_take o p f (C:Int) w r n g (A:Int) x u v:=rfl
 conv at hT=>rhs;rw[cadenzaref37_take,Bf,if_neg hd.ne0,Bp,Bm,if_neg (by rw[Al,Ac];simp;intro e;subst e;simp at g1)]
 rw[Brz,if_neg hd.ne0,if_neg (by rw[Al,Ac];simp;intro e;subst e;simp at g1)]
 by_cases hA2:A=g.length
 ·subst hA2
  rw[if_pos (by rw[Al,Ac];simp)]at hT
  rw[if_neg (by rw[Af,Ac];simp)]
  by_cases h4:4000<p.length
  ·rw[if_pos (by rw[Am,Ac];simp;omega)]at hT⊢
   rw[Ah,Aa]
   simp only
   exact⟨_,rfl,rp4 hT⟩
  ·rw[if_neg (by rw[Am,Ac];simp;omega)]at hT⊢
   rw[Tq,Ada]
   exact⟨_,rfl,rp4 hT⟩
 ·have hlt:A<g.length:=by omega
  have h5:=g5 g[A] (List.getElem_mem hlt)
  have hsum:=Blq g5 g[A] (List.getElem_mem hlt)
  rw[if_neg (by rw[Al,Ac];simp;omega),Cq,Ec,By hlt,Aa]at hT
  rw[if_pos (by rw[Af,Ac];simp;omega),By hlt,Aa,Aa]
  by_cases hw:(p.length:Int)<g[A]
  ·rw[if_pos (by rw[Af,Ac];simpa using hw)]at hT⊢
   rw[Aa]at hT
   simp only at hT
   rw[if_pos (by decide)]at hT
   rw[Bsz]
   exact⟨_,rfl,rp4 hT⟩
  rw[if_neg (by rw[Af,Ac];simpa using hw)]at hT⊢
  have hnum:=hd.num
  have hlt2:A<(framesL (longN R) N).length:=by omega
  obtain⟨m,hm,m1,m2⟩:=Ui (Pe R) hnum.2.2.2.2.1 (List.getElem_mem hlt2)
  have hb:Ci w:=by rw[hd.ew];unfold Ci;omega
  obtain⟨xs,e,d1,d2,d3,d4⟩:=Af7 (bits:=w) (ch:=C) (n:=m) (t:=tapsOf o) (p.take g[A].toNat) hb (Qf o) hnum.2.1.1 hnum.2.1.2 m1 (by omega)
  have hnn:=Bbk hb (Qf o) hnum.2.1.1 hnum.2.1.2 m1 (by omega) d2
  rw[Bce o ho,Aa]
  simp only
  rw[if_neg (by decide),hd.Bbm,Aa]
  simp only
  rw[if_neg (by simp[Ag,Dq,Ac];omega),Tg,Acl,By hlt2,Aa,Cp (by omega) (by omega),Aa,Aa,Xq,Aa]
  simp only
  rw[hm,d1,Aa]
  simp only
  rw[Alm o ho,Aa]at hT
  simp only at hT
  rw[Cp (by omega) (by omega),Aa,Fi,Aa]at hT
  simp only at hT
  rw[hd.Bnj,Aa,By hlt2,Aa,Aa,hm]at hT
  rw[d2,Aa]at hT
  simp only at hT
  rw[Dw,Dx]at hT
  rw[Aay,Tu]
  by_cases he:e≠0
  ·rw[if_pos (by rw[Ag];simpa using he)]at hT⊢
   rw[Aa]at hT
   simp only at hT
   rw[if_pos (by rw[Ag];simpa using he)]at hT
   rw[Ah,Aa]
   simp only
   rw[Bsz]
   exact⟨_,rfl,(rp4 hT).trans (by rw[Ap4 hnn];rfl)⟩
  ·have he0:e=0:=by simpa using he
   obtain⟨k1,k2,k3⟩:=d3 he0
   have hbl:=Afb w xs
   rw[if_neg (by rw[Ag,he0];simp)]at hT⊢
   rw[Ajg hb k2 k1,Aa,Aa]at hT
   simp only at hT
   rw[if_neg (by decide),Cl (by simp;omega),Aa,List.nil_append,Cl (by omega),Aa,Aa,Bg (by omega) (by omega),Aa]at hT
   rw[Arb hb k2 k1,Aa]
   simp only
   rw[if_neg (by decide),Cl (by omega),Aa,Bg (by omega) (by omega),Aa,Bsz]
   exact⟨_,rfl,rp4 hT⟩
end Go.Pl
set_option linter.unusedVariables false
set_option linter.unusedSimpArgs false
namespace Go.Pl
open Go Go.Lv
theorem Bnz(a:LI)(b:Int)(ha:a.length≤100):∀(j i q:Nat),i+j=a.length→j<q→∃r,Bj a b q (i:Int)=some r∧Ls r 0=(a.drop i).any fun y=>b==y
 |0,i,q+1,hi,_=>by
  refine⟨-1,?_,?_⟩
  ·rw[Bj,Dm,if_neg (by rw[Af,Ac];simp;omega)];rfl
  ·rw[show i=a.length by omega,List.drop_length];rfl
 |j+1,i,q+1,hi,hq=>by
  have hlt:i<a.length:=by omega
  obtain⟨r,h1,h2⟩:=Bnz a b ha j (i+1) q (by omega) (by omega)
  rw[Bj,Dm,if_pos (by rw[Af,Ac];simp;omega),By hlt,Aa,drop_cons hlt,List.any_cons]
  by_cases h:b=a[i]
  ·rw[if_pos (by rw[Al];simpa using h)]
   refine⟨_,rfl,?_⟩
   rw[Dq,decide_eq_true (by omega),h];simp
  ·rw[if_neg (by rw[Al];simpa using h),Aj (by omega) (by omega)]
   refine⟨r,h1,?_⟩
   rw[h2,beq_eq_false_iff_ne.2 h,Bool.false_or]
theorem Cby(v:Int):∃B:Bool,Nz v=some B∧Uv v=some B:=by
 obtain⟨r,h1,h2⟩:=Bnz [4,12,16,22,24,26,38] v (by decide) 7 0 FUEL rfl (by have:=Ao;omega)
 refine⟨_,?_,rfl⟩
 rw[Nz,Gi,Hp,Gm,Gh]
 have h1':Bj [4,12,16,22,24,26,38] v FUEL 0=some r:=h1
 rw[h1',Aa,Aa,h2]
 simp only[List.drop_zero,List.any_cons,List.any_nil,Bool.or_false,Al,Bool.or_assoc]
theorem Ax3(B:Bool):Bc B=some (if B=true then 0 else 8):=by
 rw[Bc,Amp];cases B<;>rfl
theorem Cd7(a b:LB)(f g h k m:Int)(n:LI)(o:Int)(p:LB)(u:Bool)(v:Int)(hb:b.length≤16000000)(hn:n.length≤16000000)(hp:p.length≤16000000):
  Cx a b f g h k m n o p u v=some (a,b,f,g,h,k,m,n,o,p,u,v):=by
 rw[Cx,Gw,Cl (by simp;omega),Aa,Aa,Gw,Cl (by simp;omega),Aa,Aa,Fc,Cl (by simp;omega),Aa,Aa]
 rfl
theorem Bg6(o p:LB)(f c w r n:Int)(g:LI)(a:Int)(x:LB)(u:Bool)(v:Int)(hp:p.length≤100000)(hg:g.length≤100000)(hx:x.length≤14000000):
  ∃E,Hh o p f c w r n g a x u v=some E∧Cw o p f c w r n g a x u v=some E:=by
 rw[Hh,Wb,Cw]
 by_cases ho:64<o.length
 ·rw[if_pos (by rw[Am,Ac];simp;omega),if_pos (by rw[Am,Ac];simp;omega)]
  exact⟨8,rfl,rfl⟩
 have hO:¬(Eb (Ac o) 64=true):=by rw[Am,Ac];simp;omega
 rw[if_neg hO,if_neg hO]
 by_cases hw:(geq v 0&& !u)=true
 ·rw[if_pos hw,if_pos hw,Cd7 o p f c w r n g a x u v (by omega) (by omega) (by omega),Aa]
  simp only
  rcases Br8 o p f c w r n g a x u v with⟨e1,e2⟩|⟨e1,e2,hd⟩
  ·rw[e1,e2,Aa,Aa,if_neg (by decide),if_pos (by decide),Ax3]
   exact⟨8,rfl,rfl⟩
  ·rw[e1,e2,Aa,if_pos rfl]
   have key:∃B:Bool,Brz o p f c w r n g a x u v=Bc B∧Bu o p f c w r n g a x u v=some B:=by
    cases hd with
    |new e1 e2 e3 e4 e5 e6 e7 e8=>subst e1;exact Bwb o p c w r n g a x u v hp
    |head F C W R N h hpw e6 e7 e8=>subst e6;exact Ce1 h o p (by omega) hp a x u v
    |tab F C W R N A h hpw ht hl ea hA=>subst ea;exact Bxa h o p (by omega) hp g ht hl A hA x hx u v
   obtain⟨B,k1,k2⟩:=key
   rw[k2,Aa]
   refine⟨if B=true then 0 else 8,k1.trans (Ax3 B),?_⟩
   cases B<;>rfl
 ·rw[if_neg hw,if_neg hw]
  by_cases hl:(geq (Ac p) 0&&geq (Ac g) 0)=true
  ·rw[if_pos hl,if_pos hl]
   generalize(geq f 0&&(geq c 0&&(geq w 0&&(geq r 0&&(geq n 0&&true)))))=z
   by_cases hz:((z&&geq a 0)&&gle (Ac x) 12000)=true
   ·rw[if_pos hz]
    simp only[Bool.and_eq_true,Arr,Ac,decide_eq_true_eq]at hz
    obtain⟨⟨z1,z2⟩,z3⟩:=hz
    have hN:¬((!(z&&geq a 0)||Eb (Ac x) 12000)=true):=by rw[z1,z2,Am,Ac];simp;omega
    rw[if_neg hN]
    by_cases hv:v=0
    ·have v1:geq v 0=true:=by rw[Al];simpa using hv
     have v2:¬(Ay v 0=true):=by rw[Ag];simpa using hv
     rw[if_pos v1,if_neg v2,Ax3]
     exact⟨0,rfl,rfl⟩
    ·have v1:¬(geq v 0=true):=by rw[Al];simpa using hv
     have v2:Ay v 0=true:=by rw[Ag];simpa using hv
     rw[if_neg v1,if_pos v2]
     obtain⟨B,k1,k2⟩:=Cby v
     rw[k1,k2,Aa,Aa,Ax3,Ax3]
     cases u
     ·refine⟨if B=true then 0 else 8,by simp,?_⟩
      cases B<;>rfl
     ·exact⟨8,rfl,rfl⟩
   ·rw[if_neg hz,if_pos,Ax3]
    ·exact⟨8,rfl,rfl⟩
    ·simp only[Bool.and_eq_true,Arr,Ac,decide_eq_true_eq]at hz
     simp only[Bool.or_eq_true,Bool.not_eq_true',Am,Ac,decide_eq_true_eq]
     by_cases hz2:(z&&geq a 0)=true
     ·rw[Bool.and_eq_true]at hz2
      exact .inr (by have hq:¬((x.length:Int)≤12000):=fun h=>hz ⟨hz2,h⟩;omega)
     ·exact .inl (by simpa using hz2)
  ·rw[if_neg hl,if_neg hl,if_neg (by simp),if_pos (by simp),Ax3]
   exact⟨8,rfl,rfl⟩
end Go.Pl
set_option linter.unusedVariables false
set_option linter.unusedSimpArgs false
namespace Go.Pl
open Go Go.Lv
def feedP(bk:LB→Int→Int→Int→Int→Int→Int→LI→LB→pushdec_Feed_O)(o:LB)(u:Bool)(v:Int):LB→Int→Int→Int→Int→Int→Int→LI→LB→pushdec_Feed_O:=
 Hc (Lo bk o u v) (Pz bk o u v) (Jh bk o u v) (Po bk o u v) (Jf bk o u v) (Ln bk o u v) (Qb bk o u v) (Bn bk o u v) (Wf bk o u v) o u v
structure SzD (p:LB) (g:LI) (a:Int) (x:LB):Prop where
 hp:p.length≤100000
 hg:g.length≤1000
 hx:x.length+12000*(g.length-a.toNat)≤13000000
def muD(f:Int)(g:LI)(a:Int):Nat:=if f=0 then 1003 else if g=[]then 1002 else g.length-a.toNat+1
section
variable {bk:LB→Int→Int→Int→Int→Int→Int→LI→LB→pushdec_Feed_O} {o p:LB} {f c w r n:Int} {g:LI} {a:Int} {x:LB} {u:Bool} {v:Int}
theorem Cab(hp:p.length≤100000)(hg:g.length≤1000)(hx:x.length≤13000000):Cx o p f c w r n g a x u v=some (o,p,f,c,w,r,n,g,a,x,u,v):=by
 rw[Cx,Gw,Cl (by simp;omega),Aa,Aa,Gw,Cl (by simp;omega),Aa,Aa,Fc,Cl (by simp;omega),Aa,Aa]
 rfl
theorem Cjd(h:SzD p g a x)(e:Int):Bn bk o u v p f c w r n a true e g x=some (o,p,f,c,w,r,n,g,a,x,u,v,0):=by
 rw[Bn,Aej,if_pos rfl,Cab h.hp h.hg (by have:=h.hx;omega),Aa]
theorem Cih{e:Int}(h:e≠0):Bn bk o u v p f c w r n a false e g x=some (o,[],0,0,0,0,0,[],0,x,false,e,e):=by
 rw[Bn,Aej,if_neg (by decide),if_pos (by rw[Ag];simpa using h)];rfl
inductive StepR (bk:LB→Int→Int→Int→Int→Int→Int→LI→LB→pushdec_Feed_O) (o p:LB) (f c w r n:Int) (g:LI) (a:Int) (x:LB) (u:Bool) (v:Int):Prop
 |wait:feedP bk o u v p f c w r n a g x=some (o,p,f,c,w,r,n,g,a,x,u,v,0)→cadenzaref37_take o p f c w r n g a x u v=some (o,p,f,c,w,r,n,g,a,x,u,v, -1)→StepR bk o p f c w r n g a x u v
 |err (e:Int) {t1 t2:LB} {t3 t4 t5 t6 t7:Int} {t8:LI} {t9:Int} {t10:LB} {t11:Bool} {t12:Int}:0<e→feedP bk o u v p f c w r n a g x=some (o,[],0,0,0,0,0,[],0,x,false,e,e)→
   cadenzaref37_take o p f c w r n g a x u v=some (t1,t2,t3,t4,t5,t6,t7,t8,t9,t10,t11,t12,e)→StepR bk o p f c w r n g a x u v
 |next (p':LB) (f' c' w' r' n':Int) (g':LI) (a':Int) (x':LB):feedP bk o u v p f c w r n a g x=bk p' f' c' w' r' n' a' g' x'→cadenzaref37_take o p f c w r n g a x u v=some (o,p',f',c',w',r',n',g',a',x',u,v,0)→
   FitD o f' c' w' r' n' g' a' x'→SzD p' g' a' x'→p'.length≤p.length→muD f' g' a'<muD f g a→StepR bk o p f c w r n g a x u v
theorem f62{d:Bool}{e:Int}:Lo bk o u v a g x d e p f c w r n=Bn bk o u v p f c w r n a d e g x:=rfl
theorem f75{d:Bool}{e:Int}:Jh bk o u v f c w r n a x d e p g=Bn bk o u v p f c w r n a d e g x:=rfl
theorem f78{d:Bool}{e:Int}:Ln bk o u v f c w r n g d e p a x=Bn bk o u v p f c w r n a d e g x:=rfl
theorem mkW(hZ:SzD p g a x)(hF:feedP bk o u v p f c w r n a g x=Bn bk o u v p f c w r n a true 0 g x)(hT:cadenzaref37_take o p f c w r n g a x u v=some (o,p,f,c,w,r,n,g,a,x,u,v, -1)):StepR bk o p f c w r n g a x u v:=
 .wait (hF.trans (Cjd hZ 0)) hT
theorem mkE{e:Int}{p2:LB}{f2 c2 w2 r2 n2 a2:Int}{g2:LI}{t1 t2:LB}{t3 t4 t5 t6 t7:Int}{t8:LI}{t9:Int}{t10:LB}{t11:Bool}{t12:Int}(he:0<e)(hF:feedP bk o u v p f c w r n a g x=Bn bk o u v p2 f2 c2 w2 r2 n2 a2 false e g2 x)
  (hT:cadenzaref37_take o p f c w r n g a x u v=some (t1,t2,t3,t4,t5,t6,t7,t8,t9,t10,t11,t12,e)):StepR bk o p f c w r n g a x u v:= .err e he (hF.trans (Cih (by omega))) hT
theorem HdI.fnz{F C W R N:Nat}(h:HdI f c w r n F C W R N):f≠0:=by
 have:=h.num
 rw[h.ef];omega
theorem Bz7(hp:p.length≤100000):StepR bk o p 0 0 0 0 0 [] 0 [] u v:=by
 have hZ:SzD p [] 0 []:=⟨hp,by simp,by simp⟩
 have hT:cadenzaref37_take o p 0 0 0 0 0 [] 0 [] u v=cadenzaref37_take o p 0 0 0 0 0 [] 0 [] u v:=rfl
 conv at hT=>rhs;rw[cadenzaref37_take,Bf,if_pos (by decide),Ut p hp,Aa,stS]
 have hF:feedP bk o u v p 0 0 0 0 0 0 [] []=feedP bk o u v p 0 0 0 0 0 0 [] []:=rfl
 conv at hF=>rhs;rw[feedP,Hc,if_pos (by decide),Qa p (by omega),Aa]
 have hfn:=Bby p
 have hrn:=Bfo (hdr p)
 have hok:=Wd (b:=p)
 simp only at hT hF
 by_cases h1:(frontS p).2=24
 ·rw[if_pos h1]at hT
  simp only at hT
  rw[if_pos (by decide)]at hT
  rw[if_pos (by rw[Al];simpa using h1)]at hF
  exact mkW hZ hF hT
 rw[if_neg h1]at hT
 rw[if_neg (by rw[Al];simpa using h1)]at hF
 by_cases h2:(frontS p).2≠0
 ·rw[if_pos h2]at hT
  simp only at hT
  rw[if_pos (by rw[Ag];simpa using h2)]at hT
  rw[if_pos (by rw[Ag];simpa using h2),Ah,Aa]at hF
  exact mkE (by omega) hF hT
 have h0:(frontS p).2=0:=by simpa using h2
 obtain⟨k1,k2,k3⟩:=hok h0
 have hl:(hdr p).length=p.length-(frontS p).1.toNat:=by rw[hdr,List.length_drop]
 rw[if_neg h2]at hT
 rw[if_neg (by rw[Ag,h0];simp),Bg (by omega) (by omega),Aa,Aa,show p.drop (frontS p).1.toNat=hdr p from rfl,Bys,Aa]at hF
 by_cases h3:(Ll (hdr p) ID3||Ll (hdr p) APX)=true
 ·rw[if_pos h3]at hT hF
  simp only at hT
  rw[if_pos (by decide)]at hT
  exact mkW hZ hF hT
 rw[if_neg h3]at hT hF
 rw[Aji _ (by omega),Aa]at hF
 by_cases h5:(readS (hdr p)).2.2.2.2.2=24
 ·rw[if_pos h5]at hT
  simp only at hT
  rw[if_pos (by decide)]at hT
  rw[if_pos (by rw[Al];simpa using h5)]at hF
  exact mkW hZ hF hT
 rw[if_neg h5]at hT
 rw[if_neg (by rw[Al];simpa using h5)]at hF
 simp only at hT
 by_cases h6:(readS (hdr p)).2.2.2.2.2≠0
 ·rw[if_pos (by rw[Ag];simpa using h6)]at hT hF
  rw[Ah,Aa]at hF
  exact mkE (by have:=hrn;generalize(readS (hdr p)).2.2.2.2.2=z at *;omega) (hF.trans f62) hT
 have h7:(readS (hdr p)).2.2.2.2.2=0:=by simpa using h6
 obtain⟨r1,h22,r3,r4⟩:=At7 h7
 rw[if_neg (by rw[Ag,h7];simp),Bg (by omega) (by omega),Aa,Fb,Fm,Dd]at hT
 rw[if_neg (by rw[Ag,h7];simp),Aj (by omega) (by omega),Bg (by omega) (by omega),Aa,Pz,Aeu,Mm]at hF
 simp only at hT hF
 by_cases h8:((o==([]:LB)) !=geq (readS (hdr p)).1 1)=true
 ·rw[if_pos h8]at hT hF
  rw[Aa]at hT hF
  rw[Ah,Aa]at hF
  simp only at hF
  exact mkE (by decide) (hF.trans f62) hT
 ·rw[if_neg h8]at hT hF
  rw[Aa]at hT hF
  rw[Ah,Aa]at hF
  have hd:HdI (readS (hdr p)).1 (readS (hdr p)).2.1 (readS (hdr p)).2.2.1 (readS (hdr p)).2.2.2.1 (readS (hdr p)).2.2.2.2.1 (f0 (hdr p)) (f1 (hdr p)) (f2 (hdr p)) (f3 (hdr p)) (f4 (hdr p)):=by
   constructor<;>first|(rw[r1])|assumption
  refine .next _ _ _ _ _ _ [] 0 [] (by exact hF) hT (.head _ _ _ _ _ hd ?_ rfl rfl rfl) ⟨by rw[List.length_drop];omega,by simp,by simp⟩ (by rw[List.length_drop];omega) ?_
  ·have e:geq (readS (hdr p)).1 1=decide (f0 (hdr p)=1):=by rw[hd.ef,Al,Bool.eq_iff_iff];simp;omega
   rw[←e];simpa using h8
  ·rw[muD,muD,if_neg hd.fnz,if_pos rfl,if_pos rfl];omega
section
variable {F C W R N:Nat} (hd:HdI f c w r n F C W R N)
include hd
theorem Bum(hp:p.length≤100000)(hpw:(o==([]:LB))=decide (F=1))(A:Nat)(hA:A≤p.length)
  (hT:cadenzaref37_take o p f c w r n [] 0 [] u v=(Ct p f c w r n (A:Int)).bind (fun(ag,ak,w1)=>if(Ay w1 0)then some (o,p,f,c,w,r,n,([]:LI),(0:Int),([]:LB),u,v,w1)else(Ba p ag (Ac p)).bind fun al=>some (o,al,f,c,w,r,n,ak,(0:Int),([]:LB),u,v,(0:Int))))
  (hF:feedP bk o u v p f c w r n 0 [] []=Jf bk o u v p f c w r n 0 [] [] (A:Int)):StepR bk o p f c w r n [] 0 [] u v:=by
 have hZ:SzD p [] 0 []:=⟨hp,by simp,by simp⟩
 obtain⟨_,t2,t3⟩:=Bb5 hd o p hp A hA 0 [] u v
 have hs:=Av2 (p.drop A) (framesL (longN R) N).length (by rw[List.length_drop];omega)
 have hnn:=Bhg (p.drop A) (framesL (longN R) N).length
 have hok:=Ao0 (b:=p.drop A) (n:=(framesL (longN R) N).length)
 rw[t2,Aa]at hT
 rw[Jf,Ae2,hd.Bbm,Aa]at hF
 simp only at hF
 rw[if_neg (by decide),Bg (by omega) (by omega),Aa,Int.toNat_natCast,Ac,hs,Aa]at hF
 generalize hz:seekS (p.drop A) (framesL (longN R) N).length=z at*
 obtain⟨z1,z2⟩:=z
 simp only at*
 by_cases h1:z2=24
 ·rw[if_pos h1]at hT
  simp only at hT
  rw[if_pos (by decide)]at hT
  rw[if_pos (by rw[Al];simpa using h1)]at hF
  exact mkW hZ hF hT
 rw[if_neg h1]at hT
 rw[if_neg (by rw[Al];simpa using h1)]at hF
 simp only at hT
 by_cases h2:z2≠0
 ·rw[if_pos (by rw[Ag];simpa using h2)]at hT hF
  rw[Ah,Aa]at hF
  exact mkE (by omega) hF hT
 ·have h0:z2=0:=by simpa using h2
  subst h0
  have h3:=t3 rfl
  obtain⟨k1,k2,k3,k4,k5,k6⟩:=hok rfl
  simp only[Prod.mk.injEq,and_true]at k1
  have hl:z1.length=(framesL (longN R) N).length:=by rw[k1];exact Rl _ _
  rw[←k1]at k5 k6
  rw[if_neg (by decide),Bg (by omega) (by omega),Aa]at hT
  rw[if_neg (by decide),Ac,Bfs A z1.length (by omega) (by omega),Bg (by omega) (by omega),Aa]at hF
  have hne:z1≠ []:=by intro e;rw[e]at hl;simp at hl;omega
  refine .next _ _ _ _ _ _ z1 0 [] (by exact hF) hT (.tab _ _ _ _ _ 0 hd hpw ?_ hl rfl (by omega)) ⟨by rw[List.length_drop];omega,by omega,by simp;omega⟩ (by rw[List.length_drop];omega) ?_
  ·rw[tabB,Bool.and_eq_true,decide_eq_true_eq,Ai6 z1 100000 (by omega)]
   exact⟨by omega,k5,k6⟩
  ·rw[muD,muD,if_neg hd.fnz,if_neg hd.fnz,if_pos rfl,if_neg hne]
   simp;omega
theorem Bv0(ho:o.length≤64)(hp:p.length≤100000)(hpw:(o==([]:LB))=decide (F=1)):StepR bk o p f c w r n [] 0 [] u v:=by
 have hZ:SzD p [] 0 []:=⟨hp,by simp,by simp⟩
 have hT:cadenzaref37_take o p f c w r n [] 0 [] u v=cadenzaref37_take o p f c w r n [] 0 [] u v:=rfl
 conv at hT=>rhs;rw[cadenzaref37_take,Bf,if_neg hd.ne0,Bp,Bm,if_pos (by decide),Di,Fs]
 have hF:feedP bk o u v p f c w r n 0 [] []=feedP bk o u v p f c w r n 0 [] []:=rfl
 conv at hF=>rhs;rw[feedP,Hc,if_neg hd.ne0,if_pos (by decide)]
 by_cases h2:geq f 2=true
 ·rw[if_pos h2]at hT hF
  by_cases h8:p.length<8
  ·rw[if_pos (by rw[Af,Ac];simp;omega)]at hT hF
   rw[Aa]at hT
   simp only at hT
   rw[if_pos (by decide)]at hT
   exact mkW hZ hF hT
  ·rw[if_neg (by rw[Af,Ac];simp;omega)]at hT hF
   have h8':(p.take 8).length=8:=by rw[List.length_take];omega
   rw[Cp (by omega) (by omega),Aa,Apa o ho,Aa]at hT
   rw[Po,Aek,Cp (by omega) (by omega),Aa,show(8:Int).toNat=8 from rfl,Bg2 h8' ho,Aa]at hF
   rw[show(8:Int).toNat=8 from rfl]at hT
   simp only at hF
   rw[Ae5,Ae7,if_neg (by decide)]at hF
   by_cases he:(p.take 8==leB (Wo o).toNat 8)=true
   ·rw[if_neg (by rw[bne,he];decide)]at hT
    rw[if_neg (by rw[he];decide)]at hF
    exact Bum hd hp hpw 8 (by omega) hT hF
   ·have he':(p.take 8==leB (Wo o).toNat 8)=false:=by simpa using he
    rw[if_pos (by rw[bne,he'];decide),Aa]at hT
    simp only at hT
    rw[if_pos (by decide)]at hT
    rw[if_pos (by rw[he'];decide),Ah,Aa]at hF
    simp only at hF
    exact mkE (by decide) (hF.trans f75) hT
 ·rw[if_neg h2]at hT hF
  exact Bum hd hp hpw 0 (by omega) hT hF
theorem Cb1(ho:o.length≤64)(hpw:(o==([]:LB))=decide (F=1))(hg:tabB g=true)(hl:g.length=(framesL (longN R) N).length)(A:Nat)(hA:A≤g.length)(hZ:SzD p g (A:Int) x):StepR bk o p f c w r n g (A:Int) x u v:=by
 have hp:=hZ.hp
 have hx:=hZ.hx
 have hc:=hd.ec
 subst hc
 have hg':=hg
 rw[tabB,Bool.and_eq_true,decide_eq_true_eq,Ai6 g 100000 (by omega)]at hg'
 obtain⟨⟨g1,g2⟩,g5,g6⟩:=hg'
 have hgn:¬(geq (Ac g) 0=true):=by rw[Al,Ac];simp;intro e;subst e;simp at g1
 have hT:cadenzaref37_take o p f (C:Int) w r n g (A:Int) x u v=cadenzaref37_take o p f (C:Int) w r n g (A:Int) x u v:=rfl
 conv at hT=>rhs;rw[cadenzaref37_take,Bf,if_neg hd.ne0,Bp,Bm,if_neg hgn]
 have hF:feedP bk o u v p f (C:Int) w r n (A:Int) g x=feedP bk o u v p f (C:Int) w r n (A:Int) g x:=rfl
 conv at hF=>rhs;rw[feedP,Hc,if_neg hd.ne0,if_neg hgn]
 by_cases hA2:A=g.length
 ·subst hA2
  rw[if_pos (by rw[Al,Ac];simp)]at hT
  rw[if_neg (by rw[Af,Ac];simp)]at hF
  by_cases h4:4000<p.length
  ·rw[if_pos (by rw[Am,Ac];simp;omega)]at hT hF
   rw[Ah,Aa]at hF
   exact mkE (by decide) hF hT
  ·rw[if_neg (by rw[Am,Ac];simp;omega)]at hT hF
   exact mkW hZ hF hT
 ·have hlt:A<g.length:=by omega
  have h5:=g5 g[A] (List.getElem_mem hlt)
  have hsum:=Blq g5 g[A] (List.getElem_mem hlt)
  rw[if_neg (by rw[Al,Ac];simp;omega),Cq,Ec,By hlt,Aa]at hT
  rw[if_pos (by rw[Af,Ac];simp;omega),By hlt,Aa,Aa]at hF
  by_cases hw:(p.length:Int)<g[A]
  ·rw[if_pos (by rw[Af,Ac];simpa using hw)]at hT hF
   rw[Aa]at hT
   simp only at hT
   rw[if_pos (by decide)]at hT
   exact mkW hZ hF hT
  rw[if_neg (by rw[Af,Ac];simpa using hw)]at hT hF
  have hnum:=hd.num
  have hlt2:A<(framesL (longN R) N).length:=by omega
  obtain⟨m,hm,m1,m2⟩:=Ui (Pe R) hnum.2.2.2.2.1 (List.getElem_mem hlt2)
  have hb:Ci w:=by rw[hd.ew];unfold Ci;omega
  obtain⟨xs,e,d1,d2,d3,d4⟩:=Af7 (bits:=w) (ch:=C) (n:=m) (t:=tapsOf o) (p.take g[A].toNat) hb (Qf o) hnum.2.1.1 hnum.2.1.2 m1 (by omega)
  have hnn:=Bbk hb (Qf o) hnum.2.1.1 hnum.2.1.2 m1 (by omega) d2
  rw[Bce o ho,Aa]at hF
  simp only at hF
  rw[if_neg (by decide),hd.Bbm,Aa]at hF
  simp only at hF
  rw[if_neg (by simp[Ag,Dq,Ac];omega),Qb,Ae3,By hlt2,Aa,Cp (by omega) (by omega),Aa,Aa,Xq,Aa]at hF
  simp only at hF
  rw[hm,d1,Aa]at hF
  simp only at hF
  rw[Alm o ho,Aa]at hT
  simp only at hT
  rw[Cp (by omega) (by omega),Aa,Fi,Aa]at hT
  simp only at hT
  rw[hd.Bnj,Aa,By hlt2,Aa,Aa,hm]at hT
  rw[d2,Aa]at hT
  simp only at hT
  rw[Dw,Dx]at hT
  rw[Aef,Wm]at hF
  by_cases he:e≠0
  ·rw[if_pos (by rw[Ag];simpa using he)]at hT hF
   rw[Aa]at hT
   simp only at hT
   rw[if_pos (by rw[Ag];simpa using he)]at hT
   rw[Ah,Aa]at hF
   exact mkE (by omega) hF hT
  ·have he0:e=0:=by simpa using he
   obtain⟨k1,k2,k3⟩:=d3 he0
   have hbl:=Afb w xs
   have ht:((A:Int)).toNat=A:=rfl
   rw[ht]at hx
   rw[if_neg (by rw[Ag,he0];simp)]at hT hF
   rw[Ajg hb k2 k1,Aa,Aa]at hT
   simp only at hT
   rw[if_neg (by decide),Cl (by simp;omega),Aa,List.nil_append,Cl (by omega),Aa,Aa,Bg (by omega) (by omega),Aa,Aj (by omega) (by omega)]at hT
   rw[Arb hb k2 k1,Aa]at hF
   simp only at hF
   rw[if_neg (by decide),Cl (by omega),Aa,Bg (by omega) (by omega),Aa,Aj (by omega) (by omega)]at hF
   have e1:((A:Int)+1).toNat=A+1:=rfl
   refine .next _ _ _ _ _ _ _ _ _ (by exact hF) hT (.tab _ _ _ _ _ (A+1) hd hpw hg hl rfl (by omega)) ⟨by rw[List.length_drop];omega,hZ.hg,by rw[e1,List.length_append];omega⟩ (by rw[List.length_drop];omega) ?_
   have hne:g≠ []:=by intro e;subst e;simp at g1
   rw[muD,muD,if_neg hd.fnz,if_neg hd.fnz,if_neg hne,if_neg hne,e1,ht]
   omega
end
theorem Bis(hf:FitD o f c w r n g a x)(ho:o.length≤64)(hZ:SzD p g a x):StepR bk o p f c w r n g a x u v:=by
 cases hf with
 |new e1 e2 e3 e4 e5 e6 e7 e8=>subst e1 e2 e3 e4 e5 e6 e7 e8;exact Bz7 hZ.hp
 |head F C W R N h hpw e6 e7 e8=>subst e6 e7 e8;exact Bv0 h ho hZ.hp hpw
 |tab F C W R N A h hpw ht hl ea hA=>subst ea;exact Cb1 h ho hpw ht hl A hA hZ
end
end Go.Pl
set_option linter.unusedVariables false
set_option linter.unusedSimpArgs false
namespace Go.Pl
open Go Go.Lv
end Go.Pl
set_option linter.unusedVariables false
set_option linter.unusedSimpArgs false
namespace Go.Pl
open Go Go.Lv
abbrev Cid:=LB×LB×Int×Int×Int×Int×Int×LI×Int×LB×Bool×Int×Int
theorem Caw:∀(j:Nat) (b:LB) (a:Nat),(Bm5 j b a).2=0∨(Bm5 j b a).2=38
 |0,_,_=> .inr rfl
 |j+1,b,a=>by
  rw[Bm5]
  split
  ·exact .inl rfl
  ·split
   ·exact .inr rfl
   ·exact Caw j _ _
theorem Bko(b:LB):(Qn b).2=0∨(Qn b).2=38:=by
 rw[Qn]
 split
 ·exact .inr rfl
 ·exact Caw _ _ _
theorem Ak7{o p:LB}{f c w r n:Int}{g:LI}{a:Int}{x:LB}{u:Bool}{v:Int}(hp:p.length≤100000)(hg:g.length≤2000)(hx:x.length≤13000000):Tx o p f c w r n g a x u v=some (o,p,f,c,w,r,n,g,a,x,u,v):=by
 rw[Tx,Aha,Cl (by simp;omega),Aa,Cl (by simp;omega),Aa,Ahd,Agh,Cl (by simp;omega),Aa]
 rfl
theorem Bjr{o p:LB}{f c w r n:Int}{g:LI}{a:Int}{x:LB}{u:Bool}{v:Int}(hp:p.length≤100000)(hg:g.length≤2000)(hx:x.length≤13000000):Cx o p f c w r n g a x u v=some (o,p,f,c,w,r,n,g,a,x,u,v):=by
 rw[Cx,Gw,Cl (by simp;omega),Aa,Aa,Gw,Cl (by simp;omega),Aa,Aa,Fc,Cl (by simp;omega),Aa,Aa]
 rfl
theorem Ax6{o p:LB}{f c w r n:Int}{g:LI}{a:Int}{x:LB}{u:Bool}{v e:Int}(hx:x.length≤13000000):Ww o p f c w r n g a x u v e=some (o,[],0,0,0,0,0,[],0,x,false,e,e):=by
 rw[Ww,Amg,Cl (by simp;omega),Aa];rfl
theorem Byg{p:LB}{f:Int}{g:LI}{a:Int}{x:LB}(h:SzD p g a x):muD f g a<1004:=by
 have:=h.hg
 unfold muD
 split
 ·omega
 ·split<;>omega
section
variable {o p:LB} {f c w r n:Int} {g:LI} {a:Int} {x:LB} {u:Bool} {v:Int} (hp:p.length≤20000) (hg:g.length≤2000) (hx:x.length≤13000000)
include hp hg hx
theorem Az0{E:Int}(hE:Hh o p f c w r n g a x u v=some E):Oh o p f c w r n g a x u v=if E≠0 then some ([],[],0,0,0,0,0,[],0,[],false,0,E)else some (o,p,f,c,w,r,n,g,a,x,u,v,if v≠0 then v else if u=true then 36 else 0):=by
 rw[Oh,hE,Aa]
 by_cases h:E≠0
 ·rw[if_pos (by rw[Ag];simpa using h),if_pos h]
 rw[if_neg (by rw[Ag];simpa using h),if_neg h,Bjr (by omega) hg (by omega)]
 by_cases hv:v≠0
 ·rw[if_pos (by rw[Ag];simpa using hv),if_pos hv,Aa]
 ·rw[if_neg (by rw[Ag];simpa using hv),if_neg hv]
  cases u<;>simp[Aa]
omit hg hx in
theorem Bn0:∃e,Aa4 o p f c w r n g a x u v=some e∧Bz o p f c w r n g a x u v=some e:=by
 rw[Aa4,Bz]
 by_cases h0:geq f 0=true
 ·rw[if_pos h0,if_pos h0,Qa p (by omega),Wl p (by omega),Aa,Aa]
  have hok:=Wd (b:=p)
  simp only
  by_cases h2:(frontS p).2≠0
  ·rw[if_pos (by rw[Ag];simpa using h2),if_pos (by rw[Ag];simpa using h2)]
   exact⟨_,rfl,rfl⟩
  have h3:(frontS p).2=0:=by simpa using h2
  obtain⟨k1,k2,k3⟩:=hok h3
  have hl:(hdr p).length≤p.length:=by rw[hdr,List.length_drop];omega
  rw[if_neg (by rw[Ag,h3];simp),if_neg (by rw[Ag,h3];simp),Bg (by omega) (by omega),Aa,Aa,show p.drop (frontS p).1.toNat=hdr p from rfl,Aji _ (by omega),An7 _ (by omega),Aa]
  exact⟨_,rfl,rfl⟩
 ·rw[if_neg h0,if_neg h0,Bool.or_comm]
  by_cases h1:(geq (Ac g) 0||Cb a (Ac g))=true
  ·rw[if_pos h1,if_pos h1]
   exact⟨_,rfl,rfl⟩
  ·rw[if_neg h1,if_neg h1,Bdd p (by omega),Ayg p (by omega),Aa,Aa]
   simp only
   refine⟨(Qn p).2,rfl,?_⟩
   rcases Bko p with h|h
   ·rw[if_neg (by rw[h];decide),h]
   ·rw[if_pos (by rw[h];decide),h]
end
end Go.Pl
set_option linter.unusedVariables false
set_option linter.unusedSimpArgs false
namespace Go.Pl
open Go Go.Lv
theorem bnd{α β:Type}{o:Option α}{f:α→Option β}{r:β}(h:Option.bind o f=some r):∃x,o=some x∧f x=some r:=by
 cases o with
 |none=>cases h
 |some x=>exact⟨x,rfl,h⟩
theorem Cbw{α:Type}{l:List α}{i:Int}{x:α}(h:Go.Lv.getI l i=some x):x∈l:=by
 unfold Go.Lv.getI at h
 split at h
 ·exact List.mem_of_getElem? h
 ·cases h
theorem Bfq{o p:LB}(q:LB){f c w r n:Int}{g:LI}{a:Int}{x:LB}{u:Bool}{v:Int}{y:LB}{e:Int}(hg:∀z∈g,0≤z)(h:Cq o p f c w r n g a x u v=some (y,e))(he:e≠ -1):Cq o (p++q) f c w r n g a x u v=some (y,e):=by
 rw[Cq,Ec]at h⊢
 obtain⟨l,hl,h⟩:=bnd h
 have hl0:=hg l (Cbw hl)
 rw[hl,Aa]
 by_cases hc:(p.length:Int)<l
 ·rw[if_pos (by rw[Af,Ac];simpa using hc)]at h
  cases h;exact absurd rfl he
 ·have hc':¬(Cb (Ac (p++q)) l=true):=by rw[Af,Ac,List.length_append];simp;omega
  rw[if_neg (by rw[Af,Ac];simpa using hc)]at h
  rw[if_neg hc',Cp hl0 (by rw[List.length_append];omega),Kt (by omega)]
  rw[Cp hl0 (by omega)]at h
  simpa only[Dw,Dx]using h
theorem Bpt{f c w r n:Int}{F C W R N:Nat}(hd:HdI f c w r n F C W R N){p:LB}(q:LB)(hp:(p++q).length≤100000){A:Nat}(hA:A≤p.length){k:Int}{l:LI}{e:Int}(h:Ct p f c w r n (A:Int)=some (k,l,e))(he:e≠ -1):
  Ct (p++q) f c w r n (A:Int)=some (k,l,e)∧(e=0→0≤k∧k≤p.length):=by
 have hp':p.length≤100000:=by rw[List.length_append]at hp;omega
 obtain⟨_,t2,t3⟩:=Bb5 hd [] p hp' A hA 0 [] false 0
 obtain⟨_,s2,_⟩:=Bb5 hd [] (p++q) hp A (by rw[List.length_append];omega) 0 [] false 0
 rw[t2]at h
 rw[s2,List.drop_append_of_le_length hA]
 by_cases h1:(seekS (p.drop A) (framesL (longN R) N).length).2=24
 ·rw[if_pos h1]at h
  cases h;exact absurd rfl he
 ·rw[if_neg h1]at h
  rw[Bv7 q _ h1,if_neg h1]
  refine⟨h,fun e0=>?_⟩
  cases h
  have:=t3 e0
  constructor
  ·omega
  ·exact this
theorem Bft{f c w r n:Int}{F C W R N:Nat}(hd:HdI f c w r n F C W R N){o p:LB}(q:LB)(hp:(p++q).length≤100000){k:Int}{l:LI}{e:Int}(h:Di p f c w r n o=some (k,l,e))(he:e≠ -1):
  Di (p++q) f c w r n o=some (k,l,e)∧(e=0→0≤k∧k≤p.length):=by
 rw[Di,Fs]at h⊢
 by_cases hf:geq f 2=true
 ·rw[if_pos hf]at h⊢
  by_cases h8:p.length<8
  ·rw[if_pos (by rw[Af,Ac];simp;omega)]at h
   cases h;exact absurd rfl he
  ·have n1:¬(Cb (Ac p) 8=true):=by rw[Af,Ac];simp;omega
   have n2:¬(Cb (Ac (p++q)) 8=true):=by rw[Af,Ac,List.length_append];simp;omega
   rw[if_neg n1,Cp (by decide) (by omega),Aa]at h
   rw[if_neg n2,Cp (by decide) (by rw[List.length_append];omega),Aa,Kt (show(8:Int).toNat≤p.length from by simp;omega)]
   obtain⟨y,hy,h⟩:=bnd h
   rw[hy,Aa]
   by_cases hm:(p.take (8:Int).toNat !=y)=true
   ·rw[if_pos hm]at h⊢
    cases h
    exact⟨rfl,fun e=>by cases e⟩
   ·rw[if_neg hm]at h⊢
    exact Bpt hd q hp (A:=8) (by omega) h he
 ·rw[if_neg hf]at h⊢
  exact Bpt hd q hp (A:=0) (by omega) h he
theorem Aqc{p q af:LB}{n:Int}(h:Ba p n (Ac p)=some af):Ba (p++q) n (Ac (p++q))=some (af++q):=by
 unfold Ba Ac at h⊢
 split at h
 ·rename_i hc
  cases h
  rw[if_pos ⟨hc.1,by rw[List.length_append];omega,by omega⟩]
  simp only[Int.toNat_natCast,List.take_length]
  rw[List.drop_append_of_le_length (by omega)]
 ·cases h
theorem Atx{o p:LB}(q:LB){f c w r n:Int}{g:LI}{a:Int}{x:LB}{u:Bool}{v:Int}(hf:FitD o f c w r n g a x)(hp:(p++q).length≤100000){t1 t2:LB}{t3 t4 t5 t6 t7:Int}{t8:LI}{t9:Int}{t10:LB}{t11:Bool}{t12 e:Int}
  (h:cadenzaref37_take o p f c w r n g a x u v=some (t1,t2,t3,t4,t5,t6,t7,t8,t9,t10,t11,t12,e)) (he:e≠ -1):
  (e=0→cadenzaref37_take o (p++q) f c w r n g a x u v=some (t1,t2++q,t3,t4,t5,t6,t7,t8,t9,t10,t11,t12,0))∧
  (e≠0→∃(s1 s2:LB) (s3 s4 s5 s6 s7:Int) (s8:LI) (s9:Int) (s10:LB) (s11:Bool) (s12:Int),cadenzaref37_take o (p++q) f c w r n g a x u v=some (s1,s2,s3,s4,s5,s6,s7,s8,s9,s10,s11,s12,e)):=by
 have hp':p.length≤100000:=by rw[List.length_append]at hp;omega
 have zero:¬(Ay (0:Int) 0=true):=by decide
 rw[cadenzaref37_take,Bf]at h⊢
 cases hf with
 |new e1 e2 e3 e4 e5 e6 e7 e8=>
  subst e1
  rw[if_pos (by decide),Ut p hp',Aa]at h
  rw[if_pos (by decide),Ut (p++q) hp,Aa]
  have hst:(stS p).2.2.2.2.2.2≠ -1→stS (p++q)=stS p:=Cdz q
  generalize stS p=z at h hst
  obtain⟨z1,z2,z3,z4,z5,z6,z7⟩:=z
  simp only at h hst
  by_cases hz:Ay z7 0=true
  ·rw[if_pos hz]at h
   simp only[Option.some.injEq,Prod.mk.injEq]at h
   obtain⟨-, -, -, -, -, -, -, -, -, -, -, -,rfl⟩:=h
   rw[hst he]
   simp only
   rw[if_pos hz]
   refine⟨fun e0=>?_,fun _=>⟨_,_,_,_,_,_,_,_,_,_,_,_,rfl⟩⟩
   rw[e0]at hz;exact absurd hz zero
  ·rw[if_neg hz]at h
   have z70:z7=0:=by rw[Ag]at hz;simpa using hz
   rw[hst (by rw[z70];decide)]
   simp only
   rw[if_neg hz]
   obtain⟨af,h1,h⟩:=bnd h
   rw[Aqc h1,Aa]
   rw[Fb,Fm]at h⊢
   obtain⟨aw,h2,h⟩:=bnd h
   rw[h2,Aa]
   simp only[Option.some.injEq,Prod.mk.injEq]at h
   obtain⟨rfl,rfl,rfl,rfl,rfl,rfl,rfl,rfl,rfl,rfl,rfl,rfl,rfl⟩:=h
   exact⟨fun e0=>by rw[e0],fun _=>⟨_,_,_,_,_,_,_,_,_,_,_,_,rfl⟩⟩
 |head F C W R N hd hpw e6 e7 e8=>
  subst e6
  have hfn:¬(geq f 0=true):=by rw[Al];simpa using hd.fnz
  rw[if_neg hfn,Bp,Bm,if_pos (by decide)]at h⊢
  obtain⟨⟨k,l,e1⟩,h1,h⟩:=bnd h
  simp only at h
  by_cases hz:Ay e1 0=true
  ·rw[if_pos hz]at h
   simp only[Option.some.injEq,Prod.mk.injEq]at h
   obtain⟨-, -, -, -, -, -, -, -, -, -, -, -,rfl⟩:=h
   rw[(Bft hd q hp h1 he).1,Aa]
   simp only
   rw[if_pos hz]
   refine⟨fun e0=>?_,fun _=>⟨_,_,_,_,_,_,_,_,_,_,_,_,rfl⟩⟩
   rw[e0]at hz;exact absurd hz zero
  ·rw[if_neg hz]at h
   have z70:e1=0:=by rw[Ag]at hz;simpa using hz
   rw[(Bft hd q hp h1 (by rw[z70];decide)).1,Aa]
   simp only
   rw[if_neg hz]
   obtain⟨af,h2,h⟩:=bnd h
   rw[Aqc h2,Aa]
   simp only[Option.some.injEq,Prod.mk.injEq]at h
   obtain⟨rfl,rfl,rfl,rfl,rfl,rfl,rfl,rfl,rfl,rfl,rfl,rfl,rfl⟩:=h
   exact⟨fun e0=>rfl,fun e0=>absurd rfl e0⟩
 |tab F C W R N A hd hpw ht hl ea hA=>
  have hfn:¬(geq f 0=true):=by rw[Al];simpa using hd.fnz
  have ht':=ht
  rw[tabB,Bool.and_eq_true,decide_eq_true_eq]at ht'
  have hgl:¬(geq (Ac g) 0=true):=by
   intro e
   rw[Al,Ac]at e
   have hl1:=ht'.1.1
   simp only[beq_iff_eq,decide_eq_true_eq]at e
   omega
  rw[if_neg hfn,Bp,Bm,if_neg hgl]at h⊢
  by_cases hend:geq a (Ac g)=true
  ·rw[if_pos hend]at h⊢
   by_cases hm:Eb (Ac p) 4000=true
   ·have hm':Eb (Ac (p++q)) 4000=true:=by rw[Am,Ac]at hm⊢;simp only[decide_eq_true_eq]at hm⊢;rw[List.length_append];omega
    rw[if_pos hm]at h
    rw[if_pos hm']
    simp only[Option.some.injEq,Prod.mk.injEq]at h
    obtain⟨-, -, -, -, -, -, -, -, -, -, -, -,rfl⟩:=h
    exact⟨(fun e0=>by cases e0),fun _=>⟨_,_,_,_,_,_,_,_,_,_,_,_,rfl⟩⟩
   ·rw[if_neg hm]at h
    simp only[Option.some.injEq,Prod.mk.injEq]at h
    obtain⟨-, -, -, -, -, -, -, -, -, -, -, -,rfl⟩:=h
    exact absurd rfl he
  ·rw[if_neg hend]at h⊢
   have hpos:∀z∈g,0≤z:=by
    have:=(Ai6 g 100000 (by omega)).1 ht'.2
    intro z hz
    have:=this.1 z hz
    omega
   obtain⟨⟨y,e1⟩,h1,h⟩:=bnd h
   simp only at h
   by_cases hz:Ay e1 0=true
   ·rw[if_pos hz]at h
    simp only[Option.some.injEq,Prod.mk.injEq]at h
    obtain⟨-, -, -, -, -, -, -, -, -, -, -, -,rfl⟩:=h
    rw[Bfq q hpos h1 he,Aa]
    simp only
    rw[if_pos hz]
    refine⟨fun e0=>?_,fun _=>⟨_,_,_,_,_,_,_,_,_,_,_,_,rfl⟩⟩
    rw[e0]at hz;exact absurd hz zero
   ·rw[if_neg hz]at h
    have z70:e1=0:=by rw[Ag]at hz;simpa using hz
    rw[Bfq q hpos h1 (by rw[z70];decide),Aa]
    simp only
    rw[if_neg hz]
    obtain⟨an,h2,h⟩:=bnd h
    rw[h2,Aa]
    obtain⟨ah,h3,h⟩:=bnd h
    rw[h3,Aa]
    obtain⟨ad,h4,h⟩:=bnd h
    rw[h4,Aa]
    obtain⟨ae,h5,h⟩:=bnd h
    rw[Aqc h5,Aa]
    simp only[Option.some.injEq,Prod.mk.injEq]at h
    obtain⟨rfl,rfl,rfl,rfl,rfl,rfl,rfl,rfl,rfl,rfl,rfl,rfl,rfl⟩:=h
    exact⟨fun e0=>rfl,fun e0=>absurd rfl e0⟩
end Go.Pl
set_option linter.unusedVariables false
set_option linter.unusedSimpArgs false
namespace Go.Pl
open Go Go.Lv
def Ch0(o:LB)(K:Nat)(u:Bool)(v:Int)(X Y:Option Cid):Prop:=∃(t1 t2:LB) (t3 t4 t5 t6 t7:Int) (t8:LI) (t9:Int) (t10:LB) (t11:Bool) (t12 e:Int),X=some (t1,t2,t3,t4,t5,t6,t7,t8,t9,t10,t11,t12,e)∧Y=some (t1,t2,t3,t4,t5,t6,t7,t8,t9,t10,t11,t12,e)∧t10.length≤13000000∧
 (e=0→t1=o∧t2.length≤K∧FitD o t3 t4 t5 t6 t7 t8 t9 t10∧SzD t2 t8 t9 t10∧t11=u∧t12=v)
theorem Be8(K:Nat):∀(k q1 q2:Nat) (o p:LB) (f c w r n:Int) (g:LI) (a:Int) (x:LB) (u:Bool) (v:Int),FitD o f c w r n g a x→o.length≤64→SzD p g a x→p.length≤K→muD f g a<k→k≤q1→k≤q2→
  Ch0 o K u v (Aq o u v q1 p f c w r n a g x) (Au q2 o p f c w r n g a x u v)
 |0,_,_,_,_,_,_,_,_,_,_,_,_,_,_,_,_,_,_,h,_,_=>by omega
 |k+1,q1,q2,o,p,f,c,w,r,n,g,a,x,u,v,hf,ho,hZ,hK,hm,h1,h2=>by
  obtain⟨q1,rfl⟩:∃q,q1=q+1:=⟨q1-1,by omega⟩
  obtain⟨q2,rfl⟩:∃q,q2=q+1:=⟨q2-1,by omega⟩
  have hx:x.length≤13000000:=by have:=hZ.hx;omega
  rw[Aq,Au,Bo]
  have hS:StepR (Aq o u v q1) o p f c w r n g a x u v:=Bis hf ho hZ
  cases hS with
  |wait hF hT=>
   rw[hT,Aa]
   simp only
   rw[if_pos (by decide),Ak7 hZ.hp (by have:=hZ.hg;omega) hx,Aa]
   exact⟨_,_,_,_,_,_,_,_,_,_,_,_,_,hF,rfl,hx,fun _=>⟨rfl,hK,hf,hZ,rfl,rfl⟩⟩
  |err e he hF hT=>
   rw[hT,Aa]
   simp only
   rw[if_neg (by rw[Ap4 (by omega)];decide),if_pos (by rw[Ag];simp;omega),Ax6 hx,Aa]
   exact⟨_,_,_,_,_,_,_,_,_,_,_,_,_,hF,rfl,hx,fun h=>absurd h (by omega)⟩
  |next p' f' c' w' r' n' g' a' x' hF hT hf' hZ' hle hmu=>
   rw[hT,Aa]
   simp only
   rw[if_neg (by decide),if_neg (by decide)]
   have ih:=Be8 K k q1 q2 o p' f' c' w' r' n' g' a' x' u v hf' ho hZ' (by omega) (by omega) (by omega) (by omega)
   have hF':Hc (Lo (Aq o u v q1) o u v) (Pz (Aq o u v q1) o u v) (Jh (Aq o u v q1) o u v) (Po (Aq o u v q1) o u v) (Jf (Aq o u v q1) o u v) (Ln (Aq o u v q1) o u v) (Qb (Aq o u v q1) o u v) (Bn (Aq o u v q1) o u v) (Wf (Aq o u v q1) o u v) o u v p f c w r n a g x=Aq o u v q1 p' f' c' w' r' n' a' g' x':=hF
   rw[hF']
   exact ih
theorem Cij{o p:LB}{f c w r n:Int}{g:LI}{a:Int}{x:LB}(ho:o.length≤64)(hf:FitD o f c w r n g a x)(hZ:SzD p g a x)(b:LB)(hp:p.length≤20000)(hb:b.length≤20000):
  Ch0 o (p.length+b.length) false 0 (Jq o p f c w r n g a x false 0 b) (Hk o p f c w r n g a x false 0 b):=by
 have hx:x.length≤13000000:=by have:=hZ.hx;omega
 have hg:g.length≤2000:=by have:=hZ.hg;omega
 obtain⟨E,e1,e2⟩:=Bg6 o p f c w r n g a x false 0 (by omega) (by omega) (by omega)
 rw[Jq,Rm,Az0 hp hg hx e1,Hk,Nw,e2,Aa]
 by_cases h:E≠0
 ·rw[if_pos h,Aa,if_pos (by rw[Ag];simpa using h)]
  simp only
  rw[if_pos (by rw[Ag];simpa using h)]
  exact⟨_,_,_,_,_,_,_,_,_,_,_,_,_,rfl,rfl,by simp,fun h'=>absurd h' h⟩
 have h0:E=0:=by simpa using h
 subst h0
 have hE:¬(Ay (0:Int) 0=true):=by decide
 rw[if_neg h,Aa,if_neg hE,Ak7 (by omega) hg (by omega),Aa]
 simp only
 have hF:¬(false=true):=by decide
 rw[Nu,if_neg (show ¬((0:Int)≠0)from fun h=>h rfl),if_neg hF]
 repeat (first|rw[Aa]|rw[if_neg hE]|rw[if_neg hF])
 rw[Cl (by omega)]
 rw[Aa,Aa]
 have hZ':SzD (p++b) g a x:=⟨by rw[List.length_append];omega,hZ.hg,hZ.hx⟩
 exact Be8 _ 1004 FUEL FUEL o (p++b) f c w r n g a x false 0 hf ho hZ' (by rw[List.length_append];exact Nat.le_refl _) (Byg hZ') (by have:=Ao;omega) (by have:=Ao;omega)
end Go.Pl
set_option linter.unusedVariables false
set_option linter.unusedSimpArgs false
namespace Go.Pl
open Go Go.Lv
def OutB(f c w r n:Int)(g:LI)(a:Int)(x:LB):Prop:=∀(F C W R N A:Nat),HdI f c w r n F C W R N→g≠ []→a=(A:Int)→(x.length:Int)≤Aaf C W (framesL (longN R) N) A
theorem OutB.nil{f c w r n:Int}{a:Int}{x:LB}:OutB f c w r n [] a x:=fun _ _ _ _ _ _ _ h=>absurd rfl h
theorem OutB.zero{f c w r n:Int}{g:LI}:OutB f c w r n g 0 []:=fun F C W R N A h hg ha=>by
 obtain rfl:A=0:=by omega
 rw[Brw];simp
theorem Bs4{o p:LB}{f c w r n:Int}{F C W R N:Nat}(hd:HdI f c w r n F C W R N)(ho:o.length≤64)(hp:p.length≤100000){g:LI}(ht:tabB g=true)(hl:g.length=(framesL (longN R) N).length){A:Nat}(hA:A<g.length){x:LB}{u:Bool}{v:Int}{y:LB}{e:Int}
  (h:Cq o p f c w r n g (A:Int) x u v=some (y,e)) (he:e=0):∃m:Nat,(framesL (longN R) N)[A]'(by omega)=(m:Int)∧y.length=m*C*wB (W:Int):=by
 subst he
 have hlt2:A<(framesL (longN R) N).length:=by omega
 have hnum:=hd.num
 rw[tabB,Bool.and_eq_true,decide_eq_true_eq,Ai6 g 100000 (by omega)]at ht
 obtain⟨ht1,g5,gs⟩:=ht
 have h5:=g5 g[A] (List.getElem_mem hA)
 rw[Cq,Ec,By hA,Aa]at h
 by_cases hw:(p.length:Int)<g[A]
 ·rw[if_pos (by rw[Af,Ac];simpa using hw)]at h
  cases h
 rw[if_neg (by rw[Af,Ac];simpa using hw)]at h
 obtain⟨m,hm,m1,m2⟩:=Ui (Pe R) hnum.2.2.2.2.1 (List.getElem_mem hlt2)
 have hb:Ci w:=by rw[hd.ew];unfold Ci;omega
 obtain⟨xs,e,d1,d2,d3,d4⟩:=Af7 (bits:=w) (ch:=C) (n:=m) (t:=tapsOf o) (p.take g[A].toNat) hb (Qf o) hnum.2.1.1 hnum.2.1.2 m1 (by omega)
 rw[Alm o ho,Aa]at h
 simp only at h
 rw[Cp (by omega) (by omega),Aa,Fi,Aa]at h
 simp only at h
 rw[hd.Bnj,Aa,By hlt2,Aa,Aa,hm,hd.ec]at h
 rw[d2,Aa]at h
 simp only at h
 rw[Dw,Dx]at h
 by_cases he:e≠0
 ·rw[if_pos (by rw[Ag];simpa using he)]at h
  cases h;exact absurd rfl he
 ·have he0:e=0:=by simpa using he
  obtain⟨k1,k2,k3⟩:=d3 he0
  rw[if_neg (by rw[Ag,he0];simp),Ajg hb k2 k1,Aa]at h
  cases h
  refine⟨m,hm,?_⟩
  rw[Amw hb,k3,hd.ew]
theorem Cb3{o p:LB}{f c w r n:Int}{g:LI}{a:Int}{x:LB}{u:Bool}{v:Int}(hf:FitD o f c w r n g a x)(ho:o.length≤64)(hZ:SzD p g a x)(hO:OutB f c w r n g a x){t1 t2:LB}{t3 t4 t5 t6 t7:Int}{t8:LI}{t9:Int}{t10:LB}{t11:Bool}{t12:Int}
  (h:cadenzaref37_take o p f c w r n g a x u v=some (t1,t2,t3,t4,t5,t6,t7,t8,t9,t10,t11,t12,0)):OutB t3 t4 t5 t6 t7 t8 t9 t10:=by
 have hp':=hZ.hp
 have zero:¬(Ay (0:Int) 0=true):=by decide
 rw[cadenzaref37_take,Bf]at h
 cases hf with
 |new e1 e2 e3 e4 e5 e6 e7 e8=>
  subst e1 e6 e7 e8
  rw[if_pos (by decide),Ut p hp',Aa]at h
  generalize stS p=z at h
  obtain⟨z1,z2,z3,z4,z5,z6,z7⟩:=z
  simp only at h
  by_cases hz:Ay z7 0=true
  ·rw[if_pos hz]at h
   simp only[Option.some.injEq,Prod.mk.injEq]at h
   obtain⟨-, -, -, -, -, -, -,rfl, -⟩:=h
   exact OutB.nil
  ·rw[if_neg hz]at h
   obtain⟨af,h1,h⟩:=bnd h
   rw[Fb,Fm]at h
   obtain⟨aw,h2,h⟩:=bnd h
   simp only[Option.some.injEq,Prod.mk.injEq]at h
   obtain⟨-, -, -, -, -, -, -,rfl, -⟩:=h
   exact OutB.nil
 |head F C W R N hd hpw e6 e7 e8=>
  subst e6 e7 e8
  have hfn:¬(geq f 0=true):=by rw[Al];simpa using hd.fnz
  rw[if_neg hfn,Bp,Bm,if_pos (by decide)]at h
  obtain⟨⟨k,l,e1⟩,h1,h⟩:=bnd h
  simp only at h
  by_cases hz:Ay e1 0=true
  ·rw[if_pos hz]at h
   simp only[Option.some.injEq,Prod.mk.injEq]at h
   obtain⟨-, -, -, -, -, -, -,rfl, -⟩:=h
   exact OutB.nil
  ·rw[if_neg hz]at h
   obtain⟨af,h2,h⟩:=bnd h
   simp only[Option.some.injEq,Prod.mk.injEq]at h
   obtain⟨-, -, -, -, -, -, -, -,rfl,rfl, -⟩:=h
   exact OutB.zero
 |tab F C W R N A hd hpw ht hl ea hA=>
  subst ea
  have hfn:¬(geq f 0=true):=by rw[Al];simpa using hd.fnz
  have ht':=ht
  rw[tabB,Bool.and_eq_true,decide_eq_true_eq]at ht'
  have hgl:¬(geq (Ac g) 0=true):=by
   intro e
   rw[Al,Ac]at e
   have hl1:=ht'.1.1
   simp only[beq_iff_eq,decide_eq_true_eq]at e
   omega
  have hne:g≠ []:=by intro e;subst e;simp at ht'
  rw[if_neg hfn,Bp,Bm,if_neg hgl]at h
  by_cases hend:geq (A:Int) (Ac g)=true
  ·rw[if_pos hend]at h
   by_cases hm:Eb (Ac p) 4000=true
   ·rw[if_pos hm]at h
    simp only[Option.some.injEq,Prod.mk.injEq]at h
    exact absurd h.2.2.2.2.2.2.2.2.2.2.2.2 (by decide)
   ·rw[if_neg hm]at h
    simp only[Option.some.injEq,Prod.mk.injEq]at h
    exact absurd h.2.2.2.2.2.2.2.2.2.2.2.2 (by decide)
  ·rw[if_neg hend]at h
   have hlt:A<g.length:=by
    rw[Al,Ac]at hend
    simp only[beq_iff_eq]at hend
    omega
   obtain⟨⟨y,e1⟩,h1,h⟩:=bnd h
   simp only at h
   by_cases hz:Ay e1 0=true
   ·rw[if_pos hz]at h
    simp only[Option.some.injEq,Prod.mk.injEq]at h
    have:=h.2.2.2.2.2.2.2.2.2.2.2.2
    rw[this]at hz;exact absurd hz zero
   ·rw[if_neg hz]at h
    have z70:e1=0:=by rw[Ag]at hz;simpa using hz
    obtain⟨m,hm,hy⟩:=Bs4 hd ho hp' ht hl hlt h1 z70
    obtain⟨an,h2,h⟩:=bnd h
    obtain⟨ah,h3,h⟩:=bnd h
    obtain⟨ad,h4,h⟩:=bnd h
    obtain⟨ae,h5,h⟩:=bnd h
    simp only[Option.some.injEq,Prod.mk.injEq]at h
    obtain⟨-, -,rfl,rfl,rfl,rfl,rfl,rfl,rfl,rfl, -⟩:=h
    intro F' C' W' R' N' A' hd' _ ha'
    have eqs:C'=C∧W'=W∧R'=R∧N'=N:=by
     have q1:=hd.ec.symm.trans hd'.ec
     have q2:=hd.ew.symm.trans hd'.ew
     have q3:=hd.er.symm.trans hd'.er
     have q4:=hd.en.symm.trans hd'.en
     omega
    obtain⟨rfl,rfl,rfl,rfl⟩:=eqs
    have hold:=hO F C' W' R' N' A hd hne rfl
    have e2:Ad (A:Int) 1=((A+1:Nat):Int):=by rw[Aj (by omega) (by omega)];omega
    rw[e2]at ha'
    obtain rfl:A'=A+1:=by omega
    have hah:ah.length=x.length+y.length:=by
     unfold Dg at h2 h3
     split at h2
     ·cases h2
      split at h3
      ·cases h3;simp
      ·cases h3
     ·cases h2
    have hpos:∀z∈framesL (longN R') N',0≤z:=by
     intro z hz
     obtain⟨m,hm,m1,m2⟩:=Ui (Pe R') hd.num.2.2.2.2.1 hz
     omega
    rw[Bsk C' W' hpos (by omega) hm,hah,hy]
    omega
theorem Bff{o p:LB}{f c w r n:Int}{g:LI}{a:Int}{x:LB}(hf:FitD o f c w r n g a x)(ho:o.length≤64)(hO:OutB f c w r n g a x){t1 t2:LB}{t3 t4 t5 t6 t7:Int}{t8:LI}{t9:Int}{t10:LB}{t11:Bool}{t12:Int}
  (h:cadenzaref37_take o p f c w r n g a x false 0=some (t1,t2,t3,t4,t5,t6,t7,t8,t9,t10,t11,t12, -1)):Cw o p f c w r n g a x false 0=some 0:=by
 have h4:Bu o p f c w r n g a x false 0=some true:=by
  rw[Bu,Td,h,Aa]
  rfl
 have hr:Jc o p f c w r n g a x false 0=some true:=by
  rw[Jc,Tc]
  cases hf with
  |new e1 e2 e3 e4 e5 e6 e7 e8=>
   subst e1 e2 e3 e4 e5 e6 e7 e8
   rw[if_pos (by decide),if_neg (by decide)]
   exact h4
  |head F C W R N hd hpw e6 e7 e8=>
   subst e6 e7 e8
   have hz:¬(((geq f 0)&&((geq c 0)&&((geq w 0)&&((geq r 0)&&((geq n 0)&&true)))))=true):=by
    simp only[Bool.and_eq_true,Al,beq_iff_eq,and_true]
    exact fun e=>hd.fnz e.1
   have hff:geq f 1=decide (F=1):=by rw[hd.ef,Al,Bool.eq_iff_iff];simp;omega
   rw[if_neg hz,hd.check,Aa,if_neg (by decide),Dd,hff,hpw,if_neg (by simp),Aa,if_neg (by decide),Mo,Ms,if_pos (by decide),if_neg (by decide)]
   exact h4
  |tab F C W R N A hd hpw ht hl ea hA=>
   subst ea
   have hz:¬(((geq f 0)&&((geq c 0)&&((geq w 0)&&((geq r 0)&&((geq n 0)&&true)))))=true):=by
    simp only[Bool.and_eq_true,Al,beq_iff_eq,and_true]
    exact fun e=>hd.fnz e.1
   have hff:geq f 1=decide (F=1):=by rw[hd.ef,Al,Bool.eq_iff_iff];simp;omega
   have ht':=ht
   rw[tabB,Bool.and_eq_true,decide_eq_true_eq]at ht'
   have hgl:¬(geq (Ac g) 0=true):=by
    intro e
    rw[Al,Ac]at e
    have hl1:=ht'.1.1
    simp only[beq_iff_eq,decide_eq_true_eq]at e
    omega
   have hne:g≠ []:=by intro e;subst e;simp at ht'
   have hout:=hO F C W R N A hd hne rfl
   rw[if_neg hz,hd.check,Aa,if_neg (by decide),Dd,hff,hpw,if_neg (by simp),Aa,if_neg (by decide),Mo,Ms,if_neg hgl,Anb,Aa,if_pos ht,if_neg (by decide),hd.Bnj,Aa]
   rw[if_neg (by simp[Ag,Af,Am,Ac];omega)]
   obtain⟨rfl,rfl,rfl,rfl,rfl,hs,hfit⟩:=hd
   rw[Boi hs hfit A (by omega),Aa,if_neg (by rw[Am,Ac];simp;omega)]
   exact h4
 have hO':¬(Eb (Ac o) 64=true):=by rw[Am,Ac];simp;omega
 rw[Cw,if_neg hO',if_pos (by decide),hr,Aa]
 rfl
end Go.Pl
set_option linter.unusedVariables false
set_option linter.unusedSimpArgs false
namespace Go.Pl
open Go Go.Lv
theorem Bxc{o p:LB}{f c w r n:Int}{F C W R N:Nat}(hd:HdI f c w r n F C W R N)(ho:o.length≤64)(hp:p.length≤100000){g:LI}(ht:tabB g=true)(hl:g.length=(framesL (longN R) N).length){A:Nat}(hA:A<g.length){x:LB}{u:Bool}{v:Int}{y:LB}{e:Int}
  (h:Cq o p f c w r n g (A:Int) x u v=some (y,e)) (he:e≠ -1):Cd e:=by
 have hlt2:A<(framesL (longN R) N).length:=by omega
 have hnum:=hd.num
 rw[tabB,Bool.and_eq_true,decide_eq_true_eq,Ai6 g 100000 (by omega)]at ht
 obtain⟨ht1,g5,gs⟩:=ht
 have h5:=g5 g[A] (List.getElem_mem hA)
 rw[Cq,Ec,By hA,Aa]at h
 by_cases hw:(p.length:Int)<g[A]
 ·rw[if_pos (by rw[Af,Ac];simpa using hw)]at h
  cases h;exact absurd rfl he
 rw[if_neg (by rw[Af,Ac];simpa using hw)]at h
 obtain⟨m,hm,m1,m2⟩:=Ui (Pe R) hnum.2.2.2.2.1 (List.getElem_mem hlt2)
 have hb:Ci w:=by rw[hd.ew];unfold Ci;omega
 obtain⟨xs,e',d1,d2,d3,d4⟩:=Af7 (bits:=w) (ch:=C) (n:=m) (t:=tapsOf o) (p.take g[A].toNat) hb (Qf o) hnum.2.1.1 hnum.2.1.2 m1 (by omega)
 have hcd:=Bj6 hb (Qf o) hnum.2.1.1 hnum.2.1.2 m1 (by omega) d2
 rw[Alm o ho,Aa]at h
 simp only at h
 rw[Cp (by omega) (by omega),Aa,Fi,Aa]at h
 simp only at h
 rw[hd.Bnj,Aa,By hlt2,Aa,Aa,hm,hd.ec]at h
 rw[d2,Aa]at h
 simp only at h
 rw[Dw,Dx]at h
 by_cases he:e'≠0
 ·rw[if_pos (by rw[Ag];simpa using he)]at h
  cases h;exact hcd
 ·have he0:e'=0:=by simpa using he
  obtain⟨k1,k2,k3⟩:=d3 he0
  rw[if_neg (by rw[Ag,he0];simp),Ajg hb k2 k1,Aa]at h
  cases h
  exact .inl rfl
theorem Btd{f c w r n:Int}{F C W R N:Nat}(hd:HdI f c w r n F C W R N){p:LB}(hp:p.length≤100000){A:Nat}(hA:A≤p.length){k:Int}{l:LI}{e:Int}(h:Ct p f c w r n (A:Int)=some (k,l,e))(he:e≠ -1):Cd e:=by
 obtain⟨_,t2,t3⟩:=Bb5 hd [] p hp A hA 0 [] false 0
 rw[t2]at h
 by_cases h1:(seekS (p.drop A) (framesL (longN R) N).length).2=24
 ·rw[if_pos h1]at h
  cases h;exact absurd rfl he
 ·rw[if_neg h1]at h
  cases h
  exact Bz2 _ (Bf3 hd.fit)
theorem Bvt{f c w r n:Int}{F C W R N:Nat}(hd:HdI f c w r n F C W R N){o p:LB}(hp:p.length≤100000){k:Int}{l:LI}{e:Int}(h:Di p f c w r n o=some (k,l,e))(he:e≠ -1):Cd e:=by
 rw[Di,Fs]at h
 by_cases hf:geq f 2=true
 ·rw[if_pos hf]at h
  by_cases h8:p.length<8
  ·rw[if_pos (by rw[Af,Ac];simp;omega)]at h
   cases h;exact absurd rfl he
  ·have n1:¬(Cb (Ac p) 8=true):=by rw[Af,Ac];simp;omega
   rw[if_neg n1]at h
   obtain⟨z,hz,h⟩:=bnd h
   obtain⟨y,hy,h⟩:=bnd h
   by_cases hm:(z !=y)=true
   ·rw[if_pos hm]at h
    cases h;decide
   ·rw[if_neg hm]at h
    exact Btd hd hp (A:=8) (by omega) h he
 ·rw[if_neg hf]at h
  exact Btd hd hp (A:=0) (by omega) h he
theorem Chr(p:LB):(stS p).2.2.2.2.2.2= -1∨Cd (stS p).2.2.2.2.2.2:=by
 unfold stS
 repeat' split
 ·exact .inl rfl
 ·exact .inr (Bbo p)
 ·exact .inl rfl
 ·exact .inl rfl
 ·exact .inr (Bh5 _)
theorem Ccn{o p:LB}{f c w r n:Int}{g:LI}{a:Int}{x:LB}{u:Bool}{v:Int}(hf:FitD o f c w r n g a x)(ho:o.length≤64)(hp':p.length≤100000){t1 t2:LB}{t3 t4 t5 t6 t7:Int}{t8:LI}{t9:Int}{t10:LB}{t11:Bool}{t12 e:Int}
  (h:cadenzaref37_take o p f c w r n g a x u v=some (t1,t2,t3,t4,t5,t6,t7,t8,t9,t10,t11,t12,e)) (he:e≠ -1):Cd e:=by
 have zero:¬(Ay (0:Int) 0=true):=by decide
 rw[cadenzaref37_take,Bf]at h
 cases hf with
 |new e1 e2 e3 e4 e5 e6 e7 e8=>
  subst e1 e6 e7 e8
  rw[if_pos (by decide),Ut p hp',Aa]at h
  have hcd:=Chr p
  generalize stS p=z at h hcd
  obtain⟨z1,z2,z3,z4,z5,z6,z7⟩:=z
  simp only at h hcd
  by_cases hz:Ay z7 0=true
  ·rw[if_pos hz]at h
   simp only[Option.some.injEq,Prod.mk.injEq]at h
   obtain⟨-, -, -, -, -, -, -, -, -, -, -, -,rfl⟩:=h
   exact hcd.resolve_left he
  ·rw[if_neg hz]at h
   obtain⟨af,h1,h⟩:=bnd h
   rw[Fb,Fm,Dd]at h
   obtain⟨aw,h2,h⟩:=bnd h
   simp only[Option.some.injEq,Prod.mk.injEq]at h
   obtain⟨-, -, -, -, -, -, -, -, -, -, -, -,rfl⟩:=h
   split at h2
   ·cases h2;decide
   ·cases h2;decide
 |head F C W R N hd hpw e6 e7 e8=>
  subst e6 e7 e8
  have hfn:¬(geq f 0=true):=by rw[Al];simpa using hd.fnz
  rw[if_neg hfn,Bp,Bm,if_pos (by decide)]at h
  obtain⟨⟨k,l,e1⟩,h1,h⟩:=bnd h
  simp only at h
  by_cases hz:Ay e1 0=true
  ·rw[if_pos hz]at h
   simp only[Option.some.injEq,Prod.mk.injEq]at h
   obtain⟨-, -, -, -, -, -, -, -, -, -, -, -,rfl⟩:=h
   exact Bvt hd hp' h1 he
  ·rw[if_neg hz]at h
   obtain⟨af,h2,h⟩:=bnd h
   simp only[Option.some.injEq,Prod.mk.injEq]at h
   obtain⟨-, -, -, -, -, -, -, -, -, -, -, -,rfl⟩:=h
   exact .inl rfl
 |tab F C W R N A hd hpw ht hl ea hA=>
  subst ea
  have hfn:¬(geq f 0=true):=by rw[Al];simpa using hd.fnz
  have ht':=ht
  rw[tabB,Bool.and_eq_true,decide_eq_true_eq]at ht'
  have hgl:¬(geq (Ac g) 0=true):=by
   intro e
   rw[Al,Ac]at e
   have hl1:=ht'.1.1
   simp only[beq_iff_eq,decide_eq_true_eq]at e
   omega
  rw[if_neg hfn,Bp,Bm,if_neg hgl]at h
  by_cases hend:geq (A:Int) (Ac g)=true
  ·rw[if_pos hend]at h
   by_cases hm:Eb (Ac p) 4000=true
   ·rw[if_pos hm]at h
    simp only[Option.some.injEq,Prod.mk.injEq]at h
    obtain⟨-, -, -, -, -, -, -, -, -, -, -, -,rfl⟩:=h
    decide
   ·rw[if_neg hm]at h
    simp only[Option.some.injEq,Prod.mk.injEq]at h
    exact absurd h.2.2.2.2.2.2.2.2.2.2.2.2.symm he
  ·rw[if_neg hend]at h
   have hlt:A<g.length:=by
    rw[Al,Ac]at hend
    simp only[beq_iff_eq]at hend
    omega
   obtain⟨⟨y,e1⟩,h1,h⟩:=bnd h
   simp only at h
   by_cases hz:Ay e1 0=true
   ·rw[if_pos hz]at h
    simp only[Option.some.injEq,Prod.mk.injEq]at h
    obtain⟨-, -, -, -, -, -, -, -, -, -, -, -,rfl⟩:=h
    exact Bxc hd ho hp' ht hl hlt h1 he
   ·rw[if_neg hz]at h
    obtain⟨an,h2,h⟩:=bnd h
    obtain⟨ah,h3,h⟩:=bnd h
    obtain⟨ad,h4,h⟩:=bnd h
    obtain⟨ae,h5,h⟩:=bnd h
    simp only[Option.some.injEq,Prod.mk.injEq]at h
    obtain⟨-, -, -, -, -, -, -, -, -, -, -, -,rfl⟩:=h
    exact .inl rfl
theorem Cas{o:LB}{f c w r n:Int}{g:LI}{a:Int}{x:LB}(hf:FitD o f c w r n g a x)(hO:OutB f c w r n g a x):x.length≤12000:=by
 cases hf with
 |new e1 e2 e3 e4 e5 e6 e7 e8=>subst e8;simp
 |head F C W R N hd hpw e6 e7 e8=>subst e8;simp
 |tab F C W R N A hd hpw ht hl ea hA=>
  have hne:g≠ []:=by intro e;subst e;simp[tabB]at ht
  have h:=hO F C W R N A hd hne ea
  obtain⟨g1,g2,g3⟩:=Ae8 hd.shape hd.fit
  have b:=Aq6 g1 A
  have hnum:=hd.num
  have hw:=(Bj2 (W:Int)).2
  have hN:N*C≤4000:=by
   have h1:=Nat.mul_le_mul_right C hnum.2.2.2.2.2.1
   have h2:=Nat.div_mul_le_self 4000 C
   omega
  have hs:((framesL (longN R) N).take A).sum.toNat≤N:=by omega
  rw[Aaf]at h
  have hb:((framesL (longN R) N).take A).sum.toNat*(C*wB (W:Int))≤4000*3:=by
   have h1:=Nat.mul_le_mul_right (C*wB (W:Int)) hs
   have h2:=Nat.mul_le_mul hN hw
   rw[←Nat.mul_assoc N]at h1
   omega
  omega
theorem Ble{o x:LB}{e:Int}(ho:o.length≤64)(hx:x.length≤12000)(he:Cd e)(h0:0<e):Cw o [] 0 0 0 0 0 [] 0 x false e=some 0:=by
 have hO':¬(Eb (Ac o) 64=true):=by rw[Am,Ac];simp;omega
 have hX:Eb (Ac x) 12000=false:=by rw[Am,Ac];simp;omega
 rw[Cw,if_neg hO',if_neg (by rw[Al];simp;omega),if_pos (by decide),hX,if_neg (by decide),if_pos (by rw[Ag];simp;omega),if_neg (by decide)]
 obtain rfl|rfl|rfl|rfl|rfl|rfl|rfl|rfl:=he
 ·omega
 all_goals rfl
end Go.Pl
set_option linter.unusedVariables false
set_option linter.unusedSimpArgs false
namespace Go.Pl
open Go Go.Lv
theorem Bj4:∀(k q1 q2:Nat) (o p:LB) (f c w r n:Int) (g:LI) (a:Int) (x:LB) (u:Bool) (v:Int),FitD o f c w r n g a x→o.length≤64→SzD p g a x→muD f g a<k→k≤q1→k≤q2→
  Au q1 o p f c w r n g a x u v=Au q2 o p f c w r n g a x u v
 |0,_,_,_,_,_,_,_,_,_,_,_,_,_,_,_,_,_,h,_,_=>by omega
 |k+1,q1,q2,o,p,f,c,w,r,n,g,a,x,u,v,hf,ho,hZ,hm,h1,h2=>by
  obtain⟨q1,rfl⟩:∃q,q1=q+1:=⟨q1-1,by omega⟩
  obtain⟨q2,rfl⟩:∃q,q2=q+1:=⟨q2-1,by omega⟩
  rw[Au,Au,Bo,Bo]
  have hS:StepR (Aq o u v q1) o p f c w r n g a x u v:=Bis hf ho hZ
  cases hS with
  |wait hF hT=>
   rw[hT,Aa,Aa]
   simp only
   rw[if_pos (by decide),if_pos (by decide)]
  |err e he hF hT=>
   rw[hT,Aa,Aa]
   simp only
   rw[if_neg (by rw[Ap4 (by omega)];decide),if_pos (by rw[Ag];simp;omega),if_neg (by rw[Ap4 (by omega)];decide),if_pos (by rw[Ag];simp;omega)]
  |next p' f' c' w' r' n' g' a' x' hF hT hf' hZ' hle hmu=>
   rw[hT,Aa,Aa]
   simp only
   rw[if_neg (by decide),if_neg (by decide),if_neg (by decide),if_neg (by decide)]
   exact Bj4 k q1 q2 o p' f' c' w' r' n' g' a' x' u v hf' ho hZ' (by omega) (by omega) (by omega)
structure Wt (o p:LB) (f c w r n:Int) (g:LI) (a:Int) (x:LB):Prop where
 fit:FitD o f c w r n g a x
 sz:SzD p g a x
 out:OutB f c w r n g a x
 wait:cadenzaref37_take o p f c w r n g a x false 0=some (o,p,f,c,w,r,n,g,a,x,false,0, -1)
abbrev loopR(q:Nat)(o p:LB)(f c w r n:Int)(g:LI)(a:Int)(x:LB):=Au q o p f c w r n g a x false 0
theorem Bp1:∀(k q:Nat) (o p:LB) (f c w r n:Int) (g:LI) (a:Int) (x:LB),FitD o f c w r n g a x→o.length≤64→SzD p g a x→OutB f c w r n g a x→p.length≤100000→muD f g a<k→k≤q→
  (∃(t2:LB) (t3 t4 t5 t6 t7:Int) (t8:LI) (t9:Int) (t10:LB),loopR q o p f c w r n g a x=some (o,t2,t3,t4,t5,t6,t7,t8,t9,t10,false,0,0)∧Wt o t2 t3 t4 t5 t6 t7 t8 t9 t10∧t2.length≤p.length∧muD t3 t8 t9<k∧
   ∀b:LB,(p++b).length≤100000→loopR q o (p++b) f c w r n g a x=loopR q o (t2++b) t3 t4 t5 t6 t7 t8 t9 t10)∨
  (∃(x':LB) (e:Int),0<e∧Cd e∧x'.length≤12000∧∀b:LB,(p++b).length≤100000→loopR q o (p++b) f c w r n g a x=some (o,[],0,0,0,0,0,[],0,x',false,e,e))
 |0,_,_,_,_,_,_,_,_,_,_,_,_,_,_,_,_,h,_=>by omega
 |k+1,q,o,p,f,c,w,r,n,g,a,x,hf,ho,hZ,hO,hp,hm,h1=>by
  obtain⟨q,rfl⟩:∃q',q=q'+1:=⟨q-1,by omega⟩
  have hx:x.length≤13000000:=by have:=hZ.hx;omega
  have hS:StepR (Aq o false 0 q) o p f c w r n g a x false 0:=Bis hf ho hZ
  cases hS with
  |wait hF hT=>
   refine .inl ⟨p,f,c,w,r,n,g,a,x,?_,⟨hf,hZ,hO,hT⟩,Nat.le_refl _,hm,fun b _=>rfl⟩
   rw[loopR,Au,Bo,hT,Aa]
   simp only
   rw[if_pos (by decide),Ak7 hZ.hp (by have:=hZ.hg;omega) hx,Aa]
  |err e he hF hT=>
   refine .inr ⟨x,e,he,Ccn hf ho hp hT (by omega),Cas hf hO,fun b hL=>?_⟩
   obtain⟨s1,s2,s3,s4,s5,s6,s7,s8,s9,s10,s11,s12,hs⟩:=(Atx b hf hL hT (by omega)).2 (by omega)
   rw[loopR,Au,Bo,hs,Aa]
   simp only
   rw[if_neg (by rw[Ap4 (by omega)];decide),if_pos (by rw[Ag];simp;omega),Ax6 hx,Aa]
  |next p' f' c' w' r' n' g' a' x' hF hT hf' hZ' hle hmu=>
   have hp':p'.length≤100000:=by omega
   rcases Bp1 k q o p' f' c' w' r' n' g' a' x' hf' ho hZ' (Cb3 hf ho hZ hO hT) hp' (by omega) (by omega)with⟨t2,t3,t4,t5,t6,t7,t8,t9,t10,k1,k2,k3,k4,k5⟩|⟨x2,e,k1,k2,k3,k4⟩
   ·refine .inl ⟨t2,t3,t4,t5,t6,t7,t8,t9,t10,?_,k2,by omega,by omega,fun b hL=>?_⟩
    ·rw[loopR,Au,Bo,hT,Aa]
     simp only
     rw[if_neg (by decide),if_neg (by decide)]
     exact k1
    ·have hs:=(Atx b hf hL hT (by decide)).1 rfl
     have hL':(p'++b).length≤100000:=by rw[List.length_append]at hL⊢;omega
     rw[loopR,Au,Bo,hs,Aa]
     simp only
     rw[if_neg (by decide),if_neg (by decide)]
     refine(k5 b hL').trans ?_
     exact Bj4 k q (q+1) o (t2++b) t3 t4 t5 t6 t7 t8 t9 t10 false 0 k2.fit ho ⟨by rw[List.length_append]at hL⊢;omega,k2.sz.hg,k2.sz.hx⟩ k4 (by omega) (by omega)
   ·refine .inr ⟨x2,e,k1,k2,k3,fun b hL=>?_⟩
    have hs:=(Atx b hf hL hT (by decide)).1 rfl
    have hL':(p'++b).length≤100000:=by rw[List.length_append]at hL⊢;omega
    rw[loopR,Au,Bo,hs,Aa]
    simp only
    rw[if_neg (by decide),if_neg (by decide)]
    exact k4 b hL'
end Go.Pl
set_option linter.unusedVariables false
set_option linter.unusedSimpArgs false
namespace Go.Pl
open Go Go.Lv
abbrev Fd(o s:LB):=loopR FUEL o s 0 0 0 0 0 [] 0 []
inductive Bh (o s:LB):LB→Int→Int→Int→Int→Int→LI→Int→LB→Int→Prop
 |wt {p:LB} {f c w r n:Int} {g:LI} {a:Int} {x:LB}:Wt o p f c w r n g a x→p.length≤s.length→(∀b:LB,(s++b).length≤100000→Fd o (s++b)=loopR FUEL o (p++b) f c w r n g a x)→Bh o s p f c w r n g a x 0
 |er {x:LB} {e:Int}:0<e→Cd e→x.length≤12000→(∀b:LB,(s++b).length≤100000→Fd o (s++b)=some (o,[],0,0,0,0,0,[],0,x,false,e,e))→Bh o s [] 0 0 0 0 0 [] 0 x e
variable {o s p:LB} {f c w r n:Int} {g:LI} {a:Int} {x:LB} {e:Int}
theorem Wt.stop(W:Wt o p f c w r n g a x):loopR FUEL o p f c w r n g a x=some (o,p,f,c,w,r,n,g,a,x,false,0,0):=by
 obtain⟨q,hq⟩:∃q,FUEL=q+1:=⟨FUEL-1,by have:=Ao;omega⟩
 have hx:x.length≤13000000:=by have:=W.sz.hx;omega
 rw[loopR,hq,Au,Bo,W.wait,Aa]
 simp only
 rw[if_pos (by decide),Ak7 W.sz.hp (by have:=W.sz.hg;omega) hx,Aa]
theorem Bh.fd(h:Bh o s p f c w r n g a x e)(hs:s.length≤100000):Fd o s=some (o,p,f,c,w,r,n,g,a,x,false,e,e):=by
 cases h with
 |wt W hl hb=>
  have:=hb [] (by simpa using hs)
  rw[List.append_nil,List.append_nil]at this
  rw[this,W.stop]
 |er h0 hc hx hb=>
  have:=hb [] (by simpa using hs)
  rw[List.append_nil]at this
  exact this
theorem Bh.new(ho:o.length≤64):Bh o [] [] 0 0 0 0 0 [] 0 [] 0:=by
 refine .wt ⟨.new rfl rfl rfl rfl rfl rfl rfl rfl,⟨by simp,by simp,by simp⟩,OutB.nil,?_⟩ (Nat.le_refl _) fun b _=>rfl
 rw[cadenzaref37_take,Bf,if_pos (by decide),Ut [] (by simp),Aa]
 rfl
theorem Cdw(ho:o.length≤64)(W:Wt o p f c w r n g a x)(b:LB)(hp:p.length≤20000)(hb:b.length≤20000):
  Jq o p f c w r n g a x false 0 b=loopR FUEL o (p++b) f c w r n g a x∧Hk o p f c w r n g a x false 0 b=loopR FUEL o (p++b) f c w r n g a x:=by
 have hR:Hk o p f c w r n g a x false 0 b=loopR FUEL o (p++b) f c w r n g a x:=by
  have hx:x.length≤13000000:=by have:=W.sz.hx;omega
  have hg:g.length≤2000:=by have:=W.sz.hg;omega
  have hE:¬(Ay (0:Int) 0=true):=by decide
  have hF:¬(false=true):=by decide
  rw[Hk,Nw,Bff W.fit ho W.out W.wait,Aa,if_neg hE,Ak7 (by omega) hg hx,Aa]
  simp only
  rw[Nu]
  repeat (first|rw[Aa]|rw[if_neg hE]|rw[if_neg hF])
  rw[Cl (by omega),Aa]
  rfl
 obtain⟨t1,t2,t3,t4,t5,t6,t7,t8,t9,t10,t11,t12,e,h1,h2,_⟩:=Cij ho W.fit W.sz b hp hb
 exact⟨h1.trans (h2.symm.trans hR),hR⟩
theorem Bh.check(ho:o.length≤64)(h:Bh o s p f c w r n g a x e)(hp:p.length≤100000):Hh o p f c w r n g a x false e=some 0∧Cw o p f c w r n g a x false e=some 0:=by
 have key:Cw o p f c w r n g a x false e=some 0∧g.length≤1000∧x.length≤13000000:=by
  cases h with
  |wt W hl hb=>exact⟨Bff W.fit ho W.out W.wait,W.sz.hg,by have:=W.sz.hx;omega⟩
  |er h0 hc hx hb=>exact⟨Ble ho hx hc h0,by simp,by omega⟩
 obtain⟨k1,k2,k3⟩:=key
 obtain⟨E,e1,e2⟩:=Bg6 o p f c w r n g a x false e hp (by omega) (by omega)
 rw[k1]at e2
 cases e2
 exact⟨e1,k1⟩
theorem Bh.feed(ho:o.length≤64)(h:Bh o s p f c w r n g a x e)(hp:p.length≤20000)(b:LB)(hb:b.length≤20000)(hs:(s++b).length≤100000):
  ∃(p':LB) (f' c' w' r' n':Int) (g':LI) (a':Int) (x':LB) (e':Int),Jq o p f c w r n g a x false e b=some (o,p',f',c',w',r',n',g',a',x',false,e',e')∧
   Hk o p f c w r n g a x false e b=some (o,p',f',c',w',r',n',g',a',x',false,e',e')∧Bh o (s++b) p' f' c' w' r' n' g' a' x' e':=by
 have hck:=h.check ho (by omega)
 cases h with
 |wt W hl hB=>
  obtain⟨h1,h2⟩:=Cdw ho W b hp hb
  have hpb:(p++b).length≤100000:=by rw[List.length_append];omega
  have hZ:SzD (p++b) g a x:=⟨hpb,W.sz.hg,W.sz.hx⟩
  rcases Bp1 1004 FUEL o (p++b) f c w r n g a x W.fit ho hZ W.out hpb (Byg hZ) (by have:=Ao;omega)with⟨t2,t3,t4,t5,t6,t7,t8,t9,t10,k1,k2,k3,k4,k5⟩|⟨x2,e,k1,k2,k3,k4⟩
  ·refine⟨t2,t3,t4,t5,t6,t7,t8,t9,t10,0,h1.trans k1,h2.trans k1, .wt k2 ?_ fun b2 hL=>?_⟩
   ·rw[List.length_append]at k3⊢;omega
   ·rw[List.append_assoc,hB (b++b2) (by rw[←List.append_assoc];exact hL),←List.append_assoc]
    refine k5 b2 ?_
    rw[List.length_append,List.length_append]at hL⊢;omega
  ·have k4':=k4 [] (by simpa using hpb)
   rw[List.append_nil]at k4'
   refine⟨_,_,_,_,_,_,_,_,_,_,h1.trans k4',h2.trans k4', .er k1 k2 k3 fun b2 hL=>?_⟩
   rw[List.append_assoc,hB (b++b2) (by rw[←List.append_assoc];exact hL),←List.append_assoc]
   refine k4 b2 ?_
   rw[List.length_append,List.length_append]at hL⊢;omega
 |er h0 hc hx hB=>
  have hne:Ay e 0=true:=by rw[Ag];simp;omega
  refine⟨_,_,_,_,_,_,_,_,_,_,?_,?_, .er h0 hc hx fun b2 hL=>?_⟩
  ·rw[Jq,Rm,Az0 (by simp) (by simp) (by omega) hck.1,if_neg (by decide),Aa]
   simp only
   rw[if_pos (show e≠0 by omega),if_pos hne]
  ·rw[Hk,Nw,hck.2,Aa,if_neg (by decide),Ak7 (by simp) (by simp) (by omega),Aa]
   simp only
   rw[Nu,if_pos hne,Aa,if_pos hne]
  ·rw[List.append_assoc]
   exact hB (b++b2) (by rw[←List.append_assoc];exact hL)
end Go.Pl
set_option linter.unusedVariables false
set_option linter.unusedSimpArgs false
namespace Go.Pl
open Go Go.Lv
section
variable {o s p:LB} {f c w r n:Int} {g:LI} {a:Int} {x:LB} {e:Int}
theorem FitD.drop(h:FitD o f c w r n g a x)(t:Nat):FitD o f c w r n g a (x.drop t):=by
 cases h with
 |new e1 e2 e3 e4 e5 e6 e7 e8=>subst e8;exact .new e1 e2 e3 e4 e5 e6 e7 (by simp)
 |head F C W R N hd hpw e6 e7 e8=>subst e8;exact .head F C W R N hd hpw e6 e7 (by simp)
 |tab F C W R N A hd hpw ht hl ea hA=>exact .tab F C W R N A hd hpw ht hl ea hA
theorem OutB.drop(h:OutB f c w r n g a x)(t:Nat):OutB f c w r n g a (x.drop t):=by
 intro F C W R N A hd hg ha
 have:=h F C W R N A hd hg ha
 rw[List.length_drop];omega
theorem Bh.Ci1(h:Bh o s p f c w r n g a x e):p.length≤s.length∧g.length≤1000∧x.length≤12000:=by
 cases h with
 |wt W hl hb=>exact⟨hl,W.sz.hg,Cas W.fit W.out⟩
 |er h0 hc hx hb=>exact⟨by simp,by simp,hx⟩
theorem Byf{u:Bool}(hck:Hh o p f c w r n g a x u e=some 0)(hp:p.length≤20000)(hg:g.length≤2000)(hx:x.length≤12000)(m:Nat):
  Afn o p f c w r n g a x u e (m:Int)=some (o,p,f,c,w,r,n,g,a,x.drop (min m x.length),u,e,x.take (min m x.length),0):=by
 rw[Afn,hck,Aa,if_neg (by decide),if_neg (by rw[Af];simp),Bjr (by omega) hg (by omega),Aa]
 simp only
 have hk:Dz (m:Int) (Ac x)=((min m x.length:Nat):Int):=by rw[Ak9,Ac];omega
 rw[hk,Cp (by omega) (by omega),Aa,Gw,Cl (by simp;omega),Aa,Aa,Bg (by omega) (by omega),Aa]
 rfl
end
theorem Cdg:Qq=some true:=by kernel_rfl
end Go.Pl
set_option linter.unusedVariables false
set_option linter.unusedSimpArgs false
namespace Go.Pl
open Go Go.Lv
section
variable {o s p:LB} {f c w r n:Int} {g:LI} {a:Int} {x:LB} {e:Int}
theorem Bvz{u:Bool}{v:Int}(hp:p.length≤20000)(h:Bz o p f c w r n g a x u v=some e):Cd e:=by
 rw[Bz]at h
 split at h
 ·rw[Wl p (by omega),Aa]at h
  have hok:=Wd (b:=p)
  simp only at h
  by_cases h2:(frontS p).2≠0
  ·rw[if_pos (by rw[Ag];simpa using h2)]at h
   cases h;exact Bbo p
  ·have h3:(frontS p).2=0:=by simpa using h2
   obtain⟨k1,k2,k3⟩:=hok h3
   have hl:(hdr p).length≤p.length:=by rw[hdr,List.length_drop];omega
   rw[if_neg (by rw[Ag,h3];simp),Bg (by omega) (by omega),Aa,show p.drop (frontS p).1.toNat=hdr p from rfl,An7 _ (by omega),Aa]at h
   cases h
   exact Bh5 _
 ·split at h
  ·cases h;decide
  ·obtain⟨⟨z1,z2⟩,hz,h⟩:=bnd h
   simp only at h
   split at h<;>(cases h;decide)
theorem Chl{u:Bool}{v k:Int}(ho:o.length≤64)(hx:x.length≤12000)(hk:(u=false∧v=k∧0<k∧Cd k)∨(u=true∧v=0∧k=36)):
  Hh o [] 0 0 0 0 0 [] 0 x u v=some 0∧(∀b,Jq o [] 0 0 0 0 0 [] 0 x u v b=some (o,[],0,0,0,0,0,[],0,x,u,v,k))∧Vn o [] 0 0 0 0 0 [] 0 x u v=some (o,[],0,0,0,0,0,[],0,x,u,v,k):=by
 have key:Cw o [] 0 0 0 0 0 [] 0 x u v=some 0:=by
  rcases hk with⟨rfl,rfl,h1,h2⟩|⟨rfl,rfl,rfl⟩
  ·exact Ble ho hx h2 h1
  ·have hX:Eb (Ac x) 12000=false:=by rw[Am,Ac];simp;omega
   rw[Cw,if_neg (by rw[Am,Ac];simp;omega),if_neg (by decide),if_pos (by decide),hX,if_neg (by decide),if_neg (by decide)]
 obtain⟨E,e1,e2⟩:=Bg6 o [] 0 0 0 0 0 [] 0 x u v (by simp) (by simp) (by omega)
 rw[key]at e2
 cases e2
 have hv:(if v≠0 then v else if u=true then 36 else 0)=k:=by
  rcases hk with⟨rfl,rfl,h1,h2⟩|⟨rfl,rfl,rfl⟩
  ·rw[if_pos (by omega)]
  ·rfl
 have hk0:Ay k 0=true:=by
  rw[Ag]
  rcases hk with⟨rfl,rfl,h1,h2⟩|⟨rfl,rfl,rfl⟩
  ·simp;omega
  ·rfl
 have hb:=Az0 (o:=o) (p:=[]) (f:=0) (c:=0) (w:=0) (r:=0) (n:=0) (g:=[]) (a:=0) (x:=x) (u:=u) (v:=v) (by simp) (by simp) (by omega) e1
 rw[if_neg (by decide),hv]at hb
 refine⟨e1,fun b=>?_,?_⟩
 ·rw[Jq,Rm,hb,Aa]
  simp only
  rw[if_pos hk0]
 ·rw[Vn,hb,Aa]
  simp only
  rw[if_pos hk0]
end
end Go.Pl
set_option linter.unusedVariables false
set_option linter.unusedSimpArgs false
namespace Go.Pl
open Go Go.Lv
theorem Bv6{bits:Int}(h:Ci bits){l:List Int32}(hl:l.length≤4000)(hr:inR bits l):cadenzaref18_Check bits l=some 0:=by
 have hh:=Atb bits
 have key:∀(j i q:Nat),i+j=l.length→j<q→Az l (hB bits) q (i:Int)=some 0:=by
  intro j
  induction j with
  |zero=>
   intro i q hi hq
   obtain⟨q,rfl⟩:∃k,q=k+1:=⟨q-1,by omega⟩
   rw[Az,Cy,if_neg (by rw[Af,Ac];simp;omega)];rfl
  |succ j ih=>
   intro i q hi hq
   obtain⟨q,rfl⟩:∃k,q=k+1:=⟨q-1,by omega⟩
   have hx:=hr l[i] (List.getElem_mem (by omega))
   rw[Az,Cy,if_pos (by rw[Af,Ac];simp;omega),By (by omega),Aa,Aa,Ek,Bmj,Cg (by omega) (by omega),Aj (by omega) (by omega),Af,Dq,if_neg (by simp;omega),if_neg (by simp;omega)]
   exact ih (i+1) q (by omega) (by omega)
 rw[cadenzaref18_Check,Gg,Aza h,Aa,if_neg (by rw[Al];simp;omega),if_neg (by rw[Am,Ac];simp;omega)]
 exact key l.length 0 FUEL (by omega) (by have:=Ao;omega)
theorem Brm(bits:Int)(a b:List Int32):bytesB bits (a++b)=bytesB bits a++bytesB bits b:=by unfold bytesB;rw[List.flatMap_append]
def Adj{α:Type}(G:Nat→List α):Nat→Nat→List α
 |0,_=>[]
 |j+1,k=>G k++Adj G j (k+1)
theorem Bqp{α:Type}(G:Nat→List α):∀(i j k:Nat),Adj G (i+j) k=Adj G i k++Adj G j (k+i)
 |0,j,k=>by simp[Adj]
 |i+1,j,k=>by
  rw[show i+1+j=(i+j)+1 by omega,Adj,Adj,Bqp G i j (k+1),List.append_assoc,show k+1+i=k+(i+1) by omega]
theorem Bw0{α:Type}(G:Nat→List α)(i k:Nat):Adj G (i+1) k=Adj G i k++G (k+i):=by
 rw[Bqp G i 1 k];simp[Adj]
theorem Bp4(w:Nat)(G:Nat→List UInt8×Int)(be:Int):∀(j k:Nat) (acc:List UInt8) (acc2:List Int32),(Ar0 G be j k acc).2=(Avd (fun k=>smF w (G k)) (fun k=>(G k).2) be j k acc2).2
 |0,k,acc,acc2=>by
  rw[Ar0,Avd]
  split<;>rfl
 |j+1,k,acc,acc2=>by
  rw[Ar0,Avd]
  split
  ·rfl
  ·exact Bp4 w G be j (k+1) _ _
theorem Bp3(X:Nat→List Int32)(E:Nat→Int)(be:Int):∀(j k:Nat) (acc:List Int32),(Avd X E be j k acc).2=0→be=0∧(∀i,k≤i→i<k+j→E i=0)∧(Avd X E be j k acc).1=acc++Adj X j k
 |0,k,acc,h=>by
  rw[Avd]at h⊢
  by_cases hb:be≠0
  ·rw[if_pos hb]at h;cases h
  ·rw[if_neg hb];exact⟨by simpa using hb,fun i h1 h2=>by omega,by simp[Adj]⟩
 |j+1,k,acc,h=>by
  rw[Avd]at h⊢
  by_cases hb:E k≠0
  ·rw[if_pos hb]at h;exact absurd h hb
  ·rw[if_neg hb]at h⊢
   obtain⟨h1,h2,h3⟩:=Bp3 X E be j (k+1) _ h
   refine⟨h1,fun i i1 i2=>?_,?_⟩
   ·by_cases hi:i=k
    ·subst hi;simpa using hb
    ·exact h2 i (by omega) (by omega)
   ·rw[h3,Adj,List.append_assoc]
theorem Bke(G:Nat→List UInt8×Int):∀(j k:Nat) (acc:List UInt8),(∀i,k≤i→i<k+j→(G i).2=0)→Ar0 G 0 j k acc=(acc++Adj (fun i=>(G i).1) j k,0)
 |0,k,acc,h=>by
  rw[Ar0,if_neg (by simp),Adj];simp
 |j+1,k,acc,h=>by
  rw[Ar0,if_neg (by rw[h k (by omega) (by omega)];simp),Bke G j (k+1) _ fun i h1 h2=>h i (by omega) (by omega),Adj,List.append_assoc]
section
variable {b p:List UInt8} {f c w r n A:Nat} {l:List Int} (o:Opn b p f c w r n A l) (hE:∀i,i<l.length→(Yw b p f c w r n A l i).2=0)
include o hE
theorem Bl1(i:Nat)(hi:i<l.length):∃m:Nat,getI (framesL (longN r) n) (i:Int)=some (m:Int)∧1≤m∧(Yw b p f c w r n A l i).1=bytesB (w:Int) (smF w (Yw b p f c w r n A l i))∧(smF w (Yw b p f c w r n A l i)).length=m*c∧inR (w:Int) (smF w (Yw b p f c w r n A l i)):=by
 have hw:=(Ri o.shape).2.1
 obtain⟨m,x,s,e,g⟩:=Awi o i hi
 have h0:=hE i hi
 have hsm:=g.smp hw
 have hl:=g.lens hw
 rw[g.eq]at h0⊢
 rw[hsm]
 obtain⟨h1,h2,h3,_⟩:=g.some' h0
 exact⟨m,g.mom,g.pos.1,h1,h2,Av7 hw (by omega) h3⟩
theorem Bjw:∀(j k:Nat),k+j≤l.length→bytesB (w:Int) (Adj (fun i=>smF w (Yw b p f c w r n A l i)) j k)=Adj (fun i=>(Yw b p f c w r n A l i).1) j k
 |0,k,_=>rfl
 |j+1,k,h=>by
  obtain⟨m,_,_,h1,_⟩:=Bl1 o hE k (by omega)
  rw[Adj,Adj,Brm,Bjw j (k+1) (by omega),←h1]
theorem Btb:∀(j k:Nat),k+j≤l.length→inR (w:Int) (Adj (fun i=>smF w (Yw b p f c w r n A l i)) j k)
 |0,k,_=>fun x hx=>by simp[Adj]at hx
 |j+1,k,h=>by
  obtain⟨m,_,_,_,_,h1⟩:=Bl1 o hE k (by omega)
  intro x hx
  rw[Adj,List.mem_append]at hx
  rcases hx with hx|hx
  ·exact h1 x hx
  ·exact Btb j (k+1) (by omega) x hx
theorem Bt6:∀(j:Nat),j≤l.length→(Adj (fun i=>smF w (Yw b p f c w r n A l i)) j 0).length=((framesL (longN r) n).take j).sum.toNat*c
 |0,_=>by simp[Adj]
 |j+1,h=>by
  obtain⟨m,h0,_,_,h1,_⟩:=Bl1 o hE j (by omega)
  have hlen:=o.len
  have hlt:j<(framesL (longN r) n).length:=by omega
  rw[By hlt]at h0
  have h0':=Option.some.inj h0
  obtain⟨g1,g2,g3⟩:=Ae8 o.shape o.fit
  have b:=Aq6 g1 j
  rw[Bw0,List.length_append,Bt6 j (by omega),Nat.zero_add,h1,Jn hlt,h0']
  rw[show(((framesL (longN r) n).take j).sum+(m:Int)).toNat=((framesL (longN r) n).take j).sum.toNat+m by omega,Nat.add_mul]
theorem Bxo:(Adj (fun i=>smF w (Yw b p f c w r n A l i)) l.length 0).length=n*c:=by
 have hn:=(Ri o.shape).2.2.2.1
 rw[Bt6 o hE l.length (Nat.le_refl _),o.len,List.take_length,Bcm hn]
 simp
theorem Bvn:width_Bytes (w:Int) (Adj (fun i=>smF w (Yw b p f c w r n A l i)) l.length 0)=some (Adj (fun i=>(Yw b p f c w r n A l i).1) l.length 0,0):=by
 have hw:=(Ri o.shape).2.1
 have hfit:n≤4000/c:=by have:=o.fit;simp only[fitB,decide_eq_true_eq]at this;exact this.1
 have hN:n*c≤4000:=by
  have h1:=Nat.mul_le_mul_right c hfit
  have h2:=Nat.div_mul_le_self 4000 c
  omega
 have ht:=Bxo o hE
 rw[Arb hw (by omega) (Bv6 hw (by omega) (Btb o hE l.length 0 (by omega))),Bjw o hE l.length 0 (by omega)]
end
end Go.Pl
set_option linter.unusedVariables false
set_option linter.unusedSimpArgs false
namespace Go.Pl
open Go Go.Lv
section
variable {o p:LB} {f c w r n:Int} {g:LI} {a:Int} {x:LB} {q:Nat}
theorem Aeq(hp:p.length≤100000)(hg:g.length≤1000)(hx:x.length≤13000000)(h:cadenzaref37_take o p f c w r n g a x false 0=some (o,p,f,c,w,r,n,g,a,x,false,0, -1)):loopR (q+1) o p f c w r n g a x=some (o,p,f,c,w,r,n,g,a,x,false,0,0):=by
 rw[loopR,Au,Bo,h,Aa]
 simp only
 rw[if_pos (by decide),Ak7 hp (by omega) hx,Aa]
theorem Ajl(hx:x.length≤13000000){e:Int}(he:0<e){t2:LB}{t3 t4 t5 t6 t7:Int}{t8:LI}{t9:Int}{t11:Bool}{t12:Int}(h:cadenzaref37_take o p f c w r n g a x false 0=some (o,t2,t3,t4,t5,t6,t7,t8,t9,x,t11,t12,e)):loopR (q+1) o p f c w r n g a x=some (o,[],0,0,0,0,0,[],0,x,false,e,e):=by
 rw[loopR,Au,Bo,h,Aa]
 simp only
 rw[if_neg (by rw[Ap4 (by omega)];decide),if_pos (by rw[Ag];simp;omega),Ax6 hx,Aa]
theorem Bbr{p':LB}{f' c' w' r' n':Int}{g':LI}{a':Int}{x':LB}(h:cadenzaref37_take o p f c w r n g a x false 0=some (o,p',f',c',w',r',n',g',a',x',false,0,0)):loopR (q+1) o p f c w r n g a x=loopR q o p' f' c' w' r' n' g' a' x':=by
 rw[loopR,Au,Bo,h,Aa]
 simp only
 rw[if_neg (by decide),if_neg (by decide)]
end
def Ends(o:LB)(R:Option Cid)(x:LB)(e:Int):Prop:=(0<e∧R=some (o,[],0,0,0,0,0,[],0,x,false,e,e))∨(∃(p:LB) (f c w r n:Int) (g:LI) (a:Int),p.length≤100000∧R=some (o,p,f,c,w,r,n,g,a,x,false,0,0)∧Bz o p f c w r n g a x false 0=some e)
theorem Brt(b p:LB)(hb:b.length≤20000)(hp:p.length≤64)(q:Nat):
  (∃e:Int,e≠0∧seekto_Open b p=some (Ang e)∧Ends p (loopR (q+2) p b 0 0 0 0 0 [] 0 []) [] e)∨(∃f c w r n A l,Opn b p f c w r n A l∧loopR (q+2) p b 0 0 0 0 0 [] 0 []=loopR q p (b.drop A) (f:Int) (c:Int) (w:Int) (r:Int) (n:Int) l 0 []):=by
 have hx0:([]:LB).length≤13000000:=by simp
 have hg0:([]:LI).length≤1000:=by simp
 have hT:cadenzaref37_take p b 0 0 0 0 0 [] 0 [] false 0=cadenzaref37_take p b 0 0 0 0 0 [] 0 [] false 0:=rfl
 conv at hT=>rhs;rw[cadenzaref37_take,Bf,if_pos (by decide),Ut b (by omega),Aa,stS]
 have hE:Bz p b 0 0 0 0 0 [] 0 [] false 0=Bz p b 0 0 0 0 0 [] 0 [] false 0:=rfl
 conv at hE=>rhs;rw[Bz,if_pos (by decide),Wl b (by omega),Aa]
 have hP:seekto_Open b p=seekto_Open b p:=rfl
 conv at hP=>rhs;rw[seekto_Open,Uw,if_neg (by rw[Am,Ac];simp;omega),if_neg (by rw[Am,Ac];simp;omega),Qa b (by omega),Aa]
 have hfn:=Bby b
 have hrn:=Bfo (hdr b)
 have hopen:=Beh b p (by omega) hp
 simp only at hE
 by_cases h2:(frontS b).2=0
 ·obtain⟨p0,p1,p2⟩:=Wd h2
  have hc:=Bg (l:=b) p0 p1
  have hlen:(hdr b).length=b.length-(frontS b).1.toNat:=by simp[hdr]
  simp only[h2]at hP hE
  rw[if_neg (show ¬(frontS b).2=24 by omega),if_neg (show ¬(frontS b).2≠0 by omega)]at hT
  rw[if_neg (by rw[Ag];simp),hc,Aa,show b.drop (frontS b).1.toNat=hdr b from rfl,Aji _ (by simp[hdr];omega),Aa]at hP
  rw[if_neg (by rw[Ag];simp),hc,Aa,show b.drop (frontS b).1.toNat=hdr b from rfl,An7 _ (by simp[hdr];omega),Aa]at hE
  by_cases h3:(readS (hdr b)).2.2.2.2.2=0
  ·obtain⟨g1,g2,g3,g4⟩:=At7 h3
   have hbeg:¬((Ll (hdr b) ID3||Ll (hdr b) APX)=true):=by
    have i1:Ll (hdr b) ID3=false:=by rw[Ll,decide_eq_false (by simp[ID3];omega)];rfl
    have i2:Ll (hdr b) APX=false:=by rw[Ll,decide_eq_false (by simp[APX];omega)];rfl
    rw[i1,i2];decide
   rw[if_neg hbeg,if_neg (show ¬(readS (hdr b)).2.2.2.2.2=24 by omega),h3]at hT
   simp only at hT
   rw[if_neg (by decide)]at hT
   have hd:HdI (f0 (hdr b):Int) (f1 (hdr b):Int) (f2 (hdr b):Int) (f3 (hdr b):Int) (f4 (hdr b):Int) (f0 (hdr b)) (f1 (hdr b)) (f2 (hdr b)) (f3 (hdr b)) (f4 (hdr b)):=⟨rfl,rfl,rfl,rfl,rfl,g3,g4⟩
   generalize hF:(frontS b).1.toNat=F at*
   have hF':(frontS b).1=(F:Int):=by omega
   rw[g1,hF']at hP hT
   simp only at hP hT
   generalize f0 (hdr b)=f at*
   generalize f1 (hdr b)=c at*
   generalize f2 (hdr b)=w at*
   generalize f3 (hdr b)=r at*
   generalize f4 (hdr b)=n at*
   have t22:Ad (F:Int) 22=((F+22:Nat):Int):=by rw[Aj (by omega) (by omega)];omega
   have t30:Ad ((F+22:Nat):Int) 8=((F+30:Nat):Int):=by rw[Aj (by omega) (by omega)];omega
   have hf12:f=1∨f=2:=by simp only[shapeB,decide_eq_true_eq]at g3;omega
   have hf1:geq (f:Int) 1=decide (f=1):=by rw[Al,Bool.eq_iff_iff];simp;omega
   rw[if_neg (by rw[Ag];simp),t22,t30]at hP
   rw[Bg (by omega) (by omega),Aa,Fb,Fm,Dd,show((F:Int)+22).toNat=F+22 by omega]at hT
   by_cases hpass:((p==([]:List UInt8)) !=(geq (f:Int) (1:Int)))=true
   ·rw[if_pos hpass]at hP hT
    rw[Aa]at hT
    exact .inl ⟨26,by omega,hP, .inl ⟨by omega,Ajl (q:=q+1) hx0 (by decide) hT⟩⟩
   ·rw[if_neg hpass]at hP hT
    rw[Aa]at hT
    have hl1:=Bbr (q:=q+1) hT
    have hpf:(p=[]↔f=1):=by
     rw[Al]at hpass
     have h5:(p==([]:List UInt8))=((f:Int)==1):=by simpa using hpass
     have h6:(p==([]:List UInt8))=true↔((f:Int)==1)=true:=by rw[h5]
     rw[beq_iff_eq,beq_iff_eq]at h6
     rw[h6];omega
    have hpw:(p==([]:LB))=decide (f=1):=by rw[←hf1];simpa using hpass
    have hdl:(b.drop (F+22)).length=b.length-(F+22):=List.length_drop
    have hE2:Bz p (b.drop (F+22)) (f:Int) (c:Int) (w:Int) (r:Int) (n:Int) [] 0 [] false 0=some 24:=by
     rw[Bz,if_neg (by rw[Al];simp;omega),if_pos (by decide)]
    have hT2:cadenzaref37_take p (b.drop (F+22)) (f:Int) (c:Int) (w:Int) (r:Int) (n:Int) [] 0 [] false 0=cadenzaref37_take p (b.drop (F+22)) (f:Int) (c:Int) (w:Int) (r:Int) (n:Int) [] 0 [] false 0:=rfl
    conv at hT2=>rhs;rw[cadenzaref37_take,Bf,if_neg (by rw[Al];simp;omega),Bp,Bm,if_pos (by decide),Di,Fs]
    have hend:∀D:Nat,F+22+D≤b.length→D=(if f=2 then 8 else 0)→seekto_Open b p=Pn b (f:Int) (c:Int) (w:Int) (r:Int) (n:Int) ((F+22+D:Nat):Int)→
      cadenzaref37_take p (b.drop (F+22)) (f:Int) (c:Int) (w:Int) (r:Int) (n:Int) [] 0 [] false 0=((Ct (b.drop (F+22)) (f:Int) (c:Int) (w:Int) (r:Int) (n:Int) (D:Int)).bind (fun(ag,ak,w1)=>if(Ay w1 0)then some (p,b.drop (F+22),(f:Int),(c:Int),(w:Int),(r:Int),(n:Int),([]:LI),(0:Int),([]:LB),false,(0:Int),w1)else(Ba (b.drop (F+22)) ag (Ac (b.drop (F+22)))).bind fun al=>some (p,al,(f:Int),(c:Int),(w:Int),(r:Int),(n:Int),ak,(0:Int),([]:LB),false,(0:Int),(0:Int))))→
      (∃e:Int,e≠0∧seekto_Open b p=some (Ang e)∧Ends p (loopR (q+2) p b 0 0 0 0 0 [] 0 []) [] e)∨(∃f c w r n A l,Opn b p f c w r n A l∧loopR (q+2) p b 0 0 0 0 0 [] 0 []=loopR q p (b.drop A) (f:Int) (c:Int) (w:Int) (r:Int) (n:Int) l 0 []):=by
     intro D hD hD2 e1 e2
     obtain⟨_,k2,k3⟩:=Bb5 hd p (b.drop (F+22)) (by omega) D (by omega) 0 [] false 0
     rw[Ba9 g3 g4 b (by omega) (F+22+D) hD]at e1
     rw[k2,Aa]at e2
     have hnn:=Bhg ((b.drop (F+22)).drop D) (framesL (longN r) n).length
     have hok:=Ao0 (b:=(b.drop (F+22)).drop D) (n:=(framesL (longN r) n).length)
     rw[List.drop_drop]at e2 hnn hok k3
     generalize hz:seekS (b.drop (F+22+D)) (framesL (longN r) n).length=z at*
     obtain⟨z1,z2⟩:=z
     simp only at e1 e2 hnn hok k3
     by_cases h:z2≠0
     ·rw[if_pos h]at e1
      refine .inl ⟨z2,h,e1,?_⟩
      by_cases h24:z2=24
      ·rw[if_pos h24]at e2
       simp only at e2
       rw[if_pos (by decide)]at e2
       rw[h24]
       exact .inr ⟨_,_,_,_,_,_,_,_,by omega,hl1.trans (Aeq (by omega) hg0 hx0 e2),hE2⟩
      ·rw[if_neg h24]at e2
       simp only at e2
       rw[if_pos (by rw[Ag];simpa using h)]at e2
       exact .inl ⟨by omega,hl1.trans (Ajl hx0 (by omega) e2)⟩
     ·have h0:z2=0:=by simpa using h
      subst h0
      obtain⟨k1,m2,m3,m4,m5,m6⟩:=hok rfl
      have hk3:=k3 rfl
      simp only[Prod.mk.injEq,and_true]at k1
      have gl:z1.length=(framesL (longN r) n).length:=by rw[k1];exact Rl _ _
      rw[if_neg (show ¬((0:Int)≠0) by decide)]at e1
      rw[if_neg (show ¬((0:Int)=24) by decide)]at e2
      simp only at e2
      rw[if_neg (by decide),Bg (by omega) (by omega),Aa,List.drop_drop]at e2
      rcases hopen with⟨e,he,h1,_⟩|⟨f',c',w',r',n',A',l',o'⟩
      ·rw[e1]at h1
       have:=Option.some.inj h1
       simp only[Ang,Prod.mk.injEq]at this
       exact absurd this.2.2.2.2.2.2.2.symm he
      ·have hpr:=o'.prog
       rw[e1]at hpr
       simp only[Option.some.injEq,Prod.mk.injEq]at hpr
       obtain⟨v1,v2,v3,v4,v5,v6,v7,_⟩:=hpr
       refine .inr ⟨f',c',w',r',n',A',l',o',?_⟩
       rw[←v1,←v2,←v3,←v4,←v5,←v7]
       refine hl1.trans ((Bbr e2).trans ?_)
       congr 2
       omega
    by_cases h5:f=2
    ·have hpne:p≠ []:=fun e=>by have:=hpf.1 e;omega
     have h64:(p !=([]:List UInt8))=true:=by simpa using hpne
     rw[if_pos h64]at hP
     rw[if_pos (by rw[Al,h5];rfl)]at hT2
     by_cases h6:b.length<F+30
     ·rw[if_pos (by rw[Af,Ac];simp;omega)]at hP hT2
      rw[Aa]at hT2
      simp only at hT2
      rw[if_pos (by decide)]at hT2
      exact .inl ⟨24,by omega,hP, .inr ⟨_,_,_,_,_,_,_,_,by omega,hl1.trans (Aeq (by omega) hg0 hx0 hT2),hE2⟩⟩
     ·have hseg:((b.take (F+30)).drop (F+22)).length=8:=by simp;omega
      have hsg2:(b.drop (F+22)).take 8=(b.take (F+30)).drop (F+22):=by rw[List.drop_take];congr 1;omega
      rw[if_neg (by rw[Af,Ac];simp;omega),Ta (by omega) (by omega) (by omega),Aa]at hP
      rw[if_neg (by rw[Af,Ac,hdl];simp;omega),Cp (by omega) (by omega),Aa,Apa p hp,Aa,show(8:Int).toNat=8 from rfl,hsg2]at hT2
      rw[Lk,Bbv p hp,Aa]at hP
      simp only at hP
      rw[if_neg (by rw[Ag,Ag,Ac,Ac,My,show((F+30:Nat):Int).toNat=F+30 from rfl,show((F+22:Nat):Int).toNat=F+22 from rfl,hseg];simp),Ge,Aa,Aa]at hP
      simp only at hP
      rw[if_neg (by rw[Ag];simp),show((F+30:Nat):Int).toNat=F+30 from rfl,show((F+22:Nat):Int).toNat=F+22 from rfl]at hP
      generalize(b.take (F+30)).drop (F+22)=seg at*
      by_cases h7:seg=leB (Wo p).toNat 8
      ·rw[if_neg (by simp[h7])]at hP hT2
       exact hend 8 (by omega) (by rw[if_pos h5]) hP hT2
      ·rw[if_pos (by simpa using h7)]at hP
       rw[if_pos (by simpa using h7),Aa]at hT2
       simp only at hT2
       rw[if_pos (by decide)]at hT2
       exact .inl ⟨26,by omega,hP, .inl ⟨by omega,hl1.trans (Ajl hx0 (by decide) hT2)⟩⟩
    ·have hpe:p=[]:=hpf.2 (by omega)
     rw[if_neg (by rw[hpe];simp)]at hP
     rw[if_neg (by rw[Al];simp;omega)]at hT2
     exact hend 0 (by omega) (by rw[if_neg h5]) hP hT2
  ·have h3':=h3
   generalize readS (hdr b)=v at*
   obtain⟨v1,v2,v3,v4,v5,v6⟩:=v
   simp only at h3 hP hE hrn
   rw[if_pos (by rw[Ag];simpa using h3)]at hP
   refine .inl ⟨v6,h3,hP,?_⟩
   by_cases hbeg:(Ll (hdr b) ID3||Ll (hdr b) APX)=true
   ·rw[if_pos hbeg]at hT
    simp only at hT
    rw[if_pos (by decide)]at hT
    exact .inr ⟨_,_,_,_,_,_,_,_,by omega,Aeq (by omega) hg0 hx0 hT,hE⟩
   ·rw[if_neg hbeg]at hT
    by_cases h24:v6=24
    ·rw[if_pos h24]at hT
     simp only at hT
     rw[if_pos (by decide)]at hT
     exact .inr ⟨_,_,_,_,_,_,_,_,by omega,Aeq (by omega) hg0 hx0 hT,hE⟩
    ·rw[if_neg h24]at hT
     simp only at hT
     rw[if_pos (by rw[Ag];simpa using h3)]at hT
     exact .inl ⟨by omega,Ajl hx0 (by omega) hT⟩
 ·have h2':=h2
  generalize frontS b=v at*
  obtain⟨v,e⟩:=v
  simp only at h2 hP hT hE hfn
  rw[if_pos (by rw[Ag];simpa using h2)]at hP hE
  refine .inl ⟨e,h2,hP,?_⟩
  by_cases h24:e=24
  ·rw[if_pos h24]at hT
   simp only at hT
   rw[if_pos (by decide)]at hT
   exact .inr ⟨_,_,_,_,_,_,_,_,by omega,Aeq (by omega) hg0 hx0 hT,hE⟩
  ·rw[if_neg h24,if_pos h2]at hT
   simp only at hT
   rw[if_pos (by rw[Ag];simpa using h2)]at hT
   exact .inl ⟨by omega,Ajl hx0 (by omega) hT⟩
section
variable {b p:List UInt8} {f c w r n A:Nat} {l:List Int} (o:Opn b p f c w r n A l) (hb:b.length≤20000)
include o hb
theorem Bdo:∀(j k q:Nat) (acc:List UInt8),k+j=l.length→j<q→(A:Int)+(l.take k).sum≤b.length→acc.length≤12000*k→
  ∃X,Ends p (loopR q p (b.drop ((A:Int)+(l.take k).sum).toNat) (f:Int) (c:Int) (w:Int) (r:Int) (n:Int) l (k:Int) acc) X (Ar0 (Yw b p f c w r n A l) (Bat b A l) j k acc).2∧
   ((Ar0 (Yw b p f c w r n A l) (Bat b A l) j k acc).2=0→X=(Ar0 (Yw b p f c w r n A l) (Bat b A l) j k acc).1)
 |j,k,0,_,_,h,_,_=>absurd h (Nat.not_lt_zero _)
 |j,k,q+1,acc,hk,hq,hA,ha=>by
  have hd:HdI (f:Int) (c:Int) (w:Int) (r:Int) (n:Int) f c w r n:=⟨rfl,rfl,rfl,rfl,rfl,o.shape,o.fit⟩
  have hs1:=o.some1
  have hsum:=o.sum
  have hnum:=hd.num
  have hlen:=o.len
  have b1:=Ht o.five k
  have hfn:¬(geq (f:Int) 0=true):=by rw[Al];simp;omega
  have hgl:¬(geq (Ac l) 0=true):=by rw[Al,Ac,beq_iff_eq];omega
  have hgf:geq (Ac l) 0=false:=by simpa using hgl
  generalize hIn:b.drop ((A:Int)+(l.take k).sum).toNat=In
  have hInl:In.length=b.length-((A:Int)+(l.take k).sum).toNat:=by rw[←hIn,List.length_drop]
  have hT:cadenzaref37_take p In (f:Int) (c:Int) (w:Int) (r:Int) (n:Int) l (k:Int) acc false 0=cadenzaref37_take p In (f:Int) (c:Int) (w:Int) (r:Int) (n:Int) l (k:Int) acc false 0:=rfl
  conv at hT=>rhs;rw[cadenzaref37_take,Bf,if_neg hfn,Bp,Bm,if_neg hgl]
  have hE:Bz p In (f:Int) (c:Int) (w:Int) (r:Int) (n:Int) l (k:Int) acc false 0=Bz p In (f:Int) (c:Int) (w:Int) (r:Int) (n:Int) l (k:Int) acc false 0:=rfl
  conv at hE=>rhs;rw[Bz,if_neg hfn]
  cases j with
  |zero=>
   obtain rfl:k=l.length:=by omega
   rw[List.take_length]at hIn hInl
   have hbe:Bat b A l=(Qn In).2:=by rw[Bat,hIn]
   rw[if_pos (by rw[Al,Ac];simp)]at hT
   have hgt:Cb (l.length:Int) (Ac l)=false:=by rw[Af,Ac,decide_eq_false_iff_not];omega
   rw[if_neg (by rw[hgf,hgt];decide),Ayg In (by omega),Aa]at hE
   rw[Ar0,hbe]
   have hbz:=Bko In
   have hb4:4000<In.length→(Qn In).2=38:=fun h4=>by rw[Qn,if_pos h4]
   generalize Qn In=z at*
   obtain⟨z1,z2⟩:=z
   simp only at hE hbz hb4⊢
   by_cases h4:4000<In.length
   ·rw[if_pos (by rw[Am,Ac];simp;omega)]at hT
    rw[hb4 h4,if_pos (by decide)]
    exact⟨acc, .inl ⟨by decide,Ajl (by omega) (by decide) hT⟩,fun h=>by cases h⟩
   ·rw[if_neg (by rw[Am,Ac];simp;omega)]at hT
    have hlw:=Aeq (q:=q) (by omega:In.length≤100000) hs1.2 (by omega) hT
    rcases hbz with h|h
    ·rw[h,if_neg (by decide)]
     rw[h,if_neg (by decide)]at hE
     exact⟨acc, .inr ⟨_,_,_,_,_,_,_,_,by omega,hlw,hE⟩,fun _=>rfl⟩
    ·rw[h,if_pos (by decide)]
     rw[h,if_pos (by decide)]at hE
     exact⟨acc, .inr ⟨_,_,_,_,_,_,_,_,by omega,hlw,hE⟩,fun h=>by cases h⟩
  |succ j=>
   have hlt:k<l.length:=by omega
   have hlt2:k<(framesL (longN r) n).length:=by omega
   obtain⟨m,x,s,e,g⟩:=Awi o k hlt
   have hw:Ci (w:Int):=(Ri o.shape).2.1
   have hgl2:=g.lens hw
   have b2:=Ht o.five (k+1)
   have e1:=Jn hlt
   have h5:=o.five l[k] (List.getElem_mem _)
   have hm:=g.mom
   rw[if_neg (by rw[Al,Ac];simp;omega),Cq,Ec,By hlt,Aa]at hT
   have hgt:Cb (k:Int) (Ac l)=true:=by rw[Af,Ac,decide_eq_true_eq];omega
   rw[if_pos (by rw[hgf,hgt];decide)]at hE
   rw[Ar0,g.eq]
   simp only
   rcases g.way with⟨w1,rfl⟩|⟨w1,_,w2⟩
   ·rw[if_pos (by rw[Af,Ac];simp;omega),Aa]at hT
    simp only at hT
    rw[if_pos (by decide)]at hT
    rw[if_pos (by decide)]
    exact⟨acc, .inr ⟨_,_,_,_,_,_,_,_,by omega,Aeq (by omega) hs1.2 (by omega) hT,hE⟩,fun h=>by cases h⟩
   ·have hseg:In.take l[k].toNat=segF b A l k:=by
     rw[segF,←hIn,List.drop_take];congr 1;omega
    have hnn:=Bbk hw (Qf p) hnum.2.1.1 hnum.2.1.2 g.pos.1 (by
     have hlt3:=By hlt2
     rw[hlt3]at hm
     have hm':=Option.some.inj hm
     obtain⟨m',hm2,m1,m2⟩:=Ui (Pe r) hnum.2.2.2.2.1 (List.getElem_mem hlt2)
     omega) w2
    rw[if_neg (by rw[Af,Ac];simp;omega),Alm p o.pass,Aa]at hT
    simp only at hT
    rw[Cp (by omega) (by omega),Aa,hseg,Fi,Aa]at hT
    simp only at hT
    rw[hd.Bnj,Aa,hm,Aa,Aa,w2,Aa]at hT
    simp only at hT
    rw[Dw,Dx]at hT
    by_cases he:e≠0
    ·rw[if_pos (by rw[Ag];simpa using he),Aa]at hT
     simp only at hT
     rw[if_pos (by rw[Ag];simpa using he)]at hT
     rw[if_pos he]
     exact⟨acc, .inl ⟨by simp only;omega,Ajl (by omega) (by omega) hT⟩,fun h=>absurd h he⟩
    ·have he0:e=0:=by simpa using he
     obtain⟨q1,q2,q3,q4,q5⟩:=g.some' he0
     rw[if_neg (by rw[Ag];simpa using he),Ajg hw (by omega) q3,←q1,Aa,Aa]at hT
     simp only at hT
     rw[if_neg (by decide),Cl (by simp;omega),Aa,List.nil_append,Cl (by omega),Aa,Aa,Bg (by omega) (by omega),Aa,Aj (by omega) (by omega)]at hT
     rw[if_neg he,Bbr hT]
     have hIn2:In.drop l[k].toNat=b.drop ((A:Int)+(l.take (k+1)).sum).toNat:=by rw[←hIn,List.drop_drop];congr 1;omega
     rw[hIn2]
     exact Bdo j (k+1) q (acc++s) (by omega) (by omega) q5 (by rw[List.length_append];omega)
end
theorem Bxy(b p:LB)(hb:b.length≤20000)(hp:p.length≤64):∃(X:LB) (x1 x2 x3:Int) (x4:LX) (E:Int),Ends p (Fd p b) X E∧Mk b p=some (x1,x2,x3,x4,E)∧(E=0→width_Bytes x2 x4=some (X,0)):=by
 obtain⟨q,hq⟩:∃q,FUEL=q+1002+2:=⟨FUEL-1004,by have:=Ao;omega⟩
 rw[Fd,hq]
 rcases Brt b p hb hp (q+1002)with⟨e,he,h1,h2⟩|⟨f,c,w,r,n,A,l,o,h2⟩
 ·rcases Bu3 b p (by omega) hp with⟨e',he',k1,_,k3,_⟩|⟨f,c,w,r,n,A,l,o,_,_⟩
  ·rw[h1]at k1
   have:=Option.some.inj k1
   simp only[Ang,Prod.mk.injEq]at this
   obtain rfl:=this.2.2.2.2.2.2.2
   exact⟨[],0,0,0,[],e,h2,k3,fun h=>absurd h he⟩
  ·have:=o.prog
   rw[h1]at this
   have:=Option.some.inj this
   simp only[Ang,Prod.mk.injEq]at this
   exact absurd this.2.2.2.2.2.2.2 he
 ·rcases Bu3 b p (by omega) hp with⟨e',he',k1,_,k3,_⟩|⟨f',c',w',r',n',A',l',o',k3,_⟩
  ·have:=o.prog
   rw[k1]at this
   have:=Option.some.inj this
   simp only[Ang,Prod.mk.injEq]at this
   exact absurd this.2.2.2.2.2.2.2 he'
  ·have hpr:=o'.prog
   rw[o.prog]at hpr
   simp only[Option.some.injEq,Prod.mk.injEq]at hpr
   obtain⟨v1,v2,v3,v4,v5,v6,v7,_⟩:=hpr
   obtain rfl:f=f':=by omega
   obtain rfl:c=c':=by omega
   obtain rfl:w=w':=by omega
   obtain rfl:r=r':=by omega
   obtain rfl:n=n':=by omega
   obtain rfl:A=A':=by omega
   subst v7
   have hs1:=o.some1
   have hat:=o.at'
   obtain⟨X,g1,g2⟩:=Bdo o hb l.length 0 (q+1002) [] (by omega) (by omega) (by rw[List.take_zero,List.sum_nil];omega) (by simp)
   rw[List.take_zero,List.sum_nil,Int.add_zero,Int.toNat_natCast]at g1
   have hrc:=Bp4 w (Yw b p f c w r n A l) (Bat b A l) l.length 0 [] []
   have hgd:=Bp3 (fun k=>smF w (Yw b p f c w r n A l k)) (fun k=>(Yw b p f c w r n A l k).2) (Bat b A l) l.length 0 []
   rw[Bzv,Arz]at k3
   rw[h2]
   by_cases hC:(Avd (fun k=>smF w (Yw b p f c w r n A l k)) (fun k=>(Yw b p f c w r n A l k).2) (Bat b A l) l.length 0 []).2≠0
   ·rw[if_pos hC,Bnb]at k3
    rw[←hrc]at hC k3
    exact⟨X,0,0,0,[],_,g1,k3,fun h=>absurd h hC⟩
   ·have hC0:(Avd (fun k=>smF w (Yw b p f c w r n A l k)) (fun k=>(Yw b p f c w r n A l k).2) (Bat b A l) l.length 0 []).2=0:=by simpa using hC
    obtain⟨hbe,hE',hC1⟩:=hgd hC0
    have hE:∀i,i<l.length→(Yw b p f c w r n A l i).2=0:=fun i hi=>hE' i (by omega) (by omega)
    rw[List.nil_append]at hC1
    rw[if_neg hC,hC1]at k3
    rw[hC0]at hrc
    have hX:=g2 hrc
    rw[hbe,Bke _ _ _ _ fun i h1 h2=>hE i (by omega),List.nil_append]at hX
    rw[hrc]at g1
    exact⟨X,_,_,_,_,0,g1,k3,fun _=>by rw[hX];exact Bvn o hE⟩
theorem Cb0(hal:Qq=some true)(o b:LB):Jo o b=some true:=by
 have main:o.length≤64→b.length≤12100→Hf o b true=some true:=by
  intro ho hb
  obtain⟨X,x1,x2,x3,x4,E,hEnd,hclip,hwid⟩:=Bxy b o (by omega) ho
  obtain⟨p2,f2,c2,w2,r2,n2,g2,a2,y2,e3,d1,_,d3⟩:=(Bh.new ho).feed ho (by simp) b (by omega) (by simp;omega)
  rw[List.nil_append]at d3
  have hs:=d3.Ci1
  have hfd:=d3.fd (by omega)
  have hck:=d3.check ho (by omega)
  have key:∃(u:Bool) (v:Int),Eu b o=some (o,[],0,0,0,0,0,[],0,X,u,v,E)∧X.length≤12000∧((u=false∧v=E∧0<E∧Cd E)∨(u=true∧v=0∧E=0)):=by
   rw[Eu,Al6,if_neg (by rw[Am,Ac];simp;omega),Aa]
   simp only
   rw[if_neg (by decide),d1,Aa]
   simp only
   rcases hEnd with⟨h0,h1⟩|⟨p,f,c,w,r,n,g,a,hpl,h1,h2⟩
   ·rw[hfd]at h1
    simp only[Option.some.injEq,Prod.mk.injEq]at h1
    obtain⟨_,rfl,rfl,rfl,rfl,rfl,rfl,rfl,rfl,rfl,_,rfl,_⟩:=h1
    rw[if_pos (by rw[Ag];simp;omega)]
    refine⟨false,_,rfl,hs.2.2, .inl ⟨rfl,rfl,h0,?_⟩⟩
    cases d3 with
    |wt W hl hb=>omega
    |er h0 hc hx hb=>exact hc
   ·rw[hfd]at h1
    simp only[Option.some.injEq,Prod.mk.injEq]at h1
    obtain⟨_,rfl,rfl,rfl,rfl,rfl,rfl,rfl,rfl,rfl,_,rfl,_⟩:=h1
    have hbg:=Az0 (o:=o) (p:=p2) (f:=f2) (c:=c2) (w:=w2) (r:=r2) (n:=n2) (g:=g2) (a:=a2) (x:=y2) (u:=false) (v:=0) (by omega) (by omega) (by omega) hck.1
    rw[if_neg (by decide)]at hbg
    obtain⟨e1,q1,q2⟩:=Bn0 (o:=o) (p:=p2) (f:=f2) (c:=c2) (w:=w2) (r:=r2) (n:=n2) (a:=a2) (u:=false) (v:=0) (g:=g2) (x:=y2) (by omega)
    rw[h2]at q2
    cases q2
    have hcd:=Bvz (by omega) h2
    rw[if_neg (by decide),Vn,hbg,Aa]
    simp only
    rw[if_neg (by decide),q1,Aa]
    by_cases he:Ay E 0=true
    ·rw[if_pos he,Ai8,Aa,Aa]
     have hne:E≠0:=by rw[Ag]at he;simpa using he
     have hnn:=hcd.nn
     exact⟨false,E,rfl,hs.2.2, .inl ⟨rfl,rfl,by omega,hcd⟩⟩
    ·have hE0:E=0:=by rw[Ag]at he;simpa using he
     rw[if_neg he,Aa]
     exact⟨true,0,by rw[hE0],hs.2.2, .inr ⟨rfl,rfl,hE0⟩⟩
  obtain⟨u,v,k1,k2,k3⟩:=key
  have hchk:Amv b o=some E:=by rw[Amv,hclip,Aa]
  rw[Hf,Lg,k1,Aa]
  simp only
  rw[hclip,Aa]
  simp only
  rw[if_neg (by rw[Ag];simp),hchk,Aa]
  rcases k3 with⟨rfl,rfl,h0,hcd⟩|⟨rfl,rfl,rfl⟩
  ·have e1:geq v 0=false:=by rw[Al,beq_eq_false_iff_ne];omega
   rw[if_neg (by rw[e1];simp[Ag]),He,Le,if_pos (by rw[Ag];simp;omega)]
  ·have hd:=Chl (u:=true) (v:=0) (k:=36) ho k2 (.inr ⟨rfl,rfl,rfl⟩)
   have hdr:=Byf (e:=0) (u:=true) hd.1 (by simp) (by simp) k2 12000
   rw[if_neg (by decide),He,Le,if_neg (by decide),hwid rfl,Aa]
   simp only
   rw[show(12000:Int)=((12000:Nat):Int)from rfl,hdr,Aa]
   simp only
   rw[Nat.min_eq_right k2,List.take_length]
   simp[Al]
 rw[Jo,Lh,hal,Aa]
 by_cases ho:o.length≤64
 ·rw[if_neg (by rw[Am,Ac];simp;omega),Abj,Aa]
  by_cases hb:((((Eb (Ac b) 5000)&&(Cb (Ac b) 12000))||(Eb (Ac b) 12100))||(!true))=true
  ·rw[if_pos hb]
  ·rw[if_neg hb]
   simp only[Bool.or_eq_true,not_or,Am,Ac,decide_eq_true_eq]at hb
   exact main ho (by omega)
 ·rw[if_pos (by rw[Am,Ac];simp;omega),if_pos (by simp)]
theorem law_PushdecClip(o b:LB):Jo o b=some true:=Cb0 Cdg o b
end Go.Pl
