/- A part of the proof of a statement of this seat (see the text that ends in Proof): LwRt, LwClip, LwPts, LwTrc, LwPd, LwDt, LwDu, LwAll, LwDp. No conditions of its own. -/
import Derived.Test.YtkkcakakemjdeaaGreatDoorDpWA
import Derived.KernelRfl
set_option linter.unusedVariables false
set_option linter.unusedSimpArgs false
namespace Go.Pl
open Go Go.Lv
theorem Ay0(z:Int):(u8 z).toNat=(z %256).toNat:=by
 have:(z %256).toNat<256:=by omega
 rw[u8,UInt8.toNat_ofNat',Nat.mod_eq_of_lt (by omega)]
theorem Bdt{bits:Int}(h:Cq bits):∀(l:List Int32) (i j:Nat),i<l.length→j<wB bits→(bytesB bits l).getD (i*wB bits+j) 0=(Ab8 bits (l.getD i 0).toInt).getD j 0
 |[],i,j,hi,_=>by simp at hi
 |x::l,0,j,_,hj=>by
  have h1:=Axt h x.toInt
  have e:bytesB bits (x::l)=Ab8 bits x.toInt++bytesB bits l:=by simp[bytesB]
  rw[e,Nat.zero_mul,Nat.zero_add,List.getD_eq_getElem?_getD,List.getD_eq_getElem?_getD,List.getElem?_append_left (by omega)];rfl
 |x::l,i+1,j,hi,hj=>by
  have h1:=Axt h x.toInt
  have e:bytesB bits (x::l)=Ab8 bits x.toInt++bytesB bits l:=by simp[bytesB]
  have ih:=Bdt h l i j (by simpa using hi) hj
  have e2:(i+1)*wB bits+j=(Ab8 bits x.toInt).length+(i*wB bits+j):=by rw[Nat.add_mul,Nat.one_mul,h1];omega
  rw[e,e2,List.getD_eq_getElem?_getD,List.getElem?_append_right (by omega),Nat.add_sub_cancel_left,←List.getD_eq_getElem?_getD,ih];rfl
theorem Bx4{bits:Int}(h:Cq bits)(l:List Int32)(hr:inR bits l)(i:Nat)(hi:i<l.length):Int32.ofInt (sx (wB bits) (bytesB bits l) (i*wB bits))=l.getD i 0:=by
 have hm:l.getD i 0∈l:=by rw[List.getD_eq_getElem?_getD,List.getElem?_eq_getElem hi];exact List.getElem_mem hi
 have hv:=hr _ hm
 have g:∀j,j<wB bits→by' (bytesB bits l) (i*wB bits+j)=((Ab8 bits (l.getD i 0).toInt).getD j 0).toNat:=fun j hj=>by rw[by',Bdt h l i j hi hj]
 generalize l.getD i 0=x at*
 have key:sx (wB bits) (bytesB bits l) (i*wB bits)=x.toInt:=by
  generalize hA:i*wB bits=a at*
  obtain rfl|rfl|rfl:=h
  ·have g0:=g 0 (by decide)
   have e1:(Ab8 8 x.toInt).getD 0 0=u8 (x.toInt+128):=rfl
   rw[Nat.add_zero,e1,Ay0]at g0
   simp only[hB]at hv
   simp at hv
   have e2:wB 8=1:=rfl
   rw[e2,sx,if_pos rfl,g0];omega
  ·have g0:=g 0 (by decide)
   have g1:=g 1 (by decide)
   have e0:(Ab8 16 x.toInt).getD 0 0=u8 x.toInt:=rfl
   have e1:(Ab8 16 x.toInt).getD 1 0=u8 (x.toInt/256):=rfl
   rw[Nat.add_zero,e0,Ay0]at g0
   rw[e1,Ay0]at g1
   simp only[hB]at hv
   simp at hv
   have e2:wB 16=2:=rfl
   rw[e2,sx2,g0,g1]
   split<;>omega
  ·have g0:=g 0 (by decide)
   have g1:=g 1 (by decide)
   have g2:=g 2 (by decide)
   have e0:(Ab8 24 x.toInt).getD 0 0=u8 x.toInt:=rfl
   have e1:(Ab8 24 x.toInt).getD 1 0=u8 (x.toInt/256):=rfl
   have e3:(Ab8 24 x.toInt).getD 2 0=u8 (x.toInt/65536):=rfl
   rw[Nat.add_zero,e0,Ay0]at g0
   rw[e1,Ay0]at g1
   rw[e3,Ay0]at g2
   simp only[hB]at hv
   simp at hv
   have e2:wB 24=3:=rfl
   rw[e2,sx3,g0,g1,g2]
   split<;>omega
 rw[key];simp
theorem Bud{bits:Int}(h:Cq bits)(l:List Int32)(hr:inR bits l):sxs (wB bits) l.length (bytesB bits l)=l:=by
 refine List.ext_getElem (Byi _ _ _) fun i h1 h2=>?_
 have:=Bx4 h l hr i h2
 simp only[sxs,List.getElem_map,List.getElem_range]
 rw[this,List.getD_eq_getElem?_getD,List.getElem?_eq_getElem h2];rfl
theorem Gts.smp{b p:List UInt8}{f c w r n A:Nat}{l:List Int}{k m:Nat}{x:List Int32}{s:List UInt8}{e:Int}(hw:Cq (w:Int))(g:Gts b p f c w r n A l k m x s e):smF w (s,e)=x:=by
 have hwb:=Bri (w:Int)
 by_cases he:e=0
 ·obtain⟨h1,h2,h3,_⟩:=g.some' he
  have h4:=g.pos
  have h5:=Asa hw x
  rw[smF,if_neg (by simpa using he)]
  simp only
  rw[h1,h5,Nat.mul_div_cancel _ (by omega)]
  exact Bud hw x (Ax3 hw (by omega) h3)
 ·rw[smF,if_pos he,(g.none' he).2]
end Go.Pl
set_option linter.unusedVariables false
set_option linter.unusedSimpArgs false
namespace Go.Pl
open Go Go.Lv
abbrev C5:=Int×Int×Int×List Int32×Int
def Bh2(e:Int):C5:=(0,0,0,[],e)
theorem Bl7{seg p:List UInt8}(hs:seg.length=8)(hp:p.length≤64):Sp seg p=some (seg==leB (Aas p).toNat 8,0):=by
 rw[Sp,Bg9 p hp,Aa]
 simp only
 rw[if_neg (by rw[Aj,Aj,Ac,Ac,Ld,hs];simp),Fo,Aa]
theorem Bz2(b p:List UInt8)(m c w h o q n g y ab:Int)(k v:List Int){e:Int}(he:e≠0):Jt b p m c w h o q n g k e y ab v=some (Bh2 e):=by
 rw[Jt,Xx,if_pos (by rw[Aj];simpa using he)];rfl
theorem Ba6(b p:List UInt8)(m c w h o q n g y ab:Int)(k:List Int){e:Int}(he:e≠0):Mf b p m c w h o q n g y ab k e=some (Bh2 e):=by
 rw[Mf,Ys,if_pos (by rw[Aj];simpa using he)];rfl
theorem Bv2(b p:List UInt8)(m c w h o q n g y ab:Int)(k:List Int):Mf b p m c w h o q n g y ab k 0=Re b p m c w h o q n g y ab k:=by
 rw[Mf,Ys,if_neg (by rw[Aj];simp)]
def Bfy(X:Nat→List Int32)(E:Nat→Int)(be:Int):Nat→Nat→List Int32→List Int32×Int
 |0,_,acc=>if be≠0 then([],38)else(acc,0)
 |j+1,k,acc=>if E k≠0 then([],E k)else Bfy X E be j (k+1) (acc++X k)
def Ao1(c w r:Nat)(y:List Int32×Int):C5:=if y.2≠0 then Bh2 y.2 else((c:Int),(w:Int),(r:Int),y.1,0)
def Ao6(b p:List UInt8)(f c w r n A:Nat)(l:List Int):C5:=
 Ao1 c w r (Bfy (fun k=>smF w (Ayv b p f c w r n A l k)) (fun k=>(Ayv b p f c w r n A l k).2) (Bsl b A l) l.length 0 [])
section
variable {b p:List UInt8} {f c w r n A:Nat} {l:List Int} (o:Opn b p f c w r n A l)
include o
theorem As5(a1 a2 a3 a4:Int):∀(j k q:Nat) (acc:List Int32),k+j=l.length→j<q→(k=l.length→(A:Int)+l.sum≤b.length)→acc.length≤4000*k→
  Mt b l (f:Int) (c:Int) (w:Int) (r:Int) (n:Int) a1 a2 a3 (A:Int) a4 (tapsOf p) (framesL (longN r) n) q ((A:Int)+(l.take k).sum) (k:Int) acc=
   some (Ao1 c w r (Bfy (fun k=>smF w (Ayv b p f c w r n A l k)) (fun k=>(Ayv b p f c w r n A l k).2) (Bsl b A l) j k acc))
 |0,k,q+1,acc,hk,_,hfit,_=>by
  have hA:=o.at'
  have hfile:=o.file
  have hs1:=o.some1
  have hsum:=o.sum
  have b1:=Ds o.five l.length
  have hf:=hfit (by omega)
  obtain rfl:k=l.length:=by omega
  rw[List.take_length]at b1⊢
  rw[Mt,Yv,if_neg (by rw[Af,Ac];simp),Agz,Aqi,Fj (by omega) (by omega),Aa,Bkh _ (by rw[List.length_drop];omega),Aa,Bfy,Bsl]
  generalize Am2 (b.drop ((A:Int)+l.sum).toNat)=v
  obtain⟨v1,v2⟩:=v
  simp only
  by_cases hv:v2≠0
  ·rw[if_pos hv,if_pos (by rw[Aj];simpa using hv),Ao1,if_pos (by simp)];rfl
  ·rw[if_neg hv,if_neg (by rw[Aj];simpa using hv),Ao1,if_neg (by simp)]
 |j+1,k,q+1,acc,hk,hq,hfit,hacc=>by
  have hA:=o.at'
  have hfile:=o.file
  have hs1:=o.some1
  have hsum:=o.sum
  have b1:=Ds o.five k
  have b2:=Ds o.five (k+1)
  have hkl:k<l.length:=by omega
  have e2:=Fu hkl
  have h5:=o.five l[k] (List.getElem_mem _)
  obtain⟨m,x,s,e,g⟩:=Aml o k hkl
  obtain⟨hc,hw,hr,hn,_⟩:=Yd o.shape
  have hl:=g.lens hw
  rw[Mt,Yv,if_pos (by rw[Af,Ac];simp;omega),Bw hkl,Aa,Aa,Ag (a:=(A:Int)+(l.take k).sum) (by omega) (by omega),Int.add_assoc,←e2,Ac,Bfy,g.eq]
  simp only
  rcases g.way with⟨h1,h2⟩|⟨h1,h2,_⟩
  ·rw[if_pos (by rw[Af,decide_eq_true_eq];omega),if_pos (by rw[h2];simp),h2,Ao1,if_pos (by simp)];rfl
  ·rw[if_neg (by rw[Af,decide_eq_true_eq];omega),g.mom]
   simp only[Aa]
   rw[Mx (by omega) (by omega) (by omega),Aa,show(b.take ((A:Int)+(l.take (k+1)).sum).toNat).drop ((A:Int)+(l.take k).sum).toNat=segF b A l k from rfl,h2,Aa]
   simp only
   rw[Ai2,Aso]
   by_cases he:e≠0
   ·rw[if_pos (by rw[Aj];simpa using he),if_pos he,Ao1,if_pos he];rfl
   ·have he0:e=0:=by simpa using he
    have hfit2:=(g.some' he0).2.2.2.2
    rw[if_neg (by rw[Aj];simpa using he),if_neg he,g.smp hw,Fs (by omega),Aa,Ag (a:=(A:Int)+(l.take k).sum) (by omega) (by omega),Int.add_assoc,←e2,Ag (by omega) (by omega)]
    exact As5 a1 a2 a3 a4 j (k+1) q (acc++x) (by omega) (by omega) (fun h=>by rw[h,List.take_length]at hfit2;exact hfit2) (by rw[List.length_append];omega)
theorem Aum:∀(j k q:Nat) (acc:List Int32),k+j=l.length→j<q→(k=l.length→(A:Int)+l.sum≤b.length)→acc.length≤4000*k→
  Hu b (f:Int) (c:Int) (w:Int) (r:Int) (n:Int) l (framesL (longN r) n) (tapsOf p) q ((A:Int)+(l.take k).sum) (k:Int) acc=
   some (Ao1 c w r (Bfy (fun k=>smF w (Ayv b p f c w r n A l k)) (fun k=>(Ayv b p f c w r n A l k).2) (Bsl b A l) j k acc))
 |0,k,q+1,acc,hk,_,hfit,_=>by
  have hA:=o.at'
  have hfile:=o.file
  have hs1:=o.some1
  have hsum:=o.sum
  have b1:=Ds o.five l.length
  have hf:=hfit (by omega)
  obtain rfl:k=l.length:=by omega
  rw[List.take_length]at b1⊢
  rw[Hu,Qy,if_neg (by rw[Af,Ac];simp),Aa3,Aa8,Fj (by omega) (by omega),Aa,Bpe _ (by rw[List.length_drop];omega),Aa,Bfy,Bsl]
  generalize Am2 (b.drop ((A:Int)+l.sum).toNat)=v
  obtain⟨v1,v2⟩:=v
  simp only
  by_cases hv:v2≠0
  ·rw[if_pos hv,if_pos (by rw[Aj];simpa using hv),Ao1,if_pos (by simp)];rfl
  ·rw[if_neg hv,if_neg (by rw[Aj];simpa using hv),Ao1,if_neg (by simp)]
 |j+1,k,q+1,acc,hk,hq,hfit,hacc=>by
  have hA:=o.at'
  have hfile:=o.file
  have hs1:=o.some1
  have hsum:=o.sum
  have b1:=Ds o.five k
  have b2:=Ds o.five (k+1)
  have hkl:k<l.length:=by omega
  have e2:=Fu hkl
  have h5:=o.five l[k] (List.getElem_mem _)
  obtain⟨m,x,s,e,g⟩:=Aml o k hkl
  obtain⟨hc,hw,hr,hn,_⟩:=Yd o.shape
  have hl:=g.lens hw
  rw[Hu,Qy,if_pos (by rw[Af,Ac];simp;omega),Bw hkl,Aa,Aa,Ac,Be (by omega) (by omega),Bfy,g.eq]
  simp only
  rcases g.way with⟨h1,h2⟩|⟨h1,_,h2⟩
  ·rw[if_pos (by rw[Af,decide_eq_true_eq];omega),if_pos (by rw[h2];simp),h2,Ao1,if_pos (by simp)];rfl
  ·rw[if_neg (by rw[Af,decide_eq_true_eq];omega),g.mom]
   simp only[Aa]
   rw[Ag (a:=(A:Int)+(l.take k).sum) (by omega) (by omega),Int.add_assoc,←e2,Mx (by omega) (by omega) (by omega),Aa,show(b.take ((A:Int)+(l.take (k+1)).sum).toNat).drop ((A:Int)+(l.take k).sum).toNat=segF b A l k from rfl,h2,Aa]
   simp only
   rw[Abk,Abq]
   by_cases he:e≠0
   ·rw[if_pos (by rw[Aj];simpa using he),if_pos he,Ao1,if_pos he];rfl
   ·have he0:e=0:=by simpa using he
    have hfit2:=(g.some' he0).2.2.2.2
    rw[if_neg (by rw[Aj];simpa using he),if_neg he,g.smp hw,Fs (by omega),Aa,Bw hkl,Aa,Aa,Ag (a:=(A:Int)+(l.take k).sum) (by omega) (by omega),Int.add_assoc,←e2,Ag (by omega) (by omega)]
    exact Aum j (k+1) q (acc++x) (by omega) (by omega) (fun h=>by rw[h,List.take_length]at hfit2;exact hfit2) (by rw[List.length_append];omega)
end
theorem Bhm(l:List Int)(b p:List UInt8)(m c w h o q n g:Int)(k:List Int)(hl:l.length≤1000)(h5:∀x∈l,5≤x)(A:Int)(hA:0≤A)(hb:A+l.sum≤1000000):∀(j i z:Nat),i+j=l.length→j<z→Md l b p m c w h o q n g k z (i:Int) (A+(l.take i).sum)=Xy b p l m c w h o q n g (A+l.sum) k
 |0,i,z+1,hi,_=>by
  rw[Md,Xm,if_neg (by rw[Af,Ac];simp;omega),show i=l.length by omega,List.take_length]
 |j+1,i,z+1,hi,hz=>by
  have hlt:i<l.length:=by omega
  have b1:=Ds h5 i
  have b2:=Ds h5 (i+1)
  have e:=Fu hlt
  have ih:=Bhm l b p m c w h o q n g k hl h5 A hA hb j (i+1) z (by omega) (by omega)
  rw[e,←Int.add_assoc]at ih
  rw[Md,Xm,if_pos (by rw[Af,Ac];simp;omega),Bw hlt,Aa,Aa,Ag (by omega) (by omega),Ag (by omega) (by omega)]
  exact ih
theorem Bom(b p:List UInt8)(hb:b.length≤100100)(hp:p.length≤64):
  (∃e:Int,e≠0∧seekto_Open b p=some (Afw e)∧Jq b p=some (Bh2 e)∧Gf b p=some (Bh2 e))∨
  (∃f c w r n T:Nat,∃q d:Int,T≤b.length∧b.length≤100000∧shapeB f c w r n=true∧fitB c r n=true∧
   seekto_Open b p=Jh b (f:Int) (c:Int) (w:Int) (r:Int) (n:Int) (T:Int)∧
   Jq b p=Re b p (f:Int) (c:Int) (w:Int) (r:Int) (n:Int) q d (T:Int) 0 0 (framesL (longN r) n)∧
   Gf b p=(Ju b (T:Int) (f:Int) (c:Int) (w:Int) (r:Int) (n:Int)).bind fun(h,ae)=>if Au ae 0=true then some (Bh2 ae)else(Cv (r:Int) (n:Int)).bind fun p2=>(Lb p).bind fun(u,ap)=>Adv b (f:Int) (c:Int) (w:Int) (r:Int) (n:Int) h p2 u (Ad (T:Int) (Ad (Ax 4 (Ac h)) 4)) 0 []):=by
 have hO:seekto_Open b p=seekto_Open b p:=rfl
 have hV:Jq b p=Jq b p:=rfl
 have hR:Gf b p=Gf b p:=rfl
 conv at hO=>rhs;rw[seekto_Open,Mj,if_neg (by rw[Ao,Ac];simp;omega)]
 conv at hV=>rhs;rw[Jq,Akl,if_neg (by rw[Ao,Ac];simp;omega),Nc]
 conv at hR=>rhs;rw[Gf,Adz,if_neg (by rw[Ao,Ac];simp;omega),Ck]
 by_cases h1:100000<b.length
 ·rw[if_pos (by rw[Ao,Ac];simp;omega)]at hO hV hR
  refine .inl ⟨4,by omega,hO,?_,?_⟩
  ·rw[hV,Aa];rfl
  ·rw[hR,Aa];rfl
 rw[if_neg (by rw[Ao,Ac];simp;omega)]at hO hV hR
 rw[Qr b (by omega),Aa]at hO hV
 rw[Sj b (by omega),Aa]at hR
 by_cases h2:(frontS b).2=0
 ·obtain⟨p0,p1,p2⟩:=Af9 h2
  have hc:=Fj (l:=b) p0 p1
  simp only[h2]at hO hV hR
  rw[if_neg (by rw[Aj];simp),hc,Aa,show b.drop (frontS b).1.toNat=hdr b from rfl]at hO hV hR
  rw[Al0 _ (by simp[hdr];omega),Aa]at hO hV
  rw[Aly _ (by simp[hdr];omega),Aa]at hR
  by_cases h3:(readS (hdr b)).2.2.2.2.2=0
  ·obtain⟨g1,g2,g3,g4⟩:=Agj h3
   have hlen:(hdr b).length=b.length-(frontS b).1.toNat:=by simp[hdr]
   generalize hF:(frontS b).1.toNat=F at*
   have hF':(frontS b).1=(F:Int):=by omega
   rw[g1,hF']at hO hV hR
   simp only at hO hV hR
   generalize f0 (hdr b)=f at*
   generalize f1 (hdr b)=c at*
   generalize f2 (hdr b)=w at*
   generalize f3 (hdr b)=r at*
   generalize f4 (hdr b)=n at*
   have t22:Ad (F:Int) 22=((F+22:Nat):Int):=by rw[Ag (by omega) (by omega)];omega
   have t30:Ad ((F+22:Nat):Int) 8=((F+30:Nat):Int):=by rw[Ag (by omega) (by omega)];omega
   have hf12:f=1∨f=2:=by simp only[shapeB,decide_eq_true_eq]at g3;omega
   rw[if_neg (by rw[Aj];simp),t22,t30]at hO
   rw[if_neg (by rw[Aj];simp),Ad5 g3 g4,Aa,t22,t30]at hV
   rw[Aa]at hR
   simp only at hV hR
   rw[if_neg (by rw[Aj];simp),t22,Aff,t30]at hR
   by_cases hpass:((p==([]:List UInt8)) !=(geq (f:Int) (1:Int)))=true
   ·rw[if_pos hpass]at hO hR
    refine .inl ⟨26,by omega,hO,?_,?_⟩
    ·rw[hV]
     by_cases h5:f=2
     ·rw[if_pos (by rw[Az,h5];rfl),Aa]
      simp only
      rw[if_neg (by rw[Aj];simp),if_pos hpass,Ba6 _ _ _ _ _ _ _ _ _ _ _ _ _ (by omega)]
     ·rw[if_neg (by rw[Az];simp;omega),Aa]
      simp only
      rw[if_neg (by rw[Aj];simp),if_pos hpass,Ba6 _ _ _ _ _ _ _ _ _ _ _ _ _ (by omega)]
    ·rw[hR,Aa];rfl
   ·rw[if_neg hpass]at hO hR
    have hpf:(p=[]↔f=1):=by
     rw[Az]at hpass
     have h5:(p==([]:List UInt8))=((f:Int)==1):=by simpa using hpass
     have h6:(p==([]:List UInt8))=true↔((f:Int)==1)=true:=by rw[h5]
     rw[beq_iff_eq,beq_iff_eq]at h6
     rw[h6];omega
    by_cases h5:f=2
    ·have hpne:p≠ []:=fun e=>by have:=hpf.1 e;omega
     rw[if_pos (by rw[Az,h5];rfl),Aa]at hV
     simp only at hV
     rw[if_neg (by rw[Aj];simp),if_neg hpass,if_neg (by rw[Az];simp;omega)]at hV
     rw[if_pos (by simpa using hpne)]at hO
     rw[if_neg (by simpa using hpne)]at hR
     by_cases h6:b.length<F+30
     ·rw[if_pos (by rw[Af,Ac];simp;omega)]at hO hV hR
      refine .inl ⟨24,by omega,hO,?_,?_⟩
      ·rw[hV,Ba6 _ _ _ _ _ _ _ _ _ _ _ _ _ (by omega)]
      ·rw[hR,Aa];rfl
     ·have hseg:((b.take (F+30)).drop (F+22)).length=8:=by simp;omega
      rw[if_neg (by rw[Af,Ac];simp;omega),Mx (by omega) (by omega) (by omega),Aa,show((F+30:Nat):Int).toNat=F+30 from rfl,show((F+22:Nat):Int).toNat=F+22 from rfl]at hO hV hR
      rw[Bl7 hseg hp,Aa]at hO hV
      rw[Ayd p hp,Aa]at hR
      simp only at hO hV
      rw[if_neg (by rw[Aj];simp)]at hO
      generalize(b.take (F+30)).drop (F+22)=seg at*
      by_cases h7:seg=leB (Aas p).toNat 8
      ·rw[if_neg (by simp[h7])]at hO hV
       rw[if_neg (by simp[h7]),Aa]at hR
       simp only at hR
       rw[if_neg (by rw[Aj];simp)]at hR
       rw[Bv2]at hV
       exact .inr ⟨f,c,w,r,n,F+30,(F:Int),((F+22:Nat):Int),by omega,by omega,g3,g4,hO,hV,hR⟩
      ·rw[if_pos (by simpa using h7)]at hO hV
       rw[if_pos (by simpa using h7)]at hR
       refine .inl ⟨26,by omega,hO,?_,?_⟩
       ·rw[hV,Ba6 _ _ _ _ _ _ _ _ _ _ _ _ _ (by omega)]
       ·rw[hR,Aa];rfl
    ·have hpe:p=[]:=hpf.2 (by omega)
     rw[if_neg (by rw[Az];simp;omega),Aa]at hV
     simp only at hV
     rw[if_neg (by rw[Aj];simp),if_neg hpass,if_pos (by rw[Az];simp;omega),Bv2]at hV
     rw[if_neg (by rw[hpe];simp)]at hO
     rw[if_pos (by rw[hpe];rfl),Aa]at hR
     simp only at hR
     rw[if_neg (by rw[Aj];simp)]at hR
     exact .inr ⟨f,c,w,r,n,F+22,(F:Int),((F+22:Nat):Int),by omega,by omega,g3,g4,hO,hV,hR⟩
  ·generalize readS (hdr b)=v at*
   obtain⟨v1,v2,v3,v4,v5,v6⟩:=v
   simp only at h3 hO hV hR
   rw[if_pos (by rw[Aj];simpa using h3)]at hO hV
   refine .inl ⟨v6,h3,hO,?_,?_⟩
   ·rw[hV,Aa]
    simp only
    rw[if_pos (by rw[Aj];simpa using h3)];rfl
   ·rw[hR,Aa]
    simp only
    rw[if_pos (by rw[Aj];simpa using h3)];rfl
 ·generalize frontS b=v at*
  obtain⟨v,e⟩:=v
  simp only at h2 hO hV hR
  rw[if_pos (by rw[Aj];simpa using h2)]at hO hV hR
  refine .inl ⟨e,h2,hO,?_,?_⟩
  ·rw[hV,Aa]
   simp only
   rw[if_pos (by rw[Aj];simpa using h2)];rfl
  ·rw[hR,Aa]
   simp only
   rw[if_pos (by rw[Aj];simpa using h2)];rfl
theorem Bxo(b p:List UInt8)(hb:b.length≤100100)(hp:p.length≤64):
  (∃e:Int,e≠0∧seekto_Open b p=some (Afw e)∧cadenzaref40_Opened b p=some (Afw e)∧Jq b p=some (Bh2 e)∧Gf b p=some (Bh2 e))∨
  (∃f c w r n A l,Opn b p f c w r n A l∧Jq b p=some (Ao6 b p f c w r n A l)∧Gf b p=some (Ao6 b p f c w r n A l)):=by
 have hbadI:∀{e e2:Int},Afw e=Afw e2→e=e2:=fun h=>by simpa [Afw]using h
 rcases Bom b p hb hp with⟨e,he,h1,h2,h3⟩|⟨f,c,w,r,n,T,q,d,hT,hfile,g3,g4,hO,hV,hR⟩
 ·rcases Ba3 b p hb hp with⟨e',he',k1,k2⟩|⟨f,c,w,r,n,A,l,o⟩
  ·rw[h1]at k1
   have:=hbadI (Option.some.inj k1)
   subst this
   exact .inl ⟨e,he,h1,k2,h2,h3⟩
  ·have:=o.prog
   rw[h1]at this
   have:=Option.some.inj this
   simp only[Afw,Prod.mk.injEq]at this
   exact absurd this.2.2.2.2.2.2.2 he
 ·obtain⟨hc,hw,hr,hn,_⟩:=Yd g3
  have hfit:n≤4000/c:=by simp only[fitB,decide_eq_true_eq]at g4;exact g4.1
  have hn4:n≤4000:=by have:=Nat.div_le_self 4000 c;omega
  rw[Ax8 g3 g4 b hb T hT]at hO
  have hcut:=Fj (l:=b) (a:=(T:Int)) (by omega) (by omega)
  rw[Int.toNat_natCast]at hcut
  have hdl:(b.drop T).length≤100100:=by simp;omega
  rw[Re,Ai8,if_neg (by rw[Af,Ac];simp;omega),hcut,Aa,Ac,Ayc _ _ hdl,Aa]at hV
  rw[Ju,hcut,Aa,Ama hr.2 hn hn4,Aa,Ac,Bb1 _ _ hdl,Aa,Aa]at hR
  by_cases h:(seekS (b.drop T) (framesL (longN r) n).length).2≠0
  ·rw[if_pos h]at hO
   generalize seekS (b.drop T) (framesL (longN r) n).length=v at*
   obtain⟨v1,v2⟩:=v
   simp only at h hO hV hR
   rcases Ba3 b p hb hp with⟨e',he',k1,k2⟩|⟨f,c,w,r,n,A,l,o⟩
   ·rw[hO]at k1
    have:=hbadI (Option.some.inj k1)
    subst this
    refine .inl ⟨_,h,hO,k2,?_,?_⟩
    ·rw[hV,Yz,Zm,if_pos (by rw[Aj];simpa using h),Bz2 _ _ _ _ _ _ _ _ _ _ _ _ _ _ h]
    ·rw[hR,if_pos (by rw[Aj];simpa using h)]
   ·have:=o.prog
    rw[hO]at this
    have:=Option.some.inj this
    simp only[Afw,Prod.mk.injEq]at this
    exact absurd this.2.2.2.2.2.2.2 h
  ·have h0:(seekS (b.drop T) (framesL (longN r) n).length).2=0:=by simpa using h
   rw[if_neg h]at hO
   generalize hsv:seekS (b.drop T) (framesL (longN r) n).length=v at*
   obtain⟨v1,v2⟩:=v
   simp only at h0 hO hV hR
   subst h0
   rcases Ba3 b p hb hp with⟨e',he',k1,k2⟩|⟨f',c',w',r',n',A,l,o⟩
   ·rw[hO]at k1
    have:=Option.some.inj k1
    simp only[Afw,Prod.mk.injEq]at this
    exact absurd this.2.2.2.2.2.2.2.symm he'
   ·have hp2:=o.prog
    rw[hO]at hp2
    have hp3:=Option.some.inj hp2
    simp only[Prod.mk.injEq]at hp3
    obtain⟨i1,i2,i3,i4,i5,i6,i7,_⟩:=hp3
    obtain rfl:f=f':=by omega
    obtain rfl:c=c':=by omega
    obtain rfl:w=w':=by omega
    obtain rfl:r=r':=by omega
    obtain rfl:n=n':=by omega
    subst i7
    have hlen:=o.len
    have hs1:=o.some1
    have hsum:=o.sum
    have hA:=o.at'
    have hAT:(A:Int)=(T:Int)+4*(v1.length:Int)+4:=by omega
    have a1:Ax 4 (v1.length:Int)=4*(v1.length:Int):=Fx (by omega) (by omega)
    have eV:Ad (Ad (T:Int) (Ax 4 (Ac v1))) 4=(A:Int):=by
     rw[Ac,a1,Ag (a:=(T:Int)) (by omega) (by omega),Ag (by omega) (by omega)];omega
    have eR:Ad (T:Int) (Ad (Ax 4 (Ac v1)) 4)=(A:Int):=by
     rw[Ac,a1,Ag (a:=4*(v1.length:Int)) (by omega) (by omega),Ag (by omega) (by omega)];omega
    have hlv:=As5 o q d (T:Int) ((A:Int)+v1.sum) v1.length 0 Am [] (by omega) (by have:=Ak;omega) (by omega) (by simp)
    have hlr:=Aum o v1.length 0 Am [] (by omega) (by have:=Ak;omega) (by omega) (by simp)
    rw[List.take_zero,List.sum_nil,Int.add_zero]at hlv hlr
    refine .inr ⟨f,c,w,r,n,A,v1,o,?_,?_⟩
    ·have hs:=Bhm v1 b p (f:Int) (c:Int) (w:Int) (r:Int) (n:Int) q d (T:Int) (framesL (longN r) n) hs1.2 o.five (A:Int) (by omega) (by omega) v1.length 0 Am (by omega) (by have:=Ak;omega)
     rw[List.take_zero,List.sum_nil,Int.add_zero]at hs
     rw[hV,Yz,Zm,if_neg (by rw[Aj];simp),Aig,eV]
     refine Eq.trans hs ?_
     rw[Xy,Ah0,eV,Jt,Xx,if_neg (by rw[Aj];simp),Bhj p o.pass,Aa]
     exact hlv
    ·rw[hR,if_neg (by rw[Aj];simp),Aa,Bct p o.pass,Aa,eR]
     exact hlr
end Go.Pl
set_option linter.unusedVariables false
set_option linter.unusedSimpArgs false
namespace Go.Pl
open Go Go.Lv
def Akq(b:List UInt8):List Int:=framesL (longN (f3 (hdr b))) (f4 (hdr b))
def Ajb(b:List UInt8):Nat:=(frontS b).1.toNat+22+(if f0 (hdr b)=2 then 8 else 0)
theorem start_eq(b:List UInt8)(hb:b.length≤100100):
  (∃e:Int,e≠0∧(∃r1 r2 r3 r4 r5,Nc b=some (r1,r2,r3,r4,r5,0,0,0,0,0,[],e))∧(∃q0 q1 q2 q3 q4 q5,Ck b=some (q0,q1,q2,q3,q4,q5,e)))∨
  (b.length≤100000∧(frontS b).2=0∧(readS (hdr b)).2.2.2.2.2=0∧
   Nc b=some ((f0 (hdr b):Int),(f1 (hdr b):Int),(f2 (hdr b):Int),(f3 (hdr b):Int),(f4 (hdr b):Int),(frontS b).1,(frontS b).1+22,(Ajb b:Int),0,0,Akq b,0)∧
   Ck b=some ((frontS b).1,(f0 (hdr b):Int),(f1 (hdr b):Int),(f2 (hdr b):Int),(f3 (hdr b):Int),(f4 (hdr b):Int),0)):=by
 by_cases h1:100000<b.length
 ·refine .inl ⟨4,by omega,⟨0,0,0,0,0,?_⟩,⟨0,0,0,0,0,0,?_⟩⟩
  ·rw[Nc,if_pos (by rw[Ao,Ac];simp;omega)]
  ·rw[Ck,if_pos (by rw[Ao,Ac];simp;omega)]
 ·rw[Nc,if_neg (by rw[Ao,Ac];simp;omega),Ck,if_neg (by rw[Ao,Ac];simp;omega),Qr b (by omega),Sj b (by omega),Aa,Aa]
  by_cases h2:(frontS b).2=0
  ·obtain⟨p0,p1,p2⟩:=Af9 h2
   have hc:=Fj (l:=b) p0 p1
   simp only[h2]
   rw[if_neg (by rw[Aj];simp),if_neg (by rw[Aj];simp),hc,Aa,Aa,show b.drop (frontS b).1.toNat=hdr b from rfl,Al0 _ (by simp[hdr];omega),Aly _ (by simp[hdr];omega),Aa,Aa]
   by_cases h3:(readS (hdr b)).2.2.2.2.2=0
   ·obtain⟨g1,g2,g3,g4⟩:=Agj h3
    refine .inr ⟨by omega,trivial,h3,?_,?_⟩
    ·rw[g1]
     simp only
     rw[if_neg (by rw[Aj];simp),Ad5 g3 g4,Aa]
     simp only
     have t22:Ad (frontS b).1 22=(frontS b).1+22:=Ag (by omega) (by omega)
     have t30:Ad ((frontS b).1+22) 8=(frontS b).1+22+8:=Ag (by omega) (by omega)
     rw[Az,t22,t30]
     by_cases h5:f0 (hdr b)=2
     ·rw[if_pos (by rw[h5];rfl)]
      rw[show(frontS b).1+22+8=(Ajb b:Int) by rw[Ajb,if_pos h5];omega];rfl
     ·rw[if_neg (by simp;omega)]
      rw[show(Ajb b:Int)=(frontS b).1+22 by rw[Ajb,if_neg h5];omega];rfl
    ·rw[g1]
   ·generalize readS (hdr b)=v at*
    obtain⟨v1,v2,v3,v4,v5,v6⟩:=v
    simp only at h3⊢
    exact .inl ⟨v6,h3,⟨v1,v2,v3,v4,v5,by rw[if_pos (by rw[Aj];simpa using h3)]⟩,⟨(frontS b).1,v1,v2,v3,v4,v5,rfl⟩⟩
  ·generalize frontS b=v at*
   obtain⟨v,e⟩:=v
   simp only at h2⊢
   refine .inl ⟨e,h2,⟨0,0,0,0,0,?_⟩,⟨0,0,0,0,0,0,?_⟩⟩
   ·rw[if_pos (by rw[Aj];simpa using h2)]
   ·rw[if_pos (by rw[Aj];simpa using h2)]
theorem Bey(l:List Int)(b:List UInt8)(r2 r3 r4 r5 r6 r7 r8 r9:Int)(l12:List Int)(hl:l.length≤1000)(h5:∀x∈l,5≤x):∀(j i q:Nat) (s:Int),i+j=l.length→j<q→0≤s→s+(l.drop i).sum≤1000000→
  Nb l b r2 r3 r4 r5 r6 r7 r8 r9 l12 q (i:Int) s=Uv b l r2 r3 r4 r5 r6 r7 r8 r9 (s+(l.drop i).sum) l12
 |0,i,q+1,s,hi,_,_,_=>by
  rw[Nb,Aak,if_neg (by rw[Af,Ac];simp;omega),show i=l.length by omega,List.drop_length];simp
 |j+1,i,q+1,s,hi,hq,h0,hs=>by
  have hlt:i<l.length:=by omega
  have hx:=h5 l[i] (List.getElem_mem hlt)
  have h2:=Bn0 (l.drop (i+1)) fun y hy=>h5 y (List.mem_of_mem_drop hy)
  rw[drop_cons hlt,List.sum_cons]at hs⊢
  rw[Nb,Aak,if_pos (by rw[Af,Ac];simp;omega),Bw hlt,Aa,Aa,Ag (by omega) (by omega),Ag (by omega) (by omega)]
  have ih:=Bey l b r2 r3 r4 r5 r6 r7 r8 r9 l12 hl h5 j (i+1) q (s+l[i]) (by omega) (by omega) (by omega) (by omega)
  rw[show((i:Int)+1)=((i+1:Nat):Int) by omega,ih,Int.add_assoc]
theorem Aqn(b:List UInt8)(r2 x1:Int)(l:List Int)(hl:l.length≤1000)(h5:∀x∈l,5≤x):∀(j i q:Nat) (s:Int),i+j=l.length→j<q→0≤s→s+(l.drop i).sum≤1000000→
  Hf b r2 x1 l q (i:Int) s=Pb b r2 x1 l (s+(l.drop i).sum)
 |0,i,q+1,s,hi,_,_,_=>by
  rw[Hf,Ph,if_neg (by rw[Af,Ac];simp;omega),show i=l.length by omega,List.drop_length];simp
 |j+1,i,q+1,s,hi,hq,h0,hs=>by
  have hlt:i<l.length:=by omega
  have hx:=h5 l[i] (List.getElem_mem hlt)
  have h2:=Bn0 (l.drop (i+1)) fun y hy=>h5 y (List.mem_of_mem_drop hy)
  rw[drop_cons hlt,List.sum_cons]at hs⊢
  rw[Hf,Ph,if_pos (by rw[Af,Ac];simp;omega),Bw hlt,Aa,Aa,Ag (by omega) (by omega),Ag (by omega) (by omega)]
  have ih:=Aqn b r2 x1 l hl h5 j (i+1) q (s+l[i]) (by omega) (by omega) (by omega) (by omega)
  rw[show((i:Int)+1)=((i+1:Nat):Int) by omega,ih,Int.add_assoc]
theorem Bov{b p:List UInt8}{f c w r n A:Nat}{l:List Int}(o:Opn b p f c w r n A l)(hfit:(A:Int)+l.sum≤b.length):
  Aj5 b=some ((frontS b).1,(frontS b).1+22,(A:Int)-4*(l.length:Int)-4,(A:Int),(A:Int)+l.sum,0)∧Aia b=some ((frontS b).1,(frontS b).1+22,(A:Int)-4*(l.length:Int)-4,(A:Int),(A:Int)+l.sum,0):=by
 have hfile:=o.file
 have hhead:=o.head
 have hpos:=o.pos
 have hlen:=o.len
 have hs1:=o.some1
 have hsum:=o.sum
 have hA:=o.at'
 obtain⟨p0,p1,p2⟩:=Af9 o.tag
 have h3:(readS (hdr b)).2.2.2.2.2=0:=by rw[hhead]
 obtain⟨c1,c2,c3,c4⟩:=Agj h3
 rw[c1]at hhead
 simp only[Prod.mk.injEq]at hhead
 obtain⟨i1,i2,i3,i4,i5,_⟩:=hhead
 have e1:f0 (hdr b)=f:=by omega
 have e2:f1 (hdr b)=c:=by omega
 have e3:f2 (hdr b)=w:=by omega
 have e4:f3 (hdr b)=r:=by omega
 have e5:f4 (hdr b)=n:=by omega
 have htab:=o.tab
 have hT:(frontS b).1.toNat+22+(if f=2 then 8 else 0)=Ajb b:=by rw[Ajb,e1]
 rw[hT]at htab
 have hTA:(Ajb b:Int)=(A:Int)-4*(l.length:Int)-4:=by omega
 have hfr:Akq b=framesL (longN r) n:=by rw[Akq,e4,e5]
 have hk:(Akq b).length=l.length:=by rw[hfr,hlen]
 obtain⟨hc,hw,hr,hn,_⟩:=Yd o.shape
 have hfit4:n≤4000/c:=by have:=o.fit;simp only[fitB,decide_eq_true_eq]at this;exact this.1
 have hn4:n≤4000:=by have:=Nat.div_le_self 4000 c;omega
 have hspl:Cv (f3 (hdr b):Int) (f4 (hdr b):Int)=some (Akq b):=by rw[hfr,e4,e5];exact Ama hr.2 hn hn4
 rw[Aj5,Ahc,Aia,Abo]
 rcases start_eq b (by omega)with⟨e,he,_,⟨q0,q1,q2,q3,q4,q5,h2⟩⟩|⟨_,_,_,h1,h2⟩
 ·exfalso
  have hr2:=Ck b
  have:Ck b=some ((frontS b).1,(f0 (hdr b):Int),(f1 (hdr b):Int),(f2 (hdr b):Int),(f3 (hdr b):Int),(f4 (hdr b):Int),0):=by
   have hcut:=Fj (l:=b) p0 p1
   have htag:=o.tag
   rw[Ck,if_neg (by rw[Ao,Ac];simp;omega),Sj b (by omega),Aa]
   generalize hv:frontS b=v at*
   obtain⟨v1,v2⟩:=v
   simp only at htag hcut⊢
   rw[if_neg (by rw[Aj];simpa using htag),hcut,Aa,show b.drop v1.toNat=hdr b by rw[hdr,hv],Aly _ (by simp[hdr];omega),c1,Aa]
  rw[h2]at this
  have:=Option.some.inj this
  simp only[Prod.mk.injEq]at this
  exact he this.2.2.2.2.2.2
 ·rw[h1,h2,Aa,Aa]
  have z:Au (0:Int) 0=false:=by decide
  simp only[z,Bool.false_eq_true,if_false]
  have e22:Ad (frontS b).1 22=(frontS b).1+22:=Ag (by omega) (by omega)
  have e30:Ad ((frontS b).1+22) 8=(frontS b).1+22+8:=Ag (by omega) (by omega)
  have hr:(if geq (f0 (hdr b):Int) 2=true then He b (f0 (hdr b)) (f1 (hdr b)) (f2 (hdr b)) (f3 (hdr b)) (f4 (hdr b)) (frontS b).1 (Ad (Ad (frontS b).1 22) 8)else He b (f0 (hdr b)) (f1 (hdr b)) (f2 (hdr b)) (f3 (hdr b)) (f4 (hdr b)) (frontS b).1 (Ad (frontS b).1 22))=
    He b (f0 (hdr b)) (f1 (hdr b)) (f2 (hdr b)) (f3 (hdr b)) (f4 (hdr b)) (frontS b).1 (Ajb b:Int):=by
   rw[e22,e30,Az]
   by_cases h5:f0 (hdr b)=2
   ·rw[if_pos (by rw[h5];rfl),show(frontS b).1+22+8=(Ajb b:Int) by rw[Ajb,if_pos h5];omega]
   ·rw[if_neg (by simp;omega),show(frontS b).1+22=(Ajb b:Int) by rw[Ajb,if_neg h5];omega]
  have hc:=Fj (l:=b) (a:=(Ajb b:Int)) (by omega) (by omega)
  rw[Int.toNat_natCast]at hc
  have hdl:(b.drop (Ajb b)).length≤100100:=by simp;omega
  have hsp:=Ayc (b.drop (Ajb b)) (Akq b).length hdl
  have hsr:=Bb1 (b.drop (Ajb b)) (Akq b).length hdl
  rw[hk,htab]at hsp hsr
  have eA:Ad (Ad (Ajb b:Int) (Ax 4 (Ac l))) 4=(A:Int):=by
   have a1:Ax 4 (Ac l)=4*(l.length:Int):=Fx (by unfold Ac;omega) (by unfold Ac;omega)
   have a2:Ad (Ajb b:Int) (4*(l.length:Int))=(Ajb b:Int)+4*(l.length:Int):=Ag (by omega) (by omega)
   rw[a1,a2,Ag (by omega) (by omega)];omega
  rw[hr,He,Abb,if_neg (by rw[Af,Ac];simp;omega),if_neg (by rw[Af,Ac];simp;omega),Ju,hc,hspl,Aa,Aa,Aa,show Ac (Akq b)=((Akq b).length:Int)from rfl,hk,hsp,hsr,Aa,Aa,Aa]
  simp only
  rw[Ag6,Ai7]
  simp only[z,Bool.false_eq_true,if_false]
  rw[eA,Agu,Aaz]
  have q1:=Bey l b (f0 (hdr b)) (f1 (hdr b)) (f2 (hdr b)) (f3 (hdr b)) (f4 (hdr b)) (frontS b).1 ((frontS b).1+22) (Ajb b) (Akq b) (by omega) o.five l.length 0 Am (A:Int) (by omega) (by have:=Ak;omega) (by omega) (by rw[List.drop_zero];omega)
  have q2:=Aqn b (frontS b).1 (Ajb b) l (by omega) o.five l.length 0 Am (A:Int) (by omega) (by have:=Ak;omega) (by omega) (by rw[List.drop_zero];omega)
  rw[List.drop_zero]at q1 q2
  rw[show(0:Int)=((0:Nat):Int)from rfl,q1,q2,Uv,Ae3,Of,Ae2,z,if_neg (by simp),Aes,Aor,Pb,Abf,eA,e22]
  rw[if_neg (by rw[Af,Ac];simpa using hfit),hTA]
  exact⟨rfl,rfl⟩
end Go.Pl
set_option linter.unusedVariables false
set_option linter.unusedSimpArgs false
namespace Go.Pl
open Go Go.Lv
theorem Alw{b:List UInt8}{i K:Nat}(h:i<K):(b.take K).getD i 0=b.getD i 0:=by
 rw[List.getD_eq_getElem?_getD,List.getD_eq_getElem?_getD,List.getElem?_take,if_pos h]
theorem Bej{b:List UInt8}{n:Int}{K:Nat}(h:Up b=(n,0))(hK:n≤K):Up (b.take K)=(n,0):=by
 obtain⟨k1,k2,k3⟩:=Bmd h
 have hl:(b.take K).length=min K b.length:=List.length_take
 have e3:(b.take K).take 3=b.take 3:=by rw[List.take_take,Nat.min_eq_left (by omega)]
 have ep:part (b.take K) 6 4=part b 6 4:=My (by omega)
 have eq:part (b.take K) 3 7=part b 3 7:=My (by omega)
 have et:(b.take K).take n.toNat=b.take n.toNat:=by rw[List.take_take,Nat.min_eq_left (by omega)]
 unfold Up at h⊢
 split at h; · simp at h
 rename_i h0
 split at h; · simp at h
 split at h; · simp at h
 rename_i h1 h2
 rw[if_neg (by rw[e3,hl];intro h3;exact h0 fun h4=>h3 ⟨by omega,h4.2⟩),if_neg (by omega),ep,Alw (by omega),Alw (by omega),Alw (by omega),if_neg h2]
 unfold Bbr at h⊢
 rw[Alw (by omega)]
 generalize(Akr (part b 6 4) 0).1+10+(if b.getD 5 0=16 then 10 else 0)=m at h⊢
 unfold Alr at h⊢
 split at h; · simp at h
 split at h; · simp at h
 split at h; · simp at h
 rename_i g1 g2 g3
 simp only[Prod.mk.injEq,and_true]at h
 subst h
 rw[if_neg g1,if_neg (by omega),Alw (by omega),et,eq,if_neg g3]
theorem Bm8{b:List UInt8}{n:Int}{K:Nat}(h:Iw b=(n,0))(hK:n≤K):Iw (b.take K)=(n,0):=by
 obtain⟨k1,k2⟩:=Ayl h
 have hl:(b.take K).length=min K b.length:=List.length_take
 have e8:(b.take K).take 8=b.take 8:=by rw[List.take_take,Nat.min_eq_left (by omega)]
 have e32:(b.take K).take 32=b.take 32:=by rw[List.take_take,Nat.min_eq_left (by omega)]
 have ep:part (b.take K) 12 4=part b 12 4:=My (by omega)
 have eq:part (b.take K) 16 4=part b 16 4:=My (by omega)
 have eb:Xi (b.take K)=Xi b:=by rw[Xi,Xi,ep,eq]
 unfold Iw at h⊢
 rw[e8,e32,ep,eq,eb,hl]
 split at h; · simp at h
 rename_i h0
 split at h; · simp at h
 split at h; · simp at h
 rename_i h1 h2
 split at h; · simp at h
 split at h; · simp at h
 rename_i h3 h4
 simp only[Prod.mk.injEq,and_true]at h
 have et:(b.take K).take (Dd (part b 12 4)+32)=b.take (Dd (part b 12 4)+32):=by rw[List.take_take,Nat.min_eq_left (by omega)]
 rw[if_neg (by intro h5;exact h0 fun h6=>h5 ⟨by omega,h6.2⟩),if_neg (by omega),if_neg h2,if_neg (by omega),et,if_neg h4,h]
theorem Buh(b:List UInt8)(n:Int):(Alr b n).2≠6:=by
 unfold Alr
 split; · simp
 split; · simp
 split<;>simp
theorem Bnp{b:List UInt8}{n:Int}{K:Nat}(h:Cc b=(n,0))(hK:n≤K):Cc (b.take K)=(n,0):=by
 have hok:=Aru h
 unfold Cc at h⊢
 split at h
 ·rw[if_pos (by rw[Bej h hK];simp),Bej h hK]
 ·rename_i h6
  have h6':(Up b).2=6:=by simpa using h6
  have hA:=Ayl h
  have hp:¬(3≤b.length∧b.take 3=[73,68,51]):=by
   intro hp
   unfold Up at h6'
   rw[if_neg (fun e=>e hp)]at h6'
   split at h6'; · simp at h6'
   split at h6'; · simp at h6'
   exact Buh _ _ h6'
  have hT:Up (b.take K)=(0,6):=by
   unfold Up
   rw[if_pos]
   rw[List.take_take,Nat.min_eq_left (by omega),List.length_take]
   intro h;exact hp ⟨by omega,h.2⟩
  rw[if_neg (by rw[hT];simp),Bm8 h hK]
theorem Cad{b:List UInt8}(h:b.take 1=[84]):Cc b=(0,6):=by
 have h1:∀k (l:List UInt8),b.take (k+1)=l→l.take 1=[84]:=fun k l e=>by rw[←e,List.take_take,Nat.min_eq_left (by omega),h]
 have hT:Up b=(0,6):=by
  unfold Up
  rw[if_pos]
  intro h3
  have:=h1 2 _ h3.2
  simp at this
 have hA:Iw b=(0,6):=by
  unfold Iw
  rw[if_pos]
  intro h3
  have:=h1 7 _ h3.2
  simp[APE]at this
 rw[Cc,hT,if_neg (by simp),hA]
theorem Azz{b:List UInt8}{M:Nat}:∀(j p:Nat) (xs:List Int),Bo b j p=(xs,0)→p≤b.length→p≤4000→(b.drop ((p:Int)+xs.sum).toNat).take 1=[84]→(p:Int)+xs.sum<M→∀j',xs.length<j'→Bo (b.take M) j' p=(xs,0)
 |0,p,xs,h,_,_,_,_=>by simp[Bo]at h
 |j+1,p,xs,h,hp,hp4,h84,hM=>by
  intro j' hj'
  obtain⟨j',rfl⟩:∃k,j'=k+1:=⟨j'-1,by omega⟩
  have ed:(b.take M).drop p=(b.drop p).take (M-p):=by rw[List.drop_take]
  rw[Bo]at h⊢
  rw[ed]
  by_cases h6:(Cc (b.drop p)).2=6
  ·rw[if_pos h6]at h
   obtain rfl: []=xs:=(Prod.mk.inj h).1
   have e:((p:Int)+([]:List Int).sum).toNat=p:=by simp
   rw[e]at h84
   rw[if_pos]
   rw[Cad]
   rw[List.take_take,Nat.min_eq_left (by simp at hM;omega),h84]
  ·rw[if_neg h6]at h
   by_cases h0:(Cc (b.drop p)).2≠0
   ·rw[if_pos h0]at h;exact absurd (Prod.mk.inj h).2 h0
   ·rw[if_neg h0]at h
    have h0':(Cc (b.drop p)).2=0:=by simpa using h0
    have hs:Cc (b.drop p)=((Cc (b.drop p)).1,0):=Prod.ext rfl h0'
    obtain⟨s1,s2⟩:=Aru hs
    rw[List.length_drop]at s2
    generalize hz:(Cc (b.drop p)).1=z at*
    by_cases h4:4000<(p:Int)+z
    ·rw[if_pos h4]at h;simp at h
    ·rw[if_neg h4]at h
     by_cases hr:(Bo b j (p+z.toNat)).2=0
     ·rw[if_pos hr]at h
      obtain⟨g1,_⟩:=Prod.mk.inj h
      have hrec:Bo b j (p+z.toNat)=((Bo b j (p+z.toNat)).1,0):=Prod.ext rfl hr
      have hok:=Al7 b j (p+z.toNat) (by omega) (by omega) hr
      generalize hy:(Bo b j (p+z.toNat)).1=ys at*
      subst g1
      have hsum:((p+z.toNat:Nat):Int)+ys.sum=(p:Int)+(z::ys).sum:=by rw[List.sum_cons];omega
      have ih:=Azz j (p+z.toNat) ys hrec (by omega) (by omega) (by rw[hsum];exact h84) (by rw[hsum];exact hM) j' (by simpa using hj')
      have hys:0≤ys.sum:=by
       have:∀l:List Int,(∀x∈l,10≤x)→0≤l.sum:=fun l hl=>(As4 hl).1
       exact this ys hok.1
      have hst:Cc ((b.drop p).take (M-p))=(z,0):=Bnp hs (by rw[List.sum_cons]at hM;omega)
      rw[hst]
      simp only
      rw[if_neg (by omega),if_neg (by simp),if_neg h4,ih]
      simp
     ·rw[if_neg hr]at h;exact absurd (Prod.mk.inj h).2 hr
theorem Bjv{b:List UInt8}{F M:Nat}(h:frontS b=((F:Int),0))(h84:(b.drop F).take 1=[84])(hM:F<M)(hMb:M≤b.length):frontS (b.take M)=((F:Int),0):=by
 unfold frontS Bn5 at h⊢
 by_cases h0:(Bo b (b.length+1) 0).2=0
 ·rw[if_pos h0]at h
  have hx:=(Prod.mk.inj h).1
  have hs:Bo b (b.length+1) 0=((Bo b (b.length+1) 0).1,0):=Prod.ext rfl h0
  obtain⟨o1,o2,o3⟩:=Al7 b (b.length+1) 0 (by omega) (by omega) h0
  have hl:=(As4 o1).2
  generalize(Bo b (b.length+1) 0).1=xs at*
  have ht:=Azz (M:=M) (b.length+1) 0 xs hs (by omega) (by omega) (by rw[hx];exact h84) (by rw[hx];omega) ((b.take M).length+1) (by rw[List.length_take];omega)
  rw[ht]
  simp only
  rw[if_pos trivial,hx]
 ·rw[if_neg h0]at h
  exact absurd (Prod.mk.inj h).2 h0
end Go.Pl
set_option linter.unusedVariables false
set_option linter.unusedSimpArgs false
namespace Go.Pl
open Go Go.Lv
end Go.Pl
set_option linter.unusedVariables false
set_option linter.unusedSimpArgs false
namespace Go.Pl
open Go Go.Lv
theorem Bob{b:List UInt8}{K:Nat}(h:(readS b).2.2.2.2.2=0)(hK:22≤K):readS (b.take K)=readS b:=by
 obtain⟨g1,g2,g3,g4⟩:=Agj h
 have hl:(b.take K).length=min K b.length:=List.length_take
 have ht:∀j,j≤22→(b.take K).take j=b.take j:=fun j hj=>by rw[List.take_take,Nat.min_eq_left (by omega)]
 have hp:∀a w,a+w≤22→part (b.take K) a w=part b a w:=fun a w h=>My (by omega)
 have e0:f0 (b.take K)=f0 b:=by simp only[f0];rw[hp _ _ (by omega)]
 have e1:f1 (b.take K)=f1 b:=by simp only[f1];rw[hp _ _ (by omega)]
 have e2:f2 (b.take K)=f2 b:=by simp only[f2];rw[hp _ _ (by omega)]
 have e3:f3 (b.take K)=f3 b:=by simp only[f3];rw[hp _ _ (by omega)]
 have e4:f4 (b.take K)=f4 b:=by simp only[f4];rw[hp _ _ (by omega)]
 unfold readS
 rw[hl,Nat.min_eq_left (show 4≤min K b.length by omega),Nat.min_eq_left (show 4≤b.length by omega),ht 4 (by omega),ht 18 (by omega),hp 18 4 (by omega),e0,e1,e2,e3,e4]
 by_cases hm:b.take 4≠Aqg.take 4
 ·rw[if_pos hm,if_pos hm]
 ·rw[if_neg hm,if_neg hm,if_neg (show ¬min K b.length<22 by omega),if_neg (show ¬b.length<22 by omega)]
theorem Cca{b:List UInt8}(h:(readS b).2.2.2.2.2=0):b.take 1=[84]:=by
 obtain⟨g1,g2,_⟩:=Agj h
 unfold readS at h
 by_cases hm:b.take (min 4 b.length)≠Aqg.take (min 4 b.length)
 ·rw[if_pos hm]at h;simp at h
 ·have hm':b.take (min 4 b.length)=Aqg.take (min 4 b.length):=by simpa using hm
  rw[Nat.min_eq_left (by omega)]at hm'
  have:(b.take 4).take 1=[84]:=by rw[hm'];rfl
  rwa [List.take_take,Nat.min_eq_left (by omega)]at this
theorem Boc(b:List UInt8)(n:Nat):(seekS b n).2≠26:=by
 unfold seekS
 split; · simp
 split; · simp
 split; · simp
 split<;>simp
theorem Bn2{c r n:Nat}(h:fitB c r n=true):1≤(framesL (longN r) n).length∧(framesL (longN r) n).length≤1000:=by
 simp only[fitB,decide_eq_true_eq]at h
 rw[Az5];exact⟨Nat.le_add_left _ _,h.2⟩
theorem Bt4{K:Nat}(h:1≤K∧K≤1000):seekS [] K=([],24):=ss2 h (by simp)
theorem Bnm(b p:List UInt8)(hb:b.length≤100100)(hp:p.length≤64){e:Int}(he:e≠0)(h:seekto_Open b p=some (Afw e)):∃y,La b p e=some y∧Nu b p=some y:=by
 have hP:La b p e=La b p e:=rfl
 have hR:Nu b p=Nu b p:=rfl
 conv at hP=>rhs;rw[La]
 conv at hR=>rhs;rw[Nu]
 by_cases h1:100000<b.length
 ·rw[if_pos (by rw[Ao,Ac];simp;omega)]at hP hR
  exact⟨_,hP,hR⟩
 rw[if_neg (by rw[Ao,Ac];simp;omega)]at hP hR
 rw[Qr b (by omega),Aa]at hP
 rw[Sj b (by omega),Aa]at hR
 have hO:=h
 rw[seekto_Open,Mj,if_neg (by rw[Ao,Ac];simp;omega),if_neg (by rw[Ao,Ac];simp;omega),Qr b (by omega),Aa]at hO
 have hfr:∀M,∀F:Nat,frontS b=((F:Int),0)→(b.drop F).take 1=[84]→F<M→M≤b.length→frontS (b.take M)=((F:Int),0):=fun M F h1 h2 h3 h4=>Bjv h1 h2 h3 h4
 by_cases h2:(frontS b).2=0
 ·obtain⟨p0,p1,p2⟩:=Af9 h2
  have hc:=Fj (l:=b) p0 p1
  have hpair:frontS b=((((frontS b).1.toNat:Nat):Int),0):=Prod.ext (by simp only;omega) h2
  simp only[h2]at hO hP hR
  rw[if_neg (by rw[Aj];simp),hc,Aa,show b.drop (frontS b).1.toNat=hdr b from rfl,Al0 _ (by simp[hdr];omega),Aa]at hO
  rw[if_neg (by rw[Aj];simp),hc,Aa,show b.drop (frontS b).1.toNat=hdr b from rfl]at hP hR
  rw[Al0 _ (by simp[hdr];omega),Aa]at hP
  rw[Aly _ (by simp[hdr];omega),Aa]at hR
  by_cases h3:(readS (hdr b)).2.2.2.2.2=0
  ·obtain⟨g1,g2,g3,g4⟩:=Agj h3
   have h84:=Cca h3
   have hrt:=fun K=>Bob (K:=K) h3
   have hhd:hdr b=b.drop (frontS b).1.toNat:=rfl
   have hlen:(hdr b).length=b.length-(frontS b).1.toNat:=by simp[hdr]
   rw[hhd]at h84
   generalize hF:(frontS b).1.toNat=F at*
   have hF':(frontS b).1=(F:Int):=by omega
   rw[g1,hF']at hO hP hR
   simp only at hO hP hR
   rw[g1]at hrt
   generalize f0 (hdr b)=f at*
   generalize f1 (hdr b)=c at*
   generalize f2 (hdr b)=w at*
   generalize f3 (hdr b)=r at*
   generalize f4 (hdr b)=n at*
   have t22:Ad (F:Int) 22=((F+22:Nat):Int):=by rw[Ag (by omega) (by omega)];omega
   have t30:Ad ((F+22:Nat):Int) 8=((F+30:Nat):Int):=by rw[Ag (by omega) (by omega)];omega
   have hf12:f=1∨f=2:=by simp only[shapeB,decide_eq_true_eq]at g3;omega
   have hsub:Ah (Ac b) (F:Int)=((b.length-F:Nat):Int):=by rw[Ac,Be (by omega) (by omega)];omega
   rw[if_neg (by rw[Aj];simp),t22,t30]at hO
   rw[if_neg (by rw[Aj];simp),hsub]at hP
   rw[if_neg (by rw[Aj];simp),t22,t30]at hR
   have htail:∀T:Nat,T≤b.length→Jh b (f:Int) (c:Int) (w:Int) (r:Int) (n:Int) (T:Int)=some (Afw e)→e≠26:=by
    intro T hT h5
    rw[Ax8 g3 g4 b hb T hT]at h5
    by_cases h6:(seekS (b.drop T) (framesL (longN r) n).length).2≠0
    ·rw[if_pos h6]at h5
     have h7:(seekS (b.drop T) (framesL (longN r) n).length).2=e:=by simpa [Afw]using Option.some.inj h5
     rw[←h7];exact Boc _ _
    ·rw[if_neg h6]at h5
     have h7:=Option.some.inj h5
     simp only[Afw,Prod.mk.injEq]at h7
     exact absurd h7.2.2.2.2.2.2.2.symm he
   by_cases hpass:((p==([]:List UInt8)) !=(geq (f:Int) (1:Int)))=true
   ·rw[if_pos hpass]at hO
    have:26=e:=by simpa [Afw]using Option.some.inj hO
    subst this
    rw[if_pos hpass]at hR
    rw[if_pos (by decide),if_pos (by decide)]at hP
    exact⟨_,hP,hR⟩
   ·rw[if_neg hpass]at hO
    rw[if_neg hpass]at hR
    have hpf:(p=[]↔f=1):=by
     rw[Az]at hpass
     have h5:(p==([]:List UInt8))=((f:Int)==1):=by simpa using hpass
     have h6:(p==([]:List UInt8))=true↔((f:Int)==1)=true:=by rw[h5]
     rw[beq_iff_eq,beq_iff_eq]at h6
     rw[h6];omega
    by_cases h5:f=2
    ·have hpne:p≠ []:=fun e=>by have:=hpf.1 e;omega
     rw[if_pos (by simpa using hpne)]at hO
     rw[if_pos (by rw[Az,h5];rfl)]at hR
     have hmin:Da (Ac b) ((F+30:Nat):Int)=((min b.length (F+30):Nat):Int):=by rw[Ahb,Ac];omega
     rw[hmin,Ib (by omega) (by omega),Aa,Int.toNat_natCast]at hR
     by_cases h6:b.length<F+30
     ·rw[if_pos (by rw[Af,Ac];simp;omega)]at hO
      have:24=e:=by simpa [Afw]using Option.some.inj hO
      subst this
      rw[if_neg (by decide),if_pos (by simp[Az,Af,h5];omega)]at hP
      have htot:∃y,cadenzaref40_Opened (b.take (min b.length (F+30))) p=some y:=by
       rcases Ba3 (b.take (min b.length (F+30))) p (by simp;omega) hp with⟨_,_,_,k⟩|⟨_,_,_,_,_,_,_,o⟩
       ·exact⟨_,k⟩
       ·exact⟨_,o.ref⟩
      obtain⟨⟨y1,y2,y3,y4,y5,y6,y7,y8⟩,hy⟩:=htot
      rw[hy,Aa]at hR
      simp only at hR
      rw[if_pos (by simp[Af,Ac];right;omega)]at hR
      exact⟨_,hP,hR⟩
     ·have hseg:((b.take (F+30)).drop (F+22)).length=8:=by simp;omega
      rw[if_neg (by rw[Af,Ac];simp;omega),Mx (by omega) (by omega) (by omega),Aa,show((F+30:Nat):Int).toNat=F+30 from rfl,show((F+22:Nat):Int).toNat=F+22 from rfl,Bl7 hseg hp,Aa]at hO
      simp only at hO
      rw[if_neg (by rw[Aj];simp)]at hO
      have hft:=hfr (F+30) F hpair h84 (by omega) (by omega)
      have hT:(b.take (F+30)).length=F+30:=by simp;omega
      have hd:(b.take (F+30)).drop F=(hdr b).take 30:=by rw[hhd,List.drop_take];congr 1;omega
      have hcT:=Fj (l:=b.take (F+30)) (a:=(F:Int)) (by omega) (by omega)
      rw[Int.toNat_natCast,hd]at hcT
      have hT2:cadenzaref40_Opened (b.take (F+30)) p=cadenzaref40_Opened (b.take (F+30)) p:=rfl
      conv at hT2=>rhs;rw[cadenzaref40_Opened,Iv,if_neg (by rw[Ao,Ac,hT];simp;omega),Sj _ (by omega),hft,Aa]
      simp only at hT2
      rw[if_neg (by rw[Aj];simp),hcT,Aa,Aly _ (by simp;omega),hrt 30 (by omega),Aa]at hT2
      simp only at hT2
      have hs8:Ah (Ac (b.take (F+30))) ((F+22:Nat):Int)=8:=by rw[Ac,hT,Be (by omega) (by omega)];omega
      have hcs:Bp (b.take (F+30)) ((F+22:Nat):Int) ((F+30:Nat):Int)=some ((b.take (F+30)).drop (F+22)):=by
       rw[Mx (by omega) (by omega) (by omega),show((F+30:Nat):Int).toNat=F+30 from rfl,show((F+22:Nat):Int).toNat=F+22 from rfl,List.take_take,Nat.min_self]
      rw[if_neg (by rw[Aj];simp),t22,if_neg hpass,if_pos (by rw[Az,h5];rfl),hs8,if_neg (by decide),t30,hcs,Aa,Ayd p hp,Aa]at hT2
      rw[Nat.min_eq_right (by omega)]at hR
      generalize hsg:(b.take (F+30)).drop (F+22)=seg at*
      by_cases h7:seg=leB (Aas p).toNat 8
      ·rw[if_neg (by simp[h7])]at hO hT2
       have h26:=htail (F+30) (by omega) hO
       have hK:=Bn2 g4
       rw[Blh g3 g4 (b.take (F+30)) (by omega) (F+30) (by omega),List.drop_of_length_le (by omega),Bt4 hK]at hT2
       rw[if_neg (by rw[Az];simpa using h26),if_neg (by simp[Az,Af];omega)]at hP
       rw[hT2,if_pos (by simp),Aa,Afw]at hR
       simp only at hR
       rw[if_neg (by simp[Aj,Af,Ac];omega)]at hR
       exact⟨_,hP,hR⟩
      ·rw[if_pos (by simpa using h7)]at hO hT2
       have:26=e:=by simpa [Afw]using Option.some.inj hO
       subst this
       rw[if_pos (by decide),if_pos (by decide)]at hP
       rw[hT2,Aa]at hR
       simp only at hR
       rw[if_pos (by simp[Aj])]at hR
       exact⟨_,hP,hR⟩
    ·have hpe:p=[]:=hpf.2 (by omega)
     rw[if_neg (by rw[hpe];simp)]at hO
     have h26:=htail (F+22) (by omega) hO
     rw[if_neg (by rw[Az];simpa using h26),if_neg (by simp[Az];omega)]at hP
     rw[if_neg (by rw[Az];simp;omega)]at hR
     exact⟨_,hP,hR⟩
  ·generalize readS (hdr b)=v at*
   obtain⟨v1,v2,v3,v4,v5,v6⟩:=v
   simp only at h3 hP hR
   rw[if_pos (by rw[Aj];simpa using h3)]at hP hR
   exact⟨_,hP,hR⟩
 ·generalize frontS b=v at*
  obtain⟨v,e⟩:=v
  simp only at h2 hP hR
  rw[if_pos (by rw[Aj];simpa using h2)]at hP hR
  exact⟨_,hP,hR⟩
end Go.Pl
set_option linter.unusedVariables false
set_option linter.unusedSimpArgs false
namespace Go.Pl
open Go Go.Lv
theorem Bqq(g:Nat):∀K:Nat,(List.replicate K (g:Int)).sum=((K*g:Nat):Int)
 |0=>by simp
 |K+1=>by
  rw[List.replicate_succ,List.sum_cons,Bqq g K,Nat.succ_mul];omega
theorem Bk5{g n:Nat}(hn:1≤n):(framesL g n).sum=(n:Int):=by
 have h:=Nat.div_mul_le_self (n-1) g
 rw[framesL,List.sum_append,Bqq]
 simp only[List.sum_cons,List.sum_nil]
 omega
theorem Bnn:∀{l:List Int},(∀x∈l,0≤x)→0≤l.sum
 |[],_=>by simp
 |x::l,h=>by
  have h1:=h x List.mem_cons_self
  have h2:=Bnn (l:=l) fun y hy=>h y (List.mem_cons_of_mem _ hy)
  rw[List.sum_cons];omega
theorem Bix{l:List Int}(h:∀x∈l,0≤x)(i:Nat):0≤(l.take i).sum∧(l.take i).sum≤l.sum:=by
 have h1:=Bnn (l:=l.take i) fun x hx=>h x (List.mem_of_mem_take hx)
 have h2:=Bnn (l:=l.drop i) fun x hx=>h x (List.mem_of_mem_drop hx)
 have:=Bf5 l i
 omega
def Rc(c w:Nat)(fr:List Int)(k:Nat):Int:=(((fr.take k).sum.toNat*(c*wB (w:Int)):Nat):Int)
section
variable {f c w r n:Nat} (h1:shapeB f c w r n=true) (h2:fitB c r n=true)
include h1 h2
theorem Avt:(∀x∈framesL (longN r) n,0≤x)∧(framesL (longN r) n).sum=(n:Int)∧n≤4000:=by
 obtain⟨hc,hw,hr,hn,_⟩:=Yd h1
 have hfit:n≤4000/c:=by simp only[fitB,decide_eq_true_eq]at h2;exact h2.1
 have hn4:n≤4000:=by have:=Nat.div_le_self 4000 c;omega
 refine⟨fun x hx=>?_,Bk5 hn,hn4⟩
 obtain⟨m,rfl,_⟩:=Avq (Agf r) hn hx
 omega
theorem Bhq(k:Nat)(hk:k≤(framesL (longN r) n).length):∀(j i q:Nat),i+j=k→j<q→Mh (k:Int) (f:Int) (c:Int) (w:Int) (r:Int) (n:Int) (framesL (longN r) n) q (((framesL (longN r) n).take i).sum) (i:Int)=some (Rc c w (framesL (longN r) n) k,0)
 |0,i,q+1,hi,_=>by
  obtain⟨hc,hw,hr,hn,_⟩:=Yd h1
  obtain⟨g1,g2,g3⟩:=Avt h1 h2
  have b:=Bix g1 i
  obtain rfl:i=k:=by omega
  rw[Mh,Aab,if_neg (by rw[Af];simp),Agk,Aro,Rc]
  have e:((framesL (longN r) n).take i).sum=((((framesL (longN r) n).take i).sum.toNat:Nat):Int):=by omega
  rw[e,Cck (by omega) hc.2 hw];rfl
 |j+1,i,q+1,hi,hq=>by
  obtain⟨g1,g2,g3⟩:=Avt h1 h2
  have hK:=Bn2 h2
  have hlt:i<(framesL (longN r) n).length:=by omega
  have b1:=Bix g1 i
  have b2:=Bix g1 (i+1)
  have e:=Fu hlt
  have ih:=Bhq k hk j (i+1) q (by omega) (by omega)
  rw[e]at ih
  rw[Mh,Aab,if_pos (by rw[Af];simp;omega),Bw hlt,Aa,Aa,Ag (by omega) (by omega),Ag (by omega) (by omega)]
  exact ih
theorem Asz(k:Nat)(hk:k≤(framesL (longN r) n).length):Ac7 (f:Int) (c:Int) (w:Int) (r:Int) (n:Int) (k:Int)=some (Rc c w (framesL (longN r) n) k,0):=by
 have hK:=Bn2 h2
 have h:=Bhq h1 h2 k hk k 0 Am (by omega) (by have:=Ak;omega)
 rw[List.take_zero,List.sum_nil]at h
 rw[Ac7,Ag5,Ad5 h1 h2,Aa]
 simp only
 rw[if_neg (by simp[Aj,Ao,Ac];omega)]
 exact h
end
abbrev D5:=Int×UInt8×Int×Int×Int
def Bjw(G:Nat→List UInt8×Int)(ce:Int)(good:Nat→Int)(L:Nat):Nat→Nat→D5
 |0,_=>(ce,6,0,good L,0)
 |j+1,v=>if(G v).2≠0 then(ce,5,(v:Int),good v,0)else Bjw G ce good L j (v+1)
section
variable {b p:List UInt8} {f c w r n A:Nat} {l:List Int} (o:Opn b p f c w r n A l)
include o
theorem Bgo(ce:Int)(hce:ce≠0):∀(j v q:Nat),v+j=l.length→j<q→Jy b p l ce 6 (f:Int) (c:Int) (w:Int) (r:Int) (n:Int) (A:Int) q (v:Int)=some (Bjw (Ayv b p f c w r n A l) ce (Rc c w (framesL (longN r) n)) l.length j v)
 |0,v,q+1,hv,_=>by
  rw[Jy,Rn,if_neg (by rw[Af,Ac];simp;omega),Qz,Ze,Ac,Asz o.shape o.fit l.length (by rw[←o.len];exact Nat.le_refl _),Aa];rfl
 |j+1,v,q+1,hv,hq=>by
  have hs1:=o.some1
  obtain⟨m,x,s,e,g⟩:=Aml o v (by omega)
  rw[Jy,Rn,if_pos (by rw[Af,Ac];simp;omega),if_neg (by rw[Az];simpa using hce),Bs7 o (by omega) g,Aa,Bjw,g.eq]
  simp only
  by_cases he:e≠0
  ·rw[if_pos (by rw[Aj];simpa using he),if_pos he,Qz,Ze,Asz o.shape o.fit v (by rw[←o.len];omega),Aa]
  ·rw[if_neg (by rw[Aj];simpa using he),if_neg he,Ag (by omega) (by omega)]
   exact Bgo ce hce j (v+1) q (by omega) (by omega)
end
def Bgy(good:Nat→Int)(A at':Int)(l:List Int):Nat→Nat→D5
 |0,_=>(0,6,0,0,0)
 |j+1,i=>if at'<A+(l.take (i+1)).sum then(0,5,(i:Int),good i,0)else Bgy good A at' l j (i+1)
section
variable {b p:List UInt8} {f c w r n A:Nat} {l:List Int} (o:Opn b p f c w r n A l)
include o
theorem Bf1(a:Int)(ha:0≤a)(ha2:a≤100100):∀(j i q:Nat),i+j=l.length→j<q→Kz a l (f:Int) (c:Int) (w:Int) (r:Int) (n:Int) (A:Int) q ((A:Int)+(l.take i).sum) (i:Int)=some (Bgy (Rc c w (framesL (longN r) n)) (A:Int) a l j i)
 |0,i,q+1,hi,_=>by
  rw[Kz,Uu,if_neg (by rw[Af,Ac];simp;omega)];rfl
 |j+1,i,q+1,hi,hq=>by
  have hs1:=o.some1
  have hsum:=o.sum
  have hA:=o.at'
  have hfile:=o.file
  have hlt:i<l.length:=by omega
  have b1:=Ds o.five i
  have b2:=Ds o.five (i+1)
  have e:=Fu hlt
  rw[Kz,Uu,if_pos (by rw[Af,Ac];simp;omega),Bw hlt,Aa,Aa,Ag (a:=(A:Int)+(l.take i).sum) (by omega) (by omega),Int.add_assoc,←e,Bgy]
  by_cases h:a<(A:Int)+(l.take (i+1)).sum
  ·rw[if_pos (by rw[Af];simpa using h),if_pos h,Asz o.shape o.fit i (by rw[←o.len];omega),Aa]
  ·rw[if_neg (by rw[Af];simpa using h),if_neg h,Ag (by omega) (by omega)]
   exact Bf1 a ha ha2 j (i+1) q (by omega) (by omega)
theorem Bxf(h:(Ao6 b p f c w r n A l).2.2.2.2=0):(A:Int)+l.sum≤b.length:=by
 have hs1:=o.some1
 have key:∀(j k:Nat) (acc:List Int32),k+j=l.length→1≤j→(Bfy (fun k=>smF w (Ayv b p f c w r n A l k)) (fun k=>(Ayv b p f c w r n A l k).2) (Bsl b A l) j k acc).2=0→(A:Int)+l.sum≤b.length:=by
  intro j
  induction j with
  |zero=>intro k acc _ h;omega
  |succ j ih=>
   intro k acc hk _ h
   obtain⟨m,x,s,e,g⟩:=Aml o k (by omega)
   rw[Bfy]at h
   by_cases he:(Ayv b p f c w r n A l k).2≠0
   ·rw[if_pos he]at h;exact absurd h he
   ·rw[if_neg he]at h
    by_cases hj:j=0
    ·rw[g.eq]at he
     have:=(g.some' (by simpa using he)).2.2.2.2
     rw[show k+1=l.length by omega,List.take_length]at this
     exact this
    ·exact ih (k+1) _ (by omega) (by omega) h
 rw[Ao6,Ao1]at h
 refine key l.length 0 [] (by omega) hs1.1 ?_
 split at h
 ·simpa [Bh2]using h
 ·rename_i h2;simpa using h2
end
theorem Bc7(C W:Nat)(fr:List Int):Rc C W fr 0=0:=by rw[Rc,List.take_zero,List.sum_nil];simp
theorem Boz(C W:Nat){fr:List Int}(hp:∀z∈fr,0≤z){A m:Nat}(hA:A<fr.length)(hm:fr[A]=(m:Int)):Rc C W fr (A+1)=Rc C W fr A+((m*C*wB (W:Int):Nat):Int):=by
 have hs:0≤(fr.take A).sum:=by
  have:∀l:List Int,(∀z∈l,0≤z)→0≤l.sum:=by
   intro l
   induction l with
   |nil=>intro _;simp
   |cons a l ih=>intro h;rw[List.sum_cons];have:=h a (by simp);have:=ih (fun z hz=>h z (by simp[hz]));omega
  exact this _ fun z hz=>hp z (List.mem_of_mem_take hz)
 have e:(fr.take (A+1)).sum=(fr.take A).sum+m:=by rw[Agh hA,List.sum_append,List.sum_cons,List.sum_nil,hm];omega
 rw[Rc,Rc,e]
 have:((fr.take A).sum+(m:Int)).toNat=(fr.take A).sum.toNat+m:=by omega
 rw[this,Nat.add_mul,Nat.mul_assoc m]
 omega
end Go.Pl
set_option linter.unusedVariables false
set_option linter.unusedSimpArgs false
namespace Go.Pl
open Go Go.Lv
end Go.Pl
set_option linter.unusedVariables false
set_option linter.unusedSimpArgs false
namespace Go.Pl
open Go Go.Lv
theorem Cbp{α β:Type}{o:Option α}{f:α→Option β}{r:β}(h:Option.bind o f=some r):∃x,o=some x∧f x=some r:=by
 cases o with
 |none=>cases h
 |some x=>exact⟨x,rfl,h⟩
theorem Bu8{b p:LB}{e:Int}{y:UInt8}(hb:b.length≤600)(h:La b p e=some y):y≠0:=by
 rw[La,if_neg (by rw[Ao,Ac];simp;omega)]at h
 obtain⟨⟨f,g⟩,h1,h⟩:=Cbp h
 simp only at h
 split at h
 ·cases h;decide
 ·obtain⟨z,h2,h⟩:=Cbp h
  obtain⟨⟨k,o,q,u,v,m⟩,h3,h⟩:=Cbp h
  simp only at h
  repeat' split at h
  all_goals (cases h;decide)
inductive Pl (S D A:Int) (G:Nat→Int) (l:List Int) (a:Int):UInt8→Int→Int→Prop
 |t:a<S→Pl S D A G l a 1 0 0
 |h:S≤a→a<S+22→Pl S D A G l a 2 0 0
 |d:S+22≤a→a<D→Pl S D A G l a 3 0 0
 |s:S+22≤a→D≤a→a<A→Pl S D A G l a 4 0 0
 |f (i:Nat):S+22≤a→D≤a→A≤a→i<l.length→A+(l.take i).sum≤a→a<A+(l.take (i+1)).sum→Pl S D A G l a 5 i (G i)
 |b:S+22≤a→D≤a→A≤a→A+l.sum≤a→Pl S D A G l a 6 0 0
section
variable {b p:List UInt8} {f c w r n A:Nat} {l:List Int} (o:Opn b p f c w r n A l)
include o
omit o in
theorem Bpz(A:Nat)(l:List Int)(S D:Int)(G:Nat→Int)(a:Int)(h1:S+22≤a)(h2:D≤a)(h3:(A:Int)≤a):∀(j i:Nat),i+j=l.length→(A:Int)+(l.take i).sum≤a→∃g x y,Bgy G (A:Int) a l j i=(0,g,x,y,0)∧Pl S D A G l a g x y
 |0,i,hi,ha=>⟨6,0,0,rfl, .b h1 h2 h3 (by rw[show i=l.length by omega,List.take_length]at ha;exact ha)⟩
 |j+1,i,hi,ha=>by
  rw[Bgy]
  by_cases h:a<(A:Int)+(l.take (i+1)).sum
  ·rw[if_pos h]
   exact⟨5,i,G i,rfl, .f i h1 h2 h3 (by omega) ha h⟩
  ·rw[if_neg h]
   exact Bpz A l S D G a h1 h2 h3 j (i+1) (by omega) (by omega)
theorem Bsd(hc0:(Ao6 b p f c w r n A l).2.2.2.2=0)(h3:Jq b p=some (Ao6 b p f c w r n A l))(a:Nat)(ha:a<b.length):
  ∃g x y,El b p (a:Int)=some (0,g,x,y,0)∧Pl (frontS b).1 ((A:Int)-4*(l.length:Int)-4) A (Rc c w (framesL (longN r) n)) l a g x y:=by
 have hfit:=Bxf o hc0
 obtain⟨k1,k2⟩:=Bov o hfit
 have hs1:=o.some1
 have hsum:=o.sum
 have hfile:=o.file
 have hP:El b p (a:Int)=El b p (a:Int):=rfl
 conv at hP=>rhs;rw[El,Uw,Gi,h3,Aa,Aa,hc0,if_neg (by rw[Aj];simp),if_neg (by simp[Af,Du,Ac];omega),k1,Aa]
 simp only at hP
 rw[if_neg (by rw[Aj];simp),o.prog,Aa]at hP
 simp only at hP
 rw[if_neg (by rw[Aj];simp)]at hP
 by_cases c1:(a:Int)<(frontS b).1
 ·rw[if_pos (by rw[Af];simpa using c1)]at hP
  exact⟨_,_,_,hP, .t c1⟩
 rw[if_neg (by rw[Af];simpa using c1)]at hP
 by_cases c2:(a:Int)<(frontS b).1+22
 ·rw[if_pos (by rw[Af];simpa using c2)]at hP
  exact⟨_,_,_,hP, .h (by omega) c2⟩
 rw[if_neg (by rw[Af];simpa using c2)]at hP
 by_cases c3:(a:Int)<(A:Int)-4*(l.length:Int)-4
 ·rw[if_pos (by rw[Af];simpa using c3)]at hP
  exact⟨_,_,_,hP, .d (by omega) c3⟩
 rw[if_neg (by rw[Af];simpa using c3)]at hP
 by_cases c4:(a:Int)<(A:Int)
 ·rw[if_pos (by rw[Af];simpa using c4)]at hP
  exact⟨_,_,_,hP, .s (by omega) (by omega) c4⟩
 rw[if_neg (by rw[Af];simpa using c4)]at hP
 have hl:=Bf1 o (a:Int) (by omega) (by omega) l.length 0 Am (by omega) (by have:=Ak;omega)
 rw[List.take_zero,List.sum_nil,Int.add_zero]at hl
 have hP2:El b p (a:Int)=some (Bgy (Rc c w (framesL (longN r) n)) (A:Int) (a:Int) l l.length 0):=hP.trans hl
 obtain⟨g,x,y,e1,e2⟩:=Bpz A l (frontS b).1 ((A:Int)-4*(l.length:Int)-4) (Rc c w (framesL (longN r) n)) (a:Int) (by omega) (by omega) (by omega) l.length 0 (by omega) (by rw[List.take_zero,List.sum_nil];omega)
 rw[e1]at hP2
 exact⟨g,x,y,hP2,e2⟩
theorem Bi1(i:Nat)(hi:i<l.length):Rc c w (framesL (longN r) n) i<Rc c w (framesL (longN r) n) (i+1):=by
 have hlen:=o.len
 have hlt:i<(framesL (longN r) n).length:=by omega
 obtain⟨m,x,s,e,g⟩:=Aml o i hi
 have h0:=g.mom
 rw[Bw hlt]at h0
 have hm:=Option.some.inj h0
 have hpos:∀z∈framesL (longN r) n,0≤z:=(Avt o.shape o.fit).1
 have hn:=Boz c w hpos hlt hm
 have h5:=g.pos
 have h6:=Bri (w:Int)
 have hc:=(Yd o.shape).1
 have h7:1≤m*c*wB (w:Int):=Nat.mul_pos (Nat.mul_pos (by omega) (by omega)) (by omega)
 omega
theorem Bjk(i:Nat):∀j:Nat,i+j≤l.length→Rc c w (framesL (longN r) n) i≤Rc c w (framesL (longN r) n) (i+j)
 |0,_=>Int.le_refl _
 |j+1,h=>by
  have:=Bjk i j (by omega)
  have h2:=Bi1 o (i+j) (by omega)
  rw[←Nat.add_assoc];omega
theorem Ben:0<Rc c w (framesL (longN r) n) l.length:=by
 have h1:=Bjk o 0 (l.length-1) (by omega)
 have hs1:=o.some1
 have h2:=Bi1 o (l.length-1) (by omega)
 rw[show 0+(l.length-1)=l.length-1 by omega,Bc7]at h1
 rw[show l.length-1+1=l.length by omega]at h2
 omega
end
def PlP(S D A:Int)(G:Nat→Int)(l:List Int)(a:Nat)(w:UInt8)(y z:Int):Prop:=(a=0∧w=0∧y=0∧z=0)∨(0<a∧Pl S D A G l ((a:Int)-1) w y z)
theorem Wg{l:List Int}(h5:∀x∈l,5≤x):∀i j:Nat,i+j≤l.length→(l.take i).sum+5*j≤(l.take (i+j)).sum
 |i,0,_=>by simp
 |i,j+1,h=>by
  have:=Wg h5 i j (by omega)
  have hlt:i+j<l.length:=by omega
  have e:=Fu hlt
  have:=h5 l[i+j] (List.getElem_mem hlt)
  rw[←Nat.add_assoc];omega
theorem Bvr{S D A:Int}{G:Nat→Int}{l:List Int}(h5:∀x∈l,5≤x)(hG:∀i,i<l.length→G i<G (i+1))(hX:∀i,i<l.length→G i≤G l.length)(h0:0<G l.length)(hG0:G 0=0)(hS:0≤S)(hSA:S+22≤D)(hDA:D<A){a:Nat}{w g:UInt8}{y z h x:Int}
  (hp:PlP S D A G l a w y z) (hc:Pl S D A G l (a:Int) g h x) (ha:a≤600):Cp x (G l.length)=false∧(((((Au (0:Int) 0)||(Au (0:Int) 0))||(Bl g w))||(Bl g 1))||(Cp g 6))=false∧
  ((geq g 5=false∧Au g 5=true∧h=0∧x=0)∨(g=5∧geq w 5=false∧Au w 5=true∧h=0∧x=0)∨
   (g=5∧w=5∧Bl h y=false∧Cp h (Ad y 1)=false∧((geq h y) !=(geq x z))=false∧Bl x z=false)):=by
 have hcmp:∀i j,i<j→j<l.length→(l.take (i+1)).sum≤(l.take j).sum:=fun i j hij hj=>by
  have:=Wg h5 (i+1) (j-(i+1)) (by omega)
  rw[show i+1+(j-(i+1))=j by omega]at this
  omega
 have hz:Cp (0:Int) (G l.length)=false:=by rw[Ao,decide_eq_false_iff_not];omega
 cases hc with
 |t c1=>
  rcases hp with⟨rfl,rfl,rfl,rfl⟩|⟨ha0,hp⟩
  ·exact⟨hz,rfl, .inl ⟨rfl,rfl,rfl,rfl⟩⟩
  ·cases hp<;>first|(exact⟨hz,rfl, .inl ⟨rfl,rfl,rfl,rfl⟩⟩)|(exfalso;omega)
 |h c1 c2=>
  rcases hp with⟨rfl,rfl,rfl,rfl⟩|⟨ha0,hp⟩
  ·exact⟨hz,rfl, .inl ⟨rfl,rfl,rfl,rfl⟩⟩
  ·cases hp<;>first|(exact⟨hz,rfl, .inl ⟨rfl,rfl,rfl,rfl⟩⟩)|(exfalso;omega)
 |d c1 c2=>
  rcases hp with⟨rfl,rfl,rfl,rfl⟩|⟨ha0,hp⟩
  ·exact⟨hz,rfl, .inl ⟨rfl,rfl,rfl,rfl⟩⟩
  ·cases hp<;>first|(exact⟨hz,rfl, .inl ⟨rfl,rfl,rfl,rfl⟩⟩)|(exfalso;omega)
 |s c0 c1 c2=>
  rcases hp with⟨rfl,rfl,rfl,rfl⟩|⟨ha0,hp⟩
  ·exact⟨hz,rfl, .inl ⟨rfl,rfl,rfl,rfl⟩⟩
  ·cases hp<;>first|(exact⟨hz,rfl, .inl ⟨rfl,rfl,rfl,rfl⟩⟩)|(exfalso;omega)
 |b c0 c1 c2 c3=>
  rcases hp with⟨rfl,rfl,rfl,rfl⟩|⟨ha0,hp⟩
  ·exact⟨hz,rfl, .inl ⟨rfl,rfl,rfl,rfl⟩⟩
  ·cases hp<;>first|(exact⟨hz,rfl, .inl ⟨rfl,rfl,rfl,rfl⟩⟩)
 |f i c0 c1 c2 c3 c4 c5=>
  have hxX:=hX i c3
  have hx:Cp (G i) (G l.length)=false:=by rw[Ao,decide_eq_false_iff_not];omega
  have hi0:(a:Int)-1<A→i=0:=fun hlt=>by
   by_cases hi:i=0
   ·exact hi
   ·have:=Wg h5 0 i (by omega)
    rw[List.take_zero,List.sum_nil,Nat.zero_add]at this
    omega
  rcases hp with⟨rfl,rfl,rfl,rfl⟩|⟨ha0,hp⟩
  ·exfalso;omega
  ·cases hp with
   |t d1=>obtain rfl:=hi0 (by omega);exact⟨hx,rfl, .inr (.inl ⟨rfl,rfl,rfl,rfl,hG0⟩)⟩
   |h d1 d2=>obtain rfl:=hi0 (by omega);exact⟨hx,rfl, .inr (.inl ⟨rfl,rfl,rfl,rfl,hG0⟩)⟩
   |d d1 d2=>obtain rfl:=hi0 (by omega);exact⟨hx,rfl, .inr (.inl ⟨rfl,rfl,rfl,rfl,hG0⟩)⟩
   |s d0 d1 d2=>obtain rfl:=hi0 (by omega);exact⟨hx,rfl, .inr (.inl ⟨rfl,rfl,rfl,rfl,hG0⟩)⟩
   |b d0 d1 d2 d3=>
    exfalso
    have:=Wg h5 (i+1) (l.length-(i+1)) (by omega)
    rw[show i+1+(l.length-(i+1))=l.length by omega,List.take_length]at this
    omega
   |f i' d0 d1 d2 d3 d4 d5=>
    have hii:i=i'∨i=i'+1:=by
     rcases Nat.lt_trichotomy i i' with hlt|heq|hgt
     ·have:=hcmp i i' hlt d3;omega
     ·exact .inl heq
     ·by_cases h2:i=i'+1
      ·exact .inr h2
      ·have h3:=Wg h5 (i'+1) (i-(i'+1)) (by omega)
       rw[show i'+1+(i-(i'+1))=i by omega]at h3
       omega
    have hle:G i'≤G i:=by
     rcases hii with rfl|rfl
     ·exact Int.le_refl _
     ·have:=hG i' d3;omega
    have t1:Bl (i:Int) (i':Int)=false:=by rw[Af,decide_eq_false_iff_not];omega
    have t2:Cp (i:Int) (Ad (i':Int) 1)=false:=by
     have hb:i'≤a:=by
      have h3:=Wg h5 0 i' (by omega)
      rw[List.take_zero,List.sum_nil,Nat.zero_add]at h3
      omega
     rw[Ag (by omega) (by omega),Ao,decide_eq_false_iff_not];omega
    have t3:((geq (i:Int) (i':Int)) !=(geq (G i) (G i')))=false:=by
     rcases hii with rfl|rfl
     ·simp[Az]
     ·have:=hG i' d3
      have q1:geq ((i'+1:Nat):Int) (i':Int)=false:=by rw[Az,beq_eq_false_iff_ne];omega
      have q2:geq (G (i'+1)) (G i')=false:=by rw[Az,beq_eq_false_iff_ne];omega
      rw[q1,q2];rfl
    have t4:Bl (G i) (G i')=false:=by rw[Af,decide_eq_false_iff_not];omega
    exact⟨hx,rfl, .inr (.inr ⟨rfl,rfl,t1,t2,t3,t4⟩)⟩
theorem Byj{X:Int}{a:Nat}{w g:UInt8}{y z h x:Int}(hF:Cp x X=false∧(((((Au (0:Int) 0)||(Au (0:Int) 0))||(Bl g w))||(Bl g 1))||(Cp g 6))=false∧
  ((geq g 5=false∧Au g 5=true∧h=0∧x=0)∨(g=5∧geq w 5=false∧Au w 5=true∧h=0∧x=0)∨
   (g=5∧w=5∧Bl h y=false∧Cp h (Ad y 1)=false∧((geq h y) !=(geq x z))=false∧Bl x z=false)))
  (m p:LB) (k:Bool) (o':Int) (n:UInt8) (u:Int) (bk:Int→Int→UInt8→Int→Int→Option Bool) (ha:a<m.length) (hm:m.length≤600) (hpl:El m p (a:Int)=some (0,g,h,x,0)) (v':Int):
  Db Fe bk m p k o' n u X (a:Int) v' w y z=bk ((a+1:Nat):Int) 0 g h x:=by
 have e1:Ad (a:Int) 1=((a+1:Nat):Int):=by rw[Ag (by omega) (by omega)];omega
 have z0:Au (0:Int) 0=false:=rfl
 have g5:geq (5:UInt8) 5=true:=rfl
 have g6:Au (5:UInt8) 5=false:=rfl
 obtain⟨hx,hc1,hK⟩:=hF
 rw[Db,if_pos (by rw[Af,Ac];simp;omega),hpl,Aa,e1]
 simp only
 rw[hc1,if_neg (by decide)]
 rcases hK with⟨q1,q2,rfl,rfl⟩|⟨rfl,q1,q2,rfl,rfl⟩|⟨rfl,rfl,t1,t2,t3,t4⟩
 ·rw[q1,q2,hx,z0]
  simp
 ·rw[q1,q2,hx,z0,g5,g6]
  simp
 ·rw[t1,t2,t3,t4,hx,g5,g6]
  simp
theorem Bef(G:Nat→List UInt8×Int)(ce:Int)(good:Nat→Int)(L:Nat):∀(j v:Nat),∃(g:UInt8) (x y:Int),Bjw G ce good L j v=(ce,g,x,y,0)∧g≠0
 |0,v=>⟨6,0,good L,rfl,by decide⟩
 |j+1,v=>by
  rw[Bjw]
  split
  ·exact⟨5,_,_,rfl,by decide⟩
  ·exact Bef G ce good L j (v+1)
section
variable {b p:List UInt8} {f c w r n A:Nat} {l:List Int} (o:Opn b p f c w r n A l) (hb:b.length≤600) (hc0:(Ao6 b p f c w r n A l).2.2.2.2=0) (h3:Jq b p=some (Ao6 b p f c w r n A l))
include o hb hc0 h3
theorem Bam(o':Int)(u:Int):∀(j a q:Nat) (v y z:Int) (g:UInt8),a+j=b.length→j<q→PlP (frontS b).1 ((A:Int)-4*(l.length:Int)-4) A (Rc c w (framesL (longN r) n)) l a g y z→
  Ce b p true o' 0 u (Rc c w (framesL (longN r) n) l.length) q (a:Int) v g y z=some true
 |j,a,0,_,_,_,_,_,h,_=>absurd h (Nat.not_lt_zero _)
 |0,a,q+1,v,y,z,g,ha,hq,hP=>by
  have ht:=Ben o
  rw[Ce,Db,if_neg (by rw[Af,Ac];simp;omega),Fe,Oi]
  have h1:Cp (Rc c w (framesL (longN r) n) l.length) 0=true:=by rw[Ao];simpa using ht
  rw[h1];rfl
 |j+1,a,q+1,v,y,z,g,ha,hq,hP=>by
  have hs1:=o.some1
  have hpos:=o.pos
  obtain⟨p0,p1,p2⟩:=Af9 o.tag
  obtain⟨g',h',x',k1,k2⟩:=Bsd o hc0 h3 a (by omega)
  have hD:(frontS b).1+22≤(A:Int)-4*(l.length:Int)-4:=by
   have:(A:Int)=(((frontS b).1.toNat+22+(if f=2 then 8 else 0)+4*l.length+4:Nat):Int):=by rw[←hpos]
   split at this<;>omega
  have hF:=Bvr o.five (Bi1 o) (fun i hi=>by have:=Bjk o i (l.length-i) (by omega);rw[show i+(l.length-i)=l.length by omega]at this;exact this) (Ben o) (Bc7 _ _ _) p0 hD (by omega) hP k2 (by omega)
  rw[Ce,Byj hF b p true o' 0 u _ (by omega) hb k1 v]
  refine Bam o' u j (a+1) q 0 h' x' g' (by omega) (by omega) (.inr ⟨by omega,?_⟩)
  rw[show((a+1:Nat):Int)-1=(a:Int) by omega]
  exact k2
end
theorem Bsy(hal:Nk=some true)(b p:LB):Gp b p=some true:=by
 rw[Gp,Ii,hal,Aa]
 by_cases hc:(((Cp (Ac b) 600)||(Cp (Ac p) 64))||(!true))=true
 ·rw[if_pos hc]
 ·rw[if_neg hc]
  simp only[Bool.or_eq_true,not_or,Ao,Ac,decide_eq_true_eq]at hc
  obtain⟨⟨c1,c2⟩,_⟩:=hc
  have hb:b.length≤600:=by omega
  have hp:p.length≤64:=by omega
  have big:gle (Ac b) 100000=true:=by rw[Be6,Ac];simp;omega
  have hno:¬(Cp (Ac p) 64=true):=by rw[Ao,Ac];simp;omega
  have place0:∀e:Int,e≠0→Gi b p=some e→El b p 0=some (0,0,0,0,e):=fun e he h=>by
   rw[El,Uw,h,Aa,if_pos (by rw[Aj];simpa using he)]
  have hT:Nd b p=Nd b p:=rfl
  conv at hT=>rhs;rw[Nd,Aho,if_neg hno]
  have fin:∀(e:Int) (g:UInt8) (x y:Int),e≠0→g≠0→Nd b p=some (e,g,x,y,0)→Gi b p=some e→((Nd b p).bind fun(o,n,u,b',ae)=>
    (Gi b p).bind fun ad=>
    if((Au ae 0)||(Au o ad))then some false else
    if(Au ad 0)then(El b p 0).bind fun(v,g,h,a,ac)=>some ((true&&(geq ac ad))&&((Au n 0)==(gle (Ac b) 100000)))
    else Fb b p true o n u b' 0 0 0 0 0)=some true:=fun e g x y he hg k1 k2=>by
   have hg':Au g 0=true:=by
    rw[Au]
    have:(GI.toZ g==GI.toZ (0:UInt8))=false:=by
     rw[beq_eq_false_iff_ne]
     intro h
     refine hg (UInt8.toNat_inj.1 ?_)
     have h2:(g.toNat:Int)=((0:UInt8).toNat:Int):=h
     omega
    simp[bne,this]
   rw[k1,Aa]
   simp only
   rw[k2,Aa,if_neg (by simp[Aj]),if_pos (by rw[Aj];simpa using he),place0 e he k2,Aa]
   simp only
   rw[hg',big]
   simp[Az]
  rcases Bxo b p (by omega) hp with⟨e,he,h1,h2,h3,h4⟩|⟨f,c,w,r,n,A,l,o,h3,h4⟩
  ·obtain⟨y,k1,k2⟩:=Bnm b p (by omega) hp he h1
   have hck:Gi b p=some e:=by rw[Gi,h3,Aa];rfl
   rw[hck,Aa,h1,Aa,Afw]at hT
   simp only at hT
   rw[if_pos (by rw[Aj];simpa using he),k1,Aa]at hT
   exact fin e y 0 0 he (Bu8 hb k1) hT hck
  ·have hs1:=o.some1
   have hlen:=o.len
   have hck:Gi b p=some (Ao6 b p f c w r n A l).2.2.2.2:=by rw[Gi,h3,Aa]
   rw[hck,Aa,o.prog,Aa]at hT
   simp only at hT
   rw[if_neg (by rw[Aj];simp)]at hT
   by_cases hce:(Ao6 b p f c w r n A l).2.2.2.2=0
   ·have hF:Am=(Am-1)+1:=by have:=Ak;omega
    have h0:=hce
    rw[h0]at hT hck
    rw[if_neg (by rw[Aj];simp),Ahv,Aiq,Ah7,hF,Jy,Rn,if_pos (by rw[Af,Ac];simp;omega),if_pos (by rw[Az];simp),Qz,Ze,Ac,Asz o.shape o.fit l.length (by omega),Aa]at hT
    rw[hT,Aa]
    simp only
    rw[hck,Aa,if_neg (by decide),if_neg (by decide),Fb]
    exact Bam o hb hce h3 0 _ b.length 0 Am 0 0 0 0 (by omega) (by have:=Ak;omega) (.inl ⟨rfl,rfl,rfl,rfl⟩)
   ·rw[if_pos (by rw[Aj];simpa using hce)]at hT
    obtain⟨g,x,y,e1,e2⟩:=Bef (Ayv b p f c w r n A l) (Ao6 b p f c w r n A l).2.2.2.2 (Rc c w (framesL (longN r) n)) l.length l.length 0
    have hl:=Bgo o (Ao6 b p f c w r n A l).2.2.2.2 hce l.length 0 Am (by omega) (by have:=Ak;omega)
    rw[e1]at hl
    exact fin _ g x y hce e2 (hT.trans hl) hck
theorem Bzg:Nk=some true:=by kernel_rfl
theorem law_DamagePlaces(b p:LB):Gp b p=some true:=Bsy Bzg b p
end Go.Pl
