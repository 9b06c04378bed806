/- A part of the proof of a statement of this seat (see the text that ends in Proof): LwGoes, LwPol, LwRt, LwClip, LwPts, LwTrc, LwPd, LwDt, LwDu, LwAll, LwA40, LwSr. No conditions of its own. -/
import Derived.Test.YtkkcakakemjdeaaGreatDoorSrWA
import Derived.Test.YtkkcakakemjdeaaGreatDoorSrPA
import Derived.KernelRfl
set_option linter.unusedVariables false
set_option linter.unusedSimpArgs false
namespace Go.Pl
open Go Go.Lv
theorem Bv7{b p:List UInt8}{e:Int}(he:e≠0)(h:seekto_Open b p=some (Aro e))(k:Int):Fk b p k=some ([],e):=by
 rw[Fk,Xv,h,Aa,Aro]
 simp only
 rw[if_pos (by rw[Aj];simpa using he),Ael,Aeo,if_pos (by rw[Aj];simpa using he)]
theorem Blf(G:Nat→List UInt8×Int)(be:Int):∀(j k:Nat) (acc:List UInt8),(Qz G be j k acc).2=0→acc.length≤(Qz G be j k acc).1.length
 |0,k,acc,h=>by
  rw[Qz]at h⊢
  by_cases hb:be≠0
  ·rw[if_pos hb]at h;simp at h
  ·rw[if_neg hb];exact Nat.le_refl _
 |j+1,k,acc,h=>by
  rw[Qz]at h⊢
  by_cases hb:(G k).2≠0
  ·rw[if_pos hb]at h;exact absurd h hb
  ·rw[if_neg hb]at h⊢
   have:=Blf G be j (k+1) _ h
   rw[List.length_append]at this;omega
theorem Bmd(G:Nat→List UInt8×Int)(be:Int)(j k:Nat)(h:(Qz G be (j+1) k []).2=0):(G k).2=0∧(G k).1.length≤(Qz G be (j+1) k []).1.length:=by
 rw[Qz]at h⊢
 by_cases hb:(G k).2≠0
 ·rw[if_pos hb]at h;exact absurd h hb
 ·rw[if_neg hb]at h⊢
  exact⟨by simpa using hb,by simpa using Blf G be j (k+1) _ h⟩
theorem Boo{g n a:Nat}(ha:a≤(n-1)/g):getI (framesL g n) (a:Int)=some (if a<(n-1)/g then(g:Int)else((n-(n-1)/g*g:Nat):Int)):=by
 rw[Ca (by rw[Vy];omega)]
 by_cases h:a<(n-1)/g
 ·rw[if_pos h];simp[framesL,h]
 ·obtain rfl:a=(n-1)/g:=by omega
  rw[if_neg h];simp[framesL]
theorem Bdr{g n t:Nat}(hg:1≤g)(ht:t<n):t/g≤(n-1)/g∧∀m:Nat,getI (framesL g n) ((t/g:Nat):Int)=some (m:Int)→t %g<m:=by
 have h1:t/g≤(n-1)/g:=Nat.div_le_div_right (by omega)
 refine⟨h1,fun m hm=>?_⟩
 have hmod:=Nat.mod_lt t (show 0<g by omega)
 have hdm:=Nat.div_add_mod t g
 rw[Boo h1]at hm
 by_cases h:t/g<(n-1)/g
 ·rw[if_pos h]at hm
  have:=Option.some.inj hm
  omega
 ·rw[if_neg h]at hm
  have h2:t/g=(n-1)/g:=by omega
  have:=Option.some.inj hm
  rw[Nat.mul_comm,h2]at hdm
  omega
theorem Ccd{c:Nat}{w:Nat}(hc:c≤6)(hw:Ch (w:Int)):Bq (Ax (c:Int) (w:Int)) 8=((c*wB (w:Int):Nat):Int):=by
 have h:w=8∨w=16∨w=24:=by unfold Ch at hw;omega
 have:c=0∨c=1∨c=2∨c=3∨c=4∨c=5∨c=6:=by omega
 rcases h with rfl|rfl|rfl<;>rcases this with rfl|rfl|rfl|rfl|rfl|rfl|rfl<;>rfl
theorem Ca3{w:Nat}(hw:Ch (w:Int)):8*wB (w:Int)=w∧w≤24:=by
 have h:w=8∨w=16∨w=24:=by unfold Ch at hw;omega
 rcases h with rfl|rfl|rfl<;>exact⟨rfl,by omega⟩
theorem Cb4{t c w:Nat}(ht:t≤4000)(hc:c≤6)(hw:Ch (w:Int)):Bq (Ax (Ax (t:Int) (c:Int)) (w:Int)) 8=((t*(c*wB (w:Int)):Nat):Int):=by
 obtain⟨h1,h2⟩:=Ca3 hw
 have e1:(t:Int)*(c:Int)=((t*c:Nat):Int):=by simp
 have b1:t*c≤4000*6:=Nat.mul_le_mul ht hc
 have b2:t*c*w≤24000*24:=Nat.mul_le_mul b1 h2
 rw[Fm (a:=(t:Int)) (by rw[e1];omega) (by rw[e1];omega),e1,Fm (by rw[←Int.natCast_mul];omega) (by rw[←Int.natCast_mul];omega),←Int.natCast_mul,show(8:Int)=((8:Nat):Int)from rfl,Bn1 (by omega)]
 congr 1
 generalize wB (w:Int)=W at*
 subst h1
 rw[Nat.mul_left_comm,Nat.mul_div_cancel_left _ (by omega),Nat.mul_assoc]
section
variable {b p:List UInt8} {f c w r n A:Nat} {l:List Int} (o:Opn b p f c w r n A l)
include o
def atS(b p:List UInt8)(f c w r n A:Nat)(l:List Int)(t:Nat):List UInt8×Int:=
 let y:=Qz (Ku b p f c w r n A l) (Al1 b A l) (l.length-t/longN r) (t/longN r) []
 if y.2≠0 then([],y.2)else(y.1.drop (t %longN r*(c*wB (w:Int))),0)
theorem Cbp{t:Nat}(ht:t<n)(h:(Qz (Ku b p f c w r n A l) (Al1 b A l) (l.length-t/longN r) (t/longN r) []).2=0):t %longN r*(c*wB (w:Int))≤(Qz (Ku b p f c w r n A l) (Al1 b A l) (l.length-t/longN r) (t/longN r) []).1.length:=by
 obtain⟨hc,hw,hr,hn,_⟩:=Ha o.shape
 obtain⟨h1,h2⟩:=Bdr (Sc r) ht
 have hlen:=o.len
 rw[Vy]at hlen
 obtain⟨m,x,s,e,g⟩:=Af2 o (t/longN r) (by omega)
 rw[show l.length-t/longN r=(l.length-t/longN r-1)+1 by omega]at h⊢
 obtain⟨h3,h4⟩:=Bmd _ _ _ _ h
 rw[g.eq]at h3 h4
 have h5:=(g.lens hw).2.2 h3
 have h6:=h2 m g.mom
 simp only at h4
 have:=Nat.mul_le_mul_right (c*wB (w:Int)) (Nat.le_of_lt h6)
 rw[←Nat.mul_assoc m]at this
 omega
theorem Bqd(t:Int):Afv b p t=some (if t<0∨(n:Int)≤t then([],2)else atS b p f c w r n A l t.toNat):=by
 obtain⟨hc,hw,hr,hn,_⟩:=Ha o.shape
 have hfit:n≤4000/c:=by have:=o.fit;simp only[fitB,decide_eq_true_eq]at this;exact this.1
 have hn4:n≤4000:=by have:=Nat.div_le_self 4000 c;omega
 have hlen:=o.len
 have hs1:=o.some1
 rw[Vy]at hlen
 rw[Afv,o.prog,Aa]
 simp only
 rw[if_neg (by rw[Aj];simp)]
 by_cases hk:t<0∨(n:Int)≤t
 ·rw[if_pos hk,if_pos (by simp[Af,Ce];omega)]
 ·rw[if_neg hk,if_neg (by simp[Af,Ce];omega)]
  obtain⟨t,rfl⟩:=Int.eq_ofNat_of_zero_le (show 0≤t by omega)
  have ht:t<n:=by omega
  have hg:=Sc r
  obtain⟨h1,h2⟩:=Bdr hg ht
  have hmod:=Nat.mod_lt t (show 0<longN r by omega)
  have hmle:=Nat.mod_le t (longN r)
  rw[Lm,Amj hr.1 hr.2 hn hn4,if_neg (by omega),Aa]
  simp only
  rw[if_neg (by rw[Aj];simp),if_neg (by simp[Af,Ce];omega),Asj hr.1 hr.2,Aa]
  simp only
  rw[Bz (by rw[Aj];simp;omega),Aa,Aa,Aa,Bn1 (by omega),Ayb]
  simp only
  rw[if_neg (by rw[Aj];simp),Ayh o,if_neg (fun h=>h.elim (fun h=>absurd h (Int.not_lt.2 (Int.natCast_nonneg _))) fun h=>by have:=Int.ofNat_le.1 h;omega),Aa,Int.toNat_natCast,Int.toNat_natCast,atS]
  have hfit2:=Cbp o ht
  generalize Qz (Ku b p f c w r n A l) (Al1 b A l) (l.length-t/longN r) (t/longN r) []=y at*
  obtain⟨y1,y2⟩:=y
  simp only at hfit2⊢
  by_cases hy:y2≠0
  ·rw[if_pos hy,if_pos (by rw[Aj];simpa using hy)]
  ·have:=hfit2 (by simpa using hy)
   rw[if_neg hy,if_neg (by rw[Aj];simpa using hy),Bz (by simp),Aa,Cb4 (by omega) hc.2 hw,Ge (by omega) (by omega),Aa,Int.toNat_natCast]
end
end Go.Pl
set_option linter.unusedVariables false
set_option linter.unusedSimpArgs false
namespace Go.Pl
open Go Go.Lv
def smF(w:Nat)(y:List UInt8×Int):List Int32:=if y.2≠0 then []else sxs (wB (w:Int)) (y.1.length/wB (w:Int)) y.1
end Go.Pl
set_option linter.unusedVariables false
set_option linter.unusedSimpArgs false
namespace Go.Pl
open Go Go.Lv
theorem Ax0(z:Int):(u8 z).toNat=(z %256).toNat:=by
 have:(z %256).toNat<256:=by omega
 rw[u8,UInt8.toNat_ofNat',Nat.mod_eq_of_lt (by omega)]
theorem Bc8{bits:Int}(h:Ch bits):∀(l:List Int32) (i j:Nat),i<l.length→j<wB bits→(bytesB bits l).getD (i*wB bits+j) 0=(Aby bits (l.getD i 0).toInt).getD j 0
 |[],i,j,hi,_=>by simp at hi
 |x::l,0,j,_,hj=>by
  have h1:=Axx h x.toInt
  have e:bytesB bits (x::l)=Aby bits x.toInt++bytesB bits l:=by simp[bytesB]
  rw[e,Nat.zero_mul,Nat.zero_add,List.getD_eq_getElem?_getD,List.getD_eq_getElem?_getD,List.getElem?_append_left (by omega)];rfl
 |x::l,i+1,j,hi,hj=>by
  have h1:=Axx h x.toInt
  have e:bytesB bits (x::l)=Aby bits x.toInt++bytesB bits l:=by simp[bytesB]
  have ih:=Bc8 h l i j (by simpa using hi) hj
  have e2:(i+1)*wB bits+j=(Aby bits x.toInt).length+(i*wB bits+j):=by rw[Nat.add_mul,Nat.one_mul,h1];omega
  rw[e,e2,List.getD_eq_getElem?_getD,List.getElem?_append_right (by omega),Nat.add_sub_cancel_left,←List.getD_eq_getElem?_getD,ih];rfl
theorem Bzo{bits:Int}(h:Ch bits)(l:List Int32)(hr:inR bits l)(i:Nat)(hi:i<l.length):Int32.ofInt (sx (wB bits) (bytesB bits l) (i*wB bits))=l.getD i 0:=by
 have hm:l.getD i 0∈l:=by rw[List.getD_eq_getElem?_getD,List.getElem?_eq_getElem hi];exact List.getElem_mem hi
 have hv:=hr _ hm
 have g:∀j,j<wB bits→by' (bytesB bits l) (i*wB bits+j)=((Aby bits (l.getD i 0).toInt).getD j 0).toNat:=fun j hj=>by rw[by',Bc8 h l i j hi hj]
 generalize l.getD i 0=x at*
 have key:sx (wB bits) (bytesB bits l) (i*wB bits)=x.toInt:=by
  generalize hA:i*wB bits=a at*
  obtain rfl|rfl|rfl:=h
  ·have g0:=g 0 (by decide)
   have e1:(Aby 8 x.toInt).getD 0 0=u8 (x.toInt+128):=rfl
   rw[Nat.add_zero,e1,Ax0]at g0
   simp only[hB]at hv
   simp at hv
   have e2:wB 8=1:=rfl
   rw[e2,sx,if_pos rfl,g0];omega
  ·have g0:=g 0 (by decide)
   have g1:=g 1 (by decide)
   have e0:(Aby 16 x.toInt).getD 0 0=u8 x.toInt:=rfl
   have e1:(Aby 16 x.toInt).getD 1 0=u8 (x.toInt/256):=rfl
   rw[Nat.add_zero,e0,Ax0]at g0
   rw[e1,Ax0]at g1
   simp only[hB]at hv
   simp at hv
   have e2:wB 16=2:=rfl
   rw[e2,sx2,g0,g1]
   split<;>omega
  ·have g0:=g 0 (by decide)
   have g1:=g 1 (by decide)
   have g2:=g 2 (by decide)
   have e0:(Aby 24 x.toInt).getD 0 0=u8 x.toInt:=rfl
   have e1:(Aby 24 x.toInt).getD 1 0=u8 (x.toInt/256):=rfl
   have e3:(Aby 24 x.toInt).getD 2 0=u8 (x.toInt/65536):=rfl
   rw[Nat.add_zero,e0,Ax0]at g0
   rw[e1,Ax0]at g1
   rw[e3,Ax0]at g2
   simp only[hB]at hv
   simp at hv
   have e2:wB 24=3:=rfl
   rw[e2,sx3,g0,g1,g2]
   split<;>omega
 rw[key];simp
theorem Bvb{bits:Int}(h:Ch bits)(l:List Int32)(hr:inR bits l):sxs (wB bits) l.length (bytesB bits l)=l:=by
 refine List.ext_getElem (By1 _ _ _) fun i h1 h2=>?_
 have:=Bzo h l hr i h2
 simp only[sxs,List.getElem_map,List.getElem_range]
 rw[this,List.getD_eq_getElem?_getD,List.getElem?_eq_getElem h2];rfl
theorem Gts.smp{b p:List UInt8}{f c w r n A:Nat}{l:List Int}{k m:Nat}{x:List Int32}{s:List UInt8}{e:Int}(hw:Ch (w:Int))(g:Gts b p f c w r n A l k m x s e):smF w (s,e)=x:=by
 have hwb:=Bg2 (w:Int)
 by_cases he:e=0
 ·obtain⟨h1,h2,h3,_⟩:=g.some' he
  have h4:=g.pos
  have h5:=Wj hw x
  rw[smF,if_neg (by simpa using he)]
  simp only
  rw[h1,h5,Nat.mul_div_cancel _ (by omega)]
  exact Bvb hw x (Asq hw (by omega) h3)
 ·rw[smF,if_pos he,(g.none' he).2]
end Go.Pl
set_option linter.unusedVariables false
set_option linter.unusedSimpArgs false
namespace Go.Pl
open Go Go.Lv
abbrev C5:=Int×Int×Int×List Int32×Int
def Be8(e:Int):C5:=(0,0,0,[],e)
theorem Bvh{seg p:List UInt8}(hs:seg.length=8)(hp:p.length≤64):Sd seg p=some (seg==leB (Adh p).toNat 8,0):=by
 rw[Sd,Bfl p hp,Aa]
 simp only
 rw[if_neg (by rw[Aj,Aj,Ac,Ac,Kw,hs];simp),Fj,Aa]
theorem Bzc(b p:List UInt8)(m c w h o q n g y ab:Int)(k v:List Int){e:Int}(he:e≠0):Js b p m c w h o q n g k e y ab v=some (Be8 e):=by
 rw[Js,Ya,if_pos (by rw[Aj];simpa using he)];rfl
theorem Bas(b p:List UInt8)(m c w h o q n g y ab:Int)(k:List Int){e:Int}(he:e≠0):Lz b p m c w h o q n g y ab k e=some (Be8 e):=by
 rw[Lz,Xa,if_pos (by rw[Aj];simpa using he)];rfl
theorem Btk(b p:List UInt8)(m c w h o q n g y ab:Int)(k:List Int):Lz b p m c w h o q n g y ab k 0=Qg b p m c w h o q n g y ab k:=by
 rw[Lz,Xa,if_neg (by rw[Aj];simp)]
def As7(X:Nat→List Int32)(E:Nat→Int)(be:Int):Nat→Nat→List Int32→List Int32×Int
 |0,_,acc=>if be≠0 then([],38)else(acc,0)
 |j+1,k,acc=>if E k≠0 then([],E k)else As7 X E be j (k+1) (acc++X k)
def Anw(c w r:Nat)(y:List Int32×Int):C5:=if y.2≠0 then Be8 y.2 else((c:Int),(w:Int),(r:Int),y.1,0)
def Bwk(b p:List UInt8)(f c w r n A:Nat)(l:List Int):C5:=
 Anw c w r (As7 (fun k=>smF w (Ku b p f c w r n A l k)) (fun k=>(Ku b p f c w r n A l k).2) (Al1 b A l) l.length 0 [])
section
variable {b p:List UInt8} {f c w r n A:Nat} {l:List Int} (o:Opn b p f c w r n A l)
include o
theorem Asv(a1 a2 a3 a4:Int):∀(j k q:Nat) (acc:List Int32),k+j=l.length→j<q→(k=l.length→(A:Int)+l.sum≤b.length)→acc.length≤4000*k→
  Mq b l (f:Int) (c:Int) (w:Int) (r:Int) (n:Int) a1 a2 a3 (A:Int) a4 (tapsOf p) (framesL (longN r) n) q ((A:Int)+(l.take k).sum) (k:Int) acc=
   some (Anw c w r (As7 (fun k=>smF w (Ku b p f c w r n A l k)) (fun k=>(Ku b p f c w r n A l k).2) (Al1 b A l) j k acc))
 |0,k,q+1,acc,hk,_,hfit,_=>by
  have hA:=o.at'
  have hfile:=o.file
  have hs1:=o.some1
  have hsum:=o.sum
  have b1:=Ed o.five l.length
  have hf:=hfit (by omega)
  obtain rfl:k=l.length:=by omega
  rw[List.take_length]at b1⊢
  rw[Mq,Za,if_neg (by rw[Af,Ac];simp),Ah4,Ap4,Ge (by omega) (by omega),Aa,Az4 _ (by rw[List.length_drop];omega),Aa,As7,Al1]
  generalize Aik (b.drop ((A:Int)+l.sum).toNat)=v
  obtain⟨v1,v2⟩:=v
  simp only
  by_cases hv:v2≠0
  ·rw[if_pos hv,if_pos (by rw[Aj];simpa using hv),Anw,if_pos (by simp)];rfl
  ·rw[if_neg hv,if_neg (by rw[Aj];simpa using hv),Anw,if_neg (by simp)]
 |j+1,k,q+1,acc,hk,hq,hfit,hacc=>by
  have hA:=o.at'
  have hfile:=o.file
  have hs1:=o.some1
  have hsum:=o.sum
  have b1:=Ed o.five k
  have b2:=Ed o.five (k+1)
  have hkl:k<l.length:=by omega
  have e2:=Iz hkl
  have h5:=o.five l[k] (List.getElem_mem _)
  obtain⟨m,x,s,e,g⟩:=Af2 o k hkl
  obtain⟨hc,hw,hr,hn,_⟩:=Ha o.shape
  have hl:=g.lens hw
  rw[Mq,Za,if_pos (by rw[Af,Ac];simp;omega),Ca hkl,Aa,Aa,Ag (a:=(A:Int)+(l.take k).sum) (by omega) (by omega),Int.add_assoc,←e2,Ac,As7,g.eq]
  simp only
  rcases g.way with⟨h1,h2⟩|⟨h1,h2,_⟩
  ·rw[if_pos (by rw[Af,decide_eq_true_eq];omega),if_pos (by rw[h2];simp),h2,Anw,if_pos (by simp)];rfl
  ·rw[if_neg (by rw[Af,decide_eq_true_eq];omega),g.mom]
   simp only[Aa]
   rw[Oo (by omega) (by omega) (by omega),Aa,show(b.take ((A:Int)+(l.take (k+1)).sum).toNat).drop ((A:Int)+(l.take k).sum).toNat=segF b A l k from rfl,h2,Aa]
   simp only
   rw[Agd,Arq]
   by_cases he:e≠0
   ·rw[if_pos (by rw[Aj];simpa using he),if_pos he,Anw,if_pos he];rfl
   ·have he0:e=0:=by simpa using he
    have hfit2:=(g.some' he0).2.2.2.2
    rw[if_neg (by rw[Aj];simpa using he),if_neg he,g.smp hw,Fc (by omega),Aa,Ag (a:=(A:Int)+(l.take k).sum) (by omega) (by omega),Int.add_assoc,←e2,Ag (by omega) (by omega)]
    exact Asv a1 a2 a3 a4 j (k+1) q (acc++x) (by omega) (by omega) (fun h=>by rw[h,List.take_length]at hfit2;exact hfit2) (by rw[List.length_append];omega)
theorem Atg:∀(j k q:Nat) (acc:List Int32),k+j=l.length→j<q→(k=l.length→(A:Int)+l.sum≤b.length)→acc.length≤4000*k→
  Hq b (f:Int) (c:Int) (w:Int) (r:Int) (n:Int) l (framesL (longN r) n) (tapsOf p) q ((A:Int)+(l.take k).sum) (k:Int) acc=
   some (Anw c w r (As7 (fun k=>smF w (Ku b p f c w r n A l k)) (fun k=>(Ku b p f c w r n A l k).2) (Al1 b A l) j k acc))
 |0,k,q+1,acc,hk,_,hfit,_=>by
  have hA:=o.at'
  have hfile:=o.file
  have hs1:=o.some1
  have hsum:=o.sum
  have b1:=Ed o.five l.length
  have hf:=hfit (by omega)
  obtain rfl:k=l.length:=by omega
  rw[List.take_length]at b1⊢
  rw[Hq,Rl,if_neg (by rw[Af,Ac];simp),Aaf,Aaz,Ge (by omega) (by omega),Aa,Bop _ (by rw[List.length_drop];omega),Aa,As7,Al1]
  generalize Aik (b.drop ((A:Int)+l.sum).toNat)=v
  obtain⟨v1,v2⟩:=v
  simp only
  by_cases hv:v2≠0
  ·rw[if_pos hv,if_pos (by rw[Aj];simpa using hv),Anw,if_pos (by simp)];rfl
  ·rw[if_neg hv,if_neg (by rw[Aj];simpa using hv),Anw,if_neg (by simp)]
 |j+1,k,q+1,acc,hk,hq,hfit,hacc=>by
  have hA:=o.at'
  have hfile:=o.file
  have hs1:=o.some1
  have hsum:=o.sum
  have b1:=Ed o.five k
  have b2:=Ed o.five (k+1)
  have hkl:k<l.length:=by omega
  have e2:=Iz hkl
  have h5:=o.five l[k] (List.getElem_mem _)
  obtain⟨m,x,s,e,g⟩:=Af2 o k hkl
  obtain⟨hc,hw,hr,hn,_⟩:=Ha o.shape
  have hl:=g.lens hw
  rw[Hq,Rl,if_pos (by rw[Af,Ac];simp;omega),Ca hkl,Aa,Aa,Ac,Bi (by omega) (by omega),As7,g.eq]
  simp only
  rcases g.way with⟨h1,h2⟩|⟨h1,_,h2⟩
  ·rw[if_pos (by rw[Af,decide_eq_true_eq];omega),if_pos (by rw[h2];simp),h2,Anw,if_pos (by simp)];rfl
  ·rw[if_neg (by rw[Af,decide_eq_true_eq];omega),g.mom]
   simp only[Aa]
   rw[Ag (a:=(A:Int)+(l.take k).sum) (by omega) (by omega),Int.add_assoc,←e2,Oo (by omega) (by omega) (by omega),Aa,show(b.take ((A:Int)+(l.take (k+1)).sum).toNat).drop ((A:Int)+(l.take k).sum).toNat=segF b A l k from rfl,h2,Aa]
   simp only
   rw[Aa7,Aaj]
   by_cases he:e≠0
   ·rw[if_pos (by rw[Aj];simpa using he),if_pos he,Anw,if_pos he];rfl
   ·have he0:e=0:=by simpa using he
    have hfit2:=(g.some' he0).2.2.2.2
    rw[if_neg (by rw[Aj];simpa using he),if_neg he,g.smp hw,Fc (by omega),Aa,Ca hkl,Aa,Aa,Ag (a:=(A:Int)+(l.take k).sum) (by omega) (by omega),Int.add_assoc,←e2,Ag (by omega) (by omega)]
    exact Atg j (k+1) q (acc++x) (by omega) (by omega) (fun h=>by rw[h,List.take_length]at hfit2;exact hfit2) (by rw[List.length_append];omega)
end
theorem Bgb(l:List Int)(b p:List UInt8)(m c w h o q n g:Int)(k:List Int)(hl:l.length≤1000)(h5:∀x∈l,5≤x)(A:Int)(hA:0≤A)(hb:A+l.sum≤1000000):∀(j i z:Nat),i+j=l.length→j<z→Mh l b p m c w h o q n g k z (i:Int) (A+(l.take i).sum)=Zg b p l m c w h o q n g (A+l.sum) k
 |0,i,z+1,hi,_=>by
  rw[Mh,Yi,if_neg (by rw[Af,Ac];simp;omega),show i=l.length by omega,List.take_length]
 |j+1,i,z+1,hi,hz=>by
  have hlt:i<l.length:=by omega
  have b1:=Ed h5 i
  have b2:=Ed h5 (i+1)
  have e:=Iz hlt
  have ih:=Bgb l b p m c w h o q n g k hl h5 A hA hb j (i+1) z (by omega) (by omega)
  rw[e,←Int.add_assoc]at ih
  rw[Mh,Yi,if_pos (by rw[Af,Ac];simp;omega),Ca hlt,Aa,Aa,Ag (by omega) (by omega),Ag (by omega) (by omega)]
  exact ih
theorem Bnx(b p:List UInt8)(hb:b.length≤100100)(hp:p.length≤64):
  (∃e:Int,e≠0∧seekto_Open b p=some (Aro e)∧Nf b p=some (Be8 e)∧Fs b p=some (Be8 e))∨
  (∃f c w r n T:Nat,∃q d:Int,T≤b.length∧b.length≤100000∧shapeB f c w r n=true∧fitB c r n=true∧
   seekto_Open b p=Lw b (f:Int) (c:Int) (w:Int) (r:Int) (n:Int) (T:Int)∧
   Nf b p=Qg b p (f:Int) (c:Int) (w:Int) (r:Int) (n:Int) q d (T:Int) 0 0 (framesL (longN r) n)∧
   Fs b p=(Uw b (T:Int) (f:Int) (c:Int) (w:Int) (r:Int) (n:Int)).bind fun(h,ae)=>if Bb ae 0=true then some (Be8 ae)else(Cg (r:Int) (n:Int)).bind fun p2=>(La p).bind fun(u,ap)=>Ac1 b (f:Int) (c:Int) (w:Int) (r:Int) (n:Int) h p2 u (Ad (T:Int) (Ad (Ax 4 (Ac h)) 4)) 0 []):=by
 have hO:seekto_Open b p=seekto_Open b p:=rfl
 have hV:Nf b p=Nf b p:=rfl
 have hR:Fs b p=Fs b p:=rfl
 conv at hO=>rhs;rw[seekto_Open,Qv,if_neg (by rw[Aq,Ac];simp;omega)]
 conv at hV=>rhs;rw[Nf,Ajz,if_neg (by rw[Aq,Ac];simp;omega),Aq0]
 conv at hR=>rhs;rw[Fs,Adi,if_neg (by rw[Aq,Ac];simp;omega),Af8]
 by_cases h1:100000<b.length
 ·rw[if_pos (by rw[Aq,Ac];simp;omega)]at hO hV hR
  refine .inl ⟨4,by omega,hO,?_,?_⟩
  ·rw[hV,Aa];rfl
  ·rw[hR,Aa];rfl
 rw[if_neg (by rw[Aq,Ac];simp;omega)]at hO hV hR
 rw[Apw b (by omega),Aa]at hO hV
 rw[Awl b (by omega),Aa]at hR
 by_cases h2:(frontS b).2=0
 ·obtain⟨p0,p1,p2⟩:=Bgu h2
  have hc:=Ge (l:=b) p0 p1
  simp only[h2]at hO hV hR
  rw[if_neg (by rw[Aj];simp),hc,Aa,show b.drop (frontS b).1.toNat=hdr b from rfl]at hO hV hR
  rw[Bfk _ (by simp[hdr];omega),Aa]at hO hV
  rw[Bl1 _ (by simp[hdr];omega),Aa]at hR
  by_cases h3:(readS (hdr b)).2.2.2.2.2=0
  ·obtain⟨g1,g2,g3,g4⟩:=Bk6 h3
   have hlen:(hdr b).length=b.length-(frontS b).1.toNat:=by simp[hdr]
   generalize hF:(frontS b).1.toNat=F at*
   have hF':(frontS b).1=(F:Int):=by omega
   rw[g1,hF']at hO hV hR
   simp only at hO hV hR
   generalize f0 (hdr b)=f at*
   generalize f1 (hdr b)=c at*
   generalize f2 (hdr b)=w at*
   generalize f3 (hdr b)=r at*
   generalize f4 (hdr b)=n at*
   have t22:Ad (F:Int) 22=((F+22:Nat):Int):=by rw[Ag (by omega) (by omega)];omega
   have t30:Ad ((F+22:Nat):Int) 8=((F+30:Nat):Int):=by rw[Ag (by omega) (by omega)];omega
   have hf12:f=1∨f=2:=by simp only[shapeB,decide_eq_true_eq]at g3;omega
   rw[if_neg (by rw[Aj];simp),t22,t30]at hO
   rw[if_neg (by rw[Aj];simp),Ap3 g3 g4,Aa,t22,t30]at hV
   rw[Aa]at hR
   simp only at hV hR
   rw[if_neg (by rw[Aj];simp),t22,Ae5,t30]at hR
   by_cases hpass:((p==([]:List UInt8)) !=(geq (f:Int) (1:Int)))=true
   ·rw[if_pos hpass]at hO hR
    refine .inl ⟨26,by omega,hO,?_,?_⟩
    ·rw[hV]
     by_cases h5:f=2
     ·rw[if_pos (by rw[Bp,h5];rfl),Aa]
      simp only
      rw[if_neg (by rw[Aj];simp),if_pos hpass,Bas _ _ _ _ _ _ _ _ _ _ _ _ _ (by omega)]
     ·rw[if_neg (by rw[Bp];simp;omega),Aa]
      simp only
      rw[if_neg (by rw[Aj];simp),if_pos hpass,Bas _ _ _ _ _ _ _ _ _ _ _ _ _ (by omega)]
    ·rw[hR,Aa];rfl
   ·rw[if_neg hpass]at hO hR
    have hpf:(p=[]↔f=1):=by
     rw[Bp]at hpass
     have h5:(p==([]:List UInt8))=((f:Int)==1):=by simpa using hpass
     have h6:(p==([]:List UInt8))=true↔((f:Int)==1)=true:=by rw[h5]
     rw[beq_iff_eq,beq_iff_eq]at h6
     rw[h6];omega
    by_cases h5:f=2
    ·have hpne:p≠ []:=fun e=>by have:=hpf.1 e;omega
     rw[if_pos (by rw[Bp,h5];rfl),Aa]at hV
     simp only at hV
     rw[if_neg (by rw[Aj];simp),if_neg hpass,if_neg (by rw[Bp];simp;omega)]at hV
     rw[if_pos (by simpa using hpne)]at hO
     rw[if_neg (by simpa using hpne)]at hR
     by_cases h6:b.length<F+30
     ·rw[if_pos (by rw[Af,Ac];simp;omega)]at hO hV hR
      refine .inl ⟨24,by omega,hO,?_,?_⟩
      ·rw[hV,Bas _ _ _ _ _ _ _ _ _ _ _ _ _ (by omega)]
      ·rw[hR,Aa];rfl
     ·have hseg:((b.take (F+30)).drop (F+22)).length=8:=by simp;omega
      rw[if_neg (by rw[Af,Ac];simp;omega),Oo (by omega) (by omega) (by omega),Aa,show((F+30:Nat):Int).toNat=F+30 from rfl,show((F+22:Nat):Int).toNat=F+22 from rfl]at hO hV hR
      rw[Bvh hseg hp,Aa]at hO hV
      rw[Bgz p hp,Aa]at hR
      simp only at hO hV
      rw[if_neg (by rw[Aj];simp)]at hO
      generalize(b.take (F+30)).drop (F+22)=seg at*
      by_cases h7:seg=leB (Adh p).toNat 8
      ·rw[if_neg (by simp[h7])]at hO hV
       rw[if_neg (by simp[h7]),Aa]at hR
       simp only at hR
       rw[if_neg (by rw[Aj];simp)]at hR
       rw[Btk]at hV
       exact .inr ⟨f,c,w,r,n,F+30,(F:Int),((F+22:Nat):Int),by omega,by omega,g3,g4,hO,hV,hR⟩
      ·rw[if_pos (by simpa using h7)]at hO hV
       rw[if_pos (by simpa using h7)]at hR
       refine .inl ⟨26,by omega,hO,?_,?_⟩
       ·rw[hV,Bas _ _ _ _ _ _ _ _ _ _ _ _ _ (by omega)]
       ·rw[hR,Aa];rfl
    ·have hpe:p=[]:=hpf.2 (by omega)
     rw[if_neg (by rw[Bp];simp;omega),Aa]at hV
     simp only at hV
     rw[if_neg (by rw[Aj];simp),if_neg hpass,if_pos (by rw[Bp];simp;omega),Btk]at hV
     rw[if_neg (by rw[hpe];simp)]at hO
     rw[if_pos (by rw[hpe];rfl),Aa]at hR
     simp only at hR
     rw[if_neg (by rw[Aj];simp)]at hR
     exact .inr ⟨f,c,w,r,n,F+22,(F:Int),((F+22:Nat):Int),by omega,by omega,g3,g4,hO,hV,hR⟩
  ·generalize readS (hdr b)=v at*
   obtain⟨v1,v2,v3,v4,v5,v6⟩:=v
   simp only at h3 hO hV hR
   rw[if_pos (by rw[Aj];simpa using h3)]at hO hV
   refine .inl ⟨v6,h3,hO,?_,?_⟩
   ·rw[hV,Aa]
    simp only
    rw[if_pos (by rw[Aj];simpa using h3)];rfl
   ·rw[hR,Aa]
    simp only
    rw[if_pos (by rw[Aj];simpa using h3)];rfl
 ·generalize frontS b=v at*
  obtain⟨v,e⟩:=v
  simp only at h2 hO hV hR
  rw[if_pos (by rw[Aj];simpa using h2)]at hO hV hR
  refine .inl ⟨e,h2,hO,?_,?_⟩
  ·rw[hV,Aa]
   simp only
   rw[if_pos (by rw[Aj];simpa using h2)];rfl
  ·rw[hR,Aa]
   simp only
   rw[if_pos (by rw[Aj];simpa using h2)];rfl
theorem By3(b p:List UInt8)(hb:b.length≤100100)(hp:p.length≤64):
  (∃e:Int,e≠0∧seekto_Open b p=some (Aro e)∧cadenzaref40_Opened b p=some (Aro e)∧Nf b p=some (Be8 e)∧Fs b p=some (Be8 e))∨
  (∃f c w r n A l,Opn b p f c w r n A l∧Nf b p=some (Bwk b p f c w r n A l)∧Fs b p=some (Bwk b p f c w r n A l)):=by
 have hbadI:∀{e e2:Int},Aro e=Aro e2→e=e2:=fun h=>by simpa [Aro]using h
 rcases Bnx b p hb hp with⟨e,he,h1,h2,h3⟩|⟨f,c,w,r,n,T,q,d,hT,hfile,g3,g4,hO,hV,hR⟩
 ·rcases Bih b p hb hp with⟨e',he',k1,k2⟩|⟨f,c,w,r,n,A,l,o⟩
  ·rw[h1]at k1
   have:=hbadI (Option.some.inj k1)
   subst this
   exact .inl ⟨e,he,h1,k2,h2,h3⟩
  ·have:=o.prog
   rw[h1]at this
   have:=Option.some.inj this
   simp only[Aro,Prod.mk.injEq]at this
   exact absurd this.2.2.2.2.2.2.2 he
 ·obtain⟨hc,hw,hr,hn,_⟩:=Ha g3
  have hfit:n≤4000/c:=by simp only[fitB,decide_eq_true_eq]at g4;exact g4.1
  have hn4:n≤4000:=by have:=Nat.div_le_self 4000 c;omega
  rw[Bfq g3 g4 b hb T hT]at hO
  have hcut:=Ge (l:=b) (a:=(T:Int)) (by omega) (by omega)
  rw[Int.toNat_natCast]at hcut
  have hdl:(b.drop T).length≤100100:=by simp;omega
  rw[Qg,Ag4,if_neg (by rw[Af,Ac];simp;omega),hcut,Aa,Ac,Bgv _ _ hdl,Aa]at hV
  rw[Uw,hcut,Aa,Aq7 hr.2 hn hn4,Aa,Ac,Bml _ _ hdl,Aa,Aa]at hR
  by_cases h:(seekS (b.drop T) (framesL (longN r) n).length).2≠0
  ·rw[if_pos h]at hO
   generalize seekS (b.drop T) (framesL (longN r) n).length=v at*
   obtain⟨v1,v2⟩:=v
   simp only at h hO hV hR
   rcases Bih b p hb hp with⟨e',he',k1,k2⟩|⟨f,c,w,r,n,A,l,o⟩
   ·rw[hO]at k1
    have:=hbadI (Option.some.inj k1)
    subst this
    refine .inl ⟨_,h,hO,k2,?_,?_⟩
    ·rw[hV,Xc,Zr,if_pos (by rw[Aj];simpa using h),Bzc _ _ _ _ _ _ _ _ _ _ _ _ _ _ h]
    ·rw[hR,if_pos (by rw[Aj];simpa using h)]
   ·have:=o.prog
    rw[hO]at this
    have:=Option.some.inj this
    simp only[Aro,Prod.mk.injEq]at this
    exact absurd this.2.2.2.2.2.2.2 h
  ·have h0:(seekS (b.drop T) (framesL (longN r) n).length).2=0:=by simpa using h
   rw[if_neg h]at hO
   generalize hsv:seekS (b.drop T) (framesL (longN r) n).length=v at*
   obtain⟨v1,v2⟩:=v
   simp only at h0 hO hV hR
   subst h0
   rcases Bih b p hb hp with⟨e',he',k1,k2⟩|⟨f',c',w',r',n',A,l,o⟩
   ·rw[hO]at k1
    have:=Option.some.inj k1
    simp only[Aro,Prod.mk.injEq]at this
    exact absurd this.2.2.2.2.2.2.2.symm he'
   ·have hp2:=o.prog
    rw[hO]at hp2
    have hp3:=Option.some.inj hp2
    simp only[Prod.mk.injEq]at hp3
    obtain⟨i1,i2,i3,i4,i5,i6,i7,_⟩:=hp3
    obtain rfl:f=f':=by omega
    obtain rfl:c=c':=by omega
    obtain rfl:w=w':=by omega
    obtain rfl:r=r':=by omega
    obtain rfl:n=n':=by omega
    subst i7
    have hlen:=o.len
    have hs1:=o.some1
    have hsum:=o.sum
    have hA:=o.at'
    have hAT:(A:Int)=(T:Int)+4*(v1.length:Int)+4:=by omega
    have a1:Ax 4 (v1.length:Int)=4*(v1.length:Int):=Fm (by omega) (by omega)
    have eV:Ad (Ad (T:Int) (Ax 4 (Ac v1))) 4=(A:Int):=by
     rw[Ac,a1,Ag (a:=(T:Int)) (by omega) (by omega),Ag (by omega) (by omega)];omega
    have eR:Ad (T:Int) (Ad (Ax 4 (Ac v1)) 4)=(A:Int):=by
     rw[Ac,a1,Ag (a:=4*(v1.length:Int)) (by omega) (by omega),Ag (by omega) (by omega)];omega
    have hlv:=Asv o q d (T:Int) ((A:Int)+v1.sum) v1.length 0 Am [] (by omega) (by have:=Al;omega) (by omega) (by simp)
    have hlr:=Atg o v1.length 0 Am [] (by omega) (by have:=Al;omega) (by omega) (by simp)
    rw[List.take_zero,List.sum_nil,Int.add_zero]at hlv hlr
    refine .inr ⟨f,c,w,r,n,A,v1,o,?_,?_⟩
    ·have hs:=Bgb v1 b p (f:Int) (c:Int) (w:Int) (r:Int) (n:Int) q d (T:Int) (framesL (longN r) n) hs1.2 o.five (A:Int) (by omega) (by omega) v1.length 0 Am (by omega) (by have:=Al;omega)
     rw[List.take_zero,List.sum_nil,Int.add_zero]at hs
     rw[hV,Xc,Zr,if_neg (by rw[Aj];simp),Ahd,eV]
     refine Eq.trans hs ?_
     rw[Zg,Ag2,eV,Js,Ya,if_neg (by rw[Aj];simp),Bft p o.pass,Aa]
     exact hlv
    ·rw[hR,if_neg (by rw[Aj];simp),Aa,Bjm p o.pass,Aa,eR]
     exact hlr
end Go.Pl
set_option linter.unusedVariables false
set_option linter.unusedSimpArgs false
namespace Go.Pl
open Go Go.Lv
def Cd6(b:List UInt8):List Int:=framesL (longN (f3 (hdr b))) (f4 (hdr b))
end Go.Pl
set_option linter.unusedVariables false
set_option linter.unusedSimpArgs false
namespace Go.Pl
open Go Go.Lv
end Go.Pl
set_option linter.unusedVariables false
set_option linter.unusedSimpArgs false
namespace Go.Pl
open Go Go.Lv
end Go.Pl
set_option linter.unusedVariables false
set_option linter.unusedSimpArgs false
namespace Go.Pl
open Go Go.Lv
end Go.Pl
set_option linter.unusedVariables false
set_option linter.unusedSimpArgs false
namespace Go.Pl
open Go Go.Lv
theorem Bg5(g:Nat):∀K:Nat,(List.replicate K (g:Int)).sum=((K*g:Nat):Int)
 |0=>by simp
 |K+1=>by
  rw[List.replicate_succ,List.sum_cons,Bg5 g K,Nat.succ_mul];omega
theorem Azd{g n:Nat}(hn:1≤n):(framesL g n).sum=(n:Int):=by
 have h:=Nat.div_mul_le_self (n-1) g
 rw[framesL,List.sum_append,Bg5]
 simp only[List.sum_cons,List.sum_nil]
 omega
theorem Bm0:∀{l:List Int},(∀x∈l,0≤x)→0≤l.sum
 |[],_=>by simp
 |x::l,h=>by
  have h1:=h x List.mem_cons_self
  have h2:=Bm0 (l:=l) fun y hy=>h y (List.mem_cons_of_mem _ hy)
  rw[List.sum_cons];omega
theorem Bxy{l:List Int}(h:∀x∈l,0≤x)(i:Nat):0≤(l.take i).sum∧(l.take i).sum≤l.sum:=by
 have h1:=Bm0 (l:=l.take i) fun x hx=>h x (List.mem_of_mem_take hx)
 have h2:=Bm0 (l:=l.drop i) fun x hx=>h x (List.mem_of_mem_drop hx)
 have:=Bgf l i
 omega
def Aa2(c w:Nat)(fr:List Int)(k:Nat):Int:=(((fr.take k).sum.toNat*(c*wB (w:Int)):Nat):Int)
section
variable {f c w r n:Nat} (h1:shapeB f c w r n=true) (h2:fitB c r n=true)
include h1 h2
theorem Bbl:(∀x∈framesL (longN r) n,0≤x)∧(framesL (longN r) n).sum=(n:Int)∧n≤4000:=by
 obtain⟨hc,hw,hr,hn,_⟩:=Ha h1
 have hfit:n≤4000/c:=by simp only[fitB,decide_eq_true_eq]at h2;exact h2.1
 have hn4:n≤4000:=by have:=Nat.div_le_self 4000 c;omega
 refine⟨fun x hx=>?_,Azd hn,hn4⟩
 obtain⟨m,rfl,_⟩:=Bdt (Sc r) hn hx
 omega
end
theorem Bmx(C W:Nat)(fr:List Int):Aa2 C W fr 0=0:=by rw[Aa2,List.take_zero,List.sum_nil];simp
theorem Boi(C W:Nat){fr:List Int}(hp:∀z∈fr,0≤z){A m:Nat}(hA:A<fr.length)(hm:fr[A]=(m:Int)):Aa2 C W fr (A+1)=Aa2 C W fr A+((m*C*wB (W:Int):Nat):Int):=by
 have hs:0≤(fr.take A).sum:=by
  have:∀l:List Int,(∀z∈l,0≤z)→0≤l.sum:=by
   intro l
   induction l with
   |nil=>intro _;simp
   |cons a l ih=>intro h;rw[List.sum_cons];have:=h a (by simp);have:=ih (fun z hz=>h z (by simp[hz]));omega
  exact this _ fun z hz=>hp z (List.mem_of_mem_take hz)
 have e:(fr.take (A+1)).sum=(fr.take A).sum+m:=by rw[Aft hA,List.sum_append,List.sum_cons,List.sum_nil,hm];omega
 rw[Aa2,Aa2,e]
 have:((fr.take A).sum+(m:Int)).toNat=(fr.take A).sum.toNat+m:=by omega
 rw[this,Nat.add_mul,Nat.mul_assoc m]
 omega
end Go.Pl
set_option linter.unusedVariables false
set_option linter.unusedSimpArgs false
namespace Go.Pl
open Go Go.Lv
theorem Bss{bits:Int}(h:Ch bits){l:List Int32}(hl:l.length≤4000)(hr:inR bits l):cadenzaref18_Check bits l=some 0:=by
 have hh:=Aya bits
 have key:∀(j i q:Nat),i+j=l.length→j<q→Ba l (hB bits) q (i:Int)=some 0:=by
  intro j
  induction j with
  |zero=>
   intro i q hi hq
   obtain⟨q,rfl⟩:∃k,q=k+1:=⟨q-1,by omega⟩
   rw[Ba,Cl,if_neg (by rw[Af,Ac];simp;omega)];rfl
  |succ j ih=>
   intro i q hi hq
   obtain⟨q,rfl⟩:∃k,q=k+1:=⟨q-1,by omega⟩
   have hx:=hr l[i] (List.getElem_mem (by omega))
   rw[Ba,Cl,if_pos (by rw[Af,Ac];simp;omega),Ca (by omega),Aa,Aa,Df,Bhv,Bm (by omega) (by omega),Ag (by omega) (by omega),Af,Ce,if_neg (by simp;omega),if_neg (by simp;omega)]
   exact ih (i+1) q (by omega) (by omega)
 rw[cadenzaref18_Check,Gy,Bda h,Aa,if_neg (by rw[Bp];simp;omega),if_neg (by rw[Aq,Ac];simp;omega)]
 exact key l.length 0 Am (by omega) (by have:=Al;omega)
theorem Bn7(bits:Int)(a b:List Int32):bytesB bits (a++b)=bytesB bits a++bytesB bits b:=by unfold bytesB;rw[List.flatMap_append]
def Nw{α:Type}(G:Nat→List α):Nat→Nat→List α
 |0,_=>[]
 |j+1,k=>G k++Nw G j (k+1)
theorem Beh{α:Type}(G:Nat→List α):∀(i j k:Nat),Nw G (i+j) k=Nw G i k++Nw G j (k+i)
 |0,j,k=>by simp[Nw]
 |i+1,j,k=>by
  rw[show i+1+j=(i+j)+1 by omega,Nw,Nw,Beh G i j (k+1),List.append_assoc,show k+1+i=k+(i+1) by omega]
theorem Brh{α:Type}(G:Nat→List α)(i k:Nat):Nw G (i+1) k=Nw G i k++G (k+i):=by
 rw[Beh G i 1 k];simp[Nw]
theorem Bjf(w:Nat)(G:Nat→List UInt8×Int)(be:Int):∀(j k:Nat) (acc:List UInt8) (acc2:List Int32),(Qz G be j k acc).2=(As7 (fun k=>smF w (G k)) (fun k=>(G k).2) be j k acc2).2
 |0,k,acc,acc2=>by
  rw[Qz,As7]
  split<;>rfl
 |j+1,k,acc,acc2=>by
  rw[Qz,As7]
  split
  ·rfl
  ·exact Bjf w G be j (k+1) _ _
theorem Bl0(X:Nat→List Int32)(E:Nat→Int)(be:Int):∀(j k:Nat) (acc:List Int32),(As7 X E be j k acc).2=0→be=0∧(∀i,k≤i→i<k+j→E i=0)∧(As7 X E be j k acc).1=acc++Nw X j k
 |0,k,acc,h=>by
  rw[As7]at h⊢
  by_cases hb:be≠0
  ·rw[if_pos hb]at h;cases h
  ·rw[if_neg hb];exact⟨by simpa using hb,fun i h1 h2=>by omega,by simp[Nw]⟩
 |j+1,k,acc,h=>by
  rw[As7]at h⊢
  by_cases hb:E k≠0
  ·rw[if_pos hb]at h;exact absurd h hb
  ·rw[if_neg hb]at h⊢
   obtain⟨h1,h2,h3⟩:=Bl0 X E be j (k+1) _ h
   refine⟨h1,fun i i1 i2=>?_,?_⟩
   ·by_cases hi:i=k
    ·subst hi;simpa using hb
    ·exact h2 i (by omega) (by omega)
   ·rw[h3,Nw,List.append_assoc]
theorem Axe(G:Nat→List UInt8×Int):∀(j k:Nat) (acc:List UInt8),(∀i,k≤i→i<k+j→(G i).2=0)→Qz G 0 j k acc=(acc++Nw (fun i=>(G i).1) j k,0)
 |0,k,acc,h=>by
  rw[Qz,if_neg (by simp),Nw];simp
 |j+1,k,acc,h=>by
  rw[Qz,if_neg (by rw[h k (by omega) (by omega)];simp),Axe G j (k+1) _ fun i h1 h2=>h i (by omega) (by omega),Nw,List.append_assoc]
section
variable {b p:List UInt8} {f c w r n A:Nat} {l:List Int} (o:Opn b p f c w r n A l) (hE:∀i,i<l.length→(Ku b p f c w r n A l i).2=0)
include o hE
theorem Bao(i:Nat)(hi:i<l.length):∃m:Nat,getI (framesL (longN r) n) (i:Int)=some (m:Int)∧1≤m∧(Ku b p f c w r n A l i).1=bytesB (w:Int) (smF w (Ku b p f c w r n A l i))∧(smF w (Ku b p f c w r n A l i)).length=m*c∧inR (w:Int) (smF w (Ku b p f c w r n A l i)):=by
 have hw:=(Ha o.shape).2.1
 obtain⟨m,x,s,e,g⟩:=Af2 o i hi
 have h0:=hE i hi
 have hsm:=g.smp hw
 have hl:=g.lens hw
 rw[g.eq]at h0⊢
 rw[hsm]
 obtain⟨h1,h2,h3,_⟩:=g.some' h0
 exact⟨m,g.mom,g.pos.1,h1,h2,Asq hw (by omega) h3⟩
theorem Ak5:∀(j k:Nat),k+j≤l.length→bytesB (w:Int) (Nw (fun i=>smF w (Ku b p f c w r n A l i)) j k)=Nw (fun i=>(Ku b p f c w r n A l i).1) j k
 |0,k,_=>rfl
 |j+1,k,h=>by
  obtain⟨m,_,_,h1,_⟩:=Bao o hE k (by omega)
  rw[Nw,Nw,Bn7,Ak5 j (k+1) (by omega),←h1]
theorem Bpr:∀(j k:Nat),k+j≤l.length→inR (w:Int) (Nw (fun i=>smF w (Ku b p f c w r n A l i)) j k)
 |0,k,_=>fun x hx=>by simp[Nw]at hx
 |j+1,k,h=>by
  obtain⟨m,_,_,_,_,h1⟩:=Bao o hE k (by omega)
  intro x hx
  rw[Nw,List.mem_append]at hx
  rcases hx with hx|hx
  ·exact h1 x hx
  ·exact Bpr j (k+1) (by omega) x hx
theorem Bhz:∀(j:Nat),j≤l.length→(Nw (fun i=>smF w (Ku b p f c w r n A l i)) j 0).length=((framesL (longN r) n).take j).sum.toNat*c
 |0,_=>by simp[Nw]
 |j+1,h=>by
  obtain⟨m,h0,_,_,h1,_⟩:=Bao o hE j (by omega)
  have hlen:=o.len
  have hlt:j<(framesL (longN r) n).length:=by omega
  rw[Ca hlt]at h0
  have h0':=Option.some.inj h0
  obtain⟨g1,g2,g3⟩:=Bbl o.shape o.fit
  have b:=Bxy g1 j
  rw[Brh,List.length_append,Bhz j (by omega),Nat.zero_add,h1,Iz hlt,h0']
  rw[show(((framesL (longN r) n).take j).sum+(m:Int)).toNat=((framesL (longN r) n).take j).sum.toNat+m by omega,Nat.add_mul]
theorem Bjx(j:Nat)(h:j≤l.length):((Nw (fun i=>(Ku b p f c w r n A l i).1) j 0).length:Int)=Aa2 c w (framesL (longN r) n) j:=by
 rw[←Ak5 o hE j 0 (by omega),Wj (Ha o.shape).2.1,Bhz o hE j h,Aa2,Nat.mul_assoc]
theorem Ax8:(Nw (fun i=>smF w (Ku b p f c w r n A l i)) l.length 0).length=n*c:=by
 have hn:=(Ha o.shape).2.2.2.1
 rw[Bhz o hE l.length (Nat.le_refl _),o.len,List.take_length,Azd hn]
 simp
theorem Bst:width_Bytes (w:Int) (Nw (fun i=>smF w (Ku b p f c w r n A l i)) l.length 0)=some (Nw (fun i=>(Ku b p f c w r n A l i).1) l.length 0,0):=by
 have hw:=(Ha o.shape).2.1
 have hfit:n≤4000/c:=by have:=o.fit;simp only[fitB,decide_eq_true_eq]at this;exact this.1
 have hN:n*c≤4000:=by
  have h1:=Nat.mul_le_mul_right c hfit
  have h2:=Nat.div_mul_le_self 4000 c
  omega
 have ht:=Ax8 o hE
 rw[Bd5 hw (by omega) (Bss hw (by omega) (Bpr o hE l.length 0 (by omega))),Ak5 o hE l.length 0 (by omega)]
end
end Go.Pl
set_option linter.unusedVariables false
namespace Go.Pl
open Go Go.Lv
theorem By2:Nl=some true:=by kernel_rfl
end Go.Pl
set_option linter.unusedVariables false
set_option linter.unusedSimpArgs false
namespace Go.Pl
open Go Go.Lv
section
variable {b p:List UInt8} {f c w r n A:Nat} {l:List Int} (o:Opn b p f c w r n A l) (hE:∀i,i<l.length→(Ku b p f c w r n A l i).2=0)
abbrev Ao6(b p:List UInt8)(f c w r n A:Nat)(l:List Int)(j k:Nat):List UInt8:=Nw (fun i=>(Ku b p f c w r n A l i).1) j k
include o hE
theorem Asp(k:Nat)(hk:k≤l.length):Ao6 b p f c w r n A l (l.length-k) k=(Ao6 b p f c w r n A l l.length 0).drop (Aa2 c w (framesL (longN r) n) k).toNat∧0≤Aa2 c w (framesL (longN r) n) k∧Aa2 c w (framesL (longN r) n) k≤(Ao6 b p f c w r n A l l.length 0).length:=by
 have h1:=Bjx o hE k hk
 have h2:=Beh (fun i=>(Ku b p f c w r n A l i).1) k (l.length-k) 0
 rw[show k+(l.length-k)=l.length by omega,Nat.zero_add]at h2
 have h3:(Aa2 c w (framesL (longN r) n) k).toNat=(Nw (fun i=>(Ku b p f c w r n A l i).1) k 0).length:=by omega
 refine⟨?_,by omega,?_⟩
 ·rw[h3,Ao6,Ao6,h2,List.drop_left]
 ·rw[Ao6,h2,List.length_append];omega
theorem Bzi(k:Nat)(hk:k<l.length):Ao6 b p f c w r n A l (l.length-k) k≠ []:=by
 obtain⟨m,x,s,e,g⟩:=Af2 o k hk
 have hw:=(Ha o.shape).2.1
 have hc:=(Ha o.shape).1
 have h0:=hE k hk
 have hl:=g.lens hw
 rw[g.eq]at h0
 have h4:=hl.2.2 h0
 have h5:=g.pos
 have h6:=Bg2 (w:Int)
 have h7:1≤m*c*wB (w:Int):=Nat.mul_pos (Nat.mul_pos (by omega) (by omega)) (by omega)
 intro he
 rw[Ao6,show l.length-k=(l.length-k-1)+1 by omega,Nw,g.eq]at he
 have:=congrArg List.length he
 simp only[List.length_append,List.length_nil]at this
 omega
theorem Bua(hbe:Al1 b A l=0)(k:Nat)(hk:k<l.length):Fk b p (k:Int)=some (Ao6 b p f c w r n A l (l.length-k) k,0):=by
 rw[Ayh o,if_neg (by omega),Int.toNat_natCast,hbe,Axe _ _ _ _ fun i h1 h2=>hE i (by omega),List.nil_append]
theorem Ca6(hbe:Al1 b A l=0)(t:Nat)(ht:t<n):Afv b p (t:Int)=some ((Ao6 b p f c w r n A l l.length 0).drop (t*(c*wB (w:Int))),0):=by
 have hlen:=o.len
 rw[Vy]at hlen
 obtain⟨h1,h2⟩:=Bdr (Sc r) ht
 obtain⟨k1,k2,k3⟩:=Asp o hE (t/longN r) (by omega)
 have hg:Aa2 c w (framesL (longN r) n) (t/longN r)=((t/longN r*longN r*(c*wB (w:Int)):Nat):Int):=by
  rw[Aa2,framesL,List.take_append_of_le_length (by rw[List.length_replicate];exact h1),List.take_replicate,Nat.min_eq_left h1,Bg5,Int.toNat_natCast]
 have hmod:=Nat.div_add_mod t (longN r)
 rw[Bqd o,if_neg (by omega),Int.toNat_natCast,atS,hbe,Axe _ _ _ _ fun i h1 h2=>hE i (by omega),List.nil_append]
 simp only
 rw[if_neg (by simp),show Nw (fun i=>(Ku b p f c w r n A l i).1) (l.length-t/longN r) (t/longN r)=Ao6 b p f c w r n A l (l.length-t/longN r) (t/longN r)from rfl,k1,List.drop_drop,hg,Int.toNat_natCast,←Nat.add_mul,Nat.mul_comm (t/longN r),hmod]
omit hE in
theorem Btg(t:Nat)(ht:t<n):∃y z:Int,Lm (r:Int) (n:Int) (t:Int)=some (y,z,0):=by
 obtain⟨hc,hw,hr,hn,_⟩:=Ha o.shape
 have hfit:n≤4000/c:=by have:=o.fit;simp only[fitB,decide_eq_true_eq]at this;exact this.1
 have hn4:n≤4000:=by have:=Nat.div_le_self 4000 c;omega
 have hlen:=o.len
 have hs1:=o.some1
 rw[Vy]at hlen
 have hg:=Sc r
 rw[Lm,Amj hr.1 hr.2 hn hn4,if_neg (by omega),Aa]
 simp only
 rw[if_neg (by rw[Aj];simp),if_neg (by simp[Af,Ce];omega),Asj hr.1 hr.2,Aa]
 simp only
 rw[Bz (by rw[Aj];simp;omega),Aa,Aa]
 exact⟨_,_,rfl⟩
theorem Ayt(hbe:Al1 b A l=0)(K:Nat)(hK:K<l.length)(g:Int)(x:LX)(a o':Int)(F:LB):∀(j i q:Nat),i+j=K→j<q→
  Cq b p (K:Int) g true ((c*wB (w:Int):Nat):Int) x a (w:Int) o' F (framesL (longN r) n) q (Aa2 c w (framesL (longN r) n) i) (i:Int)=Fy b p (K:Int) g true ((c*wB (w:Int):Nat):Int) x a (Aa2 c w (framesL (longN r) n) K) (w:Int) o' F
 |j,i,0,_,h=>absurd h (Nat.not_lt_zero _)
 |0,i,q+1,hi,hq=>by
  obtain rfl:i=K:=by omega
  rw[Cq,Ga,if_neg (by simp[Af])]
 |j+1,i,q+1,hi,hq=>by
  have hlen:=o.len
  have hs1:=o.some1
  have hlt:i<(framesL (longN r) n).length:=by omega
  obtain⟨m,h0,h1,_⟩:=Bao o hE i (by omega)
  have h0':=h0
  rw[Ca hlt]at h0'
  have hm:=Option.some.inj h0'
  have hpos:∀z∈framesL (longN r) n,0≤z:=(Bbl o.shape o.fit).1
  have hn:=Boi c w hpos hlt hm
  have hle:=(Asp o hE (i+1) (by omega)).2
  have hle0:=(Asp o hE i (by omega)).2
  have hb1:(Ao6 b p f c w r n A l l.length 0).length≤12000:=by
   have h3:=Bjx o hE l.length (Nat.le_refl _)
   have h4:=Ax8 o hE
   have hfit:n≤4000/c:=by have:=o.fit;simp only[fitB,decide_eq_true_eq]at this;exact this.1
   have hN:n*c≤4000:=by
    have h1:=Nat.mul_le_mul_right c hfit
    have h2:=Nat.div_mul_le_self 4000 c
    omega
   have h5:=Wj (Ha o.shape).2.1 (Nw (fun i=>smF w (Ku b p f c w r n A l i)) l.length 0)
   rw[Ak5 o hE l.length 0 (by omega),h4]at h5
   have h6:=Nat.mul_le_mul hN (Bg2 (w:Int)).2
   rw[Ao6];omega
  have e:Ad (Aa2 c w (framesL (longN r) n) i) (Ax (m:Int) ((c*wB (w:Int):Nat):Int))=Aa2 c w (framesL (longN r) n) (i+1):=by
   have e0:(m:Int)*((c*wB (w:Int):Nat):Int)=((m*c*wB (w:Int):Nat):Int):=by rw[←Int.natCast_mul,Nat.mul_assoc]
   rw[Fm (by rw[e0];omega) (by rw[e0];omega),e0,hn]
   exact Ag (by omega) (by omega)
  rw[Cq,Ga,if_pos (by simp[Af,Ac];omega),h0,Aa,Aa,e,Ag (by omega) (by omega)]
  exact Ayt hbe K hK g x a o' F j (i+1) q (by omega) (by omega)
end
theorem Bvd(hal:Nl=some true)(b p:LB)(u g:Int):Hy b p u g=some true:=by
 rw[Hy,Jj,hal,Aa,Yp,Aa]
 by_cases hc:(((((El (Ac b) 5000)&&(Bt (Ac b) 12000))||(El (Ac b) 12100))||(El (Ac p) 64))||(!true))=true
 ·rw[if_pos hc]
 ·rw[if_neg hc]
  simp only[Bool.or_eq_true,not_or,Aq,Af,Ac,decide_eq_true_eq]at hc
  obtain⟨⟨⟨c1,c2⟩,c3⟩,_⟩:=hc
  rcases By3 b p (by omega) (by omega)with⟨e,he,h1,h2,h3,_⟩|⟨f,c,w,r,n,A,l,o,h3,_⟩
  ·rw[h3,Aa,Be8]
   simp only
   rw[Bv7 he h1,Aa]
   simp only
   rw[if_neg (by rw[Aj];simp),if_pos (by rw[Aj];simpa using he)]
  ·have hs1:=o.some1
   have hf0:=Ayh o 0
   rw[if_neg (by omega),show(0:Int).toNat=0 from rfl,Nat.sub_zero]at hf0
   have hrc:=Bjf w (Ku b p f c w r n A l) (Al1 b A l) l.length 0 [] []
   have hgd:=Bl0 (fun k=>smF w (Ku b p f c w r n A l k)) (fun k=>(Ku b p f c w r n A l k).2) (Al1 b A l) l.length 0 []
   rw[h3,Aa,Bwk,Anw]
   generalize As7 (fun k=>smF w (Ku b p f c w r n A l k)) (fun k=>(Ku b p f c w r n A l k).2) (Al1 b A l) l.length 0 []=C at*
   generalize hR:Qz (Ku b p f c w r n A l) (Al1 b A l) l.length 0 []=R at*
   obtain⟨C1,C2⟩:=C
   obtain⟨R1,R2⟩:=R
   simp only at hrc hgd⊢
   subst hrc
   by_cases hC:R2≠0
   ·rw[if_pos hC,Be8]
    simp only
    rw[hf0,Aa]
    simp only
    rw[if_neg (by rw[Aj];simp),if_pos (by rw[Aj];simpa using hC)]
   ·have hC0:R2=0:=by simpa using hC
    obtain⟨hbe,hE',hC1⟩:=hgd hC0
    have hE:∀i,i<l.length→(Ku b p f c w r n A l i).2=0:=fun i hi=>hE' i (by omega) (by omega)
    rw[List.nil_append]at hC1
    subst hC1 hC0
    obtain⟨hcc,hw,hr,hn,_⟩:=Ha o.shape
    have hfit:n≤4000/c:=by have:=o.fit;simp only[fitB,decide_eq_true_eq]at this;exact this.1
    have hn4:n≤4000:=by have:=Nat.div_le_self 4000 c;omega
    have hwd:=Bst o hE
    have htot:=Ax8 o hE
    have hcount:Bq (Ac (Nw (fun k=>smF w (Ku b p f c w r n A l k)) l.length 0)) (c:Int)=(n:Int):=by
     rw[Ac,htot,Bn1 (by have:=Nat.mul_le_mul hn4 hcc.2;omega),Nat.mul_div_cancel _ (by omega)]
    have h9:Ec b p g true (Ao6 b p f c w r n A l l.length 0) ((c*wB (w:Int):Nat):Int) (Nw (fun k=>smF w (Ku b p f c w r n A l k)) l.length 0) (c:Int) (w:Int) (r:Int)=some true:=by
     rw[Ec,Jk,hcount]
     by_cases hg:g<0∨(n:Int)≤g
     ·rw[if_pos (by simpa [Af,Ce]using hg),Bqd o,if_pos hg,Aa]
      rfl
     ·rw[if_neg (by simpa [Af,Ce]using hg)]
      obtain⟨t,rfl⟩:=Int.eq_ofNat_of_zero_le (show 0≤g by omega)
      have ht:t<n:=by omega
      have hle:t*(c*wB (w:Int))≤(Ao6 b p f c w r n A l l.length 0).length:=by
       have h5:=Wj hw (Nw (fun i=>smF w (Ku b p f c w r n A l i)) l.length 0)
       rw[Ak5 o hE l.length 0 (by omega),htot]at h5
       rw[Ao6,h5,Nat.mul_assoc]
       exact Nat.mul_le_mul_right _ (by omega)
      have hbig:t*(c*wB (w:Int))≤4000*(6*3):=Nat.mul_le_mul (by omega) (Nat.mul_le_mul hcc.2 (Bg2 (w:Int)).2)
      have hmul:Ax (t:Int) ((c*wB (w:Int):Nat):Int)=((t*(c*wB (w:Int)):Nat):Int):=by
       rw[Fm (by rw[←Int.natCast_mul];omega) (by rw[←Int.natCast_mul];omega),←Int.natCast_mul]
      obtain⟨y,z,hpl⟩:=Btg o t ht
      have hbad:El (((t*(c*wB (w:Int)):Nat)):Int) (Ac (Ao6 b p f c w r n A l l.length 0))=false:=by
       rw[Aq,Ac,decide_eq_false_iff_not];exact Int.not_lt.2 (Int.ofNat_le.2 hle)
      rw[Ca6 o hE hbe t ht,Aa]
      simp only
      rw[hmul,hbad,if_neg (by decide),Ge (by omega) (by omega),Aa,Int.toNat_natCast,if_neg (by simp),Iq,Pj,hcount,hpl,Aa]
      rfl
    rw[if_neg (by simp)]
    simp only
    rw[hf0,Aa]
    simp only
    rw[if_neg (by decide),if_neg (by decide),hwd,Aa]
    simp only
    rw[o.prog,Aa]
    simp only
    have hlne:l≠ []:=by intro h;rw[h]at hs1;simp at hs1
    rw[if_neg (by simp[Aj,Af,Bp,Ac,hlne];omega),Sp,Ccd hcc.2 hw,Aa,Bz (by rw[Aj];simp;omega),Aa]
    by_cases hu:0≤u∧u<l.length
    ·obtain⟨hu0,hu1⟩:=hu
     obtain⟨K,rfl⟩:=Int.eq_ofNat_of_zero_le hu0
     have hK:K<l.length:=by omega
     rw[if_pos (by simp[Ce,Af,Ac];omega),hcount,Aq7 hr.2 hn hn4,Aa,Jt]
     have hl:=Ayt o hE hbe K hK g (Nw (fun k=>smF w (Ku b p f c w r n A l k)) l.length 0) (c:Int) (r:Int) (Ao6 b p f c w r n A l l.length 0) K 0 Am (by omega) (by have:=Al;omega)
     rw[Bmx,show((0:Nat):Int)=0 from rfl]at hl
     refine Eq.trans hl ?_
     obtain⟨k1,k2,k3⟩:=Asp o hE K (by omega)
     have hne:=Bzi o hE K hK
     rw[Fy,Ft,Bua o hE hbe K hK,Aa]
     simp only
     rw[if_neg (by simp[Aj,Aq,Ac];omega),Ge k2 k3,Aa,←k1,if_neg (by simp[Bp,Ac,hne])]
     exact h9
    ·rw[if_neg (by simp[Ce,Af,Ac];omega)]
     exact h9
theorem law_SeektoRest(b p:LB)(u g:Int):Hy b p u g=some true:=Bvd By2 b p u g
end Go.Pl
