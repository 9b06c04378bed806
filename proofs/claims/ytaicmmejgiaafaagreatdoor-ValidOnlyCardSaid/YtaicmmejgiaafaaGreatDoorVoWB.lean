/- A part of a proof (see the text that ends in Proof). No conditions. -/
import Derived.Test.YtaicmmejgiaafaaGreatDoorVoWA
import Derived.KernelRfl
set_option linter.unusedVariables false
set_option linter.unusedSimpArgs false
namespace Go.Pl
open Go Go.Lv
theorem xQ(bits:Int)(ch:Nat)(t x:LX):(Nj bits ch t x).length=x.length:=iw _ _ _ _ _
theorem Alr{bits:Int}{ch:Nat}{t x:LX}{i:Nat}(h:i<x.length):(Nj bits ch t x).getD i 0=aV (uY bits (cst bits ch t (Nj bits ch t x) (i %ch) i) ((mx ch x).getD i 0)):=by
 obtain⟨w,hw⟩:=Agu bits ch t (mx ch x) (x.length-(i+1)) (i+1);rw[show i+1+(x.length-(i+1))=x.length by omega,evl,Apj]at hw;have hli:=iw bits ch t (mx ch x) i;have hw':Nj bits ch t x=_:=hw;have hg:(Nj bits ch t x).getD i 0=aV (uY bits (cst bits ch t (evl bits ch t (mx ch x) i) (i %ch) i) ((mx ch x).getD i 0)):=by
  rw[hw',List.getD_eq_getElem?_getD,List.getElem?_append_right F0,hli,Nat.sub_self];rfl
 have hc:cst bits ch t (Nj bits ch t x) (i %ch) i=cst bits ch t (evl bits ch t (mx ch x) i) (i %ch) i:=by rw[hw',Afz _ _ _ _ _ _ _ F0]
 rw[hg,hc]
section
variable {bits:Int} {ch:Nat} {t x:LX} (hb:Ch bits) (ht:t.length=16) (h1:1<=ch) (h6:ch<=6) (hx1:1<=x.length) (hx4:x.length<=4000) (hm:x.length %ch=0)
include hb ht h1 h6 hx1 hx4 hm
omit ht in
theorem At0(hr:inR bits x):GR (ch:Int) bits x=some 0:=by
 rw[GR,Amy hb h1 h6,Aa,Abc F6,YX hb x hx4,P6 hb hx4 hr,Aa,Abc F6,Abc (by rw[Bb,Ac,Aye];omega),Bf Bbc,Aa,Ac,KF,hm,Abc F6]
omit hm in
theorem N1:∀(j i q:Nat),i+j=x.length->j<q->
  Ja (mx ch x) (ch:Int) bits q (i:Int) (cts bits ch t (Nj bits ch t x) i) ((Nj bits ch t x).take i)=some (Nj bits ch t x,0)
 |j,i,0,_,h=>absurd h (Ayw _)
 |0,i,q+1,hi,_=>by
  have hl:=XH ch x;have hV:=xQ bits ch t x;rw[Ja,Qw,Abc F2,Avw F0];rfl
 |j+1,i,q+1,hi,hq=>by
  have hl:=XH ch x;have hV:=xQ bits ch t x;have hc:i %ch<6:=Aj7 (Ax5 _ F0) h6;have hok:=jr bits ch ht (Nj bits ch t x) (i %ch) i;have hs:=Af1 (bits:=bits) (ch:=ch) (t:=t) (v:=Nj bits ch t x) (i:=i) hc rfl;have hg:=Alr (bits:=bits) (ch:=ch) (t:=t) (x:=x) (i:=i) F0;have ih:=N1 j (i+1) q F0 F0;have htk:(Nj bits ch t x).take i++[(Nj bits ch t x).getD i 0]=(Nj bits ch t x).take (i+1):=by
   have:(Nj bits ch t x).getD i 0=(Nj bits ch t x)[i]' F0:=by rw[List.getD_eq_getElem?_getD,List.getElem?_eq_getElem F0];rfl
   rw[this,Pa F0]
  have hfw:=Alb hb hok (cst bits ch t (Nj bits ch t x) (i %ch) i).1 ((mx ch x).getD i 0);rw[Ja,Qw,Abe F2,g32 F0,Aa,Aa,Bf Bbc,Aa,KF,Agm hc,Aa,Aa];refine Axr (congrArg (λo=>Option.bind o _) hfw) ?_;rw[Aa];simp only;rw[Abc F6];have hst:((bits,(mx ch x).getD i 0,(sB bits,wK (cst bits ch t (Nj bits ch t x) (i %ch) i).2.1 (cst bits ch t (Nj bits ch t x) (i %ch) i).2.2 (uY bits (cst bits ch t (Nj bits ch t x) (i %ch) i) ((mx ch x).getD i 0)),((mx ch x).getD i 0-gs (shB bits) (cst bits ch t (Nj bits ch t x) (i %ch) i).1)::(cst bits ch t (Nj bits ch t x) (i %ch) i).2.2.take 15,()),()):CL)=toC bits (O0 bits (cst bits ch t (Nj bits ch t x) (i %ch) i) (HL ((Nj bits ch t x).getD i 0))):=by
   rw[hg,Aun,toC,O0,Ah4];simp only;rw[uY,fN]
  refine Axr (congrArg (λo=>Option.bind o _) ((congrArg (λz=>Jb (cts bits ch t (Nj bits ch t x) i) ((i %ch:Nat):Int) z) hst).trans hs)) ?_;rw[Aa,Amc,Aa];have hg2:aV (uY bits ((cst bits ch t (Nj bits ch t x) (i %ch) i).1,(cst bits ch t (Nj bits ch t x) (i %ch) i).2.1,(cst bits ch t (Nj bits ch t x) (i %ch) i).2.2) ((mx ch x).getD i 0))=(Nj bits ch t x).getD i 0:=hg.symm;rw[hg2,Ct (by rw[Afi];simp;omega),Aa,htk,Ag];exact ih
theorem Ado(hr:inR bits x):BH (ch:Int) bits t x=some (Nj bits ch t x,0):=by
 have hl:=XH ch x;have h:=N1 hb ht h1 h6 hx1 hx4 x.length 0 Aq F0 Ba7;have e:Aq=(Aq-7)+1+1+1+1+1+1+1:=by have:=Am;omega
 have hs:DV (ch:Int) bits t (mx ch x) 0 (List.replicate 6 ((0:Int),(0:Int32),((0:Int),(List.replicate 16 (0:Int32)),(List.replicate 16 (0:Int32)),()),()))=RG (ch:Int) bits (mx ch x) (cts bits ch t (Nj bits ch t x) 0):=by
  rw[DV,e];obtain rfl|rfl|rfl:=hb<;>rfl
 rw[BH,BI,At0 hb h1 h6 hx1 hx4 hm hr,Aa,Abc F6,Ajl ch x h1 h6 hm hx4,Aa];simp only;rw[Abc F6];refine Axr hs ?_;exact h
end
theorem Adj(ch:Nat):CO=some (sts ch []):=by
 have e:Aq=(Aq-7)+1+1+1+1+1+1+1:=by have:=Am;omega
 rw[CO,BB,SF,e];rfl
theorem xk(c:List Bool){n:Nat}(h:n<=c.length):Ni (Jr c) 0 n=Jr (c.take n):=by
 have hl:(c.take n).length=n:=by rw[Afi];omega
 apply wQ (by rw[Hi,Vl,hl]);intro i hi;rw[nG,Avs,FM,FM];by_cases hlt:i<n
 ·rw[Abe hlt,tb,tb,List.getD_eq_getElem?_getD,List.getD_eq_getElem?_getD,List.getElem?_take,Abe hlt]
 ·rw[Abc hlt,Z2 F0]
theorem Ava(a:UInt8){k:Nat}(hk:k<8):Dr (Bv a k) (1:UInt8)=UInt8.ofNat (a.toNat/2^k %2):=by
 apply UInt8.toNat_inj.1;rw[Aep,UInt8.toNat_and,jk,Aoq]
 show _&&&1=_;rw[Nat.and_one_is_mod];generalize a.toNat/2^k=X;omega
theorem Abx(E code:List Bool)(hE:E.length+code.length<=330000)(bk:Int->List (Int×Int×UInt64×UInt64×Unit)->Int->LB->Bj)(V:LU)(b f g:Int)(k:List (Int×Int×UInt64×UInt64×Unit)):∀(j o q:Nat),o+j=code.length->j<q->
  Fk bk V b f (code.length:Int) g k (Jr code) q (o:Int) ((E.length+o:Nat):Int) (Ni (Jr (E++code)) 0 (E.length+o))=bk (Ae g 1) k ((E.length+code.length:Nat):Int) (Jr (E++code))
 |j,o,0,_,h=>absurd h (Ayw _)
 |0,o,q+1,ho,_=>by
  obtain rfl:o=code.length:=F0
  rw[Fk,Qz,Abc Bbi,Yu,OM,xk _ Bbv,Avw Bbv]
 |j+1,o,q+1,ho,hq=>by
  generalize hP:Jr (E++code)=P;have hPo:Ed P (E.length+o)=Ed (Jr code) o:=by rw[<-hP,FM,FM,T6]
  have ih:=Abx E code hE bk V b f g k j (o+1) q F0 F0;rw[hP,<-Avp]at ih;generalize hn:E.length+o=n at*
  have hq8:Ca (n:Int) 8=((n/8:Nat):Int):=by rw[show(8:Int)=((8:Nat):Int)from rfl,mQ]
  have hr8:Ge (n:Int) 8=((n %8:Nat):Int):=by rw[show(8:Int)=((8:Nat):Int)from rfl,KF]
  have hqo:Ca (o:Int) 8=((o/8:Nat):Int):=by rw[show(8:Int)=((8:Nat):Int)from rfl,mQ]
  have hro:Ge (o:Int) 8=((o %8:Nat):Int):=by rw[show(8:Int)=((8:Nat):Int)from rfl,KF]
  have hroom:Fk bk V b f (code.length:Int) g k (Jr code) (q+1) (o:Int) (n:Int) (Ni P 0 n)=Qh (Fk bk V b f (code.length:Int) g k (Jr code) q) (code.length:Int) V g b f k (Jr code) (o:Int) (n:Int) (room P 0 n):=by
   rw[Fk,Qz,Abe Ba6,hr8,room];by_cases h0:n %8=0
   ·rw[Abe (by rw[Bb,h0];rfl),Ct Bb1,Aa,Abe h0]
   ·rw[Abc Bbd,Abc h0]
  have hcl:=Vl code;have hgm:Ak (Jr code) ((o/8:Nat):Int)=some ((Jr code).getD (o/8) 0):=by
   rw[Ci,List.getD_eq_getElem?_getD,List.getElem?_eq_getElem F0];rfl
  have hg:Ak (room P 0 n) ((n/8:Nat):Int)=some (UInt8.ofNat (Bc P (0+8*(n/8)) (n %8))):=by
   rw[Ci Bbn,iP]
  have hbit:Dr (Bv ((Jr code).getD (o/8) 0) (o %8)) (1:UInt8)=UInt8.ofNat (Ed P n):=by
   rw[Ava _ F0,hPo,Ed]
  have hlt:=qM P (0+8*(n/8)) (n %8+1) F0;have hsn:=iJ P (0+8*(n/8)) (n %8);rw[show 0+8*(n/8)+n %8=n by omega]at hsn;have hnew:sD (UInt8.ofNat (Bc P (0+8*(n/8)) (n %8))) (Cy (UInt8.ofNat (Ed P n)) (n %8))=UInt8.ofNat (Bc P (0+8*(n/8)) (n %8+1)):=by
   rw[or8 (Jg _ _ _) Bb2 F0,hsn,Apd (2^(n %8))]
  rw[hroom,Qh,NZ,hqo,hro,hq8,hr8,hgm,Aa,Aa,Bf Bbf,Aa,hg,Aa,Bf Bbf,Aa,Aa,Aa,
   show(GI.toZ ((o %8:Nat):Int)).toNat=o %8 from rfl,show(GI.toZ ((n %8:Nat):Int)).toNat=n %8 from rfl,hbit,hnew,Qr _ Bbn,Aa,pV P 0 n 1 F0 F0,PA,QT,Ag,Ag]
  exact ih
theorem Ayl(l m:LB)(h:l.length+m.length<=1000000):Kb [l,m]=some (l++m):=by
 have hF:Aq=(Aq-3)+1+1+1:=by have:=Am;omega
 rw[Kb,Lw,Ub];have g0:Ak [l,m] (0:Int)=some l:=rfl;have g1:Ak [l,m] (1:Int)=some m:=rfl;have l2:Ac [l,m]=2:=rfl;have h3:La [l,m] []=some (l++m):=by
  rw[La,Ky,Kv,hF,Dj,Et,l2,Abe F6,g0,Aa,Ct Ba5,Aa,Av0,show Ae (0:Int) 1=1 by decide,
   Dj,Et,l2,Abe F6,g1,Aa,Ct,Aa,show Ae (1:Int) 1=2 by decide,Dj,Et,l2,Abc F6]
  rfl
 rw[hF,Dt,Fg,l2,Abe F6,g0,Aa,Ag Bbh Bbh,Abc Bbz,show Ae (0:Int) 1=1 by decide,
  Dt,Fg,l2,Abe F6,g1,Aa,Ag Bbh Bbh,Abc Bbl,show Ae (1:Int) 1=2 by decide,
  Dt,Fg,l2,Abc F6,Tp,Kz,Abc Bbl,To,Lc]
 have z:Aj (0:Int) 0=0:=F6
 have n0:(0:Int)+Ac l+Ac m=((l.length+m.length:Nat):Int):=by simp[Ac]
 rw[z,n0,Bi,Int.sub_zero];by_cases hp:0<l.length+m.length
 ·rw[Abe Bbb,show aP (0:Int) 0 0=some ()from rfl,Aa,pQ,Aa,Ct Ba5,Aa];rw[show aP (Ac ([]++List.replicate ((l.length+m.length:Nat):Int).toNat (0:UInt8))) 0 0=some () by rw[aP,Bf];simp[Ac];omega,Aa];simp only[TL,Int.sub_self,Int.toNat_zero,Aya];exact h3
 ·rw[Abc Bbb];exact h3
theorem Abn(bits:Int)(ch:Nat)(h1:1<=ch)(h6:ch<=6)(V:LU)(hV:V.length<=4000):∀(j i q:Nat),i+j=V.length->j<q->
  Gq V (ch:Int) bits q (i:Int) (sts ch (V.take i)) ((Tr ch V i).length:Int) (Jr (Tr ch V i))=some (Jr (Tr ch V V.length)++Tk (Dn (Jr (Tr ch V V.length))).toNat 4,0)
 |j,i,0,_,h=>absurd h (Ayw _)
 |0,i,q+1,hi,_=>by
  obtain rfl:i=V.length:=F0
  have hel:=cU ch V V.length;have hpl:=Vl (Tr ch V V.length);have hlt:=(Dn (Jr (Tr ch V V.length))).toNat_lt;rw[Gq,Qp,Abc Bbz,Yn,PW,rV _ F0,Aa];simp only;have e64:(UInt64.ofNat (Dn (Jr (Tr ch V V.length))).toNat).toNat=(Dn (Jr (Tr ch V V.length))).toNat:=RW F0;rw[Abc F6,Cp,show(4:Int)=((4:Nat):Int)from rfl,QB _ 4 F0 F0 (by rw[e64];omega),Aa];simp only;rw[Abc F6,e64,Ayl _ _ (by rw[Dk];omega),Aa]
 |j+1,i,q+1,hi,hq=>by
  have hc:i %ch<6:=Aj7 (Ax5 _ F0) h6;have hvl:(V.take i).length=i:=by rw[Afi];omega
  have hel:=cU ch V i;have hk:=S0 ch (V.take i);have hcl:=iD (V.getD i 0) hk.1 hk.2;have ih:=Abn bits ch h1 h6 V hV j (i+1) q F0 F0;have hvi:V.getD i 0=V[i]' F0:=by rw[List.getD_eq_getElem?_getD,List.getElem?_eq_getElem F0];rfl
  have htk:V.take i++[V.getD i 0]=V.take (i+1):=by rw[hvi,Pa F0]
  have hst:=X5 (ch:=ch) (v:=V.take i) hc;have hset:=Agp (ch:=ch) (v:=V.take i) (V.getD i 0) hc (by rw[hvl]);have Azp:bS ch (V.take i) (i %ch) (V.take i).length=now ch (V.take i):=Ar7 (by rw[hvl]);rw[Azp]at hst hset;rw[htk]at hset;have hdp:=Anx (k:=(now ch (V.take i)).1) (l:=(now ch (V.take i)).2.1) (s:=(now ch (V.take i)).2.2.1) (t:=(now ch (V.take i)).2.2.2) (eS ch (V.take i) _ _) (V.getD i 0);have hpc:=Abx (Tr ch V i) (Tn (now ch (V.take i)).1 (now ch (V.take i)).2.1 (V.getD i 0)) F0 (Gq V (ch:Int) bits q) V (ch:Int) bits (i:Int) (sts ch (V.take (i+1))) (Tn (now ch (V.take i)).1 (now ch (V.take i)).2.1 (V.getD i 0)).length 0 Aq F0 Ba7;rw[show(Tr ch V i).length+0=(Tr ch V i).length from rfl,xk _ Bbv,List.take_left,show((0:Nat):Int)=0 from rfl]at hpc;rw[Gq,Qp,Abe F2,pZ F0,Aa,Aa,Bf Bbc,Aa,KF,hst,Aa,Aa];refine Axr (congrArg (λo=>Option.bind o _) hdp) ?_;rw[Aa];simp only;rw[Abc F6,Aa,Aa];refine Axr (congrArg (λo=>Option.bind o _) hset) ?_;rw[Aa];refine Axr hpc ?_;rw[Ag];rw[Tr,Ab0]at ih;exact ih
theorem Z3{bits:Int}{ch:Nat}{t x:LX}(hb:Ch bits)(ht:t.length=16)(h1:1<=ch)(h6:ch<=6)(hx1:1<=x.length)(hx4:x.length<=4000)(hm:x.length %ch=0)(hr:inR bits x):
  Pq (ch:Int) bits t x=some (Yi bits ch t x,0):=by
 have hV:=xQ bits ch t x;have h:=Abn bits ch h1 h6 (Nj bits ch t x) F0 (Nj bits ch t x).length 0 Aq F0 Ba7;have e0:Jr (Tr ch (Nj bits ch t x) 0)=[]:=by simp[Tr,Jr]
 have e1:((Tr ch (Nj bits ch t x) 0).length:Int)=0:=rfl;rw[e0,e1,Aya,hV,show((0:Nat):Int)=0 from rfl]at h;rw[Pq,AY,Ado hb ht h1 h6 hx1 hx4 hm hr,Aa];simp only;rw[Abc F6,Adj ch,Aa,Yi,za,NR];exact h
theorem Akl{r:Nat}(h1:1<=r)(h:r<=1048576):Nb (r:Int)=some ((Ar r:Int),0):=by
 have hv:=C3 h;have e:Bg (r:Int) 256=Bg 256 (r:Int):=by rw[Gp,Gp];omega
 rw[Nb,Abc Bbe,e];have hq:0<=Ca (Bg 256 (r:Int)) 245:=by
  have e2:Bg 256 (r:Int)=((256*r:Nat):Int):=by rw[Gp];omega
  rw[e2,show(245:Int)=((245:Nat):Int)from rfl,mQ];omega
 rw[fu]at hv;by_cases hz:Ca (Bg 256 (r:Int)) 245=0
 ·rw[Abe (by rw[Bb];simpa using hz)];rw[hz]at hv;have:(1:Int)=(Ar r:Int):=F0
  rw[this]
 ·rw[Abc (by rw[Bb];simpa using hz)];have:Ca (Bg 256 (r:Int)) 245=(Ar r:Int):=F0
  rw[this]
theorem mN{r:Nat}(h:r<=1048576)(K:Nat)(hK:K<=1000):∀(j n q:Nat) (acc:LI),n<=4000->n<=j->j<q->acc.length+n<=10000-> (acc++(if n=0 then []else Ax (Ar r) n)).length=K->Cu (Ar r:Int) q (n:Int) acc=some (acc++(if n=0 then []else Ax (Ar r) n),0)
 |0,n,q+1,acc,hn,hj,hq,ha,hk=>by
  obtain rfl:n=0:=F0
  rw[Abe rfl,Apx]at hk;rw[Cu,Gg,Abc Bbk,Ks,Oa,Abc Ba8,Abe rfl,Apx]
 |j+1,n,q+1,acc,hn,hj,hq,ha,hk=>by
  have hp:=Ka r;have hl:=oO h;by_cases h0:n=0
  ·subst h0;rw[Abe rfl,Apx]at hk;rw[Cu,Gg,Abc Bbk,Ks,Oa,Abc Ba8,Abe rfl,Apx]
  ·rw[Cu,Gg,Abe Bbb,Ct Ba5,Aa,AO];rw[Abc h0]at hk⊢;by_cases hs:n<=Ar r
   ·rw[show min (n:Int) (Ar r:Int)=(n:Int) by omega,Bi,Int.sub_self];have ih:=mN h K hK j 0 q (acc++[(n:Int)]) F0 F0 F0 Ba5 (by rw[Abe rfl,Apx];rw[HG hs F0]at hk;exact hk);rw[Abe rfl,Apx]at ih;rw[HG hs F0];exact ih
   ·rw[show min (n:Int) (Ar r:Int)=(Ar r:Int) by omega,Bi,show(n:Int)-(Ar r:Int)=((n-Ar r:Nat):Int) by omega];have e:acc++Ax (Ar r) n=(acc++[(Ar r:Int)])++Ax (Ar r) (n-Ar r):=by rw[gV hp (show Ar r<n by omega)];simp
    have ih:=mN h K hK j (n-Ar r) q (acc++[(Ar r:Int)]) F0 F0 F0 Ba5 (by rw[Abc F0,<-e];exact hk);rw[Abc F0,<-e]at ih;exact ih
theorem Asc{r n:Nat}(h1:1<=r)(h:r<=1048576)(n1:1<=n)(n2:n<=4000)(hk:(n-1)/Ar r+1<=1000):∃z:Int,Fe (r:Int) (n:Int)=some (z,0):=by
 have hl:=mN h (Ax (Ar r) n).length (by rw[Zo];omega) n n Aq [] n2 (Aiw _) Ba7 Ba5 (by rw[Abc F0];rfl);rw[Fe,Pp,Kt,Akl h1 h,Aa];simp only;rw[Abc Bbs,Ws,hl,Aa];exact⟨_,rfl⟩
section
variable {b p:LB} {f c w r n A:Nat} {l:LI} (o:Opn b p f c w r n A l)
include o
theorem Arn{X:LX}{N:Nat}(hN:1<=N)(hNn:N<=n)(hX:X.length=N*c)(hr':inR (w:Int) X):Bk (c:Int) (w:Int) (r:Int) X=some 0:=by
 obtain⟨hc,hw,hr,hn,_⟩:=HU o.shape;have hfit:n<=4000/c/\ (n-1)/Ar r+1<=1000:=by have:=o.fit;simpa only[FW,Ab6]using this
 have hX4:X.length<=4000:=by
  have h1:=Ab7 c (Bak hNn hfit.1);have h2:=Axz 4000 c;omega
 have hX1:1<=X.length:=by rw[hX];exact Ba4 hN F0
 have hhB:=NY (w:Int);have hq4:=vE hc.1 hc.2;have hn4:n<=4000:=by have:=Auo 4000 c;omega
 generalize 4000/c=mm at*
 have e20:Cf (c:Int) (w:Int)=some 0:=by
  rw[Cf,Abc Bbe,RU hw,Aa,Abc Bbd]
 have Azq:Ge (Ac X) (c:Int)=0:=by
  rw[Ac,hX,KF,Ayp];rfl
 have eA:Bm (c:Int) (w:Int) X=some 0:=by
  rw[Bm,e20,Aa,Abc F6,P6 hw hX4 hr',Aa,Abc F6,Abc F2,Bf Bbc,Aa,Azq,Abc F6]
 have Avt:Ca (Ac X) (c:Int)=(N:Int):=by rw[Ac,mQ,hX,Nat.mul_div_cancel _ F0]
 have e21:Cr (c:Int) (w:Int) (N:Int)=some 0:=by
  rw[Cr,e20,Aa,Abc Bbp,Bf Bbc,Aa,hq4,Abc Bbb]
 obtain⟨z,e22⟩:=Asc hr.1 hr.2 hN F0 (by have:=Nat.div_le_div_right (c:=Ar r) (show N-1<=n-1 by omega);omega);rw[Bk,Dx,Aa];simp only;rw[eA,Aa,Abc F6,Bf Bbc,Aa,Avt,Tq,Dx,Aa];simp only;rw[e21,Aa,Abc F6,e22,Aa,Aa];rfl
end
theorem Bb0{p:Prop}(h:p:=by rw[Bb,Aye];omega):p:=h
theorem Bb4{p:Prop}(h:p:=by simp[Ah]):p:=h
end Go.Pl
namespace Go.Pl
open Go Go.Lv
variable{bits:Int}{x:LX}{c w r n:Nat}
structure ClipOk (c w r n:Nat) (x:LX):Prop where
 ch:1<=c/\c<=6
 bits:Ch (w:Int)
 rate:1<=r/\r<=1048576
 cnt:1<=n/\n<=4000/c
 len:x.length=n*c
 fr:(n-1)/Ar r+1<=1000
 rng:inR (w:Int) x
theorem ClipOk.le(h:ClipOk c w r n x):n<=4000/\n*c<=4000/\1<=x.length/\x.length<=4000:=by
 have h1:=Ab7 c h.cnt.2;have h2:=Axz 4000 c;have h3:=Auo 4000 c;have h4:=Ba4 h.cnt.1 h.ch.1;have h5:=h.len;have:=h.cnt;omega
theorem ClipOk.w3(h:ClipOk c w r n x):w=8\/w=16\/w=24:=by
 have:=h.bits;unfold Ch at this;omega
theorem ClipOk.shape(h:ClipOk c w r n x)(f:Nat)(hf:f=1\/f=2):Hb f c w r n=true:=by
 have:=h.w3;have:=h.ch;have:=h.rate;have:=h.cnt;simp only[Hb,Ab6];omega
theorem ClipOk.fit(h:ClipOk c w r n x):FW c r n=true:=by
 have:=h.cnt;have:=h.fr;simp only[FW,Ab6];omega
theorem Awm(h:Ch bits){l:LX}(hl:l.length<=4000):Ap bits l=some 0\/Ap bits l=some 16:=by
 have hh:=NY bits;have key:∀(j i q:Nat),i+j=l.length->j<q->Ay l (hB bits) q (i:Int)=some 0\/Ay l (hB bits) q (i:Int)=some 16:=by
  intro j
  induction j with
  |zero=>
   intro i q hi hq;obtain⟨q,rfl⟩:∃q',q=q'+1:=⟨q-1,F0⟩;rw[Ay,Cc,Abc F2];exact .inl rfl
  |succ j ih=>
   intro i q hi hq;obtain⟨q,rfl⟩:∃q',q=q'+1:=⟨q-1,F0⟩;have ih:=ih (i+1) q F0 F0;have hi1:Ae (i:Int) 1=((i+1:Nat):Int):=by rw[Ag];omega
   rw[Ay,Cc,Abe F2,Ci,Aa,Aa,hi1];split
   ·exact .inr rfl
   ·split
    ·exact .inr rfl
    ·exact ih
 have hk:=key l.length 0 Aq F0 Ba7;rw[Ap,Cs,RU h,Aa,Abc Bbd,Abc Ba8];exact hk
theorem oK(h:¬Ch bits):Hu bits=some 0/\Py bits=some (0,0,2):=by
 unfold Ch at h;constructor
 ·rw[Hu,Abc Bb0,Abc Bb0,Abc Bb0]
 ·have e:(geq bits 24)=false:=by rw[Bb,beq_eq_false_iff_ne];omega
  rw[Py,eX,Abc Bb0,Abc Bb0,e,gL,dK,Abc F6]
theorem rC{r:Nat}(h:r<=1048576):∀(j n q:Nat) (acc:LI),n<=4000->n<=j->j<q->acc.length+n<=10000->
  Cu (Ar r:Int) q (n:Int) acc=some (if 1000<(acc++(if n=0 then []else Ax (Ar r) n)).length then([],4)else(acc++(if n=0 then []else Ax (Ar r) n),0))
 |j,n,0,acc,_,_,h,_=>absurd h (Ayw _)
 |j,n,q+1,acc,hn,hj,hq,ha=>by
  have hp:=Ka r;by_cases h0:n=0
  ·subst h0;rw[Abe rfl,Apx,Cu,Gg,Abc Bbk,Ks,Oa,Al,Ac];by_cases hk:1000<acc.length
   ·rw[Abe hk,Abe Ba5]
   ·rw[Abc hk,Abc Ba5]
  ·obtain⟨j,rfl⟩:∃j',j=j'+1:=⟨j-1,F0⟩;rw[Cu,Gg,Abe Bbb,Ct Ba5,Aa,AO];by_cases hs:n<=Ar r
   ·rw[show min (n:Int) (Ar r:Int)=(n:Int) by omega,Bi,Int.sub_self];have ih:=rC h j 0 q (acc++[(n:Int)]) F0 F0 F0 Ba5;rw[Abe rfl,Apx]at ih;rw[Abc h0,HG hs F0];exact ih
   ·rw[show min (n:Int) (Ar r:Int)=(Ar r:Int) by omega,Bi,show(n:Int)-(Ar r:Int)=((n-Ar r:Nat):Int) by omega];have e:acc++Ax (Ar r) n=(acc++[(Ar r:Int)])++Ax (Ar r) (n-Ar r):=by rw[gV hp (show Ar r<n by omega)];simp
    have ih:=rC h j (n-Ar r) q (acc++[(Ar r:Int)]) F0 F0 F0 Ba5;rw[Abc (show ¬n-Ar r=0 by omega),<-e]at ih;rw[Abc h0];exact ih
theorem Adf(C W R:Int)(x:LX)(hlen:x.length<4611686018427387904):(Bk C W R x=some 8/\Cx C W R x=some 8)\/
  (∃c w r n:Nat,C=(c:Int)/\W=(w:Int)/\R=(r:Int)/\ClipOk c w r n x/\Bk C W R x=some 0/\Cx C W R x=some 0):=by
 have I2:∀e:Int,e≠0->Bm C W x=some e->Bk C W R x=some 8:=by
  intro e he h;rw[Bk,Dx,Aa];simp only;rw[h,Aa,Abe (by rw[Ah];simpa using he)]
 by_cases hC:C<1
 ·refine .inl ⟨I2 2 F6 ?_,?_⟩
  ·rw[Bm,Cf,Abe Bbe,Aa,Abe F6]
  ·rw[Cx,Abe (by rw[Af];simpa using hC)]
 obtain⟨c,rfl⟩:=Akk (show 0<=C by omega);have hc1:1<=c:=F0
 have hq:Ca (Ac x) (c:Int)=((x.length/c:Nat):Int):=by rw[Ac,mQ]
 have hr0:Ge (Ac x) (c:Int)=((x.length %c:Nat):Int):=by rw[Ac,KF]
 have Amp:(∀m:Nat,x.length=m*c->FL (c:Int) W R x (m:Int)=some 8)->Cx (c:Int) W R x=some 8:=by
  intro h;rw[Cx,Abc (by rw[Af];simpa using hC),Bf Bbc,Aa,hr0];by_cases hm:x.length %c=0
  ·have hx:x.length=x.length/c*c:=by have:=Bai x.length c;rw[hm,Apd]at this;omega
   rw[hm,Abc F6,Aa,hq,h _ hx,Aa,Abe F6]
  ·rw[Abe Bbc]
 by_cases h6:6<c
 ·refine .inl ⟨I2 2 F6 ?_,Amp λm hm=>?_⟩
  ·rw[Bm,Cf,Abe Bbe,Aa,Abe F6]
  ·rw[FL,FN,Aa];simp only;have:Fo (c:Int) W=some 2:=by
    rw[Fo];by_cases hb:Ch W
    ·rw[U1 hb,Aa];simp only;rw[Abe Bbs]
    ·rw[(oK hb).2,Aa];simp only;rw[Abe Bb4]
   rw[this,Aa,Abe Bb4]
 by_cases hb:Ch W
 rotate_left
 ·refine .inl ⟨I2 2 F6 ?_,Amp λm hm=>?_⟩
  ·rw[Bm,Cf,Abc Bbe,(oK hb).1,Aa,Abe F6,Aa,Abe F6]
  ·rw[FL,FN,Aa];simp only;have:Fo (c:Int) W=some 2:=by
    rw[Fo,(oK hb).2,Aa];simp only;rw[Abe Bb4]
   rw[this,Aa,Abe Bb4]
 have hhB:=NY W;have e20:Cf (c:Int) W=some 0:=by
  rw[Cf,Abc Bbe,RU hb,Aa,Abc Bbd]
 have hq4:=vE hc1 (show c<=6 by omega);have ecf:=Amy hb hc1 (show c<=6 by omega);have Ahd:∀m:Nat,FL (c:Int) W R x (m:Int)=if m<1\/4000/c<m then some 8 else Option.bind (Hh R (m:Int)) λy=>if(Bo y.2 0)=true then some 8 else some 0:=by
  intro m;rw[FL,FN,Aa];simp only;rw[ecf,Aa];by_cases hm:m<1
  ·rw[Abe Bbp,Abe (.inl hm)]
  ·rw[Abc Bbp,Bf Bbc,Aa,hq4];by_cases hm2:4000/c<m
   ·rw[Abe (by rw[Al,Ab6,gt_iff_lt,Int.ofNat_lt];exact hm2),Abe (.inr hm2)]
   ·rw[Abc (by rw[Al,Ab6,gt_iff_lt,Int.ofNat_lt];exact hm2),Abc F0]
 by_cases hx4:4000<x.length
 ·refine .inl ⟨I2 4 F6 ?_,Amp λm hm=>?_⟩
  ·have:Ap W x=some 4:=by
    rw[Ap,Cs,RU hb,Aa,Abc Bbd,Abe Ba8]
   rw[Bm,e20,Aa,Abc F6,this,Aa,Abe F6,Aa]
  ·rw[Ahd,Abe];refine .inr ?_;rw[Nat.div_lt_iff_lt_mul F0];omega
 have hx4:x.length<=4000:=F0
 have hsame:=YX hb x hx4;rcases Awm hb hx4 with h18|h18
 rotate_left
 ·refine .inl ⟨I2 16 F6 ?_,?_⟩
  ·rw[Bm,e20,Aa,Abc F6,h18,Aa,Abe F6,Aa]
  ·rw[Cx,Abc (by rw[Af];simpa using hC),Bf Bbc,Aa,hr0];by_cases hm:x.length %c=0
   ·rw[hm,Abc F6,Aa,hq,Ahd];split
    ·rw[Aa,Abe F6]
    ·rename_i hh;by_cases hR:1<=R/\R<=1048576
     ·obtain⟨r,rfl⟩:=Akk (show 0<=R by omega);have hd:=Auo x.length c;rw[YB F0 F0 F0 F0,Aa];split
      ·rw[Abe F6,Aa,Abe F6]
      ·rw[Abc Bb4,Aa,Abc F6,hsame,h18,Aa,Abe F6]
     ·rw[Hh,Qb,Abe Bbe,Aa];simp only;rw[Abe F6,Aa];simp only;rw[Abe F6,Aa,Abe F6]
   ·rw[Abe Bbc]
 by_cases hx1:x.length<1
 ·refine .inl ⟨I2 2 F6 ?_,Amp λm hm=>?_⟩
  ·rw[Bm,e20,Aa,Abc F6,h18,Aa,Abc F6,Abe F2]
  ·have h0:m*c=0:=F0
   have:m=0:=by rcases Nat.mul_eq_zero.1 h0 with h|h<;>omega
   rw[Ahd,Abe (.inl F0)]
 have hA:x.length %c=0->Bm (c:Int) W x=some 0:=by
  intro hm;rw[Bm,e20,Aa,Abc F6,h18,Aa,Abc F6,Abc F2,Bf Bbc,Aa,hr0,hm,Abc F6]
 by_cases hm:x.length %c=0
 rotate_left
 ·refine .inl ⟨I2 2 F6 ?_,?_⟩
  ·rw[Bm,e20,Aa,Abc F6,h18,Aa,Abc F6,Abc F2,Bf Bbc,Aa,hr0,Abe Bbb]
  ·rw[Cx,Abc (by rw[Af];simpa using hC),Bf Bbc,Aa,hr0,Abe Bbc]
 have hxn:x.length=x.length/c*c:=by have:=Bai x.length c;rw[hm,Apd]at this;omega
 generalize hN:x.length/c=n at*
 have hn1:1<=n:=by
  by_cases h0:n=0
  ·rw[h0]at hxn;omega
  ·omega
 have hn4:n<=4000/c:=by rw[<-hN];exact Nat.div_le_div_right hx4
 have hn4':n<=4000:=Bak hn4 (Auo _ _);have e21:Cr (c:Int) W (n:Int)=some 0:=by
  rw[Cr,e20,Aa,Abc Bbp,Bf Bbc,Aa,hq4,Abc (by rw[Al,Ab6,gt_iff_lt,Int.ofNat_lt];omega)]
 have Aoy:∀z e:Int,Fe R (n:Int)=some (z,e)->Bk (c:Int) W R x=some (if e=0 then 0 else 8):=by
  intro z e hz;rw[Bk,Dx,Aa];simp only;rw[hA hm,Aa,Abc F6,Bf Bbc,Aa,hq,Tq,Dx,Aa];simp only;rw[e21,Aa,Abc F6,hz,Aa,Aa,Bb];by_cases he:e=0
  ·subst he;rfl
  ·rw[Abc he,Abe (by simpa using he)]
 have R7:Cx (c:Int) W R x=Option.bind (Option.bind (Hh R (n:Int)) λy=>if(Bo y.2 0)=true then some 8 else some 0) λg=>if(Bo g 0)=true then some g else some 0:=by
  rw[Cx,Abc (by rw[Af];simpa using hC),Bf Bbc,Aa,hr0,hm,Abc F6,Aa,hq,Ahd,Abc F0,hsame,h18];rfl
 by_cases hR:1<=R/\R<=1048576
 rotate_left
 ·refine .inl ⟨?_,?_⟩
  ·refine Aoy 0 2 ?_;rw[Fe,Pp,Kt,Nb,Abe Bbe,Aa];simp only;rw[Abe Bb4,Aa];rfl
  ·rw[R7,Hh,Qb,Abe Bbe,Aa];simp only;rw[Abe F6,Aa];simp only;rw[Abe F6,Aa,Abe F6]
 obtain⟨r,rfl⟩:=Akk (show 0<=R by omega);have hl:=rC (r:=r) F0 n n Aq [] hn4' (Aiw _) Ba7 Ba5;rw[Abc (show ¬n=0 by omega),Av0,Zo]at hl;have hcount:∃z:Int,Fe (r:Int) (n:Int)=some (z,if 1000<(n-1)/Ar r+1 then 4 else 0):=by
  rw[Fe,Pp,Kt,Akl F0 F0,Aa];simp only;rw[Abc Bbs,Ws,hl,Aa];split<;>exact⟨_,rfl⟩
 obtain⟨z,hz⟩:=hcount;have h24:=Aoy z _ hz;rw[YB F0 F0 hn1 hn4',Aa]at R7;by_cases hk:1000<(n-1)/Ar r+1
 ·rw[Abe hk]at h24 R7;exact .inl ⟨h24,R7⟩
 ·rw[Abc hk]at h24 R7;have hw:∃w:Nat,W=(w:Int):=by
   rcases hb with rfl|rfl|rfl
   ·exact⟨8,rfl⟩
   ·exact⟨16,rfl⟩
   ·exact⟨24,rfl⟩
  obtain⟨w,rfl⟩:=hw;exact .inr ⟨c,w,r,n,rfl,rfl,rfl,⟨⟨hc1,F0⟩,hb,F0,⟨hn1,hn4⟩,hxn,F0,WR hb hx4 h18⟩,h24,R7⟩
theorem Ahj(C W R:Int)(h:4000<x.length):Bk C W R x=some 8:=by
 have key:∃e:Int,e≠0/\Bm C W x=some e:=by
  rw[Bm,Cf];by_cases h1:((Cg C 1)||(Eu C 6))=true
  ·rw[Abe h1,Aa,Abe F6];exact⟨2,F6,rfl⟩
  ·rw[Abc h1];by_cases hb:Ch W
   ·have hh:=NY W;have h18:Ap W x=some 4:=by
     rw[Ap,Cs,RU hb,Aa,Abc Bbd,Abe Ba8]
    rw[RU hb,Aa,Abc Bbd,Aa,Abc F6,h18,Aa,Abe F6,Aa];exact⟨4,F6,rfl⟩
   ·rw[(oK hb).1,Aa,Abe F6,Aa,Abe F6];exact⟨2,F6,rfl⟩
 obtain⟨e,he,h1⟩:=key;rw[Bk,Dx,Aa];simp only;rw[h1,Aa,Abe (by rw[Ah];simpa using he)]
theorem wu(C W R:Int)(x:LX):(Bk C W R x=some 8/\ (x.length<4611686018427387904->Cx C W R x=some 8))\/
  (∃c w r n:Nat,C=(c:Int)/\W=(w:Int)/\R=(r:Int)/\ClipOk c w r n x/\Bk C W R x=some 0/\Cx C W R x=some 0):=by
 by_cases hx:x.length<4611686018427387904
 ·rcases Adf C W R x hx with⟨h1,h2⟩|h
  ·exact .inl ⟨h1,λ_=>h2⟩
  ·exact .inr h
 ·exact .inl ⟨Ahj C W R F0,λh=>absurd h hx⟩
theorem Bb8{p:Prop}(h:p:=by simp[Dk,Xp]):p:=h
end Go.Pl
namespace Go.Pl
open Go Go.Lv
def J9(f c w r n:Nat):LB:=Xp++Tk f 2++Tk c 2++Tk w 2++Tk r 4++Tk n 4
def oY(f c w r n:Nat):LB:=J9 f c w r n++Tk (Dn (J9 f c w r n)).toNat 4
theorem A4(f c w r n:Nat):(J9 f c w r n).length=18:=by simp only[J9,Xp,Ab0,Dk];rfl
theorem Aoa(f c w r n:Nat):(oY f c w r n).length=22:=by rw[oY,Ab0,A4,Dk]
theorem D8(b f g h k:Int)(m v w q:Nat)(a:LB)(hm:m<5)(hv:Ak ([b,f,g,h,k]:LI) (m:Int)=some (v:Int))(hw:Ak ([2,2,2,4,4]:LI) (m:Int)=some (w:Int))(h1:1<=w)(h8:w<=8)(hlt:v<256^w)(h64:v<18446744073709551616)(ha:a.length<=100):
  Kg b f g h k (q+1) (m:Int) a=Kg b f g h k q ((m+1:Nat):Int) (a++Tk v w):=by
 have e64:(UInt64.ofNat v).toNat=v:=RW F0;have hi1:Ae (m:Int) 1=((m+1:Nat):Int):=by rw[Ag];omega
 rw[Kg,Ye,Abe Ba6,hv,Aa,hw,Aa,Rv,QB _ w h1 h8 (by rw[e64];exact hlt),Aa];simp only;rw[Ct (by rw[Dk];omega),Aa,hi1,e64]
theorem jf{f c w r n:Nat}(h1:Hb f c w r n=true)(h2:FW c r n=true):MW (f:Int) (c:Int) (w:Int) (r:Int) (n:Int)=some (oY f c w r n,0):=by
 have hs:(f=1\/f=2)/\ (1<=c/\c<=6)/\ (w=8\/w=16\/w=24)/\ (1<=r/\r<=1048576)/\1<=n:=by simpa only[Hb,Ab6]using h1
 have hn:n<=4000:=by
  simp only[FW,Ab6]at h2;have:=Auo 4000 c;omega
 have hck:Pz (f:Int) (c:Int) (w:Int) (r:Int) (n:Int)=some 0:=by
  rw[Pz,cV,Aa,h1,Abc F6,rP h1,Aa,h2,Abc F6]
 have hF:Aq=(Aq-6)+1+1+1+1+1+1:=by have:=Am;omega
 have hlt:=(Dn (J9 f c w r n)).toNat_lt;have e64:(UInt64.ofNat (Dn (J9 f c w r n)).toNat).toNat=(Dn (J9 f c w r n)).toNat:=RW F0;have hfin:Yg (J9 f c w r n)=some (oY f c w r n,0):=by
  rw[Yg,aI,rV _ (by rw[A4];omega),Aa];simp only;rw[Cp,show(4:Int)=((4:Nat):Int)from rfl,QB _ 4 F0 F0 (by rw[e64];omega),Aa];simp only;rw[Ct (by rw[A4,Dk];omega),Aa,e64];rfl
 rw[MW,KX,hck,Aa,Abc F6,aR,hF];have s0:=D8 (f:Int) (c:Int) (w:Int) (r:Int) (n:Int) 0 f 2 ((Aq-6)+1+1+1+1+1) Xp F0 rfl rfl F0 F0 F0 F0 F6;have s1:=D8 (f:Int) (c:Int) (w:Int) (r:Int) (n:Int) 1 c 2 ((Aq-6)+1+1+1+1) (Xp++Tk f 2) F0 rfl rfl F0 F0 F0 F0 Bb8;have s2:=D8 (f:Int) (c:Int) (w:Int) (r:Int) (n:Int) 2 w 2 ((Aq-6)+1+1+1) (Xp++Tk f 2++Tk c 2) F0 rfl rfl F0 F0 F0 F0 Bb8;have s3:=D8 (f:Int) (c:Int) (w:Int) (r:Int) (n:Int) 3 r 4 ((Aq-6)+1+1) (Xp++Tk f 2++Tk c 2++Tk w 2) F0 rfl rfl F0 F0 F0 F0 Bb8;have s4:=D8 (f:Int) (c:Int) (w:Int) (r:Int) (n:Int) 4 n 4 ((Aq-6)+1) (Xp++Tk f 2++Tk c 2++Tk w 2++Tk r 4) F0 rfl rfl F0 F0 F0 F0 Bb8;refine s0.trans (s1.trans (s2.trans (s3.trans (s4.trans ?_))));rw[Kg,Ye,Abc F6];exact hfin
def nB(l:LI):LB:=l.flatMap λx=>Tk x.toNat 4
def J5(l:LI):LB:=nB l++Tk (Dn (nB l)).toNat 4
theorem mZ(l:LI):(nB l).length=4*l.length:=by
 induction l with
 |nil=>rfl
 |cons x l ih=>rw[nB,List.flatMap_cons,Ab0,Dk,show(l.flatMap λx=>Tk x.toNat 4)=nB l from rfl,ih,Aj4];omega
theorem Am9(l:LI):(J5 l).length=4*l.length+4:=by rw[J5,Ab0,mZ,Dk]
theorem M6(l:LI)(x:Int):nB (l++[x])=nB l++Tk x.toNat 4:=by simp[nB]
theorem uI(l:LI)(hl:l.length<=1000)(h5:∀x∈l,5<=x/\x<=100000):∀(j i q:Nat),i+j=l.length->j<q->Od l q (i:Int) (nB (l.take i))=some (J5 l,0)
 |j,i,0,_,h=>absurd h (Ayw _)
 |0,i,q+1,hi,_=>by
  have hlt:=(Dn (nB l)).toNat_lt;have e64:(UInt64.ofNat (Dn (nB l)).toNat).toNat=(Dn (nB l)).toNat:=RW F0;rw[Od,DP,Abc F2,Avw F0,KH,aJ,rV _ (by rw[mZ];omega),Aa];simp only;rw[Cp,show(4:Int)=((4:Nat):Int)from rfl,QB _ 4 F0 F0 (by rw[e64];omega),Aa];simp only;rw[Ct (by rw[mZ,Dk];omega),Aa,e64];rfl
 |j+1,i,q+1,hi,hq=>by
  have ih:=uI l hl h5 j (i+1) q F0 F0;obtain⟨x5,x6⟩:=h5 l[i] (Avx _);obtain⟨v,hv⟩:=Akk (show 0<=l[i] by omega);have e64:(UInt64.ofNat v).toNat=v:=RW F0;have hi1:Ae (i:Int) 1=((i+1:Nat):Int):=by rw[Ag];omega
  rw[Od,DP,Abe F2,Ci,Aa,hv,Rv,show(4:Int)=((4:Nat):Int)from rfl,QB _ 4 F0 F0 (by rw[e64];omega),Aa];simp only;rw[Ct (by rw[mZ,Dk,Afi];omega),Aa,KM,aW,hi1,e64];rw[Pa F0,M6,hv,Afl]at ih;exact ih
theorem Abv(l:LI):SL l=some (if TS l=true then(J5 l,0)else([],8)):=by
 rw[SL,OJ,cG,Aa];by_cases h:TS l=true
 ·rw[Abe h,Abe h,Abc F6];simp only[TS,Ab5,Ab6]at h;obtain⟨⟨h1,h2⟩,h3⟩:=h;have h4:=(oV l 100000 F0).1 h3;have h6:=Ace h4.1;have hl:=uI l h2 (λx hx=>⟨h4.1 x hx,by have:=h6 x hx;omega⟩) l.length 0 Aq F0 Ba7;exact hl
 ·rw[Abc h,Abc h,Abe F6]
theorem Q8(l:List LB)(hl:l.length<=100000)(hf:l.flatten.length<=1000000):∀(j i q:Nat),i+j=l.length->j<q->Pr l q (i:Int) (l.take i).flatten=some l.flatten
 |j,i,0,_,h=>absurd h (Ayw _)
 |0,i,q+1,hi,_=>by
  rw[Pr,CR,Abc F2,Avw F0];rfl
 |j+1,i,q+1,hi,hq=>by
  have ih:=Q8 l hl hf j (i+1) q F0 F0;have hi1:Ae (i:Int) 1=((i+1:Nat):Int):=by rw[Ag];omega
  have hsn:(l.take (i+1)).flatten=(l.take i).flatten++l[i]:=by rw[Pa F0,List.flatten_append];simp
  have hsp:l.flatten=(l.take (i+1)).flatten++(l.drop (i+1)).flatten:=by rw[<-List.flatten_append,Axj]
  have hle:((l.take i).flatten).length+(l[i]).length<=1000000:=by
   rw[hsp,Ab0,hsn,Ab0]at hf;omega
  rw[Pr,CR,Abe F2,Ci,Aa,Ct,Aa,hi1,<-hsn];exact ih
theorem join_eq(l:List LB)(hl:l.length<=100000)(hf:l.flatten.length<=1000000):gO l=some l.flatten:=by
 have h:=Q8 l hl hf l.length 0 Aq F0 Ba7;exact h
def Un(c:Nat):LX->LI->List LX
 |_,[]=>[]
 |x,m::l=>x.take (m.toNat*c)::Un c (x.drop (m.toNat*c)) l
theorem mT(c:Nat):∀(l:LI) (x:LX),(Un c x l).length=l.length
 |[],x=>rfl
 |m::l,x=>by rw[Un,Aj4,Aj4,mT c l]
theorem tX(c:Nat):∀(l:LI) (x:LX),(∀m∈l,0<=m)->x.length=l.sum.toNat*c-> (Un c x l).flatten=x
 |[],x,_,h=>by
  have:x=[]:=As3 (by simpa using h);rw[this];rfl
 |m::l,x,h0,h=>by
  have hm:=h0 m Au1;have hl:0<=l.sum:=by
   have:∀l:LI,(∀m∈l,0<=m)->0<=l.sum:=by
    intro l
    induction l with
    |nil=>intro _;simp
    |cons a l ih=>intro h;have:=ih (λm hm=>h m (Aj8 _ hm));have:=h a Au1;rw[Avv];omega
   exact this l λm hm=>h0 m (Aj8 _ hm)
  rw[Avv,show(m+l.sum).toNat=m.toNat+l.sum.toNat by omega,Auj]at h;have ih:=tX c l (x.drop (m.toNat*c)) (λm hm=>h0 m (Aj8 _ hm)) Bbw;rw[Un,Azx,ih,Axj]
theorem kI(c:Nat)(x:LX)(hx:x.length<=4000):∀(l:LI) (a:Nat),(∀m∈l,1<=m)->a+l.sum.toNat*c=x.length->Nt (c:Int) x l (a:Int)=some (Un c (x.drop a) l)
 |[],a,_,_=>rfl
 |m::l,a,h1,ha=>by
  have hm:=h1 m Au1;have hl:=h1;have hs:0<=l.sum:=by
   have:∀l:LI,(∀m∈l,1<=m)->0<=l.sum:=by
    intro l
    induction l with
    |nil=>intro _;simp
    |cons a l ih=>intro h;have:=ih (λm hm=>h m (Aj8 _ hm));have:=h a Au1;rw[Avv];omega
   exact this l λm hm=>h1 m (Aj8 _ hm)
  obtain⟨k,rfl⟩:=Akk (show 0<=m by omega);rw[Avv,show((k:Int)+l.sum).toNat=k+l.sum.toNat by omega,Auj]at ha;have hkc:Bg (k:Int) (c:Int)=((k*c:Nat):Int):=by rw[Gp Bby Bby,<-Ax3]
  have hadd:Ae (a:Int) ((k*c:Nat):Int)=((a+k*c:Nat):Int):=by rw[Ag];omega
  have ih:=kI c x hx l (a+k*c) (λm hm=>h1 m (Aj8 _ hm)) F0;rw[Nt,hkc,hadd,Ou,Aa,ih,Aa,Un,Afl,Afl,Afl,Bav,List.drop_take,Ayd]
theorem Af5(w c:Nat)(hb:Ch (w:Int))(h1:1<=c)(h6:c<=6)(t:LX)(ht:t.length=16):∀(xs:List LX) (o:List LB),o.length+xs.length<=10000-> (∀y∈xs,1<=y.length/\y.length<=4000/\y.length %c=0/\inR (w:Int) y)->
  Nq (c:Int) (w:Int) t xs o=some (o++xs.map (Yi (w:Int) c t),0)
 |[],o,_,_=>by rw[Nq];simp
 |x::xs,o,ho,h=>by
  obtain⟨a1,a2,a3,a4⟩:=h x Au1;rw[Aj4]at ho;have ih:=Af5 w c hb h1 h6 t ht xs (o++[Yi (w:Int) c t x]) Ba5 (λy hy=>h y (Aj8 _ hy));rw[Nq,Z3 hb ht h1 h6 a1 a2 a3 a4,Aa,Abc Bb4,Ct Ba5,Aa,ih,Avz];simp
theorem lF(c:Nat)(h1:1<=c):∀(l:LI) (x:LX),(∀m∈l,1<=m)->x.length=l.sum.toNat*c->∀y∈Un c x l,1<=y.length/\y.length<=x.length/\y.length %c=0/\∀v∈y,v∈x
 |[],x,_,_=>λy hy=>by simp[Un]at hy
 |m::l,x,hm,hx=>by
  have hm1:=hm m Au1;have hl:0<=l.sum:=by
   have:∀l:LI,(∀m∈l,1<=m)->0<=l.sum:=by
    intro l
    induction l with
    |nil=>intro _;simp
    |cons a l ih=>intro h;have:=ih (λm hm=>h m (Aj8 _ hm));have:=h a Au1;rw[Avv];omega
   exact this l λm hm'=>hm m (Aj8 _ hm')
  rw[Avv,show(m+l.sum).toNat=m.toNat+l.sum.toNat by omega,Auj]at hx;have hpos:1<=m.toNat*c:=Ba4 F0 h1;intro y hy;rw[Un,List.mem_cons]at hy;rcases hy with rfl|hy
  ·have hlen:(x.take (m.toNat*c)).length=m.toNat*c:=by rw[Afi];omega
   rw[hlen];exact⟨hpos,F0,Ayp _ _,λv hv=>List.mem_of_mem_take hv⟩
  ·obtain⟨a1,a2,a3,a4⟩:=lF c h1 l (x.drop (m.toNat*c)) (λm hm'=>hm m (Aj8 _ hm')) Bbw y hy;rw[Atc]at a2;exact⟨a1,F0,a3,λv hv=>Bae (a4 v hv)⟩
theorem xD(bits:Int)(ch:Nat)(t x:LX)(h0:1<=x.length)(h4:x.length<=4000):5<= (Yi bits ch t x).length/\ (Yi bits ch t x).length<=15*x.length:=by
 have h5:=Amj bits ch t x h0 h4;have h:=cU ch (Nj bits ch t x) x.length;refine⟨h5.1,?_⟩;rw[Yi,Ab0,Dk,za,Vl];omega
def Mp(fs:List LB):LI:=fs.map λf=>(f.length:Int)
theorem FR(fs:List LB):(Mp fs).length=fs.length:=by rw[Mp,List.length_map]
theorem XR:∀fs:List LB,(Mp fs).sum=(fs.flatten.length:Int)
 |[]=>rfl
 |f::fs=>by rw[Mp,Avz,Avv,Azx,Ab0,show(fs.map λf=>(f.length:Int))=Mp fs from rfl,XR fs];omega
theorem Akd(bits:Int)(ch:Nat)(t:LX):∀ys:List LX,(∀y∈ys,1<=y.length/\y.length<=4000)-> ((ys.map (Yi bits ch t)).flatten).length<=15*ys.flatten.length
 |[],_=>by simp
 |y::ys,h=>by
  have ih:=Akd bits ch t ys λy hy=>h y (Aj8 _ hy);obtain⟨h1,h4⟩:=h y Au1;have:=(xD bits ch t y h1 h4).2;rw[Avz,Azx,Azx,Ab0,Ab0];omega
def Xm(p:LB):Nat:=if p=[]then 1 else 2
def dW(p:LB):LB:=if p=[]then []else Tk (Zf p).toNat 8
theorem Am5(p:LB):Xm p=1\/Xm p=2:=by unfold Xm;split<;>simp
theorem Aod(p:LB):(dW p).length=if Xm p=2 then 8 else 0:=by
 unfold dW Xm;by_cases h:p=[]
 ·rw[Abe h,Abe h];rfl
 ·rw[Abc h,Abc h,Dk];rfl
def pL(c r n:Nat)(x:LX):List LX:=Un c x (Ax (Ar r) n)
def dO(c w r n:Nat)(x:LX)(p:LB):List LB:=(pL c r n x).map (Yi (w:Int) c (Sk p))
def EB(c w r n:Nat)(x:LX)(p:LB):LB:=oY (Xm p) c w r n++(dW p++(J5 (Mp (dO c w r n x p))++(dO c w r n x p).flatten))
theorem Vf{g n:Nat}(hg:1<=g)(h1:1<=n):∀m∈Ax g n,1<=m:=by
 intro m hm;rw[Ax,List.mem_append,List.mem_replicate,List.mem_singleton]at hm;have h:=Axz (n-1) g;rcases hm with⟨_,rfl⟩|rfl
 ·omega
 ·omega
section
variable {c w r n:Nat} {x:LX} (h:ClipOk c w r n x)
include h
theorem ClipOk.sum:(Ax (Ar r) n).sum=(n:Int):=tZ h.cnt.1
omit h in
theorem Abr:(pL c r n x).length=(Ax (Ar r) n).length:=mT _ _ _
theorem Ahq:(pL c r n x).flatten=x:=by
 refine tX _ _ _ (λm hm=>?_) ?_
 ·have:=Vf (Ka r) h.cnt.1 m hm;omega
 ·rw[h.sum,h.len,Afl]
theorem WM:∀y∈pL c r n x,1<=y.length/\y.length<=4000/\y.length %c=0/\inR (w:Int) y:=by
 intro y hy;obtain⟨a1,a2,a3,a4⟩:=lF c h.ch.1 _ _ (Vf (Ka r) h.cnt.1) (by rw[h.sum,h.len,Afl]) y hy;have:=h.le;exact⟨a1,F0,a3,λv hv=>h.rng v (a4 v hv)⟩
omit h in
theorem Agy(p:LB):(dO c w r n x p).length=(Ax (Ar r) n).length:=by rw[dO,List.length_map];exact mT _ _ _
theorem Ak2(p:LB):1<= (dO c w r n x p).length/\ (dO c w r n x p).length<=1000:=by
 rw[Agy,Zo];exact⟨Nat.le_add_left _ _,h.fr⟩
theorem Abh(p:LB):((dO c w r n x p).flatten).length<=15*x.length:=by
 have:=Akd (w:Int) c (Sk p) (pL c r n x) λy hy=>⟨(WM h y hy).1,(WM h y hy).2.1⟩;rw[Ahq h]at this;exact this
theorem Aok(p:LB):∀f∈dO c w r n x p,5<=f.length:=by
 intro f hf;rw[dO,List.mem_map]at hf;obtain⟨y,hy,rfl⟩:=hf;exact(xD _ _ _ _ (WM h y hy).1 (WM h y hy).2.1).1
theorem Alj(p:LB):TS (Mp (dO c w r n x p))=true:=by
 have h1:=Ak2 h p;have h2:=Abh h p;have h3:=h.le;simp only[TS,Ab5,Ab6];rw[oV _ _ F0,FR,XR];refine⟨F0,λz hz=>?_,F0⟩;rw[Mp,List.mem_map]at hz;obtain⟨f,hf,rfl⟩:=hz;have:=Aok h p f hf;omega
omit h in
theorem Ahl(p:LB):(EB c w r n x p).length=22+(if Xm p=2 then 8 else 0)+(4*(dO c w r n x p).length+4)+(dO c w r n x p).flatten.length:=by
 rw[EB,Ab0,Ab0,Ab0,Aoa,Aod,Am9,FR];omega
theorem Aoc(p:LB):(EB c w r n x p).length<=34+4*(dO c w r n x p).length+15*x.length:=by
 have h1:=Ahl (c:=c) (w:=w) (r:=r) (n:=n) (x:=x) p;have h2:=Abh h p;split at h1<;>omega
theorem Ai4(p:LB):(EB c w r n x p).length<=64034:=by
 have:=Aoc h p;have:=Ak2 h p;have:=h.le;omega
theorem Akf(hk:Cx (c:Int) (w:Int) (r:Int) x=some 0)(p:LB)(hp:p.length<=64):SD (c:Int) (w:Int) (r:Int) x p=some ((Xm p:Int),(c:Int),(w:Int),(r:Int),(n:Int),0):=by
 have hc:=h.ch;have hq:Ca (Ac x) (c:Int)=(n:Int):=by rw[Ac,mQ (by have:=h.le;omega),h.len,Nat.mul_div_cancel _ F0]
 rw[SD,AI,hk,Aa,Abc F6,Abc Ba8,Bf Bbc,Aa,PD,eL,hq,Xm];by_cases h0:p=[]
 ·rw[Abc (by simp[h0]),Abe h0];rfl
 ·rw[Abe (by simpa using h0),Abc h0];rfl
theorem uW(hk:Cx (c:Int) (w:Int) (r:Int) x=some 0)(p:LB)(hp:p.length<=64):IA (c:Int) (w:Int) (r:Int) x p=some (dO c w r n x p,0):=by
 have hc:=h.ch;have hle:=h.le;have hr:=h.rate;have hq:Ca (Ac x) (c:Int)=(n:Int):=by rw[Ac,mQ,h.len,Nat.mul_div_cancel _ F0]
 have hcut:QD (c:Int) (r:Int) x=some (pL c r n x):=by
  have hp:=kI c x F0 (Ax (Ar r) n) 0 (Vf (Ka r) h.cnt.1) (by rw[h.sum,h.len,Afl];omega);rw[QD,Bf Bbc,Aa,hq,Abj hr.1 hr.2 h.cnt.1 F0 h.fr,Aa,Bf (by have:=h.fr;simp only[Ac,Zo,Ab6];omega),Aa];exact hp
 have hfs:=Af5 w c h.bits hc.1 hc.2 (Sk p) (lR p) (pL c r n x) [] (by rw[Abr,Zo];exact Bak (Nat.add_le_add_left h.fr _) Bba) (WM h);rw[IA,hk,Aa,Abc F6,P2 p hp,Aa];simp only;rw[Abc F6,hcut,Aa,hfs];rfl
omit h in
theorem yP(a:List LB)(b f:LB)(v:LB)(ha:a.length<=1000)(hfin:Ri (Mp a) a b f=some (v,0)):∀(j i q:Nat),i+j=a.length->j<q->Po a b f q (i:Int) (Mp (a.take i)++List.replicate j 0)=some (v,0)
 |j,i,0,_,h=>absurd h (Ayw _)
 |0,i,q+1,hi,_=>by
  rw[Po,CG,Abc F2,Avw F0,List.replicate_zero,Apx];exact hfin
 |j+1,i,q+1,hi,hq=>by
  have ih:=yP a b f v ha hfin j (i+1) q F0 F0;have hi1:Ae (i:Int) 1=((i+1:Nat):Int):=by rw[Ag];omega
  have hll:(Mp (a.take i)).length=i:=by rw[FR,Afi];omega
  have hset:(Mp (a.take i)++List.replicate (j+1) (0:Int)).set i (Ac a[i])=Mp (a.take (i+1))++List.replicate j 0:=by
   rw[Axk,WY hll,Pa F0,Mp,Mp,Az8,Apj];rfl
  rw[Po,CG,Abe F2,Ci,Aa,Aa,TG,Aa,Ci (by rw[Ab0,hll,Asw];omega),Aa,Qr _ (by rw[Ab0,hll,Asw];omega),Aa,hset,KL,aA,hi1];exact ih
theorem oq(hk:Cx (c:Int) (w:Int) (r:Int) x=some 0)(p:LB)(hp:p.length<=64):JV (c:Int) (w:Int) (r:Int) x p=some (EB c w r n x p,0):=by
 have hn:=Ak2 h p;have hfin:Ri (Mp (dO c w r n x p)) (dO c w r n x p) (oY (Xm p) c w r n) (dW p)=some (EB c w r n x p,0):=by
  have hl:=Ai4 h p;rw[Ri,aE,Abv,Abe (Alj h p),Aa];simp only;rw[aY,aC,Abc F6,Ct Ba5,Aa,join_eq _ Ba5 (by
   have:(([oY (Xm p) c w r n,dW p,J5 (Mp (dO c w r n x p))]++dO c w r n x p).flatten)=EB c w r n x p:=by simp[EB]
   rw[this];omega),Aa]
  simp[EB]
 have hlp:=yP (dO c w r n x p) (oY (Xm p) c w r n) (dW p) _ F0 hfin (dO c w r n x p).length 0 Aq F0 Ba7;have h8:OU (dO c w r n x p) (oY (Xm p) c w r n) (dW p)=some (EB c w r n x p,0):=by
  rw[OU,NQ,pQ Bbh Bbh,Aa,Bf Bbt,Aa];exact hlp
 rw[JV,OD,Akf h hk p hp,Aa];simp only;rw[Abc F6,uW h hk p hp,Aa];simp only;rw[Abc F6,jf (h.shape _ (Am5 p)) h.fit,Aa];simp only;rw[Abc F6];by_cases h0:p=[]
 ·have e1:Xm p=1:=by rw[Xm,Abe h0]
  have e2:dW p=[]:=by rw[dW,Abe h0]
  rw[e2]at h8;rw[Abc (by rw[e1];decide)];exact h8
 ·have e1:Xm p=2:=by rw[Xm,Abc h0]
  have e2:dW p=Tk (Zf p).toNat 8:=by rw[dW,Abc h0]
  rw[e2]at h8;rw[Abe (by rw[e1];decide),rH p hp,Aa];exact h8
end
theorem tS:∀{l:LI},(∀x∈l,0<=x)->∀k,0<= (l.take k).sum
 |[],_,k=>by simp
 |x::l,h,0=>by simp
 |x::l,h,k+1=>by
  have:=tS (l:=l) (λy hy=>h y (Aj8 _ hy)) k;have:=h x Au1;rw[List.take_succ_cons,Avv];omega
theorem zC(c:Nat)(h1:1<=c):∀(l:LI) (x:LX),(∀m∈l,1<=m)->x.length=l.sum.toNat*c->∀(k:Nat) (hk:k<l.length) (hk':k<(Un c x l).length),(Un c x l)[k].length=l[k].toNat*c
 |[],x,_,_=>λk hk=>absurd hk (Ayw _)
 |m::l,x,hm,hx=>by
  have hm1:=hm m Au1;have hl:0<=l.sum:=by
   have:=tS (l:=l) (λy hy=>by have:=hm y (Aj8 _ hy);omega) l.length;rw[Ax4]at this;exact this
  rw[Avv,show(m+l.sum).toNat=m.toNat+l.sum.toNat by omega,Auj]at hx;intro k hk hk';cases k with
  |zero=>simp only[Un,List.getElem_cons_zero,Afi];omega
  |succ k=>
   simp only[Un,List.getElem_cons_succ];exact zC c h1 l (x.drop (m.toNat*c)) (λm hm'=>hm m (Aj8 _ hm')) Bbw k (by simpa using hk) _
structure FileOf (c w r n:Nat) (x:LX) (p:LB) (T:Nat) (fs:List LB) (z b:LB):Prop where
 clip:ClipOk c w r n x
 pass:p.length<=64
 front:Bd b=((T:Int),0)
 le:b.length<=100000
 lens:Mp fs=Mp (dO c w r n x p)
 form:b.drop T=oY (Xm p) c w r n++(dW p++(J5 (Mp (dO c w r n x p))++(fs.flatten++z)))
section
variable {c w r n:Nat} {x:LX} {p:LB} {T:Nat} {fs:List LB} {z b:LB} (h:FileOf c w r n x p T fs z b)
include h
theorem FileOf.cnt:fs.length=(dO c w r n x p).length:=by
 have:=congrArg List.length h.lens;rw[FR,FR]at this;exact this
theorem FileOf.mom{k:Nat}(hk:k<fs.length):∃(m:Nat) (hk':k<(pL c r n x).length),Ak (Ax (Ar r) n) (k:Int)=some (m:Int)/\1<=m/\m<=4000/c/\ ((pL c r n x)[k]).length=m*c/\inR (w:Int) (pL c r n x)[k]/\ (dO c w r n x p)[k]'(by rw[<-h.cnt];exact hk)=Yi (w:Int) c (Sk p) (pL c r n x)[k]:=by
 have hc:=h.clip;have hlen:fs.length=(Ax (Ar r) n).length:=by rw[h.cnt];exact Agy p
 have hkf:k<(Ax (Ar r) n).length:=F0
 have hk':k<(pL c r n x).length:=by rw[Abr];exact hkf
 have hm1:=Vf (Ka r) hc.cnt.1 _ (Avx hkf);obtain⟨m,hm⟩:=Akk (show 0<= (Ax (Ar r) n)[k] by omega);have hg:=zC c hc.ch.1 _ x (Vf (Ka r) hc.cnt.1) (by rw[hc.sum,hc.len,Afl]) k hkf hk';rw[hm,Afl]at hg;have hmem:=WM hc _ (Avx hk');have hx:=lF c hc.ch.1 _ x (Vf (Ka r) hc.cnt.1) (by rw[hc.sum,hc.len,Afl]) _ (Avx hk');have hg':((pL c r n x)[k]).length=m*c:=hg;refine⟨m,hk',by rw[Ci hkf,hm],F0,?_,hg',hmem.2.2.2,?_⟩
 ·have h1:=hx.2.1;have h2:m*c<=n*c:=by rw[<-hg',<-hc.len];exact h1
  have h3:m<=n:=Nat.le_of_mul_le_mul_right h2 hc.ch.1;exact Bak h3 hc.cnt.2
 ·simp only[dO,Ay7]
end
structure EncOk (c w r:Nat) (p:LB):Prop where
 ch:1<=c/\c<=6
 bits:Ch (w:Int)
 rate:1<=r/\r<=1048576
 pass:p.length<=64
def szE(c w:Nat):Nat:=c*wB (w:Int)
def nE(c w:Nat)(t:LB):Nat:=t.length/szE c w
def XE(c w:Nat)(t:LB):LX:=sxs (wB (w:Int)) (nE c w t*c) t
def qm(c r n:Nat):Prop:=n*c<=4000/\ (n=0\/ (n-1)/Ar r+1<=1000)
instance(c r n:Nat):Decidable (qm c r n):=by unfold qm;exact inferInstance
theorem qm.mono{c r n m:Nat}(h:qm c r n)(hm:m<=n):qm c r m:=by
 obtain⟨h1,h2⟩:=h;have h3:=Ab7 c hm;have h4:(m-1)/Ar r<= (n-1)/Ar r:=Nat.div_le_div_right F0;refine⟨F0,?_⟩;omega
def Cd(e:Int):Prop:=e=0\/e=4\/e=12\/e=16\/e=22\/e=24\/e=26\/e=38
instance(e:Int):Decidable (Cd e):=by unfold Cd;infer_instance
structure HdI (f c w r n:Int) (F C W R N:Nat):Prop where
 ef:f=F
 ec:c=C
 ew:w=W
 er:r=R
 en:n=N
 shape:Hb F C W R N=true
 fit:FW C R N=true
inductive FitD (o:LB) (f c w r n:Int) (g:LI) (a:Int) (x:LB):Prop
 |new:f=0->c=0->w=0->r=0->n=0->g=[]->a=0->x=[]->FitD o f c w r n g a x
 |head (F C W R N:Nat):HdI f c w r n F C W R N-> (o==([]:LB))=decide (F=1)->g=[]->a=0->x=[]->FitD o f c w r n g a x
 |tab (F C W R N A:Nat):HdI f c w r n F C W R N-> (o==([]:LB))=decide (F=1)->TS g=true->g.length=(Ax (Ar R) N).length->a=A->A<=g.length->FitD o f c w r n g a x
def ID3:LB:=[73,68,51]
def APX:LB:=[65,80,69,84,65,71,69,88]
def Aj2(b s:LB):Bool:=decide (b.length<s.length)&&(b==s.take b.length)
theorem Q5(b s:LB):Ny b s=some (Aj2 b s):=by
 rw[Ny,Aj2];by_cases h:b.length<s.length
 ·rw[Abe Bbl,Ac,Ji,Aa,decide_eq_true h,Baa];rfl
 ·rw[Abc Bbl,Az0 h];rfl
def stS(b:LB):Int×Int×Int×Int×Int×Int×Int:=
 if(Bd b).2=24 then(0,0,0,0,0,0, -1)else if(Bd b).2≠0 then(0,0,0,0,0,0,(Bd b).2)else
 if(Aj2 (Jy b) ID3||Aj2 (Jy b) APX)=true then(0,0,0,0,0,0, -1)else
 if(Jt (Jy b)).2.2.2.2.2=24 then(0,0,0,0,0,0, -1)else((Bd b).1+22,(Jt (Jy b)).1,(Jt (Jy b)).2.1,(Jt (Jy b)).2.2.1,(Jt (Jy b)).2.2.2.1,(Jt (Jy b)).2.2.2.2.1,(Jt (Jy b)).2.2.2.2.2)
theorem Acl(b:LB)(hb:b.length<=100000):Ur b=some (stS b):=by
 rw[Ur,Ze,BZ b F0,Aa,stS];have hok:=FK (b:=b);simp only;by_cases h1:(Bd b).2=24
 ·rw[Abe (by rw[Bb];simpa using h1),Abe h1]
 rw[Abc (by rw[Bb];simpa using h1),Abc h1];by_cases h2:(Bd b).2≠0
 ·rw[Abe (by rw[Ah];simpa using h2),Abe h2]
 have h0:(Bd b).2=0:=by simpa using h2
 obtain⟨k1,k2,k3⟩:=hok h0;rw[Abc (by rw[Ah,h0];simp),Abc h2,Ha,Aa,Q5,Aa,show b.drop (Bd b).1.toNat=Jy b from rfl,show([73,68,51]:LB)=ID3 from rfl,show([65,80,69,84,65,71,69,88]:LB)=APX from rfl];by_cases h3:Aj2 (Jy b) ID3=true
 ·rw[Abe h3,h3,Bool.true_or,Abe rfl]
 rw[Abc h3,Q5,Aa,Bool.eq_false_iff.2 h3,Bool.false_or];by_cases h4:Aj2 (Jy b) APX=true
 ·rw[Abe h4,Abe h4]
 have hl:(Jy b).length<=b.length:=by rw[Jy,Atc];omega
 rw[Abc h4,Abc h4,Zb,Zn,cZ _ F0,Aa];simp only;by_cases h5:(Jt (Jy b)).2.2.2.2.2=24
 ·rw[Abe (by rw[Bb];simpa using h5),Abe h5]
 ·rw[Abc (by rw[Bb];simpa using h5),Abc h5,Ag]
structure SzD (p:LB) (g:LI) (a:Int) (x:LB):Prop where
 hp:p.length<=100000
 hg:g.length<=1000
 hx:x.length+12000*(g.length-a.toNat)<=13000000
section
variable {bk:LB->Int->Int->Int->Int->Int->Int->LI->LB->Hq} {o p:LB} {f c w r n:Int} {g:LI} {a:Int} {x:LB} {u:Bool} {v:Int}
theorem f62{d:Bool}{e:Int}:sA bk o u v a g x d e p f c w r n=Lg bk o u v p f c w r n a d e g x:=rfl
theorem f75{d:Bool}{e:Int}:sI bk o u v f c w r n a x d e p g=Lg bk o u v p f c w r n a d e g x:=rfl
theorem f78{d:Bool}{e:Int}:rW bk o u v f c w r n g d e p a x=Lg bk o u v p f c w r n a d e g x:=rfl
end
theorem bnd{α β:Type}{o:Option α}{f:α->Option β}{r:β}(h:Option.bind o f=some r):∃x,o=some x/\f x=some r:=by
 cases o with
 |none=>cases h
 |some x=>exact⟨x,rfl,h⟩
def OutB(f c w r n:Int)(g:LI)(a:Int)(x:LB):Prop:=∀(F C W R N A:Nat),HdI f c w r n F C W R N->g≠ []->a=(A:Int)-> (x.length:Int)<=An2 C W (Ax (Ar R) N) A
theorem OutB.nil{f c w r n:Int}{a:Int}{x:LB}:OutB f c w r n [] a x:=λ_ _ _ _ _ _ _ h=>absurd rfl h
theorem OutB.zero{f c w r n:Int}{g:LI}:OutB f c w r n g 0 []:=λF C W R N A h hg ha=>by
 obtain rfl:A=0:=F0
 rw[Adb];simp
structure Wt (o p:LB) (f c w r n:Int) (g:LI) (a:Int) (x:LB):Prop where
 fit:FitD o f c w r n g a x
 sz:SzD p g a x
 out:OutB f c w r n g a x
 wait:DG o p f c w r n g a x false 0=some (o,p,f,c,w,r,n,g,a,x,false,0, -1)
abbrev Atb(q:Nat)(o p:LB)(f c w r n:Int)(g:LI)(a:Int)(x:LB):=JR q o p f c w r n g a x false 0
abbrev Fd(o s:LB):=Atb Aq o s 0 0 0 0 0 [] 0 []
inductive Bh (o s:LB):LB->Int->Int->Int->Int->Int->LI->Int->LB->Int->Prop
 |wt {p:LB} {f c w r n:Int} {g:LI} {a:Int} {x:LB}:Wt o p f c w r n g a x->p.length<=s.length-> (∀b:LB,(s++b).length<=100000->Fd o (s++b)=Atb Aq o (p++b) f c w r n g a x)->Bh o s p f c w r n g a x 0
 |er {x:LB} {e:Int}:0<e->Cd e->x.length<=12000-> (∀b:LB,(s++b).length<=100000->Fd o (s++b)=some (o,[],0,0,0,0,0,[],0,x,false,e,e))->Bh o s [] 0 0 0 0 0 [] 0 x e
variable {o s p:LB} {f c w r n:Int} {g:LI} {a:Int} {x:LB} {e:Int}
theorem Bh.new(ho:o.length<=64):Bh o [] [] 0 0 0 0 0 [] 0 [] 0:=by
 refine .wt ⟨.new rfl rfl rfl rfl rfl rfl rfl rfl,⟨Bba,Bba,Bba⟩,OutB.nil,?_⟩ (Aiw _) λb _=>rfl;rw[DG,IK,Abe F6,Acl [] Bba,Aa];rfl
end Go.Pl
namespace Go.Pl
open Go Go.Lv
variable{t:LX}{N l k ch:Nat}{v:UInt32}
section
variable {o s p:LB} {f c w r n:Int} {g:LI} {a:Int} {x:LB} {e:Int}
theorem FitD.drop(h:FitD o f c w r n g a x)(t:Nat):FitD o f c w r n g a (x.drop t):=by
 cases h with
 |new e1 e2 e3 e4 e5 e6 e7 e8=>subst e8;exact .new e1 e2 e3 e4 e5 e6 e7 Bba
 |head F C W R N hd hpw e6 e7 e8=>subst e8;exact .head F C W R N hd hpw e6 e7 Bba
 |tab F C W R N A hd hpw ht hl ea hA=>exact .tab F C W R N A hd hpw ht hl ea hA
theorem OutB.drop(h:OutB f c w r n g a x)(t:Nat):OutB f c w r n g a (x.drop t):=by
 intro F C W R N A hd hg ha;have:=h F C W R N A hd hg ha;rw[Atc];omega
end
inductive Pl (S D A:Int) (G:Nat->Int) (l:LI) (a:Int):UInt8->Int->Int->Prop
 |t:a<S->Pl S D A G l a 1 0 0
 |h:S<=a->a<S+22->Pl S D A G l a 2 0 0
 |d:S+22<=a->a<D->Pl S D A G l a 3 0 0
 |s:S+22<=a->D<=a->a<A->Pl S D A G l a 4 0 0
 |f (i:Nat):S+22<=a->D<=a->A<=a->i<l.length->A+(l.take i).sum<=a->a<A+(l.take (i+1)).sum->Pl S D A G l a 5 i (G i)
 |b:S+22<=a->D<=a->A<=a->A+l.sum<=a->Pl S D A G l a 6 0 0
theorem ClipOk.enc{c w r n:Nat}{x:LX}(h:ClipOk c w r n x){p:LB}(hp:p.length<=64):EncOk c w r p:=⟨h.ch,h.bits,h.rate,hp⟩
theorem At.app{p:LB}{a:Nat}{c d:List Bool}(h1:At p a c)(h2:At p (a+c.length) d):At p a (c++d):=λi hi=>by
 by_cases h:i<c.length
 ·rw[h1 i h,Afp h]
 ·rw[Ab0]at hi;have:=h2 (i-c.length) F0;rw[show a+c.length+(i-c.length)=a+i by omega]at this;rw[this,show tb (c++d) i=tb (c++d) (c.length+(i-c.length)) by congr 1;omega,T6]
theorem At.mk{p:LB}{a:Nat}{b:Bool}{c:List Bool}(h1:Ed p a=if b=true then 1 else 0)(h2:At p (a+1) c):At p a (b::c):=λi hi=>by
 cases i with
 |zero=>rw[Axs,h1,S1]
 |succ i=>
  rw[Aj4]at hi;rw[X3,<-h2 i F0,show a+1+i=a+(i+1) by omega]
theorem iN(p:LB):∀(n a:Nat),At p a (RM (Bc p a n) n)
 |0,a=>λi hi=>by rw[RM]at hi;exact absurd hi Bba
 |n+1,a=>by
  have hb:=Nc p a;have e1:Bc p a (n+1) %2=Ed p a:=by rw[Bc];omega
  have e2:Bc p a (n+1)/2=Bc p (a+1) n:=by rw[Bc];omega
  rw[RM,e1,e2];refine At.mk ?_ (iN p n (a+1));by_cases h:Ed p a=1
  ·simp[h]
  ·simp[h];omega
theorem An9{p:LB}{a q:Nat}(h:∀k,k<q->Ed p (a+k)=1):At p a (List.replicate q true):=λi hi=>by
 rw[Asw]at hi;rw[h i hi,tb,List.getD_eq_getElem?_getD,List.getElem?_replicate,Abe hi];rfl
theorem Anz{p:LB}{a:Nat}{n:Int}(hl:l<=24)(h:RB p N a l=(v,n,0)):At p a (UX l v.toNat)/\n=((a+(UX l v.toNat).length:Nat):Int):=by
 rw[RB]at h;by_cases h1:N<=a
 ·rw[Abe h1]at h;cases h
 rw[Abc h1]at h;have hone:=rR p (min 48 (N-a)) a;have hstop:=sM p (min 48 (N-a)) a;have hle:=MP p (min 48 (N-a)) a;generalize Gc p a (min 48 (N-a))=q at*
 by_cases h2:q<min 48 (N-a)
 ·rw[Abe h2]at h;by_cases h3:N<a+q+1+l
  ·rw[Abe h3]at h;cases h
  rw[Abc h3]at h;obtain⟨rfl,rfl,_⟩:_/\ _/\ _:=by simpa only[As8]using h
  have hv:=Jg p l (a+q+1);have hp:=Adr (show 0<2 by omega) hl;have hq2:q*2^l<=47*2^l:=Ab7 _ F0;have ht:(UInt32.ofNat (q*2^l+Bc p (a+q+1) l)).toNat=q*2^l+Bc p (a+q+1) l:=Tj F0;have hd:(q*2^l+Bc p (a+q+1) l)/2^l=q:=by
   rw[Apd,Nat.mul_add_div (Nat.two_pow_pos l),Axl hv,Axs]
  have hm:(q*2^l+Bc p (a+q+1) l) %2^l=Bc p (a+q+1) l:=by
   rw[Apd,Nat.mul_add_mod,Abo hv]
  rw[ht,UX,hd,hm,Abc F0];refine⟨(An9 hone).app ?_,by rw[Ab0,Asw,Aj4,Og];omega⟩;rw[Asw];refine At.mk ?_ (iN p l (a+q+1));have:=hstop h2;have:=Nc p (a+q);simp;omega
 ·rw[Abc h2]at h;by_cases h3:q=48
  ·rw[Abe h3]at h;by_cases h4:N<a+48+32
   ·rw[Abe h4]at h;cases h
   rw[Abc h4]at h;by_cases h5:Bc p (a+48) 32/2^l<48
   ·rw[Abe h5]at h;cases h
   rw[Abc h5]at h;obtain⟨rfl,rfl,_⟩:_/\ _/\ _:=by simpa only[As8]using h
   have hv:=Jg p 32 (a+48);have ht:(UInt32.ofNat (Bc p (a+48) 32)).toNat=Bc p (a+48) 32:=Tj F0;rw[ht,UX,Abe F0];refine⟨(An9 (λk hk=>hone k F0)).app ?_,by rw[Ab0,Asw,Og,Avp]⟩;rw[Asw];exact iN p 32 (a+48)
  ·rw[Abc h3]at h;cases h
theorem Akb{p:LB}{a:Nat}{n:Int}(hk:k<=24)(hl:l<=24)(h:XQ p N a k l=(v,n,0)):At p a (Tn k l v)/\n=((a+(Tn k l v).length:Nat):Int):=by
 rw[XQ]at h;by_cases h1:N<=a
 ·rw[Abe h1]at h;cases h
 rw[Abc h1]at h;by_cases h2:Ed p a=0
 ·rw[Abe h2]at h;by_cases h3:N<a+1+k
  ·rw[Abe h3]at h;cases h
  rw[Abc h3]at h;obtain⟨rfl,rfl,_⟩:_/\ _/\ _:=by simpa only[As8]using h
  have hv:=Jg p k (a+1);have hp:=Adr (show 0<2 by omega) hk;have ht:(UInt32.ofNat (Bc p (a+1) k)).toNat=Bc p (a+1) k:=Tj F0;rw[Tn,ht,Abe hv];exact⟨At.mk (by rw[h2];rfl) (iN p k (a+1)),by rw[Aj4,Og,Avp,Azz 1 k]⟩
 ·rw[Abc h2]at h;by_cases h3:(RB p N (a+1) l).2.2≠0
  ·rw[Abe h3]at h;exact absurd (congrArg (λz=>z.2.2) h) h3
  rw[Abc h3]at h;obtain⟨⟨r,n',e⟩,hr⟩:∃z,RB p N (a+1) l=z:=⟨_,rfl⟩;rw[hr]at h h3;simp only at h h3;obtain rfl:e=0:=by simpa using h3
  by_cases h4:4294967295<r.toNat+2^k
  ·rw[Abe h4]at h;cases h
  rw[Abc h4]at h;obtain⟨rfl,rfl,_⟩:_/\ _/\ _:=by simpa only[As8]using h
  obtain⟨g1,g2⟩:=Anz hl hr;have ht:(UInt32.ofNat (r.toNat+2^k)).toNat=r.toNat+2^k:=Tj F0;have hb:=Nc p a;rw[Tn,ht,Abc F0,Nat.add_sub_cancel];exact⟨At.mk Ba5 g1,by rw[Aj4];omega⟩
theorem Abl(ch:Nat)(V w:LU):∀i,i<=V.length->Tr ch (V++w) i=Tr ch V i
 |0,_=>rfl
 |i+1,h=>by
  have e1:(V++w).take i=V.take i:=List.take_append_of_le_length F0;have e2:(V++w).getD i 0=V.getD i 0:=by rw[List.getD_eq_getElem?_getD,List.getD_eq_getElem?_getD,List.getElem?_append_left F0]
  rw[Tr,Tr,Abl ch V w i F0,e1,e2]
theorem Ajo(ch:Nat)(V:LU)(x:UInt32):Tr ch (V++[x]) (V++[x]).length=Tr ch V V.length++Tn (now ch V).1 (now ch V).2.1 x:=by
 rw[Ab0,Az1,Tr,Abl ch V [x] V.length (Aiw _),List.take_left];congr 2;rw[List.getD_eq_getElem?_getD,List.getElem?_append_right (Aiw _),Nat.sub_self];rfl
theorem qx(ch:Nat)(p:LB)(N:Nat):∀(j a:Nat) (out v:LU) (a':Nat),Vx ch p N j a out=(v,a',0)->At p 0 (Tr ch out out.length)->a=(Tr ch out out.length).length->At p 0 (Tr ch v v.length)/\a'=(Tr ch v v.length).length/\v.length=out.length+j
 |0,a,out,v,a',h,h1,h2=>by
  rw[Vx]at h;obtain⟨rfl,rfl,_⟩:_/\ _/\ _:=by simpa only[As8]using h
  exact⟨h1,h2,rfl⟩
 |j+1,a,out,v,a',h,h1,h2=>by
  rw[Vx]at h;by_cases hc:(It ch p N a out).2.2≠0
  ·rw[Abe hc]at h;exact absurd (congrArg (λz=>z.2.2) h) hc
  rw[Abc hc]at h;obtain⟨⟨x,n,e⟩,hr⟩:∃z,It ch p N a out=z:=⟨_,rfl⟩;rw[hr]at h hc;simp only at h hc;obtain rfl:e=0:=by simpa using hc
  have hk:=S0 ch out;have hw:=(VH (by rw[hr]:(It ch p N a out).2.2=0)).2;rw[hr]at hw;obtain⟨g1,g2⟩:=Akb hk.1 hk.2 hr;have hsn:=Ajo ch out x;have hcl:a+n.toNat=(Tr ch (out++[x]) (out++[x]).length).length:=by rw[hsn,Ab0,h2];omega
  have:=qx ch p N j (a+n.toNat) (out++[x]) v a' h (by
   rw[hsn];refine h1.app λi hi=>?_;have:=g1 i hi;simp only at hw;rw[Avs,nG,Abe F0]at this;rw[<-this,h2,Avs]) hcl
  rw[Ab0,Az1]at this;exact⟨this.1,this.2.1,F0⟩
theorem Amn{p:LB}{E:List Bool}(h:At p 0 E)(h1:E.length<=8*p.length)(h2:8*p.length-E.length<8)(h3:Bc p E.length (8*p.length-E.length)=0):p=Jr E:=by
 apply wQ (by rw[Vl];omega);intro k hk;rw[FM];by_cases hE:k<E.length
 ·have:=h k hE;rw[Avs]at this;exact this
 ·rw[Z2 F0];have hb:=Nc p k;by_cases h0:Ed p k=1
  ·exact absurd h3 (ru (8*p.length-E.length) E.length (k-E.length) F0 (by rw[show E.length+(k-E.length)=k by omega];exact h0))
  ·omega
theorem Avh(n:UInt32):aV (HL n)=n:=by
 have h:=n.toNat_lt;have hh:∀z:Int, -2147483648<=z->z<2147483648-> (Int32.ofInt z).toInt=z:=λz h1 h2=>by
  rw[Ayr,show Int32.size=4294967296 from rfl];exact Baj F0 F0
 rw[HL];by_cases h0:n.toNat %2=0
 ·rw[Abe h0,aV,hh _ F0 F0,Abe F0];apply UInt32.toNat_inj.1;rw[Tj F0];omega
 ·rw[Abc h0,aV,hh _ F0 F0,Abc F0];apply UInt32.toNat_inj.1;rw[Tj F0];omega
theorem eO(a b:Int32):a+b-b=a:=by
 apply Int32.toBitVec_inj.1;simp only[Int32.toBitVec_sub,Int32.toBitVec_add];apply Ayt;simp only[BitVec.toNat_sub,BitVec.toNat_add];have:=a.toBitVec.isLt;have:=b.toBitVec.isLt;omega
theorem Ajc(bits:Int)(s:CS)(y:Int32):uY bits s (wH bits s y)=y:=by
 rw[wH,uY,eO,eO]
theorem Au5{f:Nat->Int32}{g:Nat->Int32}(h1:1<=ch)(hg:∀i,i<ch->g i=Q7 f ch (ch-1-i))(i:Nat)(hi:i<ch):mxV g ch i=f i:=by
 rw[mxV];by_cases h2:i+1<ch
 ·rw[Abe h2,hg (i+1) h2,hg i hi,show ch-1-i=(ch-1-(i+1))+1 by omega,Q7,qb];congr 1;omega
 ·rw[Abc h2];obtain rfl:i=ch-1:=F0
  by_cases h3:1<ch
  ·rw[Abe h3,hg (ch-1) F0,hg (ch-2) F0,show ch-1-(ch-1)=0 by omega,show ch-1-(ch-2)=0+1 by omega,Q7.eq_2,qb,Q7,Abe h3,Nat.sub_zero,eO]
  ·rw[Abc h3,hg (ch-1) F0,show ch-1-(ch-1)=0 by omega,Q7,Abc h3]
theorem Ats{m:LX}(h1:1<=ch)(hm:m.length %ch=0):mx ch (qN ch m)=m:=by
 apply Awe (by rw[XH,HA]);intro k hk1 hk2;have hr:=Ax5 k (show 0<ch by omega);have hle:=Nat.mod_le k ch;have ha:(k-k %ch) %ch=0:=Nat.mod_eq_zero_of_dvd (Nat.dvd_sub_mod k);have hb:=pC ha hm F0;rw[<-Jf hk1,<-Jf hk2,Alc (by rw[HA];omega),Au5 (f:=λi=>m.getD (k-k %ch+i) 0) h1 (λi hi=>pK ha hi F0) (k %ch) hr];congr 1;omega
theorem Afh(bits:Int)(ch:Nat)(t:LX)(v:LU):∀i,i<=v.length->evl bits ch t (lY bits ch t v) i=v.take i
 |0,_=>by simp[evl]
 |i+1,h=>by
  have hcs:cst bits ch t (v.take i) (i %ch) i=cst bits ch t v (i %ch) i:=by
   have:=Afz bits ch t (v.take i) (v.drop i) (i %ch) i Bbm;rw[Axj]at this;exact this.symm
  have hg:v.getD i 0=v[i]:=by rw[List.getD_eq_getElem?_getD,List.getElem?_eq_getElem F0];rfl
  rw[evl,Afh bits ch t v i F0,hcs,gy _ _ _ _ F0,Ajc,Avh,hg,Pa F0]
theorem Aje{bits:Int}{v:LU}(h1:1<=ch)(hm:v.length %ch=0):Nj bits ch t (qN ch (lY bits ch t v))=v:=by
 rw[Nj,Ats h1 (by rw[MX];exact hm),HA,MX,Afh _ _ _ _ _ (Aiw _),Ax4]
theorem Aey:∀(l:LB),Tk (Ec l) l.length=l:=λl=>by
 apply S3 (Dk _ _);rw[vR,Abo (E8 l)]
theorem Ada{bits:Int}{n:Nat}{x:LX}{b:LB}(hb:Ch bits)(ht:t.length=16)(h1:1<=ch)(h6:ch<=6)(n1:1<=n)(n2:n<=4000/ch)
  (h:El (ch:Int) bits t (n:Int) b=some (x,0)):b=Yi bits ch t x/\x.length=n*ch/\inR bits x:=by
 have hn:n*ch<=4000:=by
  have:=Ab7 ch n2;have h2:=Axz 4000 ch;omega
 have hq4:=vE h1 h6;have hn0:1<=n*ch:=Ba4 n1 h1;generalize 4000/ch=mm at*
 have hh:=NY bits;have Aeg:Cr (ch:Int) bits (n:Int)=some 0:=by
  rw[Cr,Cf,Abc Bbe,RU hb,Aa,Abc Bbd,Aa,Abc Bbp,Bf Bbc,Aa,hq4,Abc Bbb]
 rw[El,Rc,Aeg,Aa,Abc Ba9,xZ,Aa]at h;have hs:Wa b=0:=by
  refine Awh λhs=>?_;rw[Abe (by rw[Ah];simpa using hs)]at h;exact absurd (congrArg (λz=>z.2) (Asp h)) hs
 have hl:=Abd hs;have e4:Aj (Ac b) 4=((b.length-4:Nat):Int):=by rw[Ac,Bi];omega
 rw[hs,Abc F6,e4,Ji,Aa,Afl]at h;have hpl:(b.take (b.length-4)).length=b.length-4:=by rw[Afi];omega
 have Azr:(Dn (b.take (b.length-4))).toNat=Ec (b.drop (b.length-4)):=by
  rw[Wa,Abc F0,Abc F0]at hs;by_cases h:(Dn (b.take (b.length-4))).toNat≠Ec (b.drop (b.length-4))
  ·rw[Abe h]at hs;cases hs
  ·simpa using h
 have hbs:b=b.take (b.length-4)++Tk (Dn (b.take (b.length-4))).toNat 4:=by
  have:=Aey (b.drop (b.length-4));rw[Atc,show b.length-(b.length-4)=4 by omega]at this;rw[Azr,this,Axj]
 generalize b.take (b.length-4)=p at*
 have hread:=Afr (N:=8*p.length) (p:=p) rfl F0 h1 h6 hn;obtain⟨⟨v,a',e⟩,hv⟩:∃z,Vx ch p (8*p.length) (n*ch) 0 []=z:=⟨_,rfl⟩;have hat:=(vJ (ch:=ch) (p:=p) (N:=8*p.length) (n*ch) 0 [] F0).1;rw[hv]at hread hat;simp only at hread hat;rw[hread,Aa]at h;by_cases he:e≠0
 ·rw[Abe he]at h;simp only at h;rw[Fs,Fv,Abe (by rw[Ah];simpa using he)]at h;exact absurd (congrArg (λz=>z.2) (Asp h)) he
 obtain rfl:e=0:=by simpa using he
 rw[Abc F6]at h;simp only at h;by_cases hg:7<8*p.length-a'\/Bc p a' (8*p.length-a')≠0
 ·rw[Abe hg,Fs,Fv,Abe F6]at h;exact absurd (congrArg (λz=>z.2) (Asp h)) Bba
 rw[Abc hg,Fs,Fv,Abc F6]at h;obtain⟨g1,g2,g3⟩:=qx ch p (8*p.length) (n*ch) 0 [] v a' hv (λi hi=>by simp[Tr]at hi) rfl;rw[List.length_nil,Avs]at g3;have hm:v.length %ch=0:=by rw[g3];exact Ayp n ch
 have Azs:=P4 (v:=v) hb ht h1 h6 F0 hm;have hxl:(qN ch (lY bits ch t v)).length=n*ch:=by rw[HA,MX,g3]
 rw[Azs,Aa,Nz]at h;obtain⟨e,hce⟩:=H8 hb (qN ch (lY bits ch t v)) F0;rw[hce,Aa]at h;by_cases he:e≠0
 ·rw[Abe (by rw[Ah];simpa using he)]at h;exact absurd (congrArg (λz=>z.2) (Asp h)) he
 obtain rfl:e=0:=by simpa using he
 rw[Abc F6]at h;obtain rfl:qN ch (lY bits ch t v)=x:=congrArg Prod.fst (Asp h);have hp:p=Jr (Tr ch v v.length):=Amn g1 F0 F0 (by
  rw[<-g2];refine Awh λhh=>hg (.inr hh))
 refine⟨?_,hxl,WR hb F0 hce⟩;rw[hbs,Yi,za,Aje h1 hm,hxl,<-g3,<-hp]
def oD:LB:=[84,84,65,49,2,0,2,0,16,0,4,0,0,0,5,0,0,0,53,215,167,173,160,118,203,71,159,71,36,226,16,0,0,0,7,0,0,0,251,214,78,132,4,64,128,6,6,4,107,94,4,96,129,0,174,194,153,9,74,16,0,85,195,142,200]
theorem Au8:My [120]=some oD:=by kernel_rfl
theorem is1:Cl oD [120] 0=some true:=by kernel_rfl
theorem is2:Cl oD [] 26=some true:=by kernel_rfl
theorem is3:Cl oD [121] 26=some true:=by kernel_rfl
theorem is4:Cl (oD++[0]) [120] 38=some true:=by kernel_rfl
theorem is5:Cl (oD.take (oD.length-1)) [120] 24=some true:=by kernel_rfl
def exG:LB:=[84,84,65,49,2,0,2,0,16,0,4,0,0,0,5,0,0,0,53,215,167,173,160,118,203,71,159,71,36,226,16,0,0,0,7,0,0,0,251,214,78,132,4,64,128,6,6,4,107,94,4,96,129,0,174,194,153,9,74,17,0,85,195,142,200]
theorem is6:Cl exG [120] 22=some true:=by kernel_rfl
theorem Apy:Gt=some true:=by
 rw[Gt,Au8,Aa,Abc F6,show Db [] oD=some oD from by kernel_rfl,Aa,show Ak oD (Aj (Ac oD) 6)=some 16 from by kernel_rfl,Aa,show Jb oD (Aj (Ac oD) 6) (Qv 16 1)=some exG from by kernel_rfl,Aa,
  is1,Aa,Abc F6,is2,Aa,Abc F6,is3,Aa,Abc F6,show Db oD [0]=some (oD++[0])from by kernel_rfl,Aa,is4,Aa,Abc F6,show By oD 0 (Aj (Ac oD) 1)=some (oD.take (oD.length-1))from by kernel_rfl,Aa,is5,Aa,Abc F6,is6]
theorem Of(b:LB)(i k:Nat):b.take (i+k)=b.take i++part b i k:=by
 have:=Axj i (b.take (i+k));rw[List.take_take,Aw2 (Nat.le_add_right i k)]at this;exact this.symm
theorem Afa(b:LB)(i k:Nat):part b i k=(b.drop i).take k:=by rw[part,List.take_drop]
theorem JB{b:LB}{i:Nat}(h:i+k<=b.length):Tk (Ec (part b i k)) k=part b i k:=by
 have:=Aey (part b i k);rwa [Cw h]at this
theorem Amu{b:LB}(h:(Jt b).2.2.2.2.2=0):b.take 22=oY (f0 b) (f1 b) (f2 b) (f3 b) (f4 b):=by
 obtain⟨_,hl,_,_⟩:=VP h;have h1:b.take (min 4 b.length)=Xp.take (min 4 b.length):=by
  refine Awh λhh=>?_;rw[rs1 hh]at h;exact absurd h Bba
 have h3:(Dn (b.take 18)).toNat=Ec (part b 18 4):=by
  refine Awh λhh=>?_;rw[rs3 h1 F0 hh]at h;exact absurd h Bba
 rw[show min 4 b.length=4 by omega]at h1;have hp:J9 (f0 b) (f1 b) (f2 b) (f3 b) (f4 b)=b.take 18:=by
  rw[J9,f0,f1,f2,f3,f4,JB F0,JB F0,JB F0,JB F0,JB F0,show Xp=b.take 4 from h1.symm,<-Of b 4 2,<-Of b 6 2,<-Of b 8 2,<-Of b 10 4,<-Of b 14 4]
 rw[oY,hp,h3,JB F0,<-Of b 18 4]
theorem N5(b:LB):∀n:Nat,4*n<=b.length->nB (MY b n)=b.take (4*n)
 |0,_=>by simp[nB,MY]
 |n+1,h=>by
  rw[rK,M6,N5 b n F0,Afl,JB F0,<-Of b (4*n) 4];rfl
theorem Aml{b:LB}{n:Nat}{l:LI}(h:Jw b n=(l,0)):b.take (4*n+4)=J5 l:=by
 obtain⟨s1,s2,s3,s4,_,_⟩:=nT (b:=b) (n:=n) (by rw[h]);rw[h]at s1;have hl:l=MY b n:=congrArg Prod.fst s1;have hc:(Dn (b.take (4*n))).toNat=Ec (part b (4*n) 4):=by
  refine Awh λhh=>?_;rw[ss3 ⟨s2,s3⟩ F0 hh]at h;exact absurd (congrArg Prod.snd h) Bba
 rw[J5,hl,N5 b n F0,hc,JB F0,<-Of b (4*n) 4]
theorem Al4{b p:LB}{f c w r n A:Nat}{l:LI}(o:Opn b p f c w r n A l):f=Xm p/\part (Jy b) 22 (if f=2 then 8 else 0)=dW p:=by
 have hp:=o.pass;have I1:=o.file;have hpos:=o.pos;have hA:=o.at';obtain⟨T,hT⟩:∃T:Nat,(Bd b).1.toNat=T:=⟨_,rfl⟩;obtain⟨q0,q1,q2⟩:=FK o.tag;have hfr:Bd b=((T:Int),0):=Prod.ext (by show(Bd b).1=(T:Int);omega) o.tag;have hh:=o.head;have hprog:=o.prog;have hdr':Jy b=b.drop T:=by rw[Jy,hT]
 rw[hdr']at hh⊢;rw[hT]at hpos;obtain⟨_,_,_,_,Avr⟩:=HU o.shape;rw[Fj,Ud,Abc Ba8,Abc Ba8,AM b F0,hfr,Aa]at hprog;simp only at hprog;rw[Abc F6,Ha,Aa,Afl,iS _ Bbw,hh,Aa]at hprog;simp only at hprog;rw[Abc F6]at hprog;have bad:∀{z:Op8},some (jL 26)=some z->z.2.2.2.2.2.2.2=0->False:=λh1 h2=>by
  cases h1;exact absurd h2 F6
 by_cases h0:p=[]
 ·have hne2:(p==([]:LB))=true:=by rw[h0];rfl
  by_cases h1:f=1
  ·refine⟨by rw[Xm,Abe h0,h1],?_⟩;rw[h1,dW,Abe h0];simp[part]
  ·rw[Abe (by rw[hne2,Bb];simp;omega)]at hprog;exact(bad hprog rfl).elim
 ·have hne2:(p==([]:LB))=false:=by simpa using h0
  have Azt:(p !=([]:LB))=true:=by simpa using h0
  by_cases h1:f=2
  ·refine⟨by rw[Xm,Abc h0,h1],?_⟩;rw[Abe h1]at hpos⊢;have t22:Ae (T:Int) 22=((T+22:Nat):Int):=by rw[Ag];omega
   have t30:Ae ((T+22:Nat):Int) 8=((T+30:Nat):Int):=by rw[Ag];omega
   have hseg:(b.take (T+30)).drop (T+22)=part (b.drop T) 22 8:=by
    rw[part,List.take_drop,Bav]
   rw[Abc (by rw[hne2,h1];decide),Abe Azt,t22,t30,Abc F2,Ou,Aa,Afl,Afl,hseg,ug (Cw Bbw) hp,Aa]at hprog;simp only at hprog;rw[Abc F6]at hprog;by_cases hd:part (b.drop T) 22 8=Tk (Zf p).toNat 8
   ·rw[hd,dW,Abc h0]
   ·rw[Abe (by simpa using hd)]at hprog;exact(bad hprog rfl).elim
  ·rw[Abe (by rw[hne2,Bb];simp;omega)]at hprog;exact(bad hprog rfl).elim
theorem Ang(X:Nat->LX)(E:Nat->Int)(be:Int):∀(j k:Nat) (acc Y:LX),qQ X E be j k acc=(Y,0)-> (∀i,k<=i->i<k+j->E i=0)/\Y=acc++uZ X j k
 |0,k,acc,Y,h=>by
  rw[qQ]at h;by_cases hb:be≠0
  ·rw[Abe hb]at h;exact absurd (congrArg Prod.snd h) Bba
  ·rw[Abc hb]at h;refine⟨λi h1 h2=>by omega,?_⟩;rw[uZ,Apx];exact(congrArg Prod.fst h).symm
 |j+1,k,acc,Y,h=>by
  rw[qQ]at h;by_cases he:E k≠0
  ·rw[Abe he]at h;exact absurd (congrArg Prod.snd h) he
  ·rw[Abc he]at h;obtain⟨h1,h2⟩:=Ang X E be j (k+1) _ _ h;refine⟨λi a1 a2=>?_,by rw[h2,uZ,Apj]⟩;by_cases hk:i=k
   ·subst hk;simpa using he
   ·exact h1 i F0 F0
theorem L7(c:Nat)(X:Nat->LX):∀(fr:LI) (k:Nat),(∀i (h:i<fr.length),(X (k+i)).length=fr[i].toNat*c)->Un c (uZ X fr.length k) fr=(List.range fr.length).map (λi=>X (k+i))/\ (uZ X fr.length k).length=(fr.map λm=>m.toNat).sum*c
 |[],k,_=>⟨rfl,by simp[uZ]⟩
 |m::fr,k,h=>by
  have h0:(X k).length=m.toNat*c:=h 0 Bba;obtain⟨i1,i2⟩:=L7 c X fr (k+1) λi hi=>by
   have:=h (i+1) (by simpa using hi);rw[show k+1+i=k+(i+1) by omega,this];rfl
  refine⟨?_,?_⟩
  ·rw[Aj4,uZ,Un,<-h0,List.take_left,List.drop_left,i1,List.range_succ_eq_map,Avz,List.map_map];congr 1;apply Az9;intro i _
   show X (k+1+i)=X (k+(i+1));congr 1;omega
  ·rw[Aj4,uZ,Ab0,h0,i2,Avz,Avv,Auj]
theorem O2:∀(fr:LI),(∀m∈fr,0<=m)-> (((fr.map λm=>m.toNat).sum:Nat):Int)=fr.sum
 |[],_=>rfl
 |m::fr,h=>by
  have h0:=h m Au1;have:=O2 fr λx hx=>h x (Aj8 _ hx);rw[Avz,Avv,Avv];omega
theorem Afd{α:Type}(X:Nat->List α):∀(j k:Nat) (y:α),y∈uZ X j k->∃i,k<=i/\i<k+j/\y∈X i
 |0,k,y,h=>by rw[uZ]at h;cases h
 |j+1,k,y,h=>by
  rw[uZ,List.mem_append]at h;rcases h with h|h
  ·exact⟨k,F0,F0,h⟩
  ·obtain⟨i,a,b,d⟩:=Afd X j (k+1) y h;exact⟨i,F0,F0,d⟩
theorem R2{b:LB}{A:Nat}{l:LI}(h5:∀x∈l,5<=x):∀j:Nat,j<=l.length-> (A:Int)+(l.take j).sum<=b.length-> ((List.range j).map (D9 b A l)).flatten=(b.take ((A:Int)+(l.take j).sum).toNat).drop A
 |0,_,_=>by
  simp only[List.range_zero,Bay,List.flatten_nil,Aya,List.sum_nil,Int.add_zero,Afl];rw[List.drop_eq_nil_of_le Bbm]
 |j+1,hj,h=>by
  have b1:=Hk h5 j;have b2:=Nl (l:=l) (i:=j) F0;have b3:=h5 l[j] (Avx F0);rw[List.range_succ,Az8,List.flatten_append,R2 h5 j F0 F0];simp only[Avz,Bay,Azx,List.flatten_nil,Apx];rw[D9];have e1:∃u v:Nat,((A:Int)+(l.take j).sum).toNat=A+u/\ ((A:Int)+(l.take (j+1)).sum).toNat=A+u+v:=⟨((l.take j).sum).toNat,(l[j]).toNat,F0,F0⟩;obtain⟨u,v,e1,e2⟩:=e1;rw[e1,e2];have h1:(b.take (A+u))=(b.take (A+u+v)).take (A+u):=by rw[List.take_take,Aw2 F0]
  have h2:(b.take (A+u+v)).length=A+u+v:=by rw[Afi];omega
  rw[h1];generalize b.take (A+u+v)=q at*
  conv=>rhs;rw[<-Axj (A+u) q,List.drop_append_of_le_length Bbm]
theorem Ah8{b p:LB}(hb:b.length<=100100)(hp:p.length<=64){C W R:Int}{X:LX}(h:Hl b p=some (C,W,R,X,0)):
  ∃(c w r n T:Nat) (d1 d2 d3:Int),C=(c:Int)/\W=(w:Int)/\R=(r:Int)/\ClipOk c w r n X/\Bk (c:Int) (w:Int) (r:Int) X=some 0/\T+(EB c w r n X p).length<=b.length/\ (b.drop T).take (EB c w r n X p).length=EB c w r n X p/\KA b=some ((T:Int),d1,d2,d3,((T+(EB c w r n X p).length:Nat):Int),0):=by
 rcases Aet b p F0 hp with⟨e,he,_,_,h3,_⟩|⟨f,c,w,r,n,A,l,o,h3,_⟩
 ·rw[h]at h3;simp only[I5,Aj0,As8]at h3;exact absurd h3.2.2.2.2.symm he
 have hb:=o.file;rw[h]at h3;have h3:=Asp h3;rw[Ag0,UT]at h3;obtain⟨⟨Y,e⟩,hY⟩:∃z,qQ (λk=>smF w (fD b p f c w r n A l k)) (λk=>(fD b p f c w r n A l k).2) (Adn b A l) l.length 0 []=z:=⟨_,rfl⟩;rw[hY]at h3;by_cases he:e≠0
 ·rw[Abe he]at h3;simp only[I5,As8]at h3;exact absurd h3.2.2.2.2.symm he
 obtain rfl:e=0:=by simpa using he
 rw[Abc Bba]at h3;simp only[As8]at h3;obtain⟨rfl,rfl,rfl,rfl,_⟩:=h3;obtain⟨hE,hX⟩:=Ang _ _ _ l.length 0 [] X hY;rw[Av0]at hX;obtain⟨hc,hw,hr,hn,Avr⟩:=HU o.shape;have hfit:=o.fit;simp only[FW,Ab6]at hfit;have hA:=o.at';have hlen:=o.len;have hs1:=o.some1;have Azu:(Sk p).length=16:=lR p;have hk:∀k,(hk:k<l.length)->D9 b A l k=Yi (w:Int) c (Sk p) (smF w (fD b p f c w r n A l k))/\ (smF w (fD b p f c w r n A l k)).length=((Ax (Ar r) n)[k]' F0).toNat*c/\inR (w:Int) (smF w (fD b p f c w r n A l k))/\ (A:Int)+(l.take (k+1)).sum<=b.length:=by
  intro k hk;obtain⟨m,x,s,e,g⟩:=qT o k hk;have e0:e=0:=by
   have:=hE k F0 F0;simpa [g.eq]using this
  subst e0;have hmm:=g.mom;rw[Ci]at hmm;have hmm:=Asp hmm;obtain⟨m',hm',m1,m2⟩:=wV (Ka r) hn (Avx (show k<(Ax (Ar r) n).length by omega));have hs:=g.lY hw;rcases g.way with⟨_,hw2⟩|⟨w1,_,w3⟩
  ·cases hw2
  obtain⟨k1,k2,k3⟩:=Ada hw Azu hc.1 hc.2 g.pos.1 F0 w3;rw[g.eq,hs,hmm,Afl];exact⟨k1,k2,k3,w1⟩
 obtain⟨c1,c2⟩:=L7 c (λk=>smF w (fD b p f c w r n A l k)) (Ax (Ar r) n) 0 (λi hi=>by rw[Avs];exact(hk i F0).2.1);rw[<-hlen,<-hX]at c1 c2;have hge:=Vf (Ka r) hn;have hsum:=O2 (Ax (Ar r) n) λm hm=>by have:=hge m hm;omega
 rw[tZ hn]at hsum;have hXl:X.length=n*c:=by rw[c2];congr 1;omega
 have Ab4:ClipOk c w r n X:=⟨hc,hw,hr,⟨hn,hfit.1⟩,hXl,hfit.2,λy hy=>by
  rw[hX]at hy;obtain⟨i,_,i2,i3⟩:=Afd _ l.length 0 y hy;exact(hk i F0).2.2.1 y i3⟩
 have h24:=Arn o hn (Aiw n) hXl Ab4.rng;have Avu:dO c w r n X p=(List.range l.length).map (D9 b A l):=by
  rw[dO,pL,c1,List.map_map];apply Az9;intro i hi;rw[List.mem_range]at hi
  show Yi (w:Int) c (Sk p) (smF w (fD b p f c w r n A l (0+i)))=_;rw[Avs,(hk i hi).1]
 have Atm:(A:Int)+l.sum<=b.length:=by
  obtain⟨K,hK⟩:∃K,l.length=K+1:=⟨l.length-1,F0⟩;have:=(hk K F0).2.2.2;rwa [Avw F0]at this
 have Atn:=R2 (b:=b) (A:=A) o.five l.length (Aiw _) (by rw[Ax4];exact Atm);rw[<-Avu,Ax4]at Atn;have Aoz:Mp (dO c w r n X p)=l:=by
  apply Awe (by rw[FR,Avu];simp);intro k k1 k2;have b1:=Hk o.five k;have b2:=Nl (l:=l) k2;have b3:=o.five l[k] (Avx k2);have b4:=(hk k k2).2.2.2;simp only[Mp,Avu,Ay7,Ayu,D9,Atc,Afi];omega
 obtain⟨hfm,hdg⟩:=Al4 o;have hpos:=o.pos;obtain⟨q0,q1,q2⟩:=FK o.tag;obtain⟨T,hT⟩:∃T:Nat,(Bd b).1.toNat=T:=⟨_,rfl⟩;have hTI:(Bd b).1=(T:Int):=F0
 have hdr':Jy b=b.drop T:=by rw[Jy,hT]
 have hhead:=o.head;have htab:=o.tab;rw[hdr']at hdg hhead;rw[hT]at hpos htab;obtain⟨g1,_,_,_⟩:=VP (b:=b.drop T) (by rw[hhead]);have Ax1:=Amu (b:=b.drop T) (by rw[hhead]);rw[hhead]at g1;simp only[As8,Bat]at g1;obtain⟨i1,i2,i3,i4,i5,_⟩:=g1;rw[<-i1,<-i2,<-i3,<-i4,<-i5]at Ax1;have htb:=Aml htab;have Asr:=Acs o Atm;obtain⟨D,hD⟩:∃D:Nat,(if f=2 then 8 else 0)=D:=⟨_,rfl⟩;rw[hD]at hdg hpos htb;have hF:EB c w r n X p=(b.drop T).take (22+D+(4*l.length+4)+(dO c w r n X p).flatten.length):=by
  have e3:(b.drop T).take (22+D)=oY f c w r n++dW p:=by rw[Of,Ax1,hdg]
  have e4:(b.drop T).take (22+D+(4*l.length+4))=oY f c w r n++dW p++J5 l:=by
   rw[Of,e3];congr 1;rw[<-htb,Afa,Bav,Avp]
  rw[EB,Aoz,<-hfm,Of,e4,Apj,Apj];congr 3;rw[Afa,Bav,show T+(22+D+(4*l.length+4))=A by omega];have Ass:=XR (dO c w r n X p);rw[Aoz]at Ass
  conv=>lhs;rw[Atn,Ass,show((A:Int)+((dO c w r n X p).flatten.length:Nat)).toNat=A+(dO c w r n X p).flatten.length by omega,<-List.take_drop]
 have hlF:=congrArg List.length hF;have Ass:=XR (dO c w r n X p);rw[Aoz]at Ass;rw[Afi,Atc]at hlF;refine⟨c,w,r,n,T,(T:Int)+22,(A:Int)-4*(l.length:Int)-4,(A:Int),rfl,rfl,rfl,Ab4,h24,F0,?_,?_⟩
 ·rw[show(EB c w r n X p).length=22+D+(4*l.length+4)+(dO c w r n X p).flatten.length by omega];exact hF.symm
 ·rw[Asr.1,hTI,show(A:Int)+l.sum=((T+(EB c w r n X p).length:Nat):Int) by omega]
theorem Alf{b p:LB}(hb:b.length<=100100)(hp:p.length<=64):∃(C W R:Int) (X:LX) (e:Int),Hl b p=some (C,W,R,X,e)/\ (e≠0->X=[]):=by
 rcases Aet b p hb hp with⟨e,he,_,_,h3,_⟩|⟨f,c,w,r,n,A,l,o,h3,_⟩
 ·exact⟨_,_,_,_,_,h3,λ_=>rfl⟩
 rw[Ag0,UT]at h3;generalize qQ (λk=>smF w (fD b p f c w r n A l k)) (λk=>(fD b p f c w r n A l k).2) (Adn b A l) l.length 0 []=z at h3;by_cases he:z.2≠0
 ·rw[Abe he]at h3;exact⟨_,_,_,_,_,h3,λ_=>rfl⟩
 ·rw[Abc he]at h3;exact⟨_,_,_,_,_,h3,λh=>absurd rfl h⟩
theorem ClipOk.Aw0{c w r n:Nat}{x:LX}(h:ClipOk c w r n x)(h24:Bk (c:Int) (w:Int) (r:Int) x=some 0):Cx (c:Int) (w:Int) (r:Int) x=some 0:=by
 rcases wu (c:Int) (w:Int) (r:Int) x with⟨e8,_⟩|⟨_,_,_,_,_,_,_,_,_,e⟩
 ·rw[h24]at e8;exact absurd (Asp e8) F6
 ·exact e
theorem law_ValidOnly(b p:LB):Qg b p=some true:=by
 rw[Qg,We,Apy,Aa,CB,Aa];by_cases hc:((((Eu (Ac b) 4000&&Cg (Ac b) 99900)||Eu (Ac b) 100100)||Eu (Ac p) 64)|| !true)=true
 ·rw[Abe hc]
 rw[Abc hc];simp only[Ax8,not_or,Al,Af,Ac,Ab6]at hc;have hp:p.length<=64:=F0
 have hb:b.length<=100100:=F0
 obtain⟨C,W,R,X,e,hv,hX⟩:=Alf hb hp;rw[hv,Aa];simp only;by_cases he:e≠0
 ·rw[Abe (by rw[Ah];simpa using he),Abe (by rw[hX he];rfl),SK,hv,Aa,Aa];simp[Bb]
 obtain rfl:e=0:=by simpa using he
 obtain⟨c,w,r,n,T,d1,d2,d3,rfl,rfl,rfl,Ab4,h24,hlen,hF,hparts⟩:=Ah8 hb hp hv;have henc:=oq Ab4 (Ab4.Aw0 h24) p hp;rw[Abc F6,Wb,Vy,hparts,Aa];simp only;rw[h24,Aa,Abc (by simp[Ah,Af,Al,Ac];omega),henc,Aa];simp only;rw[Abe F6,Ou,Aa,Afl,Afl,<-List.take_drop,hF];simp
end Go.Pl
