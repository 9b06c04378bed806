/- A part of a proof (see the text that ends in Proof). No conditions. -/
import Derived.Test.YtaokmgopghpikaaGreatDoorVgWA
import Derived.KernelRfl
set_option linter.unusedVariables false
set_option linter.unusedSimpArgs false
namespace Go.Pl
open Go Go.Lv
theorem zO(bits:Int)(ch:Nat)(t x:LX):(Js bits ch t x).length=x.length:=kR _ _ _ _ _
theorem Ajv{bits:Int}{ch:Nat}{t x:LX}{i:Nat}(h:i<x.length):(Js bits ch t x).getD i 0=iM (xC bits (cst bits ch t (Js bits ch t x) (i %ch) i) ((mx ch x).getD i 0)):=by
 obtain⟨w,hw⟩:=vk bits ch t (mx ch x) (x.length-(i+1)) (i+1);rw[show i+1+(x.length-(i+1))=x.length by omega,l?,D2]at hw;have hli:=kR bits ch t (mx ch x) i;have hw':Js bits ch t x=_:=hw;have hg:(Js bits ch t x).getD i 0=iM (xC bits (cst bits ch t (l? bits ch t (mx ch x) i) (i %ch) i) ((mx ch x).getD i 0)):=by
  rw[hw',D!,P3 F0,hli,Y6];rfl
 have hc:cst bits ch t (Js bits ch t x) (i %ch) i=cst bits ch t (l? bits ch t (mx ch x) i) (i %ch) i:=by rw[hw',qZ _ _ _ _ _ _ _ F0]
 rw[hg,hc]
section
variable {bits:Int} {ch:Nat} {t x:LX} (hb:Cj bits) (ht:t.length=16) (h1:1<=ch) (h6:ch<=6) (hx1:1<=x.length) (hx4:x.length<=4000) (hm:x.length %ch=0)
include hb ht h1 h6 hx1 hx4 hm
omit ht in
theorem Ar1(hr:inR bits x):HO (ch:Int) bits x=some 0:=by
 rw[HO,vU hb h1 h6,Aa,A! F6,aD hb x hx4,Aeh hb hx4 hr,Aa,A! F6,A! (by rw[Bb,Ac,Q7];omega),Bf K0,Aa,Ac,OT,hm,A! F6]
omit hm in
theorem Acq:∀(j i q:Nat),i+j=x.length->j<q->
  Jb (mx ch x) (ch:Int) bits q (i:Int) (cts bits ch t (Js bits ch t x) i) ((Js bits ch t x).take i)=some (Js bits ch t x,0)
 |j,i,0,_,h=>absurd h (SK _)
 |0,i,q+1,hi,_=>by
  have hl:=PB ch x;have hV:=zO bits ch t x;rw[Jb,Rj,A! F2,Q0 F0];rfl
 |j+1,i,q+1,hi,hq=>by
  have hl:=PB ch x;have hV:=zO bits ch t x;have hc:i %ch<6:=M0 (OP _ F0) h6;have hok:=wo bits ch ht (Js bits ch t x) (i %ch) i;have hs:=qd (bits:=bits) (ch:=ch) (t:=t) (v:=Js bits ch t x) (i:=i) hc rfl;have hg:=Ajv (bits:=bits) (ch:=ch) (t:=t) (x:=x) (i:=i) F0;have ih:=Acq j (i+1) q F0 F0;have htk:(Js bits ch t x).take i++[(Js bits ch t x).getD i 0]=(Js bits ch t x).take (i+1):=by
   have:(Js bits ch t x).getD i 0=(Js bits ch t x)[i]' F0:=by rw[D!,KV F0];rfl
   rw[this,Mx F0]
  have hfw:=Ajj hb hok (cst bits ch t (Js bits ch t x) (i %ch) i).1 ((mx ch x).getD i 0);rw[Jb,Rj,A4 F2,H? F0,Aa,Aa,Bf K0,Aa,OT,sF hc,Aa,Aa];refine J2 (congrArg (λo=>Option.bind o _) hfw) ?_;rw[Aa];simp only;rw[A! F6];have hst:((bits,(mx ch x).getD i 0,(sB bits,yL (cst bits ch t (Js bits ch t x) (i %ch) i).2.1 (cst bits ch t (Js bits ch t x) (i %ch) i).2.2 (xC bits (cst bits ch t (Js bits ch t x) (i %ch) i) ((mx ch x).getD i 0)),((mx ch x).getD i 0-gs (shB bits) (cst bits ch t (Js bits ch t x) (i %ch) i).1)::(cst bits ch t (Js bits ch t x) (i %ch) i).2.2.take 15,()),()):CL)=toC bits (U3 bits (cst bits ch t (Js bits ch t x) (i %ch) i) (OO ((Js bits ch t x).getD i 0))):=by
   rw[hg,vM,toC,U3,Acd];simp only;rw[xC,TK]
  refine J2 (congrArg (λo=>Option.bind o _) ((congrArg (λz=>He (cts bits ch t (Js bits ch t x) i) ((i %ch:Nat):Int) z) hst).trans hs)) ?_;rw[Aa,Akc,Aa];have hg2:iM (xC bits ((cst bits ch t (Js bits ch t x) (i %ch) i).1,(cst bits ch t (Js bits ch t x) (i %ch) i).2.1,(cst bits ch t (Js bits ch t x) (i %ch) i).2.2) ((mx ch x).getD i 0))=(Js bits ch t x).getD i 0:=hg.symm;rw[hg2,Bu (by rw[J1];simp;omega),Aa,htk,Ag];exact ih
theorem Abd(hr:inR bits x):BZ (ch:Int) bits t x=some (Js bits ch t x,0):=by
 have hl:=PB ch x;have h:=Acq hb ht h1 h6 hx1 hx4 x.length 0 Aq F0 C0;have e:Aq=(Aq-7)+1+1+1+1+1+1+1:=by have:=Ao;omega
 have hs:EL (ch:Int) bits t (mx ch x) 0 (List.replicate 6 ((0:Int),(0:Int32),((0:Int),(List.replicate 16 (0:Int32)),(List.replicate 16 (0:Int32)),()),()))=Ack (ch:Int) bits (mx ch x) (cts bits ch t (Js bits ch t x) 0):=by
  rw[EL,e];obtain rfl|rfl|rfl:=hb<;>rfl
 rw[BZ,CA,Ar1 hb h1 h6 hx1 hx4 hm hr,Aa,A! F6,Aho ch x h1 h6 hm hx4,Aa];simp only;rw[A! F6];refine J2 hs ?_;exact h
end
theorem Aa8(ch:Nat):DG=some (sts ch []):=by
 have e:Aq=(Aq-7)+1+1+1+1+1+1+1:=by have:=Ao;omega
 rw[DG,BS,Ad2,e];rfl
theorem Amt(c:List Bool){n:Nat}(h:n<=c.length):Na (Jf c) 0 n=Jf (c.take n):=by
 have hl:(c.take n).length=n:=by rw[J1];omega
 apply Ax7 (by rw[Hi,Vu,hl]);intro i hi;rw[pA,J?,AE,AE];by_cases hlt:i<n
 ·rw[A4 hlt,tb,tb,D!,D!,P0,A4 hlt]
 ·rw[A! hlt,qw F0]
theorem As9(a:UInt8){k:Nat}(hk:k<8):Cy (Bw a k) (1:UInt8)=UInt8.ofNat (a.toNat/2^k %2):=by
 apply UInt8.toNat_inj.1;rw[oV,lg,uy,M5]
 show _&&&1=_;rw[mE];generalize a.toNat/2^k=X;omega
theorem Aig (E code:List Bool)(hE:E.length+code.length<=330000)(bk:Int->List (Int×Int×UInt64×UInt64×Unit)->Int->LB->Bg)(V:LU)(b f g:Int)(k:List (Int×Int×UInt64×UInt64×Unit)):∀(j o q:Nat),o+j=code.length->j<q->
  Fl bk V b f (code.length:Int) g k (Jf code) q (o:Int) ((E.length+o:Nat):Int) (Na (Jf (E++code)) 0 (E.length+o))=bk (Ae g 1) k ((E.length+code.length:Nat):Int) (Jf (E++code))
 |j,o,0,_,h=>absurd h (SK _)
 |0,o,q+1,ho,_=>by
  obtain rfl:o=code.length:=F0
  rw[Fl,Rm,A! P!,Zl,Aap,Amt _ S_,Q0 S_]
 |j+1,o,q+1,ho,hq=>by
  generalize hP:Jf (E++code)=P;have hPo:Fs P (E.length+o)=Fs (Jf code) o:=by rw[<-hP,AE,AE,jv]
  have ih:=Aig E code hE bk V b f g k j (o+1) q F0 F0;rw[hP,<-O6]at ih;generalize hn:E.length+o=n at*
  have hq8:Cb (n:Int) 8=((n/8:Nat):Int):=by rw[show(8:Int)=((8:Nat):Int)from rfl,uM]
  have hr8:Ge (n:Int) 8=((n %8:Nat):Int):=by rw[show(8:Int)=((8:Nat):Int)from rfl,OT]
  have hqo:Cb (o:Int) 8=((o/8:Nat):Int):=by rw[show(8:Int)=((8:Nat):Int)from rfl,uM]
  have hro:Ge (o:Int) 8=((o %8:Nat):Int):=by rw[show(8:Int)=((8:Nat):Int)from rfl,OT]
  have hroom:Fl bk V b f (code.length:Int) g k (Jf code) (q+1) (o:Int) (n:Int) (Na P 0 n)=Qp (Fl bk V b f (code.length:Int) g k (Jf code) q) (code.length:Int) V g b f k (Jf code) (o:Int) (n:Int) (room P 0 n):=by
   rw[Fl,Rm,A4 F9,hr8,room];by_cases h0:n %8=0
   ·rw[A4 (by rw[Bb,h0];rfl),Bu e_,Aa,A4 h0]
   ·rw[A! L9,A! h0]
  have hcl:=Vu code;have hgm:Aj (Jf code) ((o/8:Nat):Int)=some ((Jf code).getD (o/8) 0):=by
   rw[Cf,D!,KV F0];rfl
  have hg:Aj (room P 0 n) ((n/8:Nat):Int)=some (UInt8.ofNat (Bm P (0+8*(n/8)) (n %8))):=by
   rw[Cf Y9,kB]
  have hbit:Cy (Bw ((Jf code).getD (o/8) 0) (o %8)) (1:UInt8)=UInt8.ofNat (Fs P n):=by
   rw[As9 _ F0,hPo,Fs]
  have hlt:=sK P (0+8*(n/8)) (n %8+1) F0;have hsn:=jX P (0+8*(n/8)) (n %8);rw[show 0+8*(n/8)+n %8=n by omega]at hsn;have hnew:uB (UInt8.ofNat (Bm P (0+8*(n/8)) (n %8))) (Db (UInt8.ofNat (Fs P n)) (n %8))=UInt8.ofNat (Bm P (0+8*(n/8)) (n %8+1)):=by
   rw[or8 (Mg _ _ _) aX F0,hsn,I5 (2^(n %8))]
  rw[hroom,Qp,Aaj,hqo,hro,hq8,hr8,hgm,Aa,Aa,Bf O?,Aa,hg,Aa,Bf O?,Aa,Aa,Aa,
   show(GI.toZ ((o %8:Nat):Int)).toNat=o %8 from rfl,show(GI.toZ ((n %8:Nat):Int)).toNat=n %8 from rfl,hbit,hnew,Ra _ Y9,Aa,rR P 0 n 1 F0 F0,Ab6,Ac6,Ag,Ag]
  exact ih
theorem Aw0(l m:LB)(h:l.length+m.length<=1000000):Jy [l,m]=some (l++m):=by
 have hF:Aq=(Aq-3)+1+1+1:=by have:=Ao;omega
 rw[Jy,Lz,Adk];have g0:Aj [l,m] (0:Int)=some l:=rfl;have g1:Aj [l,m] (1:Int)=some m:=rfl;have l2:Ac [l,m]=2:=rfl;have h3:La [l,m] []=some (l++m):=by
  rw[La,Kx,Kt,hF,Dl,Ev,l2,A4 F6,g0,Aa,Bu F7,Aa,OJ,show Ae (0:Int) 1=1 by decide,
   Dl,Ev,l2,A4 F6,g1,Aa,Bu,Aa,show Ae (1:Int) 1=2 by decide,Dl,Ev,l2,A! F6]
  rfl
 rw[hF,Dy,Fi,l2,A4 F6,g0,Aa,Ag Q9 Q9,A! YA,show Ae (0:Int) 1=1 by decide,
  Dy,Fi,l2,A4 F6,g1,Aa,Ag Q9 Q9,A! YB,show Ae (1:Int) 1=2 by decide,
  Dy,Fi,l2,A! F6,Adj,Ky,A! YB,Adi,Ld]
 have z:Ah (0:Int) 0=0:=F6
 have n0:(0:Int)+Ac l+Ac m=((l.length+m.length:Nat):Int):=by simp[Ac]
 rw[z,n0,Bi,Int.sub_zero];by_cases hp:0<l.length+m.length
 ·rw[A4 J!,show cE (0:Int) 0 0=some ()from rfl,Aa,rK,Aa,Bu F7,Aa];rw[show cE (Ac ([]++List.replicate ((l.length+m.length:Nat):Int).toNat (0:UInt8))) 0 0=some () by rw[cE,Bf];simp[Ac];omega,Aa];simp only[UR,Int.sub_self,Int.toNat_zero,R!];exact h3
 ·rw[A! J!];exact h3
theorem Aan (bits:Int)(ch:Nat)(h1:1<=ch)(h6:ch<=6)(V:LU)(hV:V.length<=4000):∀(j i q:Nat),i+j=V.length->j<q->
  Gq V (ch:Int) bits q (i:Int) (sts ch (V.take i)) ((Nv ch V i).length:Int) (Jf (Nv ch V i))=some (Jf (Nv ch V V.length)++Mn (De (Jf (Nv ch V V.length))).toNat 4,0)
 |j,i,0,_,h=>absurd h (SK _)
 |0,i,q+1,hi,_=>by
  obtain rfl:i=V.length:=F0
  have hel:=eN ch V V.length;have hpl:=Vu (Nv ch V V.length);have hlt:=(De (Jf (Nv ch V V.length))).toNat_lt;rw[Gq,Qy,A! YA,Zd,Aba,tW _ F0,Aa];simp only;have e64:(UInt64.ofNat (De (Jf (Nv ch V V.length))).toNat).toNat=(De (Jf (Nv ch V V.length))).toNat:=TE F0;rw[A! F6,Ct,show(4:Int)=((4:Nat):Int)from rfl,JV _ 4 F0 F0 (by rw[e64];omega),Aa];simp only;rw[A! F6,e64,Aw0 _ _ a_,Aa]
 |j+1,i,q+1,hi,hq=>by
  have hc:i %ch<6:=M0 (OP _ F0) h6;have hvl:(V.take i).length=i:=by rw[J1];omega
  have hel:=eN ch V i;have hk:=gq ch (V.take i);have hcl:=VQ (V.getD i 0) hk.1 hk.2;have ih:=Aan bits ch h1 h6 V hV j (i+1) q F0 F0;have hvi:V.getD i 0=V[i]' F0:=by rw[D!,KV F0];rfl
  have htk:V.take i++[V.getD i 0]=V.take (i+1):=by rw[hvi,Mx F0]
  have hst:=og (ch:=ch) (v:=V.take i) hc;have hset:=sO (ch:=ch) (v:=V.take i) (V.getD i 0) hc (by rw[hvl]);have Aya:dI ch (V.take i) (i %ch) (V.take i).length=now ch (V.take i):=Aqb (by rw[hvl]);rw[Aya]at hst hset;rw[htk]at hset;have hdp:=Alx (k:=(now ch (V.take i)).1) (l:=(now ch (V.take i)).2.1) (s:=(now ch (V.take i)).2.2.1) (t:=(now ch (V.take i)).2.2.2) (gJ ch (V.take i) _ _) (V.getD i 0);have hpc:=Aig (Nv ch V i) (Od (now ch (V.take i)).1 (now ch (V.take i)).2.1 (V.getD i 0)) F0 (Gq V (ch:Int) bits q) V (ch:Int) bits (i:Int) (sts ch (V.take (i+1))) (Od (now ch (V.take i)).1 (now ch (V.take i)).2.1 (V.getD i 0)).length 0 Aq F0 C0;rw[show(Nv ch V i).length+0=(Nv ch V i).length from rfl,Amt _ S_,Y!,show((0:Nat):Int)=0 from rfl]at hpc;rw[Gq,Qy,A4 F2,rU F0,Aa,Aa,Bf K0,Aa,OT,hst,Aa,Aa];refine J2 (congrArg (λo=>Option.bind o _) hdp) ?_;rw[Aa];simp only;rw[A! F6,Aa,Aa];refine J2 (congrArg (λo=>Option.bind o _) hset) ?_;rw[Aa];refine J2 hpc ?_;rw[Ag];rw[Nv,B6]at ih;exact ih
theorem Bd8{bits:Int}{ch:Nat}{t x:LX}(hb:Cj bits)(ht:t.length=16)(h1:1<=ch)(h6:ch<=6)(hx1:1<=x.length)(hx4:x.length<=4000)(hm:x.length %ch=0)(hr:inR bits x):
  Py (ch:Int) bits t x=some (Nb bits ch t x,0):=by
 have hV:=zO bits ch t x;have h:=Aan bits ch h1 h6 (Js bits ch t x) F0 (Js bits ch t x).length 0 Aq F0 C0;have e0:Jf (Nv ch (Js bits ch t x) 0)=[]:=by simp[Nv,Jf]
 have e1:((Nv ch (Js bits ch t x) 0).length:Int)=0:=rfl;rw[e0,e1,R!,hV,show((0:Nat):Int)=0 from rfl]at h;rw[Py,BP,Abd hb ht h1 h6 hx1 hx4 hm hr,Aa];simp only;rw[A! F6,Aa8 ch,Aa,Nb,QO,Aad];exact h
theorem Arr{r:Nat}(h1:1<=r)(h:r<=1048576):Nj (r:Int)=some ((Ay r:Int),0):=by
 have hv:=J4 h;have e:Bd (r:Int) 256=Bd 256 (r:Int):=by rw[Gp,Gp];omega
 rw[Nj,A! NX,e];have hq:0<=Cb (Bd 256 (r:Int)) 245:=by
  have e2:Bd 256 (r:Int)=((256*r:Nat):Int):=by rw[Gp];omega
  rw[e2,show(245:Int)=((245:Nat):Int)from rfl,uM];omega
 rw[tq]at hv;by_cases hz:Cb (Bd 256 (r:Int)) 245=0
 ·rw[A4 (by rw[Bb];simpa using hz)];rw[hz]at hv;have:(1:Int)=(Ay r:Int):=F0
  rw[this]
 ·rw[A! (by rw[Bb];simpa using hz)];have:Cb (Bd 256 (r:Int)) 245=(Ay r:Int):=F0
  rw[this]
theorem aS{p:Prop}(h:p:=by rw[Bb,Q7];omega):p:=h
theorem TN{p:Prop}(h:p:=by simp[Ak]):p:=h
structure ClipOk (c w r n:Nat) (x:LX):Prop where
 ch:1<=c/\c<=6
 bits:Cj (w:Int)
 rate:1<=r/\r<=1048576
 cnt:1<=n/\n<=4000/c
 len:x.length=n*c
 fr:(n-1)/Ay r+1<=1000
 rng:inR (w:Int) x
theorem ClipOk.le{c w r n:Nat}{x:LX}(h:ClipOk c w r n x):n<=4000/\n*c<=4000/\1<=x.length/\x.length<=4000:=by
 have h1:=ES c h.cnt.2;have h2:=T5 4000 c;have h3:=O' 4000 c;have h4:=Y3 h.cnt.1 h.ch.1;have h5:=h.len;have:=h.cnt;omega
theorem ClipOk.w3{c w r n:Nat}{x:LX}(h:ClipOk c w r n x):w=8\/w=16\/w=24:=by
 have:=h.bits;unfold Cj at this;omega
theorem ClipOk.shape{c w r n:Nat}{x:LX}(h:ClipOk c w r n x)(f:Nat)(hf:f=1\/f=2):Ga f c w r n=true:=by
 have:=h.w3;have:=h.ch;have:=h.rate;have:=h.cnt;simp only[Ga,C9];omega
theorem ClipOk.fit{c w r n:Nat}{x:LX}(h:ClipOk c w r n x):EP c r n=true:=by
 have:=h.cnt;have:=h.fr;simp only[EP,C9];omega
theorem Auq{bits:Int}(h:Cj bits){l:LX}(hl:l.length<=4000):Ap bits l=some 0\/Ap bits l=some 16:=by
 have hh:=UK bits;have key:∀(j i q:Nat),i+j=l.length->j<q->Au l (hB bits) q (i:Int)=some 0\/Au l (hB bits) q (i:Int)=some 16:=by
  intro j
  induction j with
  |zero=>
   intro i q hi hq;obtain⟨q,rfl⟩:∃q',q=q'+1:=⟨q-1,F0⟩;rw[Au,Ce,A! F2];exact .inl rfl
  |succ j ih=>
   intro i q hi hq;obtain⟨q,rfl⟩:∃q',q=q'+1:=⟨q-1,F0⟩;have ih:=ih (i+1) q F0 F0;have hi1:Ae (i:Int) 1=((i+1:Nat):Int):=by rw[Ag];omega
   rw[Au,Ce,A4 F2,Cf,Aa,Aa,hi1];split
   ·exact .inr rfl
   ·split
    ·exact .inr rfl
    ·exact ih
 have hk:=key l.length 0 Aq F0 C0;rw[Ap,Cx,WK h,Aa,A! L9,A! D4];exact hk
theorem qD{bits:Int}(h:¬Cj bits):Ht bits=some 0/\Qg bits=some (0,0,2):=by
 unfold Cj at h;constructor
 ·rw[Ht,A! aS,A! aS,A! aS]
 ·have e:(geq bits 24)=false:=by rw[Bb,beq_eq_false_iff_ne];omega
  rw[Qg,Alj,A! aS,A! aS,e,Ams,Akr,A! F6]
theorem tA{r:Nat}(h:r<=1048576):∀(j n q:Nat) (acc:LI),n<=4000->n<=j->j<q->acc.length+n<=10000->
  Hx (Ay r:Int) q (n:Int) acc=some (if 1000<(acc++(if n=0 then []else Ax (Ay r) n)).length then([],4)else(acc++(if n=0 then []else Ax (Ay r) n),0))
 |j,n,0,acc,_,_,h,_=>absurd h (SK _)
 |j,n,q+1,acc,hn,hj,hq,ha=>by
  have hp:=Qb r;by_cases h0:n=0
  ·subst h0;rw[A4 rfl,OU,Hx,Oj,A! S4,Xc,NC,Am,Ac];by_cases hk:1000<acc.length
   ·rw[A4 hk,A4 F7]
   ·rw[A! hk,A! F7]
  ·obtain⟨j,rfl⟩:∃j',j=j'+1:=⟨j-1,F0⟩;rw[Hx,Oj,A4 J!,Bu F7,Aa,GG];by_cases hs:n<=Ay r
   ·rw[show min (n:Int) (Ay r:Int)=(n:Int) by omega,Bi,Int.sub_self];have ih:=tA h j 0 q (acc++[(n:Int)]) F0 F0 F0 F7;rw[A4 rfl,OU]at ih;rw[A! h0,Aqy hs F0];exact ih
   ·rw[show min (n:Int) (Ay r:Int)=(Ay r:Int) by omega,Bi,show(n:Int)-(Ay r:Int)=((n-Ay r:Nat):Int) by omega];have e:acc++Ax (Ay r) n=(acc++[(Ay r:Int)])++Ax (Ay r) (n-Ay r):=by rw[Avr hp (show Ay r<n by omega)];simp
    have ih:=tA h j (n-Ay r) q (acc++[(Ay r:Int)]) F0 F0 F0 F7;rw[A! (show ¬n-Ay r=0 by omega),<-e]at ih;rw[A! h0];exact ih
theorem Aa4(C W R:Int)(x:LX)(hlen:x.length<4611686018427387904):(Cp C W R x=some 8/\Dg C W R x=some 8)\/
  (∃c w r n:Nat,C=(c:Int)/\W=(w:Int)/\R=(r:Int)/\ClipOk c w r n x/\Cp C W R x=some 0/\Dg C W R x=some 0):=by
 have O5:∀e:Int,e≠0->By C W x=some e->Cp C W R x=some 8:=by
  intro e he h;rw[Cp,Gm,Aa];simp only;rw[h,Aa,A4 (by rw[Ak];simpa using he)]
 by_cases hC:C<1
 ·refine .inl ⟨O5 2 F6 ?_,?_⟩
  ·rw[By,Cw,A4 NX,Aa,A4 F6]
  ·rw[Dg,A4 (by rw[Af];simpa using hC)]
 obtain⟨c,rfl⟩:=OV (show 0<=C by omega);have hc1:1<=c:=F0
 have hq:Cb (Ac x) (c:Int)=((x.length/c:Nat):Int):=by rw[Ac,uM]
 have hr0:Ge (Ac x) (c:Int)=((x.length %c:Nat):Int):=by rw[Ac,OT]
 have Ya:(∀m:Nat,x.length=m*c->GH (c:Int) W R x (m:Int)=some 8)->Dg (c:Int) W R x=some 8:=by
  intro h;rw[Dg,A! (by rw[Af];simpa using hC),Bf K0,Aa,hr0];by_cases hm:x.length %c=0
  ·have hx:x.length=x.length/c*c:=by have:=U7 x.length c;rw[hm,I5]at this;omega
   rw[hm,A! F6,Aa,hq,h _ hx,Aa,A4 F6]
  ·rw[A4 K0]
 by_cases h6:6<c
 ·refine .inl ⟨O5 2 F6 ?_,Ya λm hm=>?_⟩
  ·rw[By,Cw,A4 NX,Aa,A4 F6]
  ·rw[GH,GJ,Aa];simp only;have:Fp (c:Int) W=some 2:=by
    rw[Fp];by_cases hb:Cj W
    ·rw[kr hb,Aa];simp only;rw[A4 eZ]
    ·rw[(qD hb).2,Aa];simp only;rw[A4 TN]
   rw[this,Aa,A4 TN]
 by_cases hb:Cj W
 rotate_left
 ·refine .inl ⟨O5 2 F6 ?_,Ya λm hm=>?_⟩
  ·rw[By,Cw,A! NX,(qD hb).1,Aa,A4 F6,Aa,A4 F6]
  ·rw[GH,GJ,Aa];simp only;have:Fp (c:Int) W=some 2:=by
    rw[Fp,(qD hb).2,Aa];simp only;rw[A4 TN]
   rw[this,Aa,A4 TN]
 have hhB:=UK W;have e20:Cw (c:Int) W=some 0:=by
  rw[Cw,A! NX,WK hb,Aa,A! L9]
 have hq4:=dx hc1 (show c<=6 by omega);have ecf:=vU hb hc1 (show c<=6 by omega);have bP:∀m:Nat,GH (c:Int) W R x (m:Int)=if m<1\/4000/c<m then some 8 else Option.bind (Hh R (m:Int)) λy=>if(Bl y.2 0)=true then some 8 else some 0:=by
  intro m;rw[GH,GJ,Aa];simp only;rw[ecf,Aa];by_cases hm:m<1
  ·rw[A4 aP,A4 (.inl hm)]
  ·rw[A! aP,Bf K0,Aa,hq4];by_cases hm2:4000/c<m
   ·rw[A4 (by rw[Am,C9,gt_iff_lt,Int.ofNat_lt];exact hm2),A4 (.inr hm2)]
   ·rw[A! (by rw[Am,C9,gt_iff_lt,Int.ofNat_lt];exact hm2),A! F0]
 by_cases hx4:4000<x.length
 ·refine .inl ⟨O5 4 F6 ?_,Ya λm hm=>?_⟩
  ·have:Ap W x=some 4:=by
    rw[Ap,Cx,WK hb,Aa,A! L9,A4 D4]
   rw[By,e20,Aa,A! F6,this,Aa,A4 F6,Aa]
  ·rw[bP,A4];refine .inr ?_;rw[Nat.div_lt_iff_lt_mul F0];omega
 have hx4:x.length<=4000:=F0
 have hsame:=aD hb x hx4;rcases Auq hb hx4 with h18|h18
 rotate_left
 ·refine .inl ⟨O5 16 F6 ?_,?_⟩
  ·rw[By,e20,Aa,A! F6,h18,Aa,A4 F6,Aa]
  ·rw[Dg,A! (by rw[Af];simpa using hC),Bf K0,Aa,hr0];by_cases hm:x.length %c=0
   ·rw[hm,A! F6,Aa,hq,bP];split
    ·rw[Aa,A4 F6]
    ·rename_i hh;by_cases hR:1<=R/\R<=1048576
     ·obtain⟨r,rfl⟩:=OV (show 0<=R by omega);have hd:=O' x.length c;rw[ZG F0 F0 F0 F0,Aa];split
      ·rw[A4 F6,Aa,A4 F6]
      ·rw[A! TN,Aa,A! F6,hsame,h18,Aa,A4 F6]
     ·rw[Hh,Qj,A4 NX,Aa];simp only;rw[A4 F6,Aa];simp only;rw[A4 F6,Aa,A4 F6]
   ·rw[A4 K0]
 by_cases hx1:x.length<1
 ·refine .inl ⟨O5 2 F6 ?_,Ya λm hm=>?_⟩
  ·rw[By,e20,Aa,A! F6,h18,Aa,A! F6,A4 F2]
  ·have h0:m*c=0:=F0
   have:m=0:=by rcases Nat.mul_eq_zero.1 h0 with h|h<;>omega
   rw[bP,A4 (.inl F0)]
 have hA:x.length %c=0->By (c:Int) W x=some 0:=by
  intro hm;rw[By,e20,Aa,A! F6,h18,Aa,A! F6,A! F2,Bf K0,Aa,hr0,hm,A! F6]
 by_cases hm:x.length %c=0
 rotate_left
 ·refine .inl ⟨O5 2 F6 ?_,?_⟩
  ·rw[By,e20,Aa,A! F6,h18,Aa,A! F6,A! F2,Bf K0,Aa,hr0,A4 J!]
  ·rw[Dg,A! (by rw[Af];simpa using hC),Bf K0,Aa,hr0,A4 K0]
 have hxn:x.length=x.length/c*c:=by have:=U7 x.length c;rw[hm,I5]at this;omega
 generalize hN:x.length/c=n at*
 have hn1:1<=n:=by
  by_cases h0:n=0
  ·rw[h0]at hxn;omega
  ·omega
 have hn4:n<=4000/c:=by rw[<-hN];exact Nat.div_le_div_right hx4
 have hn4':n<=4000:=U4 hn4 (O' _ _);have e21:Ec (c:Int) W (n:Int)=some 0:=by
  rw[Ec,e20,Aa,A! aP,Bf K0,Aa,hq4,A! (by rw[Am,C9,gt_iff_lt,Int.ofNat_lt];omega)]
 have wN:∀z e:Int,Iu R (n:Int)=some (z,e)->Cp (c:Int) W R x=some (if e=0 then 0 else 8):=by
  intro z e hz;rw[Cp,Gm,Aa];simp only;rw[hA hm,Aa,A! F6,Bf K0,Aa,hq,EN,Gm,Aa];simp only;rw[e21,Aa,A! F6,hz,Aa,Aa,Bb];by_cases he:e=0
  ·subst he;rfl
  ·rw[A! he,A4 (by simpa using he)]
 have cu:Dg (c:Int) W R x=Option.bind (Option.bind (Hh R (n:Int)) λy=>if(Bl y.2 0)=true then some 8 else some 0) λg=>if(Bl g 0)=true then some g else some 0:=by
  rw[Dg,A! (by rw[Af];simpa using hC),Bf K0,Aa,hr0,hm,A! F6,Aa,hq,bP,A! F0,hsame,h18];rfl
 by_cases hR:1<=R/\R<=1048576
 rotate_left
 ·refine .inl ⟨?_,?_⟩
  ·refine wN 0 2 ?_;rw[Iu,Wh,Ok,Nj,A4 NX,Aa];simp only;rw[A4 TN,Aa];rfl
  ·rw[cu,Hh,Qj,A4 NX,Aa];simp only;rw[A4 F6,Aa];simp only;rw[A4 F6,Aa,A4 F6]
 obtain⟨r,rfl⟩:=OV (show 0<=R by omega);have hl:=tA (r:=r) F0 n n Aq [] hn4' (D1 _) C0 F7;rw[A! (show ¬n=0 by omega),OJ,AG]at hl;have hcount:∃z:Int,Iu (r:Int) (n:Int)=some (z,if 1000<(n-1)/Ay r+1 then 4 else 0):=by
  rw[Iu,Wh,Ok,Arr F0 F0,Aa];simp only;rw[A! eZ,MW,hl,Aa];split<;>exact⟨_,rfl⟩
 obtain⟨z,hz⟩:=hcount;have h24:=wN z _ hz;rw[ZG F0 F0 hn1 hn4',Aa]at cu;by_cases hk:1000<(n-1)/Ay r+1
 ·rw[A4 hk]at h24 cu;exact .inl ⟨h24,cu⟩
 ·rw[A! hk]at h24 cu;have hw:∃w:Nat,W=(w:Int):=by
   rcases hb with rfl|rfl|rfl
   ·exact⟨8,rfl⟩
   ·exact⟨16,rfl⟩
   ·exact⟨24,rfl⟩
  obtain⟨w,rfl⟩:=hw;exact .inr ⟨c,w,r,n,rfl,rfl,rfl,⟨⟨hc1,F0⟩,hb,F0,⟨hn1,hn4⟩,hxn,F0,kV hb hx4 h18⟩,h24,cu⟩
theorem Aff(C W R:Int){x:LX}(h:4000<x.length):Cp C W R x=some 8:=by
 have key:∃e:Int,e≠0/\By C W x=some e:=by
  rw[By,Cw];by_cases h1:((Ci C 1)||(Dq C 6))=true
  ·rw[A4 h1,Aa,A4 F6];exact⟨2,F6,rfl⟩
  ·rw[A! h1];by_cases hb:Cj W
   ·have hh:=UK W;have h18:Ap W x=some 4:=by
     rw[Ap,Cx,WK hb,Aa,A! L9,A4 D4]
    rw[WK hb,Aa,A! L9,Aa,A! F6,h18,Aa,A4 F6,Aa];exact⟨4,F6,rfl⟩
   ·rw[(qD hb).1,Aa,A4 F6,Aa,A4 F6];exact⟨2,F6,rfl⟩
 obtain⟨e,he,h1⟩:=key;rw[Cp,Gm,Aa];simp only;rw[h1,Aa,A4 (by rw[Ak];simpa using he)]
theorem Bbs(C W R:Int)(x:LX):(Cp C W R x=some 8/\ (x.length<4611686018427387904->Dg C W R x=some 8))\/
  (∃c w r n:Nat,C=(c:Int)/\W=(w:Int)/\R=(r:Int)/\ClipOk c w r n x/\Cp C W R x=some 0/\Dg C W R x=some 0):=by
 by_cases hx:x.length<4611686018427387904
 ·rcases Aa4 C W R x hx with⟨h1,h2⟩|h
  ·exact .inl ⟨h1,λ_=>h2⟩
  ·exact .inr h
 ·exact .inl ⟨Aff C W R F0,λh=>absurd h hx⟩
theorem fE{p:Prop}(h:p:=by simp[Bj,Nk]):p:=h
def uY(f c w r n:Nat):LB:=Nk++Mn f 2++Mn c 2++Mn w 2++Mn r 4++Mn n 4
def HH(f c w r n:Nat):LB:=uY f c w r n++Mn (De (uY f c w r n)).toNat 4
theorem WU(f c w r n:Nat):(uY f c w r n).length=18:=by simp only[uY,Nk,B6,Bj];rfl
theorem jI(f c w r n:Nat):(HH f c w r n).length=22:=by rw[HH,B6,WU,Bj]
theorem L4(b f g h k:Int)(m v w q:Nat)(a:LB)(hm:m<5)(hv:Aj ([b,f,g,h,k]:LI) (m:Int)=some (v:Int))(hw:Aj ([2,2,2,4,4]:LI) (m:Int)=some (w:Int))(h1:1<=w)(h8:w<=8)(hlt:v<256^w)(h64:v<18446744073709551616)(ha:a.length<=100):
  Ke b f g h k (q+1) (m:Int) a=Ke b f g h k q ((m+1:Nat):Int) (a++Mn v w):=by
 have e64:(UInt64.ofNat v).toNat=v:=TE F0;have hi1:Ae (m:Int) 1=((m+1:Nat):Int):=by rw[Ag];omega
 rw[Ke,Yu,A4 F9,hv,Aa,hw,Aa,Sr,JV _ w h1 h8 (by rw[e64];exact hlt),Aa];simp only;rw[Bu a_,Aa,hi1,e64]
theorem Bds{f c w r n:Nat}(h1:Ga f c w r n=true)(h2:EP c r n=true):NV (f:Int) (c:Int) (w:Int) (r:Int) (n:Int)=some (HH f c w r n,0):=by
 have hs:(f=1\/f=2)/\ (1<=c/\c<=6)/\ (w=8\/w=16\/w=24)/\ (1<=r/\r<=1048576)/\1<=n:=by simpa only[Ga,C9]using h1
 have hn:n<=4000:=by
  simp only[EP,C9]at h2;have:=O' 4000 c;omega
 have hck:Qh (f:Int) (c:Int) (w:Int) (r:Int) (n:Int)=some 0:=by
  rw[Qh,eO,Aa,h1,A! F6,tP h1,Aa,h2,A! F6]
 have hF:Aq=(Aq-6)+1+1+1+1+1+1:=by have:=Ao;omega
 have hlt:=(De (uY f c w r n)).toNat_lt;have e64:(UInt64.ofNat (De (uY f c w r n)).toNat).toNat=(De (uY f c w r n)).toNat:=TE F0;have hfin:Yw (uY f c w r n)=some (HH f c w r n,0):=by
  rw[Yw,Aj2,tW _ (by rw[WU];omega),Aa];simp only;rw[Ct,show(4:Int)=((4:Nat):Int)from rfl,JV _ 4 F0 F0 (by rw[e64];omega),Aa];simp only;rw[Bu (by rw[WU,Bj];omega),Aa,e64];rfl
 rw[NV,ME,hck,Aa,A! F6,Ajc,hF];have s0:=L4 (f:Int) (c:Int) (w:Int) (r:Int) (n:Int) 0 f 2 ((Aq-6)+1+1+1+1+1) Nk F0 rfl rfl F0 F0 F0 F0 F6;have s1:=L4 (f:Int) (c:Int) (w:Int) (r:Int) (n:Int) 1 c 2 ((Aq-6)+1+1+1+1) (Nk++Mn f 2) F0 rfl rfl F0 F0 F0 F0 fE;have s2:=L4 (f:Int) (c:Int) (w:Int) (r:Int) (n:Int) 2 w 2 ((Aq-6)+1+1+1) (Nk++Mn f 2++Mn c 2) F0 rfl rfl F0 F0 F0 F0 fE;have s3:=L4 (f:Int) (c:Int) (w:Int) (r:Int) (n:Int) 3 r 4 ((Aq-6)+1+1) (Nk++Mn f 2++Mn c 2++Mn w 2) F0 rfl rfl F0 F0 F0 F0 fE;have s4:=L4 (f:Int) (c:Int) (w:Int) (r:Int) (n:Int) 4 n 4 ((Aq-6)+1) (Nk++Mn f 2++Mn c 2++Mn w 2++Mn r 4) F0 rfl rfl F0 F0 F0 F0 fE;refine s0.trans (s1.trans (s2.trans (s3.trans (s4.trans ?_))));rw[Ke,Yu,A! F6];exact hfin
def SF(l:LI):LB:=l.flatMap λx=>Mn x.toNat 4
def dK(l:LI):LB:=SF l++Mn (De (SF l)).toNat 4
theorem IE(l:LI):(SF l).length=4*l.length:=by
 induction l with
 |nil=>rfl
 |cons x l ih=>rw[SF,cV,B6,Bj,show(l.flatMap λx=>Mn x.toNat 4)=SF l from rfl,ih,I!];omega
theorem rD(l:LI):(dK l).length=4*l.length+4:=by rw[dK,B6,IE,Bj]
theorem Af2(l:LI)(x:Int):SF (l++[x])=SF l++Mn x.toNat 4:=by simp[SF]
theorem Av6(l:LI)(hl:l.length<=1000)(h5:∀x∈l,5<=x/\x<=100000):∀(j i q:Nat),i+j=l.length->j<q->Oo l q (i:Int) (SF (l.take i))=some (dK l,0)
 |j,i,0,_,h=>absurd h (SK _)
 |0,i,q+1,hi,_=>by
  have hlt:=(De (SF l)).toNat_lt;have e64:(UInt64.ofNat (De (SF l)).toNat).toNat=(De (SF l)).toNat:=TE F0;rw[Oo,EG,A! F2,Q0 F0,LA,Aj6,tW _ (by rw[IE];omega),Aa];simp only;rw[Ct,show(4:Int)=((4:Nat):Int)from rfl,JV _ 4 F0 F0 (by rw[e64];omega),Aa];simp only;rw[Bu (by rw[IE,Bj];omega),Aa,e64];rfl
 |j+1,i,q+1,hi,hq=>by
  have ih:=Av6 l hl h5 j (i+1) q F0 F0;obtain⟨x5,x6⟩:=h5 l[i] (P1 _);obtain⟨v,hv⟩:=OV (show 0<=l[i] by omega);have e64:(UInt64.ofNat v).toNat=v:=TE F0;have hi1:Ae (i:Int) 1=((i+1:Nat):Int):=by rw[Ag];omega
  rw[Oo,EG,A4 F2,Cf,Aa,hv,Sr,show(4:Int)=((4:Nat):Int)from rfl,JV _ 4 F0 F0 (by rw[e64];omega),Aa];simp only;rw[Bu (by rw[IE,Bj,J1];omega),Aa,LK,Aji,hi1,e64];rw[Mx F0,Af2,hv,F?]at ih;exact ih
theorem Azq (l:LI):TR l=some (if JY l=true then(dK l,0)else([],8)):=by
 rw[TR,PK,Ak5,Aa];by_cases h:JY l=true
 ·rw[A4 h,A4 h,A! F6];simp only[JY,B9,C9]at h;obtain⟨⟨h1,h2⟩,h3⟩:=h;have h4:=(kG l 100000 F0).1 h3;have h6:=ig h4.1;have hl:=Av6 l h2 (λx hx=>⟨h4.1 x hx,by have:=h6 x hx;omega⟩) l.length 0 Aq F0 C0;exact hl
 ·rw[A! h,A! h,A4 F6]
theorem Agz(l:List LB)(hl:l.length<=100000)(hf:l.flatten.length<=1000000):∀(j i q:Nat),i+j=l.length->j<q->Pz l q (i:Int) (l.take i).flatten=some l.flatten
 |j,i,0,_,h=>absurd h (SK _)
 |0,i,q+1,hi,_=>by
  rw[Pz,DJ,A! F2,Q0 F0];rfl
 |j+1,i,q+1,hi,hq=>by
  have ih:=Agz l hl hf j (i+1) q F0 F0;have hi1:Ae (i:Int) 1=((i+1:Nat):Int):=by rw[Ag];omega
  have hsn:(l.take (i+1)).flatten=(l.take i).flatten++l[i]:=by rw[Mx F0,ZR];simp
  have hsp:l.flatten=(l.take (i+1)).flatten++(l.drop (i+1)).flatten:=by rw[<-ZR,T4]
  have hle:((l.take i).flatten).length+(l[i]).length<=1000000:=by
   rw[hsp,B6,hsn,B6]at hf;omega
  rw[Pz,DJ,A4 F2,Cf,Aa,Bu,Aa,hi1,<-hsn];exact ih
theorem join_eq(l:List LB)(hl:l.length<=100000)(hf:l.flatten.length<=1000000):jC l=some l.flatten:=by
 have h:=Agz l hl hf l.length 0 Aq F0 C0;exact h
def Ze(c:Nat):LX->LI->List LX
 |_,[]=>[]
 |x,m::l=>x.take (m.toNat*c)::Ze c (x.drop (m.toNat*c)) l
theorem oP(c:Nat):∀(l:LI) (x:LX),(Ze c x l).length=l.length
 |[],x=>rfl
 |m::l,x=>by rw[Ze,I!,I!,oP c l]
theorem Auo(c:Nat):∀(l:LI) (x:LX),(∀m∈l,0<=m)->x.length=l.sum.toNat*c-> (Ze c x l).flatten=x
 |[],x,_,h=>by
  have:x=[]:=R3 (by simpa using h);rw[this];rfl
 |m::l,x,h0,h=>by
  have hm:=h0 m P4;have hl:0<=l.sum:=by
   have:∀l:LI,(∀m∈l,0<=m)->0<=l.sum:=by
    intro l
    induction l with
    |nil=>intro _;simp
    |cons a l ih=>intro h;have:=ih (λm hm=>h m (O2 _ hm));have:=h a P4;rw[OL];omega
   exact this l λm hm=>h0 m (O2 _ hm)
  rw[OL,show(m+l.sum).toNat=m.toNat+l.sum.toNat by omega,I8]at h;have ih:=Auo c l (x.drop (m.toNat*c)) (λm hm=>h0 m (O2 _ hm)) YG;rw[Ze,S9,ih,T4]
theorem Aq7(c:Nat)(x:LX)(hx:x.length<=4000):∀(l:LI) (a:Nat),(∀m∈l,1<=m)->a+l.sum.toNat*c=x.length->Oa (c:Int) x l (a:Int)=some (Ze c (x.drop a) l)
 |[],a,_,_=>rfl
 |m::l,a,h1,ha=>by
  have hm:=h1 m P4;have hl:=h1;have hs:0<=l.sum:=by
   have:∀l:LI,(∀m∈l,1<=m)->0<=l.sum:=by
    intro l
    induction l with
    |nil=>intro _;simp
    |cons a l ih=>intro h;have:=ih (λm hm=>h m (O2 _ hm));have:=h a P4;rw[OL];omega
   exact this l λm hm=>h1 m (O2 _ hm)
  obtain⟨k,rfl⟩:=OV (show 0<=m by omega);rw[OL,show((k:Int)+l.sum).toNat=k+l.sum.toNat by omega,I8]at ha;have hkc:Bd (k:Int) (c:Int)=((k*c:Nat):Int):=by rw[Gp Y? Y?,<-Tv]
  have hadd:Ae (a:Int) ((k*c:Nat):Int)=((a+k*c:Nat):Int):=by rw[Ag];omega
  have ih:=Aq7 c x hx l (a+k*c) (λm hm=>h1 m (O2 _ hm)) F0;rw[Oa,hkc,hadd,Qo,Aa,ih,Aa,Ze,F?,F?,F?,S1,d_,T!]
theorem qK(w c:Nat)(hb:Cj (w:Int))(h1:1<=c)(h6:c<=6)(t:LX)(ht:t.length=16):∀(xs:List LX) (o:List LB),o.length+xs.length<=10000-> (∀y∈xs,1<=y.length/\y.length<=4000/\y.length %c=0/\inR (w:Int) y)->
  Nx (c:Int) (w:Int) t xs o=some (o++xs.map (Nb (w:Int) c t),0)
 |[],o,_,_=>by rw[Nx];simp
 |x::xs,o,ho,h=>by
  obtain⟨a1,a2,a3,a4⟩:=h x P4;rw[I!]at ho;have ih:=qK w c hb h1 h6 t ht xs (o++[Nb (w:Int) c t x]) F7 (λy hy=>h y (O2 _ hy));rw[Nx,Bd8 hb ht h1 h6 a1 a2 a3 a4,Aa,A! TN,Bu F7,Aa,ih,OX];simp
theorem nD(c:Nat)(h1:1<=c):∀(l:LI) (x:LX),(∀m∈l,1<=m)->x.length=l.sum.toNat*c->∀y∈Ze c x l,1<=y.length/\y.length<=x.length/\y.length %c=0/\∀v∈y,v∈x
 |[],x,_,_=>λy hy=>by simp[Ze]at hy
 |m::l,x,hm,hx=>by
  have hm1:=hm m P4;have hl:0<=l.sum:=by
   have:∀l:LI,(∀m∈l,1<=m)->0<=l.sum:=by
    intro l
    induction l with
    |nil=>intro _;simp
    |cons a l ih=>intro h;have:=ih (λm hm=>h m (O2 _ hm));have:=h a P4;rw[OL];omega
   exact this l λm hm'=>hm m (O2 _ hm')
  rw[OL,show(m+l.sum).toNat=m.toNat+l.sum.toNat by omega,I8]at hx;have hpos:1<=m.toNat*c:=Y3 F0 h1;intro y hy;rw[Ze,Y0]at hy;rcases hy with rfl|hy
  ·have hlen:(x.take (m.toNat*c)).length=m.toNat*c:=by rw[J1];omega
   rw[hlen];exact⟨hpos,F0,SI _ _,λv hv=>lR hv⟩
  ·obtain⟨a1,a2,a3,a4⟩:=nD c h1 l (x.drop (m.toNat*c)) (λm hm'=>hm m (O2 _ hm')) YG y hy;rw[Q5]at a2;exact⟨a1,F0,a3,λv hv=>ZP (a4 v hv)⟩
theorem Awf(bits:Int)(ch:Nat)(t x:LX)(h0:1<=x.length)(h4:x.length<=4000):5<= (Nb bits ch t x).length/\ (Nb bits ch t x).length<=15*x.length:=by
 have h5:=D8 bits ch t x h0 h4;have h:=eN ch (Js bits ch t x) x.length;refine⟨h5.1,?_⟩;rw[Nb,B6,Bj,QO,Vu];omega
def Ck(fs:List LB):LI:=fs.map λf=>(f.length:Int)
theorem Nt(fs:List LB):(Ck fs).length=fs.length:=by rw[Ck,mN]
theorem GO:∀fs:List LB,(Ck fs).sum=(fs.flatten.length:Int)
 |[]=>rfl
 |f::fs=>by rw[Ck,OX,OL,S9,B6,show(fs.map λf=>(f.length:Int))=Ck fs from rfl,GO fs];omega
theorem uO(bits:Int)(ch:Nat)(t:LX):∀ys:List LX,(∀y∈ys,1<=y.length/\y.length<=4000)-> ((ys.map (Nb bits ch t)).flatten).length<=15*ys.flatten.length
 |[],_=>by simp
 |y::ys,h=>by
  have ih:=uO bits ch t ys λy hy=>h y (O2 _ hy);obtain⟨h1,h4⟩:=h y P4;have:=(Awf bits ch t y h1 h4).2;rw[OX,S9,S9,B6,B6];omega
def Lf(p:LB):Nat:=if p=[]then 1 else 2
def lC(p:LB):LB:=if p=[]then []else Mn (Xt p).toNat 8
theorem Adl(p:LB):Lf p=1\/Lf p=2:=by unfold Lf;split<;>simp
theorem sG(p:LB):(lC p).length=if Lf p=2 then 8 else 0:=by
 unfold lC Lf;by_cases h:p=[]
 ·rw[A4 h,A4 h];rfl
 ·rw[A! h,A! h,Bj];rfl
def aH(c r n:Nat)(x:LX):List LX:=Ze c x (Ax (Ay r) n)
def MQ(c w r n:Nat)(x:LX)(p:LB):List LB:=(aH c r n x).map (Nb (w:Int) c (Xe p))
def Ui(c w r n:Nat)(x:LX)(p:LB):LB:=HH (Lf p) c w r n++(lC p++(dK (Ck (MQ c w r n x p))++(MQ c w r n x p).flatten))
theorem AT{g n:Nat}(hg:1<=g)(h1:1<=n):∀m∈Ax g n,1<=m:=by
 intro m hm;rw[Ax,mQ,List.mem_replicate,mD]at hm;have h:=T5 (n-1) g;rcases hm with⟨_,rfl⟩|rfl
 ·omega
 ·omega
section
variable {c w r n:Nat} {x:LX} (h:ClipOk c w r n x)
include h
theorem ClipOk.sum:(Ax (Ay r) n).sum=(n:Int):=Bc9 h.cnt.1
omit h in
theorem N6:(aH c r n x).length=(Ax (Ay r) n).length:=oP _ _ _
theorem Abp:(aH c r n x).flatten=x:=by
 refine Auo _ _ _ (λm hm=>?_) ?_
 ·have:=AT (Qb r) h.cnt.1 m hm;omega
 ·rw[h.sum,h.len,F?]
theorem XX:∀y∈aH c r n x,1<=y.length/\y.length<=4000/\y.length %c=0/\inR (w:Int) y:=by
 intro y hy;obtain⟨a1,a2,a3,a4⟩:=nD c h.ch.1 _ _ (AT (Qb r) h.cnt.1) (by rw[h.sum,h.len,F?]) y hy;have:=h.le;exact⟨a1,F0,a3,λv hv=>h.rng v (a4 v hv)⟩
omit h in
theorem sD(p:LB):(MQ c w r n x p).length=(Ax (Ay r) n).length:=by rw[MQ,mN];exact oP _ _ _
theorem gN(p:LB):1<= (MQ c w r n x p).length/\ (MQ c w r n x p).length<=1000:=by
 rw[sD,AG];exact⟨Nat.le_add_left _ _,h.fr⟩
theorem K? (p:LB):((MQ c w r n x p).flatten).length<=15*x.length:=by
 have:=uO (w:Int) c (Xe p) (aH c r n x) λy hy=>⟨(XX h y hy).1,(XX h y hy).2.1⟩;rw[Abp h]at this;exact this
theorem Amg(p:LB):∀f∈MQ c w r n x p,5<=f.length:=by
 intro f hf;rw[MQ,List.mem_map]at hf;obtain⟨y,hy,rfl⟩:=hf;exact(Awf _ _ _ _ (XX h y hy).1 (XX h y hy).2.1).1
theorem B_(p:LB):JY (Ck (MQ c w r n x p))=true:=by
 have h1:=gN h p;have h2:=K? h p;have h3:=h.le;simp only[JY,B9,C9];rw[kG _ _ F0,Nt,GO];refine⟨F0,λz hz=>?_,F0⟩;rw[Ck,List.mem_map]at hz;obtain⟨f,hf,rfl⟩:=hz;have:=Amg h p f hf;omega
omit h in
theorem Abm(p:LB):(Ui c w r n x p).length=22+(if Lf p=2 then 8 else 0)+(4*(MQ c w r n x p).length+4)+(MQ c w r n x p).flatten.length:=by
 rw[Ui,B6,B6,B6,jI,sG,rD,Nt];omega
theorem Ac0 (p:LB):(Ui c w r n x p).length<=34+4*(MQ c w r n x p).length+15*x.length:=by
 have h1:=Abm (c:=c) (w:=w) (r:=r) (n:=n) (x:=x) p;have h2:=K? h p;split at h1<;>omega
theorem Ag8(p:LB):(Ui c w r n x p).length<=64034:=by
 have:=Ac0 h p;have:=gN h p;have:=h.le;omega
theorem Aii(hk:Dg (c:Int) (w:Int) (r:Int) x=some 0)(p:LB)(hp:p.length<=64):TM (c:Int) (w:Int) (r:Int) x p=some ((Lf p:Int),(c:Int),(w:Int),(r:Int),(n:Int),0):=by
 have hc:=h.ch;have hq:Cb (Ac x) (c:Int)=(n:Int):=by rw[Ac,uM (by have:=h.le;omega),h.len,mF _ F0]
 rw[TM,AZ,hk,Aa,A! F6,A! D4,Bf K0,Aa,QI,Ala,hq,Lf];by_cases h0:p=[]
 ·rw[A! (by simp[h0]),A4 h0];rfl
 ·rw[A4 (by simpa using h0),A! h0];rfl
theorem Bec(hk:Dg (c:Int) (w:Int) (r:Int) x=some 0)(p:LB)(hp:p.length<=64):IY (c:Int) (w:Int) (r:Int) x p=some (MQ c w r n x p,0):=by
 have hc:=h.ch;have hle:=h.le;have hr:=h.rate;have hq:Cb (Ac x) (c:Int)=(n:Int):=by rw[Ac,uM,h.len,mF _ F0]
 have hcut:RE (c:Int) (r:Int) x=some (aH c r n x):=by
  have hp:=Aq7 c x F0 (Ax (Ay r) n) 0 (AT (Qb r) h.cnt.1) (by rw[h.sum,h.len,F?];omega);rw[RE,Bf K0,Aa,hq,M? hr.1 hr.2 h.cnt.1 F0 h.fr,Aa,Bf (by have:=h.fr;simp only[Ac,AG,C9];omega),Aa];exact hp
 have hfs:=qK w c h.bits hc.1 hc.2 (Xe p) (nQ p) (aH c r n x) [] (by rw[N6,AG];exact U4 (Nat.add_le_add_left h.fr _) A7) (XX h);rw[IY,hk,Aa,A! F6,Aeb p hp,Aa];simp only;rw[A! F6,hcut,Aa,hfs];rfl
omit h in
theorem C3(a:List LB)(b f:LB)(v:LB)(ha:a.length<=1000)(hfin:Rw (Ck a) a b f=some (v,0)):∀(j i q:Nat),i+j=a.length->j<q->Px a b f q (i:Int) (Ck (a.take i)++List.replicate j 0)=some (v,0)
 |j,i,0,_,h=>absurd h (SK _)
 |0,i,q+1,hi,_=>by
  rw[Px,DA,A! F2,Q0 F0,List.replicate_zero,OU];exact hfin
 |j+1,i,q+1,hi,hq=>by
  have ih:=C3 a b f v ha hfin j (i+1) q F0 F0;have hi1:Ae (i:Int) 1=((i+1:Nat):Int):=by rw[Ag];omega
  have hll:(Ck (a.take i)).length=i:=by rw[Nt,J1];omega
  have hset:(Ck (a.take i)++List.replicate (j+1) (0:Int)).set i (Ac a[i])=Ck (a.take (i+1))++List.replicate j 0:=by
   rw[R8,YI hll,Mx F0,Ck,Ck,WQ,D2];rfl
  rw[Px,DA,A4 F2,Cf,Aa,Aa,UM,Aa,Cf (by rw[B6,hll,PA];omega),Aa,Ra _ (by rw[B6,hll,PA];omega),Aa,hset,LJ,Aik,hi1];exact ih
theorem Beo(hk:Dg (c:Int) (w:Int) (r:Int) x=some 0)(p:LB)(hp:p.length<=64):KN (c:Int) (w:Int) (r:Int) x p=some (Ui c w r n x p,0):=by
 have hn:=gN h p;have hfin:Rw (Ck (MQ c w r n x p)) (MQ c w r n x p) (HH (Lf p) c w r n) (lC p)=some (Ui c w r n x p,0):=by
  have hl:=Ag8 h p;rw[Rw,Aiv,Azq,A4 (B_ h p),Aa];simp only;rw[Ajs,Ain,A! F6,Bu F7,Aa,join_eq _ F7 (by
   have:(([HH (Lf p) c w r n,lC p,dK (Ck (MQ c w r n x p))]++MQ c w r n x p).flatten)=Ui c w r n x p:=by simp[Ui]
   rw[this];omega),Aa]
  simp[Ui]
 have hlp:=C3 (MQ c w r n x p) (HH (Lf p) c w r n) (lC p) _ F0 hfin (MQ c w r n x p).length 0 Aq F0 C0;have h8:PZ (MQ c w r n x p) (HH (Lf p) c w r n) (lC p)=some (Ui c w r n x p,0):=by
  rw[PZ,ON,rK Q9 Q9,Aa,Bf U?,Aa];exact hlp
 rw[KN,PC,Aii h hk p hp,Aa];simp only;rw[A! F6,Bec h hk p hp,Aa];simp only;rw[A! F6,Bds (h.shape _ (Adl p)) h.fit,Aa];simp only;rw[A! F6];by_cases h0:p=[]
 ·have e1:Lf p=1:=by rw[Lf,A4 h0]
  have e2:lC p=[]:=by rw[lC,A4 h0]
  rw[e2]at h8;rw[A! (by rw[e1];decide)];exact h8
 ·have e1:Lf p=2:=by rw[Lf,A! h0]
  have e2:lC p=Mn (Xt p).toNat 8:=by rw[lC,A! h0]
  rw[e2]at h8;rw[A4 (by rw[e1];decide),tF p hp,Aa];exact h8
end
theorem fF{p:Prop}(h:p:=by simp[Nk,Bj]):p:=h
theorem Ru{a m z:LB}{i k:Nat}(hi:a.length=i)(hk:m.length=k):part (a++(m++z)) i k=m:=by
 subst hi hk;rw[part,List.take_append,Q0 F0,dY,T!,XA (D1 _),RN];rfl
theorem GQ(f c w r n:Nat)(z:LB):HH f c w r n++z=Nk++(Mn f 2++(Mn c 2++(Mn w 2++(Mn r 4++(Mn n 4++(Mn (De (uY f c w r n)).toNat 4++z)))))):=by
 simp only[HH,uY,D2]
theorem Afj{f c w r n:Nat}(h1:Ga f c w r n=true)(h2:EP c r n=true)(z:LB):Jg (HH f c w r n++z)=((f:Int),(c:Int),(w:Int),(r:Int),(n:Int),0):=by
 have hs:(f=1\/f=2)/\ (1<=c/\c<=6)/\ (w=8\/w=16\/w=24)/\ (1<=r/\r<=1048576)/\1<=n:=by simpa only[Ga,C9]using h1
 have hn:n<=4000:=by
  simp only[EP,C9]at h2;have:=O' 4000 c;omega
 have hlen:22<= (HH f c w r n++z).length:=by rw[B6,jI];omega
 have m4:min 4 (HH f c w r n++z).length=4:=F0
 have e4:(HH f c w r n++z).take 4=Nk:=by rw[GQ];rfl
 have e18:(HH f c w r n++z).take 18=uY f c w r n:=by
  rw[HH,D2,XA (by rw[WU];omega),Q0 (by rw[WU];omega)]
 have hlt:=(De (uY f c w r n)).toNat_lt;have p18:part (HH f c w r n++z) 18 4=Mn (De (uY f c w r n)).toNat 4:=by
  rw[HH,D2];exact Ru (WU _ _ _ _ _) (Bj _ _)
 have q0:f0 (HH f c w r n++z)=f:=by
  rw[f0,GQ,Ru (a:=Nk) (i:=4) (k:=2) rfl (Bj _ _),We];omega
 have q1:f1 (HH f c w r n++z)=c:=by
  rw[f1,GQ,<-D2,Ru fF (Bj _ _),We];omega
 have q2:f2 (HH f c w r n++z)=w:=by
  rw[f2,GQ,<-D2,<-D2,Ru fF (Bj _ _),We];omega
 have q3:f3 (HH f c w r n++z)=r:=by
  rw[f3,GQ,<-D2,<-D2,<-D2,Ru fF (Bj _ _),We];omega
 have q4:f4 (HH f c w r n++z)=n:=by
  rw[f4,GQ,<-D2,<-D2,<-D2,<-D2,Ru fF (Bj _ _),We];omega
 have h:=rs6 (b:=HH f c w r n++z) (by rw[m4,e4];rfl) F0 (by rw[e18,p18,We];omega) (by rw[q0,q1,q2,q3,q4];exact h1) (by rw[q1,q3,q4];exact h2);rw[q0,q1,q2,q3,q4]at h;exact h
theorem Ai3(l:LI)(z:LB){i:Nat}(hi:i<l.length):part (SF l++z) (4*i) 4=Mn (l[i]).toNat 4:=by
 have hs:SF l=SF (l.take i)++(Mn (l[i]).toNat 4++SF (l.drop (i+1))):=by
  conv=>lhs;rw[<-T4 i l,drop_cons hi]
  rw[SF,SF,SF,mC,cV]
 rw[hs,D2,D2];exact Ru (by rw[IE,J1];omega) (Bj _ _)
theorem Afg{l:LI}(ht:JY l=true)(z:LB):Jv (dK l++z) l.length=(l,0):=by
 have h:=ht;simp only[JY,B9,C9]at h;obtain⟨hn,h3⟩:=h;have h4:=(kG l 100000 F0).1 h3;have h6:=ig h4.1;have hlt:=(De (SF l)).toNat_lt;have e1:(dK l++z).take (4*l.length)=SF l:=by
  rw[dK,D2,XA (by rw[IE];omega),Q0 (by rw[IE];omega)]
 have e2:part (dK l++z) (4*l.length) 4=Mn (De (SF l)).toNat 4:=by
  rw[dK,D2];exact Ru (IE _) (Bj _ _)
 have e3:SD (dK l++z) l.length=l:=by
  apply P8
  ·rw[CZ]
  ·intro i h1 h2;have hx:=h4.1 l[i] (P1 _);have hy:=h6 l[i] (P1 _);simp only[SD,T9,U0];rw[dK,D2,Ai3 l _ h2,We];omega
 rw[ss4 hn (by rw[B6,rD];omega) (by rw[e1,e2,We];omega),e3,A4 ht]
theorem Ak4{b p:LB}{f c w r n T:Nat}{l:LI}{z:LB}(hp:p.length<=64)(hf:f=Lf p)(h1:Ga f c w r n=true)(h2:EP c r n=true)(hT:Be b=((T:Int),0))(hb:b.length<=100000)(hd:b.drop T=HH f c w r n++(lC p++(dK l++z)))
  (hl:l.length=(Ax (Ay r) n).length) (ht:JY l=true):Opn b p f c w r n (T+22+(if f=2 then 8 else 0)+4*l.length+4) l:=by
 have hlen:=congrArg List.length hd;rw[Q5,B6,B6,B6,jI,sG,rD,<-hf]at hlen;have Ayb:l.length<=1000/\1<=l.length:=by
  have h:=ht;simp only[JY,B9,C9]at h;omega
 have hread:Jg (b.drop T)=((f:Int),(c:Int),(w:Int),(r:Int),(n:Int),0):=by rw[hd];exact Afj h1 h2 _
 have t22:Ae (T:Int) 22=((T+22:Nat):Int):=by rw[Ag];omega
 have t30:Ae ((T+22:Nat):Int) 8=((T+30:Nat):Int):=by rw[Ag];omega
 have d22:b.drop (T+22)=lC p++(dK l++z):=by
  rw[<-S1,hd,<-jI f c w r n,QR]
 have dA:b.drop (T+22+(if f=2 then 8 else 0))=dK l++z:=by
  rw[<-S1,d22,hf,<-sG p,QR]
 have hend:∀A:Nat,A<=b.length->A=T+22+(if f=2 then 8 else 0)->Ds b p=Po b (f:Int) (c:Int) (w:Int) (r:Int) (n:Int) (A:Int)->Ds b p=some ((f:Int),(c:Int),(w:Int),(r:Int),(n:Int),((A+4*l.length+4:Nat):Int),l,0):=by
  intro A hA hA2 e;rw[e,tT h1 h2 b F0 A hA,hA2,dA,<-hl,Afg ht,A! A7]
 have hprog:Ds b p=some ((f:Int),(c:Int),(w:Int),(r:Int),(n:Int),((T+22+(if f=2 then 8 else 0)+4*l.length+4:Nat):Int),l,0):=by
  refine hend (T+22+(if f=2 then 8 else 0)) F0 rfl ?_;rw[Ds,Un,A! D4,A! D4,BD b F0,hT,Aa];simp only;rw[A! F6,Hb,Aa,F?,kI _ YG,Aa,hread];simp only;rw[A! F6];by_cases h0:p=[]
  ·have e1:f=1:=by rw[hf,Lf,A4 h0]
   rw[A! (by rw[h0,e1];decide),A! (by rw[h0];decide),t22,e1];rfl
  ·have e1:f=2:=by rw[hf,Lf,A! h0]
   have hne:(p !=([]:LB))=true:=by simpa using h0
   have hne2:(p==([]:LB))=false:=by simpa using h0
   have hdg:lC p=Mn (Xt p).toNat 8:=by rw[lC,A! h0]
   have hseg:(b.take (T+30)).drop (T+22)=Mn (Xt p).toNat 8:=by
    rw[d_,show T+30-(T+22)=8 by omega,d22,hdg,XA a_,Q0 a_]
   rw[e1,A4 rfl]at hlen;rw[A! (by rw[hne2,e1];decide),A4 hne,t22,t30,A! F2,Qo,Aa,F?,F?,hseg,L_ (Bj _ _) hp,Aa];simp only;rw[A! F6,A! A7,e1];rfl
 rcases xZ b p F0 hp with⟨e,he,h,_⟩|⟨f',c',w',r',n',A',l',o⟩
 ·rw[hprog]at h;have:=congrArg (λo=>(o.getD (dL 0)).2.2.2.2.2.2.2) h;simp only[dN,dL]at this;exact absurd this.symm he
 ·have h:=o.prog;rw[hprog]at h;simp only[I2,O7]at h;obtain⟨i1,i2,i3,i4,i5,i6,i7,_⟩:=h;have j1:f=f':=F0
  have j2:c=c':=F0
  have j3:w=w':=F0
  have j4:r=r':=F0
  have j5:n=n':=F0
  have j6:=Int.ofNat.inj i6;subst j1 j2 j3 j4 j5 i7;rw[j6];exact o
theorem Auj:∀{l:LI},(∀x∈l,0<=x)->∀k,0<= (l.take k).sum
 |[],_,k=>by simp
 |x::l,h,0=>by simp
 |x::l,h,k+1=>by
  have:=Auj (l:=l) (λy hy=>h y (O2 _ hy)) k;have:=h x P4;rw[List.take_succ_cons,OL];omega
theorem tS(fs:List LB)(k:Nat):(Ck fs).take k=Ck (fs.take k):=by rw[Ck,Ck,List.map_take]
theorem Arq{b z:LB}{A:Nat}{fs:List LB}(hd:b.drop A=fs.flatten++z){k:Nat}(hk:k<fs.length):r! b A (Ck fs) k=fs[k]:=by
 have e0:fs.flatten=(fs.take k).flatten++(fs[k]++(fs.drop (k+1)).flatten):=by
  conv=>lhs;rw[<-T4 k fs,drop_cons hk]
  rw[ZR,S9]
 have s1:((Ck fs).take k).sum=((fs.take k).flatten.length:Int):=by rw[tS,GO]
 have s2:((Ck fs).take (k+1)).sum=((fs.take k).flatten.length+fs[k].length:Nat):=by rw[tS,GO,Mx hk,ZR];simp
 rw[r!,s1,s2,show((A:Int)+((fs.take k).flatten.length+fs[k].length:Nat)).toNat=A+((fs.take k).flatten.length+fs[k].length) by omega,show((A:Int)+((fs.take k).flatten.length:Int)).toNat=A+(fs.take k).flatten.length by omega,
  d_,<-S1,hd,e0,D2,QR,Nat.add_sub_add_left,T!,D2,Y!]
theorem Ahh{b z:LB}{A:Nat}{fs:List LB}(hd:b.drop A=fs.flatten++z)(hA:A<=b.length)(k:Nat):(A:Int)+((Ck fs).take k).sum<=b.length:=by
 have h:=congrArg List.length hd;rw[Q5,B6]at h;have h2:(fs.take k).flatten.length<=fs.flatten.length:=by
  conv=>rhs;rw[<-T4 k fs,ZR,B6]
  omega
 rw[tS,GO];omega
theorem Af9{b z:LB}{A:Nat}{fs:List LB}(hd:b.drop A=fs.flatten++z):P7 b A (Ck fs)=(Rg z).2:=by
 rw[P7,GO,show((A:Int)+(fs.flatten.length:Int)).toNat=A+fs.flatten.length by omega,<-S1,hd,QR]
section
variable {b p:LB} {f c w r n A:Nat} {fs:List LB} {z:LB} (o:Opn b p f c w r n A (Ck fs)) (hd:b.drop A=fs.flatten++z)
include o hd
theorem Ati{k:Nat}(hk:k<fs.length){y:LX}{e:Int}{m:Nat}(hm:Aj (Ax (Ay r) n) (k:Int)=some (m:Int))(hdec:Lk (c:Int) (w:Int) (Xe p) (m:Int) fs[k]=some (y,e)):
  (lG b p f c w r n A (Ck fs) k).2=e/\ (e=0->lG b p f c w r n A (Ck fs) k=(Ey (w:Int) y,0)/\smF w (lG b p f c w r n A (Ck fs) k)=y):=by
 have hkl:k<(Ck fs).length:=by rw[Nt];exact hk
 obtain⟨m',x',s',e',g⟩:=sR o k hkl;have hin:=Ahh hd o.at' (k+1);have hmm:m'=m:=by
  have:=g.mom;rw[hm]at this;have:=O9 this;omega
 subst hmm;rcases g.way with⟨h1,_⟩|⟨_,h2,_⟩
 ·omega
 ·rw[Arq hd hk,hdec]at h2;simp only[I2,O7]at h2;obtain⟨rfl,rfl⟩:=h2;refine⟨by rw[g.eq],λhe=>?_⟩;have:=g.sL (WA o.shape).2.1;obtain⟨h3,_⟩:=g.some' he;rw[g.eq,this,h3,he];exact⟨rfl,rfl⟩
end
theorem D7(c:Nat)(h1:1<=c):∀(l:LI) (x:LX),(∀m∈l,1<=m)->x.length=l.sum.toNat*c->∀(k:Nat) (hk:k<l.length) (hk':k<(Ze c x l).length),(Ze c x l)[k].length=l[k].toNat*c
 |[],x,_,_=>λk hk=>absurd hk (SK _)
 |m::l,x,hm,hx=>by
  have hm1:=hm m P4;have hl:0<=l.sum:=by
   have:=Auj (l:=l) (λy hy=>by have:=hm y (O2 _ hy);omega) l.length;rw[RN]at this;exact this
  rw[OL,show(m+l.sum).toNat=m.toNat+l.sum.toNat by omega,I8]at hx;intro k hk hk';cases k with
  |zero=>simp only[Ze,List.getElem_cons_zero,J1];omega
  |succ k=>
   simp only[Ze,List.getElem_cons_succ];exact D7 c h1 l (x.drop (m.toNat*c)) (λm hm'=>hm m (O2 _ hm')) YG k (by simpa using hk) _
structure FileOf (c w r n:Nat) (x:LX) (p:LB) (T:Nat) (fs:List LB) (z b:LB):Prop where
 clip:ClipOk c w r n x
 pass:p.length<=64
 front:Be b=((T:Int),0)
 le:b.length<=100000
 lens:Ck fs=Ck (MQ c w r n x p)
 form:b.drop T=HH (Lf p) c w r n++(lC p++(dK (Ck (MQ c w r n x p))++(fs.flatten++z)))
def lN(T:Nat)(p:LB)(K:Nat):Nat:=T+22+(if Lf p=2 then 8 else 0)+4*K+4
section
variable {c w r n:Nat} {x:LX} {p:LB} {T:Nat} {fs:List LB} {z b:LB} (h:FileOf c w r n x p T fs z b)
include h
theorem FileOf.cnt:fs.length=(MQ c w r n x p).length:=by
 have:=congrArg List.length h.lens;rw[Nt,Nt]at this;exact this
theorem FileOf.Dr:Opn b p (Lf p) c w r n (lN T p fs.length) (Ck fs):=by
 have hc:=h.clip;have hl:(Ck fs).length=(Ax (Ay r) n).length:=by rw[Nt,h.cnt];exact sD p
 have ht:JY (Ck fs)=true:=by rw[h.lens];exact B_ hc p
 have hd:=h.form;rw[<-h.lens]at hd;have:=Ak4 (z:=fs.flatten++z) h.pass rfl (hc.shape _ (Adl p)) hc.fit h.front h.le hd hl ht;rw[Nt]at this;exact this
theorem FileOf.wO:b.drop (lN T p fs.length)=fs.flatten++z:=by
 have hd:=h.form;rw[<-h.lens]at hd;have e:lN T p fs.length=T+(22+((if Lf p=2 then 8 else 0)+(4*fs.length+4))):=by unfold lN;omega
 have e2:4*fs.length+4=(dK (Ck fs)).length:=by rw[rD,Nt]
 rw[e,<-S1,hd,<-S1]
 conv=>lhs;rw[<-jI (Lf p) c w r n,QR,<-S1,<-sG p,QR,e2,QR]
theorem FileOf.mom{k:Nat}(hk:k<fs.length):∃(m:Nat) (hk':k<(aH c r n x).length),Aj (Ax (Ay r) n) (k:Int)=some (m:Int)/\1<=m/\m<=4000/c/\ ((aH c r n x)[k]).length=m*c/\inR (w:Int) (aH c r n x)[k]/\ (MQ c w r n x p)[k]'(by rw[<-h.cnt];exact hk)=Nb (w:Int) c (Xe p) (aH c r n x)[k]:=by
 have hc:=h.clip;have hlen:fs.length=(Ax (Ay r) n).length:=by rw[h.cnt];exact sD p
 have hkf:k<(Ax (Ay r) n).length:=F0
 have hk':k<(aH c r n x).length:=by rw[N6];exact hkf
 have hm1:=AT (Qb r) hc.cnt.1 _ (P1 hkf);obtain⟨m,hm⟩:=OV (show 0<= (Ax (Ay r) n)[k] by omega);have hg:=D7 c hc.ch.1 _ x (AT (Qb r) hc.cnt.1) (by rw[hc.sum,hc.len,F?]) k hkf hk';rw[hm,F?]at hg;have hmem:=XX hc _ (P1 hk');have hx:=nD c hc.ch.1 _ x (AT (Qb r) hc.cnt.1) (by rw[hc.sum,hc.len,F?]) _ (P1 hk');have hg':((aH c r n x)[k]).length=m*c:=hg;refine⟨m,hk',by rw[Cf hkf,hm],F0,?_,hg',hmem.2.2.2,?_⟩
 ·have h1:=hx.2.1;have h2:m*c<=n*c:=by rw[<-hg',<-hc.len];exact h1
  have h3:m<=n:=Nat.le_of_mul_le_mul_right h2 hc.ch.1;exact U4 h3 hc.cnt.2
 ·simp only[MQ,T9]
theorem FileOf.Awr{k:Nat}(hk:k<fs.length)(he:fs[k]=(MQ c w r n x p)[k]'(by rw[<-h.cnt];exact hk)):
  lG b p (Lf p) c w r n (lN T p fs.length) (Ck fs) k=(Ey (w:Int) ((aH c r n x).getD k []),0)/\smF w (lG b p (Lf p) c w r n (lN T p fs.length) (Ck fs) k)=(aH c r n x).getD k []:=by
 have hc:=h.clip;obtain⟨m,hk',h1,h2,h3,h4,h5,h6⟩:=h.mom hk;have hd:=(Abb hc.bits (nQ p) hc.ch.1 hc.ch.2 h2 h3 h4 h5).1;have hg:=Ati h.Dr h.wO hk h1 (by rw[he,h6];exact hd);have e:(aH c r n x).getD k []=(aH c r n x)[k]:=by rw[D!,KV hk'];rfl
 rw[e];exact hg.2 rfl
theorem FileOf.beh:P7 b (lN T p fs.length) (Ck fs)=(Rg z).2:=Af9 h.wO
end
theorem K8:∀(ys:List LX) (G:Nat->LX) (k:Nat),(∀i,i<ys.length->G (k+i)=ys.getD i [])->ny G ys.length k=ys.flatten
 |[],G,k,_=>rfl
 |y::ys,G,k,h=>by
  have h0:=h 0 A7;have ih:=K8 ys G (k+1) (λi hi=>by have:=h (i+1) F7;rw[show k+1+i=k+(i+1) by omega,this];simp);rw[I!,ny,ih,S9,show k=k+0 from rfl,h0];rfl
structure EncOk (c w r:Nat) (p:LB):Prop where
 ch:1<=c/\c<=6
 bits:Cj (w:Int)
 rate:1<=r/\r<=1048576
 pass:p.length<=64
def szE(c w:Nat):Nat:=c*wB (w:Int)
def nE(c w:Nat)(t:LB):Nat:=t.length/szE c w
def XE(c w:Nat)(t:LB):LX:=sxs (wB (w:Int)) (nE c w t*c) t
def P'(c r n:Nat):Prop:=n*c<=4000/\ (n=0\/ (n-1)/Ay r+1<=1000)
instance(c r n:Nat):Decidable (P' c r n):=by unfold P';exact inferInstance
theorem P'.mono{c r n m:Nat}(h:P' c r n)(hm:m<=n):P' c r m:=by
 obtain⟨h1,h2⟩:=h;have h3:=ES c hm;have h4:(m-1)/Ay r<= (n-1)/Ay r:=Nat.div_le_div_right F0;refine⟨F0,?_⟩;omega
def Cd(e:Int):Prop:=e=0\/e=4\/e=12\/e=16\/e=22\/e=24\/e=26\/e=38
instance(e:Int):Decidable (Cd e):=by unfold Cd;infer_instance
structure HdI (f c w r n:Int) (F C W R N:Nat):Prop where
 ef:f=F
 ec:c=C
 ew:w=W
 er:r=R
 en:n=N
 shape:Ga F C W R N=true
 fit:EP C R N=true
inductive FitD (o:LB) (f c w r n:Int) (g:LI) (a:Int) (x:LB):Prop
 |new:f=0->c=0->w=0->r=0->n=0->g=[]->a=0->x=[]->FitD o f c w r n g a x
 |head (F C W R N:Nat):HdI f c w r n F C W R N-> (o==([]:LB))=decide (F=1)->g=[]->a=0->x=[]->FitD o f c w r n g a x
 |tab (F C W R N A:Nat):HdI f c w r n F C W R N-> (o==([]:LB))=decide (F=1)->JY g=true->g.length=(Ax (Ay R) N).length->a=A->A<=g.length->FitD o f c w r n g a x
def ID3:LB:=[73,68,51]
def APX:LB:=[65,80,69,84,65,71,69,88]
def X7(b s:LB):Bool:=decide (b.length<s.length)&&(b==s.take b.length)
theorem Afc(b s:LB):Oi b s=some (X7 b s):=by
 rw[Oi,X7];by_cases h:b.length<s.length
 ·rw[A4 YB,Ac,Ji,Aa,eC h,R'];rfl
 ·rw[A! YB,T6 h];rfl
def stS(b:LB):Int×Int×Int×Int×Int×Int×Int:=
 if(Be b).2=24 then(0,0,0,0,0,0, -1)else if(Be b).2≠0 then(0,0,0,0,0,0,(Be b).2)else
 if(X7 (Kz b) ID3||X7 (Kz b) APX)=true then(0,0,0,0,0,0, -1)else
 if(Jg (Kz b)).2.2.2.2.2=24 then(0,0,0,0,0,0, -1)else((Be b).1+22,(Jg (Kz b)).1,(Jg (Kz b)).2.1,(Jg (Kz b)).2.2.1,(Jg (Kz b)).2.2.2.1,(Jg (Kz b)).2.2.2.2.1,(Jg (Kz b)).2.2.2.2.2)
theorem Aab(b:LB)(hb:b.length<=100000):Uy b=some (stS b):=by
 rw[Uy,Ai8,CR b F0,Aa,stS];have hok:=VW (b:=b);simp only;by_cases h1:(Be b).2=24
 ·rw[A4 (by rw[Bb];simpa using h1),A4 h1]
 rw[A! (by rw[Bb];simpa using h1),A! h1];by_cases h2:(Be b).2≠0
 ·rw[A4 (by rw[Ak];simpa using h2),A4 h2]
 have h0:(Be b).2=0:=by simpa using h2
 obtain⟨k1,k2,k3⟩:=hok h0;rw[A! (by rw[Ak,h0];simp),A! h2,Hb,Aa,Afc,Aa,show b.drop (Be b).1.toNat=Kz b from rfl,show([73,68,51]:LB)=ID3 from rfl,show([65,80,69,84,65,71,69,88]:LB)=APX from rfl];by_cases h3:X7 (Kz b) ID3=true
 ·rw[A4 h3,h3,Bool.true_or,A4 rfl]
 rw[A! h3,Afc,Aa,Bool.eq_false_iff.2 h3,Bool.false_or];by_cases h4:X7 (Kz b) APX=true
 ·rw[A4 h4,A4 h4]
 have hl:(Kz b).length<=b.length:=by rw[Kz,Q5];omega
 rw[A! h4,A! h4,Ahu,AF,eT _ F0,Aa];simp only;by_cases h5:(Jg (Kz b)).2.2.2.2.2=24
 ·rw[A4 (by rw[Bb];simpa using h5),A4 h5]
 ·rw[A! (by rw[Bb];simpa using h5),A! h5,Ag]
structure SzD (p:LB) (g:LI) (a:Int) (x:LB):Prop where
 hp:p.length<=100000
 hg:g.length<=1000
 hx:x.length+12000*(g.length-a.toNat)<=13000000
section
variable {bk:LB->Int->Int->Int->Int->Int->Int->LI->LB->Vj} {o p:LB} {f c w r n:Int} {g:LI} {a:Int} {x:LB} {u:Bool} {v:Int}
theorem f75{d:Bool}{e:Int}:Bdk bk o u v f c w r n a x d e p g=Ady bk o u v p f c w r n a d e g x:=rfl
end
theorem bnd{α β:Type}{o:Option α}{f:α->Option β}{r:β}(h:Option.bind o f=some r):∃x,o=some x/\f x=some r:=by
 cases o with
 |none=>cases h
 |some x=>exact⟨x,rfl,h⟩
def OutB(f c w r n:Int)(g:LI)(a:Int)(x:LB):Prop:=∀(F C W R N A:Nat),HdI f c w r n F C W R N->g≠ []->a=(A:Int)-> (x.length:Int)<=gS C W (Ax (Ay R) N) A
theorem OutB.nil{f c w r n:Int}{a:Int}{x:LB}:OutB f c w r n [] a x:=λ_ _ _ _ _ _ _ h=>absurd rfl h
theorem OutB.zero{f c w r n:Int}{g:LI}:OutB f c w r n g 0 []:=λF C W R N A h hg ha=>by
 obtain rfl:A=0:=F0
 rw[Aa0];simp
structure Wt (o p:LB) (f c w r n:Int) (g:LI) (a:Int) (x:LB):Prop where
 fit:FitD o f c w r n g a x
 sz:SzD p g a x
 out:OutB f c w r n g a x
 wait:DX o p f c w r n g a x false 0=some (o,p,f,c,w,r,n,g,a,x,false,0, -1)
abbrev xB(q:Nat)(o p:LB)(f c w r n:Int)(g:LI)(a:Int)(x:LB):=KJ q o p f c w r n g a x false 0
abbrev Fd(o s:LB):=xB Aq o s 0 0 0 0 0 [] 0 []
inductive Bh (o s:LB):LB->Int->Int->Int->Int->Int->LI->Int->LB->Int->Prop
 |wt {p:LB} {f c w r n:Int} {g:LI} {a:Int} {x:LB}:Wt o p f c w r n g a x->p.length<=s.length-> (∀b:LB,(s++b).length<=100000->Fd o (s++b)=xB Aq o (p++b) f c w r n g a x)->Bh o s p f c w r n g a x 0
 |er {x:LB} {e:Int}:0<e->Cd e->x.length<=12000-> (∀b:LB,(s++b).length<=100000->Fd o (s++b)=some (o,[],0,0,0,0,0,[],0,x,false,e,e))->Bh o s [] 0 0 0 0 0 [] 0 x e
variable {o s p:LB} {f c w r n:Int} {g:LI} {a:Int} {x:LB} {e:Int}
theorem Bh.new(ho:o.length<=64):Bh o [] [] 0 0 0 0 0 [] 0 [] 0:=by
 refine .wt ⟨.new rfl rfl rfl rfl rfl rfl rfl rfl,⟨A7,A7,A7⟩,OutB.nil,?_⟩ (D1 _) λb _=>rfl;rw[DX,JI,A4 F6,Aab [] A7,Aa];rfl
end Go.Pl
namespace Go.Pl
open Go Go.Lv
section
variable {o s p:LB} {f c w r n:Int} {g:LI} {a:Int} {x:LB} {e:Int}
theorem FitD.drop(h:FitD o f c w r n g a x)(t:Nat):FitD o f c w r n g a (x.drop t):=by
 cases h with
 |new e1 e2 e3 e4 e5 e6 e7 e8=>subst e8;exact .new e1 e2 e3 e4 e5 e6 e7 A7
 |head F C W R N hd hpw e6 e7 e8=>subst e8;exact .head F C W R N hd hpw e6 e7 A7
 |tab F C W R N A hd hpw ht hl ea hA=>exact .tab F C W R N A hd hpw ht hl ea hA
theorem OutB.drop(h:OutB f c w r n g a x)(t:Nat):OutB f c w r n g a (x.drop t):=by
 intro F C W R N A hd hg ha;have:=h F C W R N A hd hg ha;rw[Q5];omega
end
section
variable {c w r n:Nat} {x:LX} (h:ClipOk c w r n x) {p:LB} (hp:p.length<=64) (h4:x.length<=400)
include h hp h4
omit hp in
theorem A8:(Ui c w r n x p).length<=8000:=by
 have h1:=Ac0 h p;have h2:=sD (c:=c) (w:=w) (r:=r) (n:=n) (x:=x) p;rw[AG]at h2;have h3:(n-1)/Ay r<=n-1:=O' _ _;have h5:n*1<=n*c:=cZ n h.ch.1;have h6:=h.len;have:=h.cnt;omega
end
inductive Pl (S D A:Int) (G:Nat->Int) (l:LI) (a:Int):UInt8->Int->Int->Prop
 |t:a<S->Pl S D A G l a 1 0 0
 |h:S<=a->a<S+22->Pl S D A G l a 2 0 0
 |d:S+22<=a->a<D->Pl S D A G l a 3 0 0
 |s:S+22<=a->D<=a->a<A->Pl S D A G l a 4 0 0
 |f (i:Nat):S+22<=a->D<=a->A<=a->i<l.length->A+(l.take i).sum<=a->a<A+(l.take (i+1)).sum->Pl S D A G l a 5 i (G i)
 |b:S+22<=a->D<=a->A<=a->A+l.sum<=a->Pl S D A G l a 6 0 0
theorem ClipOk.enc{c w r n:Nat}{x:LX}(h:ClipOk c w r n x){p:LB}(hp:p.length<=64):EncOk c w r p:=⟨h.ch,h.bits,h.rate,hp⟩
abbrev two(k m:LB):List (LB×LB×Unit):=[([102,109,116,32],k,()),([100,97,116,97],m,())]
theorem lb2{n:UInt64}(h:n.toNat<65536):Km n 2=some (Mn n.toNat 2,0):=JV n 2 F0 F0 h
theorem Atw(f g h:Int)(a:LX)(ha:a.length<=4000000):∀(j i q:Nat),i+j=a.length->j<q->Gy f g h a f g h a q (i:Int)=some true
 |0,i,q+1,hi,_=>by
  rw[Gy,Nn,A! F2];rfl
 |j+1,i,q+1,hi,hq=>by
  have hlt:i<a.length:=F0
  have ih:=Atw f g h a ha j (i+1) q F0 F0;rw[Gy,Nn,A4 F2,Cf hlt,Aa,Aa,A! (by rw[Ano];simp),Ag];exact ih
theorem wI(f g h:Int)(a:LX)(ha:a.length<=4000000):Tz f g h a f g h a=some true:=by
 rw[Tz,Vq,A! TN];exact Atw f g h a ha a.length 0 Aq F0 C0
def pW:LB:=[84,84,65,49,2,0,2,0,16,0,4,0,0,0,5,0,0,0,53,215,167,173,160,118,203,71,159,71,36,226,16,0,0,0,7,0,0,0,251,214,78,132,4,64,128,6,6,4,107,94,4,96,129,0,174,194,153,9,74,16,0,85,195,142,200]
theorem As7:Nf [120]=some pW:=by kernel_rfl
theorem is1:Cn pW [120] 0=some true:=by kernel_rfl
theorem is2:Cn pW [] 26=some true:=by kernel_rfl
theorem is3:Cn pW [121] 26=some true:=by kernel_rfl
theorem is4:Cn (pW++[0]) [120] 38=some true:=by kernel_rfl
theorem is5:Cn (pW.take (pW.length-1)) [120] 24=some true:=by kernel_rfl
def exG:LB:=[84,84,65,49,2,0,2,0,16,0,4,0,0,0,5,0,0,0,53,215,167,173,160,118,203,71,159,71,36,226,16,0,0,0,7,0,0,0,251,214,78,132,4,64,128,6,6,4,107,94,4,96,129,0,174,194,153,9,74,17,0,85,195,142,200]
theorem is6:Cn exG [120] 22=some true:=by kernel_rfl
theorem An3:Gt=some true:=by
 rw[Gt,As7,Aa,A! F6,show Cm [] pW=some pW from by kernel_rfl,Aa,show Aj pW (Ah (Ac pW) 6)=some 16 from by kernel_rfl,Aa,show He pW (Ah (Ac pW) 6) (Ri 16 1)=some exG from by kernel_rfl,Aa,
  is1,Aa,A! F6,is2,Aa,A! F6,is3,Aa,A! F6,show Cm pW [0]=some (pW++[0])from by kernel_rfl,Aa,is4,Aa,A! F6,show Ca pW 0 (Ah (Ac pW) 1)=some (pW.take (pW.length-1))from by kernel_rfl,Aa,is5,Aa,A! F6,is6]
theorem mX{p:Prop}(h:p:=by simp only[B6,Ye];omega):p:=h
theorem Ap5(n:Nat)(h:n<4611686018427387904):Cy (n:Int) (127:Int)=((n %128:Nat):Int):=by
 have e:Cy (n:Int) (127:Int)=wrap64 ((BitVec.ofInt 64 (n:Int)&&&BitVec.ofInt 64 127).toNat:Int):=rfl;rw[e,XP,R5,R5];have h1:((n:Int) %((2^64:Nat):Int)).toNat=n:=F0
 have h2:((127:Int) %((2^64:Nat):Int)).toNat=2^7-1:=F6
 rw[h1,h2,W?,Bq F0 F0]
def mM(n:Nat):LB:=[UInt8.ofNat (n/2097152 %128),UInt8.ofNat (n/16384 %128),UInt8.ofNat (n/128 %128),UInt8.ofNat (n %128)]
theorem bW(n k:Nat)(h:k<=64):rB (n:Int) k=((n/2^k:Nat):Int):=by
 have e:rB (n:Int) k=(n:Int).fdiv ((2^k:Nat):Int):=by
  rw[rB,QM h,Int.natCast_pow];rfl
 rw[e,Q_ _ (U' _)];rfl
theorem Agp(n k:Nat)(h:n<268435456)(hk:k<=64):(Ad (Cy (rB (n:Int) k) 127):UInt8)=UInt8.ofNat (n/2^k %128):=by
 have:=O' n (2^k);rw[bW _ _ hk,Ap5 _ F0,H_]
theorem Af3(n:Nat)(h:n<268435456):Ng (n:Int)=some (mM n):=by
 have hF:Aq=(Aq-5)+1+1+1+1+1:=by have:=Ao;omega
 have st:∀(q:Nat) (a:Int) (b b':LB) (k:Nat),k<=64->Ci a 4=true->Lj (Bd 7 a) 0=true-> (GI.toZ (Bd 7 a)).toNat=k->Aj b (Ah 3 a)≠none->He b (Ah 3 a) (UInt8.ofNat (n/2^k %128))=some b'->Gk (n:Int) (q+1) a b=Gk (n:Int) q (Ae a 1) b':=by
  intro q a b b' k hk h1 h2 h3 h4 h5;obtain⟨v,hv⟩:=Option.ne_none_iff_exists'.1 h4;rw[Gk,Rv,A4 h1,h2,At7,Aa,hv,Aa,h3,Agp n k h hk,h5,Aa]
 rw[Ng,Yn,show vg (4:Int) (0:UInt8)=some [0,0,0,0]from rfl,Aa,show Hu (geq (4:Int) (4:Int))=some ()from rfl,Aa,Aiz,hF];rw[st _ 0 [0,0,0,0] [0,0,0,UInt8.ofNat (n/2^0 %128)] 0 F6 rfl rfl rfl F6 rfl,
  st _ _ _ [0,0,UInt8.ofNat (n/2^7 %128),UInt8.ofNat (n/2^0 %128)] 7 F6 rfl rfl rfl (by rw[show Ah (3:Int) (Ae 0 1)=((2:Nat):Int)from rfl,Cf A7];simp) rfl,
  st _ _ _ [0,UInt8.ofNat (n/2^14 %128),UInt8.ofNat (n/2^7 %128),UInt8.ofNat (n/2^0 %128)] 14 F6 rfl rfl rfl (by rw[show Ah (3:Int) (Ae (Ae 0 1) 1)=((1:Nat):Int)from rfl,Cf A7];simp) rfl,
  st _ _ _ [UInt8.ofNat (n/2^21 %128),UInt8.ofNat (n/2^14 %128),UInt8.ofNat (n/2^7 %128),UInt8.ofNat (n/2^0 %128)] 21 F6 rfl rfl rfl (by rw[show Ah (3:Int) (Ae (Ae (Ae 0 1) 1) 1)=((0:Nat):Int)from rfl,Cf A7];simp) rfl]
 rw[Gk,Rv,A! F6,LG,Aiq,mM];simp
theorem F!(n:Nat):(mM n).length=4:=rfl
theorem Ag4(n:Nat)(h:n<268435456):JE (mM n) 0=((n:Int),0):=by
 have e:∀k:Nat,(UInt8.ofNat (k %128)).toNat=k %128:=λk=>by rw[M5,B4 F0]
 rw[mM,JE,e,A! F0,JE,e,A! F0,JE,e,A! F0,JE,e,A! F0,JE];congr 1;omega
def lE(n:Nat)(foot:Bool):LB:=[4,0,if foot then 16 else 0]++mM n
theorem qE(n:Nat)(foot:Bool):(lE n foot).length=7:=rfl
def rW(body:LB)(foot:Bool):LB:=[73,68,51]++(lE body.length foot++(body++(if foot then [51,68,73]++lE body.length foot else [])))
theorem iw(body:LB)(foot:Bool):(rW body foot).length=body.length+10+(if foot then 10 else 0):=by
 unfold rW;cases foot<;>simp[qE]<;>omega
theorem idw{body:LB}(foot:Bool)(h:body.length<=500):Sp body foot=some (rW body foot,0):=by
 have hl:=iw body foot;rw[Sp,show Ac body=((body.length:Nat):Int)from rfl,Af3 _ F0,Aa,Bu (by rw[F!];simp),Aa];cases foot with
 |true=>
  rw[A4 rfl,show He ([4,0,0]++mM body.length) 2 16=some (lE body.length true)from rfl,Aa,Bu (by simp[qE];omega),Aa];have e: [73,68,51]++(lE body.length true++body)++([51,68,73]++lE body.length true)=rW body true:=by simp[rW]
  rw[e,A! (by rw[Am,Ac,hl];simp;omega)]
 |false=>
  rw[A! A7,show([4,0,0]++mM body.length:LB)=lE body.length false from rfl,Bu (by simp[qE];omega),Aa];have e: [73,68,51]++lE body.length false++body=rW body false:=by simp[rW]
  rw[e,A! (by rw[Am,Ac,hl];simp;omega)]
theorem Aom(body:LB)(foot:Bool)(h:body.length<=500)(z:LB):FD (rW body foot++z)=(((rW body foot).length:Int),0):=by
 have hl:=iw body foot;have hb:(rW body foot++z).length=(rW body foot).length+z.length:=B6;have e:rW body foot++z=[73,68,51]++([4,0,if foot then 16 else 0]++(mM body.length++(body++((if foot then [51,68,73]++lE body.length foot else [])++z)))):=by simp[rW,lE]
 have p1:part (rW body foot++z) 6 4=mM body.length:=by rw[e,<-D2];exact Ru (by cases foot<;>rfl) (F! _)
 have p2:part (rW body foot++z) 3 7=lE body.length foot:=by
  rw[show rW body foot++z=[73,68,51]++(lE body.length foot++(body++((if foot then [51,68,73]++lE body.length foot else [])++z))) by simp[rW]];exact Ru rfl (qE _ _)
 have g3:(rW body foot++z).getD 3 0=4:=by rw[e];rfl
 have g4:(rW body foot++z).getD 4 0=0:=by rw[e];rfl
 have g5:(rW body foot++z).getD 5 0=if foot then 16 else 0:=by rw[e];rfl
 rw[FD,A! (by rw[e];simp),A! F0,p1,Ag4 _ F0,g3,g4,g5,A! (by cases foot<;>simp),H0,g5];have hv:(body.length:Int)+10+(if(if foot=true then(16:UInt8)else 0)=16 then 10 else 0)=(((rW body foot).length:Nat):Int):=by
  rw[hl];cases foot<;>simp
 simp only[hv];rw[fV,A! (by split at hl<;>omega),A! F0,g5,p2];cases foot with
 |false=>rw[A! A7]
 |true=>
  rw[A!];intro hh;apply hh.2;rw[F?,Y!];have hk:(((rW body true).length:Nat)-10:Int).toNat=([73,68,51]++(lE body.length true++body)).length:=by rw[hl];simp[qE];omega
  rw[hk,show rW body true=([73,68,51]++(lE body.length true++body))++([51,68,73]++lE body.length true) by simp[rW],QR]
def Im(l:LB)(m:Nat)(hd:Bool):LB:=(if hd then Fc l.length m 2684354560 else [])++(l++Fc l.length m (if hd then 2147483648 else 0))
theorem SB(l:LB)(m:Nat)(hd:Bool):(Im l m hd).length=l.length+32+(if hd then 32 else 0):=by
 unfold Im;cases hd<;>simp[Ye]<;>omega
theorem zM{l:LB}{m:Nat}(hd:Bool)(h:l.length<=500)(hm:m<=2):VV l (m:Int) hd=some (Im l m hd,0):=by
 have hc:kD l (m:Int) hd=some 0:=by
  rw[kD];have e:((Dq (Ac l) 3000||Ci (m:Int) 0)||Dq (m:Int) 1000)=false:=by
   rw[Am,Af,Am,Ac];simp;omega
  rw[e];rfl
 have e1:=VZ l.length m 2684354560 F0 F0 F6;have e2:=VZ l.length m 2147483648 F0 F0 F6;have e3:=VZ l.length m 0 F0 F0 F6;rw[VV,As6,hc,Aa,A! F6];cases hd with
 |true=>
  rw[A4 rfl,show Ac l=((l.length:Nat):Int)from rfl,e1,Aa,bG,YT,Bu (by rw[Ye];omega),Aa,show Ac l=((l.length:Nat):Int)from rfl,e2,Aa,Bu (by rw[B6,Ye,Ye];omega),Aa];simp[Im]
 |false=>
  rw[A! A7,bG,YT,Bu F7,Aa,show Ac l=((l.length:Nat):Int)from rfl,e3,Aa,Bu (by rw[Ye];simp;omega),Aa];simp[Im]
theorem tR(n m fl:Nat)(z:LB):Fc n m fl++z=(tO++Mn 2000 4)++(Mn (n+32) 4++(Mn m 4++(Mn fl 4++(List.replicate 8 0++z)))):=by simp[Fc]
theorem Au9{n m fl:Nat}(z:LB):part (Fc n m fl++z) 12 4=Mn (n+32) 4:=by rw[tR];exact Ru (by simp[tO,Bj]) (Bj _ _)
theorem Auy{n m fl:Nat}(z:LB):part (Fc n m fl++z) 16 4=Mn m 4:=by
 rw[tR,<-D2];exact Ru (by simp[tO,Bj]) (Bj _ _)
theorem pD{n m fl:Nat}(z:LB):(Fc n m fl++z).take 8=tO:=by rw[tR];rfl
theorem zI{n:Nat}(h:n<4294967296):Eh (Mn n 4)=n:=by rw[We,B4 (by simpa using h)]
theorem Arb{n m fl:Nat}(hn:n<=500)(hm:m<=2)(z:LB):ER (Fc n m fl++z)=false/\Eh (part (Fc n m fl++z) 12 4)=n+32/\Eh (part (Fc n m fl++z) 16 4)=m:=by
 have h1:=Au9 (n:=n) (m:=m) (fl:=fl) z;have h2:=Auy (n:=n) (m:=m) (fl:=fl) z;have h3:Eh (part (Fc n m fl++z) 12 4)=n+32:=by rw[h1,zI F0]
 have h4:Eh (part (Fc n m fl++z) 16 4)=m:=by rw[h2,zI F0]
 refine⟨?_,h3,h4⟩;rw[ER,h3,h4];simp;omega
theorem Ak3{l:LB}{m:Nat}(h:l.length<=500)(hm:m<=2)(z:LB):Cv (Im l m true++z)=(((Im l m true).length:Int),0):=by
 have hl:=SB l m true;have hb:(Im l m true++z).length=(Im l m true).length+z.length:=B6;have e:Im l m true++z=Fc l.length m 2684354560++(l++(Fc l.length m 2147483648++z)):=by simp[Im]
 have h8:(Im l m true++z).take 8=tO:=by rw[e];exact pD _
 obtain⟨g1,g2,g3⟩:=Arb (fl:=2684354560) h hm (l++(Fc l.length m 2147483648++z));rw[<-e]at g1 g2 g3;have hT:FD (Im l m true++z)=(0,6):=by
  rw[FD,A4];intro hh;have:=hh.2;have h3:(Im l m true++z).take 3=tO.take 3:=by rw[<-h8,Z_];rfl
  rw[h3]at this;exact absurd this F6
 simp only[P9]at hl;rw[Cv,hT,A! F6];have t32:(Im l m true++z).take 32=Fc l.length m 2684354560:=by
  rw[e];exact dD (Ye _ _ _)
 have e2:Im l m true++z=(Fc l.length m 2684354560++(l++Fc l.length m 2147483648))++z:=by simp[Im]
 have e3:((Im l m true++z).take (l.length+32+32)).drop (l.length+32)=Fc l.length m 2147483648:=by
  rw[e2,dD mX,<-D2];exact dY mX
 have e4:=fa7 (b:=Im l m true++z) ⟨F0,h8⟩ F0 g1 (by rw[g2,g3,t32,dB]) (by rw[g2];omega) (by rw[g2,g3,dB];exact e3);rw[e4,g2,hl]
theorem E9{l:LB}{m:Nat}(hd:Bool)(h:l.length<=500)(hm:m<=2)(y:LB):Rr (y++Im l m hd)=(((Im l m hd).length:Int),0):=by
 have hl:=SB l m hd;have hb:(y++Im l m hd).length=y.length+(Im l m hd).length:=B6;obtain⟨fl,hfl⟩:∃fl:Nat,fl=if hd then 2147483648 else 0:=⟨_,rfl⟩;have e:y++Im l m hd=(y++((if hd then Fc l.length m 2684354560 else [])++l))++Fc l.length m fl:=by rw[hfl];simp[Im]
 have ht:Bv (y++Im l m hd)=Fc l.length m fl:=by
  rw[Bv,e];exact dY mX
 obtain⟨g1,g2,g3⟩:=Arb (fl:=fl) h hm [];have g8:=pD (n:=l.length) (m:=m) (fl:=fl) [];rw[OU]at g1 g2 g3 g8;rw[<-ht]at g1 g2 g3 g8;have i1:EO (Bv (y++Im l m hd))=l.length:=by rw[EO,g2];omega
 have i2:xD (Bv (y++Im l m hd))=m:=by rw[xD,g3]
 have h32:32<= (y++Im l m hd).length:=F0
 cases hd with
 |false=>
  simp only[OI,N!]at hfl hl;rw[ba3 ⟨h32,g8⟩ g1 (by rw[i1,i2,ht,hfl]),i1,A! F0,hl]
 |true=>
  simp only[P9]at hfl hl;have e2:y++Im l m true=(y++Fc l.length m 2684354560)++(l++Fc l.length m 2147483648):=by simp[Im]
  have e3:((y++Im l m true).take (y.length+32)).drop y.length=Fc l.length m 2684354560:=by
   rw[e2,dD (by simp only[B6,Ye]),QR]
  have e4:=ba6 (b:=y++Im l m true) ⟨h32,g8⟩ g1 (by rw[i1,i2,ht,hfl];exact λhh=>u_ _ _ hh.symm) (by rw[i1,i2,ht,hfl]) (by rw[i1];omega);rw[i1,i2,show(y++Im l m true).length-(l.length+64)=y.length by omega,e3,A! (λhh=>hh rfl)]at e4;rw[e4,hl]
theorem vS(l:LB)(m:Nat)(hd:Bool):Im l m hd≠ []:=by
 intro e;have:=SB l m hd;rw[e]at this;simp at this;omega
theorem N2{b:LB}{p n j:Nat}{l:LI}(hs:Cv (b.drop p)=((n:Int),0))(hp:p+n<=4000)(h:Cq b j (p+n)=(l,0)):Cq b (j+1) p=((n:Int)::l,0):=by
 rw[Cq,hs];simp only;rw[A! F6,A! F6,A! F0,F?,h];simp
theorem Afi{b:LB}{p j:Nat}(hs:Cv (b.drop p)=(0,6)):Cq b (j+1) p=([],0):=by
 rw[Cq,hs];rfl
theorem Bd9 {b:LB}(h:b.take 4=Nk):Cv b=(0,6):=by
 have h3:b.take 3≠ [73,68,51]:=by
  intro e;have:(b.take 4).take 3=[73,68,51]:=by rw[Z_];exact e
  rw[h]at this;exact absurd this F6
 have h8:b.take 8≠tO:=by
  intro e;have:(b.take 8).take 4=Nk:=by rw[Z_];exact h
  rw[e]at this;exact absurd this F6
 have h1:FD b=(0,6):=by rw[FD,A4 (by intro hh;exact h3 hh.2)]
 rw[Cv,h1,A! F6,fa1 (by intro hh;exact h8 hh.2)]
theorem Ahy{s t u:LB}(h1:Cv (s++(t++u))=((s.length:Int),0))(h2:Cv (t++u)=((t.length:Int),0))(h3:u.take 4=Nk)(h4:s.length+t.length<=4000)(hs:1<=s.length)(ht:1<=t.length):
  Be (s++(t++u))=(((s.length+t.length:Nat):Int),0):=by
 have hl:(s++(t++u)).length=s.length+(t.length+u.length):=by rw[B6,B6]
 obtain⟨j,hj⟩:∃j,(s++(t++u)).length=j+1+1:=⟨(s++(t++u)).length-2,F0⟩;have d1:(s++(t++u)).drop (0+s.length)=t++u:=by rw[J?,QR]
 have d2:(s++(t++u)).drop (0+s.length+t.length)=u:=by rw[<-S1,d1,QR]
 have a3:Cq (s++(t++u)) (j+1) (0+s.length+t.length)=([],0):=Afi (by rw[d2];exact Bd9 h3);have a2:Cq (s++(t++u)) (j+1+1) (0+s.length)=([(t.length:Int)],0):=N2 (by rw[d1];exact h2) F0 a3;have a1:Cq (s++(t++u)) (j+1+1+1) 0=([(s.length:Int),(t.length:Int)],0):=N2 (by rw[Y'];exact h1) F0 a2;rw[Be,hj,Ul,a1];simp
theorem G2{b:LB}{n j a:Nat}(hb:b≠ [])(hs:Rr b=((n:Int),0)):K3 (j+1) b a=K3 j (b.take (b.length-n)) (a+1):=by
 rw[K3,A! hb,hs,A! A7];rfl
theorem Aa2{l:LB}{m:Nat}(hd:Bool)(h:l.length<=500)(hm:m<=2):(Rg (Im l m hd)).2=0:=by
 have hl:=SB l m hd;have h0:=vS l m hd;have hk:=E9 hd h hm [];rw[OJ]at hk;obtain⟨j,hj⟩:∃j,(Im l m hd).length=j+1:=⟨(Im l m hd).length-1,by split at hl<;>omega⟩;rw[Rg,A! (by split at hl<;>omega),G2 h0 hk,Y6,R!,hj,K3,A4 rfl]
theorem Abj{l:LB}{m:Nat}(hd:Bool)(h:l.length<=500)(hm:m<=2):(Rg (Im l m hd++Im l m hd)).2=0:=by
 have hl:=SB l m hd;have h0:=vS l m hd;have hk:=E9 hd h hm [];have hk2:=E9 hd h hm (Im l m hd);rw[OJ]at hk;obtain⟨j,hj⟩:∃j,(Im l m hd++Im l m hd).length=j+1+1:=⟨(Im l m hd++Im l m hd).length-2,by rw[B6];split at hl<;>omega⟩;have hh:(Im l m hd++Im l m hd).take ((Im l m hd++Im l m hd).length-(Im l m hd).length)=Im l m hd:=by
  rw[B6,dB,Y!]
 rw[Rg,A! (by rw[B6];split at hl<;>omega),G2 (by simp[h0]) hk2,hh,hj,G2 h0 hk,Y6,R!,K3,A4 rfl]
theorem mY{p:Prop}(h:p:=by simp only[B6];omega):p:=h
theorem Al9{c w r n T:Nat}{x:LX}{p z b:LB}(fo:FileOf c w r n x p T (MQ c w r n x p) z b)(hz:(Rg z).2=0):Hl b p=some ((c:Int),(w:Int),(r:Int),x,0):=by
 have h:=fo.clip;have hp:=fo.pass;have o:=fo.Dr;have hle:=fo.le;have hlf:=Nt (MQ c w r n x p);have hgood:∀i,(hi:i<(MQ c w r n x p).length)-> _:=λi hi=>fo.Awr (k:=i) hi rfl;have hbe:P7 b (lN T p (MQ c w r n x p).length) (Ck (MQ c w r n x p))=0:=by rw[fo.beh,hz]
 have hcl:bV b p (Lf p) c w r n (lN T p (MQ c w r n x p).length) (Ck (MQ c w r n x p))=((c:Int),(w:Int),(r:Int),x,0):=by
  have hr:=Acp (lG b p (Lf p) c w r n (lN T p (MQ c w r n x p).length) (Ck (MQ c w r n x p))) (Ck (MQ c w r n x p)).length 0 [] (λi _ hi=>by rw[(hgood i F0).1]);have hcl:=Acn w (lG b p (Lf p) c w r n (lN T p (MQ c w r n x p).length) (Ck (MQ c w r n x p))) (P7 b (lN T p (MQ c w r n x p).length) (Ck (MQ c w r n x p))) (Ck (MQ c w r n x p)).length 0 [] [];rw[hbe,hr]at hcl;have hg:=Auu _ _ _ _ _ _ hcl.symm;have hPl:=N6 (c:=c) (r:=r) (n:=n) (x:=x);have hfl:=sD (c:=c) (w:=w) (r:=r) (n:=n) (x:=x) p;have zf:=K8 (aH c r n x) (λi=>smF w (lG b p (Lf p) c w r n (lN T p (MQ c w r n x p).length) (Ck (MQ c w r n x p)) i)) 0 (λi hi=>by rw[J?,(hgood i F0).2]);rw[Abp h,<-show(MQ c w r n x p).length=(aH c r n x).length by omega]at zf;rw[bV,bS,hbe,A! (by rw[<-hcl];simp),hg.2.2,OJ,hlf,zf]
 rcases Anl b p F0 hp with⟨e,he,k1,_⟩|⟨f',c',w',r',n',A',l',o',k3,_⟩
 ·have:=o.prog;rw[k1]at this;have:=O9 this;simp only[dL,O7]at this;exact absurd this.2.2.2.2.2.2.2 he
 ·have hpr:=o'.prog;rw[o.prog]at hpr;simp only[I2,O7]at hpr;obtain⟨v1,v2,v3,v4,v5,v6,v7,_⟩:=hpr;have j1:Lf p=f':=F0
  have j2:c=c':=F0
  have j3:w=w':=F0
  have j4:r=r':=F0
  have j5:n=n':=F0
  have j6:lN T p (MQ c w r n x p).length=A':=F0
  rw[k3,<-v7,<-j1,<-j2,<-j3,<-j4,<-j5,<-j6,hcl]
theorem J_:∀fs:List LB,(Ck fs).sum=(fs.flatten.length:Int)
 |[]=>rfl
 |f::fs=>by
  have:=J_ fs;rw[Ck,OX,OL,S9,B6];rw[Ck]at this;omega
theorem Afl{c w r n:Nat}{x:LX}(h:ClipOk c w r n x){p:LB}(hp:p.length<=64)(hx4:x.length<=400){s t z:LB}(h1:Cv (s++(t++(Ui c w r n x p++z)))=((s.length:Int),0))(h2:Cv (t++(Ui c w r n x p++z))=((t.length:Int),0))(h4:s.length+t.length<=4000)(hs:1<=s.length)(ht:1<=t.length)(hz:z.length<=5000):
  FileOf c w r n x p (s.length+t.length) (MQ c w r n x p) z (s++(t++(Ui c w r n x p++z))):=by
 have hsm:=A8 h (p:=p) hx4;refine⟨h,hp,Ahy h1 h2 ?_ h4 hs ht,by simp only[B6];omega,rfl,?_⟩
 ·rw[Ui,D2,GQ];rfl
 ·rw[<-D2,dY (by rw[B6]),Ui];simp
theorem o?{c w r n:Nat}{x:LX}(h:ClipOk c w r n x){p:LB}(hp:p.length<=64)(hx4:x.length<=400){s t z:LB}(h1:Cv (s++(t++(Ui c w r n x p++z)))=((s.length:Int),0))(h2:Cv (t++(Ui c w r n x p++z))=((t.length:Int),0))(h4:s.length+t.length<=4000)(hs:1<=s.length)(ht:1<=t.length)(hz:z.length<=5000)(hb:(Rg z).2=0):
  Hl (s++(t++(Ui c w r n x p++z))) p=some ((c:Int),(w:Int),(r:Int),x,0)/\∃a2 a3 a4:Int,KU (s++(t++(Ui c w r n x p++z)))=some (((s.length+t.length:Nat):Int),a2,a3,a4,((s.length+t.length+(Ui c w r n x p).length:Nat):Int),0):=by
 have fo:=Afl h hp hx4 h1 h2 h4 hs ht hz;refine⟨Al9 fo hb,?_⟩;have hl:=Abm (c:=c) (w:=w) (r:=r) (n:=n) (x:=x) p;have hsum:=J_ (MQ c w r n x p);have hA:(lN (s.length+t.length) p (MQ c w r n x p).length:Int)+(Ck (MQ c w r n x p)).sum=((s.length+t.length+(Ui c w r n x p).length:Nat):Int):=by
  unfold lN;rw[hsum,hl];omega
 have:=(Aai fo.Dr (by rw[hA];simp only[B6];omega)).1;rw[fo.front,hA]at this;exact⟨_,_,_,this⟩
theorem law_ValidTags(C W R:Int)(x:LX)(p u y:LB)(v:Int):Rh C W R x p u y v=some true:=by
 rw[Rh,Ae5,An3,Aa,Yy,Aa];by_cases hL:((Dq (Ac x) 300&&y_ (Ac x) 4000)||Dq (Ac x) 4010)=true
 ·rw[A4 hL,A4 A7]
 rw[A! hL];rcases Bbs C W R x with⟨e8,_⟩|⟨c,w,r,n,rfl,rfl,rfl,h,e24,eck⟩
 ·rw[e8,Aa,A4 TN]
 rw[e24,Aa];by_cases hc:((((Bl (0:Int) 0||Dq (Ac p) 64)||Dq (Ac u) 500)||Dq (Ac y) 500)|| !true)=true
 ·rw[A4 hc]
 rw[A! hc];simp only[O_,not_or,Am,Ac,C9]at hc;have hp:p.length<=64:=F0
 have hu:u.length<=500:=F0
 have hy:y.length<=500:=F0
 have hx4:x.length<=400:=by
  have hx:=h.le.2.2.2;simp only[O_,B9,not_or,not_and,Am,K1,Ac,C9]at hL;have:=hL.1;omega
 have hsm:=A8 h (p:=p) hx4;rw[Ae3,Ae1,Beo h eck p hp,Aa];simp only;obtain⟨b1,hb1⟩:∃b1,b1=Dq (Cy v 1) 0:=⟨_,rfl⟩;obtain⟨b2,hb2⟩:∃b2,b2=Dq (Cy v 2) 0:=⟨_,rfl⟩;obtain⟨b4,hb4⟩:∃b4,b4=Dq (Cy v 4) 0:=⟨_,rfl⟩;rw[<-hb1,<-hb2,<-hb4,idw b1 hu,Aa];simp only;rw[show(2:Int)=((2:Nat):Int)from rfl,zM true hu F0,Aa];simp only;rw[show(0:Int)=((0:Nat):Int)from rfl,zM b2 hy F0,Aa];simp only;have li:=iw u b1;have la:=SB u 2 true;have lb:=SB y 0 b2;simp only[P9]at la;have li2:(rW u b1).length<=520:=by split at li<;>omega
 have li3:1<= (rW u b1).length:=F0
 have lb2:(Im y 0 b2).length<=564:=by split at lb<;>omega
 have si:∀z,Cv (rW u b1++z)=(((rW u b1).length:Int),0):=λz=>by
  rw[Cv,Aom u b1 hu z,A4 A7]
 have sa:∀z,Cv (Im u 2 true++z)=(((Im u 2 true).length:Int),0):=λz=>Ak3 hu F0 z;have Ayc:=Aa2 (l:=y) (m:=0) b2 hy F0;have Ayd:=Abj (l:=y) (m:=0) b2 hy F0;generalize rW u b1=I at*
 generalize Im u 2 true=A at*
 generalize Im y 0 b2=B at*
 have a1:=o? h hp hx4 (s:=I) (t:=A) (z:=B) (si _) (sa _) F0 F0 F0 F0 Ayc;have a2:=o? h hp hx4 (s:=A) (t:=I) (z:=B++B) (sa _) (si _) F0 F0 F0 S_ Ayd;generalize Ui c w r n x p=F at*
 rw[A! F6,Bu F7,Aa,OJ,Bu,Aa,Bu S_,Aa,Bu mY,Aa];have e1:I++A++F++B=I++(A++(F++B)):=by simp
 have e2:A++I++F++B++B=A++(I++(F++(B++B))):=by simp
 cases b4 with
 |false=>
  obtain⟨k1,q2,q3,q4,k2⟩:=a1;rw[A! A7,Mp,Mt,e1,k1,Aa];simp only;rw[k2,Aa];simp only;rw[A4 (by simp[Bb]),wI _ _ _ _ F0,Aa];simp only[Ac];rw[Ag,Ag];simp[Bb]
 |true=>
  obtain⟨k1,q2,q3,q4,k2⟩:=a2;rw[A4 rfl,Bu F7,Aa,OJ,Bu,Aa,Bu S_,Aa,Bu mY,Aa,Bu mY,Aa];rw[Mp,Mt,e2,k1,Aa];simp only;rw[k2,Aa];simp only;rw[A4 (by simp[Bb]),wI _ _ _ _ F0,Aa];simp only[Ac];rw[Ag,Ag];simp[Bb];omega
end Go.Pl
