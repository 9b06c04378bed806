/- A part of a proof (see the text that ends in Proof). No conditions. -/
import Derived.Test.YtjjpijoihenabaaGreatDoorOnWA
import Derived.KernelRfl
set_option linter.unusedVariables false
set_option linter.unusedSimpArgs false
namespace Go.Pl
open Go Go.Lv
variable{α:Type}
section
variable (ch:Nat) (x:LX)
theorem dM{at' i:Nat}(ha:at' %ch=0)(hi:i<ch)(h:at'+i<x.length):(mx ch x).getD (at'+i) 0=mxV (λi=>x.getD (at'+i) 0) ch i:=by
 have hb:(at'+i) %ch=i:=by rw[Nat.add_mod,ha,HL,Y4,D0 hi]
 rw[At5 h,hb,show at'+i-i=at' by omega]
theorem Aik(bk:Int->LX->Option (LX×Int))(at':Nat)(h1:1<=ch)(h6:ch<=6)(hm:at' %ch=0)(hl:at'+ch<=x.length)(hl2:x.length<=4000):∀(j i q:Nat),i+j=ch-1->j<q->
  HX bk (ch:Int) (at':Int) q (i:Int) (lY (λk=>decide (k<at'+i)) (mx ch x) x)=bk ((at'+ch:Nat):Int) (lY (λk=>decide (k<at'+ch)) (mx ch x) x)
 |j,i,0,_,h=>absurd h (K6 _)
 |0,i,q+1,hi,_=>by
  have hlen:=UP ch x;have e1:Ap (Ad (at':Int) (ch:Int)-(at':Int)) 1=((ch-1:Nat):Int):=by rw[Ak,Bu];omega
  have e2:Ad (at':Int) (ch:Int)-(at':Int)=(ch:Int):=by rw[Ak];omega
  have e4:Ad (at':Int) (ch:Int)=((at'+ch:Nat):Int):=by rw[Ak];omega
  rw[HX,cZ,e1,B! D2,qM,uR,e1,e2];obtain rfl:i=ch-1:=F0
  by_cases h2:1<ch
  ·have e3:Ap ((ch-1:Nat):Int) 1=((ch-2:Nat):Int):=by rw[Bu];omega
   have hv:Ap (x.getD (at'+(ch-1)) 0) (Bo ((mx ch x).getD (at'+(ch-2)) 0) 2)=(mx ch x).getD (at'+(ch-1)) 0:=by
    rw[dM ch x hm F0 F0,dM ch x hm F0 F0,mxV,mxV,B0 F0,B! F0,B0 h2,ZZ,show ch-2+1=ch-1 by omega]
   rw[B0 G6,xS F0,Aa,e3,xS F0,Aa,
    show(at':Int)+((ch-1:Nat):Int)=((at'+(ch-1):Nat):Int) by omega,show(at':Int)+((ch-2:Nat):Int)=((at'+(ch-2):Nat):Int) by omega,
    FG F0,Aa,FG F0,Aa,Aa,B! B7,B0 B8,hv,nK F0,Aa,eG,qU,e4]
   congr 1;apply Xw;intro k _;rw[F?];simp;omega
  ·obtain rfl:ch=1:=F0
   have hlast:x.getD at' 0=(mx 1 x).getD at' 0:=by
    have:=dM 1 x (i:=0) hm F0 F0;rw[J6]at this;rw[this,mxV,B! F0,B! F0];rfl
   rw[B! M?,eG,qU,e4];congr 1;apply J4 (by rw[RA,RA]);intro k g1 g2;rw[Wa,Wa];by_cases hk:k<at'
   ·rw[B0 B8,B0 B8]
   ·by_cases hk2:k=at'
    ·subst hk2;rw[B! B7,B0 B7];exact hlast
    ·rw[B! B8,B! B8]
 |j+1,i,q+1,hi,hq=>by
  have hlen:=UP ch x;have e1:Ap (Ad (at':Int) (ch:Int)-(at':Int)) 1=((ch-1:Nat):Int):=by rw[Ak,Bu];omega
  have e2:Ad (at':Int) (ch:Int)-(at':Int)=(ch:Int):=by rw[Ak];omega
  have e3:Ad (i:Int) 1=((i+1:Nat):Int):=by rw[Ak];omega
  have hv:Ap (x.getD (at'+(i+1)) 0) (x.getD (at'+i) 0)=(mx ch x).getD (at'+i) 0:=by
   rw[dM ch x hm F0 F0,mxV,B0 F0,ZZ]
  rw[HX,cZ,e1,B0 D2,e2,e3,xS F0,Aa,xS F0,Aa,
   show(at':Int)+((i+1:Nat):Int)=((at'+(i+1):Nat):Int) by omega,show(at':Int)+(i:Int)=((at'+i:Nat):Int) by omega,
   FG F0,Aa,FG F0,Aa,Aa,B! B7,B! B7,hv,nK F0,Aa]
  have ih:=Aik bk at' h1 h6 hm hl hl2 j (i+1) q F0 F0;rw[<-ih];congr 1;apply Xw;intro k _;rw[F?];simp;omega
theorem An4(h1:1<=ch)(h6:ch<=6)(hm:x.length %ch=0)(hl2:x.length<=4000):∀(j at' q:Nat),at' %ch=0->at'<=x.length->x.length-at'<=j->j<q->
  IB (ch:Int) q (at':Int) (lY (λk=>decide (k<at')) (mx ch x) x)=some (mx ch x,0)
 |j,at',0,_,_,_,h=>absurd h (K6 _)
 |j,at',q+1,ha,hle,hj,hq=>by
  have hlen:=UP ch x;have hl:Ac (lY (λk=>decide (k<at')) (mx ch x) x)=(x.length:Int):=by rw[Ac,RA,hlen]
  rw[IB,qS,hl];by_cases h:at'<x.length
  ·have hb:=K9 ha hm h;obtain⟨j,rfl⟩:∃k,j=k+1:=⟨j-1,F0⟩;have e4:Ad (at':Int) (ch:Int)=((at'+ch:Nat):Int):=by rw[Ak];omega
   have hi:=Aik ch x (IB (ch:Int) q) at' h1 h6 ha hb hl2 (ch-1) 0 Au F0 D1;have hrest:=An4 h1 h6 hm hl2 j (at'+ch) q (by rw[XA,ha]) hb F0 F0;rw[J6]at hi;rw[B0 D2,show jB (x.length:Int) (at':Int) (Ad (at':Int) (ch:Int))=some () by rw[e4,jB,xS];omega,Aa];exact H9 hi hrest
  ·rw[B! D2,wG (λk hk=>by simp;omega)];rfl
theorem Ar2(h1:1<=ch)(h6:ch<=6)(hm:x.length %ch=0)(hl2:x.length<=4000):vg (ch:Int) x=some (mx ch x,0):=by
 have hlen:=UP ch x;have h:=An4 ch x h1 h6 hm hl2 x.length 0 Au B7 F0 F0 D1;rw[vg,zM,Agl ch x h1 h6 hm hl2,Aa,B! D3,Dr,Bi B8,Aa,Aa,HB,Ao0];rw[qQ hlen.symm (λk _=>by simp)]at h;exact h
end
theorem Au5(a:Int32):vR a=some (oY a):=by
 have h:=DO a;have hc:(Ae a:UInt32)=UInt32.ofNat (a.toInt %4294967296).toNat:=rfl;have hs:(Cn a (GI.toZ (31:UInt64)).toNat)=if 0<=a.toInt then(0:Int32)else -1:=by
  have e:Cn a 31=Int32.ofInt (a.toInt.fdiv (2^31)):=rfl;rw[show(GI.toZ (31:UInt64)).toNat=31 from rfl,e];by_cases h0:0<=a.toInt
  ·rw[B0 h0,show a.toInt.fdiv (2^31)=0 by rw[KZ _ B6];omega];rfl
  ·rw[B! h0,show a.toInt.fdiv (2^31)= -1 by rw[KZ _ B6];omega];rfl
 rw[vR,hs,hc,oY];congr 1;have hsh:(Dy (UInt32.ofNat (a.toInt %4294967296).toNat) (GI.toZ (1:UInt64)).toNat).toNat=2*(a.toInt %4294967296).toNat %4294967296:=by
  rw[show(GI.toZ (1:UInt64)).toNat=1 from rfl,qH,HO,D0 (show(a.toInt %4294967296).toNat<2^32 by omega)];omega
 by_cases h0:0<=a.toInt
 ·rw[B0 h0,B0 h0,show(Ae (0:Int32):UInt32)=0 from rfl];apply UInt32.toNat_inj.1;rw[show∀z:UInt32,BH z (0:UInt32)=z^^^0 from λz=>by rw[iF],XC,hsh,HO,D0 (show 2*a.toInt.toNat<2^32 by omega)]
  show _^^^0=_;rw[Nat.xor_zero];omega
 ·rw[B! h0,B! h0,show(Ae (-1:Int32):UInt32)=4294967295 from rfl];apply UInt32.toNat_inj.1;rw[show∀z:UInt32,BH z (4294967295:UInt32)=z^^^4294967295 from λz=>by rw[iF],XC,hsh,HO,D0 (show 2*(-a.toInt-1).toNat+1<2^32 by omega)]
  show _^^^4294967295=_;have key:∀n:Nat,n<4294967296->n^^^4294967295=4294967295-n:=by
   intro n hn;have:=kR (x:=BitVec.ofNat 32 n);rw[<-BitVec.xor_allOnes,kB,BitVec.toNat_ofNat,D0 F0]at this;simpa using this
  rw[key _ F0];omega
theorem At3{bits:Int}(h:Bn bits){t p:LX}(hF:OkF (sB bits) t p)(last x:Int32):
  Xt bits last (sB bits) t p x=some (H0 bits (last,t,p) x,bits,x,sB bits,ou t p (H0 bits (last,t,p) x),(x-gs (shB bits) last)::p.take 15,0):=by
 rw[Xt,Ad3 h,Aa,B! D3,Auz h,Aa];simp only;rw[ZZ,eZ,Aht hF,Aa];simp only;rw[B! D3,ZZ,ZA,Ahi hF,Aa];simp only;rw[Amo (s:=sB bits) (t:=ou t p _) (p:=p) ⟨hF.1,FD _ _ _,hF.2.2⟩,Aa,Aa];rfl
theorem mh{p:Prop}(h:p:=by rw[e64];omega):p:=h
theorem U'(bits:Int)(ch:Nat)(t x:LX):(Mp bits ch t x).length=x.length:=wL _ _ _ _ _
theorem Aui{bits:Int}{ch:Nat}{t x:LX}{i:Nat}(h:i<x.length):(Mp bits ch t x).getD i 0=oY (H0 bits (cst bits ch t (Mp bits ch t x) (i %ch) i) ((mx ch x).getD i 0)):=by
 obtain⟨w,hw⟩:=oh bits ch t (mx ch x) (x.length-(i+1)) (i+1);rw[show i+1+(x.length-(i+1))=x.length by omega,evl,E?]at hw;have hli:=wL bits ch t (mx ch x) i;have hw':Mp bits ch t x=_:=hw;have hg:(Mp bits ch t x).getD i 0=oY (H0 bits (cst bits ch t (evl bits ch t (mx ch x) i) (i %ch) i) ((mx ch x).getD i 0)):=by
  rw[hw',D9,JG F0,hli,kX];rfl
 have hc:cst bits ch t (Mp bits ch t x) (i %ch) i=cst bits ch t (evl bits ch t (mx ch x) i) (i %ch) i:=by rw[hw',An0 _ _ _ _ _ _ _ F0]
 rw[hg,hc]
section
variable {bits:Int} {ch:Nat} {t x:LX} (hb:Bn bits) (ht:t.length=16) (h1:1<=ch) (h6:ch<=6) (hx1:1<=x.length) (hx4:x.length<=4000) (hm:x.length %ch=0)
include hb ht h1 h6 hx1 hx4 hm
omit ht in
theorem Bdf(hr:r! bits x):QQ (ch:Int) bits x=some 0:=by
 rw[QQ,qD hb h1 h6,Aa,B! B6,bC hb x hx4,YK hb hx4 hr,Aa,B! B6,B! (by rw[Ar,Ac,G3];omega),Bl F_,Aa,Ac,JB,hm,B! B6]
omit hm in
theorem yA:∀(j i q:Nat),i+j=x.length->j<q->
  Mw (mx ch x) (ch:Int) bits q (i:Int) (cts bits ch t (Mp bits ch t x) i) ((Mp bits ch t x).take i)=some (Mp bits ch t x,0)
 |j,i,0,_,h=>absurd h (K6 _)
 |0,i,q+1,hi,_=>by
  have hl:=UP ch x;have hV:=U' bits ch t x;rw[Mw,Xb,B! C2,IU F0];rfl
 |j+1,i,q+1,hi,hq=>by
  have hl:=UP ch x;have hV:=U' bits ch t x;have hc:i %ch<6:=HJ (I7 _ F0) h6;have hok:=eP bits ch ht (Mp bits ch t x) (i %ch) i;have hs:=An3 (bits:=bits) (ch:=ch) (t:=t) (v:=Mp bits ch t x) (i:=i) hc rfl;have hg:=Aui (bits:=bits) (ch:=ch) (t:=t) (x:=x) (i:=i) F0;have ih:=yA j (i+1) q F0 F0;have htk:(Mp bits ch t x).take i++[(Mp bits ch t x).getD i 0]=(Mp bits ch t x).take (i+1):=by
   have:(Mp bits ch t x).getD i 0=(Mp bits ch t x)[i]' F0:=by rw[D9,HS F0];rfl
   rw[this,Ms F0]
  have hfw:=At3 hb hok (cst bits ch t (Mp bits ch t x) (i %ch) i).1 ((mx ch x).getD i 0);rw[Mw,Xb,B0 C2,g32 F0,Aa,Aa,Bl F_,Aa,JB,Aoo hc,Aa,Aa];refine H9 (congrArg (λo=>Option.bind o _) hfw) ?_;rw[Aa];simp only;rw[B! B6];have hst:((bits,(mx ch x).getD i 0,(sB bits,ou (cst bits ch t (Mp bits ch t x) (i %ch) i).2.1 (cst bits ch t (Mp bits ch t x) (i %ch) i).2.2 (H0 bits (cst bits ch t (Mp bits ch t x) (i %ch) i) ((mx ch x).getD i 0)),((mx ch x).getD i 0-gs (shB bits) (cst bits ch t (Mp bits ch t x) (i %ch) i).1)::(cst bits ch t (Mp bits ch t x) (i %ch) i).2.2.take 15,()),()):CL)=toC bits (jy bits (cst bits ch t (Mp bits ch t x) (i %ch) i) (RO ((Mp bits ch t x).getD i 0))):=by
   rw[hg,Au6,toC,jy,x?];simp only;rw[H0,eD]
  refine H9 (congrArg (λo=>Option.bind o _) ((congrArg (λz=>Nj (cts bits ch t (Mp bits ch t x) i) ((i %ch:Nat):Int) z) hst).trans hs)) ?_;rw[Aa,Au5,Aa];have hg2:oY (H0 bits ((cst bits ch t (Mp bits ch t x) (i %ch) i).1,(cst bits ch t (Mp bits ch t x) (i %ch) i).2.1,(cst bits ch t (Mp bits ch t x) (i %ch) i).2.2) ((mx ch x).getD i 0))=(Mp bits ch t x).getD i 0:=hg.symm;rw[hg2,Bi (by rw[G!];simp;omega),Aa,htk,Ak];exact ih
theorem Ale(hr:r! bits x):JT (ch:Int) bits t x=some (Mp bits ch t x,0):=by
 have hl:=UP ch x;have h:=yA hb ht h1 h6 hx1 hx4 x.length 0 Au F0 D1;have e:Au=(Au-7)+1+1+1+1+1+1+1:=by have:=As;omega
 have hs:MW (ch:Int) bits t (mx ch x) 0 (List.replicate 6 ((0:Int),(0:Int32),((0:Int),(List.replicate 16 (0:Int32)),(List.replicate 16 (0:Int32)),()),()))=IM (ch:Int) bits (mx ch x) (cts bits ch t (Mp bits ch t x) 0):=by
  rw[MW,e];obtain rfl|rfl|rfl:=hb<;>rfl
 rw[JT,JU,Bdf hb h1 h6 hx1 hx4 hm hr,Aa,B! B6,Ar2 ch x h1 h6 hm hx4,Aa];simp only;rw[B! B6];refine H9 hs ?_;exact h
end
theorem Ak6(ch:Nat):LA=some (sts ch []):=by
 have e:Au=(Au-7)+1+1+1+1+1+1+1:=by have:=As;omega
 rw[LA,JM,Avl,e];rfl
theorem Ag1(c:List Bool){n:Nat}(h:n<=c.length):Sn (Nh c) 0 n=Nh (c.take n):=by
 have hl:(c.take n).length=n:=by rw[G!];omega
 apply Af0 (by rw[Km,Uy,hl]);intro i hi;rw[D8,HL,HK,HK];by_cases hlt:i<n
 ·rw[B0 hlt,tb,tb,D9,D9,JL,B0 hlt]
 ·rw[B! hlt,eT F0]
theorem Bey(a:UInt8){k:Nat}(hk:k<8):Fb (Cn a k) (1:UInt8)=UInt8.ofNat (a.toNat/2^k %2):=by
 apply UInt8.toNat_inj.1;rw[Amq,uC,pF,HT]
 show _&&&1=_;rw[tU];generalize a.toNat/2^k=X;omega
theorem Ajh(E code:List Bool)(hE:E.length+code.length<=330000)(bk:Int->List (Int×Int×UInt64×UInt64×Unit)->Int->LB->Bz)(V:LU)(b f g:Int)(k:List (Int×Int×UInt64×UInt64×Unit)):∀(j o q:Nat),o+j=code.length->j<q->
  Hs bk V b f (code.length:Int) g k (Nh code) q (o:Int) ((E.length+o:Nat):Int) (Sn (Nh (E++code)) 0 (E.length+o))=bk (Ad g 1) k ((E.length+code.length:Nat):Int) (Nh (E++code))
 |j,o,0,_,h=>absurd h (K6 _)
 |0,o,q+1,ho,_=>by
  obtain rfl:o=code.length:=F0
  rw[Hs,Xe,B! I_,GP,Apm,Ag1 _ LG,IU LG]
 |j+1,o,q+1,ho,hq=>by
  generalize hP:Nh (E++code)=P;have hPo:Hx P (E.length+o)=Hx (Nh code) o:=by rw[<-hP,HK,HK,nU]
  have ih:=Ajh E code hE bk V b f g k j (o+1) q F0 F0;rw[hP,<-I!]at ih;generalize hn:E.length+o=n at*
  have hq8:Bo (n:Int) 8=((n/8:Nat):Int):=by rw[show(8:Int)=((8:Nat):Int)from rfl,QJ]
  have hr8:Gz (n:Int) 8=((n %8:Nat):Int):=by rw[show(8:Int)=((8:Nat):Int)from rfl,JB]
  have hqo:Bo (o:Int) 8=((o/8:Nat):Int):=by rw[show(8:Int)=((8:Nat):Int)from rfl,QJ]
  have hro:Gz (o:Int) 8=((o %8:Nat):Int):=by rw[show(8:Int)=((8:Nat):Int)from rfl,JB]
  have hroom:Hs bk V b f (code.length:Int) g k (Nh code) (q+1) (o:Int) (n:Int) (Sn P 0 n)=Wj (Hs bk V b f (code.length:Int) g k (Nh code) q) (code.length:Int) V g b f k (Nh code) (o:Int) (n:Int) (room P 0 n):=by
   rw[Hs,Xe,B0 D2,hr8,room];by_cases h0:n %8=0
   ·rw[B0 (by rw[Ar,h0];rfl),Bi mO,Aa,B0 h0]
   ·rw[B! GZ,B! h0]
  have hcl:=Uy code;have hgm:Am (Nh code) ((o/8:Nat):Int)=some ((Nh code).getD (o/8) 0):=by
   rw[Bt,D9,HS F0];rfl
  have hg:Am (room P 0 n) ((n/8:Nat):Int)=some (UInt8.ofNat (Cg P (0+8*(n/8)) (n %8))):=by
   rw[Bt Y7,vX]
  have hbit:Fb (Cn ((Nh code).getD (o/8) 0) (o %8)) (1:UInt8)=UInt8.ofNat (Hx P n):=by
   rw[Bey _ F0,hPo,Hx]
  have hlt:=O9 P (0+8*(n/8)) (n %8+1) F0;have hsn:=vP P (0+8*(n/8)) (n %8);rw[show 0+8*(n/8)+n %8=n by omega]at hsn;have hnew:zT (UInt8.ofNat (Cg P (0+8*(n/8)) (n %8))) (Dy (UInt8.ofNat (Hx P n)) (n %8))=UInt8.ofNat (Cg P (0+8*(n/8)) (n %8+1)):=by
   rw[or8 (Rl _ _ _) dD F0,hsn,G? (2^(n %8))]
  rw[hroom,Wj,FT,hqo,hro,hq8,hr8,hgm,Aa,Aa,Bl I8,Aa,hg,Aa,Bl I8,Aa,Aa,Aa,
   show(GI.toZ ((o %8:Nat):Int)).toNat=o %8 from rfl,show(GI.toZ ((n %8:Nat):Int)).toNat=n %8 from rfl,hbit,hnew,Ww _ Y7,Aa,N5 P 0 n 1 F0 F0,FZ,Asr,Ak,Ak]
  exact ih
theorem Bi3(l m:LB)(h:l.length+m.length<=1000000):Fp [l,m]=some (l++m):=by
 have hF:Au=(Au-3)+1+1+1:=by have:=As;omega
 rw[Fp,Rc,AF];have g0:Am [l,m] (0:Int)=some l:=rfl;have g1:Am [l,m] (1:Int)=some m:=rfl;have l2:Ac [l,m]=2:=rfl;have h3:Fc [l,m] []=some (l++m):=by
  rw[Fc,Ka,Pm,hF,Cu,Eb,l2,B0 B6,g0,Aa,Bi B8,Aa,HB,show Ad (0:Int) 1=1 by decide,
   Cu,Eb,l2,B0 B6,g1,Aa,Bi,Aa,show Ad (1:Int) 1=2 by decide,Cu,Eb,l2,B! B6]
  rfl
 rw[hF,Cz,Ej,l2,B0 B6,g0,Aa,Ak M! M!,B! SG,show Ad (0:Int) 1=1 by decide,
  Cz,Ej,l2,B0 B6,g1,Aa,Ak M! M!,B! O!,show Ad (1:Int) 1=2 by decide,
  Cz,Ej,l2,B! B6,Fe,Kb,B! O!,Kf,Ke]
 have z:Ap (0:Int) 0=0:=B6
 have n0:(0:Int)+Ac l+Ac m=((l.length+m.length:Nat):Int):=by simp[Ac]
 rw[z,n0,Bu,Int.sub_zero];by_cases hp:0<l.length+m.length
 ·rw[B0 G6,show jB (0:Int) 0 0=some ()from rfl,Aa,oW,Aa,Bi B8,Aa];rw[show jB (Ac ([]++List.replicate ((l.length+m.length:Nat):Int).toNat (0:UInt8))) 0 0=some () by rw[jB,Bl];simp[Ac];omega,Aa];simp only[aW,cQ,lG,JP];exact h3
 ·rw[B! G6];exact h3
theorem Ai6(bits:Int)(ch:Nat)(h1:1<=ch)(h6:ch<=6)(V:LU)(hV:V.length<=4000):∀(j i q:Nat),i+j=V.length->j<q->
  Jm V (ch:Int) bits q (i:Int) (sts ch (V.take i)) ((Rr ch V i).length:Int) (Nh (Rr ch V i))=some (Nh (Rr ch V V.length)++Tm (Ew (Nh (Rr ch V V.length))).toNat 4,0)
 |j,i,0,_,h=>absurd h (K6 _)
 |0,i,q+1,hi,_=>by
  obtain rfl:i=V.length:=F0
  have hel:=iG ch V V.length;have hpl:=Uy (Rr ch V V.length);have hlt:=(Ew (Nh (Rr ch V V.length))).toNat_lt;rw[Jm,Ws,B! SG,GC,Arn,T6 _ F0,Aa];simp only;have e64:(UInt64.ofNat (Ew (Nh (Rr ch V V.length))).toNat).toNat=(Ew (Nh (Rr ch V V.length))).toNat:=dT F0;rw[B! B6,Ef,show(4:Int)=((4:Nat):Int)from rfl,bK _ 4 F0 F0 mh,Aa];simp only;rw[B! B6,e64,Bi3 _ _ dF,Aa]
 |j+1,i,q+1,hi,hq=>by
  have hc:i %ch<6:=HJ (I7 _ F0) h6;have hvl:(V.take i).length=i:=by rw[G!];omega
  have hel:=iG ch V i;have hk:=wz ch (V.take i);have hcl:=iB (V.getD i 0) hk.1 hk.2;have ih:=Ai6 bits ch h1 h6 V hV j (i+1) q F0 F0;have hvi:V.getD i 0=V[i]' F0:=by rw[D9,HS F0];rfl
  have htk:V.take i++[V.getD i 0]=V.take (i+1):=by rw[hvi,Ms F0]
  have hst:=oT (ch:=ch) (v:=V.take i) hc;have hset:=Aor (ch:=ch) (v:=V.take i) (V.getD i 0) hc (by rw[hvl]);have Bke:pV ch (V.take i) (i %ch) (V.take i).length=now ch (V.take i):=Bbd (by rw[hvl]);rw[Bke]at hst hset;rw[htk]at hset;have hdp:=Aww (k:=(now ch (V.take i)).1) (l:=(now ch (V.take i)).2.1) (s:=(now ch (V.take i)).2.2.1) (t:=(now ch (V.take i)).2.2.2) (sR ch (V.take i) _ _) (V.getD i 0);have hpc:=Ajh (Rr ch V i) (Rs (now ch (V.take i)).1 (now ch (V.take i)).2.1 (V.getD i 0)) F0 (Jm V (ch:Int) bits q) V (ch:Int) bits (i:Int) (sts ch (V.take (i+1))) (Rs (now ch (V.take i)).1 (now ch (V.take i)).2.1 (V.getD i 0)).length 0 Au F0 D1;rw[show(Rr ch V i).length+0=(Rr ch V i).length from rfl,Ag1 _ LG,lA,show((0:Nat):Int)=0 from rfl]at hpc;rw[Jm,Ws,B0 C2,N8 F0,Aa,Aa,Bl F_,Aa,JB,hst,Aa,Aa];refine H9 (congrArg (λo=>Option.bind o _) hdp) ?_;rw[Aa];simp only;rw[B! B6,Aa,Aa];refine H9 (congrArg (λo=>Option.bind o _) hset) ?_;rw[Aa];refine H9 hpc ?_;rw[Ak];rw[Rr,CR]at ih;exact ih
theorem Acy{bits:Int}{ch:Nat}{t x:LX}(hb:Bn bits)(ht:t.length=16)(h1:1<=ch)(h6:ch<=6)(hx1:1<=x.length)(hx4:x.length<=4000)(hm:x.length %ch=0)(hr:r! bits x):
  Nx (ch:Int) bits t x=some (Pp bits ch t x,0):=by
 have hV:=U' bits ch t x;have h:=Ai6 bits ch h1 h6 (Mp bits ch t x) F0 (Mp bits ch t x).length 0 Au F0 D1;have e0:Nh (Rr ch (Mp bits ch t x) 0)=[]:=by simp[Rr,Nh]
 have e1:((Rr ch (Mp bits ch t x) 0).length:Int)=0:=rfl;rw[e0,e1,JP,hV,show((0:Nat):Int)=0 from rfl]at h;rw[Nx,JF,Ale hb ht h1 h6 hx1 hx4 hm hr,Aa];simp only;rw[B! B6,Ak6 ch,Aa,Pp,UZ,Ank];exact h
theorem As4{r:Nat}(h1:1<=r)(h:r<=1048576):Tc (r:Int)=some ((Ah r:Int),0):=by
 have hv:=j! h;have e:Bg (r:Int) 256=Bg 256 (r:Int):=by rw[Fo,Fo];omega
 rw[Tc,B! HM,e];have hq:0<=Bo (Bg 256 (r:Int)) 245:=by
  have e2:Bg 256 (r:Int)=((256*r:Nat):Int):=by rw[Fo];omega
  rw[e2,show(245:Int)=((245:Nat):Int)from rfl,QJ];omega
 rw[f?]at hv;by_cases hz:Bo (Bg 256 (r:Int)) 245=0
 ·rw[B0 (by rw[Ar];simpa using hz)];rw[hz]at hv;have:(1:Int)=(Ah r:Int):=F0
  rw[this]
 ·rw[B! (by rw[Ar];simpa using hz)];have:Bo (Bg 256 (r:Int)) 245=(Ah r:Int):=F0
  rw[this]
theorem B5{r:Nat}(h:r<=1048576)(K:Nat)(hK:K<=1000):∀(j n q:Nat) (acc:LI),n<=4000->n<=j->j<q->acc.length+n<=10000-> (acc++(if n=0 then []else Al (Ah r) n)).length=K->El (Ah r:Int) q (n:Int) acc=some (acc++(if n=0 then []else Al (Ah r) n),0)
 |0,n,q+1,acc,hn,hj,hq,ha,hk=>by
  obtain rfl:n=0:=F0
  rw[B0 rfl,GY]at hk;rw[El,Iq,B! M?,Pd,Ul,B! E4,B0 rfl,GY]
 |j+1,n,q+1,acc,hn,hj,hq,ha,hk=>by
  have hp:=Es r;have hl:=SX h;by_cases h0:n=0
  ·subst h0;rw[B0 rfl,GY]at hk;rw[El,Iq,B! M?,Pd,Ul,B! E4,B0 rfl,GY]
  ·rw[El,Iq,B0 G6,Bi B8,Aa,IQ];rw[B! h0]at hk⊢;by_cases hs:n<=Ah r
   ·rw[show min (n:Int) (Ah r:Int)=(n:Int) by omega,Bu,cQ];have ih:=B5 h K hK j 0 q (acc++[(n:Int)]) F0 F0 F0 B8 (by rw[B0 rfl,GY];rw[RF hs F0]at hk;exact hk);rw[B0 rfl,GY]at ih;rw[RF hs F0];exact ih
   ·rw[show min (n:Int) (Ah r:Int)=(Ah r:Int) by omega,Bu,show(n:Int)-(Ah r:Int)=((n-Ah r:Nat):Int) by omega];have e:acc++Al (Ah r) n=(acc++[(Ah r:Int)])++Al (Ah r) (n-Ah r):=by rw[uT hp (show Ah r<n by omega)];simp
    have ih:=B5 h K hK j (n-Ah r) q (acc++[(Ah r:Int)]) F0 F0 F0 B8 (by rw[B! F0,<-e];exact hk);rw[B! F0,<-e]at ih;exact ih
theorem Bbi{r n:Nat}(h1:1<=r)(h:r<=1048576)(n1:1<=n)(n2:n<=4000)(hk:(n-1)/Ah r+1<=1000):∃z:Int,Hk (r:Int) (n:Int)=some (z,0):=by
 have hl:=B5 h (Al (Ah r) n).length (by rw[SK];omega) n n Au [] n2 (E1 _) D1 B8 (by rw[B! F0];rfl);rw[Hk,Vt,Pg,As4 h1 h,Aa];simp only;rw[B! c_,DK,hl,Aa];exact⟨_,rfl⟩
section
variable {b p:LB} {f c w r n A:Nat} {l:LI} (o:Opn b p f c w r n A l)
include o
theorem Bap{X:LX}{N:Nat}(hN:1<=N)(hNn:N<=n)(hX:X.length=N*c)(hr':r! (w:Int) X):Br (c:Int) (w:Int) (r:Int) X=some 0:=by
 obtain⟨hc,hw,hr,hn,_⟩:=Mh o.shape;have hfit:n<=4000/c/\ (n-1)/Ah r+1<=1000:=by have:=o.fit;simpa only[Xl,D!]using this
 have hX4:X.length<=4000:=by
  have h1:=EK c (RZ hNn hfit.1);have h2:=LK 4000 c;omega
 have hX1:1<=X.length:=by rw[hX];exact N_ hN F0
 have hhB:=JH (w:Int);have hq4:=D4 hc.1 hc.2;have hn4:n<=4000:=by have:=HP 4000 c;omega
 generalize 4000/c=mm at*
 have e20:Dc (c:Int) (w:Int)=some 0:=by
  rw[Dc,B! HM,WJ hw,Aa,B! GZ]
 have Bkf:Gz (Ac X) (c:Int)=0:=by
  rw[Ac,hX,JB,KB];rfl
 have eA:Ce (c:Int) (w:Int) X=some 0:=by
  rw[Ce,e20,Aa,B! B6,YK hw hX4 hr',Aa,B! B6,B! C2,Bl F_,Aa,Bkf,B! B6]
 have Bfk:Bo (Ac X) (c:Int)=(N:Int):=by rw[Ac,QJ,hX,X9 _ F0]
 have e21:Dm (c:Int) (w:Int) (N:Int)=some 0:=by
  rw[Dm,e20,Aa,B! TX,Bl F_,Aa,hq4,B! G6]
 obtain⟨z,e22⟩:=Bbi hr.1 hr.2 hN F0 (by have:=jX (c:=Ah r) (show N-1<=n-1 by omega);omega);rw[Br,Fy,Aa];simp only;rw[eA,Aa,B! B6,Bl F_,Aa,Bfk,Zu,Fy,Aa];simp only;rw[e21,Aa,B! B6,e22,Aa,Aa];rfl
end
theorem cu{p:Prop}(h:p:=by rw[Ar,G3];omega):p:=h
theorem U!{p:Prop}(h:p:=by simp[Aj]):p:=h
structure ClipOk (c w r n:Nat) (x:LX):Prop where
 ch:1<=c/\c<=6
 bits:Bn (w:Int)
 rate:1<=r/\r<=1048576
 cnt:1<=n/\n<=4000/c
 len:x.length=n*c
 fr:(n-1)/Ah r+1<=1000
 rng:r! (w:Int) x
theorem ClipOk.le{c w r n:Nat}{x:LX}(h:ClipOk c w r n x):n<=4000/\n*c<=4000/\1<=x.length/\x.length<=4000:=by
 have h1:=EK c h.cnt.2;have h2:=LK 4000 c;have h3:=HP 4000 c;have h4:=N_ h.cnt.1 h.ch.1;have h5:=h.len;have:=h.cnt;omega
theorem ClipOk.w3{c w r n:Nat}{x:LX}(h:ClipOk c w r n x):w=8\/w=16\/w=24:=by
 have:=h.bits;unfold Bn at this;omega
theorem ClipOk.shape{c w r n:Nat}{x:LX}(h:ClipOk c w r n x)(f:Nat)(hf:f=1\/f=2):Fx f c w r n=true:=by
 have:=h.w3;have:=h.ch;have:=h.rate;have:=h.cnt;simp only[Fx,D!];omega
theorem ClipOk.fit{c w r n:Nat}{x:LX}(h:ClipOk c w r n x):Xl c r n=true:=by
 have:=h.cnt;have:=h.fr;simp only[Xl,D!];omega
theorem Bgm{bits:Int}(h:Bn bits){l:LX}(hl:l.length<=4000):Ay bits l=some 0\/Ay bits l=some 16:=by
 have hh:=JH bits;have key:∀(j i q:Nat),i+j=l.length->j<q->Ba l (hB bits) q (i:Int)=some 0\/Ba l (hB bits) q (i:Int)=some 16:=by
  intro j
  induction j with
  |zero=>
   intro i q hi hq;obtain⟨q,rfl⟩:∃q',q=q'+1:=⟨q-1,F0⟩;rw[Ba,Cx,B! C2];exact .inl rfl
  |succ j ih=>
   intro i q hi hq;obtain⟨q,rfl⟩:∃q',q=q'+1:=⟨q-1,F0⟩;have ih:=ih (i+1) q F0 F0;have hi1:Ad (i:Int) 1=((i+1:Nat):Int):=by rw[Ak];omega
   rw[Ba,Cx,B0 C2,Bt,Aa,Aa,hi1];split
   ·exact .inr rfl
   ·split
    ·exact .inr rfl
    ·exact ih
 have hk:=key l.length 0 Au F0 D1;rw[Ay,Dx,WJ h,Aa,B! GZ,B! E4];exact hk
theorem J0{bits:Int}(h:¬Bn bits):Lg bits=some 0/\Tk bits=some (0,0,2):=by
 unfold Bn at h;constructor
 ·rw[Lg,B! cu,B! cu,B! cu]
 ·have e:(geq bits 24)=false:=by rw[Ar,jm];omega
  rw[Tk,aK,B! cu,B! cu,e,cD,Bi4,B! B6]
theorem R2{r:Nat}(h:r<=1048576):∀(j n q:Nat) (acc:LI),n<=4000->n<=j->j<q->acc.length+n<=10000->
  El (Ah r:Int) q (n:Int) acc=some (if 1000<(acc++(if n=0 then []else Al (Ah r) n)).length then([],4)else(acc++(if n=0 then []else Al (Ah r) n),0))
 |j,n,0,acc,_,_,h,_=>absurd h (K6 _)
 |j,n,q+1,acc,hn,hj,hq,ha=>by
  have hp:=Es r;by_cases h0:n=0
  ·subst h0;rw[B0 rfl,GY,El,Iq,B! M?,Pd,Ul,Aq,Ac];by_cases hk:1000<acc.length
   ·rw[B0 hk,B0 B8]
   ·rw[B! hk,B! B8]
  ·obtain⟨j,rfl⟩:∃j',j=j'+1:=⟨j-1,F0⟩;rw[El,Iq,B0 G6,Bi B8,Aa,IQ];by_cases hs:n<=Ah r
   ·rw[show min (n:Int) (Ah r:Int)=(n:Int) by omega,Bu,cQ];have ih:=R2 h j 0 q (acc++[(n:Int)]) F0 F0 F0 B8;rw[B0 rfl,GY]at ih;rw[B! h0,RF hs F0];exact ih
   ·rw[show min (n:Int) (Ah r:Int)=(Ah r:Int) by omega,Bu,show(n:Int)-(Ah r:Int)=((n-Ah r:Nat):Int) by omega];have e:acc++Al (Ah r) n=(acc++[(Ah r:Int)])++Al (Ah r) (n-Ah r):=by rw[uT hp (show Ah r<n by omega)];simp
    have ih:=R2 h j (n-Ah r) q (acc++[(Ah r:Int)]) F0 F0 F0 B8;rw[B! (show ¬n-Ah r=0 by omega),<-e]at ih;rw[B! h0];exact ih
theorem Ak2(C W R:Int)(x:LX)(hlen:x.length<4611686018427387904):(Br C W R x=some 8/\En C W R x=some 8)\/
  (∃c w r n:Nat,C=(c:Int)/\W=(w:Int)/\R=(r:Int)/\ClipOk c w r n x/\Br C W R x=some 0/\En C W R x=some 0):=by
 have o? :∀e:Int,e≠0->Ce C W x=some e->Br C W R x=some 8:=by
  intro e he h;rw[Br,Fy,Aa];simp only;rw[h,Aa,B0 (by rw[Aj];simpa using he)]
 by_cases hC:C<1
 ·refine .inl ⟨o? 2 B6 ?_,?_⟩
  ·rw[Ce,Dc,B0 HM,Aa,B0 B6]
  ·rw[En,B0 (by rw[Af];simpa using hC)]
 obtain⟨c,rfl⟩:=HU (show 0<=C by omega);have hc1:1<=c:=F0
 have hq:Bo (Ac x) (c:Int)=((x.length/c:Nat):Int):=by rw[Ac,QJ]
 have hr0:Gz (Ac x) (c:Int)=((x.length %c:Nat):Int):=by rw[Ac,JB]
 have Z?:(∀m:Nat,x.length=m*c->OO (c:Int) W R x (m:Int)=some 8)->En (c:Int) W R x=some 8:=by
  intro h;rw[En,B! (by rw[Af];simpa using hC),Bl F_,Aa,hr0];by_cases hm:x.length %c=0
  ·have hx:x.length=x.length/c*c:=by have:=NW x.length c;rw[hm,G?]at this;omega
   rw[hm,B! B6,Aa,hq,h _ hx,Aa,B0 B6]
  ·rw[B0 F_]
 by_cases h6:6<c
 ·refine .inl ⟨o? 2 B6 ?_,Z? λm hm=>?_⟩
  ·rw[Ce,Dc,B0 HM,Aa,B0 B6]
  ·rw[OO,OT,Aa];simp only;have:Gk (c:Int) W=some 2:=by
    rw[Gk];by_cases hb:Bn W
    ·rw[J_ hb,Aa];simp only;rw[B0 c_]
    ·rw[(J0 hb).2,Aa];simp only;rw[B0 U!]
   rw[this,Aa,B0 U!]
 by_cases hb:Bn W
 rotate_left
 ·refine .inl ⟨o? 2 B6 ?_,Z? λm hm=>?_⟩
  ·rw[Ce,Dc,B! HM,(J0 hb).1,Aa,B0 B6,Aa,B0 B6]
  ·rw[OO,OT,Aa];simp only;have:Gk (c:Int) W=some 2:=by
    rw[Gk,(J0 hb).2,Aa];simp only;rw[B0 U!]
   rw[this,Aa,B0 U!]
 have hhB:=JH W;have e20:Dc (c:Int) W=some 0:=by
  rw[Dc,B! HM,WJ hb,Aa,B! GZ]
 have hq4:=D4 hc1 (show c<=6 by omega);have ecf:=qD hb hc1 (show c<=6 by omega);have i_:∀m:Nat,OO (c:Int) W R x (m:Int)=if m<1\/4000/c<m then some 8 else Option.bind (Kk R (m:Int)) λy=>if(Bd y.2 0)=true then some 8 else some 0:=by
  intro m;rw[OO,OT,Aa];simp only;rw[ecf,Aa];by_cases hm:m<1
  ·rw[B0 TX,B0 (.inl hm)]
  ·rw[B! TX,Bl F_,Aa,hq4];by_cases hm2:4000/c<m
   ·rw[B0 (by rw[Aq,D!,gt_iff_lt,Int.ofNat_lt];exact hm2),B0 (.inr hm2)]
   ·rw[B! (by rw[Aq,D!,gt_iff_lt,Int.ofNat_lt];exact hm2),B! F0]
 by_cases hx4:4000<x.length
 ·refine .inl ⟨o? 4 B6 ?_,Z? λm hm=>?_⟩
  ·have:Ay W x=some 4:=by
    rw[Ay,Dx,WJ hb,Aa,B! GZ,B0 E4]
   rw[Ce,e20,Aa,B! B6,this,Aa,B0 B6,Aa]
  ·rw[i_,B0];refine .inr ?_;rw[Nat.div_lt_iff_lt_mul F0];omega
 have hx4:x.length<=4000:=F0
 have hsame:=bC hb x hx4;rcases Bgm hb hx4 with h18|h18
 rotate_left
 ·refine .inl ⟨o? 16 B6 ?_,?_⟩
  ·rw[Ce,e20,Aa,B! B6,h18,Aa,B0 B6,Aa]
  ·rw[En,B! (by rw[Af];simpa using hC),Bl F_,Aa,hr0];by_cases hm:x.length %c=0
   ·rw[hm,B! B6,Aa,hq,i_];split
    ·rw[Aa,B0 B6]
    ·rename_i hh;by_cases hR:1<=R/\R<=1048576
     ·obtain⟨r,rfl⟩:=HU (show 0<=R by omega);have hd:=HP x.length c;rw[mA F0 F0 F0 F0,Aa];split
      ·rw[B0 B6,Aa,B0 B6]
      ·rw[B! U!,Aa,B! B6,hsame,h18,Aa,B0 B6]
     ·rw[Kk,Pk,B0 HM,Aa];simp only;rw[B0 B6,Aa];simp only;rw[B0 B6,Aa,B0 B6]
   ·rw[B0 F_]
 by_cases hx1:x.length<1
 ·refine .inl ⟨o? 2 B6 ?_,Z? λm hm=>?_⟩
  ·rw[Ce,e20,Aa,B! B6,h18,Aa,B! B6,B0 C2]
  ·have h0:m*c=0:=F0
   have:m=0:=by rcases Nat.mul_eq_zero.1 h0 with h|h<;>omega
   rw[i_,B0 (.inl F0)]
 have hA:x.length %c=0->Ce (c:Int) W x=some 0:=by
  intro hm;rw[Ce,e20,Aa,B! B6,h18,Aa,B! B6,B! C2,Bl F_,Aa,hr0,hm,B! B6]
 by_cases hm:x.length %c=0
 rotate_left
 ·refine .inl ⟨o? 2 B6 ?_,?_⟩
  ·rw[Ce,e20,Aa,B! B6,h18,Aa,B! B6,B! C2,Bl F_,Aa,hr0,B0 G6]
  ·rw[En,B! (by rw[Af];simpa using hC),Bl F_,Aa,hr0,B0 F_]
 have hxn:x.length=x.length/c*c:=by have:=NW x.length c;rw[hm,G?]at this;omega
 generalize hN:x.length/c=n at*
 have hn1:1<=n:=by
  by_cases h0:n=0
  ·rw[h0]at hxn;omega
  ·omega
 have hn4:n<=4000/c:=by rw[<-hN];exact jX hx4
 have hn4':n<=4000:=RZ hn4 (HP _ _);have e21:Dm (c:Int) W (n:Int)=some 0:=by
  rw[Dm,e20,Aa,B! TX,Bl F_,Aa,hq4,B! (by rw[Aq,D!,gt_iff_lt,Int.ofNat_lt];omega)]
 have Axy:∀z e:Int,Hk R (n:Int)=some (z,e)->Br (c:Int) W R x=some (if e=0 then 0 else 8):=by
  intro z e hz;rw[Br,Fy,Aa];simp only;rw[hA hm,Aa,B! B6,Bl F_,Aa,hq,Zu,Fy,Aa];simp only;rw[e21,Aa,B! B6,hz,Aa,Aa,Ar];by_cases he:e=0
  ·subst he;rfl
  ·rw[B! he,B0 (by simpa using he)]
 have V!:En (c:Int) W R x=Option.bind (Option.bind (Kk R (n:Int)) λy=>if(Bd y.2 0)=true then some 8 else some 0) λg=>if(Bd g 0)=true then some g else some 0:=by
  rw[En,B! (by rw[Af];simpa using hC),Bl F_,Aa,hr0,hm,B! B6,Aa,hq,i_,B! F0,hsame,h18];rfl
 by_cases hR:1<=R/\R<=1048576
 rotate_left
 ·refine .inl ⟨?_,?_⟩
  ·refine Axy 0 2 ?_;rw[Hk,Vt,Pg,Tc,B0 HM,Aa];simp only;rw[B0 U!,Aa];rfl
  ·rw[V!,Kk,Pk,B0 HM,Aa];simp only;rw[B0 B6,Aa];simp only;rw[B0 B6,Aa,B0 B6]
 obtain⟨r,rfl⟩:=HU (show 0<=R by omega);have hl:=R2 (r:=r) F0 n n Au [] hn4' (E1 _) D1 B8;rw[B! (show ¬n=0 by omega),HB,SK]at hl;have hcount:∃z:Int,Hk (r:Int) (n:Int)=some (z,if 1000<(n-1)/Ah r+1 then 4 else 0):=by
  rw[Hk,Vt,Pg,As4 F0 F0,Aa];simp only;rw[B! c_,DK,hl,Aa];split<;>exact⟨_,rfl⟩
 obtain⟨z,hz⟩:=hcount;have h24:=Axy z _ hz;rw[mA F0 F0 hn1 hn4',Aa]at V!;by_cases hk:1000<(n-1)/Ah r+1
 ·rw[B0 hk]at h24 V!;exact .inl ⟨h24,V!⟩
 ·rw[B! hk]at h24 V!;have hw:∃w:Nat,W=(w:Int):=by
   rcases hb with rfl|rfl|rfl
   ·exact⟨8,rfl⟩
   ·exact⟨16,rfl⟩
   ·exact⟨24,rfl⟩
  obtain⟨w,rfl⟩:=hw;exact .inr ⟨c,w,r,n,rfl,rfl,rfl,⟨⟨hc1,F0⟩,hb,F0,⟨hn1,hn4⟩,hxn,F0,kU hb hx4 h18⟩,h24,V!⟩
theorem Apq(C W R:Int){x:LX}(h:4000<x.length):Br C W R x=some 8:=by
 have key:∃e:Int,e≠0/\Ce C W x=some e:=by
  rw[Ce,Dc];by_cases h1:((Ck C 1)||(Ei C 6))=true
  ·rw[B0 h1,Aa,B0 B6];exact⟨2,B6,rfl⟩
  ·rw[B! h1];by_cases hb:Bn W
   ·have hh:=JH W;have h18:Ay W x=some 4:=by
     rw[Ay,Dx,WJ hb,Aa,B! GZ,B0 E4]
    rw[WJ hb,Aa,B! GZ,Aa,B! B6,h18,Aa,B0 B6,Aa];exact⟨4,B6,rfl⟩
   ·rw[(J0 hb).1,Aa,B0 B6,Aa,B0 B6];exact⟨2,B6,rfl⟩
 obtain⟨e,he,h1⟩:=key;rw[Br,Fy,Aa];simp only;rw[h1,Aa,B0 (by rw[Aj];simpa using he)]
theorem Bch(C W R:Int)(x:LX):(Br C W R x=some 8/\ (x.length<4611686018427387904->En C W R x=some 8))\/
  (∃c w r n:Nat,C=(c:Int)/\W=(w:Int)/\R=(r:Int)/\ClipOk c w r n x/\Br C W R x=some 0/\En C W R x=some 0):=by
 by_cases hx:x.length<4611686018427387904
 ·rcases Ak2 C W R x hx with⟨h1,h2⟩|h
  ·exact .inl ⟨h1,λ_=>h2⟩
  ·exact .inr h
 ·exact .inl ⟨Apq C W R F0,λh=>absurd h hx⟩
theorem mq{p:Prop}(h:p:=by simp[Cf,Px]):p:=h
def Y2(f c w r n:Nat):LB:=Px++Tm f 2++Tm c 2++Tm w 2++Tm r 4++Tm n 4
def VF(f c w r n:Nat):LB:=Y2 f c w r n++Tm (Ew (Y2 f c w r n)).toNat 4
theorem jF(f c w r n:Nat):(Y2 f c w r n).length=18:=by simp only[Y2,Px,CR,Cf];rfl
theorem cN(f c w r n:Nat):(VF f c w r n).length=22:=by rw[VF,CR,jF,Cf]
theorem C? (b f g h k:Int)(m v w q:Nat)(a:LB)(hm:m<5)(hv:Am ([b,f,g,h,k]:LI) (m:Int)=some (v:Int))(hw:Am ([2,2,2,4,4]:LI) (m:Int)=some (w:Int))(h1:1<=w)(h8:w<=8)(hlt:v<256^w)(h64:v<18446744073709551616)(ha:a.length<=100):
  Oj b f g h k (q+1) (m:Int) a=Oj b f g h k q ((m+1:Nat):Int) (a++Tm v w):=by
 have e64:(UInt64.ofNat v).toNat=v:=dT F0;have hi1:Ad (m:Int) 1=((m+1:Nat):Int):=by rw[Ak];omega
 rw[Oj,FI,B0 D2,hv,Aa,hw,Aa,Ye,bK _ w h1 h8 (by rw[e64];exact hlt),Aa];simp only;rw[Bi dF,Aa,hi1,e64]
theorem Aet{f c w r n:Nat}(h1:Fx f c w r n=true)(h2:Xl c r n=true):KY (f:Int) (c:Int) (w:Int) (r:Int) (n:Int)=some (VF f c w r n,0):=by
 have hs:(f=1\/f=2)/\ (1<=c/\c<=6)/\ (w=8\/w=16\/w=24)/\ (1<=r/\r<=1048576)/\1<=n:=by simpa only[Fx,D!]using h1
 have hn:n<=4000:=by
  simp only[Xl,D!]at h2;have:=HP 4000 c;omega
 have hck:Pj (f:Int) (c:Int) (w:Int) (r:Int) (n:Int)=some 0:=by
  rw[Pj,dG,Aa,h1,B! B6,vS h1,Aa,h2,B! B6]
 have hF:Au=(Au-6)+1+1+1+1+1+1:=by have:=As;omega
 have hlt:=(Ew (Y2 f c w r n)).toNat_lt;have e64:(UInt64.ofNat (Ew (Y2 f c w r n)).toNat).toNat=(Ew (Y2 f c w r n)).toNat:=dT F0;have hfin:FK (Y2 f c w r n)=some (VF f c w r n,0):=by
  rw[FK,Bfe,T6 _ (by rw[jF];omega),Aa];simp only;rw[Ef,show(4:Int)=((4:Nat):Int)from rfl,bK _ 4 F0 F0 mh,Aa];simp only;rw[Bi (by rw[jF,Cf];omega),Aa,e64];rfl
 rw[KY,VW,hck,Aa,B! B6,Bfm,hF];have s0:=C? (f:Int) (c:Int) (w:Int) (r:Int) (n:Int) 0 f 2 ((Au-6)+1+1+1+1+1) Px F0 rfl rfl F0 F0 F0 F0 B6;have s1:=C? (f:Int) (c:Int) (w:Int) (r:Int) (n:Int) 1 c 2 ((Au-6)+1+1+1+1) (Px++Tm f 2) F0 rfl rfl F0 F0 F0 F0 mq;have s2:=C? (f:Int) (c:Int) (w:Int) (r:Int) (n:Int) 2 w 2 ((Au-6)+1+1+1) (Px++Tm f 2++Tm c 2) F0 rfl rfl F0 F0 F0 F0 mq;have s3:=C? (f:Int) (c:Int) (w:Int) (r:Int) (n:Int) 3 r 4 ((Au-6)+1+1) (Px++Tm f 2++Tm c 2++Tm w 2) F0 rfl rfl F0 F0 F0 F0 mq;have s4:=C? (f:Int) (c:Int) (w:Int) (r:Int) (n:Int) 4 n 4 ((Au-6)+1) (Px++Tm f 2++Tm c 2++Tm w 2++Tm r 4) F0 rfl rfl F0 F0 F0 F0 mq;refine s0.trans (s1.trans (s2.trans (s3.trans (s4.trans ?_))));rw[Oj,FI,B! B6];exact hfin
def cU(l:LI):LB:=l.flatMap λx=>Tm x.toNat 4
def tC(l:LI):LB:=cU l++Tm (Ew (cU l)).toNat 4
theorem RL(l:LI):(cU l).length=4*l.length:=by
 induction l with
 |nil=>rfl
 |cons x l ih=>rw[cU,ji,CR,Cf,show(l.flatMap λx=>Tm x.toNat 4)=cU l from rfl,ih,G2];omega
theorem tP(l:LI):(tC l).length=4*l.length+4:=by rw[tC,CR,RL,Cf]
theorem Aqd(l:LI)(x:Int):cU (l++[x])=cU l++Tm x.toNat 4:=by simp[cU]
theorem Bdv(l:LI)(hl:l.length<=1000)(h5:∀x∈l,5<=x/\x<=100000):∀(j i q:Nat),i+j=l.length->j<q->Un l q (i:Int) (cU (l.take i))=some (tC l,0)
 |j,i,0,_,h=>absurd h (K6 _)
 |0,i,q+1,hi,_=>by
  have hlt:=(Ew (cU l)).toNat_lt;have e64:(UInt64.ofNat (Ew (cU l)).toNat).toNat=(Ew (cU l)).toNat:=dT F0;rw[Un,MO,B! C2,IU F0,UR,UW,T6 _ (by rw[RL];omega),Aa];simp only;rw[Ef,show(4:Int)=((4:Nat):Int)from rfl,bK _ 4 F0 F0 mh,Aa];simp only;rw[Bi (by rw[RL,Cf];omega),Aa,e64];rfl
 |j+1,i,q+1,hi,hq=>by
  have ih:=Bdv l hl h5 j (i+1) q F0 F0;obtain⟨x5,x6⟩:=h5 l[i] (HA _);obtain⟨v,hv⟩:=HU (show 0<=l[i] by omega);have e64:(UInt64.ofNat v).toNat=v:=dT F0;have hi1:Ad (i:Int) 1=((i+1:Nat):Int):=by rw[Ak];omega
  rw[Un,MO,B0 C2,Bt,Aa,hv,Ye,show(4:Int)=((4:Nat):Int)from rfl,bK _ 4 F0 F0 mh,Aa];simp only;rw[Bi (by rw[RL,Cf,G!];omega),Aa,VA,Bfr,hi1,e64];rw[Ms F0,Aqd,hv,F!]at ih;exact ih
theorem Ajf(l:LI):HZ l=some (if Vs l=true then(tC l,0)else([],8)):=by
 rw[HZ,ZL,YS,Aa];by_cases h:Vs l=true
 ·rw[B0 h,B0 h,B! B6];simp only[Vs,CT,D!]at h;obtain⟨⟨h1,h2⟩,h3⟩:=h;have h4:=(FB l 100000 F0).1 h3;have h6:=P8 h4.1;have hl:=Bdv l h2 (λx hx=>⟨h4.1 x hx,by have:=h6 x hx;omega⟩) l.length 0 Au F0 D1;exact hl
 ·rw[B! h,B! h,B0 B6]
def Ib(c:Nat):LX->LI->List LX
 |_,[]=>[]
 |x,m::l=>x.take (m.toNat*c)::Ib c (x.drop (m.toNat*c)) l
theorem cL(c:Nat):∀(l:LI) (x:LX),(Ib c x l).length=l.length
 |[],x=>rfl
 |m::l,x=>by rw[Ib,G2,G2,cL c l]
theorem Bcd(c:Nat):∀(l:LI) (x:LX),(∀m∈l,0<=m)->x.length=l.sum.toNat*c-> (Ib c x l).flatten=x
 |[],x,_,h=>by
  have:x=[]:=LJ (by simpa using h);rw[this];rfl
 |m::l,x,h0,h=>by
  have hm:=h0 m K3;have hl:0<=l.sum:=by
   have:∀l:LI,(∀m∈l,0<=m)->0<=l.sum:=by
    intro l
    induction l with
    |nil=>intro _;simp
    |cons a l ih=>intro h;have:=ih (λm hm=>h m (I4 _ hm));have:=h a K3;rw[I6];omega
   exact this l λm hm=>h0 m (I4 _ hm)
  rw[I6,show(m+l.sum).toNat=m.toNat+l.sum.toNat by omega,E9]at h;have ih:=Bcd c l (x.drop (m.toNat*c)) (λm hm=>h0 m (I4 _ hm)) M9;rw[Ib,NS,ih,N2]
theorem lD(c:Nat)(h1:1<=c):∀(l:LI) (x:LX),(∀m∈l,1<=m)->x.length=l.sum.toNat*c->∀y∈Ib c x l,1<=y.length/\y.length<=x.length/\y.length %c=0/\∀v∈y,v∈x
 |[],x,_,_=>λy hy=>by simp[Ib]at hy
 |m::l,x,hm,hx=>by
  have hm1:=hm m K3;have hl:0<=l.sum:=by
   have:∀l:LI,(∀m∈l,1<=m)->0<=l.sum:=by
    intro l
    induction l with
    |nil=>intro _;simp
    |cons a l ih=>intro h;have:=ih (λm hm=>h m (I4 _ hm));have:=h a K3;rw[I6];omega
   exact this l λm hm'=>hm m (I4 _ hm')
  rw[I6,show(m+l.sum).toNat=m.toNat+l.sum.toNat by omega,E9]at hx;have hpos:1<=m.toNat*c:=N_ F0 h1;intro y hy;rw[Ib,Xn]at hy;rcases hy with rfl|hy
  ·have hlen:(x.take (m.toNat*c)).length=m.toNat*c:=by rw[G!];omega
   rw[hlen];exact⟨hpos,F0,KB _ _,λv hv=>aS hv⟩
  ·obtain⟨a1,a2,a3,a4⟩:=lD c h1 l (x.drop (m.toNat*c)) (λm hm'=>hm m (I4 _ hm')) M9 y hy;rw[H4]at a2;exact⟨a1,F0,a3,λv hv=>RQ (a4 v hv)⟩
theorem Bm4(bits:Int)(ch:Nat)(t x:LX)(h0:1<=x.length)(h4:x.length<=4000):5<= (Pp bits ch t x).length/\ (Pp bits ch t x).length<=15*x.length:=by
 have h5:=I9 bits ch t x h0 h4;have h:=iG ch (Mp bits ch t x) x.length;refine⟨h5.1,?_⟩;rw[Pp,CR,Cf,UZ,Uy];omega
def Ed(fs:List LB):LI:=fs.map λf=>(f.length:Int)
theorem Qr(fs:List LB):(Ed fs).length=fs.length:=by rw[Ed,kV]
theorem OY:∀fs:List LB,(Ed fs).sum=(fs.flatten.length:Int)
 |[]=>rfl
 |f::fs=>by rw[Ed,J8,I6,NS,CR,show(fs.map λf=>(f.length:Int))=Ed fs from rfl,OY fs];omega
theorem Asx(bits:Int)(ch:Nat)(t:LX):∀ys:List LX,(∀y∈ys,1<=y.length/\y.length<=4000)-> ((ys.map (Pp bits ch t)).flatten).length<=15*ys.flatten.length
 |[],_=>by simp
 |y::ys,h=>by
  have ih:=Asx bits ch t ys λy hy=>h y (I4 _ hy);obtain⟨h1,h4⟩:=h y K3;have:=(Bm4 bits ch t y h1 h4).2;rw[J8,NS,NS,CR,CR];omega
def Vi(p:LB):Nat:=if p=[]then 1 else 2
def G8(p:LB):LB:=if p=[]then []else Tm (Vx p).toNat 8
theorem Ah3(p:LB):Vi p=1\/Vi p=2:=by unfold Vi;split<;>simp
theorem uV(p:LB):(G8 p).length=if Vi p=2 then 8 else 0:=by
 unfold G8 Vi;by_cases h:p=[]
 ·rw[B0 h,B0 h];rfl
 ·rw[B! h,B! h,Cf];rfl
def cW(c r n:Nat)(x:LX):List LX:=Ib c x (Al (Ah r) n)
def XN(c w r n:Nat)(x:LX)(p:LB):List LB:=(cW c r n x).map (Pp (w:Int) c (Lt p))
def CP(c w r n:Nat)(x:LX)(p:LB):LB:=VF (Vi p) c w r n++(G8 p++(tC (Ed (XN c w r n x p))++(XN c w r n x p).flatten))
theorem UD{g n:Nat}(hg:1<=g)(h1:1<=n):∀m∈Al g n,1<=m:=by
 intro m hm;rw[Al,bX,List.mem_replicate,tR]at hm;have h:=LK (n-1) g;rcases hm with⟨_,rfl⟩|rfl
 ·omega
 ·omega
section
variable {c w r n:Nat} {x:LX} (h:ClipOk c w r n x)
include h
theorem ClipOk.sum:(Al (Ah r) n).sum=(n:Int):=sQ h.cnt.1
omit h in
theorem Aja:(cW c r n x).length=(Al (Ah r) n).length:=cL _ _ _
theorem xO:(cW c r n x).flatten=x:=by
 refine Bcd _ _ _ (λm hm=>?_) ?_
 ·have:=UD (Es r) h.cnt.1 m hm;omega
 ·rw[h.sum,h.len,F!]
theorem uI:∀y∈cW c r n x,1<=y.length/\y.length<=4000/\y.length %c=0/\r! (w:Int) y:=by
 intro y hy;obtain⟨a1,a2,a3,a4⟩:=lD c h.ch.1 _ _ (UD (Es r) h.cnt.1) (by rw[h.sum,h.len,F!]) y hy;have:=h.le;exact⟨a1,F0,a3,λv hv=>h.rng v (a4 v hv)⟩
omit h in
theorem uz(p:LB):(XN c w r n x p).length=(Al (Ah r) n).length:=by rw[XN,kV];exact cL _ _ _
theorem qZ(p:LB):1<= (XN c w r n x p).length/\ (XN c w r n x p).length<=1000:=by
 rw[uz,SK];exact⟨Nat.le_add_left _ _,h.fr⟩
theorem Ai2(p:LB):((XN c w r n x p).flatten).length<=15*x.length:=by
 have:=Asx (w:Int) c (Lt p) (cW c r n x) λy hy=>⟨(uI h y hy).1,(uI h y hy).2.1⟩;rw[xO h]at this;exact this
theorem Axi(p:LB):∀f∈XN c w r n x p,5<=f.length:=by
 intro f hf;rw[XN,k_]at hf;obtain⟨y,hy,rfl⟩:=hf;exact(Bm4 _ _ _ _ (uI h y hy).1 (uI h y hy).2.1).1
theorem Age(p:LB):Vs (Ed (XN c w r n x p))=true:=by
 have h1:=qZ h p;have h2:=Ai2 h p;have h3:=h.le;simp only[Vs,CT,D!];rw[FB _ _ F0,Qr,OY];refine⟨F0,λz hz=>?_,F0⟩;rw[Ed,k_]at hz;obtain⟨f,hf,rfl⟩:=hz;have:=Axi h p f hf;omega
omit h in
theorem Q0(p:LB):(CP c w r n x p).length=22+(if Vi p=2 then 8 else 0)+(4*(XN c w r n x p).length+4)+(XN c w r n x p).flatten.length:=by
 rw[CP,CR,CR,CR,cN,uV,tP,Qr];omega
theorem Aw9(p:LB):(CP c w r n x p).length<=34+4*(XN c w r n x p).length+15*x.length:=by
 have h1:=Q0 (c:=c) (w:=w) (r:=r) (n:=n) (x:=x) p;have h2:=Ai2 h p;split at h1<;>omega
theorem zS(p:LB):(CP c w r n x p).length<=64034:=by
 have:=Aw9 h p;have:=qZ h p;have:=h.le;omega
end
theorem n!{p:Prop}(h:p:=by simp[Px,Cf]):p:=h
theorem UE{a m z:LB}{i k:Nat}(hi:a.length=i)(hk:m.length=k):part (a++(m++z)) i k=m:=by
 subst hi hk;rw[part,List.take_append,IU F0,List.drop_left',P',RJ (E1 _),ID];rfl
theorem PA(f c w r n:Nat)(z:LB):VF f c w r n++z=Px++(Tm f 2++(Tm c 2++(Tm w 2++(Tm r 4++(Tm n 4++(Tm (Ew (Y2 f c w r n)).toNat 4++z)))))):=by
 simp only[VF,Y2,E?]
theorem Apu{f c w r n:Nat}(h1:Fx f c w r n=true)(h2:Xl c r n=true)(z:LB):Ep (VF f c w r n++z)=((f:Int),(c:Int),(w:Int),(r:Int),(n:Int),0):=by
 have hs:(f=1\/f=2)/\ (1<=c/\c<=6)/\ (w=8\/w=16\/w=24)/\ (1<=r/\r<=1048576)/\1<=n:=by simpa only[Fx,D!]using h1
 have hn:n<=4000:=by
  simp only[Xl,D!]at h2;have:=HP 4000 c;omega
 have hlen:22<= (VF f c w r n++z).length:=by rw[CR,cN];omega
 have m4:min 4 (VF f c w r n++z).length=4:=F0
 have e4:(VF f c w r n++z).take 4=Px:=by rw[PA];rfl
 have e18:(VF f c w r n++z).take 18=Y2 f c w r n:=by
  rw[VF,E?,RJ (by rw[jF];omega),IU (by rw[jF];omega)]
 have hlt:=(Ew (Y2 f c w r n)).toNat_lt;have p18:part (VF f c w r n++z) 18 4=Tm (Ew (Y2 f c w r n)).toNat 4:=by
  rw[VF,E?];exact UE (jF _ _ _ _ _) (Cf _ _)
 have q0:f0 (VF f c w r n++z)=f:=by
  rw[f0,PA,UE (a:=Px) (i:=4) (k:=2) rfl (Cf _ _),FC];omega
 have q1:f1 (VF f c w r n++z)=c:=by
  rw[f1,PA,<-E?,UE n! (Cf _ _),FC];omega
 have q2:f2 (VF f c w r n++z)=w:=by
  rw[f2,PA,<-E?,<-E?,UE n! (Cf _ _),FC];omega
 have q3:f3 (VF f c w r n++z)=r:=by
  rw[f3,PA,<-E?,<-E?,<-E?,UE n! (Cf _ _),FC];omega
 have q4:f4 (VF f c w r n++z)=n:=by
  rw[f4,PA,<-E?,<-E?,<-E?,<-E?,UE n! (Cf _ _),FC];omega
 have h:=rs6 (b:=VF f c w r n++z) (by rw[m4,e4];rfl) F0 (by rw[e18,p18,FC];omega) (by rw[q0,q1,q2,q3,q4];exact h1) (by rw[q1,q3,q4];exact h2);rw[q0,q1,q2,q3,q4]at h;exact h
theorem Atm(l:LI)(z:LB){i:Nat}(hi:i<l.length):part (cU l++z) (4*i) 4=Tm (l[i]).toNat 4:=by
 have hs:cU l=cU (l.take i)++(Tm (l[i]).toNat 4++cU (l.drop (i+1))):=by
  conv=>lhs;rw[<-N2 i l,drop_cons hi]
  rw[cU,cU,cU,jk,ji]
 rw[hs,E?,E?];exact UE (by rw[RL,G!];omega) (Cf _ _)
theorem Apr{l:LI}(ht:Vs l=true)(z:LB):Eo (tC l++z) l.length=(l,0):=by
 have h:=ht;simp only[Vs,CT,D!]at h;obtain⟨hn,h3⟩:=h;have h4:=(FB l 100000 F0).1 h3;have h6:=P8 h4.1;have hlt:=(Ew (cU l)).toNat_lt;have e1:(tC l++z).take (4*l.length)=cU l:=by
  rw[tC,E?,RJ (by rw[RL];omega),IU (by rw[RL];omega)]
 have e2:part (tC l++z) (4*l.length) 4=Tm (Ew (cU l)).toNat 4:=by
  rw[tC,E?];exact UE (RL _) (Cf _ _)
 have e3:UJ (tC l++z) l.length=l:=by
  apply J4
  ·rw[Vm]
  ·intro i h1 h2;have hx:=h4.1 l[i] (HA _);have hy:=h6 l[i] (HA _);simp only[UJ,NB,NP];rw[tC,E?,Atm l _ h2,FC];omega
 rw[ss4 hn (by rw[CR,tP];omega) (by rw[e1,e2,FC];omega),e3,B0 ht]
theorem Avy{b p:LB}{f c w r n T:Nat}{l:LI}{z:LB}(hp:p.length<=64)(hf:f=Vi p)(h1:Fx f c w r n=true)(h2:Xl c r n=true)(hT:Bp b=((T:Int),0))(hb:b.length<=100000)(hd:b.drop T=VF f c w r n++(G8 p++(tC l++z)))
  (hl:l.length=(Al (Ah r) n).length) (ht:Vs l=true):Opn b p f c w r n (T+22+(if f=2 then 8 else 0)+4*l.length+4) l:=by
 have hlen:=congrArg List.length hd;rw[H4,CR,CR,CR,cN,uV,tP,<-hf]at hlen;have Bkg:l.length<=1000/\1<=l.length:=by
  have h:=ht;simp only[Vs,CT,D!]at h;omega
 have hread:Ep (b.drop T)=((f:Int),(c:Int),(w:Int),(r:Int),(n:Int),0):=by rw[hd];exact Apu h1 h2 _
 have t22:Ad (T:Int) 22=((T+22:Nat):Int):=by rw[Ak];omega
 have t30:Ad ((T+22:Nat):Int) 8=((T+30:Nat):Int):=by rw[Ak];omega
 have d22:b.drop (T+22)=G8 p++(tC l++z):=by
  rw[<-LW,hd,<-cN f c w r n,NF]
 have dA:b.drop (T+22+(if f=2 then 8 else 0))=tC l++z:=by
  rw[<-LW,d22,hf,<-uV p,NF]
 have hend:∀A:Nat,A<=b.length->A=T+22+(if f=2 then 8 else 0)->Dl b p=Qt b (f:Int) (c:Int) (w:Int) (r:Int) (n:Int) (A:Int)->Dl b p=some ((f:Int),(c:Int),(w:Int),(r:Int),(n:Int),((A+4*l.length+4:Nat):Int),l,0):=by
  intro A hA hA2 e;rw[e,vU h1 h2 b F0 A hA,hA2,dA,<-hl,Apr ht,B! B7]
 have hprog:Dl b p=some ((f:Int),(c:Int),(w:Int),(r:Int),(n:Int),((T+22+(if f=2 then 8 else 0)+4*l.length+4:Nat):Int),l,0):=by
  refine hend (T+22+(if f=2 then 8 else 0)) F0 rfl ?_;rw[Dl,Ux,B! E4,B! E4,Ql b F0,hT,Aa];simp only;rw[B! B6,Cb,Aa,F!,PY _ M9,Aa,hread];simp only;rw[B! B6];by_cases h0:p=[]
  ·have e1:f=1:=by rw[hf,Vi,B0 h0]
   rw[B! (by rw[h0,e1];decide),B! (by rw[h0];decide),t22,e1];rfl
  ·have e1:f=2:=by rw[hf,Vi,B! h0]
   have hne:(p !=([]:LB))=true:=by simpa using h0
   have hne2:(p==([]:LB))=false:=by simpa using h0
   have hdg:G8 p=Tm (Vx p).toNat 8:=by rw[G8,B! h0]
   have hseg:(b.take (T+30)).drop (T+22)=Tm (Vx p).toNat 8:=by
    rw[XH,show T+30-(T+22)=8 by omega,d22,hdg,RJ dF,IU dF]
   rw[e1,B0 rfl]at hlen;rw[B! (by rw[hne2,e1];decide),B0 hne,t22,t30,B! C2,Wi,Aa,F!,F!,hseg,G9 (Cf _ _) hp,Aa];simp only;rw[B! B6,B! B7,e1];rfl
 rcases N9 b p F0 hp with⟨e,he,h,_⟩|⟨f',c',w',r',n',A',l',o⟩
 ·rw[hprog]at h;have:=congrArg (λo=>(o.getD (VB 0)).2.2.2.2.2.2.2) h;simp only[uU,VB]at this;exact absurd this.symm he
 ·have h:=o.prog;rw[hprog]at h;simp only[D6,D5]at h;obtain⟨i1,i2,i3,i4,i5,i6,i7,_⟩:=h;have j1:f=f':=F0
  have j2:c=c':=F0
  have j3:w=w':=F0
  have j4:r=r':=F0
  have j5:n=n':=F0
  have j6:=Int.ofNat.inj i6;subst j1 j2 j3 j4 j5 i7;rw[j6];exact o
theorem Afq{b:LB}(h:b.take 4=Px):Bp b=(0,0):=by
 have h4:4<=b.length:=by
  have:=congrArg List.length h;rw[G!]at this;simp only[Px,G2,NU]at this;omega
 have h3:b.take 3≠ [73,68,51]:=by
  intro e;have:(b.take 4).take 3=[73,68,51]:=by rw[S?];exact e
  rw[h]at this;exact absurd this B6
 have h8:b.take 8≠qd:=by
  intro e;have:(b.take 8).take 4=Px:=by rw[S?];exact h
  rw[e]at this;exact absurd this B6
 have hs:Df b=(0,6):=by
  have h1:Zk b=(0,6):=by rw[Zk,B0 (by intro hh;exact h3 hh.2)]
  rw[Df,h1,B! B6,fa1 (by intro hh;exact h8 hh.2)]
 rw[Bp,D_,Cq,lM,hs];rfl
theorem rE:∀{l:LI},(∀x∈l,0<=x)->∀k,0<= (l.take k).sum
 |[],_,k=>by simp
 |x::l,h,0=>by simp
 |x::l,h,k+1=>by
  have:=rE (l:=l) (λy hy=>h y (I4 _ hy)) k;have:=h x K3;rw[List.take_succ_cons,I6];omega
theorem T0(fs:List LB)(k:Nat):(Ed fs).take k=Ed (fs.take k):=by rw[Ed,Ed,List.map_take]
theorem Bcz{b z:LB}{A:Nat}{fs:List LB}(hd:b.drop A=fs.flatten++z){k:Nat}(hk:k<fs.length):qo b A (Ed fs) k=fs[k]:=by
 have e0:fs.flatten=(fs.take k).flatten++(fs[k]++(fs.drop (k+1)).flatten):=by
  conv=>lhs;rw[<-N2 k fs,drop_cons hk]
  rw[TP,NS]
 have s1:((Ed fs).take k).sum=((fs.take k).flatten.length:Int):=by rw[T0,OY]
 have s2:((Ed fs).take (k+1)).sum=((fs.take k).flatten.length+fs[k].length:Nat):=by rw[T0,OY,Ms hk,TP];simp
 rw[qo,s1,s2,show((A:Int)+((fs.take k).flatten.length+fs[k].length:Nat)).toNat=A+((fs.take k).flatten.length+fs[k].length) by omega,show((A:Int)+((fs.take k).flatten.length:Int)).toNat=A+(fs.take k).flatten.length by omega,
  XH,<-LW,hd,e0,E?,NF,Nat.add_sub_add_left,P',E?,lA]
theorem Arv{b z:LB}{A:Nat}{fs:List LB}(hd:b.drop A=fs.flatten++z)(hA:A<=b.length)(k:Nat):(A:Int)+((Ed fs).take k).sum<=b.length:=by
 have h:=congrArg List.length hd;rw[H4,CR]at h;have h2:(fs.take k).flatten.length<=fs.flatten.length:=by
  conv=>rhs;rw[<-N2 k fs,TP,CR]
  omega
 rw[T0,OY];omega
theorem Aqk{b z:LB}{A:Nat}{fs:List LB}(hd:b.drop A=fs.flatten++z):bP b A (Ed fs)=(Oa z).2:=by
 rw[bP,OY,show((A:Int)+(fs.flatten.length:Int)).toNat=A+fs.flatten.length by omega,<-LW,hd,NF]
theorem Ala:Oa []=(0,0):=rfl
section
variable {b p:LB} {f c w r n A:Nat} {fs:List LB} {z:LB} (o:Opn b p f c w r n A (Ed fs)) (hd:b.drop A=fs.flatten++z)
include o hd
theorem Bfb{k:Nat}(hk:k<fs.length){y:LX}{e:Int}{m:Nat}(hm:Am (Al (Ah r) n) (k:Int)=some (m:Int))(hdec:Kl (c:Int) (w:Int) (Lt p) (m:Int) fs[k]=some (y,e)):
  (Jk b p f c w r n A (Ed fs) k).2=e/\ (e=0->Jk b p f c w r n A (Ed fs) k=(Du (w:Int) y,0)/\jq w (Jk b p f c w r n A (Ed fs) k)=y):=by
 have hkl:k<(Ed fs).length:=by rw[Qr];exact hk
 obtain⟨m',x',s',e',g⟩:=BO o k hkl;have hin:=Arv hd o.at' (k+1);have hmm:m'=m:=by
  have:=g.mom;rw[hm]at this;have:=HE this;omega
 subst hmm;rcases g.way with⟨h1,_⟩|⟨_,h2,_⟩
 ·omega
 ·rw[Bcz hd hk,hdec]at h2;simp only[D6,D5]at h2;obtain⟨rfl,rfl⟩:=h2;refine⟨by rw[g.eq],λhe=>?_⟩;have:=g.J7 (Mh o.shape).2.1;obtain⟨h3,_⟩:=g.some' he;rw[g.eq,this,h3,he];exact⟨rfl,rfl⟩
end
theorem zN(c:Nat)(h1:1<=c):∀(l:LI) (x:LX),(∀m∈l,1<=m)->x.length=l.sum.toNat*c->∀(k:Nat) (hk:k<l.length) (hk':k<(Ib c x l).length),(Ib c x l)[k].length=l[k].toNat*c
 |[],x,_,_=>λk hk=>absurd hk (K6 _)
 |m::l,x,hm,hx=>by
  have hm1:=hm m K3;have hl:0<=l.sum:=by
   have:=rE (l:=l) (λy hy=>by have:=hm y (I4 _ hy);omega) l.length;rw[ID]at this;exact this
  rw[I6,show(m+l.sum).toNat=m.toNat+l.sum.toNat by omega,E9]at hx;intro k hk hk';cases k with
  |zero=>simp only[Ib,List.getElem_cons_zero,G!];omega
  |succ k=>
   simp only[Ib,List.getElem_cons_succ];exact zN c h1 l (x.drop (m.toNat*c)) (λm hm'=>hm m (I4 _ hm')) M9 k (by simpa using hk) _
structure FileOf (c w r n:Nat) (x:LX) (p:LB) (T:Nat) (fs:List LB) (z b:LB):Prop where
 clip:ClipOk c w r n x
 pass:p.length<=64
 front:Bp b=((T:Int),0)
 le:b.length<=100000
 lens:Ed fs=Ed (XN c w r n x p)
 form:b.drop T=VF (Vi p) c w r n++(G8 p++(tC (Ed (XN c w r n x p))++(fs.flatten++z)))
def O5(T:Nat)(p:LB)(K:Nat):Nat:=T+22+(if Vi p=2 then 8 else 0)+4*K+4
section
variable {c w r n:Nat} {x:LX} {p:LB} {T:Nat} {fs:List LB} {z b:LB} (h:FileOf c w r n x p T fs z b)
include h
theorem FileOf.cnt:fs.length=(XN c w r n x p).length:=by
 have:=congrArg List.length h.lens;rw[Qr,Qr]at this;exact this
theorem FileOf.Fh:Opn b p (Vi p) c w r n (O5 T p fs.length) (Ed fs):=by
 have hc:=h.clip;have hl:(Ed fs).length=(Al (Ah r) n).length:=by rw[Qr,h.cnt];exact uz p
 have ht:Vs (Ed fs)=true:=by rw[h.lens];exact Age hc p
 have hd:=h.form;rw[<-h.lens]at hd;have:=Avy (z:=fs.flatten++z) h.pass rfl (hc.shape _ (Ah3 p)) hc.fit h.front h.le hd hl ht;rw[Qr]at this;exact this
theorem FileOf.Bb6:b.drop (O5 T p fs.length)=fs.flatten++z:=by
 have hd:=h.form;rw[<-h.lens]at hd;have e:O5 T p fs.length=T+(22+((if Vi p=2 then 8 else 0)+(4*fs.length+4))):=by unfold O5;omega
 have e2:4*fs.length+4=(tC (Ed fs)).length:=by rw[tP,Qr]
 rw[e,<-LW,hd,<-LW]
 conv=>lhs;rw[<-cN (Vi p) c w r n,NF,<-LW,<-uV p,NF,e2,NF]
theorem FileOf.mom{k:Nat}(hk:k<fs.length):∃(m:Nat) (hk':k<(cW c r n x).length),Am (Al (Ah r) n) (k:Int)=some (m:Int)/\1<=m/\m<=4000/c/\ ((cW c r n x)[k]).length=m*c/\r! (w:Int) (cW c r n x)[k]/\ (XN c w r n x p)[k]'(by rw[<-h.cnt];exact hk)=Pp (w:Int) c (Lt p) (cW c r n x)[k]:=by
 have hc:=h.clip;have hlen:fs.length=(Al (Ah r) n).length:=by rw[h.cnt];exact uz p
 have hkf:k<(Al (Ah r) n).length:=F0
 have hk':k<(cW c r n x).length:=by rw[Aja];exact hkf
 have hm1:=UD (Es r) hc.cnt.1 _ (HA hkf);obtain⟨m,hm⟩:=HU (show 0<= (Al (Ah r) n)[k] by omega);have hg:=zN c hc.ch.1 _ x (UD (Es r) hc.cnt.1) (by rw[hc.sum,hc.len,F!]) k hkf hk';rw[hm,F!]at hg;have hmem:=uI hc _ (HA hk');have hx:=lD c hc.ch.1 _ x (UD (Es r) hc.cnt.1) (by rw[hc.sum,hc.len,F!]) _ (HA hk');have hg':((cW c r n x)[k]).length=m*c:=hg;refine⟨m,hk',by rw[Bt hkf,hm],F0,?_,hg',hmem.2.2.2,?_⟩
 ·have h1:=hx.2.1;have h2:m*c<=n*c:=by rw[<-hg',<-hc.len];exact h1
  have h3:m<=n:=Nat.le_of_mul_le_mul_right h2 hc.ch.1;exact RZ h3 hc.cnt.2
 ·simp only[XN,NB]
theorem FileOf.Bir{k:Nat}(hk:k<fs.length)(he:fs[k]=(XN c w r n x p)[k]'(by rw[<-h.cnt];exact hk)):
  Jk b p (Vi p) c w r n (O5 T p fs.length) (Ed fs) k=(Du (w:Int) ((cW c r n x).getD k []),0)/\jq w (Jk b p (Vi p) c w r n (O5 T p fs.length) (Ed fs) k)=(cW c r n x).getD k []:=by
 have hc:=h.clip;obtain⟨m,hk',h1,h2,h3,h4,h5,h6⟩:=h.mom hk;have hd:=(Alc hc.bits (Kt p) hc.ch.1 hc.ch.2 h2 h3 h4 h5).1;have hg:=Bfb h.Fh h.Bb6 hk h1 (by rw[he,h6];exact hd);have e:(cW c r n x).getD k []=(cW c r n x)[k]:=by rw[D9,HS hk'];rfl
 rw[e];exact hg.2 rfl
theorem FileOf.beh:bP b (O5 T p fs.length) (Ed fs)=(Oa z).2:=Aqk h.Bb6
end
theorem xH{c w r n:Nat}{x:LX}(h:ClipOk c w r n x){p:LB}(hp:p.length<=64):FileOf c w r n x p 0 (XN c w r n x p) [] (CP c w r n x p):=by
 refine⟨h,hp,Afq ?_,by have:=zS h p;omega,rfl,by rw[GY];rfl⟩;rw[CP,PA];rfl
theorem A? :∀(ys:List LX) (G:Nat->LX) (k:Nat),(∀i,i<ys.length->G (k+i)=ys.getD i [])->Wp G ys.length k=ys.flatten
 |[],G,k,_=>rfl
 |y::ys,G,k,h=>by
  have h0:=h 0 B7;have ih:=A? ys G (k+1) (λi hi=>by have:=h (i+1) B8;rw[show k+1+i=k+(i+1) by omega,this];simp);rw[G2,Wp,ih,NS,show k=k+0 from rfl,h0];rfl
theorem Agi{l:LI}(h:∀x∈l,0<=x){i j:Nat}(hij:i<=j):(l.take i).sum<= (l.take j).sum:=by
 obtain⟨d,rfl⟩:=j_ hij;rw[List.take_add,b_];have:=rE (l:=l.drop i) (λx hx=>h x (RQ hx)) d;omega
theorem T8{t z:LB}{i:Nat}(h:i<t.length):Tz (t++z) i=Tz t i:=by
 rw[Tz,Tz,D9,D9,HQ h]
theorem wO(t:LB)(a i:Nat):Tz (t.drop a) i=Tz t (a+i):=by
 rw[Tz,Tz,D9,D9,N?]
theorem Bcw{w:Nat}(hw:Bn (w:Int)){t z:LB}{a:Nat}(h:a+wB (w:Int)<=t.length):sx (wB (w:Int)) (t++z) a=sx (wB (w:Int)) t a:=by
 rcases hw with hw|hw|hw
 ·rw[hw]at h⊢;have e:wB 8=1:=rfl;rw[e]at h⊢;rw[sx,sx,B0 rfl,B0 rfl,T8 F0]
 ·rw[hw]at h⊢;have e:wB 16=2:=rfl;rw[e]at h⊢;rw[sx2,sx2,T8 F0,T8 F0]
 ·rw[hw]at h⊢;have e:wB 24=3:=rfl;rw[e]at h⊢;rw[sx3,sx3,T8 F0,T8 F0,T8 F0]
theorem Baq{w:Nat}(hw:Bn (w:Int))(t:LB)(a b:Nat):sx (wB (w:Int)) (t.drop a) b=sx (wB (w:Int)) t (a+b):=by
 rcases hw with hw|hw|hw
 ·rw[hw,show wB 8=1 from rfl,sx,sx,B0 rfl,B0 rfl,wO]
 ·rw[hw,show wB 16=2 from rfl,sx2,sx2,wO,wO];rfl
 ·rw[hw,show wB 24=3 from rfl,sx3,sx3,wO,wO,wO];rfl
theorem Anj{w:Nat}(hw:Bn (w:Int)){t z:LB}{m:Nat}(h:m*wB (w:Int)<=t.length):qE (wB (w:Int)) m (t++z)=qE (wB (w:Int)) m t:=by
 rw[qE,qE];apply TN;intro x hx;have hx:=List.mem_range.1 hx;have h2:(x+1)*wB (w:Int)<=m*wB (w:Int):=EK _ hx;rw[E9,IX]at h2;rw[Bcw hw F0]
theorem Azg{w:Nat}(hw:Bn (w:Int))(t:LB)(m j:Nat):qE (wB (w:Int)) (m+j) t=qE (wB (w:Int)) m t++qE (wB (w:Int)) j (t.drop (m*wB (w:Int))):=by
 rw[qE,qE,qE,List.range_add,NV,List.map_map];congr 1;apply TN;intro x hx
 show Int32.ofInt (sx (wB (w:Int)) t ((m+x)*wB (w:Int)))=_;rw[Baq hw,E9]
theorem Bdj{w:Nat}(hw:Bn (w:Int))(t:LB)(a:Nat): -(hB (w:Int))<=sx (wB (w:Int)) t a/\sx (wB (w:Int)) t a<hB (w:Int):=by
 have b0:=N3 t a;have b1:=N3 t (a+1);have b2:=N3 t (a+2);rcases hw with hw|hw|hw
 ·rw[hw,show wB 8=1 from rfl,show hB 8=128 from rfl,sx,B0 rfl];omega
 ·rw[hw,show wB 16=2 from rfl,show hB 16=32768 from rfl,sx2];split<;>omega
 ·rw[hw,show wB 24=3 from rfl,show hB 24=8388608 from rfl,sx3];split<;>omega
theorem Am9{w:Nat}(hw:Bn (w:Int))(m:Nat)(t:LB):r! (w:Int) (qE (wB (w:Int)) m t):=by
 intro x hx;rw[qE,k_]at hx;obtain⟨k,_,rfl⟩:=hx;have h:=Bdj hw t (k*wB (w:Int));have hh:=JH (w:Int);rw[tQ F0 F0];exact h
theorem wC(c L:Nat):∀(k:Nat) (x y:LX),k*(L*c)<=x.length->Ib c (x++y) (List.replicate k (L:Int))=Ib c x (List.replicate k (L:Int))
 |0,x,y,_=>rfl
 |k+1,x,y,h=>by
  rw[E9,IX]at h;rw[MG,Ib,Ib,F!,RJ F0,NN F0,wC c L k _ y M9]
theorem Q6(c:Nat):∀(l m:LI) (x:LX),(∀z∈l,0<=z)->Ib c x (l++m)=Ib c x l++Ib c (x.drop (l.sum.toNat*c)) m
 |[],m,x,_=>by simp[Ib]
 |z::l,m,x,h=>by
  have hz:=h z K3;have hl:0<=l.sum:=h! λy hy=>h y (I4 _ hy);rw[MS,Ib,Ib,Q6 c l m _ (λy hy=>h y (I4 _ hy)),MS,LW,I6,show(z+l.sum).toNat=z.toNat+l.sum.toNat by omega,E9]
theorem Ati(k L:Nat):∀z∈List.replicate k (L:Int),0<=z:=λz hz=>by rw[(List.mem_replicate.1 hz).2];omega
theorem L? (k L c:Nat):(List.replicate k (L:Int)).sum.toNat*c=k*(L*c):=by rw[ny,F!,I0]
theorem Akg(c L k:Nat)(x:LX)(h:x.length=(k+1)*(L*c)):Ib c x (List.replicate (k+1) (L:Int))=Ib c x (List.replicate k (L:Int))++[x.drop (k*(L*c))]:=by
 rw[u?,Q6 c _ _ _ (Ati k L),L?,Ib,Ib,F!,IU (by rw[H4,h,E9];omega)]
theorem SF{p:Prop}(h:p:=by rw[E9,IX];omega):p:=h
structure EncOk (c w r:Nat) (p:LB):Prop where
 ch:1<=c/\c<=6
 bits:Bn (w:Int)
 rate:1<=r/\r<=1048576
 pass:p.length<=64
def C9(c w:Nat):Nat:=c*wB (w:Int)
def nE(c w:Nat)(t:LB):Nat:=t.length/C9 c w
def XE(c w:Nat)(t:LB):LX:=qE (wB (w:Int)) (nE c w t*c) t
def RE(c w:Nat)(t:LB):LB:=t.drop (nE c w t*C9 c w)
def kE(c w r:Nat)(t:LB):Nat:=nE c w t/Ah r
def SE(c w r:Nat)(t:LB):LX:=(XE c w t).drop (kE c w r t*(Ah r*c))
def FE(c w r:Nat)(p t:LB):List LB:=(Ib c (XE c w t) (List.replicate (kE c w r t) (Ah r:Int))).map (Pp (w:Int) c (Lt p))
def RX(c r n:Nat):Prop:=n*c<=4000/\ (n=0\/ (n-1)/Ah r+1<=1000)
instance(c r n:Nat):Decidable (RX c r n):=by unfold RX;exact inferInstance
theorem RX.mono{c r n m:Nat}(h:RX c r n)(hm:m<=n):RX c r m:=by
 obtain⟨h1,h2⟩:=h;have h3:=EK c hm;have h4:(m-1)/Ah r<= (n-1)/Ah r:=jX F0;refine⟨F0,?_⟩;omega
section
variable {c w r:Nat} {p:LB} (h:EncOk c w r p) (t:LB)
include h
theorem V9:1<=C9 c w/\C9 c w<=18:=by
 have h1:=Z5 (w:Int);have h2:=h.ch;have h3:=N_ (show 0<c by omega) (show 0<wB (w:Int) by omega);have h4:c*wB (w:Int)<=6*3:=IP h2.2 h1.2;unfold C9;omega
theorem Ann:JI (c:Int) (w:Int)=some (C9 c w:Int):=by
 have h2:=h.ch;have hw3:w=8\/w=16\/w=24:=by have:=h.bits;unfold Bn at this;omega
 rcases hw3 with rfl|rfl|rfl
 ·show some (Bo (Bg (c:Int) (8:Int)) 8)=_;rw[Fo,show(c:Int)*8=((c*8:Nat):Int) by omega,show(8:Int)=((8:Nat):Int)from rfl,QJ,C9,show wB ((8:Nat):Int)=1 from rfl];congr 2;omega
 ·show some (Bo (Bg (c:Int) (16:Int)) 8)=_;rw[Fo,show(c:Int)*16=((c*16:Nat):Int) by omega,show(8:Int)=((8:Nat):Int)from rfl,QJ,C9,show wB ((16:Nat):Int)=2 from rfl];congr 2;omega
 ·show some (Bo (Bg (c:Int) (24:Int)) 8)=_;rw[Fo,show(c:Int)*24=((c*24:Nat):Int) by omega,show(8:Int)=((8:Nat):Int)from rfl,QJ,C9,show wB ((24:Nat):Int)=3 from rfl];congr 2;omega
theorem Y9:t.length=nE c w t*C9 c w+(RE c w t).length/\ (RE c w t).length<C9 c w:=by
 have hs:=V9 h;have h1:=NW t.length (C9 c w);have h2:=I7 t.length (show 0<C9 c w by omega);rw[G?]at h1;have e:(RE c w t).length=t.length-nE c w t*C9 c w:=by rw[RE,H4]
 have e2:nE c w t*C9 c w=t.length/C9 c w*C9 c w:=rfl;omega
omit h in
theorem zY:(XE c w t).length=nE c w t*c:=J9 _ _ _
theorem f_:r! (w:Int) (XE c w t):=Am9 h.bits _ _
theorem U?:nE c w t=kE c w r t*Ah r+nE c w t %Ah r/\nE c w t %Ah r<Ah r:=by
 have _:=h;have hp:=Es r;have h1:=NW (nE c w t) (Ah r);rw[G?]at h1;exact⟨h1.symm,I7 _ F0⟩
theorem zJ:(SE c w r t).length=nE c w t %Ah r*c:=by
 have h1:=(U? h t).1;rw[SE,H4,zY]
 conv=>lhs;rw[h1]
 rw[E9,<-I0,P']
omit h in
theorem U_:(FE c w r p t).length=kE c w r t:=by rw[FE,kV,cL,HR]
theorem Bce(b:UInt8)(hl:(RE c w t).length+1<C9 c w):nE c w (t++[b])=nE c w t/\XE c w (t++[b])=XE c w t/\RE c w (t++[b])=RE c w t++[b]:=by
 have h1:=Y9 h t;have hs:=V9 h;have hn:nE c w (t++[b])=nE c w t:=by
  rw[nE,CR,NO];exact RW F0 SF
 refine⟨hn,?_,?_⟩
 ·rw[XE,hn,XE];exact Anj h.bits (by
   have e:nE c w t*c*wB (w:Int)=nE c w t*C9 c w:=by rw[C9,I0]
   rw[e];omega)
 ·rw[RE,hn,RE,NN F0]
theorem Bcb(b:UInt8)(hl:¬(RE c w t).length+1<C9 c w):(RE c w t).length+1=C9 c w/\nE c w (t++[b])=nE c w t+1/\XE c w (t++[b])=XE c w t++qE (wB (w:Int)) c (RE c w t++[b])/\RE c w (t++[b])=[]:=by
 have h1:=Y9 h t;have hs:=V9 h;have hn:nE c w (t++[b])=nE c w t+1:=by
  rw[nE,CR,NO];exact RW SF (by rw[E9,E9,IX];omega)
 have e:nE c w t*c*wB (w:Int)=nE c w t*C9 c w:=by rw[C9,I0]
 refine⟨F0,hn,?_,?_⟩
 ·rw[XE,hn,E9,IX,Azg h.bits,Anj h.bits (by rw[e];omega),e,NN F0];rfl
 ·rw[RE,hn,RN];rw[CR,NO,E9,IX];omega
theorem dU:kE c w r t*(Ah r*c)<= (XE c w t).length:=by
 have h1:=(U? h t).1;rw[zY]
 conv=>rhs;rw[h1]
 rw[E9,<-I0];omega
theorem Bfw{b:UInt8}(hl:(RE c w t).length+1<C9 c w):kE c w r (t++[b])=kE c w r t/\SE c w r (t++[b])=SE c w r t/\FE c w r p (t++[b])=FE c w r p t:=by
 obtain⟨h1,h2,h3⟩:=Bce h t b hl;have hk:kE c w r (t++[b])=kE c w r t:=by rw[kE,h1,kE]
 exact⟨hk,by rw[SE,hk,h2,SE],by rw[FE,hk,h2,FE]⟩
theorem Bg1{b:UInt8}(hl:¬(RE c w t).length+1<C9 c w):
  ((SE c w r t++qE (wB (w:Int)) c (RE c w t++[b])).length<Ah r*c->kE c w r (t++[b])=kE c w r t/\SE c w r (t++[b])=SE c w r t++qE (wB (w:Int)) c (RE c w t++[b])/\FE c w r p (t++[b])=FE c w r p t)/\
  (¬(SE c w r t++qE (wB (w:Int)) c (RE c w t++[b])).length<Ah r*c-> (SE c w r t++qE (wB (w:Int)) c (RE c w t++[b])).length=Ah r*c/\kE c w r (t++[b])=kE c w r t+1/\SE c w r (t++[b])=[]/\FE c w r p (t++[b])=FE c w r p t++[Pp (w:Int) c (Lt p) (SE c w r t++qE (wB (w:Int)) c (RE c w t++[b]))]):=by
 obtain⟨_,h1,h2,h3⟩:=Bcb h t b hl;obtain⟨d1,d2⟩:=U? h t;have hsl:=zJ h t;have hc:=h.ch;have hp:=Es r;have hdk:=dU h t;have hlen:(SE c w r t++qE (wB (w:Int)) c (RE c w t++[b])).length=(nE c w t %Ah r+1)*c:=by rw[CR,hsl,J9,E9,IX]
 rw[hlen];constructor
 ·intro hlt;have hlt2:nE c w t %Ah r+1<Ah r:=Nat.lt_of_mul_lt_mul_right hlt;have hk:kE c w r (t++[b])=kE c w r t:=by
   rw[kE,h1];exact RW F0 SF
  refine⟨hk,?_,?_⟩
  ·rw[SE,hk,h2,NN hdk,SE]
  ·rw[FE,hk,h2,wC c (Ah r) _ _ _ hdk,FE]
 ·intro hge;have Bnm:Ah r<=nE c w t %Ah r+1:=by
   refine v! λhh=>hge ?_;exact sY hh hc.1
  have heq:nE c w t %Ah r+1=Ah r:=F0
  have hk:kE c w r (t++[b])=kE c w r t+1:=by
   rw[kE,h1];exact RW SF (by rw[E9,E9,IX];omega)
  have hXl:(XE c w (t++[b])).length=(kE c w r t+1)*(Ah r*c):=by
   rw[zY,h1,<-I0];congr 1;rw[E9,IX];omega
  refine⟨by rw[heq],hk,?_,?_⟩
  ·rw[SE,hk,<-hXl,MT]
  ·rw[FE,hk,Akg c (Ah r) _ _ hXl,NV,h2,wC c (Ah r) _ _ _ hdk,NN hdk,FE];rfl
theorem Av8(hR:RX c r (nE c w t)):∀f∈FE c w r p t,5<=f.length/\f.length<= (81*(Ah r*c)+7)/8+4:=by
 intro f hf;obtain⟨y,hy,rfl⟩:=List.mem_map.1 hf;have hx:(XE c w t).take (kE c w r t*(Ah r*c))++(XE c w t).drop (kE c w r t*(Ah r*c))=XE c w t:=N2 _ _;have hdk:=dU h t;have hpr:=wC c (Ah r) (kE c w r t) ((XE c w t).take (kE c w r t*(Ah r*c))) ((XE c w t).drop (kE c w r t*(Ah r*c))) T_;rw[hx]at hpr;rw[hpr]at hy;have hp:=Es r;obtain⟨k,hk,hk2⟩:=uA hy;have hl1:∀z∈List.replicate (kE c w r t) (Ah r:Int),1<=z:=λz hz=>by rw[(List.mem_replicate.1 hz).2];omega
 have hlx:((XE c w t).take (kE c w r t*(Ah r*c))).length=(List.replicate (kE c w r t) (Ah r:Int)).sum.toNat*c:=by rw[L?,G!];omega
 have hg:=zN c h.ch.1 _ _ hl1 hlx k (by rw[cL]at hk;exact hk) hk;rw[hk2,List.getElem_replicate,F!]at hg;obtain⟨a1,a2,_,_⟩:=lD c h.ch.1 _ _ hl1 hlx y hy;have hle:y.length<=4000:=by
  have:=hR.1;have h2:((XE c w t).take (kE c w r t*(Ah r*c))).length<= (XE c w t).length:=by rw[G!];omega
  rw[zY]at h2;omega
 have h5:=I9 (w:Int) c (Lt p) y a1 hle;have he:=iG c (Mp (w:Int) c (Lt p) y) y.length;refine⟨h5.1,?_⟩;rw[Pp,CR,Cf,UZ,Uy,<-hg];omega
omit h in
theorem x_(b:List LB)(f a M:Int)(hM:Ad (Bo (Ad (Bg (Bg 81 f) a) 7) 8) 4=M)(hb:b.length<=100000)(hm:∀y∈b,5<=y.length/\ (y.length:Int)<=M):∀(j i q:Nat),i+j=b.length->j<q->Ll b f a q (i:Int)=some true
 |j,i,0,_,h=>absurd h (K6 _)
 |0,i,q+1,hi,_=>by
  rw[Ll,Uf,B! C2];rfl
 |j+1,i,q+1,hi,hq=>by
  have ih:=x_ b f a M hM hb hm j (i+1) q F0 F0;have hy:=hm b[i] (HA _);have hi1:Ad (i:Int) 1=((i+1:Nat):Int):=by rw[Ak];omega
  rw[Ll,Uf,B0 C2,Bt,Aa,CW,DS,hM,B! (by simp[Af,Aq,Ac];omega),DF,Ald,hi1];exact ih
theorem xw:EI (c:Int) (w:Int) (r:Int) p=some ((Ah r:Int),true):=by
 have hp:=h.pass;rw[EI,vE h.rate.1 h.rate.2,Aa];simp only;rw[qD h.bits h.ch.1 h.ch.2,Aa];simp[Ar,WU,Ac];omega
theorem W7(hR:RX c r (nE c w t))(p' m' n':LB)(u:Bool)(v k o:Int):Xv (c:Int) k o p' m' (SE c w r t) (FE c w r p t) n' u v (Ah r:Int)=some (nE c w t:Int):=by
 have hc:=h.ch;obtain⟨d1,d2⟩:=U? h t;have hsl:=zJ h t;have hlt:=SX h.rate.2;have hn:nE c w t<=4000:=by
  have:=hR.1;have:nE c w t*1<=nE c w t*c:=RU _ hc.1;omega
 have e1:Bg (Ac (FE c w r p t)) (Ah r:Int)=((kE c w r t*Ah r:Nat):Int):=by
  rw[Ac,U_,Fo KE KE,<-K7]
 have e2:Bo (Ac (SE c w r t)) (c:Int)=((nE c w t %Ah r:Nat):Int):=by
  rw[Ac,hsl,QJ (by
   have:nE c w t %Ah r*c<=nE c w t*c:=EK _ (N0 _ _);have:=hR.1;omega),X9 _ F0]
 rw[Xv,Bl F_,Aa,e1,e2,Ak];congr 1;omega
theorem Aqg(hR:RX c r (nE c w t)):QR (c:Int) (w:Int) (r:Int) p (RE c w t) (SE c w r t) (FE c w r p t) [] false 0=some 0:=by
 have hc:=h.ch;have hw:=h.bits;obtain⟨d1,d2⟩:=U? h t;have hsl:=zJ h t;have htl:=Y9 h t;have hlt:=SX h.rate.2;have hp:=Es r;have hfl:=U_ (c:=c) (w:=w) (r:=r) (p:=p) t;have hn4:=hR.1;have hmod:nE c w t %Ah r*c<=nE c w t*c:=EK _ (N0 _ _);have hn:nE c w t<=4000:=by
  have:nE c w t*1<=nE c w t*c:=RU _ hc.1;omega
 have hfr:kE c w r t+(if 0<nE c w t %Ah r then 1 else 0)<=1000:=by
  rcases hR.2 with h0|h0
  ·have:kE c w r t=0:=by rw[kE,h0];exact kr _
   rw[h0,Nat.zero_mod,this];decide
  ·generalize hq:Ah r=L at*
   have hk:kE c w r t=nE c w t/L:=by rw[kE,hq]
   by_cases hz:0<nE c w t %L
   ·rw[B0 hz];have:(nE c w t-1)/L=kE c w r t:=RW F0 SF;omega
   ·rw[B! hz];by_cases hk0:kE c w r t=0
    ·omega
    ·obtain⟨k',hk'⟩:∃k',kE c w r t=k'+1:=⟨kE c w r t-1,F0⟩;rw[hk',E9,IX]at d1;have:(nE c w t-1)/L=k':=RW F0 SF;omega
 have hcnt:=W7 h t hR p (RE c w t) [] false 0 (w:Int) (r:Int);have hin:r! (w:Int) (SE c w r t):=λv hv=>f_ h t v (RQ hv);have hwc:Sr (w:Int) (SE c w r t)=some 0:=by rw[bC hw _ F0,YK hw F0 hin]
 have hroom:∀k:Int,k<=1000->Xf (c:Int) (w:Int) (r:Int) p (RE c w t) (SE c w r t) (FE c w r p t) [] false 0 k (nE c w t:Int)=some true:=by
  intro k hk;rw[Xf,Fo KE KE,<-K7];simp[WU];omega
 have hLc:Ah r*c<=1100000*6:=IP F0 hc.2;have hM:Ad (Bo (Ad (Bg (Bg 81 (Ah r:Int)) (c:Int)) 7) 8) 4=(((81*(Ah r*c)+7)/8+4:Nat):Int):=by
  have e1:Bg 81 (Ah r:Int)=((81*Ah r:Nat):Int):=by rw[Fo];omega
  have e2:Bg ((81*Ah r:Nat):Int) (c:Int)=((81*(Ah r*c):Nat):Int):=by
   rw[Fo (by rw[<-K7,I0];omega) (by rw[<-K7,I0];omega),<-K7,I0]
  rw[e1,e2,Ak (a:=((81*(Ah r*c):Nat):Int)) (b:=7) F0 F0,show((81*(Ah r*c):Nat):Int)+7=((81*(Ah r*c)+7:Nat):Int) by omega,show(8:Int)=((8:Nat):Int)from rfl,QJ,Ak];omega
 have hloop:=x_ (FE c w r p t) (Ah r:Int) (c:Int) _ hM F0 (λy hy=>by
  have:=Av8 h t hR y hy;omega) (FE c w r p t).length 0 Au F0 D1
 have Bh9:FA (c:Int) (w:Int) (r:Int) p (RE c w t) (SE c w r t) (FE c w r p t) [] false 0 (Ah r:Int)=some true:=by
  have Bki:Bo (Ac (SE c w r t)) (c:Int)=((nE c w t %Ah r:Nat):Int):=by
   rw[Ac,hsl,QJ,X9 _ F0]
  have Bkj:Gz (Ac (SE c w r t)) (c:Int)=0:=by rw[Ac,hsl,JB,KB];rfl
  have hkk:kE c w r t<=1000:=by split at hfr<;>omega
  rw[FA,FV,B! B6,Ann h,Aa,B! (by rw[Eh,Ac];simp;omega),Bl F_,Aa,Bkj,B! B6,Aa,Bki,B! (by simp[Eh,Aq,Ac,hfl];omega),DA,DI,hwc,Aa,B! B6];by_cases hz:0<nE c w t %Ah r
  ·rw[B0 hz]at hfr;have hpos:=N_ hz (show 0<c by omega);rw[B0 E4,Uc,Ub,hcnt,Aa,Ac,hfl,Ak,hroom _ F0,Aa,B! B6,Um,Ua,CX];exact hloop
  ·have h0:nE c w t %Ah r=0:=F0
   rw[h0,TS]at hsl;rw[B! (by rw[Aq,Ac];simp only[D!];omega),Uc,Ub,hcnt,Aa,Ac,hfl,hroom _ F0,Aa,B! B6,Um,Ua,CX];exact hloop
 rw[QR,xw h,Aa];simp only;rw[B! B6,B! B6,B! B6,Bh9,Aa,B! B6]
end
theorem Bla(a:List LB)(ha:∀y∈a,y.length<=17179869184)(w:List LB)(hw:w.length=a.length)(ha2:a.length<=100000)(b f g:Int)(h:LB)(k:Bool)(m:Int)(n:LB)(o:LX)(p:LB):∀(j i q:Nat),i+j=a.length->j<q->Sk w a b f g h k m n o p q (i:Int) a=some (b,f,g,h,n,o,a,p,k,m)
 |j,i,0,_,h=>absurd h (K6 _)
 |0,i,q+1,hi,_=>by
  have hc:XF w a=a:=by rw[XF,hw,ID,RN F0,GY]
  rw[Sk,FM,hc,B! C2];rfl
 |j+1,i,q+1,hi,hq=>by
  have ih:=Bla a ha w hw ha2 b f g h k m n o p j (i+1) q F0 F0;have hc:XF w a=a:=by rw[XF,hw,ID,RN F0,GY]
  have hi1:Ad (i:Int) 1=((i+1:Nat):Int):=by rw[Ak];omega
  have hy:=ha a[i] (HA _);rw[Sk,FM,hc,B0 C2,Bt,Aa,Aa,Ca,Bi (by simpa using hy),Aa,Aa,Aa,HB,Ww _ F0,Aa,List.set_getElem_self,hi1];exact ih
theorem Av0{a:List LB}(ha:∀y∈a,y.length<=17179869184)(ha2:a.length<=100000)(b f g:Int)(h:LB){x:LB}{s:LX}{z:LB}(hx:x.length<=17179869184)(hs:s.length<=17179869184)(hz:z.length<=17179869184)(k:Bool)(m:Int):XZ b f g h x s a z k m=some (b,f,g,h,x,s,a,z,k,m):=by
 have hl:=Bla a ha (List.replicate a.length []) (by rw[HR]) ha2 b f g h k m x s z a.length 0 Au F0 D1;have hc:XF (List.replicate a.length []) a=a:=by rw[XF,HR,ID,RN (by rw[HR];omega),GY]
 rw[XZ,US,Ca,Bi (by simpa using hx),Aa,Aa,Dr,Bi (by simpa using hs),Aa,Aa,Ca,Bi (by simpa using hz),Aa,Aa,VC,VI,oW M! M!,Aa,Bl SL,Aa];simp only[HB,Ac,F!,hc];exact hl
section
variable {c w r:Nat} {p:LB} (h:EncOk c w r p)
include h
theorem xK(t:LB)(hR:RX c r (nE c w t)):EM (c:Int) (w:Int) (r:Int) p (RE c w t) (SE c w r t) (FE c w r p t) [] false 0=some ((c:Int),(w:Int),(r:Int),p,RE c w t,SE c w r t,FE c w r p t,[],false,0,(Ah r:Int),0):=by
 have h1:=Y9 h t;have hs:=V9 h;have hsl:=zJ h t;have hfl:=U_ (c:=c) (w:=w) (r:=r) (p:=p) t;have hn4:=hR.1;have hmod:nE c w t %Ah r*c<=nE c w t*c:=EK _ (N0 _ _);have hn:nE c w t<=4000:=by
  have:nE c w t*1<=nE c w t*c:=RU _ h.ch.1;omega
 have hk:kE c w r t<=nE c w t:=HP _ _;have hlt:=SX h.rate.2;have hLc:Ah r*c<=1100000*6:=IP F0 h.ch.2;have htw:=Av0 (a:=FE c w r p t) (λy hy=>by have:=Av8 h t hR y hy;omega) F0 (c:Int) (w:Int) (r:Int) p (x:=RE c w t) (s:=SE c w r t) (z:=[]) F0 F0 B7 false 0;rw[EM,OJ,Aqg h t hR,Aa,B! B6,vE h.rate.1 h.rate.2,Aa];simp only;rw[B! B6,B! B6,QN,Axx,htw,Aa]
abbrev Bip:=Int×Int×Int×LB×LB×LX×(List LB)×LB×Bool×Int×Int
def Z8(c w r:Nat)(p t:LB):Bip:=if RX c r (nE c w t)then((c:Int),(w:Int),(r:Int),p,RE c w t,SE c w r t,FE c w r p t,[],false,0,0)else((c:Int),(w:Int),(r:Int),p,[],[],[],[],false,18,18)
theorem Blt(t b:LB)(hb:b.length<=1000000):∀(j u q:Nat) (T:LB),u+j=b.length->j<q->T=t++b.take u->RX c r (nE c w T)->Jp (C9 c w:Int) b (c:Int) (w:Int) (r:Int) p false 0 (Ah r:Int) [] q (u:Int) (RE c w T) (SE c w r T) (FE c w r p T)=some (Z8 c w r p (t++b))
 |j,u,0,T,_,h,_,_=>absurd h (K6 _)
 |0,u,q+1,T,hu,_,hT,hR=>by
  rw[IU F0]at hT;rw[Jp,CM,B! C2,QL,Ay1,Z8,<-hT,B0 hR]
 |j+1,u,q+1,T,hu,hq,hT,hR=>by
  have hc:=h.ch;have hs:=V9 h;have hu1:Ad (u:Int) 1=((u+1:Nat):Int):=by rw[Ak];omega
  have hT':T++[b[u]' F0]=t++b.take (u+1):=by rw[hT,Ms F0,E?]
  have hpre:(T++[b[u]' F0]).length<= (t++b).length:=by rw[hT',CR,CR,G!];omega
  have hmono:nE c w (T++[b[u]' F0])<=nE c w (t++b):=jX hpre;have hgd:Am b (u:Int)=some (b[u]' F0):=Bt;generalize b[u]' F0=d at hT' hpre hmono hgd⊢;have ih:=Blt t b hb j (u+1) q (T++[d]) F0 F0 hT';have htl:=Y9 h T;have hsl:=zJ h T;have hfl:=U_ (c:=c) (w:=w) (r:=r) (p:=p) T;have hn4:=hR.1;have hmod:nE c w T %Ah r*c<=nE c w T*c:=EK _ (N0 _ _);have hn:nE c w T<=4000:=by
   have:nE c w T*1<=nE c w T*c:=RU _ hc.1;omega
  have hk:kE c w r T<=nE c w T:=HP _ _;have hlt:=SX h.rate.2;rw[Jp,CM,B0 C2,hgd,Aa,Bi B8,Aa];by_cases hlt1:(RE c w T).length+1<C9 c w
  ·obtain⟨m1,m2,m3⟩:=Bce h T d hlt1;obtain⟨g1,g2,g3⟩:=Bfw h T (b:=d) hlt1;rw[m1,m3,g2,g3]at ih;rw[B0 (by rw[Af,Ac,CR,NO];simp;omega),Qb,BW,hu1];exact ih hR
  ·obtain⟨m0,m1,m2,m3⟩:=Bcb h T d hlt1;obtain⟨g1,g2⟩:=Bg1 h T (b:=d) hlt1;have hcnt:=W7 h T hR p (RE c w T++[d]) [] false 0 (w:Int) (r:Int);have hroom:Xf (c:Int) (w:Int) (r:Int) p (RE c w T++[d]) (SE c w r T) (FE c w r p T) [] false 0 (Ad (Ac (FE c w r p T)) 1) (Ad (nE c w T:Int) 1)=some (decide ((kE c w r T:Int)+1<=1000)&&decide ((((nE c w T+1)*c:Nat):Int)<=4000)):=by
    have hle:(nE c w T+1)*c<=4001*6:=IP F0 hc.2;rw[Xf,Ac,hfl,Ak,Ak,show(nE c w T:Int)+1=((nE c w T+1:Nat):Int) by omega,Fo KE KE,<-K7,WU,WU]
   rw[B! (by rw[Af,Ac,CR,NO];simp;omega),hcnt,Aa,hroom,Aa];by_cases hok:kE c w r T+1<=1000/\ (nE c w T+1)*c<=4000
   ·have hR':RX c r (nE c w (T++[d])):=by rw[m1];exact⟨hok.2, .inr (by rw[tS];exact hok.1)⟩
    have ih:=ih hR';have Bkk:=Aa4 (RE c w T++[d]) h.bits (m:=c) (by rw[CR,NO,m0];rfl) F0;have hLc:Ah r*c<=1100000*6:=IP F0 hc.2;have hmul:Bg (Ah r:Int) (c:Int)=((Ah r*c:Nat):Int):=by rw[Fo KE KE,<-K7]
    rw[B! (by rw[L8 (show(kE c w r T:Int)+1<=1000 by omega),L8 (show(((nE c w T+1)*c:Nat):Int)<=4000 by omega)];decide),OS,OR,Bkk,Aa];simp only;rw[B! B6,Bi (by rw[J9];omega),Aa,hmul];by_cases hfull:(SE c w r T++qE (wB (w:Int)) c (RE c w T++[d])).length<Ah r*c
    ·obtain⟨k1,k2,k3⟩:=g1 hfull;rw[m3,k2,k3]at ih;rw[B0 (by rw[Af,Ac];simp only[D!];omega),Jz,Vf,B! B6,Qb,BW,hu1];exact ih
    ·obtain⟨k0,k1,k2,k3⟩:=g2 hfull;rw[m3,k2,k3]at ih;have hXl:Ah r*c<=4000:=by
      have e:=hR'.1;have hlen:(XE c w (T++[d])).length=nE c w (T++[d])*c:=zY (T++[d]);have hdk:=dU (r:=r) h (T++[d]);rw[k1,E9,IX]at hdk;omega
     have hin:r! (w:Int) (SE c w r T++qE (wB (w:Int)) c (RE c w T++[d])):=by
      intro v hv;rw[bX]at hv;rcases hv with hv|hv
      ·exact f_ h T v (RQ hv)
      ·exact Am9 h.bits _ _ v hv
     have hLp:=N_ (Es r) hc.1;have henc:=Acy (t:=Lt p) (x:=SE c w r T++qE (wB (w:Int)) c (RE c w T++[d])) h.bits (Kt p) hc.1 hc.2 F0 F0 (by rw[k0];exact KB _ _) hin;rw[B! (by rw[Af,Ac];simp only[D!];omega),jL p h.pass,Aa];simp only;rw[B! B6,henc,Aa];simp only;rw[B! B6,Bi B8,Aa,PC,QE,Jz,Vf,B! B6,Qb,BW,hu1];exact ih
   ·have hno:¬RX c r (nE c w (t++b)):=by
     intro hh;have:=hh.mono hmono;rw[m1]at this;obtain⟨z1,z2⟩:=this;apply hok;rw[tS]at z2;have hkE:kE c w r T=nE c w T/Ah r:=rfl;omega
    rw[B0 (by
     rw[IC,Bool.and_eq_false_iff,MF,MF];omega),Jz,Vf,B0 B6,Xa,Aa,Z8,B! hno]
theorem Axb(t b:LB)(hb:b.length<=1000000)(hR:RX c r (nE c w t)):XK (c:Int) (w:Int) (r:Int) p (RE c w t) (SE c w r t) (FE c w r p t) [] false 0 b=some (Z8 c w r p (t++b)):=by
 have hl:=Blt h t b hb b.length 0 Au t F0 D1 B7 hR;rw[XK,VV,xK h t hR,Aa];simp only;rw[B! B6,Ann h,Aa,Bb7];exact hl
theorem Ba7:eB (c:Int) (w:Int) (r:Int) p=some ((c:Int),(w:Int),(r:Int),p,RE c w [],SE c w r [],FE c w r p [],[],false,0,0):=by
 have h0:nE c w []=0:=kr _;have hk:kE c w r []=0:=by rw[kE,h0];exact kr _
 rw[eB,xw h,Aa];simp only;rw[B! B6,RE,SE,FE,XE,hk,h0];simp[qE,Ib]
omit h in
theorem Arw(c r:Nat):RX c r 0:=⟨F0, .inl rfl⟩
end
theorem Bk7(l:List LB)(hf:l.flatten.length<=1000000)(hl:l.length<=1000000)(v:LB)(hfin:Fe l (l.flatten.length:Int)=some v):∀(j i q:Nat),i+j=l.length->j<q->Cz l q (((l.take i).flatten.length:Nat):Int) (i:Int)=some v
 |j,i,0,_,h=>absurd h (K6 _)
 |0,i,q+1,hi,_=>by
  rw[Cz,Ej,B! C2,IU F0];exact hfin
 |j+1,i,q+1,hi,hq=>by
  have ih:=Bk7 l hf hl v hfin j (i+1) q F0 F0;have hi1:Ad (i:Int) 1=((i+1:Nat):Int):=by rw[Ak];omega
  have hsn:(l.take (i+1)).flatten=(l.take i).flatten++l[i]:=by rw[Ms F0,TP];simp
  have hsp:l.flatten=(l.take (i+1)).flatten++(l.drop (i+1)).flatten:=by rw[<-TP,N2]
  have hle:((l.take i).flatten).length+(l[i]).length<=1000000:=by
   rw[hsp,CR,hsn,CR]at hf;omega
  have hadd:Ad (((l.take i).flatten.length:Nat):Int) (Ac l[i])=(((l.take (i+1)).flatten.length:Nat):Int):=by
   rw[Ac,Ak,hsn,CR];omega
  rw[Cz,Ej,B0 C2,Bt,Aa,hadd,B! (by rw[Af];simp only[D!];omega),hi1];exact ih
theorem Bfs(l:List LB)(hf:l.flatten.length<=1000000)(hl:l.length<=1000000):∀(j i q:Nat),i+j=l.length->j<q->Cu l q (i:Int) (l.take i).flatten=some l.flatten
 |j,i,0,_,h=>absurd h (K6 _)
 |0,i,q+1,hi,_=>by
  rw[Cu,Eb,B! C2,IU F0];rfl
 |j+1,i,q+1,hi,hq=>by
  have ih:=Bfs l hf hl j (i+1) q F0 F0;have hi1:Ad (i:Int) 1=((i+1:Nat):Int):=by rw[Ak];omega
  have hsn:(l.take (i+1)).flatten=(l.take i).flatten++l[i]:=by rw[Ms F0,TP];simp
  have hsp:l.flatten=(l.take (i+1)).flatten++(l.drop (i+1)).flatten:=by rw[<-TP,N2]
  have hle:((l.take i).flatten).length+(l[i]).length<=1000000:=by
   rw[hsp,CR,hsn,CR]at hf;omega
  rw[Cu,Eb,B0 C2,Bt,Aa,Bi,Aa,hi1,<-hsn];exact ih
theorem Aln(l:List LB)(hf:l.flatten.length<=1000000)(hl:l.length<=1000000):Fp l=some l.flatten:=by
 have h3:Fc l []=some l.flatten:=by
  rw[Fc,Ka,Pm];exact Bfs l hf hl l.length 0 Au F0 D1
 have h11:Fe l (l.flatten.length:Int)=some l.flatten:=by
  have z:Ap (0:Int) 0=0:=B6
  rw[Fe,Kb,B! (by rw[Af];simp only[D!];omega),Kf,Ke,z,Bu,Int.sub_zero];by_cases hp:0<l.flatten.length
  ·rw[B0 (by rw[Aq];simp only[D!];omega),show jB (0:Int) 0 0=some ()from rfl,Aa,oW,Aa,Bi (by simp only[NU,HR];omega),Aa];rw[show jB (Ac ([]++List.replicate ((l.flatten.length:Nat):Int).toNat (0:UInt8))) 0 0=some () by rw[jB,Bl];simp[Ac],Aa];simp only[aW,cQ,lG,JP];exact h3
  ·rw[B! (by rw[Aq];simp only[D!];omega)];exact h3
 have:=Bk7 l hf hl _ h11 l.length 0 Au F0 D1;exact this
theorem Ajw{p:LB}(hp:p.length<=64):RG p=some ((Vi p:Int),0):=by
 rw[RG,B! E4,Vi];by_cases h:p=[]
 ·rw[B0 (by rw[Ar,Ac,h];rfl),B0 h];rfl
 ·have:p.length≠0:=λe=>h (LJ e);rw[B! (by rw[Ar,Ac,G3];omega),B! h];rfl
theorem Aem(a:List LB)(ha:a.length<=100000)(f g h:Int)(b k:LB)(m:LX)(n:LB)(o:Bool)(p:Int)(u v:LB)(hfin:Xo f g h b k m a n o p u (Ed a)=some (v,0)):∀(j i q:Nat),i+j=a.length->j<q->Sj a f g h b k m n o p u q (i:Int) (Ed (a.take i))=some (v,0)
 |j,i,0,_,h=>absurd h (K6 _)
 |0,i,q+1,hi,_=>by
  rw[Sj,EZ,B! C2,IU F0];exact hfin
 |j+1,i,q+1,hi,hq=>by
  have ih:=Aem a ha f g h b k m n o p u v hfin j (i+1) q F0 F0;have hi1:Ad (i:Int) 1=((i+1:Nat):Int):=by rw[Ak];omega
  have hll:(Ed (a.take i)).length=i:=by rw[Qr,G!];omega
  have hsn:Ed (a.take i)++[Ac a[i]]=Ed (a.take (i+1)):=by rw[Ms F0,Ed,Ed,NV];rfl
  rw[Sj,EZ,B0 C2,Bt,Aa,Bi B8,Aa,hsn,hi1];exact ih
theorem Ahz{c w r n:Nat}{x:LX}(h:ClipOk c w r n x){p:LB}(hp:p.length<=64)(k:LB)(m:LX)(n':LB)(o:Bool)(e:Int):YD (c:Int) (w:Int) (r:Int) p k m (XN c w r n x p) n' o e (n:Int)=some (CP c w r n x p,0):=by
 have hn:=qZ h p;have hl:=zS h p;have hlen:=Q0 (c:=c) (w:=w) (r:=r) (n:=n) (x:=x) p;have hdl:=uV p;have hfin:Xo (c:Int) (w:Int) (r:Int) p k m (XN c w r n x p) n' o e (VF (Vi p) c w r n++G8 p) (Ed (XN c w r n x p))=some (CP c w r n x p,0):=by
  have hh:=cN (Vi p) c w r n;have ht:=tP (Ed (XN c w r n x p));have hll:=Qr (XN c w r n x p);rw[Xo,EY,Ajf,B0 (Age h p),Aa];simp only;rw[B! B6,Bi LG,Aa,Aln _ F0 F0,Aa,Bi (by rw[CR,CR];omega),Aa];simp[CP]
 have hlp:=Aem (XN c w r n x p) F0 (c:Int) (w:Int) (r:Int) p k m n' o e (VF (Vi p) c w r n++G8 p) _ hfin (XN c w r n x p).length 0 Au F0 D1;rw[YD,UM,Ajw hp,Aa];simp only;rw[B! B6,Aet (h.shape _ (Ah3 p)) h.fit,Aa];simp only;rw[B! B6];by_cases h0:p=[]
 ·have e2:G8 p=[]:=by rw[G8,B0 h0]
  rw[e2,GY]at hlp;rw[B! (by simp[h0]),ES,FN];exact hlp
 ·have e2:G8 p=Tm (Vx p).toNat 8:=by rw[G8,B! h0]
  rw[e2]at hlp;rw[B0 (by simpa using h0),vM p hp,Aa];simp only;rw[B! B6,Bi (by rw[cN,Cf];omega),Aa,ES,FN];exact hlp
section
variable {c w r:Nat} {p:LB} (h:EncOk c w r p) (t:LB) (hR:RX c r (nE c w t))
include h hR
theorem Awf(h1:1<=nE c w t):ClipOk c w r (nE c w t) (XE c w t):=by
 have hc:=h.ch;refine⟨hc,h.bits,h.rate,⟨h1,?_⟩,zY t,?_,f_ h t⟩
 ·rw[Nat.le_div_iff_mul_le F0];exact hR.1
 ·rcases hR.2 with h0|h0
  ·omega
  ·exact h0
omit hR in
theorem Ake(h1:1<=nE c w t):XN c w r (nE c w t) (XE c w t) p=FE c w r p t++(if SE c w r t=[]then []else [Pp (w:Int) c (Lt p) (SE c w r t)]):=by
 have hc:=h.ch;have hp:=Es r;obtain⟨d1,d2⟩:=U? h t;have hsl:=zJ h t;have key:cW c r (nE c w t) (XE c w t)=Ib c (XE c w t) (List.replicate (kE c w r t) (Ah r:Int))++(if SE c w r t=[]then []else [SE c w r t]):=by
  by_cases hz:nE c w t %Ah r=0
  ·have hS:SE c w r t=[]:=LJ (by rw[hsl,hz,TS]);rw[B0 hS,GY,cW];congr 1;rw[hz,J6]at d1;have hk1:1<=kE c w r t:=by
    rcases WX (kE c w r t)with h0|h0
    ·rw[h0,TS]at d1;omega
    ·exact h0
   obtain⟨k',hk'⟩:∃k',kE c w r t=k'+1:=⟨kE c w r t-1,F0⟩;have hd:(nE c w t-1)/Ah r=k':=by
    rw[hk',E9,IX]at d1;exact RW F0 SF
   rw[Al,hd,hk',u?];congr 2;rw[hk',E9,IX]at d1;omega
  ·have hS:SE c w r t≠ []:=by
    intro e;have:=congrArg List.length e;rw[hsl,NU]at this;rcases Nat.mul_eq_zero.1 this with h0|h0<;>omega
   have hd:(nE c w t-1)/Ah r=kE c w r t:=RW F0 SF;have hdk:=dU (r:=r) h t;rw[B! hS,cW,Al,hd,Q6 c _ _ _ (Ati _ _),L?,Ib,Ib,F!];congr 2;rw[IU]
   ·rfl
   ·rw[H4,zY,<-I0,<-NY];exact E1 _
 rw[XN,key,NV,FE];congr 1;split<;>rfl
theorem Alh:JC (c:Int) (w:Int) (r:Int) p (RE c w t) (SE c w r t) (FE c w r p t) [] false 0=
  some (if RE c w t≠ []\/nE c w t=0 then((c:Int),(w:Int),(r:Int),p,[],[],[],[],false,24,24)else((c:Int),(w:Int),(r:Int),p,[],[],[],CP c w r (nE c w t) (XE c w t) p,true,0,0)):=by
 have hc:=h.ch;have hsl:=zJ h t;have hfl:=U_ (c:=c) (w:=w) (r:=r) (p:=p) t;have hn4:=hR.1;have hmod:nE c w t %Ah r*c<=nE c w t*c:=EK _ (N0 _ _);have hn:nE c w t<=4000:=by
  have:nE c w t*1<=nE c w t*c:=RU _ hc.1;omega
 have hk:kE c w r t<=nE c w t:=HP _ _;rw[JC,MK,xK h t hR,Aa];simp only;rw[B! B6,W7 h t hR,Aa];by_cases hbad:RE c w t≠ []\/nE c w t=0
 ·have hcond:((Ei (Ac (RE c w t)) 0)||(geq (nE c w t:Int) 0))=true:=by
   rcases hbad with h0|h0
   ·have:RE c w t≠ []:=h0;have hl:0<(RE c w t).length:=List.length_pos_iff.2 this;rw[Aq,Ac,HV];left;simpa using hl
   ·rw[h0];simp[Ar]
  rw[B0 hbad,B0 hcond,Xa,Aa]
 ·have hR0:RE c w t=[]:=by
   by_cases h0:RE c w t=[]
   ·exact h0
   ·exact absurd (.inl h0) hbad
  have hn1:1<=nE c w t:=by
   rcases WX (nE c w t)with h0|h0
   ·exact absurd (.inr h0) hbad
   ·exact h0
  have hcl:=Awf h t hR hn1;have hfr:=Ake h t hn1;have hcond:¬(((Ei (Ac (RE c w t)) 0)||(geq (nE c w t:Int) 0))=true):=by rw[hR0];simp[Aq,Ar,Ac];omega
  rw[B! hbad,B! hcond];by_cases hS:SE c w r t=[]
  ·rw[B0 hS,GY]at hfr;have hf:=Ahz hcl h.pass (RE c w t) (SE c w r t) [] false 0;rw[hfr]at hf;rw[B! (by rw[hS];decide),Td,JK,hf,Aa];simp only;rw[B! B6]
  ·rw[B! hS]at hfr;have hl:0<(SE c w r t).length:=List.length_pos_iff.2 hS;have hin:r! (w:Int) (SE c w r t):=λv hv=>f_ h t v (RQ hv);have henc:=Acy (t:=Lt p) (x:=SE c w r t) h.bits (Kt p) hc.1 hc.2 F0 F0 (by rw[hsl];exact KB _ _) hin;have hf:=Ahz hcl h.pass (RE c w t) [] [] false 0;rw[hfr]at hf;rw[B0 (by rw[Aq,Ac];simpa using hl),jL p h.pass,Aa];simp only;rw[B! B6,henc,Aa];simp only;rw[B! B6,Bi B8,Aa,KJ,JR,B! B6,Td,JK,hf,Aa];simp only;rw[B! B6]
end
def Cd(e:Int):Prop:=e=0\/e=4\/e=12\/e=16\/e=22\/e=24\/e=26\/e=38
instance(e:Int):Decidable (Cd e):=by unfold Cd;infer_instance
theorem Cd.nn{e:Int}(h:Cd e):0<=e:=by unfold Cd at h;omega
theorem Bc1(p:LB)(N a k:Nat):Cd (YU p N a k).2.2:=by
 unfold YU
 repeat' split
 all_goals first|decide|exact .inl rfl
theorem Be5(p:LB)(N a k l:Nat):Cd (gU p N a k l).2.2:=by
 have h:=Bc1 p N (a+1) l;unfold gU
 repeat' split
 all_goals first|exact h|decide|exact .inl rfl
theorem Am0(ch:Nat)(p:LB)(N:Nat):∀(j a:Nat) (out:LU),Cd (Xr ch p N j a out).2.2
 |0,a,out=>by rw[Xr];exact .inl rfl
 |j+1,a,out=>by
  rw[Xr];split
  ·exact Be5 ..
  ·exact Am0 ch p N j _ _
theorem Atr(b:LB):Cd (Vz b):=by
 unfold Vz
 repeat' split
 all_goals first|decide|exact .inl rfl
theorem xg(a:LX)(b:Int):∀(q:Nat) (i e:Int),Ba a b q i=some e->Cd e
 |0,_,_,h=>by rw[Ba]at h;cases h
 |q+1,i,e,h=>by
  rw[Ba,Cx]at h;split at h
  ·cases hg:Am a i with
   |none=>rw[hg]at h;cases h
   |some g=>
    rw[hg,Aa]at h;split at h
    ·cases h;decide
    ·rw[Aa]at h;split at h
     ·cases h;decide
     ·exact xg a b q _ e h
  ·cases h;decide
theorem Akb{bits:Int}{a:LX}{e:Int}(hb:Bn bits)(h:Ay bits a=some e):Cd e:=by
 rw[Ay,Dx]at h;rw[WJ hb,Aa,B! (by have:=JH bits;rw[Ar];simp;omega)]at h;split at h
 ·cases h;decide
 ·exact xg a _ _ _ e h
theorem yX{bits:Int}{ch n:Nat}{t:LX}{b:LB}(hb:Bn bits)(ht:t.length=16)(h1:1<=ch)(h6:ch<=6)(n1:1<=n)(n2:n<=4000/ch){l:LX}{e:Int}
  (h:Dq (ch:Int) bits t (n:Int) b=some (l,e)):Cd e:=by
 have hn:n*ch<=4000:=by
  have:=EK ch n2;have h2:=LK 4000 ch;omega
 have hq4:=D4 h1 h6;generalize 4000/ch=mm at*
 have hh:=JH bits;have n? :Dm (ch:Int) bits (n:Int)=some 0:=by
  rw[Dm,Dc,B! HM,WJ hb,Aa,B! GZ,Aa,B! TX,Bl F_,Aa,hq4,B! G6]
 rw[Dq,Pv,n?,Aa,B! D3,zF,Aa]at h;by_cases hs:Vz b≠0
 ·rw[B0 (by rw[Aj];simpa using hs)]at h;simp only[Aa]at h;cases h;exact Atr b
 have hs0:Vz b=0:=by simpa using hs
 have hlen:=Aiy hs0;have e4:Ap (Ac b) 4=((b.length-4:Nat):Int):=by rw[Ac,Bu];omega
 rw[B! (by rw[Aj,hs0];simp),e4,Dv,Aa,show((b.length-4:Nat):Int).toNat=b.length-4 from rfl]at h;have hpl:(b.take (b.length-4)).length=b.length-4:=by simp
 generalize b.take (b.length-4)=p at*
 have hr:=oE (N:=8*p.length) (p:=p) rfl F0 h1 h6 hn;have hV:=Am0 ch p (8*p.length) (n*ch) 0 [];have hat:=rz (ch:=ch) (p:=p) (N:=8*p.length) (n*ch) 0 [] F0;rw[hr,Aa]at h;generalize Xr ch p (8*p.length) (n*ch) 0 []=V at*
 obtain⟨v,at',er⟩:=V;simp only at*
 by_cases he:er≠0
 ·rw[B0 he]at h;simp only at h;rw[Hz,Ig,B0 (by rw[Aj];simpa using he)]at h;cases h;exact hV
 have he0:er=0:=by simpa using he
 have hvl:=hat.2.2 he0;simp only[NU,HL]at hvl;rw[B! he]at h;simp only at h;rw[Hz,Ig]at h;split at h
 ·cases h;decide
 ·rw[B! B6]at h;have hm:v.length %ch=0:=by rw[hvl];exact KB n ch
  obtain⟨l',e',g1,g2,g3,g4,g5⟩:=Abp (v:=v) hb ht h1 h6 F0 hm;rw[g1,Aa,g2,Aa]at h;have:=Akb hb g4;by_cases hl:e'≠0
  ·rw[B0 hl]at h;cases h;exact this
  ·rw[B! hl]at h;cases h;decide
theorem vK{bits:Int}{ch n:Nat}{t:LX}{b:LB}(hb:Bn bits)(ht:t.length=16)(h1:1<=ch)(h6:ch<=6)(n1:1<=n)(n2:n<=4000/ch){l:LX}{e:Int}
  (h:Dq (ch:Int) bits t (n:Int) b=some (l,e)):0<=e:=(yX hb ht h1 h6 n1 n2 h).nn
def shI(f c w r n:Int):Bool:=decide ((f=1\/f=2)/\ (1<=c/\c<=6)/\ (w=8\/w=16\/w=24)/\ (1<=r/\r<=1048576)/\1<=n)
theorem Aws(f c w r n:Int):Tn f c w r n=some (shI f c w r n):=by
 have e2:Qf f c w r n=some (decide ((f=1\/f=2)/\ (1<=c/\c<=6)/\ (1<=r/\r<=1048576)/\1<=n)):=by
  rw[Qf,PB];congr 1;rw[F?];simp only[Ar,Aq,WU,CT,HV,G3,D!];omega
 have g:∀k:Int,geq w k=decide (w=k):=λk=>by rw[Ar,F?];simp
 rw[Tn,BT,e2,g,g,g,shI];by_cases h8:w=8
 ·subst h8;simp
 ·by_cases h16:w=16
  ·subst h16;simp
  ·by_cases h24:w=24
   ·subst h24;simp
   ·simp[h8,h16,h24]
theorem Baz(f c w r n:Int):Lk f c w r n=some (shI f c w r n):=by
 rw[Lk,shI];simp only[Ar,Eh,WU,CT,HV,G3,D!,S6];split
 ·rename_i h;congr 1;rw[F?];simp only[CT,HV,G3,D!];omega
 ·rename_i h;congr 1;symm;rw[MF];omega
structure HdI (f c w r n:Int) (F C W R N:Nat):Prop where
 ef:f=F
 ec:c=C
 ew:w=W
 er:r=R
 en:n=N
 shape:Fx F C W R N=true
 fit:Xl C R N=true
theorem Asb(f c w r n:Int):(∃F C W R N:Nat,HdI f c w r n F C W R N)\/ (Na f c w r n=some 8/\Ee f c w r n=some ([],8)):=by
 by_cases h:shI f c w r n=true
 ·have h':=h;simp only[shI,D!]at h';obtain⟨F,rfl⟩:=HU (show 0<=f by omega);obtain⟨C,rfl⟩:=HU (show 0<=c by omega);obtain⟨W,rfl⟩:=HU (show 0<=w by omega);obtain⟨R,rfl⟩:=HU (show 0<=r by omega);obtain⟨N,rfl⟩:=HU (show 0<=n by omega);have hs:Fx F C W R N=true:=by simp only[Fx,D!];omega
  by_cases hf:Xl C R N=true
  ·exact .inl ⟨F,C,W,R,N,rfl,rfl,rfl,rfl,rfl,hs,hf⟩
  ·have hf':Xl C R N=false:=by simpa using hf
   refine .inr ⟨?_,?_⟩
   ·rw[Na,B9,Aa,hs,B! B7,k? hs,Aa,hf'];rfl
   ·rw[Ee,Pj,dG,Aa,hs,B! B7,vS hs,Aa,hf'];rfl
 ·have h':shI f c w r n=false:=by simpa using h
  refine .inr ⟨?_,?_⟩
  ·rw[Na,Baz,Aa,h'];rfl
  ·rw[Ee,Pj,Aws,Aa,h'];rfl
theorem HdI.check{f c w r n:Int}{F C W R N:Nat}(h:HdI f c w r n F C W R N):Na f c w r n=some 0:=by
 obtain⟨rfl,rfl,rfl,rfl,rfl,hs,hf⟩:=h;rw[Na,B9,Aa,hs,B! B7,k? hs,Aa,hf];rfl
theorem HdI.P7{f c w r n:Int}{F C W R N:Nat}(h:HdI f c w r n F C W R N):Ee f c w r n=some (Al (Ah R) N,0):=by
 obtain⟨rfl,rfl,rfl,rfl,rfl,hs,hf⟩:=h;exact sP hs hf
theorem HdI.num{f c w r n:Int}{F C W R N:Nat}(h:HdI f c w r n F C W R N):(F=1\/F=2)/\ (1<=C/\C<=6)/\ (W=8\/W=16\/W=24)/\ (1<=R/\R<=1048576)/\1<=N/\N<=4000/C/\N<=4000/\ (N-1)/Ah R+1<=1000:=by
 obtain⟨rfl,rfl,rfl,rfl,rfl,hs,hf⟩:=h;simp only[Fx,D!]at hs;simp only[Xl,D!]at hf;have hd:4000/C<=4000:=HP _ _;omega
theorem HdI.OB{f c w r n:Int}{F C W R N:Nat}(h:HdI f c w r n F C W R N):Hn f c w r n=some (Al (Ah R) N):=by
 have hn:=h.num;obtain⟨rfl,rfl,rfl,rfl,rfl,hs,hf⟩:=h;rw[Hn,jE F0 F0 F0];rfl
section
variable {f c w r n:Nat} (h1:Fx f c w r n=true) (h2:Xl c r n=true)
include h1 h2
theorem x!(k:Nat)(hk:k<= (Al (Ah r) n).length):∀(j i q:Nat),i+j=k->j<q->Nq (k:Int) (f:Int) (c:Int) (w:Int) (r:Int) (n:Int) (Al (Ah r) n) q (((Al (Ah r) n).take i).sum) (i:Int)=some (IA c w (Al (Ah r) n) k)
 |0,i,q+1,hi,_=>by
  obtain⟨hc,hw,hr,hn,_⟩:=Mh h1;obtain⟨g1,g2,g3⟩:=PZ h1 h2;have b:=mY g1 i;obtain rfl:i=k:=F0
  have hb:((Al (Ah r) n).take i).sum.toNat*(c*wB (w:Int))<=4000*(6*3):=IP F0 (IP hc.2 (Z5 (w:Int)).2);rw[Nq,AJ,B! I_,Aez,Aj6,Gc,Aa];simp only;rw[Alf,Ben hc.2 hw,Aa,IA];have e:((Al (Ah r) n).take i).sum=((((Al (Ah r) n).take i).sum.toNat:Nat):Int):=F0
  rw[e,Fo KE KE,<-K7];rfl
 |j+1,i,q+1,hi,hq=>by
  obtain⟨g1,g2,g3⟩:=PZ h1 h2;have hK:=L! h2;have hlt:i<(Al (Ah r) n).length:=F0
  have b1:=mY g1 i;have b2:=mY g1 (i+1);have e:=Kj hlt;have ih:=x! k hk j (i+1) q F0 F0;rw[e]at ih;rw[Nq,AJ,B0 D2,Bt hlt,Aa,Aa,Ak,Ak];exact ih
theorem Afv(k:Nat)(hk:k<= (Al (Ah r) n).length):Zp (f:Int) (c:Int) (w:Int) (r:Int) (n:Int) (k:Int)=some (IA c w (Al (Ah r) n) k):=by
 have hK:=L! h2;obtain⟨g1,g2,g3⟩:=PZ h1 h2;obtain⟨hc,hw,hr,hn,_⟩:=Mh h1;have h:=x! h1 h2 k hk k 0 Au F0 D1;rw[JP,MX]at h;rw[Zp,Ahn,Hn,jE hr.2 hn g3,Aa,Aa];exact h
theorem Akd{i:Nat}(hlt:i<(Al (Ah r) n).length):Ad (IA c w (Al (Ah r) n) i) (Bo (Bg (Bg ((Al (Ah r) n)[i]) (c:Int)) (w:Int)) 8)=IA c w (Al (Ah r) n) (i+1):=by
 obtain⟨hc,hw,hr,hn,_⟩:=Mh h1;obtain⟨g1,g2,g3⟩:=PZ h1 h2;have b1:=mY g1 i;have b2:=mY g1 (i+1);have e:=Kj hlt;have h0:=g1 _ (HA hlt);have e2:(Al (Ah r) n)[i]=(((Al (Ah r) n)[i].toNat:Nat):Int):=F0
 have hb:((Al (Ah r) n).take (i+1)).sum.toNat*(c*wB (w:Int))<=4000*(6*3):=IP F0 (IP hc.2 (Z5 (w:Int)).2);rw[e2,Be9 F0 hc.2 hw,IA,IA];have e3:((Al (Ah r) n).take (i+1)).sum.toNat=((Al (Ah r) n).take i).sum.toNat+(Al (Ah r) n)[i].toNat:=F0
 rw[e3,E9]at hb⊢;rw[Ak];omega
theorem xC(a:Nat)(ha:a<= (Al (Ah r) n).length)(o p:LB)(m:LI)(a':Int)(N:LB)(u:Bool)(v:Int):∀(j i q:Nat),i+j=a->j<q->
  Sf ((Al (Ah r) n).take a) o p (f:Int) (c:Int) (w:Int) (r:Int) (n:Int) m a' N u v q (IA c w (Al (Ah r) n) i) (i:Int)=some (T9 (Ac N) (IA c w (Al (Ah r) n) a))
 |0,i,q+1,hi,_=>by
  obtain rfl:i=a:=F0
  rw[Sf,EU,B! (by rw[Af,Ac,G!];simp;omega),VM,Bew]
 |j+1,i,q+1,hi,hq=>by
  have hK:=L! h2;have hlt:i<(Al (Ah r) n).length:=F0
  have hlt2:i<((Al (Ah r) n).take a).length:=by rw[G!];omega
  have ih:=xC a ha o p m a' N u v j (i+1) q F0 F0;rw[Sf,EU,B0 C2,Bt hlt2,Aa,jh,Akd h1 h2 hlt,Ak];exact ih
end
theorem cY{p:Prop}(h:p:=by simp[Aj,Af,Aq,Ac];omega):p:=h
theorem uf(l:List α):geq (Ac l) 0=decide (l=[]):=by
 cases l with
 |nil=>rfl
 |cons x l=>rw[Ar,Ac,G2,K5 B7,jm];omega
theorem oL(l:List α):Ei (Ac l) 0=decide (l≠ []):=by
 cases l with
 |nil=>rfl
 |cons x l=>rw[Aq,Ac,G2,L8 B7];simp
inductive FitD (o:LB) (f c w r n:Int) (g:LI) (a:Int) (x:LB):Prop
 |new:f=0->c=0->w=0->r=0->n=0->g=[]->a=0->x=[]->FitD o f c w r n g a x
 |head (F C W R N:Nat):HdI f c w r n F C W R N-> (o==([]:LB))=decide (F=1)->g=[]->a=0->x=[]->FitD o f c w r n g a x
 |tab (F C W R N A:Nat):HdI f c w r n F C W R N-> (o==([]:LB))=decide (F=1)->Vs g=true->g.length=(Al (Ah R) N).length->a=A->A<=g.length->FitD o f c w r n g a x
theorem Alb(f c w r n:Int)(o:LB):Qs f c w r n o=Fa f c w r n o:=rfl
theorem Ajv(o p:LB)(f c w r n:Int)(g:LI)(a:Int)(x:LB)(u:Bool)(v:Int):
  (BS o p f c w r n g a x u v=some false/\Mz o p f c w r n g a x u v=some false)\/
  (BS o p f c w r n g a x u v=some true/\Mz o p f c w r n g a x u v=Cw o p f c w r n g a x u v/\FitD o f c w r n g a x):=by
 rw[BS,VS,Mz,Yv];by_cases hz:f=0/\c=0/\w=0/\r=0/\n=0
 ·obtain⟨rfl,rfl,rfl,rfl,rfl⟩:=hz;rw[B0 B6,B0 B6,uf,uf,oL,oL];by_cases h:g=[]/\a=0/\x=[]
  ·obtain⟨rfl,rfl,rfl⟩:=h;exact .inr ⟨rfl,by rw[B! B6], .new rfl rfl rfl rfl rfl rfl rfl rfl⟩
  ·refine .inl ⟨?_,?_⟩
   ·congr 1;rw[Bool.eq_false_iff];intro e;simp only[CT,D!,Ar,G3]at e;exact h ⟨e.1.1,e.1.2,e.2⟩
   ·rw[B0];simp only[HV,D!,Aj,N1];by_cases e1:g=[]
    ·by_cases e2:a=0
     ·exact .inr λe3=>h ⟨e1,e2,e3⟩
     ·exact .inl (.inr e2)
    ·exact .inl (.inl e1)
 ·have hz2:¬(((geq f 0)&&((geq c 0)&&((geq w 0)&&((geq r 0)&&((geq n 0)&&true)))))=true):=by
   simp only[CT,Ar,G3,M4];exact hz
  rw[B! hz2,B! hz2];rcases Asb f c w r n with⟨F,C,W,R,N,h⟩|⟨e1,e2⟩
  ·rw[h.P7,h.check,Aa,Aa,Alb];simp only;rw[B! B6,B! B6,Fa];have hf:geq f 1=decide (F=1):=by rw[h.ef,Ar,F?];simp;omega
   rw[hf];by_cases hp:(o==([]:LB))=decide (F=1)
   ·rw[B! (by rw[hp];simp),Aa,Aa,B! B6,B! B6,VK,VL,Rm,Rk,uf,uf,oL];by_cases hg:g=[]
    ·subst hg;rw[B0 B7,B0 B7];by_cases h':a=0/\x=[]
     ·obtain⟨rfl,rfl⟩:=h';exact .inr ⟨rfl,by rw[B! B6], .head F C W R N h hp rfl rfl rfl⟩
     ·refine .inl ⟨?_,?_⟩
      ·congr 1;rw[Bool.eq_false_iff];intro e;simp only[CT,D!,Ar,G3]at e;exact h' e
      ·rw[B0];simp only[HV,D!,Aj,N1];by_cases e2:a=0
       ·exact .inr λe3=>h' ⟨e2,e3⟩
       ·exact .inl e2
    ·rw[B! (by simpa using hg),B! (by simpa using hg),YS,fT,Aa,Aa];by_cases ht:Vs g=true
     ·rw[B0 ht,h.OB];simp only[Aa];by_cases hl:g.length=(Al (Ah R) N).length/\0<=a/\a<=g.length
      ·obtain⟨hl,ha0,ha1⟩:=hl;obtain⟨A,rfl⟩:=HU ha0;have hA:A<= (Al (Ah R) N).length:=F0
       rw[B! cY,B! B6,B! cY,Dv,Aa,Bfq];have hh:=h;clear hf;obtain⟨rfl,rfl,rfl,rfl,rfl,hs,hf⟩:=hh;have hlp:=xC hs hf A hA o p g (A:Int) x u v A 0 Au F0 (by have:=As;have:=L! hf;omega);have h0:IA C W (Al (Ah R) N) 0=0:=by rw[IA,JP,MX];simp
       rw[h0,show((0:Nat):Int)=0 from rfl]at hlp;rw[show((A:Int)).toNat=A from rfl,hlp,Afv hs hf A hA,Aa];by_cases hx:(x.length:Int)<=IA C W (Al (Ah R) N) A
       ·refine .inr ⟨?_,?_, .tab F C W R N A h hp ht hl rfl F0⟩
        ·rw[WU,Ac,L8 hx]
        ·rw[B! E4]
       ·refine .inl ⟨?_,?_⟩
        ·rw[WU,Ac,K5 hx]
        ·rw[B0 E4]
      ·refine .inl ⟨?_,?_⟩
       ·rw[B0 cY]
       ·rw[B! B6,B0 cY]
     ·refine .inl ⟨?_,?_⟩
      ·rw[B! ht,B0 U!]
      ·rw[B! ht,B0 B6,B0 B7]
   ·rw[B0 (by simpa using hp),Aa,Aa,B0 B6,B0 B6];exact .inl ⟨rfl,rfl⟩
  ·rw[e1,e2,Aa,Aa];simp only;rw[B0 B6,B0 B6];exact .inl ⟨rfl,rfl⟩
theorem Ave(b:LB)(n:Int):Cd (iT b n).2:=by
 unfold iT
 repeat' split
 all_goals first|decide|exact .inl rfl
theorem At4(b:LB):(Zk b).2=6\/Cd (Zk b).2:=by
 unfold Zk ko
 repeat' split
 all_goals first|exact .inl rfl|exact .inr (Ave _ _)|exact .inr B6
theorem Apt(b:LB):(Lw b).2=6\/Cd (Lw b).2:=by
 unfold Lw
 repeat' split
 all_goals first|exact .inl rfl|exact .inr (.inl rfl)|exact .inr B6
theorem Avs(b:LB):(Df b).2=6\/Cd (Df b).2:=by
 unfold Df;split
 ·exact At4 b
 ·exact Apt b
theorem xE(b:LB):∀(j p:Nat),p<=b.length->b.length<j+p->Cd (Cq b j p).2
 |0,p,h1,h2=>by omega
 |j+1,p,h1,h2=>by
  rw[Cq];split
  ·exact .inl rfl
  ·rename_i h6;split
   ·exact(Avs _).resolve_left h6
   ·rename_i h0;split
    ·exact(by decide:Cd 4)
    ·have hz:Df (b.drop p)=((Df (b.drop p)).1,0):=by rw[kZ];exact⟨rfl,by simpa using h0⟩
     obtain⟨k1,k2⟩:=tL hz;rw[H4]at k2;split
     ·exact .inl rfl
     ·exact xE b j _ F0 F0
theorem S1(b:LB):Cd (Bp b).2:=by
 unfold Bp D_;split
 ·exact .inl rfl
 ·exact xE b _ _ F0 F0
theorem Q7(b:LB):0<= (Bp b).2:=(S1 b).nn
theorem b? (b:LB):Cd (Ep b).2.2.2.2.2:=by
 unfold Ep
 repeat' split
 all_goals first|decide|exact .inl rfl
theorem z!(b:LB):0<= (Ep b).2.2.2.2.2:=(b? b).nn
theorem Axj(b:LB){n:Nat}(h:1<=n/\n<=1000):Cd (Eo b n).2:=by
 unfold Eo;rw[B! (λe=>e h)]
 repeat' split
 all_goals first|decide|exact .inl rfl
theorem J? (b:LB)(n:Nat):0<= (Eo b n).2:=by
 unfold Eo
 repeat' split
 all_goals simp
def Y5:LB:=[73,68,51]
def pq:LB:=[65,80,69,84,65,71,69,88]
def Pu(b s:LB):Bool:=decide (b.length<s.length)&&(b==s.take b.length)
theorem Acg(b s:LB):Uj b s=some (Pu b s):=by
 rw[Uj,Pu];by_cases h:b.length<s.length
 ·rw[B0 O!,Ac,Dv,Aa,L8 h,JY];rfl
 ·rw[B! O!,K5 h];rfl
theorem Av4(b s:LB)(h:b.length<s.length):Kn s b=some (Pu b s):=by
 rw[Kn,Ic,B0 wT,Ac,Dv,Aa,Aa,Pu,L8 h,JY,F!];congr 1;rw[F?,G3,G3];exact eq_comm
theorem vI{b s:LB}(h:¬b.length<s.length):Pu b s=false:=by rw[Pu,K5 h];rfl
theorem Avo(b:LB):Tl b=some (Pu b Y5||Pu b pq):=by
 obtain⟨q,hq⟩:∃q,Au=q+3:=⟨Au-3,by have:=As;omega⟩;have l3:Lq b (q+1) 2=some false:=by rw[Lq,Xk,B! B6];rfl
 have l2:Lq b (q+2) 1=some (Pu b pq):=by
  rw[Lq,Xk,B0 B6,show Am ([([73,68,51]:LB),([65,80,69,84,65,71,69,88]:LB)]:List LB) 1=some pq from rfl,Aa,show Ad (1:Int) 1=2 from rfl];by_cases h:b.length<pq.length
  ·rw[B0 O!,Av4 b pq h,Aa];by_cases hb:Pu b pq=true
   ·rw[B0 hb,hb]
   ·rw[B! hb,l3];simpa using hb
  ·rw[B! O!,l3,vI h]
 rw[Tl,VP,Bfh,hq,Lq,Xk,B0 B6,show Am ([([73,68,51]:LB),([65,80,69,84,65,71,69,88]:LB)]:List LB) 0=some Y5 from rfl,Aa,show Ad (0:Int) 1=1 from rfl];by_cases h:b.length<Y5.length
 ·rw[B0 O!,Av4 b Y5 h,Aa];by_cases hb:Pu b Y5=true
  ·rw[B0 hb,hb];rfl
  ·rw[B! hb,l2,Bool.eq_false_iff.2 hb];rfl
 ·rw[B! O!,l2,vI h];rfl
def stS(b:LB):Int×Int×Int×Int×Int×Int×Int:=
 if(Bp b).2=24 then(0,0,0,0,0,0, -1)else if(Bp b).2≠0 then(0,0,0,0,0,0,(Bp b).2)else
 if(Pu (Iy b) Y5||Pu (Iy b) pq)=true then(0,0,0,0,0,0, -1)else
 if(Ep (Iy b)).2.2.2.2.2=24 then(0,0,0,0,0,0, -1)else((Bp b).1+22,(Ep (Iy b)).1,(Ep (Iy b)).2.1,(Ep (Iy b)).2.2.1,(Ep (Iy b)).2.2.2.1,(Ep (Iy b)).2.2.2.2.1,(Ep (Iy b)).2.2.2.2.2)
theorem AE(b:LB)(hb:b.length<=100000):AX b=some (stS b):=by
 rw[AX,Aaw,CD b F0,Aa,stS];have hok:=BP (b:=b);simp only;by_cases h1:(Bp b).2=24
 ·rw[B0 (by rw[Ar];simpa using h1),B0 h1]
 rw[B! (by rw[Ar];simpa using h1),B! h1];by_cases h2:(Bp b).2≠0
 ·rw[B0 (by rw[Aj];simpa using h2),B0 h2]
 have h0:(Bp b).2=0:=by simpa using h2
 obtain⟨k1,k2,k3⟩:=hok h0;rw[B! (by rw[Aj,h0];simp),B! h2,Cb,Aa,Acg,Aa,show b.drop (Bp b).1.toNat=Iy b from rfl,show([73,68,51]:LB)=Y5 from rfl,show([65,80,69,84,65,71,69,88]:LB)=pq from rfl];by_cases h3:Pu (Iy b) Y5=true
 ·rw[B0 h3,h3,Bool.true_or,B0 rfl]
 rw[B! h3,Acg,Aa,Bool.eq_false_iff.2 h3,w?];by_cases h4:Pu (Iy b) pq=true
 ·rw[B0 h4,B0 h4]
 have hl:(Iy b).length<=b.length:=by rw[Iy,H4];omega
 rw[B! h4,B! h4,Aar,Ab0,iK _ F0,Aa];simp only;by_cases h5:(Ep (Iy b)).2.2.2.2.2=24
 ·rw[B0 (by rw[Ar];simpa using h5),B0 h5]
 ·rw[B! (by rw[Ar];simpa using h5),B! h5,Ak]
theorem wV{p:Prop}(h:p:=by simp[Y5];omega):p:=h
theorem wW{p:Prop}(h:p:=by simp[pq];omega):p:=h
theorem Pe{p q:LB}{n:Nat}(h:n<=p.length):(p++q).take n=p.take n:=by rw[RJ h]
theorem E7{p q:LB}{i:Nat}(h:i<p.length):(p++q).getD i 0=p.getD i 0:=by
 rw[D9,HQ h,<-D9]
theorem Ti{p q:LB}{a w:Nat}(h:a+w<=p.length:=by omega):part (p++q) a w=part p a w:=by rw[part,Pe h,part]
theorem Atn{p q s:LB}(h:Pu p s=false)(hl:p.length<s.length):(p++q).take s.length≠s:=by
 intro e;rw[Pu,L8 hl,JY]at h;have h1:p=s.take p.length:=by
  have:=congrArg (List.take p.length) e;rw[S?,J5 F0,Pe (E1 _),ID]at this;exact this
 rw[<-h1]at h;simp at h
theorem xJ{p:LB}(q:LB)(h:(Zk p).2≠24)(h6:Pu p Y5=false):Zk (p++q)=Zk p:=by
 unfold Zk at h⊢;by_cases h3:3<=p.length/\p.take 3=[73,68,51]
 ·have h3':3<= (p++q).length/\ (p++q).take 3=[73,68,51]:=⟨by rw[CR];omega,by rw[Pe h3.1];exact h3.2⟩;have n1:¬ ¬(3<=p.length/\p.take 3=[73,68,51]):=λf=>f h3;have n2:¬ ¬(3<= (p++q).length/\ (p++q).take 3=[73,68,51]):=λf=>f h3';rw[B! n1]at h;rw[B! n1,B! n2];by_cases h10:p.length<10
  ·rw[B0 h10]at h;exact absurd rfl h
  ·have h10':¬(p++q).length<10:=by rw[CR];omega
   rw[B! h10]at h;rw[B! h10,B! h10',Ti,E7 F0,E7 F0,E7 F0];split
   ·rfl
   ·rename_i hc;rw[B! hc]at h;unfold ko iT at h⊢;rw[E7 F0];generalize(fU (part p 6 4) 0).1+10+(if p.getD 5 0=16 then 10 else 0)=n at h⊢;by_cases c1:4000<n
    ·rw[B0 c1,B0 c1]
    ·rw[B! c1]at h;rw[B! c1,B! c1];by_cases c2:(p.length:Int)<n
     ·rw[B0 c2]at h;exact absurd rfl h
     ·have c2':¬((p++q).length:Int)<n:=by rw[CR];omega
      rw[B! c2,B! c2',Pe F0,Ti]
 ·rw[B0 h3,B0];rintro⟨_,h5⟩;by_cases hl:3<=p.length
  ·rw[Pe hl]at h5;exact h3 ⟨hl,h5⟩
  ·exact Atn h6 wV h5
theorem Akk{p:LB}(q:LB)(h:(Lw p).2≠24)(h6:Pu p pq=false):Lw (p++q)=Lw p:=by
 unfold Lw at h⊢;by_cases h3:8<=p.length/\p.take 8=qd
 ·have h3':8<= (p++q).length/\ (p++q).take 8=qd:=⟨by rw[CR];omega,by rw[Pe h3.1];exact h3.2⟩;have n1:¬ ¬(8<=p.length/\p.take 8=qd):=λf=>f h3;have n2:¬ ¬(8<= (p++q).length/\ (p++q).take 8=qd):=λf=>f h3';rw[B! n1]at h;rw[B! n1,B! n2];by_cases h10:p.length<32
  ·rw[B0 h10]at h;exact absurd rfl h
  ·have h10':¬(p++q).length<32:=by rw[CR];omega
   have eb:IE (p++q)=IE p:=by rw[IE,IE,Ti,Ti]
   rw[B! h10]at h;rw[B! h10,B! h10',Ti,Ti,eb,Pe (n:=32) F0];split
   ·rfl
   ·rename_i hc;rw[B! hc]at h;by_cases c2:p.length<Gf (part p 12 4)+32
    ·rw[B0 c2]at h;exact absurd rfl h
    ·have c2':¬(p++q).length<Gf (part p 12 4)+32:=by rw[CR];omega
     rw[B! c2,B! c2',Pe F0]
 ·rw[B0 h3,B0];rintro⟨_,h5⟩;by_cases hl:8<=p.length
  ·rw[Pe hl]at h5;exact h3 ⟨hl,h5⟩
  ·exact Atn h6 wW h5
theorem P5{p:LB}(q:LB)(h:(Df p).2≠24)(h6:(Df p).2=6->Pu p Y5=false/\Pu p pq=false):Df (p++q)=Df p:=by
 have sO:∀s:LB,s.length<=p.length->Pu p s=false:=λs hs=>vI F0;unfold Df at h h6⊢;by_cases hT:(Zk p).2≠6
 ·rw[B0 hT]at h⊢;have h3:Pu p Y5=false:=by
   refine sO _ ?_;unfold Zk at hT;by_cases h3:3<=p.length/\p.take 3=[73,68,51]
   ·simp[Y5];omega
   ·rw[B0 h3]at hT;exact absurd rfl hT
  rw[xJ q h h3,B0 hT]
 ·rw[B! hT]at h h6⊢;have hb:Pu p Y5=false/\Pu p pq=false:=by
   by_cases hA:(Lw p).2=6
   ·exact h6 hA
   ·unfold Lw at hA;by_cases h3:8<=p.length/\p.take 8=qd
    ·exact⟨sO _ wV,sO _ wW⟩
    ·rw[B0 h3]at hA;exact absurd rfl hA
  have hT':¬(Zk (p++q)).2≠6:=by
   rw[xJ q (by simp only[ne_eq,Classical.not_not]at hT;rw[hT];decide) hb.1];exact hT
  rw[B! hT',Akk q h hb.2]
theorem Aaj{p:LB}(q:LB):∀(j s j':Nat),s<=p.length->p.length-s<j->p.length+q.length-s<j'-> (Cq p j s).2≠24->
  ((Cq p j s).2=0->Pu (p.drop (s+(Cq p j s).1.sum.toNat)) Y5=false/\Pu (p.drop (s+(Cq p j s).1.sum.toNat)) pq=false)->Cq (p++q) j' s=Cq p j s
 |0,s,j',_,hj,_,_,_=>absurd hj (K6 _)
 |j+1,s,0,_,_,hj,_,_=>absurd hj (K6 _)
 |j+1,s,j'+1,hs,hj,hj',h,hb=>by
  have ed:(p++q).drop s=p.drop s++q:=NN hs;rw[Cq]at h hb⊢;rw[Cq,ed];by_cases h6:(Df (p.drop s)).2=6
  ·rw[B0 h6]at h hb⊢;have hb':=hb rfl;simp only[MX,lG,J6]at hb';rw[P5 q (by rw[h6];decide) (λ_=>hb'),B0 h6]
  ·rw[B! h6]at h hb⊢;by_cases h0:(Df (p.drop s)).2≠0
   ·rw[B0 h0]at h⊢;rw[P5 q h (λe=>absurd e h6),B! h6,B0 h0]
   ·rw[B! h0]at h hb⊢;have h0':(Df (p.drop s)).2=0:=by simpa using h0
    have e1:Df (p.drop s++q)=Df (p.drop s):=P5 q (by rw[h0'];decide) (λe=>absurd e h6);rw[e1,B! h6,B! h0];have hok:=tL (b:=p.drop s) (n:=(Df (p.drop s)).1) (by rw[<-h0']);rw[H4]at hok;by_cases hm:4000<(s:Int)+(Df (p.drop s)).1
    ·rw[B0 hm,B0 hm]
    ·rw[B! hm]at h hb⊢;rw[B! hm];have hl1:s+(Df (p.drop s)).1.toNat<=p.length:=F0
     have ih:=Aaj (p:=p) q j (s+(Df (p.drop s)).1.toNat) j' hl1 F0 F0;by_cases hr:(Cq p j (s+(Df (p.drop s)).1.toNat)).2=0
     ·rw[B0 hr]at hb⊢;have hle1:s+(Df (p.drop s)).1.toNat<=p.length:=F0
      have hle2:s+(Df (p.drop s)).1.toNat<=4000:=F0
      have hi:=(wQ p j (s+(Df (p.drop s)).1.toNat) hle1 hle2 hr).1;have hsum:(0:Int)<= (Cq p j (s+(Df (p.drop s)).1.toNat)).1.sum:=by
       have:∀l:LI,(∀x∈l,10<=x)->0<=l.sum:=by
        intro l
        induction l with
        |nil=>intro _;simp
        |cons a l ih=>intro h;rw[I6];have:=h a B7;have:=ih (λx hx=>h x (by simp[hx]));omega
       exact this _ hi
      rw[ih (by rw[hr];decide) (λ_=>by
       have:=hb rfl;simp only[I6]at this;rw[show s+((Df (p.drop s)).1+(Cq p j (s+(Df (p.drop s)).1.toNat)).1.sum).toNat=s+(Df (p.drop s)).1.toNat+(Cq p j (s+(Df (p.drop s)).1.toNat)).1.sum.toNat by omega]at this;exact this),B0 hr]
     ·rw[B! hr]at h⊢;rw[ih h (λe=>absurd e hr),B! hr]
theorem Bkv{p:LB}(q:LB)(h:(Bp p).2≠24)(hb:(Bp p).2=0->Pu (Iy p) Y5=false/\Pu (Iy p) pq=false):Bp (p++q)=Bp p:=by
 have key:Cq (p++q) ((p++q).length+1) 0=Cq p (p.length+1) 0:=by
  refine Aaj q (p.length+1) 0 ((p++q).length+1) (lg _) F0 LG ?_ ?_
  ·unfold Bp D_ at h;by_cases h0:(Cq p (p.length+1) 0).2=0
   ·rw[h0];decide
   ·rw[B! h0]at h;exact h
  ·intro h0;have e:Bp p=(((0:Nat):Int)+(Cq p (p.length+1) 0).1.sum,0):=by unfold Bp D_;rw[B0 h0]
   have:=hb (by rw[e]);rw[Iy,e]at this;simpa using this
 unfold Bp D_;rw[key]
theorem Art{p:LB}(q:LB)(h:(Ep p).2.2.2.2.2≠24):Ep (p++q)=Ep p:=by
 unfold Ep at h⊢;by_cases h1:p.take (min 4 p.length)≠Px.take (min 4 p.length)
 ·have h1':(p++q).take (min 4 (p++q).length)≠Px.take (min 4 (p++q).length):=by
   intro e;have hle:min 4 p.length<=min 4 (p++q).length:=by rw[CR];omega
   have:=congrArg (List.take (min 4 p.length)) e;rw[S?,S?,J5 hle,Pe F0]at this;exact h1 this
  rw[B0 h1,B0 h1']
 ·rw[B! h1]at h;by_cases h2:p.length<22
  ·rw[B0 h2]at h;exact absurd rfl h
  ·have h2':¬(p++q).length<22:=by rw[CR];omega
   have h1':¬(p++q).take (min 4 (p++q).length)≠Px.take (min 4 (p++q).length):=by
    rw[J5 F0]at h1⊢;rw[Pe F0];exact h1
   have e0:f0 (p++q)=f0 p:=by unfold f0;rw[Ti]
   have e1:f1 (p++q)=f1 p:=by unfold f1;rw[Ti]
   have e2:f2 (p++q)=f2 p:=by unfold f2;rw[Ti]
   have e3:f3 (p++q)=f3 p:=by unfold f3;rw[Ti]
   have e4:f4 (p++q)=f4 p:=by unfold f4;rw[Ti]
   rw[B! h1,B! h1',B! h2,B! h2',e0,e1,e2,e3,e4,Pe F0,Ti]
theorem Ayv{p:LB}(q:LB)(h:(stS p).2.2.2.2.2.2≠ -1):stS (p++q)=stS p:=by
 unfold stS at h⊢;by_cases h1:(Bp p).2=24
 ·rw[B0 h1]at h;exact absurd rfl h
 rw[B! h1]at h;by_cases h2:(Bp p).2≠0
 ·rw[Bkv q h1 (λe=>absurd e h2),B! h1,B0 h2,B! h1,B0 h2]
 rw[B! h2]at h;have h0:(Bp p).2=0:=by simpa using h2
 by_cases h3:(Pu (Iy p) Y5||Pu (Iy p) pq)=true
 ·rw[B0 h3]at h;exact absurd rfl h
 rw[B! h3]at h;have h3f:Pu (Iy p) Y5=false/\Pu (Iy p) pq=false:=by
  simp only[Bool.not_eq_true,TM]at h3;exact h3
 have eF:=Bkv q h1 (λ_=>h3f);obtain⟨k1,k2,k3⟩:=BP h0;have eH:Iy (p++q)=Iy p++q:=by rw[Iy,eF,Iy,NN F0]
 by_cases h5:(Ep (Iy p)).2.2.2.2.2=24
 ·rw[B0 h5]at h;exact absurd rfl h
 have eR:Ep (Iy p++q)=Ep (Iy p):=Art q h5;have beg:∀s:LB,Pu (Iy p) s=false-> (s=Y5\/s=pq)->Pu (Iy p++q) s=false:=by
  intro s hs hk;by_cases hl:(Iy p++q).length<s.length
  ·have hp:(Iy p).length<s.length:=by rw[CR]at hl;omega
   rw[Pu,L8 hp,JY]at hs;rw[Pu,L8 hl,JY];refine beq_eq_false_iff_ne.2 λe=>?_;have:=congrArg (List.take (Iy p).length) e;rw[Pe (E1 _),ID,S?,J5 LG]at this;rw[<-this]at hs;simp at hs
  ·exact vI hl
 rw[eF,eH,eR,B! h1,B! h2,beg _ h3f.1 (.inl rfl),beg _ h3f.2 (.inr rfl),B! B6,B! h5,B! h1,B! h2,B! h3]
theorem Ars{p:LB}(q:LB)(n:Nat)(h:(Eo p n).2≠24):Eo (p++q) n=Eo p n:=by
 unfold Eo at h⊢;by_cases h1:1<=n/\n<=1000
 ·have n1:¬ ¬(1<=n/\n<=1000):=λf=>f h1;rw[B! n1]at h;rw[B! n1,B! n1];by_cases h2:p.length<4*n+4
  ·rw[B0 h2]at h;exact absurd rfl h
  ·have h2':¬(p++q).length<4*n+4:=by rw[CR];omega
   have et:UJ (p++q) n=UJ p n:=by
    unfold UJ;refine TN λi hi=>?_;rw[TR]at hi;rw[Ti]
   rw[B! h2,B! h2',Pe F0,Ti,et]
 ·rw[B0 h1,B0 h1]
def SN(g a:LB)(k p o u v:Int)(f:LI)(b:Int)(h:LB)(m:Bool)(n:Int):Option Int:=
if(geq k 0)then
(Jv a).bind λ(al,ba)=>
if(geq ba 24)then
Fs true 0
else
if(Bd ba 0)then
(Ao ba).bind λ(bx,bz)=>
Fs bx bz
else
(Bm a al (Ac a)).bind λda=>
(Tl da).bind λan=>
if an then
Fs true 0
else
(Bm a al (Ac a)).bind λdb=>
(Nn db).bind λ(ae,af,aa,ag,ab,bb)=>
if(geq bb 24)then
Fs true 0
else
if(Bd bb 0)then
(Ao bb).bind λ(dc,dd)=>
Fs dc dd
else
(
(Bm a (Ad al 22) (Ac a)).bind λak=>
(
Zg g ak ae af aa ag ab b m n f h))
else
if(geq (Ac f) 0)then
if(geq k 2)then
if(Ck (Ac a) 8)then
Kx true 0
else
Zd g a k p o u v b m n f h
else
Li g a k p o u v b m n f h 0
else
if(Ck b (Ac f))then
(Am f b).bind λ_=>
(Am f b).bind λw=>
if(Ck (Ac a) w)then
Iu true 0
else
(Oe g).bind λ(ap,am)=>
if(Bd am 0)then
(Ao am).bind λ(de,df)=>
Iu de df
else
(Ee k p o u v).bind λ(ad,dg)=>
if((Bd dg 0)||(Mv b (Ac ad)))then
(Ao 8).bind λ(dh,di)=>
Iu dh di
else
Zb w g a k p o u v b m n ap ad f h
else
if(Ei (Ac a) 4000)then
(Ao 38).bind λ(dj,bf)=>
By ((dj==true)&&((geq bf 0)&&true))
else
Zo
theorem zI(d:Bool)(e:Int):Fs d e=By (d&&geq e 0):=by
 rw[Fs,IG];cases d<;>simp
theorem d? (d:Bool)(e:Int):Kx d e=By (d&&geq e 0):=by
 rw[Kx,JX];cases d<;>simp
theorem qO(d:Bool)(e:Int):Iu d e=By (d&&geq e 0):=by
 rw[Iu,IY];cases d<;>simp
theorem rp4{o p:LB}{f c w r n:Int}{g:LI}{a:Int}{x:LB}{u:Bool}{v:Int}{t1 t2:LB}{t3 t4 t5 t6 t7:Int}{t8:LI}{t9:Int}{t10:LB}{t11:Bool}{t12 e:Int}
  (h:Ag o p f c w r n g a x u v=some (t1,t2,t3,t4,t5,t6,t7,t8,t9,t10,t11,t12,e)):Cw o p f c w r n g a x u v=some (geq e (-1)):=by
 rw[Cw,Yy,h,Aa]
theorem mD{e:Int}(h:0<=e):geq e (-1)=false:=by rw[Ar,jm];omega
theorem Ap8(o p:LB)(c w r n:Int)(g:LI)(a:Int)(x:LB)(u:Bool)(v:Int)(hp:p.length<=100000):
  ∃B:Bool,SN o p 0 c w r n g a x u v=By B/\Cw o p 0 c w r n g a x u v=some B:=by
 have hT:Ag o p 0 c w r n g a x u v=Ag o p 0 c w r n g a x u v:=rfl
 conv at hT=>rhs;rw[Ag,Bq,B0 B6,AE p hp,Aa,stS]
 have hfn:=Q7 p;have hrn:=z! (Iy p);rw[SN,B0 B6,Ql p F0,Aa];have hok:=BP (b:=p);simp only at hT⊢;by_cases h1:(Bp p).2=24
 ·rw[B0 h1]at hT;simp only at hT;rw[B0 B6]at hT;rw[B0 (by rw[Ar];simpa using h1),zI];exact⟨_,rfl,rp4 hT⟩
 rw[B! h1]at hT;rw[B! (by rw[Ar];simpa using h1)];by_cases h2:(Bp p).2≠0
 ·rw[B0 h2]at hT;simp only at hT;rw[B0 (by rw[Aj];simpa using h2)]at hT;rw[B0 (by rw[Aj];simpa using h2),Ao,Aa];simp only;rw[zI];exact⟨_,rfl,(rp4 hT).trans (by rw[mD hfn];rfl)⟩
 have h0:(Bp p).2=0:=by simpa using h2
 obtain⟨k1,k2,k3⟩:=hok h0;have hl:(Iy p).length=p.length-(Bp p).1.toNat:=by rw[Iy,H4]
 rw[B! h2]at hT;rw[B! (by rw[Aj,h0];simp),Cb,Aa,Aa,show p.drop (Bp p).1.toNat=Iy p from rfl,Avo,Aa];by_cases h3:(Pu (Iy p) Y5||Pu (Iy p) pq)=true
 ·rw[B0 h3]at hT⊢;simp only at hT;rw[B0 B6]at hT;rw[zI];exact⟨_,rfl,rp4 hT⟩
 rw[B! h3]at hT⊢;rw[PY _ F0,Aa];by_cases h5:(Ep (Iy p)).2.2.2.2.2=24
 ·rw[B0 h5]at hT;simp only at hT;rw[B0 B6]at hT;rw[B0 (by rw[Ar];simpa using h5),zI];exact⟨_,rfl,rp4 hT⟩
 rw[B! h5]at hT;rw[B! (by rw[Ar];simpa using h5)];simp only at hT;by_cases h6:(Ep (Iy p)).2.2.2.2.2≠0
 ·rw[B0 (by rw[Aj];simpa using h6)]at hT⊢;rw[Ao,Aa];simp only;rw[zI];exact⟨_,rfl,(rp4 hT).trans (by rw[mD hrn];rfl)⟩
 have h7:(Ep (Iy p)).2.2.2.2.2=0:=by simpa using h6
 have h22:=(tT h7).2.1;rw[B! (by rw[Aj,h7];simp),Cb,Aa,Hl,Hj,Fa]at hT;rw[B! (by rw[Aj,h7];simp),Ak,Cb,Aa,Zg,MP,Qs];simp only;by_cases h8:((o==([]:LB)) !=geq (Ep (Iy p)).1 1)=true
 ·rw[B0 h8]at hT⊢;rw[Aa]at hT⊢;rw[Ao,Aa];simp only;rw[zI];exact⟨_,rfl,rp4 hT⟩
 ·rw[B! h8]at hT⊢;rw[Aa]at hT⊢;rw[Ao,Aa];simp only;rw[zI];exact⟨_,rfl,rp4 hT⟩
section
variable {f c w r n:Int} {F C W R N:Nat} (hd:HdI f c w r n F C W R N)
include hd
theorem HdI.ne0:¬(geq f 0=true):=by
 have:=hd.num;rw[Ar,G3,hd.ef];omega
theorem S8(o p:LB)(hp:p.length<=100000)(A:Nat)(hA:A<=p.length)(a:Int)(x:LB)(u:Bool)(v:Int):
  (Li o p f c w r n a u v [] x (A:Int)=By (decide ((Eo (p.drop A) (Al (Ah R) N).length).2=24)))/\
  Ec p f c w r n (A:Int)=some (if(Eo (p.drop A) (Al (Ah R) N).length).2=24 then(0,[], -1)else((A:Int)+(4*((Eo (p.drop A) (Al (Ah R) N).length).1.length:Int)+4),(Eo (p.drop A) (Al (Ah R) N).length).1,(Eo (p.drop A) (Al (Ah R) N).length).2))/\
  ((Eo (p.drop A) (Al (Ah R) N).length).2=0-> (A:Int)+(4*((Eo (p.drop A) (Al (Ah R) N).length).1.length:Int)+4)<=p.length):=by
 have hs:=wS (p.drop A) (Al (Ah R) N).length M9;have hr:=O? (p.drop A) (Al (Ah R) N).length M9;have hok:=iP (b:=p.drop A) (n:=(Al (Ah R) N).length);have hlen:(Eo (p.drop A) (Al (Ah R) N).length).1.length<=1000:=by
  unfold Eo
  repeat' split
  all_goals simp[Vm]
  all_goals omega
 have hfit:(Eo (p.drop A) (Al (Ah R) N).length).2=0-> (A:Int)+(4*((Eo (p.drop A) (Al (Ah R) N).length).1.length:Int)+4)<=p.length:=by
  intro h0;obtain⟨k1,k2,k3,k4,_⟩:=hok h0;rw[k1];simp only[Vm];rw[H4]at k4;omega
 refine⟨?_,?_,hfit⟩
 ·rw[Li,IZ,hd.P7,Aa];simp only;rw[B! B6,Cb,Aa,F!,Ac,hs,Aa];generalize Eo (p.drop A) (Al (Ah R) N).length=z at*
  obtain⟨z1,z2⟩:=z;simp only at*
  by_cases h1:z2=24
  ·rw[B0 (by rw[Ar];simpa using h1),d?,L8 h1];rfl
  rw[B! (by rw[Ar];simpa using h1),K5 h1];by_cases h2:z2≠0
  ·rw[B0 (by rw[Aj];simpa using h2),Ao,Aa];simp only;rw[d?];rfl
  ·have h0:z2=0:=by simpa using h2
   have:=hfit h0;rw[B! (by rw[Aj,h0];simp),Ac,W? A z1.length F0 F0,Cb,Aa,d?];rfl
 ·rw[Ec,Ad6,Cb,Aa,hd.OB,Aa,Ac,F!,hr,Aa];generalize Eo (p.drop A) (Al (Ah R) N).length=z at*
  obtain⟨z1,z2⟩:=z;simp only at*
  rw[Acj,Ad5];by_cases h1:z2=24
  ·rw[B0 (by rw[Ar];simpa using h1),B0 h1]
  ·rw[B! (by rw[Ar];simpa using h1),B! h1,Ac,W? A z1.length F0 F0];congr 2
theorem Ax5(o p:LB)(ho:o.length<=64)(hp:p.length<=100000)(a:Int)(x:LB)(u:Bool)(v:Int):
  ∃B:Bool,SN o p f c w r n [] a x u v=By B/\Cw o p f c w r n [] a x u v=some B:=by
 have hT:Ag o p f c w r n [] a x u v=Ag o p f c w r n [] a x u v:=rfl
 conv at hT=>rhs;rw[Ag,Bq,B! hd.ne0,Bw,Bv,B0 B6,Fk,If]
 rw[SN,B! hd.ne0,B0 B6];have fin:∀A:Nat,A<=p.length->Ag o p f c w r n [] a x u v=(Ec p f c w r n (A:Int)).bind (λ(ag,ak,w1)=>
   if(Bd w1 0)then some (o,p,f,c,w,r,n,[],a,x,u,v,w1)else(Bm p ag (Ac p)).bind λal=>some (o,al,f,c,w,r,n,ak,a,x,u,v,0))->
   ∃B:Bool,Li o p f c w r n a u v [] x (A:Int)=By B/\Cw o p f c w r n [] a x u v=some B:=by
  intro A hA hT;obtain⟨t1,t2,t3⟩:=S8 hd o p hp A hA a x u v;have hnn:=J? (p.drop A) (Al (Ah R) N).length;rw[t2,Aa]at hT;rw[t1];generalize Eo (p.drop A) (Al (Ah R) N).length=z at*
  obtain⟨z1,z2⟩:=z;simp only at*
  by_cases h1:z2=24
  ·rw[B0 h1]at hT;simp only at hT;rw[B0 B6]at hT;exact⟨_,rfl,(rp4 hT).trans (by rw[L8 h1];rfl)⟩
  rw[B! h1]at hT;simp only at hT;by_cases h2:z2≠0
  ·rw[B0 (by rw[Aj];simpa using h2)]at hT;exact⟨_,rfl,(rp4 hT).trans (by rw[K5 h1,mD hnn])⟩
  ·have h0:z2=0:=by simpa using h2
   have:=t3 h0;rw[B! (by rw[Aj,h0];simp),Cb,Aa]at hT;exact⟨_,rfl,(rp4 hT).trans (by rw[K5 h1];rfl)⟩
 by_cases h2:geq f 2=true
 ·rw[B0 h2]at hT⊢;by_cases h8:p.length<8
  ·rw[B0 C2]at hT⊢;rw[Aa]at hT;simp only at hT;rw[B0 B6]at hT;rw[d?];exact⟨_,rfl,rp4 hT⟩
  ·rw[B! C2]at hT⊢;have h8':(p.take 8).length=8:=by rw[G!];omega
   rw[Dv,Aa,gY o ho,Aa]at hT;rw[Zd,ML,Dv,Aa,show(8:Int).toNat=8 from rfl,G9 h8' ho,Aa];rw[show(8:Int).toNat=8 from rfl]at hT;simp only;rw[MB,JJ,B! B6];by_cases he:(p.take 8==Tm (Vx o).toNat 8)=true
   ·rw[B! (by rw[bne,he];decide)]at hT;rw[B! (by rw[he];decide)];exact fin 8 F0 hT
   ·have he':(p.take 8==Tm (Vx o).toNat 8)=false:=by simpa using he
    rw[B0 (by rw[bne,he'];decide),Aa]at hT;simp only at hT;rw[B0 B6]at hT;rw[B0 (by rw[he'];decide),Ao,Aa];simp only;rw[d?];exact⟨_,rfl,rp4 hT⟩
 ·rw[B! h2]at hT⊢;exact fin 0 F0 hT
end
theorem mM{p:Prop}(h:p:=by rw[Ar,Ac];simp;omega):p:=h
theorem mg{p:Prop}(h:p:=by rw[Ar,Ac];simp):p:=h
theorem Ar6{f c w r n:Int}{F C W R N:Nat}(hd:HdI f c w r n F C W R N)(o p:LB)(ho:o.length<=64)(hp:p.length<=100000)(g:LI)(hg:Vs g=true)(hl:g.length=(Al (Ah R) N).length)(A:Nat)(hA:A<=g.length)(x:LB)(hx:x.length<=14000000)(u:Bool)(v:Int):
  ∃B:Bool,SN o p f c w r n g (A:Int) x u v=By B/\Cw o p f c w r n g (A:Int) x u v=some B:=by
 have hc:=hd.ec;subst hc;have hg':=hg;rw[Vs,CT,D!,FB g 100000 F0]at hg';obtain⟨⟨g1,g2⟩,g5,g6⟩:=hg';have hT:Ag o p f (C:Int) w r n g (A:Int) x u v=Ag o p f (C:Int) w r n g (A:Int) x u v:=rfl
 conv at hT=>rhs;rw[Ag,Bq,B! hd.ne0,Bw,Bv,B! (by rw[Ar,Ac];simp;intro e;subst e;simp at g1)]
 rw[SN,B! hd.ne0,B! (by rw[Ar,Ac];simp;intro e;subst e;simp at g1)];by_cases hA2:A=g.length
 ·subst hA2;rw[B0 mg]at hT;rw[B! SG];by_cases h4:4000<p.length
  ·rw[B0 E4]at hT⊢;rw[Ao,Aa];simp only;exact⟨_,rfl,rp4 hT⟩
  ·rw[B! E4]at hT⊢;rw[Zo,LO];exact⟨_,rfl,rp4 hT⟩
 ·have hlt:A<g.length:=F0
  have h5:=g5 g[A] (HA hlt);have hsum:=P8 g5 g[A] (HA hlt);rw[B! mM,Dp,Ev,Bt hlt,Aa]at hT;rw[B0 C2,Bt hlt,Aa,Aa];by_cases hw:(p.length:Int)<g[A]
  ·rw[B0 (by rw[Af,Ac];simpa using hw)]at hT⊢;rw[Aa]at hT;simp only at hT;rw[B0 B6]at hT;rw[qO];exact⟨_,rfl,rp4 hT⟩
  rw[B! (by rw[Af,Ac];simpa using hw)]at hT⊢;have ER:=hd.num;have hlt2:A<(Al (Ah R) N).length:=F0
  obtain⟨m,hm,m1,m2⟩:=Wh (Es R) ER.2.2.2.2.1 (HA hlt2);have hb:Bn w:=by rw[hd.ew];unfold Bn;omega
  obtain⟨xs,e,d1,d2,d3,d4⟩:=HN (bits:=w) (ch:=C) (n:=m) (t:=Lt o) (p.take g[A].toNat) hb (Kt o) ER.2.1.1 ER.2.1.2 m1 F0;have hnn:=vK hb (Kt o) ER.2.1.1 ER.2.1.2 m1 F0 d2;rw[jL o ho,Aa];simp only;rw[B! B6,hd.P7,Aa];simp only;rw[B! (by simp[Aj,Eh,Ac];omega),Zb,KU,Bt hlt2,Aa,Dv,Aa,Aa,EC,Aa];simp only;rw[hm,d1,Aa];simp only;rw[TG o ho,Aa]at hT;simp only at hT;rw[Dv,Aa,Gc,Aa]at hT;simp only at hT;rw[hd.OB,Aa,Bt hlt2,Aa,Aa,hm]at hT;rw[d2,Aa]at hT;simp only at hT;rw[Ex,Et]at hT;rw[MV,Zr];by_cases he:e≠0
  ·rw[B0 (by rw[Aj];simpa using he)]at hT⊢;rw[Aa]at hT;simp only at hT;rw[B0 (by rw[Aj];simpa using he)]at hT;rw[Ao,Aa];simp only;rw[qO];exact⟨_,rfl,(rp4 hT).trans (by rw[mD hnn];rfl)⟩
  ·have he0:e=0:=by simpa using he
   obtain⟨k1,k2,k3⟩:=d3 he0;have hbl:=GO w xs;rw[B! (by rw[Aj,he0];simp)]at hT⊢;rw[PQ hb k2 k1,Aa,Aa]at hT;simp only at hT;rw[B! B6,Bi B8,Aa,HB,Bi,Aa,Aa,Cb,Aa]at hT;rw[aP hb k2 k1,Aa];simp only;rw[B! B6,Bi,Aa,Cb,Aa,qO];exact⟨_,rfl,rp4 hT⟩
theorem Aha(a:LI)(b:Int)(ha:a.length<=100):∀(j i q:Nat),i+j=a.length->j<q->∃r,Ch a b q (i:Int)=some r/\Mv r 0=(a.drop i).any λy=>b==y
 |0,i,q+1,hi,_=>by
  refine⟨-1,?_,?_⟩
  ·rw[Ch,Fu,B! C2];rfl
  ·rw[show i=a.length by omega,MT];rfl
 |j+1,i,q+1,hi,hq=>by
  have hlt:i<a.length:=F0
  obtain⟨r,h1,h2⟩:=Aha a b ha j (i+1) q F0 F0;rw[Ch,Fu,B0 C2,Bt hlt,Aa,drop_cons hlt,List.any_cons];by_cases h:b=a[i]
  ·rw[B0 (by rw[Ar];simpa using h)];refine⟨_,rfl,?_⟩;rw[Eh,L8 F0,h];simp
  ·rw[B! (by rw[Ar];simpa using h),Ak];refine⟨r,h1,?_⟩;rw[h2,beq_eq_false_iff_ne.2 h,w?]
theorem Au1(v:Int):∃B:Bool,Tr v=some B/\AW v=some B:=by
 obtain⟨r,h1,h2⟩:=Aha [4,12,16,22,24,26,38] v B6 7 0 Au rfl D1;refine⟨_,?_,rfl⟩;rw[Tr,Iz,Kw,Jd,Aes];have h1':Ch [4,12,16,22,24,26,38] v Au 0=some r:=h1;rw[h1',Aa,Aa,h2];simp only[lM,List.any_cons,List.any_nil,Bool.or_false,Ar,Bool.or_assoc]
theorem zW(B:Bool):By B=some (if B=true then 0 else 8):=by
 rw[By,Awp];cases B<;>rfl
theorem Az0(a b:LB)(f g h k m:Int)(n:LI)(o:Int)(p:LB)(u:Bool)(v:Int)(hb:b.length<=16000000)(hn:n.length<=16000000)(hp:p.length<=16000000):
  Eu a b f g h k m n o p u v=some (a,b,f,g,h,k,m,n,o,p,u,v):=by
 rw[Eu,Lr,Bi B8,Aa,Aa,Lr,Bi B8,Aa,Aa,Hr,Bi B8,Aa,Aa];rfl
theorem V? (o p:LB)(f c w r n:Int)(g:LI)(a:Int)(x:LB)(u:Bool)(v:Int)(hp:p.length<=100000)(hg:g.length<=100000)(hx:x.length<=14000000):
  ∃E,Pz o p f c w r n g a x u v=some E/\Ek o p f c w r n g a x u v=some E:=by
 rw[Pz,CG,Ek];by_cases ho:64<o.length
 ·rw[B0 E4,B0 E4];exact⟨8,rfl,rfl⟩
 have hO:¬(Ei (Ac o) 64=true):=by rw[Aq,Ac];simp;omega
 rw[B! hO,B! hO];by_cases hw:(geq v 0&& !u)=true
 ·rw[B0 hw,B0 hw,Az0 o p f c w r n g a x u v F0 F0 F0,Aa];simp only;rcases Ajv o p f c w r n g a x u v with⟨e1,e2⟩|⟨e1,e2,hd⟩
  ·rw[e1,e2,Aa,Aa,B! B6,B0 B6,zW];exact⟨8,rfl,rfl⟩
  ·rw[e1,e2,Aa,B0 rfl];have key:∃B:Bool,SN o p f c w r n g a x u v=By B/\Cw o p f c w r n g a x u v=some B:=by
    cases hd with
    |new e1 e2 e3 e4 e5 e6 e7 e8=>subst e1;exact Ap8 o p c w r n g a x u v hp
    |head F C W R N h hpw e6 e7 e8=>subst e6;exact Ax5 h o p F0 hp a x u v
    |tab F C W R N A h hpw ht hl ea hA=>subst ea;exact Ar6 h o p F0 hp g ht hl A hA x hx u v
   obtain⟨B,k1,k2⟩:=key;rw[k2,Aa];refine⟨if B=true then 0 else 8,k1.trans (zW B),?_⟩;cases B<;>rfl
 ·rw[B! hw,B! hw];by_cases hl:(geq (Ac p) 0&&geq (Ac g) 0)=true
  ·rw[B0 hl,B0 hl];generalize(geq f 0&&(geq c 0&&(geq w 0&&(geq r 0&&(geq n 0&&true)))))=z;by_cases hz:((z&&geq a 0)&&T9 (Ac x) 12000)=true
   ·rw[B0 hz];simp only[CT,WU,Ac,D!]at hz;obtain⟨⟨z1,z2⟩,z3⟩:=hz;have hN:¬((!(z&&geq a 0)||Ei (Ac x) 12000)=true):=by rw[z1,z2,Aq,Ac];simp;omega
    rw[B! hN];by_cases hv:v=0
    ·have v1:geq v 0=true:=by rw[Ar];simpa using hv
     have v2:¬(Bd v 0=true):=by rw[Aj];simpa using hv
     rw[B0 v1,B! v2,zW];exact⟨0,rfl,rfl⟩
    ·have v1:¬(geq v 0=true):=by rw[Ar];simpa using hv
     have v2:Bd v 0=true:=by rw[Aj];simpa using hv
     rw[B! v1,B0 v2];obtain⟨B,k1,k2⟩:=Au1 v;rw[k1,k2,Aa,Aa,zW,zW];cases u
     ·refine⟨if B=true then 0 else 8,B7,?_⟩;cases B<;>rfl
     ·exact⟨8,rfl,rfl⟩
   ·rw[B! hz,B0,zW]
    ·exact⟨8,rfl,rfl⟩
    ·simp only[CT,WU,Ac,D!]at hz;simp only[HV,IC,Aq,Ac,D!];by_cases hz2:(z&&geq a 0)=true
     ·rw[CT]at hz2;exact .inr (by have hq:¬((x.length:Int)<=12000):=λh=>hz ⟨hz2,h⟩;omega)
     ·exact .inl (by simpa using hz2)
  ·rw[B! hl,B! hl,B! B7,B0 B7,zW];exact⟨8,rfl,rfl⟩
def ZK(bk:LB->Int->Int->Int->Int->Int->Int->LI->LB->Ax)(o:LB)(u:Bool)(v:Int):LB->Int->Int->Int->Int->Int->Int->LI->LB->Ax:=
 Jo (Qh bk o u v) (Uq bk o u v) (Mx bk o u v) (Us bk o u v) (Nd bk o u v) (Qg bk o u v) (Vv bk o u v) (Cs bk o u v) (CK bk o u v) o u v
structure SzD (p:LB) (g:LI) (a:Int) (x:LB):Prop where
 hp:p.length<=100000
 hg:g.length<=1000
 hx:x.length+12000*(g.length-a.toNat)<=13000000
def muD(f:Int)(g:LI)(a:Int):Nat:=if f=0 then 1003 else if g=[]then 1002 else g.length-a.toNat+1
section
variable {bk:LB->Int->Int->Int->Int->Int->Int->LI->LB->Ax} {o p:LB} {f c w r n:Int} {g:LI} {a:Int} {x:LB} {u:Bool} {v:Int}
theorem Awj(hp:p.length<=100000)(hg:g.length<=1000)(hx:x.length<=13000000):Eu o p f c w r n g a x u v=some (o,p,f,c,w,r,n,g,a,x,u,v):=by
 rw[Eu,Lr,Bi B8,Aa,Aa,Lr,Bi B8,Aa,Aa,Hr,Bi B8,Aa,Aa];rfl
theorem Bhm(h:SzD p g a x)(e:Int):Cs bk o u v p f c w r n a true e g x=some (o,p,f,c,w,r,n,g,a,x,u,v,0):=by
 rw[Cs,OK,B0 rfl,Awj h.hp h.hg (by have:=h.hx;omega),Aa]
theorem Bgh{e:Int}(h:e≠0):Cs bk o u v p f c w r n a false e g x=some (o,[],0,0,0,0,0,[],0,x,false,e,e):=by
 rw[Cs,OK,B! B6,B0 (by rw[Aj];simpa using h)];rfl
inductive StepR (bk:LB->Int->Int->Int->Int->Int->Int->LI->LB->Ax) (o p:LB) (f c w r n:Int) (g:LI) (a:Int) (x:LB) (u:Bool) (v:Int):Prop
 |wait:ZK bk o u v p f c w r n a g x=some (o,p,f,c,w,r,n,g,a,x,u,v,0)->Ag o p f c w r n g a x u v=some (o,p,f,c,w,r,n,g,a,x,u,v, -1)->StepR bk o p f c w r n g a x u v
 |err (e:Int) {t1 t2:LB} {t3 t4 t5 t6 t7:Int} {t8:LI} {t9:Int} {t10:LB} {t11:Bool} {t12:Int}:0<e->ZK bk o u v p f c w r n a g x=some (o,[],0,0,0,0,0,[],0,x,false,e,e)->
   Ag o p f c w r n g a x u v=some (t1,t2,t3,t4,t5,t6,t7,t8,t9,t10,t11,t12,e)->StepR bk o p f c w r n g a x u v
 |next (p':LB) (f' c' w' r' n':Int) (g':LI) (a':Int) (x':LB):ZK bk o u v p f c w r n a g x=bk p' f' c' w' r' n' a' g' x'->Ag o p f c w r n g a x u v=some (o,p',f',c',w',r',n',g',a',x',u,v,0)->
   FitD o f' c' w' r' n' g' a' x'->SzD p' g' a' x'->p'.length<=p.length->muD f' g' a'<muD f g a->StepR bk o p f c w r n g a x u v
theorem f62{d:Bool}{e:Int}:Qh bk o u v a g x d e p f c w r n=Cs bk o u v p f c w r n a d e g x:=rfl
theorem f75{d:Bool}{e:Int}:Mx bk o u v f c w r n a x d e p g=Cs bk o u v p f c w r n a d e g x:=rfl
theorem f78{d:Bool}{e:Int}:Qg bk o u v f c w r n g d e p a x=Cs bk o u v p f c w r n a d e g x:=rfl
theorem mkW(hZ:SzD p g a x)(hF:ZK bk o u v p f c w r n a g x=Cs bk o u v p f c w r n a true 0 g x)(hT:Ag o p f c w r n g a x u v=some (o,p,f,c,w,r,n,g,a,x,u,v, -1)):StepR bk o p f c w r n g a x u v:=
 .wait (hF.trans (Bhm hZ 0)) hT
theorem mkE{e:Int}{p2:LB}{f2 c2 w2 r2 n2 a2:Int}{g2:LI}{t1 t2:LB}{t3 t4 t5 t6 t7:Int}{t8:LI}{t9:Int}{t10:LB}{t11:Bool}{t12:Int}(he:0<e)(hF:ZK bk o u v p f c w r n a g x=Cs bk o u v p2 f2 c2 w2 r2 n2 a2 false e g2 x)
  (hT:Ag o p f c w r n g a x u v=some (t1,t2,t3,t4,t5,t6,t7,t8,t9,t10,t11,t12,e)):StepR bk o p f c w r n g a x u v:= .err e he (hF.trans (Bgh F0)) hT
theorem HdI.fnz{F C W R N:Nat}(h:HdI f c w r n F C W R N):f≠0:=by
 have:=h.num;rw[h.ef];omega
theorem Aul(hp:p.length<=100000):StepR bk o p 0 0 0 0 0 [] 0 [] u v:=by
 have hZ:SzD p [] 0 []:=⟨hp,B7,B7⟩;have hT:Ag o p 0 0 0 0 0 [] 0 [] u v=Ag o p 0 0 0 0 0 [] 0 [] u v:=rfl
 conv at hT=>rhs;rw[Ag,Bq,B0 B6,AE p hp,Aa,stS]
 have hF:ZK bk o u v p 0 0 0 0 0 0 [] []=ZK bk o u v p 0 0 0 0 0 0 [] []:=rfl
 conv at hF=>rhs;rw[ZK,Jo,B0 B6,Ql p F0,Aa]
 have hfn:=Q7 p;have hrn:=z! (Iy p);have hok:=BP (b:=p);simp only at hT hF;by_cases h1:(Bp p).2=24
 ·rw[B0 h1]at hT;simp only at hT;rw[B0 B6]at hT;rw[B0 (by rw[Ar];simpa using h1)]at hF;exact mkW hZ hF hT
 rw[B! h1]at hT;rw[B! (by rw[Ar];simpa using h1)]at hF;by_cases h2:(Bp p).2≠0
 ·rw[B0 h2]at hT;simp only at hT;rw[B0 (by rw[Aj];simpa using h2)]at hT;rw[B0 (by rw[Aj];simpa using h2),Ao,Aa]at hF;exact mkE F0 hF hT
 have h0:(Bp p).2=0:=by simpa using h2
 obtain⟨k1,k2,k3⟩:=hok h0;have hl:(Iy p).length=p.length-(Bp p).1.toNat:=by rw[Iy,H4]
 rw[B! h2]at hT;rw[B! (by rw[Aj,h0];simp),Cb,Aa,Aa,show p.drop (Bp p).1.toNat=Iy p from rfl,Avo,Aa]at hF;by_cases h3:(Pu (Iy p) Y5||Pu (Iy p) pq)=true
 ·rw[B0 h3]at hT hF;simp only at hT;rw[B0 B6]at hT;exact mkW hZ hF hT
 rw[B! h3]at hT hF;rw[PY _ F0,Aa]at hF;by_cases h5:(Ep (Iy p)).2.2.2.2.2=24
 ·rw[B0 h5]at hT;simp only at hT;rw[B0 B6]at hT;rw[B0 (by rw[Ar];simpa using h5)]at hF;exact mkW hZ hF hT
 rw[B! h5]at hT;rw[B! (by rw[Ar];simpa using h5)]at hF;simp only at hT;by_cases h6:(Ep (Iy p)).2.2.2.2.2≠0
 ·rw[B0 (by rw[Aj];simpa using h6)]at hT hF;rw[Ao,Aa]at hF;exact mkE (by have:=hrn;generalize(Ep (Iy p)).2.2.2.2.2=z at *;omega) (hF.trans f62) hT
 have h7:(Ep (Iy p)).2.2.2.2.2=0:=by simpa using h6
 obtain⟨r1,h22,r3,r4⟩:=tT h7;rw[B! (by rw[Aj,h7];simp),Cb,Aa,Hl,Hj,Fa]at hT;rw[B! (by rw[Aj,h7];simp),Ak,Cb,Aa,Uq,QG,Qs]at hF;simp only at hT hF;by_cases h8:((o==([]:LB)) !=geq (Ep (Iy p)).1 1)=true
 ·rw[B0 h8]at hT hF;rw[Aa]at hT hF;rw[Ao,Aa]at hF;simp only at hF;exact mkE B6 (hF.trans f62) hT
 ·rw[B! h8]at hT hF;rw[Aa]at hT hF;rw[Ao,Aa]at hF;have hd:HdI (Ep (Iy p)).1 (Ep (Iy p)).2.1 (Ep (Iy p)).2.2.1 (Ep (Iy p)).2.2.2.1 (Ep (Iy p)).2.2.2.2.1 (f0 (Iy p)) (f1 (Iy p)) (f2 (Iy p)) (f3 (Iy p)) (f4 (Iy p)):=by
   constructor<;>first|(rw[r1])|assumption
  refine .next _ _ _ _ _ _ [] 0 [] (by exact hF) hT (.head _ _ _ _ _ hd ?_ rfl rfl rfl) ⟨by rw[H4];omega,B7,B7⟩ M9 ?_
  ·have e:geq (Ep (Iy p)).1 1=decide (f0 (Iy p)=1):=by rw[hd.ef,Ar,F?];simp;omega
   rw[<-e];simpa using h8
  ·rw[muD,muD,B! hd.fnz,B0 rfl,B0 rfl];omega
section
variable {F C W R N:Nat} (hd:HdI f c w r n F C W R N)
include hd
theorem Aoi(hp:p.length<=100000)(hpw:(o==([]:LB))=decide (F=1))(A:Nat)(hA:A<=p.length)
  (hT:Ag o p f c w r n [] 0 [] u v=(Ec p f c w r n (A:Int)).bind (λ(ag,ak,w1)=>if(Bd w1 0)then some (o,p,f,c,w,r,n,([]:LI),(0:Int),([]:LB),u,v,w1)else(Bm p ag (Ac p)).bind λal=>some (o,al,f,c,w,r,n,ak,(0:Int),([]:LB),u,v,(0:Int))))
  (hF:ZK bk o u v p f c w r n 0 [] []=Nd bk o u v p f c w r n 0 [] [] (A:Int)):StepR bk o p f c w r n [] 0 [] u v:=by
 have hZ:SzD p [] 0 []:=⟨hp,B7,B7⟩;obtain⟨_,t2,t3⟩:=S8 hd o p hp A hA 0 [] u v;have hs:=wS (p.drop A) (Al (Ah R) N).length M9;have hnn:=J? (p.drop A) (Al (Ah R) N).length;have hok:=iP (b:=p.drop A) (n:=(Al (Ah R) N).length);rw[t2,Aa]at hT;rw[Nd,QM,hd.P7,Aa]at hF;simp only at hF;rw[B! B6,Cb,Aa,F!,Ac,hs,Aa]at hF;generalize hz:Eo (p.drop A) (Al (Ah R) N).length=z at*
 obtain⟨z1,z2⟩:=z;simp only at*
 by_cases h1:z2=24
 ·rw[B0 h1]at hT;simp only at hT;rw[B0 B6]at hT;rw[B0 (by rw[Ar];simpa using h1)]at hF;exact mkW hZ hF hT
 rw[B! h1]at hT;rw[B! (by rw[Ar];simpa using h1)]at hF;simp only at hT;by_cases h2:z2≠0
 ·rw[B0 (by rw[Aj];simpa using h2)]at hT hF;rw[Ao,Aa]at hF;exact mkE F0 hF hT
 ·have h0:z2=0:=by simpa using h2
  subst h0;have h3:=t3 rfl;obtain⟨k1,k2,k3,k4,k5,k6⟩:=hok rfl;simp only[D5,M4]at k1;have hl:z1.length=(Al (Ah R) N).length:=by rw[k1];exact Vm _ _
  rw[<-k1]at k5 k6;rw[B! B6,Cb,Aa]at hT;rw[B! B6,Ac,W? A z1.length F0 F0,Cb,Aa]at hF;have hne:z1≠ []:=by intro e;rw[e]at hl;simp at hl;omega
  refine .next _ _ _ _ _ _ z1 0 [] (by exact hF) hT (.tab _ _ _ _ _ 0 hd hpw ?_ hl rfl F0) ⟨by rw[H4];omega,F0,by simp;omega⟩ M9 ?_
  ·rw[Vs,CT,D!,FB z1 100000 F0];exact⟨F0,k5,k6⟩
  ·rw[muD,muD,B! hd.fnz,B! hd.fnz,B0 rfl,B! hne];simp;omega
theorem Arm(ho:o.length<=64)(hp:p.length<=100000)(hpw:(o==([]:LB))=decide (F=1)):StepR bk o p f c w r n [] 0 [] u v:=by
 have hZ:SzD p [] 0 []:=⟨hp,B7,B7⟩;have hT:Ag o p f c w r n [] 0 [] u v=Ag o p f c w r n [] 0 [] u v:=rfl
 conv at hT=>rhs;rw[Ag,Bq,B! hd.ne0,Bw,Bv,B0 B6,Fk,If]
 have hF:ZK bk o u v p f c w r n 0 [] []=ZK bk o u v p f c w r n 0 [] []:=rfl
 conv at hF=>rhs;rw[ZK,Jo,B! hd.ne0,B0 B6]
 by_cases h2:geq f 2=true
 ·rw[B0 h2]at hT hF;by_cases h8:p.length<8
  ·rw[B0 C2]at hT hF;rw[Aa]at hT;simp only at hT;rw[B0 B6]at hT;exact mkW hZ hF hT
  ·rw[B! C2]at hT hF;have h8':(p.take 8).length=8:=by rw[G!];omega
   rw[Dv,Aa,gY o ho,Aa]at hT;rw[Us,OQ,Dv,Aa,show(8:Int).toNat=8 from rfl,G9 h8' ho,Aa]at hF;rw[show(8:Int).toNat=8 from rfl]at hT;simp only at hF;rw[OI,QF,B! B6]at hF;by_cases he:(p.take 8==Tm (Vx o).toNat 8)=true
   ·rw[B! (by rw[bne,he];decide)]at hT;rw[B! (by rw[he];decide)]at hF;exact Aoi hd hp hpw 8 F0 hT hF
   ·have he':(p.take 8==Tm (Vx o).toNat 8)=false:=by simpa using he
    rw[B0 (by rw[bne,he'];decide),Aa]at hT;simp only at hT;rw[B0 B6]at hT;rw[B0 (by rw[he'];decide),Ao,Aa]at hF;simp only at hF;exact mkE B6 (hF.trans f75) hT
 ·rw[B! h2]at hT hF;exact Aoi hd hp hpw 0 F0 hT hF
theorem Awu(ho:o.length<=64)(hpw:(o==([]:LB))=decide (F=1))(hg:Vs g=true)(hl:g.length=(Al (Ah R) N).length)(A:Nat)(hA:A<=g.length)(hZ:SzD p g (A:Int) x):StepR bk o p f c w r n g (A:Int) x u v:=by
 have hp:=hZ.hp;have hx:=hZ.hx;have hc:=hd.ec;subst hc;have hg':=hg;rw[Vs,CT,D!,FB g 100000 F0]at hg';obtain⟨⟨g1,g2⟩,g5,g6⟩:=hg';have hgn:¬(geq (Ac g) 0=true):=by rw[Ar,Ac];simp;intro e;subst e;simp at g1
 have hT:Ag o p f (C:Int) w r n g (A:Int) x u v=Ag o p f (C:Int) w r n g (A:Int) x u v:=rfl
 conv at hT=>rhs;rw[Ag,Bq,B! hd.ne0,Bw,Bv,B! hgn]
 have hF:ZK bk o u v p f (C:Int) w r n (A:Int) g x=ZK bk o u v p f (C:Int) w r n (A:Int) g x:=rfl
 conv at hF=>rhs;rw[ZK,Jo,B! hd.ne0,B! hgn]
 by_cases hA2:A=g.length
 ·subst hA2;rw[B0 mg]at hT;rw[B! SG]at hF;by_cases h4:4000<p.length
  ·rw[B0 E4]at hT hF;rw[Ao,Aa]at hF;exact mkE B6 hF hT
  ·rw[B! E4]at hT hF;exact mkW hZ hF hT
 ·have hlt:A<g.length:=F0
  have h5:=g5 g[A] (HA hlt);have hsum:=P8 g5 g[A] (HA hlt);rw[B! mM,Dp,Ev,Bt hlt,Aa]at hT;rw[B0 C2,Bt hlt,Aa,Aa]at hF;by_cases hw:(p.length:Int)<g[A]
  ·rw[B0 (by rw[Af,Ac];simpa using hw)]at hT hF;rw[Aa]at hT;simp only at hT;rw[B0 B6]at hT;exact mkW hZ hF hT
  rw[B! (by rw[Af,Ac];simpa using hw)]at hT hF;have ER:=hd.num;have hlt2:A<(Al (Ah R) N).length:=F0
  obtain⟨m,hm,m1,m2⟩:=Wh (Es R) ER.2.2.2.2.1 (HA hlt2);have hb:Bn w:=by rw[hd.ew];unfold Bn;omega
  obtain⟨xs,e,d1,d2,d3,d4⟩:=HN (bits:=w) (ch:=C) (n:=m) (t:=Lt o) (p.take g[A].toNat) hb (Kt o) ER.2.1.1 ER.2.1.2 m1 F0;have hnn:=vK hb (Kt o) ER.2.1.1 ER.2.1.2 m1 F0 d2;rw[jL o ho,Aa]at hF;simp only at hF;rw[B! B6,hd.P7,Aa]at hF;simp only at hF;rw[B! (by simp[Aj,Eh,Ac];omega),Vv,OP,Bt hlt2,Aa,Dv,Aa,Aa,EC,Aa]at hF;simp only at hF;rw[hm,d1,Aa]at hF;simp only at hF;rw[TG o ho,Aa]at hT;simp only at hT;rw[Dv,Aa,Gc,Aa]at hT;simp only at hT;rw[hd.OB,Aa,Bt hlt2,Aa,Aa,hm]at hT;rw[d2,Aa]at hT;simp only at hT;rw[Ex,Et]at hT;rw[PL,CE]at hF;by_cases he:e≠0
  ·rw[B0 (by rw[Aj];simpa using he)]at hT hF;rw[Aa]at hT;simp only at hT;rw[B0 (by rw[Aj];simpa using he)]at hT;rw[Ao,Aa]at hF;exact mkE F0 hF hT
  ·have he0:e=0:=by simpa using he
   obtain⟨k1,k2,k3⟩:=d3 he0;have hbl:=GO w xs;have ht:((A:Int)).toNat=A:=rfl;rw[ht]at hx;rw[B! (by rw[Aj,he0];simp)]at hT hF;rw[PQ hb k2 k1,Aa,Aa]at hT;simp only at hT;rw[B! B6,Bi B8,Aa,HB,Bi,Aa,Aa,Cb,Aa,Ak]at hT;rw[aP hb k2 k1,Aa]at hF;simp only at hF;rw[B! B6,Bi,Aa,Cb,Aa,Ak]at hF;have e1:((A:Int)+1).toNat=A+1:=rfl;refine .next _ _ _ _ _ _ _ _ _ (by exact hF) hT (.tab _ _ _ _ _ (A+1) hd hpw hg hl rfl F0) ⟨by rw[H4];omega,hZ.hg,by rw[e1,CR];omega⟩ M9 ?_
   have hne:g≠ []:=by intro e;subst e;simp at g1
   rw[muD,muD,B! hd.fnz,B! hd.fnz,B! hne,B! hne,e1,ht];omega
end
theorem s_(hf:FitD o f c w r n g a x)(ho:o.length<=64)(hZ:SzD p g a x):StepR bk o p f c w r n g a x u v:=by
 cases hf with
 |new e1 e2 e3 e4 e5 e6 e7 e8=>subst e1 e2 e3 e4 e5 e6 e7 e8;exact Aul hZ.hp
 |head F C W R N h hpw e6 e7 e8=>subst e6 e7 e8;exact Arm h ho hZ.hp hpw
 |tab F C W R N A h hpw ht hl ea hA=>subst ea;exact Awu h ho hpw ht hl A hA hZ
end
abbrev Bgo:=LB×LB×Int×Int×Int×Int×Int×LI×Int×LB×Bool×Int×Int
theorem Awy:∀(j:Nat) (b:LB) (a:Nat),(OE j b a).2=0\/ (OE j b a).2=38
 |0,_,_=> .inr rfl
 |j+1,b,a=>by
  rw[OE];split
  ·exact .inl rfl
  ·split
   ·exact .inr rfl
   ·exact Awy j _ _
theorem yF(b:LB):(Oa b).2=0\/ (Oa b).2=38:=by
 rw[Oa];split
 ·exact .inr rfl
 ·exact Awy _ _ _
theorem bG{o p:LB}{f c w r n:Int}{g:LI}{a:Int}{x:LB}{u:Bool}{v:Int}(hp:p.length<=100000)(hg:g.length<=2000)(hx:x.length<=13000000):Ze o p f c w r n g a x u v=some (o,p,f,c,w,r,n,g,a,x,u,v):=by
 rw[Ze,Aew,Bi B8,Aa,Bi B8,Aa,Ag4,Afk,Bi B8,Aa];rfl
theorem Aqt{o p:LB}{f c w r n:Int}{g:LI}{a:Int}{x:LB}{u:Bool}{v:Int}(hp:p.length<=100000)(hg:g.length<=2000)(hx:x.length<=13000000):Eu o p f c w r n g a x u v=some (o,p,f,c,w,r,n,g,a,x,u,v):=by
 rw[Eu,Lr,Bi B8,Aa,Aa,Lr,Bi B8,Aa,Aa,Hr,Bi B8,Aa,Aa];rfl
theorem zP{o p:LB}{f c w r n:Int}{g:LI}{a:Int}{x:LB}{u:Bool}{v e:Int}(hx:x.length<=13000000):DW o p f c w r n g a x u v e=some (o,[],0,0,0,0,0,[],0,x,false,e,e):=by
 rw[DW,Awd,Bi B8,Aa];rfl
theorem Av1{p:LB}{f:Int}{g:LI}{a:Int}{x:LB}(h:SzD p g a x):muD f g a<1004:=by
 have:=h.hg;unfold muD;split
 ·omega
 ·split<;>omega
section
variable {o p:LB} {f c w r n:Int} {g:LI} {a:Int} {x:LB} {u:Bool} {v:Int} (hp:p.length<=20000) (hg:g.length<=2000) (hx:x.length<=13000000)
include hp hg hx
theorem sH{E:Int}(hE:Pz o p f c w r n g a x u v=some E):Ty o p f c w r n g a x u v=if E≠0 then some ([],[],0,0,0,0,0,[],0,[],false,0,E)else some (o,p,f,c,w,r,n,g,a,x,u,v,if v≠0 then v else if u=true then 36 else 0):=by
 rw[Ty,hE,Aa];by_cases h:E≠0
 ·rw[B0 (by rw[Aj];simpa using h),B0 h]
 rw[B! (by rw[Aj];simpa using h),B! h,Aqt F0 hg F0];by_cases hv:v≠0
 ·rw[B0 (by rw[Aj];simpa using hv),B0 hv,Aa]
 ·rw[B! (by rw[Aj];simpa using hv),B! hv];cases u<;>simp[Aa]
omit hg hx in
theorem Az2:∃e,JQ o p f c w r n g a x u v=some e/\Dd o p f c w r n g a x u v=some e:=by
 rw[JQ,Dd];by_cases h0:geq f 0=true
 ·rw[B0 h0,B0 h0,Ql p F0,CD p F0,Aa,Aa];have hok:=BP (b:=p);simp only;by_cases h2:(Bp p).2≠0
  ·rw[B0 (by rw[Aj];simpa using h2),B0 (by rw[Aj];simpa using h2)];exact⟨_,rfl,rfl⟩
  have h3:(Bp p).2=0:=by simpa using h2
  obtain⟨k1,k2,k3⟩:=hok h3;have hl:(Iy p).length<=p.length:=by rw[Iy,H4];omega
  rw[B! (by rw[Aj,h3];simp),B! (by rw[Aj,h3];simp),Cb,Aa,Aa,show p.drop (Bp p).1.toNat=Iy p from rfl,PY _ F0,iK _ F0,Aa];exact⟨_,rfl,rfl⟩
 ·rw[B! h0,B! h0,Bool.or_comm];by_cases h1:(geq (Ac g) 0||Ck a (Ac g))=true
  ·rw[B0 h1,B0 h1];exact⟨_,rfl,rfl⟩
  ·rw[B! h1,B! h1,Bcc p F0,C3 p F0,Aa,Aa];simp only;refine⟨(Oa p).2,rfl,?_⟩;rcases yF p with h|h
   ·rw[B! (by rw[h];decide),h]
   ·rw[B0 (by rw[h];decide),h]
end
theorem dL{β:Type}{o:Option α}{f:α->Option β}{r:β}(h:Option.bind o f=some r):∃x,o=some x/\f x=some r:=by
 cases o with
 |none=>cases h
 |some x=>exact⟨x,rfl,h⟩
theorem Axl{l:List α}{i:Int}{x:α}(h:Go.Lv.Am l i=some x):x∈l:=by
 unfold Go.Lv.Am at h;split at h
 ·exact RP h
 ·cases h
theorem Bef{o p:LB}(q:LB){f c w r n:Int}{g:LI}{a:Int}{x:LB}{u:Bool}{v:Int}{y:LB}{e:Int}(hg:∀z∈g,0<=z)(h:Dp o p f c w r n g a x u v=some (y,e))(he:e≠ -1):Dp o (p++q) f c w r n g a x u v=some (y,e):=by
 rw[Dp,Ev]at h⊢;obtain⟨l,hl,h⟩:=dL h;have hl0:=hg l (Axl hl);rw[hl,Aa];by_cases hc:(p.length:Int)<l
 ·rw[B0 (by rw[Af,Ac];simpa using hc)]at h;cases h;exact absurd rfl he
 ·have hc':¬(Ck (Ac (p++q)) l=true):=by rw[Af,Ac,CR];simp;omega
  rw[B! (by rw[Af,Ac];simpa using hc)]at h;rw[B! hc',Dv hl0 LG,Pe F0];rw[Dv hl0]at h;simpa only[Ex,Et]using h
theorem Ajd{f c w r n:Int}{F C W R N:Nat}(hd:HdI f c w r n F C W R N){p:LB}(q:LB)(hp:(p++q).length<=100000){A:Nat}(hA:A<=p.length){k:Int}{l:LI}{e:Int}(h:Ec p f c w r n (A:Int)=some (k,l,e))(he:e≠ -1):
  Ec (p++q) f c w r n (A:Int)=some (k,l,e)/\ (e=0->0<=k/\k<=p.length):=by
 have hp':p.length<=100000:=by rw[CR]at hp;omega
 obtain⟨_,t2,t3⟩:=S8 hd [] p hp' A hA 0 [] false 0;obtain⟨_,s2,_⟩:=S8 hd [] (p++q) hp A LG 0 [] false 0;rw[t2]at h;rw[s2,NN hA];by_cases h1:(Eo (p.drop A) (Al (Ah R) N).length).2=24
 ·rw[B0 h1]at h;cases h;exact absurd rfl he
 ·rw[B! h1]at h;rw[Ars q _ h1,B! h1];refine⟨h,λe0=>?_⟩;cases h;have:=t3 e0;constructor
  ·omega
  ·exact this
theorem Aeb{f c w r n:Int}{F C W R N:Nat}(hd:HdI f c w r n F C W R N){o p:LB}(q:LB)(hp:(p++q).length<=100000){k:Int}{l:LI}{e:Int}(h:Fk p f c w r n o=some (k,l,e))(he:e≠ -1):
  Fk (p++q) f c w r n o=some (k,l,e)/\ (e=0->0<=k/\k<=p.length):=by
 rw[Fk,If]at h⊢;by_cases hf:geq f 2=true
 ·rw[B0 hf]at h⊢;by_cases h8:p.length<8
  ·rw[B0 C2]at h;cases h;exact absurd rfl he
  ·have n1:¬(Ck (Ac p) 8=true):=by rw[Af,Ac];simp;omega
   have n2:¬(Ck (Ac (p++q)) 8=true):=by rw[Af,Ac,CR];simp;omega
   rw[B! n1,Dv B6,Aa]at h;rw[B! n2,Dv B6 LG,Aa,Pe (show(8:Int).toNat<=p.length from by simp;omega)];obtain⟨y,hy,h⟩:=dL h;rw[hy,Aa];by_cases hm:(p.take (8:Int).toNat !=y)=true
   ·rw[B0 hm]at h⊢;cases h;exact⟨rfl,λe=>by cases e⟩
   ·rw[B! hm]at h⊢;exact Ajd hd q hp (A:=8) F0 h he
 ·rw[B! hf]at h⊢;exact Ajd hd q hp (A:=0) F0 h he
theorem nJ{p q af:LB}{n:Int}(h:Bm p n (Ac p)=some af):Bm (p++q) n (Ac (p++q))=some (af++q):=by
 unfold Bm Ac at h⊢;split at h
 ·rename_i hc;cases h;rw[B0 ⟨hc.1,by rw[CR];omega,F0⟩];simp only[F!,ID];rw[NN F0]
 ·cases h
theorem sG{o p:LB}(q:LB){f c w r n:Int}{g:LI}{a:Int}{x:LB}{u:Bool}{v:Int}(hf:FitD o f c w r n g a x)(hp:(p++q).length<=100000){t1 t2:LB}{t3 t4 t5 t6 t7:Int}{t8:LI}{t9:Int}{t10:LB}{t11:Bool}{t12 e:Int}
  (h:Ag o p f c w r n g a x u v=some (t1,t2,t3,t4,t5,t6,t7,t8,t9,t10,t11,t12,e)) (he:e≠ -1):
  (e=0->Ag o (p++q) f c w r n g a x u v=some (t1,t2++q,t3,t4,t5,t6,t7,t8,t9,t10,t11,t12,0))/\
  (e≠0->∃(s1 s2:LB) (s3 s4 s5 s6 s7:Int) (s8:LI) (s9:Int) (s10:LB) (s11:Bool) (s12:Int),Ag o (p++q) f c w r n g a x u v=some (s1,s2,s3,s4,s5,s6,s7,s8,s9,s10,s11,s12,e)):=by
 have hp':p.length<=100000:=by rw[CR]at hp;omega
 have zero:¬(Bd (0:Int) 0=true):=B6
 rw[Ag,Bq]at h⊢;cases hf with
 |new e1 e2 e3 e4 e5 e6 e7 e8=>
  subst e1;rw[B0 B6,AE p hp',Aa]at h;rw[B0 B6,AE (p++q) hp,Aa];have hst:(stS p).2.2.2.2.2.2≠ -1->stS (p++q)=stS p:=Ayv q;generalize stS p=z at h hst;obtain⟨z1,z2,z3,z4,z5,z6,z7⟩:=z;simp only at h hst;by_cases hz:Bd z7 0=true
  ·rw[B0 hz]at h;simp only[D6,D5]at h;obtain⟨-, -, -, -, -, -, -, -, -, -, -, -,rfl⟩:=h;rw[hst he];simp only;rw[B0 hz];refine⟨λe0=>?_,λ_=>⟨_,_,_,_,_,_,_,_,_,_,_,_,rfl⟩⟩;rw[e0]at hz;exact absurd hz zero
  ·rw[B! hz]at h;have z70:z7=0:=by rw[Aj]at hz;simpa using hz
   rw[hst (by rw[z70];decide)];simp only;rw[B! hz];obtain⟨af,h1,h⟩:=dL h;rw[nJ h1,Aa];rw[Hl,Hj]at h⊢;obtain⟨aw,h2,h⟩:=dL h;rw[h2,Aa];simp only[D6,D5]at h;obtain⟨rfl,rfl,rfl,rfl,rfl,rfl,rfl,rfl,rfl,rfl,rfl,rfl,rfl⟩:=h;exact⟨λe0=>by rw[e0],λ_=>⟨_,_,_,_,_,_,_,_,_,_,_,_,rfl⟩⟩
 |head F C W R N hd hpw e6 e7 e8=>
  subst e6;have hfn:¬(geq f 0=true):=by rw[Ar];simpa using hd.fnz
  rw[B! hfn,Bw,Bv,B0 B6]at h⊢;obtain⟨⟨k,l,e1⟩,h1,h⟩:=dL h;simp only at h;by_cases hz:Bd e1 0=true
  ·rw[B0 hz]at h;simp only[D6,D5]at h;obtain⟨-, -, -, -, -, -, -, -, -, -, -, -,rfl⟩:=h;rw[(Aeb hd q hp h1 he).1,Aa];simp only;rw[B0 hz];refine⟨λe0=>?_,λ_=>⟨_,_,_,_,_,_,_,_,_,_,_,_,rfl⟩⟩;rw[e0]at hz;exact absurd hz zero
  ·rw[B! hz]at h;have z70:e1=0:=by rw[Aj]at hz;simpa using hz
   rw[(Aeb hd q hp h1 (by rw[z70];decide)).1,Aa];simp only;rw[B! hz];obtain⟨af,h2,h⟩:=dL h;rw[nJ h2,Aa];simp only[D6,D5]at h;obtain⟨rfl,rfl,rfl,rfl,rfl,rfl,rfl,rfl,rfl,rfl,rfl,rfl,rfl⟩:=h;exact⟨λe0=>rfl,λe0=>absurd rfl e0⟩
 |tab F C W R N A hd hpw ht hl ea hA=>
  have hfn:¬(geq f 0=true):=by rw[Ar];simpa using hd.fnz
  have ht':=ht;rw[Vs,CT,D!]at ht';have hgl:¬(geq (Ac g) 0=true):=by
   intro e;rw[Ar,Ac]at e;have hl1:=ht'.1.1;simp only[G3,D!]at e;omega
  rw[B! hfn,Bw,Bv,B! hgl]at h⊢;by_cases hend:geq a (Ac g)=true
  ·rw[B0 hend]at h⊢;by_cases hm:Ei (Ac p) 4000=true
   ·have hm':Ei (Ac (p++q)) 4000=true:=by rw[Aq,Ac]at hm⊢;simp only[D!]at hm⊢;rw[CR];omega
    rw[B0 hm]at h;rw[B0 hm'];simp only[D6,D5]at h;obtain⟨-, -, -, -, -, -, -, -, -, -, -, -,rfl⟩:=h;exact⟨(λe0=>by cases e0),λ_=>⟨_,_,_,_,_,_,_,_,_,_,_,_,rfl⟩⟩
   ·rw[B! hm]at h;simp only[D6,D5]at h;obtain⟨-, -, -, -, -, -, -, -, -, -, -, -,rfl⟩:=h;exact absurd rfl he
  ·rw[B! hend]at h⊢;have hpos:∀z∈g,0<=z:=by
    have:=(FB g 100000 F0).1 ht'.2;intro z hz;have:=this.1 z hz;omega
   obtain⟨⟨y,e1⟩,h1,h⟩:=dL h;simp only at h;by_cases hz:Bd e1 0=true
   ·rw[B0 hz]at h;simp only[D6,D5]at h;obtain⟨-, -, -, -, -, -, -, -, -, -, -, -,rfl⟩:=h;rw[Bef q hpos h1 he,Aa];simp only;rw[B0 hz];refine⟨λe0=>?_,λ_=>⟨_,_,_,_,_,_,_,_,_,_,_,_,rfl⟩⟩;rw[e0]at hz;exact absurd hz zero
   ·rw[B! hz]at h;have z70:e1=0:=by rw[Aj]at hz;simpa using hz
    rw[Bef q hpos h1 (by rw[z70];decide),Aa];simp only;rw[B! hz];obtain⟨an,h2,h⟩:=dL h;rw[h2,Aa];obtain⟨ah,h3,h⟩:=dL h;rw[h3,Aa];obtain⟨ad,h4,h⟩:=dL h;rw[h4,Aa];obtain⟨ae,h5,h⟩:=dL h;rw[nJ h5,Aa];simp only[D6,D5]at h;obtain⟨rfl,rfl,rfl,rfl,rfl,rfl,rfl,rfl,rfl,rfl,rfl,rfl,rfl⟩:=h;exact⟨λe0=>rfl,λe0=>absurd rfl e0⟩
theorem cV{p:Prop}(h:p:=by rw[mD (by omega)];decide):p:=h
def Bhe(o:LB)(K:Nat)(u:Bool)(v:Int)(X Y:Option Bgo):Prop:=∃(t1 t2:LB) (t3 t4 t5 t6 t7:Int) (t8:LI) (t9:Int) (t10:LB) (t11:Bool) (t12 e:Int),X=some (t1,t2,t3,t4,t5,t6,t7,t8,t9,t10,t11,t12,e)/\Y=some (t1,t2,t3,t4,t5,t6,t7,t8,t9,t10,t11,t12,e)/\t10.length<=13000000/\
 (e=0->t1=o/\t2.length<=K/\FitD o t3 t4 t5 t6 t7 t8 t9 t10/\SzD t2 t8 t9 t10/\t11=u/\t12=v)
theorem Ak9(K:Nat):∀(k q1 q2:Nat) (o p:LB) (f c w r n:Int) (g:LI) (a:Int) (x:LB) (u:Bool) (v:Int),FitD o f c w r n g a x->o.length<=64->SzD p g a x->p.length<=K->muD f g a<k->k<=q1->k<=q2->
  Bhe o K u v (Bf o u v q1 p f c w r n a g x) (Bj q2 o p f c w r n g a x u v)
 |0,_,_,_,_,_,_,_,_,_,_,_,_,_,_,_,_,_,_,h,_,_=>by omega
 |k+1,q1,q2,o,p,f,c,w,r,n,g,a,x,u,v,hf,ho,hZ,hK,hm,h1,h2=>by
  obtain⟨q1,rfl⟩:∃q,q1=q+1:=⟨q1-1,F0⟩;obtain⟨q2,rfl⟩:∃q,q2=q+1:=⟨q2-1,F0⟩;have hx:x.length<=13000000:=by have:=hZ.hx;omega
  rw[Bf,Bj,Cr];have hS:StepR (Bf o u v q1) o p f c w r n g a x u v:=s_ hf ho hZ;cases hS with
  |wait hF hT=>
   rw[hT,Aa];simp only;rw[B0 B6,bG hZ.hp (by have:=hZ.hg;omega) hx,Aa];exact⟨_,_,_,_,_,_,_,_,_,_,_,_,_,hF,rfl,hx,λ_=>⟨rfl,hK,hf,hZ,rfl,rfl⟩⟩
  |err e he hF hT=>
   rw[hT,Aa];simp only;rw[B! cV,B0 F_,zP hx,Aa];exact⟨_,_,_,_,_,_,_,_,_,_,_,_,_,hF,rfl,hx,λh=>absurd h F0⟩
  |next p' f' c' w' r' n' g' a' x' hF hT hf' hZ' hle hmu=>
   rw[hT,Aa];simp only;rw[B! B6,B! B6];have ih:=Ak9 K k q1 q2 o p' f' c' w' r' n' g' a' x' u v hf' ho hZ' F0 F0 F0 F0;have hF':Jo (Qh (Bf o u v q1) o u v) (Uq (Bf o u v q1) o u v) (Mx (Bf o u v q1) o u v) (Us (Bf o u v q1) o u v) (Nd (Bf o u v q1) o u v) (Qg (Bf o u v q1) o u v) (Vv (Bf o u v q1) o u v) (Cs (Bf o u v q1) o u v) (CK (Bf o u v q1) o u v) o u v p f c w r n a g x=Bf o u v q1 p' f' c' w' r' n' a' g' x':=hF;rw[hF'];exact ih
theorem Bhc{o p:LB}{f c w r n:Int}{g:LI}{a:Int}{x:LB}(ho:o.length<=64)(hf:FitD o f c w r n g a x)(hZ:SzD p g a x)(b:LB)(hp:p.length<=20000)(hb:b.length<=20000):
  Bhe o (p.length+b.length) false 0 (Kv o p f c w r n g a x false 0 b) (Kr o p f c w r n g a x false 0 b):=by
 have hx:x.length<=13000000:=by have:=hZ.hx;omega
 have hg:g.length<=2000:=by have:=hZ.hg;omega
 obtain⟨E,e1,e2⟩:=V? o p f c w r n g a x false 0 F0 F0 F0;rw[Kv,Xq,sH hp hg hx e1,Kr,Tf,e2,Aa];by_cases h:E≠0
 ·rw[B0 h,Aa,B0 (by rw[Aj];simpa using h)];simp only;rw[B0 (by rw[Aj];simpa using h)];exact⟨_,_,_,_,_,_,_,_,_,_,_,_,_,rfl,rfl,B7,λh'=>absurd h' h⟩
 have h0:E=0:=by simpa using h
 subst h0;have hE:¬(Bd (0:Int) 0=true):=B6
 rw[B! h,Aa,B! hE,bG F0 hg F0,Aa];simp only;have hF:¬(false=true):=B6
 rw[Te,B! (show ¬((0:Int)≠0)from λh=>h rfl),B! hF]
 repeat (first|rw[Aa]|rw[B! hE]|rw[B! hF])
 rw[Bi];rw[Aa,Aa];have hZ':SzD (p++b) g a x:=⟨by rw[CR];omega,hZ.hg,hZ.hx⟩;exact Ak9 _ 1004 Au Au o (p++b) f c w r n g a x false 0 hf ho hZ' (by rw[CR];exact E1 _) (Av1 hZ') D1 D1
def OutB(f c w r n:Int)(g:LI)(a:Int)(x:LB):Prop:=∀(F C W R N A:Nat),HdI f c w r n F C W R N->g≠ []->a=(A:Int)-> (x.length:Int)<=IA C W (Al (Ah R) N) A
theorem OutB.nil{f c w r n:Int}{a:Int}{x:LB}:OutB f c w r n [] a x:=λ_ _ _ _ _ _ _ h=>absurd rfl h
theorem OutB.zero{f c w r n:Int}{g:LI}:OutB f c w r n g 0 []:=λF C W R N A h hg ha=>by
 obtain rfl:A=0:=F0
 rw[Aky];simp
theorem Alz{o p:LB}{f c w r n:Int}{F C W R N:Nat}(hd:HdI f c w r n F C W R N)(ho:o.length<=64)(hp:p.length<=100000){g:LI}(ht:Vs g=true)(hl:g.length=(Al (Ah R) N).length){A:Nat}(hA:A<g.length){x:LB}{u:Bool}{v:Int}{y:LB}{e:Int}
  (h:Dp o p f c w r n g (A:Int) x u v=some (y,e)) (he:e=0):∃m:Nat,(Al (Ah R) N)[A]' F0=(m:Int)/\y.length=m*C*wB (W:Int):=by
 subst he;have hlt2:A<(Al (Ah R) N).length:=F0
 have ER:=hd.num;rw[Vs,CT,D!,FB g 100000 F0]at ht;obtain⟨ht1,g5,gs⟩:=ht;have h5:=g5 g[A] (HA hA);rw[Dp,Ev,Bt hA,Aa]at h;by_cases hw:(p.length:Int)<g[A]
 ·rw[B0 (by rw[Af,Ac];simpa using hw)]at h;cases h
 rw[B! (by rw[Af,Ac];simpa using hw)]at h;obtain⟨m,hm,m1,m2⟩:=Wh (Es R) ER.2.2.2.2.1 (HA hlt2);have hb:Bn w:=by rw[hd.ew];unfold Bn;omega
 obtain⟨xs,e,d1,d2,d3,d4⟩:=HN (bits:=w) (ch:=C) (n:=m) (t:=Lt o) (p.take g[A].toNat) hb (Kt o) ER.2.1.1 ER.2.1.2 m1 F0;rw[TG o ho,Aa]at h;simp only at h;rw[Dv,Aa,Gc,Aa]at h;simp only at h;rw[hd.OB,Aa,Bt hlt2,Aa,Aa,hm,hd.ec]at h;rw[d2,Aa]at h;simp only at h;rw[Ex,Et]at h;by_cases he:e≠0
 ·rw[B0 (by rw[Aj];simpa using he)]at h;cases h;exact absurd rfl he
 ·have he0:e=0:=by simpa using he
  obtain⟨k1,k2,k3⟩:=d3 he0;rw[B! (by rw[Aj,he0];simp),PQ hb k2 k1,Aa]at h;cases h;refine⟨m,hm,?_⟩;rw[HD hb,k3,hd.ew]
theorem Awl{o p:LB}{f c w r n:Int}{g:LI}{a:Int}{x:LB}{u:Bool}{v:Int}(hf:FitD o f c w r n g a x)(ho:o.length<=64)(hZ:SzD p g a x)(hO:OutB f c w r n g a x){t1 t2:LB}{t3 t4 t5 t6 t7:Int}{t8:LI}{t9:Int}{t10:LB}{t11:Bool}{t12:Int}
  (h:Ag o p f c w r n g a x u v=some (t1,t2,t3,t4,t5,t6,t7,t8,t9,t10,t11,t12,0)):OutB t3 t4 t5 t6 t7 t8 t9 t10:=by
 have hp':=hZ.hp;have zero:¬(Bd (0:Int) 0=true):=B6
 rw[Ag,Bq]at h;cases hf with
 |new e1 e2 e3 e4 e5 e6 e7 e8=>
  subst e1 e6 e7 e8;rw[B0 B6,AE p hp',Aa]at h;generalize stS p=z at h;obtain⟨z1,z2,z3,z4,z5,z6,z7⟩:=z;simp only at h;by_cases hz:Bd z7 0=true
  ·rw[B0 hz]at h;simp only[D6,D5]at h;obtain⟨-, -, -, -, -, -, -,rfl, -⟩:=h;exact OutB.nil
  ·rw[B! hz]at h;obtain⟨af,h1,h⟩:=dL h;rw[Hl,Hj]at h;obtain⟨aw,h2,h⟩:=dL h;simp only[D6,D5]at h;obtain⟨-, -, -, -, -, -, -,rfl, -⟩:=h;exact OutB.nil
 |head F C W R N hd hpw e6 e7 e8=>
  subst e6 e7 e8;have hfn:¬(geq f 0=true):=by rw[Ar];simpa using hd.fnz
  rw[B! hfn,Bw,Bv,B0 B6]at h;obtain⟨⟨k,l,e1⟩,h1,h⟩:=dL h;simp only at h;by_cases hz:Bd e1 0=true
  ·rw[B0 hz]at h;simp only[D6,D5]at h;obtain⟨-, -, -, -, -, -, -,rfl, -⟩:=h;exact OutB.nil
  ·rw[B! hz]at h;obtain⟨af,h2,h⟩:=dL h;simp only[D6,D5]at h;obtain⟨-, -, -, -, -, -, -, -,rfl,rfl, -⟩:=h;exact OutB.zero
 |tab F C W R N A hd hpw ht hl ea hA=>
  subst ea;have hfn:¬(geq f 0=true):=by rw[Ar];simpa using hd.fnz
  have ht':=ht;rw[Vs,CT,D!]at ht';have hgl:¬(geq (Ac g) 0=true):=by
   intro e;rw[Ar,Ac]at e;have hl1:=ht'.1.1;simp only[G3,D!]at e;omega
  have hne:g≠ []:=by intro e;subst e;simp at ht'
  rw[B! hfn,Bw,Bv,B! hgl]at h;by_cases hend:geq (A:Int) (Ac g)=true
  ·rw[B0 hend]at h;by_cases hm:Ei (Ac p) 4000=true
   ·rw[B0 hm]at h;simp only[D6,D5]at h;exact absurd h.2.2.2.2.2.2.2.2.2.2.2.2 B6
   ·rw[B! hm]at h;simp only[D6,D5]at h;exact absurd h.2.2.2.2.2.2.2.2.2.2.2.2 B6
  ·rw[B! hend]at h;have hlt:A<g.length:=by
    rw[Ar,Ac]at hend;simp only[G3]at hend;omega
   obtain⟨⟨y,e1⟩,h1,h⟩:=dL h;simp only at h;by_cases hz:Bd e1 0=true
   ·rw[B0 hz]at h;simp only[D6,D5]at h;have:=h.2.2.2.2.2.2.2.2.2.2.2.2;rw[this]at hz;exact absurd hz zero
   ·rw[B! hz]at h;have z70:e1=0:=by rw[Aj]at hz;simpa using hz
    obtain⟨m,hm,hy⟩:=Alz hd ho hp' ht hl hlt h1 z70;obtain⟨an,h2,h⟩:=dL h;obtain⟨ah,h3,h⟩:=dL h;obtain⟨ad,h4,h⟩:=dL h;obtain⟨ae,h5,h⟩:=dL h;simp only[D6,D5]at h;obtain⟨-, -,rfl,rfl,rfl,rfl,rfl,rfl,rfl,rfl, -⟩:=h;intro F' C' W' R' N' A' hd' _ ha';have eqs:C'=C/\W'=W/\R'=R/\N'=N:=by
     have q1:=hd.ec.symm.trans hd'.ec;have q2:=hd.ew.symm.trans hd'.ew;have q3:=hd.er.symm.trans hd'.er;have q4:=hd.en.symm.trans hd'.en;omega
    obtain⟨rfl,rfl,rfl,rfl⟩:=eqs;have hold:=hO F C' W' R' N' A hd hne rfl;have e2:Ad (A:Int) 1=((A+1:Nat):Int):=by rw[Ak];omega
    rw[e2]at ha';obtain rfl:A'=A+1:=F0
    have hah:ah.length=x.length+y.length:=by
     unfold Ds at h2 h3;split at h2
     ·cases h2;split at h3
      ·cases h3;simp
      ·cases h3
     ·cases h2
    have hpos:∀z∈Al (Ah R') N',0<=z:=by
     intro z hz;obtain⟨m,hm,m1,m2⟩:=Wh (Es R') hd.num.2.2.2.2.1 hz;omega
    rw[Akx C' W' hpos F0 hm,hah,hy];omega
theorem Beg{o p:LB}{f c w r n:Int}{g:LI}{a:Int}{x:LB}(hf:FitD o f c w r n g a x)(ho:o.length<=64)(hO:OutB f c w r n g a x){t1 t2:LB}{t3 t4 t5 t6 t7:Int}{t8:LI}{t9:Int}{t10:LB}{t11:Bool}{t12:Int}
  (h:Ag o p f c w r n g a x false 0=some (t1,t2,t3,t4,t5,t6,t7,t8,t9,t10,t11,t12, -1)):Ek o p f c w r n g a x false 0=some 0:=by
 have h4:Cw o p f c w r n g a x false 0=some true:=by
  rw[Cw,Yy,h,Aa];rfl
 have hr:Mz o p f c w r n g a x false 0=some true:=by
  rw[Mz,Yv];cases hf with
  |new e1 e2 e3 e4 e5 e6 e7 e8=>
   subst e1 e2 e3 e4 e5 e6 e7 e8;rw[B0 B6,B! B6];exact h4
  |head F C W R N hd hpw e6 e7 e8=>
   subst e6 e7 e8;have hz:¬(((geq f 0)&&((geq c 0)&&((geq w 0)&&((geq r 0)&&((geq n 0)&&true)))))=true):=by
    simp only[CT,Ar,G3,M4];exact λe=>hd.fnz e.1
   have hff:geq f 1=decide (F=1):=by rw[hd.ef,Ar,F?];simp;omega
   rw[B! hz,hd.check,Aa,B! B6,Fa,hff,hpw,B! B7,Aa,B! B6,Rm,Rk,B0 B6,B! B6];exact h4
  |tab F C W R N A hd hpw ht hl ea hA=>
   subst ea;have hz:¬(((geq f 0)&&((geq c 0)&&((geq w 0)&&((geq r 0)&&((geq n 0)&&true)))))=true):=by
    simp only[CT,Ar,G3,M4];exact λe=>hd.fnz e.1
   have hff:geq f 1=decide (F=1):=by rw[hd.ef,Ar,F?];simp;omega
   have ht':=ht;rw[Vs,CT,D!]at ht';have hgl:¬(geq (Ac g) 0=true):=by
    intro e;rw[Ar,Ac]at e;have hl1:=ht'.1.1;simp only[G3,D!]at e;omega
   have hne:g≠ []:=by intro e;subst e;simp at ht'
   have hout:=hO F C W R N A hd hne rfl;rw[B! hz,hd.check,Aa,B! B6,Fa,hff,hpw,B! B7,Aa,B! B6,Rm,Rk,B! hgl,fT,Aa,B0 ht,B! B6,hd.OB,Aa];rw[B! cY];obtain⟨rfl,rfl,rfl,rfl,rfl,hs,hfit⟩:=hd;rw[Afv hs hfit A F0,Aa,B! E4];exact h4
 have hO':¬(Ei (Ac o) 64=true):=by rw[Aq,Ac];simp;omega
 rw[Ek,B! hO',B0 B6,hr,Aa];rfl
theorem Aq1{o p:LB}{f c w r n:Int}{F C W R N:Nat}(hd:HdI f c w r n F C W R N)(ho:o.length<=64)(hp:p.length<=100000){g:LI}(ht:Vs g=true)(hl:g.length=(Al (Ah R) N).length){A:Nat}(hA:A<g.length){x:LB}{u:Bool}{v:Int}{y:LB}{e:Int}
  (h:Dp o p f c w r n g (A:Int) x u v=some (y,e)) (he:e≠ -1):Cd e:=by
 have hlt2:A<(Al (Ah R) N).length:=F0
 have ER:=hd.num;rw[Vs,CT,D!,FB g 100000 F0]at ht;obtain⟨ht1,g5,gs⟩:=ht;have h5:=g5 g[A] (HA hA);rw[Dp,Ev,Bt hA,Aa]at h;by_cases hw:(p.length:Int)<g[A]
 ·rw[B0 (by rw[Af,Ac];simpa using hw)]at h;cases h;exact absurd rfl he
 rw[B! (by rw[Af,Ac];simpa using hw)]at h;obtain⟨m,hm,m1,m2⟩:=Wh (Es R) ER.2.2.2.2.1 (HA hlt2);have hb:Bn w:=by rw[hd.ew];unfold Bn;omega
 obtain⟨xs,e',d1,d2,d3,d4⟩:=HN (bits:=w) (ch:=C) (n:=m) (t:=Lt o) (p.take g[A].toNat) hb (Kt o) ER.2.1.1 ER.2.1.2 m1 F0;have hcd:=yX hb (Kt o) ER.2.1.1 ER.2.1.2 m1 F0 d2;rw[TG o ho,Aa]at h;simp only at h;rw[Dv,Aa,Gc,Aa]at h;simp only at h;rw[hd.OB,Aa,Bt hlt2,Aa,Aa,hm,hd.ec]at h;rw[d2,Aa]at h;simp only at h;rw[Ex,Et]at h;by_cases he:e'≠0
 ·rw[B0 (by rw[Aj];simpa using he)]at h;cases h;exact hcd
 ·have he0:e'=0:=by simpa using he
  obtain⟨k1,k2,k3⟩:=d3 he0;rw[B! (by rw[Aj,he0];simp),PQ hb k2 k1,Aa]at h;cases h;exact .inl rfl
theorem Am5{f c w r n:Int}{F C W R N:Nat}(hd:HdI f c w r n F C W R N){p:LB}(hp:p.length<=100000){A:Nat}(hA:A<=p.length){k:Int}{l:LI}{e:Int}(h:Ec p f c w r n (A:Int)=some (k,l,e))(he:e≠ -1):Cd e:=by
 obtain⟨_,t2,t3⟩:=S8 hd [] p hp A hA 0 [] false 0;rw[t2]at h;by_cases h1:(Eo (p.drop A) (Al (Ah R) N).length).2=24
 ·rw[B0 h1]at h;cases h;exact absurd rfl he
 ·rw[B! h1]at h;cases h;exact Axj _ (L! hd.fit)
theorem Apk{f c w r n:Int}{F C W R N:Nat}(hd:HdI f c w r n F C W R N){o p:LB}(hp:p.length<=100000){k:Int}{l:LI}{e:Int}(h:Fk p f c w r n o=some (k,l,e))(he:e≠ -1):Cd e:=by
 rw[Fk,If]at h;by_cases hf:geq f 2=true
 ·rw[B0 hf]at h;by_cases h8:p.length<8
  ·rw[B0 C2]at h;cases h;exact absurd rfl he
  ·have n1:¬(Ck (Ac p) 8=true):=by rw[Af,Ac];simp;omega
   rw[B! n1]at h;obtain⟨z,hz,h⟩:=dL h;obtain⟨y,hy,h⟩:=dL h;by_cases hm:(z !=y)=true
   ·rw[B0 hm]at h;cases h;decide
   ·rw[B! hm]at h;exact Am5 hd hp (A:=8) F0 h he
 ·rw[B! hf]at h;exact Am5 hd hp (A:=0) F0 h he
theorem Bdn(p:LB):(stS p).2.2.2.2.2.2= -1\/Cd (stS p).2.2.2.2.2.2:=by
 unfold stS
 repeat' split
 ·exact .inl rfl
 ·exact .inr (S1 p)
 ·exact .inl rfl
 ·exact .inl rfl
 ·exact .inr (b? _)
theorem Bau{o p:LB}{f c w r n:Int}{g:LI}{a:Int}{x:LB}{u:Bool}{v:Int}(hf:FitD o f c w r n g a x)(ho:o.length<=64)(hp':p.length<=100000){t1 t2:LB}{t3 t4 t5 t6 t7:Int}{t8:LI}{t9:Int}{t10:LB}{t11:Bool}{t12 e:Int}
  (h:Ag o p f c w r n g a x u v=some (t1,t2,t3,t4,t5,t6,t7,t8,t9,t10,t11,t12,e)) (he:e≠ -1):Cd e:=by
 have zero:¬(Bd (0:Int) 0=true):=B6
 rw[Ag,Bq]at h;cases hf with
 |new e1 e2 e3 e4 e5 e6 e7 e8=>
  subst e1 e6 e7 e8;rw[B0 B6,AE p hp',Aa]at h;have hcd:=Bdn p;generalize stS p=z at h hcd;obtain⟨z1,z2,z3,z4,z5,z6,z7⟩:=z;simp only at h hcd;by_cases hz:Bd z7 0=true
  ·rw[B0 hz]at h;simp only[D6,D5]at h;obtain⟨-, -, -, -, -, -, -, -, -, -, -, -,rfl⟩:=h;exact hcd.resolve_left he
  ·rw[B! hz]at h;obtain⟨af,h1,h⟩:=dL h;rw[Hl,Hj,Fa]at h;obtain⟨aw,h2,h⟩:=dL h;simp only[D6,D5]at h;obtain⟨-, -, -, -, -, -, -, -, -, -, -, -,rfl⟩:=h;split at h2
   ·cases h2;decide
   ·cases h2;decide
 |head F C W R N hd hpw e6 e7 e8=>
  subst e6 e7 e8;have hfn:¬(geq f 0=true):=by rw[Ar];simpa using hd.fnz
  rw[B! hfn,Bw,Bv,B0 B6]at h;obtain⟨⟨k,l,e1⟩,h1,h⟩:=dL h;simp only at h;by_cases hz:Bd e1 0=true
  ·rw[B0 hz]at h;simp only[D6,D5]at h;obtain⟨-, -, -, -, -, -, -, -, -, -, -, -,rfl⟩:=h;exact Apk hd hp' h1 he
  ·rw[B! hz]at h;obtain⟨af,h2,h⟩:=dL h;simp only[D6,D5]at h;obtain⟨-, -, -, -, -, -, -, -, -, -, -, -,rfl⟩:=h;exact .inl rfl
 |tab F C W R N A hd hpw ht hl ea hA=>
  subst ea;have hfn:¬(geq f 0=true):=by rw[Ar];simpa using hd.fnz
  have ht':=ht;rw[Vs,CT,D!]at ht';have hgl:¬(geq (Ac g) 0=true):=by
   intro e;rw[Ar,Ac]at e;have hl1:=ht'.1.1;simp only[G3,D!]at e;omega
  rw[B! hfn,Bw,Bv,B! hgl]at h;by_cases hend:geq (A:Int) (Ac g)=true
  ·rw[B0 hend]at h;by_cases hm:Ei (Ac p) 4000=true
   ·rw[B0 hm]at h;simp only[D6,D5]at h;obtain⟨-, -, -, -, -, -, -, -, -, -, -, -,rfl⟩:=h;decide
   ·rw[B! hm]at h;simp only[D6,D5]at h;exact absurd h.2.2.2.2.2.2.2.2.2.2.2.2.symm he
  ·rw[B! hend]at h;have hlt:A<g.length:=by
    rw[Ar,Ac]at hend;simp only[G3]at hend;omega
   obtain⟨⟨y,e1⟩,h1,h⟩:=dL h;simp only at h;by_cases hz:Bd e1 0=true
   ·rw[B0 hz]at h;simp only[D6,D5]at h;obtain⟨-, -, -, -, -, -, -, -, -, -, -, -,rfl⟩:=h;exact Aq1 hd ho hp' ht hl hlt h1 he
   ·rw[B! hz]at h;obtain⟨an,h2,h⟩:=dL h;obtain⟨ah,h3,h⟩:=dL h;obtain⟨ad,h4,h⟩:=dL h;obtain⟨ae,h5,h⟩:=dL h;simp only[D6,D5]at h;obtain⟨-, -, -, -, -, -, -, -, -, -, -, -,rfl⟩:=h;exact .inl rfl
theorem Auq{o:LB}{f c w r n:Int}{g:LI}{a:Int}{x:LB}(hf:FitD o f c w r n g a x)(hO:OutB f c w r n g a x):x.length<=12000:=by
 cases hf with
 |new e1 e2 e3 e4 e5 e6 e7 e8=>subst e8;simp
 |head F C W R N hd hpw e6 e7 e8=>subst e8;simp
 |tab F C W R N A hd hpw ht hl ea hA=>
  have hne:g≠ []:=by intro e;subst e;simp[Vs]at ht
  have h:=hO F C W R N A hd hne ea;obtain⟨g1,g2,g3⟩:=PZ hd.shape hd.fit;have b:=mY g1 A;have ER:=hd.num;have hw:=(Z5 (W:Int)).2;have hN:N*C<=4000:=by
   have h1:=EK C ER.2.2.2.2.2.1;have h2:=LK 4000 C;omega
  have hs:((Al (Ah R) N).take A).sum.toNat<=N:=F0
  rw[IA]at h;have hb:((Al (Ah R) N).take A).sum.toNat*(C*wB (W:Int))<=4000*3:=by
   have h1:=EK (C*wB (W:Int)) hs;have h2:=IP hN hw;rw[<-I0 N]at h1;omega
  omega
theorem xN{o x:LB}{e:Int}(ho:o.length<=64)(hx:x.length<=12000)(he:Cd e)(h0:0<e):Ek o [] 0 0 0 0 0 [] 0 x false e=some 0:=by
 have hO':¬(Ei (Ac o) 64=true):=by rw[Aq,Ac];simp;omega
 have hX:Ei (Ac x) 12000=false:=by rw[Aq,Ac];simp;omega
 rw[Ek,B! hO',B! GZ,B0 B6,hX,B! B6,B0 F_,B! B6];obtain rfl|rfl|rfl|rfl|rfl|rfl|rfl|rfl:=he
 ·omega
 all_goals rfl
theorem xD:∀(k q1 q2:Nat) (o p:LB) (f c w r n:Int) (g:LI) (a:Int) (x:LB) (u:Bool) (v:Int),FitD o f c w r n g a x->o.length<=64->SzD p g a x->muD f g a<k->k<=q1->k<=q2->
  Bj q1 o p f c w r n g a x u v=Bj q2 o p f c w r n g a x u v
 |0,_,_,_,_,_,_,_,_,_,_,_,_,_,_,_,_,_,h,_,_=>by omega
 |k+1,q1,q2,o,p,f,c,w,r,n,g,a,x,u,v,hf,ho,hZ,hm,h1,h2=>by
  obtain⟨q1,rfl⟩:∃q,q1=q+1:=⟨q1-1,F0⟩;obtain⟨q2,rfl⟩:∃q,q2=q+1:=⟨q2-1,F0⟩;rw[Bj,Bj,Cr,Cr];have hS:StepR (Bf o u v q1) o p f c w r n g a x u v:=s_ hf ho hZ;cases hS with
  |wait hF hT=>
   rw[hT,Aa,Aa];simp only;rw[B0 B6,B0 B6]
  |err e he hF hT=>
   rw[hT,Aa,Aa];simp only;rw[B! cV,B0 F_,B! cV,B0 F_]
  |next p' f' c' w' r' n' g' a' x' hF hT hf' hZ' hle hmu=>
   rw[hT,Aa,Aa];simp only;rw[B! B6,B! B6,B! B6,B! B6];exact xD k q1 q2 o p' f' c' w' r' n' g' a' x' u v hf' ho hZ' F0 F0 F0
structure Wt (o p:LB) (f c w r n:Int) (g:LI) (a:Int) (x:LB):Prop where
 fit:FitD o f c w r n g a x
 sz:SzD p g a x
 out:OutB f c w r n g a x
 wait:Ag o p f c w r n g a x false 0=some (o,p,f,c,w,r,n,g,a,x,false,0, -1)
abbrev Lh(q:Nat)(o p:LB)(f c w r n:Int)(g:LI)(a:Int)(x:LB):=Bj q o p f c w r n g a x false 0
theorem Ah0:∀(k q:Nat) (o p:LB) (f c w r n:Int) (g:LI) (a:Int) (x:LB),FitD o f c w r n g a x->o.length<=64->SzD p g a x->OutB f c w r n g a x->p.length<=100000->muD f g a<k->k<=q->
  (∃(t2:LB) (t3 t4 t5 t6 t7:Int) (t8:LI) (t9:Int) (t10:LB),Lh q o p f c w r n g a x=some (o,t2,t3,t4,t5,t6,t7,t8,t9,t10,false,0,0)/\Wt o t2 t3 t4 t5 t6 t7 t8 t9 t10/\t2.length<=p.length/\muD t3 t8 t9<k/\
   ∀b:LB,(p++b).length<=100000->Lh q o (p++b) f c w r n g a x=Lh q o (t2++b) t3 t4 t5 t6 t7 t8 t9 t10)\/
  (∃(x':LB) (e:Int),0<e/\Cd e/\x'.length<=12000/\∀b:LB,(p++b).length<=100000->Lh q o (p++b) f c w r n g a x=some (o,[],0,0,0,0,0,[],0,x',false,e,e))
 |0,_,_,_,_,_,_,_,_,_,_,_,_,_,_,_,_,h,_=>by omega
 |k+1,q,o,p,f,c,w,r,n,g,a,x,hf,ho,hZ,hO,hp,hm,h1=>by
  obtain⟨q,rfl⟩:∃q',q=q'+1:=⟨q-1,F0⟩;have hx:x.length<=13000000:=by have:=hZ.hx;omega
  have hS:StepR (Bf o false 0 q) o p f c w r n g a x false 0:=s_ hf ho hZ;cases hS with
  |wait hF hT=>
   refine .inl ⟨p,f,c,w,r,n,g,a,x,?_,⟨hf,hZ,hO,hT⟩,E1 _,hm,λb _=>rfl⟩;rw[Lh,Bj,Cr,hT,Aa];simp only;rw[B0 B6,bG hZ.hp (by have:=hZ.hg;omega) hx,Aa]
  |err e he hF hT=>
   refine .inr ⟨x,e,he,Bau hf ho hp hT F0,Auq hf hO,λb hL=>?_⟩;obtain⟨s1,s2,s3,s4,s5,s6,s7,s8,s9,s10,s11,s12,hs⟩:=(sG b hf hL hT F0).2 F0;rw[Lh,Bj,Cr,hs,Aa];simp only;rw[B! cV,B0 F_,zP hx,Aa]
  |next p' f' c' w' r' n' g' a' x' hF hT hf' hZ' hle hmu=>
   have hp':p'.length<=100000:=F0
   rcases Ah0 k q o p' f' c' w' r' n' g' a' x' hf' ho hZ' (Awl hf ho hZ hO hT) hp' F0 F0 with⟨t2,t3,t4,t5,t6,t7,t8,t9,t10,k1,k2,k3,k4,k5⟩|⟨x2,e,k1,k2,k3,k4⟩
   ·refine .inl ⟨t2,t3,t4,t5,t6,t7,t8,t9,t10,?_,k2,F0,F0,λb hL=>?_⟩
    ·rw[Lh,Bj,Cr,hT,Aa];simp only;rw[B! B6,B! B6];exact k1
    ·have hs:=(sG b hf hL hT B6).1 rfl;have hL':(p'++b).length<=100000:=by rw[CR]at hL⊢;omega
     rw[Lh,Bj,Cr,hs,Aa];simp only;rw[B! B6,B! B6];refine(k5 b hL').trans ?_;exact xD k q (q+1) o (t2++b) t3 t4 t5 t6 t7 t8 t9 t10 false 0 k2.fit ho ⟨by rw[CR]at hL⊢;omega,k2.sz.hg,k2.sz.hx⟩ k4 F0 F0
   ·refine .inr ⟨x2,e,k1,k2,k3,λb hL=>?_⟩;have hs:=(sG b hf hL hT B6).1 rfl;have hL':(p'++b).length<=100000:=by rw[CR]at hL⊢;omega
    rw[Lh,Bj,Cr,hs,Aa];simp only;rw[B! B6,B! B6];exact k4 b hL'
abbrev Fd(o s:LB):=Lh Au o s 0 0 0 0 0 [] 0 []
inductive Bh (o s:LB):LB->Int->Int->Int->Int->Int->LI->Int->LB->Int->Prop
 |wt {p:LB} {f c w r n:Int} {g:LI} {a:Int} {x:LB}:Wt o p f c w r n g a x->p.length<=s.length-> (∀b:LB,(s++b).length<=100000->Fd o (s++b)=Lh Au o (p++b) f c w r n g a x)->Bh o s p f c w r n g a x 0
 |er {x:LB} {e:Int}:0<e->Cd e->x.length<=12000-> (∀b:LB,(s++b).length<=100000->Fd o (s++b)=some (o,[],0,0,0,0,0,[],0,x,false,e,e))->Bh o s [] 0 0 0 0 0 [] 0 x e
variable {o s p:LB} {f c w r n:Int} {g:LI} {a:Int} {x:LB} {e:Int}
theorem Wt.stop(W:Wt o p f c w r n g a x):Lh Au o p f c w r n g a x=some (o,p,f,c,w,r,n,g,a,x,false,0,0):=by
 obtain⟨q,hq⟩:∃q,Au=q+1:=⟨Au-1,by have:=As;omega⟩;have hx:x.length<=13000000:=by have:=W.sz.hx;omega
 rw[Lh,hq,Bj,Cr,W.wait,Aa];simp only;rw[B0 B6,bG W.sz.hp (by have:=W.sz.hg;omega) hx,Aa]
theorem Bh.fd(h:Bh o s p f c w r n g a x e)(hs:s.length<=100000):Fd o s=some (o,p,f,c,w,r,n,g,a,x,false,e,e):=by
 cases h with
 |wt W hl hb=>
  have:=hb [] (by simpa using hs);rw[GY,GY]at this;rw[this,W.stop]
 |er h0 hc hx hb=>
  have:=hb [] (by simpa using hs);rw[GY]at this;exact this
theorem Bh.new(ho:o.length<=64):Bh o [] [] 0 0 0 0 0 [] 0 [] 0:=by
 refine .wt ⟨.new rfl rfl rfl rfl rfl rfl rfl rfl,⟨B7,B7,B7⟩,OutB.nil,?_⟩ (E1 _) λb _=>rfl;rw[Ag,Bq,B0 B6,AE [] B7,Aa];rfl
theorem Bbm(ho:o.length<=64)(W:Wt o p f c w r n g a x)(b:LB)(hp:p.length<=20000)(hb:b.length<=20000):
  Kv o p f c w r n g a x false 0 b=Lh Au o (p++b) f c w r n g a x/\Kr o p f c w r n g a x false 0 b=Lh Au o (p++b) f c w r n g a x:=by
 have hR:Kr o p f c w r n g a x false 0 b=Lh Au o (p++b) f c w r n g a x:=by
  have hx:x.length<=13000000:=by have:=W.sz.hx;omega
  have hg:g.length<=2000:=by have:=W.sz.hg;omega
  have hE:¬(Bd (0:Int) 0=true):=B6
  have hF:¬(false=true):=B6
  rw[Kr,Tf,Beg W.fit ho W.out W.wait,Aa,B! hE,bG F0 hg hx,Aa];simp only;rw[Te]
  repeat (first|rw[Aa]|rw[B! hE]|rw[B! hF])
  rw[Bi,Aa];rfl
 obtain⟨t1,t2,t3,t4,t5,t6,t7,t8,t9,t10,t11,t12,e,h1,h2,_⟩:=Bhc ho W.fit W.sz b hp hb;exact⟨h1.trans (h2.symm.trans hR),hR⟩
theorem Bh.check(ho:o.length<=64)(h:Bh o s p f c w r n g a x e)(hp:p.length<=100000):Pz o p f c w r n g a x false e=some 0/\Ek o p f c w r n g a x false e=some 0:=by
 have key:Ek o p f c w r n g a x false e=some 0/\g.length<=1000/\x.length<=13000000:=by
  cases h with
  |wt W hl hb=>exact⟨Beg W.fit ho W.out W.wait,W.sz.hg,by have:=W.sz.hx;omega⟩
  |er h0 hc hx hb=>exact⟨xN ho hx hc h0,B7,F0⟩
 obtain⟨k1,k2,k3⟩:=key;obtain⟨E,e1,e2⟩:=V? o p f c w r n g a x false e hp F0 F0;rw[k1]at e2;cases e2;exact⟨e1,k1⟩
theorem Bh.feed(ho:o.length<=64)(h:Bh o s p f c w r n g a x e)(hp:p.length<=20000)(b:LB)(hb:b.length<=20000)(hs:(s++b).length<=100000):
  ∃(p':LB) (f' c' w' r' n':Int) (g':LI) (a':Int) (x':LB) (e':Int),Kv o p f c w r n g a x false e b=some (o,p',f',c',w',r',n',g',a',x',false,e',e')/\
   Kr o p f c w r n g a x false e b=some (o,p',f',c',w',r',n',g',a',x',false,e',e')/\Bh o (s++b) p' f' c' w' r' n' g' a' x' e':=by
 have hck:=h.check ho F0;cases h with
 |wt W hl hB=>
  obtain⟨h1,h2⟩:=Bbm ho W b hp hb;have hpb:(p++b).length<=100000:=by rw[CR];omega
  have hZ:SzD (p++b) g a x:=⟨hpb,W.sz.hg,W.sz.hx⟩;rcases Ah0 1004 Au o (p++b) f c w r n g a x W.fit ho hZ W.out hpb (Av1 hZ) D1 with⟨t2,t3,t4,t5,t6,t7,t8,t9,t10,k1,k2,k3,k4,k5⟩|⟨x2,e,k1,k2,k3,k4⟩
  ·refine⟨t2,t3,t4,t5,t6,t7,t8,t9,t10,0,h1.trans k1,h2.trans k1, .wt k2 ?_ λb2 hL=>?_⟩
   ·rw[CR]at k3⊢;omega
   ·rw[E?,hB (b++b2) (by rw[<-E?];exact hL),<-E?];refine k5 b2 ?_;rw[CR,CR]at hL⊢;omega
  ·have k4':=k4 [] (by simpa using hpb);rw[GY]at k4';refine⟨_,_,_,_,_,_,_,_,_,_,h1.trans k4',h2.trans k4', .er k1 k2 k3 λb2 hL=>?_⟩;rw[E?,hB (b++b2) (by rw[<-E?];exact hL),<-E?];refine k4 b2 ?_;rw[CR,CR]at hL⊢;omega
 |er h0 hc hx hB=>
  have hne:Bd e 0=true:=by rw[Aj];simp;omega
  refine⟨_,_,_,_,_,_,_,_,_,_,?_,?_, .er h0 hc hx λb2 hL=>?_⟩
  ·rw[Kv,Xq,sH B7 B7 F0 hck.1,B! B6,Aa];simp only;rw[B0 (show e≠0 by omega),B0 hne]
  ·rw[Kr,Tf,hck.2,Aa,B! B6,bG B7 B7 F0,Aa];simp only;rw[Te,B0 hne,Aa,B0 hne]
  ·rw[E?];exact hB (b++b2) (by rw[<-E?];exact hL)
end Go.Pl
namespace Go.Pl
open Go Go.Lv
variable{u:Bool}{X t:LX}
section
variable {o s p:LB} {f c w r n:Int} {g:LI} {a:Int} {x:LB} {e:Int}
theorem FitD.drop(h:FitD o f c w r n g a x)(t:Nat):FitD o f c w r n g a (x.drop t):=by
 cases h with
 |new e1 e2 e3 e4 e5 e6 e7 e8=>subst e8;exact .new e1 e2 e3 e4 e5 e6 e7 B7
 |head F C W R N hd hpw e6 e7 e8=>subst e8;exact .head F C W R N hd hpw e6 e7 B7
 |tab F C W R N A hd hpw ht hl ea hA=>exact .tab F C W R N A hd hpw ht hl ea hA
theorem OutB.drop(h:OutB f c w r n g a x)(t:Nat):OutB f c w r n g a (x.drop t):=by
 intro F C W R N A hd hg ha;have:=h F C W R N A hd hg ha;rw[H4];omega
theorem Bh.Bbv(h:Bh o s p f c w r n g a x e):p.length<=s.length/\g.length<=1000/\x.length<=12000:=by
 cases h with
 |wt W hl hb=>exact⟨hl,W.sz.hg,Auq W.fit W.out⟩
 |er h0 hc hx hb=>exact⟨B7,B7,hx⟩
end
section
variable {o s p:LB} {f c w r n:Int} {g:LI} {a:Int} {x:LB} {e:Int}
theorem Ar3{v:Int}(hp:p.length<=20000)(h:Dd o p f c w r n g a x u v=some e):Cd e:=by
 rw[Dd]at h;split at h
 ·rw[CD p F0,Aa]at h;have hok:=BP (b:=p);simp only at h;by_cases h2:(Bp p).2≠0
  ·rw[B0 (by rw[Aj];simpa using h2)]at h;cases h;exact S1 p
  ·have h3:(Bp p).2=0:=by simpa using h2
   obtain⟨k1,k2,k3⟩:=hok h3;have hl:(Iy p).length<=p.length:=by rw[Iy,H4];omega
   rw[B! (by rw[Aj,h3];simp),Cb,Aa,show p.drop (Bp p).1.toNat=Iy p from rfl,iK _ F0,Aa]at h;cases h;exact b? _
 ·split at h
  ·cases h;decide
  ·obtain⟨⟨z1,z2⟩,hz,h⟩:=dL h;simp only at h;split at h<;>(cases h;decide)
theorem Bdu{v k:Int}(ho:o.length<=64)(hx:x.length<=12000)(hk:(u=false/\v=k/\0<k/\Cd k)\/ (u=true/\v=0/\k=36)):
  Pz o [] 0 0 0 0 0 [] 0 x u v=some 0/\ (∀b,Kv o [] 0 0 0 0 0 [] 0 x u v b=some (o,[],0,0,0,0,0,[],0,x,u,v,k))/\Hq o [] 0 0 0 0 0 [] 0 x u v=some (o,[],0,0,0,0,0,[],0,x,u,v,k):=by
 have key:Ek o [] 0 0 0 0 0 [] 0 x u v=some 0:=by
  rcases hk with⟨rfl,rfl,h1,h2⟩|⟨rfl,rfl,rfl⟩
  ·exact xN ho hx h2 h1
  ·have hX:Ei (Ac x) 12000=false:=by rw[Aq,Ac];simp;omega
   rw[Ek,B! E4,B! B6,B0 B6,hX,B! B6,B! B6]
 obtain⟨E,e1,e2⟩:=V? o [] 0 0 0 0 0 [] 0 x u v B7 B7 F0;rw[key]at e2;cases e2;have hv:(if v≠0 then v else if u=true then 36 else 0)=k:=by
  rcases hk with⟨rfl,rfl,h1,h2⟩|⟨rfl,rfl,rfl⟩
  ·rw[B0 F0]
  ·rfl
 have hk0:Bd k 0=true:=by
  rw[Aj];rcases hk with⟨rfl,rfl,h1,h2⟩|⟨rfl,rfl,rfl⟩
  ·simp;omega
  ·rfl
 have hb:=sH (o:=o) (p:=[]) (f:=0) (c:=0) (w:=0) (r:=0) (n:=0) (g:=[]) (a:=0) (x:=x) (u:=u) (v:=v) B7 B7 F0 e1;rw[B! B6,hv]at hb;refine⟨e1,λb=>?_,?_⟩
 ·rw[Kv,Xq,hb,Aa];simp only;rw[B0 hk0]
 ·rw[Hq,hb,Aa];simp only;rw[B0 hk0]
theorem Bh.finish(ho:o.length<=64)(h:Bh o s p f c w r n g a x e)(hp:p.length<=20000):
  ∃(u:Bool) (v k:Int),Hq o p f c w r n g a x false e=some (o,[],0,0,0,0,0,[],0,x,u,v,k)/\ ((u=false/\v=k/\0<k/\Cd k/\ (e=0\/e=k))\/ (u=true/\v=0/\k=0)):=by
 have hs:=h.Bbv;have hck:=(h.check ho F0).1;have hb:=sH (o:=o) (p:=p) (f:=f) (c:=c) (w:=w) (r:=r) (n:=n) (g:=g) (a:=a) (x:=x) (u:=false) (v:=e) F0 F0 F0 hck;rw[B! B6]at hb;cases h with
 |wt W hl hB=>
  obtain⟨e1,d1,d2⟩:=Az2 (o:=o) (p:=p) (f:=f) (c:=c) (w:=w) (r:=r) (n:=n) (a:=a) (u:=false) (v:=0) (g:=g) (x:=x) hp;have hcd:=Ar3 hp d2;rw[Hq,hb,Aa];simp only;rw[B! B6,d1,Aa];by_cases he:Bd e1 0=true
  ·rw[B0 he];refine⟨false,e1,e1,rfl, .inl ⟨rfl,rfl,?_,hcd,B7⟩⟩;have:=hcd.nn;rw[Aj]at he;simp only[N1]at he;omega
  ·rw[B! he];exact⟨true,0,0,rfl, .inr ⟨rfl,rfl,rfl⟩⟩
 |er h0 hc hx hB=>
  have hne:Bd e 0=true:=by rw[Aj];simp;omega
  rw[Hq,hb,Aa];simp only;rw[B0 (show e≠0 by omega),B0 hne];exact⟨false,e,e,rfl, .inl ⟨rfl,rfl,h0,hc, .inr rfl⟩⟩
end
section
variable {o p:LB} {f c w r n:Int} {g:LI} {a:Int} {x:LB} {q:Nat}
theorem BQ(hp:p.length<=100000)(hg:g.length<=1000)(hx:x.length<=13000000)(h:Ag o p f c w r n g a x false 0=some (o,p,f,c,w,r,n,g,a,x,false,0, -1)):Lh (q+1) o p f c w r n g a x=some (o,p,f,c,w,r,n,g,a,x,false,0,0):=by
 rw[Lh,Bj,Cr,h,Aa];simp only;rw[B0 B6,bG hp F0 hx,Aa]
theorem TL(hx:x.length<=13000000){e:Int}(he:0<e){t2:LB}{t3 t4 t5 t6 t7:Int}{t8:LI}{t9:Int}{t11:Bool}{t12:Int}(h:Ag o p f c w r n g a x false 0=some (o,t2,t3,t4,t5,t6,t7,t8,t9,x,t11,t12,e)):Lh (q+1) o p f c w r n g a x=some (o,[],0,0,0,0,0,[],0,x,false,e,e):=by
 rw[Lh,Bj,Cr,h,Aa];simp only;rw[B! cV,B0 F_,zP hx,Aa]
theorem vN{p':LB}{f' c' w' r' n':Int}{g':LI}{a':Int}{x':LB}(h:Ag o p f c w r n g a x false 0=some (o,p',f',c',w',r',n',g',a',x',false,0,0)):Lh (q+1) o p f c w r n g a x=Lh q o p' f' c' w' r' n' g' a' x':=by
 rw[Lh,Bj,Cr,h,Aa];simp only;rw[B! B6,B! B6]
end
def Ends(o:LB)(R:Option Bgo)(x:LB)(e:Int):Prop:=(0<e/\R=some (o,[],0,0,0,0,0,[],0,x,false,e,e))\/ (∃(p:LB) (f c w r n:Int) (g:LI) (a:Int),p.length<=100000/\R=some (o,p,f,c,w,r,n,g,a,x,false,0,0)/\Dd o p f c w r n g a x false 0=some e)
theorem Bdd(b p:LB)(hb:b.length<=20000)(hp:p.length<=64)(q:Nat):
  (∃e:Int,e≠0/\Dl b p=some (VB e)/\Ends p (Lh (q+2) p b 0 0 0 0 0 [] 0 []) [] e)\/ (∃f c w r n A l,Opn b p f c w r n A l/\Lh (q+2) p b 0 0 0 0 0 [] 0 []=Lh q p (b.drop A) (f:Int) (c:Int) (w:Int) (r:Int) (n:Int) l 0 []):=by
 have hx0:([]:LB).length<=13000000:=by simp
 have hg0:([]:LI).length<=1000:=by simp
 have hT:Ag p b 0 0 0 0 0 [] 0 [] false 0=Ag p b 0 0 0 0 0 [] 0 [] false 0:=rfl
 conv at hT=>rhs;rw[Ag,Bq,B0 B6,AE b F0,Aa,stS]
 have hE:Dd p b 0 0 0 0 0 [] 0 [] false 0=Dd p b 0 0 0 0 0 [] 0 [] false 0:=rfl
 conv at hE=>rhs;rw[Dd,B0 B6,CD b F0,Aa]
 have hP:Dl b p=Dl b p:=rfl
 conv at hP=>rhs;rw[Dl,Ux,B! E4,B! E4,Ql b F0,Aa]
 have hfn:=Q7 b;have hrn:=z! (Iy b);have hopen:=N9 b p F0 hp;simp only at hE;by_cases h2:(Bp b).2=0
 ·obtain⟨p0,p1,p2⟩:=BP h2;have hc:=Cb (l:=b) p0 p1;have hlen:(Iy b).length=b.length-(Bp b).1.toNat:=by simp[Iy]
  simp only[h2]at hP hE;rw[B! (show ¬(Bp b).2=24 by omega),B! (show ¬(Bp b).2≠0 by omega)]at hT;rw[B! D3,hc,Aa,show b.drop (Bp b).1.toNat=Iy b from rfl,PY _ mK,Aa]at hP;rw[B! D3,hc,Aa,show b.drop (Bp b).1.toNat=Iy b from rfl,iK _ mK,Aa]at hE;by_cases h3:(Ep (Iy b)).2.2.2.2.2=0
  ·obtain⟨g1,g2,g3,g4⟩:=tT h3;have jS:¬((Pu (Iy b) Y5||Pu (Iy b) pq)=true):=by
    have i1:Pu (Iy b) Y5=false:=by rw[Pu,K5 wV];rfl
    have i2:Pu (Iy b) pq=false:=by rw[Pu,K5 wW];rfl
    rw[i1,i2];decide
   rw[B! jS,B! (show ¬(Ep (Iy b)).2.2.2.2.2=24 by omega),h3]at hT;simp only at hT;rw[B! B6]at hT;have hd:HdI (f0 (Iy b):Int) (f1 (Iy b):Int) (f2 (Iy b):Int) (f3 (Iy b):Int) (f4 (Iy b):Int) (f0 (Iy b)) (f1 (Iy b)) (f2 (Iy b)) (f3 (Iy b)) (f4 (Iy b)):=⟨rfl,rfl,rfl,rfl,rfl,g3,g4⟩;generalize hF:(Bp b).1.toNat=F at*
   have hF':(Bp b).1=(F:Int):=F0
   rw[g1,hF']at hP hT;simp only at hP hT;generalize f0 (Iy b)=f at*
   generalize f1 (Iy b)=c at*
   generalize f2 (Iy b)=w at*
   generalize f3 (Iy b)=r at*
   generalize f4 (Iy b)=n at*
   have t22:Ad (F:Int) 22=((F+22:Nat):Int):=by rw[Ak];omega
   have t30:Ad ((F+22:Nat):Int) 8=((F+30:Nat):Int):=by rw[Ak];omega
   have Bh6:f=1\/f=2:=by simp only[Fx,D!]at g3;omega
   have hf1:geq (f:Int) 1=decide (f=1):=by rw[Ar,F?];simp;omega
   rw[B! D3,t22,t30]at hP;rw[Cb,Aa,Hl,Hj,Fa,show((F:Int)+22).toNat=F+22 by omega]at hT;by_cases MZ:((p==([]:LB)) !=(geq (f:Int) (1:Int)))=true
   ·rw[B0 MZ]at hP hT;rw[Aa]at hT;exact .inl ⟨26,F0,hP, .inl ⟨F0,TL (q:=q+1) hx0 B6 hT⟩⟩
   ·rw[B! MZ]at hP hT;rw[Aa]at hT;have hl1:=vN (q:=q+1) hT;have hpf:(p=[]↔f=1):=by
     rw[Ar]at MZ;have h5:(p==([]:LB))=((f:Int)==1):=by simpa using MZ
     have h6:(p==([]:LB))=true↔((f:Int)==1)=true:=by rw[h5]
     rw[G3,G3]at h6;rw[h6];omega
    have hpw:(p==([]:LB))=decide (f=1):=by rw[<-hf1];simpa using MZ
    have hdl:(b.drop (F+22)).length=b.length-(F+22):=H4;have hE2:Dd p (b.drop (F+22)) (f:Int) (c:Int) (w:Int) (r:Int) (n:Int) [] 0 [] false 0=some 24:=by
     rw[Dd,B! GZ,B0 B6]
    have hT2:Ag p (b.drop (F+22)) (f:Int) (c:Int) (w:Int) (r:Int) (n:Int) [] 0 [] false 0=Ag p (b.drop (F+22)) (f:Int) (c:Int) (w:Int) (r:Int) (n:Int) [] 0 [] false 0:=rfl
    conv at hT2=>rhs;rw[Ag,Bq,B! GZ,Bw,Bv,B0 B6,Fk,If]
    have hend:∀D:Nat,F+22+D<=b.length->D=(if f=2 then 8 else 0)->Dl b p=Qt b (f:Int) (c:Int) (w:Int) (r:Int) (n:Int) ((F+22+D:Nat):Int)->
      Ag p (b.drop (F+22)) (f:Int) (c:Int) (w:Int) (r:Int) (n:Int) [] 0 [] false 0=((Ec (b.drop (F+22)) (f:Int) (c:Int) (w:Int) (r:Int) (n:Int) (D:Int)).bind (λ(ag,ak,w1)=>if(Bd w1 0)then some (p,b.drop (F+22),(f:Int),(c:Int),(w:Int),(r:Int),(n:Int),([]:LI),(0:Int),([]:LB),false,(0:Int),w1)else(Bm (b.drop (F+22)) ag (Ac (b.drop (F+22)))).bind λal=>some (p,al,(f:Int),(c:Int),(w:Int),(r:Int),(n:Int),ak,(0:Int),([]:LB),false,(0:Int),(0:Int))))->
      (∃e:Int,e≠0/\Dl b p=some (VB e)/\Ends p (Lh (q+2) p b 0 0 0 0 0 [] 0 []) [] e)\/ (∃f c w r n A l,Opn b p f c w r n A l/\Lh (q+2) p b 0 0 0 0 0 [] 0 []=Lh q p (b.drop A) (f:Int) (c:Int) (w:Int) (r:Int) (n:Int) l 0 []):=by
     intro D hD hD2 e1 e2;obtain⟨_,k2,k3⟩:=S8 hd p (b.drop (F+22)) F0 D F0 0 [] false 0;rw[vU g3 g4 b F0 (F+22+D) hD]at e1;rw[k2,Aa]at e2;have hnn:=J? ((b.drop (F+22)).drop D) (Al (Ah r) n).length;have hok:=iP (b:=(b.drop (F+22)).drop D) (n:=(Al (Ah r) n).length);rw[LW]at e2 hnn hok k3;generalize hz:Eo (b.drop (F+22+D)) (Al (Ah r) n).length=z at*
     obtain⟨z1,z2⟩:=z;simp only at e1 e2 hnn hok k3;by_cases h:z2≠0
     ·rw[B0 h]at e1;refine .inl ⟨z2,h,e1,?_⟩;by_cases h24:z2=24
      ·rw[B0 h24]at e2;simp only at e2;rw[B0 B6]at e2;rw[h24];exact .inr ⟨_,_,_,_,_,_,_,_,F0,hl1.trans (BQ F0 hg0 hx0 e2),hE2⟩
      ·rw[B! h24]at e2;simp only at e2;rw[B0 (by rw[Aj];simpa using h)]at e2;exact .inl ⟨F0,hl1.trans (TL hx0 F0 e2)⟩
     ·have h0:z2=0:=by simpa using h
      subst h0;obtain⟨k1,m2,m3,m4,m5,m6⟩:=hok rfl;have hk3:=k3 rfl;simp only[D5,M4]at k1;have gl:z1.length=(Al (Ah r) n).length:=by rw[k1];exact Vm _ _
      rw[B! (show ¬((0:Int)≠0) by decide)]at e1;rw[B! (show ¬((0:Int)=24) by decide)]at e2;simp only at e2;rw[B! B6,Cb,Aa,LW]at e2;rcases hopen with⟨e,he,h1,_⟩|⟨f',c',w',r',n',A',l',o'⟩
      ·rw[e1]at h1;have:=HE h1;simp only[VB,D5]at this;exact absurd this.2.2.2.2.2.2.2.symm he
      ·have hpr:=o'.prog;rw[e1]at hpr;simp only[D6,D5]at hpr;obtain⟨v1,v2,v3,v4,v5,v6,v7,_⟩:=hpr;refine .inr ⟨f',c',w',r',n',A',l',o',?_⟩;rw[<-v1,<-v2,<-v3,<-v4,<-v5,<-v7];refine hl1.trans ((vN e2).trans ?_);congr 2;omega
    by_cases h5:f=2
    ·have WN:p≠ []:=λe=>by have:=hpf.1 e;omega
     have h64:(p !=([]:LB))=true:=by simpa using WN
     rw[B0 h64]at hP;rw[B0 (by rw[Ar,h5];rfl)]at hT2;by_cases h6:b.length<F+30
     ·rw[B0 C2]at hP hT2;rw[Aa]at hT2;simp only at hT2;rw[B0 B6]at hT2;exact .inl ⟨24,F0,hP, .inr ⟨_,_,_,_,_,_,_,_,F0,hl1.trans (BQ F0 hg0 hx0 hT2),hE2⟩⟩
     ·have hseg:((b.take (F+30)).drop (F+22)).length=8:=by simp;omega
      have Bkm:(b.drop (F+22)).take 8=(b.take (F+30)).drop (F+22):=by rw[XH];congr 1;omega
      rw[B! C2,Wi,Aa]at hP;rw[B! (by rw[Af,Ac,hdl];simp;omega),Dv,Aa,gY p hp,Aa,show(8:Int).toNat=8 from rfl,Bkm]at hT2;rw[Pr,vM p hp,Aa]at hP;simp only at hP;rw[B! (by rw[Aj,Aj,Ac,Ac,Cf,show((F+30:Nat):Int).toNat=F+30 from rfl,show((F+22:Nat):Int).toNat=F+22 from rfl,hseg];simp),Hu,Aa,Aa]at hP;simp only at hP;rw[B! D3,show((F+30:Nat):Int).toNat=F+30 from rfl,show((F+22:Nat):Int).toNat=F+22 from rfl]at hP;generalize(b.take (F+30)).drop (F+22)=seg at*
      by_cases h7:seg=Tm (Vx p).toNat 8
      ·rw[B! (by simp[h7])]at hP hT2;exact hend 8 F0 (by rw[B0 h5]) hP hT2
      ·rw[B0 (by simpa using h7)]at hP;rw[B0 (by simpa using h7),Aa]at hT2;simp only at hT2;rw[B0 B6]at hT2;exact .inl ⟨26,F0,hP, .inl ⟨F0,hl1.trans (TL hx0 B6 hT2)⟩⟩
    ·have hpe:p=[]:=hpf.2 F0;rw[B! (by rw[hpe];simp)]at hP;rw[B! GZ]at hT2;exact hend 0 F0 (by rw[B! h5]) hP hT2
  ·have h3':=h3;generalize Ep (Iy b)=v at*
   obtain⟨v1,v2,v3,v4,v5,v6⟩:=v;simp only at h3 hP hE hrn;rw[B0 (by rw[Aj];simpa using h3)]at hP;refine .inl ⟨v6,h3,hP,?_⟩;by_cases jS:(Pu (Iy b) Y5||Pu (Iy b) pq)=true
   ·rw[B0 jS]at hT;simp only at hT;rw[B0 B6]at hT;exact .inr ⟨_,_,_,_,_,_,_,_,F0,BQ F0 hg0 hx0 hT,hE⟩
   ·rw[B! jS]at hT;by_cases h24:v6=24
    ·rw[B0 h24]at hT;simp only at hT;rw[B0 B6]at hT;exact .inr ⟨_,_,_,_,_,_,_,_,F0,BQ F0 hg0 hx0 hT,hE⟩
    ·rw[B! h24]at hT;simp only at hT;rw[B0 (by rw[Aj];simpa using h3)]at hT;exact .inl ⟨F0,TL hx0 F0 hT⟩
 ·have h2':=h2;generalize Bp b=v at*
  obtain⟨v,e⟩:=v;simp only at h2 hP hT hE hfn;rw[B0 (by rw[Aj];simpa using h2)]at hP hE;refine .inl ⟨e,h2,hP,?_⟩;by_cases h24:e=24
  ·rw[B0 h24]at hT;simp only at hT;rw[B0 B6]at hT;exact .inr ⟨_,_,_,_,_,_,_,_,F0,BQ F0 hg0 hx0 hT,hE⟩
  ·rw[B! h24,B0 h2]at hT;simp only at hT;rw[B0 (by rw[Aj];simpa using h2)]at hT;exact .inl ⟨F0,TL hx0 F0 hT⟩
section
variable {b p:LB} {f c w r n A:Nat} {l:LI} (o:Opn b p f c w r n A l) (hb:b.length<=20000)
include o hb
theorem Bck:∀(j k q:Nat) (acc:LB),k+j=l.length->j<q-> (A:Int)+(l.take k).sum<=b.length->acc.length<=12000*k->
  ∃X,Ends p (Lh q p (b.drop ((A:Int)+(l.take k).sum).toNat) (f:Int) (c:Int) (w:Int) (r:Int) (n:Int) l (k:Int) acc) X (oP (Jk b p f c w r n A l) (bP b A l) j k acc).2/\
   ((oP (Jk b p f c w r n A l) (bP b A l) j k acc).2=0->X=(oP (Jk b p f c w r n A l) (bP b A l) j k acc).1)
 |j,k,0,_,_,h,_,_=>absurd h (K6 _)
 |j,k,q+1,acc,hk,hq,hA,ha=>by
  have hd:HdI (f:Int) (c:Int) (w:Int) (r:Int) (n:Int) f c w r n:=⟨rfl,rfl,rfl,rfl,rfl,o.shape,o.fit⟩;have hs1:=o.some1;have hsum:=o.sum;have ER:=hd.num;have hlen:=o.len;have b1:=Io o.five k;have hfn:¬(geq (f:Int) 0=true):=by rw[Ar];simp;omega
  have hgl:¬(geq (Ac l) 0=true):=by rw[Ar,Ac,G3];omega
  have hgf:geq (Ac l) 0=false:=by simpa using hgl
  generalize hIn:b.drop ((A:Int)+(l.take k).sum).toNat=In;have sS:In.length=b.length-((A:Int)+(l.take k).sum).toNat:=by rw[<-hIn,H4]
  have hT:Ag p In (f:Int) (c:Int) (w:Int) (r:Int) (n:Int) l (k:Int) acc false 0=Ag p In (f:Int) (c:Int) (w:Int) (r:Int) (n:Int) l (k:Int) acc false 0:=rfl
  conv at hT=>rhs;rw[Ag,Bq,B! hfn,Bw,Bv,B! hgl]
  have hE:Dd p In (f:Int) (c:Int) (w:Int) (r:Int) (n:Int) l (k:Int) acc false 0=Dd p In (f:Int) (c:Int) (w:Int) (r:Int) (n:Int) l (k:Int) acc false 0:=rfl
  conv at hE=>rhs;rw[Dd,B! hfn]
  cases j with
  |zero=>
   obtain rfl:k=l.length:=F0
   rw[ID]at hIn sS;have hbe:bP b A l=(Oa In).2:=by rw[bP,hIn]
   rw[B0 mg]at hT;have hgt:Ck (l.length:Int) (Ac l)=false:=by rw[Af,Ac,MF];omega
   rw[B! (by rw[hgf,hgt];decide),C3 In F0,Aa]at hE;rw[oP,hbe];have hbz:=yF In;have hb4:4000<In.length-> (Oa In).2=38:=λh4=>by rw[Oa,B0 h4]
   generalize Oa In=z at*
   obtain⟨z1,z2⟩:=z;simp only at hE hbz hb4⊢;by_cases h4:4000<In.length
   ·rw[B0 E4]at hT;rw[hb4 h4,B0 B6];exact⟨acc, .inl ⟨B6,TL F0 B6 hT⟩,λh=>by cases h⟩
   ·rw[B! E4]at hT;have hlw:=BQ (q:=q) (by omega:In.length<=100000) hs1.2 F0 hT;rcases hbz with h|h
    ·rw[h,B! B6];rw[h,B! B6]at hE;exact⟨acc, .inr ⟨_,_,_,_,_,_,_,_,F0,hlw,hE⟩,λ_=>rfl⟩
    ·rw[h,B0 B6];rw[h,B0 B6]at hE;exact⟨acc, .inr ⟨_,_,_,_,_,_,_,_,F0,hlw,hE⟩,λh=>by cases h⟩
  |succ j=>
   have hlt:k<l.length:=F0
   have hlt2:k<(Al (Ah r) n).length:=F0
   obtain⟨m,x,s,e,g⟩:=BO o k hlt;have hw:Bn (w:Int):=(Mh o.shape).2.1;have aE:=g.lens hw;have b2:=Io o.five (k+1);have e1:=Kj hlt;have h5:=o.five l[k] (HA _);have hm:=g.mom;rw[B! mM,Dp,Ev,Bt hlt,Aa]at hT;have hgt:Ck (k:Int) (Ac l)=true:=by rw[Af,Ac,D!];omega
   rw[B0 (by rw[hgf,hgt];decide)]at hE;rw[oP,g.eq];simp only;rcases g.way with⟨w1,rfl⟩|⟨w1,_,w2⟩
   ·rw[B0 C2,Aa]at hT;simp only at hT;rw[B0 B6]at hT;rw[B0 B6];exact⟨acc, .inr ⟨_,_,_,_,_,_,_,_,F0,BQ F0 hs1.2 F0 hT,hE⟩,λh=>by cases h⟩
   ·have hseg:In.take l[k].toNat=qo b A l k:=by
     rw[qo,<-hIn,XH];congr 1;omega
    have hnn:=vK hw (Kt p) ER.2.1.1 ER.2.1.2 g.pos.1 (by
     have hlt3:=Bt hlt2;rw[hlt3]at hm;have hm':=HE hm;obtain⟨m',hm2,m1,m2⟩:=Wh (Es r) ER.2.2.2.2.1 (HA hlt2);omega) w2
    rw[B! C2,TG p o.pass,Aa]at hT;simp only at hT;rw[Dv,Aa,hseg,Gc,Aa]at hT;simp only at hT;rw[hd.OB,Aa,hm,Aa,Aa,w2,Aa]at hT;simp only at hT;rw[Ex,Et]at hT;by_cases he:e≠0
    ·rw[B0 (by rw[Aj];simpa using he),Aa]at hT;simp only at hT;rw[B0 (by rw[Aj];simpa using he)]at hT;rw[B0 he];exact⟨acc, .inl ⟨by simp only;omega,TL F0 F0 hT⟩,λh=>absurd h he⟩
    ·have he0:e=0:=by simpa using he
     obtain⟨q1,q2,q3,q4,q5⟩:=g.some' he0;rw[B! (by rw[Aj];simpa using he),PQ hw F0 q3,<-q1,Aa,Aa]at hT;simp only at hT;rw[B! B6,Bi B8,Aa,HB,Bi,Aa,Aa,Cb,Aa,Ak]at hT;rw[B! he,vN hT];have sT:In.drop l[k].toNat=b.drop ((A:Int)+(l.take (k+1)).sum).toNat:=by rw[<-hIn,LW];congr 1;omega
     rw[sT];exact Bck j (k+1) q (acc++s) F0 F0 q5 LG
end
theorem Ari(b p:LB)(hb:b.length<=20000)(hp:p.length<=64):∃(X:LB) (x1 x2 x3:Int) (x4:LX) (E:Int),Ends p (Fd p b) X E/\Qy b p=some (x1,x2,x3,x4,E)/\ (E=0->Jy x2 x4=some (X,0)):=by
 obtain⟨q,hq⟩:∃q,Au=q+1002+2:=⟨Au-1004,by have:=As;omega⟩;rw[Fd,hq];rcases Bdd b p hb hp (q+1002)with⟨e,he,h1,h2⟩|⟨f,c,w,r,n,A,l,o,h2⟩
 ·rcases E5 b p F0 hp with⟨e',he',k1,_,k3,_⟩|⟨f,c,w,r,n,A,l,o,_,_⟩
  ·rw[h1]at k1;have:=HE k1;simp only[VB,D5]at this;obtain rfl:=this.2.2.2.2.2.2.2;exact⟨[],0,0,0,[],e,h2,k3,λh=>absurd h he⟩
  ·have:=o.prog;rw[h1]at this;have:=HE this;simp only[VB,D5]at this;exact absurd this.2.2.2.2.2.2.2 he
 ·rcases E5 b p F0 hp with⟨e',he',k1,_,k3,_⟩|⟨f',c',w',r',n',A',l',o',k3,_⟩
  ·have:=o.prog;rw[k1]at this;have:=HE this;simp only[VB,D5]at this;exact absurd this.2.2.2.2.2.2.2 he'
  ·have hpr:=o'.prog;rw[o.prog]at hpr;simp only[D6,D5]at hpr;obtain⟨v1,v2,v3,v4,v5,v6,v7,_⟩:=hpr;obtain rfl:f=f':=F0
   obtain rfl:c=c':=F0
   obtain rfl:w=w':=F0
   obtain rfl:r=r':=F0
   obtain rfl:n=n':=F0
   obtain rfl:A=A':=F0
   subst v7;have hs1:=o.some1;have hat:=o.at';obtain⟨X,g1,g2⟩:=Bck o hb l.length 0 (q+1002) [] F0 F0 (by rw[JP,MX];omega) B7;rw[JP,MX,cR,F!]at g1;have hrc:=L_ w (Jk b p f c w r n A l) (bP b A l) l.length 0 [] [];have hgd:=N4 (λk=>jq w (Jk b p f c w r n A l k)) (λk=>(Jk b p f c w r n A l k).2) (bP b A l) l.length 0 [];rw[yO,SI]at k3;rw[h2];by_cases hC:(fI (λk=>jq w (Jk b p f c w r n A l k)) (λk=>(Jk b p f c w r n A l k).2) (bP b A l) l.length 0 []).2≠0
   ·rw[B0 hC,yV]at k3;rw[<-hrc]at hC k3;exact⟨X,0,0,0,[],_,g1,k3,λh=>absurd h hC⟩
   ·have hC0:(fI (λk=>jq w (Jk b p f c w r n A l k)) (λk=>(Jk b p f c w r n A l k).2) (bP b A l) l.length 0 []).2=0:=by simpa using hC
    obtain⟨hbe,hE',hC1⟩:=hgd hC0;have hE:∀i,i<l.length-> (Jk b p f c w r n A l i).2=0:=λi hi=>hE' i F0 F0;rw[HB]at hC1;rw[B! hC,hC1]at k3;rw[hC0]at hrc;have hX:=g2 hrc;rw[hbe,S7 _ _ _ _ λi h1 h2=>hE i F0,HB]at hX;rw[hrc]at g1;exact⟨X,_,_,_,_,0,g1,k3,λ_=>by rw[hX];exact Apl o hE⟩
section
variable {b p:LB} {f c w r n A:Nat} {l:LI} (o:Opn b p f c w r n A l) (hb:b.length<=20000)
include o hb
theorem Ax0{k:Nat}(hk:k<l.length)(h0:(A:Int)+(l.take k).sum<=b.length)(acc:LB)(hacc:acc.length<=12000*k):
  (b.length<(A:Int)+(l.take (k+1)).sum->∀q,Lh (q+1) p (b.drop ((A:Int)+(l.take k).sum).toNat) (f:Int) (c:Int) (w:Int) (r:Int) (n:Int) l (k:Int) acc=some (p,b.drop ((A:Int)+(l.take k).sum).toNat,(f:Int),(c:Int),(w:Int),(r:Int),(n:Int),l,(k:Int),acc,false,0,0))/\
  ((A:Int)+(l.take (k+1)).sum<=b.length-> ((Jk b p f c w r n A l k).2=0->∀q,Lh (q+1) p (b.drop ((A:Int)+(l.take k).sum).toNat) (f:Int) (c:Int) (w:Int) (r:Int) (n:Int) l (k:Int) acc=Lh q p (b.drop ((A:Int)+(l.take (k+1)).sum).toNat) (f:Int) (c:Int) (w:Int) (r:Int) (n:Int) l ((k+1:Nat):Int) (acc++(Jk b p f c w r n A l k).1))/\
   ((Jk b p f c w r n A l k).2≠0->∀q,Lh (q+1) p (b.drop ((A:Int)+(l.take k).sum).toNat) (f:Int) (c:Int) (w:Int) (r:Int) (n:Int) l (k:Int) acc=some (p,[],0,0,0,0,0,[],0,acc,false,(Jk b p f c w r n A l k).2,(Jk b p f c w r n A l k).2))):=by
 have hd:HdI (f:Int) (c:Int) (w:Int) (r:Int) (n:Int) f c w r n:=⟨rfl,rfl,rfl,rfl,rfl,o.shape,o.fit⟩;have hs1:=o.some1;have hsum:=o.sum;have ER:=hd.num;have hlen:=o.len;have b1:=Io o.five k;have hfn:¬(geq (f:Int) 0=true):=by rw[Ar];simp;omega
 have hgl:¬(geq (Ac l) 0=true):=by rw[Ar,Ac,G3];omega
 generalize hIn:b.drop ((A:Int)+(l.take k).sum).toNat=In;have sS:In.length=b.length-((A:Int)+(l.take k).sum).toNat:=by rw[<-hIn,H4]
 have hT:Ag p In (f:Int) (c:Int) (w:Int) (r:Int) (n:Int) l (k:Int) acc false 0=Ag p In (f:Int) (c:Int) (w:Int) (r:Int) (n:Int) l (k:Int) acc false 0:=rfl
 conv at hT=>rhs;rw[Ag,Bq,B! hfn,Bw,Bv,B! hgl]
 have hlt2:k<(Al (Ah r) n).length:=F0
 obtain⟨m,x,s,e,g⟩:=BO o k hk;have hw:Bn (w:Int):=(Mh o.shape).2.1;have aE:=g.lens hw;have b2:=Io o.five (k+1);have e1:=Kj hk;have h5:=o.five l[k] (HA _);have hm:=g.mom;rw[B! mM,Dp,Ev,Bt hk,Aa]at hT;rw[g.eq];simp only;refine⟨λhlt q=>?_,λhge=>?_⟩
 ·rw[B0 C2,Aa]at hT;simp only at hT;rw[B0 B6]at hT;exact BQ F0 hs1.2 F0 hT
 rcases g.way with⟨w1,_⟩|⟨w1,_,w2⟩
 ·omega
 have hseg:In.take l[k].toNat=qo b A l k:=by
  rw[qo,<-hIn,XH];congr 1;omega
 have hnn:=vK hw (Kt p) ER.2.1.1 ER.2.1.2 g.pos.1 (by
  have hlt3:=Bt hlt2;rw[hlt3]at hm;have hm':=HE hm;obtain⟨m',hm2,m1,m2⟩:=Wh (Es r) ER.2.2.2.2.1 (HA hlt2);omega) w2
 rw[B! C2,TG p o.pass,Aa]at hT;simp only at hT;rw[Dv,Aa,hseg,Gc,Aa]at hT;simp only at hT;rw[hd.OB,Aa,hm,Aa,Aa,w2,Aa]at hT;simp only at hT;rw[Ex,Et]at hT;refine⟨λhe q=>?_,λhe q=>?_⟩
 ·obtain⟨q1,q2,q3,q4,q5⟩:=g.some' he;rw[B! (by rw[Aj];simpa using he),PQ hw F0 q3,<-q1,Aa,Aa]at hT;simp only at hT;rw[B! B6,Bi B8,Aa,HB,Bi,Aa,Aa,Cb,Aa,Ak]at hT;rw[vN hT];have sT:In.drop l[k].toNat=b.drop ((A:Int)+(l.take (k+1)).sum).toNat:=by rw[<-hIn,LW];congr 1;omega
  rw[sT];rfl
 ·rw[B0 (by rw[Aj];simpa using he),Aa]at hT;simp only at hT;rw[B0 (by rw[Aj];simpa using he)]at hT;exact TL F0 F0 hT
theorem Axs:∀(j k q:Nat) (acc:LB),k+j<=l.length-> (A:Int)+(l.take (k+j)).sum<=b.length-> (∀i,k<=i->i<k+j-> (Jk b p f c w r n A l i).2=0)->acc.length<=12000*k->
  Lh (q+j) p (b.drop ((A:Int)+(l.take k).sum).toNat) (f:Int) (c:Int) (w:Int) (r:Int) (n:Int) l (k:Int) acc=Lh q p (b.drop ((A:Int)+(l.take (k+j)).sum).toNat) (f:Int) (c:Int) (w:Int) (r:Int) (n:Int) l ((k+j:Nat):Int) (acc++Wp (λi=>(Jk b p f c w r n A l i).1) j k)
 |0,k,q,acc,_,_,_,_=>by simp[Wp]
 |j+1,k,q,acc,hk,hA,hg,hacc=>by
  have hnn:∀z∈l,0<=z:=λz hz=>by have:=o.five z hz;omega
  have m0:=Agi hnn (show k<=k+(j+1) by omega);have m1:=Agi hnn (show k+1<=k+(j+1) by omega);obtain⟨_,h2⟩:=Ax0 (hb:=hb) o (k:=k) F0 F0 acc hacc;have h3:=(h2 F0).1 (hg k F0 F0) (q+j);obtain⟨m,x,s,e,g⟩:=BO o k F0;have aE:=g.lens (Mh o.shape).2.1;have hs:(Jk b p f c w r n A l k).1.length<=12000:=by rw[g.eq];exact aE.1
  have ih:=Axs j (k+1) q (acc++(Jk b p f c w r n A l k).1) F0 (by rw[show k+1+j=k+(j+1) by omega];exact hA) (λi h1 h2=>hg i F0 F0) LG;rw[show q+(j+1)=q+j+1 by omega,h3,ih,show k+1+j=k+(j+1) by omega,Wp,E?]
theorem Atf{acc:LB}(hacc:acc.length<=13000000)(h0:(A:Int)+l.sum<=b.length)(h4:b.length<= (A:Int)+l.sum+4000)(q:Nat):Lh (q+1) p (b.drop ((A:Int)+l.sum).toNat) (f:Int) (c:Int) (w:Int) (r:Int) (n:Int) l (l.length:Int) acc=some (p,b.drop ((A:Int)+l.sum).toNat,(f:Int),(c:Int),(w:Int),(r:Int),(n:Int),l,(l.length:Int),acc,false,0,0):=by
 have hd:HdI (f:Int) (c:Int) (w:Int) (r:Int) (n:Int) f c w r n:=⟨rfl,rfl,rfl,rfl,rfl,o.shape,o.fit⟩;have hs1:=o.some1;have ER:=hd.num;have hfn:¬(geq (f:Int) 0=true):=by rw[Ar];simp;omega
 have hgl:¬(geq (Ac l) 0=true):=by rw[Ar,Ac,G3];omega
 have hl0:0<=l.sum:=SP l o.five;generalize hIn:b.drop ((A:Int)+l.sum).toNat=In;have sS:In.length=b.length-((A:Int)+l.sum).toNat:=by rw[<-hIn,H4]
 have hT:Ag p In (f:Int) (c:Int) (w:Int) (r:Int) (n:Int) l (l.length:Int) acc false 0=Ag p In (f:Int) (c:Int) (w:Int) (r:Int) (n:Int) l (l.length:Int) acc false 0:=rfl
 conv at hT=>rhs;rw[Ag,Bq,B! hfn,Bw,Bv,B! hgl]
 rw[B0 mg,B! E4]at hT;exact BQ F0 hs1.2 hacc hT
theorem Aqs(q:Nat):Lh (q+2) p b 0 0 0 0 0 [] 0 []=Lh q p (b.drop A) (f:Int) (c:Int) (w:Int) (r:Int) (n:Int) l 0 []:=by
 rcases Bdd b p hb o.pass q with⟨e,he,h1,_⟩|⟨f',c',w',r',n',A',l',o',h2⟩
 ·have:=o.prog;rw[h1]at this;have:=HE this;simp only[VB,D5]at this;exact absurd this.2.2.2.2.2.2.2 he
 ·have hpr:=o'.prog;rw[o.prog]at hpr;simp only[D6,D5]at hpr;obtain⟨v1,v2,v3,v4,v5,v6,v7,_⟩:=hpr;obtain rfl:f=f':=F0
  obtain rfl:c=c':=F0
  obtain rfl:w=w':=F0
  obtain rfl:r=r':=F0
  obtain rfl:n=n':=F0
  obtain rfl:A=A':=F0
  subst v7;exact h2
theorem Bam{K:Nat}(hK:K<=l.length)(hA:(A:Int)+(l.take K).sum<=b.length)(hg:∀i,i<K-> (Jk b p f c w r n A l i).2=0)(hend:(K<l.length/\b.length<(A:Int)+(l.take (K+1)).sum)\/ (K=l.length/\b.length<= (A:Int)+l.sum+4000)):
  Fd p b=some (p,b.drop ((A:Int)+(l.take K).sum).toNat,(f:Int),(c:Int),(w:Int),(r:Int),(n:Int),l,(K:Int),Wp (λi=>(Jk b p f c w r n A l i).1) K 0,false,0,0):=by
 obtain⟨q,hq⟩:∃q,Au=(q+1+K)+2:=⟨Au-(K+3),by have:=As;have:=o.some1;omega⟩;have hr:=Axs o hb K 0 (q+1) [] F0 (by rw[HL];exact hA) (λi _ h2=>hg i F0) B7;rw[JP,MX,cR,F!,HL,HB,show((0:Nat):Int)=0 from rfl]at hr;have hcl:(Wp (λi=>(Jk b p f c w r n A l i).1) K 0).length<=12000*K:=by
  have:∀j,j<=l.length-> (Wp (λi=>(Jk b p f c w r n A l i).1) j 0).length<=12000*j:=by
   intro j
   induction j with
   |zero=>intro _;simp[Wp]
   |succ j ih=>
    intro hj;obtain⟨m,x,s,e,g⟩:=BO o j F0;have aE:=g.lens (Mh o.shape).2.1;have:=ih F0;have hs:(Jk b p f c w r n A l j).1.length<=12000:=by rw[g.eq];exact aE.1
    rw[Ack,CR,HL];omega
  exact this K hK
 rw[Fd,hq,Aqs o hb,hr];rcases hend with⟨h1,h2⟩|⟨rfl,h2⟩
 ·exact(Ax0 o hb h1 hA _ hcl).1 h2 q
 ·rw[ID]at hA⊢;exact Atf o hb (by have:=o.some1;omega) hA h2 q
end
theorem Bh.Bhl{o s p:LB}{f c w r n:Int}{g:LI}{a:Int}{x:LB}{e:Int}(ho:o.length<=64)(h:Bh o s p f c w r n g a x e)(hp:p.length<=20000)(b:LB)(hb:b.length<=20000)(hs:(s++b).length<=100000)
  {p':LB} {f' c' w' r' n':Int} {g':LI} {a':Int} {x':LB} {e':Int} (hk:Fd o (s++b)=some (o,p',f',c',w',r',n',g',a',x',false,e',e')):
  Kv o p f c w r n g a x false e b=some (o,p',f',c',w',r',n',g',a',x',false,e',e')/\Bh o (s++b) p' f' c' w' r' n' g' a' x' e':=by
 obtain⟨p2,f2,c2,w2,r2,n2,g2,a2,x2,e2,h1,_,h3⟩:=h.feed ho hp b hb hs;have h4:=h3.fd hs;rw[hk]at h4;simp only[D6,D5]at h4;obtain⟨_,rfl,rfl,rfl,rfl,rfl,rfl,rfl,rfl,rfl,_,rfl,_⟩:=h4;exact⟨h1,h3⟩
theorem Alu{w:Nat}(hw:Bn (w:Int))(hl:X.length<=4000)(hr:r! (w:Int) X):Jy (w:Int) X=some (Du (w:Int) X,0):=aP hw hl (YK hw hl hr)
inductive Pl (S D A:Int) (G:Nat->Int) (l:LI) (a:Int):UInt8->Int->Int->Prop
 |t:a<S->Pl S D A G l a 1 0 0
 |h:S<=a->a<S+22->Pl S D A G l a 2 0 0
 |d:S+22<=a->a<D->Pl S D A G l a 3 0 0
 |s:S+22<=a->D<=a->a<A->Pl S D A G l a 4 0 0
 |f (i:Nat):S+22<=a->D<=a->A<=a->i<l.length->A+(l.take i).sum<=a->a<A+(l.take (i+1)).sum->Pl S D A G l a 5 i (G i)
 |b:S+22<=a->D<=a->A<=a->A+l.sum<=a->Pl S D A G l a 6 0 0
theorem Awz{o b X:LB}{E:Int}(ho:o.length<=64)(hb:b.length<=20000)(sX:Ends o (Fd o b) X E):∃(p2:LB) (f2 c2 w2 r2 n2:Int) (g2:LI) (a2 e3:Int) (u:Bool) (v:Int),Kv o [] 0 0 0 0 0 [] 0 [] false 0 b=some (o,p2,f2,c2,w2,r2,n2,g2,a2,X,false,e3,e3)/\Hq o p2 f2 c2 w2 r2 n2 g2 a2 X false e3=some (o,[],0,0,0,0,0,[],0,X,u,v,E)/\ (e3=0\/e3=E):=by
 obtain⟨p2,f2,c2,w2,r2,n2,g2,a2,y2,e3,d1,_,d3⟩:=(Bh.new ho).feed ho B7 b F0 B8;rw[HB]at d3;have hs:=d3.Bbv;have hfd:=d3.fd F0;have hck:=d3.check ho F0;rcases sX with⟨h0,h1⟩|⟨p,f,c,w,r,n,g,a,hpl,h1,h2⟩
 ·rw[hfd]at h1;simp only[D6,D5]at h1;obtain⟨_,rfl,rfl,rfl,rfl,rfl,rfl,rfl,rfl,rfl,_,rfl,_⟩:=h1;obtain⟨u,v,k,k1,k2⟩:=d3.finish ho B7;rcases k2 with⟨rfl,rfl,k3,_,k4⟩|⟨rfl,rfl,rfl⟩
  ·have hk:v=e3:=by rcases k4 with h|h<;>omega
   subst hk;exact⟨_,_,_,_,_,_,_,_,_,_,_,d1,k1, .inr rfl⟩
  ·
   exfalso;cases d3 with
   |wt W=>omega
   |er h0 hc hx hB=>
    have:=(Bdu (o:=o) (u:=false) (v:=e3) (k:=e3) ho hx (.inl ⟨rfl,rfl,h0,hc⟩)).2.2;rw[this]at k1;simp only[D6,D5]at k1;exact absurd k1.2.2.2.2.2.2.2.2.2.2.1 B6
 ·rw[hfd]at h1;simp only[D6,D5]at h1;obtain⟨_,rfl,rfl,rfl,rfl,rfl,rfl,rfl,rfl,rfl,_,rfl,_⟩:=h1;have hbg:=sH (o:=o) (p:=p2) (f:=f2) (c:=c2) (w:=w2) (r:=r2) (n:=n2) (g:=g2) (a:=a2) (x:=y2) (u:=false) (v:=0) F0 F0 F0 hck.1;rw[B! B6]at hbg;obtain⟨e1,q1,q2⟩:=Az2 (o:=o) (p:=p2) (f:=f2) (c:=c2) (w:=w2) (r:=r2) (n:=n2) (a:=a2) (u:=false) (v:=0) (g:=g2) (x:=y2) F0;rw[h2]at q2;cases q2;have hF:Hq o p2 f2 c2 w2 r2 n2 g2 a2 y2 false 0=Hq o p2 f2 c2 w2 r2 n2 g2 a2 y2 false 0:=rfl
  conv at hF=>rhs;rw[Hq,hbg,Aa]
  simp only at hF;rw[B! B6,q1,Aa]at hF;by_cases he:Bd E 0=true
  ·rw[B0 he,YC,Aa]at hF;exact⟨_,_,_,_,_,_,_,_,_,_,_,d1,hF, .inl rfl⟩
  ·have hE0:E=0:=by rw[Aj]at he;simpa using he
   rw[B! he,<-hE0]at hF;exact⟨_,_,_,_,_,_,_,_,_,_,_,d1,by rw[hE0]at hF⊢;exact hF, .inl rfl⟩
theorem Aeq{w:Nat}(hw:Bn (w:Int))(hX:X.length<=4000)(hr:r! (w:Int) X):Tp (w:Int) (Du (w:Int) X)=some (X,0):=by
 have h:=Aa4 (Du (w:Int) X) hw (m:=X.length) (HD hw X) hX;rw[Q? hw X hr]at h;exact h
theorem Bmt{b p:LB}(hb:b.length<=20000)(hp:p.length<=64):∃(x1 x2 x3:Int) (x4:LX) (E:Int),Da b p=some (x1,x2,x3,x4,E)/\Qy b p=some (x1,x2,x3,x4,E)/\x4.length<=4000000:=by
 obtain⟨X,y1,y2,y3,y4,E,sX,oo,_⟩:=Ari b p hb hp;obtain⟨p2,f2,c2,w2,r2,n2,g2,a2,e3,u,v,k1,k2,k3⟩:=Awz hp hb sX;by_cases hE:E=0
 rotate_left
 ·have hbad:Qy b p=some (yV E):=by
   rcases E5 b p F0 hp with⟨e,he,h1,_,h3,_⟩|⟨f,c,w,r,n,A,l,o,h3,_⟩
   ·rw[h3]at oo⊢;have:=HE oo;simp only[yV,D5]at this;rw[this.2.2.2.2]
   ·rw[h3]at oo⊢;have hce:=HE oo;rw[yO,SI]at hce⊢;by_cases hne:(fI (λk=>jq w (Jk b p f c w r n A l k)) (λk=>(Jk b p f c w r n A l k).2) (bP b A l) l.length 0 []).2≠0
    ·rw[B0 hne]at hce⊢;simp only[yV,D5]at hce;rw[hce.2.2.2.2]
    ·rw[B! hne]at hce;simp only[D5]at hce;exact absurd hce.2.2.2.2.symm hE
  refine⟨0,0,0,[],E,?_,hbad,B7⟩;rw[Da,eC,B! E4,Aa];simp only;rw[B! B6,k1,Aa];simp only;by_cases h0:e3=0
  ·rw[B! (by rw[h0];decide),k2,Aa];simp only;rw[B0 (by rw[Aj];simpa using hE)]
  ·have:e3=E:=by
    rcases k3 with h|h
    ·exact absurd h h0
    ·exact h
   rw[B0 (by rw[Aj];simpa using h0),this]
 ·subst hE;have he3:e3=0:=by rcases k3 with h|h<;>exact h
  subst he3;rcases E5 b p F0 hp with⟨e,he,h1,_,h3,_⟩|⟨f,c,w,r,n,A,l,o,h3,_⟩
  ·rw[h3]at oo;have:=HE oo;simp only[yV,D5]at this;exact absurd this.2.2.2.2 he
  rw[h3]at oo;have hce:=HE oo;have hs1:=o.some1;have hlen:=o.len;obtain⟨hcc,hw,hr,hn,_⟩:=Mh o.shape;have hfit:n<=4000/c:=by have:=o.fit;simp only[Xl,D!]at this;exact this.1
  have hnc:n*c<=4000:=by
   have a1:=EK c hfit;have a2:=LK 4000 c;omega
  have hcl0:(fI (λk=>jq w (Jk b p f c w r n A l k)) (λk=>(Jk b p f c w r n A l k).2) (bP b A l) l.length 0 []).2=0:=by
   refine WY λhne=>?_;rw[yO,SI,B0 hne]at hce;simp only[yV,D5]at hce;exact hne hce.2.2.2.2
  obtain⟨b0,hall,hX4⟩:=N4 _ _ _ _ _ _ hcl0;rw[HB]at hX4;have hgood:∀i,i<l.length-> (Jk b p f c w r n A l i).2=0:=λi hi=>hall i F0 F0;have hAl:(A:Int)+l.sum<=b.length:=Atj o (by rw[hce]);have hbl:b.length<= (A:Int)+l.sum+4000:=by
   refine Int.not_lt.1 λhlt=>?_;have:(Oa (b.drop ((A:Int)+l.sum).toNat)).2=38:=by rw[Oa,B0 (by rw[H4];have:=SP l o.five;omega)]
   rw[bP,this]at b0;exact absurd b0 B6
  have hfd:=Bam o hb (K:=l.length) (E1 _) (by rw[ID];exact hAl) hgood (.inr ⟨rfl,hbl⟩);have hbh:=((Bh.new hp).Bhl hp B7 b F0 B8 (by rw[HB];exact hfd)).1;rw[k1]at hbh;simp only[D6,D5]at hbh;obtain⟨_,rfl,rfl,rfl,rfl,rfl,rfl,i8,rfl,rfl,_⟩:=hbh;have i8:=i8.symm;subst i8;have hw8:¬(((geq (f:Int) 0)&&((geq (c:Int) 0)&&((geq (w:Int) 0)&&((geq (r:Int) 0)&&((geq (n:Int) 0)&&true)))))=true):=by
   have:geq (n:Int) 0=false:=by rw[Ar,jm];omega
   rw[this];simp
  have htot:=yH o hgood;have hin:=pG o hgood l.length 0 F0;have hby:=U2 o hgood l.length 0 F0;have hsb:=Aeq hw (X:=Wp (λi=>jq w (Jk b p f c w r n A l i)) l.length 0) F0 hin;rw[hby]at hsb;refine⟨(c:Int),(w:Int),(r:Int),Wp (λi=>jq w (Jk b p f c w r n A l i)) l.length 0,0,?_,?_,F0⟩
  ·rw[Da,eC,B! E4,Aa];simp only;rw[B! B6,k1,Aa];simp only;rw[B! B6,k2,Aa];simp only;rw[B! B6,B! hw8,hsb,Aa];simp only;rw[B! B6]
  ·rw[h3,yO,SI,B! (by rw[hcl0];simp),hX4]
theorem Al4{c w r n:Nat}{x:LX}(h:ClipOk c w r n x){p:LB}(hp:p.length<=64):Qy (CP c w r n x p) p=some ((c:Int),(w:Int),(r:Int),x,0):=by
 have fo:=xH h hp;have o:=fo.Fh;have hle:=fo.le;have hlf:=Qr (XN c w r n x p);have hgood:∀i,(hi:i<(XN c w r n x p).length)-> _:=λi hi=>fo.Bir (k:=i) hi rfl;have hbe:bP (CP c w r n x p) (O5 0 p (XN c w r n x p).length) (Ed (XN c w r n x p))=0:=by rw[fo.beh,Ala]
 have hcl:yO (CP c w r n x p) p (Vi p) c w r n (O5 0 p (XN c w r n x p).length) (Ed (XN c w r n x p))=((c:Int),(w:Int),(r:Int),x,0):=by
  have hr:=S7 (Jk (CP c w r n x p) p (Vi p) c w r n (O5 0 p (XN c w r n x p).length) (Ed (XN c w r n x p))) (Ed (XN c w r n x p)).length 0 [] (λi _ hi=>by rw[(hgood i F0).1]);have hcl:=L_ w (Jk (CP c w r n x p) p (Vi p) c w r n (O5 0 p (XN c w r n x p).length) (Ed (XN c w r n x p))) (bP (CP c w r n x p) (O5 0 p (XN c w r n x p).length) (Ed (XN c w r n x p))) (Ed (XN c w r n x p)).length 0 [] [];rw[hbe,hr]at hcl;have hg:=N4 _ _ _ _ _ _ hcl.symm;have hPl:=Aja (c:=c) (r:=r) (n:=n) (x:=x);have hfl:=uz (c:=c) (w:=w) (r:=r) (n:=n) (x:=x) p;have Bia:=A? (cW c r n x) (λi=>jq w (Jk (CP c w r n x p) p (Vi p) c w r n (O5 0 p (XN c w r n x p).length) (Ed (XN c w r n x p)) i)) 0 (λi hi=>by rw[HL,(hgood i F0).2]);rw[xO h,<-show(XN c w r n x p).length=(cW c r n x).length by omega]at Bia;rw[yO,SI,hbe,B! (by rw[<-hcl];simp),hg.2.2,HB,hlf,Bia]
 rcases E5 (CP c w r n x p) p F0 hp with⟨e,he,k1,_⟩|⟨f',c',w',r',n',A',l',o',k3,_⟩
 ·have:=o.prog;rw[k1]at this;have:=HE this;simp only[VB,D5]at this;exact absurd this.2.2.2.2.2.2.2 he
 ·have hpr:=o'.prog;rw[o.prog]at hpr;simp only[D6,D5]at hpr;obtain⟨v1,v2,v3,v4,v5,v6,v7,_⟩:=hpr;have j1:Vi p=f':=F0
  have j2:c=c':=F0
  have j3:w=w':=F0
  have j4:r=r':=F0
  have j5:n=n':=F0
  have j6:O5 0 p (XN c w r n x p).length=A':=F0
  subst j1 j2 j3 j4 j5 v7;rw[<-j6,hcl]at k3;exact k3
theorem ClipOk.enc{c w r n:Nat}{x:LX}(h:ClipOk c w r n x){p:LB}(hp:p.length<=64):EncOk c w r p:=⟨h.ch,h.bits,h.rate,hp⟩
theorem Aw7{c w r n:Nat}{x:LX}(h:ClipOk c w r n x){p:LB}(hp:p.length<=64):nE c w (Du (w:Int) x)=n/\XE c w (Du (w:Int) x)=x/\RE c w (Du (w:Int) x)=[]/\RX c r n:=by
 have he:=h.enc hp;have hs:=V9 he;have hbl:(Du (w:Int) x).length=n*C9 c w:=by rw[HD h.bits,h.len,C9,I0]
 have hn:nE c w (Du (w:Int) x)=n:=by rw[nE,hbl,X9 _ F0]
 have hle:=h.le;refine⟨hn,?_,?_,hle.2.1, .inr h.fr⟩
 ·rw[XE,hn,<-h.len];exact Q? h.bits x h.rng
 ·rw[RE,hn,<-hbl,MT]
theorem Bmk{c w r n:Nat}{x:LX}(h:ClipOk c w r n x)(hk:En (c:Int) (w:Int) (r:Int) x=some 0){p:LB}(hp:p.length<=64):Cy (c:Int) (w:Int) (r:Int) x p=some (CP c w r n x p,0):=by
 have he:=h.enc hp;obtain⟨f1,f2,f3,f4⟩:=Aw7 h hp;have hle:=h.le;have hbl:=GO (w:Int) x;have hf:=Axb he [] (Du (w:Int) x) F0 (by rw[show nE c w []=0 from kr _];exact Arw c r);rw[HB,Z8,f1,B0 f4]at hf;have hfin:=Alh he (Du (w:Int) x) (by rw[f1];exact f4);rw[f1,f2,f3,B! (by have:=h.cnt.1;simp;omega)]at hfin;rw[f3]at hf;rw[Cy,Zl,hk,Aa,B! B6,Alu h.bits F0 h.rng,Aa];simp only;rw[B! B6,Ba7 he,Aa];simp only;rw[B! B6,hf,Aa];simp only;rw[LY,II,B! B6,hfin,Aa];simp only;rw[KQ,MN,Zq,Au0,B! B6]
theorem Bh.len{o s p:LB}{f c w r n:Int}{g:LI}{a:Int}{x:LB}{e:Int}(h:Bh o s p f c w r n g a x e):p.length<=s.length/\g.length<=1000/\x.length<=13000000:=by
 cases h with
 |wt W hl hb=>exact⟨hl,W.sz.hg,by have:=W.sz.hx;omega⟩
 |er h0 hc hx hb=>exact⟨B7,B7,F0⟩
theorem ClipOk.both{c w r n:Nat}{x:LX}(h:ClipOk c w r n x):En (c:Int) (w:Int) (r:Int) x=some 0:=by
 have fo:=xH h (p:=[]) B7;have h24:=Bap fo.Fh h.cnt.1 (E1 _) h.len h.rng;rcases Bch (c:Int) (w:Int) (r:Int) x with⟨e8,_⟩|⟨_,_,_,_,_,_,_,_,_,e⟩
 ·rw[h24]at e8;exact absurd (HE e8) B6
 ·exact e
abbrev Zs(k:Nat):LX:=List.replicate k 0
theorem qc(k i:Nat):(Zs k).getD i 0=0:=by
 rw[D9,Bon];split<;>rfl
theorem As6(k i:Nat):(List.replicate k (0:UInt32)).getD i 0=0:=by
 rw[D9,Bon];split<;>rfl
theorem Bb3(t:LX):∀i:Nat,jC t (Zs 16) i=0
 |0=>rfl
 |i+1=>by rw[jC,Bb3 t i,qc,lE,bD]
theorem Bf6(t:LX):gF (sB 8) t (Zs 16)=0:=by
 rw[gF,Bb3,bD];decide
theorem Bfz(ht:t.length=16):ou t (Zs 16) 0=t:=by
 apply J4 (by rw[FD,ht]);intro i h1 h2;have h0:sg 0=0:=B6
 simp only[ou,NB,NP];rw[h0,lE,bD,D9,HS h2];rfl
theorem Bgv:gs (shB 8) 0=0:=B6
theorem Bc8(ht:t.length=16):jy 8 (0,t,Zs 16) (RO 0)=(0,t,Zs 16):=by
 have h0:RO 0=0:=B6
 rw[jy,UC,h0];simp only;rw[Bf6,Bgv,Bfz ht];rfl
theorem Bby{t:LX}(ht:t.length=16)(k c:Nat):∀m:Nat,cst 8 1 t (List.replicate k 0) c m=(0,t,Zs 16)
 |0=>rfl
 |m+1=>by
  rw[B_,Bby ht k c m,As6,Bc8 ht];split<;>rfl
theorem Bje(k:Nat):mx 1 (Zs k)=Zs k:=by
 apply J4 (by rw[UP]);intro i h1 h2;have e:∀f:Nat->Int32,(∀j,f j=0)->∀i,mxV f 1 i=0:=λf hf i=>by
  rw[mxV,hf,hf];split
  ·decide
  ·rw[B! B6,hf]
 simp only[mx,NB,NP,List.getElem_replicate];exact e _ (λj=>qc _ _) _
theorem Bca{t:LX}(ht:t.length=16)(k:Nat):∀i:Nat,evl 8 1 t (Zs k) i=List.replicate i 0
 |0=>rfl
 |i+1=>by
  have h0:H0 8 (0,t,Zs 16) 0=0:=by
   rw[H0];simp only;rw[Bf6,Bgv];decide
  have h1:oY 0=0:=B6
  rw[evl,Bca ht k i,Bby ht,qc,h0,h1,u?]
theorem Bb5(k:Nat):∀i:Nat,(Rr 1 (List.replicate k 0) i).length<=25*i
 |0=>by simp[Rr]
 |i+1=>by
  have h:=wz 1 ((List.replicate k (0:UInt32)).take i);have ih:=Bb5 k i;have hd:(Rs (now 1 ((List.replicate k (0:UInt32)).take i)).1 (now 1 ((List.replicate k (0:UInt32)).take i)).2.1 0).length<=25:=by
   rw[Rs,B0 (show(0:UInt32).toNat<_ from K0 F0),G2,Sg];omega
  rw[Rr,As6,CR];omega
theorem Beb(ht:t.length=16){k:Nat}(hk:k<=4000):(Pp 8 1 t (Zs k)).length<=12505:=by
 have h:Mp 8 1 t (Zs k)=List.replicate k 0:=by
  rw[Mp,Bje,Bca ht,HR]
 have hl:=Bb5 k k;rw[Pp,CR,Cf,UZ,Uy,h,HR];omega
theorem Awe:Ah 8000=8359:=B6
theorem pz{k:Nat}(h1:1<=k)(h4:k<=4000):ClipOk 1 8 8000 k (Zs k):=⟨B6, .inl rfl,B6,⟨h1,F0⟩,by rw[HR,SD],by rw[Awe];omega,λv hv=>by rw[List.eq_of_mem_replicate hv];decide⟩
theorem Atz{k:Nat}(h1:1<=k)(h4:k<=4000):Al (Ah 8000) k=[(k:Int)]:=by
 have e:(k-1)/8359=0:=M3 F0;rw[Al,Awe,e];simp
theorem Bem{k:Nat}(h1:1<=k)(h4:k<=4000):(CP 1 8 8000 k (Zs k) []).length<=20000:=by
 have hl:=Q0 (c:=1) (w:=8) (r:=8000) (n:=k) (x:=Zs k) [];have hp:cW 1 8000 k (Zs k)=[Zs k]:=by
  rw[cW,Atz h1 h4,Ib,Ib,F!,SD,IU (by rw[HR];omega)]
 have hf:XN 1 8 8000 k (Zs k) []=[Pp 8 1 (Lt []) (Zs k)]:=by rw[XN,hp];rfl
 have he:=Beb (t:=Lt []) (Kt []) h4;rw[hf]at hl;rw[hl];simp only[NS,List.flatten_nil,GY,G2,NU];split<;>omega
theorem Bfx{k:Nat}(h1:1<=k)(h4:k<=4000):Cy 1 8 8000 (Zs k) []=some (CP 1 8 8000 k (Zs k) [],0):=Bmk (pz h1 h4) (pz h1 h4).both B7
theorem Bgw{k:Nat}(h1:1<=k)(h4:k<=4000):Da (CP 1 8 8000 k (Zs k) []) []=some (1,8,8000,Zs k,0):=by
 obtain⟨x1,x2,x3,x4,E,g1,g2,_⟩:=Bmt (Bem h1 h4) (p:=[]) B7;rw[Al4 (pz h1 h4) B7]at g2;simp only[D6,D5]at g2;obtain⟨rfl,rfl,rfl,rfl,rfl⟩:=g2;exact g1
theorem Avn{k:Nat}(h4:4000<k)(h5:k<100000):Cy 1 8 8000 (Zs k) []=some ([],8)/\Br 1 8 8000 (Zs k)=some 8:=by
 rcases Bch 1 8 8000 (Zs k)with⟨c1,c2⟩|⟨c,w,r,n,_,_,_,h,_⟩
 ·refine⟨?_,c1⟩;rw[Cy,Zl,c2 (by rw[HR];omega),Aa,B0 B6]
 ·have:=h.le.2.2.2;rw[HR]at this;omega
theorem Bg5:og (4000:Int) (0:Int32)=some (Zs 4000):=oW (n:=4000) F0 F0
theorem Bdk:og (4001:Int) (0:Int32)=some (Zs 4001):=oW (n:=4001) F0 F0
theorem Ayq:Jj=some true:=by kernel_rfl
def onL:LB:=[84,84,65,49,2,0,1,0,8,0,64,31,0,0,1,0,0,0,190,115,99,93,0,0,0,0,0,0,0,0,6,0,0,0,192,128,47,4,0,0,255,18,217,65]
def onP:LB:=[82,73,70,70,38,0,0,0,87,65,86,69,102,109,116,32,16,0,0,0,1,0,1,0,64,31,0,0,64,31,0,0,1,0,8,0,100,97,116,97,1,0,0,0,128,0]
def onG:LB:=[84,84,65,49,1,0,1,0,8,0,64,31,0,0,1,0,0,0,101,86,2,33,6,0,0,0,192,128,47,4,0,0,255,18,217,65]
def SQ:LB:=List.replicate 65 0
def rI:LB:=List.replicate 64 0
theorem Biu:og (65:Int) (0:UInt8)=some SQ:=by kernel_rfl
theorem Bjd:Bm SQ 0 64=some rI:=by kernel_rfl
theorem on1:Cy 1 9 8000 [0] SQ=some ([],8):=by kernel_rfl
theorem on2:eS 1 9 8000 [0] []=some ([],8):=by kernel_rfl
theorem on3:Cy 1 8 8000 [0] SQ=some ([],2):=by kernel_rfl
theorem on4:Cy 1 8 8000 [0] rI=some (onL,0):=by kernel_rfl
theorem on5:Da [] SQ=some (0,0,0,[],2):=by kernel_rfl
theorem on6:Da [] []=some (0,0,0,[],24):=by kernel_rfl
theorem on7:Da onL rI=some (1,8,8000,[0],0):=by kernel_rfl
theorem on8:Da onL [120]=some (0,0,0,[],26):=by kernel_rfl
theorem on9:Lo [(82:UInt8),(73:UInt8),(70:UInt8),(88:UInt8)] SQ=some ([],24):=by kernel_rfl
theorem Bjf:uN [(82:UInt8),(73:UInt8),(70:UInt8),(88:UInt8)]=some (0,0,0,[],24):=by kernel_rfl
theorem Bjb:jT 1 8 8000 [0]=some (onP,0):=by kernel_rfl
theorem Bi2:Lo onP SQ=some ([],2):=by kernel_rfl
theorem Biq:Lo onP []=some (onG,0):=by kernel_rfl
theorem Bio:Py onG []=some (onP,0):=by kernel_rfl
theorem Bjc:Py onG [120]=some ([],26):=by kernel_rfl
theorem Bis:Bm onG 0 (Fq 35 (Ac onG))=some (onG.take 35):=by kernel_rfl
theorem Bji:Py (onG.take 35) []=some ([],24):=by kernel_rfl
theorem Bi0:Tg 1 8 8000 [0] 1 8 8000 [0]=some true:=by kernel_rfl
theorem Be2{Z Y:LX}{e:LB}(m4:og (4000:Int) (0:Int32)=some Z)(m41:og (4001:Int) (0:Int32)=some Y)(b1:Cy 1 8 8000 Z []=some (e,0))(b2:Da e []=some (1,8,8000,Z,0))
  (b3:Cy 1 8 8000 Y []=some ([],8)) (b4:Br 1 8 8000 Y=some 8) (hl:Ac Z=4000):Mb=some true:=by
 have h1:Fm=some (1,8,8000,[0]):=rfl;have o1:Is (geq (65:Int) (65:Int))=some ():=rfl;have o2:Is (geq (4000:Int) (4000:Int))=some ():=rfl;have o3:Is (geq (4001:Int) (4001:Int))=some ():=rfl;have q_m:=Biu;have q_c:=Bjd;have q1:=on1;have q2:=on2;have q3:=on3;have q4:=on4;have q5:=on5;have q6:=on6;have q7:=on7;have q8:=on8;have q9:=on9;have q10:=Bjf;have q11:=Bjb;have q12:=Bi2;have q13:=Biq;have q14:=Bio;have q15:=Bjc;have q16:=Bis;have q17:=Bji;have q18:=Bi0;have a1:=Ayq;unfold Mb Oo Oh Amc
 revert q_m q_c q1 q2 q3 q4 q5 q6 q7 q8 q9 q10 q11 q12 q13 q14 q15 q16 q17 q18 b1 b2 b3 b4 h1 a1
 generalize Cy=E;generalize Da=D;generalize Lo=FW;generalize Py=TW;generalize uN=WR;generalize jT=WW;generalize eS=EF;generalize Tg=SM;generalize Br=CH;generalize Jj=AL;generalize Fm=ON;intro b1 b2 b3 b4 h1 q_m q_c q1 q2 q3 q4 q5 q6 q7 q8 q9 q10 q11 q12 q13 q14 q15 q16 q17 q18 a1
 try simp only[Axc]
 simp only[q_m,o1,h1,Aa,q1,q2,q3,q_c,q4,q5,q6,q7,q8,q9,q10,q11,q12,q13,q14,q15,q16,q17,m4,o2,m41,o3,b1,b2,b3];rw[B0 (by kernel_rfl)];simp only[q18,Aa,hl];rw[B0 (by kernel_rfl)];simp only[b4,Aa];rw[B0 (by kernel_rfl),a1,Aa]
theorem law_OneshotNames:Mb=some true:=by
 have h4:=Bg5;have h41:=Bdk;have b1:=Bfx (k:=4000) F0 F0;have b2:=Bgw (k:=4000) F0 F0;have b3:=Avn (k:=4001) F0 F0;have hl:Ac (Zs 4000)=4000:=by rw[Ac,HR];rfl
 exact Be2 h4 h41 b1 b2 b3.1 b3.2 hl
end Go.Pl
