/- A part of a proof (see the text that ends in Proof). No conditions. -/
import Derived.Test.YtjjeabieimfcpaaGreatDoorVcWA
set_option linter.unusedVariables false
set_option linter.unusedSimpArgs false
namespace Go.Pl
open Go Go.Lv
def mxV(f:Nat->Int32)(ch i:Nat):Int32:=if i+1<ch then f (i+1)-f i else if 1<ch then f (ch-1)-Cg (f (ch-1)-f (ch-2)) (2:Int32)else f (ch-1)
def mx(ch:Nat)(x:List Int32):List Int32:=(List.range x.length).map λk=>mxV (λi=>x.getD (k-k %ch+i) 0) ch (k %ch)
def Ak0(x:Int32):UInt32:=UInt32.ofNat (if 0<=x.toInt then 2*x.toInt.toNat else 2*(-x.toInt-1).toNat+1)
def Al5(bits:Int)(s:CS)(x:Int32):Int32:=x-gs (shB bits) s.1-gF (sB bits) s.2.1 s.2.2
def evl(bits:Int)(ch:Nat)(t m:List Int32):Nat->List UInt32
 |0=>[]
 |i+1=>evl bits ch t m i++[Ak0 (Al5 bits (cst bits ch t (evl bits ch t m i) (i %ch) i) (m.getD i 0))]
def tb(l:List Bool)(k:Nat):Nat:=if l.getD k false=true then 1 else 0
theorem Adk(b:Bool)(l:List Bool):tb (b::l) 0=if b=true then 1 else 0:=rfl
theorem Aep(b:Bool)(l:List Bool)(k:Nat):tb (b::l) (k+1)=tb l k:=by simp[tb]
def At(p:List UInt8)(a:Nat)(c:List Bool):Prop:=∀i,i<c.length->Jf p (a+i)=tb c i
theorem At.cons{p:List UInt8}{a:Nat}{b:Bool}{c:List Bool}(h:At p a (b::c)):Jf p a=(if b=true then 1 else 0)/\At p (a+1) c:=by
 have h0:=h 0 (by simp);rw[Anq,Adk]at h0;refine⟨h0,λi hi=>?_⟩;have:=h (i+1) (by simp;omega);rw[Aep]at this;rw[show a+1+i=a+(i+1) by omega,this]
def P8:Nat->Nat->List Bool
 |_,0=>[]
 |v,n+1=>decide (v %2=1)::P8 (v/2) n
def Aj1(l v:Nat):List Bool:=if 48<=v/2^l then List.replicate 48 true++P8 v 32 else List.replicate (v/2^l) true++(false::P8 (v %2^l) l)
def Ak1(k l:Nat)(v:UInt32):List Bool:=if v.toNat<2^k then false::P8 v.toNat k else true::Aj1 l (v.toNat-2^k)
def bv:List Bool->Nat
 |[]=>0
 |b::r=>(if b=true then 1 else 0)+2*bv r
def Akt(c:List Bool):List UInt8:=(List.range ((c.length+7)/8)).map λj=>UInt8.ofNat (bv ((c.drop (8*j)).take 8))
def Ak7(ch:Nat)(V:List UInt32):Nat->List Bool
 |0=>[]
 |i+1=>Ak7 ch V i++Ak1 (now ch (V.take i)).1 (now ch (V.take i)).2.1 (V.getD i 0)
def Al1(bits:Int)(ch:Nat)(t x:List Int32):List UInt32:=evl bits ch t (mx ch x) x.length
def Akm(bits:Int)(ch:Nat)(t x:List Int32):List UInt8:=Akt (Ak7 ch (Al1 bits ch t x) x.length)
def dL(bits:Int)(ch:Nat)(t x:List Int32):List UInt8:=Akm bits ch t x++Tv (Gk (Akm bits ch t x)).toNat 4
theorem Aei{n:Nat}(h:n<2^64):(UInt64.ofNat n).toNat=n:=by rw[Age];exact Ac8 h
structure ClipOk (c w r n:Nat) (x:List Int32):Prop where
 ch:1<=c/\c<=6
 bits:Cb (w:Int)
 rate:1<=r/\r<=1048576
 cnt:1<=n/\n<=4000/c
 len:x.length=n*c
 fr:(n-1)/Ar r+1<=1000
 rng:L8 (w:Int) x
theorem ClipOk.le{c w r n:Nat}{x:List Int32}(h:ClipOk c w r n x):n<=4000/\n*c<=4000/\1<=x.length/\x.length<=4000:=by
 have h1:=Aey c h.cnt.2;have h2:=Am8 4000 c;have h3:=Aj5 4000 c;have h4:=Nat.mul_pos h.cnt.1 h.ch.1;have h5:=h.len;have:=h.cnt;omega
theorem ClipOk.w3{c w r n:Nat}{x:List Int32}(h:ClipOk c w r n x):w=8\/w=16\/w=24:=by
 have:=h.bits;unfold Cb at this;omega
theorem ClipOk.shape{c w r n:Nat}{x:List Int32}(h:ClipOk c w r n x)(f:Nat)(hf:f=1\/f=2):Hm f c w r n=true:=by
 have:=h.w3;have:=h.ch;have:=h.rate;have:=h.cnt;simp only[Hm,Ada];omega
theorem ClipOk.fit{c w r n:Nat}{x:List Int32}(h:ClipOk c w r n x):KF c r n=true:=by
 have:=h.cnt;have:=h.fr;simp only[KF,Ada];omega
theorem Akd{bits:Int}(h:Cb bits){l:List Int32}(hl:l.length<=4000):Ao bits l=some 0\/Ao bits l=some 16:=by
 have hh:=RE bits;have key:∀(j i q:Nat),i+j=l.length->j<q->Ba l (hB bits) q (i:Int)=some 0\/Ba l (hB bits) q (i:Int)=some 16:=by
  intro j
  induction j with
  |zero=>
   intro i q hi hq;obtain⟨q,rfl⟩:∃q',q=q'+1:=⟨q-1,by omega⟩;rw[Ba,By,Abe (by rw[Af,Ac];simp;omega)];exact .inl rfl
  |succ j ih=>
   intro i q hi hq;obtain⟨q,rfl⟩:∃q',q=q'+1:=⟨q-1,by omega⟩;have ih:=ih (i+1) q (by omega) (by omega);have hi1:Ae (i:Int) 1=((i+1:Nat):Int):=by rw[Ag];omega
   rw[Ba,By,Acz (by rw[Af,Ac];simp;omega),Cq,Aa,Aa,hi1];split
   ·exact .inr rfl
   ·split
    ·exact .inr rfl
    ·exact ih
 have hk:=key l.length 0 Az (by omega) (by have:=As;omega);rw[Ao,Cn,SU h,Aa,Abe (by rw[Bf];simp;omega),Abe (by rw[Ap,Ac];simp;omega)];exact hk
theorem fX{bits:Int}(h:¬Cb bits):Hv bits=some 0/\Rl bits=some (0,0,2):=by
 unfold Cb at h;constructor
 ·rw[Hv,Abe (by rw[Bf,Ang];omega),Abe (by rw[Bf,Ang];omega),Abe (by rw[Bf,Ang];omega)]
 ·have e:(geq bits 24)=false:=by rw[Bf,beq_eq_false_iff_ne];omega
  rw[Rl,OJ,Abe (by rw[Bf,Ang];omega),Abe (by rw[Bf,Ang];omega),e,PM,YN,Abe (by decide)]
theorem iN{r:Nat}(h:r<=1048576):∀(j n q:Nat) (acc:List Int),n<=4000->n<=j->j<q->acc.length+n<=10000->
  Df (Ar r:Int) q (n:Int) acc=some (if 1000<(acc++(if n=0 then []else Ax (Ar r) n)).length then([],4)else(acc++(if n=0 then []else Ax (Ar r) n),0))
 |j,n,0,acc,_,_,h,_=>absurd h (Nat.not_lt_zero _)
 |j,n,q+1,acc,hn,hj,hq,ha=>by
  have hp:=Rc r;by_cases h0:n=0
  ·subst h0;rw[Acz rfl,Ajn,Df,Ie,Abe (by rw[Ap];simp),Pn,Pv,Ap,Ac];by_cases hk:1000<acc.length
   ·rw[Acz hk,Acz (by simp;omega)]
   ·rw[Abe hk,Abe (by simp;omega)]
  ·obtain⟨j,rfl⟩:∃j',j=j'+1:=⟨j-1,by omega⟩;rw[Df,Ie,Acz (by rw[Ap];simp;omega),Cc (by simp;omega),Aa,KC];by_cases hs:n<=Ar r
   ·rw[show min (n:Int) (Ar r:Int)=(n:Int) by omega,Bk,Int.sub_self];have ih:=iN h j 0 q (acc++[(n:Int)]) (by omega) (by omega) (by omega) (by simp;omega);rw[Acz rfl,Ajn]at ih;rw[Abe h0,IE hs (by omega)];exact ih
   ·rw[show min (n:Int) (Ar r:Int)=(Ar r:Int) by omega,Bk,show(n:Int)-(Ar r:Int)=((n-Ar r:Nat):Int) by omega];have e:acc++Ax (Ar r) n=(acc++[(Ar r:Int)])++Ax (Ar r) (n-Ar r):=by rw[aX hp (show Ar r<n by omega)];simp
    have ih:=iN h j (n-Ar r) q (acc++[(Ar r:Int)]) (by omega) (by omega) (by omega) (by simp;omega);rw[Abe (show ¬n-Ar r=0 by omega),<-e]at ih;rw[Abe h0];exact ih
theorem L5(C W R:Int)(x:List Int32)(hlen:x.length<4611686018427387904):(Ci C W R x=some 8/\Gp C W R x=some 8)\/
  (∃c w r n:Nat,C=(c:Int)/\W=(w:Int)/\R=(r:Int)/\ClipOk c w r n x/\Ci C W R x=some 0/\Gp C W R x=some 0):=by
 have rC:∀e:Int,e≠0->Bm C W x=some e->Ci C W R x=some 8:=by
  intro e he h;rw[Ci,Ev,Aa];simp only;rw[h,Aa,Acz (by rw[Ah];simpa using he)]
 by_cases hC:C<1
 ·refine .inl ⟨rC 2 (by decide) ?_,?_⟩
  ·rw[Bm,Cj,Acz (by simp[Af,Ap];omega),Aa,Acz (by decide)]
  ·rw[Gp,Acz (by rw[Af];simpa using hC)]
 obtain⟨c,rfl⟩:=Ai8 (show 0<=C by omega);have hc1:1<=c:=by omega
 have hq:Cg (Ac x) (c:Int)=((x.length/c:Nat):Int):=by rw[Ac,N6]
 have hr0:Is (Ac x) (c:Int)=((x.length %c:Nat):Int):=by rw[Ac,dN]
 have Aa4:(∀m:Nat,x.length=m*c->GO (c:Int) W R x (m:Int)=some 8)->Gp (c:Int) W R x=some 8:=by
  intro h;rw[Gp,Abe (by rw[Af];simpa using hC),Bw (by rw[Ah];simp;omega),Aa,hr0];by_cases hm:x.length %c=0
  ·have hx:x.length=x.length/c*c:=by have:=Aoe x.length c;rw[hm,Aj3]at this;omega
   rw[hm,Abe (by decide),Aa,hq,h _ hx,Aa,Acz (by decide)]
  ·rw[Acz (by rw[Ah];simp;omega)]
 by_cases h6:6<c
 ·refine .inl ⟨rC 2 (by decide) ?_,Aa4 λm hm=>?_⟩
  ·rw[Bm,Cj,Acz (by simp[Af,Ap];omega),Aa,Acz (by decide)]
  ·rw[GO,NI,Aa];simp only;have:Gi (c:Int) W=some 2:=by
    rw[Gi];by_cases hb:Cb W
    ·rw[vD hb,Aa];simp only;rw[Acz (by simp[Ah,Af,Ap];omega)]
    ·rw[(fX hb).2,Aa];simp only;rw[Acz (by simp[Ah])]
   rw[this,Aa,Acz (by simp[Ah])]
 by_cases hb:Cb W
 rotate_left
 ·refine .inl ⟨rC 2 (by decide) ?_,Aa4 λm hm=>?_⟩
  ·rw[Bm,Cj,Abe (by simp[Af,Ap];omega),(fX hb).1,Aa,Acz (by decide),Aa,Acz (by decide)]
  ·rw[GO,NI,Aa];simp only;have:Gi (c:Int) W=some 2:=by
    rw[Gi,(fX hb).2,Aa];simp only;rw[Acz (by simp[Ah])]
   rw[this,Aa,Acz (by simp[Ah])]
 have hhB:=RE W;have e20:Cj (c:Int) W=some 0:=by
  rw[Cj,Abe (by simp[Af,Ap];omega),SU hb,Aa,Abe (by rw[Bf];simp;omega)]
 have hq4:=uP hc1 (show c<=6 by omega);have ecf:=Air hb hc1 (show c<=6 by omega);have Y2:∀m:Nat,GO (c:Int) W R x (m:Int)=if m<1\/4000/c<m then some 8 else Option.bind (Hl R (m:Int)) λy=>if(Ch y.2 0)=true then some 8 else some 0:=by
  intro m;rw[GO,NI,Aa];simp only;rw[ecf,Aa];by_cases hm:m<1
  ·rw[Acz (by simp[Ah,Af];omega),Acz (.inl hm)]
  ·rw[Abe (by simp[Ah,Af];omega),Bw (by rw[Ah];simp;omega),Aa,hq4];by_cases hm2:4000/c<m
   ·rw[Acz (by rw[Ap,Ada,gt_iff_lt,Int.ofNat_lt];exact hm2),Acz (.inr hm2)]
   ·rw[Abe (by rw[Ap,Ada,gt_iff_lt,Int.ofNat_lt];exact hm2),Abe (by omega)]
 by_cases hx4:4000<x.length
 ·refine .inl ⟨rC 4 (by decide) ?_,Aa4 λm hm=>?_⟩
  ·have:Ao W x=some 4:=by
    rw[Ao,Cn,SU hb,Aa,Abe (by rw[Bf];simp;omega),Acz (by rw[Ap,Ac];simp;omega)]
   rw[Bm,e20,Aa,Abe (by decide),this,Aa,Acz (by decide),Aa]
  ·rw[Y2,Acz];refine .inr ?_;rw[Nat.div_lt_iff_lt_mul (by omega)];omega
 have hx4:x.length<=4000:=by omega
 have hsame:=eD hb x hx4;rcases Akd hb hx4 with h18|h18
 rotate_left
 ·refine .inl ⟨rC 16 (by decide) ?_,?_⟩
  ·rw[Bm,e20,Aa,Abe (by decide),h18,Aa,Acz (by decide),Aa]
  ·rw[Gp,Abe (by rw[Af];simpa using hC),Bw (by rw[Ah];simp;omega),Aa,hr0];by_cases hm:x.length %c=0
   ·rw[hm,Abe (by decide),Aa,hq,Y2];split
    ·rw[Aa,Acz (by decide)]
    ·rename_i hh;by_cases hR:1<=R/\R<=1048576
     ·obtain⟨r,rfl⟩:=Ai8 (show 0<=R by omega);have hd:=Aj5 x.length c;rw[UO (by omega) (by omega) (by omega) (by omega),Aa];split
      ·rw[Acz (by decide),Aa,Acz (by decide)]
      ·rw[Abe (by simp[Ah]),Aa,Abe (by decide),hsame,h18,Aa,Acz (by decide)]
     ·rw[Hl,Rn,Acz (by simp[Af,Ap];omega),Aa];simp only;rw[Acz (by decide),Aa];simp only;rw[Acz (by decide),Aa,Acz (by decide)]
   ·rw[Acz (by rw[Ah];simp;omega)]
 by_cases hx1:x.length<1
 ·refine .inl ⟨rC 2 (by decide) ?_,Aa4 λm hm=>?_⟩
  ·rw[Bm,e20,Aa,Abe (by decide),h18,Aa,Abe (by decide),Acz (by rw[Af,Ac];simp;omega)]
  ·have h0:m*c=0:=by omega
   have:m=0:=by rcases Nat.mul_eq_zero.1 h0 with h|h<;>omega
   rw[Y2,Acz (.inl (by omega))]
 have hA:x.length %c=0->Bm (c:Int) W x=some 0:=by
  intro hm;rw[Bm,e20,Aa,Abe (by decide),h18,Aa,Abe (by decide),Abe (by rw[Af,Ac];simp;omega),Bw (by rw[Ah];simp;omega),Aa,hr0,hm,Abe (by decide)]
 by_cases hm:x.length %c=0
 rotate_left
 ·refine .inl ⟨rC 2 (by decide) ?_,?_⟩
  ·rw[Bm,e20,Aa,Abe (by decide),h18,Aa,Abe (by decide),Abe (by rw[Af,Ac];simp;omega),Bw (by rw[Ah];simp;omega),Aa,hr0,Acz (by rw[Ap];simp;omega)]
  ·rw[Gp,Abe (by rw[Af];simpa using hC),Bw (by rw[Ah];simp;omega),Aa,hr0,Acz (by rw[Ah];simp;omega)]
 have hxn:x.length=x.length/c*c:=by have:=Aoe x.length c;rw[hm,Aj3]at this;omega
 generalize hN:x.length/c=n at*
 have hn1:1<=n:=by
  by_cases h0:n=0
  ·rw[h0]at hxn;omega
  ·omega
 have hn4:n<=4000/c:=by rw[<-hN];exact Nat.div_le_div_right hx4
 have hn4':n<=4000:=Nat.le_trans hn4 (Aj5 _ _);have e21:Dr (c:Int) W (n:Int)=some 0:=by
  rw[Dr,e20,Aa,Abe (by simp[Ah,Af];omega),Bw (by rw[Ah];simp;omega),Aa,hq4,Abe (by rw[Ap,Ada,gt_iff_lt,Int.ofNat_lt];omega)]
 have Ac7:∀z e:Int,Gq R (n:Int)=some (z,e)->Ci (c:Int) W R x=some (if e=0 then 0 else 8):=by
  intro z e hz;rw[Ci,Ev,Aa];simp only;rw[hA hm,Aa,Abe (by decide),Bw (by rw[Ah];simp;omega),Aa,hq,FH,Ev,Aa];simp only;rw[e21,Aa,Abe (by decide),hz,Aa,Aa,Bf];by_cases he:e=0
  ·subst he;rfl
  ·rw[Abe he,Acz (by simpa using he)]
 have uN:Gp (c:Int) W R x=Option.bind (Option.bind (Hl R (n:Int)) λy=>if(Ch y.2 0)=true then some 8 else some 0) λg=>if(Ch g 0)=true then some g else some 0:=by
  rw[Gp,Abe (by rw[Af];simpa using hC),Bw (by rw[Ah];simp;omega),Aa,hr0,hm,Abe (by decide),Aa,hq,Y2,Abe (by omega),hsame,h18];rfl
 by_cases hR:1<=R/\R<=1048576
 rotate_left
 ·refine .inl ⟨?_,?_⟩
  ·refine Ac7 0 2 ?_;rw[Gq,Yp,Ps,Vs,Acz (by simp[Af,Ap];omega),Aa];simp only;rw[Acz (by simp[Ah]),Aa];rfl
  ·rw[uN,Hl,Rn,Acz (by simp[Af,Ap];omega),Aa];simp only;rw[Acz (by decide),Aa];simp only;rw[Acz (by decide),Aa,Acz (by decide)]
 obtain⟨r,rfl⟩:=Ai8 (show 0<=R by omega);have hl:=iN (r:=r) (by omega) n n Az [] hn4' (Ag9 _) (by have:=As;omega) (by simp;omega);rw[Abe (show ¬n=0 by omega),All,YP]at hl;have hcount:∃z:Int,Gq (r:Int) (n:Int)=some (z,if 1000<(n-1)/Ar r+1 then 4 else 0):=by
  rw[Gq,Yp,Ps,vg (by omega) (by omega),Aa];simp only;rw[Abe (by simp[Ah,Af,Ap];omega),Zh,hl,Aa];split<;>exact⟨_,rfl⟩
 obtain⟨z,hz⟩:=hcount;have h24:=Ac7 z _ hz;rw[UO (by omega) (by omega) hn1 hn4',Aa]at uN;by_cases hk:1000<(n-1)/Ar r+1
 ·rw[Acz hk]at h24 uN;exact .inl ⟨h24,uN⟩
 ·rw[Abe hk]at h24 uN;have hw:∃w:Nat,W=(w:Int):=by
   rcases hb with rfl|rfl|rfl
   ·exact⟨8,rfl⟩
   ·exact⟨16,rfl⟩
   ·exact⟨24,rfl⟩
  obtain⟨w,rfl⟩:=hw;exact .inr ⟨c,w,r,n,rfl,rfl,rfl,⟨⟨hc1,by omega⟩,hb,by omega,⟨hn1,hn4⟩,hxn,by omega,TT hb hx4 h18⟩,h24,uN⟩
theorem Y8(C W R:Int){x:List Int32}(h:4000<x.length):Ci C W R x=some 8:=by
 have key:∃e:Int,e≠0/\Bm C W x=some e:=by
  rw[Bm,Cj];by_cases h1:((Cp C 1)||(Fv C 6))=true
  ·rw[Acz h1,Aa,Acz (by decide)];exact⟨2,by decide,rfl⟩
  ·rw[Abe h1];by_cases hb:Cb W
   ·have hh:=RE W;have h18:Ao W x=some 4:=by
     rw[Ao,Cn,SU hb,Aa,Abe (by rw[Bf];simp;omega),Acz (by rw[Ap,Ac];simp;omega)]
    rw[SU hb,Aa,Abe (by rw[Bf];simp;omega),Aa,Abe (by decide),h18,Aa,Acz (by decide),Aa];exact⟨4,by decide,rfl⟩
   ·rw[(fX hb).1,Aa,Acz (by decide),Aa,Acz (by decide)];exact⟨2,by decide,rfl⟩
 obtain⟨e,he,h1⟩:=key;rw[Ci,Ev,Aa];simp only;rw[h1,Aa,Acz (by rw[Ah];simpa using he)]
theorem zA(C W R:Int)(x:List Int32):(Ci C W R x=some 8/\ (x.length<4611686018427387904->Gp C W R x=some 8))\/
  (∃c w r n:Nat,C=(c:Int)/\W=(w:Int)/\R=(r:Int)/\ClipOk c w r n x/\Ci C W R x=some 0/\Gp C W R x=some 0):=by
 by_cases hx:x.length<4611686018427387904
 ·rcases L5 C W R x hx with⟨h1,h2⟩|h
  ·exact .inl ⟨h1,λ_=>h2⟩
  ·exact .inr h
 ·exact .inl ⟨Y8 C W R (by omega),λh=>absurd h hx⟩
def Ale(f c w r n:Nat):List UInt8:=gE++Tv f 2++Tv c 2++Tv w 2++Tv r 4++Tv n 4
def Ama(f c w r n:Nat):List UInt8:=Ale f c w r n++Tv (Gk (Ale f c w r n)).toNat 4
theorem Ag3(b f g h k:Int)(m v w q:Nat)(a:List UInt8)(hm:m<5)(hv:Aj ([b,f,g,h,k]:List Int) (m:Int)=some (v:Int))(hw:Aj ([2,2,2,4,4]:List Int) (m:Int)=some (w:Int))(h1:1<=w)(h8:w<=8)(hlt:v<256^w)(h64:v<18446744073709551616)(ha:a.length<=100):
  Zz b f g h k (q+1) (m:Int) a=Zz b f g h k q ((m+1:Nat):Int) (a++Tv v w):=by
 have e64:(UInt64.ofNat v).toNat=v:=Aei (by omega);have hi1:Ae (m:Int) 1=((m+1:Nat):Int):=by rw[Ag];omega
 rw[Zz,XB,Acz (by rw[Af];simp;omega),hv,Aa,hw,Aa,Ll,aD _ w h1 h8 (by rw[e64];exact hlt),Aa];simp only;rw[Cc (by rw[Bj];omega),Aa,hi1,e64]
def Ajr(l:List Int):List UInt8:=l.flatMap λx=>Tv x.toNat 4
def Al8(l:List Int):List UInt8:=Ajr l++Tv (Gk (Ajr l)).toNat 4
def OC(c:Nat):List Int32->List Int->List (List Int32)
 |_,[]=>[]
 |x,m::l=>x.take (m.toNat*c)::OC c (x.drop (m.toNat*c)) l
theorem eS(c:Nat):∀(l:List Int) (x:List Int32),(OC c x l).length=l.length
 |[],x=>rfl
 |m::l,x=>by rw[OC,Alh,Alh,eS c l]
theorem dI(c:Nat)(h1:1<=c):∀(l:List Int) (x:List Int32),(∀m∈l,1<=m)->x.length=l.sum.toNat*c->∀y∈OC c x l,1<=y.length/\y.length<=x.length/\y.length %c=0/\∀v∈y,v∈x
 |[],x,_,_=>λy hy=>by simp[OC]at hy
 |m::l,x,hm,hx=>by
  have hm1:=hm m Alq;have hl:0<=l.sum:=by
   have:∀l:List Int,(∀m∈l,1<=m)->0<=l.sum:=by
    intro l
    induction l with
    |nil=>intro _;simp
    |cons a l ih=>intro h;have:=ih (λm hm=>h m (Ajo _ hm));have:=h a Alq;rw[Amk];omega
   exact this l λm hm'=>hm m (Ajo _ hm')
  rw[Amk,show(m+l.sum).toNat=m.toNat+l.sum.toNat by omega,Aki]at hx;have hpos:1<=m.toNat*c:=Nat.mul_pos (by omega) h1;intro y hy;rw[OC,List.mem_cons]at hy;rcases hy with rfl|hy
  ·have hlen:(x.take (m.toNat*c)).length=m.toNat*c:=by rw[Ahf];omega
   rw[hlen];exact⟨hpos,by omega,Ans _ _,λv hv=>List.mem_of_mem_take hv⟩
  ·obtain⟨a1,a2,a3,a4⟩:=dI c h1 l (x.drop (m.toNat*c)) (λm hm'=>hm m (Ajo _ hm')) (by rw[Ak8];omega) y hy;rw[Ak8]at a2;exact⟨a1,by omega,a3,λv hv=>List.mem_of_mem_drop (a4 v hv)⟩
def qE(fs:List LB):List Int:=fs.map λf=>(f.length:Int)
theorem nZ(fs:List LB):(qE fs).length=fs.length:=by rw[qE,List.length_map]
def Aj9(p:LB):Nat:=if p=[]then 1 else 2
def Al4(p:LB):LB:=if p=[]then []else Tv (FL p).toNat 8
def wK(c r n:Nat)(x:List Int32):List (List Int32):=OC c x (Ax (Ar r) n)
def frs(c w r n:Nat)(x:List Int32)(p:LB):List LB:=(wK c r n x).map (dL (w:Int) c (HE p))
theorem QR{g n:Nat}(hg:1<=g)(h1:1<=n):∀m∈Ax g n,1<=m:=by
 intro m hm;rw[Ax,List.mem_append,List.mem_replicate,List.mem_singleton]at hm;have h:=Am8 (n-1) g;rcases hm with⟨_,rfl⟩|rfl
 ·omega
 ·omega
section
variable {c w r n:Nat} {x:List Int32} (h:ClipOk c w r n x)
include h
theorem ClipOk.sum:(Ax (Ar r) n).sum=(n:Int):=ZL h.cnt.1
omit h in
theorem Acj:(wK c r n x).length=(Ax (Ar r) n).length:=eS _ _ _
theorem Ab7:∀y∈wK c r n x,1<=y.length/\y.length<=4000/\y.length %c=0/\L8 (w:Int) y:=by
 intro y hy;obtain⟨a1,a2,a3,a4⟩:=dI c h.ch.1 _ _ (QR (Rc r) h.cnt.1) (by rw[h.sum,h.len,Ajf]) y hy;have:=h.le;exact⟨a1,by omega,a3,λv hv=>h.rng v (a4 v hv)⟩
omit h in
theorem Af8(p:LB):(frs c w r n x p).length=(Ax (Ar r) n).length:=by rw[frs,List.length_map];exact eS _ _ _
omit h in
omit h in
end
theorem kG:∀{l:List Int},(∀x∈l,0<=x)->∀k,0<= (l.take k).sum
 |[],_,k=>by simp
 |x::l,h,0=>by simp
 |x::l,h,k+1=>by
  have:=kG (l:=l) (λy hy=>h y (Ajo _ hy)) k;have:=h x Alq;rw[List.take_succ_cons,Amk];omega
theorem oO(c:Nat)(h1:1<=c):∀(l:List Int) (x:List Int32),(∀m∈l,1<=m)->x.length=l.sum.toNat*c->∀(k:Nat) (hk:k<l.length) (hk':k<(OC c x l).length),(OC c x l)[k].length=l[k].toNat*c
 |[],x,_,_=>λk hk=>absurd hk (Nat.not_lt_zero _)
 |m::l,x,hm,hx=>by
  have hm1:=hm m Alq;have hl:0<=l.sum:=by
   have:=kG (l:=l) (λy hy=>by have:=hm y (Ajo _ hy);omega) l.length;rw[Ank]at this;exact this
  rw[Amk,show(m+l.sum).toNat=m.toNat+l.sum.toNat by omega,Aki]at hx;intro k hk hk';cases k with
  |zero=>simp only[OC,List.getElem_cons_zero,Ahf];omega
  |succ k=>
   simp only[OC,List.getElem_cons_succ];exact oO c h1 l (x.drop (m.toNat*c)) (λm hm'=>hm m (Ajo _ hm')) (by rw[Ak8];omega) k (by simpa using hk) _
structure FileOf (c w r n:Nat) (x:List Int32) (p:LB) (T:Nat) (fs:List LB) (z b:LB):Prop where
 clip:ClipOk c w r n x
 pass:p.length<=64
 front:Fb b=((T:Int),0)
 le:b.length<=100000
 lens:qE fs=qE (frs c w r n x p)
 form:b.drop T=Ama (Aj9 p) c w r n++(Al4 p++(Al8 (qE (frs c w r n x p))++(fs.flatten++z)))
section
variable {c w r n:Nat} {x:List Int32} {p:LB} {T:Nat} {fs:List LB} {z b:LB} (h:FileOf c w r n x p T fs z b)
include h
theorem FileOf.cnt:fs.length=(frs c w r n x p).length:=by
 have:=congrArg List.length h.lens;rw[nZ,nZ]at this;exact this
theorem FileOf.mom{k:Nat}(hk:k<fs.length):∃(m:Nat) (hk':k<(wK c r n x).length),Aj (Ax (Ar r) n) (k:Int)=some (m:Int)/\1<=m/\m<=4000/c/\ ((wK c r n x)[k]).length=m*c/\L8 (w:Int) (wK c r n x)[k]/\ (frs c w r n x p)[k]'(by rw[<-h.cnt];exact hk)=dL (w:Int) c (HE p) (wK c r n x)[k]:=by
 have hc:=h.clip;have hlen:fs.length=(Ax (Ar r) n).length:=by rw[h.cnt];exact Af8 p
 have hkf:k<(Ax (Ar r) n).length:=by omega
 have hk':k<(wK c r n x).length:=by rw[Acj];exact hkf
 have hm1:=QR (Rc r) hc.cnt.1 _ (Al3 hkf);obtain⟨m,hm⟩:=Ai8 (show 0<= (Ax (Ar r) n)[k] by omega);have hg:=oO c hc.ch.1 _ x (QR (Rc r) hc.cnt.1) (by rw[hc.sum,hc.len,Ajf]) k hkf hk';rw[hm,Ajf]at hg;have hmem:=Ab7 hc _ (Al3 hk');have hx:=dI c hc.ch.1 _ x (QR (Rc r) hc.cnt.1) (by rw[hc.sum,hc.len,Ajf]) _ (Al3 hk');have hg':((wK c r n x)[k]).length=m*c:=hg;refine⟨m,hk',by rw[Cq hkf,hm],by omega,?_,hg',hmem.2.2.2,?_⟩
 ·have h1:=hx.2.1;have h2:m*c<=n*c:=by rw[<-hg',<-hc.len];exact h1
  have h3:m<=n:=Nat.le_of_mul_le_mul_right h2 hc.ch.1;exact Nat.le_trans h3 hc.cnt.2
 ·simp only[frs,An6]
end
def Cd(e:Int):Prop:=e=0\/e=4\/e=12\/e=16\/e=22\/e=24\/e=26\/e=38
instance(e:Int):Decidable (Cd e):=by unfold Cd;infer_instance
structure HdI (f c w r n:Int) (F C W R N:Nat):Prop where
 ef:f=F
 ec:c=C
 ew:w=W
 er:r=R
 en:n=N
 shape:Hm F C W R N=true
 fit:KF C R N=true
inductive FitD (o:LB) (f c w r n:Int) (g:LI) (a:Int) (x:LB):Prop
 |new:f=0->c=0->w=0->r=0->n=0->g=[]->a=0->x=[]->FitD o f c w r n g a x
 |head (F C W R N:Nat):HdI f c w r n F C W R N-> (o==([]:LB))=decide (F=1)->g=[]->a=0->x=[]->FitD o f c w r n g a x
 |tab (F C W R N A:Nat):HdI f c w r n F C W R N-> (o==([]:LB))=decide (F=1)->cH g=true->g.length=(Ax (Ar R) N).length->a=A->A<=g.length->FitD o f c w r n g a x
def ID3:List UInt8:=[73,68,51]
def APX:List UInt8:=[65,80,69,84,65,71,69,88]
def sj(b s:List UInt8):Bool:=decide (b.length<s.length)&&(b==s.take b.length)
theorem uD(b s:List UInt8):Po b s=some (sj b s):=by
 rw[Po,sj];by_cases h:b.length<s.length
 ·rw[Acz (by rw[Af,Ac,Ac];simp;omega),Ac,Jz,Aa,decide_eq_true h,Aoa];rfl
 ·rw[Abe (by rw[Af,Ac,Ac];simp;omega),An0 h];rfl
def stS(b:List UInt8):Int×Int×Int×Int×Int×Int×Int:=
 if(Fb b).2=24 then(0,0,0,0,0,0, -1)else if(Fb b).2≠0 then(0,0,0,0,0,0,(Fb b).2)else
 if(sj (RM b) ID3||sj (RM b) APX)=true then(0,0,0,0,0,0, -1)else
 if(Mv (RM b)).2.2.2.2.2=24 then(0,0,0,0,0,0, -1)else((Fb b).1+22,(Mv (RM b)).1,(Mv (RM b)).2.1,(Mv (RM b)).2.2.1,(Mv (RM b)).2.2.2.1,(Mv (RM b)).2.2.2.2.1,(Mv (RM b)).2.2.2.2.2)
theorem I5(b:List UInt8)(hb:b.length<=100000):Xc b=some (stS b):=by
 rw[Xc,BF,UM b (by omega),Aa,stS];have hok:=iH (b:=b);simp only;by_cases h1:(Fb b).2=24
 ·rw[Acz (by rw[Bf];simpa using h1),Acz h1]
 rw[Abe (by rw[Bf];simpa using h1),Abe h1];by_cases h2:(Fb b).2≠0
 ·rw[Acz (by rw[Ah];simpa using h2),Acz h2]
 have h0:(Fb b).2=0:=by simpa using h2
 obtain⟨k1,k2,k3⟩:=hok h0;rw[Abe (by rw[Ah,h0];simp),Abe h2,Lm,Aa,uD,Aa,show b.drop (Fb b).1.toNat=RM b from rfl,show([73,68,51]:LB)=ID3 from rfl,show([65,80,69,84,65,71,69,88]:LB)=APX from rfl];by_cases h3:sj (RM b) ID3=true
 ·rw[Acz h3,h3,Bool.true_or,Acz rfl]
 rw[Abe h3,uD,Aa,Bool.eq_false_iff.2 h3,Bool.false_or];by_cases h4:sj (RM b) APX=true
 ·rw[Acz h4,Acz h4]
 have hl:(RM b).length<=b.length:=by rw[RM,Ak8];omega
 rw[Abe h4,Abe h4,BE,BN,nG _ (by omega),Aa];simp only;by_cases h5:(Mv (RM b)).2.2.2.2.2=24
 ·rw[Acz (by rw[Bf];simpa using h5),Acz h5]
 ·rw[Abe (by rw[Bf];simpa using h5),Abe h5,Ag]
structure SzD (p:LB) (g:LI) (a:Int) (x:LB):Prop where
 hp:p.length<=100000
 hg:g.length<=1000
 hx:x.length+12000*(g.length-a.toNat)<=13000000
section
variable {bk:LB->Int->Int->Int->Int->Int->Int->LI->LB->Xn} {o p:LB} {f c w r n:Int} {g:LI} {a:Int} {x:LB} {u:Bool} {v:Int}
theorem f75{d:Bool}{e:Int}:jH bk o u v f c w r n a x d e p g=TA bk o u v p f c w r n a d e g x:=rfl
end
theorem ug{α β:Type}{o:Option α}{f:α->Option β}{r:β}(h:Option.bind o f=some r):∃x,o=some x/\f x=some r:=by
 cases o with
 |none=>cases h
 |some x=>exact⟨x,rfl,h⟩
def OutB(f c w r n:Int)(g:LI)(a:Int)(x:LB):Prop:=∀(F C W R N A:Nat),HdI f c w r n F C W R N->g≠ []->a=(A:Int)-> (x.length:Int)<=Aca C W (Ax (Ar R) N) A
theorem OutB.nil{f c w r n:Int}{a:Int}{x:LB}:OutB f c w r n [] a x:=λ_ _ _ _ _ _ _ h=>absurd rfl h
theorem OutB.zero{f c w r n:Int}{g:LI}:OutB f c w r n g 0 []:=λF C W R N A h hg ha=>by
 obtain rfl:A=0:=by omega
 rw[K9];simp
structure Wt (o p:LB) (f c w r n:Int) (g:LI) (a:Int) (x:LB):Prop where
 fit:FitD o f c w r n g a x
 sz:SzD p g a x
 out:OutB f c w r n g a x
 wait:EV o p f c w r n g a x false 0=some (o,p,f,c,w,r,n,g,a,x,false,0, -1)
abbrev Ahd(q:Nat)(o p:LB)(f c w r n:Int)(g:LI)(a:Int)(x:LB):=JM q o p f c w r n g a x false 0
abbrev Fd(o s:LB):=Ahd Az o s 0 0 0 0 0 [] 0 []
inductive Bh (o s:LB):LB->Int->Int->Int->Int->Int->LI->Int->LB->Int->Prop
 |wt {p:LB} {f c w r n:Int} {g:LI} {a:Int} {x:LB}:Wt o p f c w r n g a x->p.length<=s.length-> (∀b:LB,(s++b).length<=100000->Fd o (s++b)=Ahd Az o (p++b) f c w r n g a x)->Bh o s p f c w r n g a x 0
 |er {x:LB} {e:Int}:0<e->Cd e->x.length<=12000-> (∀b:LB,(s++b).length<=100000->Fd o (s++b)=some (o,[],0,0,0,0,0,[],0,x,false,e,e))->Bh o s [] 0 0 0 0 0 [] 0 x e
variable {o s p:LB} {f c w r n:Int} {g:LI} {a:Int} {x:LB} {e:Int}
theorem Bh.new(ho:o.length<=64):Bh o [] [] 0 0 0 0 0 [] 0 [] 0:=by
 refine .wt ⟨.new rfl rfl rfl rfl rfl rfl rfl rfl,⟨by simp,by simp,by simp⟩,OutB.nil,?_⟩ (Ag9 _) λb _=>rfl;rw[EV,IV,Acz (by decide),I5 [] (by simp),Aa];rfl
end Go.Pl
namespace Go.Pl
open Go Go.Lv
section
variable {o s p:LB} {f c w r n:Int} {g:LI} {a:Int} {x:LB} {e:Int}
theorem FitD.drop(h:FitD o f c w r n g a x)(t:Nat):FitD o f c w r n g a (x.drop t):=by
 cases h with
 |new e1 e2 e3 e4 e5 e6 e7 e8=>subst e8;exact .new e1 e2 e3 e4 e5 e6 e7 (by simp)
 |head F C W R N hd hpw e6 e7 e8=>subst e8;exact .head F C W R N hd hpw e6 e7 (by simp)
 |tab F C W R N A hd hpw ht hl ea hA=>exact .tab F C W R N A hd hpw ht hl ea hA
theorem OutB.drop(h:OutB f c w r n g a x)(t:Nat):OutB f c w r n g a (x.drop t):=by
 intro F C W R N A hd hg ha;have:=h F C W R N A hd hg ha;rw[Ak8];omega
end
theorem N7{w:Nat}(hw:Cb (w:Int)){X:LX}(hl:X.length<=4000)(hr:L8 (w:Int) X):CF (w:Int) X=some (Cy (w:Int) X,0):=pA hw hl (tV hw hl hr)
theorem sF{bits a r:Int}(h:Cb bits)(l:List Int32)(hl:l.length<=4000)(hr:L8 bits l):∀(j i q:Nat),i+j=l.length->j<q->Hg a bits r l q (i:Int) (Cy bits (l.take i))=some (Cy bits l)
 |0,i,q+1,hi,_=>by
  rw[Hg,Od,Abe (by rw[Af,Ac];simp;omega),Amr (by omega)];rfl
 |j+1,i,q+1,hi,hq=>by
  have hlt:i<l.length:=by omega
  have ih:=sF (a:=a) (r:=r) h l hl hr j (i+1) q (by omega) (by omega);have hlen:=HN bits (l.take i);have hol:=mG bits l[i].toInt;rw[Ahf]at hlen;have e2:Cy bits (l.take i++[l[i]])=Cy bits (l.take i)++FI bits l[i].toInt:=by unfold Cy;rw[List.flatMap_append,List.flatMap_singleton]
  rw[MK hlt,e2]at ih;rw[Hg,Od,Acz (by rw[Af,Ac];simp;omega),Cq hlt,Aa,P4 h _ (hr l[i] (Al3 _)),Aa,Cc,Aa,Ag];exact ih
theorem yt{bits a r:Int}(h:Cb bits){l:List Int32}(hl:l.length<=4000)(hr:L8 bits l):Dj a bits r l=some (Cy bits l):=by
 have h1:=sF (a:=a) (r:=r) h l hl hr l.length 0 Az (by omega) (by have:=As;omega);rw[Dj,Xr];exact h1
theorem Aa8(n:Nat):Is (n:Int) 2=((n %2:Nat):Int):=by
 show Int.tmod (n:Int) 2=_;rw[Anf (by omega)];omega
theorem Ah9{k m:LB}(hk:k.length<=100)(hm:m.length<=20000):Vt (two k m)=some ((KY k m+8:Nat):Int):=by
 obtain⟨q,hq⟩:=U2;rw[Vt,Xv,Wc,hq,Hc,Jj,EW,Acz (by decide),V5,Aa,Aa,g01,Hc,Jj,EW,Acz (by decide),T4,Aa,Aa,g11,Hc,Jj,EW,Abe (by decide),Wu,JX];simp only[Ac];rw[Aa8,Aa8];have h1:Ae (8:Int) (k.length:Int)=8+(k.length:Int):=Ag;have h2:Ae (8:Int) (m.length:Int)=8+(m.length:Int):=Ag;have h3:Ae (8+(k.length:Int)) ((k.length %2:Nat):Int)=8+(k.length:Int)+((k.length %2:Nat):Int):=Ag;have h4:Ae (8+(m.length:Int)) ((m.length %2:Nat):Int)=8+(m.length:Int)+((m.length %2:Nat):Int):=Ag;have h5:Ae (12:Int) (8+(k.length:Int)+((k.length %2:Nat):Int))=12+(8+(k.length:Int)+((k.length %2:Nat):Int)):=Ag;rw[h1,h2,h3,h4,h5,Ag];unfold KY;congr 1;omega
theorem Ak5{c k:LB}{l:List (LB×LB×Unit)}{i:Nat}{o:LB}{q:Nat}(hi:i<l.length)(hg:Aj l (i:Int)=some (c,k,()))(hl:l.length<=10)(ho:o.length<=60000)(hc:c.length<=4)(hk:k.length<=20000):
  Eb l (q+1) (i:Int) o=Eb l q ((i+1:Nat):Int) (o++chB c k):=by
 have h1:(UInt64.ofNat k.length).toNat=k.length:=by rw[Age];omega
 rw[Eb,Mh,Acz (by rw[Af,Ac];simp;omega),hg,Aa];dsimp only;rw[Cc,Aa,Aa];dsimp only;rw[show Ac k=((k.length:Nat):Int)from rfl,Ll,wr4,Aa,h1,Cc (by simp[Bj];omega),Aa,Aa];dsimp only;rw[Cc (by simp[Bj];omega),Aa,Aa];dsimp only;rw[show Ac k=((k.length:Nat):Int)from rfl,Aa8];have e:Ae (i:Int) 1=((i+1:Nat):Int):=by rw[Ag];omega
 by_cases h:k.length %2=1
 ·rw[h,Acz (by decide),Cc (by simp[Bj];omega),Aa,e];unfold chB qx;rw[h];simp only[Ais,List.replicate]
 ·have h0:k.length %2=0:=by omega
  rw[h0,Abe (by decide),e];unfold chB qx;rw[h0];simp only[Ais,List.replicate,Ajn]
theorem Aaj{k m:LB}(hk:k.length<=100)(hm:m.length<=20000):Cx [87,65,86,69] (two k m)=some (E4 k m):=by
 obtain⟨q,hq⟩:=U2;have h1:(UInt64.ofNat (KY k m)).toNat=KY k m:=by rw[Age];unfold KY;omega
 have e:Am ((KY k m+8:Nat):Int) 8=((KY k m:Nat):Int):=by rw[Bk (by unfold KY;omega) (by unfold KY;omega)];omega
 rw[Cx,Va,Ah9 hk hm,Aa,e,Ll,wr4,Aa,h1,Cc (by simp[Bj]),Aa,Cc (by simp[Bj]),Aa,Uh,hq,
  show(0:Int)=((0:Nat):Int)from rfl,Ak5 (i:=0) (c:=[102,109,116,32]) (k:=k) (by simp) (V5 k m) (by simp) (by simp[Bj]) (by simp) (by omega),Ak5 (i:=1) (c:=[100,97,116,97]) (k:=m) (by simp) (T4 k m) (by simp) (by simp[chB,qx,Bj];omega) (by simp) hm,
  Eb,Mh,Abe (by rw[EW];decide),Uk,FY]
 unfold E4;simp only[Ais]
theorem Acr{c w r n:Nat}{x:List Int32}(h:ClipOk c w r n x)(hc:Gp (c:Int) (w:Int) (r:Int) x=some 0):∃b:LB,bT (c:Int) (w:Int) (r:Int) x=some (b,0)/\Ja (c:Int) (w:Int) (r:Int) x=some b:=by
 obtain⟨k,k1,k2,k3⟩:=sw h.ch.1 h.ch.2 h.bits h.rate.1 h.rate.2;have hx:=h.le.2.2.2;have hb:=HN (w:Int) x;refine⟨E4 k (Cy (w:Int) x),?_,?_⟩
 ·rw[bT,hc,Aa,Abe (by decide),k1,Aa];simp only;rw[N7 h.bits hx h.rng,Aa];simp only;rw[J4 (by omega) (by omega),Aa]
 ·rw[Ja,Ly,Aa];simp only;rw[k2,Aa,yt h.bits hx h.rng,Aa,Aaj (by omega) (by omega),Aa]
theorem Afy{b p:LB}{f c w r n A:Nat}{l:List Int}(o:Opn b p f c w r n A l)(h0:(iA b p f c w r n A l).2.2.2.2=0):
  ∃(x:LX) (m:Nat),iA b p f c w r n A l=((c:Int),(w:Int),(r:Int),x,0)/\ClipOk c w r m x/\Gp (c:Int) (w:Int) (r:Int) x=some 0:=by
 unfold iA SN at h0⊢;by_cases hy:(iC (λk=>S5 w (SZ b p f c w r n A l k)) (λk=>(SZ b p f c w r n A l k).2) (ng b A l) l.length 0 []).2=0
 ·obtain⟨_,hE,hX⟩:=C8 _ _ _ l.length 0 [] hy;have hE':∀i,i<l.length-> (SZ b p f c w r n A l i).2=0:=λi hi=>hE i (by omega) (by omega);rw[Abe (by rw[hy];simp),hX,All];have ht:=jg o hE';have hi:=W7 o hE' l.length 0 (by omega);have hn:=(DC o.shape).2.2.2.1;have hc:=Afp o hn (Ag9 _) ht hi;rcases zA (c:Int) (w:Int) (r:Int) (SY (λi=>S5 w (SZ b p f c w r n A l i)) l.length 0)with⟨e8,_⟩|⟨c',w',r',m,e1,e2,e3,hk,_,e⟩
  ·rw[hc]at e8;cases e8
  ·obtain rfl:c=c':=by omega
   obtain rfl:w=w':=by omega
   obtain rfl:r=r':=by omega
   exact⟨_,m,rfl,hk,e⟩
 ·rw[Acz hy]at h0;exact absurd h0 hy
theorem jT(f g h:Int)(a:LX)(ha:a.length<=4000000):∀(j i q:Nat),i+j=a.length->j<q->Hb f g h a f g h a q (i:Int)=some true
 |0,i,q+1,hi,_=>by
  rw[Hb,Oe,Abe (by rw[Af,Ac];simp;omega)];rfl
 |j+1,i,q+1,hi,hq=>by
  have hlt:i<a.length:=by omega
  have ih:=jT f g h a ha j (i+1) q (by omega) (by omega);rw[Hb,Oe,Acz (by rw[Af,Ac];simp;omega),Cq hlt,Aa,Aa,Abe (by rw[Ady];simp),Ag];exact ih
theorem Ahy(f g h:Int)(a:LX)(ha:a.length<=4000000):Vr f g h a f g h a=some true:=by
 rw[Vr,Xx,Abe (by simp[Ah])];exact jT f g h a ha a.length 0 Az (by omega) (by have:=As;omega)
theorem Ad3(a b:LB)(ha:a.length<=100100):∃(h k m:Int) (n:LX) (f:Int) (y:LB) (z:Int),Gt a b=some (h,k,m,n,f)/\Bz a b=some (h,k,m,n,f)/\MI a b=some (y,z)/\Lk a b=some (y,z)/\n.length<=4000000:=by
 have bad:∀e:Int,e≠0->Gt a b=some (iG e)->Bz a b=some (iG e)->∃(h k m:Int) (n:LX) (f:Int) (y:LB) (z:Int),Gt a b=some (h,k,m,n,f)/\Bz a b=some (h,k,m,n,f)/\MI a b=some (y,z)/\Lk a b=some (y,z)/\n.length<=4000000:=by
  intro e he h1 h2;refine⟨0,0,0,[],e,[],e,h1,h2,?_,?_,by simp⟩
  ·rw[MI,h1,Aa,iG];simp only;rw[Acz (by rw[Ah];simpa using he)]
  ·rw[Lk,h2,Aa,iG];simp only;rw[Acz (by rw[Ah];simpa using he)]
 by_cases hb:b.length<=64
 ·rcases Adv a b ha hb with⟨e,he,_,_,h1,h2⟩|⟨f,c,w,r,n,A,l,o,h1,h2⟩
  ·exact bad e he h1 h2
  ·by_cases h0:(iA a b f c w r n A l).2.2.2.2=0
   ·obtain⟨x,m,e,hk,hc⟩:=Afy o h0;obtain⟨y,w1,w2⟩:=Acr hk hc;rw[e]at h1 h2;refine⟨_,_,_,x,0,y,0,h1,h2,?_,?_,by have:=hk.le.2.2.2;omega⟩
    ·rw[MI,h1,Aa];simp only;rw[Abe (by decide),w1,Aa]
    ·rw[Lk,h2,Aa];simp only;rw[Abe (by decide),w2,Aa]
   ·have e:iA a b f c w r n A l=iG (iA a b f c w r n A l).2.2.2.2:=by
     unfold iA SN at h0⊢;split
     ·rfl
     ·rename_i hz;rw[Abe hz]at h0;exact absurd rfl h0
    rw[e]at h1 h2;exact bad _ h0 h1 h2
 ·refine bad 2 (by decide) ?_ ?_
  ·rw[Gt,HS,Acz (by rw[Ap,Ac];simp;omega)];rfl
  ·rw[Bz,Nt,Acz (by rw[Ap,Ac];simp;omega)];rfl
theorem law_ValidClips(a b:LB):Rh a b=some true:=by
 rw[Rh,DW,Aa];split
 ·rfl
 ·rename_i hL;have ha:a.length<=100100:=by
   simp[Ap,Af,Ac]at hL;omega
  obtain⟨h,k,m,n,f,y,z,h1,h2,h3,h4,h5⟩:=Ad3 a b ha;rw[h1,Aa];simp only;rw[h2,Aa];simp only;rw[h3,Aa];simp only;rw[h4,Aa];simp only;rw[Ahy _ _ _ _ h5,Aa,Acz (by simp[Bf]),aN,h1,Aa];simp only;rw[Aa];simp[Bf]
end Go.Pl
