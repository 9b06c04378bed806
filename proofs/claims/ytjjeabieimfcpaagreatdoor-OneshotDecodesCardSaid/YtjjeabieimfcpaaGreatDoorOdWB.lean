/- A part of a proof (see the text that ends in Proof). No conditions. -/
import Derived.Test.YtjjeabieimfcpaaGreatDoorOdWA
import Derived.KernelRfl
set_option linter.unusedVariables false
set_option linter.unusedSimpArgs false
namespace Go.Pl
open Go Go.Lv
theorem Ac2(g:Nat):∀K:Nat,(List.replicate K (g:Int)).sum=((K*g:Nat):Int)
 |0=>by simp
 |K+1=>by
  rw[Avu,Auk,Ac2 g K,Axm];omega
theorem jM{g n:Nat}(hn:1<=n):(Ak g n).sum=(n:Int):=by
 have h:=Atd (n-1) g;rw[Ak,List.sum_append,Ac2];simp only[Auk,Axe];omega
theorem Acf:∀{l:List Int},(∀x∈l,0<=x)->0<=l.sum
 |[],_=>by simp
 |x::l,h=>by
  have h1:=h x Au1;have h2:=Acf (l:=l) λy hy=>h y (Arz _ hy);rw[Auk];omega
theorem eT{l:List Int}(h:∀x∈l,0<=x)(i:Nat):0<= (l.take i).sum/\ (l.take i).sum<=l.sum:=by
 have h1:=Acf (l:=l.take i) λx hx=>h x (Axq hx);have h2:=Acf (l:=l.drop i) λx hx=>h x (Axr hx);have:=P2 l i;omega
def JF(c w:Nat)(fr:List Int)(k:Nat):Int:=(((fr.take k).sum.toNat*(c*wB (w:Int)):Nat):Int)
section
variable {f c w r n:Nat} (h1:Hq f c w r n=true) (h2:FN c r n=true)
include h1 h2
theorem PK:(∀x∈Ak (Am r) n,0<=x)/\ (Ak (Am r) n).sum=(n:Int)/\n<=4000:=by
 obtain⟨hc,hw,hr,hn,_⟩:=Mk h1;have hfit:n<=4000/c:=by simp only[FN,Aaf]at h2;exact h2.1
 have hn4:n<=4000:=by have:=Ar4 4000 c;omega
 refine⟨λx hx=>?_,jM hn,hn4⟩;obtain⟨m,rfl,_⟩:=Xj (Iy r) hn hx;omega
end
section
variable {b p:List UInt8} {f c w r n A:Nat} {l:List Int} (o:Opn b p f c w r n A l)
include o
theorem Aib(h:(lD b p f c w r n A l).2.2.2.2=0):(A:Int)+l.sum<=b.length:=by
 have hs1:=o.some1;have key:∀(j k:Nat) (acc:List Int32),k+j=l.length->1<=j-> (YP (λk=>uH w (Kq b p f c w r n A l k)) (λk=>(Kq b p f c w r n A l k).2) (fB b A l) j k acc).2=0-> (A:Int)+l.sum<=b.length:=by
  intro j
  induction j with
  |zero=>intro k acc _ h;omega
  |succ j ih=>
   intro k acc hk _ h;obtain⟨m,x,s,e,g⟩:=IF o k (by omega);rw[YP]at h;by_cases he:(Kq b p f c w r n A l k).2≠0
   ·rw[Aae he]at h;exact absurd h he
   ·rw[Aaa he]at h;by_cases hj:j=0
    ·rw[g.eq]at he;have:=(g.some' (by simpa using he)).2.2.2.2;rw[show k+1=l.length by omega,Atb]at this;exact this
    ·exact ih (k+1) _ (by omega) (by omega) h
 rw[lD,QY]at h;refine key l.length 0 [] (by omega) hs1.1 ?_;split at h
 ·simpa [mK]using h
 ·rename_i h2;simpa using h2
end
theorem Abn(C W:Nat)(fr:List Int):JF C W fr 0=0:=by rw[JF,Avn,Axe];simp
theorem Abm(C W:Nat){fr:List Int}(hp:∀z∈fr,0<=z){A m:Nat}(hA:A<fr.length)(hm:fr[A]=(m:Int)):JF C W fr (A+1)=JF C W fr A+((m*C*wB (W:Int):Nat):Int):=by
 have hs:0<= (fr.take A).sum:=by
  have:∀l:List Int,(∀z∈l,0<=z)->0<=l.sum:=by
   intro l
   induction l with
   |nil=>intro _;simp
   |cons a l ih=>intro h;rw[Auk];have:=h a (by simp);have:=ih (λz hz=>h z (by simp[hz]));omega
  exact this _ λz hz=>hp z (Axq hz)
 have e:(fr.take (A+1)).sum=(fr.take A).sum+m:=by rw[OS hA,List.sum_append,Auk,Axe,hm];omega
 rw[JF,JF,e];have:((fr.take A).sum+(m:Int)).toNat=(fr.take A).sum.toNat+m:=by omega
 rw[this,Ara,Av3 m];omega
theorem sZ{bits:Int}(h:Bn bits){l:List Int32}(hl:l.length<=4000)(hr:inR bits l):Ay bits l=some 0:=by
 have hh:=OO bits;have key:∀(j i q:Nat),i+j=l.length->j<q->Bb l (hB bits) q (i:Int)=some 0:=by
  intro j
  induction j with
  |zero=>
   intro i q hi hq;obtain⟨q,rfl⟩:∃k,q=k+1:=⟨q-1,by omega⟩;rw[Bb,Cx,Aaa (by rw[Ae,Ac];simp;omega)];rfl
  |succ j ih=>
   intro i q hi hq;obtain⟨q,rfl⟩:∃k,q=k+1:=⟨q-1,by omega⟩;have hx:=hr l[i] (Anw (by omega));rw[Bb,Cx,Aae (by rw[Ae,Ac];simp;omega),Ce,Aa,Aa,Gb,S3,Db (by omega) (by omega),Aj,Ae,Ej,Aaa (by simp;omega),Aaa (by simp;omega)];exact ih (i+1) q (by omega) (by omega)
 rw[Ay,Dn,TP h,Aa,Aaa (by rw[Aq];simp;omega),Aaa (by rw[Ap,Ac];simp;omega)];exact key l.length 0 Ba (by omega) (by have:=Ax;omega)
theorem Aa6(bits:Int)(a b:List Int32):Dq bits (a++b)=Dq bits a++Dq bits b:=by unfold Dq;rw[List.flatMap_append]
def Xr{α:Type}(G:Nat->List α):Nat->Nat->List α
 |0,_=>[]
 |j+1,k=>G k++Xr G j (k+1)
theorem oq{α:Type}(G:Nat->List α):∀(i j k:Nat),Xr G (i+j) k=Xr G i k++Xr G j (k+i)
 |0,j,k=>by simp[Xr]
 |i+1,j,k=>by
  rw[show i+1+j=(i+j)+1 by omega,Xr,Xr,oq G i j (k+1),Ahm,show k+1+i=k+(i+1) by omega]
theorem P4{α:Type}(G:Nat->List α)(i k:Nat):Xr G (i+1) k=Xr G i k++G (k+i):=by
 rw[oq G i 1 k];simp[Xr]
theorem ku(w:Nat)(G:Nat->List UInt8×Int)(be:Int):∀(j k:Nat) (acc:List UInt8) (Acu:List Int32),(gB G be j k acc).2=(YP (λk=>uH w (G k)) (λk=>(G k).2) be j k Acu).2
 |0,k,acc,Acu=>by
  rw[gB,YP];split<;>rfl
 |j+1,k,acc,Acu=>by
  rw[gB,YP];split
  ·rfl
  ·exact ku w G be j (k+1) _ _
theorem rB(X:Nat->List Int32)(E:Nat->Int)(be:Int):∀(j k:Nat) (acc:List Int32),(YP X E be j k acc).2=0->be=0/\ (∀i,k<=i->i<k+j->E i=0)/\ (YP X E be j k acc).1=acc++Xr X j k
 |0,k,acc,h=>by
  rw[YP]at h⊢;by_cases hb:be≠0
  ·rw[Aae hb]at h;cases h
  ·rw[Aaa hb];exact⟨by simpa using hb,λi h1 h2=>by omega,by simp[Xr]⟩
 |j+1,k,acc,h=>by
  rw[YP]at h⊢;by_cases hb:E k≠0
  ·rw[Aae hb]at h;exact absurd h hb
  ·rw[Aaa hb]at h⊢;obtain⟨h1,h2,h3⟩:=rB X E be j (k+1) _ h;refine⟨h1,λi i1 i2=>?_,?_⟩
   ·by_cases hi:i=k
    ·subst hi;simpa using hb
    ·exact h2 i (by omega) (by omega)
   ·rw[h3,Xr,Ahm]
theorem L8(G:Nat->List UInt8×Int):∀(j k:Nat) (acc:List UInt8),(∀i,k<=i->i<k+j-> (G i).2=0)->gB G 0 j k acc=(acc++Xr (λi=>(G i).1) j k,0)
 |0,k,acc,h=>by
  rw[gB,Aaa (by simp),Xr];simp
 |j+1,k,acc,h=>by
  rw[gB,Aaa (by rw[h k (by omega) (by omega)];simp),L8 G j (k+1) _ λi h1 h2=>h i (by omega) (by omega),Xr,Ahm]
section
variable {b p:List UInt8} {f c w r n A:Nat} {l:List Int} (o:Opn b p f c w r n A l) (hE:∀i,i<l.length-> (Kq b p f c w r n A l i).2=0)
include o hE
theorem X9(i:Nat)(hi:i<l.length):∃m:Nat,Ao (Ak (Am r) n) (i:Int)=some (m:Int)/\1<=m/\ (Kq b p f c w r n A l i).1=Dq (w:Int) (uH w (Kq b p f c w r n A l i))/\ (uH w (Kq b p f c w r n A l i)).length=m*c/\inR (w:Int) (uH w (Kq b p f c w r n A l i)):=by
 have hw:=(Mk o.shape).2.1;obtain⟨m,x,s,e,g⟩:=IF o i hi;have h0:=hE i hi;have hsm:=g.uJ hw;have hl:=g.lens hw;rw[g.eq]at h0⊢;rw[hsm];obtain⟨h1,h2,h3,_⟩:=g.some' h0;exact⟨m,g.mom,g.pos.1,h1,h2,cV hw (by omega) h3⟩
theorem sR:∀(j k:Nat),k+j<=l.length->Dq (w:Int) (Xr (λi=>uH w (Kq b p f c w r n A l i)) j k)=Xr (λi=>(Kq b p f c w r n A l i).1) j k
 |0,k,_=>rfl
 |j+1,k,h=>by
  obtain⟨m,_,_,h1,_⟩:=X9 o hE k (by omega);rw[Xr,Xr,Aa6,sR j (k+1) (by omega),<-h1]
theorem wH:∀(j k:Nat),k+j<=l.length->inR (w:Int) (Xr (λi=>uH w (Kq b p f c w r n A l i)) j k)
 |0,k,_=>λx hx=>by simp[Xr]at hx
 |j+1,k,h=>by
  obtain⟨m,_,_,_,_,h1⟩:=X9 o hE k (by omega);intro x hx;rw[Xr,List.mem_append]at hx;rcases hx with hx|hx
  ·exact h1 x hx
  ·exact wH j (k+1) (by omega) x hx
theorem Aes:∀(j:Nat),j<=l.length-> (Xr (λi=>uH w (Kq b p f c w r n A l i)) j 0).length=((Ak (Am r) n).take j).sum.toNat*c
 |0,_=>by simp[Xr]
 |j+1,h=>by
  obtain⟨m,h0,_,_,h1,_⟩:=X9 o hE j (by omega);have hlen:=o.len;have hlt:j<(Ak (Am r) n).length:=by omega
  rw[Ce hlt]at h0;have h0':=Ap6 h0;obtain⟨g1,g2,g3⟩:=PK o.shape o.fit;have b:=eT g1 j;rw[P4,Aai,Aes j (by omega),Avg,h1,Ks hlt,h0'];rw[show(((Ak (Am r) n).take j).sum+(m:Int)).toNat=((Ak (Am r) n).take j).sum.toNat+m by omega,Ara]
theorem sN:(Xr (λi=>uH w (Kq b p f c w r n A l i)) l.length 0).length=n*c:=by
 have hn:=(Mk o.shape).2.2.2.1;rw[Aes o hE l.length (Alw _),o.len,Atb,jM hn];simp
theorem Ae5:Ma (w:Int) (Xr (λi=>uH w (Kq b p f c w r n A l i)) l.length 0)=some (Xr (λi=>(Kq b p f c w r n A l i).1) l.length 0,0):=by
 have hw:=(Mk o.shape).2.1;have hfit:n<=4000/c:=by have:=o.fit;simp only[FN,Aaf]at this;exact this.1
 have hN:n*c<=4000:=by
  have h1:=Ab5 c hfit;have h2:=Atd 4000 c;omega
 have ht:=sN o hE;rw[XC hw (by omega) (sZ hw (by omega) (wH o hE l.length 0 (by omega))),sR o hE l.length 0 (by omega)]
end
def Avy(bits:Int)(ch:Nat)(t x:List Int32):List UInt32:=evl bits ch t (mx ch x) x.length
def Auc(bits:Int)(ch:Nat)(t x:List Int32):List UInt8:=Auj (Au0 ch (Avy bits ch t x) x.length)
def nT(bits:Int)(ch:Nat)(t x:List Int32):List UInt8:=Auc bits ch t x++Xa (Jl (Auc bits ch t x)).toNat 4
theorem Ang{n:Nat}(h:n<2^64):(UInt64.ofNat n).toNat=n:=by rw[Ad3];exact Aah h
theorem Ahx{r:Nat}(h1:1<=r)(h:r<=1048576):BH (r:Int)=some ((Am r:Int),0):=by
 have hv:=A9 h;have e:Bm (r:Int) 256=Bm 256 (r:Int):=by rw[Hi,Hi];omega
 rw[BH,Aaa (by simp[Ae,Ap];omega),e];have hq:0<=By (Bm 256 (r:Int)) 245:=by
  have e2:Bm 256 (r:Int)=((256*r:Nat):Int):=by rw[Hi];omega
  rw[e2,show(245:Int)=((245:Nat):Int)from rfl,tC];omega
 rw[V4]at hv;by_cases hz:By (Bm 256 (r:Int)) 245=0
 ·rw[Aae (by rw[Aq];simpa using hz)];rw[hz]at hv;have:(1:Int)=(Am r:Int):=by omega
  rw[this]
 ·rw[Aaa (by rw[Aq];simpa using hz)];have:By (Bm 256 (r:Int)) 245=(Am r:Int):=by omega
  rw[this]
theorem oR{r:Nat}(h:r<=1048576)(K:Nat)(hK:K<=1000):∀(j n q:Nat) (acc:List Int),n<=4000->n<=j->j<q->acc.length+n<=10000-> (acc++(if n=0 then []else Ak (Am r) n)).length=K->Fa (Am r:Int) q (n:Int) acc=some (acc++(if n=0 then []else Ak (Am r) n),0)
 |0,n,q+1,acc,hn,hj,hq,ha,hk=>by
  obtain rfl:n=0:=by omega
  rw[Aae rfl,Apk]at hk;rw[Fa,Ls,Aaa (by rw[Ap];simp),Ve,Vj,Aaa (by rw[Ap,Ac];simp;omega),Aae rfl,Apk]
 |j+1,n,q+1,acc,hn,hj,hq,ha,hk=>by
  have hp:=Iy r;have hl:=qG h;by_cases h0:n=0
  ·subst h0;rw[Aae rfl,Apk]at hk;rw[Fa,Ls,Aaa (by rw[Ap];simp),Ve,Vj,Aaa (by rw[Ap,Ac];simp;omega),Aae rfl,Apk]
  ·rw[Fa,Ls,Aae (by rw[Ap];simp;omega),Bi (by simp;omega),Aa,SN];rw[Aaa h0]at hk⊢;by_cases hs:n<=Am r
   ·rw[show min (n:Int) (Am r:Int)=(n:Int) by omega,Bw,Int.sub_self];have ih:=oR h K hK j 0 q (acc++[(n:Int)]) (by omega) (by omega) (by omega) (by simp;omega) (by rw[Aae rfl,Apk];rw[QO hs (by omega)]at hk;exact hk);rw[Aae rfl,Apk]at ih;rw[QO hs (by omega)];exact ih
   ·rw[show min (n:Int) (Am r:Int)=(Am r:Int) by omega,Bw,show(n:Int)-(Am r:Int)=((n-Am r:Nat):Int) by omega];have e:acc++Ak (Am r) n=(acc++[(Am r:Int)])++Ak (Am r) (n-Am r):=by rw[lA hp (show Am r<n by omega)];simp
    have ih:=oR h K hK j (n-Am r) q (acc++[(Am r:Int)]) (by omega) (by omega) (by omega) (by simp;omega) (by rw[Aaa (by omega),<-e];exact hk);rw[Aaa (by omega),<-e]at ih;exact ih
theorem Apd{r n:Nat}(h1:1<=r)(h:r<=1048576)(n1:1<=n)(n2:n<=4000)(hk:(n-1)/Am r+1<=1000):∃z:Int,Jo (r:Int) (n:Int)=some (z,0):=by
 have hl:=oR h (Ak (Am r) n).length (by rw[YZ];omega) n n Ba [] n2 (Alw _) (by have:=Ax;omega) (by simp;omega) (by rw[Aaa (by omega)];rfl);rw[Jo,EZ,Vh,Ahx h1 h,Aa];simp only;rw[Aaa (by simp[Ah,Ae,Ap];omega),FU,hl,Aa];exact⟨_,rfl⟩
section
variable {b p:List UInt8} {f c w r n A:Nat} {l:List Int} (o:Opn b p f c w r n A l)
include o
theorem Aon{X:List Int32}{N:Nat}(hN:1<=N)(hNn:N<=n)(hX:X.length=N*c)(hr':inR (w:Int) X):Dp (c:Int) (w:Int) (r:Int) X=some 0:=by
 obtain⟨hc,hw,hr,hn,_⟩:=Mk o.shape;have hfit:n<=4000/c/\ (n-1)/Am r+1<=1000:=by have:=o.fit;simpa only[FN,Aaf]using this
 have hX4:X.length<=4000:=by
  have h1:=Ab5 c (Nat.le_trans hNn hfit.1);have h2:=Atd 4000 c;omega
 have hX1:1<=X.length:=by rw[hX];exact Nat.mul_pos hN (by omega)
 have hhB:=OO (w:Int);have hq4:=vI hc.1 hc.2;have hn4:n<=4000:=by have:=Ar4 4000 c;omega
 generalize 4000/c=mm at*
 have e20:Di (c:Int) (w:Int)=some 0:=by
  rw[Di,Aaa (by simp[Ae,Ap];omega),TP hw,Aa,Aaa (by rw[Aq];simp;omega)]
 have Aw7:Ko (Ac X) (c:Int)=0:=by
  rw[Ac,hX,dC,Avp];rfl
 have eA:Cn (c:Int) (w:Int) X=some 0:=by
  rw[Cn,e20,Aa,Aaa (by decide),sZ hw hX4 hr',Aa,Aaa (by decide),Aaa (by rw[Ae,Ac];simp;omega),Cb (by rw[Ah];simp;omega),Aa,Aw7,Aaa (by decide)]
 have As3:By (Ac X) (c:Int)=(N:Int):=by rw[Ac,tC,hX,Nat.mul_div_cancel _ (by omega)]
 have e21:Ed (c:Int) (w:Int) (N:Int)=some 0:=by
  rw[Ed,e20,Aa,Aaa (by simp[Ah,Ae];omega),Cb (by rw[Ah];simp;omega),Aa,hq4,Aaa (by rw[Ap];simp;omega)]
 obtain⟨z,e22⟩:=Apd hr.1 hr.2 hN (by omega) (by have:=Nat.div_le_div_right (c:=Am r) (show N-1<=n-1 by omega);omega);rw[Dp,Hf,Aa];simp only;rw[eA,Aa,Aaa (by decide),Cb (by rw[Ah];simp;omega),Aa,As3,MX,Hf,Aa];simp only;rw[e21,Aa,Aaa (by decide),e22,Aa,Aa];rfl
end
structure ClipOk (c w r n:Nat) (x:List Int32):Prop where
 ch:1<=c/\c<=6
 bits:Bn (w:Int)
 rate:1<=r/\r<=1048576
 cnt:1<=n/\n<=4000/c
 len:x.length=n*c
 fr:(n-1)/Am r+1<=1000
 rng:inR (w:Int) x
theorem ClipOk.le{c w r n:Nat}{x:List Int32}(h:ClipOk c w r n x):n<=4000/\n*c<=4000/\1<=x.length/\x.length<=4000:=by
 have h1:=Ab5 c h.cnt.2;have h2:=Atd 4000 c;have h3:=Ar4 4000 c;have h4:=Nat.mul_pos h.cnt.1 h.ch.1;have h5:=h.len;have:=h.cnt;omega
theorem ClipOk.w3{c w r n:Nat}{x:List Int32}(h:ClipOk c w r n x):w=8\/w=16\/w=24:=by
 have:=h.bits;unfold Bn at this;omega
theorem ClipOk.shape{c w r n:Nat}{x:List Int32}(h:ClipOk c w r n x)(f:Nat)(hf:f=1\/f=2):Hq f c w r n=true:=by
 have:=h.w3;have:=h.ch;have:=h.rate;have:=h.cnt;simp only[Hq,Aaf];omega
theorem ClipOk.fit{c w r n:Nat}{x:List Int32}(h:ClipOk c w r n x):FN c r n=true:=by
 have:=h.cnt;have:=h.fr;simp only[FN,Aaf];omega
theorem At3{bits:Int}(h:Bn bits){l:List Int32}(hl:l.length<=4000):Ay bits l=some 0\/Ay bits l=some 16:=by
 have hh:=OO bits;have key:∀(j i q:Nat),i+j=l.length->j<q->Bb l (hB bits) q (i:Int)=some 0\/Bb l (hB bits) q (i:Int)=some 16:=by
  intro j
  induction j with
  |zero=>
   intro i q hi hq;obtain⟨q,rfl⟩:∃q',q=q'+1:=⟨q-1,by omega⟩;rw[Bb,Cx,Aaa (by rw[Ae,Ac];simp;omega)];exact .inl rfl
  |succ j ih=>
   intro i q hi hq;obtain⟨q,rfl⟩:∃q',q=q'+1:=⟨q-1,by omega⟩;have ih:=ih (i+1) q (by omega) (by omega);have hi1:Af (i:Int) 1=((i+1:Nat):Int):=by rw[Aj];omega
   rw[Bb,Cx,Aae (by rw[Ae,Ac];simp;omega),Ce,Aa,Aa,hi1];split
   ·exact .inr rfl
   ·split
    ·exact .inr rfl
    ·exact ih
 have hk:=key l.length 0 Ba (by omega) (by have:=Ax;omega);rw[Ay,Dn,TP h,Aa,Aaa (by rw[Aq];simp;omega),Aaa (by rw[Ap,Ac];simp;omega)];exact hk
theorem qD{bits:Int}(h:¬Bn bits):Ik bits=some 0/\Ua bits=some (0,0,2):=by
 unfold Bn at h;constructor
 ·rw[Ik,Aaa (by rw[Aq,Asc];omega),Aaa (by rw[Aq,Asc];omega),Aaa (by rw[Aq,Asc];omega)]
 ·have e:(geq bits 24)=false:=by rw[Aq,beq_eq_false_iff_ne];omega
  rw[Ua,WX,Aaa (by rw[Aq,Asc];omega),Aaa (by rw[Aq,Asc];omega),e,YF,iN,Aaa (by decide)]
theorem rT{r:Nat}(h:r<=1048576):∀(j n q:Nat) (acc:List Int),n<=4000->n<=j->j<q->acc.length+n<=10000->
  Fa (Am r:Int) q (n:Int) acc=some (if 1000<(acc++(if n=0 then []else Ak (Am r) n)).length then([],4)else(acc++(if n=0 then []else Ak (Am r) n),0))
 |j,n,0,acc,_,_,h,_=>absurd h (Nat.not_lt_zero _)
 |j,n,q+1,acc,hn,hj,hq,ha=>by
  have hp:=Iy r;by_cases h0:n=0
  ·subst h0;rw[Aae rfl,Apk,Fa,Ls,Aaa (by rw[Ap];simp),Ve,Vj,Ap,Ac];by_cases hk:1000<acc.length
   ·rw[Aae hk,Aae (by simp;omega)]
   ·rw[Aaa hk,Aaa (by simp;omega)]
  ·obtain⟨j,rfl⟩:∃j',j=j'+1:=⟨j-1,by omega⟩;rw[Fa,Ls,Aae (by rw[Ap];simp;omega),Bi (by simp;omega),Aa,SN];by_cases hs:n<=Am r
   ·rw[show min (n:Int) (Am r:Int)=(n:Int) by omega,Bw,Int.sub_self];have ih:=rT h j 0 q (acc++[(n:Int)]) (by omega) (by omega) (by omega) (by simp;omega);rw[Aae rfl,Apk]at ih;rw[Aaa h0,QO hs (by omega)];exact ih
   ·rw[show min (n:Int) (Am r:Int)=(Am r:Int) by omega,Bw,show(n:Int)-(Am r:Int)=((n-Am r:Nat):Int) by omega];have e:acc++Ak (Am r) n=(acc++[(Am r:Int)])++Ak (Am r) (n-Am r):=by rw[lA hp (show Am r<n by omega)];simp
    have ih:=rT h j (n-Am r) q (acc++[(Am r:Int)]) (by omega) (by omega) (by omega) (by simp;omega);rw[Aaa (show ¬n-Am r=0 by omega),<-e]at ih;rw[Aaa h0];exact ih
theorem Abq(C W R:Int)(x:List Int32)(hlen:x.length<4611686018427387904):(Dp C W R x=some 8/\Jn C W R x=some 8)\/
  (∃c w r n:Nat,C=(c:Int)/\W=(w:Int)/\R=(r:Int)/\ClipOk c w r n x/\Dp C W R x=some 0/\Jn C W R x=some 0):=by
 have G3:∀e:Int,e≠0->Cn C W x=some e->Dp C W R x=some 8:=by
  intro e he h;rw[Dp,Hf,Aa];simp only;rw[h,Aa,Aae (by rw[Ah];simpa using he)]
 by_cases hC:C<1
 ·refine .inl ⟨G3 2 (by decide) ?_,?_⟩
  ·rw[Cn,Di,Aae (by simp[Ae,Ap];omega),Aa,Aae (by decide)]
  ·rw[Jn,Aae (by rw[Ae];simpa using hC)]
 obtain⟨c,rfl⟩:=Aj8 (show 0<=C by omega);have hc1:1<=c:=by omega
 have hq:By (Ac x) (c:Int)=((x.length/c:Nat):Int):=by rw[Ac,tC]
 have hr0:Ko (Ac x) (c:Int)=((x.length %c:Nat):Int):=by rw[Ac,dC]
 have Ajw:(∀m:Nat,x.length=m*c->OK (c:Int) W R x (m:Int)=some 8)->Jn (c:Int) W R x=some 8:=by
  intro h;rw[Jn,Aaa (by rw[Ae];simpa using hC),Cb (by rw[Ah];simp;omega),Aa,hr0];by_cases hm:x.length %c=0
  ·have hx:x.length=x.length/c*c:=by have:=Axv x.length c;rw[hm,Aql]at this;omega
   rw[hm,Aaa (by decide),Aa,hq,h _ hx,Aa,Aae (by decide)]
  ·rw[Aae (by rw[Ah];simp;omega)]
 by_cases h6:6<c
 ·refine .inl ⟨G3 2 (by decide) ?_,Ajw λm hm=>?_⟩
  ·rw[Cn,Di,Aae (by simp[Ae,Ap];omega),Aa,Aae (by decide)]
  ·rw[OK,VT,Aa];simp only;have:Jg (c:Int) W=some 2:=by
    rw[Jg];by_cases hb:Bn W
    ·rw[yD hb,Aa];simp only;rw[Aae (by simp[Ah,Ae,Ap];omega)]
    ·rw[(qD hb).2,Aa];simp only;rw[Aae (by simp[Ah])]
   rw[this,Aa,Aae (by simp[Ah])]
 by_cases hb:Bn W
 rotate_left
 ·refine .inl ⟨G3 2 (by decide) ?_,Ajw λm hm=>?_⟩
  ·rw[Cn,Di,Aaa (by simp[Ae,Ap];omega),(qD hb).1,Aa,Aae (by decide),Aa,Aae (by decide)]
  ·rw[OK,VT,Aa];simp only;have:Jg (c:Int) W=some 2:=by
    rw[Jg,(qD hb).2,Aa];simp only;rw[Aae (by simp[Ah])]
   rw[this,Aa,Aae (by simp[Ah])]
 have hhB:=OO W;have e20:Di (c:Int) W=some 0:=by
  rw[Di,Aaa (by simp[Ae,Ap];omega),TP hb,Aa,Aaa (by rw[Aq];simp;omega)]
 have hq4:=vI hc1 (show c<=6 by omega);have ecf:=Ar3 hb hc1 (show c<=6 by omega);have Ae1:∀m:Nat,OK (c:Int) W R x (m:Int)=if m<1\/4000/c<m then some 8 else Option.bind (Kt R (m:Int)) λy=>if(Bq y.2 0)=true then some 8 else some 0:=by
  intro m;rw[OK,VT,Aa];simp only;rw[ecf,Aa];by_cases hm:m<1
  ·rw[Aae (by simp[Ah,Ae];omega),Aae (.inl hm)]
  ·rw[Aaa (by simp[Ah,Ae];omega),Cb (by rw[Ah];simp;omega),Aa,hq4];by_cases hm2:4000/c<m
   ·rw[Aae (by rw[Ap,Aaf,gt_iff_lt,Int.ofNat_lt];exact hm2),Aae (.inr hm2)]
   ·rw[Aaa (by rw[Ap,Aaf,gt_iff_lt,Int.ofNat_lt];exact hm2),Aaa (by omega)]
 by_cases hx4:4000<x.length
 ·refine .inl ⟨G3 4 (by decide) ?_,Ajw λm hm=>?_⟩
  ·have:Ay W x=some 4:=by
    rw[Ay,Dn,TP hb,Aa,Aaa (by rw[Aq];simp;omega),Aae (by rw[Ap,Ac];simp;omega)]
   rw[Cn,e20,Aa,Aaa (by decide),this,Aa,Aae (by decide),Aa]
  ·rw[Ae1,Aae];refine .inr ?_;rw[Nat.div_lt_iff_lt_mul (by omega)];omega
 have hx4:x.length<=4000:=by omega
 have hsame:=oJ hb x hx4;rcases At3 hb hx4 with h18|h18
 rotate_left
 ·refine .inl ⟨G3 16 (by decide) ?_,?_⟩
  ·rw[Cn,e20,Aa,Aaa (by decide),h18,Aa,Aae (by decide),Aa]
  ·rw[Jn,Aaa (by rw[Ae];simpa using hC),Cb (by rw[Ah];simp;omega),Aa,hr0];by_cases hm:x.length %c=0
   ·rw[hm,Aaa (by decide),Aa,hq,Ae1];split
    ·rw[Aa,Aae (by decide)]
    ·rename_i hh;by_cases hR:1<=R/\R<=1048576
     ·obtain⟨r,rfl⟩:=Aj8 (show 0<=R by omega);have hd:=Ar4 x.length c;rw[dR (by omega) (by omega) (by omega) (by omega),Aa];split
      ·rw[Aae (by decide),Aa,Aae (by decide)]
      ·rw[Aaa (by simp[Ah]),Aa,Aaa (by decide),hsame,h18,Aa,Aae (by decide)]
     ·rw[Kt,Xe,Aae (by simp[Ae,Ap];omega),Aa];simp only;rw[Aae (by decide),Aa];simp only;rw[Aae (by decide),Aa,Aae (by decide)]
   ·rw[Aae (by rw[Ah];simp;omega)]
 by_cases hx1:x.length<1
 ·refine .inl ⟨G3 2 (by decide) ?_,Ajw λm hm=>?_⟩
  ·rw[Cn,e20,Aa,Aaa (by decide),h18,Aa,Aaa (by decide),Aae (by rw[Ae,Ac];simp;omega)]
  ·have h0:m*c=0:=by omega
   have:m=0:=by rcases Nat.mul_eq_zero.1 h0 with h|h<;>omega
   rw[Ae1,Aae (.inl (by omega))]
 have hA:x.length %c=0->Cn (c:Int) W x=some 0:=by
  intro hm;rw[Cn,e20,Aa,Aaa (by decide),h18,Aa,Aaa (by decide),Aaa (by rw[Ae,Ac];simp;omega),Cb (by rw[Ah];simp;omega),Aa,hr0,hm,Aaa (by decide)]
 by_cases hm:x.length %c=0
 rotate_left
 ·refine .inl ⟨G3 2 (by decide) ?_,?_⟩
  ·rw[Cn,e20,Aa,Aaa (by decide),h18,Aa,Aaa (by decide),Aaa (by rw[Ae,Ac];simp;omega),Cb (by rw[Ah];simp;omega),Aa,hr0,Aae (by rw[Ap];simp;omega)]
  ·rw[Jn,Aaa (by rw[Ae];simpa using hC),Cb (by rw[Ah];simp;omega),Aa,hr0,Aae (by rw[Ah];simp;omega)]
 have hxn:x.length=x.length/c*c:=by have:=Axv x.length c;rw[hm,Aql]at this;omega
 generalize hN:x.length/c=n at*
 have hn1:1<=n:=by
  by_cases h0:n=0
  ·rw[h0]at hxn;omega
  ·omega
 have hn4:n<=4000/c:=by rw[<-hN];exact Nat.div_le_div_right hx4
 have hn4':n<=4000:=Nat.le_trans hn4 (Ar4 _ _);have e21:Ed (c:Int) W (n:Int)=some 0:=by
  rw[Ed,e20,Aa,Aaa (by simp[Ah,Ae];omega),Cb (by rw[Ah];simp;omega),Aa,hq4,Aaa (by rw[Ap,Aaf,gt_iff_lt,Int.ofNat_lt];omega)]
 have Al3:∀z e:Int,Jo R (n:Int)=some (z,e)->Dp (c:Int) W R x=some (if e=0 then 0 else 8):=by
  intro z e hz;rw[Dp,Hf,Aa];simp only;rw[hA hm,Aa,Aaa (by decide),Cb (by rw[Ah];simp;omega),Aa,hq,MX,Hf,Aa];simp only;rw[e21,Aa,Aaa (by decide),hz,Aa,Aa,Aq];by_cases he:e=0
  ·subst he;rfl
  ·rw[Aaa he,Aae (by simpa using he)]
 have Q1:Jn (c:Int) W R x=Option.bind (Option.bind (Kt R (n:Int)) λy=>if(Bq y.2 0)=true then some 8 else some 0) λg=>if(Bq g 0)=true then some g else some 0:=by
  rw[Jn,Aaa (by rw[Ae];simpa using hC),Cb (by rw[Ah];simp;omega),Aa,hr0,hm,Aaa (by decide),Aa,hq,Ae1,Aaa (by omega),hsame,h18];rfl
 by_cases hR:1<=R/\R<=1048576
 rotate_left
 ·refine .inl ⟨?_,?_⟩
  ·refine Al3 0 2 ?_;rw[Jo,EZ,Vh,BH,Aae (by simp[Ae,Ap];omega),Aa];simp only;rw[Aae (by simp[Ah]),Aa];rfl
  ·rw[Q1,Kt,Xe,Aae (by simp[Ae,Ap];omega),Aa];simp only;rw[Aae (by decide),Aa];simp only;rw[Aae (by decide),Aa,Aae (by decide)]
 obtain⟨r,rfl⟩:=Aj8 (show 0<=R by omega);have hl:=rT (r:=r) (by omega) n n Ba [] hn4' (Alw _) (by have:=Ax;omega) (by simp;omega);rw[Aaa (show ¬n=0 by omega),Apz,YZ]at hl;have hcount:∃z:Int,Jo (r:Int) (n:Int)=some (z,if 1000<(n-1)/Am r+1 then 4 else 0):=by
  rw[Jo,EZ,Vh,Ahx (by omega) (by omega),Aa];simp only;rw[Aaa (by simp[Ah,Ae,Ap];omega),FU,hl,Aa];split<;>exact⟨_,rfl⟩
 obtain⟨z,hz⟩:=hcount;have h24:=Al3 z _ hz;rw[dR (by omega) (by omega) hn1 hn4',Aa]at Q1;by_cases hk:1000<(n-1)/Am r+1
 ·rw[Aae hk]at h24 Q1;exact .inl ⟨h24,Q1⟩
 ·rw[Aaa hk]at h24 Q1;have hw:∃w:Nat,W=(w:Int):=by
   rcases hb with rfl|rfl|rfl
   ·exact⟨8,rfl⟩
   ·exact⟨16,rfl⟩
   ·exact⟨24,rfl⟩
  obtain⟨w,rfl⟩:=hw;exact .inr ⟨c,w,r,n,rfl,rfl,rfl,⟨⟨hc1,by omega⟩,hb,by omega,⟨hn1,hn4⟩,hxn,by omega,cV hb hx4 h18⟩,h24,Q1⟩
theorem Ae9(C W R:Int){x:List Int32}(h:4000<x.length):Dp C W R x=some 8:=by
 have key:∃e:Int,e≠0/\Cn C W x=some e:=by
  rw[Cn,Di];by_cases h1:((Dg C 1)||(Fb C 6))=true
  ·rw[Aae h1,Aa,Aae (by decide)];exact⟨2,by decide,rfl⟩
  ·rw[Aaa h1];by_cases hb:Bn W
   ·have hh:=OO W;have h18:Ay W x=some 4:=by
     rw[Ay,Dn,TP hb,Aa,Aaa (by rw[Aq];simp;omega),Aae (by rw[Ap,Ac];simp;omega)]
    rw[TP hb,Aa,Aaa (by rw[Aq];simp;omega),Aa,Aaa (by decide),h18,Aa,Aae (by decide),Aa];exact⟨4,by decide,rfl⟩
   ·rw[(qD hb).1,Aa,Aae (by decide),Aa,Aae (by decide)];exact⟨2,by decide,rfl⟩
 obtain⟨e,he,h1⟩:=key;rw[Dp,Hf,Aa];simp only;rw[h1,Aa,Aae (by rw[Ah];simpa using he)]
theorem nk(C W R:Int)(x:List Int32):(Dp C W R x=some 8/\ (x.length<4611686018427387904->Jn C W R x=some 8))\/
  (∃c w r n:Nat,C=(c:Int)/\W=(w:Int)/\R=(r:Int)/\ClipOk c w r n x/\Dp C W R x=some 0/\Jn C W R x=some 0):=by
 by_cases hx:x.length<4611686018427387904
 ·rcases Abq C W R x hx with⟨h1,h2⟩|h
  ·exact .inl ⟨h1,λ_=>h2⟩
  ·exact .inr h
 ·exact .inl ⟨Ae9 C W R (by omega),λh=>absurd h hx⟩
def Au9(f c w r n:Nat):List UInt8:=gA++Xa f 2++Xa c 2++Xa w 2++Xa r 4++Xa n 4
def Av6(f c w r n:Nat):List UInt8:=Au9 f c w r n++Xa (Jl (Au9 f c w r n)).toNat 4
theorem Ap7(b f g h k:Int)(m v w q:Nat)(a:List UInt8)(hm:m<5)(hv:Ao ([b,f,g,h,k]:List Int) (m:Int)=some (v:Int))(hw:Ao ([2,2,2,4,4]:List Int) (m:Int)=some (w:Int))(h1:1<=w)(h8:w<=8)(hlt:v<256^w)(h64:v<18446744073709551616)(ha:a.length<=100):
  GX b f g h k (q+1) (m:Int) a=GX b f g h k q ((m+1:Nat):Int) (a++Xa v w):=by
 have e64:(UInt64.ofNat v).toNat=v:=Ang (by omega);have hi1:Af (m:Int) 1=((m+1:Nat):Int):=by rw[Aj];omega
 rw[GX,gI,Aae (by rw[Ae];simp;omega),hv,Aa,hw,Aa,Qi,kF _ w h1 h8 (by rw[e64];exact hlt),Aa];simp only;rw[Bi (by rw[Ch];omega),Aa,hi1,e64]
def Atg(l:List Int):List UInt8:=l.flatMap λx=>Xa x.toNat 4
def Av4(l:List Int):List UInt8:=Atg l++Xa (Jl (Atg l)).toNat 4
def WS(c:Nat):List Int32->List Int->List (List Int32)
 |_,[]=>[]
 |x,m::l=>x.take (m.toNat*c)::WS c (x.drop (m.toNat*c)) l
theorem oW(c:Nat):∀(l:List Int) (x:List Int32),(WS c x l).length=l.length
 |[],x=>rfl
 |m::l,x=>by rw[WS,As0,As0,oW c l]
theorem nQ(c:Nat)(h1:1<=c):∀(l:List Int) (x:List Int32),(∀m∈l,1<=m)->x.length=l.sum.toNat*c->∀y∈WS c x l,1<=y.length/\y.length<=x.length/\y.length %c=0/\∀v∈y,v∈x
 |[],x,_,_=>λy hy=>by simp[WS]at hy
 |m::l,x,hm,hx=>by
  have hm1:=hm m Au1;have hl:0<=l.sum:=by
   have:∀l:List Int,(∀m∈l,1<=m)->0<=l.sum:=by
    intro l
    induction l with
    |nil=>intro _;simp
    |cons a l ih=>intro h;have:=ih (λm hm=>h m (Arz _ hm));have:=h a Au1;rw[Auk];omega
   exact this l λm hm'=>hm m (Arz _ hm')
  rw[Auk,show(m+l.sum).toNat=m.toNat+l.sum.toNat by omega,Ara]at hx;have hpos:1<=m.toNat*c:=Nat.mul_pos (by omega) h1;intro y hy;rw[WS,List.mem_cons]at hy;rcases hy with rfl|hy
  ·have hlen:(x.take (m.toNat*c)).length=m.toNat*c:=by rw[Al5];omega
   rw[hlen];exact⟨hpos,by omega,Avp _ _,λv hv=>Axq hv⟩
  ·obtain⟨a1,a2,a3,a4⟩:=nQ c h1 l (x.drop (m.toNat*c)) (λm hm'=>hm m (Arz _ hm')) (by rw[Ahp];omega) y hy;rw[Ahp]at a2;exact⟨a1,by omega,a3,λv hv=>Axr (a4 v hv)⟩
def C2(fs:List LB):List Int:=fs.map λf=>(f.length:Int)
theorem yC(fs:List LB):(C2 fs).length=fs.length:=by rw[C2,List.length_map]
def Atz(p:LB):Nat:=if p=[]then 1 else 2
def Av0(p:LB):LB:=if p=[]then []else Xa (BT p).toNat 8
def V2(c r n:Nat)(x:List Int32):List (List Int32):=WS c x (Ak (Am r) n)
def frs(c w r n:Nat)(x:List Int32)(p:LB):List LB:=(V2 c r n x).map (nT (w:Int) c (DF p))
theorem ZM{g n:Nat}(hg:1<=g)(h1:1<=n):∀m∈Ak g n,1<=m:=by
 intro m hm;rw[Ak,List.mem_append,List.mem_replicate,List.mem_singleton]at hm;have h:=Atd (n-1) g;rcases hm with⟨_,rfl⟩|rfl
 ·omega
 ·omega
section
variable {c w r n:Nat} {x:List Int32} (h:ClipOk c w r n x)
include h
theorem ClipOk.sum:(Ak (Am r) n).sum=(n:Int):=jM h.cnt.1
omit h in
theorem Alf:(V2 c r n x).length=(Ak (Am r) n).length:=oW _ _ _
theorem Ak4:∀y∈V2 c r n x,1<=y.length/\y.length<=4000/\y.length %c=0/\inR (w:Int) y:=by
 intro y hy;obtain⟨a1,a2,a3,a4⟩:=nQ c h.ch.1 _ _ (ZM (Iy r) h.cnt.1) (by rw[h.sum,h.len,Al6]) y hy;have:=h.le;exact⟨a1,by omega,a3,λv hv=>h.rng v (a4 v hv)⟩
omit h in
theorem Apb(p:LB):(frs c w r n x p).length=(Ak (Am r) n).length:=by rw[frs,List.length_map];exact oW _ _ _
omit h in
omit h in
end
theorem iM:∀{l:List Int},(∀x∈l,0<=x)->∀k,0<= (l.take k).sum
 |[],_,k=>by simp
 |x::l,h,0=>by simp
 |x::l,h,k+1=>by
  have:=iM (l:=l) (λy hy=>h y (Arz _ hy)) k;have:=h x Au1;rw[List.take_succ_cons,Auk];omega
theorem yW(c:Nat)(h1:1<=c):∀(l:List Int) (x:List Int32),(∀m∈l,1<=m)->x.length=l.sum.toNat*c->∀(k:Nat) (hk:k<l.length) (hk':k<(WS c x l).length),(WS c x l)[k].length=l[k].toNat*c
 |[],x,_,_=>λk hk=>absurd hk (Nat.not_lt_zero _)
 |m::l,x,hm,hx=>by
  have hm1:=hm m Au1;have hl:0<=l.sum:=by
   have:=iM (l:=l) (λy hy=>by have:=hm y (Arz _ hy);omega) l.length;rw[Atb]at this;exact this
  rw[Auk,show(m+l.sum).toNat=m.toNat+l.sum.toNat by omega,Ara]at hx;intro k hk hk';cases k with
  |zero=>simp only[WS,List.getElem_cons_zero,Al5];omega
  |succ k=>
   simp only[WS,List.getElem_cons_succ];exact yW c h1 l (x.drop (m.toNat*c)) (λm hm'=>hm m (Arz _ hm')) (by rw[Ahp];omega) k (by simpa using hk) _
structure FileOf (c w r n:Nat) (x:List Int32) (p:LB) (T:Nat) (fs:List LB) (z b:LB):Prop where
 clip:ClipOk c w r n x
 pass:p.length<=64
 front:Bu b=((T:Int),0)
 le:b.length<=100000
 lens:C2 fs=C2 (frs c w r n x p)
 form:b.drop T=Av6 (Atz p) c w r n++(Av0 p++(Av4 (C2 (frs c w r n x p))++(fs.flatten++z)))
section
variable {c w r n:Nat} {x:List Int32} {p:LB} {T:Nat} {fs:List LB} {z b:LB} (h:FileOf c w r n x p T fs z b)
include h
theorem FileOf.cnt:fs.length=(frs c w r n x p).length:=by
 have:=congrArg List.length h.lens;rw[yC,yC]at this;exact this
theorem FileOf.mom{k:Nat}(hk:k<fs.length):∃(m:Nat) (hk':k<(V2 c r n x).length),Ao (Ak (Am r) n) (k:Int)=some (m:Int)/\1<=m/\m<=4000/c/\ ((V2 c r n x)[k]).length=m*c/\inR (w:Int) (V2 c r n x)[k]/\ (frs c w r n x p)[k]'(by rw[<-h.cnt];exact hk)=nT (w:Int) c (DF p) (V2 c r n x)[k]:=by
 have hc:=h.clip;have hlen:fs.length=(Ak (Am r) n).length:=by rw[h.cnt];exact Apb p
 have hkf:k<(Ak (Am r) n).length:=by omega
 have hk':k<(V2 c r n x).length:=by rw[Alf];exact hkf
 have hm1:=ZM (Iy r) hc.cnt.1 _ (Anw hkf);obtain⟨m,hm⟩:=Aj8 (show 0<= (Ak (Am r) n)[k] by omega);have hg:=yW c hc.ch.1 _ x (ZM (Iy r) hc.cnt.1) (by rw[hc.sum,hc.len,Al6]) k hkf hk';rw[hm,Al6]at hg;have hmem:=Ak4 hc _ (Anw hk');have hx:=nQ c hc.ch.1 _ x (ZM (Iy r) hc.cnt.1) (by rw[hc.sum,hc.len,Al6]) _ (Anw hk');have hg':((V2 c r n x)[k]).length=m*c:=hg;refine⟨m,hk',by rw[Ce hkf,hm],by omega,?_,hg',hmem.2.2.2,?_⟩
 ·have h1:=hx.2.1;have h2:m*c<=n*c:=by rw[<-hg',<-hc.len];exact h1
  have h3:m<=n:=Nat.le_of_mul_le_mul_right h2 hc.ch.1;exact Nat.le_trans h3 hc.cnt.2
 ·simp only[frs,Axj]
end
theorem jy{l:List Int}(h:∀x∈l,0<=x){i j:Nat}(hij:i<=j):(l.take i).sum<= (l.take j).sum:=by
 obtain⟨d,rfl⟩:=Axx hij;rw[List.take_add,List.sum_append];have:=iM (l:=l.drop i) (λx hx=>h x (Axr hx)) d;omega
structure EncOk (c w r:Nat) (p:LB):Prop where
 ch:1<=c/\c<=6
 bits:Bn (w:Int)
 rate:1<=r/\r<=1048576
 pass:p.length<=64
def szE(c w:Nat):Nat:=c*wB (w:Int)
def nE(c w:Nat)(t:LB):Nat:=t.length/szE c w
def XE(c w:Nat)(t:LB):LX:=oo (wB (w:Int)) (nE c w t*c) t
def jh(c r n:Nat):Prop:=n*c<=4000/\ (n=0\/ (n-1)/Am r+1<=1000)
instance(c r n:Nat):Decidable (jh c r n):=by unfold jh;exact inferInstance
theorem jh.mono{c r n m:Nat}(h:jh c r n)(hm:m<=n):jh c r m:=by
 obtain⟨h1,h2⟩:=h;have h3:=Ab5 c hm;have h4:(m-1)/Am r<= (n-1)/Am r:=Nat.div_le_div_right (by omega);refine⟨by omega,?_⟩;omega
def Cd(e:Int):Prop:=e=0\/e=4\/e=12\/e=16\/e=22\/e=24\/e=26\/e=38
instance(e:Int):Decidable (Cd e):=by unfold Cd;infer_instance
theorem Cd.nn{e:Int}(h:Cd e):0<=e:=by unfold Cd at h;omega
theorem Aqt(p:List UInt8)(N a k:Nat):Cd (YU p N a k).2.2:=by
 unfold YU
 repeat' split
 all_goals first|decide|exact .inl rfl
theorem Asp(p:List UInt8)(N a k l:Nat):Cd (dL p N a k l).2.2:=by
 have h:=Aqt p N (a+1) l;unfold dL
 repeat' split
 all_goals first|exact h|decide|exact .inl rfl
theorem Ac6(ch:Nat)(p:List UInt8)(N:Nat):∀(j a:Nat) (out:List UInt32),Cd (FC ch p N j a out).2.2
 |0,a,out=>by rw[FC];exact .inl rfl
 |j+1,a,out=>by
  rw[FC];split
  ·exact Asp ..
  ·exact Ac6 ch p N j _ _
theorem Aih(b:List UInt8):Cd (AW b):=by
 unfold AW
 repeat' split
 all_goals first|decide|exact .inl rfl
theorem M3(a:List Int32)(b:Int):∀(q:Nat) (i e:Int),Bb a b q i=some e->Cd e
 |0,_,_,h=>by rw[Bb]at h;cases h
 |q+1,i,e,h=>by
  rw[Bb,Cx]at h;split at h
  ·cases hg:Ao a i with
   |none=>rw[hg]at h;cases h
   |some g=>
    rw[hg,Aa]at h;split at h
    ·cases h;decide
    ·rw[Aa]at h;split at h
     ·cases h;decide
     ·exact M3 a b q _ e h
  ·cases h;decide
theorem Aa1{bits:Int}{a:List Int32}{e:Int}(hb:Bn bits)(h:Ay bits a=some e):Cd e:=by
 rw[Ay,Dn]at h;rw[TP hb,Aa,Aaa (by have:=OO bits;rw[Aq];simp;omega)]at h;split at h
 ·cases h;decide
 ·exact M3 a _ _ _ e h
theorem N1{bits:Int}{ch n:Nat}{t:List Int32}{b:List UInt8}(hb:Bn bits)(ht:t.length=16)(h1:1<=ch)(h6:ch<=6)(n1:1<=n)(n2:n<=4000/ch){l:List Int32}{e:Int}
  (h:Ef (ch:Int) bits t (n:Int) b=some (l,e)):Cd e:=by
 have hn:n*ch<=4000:=by
  have:=Ab5 ch n2;have h2:=Atd 4000 ch;omega
 have hq4:=vI h1 h6;generalize 4000/ch=mm at*
 have hh:=OO bits;have Acs:Ed (ch:Int) bits (n:Int)=some 0:=by
  rw[Ed,Di,Aaa (by simp[Ae,Ap];omega),TP hb,Aa,Aaa (by rw[Aq];simp;omega),Aa,Aaa (by simp[Ah,Ae];omega),Cb (by rw[Ah];simp;omega),Aa,hq4,Aaa (by rw[Ap];simp;omega)]
 rw[Ef,Pz,Acs,Aa,Aaa (by rw[Ah];simp),yA,Aa]at h;by_cases hs:AW b≠0
 ·rw[Aae (by rw[Ah];simpa using hs)]at h;simp only[Aa]at h;cases h;exact Aih b
 have hs0:AW b=0:=by simpa using hs
 have hlen:=yw hs0;have e4:Au (Ac b) 4=((b.length-4:Nat):Int):=by rw[Ac,Bw];omega
 rw[Aaa (by rw[Ah,hs0];simp),e4,Dr,Aa,show((b.length-4:Nat):Int).toNat=b.length-4 from rfl]at h;have hpl:(b.take (b.length-4)).length=b.length-4:=by simp
 generalize b.take (b.length-4)=p at*
 have hr:=Ads (N:=8*p.length) (p:=p) rfl (by omega) h1 h6 hn;have hV:=Ac6 ch p (8*p.length) (n*ch) 0 [];have hat:=vO (ch:=ch) (p:=p) (N:=8*p.length) (n*ch) 0 [] (by omega);rw[hr,Aa]at h;generalize FC ch p (8*p.length) (n*ch) 0 []=V at*
 obtain⟨v,at',er⟩:=V;simp only at*
 by_cases he:er≠0
 ·rw[Aae he]at h;simp only at h;rw[Hs,Fv,Aae (by rw[Ah];simpa using he)]at h;cases h;exact hV
 have he0:er=0:=by simpa using he
 have hvl:=hat.2.2 he0;simp only[List.length_nil,Avg]at hvl;rw[Aaa he]at h;simp only at h;rw[Hs,Fv]at h;split at h
 ·cases h;decide
 ·rw[Aaa (by decide)]at h;have hm:v.length %ch=0:=by rw[hvl];exact Avp n ch
  obtain⟨l',e',g1,g2,g3,g4,g5⟩:=qF (v:=v) hb ht h1 h6 (by omega) hm;rw[g1,Aa,g2,Aa]at h;have:=Aa1 hb g4;by_cases hl:e'≠0
  ·rw[Aae hl]at h;cases h;exact this
  ·rw[Aaa hl]at h;cases h;decide
theorem lL{bits:Int}{ch n:Nat}{t:List Int32}{b:List UInt8}(hb:Bn bits)(ht:t.length=16)(h1:1<=ch)(h6:ch<=6)(n1:1<=n)(n2:n<=4000/ch){l:List Int32}{e:Int}
  (h:Ef (ch:Int) bits t (n:Int) b=some (l,e)):0<=e:=(N1 hb ht h1 h6 n1 n2 h).nn
def shI(f c w r n:Int):Bool:=decide ((f=1\/f=2)/\ (1<=c/\c<=6)/\ (w=8\/w=16\/w=24)/\ (1<=r/\r<=1048576)/\1<=n)
theorem Ak0(f c w r n:Int):Ud f c w r n=some (shI f c w r n):=by
 have e2:Qf f c w r n=some (decide ((f=1\/f=2)/\ (1<=c/\c<=6)/\ (1<=r/\r<=1048576)/\1<=n)):=by
  rw[Qf,OV];congr 1;rw[Ahq];simp only[Aq,Ap,gG,Aag,Atu,Asc,Aaf];omega
 have g:∀k:Int,geq w k=decide (w=k):=λk=>by rw[Aq,Ahq];simp
 rw[Ud,EE,e2,g,g,g,shI];by_cases h8:w=8
 ·subst h8;simp
 ·by_cases h16:w=16
  ·subst h16;simp
  ·by_cases h24:w=24
   ·subst h24;simp
   ·simp[h8,h16,h24]
theorem Aov(f c w r n:Int):Ig f c w r n=some (shI f c w r n):=by
 rw[Ig,shI];simp only[Aq,Ej,gG,Aag,Atu,Asc,Aaf,Axo];split
 ·rename_i h;congr 1;rw[Ahq];simp only[Aag,Atu,Asc,Aaf];omega
 ·rename_i h;congr 1;symm;rw[At7];omega
structure HdI (f c w r n:Int) (F C W R N:Nat):Prop where
 ef:f=F
 ec:c=C
 ew:w=W
 er:r=R
 en:n=N
 shape:Hq F C W R N=true
 fit:FN C R N=true
theorem Ahb(f c w r n:Int):(∃F C W R N:Nat,HdI f c w r n F C W R N)\/ (Jt f c w r n=some 8/\Dy f c w r n=some ([],8)):=by
 by_cases h:shI f c w r n=true
 ·have h':=h;simp only[shI,Aaf]at h';obtain⟨F,rfl⟩:=Aj8 (show 0<=f by omega);obtain⟨C,rfl⟩:=Aj8 (show 0<=c by omega);obtain⟨W,rfl⟩:=Aj8 (show 0<=w by omega);obtain⟨R,rfl⟩:=Aj8 (show 0<=r by omega);obtain⟨N,rfl⟩:=Aj8 (show 0<=n by omega);have hs:Hq F C W R N=true:=by simp only[Hq,Aaf];omega
  by_cases hf:FN C R N=true
  ·exact .inl ⟨F,C,W,R,N,rfl,rfl,rfl,rfl,rfl,hs,hf⟩
  ·have hf':FN C R N=false:=by simpa using hf
   refine .inr ⟨?_,?_⟩
   ·rw[Jt,oT,Aa,hs,Aaa (by simp),E9 hs,Aa,hf'];rfl
   ·rw[Dy,DY,iE,Aa,hs,Aaa (by simp),sG hs,Aa,hf'];rfl
 ·have h':shI f c w r n=false:=by simpa using h
  refine .inr ⟨?_,?_⟩
  ·rw[Jt,Aov,Aa,h'];rfl
  ·rw[Dy,DY,Ak0,Aa,h'];rfl
theorem HdI.check{f c w r n:Int}{F C W R N:Nat}(h:HdI f c w r n F C W R N):Jt f c w r n=some 0:=by
 obtain⟨rfl,rfl,rfl,rfl,rfl,hs,hf⟩:=h;rw[Jt,oT,Aa,hs,Aaa (by simp),E9 hs,Aa,hf];rfl
theorem HdI.rL{f c w r n:Int}{F C W R N:Nat}(h:HdI f c w r n F C W R N):Dy f c w r n=some (Ak (Am R) N,0):=by
 obtain⟨rfl,rfl,rfl,rfl,rfl,hs,hf⟩:=h;exact jL hs hf
theorem HdI.num{f c w r n:Int}{F C W R N:Nat}(h:HdI f c w r n F C W R N):(F=1\/F=2)/\ (1<=C/\C<=6)/\ (W=8\/W=16\/W=24)/\ (1<=R/\R<=1048576)/\1<=N/\N<=4000/C/\N<=4000/\ (N-1)/Am R+1<=1000:=by
 obtain⟨rfl,rfl,rfl,rfl,rfl,hs,hf⟩:=h;simp only[Hq,Aaf]at hs;simp only[FN,Aaf]at hf;have hd:4000/C<=4000:=Ar4 _ _;omega
theorem HdI.T9{f c w r n:Int}{F C W R N:Nat}(h:HdI f c w r n F C W R N):Fo f c w r n=some (Ak (Am R) N):=by
 have hn:=h.num;obtain⟨rfl,rfl,rfl,rfl,rfl,hs,hf⟩:=h;rw[Fo,cA (by omega) (by omega) (by omega)];rfl
section
variable {f c w r n:Nat} (h1:Hq f c w r n=true) (h2:FN c r n=true)
include h1 h2
theorem K6(k:Nat)(hk:k<= (Ak (Am r) n).length):∀(j i q:Nat),i+j=k->j<q->Ke (k:Int) (f:Int) (c:Int) (w:Int) (r:Int) (n:Int) (Ak (Am r) n) q (((Ak (Am r) n).take i).sum) (i:Int)=some (JF c w (Ak (Am r) n) k)
 |0,i,q+1,hi,_=>by
  obtain⟨hc,hw,hr,hn,_⟩:=Mk h1;obtain⟨g1,g2,g3⟩:=PK h1 h2;have b:=eT g1 i;obtain rfl:i=k:=by omega
  have hb:((Ak (Am r) n).take i).sum.toNat*(c*wB (w:Int))<=4000*(6*3):=Aul (by omega) (Aul hc.2 (mR (w:Int)).2);rw[Ke,Te,Aaa (by rw[Ae];simp),BU,RP,Es,Aa];simp only;rw[FV,Ar7 hc.2 hw,Aa,JF];have e:((Ak (Am r) n).take i).sum=((((Ak (Am r) n).take i).sum.toNat:Nat):Int):=by omega
  rw[e,Hi (by rw[<-Ath];omega) (by rw[<-Ath];omega),<-Ath];rfl
 |j+1,i,q+1,hi,hq=>by
  obtain⟨g1,g2,g3⟩:=PK h1 h2;have hK:=zO h2;have hlt:i<(Ak (Am r) n).length:=by omega
  have b1:=eT g1 i;have b2:=eT g1 (i+1);have e:=Ks hlt;have ih:=K6 k hk j (i+1) q (by omega) (by omega);rw[e]at ih;rw[Ke,Te,Aae (by rw[Ae];simp;omega),Ce hlt,Aa,Aa,Aj,Aj];exact ih
theorem Z6(k:Nat)(hk:k<= (Ak (Am r) n).length):Tq (f:Int) (c:Int) (w:Int) (r:Int) (n:Int) (k:Int)=some (JF c w (Ak (Am r) n) k):=by
 have hK:=zO h2;obtain⟨g1,g2,g3⟩:=PK h1 h2;obtain⟨hc,hw,hr,hn,_⟩:=Mk h1;have h:=K6 h1 h2 k hk k 0 Ba (by omega) (by have:=Ax;omega);rw[Avn,Axe]at h;rw[Tq,DC,Fo,cA hr.2 hn g3,Aa,Aa];exact h
theorem Aa3{i:Nat}(hlt:i<(Ak (Am r) n).length):Af (JF c w (Ak (Am r) n) i) (By (Bm (Bm ((Ak (Am r) n)[i]) (c:Int)) (w:Int)) 8)=JF c w (Ak (Am r) n) (i+1):=by
 obtain⟨hc,hw,hr,hn,_⟩:=Mk h1;obtain⟨g1,g2,g3⟩:=PK h1 h2;have b1:=eT g1 i;have b2:=eT g1 (i+1);have e:=Ks hlt;have h0:=g1 _ (Anw hlt);have e2:(Ak (Am r) n)[i]=(((Ak (Am r) n)[i].toNat:Nat):Int):=by omega
 have hb:((Ak (Am r) n).take (i+1)).sum.toNat*(c*wB (w:Int))<=4000*(6*3):=Aul (by omega) (Aul hc.2 (mR (w:Int)).2);rw[e2,Ast (by omega) hc.2 hw,JF,JF];have e3:((Ak (Am r) n).take (i+1)).sum.toNat=((Ak (Am r) n).take i).sum.toNat+(Ak (Am r) n)[i].toNat:=by omega
 rw[e3,Ara]at hb⊢;rw[Aj];omega
theorem L5(a:Nat)(ha:a<= (Ak (Am r) n).length)(o p:LB)(m:LI)(a':Int)(N:LB)(u:Bool)(v:Int):∀(j i q:Nat),i+j=a->j<q->
  Sj ((Ak (Am r) n).take a) o p (f:Int) (c:Int) (w:Int) (r:Int) (n:Int) m a' N u v q (JF c w (Ak (Am r) n) i) (i:Int)=some (G4 (Ac N) (JF c w (Ak (Am r) n) a))
 |0,i,q+1,hi,_=>by
  obtain rfl:i=a:=by omega
  rw[Sj,GW,Aaa (by rw[Ae,Ac,Al5];simp;omega),TA,fU]
 |j+1,i,q+1,hi,hq=>by
  have hK:=zO h2;have hlt:i<(Ak (Am r) n).length:=by omega
  have hlt2:i<((Ak (Am r) n).take a).length:=by rw[Al5];omega
  have ih:=L5 a ha o p m a' N u v j (i+1) q (by omega) (by omega);rw[Sj,GW,Aae (by rw[Ae,Ac];simp;omega),Ce hlt2,Aa,List.getElem_take,Aa3 h1 h2 hlt,Aj];exact ih
end
theorem vV{α:Type}(l:List α):geq (Ac l) 0=decide (l=[]):=by
 cases l with
 |nil=>rfl
 |cons x l=>rw[Aq,Ac,As0,Ats (by simp),beq_eq_false_iff_ne];omega
theorem R8{α:Type}(l:List α):Fb (Ac l) 0=decide (l≠ []):=by
 cases l with
 |nil=>rfl
 |cons x l=>rw[Ap,Ac,As0,Avx (by simp)];simp
inductive FitD (o:LB) (f c w r n:Int) (g:LI) (a:Int) (x:LB):Prop
 |new:f=0->c=0->w=0->r=0->n=0->g=[]->a=0->x=[]->FitD o f c w r n g a x
 |head (F C W R N:Nat):HdI f c w r n F C W R N-> (o==([]:LB))=decide (F=1)->g=[]->a=0->x=[]->FitD o f c w r n g a x
 |tab (F C W R N A:Nat):HdI f c w r n F C W R N-> (o==([]:LB))=decide (F=1)->HR g=true->g.length=(Ak (Am R) N).length->a=A->A<=g.length->FitD o f c w r n g a x
theorem Abv(f c w r n:Int)(o:LB):Qq f c w r n o=Eb f c w r n o:=rfl
theorem Aan(o p:LB)(f c w r n:Int)(g:LI)(a:Int)(x:LB)(u:Bool)(v:Int):
  (ED o p f c w r n g a x u v=some false/\Js o p f c w r n g a x u v=some false)\/
  (ED o p f c w r n g a x u v=some true/\Js o p f c w r n g a x u v=Cf o p f c w r n g a x u v/\FitD o f c w r n g a x):=by
 rw[ED,TG,Js,Rp];by_cases hz:f=0/\c=0/\w=0/\r=0/\n=0
 ·obtain⟨rfl,rfl,rfl,rfl,rfl⟩:=hz;rw[Aae (by decide),Aae (by decide),vV,vV,R8,R8];by_cases h:g=[]/\a=0/\x=[]
  ·obtain⟨rfl,rfl,rfl⟩:=h;exact .inr ⟨rfl,by rw[Aaa (by decide)], .new rfl rfl rfl rfl rfl rfl rfl rfl⟩
  ·refine .inl ⟨?_,?_⟩
   ·congr 1;rw[Bool.eq_false_iff];intro e;simp only[Aag,Aaf,Aq,Asc]at e;exact h ⟨e.1.1,e.1.2,e.2⟩
   ·rw[Aae];simp only[Atu,Aaf,Ah,Axu];by_cases e1:g=[]
    ·by_cases e2:a=0
     ·exact .inr λe3=>h ⟨e1,e2,e3⟩
     ·exact .inl (.inr e2)
    ·exact .inl (.inl e1)
 ·have hz2:¬(((geq f 0)&&((geq c 0)&&((geq w 0)&&((geq r 0)&&((geq n 0)&&true)))))=true):=by
   simp only[Aag,Aq,Asc,Ayb];exact hz
  rw[Aaa hz2,Aaa hz2];rcases Ahb f c w r n with⟨F,C,W,R,N,h⟩|⟨e1,e2⟩
  ·rw[h.rL,h.check,Aa,Aa,Abv];simp only;rw[Aaa (by decide),Aaa (by decide),Eb];have hf:geq f 1=decide (F=1):=by rw[h.ef,Aq,Ahq];simp;omega
   rw[hf];by_cases hp:(o==([]:LB))=decide (F=1)
   ·rw[Aaa (by rw[hp];simp),Aa,Aa,Aaa (by decide),Aaa (by decide),SY,SZ,Mm,Ml,vV,vV,R8];by_cases hg:g=[]
    ·subst hg;rw[Aae (by simp),Aae (by simp)];by_cases h':a=0/\x=[]
     ·obtain⟨rfl,rfl⟩:=h';exact .inr ⟨rfl,by rw[Aaa (by decide)], .head F C W R N h hp rfl rfl rfl⟩
     ·refine .inl ⟨?_,?_⟩
      ·congr 1;rw[Bool.eq_false_iff];intro e;simp only[Aag,Aaf,Aq,Asc]at e;exact h' e
      ·rw[Aae];simp only[Atu,Aaf,Ah,Axu];by_cases e2:a=0
       ·exact .inr λe3=>h' ⟨e2,e3⟩
       ·exact .inl e2
    ·rw[Aaa (by simpa using hg),Aaa (by simpa using hg),gX,aE,Aa,Aa];by_cases ht:HR g=true
     ·rw[Aae ht,h.T9];simp only[Aa];by_cases hl:g.length=(Ak (Am R) N).length/\0<=a/\a<=g.length
      ·obtain⟨hl,ha0,ha1⟩:=hl;obtain⟨A,rfl⟩:=Aj8 ha0;have hA:A<= (Ak (Am R) N).length:=by omega
       rw[Aaa (by simp[Ah,Ae,Ap,Ac];omega),Aaa (by decide),Aaa (by simp[Ah,Ae,Ap,Ac];omega),Dr,Aa,TF];have hh:=h;clear hf;obtain⟨rfl,rfl,rfl,rfl,rfl,hs,hf⟩:=hh;have hlp:=L5 hs hf A hA o p g (A:Int) x u v A 0 Ba (by omega) (by have:=Ax;have:=zO hf;omega);have h0:JF C W (Ak (Am R) N) 0=0:=by rw[JF,Avn,Axe];simp
       rw[h0,show((0:Nat):Int)=0 from rfl]at hlp;rw[show((A:Int)).toNat=A from rfl,hlp,Z6 hs hf A hA,Aa];by_cases hx:(x.length:Int)<=JF C W (Ak (Am R) N) A
       ·refine .inr ⟨?_,?_, .tab F C W R N A h hp ht hl rfl (by omega)⟩
        ·rw[gG,Ac,Avx hx]
        ·rw[Aaa (by rw[Ap,Ac];simp;omega)]
       ·refine .inl ⟨?_,?_⟩
        ·rw[gG,Ac,Ats hx]
        ·rw[Aae (by rw[Ap,Ac];simp;omega)]
      ·refine .inl ⟨?_,?_⟩
       ·rw[Aae (by simp[Ah,Ae,Ap,Ac];omega)]
       ·rw[Aaa (by decide),Aae (by simp[Ah,Ae,Ap,Ac];omega)]
     ·refine .inl ⟨?_,?_⟩
      ·rw[Aaa ht,Aae (by simp[Ah])]
      ·rw[Aaa ht,Aae (by decide),Aae (by simp)]
   ·rw[Aae (by simpa using hp),Aa,Aa,Aae (by decide),Aae (by decide)];exact .inl ⟨rfl,rfl⟩
  ·rw[e1,e2,Aa,Aa];simp only;rw[Aae (by decide),Aae (by decide)];exact .inl ⟨rfl,rfl⟩
theorem Ajr(b:List UInt8)(n:Int):Cd (bT b n).2:=by
 unfold bT
 repeat' split
 all_goals first|decide|exact .inl rfl
theorem Air(b:List UInt8):(FD b).2=6\/Cd (FD b).2:=by
 unfold FD uM
 repeat' split
 all_goals first|exact .inl rfl|exact .inr (Ajr _ _)|exact .inr (by decide)
theorem Afb(b:List UInt8):(Me b).2=6\/Cd (Me b).2:=by
 unfold Me
 repeat' split
 all_goals first|exact .inl rfl|exact .inr (.inl rfl)|exact .inr (by decide)
theorem Aj5(b:List UInt8):(De b).2=6\/Cd (De b).2:=by
 unfold De;split
 ·exact Air b
 ·exact Afb b
theorem I8(b:List UInt8):∀(j p:Nat),p<=b.length->b.length<j+p->Cd (Cw b j p).2
 |0,p,h1,h2=>by omega
 |j+1,p,h1,h2=>by
  rw[Cw];split
  ·exact .inl rfl
  ·rename_i h6;split
   ·exact(Aj5 _).resolve_left h6
   ·rename_i h0;split
    ·exact(by decide:Cd 4)
    ·have hz:De (b.drop p)=((De (b.drop p)).1,0):=by rw[Prod.ext_iff];exact⟨rfl,by simpa using h0⟩
     obtain⟨k1,k2⟩:=kD hz;rw[Ahp]at k2;split
     ·exact .inl rfl
     ·exact I8 b j _ (by omega) (by omega)
theorem rZ(b:List UInt8):Cd (Bu b).2:=by
 unfold Bu H0;split
 ·exact .inl rfl
 ·exact I8 b _ _ (by omega) (by omega)
theorem rQ(b:List UInt8):0<= (Bu b).2:=(rZ b).nn
theorem E3(b:List UInt8):Cd (Ep b).2.2.2.2.2:=by
 unfold Ep
 repeat' split
 all_goals first|decide|exact .inl rfl
theorem C0(b:List UInt8):0<= (Ep b).2.2.2.2.2:=(E3 b).nn
theorem Alm(b:List UInt8){n:Nat}(h:1<=n/\n<=1000):Cd (Em b n).2:=by
 unfold Em;rw[Aaa (λe=>e h)]
 repeat' split
 all_goals first|decide|exact .inl rfl
theorem zP(b:List UInt8)(n:Nat):0<= (Em b n).2:=by
 unfold Em
 repeat' split
 all_goals simp
def tY:List UInt8:=[73,68,51]
def vB:List UInt8:=[65,80,69,84,65,71,69,88]
def Py(b s:List UInt8):Bool:=decide (b.length<s.length)&&(b==s.take b.length)
theorem P0(b s:List UInt8):Pg b s=some (Py b s):=by
 rw[Pg,Py];by_cases h:b.length<s.length
 ·rw[Aae (by rw[Ae,Ac,Ac];simp;omega),Ac,Dr,Aa,Avx h,Awg];rfl
 ·rw[Aaa (by rw[Ae,Ac,Ac];simp;omega),Ats h];rfl
theorem Akh(b s:List UInt8)(h:b.length<s.length):Ku s b=some (Py b s):=by
 rw[Ku,Ht,Aae (by rw[Ej,Ac,Ac];simp;omega),Ac,Dr,Aa,Aa,Py,Avx h,Awg,Al6];congr 1;rw[Ahq,Asc,Asc];exact eq_comm
theorem lJ{b s:List UInt8}(h:¬b.length<s.length):Py b s=false:=by rw[Py,Ats h];rfl
theorem Aj2(b:List UInt8):Ub b=some (Py b tY||Py b vB):=by
 obtain⟨q,hq⟩:∃q,Ba=q+3:=⟨Ba-3,by have:=Ax;omega⟩;have l3:Lw b (q+1) 2=some false:=by rw[Lw,Yq,Aaa (by decide)];rfl
 have l2:Lw b (q+2) 1=some (Py b vB):=by
  rw[Lw,Yq,Aae (by decide),show Ao ([([73,68,51]:LB),([65,80,69,84,65,71,69,88]:LB)]:List LB) 1=some vB from rfl,Aa,show Af (1:Int) 1=2 from rfl];by_cases h:b.length<vB.length
  ·rw[Aae (by rw[Ae,Ac,Ac];simp;omega),Akh b vB h,Aa];by_cases hb:Py b vB=true
   ·rw[Aae hb,hb]
   ·rw[Aaa hb,l3];simpa using hb
  ·rw[Aaa (by rw[Ae,Ac,Ac];simp;omega),l3,lJ h]
 rw[Ub,TE,SS,hq,Lw,Yq,Aae (by decide),show Ao ([([73,68,51]:LB),([65,80,69,84,65,71,69,88]:LB)]:List LB) 0=some tY from rfl,Aa,show Af (0:Int) 1=1 from rfl];by_cases h:b.length<tY.length
 ·rw[Aae (by rw[Ae,Ac,Ac];simp;omega),Akh b tY h,Aa];by_cases hb:Py b tY=true
  ·rw[Aae hb,hb];rfl
  ·rw[Aaa hb,l2,Bool.eq_false_iff.2 hb];rfl
 ·rw[Aaa (by rw[Ae,Ac,Ac];simp;omega),l2,lJ h];rfl
def Y4(b:List UInt8):Int×Int×Int×Int×Int×Int×Int:=
 if(Bu b).2=24 then(0,0,0,0,0,0, -1)else if(Bu b).2≠0 then(0,0,0,0,0,0,(Bu b).2)else
 if(Py (Iv b) tY||Py (Iv b) vB)=true then(0,0,0,0,0,0, -1)else
 if(Ep (Iv b)).2.2.2.2.2=24 then(0,0,0,0,0,0, -1)else((Bu b).1+22,(Ep (Iv b)).1,(Ep (Iv b)).2.1,(Ep (Iv b)).2.2.1,(Ep (Iv b)).2.2.2.1,(Ep (Iv b)).2.2.2.2.1,(Ep (Iv b)).2.2.2.2.2)
theorem CF(b:List UInt8)(hb:b.length<=100000):Nk b=some (Y4 b):=by
 rw[Nk,Vs,EJ b (by omega),Aa,Y4];have hok:=EA (b:=b);simp only;by_cases h1:(Bu b).2=24
 ·rw[Aae (by rw[Aq];simpa using h1),Aae h1]
 rw[Aaa (by rw[Aq];simpa using h1),Aaa h1];by_cases h2:(Bu b).2≠0
 ·rw[Aae (by rw[Ah];simpa using h2),Aae h2]
 have h0:(Bu b).2=0:=by simpa using h2
 obtain⟨k1,k2,k3⟩:=hok h0;rw[Aaa (by rw[Ah,h0];simp),Aaa h2,Cg,Aa,P0,Aa,show b.drop (Bu b).1.toNat=Iv b from rfl,show([73,68,51]:LB)=tY from rfl,show([65,80,69,84,65,71,69,88]:LB)=vB from rfl];by_cases h3:Py (Iv b) tY=true
 ·rw[Aae h3,h3,Bool.true_or,Aae rfl]
 rw[Aaa h3,P0,Aa,Bool.eq_false_iff.2 h3,Bool.false_or];by_cases h4:Py (Iv b) vB=true
 ·rw[Aae h4,Aae h4]
 have hl:(Iv b).length<=b.length:=by rw[Iv,Ahp];omega
 rw[Aaa h4,Aaa h4,Vo,IK,bL _ (by omega),Aa];simp only;by_cases h5:(Ep (Iv b)).2.2.2.2.2=24
 ·rw[Aae (by rw[Aq];simpa using h5),Aae h5]
 ·rw[Aaa (by rw[Aq];simpa using h5),Aaa h5,Aj]
theorem Pc{p q:LB}{n:Nat}(h:n<=p.length):(p++q).take n=p.take n:=by rw[List.take_append_of_le_length h]
theorem pL{p q:LB}{i:Nat}(h:i<p.length):(p++q).getD i 0=p.getD i 0:=by
 rw[List.getD_eq_getElem?_getD,List.getElem?_append_left h,<-List.getD_eq_getElem?_getD]
theorem Tu{p q:LB}{a w:Nat}(h:a+w<=p.length:=by omega):part (p++q) a w=part p a w:=by rw[part,Pc h,part]
theorem Aie{p q s:LB}(h:Py p s=false)(hl:p.length<s.length):(p++q).take s.length≠s:=by
 intro e;rw[Py,Avx hl,Awg]at h;have h1:p=s.take p.length:=by
  have:=congrArg (List.take p.length) e;rw[Aya,As8 (by omega),Pc (Alw _),Atb]at this;exact this
 rw[<-h1]at h;simp at h
theorem J2{p:LB}(q:LB)(h:(FD p).2≠24)(h6:Py p tY=false):FD (p++q)=FD p:=by
 unfold FD at h⊢;by_cases h3:3<=p.length/\p.take 3=[73,68,51]
 ·have h3':3<= (p++q).length/\ (p++q).take 3=[73,68,51]:=⟨by rw[Aai];omega,by rw[Pc h3.1];exact h3.2⟩;have n1:¬ ¬(3<=p.length/\p.take 3=[73,68,51]):=λf=>f h3;have n2:¬ ¬(3<= (p++q).length/\ (p++q).take 3=[73,68,51]):=λf=>f h3';rw[Aaa n1]at h;rw[Aaa n1,Aaa n2];by_cases h10:p.length<10
  ·rw[Aae h10]at h;exact absurd rfl h
  ·have h10':¬(p++q).length<10:=by rw[Aai];omega
   rw[Aaa h10]at h;rw[Aaa h10,Aaa h10',Tu,pL (by omega),pL (by omega),pL (by omega)];split
   ·rfl
   ·rename_i hc;rw[Aaa hc]at h;unfold uM bT at h⊢;rw[pL (by omega)];generalize(aF (part p 6 4) 0).1+10+(if p.getD 5 0=16 then 10 else 0)=n at h⊢;by_cases c1:4000<n
    ·rw[Aae c1,Aae c1]
    ·rw[Aaa c1]at h;rw[Aaa c1,Aaa c1];by_cases c2:(p.length:Int)<n
     ·rw[Aae c2]at h;exact absurd rfl h
     ·have c2':¬((p++q).length:Int)<n:=by rw[Aai];omega
      rw[Aaa c2,Aaa c2',Pc (by omega),Tu]
 ·rw[Aae h3,Aae];rintro⟨_,h5⟩;by_cases hl:3<=p.length
  ·rw[Pc hl]at h5;exact h3 ⟨hl,h5⟩
  ·exact Aie h6 (by simp[tY];omega) h5
theorem Aba{p:LB}(q:LB)(h:(Me p).2≠24)(h6:Py p vB=false):Me (p++q)=Me p:=by
 unfold Me at h⊢;by_cases h3:8<=p.length/\p.take 8=vU
 ·have h3':8<= (p++q).length/\ (p++q).take 8=vU:=⟨by rw[Aai];omega,by rw[Pc h3.1];exact h3.2⟩;have n1:¬ ¬(8<=p.length/\p.take 8=vU):=λf=>f h3;have n2:¬ ¬(8<= (p++q).length/\ (p++q).take 8=vU):=λf=>f h3';rw[Aaa n1]at h;rw[Aaa n1,Aaa n2];by_cases h10:p.length<32
  ·rw[Aae h10]at h;exact absurd rfl h
  ·have h10':¬(p++q).length<32:=by rw[Aai];omega
   have eb:JI (p++q)=JI p:=by rw[JI,JI,Tu,Tu]
   rw[Aaa h10]at h;rw[Aaa h10,Aaa h10',Tu,Tu,eb,Pc (n:=32) (by omega)];split
   ·rfl
   ·rename_i hc;rw[Aaa hc]at h;by_cases c2:p.length<Fy (part p 12 4)+32
    ·rw[Aae c2]at h;exact absurd rfl h
    ·have c2':¬(p++q).length<Fy (part p 12 4)+32:=by rw[Aai];omega
     rw[Aaa c2,Aaa c2',Pc (by omega)]
 ·rw[Aae h3,Aae];rintro⟨_,h5⟩;by_cases hl:8<=p.length
  ·rw[Pc hl]at h5;exact h3 ⟨hl,h5⟩
  ·exact Aie h6 (by simp[vB];omega) h5
theorem rK{p:LB}(q:LB)(h:(De p).2≠24)(h6:(De p).2=6->Py p tY=false/\Py p vB=false):De (p++q)=De p:=by
 have As4:∀s:LB,s.length<=p.length->Py p s=false:=λs hs=>lJ (by omega);unfold De at h h6⊢;by_cases hT:(FD p).2≠6
 ·rw[Aae hT]at h⊢;have h3:Py p tY=false:=by
   refine As4 _ ?_;unfold FD at hT;by_cases h3:3<=p.length/\p.take 3=[73,68,51]
   ·simp[tY];omega
   ·rw[Aae h3]at hT;exact absurd rfl hT
  rw[J2 q h h3,Aae hT]
 ·rw[Aaa hT]at h h6⊢;have hb:Py p tY=false/\Py p vB=false:=by
   by_cases hA:(Me p).2=6
   ·exact h6 hA
   ·unfold Me at hA;by_cases h3:8<=p.length/\p.take 8=vU
    ·exact⟨As4 _ (by simp[tY];omega),As4 _ (by simp[vB];omega)⟩
    ·rw[Aae h3]at hA;exact absurd rfl hA
  have hT':¬(FD (p++q)).2≠6:=by
   rw[J2 q (by simp only[ne_eq,Classical.not_not]at hT;rw[hT];decide) hb.1];exact hT
  rw[Aaa hT',Aba q h hb.2]
theorem xV{p:LB}(q:LB):∀(j s j':Nat),s<=p.length->p.length-s<j->p.length+q.length-s<j'-> (Cw p j s).2≠24->
  ((Cw p j s).2=0->Py (p.drop (s+(Cw p j s).1.sum.toNat)) tY=false/\Py (p.drop (s+(Cw p j s).1.sum.toNat)) vB=false)->Cw (p++q) j' s=Cw p j s
 |0,s,j',_,hj,_,_,_=>absurd hj (Nat.not_lt_zero _)
 |j+1,s,0,_,_,hj,_,_=>absurd hj (Nat.not_lt_zero _)
 |j+1,s,j'+1,hs,hj,hj',h,hb=>by
  have ed:(p++q).drop s=p.drop s++q:=Awn hs;rw[Cw]at h hb⊢;rw[Cw,ed];by_cases h6:(De (p.drop s)).2=6
  ·rw[Aae h6]at h hb⊢;have hb':=hb rfl;simp only[Axe,Int.toNat_zero,Aw2]at hb';rw[rK q (by rw[h6];decide) (λ_=>hb'),Aae h6]
  ·rw[Aaa h6]at h hb⊢;by_cases h0:(De (p.drop s)).2≠0
   ·rw[Aae h0]at h⊢;rw[rK q h (λe=>absurd e h6),Aaa h6,Aae h0]
   ·rw[Aaa h0]at h hb⊢;have h0':(De (p.drop s)).2=0:=by simpa using h0
    have e1:De (p.drop s++q)=De (p.drop s):=rK q (by rw[h0'];decide) (λe=>absurd e h6);rw[e1,Aaa h6,Aaa h0];have hok:=kD (b:=p.drop s) (n:=(De (p.drop s)).1) (by rw[<-h0']);rw[Ahp]at hok;by_cases hm:4000<(s:Int)+(De (p.drop s)).1
    ·rw[Aae hm,Aae hm]
    ·rw[Aaa hm]at h hb⊢;rw[Aaa hm];have hl1:s+(De (p.drop s)).1.toNat<=p.length:=by omega
     have ih:=xV (p:=p) q j (s+(De (p.drop s)).1.toNat) j' hl1 (by omega) (by omega);by_cases hr:(Cw p j (s+(De (p.drop s)).1.toNat)).2=0
     ·rw[Aae hr]at hb⊢;have hle1:s+(De (p.drop s)).1.toNat<=p.length:=by omega
      have hle2:s+(De (p.drop s)).1.toNat<=4000:=by omega
      have hi:=(mG p j (s+(De (p.drop s)).1.toNat) hle1 hle2 hr).1;have hsum:(0:Int)<= (Cw p j (s+(De (p.drop s)).1.toNat)).1.sum:=by
       have:∀l:List Int,(∀x∈l,10<=x)->0<=l.sum:=by
        intro l
        induction l with
        |nil=>intro _;simp
        |cons a l ih=>intro h;rw[Auk];have:=h a (by simp);have:=ih (λx hx=>h x (by simp[hx]));omega
       exact this _ hi
      rw[ih (by rw[hr];decide) (λ_=>by
       have:=hb rfl;simp only[Auk]at this;rw[show s+((De (p.drop s)).1+(Cw p j (s+(De (p.drop s)).1.toNat)).1.sum).toNat=s+(De (p.drop s)).1.toNat+(Cw p j (s+(De (p.drop s)).1.toNat)).1.sum.toNat by omega]at this;exact this),Aae hr]
     ·rw[Aaa hr]at h⊢;rw[ih h (λe=>absurd e hr),Aaa hr]
theorem wL{p:LB}(q:LB)(h:(Bu p).2≠24)(hb:(Bu p).2=0->Py (Iv p) tY=false/\Py (Iv p) vB=false):Bu (p++q)=Bu p:=by
 have key:Cw (p++q) ((p++q).length+1) 0=Cw p (p.length+1) 0:=by
  refine xV q (p.length+1) 0 ((p++q).length+1) (Nat.zero_le _) (by omega) (by rw[Aai];omega) ?_ ?_
  ·unfold Bu H0 at h;by_cases h0:(Cw p (p.length+1) 0).2=0
   ·rw[h0];decide
   ·rw[Aaa h0]at h;exact h
  ·intro h0;have e:Bu p=(((0:Nat):Int)+(Cw p (p.length+1) 0).1.sum,0):=by unfold Bu H0;rw[Aae h0]
   have:=hb (by rw[e]);rw[Iv,e]at this;simpa using this
 unfold Bu H0;rw[key]
theorem Agv{p:LB}(q:LB)(h:(Ep p).2.2.2.2.2≠24):Ep (p++q)=Ep p:=by
 unfold Ep at h⊢;by_cases h1:p.take (min 4 p.length)≠gA.take (min 4 p.length)
 ·have h1':(p++q).take (min 4 (p++q).length)≠gA.take (min 4 (p++q).length):=by
   intro e;have hle:min 4 p.length<=min 4 (p++q).length:=by rw[Aai];omega
   have:=congrArg (List.take (min 4 p.length)) e;rw[Aya,Aya,As8 hle,Pc (by omega)]at this;exact h1 this
  rw[Aae h1,Aae h1']
 ·rw[Aaa h1]at h;by_cases h2:p.length<22
  ·rw[Aae h2]at h;exact absurd rfl h
  ·have h2':¬(p++q).length<22:=by rw[Aai];omega
   have h1':¬(p++q).take (min 4 (p++q).length)≠gA.take (min 4 (p++q).length):=by
    rw[As8 (by omega)]at h1⊢;rw[Pc (by omega)];exact h1
   have e0:f0 (p++q)=f0 p:=by unfold f0;rw[Tu]
   have e1:f1 (p++q)=f1 p:=by unfold f1;rw[Tu]
   have e2:f2 (p++q)=f2 p:=by unfold f2;rw[Tu]
   have e3:f3 (p++q)=f3 p:=by unfold f3;rw[Tu]
   have e4:f4 (p++q)=f4 p:=by unfold f4;rw[Tu]
   rw[Aaa h1,Aaa h1',Aaa h2,Aaa h2',e0,e1,e2,e3,e4,Pc (by omega),Tu]
theorem Am0{p:LB}(q:LB)(h:(Y4 p).2.2.2.2.2.2≠ -1):Y4 (p++q)=Y4 p:=by
 unfold Y4 at h⊢;by_cases h1:(Bu p).2=24
 ·rw[Aae h1]at h;exact absurd rfl h
 rw[Aaa h1]at h;by_cases h2:(Bu p).2≠0
 ·rw[wL q h1 (λe=>absurd e h2),Aaa h1,Aae h2,Aaa h1,Aae h2]
 rw[Aaa h2]at h;have h0:(Bu p).2=0:=by simpa using h2
 by_cases h3:(Py (Iv p) tY||Py (Iv p) vB)=true
 ·rw[Aae h3]at h;exact absurd rfl h
 rw[Aaa h3]at h;have h3f:Py (Iv p) tY=false/\Py (Iv p) vB=false:=by
  simp only[Bool.not_eq_true,Axp]at h3;exact h3
 have eF:=wL q h1 (λ_=>h3f);obtain⟨k1,k2,k3⟩:=EA h0;have eH:Iv (p++q)=Iv p++q:=by rw[Iv,eF,Iv,Awn (by omega)]
 by_cases h5:(Ep (Iv p)).2.2.2.2.2=24
 ·rw[Aae h5]at h;exact absurd rfl h
 have eR:Ep (Iv p++q)=Ep (Iv p):=Agv q h5;have beg:∀s:LB,Py (Iv p) s=false-> (s=tY\/s=vB)->Py (Iv p++q) s=false:=by
  intro s hs hk;by_cases hl:(Iv p++q).length<s.length
  ·have hp:(Iv p).length<s.length:=by rw[Aai]at hl;omega
   rw[Py,Avx hp,Awg]at hs;rw[Py,Avx hl,Awg];refine beq_eq_false_iff_ne.2 λe=>?_;have:=congrArg (List.take (Iv p).length) e;rw[Pc (Alw _),Atb,Aya,As8 (by rw[Aai];omega)]at this;rw[<-this]at hs;simp at hs
  ·exact lJ hl
 rw[eF,eH,eR,Aaa h1,Aaa h2,beg _ h3f.1 (.inl rfl),beg _ h3f.2 (.inr rfl),Aaa (by decide),Aaa h5,Aaa h1,Aaa h2,Aaa h3]
theorem Agu{p:LB}(q:LB)(n:Nat)(h:(Em p n).2≠24):Em (p++q) n=Em p n:=by
 unfold Em at h⊢;by_cases h1:1<=n/\n<=1000
 ·have n1:¬ ¬(1<=n/\n<=1000):=λf=>f h1;rw[Aaa n1]at h;rw[Aaa n1,Aaa n1];by_cases h2:p.length<4*n+4
  ·rw[Aae h2]at h;exact absurd rfl h
  ·have h2':¬(p++q).length<4*n+4:=by rw[Aai];omega
   have et:UT (p++q) n=UT p n:=by
    unfold UT;refine Axz λi hi=>?_;rw[List.mem_range]at hi;rw[Tu]
   rw[Aaa h2,Aaa h2',Pc (by omega),Tu,et]
 ·rw[Aae h1,Aae h1]
def Aaw(g a:LB)(k p o u v:Int)(f:LI)(b:Int)(h:LB)(m:Bool)(n:Int):Option Int:=
if(geq k 0)then
(Kg a).bind λ(al,ba)=>
if(geq ba 24)then
Fh true 0
else
if(Bq ba 0)then
(Al ba).bind λ(bx,bz)=>
Fh bx bz
else
(Bp a al (Ac a)).bind λda=>
(Ub da).bind λan=>
if an then
Fh true 0
else
(Bp a al (Ac a)).bind λdb=>
(Ni db).bind λ(ae,af,aa,ag,ab,bb)=>
if(geq bb 24)then
Fh true 0
else
if(Bq bb 0)then
(Al bb).bind λ(dc,dd)=>
Fh dc dd
else
(
(Bp a (Af al 22) (Ac a)).bind λak=>
(
AV g ak ae af aa ag ab b m n f h))
else
if(geq (Ac f) 0)then
if(geq k 2)then
if(Dg (Ac a) 8)then
Lb true 0
else
AU g a k p o u v b m n f h
else
Ll g a k p o u v b m n f h 0
else
if(Dg b (Ac f))then
(Ao f b).bind λ_=>
(Ao f b).bind λw=>
if(Dg (Ac a) w)then
Ii true 0
else
(FA g).bind λ(ap,am)=>
if(Bq am 0)then
(Al am).bind λ(de,df)=>
Ii de df
else
(Dy k p o u v).bind λ(ad,dg)=>
if((Bq dg 0)||(Tp b (Ac ad)))then
(Al 8).bind λ(dh,di)=>
Ii dh di
else
AR w g a k p o u v b m n ap ad f h
else
if(Fb (Ac a) 4000)then
(Al 38).bind λ(dj,bf)=>
Bv ((dj==true)&&((geq bf 0)&&true))
else
BF
theorem oB(d:Bool)(e:Int):Fh d e=Bv (d&&geq e 0):=by
 rw[Fh,JK];cases d<;>simp
theorem E4(d:Bool)(e:Int):Lb d e=Bv (d&&geq e 0):=by
 rw[Lb,KJ];cases d<;>simp
theorem Abx(d:Bool)(e:Int):Ii d e=Bv (d&&geq e 0):=by
 rw[Ii,JW];cases d<;>simp
theorem ng{o p:LB}{f c w r n:Int}{g:LI}{a:Int}{x:LB}{u:Bool}{v:Int}{t1 t2:LB}{t3 t4 t5 t6 t7:Int}{t8:LI}{t9:Int}{t10:LB}{t11:Bool}{t12 e:Int}
  (h:Ag o p f c w r n g a x u v=some (t1,t2,t3,t4,t5,t6,t7,t8,t9,t10,t11,t12,e)):Cf o p f c w r n g a x u v=some (geq e (-1)):=by
 rw[Cf,AN,h,Aa]
theorem dV{e:Int}(h:0<=e):geq e (-1)=false:=by rw[Aq,beq_eq_false_iff_ne];omega
theorem Afl(o p:LB)(c w r n:Int)(g:LI)(a:Int)(x:LB)(u:Bool)(v:Int)(hp:p.length<=100000):
  ∃B:Bool,Aaw o p 0 c w r n g a x u v=Bv B/\Cf o p 0 c w r n g a x u v=some B:=by
 have hT:Ag o p 0 c w r n g a x u v=Ag o p 0 c w r n g a x u v:=rfl
 conv at hT=>rhs;rw[Ag,Bk,Aae (by decide),CF p hp,Aa,Y4]
 have hfn:=rQ p;have hrn:=C0 (Iv p);rw[Aaw,Aae (by decide),Vw p (by omega),Aa];have hok:=EA (b:=p);simp only at hT⊢;by_cases h1:(Bu p).2=24
 ·rw[Aae h1]at hT;simp only at hT;rw[Aae (by decide)]at hT;rw[Aae (by rw[Aq];simpa using h1),oB];exact⟨_,rfl,ng hT⟩
 rw[Aaa h1]at hT;rw[Aaa (by rw[Aq];simpa using h1)];by_cases h2:(Bu p).2≠0
 ·rw[Aae h2]at hT;simp only at hT;rw[Aae (by rw[Ah];simpa using h2)]at hT;rw[Aae (by rw[Ah];simpa using h2),Al,Aa];simp only;rw[oB];exact⟨_,rfl,(ng hT).trans (by rw[dV hfn];rfl)⟩
 have h0:(Bu p).2=0:=by simpa using h2
 obtain⟨k1,k2,k3⟩:=hok h0;have hl:(Iv p).length=p.length-(Bu p).1.toNat:=by rw[Iv,Ahp]
 rw[Aaa h2]at hT;rw[Aaa (by rw[Ah,h0];simp),Cg,Aa,Aa,show p.drop (Bu p).1.toNat=Iv p from rfl,Aj2,Aa];by_cases h3:(Py (Iv p) tY||Py (Iv p) vB)=true
 ·rw[Aae h3]at hT⊢;simp only at hT;rw[Aae (by decide)]at hT;rw[oB];exact⟨_,rfl,ng hT⟩
 rw[Aaa h3]at hT⊢;rw[VA _ (by omega),Aa];by_cases h5:(Ep (Iv p)).2.2.2.2.2=24
 ·rw[Aae h5]at hT;simp only at hT;rw[Aae (by decide)]at hT;rw[Aae (by rw[Aq];simpa using h5),oB];exact⟨_,rfl,ng hT⟩
 rw[Aaa h5]at hT;rw[Aaa (by rw[Aq];simpa using h5)];simp only at hT;by_cases h6:(Ep (Iv p)).2.2.2.2.2≠0
 ·rw[Aae (by rw[Ah];simpa using h6)]at hT⊢;rw[Al,Aa];simp only;rw[oB];exact⟨_,rfl,(ng hT).trans (by rw[dV hrn];rfl)⟩
 have h7:(Ep (Iv p)).2.2.2.2.2=0:=by simpa using h6
 have h22:=(kH h7).2.1;rw[Aaa (by rw[Ah,h7];simp),Cg,Aa,Fm,He,Eb]at hT;rw[Aaa (by rw[Ah,h7];simp),Aj,Cg,Aa,AV,MP,Qq];simp only;by_cases h8:((o==([]:LB)) !=geq (Ep (Iv p)).1 1)=true
 ·rw[Aae h8]at hT⊢;rw[Aa]at hT⊢;rw[Al,Aa];simp only;rw[oB];exact⟨_,rfl,ng hT⟩
 ·rw[Aaa h8]at hT⊢;rw[Aa]at hT⊢;rw[Al,Aa];simp only;rw[oB];exact⟨_,rfl,ng hT⟩
section
variable {f c w r n:Int} {F C W R N:Nat} (hd:HdI f c w r n F C W R N)
include hd
theorem HdI.ne0:¬(geq f 0=true):=by
 have:=hd.num;rw[Aq,Asc,hd.ef];omega
theorem sF(o p:LB)(hp:p.length<=100000)(A:Nat)(hA:A<=p.length)(a:Int)(x:LB)(u:Bool)(v:Int):
  (Ll o p f c w r n a u v [] x (A:Int)=Bv (decide ((Em (p.drop A) (Ak (Am R) N).length).2=24)))/\
  Dk p f c w r n (A:Int)=some (if(Em (p.drop A) (Ak (Am R) N).length).2=24 then(0,[], -1)else((A:Int)+(4*((Em (p.drop A) (Ak (Am R) N).length).1.length:Int)+4),(Em (p.drop A) (Ak (Am R) N).length).1,(Em (p.drop A) (Ak (Am R) N).length).2))/\
  ((Em (p.drop A) (Ak (Am R) N).length).2=0-> (A:Int)+(4*((Em (p.drop A) (Ak (Am R) N).length).1.length:Int)+4)<=p.length):=by
 have hs:=mJ (p.drop A) (Ak (Am R) N).length (by rw[Ahp];omega);have hr:=D0 (p.drop A) (Ak (Am R) N).length (by rw[Ahp];omega);have hok:=bO (b:=p.drop A) (n:=(Ak (Am R) N).length);have hlen:(Em (p.drop A) (Ak (Am R) N).length).1.length<=1000:=by
  unfold Em
  repeat' split
  all_goals simp[Ys]
  all_goals omega
 have hfit:(Em (p.drop A) (Ak (Am R) N).length).2=0-> (A:Int)+(4*((Em (p.drop A) (Ak (Am R) N).length).1.length:Int)+4)<=p.length:=by
  intro h0;obtain⟨k1,k2,k3,k4,_⟩:=hok h0;rw[k1];simp only[Ys];rw[Ahp]at k4;omega
 refine⟨?_,?_,hfit⟩
 ·rw[Ll,JX,hd.rL,Aa];simp only;rw[Aaa (by decide),Cg,Aa,Al6,Ac,hs,Aa];generalize Em (p.drop A) (Ak (Am R) N).length=z at*
  obtain⟨z1,z2⟩:=z;simp only at*
  by_cases h1:z2=24
  ·rw[Aae (by rw[Aq];simpa using h1),E4,Avx h1];rfl
  rw[Aaa (by rw[Aq];simpa using h1),Ats h1];by_cases h2:z2≠0
  ·rw[Aae (by rw[Ah];simpa using h2),Al,Aa];simp only;rw[E4];rfl
  ·have h0:z2=0:=by simpa using h2
   have:=hfit h0;rw[Aaa (by rw[Ah,h0];simp),Ac,D8 A z1.length (by omega) (by omega),Cg,Aa,E4];rfl
 ·rw[Dk,Yl,Cg,Aa,hd.T9,Aa,Ac,Al6,hr,Aa];generalize Em (p.drop A) (Ak (Am R) N).length=z at*
  obtain⟨z1,z2⟩:=z;simp only at*
  rw[Xy,MJ];by_cases h1:z2=24
  ·rw[Aae (by rw[Aq];simpa using h1),Aae h1]
  ·rw[Aaa (by rw[Aq];simpa using h1),Aaa h1,Ac,D8 A z1.length (by omega) (by omega)];congr 2
theorem Amc(o p:LB)(ho:o.length<=64)(hp:p.length<=100000)(a:Int)(x:LB)(u:Bool)(v:Int):
  ∃B:Bool,Aaw o p f c w r n [] a x u v=Bv B/\Cf o p f c w r n [] a x u v=some B:=by
 have hT:Ag o p f c w r n [] a x u v=Ag o p f c w r n [] a x u v:=rfl
 conv at hT=>rhs;rw[Ag,Bk,Aaa hd.ne0,Br,Bo,Aae (by decide),Dt,Fu]
 rw[Aaw,Aaa hd.ne0,Aae (by decide)];have fin:∀A:Nat,A<=p.length->Ag o p f c w r n [] a x u v=(Dk p f c w r n (A:Int)).bind (λ(ag,ak,w1)=>
   if(Bq w1 0)then some (o,p,f,c,w,r,n,[],a,x,u,v,w1)else(Bp p ag (Ac p)).bind λal=>some (o,al,f,c,w,r,n,ak,a,x,u,v,0))->
   ∃B:Bool,Ll o p f c w r n a u v [] x (A:Int)=Bv B/\Cf o p f c w r n [] a x u v=some B:=by
  intro A hA hT;obtain⟨t1,t2,t3⟩:=sF hd o p hp A hA a x u v;have hnn:=zP (p.drop A) (Ak (Am R) N).length;rw[t2,Aa]at hT;rw[t1];generalize Em (p.drop A) (Ak (Am R) N).length=z at*
  obtain⟨z1,z2⟩:=z;simp only at*
  by_cases h1:z2=24
  ·rw[Aae h1]at hT;simp only at hT;rw[Aae (by decide)]at hT;exact⟨_,rfl,(ng hT).trans (by rw[Avx h1];rfl)⟩
  rw[Aaa h1]at hT;simp only at hT;by_cases h2:z2≠0
  ·rw[Aae (by rw[Ah];simpa using h2)]at hT;exact⟨_,rfl,(ng hT).trans (by rw[Ats h1,dV hnn])⟩
  ·have h0:z2=0:=by simpa using h2
   have:=t3 h0;rw[Aaa (by rw[Ah,h0];simp),Cg,Aa]at hT;exact⟨_,rfl,(ng hT).trans (by rw[Ats h1];rfl)⟩
 by_cases h2:geq f 2=true
 ·rw[Aae h2]at hT⊢;by_cases h8:p.length<8
  ·rw[Aae (by rw[Ae,Ac];simp;omega)]at hT⊢;rw[Aa]at hT;simp only at hT;rw[Aae (by decide)]at hT;rw[E4];exact⟨_,rfl,ng hT⟩
  ·rw[Aaa (by rw[Ae,Ac];simp;omega)]at hT⊢;have h8':(p.take 8).length=8:=by rw[Al5];omega
   rw[Dr,Aa,bF o ho,Aa]at hT;rw[AU,MM,Dr,Aa,show(8:Int).toNat=8 from rfl,yB h8' ho,Aa];rw[show(8:Int).toNat=8 from rfl]at hT;simp only;rw[MF,KC,Aaa (by decide)];by_cases he:(p.take 8==Xa (BT o).toNat 8)=true
   ·rw[Aaa (by rw[bne,he];decide)]at hT;rw[Aaa (by rw[he];decide)];exact fin 8 (by omega) hT
   ·have he':(p.take 8==Xa (BT o).toNat 8)=false:=by simpa using he
    rw[Aae (by rw[bne,he'];decide),Aa]at hT;simp only at hT;rw[Aae (by decide)]at hT;rw[Aae (by rw[he'];decide),Al,Aa];simp only;rw[E4];exact⟨_,rfl,ng hT⟩
 ·rw[Aaa h2]at hT⊢;exact fin 0 (by omega) hT
end
theorem Ag5{f c w r n:Int}{F C W R N:Nat}(hd:HdI f c w r n F C W R N)(o p:LB)(ho:o.length<=64)(hp:p.length<=100000)(g:LI)(hg:HR g=true)(hl:g.length=(Ak (Am R) N).length)(A:Nat)(hA:A<=g.length)(x:LB)(hx:x.length<=14000000)(u:Bool)(v:Int):
  ∃B:Bool,Aaw o p f c w r n g (A:Int) x u v=Bv B/\Cf o p f c w r n g (A:Int) x u v=some B:=by
 have hc:=hd.ec;subst hc;have hg':=hg;rw[HR,Aag,Aaf,UO g 100000 (by omega)]at hg';obtain⟨⟨g1,g2⟩,g5,g6⟩:=hg';have hT:Ag o p f (C:Int) w r n g (A:Int) x u v=Ag o p f (C:Int) w r n g (A:Int) x u v:=rfl
 conv at hT=>rhs;rw[Ag,Bk,Aaa hd.ne0,Br,Bo,Aaa (by rw[Aq,Ac];simp;intro e;subst e;simp at g1)]
 rw[Aaw,Aaa hd.ne0,Aaa (by rw[Aq,Ac];simp;intro e;subst e;simp at g1)];by_cases hA2:A=g.length
 ·subst hA2;rw[Aae (by rw[Aq,Ac];simp)]at hT;rw[Aaa (by rw[Ae,Ac];simp)];by_cases h4:4000<p.length
  ·rw[Aae (by rw[Ap,Ac];simp;omega)]at hT⊢;rw[Al,Aa];simp only;exact⟨_,rfl,ng hT⟩
  ·rw[Aaa (by rw[Ap,Ac];simp;omega)]at hT⊢;rw[BF,LZ];exact⟨_,rfl,ng hT⟩
 ·have hlt:A<g.length:=by omega
  have h5:=g5 g[A] (Anw hlt);have hsum:=Q4 g5 g[A] (Anw hlt);rw[Aaa (by rw[Aq,Ac];simp;omega),Cp,Dv,Ce hlt,Aa]at hT;rw[Aae (by rw[Ae,Ac];simp;omega),Ce hlt,Aa,Aa];by_cases hw:(p.length:Int)<g[A]
  ·rw[Aae (by rw[Ae,Ac];simpa using hw)]at hT⊢;rw[Aa]at hT;simp only at hT;rw[Aae (by decide)]at hT;rw[Abx];exact⟨_,rfl,ng hT⟩
  rw[Aaa (by rw[Ae,Ac];simpa using hw)]at hT⊢;have GV:=hd.num;have hlt2:A<(Ak (Am R) N).length:=by omega
  obtain⟨m,hm,m1,m2⟩:=Xj (Iy R) GV.2.2.2.2.1 (Anw hlt2);have hb:Bn w:=by rw[hd.ew];unfold Bn;omega
  obtain⟨xs,e,d1,d2,d3,d4⟩:=RD (bits:=w) (ch:=C) (n:=m) (t:=DF o) (p.take g[A].toNat) hb (Ui o) GV.2.1.1 GV.2.1.2 m1 (by omega);have hnn:=lL hb (Ui o) GV.2.1.1 GV.2.1.2 m1 (by omega) d2;rw[sW o ho,Aa];simp only;rw[Aaa (by decide),hd.rL,Aa];simp only;rw[Aaa (by simp[Ah,Ej,Ac];omega),AR,LD,Ce hlt2,Aa,Dr,Aa,Aa,GD,Aa];simp only;rw[hm,d1,Aa];simp only;rw[RN o ho,Aa]at hT;simp only at hT;rw[Dr,Aa,Es,Aa]at hT;simp only at hT;rw[hd.T9,Aa,Ce hlt2,Aa,Aa,hm]at hT;rw[d2,Aa]at hT;simp only at hT;rw[Dw,Ek]at hT;rw[MW,BM];by_cases he:e≠0
  ·rw[Aae (by rw[Ah];simpa using he)]at hT⊢;rw[Aa]at hT;simp only at hT;rw[Aae (by rw[Ah];simpa using he)]at hT;rw[Al,Aa];simp only;rw[Abx];exact⟨_,rfl,(ng hT).trans (by rw[dV hnn];rfl)⟩
  ·have he0:e=0:=by simpa using he
   obtain⟨k1,k2,k3⟩:=d3 he0;have hbl:=DU w xs;rw[Aaa (by rw[Ah,he0];simp)]at hT⊢;rw[PC hb k2 k1,Aa,Aa]at hT;simp only at hT;rw[Aaa (by decide),Bi (by simp;omega),Aa,Apz,Bi,Aa,Aa,Cg,Aa]at hT;rw[XC hb k2 k1,Aa];simp only;rw[Aaa (by decide),Bi,Aa,Cg,Aa,Abx];exact⟨_,rfl,ng hT⟩
theorem oz(a:LI)(b:Int)(ha:a.length<=100):∀(j i q:Nat),i+j=a.length->j<q->∃r,Ci a b q (i:Int)=some r/\Tp r 0=(a.drop i).any λy=>b==y
 |0,i,q+1,hi,_=>by
  refine⟨-1,?_,?_⟩
  ·rw[Ci,Fj,Aaa (by rw[Ae,Ac];simp;omega)];rfl
  ·rw[show i=a.length by omega,Axa];rfl
 |j+1,i,q+1,hi,hq=>by
  have hlt:i<a.length:=by omega
  obtain⟨r,h1,h2⟩:=oz a b ha j (i+1) q (by omega) (by omega);rw[Ci,Fj,Aae (by rw[Ae,Ac];simp;omega),Ce hlt,Aa,drop_cons hlt,List.any_cons];by_cases h:b=a[i]
  ·rw[Aae (by rw[Aq];simpa using h)];refine⟨_,rfl,?_⟩;rw[Ej,Avx (by omega),h];simp
  ·rw[Aaa (by rw[Aq];simpa using h),Aj];refine⟨r,h1,?_⟩;rw[h2,beq_eq_false_iff_ne.2 h,Bool.false_or]
theorem Aji(v:Int):∃B:Bool,Un v=some B/\Tl v=some B:=by
 obtain⟨r,h1,h2⟩:=oz [4,12,16,22,24,26,38] v (by decide) 7 0 Ba rfl (by have:=Ax;omega);refine⟨_,?_,rfl⟩;rw[Un,Ja,La,Je,Ji];have h1':Ci [4,12,16,22,24,26,38] v Ba 0=some r:=h1;rw[h1',Aa,Aa,h2];simp only[List.drop_zero,List.any_cons,List.any_nil,Bool.or_false,Aq,Bool.or_assoc]
theorem oI(B:Bool):Bv B=some (if B=true then 0 else 8):=by
 rw[Bv,ZN];cases B<;>rfl
theorem An0(a b:LB)(f g h k m:Int)(n:LI)(o:Int)(p:LB)(u:Bool)(v:Int)(hb:b.length<=16000000)(hn:n.length<=16000000)(hp:p.length<=16000000):
  El a b f g h k m n o p u v=some (a,b,f,g,h,k,m,n,o,p,u,v):=by
 rw[El,Nn,Bi (by simp;omega),Aa,Aa,Nn,Bi (by simp;omega),Aa,Aa,Hl,Bi (by simp;omega),Aa,Aa];rfl
theorem rE(o p:LB)(f c w r n:Int)(g:LI)(a:Int)(x:LB)(u:Bool)(v:Int)(hp:p.length<=100000)(hg:g.length<=100000)(hx:x.length<=14000000):
  ∃E,Qb o p f c w r n g a x u v=some E/\Dh o p f c w r n g a x u v=some E:=by
 rw[Qb,EN,Dh];by_cases ho:64<o.length
 ·rw[Aae (by rw[Ap,Ac];simp;omega),Aae (by rw[Ap,Ac];simp;omega)];exact⟨8,rfl,rfl⟩
 have hO:¬(Fb (Ac o) 64=true):=by rw[Ap,Ac];simp;omega
 rw[Aaa hO,Aaa hO];by_cases hw:(geq v 0&& !u)=true
 ·rw[Aae hw,Aae hw,An0 o p f c w r n g a x u v (by omega) (by omega) (by omega),Aa];simp only;rcases Aan o p f c w r n g a x u v with⟨e1,e2⟩|⟨e1,e2,hd⟩
  ·rw[e1,e2,Aa,Aa,Aaa (by decide),Aae (by decide),oI];exact⟨8,rfl,rfl⟩
  ·rw[e1,e2,Aa,Aae rfl];have key:∃B:Bool,Aaw o p f c w r n g a x u v=Bv B/\Cf o p f c w r n g a x u v=some B:=by
    cases hd with
    |new e1 e2 e3 e4 e5 e6 e7 e8=>subst e1;exact Afl o p c w r n g a x u v hp
    |head F C W R N h hpw e6 e7 e8=>subst e6;exact Amc h o p (by omega) hp a x u v
    |tab F C W R N A h hpw ht hl ea hA=>subst ea;exact Ag5 h o p (by omega) hp g ht hl A hA x hx u v
   obtain⟨B,k1,k2⟩:=key;rw[k2,Aa];refine⟨if B=true then 0 else 8,k1.trans (oI B),?_⟩;cases B<;>rfl
 ·rw[Aaa hw,Aaa hw];by_cases hl:(geq (Ac p) 0&&geq (Ac g) 0)=true
  ·rw[Aae hl,Aae hl];generalize(geq f 0&&(geq c 0&&(geq w 0&&(geq r 0&&(geq n 0&&true)))))=z;by_cases hz:((z&&geq a 0)&&G4 (Ac x) 12000)=true
   ·rw[Aae hz];simp only[Aag,gG,Ac,Aaf]at hz;obtain⟨⟨z1,z2⟩,z3⟩:=hz;have hN:¬((!(z&&geq a 0)||Fb (Ac x) 12000)=true):=by rw[z1,z2,Ap,Ac];simp;omega
    rw[Aaa hN];by_cases hv:v=0
    ·have v1:geq v 0=true:=by rw[Aq];simpa using hv
     have v2:¬(Bq v 0=true):=by rw[Ah];simpa using hv
     rw[Aae v1,Aaa v2,oI];exact⟨0,rfl,rfl⟩
    ·have v1:¬(geq v 0=true):=by rw[Aq];simpa using hv
     have v2:Bq v 0=true:=by rw[Ah];simpa using hv
     rw[Aaa v1,Aae v2];obtain⟨B,k1,k2⟩:=Aji v;rw[k1,k2,Aa,Aa,oI,oI];cases u
     ·refine⟨if B=true then 0 else 8,by simp,?_⟩;cases B<;>rfl
     ·exact⟨8,rfl,rfl⟩
   ·rw[Aaa hz,Aae,oI]
    ·exact⟨8,rfl,rfl⟩
    ·simp only[Aag,gG,Ac,Aaf]at hz;simp only[Atu,Asr,Ap,Ac,Aaf];by_cases hz2:(z&&geq a 0)=true
     ·rw[Aag]at hz2;exact .inr (by have hq:¬((x.length:Int)<=12000):=λh=>hz ⟨hz2,h⟩;omega)
     ·exact .inl (by simpa using hz2)
  ·rw[Aaa hl,Aaa hl,Aaa (by simp),Aae (by simp),oI];exact⟨8,rfl,rfl⟩
def VW(bk:LB->Int->Int->Int->Int->Int->Int->LI->LB->As)(o:LB)(u:Bool)(v:Int):LB->Int->Int->Int->Int->Int->Int->LI->LB->As:=
 Jw (Qh bk o u v) (Wa bk o u v) (Mv bk o u v) (Wc bk o u v) (Mx bk o u v) (Qg bk o u v) (Wz bk o u v) (Cr bk o u v) (ER bk o u v) o u v
structure SzD (p:LB) (g:LI) (a:Int) (x:LB):Prop where
 hp:p.length<=100000
 hg:g.length<=1000
 hx:x.length+12000*(g.length-a.toNat)<=13000000
def muD(f:Int)(g:LI)(a:Int):Nat:=if f=0 then 1003 else if g=[]then 1002 else g.length-a.toNat+1
section
variable {bk:LB->Int->Int->Int->Int->Int->Int->LI->LB->As} {o p:LB} {f c w r n:Int} {g:LI} {a:Int} {x:LB} {u:Bool} {v:Int}
theorem Akr(hp:p.length<=100000)(hg:g.length<=1000)(hx:x.length<=13000000):El o p f c w r n g a x u v=some (o,p,f,c,w,r,n,g,a,x,u,v):=by
 rw[El,Nn,Bi (by simp;omega),Aa,Aa,Nn,Bi (by simp;omega),Aa,Aa,Hl,Bi (by simp;omega),Aa,Aa];rfl
theorem Au4(h:SzD p g a x)(e:Int):Cr bk o u v p f c w r n a true e g x=some (o,p,f,c,w,r,n,g,a,x,u,v,0):=by
 rw[Cr,OG,Aae rfl,Akr h.hp h.hg (by have:=h.hx;omega),Aa]
theorem Aty{e:Int}(h:e≠0):Cr bk o u v p f c w r n a false e g x=some (o,[],0,0,0,0,0,[],0,x,false,e,e):=by
 rw[Cr,OG,Aaa (by decide),Aae (by rw[Ah];simpa using h)];rfl
inductive StepR (bk:LB->Int->Int->Int->Int->Int->Int->LI->LB->As) (o p:LB) (f c w r n:Int) (g:LI) (a:Int) (x:LB) (u:Bool) (v:Int):Prop
 |wait:VW bk o u v p f c w r n a g x=some (o,p,f,c,w,r,n,g,a,x,u,v,0)->Ag o p f c w r n g a x u v=some (o,p,f,c,w,r,n,g,a,x,u,v, -1)->StepR bk o p f c w r n g a x u v
 |err (e:Int) {t1 t2:LB} {t3 t4 t5 t6 t7:Int} {t8:LI} {t9:Int} {t10:LB} {t11:Bool} {t12:Int}:0<e->VW bk o u v p f c w r n a g x=some (o,[],0,0,0,0,0,[],0,x,false,e,e)->
   Ag o p f c w r n g a x u v=some (t1,t2,t3,t4,t5,t6,t7,t8,t9,t10,t11,t12,e)->StepR bk o p f c w r n g a x u v
 |next (p':LB) (f' c' w' r' n':Int) (g':LI) (a':Int) (x':LB):VW bk o u v p f c w r n a g x=bk p' f' c' w' r' n' a' g' x'->Ag o p f c w r n g a x u v=some (o,p',f',c',w',r',n',g',a',x',u,v,0)->
   FitD o f' c' w' r' n' g' a' x'->SzD p' g' a' x'->p'.length<=p.length->muD f' g' a'<muD f g a->StepR bk o p f c w r n g a x u v
theorem f62{d:Bool}{e:Int}:Qh bk o u v a g x d e p f c w r n=Cr bk o u v p f c w r n a d e g x:=rfl
theorem f75{d:Bool}{e:Int}:Mv bk o u v f c w r n a x d e p g=Cr bk o u v p f c w r n a d e g x:=rfl
theorem f78{d:Bool}{e:Int}:Qg bk o u v f c w r n g d e p a x=Cr bk o u v p f c w r n a d e g x:=rfl
theorem mkW(hZ:SzD p g a x)(hF:VW bk o u v p f c w r n a g x=Cr bk o u v p f c w r n a true 0 g x)(hT:Ag o p f c w r n g a x u v=some (o,p,f,c,w,r,n,g,a,x,u,v, -1)):StepR bk o p f c w r n g a x u v:=
 .wait (hF.trans (Au4 hZ 0)) hT
theorem mkE{e:Int}{p2:LB}{f2 c2 w2 r2 n2 a2:Int}{g2:LI}{t1 t2:LB}{t3 t4 t5 t6 t7:Int}{t8:LI}{t9:Int}{t10:LB}{t11:Bool}{t12:Int}(he:0<e)(hF:VW bk o u v p f c w r n a g x=Cr bk o u v p2 f2 c2 w2 r2 n2 a2 false e g2 x)
  (hT:Ag o p f c w r n g a x u v=some (t1,t2,t3,t4,t5,t6,t7,t8,t9,t10,t11,t12,e)):StepR bk o p f c w r n g a x u v:= .err e he (hF.trans (Aty (by omega))) hT
theorem HdI.fnz{F C W R N:Nat}(h:HdI f c w r n F C W R N):f≠0:=by
 have:=h.num;rw[h.ef];omega
theorem Ai4(hp:p.length<=100000):StepR bk o p 0 0 0 0 0 [] 0 [] u v:=by
 have hZ:SzD p [] 0 []:=⟨hp,by simp,by simp⟩;have hT:Ag o p 0 0 0 0 0 [] 0 [] u v=Ag o p 0 0 0 0 0 [] 0 [] u v:=rfl
 conv at hT=>rhs;rw[Ag,Bk,Aae (by decide),CF p hp,Aa,Y4]
 have hF:VW bk o u v p 0 0 0 0 0 0 [] []=VW bk o u v p 0 0 0 0 0 0 [] []:=rfl
 conv at hF=>rhs;rw[VW,Jw,Aae (by decide),Vw p (by omega),Aa]
 have hfn:=rQ p;have hrn:=C0 (Iv p);have hok:=EA (b:=p);simp only at hT hF;by_cases h1:(Bu p).2=24
 ·rw[Aae h1]at hT;simp only at hT;rw[Aae (by decide)]at hT;rw[Aae (by rw[Aq];simpa using h1)]at hF;exact mkW hZ hF hT
 rw[Aaa h1]at hT;rw[Aaa (by rw[Aq];simpa using h1)]at hF;by_cases h2:(Bu p).2≠0
 ·rw[Aae h2]at hT;simp only at hT;rw[Aae (by rw[Ah];simpa using h2)]at hT;rw[Aae (by rw[Ah];simpa using h2),Al,Aa]at hF;exact mkE (by omega) hF hT
 have h0:(Bu p).2=0:=by simpa using h2
 obtain⟨k1,k2,k3⟩:=hok h0;have hl:(Iv p).length=p.length-(Bu p).1.toNat:=by rw[Iv,Ahp]
 rw[Aaa h2]at hT;rw[Aaa (by rw[Ah,h0];simp),Cg,Aa,Aa,show p.drop (Bu p).1.toNat=Iv p from rfl,Aj2,Aa]at hF;by_cases h3:(Py (Iv p) tY||Py (Iv p) vB)=true
 ·rw[Aae h3]at hT hF;simp only at hT;rw[Aae (by decide)]at hT;exact mkW hZ hF hT
 rw[Aaa h3]at hT hF;rw[VA _ (by omega),Aa]at hF;by_cases h5:(Ep (Iv p)).2.2.2.2.2=24
 ·rw[Aae h5]at hT;simp only at hT;rw[Aae (by decide)]at hT;rw[Aae (by rw[Aq];simpa using h5)]at hF;exact mkW hZ hF hT
 rw[Aaa h5]at hT;rw[Aaa (by rw[Aq];simpa using h5)]at hF;simp only at hT;by_cases h6:(Ep (Iv p)).2.2.2.2.2≠0
 ·rw[Aae (by rw[Ah];simpa using h6)]at hT hF;rw[Al,Aa]at hF;exact mkE (by have:=hrn;generalize(Ep (Iv p)).2.2.2.2.2=z at *;omega) (hF.trans f62) hT
 have h7:(Ep (Iv p)).2.2.2.2.2=0:=by simpa using h6
 obtain⟨r1,h22,r3,r4⟩:=kH h7;rw[Aaa (by rw[Ah,h7];simp),Cg,Aa,Fm,He,Eb]at hT;rw[Aaa (by rw[Ah,h7];simp),Aj,Cg,Aa,Wa,PT,Qq]at hF;simp only at hT hF;by_cases h8:((o==([]:LB)) !=geq (Ep (Iv p)).1 1)=true
 ·rw[Aae h8]at hT hF;rw[Aa]at hT hF;rw[Al,Aa]at hF;simp only at hF;exact mkE (by decide) (hF.trans f62) hT
 ·rw[Aaa h8]at hT hF;rw[Aa]at hT hF;rw[Al,Aa]at hF;have hd:HdI (Ep (Iv p)).1 (Ep (Iv p)).2.1 (Ep (Iv p)).2.2.1 (Ep (Iv p)).2.2.2.1 (Ep (Iv p)).2.2.2.2.1 (f0 (Iv p)) (f1 (Iv p)) (f2 (Iv p)) (f3 (Iv p)) (f4 (Iv p)):=by
   constructor<;>first|(rw[r1])|assumption
  refine .next _ _ _ _ _ _ [] 0 [] (by exact hF) hT (.head _ _ _ _ _ hd ?_ rfl rfl rfl) ⟨by rw[Ahp];omega,by simp,by simp⟩ (by rw[Ahp];omega) ?_
  ·have e:geq (Ep (Iv p)).1 1=decide (f0 (Iv p)=1):=by rw[hd.ef,Aq,Ahq];simp;omega
   rw[<-e];simpa using h8
  ·rw[muD,muD,Aaa hd.fnz,Aae rfl,Aae rfl];omega
section
variable {F C W R N:Nat} (hd:HdI f c w r n F C W R N)
include hd
theorem Aeg(hp:p.length<=100000)(hpw:(o==([]:LB))=decide (F=1))(A:Nat)(hA:A<=p.length)
  (hT:Ag o p f c w r n [] 0 [] u v=(Dk p f c w r n (A:Int)).bind (λ(ag,ak,w1)=>if(Bq w1 0)then some (o,p,f,c,w,r,n,([]:LI),(0:Int),([]:LB),u,v,w1)else(Bp p ag (Ac p)).bind λal=>some (o,al,f,c,w,r,n,ak,(0:Int),([]:LB),u,v,(0:Int))))
  (hF:VW bk o u v p f c w r n 0 [] []=Mx bk o u v p f c w r n 0 [] [] (A:Int)):StepR bk o p f c w r n [] 0 [] u v:=by
 have hZ:SzD p [] 0 []:=⟨hp,by simp,by simp⟩;obtain⟨_,t2,t3⟩:=sF hd o p hp A hA 0 [] u v;have hs:=mJ (p.drop A) (Ak (Am R) N).length (by rw[Ahp];omega);have hnn:=zP (p.drop A) (Ak (Am R) N).length;have hok:=bO (b:=p.drop A) (n:=(Ak (Am R) N).length);rw[t2,Aa]at hT;rw[Mx,PY,hd.rL,Aa]at hF;simp only at hF;rw[Aaa (by decide),Cg,Aa,Al6,Ac,hs,Aa]at hF;generalize hz:Em (p.drop A) (Ak (Am R) N).length=z at*
 obtain⟨z1,z2⟩:=z;simp only at*
 by_cases h1:z2=24
 ·rw[Aae h1]at hT;simp only at hT;rw[Aae (by decide)]at hT;rw[Aae (by rw[Aq];simpa using h1)]at hF;exact mkW hZ hF hT
 rw[Aaa h1]at hT;rw[Aaa (by rw[Aq];simpa using h1)]at hF;simp only at hT;by_cases h2:z2≠0
 ·rw[Aae (by rw[Ah];simpa using h2)]at hT hF;rw[Al,Aa]at hF;exact mkE (by omega) hF hT
 ·have h0:z2=0:=by simpa using h2
  subst h0;have h3:=t3 rfl;obtain⟨k1,k2,k3,k4,k5,k6⟩:=hok rfl;simp only[Adm,Ayb]at k1;have hl:z1.length=(Ak (Am R) N).length:=by rw[k1];exact Ys _ _
  rw[<-k1]at k5 k6;rw[Aaa (by decide),Cg,Aa]at hT;rw[Aaa (by decide),Ac,D8 A z1.length (by omega) (by omega),Cg,Aa]at hF;have hne:z1≠ []:=by intro e;rw[e]at hl;simp at hl;omega
  refine .next _ _ _ _ _ _ z1 0 [] (by exact hF) hT (.tab _ _ _ _ _ 0 hd hpw ?_ hl rfl (by omega)) ⟨by rw[Ahp];omega,by omega,by simp;omega⟩ (by rw[Ahp];omega) ?_
  ·rw[HR,Aag,Aaf,UO z1 100000 (by omega)];exact⟨by omega,k5,k6⟩
  ·rw[muD,muD,Aaa hd.fnz,Aaa hd.fnz,Aae rfl,Aaa hne];simp;omega
theorem Agp(ho:o.length<=64)(hp:p.length<=100000)(hpw:(o==([]:LB))=decide (F=1)):StepR bk o p f c w r n [] 0 [] u v:=by
 have hZ:SzD p [] 0 []:=⟨hp,by simp,by simp⟩;have hT:Ag o p f c w r n [] 0 [] u v=Ag o p f c w r n [] 0 [] u v:=rfl
 conv at hT=>rhs;rw[Ag,Bk,Aaa hd.ne0,Br,Bo,Aae (by decide),Dt,Fu]
 have hF:VW bk o u v p f c w r n 0 [] []=VW bk o u v p f c w r n 0 [] []:=rfl
 conv at hF=>rhs;rw[VW,Jw,Aaa hd.ne0,Aae (by decide)]
 by_cases h2:geq f 2=true
 ·rw[Aae h2]at hT hF;by_cases h8:p.length<8
  ·rw[Aae (by rw[Ae,Ac];simp;omega)]at hT hF;rw[Aa]at hT;simp only at hT;rw[Aae (by decide)]at hT;exact mkW hZ hF hT
  ·rw[Aaa (by rw[Ae,Ac];simp;omega)]at hT hF;have h8':(p.take 8).length=8:=by rw[Al5];omega
   rw[Dr,Aa,bF o ho,Aa]at hT;rw[Wc,ON,Dr,Aa,show(8:Int).toNat=8 from rfl,yB h8' ho,Aa]at hF;rw[show(8:Int).toNat=8 from rfl]at hT;simp only at hF;rw[OE,PR,Aaa (by decide)]at hF;by_cases he:(p.take 8==Xa (BT o).toNat 8)=true
   ·rw[Aaa (by rw[bne,he];decide)]at hT;rw[Aaa (by rw[he];decide)]at hF;exact Aeg hd hp hpw 8 (by omega) hT hF
   ·have he':(p.take 8==Xa (BT o).toNat 8)=false:=by simpa using he
    rw[Aae (by rw[bne,he'];decide),Aa]at hT;simp only at hT;rw[Aae (by decide)]at hT;rw[Aae (by rw[he'];decide),Al,Aa]at hF;simp only at hF;exact mkE (by decide) (hF.trans f75) hT
 ·rw[Aaa h2]at hT hF;exact Aeg hd hp hpw 0 (by omega) hT hF
theorem Ak2(ho:o.length<=64)(hpw:(o==([]:LB))=decide (F=1))(hg:HR g=true)(hl:g.length=(Ak (Am R) N).length)(A:Nat)(hA:A<=g.length)(hZ:SzD p g (A:Int) x):StepR bk o p f c w r n g (A:Int) x u v:=by
 have hp:=hZ.hp;have hx:=hZ.hx;have hc:=hd.ec;subst hc;have hg':=hg;rw[HR,Aag,Aaf,UO g 100000 (by omega)]at hg';obtain⟨⟨g1,g2⟩,g5,g6⟩:=hg';have hgn:¬(geq (Ac g) 0=true):=by rw[Aq,Ac];simp;intro e;subst e;simp at g1
 have hT:Ag o p f (C:Int) w r n g (A:Int) x u v=Ag o p f (C:Int) w r n g (A:Int) x u v:=rfl
 conv at hT=>rhs;rw[Ag,Bk,Aaa hd.ne0,Br,Bo,Aaa hgn]
 have hF:VW bk o u v p f (C:Int) w r n (A:Int) g x=VW bk o u v p f (C:Int) w r n (A:Int) g x:=rfl
 conv at hF=>rhs;rw[VW,Jw,Aaa hd.ne0,Aaa hgn]
 by_cases hA2:A=g.length
 ·subst hA2;rw[Aae (by rw[Aq,Ac];simp)]at hT;rw[Aaa (by rw[Ae,Ac];simp)]at hF;by_cases h4:4000<p.length
  ·rw[Aae (by rw[Ap,Ac];simp;omega)]at hT hF;rw[Al,Aa]at hF;exact mkE (by decide) hF hT
  ·rw[Aaa (by rw[Ap,Ac];simp;omega)]at hT hF;exact mkW hZ hF hT
 ·have hlt:A<g.length:=by omega
  have h5:=g5 g[A] (Anw hlt);have hsum:=Q4 g5 g[A] (Anw hlt);rw[Aaa (by rw[Aq,Ac];simp;omega),Cp,Dv,Ce hlt,Aa]at hT;rw[Aae (by rw[Ae,Ac];simp;omega),Ce hlt,Aa,Aa]at hF;by_cases hw:(p.length:Int)<g[A]
  ·rw[Aae (by rw[Ae,Ac];simpa using hw)]at hT hF;rw[Aa]at hT;simp only at hT;rw[Aae (by decide)]at hT;exact mkW hZ hF hT
  rw[Aaa (by rw[Ae,Ac];simpa using hw)]at hT hF;have GV:=hd.num;have hlt2:A<(Ak (Am R) N).length:=by omega
  obtain⟨m,hm,m1,m2⟩:=Xj (Iy R) GV.2.2.2.2.1 (Anw hlt2);have hb:Bn w:=by rw[hd.ew];unfold Bn;omega
  obtain⟨xs,e,d1,d2,d3,d4⟩:=RD (bits:=w) (ch:=C) (n:=m) (t:=DF o) (p.take g[A].toNat) hb (Ui o) GV.2.1.1 GV.2.1.2 m1 (by omega);have hnn:=lL hb (Ui o) GV.2.1.1 GV.2.1.2 m1 (by omega) d2;rw[sW o ho,Aa]at hF;simp only at hF;rw[Aaa (by decide),hd.rL,Aa]at hF;simp only at hF;rw[Aaa (by simp[Ah,Ej,Ac];omega),Wz,OM,Ce hlt2,Aa,Dr,Aa,Aa,GD,Aa]at hF;simp only at hF;rw[hm,d1,Aa]at hF;simp only at hF;rw[RN o ho,Aa]at hT;simp only at hT;rw[Dr,Aa,Es,Aa]at hT;simp only at hT;rw[hd.T9,Aa,Ce hlt2,Aa,Aa,hm]at hT;rw[d2,Aa]at hT;simp only at hT;rw[Dw,Ek]at hT;rw[OZ,EL]at hF;by_cases he:e≠0
  ·rw[Aae (by rw[Ah];simpa using he)]at hT hF;rw[Aa]at hT;simp only at hT;rw[Aae (by rw[Ah];simpa using he)]at hT;rw[Al,Aa]at hF;exact mkE (by omega) hF hT
  ·have he0:e=0:=by simpa using he
   obtain⟨k1,k2,k3⟩:=d3 he0;have hbl:=DU w xs;have ht:((A:Int)).toNat=A:=rfl;rw[ht]at hx;rw[Aaa (by rw[Ah,he0];simp)]at hT hF;rw[PC hb k2 k1,Aa,Aa]at hT;simp only at hT;rw[Aaa (by decide),Bi (by simp;omega),Aa,Apz,Bi,Aa,Aa,Cg,Aa,Aj]at hT;rw[XC hb k2 k1,Aa]at hF;simp only at hF;rw[Aaa (by decide),Bi,Aa,Cg,Aa,Aj]at hF;have e1:((A:Int)+1).toNat=A+1:=rfl;refine .next _ _ _ _ _ _ _ _ _ (by exact hF) hT (.tab _ _ _ _ _ (A+1) hd hpw hg hl rfl (by omega)) ⟨by rw[Ahp];omega,hZ.hg,by rw[e1,Aai];omega⟩ (by rw[Ahp];omega) ?_
   have hne:g≠ []:=by intro e;subst e;simp at g1
   rw[muD,muD,Aaa hd.fnz,Aaa hd.fnz,Aaa hne,Aaa hne,e1,ht];omega
end
theorem yX(hf:FitD o f c w r n g a x)(ho:o.length<=64)(hZ:SzD p g a x):StepR bk o p f c w r n g a x u v:=by
 cases hf with
 |new e1 e2 e3 e4 e5 e6 e7 e8=>subst e1 e2 e3 e4 e5 e6 e7 e8;exact Ai4 hZ.hp
 |head F C W R N h hpw e6 e7 e8=>subst e6 e7 e8;exact Agp h ho hZ.hp hpw
 |tab F C W R N A h hpw ht hl ea hA=>subst ea;exact Ak2 h ho hpw ht hl A hA hZ
end
abbrev Arr:=LB×LB×Int×Int×Int×Int×Int×LI×Int×LB×Bool×Int×Int
def Res(X Y:Option Arr):Prop:=∃(t1 t2:LB) (t3 t4 t5 t6 t7:Int) (t8:LI) (t9:Int) (t10:LB) (t11:Bool) (t12 e:Int),X=some (t1,t2,t3,t4,t5,t6,t7,t8,t9,t10,t11,t12,e)/\Y=some (t1,t2,t3,t4,t5,t6,t7,t8,t9,t10,t11,t12,e)/\t8.length<=2000
theorem Ak6:∀(j:Nat) (b:LB) (a:Nat),(U4 j b a).2=0\/ (U4 j b a).2=38
 |0,_,_=> .inr rfl
 |j+1,b,a=>by
  rw[U4];split
  ·exact .inl rfl
  ·split
   ·exact .inr rfl
   ·exact Ak6 j _ _
theorem M1(b:LB):(Tt b).2=0\/ (Tt b).2=38:=by
 rw[Tt];split
 ·exact .inr rfl
 ·exact Ak6 _ _ _
theorem RS{o p:LB}{f c w r n:Int}{g:LI}{a:Int}{x:LB}{u:Bool}{v:Int}(hp:p.length<=100000)(hg:g.length<=2000)(hx:x.length<=13000000):Nu o p f c w r n g a x u v=some (o,p,f,c,w,r,n,g,a,x,u,v):=by
 rw[Nu,Sm,Bi (by simp;omega),Aa,Bi (by simp;omega),Aa,CO,QU,Bi (by simp;omega),Aa];rfl
theorem Af1{o p:LB}{f c w r n:Int}{g:LI}{a:Int}{x:LB}{u:Bool}{v:Int}(hp:p.length<=100000)(hg:g.length<=2000)(hx:x.length<=13000000):El o p f c w r n g a x u v=some (o,p,f,c,w,r,n,g,a,x,u,v):=by
 rw[El,Nn,Bi (by simp;omega),Aa,Aa,Nn,Bi (by simp;omega),Aa,Aa,Hl,Bi (by simp;omega),Aa,Aa];rfl
theorem eC{o p:LB}{f c w r n:Int}{g:LI}{a:Int}{x:LB}{u:Bool}{v e:Int}(hx:x.length<=13000000):Pj o p f c w r n g a x u v e=some (o,[],0,0,0,0,0,[],0,x,false,e,e):=by
 rw[Pj,Li,Bi (by simp;omega),Aa];rfl
theorem Ake{p:LB}{f:Int}{g:LI}{a:Int}{x:LB}(h:SzD p g a x):muD f g a<1004:=by
 have:=h.hg;unfold muD;split
 ·omega
 ·split<;>omega
section
variable {o p:LB} {f c w r n:Int} {g:LI} {a:Int} {x:LB} {u:Bool} {v:Int} (hp:p.length<=20000) (hg:g.length<=2000) (hx:x.length<=13000000)
include hp hg hx
theorem bU{E:Int}(hE:Qb o p f c w r n g a x u v=some E):Uv o p f c w r n g a x u v=if E≠0 then some ([],[],0,0,0,0,0,[],0,[],false,0,E)else some (o,p,f,c,w,r,n,g,a,x,u,v,if v≠0 then v else if u=true then 36 else 0):=by
 rw[Uv,hE,Aa];by_cases h:E≠0
 ·rw[Aae (by rw[Ah];simpa using h),Aae h]
 rw[Aaa (by rw[Ah];simpa using h),Aaa h,Af1 (by omega) hg (by omega)];by_cases hv:v≠0
 ·rw[Aae (by rw[Ah];simpa using hv),Aae hv,Aa]
 ·rw[Aaa (by rw[Ah];simpa using hv),Aaa hv];cases u<;>simp[Aa]
omit hg hx in
theorem iK:∃e,KH o p f c w r n g a x u v=some e/\Bz o p f c w r n g a x u v=some e:=by
 rw[KH,Bz];by_cases h0:geq f 0=true
 ·rw[Aae h0,Aae h0,Vw p (by omega),EJ p (by omega),Aa,Aa];have hok:=EA (b:=p);simp only;by_cases h2:(Bu p).2≠0
  ·rw[Aae (by rw[Ah];simpa using h2),Aae (by rw[Ah];simpa using h2)];exact⟨_,rfl,rfl⟩
  have h3:(Bu p).2=0:=by simpa using h2
  obtain⟨k1,k2,k3⟩:=hok h3;have hl:(Iv p).length<=p.length:=by rw[Iv,Ahp];omega
  rw[Aaa (by rw[Ah,h3];simp),Aaa (by rw[Ah,h3];simp),Cg,Aa,Aa,show p.drop (Bu p).1.toNat=Iv p from rfl,VA _ (by omega),bL _ (by omega),Aa];exact⟨_,rfl,rfl⟩
 ·rw[Aaa h0,Aaa h0,Bool.or_comm];by_cases h1:(geq (Ac g) 0||Dg a (Ac g))=true
  ·rw[Aae h1,Aae h1];exact⟨_,rfl,rfl⟩
  ·rw[Aaa h1,Aaa h1,uD p (by omega),oY p (by omega),Aa,Aa];simp only;refine⟨(Tt p).2,rfl,?_⟩;rcases M1 p with h|h
   ·rw[Aaa (by rw[h];decide),h]
   ·rw[Aae (by rw[h];decide),h]
theorem Z7:Res (Fg o p f c w r n g a x u v) (Pd o p f c w r n g a x u v):=by
 obtain⟨E,e1,e2⟩:=rE o p f c w r n g a x u v (by omega) (by omega) (by omega);rw[Fg,bU hp hg hx e1,Pd,e2,Aa];by_cases h:E≠0
 ·rw[Aae h,Aa,Aae (by rw[Ah];simpa using h)];simp only;rw[Aae (by rw[Ah];simpa using h)];exact⟨_,_,_,_,_,_,_,_,_,_,_,_,_,rfl,rfl,by simp⟩
 have h0:E=0:=by simpa using h
 subst h0;have hE:¬(Bq (0:Int) 0=true):=by decide
 rw[Aaa h,Aa,Aaa hE,RS (by omega) hg (by omega),Aa];simp only;rw[Hk];by_cases hv:v≠0
 ·have hv':Bq v 0=true:=by rw[Ah];simpa using hv
  rw[Aae hv,Aae hv',Aae hv',Aa,Aae hv'];exact⟨_,_,_,_,_,_,_,_,_,_,_,_,_,rfl,rfl,hg⟩
 have hv':¬(Bq v 0=true):=by rw[Ah];simpa using hv
 rw[Aaa hv,Aaa hv'];obtain⟨e,d1,d2⟩:=iK (o:=o) (f:=f) (c:=c) (w:=w) (r:=r) (n:=n) (a:=a) (u:=u) (v:=v) (g:=g) (x:=x) hp;cases u with
 |true=>
  rw[Aae rfl,Aae rfl,Aa,Aae (by decide),Aae (by decide)];exact⟨_,_,_,_,_,_,_,_,_,_,_,_,_,rfl,rfl,hg⟩
 |false=>
  rw[Aaa (by decide),Aaa (by decide),Aa,Aaa (by decide),d1,d2,Aa,Aa];by_cases he:Bq e 0=true
  ·rw[Aae he,Aae he,eC (by omega),Aa];exact⟨_,_,_,_,_,_,_,_,_,_,_,_,_,rfl,rfl,by simp⟩
  ·rw[Aaa he,Aaa he,Li,Bi (by simp;omega),Aa];exact⟨_,_,_,_,_,_,_,_,_,_,_,_,_,rfl,rfl,by simp⟩
end
theorem ZB{α β:Type}{o:Option α}{f:α->Option β}{r:β}(h:Option.bind o f=some r):∃x,o=some x/\f x=some r:=by
 cases o with
 |none=>cases h
 |some x=>exact⟨x,rfl,h⟩
theorem Alp{α:Type}{l:List α}{i:Int}{x:α}(h:Go.Lv.Ao l i=some x):x∈l:=by
 unfold Go.Lv.Ao at h;split at h
 ·exact List.mem_of_getElem? h
 ·cases h
theorem B0{o p:LB}(q:LB){f c w r n:Int}{g:LI}{a:Int}{x:LB}{u:Bool}{v:Int}{y:LB}{e:Int}(hg:∀z∈g,0<=z)(h:Cp o p f c w r n g a x u v=some (y,e))(he:e≠ -1):Cp o (p++q) f c w r n g a x u v=some (y,e):=by
 rw[Cp,Dv]at h⊢;obtain⟨l,hl,h⟩:=ZB h;have hl0:=hg l (Alp hl);rw[hl,Aa];by_cases hc:(p.length:Int)<l
 ·rw[Aae (by rw[Ae,Ac];simpa using hc)]at h;cases h;exact absurd rfl he
 ·have hc':¬(Dg (Ac (p++q)) l=true):=by rw[Ae,Ac,Aai];simp;omega
  rw[Aaa (by rw[Ae,Ac];simpa using hc)]at h;rw[Aaa hc',Dr hl0 (by rw[Aai];omega),Pc (by omega)];rw[Dr hl0]at h;simpa only[Dw,Ek]using h
theorem zn{f c w r n:Int}{F C W R N:Nat}(hd:HdI f c w r n F C W R N){p:LB}(q:LB)(hp:(p++q).length<=100000){A:Nat}(hA:A<=p.length){k:Int}{l:LI}{e:Int}(h:Dk p f c w r n (A:Int)=some (k,l,e))(he:e≠ -1):
  Dk (p++q) f c w r n (A:Int)=some (k,l,e)/\ (e=0->0<=k/\k<=p.length):=by
 have hp':p.length<=100000:=by rw[Aai]at hp;omega
 obtain⟨_,t2,t3⟩:=sF hd [] p hp' A hA 0 [] false 0;obtain⟨_,s2,_⟩:=sF hd [] (p++q) hp A (by rw[Aai];omega) 0 [] false 0;rw[t2]at h;rw[s2,Awn hA];by_cases h1:(Em (p.drop A) (Ak (Am R) N).length).2=24
 ·rw[Aae h1]at h;cases h;exact absurd rfl he
 ·rw[Aaa h1]at h;rw[Agu q _ h1,Aaa h1];refine⟨h,λe0=>?_⟩;cases h;have:=t3 e0;constructor
  ·omega
  ·exact this
theorem zS{f c w r n:Int}{F C W R N:Nat}(hd:HdI f c w r n F C W R N){o p:LB}(q:LB)(hp:(p++q).length<=100000){k:Int}{l:LI}{e:Int}(h:Dt p f c w r n o=some (k,l,e))(he:e≠ -1):
  Dt (p++q) f c w r n o=some (k,l,e)/\ (e=0->0<=k/\k<=p.length):=by
 rw[Dt,Fu]at h⊢;by_cases hf:geq f 2=true
 ·rw[Aae hf]at h⊢;by_cases h8:p.length<8
  ·rw[Aae (by rw[Ae,Ac];simp;omega)]at h;cases h;exact absurd rfl he
  ·have n1:¬(Dg (Ac p) 8=true):=by rw[Ae,Ac];simp;omega
   have n2:¬(Dg (Ac (p++q)) 8=true):=by rw[Ae,Ac,Aai];simp;omega
   rw[Aaa n1,Dr (by decide),Aa]at h;rw[Aaa n2,Dr (by decide) (by rw[Aai];omega),Aa,Pc (show(8:Int).toNat<=p.length from by simp;omega)];obtain⟨y,hy,h⟩:=ZB h;rw[hy,Aa];by_cases hm:(p.take (8:Int).toNat !=y)=true
   ·rw[Aae hm]at h⊢;cases h;exact⟨rfl,λe=>by cases e⟩
   ·rw[Aaa hm]at h⊢;exact zn hd q hp (A:=8) (by omega) h he
 ·rw[Aaa hf]at h⊢;exact zn hd q hp (A:=0) (by omega) h he
theorem dN{p q af:LB}{n:Int}(h:Bp p n (Ac p)=some af):Bp (p++q) n (Ac (p++q))=some (af++q):=by
 unfold Bp Ac at h⊢;split at h
 ·rename_i hc;cases h;rw[Aae ⟨hc.1,by rw[Aai];omega,by omega⟩];simp only[Al6,Atb];rw[Awn (by omega)]
 ·cases h
theorem jF{o p:LB}(q:LB){f c w r n:Int}{g:LI}{a:Int}{x:LB}{u:Bool}{v:Int}(hf:FitD o f c w r n g a x)(hp:(p++q).length<=100000){t1 t2:LB}{t3 t4 t5 t6 t7:Int}{t8:LI}{t9:Int}{t10:LB}{t11:Bool}{t12 e:Int}
  (h:Ag o p f c w r n g a x u v=some (t1,t2,t3,t4,t5,t6,t7,t8,t9,t10,t11,t12,e)) (he:e≠ -1):
  (e=0->Ag o (p++q) f c w r n g a x u v=some (t1,t2++q,t3,t4,t5,t6,t7,t8,t9,t10,t11,t12,0))/\
  (e≠0->∃(s1 s2:LB) (s3 s4 s5 s6 s7:Int) (s8:LI) (s9:Int) (s10:LB) (s11:Bool) (s12:Int),Ag o (p++q) f c w r n g a x u v=some (s1,s2,s3,s4,s5,s6,s7,s8,s9,s10,s11,s12,e)):=by
 have hp':p.length<=100000:=by rw[Aai]at hp;omega
 have zero:¬(Bq (0:Int) 0=true):=by decide
 rw[Ag,Bk]at h⊢;cases hf with
 |new e1 e2 e3 e4 e5 e6 e7 e8=>
  subst e1;rw[Aae (by decide),CF p hp',Aa]at h;rw[Aae (by decide),CF (p++q) hp,Aa];have hst:(Y4 p).2.2.2.2.2.2≠ -1->Y4 (p++q)=Y4 p:=Am0 q;generalize Y4 p=z at h hst;obtain⟨z1,z2,z3,z4,z5,z6,z7⟩:=z;simp only at h hst;by_cases hz:Bq z7 0=true
  ·rw[Aae hz]at h;simp only[Ab0,Adm]at h;obtain⟨-, -, -, -, -, -, -, -, -, -, -, -,rfl⟩:=h;rw[hst he];simp only;rw[Aae hz];refine⟨λe0=>?_,λ_=>⟨_,_,_,_,_,_,_,_,_,_,_,_,rfl⟩⟩;rw[e0]at hz;exact absurd hz zero
  ·rw[Aaa hz]at h;have z70:z7=0:=by rw[Ah]at hz;simpa using hz
   rw[hst (by rw[z70];decide)];simp only;rw[Aaa hz];obtain⟨af,h1,h⟩:=ZB h;rw[dN h1,Aa];rw[Fm,He]at h⊢;obtain⟨aw,h2,h⟩:=ZB h;rw[h2,Aa];simp only[Ab0,Adm]at h;obtain⟨rfl,rfl,rfl,rfl,rfl,rfl,rfl,rfl,rfl,rfl,rfl,rfl,rfl⟩:=h;exact⟨λe0=>by rw[e0],λ_=>⟨_,_,_,_,_,_,_,_,_,_,_,_,rfl⟩⟩
 |head F C W R N hd hpw e6 e7 e8=>
  subst e6;have hfn:¬(geq f 0=true):=by rw[Aq];simpa using hd.fnz
  rw[Aaa hfn,Br,Bo,Aae (by decide)]at h⊢;obtain⟨⟨k,l,e1⟩,h1,h⟩:=ZB h;simp only at h;by_cases hz:Bq e1 0=true
  ·rw[Aae hz]at h;simp only[Ab0,Adm]at h;obtain⟨-, -, -, -, -, -, -, -, -, -, -, -,rfl⟩:=h;rw[(zS hd q hp h1 he).1,Aa];simp only;rw[Aae hz];refine⟨λe0=>?_,λ_=>⟨_,_,_,_,_,_,_,_,_,_,_,_,rfl⟩⟩;rw[e0]at hz;exact absurd hz zero
  ·rw[Aaa hz]at h;have z70:e1=0:=by rw[Ah]at hz;simpa using hz
   rw[(zS hd q hp h1 (by rw[z70];decide)).1,Aa];simp only;rw[Aaa hz];obtain⟨af,h2,h⟩:=ZB h;rw[dN h2,Aa];simp only[Ab0,Adm]at h;obtain⟨rfl,rfl,rfl,rfl,rfl,rfl,rfl,rfl,rfl,rfl,rfl,rfl,rfl⟩:=h;exact⟨λe0=>rfl,λe0=>absurd rfl e0⟩
 |tab F C W R N A hd hpw ht hl ea hA=>
  have hfn:¬(geq f 0=true):=by rw[Aq];simpa using hd.fnz
  have ht':=ht;rw[HR,Aag,Aaf]at ht';have hgl:¬(geq (Ac g) 0=true):=by
   intro e;rw[Aq,Ac]at e;have hl1:=ht'.1.1;simp only[Asc,Aaf]at e;omega
  rw[Aaa hfn,Br,Bo,Aaa hgl]at h⊢;by_cases hend:geq a (Ac g)=true
  ·rw[Aae hend]at h⊢;by_cases hm:Fb (Ac p) 4000=true
   ·have hm':Fb (Ac (p++q)) 4000=true:=by rw[Ap,Ac]at hm⊢;simp only[Aaf]at hm⊢;rw[Aai];omega
    rw[Aae hm]at h;rw[Aae hm'];simp only[Ab0,Adm]at h;obtain⟨-, -, -, -, -, -, -, -, -, -, -, -,rfl⟩:=h;exact⟨(λe0=>by cases e0),λ_=>⟨_,_,_,_,_,_,_,_,_,_,_,_,rfl⟩⟩
   ·rw[Aaa hm]at h;simp only[Ab0,Adm]at h;obtain⟨-, -, -, -, -, -, -, -, -, -, -, -,rfl⟩:=h;exact absurd rfl he
  ·rw[Aaa hend]at h⊢;have hpos:∀z∈g,0<=z:=by
    have:=(UO g 100000 (by omega)).1 ht'.2;intro z hz;have:=this.1 z hz;omega
   obtain⟨⟨y,e1⟩,h1,h⟩:=ZB h;simp only at h;by_cases hz:Bq e1 0=true
   ·rw[Aae hz]at h;simp only[Ab0,Adm]at h;obtain⟨-, -, -, -, -, -, -, -, -, -, -, -,rfl⟩:=h;rw[B0 q hpos h1 he,Aa];simp only;rw[Aae hz];refine⟨λe0=>?_,λ_=>⟨_,_,_,_,_,_,_,_,_,_,_,_,rfl⟩⟩;rw[e0]at hz;exact absurd hz zero
   ·rw[Aaa hz]at h;have z70:e1=0:=by rw[Ah]at hz;simpa using hz
    rw[B0 q hpos h1 (by rw[z70];decide),Aa];simp only;rw[Aaa hz];obtain⟨an,h2,h⟩:=ZB h;rw[h2,Aa];obtain⟨ah,h3,h⟩:=ZB h;rw[h3,Aa];obtain⟨ad,h4,h⟩:=ZB h;rw[h4,Aa];obtain⟨ae,h5,h⟩:=ZB h;rw[dN h5,Aa];simp only[Ab0,Adm]at h;obtain⟨rfl,rfl,rfl,rfl,rfl,rfl,rfl,rfl,rfl,rfl,rfl,rfl,rfl⟩:=h;exact⟨λe0=>rfl,λe0=>absurd rfl e0⟩
def Aus(o:LB)(K:Nat)(u:Bool)(v:Int)(X Y:Option Arr):Prop:=∃(t1 t2:LB) (t3 t4 t5 t6 t7:Int) (t8:LI) (t9:Int) (t10:LB) (t11:Bool) (t12 e:Int),X=some (t1,t2,t3,t4,t5,t6,t7,t8,t9,t10,t11,t12,e)/\Y=some (t1,t2,t3,t4,t5,t6,t7,t8,t9,t10,t11,t12,e)/\t10.length<=13000000/\
 (e=0->t1=o/\t2.length<=K/\FitD o t3 t4 t5 t6 t7 t8 t9 t10/\SzD t2 t8 t9 t10/\t11=u/\t12=v)
theorem zU(K:Nat):∀(k q1 q2:Nat) (o p:LB) (f c w r n:Int) (g:LI) (a:Int) (x:LB) (u:Bool) (v:Int),FitD o f c w r n g a x->o.length<=64->SzD p g a x->p.length<=K->muD f g a<k->k<=q1->k<=q2->
  Aus o K u v (Bf o u v q1 p f c w r n a g x) (Bg q2 o p f c w r n g a x u v)
 |0,_,_,_,_,_,_,_,_,_,_,_,_,_,_,_,_,_,_,h,_,_=>by omega
 |k+1,q1,q2,o,p,f,c,w,r,n,g,a,x,u,v,hf,ho,hZ,hK,hm,h1,h2=>by
  obtain⟨q1,rfl⟩:∃q,q1=q+1:=⟨q1-1,by omega⟩;obtain⟨q2,rfl⟩:∃q,q2=q+1:=⟨q2-1,by omega⟩;have hx:x.length<=13000000:=by have:=hZ.hx;omega
  rw[Bf,Bg,Cc];have hS:StepR (Bf o u v q1) o p f c w r n g a x u v:=yX hf ho hZ;cases hS with
  |wait hF hT=>
   rw[hT,Aa];simp only;rw[Aae (by decide),RS hZ.hp (by have:=hZ.hg;omega) hx,Aa];exact⟨_,_,_,_,_,_,_,_,_,_,_,_,_,hF,rfl,hx,λ_=>⟨rfl,hK,hf,hZ,rfl,rfl⟩⟩
  |err e he hF hT=>
   rw[hT,Aa];simp only;rw[Aaa (by rw[dV (by omega)];decide),Aae (by rw[Ah];simp;omega),eC hx,Aa];exact⟨_,_,_,_,_,_,_,_,_,_,_,_,_,hF,rfl,hx,λh=>absurd h (by omega)⟩
  |next p' f' c' w' r' n' g' a' x' hF hT hf' hZ' hle hmu=>
   rw[hT,Aa];simp only;rw[Aaa (by decide),Aaa (by decide)];have ih:=zU K k q1 q2 o p' f' c' w' r' n' g' a' x' u v hf' ho hZ' (by omega) (by omega) (by omega) (by omega);have hF':Jw (Qh (Bf o u v q1) o u v) (Wa (Bf o u v q1) o u v) (Mv (Bf o u v q1) o u v) (Wc (Bf o u v q1) o u v) (Mx (Bf o u v q1) o u v) (Qg (Bf o u v q1) o u v) (Wz (Bf o u v q1) o u v) (Cr (Bf o u v q1) o u v) (ER (Bf o u v q1) o u v) o u v p f c w r n a g x=Bf o u v q1 p' f' c' w' r' n' a' g' x':=hF;rw[hF'];exact ih
theorem Auo{o p:LB}{f c w r n:Int}{g:LI}{a:Int}{x:LB}(ho:o.length<=64)(hf:FitD o f c w r n g a x)(hZ:SzD p g a x)(b:LB)(hp:p.length<=20000)(hb:b.length<=20000):
  Aus o (p.length+b.length) false 0 (Kz o p f c w r n g a x false 0 b) (Gj o p f c w r n g a x false 0 b):=by
 have hx:x.length<=13000000:=by have:=hZ.hx;omega
 have hg:g.length<=2000:=by have:=hZ.hg;omega
 obtain⟨E,e1,e2⟩:=rE o p f c w r n g a x false 0 (by omega) (by omega) (by omega);rw[Kz,Yt,bU hp hg hx e1,Gj,Nr,e2,Aa];by_cases h:E≠0
 ·rw[Aae h,Aa,Aae (by rw[Ah];simpa using h)];simp only;rw[Aae (by rw[Ah];simpa using h)];exact⟨_,_,_,_,_,_,_,_,_,_,_,_,_,rfl,rfl,by simp,λh'=>absurd h' h⟩
 have h0:E=0:=by simpa using h
 subst h0;have hE:¬(Bq (0:Int) 0=true):=by decide
 rw[Aaa h,Aa,Aaa hE,RS (by omega) hg (by omega),Aa];simp only;have hF:¬(false=true):=by decide
 rw[Hk,Aaa (show ¬((0:Int)≠0)from λh=>h rfl),Aaa hF]
 repeat (first|rw[Aa]|rw[Aaa hE]|rw[Aaa hF])
 rw[Bi];rw[Aa,Aa];have hZ':SzD (p++b) g a x:=⟨by rw[Aai];omega,hZ.hg,hZ.hx⟩;exact zU _ 1004 Ba Ba o (p++b) f c w r n g a x false 0 hf ho hZ' (by rw[Aai];exact Alw _) (Ake hZ') (by have:=Ax;omega) (by have:=Ax;omega)
def OutB(f c w r n:Int)(g:LI)(a:Int)(x:LB):Prop:=∀(F C W R N A:Nat),HdI f c w r n F C W R N->g≠ []->a=(A:Int)-> (x.length:Int)<=JF C W (Ak (Am R) N) A
theorem OutB.nil{f c w r n:Int}{a:Int}{x:LB}:OutB f c w r n [] a x:=λ_ _ _ _ _ _ _ h=>absurd rfl h
theorem OutB.zero{f c w r n:Int}{g:LI}:OutB f c w r n g 0 []:=λF C W R N A h hg ha=>by
 obtain rfl:A=0:=by omega
 rw[Abn];simp
theorem Acj{o p:LB}{f c w r n:Int}{F C W R N:Nat}(hd:HdI f c w r n F C W R N)(ho:o.length<=64)(hp:p.length<=100000){g:LI}(ht:HR g=true)(hl:g.length=(Ak (Am R) N).length){A:Nat}(hA:A<g.length){x:LB}{u:Bool}{v:Int}{y:LB}{e:Int}
  (h:Cp o p f c w r n g (A:Int) x u v=some (y,e)) (he:e=0):∃m:Nat,(Ak (Am R) N)[A]'(by omega)=(m:Int)/\y.length=m*C*wB (W:Int):=by
 subst he;have hlt2:A<(Ak (Am R) N).length:=by omega
 have GV:=hd.num;rw[HR,Aag,Aaf,UO g 100000 (by omega)]at ht;obtain⟨ht1,g5,gs⟩:=ht;have h5:=g5 g[A] (Anw hA);rw[Cp,Dv,Ce hA,Aa]at h;by_cases hw:(p.length:Int)<g[A]
 ·rw[Aae (by rw[Ae,Ac];simpa using hw)]at h;cases h
 rw[Aaa (by rw[Ae,Ac];simpa using hw)]at h;obtain⟨m,hm,m1,m2⟩:=Xj (Iy R) GV.2.2.2.2.1 (Anw hlt2);have hb:Bn w:=by rw[hd.ew];unfold Bn;omega
 obtain⟨xs,e,d1,d2,d3,d4⟩:=RD (bits:=w) (ch:=C) (n:=m) (t:=DF o) (p.take g[A].toNat) hb (Ui o) GV.2.1.1 GV.2.1.2 m1 (by omega);rw[RN o ho,Aa]at h;simp only at h;rw[Dr,Aa,Es,Aa]at h;simp only at h;rw[hd.T9,Aa,Ce hlt2,Aa,Aa,hm,hd.ec]at h;rw[d2,Aa]at h;simp only at h;rw[Dw,Ek]at h;by_cases he:e≠0
 ·rw[Aae (by rw[Ah];simpa using he)]at h;cases h;exact absurd rfl he
 ·have he0:e=0:=by simpa using he
  obtain⟨k1,k2,k3⟩:=d3 he0;rw[Aaa (by rw[Ah,he0];simp),PC hb k2 k1,Aa]at h;cases h;refine⟨m,hm,?_⟩;rw[IG hb,k3,hd.ew]
theorem Akt{o p:LB}{f c w r n:Int}{g:LI}{a:Int}{x:LB}{u:Bool}{v:Int}(hf:FitD o f c w r n g a x)(ho:o.length<=64)(hZ:SzD p g a x)(hO:OutB f c w r n g a x){t1 t2:LB}{t3 t4 t5 t6 t7:Int}{t8:LI}{t9:Int}{t10:LB}{t11:Bool}{t12:Int}
  (h:Ag o p f c w r n g a x u v=some (t1,t2,t3,t4,t5,t6,t7,t8,t9,t10,t11,t12,0)):OutB t3 t4 t5 t6 t7 t8 t9 t10:=by
 have hp':=hZ.hp;have zero:¬(Bq (0:Int) 0=true):=by decide
 rw[Ag,Bk]at h;cases hf with
 |new e1 e2 e3 e4 e5 e6 e7 e8=>
  subst e1 e6 e7 e8;rw[Aae (by decide),CF p hp',Aa]at h;generalize Y4 p=z at h;obtain⟨z1,z2,z3,z4,z5,z6,z7⟩:=z;simp only at h;by_cases hz:Bq z7 0=true
  ·rw[Aae hz]at h;simp only[Ab0,Adm]at h;obtain⟨-, -, -, -, -, -, -,rfl, -⟩:=h;exact OutB.nil
  ·rw[Aaa hz]at h;obtain⟨af,h1,h⟩:=ZB h;rw[Fm,He]at h;obtain⟨aw,h2,h⟩:=ZB h;simp only[Ab0,Adm]at h;obtain⟨-, -, -, -, -, -, -,rfl, -⟩:=h;exact OutB.nil
 |head F C W R N hd hpw e6 e7 e8=>
  subst e6 e7 e8;have hfn:¬(geq f 0=true):=by rw[Aq];simpa using hd.fnz
  rw[Aaa hfn,Br,Bo,Aae (by decide)]at h;obtain⟨⟨k,l,e1⟩,h1,h⟩:=ZB h;simp only at h;by_cases hz:Bq e1 0=true
  ·rw[Aae hz]at h;simp only[Ab0,Adm]at h;obtain⟨-, -, -, -, -, -, -,rfl, -⟩:=h;exact OutB.nil
  ·rw[Aaa hz]at h;obtain⟨af,h2,h⟩:=ZB h;simp only[Ab0,Adm]at h;obtain⟨-, -, -, -, -, -, -, -,rfl,rfl, -⟩:=h;exact OutB.zero
 |tab F C W R N A hd hpw ht hl ea hA=>
  subst ea;have hfn:¬(geq f 0=true):=by rw[Aq];simpa using hd.fnz
  have ht':=ht;rw[HR,Aag,Aaf]at ht';have hgl:¬(geq (Ac g) 0=true):=by
   intro e;rw[Aq,Ac]at e;have hl1:=ht'.1.1;simp only[Asc,Aaf]at e;omega
  have hne:g≠ []:=by intro e;subst e;simp at ht'
  rw[Aaa hfn,Br,Bo,Aaa hgl]at h;by_cases hend:geq (A:Int) (Ac g)=true
  ·rw[Aae hend]at h;by_cases hm:Fb (Ac p) 4000=true
   ·rw[Aae hm]at h;simp only[Ab0,Adm]at h;exact absurd h.2.2.2.2.2.2.2.2.2.2.2.2 (by decide)
   ·rw[Aaa hm]at h;simp only[Ab0,Adm]at h;exact absurd h.2.2.2.2.2.2.2.2.2.2.2.2 (by decide)
  ·rw[Aaa hend]at h;have hlt:A<g.length:=by
    rw[Aq,Ac]at hend;simp only[Asc]at hend;omega
   obtain⟨⟨y,e1⟩,h1,h⟩:=ZB h;simp only at h;by_cases hz:Bq e1 0=true
   ·rw[Aae hz]at h;simp only[Ab0,Adm]at h;have:=h.2.2.2.2.2.2.2.2.2.2.2.2;rw[this]at hz;exact absurd hz zero
   ·rw[Aaa hz]at h;have z70:e1=0:=by rw[Ah]at hz;simpa using hz
    obtain⟨m,hm,hy⟩:=Acj hd ho hp' ht hl hlt h1 z70;obtain⟨an,h2,h⟩:=ZB h;obtain⟨ah,h3,h⟩:=ZB h;obtain⟨ad,h4,h⟩:=ZB h;obtain⟨ae,h5,h⟩:=ZB h;simp only[Ab0,Adm]at h;obtain⟨-, -,rfl,rfl,rfl,rfl,rfl,rfl,rfl,rfl, -⟩:=h;intro F' C' W' R' N' A' hd' _ ha';have eqs:C'=C/\W'=W/\R'=R/\N'=N:=by
     have q1:=hd.ec.symm.trans hd'.ec;have q2:=hd.ew.symm.trans hd'.ew;have q3:=hd.er.symm.trans hd'.er;have q4:=hd.en.symm.trans hd'.en;omega
    obtain⟨rfl,rfl,rfl,rfl⟩:=eqs;have hold:=hO F C' W' R' N' A hd hne rfl;have e2:Af (A:Int) 1=((A+1:Nat):Int):=by rw[Aj];omega
    rw[e2]at ha';obtain rfl:A'=A+1:=by omega
    have hah:ah.length=x.length+y.length:=by
     unfold Cz at h2 h3;split at h2
     ·cases h2;split at h3
      ·cases h3;simp
      ·cases h3
     ·cases h2
    have hpos:∀z∈Ak (Am R') N',0<=z:=by
     intro z hz;obtain⟨m,hm,m1,m2⟩:=Xj (Iy R') hd.num.2.2.2.2.1 hz;omega
    rw[Abm C' W' hpos (by omega) hm,hah,hy];omega
theorem yU{o p:LB}{f c w r n:Int}{g:LI}{a:Int}{x:LB}(hf:FitD o f c w r n g a x)(ho:o.length<=64)(hO:OutB f c w r n g a x){t1 t2:LB}{t3 t4 t5 t6 t7:Int}{t8:LI}{t9:Int}{t10:LB}{t11:Bool}{t12:Int}
  (h:Ag o p f c w r n g a x false 0=some (t1,t2,t3,t4,t5,t6,t7,t8,t9,t10,t11,t12, -1)):Dh o p f c w r n g a x false 0=some 0:=by
 have h4:Cf o p f c w r n g a x false 0=some true:=by
  rw[Cf,AN,h,Aa];rfl
 have hr:Js o p f c w r n g a x false 0=some true:=by
  rw[Js,Rp];cases hf with
  |new e1 e2 e3 e4 e5 e6 e7 e8=>
   subst e1 e2 e3 e4 e5 e6 e7 e8;rw[Aae (by decide),Aaa (by decide)];exact h4
  |head F C W R N hd hpw e6 e7 e8=>
   subst e6 e7 e8;have hz:¬(((geq f 0)&&((geq c 0)&&((geq w 0)&&((geq r 0)&&((geq n 0)&&true)))))=true):=by
    simp only[Aag,Aq,Asc,Ayb];exact λe=>hd.fnz e.1
   have hff:geq f 1=decide (F=1):=by rw[hd.ef,Aq,Ahq];simp;omega
   rw[Aaa hz,hd.check,Aa,Aaa (by decide),Eb,hff,hpw,Aaa (by simp),Aa,Aaa (by decide),Mm,Ml,Aae (by decide),Aaa (by decide)];exact h4
  |tab F C W R N A hd hpw ht hl ea hA=>
   subst ea;have hz:¬(((geq f 0)&&((geq c 0)&&((geq w 0)&&((geq r 0)&&((geq n 0)&&true)))))=true):=by
    simp only[Aag,Aq,Asc,Ayb];exact λe=>hd.fnz e.1
   have hff:geq f 1=decide (F=1):=by rw[hd.ef,Aq,Ahq];simp;omega
   have ht':=ht;rw[HR,Aag,Aaf]at ht';have hgl:¬(geq (Ac g) 0=true):=by
    intro e;rw[Aq,Ac]at e;have hl1:=ht'.1.1;simp only[Asc,Aaf]at e;omega
   have hne:g≠ []:=by intro e;subst e;simp at ht'
   have hout:=hO F C W R N A hd hne rfl;rw[Aaa hz,hd.check,Aa,Aaa (by decide),Eb,hff,hpw,Aaa (by simp),Aa,Aaa (by decide),Mm,Ml,Aaa hgl,aE,Aa,Aae ht,Aaa (by decide),hd.T9,Aa];rw[Aaa (by simp[Ah,Ae,Ap,Ac];omega)];obtain⟨rfl,rfl,rfl,rfl,rfl,hs,hfit⟩:=hd;rw[Z6 hs hfit A (by omega),Aa,Aaa (by rw[Ap,Ac];simp;omega)];exact h4
 have hO':¬(Fb (Ac o) 64=true):=by rw[Ap,Ac];simp;omega
 rw[Dh,Aaa hO',Aae (by decide),hr,Aa];rfl
theorem Af8{o p:LB}{f c w r n:Int}{F C W R N:Nat}(hd:HdI f c w r n F C W R N)(ho:o.length<=64)(hp:p.length<=100000){g:LI}(ht:HR g=true)(hl:g.length=(Ak (Am R) N).length){A:Nat}(hA:A<g.length){x:LB}{u:Bool}{v:Int}{y:LB}{e:Int}
  (h:Cp o p f c w r n g (A:Int) x u v=some (y,e)) (he:e≠ -1):Cd e:=by
 have hlt2:A<(Ak (Am R) N).length:=by omega
 have GV:=hd.num;rw[HR,Aag,Aaf,UO g 100000 (by omega)]at ht;obtain⟨ht1,g5,gs⟩:=ht;have h5:=g5 g[A] (Anw hA);rw[Cp,Dv,Ce hA,Aa]at h;by_cases hw:(p.length:Int)<g[A]
 ·rw[Aae (by rw[Ae,Ac];simpa using hw)]at h;cases h;exact absurd rfl he
 rw[Aaa (by rw[Ae,Ac];simpa using hw)]at h;obtain⟨m,hm,m1,m2⟩:=Xj (Iy R) GV.2.2.2.2.1 (Anw hlt2);have hb:Bn w:=by rw[hd.ew];unfold Bn;omega
 obtain⟨xs,e',d1,d2,d3,d4⟩:=RD (bits:=w) (ch:=C) (n:=m) (t:=DF o) (p.take g[A].toNat) hb (Ui o) GV.2.1.1 GV.2.1.2 m1 (by omega);have hcd:=N1 hb (Ui o) GV.2.1.1 GV.2.1.2 m1 (by omega) d2;rw[RN o ho,Aa]at h;simp only at h;rw[Dr,Aa,Es,Aa]at h;simp only at h;rw[hd.T9,Aa,Ce hlt2,Aa,Aa,hm,hd.ec]at h;rw[d2,Aa]at h;simp only at h;rw[Dw,Ek]at h;by_cases he:e'≠0
 ·rw[Aae (by rw[Ah];simpa using he)]at h;cases h;exact hcd
 ·have he0:e'=0:=by simpa using he
  obtain⟨k1,k2,k3⟩:=d3 he0;rw[Aaa (by rw[Ah,he0];simp),PC hb k2 k1,Aa]at h;cases h;exact .inl rfl
theorem Adb{f c w r n:Int}{F C W R N:Nat}(hd:HdI f c w r n F C W R N){p:LB}(hp:p.length<=100000){A:Nat}(hA:A<=p.length){k:Int}{l:LI}{e:Int}(h:Dk p f c w r n (A:Int)=some (k,l,e))(he:e≠ -1):Cd e:=by
 obtain⟨_,t2,t3⟩:=sF hd [] p hp A hA 0 [] false 0;rw[t2]at h;by_cases h1:(Em (p.drop A) (Ak (Am R) N).length).2=24
 ·rw[Aae h1]at h;cases h;exact absurd rfl he
 ·rw[Aaa h1]at h;cases h;exact Alm _ (zO hd.fit)
theorem Ae4{f c w r n:Int}{F C W R N:Nat}(hd:HdI f c w r n F C W R N){o p:LB}(hp:p.length<=100000){k:Int}{l:LI}{e:Int}(h:Dt p f c w r n o=some (k,l,e))(he:e≠ -1):Cd e:=by
 rw[Dt,Fu]at h;by_cases hf:geq f 2=true
 ·rw[Aae hf]at h;by_cases h8:p.length<8
  ·rw[Aae (by rw[Ae,Ac];simp;omega)]at h;cases h;exact absurd rfl he
  ·have n1:¬(Dg (Ac p) 8=true):=by rw[Ae,Ac];simp;omega
   rw[Aaa n1]at h;obtain⟨z,hz,h⟩:=ZB h;obtain⟨y,hy,h⟩:=ZB h;by_cases hm:(z !=y)=true
   ·rw[Aae hm]at h;cases h;decide
   ·rw[Aaa hm]at h;exact Adb hd hp (A:=8) (by omega) h he
 ·rw[Aaa hf]at h;exact Adb hd hp (A:=0) (by omega) h he
theorem Aq6(p:LB):(Y4 p).2.2.2.2.2.2= -1\/Cd (Y4 p).2.2.2.2.2.2:=by
 unfold Y4
 repeat' split
 ·exact .inl rfl
 ·exact .inr (rZ p)
 ·exact .inl rfl
 ·exact .inl rfl
 ·exact .inr (E3 _)
theorem Aoq{o p:LB}{f c w r n:Int}{g:LI}{a:Int}{x:LB}{u:Bool}{v:Int}(hf:FitD o f c w r n g a x)(ho:o.length<=64)(hp':p.length<=100000){t1 t2:LB}{t3 t4 t5 t6 t7:Int}{t8:LI}{t9:Int}{t10:LB}{t11:Bool}{t12 e:Int}
  (h:Ag o p f c w r n g a x u v=some (t1,t2,t3,t4,t5,t6,t7,t8,t9,t10,t11,t12,e)) (he:e≠ -1):Cd e:=by
 have zero:¬(Bq (0:Int) 0=true):=by decide
 rw[Ag,Bk]at h;cases hf with
 |new e1 e2 e3 e4 e5 e6 e7 e8=>
  subst e1 e6 e7 e8;rw[Aae (by decide),CF p hp',Aa]at h;have hcd:=Aq6 p;generalize Y4 p=z at h hcd;obtain⟨z1,z2,z3,z4,z5,z6,z7⟩:=z;simp only at h hcd;by_cases hz:Bq z7 0=true
  ·rw[Aae hz]at h;simp only[Ab0,Adm]at h;obtain⟨-, -, -, -, -, -, -, -, -, -, -, -,rfl⟩:=h;exact hcd.resolve_left he
  ·rw[Aaa hz]at h;obtain⟨af,h1,h⟩:=ZB h;rw[Fm,He,Eb]at h;obtain⟨aw,h2,h⟩:=ZB h;simp only[Ab0,Adm]at h;obtain⟨-, -, -, -, -, -, -, -, -, -, -, -,rfl⟩:=h;split at h2
   ·cases h2;decide
   ·cases h2;decide
 |head F C W R N hd hpw e6 e7 e8=>
  subst e6 e7 e8;have hfn:¬(geq f 0=true):=by rw[Aq];simpa using hd.fnz
  rw[Aaa hfn,Br,Bo,Aae (by decide)]at h;obtain⟨⟨k,l,e1⟩,h1,h⟩:=ZB h;simp only at h;by_cases hz:Bq e1 0=true
  ·rw[Aae hz]at h;simp only[Ab0,Adm]at h;obtain⟨-, -, -, -, -, -, -, -, -, -, -, -,rfl⟩:=h;exact Ae4 hd hp' h1 he
  ·rw[Aaa hz]at h;obtain⟨af,h2,h⟩:=ZB h;simp only[Ab0,Adm]at h;obtain⟨-, -, -, -, -, -, -, -, -, -, -, -,rfl⟩:=h;exact .inl rfl
 |tab F C W R N A hd hpw ht hl ea hA=>
  subst ea;have hfn:¬(geq f 0=true):=by rw[Aq];simpa using hd.fnz
  have ht':=ht;rw[HR,Aag,Aaf]at ht';have hgl:¬(geq (Ac g) 0=true):=by
   intro e;rw[Aq,Ac]at e;have hl1:=ht'.1.1;simp only[Asc,Aaf]at e;omega
  rw[Aaa hfn,Br,Bo,Aaa hgl]at h;by_cases hend:geq (A:Int) (Ac g)=true
  ·rw[Aae hend]at h;by_cases hm:Fb (Ac p) 4000=true
   ·rw[Aae hm]at h;simp only[Ab0,Adm]at h;obtain⟨-, -, -, -, -, -, -, -, -, -, -, -,rfl⟩:=h;decide
   ·rw[Aaa hm]at h;simp only[Ab0,Adm]at h;exact absurd h.2.2.2.2.2.2.2.2.2.2.2.2.symm he
  ·rw[Aaa hend]at h;have hlt:A<g.length:=by
    rw[Aq,Ac]at hend;simp only[Asc]at hend;omega
   obtain⟨⟨y,e1⟩,h1,h⟩:=ZB h;simp only at h;by_cases hz:Bq e1 0=true
   ·rw[Aae hz]at h;simp only[Ab0,Adm]at h;obtain⟨-, -, -, -, -, -, -, -, -, -, -, -,rfl⟩:=h;exact Af8 hd ho hp' ht hl hlt h1 he
   ·rw[Aaa hz]at h;obtain⟨an,h2,h⟩:=ZB h;obtain⟨ah,h3,h⟩:=ZB h;obtain⟨ad,h4,h⟩:=ZB h;obtain⟨ae,h5,h⟩:=ZB h;simp only[Ab0,Adm]at h;obtain⟨-, -, -, -, -, -, -, -, -, -, -, -,rfl⟩:=h;exact .inl rfl
theorem Ai9{o:LB}{f c w r n:Int}{g:LI}{a:Int}{x:LB}(hf:FitD o f c w r n g a x)(hO:OutB f c w r n g a x):x.length<=12000:=by
 cases hf with
 |new e1 e2 e3 e4 e5 e6 e7 e8=>subst e8;simp
 |head F C W R N hd hpw e6 e7 e8=>subst e8;simp
 |tab F C W R N A hd hpw ht hl ea hA=>
  have hne:g≠ []:=by intro e;subst e;simp[HR]at ht
  have h:=hO F C W R N A hd hne ea;obtain⟨g1,g2,g3⟩:=PK hd.shape hd.fit;have b:=eT g1 A;have GV:=hd.num;have hw:=(mR (W:Int)).2;have hN:N*C<=4000:=by
   have h1:=Ab5 C GV.2.2.2.2.2.1;have h2:=Atd 4000 C;omega
  have hs:((Ak (Am R) N).take A).sum.toNat<=N:=by omega
  rw[JF]at h;have hb:((Ak (Am R) N).take A).sum.toNat*(C*wB (W:Int))<=4000*3:=by
   have h1:=Ab5 (C*wB (W:Int)) hs;have h2:=Aul hN hw;rw[<-Av3 N]at h1;omega
  omega
theorem J8{o x:LB}{e:Int}(ho:o.length<=64)(hx:x.length<=12000)(he:Cd e)(h0:0<e):Dh o [] 0 0 0 0 0 [] 0 x false e=some 0:=by
 have hO':¬(Fb (Ac o) 64=true):=by rw[Ap,Ac];simp;omega
 have hX:Fb (Ac x) 12000=false:=by rw[Ap,Ac];simp;omega
 rw[Dh,Aaa hO',Aaa (by rw[Aq];simp;omega),Aae (by decide),hX,Aaa (by decide),Aae (by rw[Ah];simp;omega),Aaa (by decide)];obtain rfl|rfl|rfl|rfl|rfl|rfl|rfl|rfl:=he
 ·omega
 all_goals rfl
theorem I7:∀(k q1 q2:Nat) (o p:LB) (f c w r n:Int) (g:LI) (a:Int) (x:LB) (u:Bool) (v:Int),FitD o f c w r n g a x->o.length<=64->SzD p g a x->muD f g a<k->k<=q1->k<=q2->
  Bg q1 o p f c w r n g a x u v=Bg q2 o p f c w r n g a x u v
 |0,_,_,_,_,_,_,_,_,_,_,_,_,_,_,_,_,_,h,_,_=>by omega
 |k+1,q1,q2,o,p,f,c,w,r,n,g,a,x,u,v,hf,ho,hZ,hm,h1,h2=>by
  obtain⟨q1,rfl⟩:∃q,q1=q+1:=⟨q1-1,by omega⟩;obtain⟨q2,rfl⟩:∃q,q2=q+1:=⟨q2-1,by omega⟩;rw[Bg,Bg,Cc,Cc];have hS:StepR (Bf o u v q1) o p f c w r n g a x u v:=yX hf ho hZ;cases hS with
  |wait hF hT=>
   rw[hT,Aa,Aa];simp only;rw[Aae (by decide),Aae (by decide)]
  |err e he hF hT=>
   rw[hT,Aa,Aa];simp only;rw[Aaa (by rw[dV (by omega)];decide),Aae (by rw[Ah];simp;omega),Aaa (by rw[dV (by omega)];decide),Aae (by rw[Ah];simp;omega)]
  |next p' f' c' w' r' n' g' a' x' hF hT hf' hZ' hle hmu=>
   rw[hT,Aa,Aa];simp only;rw[Aaa (by decide),Aaa (by decide),Aaa (by decide),Aaa (by decide)];exact I7 k q1 q2 o p' f' c' w' r' n' g' a' x' u v hf' ho hZ' (by omega) (by omega) (by omega)
structure Wt (o p:LB) (f c w r n:Int) (g:LI) (a:Int) (x:LB):Prop where
 fit:FitD o f c w r n g a x
 sz:SzD p g a x
 out:OutB f c w r n g a x
 wait:Ag o p f c w r n g a x false 0=some (o,p,f,c,w,r,n,g,a,x,false,0, -1)
abbrev Lk(q:Nat)(o p:LB)(f c w r n:Int)(g:LI)(a:Int)(x:LB):=Bg q o p f c w r n g a x false 0
theorem sw:∀(k q:Nat) (o p:LB) (f c w r n:Int) (g:LI) (a:Int) (x:LB),FitD o f c w r n g a x->o.length<=64->SzD p g a x->OutB f c w r n g a x->p.length<=100000->muD f g a<k->k<=q->
  (∃(t2:LB) (t3 t4 t5 t6 t7:Int) (t8:LI) (t9:Int) (t10:LB),Lk q o p f c w r n g a x=some (o,t2,t3,t4,t5,t6,t7,t8,t9,t10,false,0,0)/\Wt o t2 t3 t4 t5 t6 t7 t8 t9 t10/\t2.length<=p.length/\muD t3 t8 t9<k/\
   ∀b:LB,(p++b).length<=100000->Lk q o (p++b) f c w r n g a x=Lk q o (t2++b) t3 t4 t5 t6 t7 t8 t9 t10)\/
  (∃(x':LB) (e:Int),0<e/\Cd e/\x'.length<=12000/\∀b:LB,(p++b).length<=100000->Lk q o (p++b) f c w r n g a x=some (o,[],0,0,0,0,0,[],0,x',false,e,e))
 |0,_,_,_,_,_,_,_,_,_,_,_,_,_,_,_,_,h,_=>by omega
 |k+1,q,o,p,f,c,w,r,n,g,a,x,hf,ho,hZ,hO,hp,hm,h1=>by
  obtain⟨q,rfl⟩:∃q',q=q'+1:=⟨q-1,by omega⟩;have hx:x.length<=13000000:=by have:=hZ.hx;omega
  have hS:StepR (Bf o false 0 q) o p f c w r n g a x false 0:=yX hf ho hZ;cases hS with
  |wait hF hT=>
   refine .inl ⟨p,f,c,w,r,n,g,a,x,?_,⟨hf,hZ,hO,hT⟩,Alw _,hm,λb _=>rfl⟩;rw[Lk,Bg,Cc,hT,Aa];simp only;rw[Aae (by decide),RS hZ.hp (by have:=hZ.hg;omega) hx,Aa]
  |err e he hF hT=>
   refine .inr ⟨x,e,he,Aoq hf ho hp hT (by omega),Ai9 hf hO,λb hL=>?_⟩;obtain⟨s1,s2,s3,s4,s5,s6,s7,s8,s9,s10,s11,s12,hs⟩:=(jF b hf hL hT (by omega)).2 (by omega);rw[Lk,Bg,Cc,hs,Aa];simp only;rw[Aaa (by rw[dV (by omega)];decide),Aae (by rw[Ah];simp;omega),eC hx,Aa]
  |next p' f' c' w' r' n' g' a' x' hF hT hf' hZ' hle hmu=>
   have hp':p'.length<=100000:=by omega
   rcases sw k q o p' f' c' w' r' n' g' a' x' hf' ho hZ' (Akt hf ho hZ hO hT) hp' (by omega) (by omega)with⟨t2,t3,t4,t5,t6,t7,t8,t9,t10,k1,k2,k3,k4,k5⟩|⟨x2,e,k1,k2,k3,k4⟩
   ·refine .inl ⟨t2,t3,t4,t5,t6,t7,t8,t9,t10,?_,k2,by omega,by omega,λb hL=>?_⟩
    ·rw[Lk,Bg,Cc,hT,Aa];simp only;rw[Aaa (by decide),Aaa (by decide)];exact k1
    ·have hs:=(jF b hf hL hT (by decide)).1 rfl;have hL':(p'++b).length<=100000:=by rw[Aai]at hL⊢;omega
     rw[Lk,Bg,Cc,hs,Aa];simp only;rw[Aaa (by decide),Aaa (by decide)];refine(k5 b hL').trans ?_;exact I7 k q (q+1) o (t2++b) t3 t4 t5 t6 t7 t8 t9 t10 false 0 k2.fit ho ⟨by rw[Aai]at hL⊢;omega,k2.sz.hg,k2.sz.hx⟩ k4 (by omega) (by omega)
   ·refine .inr ⟨x2,e,k1,k2,k3,λb hL=>?_⟩;have hs:=(jF b hf hL hT (by decide)).1 rfl;have hL':(p'++b).length<=100000:=by rw[Aai]at hL⊢;omega
    rw[Lk,Bg,Cc,hs,Aa];simp only;rw[Aaa (by decide),Aaa (by decide)];exact k4 b hL'
abbrev Fd(o s:LB):=Lk Ba o s 0 0 0 0 0 [] 0 []
inductive Bh (o s:LB):LB->Int->Int->Int->Int->Int->LI->Int->LB->Int->Prop
 |wt {p:LB} {f c w r n:Int} {g:LI} {a:Int} {x:LB}:Wt o p f c w r n g a x->p.length<=s.length-> (∀b:LB,(s++b).length<=100000->Fd o (s++b)=Lk Ba o (p++b) f c w r n g a x)->Bh o s p f c w r n g a x 0
 |er {x:LB} {e:Int}:0<e->Cd e->x.length<=12000-> (∀b:LB,(s++b).length<=100000->Fd o (s++b)=some (o,[],0,0,0,0,0,[],0,x,false,e,e))->Bh o s [] 0 0 0 0 0 [] 0 x e
variable {o s p:LB} {f c w r n:Int} {g:LI} {a:Int} {x:LB} {e:Int}
theorem Wt.stop(W:Wt o p f c w r n g a x):Lk Ba o p f c w r n g a x=some (o,p,f,c,w,r,n,g,a,x,false,0,0):=by
 obtain⟨q,hq⟩:∃q,Ba=q+1:=⟨Ba-1,by have:=Ax;omega⟩;have hx:x.length<=13000000:=by have:=W.sz.hx;omega
 rw[Lk,hq,Bg,Cc,W.wait,Aa];simp only;rw[Aae (by decide),RS W.sz.hp (by have:=W.sz.hg;omega) hx,Aa]
theorem Bh.fd(h:Bh o s p f c w r n g a x e)(hs:s.length<=100000):Fd o s=some (o,p,f,c,w,r,n,g,a,x,false,e,e):=by
 cases h with
 |wt W hl hb=>
  have:=hb [] (by simpa using hs);rw[Apk,Apk]at this;rw[this,W.stop]
 |er h0 hc hx hb=>
  have:=hb [] (by simpa using hs);rw[Apk]at this;exact this
theorem Bh.new(ho:o.length<=64):Bh o [] [] 0 0 0 0 0 [] 0 [] 0:=by
 refine .wt ⟨.new rfl rfl rfl rfl rfl rfl rfl rfl,⟨by simp,by simp,by simp⟩,OutB.nil,?_⟩ (Alw _) λb _=>rfl;rw[Ag,Bk,Aae (by decide),CF [] (by simp),Aa];rfl
theorem Api(ho:o.length<=64)(W:Wt o p f c w r n g a x)(b:LB)(hp:p.length<=20000)(hb:b.length<=20000):
  Kz o p f c w r n g a x false 0 b=Lk Ba o (p++b) f c w r n g a x/\Gj o p f c w r n g a x false 0 b=Lk Ba o (p++b) f c w r n g a x:=by
 have hR:Gj o p f c w r n g a x false 0 b=Lk Ba o (p++b) f c w r n g a x:=by
  have hx:x.length<=13000000:=by have:=W.sz.hx;omega
  have hg:g.length<=2000:=by have:=W.sz.hg;omega
  have hE:¬(Bq (0:Int) 0=true):=by decide
  have hF:¬(false=true):=by decide
  rw[Gj,Nr,yU W.fit ho W.out W.wait,Aa,Aaa hE,RS (by omega) hg hx,Aa];simp only;rw[Hk]
  repeat (first|rw[Aa]|rw[Aaa hE]|rw[Aaa hF])
  rw[Bi,Aa];rfl
 obtain⟨t1,t2,t3,t4,t5,t6,t7,t8,t9,t10,t11,t12,e,h1,h2,_⟩:=Auo ho W.fit W.sz b hp hb;exact⟨h1.trans (h2.symm.trans hR),hR⟩
theorem Bh.check(ho:o.length<=64)(h:Bh o s p f c w r n g a x e)(hp:p.length<=100000):Qb o p f c w r n g a x false e=some 0/\Dh o p f c w r n g a x false e=some 0:=by
 have key:Dh o p f c w r n g a x false e=some 0/\g.length<=1000/\x.length<=13000000:=by
  cases h with
  |wt W hl hb=>exact⟨yU W.fit ho W.out W.wait,W.sz.hg,by have:=W.sz.hx;omega⟩
  |er h0 hc hx hb=>exact⟨J8 ho hx hc h0,by simp,by omega⟩
 obtain⟨k1,k2,k3⟩:=key;obtain⟨E,e1,e2⟩:=rE o p f c w r n g a x false e hp (by omega) (by omega);rw[k1]at e2;cases e2;exact⟨e1,k1⟩
theorem Bh.feed(ho:o.length<=64)(h:Bh o s p f c w r n g a x e)(hp:p.length<=20000)(b:LB)(hb:b.length<=20000)(hs:(s++b).length<=100000):
  ∃(p':LB) (f' c' w' r' n':Int) (g':LI) (a':Int) (x':LB) (e':Int),Kz o p f c w r n g a x false e b=some (o,p',f',c',w',r',n',g',a',x',false,e',e')/\
   Gj o p f c w r n g a x false e b=some (o,p',f',c',w',r',n',g',a',x',false,e',e')/\Bh o (s++b) p' f' c' w' r' n' g' a' x' e':=by
 have hck:=h.check ho (by omega);cases h with
 |wt W hl hB=>
  obtain⟨h1,h2⟩:=Api ho W b hp hb;have hpb:(p++b).length<=100000:=by rw[Aai];omega
  have hZ:SzD (p++b) g a x:=⟨hpb,W.sz.hg,W.sz.hx⟩;rcases sw 1004 Ba o (p++b) f c w r n g a x W.fit ho hZ W.out hpb (Ake hZ) (by have:=Ax;omega)with⟨t2,t3,t4,t5,t6,t7,t8,t9,t10,k1,k2,k3,k4,k5⟩|⟨x2,e,k1,k2,k3,k4⟩
  ·refine⟨t2,t3,t4,t5,t6,t7,t8,t9,t10,0,h1.trans k1,h2.trans k1, .wt k2 ?_ λb2 hL=>?_⟩
   ·rw[Aai]at k3⊢;omega
   ·rw[Ahm,hB (b++b2) (by rw[<-Ahm];exact hL),<-Ahm];refine k5 b2 ?_;rw[Aai,Aai]at hL⊢;omega
  ·have k4':=k4 [] (by simpa using hpb);rw[Apk]at k4';refine⟨_,_,_,_,_,_,_,_,_,_,h1.trans k4',h2.trans k4', .er k1 k2 k3 λb2 hL=>?_⟩;rw[Ahm,hB (b++b2) (by rw[<-Ahm];exact hL),<-Ahm];refine k4 b2 ?_;rw[Aai,Aai]at hL⊢;omega
 |er h0 hc hx hB=>
  have hne:Bq e 0=true:=by rw[Ah];simp;omega
  refine⟨_,_,_,_,_,_,_,_,_,_,?_,?_, .er h0 hc hx λb2 hL=>?_⟩
  ·rw[Kz,Yt,bU (by simp) (by simp) (by omega) hck.1,Aaa (by decide),Aa];simp only;rw[Aae (show e≠0 by omega),Aae hne]
  ·rw[Gj,Nr,hck.2,Aa,Aaa (by decide),RS (by simp) (by simp) (by omega),Aa];simp only;rw[Hk,Aae hne,Aa,Aae hne]
  ·rw[Ahm];exact hB (b++b2) (by rw[<-Ahm];exact hL)
end Go.Pl
namespace Go.Pl
open Go Go.Lv
section
variable {o s p:LB} {f c w r n:Int} {g:LI} {a:Int} {x:LB} {e:Int}
theorem FitD.drop(h:FitD o f c w r n g a x)(t:Nat):FitD o f c w r n g a (x.drop t):=by
 cases h with
 |new e1 e2 e3 e4 e5 e6 e7 e8=>subst e8;exact .new e1 e2 e3 e4 e5 e6 e7 (by simp)
 |head F C W R N hd hpw e6 e7 e8=>subst e8;exact .head F C W R N hd hpw e6 e7 (by simp)
 |tab F C W R N A hd hpw ht hl ea hA=>exact .tab F C W R N A hd hpw ht hl ea hA
theorem OutB.drop(h:OutB f c w r n g a x)(t:Nat):OutB f c w r n g a (x.drop t):=by
 intro F C W R N A hd hg ha;have:=h F C W R N A hd hg ha;rw[Ahp];omega
theorem Bh.Ah9(h:Bh o s p f c w r n g a x e):p.length<=s.length/\g.length<=1000/\x.length<=12000:=by
 cases h with
 |wt W hl hb=>exact⟨hl,W.sz.hg,Ai9 W.fit W.out⟩
 |er h0 hc hx hb=>exact⟨by simp,by simp,hx⟩
end
section
variable {o s p:LB} {f c w r n:Int} {g:LI} {a:Int} {x:LB} {e:Int}
theorem Ag2{u:Bool}{v:Int}(hp:p.length<=20000)(h:Bz o p f c w r n g a x u v=some e):Cd e:=by
 rw[Bz]at h;split at h
 ·rw[EJ p (by omega),Aa]at h;have hok:=EA (b:=p);simp only at h;by_cases h2:(Bu p).2≠0
  ·rw[Aae (by rw[Ah];simpa using h2)]at h;cases h;exact rZ p
  ·have h3:(Bu p).2=0:=by simpa using h2
   obtain⟨k1,k2,k3⟩:=hok h3;have hl:(Iv p).length<=p.length:=by rw[Iv,Ahp];omega
   rw[Aaa (by rw[Ah,h3];simp),Cg,Aa,show p.drop (Bu p).1.toNat=Iv p from rfl,bL _ (by omega),Aa]at h;cases h;exact E3 _
 ·split at h
  ·cases h;decide
  ·obtain⟨⟨z1,z2⟩,hz,h⟩:=ZB h;simp only at h;split at h<;>(cases h;decide)
theorem Are{u:Bool}{v k:Int}(ho:o.length<=64)(hx:x.length<=12000)(hk:(u=false/\v=k/\0<k/\Cd k)\/ (u=true/\v=0/\k=36)):
  Qb o [] 0 0 0 0 0 [] 0 x u v=some 0/\ (∀b,Kz o [] 0 0 0 0 0 [] 0 x u v b=some (o,[],0,0,0,0,0,[],0,x,u,v,k))/\Fg o [] 0 0 0 0 0 [] 0 x u v=some (o,[],0,0,0,0,0,[],0,x,u,v,k):=by
 have key:Dh o [] 0 0 0 0 0 [] 0 x u v=some 0:=by
  rcases hk with⟨rfl,rfl,h1,h2⟩|⟨rfl,rfl,rfl⟩
  ·exact J8 ho hx h2 h1
  ·have hX:Fb (Ac x) 12000=false:=by rw[Ap,Ac];simp;omega
   rw[Dh,Aaa (by rw[Ap,Ac];simp;omega),Aaa (by decide),Aae (by decide),hX,Aaa (by decide),Aaa (by decide)]
 obtain⟨E,e1,e2⟩:=rE o [] 0 0 0 0 0 [] 0 x u v (by simp) (by simp) (by omega);rw[key]at e2;cases e2;have hv:(if v≠0 then v else if u=true then 36 else 0)=k:=by
  rcases hk with⟨rfl,rfl,h1,h2⟩|⟨rfl,rfl,rfl⟩
  ·rw[Aae (by omega)]
  ·rfl
 have hk0:Bq k 0=true:=by
  rw[Ah];rcases hk with⟨rfl,rfl,h1,h2⟩|⟨rfl,rfl,rfl⟩
  ·simp;omega
  ·rfl
 have hb:=bU (o:=o) (p:=[]) (f:=0) (c:=0) (w:=0) (r:=0) (n:=0) (g:=[]) (a:=0) (x:=x) (u:=u) (v:=v) (by simp) (by simp) (by omega) e1;rw[Aaa (by decide),hv]at hb;refine⟨e1,λb=>?_,?_⟩
 ·rw[Kz,Yt,hb,Aa];simp only;rw[Aae hk0]
 ·rw[Fg,hb,Aa];simp only;rw[Aae hk0]
theorem Bh.finish(ho:o.length<=64)(h:Bh o s p f c w r n g a x e)(hp:p.length<=20000):
  ∃(u:Bool) (v k:Int),Fg o p f c w r n g a x false e=some (o,[],0,0,0,0,0,[],0,x,u,v,k)/\ ((u=false/\v=k/\0<k/\Cd k/\ (e=0\/e=k))\/ (u=true/\v=0/\k=0)):=by
 have hs:=h.Ah9;have hck:=(h.check ho (by omega)).1;have hb:=bU (o:=o) (p:=p) (f:=f) (c:=c) (w:=w) (r:=r) (n:=n) (g:=g) (a:=a) (x:=x) (u:=false) (v:=e) (by omega) (by omega) (by omega) hck;rw[Aaa (by decide)]at hb;cases h with
 |wt W hl hB=>
  obtain⟨e1,d1,d2⟩:=iK (o:=o) (p:=p) (f:=f) (c:=c) (w:=w) (r:=r) (n:=n) (a:=a) (u:=false) (v:=0) (g:=g) (x:=x) hp;have hcd:=Ag2 hp d2;rw[Fg,hb,Aa];simp only;rw[Aaa (by decide),d1,Aa];by_cases he:Bq e1 0=true
  ·rw[Aae he];refine⟨false,e1,e1,rfl, .inl ⟨rfl,rfl,?_,hcd,by simp⟩⟩;have:=hcd.nn;rw[Ah]at he;simp only[Axu]at he;omega
  ·rw[Aaa he];exact⟨true,0,0,rfl, .inr ⟨rfl,rfl,rfl⟩⟩
 |er h0 hc hx hB=>
  have hne:Bq e 0=true:=by rw[Ah];simp;omega
  rw[Fg,hb,Aa];simp only;rw[Aae (show e≠0 by omega),Aae hne];exact⟨false,e,e,rfl, .inl ⟨rfl,rfl,h0,hc, .inr rfl⟩⟩
end
section
variable {o p:LB} {f c w r n:Int} {g:LI} {a:Int} {x:LB} {q:Nat}
theorem EB(hp:p.length<=100000)(hg:g.length<=1000)(hx:x.length<=13000000)(h:Ag o p f c w r n g a x false 0=some (o,p,f,c,w,r,n,g,a,x,false,0, -1)):Lk (q+1) o p f c w r n g a x=some (o,p,f,c,w,r,n,g,a,x,false,0,0):=by
 rw[Lk,Bg,Cc,h,Aa];simp only;rw[Aae (by decide),RS hp (by omega) hx,Aa]
theorem RT(hx:x.length<=13000000){e:Int}(he:0<e){t2:LB}{t3 t4 t5 t6 t7:Int}{t8:LI}{t9:Int}{t11:Bool}{t12:Int}(h:Ag o p f c w r n g a x false 0=some (o,t2,t3,t4,t5,t6,t7,t8,t9,x,t11,t12,e)):Lk (q+1) o p f c w r n g a x=some (o,[],0,0,0,0,0,[],0,x,false,e,e):=by
 rw[Lk,Bg,Cc,h,Aa];simp only;rw[Aaa (by rw[dV (by omega)];decide),Aae (by rw[Ah];simp;omega),eC hx,Aa]
theorem lN{p':LB}{f' c' w' r' n':Int}{g':LI}{a':Int}{x':LB}(h:Ag o p f c w r n g a x false 0=some (o,p',f',c',w',r',n',g',a',x',false,0,0)):Lk (q+1) o p f c w r n g a x=Lk q o p' f' c' w' r' n' g' a' x':=by
 rw[Lk,Bg,Cc,h,Aa];simp only;rw[Aaa (by decide),Aaa (by decide)]
end
def Ends(o:LB)(R:Option Arr)(x:LB)(e:Int):Prop:=(0<e/\R=some (o,[],0,0,0,0,0,[],0,x,false,e,e))\/ (∃(p:LB) (f c w r n:Int) (g:LI) (a:Int),p.length<=100000/\R=some (o,p,f,c,w,r,n,g,a,x,false,0,0)/\Bz o p f c w r n g a x false 0=some e)
theorem yS(b p:LB)(hb:b.length<=20000)(hp:p.length<=64)(q:Nat):
  (∃e:Int,e≠0/\Ee b p=some (YR e)/\Ends p (Lk (q+2) p b 0 0 0 0 0 [] 0 []) [] e)\/ (∃f c w r n A l,Opn b p f c w r n A l/\Lk (q+2) p b 0 0 0 0 0 [] 0 []=Lk q p (b.drop A) (f:Int) (c:Int) (w:Int) (r:Int) (n:Int) l 0 []):=by
 have hx0:([]:LB).length<=13000000:=by simp
 have hg0:([]:LI).length<=1000:=by simp
 have hT:Ag p b 0 0 0 0 0 [] 0 [] false 0=Ag p b 0 0 0 0 0 [] 0 [] false 0:=rfl
 conv at hT=>rhs;rw[Ag,Bk,Aae (by decide),CF b (by omega),Aa,Y4]
 have hE:Bz p b 0 0 0 0 0 [] 0 [] false 0=Bz p b 0 0 0 0 0 [] 0 [] false 0:=rfl
 conv at hE=>rhs;rw[Bz,Aae (by decide),EJ b (by omega),Aa]
 have hP:Ee b p=Ee b p:=rfl
 conv at hP=>rhs;rw[Ee,CJ,Aaa (by rw[Ap,Ac];simp;omega),Aaa (by rw[Ap,Ac];simp;omega),Vw b (by omega),Aa]
 have hfn:=rQ b;have hrn:=C0 (Iv b);have hopen:=wG b p (by omega) hp;simp only at hE;by_cases h2:(Bu b).2=0
 ·obtain⟨p0,p1,p2⟩:=EA h2;have hc:=Cg (l:=b) p0 p1;have hlen:(Iv b).length=b.length-(Bu b).1.toNat:=by simp[Iv]
  simp only[h2]at hP hE;rw[Aaa (show ¬(Bu b).2=24 by omega),Aaa (show ¬(Bu b).2≠0 by omega)]at hT;rw[Aaa (by rw[Ah];simp),hc,Aa,show b.drop (Bu b).1.toNat=Iv b from rfl,VA _ (by simp[Iv];omega),Aa]at hP;rw[Aaa (by rw[Ah];simp),hc,Aa,show b.drop (Bu b).1.toNat=Iv b from rfl,bL _ (by simp[Iv];omega),Aa]at hE;by_cases h3:(Ep (Iv b)).2.2.2.2.2=0
  ·obtain⟨g1,g2,g3,g4⟩:=kH h3;have Apt:¬((Py (Iv b) tY||Py (Iv b) vB)=true):=by
    have i1:Py (Iv b) tY=false:=by rw[Py,Ats (by simp[tY];omega)];rfl
    have i2:Py (Iv b) vB=false:=by rw[Py,Ats (by simp[vB];omega)];rfl
    rw[i1,i2];decide
   rw[Aaa Apt,Aaa (show ¬(Ep (Iv b)).2.2.2.2.2=24 by omega),h3]at hT;simp only at hT;rw[Aaa (by decide)]at hT;have hd:HdI (f0 (Iv b):Int) (f1 (Iv b):Int) (f2 (Iv b):Int) (f3 (Iv b):Int) (f4 (Iv b):Int) (f0 (Iv b)) (f1 (Iv b)) (f2 (Iv b)) (f3 (Iv b)) (f4 (Iv b)):=⟨rfl,rfl,rfl,rfl,rfl,g3,g4⟩;generalize hF:(Bu b).1.toNat=F at*
   have hF':(Bu b).1=(F:Int):=by omega
   rw[g1,hF']at hP hT;simp only at hP hT;generalize f0 (Iv b)=f at*
   generalize f1 (Iv b)=c at*
   generalize f2 (Iv b)=w at*
   generalize f3 (Iv b)=r at*
   generalize f4 (Iv b)=n at*
   have t22:Af (F:Int) 22=((F+22:Nat):Int):=by rw[Aj];omega
   have t30:Af ((F+22:Nat):Int) 8=((F+30:Nat):Int):=by rw[Aj];omega
   have Avj:f=1\/f=2:=by simp only[Hq,Aaf]at g3;omega
   have hf1:geq (f:Int) 1=decide (f=1):=by rw[Aq,Ahq];simp;omega
   rw[Aaa (by rw[Ah];simp),t22,t30]at hP;rw[Cg,Aa,Fm,He,Eb,show((F:Int)+22).toNat=F+22 by omega]at hT;by_cases MZ:((p==([]:List UInt8)) !=(geq (f:Int) (1:Int)))=true
   ·rw[Aae MZ]at hP hT;rw[Aa]at hT;exact .inl ⟨26,by omega,hP, .inl ⟨by omega,RT (q:=q+1) hx0 (by decide) hT⟩⟩
   ·rw[Aaa MZ]at hP hT;rw[Aa]at hT;have hl1:=lN (q:=q+1) hT;have hpf:(p=[]↔f=1):=by
     rw[Aq]at MZ;have h5:(p==([]:List UInt8))=((f:Int)==1):=by simpa using MZ
     have h6:(p==([]:List UInt8))=true↔((f:Int)==1)=true:=by rw[h5]
     rw[Asc,Asc]at h6;rw[h6];omega
    have hpw:(p==([]:LB))=decide (f=1):=by rw[<-hf1];simpa using MZ
    have hdl:(b.drop (F+22)).length=b.length-(F+22):=Ahp;have hE2:Bz p (b.drop (F+22)) (f:Int) (c:Int) (w:Int) (r:Int) (n:Int) [] 0 [] false 0=some 24:=by
     rw[Bz,Aaa (by rw[Aq];simp;omega),Aae (by decide)]
    have hT2:Ag p (b.drop (F+22)) (f:Int) (c:Int) (w:Int) (r:Int) (n:Int) [] 0 [] false 0=Ag p (b.drop (F+22)) (f:Int) (c:Int) (w:Int) (r:Int) (n:Int) [] 0 [] false 0:=rfl
    conv at hT2=>rhs;rw[Ag,Bk,Aaa (by rw[Aq];simp;omega),Br,Bo,Aae (by decide),Dt,Fu]
    have hend:∀D:Nat,F+22+D<=b.length->D=(if f=2 then 8 else 0)->Ee b p=Wl b (f:Int) (c:Int) (w:Int) (r:Int) (n:Int) ((F+22+D:Nat):Int)->
      Ag p (b.drop (F+22)) (f:Int) (c:Int) (w:Int) (r:Int) (n:Int) [] 0 [] false 0=((Dk (b.drop (F+22)) (f:Int) (c:Int) (w:Int) (r:Int) (n:Int) (D:Int)).bind (λ(ag,ak,w1)=>if(Bq w1 0)then some (p,b.drop (F+22),(f:Int),(c:Int),(w:Int),(r:Int),(n:Int),([]:LI),(0:Int),([]:LB),false,(0:Int),w1)else(Bp (b.drop (F+22)) ag (Ac (b.drop (F+22)))).bind λal=>some (p,al,(f:Int),(c:Int),(w:Int),(r:Int),(n:Int),ak,(0:Int),([]:LB),false,(0:Int),(0:Int))))->
      (∃e:Int,e≠0/\Ee b p=some (YR e)/\Ends p (Lk (q+2) p b 0 0 0 0 0 [] 0 []) [] e)\/ (∃f c w r n A l,Opn b p f c w r n A l/\Lk (q+2) p b 0 0 0 0 0 [] 0 []=Lk q p (b.drop A) (f:Int) (c:Int) (w:Int) (r:Int) (n:Int) l 0 []):=by
     intro D hD hD2 e1 e2;obtain⟨_,k2,k3⟩:=sF hd p (b.drop (F+22)) (by omega) D (by omega) 0 [] false 0;rw[sI g3 g4 b (by omega) (F+22+D) hD]at e1;rw[k2,Aa]at e2;have hnn:=zP ((b.drop (F+22)).drop D) (Ak (Am r) n).length;have hok:=bO (b:=(b.drop (F+22)).drop D) (n:=(Ak (Am r) n).length);rw[Ax9]at e2 hnn hok k3;generalize hz:Em (b.drop (F+22+D)) (Ak (Am r) n).length=z at*
     obtain⟨z1,z2⟩:=z;simp only at e1 e2 hnn hok k3;by_cases h:z2≠0
     ·rw[Aae h]at e1;refine .inl ⟨z2,h,e1,?_⟩;by_cases h24:z2=24
      ·rw[Aae h24]at e2;simp only at e2;rw[Aae (by decide)]at e2;rw[h24];exact .inr ⟨_,_,_,_,_,_,_,_,by omega,hl1.trans (EB (by omega) hg0 hx0 e2),hE2⟩
      ·rw[Aaa h24]at e2;simp only at e2;rw[Aae (by rw[Ah];simpa using h)]at e2;exact .inl ⟨by omega,hl1.trans (RT hx0 (by omega) e2)⟩
     ·have h0:z2=0:=by simpa using h
      subst h0;obtain⟨k1,m2,m3,m4,m5,m6⟩:=hok rfl;have hk3:=k3 rfl;simp only[Adm,Ayb]at k1;have gl:z1.length=(Ak (Am r) n).length:=by rw[k1];exact Ys _ _
      rw[Aaa (show ¬((0:Int)≠0) by decide)]at e1;rw[Aaa (show ¬((0:Int)=24) by decide)]at e2;simp only at e2;rw[Aaa (by decide),Cg,Aa,Ax9]at e2;rcases hopen with⟨e,he,h1,_⟩|⟨f',c',w',r',n',A',l',o'⟩
      ·rw[e1]at h1;have:=Ap6 h1;simp only[YR,Adm]at this;exact absurd this.2.2.2.2.2.2.2.symm he
      ·have hpr:=o'.prog;rw[e1]at hpr;simp only[Ab0,Adm]at hpr;obtain⟨v1,v2,v3,v4,v5,v6,v7,_⟩:=hpr;refine .inr ⟨f',c',w',r',n',A',l',o',?_⟩;rw[<-v1,<-v2,<-v3,<-v4,<-v5,<-v7];refine hl1.trans ((lN e2).trans ?_);congr 2;omega
    by_cases h5:f=2
    ·have Aho:p≠ []:=λe=>by have:=hpf.1 e;omega
     have h64:(p !=([]:List UInt8))=true:=by simpa using Aho
     rw[Aae h64]at hP;rw[Aae (by rw[Aq,h5];rfl)]at hT2;by_cases h6:b.length<F+30
     ·rw[Aae (by rw[Ae,Ac];simp;omega)]at hP hT2;rw[Aa]at hT2;simp only at hT2;rw[Aae (by decide)]at hT2;exact .inl ⟨24,by omega,hP, .inr ⟨_,_,_,_,_,_,_,_,by omega,hl1.trans (EB (by omega) hg0 hx0 hT2),hE2⟩⟩
     ·have hseg:((b.take (F+30)).drop (F+22)).length=8:=by simp;omega
      have Aw9:(b.drop (F+22)).take 8=(b.take (F+30)).drop (F+22):=by rw[List.drop_take];congr 1;omega
      rw[Aaa (by rw[Ae,Ac];simp;omega),Zn,Aa]at hP;rw[Aaa (by rw[Ae,Ac,hdl];simp;omega),Dr,Aa,bF p hp,Aa,show(8:Int).toNat=8 from rfl,Aw9]at hT2;rw[Pw,rX p hp,Aa]at hP;simp only at hP;rw[Aaa (by rw[Ah,Ah,Ac,Ac,Ch,show((F+30:Nat):Int).toNat=F+30 from rfl,show((F+22:Nat):Int).toNat=F+22 from rfl,hseg];simp),Il,Aa,Aa]at hP;simp only at hP;rw[Aaa (by rw[Ah];simp),show((F+30:Nat):Int).toNat=F+30 from rfl,show((F+22:Nat):Int).toNat=F+22 from rfl]at hP;generalize(b.take (F+30)).drop (F+22)=seg at*
      by_cases h7:seg=Xa (BT p).toNat 8
      ·rw[Aaa (by simp[h7])]at hP hT2;exact hend 8 (by omega) (by rw[Aae h5]) hP hT2
      ·rw[Aae (by simpa using h7)]at hP;rw[Aae (by simpa using h7),Aa]at hT2;simp only at hT2;rw[Aae (by decide)]at hT2;exact .inl ⟨26,by omega,hP, .inl ⟨by omega,hl1.trans (RT hx0 (by decide) hT2)⟩⟩
    ·have hpe:p=[]:=hpf.2 (by omega);rw[Aaa (by rw[hpe];simp)]at hP;rw[Aaa (by rw[Aq];simp;omega)]at hT2;exact hend 0 (by omega) (by rw[Aaa h5]) hP hT2
  ·have h3':=h3;generalize Ep (Iv b)=v at*
   obtain⟨v1,v2,v3,v4,v5,v6⟩:=v;simp only at h3 hP hE hrn;rw[Aae (by rw[Ah];simpa using h3)]at hP;refine .inl ⟨v6,h3,hP,?_⟩;by_cases Apt:(Py (Iv b) tY||Py (Iv b) vB)=true
   ·rw[Aae Apt]at hT;simp only at hT;rw[Aae (by decide)]at hT;exact .inr ⟨_,_,_,_,_,_,_,_,by omega,EB (by omega) hg0 hx0 hT,hE⟩
   ·rw[Aaa Apt]at hT;by_cases h24:v6=24
    ·rw[Aae h24]at hT;simp only at hT;rw[Aae (by decide)]at hT;exact .inr ⟨_,_,_,_,_,_,_,_,by omega,EB (by omega) hg0 hx0 hT,hE⟩
    ·rw[Aaa h24]at hT;simp only at hT;rw[Aae (by rw[Ah];simpa using h3)]at hT;exact .inl ⟨by omega,RT hx0 (by omega) hT⟩
 ·have h2':=h2;generalize Bu b=v at*
  obtain⟨v,e⟩:=v;simp only at h2 hP hT hE hfn;rw[Aae (by rw[Ah];simpa using h2)]at hP hE;refine .inl ⟨e,h2,hP,?_⟩;by_cases h24:e=24
  ·rw[Aae h24]at hT;simp only at hT;rw[Aae (by decide)]at hT;exact .inr ⟨_,_,_,_,_,_,_,_,by omega,EB (by omega) hg0 hx0 hT,hE⟩
  ·rw[Aaa h24,Aae h2]at hT;simp only at hT;rw[Aae (by rw[Ah];simpa using h2)]at hT;exact .inl ⟨by omega,RT hx0 (by omega) hT⟩
section
variable {b p:List UInt8} {f c w r n A:Nat} {l:List Int} (o:Opn b p f c w r n A l) (hb:b.length<=20000)
include o hb
theorem uG:∀(j k q:Nat) (acc:List UInt8),k+j=l.length->j<q-> (A:Int)+(l.take k).sum<=b.length->acc.length<=12000*k->
  ∃X,Ends p (Lk q p (b.drop ((A:Int)+(l.take k).sum).toNat) (f:Int) (c:Int) (w:Int) (r:Int) (n:Int) l (k:Int) acc) X (gB (Kq b p f c w r n A l) (fB b A l) j k acc).2/\
   ((gB (Kq b p f c w r n A l) (fB b A l) j k acc).2=0->X=(gB (Kq b p f c w r n A l) (fB b A l) j k acc).1)
 |j,k,0,_,_,h,_,_=>absurd h (Nat.not_lt_zero _)
 |j,k,q+1,acc,hk,hq,hA,ha=>by
  have hd:HdI (f:Int) (c:Int) (w:Int) (r:Int) (n:Int) f c w r n:=⟨rfl,rfl,rfl,rfl,rfl,o.shape,o.fit⟩;have hs1:=o.some1;have hsum:=o.sum;have GV:=hd.num;have hlen:=o.len;have b1:=Ic o.five k;have hfn:¬(geq (f:Int) 0=true):=by rw[Aq];simp;omega
  have hgl:¬(geq (Ac l) 0=true):=by rw[Aq,Ac,Asc];omega
  have hgf:geq (Ac l) 0=false:=by simpa using hgl
  generalize hIn:b.drop ((A:Int)+(l.take k).sum).toNat=In;have As5:In.length=b.length-((A:Int)+(l.take k).sum).toNat:=by rw[<-hIn,Ahp]
  have hT:Ag p In (f:Int) (c:Int) (w:Int) (r:Int) (n:Int) l (k:Int) acc false 0=Ag p In (f:Int) (c:Int) (w:Int) (r:Int) (n:Int) l (k:Int) acc false 0:=rfl
  conv at hT=>rhs;rw[Ag,Bk,Aaa hfn,Br,Bo,Aaa hgl]
  have hE:Bz p In (f:Int) (c:Int) (w:Int) (r:Int) (n:Int) l (k:Int) acc false 0=Bz p In (f:Int) (c:Int) (w:Int) (r:Int) (n:Int) l (k:Int) acc false 0:=rfl
  conv at hE=>rhs;rw[Bz,Aaa hfn]
  cases j with
  |zero=>
   obtain rfl:k=l.length:=by omega
   rw[Atb]at hIn As5;have hbe:fB b A l=(Tt In).2:=by rw[fB,hIn]
   rw[Aae (by rw[Aq,Ac];simp)]at hT;have hgt:Dg (l.length:Int) (Ac l)=false:=by rw[Ae,Ac,At7];omega
   rw[Aaa (by rw[hgf,hgt];decide),oY In (by omega),Aa]at hE;rw[gB,hbe];have hbz:=M1 In;have hb4:4000<In.length-> (Tt In).2=38:=λh4=>by rw[Tt,Aae h4]
   generalize Tt In=z at*
   obtain⟨z1,z2⟩:=z;simp only at hE hbz hb4⊢;by_cases h4:4000<In.length
   ·rw[Aae (by rw[Ap,Ac];simp;omega)]at hT;rw[hb4 h4,Aae (by decide)];exact⟨acc, .inl ⟨by decide,RT (by omega) (by decide) hT⟩,λh=>by cases h⟩
   ·rw[Aaa (by rw[Ap,Ac];simp;omega)]at hT;have hlw:=EB (q:=q) (by omega:In.length<=100000) hs1.2 (by omega) hT;rcases hbz with h|h
    ·rw[h,Aaa (by decide)];rw[h,Aaa (by decide)]at hE;exact⟨acc, .inr ⟨_,_,_,_,_,_,_,_,by omega,hlw,hE⟩,λ_=>rfl⟩
    ·rw[h,Aae (by decide)];rw[h,Aae (by decide)]at hE;exact⟨acc, .inr ⟨_,_,_,_,_,_,_,_,by omega,hlw,hE⟩,λh=>by cases h⟩
  |succ j=>
   have hlt:k<l.length:=by omega
   have hlt2:k<(Ak (Am r) n).length:=by omega
   obtain⟨m,x,s,e,g⟩:=IF o k hlt;have hw:Bn (w:Int):=(Mk o.shape).2.1;have Al4:=g.lens hw;have b2:=Ic o.five (k+1);have e1:=Ks hlt;have h5:=o.five l[k] (Anw _);have hm:=g.mom;rw[Aaa (by rw[Aq,Ac];simp;omega),Cp,Dv,Ce hlt,Aa]at hT;have hgt:Dg (k:Int) (Ac l)=true:=by rw[Ae,Ac,Aaf];omega
   rw[Aae (by rw[hgf,hgt];decide)]at hE;rw[gB,g.eq];simp only;rcases g.way with⟨w1,rfl⟩|⟨w1,_,w2⟩
   ·rw[Aae (by rw[Ae,Ac];simp;omega),Aa]at hT;simp only at hT;rw[Aae (by decide)]at hT;rw[Aae (by decide)];exact⟨acc, .inr ⟨_,_,_,_,_,_,_,_,by omega,EB (by omega) hs1.2 (by omega) hT,hE⟩,λh=>by cases h⟩
   ·have hseg:In.take l[k].toNat=H5 b A l k:=by
     rw[H5,<-hIn,List.drop_take];congr 1;omega
    have hnn:=lL hw (Ui p) GV.2.1.1 GV.2.1.2 g.pos.1 (by
     have hlt3:=Ce hlt2;rw[hlt3]at hm;have hm':=Ap6 hm;obtain⟨m',hm2,m1,m2⟩:=Xj (Iy r) GV.2.2.2.2.1 (Anw hlt2);omega) w2
    rw[Aaa (by rw[Ae,Ac];simp;omega),RN p o.pass,Aa]at hT;simp only at hT;rw[Dr,Aa,hseg,Es,Aa]at hT;simp only at hT;rw[hd.T9,Aa,hm,Aa,Aa,w2,Aa]at hT;simp only at hT;rw[Dw,Ek]at hT;by_cases he:e≠0
    ·rw[Aae (by rw[Ah];simpa using he),Aa]at hT;simp only at hT;rw[Aae (by rw[Ah];simpa using he)]at hT;rw[Aae he];exact⟨acc, .inl ⟨by simp only;omega,RT (by omega) (by omega) hT⟩,λh=>absurd h he⟩
    ·have he0:e=0:=by simpa using he
     obtain⟨q1,q2,q3,q4,q5⟩:=g.some' he0;rw[Aaa (by rw[Ah];simpa using he),PC hw (by omega) q3,<-q1,Aa,Aa]at hT;simp only at hT;rw[Aaa (by decide),Bi (by simp;omega),Aa,Apz,Bi,Aa,Aa,Cg,Aa,Aj]at hT;rw[Aaa he,lN hT];have As6:In.drop l[k].toNat=b.drop ((A:Int)+(l.take (k+1)).sum).toNat:=by rw[<-hIn,Ax9];congr 1;omega
     rw[As6];exact uG j (k+1) q (acc++s) (by omega) (by omega) q5 (by rw[Aai];omega)
end
theorem Agk(b p:LB)(hb:b.length<=20000)(hp:p.length<=64):∃(X:LB) (x1 x2 x3:Int) (x4:LX) (E:Int),Ends p (Fd p b) X E/\Qu b p=some (x1,x2,x3,x4,E)/\ (E=0->Ma x2 x4=some (X,0)):=by
 obtain⟨q,hq⟩:∃q,Ba=q+1002+2:=⟨Ba-1004,by have:=Ax;omega⟩;rw[Fd,hq];rcases yS b p hb hp (q+1002)with⟨e,he,h1,h2⟩|⟨f,c,w,r,n,A,l,o,h2⟩
 ·rcases pK b p (by omega) hp with⟨e',he',k1,_,k3,_⟩|⟨f,c,w,r,n,A,l,o,_,_⟩
  ·rw[h1]at k1;have:=Ap6 k1;simp only[YR,Adm]at this;obtain rfl:=this.2.2.2.2.2.2.2;exact⟨[],0,0,0,[],e,h2,k3,λh=>absurd h he⟩
  ·have:=o.prog;rw[h1]at this;have:=Ap6 this;simp only[YR,Adm]at this;exact absurd this.2.2.2.2.2.2.2 he
 ·rcases pK b p (by omega) hp with⟨e',he',k1,_,k3,_⟩|⟨f',c',w',r',n',A',l',o',k3,_⟩
  ·have:=o.prog;rw[k1]at this;have:=Ap6 this;simp only[YR,Adm]at this;exact absurd this.2.2.2.2.2.2.2 he'
  ·have hpr:=o'.prog;rw[o.prog]at hpr;simp only[Ab0,Adm]at hpr;obtain⟨v1,v2,v3,v4,v5,v6,v7,_⟩:=hpr;obtain rfl:f=f':=by omega
   obtain rfl:c=c':=by omega
   obtain rfl:w=w':=by omega
   obtain rfl:r=r':=by omega
   obtain rfl:n=n':=by omega
   obtain rfl:A=A':=by omega
   subst v7;have hs1:=o.some1;have hat:=o.at';obtain⟨X,g1,g2⟩:=uG o hb l.length 0 (q+1002) [] (by omega) (by omega) (by rw[Avn,Axe];omega) (by simp);rw[Avn,Axe,Int.add_zero,Al6]at g1;have hrc:=ku w (Kq b p f c w r n A l) (fB b A l) l.length 0 [] [];have hgd:=rB (λk=>uH w (Kq b p f c w r n A l k)) (λk=>(Kq b p f c w r n A l k).2) (fB b A l) l.length 0 [];rw[lD,QY]at k3;rw[h2];by_cases hC:(YP (λk=>uH w (Kq b p f c w r n A l k)) (λk=>(Kq b p f c w r n A l k).2) (fB b A l) l.length 0 []).2≠0
   ·rw[Aae hC,mK]at k3;rw[<-hrc]at hC k3;exact⟨X,0,0,0,[],_,g1,k3,λh=>absurd h hC⟩
   ·have hC0:(YP (λk=>uH w (Kq b p f c w r n A l k)) (λk=>(Kq b p f c w r n A l k).2) (fB b A l) l.length 0 []).2=0:=by simpa using hC
    obtain⟨hbe,hE',hC1⟩:=hgd hC0;have hE:∀i,i<l.length-> (Kq b p f c w r n A l i).2=0:=λi hi=>hE' i (by omega) (by omega);rw[Apz]at hC1;rw[Aaa hC,hC1]at k3;rw[hC0]at hrc;have hX:=g2 hrc;rw[hbe,L8 _ _ _ _ λi h1 h2=>hE i (by omega),Apz]at hX;rw[hrc]at g1;exact⟨X,_,_,_,_,0,g1,k3,λ_=>by rw[hX];exact Ae5 o hE⟩
section
variable {b p:List UInt8} {f c w r n A:Nat} {l:List Int} (o:Opn b p f c w r n A l) (hb:b.length<=20000)
include o hb
theorem yO{k:Nat}(hk:k<l.length)(h0:(A:Int)+(l.take k).sum<=b.length)(acc:LB)(hacc:acc.length<=12000*k):
  (b.length<(A:Int)+(l.take (k+1)).sum->∀q,Lk (q+1) p (b.drop ((A:Int)+(l.take k).sum).toNat) (f:Int) (c:Int) (w:Int) (r:Int) (n:Int) l (k:Int) acc=some (p,b.drop ((A:Int)+(l.take k).sum).toNat,(f:Int),(c:Int),(w:Int),(r:Int),(n:Int),l,(k:Int),acc,false,0,0))/\
  ((A:Int)+(l.take (k+1)).sum<=b.length-> ((Kq b p f c w r n A l k).2=0->∀q,Lk (q+1) p (b.drop ((A:Int)+(l.take k).sum).toNat) (f:Int) (c:Int) (w:Int) (r:Int) (n:Int) l (k:Int) acc=Lk q p (b.drop ((A:Int)+(l.take (k+1)).sum).toNat) (f:Int) (c:Int) (w:Int) (r:Int) (n:Int) l ((k+1:Nat):Int) (acc++(Kq b p f c w r n A l k).1))/\
   ((Kq b p f c w r n A l k).2≠0->∀q,Lk (q+1) p (b.drop ((A:Int)+(l.take k).sum).toNat) (f:Int) (c:Int) (w:Int) (r:Int) (n:Int) l (k:Int) acc=some (p,[],0,0,0,0,0,[],0,acc,false,(Kq b p f c w r n A l k).2,(Kq b p f c w r n A l k).2))):=by
 have hd:HdI (f:Int) (c:Int) (w:Int) (r:Int) (n:Int) f c w r n:=⟨rfl,rfl,rfl,rfl,rfl,o.shape,o.fit⟩;have hs1:=o.some1;have hsum:=o.sum;have GV:=hd.num;have hlen:=o.len;have b1:=Ic o.five k;have hfn:¬(geq (f:Int) 0=true):=by rw[Aq];simp;omega
 have hgl:¬(geq (Ac l) 0=true):=by rw[Aq,Ac,Asc];omega
 generalize hIn:b.drop ((A:Int)+(l.take k).sum).toNat=In;have As5:In.length=b.length-((A:Int)+(l.take k).sum).toNat:=by rw[<-hIn,Ahp]
 have hT:Ag p In (f:Int) (c:Int) (w:Int) (r:Int) (n:Int) l (k:Int) acc false 0=Ag p In (f:Int) (c:Int) (w:Int) (r:Int) (n:Int) l (k:Int) acc false 0:=rfl
 conv at hT=>rhs;rw[Ag,Bk,Aaa hfn,Br,Bo,Aaa hgl]
 have hlt2:k<(Ak (Am r) n).length:=by omega
 obtain⟨m,x,s,e,g⟩:=IF o k hk;have hw:Bn (w:Int):=(Mk o.shape).2.1;have Al4:=g.lens hw;have b2:=Ic o.five (k+1);have e1:=Ks hk;have h5:=o.five l[k] (Anw _);have hm:=g.mom;rw[Aaa (by rw[Aq,Ac];simp;omega),Cp,Dv,Ce hk,Aa]at hT;rw[g.eq];simp only;refine⟨λhlt q=>?_,λhge=>?_⟩
 ·rw[Aae (by rw[Ae,Ac];simp;omega),Aa]at hT;simp only at hT;rw[Aae (by decide)]at hT;exact EB (by omega) hs1.2 (by omega) hT
 rcases g.way with⟨w1,_⟩|⟨w1,_,w2⟩
 ·omega
 have hseg:In.take l[k].toNat=H5 b A l k:=by
  rw[H5,<-hIn,List.drop_take];congr 1;omega
 have hnn:=lL hw (Ui p) GV.2.1.1 GV.2.1.2 g.pos.1 (by
  have hlt3:=Ce hlt2;rw[hlt3]at hm;have hm':=Ap6 hm;obtain⟨m',hm2,m1,m2⟩:=Xj (Iy r) GV.2.2.2.2.1 (Anw hlt2);omega) w2
 rw[Aaa (by rw[Ae,Ac];simp;omega),RN p o.pass,Aa]at hT;simp only at hT;rw[Dr,Aa,hseg,Es,Aa]at hT;simp only at hT;rw[hd.T9,Aa,hm,Aa,Aa,w2,Aa]at hT;simp only at hT;rw[Dw,Ek]at hT;refine⟨λhe q=>?_,λhe q=>?_⟩
 ·obtain⟨q1,q2,q3,q4,q5⟩:=g.some' he;rw[Aaa (by rw[Ah];simpa using he),PC hw (by omega) q3,<-q1,Aa,Aa]at hT;simp only at hT;rw[Aaa (by decide),Bi (by simp;omega),Aa,Apz,Bi,Aa,Aa,Cg,Aa,Aj]at hT;rw[lN hT];have As6:In.drop l[k].toNat=b.drop ((A:Int)+(l.take (k+1)).sum).toNat:=by rw[<-hIn,Ax9];congr 1;omega
  rw[As6];rfl
 ·rw[Aae (by rw[Ah];simpa using he),Aa]at hT;simp only at hT;rw[Aae (by rw[Ah];simpa using he)]at hT;exact RT (by omega) (by omega) hT
theorem A7:∀(j k q:Nat) (acc:LB),k+j<=l.length-> (A:Int)+(l.take (k+j)).sum<=b.length-> (∀i,k<=i->i<k+j-> (Kq b p f c w r n A l i).2=0)->acc.length<=12000*k->
  Lk (q+j) p (b.drop ((A:Int)+(l.take k).sum).toNat) (f:Int) (c:Int) (w:Int) (r:Int) (n:Int) l (k:Int) acc=Lk q p (b.drop ((A:Int)+(l.take (k+j)).sum).toNat) (f:Int) (c:Int) (w:Int) (r:Int) (n:Int) l ((k+j:Nat):Int) (acc++Xr (λi=>(Kq b p f c w r n A l i).1) j k)
 |0,k,q,acc,_,_,_,_=>by simp[Xr]
 |j+1,k,q,acc,hk,hA,hg,hacc=>by
  have hnn:∀z∈l,0<=z:=λz hz=>by have:=o.five z hz;omega
  have m0:=jy hnn (show k<=k+(j+1) by omega);have m1:=jy hnn (show k+1<=k+(j+1) by omega);obtain⟨_,h2⟩:=yO (hb:=hb) o (k:=k) (by omega) (by omega) acc hacc;have h3:=(h2 (by omega)).1 (hg k (by omega) (by omega)) (q+j);obtain⟨m,x,s,e,g⟩:=IF o k (by omega);have Al4:=g.lens (Mk o.shape).2.1;have hs:(Kq b p f c w r n A l k).1.length<=12000:=by rw[g.eq];exact Al4.1
  have ih:=A7 j (k+1) q (acc++(Kq b p f c w r n A l k).1) (by omega) (by rw[show k+1+j=k+(j+1) by omega];exact hA) (λi h1 h2=>hg i (by omega) (by omega)) (by rw[Aai];omega);rw[show q+(j+1)=q+j+1 by omega,h3,ih,show k+1+j=k+(j+1) by omega,Xr,Ahm]
theorem Ah7{acc:LB}(hacc:acc.length<=13000000)(h0:(A:Int)+l.sum<=b.length)(h4:b.length<= (A:Int)+l.sum+4000)(q:Nat):Lk (q+1) p (b.drop ((A:Int)+l.sum).toNat) (f:Int) (c:Int) (w:Int) (r:Int) (n:Int) l (l.length:Int) acc=some (p,b.drop ((A:Int)+l.sum).toNat,(f:Int),(c:Int),(w:Int),(r:Int),(n:Int),l,(l.length:Int),acc,false,0,0):=by
 have hd:HdI (f:Int) (c:Int) (w:Int) (r:Int) (n:Int) f c w r n:=⟨rfl,rfl,rfl,rfl,rfl,o.shape,o.fit⟩;have hs1:=o.some1;have GV:=hd.num;have hfn:¬(geq (f:Int) 0=true):=by rw[Aq];simp;omega
 have hgl:¬(geq (Ac l) 0=true):=by rw[Aq,Ac,Asc];omega
 have hl0:0<=l.sum:=Aa2 l o.five;generalize hIn:b.drop ((A:Int)+l.sum).toNat=In;have As5:In.length=b.length-((A:Int)+l.sum).toNat:=by rw[<-hIn,Ahp]
 have hT:Ag p In (f:Int) (c:Int) (w:Int) (r:Int) (n:Int) l (l.length:Int) acc false 0=Ag p In (f:Int) (c:Int) (w:Int) (r:Int) (n:Int) l (l.length:Int) acc false 0:=rfl
 conv at hT=>rhs;rw[Ag,Bk,Aaa hfn,Br,Bo,Aaa hgl]
 rw[Aae (by rw[Aq,Ac];simp),Aaa (by rw[Ap,Ac];simp;omega)]at hT;exact EB (by omega) hs1.2 hacc hT
theorem Af0(q:Nat):Lk (q+2) p b 0 0 0 0 0 [] 0 []=Lk q p (b.drop A) (f:Int) (c:Int) (w:Int) (r:Int) (n:Int) l 0 []:=by
 rcases yS b p hb o.pass q with⟨e,he,h1,_⟩|⟨f',c',w',r',n',A',l',o',h2⟩
 ·have:=o.prog;rw[h1]at this;have:=Ap6 this;simp only[YR,Adm]at this;exact absurd this.2.2.2.2.2.2.2 he
 ·have hpr:=o'.prog;rw[o.prog]at hpr;simp only[Ab0,Adm]at hpr;obtain⟨v1,v2,v3,v4,v5,v6,v7,_⟩:=hpr;obtain rfl:f=f':=by omega
  obtain rfl:c=c':=by omega
  obtain rfl:w=w':=by omega
  obtain rfl:r=r':=by omega
  obtain rfl:n=n':=by omega
  obtain rfl:A=A':=by omega
  subst v7;exact h2
theorem Aok{K:Nat}(hK:K<=l.length)(hA:(A:Int)+(l.take K).sum<=b.length)(hg:∀i,i<K-> (Kq b p f c w r n A l i).2=0)(hend:(K<l.length/\b.length<(A:Int)+(l.take (K+1)).sum)\/ (K=l.length/\b.length<= (A:Int)+l.sum+4000)):
  Fd p b=some (p,b.drop ((A:Int)+(l.take K).sum).toNat,(f:Int),(c:Int),(w:Int),(r:Int),(n:Int),l,(K:Int),Xr (λi=>(Kq b p f c w r n A l i).1) K 0,false,0,0):=by
 obtain⟨q,hq⟩:∃q,Ba=(q+1+K)+2:=⟨Ba-(K+3),by have:=Ax;have:=o.some1;omega⟩;have hr:=A7 o hb K 0 (q+1) [] (by omega) (by rw[Avg];exact hA) (λi _ h2=>hg i (by omega)) (by simp);rw[Avn,Axe,Int.add_zero,Al6,Avg,Apz,show((0:Nat):Int)=0 from rfl]at hr;have hcl:(Xr (λi=>(Kq b p f c w r n A l i).1) K 0).length<=12000*K:=by
  have:∀j,j<=l.length-> (Xr (λi=>(Kq b p f c w r n A l i).1) j 0).length<=12000*j:=by
   intro j
   induction j with
   |zero=>intro _;simp[Xr]
   |succ j ih=>
    intro hj;obtain⟨m,x,s,e,g⟩:=IF o j (by omega);have Al4:=g.lens (Mk o.shape).2.1;have:=ih (by omega);have hs:(Kq b p f c w r n A l j).1.length<=12000:=by rw[g.eq];exact Al4.1
    rw[P4,Aai,Avg];omega
  exact this K hK
 rw[Fd,hq,Af0 o hb,hr];rcases hend with⟨h1,h2⟩|⟨rfl,h2⟩
 ·exact(yO o hb h1 hA _ hcl).1 h2 q
 ·rw[Atb]at hA⊢;exact Ah7 o hb (by have:=o.some1;omega) hA h2 q
end
theorem Bh.Au3{o s p:LB}{f c w r n:Int}{g:LI}{a:Int}{x:LB}{e:Int}(ho:o.length<=64)(h:Bh o s p f c w r n g a x e)(hp:p.length<=20000)(b:LB)(hb:b.length<=20000)(hs:(s++b).length<=100000)
  {p':LB} {f' c' w' r' n':Int} {g':LI} {a':Int} {x':LB} {e':Int} (hk:Fd o (s++b)=some (o,p',f',c',w',r',n',g',a',x',false,e',e')):
  Kz o p f c w r n g a x false e b=some (o,p',f',c',w',r',n',g',a',x',false,e',e')/\Bh o (s++b) p' f' c' w' r' n' g' a' x' e':=by
 obtain⟨p2,f2,c2,w2,r2,n2,g2,a2,x2,e2,h1,_,h3⟩:=h.feed ho hp b hb hs;have h4:=h3.fd hs;rw[hk]at h4;simp only[Ab0,Adm]at h4;obtain⟨_,rfl,rfl,rfl,rfl,rfl,rfl,rfl,rfl,rfl,_,rfl,_⟩:=h4;exact⟨h1,h3⟩
theorem Aca{w:Nat}(hw:Bn (w:Int)){X:LX}(hl:X.length<=4000)(hr:inR (w:Int) X):Ma (w:Int) X=some (Dq (w:Int) X,0):=XC hw hl (sZ hw hl hr)
inductive Pl (S D A:Int) (G:Nat->Int) (l:List Int) (a:Int):UInt8->Int->Int->Prop
 |t:a<S->Pl S D A G l a 1 0 0
 |h:S<=a->a<S+22->Pl S D A G l a 2 0 0
 |d:S+22<=a->a<D->Pl S D A G l a 3 0 0
 |s:S+22<=a->D<=a->a<A->Pl S D A G l a 4 0 0
 |f (i:Nat):S+22<=a->D<=a->A<=a->i<l.length->A+(l.take i).sum<=a->a<A+(l.take (i+1)).sum->Pl S D A G l a 5 i (G i)
 |b:S+22<=a->D<=a->A<=a->A+l.sum<=a->Pl S D A G l a 6 0 0
theorem Ak7{o b X:LB}{E:Int}(ho:o.length<=64)(hb:b.length<=20000)(As7:Ends o (Fd o b) X E):∃(p2:LB) (f2 c2 w2 r2 n2:Int) (g2:LI) (a2 e3:Int) (u:Bool) (v:Int),Kz o [] 0 0 0 0 0 [] 0 [] false 0 b=some (o,p2,f2,c2,w2,r2,n2,g2,a2,X,false,e3,e3)/\Fg o p2 f2 c2 w2 r2 n2 g2 a2 X false e3=some (o,[],0,0,0,0,0,[],0,X,u,v,E)/\ (e3=0\/e3=E):=by
 obtain⟨p2,f2,c2,w2,r2,n2,g2,a2,y2,e3,d1,_,d3⟩:=(Bh.new ho).feed ho (by simp) b (by omega) (by simp;omega);rw[Apz]at d3;have hs:=d3.Ah9;have hfd:=d3.fd (by omega);have hck:=d3.check ho (by omega);rcases As7 with⟨h0,h1⟩|⟨p,f,c,w,r,n,g,a,hpl,h1,h2⟩
 ·rw[hfd]at h1;simp only[Ab0,Adm]at h1;obtain⟨_,rfl,rfl,rfl,rfl,rfl,rfl,rfl,rfl,rfl,_,rfl,_⟩:=h1;obtain⟨u,v,k,k1,k2⟩:=d3.finish ho (by simp);rcases k2 with⟨rfl,rfl,k3,_,k4⟩|⟨rfl,rfl,rfl⟩
  ·have hk:v=e3:=by rcases k4 with h|h<;>omega
   subst hk;exact⟨_,_,_,_,_,_,_,_,_,_,_,d1,k1, .inr rfl⟩
  ·
   exfalso;cases d3 with
   |wt W=>omega
   |er h0 hc hx hB=>
    have:=(Are (o:=o) (u:=false) (v:=e3) (k:=e3) ho hx (.inl ⟨rfl,rfl,h0,hc⟩)).2.2;rw[this]at k1;simp only[Ab0,Adm]at k1;exact absurd k1.2.2.2.2.2.2.2.2.2.2.1 (by decide)
 ·rw[hfd]at h1;simp only[Ab0,Adm]at h1;obtain⟨_,rfl,rfl,rfl,rfl,rfl,rfl,rfl,rfl,rfl,_,rfl,_⟩:=h1;have hbg:=bU (o:=o) (p:=p2) (f:=f2) (c:=c2) (w:=w2) (r:=r2) (n:=n2) (g:=g2) (a:=a2) (x:=y2) (u:=false) (v:=0) (by omega) (by omega) (by omega) hck.1;rw[Aaa (by decide)]at hbg;obtain⟨e1,q1,q2⟩:=iK (o:=o) (p:=p2) (f:=f2) (c:=c2) (w:=w2) (r:=r2) (n:=n2) (a:=a2) (u:=false) (v:=0) (g:=g2) (x:=y2) (by omega);rw[h2]at q2;cases q2;have hF:Fg o p2 f2 c2 w2 r2 n2 g2 a2 y2 false 0=Fg o p2 f2 c2 w2 r2 n2 g2 a2 y2 false 0:=rfl
  conv at hF=>rhs;rw[Fg,hbg,Aa]
  simp only at hF;rw[Aaa (by decide),q1,Aa]at hF;by_cases he:Bq E 0=true
  ·rw[Aae he,US,Aa]at hF;exact⟨_,_,_,_,_,_,_,_,_,_,_,d1,hF, .inl rfl⟩
  ·have hE0:E=0:=by rw[Ah]at he;simpa using he
   rw[Aaa he,<-hE0]at hF;exact⟨_,_,_,_,_,_,_,_,_,_,_,d1,by rw[hE0]at hF⊢;exact hF, .inl rfl⟩
theorem V6{w:Nat}(hw:Bn (w:Int)){X:LX}(hX:X.length<=4000)(hr:inR (w:Int) X):GG (w:Int) (Dq (w:Int) X)=some (X,0):=by
 have h:=Q2 (Dq (w:Int) X) hw (m:=X.length) (IG hw X) hX;rw[D2 hw X hr]at h;exact h
theorem ClipOk.enc{c w r n:Nat}{x:List Int32}(h:ClipOk c w r n x){p:LB}(hp:p.length<=64):EncOk c w r p:=⟨h.ch,h.bits,h.rate,hp⟩
def Ahf(n:Nat):LB:=List.replicate (n %2) 0
def chB(c k:LB):LB:=c++Xa k.length 4++k++Ahf k.length
def TU(k m:LB):Nat:=20+k.length+k.length %2+m.length+m.length %2
def zi(k m:LB):LB:=[82,73,70,70]++Xa (TU k m) 4++[87,65,86,69]++chB [102,109,116,32] k++chB [100,97,116,97] m
abbrev two(k m:LB):List (LB×LB×Unit):=[([102,109,116,32],k,()),([100,97,116,97],m,())]
theorem All(n:Nat)(h:n<4611686018427387904):Kr (n:Int) (1:Int)=((n %2:Nat):Int):=by
 have e:Kr (n:Int) (1:Int)=wrap64 ((BitVec.ofInt 64 (n:Int)&&&BitVec.ofInt 64 1).toNat:Int):=rfl;rw[e,Ax1,Ata,Ata];have h1:((n:Int) %((2^64:Nat):Int)).toNat=n:=by omega
 have h2:((1:Int) %((2^64:Nat):Int)).toNat=2^1-1:=by decide
 rw[h1,h2,Avo,Db (by omega) (by omega)]
theorem Ad8:∃q,Ba=q+1+1+1:=⟨Ba-3,by have:=Ax;omega⟩
theorem MH(k m:LB):Ac (two k m)=2:=rfl
theorem Ael(k m:LB):Ao (two k m) 0=some ([102,109,116,32],k,()):=rfl
theorem Adz(k m:LB):Ao (two k m) 1=some ([100,97,116,97],m,()):=rfl
theorem g01:Af (0:Int) 1=1:=by decide
theorem g11:Af (1:Int) 1=2:=by decide
theorem Aqd{k m:LB}(hk:k.length<=100)(hm:m.length<=20000):OP (two k m)=some ((TU k m:Nat):Int):=by
 obtain⟨q,hq⟩:=Ad8;rw[OP,eE,dE,hq,EF,LC,MH,Aae (by decide),Ael,Aa,g01,EF,LC,MH,Aae (by decide),Adz,Aa,g11,EF,LC,MH,Aaa (by decide),dU,rH];simp only[Ac];rw[All _ (by omega),All _ (by omega)];have h1:Af (8:Int) (k.length:Int)=8+(k.length:Int):=Aj;have h2:Af (8:Int) (m.length:Int)=8+(m.length:Int):=Aj;have h3:Af (8+(k.length:Int)) ((k.length %2:Nat):Int)=8+(k.length:Int)+((k.length %2:Nat):Int):=Aj;have h4:Af (8+(m.length:Int)) ((m.length %2:Nat):Int)=8+(m.length:Int)+((m.length %2:Nat):Int):=Aj;have h5:Af (4:Int) (8+(k.length:Int)+((k.length %2:Nat):Int))=4+(8+(k.length:Int)+((k.length %2:Nat):Int)):=Aj;rw[h1,h2,h3,h4,h5,Aj];unfold TU;congr 1;omega
theorem Ava(k:LB):KX [102,109,116,32] k=some false:=by kernel_rfl
theorem Atm(k:LB):KX [100,97,116,97] k=some false:=by kernel_rfl
theorem Aso{k m:LB}(hk:k.length<=100)(hm:m.length<=20000):CR [87,65,86,69] (two k m)=some 0:=by
 obtain⟨q,hq⟩:=Ad8;rw[CR,QA,MH,Aaa (by decide),show YW [87,65,86,69]=some true from by kernel_rfl,Aa,Aaa (by decide),Aqd hk hm,Aa,Aaa (by
  rw[Aj (by unfold TU;omega) (by unfold TU;omega),Ap];unfold TU;simp;omega)]
 rw[XG,hq,Wm,DQ,MH,Aae (by decide),Ael,Aa];dsimp only;rw[Ava,Aa,MN,KU,Aaa (by decide),KG,WQ,g01,Wm,DQ,MH,Aae (by decide),Adz,Aa];dsimp only;rw[Atm,Aa,MN,KU,Aaa (by decide),KG,WQ,g11,Wm,DQ,MH,Aaa (by decide),XV,WH,KS,WN,DL,XM,Aaa (by decide),YN,iT]
theorem Aeo{o id:LB}{n:Nat}(ho:o.length<=100000)(hi:id.length<=4)(hn:n<4294967296):UX o id (n:Int)=some (o++id++Xa n 4):=by
 have h1:(UInt64.ofNat n).toNat=n:=by rw[Ad3];omega
 have h:=kF (UInt64.ofNat n) 4 (by omega) (by omega) (by rw[h1];omega);rw[h1]at h;rw[UX,Qi,show(4:Int)=((4:Nat):Int)from rfl,h,Aa];simp only;rw[Bi,Aa,Bi (by simp[Ch];omega)]
theorem Aur{o k:LB}{c:LB}{l:List (LB×LB×Unit)}(ho:o.length<=60000)(hc:c.length<=4)(hk:k.length<=20000):QS ((c,k,())::l) o=QS l (o++chB c k):=by
 rw[QS];dsimp only;rw[show Ac k=((k.length:Nat):Int)from rfl,Aeo (by omega) hc (by omega),Aa,Bi (by simp[Ch];omega),Aa,All _ (by omega),uT,Aa,Al6,Bi (by simp[Ch];omega),Aa];unfold chB Ahf;simp only[Ahm]
theorem Aa8{k m:LB}(hk:k.length<=100)(hm:m.length<=20000):PQ [87,65,86,69] (two k m)=some (zi k m,0):=by
 rw[PQ,Aso hk hm,Aa,Aaa (by decide),Aqd hk hm,Aa,Aeo (by simp) (by simp) (by unfold TU;omega),Aa,Bi (by simp[Ch]),Aa,Aur (by simp[Ch]) (by simp) (by omega),Aur (by simp[chB,Ahf,Ch];omega) (by simp) hm,QS,Aa];unfold zi;simp only[Apz,Ahm]
def Aje(c w r:Int)(g:UInt64):LB:=
 Xa g.toNat 2++Xa (Ad c:UInt64).toNat 2++Xa (Ad r:UInt64).toNat 4++Xa (Bm (Ad r:UInt64) (Ad (By (Bm c w) 8):UInt64)).toNat 4++Xa (Ad (By (Bm c w) 8):UInt64).toNat 2++Xa (Ad w:UInt64).toNat 2
theorem wr2(n:UInt64):Bd n 2=some (Xa n.toNat 2):=eN n 2 (by omega)
theorem wr4(n:UInt64):Bd n 4=some (Xa n.toNat 4):=eN n 4 (by omega)
theorem J1(c w r:Int)(g:UInt64):Qx c w r g=some (Aje c w r g):=by
 rw[Qx,wr2,Aa,wr2,Aa,Bi (by simp[Ch]),Aa,wr4,Aa,Bi (by simp[Ch]),Aa,wr4,Aa,Bi (by simp[Ch]),Aa,wr2,Aa,Bi (by simp[Ch]),Aa,wr2,Aa,Bi (by simp[Ch]),Aa];rfl
theorem EY{a:Bool}{n:Int}{f:LQ}{h:Int}{v:UInt64}{k:Nat}{b:LB}(q:Nat)(hn:h<n)(hg:Ao f h=some v)(hw:Ao ([(2:Int),(2:Int),(4:Int),(4:Int),(2:Int),(2:Int),(2:Int),(2:Int),(4:Int)]:LI) h=some (k:Int))
  (h1:1<=k) (h8:k<=8) (hv:v.toNat<256^k) (hb:b.length<=100):Fc a n f (q+1) h b=Fc a n f q (Af h 1) (b++Xa v.toNat k):=by
 rw[Fc,Vt,Aae (by rw[Ae];simpa using hn),hg,Aa,Aa,hw,Aa,kF v k h1 h8 hv,Aa];simp only;rw[Bi (by simp[Ch];omega),Aa]
theorem Arb:∃q,Ba=q+1+1+1+1+1+1+1+1+1+1:=⟨Ba-10,by have:=Ax;omega⟩
theorem Ap3{v0 v1 v2 v3 v4 v5:UInt64}{t:LQ}(h0:v0.toNat<65536)(h1:v1.toNat<65536)(h2:v2.toNat<4294967296)(h3:v3.toNat<4294967296)(h4:v4.toNat<65536)(h5:v5.toNat<65536)(a:Bool)(n:Int)(hn:6<=n):
  ∃q,DZ a n (v0::v1::v2::v3::v4::v5::t) 0 []=Fc a n (v0::v1::v2::v3::v4::v5::t) (q+1+1+1+1) 6 (Xa v0.toNat 2++Xa v1.toNat 2++Xa v2.toNat 4++Xa v3.toNat 4++Xa v4.toNat 2++Xa v5.toNat 2):=by
 obtain⟨q,hq⟩:=Arb;refine⟨q,?_⟩;have e:∀i:Nat,i<10->Af ((i:Nat):Int) 1=((i+1:Nat):Int):=λi hi=>by rw[Aj];omega
 rw[DZ,hq,
  EY (k:=2) _ (by omega) (show _=some v0 from rfl) rfl (by omega) (by omega) h0 (by simp),show Af (0:Int) 1=1 from e 0 (by omega),
  EY (k:=2) _ (by omega) (show _=some v1 from rfl) rfl (by omega) (by omega) h1 (by simp[Ch]),show Af (1:Int) 1=2 from e 1 (by omega),
  EY (k:=4) _ (by omega) (show _=some v2 from rfl) rfl (by omega) (by omega) h2 (by simp[Ch]),show Af (2:Int) 1=3 from e 2 (by omega),
  EY (k:=4) _ (by omega) (show _=some v3 from rfl) rfl (by omega) (by omega) h3 (by simp[Ch]),show Af (3:Int) 1=4 from e 3 (by omega),
  EY (k:=2) _ (by omega) (show _=some v4 from rfl) rfl (by omega) (by omega) h4 (by simp[Ch]),show Af (4:Int) 1=5 from e 4 (by omega),
  EY (k:=2) _ (by omega) (show _=some v5 from rfl) rfl (by omega) (by omega) h5 (by simp[Ch]),show Af (5:Int) 1=6 from e 5 (by omega)]
 simp only[Apz]
theorem Ajt{n:Int}{f:LQ}{b:LB}(q:Nat):Fc false n f (q+1) n b=some b:=by
 rw[Fc,Vt,Aaa (by rw[Ae];simp),EV,PX,Aaa (by decide)]
def qy:LB:=[1,0,0,0,0,0,16,0,128,0,0,170,0,56,155,113]
theorem Aha{n:Int}{f:LQ}{b:LB}(hb:b.length<=100)(q:Nat):Fc true n f (q+1) n b=some (b++qy):=by
 rw[Fc,Vt,Aaa (by rw[Ae];simp),EV,PX,Aae rfl,show Bp ([1,0,0,0,0,0,16,0,128,0,0,170,0,56,155,113]:LB) 0 16=some qy from by kernel_rfl,Aa,Bi (by simp[qy];omega),Aa]
theorem An3{c:Nat}(h1:1<=c)(h6:c<=6):(Ad (Au (Fe (1:UInt32) (GI.toZ (Ad (c:Int):UInt64)).toNat) 1):UInt64)=Au (Fe (1:UInt64) (GI.toZ (c:Int)).toNat) 1/\ (Au (Fe (1:UInt64) (GI.toZ (c:Int)).toNat) 1).toNat<4294967296:=by
 have:c=1\/c=2\/c=3\/c=4\/c=5\/c=6:=by omega
 rcases this with rfl|rfl|rfl|rfl|rfl|rfl<;>exact⟨by kernel_rfl,by decide⟩
theorem Ar9{c w:Nat}(h1:1<=c)(h6:c<=6)(hw:Bn (w:Int)){R:UInt64}(hR:R.toNat<=1048576):
  (Ad (c:Int):UInt64).toNat<65536/\ (Ad (By (Bm (c:Int) (w:Int)) 8):UInt64).toNat<65536/\ (Ad (w:Int):UInt64).toNat<65536/\ (Bm R (Ad (By (Bm (c:Int) (w:Int)) 8):UInt64)).toNat<4294967296:=by
 have hc:c=1\/c=2\/c=3\/c=4\/c=5\/c=6:=by omega
 have hw':w=8\/w=16\/w=24:=by unfold Bn at hw;omega
 have key:∀B:UInt64,B.toNat<=18-> (Bm R B).toNat<4294967296:=λB hB=>by
  have e:Bm R B=UInt64.ofNat (R.toNat*B.toNat):=by
   show GI.ofZ (((R.toNat:Nat):Int)*((B.toNat:Nat):Int))=_;rw[<-Ath];exact Ij _
  have:=Aul hR hB;rw[e,Ad3,Aah (by omega)];omega
 rcases hc with rfl|rfl|rfl|rfl|rfl|rfl<;>rcases hw' with rfl|rfl|rfl<;>exact⟨by decide,by decide,by decide,key _ (by decide)⟩
theorem Agr{c w r:Nat}(h1:1<=c)(h6:c<=6)(hw:Bn (w:Int))(hr1:1<=r)(hr:r<=1048576):MU (c:Int) (w:Int) (r:Int)=some 0:=by
 rw[MU,Aaa (by simp[Ae,Ap];omega)];have hw':w=8\/w=16\/w=24:=by unfold Bn at hw;omega
 rcases hw' with rfl|rfl|rfl
 ·rw[Aae (by decide),Aae (by decide)]
 ·rw[Aaa (by decide),Aae (by decide),Aae (by decide)]
 ·rw[Aaa (by decide),Aaa (by decide),Aae (by decide)]
theorem bI(c w r:Int)(g:UInt64):(Aje c w r g).length=16:=by simp[Aje,Ch]
theorem Ahl{c w r:Nat}(h1:1<=c)(h6:c<=6)(hw:Bn (w:Int))(hr1:1<=r)(hr:r<=1048576):
  ∃k:LB,MV (c:Int) (w:Int) (r:Int)=some (k,0)/\Lc (c:Int) (w:Int) (r:Int)=some k/\k.length<=100:=by
 have hR:(Ad (r:Int):UInt64).toNat=r:=by rw[Qi,Ad3];omega
 obtain⟨b1,b2,b3,b4⟩:=Ar9 h1 h6 hw (R:=(Ad (r:Int):UInt64)) (by omega);obtain⟨m1,m2⟩:=An3 h1 h6;have hok:Ue (Tp (c:Int) 0)=some ():=Cb (by rw[Ej];simp);rw[MV,aN,Agr h1 h6 hw hr1 hr,Aa,Aaa (by decide),Aa];simp only;rw[Aaa (by decide),hok,Aa,aZ,OL,Lc,HX,Aa];by_cases hb:(Fb (c:Int) 2||Fb (w:Int) 16)=true
 ·rw[hb,Aae rfl,Aae rfl];generalize hM:Au (Fe (1:UInt64) (GI.toZ (c:Int)).toNat) 1=M at m1 m2⊢;refine⟨Aje c w r 65534++[22,0]++Xa (Ad (w:Int):UInt64).toNat 2++Xa M.toNat 4++qy,?_,?_,?_⟩
  ·rw[show Ao _ 0=some (1:UInt64)from rfl,Aa,show Ux _ 0 65534=some ((65534:UInt64)::_)from rfl,Aa,FB,EW];obtain⟨q,hq⟩:=Ap3 (v0:=65534) (t:=[22,Ad (w:Int),M]) (by decide) b1 (by rw[hR];omega) b4 b2 b3 true 9 (by omega);rw[hq,EY (k:=2) _ (by omega) (show _=some (22:UInt64)from rfl) rfl (by omega) (by omega) (by decide) (by simp[Ch]),show Af (6:Int) 1=7 from by decide,
    EY (k:=2) _ (by omega) (show _=some (Ad (w:Int):UInt64)from rfl) rfl (by omega) (by omega) b3 (by simp[Ch]),show Af (7:Int) 1=8 from by decide,
    EY (k:=4) _ (by omega) (show _=some M from rfl) rfl (by omega) (by omega) m2 (by simp[Ch]),show Af (8:Int) 1=9 from by decide,Aha (by simp[Ch]),Aa]
   rfl
  ·rw[FP,J1,Aa,Bi (by simp[bI]),Aa,wr2,Aa,Bi (by simp[bI,Ch]),Aa,m1,wr4,Aa,Bi (by simp[bI,Ch]),Aa,Bi (by simp[bI,Ch]),Aa,Aa];rfl
  ·simp[bI,Ch,qy]
 ·have hb':(Fb (c:Int) 2||Fb (w:Int) 16)=false:=by simpa using hb
  rw[hb',Aaa (by decide),Aaa (by decide)];refine⟨Aje c w r 1,?_,?_,by rw[bI];omega⟩
  ·rw[FB,EW];obtain⟨q,hq⟩:=Ap3 (v0:=1) (t:=[22,Ad (w:Int),Au (Fe (1:UInt64) (GI.toZ (c:Int)).toNat) 1]) (by decide) b1 (by rw[hR];omega) b4 b2 b3 false 6 (by omega);rw[hq,Ajt,Aa];rfl
  ·rw[HV,J1,Aa,Aa]
theorem J7{bits a r:Int}(h:Bn bits)(l:List Int32)(hl:l.length<=4000)(hr:inR bits l):∀(j i q:Nat),i+j=l.length->j<q->Ki a bits r l q (i:Int) (Dq bits (l.take i))=some (Dq bits l)
 |0,i,q+1,hi,_=>by
  rw[Ki,Tr,Aaa (by rw[Ae,Ac];simp;omega),Avq (by omega)];rfl
 |j+1,i,q+1,hi,hq=>by
  have hlt:i<l.length:=by omega
  have ih:=J7 (a:=a) (r:=r) h l hl hr j (i+1) q (by omega) (by omega);have hlen:=DU bits (l.take i);have hol:=wI bits l[i].toInt;rw[Al5]at hlen;have e2:Dq bits (l.take i++[l[i]])=Dq bits (l.take i)++NA bits l[i].toInt:=by unfold Dq;rw[List.flatMap_append,List.flatMap_singleton]
  rw[OS hlt,e2]at ih;rw[Ki,Tr,Aae (by rw[Ae,Ac];simp;omega),Ce hlt,Aa,Acv h _ (hr l[i] (Anw _)),Aa,Bi,Aa,Aj];exact ih
theorem Aig{bits a r:Int}(h:Bn bits){l:List Int32}(hl:l.length<=4000)(hr:inR bits l):Fk a bits r l=some (Dq bits l):=by
 have h1:=J7 (a:=a) (r:=r) h l hl hr l.length 0 Ba (by omega) (by have:=Ax;omega);rw[Fk,DP];exact h1
theorem Aj0(n:Nat):Ko (n:Int) 2=((n %2:Nat):Int):=by
 show Int.tmod (n:Int) 2=_;rw[Awb (by omega)];omega
theorem Arh{k m:LB}(hk:k.length<=100)(hm:m.length<=20000):BI (two k m)=some ((TU k m+8:Nat):Int):=by
 obtain⟨q,hq⟩:=Ad8;rw[BI,DT,BS,hq,Kf,Nh,MH,Aae (by decide),Ael,Aa,Aa,g01,Kf,Nh,MH,Aae (by decide),Adz,Aa,Aa,g11,Kf,Nh,MH,Aaa (by decide),CV,SH];simp only[Ac];rw[Aj0,Aj0];have h1:Af (8:Int) (k.length:Int)=8+(k.length:Int):=Aj;have h2:Af (8:Int) (m.length:Int)=8+(m.length:Int):=Aj;have h3:Af (8+(k.length:Int)) ((k.length %2:Nat):Int)=8+(k.length:Int)+((k.length %2:Nat):Int):=Aj;have h4:Af (8+(m.length:Int)) ((m.length %2:Nat):Int)=8+(m.length:Int)+((m.length %2:Nat):Int):=Aj;have h5:Af (12:Int) (8+(k.length:Int)+((k.length %2:Nat):Int))=12+(8+(k.length:Int)+((k.length %2:Nat):Int)):=Aj;rw[h1,h2,h3,h4,h5,Aj];unfold TU;congr 1;omega
theorem Auy{c k:LB}{l:List (LB×LB×Unit)}{i:Nat}{o:LB}{q:Nat}(hi:i<l.length)(hg:Ao l (i:Int)=some (c,k,()))(hl:l.length<=10)(ho:o.length<=60000)(hc:c.length<=4)(hk:k.length<=20000):
  Ge l (q+1) (i:Int) o=Ge l q ((i+1:Nat):Int) (o++chB c k):=by
 have h1:(UInt64.ofNat k.length).toNat=k.length:=by rw[Ad3];omega
 rw[Ge,Rb,Aae (by rw[Ae,Ac];simp;omega),hg,Aa];dsimp only;rw[Bi,Aa,Aa];dsimp only;rw[show Ac k=((k.length:Nat):Int)from rfl,Qi,wr4,Aa,h1,Bi (by simp[Ch];omega),Aa,Aa];dsimp only;rw[Bi (by simp[Ch];omega),Aa,Aa];dsimp only;rw[show Ac k=((k.length:Nat):Int)from rfl,Aj0];have e:Af (i:Int) 1=((i+1:Nat):Int):=by rw[Aj];omega
 by_cases h:k.length %2=1
 ·rw[h,Aae (by decide),Bi (by simp[Ch];omega),Aa,e];unfold chB Ahf;rw[h];simp only[Ahm,List.replicate]
 ·have h0:k.length %2=0:=by omega
  rw[h0,Aaa (by decide),e];unfold chB Ahf;rw[h0];simp only[Ahm,List.replicate,Apk]
theorem Ai8{k m:LB}(hk:k.length<=100)(hm:m.length<=20000):Er [87,65,86,69] (two k m)=some (zi k m):=by
 obtain⟨q,hq⟩:=Ad8;have h1:(UInt64.ofNat (TU k m)).toNat=TU k m:=by rw[Ad3];unfold TU;omega
 have e:Au ((TU k m+8:Nat):Int) 8=((TU k m:Nat):Int):=by rw[Bw (by unfold TU;omega) (by unfold TU;omega)];omega
 rw[Er,AG,Arh hk hm,Aa,e,Qi,wr4,Aa,h1,Bi (by simp[Ch]),Aa,Bi (by simp[Ch]),Aa,Zj,hq,
  show(0:Int)=((0:Nat):Int)from rfl,Auy (i:=0) (c:=[102,109,116,32]) (k:=k) (by simp) (Ael k m) (by simp) (by simp[Ch]) (by simp) (by omega),Auy (i:=1) (c:=[100,97,116,97]) (k:=m) (by simp) (Adz k m) (by simp) (by simp[chB,Ahf,Ch];omega) (by simp) hm,
  Ge,Rb,Aaa (by rw[MH];decide),Zo,NQ]
 unfold zi;simp only[Ahm]
theorem Aln{c w r n:Nat}{x:List Int32}(h:ClipOk c w r n x)(hc:Jn (c:Int) (w:Int) (r:Int) x=some 0):∃b:LB,VB (c:Int) (w:Int) (r:Int) x=some (b,0)/\Hh (c:Int) (w:Int) (r:Int) x=some b:=by
 obtain⟨k,k1,k2,k3⟩:=Ahl h.ch.1 h.ch.2 h.bits h.rate.1 h.rate.2;have hx:=h.le.2.2.2;have hb:=DU (w:Int) x;refine⟨zi k (Dq (w:Int) x),?_,?_⟩
 ·rw[VB,hc,Aa,Aaa (by decide),k1,Aa];simp only;rw[Aca h.bits hx h.rng,Aa];simp only;rw[Aa8 (by omega) (by omega),Aa]
 ·rw[Hh,Qs,Aa];simp only;rw[k2,Aa,Aig h.bits hx h.rng,Aa,Ai8 (by omega) (by omega),Aa]
theorem Ao1{b p:LB}{f c w r n A:Nat}{l:List Int}(o:Opn b p f c w r n A l)(h0:(lD b p f c w r n A l).2.2.2.2=0):
  ∃(x:LX) (m:Nat),lD b p f c w r n A l=((c:Int),(w:Int),(r:Int),x,0)/\ClipOk c w r m x/\Jn (c:Int) (w:Int) (r:Int) x=some 0:=by
 unfold lD QY at h0⊢;by_cases hy:(YP (λk=>uH w (Kq b p f c w r n A l k)) (λk=>(Kq b p f c w r n A l k).2) (fB b A l) l.length 0 []).2=0
 ·obtain⟨_,hE,hX⟩:=rB _ _ _ l.length 0 [] hy;have hE':∀i,i<l.length-> (Kq b p f c w r n A l i).2=0:=λi hi=>hE i (by omega) (by omega);rw[Aaa (by rw[hy];simp),hX,Apz];have ht:=sN o hE';have hi:=wH o hE' l.length 0 (by omega);have hn:=(Mk o.shape).2.2.2.1;have hc:=Aon o hn (Alw _) ht hi;rcases nk (c:Int) (w:Int) (r:Int) (Xr (λi=>uH w (Kq b p f c w r n A l i)) l.length 0)with⟨e8,_⟩|⟨c',w',r',m,e1,e2,e3,hk,_,e⟩
  ·rw[hc]at e8;cases e8
  ·obtain rfl:c=c':=by omega
   obtain rfl:w=w':=by omega
   obtain rfl:r=r':=by omega
   exact⟨_,m,rfl,hk,e⟩
 ·rw[Aae hy]at h0;exact absurd h0 hy
theorem R4{b p:LB}(hb:b.length<=20000)(hp:p.length<=64):∃(x1 x2 x3:Int) (x4:LX) (E:Int),Jf b p=some (x1,x2,x3,x4,E)/\Eg b p=some (x1,x2,x3,x4,E)/\Qu b p=some (x1,x2,x3,x4,E)/\x4.length<=4000000:=by
 obtain⟨X,y1,y2,y3,y4,E,As7,vA,_⟩:=Agk b p hb hp;obtain⟨p2,f2,c2,w2,r2,n2,g2,a2,e3,u,v,k1,k2,k3⟩:=Ak7 hp hb As7;obtain⟨q2,q3,q4,q5,q6,q7,q8,q9,q10,q11,d1,d2,d3⟩:=(Bh.new hp).feed hp (by simp) b (by omega) (by simp;omega);rw[k1]at d1;simp only[Ab0,Adm]at d1;obtain⟨_,rfl,rfl,rfl,rfl,rfl,rfl,rfl,rfl,rfl,_,rfl,_⟩:=d1;have hsz:=d3.Ah9;have hsl:([]++b).length<=20000:=by simpa using hb
 have k2r:Pd p p2 f2 c2 w2 r2 n2 g2 a2 X false e3=some (p,[],0,0,0,0,0,[],0,X,u,v,E):=by
  obtain⟨_,_,_,_,_,_,_,_,_,_,_,_,_,r1,r2,_⟩:=Z7 (o:=p) (p:=p2) (f:=f2) (c:=c2) (w:=w2) (r:=r2) (n:=n2) (g:=g2) (a:=a2) (x:=X) (u:=false) (v:=e3) (by omega) (by omega) (by omega);rw[k2]at r1;rw[r2,<-r1]
 by_cases hE:E=0
 rotate_left
 ·have hbad:Qu b p=some (mK E):=by
   rcases pK b p (by omega) hp with⟨e,he,h1,_,h3,_⟩|⟨f,c,w,r,n,A,l,o,h3,_⟩
   ·rw[h3]at vA⊢;have:=Ap6 vA;simp only[mK,Adm]at this;rw[this.2.2.2.2]
   ·rw[h3]at vA⊢;have hce:=Ap6 vA;rw[lD,QY]at hce⊢;by_cases hne:(YP (λk=>uH w (Kq b p f c w r n A l k)) (λk=>(Kq b p f c w r n A l k).2) (fB b A l) l.length 0 []).2≠0
    ·rw[Aae hne]at hce⊢;simp only[mK,Adm]at hce;rw[hce.2.2.2.2]
    ·rw[Aaa hne]at hce;simp only[Adm]at hce;exact absurd hce.2.2.2.2.symm hE
  refine⟨0,0,0,[],E,?_,?_,hbad,by simp⟩
  ·rw[Jf,RR,Aaa (by rw[Ap,Ac];simp;omega),Aa];simp only;rw[Aaa (by decide),k1,Aa];simp only;by_cases h0:e3=0
   ·rw[Aaa (by rw[h0];decide),k2,Aa];simp only;rw[Aae (by rw[Ah];simpa using hE)]
   ·have:e3=E:=by
     rcases k3 with h|h
     ·exact absurd h h0
     ·exact h
    rw[Aae (by rw[Ah];simpa using h0),this]
  ·rw[Eg,Wo,Aaa (by rw[Ap,Ac];simp;omega),Aa];simp only;rw[Aaa (by decide),d2,Aa];simp only;by_cases h0:e3=0
   ·rw[Aaa (by rw[h0];decide),k2r,Aa];simp only;rw[Aae (by rw[Ah];simpa using hE)]
   ·have:e3=E:=by
     rcases k3 with h|h
     ·exact absurd h h0
     ·exact h
    rw[Aae (by rw[Ah];simpa using h0),this]
 ·subst hE;have he3:e3=0:=by rcases k3 with h|h<;>exact h
  subst he3;rcases pK b p (by omega) hp with⟨e,he,h1,_,h3,_⟩|⟨f,c,w,r,n,A,l,o,h3,_⟩
  ·rw[h3]at vA;have:=Ap6 vA;simp only[mK,Adm]at this;exact absurd this.2.2.2.2 he
  rw[h3]at vA;have hce:=Ap6 vA;have hs1:=o.some1;have hlen:=o.len;obtain⟨hcc,hw,hr,hn,_⟩:=Mk o.shape;have hfit:n<=4000/c:=by have:=o.fit;simp only[FN,Aaf]at this;exact this.1
  have hnc:n*c<=4000:=by
   have a1:=Ab5 c hfit;have a2:=Atd 4000 c;omega
  have hcl0:(YP (λk=>uH w (Kq b p f c w r n A l k)) (λk=>(Kq b p f c w r n A l k).2) (fB b A l) l.length 0 []).2=0:=by
   refine Classical.byContradiction λhne=>?_;rw[lD,QY,Aae hne]at hce;simp only[mK,Adm]at hce;exact hne hce.2.2.2.2
  obtain⟨b0,hall,hX4⟩:=rB _ _ _ _ _ _ hcl0;rw[Apz]at hX4;have hgood:∀i,i<l.length-> (Kq b p f c w r n A l i).2=0:=λi hi=>hall i (by omega) (by omega);have hAl:(A:Int)+l.sum<=b.length:=Aib o (by rw[hce]);have hbl:b.length<= (A:Int)+l.sum+4000:=by
   refine Int.not_lt.1 λhlt=>?_;have:(Tt (b.drop ((A:Int)+l.sum).toNat)).2=38:=by rw[Tt,Aae (by rw[Ahp];have:=Aa2 l o.five;omega)]
   rw[fB,this]at b0;exact absurd b0 (by decide)
  have hfd:=Aok o hb (K:=l.length) (Alw _) (by rw[Atb];exact hAl) hgood (.inr ⟨rfl,hbl⟩);have hbh:=((Bh.new hp).Au3 hp (by simp) b (by omega) (by simp;omega) (by rw[Apz];exact hfd)).1;rw[k1]at hbh;simp only[Ab0,Adm]at hbh;obtain⟨_,rfl,rfl,rfl,rfl,rfl,rfl,i8,rfl,rfl,_⟩:=hbh;have i8:=i8.symm;subst i8;have hw8:¬(((geq (f:Int) 0)&&((geq (c:Int) 0)&&((geq (w:Int) 0)&&((geq (r:Int) 0)&&((geq (n:Int) 0)&&true)))))=true):=by
   have:geq (n:Int) 0=false:=by rw[Aq,beq_eq_false_iff_ne];omega
   rw[this];simp
  have htot:=sN o hgood;have hin:=wH o hgood l.length 0 (by omega);have hby:=sR o hgood l.length 0 (by omega);have hsb:=V6 hw (X:=Xr (λi=>uH w (Kq b p f c w r n A l i)) l.length 0) (by omega) hin;rw[hby]at hsb;refine⟨(c:Int),(w:Int),(r:Int),Xr (λi=>uH w (Kq b p f c w r n A l i)) l.length 0,0,?_,?_,?_,by omega⟩
  ·rw[Jf,RR,Aaa (by rw[Ap,Ac];simp;omega),Aa];simp only;rw[Aaa (by decide),k1,Aa];simp only;rw[Aaa (by decide),k2,Aa];simp only;rw[Aaa (by decide),Aaa hw8,hsb,Aa];simp only;rw[Aaa (by decide)]
  ·have hsr:=Y9 (b:=Dq (w:Int) (Xr (λi=>uH w (Kq b p f c w r n A l i)) l.length 0)) hw (IG hw _) (by omega);rw[D2 hw _ hin,hby]at hsr;rw[Eg,Wo,Aaa (by rw[Ap,Ac];simp;omega),Aa];simp only;rw[Aaa (by decide),d2,Aa];simp only;rw[Aaa (by decide),k2r,Aa];simp only;rw[Aaa (by decide),hsr,Aa]
  ·rw[h3,lD,QY,Aaa (by rw[hcl0];simp),hX4]
theorem Amn{b p:LB}(hb:b.length<=100100)(hp:p.length<=64){x1 x2 x3:Int}{x4:LX}(h:Qu b p=some (x1,x2,x3,x4,0)):∃y:LB,VB x1 x2 x3 x4=some (y,0)/\Hh x1 x2 x3 x4=some y:=by
 rcases pK b p hb hp with⟨e,he,_,_,h1,_⟩|⟨f,c,w,r,n,A,l,o,h1,_⟩
 ·rw[h]at h1;simp only[mK,Ab0,Adm]at h1;exact absurd h1.2.2.2.2.symm he
 ·rw[h]at h1;have h1':=(Ap6 h1).symm;obtain⟨x,m,e,hk,hc⟩:=Ao1 o (by rw[h1']);rw[h1']at e;simp only[Adm]at e;obtain⟨rfl,rfl,rfl,rfl,_⟩:=e;exact Aln hk hc
theorem Ao0(a b:LB)(ha:a.length<=20000):∃(h k m:Int) (n:LX) (f:Int) (y:LB) (z:Int),Jf a b=some (h,k,m,n,f)/\Eg a b=some (h,k,m,n,f)/\Za a b=some (y,z)/\Mu a b=some (y,z)/\n.length<=4000000:=by
 have fin:∀(h k m:Int) (n:LX) (f:Int),Jf a b=some (h,k,m,n,f)->Eg a b=some (h,k,m,n,f)->n.length<=4000000-> (f=0->∃y:LB,VB h k m n=some (y,0)/\Hh h k m n=some y)->
   ∃(h k m:Int) (n:LX) (f:Int) (y:LB) (z:Int),Jf a b=some (h,k,m,n,f)/\Eg a b=some (h,k,m,n,f)/\Za a b=some (y,z)/\Mu a b=some (y,z)/\n.length<=4000000:=by
  intro h k m n f h1 h2 h3 h4;by_cases h0:f=0
  ·obtain⟨y,w1,w2⟩:=h4 h0;subst h0;refine⟨h,k,m,n,0,y,0,h1,h2,?_,?_,h3⟩
   ·rw[Za,EU,h1,Aa];simp only;rw[EX,EG,Aaa (by decide),w1,Aa];rfl
   ·rw[Mu,h2,Aa];simp only;rw[Aaa (by decide),w2,Aa]
  ·refine⟨h,k,m,n,f,[],f,h1,h2,?_,?_,h3⟩
   ·rw[Za,EU,h1,Aa];simp only;rw[EX,EG,Aae (by rw[Ah];simpa using h0)];rfl
   ·rw[Mu,h2,Aa];simp only;rw[Aae (by rw[Ah];simpa using h0)]
 by_cases hb:b.length<=64
 ·obtain⟨x1,x2,x3,x4,E,h1,h2,h3,h4⟩:=R4 ha hb;exact fin x1 x2 x3 x4 E h1 h2 h4 λh0=>Amn (by omega) hb (h0▸h3)
 ·refine fin 0 0 0 [] 2 ?_ ?_ (by simp) (λh=>by cases h)
  ·rw[Jf,RR,Aae (by rw[Ap,Ac];simp;omega),Aa];simp only;rw[Aae (by decide)]
  ·rw[Eg,Wo,Aae (by rw[Ap,Ac];simp;omega),Aa];simp only;rw[Aae (by decide)]
theorem law_OneshotDecodes(a b:LB):Pu a b=some true:=by
 rw[Pu,MA,Aa];split
 ·rfl
 ·rename_i hL;have ha:a.length<=20000:=by
   simp[Ap,Ae,Ac]at hL;omega
  obtain⟨h,k,m,n,f,y,z,h1,h2,h3,h4,h5⟩:=Ao0 a b ha;rw[h1,Aa];simp only;rw[h2,Aa];simp only;rw[h3,Aa];simp only;rw[h4,Aa];simp only;rw[Asi _ _ _ _ h5,Aa];simp[Aq]
end Go.Pl
