/- A part of a proof (see the text that ends in Proof). No conditions. -/
import Derived.Test.YtgomgobgfhhahaaGreatDoorCmWA
import Derived.KernelRfl
set_option linter.unusedVariables false
set_option linter.unusedSimpArgs false
namespace Go.Pl
open Go Go.Lv
theorem Abv(g:Nat):∀K:Nat,(List.replicate K (g:Int)).sum=((K*g:Nat):Int)
 |0=>by simp
 |K+1=>by
  rw[Bcb,Azg,Abv g K,Bgg];omega
theorem qX{g n:Nat}(hn:1<=n):(Ak g n).sum=(n:Int):=by
 have h:=Bcc (n-1) g;rw[Ak,List.sum_append,Abv];simp only[Azg,Bgh];omega
theorem Adf:∀{l:List Int},(∀x∈l,0<=x)->0<=l.sum
 |[],_=>by simp
 |x::l,h=>by
  have h1:=h x Avi;have h2:=Adf (l:=l) λy hy=>h y (Ama _ hy);rw[Azg];omega
theorem mB{l:List Int}(h:∀x∈l,0<=x)(i:Nat):0<= (l.take i).sum/\ (l.take i).sum<=l.sum:=by
 have h1:=Adf (l:=l.take i) λx hx=>h x (Bgp hx);have h2:=Adf (l:=l.drop i) λx hx=>h x (Be1 hx);have:=Abh l i;omega
def HT(c w:Nat)(fr:List Int)(k:Nat):Int:=(((fr.take k).sum.toNat*(c*wB (w:Int)):Nat):Int)
section
variable {f c w r n:Nat} (h1:Fu f c w r n=true) (h2:Yj c r n=true)
include h1 h2
theorem QL:(∀x∈Ak (Ag r) n,0<=x)/\ (Ak (Ag r) n).sum=(n:Int)/\n<=4000:=by
 obtain⟨hc,hw,hr,hn,_⟩:=Uu h1;have hfit:n<=4000/c:=by simp only[Yj,Adx]at h2;exact h2.1
 have hn4:n<=4000:=by have:=Aq1 4000 c;omega
 refine⟨λx hx=>?_,qX hn,hn4⟩;obtain⟨m,rfl,_⟩:=Zz (Em r) hn hx;omega
end
theorem Ajh(C W:Nat)(fr:List Int):HT C W fr 0=0:=by rw[HT,Bbt,Bgh];simp
theorem Ajf(C W:Nat){fr:List Int}(hp:∀z∈fr,0<=z){A m:Nat}(hA:A<fr.length)(hm:fr[A]=(m:Int)):HT C W fr (A+1)=HT C W fr A+((m*C*wB (W:Int):Nat):Int):=by
 have hs:0<= (fr.take A).sum:=by
  have:∀l:List Int,(∀z∈l,0<=z)->0<=l.sum:=by
   intro l
   induction l with
   |nil=>intro _;simp
   |cons a l ih=>intro h;rw[Azg];have:=h a (by simp);have:=ih (λz hz=>h z (by simp[hz]));omega
  exact this _ λz hz=>hp z (Bgp hz)
 have e:(fr.take (A+1)).sum=(fr.take A).sum+m:=by rw[Lb hA,List.sum_append,Azg,Bgh,hm];omega
 rw[HT,HT,e];have:((fr.take A).sum+(m:Int)).toNat=(fr.take A).sum.toNat+m:=by omega
 rw[this,Ajz,Azk m];omega
theorem uB{bits:Int}(h:Bl bits){l:List Int32}(hl:l.length<=4000)(hr:xq bits l):Ay bits l=some 0:=by
 have hh:=FL bits;have key:∀(j i q:Nat),i+j=l.length->j<q->Ba l (hB bits) q (i:Int)=some 0:=by
  intro j
  induction j with
  |zero=>
   intro i q hi hq;obtain⟨q,rfl⟩:∃k,q=k+1:=⟨q-1,by omega⟩;rw[Ba,Df,Aan (by rw[Ae,Ac];simp;omega)];rfl
  |succ j ih=>
   intro i q hi hq;obtain⟨q,rfl⟩:∃k,q=k+1:=⟨q-1,by omega⟩;have hx:=hr l[i] (Aqp (by omega));rw[Ba,Df,Acf (by rw[Ae,Ac];simp;omega),Br,Aa,Aa,Gk,Acb,De (by omega) (by omega),Aj,Ae,Ea,Aan (by simp;omega),Aan (by simp;omega)];exact ih (i+1) q (by omega) (by omega)
 rw[Ay,Ed,WQ h,Aa,Aan (by rw[As];simp;omega),Aan (by rw[Aq,Ac];simp;omega)];exact key l.length 0 Au (by omega) (by have:=Ar;omega)
theorem ig(bits:Int)(a b:List Int32):Dz bits (a++b)=Dz bits a++Dz bits b:=by unfold Dz;rw[List.flatMap_append]
def NK{α:Type}(G:Nat->List α):Nat->Nat->List α
 |0,_=>[]
 |j+1,k=>G k++NK G j (k+1)
theorem Afk{α:Type}(G:Nat->List α):∀(i j k:Nat),NK G (i+j) k=NK G i k++NK G j (k+i)
 |0,j,k=>by simp[NK]
 |i+1,j,k=>by
  rw[show i+1+j=(i+j)+1 by omega,NK,NK,Afk G i j (k+1),Ae8,show k+1+i=k+(i+1) by omega]
theorem Ap7{α:Type}(G:Nat->List α)(i k:Nat):NK G (i+1) k=NK G i k++G (k+i):=by
 rw[Afk G i 1 k];simp[NK]
theorem Ae2(w:Nat)(G:Nat->List UInt8×Int)(be:Int):∀(j k:Nat) (acc:List UInt8) (Bb8:List Int32),(nR G be j k acc).2=(pG (λk=>smF w (G k)) (λk=>(G k).2) be j k Bb8).2
 |0,k,acc,Bb8=>by
  rw[nR,pG];split<;>rfl
 |j+1,k,acc,Bb8=>by
  rw[nR,pG];split
  ·rfl
  ·exact Ae2 w G be j (k+1) _ _
theorem Ag1(X:Nat->List Int32)(E:Nat->Int)(be:Int):∀(j k:Nat) (acc:List Int32),(pG X E be j k acc).2=0->be=0/\ (∀i,k<=i->i<k+j->E i=0)/\ (pG X E be j k acc).1=acc++NK X j k
 |0,k,acc,h=>by
  rw[pG]at h⊢;by_cases hb:be≠0
  ·rw[Acf hb]at h;cases h
  ·rw[Aan hb];exact⟨by simpa using hb,λi h1 h2=>by omega,by simp[NK]⟩
 |j+1,k,acc,h=>by
  rw[pG]at h⊢;by_cases hb:E k≠0
  ·rw[Acf hb]at h;exact absurd h hb
  ·rw[Aan hb]at h⊢;obtain⟨h1,h2,h3⟩:=Ag1 X E be j (k+1) _ h;refine⟨h1,λi i1 i2=>?_,?_⟩
   ·by_cases hi:i=k
    ·subst hi;simpa using hb
    ·exact h2 i (by omega) (by omega)
   ·rw[h3,NK,Ae8]
theorem Aad(G:Nat->List UInt8×Int):∀(j k:Nat) (acc:List UInt8),(∀i,k<=i->i<k+j-> (G i).2=0)->nR G 0 j k acc=(acc++NK (λi=>(G i).1) j k,0)
 |0,k,acc,h=>by
  rw[nR,Aan (by simp),NK];simp
 |j+1,k,acc,h=>by
  rw[nR,Aan (by rw[h k (by omega) (by omega)];simp),Aad G j (k+1) _ λi h1 h2=>h i (by omega) (by omega),NK,Ae8]
section
variable {b p:List UInt8} {f c w r n A:Nat} {l:List Int} (o:Opn b p f c w r n A l) (hE:∀i,i<l.length-> (GA b p f c w r n A l i).2=0)
include o hE
theorem Adt(i:Nat)(hi:i<l.length):∃m:Nat,Ap (Ak (Ag r) n) (i:Int)=some (m:Int)/\1<=m/\ (GA b p f c w r n A l i).1=Dz (w:Int) (smF w (GA b p f c w r n A l i))/\ (smF w (GA b p f c w r n A l i)).length=m*c/\xq (w:Int) (smF w (GA b p f c w r n A l i)):=by
 have hw:=(Uu o.shape).2.1;obtain⟨m,x,s,e,g⟩:=tD o i hi;have h0:=hE i hi;have hsm:=g.O6 hw;have hl:=g.lens hw;rw[g.eq]at h0⊢;rw[hsm];obtain⟨h1,h2,h3,_⟩:=g.some' h0;exact⟨m,g.mom,g.pos.1,h1,h2,jV hw (by omega) h3⟩
theorem Aar:∀(j k:Nat),k+j<=l.length->Dz (w:Int) (NK (λi=>smF w (GA b p f c w r n A l i)) j k)=NK (λi=>(GA b p f c w r n A l i).1) j k
 |0,k,_=>rfl
 |j+1,k,h=>by
  obtain⟨m,_,_,h1,_⟩:=Adt o hE k (by omega);rw[NK,NK,ig,Aar j (k+1) (by omega),<-h1]
theorem Am0:∀(j k:Nat),k+j<=l.length->xq (w:Int) (NK (λi=>smF w (GA b p f c w r n A l i)) j k)
 |0,k,_=>λx hx=>by simp[NK]at hx
 |j+1,k,h=>by
  obtain⟨m,_,_,_,_,h1⟩:=Adt o hE k (by omega);intro x hx;rw[NK,List.mem_append]at hx;rcases hx with hx|hx
  ·exact h1 x hx
  ·exact Am0 j (k+1) (by omega) x hx
theorem Am7:∀(j:Nat),j<=l.length-> (NK (λi=>smF w (GA b p f c w r n A l i)) j 0).length=((Ak (Ag r) n).take j).sum.toNat*c
 |0,_=>by simp[NK]
 |j+1,h=>by
  obtain⟨m,h0,_,_,h1,_⟩:=Adt o hE j (by omega);have hlen:=o.len;have hlt:j<(Ak (Ag r) n).length:=by omega
  rw[Br hlt]at h0;have h0':=Bba h0;obtain⟨g1,g2,g3⟩:=QL o.shape o.fit;have b:=mB g1 j;rw[Ap7,Adl,Am7 j (by omega),Bcg,h1,Mp hlt,h0'];rw[show(((Ak (Ag r) n).take j).sum+(m:Int)).toNat=((Ak (Ag r) n).take j).sum.toNat+m by omega,Ajz]
theorem Aoq:(NK (λi=>smF w (GA b p f c w r n A l i)) l.length 0).length=n*c:=by
 have hn:=(Uu o.shape).2.2.2.1;rw[Am7 o hE l.length (Ao7 _),o.len,Azd,qX hn];simp
theorem Ano:Ni (w:Int) (NK (λi=>smF w (GA b p f c w r n A l i)) l.length 0)=some (NK (λi=>(GA b p f c w r n A l i).1) l.length 0,0):=by
 have hw:=(Uu o.shape).2.1;have hfit:n<=4000/c:=by have:=o.fit;simp only[Yj,Adx]at this;exact this.1
 have hN:n*c<=4000:=by
  have h1:=Aep c hfit;have h2:=Bcc 4000 c;omega
 have ht:=Aoq o hE;rw[lP hw (by omega) (uB hw (by omega) (Am0 o hE l.length 0 (by omega))),Aar o hE l.length 0 (by omega)]
end
def Ts(bits:Int)(ch:Nat)(t x:List Int32):List UInt32:=evl bits ch t (mx ch x) x.length
def Afr(bits:Int)(ch:Nat)(t x:List Int32):List UInt8:=Om (cM ch (Ts bits ch t x) x.length)
def FJ(bits:Int)(ch:Nat)(t x:List Int32):List UInt8:=Afr bits ch t x++Sk (Ez (Afr bits ch t x)).toNat 4
theorem Asa(bits:Int)(ch:Nat)(t x:List Int32)(h0:1<=x.length)(h4:x.length<=4000):1<= (Afr bits ch t x).length/\ (Afr bits ch t x).length<=40501:=by
 have h:=gU ch (Ts bits ch t x) x.length;obtain⟨k,hk⟩:∃k,x.length=k+1:=⟨x.length-1,by omega⟩;have h1:1<= (cM ch (Ts bits ch t x) x.length).length:=by
  rw[hk,cM,Adl];have hn:=Aid ch ((Ts bits ch t x).take k);have:=tB ((Ts bits ch t x).getD k 0) hn.1 hn.2;omega
 rw[Afr,BK];omega
theorem Afl(bits:Int)(ch:Nat)(t x:List Int32)(h0:1<=x.length)(h4:x.length<=4000):5<= (FJ bits ch t x).length/\ (FJ bits ch t x).length<=40505:=by
 have:=Asa bits ch t x h0 h4;rw[FJ,Adl,Cg];omega
theorem Agr(p:List UInt8)(b0:UInt64)(a0:Int):∀(j m q:Nat),m+j<=300000->j<=64->j<q->
  Rt b0 a0 q (Rb p m j) (j:Int) (m:Int) (So p 0 m)=some (So p 0 (m+j),((m+j:Nat):Int),0)
 |0,m,q+1,_,_,_=>by
  rw[Rt,XU,Aan (by rw[Aq];simp),kO,yE];rfl
 |j+1,m,q+1,hm,hj,hq=>by
  have hroom:Rt b0 a0 (q+1) (Rb p m (j+1)) ((j+1:Nat):Int) (m:Int) (So p 0 m)=XT (Rt b0 a0 q) b0 a0 (Rb p m (j+1)) ((j+1:Nat):Int) (m:Int) (room p 0 m):=by
   rw[Rt,XU,Acf (by rw[Aq];simp),O8 m (by omega),room];by_cases h0:m %8=0
   ·rw[Acf (by rw[As,h0];rfl),Bg (by rw[Kc];simp;omega),Aa,Acf h0]
   ·rw[Aan (by rw[As];simp;omega),Aan h0]
  have hl:Ao (Ac (room p 0 m)) 1=((m/8:Nat):Int):=by
   rw[Ac,Qe,Bu];omega
  have e2:Fi ((j+1:Nat):Int) (Ao (8:Int) ((m %8:Nat):Int))=((min (j+1) (8-m %8):Nat):Int):=by
   rw[FH,Bu];omega
  rw[hroom,XT,lX,O8 m (by omega),e2,hl];generalize hT:min (j+1) (8-m %8)=T;have hT1:1<=T:=by omega
  have hT8:m %8+T<=8:=by omega
  have hg:Ap (room p 0 m) ((m/8:Nat):Int)=some (UInt8.ofNat (Ce p (0+8*(m/8)) (m %8))):=by
   rw[Br (by rw[Qe];omega),tP]
  have z1:(GI.toZ ((m %8:Nat):Int)).toNat=m %8:=rfl;have z2:(GI.toZ ((T:Nat):Int)).toNat=T:=rfl;have hlt:=D9 p (0+8*(m/8)) (m %8+T) (by omega);have hadd:=TF p (m %8) T (0+8*(m/8));rw[show 0+8*(m/8)+m %8=m by omega]at hadd;have hbyte:(Af (Et (Rb p m (j+1)) (Ao (Dp (1:UInt64) T) (1:UInt64))):UInt8)=UInt8.ofNat (Ce p m T):=by
   rw[bK,Bdq _ (by omega),Ag8 p m (j+1) T (by omega) hj]
  have hnew:xC (UInt8.ofNat (Ce p (0+8*(m/8)) (m %8))) (Dp (UInt8.ofNat (Ce p m T)) (m %8))=UInt8.ofNat (Ce p (0+8*(m/8)) (m %8+T)):=by
   rw[or8 (Qw _ _ _) (by rw[Aqr];omega) (by omega),hadd,Aqr (2^(m %8))]
  rw[hg,z1,z2,hbyte];simp only[Aa];rw[Bj (by rw[Ea];simp),Aa,Bj (by rw[Ea];simp;omega),Aa,hnew,Vr _ (by rw[Qe];omega),Aa,C2 p 0 m T hT1 hT8,mS,zX,O8 m (by omega),e2,hT,Bj (by rw[Ea];simp),Aa,z2,Afq p m (j+1) T (by omega) hj,Bu,Aj];have ih:=Agr p b0 a0 (j+1-T) (m+T) q (by omega) (by omega) (by omega);rw[show m+T+(j+1-T)=m+(j+1) by omega]at ih;rw[<-ih,show((j+1:Nat):Int)-((T:Nat):Int)=((j+1-T:Nat):Int) by omega,show(m:Int)+((T:Nat):Int)=((m+T:Nat):Int) by omega]
theorem put_eq(p:List UInt8)(m j:Nat)(hm:m+j<=300000)(hj:j<=63):aZ (So p 0 m) (m:Int) (Rb p m j) (j:Int)=some (So p 0 (m+j),((m+j:Nat):Int),0):=by
 have hz:Bc (Ci (Rb p m j) (GI.toZ (j:Int)).toNat) 0=false:=by
  have:Ci (Rb p m j) j=0:=by
   apply UInt64.toNat_inj.1;rw[EI,BB p m j (by omega),Bd7 (Qw p j m)];rfl
  rw[show(GI.toZ (j:Int)).toNat=j from rfl,this];rfl
 have hl:=Kc p 0 m;have htw:iF (So p 0 m) (m:Int)=some (So p 0 m,(m:Int)):=by
  rw[iF,Bo,Bg (by simp;omega),Aa,Aa];rfl
 rw[aZ,pX,BS (yS p 0 m (by omega)),Aa,Aan (by decide),Aan (by simp[Ae,Aq];omega),Acf (by rw[Ae];simp;omega),Bj (by rw[Ea];simp),Aa,hz,Aan (by decide),Aj,Aan (by rw[Aq];simp;omega),htw,Aa];exact Agr p _ _ j m Au hm (by omega) (by have:=Ar;omega)
theorem At.cat{p:List UInt8}{a:Nat}{c d:List Bool}(h:At p a (c++d)):At p a c/\At p (a+c.length) d:=⟨h.left,h.right⟩
theorem Ag2(p:List UInt8):∀(q a:Nat),At p a (List.replicate q true)->Ce p a q+1=2^q
 |0,a,_=>by rw[Ce]
 |q+1,a,h=>by
  rw[Bcb]at h;obtain⟨h0,h1⟩:=h.cons;have:=Ag2 p q (a+1) h1;rw[Ce,h0,Av3,Acf rfl];omega
theorem E6{x:UInt64}{p:List UInt8}{m n:Nat}(hn:n<=63)(h:x.toNat=Ce p m n):x=Rb p m n:=by
 apply UInt64.toNat_inj.1;rw[h,BB p m n (by omega)]
theorem dJ{n:Nat}(h:n<2^64):(UInt64.ofNat n).toNat=n:=by rw[Ah8];exact Adz h
theorem zf{p:List UInt8}{m q:Nat}(hq:q<=48)(hm:m+48<=300000)(h:At p m (List.replicate q true++(if q=48 then []else [false]))):
  dX (So p 0 m) (m:Int) (q:Int)=some (So p 0 (m+min (q+1) 48),((m+min (q+1) 48:Nat):Int),0):=by
 have h1:=h.left;have hv:=Ag2 p q m h1;have Big:2^q<=2^48:=Ah1 (by omega) hq;have hval:Ce p m (min (q+1) 48)+1=2^q:=by
  by_cases h48:q=48
  ·subst h48;exact hv
  ·rw[Aan h48]at h;have h2:=h.right;rw[Au9]at h2;have h0:=h2.cons.1;rw[show min (q+1) 48=q+1 by omega,tI,h0];simpa using hv
 have hx:(Ao (Dp (1:UInt64) q) (1:UInt64)).toNat=Ce p m (min (q+1) 48):=by
  have e1:(Dp (1:UInt64) q).toNat=2^q:=by rw[cD];show 1*2^q %_=_;rw[Azu];exact Adz (by omega)
  have hpos:0<2^q:=Bem (by omega);rw[C7,UInt64.toNat_sub_of_le _ _ (by rw[UInt64.le_iff_toNat_le,e1];exact hpos),e1]
  show 2^q-1=_;omega
 rw[dX,BS (yS p 0 m (by omega)),Aa,Aan (by decide),mJ,Aan (by simp[Ae,Aq];omega),Aa];simp only;have e2:Fi (Ad (q:Int) 1) 48=((min (q+1) 48:Nat):Int):=by rw[FH,Aj];omega
 rw[Aan (by decide),Bj (by rw[Ea];simp),Aa,e2,show(GI.toZ (q:Int)).toNat=q from rfl,E6 (by omega) hx,put_eq p m _ (by omega) (by omega),Aa]
theorem Ar7{p:List UInt8}{m l:Nat}{v:UInt32}(hl:l<=24)(hm:m+81<=300000)(h:At p m (yT l v.toNat)):
  lL (So p 0 m) (m:Int) v (l:Int)=some (So p 0 (m+(yT l v.toNat).length),((m+(yT l v.toNat).length:Nat):Int),0):=by
 have hvl:=v.toNat_lt;have hz:(GI.toZ (l:Int)).toNat=l:=rfl;have hlp:2^l<=2^24:=Ah1 (by omega) hl;have hpos:0<2^l:=Bem (by omega);have Bfx:CE v (l:Int)=some (decide (48<=v.toNat/2^l)):=by
  rw[CE,Bj (by rw[Ea];simp),Aa,hz,Alg,SL];rfl
 rw[lL,eU,BS (yS p 0 m (by omega)),Aa,Aan (by decide),Aan (by simp[Ae,Aq];omega),Bj (by rw[Ea];simp),Aa,Aa,Bfx,Aa];rw[yT]at h⊢;by_cases h48:48<=v.toNat/2^l
 ·rw[Acf h48]at h⊢;obtain⟨h1,h2⟩:=h.cat;rw[Au9]at h2;have hval:=tH p 32 (m+48) v.toNat h2;rw[Adz (by omega)]at hval;have hu:=zf (p:=p) (m:=m) (q:=48) (Ao7 _) (by omega) (by rw[Acf rfl,Als];exact h1);rw[Acf (by simpa using h48),RT,gE,show(48:Int)=((48:Nat):Int)from rfl,hu,Aa];simp only;rw[Aan (by decide),Dx,E6 (x:=UInt64.ofNat v.toNat) (p:=p) (m:=m+48) (n:=32) (by omega) (by rw[dJ (by omega),hval]),show(32:Int)=((32:Nat):Int)from rfl,show m+min (48+1) 48=m+48 by omega,put_eq p (m+48) 32 (by omega) (by omega),Aa,Adl,Au9,GW,Azo]
 ·rw[Aan h48]at h⊢;generalize hq:v.toNat/2^l=q at*
  obtain⟨h1,h2⟩:=h.cat;rw[Au9]at h2;obtain⟨h3,h4⟩:=h2.cons;have hval:=tH p l (m+q+1) (v.toNat %2^l) h4;rw[Nat.mod_mod]at hval;have hqa:At p m (List.replicate q true++[false]):=by
   have:List.replicate q true++(false::pO (v.toNat %2^l) l)=(List.replicate q true++[false])++pO (v.toNat %2^l) l:=by simp
   rw[this]at h;exact h.left
  have hu:=zf (p:=p) (m:=m) (q:=q) (by omega) (by omega) (by rw[Aan (by omega)];exact hqa);have hgq:(Af (Ci v l):Int)=(q:Int):=by rw[U1,SL,hq]
  have hrest:(Af (Et v (Ao (Dp (1:UInt32) l) 1)):UInt64)=Rb p (m+q+1) l:=by
   apply E6 (by omega);have e1:(Dp (1:UInt32) l).toNat=2^l:=by rw[pF];show 1*2^l %_=_;rw[Azu];exact Adz (by omega)
   have e2:(Ao (Dp (1:UInt32) l) (1:UInt32)).toNat=2^l-1:=by
    rw[Y8,UInt32.toNat_sub_of_le _ _ (by rw[UInt32.le_iff_toNat_le,e1];exact hpos),e1];rfl
   have e3:(Et v (Ao (Dp (1:UInt32) l) 1)).toNat=v.toNat %2^l:=by
    rw[jl,UInt32.toNat_and,e2,Ben]
   rw[Dx,dJ (by rw[e3];have:=Bdl v.toNat hpos;omega),e3,hval]
  rw[Aan (by simpa using h48),RT,gE,hz,hgq,hu,Aa];simp only;rw[Aan (by decide),hrest,show m+min (q+1) 48=m+q+1 by omega,put_eq p (m+q+1) l (by omega) (by omega),Aa,Adl,Au9,Aqj,GW,show m+q+1+l=m+(q+(l+1)) by omega]
theorem Aug{k l:Nat}{s t:UInt64}(h:okD k l s t)(v:UInt32):kZ [] 0 (k:Int) (l:Int) s t v=
  some (Om (MO k l v),((MO k l v).length:Int),((kS k (Zs s (S0 v)):Nat):Int),((lK l t k v:Nat):Int),Zs s (S0 v),lT t k v,0):=by
 obtain⟨h1,h2,h3,h4⟩:=h;have hvl:=v.toNat_lt;have hAt:At (Om (MO k l v)) 0 (MO k l v):=λi hi=>by rw[Bcg,YH]
 have hlen:=tB v h1 h2;have hfull:So (Om (MO k l v)) 0 (MO k l v).length=Om (MO k l v):=by
  apply Aef (by rw[Kc,BK]);intro i hi;rw[W7,Bcg,YH];by_cases hlt:i<(MO k l v).length
  ·rw[Acf hlt]
  ·rw[Aan hlt,Ajo (by omega)]
 generalize hP:Om (MO k l v)=P at*
 have h0:So P 0 0=[]:=rfl;have Beh:∀(x:Int) (y:UInt64) (aj ai:Int),DT v (k:Int) s ai P x y=some (P,ai,((kS k (Zs s (S0 v)):Nat):Int),x,Zs s (S0 v),y,0):=by
  intro x y aj ai;rw[DT,eW,Dx,gO,Am5 k h1];rw[fY,fP,bX,ND,Dx,gO];rfl
 have hp7:∀ai:Int,RS v (k:Int) (l:Int) s t 0 ai P=some (P,ai,((kS k (Zs s (S0 v)):Nat):Int),((lK l t k v:Nat):Int),Zs s (S0 v),lT t k v,0):=by
  intro ai;rw[RS,eS,Aan (by decide),iy k l s t h1,Aa];by_cases hv:v.toNat<2^k
  ·rw[Acf hv];simp only;rw[Aan (by rw[As];simp),Beh _ _ 0,lK,Acf hv,lT,Acf hv]
  ·rw[Aan hv];simp only;rw[Acf (by rw[As];rfl),Dx,gO,Am5 l h2 _ (λx=>DT v (k:Int) s ai P x (Zs t (UInt64.ofNat (nO k v).toNat))),Beh _ _ 0,lK,Aan hv,lT,Aan hv];rfl
 rw[kZ,gH,show Kv [] 0=some 0 from rfl,Aa,Aan (by decide),Aq0 ⟨h1,h2,h3,h4⟩,Aa,Aan (by decide),eZ,gA,iy k l s t h1,Aa];have hput:=put_eq P 0 1 (by omega) (by omega);rw[h0,Bcg,show((0:Nat):Int)=0 from rfl,show((1:Nat):Int)=1 from rfl]at hput;by_cases hv:v.toNat<2^k
 ·have hc:MO k l v=false::pO v.toNat k:=by rw[MO,Acf hv]
  rw[hc]at hAt hfull;obtain⟨b0,b1⟩:=hAt.cons;have hval:=tH P k 1 v.toNat b1;rw[Adz hv]at hval;have hz:(Af (0:Int):UInt64)=Rb P 0 1:=E6 (by omega) (by rw[zL,b0];rfl);rw[Acf hv];simp only;rw[hz,hput,Aa];simp only;rw[Acf (by decide),Dx,E6 (x:=UInt64.ofNat v.toNat) (p:=P) (m:=1) (n:=k) (by omega) (by rw[dJ (by omega),hval]),show(1:Int)=((1:Nat):Int)from rfl,put_eq P 1 k (by omega) (by omega),Aa];simp only;rw[Aqj,GW,Bfk k 1]at hfull;rw[hfull,hp7,hc,Aqj,GW,Bfk k 1]
 ·have hc:MO k l v=true::yT l (v.toNat-2^k):=by rw[MO,Aan hv]
  rw[hc]at hAt hfull;obtain⟨b0,b1⟩:=hAt.cons;have hsub:=Nat.sub_le v.toNat (2^k);have hlv:(nO k v).toNat=v.toNat-2^k:=by rw[nO,dF (by omega)]
  have hz:(Af (1:Int):UInt64)=Rb P 0 1:=E6 (by omega) (by rw[zL,b0];rfl);have hr:=Ar7 (p:=P) (m:=1) (l:=l) (v:=nO k v) h2 (by omega) (by rw[hlv];exact b1);rw[hlv,show((1:Nat):Int)=1 from rfl]at hr;rw[Aan hv];simp only;rw[hz,hput,Aa];simp only;rw[Aan (by decide),Acf (by decide),hr,Aa];simp only;rw[Aqj,Bfk _ 1]at hfull;rw[hfull,hp7,hc,Aqj,Bfk _ 1]
section
variable (ch:Nat) (x:List Int32)
theorem dD{at' i:Nat}(ha:at' %ch=0)(hi:i<ch)(h:at'+i<x.length):(mx ch x).getD (at'+i) 0=mxV (λi=>x.getD (at'+i) 0) ch i:=by
 have hb:(at'+i) %ch=i:=by rw[Nat.add_mod,ha,Bcg,Nat.mod_mod,Adz hi]
 rw[Ban h,hb,show at'+i-i=at' by omega]
theorem Agw(bk:Int->List Int32->Option (List Int32×Int))(at':Nat)(h1:1<=ch)(h6:ch<=6)(hm:at' %ch=0)(hl:at'+ch<=x.length)(hl2:x.length<=4000):∀(j i q:Nat),i+j=ch-1->j<q->
  HP bk (ch:Int) (at':Int) q (i:Int) (lA (λk=>decide (k<at'+i)) (mx ch x) x)=bk ((at'+ch:Nat):Int) (lA (λk=>decide (k<at'+ch)) (mx ch x) x)
 |j,i,0,_,h=>absurd h (Awy _)
 |0,i,q+1,hi,_=>by
  have hlen:=pZ ch x;have e1:Ao (Ad (at':Int) (ch:Int)-(at':Int)) 1=((ch-1:Nat):Int):=by rw[Aj,Bu];omega
  have e2:Ad (at':Int) (ch:Int)-(at':Int)=(ch:Int):=by rw[Aj];omega
  have e4:Ad (at':Int) (ch:Int)=((at'+ch:Nat):Int):=by rw[Aj];omega
  rw[HP,cR,e1,Aan (by rw[Ae];simp;omega),pL,sR,e1,e2];obtain rfl:i=ch-1:=by omega
  by_cases h2:1<ch
  ·have e3:Ao ((ch-1:Nat):Int) 1=((ch-2:Nat):Int):=by rw[Bu];omega
   have hv:Ao (x.getD (at'+(ch-1)) 0) (Bt ((mx ch x).getD (at'+(ch-2)) 0) 2)=(mx ch x).getD (at'+(ch-1)) 0:=by
    rw[dD ch x hm (by omega) (by omega),dD ch x hm (by omega) (by omega),mxV,mxV,Acf (by omega),Aan (by omega),Acf h2,aA,show ch-2+1=ch-1 by omega]
   rw[Acf (by rw[Aq];simp;omega),vJ (by omega),Aa,e3,vJ (by omega),Aa,
    show(at':Int)+((ch-1:Nat):Int)=((at'+(ch-1):Nat):Int) by omega,show(at':Int)+((ch-2:Nat):Int)=((at'+(ch-2):Nat):Int) by omega,
    EW (by omega),Aa,EW (by omega),Aa,Aa,Aan (by simp),Acf (by simp;omega),hv,mM (by omega),Aa,dV,pV,e4]
   congr 1;apply Xt;intro k _;rw[Ako];simp;omega
  ·obtain rfl:ch=1:=by omega
   have hlast:x.getD at' 0=(mx 1 x).getD at' 0:=by
    have:=dD 1 x (i:=0) hm (by omega) (by omega);rw[Bde]at this;rw[this,mxV,Aan (by omega),Aan (by omega)];rfl
   rw[Aan (by rw[Aq];simp),dV,pV,e4];congr 1;apply Bb4 (by rw[RU,RU]);intro k g1 g2;rw[Vy,Vy];by_cases hk:k<at'
   ·rw[Acf (by simp;omega),Acf (by simp;omega)]
   ·by_cases hk2:k=at'
    ·subst hk2;rw[Aan (by simp),Acf (by simp)];exact hlast
    ·rw[Aan (by simp;omega),Aan (by simp;omega)]
 |j+1,i,q+1,hi,hq=>by
  have hlen:=pZ ch x;have e1:Ao (Ad (at':Int) (ch:Int)-(at':Int)) 1=((ch-1:Nat):Int):=by rw[Aj,Bu];omega
  have e2:Ad (at':Int) (ch:Int)-(at':Int)=(ch:Int):=by rw[Aj];omega
  have e3:Ad (i:Int) 1=((i+1:Nat):Int):=by rw[Aj];omega
  have hv:Ao (x.getD (at'+(i+1)) 0) (x.getD (at'+i) 0)=(mx ch x).getD (at'+i) 0:=by
   rw[dD ch x hm (by omega) (by omega),mxV,Acf (by omega),aA]
  rw[HP,cR,e1,Acf (by rw[Ae];simp;omega),e2,e3,vJ (by omega),Aa,vJ (by omega),Aa,
   show(at':Int)+((i+1:Nat):Int)=((at'+(i+1):Nat):Int) by omega,show(at':Int)+(i:Int)=((at'+i:Nat):Int) by omega,
   EW (by omega),Aa,EW (by omega),Aa,Aa,Aan (by simp),Aan (by simp),hv,mM (by omega),Aa]
  have ih:=Agw bk at' h1 h6 hm hl hl2 j (i+1) q (by omega) (by omega);rw[<-ih];congr 1;apply Xt;intro k _;rw[Ako];simp;omega
theorem M0(h1:1<=ch)(h6:ch<=6)(hm:x.length %ch=0)(hl2:x.length<=4000):∀(j at' q:Nat),at' %ch=0->at'<=x.length->x.length-at'<=j->j<q->
  HU (ch:Int) q (at':Int) (lA (λk=>decide (k<at')) (mx ch x) x)=some (mx ch x,0)
 |j,at',0,_,_,_,h=>absurd h (Awy _)
 |j,at',q+1,ha,hle,hj,hq=>by
  have hlen:=pZ ch x;have hl:Ac (lA (λk=>decide (k<at')) (mx ch x) x)=(x.length:Int):=by rw[Ac,RU,hlen]
  rw[HU,pT,hl];by_cases h:at'<x.length
  ·have hb:=qj ha hm h;obtain⟨j,rfl⟩:∃k,j=k+1:=⟨j-1,by omega⟩;have e4:Ad (at':Int) (ch:Int)=((at'+ch:Nat):Int):=by rw[Aj];omega
   have hi:=Agw ch x (HU (ch:Int) q) at' h1 h6 ha hb hl2 (ch-1) 0 Au (by omega) (by have:=Ar;omega);have hrest:=M0 h1 h6 hm hl2 j (at'+ch) q (by rw[Bgt,ha]) hb (by omega) (by omega);rw[Bde]at hi;rw[Acf (by rw[Ae];simp;omega),show iM (x.length:Int) (at':Int) (Ad (at':Int) (ch:Int))=some () by rw[e4,iM,vJ];omega,Aa];exact Bda hi hrest
  ·rw[Aan (by rw[Ae];simp;omega),tZ (λk hk=>by simp;omega)];rfl
theorem Apz(h1:1<=ch)(h6:ch<=6)(hm:x.length %ch=0)(hl2:x.length<=4000):T6 (ch:Int) x=some (mx ch x,0):=by
 have hlen:=pZ ch x;have h:=M0 ch x h1 h6 hm hl2 x.length 0 Au (by simp) (by omega) (by omega) (by have:=Ar;omega);rw[T6,wU,Ae0 ch x h1 h6 hm hl2,Aa,Aan (by rw[Ah];simp),Di,Bg (by simp;omega),Aa,Aa,Auy,pR];rw[pP hlen.symm (λk _=>by simp)]at h;exact h
end
theorem Asx(a:Int32):tJ a=some (B7 a):=by
 have h:=DE a;have hc:(Af a:UInt32)=UInt32.ofNat (a.toInt %4294967296).toNat:=rfl;have hs:(Ci a (GI.toZ (31:UInt64)).toNat)=if 0<=a.toInt then(0:Int32)else -1:=by
  have e:Ci a 31=Int32.ofInt (a.toInt.fdiv (2^31)):=rfl;rw[show(GI.toZ (31:UInt64)).toNat=31 from rfl,e];by_cases h0:0<=a.toInt
  ·rw[Acf h0,show a.toInt.fdiv (2^31)=0 by rw[Asw _ (by decide)];omega];rfl
  ·rw[Aan h0,show a.toInt.fdiv (2^31)= -1 by rw[Asw _ (by decide)];omega];rfl
 rw[tJ,hs,hc,B7];congr 1;have hsh:(Dp (UInt32.ofNat (a.toInt %4294967296).toNat) (GI.toZ (1:UInt64)).toNat).toNat=2*(a.toInt %4294967296).toNat %4294967296:=by
  rw[show(GI.toZ (1:UInt64)).toNat=1 from rfl,pF,Ank,Adz (show(a.toInt %4294967296).toNat<2^32 by omega)];omega
 by_cases h0:0<=a.toInt
 ·rw[Acf h0,Acf h0,show(Af (0:Int32):UInt32)=0 from rfl];apply UInt32.toNat_inj.1;rw[show∀z:UInt32,BA z (0:UInt32)=z^^^0 from λz=>by rw[gT],Bgz,hsh,Ank,Adz (show 2*a.toInt.toNat<2^32 by omega)]
  show _^^^0=_;rw[Nat.xor_zero];omega
 ·rw[Aan h0,Aan h0,show(Af (-1:Int32):UInt32)=4294967295 from rfl];apply UInt32.toNat_inj.1;rw[show∀z:UInt32,BA z (4294967295:UInt32)=z^^^4294967295 from λz=>by rw[gT],Bgz,hsh,Ank,Adz (show 2*(-a.toInt-1).toNat+1<2^32 by omega)]
  show _^^^4294967295=_;have key:∀n:Nat,n<4294967296->n^^^4294967295=4294967295-n:=by
   intro n hn;have:=BitVec.toNat_not (x:=BitVec.ofNat 32 n);rw[<-BitVec.xor_allOnes,BitVec.toNat_xor,BitVec.toNat_ofNat,Adz (by omega)]at this;simpa using this
  rw[key _ (by omega)];omega
theorem Art{bits:Int}(h:Bl bits){t p:List Int32}(hF:OkF (sB bits) t p)(last x:Int32):
  Xq bits last (sB bits) t p x=some (xy bits (last,t,p) x,bits,x,sB bits,V9 t p (xy bits (last,t,p) x),(x-gs (shB bits) last)::p.take 15,0):=by
 rw[Xq,uo h,Aa,Aan (by rw[Ah];simp),Asr h,Aa];simp only;rw[aA,eN,Af5 hF,Aa];simp only;rw[Aan (by rw[Ah];simp),aA,YZ,Aft hF,Aa];simp only;rw[Akw (s:=sB bits) (t:=V9 t p _) (p:=p) ⟨hF.1,MJ _ _ _,hF.2.2⟩,Aa,Aa];rfl
theorem Z3(bits:Int)(ch:Nat)(t x:List Int32):(Ts bits ch t x).length=x.length:=Ac8 _ _ _ _ _
theorem Ar8{bits:Int}{ch:Nat}{t x:List Int32}{i:Nat}(h:i<x.length):(Ts bits ch t x).getD i 0=B7 (xy bits (cst bits ch t (Ts bits ch t x) (i %ch) i) ((mx ch x).getD i 0)):=by
 obtain⟨w,hw⟩:=Am4 bits ch t (mx ch x) (x.length-(i+1)) (i+1);rw[show i+1+(x.length-(i+1))=x.length by omega,evl,Ae8]at hw;have hli:=Ac8 bits ch t (mx ch x) i;have hw':Ts bits ch t x=_:=hw;have hg:(Ts bits ch t x).getD i 0=B7 (xy bits (cst bits ch t (evl bits ch t (mx ch x) i) (i %ch) i) ((mx ch x).getD i 0)):=by
  rw[hw',List.getD_eq_getElem?_getD,List.getElem?_append_right (by omega),hli,Nat.sub_self];rfl
 have hc:cst bits ch t (Ts bits ch t x) (i %ch) i=cst bits ch t (evl bits ch t (mx ch x) i) (i %ch) i:=by rw[hw',Axv _ _ _ _ _ _ _ (by omega)]
 rw[hg,hc]
section
variable {bits:Int} {ch:Nat} {t x:List Int32} (hb:Bl bits) (ht:t.length=16) (h1:1<=ch) (h6:ch<=6) (hx1:1<=x.length) (hx4:x.length<=4000) (hm:x.length %ch=0)
include hb ht h1 h6 hx1 hx4 hm
omit ht in
theorem Baf(hr:xq bits x):RJ (ch:Int) bits x=some 0:=by
 rw[RJ,Aji hb h1 h6,Aa,Aan (by decide),bA hb x hx4,uB hb hx4 hr,Aa,Aan (by decide),Aan (by rw[As,Ac,Avz];omega),Bj (by rw[Ah];simp;omega),Aa,Ac,IZ,hm,Aan (by decide)]
omit hm in
theorem Aae:∀(j i q:Nat),i+j=x.length->j<q->
  Mf (mx ch x) (ch:Int) bits q (i:Int) (cts bits ch t (Ts bits ch t x) i) ((Ts bits ch t x).take i)=some (Ts bits ch t x,0)
 |j,i,0,_,h=>absurd h (Awy _)
 |0,i,q+1,hi,_=>by
  have hl:=pZ ch x;have hV:=Z3 bits ch t x;rw[Mf,Wy,Aan (by rw[Ae,Ac];simp;omega),Apg (by omega)];rfl
 |j+1,i,q+1,hi,hq=>by
  have hl:=pZ ch x;have hV:=Z3 bits ch t x;have hc:i %ch<6:=Aqh (Bdl _ (by omega)) h6;have hok:=Adi bits ch ht (Ts bits ch t x) (i %ch) i;have hs:=Amb (bits:=bits) (ch:=ch) (t:=t) (v:=Ts bits ch t x) (i:=i) hc rfl;have hg:=Ar8 (bits:=bits) (ch:=ch) (t:=t) (x:=x) (i:=i) (by omega);have ih:=Aae j (i+1) q (by omega) (by omega);have htk:(Ts bits ch t x).take i++[(Ts bits ch t x).getD i 0]=(Ts bits ch t x).take (i+1):=by
   have:(Ts bits ch t x).getD i 0=(Ts bits ch t x)[i]'(by omega):=by rw[List.getD_eq_getElem?_getD,List.getElem?_eq_getElem (by omega)];rfl
   rw[this,Lb (by omega)]
  have hfw:=Art hb hok (cst bits ch t (Ts bits ch t x) (i %ch) i).1 ((mx ch x).getD i 0);rw[Mf,Wy,Acf (by rw[Ae,Ac];simp;omega),g32 (by omega),Aa,Aa,Bj (by rw[Ah];simp;omega),Aa,IZ,Amv hc,Aa,Aa];refine Bda (congrArg (λo=>Option.bind o _) hfw) ?_;rw[Aa];simp only;rw[Aan (by decide)];have hst:((bits,(mx ch x).getD i 0,(sB bits,V9 (cst bits ch t (Ts bits ch t x) (i %ch) i).2.1 (cst bits ch t (Ts bits ch t x) (i %ch) i).2.2 (xy bits (cst bits ch t (Ts bits ch t x) (i %ch) i) ((mx ch x).getD i 0)),((mx ch x).getD i 0-gs (shB bits) (cst bits ch t (Ts bits ch t x) (i %ch) i).1)::(cst bits ch t (Ts bits ch t x) (i %ch) i).2.2.take 15,()),()):CL)=toC bits (Aaq bits (cst bits ch t (Ts bits ch t x) (i %ch) i) (YW ((Ts bits ch t x).getD i 0))):=by
   rw[hg,Ba5,toC,Aaq,Aod];simp only;rw[xy,rN]
  refine Bda (congrArg (λo=>Option.bind o _) ((congrArg (λz=>Nj (cts bits ch t (Ts bits ch t x) i) ((i %ch:Nat):Int) z) hst).trans hs)) ?_;rw[Aa,Asx,Aa];have hg2:B7 (xy bits ((cst bits ch t (Ts bits ch t x) (i %ch) i).1,(cst bits ch t (Ts bits ch t x) (i %ch) i).2.1,(cst bits ch t (Ts bits ch t x) (i %ch) i).2.2) ((mx ch x).getD i 0))=(Ts bits ch t x).getD i 0:=hg.symm;rw[hg2,Bg (by rw[Ahn];simp;omega),Aa,htk,Aj];exact ih
theorem Aju(hr:xq bits x):JS (ch:Int) bits t x=some (Ts bits ch t x,0):=by
 have hl:=pZ ch x;have h:=Aae hb ht h1 h6 hx1 hx4 x.length 0 Au (by omega) (by have:=Ar;omega);have e:Au=(Au-7)+1+1+1+1+1+1+1:=by have:=Ar;omega
 have hs:Zr (ch:Int) bits t (mx ch x) 0 (List.replicate 6 ((0:Int),(0:Int32),((0:Int),(List.replicate 16 (0:Int32)),(List.replicate 16 (0:Int32)),()),()))=II (ch:Int) bits (mx ch x) (cts bits ch t (Ts bits ch t x) 0):=by
  rw[Zr,e];obtain rfl|rfl|rfl:=hb<;>rfl
 rw[JS,JT,Baf hb h1 h6 hx1 hx4 hm hr,Aa,Aan (by decide),Apz ch x h1 h6 hm hx4,Aa];simp only;rw[Aan (by decide)];refine Bda hs ?_;exact h
end
theorem Ajq(ch:Nat):LG=some (sts ch []):=by
 have e:Au=(Au-7)+1+1+1+1+1+1+1:=by have:=Ar;omega
 rw[LG,JL,MG,e];rfl
theorem Afe(c:List Bool){n:Nat}(h:n<=c.length):So (Om c) 0 n=Om (c.take n):=by
 have hl:(c.take n).length=n:=by rw[Ahn];omega
 apply Aef (by rw[Kc,BK,hl]);intro i hi;rw[W7,Bcg,YH,YH];by_cases hlt:i<n
 ·rw[Acf hlt,tb,tb,List.getD_eq_getElem?_getD,List.getD_eq_getElem?_getD,List.getElem?_take,Acf hlt]
 ·rw[Aan hlt,Ajo (by omega)]
theorem Bbp(a:UInt8){k:Nat}(hk:k<8):Et (Ci a k) (1:UInt8)=UInt8.ofNat (a.toNat/2^k %2):=by
 apply UInt8.toNat_inj.1;rw[Aky,UInt8.toNat_and,Adc,Aqq]
 show _&&&1=_;rw[Nat.and_one_is_mod];generalize a.toNat/2^k=X;omega
theorem Ahw(E code:List Bool)(hE:E.length+code.length<=330000)(bk:Int->List (Int×Int×UInt64×UInt64×Unit)->Int->List UInt8->By)(V:List UInt32)(b f g:Int)(k:List (Int×Int×UInt64×UInt64×Unit)):∀(j o q:Nat),o+j=code.length->j<q->
  Hp bk V b f (code.length:Int) g k (Om code) q (o:Int) ((E.length+o:Nat):Int) (So (Om (E++code)) 0 (E.length+o))=bk (Ad g 1) k ((E.length+code.length:Nat):Int) (Om (E++code))
 |j,o,0,_,h=>absurd h (Awy _)
 |0,o,q+1,ho,_=>by
  obtain rfl:o=code.length:=by omega
  rw[Hp,Xb,Aan (by rw[Ae];simp),GJ,ZT,Afe _ (by rw[Adl];omega),Apg (by rw[Adl];omega)]
 |j+1,o,q+1,ho,hq=>by
  generalize hP:Om (E++code)=P;have hPo:Ib P (E.length+o)=Ib (Om code) o:=by rw[<-hP,YH,YH,Ak9]
  have ih:=Ahw E code hE bk V b f g k j (o+1) q (by omega) (by omega);rw[hP,<-Azo]at ih;generalize hn:E.length+o=n at*
  have hq8:Bt (n:Int) 8=((n/8:Nat):Int):=by rw[show(8:Int)=((8:Nat):Int)from rfl,GG]
  have hr8:Fo (n:Int) 8=((n %8:Nat):Int):=by rw[show(8:Int)=((8:Nat):Int)from rfl,IZ]
  have hqo:Bt (o:Int) 8=((o/8:Nat):Int):=by rw[show(8:Int)=((8:Nat):Int)from rfl,GG]
  have hro:Fo (o:Int) 8=((o %8:Nat):Int):=by rw[show(8:Int)=((8:Nat):Int)from rfl,IZ]
  have hroom:Hp bk V b f (code.length:Int) g k (Om code) (q+1) (o:Int) (n:Int) (So P 0 n)=Wg (Hp bk V b f (code.length:Int) g k (Om code) q) (code.length:Int) V g b f k (Om code) (o:Int) (n:Int) (room P 0 n):=by
   rw[Hp,Xb,Acf (by rw[Ae];simp;omega),hr8,room];by_cases h0:n %8=0
   ·rw[Acf (by rw[As,h0];rfl),Bg (by rw[Kc];simp;omega),Aa,Acf h0]
   ·rw[Aan (by rw[As];simp;omega),Aan h0]
  have hcl:=BK code;have hgm:Ap (Om code) ((o/8:Nat):Int)=some ((Om code).getD (o/8) 0):=by
   rw[Br,List.getD_eq_getElem?_getD,List.getElem?_eq_getElem (by omega)];rfl
  have hg:Ap (room P 0 n) ((n/8:Nat):Int)=some (UInt8.ofNat (Ce P (0+8*(n/8)) (n %8))):=by
   rw[Br (by rw[Qe];omega),tP]
  have hbit:Et (Ci ((Om code).getD (o/8) 0) (o %8)) (1:UInt8)=UInt8.ofNat (Ib P n):=by
   rw[Bbp _ (by omega),hPo,Ib]
  have hlt:=D9 P (0+8*(n/8)) (n %8+1) (by omega);have hsn:=tI P (0+8*(n/8)) (n %8);rw[show 0+8*(n/8)+n %8=n by omega]at hsn;have hnew:xC (UInt8.ofNat (Ce P (0+8*(n/8)) (n %8))) (Dp (UInt8.ofNat (Ib P n)) (n %8))=UInt8.ofNat (Ce P (0+8*(n/8)) (n %8+1)):=by
   rw[or8 (Qw _ _ _) (by rw[Aqr];omega) (by omega),hsn,Aqr (2^(n %8))]
  rw[hroom,Wg,FM,hqo,hro,hq8,hr8,hgm,Aa,Aa,Bj (by rw[Ea];simp;omega),Aa,hg,Aa,Bj (by rw[Ea];simp;omega),Aa,Aa,Aa,
   show(GI.toZ ((o %8:Nat):Int)).toNat=o %8 from rfl,show(GI.toZ ((n %8:Nat):Int)).toNat=n %8 from rfl,hbit,hnew,Vr _ (by rw[Qe];omega),Aa,C2 P 0 n 1 (by omega) (by omega),FT,bY,Aj,Aj]
  exact ih
theorem Be0(l m:List UInt8)(h:l.length+m.length<=1000000):Fj [l,m]=some (l++m):=by
 have hF:Au=(Au-3)+1+1+1:=by have:=Ar;omega
 rw[Fj,Qo,Qb];have g0:Ap [l,m] (0:Int)=some l:=rfl;have g1:Ap [l,m] (1:Int)=some m:=rfl;have l2:Ac [l,m]=2:=rfl;have h3:Ew [l,m] []=some (l++m):=by
  rw[Ew,Jv,Ju,hF,Ct,Dt,l2,Acf (by decide),g0,Aa,Bg (by simp;omega),Aa,Auy,show Ad (0:Int) 1=1 by decide,
   Ct,Dt,l2,Acf (by decide),g1,Aa,Bg,Aa,show Ad (1:Int) 1=2 by decide,Ct,Dt,l2,Aan (by decide)]
  rfl
 rw[hF,Cw,Eb,l2,Acf (by decide),g0,Aa,Aj (by unfold Ac;omega) (by unfold Ac;omega),Aan (by rw[Ae,Ac];simp),show Ad (0:Int) 1=1 by decide,
  Cw,Eb,l2,Acf (by decide),g1,Aa,Aj (by unfold Ac;omega) (by unfold Ac;omega),Aan (by rw[Ae,Ac,Ac];simp;omega),show Ad (1:Int) 1=2 by decide,
  Cw,Eb,l2,Aan (by decide),Ex,Jw,Aan (by rw[Ae,Ac,Ac];simp;omega),Jz,Jy]
 have z:Ao (0:Int) 0=0:=by decide
 have n0:(0:Int)+Ac l+Ac m=((l.length+m.length:Nat):Int):=by simp[Ac]
 rw[z,n0,Bu,Int.sub_zero];by_cases hp:0<l.length+m.length
 ·rw[Acf (by rw[Aq];simp;omega),show iM (0:Int) 0 0=some ()from rfl,Aa,rZ,Aa,Bg (by simp;omega),Aa];rw[show iM (Ac ([]++List.replicate ((l.length+m.length:Nat):Int).toNat (0:UInt8))) 0 0=some () by rw[iM,Bj];simp[Ac];omega,Aa];simp only[aV,Int.sub_self,Int.toNat_zero,Bbt];exact h3
 ·rw[Aan (by rw[Aq];simp;omega)];exact h3
theorem Ahm(bits:Int)(ch:Nat)(h1:1<=ch)(h6:ch<=6)(V:List UInt32)(hV:V.length<=4000):∀(j i q:Nat),i+j=V.length->j<q->
  Jj V (ch:Int) bits q (i:Int) (sts ch (V.take i)) ((cM ch V i).length:Int) (Om (cM ch V i))=some (Om (cM ch V V.length)++Sk (Ez (Om (cM ch V V.length))).toNat 4,0)
 |j,i,0,_,h=>absurd h (Awy _)
 |0,i,q+1,hi,_=>by
  obtain rfl:i=V.length:=by omega
  have hel:=gU ch V V.length;have hpl:=BK (cM ch V V.length);have hlt:=(Ez (Om (cM ch V V.length))).toNat_lt;rw[Jj,Wp,Aan (by rw[Ae,Ac];simp),FW,bB,I5 _ (by omega),Aa];simp only;have e64:(UInt64.ofNat (Ez (Om (cM ch V V.length))).toNat).toNat=(Ez (Om (cM ch V V.length))).toNat:=dJ (by omega);rw[Aan (by decide),Dx,show(4:Int)=((4:Nat):Int)from rfl,bH _ 4 (by omega) (by omega) (by rw[e64];omega),Aa];simp only;rw[Aan (by decide),e64,Be0 _ _ (by rw[Cg];omega),Aa]
 |j+1,i,q+1,hi,hq=>by
  have hc:i %ch<6:=Aqh (Bdl _ (by omega)) h6;have hvl:(V.take i).length=i:=by rw[Ahn];omega
  have hel:=gU ch V i;have hk:=Aid ch (V.take i);have hcl:=tB (V.getD i 0) hk.1 hk.2;have ih:=Ahm bits ch h1 h6 V hV j (i+1) q (by omega) (by omega);have hvi:V.getD i 0=V[i]'(by omega):=by rw[List.getD_eq_getElem?_getD,List.getElem?_eq_getElem (by omega)];rfl
  have htk:V.take i++[V.getD i 0]=V.take (i+1):=by rw[hvi,Lb (by omega)]
  have hst:=Aci (ch:=ch) (v:=V.take i) hc;have hset:=Amy (ch:=ch) (v:=V.take i) (V.getD i 0) hc (by rw[hvl]);have Bfy:oT ch (V.take i) (i %ch) (V.take i).length=now ch (V.take i):=Ayp (by rw[hvl]);rw[Bfy]at hst hset;rw[htk]at hset;have hdp:=Aug (k:=(now ch (V.take i)).1) (l:=(now ch (V.take i)).2.1) (s:=(now ch (V.take i)).2.2.1) (t:=(now ch (V.take i)).2.2.2) (qY ch (V.take i) _ _) (V.getD i 0);have hpc:=Ahw (cM ch V i) (MO (now ch (V.take i)).1 (now ch (V.take i)).2.1 (V.getD i 0)) (by omega) (Jj V (ch:Int) bits q) V (ch:Int) bits (i:Int) (sts ch (V.take (i+1))) (MO (now ch (V.take i)).1 (now ch (V.take i)).2.1 (V.getD i 0)).length 0 Au (by omega) (by have:=Ar;omega);rw[show(cM ch V i).length+0=(cM ch V i).length from rfl,Afe _ (by rw[Adl];omega),List.take_left,show((0:Nat):Int)=0 from rfl]at hpc;rw[Jj,Wp,Acf (by rw[Ae,Ac];simp;omega),C8 (by omega),Aa,Aa,Bj (by rw[Ah];simp;omega),Aa,IZ,hst,Aa,Aa];refine Bda (congrArg (λo=>Option.bind o _) hdp) ?_;rw[Aa];simp only;rw[Aan (by decide),Aa,Aa];refine Bda (congrArg (λo=>Option.bind o _) hset) ?_;rw[Aa];refine Bda hpc ?_;rw[Aj];rw[cM,Adl]at ih;exact ih
theorem mD{bits:Int}{ch:Nat}{t x:List Int32}(hb:Bl bits)(ht:t.length=16)(h1:1<=ch)(h6:ch<=6)(hx1:1<=x.length)(hx4:x.length<=4000)(hm:x.length %ch=0)(hr:xq bits x):
  Nh (ch:Int) bits t x=some (FJ bits ch t x,0):=by
 have hV:=Z3 bits ch t x;have h:=Ahm bits ch h1 h6 (Ts bits ch t x) (by omega) (Ts bits ch t x).length 0 Au (by omega) (by have:=Ar;omega);have e0:Om (cM ch (Ts bits ch t x) 0)=[]:=by simp[cM,Om]
 have e1:((cM ch (Ts bits ch t x) 0).length:Int)=0:=rfl;rw[e0,e1,Bbt,hV,show((0:Nat):Int)=0 from rfl]at h;rw[Nh,JE,Aju hb ht h1 h6 hx1 hx4 hm hr,Aa];simp only;rw[Aan (by decide),Ajq ch,Aa,FJ,Afr,FI];exact h
theorem Aic{r:Nat}(h1:1<=r)(h:r<=1048576):Gy (r:Int)=some ((Ag r:Int),0):=by
 have hv:=qi h;have e:Bf (r:Int) 256=Bf 256 (r:Int):=by rw[Fa,Fa];omega
 rw[Gy,Aan (by simp[Ae,Aq];omega),e];have hq:0<=Bt (Bf 256 (r:Int)) 245:=by
  have e2:Bf 256 (r:Int)=((256*r:Nat):Int):=by rw[Fa];omega
  rw[e2,show(245:Int)=((245:Nat):Int)from rfl,GG];omega
 rw[Ac4]at hv;by_cases hz:Bt (Bf 256 (r:Int)) 245=0
 ·rw[Acf (by rw[As];simpa using hz)];rw[hz]at hv;have:(1:Int)=(Ag r:Int):=by omega
  rw[this]
 ·rw[Aan (by rw[As];simpa using hz)];have:Bt (Bf 256 (r:Int)) 245=(Ag r:Int):=by omega
  rw[this]
theorem xQ{r:Nat}(h:r<=1048576)(K:Nat)(hK:K<=1000):∀(j n q:Nat) (acc:List Int),n<=4000->n<=j->j<q->acc.length+n<=10000-> (acc++(if n=0 then []else Ak (Ag r) n)).length=K->Fh (Ag r:Int) q (n:Int) acc=some (acc++(if n=0 then []else Ak (Ag r) n),0)
 |0,n,q+1,acc,hn,hj,hq,ha,hk=>by
  obtain rfl:n=0:=by omega
  rw[Acf rfl,Als]at hk;rw[Fh,Ld,Aan (by rw[Aq];simp),Tz,Uh,Aan (by rw[Aq,Ac];simp;omega),Acf rfl,Als]
 |j+1,n,q+1,acc,hn,hj,hq,ha,hk=>by
  have hp:=Em r;have hl:=TI h;by_cases h0:n=0
  ·subst h0;rw[Acf rfl,Als]at hk;rw[Fh,Ld,Aan (by rw[Aq];simp),Tz,Uh,Aan (by rw[Aq,Ac];simp;omega),Acf rfl,Als]
  ·rw[Fh,Ld,Acf (by rw[Aq];simp;omega),Bg (by simp;omega),Aa,FH];rw[Aan h0]at hk⊢;by_cases hs:n<=Ag r
   ·rw[show min (n:Int) (Ag r:Int)=(n:Int) by omega,Bu,Int.sub_self];have ih:=xQ h K hK j 0 q (acc++[(n:Int)]) (by omega) (by omega) (by omega) (by simp;omega) (by rw[Acf rfl,Als];rw[RX hs (by omega)]at hk;exact hk);rw[Acf rfl,Als]at ih;rw[RX hs (by omega)];exact ih
   ·rw[show min (n:Int) (Ag r:Int)=(Ag r:Int) by omega,Bu,show(n:Int)-(Ag r:Int)=((n-Ag r:Nat):Int) by omega];have e:acc++Ak (Ag r) n=(acc++[(Ag r:Int)])++Ak (Ag r) (n-Ag r):=by rw[sT hp (show Ag r<n by omega)];simp
    have ih:=xQ h K hK j (n-Ag r) q (acc++[(Ag r:Int)]) (by omega) (by omega) (by omega) (by simp;omega) (by rw[Aan (by omega),<-e];exact hk);rw[Aan (by omega),<-e]at ih;exact ih
theorem Ayu{r n:Nat}(h1:1<=r)(h:r<=1048576)(n1:1<=n)(n2:n<=4000)(hk:(n-1)/Ag r+1<=1000):∃z:Int,Jg (r:Int) (n:Int)=some (z,0):=by
 have hl:=xQ h (Ak (Ag r) n).length (by rw[AH];omega) n n Au [] n2 (Ao7 _) (by have:=Ar;omega) (by simp;omega) (by rw[Aan (by omega)];rfl);rw[Jg,CD,Ug,Aic h1 h,Aa];simp only;rw[Aan (by simp[Ah,Ae,Aq];omega),DB,hl,Aa];exact⟨_,rfl⟩
section
variable {b p:List UInt8} {f c w r n A:Nat} {l:List Int} (o:Opn b p f c w r n A l)
include o
theorem Ax3{X:List Int32}{N:Nat}(hN:1<=N)(hNn:N<=n)(hX:X.length=N*c)(hr':xq (w:Int) X):Dm (c:Int) (w:Int) (r:Int) X=some 0:=by
 obtain⟨hc,hw,hr,hn,_⟩:=Uu o.shape;have hfit:n<=4000/c/\ (n-1)/Ag r+1<=1000:=by have:=o.fit;simpa only[Yj,Adx]using this
 have hX4:X.length<=4000:=by
  have h1:=Aep c (Bgv hNn hfit.1);have h2:=Bcc 4000 c;omega
 have hX1:1<=X.length:=by rw[hX];exact Bg7 hN (by omega)
 have hhB:=FL (w:Int);have hq4:=R4 hc.1 hc.2;have hn4:n<=4000:=by have:=Aq1 4000 c;omega
 generalize 4000/c=mm at*
 have e20:Bn (c:Int) (w:Int)=some 0:=by
  rw[Bn,Aan (by simp[Ae,Aq];omega),WQ hw,Aa,Aan (by rw[As];simp;omega)]
 have Bfz:Fo (Ac X) (c:Int)=0:=by
  rw[Ac,hX,IZ,Bcf];rfl
 have eA:Ck (c:Int) (w:Int) X=some 0:=by
  rw[Ck,e20,Aa,Aan (by decide),uB hw hX4 hr',Aa,Aan (by decide),Aan (by rw[Ae,Ac];simp;omega),Bj (by rw[Ah];simp;omega),Aa,Bfz,Aan (by decide)]
 have Bb9:Bt (Ac X) (c:Int)=(N:Int):=by rw[Ac,GG,hX,Bgd _ (by omega)]
 have e21:Eu (c:Int) (w:Int) (N:Int)=some 0:=by
  rw[Eu,e20,Aa,Aan (by simp[Ah,Ae];omega),Bj (by rw[Ah];simp;omega),Aa,hq4,Aan (by rw[Aq];simp;omega)]
 obtain⟨z,e22⟩:=Ayu hr.1 hr.2 hN (by omega) (by have:=Bgq (c:=Ag r) (show N-1<=n-1 by omega);omega);rw[Dm,Hi,Aa];simp only;rw[eA,Aa,Aan (by decide),Bj (by rw[Ah];simp;omega),Aa,Bb9,NH,Hi,Aa];simp only;rw[e21,Aa,Aan (by decide),e22,Aa,Aa];rfl
end
structure ClipOk (c w r n:Nat) (x:List Int32):Prop where
 ch:1<=c/\c<=6
 bits:Bl (w:Int)
 rate:1<=r/\r<=1048576
 cnt:1<=n/\n<=4000/c
 len:x.length=n*c
 fr:(n-1)/Ag r+1<=1000
 rng:xq (w:Int) x
theorem ClipOk.le{c w r n:Nat}{x:List Int32}(h:ClipOk c w r n x):n<=4000/\n*c<=4000/\1<=x.length/\x.length<=4000:=by
 have h1:=Aep c h.cnt.2;have h2:=Bcc 4000 c;have h3:=Aq1 4000 c;have h4:=Bg7 h.cnt.1 h.ch.1;have h5:=h.len;have:=h.cnt;omega
theorem ClipOk.w3{c w r n:Nat}{x:List Int32}(h:ClipOk c w r n x):w=8\/w=16\/w=24:=by
 have:=h.bits;unfold Bl at this;omega
theorem ClipOk.shape{c w r n:Nat}{x:List Int32}(h:ClipOk c w r n x)(f:Nat)(hf:f=1\/f=2):Fu f c w r n=true:=by
 have:=h.w3;have:=h.ch;have:=h.rate;have:=h.cnt;simp only[Fu,Adx];omega
theorem ClipOk.fit{c w r n:Nat}{x:List Int32}(h:ClipOk c w r n x):Yj c r n=true:=by
 have:=h.cnt;have:=h.fr;simp only[Yj,Adx];omega
theorem Bc5{bits:Int}(h:Bl bits){l:List Int32}(hl:l.length<=4000):Ay bits l=some 0\/Ay bits l=some 16:=by
 have hh:=FL bits;have key:∀(j i q:Nat),i+j=l.length->j<q->Ba l (hB bits) q (i:Int)=some 0\/Ba l (hB bits) q (i:Int)=some 16:=by
  intro j
  induction j with
  |zero=>
   intro i q hi hq;obtain⟨q,rfl⟩:∃q',q=q'+1:=⟨q-1,by omega⟩;rw[Ba,Df,Aan (by rw[Ae,Ac];simp;omega)];exact .inl rfl
  |succ j ih=>
   intro i q hi hq;obtain⟨q,rfl⟩:∃q',q=q'+1:=⟨q-1,by omega⟩;have ih:=ih (i+1) q (by omega) (by omega);have hi1:Ad (i:Int) 1=((i+1:Nat):Int):=by rw[Aj];omega
   rw[Ba,Df,Acf (by rw[Ae,Ac];simp;omega),Br,Aa,Aa,hi1];split
   ·exact .inr rfl
   ·split
    ·exact .inr rfl
    ·exact ih
 have hk:=key l.length 0 Au (by omega) (by have:=Ar;omega);rw[Ay,Ed,WQ h,Aa,Aan (by rw[As];simp;omega),Aan (by rw[Aq,Ac];simp;omega)];exact hk
theorem rB{bits:Int}(h:¬Bl bits):Kx bits=some 0/\Sg bits=some (0,0,2):=by
 unfold Bl at h;constructor
 ·rw[Kx,Aan (by rw[As,Avz];omega),Aan (by rw[As,Avz];omega),Aan (by rw[As,Avz];omega)]
 ·have e:(geq bits 24)=false:=by rw[As,beq_eq_false_iff_ne];omega
  rw[Sg,aK,Aan (by rw[As,Avz];omega),Aan (by rw[As,Avz];omega),e,bV,qC,Aan (by decide)]
theorem G6{r:Nat}(h:r<=1048576):∀(j n q:Nat) (acc:List Int),n<=4000->n<=j->j<q->acc.length+n<=10000->
  Fh (Ag r:Int) q (n:Int) acc=some (if 1000<(acc++(if n=0 then []else Ak (Ag r) n)).length then([],4)else(acc++(if n=0 then []else Ak (Ag r) n),0))
 |j,n,0,acc,_,_,h,_=>absurd h (Awy _)
 |j,n,q+1,acc,hn,hj,hq,ha=>by
  have hp:=Em r;by_cases h0:n=0
  ·subst h0;rw[Acf rfl,Als,Fh,Ld,Aan (by rw[Aq];simp),Tz,Uh,Aq,Ac];by_cases hk:1000<acc.length
   ·rw[Acf hk,Acf (by simp;omega)]
   ·rw[Aan hk,Aan (by simp;omega)]
  ·obtain⟨j,rfl⟩:∃j',j=j'+1:=⟨j-1,by omega⟩;rw[Fh,Ld,Acf (by rw[Aq];simp;omega),Bg (by simp;omega),Aa,FH];by_cases hs:n<=Ag r
   ·rw[show min (n:Int) (Ag r:Int)=(n:Int) by omega,Bu,Int.sub_self];have ih:=G6 h j 0 q (acc++[(n:Int)]) (by omega) (by omega) (by omega) (by simp;omega);rw[Acf rfl,Als]at ih;rw[Aan h0,RX hs (by omega)];exact ih
   ·rw[show min (n:Int) (Ag r:Int)=(Ag r:Int) by omega,Bu,show(n:Int)-(Ag r:Int)=((n-Ag r:Nat):Int) by omega];have e:acc++Ak (Ag r) n=(acc++[(Ag r:Int)])++Ak (Ag r) (n-Ag r):=by rw[sT hp (show Ag r<n by omega)];simp
    have ih:=G6 h j (n-Ag r) q (acc++[(Ag r:Int)]) (by omega) (by omega) (by omega) (by simp;omega);rw[Aan (show ¬n-Ag r=0 by omega),<-e]at ih;rw[Aan h0];exact ih
theorem Ajl(C W R:Int)(x:List Int32)(hlen:x.length<4611686018427387904):(Dm C W R x=some 8/\Ep C W R x=some 8)\/
  (∃c w r n:Nat,C=(c:Int)/\W=(w:Int)/\R=(r:Int)/\ClipOk c w r n x/\Dm C W R x=some 0/\Ep C W R x=some 0):=by
 have xn:∀e:Int,e≠0->Ck C W x=some e->Dm C W R x=some 8:=by
  intro e he h;rw[Dm,Hi,Aa];simp only;rw[h,Aa,Acf (by rw[Ah];simpa using he)]
 by_cases hC:C<1
 ·refine .inl ⟨xn 2 (by decide) ?_,?_⟩
  ·rw[Ck,Bn,Acf (by simp[Ae,Aq];omega),Aa,Acf (by decide)]
  ·rw[Ep,Acf (by rw[Ae];simpa using hC)]
 obtain⟨c,rfl⟩:=Ah6 (show 0<=C by omega);have hc1:1<=c:=by omega
 have hq:Bt (Ac x) (c:Int)=((x.length/c:Nat):Int):=by rw[Ac,GG]
 have hr0:Fo (Ac x) (c:Int)=((x.length %c:Nat):Int):=by rw[Ac,IZ]
 have As8:(∀m:Nat,x.length=m*c->PD (c:Int) W R x (m:Int)=some 8)->Ep (c:Int) W R x=some 8:=by
  intro h;rw[Ep,Aan (by rw[Ae];simpa using hC),Bj (by rw[Ah];simp;omega),Aa,hr0];by_cases hm:x.length %c=0
  ·have hx:x.length=x.length/c*c:=by have:=Bfw x.length c;rw[hm,Aqr]at this;omega
   rw[hm,Aan (by decide),Aa,hq,h _ hx,Aa,Acf (by decide)]
  ·rw[Acf (by rw[Ah];simp;omega)]
 by_cases h6:6<c
 ·refine .inl ⟨xn 2 (by decide) ?_,As8 λm hm=>?_⟩
  ·rw[Ck,Bn,Acf (by simp[Ae,Aq];omega),Aa,Acf (by decide)]
  ·rw[PD,PL,Aa];simp only;have:Gi (c:Int) W=some 2:=by
    rw[Gi];by_cases hb:Bl W
    ·rw[ic hb,Aa];simp only;rw[Acf (by simp[Ah,Ae,Aq];omega)]
    ·rw[(rB hb).2,Aa];simp only;rw[Acf (by simp[Ah])]
   rw[this,Aa,Acf (by simp[Ah])]
 by_cases hb:Bl W
 rotate_left
 ·refine .inl ⟨xn 2 (by decide) ?_,As8 λm hm=>?_⟩
  ·rw[Ck,Bn,Aan (by simp[Ae,Aq];omega),(rB hb).1,Aa,Acf (by decide),Aa,Acf (by decide)]
  ·rw[PD,PL,Aa];simp only;have:Gi (c:Int) W=some 2:=by
    rw[Gi,(rB hb).2,Aa];simp only;rw[Acf (by simp[Ah])]
   rw[this,Aa,Acf (by simp[Ah])]
 have hhB:=FL W;have e20:Bn (c:Int) W=some 0:=by
  rw[Bn,Aan (by simp[Ae,Aq];omega),WQ hb,Aa,Aan (by rw[As];simp;omega)]
 have hq4:=R4 hc1 (show c<=6 by omega);have ecf:=Aji hb hc1 (show c<=6 by omega);have Anl:∀m:Nat,PD (c:Int) W R x (m:Int)=if m<1\/4000/c<m then some 8 else Option.bind (Kb R (m:Int)) λy=>if(Bc y.2 0)=true then some 8 else some 0:=by
  intro m;rw[PD,PL,Aa];simp only;rw[ecf,Aa];by_cases hm:m<1
  ·rw[Acf (by simp[Ah,Ae];omega),Acf (.inl hm)]
  ·rw[Aan (by simp[Ah,Ae];omega),Bj (by rw[Ah];simp;omega),Aa,hq4];by_cases hm2:4000/c<m
   ·rw[Acf (by rw[Aq,Adx,gt_iff_lt,Int.ofNat_lt];exact hm2),Acf (.inr hm2)]
   ·rw[Aan (by rw[Aq,Adx,gt_iff_lt,Int.ofNat_lt];exact hm2),Aan (by omega)]
 by_cases hx4:4000<x.length
 ·refine .inl ⟨xn 4 (by decide) ?_,As8 λm hm=>?_⟩
  ·have:Ay W x=some 4:=by
    rw[Ay,Ed,WQ hb,Aa,Aan (by rw[As];simp;omega),Acf (by rw[Aq,Ac];simp;omega)]
   rw[Ck,e20,Aa,Aan (by decide),this,Aa,Acf (by decide),Aa]
  ·rw[Anl,Acf];refine .inr ?_;rw[Nat.div_lt_iff_lt_mul (by omega)];omega
 have hx4:x.length<=4000:=by omega
 have hsame:=bA hb x hx4;rcases Bc5 hb hx4 with h18|h18
 rotate_left
 ·refine .inl ⟨xn 16 (by decide) ?_,?_⟩
  ·rw[Ck,e20,Aa,Aan (by decide),h18,Aa,Acf (by decide),Aa]
  ·rw[Ep,Aan (by rw[Ae];simpa using hC),Bj (by rw[Ah];simp;omega),Aa,hr0];by_cases hm:x.length %c=0
   ·rw[hm,Aan (by decide),Aa,hq,Anl];split
    ·rw[Aa,Acf (by decide)]
    ·rename_i hh;by_cases hR:1<=R/\R<=1048576
     ·obtain⟨r,rfl⟩:=Ah6 (show 0<=R by omega);have hd:=Aq1 x.length c;rw[lC (by omega) (by omega) (by omega) (by omega),Aa];split
      ·rw[Acf (by decide),Aa,Acf (by decide)]
      ·rw[Aan (by simp[Ah]),Aa,Aan (by decide),hsame,h18,Aa,Acf (by decide)]
     ·rw[Kb,Oq,Acf (by simp[Ae,Aq];omega),Aa];simp only;rw[Acf (by decide),Aa];simp only;rw[Acf (by decide),Aa,Acf (by decide)]
   ·rw[Acf (by rw[Ah];simp;omega)]
 by_cases hx1:x.length<1
 ·refine .inl ⟨xn 2 (by decide) ?_,As8 λm hm=>?_⟩
  ·rw[Ck,e20,Aa,Aan (by decide),h18,Aa,Aan (by decide),Acf (by rw[Ae,Ac];simp;omega)]
  ·have h0:m*c=0:=by omega
   have:m=0:=by rcases Nat.mul_eq_zero.1 h0 with h|h<;>omega
   rw[Anl,Acf (.inl (by omega))]
 have hA:x.length %c=0->Ck (c:Int) W x=some 0:=by
  intro hm;rw[Ck,e20,Aa,Aan (by decide),h18,Aa,Aan (by decide),Aan (by rw[Ae,Ac];simp;omega),Bj (by rw[Ah];simp;omega),Aa,hr0,hm,Aan (by decide)]
 by_cases hm:x.length %c=0
 rotate_left
 ·refine .inl ⟨xn 2 (by decide) ?_,?_⟩
  ·rw[Ck,e20,Aa,Aan (by decide),h18,Aa,Aan (by decide),Aan (by rw[Ae,Ac];simp;omega),Bj (by rw[Ah];simp;omega),Aa,hr0,Acf (by rw[Aq];simp;omega)]
  ·rw[Ep,Aan (by rw[Ae];simpa using hC),Bj (by rw[Ah];simp;omega),Aa,hr0,Acf (by rw[Ah];simp;omega)]
 have hxn:x.length=x.length/c*c:=by have:=Bfw x.length c;rw[hm,Aqr]at this;omega
 generalize hN:x.length/c=n at*
 have hn1:1<=n:=by
  by_cases h0:n=0
  ·rw[h0]at hxn;omega
  ·omega
 have hn4:n<=4000/c:=by rw[<-hN];exact Bgq hx4
 have hn4':n<=4000:=Bgv hn4 (Aq1 _ _);have e21:Eu (c:Int) W (n:Int)=some 0:=by
  rw[Eu,e20,Aa,Aan (by simp[Ah,Ae];omega),Bj (by rw[Ah];simp;omega),Aa,hq4,Aan (by rw[Aq,Adx,gt_iff_lt,Int.ofNat_lt];omega)]
 have Avg:∀z e:Int,Jg R (n:Int)=some (z,e)->Dm (c:Int) W R x=some (if e=0 then 0 else 8):=by
  intro z e hz;rw[Dm,Hi,Aa];simp only;rw[hA hm,Aa,Aan (by decide),Bj (by rw[Ah];simp;omega),Aa,hq,NH,Hi,Aa];simp only;rw[e21,Aa,Aan (by decide),hz,Aa,Aa,As];by_cases he:e=0
  ·subst he;rfl
  ·rw[Aan he,Acf (by simpa using he)]
 have Abp:Ep (c:Int) W R x=Option.bind (Option.bind (Kb R (n:Int)) λy=>if(Bc y.2 0)=true then some 8 else some 0) λg=>if(Bc g 0)=true then some g else some 0:=by
  rw[Ep,Aan (by rw[Ae];simpa using hC),Bj (by rw[Ah];simp;omega),Aa,hr0,hm,Aan (by decide),Aa,hq,Anl,Aan (by omega),hsame,h18];rfl
 by_cases hR:1<=R/\R<=1048576
 rotate_left
 ·refine .inl ⟨?_,?_⟩
  ·refine Avg 0 2 ?_;rw[Jg,CD,Ug,Gy,Acf (by simp[Ae,Aq];omega),Aa];simp only;rw[Acf (by simp[Ah]),Aa];rfl
  ·rw[Abp,Kb,Oq,Acf (by simp[Ae,Aq];omega),Aa];simp only;rw[Acf (by decide),Aa];simp only;rw[Acf (by decide),Aa,Acf (by decide)]
 obtain⟨r,rfl⟩:=Ah6 (show 0<=R by omega);have hl:=G6 (r:=r) (by omega) n n Au [] hn4' (Ao7 _) (by have:=Ar;omega) (by simp;omega);rw[Aan (show ¬n=0 by omega),Auy,AH]at hl;have hcount:∃z:Int,Jg (r:Int) (n:Int)=some (z,if 1000<(n-1)/Ag r+1 then 4 else 0):=by
  rw[Jg,CD,Ug,Aic (by omega) (by omega),Aa];simp only;rw[Aan (by simp[Ah,Ae,Aq];omega),DB,hl,Aa];split<;>exact⟨_,rfl⟩
 obtain⟨z,hz⟩:=hcount;have h24:=Avg z _ hz;rw[lC (by omega) (by omega) hn1 hn4',Aa]at Abp;by_cases hk:1000<(n-1)/Ag r+1
 ·rw[Acf hk]at h24 Abp;exact .inl ⟨h24,Abp⟩
 ·rw[Aan hk]at h24 Abp;have hw:∃w:Nat,W=(w:Int):=by
   rcases hb with rfl|rfl|rfl
   ·exact⟨8,rfl⟩
   ·exact⟨16,rfl⟩
   ·exact⟨24,rfl⟩
  obtain⟨w,rfl⟩:=hw;exact .inr ⟨c,w,r,n,rfl,rfl,rfl,⟨⟨hc1,by omega⟩,hb,by omega,⟨hn1,hn4⟩,hxn,by omega,jV hb hx4 h18⟩,h24,Abp⟩
theorem Ans(C W R:Int){x:List Int32}(h:4000<x.length):Dm C W R x=some 8:=by
 have key:∃e:Int,e≠0/\Ck C W x=some e:=by
  rw[Ck,Bn];by_cases h1:((Cj C 1)||(Ef C 6))=true
  ·rw[Acf h1,Aa,Acf (by decide)];exact⟨2,by decide,rfl⟩
  ·rw[Aan h1];by_cases hb:Bl W
   ·have hh:=FL W;have h18:Ay W x=some 4:=by
     rw[Ay,Ed,WQ hb,Aa,Aan (by rw[As];simp;omega),Acf (by rw[Aq,Ac];simp;omega)]
    rw[WQ hb,Aa,Aan (by rw[As];simp;omega),Aa,Aan (by decide),h18,Aa,Acf (by decide),Aa];exact⟨4,by decide,rfl⟩
   ·rw[(rB hb).1,Aa,Acf (by decide),Aa,Acf (by decide)];exact⟨2,by decide,rfl⟩
 obtain⟨e,he,h1⟩:=key;rw[Dm,Hi,Aa];simp only;rw[h1,Aa,Acf (by rw[Ah];simpa using he)]
theorem Afb(C W R:Int)(x:List Int32):(Dm C W R x=some 8/\ (x.length<4611686018427387904->Ep C W R x=some 8))\/
  (∃c w r n:Nat,C=(c:Int)/\W=(w:Int)/\R=(r:Int)/\ClipOk c w r n x/\Dm C W R x=some 0/\Ep C W R x=some 0):=by
 by_cases hx:x.length<4611686018427387904
 ·rcases Ajl C W R x hx with⟨h1,h2⟩|h
  ·exact .inl ⟨h1,λ_=>h2⟩
  ·exact .inr h
 ·exact .inl ⟨Ans C W R (by omega),λh=>absurd h hx⟩
def K7(f c w r n:Nat):List UInt8:=Pg++Sk f 2++Sk c 2++Sk w 2++Sk r 4++Sk n 4
def LR(f c w r n:Nat):List UInt8:=K7 f c w r n++Sk (Ez (K7 f c w r n)).toNat 4
theorem iP(f c w r n:Nat):(K7 f c w r n).length=18:=by simp only[K7,Pg,Adl,Cg];rfl
theorem jW(f c w r n:Nat):(LR f c w r n).length=22:=by rw[LR,Adl,iP,Cg]
theorem tq(b f g h k:Int)(m v w q:Nat)(a:List UInt8)(hm:m<5)(hv:Ap ([b,f,g,h,k]:List Int) (m:Int)=some (v:Int))(hw:Ap ([2,2,2,4,4]:List Int) (m:Int)=some (w:Int))(h1:1<=w)(h8:w<=8)(hlt:v<256^w)(h64:v<18446744073709551616)(ha:a.length<=100):
  Nu b f g h k (q+1) (m:Int) a=Nu b f g h k q ((m+1:Nat):Int) (a++Sk v w):=by
 have e64:(UInt64.ofNat v).toNat=v:=dJ (by omega);have hi1:Ad (m:Int) 1=((m+1:Nat):Int):=by rw[Aj];omega
 rw[Nu,EY,Acf (by rw[Ae];simp;omega),hv,Aa,hw,Aa,Yb,bH _ w h1 h8 (by rw[e64];exact hlt),Aa];simp only;rw[Bg (by rw[Cg];omega),Aa,hi1,e64]
theorem C4{f c w r n:Nat}(h1:Fu f c w r n=true)(h2:Yj c r n=true):LC (f:Int) (c:Int) (w:Int) (r:Int) (n:Int)=some (LR f c w r n,0):=by
 have hs:(f=1\/f=2)/\ (1<=c/\c<=6)/\ (w=8\/w=16\/w=24)/\ (1<=r/\r<=1048576)/\1<=n:=by simpa only[Fu,Adx]using h1
 have hn:n<=4000:=by
  simp only[Yj,Adx]at h2;have:=Aq1 4000 c;omega
 have hck:Oo (f:Int) (c:Int) (w:Int) (r:Int) (n:Int)=some 0:=by
  rw[Oo,cX,Aa,h1,Aan (by decide),tK h1,Aa,h2,Aan (by decide)]
 have hF:Au=(Au-6)+1+1+1+1+1+1:=by have:=Ar;omega
 have hlt:=(Ez (K7 f c w r n)).toNat_lt;have e64:(UInt64.ofNat (Ez (K7 f c w r n)).toNat).toNat=(Ez (K7 f c w r n)).toNat:=dJ (by omega);have hfin:FA (K7 f c w r n)=some (LR f c w r n,0):=by
  rw[FA,nJ,I5 _ (by rw[iP];omega),Aa];simp only;rw[Dx,show(4:Int)=((4:Nat):Int)from rfl,bH _ 4 (by omega) (by omega) (by rw[e64];omega),Aa];simp only;rw[Bg (by rw[iP,Cg];omega),Aa,e64];rfl
 rw[LC,WB,hck,Aa,Aan (by decide),VI,hF];have s0:=tq (f:Int) (c:Int) (w:Int) (r:Int) (n:Int) 0 f 2 ((Au-6)+1+1+1+1+1) Pg (by omega) rfl rfl (by omega) (by omega) (by omega) (by omega) (by decide);have s1:=tq (f:Int) (c:Int) (w:Int) (r:Int) (n:Int) 1 c 2 ((Au-6)+1+1+1+1) (Pg++Sk f 2) (by omega) rfl rfl (by omega) (by omega) (by omega) (by omega) (by simp[Cg,Pg]);have s2:=tq (f:Int) (c:Int) (w:Int) (r:Int) (n:Int) 2 w 2 ((Au-6)+1+1+1) (Pg++Sk f 2++Sk c 2) (by omega) rfl rfl (by omega) (by omega) (by omega) (by omega) (by simp[Cg,Pg]);have s3:=tq (f:Int) (c:Int) (w:Int) (r:Int) (n:Int) 3 r 4 ((Au-6)+1+1) (Pg++Sk f 2++Sk c 2++Sk w 2) (by omega) rfl rfl (by omega) (by omega) (by omega) (by omega) (by simp[Cg,Pg]);have s4:=tq (f:Int) (c:Int) (w:Int) (r:Int) (n:Int) 4 n 4 ((Au-6)+1) (Pg++Sk f 2++Sk c 2++Sk w 2++Sk r 4) (by omega) rfl rfl (by omega) (by omega) (by omega) (by omega) (by simp[Cg,Pg]);refine s0.trans (s1.trans (s2.trans (s3.trans (s4.trans ?_))));rw[Nu,EY,Aan (by decide)];exact hfin
def cJ(l:List Int):List UInt8:=l.flatMap λx=>Sk x.toNat 4
def rF(l:List Int):List UInt8:=cJ l++Sk (Ez (cJ l)).toNat 4
theorem SD(l:List Int):(cJ l).length=4*l.length:=by
 induction l with
 |nil=>rfl
 |cons x l ih=>rw[cJ,Bha,Adl,Cg,show(l.flatMap λx=>Sk x.toNat 4)=cJ l from rfl,ih,Aqj];omega
theorem B0(l:List Int):(rF l).length=4*l.length+4:=by rw[rF,Adl,SD,Cg]
theorem Aoe(l:List Int)(x:Int):cJ (l++[x])=cJ l++Sk x.toNat 4:=by simp[cJ]
theorem P1(l:List Int)(hl:l.length<=1000)(h5:∀x∈l,5<=x/\x<=100000):∀(j i q:Nat),i+j=l.length->j<q->Ul l q (i:Int) (cJ (l.take i))=some (rF l,0)
 |j,i,0,_,h=>absurd h (Awy _)
 |0,i,q+1,hi,_=>by
  have hlt:=(Ez (cJ l)).toNat_lt;have e64:(UInt64.ofNat (Ez (cJ l)).toNat).toNat=(Ez (cJ l)).toNat:=dJ (by omega);rw[Ul,MW,Aan (by rw[Ae,Ac];simp;omega),Apg (by omega),UX,VB,I5 _ (by rw[SD];omega),Aa];simp only;rw[Dx,show(4:Int)=((4:Nat):Int)from rfl,bH _ 4 (by omega) (by omega) (by rw[e64];omega),Aa];simp only;rw[Bg (by rw[SD,Cg];omega),Aa,e64];rfl
 |j+1,i,q+1,hi,hq=>by
  have ih:=P1 l hl h5 j (i+1) q (by omega) (by omega);obtain⟨x5,x6⟩:=h5 l[i] (Aqp _);obtain⟨v,hv⟩:=Ah6 (show 0<=l[i] by omega);have e64:(UInt64.ofNat v).toNat=v:=dJ (by omega);have hi1:Ad (i:Int) 1=((i+1:Nat):Int):=by rw[Aj];omega
  rw[Ul,MW,Acf (by rw[Ae,Ac];simp;omega),Br,Aa,hv,Yb,show(4:Int)=((4:Nat):Int)from rfl,bH _ 4 (by omega) (by omega) (by rw[e64];omega),Aa];simp only;rw[Bg (by rw[SD,Cg,Ahn];omega),Aa,VG,oA,hi1,e64];rw[Lb (by omega),Aoe,hv,Ahe]at ih;exact ih
theorem Q1(l:List Int):HS l=some (if Vt l=true then(rF l,0)else([],8)):=by
 rw[HS,ZN,YR,Aa];by_cases h:Vt l=true
 ·rw[Acf h,Acf h,Aan (by decide)];simp only[Vt,Ady,Adx]at h;obtain⟨⟨h1,h2⟩,h3⟩:=h;have h4:=(EU l 100000 (by omega)).1 h3;have h6:=E4 h4.1;have hl:=P1 l h2 (λx hx=>⟨h4.1 x hx,by have:=h6 x hx;omega⟩) l.length 0 Au (by omega) (by have:=Ar;omega);exact hl
 ·rw[Aan h,Aan h,Acf (by decide)]
theorem Abi(l:List LB)(hl:l.length<=100000)(hf:l.flatten.length<=1000000):∀(j i q:Nat),i+j=l.length->j<q->Vu l q (i:Int) (l.take i).flatten=some l.flatten
 |j,i,0,_,h=>absurd h (Awy _)
 |0,i,q+1,hi,_=>by
  rw[Vu,LN,Aan (by rw[Ae,Ac];simp;omega),Apg (by omega)];rfl
 |j+1,i,q+1,hi,hq=>by
  have ih:=Abi l hl hf j (i+1) q (by omega) (by omega);have hi1:Ad (i:Int) 1=((i+1:Nat):Int):=by rw[Aj];omega
  have hsn:(l.take (i+1)).flatten=(l.take i).flatten++l[i]:=by rw[Lb (by omega),Bgj];simp
  have hsp:l.flatten=(l.take (i+1)).flatten++(l.drop (i+1)).flatten:=by rw[<-Bgj,Ba1]
  have hle:((l.take i).flatten).length+(l[i]).length<=1000000:=by
   rw[hsp,Adl,hsn,Adl]at hf;omega
  rw[Vu,LN,Acf (by rw[Ae,Ac];simp;omega),Br,Aa,Bg,Aa,hi1,<-hsn];exact ih
theorem join_eq(l:List LB)(hl:l.length<=100000)(hf:l.flatten.length<=1000000):sL l=some l.flatten:=by
 have h:=Abi l hl hf l.length 0 Au (by omega) (by have:=Ar;omega);exact h
def Hv(c:Nat):List Int32->List Int->List (List Int32)
 |_,[]=>[]
 |x,m::l=>x.take (m.toNat*c)::Hv c (x.drop (m.toNat*c)) l
theorem cE(c:Nat):∀(l:List Int) (x:List Int32),(Hv c x l).length=l.length
 |[],x=>rfl
 |m::l,x=>by rw[Hv,Aqj,Aqj,cE c l]
theorem O1(c:Nat):∀(l:List Int) (x:List Int32),(∀m∈l,0<=m)->x.length=l.sum.toNat*c-> (Hv c x l).flatten=x
 |[],x,_,h=>by
  have:x=[]:=Azy (by simpa using h);rw[this];rfl
 |m::l,x,h0,h=>by
  have hm:=h0 m Avi;have hl:0<=l.sum:=by
   have:∀l:List Int,(∀m∈l,0<=m)->0<=l.sum:=by
    intro l
    induction l with
    |nil=>intro _;simp
    |cons a l ih=>intro h;have:=ih (λm hm=>h m (Ama _ hm));have:=h a Avi;rw[Azg];omega
   exact this l λm hm=>h0 m (Ama _ hm)
  rw[Azg,show(m+l.sum).toNat=m.toNat+l.sum.toNat by omega,Ajz]at h;have ih:=O1 c l (x.drop (m.toNat*c)) (λm hm=>h0 m (Ama _ hm)) (by rw[Ah5];omega);rw[Hv,Bgi,ih,Ba1]
theorem vO(c:Nat)(x:List Int32)(hx:x.length<=4000):∀(l:List Int) (a:Nat),(∀m∈l,1<=m)->a+l.sum.toNat*c=x.length->Tq (c:Int) x l (a:Int)=some (Hv c (x.drop a) l)
 |[],a,_,_=>rfl
 |m::l,a,h1,ha=>by
  have hm:=h1 m Avi;have hl:=h1;have hs:0<=l.sum:=by
   have:∀l:List Int,(∀m∈l,1<=m)->0<=l.sum:=by
    intro l
    induction l with
    |nil=>intro _;simp
    |cons a l ih=>intro h;have:=ih (λm hm=>h m (Ama _ hm));have:=h a Avi;rw[Azg];omega
   exact this l λm hm=>h1 m (Ama _ hm)
  obtain⟨k,rfl⟩:=Ah6 (show 0<=m by omega);rw[Azg,show((k:Int)+l.sum).toNat=k+l.sum.toNat by omega,Ajz]at ha;have hkc:Bf (k:Int) (c:Int)=((k*c:Nat):Int):=by rw[Fa (by rw[<-Aqn];omega) (by rw[<-Aqn];omega),<-Aqn]
  have hadd:Ad (a:Int) ((k*c:Nat):Int)=((a+k*c:Nat):Int):=by rw[Aj];omega
  have ih:=vO c x hx l (a+k*c) (λm hm=>h1 m (Ama _ hm)) (by omega);rw[Tq,hkc,hadd,Uy,Aa,ih,Aa,Hv,Ahe,Ahe,Ahe,Bew,List.drop_take,Bch]
theorem Aly(w c:Nat)(hb:Bl (w:Int))(h1:1<=c)(h6:c<=6)(t:List Int32)(ht:t.length=16):∀(xs:List (List Int32)) (o:List LB),o.length+xs.length<=10000-> (∀y∈xs,1<=y.length/\y.length<=4000/\y.length %c=0/\xq (w:Int) y)->
  Tj (c:Int) (w:Int) t xs o=some (o++xs.map (FJ (w:Int) c t),0)
 |[],o,_,_=>by rw[Tj];simp
 |x::xs,o,ho,h=>by
  obtain⟨a1,a2,a3,a4⟩:=h x Avi;rw[Aqj]at ho;have ih:=Aly w c hb h1 h6 t ht xs (o++[FJ (w:Int) c t x]) (by simp;omega) (λy hy=>h y (Ama _ hy));rw[Tj,mD hb ht h1 h6 a1 a2 a3 a4,Aa,Aan (by simp[Ah]),Bg (by simp;omega),Aa,ih,Bdy];simp
theorem kG(c:Nat)(h1:1<=c):∀(l:List Int) (x:List Int32),(∀m∈l,1<=m)->x.length=l.sum.toNat*c->∀y∈Hv c x l,1<=y.length/\y.length<=x.length/\y.length %c=0/\∀v∈y,v∈x
 |[],x,_,_=>λy hy=>by simp[Hv]at hy
 |m::l,x,hm,hx=>by
  have hm1:=hm m Avi;have hl:0<=l.sum:=by
   have:∀l:List Int,(∀m∈l,1<=m)->0<=l.sum:=by
    intro l
    induction l with
    |nil=>intro _;simp
    |cons a l ih=>intro h;have:=ih (λm hm=>h m (Ama _ hm));have:=h a Avi;rw[Azg];omega
   exact this l λm hm'=>hm m (Ama _ hm')
  rw[Azg,show(m+l.sum).toNat=m.toNat+l.sum.toNat by omega,Ajz]at hx;have hpos:1<=m.toNat*c:=Bg7 (by omega) h1;intro y hy;rw[Hv,List.mem_cons]at hy;rcases hy with rfl|hy
  ·have hlen:(x.take (m.toNat*c)).length=m.toNat*c:=by rw[Ahn];omega
   rw[hlen];exact⟨hpos,by omega,Bcf _ _,λv hv=>Bgp hv⟩
  ·obtain⟨a1,a2,a3,a4⟩:=kG c h1 l (x.drop (m.toNat*c)) (λm hm'=>hm m (Ama _ hm')) (by rw[Ah5];omega) y hy;rw[Ah5]at a2;exact⟨a1,by omega,a3,λv hv=>Be1 (a4 v hv)⟩
theorem Y1(bits:Int)(ch:Nat)(t x:List Int32)(h0:1<=x.length)(h4:x.length<=4000):5<= (FJ bits ch t x).length/\ (FJ bits ch t x).length<=15*x.length:=by
 have h5:=Afl bits ch t x h0 h4;have h:=gU ch (Ts bits ch t x) x.length;refine⟨h5.1,?_⟩;rw[FJ,Adl,Cg,Afr,BK];omega
def It(fs:List LB):List Int:=fs.map λf=>(f.length:Int)
theorem Wk(fs:List LB):(It fs).length=fs.length:=by rw[It,List.length_map]
theorem ib:∀fs:List LB,(It fs).sum=(fs.flatten.length:Int)
 |[]=>rfl
 |f::fs=>by rw[It,Bdy,Azg,Bgi,Adl,show(fs.map λf=>(f.length:Int))=It fs from rfl,ib fs];omega
theorem Aqu(bits:Int)(ch:Nat)(t:List Int32):∀ys:List (List Int32),(∀y∈ys,1<=y.length/\y.length<=4000)-> ((ys.map (FJ bits ch t)).flatten).length<=15*ys.flatten.length
 |[],_=>by simp
 |y::ys,h=>by
  have ih:=Aqu bits ch t ys λy hy=>h y (Ama _ hy);obtain⟨h1,h4⟩:=h y Avi;have:=(Y1 bits ch t y h1 h4).2;rw[Bdy,Bgi,Bgi,Adl,Adl];omega
def Tr(p:LB):Nat:=if p=[]then 1 else 2
def cK(p:LB):LB:=if p=[]then []else Sk (Uk p).toNat 8
theorem qw(p:LB):Tr p=1\/Tr p=2:=by unfold Tr;split<;>simp
theorem D6(p:LB):(cK p).length=if Tr p=2 then 8 else 0:=by
 unfold cK Tr;by_cases h:p=[]
 ·rw[Acf h,Acf h];rfl
 ·rw[Aan h,Aan h,Cg];rfl
def uX(c r n:Nat)(x:List Int32):List (List Int32):=Hv c x (Ak (Ag r) n)
def pC(c w r n:Nat)(x:List Int32)(p:LB):List LB:=(uX c r n x).map (FJ (w:Int) c (Na p))
def NO(c w r n:Nat)(x:List Int32)(p:LB):LB:=LR (Tr p) c w r n++(cK p++(rF (It (pC c w r n x p))++(pC c w r n x p).flatten))
theorem HR{g n:Nat}(hg:1<=g)(h1:1<=n):∀m∈Ak g n,1<=m:=by
 intro m hm;rw[Ak,List.mem_append,List.mem_replicate,List.mem_singleton]at hm;have h:=Bcc (n-1) g;rcases hm with⟨_,rfl⟩|rfl
 ·omega
 ·omega
section
variable {c w r n:Nat} {x:List Int32} (h:ClipOk c w r n x)
include h
theorem ClipOk.sum:(Ak (Ag r) n).sum=(n:Int):=qX h.cnt.1
omit h in
theorem Ahq:(uX c r n x).length=(Ak (Ag r) n).length:=cE _ _ _
theorem An2:(uX c r n x).flatten=x:=by
 refine O1 _ _ _ (λm hm=>?_) ?_
 ·have:=HR (Em r) h.cnt.1 m hm;omega
 ·rw[h.sum,h.len,Ahe]
theorem jR:∀y∈uX c r n x,1<=y.length/\y.length<=4000/\y.length %c=0/\xq (w:Int) y:=by
 intro y hy;obtain⟨a1,a2,a3,a4⟩:=kG c h.ch.1 _ _ (HR (Em r) h.cnt.1) (by rw[h.sum,h.len,Ahe]) y hy;have:=h.le;exact⟨a1,by omega,a3,λv hv=>h.rng v (a4 v hv)⟩
omit h in
theorem Adk(p:LB):(pC c w r n x p).length=(Ak (Ag r) n).length:=by rw[pC,List.length_map];exact cE _ _ _
theorem Ak1(p:LB):1<= (pC c w r n x p).length/\ (pC c w r n x p).length<=1000:=by
 rw[Adk,AH];exact⟨Nat.le_add_left _ _,h.fr⟩
theorem Ahh(p:LB):((pC c w r n x p).flatten).length<=15*x.length:=by
 have:=Aqu (w:Int) c (Na p) (uX c r n x) λy hy=>⟨(jR h y hy).1,(jR h y hy).2.1⟩;rw[An2 h]at this;exact this
theorem Au0(p:LB):∀f∈pC c w r n x p,5<=f.length:=by
 intro f hf;rw[pC,List.mem_map]at hf;obtain⟨y,hy,rfl⟩:=hf;exact(Y1 _ _ _ _ (jR h y hy).1 (jR h y hy).2.1).1
theorem Z6(p:LB):Vt (It (pC c w r n x p))=true:=by
 have h1:=Ak1 h p;have h2:=Ahh h p;have h3:=h.le;simp only[Vt,Ady,Adx];rw[EU _ _ (by omega),Wk,ib];refine⟨by omega,λz hz=>?_,by omega⟩;rw[It,List.mem_map]at hz;obtain⟨f,hf,rfl⟩:=hz;have:=Au0 h p f hf;omega
omit h in
theorem za(p:LB):(NO c w r n x p).length=22+(if Tr p=2 then 8 else 0)+(4*(pC c w r n x p).length+4)+(pC c w r n x p).flatten.length:=by
 rw[NO,Adl,Adl,Adl,jW,D6,B0,Wk];omega
theorem Aur(p:LB):(NO c w r n x p).length<=34+4*(pC c w r n x p).length+15*x.length:=by
 have h1:=za (c:=c) (w:=w) (r:=r) (n:=n) (x:=x) p;have h2:=Ahh h p;split at h1<;>omega
theorem tY(p:LB):(NO c w r n x p).length<=64034:=by
 have:=Aur h p;have:=Ak1 h p;have:=h.le;omega
theorem Aqx(hk:Ep (c:Int) (w:Int) (r:Int) x=some 0)(p:LB)(hp:p.length<=64):dT (c:Int) (w:Int) (r:Int) x p=some ((Tr p:Int),(c:Int),(w:Int),(r:Int),(n:Int),0):=by
 have hc:=h.ch;have hq:Bt (Ac x) (c:Int)=(n:Int):=by rw[Ac,GG (by have:=h.le;omega),h.len,Bgd _ (by omega)]
 rw[dT,IE,hk,Aa,Aan (by decide),Aan (by rw[Aq,Ac];simp;omega),Bj (by rw[Ah];simp;omega),Aa,aF,qU,hq,Tr];by_cases h0:p=[]
 ·rw[Aan (by simp[h0]),Acf h0];rfl
 ·rw[Acf (by simpa using h0),Aan h0];rfl
theorem Q5(hk:Ep (c:Int) (w:Int) (r:Int) x=some 0)(p:LB)(hp:p.length<=64):SY (c:Int) (w:Int) (r:Int) x p=some (pC c w r n x p,0):=by
 have hc:=h.ch;have hle:=h.le;have hr:=h.rate;have hq:Bt (Ac x) (c:Int)=(n:Int):=by rw[Ac,GG,h.len,Bgd _ (by omega)]
 have hcut:bJ (c:Int) (r:Int) x=some (uX c r n x):=by
  have hp:=vO c x (by omega) (Ak (Ag r) n) 0 (HR (Em r) h.cnt.1) (by rw[h.sum,h.len,Ahe];omega);rw[bJ,Bj (by rw[Ah];simp;omega),Aa,hq,Ahj hr.1 hr.2 h.cnt.1 (by omega) h.fr,Aa,Bj (by have:=h.fr;simp only[Ac,AH,Adx];omega),Aa];exact hp
 have hfs:=Aly w c h.bits hc.1 hc.2 (Na p) (Nv p) (uX c r n x) [] (by rw[Ahq,AH];exact Bgv (Nat.add_le_add_left h.fr _) (by simp)) (jR h);rw[SY,hk,Aa,Aan (by decide),YL p hp,Aa];simp only;rw[Aan (by decide),hcut,Aa,hfs];rfl
omit h in
theorem jo(a:List LB)(b f:LB)(v:LB)(ha:a.length<=1000)(hfin:Xo (It a) a b f=some (v,0)):∀(j i q:Nat),i+j=a.length->j<q->Vs a b f q (i:Int) (It (a.take i)++List.replicate j 0)=some (v,0)
 |j,i,0,_,h=>absurd h (Awy _)
 |0,i,q+1,hi,_=>by
  rw[Vs,KW,Aan (by rw[Ae,Ac];simp;omega),Apg (by omega),List.replicate_zero,Als];exact hfin
 |j+1,i,q+1,hi,hq=>by
  have ih:=jo a b f v ha hfin j (i+1) q (by omega) (by omega);have hi1:Ad (i:Int) 1=((i+1:Nat):Int):=by rw[Aj];omega
  have hll:(It (a.take i)).length=i:=by rw[Wk,Ahn];omega
  have hset:(It (a.take i)++List.replicate (j+1) (0:Int)).set i (Ac a[i])=It (a.take (i+1))++List.replicate j 0:=by
   rw[Bcb,kD hll,Lb (by omega),It,It,Bfn,Ae8];rfl
  rw[Vs,KW,Acf (by rw[Ae,Ac];simp;omega),Br,Aa,Aa,fC,Aa,Br (by rw[Adl,hll,Au9];omega),Aa,Vr _ (by rw[Adl,hll,Au9];omega),Aa,hset,VF,nC,hi1];exact ih
theorem L7(hk:Ep (c:Int) (w:Int) (r:Int) x=some 0)(p:LB)(hp:p.length<=64):eD (c:Int) (w:Int) (r:Int) x p=some (NO c w r n x p,0):=by
 have hn:=Ak1 h p;have hfin:Xo (It (pC c w r n x p)) (pC c w r n x p) (LR (Tr p) c w r n) (cK p)=some (NO c w r n x p,0):=by
  have hl:=tY h p;rw[Xo,UU,Q1,Acf (Z6 h p),Aa];simp only;rw[VX,nF,Aan (by decide),Bg (by simp;omega),Aa,join_eq _ (by simp;omega) (by
   have:(([LR (Tr p) c w r n,cK p,rF (It (pC c w r n x p))]++pC c w r n x p).flatten)=NO c w r n x p:=by simp[NO]
   rw[this];omega),Aa]
  simp[NO]
 have hlp:=jo (pC c w r n x p) (LR (Tr p) c w r n) (cK p) _ (by omega) hfin (pC c w r n x p).length 0 Au (by omega) (by have:=Ar;omega);have h8:KH (pC c w r n x p) (LR (Tr p) c w r n) (cK p)=some (NO c w r n x p,0):=by
  rw[KH,YV,rZ (by unfold Ac;omega) (by unfold Ac;omega),Aa,Bj (by rw[As];simp),Aa];exact hlp
 rw[eD,ZH,Aqx h hk p hp,Aa];simp only;rw[Aan (by decide),Q5 h hk p hp,Aa];simp only;rw[Aan (by decide),C4 (h.shape _ (qw p)) h.fit,Aa];simp only;rw[Aan (by decide)];by_cases h0:p=[]
 ·have e1:Tr p=1:=by rw[Tr,Acf h0]
  have e2:cK p=[]:=by rw[cK,Acf h0]
  rw[e2]at h8;rw[Aan (by rw[e1];decide)];exact h8
 ·have e1:Tr p=2:=by rw[Tr,Aan h0]
  have e2:cK p=Sk (Uk p).toNat 8:=by rw[cK,Aan h0]
  rw[e2]at h8;rw[Acf (by rw[e1];decide),iC p hp,Aa];exact h8
end
theorem UK{a m z:LB}{i k:Nat}(hi:a.length=i)(hk:m.length=k):part (a++(m++z)) i k=m:=by
 subst hi hk;rw[part,List.take_append,Apg (by omega),List.drop_left',Bch,Bbx (Ao7 _),Azd];rfl
theorem PO(f c w r n:Nat)(z:LB):LR f c w r n++z=Pg++(Sk f 2++(Sk c 2++(Sk w 2++(Sk r 4++(Sk n 4++(Sk (Ez (K7 f c w r n)).toNat 4++z)))))):=by
 simp only[LR,K7,Ae8]
theorem Anw{f c w r n:Nat}(h1:Fu f c w r n=true)(h2:Yj c r n=true)(z:LB):Ek (LR f c w r n++z)=((f:Int),(c:Int),(w:Int),(r:Int),(n:Int),0):=by
 have hs:(f=1\/f=2)/\ (1<=c/\c<=6)/\ (w=8\/w=16\/w=24)/\ (1<=r/\r<=1048576)/\1<=n:=by simpa only[Fu,Adx]using h1
 have hn:n<=4000:=by
  simp only[Yj,Adx]at h2;have:=Aq1 4000 c;omega
 have hlen:22<= (LR f c w r n++z).length:=by rw[Adl,jW];omega
 have m4:min 4 (LR f c w r n++z).length=4:=by omega
 have e4:(LR f c w r n++z).take 4=Pg:=by rw[PO];rfl
 have e18:(LR f c w r n++z).take 18=K7 f c w r n:=by
  rw[LR,Ae8,Bbx (by rw[iP];omega),Apg (by rw[iP];omega)]
 have hlt:=(Ez (K7 f c w r n)).toNat_lt;have p18:part (LR f c w r n++z) 18 4=Sk (Ez (K7 f c w r n)).toNat 4:=by
  rw[LR,Ae8];exact UK (iP _ _ _ _ _) (Cg _ _)
 have q0:f0 (LR f c w r n++z)=f:=by
  rw[f0,PO,UK (a:=Pg) (i:=4) (k:=2) rfl (Cg _ _),MC];omega
 have q1:f1 (LR f c w r n++z)=c:=by
  rw[f1,PO,<-Ae8,UK (by simp[Pg,Cg]) (Cg _ _),MC];omega
 have q2:f2 (LR f c w r n++z)=w:=by
  rw[f2,PO,<-Ae8,<-Ae8,UK (by simp[Pg,Cg]) (Cg _ _),MC];omega
 have q3:f3 (LR f c w r n++z)=r:=by
  rw[f3,PO,<-Ae8,<-Ae8,<-Ae8,UK (by simp[Pg,Cg]) (Cg _ _),MC];omega
 have q4:f4 (LR f c w r n++z)=n:=by
  rw[f4,PO,<-Ae8,<-Ae8,<-Ae8,<-Ae8,UK (by simp[Pg,Cg]) (Cg _ _),MC];omega
 have h:=rs6 (b:=LR f c w r n++z) (by rw[m4,e4];rfl) (by omega) (by rw[e18,p18,MC];omega) (by rw[q0,q1,q2,q3,q4];exact h1) (by rw[q1,q3,q4];exact h2);rw[q0,q1,q2,q3,q4]at h;exact h
theorem Arf(l:List Int)(z:LB){i:Nat}(hi:i<l.length):part (cJ l++z) (4*i) 4=Sk (l[i]).toNat 4:=by
 have hs:cJ l=cJ (l.take i)++(Sk (l[i]).toNat 4++cJ (l.drop (i+1))):=by
  conv=>lhs;rw[<-Ba1 i l,drop_cons hi]
  rw[cJ,cJ,cJ,List.flatMap_append,Bha]
 rw[hs,Ae8,Ae8];exact UK (by rw[SD,Ahn];omega) (Cg _ _)
theorem Ant{l:List Int}(ht:Vt l=true)(z:LB):Ej (rF l++z) l.length=(l,0):=by
 have h:=ht;simp only[Vt,Ady,Adx]at h;obtain⟨hn,h3⟩:=h;have h4:=(EU l 100000 (by omega)).1 h3;have h6:=E4 h4.1;have hlt:=(Ez (cJ l)).toNat_lt;have e1:(rF l++z).take (4*l.length)=cJ l:=by
  rw[rF,Ae8,Bbx (by rw[SD];omega),Apg (by rw[SD];omega)]
 have e2:part (rF l++z) (4*l.length) 4=Sk (Ez (cJ l)).toNat 4:=by
  rw[rF,Ae8];exact UK (SD _) (Cg _ _)
 have e3:UO (rF l++z) l.length=l:=by
  apply Bb4
  ·rw[Vl]
  ·intro i h1 h2;have hx:=h4.1 l[i] (Aqp _);have hy:=h6 l[i] (Aqp _);simp only[UO,Be6,Bex];rw[rF,Ae8,Arf l _ h2,MC];omega
 rw[ss4 hn (by rw[Adl,B0];omega) (by rw[e1,e2,MC];omega),e3,Acf ht]
theorem Atm{b p:LB}{f c w r n T:Nat}{l:List Int}{z:LB}(hp:p.length<=64)(hf:f=Tr p)(h1:Fu f c w r n=true)(h2:Yj c r n=true)(hT:Bq b=((T:Int),0))(hb:b.length<=100000)(hd:b.drop T=LR f c w r n++(cK p++(rF l++z)))
  (hl:l.length=(Ak (Ag r) n).length) (ht:Vt l=true):Opn b p f c w r n (T+22+(if f=2 then 8 else 0)+4*l.length+4) l:=by
 have hlen:=congrArg List.length hd;rw[Ah5,Adl,Adl,Adl,jW,D6,B0,<-hf]at hlen;have Bf0:l.length<=1000/\1<=l.length:=by
  have h:=ht;simp only[Vt,Ady,Adx]at h;omega
 have hread:Ek (b.drop T)=((f:Int),(c:Int),(w:Int),(r:Int),(n:Int),0):=by rw[hd];exact Anw h1 h2 _
 have t22:Ad (T:Int) 22=((T+22:Nat):Int):=by rw[Aj];omega
 have t30:Ad ((T+22:Nat):Int) 8=((T+30:Nat):Int):=by rw[Aj];omega
 have d22:b.drop (T+22)=cK p++(rF l++z):=by
  rw[<-Bew,hd,<-jW f c w r n,List.drop_left]
 have dA:b.drop (T+22+(if f=2 then 8 else 0))=rF l++z:=by
  rw[<-Bew,d22,hf,<-D6 p,List.drop_left]
 have hend:∀A:Nat,A<=b.length->A=T+22+(if f=2 then 8 else 0)->Dh b p=Qg b (f:Int) (c:Int) (w:Int) (r:Int) (n:Int) (A:Int)->Dh b p=some ((f:Int),(c:Int),(w:Int),(r:Int),(n:Int),((A+4*l.length+4:Nat):Int),l,0):=by
  intro A hA hA2 e;rw[e,tM h1 h2 b (by omega) A hA,hA2,dA,<-hl,Ant ht,Aan (by simp)]
 have hprog:Dh b p=some ((f:Int),(c:Int),(w:Int),(r:Int),(n:Int),((T+22+(if f=2 then 8 else 0)+4*l.length+4:Nat):Int),l,0):=by
  refine hend (T+22+(if f=2 then 8 else 0)) (by omega) rfl ?_;rw[Dh,Uw,Aan (by rw[Aq,Ac];simp;omega),Aan (by rw[Aq,Ac];simp;omega),Px b (by omega),hT,Aa];simp only;rw[Aan (by decide),Bv,Aa,Ahe,QJ _ (by rw[Ah5];omega),Aa,hread];simp only;rw[Aan (by decide)];by_cases h0:p=[]
  ·have e1:f=1:=by rw[hf,Tr,Acf h0]
   rw[Aan (by rw[h0,e1];decide),Aan (by rw[h0];decide),t22,e1];rfl
  ·have e1:f=2:=by rw[hf,Tr,Aan h0]
   have hne:(p !=([]:LB))=true:=by simpa using h0
   have hne2:(p==([]:LB))=false:=by simpa using h0
   have hdg:cK p=Sk (Uk p).toNat 8:=by rw[cK,Aan h0]
   have hseg:(b.take (T+30)).drop (T+22)=Sk (Uk p).toNat 8:=by
    rw[List.drop_take,show T+30-(T+22)=8 by omega,d22,hdg,Bbx (by rw[Cg];omega),Apg (by rw[Cg];omega)]
   rw[e1,Acf rfl]at hlen;rw[Aan (by rw[hne2,e1];decide),Acf hne,t22,t30,Aan (by rw[Ae,Ac];simp;omega),Uy,Aa,Ahe,Ahe,hseg,yV (Cg _ _) hp,Aa];simp only;rw[Aan (by decide),Aan (by simp),e1];rfl
 rcases C9 b p (by omega) hp with⟨e,he,h,_⟩|⟨f',c',w',r',n',A',l',o⟩
 ·rw[hprog]at h;have:=congrArg (λo=>(o.getD (aR 0)).2.2.2.2.2.2.2) h;simp only[Option.getD_some,aR]at this;exact absurd this.symm he
 ·have h:=o.prog;rw[hprog]at h;simp only[Ad0,Ah7]at h;obtain⟨i1,i2,i3,i4,i5,i6,i7,_⟩:=h;have j1:f=f':=by omega
  have j2:c=c':=by omega
  have j3:w=w':=by omega
  have j4:r=r':=by omega
  have j5:n=n':=by omega
  have j6:=Int.ofNat.inj i6;subst j1 j2 j3 j4 j5 i7;rw[j6];exact o
theorem Ad3{b:LB}(h:b.take 4=Pg):Bq b=(0,0):=by
 have h4:4<=b.length:=by
  have:=congrArg List.length h;rw[Ahn]at this;simp only[Pg,Aqj,Bg8]at this;omega
 have h3:b.take 3≠ [73,68,51]:=by
  intro e;have:(b.take 4).take 3=[73,68,51]:=by rw[Bg3];exact e
  rw[h]at this;exact absurd this (by decide)
 have h8:b.take 8≠Q8:=by
  intro e;have:(b.take 8).take 4=Pg:=by rw[Bg3];exact h
  rw[e]at this;exact absurd this (by decide)
 have hs:Da b=(0,6):=by
  have h1:Zj b=(0,6):=by rw[Zj,Acf (by intro hh;exact h3 hh.2)]
  rw[Da,h1,Aan (by decide),fa1 (by intro hh;exact h8 hh.2)]
 rw[Bq,Z8,Cm,Bg4,hs];rfl
theorem N3:∀{l:List Int},(∀x∈l,0<=x)->∀k,0<= (l.take k).sum
 |[],_,k=>by simp
 |x::l,h,0=>by simp
 |x::l,h,k+1=>by
  have:=N3 (l:=l) (λy hy=>h y (Ama _ hy)) k;have:=h x Avi;rw[List.take_succ_cons,Azg];omega
theorem wV(c:Nat)(h1:1<=c):∀(l:List Int) (x:List Int32),(∀m∈l,1<=m)->x.length=l.sum.toNat*c->∀(k:Nat) (hk:k<l.length) (hk':k<(Hv c x l).length),(Hv c x l)[k].length=l[k].toNat*c
 |[],x,_,_=>λk hk=>absurd hk (Awy _)
 |m::l,x,hm,hx=>by
  have hm1:=hm m Avi;have hl:0<=l.sum:=by
   have:=N3 (l:=l) (λy hy=>by have:=hm y (Ama _ hy);omega) l.length;rw[Azd]at this;exact this
  rw[Azg,show(m+l.sum).toNat=m.toNat+l.sum.toNat by omega,Ajz]at hx;intro k hk hk';cases k with
  |zero=>simp only[Hv,List.getElem_cons_zero,Ahn];omega
  |succ k=>
   simp only[Hv,List.getElem_cons_succ];exact wV c h1 l (x.drop (m.toNat*c)) (λm hm'=>hm m (Ama _ hm')) (by rw[Ah5];omega) k (by simpa using hk) _
structure FileOf (c w r n:Nat) (x:List Int32) (p:LB) (T:Nat) (fs:List LB) (z b:LB):Prop where
 clip:ClipOk c w r n x
 pass:p.length<=64
 front:Bq b=((T:Int),0)
 le:b.length<=100000
 lens:It fs=It (pC c w r n x p)
 form:b.drop T=LR (Tr p) c w r n++(cK p++(rF (It (pC c w r n x p))++(fs.flatten++z)))
def Bfa(T:Nat)(p:LB)(K:Nat):Nat:=T+22+(if Tr p=2 then 8 else 0)+4*K+4
section
variable {c w r n:Nat} {x:List Int32} {p:LB} {T:Nat} {fs:List LB} {z b:LB} (h:FileOf c w r n x p T fs z b)
include h
theorem FileOf.cnt:fs.length=(pC c w r n x p).length:=by
 have:=congrArg List.length h.lens;rw[Wk,Wk]at this;exact this
theorem FileOf.Gu:Opn b p (Tr p) c w r n (Bfa T p fs.length) (It fs):=by
 have hc:=h.clip;have hl:(It fs).length=(Ak (Ag r) n).length:=by rw[Wk,h.cnt];exact Adk p
 have ht:Vt (It fs)=true:=by rw[h.lens];exact Z6 hc p
 have hd:=h.form;rw[<-h.lens]at hd;have:=Atm (z:=fs.flatten++z) h.pass rfl (hc.shape _ (qw p)) hc.fit h.front h.le hd hl ht;rw[Wk]at this;exact this
theorem FileOf.mom{k:Nat}(hk:k<fs.length):∃(m:Nat) (hk':k<(uX c r n x).length),Ap (Ak (Ag r) n) (k:Int)=some (m:Int)/\1<=m/\m<=4000/c/\ ((uX c r n x)[k]).length=m*c/\xq (w:Int) (uX c r n x)[k]/\ (pC c w r n x p)[k]'(by rw[<-h.cnt];exact hk)=FJ (w:Int) c (Na p) (uX c r n x)[k]:=by
 have hc:=h.clip;have hlen:fs.length=(Ak (Ag r) n).length:=by rw[h.cnt];exact Adk p
 have hkf:k<(Ak (Ag r) n).length:=by omega
 have hk':k<(uX c r n x).length:=by rw[Ahq];exact hkf
 have hm1:=HR (Em r) hc.cnt.1 _ (Aqp hkf);obtain⟨m,hm⟩:=Ah6 (show 0<= (Ak (Ag r) n)[k] by omega);have hg:=wV c hc.ch.1 _ x (HR (Em r) hc.cnt.1) (by rw[hc.sum,hc.len,Ahe]) k hkf hk';rw[hm,Ahe]at hg;have hmem:=jR hc _ (Aqp hk');have hx:=kG c hc.ch.1 _ x (HR (Em r) hc.cnt.1) (by rw[hc.sum,hc.len,Ahe]) _ (Aqp hk');have hg':((uX c r n x)[k]).length=m*c:=hg;refine⟨m,hk',by rw[Br hkf,hm],by omega,?_,hg',hmem.2.2.2,?_⟩
 ·have h1:=hx.2.1;have h2:m*c<=n*c:=by rw[<-hg',<-hc.len];exact h1
  have h3:m<=n:=Nat.le_of_mul_le_mul_right h2 hc.ch.1;exact Bgv h3 hc.cnt.2
 ·simp only[pC,Be6]
end
theorem Anr{c w r n:Nat}{x:List Int32}(h:ClipOk c w r n x){p:LB}(hp:p.length<=64):FileOf c w r n x p 0 (pC c w r n x p) [] (NO c w r n x p):=by
 refine⟨h,hp,Ad3 ?_,by have:=tY h p;omega,rfl,by rw[Als];rfl⟩;rw[NO,PO];rfl
theorem I7{t z:LB}{i:Nat}(h:i<t.length):Sm (t++z) i=Sm t i:=by
 rw[Sm,Sm,List.getD_eq_getElem?_getD,List.getD_eq_getElem?_getD,List.getElem?_append_left h]
theorem uH(t:LB)(a i:Nat):Sm (t.drop a) i=Sm t (a+i):=by
 rw[Sm,Sm,List.getD_eq_getElem?_getD,List.getD_eq_getElem?_getD,List.getElem?_drop]
theorem Az3{w:Nat}(hw:Bl (w:Int)){t z:LB}{a:Nat}(h:a+wB (w:Int)<=t.length):sx (wB (w:Int)) (t++z) a=sx (wB (w:Int)) t a:=by
 rcases hw with hw|hw|hw
 ·rw[hw]at h⊢;have e:wB 8=1:=rfl;rw[e]at h⊢;rw[sx,sx,Acf rfl,Acf rfl,I7 (by omega)]
 ·rw[hw]at h⊢;have e:wB 16=2:=rfl;rw[e]at h⊢;rw[sx2,sx2,I7 (by omega),I7 (by omega)]
 ·rw[hw]at h⊢;have e:wB 24=3:=rfl;rw[e]at h⊢;rw[sx3,sx3,I7 (by omega),I7 (by omega),I7 (by omega)]
theorem Ax4{w:Nat}(hw:Bl (w:Int))(t:LB)(a b:Nat):sx (wB (w:Int)) (t.drop a) b=sx (wB (w:Int)) t (a+b):=by
 rcases hw with hw|hw|hw
 ·rw[hw,show wB 8=1 from rfl,sx,sx,Acf rfl,Acf rfl,uH]
 ·rw[hw,show wB 16=2 from rfl,sx2,sx2,uH,uH];rfl
 ·rw[hw,show wB 24=3 from rfl,sx3,sx3,uH,uH,uH];rfl
theorem Alr{w:Nat}(hw:Bl (w:Int)){t z:LB}{m:Nat}(h:m*wB (w:Int)<=t.length):nM (wB (w:Int)) m (t++z)=nM (wB (w:Int)) m t:=by
 rw[nM,nM];apply Bfi;intro x hx;have hx:=List.mem_range.1 hx;have h2:(x+1)*wB (w:Int)<=m*wB (w:Int):=Aep _ hx;rw[Ajz,Azu]at h2;rw[Az3 hw (by omega)]
theorem Awv{w:Nat}(hw:Bl (w:Int))(t:LB)(m j:Nat):nM (wB (w:Int)) (m+j) t=nM (wB (w:Int)) m t++nM (wB (w:Int)) j (t.drop (m*wB (w:Int))):=by
 rw[nM,nM,nM,List.range_add,Bfn,List.map_map];congr 1;apply Bfi;intro x hx
 show Int32.ofInt (sx (wB (w:Int)) t ((m+x)*wB (w:Int)))=_;rw[Ax4 hw,Ajz]
theorem Aru{w:Nat}(hw:Bl (w:Int))(t:LB)(a:Nat): -(hB (w:Int))<=sx (wB (w:Int)) t a/\sx (wB (w:Int)) t a<hB (w:Int):=by
 have b0:=nZ t a;have b1:=nZ t (a+1);have b2:=nZ t (a+2);rcases hw with hw|hw|hw
 ·rw[hw,show wB 8=1 from rfl,show hB 8=128 from rfl,sx,Acf rfl];omega
 ·rw[hw,show wB 16=2 from rfl,show hB 16=32768 from rfl,sx2];split<;>omega
 ·rw[hw,show wB 24=3 from rfl,show hB 24=8388608 from rfl,sx3];split<;>omega
theorem Alj{w:Nat}(hw:Bl (w:Int))(m:Nat)(t:LB):xq (w:Int) (nM (wB (w:Int)) m t):=by
 intro x hx;rw[nM,List.mem_map]at hx;obtain⟨k,_,rfl⟩:=hx;have h:=Aru hw t (k*wB (w:Int));have hh:=FL (w:Int);rw[iW (by omega) (by omega)];exact h
theorem Aak(t:LB)(i:Nat)(z:Int)(h:z %256=(Sm t i:Int)):u8 z=t.getD i 0:=by
 apply UInt8.toNat_inj.1;rw[xA,h,Ahe];rfl
theorem iZ{t:LB}{i:Nat}(h:i<t.length):t.take (i+1)=t.take i++[t.getD i 0]:=by
 rw[Lb h,List.getD_eq_getElem?_getD,List.getElem?_eq_getElem h];rfl
theorem zt{w:Nat}(hw:Bl (w:Int))(t:LB):∀m:Nat,m*wB (w:Int)<=t.length->Dz (w:Int) (nM (wB (w:Int)) m t)=t.take (m*wB (w:Int))
 |0,_=>by simp[nM,Dz]
 |m+1,h=>by
  rw[Ajz,Azu]at h;have ih:=zt hw t m (by omega);have hr:=Aru hw t (m*wB (w:Int));have hh:=FL (w:Int);have hone:Dz (w:Int) [Int32.ofInt (sx (wB (w:Int)) t (m*wB (w:Int)))]=FR (w:Int) (sx (wB (w:Int)) t (m*wB (w:Int))):=by
   rw[Dz,Bha,List.flatMap_nil,Als,iW (by omega) (by omega)]
  rw[Af0,ig,ih,hone,Ajz,Azu];generalize m*wB (w:Int)=a at*
  have b0:=nZ t a;have b1:=nZ t (a+1);have b2:=nZ t (a+2);rcases hw with hw|hw|hw
  ·rw[hw]at h⊢;have e:wB 8=1:=rfl;rw[e]at h⊢;rw[iZ (by omega),FR,Acf rfl,Aak t a _ (by rw[sx,Acf rfl];omega)]
  ·rw[hw]at h⊢;have e:wB 16=2:=rfl;rw[e]at h⊢;rw[show a+2=a+1+1 from rfl,iZ (by omega),iZ (by omega),FR,Aan (by decide),Acf rfl,Aak t a _ (by rw[sx2];split<;>omega),Aak t (a+1) _ (by rw[sx2];split<;>omega)];simp
  ·rw[hw]at h⊢;have e:wB 24=3:=rfl;rw[e]at h⊢;rw[show a+3=a+1+1+1 from rfl,iZ (by omega),iZ (by omega),iZ (by omega),FR,Aan (by decide),Aan (by decide),Aak t a _ (by rw[sx3];split<;>omega),Aak t (a+1) _ (by rw[sx3];split<;>omega),Aak t (a+1+1) _ (by show _=(Sm t (a+2):Int);rw[sx3];split<;>omega)];simp
theorem tU(c L:Nat):∀(k:Nat) (x y:List Int32),k*(L*c)<=x.length->Hv c (x++y) (List.replicate k (L:Int))=Hv c x (List.replicate k (L:Int))
 |0,x,y,_=>rfl
 |k+1,x,y,h=>by
  rw[Ajz,Azu]at h;rw[Bcb,Hv,Hv,Ahe,Bbx (by omega),Ay3 (by omega),tU c L k _ y (by rw[Ah5];omega)]
theorem G2(c:Nat):∀(l m:List Int) (x:List Int32),(∀z∈l,0<=z)->Hv c x (l++m)=Hv c x l++Hv c (x.drop (l.sum.toNat*c)) m
 |[],m,x,_=>by simp[Hv]
 |z::l,m,x,h=>by
  have hz:=h z Avi;have hl:0<=l.sum:=Adf λy hy=>h y (Ama _ hy);rw[Bek,Hv,Hv,G2 c l m _ (λy hy=>h y (Ama _ hy)),Bek,Bew,Azg,show(z+l.sum).toNat=z.toNat+l.sum.toNat by omega,Ajz]
theorem Ard(k L:Nat):∀z∈List.replicate k (L:Int),0<=z:=λz hz=>by rw[(List.mem_replicate.1 hz).2];omega
theorem um(k L c:Nat):(List.replicate k (L:Int)).sum.toNat*c=k*(L*c):=by rw[Abv,Ahe,Azk]
theorem Aiz(c L k:Nat)(x:List Int32)(h:x.length=(k+1)*(L*c)):Hv c x (List.replicate (k+1) (L:Int))=Hv c x (List.replicate k (L:Int))++[x.drop (k*(L*c))]:=by
 rw[List.replicate_succ',G2 c _ _ _ (Ard k L),um,Hv,Hv,Ahe,Apg (by rw[Ah5,h,Ajz];omega)]
structure EncOk (c w r:Nat) (p:LB):Prop where
 ch:1<=c/\c<=6
 bits:Bl (w:Int)
 rate:1<=r/\r<=1048576
 pass:p.length<=64
def yC(c w:Nat):Nat:=c*wB (w:Int)
def nE(c w:Nat)(t:LB):Nat:=t.length/yC c w
def XE(c w:Nat)(t:LB):LX:=nM (wB (w:Int)) (nE c w t*c) t
def RE(c w:Nat)(t:LB):LB:=t.drop (nE c w t*yC c w)
def kE(c w r:Nat)(t:LB):Nat:=nE c w t/Ag r
def SE(c w r:Nat)(t:LB):LX:=(XE c w t).drop (kE c w r t*(Ag r*c))
def FE(c w r:Nat)(p t:LB):List LB:=(Hv c (XE c w t) (List.replicate (kE c w r t) (Ag r:Int))).map (FJ (w:Int) c (Na p))
def CH(c r n:Nat):Prop:=n*c<=4000/\ (n=0\/ (n-1)/Ag r+1<=1000)
instance(c r n:Nat):Decidable (CH c r n):=by unfold CH;exact inferInstance
theorem CH.mono{c r n m:Nat}(h:CH c r n)(hm:m<=n):CH c r m:=by
 obtain⟨h1,h2⟩:=h;have h3:=Aep c hm;have h4:(m-1)/Ag r<= (n-1)/Ag r:=Bgq (by omega);refine⟨by omega,?_⟩;omega
section
variable {c w r:Nat} {p:LB} (h:EncOk c w r p) (t:LB)
include h
theorem rf:1<=yC c w/\yC c w<=18:=by
 have h1:=M4 (w:Int);have h2:=h.ch;have h3:=Bg7 (show 0<c by omega) (show 0<wB (w:Int) by omega);have h4:c*wB (w:Int)<=6*3:=Ba9 h2.2 h1.2;unfold yC;omega
theorem Alw:JG (c:Int) (w:Int)=some (yC c w:Int):=by
 have h2:=h.ch;have hw3:w=8\/w=16\/w=24:=by have:=h.bits;unfold Bl at this;omega
 rcases hw3 with rfl|rfl|rfl
 ·show some (Bt (Bf (c:Int) (8:Int)) 8)=_;rw[Fa,show(c:Int)*8=((c*8:Nat):Int) by omega,show(8:Int)=((8:Nat):Int)from rfl,GG,yC,show wB ((8:Nat):Int)=1 from rfl];congr 2;omega
 ·show some (Bt (Bf (c:Int) (16:Int)) 8)=_;rw[Fa,show(c:Int)*16=((c*16:Nat):Int) by omega,show(8:Int)=((8:Nat):Int)from rfl,GG,yC,show wB ((16:Nat):Int)=2 from rfl];congr 2;omega
 ·show some (Bt (Bf (c:Int) (24:Int)) 8)=_;rw[Fa,show(c:Int)*24=((c*24:Nat):Int) by omega,show(8:Int)=((8:Nat):Int)from rfl,GG,yC,show wB ((24:Nat):Int)=3 from rfl];congr 2;omega
theorem zo:t.length=nE c w t*yC c w+(RE c w t).length/\ (RE c w t).length<yC c w:=by
 have hs:=rf h;have h1:=Bfw t.length (yC c w);have h2:=Bdl t.length (show 0<yC c w by omega);rw[Aqr]at h1;have e:(RE c w t).length=t.length-nE c w t*yC c w:=by rw[RE,Ah5]
 have e2:nE c w t*yC c w=t.length/yC c w*yC c w:=rfl;omega
omit h in
theorem xH:(XE c w t).length=nE c w t*c:=zQ _ _ _
theorem Aq2:Dz (w:Int) (XE c w t)++RE c w t=t:=by
 have h1:=zo h t;have e:nE c w t*c*wB (w:Int)=nE c w t*yC c w:=by rw[yC,Azk]
 rw[XE,zt h.bits t _ (by rw[e];omega),e,RE,Ba1]
theorem Ac6:xq (w:Int) (XE c w t):=Alj h.bits _ _
theorem zl:nE c w t=kE c w r t*Ag r+nE c w t %Ag r/\nE c w t %Ag r<Ag r:=by
 have _:=h;have hp:=Em r;have h1:=Bfw (nE c w t) (Ag r);rw[Aqr]at h1;exact⟨h1.symm,Bdl _ (by omega)⟩
theorem wR:(SE c w r t).length=nE c w t %Ag r*c:=by
 have h1:=(zl h t).1;rw[SE,Ah5,xH]
 conv=>lhs;rw[h1]
 rw[Ajz,<-Azk,Bch]
omit h in
theorem jf:(FE c w r p t).length=kE c w r t:=by rw[FE,List.length_map,cE,Au9]
theorem Azl(b:UInt8)(hl:(RE c w t).length+1<yC c w):nE c w (t++[b])=nE c w t/\XE c w (t++[b])=XE c w t/\RE c w (t++[b])=RE c w t++[b]:=by
 have h1:=zo h t;have hs:=rf h;have hn:nE c w (t++[b])=nE c w t:=by
  rw[nE,Adl,Bcv];exact Bet (by omega) (by rw[Ajz,Azu];omega)
 refine⟨hn,?_,?_⟩
 ·rw[XE,hn,XE];exact Alr h.bits (by
   have e:nE c w t*c*wB (w:Int)=nE c w t*yC c w:=by rw[yC,Azk]
   rw[e];omega)
 ·rw[RE,hn,RE,Ay3 (by omega)]
theorem Azj(b:UInt8)(hl:¬(RE c w t).length+1<yC c w):(RE c w t).length+1=yC c w/\nE c w (t++[b])=nE c w t+1/\XE c w (t++[b])=XE c w t++nM (wB (w:Int)) c (RE c w t++[b])/\RE c w (t++[b])=[]:=by
 have h1:=zo h t;have hs:=rf h;have hn:nE c w (t++[b])=nE c w t+1:=by
  rw[nE,Adl,Bcv];exact Bet (by rw[Ajz,Azu];omega) (by rw[Ajz,Ajz,Azu];omega)
 have e:nE c w t*c*wB (w:Int)=nE c w t*yC c w:=by rw[yC,Azk]
 refine⟨by omega,hn,?_,?_⟩
 ·rw[XE,hn,Ajz,Azu,Awv h.bits,Alr h.bits (by rw[e];omega),e,Ay3 (by omega)];rfl
 ·rw[RE,hn,Bc1];rw[Adl,Bcv,Ajz,Azu];omega
theorem Aby:kE c w r t*(Ag r*c)<= (XE c w t).length:=by
 have h1:=(zl h t).1;rw[xH]
 conv=>rhs;rw[h1]
 rw[Ajz,<-Azk];omega
theorem Bck{b:UInt8}(hl:(RE c w t).length+1<yC c w):kE c w r (t++[b])=kE c w r t/\SE c w r (t++[b])=SE c w r t/\FE c w r p (t++[b])=FE c w r p t:=by
 obtain⟨h1,h2,h3⟩:=Azl h t b hl;have hk:kE c w r (t++[b])=kE c w r t:=by rw[kE,h1,kE]
 exact⟨hk,by rw[SE,hk,h2,SE],by rw[FE,hk,h2,FE]⟩
theorem Bdi{b:UInt8}(hl:¬(RE c w t).length+1<yC c w):
  ((SE c w r t++nM (wB (w:Int)) c (RE c w t++[b])).length<Ag r*c->kE c w r (t++[b])=kE c w r t/\SE c w r (t++[b])=SE c w r t++nM (wB (w:Int)) c (RE c w t++[b])/\FE c w r p (t++[b])=FE c w r p t)/\
  (¬(SE c w r t++nM (wB (w:Int)) c (RE c w t++[b])).length<Ag r*c-> (SE c w r t++nM (wB (w:Int)) c (RE c w t++[b])).length=Ag r*c/\kE c w r (t++[b])=kE c w r t+1/\SE c w r (t++[b])=[]/\FE c w r p (t++[b])=FE c w r p t++[FJ (w:Int) c (Na p) (SE c w r t++nM (wB (w:Int)) c (RE c w t++[b]))]):=by
 obtain⟨_,h1,h2,h3⟩:=Azj h t b hl;obtain⟨d1,d2⟩:=zl h t;have hsl:=wR h t;have hc:=h.ch;have hp:=Em r;have hdk:=Aby h t;have hlen:(SE c w r t++nM (wB (w:Int)) c (RE c w t++[b])).length=(nE c w t %Ag r+1)*c:=by rw[Adl,hsl,zQ,Ajz,Azu]
 rw[hlen];constructor
 ·intro hlt;have hlt2:nE c w t %Ag r+1<Ag r:=Nat.lt_of_mul_lt_mul_right hlt;have hk:kE c w r (t++[b])=kE c w r t:=by
   rw[kE,h1];exact Bet (by omega) (by rw[Ajz,Azu];omega)
  refine⟨hk,?_,?_⟩
  ·rw[SE,hk,h2,Ay3 hdk,SE]
  ·rw[FE,hk,h2,tU c (Ag r) _ _ _ hdk,FE]
 ·intro hge;have Bir:Ag r<=nE c w t %Ag r+1:=by
   refine Nat.le_of_not_lt λhh=>hge ?_;exact Nat.mul_lt_mul_of_pos_right hh hc.1
  have heq:nE c w t %Ag r+1=Ag r:=by omega
  have hk:kE c w r (t++[b])=kE c w r t+1:=by
   rw[kE,h1];exact Bet (by rw[Ajz,Azu];omega) (by rw[Ajz,Ajz,Azu];omega)
  have hXl:(XE c w (t++[b])).length=(kE c w r t+1)*(Ag r*c):=by
   rw[xH,h1,<-Azk];congr 1;rw[Ajz,Azu];omega
  refine⟨by rw[heq],hk,?_,?_⟩
  ·rw[SE,hk,<-hXl,Beb]
  ·rw[FE,hk,Aiz c (Ag r) _ _ hXl,Bfn,h2,tU c (Ag r) _ _ _ hdk,Ay3 hdk,FE];rfl
theorem Atv(hR:CH c r (nE c w t)):∀f∈FE c w r p t,5<=f.length/\f.length<= (81*(Ag r*c)+7)/8+4:=by
 intro f hf;obtain⟨y,hy,rfl⟩:=List.mem_map.1 hf;have hx:(XE c w t).take (kE c w r t*(Ag r*c))++(XE c w t).drop (kE c w r t*(Ag r*c))=XE c w t:=Ba1 _ _;have hdk:=Aby h t;have hpr:=tU c (Ag r) (kE c w r t) ((XE c w t).take (kE c w r t*(Ag r*c))) ((XE c w t).drop (kE c w r t*(Ag r*c))) (by rw[Ahn];omega);rw[hx]at hpr;rw[hpr]at hy;have hp:=Em r;obtain⟨k,hk,hk2⟩:=List.getElem_of_mem hy;have hl1:∀z∈List.replicate (kE c w r t) (Ag r:Int),1<=z:=λz hz=>by rw[(List.mem_replicate.1 hz).2];omega
 have hlx:((XE c w t).take (kE c w r t*(Ag r*c))).length=(List.replicate (kE c w r t) (Ag r:Int)).sum.toNat*c:=by rw[um,Ahn];omega
 have hg:=wV c h.ch.1 _ _ hl1 hlx k (by rw[cE]at hk;exact hk) hk;rw[hk2,List.getElem_replicate,Ahe]at hg;obtain⟨a1,a2,_,_⟩:=kG c h.ch.1 _ _ hl1 hlx y hy;have hle:y.length<=4000:=by
  have:=hR.1;have h2:((XE c w t).take (kE c w r t*(Ag r*c))).length<= (XE c w t).length:=by rw[Ahn];omega
  rw[xH]at h2;omega
 have h5:=Afl (w:Int) c (Na p) y a1 hle;have he:=gU c (Ts (w:Int) c (Na p) y) y.length;refine⟨h5.1,?_⟩;rw[FJ,Adl,Cg,Afr,BK,<-hg];omega
omit h in
theorem Aa8(b:List LB)(f a M:Int)(hM:Ad (Bt (Ad (Bf (Bf 81 f) a) 7) 8) 4=M)(hb:b.length<=100000)(hm:∀y∈b,5<=y.length/\ (y.length:Int)<=M):∀(j i q:Nat),i+j=b.length->j<q->Le b f a q (i:Int)=some true
 |j,i,0,_,h=>absurd h (Awy _)
 |0,i,q+1,hi,_=>by
  rw[Le,Ua,Aan (by rw[Ae,Ac];simp;omega)];rfl
 |j+1,i,q+1,hi,hq=>by
  have ih:=Aa8 b f a M hM hb hm j (i+1) q (by omega) (by omega);have hy:=hm b[i] (Aqp _);have hi1:Ad (i:Int) 1=((i+1:Nat):Int):=by rw[Aj];omega
  rw[Le,Ua,Acf (by rw[Ae,Ac];simp;omega),Br,Aa,CN,DJ,hM,Aan (by simp[Ae,Aq,Ac];omega),CX,WX,hi1];exact ih
theorem H8:EC (c:Int) (w:Int) (r:Int) p=some ((Ag r:Int),true):=by
 have hp:=h.pass;rw[EC,sZ h.rate.1 h.rate.2,Aa];simp only;rw[Aji h.bits h.ch.1 h.ch.2,Aa];simp[As,TV,Ac];omega
theorem J7(hR:CH c r (nE c w t))(p' m' n':LB)(u:Bool)(v k o:Int):Xs (c:Int) k o p' m' (SE c w r t) (FE c w r p t) n' u v (Ag r:Int)=some (nE c w t:Int):=by
 have hc:=h.ch;obtain⟨d1,d2⟩:=zl h t;have hsl:=wR h t;have hlt:=TI h.rate.2;have hn:nE c w t<=4000:=by
  have:=hR.1;have:nE c w t*1<=nE c w t*c:=Bes _ hc.1;omega
 have e1:Bf (Ac (FE c w r p t)) (Ag r:Int)=((kE c w r t*Ag r:Nat):Int):=by
  rw[Ac,jf,Fa (by rw[<-Aqn];omega) (by rw[<-Aqn];omega),<-Aqn]
 have e2:Bt (Ac (SE c w r t)) (c:Int)=((nE c w t %Ag r:Nat):Int):=by
  rw[Ac,hsl,GG (by
   have:nE c w t %Ag r*c<=nE c w t*c:=Aep _ (Bg2 _ _);have:=hR.1;omega),Bgd _ (by omega)]
 rw[Xs,Bj (by rw[Ah];simp;omega),Aa,e1,e2,Aj];congr 1;omega
theorem Aoh(hR:CH c r (nE c w t)):Sr (c:Int) (w:Int) (r:Int) p (RE c w t) (SE c w r t) (FE c w r p t) [] false 0=some 0:=by
 have hc:=h.ch;have hw:=h.bits;obtain⟨d1,d2⟩:=zl h t;have hsl:=wR h t;have htl:=zo h t;have hlt:=TI h.rate.2;have hp:=Em r;have hfl:=jf (c:=c) (w:=w) (r:=r) (p:=p) t;have hn4:=hR.1;have hmod:nE c w t %Ag r*c<=nE c w t*c:=Aep _ (Bg2 _ _);have hn:nE c w t<=4000:=by
  have:nE c w t*1<=nE c w t*c:=Bes _ hc.1;omega
 have hfr:kE c w r t+(if 0<nE c w t %Ag r then 1 else 0)<=1000:=by
  rcases hR.2 with h0|h0
  ·have:kE c w r t=0:=by rw[kE,h0];exact Nat.zero_div _
   rw[h0,Nat.zero_mod,this];decide
  ·generalize hq:Ag r=L at*
   have hk:kE c w r t=nE c w t/L:=by rw[kE,hq]
   by_cases hz:0<nE c w t %L
   ·rw[Acf hz];have:(nE c w t-1)/L=kE c w r t:=Bet (by omega) (by rw[Ajz,Azu];omega);omega
   ·rw[Aan hz];by_cases hk0:kE c w r t=0
    ·omega
    ·obtain⟨k',hk'⟩:∃k',kE c w r t=k'+1:=⟨kE c w r t-1,by omega⟩;rw[hk',Ajz,Azu]at d1;have:(nE c w t-1)/L=k':=Bet (by omega) (by rw[Ajz,Azu];omega);omega
 have hcnt:=J7 h t hR p (RE c w t) [] false 0 (w:Int) (r:Int);have hin:xq (w:Int) (SE c w r t):=λv hv=>Ac6 h t v (Be1 hv);have hwc:Rv (w:Int) (SE c w r t)=some 0:=by rw[bA hw _ (by omega),uB hw (by omega) hin]
 have hroom:∀k:Int,k<=1000->Xc (c:Int) (w:Int) (r:Int) p (RE c w t) (SE c w r t) (FE c w r p t) [] false 0 k (nE c w t:Int)=some true:=by
  intro k hk;rw[Xc,Fa (by rw[<-Aqn];omega) (by rw[<-Aqn];omega),<-Aqn];simp[TV];omega
 have hLc:Ag r*c<=1100000*6:=Ba9 (by omega) hc.2;have hM:Ad (Bt (Ad (Bf (Bf 81 (Ag r:Int)) (c:Int)) 7) 8) 4=(((81*(Ag r*c)+7)/8+4:Nat):Int):=by
  have e1:Bf 81 (Ag r:Int)=((81*Ag r:Nat):Int):=by rw[Fa];omega
  have e2:Bf ((81*Ag r:Nat):Int) (c:Int)=((81*(Ag r*c):Nat):Int):=by
   rw[Fa (by rw[<-Aqn,Azk];omega) (by rw[<-Aqn,Azk];omega),<-Aqn,Azk]
  rw[e1,e2,Aj (a:=((81*(Ag r*c):Nat):Int)) (b:=7) (by omega) (by omega),show((81*(Ag r*c):Nat):Int)+7=((81*(Ag r*c)+7:Nat):Int) by omega,show(8:Int)=((8:Nat):Int)from rfl,GG,Aj];omega
 have hloop:=Aa8 (FE c w r p t) (Ag r:Int) (c:Int) _ hM (by omega) (λy hy=>by
  have:=Atv h t hR y hy;omega) (FE c w r p t).length 0 Au (by omega) (by have:=Ar;omega)
 have Bei:ES (c:Int) (w:Int) (r:Int) p (RE c w t) (SE c w r t) (FE c w r p t) [] false 0 (Ag r:Int)=some true:=by
  have Bf2:Bt (Ac (SE c w r t)) (c:Int)=((nE c w t %Ag r:Nat):Int):=by
   rw[Ac,hsl,GG,Bgd _ (by omega)]
  have Bf3:Fo (Ac (SE c w r t)) (c:Int)=0:=by rw[Ac,hsl,IZ,Bcf];rfl
  have hkk:kE c w r t<=1000:=by split at hfr<;>omega
  rw[ES,FO,Aan (by decide),Alw h,Aa,Aan (by rw[Ea,Ac];simp;omega),Bj (by rw[Ah];simp;omega),Aa,Bf3,Aan (by decide),Aa,Bf2,Aan (by simp[Ea,Aq,Ac,hfl];omega),CR,CZ,hwc,Aa,Aan (by decide)];by_cases hz:0<nE c w t %Ag r
  ·rw[Acf hz]at hfr;have hpos:=Bg7 hz (show 0<c by omega);rw[Acf (by rw[Aq,Ac];simp;omega),Tw,Tv,hcnt,Aa,Ac,hfl,Aj,hroom _ (by omega),Aa,Aan (by decide),Ui,Tt,Tu];exact hloop
  ·have h0:nE c w t %Ag r=0:=by omega
   rw[h0,Bhd]at hsl;rw[Aan (by rw[Aq,Ac];simp only[Adx];omega),Tw,Tv,hcnt,Aa,Ac,hfl,hroom _ (by omega),Aa,Aan (by decide),Ui,Tt,Tu];exact hloop
 rw[Sr,H8 h,Aa];simp only;rw[Aan (by decide),Aan (by decide),Aan (by decide),Bei,Aa,Aan (by decide)]
end
theorem vM(a:List LB)(ha:∀y∈a,y.length<=17179869184)(w:List LB)(hw:w.length=a.length)(ha2:a.length<=100000)(b f g:Int)(h:LB)(k:Bool)(m:Int)(n:LB)(o:LX)(p:LB):∀(j i q:Nat),i+j=a.length->j<q->Rs w a b f g h k m n o p q (i:Int) a=some (b,f,g,h,n,o,a,p,k,m)
 |j,i,0,_,h=>absurd h (Awy _)
 |0,i,q+1,hi,_=>by
  have hc:XG w a=a:=by rw[XG,hw,Azd,Bc1 (by omega),Als]
  rw[Rs,FC,hc,Aan (by rw[Ae,Ac];simp;omega)];rfl
 |j+1,i,q+1,hi,hq=>by
  have ih:=vM a ha w hw ha2 b f g h k m n o p j (i+1) q (by omega) (by omega);have hc:XG w a=a:=by rw[XG,hw,Azd,Bc1 (by omega),Als]
  have hi1:Ad (i:Int) 1=((i+1:Nat):Int):=by rw[Aj];omega
  have hy:=ha a[i] (Aqp _);rw[Rs,FC,hc,Acf (by rw[Ae,Ac];simp;omega),Br,Aa,Aa,Bo,Bg (by simpa using hy),Aa,Aa,Aa,Auy,Vr _ (by omega),Aa,List.set_getElem_self,hi1];exact ih
theorem Agg{a:List LB}(ha:∀y∈a,y.length<=17179869184)(ha2:a.length<=100000)(b f g:Int)(h:LB){x:LB}{s:LX}{z:LB}(hx:x.length<=17179869184)(hs:s.length<=17179869184)(hz:z.length<=17179869184)(k:Bool)(m:Int):LH b f g h x s a z k m=some (b,f,g,h,x,s,a,z,k,m):=by
 have hl:=vM a ha (List.replicate a.length []) (by rw[Au9]) ha2 b f g h k m x s z a.length 0 Au (by omega) (by have:=Ar;omega);have hc:XG (List.replicate a.length []) a=a:=by rw[XG,Au9,Azd,Bc1 (by rw[Au9];omega),Als]
 rw[LH,UY,Bo,Bg (by simpa using hx),Aa,Aa,Di,Bg (by simpa using hs),Aa,Aa,Bo,Bg (by simpa using hz),Aa,Aa,VH,VM,rZ (by unfold Ac;omega) (by unfold Ac;omega),Aa,Bj (by rw[As];simp),Aa];simp only[Auy,Ac,Ahe,hc];exact hl
section
variable {c w r:Nat} {p:LB} (h:EncOk c w r p)
include h
theorem yw(t:LB)(hR:CH c r (nE c w t)):EH (c:Int) (w:Int) (r:Int) p (RE c w t) (SE c w r t) (FE c w r p t) [] false 0=some ((c:Int),(w:Int),(r:Int),p,RE c w t,SE c w r t,FE c w r p t,[],false,0,(Ag r:Int),0):=by
 have h1:=zo h t;have hs:=rf h;have hsl:=wR h t;have hfl:=jf (c:=c) (w:=w) (r:=r) (p:=p) t;have hn4:=hR.1;have hmod:nE c w t %Ag r*c<=nE c w t*c:=Aep _ (Bg2 _ _);have hn:nE c w t<=4000:=by
  have:nE c w t*1<=nE c w t*c:=Bes _ h.ch.1;omega
 have hk:kE c w r t<=nE c w t:=Aq1 _ _;have hlt:=TI h.rate.2;have hLc:Ag r*c<=1100000*6:=Ba9 (by omega) h.ch.2;have htw:=Agg (a:=FE c w r p t) (λy hy=>by have:=Atv h t hR y hy;omega) (by omega) (c:Int) (w:Int) (r:Int) p (x:=RE c w t) (s:=SE c w r t) (z:=[]) (by omega) (by omega) (by simp) false 0;rw[EH,OX,Aoh h t hR,Aa,Aan (by decide),sZ h.rate.1 h.rate.2,Aa];simp only;rw[Aan (by decide),Aan (by decide),RD,gV,htw,Aa]
abbrev Beu:=Int×Int×Int×LB×LB×LX×(List LB)×LB×Bool×Int×Int
def Ass(c w r:Nat)(p t:LB):Beu:=if CH c r (nE c w t)then((c:Int),(w:Int),(r:Int),p,RE c w t,SE c w r t,FE c w r p t,[],false,0,0)else((c:Int),(w:Int),(r:Int),p,[],[],[],[],false,18,18)
theorem wA(t b:LB)(hb:b.length<=1000000):∀(j u q:Nat) (T:LB),u+j=b.length->j<q->T=t++b.take u->CH c r (nE c w T)->Jm (yC c w:Int) b (c:Int) (w:Int) (r:Int) p false 0 (Ag r:Int) [] q (u:Int) (RE c w T) (SE c w r T) (FE c w r p T)=some (Ass c w r p (t++b))
 |j,u,0,T,_,h,_,_=>absurd h (Awy _)
 |0,u,q+1,T,hu,_,hT,hR=>by
  rw[Apg (by omega)]at hT;rw[Jm,CB,Aan (by rw[Ae,Ac];simp;omega),QZ,gX,Ass,<-hT,Acf hR]
 |j+1,u,q+1,T,hu,hq,hT,hR=>by
  have hc:=h.ch;have hs:=rf h;have hu1:Ad (u:Int) 1=((u+1:Nat):Int):=by rw[Aj];omega
  have hT':T++[b[u]'(by omega)]=t++b.take (u+1):=by rw[hT,Lb (by omega),Ae8]
  have hpre:(T++[b[u]'(by omega)]).length<= (t++b).length:=by rw[hT',Adl,Adl,Ahn];omega
  have hmono:nE c w (T++[b[u]'(by omega)])<=nE c w (t++b):=Bgq hpre;have hgd:Ap b (u:Int)=some (b[u]'(by omega)):=Br;generalize b[u]'(by omega)=d at hT' hpre hmono hgd⊢;have ih:=wA t b hb j (u+1) q (T++[d]) (by omega) (by omega) hT';have htl:=zo h T;have hsl:=wR h T;have hfl:=jf (c:=c) (w:=w) (r:=r) (p:=p) T;have hn4:=hR.1;have hmod:nE c w T %Ag r*c<=nE c w T*c:=Aep _ (Bg2 _ _);have hn:nE c w T<=4000:=by
   have:nE c w T*1<=nE c w T*c:=Bes _ hc.1;omega
  have hk:kE c w r T<=nE c w T:=Aq1 _ _;have hlt:=TI h.rate.2;rw[Jm,CB,Acf (by rw[Ae,Ac];simp;omega),hgd,Aa,Bg (by simp;omega),Aa];by_cases hlt1:(RE c w T).length+1<yC c w
  ·obtain⟨m1,m2,m3⟩:=Azl h T d hlt1;obtain⟨g1,g2,g3⟩:=Bck h T (b:=d) hlt1;rw[m1,m3,g2,g3]at ih;rw[Acf (by rw[Ae,Ac,Adl,Bcv];simp;omega),Pj,BO,hu1];exact ih hR
  ·obtain⟨m0,m1,m2,m3⟩:=Azj h T d hlt1;obtain⟨g1,g2⟩:=Bdi h T (b:=d) hlt1;have hcnt:=J7 h T hR p (RE c w T++[d]) [] false 0 (w:Int) (r:Int);have hroom:Xc (c:Int) (w:Int) (r:Int) p (RE c w T++[d]) (SE c w r T) (FE c w r p T) [] false 0 (Ad (Ac (FE c w r p T)) 1) (Ad (nE c w T:Int) 1)=some (decide ((kE c w r T:Int)+1<=1000)&&decide ((((nE c w T+1)*c:Nat):Int)<=4000)):=by
    have hle:(nE c w T+1)*c<=4001*6:=Ba9 (by omega) hc.2;rw[Xc,Ac,hfl,Aj,Aj,show(nE c w T:Int)+1=((nE c w T+1:Nat):Int) by omega,Fa (by rw[<-Aqn];omega) (by rw[<-Aqn];omega),<-Aqn,TV,TV]
   rw[Aan (by rw[Ae,Ac,Adl,Bcv];simp;omega),hcnt,Aa,hroom,Aa];by_cases hok:kE c w r T+1<=1000/\ (nE c w T+1)*c<=4000
   ·have hR':CH c r (nE c w (T++[d])):=by rw[m1];exact⟨hok.2, .inr (by rw[Nat.add_sub_cancel];exact hok.1)⟩
    have ih:=ih hR';have Bf4:=yD (RE c w T++[d]) h.bits (m:=c) (by rw[Adl,Bcv,m0];rfl) (by omega);have hLc:Ag r*c<=1100000*6:=Ba9 (by omega) hc.2;have hmul:Bf (Ag r:Int) (c:Int)=((Ag r*c:Nat):Int):=by rw[Fa (by rw[<-Aqn];omega) (by rw[<-Aqn];omega),<-Aqn]
    rw[Aan (by rw[Bcx (show(kE c w r T:Int)+1<=1000 by omega),Bcx (show(((nE c w T+1)*c:Nat):Int)<=4000 by omega)];decide),PK,PJ,Bf4,Aa];simp only;rw[Aan (by decide),Bg (by rw[zQ];omega),Aa,hmul];by_cases hfull:(SE c w r T++nM (wB (w:Int)) c (RE c w T++[d])).length<Ag r*c
    ·obtain⟨k1,k2,k3⟩:=g1 hfull;rw[m3,k2,k3]at ih;rw[Acf (by rw[Ae,Ac];simp only[Adx];omega),Jt,Vf,Aan (by decide),Pj,BO,hu1];exact ih
    ·obtain⟨k0,k1,k2,k3⟩:=g2 hfull;rw[m3,k2,k3]at ih;have hXl:Ag r*c<=4000:=by
      have e:=hR'.1;have hlen:(XE c w (T++[d])).length=nE c w (T++[d])*c:=xH (T++[d]);have hdk:=Aby (r:=r) h (T++[d]);rw[k1,Ajz,Azu]at hdk;omega
     have hin:xq (w:Int) (SE c w r T++nM (wB (w:Int)) c (RE c w T++[d])):=by
      intro v hv;rw[List.mem_append]at hv;rcases hv with hv|hv
      ·exact Ac6 h T v (Be1 hv)
      ·exact Alj h.bits _ _ v hv
     have hLp:=Bg7 (Em r) hc.1;have henc:=mD (t:=Na p) (x:=SE c w r T++nM (wB (w:Int)) c (RE c w T++[d])) h.bits (Nv p) hc.1 hc.2 (by omega) (by omega) (by rw[k0];exact Bcf _ _) hin;rw[Aan (by rw[Ae,Ac];simp only[Adx];omega),YL p h.pass,Aa];simp only;rw[Aan (by decide),henc,Aa];simp only;rw[Aan (by decide),Bg (by simp;omega),Aa,PR,QS,Jt,Vf,Aan (by decide),Pj,BO,hu1];exact ih
   ·have hno:¬CH c r (nE c w (t++b)):=by
     intro hh;have:=hh.mono hmono;rw[m1]at this;obtain⟨z1,z2⟩:=this;apply hok;rw[Nat.add_sub_cancel]at z2;have hkE:kE c w r T=nE c w T/Ag r:=rfl;omega
    rw[Acf (by
     rw[Awi,Bool.and_eq_false_iff,Azw,Azw];omega),Jt,Vf,Acf (by decide),Wx,Aa,Ass,Aan hno]
theorem Aut(t b:LB)(hb:b.length<=1000000)(hR:CH c r (nE c w t)):XM (c:Int) (w:Int) (r:Int) p (RE c w t) (SE c w r t) (FE c w r p t) [] false 0 b=some (Ass c w r p (t++b)):=by
 have hl:=wA h t b hb b.length 0 Au t (by omega) (by have:=Ar;omega) (by simp) hR;rw[XM,WA,yw h t hR,Aa];simp only;rw[Aan (by decide),Alw h,Aa,QM];exact hl
theorem Ayj:dQ (c:Int) (w:Int) (r:Int) p=some ((c:Int),(w:Int),(r:Int),p,RE c w [],SE c w r [],FE c w r p [],[],false,0,0):=by
 have h0:nE c w []=0:=Nat.zero_div _;have hk:kE c w r []=0:=by rw[kE,h0];exact Nat.zero_div _
 rw[dQ,H8 h,Aa];simp only;rw[Aan (by decide),RE,SE,FE,XE,hk,h0];simp[nM,Hv]
omit h in
theorem Apt(c r:Nat):CH c r 0:=⟨by omega, .inl rfl⟩
end
theorem qy(l:List LB)(hf:l.flatten.length<=1000000)(hl:l.length<=1000000)(v:LB)(hfin:Ex l (l.flatten.length:Int)=some v):∀(j i q:Nat),i+j=l.length->j<q->Cw l q (((l.take i).flatten.length:Nat):Int) (i:Int)=some v
 |j,i,0,_,h=>absurd h (Awy _)
 |0,i,q+1,hi,_=>by
  rw[Cw,Eb,Aan (by rw[Ae,Ac];simp;omega),Apg (by omega)];exact hfin
 |j+1,i,q+1,hi,hq=>by
  have ih:=qy l hf hl v hfin j (i+1) q (by omega) (by omega);have hi1:Ad (i:Int) 1=((i+1:Nat):Int):=by rw[Aj];omega
  have hsn:(l.take (i+1)).flatten=(l.take i).flatten++l[i]:=by rw[Lb (by omega),Bgj];simp
  have hsp:l.flatten=(l.take (i+1)).flatten++(l.drop (i+1)).flatten:=by rw[<-Bgj,Ba1]
  have hle:((l.take i).flatten).length+(l[i]).length<=1000000:=by
   rw[hsp,Adl,hsn,Adl]at hf;omega
  have hadd:Ad (((l.take i).flatten.length:Nat):Int) (Ac l[i])=(((l.take (i+1)).flatten.length:Nat):Int):=by
   rw[Ac,Aj,hsn,Adl];omega
  rw[Cw,Eb,Acf (by rw[Ae,Ac];simp;omega),Br,Aa,hadd,Aan (by rw[Ae];simp only[Adx];omega),hi1];exact ih
theorem ko(l:List LB)(hf:l.flatten.length<=1000000)(hl:l.length<=1000000):∀(j i q:Nat),i+j=l.length->j<q->Ct l q (i:Int) (l.take i).flatten=some l.flatten
 |j,i,0,_,h=>absurd h (Awy _)
 |0,i,q+1,hi,_=>by
  rw[Ct,Dt,Aan (by rw[Ae,Ac];simp;omega),Apg (by omega)];rfl
 |j+1,i,q+1,hi,hq=>by
  have ih:=ko l hf hl j (i+1) q (by omega) (by omega);have hi1:Ad (i:Int) 1=((i+1:Nat):Int):=by rw[Aj];omega
  have hsn:(l.take (i+1)).flatten=(l.take i).flatten++l[i]:=by rw[Lb (by omega),Bgj];simp
  have hsp:l.flatten=(l.take (i+1)).flatten++(l.drop (i+1)).flatten:=by rw[<-Bgj,Ba1]
  have hle:((l.take i).flatten).length+(l[i]).length<=1000000:=by
   rw[hsp,Adl,hsn,Adl]at hf;omega
  rw[Ct,Dt,Acf (by rw[Ae,Ac];simp;omega),Br,Aa,Bg,Aa,hi1,<-hsn];exact ih
theorem Aj3(l:List LB)(hf:l.flatten.length<=1000000)(hl:l.length<=1000000):Fj l=some l.flatten:=by
 have h3:Ew l []=some l.flatten:=by
  rw[Ew,Jv,Ju];exact ko l hf hl l.length 0 Au (by omega) (by have:=Ar;omega)
 have h11:Ex l (l.flatten.length:Int)=some l.flatten:=by
  have z:Ao (0:Int) 0=0:=by decide
  rw[Ex,Jw,Aan (by rw[Ae];simp only[Adx];omega),Jz,Jy,z,Bu,Int.sub_zero];by_cases hp:0<l.flatten.length
  ·rw[Acf (by rw[Aq];simp only[Adx];omega),show iM (0:Int) 0 0=some ()from rfl,Aa,rZ,Aa,Bg (by simp only[Bg8,Au9];omega),Aa];rw[show iM (Ac ([]++List.replicate ((l.flatten.length:Nat):Int).toNat (0:UInt8))) 0 0=some () by rw[iM,Bj];simp[Ac],Aa];simp only[aV,Int.sub_self,Int.toNat_zero,Bbt];exact h3
  ·rw[Aan (by rw[Aq];simp only[Adx];omega)];exact h3
 have:=qy l hf hl _ h11 l.length 0 Au (by omega) (by have:=Ar;omega);exact this
theorem Aif{p:LB}(hp:p.length<=64):RY p=some ((Tr p:Int),0):=by
 rw[RY,Aan (by rw[Aq,Ac];simp;omega),Tr];by_cases h:p=[]
 ·rw[Acf (by rw[As,Ac,h];rfl),Acf h];rfl
 ·have:p.length≠0:=λe=>h (Azy e);rw[Aan (by rw[As,Ac,Avz];omega),Aan h];rfl
theorem om(a:List LB)(ha:a.length<=100000)(f g h:Int)(b k:LB)(m:LX)(n:LB)(o:Bool)(p:Int)(u v:LB)(hfin:Xl f g h b k m a n o p u (It a)=some (v,0)):∀(j i q:Nat),i+j=a.length->j<q->Rr a f g h b k m n o p u q (i:Int) (It (a.take i))=some (v,0)
 |j,i,0,_,h=>absurd h (Awy _)
 |0,i,q+1,hi,_=>by
  rw[Rr,ER,Aan (by rw[Ae,Ac];simp;omega),Apg (by omega)];exact hfin
 |j+1,i,q+1,hi,hq=>by
  have ih:=om a ha f g h b k m n o p u v hfin j (i+1) q (by omega) (by omega);have hi1:Ad (i:Int) 1=((i+1:Nat):Int):=by rw[Aj];omega
  have hll:(It (a.take i)).length=i:=by rw[Wk,Ahn];omega
  have hsn:It (a.take i)++[Ac a[i]]=It (a.take (i+1)):=by rw[Lb (by omega),It,It,Bfn];rfl
  rw[Rr,ER,Acf (by rw[Ae,Ac];simp;omega),Br,Aa,Bg (by simp;omega),Aa,hsn,hi1];exact ih
theorem Agb{c w r n:Nat}{x:List Int32}(h:ClipOk c w r n x){p:LB}(hp:p.length<=64)(k:LB)(m:LX)(n':LB)(o:Bool)(e:Int):YC (c:Int) (w:Int) (r:Int) p k m (pC c w r n x p) n' o e (n:Int)=some (NO c w r n x p,0):=by
 have hn:=Ak1 h p;have hl:=tY h p;have hlen:=za (c:=c) (w:=w) (r:=r) (n:=n) (x:=x) p;have hdl:=D6 p;have hfin:Xl (c:Int) (w:Int) (r:Int) p k m (pC c w r n x p) n' o e (LR (Tr p) c w r n++cK p) (It (pC c w r n x p))=some (NO c w r n x p,0):=by
  have hh:=jW (Tr p) c w r n;have ht:=B0 (It (pC c w r n x p));have hll:=Wk (pC c w r n x p);rw[Xl,EP,Q1,Acf (Z6 h p),Aa];simp only;rw[Aan (by decide),Bg (by rw[Adl];omega),Aa,Aj3 _ (by omega) (by omega),Aa,Bg (by rw[Adl,Adl];omega),Aa];simp[NO]
 have hlp:=om (pC c w r n x p) (by omega) (c:Int) (w:Int) (r:Int) p k m n' o e (LR (Tr p) c w r n++cK p) _ hfin (pC c w r n x p).length 0 Au (by omega) (by have:=Ar;omega);rw[YC,UR,Aif hp,Aa];simp only;rw[Aan (by decide),C4 (h.shape _ (qw p)) h.fit,Aa];simp only;rw[Aan (by decide)];by_cases h0:p=[]
 ·have e2:cK p=[]:=by rw[cK,Acf h0]
  rw[e2,Als]at hlp;rw[Aan (by simp[h0]),EK,FD];exact hlp
 ·have e2:cK p=Sk (Uk p).toNat 8:=by rw[cK,Aan h0]
  rw[e2]at hlp;rw[Acf (by simpa using h0),iC p hp,Aa];simp only;rw[Aan (by decide),Bg (by rw[jW,Cg];omega),Aa,EK,FD];exact hlp
section
variable {c w r:Nat} {p:LB} (h:EncOk c w r p) (t:LB) (hR:CH c r (nE c w t))
include h hR
theorem B6(h1:1<=nE c w t):ClipOk c w r (nE c w t) (XE c w t):=by
 have hc:=h.ch;refine⟨hc,h.bits,h.rate,⟨h1,?_⟩,xH t,?_,Ac6 h t⟩
 ·rw[Nat.le_div_iff_mul_le (by omega)];exact hR.1
 ·rcases hR.2 with h0|h0
  ·omega
  ·exact h0
omit hR in
theorem Aiw(h1:1<=nE c w t):pC c w r (nE c w t) (XE c w t) p=FE c w r p t++(if SE c w r t=[]then []else [FJ (w:Int) c (Na p) (SE c w r t)]):=by
 have hc:=h.ch;have hp:=Em r;obtain⟨d1,d2⟩:=zl h t;have hsl:=wR h t;have key:uX c r (nE c w t) (XE c w t)=Hv c (XE c w t) (List.replicate (kE c w r t) (Ag r:Int))++(if SE c w r t=[]then []else [SE c w r t]):=by
  by_cases hz:nE c w t %Ag r=0
  ·have hS:SE c w r t=[]:=Azy (by rw[hsl,hz,Bhd]);rw[Acf hS,Als,uX];congr 1;rw[hz,Bde]at d1;have hk1:1<=kE c w r t:=by
    rcases Bf1 (kE c w r t)with h0|h0
    ·rw[h0,Bhd]at d1;omega
    ·exact h0
   obtain⟨k',hk'⟩:∃k',kE c w r t=k'+1:=⟨kE c w r t-1,by omega⟩;have hd:(nE c w t-1)/Ag r=k':=by
    rw[hk',Ajz,Azu]at d1;exact Bet (by omega) (by rw[Ajz,Azu];omega)
   rw[Ak,hd,hk',List.replicate_succ'];congr 2;rw[hk',Ajz,Azu]at d1;omega
  ·have hS:SE c w r t≠ []:=by
    intro e;have:=congrArg List.length e;rw[hsl,Bg8]at this;rcases Nat.mul_eq_zero.1 this with h0|h0<;>omega
   have hd:(nE c w t-1)/Ag r=kE c w r t:=Bet (by omega) (by rw[Ajz,Azu];omega);have hdk:=Aby (r:=r) h t;rw[Aan hS,uX,Ak,hd,G2 c _ _ _ (Ard _ _),um,Hv,Hv,Ahe];congr 2;rw[Apg]
   ·rfl
   ·rw[Ah5,xH,<-Azk,<-Bg5];exact Ao7 _
 rw[pC,key,Bfn,FE];congr 1;split<;>rfl
theorem Ajx:JA (c:Int) (w:Int) (r:Int) p (RE c w t) (SE c w r t) (FE c w r p t) [] false 0=
  some (if RE c w t≠ []\/nE c w t=0 then((c:Int),(w:Int),(r:Int),p,[],[],[],[],false,24,24)else((c:Int),(w:Int),(r:Int),p,[],[],[],NO c w r (nE c w t) (XE c w t) p,true,0,0)):=by
 have hc:=h.ch;have hsl:=wR h t;have hfl:=jf (c:=c) (w:=w) (r:=r) (p:=p) t;have hn4:=hR.1;have hmod:nE c w t %Ag r*c<=nE c w t*c:=Aep _ (Bg2 _ _);have hn:nE c w t<=4000:=by
  have:nE c w t*1<=nE c w t*c:=Bes _ hc.1;omega
 have hk:kE c w r t<=nE c w t:=Aq1 _ _;rw[JA,MT,yw h t hR,Aa];simp only;rw[Aan (by decide),J7 h t hR,Aa];by_cases hbad:RE c w t≠ []\/nE c w t=0
 ·have hcond:((Ef (Ac (RE c w t)) 0)||(geq (nE c w t:Int) 0))=true:=by
   rcases hbad with h0|h0
   ·have:RE c w t≠ []:=h0;have hl:0<(RE c w t).length:=List.length_pos_iff.2 this;rw[Aq,Ac,Azr];left;simpa using hl
   ·rw[h0];simp[As]
  rw[Acf hbad,Acf hcond,Wx,Aa]
 ·have hR0:RE c w t=[]:=by
   by_cases h0:RE c w t=[]
   ·exact h0
   ·exact absurd (.inl h0) hbad
  have hn1:1<=nE c w t:=by
   rcases Bf1 (nE c w t)with h0|h0
   ·exact absurd (.inr h0) hbad
   ·exact h0
  have hcl:=B6 h t hR hn1;have hfr:=Aiw h t hn1;have hcond:¬(((Ef (Ac (RE c w t)) 0)||(geq (nE c w t:Int) 0))=true):=by rw[hR0];simp[Aq,As,Ac];omega
  rw[Aan hbad,Aan hcond];by_cases hS:SE c w r t=[]
  ·rw[Acf hS,Als]at hfr;have hf:=Agb hcl h.pass (RE c w t) (SE c w r t) [] false 0;rw[hfr]at hf;rw[Aan (by rw[hS];decide),Rz,JI,hf,Aa];simp only;rw[Aan (by decide)]
  ·rw[Aan hS]at hfr;have hl:0<(SE c w r t).length:=List.length_pos_iff.2 hS;have hin:xq (w:Int) (SE c w r t):=λv hv=>Ac6 h t v (Be1 hv);have henc:=mD (t:=Na p) (x:=SE c w r t) h.bits (Nv p) hc.1 hc.2 (by omega) (by omega) (by rw[hsl];exact Bcf _ _) hin;have hf:=Agb hcl h.pass (RE c w t) [] [] false 0;rw[hfr]at hf;rw[Acf (by rw[Aq,Ac];simpa using hl),YL p h.pass,Aa];simp only;rw[Aan (by decide),henc,Aa];simp only;rw[Aan (by decide),Bg (by simp;omega),Aa,KM,JQ,Aan (by decide),Rz,JI,hf,Aa];simp only;rw[Aan (by decide)]
end
def Cd(e:Int):Prop:=e=0\/e=4\/e=12\/e=16\/e=22\/e=24\/e=26\/e=38
instance(e:Int):Decidable (Cd e):=by unfold Cd;infer_instance
theorem Cd.nn{e:Int}(h:Cd e):0<=e:=by unfold Cd at h;omega
theorem Az6(p:List UInt8)(N a k:Nat):Cd (cV p N a k).2.2:=by
 unfold cV
 repeat' split
 all_goals first|decide|exact .inl rfl
theorem Bbv(p:List UInt8)(N a k l:Nat):Cd (kU p N a k l).2.2:=by
 have h:=Az6 p N (a+1) l;unfold kU
 repeat' split
 all_goals first|exact h|decide|exact .inl rfl
theorem Alb(ch:Nat)(p:List UInt8)(N:Nat):∀(j a:Nat) (out:List UInt32),Cd (CF ch p N j a out).2.2
 |0,a,out=>by rw[CF];exact .inl rfl
 |j+1,a,out=>by
  rw[CF];split
  ·exact Bbv ..
  ·exact Alb ch p N j _ _
theorem Ark(b:List UInt8):Cd (Zf b):=by
 unfold Zf
 repeat' split
 all_goals first|decide|exact .inl rfl
theorem Aba(a:List Int32)(b:Int):∀(q:Nat) (i e:Int),Ba a b q i=some e->Cd e
 |0,_,_,h=>by rw[Ba]at h;cases h
 |q+1,i,e,h=>by
  rw[Ba,Df]at h;split at h
  ·cases hg:Ap a i with
   |none=>rw[hg]at h;cases h
   |some g=>
    rw[hg,Aa]at h;split at h
    ·cases h;decide
    ·rw[Aa]at h;split at h
     ·cases h;decide
     ·exact Aba a b q _ e h
  ·cases h;decide
theorem Aiu{bits:Int}{a:List Int32}{e:Int}(hb:Bl bits)(h:Ay bits a=some e):Cd e:=by
 rw[Ay,Ed]at h;rw[WQ hb,Aa,Aan (by have:=FL bits;rw[As];simp;omega)]at h;split at h
 ·cases h;decide
 ·exact Aba a _ _ _ e h
theorem Aav{bits:Int}{ch n:Nat}{t:List Int32}{b:List UInt8}(hb:Bl bits)(ht:t.length=16)(h1:1<=ch)(h6:ch<=6)(n1:1<=n)(n2:n<=4000/ch){l:List Int32}{e:Int}
  (h:Fc (ch:Int) bits t (n:Int) b=some (l,e)):Cd e:=by
 have hn:n*ch<=4000:=by
  have:=Aep ch n2;have h2:=Bcc 4000 ch;omega
 have hq4:=R4 h1 h6;generalize 4000/ch=mm at*
 have hh:=FL bits;have Akp:Eu (ch:Int) bits (n:Int)=some 0:=by
  rw[Eu,Bn,Aan (by simp[Ae,Aq];omega),WQ hb,Aa,Aan (by rw[As];simp;omega),Aa,Aan (by simp[Ah,Ae];omega),Bj (by rw[Ah];simp;omega),Aa,hq4,Aan (by rw[Aq];simp;omega)]
 rw[Fc,Xg,Akp,Aa,Aan (by rw[Ah];simp),ek,Aa]at h;by_cases hs:Zf b≠0
 ·rw[Acf (by rw[Ah];simpa using hs)]at h;simp only[Aa]at h;cases h;exact Ark b
 have hs0:Zf b=0:=by simpa using hs
 have hlen:=Ahd hs0;have e4:Ao (Ac b) 4=((b.length-4:Nat):Int):=by rw[Ac,Bu];omega
 rw[Aan (by rw[Ah,hs0];simp),e4,Dk,Aa,show((b.length-4:Nat):Int).toNat=b.length-4 from rfl]at h;have hpl:(b.take (b.length-4)).length=b.length-4:=by simp
 generalize b.take (b.length-4)=p at*
 have hr:=Al1 (N:=8*p.length) (p:=p) rfl (by omega) h1 h6 hn;have hV:=Alb ch p (8*p.length) (n*ch) 0 [];have hat:=R9 (ch:=ch) (p:=p) (N:=8*p.length) (n*ch) 0 [] (by omega);rw[hr,Aa]at h;generalize CF ch p (8*p.length) (n*ch) 0 []=V at*
 obtain⟨v,at',er⟩:=V;simp only at*
 by_cases he:er≠0
 ·rw[Acf he]at h;simp only at h;rw[Kg,Kt,Acf (by rw[Ah];simpa using he)]at h;cases h;exact hV
 have he0:er=0:=by simpa using he
 have hvl:=hat.2.2 he0;simp only[Bg8,Bcg]at hvl;rw[Aan he]at h;simp only at h;rw[Kg,Kt]at h;split at h
 ·cases h;decide
 ·rw[Aan (by decide)]at h;have hm:v.length %ch=0:=by rw[hvl];exact Bcf n ch
  obtain⟨l',e',g1,g2,g3,g4,g5⟩:=zN (v:=v) hb ht h1 h6 (by omega) hm;rw[g1,Aa,g2,Aa]at h;have:=Aiu hb g4;by_cases hl:e'≠0
  ·rw[Acf hl]at h;cases h;exact this
  ·rw[Aan hl]at h;cases h;decide
theorem E8{bits:Int}{ch n:Nat}{t:List Int32}{b:List UInt8}(hb:Bl bits)(ht:t.length=16)(h1:1<=ch)(h6:ch<=6)(n1:1<=n)(n2:n<=4000/ch){l:List Int32}{e:Int}
  (h:Fc (ch:Int) bits t (n:Int) b=some (l,e)):0<=e:=(Aav hb ht h1 h6 n1 n2 h).nn
def shI(f c w r n:Int):Bool:=decide ((f=1\/f=2)/\ (1<=c/\c<=6)/\ (w=8\/w=16\/w=24)/\ (1<=r/\r<=1048576)/\1<=n)
theorem Auc(f c w r n:Int):Sn f c w r n=some (shI f c w r n):=by
 have e2:Pp f c w r n=some (decide ((f=1\/f=2)/\ (1<=c/\c<=6)/\ (1<=r/\r<=1048576)/\1<=n)):=by
  rw[Pp,PQ];congr 1;rw[Ako];simp only[As,Aq,TV,Ady,Azr,Avz,Adx];omega
 have g:∀k:Int,geq w k=decide (w=k):=λk=>by rw[As,Ako];simp
 rw[Sn,BM,e2,g,g,g,shI];by_cases h8:w=8
 ·subst h8;simp
 ·by_cases h16:w=16
  ·subst h16;simp
  ·by_cases h24:w=24
   ·subst h24;simp
   ·simp[h8,h16,h24]
theorem Ayc(f c w r n:Int):Lc f c w r n=some (shI f c w r n):=by
 rw[Lc,shI];simp only[As,Ea,TV,Ady,Azr,Avz,Adx,Bgm];split
 ·rename_i h;congr 1;rw[Ako];simp only[Ady,Azr,Avz,Adx];omega
 ·rename_i h;congr 1;symm;rw[Azw];omega
structure HdI (f c w r n:Int) (F C W R N:Nat):Prop where
 ef:f=F
 ec:c=C
 ew:w=W
 er:r=R
 en:n=N
 shape:Fu F C W R N=true
 fit:Yj C R N=true
theorem Ap9(f c w r n:Int):(∃F C W R N:Nat,HdI f c w r n F C W R N)\/ (Mj f c w r n=some 8/\Dw f c w r n=some ([],8)):=by
 by_cases h:shI f c w r n=true
 ·have h':=h;simp only[shI,Adx]at h';obtain⟨F,rfl⟩:=Ah6 (show 0<=f by omega);obtain⟨C,rfl⟩:=Ah6 (show 0<=c by omega);obtain⟨W,rfl⟩:=Ah6 (show 0<=w by omega);obtain⟨R,rfl⟩:=Ah6 (show 0<=r by omega);obtain⟨N,rfl⟩:=Ah6 (show 0<=n by omega);have hs:Fu F C W R N=true:=by simp only[Fu,Adx];omega
  by_cases hf:Yj C R N=true
  ·exact .inl ⟨F,C,W,R,N,rfl,rfl,rfl,rfl,rfl,hs,hf⟩
  ·have hf':Yj C R N=false:=by simpa using hf
   refine .inr ⟨?_,?_⟩
   ·rw[Mj,xU,Aa,hs,Aan (by simp),xc hs,Aa,hf'];rfl
   ·rw[Dw,Oo,cX,Aa,hs,Aan (by simp),tK hs,Aa,hf'];rfl
 ·have h':shI f c w r n=false:=by simpa using h
  refine .inr ⟨?_,?_⟩
  ·rw[Mj,Ayc,Aa,h'];rfl
  ·rw[Dw,Oo,Auc,Aa,h'];rfl
theorem HdI.check{f c w r n:Int}{F C W R N:Nat}(h:HdI f c w r n F C W R N):Mj f c w r n=some 0:=by
 obtain⟨rfl,rfl,rfl,rfl,rfl,hs,hf⟩:=h;rw[Mj,xU,Aa,hs,Aan (by simp),xc hs,Aa,hf];rfl
theorem HdI.E3{f c w r n:Int}{F C W R N:Nat}(h:HdI f c w r n F C W R N):Dw f c w r n=some (Ak (Ag R) N,0):=by
 obtain⟨rfl,rfl,rfl,rfl,rfl,hs,hf⟩:=h;exact qW hs hf
theorem HdI.num{f c w r n:Int}{F C W R N:Nat}(h:HdI f c w r n F C W R N):(F=1\/F=2)/\ (1<=C/\C<=6)/\ (W=8\/W=16\/W=24)/\ (1<=R/\R<=1048576)/\1<=N/\N<=4000/C/\N<=4000/\ (N-1)/Ag R+1<=1000:=by
 obtain⟨rfl,rfl,rfl,rfl,rfl,hs,hf⟩:=h;simp only[Fu,Adx]at hs;simp only[Yj,Adx]at hf;have hd:4000/C<=4000:=Aq1 _ _;omega
theorem HdI.Afy{f c w r n:Int}{F C W R N:Nat}(h:HdI f c w r n F C W R N):Hk f c w r n=some (Ak (Ag R) N):=by
 have hn:=h.num;obtain⟨rfl,rfl,rfl,rfl,rfl,hs,hf⟩:=h;rw[Hk,iO (by omega) (by omega) (by omega)];rfl
section
variable {f c w r n:Nat} (h1:Fu f c w r n=true) (h2:Yj c r n=true)
include h1 h2
theorem zq(k:Nat)(hk:k<= (Ak (Ag r) n).length):∀(j i q:Nat),i+j=k->j<q->My (k:Int) (f:Int) (c:Int) (w:Int) (r:Int) (n:Int) (Ak (Ag r) n) q (((Ak (Ag r) n).take i).sum) (i:Int)=some (HT c w (Ak (Ag r) n) k)
 |0,i,q+1,hi,_=>by
  obtain⟨hc,hw,hr,hn,_⟩:=Uu h1;obtain⟨g1,g2,g3⟩:=QL h1 h2;have b:=mB g1 i;obtain rfl:i=k:=by omega
  have hb:((Ak (Ag r) n).take i).sum.toNat*(c*wB (w:Int))<=4000*(6*3):=Ba9 (by omega) (Ba9 hc.2 (M4 (w:Int)).2);rw[My,AG,Aan (by rw[Ae];simp),SF,TS,Hn,Aa];simp only;rw[WY,Bbg hc.2 hw,Aa,HT];have e:((Ak (Ag r) n).take i).sum=((((Ak (Ag r) n).take i).sum.toNat:Nat):Int):=by omega
  rw[e,Fa (by rw[<-Aqn];omega) (by rw[<-Aqn];omega),<-Aqn];rfl
 |j+1,i,q+1,hi,hq=>by
  obtain⟨g1,g2,g3⟩:=QL h1 h2;have hK:=ny h2;have hlt:i<(Ak (Ag r) n).length:=by omega
  have b1:=mB g1 i;have b2:=mB g1 (i+1);have e:=Mp hlt;have ih:=zq k hk j (i+1) q (by omega) (by omega);rw[e]at ih;rw[My,AG,Acf (by rw[Ae];simp;omega),Br hlt,Aa,Aa,Aj,Aj];exact ih
theorem Aea(k:Nat)(hk:k<= (Ak (Ag r) n).length):Zo (f:Int) (c:Int) (w:Int) (r:Int) (n:Int) (k:Int)=some (HT c w (Ak (Ag r) n) k):=by
 have hK:=ny h2;obtain⟨g1,g2,g3⟩:=QL h1 h2;obtain⟨hc,hw,hr,hn,_⟩:=Uu h1;have h:=zq h1 h2 k hk k 0 Au (by omega) (by have:=Ar;omega);rw[Bbt,Bgh]at h;rw[Zo,TH,Hk,iO hr.2 hn g3,Aa,Aa];exact h
theorem Aiv{i:Nat}(hlt:i<(Ak (Ag r) n).length):Ad (HT c w (Ak (Ag r) n) i) (Bt (Bf (Bf ((Ak (Ag r) n)[i]) (c:Int)) (w:Int)) 8)=HT c w (Ak (Ag r) n) (i+1):=by
 obtain⟨hc,hw,hr,hn,_⟩:=Uu h1;obtain⟨g1,g2,g3⟩:=QL h1 h2;have b1:=mB g1 i;have b2:=mB g1 (i+1);have e:=Mp hlt;have h0:=g1 _ (Aqp hlt);have e2:(Ak (Ag r) n)[i]=(((Ak (Ag r) n)[i].toNat:Nat):Int):=by omega
 have hb:((Ak (Ag r) n).take (i+1)).sum.toNat*(c*wB (w:Int))<=4000*(6*3):=Ba9 (by omega) (Ba9 hc.2 (M4 (w:Int)).2);rw[e2,Bbz (by omega) hc.2 hw,HT,HT];have e3:((Ak (Ag r) n).take (i+1)).sum.toNat=((Ak (Ag r) n).take i).sum.toNat+(Ak (Ag r) n)[i].toNat:=by omega
 rw[e3,Ajz]at hb⊢;rw[Aj];omega
theorem Aaa(a:Nat)(ha:a<= (Ak (Ag r) n).length)(o p:LB)(m:LI)(a':Int)(N:LB)(u:Bool)(v:Int):∀(j i q:Nat),i+j=a->j<q->
  Rq ((Ak (Ag r) n).take a) o p (f:Int) (c:Int) (w:Int) (r:Int) (n:Int) m a' N u v q (HT c w (Ak (Ag r) n) i) (i:Int)=some (I8 (Ac N) (HT c w (Ak (Ag r) n) a))
 |0,i,q+1,hi,_=>by
  obtain rfl:i=a:=by omega
  rw[Rq,EL,Aan (by rw[Ae,Ac,Ahn];simp;omega),VQ,nD]
 |j+1,i,q+1,hi,hq=>by
  have hK:=ny h2;have hlt:i<(Ak (Ag r) n).length:=by omega
  have hlt2:i<((Ak (Ag r) n).take a).length:=by rw[Ahn];omega
  have ih:=Aaa a ha o p m a' N u v j (i+1) q (by omega) (by omega);rw[Rq,EL,Acf (by rw[Ae,Ac];simp;omega),Br hlt2,Aa,List.getElem_take,Aiv h1 h2 hlt,Aj];exact ih
end
theorem S4{α:Type}(l:List α):geq (Ac l) 0=decide (l=[]):=by
 cases l with
 |nil=>rfl
 |cons x l=>rw[As,Ac,Aqj,Bb5 (by simp),beq_eq_false_iff_ne];omega
theorem Ab6{α:Type}(l:List α):Ef (Ac l) 0=decide (l≠ []):=by
 cases l with
 |nil=>rfl
 |cons x l=>rw[Aq,Ac,Aqj,Bcx (by simp)];simp
inductive FitD (o:LB) (f c w r n:Int) (g:LI) (a:Int) (x:LB):Prop
 |new:f=0->c=0->w=0->r=0->n=0->g=[]->a=0->x=[]->FitD o f c w r n g a x
 |head (F C W R N:Nat):HdI f c w r n F C W R N-> (o==([]:LB))=decide (F=1)->g=[]->a=0->x=[]->FitD o f c w r n g a x
 |tab (F C W R N A:Nat):HdI f c w r n F C W R N-> (o==([]:LB))=decide (F=1)->Vt g=true->g.length=(Ak (Ag R) N).length->a=A->A<=g.length->FitD o f c w r n g a x
theorem Ajs(f c w r n:Int)(o:LB):Qf f c w r n o=Es f c w r n o:=rfl
theorem Aie(o p:LB)(f c w r n:Int)(g:LI)(a:Int)(x:LB)(u:Bool)(v:Int):
  (BL o p f c w r n g a x u v=some false/\Mi o p f c w r n g a x u v=some false)\/
  (BL o p f c w r n g a x u v=some true/\Mi o p f c w r n g a x u v=Cv o p f c w r n g a x u v/\FitD o f c w r n g a x):=by
 rw[BL,VW,Mi,Yt];by_cases hz:f=0/\c=0/\w=0/\r=0/\n=0
 ·obtain⟨rfl,rfl,rfl,rfl,rfl⟩:=hz;rw[Acf (by decide),Acf (by decide),S4,S4,Ab6,Ab6];by_cases h:g=[]/\a=0/\x=[]
  ·obtain⟨rfl,rfl,rfl⟩:=h;exact .inr ⟨rfl,by rw[Aan (by decide)], .new rfl rfl rfl rfl rfl rfl rfl rfl⟩
  ·refine .inl ⟨?_,?_⟩
   ·congr 1;rw[Bool.eq_false_iff];intro e;simp only[Ady,Adx,As,Avz]at e;exact h ⟨e.1.1,e.1.2,e.2⟩
   ·rw[Acf];simp only[Azr,Adx,Ah,Bgu];by_cases e1:g=[]
    ·by_cases e2:a=0
     ·exact .inr λe3=>h ⟨e1,e2,e3⟩
     ·exact .inl (.inr e2)
    ·exact .inl (.inl e1)
 ·have hz2:¬(((geq f 0)&&((geq c 0)&&((geq w 0)&&((geq r 0)&&((geq n 0)&&true)))))=true):=by
   simp only[Ady,As,Avz,Bhb];exact hz
  rw[Aan hz2,Aan hz2];rcases Ap9 f c w r n with⟨F,C,W,R,N,h⟩|⟨e1,e2⟩
  ·rw[h.E3,h.check,Aa,Aa,Ajs];simp only;rw[Aan (by decide),Aan (by decide),Es];have hf:geq f 1=decide (F=1):=by rw[h.ef,As,Ako];simp;omega
   rw[hf];by_cases hp:(o==([]:LB))=decide (F=1)
   ·rw[Aan (by rw[hp];simp),Aa,Aa,Aan (by decide),Aan (by decide),VO,VP,Qx,Qv,S4,S4,Ab6];by_cases hg:g=[]
    ·subst hg;rw[Acf (by simp),Acf (by simp)];by_cases h':a=0/\x=[]
     ·obtain⟨rfl,rfl⟩:=h';exact .inr ⟨rfl,by rw[Aan (by decide)], .head F C W R N h hp rfl rfl rfl⟩
     ·refine .inl ⟨?_,?_⟩
      ·congr 1;rw[Bool.eq_false_iff];intro e;simp only[Ady,Adx,As,Avz]at e;exact h' e
      ·rw[Acf];simp only[Azr,Adx,Ah,Bgu];by_cases e2:a=0
       ·exact .inr λe3=>h' ⟨e2,e3⟩
       ·exact .inl e2
    ·rw[Aan (by simpa using hg),Aan (by simpa using hg),YR,fH,Aa,Aa];by_cases ht:Vt g=true
     ·rw[Acf ht,h.Afy];simp only[Aa];by_cases hl:g.length=(Ak (Ag R) N).length/\0<=a/\a<=g.length
      ·obtain⟨hl,ha0,ha1⟩:=hl;obtain⟨A,rfl⟩:=Ah6 ha0;have hA:A<= (Ak (Ag R) N).length:=by omega
       rw[Aan (by simp[Ah,Ae,Aq,Ac];omega),Aan (by decide),Aan (by simp[Ah,Ae,Aq,Ac];omega),Dk,Aa,VU];have hh:=h;clear hf;obtain⟨rfl,rfl,rfl,rfl,rfl,hs,hf⟩:=hh;have hlp:=Aaa hs hf A hA o p g (A:Int) x u v A 0 Au (by omega) (by have:=Ar;have:=ny hf;omega);have h0:HT C W (Ak (Ag R) N) 0=0:=by rw[HT,Bbt,Bgh];simp
       rw[h0,show((0:Nat):Int)=0 from rfl]at hlp;rw[show((A:Int)).toNat=A from rfl,hlp,Aea hs hf A hA,Aa];by_cases hx:(x.length:Int)<=HT C W (Ak (Ag R) N) A
       ·refine .inr ⟨?_,?_, .tab F C W R N A h hp ht hl rfl (by omega)⟩
        ·rw[TV,Ac,Bcx hx]
        ·rw[Aan (by rw[Aq,Ac];simp;omega)]
       ·refine .inl ⟨?_,?_⟩
        ·rw[TV,Ac,Bb5 hx]
        ·rw[Acf (by rw[Aq,Ac];simp;omega)]
      ·refine .inl ⟨?_,?_⟩
       ·rw[Acf (by simp[Ah,Ae,Aq,Ac];omega)]
       ·rw[Aan (by decide),Acf (by simp[Ah,Ae,Aq,Ac];omega)]
     ·refine .inl ⟨?_,?_⟩
      ·rw[Aan ht,Acf (by simp[Ah])]
      ·rw[Aan ht,Acf (by decide),Acf (by simp)]
   ·rw[Acf (by simpa using hp),Aa,Aa,Acf (by decide),Acf (by decide)];exact .inl ⟨rfl,rfl⟩
  ·rw[e1,e2,Aa,Aa];simp only;rw[Acf (by decide),Acf (by decide)];exact .inl ⟨rfl,rfl⟩
theorem As3(b:List UInt8)(n:Int):Cd (iE b n).2:=by
 unfold iE
 repeat' split
 all_goals first|decide|exact .inl rfl
theorem Arv(b:List UInt8):(Zj b).2=6\/Cd (Zj b).2:=by
 unfold Zj O9
 repeat' split
 all_goals first|exact .inl rfl|exact .inr (As3 _ _)|exact .inr (by decide)
theorem Anv(b:List UInt8):(Lk b).2=6\/Cd (Lk b).2:=by
 unfold Lk
 repeat' split
 all_goals first|exact .inl rfl|exact .inr (.inl rfl)|exact .inr (by decide)
theorem Atf(b:List UInt8):(Da b).2=6\/Cd (Da b).2:=by
 unfold Da;split
 ·exact Arv b
 ·exact Anv b
theorem yn(b:List UInt8):∀(j p:Nat),p<=b.length->b.length<j+p->Cd (Cm b j p).2
 |0,p,h1,h2=>by omega
 |j+1,p,h1,h2=>by
  rw[Cm];split
  ·exact .inl rfl
  ·rename_i h6;split
   ·exact(Atf _).resolve_left h6
   ·rename_i h0;split
    ·exact(by decide:Cd 4)
    ·have hz:Da (b.drop p)=((Da (b.drop p)).1,0):=by rw[Prod.ext_iff];exact⟨rfl,by simpa using h0⟩
     obtain⟨k1,k2⟩:=rS hz;rw[Ah5]at k2;split
     ·exact .inl rfl
     ·exact yn b j _ (by omega) (by omega)
theorem H2(b:List UInt8):Cd (Bq b).2:=by
 unfold Bq Z8;split
 ·exact .inl rfl
 ·exact yn b _ _ (by omega) (by omega)
theorem G3(b:List UInt8):0<= (Bq b).2:=(H2 b).nn
theorem wh(b:List UInt8):Cd (Ek b).2.2.2.2.2:=by
 unfold Ek
 repeat' split
 all_goals first|decide|exact .inl rfl
theorem sj(b:List UInt8):0<= (Ek b).2.2.2.2.2:=(wh b).nn
theorem Au1(b:List UInt8){n:Nat}(h:1<=n/\n<=1000):Cd (Ej b n).2:=by
 unfold Ej;rw[Aan (λe=>e h)]
 repeat' split
 all_goals first|decide|exact .inl rfl
theorem uj(b:List UInt8)(n:Nat):0<= (Ej b n).2:=by
 unfold Ej
 repeat' split
 all_goals simp
def L6:List UInt8:=[73,68,51]
def Q3:List UInt8:=[65,80,69,84,65,71,69,88]
def Pe(b s:List UInt8):Bool:=decide (b.length<s.length)&&(b==s.take b.length)
theorem Abf(b s:List UInt8):Ue b s=some (Pe b s):=by
 rw[Ue,Pe];by_cases h:b.length<s.length
 ·rw[Acf (by rw[Ae,Ac,Ac];simp;omega),Ac,Dk,Aa,Bcx h,Ber];rfl
 ·rw[Aan (by rw[Ae,Ac,Ac];simp;omega),Bb5 h];rfl
theorem Atr(b s:List UInt8)(h:b.length<s.length):Ke s b=some (Pe b s):=by
 rw[Ke,Hw,Acf (by rw[Ea,Ac,Ac];simp;omega),Ac,Dk,Aa,Aa,Pe,Bcx h,Ber,Ahe];congr 1;rw[Ako,Avz,Avz];exact eq_comm
theorem tE{b s:List UInt8}(h:¬b.length<s.length):Pe b s=false:=by rw[Pe,Bb5 h];rfl
theorem Atb(b:List UInt8):Sj b=some (Pe b L6||Pe b Q3):=by
 obtain⟨q,hq⟩:∃q,Au=q+3:=⟨Au-3,by have:=Ar;omega⟩;have l3:Lg b (q+1) 2=some false:=by rw[Lg,Xj,Aan (by decide)];rfl
 have l2:Lg b (q+2) 1=some (Pe b Q3):=by
  rw[Lg,Xj,Acf (by decide),show Ap ([([73,68,51]:LB),([65,80,69,84,65,71,69,88]:LB)]:List LB) 1=some Q3 from rfl,Aa,show Ad (1:Int) 1=2 from rfl];by_cases h:b.length<Q3.length
  ·rw[Acf (by rw[Ae,Ac,Ac];simp;omega),Atr b Q3 h,Aa];by_cases hb:Pe b Q3=true
   ·rw[Acf hb,hb]
   ·rw[Aan hb,l3];simpa using hb
  ·rw[Aan (by rw[Ae,Ac,Ac];simp;omega),l3,tE h]
 rw[Sj,VT,VE,hq,Lg,Xj,Acf (by decide),show Ap ([([73,68,51]:LB),([65,80,69,84,65,71,69,88]:LB)]:List LB) 0=some L6 from rfl,Aa,show Ad (0:Int) 1=1 from rfl];by_cases h:b.length<L6.length
 ·rw[Acf (by rw[Ae,Ac,Ac];simp;omega),Atr b L6 h,Aa];by_cases hb:Pe b L6=true
  ·rw[Acf hb,hb];rfl
  ·rw[Aan hb,l2,Bool.eq_false_iff.2 hb];rfl
 ·rw[Aan (by rw[Ae,Ac,Ac];simp;omega),l2,tE h];rfl
def stS(b:List UInt8):Int×Int×Int×Int×Int×Int×Int:=
 if(Bq b).2=24 then(0,0,0,0,0,0, -1)else if(Bq b).2≠0 then(0,0,0,0,0,0,(Bq b).2)else
 if(Pe (Il b) L6||Pe (Il b) Q3)=true then(0,0,0,0,0,0, -1)else
 if(Ek (Il b)).2.2.2.2.2=24 then(0,0,0,0,0,0, -1)else((Bq b).1+22,(Ek (Il b)).1,(Ek (Il b)).2.1,(Ek (Il b)).2.2.1,(Ek (Il b)).2.2.2.1,(Ek (Il b)).2.2.2.2.1,(Ek (Il b)).2.2.2.2.2)
theorem AD(b:List UInt8)(hb:b.length<=100000):AS b=some (stS b):=by
 rw[AS,GU,BT b (by omega),Aa,stS];have hok:=BI (b:=b);simp only;by_cases h1:(Bq b).2=24
 ·rw[Acf (by rw[As];simpa using h1),Acf h1]
 rw[Aan (by rw[As];simpa using h1),Aan h1];by_cases h2:(Bq b).2≠0
 ·rw[Acf (by rw[Ah];simpa using h2),Acf h2]
 have h0:(Bq b).2=0:=by simpa using h2
 obtain⟨k1,k2,k3⟩:=hok h0;rw[Aan (by rw[Ah,h0];simp),Aan h2,Bv,Aa,Abf,Aa,show b.drop (Bq b).1.toNat=Il b from rfl,show([73,68,51]:LB)=L6 from rfl,show([65,80,69,84,65,71,69,88]:LB)=Q3 from rfl];by_cases h3:Pe (Il b) L6=true
 ·rw[Acf h3,h3,Bool.true_or,Acf rfl]
 rw[Aan h3,Abf,Aa,Bool.eq_false_iff.2 h3,Bool.false_or];by_cases h4:Pe (Il b) Q3=true
 ·rw[Acf h4,Acf h4]
 have hl:(Il b).length<=b.length:=by rw[Il,Ah5];omega
 rw[Aan h4,Aan h4,GP,HC,gY _ (by omega),Aa];simp only;by_cases h5:(Ek (Il b)).2.2.2.2.2=24
 ·rw[Acf (by rw[As];simpa using h5),Acf h5]
 ·rw[Aan (by rw[As];simpa using h5),Aan h5,Aj]
theorem Oj{p q:LB}{n:Nat}(h:n<=p.length):(p++q).take n=p.take n:=by rw[Bbx h]
theorem yN{p q:LB}{i:Nat}(h:i<p.length):(p++q).getD i 0=p.getD i 0:=by
 rw[List.getD_eq_getElem?_getD,List.getElem?_append_left h,<-List.getD_eq_getElem?_getD]
theorem Se{p q:LB}{a w:Nat}(h:a+w<=p.length:=by omega):part (p++q) a w=part p a w:=by rw[part,Oj h,part]
theorem Arh{p q s:LB}(h:Pe p s=false)(hl:p.length<s.length):(p++q).take s.length≠s:=by
 intro e;rw[Pe,Bcx hl,Ber]at h;have h1:p=s.take p.length:=by
  have:=congrArg (List.take p.length) e;rw[Bg3,Bbd (by omega),Oj (Ao7 _),Azd]at this;exact this
 rw[<-h1]at h;simp at h
theorem yu{p:LB}(q:LB)(h:(Zj p).2≠24)(h6:Pe p L6=false):Zj (p++q)=Zj p:=by
 unfold Zj at h⊢;by_cases h3:3<=p.length/\p.take 3=[73,68,51]
 ·have h3':3<= (p++q).length/\ (p++q).take 3=[73,68,51]:=⟨by rw[Adl];omega,by rw[Oj h3.1];exact h3.2⟩;have n1:¬ ¬(3<=p.length/\p.take 3=[73,68,51]):=λf=>f h3;have n2:¬ ¬(3<= (p++q).length/\ (p++q).take 3=[73,68,51]):=λf=>f h3';rw[Aan n1]at h;rw[Aan n1,Aan n2];by_cases h10:p.length<10
  ·rw[Acf h10]at h;exact absurd rfl h
  ·have h10':¬(p++q).length<10:=by rw[Adl];omega
   rw[Aan h10]at h;rw[Aan h10,Aan h10',Se,yN (by omega),yN (by omega),yN (by omega)];split
   ·rfl
   ·rename_i hc;rw[Aan hc]at h;unfold O9 iE at h⊢;rw[yN (by omega)];generalize(fI (part p 6 4) 0).1+10+(if p.getD 5 0=16 then 10 else 0)=n at h⊢;by_cases c1:4000<n
    ·rw[Acf c1,Acf c1]
    ·rw[Aan c1]at h;rw[Aan c1,Aan c1];by_cases c2:(p.length:Int)<n
     ·rw[Acf c2]at h;exact absurd rfl h
     ·have c2':¬((p++q).length:Int)<n:=by rw[Adl];omega
      rw[Aan c2,Aan c2',Oj (by omega),Se]
 ·rw[Acf h3,Acf];rintro⟨_,h5⟩;by_cases hl:3<=p.length
  ·rw[Oj hl]at h5;exact h3 ⟨hl,h5⟩
  ·exact Arh h6 (by simp[L6];omega) h5
theorem Ai2{p:LB}(q:LB)(h:(Lk p).2≠24)(h6:Pe p Q3=false):Lk (p++q)=Lk p:=by
 unfold Lk at h⊢;by_cases h3:8<=p.length/\p.take 8=Q8
 ·have h3':8<= (p++q).length/\ (p++q).take 8=Q8:=⟨by rw[Adl];omega,by rw[Oj h3.1];exact h3.2⟩;have n1:¬ ¬(8<=p.length/\p.take 8=Q8):=λf=>f h3;have n2:¬ ¬(8<= (p++q).length/\ (p++q).take 8=Q8):=λf=>f h3';rw[Aan n1]at h;rw[Aan n1,Aan n2];by_cases h10:p.length<32
  ·rw[Acf h10]at h;exact absurd rfl h
  ·have h10':¬(p++q).length<32:=by rw[Adl];omega
   have eb:HY (p++q)=HY p:=by rw[HY,HY,Se,Se]
   rw[Aan h10]at h;rw[Aan h10,Aan h10',Se,Se,eb,Oj (n:=32) (by omega)];split
   ·rfl
   ·rename_i hc;rw[Aan hc]at h;by_cases c2:p.length<Gd (part p 12 4)+32
    ·rw[Acf c2]at h;exact absurd rfl h
    ·have c2':¬(p++q).length<Gd (part p 12 4)+32:=by rw[Adl];omega
     rw[Aan c2,Aan c2',Oj (by omega)]
 ·rw[Acf h3,Acf];rintro⟨_,h5⟩;by_cases hl:8<=p.length
  ·rw[Oj hl]at h5;exact h3 ⟨hl,h5⟩
  ·exact Arh h6 (by simp[Q3];omega) h5
theorem E1{p:LB}(q:LB)(h:(Da p).2≠24)(h6:(Da p).2=6->Pe p L6=false/\Pe p Q3=false):Da (p++q)=Da p:=by
 have Bca:∀s:LB,s.length<=p.length->Pe p s=false:=λs hs=>tE (by omega);unfold Da at h h6⊢;by_cases hT:(Zj p).2≠6
 ·rw[Acf hT]at h⊢;have h3:Pe p L6=false:=by
   refine Bca _ ?_;unfold Zj at hT;by_cases h3:3<=p.length/\p.take 3=[73,68,51]
   ·simp[L6];omega
   ·rw[Acf h3]at hT;exact absurd rfl hT
  rw[yu q h h3,Acf hT]
 ·rw[Aan hT]at h h6⊢;have hb:Pe p L6=false/\Pe p Q3=false:=by
   by_cases hA:(Lk p).2=6
   ·exact h6 hA
   ·unfold Lk at hA;by_cases h3:8<=p.length/\p.take 8=Q8
    ·exact⟨Bca _ (by simp[L6];omega),Bca _ (by simp[Q3];omega)⟩
    ·rw[Acf h3]at hA;exact absurd rfl hA
  have hT':¬(Zj (p++q)).2≠6:=by
   rw[yu q (by simp only[ne_eq,Classical.not_not]at hT;rw[hT];decide) hb.1];exact hT
  rw[Aan hT',Ai2 q h hb.2]
theorem Z9{p:LB}(q:LB):∀(j s j':Nat),s<=p.length->p.length-s<j->p.length+q.length-s<j'-> (Cm p j s).2≠24->
  ((Cm p j s).2=0->Pe (p.drop (s+(Cm p j s).1.sum.toNat)) L6=false/\Pe (p.drop (s+(Cm p j s).1.sum.toNat)) Q3=false)->Cm (p++q) j' s=Cm p j s
 |0,s,j',_,hj,_,_,_=>absurd hj (Awy _)
 |j+1,s,0,_,_,hj,_,_=>absurd hj (Awy _)
 |j+1,s,j'+1,hs,hj,hj',h,hb=>by
  have ed:(p++q).drop s=p.drop s++q:=Ay3 hs;rw[Cm]at h hb⊢;rw[Cm,ed];by_cases h6:(Da (p.drop s)).2=6
  ·rw[Acf h6]at h hb⊢;have hb':=hb rfl;simp only[Bgh,Int.toNat_zero,Bde]at hb';rw[E1 q (by rw[h6];decide) (λ_=>hb'),Acf h6]
  ·rw[Aan h6]at h hb⊢;by_cases h0:(Da (p.drop s)).2≠0
   ·rw[Acf h0]at h⊢;rw[E1 q h (λe=>absurd e h6),Aan h6,Acf h0]
   ·rw[Aan h0]at h hb⊢;have h0':(Da (p.drop s)).2=0:=by simpa using h0
    have e1:Da (p.drop s++q)=Da (p.drop s):=E1 q (by rw[h0'];decide) (λe=>absurd e h6);rw[e1,Aan h6,Aan h0];have hok:=rS (b:=p.drop s) (n:=(Da (p.drop s)).1) (by rw[<-h0']);rw[Ah5]at hok;by_cases hm:4000<(s:Int)+(Da (p.drop s)).1
    ·rw[Acf hm,Acf hm]
    ·rw[Aan hm]at h hb⊢;rw[Aan hm];have hl1:s+(Da (p.drop s)).1.toNat<=p.length:=by omega
     have ih:=Z9 (p:=p) q j (s+(Da (p.drop s)).1.toNat) j' hl1 (by omega) (by omega);by_cases hr:(Cm p j (s+(Da (p.drop s)).1.toNat)).2=0
     ·rw[Acf hr]at hb⊢;have hle1:s+(Da (p.drop s)).1.toNat<=p.length:=by omega
      have hle2:s+(Da (p.drop s)).1.toNat<=4000:=by omega
      have hi:=(uJ p j (s+(Da (p.drop s)).1.toNat) hle1 hle2 hr).1;have hsum:(0:Int)<= (Cm p j (s+(Da (p.drop s)).1.toNat)).1.sum:=by
       have:∀l:List Int,(∀x∈l,10<=x)->0<=l.sum:=by
        intro l
        induction l with
        |nil=>intro _;simp
        |cons a l ih=>intro h;rw[Azg];have:=h a (by simp);have:=ih (λx hx=>h x (by simp[hx]));omega
       exact this _ hi
      rw[ih (by rw[hr];decide) (λ_=>by
       have:=hb rfl;simp only[Azg]at this;rw[show s+((Da (p.drop s)).1+(Cm p j (s+(Da (p.drop s)).1.toNat)).1.sum).toNat=s+(Da (p.drop s)).1.toNat+(Cm p j (s+(Da (p.drop s)).1.toNat)).1.sum.toNat by omega]at this;exact this),Acf hr]
     ·rw[Aan hr]at h⊢;rw[ih h (λe=>absurd e hr),Aan hr]
theorem U2{p:LB}(q:LB)(h:(Bq p).2≠24)(hb:(Bq p).2=0->Pe (Il p) L6=false/\Pe (Il p) Q3=false):Bq (p++q)=Bq p:=by
 have key:Cm (p++q) ((p++q).length+1) 0=Cm p (p.length+1) 0:=by
  refine Z9 q (p.length+1) 0 ((p++q).length+1) (Nat.zero_le _) (by omega) (by rw[Adl];omega) ?_ ?_
  ·unfold Bq Z8 at h;by_cases h0:(Cm p (p.length+1) 0).2=0
   ·rw[h0];decide
   ·rw[Aan h0]at h;exact h
  ·intro h0;have e:Bq p=(((0:Nat):Int)+(Cm p (p.length+1) 0).1.sum,0):=by unfold Bq Z8;rw[Acf h0]
   have:=hb (by rw[e]);rw[Il,e]at this;simpa using this
 unfold Bq Z8;rw[key]
theorem Apr{p:LB}(q:LB)(h:(Ek p).2.2.2.2.2≠24):Ek (p++q)=Ek p:=by
 unfold Ek at h⊢;by_cases h1:p.take (min 4 p.length)≠Pg.take (min 4 p.length)
 ·have h1':(p++q).take (min 4 (p++q).length)≠Pg.take (min 4 (p++q).length):=by
   intro e;have hle:min 4 p.length<=min 4 (p++q).length:=by rw[Adl];omega
   have:=congrArg (List.take (min 4 p.length)) e;rw[Bg3,Bg3,Bbd hle,Oj (by omega)]at this;exact h1 this
  rw[Acf h1,Acf h1']
 ·rw[Aan h1]at h;by_cases h2:p.length<22
  ·rw[Acf h2]at h;exact absurd rfl h
  ·have h2':¬(p++q).length<22:=by rw[Adl];omega
   have h1':¬(p++q).take (min 4 (p++q).length)≠Pg.take (min 4 (p++q).length):=by
    rw[Bbd (by omega)]at h1⊢;rw[Oj (by omega)];exact h1
   have e0:f0 (p++q)=f0 p:=by unfold f0;rw[Se]
   have e1:f1 (p++q)=f1 p:=by unfold f1;rw[Se]
   have e2:f2 (p++q)=f2 p:=by unfold f2;rw[Se]
   have e3:f3 (p++q)=f3 p:=by unfold f3;rw[Se]
   have e4:f4 (p++q)=f4 p:=by unfold f4;rw[Se]
   rw[Aan h1,Aan h1',Aan h2,Aan h2',e0,e1,e2,e3,e4,Oj (by omega),Se]
theorem Awc{p:LB}(q:LB)(h:(stS p).2.2.2.2.2.2≠ -1):stS (p++q)=stS p:=by
 unfold stS at h⊢;by_cases h1:(Bq p).2=24
 ·rw[Acf h1]at h;exact absurd rfl h
 rw[Aan h1]at h;by_cases h2:(Bq p).2≠0
 ·rw[U2 q h1 (λe=>absurd e h2),Aan h1,Acf h2,Aan h1,Acf h2]
 rw[Aan h2]at h;have h0:(Bq p).2=0:=by simpa using h2
 by_cases h3:(Pe (Il p) L6||Pe (Il p) Q3)=true
 ·rw[Acf h3]at h;exact absurd rfl h
 rw[Aan h3]at h;have h3f:Pe (Il p) L6=false/\Pe (Il p) Q3=false:=by
  simp only[Bool.not_eq_true,Bgo]at h3;exact h3
 have eF:=U2 q h1 (λ_=>h3f);obtain⟨k1,k2,k3⟩:=BI h0;have eH:Il (p++q)=Il p++q:=by rw[Il,eF,Il,Ay3 (by omega)]
 by_cases h5:(Ek (Il p)).2.2.2.2.2=24
 ·rw[Acf h5]at h;exact absurd rfl h
 have eR:Ek (Il p++q)=Ek (Il p):=Apr q h5;have beg:∀s:LB,Pe (Il p) s=false-> (s=L6\/s=Q3)->Pe (Il p++q) s=false:=by
  intro s hs hk;by_cases hl:(Il p++q).length<s.length
  ·have hp:(Il p).length<s.length:=by rw[Adl]at hl;omega
   rw[Pe,Bcx hp,Ber]at hs;rw[Pe,Bcx hl,Ber];refine beq_eq_false_iff_ne.2 λe=>?_;have:=congrArg (List.take (Il p).length) e;rw[Oj (Ao7 _),Azd,Bg3,Bbd (by rw[Adl];omega)]at this;rw[<-this]at hs;simp at hs
  ·exact tE hl
 rw[eF,eH,eR,Aan h1,Aan h2,beg _ h3f.1 (.inl rfl),beg _ h3f.2 (.inr rfl),Aan (by decide),Aan h5,Aan h1,Aan h2,Aan h3]
theorem Apq{p:LB}(q:LB)(n:Nat)(h:(Ej p n).2≠24):Ej (p++q) n=Ej p n:=by
 unfold Ej at h⊢;by_cases h1:1<=n/\n<=1000
 ·have n1:¬ ¬(1<=n/\n<=1000):=λf=>f h1;rw[Aan n1]at h;rw[Aan n1,Aan n1];by_cases h2:p.length<4*n+4
  ·rw[Acf h2]at h;exact absurd rfl h
  ·have h2':¬(p++q).length<4*n+4:=by rw[Adl];omega
   have et:UO (p++q) n=UO p n:=by
    unfold UO;refine Bfi λi hi=>?_;rw[List.mem_range]at hi;rw[Se]
   rw[Aan h2,Aan h2',Oj (by omega),Se,et]
 ·rw[Acf h1,Acf h1]
def Aio(g a:LB)(k p o u v:Int)(f:LI)(b:Int)(h:LB)(m:Bool)(n:Int):Option Int:=
if(geq k 0)then
(Jr a).bind λ(al,ba)=>
if(geq ba 24)then
Fk true 0
else
if(Bc ba 0)then
(Am ba).bind λ(bx,bz)=>
Fk bx bz
else
(Bp a al (Ac a)).bind λda=>
(Sj da).bind λan=>
if an then
Fk true 0
else
(Bp a al (Ac a)).bind λdb=>
(Mw db).bind λ(ae,af,aa,ag,ab,bb)=>
if(geq bb 24)then
Fk true 0
else
if(Bc bb 0)then
(Am bb).bind λ(dc,dd)=>
Fk dc dd
else
(
(Bp a (Ad al 22) (Ac a)).bind λak=>
(
Ze g ak ae af aa ag ab b m n f h))
else
if(geq (Ac f) 0)then
if(geq k 2)then
if(Cj (Ac a) 8)then
Km true 0
else
Zb g a k p o u v b m n f h
else
Kz g a k p o u v b m n f h 0
else
if(Cj b (Ac f))then
(Ap f b).bind λ_=>
(Ap f b).bind λw=>
if(Cj (Ac a) w)then
Ii true 0
else
(Nq g).bind λ(ap,am)=>
if(Bc am 0)then
(Am am).bind λ(de,df)=>
Ii de df
else
(Dw k p o u v).bind λ(ad,dg)=>
if((Bc dg 0)||(Ms b (Ac ad)))then
(Am 8).bind λ(dh,di)=>
Ii dh di
else
Yz w g a k p o u v b m n ap ad f h
else
if(Ef (Ac a) 4000)then
(Am 38).bind λ(dj,bf)=>
Bw ((dj==true)&&((geq bf 0)&&true))
else
Zn
theorem wQ(d:Bool)(e:Int):Fk d e=Bw (d&&geq e 0):=by
 rw[Fk,IB];cases d<;>simp
theorem wm(d:Bool)(e:Int):Km d e=Bw (d&&geq e 0):=by
 rw[Km,JW];cases d<;>simp
theorem Ajv(d:Bool)(e:Int):Ii d e=Bw (d&&geq e 0):=by
 rw[Ii,IW];cases d<;>simp
theorem rp4{o p:LB}{f c w r n:Int}{g:LI}{a:Int}{x:LB}{u:Bool}{v:Int}{t1 t2:LB}{t3 t4 t5 t6 t7:Int}{t8:LI}{t9:Int}{t10:LB}{t11:Bool}{t12 e:Int}
  (h:Al o p f c w r n g a x u v=some (t1,t2,t3,t4,t5,t6,t7,t8,t9,t10,t11,t12,e)):Cv o p f c w r n g a x u v=some (geq e (-1)):=by
 rw[Cv,Yw,h,Aa]
theorem lF{e:Int}(h:0<=e):geq e (-1)=false:=by rw[As,beq_eq_false_iff_ne];omega
theorem An9(o p:LB)(c w r n:Int)(g:LI)(a:Int)(x:LB)(u:Bool)(v:Int)(hp:p.length<=100000):
  ∃B:Bool,Aio o p 0 c w r n g a x u v=Bw B/\Cv o p 0 c w r n g a x u v=some B:=by
 have hT:Al o p 0 c w r n g a x u v=Al o p 0 c w r n g a x u v:=rfl
 conv at hT=>rhs;rw[Al,Ca,Acf (by decide),AD p hp,Aa,stS]
 have hfn:=G3 p;have hrn:=sj (Il p);rw[Aio,Acf (by decide),Px p (by omega),Aa];have hok:=BI (b:=p);simp only at hT⊢;by_cases h1:(Bq p).2=24
 ·rw[Acf h1]at hT;simp only at hT;rw[Acf (by decide)]at hT;rw[Acf (by rw[As];simpa using h1),wQ];exact⟨_,rfl,rp4 hT⟩
 rw[Aan h1]at hT;rw[Aan (by rw[As];simpa using h1)];by_cases h2:(Bq p).2≠0
 ·rw[Acf h2]at hT;simp only at hT;rw[Acf (by rw[Ah];simpa using h2)]at hT;rw[Acf (by rw[Ah];simpa using h2),Am,Aa];simp only;rw[wQ];exact⟨_,rfl,(rp4 hT).trans (by rw[lF hfn];rfl)⟩
 have h0:(Bq p).2=0:=by simpa using h2
 obtain⟨k1,k2,k3⟩:=hok h0;have hl:(Il p).length=p.length-(Bq p).1.toNat:=by rw[Il,Ah5]
 rw[Aan h2]at hT;rw[Aan (by rw[Ah,h0];simp),Bv,Aa,Aa,show p.drop (Bq p).1.toNat=Il p from rfl,Atb,Aa];by_cases h3:(Pe (Il p) L6||Pe (Il p) Q3)=true
 ·rw[Acf h3]at hT⊢;simp only at hT;rw[Acf (by decide)]at hT;rw[wQ];exact⟨_,rfl,rp4 hT⟩
 rw[Aan h3]at hT⊢;rw[QJ _ (by omega),Aa];by_cases h5:(Ek (Il p)).2.2.2.2.2=24
 ·rw[Acf h5]at hT;simp only at hT;rw[Acf (by decide)]at hT;rw[Acf (by rw[As];simpa using h5),wQ];exact⟨_,rfl,rp4 hT⟩
 rw[Aan h5]at hT;rw[Aan (by rw[As];simpa using h5)];simp only at hT;by_cases h6:(Ek (Il p)).2.2.2.2.2≠0
 ·rw[Acf (by rw[Ah];simpa using h6)]at hT⊢;rw[Am,Aa];simp only;rw[wQ];exact⟨_,rfl,(rp4 hT).trans (by rw[lF hrn];rfl)⟩
 have h7:(Ek (Il p)).2.2.2.2.2=0:=by simpa using h6
 have h22:=(rX h7).2.1;rw[Aan (by rw[Ah,h7];simp),Bv,Aa,Hh,Hg,Es]at hT;rw[Aan (by rw[Ah,h7];simp),Aj,Bv,Aa,Ze,MX,Qf];simp only;by_cases h8:((o==([]:LB)) !=geq (Ek (Il p)).1 1)=true
 ·rw[Acf h8]at hT⊢;rw[Aa]at hT⊢;rw[Am,Aa];simp only;rw[wQ];exact⟨_,rfl,rp4 hT⟩
 ·rw[Aan h8]at hT⊢;rw[Aa]at hT⊢;rw[Am,Aa];simp only;rw[wQ];exact⟨_,rfl,rp4 hT⟩
section
variable {f c w r n:Int} {F C W R N:Nat} (hd:HdI f c w r n F C W R N)
include hd
theorem HdI.ne0:¬(geq f 0=true):=by
 have:=hd.num;rw[As,Avz,hd.ef];omega
theorem I0(o p:LB)(hp:p.length<=100000)(A:Nat)(hA:A<=p.length)(a:Int)(x:LB)(u:Bool)(v:Int):
  (Kz o p f c w r n a u v [] x (A:Int)=Bw (decide ((Ej (p.drop A) (Ak (Ag R) N).length).2=24)))/\
  Du p f c w r n (A:Int)=some (if(Ej (p.drop A) (Ak (Ag R) N).length).2=24 then(0,[], -1)else((A:Int)+(4*((Ej (p.drop A) (Ak (Ag R) N).length).1.length:Int)+4),(Ej (p.drop A) (Ak (Ag R) N).length).1,(Ej (p.drop A) (Ak (Ag R) N).length).2))/\
  ((Ej (p.drop A) (Ak (Ag R) N).length).2=0-> (A:Int)+(4*((Ej (p.drop A) (Ak (Ag R) N).length).1.length:Int)+4)<=p.length):=by
 have hs:=uL (p.drop A) (Ak (Ag R) N).length (by rw[Ah5];omega);have hr:=uq (p.drop A) (Ak (Ag R) N).length (by rw[Ah5];omega);have hok:=iA (b:=p.drop A) (n:=(Ak (Ag R) N).length);have hlen:(Ej (p.drop A) (Ak (Ag R) N).length).1.length<=1000:=by
  unfold Ej
  repeat' split
  all_goals simp[Vl]
  all_goals omega
 have hfit:(Ej (p.drop A) (Ak (Ag R) N).length).2=0-> (A:Int)+(4*((Ej (p.drop A) (Ak (Ag R) N).length).1.length:Int)+4)<=p.length:=by
  intro h0;obtain⟨k1,k2,k3,k4,_⟩:=hok h0;rw[k1];simp only[Vl];rw[Ah5]at k4;omega
 refine⟨?_,?_,hfit⟩
 ·rw[Kz,IX,hd.E3,Aa];simp only;rw[Aan (by decide),Bv,Aa,Ahe,Ac,hs,Aa];generalize Ej (p.drop A) (Ak (Ag R) N).length=z at*
  obtain⟨z1,z2⟩:=z;simp only at*
  by_cases h1:z2=24
  ·rw[Acf (by rw[As];simpa using h1),wm,Bcx h1];rfl
  rw[Aan (by rw[As];simpa using h1),Bb5 h1];by_cases h2:z2≠0
  ·rw[Acf (by rw[Ah];simpa using h2),Am,Aa];simp only;rw[wm];rfl
  ·have h0:z2=0:=by simpa using h2
   have:=hfit h0;rw[Aan (by rw[Ah,h0];simp),Ac,vg A z1.length (by omega) (by omega),Bv,Aa,wm];rfl
 ·rw[Du,NB,Bv,Aa,hd.Afy,Aa,Ac,Ahe,hr,Aa];generalize Ej (p.drop A) (Ak (Ag R) N).length=z at*
  obtain⟨z1,z2⟩:=z;simp only at*
  rw[LM,MN];by_cases h1:z2=24
  ·rw[Acf (by rw[As];simpa using h1),Acf h1]
  ·rw[Aan (by rw[As];simpa using h1),Aan h1,Ac,vg A z1.length (by omega) (by omega)];congr 2
theorem Avo(o p:LB)(ho:o.length<=64)(hp:p.length<=100000)(a:Int)(x:LB)(u:Bool)(v:Int):
  ∃B:Bool,Aio o p f c w r n [] a x u v=Bw B/\Cv o p f c w r n [] a x u v=some B:=by
 have hT:Al o p f c w r n [] a x u v=Al o p f c w r n [] a x u v:=rfl
 conv at hT=>rhs;rw[Al,Ca,Aan hd.ne0,Cq,Cn,Acf (by decide),Ff,Hy]
 rw[Aio,Aan hd.ne0,Acf (by decide)];have fin:∀A:Nat,A<=p.length->Al o p f c w r n [] a x u v=(Du p f c w r n (A:Int)).bind (λ(ag,ak,w1)=>
   if(Bc w1 0)then some (o,p,f,c,w,r,n,[],a,x,u,v,w1)else(Bp p ag (Ac p)).bind λal=>some (o,al,f,c,w,r,n,ak,a,x,u,v,0))->
   ∃B:Bool,Kz o p f c w r n a u v [] x (A:Int)=Bw B/\Cv o p f c w r n [] a x u v=some B:=by
  intro A hA hT;obtain⟨t1,t2,t3⟩:=I0 hd o p hp A hA a x u v;have hnn:=uj (p.drop A) (Ak (Ag R) N).length;rw[t2,Aa]at hT;rw[t1];generalize Ej (p.drop A) (Ak (Ag R) N).length=z at*
  obtain⟨z1,z2⟩:=z;simp only at*
  by_cases h1:z2=24
  ·rw[Acf h1]at hT;simp only at hT;rw[Acf (by decide)]at hT;exact⟨_,rfl,(rp4 hT).trans (by rw[Bcx h1];rfl)⟩
  rw[Aan h1]at hT;simp only at hT;by_cases h2:z2≠0
  ·rw[Acf (by rw[Ah];simpa using h2)]at hT;exact⟨_,rfl,(rp4 hT).trans (by rw[Bb5 h1,lF hnn])⟩
  ·have h0:z2=0:=by simpa using h2
   have:=t3 h0;rw[Aan (by rw[Ah,h0];simp),Bv,Aa]at hT;exact⟨_,rfl,(rp4 hT).trans (by rw[Bb5 h1];rfl)⟩
 by_cases h2:geq f 2=true
 ·rw[Acf h2]at hT⊢;by_cases h8:p.length<8
  ·rw[Acf (by rw[Ae,Ac];simp;omega)]at hT⊢;rw[Aa]at hT;simp only at hT;rw[Acf (by decide)]at hT;rw[wm];exact⟨_,rfl,rp4 hT⟩
  ·rw[Aan (by rw[Ae,Ac];simp;omega)]at hT⊢;have h8':(p.take 8).length=8:=by rw[Ahn];omega
   rw[Dk,Aa,gM o ho,Aa]at hT;rw[Zb,MV,Dk,Aa,show(8:Int).toNat=8 from rfl,yV h8' ho,Aa];rw[show(8:Int).toNat=8 from rfl]at hT;simp only;rw[ML,JH,Aan (by decide)];by_cases he:(p.take 8==Sk (Uk o).toNat 8)=true
   ·rw[Aan (by rw[bne,he];decide)]at hT;rw[Aan (by rw[he];decide)];exact fin 8 (by omega) hT
   ·have he':(p.take 8==Sk (Uk o).toNat 8)=false:=by simpa using he
    rw[Acf (by rw[bne,he'];decide),Aa]at hT;simp only at hT;rw[Acf (by decide)]at hT;rw[Acf (by rw[he'];decide),Am,Aa];simp only;rw[wm];exact⟨_,rfl,rp4 hT⟩
 ·rw[Aan h2]at hT⊢;exact fin 0 (by omega) hT
end
theorem Ap3{f c w r n:Int}{F C W R N:Nat}(hd:HdI f c w r n F C W R N)(o p:LB)(ho:o.length<=64)(hp:p.length<=100000)(g:LI)(hg:Vt g=true)(hl:g.length=(Ak (Ag R) N).length)(A:Nat)(hA:A<=g.length)(x:LB)(hx:x.length<=14000000)(u:Bool)(v:Int):
  ∃B:Bool,Aio o p f c w r n g (A:Int) x u v=Bw B/\Cv o p f c w r n g (A:Int) x u v=some B:=by
 have hc:=hd.ec;subst hc;have hg':=hg;rw[Vt,Ady,Adx,EU g 100000 (by omega)]at hg';obtain⟨⟨g1,g2⟩,g5,g6⟩:=hg';have hT:Al o p f (C:Int) w r n g (A:Int) x u v=Al o p f (C:Int) w r n g (A:Int) x u v:=rfl
 conv at hT=>rhs;rw[Al,Ca,Aan hd.ne0,Cq,Cn,Aan (by rw[As,Ac];simp;intro e;subst e;simp at g1)]
 rw[Aio,Aan hd.ne0,Aan (by rw[As,Ac];simp;intro e;subst e;simp at g1)];by_cases hA2:A=g.length
 ·subst hA2;rw[Acf (by rw[As,Ac];simp)]at hT;rw[Aan (by rw[Ae,Ac];simp)];by_cases h4:4000<p.length
  ·rw[Acf (by rw[Aq,Ac];simp;omega)]at hT⊢;rw[Am,Aa];simp only;exact⟨_,rfl,rp4 hT⟩
  ·rw[Aan (by rw[Aq,Ac];simp;omega)]at hT⊢;rw[Zn,MB];exact⟨_,rfl,rp4 hT⟩
 ·have hlt:A<g.length:=by omega
  have h5:=g5 g[A] (Aqp hlt);have hsum:=E4 g5 g[A] (Aqp hlt);rw[Aan (by rw[As,Ac];simp;omega),Dn,Fy,Br hlt,Aa]at hT;rw[Acf (by rw[Ae,Ac];simp;omega),Br hlt,Aa,Aa];by_cases hw:(p.length:Int)<g[A]
  ·rw[Acf (by rw[Ae,Ac];simpa using hw)]at hT⊢;rw[Aa]at hT;simp only at hT;rw[Acf (by decide)]at hT;rw[Ajv];exact⟨_,rfl,rp4 hT⟩
  rw[Aan (by rw[Ae,Ac];simpa using hw)]at hT⊢;have RF:=hd.num;have hlt2:A<(Ak (Ag R) N).length:=by omega
  obtain⟨m,hm,m1,m2⟩:=Zz (Em R) RF.2.2.2.2.1 (Aqp hlt2);have hb:Bl w:=by rw[hd.ew];unfold Bl;omega
  obtain⟨xs,e,d1,d2,d3,d4⟩:=TB (bits:=w) (ch:=C) (n:=m) (t:=Na o) (p.take g[A].toNat) hb (Nv o) RF.2.1.1 RF.2.1.2 m1 (by omega);have hnn:=E8 hb (Nv o) RF.2.1.1 RF.2.1.2 m1 (by omega) d2;rw[YL o ho,Aa];simp only;rw[Aan (by decide),hd.E3,Aa];simp only;rw[Aan (by simp[Ah,Ea,Ac];omega),Yz,KV,Br hlt2,Aa,Dk,Aa,Aa,DV,Aa];simp only;rw[hm,d1,Aa];simp only;rw[aS o ho,Aa]at hT;simp only at hT;rw[Dk,Aa,Hn,Aa]at hT;simp only at hT;rw[hd.Afy,Aa,Br hlt2,Aa,Aa,hm]at hT;rw[d2,Aa]at hT;simp only at hT;rw[Gb,Ft]at hT;rw[NF,Zp];by_cases he:e≠0
  ·rw[Acf (by rw[Ah];simpa using he)]at hT⊢;rw[Aa]at hT;simp only at hT;rw[Acf (by rw[Ah];simpa using he)]at hT;rw[Am,Aa];simp only;rw[Ajv];exact⟨_,rfl,(rp4 hT).trans (by rw[lF hnn];rfl)⟩
  ·have he0:e=0:=by simpa using he
   obtain⟨k1,k2,k3⟩:=d3 he0;have hbl:=RA w xs;rw[Aan (by rw[Ah,he0];simp)]at hT⊢;rw[YK hb k2 k1,Aa,Aa]at hT;simp only at hT;rw[Aan (by decide),Bg (by simp;omega),Aa,Auy,Bg,Aa,Aa,Bv,Aa]at hT;rw[lP hb k2 k1,Aa];simp only;rw[Aan (by decide),Bg,Aa,Bv,Aa,Ajv];exact⟨_,rfl,rp4 hT⟩
theorem Afn(a:LI)(b:Int)(ha:a.length<=100):∀(j i q:Nat),i+j=a.length->j<q->∃r,Cb a b q (i:Int)=some r/\Ms r 0=(a.drop i).any λy=>b==y
 |0,i,q+1,hi,_=>by
  refine⟨-1,?_,?_⟩
  ·rw[Cb,Fm,Aan (by rw[Ae,Ac];simp;omega)];rfl
  ·rw[show i=a.length by omega,Beb];rfl
 |j+1,i,q+1,hi,hq=>by
  have hlt:i<a.length:=by omega
  obtain⟨r,h1,h2⟩:=Afn a b ha j (i+1) q (by omega) (by omega);rw[Cb,Fm,Acf (by rw[Ae,Ac];simp;omega),Br hlt,Aa,drop_cons hlt,List.any_cons];by_cases h:b=a[i]
  ·rw[Acf (by rw[As];simpa using h)];refine⟨_,rfl,?_⟩;rw[Ea,Bcx (by omega),h];simp
  ·rw[Aan (by rw[As];simpa using h),Aj];refine⟨r,h1,?_⟩;rw[h2,beq_eq_false_iff_ne.2 h,Bool.false_or]
theorem Ast(v:Int):∃B:Bool,Te v=some B/\AR v=some B:=by
 obtain⟨r,h1,h2⟩:=Afn [4,12,16,22,24,26,38] v (by decide) 7 0 Au rfl (by have:=Ar;omega);refine⟨_,?_,rfl⟩;rw[Te,Im,Kl,Is,Iu];have h1':Cb [4,12,16,22,24,26,38] v Au 0=some r:=h1;rw[h1',Aa,Aa,h2];simp only[Bg4,List.any_cons,List.any_nil,Bool.or_false,As,Bool.or_assoc]
theorem xF(B:Bool):Bw B=some (if B=true then 0 else 8):=by
 rw[Bw,eE];cases B<;>rfl
theorem Axg(a b:LB)(f g h k m:Int)(n:LI)(o:Int)(p:LB)(u:Bool)(v:Int)(hb:b.length<=16000000)(hn:n.length<=16000000)(hp:p.length<=16000000):
  En a b f g h k m n o p u v=some (a,b,f,g,h,k,m,n,o,p,u,v):=by
 rw[En,Nb,Bg (by simp;omega),Aa,Aa,Nb,Bg (by simp;omega),Aa,Aa,Ho,Bg (by simp;omega),Aa,Aa];rfl
theorem ve(o p:LB)(f c w r n:Int)(g:LI)(a:Int)(x:LB)(u:Bool)(v:Int)(hp:p.length<=100000)(hg:g.length<=100000)(hx:x.length<=14000000):
  ∃E,Ph o p f c w r n g a x u v=some E/\Ec o p f c w r n g a x u v=some E:=by
 rw[Ph,BW,Ec];by_cases ho:64<o.length
 ·rw[Acf (by rw[Aq,Ac];simp;omega),Acf (by rw[Aq,Ac];simp;omega)];exact⟨8,rfl,rfl⟩
 have hO:¬(Ef (Ac o) 64=true):=by rw[Aq,Ac];simp;omega
 rw[Aan hO,Aan hO];by_cases hw:(geq v 0&& !u)=true
 ·rw[Acf hw,Acf hw,Axg o p f c w r n g a x u v (by omega) (by omega) (by omega),Aa];simp only;rcases Aie o p f c w r n g a x u v with⟨e1,e2⟩|⟨e1,e2,hd⟩
  ·rw[e1,e2,Aa,Aa,Aan (by decide),Acf (by decide),xF];exact⟨8,rfl,rfl⟩
  ·rw[e1,e2,Aa,Acf rfl];have key:∃B:Bool,Aio o p f c w r n g a x u v=Bw B/\Cv o p f c w r n g a x u v=some B:=by
    cases hd with
    |new e1 e2 e3 e4 e5 e6 e7 e8=>subst e1;exact An9 o p c w r n g a x u v hp
    |head F C W R N h hpw e6 e7 e8=>subst e6;exact Avo h o p (by omega) hp a x u v
    |tab F C W R N A h hpw ht hl ea hA=>subst ea;exact Ap3 h o p (by omega) hp g ht hl A hA x hx u v
   obtain⟨B,k1,k2⟩:=key;rw[k2,Aa];refine⟨if B=true then 0 else 8,k1.trans (xF B),?_⟩;cases B<;>rfl
 ·rw[Aan hw,Aan hw];by_cases hl:(geq (Ac p) 0&&geq (Ac g) 0)=true
  ·rw[Acf hl,Acf hl];generalize(geq f 0&&(geq c 0&&(geq w 0&&(geq r 0&&(geq n 0&&true)))))=z;by_cases hz:((z&&geq a 0)&&I8 (Ac x) 12000)=true
   ·rw[Acf hz];simp only[Ady,TV,Ac,Adx]at hz;obtain⟨⟨z1,z2⟩,z3⟩:=hz;have hN:¬((!(z&&geq a 0)||Ef (Ac x) 12000)=true):=by rw[z1,z2,Aq,Ac];simp;omega
    rw[Aan hN];by_cases hv:v=0
    ·have v1:geq v 0=true:=by rw[As];simpa using hv
     have v2:¬(Bc v 0=true):=by rw[Ah];simpa using hv
     rw[Acf v1,Aan v2,xF];exact⟨0,rfl,rfl⟩
    ·have v1:¬(geq v 0=true):=by rw[As];simpa using hv
     have v2:Bc v 0=true:=by rw[Ah];simpa using hv
     rw[Aan v1,Acf v2];obtain⟨B,k1,k2⟩:=Ast v;rw[k1,k2,Aa,Aa,xF,xF];cases u
     ·refine⟨if B=true then 0 else 8,by simp,?_⟩;cases B<;>rfl
     ·exact⟨8,rfl,rfl⟩
   ·rw[Aan hz,Acf,xF]
    ·exact⟨8,rfl,rfl⟩
    ·simp only[Ady,TV,Ac,Adx]at hz;simp only[Azr,Awi,Aq,Ac,Adx];by_cases hz2:(z&&geq a 0)=true
     ·rw[Ady]at hz2;exact .inr (by have hq:¬((x.length:Int)<=12000):=λh=>hz ⟨hz2,h⟩;omega)
     ·exact .inl (by simpa using hz2)
  ·rw[Aan hl,Aan hl,Aan (by simp),Acf (by simp),xF];exact⟨8,rfl,rfl⟩
def ZM(bk:LB->Int->Int->Int->Int->Int->Int->LI->LB->Ax)(o:LB)(u:Bool)(v:Int):LB->Int->Int->Int->Int->Int->Int->LI->LB->Ax:=
 Jl (Ps bk o u v) (Uo bk o u v) (Mg bk o u v) (Uq bk o u v) (Mm bk o u v) (Pq bk o u v) (Vv bk o u v) (Cr bk o u v) (CA bk o u v) o u v
structure SzD (p:LB) (g:LI) (a:Int) (x:LB):Prop where
 hp:p.length<=100000
 hg:g.length<=1000
 hx:x.length+12000*(g.length-a.toNat)<=13000000
def muD(f:Int)(g:LI)(a:Int):Nat:=if f=0 then 1003 else if g=[]then 1002 else g.length-a.toNat+1
section
variable {bk:LB->Int->Int->Int->Int->Int->Int->LI->LB->Ax} {o p:LB} {f c w r n:Int} {g:LI} {a:Int} {x:LB} {u:Bool} {v:Int}
theorem At4(hp:p.length<=100000)(hg:g.length<=1000)(hx:x.length<=13000000):En o p f c w r n g a x u v=some (o,p,f,c,w,r,n,g,a,x,u,v):=by
 rw[En,Nb,Bg (by simp;omega),Aa,Aa,Nb,Bg (by simp;omega),Aa,Aa,Ho,Bg (by simp;omega),Aa,Aa];rfl
theorem Bdz(h:SzD p g a x)(e:Int):Cr bk o u v p f c w r n a true e g x=some (o,p,f,c,w,r,n,g,a,x,u,v,0):=by
 rw[Cr,OY,Acf rfl,At4 h.hp h.hg (by have:=h.hx;omega),Aa]
theorem Bc0{e:Int}(h:e≠0):Cr bk o u v p f c w r n a false e g x=some (o,[],0,0,0,0,0,[],0,x,false,e,e):=by
 rw[Cr,OY,Aan (by decide),Acf (by rw[Ah];simpa using h)];rfl
inductive StepR (bk:LB->Int->Int->Int->Int->Int->Int->LI->LB->Ax) (o p:LB) (f c w r n:Int) (g:LI) (a:Int) (x:LB) (u:Bool) (v:Int):Prop
 |wait:ZM bk o u v p f c w r n a g x=some (o,p,f,c,w,r,n,g,a,x,u,v,0)->Al o p f c w r n g a x u v=some (o,p,f,c,w,r,n,g,a,x,u,v, -1)->StepR bk o p f c w r n g a x u v
 |err (e:Int) {t1 t2:LB} {t3 t4 t5 t6 t7:Int} {t8:LI} {t9:Int} {t10:LB} {t11:Bool} {t12:Int}:0<e->ZM bk o u v p f c w r n a g x=some (o,[],0,0,0,0,0,[],0,x,false,e,e)->
   Al o p f c w r n g a x u v=some (t1,t2,t3,t4,t5,t6,t7,t8,t9,t10,t11,t12,e)->StepR bk o p f c w r n g a x u v
 |next (p':LB) (f' c' w' r' n':Int) (g':LI) (a':Int) (x':LB):ZM bk o u v p f c w r n a g x=bk p' f' c' w' r' n' a' g' x'->Al o p f c w r n g a x u v=some (o,p',f',c',w',r',n',g',a',x',u,v,0)->
   FitD o f' c' w' r' n' g' a' x'->SzD p' g' a' x'->p'.length<=p.length->muD f' g' a'<muD f g a->StepR bk o p f c w r n g a x u v
theorem f62{d:Bool}{e:Int}:Ps bk o u v a g x d e p f c w r n=Cr bk o u v p f c w r n a d e g x:=rfl
theorem f75{d:Bool}{e:Int}:Mg bk o u v f c w r n a x d e p g=Cr bk o u v p f c w r n a d e g x:=rfl
theorem f78{d:Bool}{e:Int}:Pq bk o u v f c w r n g d e p a x=Cr bk o u v p f c w r n a d e g x:=rfl
theorem mkW(hZ:SzD p g a x)(hF:ZM bk o u v p f c w r n a g x=Cr bk o u v p f c w r n a true 0 g x)(hT:Al o p f c w r n g a x u v=some (o,p,f,c,w,r,n,g,a,x,u,v, -1)):StepR bk o p f c w r n g a x u v:=
 .wait (hF.trans (Bdz hZ 0)) hT
theorem mkE{e:Int}{p2:LB}{f2 c2 w2 r2 n2 a2:Int}{g2:LI}{t1 t2:LB}{t3 t4 t5 t6 t7:Int}{t8:LI}{t9:Int}{t10:LB}{t11:Bool}{t12:Int}(he:0<e)(hF:ZM bk o u v p f c w r n a g x=Cr bk o u v p2 f2 c2 w2 r2 n2 a2 false e g2 x)
  (hT:Al o p f c w r n g a x u v=some (t1,t2,t3,t4,t5,t6,t7,t8,t9,t10,t11,t12,e)):StepR bk o p f c w r n g a x u v:= .err e he (hF.trans (Bc0 (by omega))) hT
theorem HdI.fnz{F C W R N:Nat}(h:HdI f c w r n F C W R N):f≠0:=by
 have:=h.num;rw[h.ef];omega
theorem Asc(hp:p.length<=100000):StepR bk o p 0 0 0 0 0 [] 0 [] u v:=by
 have hZ:SzD p [] 0 []:=⟨hp,by simp,by simp⟩;have hT:Al o p 0 0 0 0 0 [] 0 [] u v=Al o p 0 0 0 0 0 [] 0 [] u v:=rfl
 conv at hT=>rhs;rw[Al,Ca,Acf (by decide),AD p hp,Aa,stS]
 have hF:ZM bk o u v p 0 0 0 0 0 0 [] []=ZM bk o u v p 0 0 0 0 0 0 [] []:=rfl
 conv at hF=>rhs;rw[ZM,Jl,Acf (by decide),Px p (by omega),Aa]
 have hfn:=G3 p;have hrn:=sj (Il p);have hok:=BI (b:=p);simp only at hT hF;by_cases h1:(Bq p).2=24
 ·rw[Acf h1]at hT;simp only at hT;rw[Acf (by decide)]at hT;rw[Acf (by rw[As];simpa using h1)]at hF;exact mkW hZ hF hT
 rw[Aan h1]at hT;rw[Aan (by rw[As];simpa using h1)]at hF;by_cases h2:(Bq p).2≠0
 ·rw[Acf h2]at hT;simp only at hT;rw[Acf (by rw[Ah];simpa using h2)]at hT;rw[Acf (by rw[Ah];simpa using h2),Am,Aa]at hF;exact mkE (by omega) hF hT
 have h0:(Bq p).2=0:=by simpa using h2
 obtain⟨k1,k2,k3⟩:=hok h0;have hl:(Il p).length=p.length-(Bq p).1.toNat:=by rw[Il,Ah5]
 rw[Aan h2]at hT;rw[Aan (by rw[Ah,h0];simp),Bv,Aa,Aa,show p.drop (Bq p).1.toNat=Il p from rfl,Atb,Aa]at hF;by_cases h3:(Pe (Il p) L6||Pe (Il p) Q3)=true
 ·rw[Acf h3]at hT hF;simp only at hT;rw[Acf (by decide)]at hT;exact mkW hZ hF hT
 rw[Aan h3]at hT hF;rw[QJ _ (by omega),Aa]at hF;by_cases h5:(Ek (Il p)).2.2.2.2.2=24
 ·rw[Acf h5]at hT;simp only at hT;rw[Acf (by decide)]at hT;rw[Acf (by rw[As];simpa using h5)]at hF;exact mkW hZ hF hT
 rw[Aan h5]at hT;rw[Aan (by rw[As];simpa using h5)]at hF;simp only at hT;by_cases h6:(Ek (Il p)).2.2.2.2.2≠0
 ·rw[Acf (by rw[Ah];simpa using h6)]at hT hF;rw[Am,Aa]at hF;exact mkE (by have:=hrn;generalize(Ek (Il p)).2.2.2.2.2=z at *;omega) (hF.trans f62) hT
 have h7:(Ek (Il p)).2.2.2.2.2=0:=by simpa using h6
 obtain⟨r1,h22,r3,r4⟩:=rX h7;rw[Aan (by rw[Ah,h7];simp),Bv,Aa,Hh,Hg,Es]at hT;rw[Aan (by rw[Ah,h7];simp),Aj,Bv,Aa,Uo,QV,Qf]at hF;simp only at hT hF;by_cases h8:((o==([]:LB)) !=geq (Ek (Il p)).1 1)=true
 ·rw[Acf h8]at hT hF;rw[Aa]at hT hF;rw[Am,Aa]at hF;simp only at hF;exact mkE (by decide) (hF.trans f62) hT
 ·rw[Aan h8]at hT hF;rw[Aa]at hT hF;rw[Am,Aa]at hF;have hd:HdI (Ek (Il p)).1 (Ek (Il p)).2.1 (Ek (Il p)).2.2.1 (Ek (Il p)).2.2.2.1 (Ek (Il p)).2.2.2.2.1 (f0 (Il p)) (f1 (Il p)) (f2 (Il p)) (f3 (Il p)) (f4 (Il p)):=by
   constructor<;>first|(rw[r1])|assumption
  refine .next _ _ _ _ _ _ [] 0 [] (by exact hF) hT (.head _ _ _ _ _ hd ?_ rfl rfl rfl) ⟨by rw[Ah5];omega,by simp,by simp⟩ (by rw[Ah5];omega) ?_
  ·have e:geq (Ek (Il p)).1 1=decide (f0 (Il p)=1):=by rw[hd.ef,As,Ako];simp;omega
   rw[<-e];simpa using h8
  ·rw[muD,muD,Aan hd.fnz,Acf rfl,Acf rfl];omega
section
variable {F C W R N:Nat} (hd:HdI f c w r n F C W R N)
include hd
theorem Amq(hp:p.length<=100000)(hpw:(o==([]:LB))=decide (F=1))(A:Nat)(hA:A<=p.length)
  (hT:Al o p f c w r n [] 0 [] u v=(Du p f c w r n (A:Int)).bind (λ(ag,ak,w1)=>if(Bc w1 0)then some (o,p,f,c,w,r,n,([]:LI),(0:Int),([]:LB),u,v,w1)else(Bp p ag (Ac p)).bind λal=>some (o,al,f,c,w,r,n,ak,(0:Int),([]:LB),u,v,(0:Int))))
  (hF:ZM bk o u v p f c w r n 0 [] []=Mm bk o u v p f c w r n 0 [] [] (A:Int)):StepR bk o p f c w r n [] 0 [] u v:=by
 have hZ:SzD p [] 0 []:=⟨hp,by simp,by simp⟩;obtain⟨_,t2,t3⟩:=I0 hd o p hp A hA 0 [] u v;have hs:=uL (p.drop A) (Ak (Ag R) N).length (by rw[Ah5];omega);have hnn:=uj (p.drop A) (Ak (Ag R) N).length;have hok:=iA (b:=p.drop A) (n:=(Ak (Ag R) N).length);rw[t2,Aa]at hT;rw[Mm,RC,hd.E3,Aa]at hF;simp only at hF;rw[Aan (by decide),Bv,Aa,Ahe,Ac,hs,Aa]at hF;generalize hz:Ej (p.drop A) (Ak (Ag R) N).length=z at*
 obtain⟨z1,z2⟩:=z;simp only at*
 by_cases h1:z2=24
 ·rw[Acf h1]at hT;simp only at hT;rw[Acf (by decide)]at hT;rw[Acf (by rw[As];simpa using h1)]at hF;exact mkW hZ hF hT
 rw[Aan h1]at hT;rw[Aan (by rw[As];simpa using h1)]at hF;simp only at hT;by_cases h2:z2≠0
 ·rw[Acf (by rw[Ah];simpa using h2)]at hT hF;rw[Am,Aa]at hF;exact mkE (by omega) hF hT
 ·have h0:z2=0:=by simpa using h2
  subst h0;have h3:=t3 rfl;obtain⟨k1,k2,k3,k4,k5,k6⟩:=hok rfl;simp only[Ah7,Bhb]at k1;have hl:z1.length=(Ak (Ag R) N).length:=by rw[k1];exact Vl _ _
  rw[<-k1]at k5 k6;rw[Aan (by decide),Bv,Aa]at hT;rw[Aan (by decide),Ac,vg A z1.length (by omega) (by omega),Bv,Aa]at hF;have hne:z1≠ []:=by intro e;rw[e]at hl;simp at hl;omega
  refine .next _ _ _ _ _ _ z1 0 [] (by exact hF) hT (.tab _ _ _ _ _ 0 hd hpw ?_ hl rfl (by omega)) ⟨by rw[Ah5];omega,by omega,by simp;omega⟩ (by rw[Ah5];omega) ?_
  ·rw[Vt,Ady,Adx,EU z1 100000 (by omega)];exact⟨by omega,k5,k6⟩
  ·rw[muD,muD,Aan hd.fnz,Aan hd.fnz,Acf rfl,Aan hne];simp;omega
theorem Apk(ho:o.length<=64)(hp:p.length<=100000)(hpw:(o==([]:LB))=decide (F=1)):StepR bk o p f c w r n [] 0 [] u v:=by
 have hZ:SzD p [] 0 []:=⟨hp,by simp,by simp⟩;have hT:Al o p f c w r n [] 0 [] u v=Al o p f c w r n [] 0 [] u v:=rfl
 conv at hT=>rhs;rw[Al,Ca,Aan hd.ne0,Cq,Cn,Acf (by decide),Ff,Hy]
 have hF:ZM bk o u v p f c w r n 0 [] []=ZM bk o u v p f c w r n 0 [] []:=rfl
 conv at hF=>rhs;rw[ZM,Jl,Aan hd.ne0,Acf (by decide)]
 by_cases h2:geq f 2=true
 ·rw[Acf h2]at hT hF;by_cases h8:p.length<8
  ·rw[Acf (by rw[Ae,Ac];simp;omega)]at hT hF;rw[Aa]at hT;simp only at hT;rw[Acf (by decide)]at hT;exact mkW hZ hF hT
  ·rw[Aan (by rw[Ae,Ac];simp;omega)]at hT hF;have h8':(p.take 8).length=8:=by rw[Ahn];omega
   rw[Dk,Aa,gM o ho,Aa]at hT;rw[Uq,PG,Dk,Aa,show(8:Int).toNat=8 from rfl,yV h8' ho,Aa]at hF;rw[show(8:Int).toNat=8 from rfl]at hT;simp only at hF;rw[OW,QU,Aan (by decide)]at hF;by_cases he:(p.take 8==Sk (Uk o).toNat 8)=true
   ·rw[Aan (by rw[bne,he];decide)]at hT;rw[Aan (by rw[he];decide)]at hF;exact Amq hd hp hpw 8 (by omega) hT hF
   ·have he':(p.take 8==Sk (Uk o).toNat 8)=false:=by simpa using he
    rw[Acf (by rw[bne,he'];decide),Aa]at hT;simp only at hT;rw[Acf (by decide)]at hT;rw[Acf (by rw[he'];decide),Am,Aa]at hF;simp only at hF;exact mkE (by decide) (hF.trans f75) hT
 ·rw[Aan h2]at hT hF;exact Amq hd hp hpw 0 (by omega) hT hF
theorem Aue(ho:o.length<=64)(hpw:(o==([]:LB))=decide (F=1))(hg:Vt g=true)(hl:g.length=(Ak (Ag R) N).length)(A:Nat)(hA:A<=g.length)(hZ:SzD p g (A:Int) x):StepR bk o p f c w r n g (A:Int) x u v:=by
 have hp:=hZ.hp;have hx:=hZ.hx;have hc:=hd.ec;subst hc;have hg':=hg;rw[Vt,Ady,Adx,EU g 100000 (by omega)]at hg';obtain⟨⟨g1,g2⟩,g5,g6⟩:=hg';have hgn:¬(geq (Ac g) 0=true):=by rw[As,Ac];simp;intro e;subst e;simp at g1
 have hT:Al o p f (C:Int) w r n g (A:Int) x u v=Al o p f (C:Int) w r n g (A:Int) x u v:=rfl
 conv at hT=>rhs;rw[Al,Ca,Aan hd.ne0,Cq,Cn,Aan hgn]
 have hF:ZM bk o u v p f (C:Int) w r n (A:Int) g x=ZM bk o u v p f (C:Int) w r n (A:Int) g x:=rfl
 conv at hF=>rhs;rw[ZM,Jl,Aan hd.ne0,Aan hgn]
 by_cases hA2:A=g.length
 ·subst hA2;rw[Acf (by rw[As,Ac];simp)]at hT;rw[Aan (by rw[Ae,Ac];simp)]at hF;by_cases h4:4000<p.length
  ·rw[Acf (by rw[Aq,Ac];simp;omega)]at hT hF;rw[Am,Aa]at hF;exact mkE (by decide) hF hT
  ·rw[Aan (by rw[Aq,Ac];simp;omega)]at hT hF;exact mkW hZ hF hT
 ·have hlt:A<g.length:=by omega
  have h5:=g5 g[A] (Aqp hlt);have hsum:=E4 g5 g[A] (Aqp hlt);rw[Aan (by rw[As,Ac];simp;omega),Dn,Fy,Br hlt,Aa]at hT;rw[Acf (by rw[Ae,Ac];simp;omega),Br hlt,Aa,Aa]at hF;by_cases hw:(p.length:Int)<g[A]
  ·rw[Acf (by rw[Ae,Ac];simpa using hw)]at hT hF;rw[Aa]at hT;simp only at hT;rw[Acf (by decide)]at hT;exact mkW hZ hF hT
  rw[Aan (by rw[Ae,Ac];simpa using hw)]at hT hF;have RF:=hd.num;have hlt2:A<(Ak (Ag R) N).length:=by omega
  obtain⟨m,hm,m1,m2⟩:=Zz (Em R) RF.2.2.2.2.1 (Aqp hlt2);have hb:Bl w:=by rw[hd.ew];unfold Bl;omega
  obtain⟨xs,e,d1,d2,d3,d4⟩:=TB (bits:=w) (ch:=C) (n:=m) (t:=Na o) (p.take g[A].toNat) hb (Nv o) RF.2.1.1 RF.2.1.2 m1 (by omega);have hnn:=E8 hb (Nv o) RF.2.1.1 RF.2.1.2 m1 (by omega) d2;rw[YL o ho,Aa]at hF;simp only at hF;rw[Aan (by decide),hd.E3,Aa]at hF;simp only at hF;rw[Aan (by simp[Ah,Ea,Ac];omega),Vv,PF,Br hlt2,Aa,Dk,Aa,Aa,DV,Aa]at hF;simp only at hF;rw[hm,d1,Aa]at hF;simp only at hF;rw[aS o ho,Aa]at hT;simp only at hT;rw[Dk,Aa,Hn,Aa]at hT;simp only at hT;rw[hd.Afy,Aa,Br hlt2,Aa,Aa,hm]at hT;rw[d2,Aa]at hT;simp only at hT;rw[Gb,Ft]at hT;rw[PZ,BU]at hF;by_cases he:e≠0
  ·rw[Acf (by rw[Ah];simpa using he)]at hT hF;rw[Aa]at hT;simp only at hT;rw[Acf (by rw[Ah];simpa using he)]at hT;rw[Am,Aa]at hF;exact mkE (by omega) hF hT
  ·have he0:e=0:=by simpa using he
   obtain⟨k1,k2,k3⟩:=d3 he0;have hbl:=RA w xs;have ht:((A:Int)).toNat=A:=rfl;rw[ht]at hx;rw[Aan (by rw[Ah,he0];simp)]at hT hF;rw[YK hb k2 k1,Aa,Aa]at hT;simp only at hT;rw[Aan (by decide),Bg (by simp;omega),Aa,Auy,Bg,Aa,Aa,Bv,Aa,Aj]at hT;rw[lP hb k2 k1,Aa]at hF;simp only at hF;rw[Aan (by decide),Bg,Aa,Bv,Aa,Aj]at hF;have e1:((A:Int)+1).toNat=A+1:=rfl;refine .next _ _ _ _ _ _ _ _ _ (by exact hF) hT (.tab _ _ _ _ _ (A+1) hd hpw hg hl rfl (by omega)) ⟨by rw[Ah5];omega,hZ.hg,by rw[e1,Adl];omega⟩ (by rw[Ah5];omega) ?_
   have hne:g≠ []:=by intro e;subst e;simp at g1
   rw[muD,muD,Aan hd.fnz,Aan hd.fnz,Aan hne,Aan hne,e1,ht];omega
end
theorem kv(hf:FitD o f c w r n g a x)(ho:o.length<=64)(hZ:SzD p g a x):StepR bk o p f c w r n g a x u v:=by
 cases hf with
 |new e1 e2 e3 e4 e5 e6 e7 e8=>subst e1 e2 e3 e4 e5 e6 e7 e8;exact Asc hZ.hp
 |head F C W R N h hpw e6 e7 e8=>subst e6 e7 e8;exact Apk h ho hZ.hp hpw
 |tab F C W R N A h hpw ht hl ea hA=>subst ea;exact Aue h ho hpw ht hl A hA hZ
end
abbrev Bc7:=LB×LB×Int×Int×Int×Int×Int×LI×Int×LB×Bool×Int×Int
theorem Aui:∀(j:Nat) (b:LB) (a:Nat),(Acw j b a).2=0\/ (Acw j b a).2=38
 |0,_,_=> .inr rfl
 |j+1,b,a=>by
  rw[Acw];split
  ·exact .inl rfl
  ·split
   ·exact .inr rfl
   ·exact Aui j _ _
theorem Aah(b:LB):(Ww b).2=0\/ (Ww b).2=38:=by
 rw[Ww];split
 ·exact .inr rfl
 ·exact Aui _ _ _
theorem bE{o p:LB}{f c w r n:Int}{g:LI}{a:Int}{x:LB}{u:Bool}{v:Int}(hp:p.length<=100000)(hg:g.length<=2000)(hx:x.length<=13000000):Zc o p f c w r n g a x u v=some (o,p,f,c,w,r,n,g,a,x,u,v):=by
 rw[Zc,SA,Bg (by simp;omega),Aa,Bg (by simp;omega),Aa,SW,SR,Bg (by simp;omega),Aa];rfl
theorem Aor{o p:LB}{f c w r n:Int}{g:LI}{a:Int}{x:LB}{u:Bool}{v:Int}(hp:p.length<=100000)(hg:g.length<=2000)(hx:x.length<=13000000):En o p f c w r n g a x u v=some (o,p,f,c,w,r,n,g,a,x,u,v):=by
 rw[En,Nb,Bg (by simp;omega),Aa,Aa,Nb,Bg (by simp;omega),Aa,Aa,Ho,Bg (by simp;omega),Aa,Aa];rfl
theorem wX{o p:LB}{f c w r n:Int}{g:LI}{a:Int}{x:LB}{u:Bool}{v e:Int}(hx:x.length<=13000000):DN o p f c w r n g a x u v e=some (o,[],0,0,0,0,0,[],0,x,false,e,e):=by
 rw[DN,eC,Bg (by simp;omega),Aa];rfl
theorem Ato{p:LB}{f:Int}{g:LI}{a:Int}{x:LB}(h:SzD p g a x):muD f g a<1004:=by
 have:=h.hg;unfold muD;split
 ·omega
 ·split<;>omega
section
variable {o p:LB} {f c w r n:Int} {g:LI} {a:Int} {x:LB} {u:Bool} {v:Int} (hp:p.length<=20000) (hg:g.length<=2000) (hx:x.length<=13000000)
include hp hg hx
theorem qS{E:Int}(hE:Ph o p f c w r n g a x u v=some E):Tn o p f c w r n g a x u v=if E≠0 then some ([],[],0,0,0,0,0,[],0,[],false,0,E)else some (o,p,f,c,w,r,n,g,a,x,u,v,if v≠0 then v else if u=true then 36 else 0):=by
 rw[Tn,hE,Aa];by_cases h:E≠0
 ·rw[Acf (by rw[Ah];simpa using h),Acf h]
 rw[Aan (by rw[Ah];simpa using h),Aan h,Aor (by omega) hg (by omega)];by_cases hv:v≠0
 ·rw[Acf (by rw[Ah];simpa using hv),Acf hv,Aa]
 ·rw[Aan (by rw[Ah];simpa using hv),Aan hv];cases u<;>simp[Aa]
omit hg hx in
theorem N1:∃e,JP o p f c w r n g a x u v=some e/\Cy o p f c w r n g a x u v=some e:=by
 rw[JP,Cy];by_cases h0:geq f 0=true
 ·rw[Acf h0,Acf h0,Px p (by omega),BT p (by omega),Aa,Aa];have hok:=BI (b:=p);simp only;by_cases h2:(Bq p).2≠0
  ·rw[Acf (by rw[Ah];simpa using h2),Acf (by rw[Ah];simpa using h2)];exact⟨_,rfl,rfl⟩
  have h3:(Bq p).2=0:=by simpa using h2
  obtain⟨k1,k2,k3⟩:=hok h3;have hl:(Il p).length<=p.length:=by rw[Il,Ah5];omega
  rw[Aan (by rw[Ah,h3];simp),Aan (by rw[Ah,h3];simp),Bv,Aa,Aa,show p.drop (Bq p).1.toNat=Il p from rfl,QJ _ (by omega),gY _ (by omega),Aa];exact⟨_,rfl,rfl⟩
 ·rw[Aan h0,Aan h0,Bool.or_comm];by_cases h1:(geq (Ac g) 0||Cj a (Ac g))=true
  ·rw[Acf h1,Acf h1];exact⟨_,rfl,rfl⟩
  ·rw[Aan h1,Aan h1,O0 p (by omega),xY p (by omega),Aa,Aa];simp only;refine⟨(Ww p).2,rfl,?_⟩;rcases Aah p with h|h
   ·rw[Aan (by rw[h];decide),h]
   ·rw[Acf (by rw[h];decide),h]
end
theorem dC{α β:Type}{o:Option α}{f:α->Option β}{r:β}(h:Option.bind o f=some r):∃x,o=some x/\f x=some r:=by
 cases o with
 |none=>cases h
 |some x=>exact⟨x,rfl,h⟩
theorem Au3{α:Type}{l:List α}{i:Int}{x:α}(h:Go.Lv.Ap l i=some x):x∈l:=by
 unfold Go.Lv.Ap at h;split at h
 ·exact List.mem_of_getElem? h
 ·cases h
theorem qm{o p:LB}(q:LB){f c w r n:Int}{g:LI}{a:Int}{x:LB}{u:Bool}{v:Int}{y:LB}{e:Int}(hg:∀z∈g,0<=z)(h:Dn o p f c w r n g a x u v=some (y,e))(he:e≠ -1):Dn o (p++q) f c w r n g a x u v=some (y,e):=by
 rw[Dn,Fy]at h⊢;obtain⟨l,hl,h⟩:=dC h;have hl0:=hg l (Au3 hl);rw[hl,Aa];by_cases hc:(p.length:Int)<l
 ·rw[Acf (by rw[Ae,Ac];simpa using hc)]at h;cases h;exact absurd rfl he
 ·have hc':¬(Cj (Ac (p++q)) l=true):=by rw[Ae,Ac,Adl];simp;omega
  rw[Aan (by rw[Ae,Ac];simpa using hc)]at h;rw[Aan hc',Dk hl0 (by rw[Adl];omega),Oj (by omega)];rw[Dk hl0]at h;simpa only[Gb,Ft]using h
theorem Aht{f c w r n:Int}{F C W R N:Nat}(hd:HdI f c w r n F C W R N){p:LB}(q:LB)(hp:(p++q).length<=100000){A:Nat}(hA:A<=p.length){k:Int}{l:LI}{e:Int}(h:Du p f c w r n (A:Int)=some (k,l,e))(he:e≠ -1):
  Du (p++q) f c w r n (A:Int)=some (k,l,e)/\ (e=0->0<=k/\k<=p.length):=by
 have hp':p.length<=100000:=by rw[Adl]at hp;omega
 obtain⟨_,t2,t3⟩:=I0 hd [] p hp' A hA 0 [] false 0;obtain⟨_,s2,_⟩:=I0 hd [] (p++q) hp A (by rw[Adl];omega) 0 [] false 0;rw[t2]at h;rw[s2,Ay3 hA];by_cases h1:(Ej (p.drop A) (Ak (Ag R) N).length).2=24
 ·rw[Acf h1]at h;cases h;exact absurd rfl he
 ·rw[Aan h1]at h;rw[Apq q _ h1,Aan h1];refine⟨h,λe0=>?_⟩;cases h;have:=t3 e0;constructor
  ·omega
  ·exact this
theorem oh{f c w r n:Int}{F C W R N:Nat}(hd:HdI f c w r n F C W R N){o p:LB}(q:LB)(hp:(p++q).length<=100000){k:Int}{l:LI}{e:Int}(h:Ff p f c w r n o=some (k,l,e))(he:e≠ -1):
  Ff (p++q) f c w r n o=some (k,l,e)/\ (e=0->0<=k/\k<=p.length):=by
 rw[Ff,Hy]at h⊢;by_cases hf:geq f 2=true
 ·rw[Acf hf]at h⊢;by_cases h8:p.length<8
  ·rw[Acf (by rw[Ae,Ac];simp;omega)]at h;cases h;exact absurd rfl he
  ·have n1:¬(Cj (Ac p) 8=true):=by rw[Ae,Ac];simp;omega
   have n2:¬(Cj (Ac (p++q)) 8=true):=by rw[Ae,Ac,Adl];simp;omega
   rw[Aan n1,Dk (by decide),Aa]at h;rw[Aan n2,Dk (by decide) (by rw[Adl];omega),Aa,Oj (show(8:Int).toNat<=p.length from by simp;omega)];obtain⟨y,hy,h⟩:=dC h;rw[hy,Aa];by_cases hm:(p.take (8:Int).toNat !=y)=true
   ·rw[Acf hm]at h⊢;cases h;exact⟨rfl,λe=>by cases e⟩
   ·rw[Aan hm]at h⊢;exact Aht hd q hp (A:=8) (by omega) h he
 ·rw[Aan hf]at h⊢;exact Aht hd q hp (A:=0) (by omega) h he
theorem mL{p q af:LB}{n:Int}(h:Bp p n (Ac p)=some af):Bp (p++q) n (Ac (p++q))=some (af++q):=by
 unfold Bp Ac at h⊢;split at h
 ·rename_i hc;cases h;rw[Acf ⟨hc.1,by rw[Adl];omega,by omega⟩];simp only[Ahe,Azd];rw[Ay3 (by omega)]
 ·cases h
theorem qR{o p:LB}(q:LB){f c w r n:Int}{g:LI}{a:Int}{x:LB}{u:Bool}{v:Int}(hf:FitD o f c w r n g a x)(hp:(p++q).length<=100000){t1 t2:LB}{t3 t4 t5 t6 t7:Int}{t8:LI}{t9:Int}{t10:LB}{t11:Bool}{t12 e:Int}
  (h:Al o p f c w r n g a x u v=some (t1,t2,t3,t4,t5,t6,t7,t8,t9,t10,t11,t12,e)) (he:e≠ -1):
  (e=0->Al o (p++q) f c w r n g a x u v=some (t1,t2++q,t3,t4,t5,t6,t7,t8,t9,t10,t11,t12,0))/\
  (e≠0->∃(s1 s2:LB) (s3 s4 s5 s6 s7:Int) (s8:LI) (s9:Int) (s10:LB) (s11:Bool) (s12:Int),Al o (p++q) f c w r n g a x u v=some (s1,s2,s3,s4,s5,s6,s7,s8,s9,s10,s11,s12,e)):=by
 have hp':p.length<=100000:=by rw[Adl]at hp;omega
 have zero:¬(Bc (0:Int) 0=true):=by decide
 rw[Al,Ca]at h⊢;cases hf with
 |new e1 e2 e3 e4 e5 e6 e7 e8=>
  subst e1;rw[Acf (by decide),AD p hp',Aa]at h;rw[Acf (by decide),AD (p++q) hp,Aa];have hst:(stS p).2.2.2.2.2.2≠ -1->stS (p++q)=stS p:=Awc q;generalize stS p=z at h hst;obtain⟨z1,z2,z3,z4,z5,z6,z7⟩:=z;simp only at h hst;by_cases hz:Bc z7 0=true
  ·rw[Acf hz]at h;simp only[Ad0,Ah7]at h;obtain⟨-, -, -, -, -, -, -, -, -, -, -, -,rfl⟩:=h;rw[hst he];simp only;rw[Acf hz];refine⟨λe0=>?_,λ_=>⟨_,_,_,_,_,_,_,_,_,_,_,_,rfl⟩⟩;rw[e0]at hz;exact absurd hz zero
  ·rw[Aan hz]at h;have z70:z7=0:=by rw[Ah]at hz;simpa using hz
   rw[hst (by rw[z70];decide)];simp only;rw[Aan hz];obtain⟨af,h1,h⟩:=dC h;rw[mL h1,Aa];rw[Hh,Hg]at h⊢;obtain⟨aw,h2,h⟩:=dC h;rw[h2,Aa];simp only[Ad0,Ah7]at h;obtain⟨rfl,rfl,rfl,rfl,rfl,rfl,rfl,rfl,rfl,rfl,rfl,rfl,rfl⟩:=h;exact⟨λe0=>by rw[e0],λ_=>⟨_,_,_,_,_,_,_,_,_,_,_,_,rfl⟩⟩
 |head F C W R N hd hpw e6 e7 e8=>
  subst e6;have hfn:¬(geq f 0=true):=by rw[As];simpa using hd.fnz
  rw[Aan hfn,Cq,Cn,Acf (by decide)]at h⊢;obtain⟨⟨k,l,e1⟩,h1,h⟩:=dC h;simp only at h;by_cases hz:Bc e1 0=true
  ·rw[Acf hz]at h;simp only[Ad0,Ah7]at h;obtain⟨-, -, -, -, -, -, -, -, -, -, -, -,rfl⟩:=h;rw[(oh hd q hp h1 he).1,Aa];simp only;rw[Acf hz];refine⟨λe0=>?_,λ_=>⟨_,_,_,_,_,_,_,_,_,_,_,_,rfl⟩⟩;rw[e0]at hz;exact absurd hz zero
  ·rw[Aan hz]at h;have z70:e1=0:=by rw[Ah]at hz;simpa using hz
   rw[(oh hd q hp h1 (by rw[z70];decide)).1,Aa];simp only;rw[Aan hz];obtain⟨af,h2,h⟩:=dC h;rw[mL h2,Aa];simp only[Ad0,Ah7]at h;obtain⟨rfl,rfl,rfl,rfl,rfl,rfl,rfl,rfl,rfl,rfl,rfl,rfl,rfl⟩:=h;exact⟨λe0=>rfl,λe0=>absurd rfl e0⟩
 |tab F C W R N A hd hpw ht hl ea hA=>
  have hfn:¬(geq f 0=true):=by rw[As];simpa using hd.fnz
  have ht':=ht;rw[Vt,Ady,Adx]at ht';have hgl:¬(geq (Ac g) 0=true):=by
   intro e;rw[As,Ac]at e;have hl1:=ht'.1.1;simp only[Avz,Adx]at e;omega
  rw[Aan hfn,Cq,Cn,Aan hgl]at h⊢;by_cases hend:geq a (Ac g)=true
  ·rw[Acf hend]at h⊢;by_cases hm:Ef (Ac p) 4000=true
   ·have hm':Ef (Ac (p++q)) 4000=true:=by rw[Aq,Ac]at hm⊢;simp only[Adx]at hm⊢;rw[Adl];omega
    rw[Acf hm]at h;rw[Acf hm'];simp only[Ad0,Ah7]at h;obtain⟨-, -, -, -, -, -, -, -, -, -, -, -,rfl⟩:=h;exact⟨(λe0=>by cases e0),λ_=>⟨_,_,_,_,_,_,_,_,_,_,_,_,rfl⟩⟩
   ·rw[Aan hm]at h;simp only[Ad0,Ah7]at h;obtain⟨-, -, -, -, -, -, -, -, -, -, -, -,rfl⟩:=h;exact absurd rfl he
  ·rw[Aan hend]at h⊢;have hpos:∀z∈g,0<=z:=by
    have:=(EU g 100000 (by omega)).1 ht'.2;intro z hz;have:=this.1 z hz;omega
   obtain⟨⟨y,e1⟩,h1,h⟩:=dC h;simp only at h;by_cases hz:Bc e1 0=true
   ·rw[Acf hz]at h;simp only[Ad0,Ah7]at h;obtain⟨-, -, -, -, -, -, -, -, -, -, -, -,rfl⟩:=h;rw[qm q hpos h1 he,Aa];simp only;rw[Acf hz];refine⟨λe0=>?_,λ_=>⟨_,_,_,_,_,_,_,_,_,_,_,_,rfl⟩⟩;rw[e0]at hz;exact absurd hz zero
   ·rw[Aan hz]at h;have z70:e1=0:=by rw[Ah]at hz;simpa using hz
    rw[qm q hpos h1 (by rw[z70];decide),Aa];simp only;rw[Aan hz];obtain⟨an,h2,h⟩:=dC h;rw[h2,Aa];obtain⟨ah,h3,h⟩:=dC h;rw[h3,Aa];obtain⟨ad,h4,h⟩:=dC h;rw[h4,Aa];obtain⟨ae,h5,h⟩:=dC h;rw[mL h5,Aa];simp only[Ad0,Ah7]at h;obtain⟨rfl,rfl,rfl,rfl,rfl,rfl,rfl,rfl,rfl,rfl,rfl,rfl,rfl⟩:=h;exact⟨λe0=>rfl,λe0=>absurd rfl e0⟩
def Bdt(o:LB)(K:Nat)(u:Bool)(v:Int)(X Y:Option Bc7):Prop:=∃(t1 t2:LB) (t3 t4 t5 t6 t7:Int) (t8:LI) (t9:Int) (t10:LB) (t11:Bool) (t12 e:Int),X=some (t1,t2,t3,t4,t5,t6,t7,t8,t9,t10,t11,t12,e)/\Y=some (t1,t2,t3,t4,t5,t6,t7,t8,t9,t10,t11,t12,e)/\t10.length<=13000000/\
 (e=0->t1=o/\t2.length<=K/\FitD o t3 t4 t5 t6 t7 t8 t9 t10/\SzD t2 t8 t9 t10/\t11=u/\t12=v)
theorem ou(K:Nat):∀(k q1 q2:Nat) (o p:LB) (f c w r n:Int) (g:LI) (a:Int) (x:LB) (u:Bool) (v:Int),FitD o f c w r n g a x->o.length<=64->SzD p g a x->p.length<=K->muD f g a<k->k<=q1->k<=q2->
  Bdt o K u v (Bd o u v q1 p f c w r n a g x) (Bk q2 o p f c w r n g a x u v)
 |0,_,_,_,_,_,_,_,_,_,_,_,_,_,_,_,_,_,_,h,_,_=>by omega
 |k+1,q1,q2,o,p,f,c,w,r,n,g,a,x,u,v,hf,ho,hZ,hK,hm,h1,h2=>by
  obtain⟨q1,rfl⟩:∃q,q1=q+1:=⟨q1-1,by omega⟩;obtain⟨q2,rfl⟩:∃q,q2=q+1:=⟨q2-1,by omega⟩;have hx:x.length<=13000000:=by have:=hZ.hx;omega
  rw[Bd,Bk,Cp];have hS:StepR (Bd o u v q1) o p f c w r n g a x u v:=kv hf ho hZ;cases hS with
  |wait hF hT=>
   rw[hT,Aa];simp only;rw[Acf (by decide),bE hZ.hp (by have:=hZ.hg;omega) hx,Aa];exact⟨_,_,_,_,_,_,_,_,_,_,_,_,_,hF,rfl,hx,λ_=>⟨rfl,hK,hf,hZ,rfl,rfl⟩⟩
  |err e he hF hT=>
   rw[hT,Aa];simp only;rw[Aan (by rw[lF (by omega)];decide),Acf (by rw[Ah];simp;omega),wX hx,Aa];exact⟨_,_,_,_,_,_,_,_,_,_,_,_,_,hF,rfl,hx,λh=>absurd h (by omega)⟩
  |next p' f' c' w' r' n' g' a' x' hF hT hf' hZ' hle hmu=>
   rw[hT,Aa];simp only;rw[Aan (by decide),Aan (by decide)];have ih:=ou K k q1 q2 o p' f' c' w' r' n' g' a' x' u v hf' ho hZ' (by omega) (by omega) (by omega) (by omega);have hF':Jl (Ps (Bd o u v q1) o u v) (Uo (Bd o u v q1) o u v) (Mg (Bd o u v q1) o u v) (Uq (Bd o u v q1) o u v) (Mm (Bd o u v q1) o u v) (Pq (Bd o u v q1) o u v) (Vv (Bd o u v q1) o u v) (Cr (Bd o u v q1) o u v) (CA (Bd o u v q1) o u v) o u v p f c w r n a g x=Bd o u v q1 p' f' c' w' r' n' a' g' x':=hF;rw[hF'];exact ih
theorem Bdr{o p:LB}{f c w r n:Int}{g:LI}{a:Int}{x:LB}(ho:o.length<=64)(hf:FitD o f c w r n g a x)(hZ:SzD p g a x)(b:LB)(hp:p.length<=20000)(hb:b.length<=20000):
  Bdt o (p.length+b.length) false 0 (Mq o p f c w r n g a x false 0 b) (Kh o p f c w r n g a x false 0 b):=by
 have hx:x.length<=13000000:=by have:=hZ.hx;omega
 have hg:g.length<=2000:=by have:=hZ.hg;omega
 obtain⟨E,e1,e2⟩:=ve o p f c w r n g a x false 0 (by omega) (by omega) (by omega);rw[Mq,Xn,qS hp hg hx e1,Kh,Sc,e2,Aa];by_cases h:E≠0
 ·rw[Acf h,Aa,Acf (by rw[Ah];simpa using h)];simp only;rw[Acf (by rw[Ah];simpa using h)];exact⟨_,_,_,_,_,_,_,_,_,_,_,_,_,rfl,rfl,by simp,λh'=>absurd h' h⟩
 have h0:E=0:=by simpa using h
 subst h0;have hE:¬(Bc (0:Int) 0=true):=by decide
 rw[Aan h,Aa,Aan hE,bE (by omega) hg (by omega),Aa];simp only;have hF:¬(false=true):=by decide
 rw[Sa,Aan (show ¬((0:Int)≠0)from λh=>h rfl),Aan hF]
 repeat (first|rw[Aa]|rw[Aan hE]|rw[Aan hF])
 rw[Bg];rw[Aa,Aa];have hZ':SzD (p++b) g a x:=⟨by rw[Adl];omega,hZ.hg,hZ.hx⟩;exact ou _ 1004 Au Au o (p++b) f c w r n g a x false 0 hf ho hZ' (by rw[Adl];exact Ao7 _) (Ato hZ') (by have:=Ar;omega) (by have:=Ar;omega)
def OutB(f c w r n:Int)(g:LI)(a:Int)(x:LB):Prop:=∀(F C W R N A:Nat),HdI f c w r n F C W R N->g≠ []->a=(A:Int)-> (x.length:Int)<=HT C W (Ak (Ag R) N) A
theorem OutB.nil{f c w r n:Int}{a:Int}{x:LB}:OutB f c w r n [] a x:=λ_ _ _ _ _ _ _ h=>absurd rfl h
theorem OutB.zero{f c w r n:Int}{g:LI}:OutB f c w r n g 0 []:=λF C W R N A h hg ha=>by
 obtain rfl:A=0:=by omega
 rw[Ajh];simp
theorem Ake{o p:LB}{f c w r n:Int}{F C W R N:Nat}(hd:HdI f c w r n F C W R N)(ho:o.length<=64)(hp:p.length<=100000){g:LI}(ht:Vt g=true)(hl:g.length=(Ak (Ag R) N).length){A:Nat}(hA:A<g.length){x:LB}{u:Bool}{v:Int}{y:LB}{e:Int}
  (h:Dn o p f c w r n g (A:Int) x u v=some (y,e)) (he:e=0):∃m:Nat,(Ak (Ag R) N)[A]'(by omega)=(m:Int)/\y.length=m*C*wB (W:Int):=by
 subst he;have hlt2:A<(Ak (Ag R) N).length:=by omega
 have RF:=hd.num;rw[Vt,Ady,Adx,EU g 100000 (by omega)]at ht;obtain⟨ht1,g5,gs⟩:=ht;have h5:=g5 g[A] (Aqp hA);rw[Dn,Fy,Br hA,Aa]at h;by_cases hw:(p.length:Int)<g[A]
 ·rw[Acf (by rw[Ae,Ac];simpa using hw)]at h;cases h
 rw[Aan (by rw[Ae,Ac];simpa using hw)]at h;obtain⟨m,hm,m1,m2⟩:=Zz (Em R) RF.2.2.2.2.1 (Aqp hlt2);have hb:Bl w:=by rw[hd.ew];unfold Bl;omega
 obtain⟨xs,e,d1,d2,d3,d4⟩:=TB (bits:=w) (ch:=C) (n:=m) (t:=Na o) (p.take g[A].toNat) hb (Nv o) RF.2.1.1 RF.2.1.2 m1 (by omega);rw[aS o ho,Aa]at h;simp only at h;rw[Dk,Aa,Hn,Aa]at h;simp only at h;rw[hd.Afy,Aa,Br hlt2,Aa,Aa,hm,hd.ec]at h;rw[d2,Aa]at h;simp only at h;rw[Gb,Ft]at h;by_cases he:e≠0
 ·rw[Acf (by rw[Ah];simpa using he)]at h;cases h;exact absurd rfl he
 ·have he0:e=0:=by simpa using he
  obtain⟨k1,k2,k3⟩:=d3 he0;rw[Aan (by rw[Ah,he0];simp),YK hb k2 k1,Aa]at h;cases h;refine⟨m,hm,?_⟩;rw[SH hb,k3,hd.ew]
theorem At6{o p:LB}{f c w r n:Int}{g:LI}{a:Int}{x:LB}{u:Bool}{v:Int}(hf:FitD o f c w r n g a x)(ho:o.length<=64)(hZ:SzD p g a x)(hO:OutB f c w r n g a x){t1 t2:LB}{t3 t4 t5 t6 t7:Int}{t8:LI}{t9:Int}{t10:LB}{t11:Bool}{t12:Int}
  (h:Al o p f c w r n g a x u v=some (t1,t2,t3,t4,t5,t6,t7,t8,t9,t10,t11,t12,0)):OutB t3 t4 t5 t6 t7 t8 t9 t10:=by
 have hp':=hZ.hp;have zero:¬(Bc (0:Int) 0=true):=by decide
 rw[Al,Ca]at h;cases hf with
 |new e1 e2 e3 e4 e5 e6 e7 e8=>
  subst e1 e6 e7 e8;rw[Acf (by decide),AD p hp',Aa]at h;generalize stS p=z at h;obtain⟨z1,z2,z3,z4,z5,z6,z7⟩:=z;simp only at h;by_cases hz:Bc z7 0=true
  ·rw[Acf hz]at h;simp only[Ad0,Ah7]at h;obtain⟨-, -, -, -, -, -, -,rfl, -⟩:=h;exact OutB.nil
  ·rw[Aan hz]at h;obtain⟨af,h1,h⟩:=dC h;rw[Hh,Hg]at h;obtain⟨aw,h2,h⟩:=dC h;simp only[Ad0,Ah7]at h;obtain⟨-, -, -, -, -, -, -,rfl, -⟩:=h;exact OutB.nil
 |head F C W R N hd hpw e6 e7 e8=>
  subst e6 e7 e8;have hfn:¬(geq f 0=true):=by rw[As];simpa using hd.fnz
  rw[Aan hfn,Cq,Cn,Acf (by decide)]at h;obtain⟨⟨k,l,e1⟩,h1,h⟩:=dC h;simp only at h;by_cases hz:Bc e1 0=true
  ·rw[Acf hz]at h;simp only[Ad0,Ah7]at h;obtain⟨-, -, -, -, -, -, -,rfl, -⟩:=h;exact OutB.nil
  ·rw[Aan hz]at h;obtain⟨af,h2,h⟩:=dC h;simp only[Ad0,Ah7]at h;obtain⟨-, -, -, -, -, -, -, -,rfl,rfl, -⟩:=h;exact OutB.zero
 |tab F C W R N A hd hpw ht hl ea hA=>
  subst ea;have hfn:¬(geq f 0=true):=by rw[As];simpa using hd.fnz
  have ht':=ht;rw[Vt,Ady,Adx]at ht';have hgl:¬(geq (Ac g) 0=true):=by
   intro e;rw[As,Ac]at e;have hl1:=ht'.1.1;simp only[Avz,Adx]at e;omega
  have hne:g≠ []:=by intro e;subst e;simp at ht'
  rw[Aan hfn,Cq,Cn,Aan hgl]at h;by_cases hend:geq (A:Int) (Ac g)=true
  ·rw[Acf hend]at h;by_cases hm:Ef (Ac p) 4000=true
   ·rw[Acf hm]at h;simp only[Ad0,Ah7]at h;exact absurd h.2.2.2.2.2.2.2.2.2.2.2.2 (by decide)
   ·rw[Aan hm]at h;simp only[Ad0,Ah7]at h;exact absurd h.2.2.2.2.2.2.2.2.2.2.2.2 (by decide)
  ·rw[Aan hend]at h;have hlt:A<g.length:=by
    rw[As,Ac]at hend;simp only[Avz]at hend;omega
   obtain⟨⟨y,e1⟩,h1,h⟩:=dC h;simp only at h;by_cases hz:Bc e1 0=true
   ·rw[Acf hz]at h;simp only[Ad0,Ah7]at h;have:=h.2.2.2.2.2.2.2.2.2.2.2.2;rw[this]at hz;exact absurd hz zero
   ·rw[Aan hz]at h;have z70:e1=0:=by rw[Ah]at hz;simpa using hz
    obtain⟨m,hm,hy⟩:=Ake hd ho hp' ht hl hlt h1 z70;obtain⟨an,h2,h⟩:=dC h;obtain⟨ah,h3,h⟩:=dC h;obtain⟨ad,h4,h⟩:=dC h;obtain⟨ae,h5,h⟩:=dC h;simp only[Ad0,Ah7]at h;obtain⟨-, -,rfl,rfl,rfl,rfl,rfl,rfl,rfl,rfl, -⟩:=h;intro F' C' W' R' N' A' hd' _ ha';have eqs:C'=C/\W'=W/\R'=R/\N'=N:=by
     have q1:=hd.ec.symm.trans hd'.ec;have q2:=hd.ew.symm.trans hd'.ew;have q3:=hd.er.symm.trans hd'.er;have q4:=hd.en.symm.trans hd'.en;omega
    obtain⟨rfl,rfl,rfl,rfl⟩:=eqs;have hold:=hO F C' W' R' N' A hd hne rfl;have e2:Ad (A:Int) 1=((A+1:Nat):Int):=by rw[Aj];omega
    rw[e2]at ha';obtain rfl:A'=A+1:=by omega
    have hah:ah.length=x.length+y.length:=by
     unfold Ds at h2 h3;split at h2
     ·cases h2;split at h3
      ·cases h3;simp
      ·cases h3
     ·cases h2
    have hpos:∀z∈Ak (Ag R') N',0<=z:=by
     intro z hz;obtain⟨m,hm,m1,m2⟩:=Zz (Em R') hd.num.2.2.2.2.1 hz;omega
    rw[Ajf C' W' hpos (by omega) hm,hah,hy];omega
theorem kg{o p:LB}{f c w r n:Int}{g:LI}{a:Int}{x:LB}(hf:FitD o f c w r n g a x)(ho:o.length<=64)(hO:OutB f c w r n g a x){t1 t2:LB}{t3 t4 t5 t6 t7:Int}{t8:LI}{t9:Int}{t10:LB}{t11:Bool}{t12:Int}
  (h:Al o p f c w r n g a x false 0=some (t1,t2,t3,t4,t5,t6,t7,t8,t9,t10,t11,t12, -1)):Ec o p f c w r n g a x false 0=some 0:=by
 have h4:Cv o p f c w r n g a x false 0=some true:=by
  rw[Cv,Yw,h,Aa];rfl
 have hr:Mi o p f c w r n g a x false 0=some true:=by
  rw[Mi,Yt];cases hf with
  |new e1 e2 e3 e4 e5 e6 e7 e8=>
   subst e1 e2 e3 e4 e5 e6 e7 e8;rw[Acf (by decide),Aan (by decide)];exact h4
  |head F C W R N hd hpw e6 e7 e8=>
   subst e6 e7 e8;have hz:¬(((geq f 0)&&((geq c 0)&&((geq w 0)&&((geq r 0)&&((geq n 0)&&true)))))=true):=by
    simp only[Ady,As,Avz,Bhb];exact λe=>hd.fnz e.1
   have hff:geq f 1=decide (F=1):=by rw[hd.ef,As,Ako];simp;omega
   rw[Aan hz,hd.check,Aa,Aan (by decide),Es,hff,hpw,Aan (by simp),Aa,Aan (by decide),Qx,Qv,Acf (by decide),Aan (by decide)];exact h4
  |tab F C W R N A hd hpw ht hl ea hA=>
   subst ea;have hz:¬(((geq f 0)&&((geq c 0)&&((geq w 0)&&((geq r 0)&&((geq n 0)&&true)))))=true):=by
    simp only[Ady,As,Avz,Bhb];exact λe=>hd.fnz e.1
   have hff:geq f 1=decide (F=1):=by rw[hd.ef,As,Ako];simp;omega
   have ht':=ht;rw[Vt,Ady,Adx]at ht';have hgl:¬(geq (Ac g) 0=true):=by
    intro e;rw[As,Ac]at e;have hl1:=ht'.1.1;simp only[Avz,Adx]at e;omega
   have hne:g≠ []:=by intro e;subst e;simp at ht'
   have hout:=hO F C W R N A hd hne rfl;rw[Aan hz,hd.check,Aa,Aan (by decide),Es,hff,hpw,Aan (by simp),Aa,Aan (by decide),Qx,Qv,Aan hgl,fH,Aa,Acf ht,Aan (by decide),hd.Afy,Aa];rw[Aan (by simp[Ah,Ae,Aq,Ac];omega)];obtain⟨rfl,rfl,rfl,rfl,rfl,hs,hfit⟩:=hd;rw[Aea hs hfit A (by omega),Aa,Aan (by rw[Aq,Ac];simp;omega)];exact h4
 have hO':¬(Ef (Ac o) 64=true):=by rw[Aq,Ac];simp;omega
 rw[Ec,Aan hO',Acf (by decide),hr,Aa];rfl
theorem Aoz{o p:LB}{f c w r n:Int}{F C W R N:Nat}(hd:HdI f c w r n F C W R N)(ho:o.length<=64)(hp:p.length<=100000){g:LI}(ht:Vt g=true)(hl:g.length=(Ak (Ag R) N).length){A:Nat}(hA:A<g.length){x:LB}{u:Bool}{v:Int}{y:LB}{e:Int}
  (h:Dn o p f c w r n g (A:Int) x u v=some (y,e)) (he:e≠ -1):Cd e:=by
 have hlt2:A<(Ak (Ag R) N).length:=by omega
 have RF:=hd.num;rw[Vt,Ady,Adx,EU g 100000 (by omega)]at ht;obtain⟨ht1,g5,gs⟩:=ht;have h5:=g5 g[A] (Aqp hA);rw[Dn,Fy,Br hA,Aa]at h;by_cases hw:(p.length:Int)<g[A]
 ·rw[Acf (by rw[Ae,Ac];simpa using hw)]at h;cases h;exact absurd rfl he
 rw[Aan (by rw[Ae,Ac];simpa using hw)]at h;obtain⟨m,hm,m1,m2⟩:=Zz (Em R) RF.2.2.2.2.1 (Aqp hlt2);have hb:Bl w:=by rw[hd.ew];unfold Bl;omega
 obtain⟨xs,e',d1,d2,d3,d4⟩:=TB (bits:=w) (ch:=C) (n:=m) (t:=Na o) (p.take g[A].toNat) hb (Nv o) RF.2.1.1 RF.2.1.2 m1 (by omega);have hcd:=Aav hb (Nv o) RF.2.1.1 RF.2.1.2 m1 (by omega) d2;rw[aS o ho,Aa]at h;simp only at h;rw[Dk,Aa,Hn,Aa]at h;simp only at h;rw[hd.Afy,Aa,Br hlt2,Aa,Aa,hm,hd.ec]at h;rw[d2,Aa]at h;simp only at h;rw[Gb,Ft]at h;by_cases he:e'≠0
 ·rw[Acf (by rw[Ah];simpa using he)]at h;cases h;exact hcd
 ·have he0:e'=0:=by simpa using he
  obtain⟨k1,k2,k3⟩:=d3 he0;rw[Aan (by rw[Ah,he0];simp),YK hb k2 k1,Aa]at h;cases h;exact .inl rfl
theorem Alf{f c w r n:Int}{F C W R N:Nat}(hd:HdI f c w r n F C W R N){p:LB}(hp:p.length<=100000){A:Nat}(hA:A<=p.length){k:Int}{l:LI}{e:Int}(h:Du p f c w r n (A:Int)=some (k,l,e))(he:e≠ -1):Cd e:=by
 obtain⟨_,t2,t3⟩:=I0 hd [] p hp A hA 0 [] false 0;rw[t2]at h;by_cases h1:(Ej (p.drop A) (Ak (Ag R) N).length).2=24
 ·rw[Acf h1]at h;cases h;exact absurd rfl he
 ·rw[Aan h1]at h;cases h;exact Au1 _ (ny hd.fit)
theorem Ann{f c w r n:Int}{F C W R N:Nat}(hd:HdI f c w r n F C W R N){o p:LB}(hp:p.length<=100000){k:Int}{l:LI}{e:Int}(h:Ff p f c w r n o=some (k,l,e))(he:e≠ -1):Cd e:=by
 rw[Ff,Hy]at h;by_cases hf:geq f 2=true
 ·rw[Acf hf]at h;by_cases h8:p.length<8
  ·rw[Acf (by rw[Ae,Ac];simp;omega)]at h;cases h;exact absurd rfl he
  ·have n1:¬(Cj (Ac p) 8=true):=by rw[Ae,Ac];simp;omega
   rw[Aan n1]at h;obtain⟨z,hz,h⟩:=dC h;obtain⟨y,hy,h⟩:=dC h;by_cases hm:(z !=y)=true
   ·rw[Acf hm]at h;cases h;decide
   ·rw[Aan hm]at h;exact Alf hd hp (A:=8) (by omega) h he
 ·rw[Aan hf]at h;exact Alf hd hp (A:=0) (by omega) h he
theorem Bal(p:LB):(stS p).2.2.2.2.2.2= -1\/Cd (stS p).2.2.2.2.2.2:=by
 unfold stS
 repeat' split
 ·exact .inl rfl
 ·exact .inr (H2 p)
 ·exact .inl rfl
 ·exact .inl rfl
 ·exact .inr (wh _)
theorem Ax8{o p:LB}{f c w r n:Int}{g:LI}{a:Int}{x:LB}{u:Bool}{v:Int}(hf:FitD o f c w r n g a x)(ho:o.length<=64)(hp':p.length<=100000){t1 t2:LB}{t3 t4 t5 t6 t7:Int}{t8:LI}{t9:Int}{t10:LB}{t11:Bool}{t12 e:Int}
  (h:Al o p f c w r n g a x u v=some (t1,t2,t3,t4,t5,t6,t7,t8,t9,t10,t11,t12,e)) (he:e≠ -1):Cd e:=by
 have zero:¬(Bc (0:Int) 0=true):=by decide
 rw[Al,Ca]at h;cases hf with
 |new e1 e2 e3 e4 e5 e6 e7 e8=>
  subst e1 e6 e7 e8;rw[Acf (by decide),AD p hp',Aa]at h;have hcd:=Bal p;generalize stS p=z at h hcd;obtain⟨z1,z2,z3,z4,z5,z6,z7⟩:=z;simp only at h hcd;by_cases hz:Bc z7 0=true
  ·rw[Acf hz]at h;simp only[Ad0,Ah7]at h;obtain⟨-, -, -, -, -, -, -, -, -, -, -, -,rfl⟩:=h;exact hcd.resolve_left he
  ·rw[Aan hz]at h;obtain⟨af,h1,h⟩:=dC h;rw[Hh,Hg,Es]at h;obtain⟨aw,h2,h⟩:=dC h;simp only[Ad0,Ah7]at h;obtain⟨-, -, -, -, -, -, -, -, -, -, -, -,rfl⟩:=h;split at h2
   ·cases h2;decide
   ·cases h2;decide
 |head F C W R N hd hpw e6 e7 e8=>
  subst e6 e7 e8;have hfn:¬(geq f 0=true):=by rw[As];simpa using hd.fnz
  rw[Aan hfn,Cq,Cn,Acf (by decide)]at h;obtain⟨⟨k,l,e1⟩,h1,h⟩:=dC h;simp only at h;by_cases hz:Bc e1 0=true
  ·rw[Acf hz]at h;simp only[Ad0,Ah7]at h;obtain⟨-, -, -, -, -, -, -, -, -, -, -, -,rfl⟩:=h;exact Ann hd hp' h1 he
  ·rw[Aan hz]at h;obtain⟨af,h2,h⟩:=dC h;simp only[Ad0,Ah7]at h;obtain⟨-, -, -, -, -, -, -, -, -, -, -, -,rfl⟩:=h;exact .inl rfl
 |tab F C W R N A hd hpw ht hl ea hA=>
  subst ea;have hfn:¬(geq f 0=true):=by rw[As];simpa using hd.fnz
  have ht':=ht;rw[Vt,Ady,Adx]at ht';have hgl:¬(geq (Ac g) 0=true):=by
   intro e;rw[As,Ac]at e;have hl1:=ht'.1.1;simp only[Avz,Adx]at e;omega
  rw[Aan hfn,Cq,Cn,Aan hgl]at h;by_cases hend:geq (A:Int) (Ac g)=true
  ·rw[Acf hend]at h;by_cases hm:Ef (Ac p) 4000=true
   ·rw[Acf hm]at h;simp only[Ad0,Ah7]at h;obtain⟨-, -, -, -, -, -, -, -, -, -, -, -,rfl⟩:=h;decide
   ·rw[Aan hm]at h;simp only[Ad0,Ah7]at h;exact absurd h.2.2.2.2.2.2.2.2.2.2.2.2.symm he
  ·rw[Aan hend]at h;have hlt:A<g.length:=by
    rw[As,Ac]at hend;simp only[Avz]at hend;omega
   obtain⟨⟨y,e1⟩,h1,h⟩:=dC h;simp only at h;by_cases hz:Bc e1 0=true
   ·rw[Acf hz]at h;simp only[Ad0,Ah7]at h;obtain⟨-, -, -, -, -, -, -, -, -, -, -, -,rfl⟩:=h;exact Aoz hd ho hp' ht hl hlt h1 he
   ·rw[Aan hz]at h;obtain⟨an,h2,h⟩:=dC h;obtain⟨ah,h3,h⟩:=dC h;obtain⟨ad,h4,h⟩:=dC h;obtain⟨ae,h5,h⟩:=dC h;simp only[Ad0,Ah7]at h;obtain⟨-, -, -, -, -, -, -, -, -, -, -, -,rfl⟩:=h;exact .inl rfl
theorem Asg{o:LB}{f c w r n:Int}{g:LI}{a:Int}{x:LB}(hf:FitD o f c w r n g a x)(hO:OutB f c w r n g a x):x.length<=12000:=by
 cases hf with
 |new e1 e2 e3 e4 e5 e6 e7 e8=>subst e8;simp
 |head F C W R N hd hpw e6 e7 e8=>subst e8;simp
 |tab F C W R N A hd hpw ht hl ea hA=>
  have hne:g≠ []:=by intro e;subst e;simp[Vt]at ht
  have h:=hO F C W R N A hd hne ea;obtain⟨g1,g2,g3⟩:=QL hd.shape hd.fit;have b:=mB g1 A;have RF:=hd.num;have hw:=(M4 (W:Int)).2;have hN:N*C<=4000:=by
   have h1:=Aep C RF.2.2.2.2.2.1;have h2:=Bcc 4000 C;omega
  have hs:((Ak (Ag R) N).take A).sum.toNat<=N:=by omega
  rw[HT]at h;have hb:((Ak (Ag R) N).take A).sum.toNat*(C*wB (W:Int))<=4000*3:=by
   have h1:=Aep (C*wB (W:Int)) hs;have h2:=Ba9 hN hw;rw[<-Azk N]at h1;omega
  omega
theorem ze{o x:LB}{e:Int}(ho:o.length<=64)(hx:x.length<=12000)(he:Cd e)(h0:0<e):Ec o [] 0 0 0 0 0 [] 0 x false e=some 0:=by
 have hO':¬(Ef (Ac o) 64=true):=by rw[Aq,Ac];simp;omega
 have hX:Ef (Ac x) 12000=false:=by rw[Aq,Ac];simp;omega
 rw[Ec,Aan hO',Aan (by rw[As];simp;omega),Acf (by decide),hX,Aan (by decide),Acf (by rw[Ah];simp;omega),Aan (by decide)];obtain rfl|rfl|rfl|rfl|rfl|rfl|rfl|rfl:=he
 ·omega
 all_goals rfl
theorem ym:∀(k q1 q2:Nat) (o p:LB) (f c w r n:Int) (g:LI) (a:Int) (x:LB) (u:Bool) (v:Int),FitD o f c w r n g a x->o.length<=64->SzD p g a x->muD f g a<k->k<=q1->k<=q2->
  Bk q1 o p f c w r n g a x u v=Bk q2 o p f c w r n g a x u v
 |0,_,_,_,_,_,_,_,_,_,_,_,_,_,_,_,_,_,h,_,_=>by omega
 |k+1,q1,q2,o,p,f,c,w,r,n,g,a,x,u,v,hf,ho,hZ,hm,h1,h2=>by
  obtain⟨q1,rfl⟩:∃q,q1=q+1:=⟨q1-1,by omega⟩;obtain⟨q2,rfl⟩:∃q,q2=q+1:=⟨q2-1,by omega⟩;rw[Bk,Bk,Cp,Cp];have hS:StepR (Bd o u v q1) o p f c w r n g a x u v:=kv hf ho hZ;cases hS with
  |wait hF hT=>
   rw[hT,Aa,Aa];simp only;rw[Acf (by decide),Acf (by decide)]
  |err e he hF hT=>
   rw[hT,Aa,Aa];simp only;rw[Aan (by rw[lF (by omega)];decide),Acf (by rw[Ah];simp;omega),Aan (by rw[lF (by omega)];decide),Acf (by rw[Ah];simp;omega)]
  |next p' f' c' w' r' n' g' a' x' hF hT hf' hZ' hle hmu=>
   rw[hT,Aa,Aa];simp only;rw[Aan (by decide),Aan (by decide),Aan (by decide),Aan (by decide)];exact ym k q1 q2 o p' f' c' w' r' n' g' a' x' u v hf' ho hZ' (by omega) (by omega) (by omega)
structure Wt (o p:LB) (f c w r n:Int) (g:LI) (a:Int) (x:LB):Prop where
 fit:FitD o f c w r n g a x
 sz:SzD p g a x
 out:OutB f c w r n g a x
 wait:Al o p f c w r n g a x false 0=some (o,p,f,c,w,r,n,g,a,x,false,0, -1)
abbrev Rc(q:Nat)(o p:LB)(f c w r n:Int)(g:LI)(a:Int)(x:LB):=Bk q o p f c w r n g a x false 0
theorem Agc:∀(k q:Nat) (o p:LB) (f c w r n:Int) (g:LI) (a:Int) (x:LB),FitD o f c w r n g a x->o.length<=64->SzD p g a x->OutB f c w r n g a x->p.length<=100000->muD f g a<k->k<=q->
  (∃(t2:LB) (t3 t4 t5 t6 t7:Int) (t8:LI) (t9:Int) (t10:LB),Rc q o p f c w r n g a x=some (o,t2,t3,t4,t5,t6,t7,t8,t9,t10,false,0,0)/\Wt o t2 t3 t4 t5 t6 t7 t8 t9 t10/\t2.length<=p.length/\muD t3 t8 t9<k/\
   ∀b:LB,(p++b).length<=100000->Rc q o (p++b) f c w r n g a x=Rc q o (t2++b) t3 t4 t5 t6 t7 t8 t9 t10)\/
  (∃(x':LB) (e:Int),0<e/\Cd e/\x'.length<=12000/\∀b:LB,(p++b).length<=100000->Rc q o (p++b) f c w r n g a x=some (o,[],0,0,0,0,0,[],0,x',false,e,e))
 |0,_,_,_,_,_,_,_,_,_,_,_,_,_,_,_,_,h,_=>by omega
 |k+1,q,o,p,f,c,w,r,n,g,a,x,hf,ho,hZ,hO,hp,hm,h1=>by
  obtain⟨q,rfl⟩:∃q',q=q'+1:=⟨q-1,by omega⟩;have hx:x.length<=13000000:=by have:=hZ.hx;omega
  have hS:StepR (Bd o false 0 q) o p f c w r n g a x false 0:=kv hf ho hZ;cases hS with
  |wait hF hT=>
   refine .inl ⟨p,f,c,w,r,n,g,a,x,?_,⟨hf,hZ,hO,hT⟩,Ao7 _,hm,λb _=>rfl⟩;rw[Rc,Bk,Cp,hT,Aa];simp only;rw[Acf (by decide),bE hZ.hp (by have:=hZ.hg;omega) hx,Aa]
  |err e he hF hT=>
   refine .inr ⟨x,e,he,Ax8 hf ho hp hT (by omega),Asg hf hO,λb hL=>?_⟩;obtain⟨s1,s2,s3,s4,s5,s6,s7,s8,s9,s10,s11,s12,hs⟩:=(qR b hf hL hT (by omega)).2 (by omega);rw[Rc,Bk,Cp,hs,Aa];simp only;rw[Aan (by rw[lF (by omega)];decide),Acf (by rw[Ah];simp;omega),wX hx,Aa]
  |next p' f' c' w' r' n' g' a' x' hF hT hf' hZ' hle hmu=>
   have hp':p'.length<=100000:=by omega
   rcases Agc k q o p' f' c' w' r' n' g' a' x' hf' ho hZ' (At6 hf ho hZ hO hT) hp' (by omega) (by omega)with⟨t2,t3,t4,t5,t6,t7,t8,t9,t10,k1,k2,k3,k4,k5⟩|⟨x2,e,k1,k2,k3,k4⟩
   ·refine .inl ⟨t2,t3,t4,t5,t6,t7,t8,t9,t10,?_,k2,by omega,by omega,λb hL=>?_⟩
    ·rw[Rc,Bk,Cp,hT,Aa];simp only;rw[Aan (by decide),Aan (by decide)];exact k1
    ·have hs:=(qR b hf hL hT (by decide)).1 rfl;have hL':(p'++b).length<=100000:=by rw[Adl]at hL⊢;omega
     rw[Rc,Bk,Cp,hs,Aa];simp only;rw[Aan (by decide),Aan (by decide)];refine(k5 b hL').trans ?_;exact ym k q (q+1) o (t2++b) t3 t4 t5 t6 t7 t8 t9 t10 false 0 k2.fit ho ⟨by rw[Adl]at hL⊢;omega,k2.sz.hg,k2.sz.hx⟩ k4 (by omega) (by omega)
   ·refine .inr ⟨x2,e,k1,k2,k3,λb hL=>?_⟩;have hs:=(qR b hf hL hT (by decide)).1 rfl;have hL':(p'++b).length<=100000:=by rw[Adl]at hL⊢;omega
    rw[Rc,Bk,Cp,hs,Aa];simp only;rw[Aan (by decide),Aan (by decide)];exact k4 b hL'
abbrev Fd(o s:LB):=Rc Au o s 0 0 0 0 0 [] 0 []
inductive Bh (o s:LB):LB->Int->Int->Int->Int->Int->LI->Int->LB->Int->Prop
 |wt {p:LB} {f c w r n:Int} {g:LI} {a:Int} {x:LB}:Wt o p f c w r n g a x->p.length<=s.length-> (∀b:LB,(s++b).length<=100000->Fd o (s++b)=Rc Au o (p++b) f c w r n g a x)->Bh o s p f c w r n g a x 0
 |er {x:LB} {e:Int}:0<e->Cd e->x.length<=12000-> (∀b:LB,(s++b).length<=100000->Fd o (s++b)=some (o,[],0,0,0,0,0,[],0,x,false,e,e))->Bh o s [] 0 0 0 0 0 [] 0 x e
variable {o s p:LB} {f c w r n:Int} {g:LI} {a:Int} {x:LB} {e:Int}
theorem Wt.stop(W:Wt o p f c w r n g a x):Rc Au o p f c w r n g a x=some (o,p,f,c,w,r,n,g,a,x,false,0,0):=by
 obtain⟨q,hq⟩:∃q,Au=q+1:=⟨Au-1,by have:=Ar;omega⟩;have hx:x.length<=13000000:=by have:=W.sz.hx;omega
 rw[Rc,hq,Bk,Cp,W.wait,Aa];simp only;rw[Acf (by decide),bE W.sz.hp (by have:=W.sz.hg;omega) hx,Aa]
theorem Bh.fd(h:Bh o s p f c w r n g a x e)(hs:s.length<=100000):Fd o s=some (o,p,f,c,w,r,n,g,a,x,false,e,e):=by
 cases h with
 |wt W hl hb=>
  have:=hb [] (by simpa using hs);rw[Als,Als]at this;rw[this,W.stop]
 |er h0 hc hx hb=>
  have:=hb [] (by simpa using hs);rw[Als]at this;exact this
theorem Bh.new(ho:o.length<=64):Bh o [] [] 0 0 0 0 0 [] 0 [] 0:=by
 refine .wt ⟨.new rfl rfl rfl rfl rfl rfl rfl rfl,⟨by simp,by simp,by simp⟩,OutB.nil,?_⟩ (Ao7 _) λb _=>rfl;rw[Al,Ca,Acf (by decide),AD [] (by simp),Aa];rfl
theorem Ayx(ho:o.length<=64)(W:Wt o p f c w r n g a x)(b:LB)(hp:p.length<=20000)(hb:b.length<=20000):
  Mq o p f c w r n g a x false 0 b=Rc Au o (p++b) f c w r n g a x/\Kh o p f c w r n g a x false 0 b=Rc Au o (p++b) f c w r n g a x:=by
 have hR:Kh o p f c w r n g a x false 0 b=Rc Au o (p++b) f c w r n g a x:=by
  have hx:x.length<=13000000:=by have:=W.sz.hx;omega
  have hg:g.length<=2000:=by have:=W.sz.hg;omega
  have hE:¬(Bc (0:Int) 0=true):=by decide
  have hF:¬(false=true):=by decide
  rw[Kh,Sc,kg W.fit ho W.out W.wait,Aa,Aan hE,bE (by omega) hg hx,Aa];simp only;rw[Sa]
  repeat (first|rw[Aa]|rw[Aan hE]|rw[Aan hF])
  rw[Bg,Aa];rfl
 obtain⟨t1,t2,t3,t4,t5,t6,t7,t8,t9,t10,t11,t12,e,h1,h2,_⟩:=Bdr ho W.fit W.sz b hp hb;exact⟨h1.trans (h2.symm.trans hR),hR⟩
theorem Bh.check(ho:o.length<=64)(h:Bh o s p f c w r n g a x e)(hp:p.length<=100000):Ph o p f c w r n g a x false e=some 0/\Ec o p f c w r n g a x false e=some 0:=by
 have key:Ec o p f c w r n g a x false e=some 0/\g.length<=1000/\x.length<=13000000:=by
  cases h with
  |wt W hl hb=>exact⟨kg W.fit ho W.out W.wait,W.sz.hg,by have:=W.sz.hx;omega⟩
  |er h0 hc hx hb=>exact⟨ze ho hx hc h0,by simp,by omega⟩
 obtain⟨k1,k2,k3⟩:=key;obtain⟨E,e1,e2⟩:=ve o p f c w r n g a x false e hp (by omega) (by omega);rw[k1]at e2;cases e2;exact⟨e1,k1⟩
theorem Bh.feed(ho:o.length<=64)(h:Bh o s p f c w r n g a x e)(hp:p.length<=20000)(b:LB)(hb:b.length<=20000)(hs:(s++b).length<=100000):
  ∃(p':LB) (f' c' w' r' n':Int) (g':LI) (a':Int) (x':LB) (e':Int),Mq o p f c w r n g a x false e b=some (o,p',f',c',w',r',n',g',a',x',false,e',e')/\
   Kh o p f c w r n g a x false e b=some (o,p',f',c',w',r',n',g',a',x',false,e',e')/\Bh o (s++b) p' f' c' w' r' n' g' a' x' e':=by
 have hck:=h.check ho (by omega);cases h with
 |wt W hl hB=>
  obtain⟨h1,h2⟩:=Ayx ho W b hp hb;have hpb:(p++b).length<=100000:=by rw[Adl];omega
  have hZ:SzD (p++b) g a x:=⟨hpb,W.sz.hg,W.sz.hx⟩;rcases Agc 1004 Au o (p++b) f c w r n g a x W.fit ho hZ W.out hpb (Ato hZ) (by have:=Ar;omega)with⟨t2,t3,t4,t5,t6,t7,t8,t9,t10,k1,k2,k3,k4,k5⟩|⟨x2,e,k1,k2,k3,k4⟩
  ·refine⟨t2,t3,t4,t5,t6,t7,t8,t9,t10,0,h1.trans k1,h2.trans k1, .wt k2 ?_ λb2 hL=>?_⟩
   ·rw[Adl]at k3⊢;omega
   ·rw[Ae8,hB (b++b2) (by rw[<-Ae8];exact hL),<-Ae8];refine k5 b2 ?_;rw[Adl,Adl]at hL⊢;omega
  ·have k4':=k4 [] (by simpa using hpb);rw[Als]at k4';refine⟨_,_,_,_,_,_,_,_,_,_,h1.trans k4',h2.trans k4', .er k1 k2 k3 λb2 hL=>?_⟩;rw[Ae8,hB (b++b2) (by rw[<-Ae8];exact hL),<-Ae8];refine k4 b2 ?_;rw[Adl,Adl]at hL⊢;omega
 |er h0 hc hx hB=>
  have hne:Bc e 0=true:=by rw[Ah];simp;omega
  refine⟨_,_,_,_,_,_,_,_,_,_,?_,?_, .er h0 hc hx λb2 hL=>?_⟩
  ·rw[Mq,Xn,qS (by simp) (by simp) (by omega) hck.1,Aan (by decide),Aa];simp only;rw[Acf (show e≠0 by omega),Acf hne]
  ·rw[Kh,Sc,hck.2,Aa,Aan (by decide),bE (by simp) (by simp) (by omega),Aa];simp only;rw[Sa,Acf hne,Aa,Acf hne]
  ·rw[Ae8];exact hB (b++b2) (by rw[<-Ae8];exact hL)
end Go.Pl
namespace Go.Pl
open Go Go.Lv
section
variable {o s p:LB} {f c w r n:Int} {g:LI} {a:Int} {x:LB} {e:Int}
theorem FitD.drop(h:FitD o f c w r n g a x)(t:Nat):FitD o f c w r n g a (x.drop t):=by
 cases h with
 |new e1 e2 e3 e4 e5 e6 e7 e8=>subst e8;exact .new e1 e2 e3 e4 e5 e6 e7 (by simp)
 |head F C W R N hd hpw e6 e7 e8=>subst e8;exact .head F C W R N hd hpw e6 e7 (by simp)
 |tab F C W R N A hd hpw ht hl ea hA=>exact .tab F C W R N A hd hpw ht hl ea hA
theorem OutB.drop(h:OutB f c w r n g a x)(t:Nat):OutB f c w r n g a (x.drop t):=by
 intro F C W R N A hd hg ha;have:=h F C W R N A hd hg ha;rw[Ah5];omega
theorem Bh.Ay9(h:Bh o s p f c w r n g a x e):p.length<=s.length/\g.length<=1000/\x.length<=12000:=by
 cases h with
 |wt W hl hb=>exact⟨hl,W.sz.hg,Asg W.fit W.out⟩
 |er h0 hc hx hb=>exact⟨by simp,by simp,hx⟩
end
section
variable {o s p:LB} {f c w r n:Int} {g:LI} {a:Int} {x:LB} {e:Int}
theorem Ap0{u:Bool}{v:Int}(hp:p.length<=20000)(h:Cy o p f c w r n g a x u v=some e):Cd e:=by
 rw[Cy]at h;split at h
 ·rw[BT p (by omega),Aa]at h;have hok:=BI (b:=p);simp only at h;by_cases h2:(Bq p).2≠0
  ·rw[Acf (by rw[Ah];simpa using h2)]at h;cases h;exact H2 p
  ·have h3:(Bq p).2=0:=by simpa using h2
   obtain⟨k1,k2,k3⟩:=hok h3;have hl:(Il p).length<=p.length:=by rw[Il,Ah5];omega
   rw[Aan (by rw[Ah,h3];simp),Bv,Aa,show p.drop (Bq p).1.toNat=Il p from rfl,gY _ (by omega),Aa]at h;cases h;exact wh _
 ·split at h
  ·cases h;decide
  ·obtain⟨⟨z1,z2⟩,hz,h⟩:=dC h;simp only at h;split at h<;>(cases h;decide)
theorem Bas{u:Bool}{v k:Int}(ho:o.length<=64)(hx:x.length<=12000)(hk:(u=false/\v=k/\0<k/\Cd k)\/ (u=true/\v=0/\k=36)):
  Ph o [] 0 0 0 0 0 [] 0 x u v=some 0/\ (∀b,Mq o [] 0 0 0 0 0 [] 0 x u v b=some (o,[],0,0,0,0,0,[],0,x,u,v,k))/\Gc o [] 0 0 0 0 0 [] 0 x u v=some (o,[],0,0,0,0,0,[],0,x,u,v,k):=by
 have key:Ec o [] 0 0 0 0 0 [] 0 x u v=some 0:=by
  rcases hk with⟨rfl,rfl,h1,h2⟩|⟨rfl,rfl,rfl⟩
  ·exact ze ho hx h2 h1
  ·have hX:Ef (Ac x) 12000=false:=by rw[Aq,Ac];simp;omega
   rw[Ec,Aan (by rw[Aq,Ac];simp;omega),Aan (by decide),Acf (by decide),hX,Aan (by decide),Aan (by decide)]
 obtain⟨E,e1,e2⟩:=ve o [] 0 0 0 0 0 [] 0 x u v (by simp) (by simp) (by omega);rw[key]at e2;cases e2;have hv:(if v≠0 then v else if u=true then 36 else 0)=k:=by
  rcases hk with⟨rfl,rfl,h1,h2⟩|⟨rfl,rfl,rfl⟩
  ·rw[Acf (by omega)]
  ·rfl
 have hk0:Bc k 0=true:=by
  rw[Ah];rcases hk with⟨rfl,rfl,h1,h2⟩|⟨rfl,rfl,rfl⟩
  ·simp;omega
  ·rfl
 have hb:=qS (o:=o) (p:=[]) (f:=0) (c:=0) (w:=0) (r:=0) (n:=0) (g:=[]) (a:=0) (x:=x) (u:=u) (v:=v) (by simp) (by simp) (by omega) e1;rw[Aan (by decide),hv]at hb;refine⟨e1,λb=>?_,?_⟩
 ·rw[Mq,Xn,hb,Aa];simp only;rw[Acf hk0]
 ·rw[Gc,hb,Aa];simp only;rw[Acf hk0]
theorem Bh.finish(ho:o.length<=64)(h:Bh o s p f c w r n g a x e)(hp:p.length<=20000):
  ∃(u:Bool) (v k:Int),Gc o p f c w r n g a x false e=some (o,[],0,0,0,0,0,[],0,x,u,v,k)/\ ((u=false/\v=k/\0<k/\Cd k/\ (e=0\/e=k))\/ (u=true/\v=0/\k=0)):=by
 have hs:=h.Ay9;have hck:=(h.check ho (by omega)).1;have hb:=qS (o:=o) (p:=p) (f:=f) (c:=c) (w:=w) (r:=r) (n:=n) (g:=g) (a:=a) (x:=x) (u:=false) (v:=e) (by omega) (by omega) (by omega) hck;rw[Aan (by decide)]at hb;cases h with
 |wt W hl hB=>
  obtain⟨e1,d1,d2⟩:=N1 (o:=o) (p:=p) (f:=f) (c:=c) (w:=w) (r:=r) (n:=n) (a:=a) (u:=false) (v:=0) (g:=g) (x:=x) hp;have hcd:=Ap0 hp d2;rw[Gc,hb,Aa];simp only;rw[Aan (by decide),d1,Aa];by_cases he:Bc e1 0=true
  ·rw[Acf he];refine⟨false,e1,e1,rfl, .inl ⟨rfl,rfl,?_,hcd,by simp⟩⟩;have:=hcd.nn;rw[Ah]at he;simp only[Bgu]at he;omega
  ·rw[Aan he];exact⟨true,0,0,rfl, .inr ⟨rfl,rfl,rfl⟩⟩
 |er h0 hc hx hB=>
  have hne:Bc e 0=true:=by rw[Ah];simp;omega
  rw[Gc,hb,Aa];simp only;rw[Acf (show e≠0 by omega),Acf hne];exact⟨false,e,e,rfl, .inl ⟨rfl,rfl,h0,hc, .inr rfl⟩⟩
end
section
variable {o p:LB} {f c w r n:Int} {g:LI} {a:Int} {x:LB} {q:Nat}
theorem PH(hp:p.length<=100000)(hg:g.length<=1000)(hx:x.length<=13000000)(h:Al o p f c w r n g a x false 0=some (o,p,f,c,w,r,n,g,a,x,false,0, -1)):Rc (q+1) o p f c w r n g a x=some (o,p,f,c,w,r,n,g,a,x,false,0,0):=by
 rw[Rc,Bk,Cp,h,Aa];simp only;rw[Acf (by decide),bE hp (by omega) hx,Aa]
theorem bI(hx:x.length<=13000000){e:Int}(he:0<e){t2:LB}{t3 t4 t5 t6 t7:Int}{t8:LI}{t9:Int}{t11:Bool}{t12:Int}(h:Al o p f c w r n g a x false 0=some (o,t2,t3,t4,t5,t6,t7,t8,t9,x,t11,t12,e)):Rc (q+1) o p f c w r n g a x=some (o,[],0,0,0,0,0,[],0,x,false,e,e):=by
 rw[Rc,Bk,Cp,h,Aa];simp only;rw[Aan (by rw[lF (by omega)];decide),Acf (by rw[Ah];simp;omega),wX hx,Aa]
theorem H3{p':LB}{f' c' w' r' n':Int}{g':LI}{a':Int}{x':LB}(h:Al o p f c w r n g a x false 0=some (o,p',f',c',w',r',n',g',a',x',false,0,0)):Rc (q+1) o p f c w r n g a x=Rc q o p' f' c' w' r' n' g' a' x':=by
 rw[Rc,Bk,Cp,h,Aa];simp only;rw[Aan (by decide),Aan (by decide)]
end
def Ends(o:LB)(R:Option Bc7)(x:LB)(e:Int):Prop:=(0<e/\R=some (o,[],0,0,0,0,0,[],0,x,false,e,e))\/ (∃(p:LB) (f c w r n:Int) (g:LI) (a:Int),p.length<=100000/\R=some (o,p,f,c,w,r,n,g,a,x,false,0,0)/\Cy o p f c w r n g a x false 0=some e)
theorem Ai8(b p:LB)(hb:b.length<=20000)(hp:p.length<=64)(q:Nat):
  (∃e:Int,e≠0/\Dh b p=some (aR e)/\Ends p (Rc (q+2) p b 0 0 0 0 0 [] 0 []) [] e)\/ (∃f c w r n A l,Opn b p f c w r n A l/\Rc (q+2) p b 0 0 0 0 0 [] 0 []=Rc q p (b.drop A) (f:Int) (c:Int) (w:Int) (r:Int) (n:Int) l 0 []):=by
 have hx0:([]:LB).length<=13000000:=by simp
 have hg0:([]:LI).length<=1000:=by simp
 have hT:Al p b 0 0 0 0 0 [] 0 [] false 0=Al p b 0 0 0 0 0 [] 0 [] false 0:=rfl
 conv at hT=>rhs;rw[Al,Ca,Acf (by decide),AD b (by omega),Aa,stS]
 have hE:Cy p b 0 0 0 0 0 [] 0 [] false 0=Cy p b 0 0 0 0 0 [] 0 [] false 0:=rfl
 conv at hE=>rhs;rw[Cy,Acf (by decide),BT b (by omega),Aa]
 have hP:Dh b p=Dh b p:=rfl
 conv at hP=>rhs;rw[Dh,Uw,Aan (by rw[Aq,Ac];simp;omega),Aan (by rw[Aq,Ac];simp;omega),Px b (by omega),Aa]
 have hfn:=G3 b;have hrn:=sj (Il b);have hopen:=C9 b p (by omega) hp;simp only at hE;by_cases h2:(Bq b).2=0
 ·obtain⟨p0,p1,p2⟩:=BI h2;have hc:=Bv (l:=b) p0 p1;have hlen:(Il b).length=b.length-(Bq b).1.toNat:=by simp[Il]
  simp only[h2]at hP hE;rw[Aan (show ¬(Bq b).2=24 by omega),Aan (show ¬(Bq b).2≠0 by omega)]at hT;rw[Aan (by rw[Ah];simp),hc,Aa,show b.drop (Bq b).1.toNat=Il b from rfl,QJ _ (by simp[Il];omega),Aa]at hP;rw[Aan (by rw[Ah];simp),hc,Aa,show b.drop (Bq b).1.toNat=Il b from rfl,gY _ (by simp[Il];omega),Aa]at hE;by_cases h3:(Ek (Il b)).2.2.2.2.2=0
  ·obtain⟨g1,g2,g3,g4⟩:=rX h3;have Ay8:¬((Pe (Il b) L6||Pe (Il b) Q3)=true):=by
    have i1:Pe (Il b) L6=false:=by rw[Pe,Bb5 (by simp[L6];omega)];rfl
    have i2:Pe (Il b) Q3=false:=by rw[Pe,Bb5 (by simp[Q3];omega)];rfl
    rw[i1,i2];decide
   rw[Aan Ay8,Aan (show ¬(Ek (Il b)).2.2.2.2.2=24 by omega),h3]at hT;simp only at hT;rw[Aan (by decide)]at hT;have hd:HdI (f0 (Il b):Int) (f1 (Il b):Int) (f2 (Il b):Int) (f3 (Il b):Int) (f4 (Il b):Int) (f0 (Il b)) (f1 (Il b)) (f2 (Il b)) (f3 (Il b)) (f4 (Il b)):=⟨rfl,rfl,rfl,rfl,rfl,g3,g4⟩;generalize hF:(Bq b).1.toNat=F at*
   have hF':(Bq b).1=(F:Int):=by omega
   rw[g1,hF']at hP hT;simp only at hP hT;generalize f0 (Il b)=f at*
   generalize f1 (Il b)=c at*
   generalize f2 (Il b)=w at*
   generalize f3 (Il b)=r at*
   generalize f4 (Il b)=n at*
   have t22:Ad (F:Int) 22=((F+22:Nat):Int):=by rw[Aj];omega
   have t30:Ad ((F+22:Nat):Int) 8=((F+30:Nat):Int):=by rw[Aj];omega
   have Bef:f=1\/f=2:=by simp only[Fu,Adx]at g3;omega
   have hf1:geq (f:Int) 1=decide (f=1):=by rw[As,Ako];simp;omega
   rw[Aan (by rw[Ah];simp),t22,t30]at hP;rw[Bv,Aa,Hh,Hg,Es,show((F:Int)+22).toNat=F+22 by omega]at hT;by_cases NJ:((p==([]:List UInt8)) !=(geq (f:Int) (1:Int)))=true
   ·rw[Acf NJ]at hP hT;rw[Aa]at hT;exact .inl ⟨26,by omega,hP, .inl ⟨by omega,bI (q:=q+1) hx0 (by decide) hT⟩⟩
   ·rw[Aan NJ]at hP hT;rw[Aa]at hT;have hl1:=H3 (q:=q+1) hT;have hpf:(p=[]↔f=1):=by
     rw[As]at NJ;have h5:(p==([]:List UInt8))=((f:Int)==1):=by simpa using NJ
     have h6:(p==([]:List UInt8))=true↔((f:Int)==1)=true:=by rw[h5]
     rw[Avz,Avz]at h6;rw[h6];omega
    have hpw:(p==([]:LB))=decide (f=1):=by rw[<-hf1];simpa using NJ
    have hdl:(b.drop (F+22)).length=b.length-(F+22):=Ah5;have hE2:Cy p (b.drop (F+22)) (f:Int) (c:Int) (w:Int) (r:Int) (n:Int) [] 0 [] false 0=some 24:=by
     rw[Cy,Aan (by rw[As];simp;omega),Acf (by decide)]
    have hT2:Al p (b.drop (F+22)) (f:Int) (c:Int) (w:Int) (r:Int) (n:Int) [] 0 [] false 0=Al p (b.drop (F+22)) (f:Int) (c:Int) (w:Int) (r:Int) (n:Int) [] 0 [] false 0:=rfl
    conv at hT2=>rhs;rw[Al,Ca,Aan (by rw[As];simp;omega),Cq,Cn,Acf (by decide),Ff,Hy]
    have hend:∀D:Nat,F+22+D<=b.length->D=(if f=2 then 8 else 0)->Dh b p=Qg b (f:Int) (c:Int) (w:Int) (r:Int) (n:Int) ((F+22+D:Nat):Int)->
      Al p (b.drop (F+22)) (f:Int) (c:Int) (w:Int) (r:Int) (n:Int) [] 0 [] false 0=((Du (b.drop (F+22)) (f:Int) (c:Int) (w:Int) (r:Int) (n:Int) (D:Int)).bind (λ(ag,ak,w1)=>if(Bc w1 0)then some (p,b.drop (F+22),(f:Int),(c:Int),(w:Int),(r:Int),(n:Int),([]:LI),(0:Int),([]:LB),false,(0:Int),w1)else(Bp (b.drop (F+22)) ag (Ac (b.drop (F+22)))).bind λal=>some (p,al,(f:Int),(c:Int),(w:Int),(r:Int),(n:Int),ak,(0:Int),([]:LB),false,(0:Int),(0:Int))))->
      (∃e:Int,e≠0/\Dh b p=some (aR e)/\Ends p (Rc (q+2) p b 0 0 0 0 0 [] 0 []) [] e)\/ (∃f c w r n A l,Opn b p f c w r n A l/\Rc (q+2) p b 0 0 0 0 0 [] 0 []=Rc q p (b.drop A) (f:Int) (c:Int) (w:Int) (r:Int) (n:Int) l 0 []):=by
     intro D hD hD2 e1 e2;obtain⟨_,k2,k3⟩:=I0 hd p (b.drop (F+22)) (by omega) D (by omega) 0 [] false 0;rw[tM g3 g4 b (by omega) (F+22+D) hD]at e1;rw[k2,Aa]at e2;have hnn:=uj ((b.drop (F+22)).drop D) (Ak (Ag r) n).length;have hok:=iA (b:=(b.drop (F+22)).drop D) (n:=(Ak (Ag r) n).length);rw[Bew]at e2 hnn hok k3;generalize hz:Ej (b.drop (F+22+D)) (Ak (Ag r) n).length=z at*
     obtain⟨z1,z2⟩:=z;simp only at e1 e2 hnn hok k3;by_cases h:z2≠0
     ·rw[Acf h]at e1;refine .inl ⟨z2,h,e1,?_⟩;by_cases h24:z2=24
      ·rw[Acf h24]at e2;simp only at e2;rw[Acf (by decide)]at e2;rw[h24];exact .inr ⟨_,_,_,_,_,_,_,_,by omega,hl1.trans (PH (by omega) hg0 hx0 e2),hE2⟩
      ·rw[Aan h24]at e2;simp only at e2;rw[Acf (by rw[Ah];simpa using h)]at e2;exact .inl ⟨by omega,hl1.trans (bI hx0 (by omega) e2)⟩
     ·have h0:z2=0:=by simpa using h
      subst h0;obtain⟨k1,m2,m3,m4,m5,m6⟩:=hok rfl;have hk3:=k3 rfl;simp only[Ah7,Bhb]at k1;have gl:z1.length=(Ak (Ag r) n).length:=by rw[k1];exact Vl _ _
      rw[Aan (show ¬((0:Int)≠0) by decide)]at e1;rw[Aan (show ¬((0:Int)=24) by decide)]at e2;simp only at e2;rw[Aan (by decide),Bv,Aa,Bew]at e2;rcases hopen with⟨e,he,h1,_⟩|⟨f',c',w',r',n',A',l',o'⟩
      ·rw[e1]at h1;have:=Bba h1;simp only[aR,Ah7]at this;exact absurd this.2.2.2.2.2.2.2.symm he
      ·have hpr:=o'.prog;rw[e1]at hpr;simp only[Ad0,Ah7]at hpr;obtain⟨v1,v2,v3,v4,v5,v6,v7,_⟩:=hpr;refine .inr ⟨f',c',w',r',n',A',l',o',?_⟩;rw[<-v1,<-v2,<-v3,<-v4,<-v5,<-v7];refine hl1.trans ((H3 e2).trans ?_);congr 2;omega
    by_cases h5:f=2
    ·have Aqm:p≠ []:=λe=>by have:=hpf.1 e;omega
     have h64:(p !=([]:List UInt8))=true:=by simpa using Aqm
     rw[Acf h64]at hP;rw[Acf (by rw[As,h5];rfl)]at hT2;by_cases h6:b.length<F+30
     ·rw[Acf (by rw[Ae,Ac];simp;omega)]at hP hT2;rw[Aa]at hT2;simp only at hT2;rw[Acf (by decide)]at hT2;exact .inl ⟨24,by omega,hP, .inr ⟨_,_,_,_,_,_,_,_,by omega,hl1.trans (PH (by omega) hg0 hx0 hT2),hE2⟩⟩
     ·have hseg:((b.take (F+30)).drop (F+22)).length=8:=by simp;omega
      have Bf6:(b.drop (F+22)).take 8=(b.take (F+30)).drop (F+22):=by rw[List.drop_take];congr 1;omega
      rw[Aan (by rw[Ae,Ac];simp;omega),Uy,Aa]at hP;rw[Aan (by rw[Ae,Ac,hdl];simp;omega),Dk,Aa,gM p hp,Aa,show(8:Int).toNat=8 from rfl,Bf6]at hT2;rw[Pa,iC p hp,Aa]at hP;simp only at hP;rw[Aan (by rw[Ah,Ah,Ac,Ac,Cg,show((F+30:Nat):Int).toNat=F+30 from rfl,show((F+22:Nat):Int).toNat=F+22 from rfl,hseg];simp),Ij,Aa,Aa]at hP;simp only at hP;rw[Aan (by rw[Ah];simp),show((F+30:Nat):Int).toNat=F+30 from rfl,show((F+22:Nat):Int).toNat=F+22 from rfl]at hP;generalize(b.take (F+30)).drop (F+22)=uM at*
      by_cases h7:uM=Sk (Uk p).toNat 8
      ·rw[Aan (by simp[h7])]at hP hT2;exact hend 8 (by omega) (by rw[Acf h5]) hP hT2
      ·rw[Acf (by simpa using h7)]at hP;rw[Acf (by simpa using h7),Aa]at hT2;simp only at hT2;rw[Acf (by decide)]at hT2;exact .inl ⟨26,by omega,hP, .inl ⟨by omega,hl1.trans (bI hx0 (by decide) hT2)⟩⟩
    ·have hpe:p=[]:=hpf.2 (by omega);rw[Aan (by rw[hpe];simp)]at hP;rw[Aan (by rw[As];simp;omega)]at hT2;exact hend 0 (by omega) (by rw[Aan h5]) hP hT2
  ·have h3':=h3;generalize Ek (Il b)=v at*
   obtain⟨v1,v2,v3,v4,v5,v6⟩:=v;simp only at h3 hP hE hrn;rw[Acf (by rw[Ah];simpa using h3)]at hP;refine .inl ⟨v6,h3,hP,?_⟩;by_cases Ay8:(Pe (Il b) L6||Pe (Il b) Q3)=true
   ·rw[Acf Ay8]at hT;simp only at hT;rw[Acf (by decide)]at hT;exact .inr ⟨_,_,_,_,_,_,_,_,by omega,PH (by omega) hg0 hx0 hT,hE⟩
   ·rw[Aan Ay8]at hT;by_cases h24:v6=24
    ·rw[Acf h24]at hT;simp only at hT;rw[Acf (by decide)]at hT;exact .inr ⟨_,_,_,_,_,_,_,_,by omega,PH (by omega) hg0 hx0 hT,hE⟩
    ·rw[Aan h24]at hT;simp only at hT;rw[Acf (by rw[Ah];simpa using h3)]at hT;exact .inl ⟨by omega,bI hx0 (by omega) hT⟩
 ·have h2':=h2;generalize Bq b=v at*
  obtain⟨v,e⟩:=v;simp only at h2 hP hT hE hfn;rw[Acf (by rw[Ah];simpa using h2)]at hP hE;refine .inl ⟨e,h2,hP,?_⟩;by_cases h24:e=24
  ·rw[Acf h24]at hT;simp only at hT;rw[Acf (by decide)]at hT;exact .inr ⟨_,_,_,_,_,_,_,_,by omega,PH (by omega) hg0 hx0 hT,hE⟩
  ·rw[Aan h24,Acf h2]at hT;simp only at hT;rw[Acf (by rw[Ah];simpa using h2)]at hT;exact .inl ⟨by omega,bI hx0 (by omega) hT⟩
section
variable {b p:List UInt8} {f c w r n A:Nat} {l:List Int} (o:Opn b p f c w r n A l) (hb:b.length<=20000)
include o hb
theorem O4:∀(j k q:Nat) (acc:List UInt8),k+j=l.length->j<q-> (A:Int)+(l.take k).sum<=b.length->acc.length<=12000*k->
  ∃X,Ends p (Rc q p (b.drop ((A:Int)+(l.take k).sum).toNat) (f:Int) (c:Int) (w:Int) (r:Int) (n:Int) l (k:Int) acc) X (nR (GA b p f c w r n A l) (B2 b A l) j k acc).2/\
   ((nR (GA b p f c w r n A l) (B2 b A l) j k acc).2=0->X=(nR (GA b p f c w r n A l) (B2 b A l) j k acc).1)
 |j,k,0,_,_,h,_,_=>absurd h (Awy _)
 |j,k,q+1,acc,hk,hq,hA,ha=>by
  have hd:HdI (f:Int) (c:Int) (w:Int) (r:Int) (n:Int) f c w r n:=⟨rfl,rfl,rfl,rfl,rfl,o.shape,o.fit⟩;have hs1:=o.some1;have hsum:=o.sum;have RF:=hd.num;have hlen:=o.len;have b1:=Kk o.five k;have hfn:¬(geq (f:Int) 0=true):=by rw[As];simp;omega
  have hgl:¬(geq (Ac l) 0=true):=by rw[As,Ac,Avz];omega
  have hgf:geq (Ac l) 0=false:=by simpa using hgl
  generalize hIn:b.drop ((A:Int)+(l.take k).sum).toNat=In;have Bf7:In.length=b.length-((A:Int)+(l.take k).sum).toNat:=by rw[<-hIn,Ah5]
  have hT:Al p In (f:Int) (c:Int) (w:Int) (r:Int) (n:Int) l (k:Int) acc false 0=Al p In (f:Int) (c:Int) (w:Int) (r:Int) (n:Int) l (k:Int) acc false 0:=rfl
  conv at hT=>rhs;rw[Al,Ca,Aan hfn,Cq,Cn,Aan hgl]
  have hE:Cy p In (f:Int) (c:Int) (w:Int) (r:Int) (n:Int) l (k:Int) acc false 0=Cy p In (f:Int) (c:Int) (w:Int) (r:Int) (n:Int) l (k:Int) acc false 0:=rfl
  conv at hE=>rhs;rw[Cy,Aan hfn]
  cases j with
  |zero=>
   obtain rfl:k=l.length:=by omega
   rw[Azd]at hIn Bf7;have hbe:B2 b A l=(Ww In).2:=by rw[B2,hIn]
   rw[Acf (by rw[As,Ac];simp)]at hT;have hgt:Cj (l.length:Int) (Ac l)=false:=by rw[Ae,Ac,Azw];omega
   rw[Aan (by rw[hgf,hgt];decide),xY In (by omega),Aa]at hE;rw[nR,hbe];have hbz:=Aah In;have hb4:4000<In.length-> (Ww In).2=38:=λh4=>by rw[Ww,Acf h4]
   generalize Ww In=z at*
   obtain⟨z1,z2⟩:=z;simp only at hE hbz hb4⊢;by_cases h4:4000<In.length
   ·rw[Acf (by rw[Aq,Ac];simp;omega)]at hT;rw[hb4 h4,Acf (by decide)];exact⟨acc, .inl ⟨by decide,bI (by omega) (by decide) hT⟩,λh=>by cases h⟩
   ·rw[Aan (by rw[Aq,Ac];simp;omega)]at hT;have hlw:=PH (q:=q) (by omega:In.length<=100000) hs1.2 (by omega) hT;rcases hbz with h|h
    ·rw[h,Aan (by decide)];rw[h,Aan (by decide)]at hE;exact⟨acc, .inr ⟨_,_,_,_,_,_,_,_,by omega,hlw,hE⟩,λ_=>rfl⟩
    ·rw[h,Acf (by decide)];rw[h,Acf (by decide)]at hE;exact⟨acc, .inr ⟨_,_,_,_,_,_,_,_,by omega,hlw,hE⟩,λh=>by cases h⟩
  |succ j=>
   have hlt:k<l.length:=by omega
   have hlt2:k<(Ak (Ag r) n).length:=by omega
   obtain⟨m,x,s,e,g⟩:=tD o k hlt;have hw:Bl (w:Int):=(Uu o.shape).2.1;have Bis:=g.lens hw;have b2:=Kk o.five (k+1);have e1:=Mp hlt;have h5:=o.five l[k] (Aqp _);have hm:=g.mom;rw[Aan (by rw[As,Ac];simp;omega),Dn,Fy,Br hlt,Aa]at hT;have hgt:Cj (k:Int) (Ac l)=true:=by rw[Ae,Ac,Adx];omega
   rw[Acf (by rw[hgf,hgt];decide)]at hE;rw[nR,g.eq];simp only;rcases g.way with⟨w1,rfl⟩|⟨w1,_,w2⟩
   ·rw[Acf (by rw[Ae,Ac];simp;omega),Aa]at hT;simp only at hT;rw[Acf (by decide)]at hT;rw[Acf (by decide)];exact⟨acc, .inr ⟨_,_,_,_,_,_,_,_,by omega,PH (by omega) hs1.2 (by omega) hT,hE⟩,λh=>by cases h⟩
   ·have hseg:In.take l[k].toNat=Agx b A l k:=by
     rw[Agx,<-hIn,List.drop_take];congr 1;omega
    have hnn:=E8 hw (Nv p) RF.2.1.1 RF.2.1.2 g.pos.1 (by
     have hlt3:=Br hlt2;rw[hlt3]at hm;have hm':=Bba hm;obtain⟨m',hm2,m1,m2⟩:=Zz (Em r) RF.2.2.2.2.1 (Aqp hlt2);omega) w2
    rw[Aan (by rw[Ae,Ac];simp;omega),aS p o.pass,Aa]at hT;simp only at hT;rw[Dk,Aa,hseg,Hn,Aa]at hT;simp only at hT;rw[hd.Afy,Aa,hm,Aa,Aa,w2,Aa]at hT;simp only at hT;rw[Gb,Ft]at hT;by_cases he:e≠0
    ·rw[Acf (by rw[Ah];simpa using he),Aa]at hT;simp only at hT;rw[Acf (by rw[Ah];simpa using he)]at hT;rw[Acf he];exact⟨acc, .inl ⟨by simp only;omega,bI (by omega) (by omega) hT⟩,λh=>absurd h he⟩
    ·have he0:e=0:=by simpa using he
     obtain⟨q1,q2,q3,q4,q5⟩:=g.some' he0;rw[Aan (by rw[Ah];simpa using he),YK hw (by omega) q3,<-q1,Aa,Aa]at hT;simp only at hT;rw[Aan (by decide),Bg (by simp;omega),Aa,Auy,Bg,Aa,Aa,Bv,Aa,Aj]at hT;rw[Aan he,H3 hT];have Bf8:In.drop l[k].toNat=b.drop ((A:Int)+(l.take (k+1)).sum).toNat:=by rw[<-hIn,Bew];congr 1;omega
     rw[Bf8];exact O4 j (k+1) q (acc++s) (by omega) (by omega) q5 (by rw[Adl];omega)
end
theorem Apf(b p:LB)(hb:b.length<=20000)(hp:p.length<=64):∃(X:LB) (x1 x2 x3:Int) (x4:LX) (E:Int),Ends p (Fd p b) X E/\Tc b p=some (x1,x2,x3,x4,E)/\ (E=0->Ni x2 x4=some (X,0)):=by
 obtain⟨q,hq⟩:∃q,Au=q+1002+2:=⟨Au-1004,by have:=Ar;omega⟩;rw[Fd,hq];rcases Ai8 b p hb hp (q+1002)with⟨e,he,h1,h2⟩|⟨f,c,w,r,n,A,l,o,h2⟩
 ·rcases Ak2 b p (by omega) hp with⟨e',he',k1,_,k3,_⟩|⟨f,c,w,r,n,A,l,o,_,_⟩
  ·rw[h1]at k1;have:=Bba k1;simp only[aR,Ah7]at this;obtain rfl:=this.2.2.2.2.2.2.2;exact⟨[],0,0,0,[],e,h2,k3,λh=>absurd h he⟩
  ·have:=o.prog;rw[h1]at this;have:=Bba this;simp only[aR,Ah7]at this;exact absurd this.2.2.2.2.2.2.2 he
 ·rcases Ak2 b p (by omega) hp with⟨e',he',k1,_,k3,_⟩|⟨f',c',w',r',n',A',l',o',k3,_⟩
  ·have:=o.prog;rw[k1]at this;have:=Bba this;simp only[aR,Ah7]at this;exact absurd this.2.2.2.2.2.2.2 he'
  ·have hpr:=o'.prog;rw[o.prog]at hpr;simp only[Ad0,Ah7]at hpr;obtain⟨v1,v2,v3,v4,v5,v6,v7,_⟩:=hpr;obtain rfl:f=f':=by omega
   obtain rfl:c=c':=by omega
   obtain rfl:w=w':=by omega
   obtain rfl:r=r':=by omega
   obtain rfl:n=n':=by omega
   obtain rfl:A=A':=by omega
   subst v7;have hs1:=o.some1;have hat:=o.at';obtain⟨X,g1,g2⟩:=O4 o hb l.length 0 (q+1002) [] (by omega) (by omega) (by rw[Bbt,Bgh];omega) (by simp);rw[Bbt,Bgh,Int.add_zero,Ahe]at g1;have hrc:=Ae2 w (GA b p f c w r n A l) (B2 b A l) l.length 0 [] [];have hgd:=Ag1 (λk=>smF w (GA b p f c w r n A l k)) (λk=>(GA b p f c w r n A l k).2) (B2 b A l) l.length 0 [];rw[Auv,nG]at k3;rw[h2];by_cases hC:(pG (λk=>smF w (GA b p f c w r n A l k)) (λk=>(GA b p f c w r n A l k).2) (B2 b A l) l.length 0 []).2≠0
   ·rw[Acf hC,Abt]at k3;rw[<-hrc]at hC k3;exact⟨X,0,0,0,[],_,g1,k3,λh=>absurd h hC⟩
   ·have hC0:(pG (λk=>smF w (GA b p f c w r n A l k)) (λk=>(GA b p f c w r n A l k).2) (B2 b A l) l.length 0 []).2=0:=by simpa using hC
    obtain⟨hbe,hE',hC1⟩:=hgd hC0;have hE:∀i,i<l.length-> (GA b p f c w r n A l i).2=0:=λi hi=>hE' i (by omega) (by omega);rw[Auy]at hC1;rw[Aan hC,hC1]at k3;rw[hC0]at hrc;have hX:=g2 hrc;rw[hbe,Aad _ _ _ _ λi h1 h2=>hE i (by omega),Auy]at hX;rw[hrc]at g1;exact⟨X,_,_,_,_,0,g1,k3,λ_=>by rw[hX];exact Ano o hE⟩
inductive Pl (S D A:Int) (G:Nat->Int) (l:List Int) (a:Int):UInt8->Int->Int->Prop
 |t:a<S->Pl S D A G l a 1 0 0
 |h:S<=a->a<S+22->Pl S D A G l a 2 0 0
 |d:S+22<=a->a<D->Pl S D A G l a 3 0 0
 |s:S+22<=a->D<=a->a<A->Pl S D A G l a 4 0 0
 |f (i:Nat):S+22<=a->D<=a->A<=a->i<l.length->A+(l.take i).sum<=a->a<A+(l.take (i+1)).sum->Pl S D A G l a 5 i (G i)
 |b:S+22<=a->D<=a->A<=a->A+l.sum<=a->Pl S D A G l a 6 0 0
theorem Auj{o b X:LB}{E:Int}(ho:o.length<=64)(hb:b.length<=20000)(Aqo:Ends o (Fd o b) X E):∃(p2:LB) (f2 c2 w2 r2 n2:Int) (g2:LI) (a2 e3:Int) (u:Bool) (v:Int),Mq o [] 0 0 0 0 0 [] 0 [] false 0 b=some (o,p2,f2,c2,w2,r2,n2,g2,a2,X,false,e3,e3)/\Gc o p2 f2 c2 w2 r2 n2 g2 a2 X false e3=some (o,[],0,0,0,0,0,[],0,X,u,v,E)/\ (e3=0\/e3=E):=by
 obtain⟨p2,f2,c2,w2,r2,n2,g2,a2,y2,e3,d1,_,d3⟩:=(Bh.new ho).feed ho (by simp) b (by omega) (by simp;omega);rw[Auy]at d3;have hs:=d3.Ay9;have hfd:=d3.fd (by omega);have hck:=d3.check ho (by omega);rcases Aqo with⟨h0,h1⟩|⟨p,f,c,w,r,n,g,a,hpl,h1,h2⟩
 ·rw[hfd]at h1;simp only[Ad0,Ah7]at h1;obtain⟨_,rfl,rfl,rfl,rfl,rfl,rfl,rfl,rfl,rfl,_,rfl,_⟩:=h1;obtain⟨u,v,k,k1,k2⟩:=d3.finish ho (by simp);rcases k2 with⟨rfl,rfl,k3,_,k4⟩|⟨rfl,rfl,rfl⟩
  ·have hk:v=e3:=by rcases k4 with h|h<;>omega
   subst hk;exact⟨_,_,_,_,_,_,_,_,_,_,_,d1,k1, .inr rfl⟩
  ·
   exfalso;cases d3 with
   |wt W=>omega
   |er h0 hc hx hB=>
    have:=(Bas (o:=o) (u:=false) (v:=e3) (k:=e3) ho hx (.inl ⟨rfl,rfl,h0,hc⟩)).2.2;rw[this]at k1;simp only[Ad0,Ah7]at k1;exact absurd k1.2.2.2.2.2.2.2.2.2.2.1 (by decide)
 ·rw[hfd]at h1;simp only[Ad0,Ah7]at h1;obtain⟨_,rfl,rfl,rfl,rfl,rfl,rfl,rfl,rfl,rfl,_,rfl,_⟩:=h1;have hbg:=qS (o:=o) (p:=p2) (f:=f2) (c:=c2) (w:=w2) (r:=r2) (n:=n2) (g:=g2) (a:=a2) (x:=y2) (u:=false) (v:=0) (by omega) (by omega) (by omega) hck.1;rw[Aan (by decide)]at hbg;obtain⟨e1,q1,q2⟩:=N1 (o:=o) (p:=p2) (f:=f2) (c:=c2) (w:=w2) (r:=r2) (n:=n2) (a:=a2) (u:=false) (v:=0) (g:=g2) (x:=y2) (by omega);rw[h2]at q2;cases q2;have hF:Gc o p2 f2 c2 w2 r2 n2 g2 a2 y2 false 0=Gc o p2 f2 c2 w2 r2 n2 g2 a2 y2 false 0:=rfl
  conv at hF=>rhs;rw[Gc,hbg,Aa]
  simp only at hF;rw[Aan (by decide),q1,Aa]at hF;by_cases he:Bc E 0=true
  ·rw[Acf he,YB,Aa]at hF;exact⟨_,_,_,_,_,_,_,_,_,_,_,d1,hF, .inl rfl⟩
  ·have hE0:E=0:=by rw[Ah]at he;simpa using he
   rw[Aan he,<-hE0]at hF;exact⟨_,_,_,_,_,_,_,_,_,_,_,d1,by rw[hE0]at hF⊢;exact hF, .inl rfl⟩
theorem C1{w:Nat}(hw:Bl (w:Int)){X:LX}(hX:X.length<=4000)(hr:xq (w:Int) X):Xu (w:Int) (Dz (w:Int) X)=some (X,0):=by
 have h:=yD (Dz (w:Int) X) hw (m:=X.length) (SH hw X) hX;rw[Ahb hw X hr]at h;exact h
theorem ClipOk.enc{c w r n:Nat}{x:List Int32}(h:ClipOk c w r n x){p:LB}(hp:p.length<=64):EncOk c w r p:=⟨h.ch,h.bits,h.rate,hp⟩
def pcs(f g:Nat):Nat->Nat->Nat->LI
 |0,_,_=>[]
 |q+1,h,a=>if a+1=f\/g.testBit (a %64)=true then((a+1-h:Nat):Int)::pcs f g q (a+1) (a+1)else pcs f g q h (a+1)
theorem Aqv(g:UInt64)(k:Nat):(Et (Ci g k) (1:UInt64)).toNat=g.toNat/2^k %2:=by
 rw[zU,Bhc,EI];exact Nat.and_one_is_mod _
theorem Bcn(g:UInt64)(k:Nat):geq (Et (Ci g (GI.toZ (Fo (k:Int) 64)).toNat) 1) (1:UInt64)=g.toNat.testBit (k %64):=by
 have e:(GI.toZ (Fo (k:Int) 64)).toNat=k %64:=by
  unfold Fo;rw[Bdm (by omega)];simp only[GI.toZ];omega
 rw[e,yW,Nat.testBit_eq_decide_div_mod_eq];refine decide_eq_decide.2 ⟨λh=>by rw[<-Aqv,h];rfl,λh=>UInt64.toNat_inj.1 (by rw[Aqv,h];rfl)⟩
theorem Az9(k:Nat):Ms (Fo (k:Int) 64) 0=true:=by
 unfold Fo;rw[Bdm (by omega)];simp[Ms,GI.toZ];omega
theorem Af4(f:Nat)(g:UInt64):∀(q Q h a:Nat) (l:LI),q+a=f->q<Q->h<=a->f<=100000->l.length<=a->Pm (f:Int) g Q (h:Int) (a:Int) l=some (l++pcs f g.toNat q h a,0)
 |q,0,h,a,l,_,hq,_,_,_=>absurd hq (Awy _)
 |0,Q+1,h,a,l,hf,_,_,_,_=>by
  obtain rfl:a=f:=by omega
  simp only[Pm,CG];rw[Aan (by simp[Cj,GI.toZ]),pcs,Als];rfl
 |q+1,Q+1,h,a,l,hf,hq,hh,hl,hll=>by
  simp only[Pm,CG];rw[Acf (by simp[Cj,GI.toZ];omega)];have e1:Ao (f:Int) 1=((f-1:Nat):Int):=by rw[Bu];omega
  have e2:Ad (a:Int) 1=((a+1:Nat):Int):=by rw[Aj];omega
  have e3:Ao ((a+1:Nat):Int) (h:Int)=((a+1-h:Nat):Int):=by rw[Bu];omega
  have e4:geq (a:Int) ((f-1:Nat):Int)=decide (a+1=f):=by
   show decide ((a:Int)=((f-1:Nat):Int))=_;exact decide_eq_decide.2 (by omega)
  rw[e1,e2,e3,e4,Bg (by simp;omega),Aa,Az9,Bcj,Aa,Bcn,pcs];have ih:=λh' l'=>Af4 f g q Q h' (a+1) l' (by omega) (by omega);by_cases h1:a+1=f
  ·rw[Acf (Bcx h1),Acf (.inl h1),ih _ _ (Ao7 _) hl (by simp;omega),Ae8];rfl
  ·rw[Aan (by simpa using h1)];by_cases h2:g.toNat.testBit (a %64)=true
   ·rw[Acf h2,Acf (.inr h2),ih _ _ (Ao7 _) hl (by simp;omega),Ae8];rfl
   ·rw[Aan h2,Aan (λh=>h.elim h1 h2),ih _ _ (by omega) hl (by omega)]
theorem Aai(f:Nat)(g:UInt64)(hf:f<=100000):Xp (f:Int) g=some (pcs f g.toNat f 0 0,0):=by
 unfold Xp OU RB;rw[Aan (by simp[Cj,Ef,GI.toZ];omega)];have:=Af4 f g f Au 0 0 [] (by omega) (by have:=Ar;omega) (Ao7 _) hf (Ao7 _);rw[show((0:Nat):Int)=0 from rfl]at this;rw[this];rfl
theorem R3(f g:Nat):∀(q h a:Nat),(pcs f g q h a).length<=q
 |0,h,a=>Ao7 _
 |q+1,h,a=>by
  rw[pcs];split
  ·rw[Aqj];have:=R3 f g q (a+1) (a+1);omega
  ·have:=R3 f g q h (a+1);omega
theorem Av8:Wj=some true:=by kernel_rfl
def vD(ns:List Nat):List Int:=List.map Int.ofNat ns
theorem QI(ns:List Nat):(vD ns).length=ns.length:=by simp[vD]
theorem Aat{ns:List Nat}{i:Nat}(h:i<ns.length):Go.Lv.Ap (vD ns) (i:Int)=some ((ns[i]:Nat):Int):=by
 rw[Br (by rw[QI];exact h)];simp[vD]
def X0:List Nat->Nat|[]=>0|n::l=>n+X0 l
theorem Aez{ns:List Nat}{i:Nat}(h:i<ns.length):X0 (ns.drop i)=ns[i]+X0 (ns.drop (i+1)):=by
 rw[Bgn h];rfl
theorem T2(f g:Nat):∀(q h a:Nat),q+a=f->h<=a-> (q=0->h=a)->∃ns,pcs f g q h a=vD ns/\X0 ns=f-h
 |0,h,a,hf,hh,h0=>⟨[],rfl,by rw[h0 rfl];simp[X0];omega⟩
 |q+1,h,a,hf,hh,_=>by
  rw[pcs];by_cases h1:a+1=f\/g.testBit (a %64)=true
  ·rw[Acf h1];obtain⟨ns,g1,g2⟩:=T2 f g q (a+1) (a+1) (by omega) (Ao7 _) (λ_=>rfl);exact⟨(a+1-h)::ns,by rw[g1];rfl,by rw[X0,g2];omega⟩
  ·rw[Aan h1];exact T2 f g q h (a+1) (by omega) (by omega) (λe=>absurd (.inl (by omega)) h1)
theorem Bh.len{o s p:LB}{f c w r n:Int}{g:LI}{a:Int}{x:LB}{e:Int}(h:Bh o s p f c w r n g a x e):p.length<=s.length/\g.length<=1000/\x.length<=13000000:=by
 cases h with
 |wt W hl hb=>exact⟨hl,W.sz.hg,by have:=W.sz.hx;omega⟩
 |er h0 hc hx hb=>exact⟨by simp,by simp,by omega⟩
def qb(o b:LB):Option (LB×Int):=(Fd o b).bind λ(t1,t2,t3,t4,t5,t6,t7,t8,t9,t10,t11,t12,e)=>if Bc e 0 then some (t10,e)else(Gc t1 t2 t3 t4 t5 t6 t7 t8 t9 t10 t11 t12).bind λ(_,_,_,_,_,_,_,_,_,y,_,_,k)=>some (y,k)
theorem Bh.whole{o b p:LB}{f c w r n:Int}{g:LI}{a:Int}{x:LB}{e:Int}(ho:o.length<=64)(hb:b.length<=100000){s:Nat}(h:Bh o (b.take s) p f c w r n g a x e)(h0:e≠0):qb o b=some (x,e):=by
 cases h with
 |wt W hl hB=>exact absurd rfl h0
 |er h1 hc hx hB=>
  have:=hB (b.drop s) (by rw[Ba1];exact hb);rw[Ba1]at this;rw[qb,this,Aa];simp only;rw[Acf (by rw[Ah];simp;omega)]
theorem Aso(o b:LB)(ho:o.length<=64)(ns:List Nat)(hb:b.length<=10000)(hn:ns.length<=10000):∀(r i s q:Nat) (p:LB) (f c w rr n:Int) (g:LI) (a:Int) (x:LB),Bh o (b.take s) p f c w rr n g a x 0->i+r=ns.length->s+X0 (ns.drop i)=b.length->r<q->
  Vw (vD ns) q (b.drop s) (i:Int) o f c w rr n a x false 0 p g=qb o b
 |r,i,s,0,_,_,_,_,_,_,_,_,_,_,_,_,h=>absurd h (Awy _)
 |r,i,s,q+1,p,f,c,w,rr,n,g,a,x,hB,hi,hs,hq=>by
  have hlen:=hB.len;have hpl:p.length<=10000:=by have:=hlen.1;rw[Ahn]at this;omega
  rw[Vw,QN];cases r with
  |zero=>
   have hN:¬(Cj (i:Int) (Ac (vD ns))=true):=by rw[Ae,Ac,QI];simp;omega
   have hd:ns.drop i=[]:=List.drop_eq_nil_of_le (by omega);rw[hd,X0,Bde]at hs;rw[hs,Azd]at hB;rw[Aan hN,JJ,cQ,qb,hB.fd (by omega),Aa];rfl
  |succ r=>
   have hlt:i<ns.length:=by omega
   have hN:Cj (i:Int) (Ac (vD ns))=true:=by rw[Ae,Ac,QI];simp;omega
   have hsd:=Aez hlt;rw[Acf hN,Aat hlt];simp only[Aa];have hln:(b.drop s).length=b.length-s:=Ah5;have c1:Bp (b.drop s) 0 ((ns[i]:Nat):Int)=some ((b.drop s).take ns[i]):=by rw[Dk];simp
   have e4:b.take s++(b.drop s).take ns[i]=b.take (s+ns[i]):=by rw[List.take_add]
   obtain⟨p2,f2,c2,w2,r2,n2,g2,a2,x2,e3,d1,_,d3⟩:=hB.feed ho (by omega) ((b.drop s).take ns[i]) (by rw[Ahn];omega) (by rw[e4,Ahn];omega);rw[e4]at d3;rw[c1,Aa,d1,Aa];simp only[NA,dR];by_cases he:e3=0
   ·subst he;have e2:Ad (i:Int) 1=((i+1:Nat):Int):=by rw[Aj];omega
    have c3:Bp (b.drop s) ((ns[i]:Nat):Int) (Ac (b.drop s))=some (b.drop (s+ns[i])):=by
     rw[Bv];simp only[Ahe,Bew]
    rw[Aan (by decide),c3,Aa,e2];exact Aso o b ho ns hb hn r (i+1) (s+ns[i]) q p2 f2 c2 w2 r2 n2 g2 a2 x2 d3 (by omega) (by omega) (by omega)
   ·rw[Acf (by rw[Ah];simpa using he),d3.whole ho (by omega) he]
theorem Aws(o b:LB)(ho:o.length<=64)(ns:List Nat)(hb:b.length<=10000)(hn:ns.length<=10000)(hs:X0 ns=b.length):RG o b (vD ns)=qb o b:=by
 have hO:¬(Ef (Ac o) 64=true):=by rw[Aq,Ac];simp;omega
 rw[RG,QY,rM,Aan hO,Aa];simp only;rw[Aan (by decide)];exact Aso o b ho ns hb hn ns.length 0 0 Au [] 0 0 0 0 0 [] 0 [] (by rw[Bbt];exact Bh.new ho) (by omega) (by rw[Bg4];omega) (by have:=Ar;omega)
theorem Ahx(C W R:Int)(p:LB):Ji C W R p=some 2\/ (∃c w r:Nat,C=(c:Int)/\W=(w:Int)/\R=(r:Int)/\EncOk c w r p/\Ji C W R p=some 0):=by
 have key:∀(m h:Int),Gy R=some (m,h)-> (h≠0\/Bn C W=some 2\/64<p.length)-> (∃k,Bn C W=some k)->Ji C W R p=some 2:=by
  intro m h h1 h2 ⟨k,hk⟩;rw[Ji,h1,Aa];simp only;rw[hk,Aa,Acf];rcases h2 with h2|h2|h2
  ·have:Bc h 0=true:=by rw[Ah];simpa using h2
   rw[this];simp
  ·rw[hk]at h2;have:=Bba h2;subst this;simp[Ah]
  ·have:Ef (Ac p) 64=true:=by rw[Aq,Ac];simp;omega
   rw[this];simp
 have hlong:∃m h,Gy R=some (m,h)/\ (h≠0↔ ¬(1<=R/\R<=1048576)):=by
  by_cases hR:1<=R/\R<=1048576
  ·obtain⟨r,rfl⟩:=Ah6 (show 0<=R by omega);exact⟨_,0,Aic (by omega) (by omega),by simp;omega⟩
  ·rw[Gy,Acf (by simp[Ae,Aq];omega)];exact⟨0,2,rfl,by simp;omega⟩
 have Bf9:(Bn C W=some 2)\/ (1<=C/\C<=6/\Bl W/\Bn C W=some 0):=by
  rw[Bn];by_cases hC:((Cj C 1)||(Ef C 6))=true
  ·rw[Acf hC];exact .inl rfl
  ·rw[Aan hC];simp only[Azr,not_or,Aq,Ae,Adx]at hC;by_cases hb:Bl W
   ·have hh:=FL W;rw[WQ hb,Aa,Aan (by rw[As];simp;omega)];exact .inr ⟨by omega,by omega,hb,rfl⟩
   ·rw[(rB hb).1,Aa,Acf (by decide)];exact .inl rfl
 obtain⟨m,hh,hl1,hl2⟩:=hlong;rcases Bf9 with h1|⟨h1,h2,h3,h4⟩
 ·exact .inl (key m hh hl1 (.inr (.inl h1)) ⟨2,h1⟩)
 ·by_cases hR:1<=R/\R<=1048576
  ·by_cases hp:64<p.length
   ·exact .inl (key m hh hl1 (.inr (.inr hp)) ⟨0,h4⟩)
   ·have hh0:hh=0:=by
     refine Beq λhn=>?_;exact(hl2.1 hn) hR
    obtain⟨c,rfl⟩:=Ah6 (show 0<=C by omega);obtain⟨r,rfl⟩:=Ah6 (show 0<=R by omega);have hw:∃w:Nat,W=(w:Int):=by
     rcases h3 with rfl|rfl|rfl
     ·exact⟨8,rfl⟩
     ·exact⟨16,rfl⟩
     ·exact⟨24,rfl⟩
    obtain⟨w,rfl⟩:=hw;refine .inr ⟨c,w,r,rfl,rfl,rfl,⟨by omega,h3,by omega,by omega⟩,?_⟩;rw[Ji,hl1,Aa];simp only;rw[h4,Aa,hh0,Aan (by simp[Ah,Aq,Ac];omega)]
  ·exact .inl (key m hh hl1 (.inl (hl2.2 hR)) ⟨0,h4⟩)
theorem ClipOk.both{c w r n:Nat}{x:List Int32}(h:ClipOk c w r n x):Ep (c:Int) (w:Int) (r:Int) x=some 0:=by
 have fo:=Anr h (p:=[]) (by simp);have h24:=Ax3 fo.Gu h.cnt.1 (Ao7 _) h.len h.rng;rcases Afb (c:Int) (w:Int) (r:Int) x with⟨e8,_⟩|⟨_,_,_,_,_,_,_,_,_,e⟩
 ·rw[h24]at e8;exact absurd (Bba e8) (by decide)
 ·exact e
section
variable {c w r:Nat} {p:LB} (h:EncOk c w r p)
include h
def Ta(c w r:Nat)(p b:LB):LB×Int:=if CH c r (nE c w b)then(if RE c w b≠ []\/nE c w b=0 then([],24)else(NO c w r (nE c w b) (XE c w b) p,0))else([],18)
theorem Ajm{F:LB}(hF:F.length<=100000):RO (c:Int) (w:Int) (r:Int) p [] [] [] F true 0 100000=some ((c:Int),(w:Int),(r:Int),p,[],[],[],[],true,0,F,0):=by
 have hck:Sr (c:Int) (w:Int) (r:Int) p [] [] [] F true 0=some 0:=by
  rw[Sr,H8 h,Aa];simp only;rw[Aan (by decide),Aan (by decide),Acf (by trivial),Aan];have:I8 (Ac F) 100000=true:=by rw[TV,Ac];simp;omega
  rw[this];decide
 have htw:=Agg (a:=[]) (λy hy=>by simp at hy) (by simp) (c:Int) (w:Int) (r:Int) p (x:=[]) (s:=[]) (z:=F) (by simp) (by simp) (by omega) true 0;have hm:Fi 100000 (Ac F)=(F.length:Int):=by rw[FH,Ac];omega
 rw[RO,hck,Aa,Aan (by decide),Aan (by decide),htw,Aa];simp only;rw[hm,Dk,Aa,Ahe,Azd,Bo,Bg (by simp;omega),Aa,Aa,Bv,Aa,Ahe,Beb,Auy]
theorem Ad7(b:LB)(ns:List Nat)(hb:b.length<=10000)(hn:ns.length<=10000):∀(j i s q:Nat),i+j=ns.length->s+X0 (ns.drop i)=b.length->j<q->CH c r (nE c w (b.take s))->
  Pr (vD ns) q (b.drop s) (i:Int) (c:Int) (w:Int) (r:Int) p false 0 (RE c w (b.take s)) (SE c w r (b.take s)) (FE c w r p (b.take s)) []=some (Ta c w r p b)
 |j,i,s,0,_,_,h,_=>absurd h (Awy _)
 |0,i,s,q+1,hi,hs,_,hR=>by
  have e:b.take s=b:=Apg (by rw[Bc1 (by omega)]at hs;simp[X0]at hs;omega);rw[e]at hR⊢;have hfin:=Ajx h b hR;rw[Pr,BH,Aan (by rw[Ae,Ac,QI];simp;omega),LA,dU,hfin,Aa,Ta,Acf hR];by_cases hbad:RE c w b≠ []\/nE c w b=0
  ·rw[Acf hbad,Acf hbad];simp only;rw[Acf (by decide)]
  ·rw[Aan hbad,Aan hbad];have hn1:1<=nE c w b:=by
    rcases Bf1 (nE c w b)with h0|h0
    ·exact absurd (.inr h0) hbad
    ·exact h0
   have hcl:=B6 h b hR hn1;simp only;rw[Aan (by decide),Ajm h (by have:=tY hcl p;omega),Aa]
 |j+1,i,s,q+1,hi,hs,hq,hR=>by
  have hil:i<ns.length:=by omega
  have hi1:Ad (i:Int) 1=((i+1:Nat):Int):=by rw[Aj];omega
  have hsd:=Aez hil;have ih:=Ad7 b ns hb hn j (i+1) (s+ns[i]) q (by omega) (by omega) (by omega);have Bga:b.take s++(b.drop s).take ns[i]=b.take (s+ns[i]):=by rw[List.take_add]
  have hfd:=Aut h (b.take s) ((b.drop s).take ns[i]) (by rw[Ahn,Ah5];omega) hR;rw[Bga,Ass]at hfd;rw[Pr,BH,Acf (by rw[Ae,Ac,QI];simp;omega),Aat hil,Aa,Aa,Dk (by omega) (by rw[Ah5];omega),Aa,Ahe,hfd,Aa];by_cases hok:CH c r (nE c w (b.take (s+ns[i])))
  ·rw[Acf hok];simp only;rw[BF,QT,Aan (by decide),Bv (by omega) (by rw[Ah5];omega),Aa,Ahe,Bew,hi1];exact ih hok
  ·rw[Aan hok];simp only;rw[BF,QT,Acf (by decide),Ta,Aan];intro hh;exact hok (hh.mono (Bgq (by rw[Ahn];omega)))
theorem Ajg(b:LB)(hb:b.length<=10000)(m:UInt64):Tp (c:Int) (w:Int) (r:Int) p b m=some (Ta c w r p b):=by
 obtain⟨ns,h1,h2⟩:=T2 b.length m.toNat b.length 0 0 (by omega) (by omega) (λ_=>rfl);have hlen:ns.length<=b.length:=by
  have:=R3 b.length m.toNat b.length 0 0;rw[h1,QI]at this;exact this
 have hl:=Ad7 h b ns hb (by omega) ns.length 0 0 Au (by omega) (by rw[Bg4];omega) (by have:=Ar;omega) (by rw[Bbt,show nE c w []=0 from Nat.zero_div _];exact Apt c r);rw[Bbt,Bg4]at hl;rw[Tp,PB,Ac,Aai _ _ (by omega),Aa];simp only;rw[Aan (by decide),Ayj h,Aa];simp only;rw[Aan (by decide),h1];exact hl
end
theorem su{b p:LB}(hb:b.length<=10000)(hp:p.length<=64){X:LB}{E:Int}(Aqo:Ends p (Fd p b) X E)(m:UInt64):Xx p b m=some (X,E):=by
 obtain⟨ns,h1,h2⟩:=T2 b.length m.toNat b.length 0 0 (by omega) (by omega) (λ_=>rfl);have hlen:ns.length<=b.length:=by
  have:=R3 b.length m.toNat b.length 0 0;rw[h1,QI]at this;exact this
 have Bgb:=Aws p b hp ns hb (by omega) (by omega);have hA:qb p b=some (X,E):=by
  obtain⟨p2,f2,c2,w2,r2,n2,g2,a2,e3,u,v,k1,k2,k3⟩:=Auj hp (show b.length<=20000 by omega) Aqo;obtain⟨q2,f3,c3,w3,r3,n3,g3,a3,y3,e4,d1,_,d3⟩:=(Bh.new hp).feed hp (by simp) b (by omega) (by simp;omega);rw[Auy]at d3;have hfd:=d3.fd (by omega);rw[d1]at k1;simp only[Ad0,Ah7]at k1;obtain⟨_,rfl,rfl,rfl,rfl,rfl,rfl,rfl,rfl,rfl,_,rfl,_⟩:=k1;rw[qb,hfd,Aa];simp only;by_cases h0:e4=0
  ·rw[Aan (by rw[h0];decide),k2,Aa]
  ·have:e4=E:=by
    rcases k3 with h|h
    ·exact absurd h h0
    ·exact h
   rw[Acf (by rw[Ah];simpa using h0),this]
 rw[Xx,Ac,Aai _ _ (by omega),Aa];simp only;rw[Aan (by decide),h1,Bgb,hA,Aa]
theorem As7{c w r:Nat}{p:LB}(h:EncOk c w r p){b:LB}(h0:RE c w b=[]):Dz (w:Int) (XE c w b)=b:=by
 have:=Aq2 h b;rw[h0,Als]at this;exact this
theorem Aas{c w r:Nat}{p b:LB}(hk:(Ta c w r p b).2=0):CH c r (nE c w b)/\RE c w b=[]/\1<=nE c w b/\Ta c w r p b=(NO c w r (nE c w b) (XE c w b) p,0):=by
 unfold Ta at hk⊢;by_cases hR:CH c r (nE c w b)
 ·rw[Acf hR]at hk⊢;by_cases hb:RE c w b≠ []\/nE c w b=0
  ·rw[Acf hb]at hk;cases hk
  ·rw[Aan hb];refine⟨hR,?_,?_,rfl⟩
   ·by_cases h0:RE c w b=[]
    ·exact h0
    ·exact absurd (.inl h0) hb
   ·rcases Bf1 (nE c w b)with h0|h0
    ·exact absurd (.inr h0) hb
    ·exact h0
 ·rw[Aan hR]at hk;cases hk
theorem Akb{c w r:Nat}{p b:LB}(hk:(Ta c w r p b).2≠0):Ta c w r p b=([],24)\/Ta c w r p b=([],18):=by
 unfold Ta at hk⊢;by_cases hR:CH c r (nE c w b)
 ·rw[Acf hR]at hk⊢;by_cases hb:RE c w b≠ []\/nE c w b=0
  ·rw[Acf hb];exact .inl rfl
  ·rw[Aan hb]at hk;exact absurd rfl hk
 ·rw[Aan hR];exact .inr rfl
theorem Auu(hal:Wj=some true)(C W R:Int)(p b:LB)(m k:UInt64):Mt C W R p b m k=some true:=by
 rw[Mt,Pd,hal,Aa];rcases Ahx C W R p with e2|⟨c,w,r,rfl,rfl,rfl,h,e0⟩
 ·rw[e2,Aa,Acf (by simp[Ah])]
 rw[e0,Aa];by_cases hc:((Bc (0:Int) 0||Ef (Ac b) 400)|| !true)=true
 ·rw[Acf hc]
 rw[Aan hc];simp only[Azr,not_or,Aq,Ac,Adx]at hc;obtain⟨⟨_,c2⟩,_⟩:=hc;have hp:=h.pass;have hb:b.length<=400:=by omega
 obtain⟨X,x1,x2,x3,x4,E,Aqo,Bej,Bgc⟩:=Apf b p (by omega) hp;have hlenA:∀e,(Ta c w r p b).2=e->e≠0-> (Ta c w r p b).1=[]:=by
  intro e he hne;rcases Akb (c:=c) (w:=w) (r:=r) (p:=p) (b:=b) (by rw[he];exact hne)with h1|h1<;>rw[h1]
 have hfin:∀v,Ev (r:Int) p b true (Ta c w r p b).2 (c:Int) (w:Int) (Ta c w r p b).1=some v->v=true:=by
  intro v hv;rw[Ev,Pc]at hv;by_cases hk:(Ta c w r p b).2=0
  ·obtain⟨hR,hRE,hn1,hA⟩:=Aas hk;have hcl:=B6 h b hR hn1;have hX:=As7 h hRE;have hsb:=C1 h.bits (X:=XE c w b) (hcl.le.2.2.2) hcl.rng;rw[hX]at hsb;have hef:=L7 hcl hcl.both p hp;rw[hA]at hv;simp only at hv;rw[Aan (by decide),hsb,Aa]at hv;simp only at hv;rw[hef,Aa]at hv;simp[As]at hv;exact hv
  ·have h0:=hlenA _ rfl hk;rw[Acf (by rw[Ah];simpa using hk),h0]at hv;simp[As,Ac]at hv;exact hv
 have hsome:∃v,Ev (r:Int) p b true (Ta c w r p b).2 (c:Int) (w:Int) (Ta c w r p b).1=some v:=by
  rw[Ev,Pc];by_cases hk:(Ta c w r p b).2=0
  ·obtain⟨hR,hRE,hn1,hA⟩:=Aas hk;have hcl:=B6 h b hR hn1;have hX:=As7 h hRE;have hsb:=C1 h.bits (X:=XE c w b) (hcl.le.2.2.2) hcl.rng;rw[hX]at hsb;have hef:=L7 hcl hcl.both p hp;rw[Aan (by rw[hk];decide),hsb,Aa];simp only;rw[hef,Aa];exact⟨_,rfl⟩
  ·rw[Acf (by rw[Ah];simpa using hk)];exact⟨_,rfl⟩
 obtain⟨v,hv⟩:=hsome;have hvt:=hfin v hv;subst hvt;rw[su (by omega) hp Aqo,Aa];simp only;rw[su (by omega) hp Aqo,Aa];simp only;have hce:∀m,Tp (c:Int) (w:Int) (r:Int) p b m=some ((Ta c w r p b).1,(Ta c w r p b).2):=λm=>Ajg h b (by omega) m;rw[hce,Aa];simp only;rw[hce,Aa];simp only;rw[Bej,Aa];simp only;rw[Aan (by simp[Ah])];by_cases hE:E=0
 ·rw[Acf (by rw[hE];decide),Bgc hE,Aa];simp only;rw[Aan (by simp[Ah])];exact hv
 ·rw[Aan (by rw[As];simpa using hE)];exact hv
theorem law_ChunksMasks(C W R:Int)(p b:LB)(m k:UInt64):Mt C W R p b m k=some true:=Auu Av8 C W R p b m k
end Go.Pl
