/- A part of a proof (see the text that ends in Proof). No conditions. -/
import Derived.Test.YtehlnpncgkmoaaaGreatDoorCcPA
import Derived.KernelRfl
set_option linter.unusedVariables false
set_option linter.unusedSimpArgs false
namespace Go.Lv
variable{a b:Int}{l:List UInt8}{n:Nat}{α:Type}
theorem Aj(h: -9223372036854775808<=a+b:=by omega)(h':a+b<=9223372036854775807:=by omega):Ae a b=a+b:=by rw[Aj6,Dh h h']
theorem Du(h: -9223372036854775808<=a-b:=by omega)(h':a-b<=9223372036854775807:=by omega):Ag a b=a-b:=by rw[Akg,Dh h h']
theorem Ia(h: -9223372036854775808<=a*b:=by omega)(h':a*b<=9223372036854775807:=by omega):Bf a b=a*b:=by rw[Abv,Dh h h']
theorem bQ(c:UInt8):(Ad c:Int)=(c.toNat:Int):=by rw[Adi,Dh]<;>have:=c.toNat_lt<;>omega
theorem V3(c:UInt32):(Ad c:Int)=(c.toNat:Int):=by rw[Aah,Dh]<;>have:=c.toNat_lt<;>omega
theorem X7(c:UInt8):(Ad c:UInt64)=UInt64.ofNat c.toNat:=by simp only[Ad,CY,Jr]
theorem Db(c:UInt32):(Ad c:UInt64)=UInt64.ofNat c.toNat:=by simp only[Ad,BC,Jr]
theorem UM(c:UInt64):(Ad c:UInt8)=UInt8.ofNat c.toNat:=by simp only[Ad,Ki,Mg]
theorem fS(c:UInt32):(Ad c:UInt8)=UInt8.ofNat c.toNat:=by simp only[Ad,BC,Mg]
theorem FA(n:Nat):(Ad (n:Int):UInt64)=UInt64.ofNat n:=by simp only[Ad];exact Jr n
theorem xK(n:Nat):(Ad (n:Int):UInt32)=UInt32.ofNat n:=by simp only[Ad];exact Jq n
theorem Ac1(n:Nat):(Ad (n:Int):UInt8)=UInt8.ofNat n:=by simp only[Ad];exact Mg n
theorem mF{c:UInt64}(h:c.toNat<9223372036854775808):(Ad c:Int)=(c.toNat:Int):=by rw[Aab,Dh]<;>omega
theorem tu:H5=17179869184:=F4
theorem Ar:36893488147419103231<Aq:=F4
theorem Cu{l:List α}(h:n<l.length:=by omega):Ah l (n:Int)=some l[n]:=by simp[Ah,h]
theorem Wq{l:List α}(x:α)(h:n<l.length):Ka l (n:Int) x=some (l.set n x):=by simp[Ka,h]
theorem fF{l:List α}(h:0<=a:=by omega)(h1:a<=b:=by omega)(h2:b<=l.length:=by omega):Ff l a b=some ((l.take b.toNat).drop a.toNat):=by rw[Ff,Abp ⟨h,h1,h2⟩]
theorem cG{l:List α}(h:0<=a:=by omega)(h1:a<=l.length:=by omega):Ff l a (Ac l)=some (l.drop a.toNat):=by
 unfold Ac;rw[fF h h1 (Int.le_refl _),Ajg,Ap3]
theorem JL{l:List α}(h:0<=b:=by omega)(h1:b<=l.length:=by omega):Ff l 0 b=some (l.take b.toNat):=by rw[fF (Int.le_refl _) h h1];rfl
theorem Az{l m:List α}(h:l.length+m.length<=17179869184:=by omega):Bx l m=some (l++m):=by rw[Bx,tu,Abp h]
theorem xF{n:Int}{z:α}(h:0<=n:=by omega)(h':n<=17179869184:=by omega):mkI n z=some (List.replicate n.toNat z):=by rw[mkI,tu,Abp ⟨h,h'⟩]
theorem Alv:Hq true=some ():=rfl
theorem Cf{b:Bool}(h:b=true):Hq b=some ():=by rw[h];rfl
theorem Aa{β:Type}(a:α)(f:α->Option β):Option.bind (some a) f=f a:=rfl
theorem drop_cons{l:List α}(h:n<l.length):l.drop n=l[n]::l.drop (n+1):=List.drop_eq_getElem_cons h
theorem Jb{l:List α}(h:n<l.length):l.take (n+1)=l.take n++[l[n]]:=by rw[List.take_add_one,List.getElem?_eq_getElem h];rfl
def Oj:List UInt8->Nat
 |[]=>0
 |x::r=>x.toNat+256*Oj r
theorem iy:∀l:List UInt8,Oj l<256^l.length
 |[]=>by simp[Oj]
 |x::r=>by
  have h:=iy r;have:=x.toNat_lt;simp only[Oj,Ajc,Aod];omega
def H8(l:List UInt8):UInt64:=UInt64.ofNat (Oj l)
theorem Afv(h:l.length<=8):Oj l<18446744073709551616:=by
 have h1:=iy l;have h2:256^l.length<=256^8:=Ai2 F0 h;exact Als h1 (by simpa using h2)
theorem Ahx(h:l.length<=4):Oj l<4294967296:=by
 have h1:=iy l;have h2:256^l.length<=256^4:=Ai2 F0 h;exact Als h1 (by simpa using h2)
theorem pO(h:l.length<=8):(H8 l).toNat=Oj l:=by
 rw[H8,Aj4,Ado (Afv h)]
theorem UP(h:l.length<=4):(Ad (H8 l):Int)=(Oj l:Int):=by
 have:=Ahx h;rw[mF]<;>rw[pO F0];omega
def Zw(n:Nat):Nat->List UInt8
 |0=>[]
 |w+1=>UInt8.ofNat n::Zw (n/256) w
theorem Cr:∀(w n:Nat),(Zw n w).length=w
 |0,_=>rfl
 |w+1,n=>by simp[Zw,Cr w]
theorem L7:∀(w n:Nat),Zw n (w+1)=Zw n w++[UInt8.ofNat (n/256^w)]
 |0,n=>by simp[Zw]
 |w+1,n=>by
  rw[Zw,L7 w (n/256),Zw];simp[Apu,Aod,Ana]
def Gt(p:List UInt8)(i:Nat):Nat:=(p.getD (i/8) 0).toNat/2^(i %8) %2
theorem RM(p:List UInt8)(i:Nat):Gt p i<2:=Apc _ F0
def Cx(p:List UInt8):Nat->Nat->Nat
 |_,0=>0
 |a,n+1=>Gt p a+2*Cx p (a+1) n
theorem FG(p:List UInt8):∀(n a:Nat),Cx p a n<2^n
 |0,_=>by simp[Cx]
 |n+1,a=>by
  have:=FG p n (a+1);have:=RM p a;rw[Cx,Aod];omega
theorem ZT(p:List UInt8):∀(m n a:Nat),Cx p a (m+n)=Cx p a m+2^m*Cx p (a+m) n
 |0,n,a=>by simp[Cx]
 |m+1,n,a=>by
  rw[show m+1+n=(m+n)+1 by omega,Cx,Cx,ZT p m n (a+1),show a+1+m=a+(m+1) by omega,Aod,Nat.mul_add,Ana (2^m) 2,Ans];omega
theorem sN(p:List UInt8)(a:Nat):Cx p a 1=Gt p a:=by simp[Cx]
theorem QN(p:List UInt8)(a n:Nat):Cx p a (n+1)=Cx p a n+2^n*Gt p (a+n):=by rw[ZT p n 1 a,sN]
theorem cA(p:List UInt8)(a:Nat):∀t:Nat,a %8+t<=8->Cx p a t=(p.getD (a/8) 0).toNat/2^(a %8) %2^t
 |0,_=>by simp[Cx,Nat.mod_one]
 |t+1,h=>by
  have h1:(a+t)/8=a/8:=F0
  have h2:(a+t) %8=a %8+t:=F0
  rw[QN,cA p a t F0,Gt,h1,h2,Nat.mod_pow_succ,Aq2,Apu]
theorem wG{p:List UInt8}:∀(n a:Nat),(∀k,k<n->Gt p (a+k)=0)->Cx p a n=0
 |0,_,_=>rfl
 |n+1,a,h=>by
  have h0:=h 0 F0;rw[Cx,wG n (a+1) λk hk=>by have:=h (k+1) F0;rwa [show a+1+k=a+(k+1) by omega]];rw[Aph]at h0;omega
def okB(p:List UInt8)(n:Nat):Prop:=n<=330000/\p.length=(n+7)/8/\∀k,n<=k->k<8*p.length->Gt p k=0
def Kt(p:List UInt8)(a n:Nat):List UInt8:=(List.range ((n+7)/8)).map λj=>UInt8.ofNat (Cx p (a+8*j) (min 8 (n-8*j)))
theorem Ht(p:List UInt8)(a n:Nat):(Kt p a n).length=(n+7)/8:=by simp[Kt]
theorem L3(p:List UInt8):∀(n a k:Nat),k<n->Cx p a n/2^k %2=Gt p (a+k)
 |n+1,a,0,_=>by have:=RM p a;rw[Cx];simp;omega
 |n+1,a,k+1,h=>by
  have hb:=RM p a;have e:(Gt p a+2*Cx p (a+1) n)/2=Cx p (a+1) n:=F0
  rw[Cx,Aod,Ana (2^k) 2,<-Apu,e,L3 p n (a+1) k F0,show a+1+k=a+(k+1) by omega]
theorem Aai(p:List UInt8)(n a k:Nat)(h:n<=k):Cx p a n/2^k %2=0:=by
 have:=FG p n a;rw[Ao0 (Als this (Ai2 F0 h))]
theorem qE(p:List UInt8)(a n k:Nat):Gt (Kt p a n) k=if k<n then Gt p (a+k)else 0:=by
 rw[Gt];by_cases hj:k/8<(n+7)/8
 ·have e:(Kt p a n).getD (k/8) 0=UInt8.ofNat (Cx p (a+8*(k/8)) (min 8 (n-8*(k/8)))):=by
   rw[List.getD_eq_getElem?_getD,List.getElem?_eq_getElem (by rw[Ht];exact hj)];simp[Kt]
  have hlt:Cx p (a+8*(k/8)) (min 8 (n-8*(k/8)))<256:=by
   have:=FG p (min 8 (n-8*(k/8))) (a+8*(k/8));have h2:2^(min 8 (n-8*(k/8)))<=2^8:=Ai2 F0 F0;omega
  have hu:(UInt8.ofNat (Cx p (a+8*(k/8)) (min 8 (n-8*(k/8))))).toNat=Cx p (a+8*(k/8)) (min 8 (n-8*(k/8))):=by
   rw[Al4];exact Ado hlt
  rw[e,hu];by_cases hk:k<n
  ·rw[Abp hk,L3 p _ _ _ F0,show a+8*(k/8)+k %8=a+k by omega]
  ·rw[Abg hk,Aai p _ _ _ F0]
 ·have e:(Kt p a n).getD (k/8) 0=0:=by
   rw[List.getD_eq_getElem?_getD,List.getElem?_eq_none (by rw[Ht];omega)];rfl
  rw[e,Abg F0];simp
theorem yS(p:List UInt8)(a n:Nat)(h:n<=330000):okB (Kt p a n) n:=⟨h,Ht p a n,λk hk _=>by rw[qE,Abg F0]⟩
theorem I8{p q:List UInt8}(hl:p.length=q.length)(h:∀k,k<8*p.length->Gt p k=Gt q k):p=q:=by
 apply Ano hl;intro i h1 h2;have hp:Cx p (8*i) 8=Cx q (8*i) 8:=by
  have key:∀(n a:Nat),a+n<=8*p.length->Cx p a n=Cx q a n:=by
   intro n
   induction n with
   |zero=>intros;rfl
   |succ n ih=>intro a ha;rw[Cx,Cx,h a F0,ih (a+1) F0]
  exact key 8 (8*i) F0
 rw[cA p _ 8 F0,cA q _ 8 F0]at hp;have e1:8*i/8=i:=F0
 have e2:8*i %8=0:=F0
 rw[e1,e2]at hp;have a1:p.getD i 0=p[i]:=by simp[List.getD_eq_getElem?_getD,h1]
 have a2:q.getD i 0=q[i]:=by simp[List.getD_eq_getElem?_getD,h2]
 rw[a1,a2]at hp;apply UInt8.toNat_inj.1;have:=p[i].toNat_lt;have:=q[i].toNat_lt;simp at hp;omega
end Go.Lv
namespace Go.Pl
open Go Go.Lv
variable{p:Prop}
theorem F3(h:p:=by rw[Af,Ac];simp;omega):p:=h
theorem F9(h:p:=by rw[Af];simp;omega):p:=h
theorem Are(h:p:=by simp[Af,Ax];omega):p:=h
theorem Arj(h:p:=by rw[Bj];simp;omega):p:=h
theorem Arp(h:p:=by rw[Hs];simp;omega):p:=h
theorem Art(h:p:=by unfold Ac;omega):p:=h
theorem F7(h:p:=by have:=Ar;omega):p:=h
theorem Ars(h:p:=by rw[Hs];simp):p:=h
theorem Asc(h:p:=by rw[Bj];simp):p:=h
theorem Ar8(h:p:=by rw[Bj];rfl):p:=h
end Go.Pl
namespace Go.Pl
open Go Go.Lv
theorem Acj(b:LB)(hb:b.length<4611686018427387904):∀(j q:Nat),j<=b.length->j<q->Mo b q (H8 (b.drop j)) ((j:Int)-1)=some (H8 b)
 |0,q+1,_,_=>by
  rw[Mo,Yr,Abg Ars];simp[LN,KB]
 |j+1,q+1,hj,hq=>by
  rw[Mo,Yr,Abp Ars,show((j+1:Nat):Int)-1=(j:Int) by omega,Cu,Aa,Du];have h:Ae (Bf (256:UInt64) (H8 (b.drop (j+1)))) (Ad b[j]:UInt64)=H8 (b.drop j):=by
   rw[aH,RH,X7,drop_cons (n:=j) F0,H8,H8,Oj,UInt64.ofNat_add,UInt64.ofNat_mul];exact UInt64.add_comm _ _
  rw[h];exact Acj b hb j q F0 F0
theorem Aen(b:LB)(hb:b.length<4611686018427387904):Cz b=some (H8 b):=by
 have h:=Acj b hb b.length Aq (Ala _) F7;rw[Cz,KV,KX];have e:Ag (Ac b) 1=(b.length:Int)-1:=Du Art Art;rw[e,<-h,Apa];rfl
def part(b:LB)(at' w:Nat):LB:=(b.take (at'+w)).drop at'
theorem Jp{b:LB}{a w:Nat}(h:a+w<=b.length:=by omega):(part b a w).length=w:=by simp[part];omega
theorem mU(w:Nat)(hw:w<=1000):∀(j i q:Nat) (n:UInt64) (acc:LB),i+j=w->j<q->acc.length+j<=1000000->Ew (w:Int) q n (i:Int) acc=some (acc++Zw n.toNat j)
 |0,i,q+1,n,acc,hi,_,_=>by
  rw[Ew,Kg,Abg F9];simp[Pr,Zg,Zw]
 |j+1,i,q+1,n,acc,hi,hq,ha=>by
  rw[Ew,Kg,Abp F9];have e:(Ad (Te n (256:UInt64)):UInt8)=UInt8.ofNat n.toNat:=by
   rw[UM,YR];apply UInt8.toNat_inj.1;rw[Al4,Al4,Aqe]
   show n.toNat %256 %256=_;omega
  have e2:(Ba n (256:UInt64)).toNat=n.toNat/256:=by rw[RX,Ap1];rfl
  rw[Az F6,Aa,Aj,e];have h:=mU w hw j (i+1) q (Ba n 256) (acc++[UInt8.ofNat n.toNat]) F0 F0 F6;rw[e2]at h;rw[show((i:Int)+1)=((i+1:Nat):Int) by omega,h,Zw];simp
theorem UE(n:UInt64)(w:Nat)(hw:w<=1000):Al n (w:Int)=some (Zw n.toNat w):=by
 rw[Al,Qq,Zc];have h:=mU w hw w 0 Aq n [] F0 F7 F6;simpa using h
theorem gZ{α:Type}{l m:List α}{x y:α}{i:Nat}(h:l.length=i):(l++x::m).set i y=l++y::m:=by subst h;simp
theorem vV(n:UInt64)(l4:LB)(w:Nat)(hl:l4.length=w)(hw:w<=8):∀(j i q:Nat),i+j=w->j<q->Zm n l4 q (i:Int) (Zw n.toNat i++List.replicate j 0)=some (Zw n.toNat w,0)
 |0,i,q+1,hi,_=>by
  rw[Zm,NJ,Abg F3];obtain rfl:i=w:=F0
  simp[YF,nM]
 |j+1,i,q+1,hi,hq=>by
  have hlen:(Zw n.toNat i++List.replicate (j+1) 0).length=i+(j+1):=by simp[Cr]
  rw[Zm,NJ,Abp F3,Ia,Cf Arp,Aa,Cu (by rw[hlen];omega),Aa,Wq _ (by rw[hlen];omega),Aa,Aj];have e:(Ad (Bu n (GI.toZ ((8:Int)*(i:Int))).toNat):UInt8)=UInt8.ofNat (n.toNat/256^i):=by
   have e:(GI.toZ ((8:Int)*(i:Int))).toNat=8*i:=by show((8:Int)*(i:Int)).toNat=_;omega
   rw[e,UM,Xs,Nat.pow_mul]
  rw[e,Aop,gZ (Cr _ _)];have h:=vV n l4 w hl hw j (i+1) q F0 F0;rw[L7]at h;simpa using h
theorem Aii(n:UInt64)(w:Nat)(h1:1<=w)(h2:w<=8)(h:n.toNat<256^w):pM n (w:Int)=some true:=by
 rw[pM];by_cases h8:w=8
 ·subst h8;rw[Abp Ar8]
 ·rw[Abg Arj,Ia,Cf Arp,Aa];have e:(GI.toZ ((8:Int)*(w:Int))).toNat=8*w:=by show((8:Int)*(w:Int)).toNat=_;omega
  rw[e,pA];have:Bu n (8*w)=0:=by
   apply UInt64.toNat_inj.1;rw[Xs,Nat.pow_mul];exact Ao0 h
  rw[this];rfl
theorem RS(n:UInt64)(w:Nat)(h1:1<=w)(h2:w<=8)(h:n.toNat<256^w):Zz n (w:Int)=some (Zw n.toNat w,0):=by
 rw[Zz,ZV,Abg Are,Aii n w h1 h2 h,Aa,Abg Ard,xF,Aa,Cf Asc,Aa,nN];have h:=vV n (List.replicate (w:Int).toNat 0) w Ard h2 w 0 Aq F0 F7;simpa [Zw]using h
theorem Arh{p:Prop}(h:p:=by rw[Ax];simp;omega):p:=h
end Go.Pl
namespace Go.Pl
open Go Go.Lv
theorem ru(n:Nat)(h:n<4611686018427387904):Eb (n:Int) (7:Int)=((n %8:Nat):Int):=by
 have e:Eb (n:Int) (7:Int)=wrap64 ((BitVec.ofInt 64 (n:Int)&&&BitVec.ofInt 64 7).toNat:Int):=rfl;rw[e,BitVec.toNat_and,Ap0,Ap0];have h1:((n:Int) %((2^64:Nat):Int)).toNat=n:=F0
 have h2:((7:Int) %((2^64:Nat):Int)).toNat=2^3-1:=F4
 rw[h1,h2,Apx,Dh F0 F0]
theorem An2(n:Nat):C1 (n:Int) (GI.toZ (3:UInt64)).toNat=((n/8:Nat):Int):=by
 have e:C1 (n:Int) (GI.toZ (3:UInt64)).toNat=(n:Int).fdiv 8:=rfl;rw[e,Anh _ F0];omega
theorem Ad9{p:LB}{k:Nat}(h:k<p.length):Ah p (k:Int)=some (p.getD k 0):=by
 rw[Cu h];simp[List.getD_eq_getElem?_getD,h]
def JE(p:LB)(a n:Nat):UInt64:=UInt64.ofNat (Cx p a n)
theorem ML(p:LB)(a n:Nat)(h:n<=64):(JE p a n).toNat=Cx p a n:=by
 have h1:=FG p n a;have h2:2^n<=2^64:=Ai2 F0 h;rw[JE,Aj4,Ado F0]
theorem kY{p:LB}{n:Nat}(h:okB p n):Jh p (n:Int)=some 0:=by
 obtain⟨h1,h2,h3⟩:=h;have e7:Ae (n:Int) 7=((n+7:Nat):Int):=by rw[Aj];omega
 rw[Jh,e7,An2,Abg (by simp[Af,Ax,Cq,Ac,h2];omega),ru _ F0];by_cases hz:n %8=0
 ·rw[Abg Arh]
 ·have el:Ag (Ac p) 1=((p.length-1:Nat):Int):=by rw[Ac,Du];omega
  rw[Abp Arh,el,Ad9 F0,Aa,Cf Arp,Aa];have z:(GI.toZ ((n %8:Nat):Int)).toNat=n %8:=rfl;have hs:Bu (p.getD (p.length-1) 0) (n %8)=0:=by
   apply UInt8.toNat_inj.1;rw[D9];have hv:=cA p n (8-n %8) F0;have h0:Cx p n (8-n %8)=0:=wG _ _ λk hk=>h3 _ F0 F0;rw[h0,show n/8=p.length-1 by omega]at hv;have hlt:(p.getD (p.length-1) 0).toNat/2^(n %8)<2^(8-n %8):=by
    have:=(p.getD (p.length-1) 0).toNat_lt;rw[Nat.div_lt_iff_lt_mul (Ap4 F0),<-Aq2,show 8-n %8+n %8=8 by omega];simpa using this
   rw[Ado hlt]at hv;exact hv.symm
  rw[z,hs,Abg (by rw[Aej];simp)]
theorem Ar6{p:Prop}(h:p:=by rw[Ht];simp;omega):p:=h
end Go.Pl
namespace Go.Pl
open Go Go.Lv
variable{v:LU}{s t:UInt64}
theorem An3(c:Nat)(h:c<4611686018427387904):Ba (c:Int) (8:Int)=((c/8:Nat):Int):=by
 rw[TO,Apf F0,Dh F0 F0];omega
theorem Ajq(c:Nat):Ed (c:Int) (8:Int)=((c %8:Nat):Int):=by rw[Ed,Apg F0];omega
theorem wu(bit:Int)(N:Nat)(l:LB):∀(j k q:Nat),k+j=N %8->j<q->Ip bit (N:Int) l q ((2^k:Nat):Int) (k:Int)=Pa bit ((2^(N %8):Nat):Int) (N:Int) l
 |0,k,q+1,hk,_=>by
  rw[Ip,Pp,Ajq,Abg F9,show k=N %8 by omega]
 |j+1,k,q+1,hk,hq=>by
  have hp:2^k<=2^8:=Ai2 F0 F0;have e:Bf ((2^k:Nat):Int) 2=((2^(k+1):Nat):Int):=by
   rw[Aod];generalize 2^k=K at*
   rw[Ia];omega
  rw[Ip,Pp,Ajq,Abp F9,e,Aj];exact wu bit N l j (k+1) q F0 F0
theorem tG(p:LB)(a n j:Nat)(h:j<(n+7)/8):(Kt p a n)[j]'(by rw[Ht];exact h)=UInt8.ofNat (Cx p (a+8*j) (min 8 (n-8*j))):=by simp[Kt]
theorem kA(p:LB)(a t:Nat)(h:t<=8):Cx p a t<256:=by
 have h1:=FG p t a;have h2:2^t<=2^8:=Ai2 F0 h;omega
def room(p:LB)(a n:Nat):LB:=if n %8=0 then Kt p a n++[0]else Kt p a n
theorem Nv(p:LB)(a n:Nat):(room p a n).length=n/8+1:=by
 rw[room];split<;>simp[Ht]<;>omega
theorem S9(p:LB)(a n j:Nat)(h:j<n/8+1):(room p a n)[j]'(by rw[Nv];exact h)=UInt8.ofNat (Cx p (a+8*j) (min 8 (n-8*j))):=by
 have h0:(room p a n)[j]? =some (UInt8.ofNat (Cx p (a+8*j) (min 8 (n-8*j)))):=by
  rw[room];split
  ·by_cases hj:j<(n+7)/8
   ·rw[List.getElem?_append_left (by rw[Ht];exact hj),List.getElem?_eq_getElem (by rw[Ht];exact hj),tG p a n j hj]
   ·rw[List.getElem?_append_right (by rw[Ht];omega),Ht,show j-(n+7)/8=0 by omega,show n-8*j=0 by omega];rfl
  ·rw[List.getElem?_eq_getElem (by rw[Ht];omega),tG p a n j F0]
 rw[List.getElem?_eq_getElem (by rw[Nv];exact h)]at h0;exact Ap8 h0
theorem jQ(p:LB)(a n T:Nat)(h1:1<=T)(h:n %8+T<=8):(room p a n).set (n/8) (UInt8.ofNat (Cx p (a+8*(n/8)) (n %8+T)))=Kt p a (n+T):=by
 apply Ano (by rw[Ap9,Nv,Ht];omega);intro j g1 g2;rw[Ap9,Nv]at g1;rw[Aqf,tG p a (n+T) j (by rw[Ht]at g2;exact g2)];split
 ·rename_i e;subst e;rw[show min 8 (n+T-8*(n/8))=n %8+T by omega]
 ·rw[S9 p a n j g1,show min 8 (n-8*j)=8 by omega,show min 8 (n+T-8*j)=8 by omega]
theorem RF(p:LB)(a n:Nat):(room p a n)[n/8]'(by rw[Nv];omega)=UInt8.ofNat (Cx p (a+8*(n/8)) (n %8)):=by
 rw[S9 p a n _ F0,show min 8 (n-8*(n/8))=n %8 by omega]
theorem pY(p:LB)(a n:Nat)(hn:n<=400000):By (Kt p a n) (n:Int) ((Gt p (a+n):Nat):Int)=some (Kt p a (n+1),((n+1:Nat):Int)):=by
 have hb:=RM p (a+n);have hp:2^(n %8)<=2^7:=Ai2 F0 F0;have hroom:By (Kt p a n) (n:Int) ((Gt p (a+n):Nat):Int)=Wh ((Gt p (a+n):Nat):Int) (n:Int) (room p a n):=by
  rw[By,Wl,Ajq,room];by_cases h0:n %8=0
  ·rw[Abp (by rw[Bj,h0];rfl),Az Ar6,Aa,Abp h0]
  ·rw[Abg Arj,Abg h0]
 have hl:=wu ((Gt p (a+n):Nat):Int) n (room p a n) (n %8) 0 Aq F0 F7;rw[hroom,Wh,Wv,IF];refine Aqc hl ?_;have hg:Ah (room p a n) ((n/8:Nat):Int)=some (UInt8.ofNat (Cx p (a+8*(n/8)) (n %8))):=by
  rw[Cu (by rw[Nv];omega),RF]
 have hlt:=kA p (a+8*(n/8)) (n %8+1) F0;have hsn:=QN p (a+8*(n/8)) (n %8);rw[show a+8*(n/8)+n %8=a+n by omega]at hsn;have hm:Bf ((Gt p (a+n):Nat):Int) ((2^(n %8):Nat):Int)=((2^(n %8)*Gt p (a+n):Nat):Int):=by
  have hle:2^(n %8)*Gt p (a+n)<=2^7*1:=Anj hp F0;rw[Abv,<-Aln,Dh F0 (by rw[Ana];omega),Ana]
 have hx:Ae (UInt8.ofNat (Cx p (a+8*(n/8)) (n %8))) (Ad (((2^(n %8)*Gt p (a+n):Nat):Int)):UInt8)=UInt8.ofNat (Cx p (a+8*(n/8)) (n %8+1)):=by
  rw[wo,Ac1,hsn,UInt8.ofNat_add]
 rw[Pa,IJ,An3 _ F0,hg,Aa,Aa,Aa,hm,hx,Wq _ (by rw[Nv];omega),Aa,jQ p a n 1 F0 F0,Aj];rfl
theorem Ajt{t:Nat}(h:t<=8):Ag (De (1:UInt64) t) (1:UInt64)=UInt64.ofNat (2^t-1):=by
 have:t=0\/t=1\/t=2\/t=3\/t=4\/t=5\/t=6\/t=7\/t=8:=F0
 rcases this with rfl|rfl|rfl|rfl|rfl|rfl|rfl|rfl|rfl<;>decide
theorem Aoa(v:UInt64){t:Nat}(h:t<=8):(Eb v (Ag (De (1:UInt64) t) (1:UInt64))).toNat=v.toNat %2^t:=by
 have hp:2^t<=2^8:=Ai2 F0 h;rw[Ajt h,tB,UInt64.toNat_and,Aj4,Ado (by have:=Ap4 (n:=t) (show 0<2 by omega);omega),Apx]
theorem or8{v w i:Nat}(hv:v<2^i)(hw:w*2^i<256)(hi:i<8):B0 (UInt8.ofNat v) (De (UInt8.ofNat w) i)=UInt8.ofNat (v+w*2^i):=by
 have hp:2^i<=2^8:=Ai2 F0 F0;have hpos:0<2^i:=Ap4 F0;have hw2:w<256:=Ao3 (Nat.le_mul_of_pos_right w hpos) hw;rw[Aj2];apply UInt8.toNat_inj.1;have e1:(UInt8.ofNat v).toNat=v:=by rw[Al4,Ado F0]
 have e2:(UInt8.ofNat w).toNat=w:=by rw[Al4,Ado F0]
 rw[UInt8.toNat_or,Ag1,e1,e2,Ado hw,Ana w,Nat.or_comm,<-Apo hv,Al4,Aqg v];rw[Ana]at hw;have hb:2^i*w+v<256:=by
  rw[Apo hv];exact Nat.or_lt_two_pow (n:=8) hw F0
 rw[Ado hb]
theorem Adv(p:LB)(a n T:Nat)(h:T<=n)(hn:n<=64):Bu (JE p a n) T=JE p (a+T) (n-T):=by
 apply UInt64.toNat_inj.1;rw[Xs,ML p a n hn,ML p (a+T) (n-T) F0];have:=FG p T a
 conv=>lhs;rw[show n=T+(n-T) by omega,ZT,Nat.add_mul_div_left _ _ (Ap4 F0),Ao0 this,Aol]
theorem Aex(p:LB)(a n T:Nat)(h:T<=n)(hn:n<=64):(JE p a n).toNat %2^T=Cx p a T:=by
 have:=FG p T a;rw[ML p a n hn]
 conv=>lhs;rw[show n=T+(n-T) by omega,ZT,Nat.add_mul_mod_self_left,Ado this]
def Anv(p:LB):Nat->Nat->Nat
 |_,0=>0
 |a,m+1=>if Gt p a=1 then 1+Anv p (a+1) m else 0
theorem om{n:Nat}(h:n<4294967296):(UInt32.ofNat n).toNat=n:=by rw[Aix];exact Ado h
theorem sT(k:Nat)(hk:k<=63):∀(j i q:Nat),i+j=k->j<q->Gl (k:Int) q (UInt64.ofNat (2^i)) (i:Int)=some (UInt64.ofNat (2^k))
 |0,i,q+1,hi,_=>by
  rw[Gl,Mw,Abg F9,show i=k by omega];rfl
 |j+1,i,q+1,hi,hq=>by
  have e:Bf (UInt64.ofNat (2^i)) (2:UInt64)=UInt64.ofNat (2^(i+1)):=by
   rw[RH,Aod,UInt64.ofNat_mul];rfl
  rw[Gl,Mw,Abp F9,Aj,e];exact sT k hk j (i+1) q F0 F0
theorem RJ(k:Nat)(hk:k<=63):Dg (k:Int)=some (UInt64.ofNat (2^k)):=
 sT k hk k 0 Aq F0 F7
theorem NF{k:Nat}(hk:k<=63):(UInt64.ofNat (2^k)).toNat=2^k:=by
 have hp:2^k<=2^63:=Ai2 F0 hk;rw[Aj4,Ado F0]
theorem Agk(v:UInt32)(k:Nat)(hk:k<=24):Ns v (k:Int)=some ((min 48 (v.toNat/2^k):Nat):Int):=by
 have hpos:0<2^k:=Ap4 F0;have hv:=v.toNat_lt;rw[Ns,RJ k F0,Aa,Cf (by rw[iN];simp only[Aq8,ne_eq,<-Aq7,NF (show k<=63 by omega)];simp),Aa];have e:(Ba (Ad v:UInt64) (UInt64.ofNat (2^k))).toNat=v.toNat/2^k:=by
  rw[RX,Ap1,Db,NF F0,Aj4,Ado F0]
 have hle:v.toNat/2^k<=v.toNat:=Am3 _ _;have e2:Jf (48:UInt64) (Ba (Ad v:UInt64) (UInt64.ofNat (2^k)))=UInt64.ofNat (min 48 (v.toNat/2^k)):=by
  apply UInt64.toNat_inj.1;rw[Aj4,Ado F0];show(if _ then _ else _:UInt64).toNat=_;rw[show(GI.toZ (Ba (Ad v:UInt64) (UInt64.ofNat (2^k))))=((v.toNat/2^k:Nat):Int) by rw[Ki,e],show GI.toZ (48:UInt64)=48 from rfl];split
  ·rw[e];omega
  ·show 48=_;omega
 rw[e2,mF (by rw[Aj4,Ado]<;>omega),Aj4,Ado F0]
def okD(k l:Nat)(s t:UInt64):Prop:=k<=24/\l<=24/\s.toNat<=68719476735/\t.toNat<=68719476735
theorem N6(a b:UInt64)(h:a.toNat<=b.toNat):Jf a b=a:=by
 show(if _ then _ else _)=_;rw[Ki,Ki,Abg F0]
theorem iC(a:UInt64):geq a a=true:=by rw[pA];simp
theorem Ajm{k l:Nat}(h:okD k l s t):MC (k:Int) (l:Int) s t=some 0:=by
 obtain⟨h1,h2,h3,h4⟩:=h;have e1:Jf (iQ (k:Int) 0) 24=(k:Int):=by rw[eY,C9];omega
 have e2:Jf (iQ (l:Int) 0) 24=(l:Int):=by rw[eY,C9];omega
 have e3:Jf s (68719476735:UInt64)=s:=N6 _ _ (by simpa using h3);have e4:Jf t (68719476735:UInt64)=t:=N6 _ _ (by simpa using h4);have e5:∀a:Int,geq a a=true:=λa=>by rw[Bj];simp
 rw[MC,FL,PD,FC,OI,dZ,e1,e2,e3,e4,e5,e5,iC,iC];rfl
def CW(s n:UInt64):UInt64:=s+n-s/16
def kS(k:Nat)(s:UInt64):Nat:=if 0<k/\s.toNat<2^(k+4)then k-1 else if k<24/\2^(k+5)<s.toNat then k+1 else k
theorem Ai4{k:Nat}(h:k<=24)(s:UInt64):kS k s<=24:=by
 unfold kS;by_cases h1:0<k/\s.toNat<2^(k+4)
 ·rw[Abp h1];omega
 ·rw[Abg h1];split<;>omega
theorem ny{k:Nat}(h:¬(0<k/\s.toNat<2^(k+4))):(if k<24/\2^(k+5)<s.toNat then((k+1:Nat):Int)else(k:Int))=((kS k s:Nat):Int):=by
 rw[kS,Abg h];split<;>rfl
theorem oo{n:UInt64}(h:s.toNat<=68719476735)(hn:n.toNat<=4294967295):(CW s n).toNat<=68719476735:=by
 have h1:=s.toNat_lt;have e:(s+n).toNat=s.toNat+n.toNat:=by rw[UInt64.toNat_add];omega
 have e2:(s/16).toNat=s.toNat/16:=by rw[Ap1];rfl
 rw[CW,UInt64.toNat_sub_of_le _ _ (by rw[UInt64.le_iff_toNat_le,e,e2];omega),e,e2];omega
theorem pW(s n:UInt64):Ae s (Ag n (Bu s (GI.toZ (4:UInt64)).toNat))=CW s n:=by
 have e:Bu s (GI.toZ (4:UInt64)).toNat=s/16:=by
  apply UInt64.toNat_inj.1;rw[Xs,Ap1];rfl
 rw[e,aH,jT,CW,UInt64.sub_eq_add_neg,UInt64.sub_eq_add_neg,UInt64.add_assoc]
theorem qj(s n:UInt64):Ag (Ae s n) (Ba s (16:UInt64))=CW s n:=by rw[aH,jT,RX,CW]
theorem Al0{k:Nat}(h:k<=24):(De (16:UInt64) k).toNat=2^(k+4):=by
 have hp:2^k<=2^24:=Ai2 F0 h;rw[SS,Aq2]
 show 16*2^k %_=2^k*16;rw[Ado F0,Ana]
theorem Ak5{k:Nat}(h:k<=24):(De (32:UInt64) k).toNat=2^(k+5):=by
 have hp:2^k<=2^24:=Ai2 F0 h;rw[SS,Aq2]
 show 32*2^k %_=2^k*32;rw[Ado F0,Ana]
theorem Aiv{k:Nat}(h:0<k)(h2:s.toNat<2^(k+4)):kS k s=k-1:=by rw[kS,Abp ⟨h,h2⟩]
theorem Ai8{k:Nat}(h:¬(0<k/\s.toNat<2^(k+4)))(h2:k<24)(h3:2^(k+5)<s.toNat):kS k s=k+1:=by rw[kS,Abg h,Abp ⟨h2,h3⟩]
theorem qd{k:Nat}(h:¬(0<k/\s.toNat<2^(k+4)))(h2:¬(k<24/\2^(k+5)<s.toNat)):kS k s=k:=by rw[kS,Abg h,Abg h2]
theorem Ai9{α:Type}(k:Nat)(hk:k<=24)(s:UInt64)(f:Int->Option α):
  (if(Em (k:Int) (0:Int))=true then(
   Option.bind (Hq (Jz (k:Int) (0:Int))) λ_=>
   if(Cj s (De (16:UInt64) (GI.toZ (k:Int)).toNat))=true then f (Ag (k:Int) (1:Int))
   else(if(Cj (k:Int) (24:Int))=true then(
    Option.bind (Hq (Jz (k:Int) (0:Int))) λ_=>
    if(Em s (De (32:UInt64) (GI.toZ (k:Int)).toNat))=true then f (Ae (k:Int) (1:Int))else f (k:Int))
    else f (k:Int)))
  else(if(Cj (k:Int) (24:Int))=true then(
    Option.bind (Hq (Jz (k:Int) (0:Int))) λ_=>
    if(Em s (De (32:UInt64) (GI.toZ (k:Int)).toNat))=true then f (Ae (k:Int) (1:Int))else f (k:Int))
    else f (k:Int)))=f ((kS k s:Nat):Int):=by
 have z:(GI.toZ (k:Int)).toNat=k:=rfl;rw[z,Cf Ars];simp only[Aa];rw[pH,pB,Al0 hk,Ak5 hk];by_cases h0:0<k
 ·rw[Abp Arh];by_cases h1:s.toNat<2^(k+4)
  ·rw[Abp (by simp[h1]),Aiv h0 h1,Du];congr 1;omega
  ·rw[Abg F6];by_cases h2:k<24
   ·rw[Abp F9];by_cases h3:2^(k+5)<s.toNat
    ·rw[Abp (by simp[h3]),Ai8 (λh=>h1 h.2) h2 h3,Aj];rfl
    ·rw[Abg F6,qd (λh=>h1 h.2) (λh=>h3 h.2)]
   ·rw[Abg F9,qd (λh=>h1 h.2) (λh=>h2 h.1)]
 ·rw[Abg Arh];by_cases h2:k<24
  ·rw[Abp F9];by_cases h3:2^(k+5)<s.toNat
   ·rw[Abp (by simp[h3]),Ai8 (λh=>h0 h.1) h2 h3,Aj];rfl
   ·rw[Abg F6,qd (λh=>h0 h.1) (λh=>h3 h.2)]
  ·rw[Abg F9,qd (λh=>h0 h.1) (λh=>h2 h.1)]
theorem wm(k:Nat)(hk:k<=24)(s n:UInt64):Hw (k:Int) s n=some (((kS k (CW s n):Nat):Int),CW s n):=by
 have g1:Ae (k:Int) 4=((k+4:Nat):Int):=by rw[Aj];omega
 have g2:Ae (k:Int) 5=((k+5:Nat):Int):=by rw[Aj];omega
 have hp:Us (k:Int) s n=some (if k<24/\2^(k+5)<(CW s n).toNat then((k+1:Nat):Int)else(k:Int),CW s n):=by
  rw[Us,HK,g2,RJ _ F0,Aa,qj,pB,NF F0];by_cases h2:k<24
  ·rw[Abp F9];by_cases h3:2^(k+5)<(CW s n).toNat
   ·rw[Abp (by simp[h3]),Abp ⟨h2,h3⟩,Aj];rfl
   ·rw[Abg F6,Abg (λh=>h3 h.2)]
  ·rw[Abg F9,Abg (λh=>h2 h.1)]
 rw[Hw,GM,g1,RJ _ F0,Aa,qj,pH,NF F0,hp];by_cases h0:0<k
 ·rw[Abp Arh];by_cases h1:(CW s n).toNat<2^(k+4)
  ·rw[Abp (by simp[h1]),Aiv h0 h1,Du];congr 2;omega
  ·rw[Abg F6,ny (λh=>h1 h.2)]
 ·rw[Abg Arh,ny (λh=>h0 h.1)]
def H7(v:UInt32):UInt64:=UInt64.ofNat v.toNat
theorem Ac5(v:UInt32):(H7 v).toNat<=4294967295:=by have:=v.toNat_lt;rw[H7,Aj4,Ado F0];omega
def NP(k:Nat)(v:UInt32):UInt32:=UInt32.ofNat (v.toNat-2^k)
def lK(l:Nat)(t:UInt64)(k:Nat)(v:UInt32):Nat:=if v.toNat<2^k then l else kS l (CW t (H7 (NP k v)))
def lT(t:UInt64)(k:Nat)(v:UInt32):UInt64:=if v.toNat<2^k then t else CW t (H7 (NP k v))
theorem Ab8{k l:Nat}(h:okD k l s t)(v:UInt32):okD (kS k (CW s (H7 v))) (lK l t k v) (CW s (H7 v)) (lT t k v):=by
 obtain⟨h1,h2,h3,h4⟩:=h;refine⟨Ai4 h1 _,?_,oo h3 (Ac5 v),?_⟩
 ·unfold lK;split; · exact h2
  exact Ai4 h2 _
 ·unfold lT;split; · exact h4
  exact oo h4 (Ac5 _)
theorem Adc(k l:Nat)(s t:UInt64)(hk:k<=24)(v:UInt32):Jc (k:Int) (l:Int) s t v=some (decide (v.toNat<2^k)):=by
 have:=v.toNat_lt;rw[Jc,RJ k F0,Aa,pH,NF F0,Db,Aj4,Ado F0]
theorem left_eq(k l:Nat)(s t:UInt64)(hk:k<=24)(v:UInt32)(h:¬v.toNat<2^k):Dq (k:Int) (l:Int) s t v=some (NP k v):=by
 have:=v.toNat_lt;have e2:∀x:UInt64,(Ad x:UInt32)=UInt32.ofNat x.toNat:=λx=>by simp only[Ad,Ki,Jq]
 have e3:(UInt64.ofNat v.toNat).toNat=v.toNat:=by rw[Aj4,Ado F0]
 rw[Dq,RJ k F0,Aa,e2,jT,Db,UInt64.toNat_sub_of_le _ _ (by rw[UInt64.le_iff_toNat_le,NF F0,e3];omega),NF F0,e3,NP]
theorem Aa8{k l:Nat}(h:okD k l s t)(v:UInt32):Kq (k:Int) (l:Int) s t v=some (((kS k (CW s (H7 v)):Nat):Int),((lK l t k v:Nat):Int),CW s (H7 v),lT t k v):=by
 obtain⟨h1,h2,h3,h4⟩:=h;have hp:∀(r1:Int) (r2:UInt64),Li v (k:Int) (l:Int) s t r1 r2=some (((kS k (CW s (H7 v)):Nat):Int),r1,CW s (H7 v),r2):=by
  intro r1 r2;rw[Li,CB,Db,wm k h1,Aa];rfl
 rw[Kq,Lh,Adc k l s t h1,Aa];by_cases hv:v.toNat<2^k
 ·rw[Abg (by simp[hv]),hp,lK,Abp hv,lT,Abp hv]
 ·rw[Abp F6,left_eq k l s t h1 v hv,Aa,Db,wm l h2,Aa];simp only;rw[hp,lK,Abg hv,lT,Abg hv];rfl
theorem K9(k l:Nat)(s t:UInt64)(hk:k<=24)(v:UInt32):EU (k:Int) (l:Int) s t v=some (if v.toNat<2^k then(0,v)else(1,NP k v)):=by
 have hp:2^k<=2^24:=Ai2 F0 hk;have hpos:0<2^k:=Ap4 F0;have hl:=v.toNat_lt;have z:(GI.toZ (k:Int)).toNat=k:=rfl;have e1:geq (Bu v k) (0:UInt32)=decide (v.toNat<2^k):=by
  rw[oh,Alr];simp only[Ape,<-UInt32.toNat_inj,PW,Adz]
  show _/_=0↔_;rw[Nat.div_eq_zero_iff];omega
 have e2:¬v.toNat<2^k->Ag v (De (1:UInt32) k)=NP k v:=by
  intro h;have e3:(De (1:UInt32) k).toNat=2^k:=by rw[pU];show 1*2^k %_=_;rw[Ado F0,Anf]
  apply UInt32.toNat_inj.1;rw[rB,UInt32.toNat_sub_of_le _ _ (by rw[UInt32.le_iff_toNat_le,e3];omega),e3,NP,om F0]
 rw[EU,Cf Ars,Aa,Aa,z,e1];by_cases h:v.toNat<2^k
 ·rw[Abp (by simp[h]),Abp h]
 ·rw[Abg F6,Abg h,e2 h]
abbrev Rd:=UInt32×Int×Int×Int×UInt64×UInt64×Int
abbrev DuN:=Nat×Nat×UInt64×UInt64
def okN(d:DuN):Prop:=okD d.1 d.2.1 d.2.2.1 d.2.2.2
def nxt(d:DuN)(v:UInt32):DuN:=(kS d.1 (CW d.2.2.1 (H7 v)),lK d.2.1 d.2.2.2 d.1 v,CW d.2.2.1 (H7 v),lT d.2.2.2 d.1 v)
def D8:DuN:=(10,10,16384,16384)
theorem Adg:okN D8:=⟨F4,F4,F4,F4⟩
theorem Akr{d:DuN}(h:okN d)(v:UInt32):okN (nxt d v):=Ab8 h v
abbrev DuL:=Int×Int×UInt64×UInt64×Unit
def toI(d:DuN):DuL:=((d.1:Int),(d.2.1:Int),d.2.2.1,d.2.2.2,())
def oE(ch:Nat)(v:LU)(c:Nat):Nat->DuN
 |0=>D8
 |m+1=>if m %ch=c then nxt (oE ch v c m) (v.getD m 0)else oE ch v c m
theorem sG(ch:Nat)(v:LU)(c:Nat):∀m,okN (oE ch v c m)
 |0=>Adg
 |m+1=>by rw[oE];split;exact Akr (sG ch v c m) _;exact sG ch v c m
theorem D6(ch:Nat)(v w:LU)(c:Nat):∀m,m<=v.length->oE ch (v++w) c m=oE ch v c m
 |0,_=>rfl
 |m+1,h=>by
  have e:(v++w).getD m 0=v.getD m 0:=by simp[List.getD_eq_getElem?_getD,List.getElem?_append_left (show m<v.length by omega)]
  rw[oE,oE,D6 ch v w c m F0,e]
theorem ni(ch:Nat)(v:LU)(c:Nat):∀m,m<=c->c<ch->oE ch v c m=D8
 |0,_,_=>rfl
 |m+1,h,h2=>by rw[oE,Abg (by rw[Ado F0];omega),ni ch v c m F0 h2]
theorem Q8(ch:Nat)(v:LU)(c i:Nat)(hi:i %ch=c)(hc:c<ch):∀j,j<ch->oE ch v c (i+1+j)=oE ch v c (i+1)
 |0,_=>rfl
 |j+1,h=>by
  have hne:(i+1+j) %ch≠c:=by
   intro e;have h1:(i+(1+j)) %ch=i %ch:=by rw[hi,<-e];congr 1;omega
   have h2:(1+j) %ch=0:=by
    have h3:=Nat.sub_mod_eq_zero_of_mod_eq h1;rwa [Apn]at h3
   rw[Ado F0]at h2;omega
  rw[show i+1+(j+1)=(i+1+j)+1 by omega,oE,Abg hne,Q8 ch v c i hi hc j F0]
theorem Adx(ch:Nat)(v:LU)(c i:Nat)(hi:i %ch=c)(hc:c<ch):oE ch v c (i+ch)=nxt (oE ch v c i) (v.getD i 0):=by
 have h:=Q8 ch v c i hi hc (ch-1) F0;rw[show i+1+(ch-1)=i+ch by omega]at h;rw[h,oE,Abp hi]
theorem jU{l:LU}{k:Nat}(h:k<l.length):Ah l (k:Int)=some (l.getD k 0):=by
 rw[Cu h];simp[List.getD_eq_getElem?_getD,h]
theorem EF(a b:Nat):Ed (a:Int) (b:Int)=((a %b:Nat):Int):=by rw[Ed,Apg F0];omega
def now(ch:Nat)(v:LU):DuN:=oE ch v (v.length %ch) v.length
def sts(ch:Nat)(v:LU):List DuL:=(List.range 6).map λc=>toI (oE ch v c v.length)
theorem Ag0{ch:Nat}{c:Nat}(h:c<6):Ah (sts ch v) (c:Int)=some (toI (oE ch v c v.length)):=by
 rw[Cu (by simp[sts];exact h)];simp[sts]
theorem Ah8{ch:Nat}{c:Nat}(x:UInt32)(h:c<6)(hc:c=v.length %ch):Ka (sts ch v) (c:Int) (toI (nxt (oE ch v c v.length) x))=some (sts ch (v++[x])):=by
 rw[Wq _ (by simp[sts];exact h)];congr 1;apply Ano (by simp[sts]);intro i h1 h2;rw[Aqf];simp only[sts,Aps,Api];have e:(v++[x]).getD v.length 0=x:=by simp
 rw[Abr,Aoe,oE,e,D6 ch v [x] i v.length (Ala _)];by_cases hi:c=i
 ·subst hi;rw[Abp rfl,Abp hc.symm]
 ·rw[Abg hi,Abg F0]
theorem Aib{ch:Nat}{c:Nat}(hc:c=v.length %ch):oE ch v c v.length=now ch v:=by rw[now,hc]
theorem G4(n:Int):(GI.ofZ n:Int32)=Int32.ofInt n:=rfl
theorem NT(a:Int32):GI.toZ a=a.toInt:=rfl
theorem qR(a b:Int32):Ae a b=a+b:=by
 rw[Ae,NT,NT,G4,Int32.ofInt_add,Ann,Ann]
theorem QR(a b:Int32):Ag a b=a-b:=by
 rw[Ag,NT,NT,G4,Int32.ofInt_sub,Ann,Ann]
theorem oz(a b:Int32):geq a b=(a==b):=by
 rw[geq,NT,NT,Alr];simp[Int32.toInt_inj]
def sC(p:Nat->Bool)(a b:LX):LX:=(List.range a.length).map λk=>if p k=true then a.getD k 0 else b.getD k 0
section
variable {p q:Nat->Bool} {a b:LX}
theorem NS:(sC p a b).length=a.length:=by simp[sC]
theorem Mu{k:Nat}(h:k<a.length):a.getD k 0=a[k]:=by simp[List.getD_eq_getElem?_getD,h]
theorem Va{k:Nat}(h:k<(sC p a b).length):(sC p a b)[k]=if p k=true then a.getD k 0 else b.getD k 0:=by simp[sC]
theorem jP{k:Nat}(h:k<a.length):Ah (sC p a b) (k:Int)=some (if p k=true then a.getD k 0 else b.getD k 0):=by
 rw[Cu (by rw[NS];exact h),Va]
theorem kP(h:∀k,k<a.length->p k=q k):sC p a b=sC q a b:=by
 apply Aqs;intro k hk;rw[h k (List.mem_range.1 hk)]
theorem D1{k:Nat}(h:k<a.length):Ka (sC p a b) (k:Int) (a.getD k 0)=some (sC (λj=>p j||decide (j=k)) a b):=by
 rw[Wq _ (by rw[NS];exact h)];congr 1;apply Ano (by simp[NS]);intro i h1 h2;rw[Aqf,Va,Va];by_cases hi:k=i
 ·subst hi;simp
 ·have:¬i=k:=λe=>hi e.symm;simp[hi,this]
theorem C3(h:∀k,k<a.length->p k=true):sC p a b=a:=by
 apply Ano (by simp[NS]);intro i h1 h2;rw[Va,Abp (h i h2),Mu h2]
theorem qH(hl:b.length=a.length)(h:∀k,k<a.length->p k=false):sC p a b=b:=by
 apply Ano (by simp[NS,hl]);intro i h1 h2;rw[Va,h i F0];simp[List.getD_eq_getElem?_getD,h2]
end
theorem Ari{p:Prop}(h:p:=by rw[Cq];simp;omega):p:=h
theorem Arw{p:Prop}(h:p:=by rw[Re];simp;omega):p:=h
theorem Ar2{p:Prop}(h:p:=by rw[Bj];decide):p:=h
theorem Arl{p:Prop}(h:p:=by rw[Af];simp):p:=h
theorem Arn{p:Prop}(h:p:=by rw[Cq];simp):p:=h
theorem Ary{p:Prop}(h:p:=by rw[Ax];simp):p:=h
end Go.Pl
namespace Go.Pl
open Go Go.Lv
variable{s bits:Int}{x w:Int32}{t p a b:LX}{i:Nat}
theorem qB(a b:Int32):Bf a b=a*b:=by
 rw[Bf,NT,NT,G4,Int32.ofInt_mul,Ann,Ann]
theorem CJ(a:Int32): -2147483648<=a.toInt/\a.toInt<2147483648:=⟨a.le_toInt,a.toInt_lt⟩
theorem Fa(a:Int32):(Ad a:Int)=a.toInt:=by
 have:=CJ a
 show wrap64 a.toInt=_;rw[Dh]<;>omega
theorem SA(n:Int):(Ad n:Int32)=Int32.ofInt n:=rfl
theorem Aa2(x:Int):Int32.ofInt (x %4294967296)=Int32.ofInt x:=by
 apply Int32.toInt_inj.1;rw[Apv,Apv];exact Int.emod_bmod x 4294967296
theorem pG(x:Int):Be x=some (Int32.ofInt x):=by
 have e1:(Ad x:UInt64).toNat=(x %18446744073709551616).toNat:=by
  rw[N1,Aj4,Ado F0]
 have e2:(Ad (Ad x:UInt64):UInt32).toNat=(x %4294967296).toNat:=by
  have e:(Ad (Ad x:UInt64):UInt32)=UInt32.ofNat (Ad x:UInt64).toNat:=by simp only[Ad,Ki,Jq]
  rw[e,Aix,e1];show(x %18446744073709551616).toNat %4294967296=_;omega
 have e3:(Ad (Ad (Ad x:UInt64):UInt32):Int32)=Int32.ofInt ((Ad (Ad x:UInt64):UInt32).toNat:Int):=rfl;rw[Be,e3,e2,<-Aa2 x];congr 2;omega
theorem J9(a b:Int32):Be (Ae (Ad a:Int) (Ad b:Int))=some (a+b):=by
 have:=CJ a;have:=CJ b;rw[Fa,Fa,Aj,pG,Int32.ofInt_add,Ann,Ann]
theorem Ael(a b:Int32):Be (Bf (Ad a:Int) (Ad b:Int))=some (a*b):=by
 have ha:=CJ a;have hb:=CJ b;have h1: -9223372036854775808<=a.toInt*b.toInt/\a.toInt*b.toInt<=9223372036854775807:=by
  have h2:(a.toInt*b.toInt).natAbs<=2147483648*2147483648:=by
   rw[Int.natAbs_mul];exact Anj F0 F0
  omega
 rw[Fa,Fa,Ia h1.1 h1.2,pG,Int32.ofInt_mul,Ann,Ann]
def jo(s:Int)(t p:LX):Prop:=(s=9\/s=10)/\t.length=16/\p.length=16
theorem kV(h:jo s t p):EP s t p=some 0:=by
 obtain⟨rfl|rfl,_,_⟩:=h<;>rfl
theorem E4{l:LX}{k:Nat}(h:k<l.length):Ah l (k:Int)=some (l.getD k 0):=by
 rw[Cu h];simp[List.getD_eq_getElem?_getD,h]
def aD(t p:LX):Nat->Int32
 |0=>0
 |i+1=>aD t p i+t.getD i 0*p.getD i 0
def half(s:Int):Int32:=if s=9 then 256 else 512
def gF(s:Int)(t p:LX):Int32:=Int32.ofInt ((half s+aD t p 16).toInt.fdiv (if s=9 then 512 else 1024))
theorem wN{s:Int}{t p:LX}(h:jo s t p):∀(j i q:Nat),i+j=16->j<q->Tj t s p q (half s+aD t p i) (i:Int)=some (gF s t p,0)
 |0,i,q+1,hi,_=>by
  obtain rfl:i=16:=F0
  have hs:=h.1;rw[Tj,FH,Abg Arl,OO,eK,Cf Arp,Aa];obtain rfl|rfl:=hs<;>rfl
 |j+1,i,q+1,hi,hq=>by
  obtain⟨hs,ht,hp⟩:=h;rw[Tj,FH,Abp F9,E4 F0,Aa,E4 F0,Aa,Aa,Aj (b:=1) F0 F0,qR,qB,Int32.add_assoc];exact wN ⟨hs,ht,hp⟩ j (i+1) q F0 F0
theorem Ad8(h:jo s t p):LK s t p=some (gF s t p,0):=by
 have hs:=h.1;have h1:=wN h 16 0 Aq F0 F7;have e:De (1:Int32) (GI.toZ (Ag s (1:Int))).toNat=half s+aD t p 0:=by
  obtain rfl|rfl:=hs<;>rfl
 rw[LK,OM,kV h,Aa,Abg Arn,Cf (by rw[Hs,Du];simp;omega),Aa,eE,e];exact h1
theorem tX{s:Int}{t p:LX}(ht:t.length=16)(hp:p.length=16){g:Int32}(hg:aD t p 16=g):∀(j i q:Nat),i+j=16->j<q->Ij s t p q (aD t p i).toInt (i:Int)=some g
 |0,i,q+1,hi,_=>by
  obtain rfl:i=16:=F0
  rw[Ij,Ou,Abg Arl,Wf,JB,SA,Ann,hg]
 |j+1,i,q+1,hi,hq=>by
  have ih:=tX (s:=s) ht hp hg j (i+1) q F0 F0;rw[aD]at ih;rw[Ij,Ou,Abp F9,E4 F0,E4 F0,Aa,Aa,Aa,Aa,Ael,Aa,<-Fa (aD t p i),J9,Aa,Fa,Aj];exact ih
theorem Adb(h:jo s t p):EE s t p=some (aD t p 16):=
 tX h.2.1 h.2.2 rfl 16 0 Aq F0 F7
theorem Abe(x n:Int)(hn:n=512\/n=1024\/n=16\/n=32):(if x.tmod n<0 then x.tdiv n-1 else x.tdiv n)=x.fdiv n:=by
 have hs:n.sign=1:=by obtain rfl|rfl|rfl|rfl:=hn<;>rfl
 rw[Int.tdiv_eq_ediv,Int.tmod_eq_emod,hs,Anh _ F0];by_cases h:0<=x\/n∣x
 ·rw[Abp h,Abp h];obtain rfl|rfl|rfl|rfl:=hn<;>(rw[Abg F0];omega)
 ·rw[Abg h,Abg h];obtain rfl|rfl|rfl|rfl:=hn<;>(rw[Abp F0];omega)
theorem uG(x n:Int)(hn:n=512\/n=1024\/n=16\/n=32)(h: -1000000000000<=x)(h':x<=1000000000000): -1000000000000<=x.tdiv n/\x.tdiv n<=1000000000000:=by
 have hs:n.sign=1:=by obtain rfl|rfl|rfl|rfl:=hn<;>rfl
 rw[Int.tdiv_eq_ediv,hs];by_cases h:0<=x\/n∣x
 ·rw[Abp h];obtain rfl|rfl|rfl|rfl:=hn<;>omega
 ·rw[Abg h];obtain rfl|rfl|rfl|rfl:=hn<;>omega
theorem Amd(x n:Int)(hn:n=512\/n=1024\/n=16\/n=32)(h: -1000000000000<=x)(h':x<=1000000000000):Ba x n=x.tdiv n:=by
 have:=uG x n hn h h';rw[TO,Dh F0 F0]
theorem O7(x n:Int)(hn:n=512\/n=1024\/n=16\/n=32)(h: -1000000000000<=x)(h':x<=1000000000000):
  (if(Cj (Ed x n) (0:Int))=true then some (Ad (Ag (Ba x n) (1:Int)):Int32)else some (Ad (Ba x n):Int32))=some (Int32.ofInt (x.fdiv n)):=by
 have hb:=uG x n hn h h';rw[Af,Ed,Amd x n hn h h',Du,SA,SA,<-Abe x n hn];by_cases hx:x.tmod n<0
 ·rw[Abp (by simpa using hx),Abp hx]
 ·rw[Abg (by simpa using hx),Abg hx]
theorem Age(h:jo s t p):Nx s t p=some (gF s t p):=by
 obtain⟨hs,ht,hp⟩:=h;have h:jo s t p:=⟨hs,ht,hp⟩;have hx:=CJ (aD t p 16+half s);have key:∀n:Int,(n=512\/n=1024)-> (half s).toInt=n/2->gF s t p=Int32.ofInt ((half s+aD t p 16).toInt.fdiv n)->Vi s t p n=some (gF s t p):=by
  intro n hn hh hg;have e2:Ba n (2:Int)=(half s).toInt:=by rw[hh];obtain rfl|rfl:=hn<;>rfl
  rw[Vi,FT,Adb h,Aa,e2,<-Fa (half s),J9,Aa,Cf Ari,Aa,Aa,Fa,O7 _ n F0 F0 F0,hg,Int32.add_comm]
 rw[Nx,FZ];obtain rfl|rfl:=hs
 ·rw[Abp Ar8];exact key 512 (.inl rfl) rfl rfl
 ·rw[Abg Ar2];exact key 1024 (.inr rfl) rfl rfl
def H9(i:Nat):Int32:=if i=0 then 4 else if i<4 then 2 else 1
def sg(x:Int32):Int32:=if x.toInt<0 then -1 else if 0<x.toInt then 1 else 0
def uU(t p:LX)(w:Int32):LX:=(List.range 16).map λi=>t.getD i 0+H9 i*sg (p.getD i 0)*sg w
theorem FN(t p:LX)(w:Int32):(uU t p w).length=16:=by simp[uU]
theorem zW(t p:LX)(w:Int32)(h:i<16):(uU t p w).getD i 0=t.getD i 0+H9 i*sg (p.getD i 0)*sg w:=by
 rw[Mu (by rw[FN];exact h)];simp[uU]
theorem step_eq(i:Nat):QL (i:Int)=some (H9 i):=by
 rw[QL,H9];by_cases h:i=0
 ·rw[Abp (by rw[Bj];simp[h]),Abp h]
 ·rw[Abg Arj,Abg h];by_cases h2:i<4
  ·rw[Abp F9,Abp h2]
  ·rw[Abg F9,Abg h2]
theorem Aak(i:Nat):Un (i:Int)=some (H9 i):=by
 rw[Un,H9];by_cases h:i=0
 ·rw[Abp (by rw[Bj];simp[h]),Abp h]
 ·rw[Abg Arj,Abg h];by_cases h2:i<4
  ·rw[Abp Arw,Abp h2]
  ·rw[Abg Arw,Abg h2]
theorem zZ(a b:Int32):Cj a b=decide (a.toInt<b.toInt):=rfl
theorem X2(a b:Int32):Em a b=decide (b.toInt<a.toInt):=rfl
theorem sign_eq(x:Int32):Nr x=some (sg x):=by
 rw[Nr,sg,zZ,X2,show(0:Int32).toInt=0 from rfl];by_cases h:x.toInt<0
 ·rw[Abp (by simpa using h),Abp h]
 ·rw[Abg (by simpa using h),Abg h];by_cases h2:0<x.toInt
  ·rw[Abp (by simpa using h2),Abp h2]
  ·rw[Abg (by simpa using h2),Abg h2]
theorem su:sg 0=0:=rfl
theorem toInt_ne(h:x≠0):x.toInt≠0:=λe=>h (Int32.toInt_inj.1 (by rw[e];rfl))
theorem yM(h:x.toInt<0):sg x= -1:=by rw[sg,Abp h]
theorem yO(h:x≠0)(h2:¬x.toInt<0):sg x=1:=by
 have:=toInt_ne h;rw[sg,Abg h2,Abp F0]
theorem bX(i:Nat):H9 i=4\/H9 i=2\/H9 i=1:=by
 unfold H9;by_cases h:i=0
 ·rw[Abp h];exact .inl rfl
 ·rw[Abg h];split;exact .inr (.inl rfl);exact .inr (.inr rfl)
theorem Aar(hx:x≠0)(hw:w≠0)(h:(x.toInt<0)=(w.toInt<0))(i:Nat):H9 i*sg x*sg w=H9 i:=by
 by_cases h1:x.toInt<0
 ·rw[yM h1,yM (by rw[<-h];exact h1)];obtain e|e|e:=bX i<;>rw[e]<;>decide
 ·rw[yO hx h1,yO hw (by rw[<-h];exact h1)];obtain e|e|e:=bX i<;>rw[e]<;>decide
theorem W0(hx:x≠0)(hw:w≠0)(h:¬(x.toInt<0)=(w.toInt<0))(i:Nat)(a:Int32):a+H9 i*sg x*sg w=a-H9 i:=by
 have key:H9 i*sg x*sg w=-H9 i:=by
  by_cases h1:x.toInt<0
  ·have h2:¬w.toInt<0:=λh2=>h (propext ⟨λ_=>h2,λ_=>h1⟩);rw[yM h1,yO hw h2];obtain e|e|e:=bX i<;>rw[e]<;>decide
  ·have h2:w.toInt<0:=Decidable.by_contra λh2=>h (propext ⟨λh3=>absurd h3 h1,λh3=>absurd h3 h2⟩);rw[yO hx h1,yM h2];obtain e|e|e:=bX i<;>rw[e]<;>decide
 rw[key,Int32.sub_eq_add_neg]
def jM(i:Nat):Nat->Bool:=λj=>decide (j<i)
theorem uK(h:i<a.length):Ka (sC (jM i) a b) (i:Int) (a.getD i 0)=some (sC (jM (i+1)) a b):=by
 rw[D1 h];congr 1;apply kP;intro k _;rw[Alr];simp only[jM,Anl,Adz];omega
theorem Aa6(e:a.getD i 0=b.getD i 0):sC (jM i) a b=sC (jM (i+1)) a b:=by
 apply Aqs;intro k _;simp only[jM,Adz];by_cases h1:k<i
 ·rw[Abp h1,Abp F0]
 ·by_cases h2:k=i
  ·subst h2;rw[Abg h1,Abp F0,e]
  ·rw[Abg h1,Abg F0]
theorem R7(h:i<a.length):Ah (sC (jM i) a b) (i:Int)=some (b.getD i 0):=by
 rw[jP h,Abg (by simp[jM])]
theorem xR{s:Int}{t p:LX}{w:Int32}(hw:w≠0)(ht:t.length=16)(hp:p.length=16):∀(j i q:Nat),i+j=16->j<q->Th w p s q (i:Int) (sC (jM i) (uU t p w) t)=some (s,uU t p w,p,0)
 |0,i,q+1,hi,_=>by
  obtain rfl:i=16:=F0
  rw[Th,FI,Abg Arl,C3 (λk hk=>by rw[FN]at hk;simpa [jM]using hk)];rfl
 |j+1,i,q+1,hi,hq=>by
  have hl:=FN t p w;have hg:=zW t p w (i:=i) F0;rw[Th,FI,Abp F9,E4 F0,Aa,Aj (b:=1) F0 F0,R7 F0,step_eq];simp only[Aa];rw[qR,QR,oz,zZ,zZ,show(0:Int32).toInt=0 from rfl];have ih:=xR (s:=s) hw ht hp j (i+1) q F0 F0;by_cases hx:p.getD i 0=0
  ·rw[Abp (by rw[hx];rfl),Aa6 (by rw[hg,hx,su,Int32.mul_zero,Int32.zero_mul,Int32.add_zero])];exact ih
  ·rw[Abg (by simpa using hx)];by_cases hs:((p.getD i 0).toInt<0)=(w.toInt<0)
   ·rw[Abp (by rw[Ape];simp only[hs]),show t.getD i 0+H9 i=(uU t p w).getD i 0 by rw[hg,Aar hx hw hs],uK F0,Aa];exact ih
   ·rw[Abg (by rw[Ape,decide_eq_decide];exact λh=>hs (propext h)),show t.getD i 0-H9 i=(uU t p w).getD i 0 by rw[hg,W0 hx hw hs],uK F0,Aa];exact ih
theorem Abz(p:LX)(ht:t.length=16):uU t p 0=t:=by
 apply Ano (by rw[FN,ht]);intro i h1 h2;have:=zW t p 0 (i:=i) F0;rw[Mu h1,Mu h2]at this;rw[this,su,Int32.mul_zero,Int32.add_zero]
theorem Ad4(h:jo s t p)(w:Int32):VL s t p w=some (s,uU t p w,p,0):=by
 rw[VL,OX,kV h,Aa,Abg Arn,oz];by_cases hw:w=0
 ·rw[Abp (by simpa using hw),hw,Abz p h.2.1]
 ·have h1:=xR (s:=s) hw h.2.1 h.2.2 16 0 Aq F0 F7;rw[qH (by rw[FN,h.2.1]) (λk _=>by simp[jM])]at h1;rw[Abg (by simpa using hw)];exact h1
theorem iV{s:Int}{t p:LX}{w:Int32}(ht:t.length=16)(hp:p.length=16):∀(j i q:Nat),i+j=16->j<q->Ez w s p q (i:Int) (sC (jM i) (uU t p w) t)=some (s,uU t p w,p)
 |0,i,q+1,hi,_=>by
  obtain rfl:i=16:=F0
  rw[Ez,Ke,Abg Arl,C3 (λk hk=>by rw[FN]at hk;simpa [jM]using hk)];rfl
 |j+1,i,q+1,hi,hq=>by
  have hl:=FN t p w;have hg:=zW t p w (i:=i) F0;rw[Ez,Ke,Abp F9,E4 (l:=p) F0,Aj (b:=1) F0 F0,R7 F0,Aak,sign_eq w,Aa,Aa,Aa,Aa,Aa,sign_eq,Aa,Aa,Aa,qR,qB,qB,<-hg,uK F0,Aa];exact iV ht hp j (i+1) q F0 F0
theorem jh(h:jo s t p)(w:Int32):Nt s t p w=some (s,uU t p w,p):=by
 have h1:=iV (s:=s) (w:=w) h.2.1 h.2.2 16 0 Aq F0 F7;rw[qH (by rw[FN,h.2.1]) (λk _=>by simp[jM])]at h1;exact h1
theorem Agl(h:p.length=16):∃a0 a1 a2 a3 a4 a5 a6 a7 a8 a9 b0 b1 b2 b3 b4 b5,p=[a0,a1,a2,a3,a4,a5,a6,a7,a8,a9,b0,b1,b2,b3,b4,b5]:=by
 match p,h with
 |[a0,a1,a2,a3,a4,a5,a6,a7,a8,a9,b0,b1,b2,b3,b4,b5],_=>exact⟨a0,a1,a2,a3,a4,a5,a6,a7,a8,a9,b0,b1,b2,b3,b4,b5,rfl⟩
theorem Af2(h:jo s t p)(x:Int32):cD s t p x=some (s,t,x::p.take 15,0):=by
 obtain⟨hs,ht,hp⟩:=h;rw[cD,JK,kV ⟨hs,ht,hp⟩,Aa,Abg Arn,show pD (16:Int) 1 16=some ()from rfl,Aa,show pD (16:Int) 0 16=some ()from rfl,Aa,UG,iH];obtain⟨a0,a1,a2,a3,a4,a5,a6,a7,a8,a9,b0,b1,b2,b3,b4,b5,rfl⟩:=Agl hp;rfl
def zJ(p:LX)(i:Nat):LX:=(List.range 16).map λk=>if k<=i then p.getD k 0 else p.getD (k-1) 0
theorem Xz(p:LX)(i:Nat):(zJ p i).length=16:=by simp[zJ]
theorem Ag3(p:LX)(i k:Nat)(h:k<16):(zJ p i).getD k 0=if k<=i then p.getD k 0 else p.getD (k-1) 0:=by
 rw[Mu (by rw[Xz];exact h)];simp[zJ]
theorem Aha(p:LX)(i:Nat)(h:i+1<16):Ka (zJ p (i+1)) ((i+1:Nat):Int) (p.getD i 0)=some (zJ p i):=by
 rw[Wq _ (by rw[Xz];exact h)];congr 1;apply Ano (by simp[Xz]);intro k h1 h2;rw[Xz]at h2;rw[Aqf];simp only[zJ,Aps,Api];by_cases hk:i+1=k
 ·subst hk;rw[Abp rfl,Abg F0];rfl
 ·rw[Abg hk];by_cases h3:k<=i
  ·rw[Abp F0,Abp h3]
  ·rw[Abg F0,Abg h3]
theorem nQ(s:Int)(t p:LX)(x:Int32)(hp:p.length=16):∀(i q:Nat),i<16->i<q->Fw x s t q (i:Int) (zJ p i)=some (s,t,x::p.take 15)
 |0,q+1,_,_=>by
  have hg:Ah (zJ p 0) (0:Int)=some ((zJ p 0).getD 0 0):=E4 (l:=zJ p 0) (k:=0) (by rw[Xz];omega);have hset:Ka (zJ p 0) (0:Int) x=some ((zJ p 0).set 0 x):=Wq (l:=zJ p 0) (n:=0) x (by rw[Xz];omega);rw[Fw,Lq,Abg Ary,Ri,BA,hg,Aa,hset,Aa];congr 3;apply Ano (by simp[Xz,hp]);intro k h1 h2;rw[Ap9,Xz]at h1;rw[Aqf];cases k with
  |zero=>rw[Abp rfl];rfl
  |succ k=>
   rw[Abg F0];simp only[zJ,Aps,Api,List.getElem_cons_succ,Aq5];rw[Abg F0,Aqx,Mu F0]
 |i+1,q+1,hi,hq=>by
  have hg:=E4 (l:=zJ p (i+1)) (k:=i) (by rw[Xz];omega);rw[Ag3 p (i+1) i F0,Abp F0]at hg;have e1:Ag ((i+1:Nat):Int) (1:Int)=(i:Int):=by rw[Du];omega
  have hg2:=E4 (l:=zJ p (i+1)) (k:=i+1) (by rw[Xz];omega);rw[Fw,Lq,Abp Ary,e1,hg,Aa,Aa,hg2,Aa,Aha p i hi,Aa];exact nQ s t p x hp i q F0 F0
theorem Aa3(hp:p.length=16)(x:Int32):Oy s t p x=some (s,t,x::p.take 15):=by
 have h:=nQ s t p x hp 15 Aq F0 F7;have e:zJ p 15=p:=by
  apply Ano (by rw[Xz,hp]);intro k h1 h2;rw[Xz]at h1;simp only[zJ,Aps,Api];rw[Abp F0,Mu h2]
 rw[e]at h;exact h
theorem Acg(h:jo s t p)(w x:Int32):jo s (uU t p w) (x::p.take 15):=⟨h.1,FN _ _ _,by simp[h.2.2]⟩
def sB(bits:Int):Int:=if bits=16 then 9 else 10
def shB(bits:Int):Int:=if bits=8 then 4 else 5
def Ch(bits:Int):Prop:=bits=8\/bits=16\/bits=24
def gs(sh:Int)(last:Int32):Int32:=Ad (C1 (Ag (De (Ad last:Int) sh.toNat) (Ad last)) sh.toNat)
theorem Amm(bits:Int):sB bits=9\/sB bits=10:=by unfold sB;split<;>simp
theorem Ahb(bits:Int):0<=shB bits:=by unfold shB;split<;>omega
theorem Aoc(h:Ch bits)(t:LX):jE bits t=some (sB bits,t,List.replicate 16 0,0):=by
 obtain rfl|rfl|rfl:=h<;>rfl
theorem Alb(h:Ch bits):ZN bits=some (shB bits,0):=by
 obtain rfl|rfl|rfl:=h<;>rfl
theorem Aj3{sh:Int}(h:0<=sh)(last:Int32):NB sh last=some (gs sh last):=by
 rw[NB,Cf (by rw[Hs];simpa using h),Aa,Aa];rfl
theorem Aki(h:Ch bits)(last:Int32):Zh bits last=some (gs (shB bits) last,0):=by
 rw[Zh,Alb h,Aa];simp only;rw[Abg Arn,Aj3 (Ahb bits),Aa]
theorem je(h:Ch bits)(last:Int32)(t p:LX):Zf bits last (sB bits) t p=some 0:=by
 rw[Zf,Aoc h,Aa];simp only;rw[Abg (by rw[Cq,Cq];simp)]
theorem lW(sh:Int)(hs:sh=4\/sh=5)(last:Int32):La sh last=some (gs sh last):=by
 have hl:=CJ last;have key:∀n:Int,n=16\/n=32->gs sh last=Int32.ofInt (((n-1)*last.toInt).fdiv n)->Se last n=some (gs sh last):=by
  intro n hn hg;have e:Bf (Ag n (1:Int)) (Ad last:Int)=(n-1)*last.toInt:=by
   obtain rfl|rfl:=hn<;>(rw[Fa,Du,Ia])
  rw[Se,AF,Cf Ari,Aa,Aa,e,O7 _ n F0 (by obtain rfl|rfl:=hn<;>omega) (by obtain rfl|rfl:=hn<;>omega),hg]
 rw[La,CF];obtain rfl|rfl:=hs
 ·rw[Abg Ar2];refine key 16 (.inl rfl) ?_;have e:De (Ad last:Int) (4:Int).toNat=last.toInt*16:=by
   rw[Fa];show wrap64 (last.toInt*2^4)=_;rw[Dh]<;>omega
  rw[gs,e,Fa,Du,SA]
  show Int32.ofInt ((last.toInt*16-last.toInt).fdiv 16)=_;congr 2;omega
 ·rw[Abp Ar8];refine key 32 (.inr rfl) ?_;have e:De (Ad last:Int) (5:Int).toNat=last.toInt*32:=by
   rw[Fa];show wrap64 (last.toInt*2^5)=_;rw[Dh]<;>omega
  rw[gs,e,Fa,Du,SA]
  show Int32.ofInt ((last.toInt*32-last.toInt).fdiv 32)=_;congr 2;omega
theorem Amz(h:Ch bits)(t:LX):Vm bits t=some (bits,0,sB bits,t,List.replicate 16 0,0):=by
 obtain rfl|rfl|rfl:=h<;>rfl
def qC(n:UInt32):Int32:=if n.toNat %2=0 then Int32.ofInt ((n.toNat/2:Nat):Int)else Int32.ofInt (-((n.toNat/2:Nat):Int)-1)
theorem Arf{p:Prop}(h:p:=by rw[Ax,Ac];simp;omega):p:=h
end Go.Pl
namespace Go.Pl
open Go Go.Lv
variable{bits:Int}{v:LU}
theorem L4{c:Prop} [Decidable c](h:c):Hq (decide c)=some ():=by rw[Apb h];rfl
section
variable (ch:Nat) (m:LX)
theorem Ac2(h1:1<=ch)(h6:ch<=6)(hm:m.length %ch=0)(hl2:m.length<=4000):RT (ch:Int) m=some 0:=by
 rw[RT,Abg Are,Abg Arf,Cf Ari,Aa,Abg];rw[Cq,Ed,Ac,<-Int.ofNat_tmod,hm];simp
theorem O8{at' ch n:Nat}(ha:at' %ch=0)(hm:n %ch=0)(h:at'<n):at'+ch<=n:=by
 have d1:=Aqa at' ch;have d2:=Aqa n ch;rw[ha,Aph]at d1;rw[hm,Aph]at d2;have hlt:at'/ch<n/ch:=by
  rcases Aqm (at'/ch) (n/ch)with h'|h'
  ·exact h'
  ·have:=Apl ch h';omega
 have:=Apl ch (show at'/ch+1<=n/ch from hlt);rw[Nat.mul_add]at this;omega
end
theorem tS(a b:Int32):Be (Ag (Ad a:Int) (Ad b:Int))=some (a-b):=by
 have:=CJ a;have:=CJ b;rw[Fa,Fa,Du,pG,Int32.ofInt_sub,Ann,Ann]
theorem Ahf(ch:Nat)(m:LX)(h1:1<=ch)(h6:ch<=6)(hm:m.length %ch=0)(hl2:m.length<=4000):Gw (ch:Int) m=some 0:=by
 rw[Gw,Abg Are,Abg Arf,Cf Ari,Aa,Abg];rw[Ax,Ed,Ac,<-Int.ofNat_tmod,hm];simp
def pre{α:Type}(ch c:Nat)(f:α->Nat->α)(a0:α):Nat->α
 |0=>a0
 |m+1=>if m %ch=c then f (pre ch c f a0 m) m else pre ch c f a0 m
theorem xq{α:Type}(ch c:Nat)(f:α->Nat->α)(a0:α):∀m,m<=c->c<ch->pre ch c f a0 m=a0
 |0,_,_=>rfl
 |m+1,h,h2=>by rw[pre,Abg (by rw[Ado F0];omega),xq ch c f a0 m F0 h2]
theorem I1{α:Type}(ch c i:Nat)(f:α->Nat->α)(a0:α)(hi:i %ch=c)(hc:c<ch):∀j,j<ch->pre ch c f a0 (i+1+j)=pre ch c f a0 (i+1)
 |0,_=>rfl
 |j+1,h=>by
  have hne:(i+1+j) %ch≠c:=by
   intro e;have h1:(i+(1+j)) %ch=i %ch:=by rw[hi,<-e];congr 1;omega
   have h2:(1+j) %ch=0:=by
    have h3:=Nat.sub_mod_eq_zero_of_mod_eq h1;rwa [Apn]at h3
   rw[Ado F0]at h2;omega
  rw[show i+1+(j+1)=(i+1+j)+1 by omega,pre,Abg hne,I1 ch c i f a0 hi hc j F0]
theorem Ac9{α:Type}(ch c i:Nat)(f:α->Nat->α)(a0:α)(hi:i %ch=c)(hc:c<ch):pre ch c f a0 (i+ch)=f (pre ch c f a0 i) i:=by
 have h:=I1 ch c i f a0 hi hc (ch-1) F0;rw[show i+1+(ch-1)=i+ch by omega]at h;rw[h,pre,Abp hi]
abbrev CS:=Int32×LX×LX
def Ab5(bits:Int)(s:CS)(y:Int32):Int32:=y+gF (sB bits) s.2.1 s.2.2+gs (shB bits) s.1
def nL(bits:Int)(s:CS)(y:Int32):CS:=(Ab5 bits s y,uU s.2.1 s.2.2 y,(y+gF (sB bits) s.2.1 s.2.2)::s.2.2.take 15)
def cst(bits:Int)(ch:Nat)(t:LX)(v:LU)(c:Nat):Nat->CS:=pre ch c (λs i=>nL bits s (qC (v.getD i 0))) (0,t,List.replicate 16 0)
def OkC(bits:Int)(s:CS):Prop:=jo (sB bits) s.2.1 s.2.2
theorem jm(bits:Int)(ch:Nat){t:LX}(ht:t.length=16)(v:LU)(c:Nat):∀m,OkC bits (cst bits ch t v c m)
 |0=>⟨Amm bits,ht,by simp[cst,pre]⟩
 |m+1=>by
  have ih:=jm bits ch ht v c m;rw[cst,pre];split
  ·exact Acg ih _ _
  ·exact ih
abbrev CL:=Int×Int32×(Int×LX×LX×Unit)×Unit
def toC(bits:Int)(s:CS):CL:=(bits,s.1,(sB bits,s.2.1,s.2.2,()),())
def cts(bits:Int)(ch:Nat)(t:LX)(v:LU)(i:Nat):List CL:=(List.range 6).map λc=>toC bits (cst bits ch t v c i)
theorem Ah6{ch:Nat}{t:LX}{i c:Nat}(h:c<6):Ah (cts bits ch t v i) (c:Int)=some (toC bits (cst bits ch t v c i)):=by
 rw[Cu (by simp[cts];exact h)];simp[cts]
theorem K3(bits:Int)(ch:Nat)(t:LX)(v:LU)(c m:Nat):cst bits ch t v c (m+1)=if m %ch=c then nL bits (cst bits ch t v c m) (qC (v.getD m 0))else cst bits ch t v c m:=rfl
theorem Ahq{ch:Nat}{t:LX}{i c:Nat}(h:c<6)(hc:i %ch=c):Ka (cts bits ch t v i) (c:Int) (toC bits (nL bits (cst bits ch t v c i) (qC (v.getD i 0))))=some (cts bits ch t v (i+1)):=by
 rw[Wq _ (by simp[cts];exact h)];congr 1;apply Ano (by simp[cts]);intro k h1 h2;rw[Aqf];simp only[cts,Aps,Api];by_cases hk:c=k
 ·subst hk;rw[Abp rfl,K3,Abp hc]
 ·rw[Abg hk,K3,Abg F0]
def hB(bits:Int):Int:=if bits=8 then 128 else if bits=16 then 32768 else 8388608
theorem yZ(h:Ch bits):Lw bits=some (Int32.ofInt (-(hB bits)),Int32.ofInt (hB bits-1),0):=by
 obtain rfl|rfl|rfl:=h<;>decide
theorem rQ(h:Ch bits):Dt bits=some (hB bits):=by
 obtain rfl|rfl|rfl:=h<;>rfl
theorem TH(bits:Int):0<hB bits/\hB bits<=8388608:=by
 unfold hB;split; · omega
 ·split<;>omega
theorem sS{bits:Int}(h:Ch bits)(l:LX)(hl:l.length<=4000):∀(j i q:Nat),i+j=l.length->j<q->
  Qb (Int32.ofInt (-(hB bits))) (Int32.ofInt (hB bits-1)) l q (i:Int)=Bq l (hB bits) q (i:Int)
 |0,i,q+1,hi,_=>by
  rw[Qb,AK,Bq,Dj,Abg F3,Abg F3];rfl
 |j+1,i,q+1,hi,hq=>by
  have hh:=TH bits;have ih:=sS h l hl j (i+1) q F0 F0;have e1:(Int32.ofInt (-(hB bits))).toInt= -(hB bits):=by rw[Apv,Int.bmod_eq_of_le (by show -(4294967296/2:Int)<= _;omega) (by show _<(4294967296+1)/2;omega)]
  have e2:(Int32.ofInt (hB bits-1)).toInt=hB bits-1:=by rw[Apv,Int.bmod_eq_of_le (by show -(4294967296/2:Int)<= _;omega) (by show _<(4294967296+1)/2;omega)]
  rw[Qb,AK,Bq,Dj,Abp F3,Abp F3,E4 F0,Aa,Aa,Aa,Fa,Ade,Dh F0 F0,Aj,zZ,X2,e1,e2,Af,Hs];generalize(l.getD i 0).toInt=X;by_cases h1:X< -(hB bits)
  ·rw[Abp F6,Abp F6]
  ·rw[Abg (c:=decide (X<0-hB bits)=true) F6];by_cases h2:hB bits<=X
   ·rw[Abp F6,Abp F6]
   ·rw[Abg F6,Abg F6];exact ih
theorem fU(h:Ch bits)(l:LX)(hl:l.length<=4000):Rc bits l=Bc bits l:=by
 have hh:=TH bits;rw[Rc,LV,yZ h,Aa,Bc,Ir,rQ h,Aa];simp only;rw[Abg Arn,Abg Arf,Abg Arj,Abg Arf];exact sS h l hl l.length 0 Aq F0 F7
theorem uQ(h:Ch bits)(l:LX)(hl:l.length<=4000):∃e,Bc bits l=some e:=by
 have hh:=TH bits;have key:∀(j i q:Nat),i+j=l.length->j<q->∃e,Bq l (hB bits) q (i:Int)=some e:=by
  intro j
  induction j with
  |zero=>
   intro i q hi hq;obtain⟨q,rfl⟩:∃k,q=k+1:=⟨q-1,F0⟩;rw[Bq,Dj,Abg F3];exact⟨_,rfl⟩
  |succ j ih=>
   intro i q hi hq;obtain⟨q,rfl⟩:∃k,q=k+1:=⟨q-1,F0⟩;rw[Bq,Dj,Abp F3,E4 F0,Aa,Aa,Aj];split
   ·exact⟨_,rfl⟩
   ·split
    ·exact⟨_,rfl⟩
    ·exact ih (i+1) q F0 F0
 obtain⟨e,he⟩:=key l.length 0 Aq F0 F7;rw[Bc,Ir,rQ h,Aa,Abg Arj,Abg Arf];exact⟨e,he⟩
def ZI(s:Nat):Nat:=(s/2)^^^ (if s %2=1 then 3988292384 else 0)
theorem tW{s:Nat}(h:s<4294967296):ZI s<4294967296:=by
 unfold ZI;exact Anr (n:=32) F6 (by split<;>decide)
theorem M4(x y:Nat):(x^^^y)/2=(x/2)^^^ (y/2):=by
 have:=Nat.shiftRight_xor_distrib (a:=x) (b:=y) (i:=1);simpa [Nat.shiftRight_eq_div_pow]using this
theorem Aas(x y:Nat):ZI (x^^^y)=ZI x^^^ZI y:=by
 have h:(x^^^y) %2=(x %2+y %2) %2:=by
  have:=Nat.xor_mod_two_eq_one (a:=x) (b:=y);have h1:(x^^^y) %2<2:=Apc _ F0;omega
 simp only[ZI,M4,h];have hx:x %2=0\/x %2=1:=F0
 have hy:y %2=0\/y %2=1:=F0
 rcases hx with hx|hx<;>rcases hy with hy|hy<;>simp only[hx,hy]<;>simp
 ·rw[Ao8]
 ·rw[Ao8,Aq9 (y/2),Ao8,Aq9 3988292384 (y/2)]
 ·rw[Ao8,Aq9 3988292384,Ao8,Nat.xor_self];simp
def Wb:Nat->Nat->Nat
 |0,s=>s
 |k+1,s=>Wb k (ZI s)
theorem wS:∀(k x y:Nat),Wb k (x^^^y)=Wb k x^^^Wb k y
 |0,_,_=>rfl
 |k+1,x,y=>by rw[Wb,Aas,wS k];rfl
theorem wC:∀(k h:Nat),Wb k (2^k*h)=h
 |0,h=>by simp[Wb]
 |k+1,h=>by
  have:ZI (2^(k+1)*h)=2^k*h:=by
   rw[Aod,Ana (2^k) 2,Ans,ZI,Abg F0,Nat.mul_div_cancel_left _ F0];simp
  rw[Wb,this,wC k]
theorem qU:∀(k:Nat) {s:Nat},s<4294967296->Wb k s<4294967296
 |0,_,h=>h
 |k+1,_,h=>qU k (tW h)
def nH(s c:Nat):Nat:=Wb 8 (s^^^c)
theorem qP{s c:Nat}(h:s<4294967296)(hc:c<256):nH s c<4294967296:=qU 8 (Anr (n:=32) (by simpa using h) F6)
theorem M2{s c:Nat}(hc:c<256):nH s c=(s/256)^^^Wb 8 ((s %256)^^^c):=by
 have h:s=(2^8*(s/256))^^^ (s %256):=by
  have h1:s %256<2^8:=by simpa using Apc s (by omega:256>0)
  have:=Apo h1 (s/256);have h2:2^8*(s/256)|||s %256=(2^8*(s/256))^^^ (s %256):=by
   apply Nat.eq_of_testBit_eq;intro i;rw[Nat.testBit_or,Nat.testBit_xor];by_cases hi:i<8
   ·have:(2^8*(s/256)).testBit i=false:=by rw[Nat.testBit_two_pow_mul];simp;omega
    rw[this];simp
   ·have:(s %256).testBit i=false:=Nat.testBit_lt_two_pow (Als h1 (Ai2 F0 F0));rw[this];simp
  omega
 rw[nH]
 conv=>lhs;rw[h]
 rw[Ao8,wS,wC]
def zy(s:Nat)(l:LB):Nat:=l.foldl (λs c=>nH s c.toNat) s
def Le(b:LB):UInt32:=4294967295-UInt32.ofNat (zy 4294967295 b)
theorem Agg(s:UInt32)(c:Nat)(hc:c<256):Ul s (Ad (Te (UInt8.ofNat c) (2:UInt8)):Int)=some (UInt32.ofNat (s.toNat/2^^^ (if(s.toNat^^^c) %2=1 then 3988292384 else 0))):=by
 have h1:(Ad (Te (UInt8.ofNat c) (2:UInt8)):Int)=((c %2:Nat):Int):=by
  rw[bQ,um,UInt8.toNat_mod,Al4];show((c %256 %2:Nat):Int)=_;omega
 have h2:geq (Te s (2:UInt32)) (1:UInt32)=decide (s.toNat %2=1):=by
  rw[oh,Acl,Alr];simp only[Ape,Adz];rw[<-UInt32.toNat_inj,UInt32.toNat_mod];rfl
 have h3:Ba s (2:UInt32)=UInt32.ofNat (s.toNat/2):=by
  apply UInt32.toNat_inj.1;rw[Acz,UInt32.toNat_div,Aix]
  show s.toNat/2=_;have:=s.toNat_lt;omega
 have h4:Ww (Ba s (2:UInt32)) (3988292384:UInt32)=UInt32.ofNat (s.toNat/2^^^3988292384):=by
  apply UInt32.toNat_inj.1;rw[h3,PT,Aqt,Aix,Aix];have:=s.toNat_lt;rw[Ado (a:=s.toNat/2) F0,Ado]
  ·rfl
  ·exact Anr (n:=32) F0 F4
 have hx:(s.toNat^^^c) %2=(s.toNat %2+c %2) %2:=by
  have:=Nat.xor_mod_two_eq_one (a:=s.toNat) (b:=c);have h1:(s.toNat^^^c) %2<2:=Apc _ F0;omega
 have hs:s.toNat %2=0\/s.toNat %2=1:=F0
 have hc2:c %2=0\/c %2=1:=F0
 rw[Ul,FP,h1,h2,hx];rcases hs with hs|hs<;>rcases hc2 with hc2|hc2<;>simp[hs,hc2,Bj,FY,GW,PT,h3]
theorem nB:∀(j i q:Nat) (s:UInt32) (c:Nat),i+j=8->j<q->c<2^j->Hh q s (UInt8.ofNat c) (i:Int)=some (UInt32.ofNat (Wb j (s.toNat^^^c)))
 |0,i,q+1,s,c,hi,_,hc=>by
  obtain rfl:i=8:=F0
  obtain rfl:c=0:=by simpa using hc
  rw[Hh,Oe,Abg Arl,Vl,HD,Wb];simp
 |j+1,i,q+1,s,c,hi,hq,hc=>by
  have hc8:c<256:=Als hc (show 2^(j+1)<=2^8 from Ai2 F0 F0);rw[Hh,Oe,Abp F9,Agg s c hc8,Aa,Aj];have e:Ba (UInt8.ofNat c) (2:UInt8)=UInt8.ofNat (c/2):=by
   apply UInt8.toNat_inj.1;rw[Ahg,UInt8.toNat_div,Al4,Al4]
   show c %256/2=_;omega
  rw[e];have h:=nB j (i+1) q (UInt32.ofNat (s.toNat/2^^^ (if(s.toNat^^^c) %2=1 then 3988292384 else 0))) (c/2) F0 F0 (by rw[Aod]at hc;omega);rw[show((i:Int)+1)=((i+1:Nat):Int) by omega,h,Aix,Wb];congr 3;have:=s.toNat_lt;rw[Ado,ZI,M4,Ao8,Ao8,Aq9 (c/2)];exact Anr (n:=32) F0 (by split<;>decide)
theorem Ahc(s:UInt32)(c:UInt8):CG s c=some (UInt32.ofNat (nH s.toNat c.toNat)):=by
 have h:=nB 8 0 Aq s c.toNat F0 F7 (by simpa using c.toNat_lt);rw[UInt8.ofNat_toNat]at h;exact h
theorem eC(b:LB)(hb:b.length<4611686018427387904):∀(j i q:Nat) (s:UInt32),i+j=b.length->j<q->Fv b q s (i:Int)=some (UInt32.ofNat (zy s.toNat (b.drop i)))
 |0,i,q+1,s,hi,_=>by
  rw[Fv,Lg,Abg F3,show i=b.length by omega,Apa];simp[Ta,BH,zy]
 |j+1,i,q+1,s,hi,hq=>by
  have hlt:i<b.length:=F0
  rw[Fv,Lg,Abp F3,Cu hlt,Aa,Ahc,Aa,Aj];have h:=eC b hb j (i+1) q (UInt32.ofNat (nH s.toNat b[i].toNat)) F0 F0;rw[show((i:Int)+1)=((i+1:Nat):Int) by omega,h,drop_cons hlt,Aix,Ado (qP s.toNat_lt b[i].toNat_lt)];rfl
theorem Ab9(b:LB)(hb:b.length<4611686018427387904):Fk b=some (Le b):=by
 have h:=eC b hb b.length 0 Aq 4294967295 F0 F7;rw[Fk,We,Rn,BW,show((0:Int))=((0:Nat):Int)from rfl,h,Aa,rB];rfl
theorem Ahv(c:UInt32):Ww (Bu c (GI.toZ (1:UInt64)).toNat) (Bf (3988292384:UInt32) (Eb c (1:UInt32)))=UInt32.ofNat (ZI c.toNat):=by
 apply UInt32.toNat_inj.1;have e:(GI.toZ (1:UInt64)).toNat=1:=rfl;have h1:(Bu c 1).toNat=c.toNat/2:=by rw[PW]
 have h2:(Bf (3988292384:UInt32) (Eb c (1:UInt32))).toNat=if c.toNat %2=1 then 3988292384 else 0:=by
  rw[S4,L5,UInt32.toNat_mul,UInt32.toNat_and]
  show 3988292384*(c.toNat&&&1) %4294967296=_;rw[Nat.and_one_is_mod];have:c.toNat %2=0\/c.toNat %2=1:=F0
  rcases this with h|h<;>simp[h]
 rw[e,PT,Aqt,h1,h2,Aix,Ado (tW c.toNat_lt)];rfl
theorem I5(Ef:Int->LU->Option (UInt32×Int))(s:UInt32)(b:LB)(x:Int)(t:LU):∀(j i q:Nat) (c:UInt32),i+j=8->j<q->
  Pz Ef s b x t q c (i:Int)=BB Ef s b x (UInt32.ofNat (Wb j c.toNat)) t
 |0,i,q+1,c,hi,_=>by
  obtain rfl:i=8:=F0
  rw[Pz,AS,Abg Arl,Wb,UInt32.ofNat_toNat]
 |j+1,i,q+1,c,hi,hq=>by
  rw[Pz,AS,Abp F9,Ahv,Aj,show((i:Int)+1)=((i+1:Nat):Int) by omega,I5 Ef s b x t j (i+1) q _ F0 F0,Aix,Ado (tW c.toNat_lt)];rfl
def qm(n:Nat):LU:=(List.range n).map λi=>UInt32.ofNat (Wb 8 i)
theorem xu(s:UInt32)(b:LB):∀(j i q:Nat),i+j=256->j<q->Mf s b q (i:Int) (qm i++List.replicate j 0)=KY s b (qm 256)
 |0,i,q+1,hi,_=>by
  obtain rfl:i=256:=F0
  rw[Mf,CI,Abg Arl];simp
 |j+1,i,q+1,hi,hq=>by
  have hlen:(qm i++List.replicate (j+1) 0).length=i+(j+1):=by simp[qm]
  rw[Mf,CI,Abp F9,JY];have h:=I5 (Mf s b q) s b (i:Int) (qm i++List.replicate (j+1) 0) 8 0 Aq (Ad (i:Int)) F0 F7;rw[show((0:Int))=((0:Nat):Int)from rfl,h,BB,ZR,Cu (by rw[hlen];omega),Aa,Wq _ (by rw[hlen];omega),Aa,bB,YO,Aj];have e:(Ad (i:Int):UInt32).toNat=i:=by rw[xK,Aix,Ado F0]
  rw[e,Aop,gZ (by simp[qm])];have h2:=xu s b j (i+1) q F0 F0;have h3:qm (i+1)=qm i++[UInt32.ofNat (Wb 8 i)]:=by simp[qm,List.range_succ]
  rw[h3]at h2;rw[show((i:Int)+1)=((i+1:Nat):Int) by omega,<-h2];simp
theorem Agw{i:Nat}(h:i<256):Ah (qm 256) (i:Int)=some (UInt32.ofNat (Wb 8 i)):=by
 rw[Cu (by simpa [qm]using h)];simp[qm]
theorem Afa(s:UInt32)(c:UInt8):Ah (qm 256) (GI.toZ (Ww (Ad s:UInt8) c))=some (UInt32.ofNat (Wb 8 ((s.toNat %256)^^^c.toNat))):=by
 have e:GI.toZ (Ww (Ad s:UInt8) c)=(((s.toNat %256)^^^c.toNat:Nat):Int):=by
  rw[CY,mo,UInt8.toNat_xor,fS,Al4]
 rw[e,Agw];exact Anr (n:=8) F6 (by simpa using c.toNat_lt)
theorem Aap(s:UInt32)(c:UInt8):Ww (Bu s (GI.toZ (8:UInt64)).toNat) (UInt32.ofNat (Wb 8 ((s.toNat %256)^^^c.toNat)))=UInt32.ofNat (nH s.toNat c.toNat):=by
 apply UInt32.toNat_inj.1;have hlt:Wb 8 ((s.toNat %256)^^^c.toNat)<4294967296:=qU 8 (Anr (n:=32) F6 (by have:=c.toNat_lt;simp;omega));have e:(GI.toZ (8:UInt64)).toNat=8:=rfl;rw[e,PT,Aqt,PW,Aix,Aix,Ado hlt,Ado (qP s.toNat_lt c.toNat_lt),M2 c.toNat_lt]
theorem P6(b:LB)(hb:b.length<4611686018427387904):∀(j i q:Nat) (s:UInt32),i+j=b.length->j<q->Qi b (qm 256) q s (i:Int)=some (UInt32.ofNat (zy s.toNat (b.drop i)),0)
 |0,i,q+1,s,hi,_=>by
  rw[Qi,CH,Abg F3,show i=b.length by omega,Apa];simp[KM,ZB,zy]
 |j+1,i,q+1,s,hi,hq=>by
  have hlt:i<b.length:=F0
  rw[Qi,CH,Abp F3,Cu hlt,Aa,Afa,Aa,Aa,Aap,Aj];have h:=P6 b hb j (i+1) q (UInt32.ofNat (nH s.toNat b[i].toNat)) F0 F0;rw[show((i:Int)+1)=((i+1:Nat):Int) by omega,h,drop_cons hlt,Aix,Ado (qP s.toNat_lt b[i].toNat_lt)];rfl
theorem Agd(s:UInt32)(b:LB)(hb:b.length<=100000):VB s b=some (UInt32.ofNat (zy s.toNat b),0):=by
 have h:=xu s b 256 0 Aq F0 F7;have h2:=P6 b F0 b.length 0 Aq s F0 F7;rw[VB,OP,Abg Arf,YW];refine Aqc h ?_;rw[KY,KP,ZC,KW,LD];exact h2
theorem Acw(a:UInt32):Y7 a=4294967295-a:=by
 have h:=a.toNat_lt;have e:Y7 a=UInt32.ofNat (BitVec.ofInt 32 4294967295^^^BitVec.ofInt 32 (a.toNat:Int)).toNat:=Jq _;apply UInt32.toNat_inj.1;rw[e,Aix,UInt32.toNat_sub_of_le _ _ (by rw[UInt32.le_iff_toNat_le];show a.toNat<=4294967295;omega)];have h1:BitVec.ofInt 32 (a.toNat:Int)=a.toBitVec:=dw a;have h2:(BitVec.ofInt 32 4294967295:BitVec 32)=BitVec.allOnes 32:=F4
 rw[h1,h2,BitVec.allOnes_xor,BitVec.toNat_not];show(4294967296-1-a.toNat) %4294967296=4294967295-a.toNat;omega
theorem X8(b:LB)(hb:b.length<=100000):EI b=some (Le b,0):=by
 rw[EI,Agd _ _ hb,Aa];simp only[Cq,Acw];rfl
theorem Aax(b:LB)(hb:b.length<=1000000):Ky b=some (b++Zw (Le b).toNat 4):=by
 have h:∀k:Nat,(Ad (Bu (Le b) k):UInt8)=UInt8.ofNat ((Le b).toNat/2^k):=by
  intro k;rw[fS,PW]
 have h0:(Ad (Le b):UInt8)=UInt8.ofNat (Le b).toNat:=fS _;have h1:=h 8;have h2:=h 16;have h3:=h 24;rw[Ky,Ab9 b F0,Aa,Az F6,Aa,Az F6,Aa,h0,show(GI.toZ (8:UInt64)).toNat=8 from rfl,show(GI.toZ (16:UInt64)).toNat=16 from rfl,show(GI.toZ (24:UInt64)).toNat=24 from rfl,h1,h2,h3];simp only[Zw,Apu,Aoz]
theorem NQ(a b:Int32):a-b+b=a:=by
 apply Int32.toBitVec_inj.1;simp only[Int32.toBitVec_sub,Int32.toBitVec_add];apply BitVec.eq_of_toNat_eq;simp only[BitVec.toNat_sub,BitVec.toNat_add];have:=a.toBitVec.isLt;have:=b.toBitVec.isLt;omega
def E1(f:Nat->Int32)(ch i:Nat):Int32:=if i+1<ch then f (i+1)-f i else if 1<ch then f (ch-1)-Ba (f (ch-1)-f (ch-2)) (2:Int32)else f (ch-1)
def mx(ch:Nat)(x:LX):LX:=(List.range x.length).map λk=>E1 (λi=>x.getD (k-k %ch+i) 0) ch (k %ch)
theorem HS(ch:Nat)(x:LX):(mx ch x).length=x.length:=by simp[mx]
theorem Aj5{ch:Nat}{x:LX}{k:Nat}(h:k<x.length):(mx ch x).getD k 0=E1 (λi=>x.getD (k-k %ch+i) 0) ch (k %ch):=by
 rw[Mu (by rw[HS];exact h)];simp[mx]
def aW(x:Int32):UInt32:=UInt32.ofNat (if 0<=x.toInt then 2*x.toInt.toNat else 2*(-x.toInt-1).toNat+1)
theorem Adq(x:Int32):qC (aW x)=x:=by
 have h:=CJ x;have e:(aW x).toNat=if 0<=x.toInt then 2*x.toInt.toNat else 2*(-x.toInt-1).toNat+1:=by
  rw[aW,Aix];split<;>exact Ado F0
 rw[qC,e];by_cases h0:0<=x.toInt
 ·rw[Abp h0,Abp F0,show((2*x.toInt.toNat/2:Nat):Int)=x.toInt by omega,Ann]
 ·rw[Abg h0,Abg F0,show -(((2*(-x.toInt-1).toNat+1)/2:Nat):Int)-1=x.toInt by omega,Ann]
theorem wA{α:Type}(ch c:Nat)(f g:α->Nat->α)(a0:α):∀m:Nat,(∀i,i<m->∀a,f a i=g a i)->pre ch c f a0 m=pre ch c g a0 m
 |0,_=>rfl
 |m+1,h=>by
  rw[pre,pre,wA ch c f g a0 m λi hi=>h i F0,h m F0]
theorem Ahk(bits:Int)(ch:Nat)(t:LX)(v w:LU)(c i:Nat)(h:i<=v.length):cst bits ch t (v++w) c i=cst bits ch t v c i:=by
 unfold cst;apply wA;intro j hj a;have:(v++w).getD j 0=v.getD j 0:=by
  rw[List.getD_eq_getElem?_getD,List.getD_eq_getElem?_getD,List.getElem?_append_left F0]
 rw[this]
def fI(bits:Int)(s:CS)(x:Int32):Int32:=x-gs (shB bits) s.1-gF (sB bits) s.2.1 s.2.2
theorem wE(bits:Int)(s:CS)(x:Int32):Ab5 bits s (fI bits s x)=x:=by
 rw[Ab5,fI,NQ,NQ]
def evl(bits:Int)(ch:Nat)(t m:LX):Nat->LU
 |0=>[]
 |i+1=>evl bits ch t m i++[aW (fI bits (cst bits ch t (evl bits ch t m i) (i %ch) i) (m.getD i 0))]
theorem D4(bits:Int)(ch:Nat)(t m:LX):∀i,(evl bits ch t m i).length=i
 |0=>rfl
 |i+1=>by rw[evl,Abr,D4 bits ch t m i];rfl
theorem xg(bits:Int)(ch:Nat)(t m:LX):∀(j i:Nat),∃w,evl bits ch t m (i+j)=evl bits ch t m i++w
 |0,i=>⟨[],Ard⟩
 |j+1,i=>by
  obtain⟨w,hw⟩:=xg bits ch t m j i;rw[<-Am6,evl,hw];exact⟨_,Ams _ _ _⟩
theorem Arq{p:Prop}(h:p:=by rw[Abr];omega):p:=h
end Go.Pl
namespace Go.Pl
open Go Go.Lv
variable{b p:LB}{c d:List Bool}{a k l s i:Nat}
def tb(l:List Bool)(k:Nat):Nat:=if l.getD k false=true then 1 else 0
theorem lq(b:Bool)(l:List Bool):tb (b::l) 0=if b=true then 1 else 0:=rfl
theorem qh(b:Bool)(l:List Bool)(k:Nat):tb (b::l) (k+1)=tb l k:=by simp[tb]
theorem qx{a b:List Bool}(h:k<a.length):tb (a++b) k=tb a k:=by
 rw[tb,tb,List.getD_eq_getElem?_getD,List.getD_eq_getElem?_getD,List.getElem?_append_left h]
theorem yR(a b:List Bool)(k:Nat):tb (a++b) (a.length+k)=tb b k:=by
 rw[tb,tb,List.getD_eq_getElem?_getD,List.getD_eq_getElem?_getD,List.getElem?_append_right F0,Apn]
theorem Z1{l:List Bool}(h:l.length<=k):tb l k=0:=by
 rw[tb,List.getD_eq_getElem?_getD,List.getElem?_eq_none h];rfl
def At(p:LB)(a:Nat)(c:List Bool):Prop:=∀i,i<c.length->Gt p (a+i)=tb c i
theorem At.left(h:At p a (c++d)):At p a c:=λi hi=>by
 rw[h i Arq,qx hi]
theorem At.right(h:At p a (c++d)):At p (a+c.length) d:=λi hi=>by
 rw[Am6,h (c.length+i) Arq,yR]
theorem At.cons{b:Bool}(h:At p a (b::c)):Gt p a=(if b=true then 1 else 0)/\At p (a+1) c:=by
 have h0:=h 0 Ard;rw[Aph,lq]at h0;refine⟨h0,λi hi=>?_⟩;have:=h (i+1) F6;rw[qh]at this;rw[show a+1+i=a+(i+1) by omega,this]
def PR:Nat->Nat->List Bool
 |_,0=>[]
 |v,n+1=>decide (v %2=1)::PR (v/2) n
theorem Px:∀(v n:Nat),(PR v n).length=n
 |_,0=>rfl
 |v,n+1=>by rw[PR,Ajc,Px (v/2) n]
theorem EJ(p:LB):∀(n a v:Nat),At p a (PR v n)->Cx p a n=v %2^n
 |0,a,v,_=>by rw[Cx,Nat.pow_zero,Nat.mod_one]
 |n+1,a,v,h=>by
  rw[PR]at h;obtain⟨h0,h1⟩:=h.cons;rw[Cx,h0,EJ p n (a+1) (v/2) h1,Aod,Ana (2^n) 2,Nat.mod_mul];have:=Nat.mod_two_eq_zero_or_one v;rcases this with e|e<;>simp[e]
def KN(l v:Nat):List Bool:=if 48<=v/2^l then List.replicate 48 true++PR v 32 else List.replicate (v/2^l) true++(false::PR (v %2^l) l)
theorem Aaz{v:Nat}(hl:l<=24):1<= (KN l v).length/\ (KN l v).length<=80:=by
 rw[KN];generalize v/2^l=q;split
 ·rw[Abr,Akm,Px];omega
 ·rw[Abr,Akm,Ajc,Px];omega
def Lc(k l:Nat)(v:UInt32):List Bool:=if v.toNat<2^k then false::PR v.toNat k else true::KN l (v.toNat-2^k)
theorem JR(v:UInt32)(hk:k<=24)(hl:l<=24):1<= (Lc k l v).length/\ (Lc k l v).length<=81:=by
 have:=Aaz (v:=v.toNat-2^k) hl;rw[Lc];split
 ·rw[Ajc,Px];omega
 ·rw[Ajc];omega
def bv:List Bool->Nat
 |[]=>0
 |b::r=>(if b=true then 1 else 0)+2*bv r
theorem Ajd:∀l:List Bool,bv l<2^l.length
 |[]=>by decide
 |b::r=>by
  have:=Ajd r;rw[bv,Ajc,Aod];split<;>omega
theorem Adu:∀(l:List Bool) (k:Nat),bv l/2^k %2=tb l k
 |[],k=>by simp[bv,tb]
 |b::r,0=>by
  rw[bv,lq,Nat.pow_zero,Nat.div_one];split<;>omega
 |b::r,k+1=>by
  have:((if b=true then 1 else 0)+2*bv r)/2=bv r:=by split<;>omega
  rw[bv,qh,Aod,Ana (2^k) 2,<-Apu,this,Adu r k]
def Dr(c:List Bool):LB:=(List.range ((c.length+7)/8)).map λj=>UInt8.ofNat (bv ((c.drop (8*j)).take 8))
theorem Qe(c:List Bool):(Dr c).length=(c.length+7)/8:=by simp[Dr]
theorem Vr(c:List Bool)(i:Nat):Gt (Dr c) i=tb c i:=by
 rw[Gt];by_cases h:i/8<(c.length+7)/8
 ·have hg:(Dr c).getD (i/8) 0=UInt8.ofNat (bv ((c.drop (8*(i/8))).take 8)):=by
   rw[List.getD_eq_getElem?_getD,List.getElem?_eq_getElem (by rw[Qe];exact h)];simp[Dr]
  have hlt:=Ajd ((c.drop (8*(i/8))).take 8);have hl8:((c.drop (8*(i/8))).take 8).length<=8:=by rw[Ahl];omega
  have hp:=Ai2 (show 0<2 by omega) hl8;have hn:(UInt8.ofNat (bv ((c.drop (8*(i/8))).take 8))).toNat=bv ((c.drop (8*(i/8))).take 8):=by
   rw[Al4];exact Ado F0
  rw[hg,hn,Adu,tb,tb];have:((c.drop (8*(i/8))).take 8).getD (i %8) false=c.getD i false:=by
   rw[List.getD_eq_getElem?_getD,List.getD_eq_getElem?_getD,List.getElem?_take,Abp F0,List.getElem?_drop,show 8*(i/8)+i %8=i by omega]
  rw[this]
 ·have hg:(Dr c).getD (i/8) 0=0:=by
   rw[List.getD_eq_getElem?_getD,List.getElem?_eq_none (by rw[Qe];omega)];rfl
  rw[hg,Z1 F0];simp
def Zv(ch:Nat)(V:LU):Nat->List Bool
 |0=>[]
 |i+1=>Zv ch V i++Lc (now ch (V.take i)).1 (now ch (V.take i)).2.1 (V.getD i 0)
theorem yB(ch:Nat)(v:LU):(now ch v).1<=24/\ (now ch v).2.1<=24:=by
 have:=sG ch v (v.length %ch) v.length;exact⟨this.1,this.2.1⟩
theorem FU(ch:Nat)(V:LU):∀i,(Zv ch V i).length<=81*i
 |0=>by simp[Zv]
 |i+1=>by
  have h:=yB ch (V.take i);have:=JR (V.getD i 0) h.1 h.2;rw[Zv,Abr];have:=FU ch V i;omega
def P64:Nat:=4823603603198064275
def IA(s:Nat):Nat:=(2*s %18446744073709551616)^^^ (s/9223372036854775808*P64)
theorem SO(h:s<18446744073709551616):IA s<18446744073709551616:=by
 have h1:s/9223372036854775808=0\/s/9223372036854775808=1:=F0
 exact Anr (n:=64) (Apc _ F4) (by rcases h1 with e|e<;>rw[e]<;>decide)
theorem yh(x y:Nat):(x^^^y)/9223372036854775808=(x/9223372036854775808)^^^ (y/9223372036854775808):=by
 have:=Nat.shiftRight_xor_distrib (a:=x) (b:=y) (i:=63);simpa [Nat.shiftRight_eq_div_pow]using this
theorem sw(x y:Nat):2*(x^^^y) %18446744073709551616=(2*x %18446744073709551616)^^^ (2*y %18446744073709551616):=by
 have h1:=Nat.shiftLeft_xor_distrib (a:=x) (b:=y) (i:=1);have h2:=Nat.xor_mod_two_pow (a:=2*x) (b:=2*y) (n:=64);have e:2*(x^^^y)=(2*x)^^^ (2*y):=by simpa [Nat.shiftLeft_eq,Ana]using h1
 rw[e];exact h2
theorem Agz{b:Nat}(ha:a=0\/a=1)(hb:b=0\/b=1)(p:Nat):(a^^^b)*p=(a*p)^^^ (b*p):=by
 rcases ha with rfl|rfl<;>rcases hb with rfl|rfl<;>simp
theorem An4(a b c d:Nat):(a^^^b)^^^ (c^^^d)=(a^^^c)^^^ (b^^^d):=by
 rw[Ao8,Ao8,<-Ao8 b c d,Aq9 b c,Ao8 c b d]
theorem X5{x y:Nat}(hx:x<18446744073709551616)(hy:y<18446744073709551616):IA (x^^^y)=IA x^^^IA y:=by
 rw[IA,IA,IA,sw,yh,Agz F0 F0,An4]
def Nh:Nat->Nat->Nat
 |0,s=>s
 |k+1,s=>Nh k (IA s)
theorem kL:∀(k:Nat) {s:Nat},s<18446744073709551616->Nh k s<18446744073709551616
 |0,_,h=>h
 |k+1,_,h=>kL k (SO h)
theorem sP:∀(k:Nat) {x y:Nat},x<18446744073709551616->y<18446744073709551616->Nh k (x^^^y)=Nh k x^^^Nh k y
 |0,_,_,_,_=>rfl
 |k+1,x,y,hx,hy=>by rw[Nh,X5 hx hy,sP k (SO hx) (SO hy)];rfl
theorem qA:∀(k h:Nat),2^k*h<18446744073709551616->Nh k h=2^k*h
 |0,h,_=>by simp[Nh]
 |k+1,h,hl=>by
  have hpos:0<2^k:=Ap4 F0;rw[Aod,Ans]at hl;have h2:2*h<18446744073709551616:=Ao3 (Nat.le_mul_of_pos_left _ hpos) hl;have:IA h=2*h:=by rw[IA,Ado h2,show h/9223372036854775808=0 by omega];simp
  rw[Nh,this,qA k _ hl,Aod,Ans]
def aX(s c:Nat):Nat:=Nh 8 (s^^^ (c*72057594037927936))
theorem c56{c:Nat}(hc:c<256):c*72057594037927936<18446744073709551616:=F0
theorem lP{c:Nat}(h:s<18446744073709551616)(hc:c<256):aX s c<18446744073709551616:=kL 8 (Anr (n:=64) h (c56 hc))
theorem Ags(s:Nat):s=(s/72057594037927936*72057594037927936)^^^ (s %72057594037927936):=by
 have h1:s %72057594037927936<2^56:=Apc _ F4;have:=Apo h1 (s/72057594037927936);have h2:2^56*(s/72057594037927936)|||s %72057594037927936=(2^56*(s/72057594037927936))^^^ (s %72057594037927936):=by
  apply Nat.eq_of_testBit_eq;intro i;rw[Nat.testBit_or,Nat.testBit_xor];by_cases hi:i<56
  ·have:(2^56*(s/72057594037927936)).testBit i=false:=by rw[Nat.testBit_two_pow_mul];simp;omega
   rw[this];simp
  ·have:(s %72057594037927936).testBit i=false:=Nat.testBit_lt_two_pow (Als h1 (Ai2 F0 F0));rw[this];simp
 rw[Ana (s/72057594037927936)]
 show s=(2^56*(s/72057594037927936))^^^ _;rw[<-h2,<-this];have:=Aqa s 72057594037927936
 show s=72057594037927936*_+_;omega
theorem zn(a c:Nat):(a^^^c)*72057594037927936=(a*72057594037927936)^^^ (c*72057594037927936):=by
 have h1:=Nat.shiftLeft_xor_distrib (a:=a) (b:=c) (i:=56);simpa [Nat.shiftLeft_eq]using h1
theorem yY{c:Nat}(h:s<18446744073709551616)(hc:c<256):aX s c=(256*s %18446744073709551616)^^^Nh 8 (((s/72057594037927936)^^^c)*72057594037927936):=by
 have hs:s/72057594037927936<2^8:=by show _<256;omega
 have hx:(s/72057594037927936)^^^c<256:=Anr (n:=8) hs (by simpa using hc);have hl:s %72057594037927936<72057594037927936:=Apc _ F4;rw[aX]
 conv=>lhs;rw[Ags s]
 rw[Aq9 (s/72057594037927936*72057594037927936),Ao8,<-zn,sP 8 F0 (c56 hx),qA 8 _ (by show 256*_<_;omega)];congr 1
 show 256*(s %72057594037927936)=_;omega
def rS(s:Nat)(l:LB):Nat:=l.foldl (λs c=>aX s c.toNat) s
theorem uX{n:Nat}(h:n<18446744073709551616):(UInt64.ofNat n).toNat=n:=by rw[Aj4];exact Ado h
theorem Ajl(s:UInt64)(bit:Nat)(hb:bit=0\/bit=1):Um s (bit:Int)=some (UInt64.ofNat ((2*s.toNat %18446744073709551616)^^^ (((s.toNat/9223372036854775808)^^^bit)*P64))):=by
 have hs:=s.toNat_lt;have ht:s.toNat/9223372036854775808=0\/s.toNat/9223372036854775808=1:=F0
 have e1:(Bf s (2:UInt64)).toNat=2*s.toNat %18446744073709551616:=by
  rw[RH,UInt64.toNat_mul];show s.toNat*2 %_=_;rw[Ana]
 have hlt:2*s.toNat %18446744073709551616<18446744073709551616:=Apc _ F4;have ey:Ww (Bf s (2:UInt64)) (4823603603198064275:UInt64)=UInt64.ofNat ((2*s.toNat %18446744073709551616)^^^P64):=by
  apply UInt64.toNat_inj.1;rw[qL,UInt64.toNat_xor,e1,uX (Anr (n:=64) hlt F4)];rfl
 have en:Bf s (2:UInt64)=UInt64.ofNat (2*s.toNat %18446744073709551616):=by
  apply UInt64.toNat_inj.1;rw[e1,uX hlt]
 have eg:Jz s (9223372036854775808:UInt64)=decide (s.toNat/9223372036854775808=1):=by
  rw[Afz,decide_eq_decide]
  show 9223372036854775808<=s.toNat↔_;omega
 have hp:∀b:Bool,Ur s b=some (if b=true then UInt64.ofNat ((2*s.toNat %18446744073709551616)^^^P64)else UInt64.ofNat (2*s.toNat %18446744073709551616)):=by
  intro b;rw[Ur,HE,ey,en];cases b<;>rfl
 rw[Um,GO,hp,hp,eg];rcases hb with rfl|rfl<;>rcases ht with h|h<;>rw[h]<;>simp[Bj]
theorem nT(c:UInt8):∀(j q:Nat) (s:UInt64),j<=8->j<q->Hi c q s ((2^j/2:Nat):Int)=some (UInt64.ofNat (Nh j (s.toNat^^^ (c.toNat %2^j*2^(64-j)))))
 |0,q+1,s,_,_=>by
  rw[Hi,Oi,Abg Ary,Up,HH];simp[Nh,Nat.mod_one]
 |j+1,q+1,s,hj,hq=>by
  have hc:=c.toNat_lt;have hs:=s.toNat_lt;have hj2:2^j<=2^7:=Ai2 F0 F0;have hpos:0<2^j:=Ap4 F0;have e1:2^(j+1)/2=2^j:=by rw[Aod];omega
  have e2:Ba ((2^j:Nat):Int) 2=((2^j/2:Nat):Int):=by
   generalize 2^j=K at*
   rw[TO,Apf F0,Dh F0 F0];omega
  have e3:Ed (Ba (Ad c:Int) ((2^j:Nat):Int)) (2:Int)=((c.toNat/2^j %2:Nat):Int):=by
   have hX:=Am3 c.toNat (2^j);rw[bQ,TO,<-Int.ofNat_tdiv];generalize c.toNat/2^j=X at*
   rw[Dh F0 F0,Ed,Apg F0];omega
  have hbit:c.toNat/2^j %2=0\/c.toNat/2^j %2=1:=F0
  rw[Hi,Oi,e1,Abp (by rw[Ax,Adz];omega),Cf (by rw[Cq,Aq8];omega),Aa,e3,Ajl s _ hbit,Aa,e2,nT c j q _ F0 F0];congr 2;rw[Nh];congr 1;have hx:c.toNat %2^(j+1)*2^(64-(j+1))=(c.toNat/2^j %2)*9223372036854775808+c.toNat %2^j*2^(63-j):=by
   have h63:(9223372036854775808:Nat)=2^j*2^(63-j):=by rw[<-Aq2,show j+(63-j)=63 by omega]
   rw[Nat.mod_pow_succ,h63,show 64-(j+1)=63-j by omega,Aft,Aqg,Ans,Nat.mul_left_comm]
  have hr:c.toNat %2^j<2^j:=Apc _ hpos;have Aqo:c.toNat %2^j*2^(63-j)<9223372036854775808:=by
   have h63:(9223372036854775808:Nat)=2^j*2^(63-j):=by rw[<-Aq2,show j+(63-j)=63 by omega]
   rw[h63];exact Nat.mul_lt_mul_of_pos_right hr (Ap4 F0)
  have h64:c.toNat %2^j*2^(64-j)=2*(c.toNat %2^j*2^(63-j)):=by
   rw[show 64-j=(63-j)+1 by omega,Aod,<-Ans,Ana]
  rw[hx,h64];generalize c.toNat %2^j*2^(63-j)=R at*
  generalize c.toNat/2^j %2=b at*
  have ht:s.toNat/9223372036854775808=0\/s.toNat/9223372036854775808=1:=F0
  have hp:((s.toNat/9223372036854775808^^^b)*P64)<18446744073709551616:=by
   rcases ht with h|h<;>rcases hbit with h2|h2<;>rw[h,h2]<;>decide
  rw[uX (Anr (n:=64) (Apc _ F4) hp),IA,sw,yh,show(b*9223372036854775808+R)/9223372036854775808=b by omega,show 2*(b*9223372036854775808+R) %18446744073709551616=2*R by omega,Ao8,Ao8,Aq9 (2*R)]
theorem Aju(c:UInt8)(s:UInt64):AD s c=some (UInt64.ofNat (aX s.toNat c.toNat)):=by
 have h:=nT c 8 Aq s (Ala _) F7;have hc:=c.toNat_lt;rw[Ado (show c.toNat<2^8 by simpa using hc)]at h;exact h
theorem eH(b:LB)(hb:b.length<4611686018427387904):∀(j i q:Nat) (s:UInt64),i+j=b.length->j<q->Fu b q s (i:Int)=some (UInt64.ofNat (rS s.toNat (b.drop i)))
 |0,i,q+1,s,hi,_=>by
  rw[Fu,Lm,Abg F3,show i=b.length by omega,Apa];simp[Rv,BU,rS]
 |j+1,i,q+1,s,hi,hq=>by
  have hlt:i<b.length:=F0
  have hc:=b[i].toNat_lt;rw[Fu,Lm,Abp F3,Cu hlt,Aa,Aju,Aa,Aj];have h:=eH b hb j (i+1) q (UInt64.ofNat (aX s.toNat b[i].toNat)) F0 F0;rw[show((i:Int)+1)=((i+1:Nat):Int) by omega,h,drop_cons hlt,uX (lP s.toNat_lt (by simpa using hc))];rfl
def FR(b:LB):UInt64:=UInt64.ofNat (rS 0 b)
theorem P5(b:LB)(hb:b.length<=100000):Pc 0 b=some (FR b):=
 eH b F0 b.length 0 Aq 0 F0 F7
theorem X9(c:UInt64):Ww (De c (GI.toZ (1:UInt64)).toNat) (Bf (4823603603198064275:UInt64) (Bu c (GI.toZ (63:UInt64)).toNat))=UInt64.ofNat (IA c.toNat):=by
 have hc:=c.toNat_lt;apply UInt64.toNat_inj.1;have h1:(De c (GI.toZ (1:UInt64)).toNat).toNat=2*c.toNat %18446744073709551616:=by
  rw[show(GI.toZ (1:UInt64)).toNat=1 from rfl,SS,Ana]
 have h2:(Bf (4823603603198064275:UInt64) (Bu c (GI.toZ (63:UInt64)).toNat)).toNat=c.toNat/9223372036854775808*P64:=by
  rw[show(GI.toZ (63:UInt64)).toNat=63 from rfl,RH,UInt64.toNat_mul,Xs]
  show 4823603603198064275*(c.toNat/9223372036854775808) %18446744073709551616=_;have h1:c.toNat/9223372036854775808=0\/c.toNat/9223372036854775808=1:=F0
  rcases h1 with e|e<;>rw[e]<;>decide
 rw[qL,UInt64.toNat_xor,h1,h2,uX (SO hc)];rfl
theorem mW(Ef:Int->LQ->Option (UInt64×Int))(s:UInt64)(b:LB)(x:Int)(t:LQ):∀(j i q:Nat) (c:UInt64),i+j=8->j<q->
  Qp Ef s b x t q c (i:Int)=AT Ef s b x (UInt64.ofNat (Nh j c.toNat)) t
 |0,i,q+1,c,hi,_=>by
  obtain rfl:i=8:=F0
  rw[Qp,AB,Abg Arl,Nh,UInt64.ofNat_toNat]
 |j+1,i,q+1,c,hi,hq=>by
  rw[Qp,AB,Abp F9,X9,Aj,show((i:Int)+1)=((i+1:Nat):Int) by omega,mW Ef s b x t j (i+1) q _ F0 F0,uX (SO c.toNat_lt)];rfl
def OB(n:Nat):LQ:=(List.range n).map λi=>UInt64.ofNat (Nh 8 (i*72057594037927936))
theorem rY(s:UInt64)(b:LB):∀(j i q:Nat),i+j=256->j<q->Mq s b q (i:Int) (OB i++List.replicate j 0)=LJ s b (OB 256)
 |0,i,q+1,hi,_=>by
  obtain rfl:i=256:=F0
  rw[Mq,BE,Abg Arl];simp
 |j+1,i,q+1,hi,hq=>by
  have hlen:(OB i++List.replicate (j+1) 0).length=i+(j+1):=by simp[OB]
  rw[Mq,BE,Abp F9,MP];have h:=mW (Mq s b q) s b (i:Int) (OB i++List.replicate (j+1) 0) 8 0 Aq (De (Ad (i:Int):UInt64) (GI.toZ (56:UInt64)).toNat) F0 F7;rw[show((0:Int))=((0:Nat):Int)from rfl,h,AT,YQ,Cu (by rw[hlen];omega),Aa,Wq _ (by rw[hlen];omega),Aa,YY,YC,Aj];have e:(De (Ad (i:Int):UInt64) (GI.toZ (56:UInt64)).toNat).toNat=i*72057594037927936:=by
   rw[SS,FA,uX F0]
   show i*72057594037927936 %18446744073709551616=_;omega
  rw[e,Aop,gZ (by simp[OB])];have h2:=rY s b j (i+1) q F0 F0;have h3:OB (i+1)=OB i++[UInt64.ofNat (Nh 8 (i*72057594037927936))]:=by simp[OB,List.range_succ]
  rw[h3]at h2;rw[show((i:Int)+1)=((i+1:Nat):Int) by omega,<-h2];simp
theorem Aay(h:i<256):Ah (OB 256) (i:Int)=some (UInt64.ofNat (Nh 8 (i*72057594037927936))):=by
 rw[Cu (by simpa [OB]using h)];simp[OB]
theorem T7(s:UInt64)(c:UInt8):Ah (OB 256) (GI.toZ (Ww (Ad (Bu s (GI.toZ (56:UInt64)).toNat):UInt8) c))=some (UInt64.ofNat (Nh 8 (((s.toNat/72057594037927936)^^^c.toNat)*72057594037927936))):=by
 have hs:=s.toNat_lt;have e:GI.toZ (Ww (Ad (Bu s (GI.toZ (56:UInt64)).toNat):UInt8) c)=(((s.toNat/72057594037927936)^^^c.toNat:Nat):Int):=by
  have e2:((Ad (Bu s (GI.toZ (56:UInt64)).toNat):UInt8)).toNat=s.toNat/72057594037927936:=by
   rw[UM,Al4,Xs]
   show s.toNat/72057594037927936 %256=_;omega
  rw[CY,mo,UInt8.toNat_xor,e2]
 rw[e,Aay];exact Anr (n:=8) (by show _<256;omega) (by simpa using c.toNat_lt)
theorem zD(s:UInt64)(c:UInt8):Ww (De s (GI.toZ (8:UInt64)).toNat) (UInt64.ofNat (Nh 8 (((s.toNat/72057594037927936)^^^c.toNat)*72057594037927936)))=UInt64.ofNat (aX s.toNat c.toNat):=by
 have hs:=s.toNat_lt;have hc:c.toNat<256:=by simpa using c.toNat_lt
 apply UInt64.toNat_inj.1;have hlt:Nh 8 (((s.toNat/72057594037927936)^^^c.toNat)*72057594037927936)<18446744073709551616:=kL 8 (c56 (Anr (n:=8) (by show _<256;omega) (by simpa using c.toNat_lt)));have e:(GI.toZ (8:UInt64)).toNat=8:=rfl;rw[e,qL,UInt64.toNat_xor,SS,uX hlt,uX (lP hs hc),yY hs hc,Ana s.toNat]
theorem mY(b:LB)(s0:UInt64)(hb:b.length<4611686018427387904):∀(j i q:Nat) (s:UInt64),i+j=b.length->j<q->Qg b s0 (OB 256) q s (i:Int)=some (UInt64.ofNat (rS s.toNat (b.drop i)),0)
 |0,i,q+1,s,hi,_=>by
  rw[Qg,BD,Abg F3,show i=b.length by omega,Apa];simp[LR,YI,ZW,ZU,rS]
 |j+1,i,q+1,s,hi,hq=>by
  have hlt:i<b.length:=F0
  have hc:=b[i].toNat_lt;rw[Qg,BD,Abp F3,Cu hlt,Aa,T7,Aa,Aa,zD,Aj];have h:=mY b s0 hb j (i+1) q (UInt64.ofNat (aX s.toNat b[i].toNat)) F0 F0;rw[show((i:Int)+1)=((i+1:Nat):Int) by omega,h,drop_cons hlt,uX (lP s.toNat_lt (by simpa using hc))];rfl
theorem Q5(b:LB)(hb:b.length<=100000):QW b=some (FR b,0):=by
 have h:=rY 0 b 256 0 Aq F0 F7;have h2:=mY b 0 F0 b.length 0 Aq 0 F0 F7;have hn:UN 0 b=some (FR b,0):=by
  rw[UN,OZ,Abg Arf,ZK];refine Aqc h ?_;rw[LJ,KA,KK];exact h2
 rw[QW,hn,Aa]
theorem zx(p:LB)(hp:p.length<=64):JM p=some (Zw (FR p).toNat 8,0):=by
 rw[JM,lM,Abg Arf,Q5 p F0,Aa,Aa];simp only;have h:=RS (FR p) 8 F0 F0 (by simpa using(FR p).toNat_lt);rw[Abg Arn];exact congrArg (λo=>Option.bind o λx:LB×Int=>some (x.1,x.2)) h
theorem yw(p:LB)(hp:p.length<=64):Jt p=some (Zw (FR p).toNat 8):=by
 have h:=UE (FR p) 8 F0;rw[Jt,BP,P5 p F0,Aa,Aa];exact congrArg (λo=>Option.bind o λl=>some l) h
def s8(n:Nat):Int32:=Int32.ofInt (if n<128 then(n:Int)else(n:Int)-256)
def NN(d:UInt64)(n:Nat):LX:=(List.range n).map λi=>s8 (d.toNat/256^i %256)
theorem RP(d:UInt64)(n:Nat):(NN d n).length=n:=by simp[NN]
theorem tU(d:UInt64)(n:Nat):NN d (n+1)=NN d n++[s8 (d.toNat/256^n %256)]:=by simp[NN,List.range_succ]
theorem bm8(z:Nat):(z:Int).bmod Int8.size=if z %256<128 then((z %256:Nat):Int)else((z %256:Nat):Int)-256:=by
 rw[show Int8.size=256 from rfl,Int.bmod_def];split<;>split<;>omega
theorem tq(d:UInt64):∀(j i q:Nat),i+j=8->j<q->ES d q (i:Int) (NN d i++List.replicate (16-i) 0)=some (NN d 8++List.replicate 8 0)
 |0,i,q+1,hi,_=>by
  obtain rfl:i=8:=F0
  rw[ES,VK,Abg Arl];rfl
 |j+1,i,q+1,hi,hq=>by
  have hlen:(NN d i++List.replicate (16-i) 0).length=16:=by simp[RP];omega
  have ih:=tq d j (i+1) q F0 F0;have e8:Bf (8:Int) (i:Int)=((8*i:Nat):Int):=by rw[Ia];omega
  have ev:(Ad (Ad (Bu d (GI.toZ (((8*i:Nat):Int))).toNat):Int8):Int32)=s8 (d.toNat/256^i %256):=by
   have e1:(Bu d (GI.toZ (((8*i:Nat):Int))).toNat).toNat=d.toNat/256^i:=by
    rw[show(GI.toZ (((8*i:Nat):Int))).toNat=8*i from rfl,Xs,Nat.pow_mul]
   show Int32.ofInt (Int8.ofInt ((Bu d (GI.toZ (((8*i:Nat):Int))).toNat).toNat:Int)).toInt=_;rw[e1,s8,Int8.toInt_ofInt,bm8]
  rw[ES,VK,Abp F9,e8,Cf Arp,Aa,ev,Cu,Aa,Wq _ F0,Aa,Aj,show 16-i=(15-i)+1 by omega,Aop,gZ (RP d i)];rw[tU,show 16-(i+1)=15-i by omega,Ams]at ih;exact ih
theorem Acx(d:UInt64):∀(j i q:Nat) (e:UInt64),i+j=8->j<q->e.toNat=d.toNat/256^i->Hc q e (i:Int) (NN d i++List.replicate (16-i) 0)=some (NN d 8++List.replicate 8 0)
 |0,i,q+1,e,hi,_,he=>by
  obtain rfl:i=8:=F0
  rw[Hc,Rl,Abg Arl];rfl
 |j+1,i,q+1,e,hi,hq,he=>by
  have hlen:(NN d i++List.replicate (16-i) 0).length=16:=by simp[RP];omega
  have hq2:(Ba e (256:UInt64)).toNat=d.toNat/256^(i+1):=by
   rw[RX,Ap1,he,Aod,<-Apu];rfl
  have ih:=Acx d j (i+1) q (Ba e (256:UInt64)) F0 F0 hq2;have ev:(Ad (Te e (256:UInt64)):Int32)=Int32.ofInt ((d.toNat/256^i %256:Nat):Int):=by
   show Int32.ofInt ((Te e (256:UInt64)).toNat:Int)=_;rw[YR,Aqe,he];rfl
  have hz:d.toNat/256^i %256<256:=Apc _ F0;have et:(Int32.ofInt ((d.toNat/256^i %256:Nat):Int)).toInt=((d.toNat/256^i %256:Nat):Int):=by
   rw[Apv,Int.bmod_eq_of_le (by show -(4294967296/2:Int)<= _;omega) (by show _<(4294967296+1)/2;omega)]
  have hp8:∀x:Int32,x=s8 (d.toNat/256^i %256)->Rz (Hc q) e (i:Int) (NN d i++List.replicate (16-i) 0) x=some (NN d 8++List.replicate 8 0):=by
   intro x hx;rw[Rz,LM,hx,Cu,Aa,Wq _ F0,Aa,Aj,show 16-i=(15-i)+1 by omega,Aop,gZ (RP d i)];rw[tU,show 16-(i+1)=15-i by omega,Ams]at ih;exact ih
  rw[Hc,Rl,Abp F9,ev,X2,et,show(127:Int32).toInt=127 from rfl];by_cases h:d.toNat/256^i %256<128
  ·rw[Abg (by simp only[Adz];omega)];exact hp8 _ (by rw[s8,Abp h])
  ·rw[Abp (by simp only[Adz];omega)];refine hp8 _ ?_;rw[s8,Abg h,QR,Int32.ofInt_sub];rfl
def Ru(p:LB):LX:=NN (FR p) 8++List.replicate 8 0
theorem TS(p:LB):(Ru p).length=16:=by simp[Ru,RP]
theorem wY(p:LB)(hp:p.length<=64):SK p=some (Ru p,0):=by
 have h:=tq (FR p) 8 0 Aq F0 F7;have h2:yI (FR p)=some (Ru p):=h;rw[SK,Abg Arf,Q5 p F0,Aa];simp only;rw[Abg Arn,h2,Aa]
theorem O0(p:LB)(hp:p.length<=64):Hv p=some (Ru p,0):=by
 have h:=Acx (FR p) 8 0 Aq (FR p) F0 F7 Ard;have h2:HX (FR p)=some (Ru p):=h;rw[Hv,Abg Arf,EX,BK,Abg Arf,P5 p F0,Aa,Aa,Aa];simp only;rw[h2,Aa]
def u8(z:Int):UInt8:=UInt8.ofNat (z %256).toNat
def wB(bits:Int):Nat:=if bits=8 then 1 else if bits=16 then 2 else 3
theorem E0{bits:Int}(h:Ch bits):Ba bits 8=(wB bits:Int):=by obtain rfl|rfl|rfl:=h<;>rfl
theorem J1(bits:Int):1<=wB bits/\wB bits<=3:=by
 unfold wB;split; · omega
 ·split<;>omega
def Agj(bits:Int)(x:Int):LB:=if bits=8 then [u8 (x+128)]else if bits=16 then [u8 x,u8 (x/256)]else [u8 x,u8 (x/256),u8 (x/65536)]
theorem Abu(bits x:Int):(Agj bits x).length<=3:=by
 unfold Agj;split; · simp
 ·split<;>simp
def gM(bits:Int)(l:LX):LB:=l.flatMap λx=>Agj bits x.toInt
theorem uE(bits:Int):∀l:LX,(gM bits l).length<=3*l.length
 |[]=>by simp[gM]
 |x::l=>by
  have h1:=uE bits l;have h2:=Abu bits x.toInt;simp only[gM,List.flatMap_cons,Abr,Ajc]at*
  omega
def uf(bits:Int)(l:LX):Prop:=∀x∈l, -(hB bits)<=x.toInt/\x.toInt<hB bits
def fL:LB->Nat->Int×Int
 |[],n=>((n:Int),0)
 |c::r,n=>if 128<=c.toNat then(0,12)else fL r (128*n+c.toNat)
theorem yg:∀(l:LB) (n k:Nat),n<128^k->0<= (fL l n).1/\ (fL l n).1<((128^(k+l.length):Nat):Int)
 |[],n,k,h=>by simp[fL];exact_mod_cast h
 |c::r,n,k,h=>by
  rw[fL];split
  ·have:0<128^(k+(c::r).length):=Ap4 F0;exact⟨Int.le_refl _,by simp only;exact_mod_cast this⟩
  ·have:=yg r (128*n+c.toNat) (k+1) (by rw[Aod];omega);rw[Ajc,show k+(r.length+1)=k+1+r.length by omega];exact this
theorem Ae6(b:LB)(hb:b.length=4):∀(j i q n:Nat),i+j=4->j<q->n<128^i->Iu b q (n:Int) (i:Int)=some (fL (b.drop i) n)
 |0,i,q+1,n,hi,_,_=>by
  rw[Iu,Ty,Abg F9,show b.drop i=[] by simp;omega];rfl
 |j+1,i,q+1,n,hi,hq,hn=>by
  have hlt:i<b.length:=F0
  have hn2:n<268435456:=Als hn (show 128^i<=128^4 from Ai2 F0 F0);rw[Iu,Ty,Abp F9,Cu hlt,Aa,drop_cons hlt,fL,Akl];have h128:(128:UInt8).toNat=128:=rfl;by_cases hc:128<=b[i].toNat
  ·rw[Abp (by simpa using hc),Abp hc]
  ·have h3:=b[i].toNat_lt;rw[Abg (by simpa using hc),Abg hc,Aa,bQ,Ia,Aj,Aj];have:=Ae6 b hb j (i+1) q (128*n+b[i].toNat) F0 F0 (by rw[Aod];omega);rw[<-this];rfl
theorem Aba(b:LB)(hb:b.length=4):Yk b=some (fL b 0):=by
 have h:=Ae6 b hb 4 0 Aq 0 F0 F7 Ard;rw[Yk,DW,Abg (by rw[Cq,Ac];simp;omega),DL];exact h
theorem Acr(hb:b.length=4):0<= (fL b 0).1/\ (fL b 0).1<268435456:=by
 have:=yg b 0 0 Ard;rw[hb]at this;simpa using this
def ou(b:LB)(n:Int):Int×Int:=
 if 4000<n then(0,4)else if(b.length:Int)<n then(0,24)else
 if b.getD 5 0=16/\ (b.take n.toNat).drop (n-10).toNat≠ [51,68,73]++part b 3 7 then(0,12)else(n,0)
def rz(b:LB)(r:Int):Int×Int:=ou b (r+10+(if b.getD 5 0=16 then 10 else 0))
def rU(b:LB):Int×Int:=
 if ¬(3<=b.length/\b.take 3=[73,68,51])then(0,6)else if b.length<10 then(0,24)else
 if(fL (part b 6 4) 0).2≠0\/b.getD 4 0≠0\/ ¬((b.getD 5 0=0/\2<= (b.getD 3 0).toNat/\ (b.getD 3 0).toNat<=4)\/ (b.getD 5 0=16/\b.getD 3 0=4))then(0,12)else
 rz b (fL (part b 6 4) 0).1
theorem yA(h:i<b.length):Ah b (i:Int)=some (b.getD i 0):=by
 rw[Cu h];simp[List.getD_eq_getElem?_getD,h]
theorem Xl(a w:Nat)(h:a+w<=b.length:=by omega):Ff b (a:Int) ((a+w:Nat):Int)=some (part b a w):=by
 rw[fF];rfl
theorem Agu(b:LB)(r:Int)(h10:10<=b.length)(h0:0<=r)(h1:r<268435456):Uu b r=some (rz b r):=by
 have g5:Ah b (5:Int)=some (b.getD 5 0):=yA (i:=5) F0;have key:∀n:Int,10<=n->n<268435500->Uq b n=some (ou b n):=by
  intro n hn hn2;rw[Uq,GX,ou];by_cases c1:4000<n
  ·rw[Abp (by rw[Ax];simpa using c1),Abp c1]
  ·rw[Abg (by rw[Ax];simpa using c1),Abg c1];by_cases c2:(b.length:Int)<n
   ·rw[Abp (by rw[Af,Ac];simpa using c2),Abp c2]
   ·have e3:Ff b (3:Int) (10:Int)=some (part b 3 7):=Xl 3 7;rw[Abg (by rw[Af,Ac];simpa using c2),Abg c2,g5,Aa];by_cases c3:b.getD 5 0=16
    ·rw[Abp (by rw[sD];simpa using c3),Du,fF,Aa,e3,Aa,Az (by rw[Jp];simp),Aa];by_cases c4:(b.take n.toNat).drop (n-10).toNat=[51,68,73]++part b 3 7
     ·rw[Abg (by simpa using c4),Abg (by intro h;exact h.2 c4)]
     ·rw[Abp (by simpa using c4),Abp ⟨c3,c4⟩]
    ·rw[Abg (by rw[sD];simpa using c3),Abg (λh=>c3 h.1)]
 rw[Uu,FW,g5,Aa,rz];by_cases c3:b.getD 5 0=16
 ·rw[Abp (by rw[sD];simpa using c3),Aj (by rw[Aj]<;>omega) (by rw[Aj]<;>omega),Aj,key _ F0 F0,Abp c3,show 10+r+10=r+10+10 by omega]
 ·rw[Abg (by rw[sD];simpa using c3),Aj,key _ F0 F0,Abg c3,show 10+r=r+10+0 by omega]
theorem Aer(b:LB)(hb:b.length<4611686018427387904):AU b=some (rU b):=by
 rw[AU,GA,rU];by_cases h3:3<=b.length
 ·rw[Abg F3,JL,Aa];by_cases hp:b.take 3=[73,68,51]
  ·rw[Abg (by simpa using hp),Abg (by simp[h3,hp]),HM,GK];by_cases h10:b.length<10
   ·rw[Abp F3,Abp h10]
   ·have e6:Ff b (6:Int) (10:Int)=some (part b 6 4):=Xl 6 4;have g3:Ah b (3:Int)=some (b.getD 3 0):=yA (i:=3) F0;have g4:Ah b (4:Int)=some (b.getD 4 0):=yA (i:=4) F0;have g5:Ah b (5:Int)=some (b.getD 5 0):=yA (i:=5) F0;obtain⟨v1,v2⟩:=Acr (b:=part b 6 4) (Jp);rw[Abg F3,Abg h10,e6,Aa,Aba _ (Jp),Aa];have ht:=Agu b (fL (part b 6 4) 0).1 F0 v1 v2;generalize fL (part b 6 4) 0=v at*
    obtain⟨v,e⟩:=v;simp only at ht v1 v2⊢;simp only[Aa,g3,g4,g5,ht];generalize b.getD 3 0=x at*
    generalize b.getD 4 0=y at*
    generalize b.getD 5 0=z at*
    simp only[Aej,Akf,Ak8,Cq];by_cases he:e=0<;>by_cases hy:y=0<;>by_cases hz:z=0<;>by_cases hz2:z=16<;>by_cases hx:x=4<;>by_cases hx2:x.toNat<2<;>by_cases hx4:4<x.toNat<;>simp_all<;>(rw[Abg F0,Abg F0])
  ·rw[Abp (by simpa using hp),Abp (by simp[hp])]
 ·rw[Abp F3,Abp (by simp[h3])]
theorem Afj{n:Int}(h:rU b=(n,0)):10<=n/\n<=b.length/\n<=4000:=by
 unfold rU at h;split at h; · simp at h
 split at h; · simp at h
 split at h; · simp at h
 rename_i h10 _;obtain⟨v1,v2⟩:=Acr (b:=part b 6 4) (Jp);unfold rz at h;generalize hm:(fL (part b 6 4) 0).1+10+(if b.getD 5 0=16 then 10 else 0)=m at h;unfold ou at h;split at h; · simp at h
 split at h; · simp at h
 split at h; · simp at h
 simp only[Apw,and_true]at h;subst h;refine⟨?_,F0,F0⟩;rw[<-hm];split<;>omega
theorem Aro{p:Prop}(h:p:=by rw[Jp];omega):p:=h
theorem Ase{p:Prop}(h:p:=by simp[Cr]):p:=h
end Go.Pl
namespace Go.Pl
open Go Go.Lv
variable{n a w k r g c f:Nat}
def APE:LB:=[65,80,69,84,65,71,69,88]
def mH(n m fl:Nat):LB:=APE++Zw 2000 4++Zw (n+32) 4++Zw m 4++Zw fl 4++List.replicate 8 0
theorem pN(h:n<18446744073709551616):(UInt64.ofNat n).toNat=n:=by rw[Aj4,Ado h]
theorem xw(n m:Nat)(fl:UInt64)(hn:n<=3000)(hm:m<=1000)(hf:fl.toNat<4294967296):Qm (n:Int) (m:Int) fl=some (mH n m fl.toNat):=by
 have e1:(Ad (Ae (n:Int) (32:Int)):UInt64).toNat=n+32:=by rw[Aj,show(n:Int)+32=((n+32:Nat):Int) by omega,FA,pN F0]
 have e2:(Ad (m:Int):UInt64).toNat=m:=by rw[FA,pN F0]
 have w:∀c:UInt64,Al c 4=some (Zw c.toNat 4):=λc=>UE c 4 F0;have z2:Zw (2000:UInt64).toNat 4=Zw 2000 4:=rfl;rw[Qm];simp only[w,e1,e2,Aa];rw[Az Ase,Aa,Az Ase,Aa,Az Ase,Aa,Az Ase,Aa,xF,Aa,Az Ase,Aa,z2];rfl
theorem bN{b:LB}(h:a+w<=k):part (b.take k) a w=part b a w:=by rw[part,part,List.take_take,Ao9 h]
def aC(b:LB):Bool:=decide (Oj (part b 12 4)<32\/3032<Oj (part b 12 4)\/1000<Oj (part b 16 4))
theorem Ak6(b:LB)(h:20<=b.length):(((Cj (H8 (part b 12 4)) (32:UInt64))||(Em (H8 (part b 12 4)) (3032:UInt64)))||(Em (H8 (part b 16 4)) (1000:UInt64)))=aC b:=by
 rw[pH,pB,pB,pO Aro,pO Aro,aC];show((decide (Oj (part b 12 4)<32)||decide (3032<Oj (part b 12 4)))||decide (1000<Oj (part b 16 4)))=_;simp[Bool.or_assoc]
theorem Adj(b:LB)(h:20<=b.length)(hb:aC b=false):Ag (Ad (H8 (part b 12 4)):Int) (32:Int)=((Oj (part b 12 4)-32:Nat):Int)/\ (Ad (H8 (part b 16 4)):Int)=((Oj (part b 16 4):Nat):Int)/\Oj (part b 12 4)-32<=3000/\Oj (part b 16 4)<=1000:=by
 simp only[aC,Anq]at hb;refine⟨?_,UP Aro,F0,F0⟩;rw[UP Aro,Du];omega
theorem Ab1(b:LB)(h:20<=b.length)(hl:b.length<4611686018427387904):
  AH b=some (if aC b=true then(0,0,false)else(((Oj (part b 12 4)-32:Nat):Int),((Oj (part b 16 4):Nat):Int),true)):=by
 have a1:Ff b 12 16=some (part b 12 4):=Xl 12 4;have a2:Ff b 16 20=some (part b 16 4):=Xl 16 4;rw[AH,a1,Aa,Aen _ Aro,Aa,a2,Aa,Aen _ Aro,Aa,Ak6 b h];cases hb:aC b with
 |true=>rfl
 |false=>
  obtain⟨i1,i2,i3,i4⟩:=Adj b h hb;rw[i1,i2];rfl
def Ud(b:LB):Int×Int:=
 if ¬(8<=b.length/\b.take 8=APE)then(0,6)else if b.length<32 then(0,24)else
 if aC b=true\/b.take 32≠mH (Oj (part b 12 4)-32) (Oj (part b 16 4)) 2684354560 then(0,12)else
 if b.length<Oj (part b 12 4)+32 then(0,24)else
 if(b.take (Oj (part b 12 4)+32)).drop (Oj (part b 12 4))≠mH (Oj (part b 12 4)-32) (Oj (part b 16 4)) 2147483648 then(0,12)else(((Oj (part b 12 4)+32:Nat):Int),0)
theorem Ada(b:LB):aC (b.take 32)=aC b:=by rw[aC,aC,bN F0,bN F0]
section
variable {b:LB}
theorem fa1(h:¬(8<=b.length/\b.take 8=APE)):Ud b=(0,6):=by rw[Ud,Abp h]
theorem fa2(h:8<=b.length/\b.take 8=APE)(h2:b.length<32):Ud b=(0,24):=by rw[Ud,Abg (λh'=>h' h),Abp h2]
variable (h:8<=b.length/\b.take 8=APE) (h2:¬b.length<32)
include h h2
theorem fa3(h3:aC b=true):Ud b=(0,12):=by rw[Ud,Abg (λh'=>h' h),Abg h2,Abp (.inl h3)]
theorem fa4(h4:b.take 32≠mH (Oj (part b 12 4)-32) (Oj (part b 16 4)) 2684354560):Ud b=(0,12):=by rw[Ud,Abg (λh'=>h' h),Abg h2,Abp (.inr h4)]
variable (h3:aC b=false) (h4:b.take 32=mH (Oj (part b 12 4)-32) (Oj (part b 16 4)) 2684354560)
include h3 h4
theorem fa5(h5:b.length<Oj (part b 12 4)+32):Ud b=(0,24):=by
 rw[Ud,Abg (λh'=>h' h),Abg h2,Abg (λh'=>h'.elim (λe=>by rw[h3]at e;cases e) λe=>e h4),Abp h5]
theorem fa6(h5:¬b.length<Oj (part b 12 4)+32)(h6:(b.take (Oj (part b 12 4)+32)).drop (Oj (part b 12 4))≠mH (Oj (part b 12 4)-32) (Oj (part b 16 4)) 2147483648):Ud b=(0,12):=by
 rw[Ud,Abg (λh'=>h' h),Abg h2,Abg (λh'=>h'.elim (λe=>by rw[h3]at e;cases e) λe=>e h4),Abg h5,Abp h6]
theorem fa7(h5:¬b.length<Oj (part b 12 4)+32)(h6:(b.take (Oj (part b 12 4)+32)).drop (Oj (part b 12 4))=mH (Oj (part b 12 4)-32) (Oj (part b 16 4)) 2147483648):Ud b=(((Oj (part b 12 4)+32:Nat):Int),0):=by
 rw[Ud,Abg (λh'=>h' h),Abg h2,Abg (λh'=>h'.elim (λe=>by rw[h3]at e;cases e) λe=>e h4),Abg h5,Abg (λh'=>h' h6)]
end
theorem Aac(b:LB)(hl:b.length<4611686018427387904):Yi b=some (Ud b):=by
 rw[Yi,DI];by_cases h8:8<=b.length
 ·rw[Abg F3,JL,Aa,show(8:Int).toNat=8 from rfl];by_cases ha:b.take 8=APE
  ·have hp:=And.intro h8 ha;rw[Abg (by simpa [APE]using ha),DT,DN];by_cases h32:b.length<32
   ·rw[Abp F3,fa2 hp h32]
   ·have t:=Ab1 (b.take 32) F6 F6;rw[Ada,bN F0,bN F0]at t;rw[Abg F3,JL,Aa,show(32:Int).toNat=32 from rfl,t,Aa];cases hb:aC b with
    |true=>rw[fa3 hp h32 hb];simp
    |false=>
     obtain⟨i1,i2,i3,i4⟩:=Adj b F0 hb;have i5:32<=Oj (part b 12 4):=by simp only[aC,Anq]at hb;omega
     simp only[Anm,Apy,false_or,Aa,Aqr];rw[NI,xw _ _ _ i3 i4 F4,Aa,Aa];by_cases c1:b.take 32=mH (Oj (part b 12 4)-32) (Oj (part b 16 4)) 2684354560
     ·have c1':b.take 32=mH (Oj (part b 12 4)-32) (Oj (part b 16 4)) (2684354560:UInt64).toNat:=c1;rw[Abg (by simpa using c1'),EC,DU,Aj];have e1:64+((Oj (part b 12 4)-32:Nat):Int)=((Oj (part b 12 4)+32:Nat):Int):=F0
      rw[e1];by_cases c2:b.length<Oj (part b 12 4)+32
      ·rw[Abp F3,fa5 hp h32 hb c1 c2]
      ·rw[Abg F3,Du,fF,Aa,OC,Abp rfl,xw _ _ _ i3 i4 F4,Aa,Aa];rw[show(((Oj (part b 12 4)+32:Nat):Int)).toNat=Oj (part b 12 4)+32 by omega,show(((Oj (part b 12 4)+32:Nat):Int)-32).toNat=Oj (part b 12 4) by omega];by_cases c3:(b.take (Oj (part b 12 4)+32)).drop (Oj (part b 12 4))=mH (Oj (part b 12 4)-32) (Oj (part b 16 4)) 2147483648
       ·have c3':(b.take (Oj (part b 12 4)+32)).drop (Oj (part b 12 4))=mH (Oj (part b 12 4)-32) (Oj (part b 16 4)) (2147483648:UInt64).toNat:=c3;rw[Abg (by simpa using c3'),fa7 hp h32 hb c1 c2 c3]
       ·have c3':¬(b.take (Oj (part b 12 4)+32)).drop (Oj (part b 12 4))=mH (Oj (part b 12 4)-32) (Oj (part b 16 4)) (2147483648:UInt64).toNat:=c3;rw[Abp (by simpa using c3'),fa6 hp h32 hb c1 c2 c3]
     ·have c1':¬b.take 32=mH (Oj (part b 12 4)-32) (Oj (part b 16 4)) (2684354560:UInt64).toNat:=c1;rw[Abp (by simpa using c1'),fa4 hp h32 c1]
  ·rw[Abp (by simpa [APE]using ha),fa1 (λh=>ha h.2)]
 ·rw[Abp F3,fa1 (λh=>h8 h.1)]
theorem Abf{b:LB}{n:Int}(h:Ud b=(n,0)):64<=n/\n<=b.length:=by
 unfold Ud at h;split at h; · simp at h
 split at h; · simp at h
 split at h; · simp at h
 rename_i hb;split at h; · simp at h
 split at h; · simp at h
 simp only[Apw,and_true]at h;have hb':¬aC b=true:=λe=>hb (.inl e);simp only[aC,Adz]at hb';omega
def Mk(b:LB):Int×Int:=if(rU b).2≠6 then rU b else Ud b
theorem P8{b:LB}{n:Int}(h:Mk b=(n,0)):10<=n/\n<=b.length:=by
 unfold Mk at h;split at h
 ·have:=Afj h;omega
 ·have:=Abf h;omega
def Gy(b:LB):Nat->Nat->LI×Int
 |0,_=>([],6)
 |j+1,p=>if(Mk (b.drop p)).2=6 then([],0)else if(Mk (b.drop p)).2≠0 then([],(Mk (b.drop p)).2)else
  if 4000<(p:Int)+(Mk (b.drop p)).1 then([],4)else
  if(Gy b j (p+(Mk (b.drop p)).1.toNat)).2=0 then((Mk (b.drop p)).1::(Gy b j (p+(Mk (b.drop p)).1.toNat)).1,0)else([],(Gy b j (p+(Mk (b.drop p)).1.toNat)).2)
theorem mD(b:LB):∀(j p:Nat),p<=b.length->p<=4000-> (Gy b j p).2=0-> (∀x∈(Gy b j p).1,10<=x)/\ (p:Int)+(Gy b j p).1.sum<=b.length/\ (p:Int)+(Gy b j p).1.sum<=4000
 |0,p,_,_,h=>by simp[Gy]at h
 |j+1,p,hp,hq,h=>by
  rw[Gy]at h⊢;split at h
  ·rename_i h6;rw[Abp h6];simp;omega
  ·rename_i h6;split at h
   ·rename_i h0;exact absurd h h0
   ·rename_i h0;rw[Abg h6,Abg h0];have hz:Mk (b.drop p)=((Mk (b.drop p)).1,0):=by rw[Prod.ext_iff];exact⟨rfl,Classical.not_not.1 h0⟩
    have hs:=P8 hz;rw[Amr]at hs;split at h
    ·simp at h
    ·rename_i h4;rw[Abg h4];split at h
     ·rename_i h00;rw[Abp h00];obtain⟨i1,i2,i3⟩:=mD b j _ F0 F0 h00;refine⟨λx hx=>?_,?_,?_⟩
      ·rcases List.mem_cons.1 hx with rfl|hx
       ·exact hs.1
       ·exact i1 x hx
      ·simp only[Aog];omega
      ·simp only[Aog];omega
     ·rename_i h00;exact absurd h h00
def Aj8(b:LB)(j p:Nat):Int×Int:=if(Gy b j p).2=0 then((p:Int)+(Gy b j p).1.sum,0)else(0,(Gy b j p).2)
def Ack(b:LB)(j p:Nat)(xs:LI):LI×Int:=if(Gy b j p).2=0 then(xs++(Gy b j p).1,0)else([],(Gy b j p).2)
theorem Acs(bk:Int->LI->Option (LI×Int))(b:LB)(p:Nat)(hp:p<=b.length)(xs:LI)(hx:xs.length<=4000)(hl:b.length<4611686018427387904):Ub (Mz bk b) b (p:Int) xs=Mz bk b (p:Int) xs (Mk (b.drop p)).1 (Mk (b.drop p)).2:=by
 have hf:=Aac (b.drop p) F6;rw[Ub,cG,Aa,Ajg,Aer _ F6,Aa];by_cases h:(rU (b.drop p)).2=6
 ·simp[Mk,h,Bj,hf]
 ·simp[Mk,h,Bj]
theorem wU(b:LB)(hl:b.length<4611686018427387904):∀(j p q:Nat) (xs:LI),p<=b.length->p<=4000->b.length-p<j->j<=q->xs.length<=p->Ms b q (p:Int) xs=some (Ack b j p xs)
 |0,p,q,_,_,_,h,_,_=>by omega
 |j+1,p,q,xs,hp,hp4,hj,hq,hx=>by
  obtain⟨q,rfl⟩:∃k,q=k+1:=⟨q-1,F0⟩;rw[Ms,Acs _ b p hp xs F0 hl,Mz,DS,Bj,Cq,Ack];by_cases h6:(Mk (b.drop p)).2=6
  ·rw[Abp (by simpa using h6)];have:Gy b (j+1) p=([],0):=by rw[Gy,Abp h6]
   rw[this];simp
  ·rw[Abg (by simpa using h6)];by_cases h0:(Mk (b.drop p)).2=0
   ·have hz:Mk (b.drop p)=((Mk (b.drop p)).1,0):=by rw[Prod.ext_iff];exact⟨rfl,h0⟩
    have hs:=P8 hz;rw[Amr]at hs;rw[Abg (by simpa using h0),Aj,Ax];by_cases h4:4000<(p:Int)+(Mk (b.drop p)).1
    ·rw[Abp F6];have:Gy b (j+1) p=([],4):=by rw[Gy,Abg h6,Abg (λh=>h h0),Abp h4]
     rw[this];simp
    ·rw[Abg F6,Az F6,Aa];have ih:=wU b hl j (p+(Mk (b.drop p)).1.toNat) q (xs++[(Mk (b.drop p)).1]) F0 F0 F0 F0 F6;rw[show(p:Int)+(Mk (b.drop p)).1=((p+(Mk (b.drop p)).1.toNat:Nat):Int) by omega,ih,Ack];have:Gy b (j+1) p=if(Gy b j (p+(Mk (b.drop p)).1.toNat)).2=0 then((Mk (b.drop p)).1::(Gy b j (p+(Mk (b.drop p)).1.toNat)).1,0)else([],(Gy b j (p+(Mk (b.drop p)).1.toNat)).2):=by
      rw[Gy,Abg h6,Abg (λh=>h h0),Abg h4]
     rw[this];by_cases hr:(Gy b j (p+(Mk (b.drop p)).1.toNat)).2=0
     ·simp only[hr,Arb];simp
     ·simp only[hr,Apy]
   ·rw[Abp (by simpa using h0)];have:Gy b (j+1) p=([],(Mk (b.drop p)).2):=by rw[Gy,Abg h6,Abp h0]
    rw[this];simp[h0]
theorem pC:∀{l:LI},(∀x∈l,10<=x)->0<=l.sum/\ (l.length:Int)<=l.sum
 |[],_=>by simp
 |x::l,h=>by
  have h1:=h x Am5;have h2:=pC (l:=l) λy hy=>h y (Ajv _ hy);simp only[Aog,Ajc];omega
theorem qF(r:Int)(l:LI)(hl:l.length<=4000)(hx:∀x∈l,10<=x):∀(j i q:Nat) (n:Int),i+j=l.length->j<q->0<=n->n+(l.drop i).sum<=4000->Iq r l q n (i:Int)=some (n+(l.drop i).sum,r)
 |0,i,q+1,n,hi,_,_,_=>by
  rw[Iq,Tk,Abg F3,show i=l.length by omega,Apa];simp[EB,DH]
 |j+1,i,q+1,n,hi,hq,hn,hs=>by
  have hlt:i<l.length:=F0
  rw[drop_cons hlt,Aog]at hs⊢;have h1:=hx l[i] (Ap2 hlt);have h2:=pC (l:=l.drop (i+1)) λy hy=>hx y (Apq hy);rw[Iq,Tk,Abp F3,Cu hlt,Aa,Aa,Aj,Aj];have ih:=qF r l hl hx j (i+1) q (n+l[i]) F0 F0 F0 F0;rw[show((i:Int)+1)=((i+1:Nat):Int) by omega,ih];congr 2;omega
def Ut(b:LB):Int×Int:=Aj8 b (b.length+1) 0
theorem zL(b:LB)(hl:b.length<4611686018427387904):Yq b=some (Ut b):=by
 have h:=wU b hl (b.length+1) 0 Aq [] F0 F0 F0 F7 Ard;have h':KG b=some (Ack b (b.length+1) 0 []):=h;rw[Yq,DR,h',Aa,Ut,Aj8,Ack];have ho:=mD b (b.length+1) 0 F0 F0;by_cases h0:(Gy b (b.length+1) 0).2=0
 ·obtain⟨i1,i2,i3⟩:=ho h0;have hp:=pC i1;simp only[h0,Arb,Aoz];have:=qF 0 (Gy b (b.length+1) 0).1 F0 i1 (Gy b (b.length+1) 0).1.length 0 Aq 0 F0 F7 F0 (by simpa using i3);simpa [Tm]using this
 ·simp only[h0,Apy];have:=qF (Gy b (b.length+1) 0).2 [] Ard Ard 0 0 Aq 0 Ard F7 F0 Ard;simpa [Tm]using this
theorem zk{b:LB}(h:(Ut b).2=0):0<= (Ut b).1/\ (Ut b).1<=b.length/\ (Ut b).1<=4000:=by
 unfold Ut Aj8 at h⊢;split at h
 ·rename_i h0;rw[Abp h0];obtain⟨i1,i2,i3⟩:=mD b (b.length+1) 0 F0 F0 h0;have hp:=pC i1;exact⟨by simp;omega,i2,i3⟩
 ·rename_i h0;exact absurd h h0
def Ak(r:Nat):Nat:=max 1 (256*r/245)
theorem Kl(r:Nat):1<=Ak r:=Nat.le_max_left _ _
theorem BM(h:r<=1048576):Ak r<=1100000:=by unfold Ak;omega
theorem tI(h:r<=1048576):iQ (1:Int) (Ba (Bf (256:Int) (r:Int)) (245:Int))=(Ak r:Int):=by
 rw[Ia,TO,Apf F0,Dh F0 F0,C9,Ak];omega
def Ib(g n:Nat):LI:=List.replicate ((n-1)/g) (g:Int)++[((n-(n-1)/g*g:Nat):Int)]
theorem nA(g n:Nat):(Ib g n).length=(n-1)/g+1:=by simp[Ib]
theorem vN(h:n<=g)(h1:1<=n):Ib g n=[(n:Int)]:=by
 rw[Ib,Ao0 F0];simp
theorem T6(hg:1<=g)(h:g<n):Ib g n=(g:Int)::Ib g (n-g):=by
 have e:(n-1)/g=(n-g-1)/g+1:=by rw[<-Nat.add_div_right _ F0];congr 1;omega
 rw[Ib,Ib,e,Aop,Aqd];congr 4;have:=Nat.div_mul_le_self (n-g-1) g;rw[Aft,Anf];omega
theorem hJ(hg:1<=g)(h1:1<=n):(n+g-1)/g=(n-1)/g+1:=by
 rw[<-Nat.add_div_right _ F0];congr 1;omega
theorem bM(h1:1<=r)(h:r<=1048576):Nn (r:Int)=some ((Ak r:Int),0):=by
 rw[Nn,Abg Are,tI h]
theorem Adr(h:r<=1048576):Uh (r:Int)=some (Ak r:Int):=by rw[Uh,tI h]
theorem X6(h1:1<=r)(h:r<=1048576)(n1:1<=n)(n2:n<=4000):FK (r:Int) (n:Int)=some (if 1000<(n-1)/Ak r+1 then(0,4)else((((n-1)/Ak r+1:Nat):Int),0)):=by
 have hp:=Kl r;have hl:=BM h;have e:Ba (Ag (Ae (n:Int) (Ak r:Int)) (1:Int)) (Ak r:Int)=(((n-1)/Ak r+1:Nat):Int):=by
  have:(n+Ak r-1)/Ak r<=n+Ak r-1:=Am3 _ _;rw[Aj,Du,TO,Apf F0,show(n:Int)+(Ak r:Int)-1=((n+Ak r-1:Nat):Int) by omega,<-Int.natCast_ediv,hJ hp n1];rw[hJ hp n1]at this;generalize(n-1)/Ak r=k at*
  exact Dh F0 F0
 rw[FK,bM h1 h,Aa];simp only;rw[Abg Arn,Abg Are,Cf Ari,Aa,e];by_cases hk:1000<(n-1)/Ak r+1
 ·rw[Abp Arh,Abp hk]
 ·rw[Abg Arh,Abg hk]
theorem tL{r:Nat}(h:r<=1048576):∀(j n q:Nat) (acc:LI),n<=4000->n<=j->j<q->acc.length+n<=10000->Ej (r:Int) q (n:Int) acc=some (acc++(if n=0 then []else Ib (Ak r) n))
 |0,n,q+1,acc,hn,hj,hq,ha=>by
  obtain rfl:n=0:=F0
  rw[Ej,Is,Abg Ary];simp[Na,Mv]
 |j+1,n,q+1,acc,hn,hj,hq,ha=>by
  have hp:=Kl r;have hl:=BM h;by_cases h0:n=0
  ·subst h0;rw[Ej,Is,Abg Ary];simp[Na,Mv]
  ·rw[Ej,Is,Abp Arh,Adr h,Aa,Az F6,Aa,Aa,Du,eY];by_cases hs:n<=Ak r
   ·rw[show min (n:Int) (Ak r:Int)=(n:Int) by omega,Abg h0,vN hs F0];have hz:∃k,q=k+1:=⟨q-1,F0⟩;obtain⟨q,rfl⟩:=hz;rw[Ej,Is,Abg Arh];simp[Na,Mv]
   ·rw[show min (n:Int) (Ak r:Int)=(Ak r:Int) by omega,show(n:Int)-(Ak r:Int)=((n-Ak r:Nat):Int) by omega,tL h j (n-Ak r) q _ F0 F0 F0 F6,Abg F0,Abg h0,T6 hp (show Ak r<n by omega)];simp
theorem Ad6(h:r<=1048576)(n1:1<=n)(n2:n<=4000):Mn (r:Int) (n:Int)=some (Ib (Ak r) n):=by
 have:=tL h n n Aq [] n2 (Ala _) F7 F6;rw[Mn,DQ,DD,this,Abg F0];rfl
theorem mul_one(m:Nat)(h:m<=100000):eN (1:UInt64) (UInt64.ofNat m)=some (0,UInt64.ofNat m):=by
 have y1:(UInt64.ofNat m).toNat=m:=pN F0;have s1:Bu (1:UInt64) (GI.toZ (32:UInt64)).toNat=0:=F4
 have s2:Bu (UInt64.ofNat m) (GI.toZ (32:UInt64)).toNat=0:=by
  apply UInt64.toNat_inj.1;rw[Xs,y1];exact Ao0 (Ao3 h F4)
 have s0:Bu (0:UInt64) (GI.toZ (32:UInt64)).toNat=0:=F4
 have a1:Eb (1:UInt64) (4294967295:UInt64)=1:=F4
 have a0:Eb (0:UInt64) (4294967295:UInt64)=0:=F4
 have a2:Eb (UInt64.ofNat m) (4294967295:UInt64)=UInt64.ofNat m:=by
  apply UInt64.toNat_inj.1;rw[tB,UInt64.toNat_and,y1]
  show m&&& (2^32-1)=m;rw[Apx,Ado F0]
 have m1:∀x:UInt64,Bf 1 x=x:=λx=>by rw[RH,UInt64.one_mul]
 have m0:∀x:UInt64,Bf 0 x=0:=λx=>by rw[RH,UInt64.zero_mul]
 have p0:∀x:UInt64,Ae 0 x=x:=λx=>by rw[aH,UInt64.zero_add]
 have p1:∀x:UInt64,Ae x 0=x:=λx=>by rw[aH,UInt64.add_zero]
 rw[eN,VW];simp only[s1,s2,a1,a2,m1,m0,p0,p1,s0,a0,Aa]
def Tl(f c w r n:Nat):Bool:=decide ((f=1\/f=2)/\ (1<=c/\c<=6)/\ (w=8\/w=16\/w=24)/\ (1<=r/\r<=1048576)/\1<=n)
def kW(c r n:Nat):Bool:=decide (n<=4000/c/\ (n-1)/Ak r+1<=1000)
theorem J2(f c w r n:Nat):FB (f:Int) (c:Int) (w:Int) (r:Int) (n:Int)=some (Tl f c w r n):=by
 have e2:EO (f:Int) (c:Int) (w:Int) (r:Int) (n:Int)=some (decide ((f=1\/f=2)/\ (1<=c/\c<=6)/\ (1<=r/\r<=1048576)/\1<=n)):=by
  rw[EO,QP];congr 1;rw[Alr];simp only[Bj,Ax,Re,Abs,Anl,Ape,Adz];omega
 have g:∀k:Nat,geq (w:Int) (k:Int)=decide (w=k):=λk=>by rw[Bj,Alr];simp;omega
 have g8:geq (w:Int) (8:Int)=decide (w=8):=g 8;have g16:geq (w:Int) (16:Int)=decide (w=16):=g 16;have g24:geq (w:Int) (24:Int)=decide (w=24):=g 24;rw[FB,QF,e2,g8,g16,g24,Tl];by_cases h8:w=8
 ·subst h8;simp
 ·by_cases h16:w=16
  ·subst h16;simp
  ·by_cases h24:w=24
   ·subst h24;simp
   ·simp[h8,h16,h24]
theorem jf(f c w r n:Nat):Wu (f:Int) (c:Int) (w:Int) (r:Int) (n:Int)=some (Tl f c w r n):=by
 rw[Wu,Tl];simp only[Bj,Hs,Re,Abs,Anl,Ape,Adz,Aqv];split
 ·rename_i h;congr 1;rw[Alr];simp only[Abs,Anl,Ape,Adz];omega
 ·rename_i h;congr 1;symm;rw[Anq];omega
theorem Aiz(h:1<=c):Ba (4000:Int) (c:Int)=((4000/c:Nat):Int):=by
 have:4000/c<=4000:=Am3 _ _;rw[TO,Apf F0,show(4000:Int)=((4000:Nat):Int)from rfl,<-Int.natCast_ediv];generalize 4000/c=k at*
 exact Dh F0 F0
theorem Aae(h:Tl f c w r n=true):NX (f:Int) (c:Int) (w:Int) (r:Int) (n:Int)=some (kW c r n):=by
 simp only[Tl,Adz]at h;have hd:4000/c<=4000:=Am3 _ _;rw[NX,Cf Ari,Aa,Aiz F0,kW];generalize 4000/c=m at*
 by_cases h1:n<=m
 ·rw[Abg Arh,X6 F0 F0 F0 F0,Aa];generalize(n-1)/Ak r+1=k;by_cases h2:1000<k
  ·rw[Abp h2];simp[Bj,Re];omega
  ·rw[Abg h2];simp[Bj,Re,h1];omega
 ·rw[Abp Arh];simp[h1]
theorem Aff(h:Tl f c w r n=true):CO (f:Int) (c:Int) (w:Int) (r:Int) (n:Int)=some (!kW c r n):=by
 simp only[Tl,Adz]at h;have hd:4000/c<=4000:=Am3 _ _;rw[CO,Cf Ari,Aa,Aiz F0,kW];generalize 4000/c=m at*
 by_cases h1:n<=m
 ·rw[Abg Arh,Ad6 F0 F0 F0,Aa,Ac,nA];generalize(n-1)/Ak r+1=k;congr 1;rw[Ax,Alr];simp only[Adz,Alq,Anq];omega
 ·rw[Abp Arh];simp[h1]
def BR:LB:=[84,84,65,49]
def f0(b:LB):Nat:=Oj (part b 4 2)
def f1(b:LB):Nat:=Oj (part b 6 2)
def f2(b:LB):Nat:=Oj (part b 8 2)
def f3(b:LB):Nat:=Oj (part b 10 4)
def f4(b:LB):Nat:=Oj (part b 14 4)
abbrev H6:=Int×Int×Int×Int×Int×Int
def Xq(b:LB):H6:=
 if b.take (min 4 b.length)≠BR.take (min 4 b.length)then(0,0,0,0,0,12)else if b.length<22 then(0,0,0,0,0,24)else
 if(Le (b.take 18)).toNat≠Oj (part b 18 4)then(0,0,0,0,0,22)else
 if Tl (f0 b) (f1 b) (f2 b) (f3 b) (f4 b)=false then(0,0,0,0,0,12)else
 if kW (f1 b) (f3 b) (f4 b)=false then(0,0,0,0,0,4)else((f0 b:Int),(f1 b:Int),(f2 b:Int),(f3 b:Int),(f4 b:Int),0)
section
variable {b:LB}
theorem rs1(h:b.take (min 4 b.length)≠BR.take (min 4 b.length)):Xq b=(0,0,0,0,0,12):=by rw[Xq,Abp h]
variable (h:b.take (min 4 b.length)=BR.take (min 4 b.length))
include h
theorem rs2(h2:b.length<22):Xq b=(0,0,0,0,0,24):=by rw[Xq,Abg (λe=>e h),Abp h2]
variable (h2:¬b.length<22)
include h2
theorem rs3(h3:(Le (b.take 18)).toNat≠Oj (part b 18 4)):Xq b=(0,0,0,0,0,22):=by rw[Xq,Abg (λe=>e h),Abg h2,Abp h3]
variable (h3:(Le (b.take 18)).toNat=Oj (part b 18 4))
include h3
theorem rs4(h4:Tl (f0 b) (f1 b) (f2 b) (f3 b) (f4 b)=false):Xq b=(0,0,0,0,0,12):=by rw[Xq,Abg (λe=>e h),Abg h2,Abg (λe=>e h3),Abp h4]
variable (h4:Tl (f0 b) (f1 b) (f2 b) (f3 b) (f4 b)=true)
include h4
theorem rs5(h5:kW (f1 b) (f3 b) (f4 b)=false):Xq b=(0,0,0,0,0,4):=by rw[Xq,Abg (λe=>e h),Abg h2,Abg (λe=>e h3),Abg (by rw[h4];simp),Abp h5]
theorem rs6(h5:kW (f1 b) (f3 b) (f4 b)=true):Xq b=((f0 b:Int),(f1 b:Int),(f2 b:Int),(f3 b:Int),(f4 b:Int),0):=by rw[Xq,Abg (λe=>e h),Abg h2,Abg (λe=>e h3),Abg (by rw[h4];simp),Abg (by rw[h5];simp)]
end
theorem Ajp(b:LB)(h2:¬b.length<22):Br (Ad (Le (b.take 18)):UInt64) (H8 (part b 18 4))=decide ((Le (b.take 18)).toNat≠Oj (part b 18 4)):=by
 rw[iN,Db,Alr];simp only[Aq8,ne_eq,Adz];rw[<-Aq7,pN (by have:=(Le (b.take 18)).toNat_lt;omega),pO Aro]
theorem An9(b:LB):Jf (4:Int) (Ac b)=((min 4 b.length:Nat):Int):=by rw[eY,Ac];omega
theorem Acp(b:LB)(hb:b.length<4611686018427387904):BY b=some (Xq b):=by
 rw[BY,GD,An9,JL,Aa,Ajg,JL F0 F6,Aa,Ajg];by_cases h:b.take (min 4 b.length)=BR.take (min 4 b.length)
 ·rw[Abg (by rw[h];simp[BR]),HC,GJ];by_cases h2:b.length<22
  ·rw[Abp F3,rs2 h h2]
  ·have a1:Ff b 18 22=some (part b 18 4):=Xl 18 4;have c1:Ff b 4 6=some (part b 4 2):=Xl 4 2;have c2:Ff b 6 8=some (part b 6 2):=Xl 6 2;have c3:Ff b 8 10=some (part b 8 2):=Xl 8 2;have c4:Ff b 10 14=some (part b 10 4):=Xl 10 4;have c5:Ff b 14 18=some (part b 14 4):=Xl 14 4;have hs:Br (H8 (part b 18 4)) (Ad (Le (b.take 18)):UInt64)=decide ((Le (b.take 18)).toNat≠Oj (part b 18 4)):=by
    rw[<-Ajp b h2,iN,iN,Alr];simp only[Aq8,ne_eq];exact not_congr eq_comm
   have lp:∀a w,a+w<=b.length->Cz (part b a w)=some (H8 (part b a w)):=λa w h=>Aen _ (by rw[Jp h];omega);rw[Abg F3,a1,Aa,JL,Aa,show(18:Int).toNat=18 from rfl,lp _ _ F0,Aa,Ab9 _ F6,Aa,hs];by_cases h3:(Le (b.take 18)).toNat=Oj (part b 18 4)
   ·rw[Abg (by simpa using h3),HF,GR,c1,Aa,c2,Aa,c3,Aa,c4,Aa,c5,Aa,lp _ _ F0,Aa,lp _ _ F0,Aa,lp _ _ F0,Aa,lp _ _ F0,Aa,lp _ _ F0,Aa,
     HA,GQ,UP Aro,UP Aro,UP Aro,UP Aro,UP Aro]
    rw[show Oj (part b 4 2)=f0 b from rfl,show Oj (part b 6 2)=f1 b from rfl,show Oj (part b 8 2)=f2 b from rfl,show Oj (part b 10 4)=f3 b from rfl,show Oj (part b 14 4)=f4 b from rfl,jf,Aa];cases h4:Tl (f0 b) (f1 b) (f2 b) (f3 b) (f4 b)with
    |false=>rw[rs4 h h2 h3 h4];rfl
    |true=>
     rw[Aff h4,Abg Ard,Aa];cases h5:kW (f1 b) (f3 b) (f4 b)with
     |false=>rw[rs5 h h2 h3 h4 h5];rfl
     |true=>rw[rs6 h h2 h3 h4 h5];rfl
   ·rw[Abp (by simpa using h3),rs3 h h2 h3]
 ·rw[Abp (by simpa [BR]using h),rs1 h]
def okL:LI->Int->Bool
 |[],_=>true
 |x::l,left=>decide (5<=x/\x<=left)&&okL l (left-x)
theorem Aj7:∀l:LI,(∀x∈l,5<=x)->0<=l.sum
 |[],_=>by simp
 |x::l,h=>by
  have h1:=h x Am5;have h2:=Aj7 l λy hy=>h y (Ajv _ hy);rw[Aog];omega
theorem pF:∀(l:LI) (left:Int),0<=left-> (okL l left=true↔(∀x∈l,5<=x)/\l.sum<=left)
 |[],left,h=>by simp[okL];exact h
 |x::l,left,h=>by
  rw[okL,Abs,Adz,Aog];by_cases hx:5<=x/\x<=left
  ·rw[pF l (left-x) F0];constructor
   ·rintro⟨_,h1,h2⟩;exact⟨λy hy=>(List.mem_cons.1 hy).elim (λe=>e▸hx.1) (h1 y),F0⟩
   ·rintro⟨h1,h2⟩;exact⟨hx,λy hy=>h1 y (Ajv _ hy),F0⟩
  ·constructor
   ·rintro⟨h1,_⟩;exact absurd h1 hx
   ·rintro⟨h1,h2⟩;have h3:=h1 x Am5;have:0<=l.sum:=Aj7 l λy hy=>h1 y (Ajv _ hy);omega
theorem tT(l:LI)(hl:l.length<=1000):∀(j i q:Nat) (left:Int),i+j=l.length->j<q->0<=left->left<=100000->Qj l q left (i:Int)=some (if okL (l.drop i) left=true then 0 else 8)
 |0,i,q+1,left,hi,_,_,_=>by
  rw[Qj,CU,Abg F3,show i=l.length by omega,Apa];rfl
 |j+1,i,q+1,left,hi,hq,h0,h1=>by
  have hlt:i<l.length:=F0
  rw[Qj,CU,Abp F3,Cu hlt,Aa,drop_cons hlt];by_cases h:5<=l[i]/\l[i]<=left
  ·rw[Abg Are,Du,Aj];have ih:=tT l hl j (i+1) q (left-l[i]) F0 F0 F0 F0;rw[show((i:Int)+1)=((i+1:Nat):Int) by omega,ih];simp[okL,h]
  ·rw[Abp Are];have:okL (l[i]::l.drop (i+1)) left=false:=by rw[okL,Alp h];rfl
   rw[this];rfl
def tP(l:LI):Bool:=decide (1<=l.length/\l.length<=1000)&&okL l 100000
theorem H2(l:LI)(hl:l.length<=1000):Zs l=some (if tP l=true then 0 else 8):=by
 rw[Zs,CA,tP];by_cases h:1<=l.length
 ·rw[Abg (by rw[Bj,Ax,Ac];simp;constructor;(intro e;subst e;simp at h);omega),ZZ];have:=tT l hl l.length 0 Aq 100000 F0 F7 F0 F0;rw[Aq6]at this;rw[Apb (show 1<=l.length/\l.length<=1000 from⟨h,hl⟩),Aqn];exact this
 ·have:l=[]:=by
   cases l with
   |nil=>rfl
   |cons _ _=>simp at h
  subst this;rfl
theorem V8:∀{l:LI},(∀x∈l,5<=x)->∀x∈l,x<=l.sum
 |[],_,x,hx=>by simp at hx
 |y::l,h,x,hx=>by
  have h1:=h y Am5;have h2:=Aj7 l λz hz=>h z (Ajv _ hz);rw[Aog];rcases List.mem_cons.1 hx with rfl|hx
  ·omega
  ·have:=V8 (l:=l) (λz hz=>h z (Ajv _ hz)) x hx;omega
theorem pT(l:LI):Zs l=some (if tP l=true then 0 else 8):=by
 by_cases hl:l.length<=1000
 ·exact H2 l hl
 ·rw[Zs,CA,Abp Arf,tP,Alp F0];rfl
def N4(b:LB):LB:=b.drop (Ut b).1.toNat
theorem Qy{b:Nat}(h:a<9223372036854775808:=by omega):Ba (a:Int) (b:Int)=((a/b:Nat):Int):=by
 have:a/b<=a:=Am3 _ _;rw[TO,Apf F0,<-Int.natCast_ediv];generalize a/b=k at*
 exact Dh F0 F0
theorem zl{bits:Int}(h:Ch bits)(x:Int):(Agj bits x).length=wB bits:=by
 obtain rfl|rfl|rfl:=h<;>rfl
theorem mP{bits:Int}(h:Ch bits):∀l:LX,(gM bits l).length=l.length*wB bits
 |[]=>by simp[gM]
 |x::l=>by
  have h1:=mP h l;have h2:=zl h x.toInt;simp only[gM,List.flatMap_cons,Abr,Ajc,Ap6]at*
  omega
def Amv(b:LB)(A:Nat)(l:LI)(k:Nat):LB:=(b.take ((A:Int)+(l.take (k+1)).sum).toNat).drop ((A:Int)+(l.take k).sum).toNat
structure Gts (b p:LB) (f c w r n A:Nat) (l:LI) (k m:Nat) (x:LX) (s:LB) (e:Int):Prop where
 mom:Ah (Ib (Ak r) n) (k:Int)=some (m:Int)
 pos:1<=m/\m*c<=4000
 got:lA b p (f:Int) (c:Int) (w:Int) (r:Int) (n:Int) (A:Int) l (k:Int)=some (s,e)
 none':e≠0->s=[]/\x=[]
 some':e=0->s=gM (w:Int) x/\x.length=m*c/\Bc (w:Int) x=some 0/\R9 (w:Int) x=some (s,0)/\ (A:Int)+(l.take (k+1)).sum<=b.length
 way:((b.length:Int)<(A:Int)+(l.take (k+1)).sum/\e=24)\/ ((A:Int)+(l.take (k+1)).sum<=b.length/\pQ (c:Int) (w:Int) (Ru p) (m:Int) (Amv b A l k)=some (x,e)/\Wn (c:Int) (w:Int) (Ru p) (m:Int) (Amv b A l k)=some (x,e))
theorem Gts.lens{b p:LB}{A:Nat}{l:LI}{m:Nat}{x:LX}{s:LB}{e:Int}(hw:Ch (w:Int))(g:Gts b p f c w r n A l k m x s e):s.length<=12000/\x.length<=4000/\ (e=0->s.length=m*c*wB (w:Int)):=by
 by_cases he:e=0
 ·obtain⟨h1,h2,_⟩:=g.some' he;have h3:=uE (w:Int) x;have h4:=mP hw x;have h5:=g.pos;rw[<-h1]at h3 h4;refine⟨F0,F0,λ_=>by rw[h4,h2]⟩
 ·obtain⟨h1,h2⟩:=g.none' he;exact⟨by simp[h1],by simp[h2],λh=>absurd h he⟩
theorem Asf{p:Prop}(h:p:=by simp[hB];omega):p:=h
end Go.Pl
namespace Go.Pl
open Go Go.Lv
variable{bits:Int}{k v m:Nat}
def Nd(b:LB)(k:Nat):Nat:=(b.getD k 0).toNat
theorem SC(b:LB)(k:Nat):Nd b k<256:=(b.getD k 0).toNat_lt
def sx(n:Nat)(b:LB)(a:Nat):Int:=
 if n=1 then(Nd b a:Int)-128 else
 if n=2 then(if Nd b a+256*Nd b (a+1)<32768 then(Nd b a+256*Nd b (a+1):Nat)else((Nd b a+256*Nd b (a+1):Nat):Int)-65536)else
 (if Nd b a+256*Nd b (a+1)+65536*Nd b (a+2)<8388608 then(Nd b a+256*Nd b (a+1)+65536*Nd b (a+2):Nat)else((Nd b a+256*Nd b (a+1)+65536*Nd b (a+2):Nat):Int)-16777216)
def QZ(n m:Nat)(b:LB):LX:=(List.range m).map λx=>Int32.ofInt (sx n b (x*n))
theorem bU(n m:Nat)(b:LB):(QZ n m b).length=m:=by simp[QZ]
theorem N7(n m:Nat)(b:LB):QZ n (m+1) b=QZ n m b++[Int32.ofInt (sx n b (m*n))]:=by simp[QZ,List.range_succ]
theorem aP{n:Int}(h: -2147483648<=n)(h':n<2147483648):(Int32.ofInt n).toInt=n:=by
 rw[Apv,Int.bmod_def,show((Int32.size:Nat):Int)=4294967296 from rfl];split<;>omega
theorem VA{b:LB}(h:k<b.length):Ah b (k:Int)=some (b.getD k 0):=by
 rw[Cu h];simp[List.getD_eq_getElem?_getD,h]
theorem LY(c:UInt8):(Ad c:Int32)=Int32.ofInt (c.toNat:Int):=rfl
theorem lE(k:Nat)(hk:k<=32)(h:v<2147483648):De (Int32.ofInt (v:Int)) k=Int32.ofInt ((v*2^k:Nat):Int):=by
 have e:De (Int32.ofInt (v:Int)) k=Int32.ofInt ((Int32.ofInt (v:Int)).toInt*2^min k 32):=rfl;rw[e,aP F0 F0,Ao9 hk];simp
theorem Ah3{w i:Nat}(hv:v<2^i)(hw:w*2^i<2147483648)(hi:i<=31):B0 (Int32.ofInt (v:Int)) (Int32.ofInt ((w*2^i:Nat):Int))=Int32.ofInt ((v+w*2^i:Nat):Int):=by
 have hv2:v<2147483648:=Als hv (show 2^i<=2^31 from Ai2 F0 hi);have e:B0 (Int32.ofInt (v:Int)) (Int32.ofInt ((w*2^i:Nat):Int))=Int32.ofInt ((BitVec.ofInt 32 (Int32.ofInt (v:Int)).toInt|||BitVec.ofInt 32 (Int32.ofInt ((w*2^i:Nat):Int)).toInt).toNat:Int):=rfl;rw[e,aP F0 F0,aP F0 F0,BitVec.toNat_or,Ap0,Ap0];have a1:((v:Int) %((2^32:Nat):Int)).toNat=v:=F0
 have a2:(((w*2^i:Nat):Int) %((2^32:Nat):Int)).toNat=w*2^i:=F0
 rw[a1,a2,Nat.or_comm,Ana w,<-Apo hv,Aqg]
theorem xT(w:Nat)(h:w<2147483648):B0 (0:Int32) (Int32.ofInt (w:Int))=Int32.ofInt (w:Int):=by
 have:=Ah3 (v:=0) (w:=w) (i:=0) Ard (by simpa using h) F0;simpa using this
theorem carry(hk:k<=31)(h:v*2^k<4294967296)(hv:v<2147483648):Bu (De (Int32.ofInt (v:Int)) k) k=Int32.ofInt ((if v*2^k<2147483648 then((v*2^k:Nat):Int)else((v*2^k:Nat):Int)-4294967296).fdiv (2^k)):=by
 rw[lE k F0 hv];have e:∀x:Int32,Bu x k=Int32.ofInt (x.toInt.fdiv (2^min k 32)):=λ_=>rfl;have hX:(Int32.ofInt ((v*2^k:Nat):Int)).toInt=if v*2^k<2147483648 then((v*2^k:Nat):Int)else((v*2^k:Nat):Int)-4294967296:=by
  rw[Apv,Int.bmod_def,show((Int32.size:Nat):Int)=4294967296 from rfl];generalize v*2^k=X at*
  split<;>split<;>omega
 rw[e,Ao9 F0,hX]
theorem sx2(b:LB)(a:Nat):sx 2 b a=if Nd b a+256*Nd b (a+1)<32768 then((Nd b a+256*Nd b (a+1):Nat):Int)else((Nd b a+256*Nd b (a+1):Nat):Int)-65536:=rfl
theorem sx3(b:LB)(a:Nat):sx 3 b a=if Nd b a+256*Nd b (a+1)+65536*Nd b (a+2)<8388608 then((Nd b a+256*Nd b (a+1)+65536*Nd b (a+2):Nat):Int)else((Nd b a+256*Nd b (a+1)+65536*Nd b (a+2):Nat):Int)-16777216:=rfl
variable (b:LB)
theorem Amt(bk:Int->LX->Option (LX×Int))(a:Nat)(acc:LX)(h:a+1<=b.length)(hl:b.length<=100000)(ha:acc.length<=100000)(j25:Int->LX->Int32->Int->Option (LX×Int))(j30:LX->Option (LX×Int)):
  Et (Hx bk 8 b) j25 j30 8 b (a:Int) acc=bk ((a+1:Nat):Int) (acc++[Int32.ofInt (sx 1 b a)]):=by
 have hb:=SC b a;have e:Ag (Ad (b.getD a 0):Int32) (128:Int32)=Int32.ofInt (sx 1 b a):=by
  have e1:Ag (Ad (b.getD a 0):Int32) (128:Int32)=Int32.ofInt ((Int32.ofInt ((b.getD a 0).toNat:Int)).toInt-(128:Int32).toInt):=rfl;rw[e1,aP F0 (by have:=(b.getD a 0).toNat_lt;omega)];rfl
 have q8:Ba (8:Int) 8=1:=F4
 rw[Et,Abp F3,Abp Ar8,VA F0,Aa,e,Az F6,Aa,Hx,Uf,q8,Aj];rfl
theorem Akv(bk:Int->LX->Option (LX×Int))(a:Nat)(acc:LX)(h:a+2<=b.length)(hl:b.length<=100000)(ha:acc.length<=100000)(j28:Int->LX->Option (LX×Int))(j30:LX->Option (LX×Int)):
  Et j28 (Kj bk 16 b) j30 16 b (a:Int) acc=bk ((a+2:Nat):Int) (acc++[Int32.ofInt (sx 2 b a)]):=by
 have h0:=SC b a;have h1:=SC b (a+1);have q:Ba (16:Int) 8=2:=F4
 have hF:Aq=(Aq-3)+1+1+1:=by have:=Ar;omega
 have z0:(GI.toZ (Bf (8:Int) 0)).toNat=0:=F4
 have z1:(GI.toZ (Bf (8:Int) 1)).toNat=8:=F4
 have z16:(GI.toZ (Ag (32:Int) 16)).toNat=16:=F4
 have s0:De (Int32.ofInt (Nd b a:Int)) 0=Int32.ofInt (Nd b a:Int):=by have:=lE (v:=Nd b a) 0 F0 F0;simpa using this
 have s1:De (Int32.ofInt (Nd b (a+1):Int)) 8=Int32.ofInt ((Nd b (a+1)*2^8:Nat):Int):=lE 8 F0 F0;have o1:=Ah3 (v:=Nd b a) (w:=Nd b (a+1)) (i:=8) (by simpa using h0) F0 F0;have c:=carry (v:=Nd b a+Nd b (a+1)*2^8) (k:=16) F0 F0 F0;rw[Et,Abp F3,Abg Ar2,Kj,hF,Ds,En,q,Abp F4,show Ae (a:Int) 0=((a:Nat):Int) by rw[Aj];omega,VA F0,Aa,Cf F4,Aa,z0,
  LY,show((b.getD a 0).toNat:Int)=(Nd b a:Int)from rfl,s0,xT _ F0,show Ae (0:Int) 1=1 by decide,
  Ds,En,q,Abp F4,show Ae (a:Int) 1=((a+1:Nat):Int) by rw[Aj];omega,VA F0,Aa,Cf F4,Aa,z1,
  LY,show((b.getD (a+1) 0).toNat:Int)=(Nd b (a+1):Int)from rfl,s1,o1,show Ae (1:Int) 1=2 by decide,
  Ds,En,q,Abg F4,Ui,Zy,Cf F4,Aa,Aa,z16,c,Az F6,Aa,Hx,Uf,q,Aj]
 have e:((if(Nd b a+Nd b (a+1)*2^8)*2^16<2147483648 then(((Nd b a+Nd b (a+1)*2^8)*2^16:Nat):Int)else(((Nd b a+Nd b (a+1)*2^8)*2^16:Nat):Int)-4294967296).fdiv (2^16))=sx 2 b a:=by
  rw[Anh _ F0,sx2];split<;>split<;>omega
 rw[e];rfl
theorem Akz(bk:Int->LX->Option (LX×Int))(a:Nat)(acc:LX)(h:a+3<=b.length)(hl:b.length<=100000)(ha:acc.length<=100000)(j28:Int->LX->Option (LX×Int))(j30:LX->Option (LX×Int)):
  Et j28 (Kj bk 24 b) j30 24 b (a:Int) acc=bk ((a+3:Nat):Int) (acc++[Int32.ofInt (sx 3 b a)]):=by
 have h0:=SC b a;have h1:=SC b (a+1);have h2:=SC b (a+2);have q:Ba (24:Int) 8=3:=F4
 have hF:Aq=(Aq-4)+1+1+1+1:=by have:=Ar;omega
 have z0:(GI.toZ (Bf (8:Int) 0)).toNat=0:=F4
 have z1:(GI.toZ (Bf (8:Int) 1)).toNat=8:=F4
 have z2:(GI.toZ (Bf (8:Int) 2)).toNat=16:=F4
 have z8:(GI.toZ (Ag (32:Int) 24)).toNat=8:=F4
 have s0:De (Int32.ofInt (Nd b a:Int)) 0=Int32.ofInt (Nd b a:Int):=by have:=lE (v:=Nd b a) 0 F0 F0;simpa using this
 have s1:De (Int32.ofInt (Nd b (a+1):Int)) 8=Int32.ofInt ((Nd b (a+1)*2^8:Nat):Int):=lE 8 F0 F0;have s2:De (Int32.ofInt (Nd b (a+2):Int)) 16=Int32.ofInt ((Nd b (a+2)*2^16:Nat):Int):=lE 16 F0 F0;have o1:=Ah3 (v:=Nd b a) (w:=Nd b (a+1)) (i:=8) (by simpa using h0) F0 F0;have o2:=Ah3 (v:=Nd b a+Nd b (a+1)*2^8) (w:=Nd b (a+2)) (i:=16) F0 F0 F0;have c:=carry (v:=Nd b a+Nd b (a+1)*2^8+Nd b (a+2)*2^16) (k:=8) F0 F0 F0;rw[Et,Abp F3,Abg Ar2,Kj,hF,Ds,En,q,Abp F4,show Ae (a:Int) 0=((a:Nat):Int) by rw[Aj];omega,VA F0,Aa,Cf F4,Aa,z0,
  LY,show((b.getD a 0).toNat:Int)=(Nd b a:Int)from rfl,s0,xT _ F0,show Ae (0:Int) 1=1 by decide,
  Ds,En,q,Abp F4,show Ae (a:Int) 1=((a+1:Nat):Int) by rw[Aj];omega,VA F0,Aa,Cf F4,Aa,z1,
  LY,show((b.getD (a+1) 0).toNat:Int)=(Nd b (a+1):Int)from rfl,s1,o1,show Ae (1:Int) 1=2 by decide,
  Ds,En,q,Abp F4,show Ae (a:Int) 2=((a+2:Nat):Int) by rw[Aj];omega,VA F0,Aa,Cf F4,Aa,z2,
  LY,show((b.getD (a+2) 0).toNat:Int)=(Nd b (a+2):Int)from rfl,s2,o2,show Ae (2:Int) 1=3 by decide,
  Ds,En,q,Abg F4,Ui,Zy,Cf F4,Aa,Aa,z8,c,Az F6,Aa,Hx,Uf,q,Aj]
 have e:((if(Nd b a+Nd b (a+1)*2^8+Nd b (a+2)*2^16)*2^8<2147483648 then(((Nd b a+Nd b (a+1)*2^8+Nd b (a+2)*2^16)*2^8:Nat):Int)else(((Nd b a+Nd b (a+1)*2^8+Nd b (a+2)*2^16)*2^8:Nat):Int)-4294967296).fdiv (2^8))=sx 3 b a:=by
  rw[Anh _ F0,sx3];split<;>split<;>omega
 rw[e];rfl
theorem iF(bits:Int)(n m:Nat)(hn:1<=n)(hm:b.length=m*n)(hl:b.length<=100000)(step:∀(q a:Nat) (acc:LX),a+n<=b.length->acc.length<=100000->Dd bits b (q+1) (a:Int) acc=Dd bits b q ((a+n:Nat):Int) (acc++[Int32.ofInt (sx n b a)])):
  ∀(j x q:Nat),x+j=m->j<q->Dd bits b q ((x*n:Nat):Int) (QZ n x b)=some (QZ n m b,0)
 |0,x,q+1,hx,_=>by
  obtain rfl:x=m:=F0
  rw[Dd,Et,Abg F3];rfl
 |j+1,x,q+1,hx,hq=>by
  have h1:(x+1)*n<=m*n:=Aeb n F0;rw[Aft,Anf]at h1;have h2:m<=m*n:=Nat.le_mul_of_pos_right m hn;rw[step q (x*n) _ F0 (by rw[bU];omega),<-N7,show x*n+n=(x+1)*n by rw[Aft,Anf]];exact iF bits n m hn hm hl step j (x+1) q F0 F0
theorem Ab2(h:¬Ch bits):Lw bits=some (0,0,2):=by
 have h8:¬bits=8:=λe=>h (.inl e);have h16:¬bits=16:=λe=>h (.inr (.inl e));have h24:¬bits=24:=λe=>h (.inr (.inr e));rw[Lw,LH,Abg (by rw[Bj];simpa using h8),Abg (by rw[Bj];simpa using h16),MO,KJ,Abg (by rw[Bj];simpa using h24)]
theorem Amg(h:Ch bits)(hl:b.length<=100000)(q a:Nat)(acc:LX)(ha:a+wB bits<=b.length)(hc:acc.length<=100000):
  Dd bits b (q+1) (a:Int) acc=Dd bits b q ((a+wB bits:Nat):Int) (acc++[Int32.ofInt (sx (wB bits) b a)]):=by
 rw[Dd];obtain rfl|rfl|rfl:=h
 ·exact Amt b _ a acc ha hl hc _ _
 ·exact Akv b _ a acc ha hl hc _ _
 ·exact Akz b _ a acc ha hl hc _ _
theorem xU(h:Ch bits)(hm:b.length=m*wB bits)(h4:m<=4000):FF bits b=some (QZ (wB bits) m b,0):=by
 have hn:=J1 bits;have hl:b.length<=12000:=by rw[hm];exact Anj h4 hn.2
 rw[FF,ER,yZ h,Aa];simp only;rw[Abg Arn,E0 h,Cf Ari,Aa];have hr:Ed (Ac b) (wB bits:Int)=0:=by rw[Ac,EF,hm,An1];rfl
 have hq:Ba (Ac b) (wB bits:Int)=(m:Int):=by rw[Ac,Qy,hm,Aqz _ F0]
 rw[Abg (by rw[Cq,hr];simp),Aa,hq,Abg Arh,NY];have:=iF b bits (wB bits) m F0 hm F0 (λq a acc ha hc=>Amg b h F0 q a acc ha hc) m 0 Aq F0 F7;simpa [QZ]using this
theorem Ahy(h:Ch bits)(hl:b.length<=100000)(q a:Nat)(acc:LX)(ha:a+wB bits<=b.length)(hc:acc.length<=100000):
  Cb bits b (hB bits) (q+1) (a:Int) acc=Cb bits b (hB bits) q ((a+wB bits:Nat):Int) (acc++[Int32.ofInt (sx (wB bits) b a)]):=by
 have h0:=SC b a;have h1:=SC b (a+1);have h2:=SC b (a+2);have gc:∀k,(Ad (b.getD k 0):Int)=(Nd b k:Int):=λk=>bQ _;have gx:∀z:Int,(Ad z:Int32)=Int32.ofInt z:=λz=>rfl;have hF:Aq=(Aq-7)+1+1+1+1+1+1+1:=by have:=Ar;omega
 have hw1:wB bits=1\/wB bits=2\/wB bits=3:=by have:=J1 bits;omega
 have hend:∀(bk:Int->LX->Option (LX×Int)) (z:Int),0<=z->z<2*hB bits->z=(if bits=8 then(Nd b a:Int)else if bits=16 then((Nd b a+256*Nd b (a+1):Nat):Int)else((Nd b a+256*Nd b (a+1)+65536*Nd b (a+2):Nat):Int))->
   Gq bk bits b (hB bits) (a:Int) z acc=bk ((a+wB bits:Nat):Int) (acc++[Int32.ofInt (sx (wB bits) b a)]):=by
  intro bk z z0 z1 z2;rw[Gq,Xn];have e28:∀Alj,Ok bk bits b (hB bits) (a:Int) Alj=bk ((a+wB bits:Nat):Int) Alj:=by
   intro Alj;rw[Ok,Xj,E0 h,Aj];rfl
  simp only[e28];obtain rfl|rfl|rfl:=h
  ·rw[Abp F4,Du F0 (by simp[hB]at z1;omega),Az F6,Aa,gx,z2];rfl
  ·rw[Abg F4];have e9:hB 16=32768:=rfl;rw[e9]at z1⊢;simp only[show ¬(16:Int)=8 by decide,Apy,Arb]at z2;have e10:wB 16=2:=rfl;rw[e10,sx2];by_cases hz:32768<=z
   ·rw[Abp (by rw[Hs];simpa using hz),Ia,Du,Az F6,Aa,gx,Abg F0,z2];rfl
   ·rw[Abg (by rw[Hs];simpa using hz),Az F6,Aa,gx,Abp F0,z2]
  ·rw[Abg F4];have e9:hB 24=8388608:=rfl;rw[e9]at z1⊢;simp only[show ¬(24:Int)=8 by decide,show ¬(24:Int)=16 by decide,Apy]at z2;have e10:wB 24=3:=rfl;rw[e10,sx3];by_cases hz:8388608<=z
   ·rw[Abp (by rw[Hs];simpa using hz),Ia,Du,Az F6,Aa,gx,Abg F0,z2];rfl
   ·rw[Abg (by rw[Hs];simpa using hz),Az F6,Aa,gx,Abp F0,z2]
 have step:∀(bk:Int->LX->Option (LX×Int)) (q2:Nat) (k:Int) (i:Nat),a+i<b.length->0<=k->k<65536->Cm bk bits b (hB bits) (a:Int) acc (q2+1) k (i:Int)=Cm bk bits b (hB bits) (a:Int) acc q2 (256*k+(Nd b (a+i):Int)) ((i:Int)-1):=by
  intro bk q2 k i hi hk hk2;have:=SC b (a+i);rw[Cm,Jm,Abp Ars,Aj (a:=(a:Int)) F0 F0,show(a:Int)+(i:Int)=((a+i:Nat):Int) by omega,VA F0,Aa,gc,Ia,Aj,Du]
 have last:∀(bk:Int->LX->Option (LX×Int)) (q2:Nat) (k:Int),Cm bk bits b (hB bits) (a:Int) acc (q2+1) k (-1)=Gq bk bits b (hB bits) (a:Int) k acc:=by
  intro bk q2 k;rw[Cm,Jm,Abg (by rw[Hs];decide)]
 rw[Cb,Jl,Abp F3,Oo,hF];generalize Cb bits b (hB bits) q=bk at*
 have hwq:=E0 h;rw[hwq,Du];obtain rfl|rfl|rfl:=h
 ·have e10:wB 8=1:=rfl;rw[e10]at ha⊢;rw[show(((1:Nat):Int)-1)=((0:Nat):Int) by omega,step _ _ 0 0 F0 F0 F0,show(((0:Nat):Int)-1)= -1 by omega,last];exact hend bk _ F0 Asf Ard
 ·have e10:wB 16=2:=rfl;rw[e10]at ha⊢;rw[show(((2:Nat):Int)-1)=((1:Nat):Int) by omega,step _ _ 0 1 F0 F0 F0,show(((1:Nat):Int)-1)=((0:Nat):Int) by omega,step _ _ _ 0 F0 F0 F0,show(((0:Nat):Int)-1)= -1 by omega,last];exact hend bk _ F0 Asf F6
 ·have e10:wB 24=3:=rfl;rw[e10]at ha⊢;rw[show(((3:Nat):Int)-1)=((2:Nat):Int) by omega,step _ _ 0 2 F0 F0 F0,show(((2:Nat):Int)-1)=((1:Nat):Int) by omega,step _ _ _ 1 F0 F0 F0,show(((1:Nat):Int)-1)=((0:Nat):Int) by omega,step _ _ _ 0 F0 F0 F0,show(((0:Nat):Int)-1)= -1 by omega,last];exact hend bk _ F0 Asf F6
theorem QJ{bits:Int}(h:Ch bits){m:Nat}(hm:b.length=m*wB bits)(hl:b.length<=100000):
  ∀(j x q:Nat),x+j=m->j<q->Cb bits b (hB bits) q ((x*wB bits:Nat):Int) (QZ (wB bits) x b)=some (QZ (wB bits) m b,0)
 |0,x,q+1,hx,_=>by
  obtain rfl:x=m:=F0
  rw[Cb,Jl,Abg F3];rfl
 |j+1,x,q+1,hx,hq=>by
  have hn:=J1 bits;have h1:(x+1)*wB bits<=m*wB bits:=Aeb _ F0;rw[Aft,Anf]at h1;have h2:m<=m*wB bits:=Nat.le_mul_of_pos_right m hn.1;rw[Ahy b h hl q (x*wB bits) _ F0 (by rw[bU];omega),<-N7,show x*wB bits+wB bits=(x+1)*wB bits by rw[Aft,Anf]];exact QJ h hm hl j (x+1) q F0 F0
theorem I0(h:Ch bits)(hm:b.length=m*wB bits)(h4:m<=4000):Of bits b=some (QZ (wB bits) m b,0):=by
 have hn:=J1 bits;have hl:b.length<=12000:=by rw[hm];exact Anj h4 hn.2
 have hpos:=TH bits;rw[Of,Pu,rQ h,Aa,Abg Arj,E0 h,Cf Ari,Aa];have hr:Ed (Ac b) (wB bits:Int)=0:=by rw[Ac,EF,hm,An1];rfl
 have hq:Ba (Ac b) (wB bits:Int)=(m:Int):=by rw[Ac,Qy,hm,Aqz _ F0]
 rw[Abg (by rw[Ax,hr];simp),Aa,hq,Abg Arh,Xe];have:=QJ b h hm F0 m 0 Aq F0 F7;simpa [QZ]using this
end Go.Pl
namespace Go.Pl
open Go Go.Lv
theorem Z4{c:Nat}{w:Nat}(hc:c<=6)(hw:Ch (w:Int)):Ba (Bf (c:Int) (w:Int)) 8=((c*wB (w:Int):Nat):Int):=by
 have h:w=8\/w=16\/w=24:=by unfold Ch at hw;omega
 have:c=0\/c=1\/c=2\/c=3\/c=4\/c=5\/c=6:=F0
 rcases h with rfl|rfl|rfl<;>rcases this with rfl|rfl|rfl|rfl|rfl|rfl|rfl<;>rfl
def Anw(b:LB):LI:=Ib (Ak (f3 (N4 b))) (f4 (N4 b))
theorem Ar9{p:Prop}(h:p:=by simp[Cq,Af,Ax];omega):p:=h
end Go.Pl
namespace Go.Pl
open Go Go.Lv
variable{bits:Int}
theorem Aea{ch:Nat}(hb:Ch bits)(h1:1<=ch)(h6:ch<=6):Lu (ch:Int) bits=some 0:=by
 have hr:∃x y,Lw bits=some (x,y,0):=⟨_,_,yZ hb⟩;obtain⟨x,y,hr⟩:=hr;rw[Lu,hr,Aa];simp only;rw[Abg Ar9]
theorem yF(g:Nat):∀K:Nat,(List.replicate K (g:Int)).sum=((K*g:Nat):Int)
 |0=>by simp
 |K+1=>by
  rw[Aop,Aog,yF g K,Ap6];omega
theorem M3{g n:Nat}(hn:1<=n):(Ib g n).sum=(n:Int):=by
 have h:=Nat.div_mul_le_self (n-1) g;rw[Ib,List.sum_append,yF];simp only[Aog,List.sum_nil];omega
theorem Ae4:∀{l:LI},(∀x∈l,0<=x)->0<=l.sum
 |[],_=>by simp
 |x::l,h=>by
  have h1:=h x Am5;have h2:=Ae4 (l:=l) λy hy=>h y (Ajv _ hy);rw[Aog];omega
def Ae5(c w:Nat)(fr:LI)(k:Nat):Int:=(((fr.take k).sum.toNat*(c*wB (w:Int)):Nat):Int)
theorem Y4(C W:Nat)(fr:LI):Ae5 C W fr 0=0:=by rw[Ae5,Apj,List.sum_nil];simp
theorem lX(h:Ch bits){l:LX}(hl:l.length<=4000)(hr:uf bits l):Bc bits l=some 0:=by
 have hh:=TH bits;have key:∀(j i q:Nat),i+j=l.length->j<q->Bq l (hB bits) q (i:Int)=some 0:=by
  intro j
  induction j with
  |zero=>
   intro i q hi hq;obtain⟨q,rfl⟩:∃k,q=k+1:=⟨q-1,F0⟩;rw[Bq,Dj,Abg F3];rfl
  |succ j ih=>
   intro i q hi hq;obtain⟨q,rfl⟩:∃k,q=k+1:=⟨q-1,F0⟩;have hx:=hr l[i] (Ap2 F0);rw[Bq,Dj,Abp F3,Cu,Aa,Aa,Fa,Ade,Dh F0 F0,Aj,Af,Hs,Abg F6,Abg F6];exact ih (i+1) q F0 F0
 rw[Bc,Ir,rQ h,Aa,Abg Arj,Abg Arf];exact key l.length 0 Aq F0 F7
def Eu(bits:Int)(ch:Nat)(t x:LX):LU:=evl bits ch t (mx ch x) x.length
def zX(bits:Int)(ch:Nat)(t x:LX):LB:=Dr (Zv ch (Eu bits ch t x) x.length)
def AI(bits:Int)(ch:Nat)(t x:LX):LB:=zX bits ch t x++Zw (Le (zX bits ch t x)).toNat 4
theorem Ac6(bits:Int)(ch:Nat)(t x:LX)(h0:1<=x.length)(h4:x.length<=4000):1<= (zX bits ch t x).length/\ (zX bits ch t x).length<=40501:=by
 have h:=FU ch (Eu bits ch t x) x.length;obtain⟨k,hk⟩:∃k,x.length=k+1:=⟨x.length-1,F0⟩;have h1:1<= (Zv ch (Eu bits ch t x) x.length).length:=by
  rw[hk,Zv,Abr];have hn:=yB ch ((Eu bits ch t x).take k);have:=JR ((Eu bits ch t x).getD k 0) hn.1 hn.2;omega
 rw[zX,Qe];omega
theorem M6(bits:Int)(ch:Nat)(t x:LX)(h0:1<=x.length)(h4:x.length<=4000):5<= (AI bits ch t x).length/\ (AI bits ch t x).length<=40505:=by
 have:=Ac6 bits ch t x h0 h4;rw[AI,Abr,Cr];omega
theorem Aru{p:Prop}(h:p:=by rw[Nv];omega):p:=h
end Go.Pl
namespace Go.Pl
open Go Go.Lv
variable{p:LB}
theorem Q6(p:LB)(b0:UInt64)(a0:Int):∀(j m q:Nat),m+j<=300000->j<=64->j<q->
  Nu b0 a0 q (JE p m j) (j:Int) (m:Int) (Kt p 0 m)=some (Kt p 0 (m+j),((m+j:Nat):Int),0)
 |0,m,q+1,_,_,_=>by
  rw[Nu,JJ,Abg Ary,TL,gY];rfl
 |j+1,m,q+1,hm,hj,hq=>by
  have hroom:Nu b0 a0 (q+1) (JE p m (j+1)) ((j+1:Nat):Int) (m:Int) (Kt p 0 m)=JI (Nu b0 a0 q) b0 a0 (JE p m (j+1)) ((j+1:Nat):Int) (m:Int) (room p 0 m):=by
   rw[Nu,JJ,Abp Ary,ru m F0,room];by_cases h0:m %8=0
   ·rw[Abp (by rw[Bj,h0];rfl),Az Ar6,Aa,Abp h0]
   ·rw[Abg Arj,Abg h0]
  have hl:Ag (Ac (room p 0 m)) 1=((m/8:Nat):Int):=by
   rw[Ac,Nv,Du];omega
  have e2:Jf ((j+1:Nat):Int) (Ag (8:Int) ((m %8:Nat):Int))=((min (j+1) (8-m %8):Nat):Int):=by
   rw[eY,Du];omega
  rw[hroom,JI,jC,ru m F0,e2,hl];generalize hT:min (j+1) (8-m %8)=T;have hT1:1<=T:=F0
  have hT8:m %8+T<=8:=F0
  have hg:Ah (room p 0 m) ((m/8:Nat):Int)=some (UInt8.ofNat (Cx p (0+8*(m/8)) (m %8))):=by
   rw[Cu Aru,RF]
  have z1:(GI.toZ ((m %8:Nat):Int)).toNat=m %8:=rfl;have z2:(GI.toZ ((T:Nat):Int)).toNat=T:=rfl;have hlt:=kA p (0+8*(m/8)) (m %8+T) F0;have hadd:=ZT p (m %8) T (0+8*(m/8));rw[show 0+8*(m/8)+m %8=m by omega]at hadd;have hbyte:(Ad (Eb (JE p m (j+1)) (Ag (De (1:UInt64) T) (1:UInt64))):UInt8)=UInt8.ofNat (Cx p m T):=by
   rw[UM,Aoa _ F0,Aex p m (j+1) T F0 hj]
  have hnew:B0 (UInt8.ofNat (Cx p (0+8*(m/8)) (m %8))) (De (UInt8.ofNat (Cx p m T)) (m %8))=UInt8.ofNat (Cx p (0+8*(m/8)) (m %8+T)):=by
   rw[or8 (FG _ _ _) (by rw[Ana];omega) F0,hadd,Ana (2^(m %8))]
  rw[hg,z1,z2,hbyte];simp only[Aa];rw[Cf Ars,Aa,Cf Arp,Aa,hnew,Wq _ Aru,Aa,jQ p 0 m T hT1 hT8,jW,jB,ru m F0,e2,hT,Cf Ars,Aa,z2,Adv p m (j+1) T F0 hj,Du,Aj];have ih:=Q6 p b0 a0 (j+1-T) (m+T) q F0 F0 F0;rw[show m+T+(j+1-T)=m+(j+1) by omega]at ih;rw[<-ih,show((j+1:Nat):Int)-((T:Nat):Int)=((j+1-T:Nat):Int) by omega,show(m:Int)+((T:Nat):Int)=((m+T:Nat):Int) by omega]
theorem put_eq(p:LB)(m j:Nat)(hm:m+j<=300000)(hj:j<=63):LZ (Kt p 0 m) (m:Int) (JE p m j) (j:Int)=some (Kt p 0 (m+j),((m+j:Nat):Int),0):=by
 have hz:Br (Bu (JE p m j) (GI.toZ (j:Int)).toNat) 0=false:=by
  have:Bu (JE p m j) j=0:=by
   apply UInt64.toNat_inj.1;rw[Xs,ML p m j F0,Ao0 (FG p j m)];rfl
  rw[show(GI.toZ (j:Int)).toNat=j from rfl,this];rfl
 have hl:=Ht p 0 m;have htw:QS (Kt p 0 m) (m:Int)=some (Kt p 0 m,(m:Int)):=by
  rw[QS,Bd,Az F6,Aa,Aa];rfl
 rw[LZ,YN,kY (yS p 0 m F0),Aa,Abg F4,Abg Are,Abp F9,Cf Ars,Aa,hz,Abg F4,Aj,Abg Arh,htw,Aa];exact Q6 p _ _ j m Aq hm F0 F7
theorem At.cat{a:Nat}{c d:List Bool}(h:At p a (c++d)):At p a c/\At p (a+c.length) d:=⟨h.left,h.right⟩
theorem R6(p:LB):∀(q a:Nat),At p a (List.replicate q true)->Cx p a q+1=2^q
 |0,a,_=>by rw[Cx]
 |q+1,a,h=>by
  rw[Aop]at h;obtain⟨h0,h1⟩:=h.cons;have:=R6 p q (a+1) h1;rw[Cx,h0,Aod,Abp rfl];omega
theorem TG{x:UInt64}{m n:Nat}(hn:n<=63)(h:x.toNat=Cx p m n):x=JE p m n:=by
 apply UInt64.toNat_inj.1;rw[h,ML p m n F0]
theorem Ug{n:Nat}(h:n<2^64):(UInt64.ofNat n).toNat=n:=by rw[Aj4];exact Ado h
theorem vX{m q:Nat}(hq:q<=48)(hm:m+48<=300000)(h:At p m (List.replicate q true++(if q=48 then []else [false]))):
  NV (Kt p 0 m) (m:Int) (q:Int)=some (Kt p 0 (m+min (q+1) 48),((m+min (q+1) 48:Nat):Int),0):=by
 have h1:=h.left;have hv:=R6 p q m h1;have Aqq:2^q<=2^48:=Ai2 F0 hq;have hval:Cx p m (min (q+1) 48)+1=2^q:=by
  by_cases h48:q=48
  ·subst h48;exact hv
  ·rw[Abg h48]at h;have h2:=h.right;rw[Akm]at h2;have h0:=h2.cons.1;rw[show min (q+1) 48=q+1 by omega,QN,h0];simpa using hv
 have hx:(Ag (De (1:UInt64) q) (1:UInt64)).toNat=Cx p m (min (q+1) 48):=by
  have e1:(De (1:UInt64) q).toNat=2^q:=by rw[SS];show 1*2^q %_=_;rw[Anf];exact Ado F0
  have hpos:0<2^q:=Ap4 F0;rw[jT,UInt64.toNat_sub_of_le _ _ (by rw[UInt64.le_iff_toNat_le,e1];exact hpos),e1]
  show 2^q-1=_;omega
 rw[NV,kY (yS p 0 m F0),Aa,Abg F4,UQ,Abg Are,Aa];simp only;have e2:Jf (Ae (q:Int) 1) 48=((min (q+1) 48:Nat):Int):=by rw[eY,Aj];omega
 rw[Abg F4,Cf Ars,Aa,e2,show(GI.toZ (q:Int)).toNat=q from rfl,TG F0 hx,put_eq p m _ F0 F0,Aa]
theorem Ac3{m l:Nat}{v:UInt32}(hl:l<=24)(hm:m+81<=300000)(h:At p m (KN l v.toNat)):
  UA (Kt p 0 m) (m:Int) v (l:Int)=some (Kt p 0 (m+(KN l v.toNat).length),((m+(KN l v.toNat).length:Nat):Int),0):=by
 have hvl:=v.toNat_lt;have hz:(GI.toZ (l:Int)).toNat=l:=rfl;have hlp:2^l<=2^24:=Ai2 F0 hl;have hpos:0<2^l:=Ap4 F0;have Ao1:CR v (l:Int)=some (decide (48<=v.toNat/2^l)):=by
  rw[CR,Cf Ars,Aa,hz,Agn,PW];rfl
 rw[UA,dX,kY (yS p 0 m F0),Aa,Abg F4,Abg Are,Cf Ars,Aa,Aa,Ao1,Aa];rw[KN]at h⊢;by_cases h48:48<=v.toNat/2^l
 ·rw[Abp h48]at h⊢;obtain⟨h1,h2⟩:=h.cat;rw[Akm]at h2;have hval:=EJ p 32 (m+48) v.toNat h2;rw[Ado F0]at hval;have hu:=vX (p:=p) (m:=m) (q:=48) (Ala _) F0 (by rw[Abp rfl,Al6];exact h1);rw[Abp (by simpa using h48),OV,PH,show(48:Int)=((48:Nat):Int)from rfl,hu,Aa];simp only;rw[Abg F4,Db,TG (x:=UInt64.ofNat v.toNat) (p:=p) (m:=m+48) (n:=32) F0 (by rw[Ug F0,hval]),show(32:Int)=((32:Nat):Int)from rfl,show m+min (48+1) 48=m+48 by omega,put_eq p (m+48) 32 F0 F0,Aa,Abr,Akm,Px,Am6]
 ·rw[Abg h48]at h⊢;generalize hq:v.toNat/2^l=q at*
  obtain⟨h1,h2⟩:=h.cat;rw[Akm]at h2;obtain⟨h3,h4⟩:=h2.cons;have hval:=EJ p l (m+q+1) (v.toNat %2^l) h4;rw[Nat.mod_mod]at hval;have hqa:At p m (List.replicate q true++[false]):=by
   have:List.replicate q true++(false::PR (v.toNat %2^l) l)=(List.replicate q true++[false])++PR (v.toNat %2^l) l:=by simp
   rw[this]at h;exact h.left
  have hu:=vX (p:=p) (m:=m) (q:=q) F0 F0 (by rw[Abg F0];exact hqa);have hgq:(Ad (Bu v l):Int)=(q:Int):=by rw[V3,PW,hq]
  have hrest:(Ad (Eb v (Ag (De (1:UInt32) l) 1)):UInt64)=JE p (m+q+1) l:=by
   apply TG F0;have e1:(De (1:UInt32) l).toNat=2^l:=by rw[pU];show 1*2^l %_=_;rw[Anf];exact Ado F0
   have e2:(Ag (De (1:UInt32) l) (1:UInt32)).toNat=2^l-1:=by
    rw[rB,UInt32.toNat_sub_of_le _ _ (by rw[UInt32.le_iff_toNat_le,e1];exact hpos),e1];rfl
   have e3:(Eb v (Ag (De (1:UInt32) l) 1)).toNat=v.toNat %2^l:=by
    rw[L5,UInt32.toNat_and,e2,Apx]
   rw[Db,Ug (by rw[e3];have:=Apc v.toNat hpos;omega),e3,hval]
  rw[Abg (by simpa using h48),OV,PH,hz,hgq,hu,Aa];simp only;rw[Abg F4,hrest,show m+min (q+1) 48=m+q+1 by omega,put_eq p (m+q+1) l F0 F0,Aa,Abr,Akm,Ajc,Px,show m+q+1+l=m+(q+(l+1)) by omega]
theorem Ae0{k l:Nat}{s t:UInt64}(h:okD k l s t)(v:UInt32):TU [] 0 (k:Int) (l:Int) s t v=
  some (Dr (Lc k l v),((Lc k l v).length:Int),((kS k (CW s (H7 v)):Nat):Int),((lK l t k v:Nat):Int),CW s (H7 v),lT t k v,0):=by
 obtain⟨h1,h2,h3,h4⟩:=h;have hvl:=v.toNat_lt;have hAt:At (Dr (Lc k l v)) 0 (Lc k l v):=λi hi=>by rw[Aol,Vr]
 have hlen:=JR v h1 h2;have hfull:Kt (Dr (Lc k l v)) 0 (Lc k l v).length=Dr (Lc k l v):=by
  apply I8 (by rw[Ht,Qe]);intro i hi;rw[qE,Aol,Vr];by_cases hlt:i<(Lc k l v).length
  ·rw[Abp hlt]
  ·rw[Abg hlt,Z1 F0]
 generalize hP:Dr (Lc k l v)=P at*
 have h0:Kt P 0 0=[]:=rfl;have Ang:∀(x:Int) (y:UInt64) (aj ai:Int),Xf v (k:Int) s ai P x y=some (P,ai,((kS k (CW s (H7 v)):Nat):Int),x,CW s (H7 v),y,0):=by
  intro x y aj ai;rw[Xf,OK,Db,pW,Ai9 k h1];rw[eJ,OS,MQ,CX,Db,pW];rfl
 have hp7:∀ai:Int,OU v (k:Int) (l:Int) s t 0 ai P=some (P,ai,((kS k (CW s (H7 v)):Nat):Int),((lK l t k v:Nat):Int),CW s (H7 v),lT t k v,0):=by
  intro ai;rw[OU,OJ,Abg F4,K9 k l s t h1,Aa];by_cases hv:v.toNat<2^k
  ·rw[Abp hv];simp only;rw[Abg Asc,Ang _ _ 0,lK,Abp hv,lT,Abp hv]
  ·rw[Abg hv];simp only;rw[Abp Ar8,Db,pW,Ai9 l h2 _ (λx=>Xf v (k:Int) s ai P x (CW t (UInt64.ofNat (NP k v).toNat))),Ang _ _ 0,lK,Abg hv,lT,Abg hv];rfl
 rw[TU,PJ,show Jh [] 0=some 0 from rfl,Aa,Abg F4,Ajm ⟨h1,h2,h3,h4⟩,Aa,Abg F4,dY,PC,K9 k l s t h1,Aa];have hput:=put_eq P 0 1 F0 F0;rw[h0,Aol,show((0:Nat):Int)=0 from rfl,show((1:Nat):Int)=1 from rfl]at hput;by_cases hv:v.toNat<2^k
 ·have hc:Lc k l v=false::PR v.toNat k:=by rw[Lc,Abp hv]
  rw[hc]at hAt hfull;obtain⟨b0,b1⟩:=hAt.cons;have hval:=EJ P k 1 v.toNat b1;rw[Ado hv]at hval;have hz:(Ad (0:Int):UInt64)=JE P 0 1:=TG F0 (by rw[sN,b0];rfl);rw[Abp hv];simp only;rw[hz,hput,Aa];simp only;rw[Abp F4,Db,TG (x:=UInt64.ofNat v.toNat) (p:=P) (m:=1) (n:=k) F0 (by rw[Ug F0,hval]),show(1:Int)=((1:Nat):Int)from rfl,put_eq P 1 k F0 F0,Aa];simp only;rw[Ajc,Px,Aqg k 1]at hfull;rw[hfull,hp7,hc,Ajc,Px,Aqg k 1]
 ·have hc:Lc k l v=true::KN l (v.toNat-2^k):=by rw[Lc,Abg hv]
  rw[hc]at hAt hfull;obtain⟨b0,b1⟩:=hAt.cons;have hsub:=Nat.sub_le v.toNat (2^k);have hlv:(NP k v).toNat=v.toNat-2^k:=by rw[NP,om F0]
  have hz:(Ad (1:Int):UInt64)=JE P 0 1:=TG F0 (by rw[sN,b0];rfl);have hr:=Ac3 (p:=P) (m:=1) (l:=l) (v:=NP k v) h2 F0 (by rw[hlv];exact b1);rw[hlv,show((1:Nat):Int)=1 from rfl]at hr;rw[Abg hv];simp only;rw[hz,hput,Aa];simp only;rw[Abg F4,Abp F4,hr,Aa];simp only;rw[Ajc,Aqg _ 1]at hfull;rw[hfull,hp7,hc,Ajc,Aqg _ 1]
section
variable (ch:Nat) (x:LX)
theorem GG{at' i:Nat}(ha:at' %ch=0)(hi:i<ch)(h:at'+i<x.length):(mx ch x).getD (at'+i) 0=E1 (λi=>x.getD (at'+i) 0) ch i:=by
 have hb:(at'+i) %ch=i:=by rw[Nat.add_mod,ha,Aol,Nat.mod_mod,Ado hi]
 rw[Aj5 h,hb,show at'+i-i=at' by omega]
theorem R2(bk:Int->LX->Option (LX×Int))(at':Nat)(h1:1<=ch)(h6:ch<=6)(hm:at' %ch=0)(hl:at'+ch<=x.length)(hl2:x.length<=4000):∀(j i q:Nat),i+j=ch-1->j<q->
  Zo bk (ch:Int) (at':Int) q (i:Int) (sC (λk=>decide (k<at'+i)) (mx ch x) x)=bk ((at'+ch:Nat):Int) (sC (λk=>decide (k<at'+ch)) (mx ch x) x)
 |j,i,0,_,h=>absurd h (Amk _)
 |0,i,q+1,hi,_=>by
  have hlen:=HS ch x;have e1:Ag (Ae (at':Int) (ch:Int)-(at':Int)) 1=((ch-1:Nat):Int):=by rw[Aj,Du];omega
  have e2:Ae (at':Int) (ch:Int)-(at':Int)=(ch:Int):=by rw[Aj];omega
  have e4:Ae (at':Int) (ch:Int)=((at'+ch:Nat):Int):=by rw[Aj];omega
  rw[Zo,NA,e1,Abg F9,YB,nX,e1,e2];obtain rfl:i=ch-1:=F0
  by_cases h2:1<ch
  ·have e3:Ag ((ch-1:Nat):Int) 1=((ch-2:Nat):Int):=by rw[Du];omega
   have hv:Ag (x.getD (at'+(ch-1)) 0) (Ba ((mx ch x).getD (at'+(ch-2)) 0) 2)=(mx ch x).getD (at'+(ch-1)) 0:=by
    rw[GG ch x hm F0 F0,GG ch x hm F0 F0,E1,E1,Abp F0,Abg F0,Abp h2,QR,show ch-2+1=ch-1 by omega]
   rw[Abp Arh,L4 F0,Aa,e3,L4 F0,Aa,
    show(at':Int)+((ch-1:Nat):Int)=((at'+(ch-1):Nat):Int) by omega,show(at':Int)+((ch-2:Nat):Int)=((at'+(ch-2):Nat):Int) by omega,
    jP F0,Aa,jP F0,Aa,Aa,Abg Ard,Abp F6,hv,D1 F0,Aa,aO,YK,e4]
   congr 1;apply kP;intro k _;rw[Alr];simp;omega
  ·obtain rfl:ch=1:=F0
   have hlast:x.getD at' 0=(mx 1 x).getD at' 0:=by
    have:=GG 1 x (i:=0) hm F0 F0;rw[Aph]at this;rw[this,E1,Abg F0,Abg F0];rfl
   rw[Abg Ary,aO,YK,e4];congr 1;apply Ano (by rw[NS,NS]);intro k g1 g2;rw[Va,Va];by_cases hk:k<at'
   ·rw[Abp F6,Abp F6]
   ·by_cases hk2:k=at'
    ·subst hk2;rw[Abg Ard,Abp Ard];exact hlast
    ·rw[Abg F6,Abg F6]
 |j+1,i,q+1,hi,hq=>by
  have hlen:=HS ch x;have e1:Ag (Ae (at':Int) (ch:Int)-(at':Int)) 1=((ch-1:Nat):Int):=by rw[Aj,Du];omega
  have e2:Ae (at':Int) (ch:Int)-(at':Int)=(ch:Int):=by rw[Aj];omega
  have e3:Ae (i:Int) 1=((i+1:Nat):Int):=by rw[Aj];omega
  have hv:Ag (x.getD (at'+(i+1)) 0) (x.getD (at'+i) 0)=(mx ch x).getD (at'+i) 0:=by
   rw[GG ch x hm F0 F0,E1,Abp F0,QR]
  rw[Zo,NA,e1,Abp F9,e2,e3,L4 F0,Aa,L4 F0,Aa,
   show(at':Int)+((i+1:Nat):Int)=((at'+(i+1):Nat):Int) by omega,show(at':Int)+(i:Int)=((at'+i:Nat):Int) by omega,
   jP F0,Aa,jP F0,Aa,Aa,Abg Ard,Abg Ard,hv,D1 F0,Aa]
  have ih:=R2 bk at' h1 h6 hm hl hl2 j (i+1) q F0 F0;rw[<-ih];congr 1;apply kP;intro k _;rw[Alr];simp;omega
theorem mO(h1:1<=ch)(h6:ch<=6)(hm:x.length %ch=0)(hl2:x.length<=4000):∀(j at' q:Nat),at' %ch=0->at'<=x.length->x.length-at'<=j->j<q->
  Zu (ch:Int) q (at':Int) (sC (λk=>decide (k<at')) (mx ch x) x)=some (mx ch x,0)
 |j,at',0,_,_,_,h=>absurd h (Amk _)
 |j,at',q+1,ha,hle,hj,hq=>by
  have hlen:=HS ch x;have hl:Ac (sC (λk=>decide (k<at')) (mx ch x) x)=(x.length:Int):=by rw[Ac,NS,hlen]
  rw[Zu,YG,hl];by_cases h:at'<x.length
  ·have hb:=O8 ha hm h;obtain⟨j,rfl⟩:∃k,j=k+1:=⟨j-1,F0⟩;have e4:Ae (at':Int) (ch:Int)=((at'+ch:Nat):Int):=by rw[Aj];omega
   have hi:=R2 ch x (Zu (ch:Int) q) at' h1 h6 ha hb hl2 (ch-1) 0 Aq F0 F7;have hrest:=mO h1 h6 hm hl2 j (at'+ch) q (by rw[Nat.add_mod_right,ha]) hb F0 F0;rw[Aph]at hi;rw[Abp F9,show pD (x.length:Int) (at':Int) (Ae (at':Int) (ch:Int))=some () by rw[e4,pD,L4];omega,Aa];exact Aqc hi hrest
  ·rw[Abg F9,C3 (λk hk=>by simp;omega)];rfl
theorem Abd(h1:1<=ch)(h6:ch<=6)(hm:x.length %ch=0)(hl2:x.length<=4000):pP (ch:Int) x=some (mx ch x,0):=by
 have hlen:=HS ch x;have h:=mO ch x h1 h6 hm hl2 x.length 0 Aq Ard F0 F0 F7;rw[pP,fM,Ac2 ch x h1 h6 hm hl2,Aa,Abg Arn,Cn,Az F6,Aa,Aa,Aoz,mR];rw[qH hlen.symm (λk _=>by simp)]at h;exact h
end
theorem Adp(a:Int32):bR a=some (aW a):=by
 have h:=CJ a;have hc:(Ad a:UInt32)=UInt32.ofNat (a.toInt %4294967296).toNat:=rfl;have hs:(Bu a (GI.toZ (31:UInt64)).toNat)=if 0<=a.toInt then(0:Int32)else -1:=by
  have e:Bu a 31=Int32.ofInt (a.toInt.fdiv (2^31)):=rfl;rw[show(GI.toZ (31:UInt64)).toNat=31 from rfl,e];by_cases h0:0<=a.toInt
  ·rw[Abp h0,show a.toInt.fdiv (2^31)=0 by rw[Anh _ F4];omega];rfl
  ·rw[Abg h0,show a.toInt.fdiv (2^31)= -1 by rw[Anh _ F4];omega];rfl
 rw[bR,hs,hc,aW];congr 1;have hsh:(De (UInt32.ofNat (a.toInt %4294967296).toNat) (GI.toZ (1:UInt64)).toNat).toNat=2*(a.toInt %4294967296).toNat %4294967296:=by
  rw[show(GI.toZ (1:UInt64)).toNat=1 from rfl,pU,Aix,Ado (show(a.toInt %4294967296).toNat<2^32 by omega)];omega
 by_cases h0:0<=a.toInt
 ·rw[Abp h0,Abp h0,show(Ad (0:Int32):UInt32)=0 from rfl];apply UInt32.toNat_inj.1;rw[show∀z:UInt32,Ww z (0:UInt32)=z^^^0 from λz=>by rw[PT],Aqt,hsh,Aix,Ado (show 2*a.toInt.toNat<2^32 by omega)]
  show _^^^0=_;rw[Nat.xor_zero];omega
 ·rw[Abg h0,Abg h0,show(Ad (-1:Int32):UInt32)=4294967295 from rfl];apply UInt32.toNat_inj.1;rw[show∀z:UInt32,Ww z (4294967295:UInt32)=z^^^4294967295 from λz=>by rw[PT],Aqt,hsh,Aix,Ado (show 2*(-a.toInt-1).toNat+1<2^32 by omega)]
  show _^^^4294967295=_;have key:∀n:Nat,n<4294967296->n^^^4294967295=4294967295-n:=by
   intro n hn;have:=BitVec.toNat_not (x:=BitVec.ofNat 32 n);rw[<-BitVec.xor_allOnes,BitVec.toNat_xor,BitVec.toNat_ofNat,Ado F0]at this;simpa using this
  rw[key _ F0];omega
theorem Acq{bits:Int}(h:Ch bits){t p:LX}(hF:jo (sB bits) t p)(last x:Int32):
  Tg bits last (sB bits) t p x=some (fI bits (last,t,p) x,bits,x,sB bits,uU t p (fI bits (last,t,p) x),(x-gs (shB bits) last)::p.take 15,0):=by
 rw[Tg,je h,Aa,Abg Arn,Aki h,Aa];simp only;rw[QR,OE,Ad8 hF,Aa];simp only;rw[Abg Arn,QR,TF,Ad4 hF,Aa];simp only;rw[Af2 (s:=sB bits) (t:=uU t p _) (p:=p) ⟨hF.1,FN _ _ _,hF.2.2⟩,Aa,Aa];rfl
theorem Arz{p:Prop}(h:p:=by rw[Af,Ac,Ac];simp;omega):p:=h
theorem Asg{p:Prop}(h:p:=by rw[Af,Ac];simp):p:=h
theorem Asb{p:Prop}(h:p:=by rw[Cr];omega):p:=h
end Go.Pl
namespace Go.Pl
open Go Go.Lv
theorem KH(bits:Int)(ch:Nat)(t x:LX):(Eu bits ch t x).length=x.length:=D4 _ _ _ _ _
theorem K8{bits:Int}{ch:Nat}{t x:LX}{i:Nat}(h:i<x.length):(Eu bits ch t x).getD i 0=aW (fI bits (cst bits ch t (Eu bits ch t x) (i %ch) i) ((mx ch x).getD i 0)):=by
 obtain⟨w,hw⟩:=xg bits ch t (mx ch x) (x.length-(i+1)) (i+1);rw[show i+1+(x.length-(i+1))=x.length by omega,evl,Ams]at hw;have hli:=D4 bits ch t (mx ch x) i;have hw':Eu bits ch t x=_:=hw;have hg:(Eu bits ch t x).getD i 0=aW (fI bits (cst bits ch t (evl bits ch t (mx ch x) i) (i %ch) i) ((mx ch x).getD i 0)):=by
  rw[hw',List.getD_eq_getElem?_getD,List.getElem?_append_right F0,hli,Nat.sub_self];rfl
 have hc:cst bits ch t (Eu bits ch t x) (i %ch) i=cst bits ch t (evl bits ch t (mx ch x) i) (i %ch) i:=by rw[hw',Ahk _ _ _ _ _ _ _ F0]
 rw[hg,hc]
section
variable {bits:Int} {ch:Nat} {t x:LX} (hb:Ch bits) (ht:t.length=16) (h1:1<=ch) (h6:ch<=6) (hx1:1<=x.length) (hx4:x.length<=4000) (hm:x.length %ch=0)
include hb ht h1 h6 hx1 hx4 hm
omit ht in
theorem Ajy(hr:uf bits x):FD (ch:Int) bits x=some 0:=by
 rw[FD,Aea hb h1 h6,Aa,Abg F4,fU hb x hx4,lX hb hx4 hr,Aa,Abg F4,Abg (by rw[Bj,Ac,Ape];omega),Cf Ari,Aa,Ac,EF,hm,Abg F4]
omit hm in
theorem wK:∀(j i q:Nat),i+j=x.length->j<q->
  Je (mx ch x) (ch:Int) bits q (i:Int) (cts bits ch t (Eu bits ch t x) i) ((Eu bits ch t x).take i)=some (Eu bits ch t x,0)
 |j,i,0,_,h=>absurd h (Amk _)
 |0,i,q+1,hi,_=>by
  have hl:=HS ch x;have hV:=KH bits ch t x;rw[Je,Sn,Abg F3,Ai7 F0];rfl
 |j+1,i,q+1,hi,hq=>by
  have hl:=HS ch x;have hV:=KH bits ch t x;have hc:i %ch<6:=Als (Apc _ F0) h6;have hok:=jm bits ch ht (Eu bits ch t x) (i %ch) i;have hs:=Ahq (bits:=bits) (ch:=ch) (t:=t) (v:=Eu bits ch t x) (i:=i) hc rfl;have hg:=K8 (bits:=bits) (ch:=ch) (t:=t) (x:=x) (i:=i) F0;have ih:=wK j (i+1) q F0 F0;have htk:(Eu bits ch t x).take i++[(Eu bits ch t x).getD i 0]=(Eu bits ch t x).take (i+1):=by
   have:(Eu bits ch t x).getD i 0=(Eu bits ch t x)[i]' F0:=by rw[List.getD_eq_getElem?_getD,List.getElem?_eq_getElem F0];rfl
   rw[this,Jb F0]
  have hfw:=Acq hb hok (cst bits ch t (Eu bits ch t x) (i %ch) i).1 ((mx ch x).getD i 0);rw[Je,Sn,Abp F3,E4 F0,Aa,Aa,Cf Ari,Aa,EF,Ah6 hc,Aa,Aa];refine Aqc (congrArg (λo=>Option.bind o _) hfw) ?_;rw[Aa];simp only;rw[Abg F4];have hst:((bits,(mx ch x).getD i 0,(sB bits,uU (cst bits ch t (Eu bits ch t x) (i %ch) i).2.1 (cst bits ch t (Eu bits ch t x) (i %ch) i).2.2 (fI bits (cst bits ch t (Eu bits ch t x) (i %ch) i) ((mx ch x).getD i 0)),((mx ch x).getD i 0-gs (shB bits) (cst bits ch t (Eu bits ch t x) (i %ch) i).1)::(cst bits ch t (Eu bits ch t x) (i %ch) i).2.2.take 15,()),()):CL)=toC bits (nL bits (cst bits ch t (Eu bits ch t x) (i %ch) i) (qC ((Eu bits ch t x).getD i 0))):=by
   rw[hg,Adq,toC,nL,wE];simp only;rw[fI,NQ]
  refine Aqc (congrArg (λo=>Option.bind o _) ((congrArg (λz=>Ka (cts bits ch t (Eu bits ch t x) i) ((i %ch:Nat):Int) z) hst).trans hs)) ?_;rw[Aa,Adp,Aa];have hg2:aW (fI bits ((cst bits ch t (Eu bits ch t x) (i %ch) i).1,(cst bits ch t (Eu bits ch t x) (i %ch) i).2.1,(cst bits ch t (Eu bits ch t x) (i %ch) i).2.2) ((mx ch x).getD i 0))=(Eu bits ch t x).getD i 0:=hg.symm;rw[hg2,Az (by rw[Ahl];simp;omega),Aa,htk,Aj];exact ih
theorem Z8(hr:uf bits x):AV (ch:Int) bits t x=some (Eu bits ch t x,0):=by
 have hl:=HS ch x;have h:=wK hb ht h1 h6 hx1 hx4 x.length 0 Aq F0 F7;have e:Aq=(Aq-7)+1+1+1+1+1+1+1:=by have:=Ar;omega
 have hs:CZ (ch:Int) bits t (mx ch x) 0 (List.replicate 6 ((0:Int),(0:Int32),((0:Int),(List.replicate 16 (0:Int32)),(List.replicate 16 (0:Int32)),()),()))=MZ (ch:Int) bits (mx ch x) (cts bits ch t (Eu bits ch t x) 0):=by
  rw[CZ,e];obtain rfl|rfl|rfl:=hb<;>rfl
 rw[AV,AW,Ajy hb h1 h6 hx1 hx4 hm hr,Aa,Abg F4,Abd ch x h1 h6 hm hx4,Aa];simp only;rw[Abg F4];refine Aqc hs ?_;exact h
end
theorem Z3(ch:Nat):BS=some (sts ch []):=by
 have e:Aq=(Aq-7)+1+1+1+1+1+1+1:=by have:=Ar;omega
 rw[BS,AR,NU,e];rfl
theorem ZO(c:List Bool){n:Nat}(h:n<=c.length):Kt (Dr c) 0 n=Dr (c.take n):=by
 have hl:(c.take n).length=n:=by rw[Ahl];omega
 apply I8 (by rw[Ht,Qe,hl]);intro i hi;rw[qE,Aol,Vr,Vr];by_cases hlt:i<n
 ·rw[Abp hlt,tb,tb,List.getD_eq_getElem?_getD,List.getD_eq_getElem?_getD,List.getElem?_take,Abp hlt]
 ·rw[Abg hlt,Z1 F0]
theorem Ak4(a:UInt8){k:Nat}(hk:k<8):Eb (Bu a k) (1:UInt8)=UInt8.ofNat (a.toNat/2^k %2):=by
 apply UInt8.toNat_inj.1;rw[Af3,UInt8.toNat_and,D9,Al4]
 show _&&&1=_;rw[Nat.and_one_is_mod];generalize a.toNat/2^k=X;omega
theorem U4(E code:List Bool)(hE:E.length+code.length<=330000)(bk:Int->List (Int×Int×UInt64×UInt64×Unit)->Int->LB->Bg)(V:LU)(b f g:Int)(k:List (Int×Int×UInt64×UInt64×Unit)):∀(j o q:Nat),o+j=code.length->j<q->
  Fh bk V b f (code.length:Int) g k (Dr code) q (o:Int) ((E.length+o:Nat):Int) (Kt (Dr (E++code)) 0 (E.length+o))=bk (Ae g 1) k ((E.length+code.length:Nat):Int) (Dr (E++code))
 |j,o,0,_,h=>absurd h (Amk _)
 |0,o,q+1,ho,_=>by
  obtain rfl:o=code.length:=F0
  rw[Fh,Sp,Abg Arl,Yn,KR,ZO _ Arq,Ai7 Arq]
 |j+1,o,q+1,ho,hq=>by
  generalize hP:Dr (E++code)=P;have hPo:Gt P (E.length+o)=Gt (Dr code) o:=by rw[<-hP,Vr,Vr,yR]
  have ih:=U4 E code hE bk V b f g k j (o+1) q F0 F0;rw[hP,<-Am6]at ih;generalize hn:E.length+o=n at*
  have hq8:Ba (n:Int) 8=((n/8:Nat):Int):=by rw[show(8:Int)=((8:Nat):Int)from rfl,Qy]
  have hr8:Ed (n:Int) 8=((n %8:Nat):Int):=by rw[show(8:Int)=((8:Nat):Int)from rfl,EF]
  have hqo:Ba (o:Int) 8=((o/8:Nat):Int):=by rw[show(8:Int)=((8:Nat):Int)from rfl,Qy]
  have hro:Ed (o:Int) 8=((o %8:Nat):Int):=by rw[show(8:Int)=((8:Nat):Int)from rfl,EF]
  have hroom:Fh bk V b f (code.length:Int) g k (Dr code) (q+1) (o:Int) (n:Int) (Kt P 0 n)=Rm (Fh bk V b f (code.length:Int) g k (Dr code) q) (code.length:Int) V g b f k (Dr code) (o:Int) (n:Int) (room P 0 n):=by
   rw[Fh,Sp,Abp F9,hr8,room];by_cases h0:n %8=0
   ·rw[Abp (by rw[Bj,h0];rfl),Az Ar6,Aa,Abp h0]
   ·rw[Abg Arj,Abg h0]
  have hcl:=Qe code;have hgm:Ah (Dr code) ((o/8:Nat):Int)=some ((Dr code).getD (o/8) 0):=by
   rw[Cu,List.getD_eq_getElem?_getD,List.getElem?_eq_getElem F0];rfl
  have hg:Ah (room P 0 n) ((n/8:Nat):Int)=some (UInt8.ofNat (Cx P (0+8*(n/8)) (n %8))):=by
   rw[Cu Aru,RF]
  have hbit:Eb (Bu ((Dr code).getD (o/8) 0) (o %8)) (1:UInt8)=UInt8.ofNat (Gt P n):=by
   rw[Ak4 _ F0,hPo,Gt]
  have hlt:=kA P (0+8*(n/8)) (n %8+1) F0;have hsn:=QN P (0+8*(n/8)) (n %8);rw[show 0+8*(n/8)+n %8=n by omega]at hsn;have hnew:B0 (UInt8.ofNat (Cx P (0+8*(n/8)) (n %8))) (De (UInt8.ofNat (Gt P n)) (n %8))=UInt8.ofNat (Cx P (0+8*(n/8)) (n %8+1)):=by
   rw[or8 (FG _ _ _) (by rw[Ana];omega) F0,hsn,Ana (2^(n %8))]
  rw[hroom,Rm,KF,hqo,hro,hq8,hr8,hgm,Aa,Aa,Cf Arp,Aa,hg,Aa,Cf Arp,Aa,Aa,Aa,
   show(GI.toZ ((o %8:Nat):Int)).toNat=o %8 from rfl,show(GI.toZ ((n %8:Nat):Int)).toNat=n %8 from rfl,hbit,hnew,Wq _ Aru,Aa,jQ P 0 n 1 F0 F0,LA,MR,Aj,Aj]
  exact ih
theorem An6(l m:LB)(h:l.length+m.length<=1000000):Dn [l,m]=some (l++m):=by
 have hF:Aq=(Aq-3)+1+1+1:=by have:=Ar;omega
 rw[Dn,Mr,Uv];have g0:Ah [l,m] (0:Int)=some l:=rfl;have g1:Ah [l,m] (1:Int)=some m:=rfl;have l2:Ac [l,m]=2:=rfl;have h3:Er [l,m] []=some (l++m):=by
  rw[Er,Hn,Hm,hF,Bo,Cl,l2,Abp F4,g0,Aa,Az F6,Aa,Aoz,show Ae (0:Int) 1=1 by decide,
   Bo,Cl,l2,Abp F4,g1,Aa,Az,Aa,show Ae (1:Int) 1=2 by decide,Bo,Cl,l2,Abg F4]
  rfl
 rw[hF,Bt,Ct,l2,Abp F4,g0,Aa,Aj Art Art,Abg Asg,show Ae (0:Int) 1=1 by decide,
  Bt,Ct,l2,Abp F4,g1,Aa,Aj Art Art,Abg Arz,show Ae (1:Int) 1=2 by decide,
  Bt,Ct,l2,Abg F4,Es,Ho,Abg Arz,Lp,Hp]
 have z:Ag (0:Int) 0=0:=F4
 have n0:(0:Int)+Ac l+Ac m=((l.length+m.length:Nat):Int):=by simp[Ac]
 rw[z,n0,Du,Int.sub_zero];by_cases hp:0<l.length+m.length
 ·rw[Abp Arh,show pD (0:Int) 0 0=some ()from rfl,Aa,xF,Aa,Az F6,Aa];rw[show pD (Ac ([]++List.replicate ((l.length+m.length:Nat):Int).toNat (0:UInt8))) 0 0=some () by rw[pD,Cf];simp[Ac];omega,Aa];simp only[oI,Int.sub_self,Int.toNat_zero,Apj];exact h3
 ·rw[Abg Arh];exact h3
theorem T3(bits:Int)(ch:Nat)(h1:1<=ch)(h6:ch<=6)(V:LU)(hV:V.length<=4000):∀(j i q:Nat),i+j=V.length->j<q->
  Ha V (ch:Int) bits q (i:Int) (sts ch (V.take i)) ((Zv ch V i).length:Int) (Dr (Zv ch V i))=some (Dr (Zv ch V V.length)++Zw (Le (Dr (Zv ch V V.length))).toNat 4,0)
 |j,i,0,_,h=>absurd h (Amk _)
 |0,i,q+1,hi,_=>by
  obtain rfl:i=V.length:=F0
  have hel:=FU ch V V.length;have hpl:=Qe (Zv ch V V.length);have hlt:=(Le (Dr (Zv ch V V.length))).toNat_lt;rw[Ha,Ry,Abg Asg,Yh,MA,X8 _ F0,Aa];simp only;have e64:(UInt64.ofNat (Le (Dr (Zv ch V V.length))).toNat).toNat=(Le (Dr (Zv ch V V.length))).toNat:=Ug F0;rw[Abg F4,Db,show(4:Int)=((4:Nat):Int)from rfl,RS _ 4 F0 F0 (by rw[e64];omega),Aa];simp only;rw[Abg F4,e64,An6 _ _ Asb,Aa]
 |j+1,i,q+1,hi,hq=>by
  have hc:i %ch<6:=Als (Apc _ F0) h6;have hvl:(V.take i).length=i:=by rw[Ahl];omega
  have hel:=FU ch V i;have hk:=yB ch (V.take i);have hcl:=JR (V.getD i 0) hk.1 hk.2;have ih:=T3 bits ch h1 h6 V hV j (i+1) q F0 F0;have hvi:V.getD i 0=V[i]' F0:=by rw[List.getD_eq_getElem?_getD,List.getElem?_eq_getElem F0];rfl
  have htk:V.take i++[V.getD i 0]=V.take (i+1):=by rw[hvi,Jb F0]
  have hst:=Ag0 (ch:=ch) (v:=V.take i) hc;have hset:=Ah8 (ch:=ch) (v:=V.take i) (V.getD i 0) hc (by rw[hvl]);have Ao4:oE ch (V.take i) (i %ch) (V.take i).length=now ch (V.take i):=Aib (by rw[hvl]);rw[Ao4]at hst hset;rw[htk]at hset;have hdp:=Ae0 (k:=(now ch (V.take i)).1) (l:=(now ch (V.take i)).2.1) (s:=(now ch (V.take i)).2.2.1) (t:=(now ch (V.take i)).2.2.2) (sG ch (V.take i) _ _) (V.getD i 0);have hpc:=U4 (Zv ch V i) (Lc (now ch (V.take i)).1 (now ch (V.take i)).2.1 (V.getD i 0)) F0 (Ha V (ch:Int) bits q) V (ch:Int) bits (i:Int) (sts ch (V.take (i+1))) (Lc (now ch (V.take i)).1 (now ch (V.take i)).2.1 (V.getD i 0)).length 0 Aq F0 F7;rw[show(Zv ch V i).length+0=(Zv ch V i).length from rfl,ZO _ Arq,List.take_left,show((0:Nat):Int)=0 from rfl]at hpc;rw[Ha,Ry,Abp F3,jU F0,Aa,Aa,Cf Ari,Aa,EF,hst,Aa,Aa];refine Aqc (congrArg (λo=>Option.bind o _) hdp) ?_;rw[Aa];simp only;rw[Abg F4,Aa,Aa];refine Aqc (congrArg (λo=>Option.bind o _) hset) ?_;rw[Aa];refine Aqc hpc ?_;rw[Aj];rw[Zv,Abr]at ih;exact ih
theorem jH{bits:Int}{ch:Nat}{t x:LX}(hb:Ch bits)(ht:t.length=16)(h1:1<=ch)(h6:ch<=6)(hx1:1<=x.length)(hx4:x.length<=4000)(hm:x.length %ch=0)(hr:uf bits x):
  Vj (ch:Int) bits t x=some (AI bits ch t x,0):=by
 have hV:=KH bits ch t x;have h:=T3 bits ch h1 h6 (Eu bits ch t x) F0 (Eu bits ch t x).length 0 Aq F0 F7;have e0:Dr (Zv ch (Eu bits ch t x) 0)=[]:=by simp[Zv,Dr]
 have e1:((Zv ch (Eu bits ch t x) 0).length:Int)=0:=rfl;rw[e0,e1,Apj,hV,show((0:Nat):Int)=0 from rfl]at h;rw[Vj,AN,Z8 hb ht h1 h6 hx1 hx4 hm hr,Aa];simp only;rw[Abg F4,Z3 ch,Aa,AI,zX,JZ];exact h
theorem Arm{p:Prop}(h:p:=by rw[Af,Ac];simp only[Adz];omega):p:=h
theorem Ark{p:Prop}(h:p:=by rw[<-Aln];omega):p:=h
end Go.Pl
namespace Go.Pl
open Go Go.Lv
variable{p:LB}{a:LU}
def vA(f:Nat->Int32)(ch:Nat):LX:=(List.range ch).map λi=>E1 f ch i
theorem RA(f:Nat->Int32)(ch:Nat):(vA f ch).length=ch:=by simp[vA]
theorem pS(f:Nat->Int32){ch i:Nat}(h:i<ch):(vA f ch).getD i 0=E1 f ch i:=by
 rw[Mu (by rw[RA];exact h)];simp[vA]
theorem Y1(a b:Int32):Be (Ag (Ad a:Int) (Ba (Ad b:Int) (2:Int)))=some (a-Ba b (2:Int32)):=by
 have:=CJ a;have hb:=CJ b;have hd: -2147483648<=b.toInt.tdiv 2/\b.toInt.tdiv 2<=2147483648:=by
  rw[Int.tdiv_eq_ediv,show Int.sign 2=1 from rfl];by_cases h:0<=b.toInt\/2∣b.toInt
  ·rw[Abp h];omega
  ·rw[Abg h];omega
 have e:Ba b (2:Int32)=Int32.ofInt (b.toInt.tdiv 2):=rfl;rw[Fa,Fa,TO,Dh F0 F0,Du,pG,Int32.ofInt_sub,Ann,e]
theorem tY(seg:LX)(ch:Nat)(h1:1<=ch)(h6:ch<=6)(hs:seg.length=ch):∀(j i q:Nat),i+j=ch->j<q->
  Gm seg q (i:Int) ((vA (λi=>seg.getD i 0) ch).take i)=some (vA (λi=>seg.getD i 0) ch)
 |j,i,0,_,h=>absurd h (Amk _)
 |0,i,q+1,hi,_=>by
  have hlen:=RA (λi=>seg.getD i 0) ch;rw[Gm,Nb,Abg F3,Ai7 F0];rfl
 |j+1,i,q+1,hi,hq=>by
  have hlen:=RA (λi=>seg.getD i 0) ch;have hg:=pS (λi=>seg.getD i 0) (show i<ch by omega);have ih:=tY seg ch h1 h6 hs j (i+1) q F0 F0;rw[Jb F0,<-Mu F0,hg]at ih;have htl:((vA (λi=>seg.getD i 0) ch).take i).length=i:=by rw[Ahl];omega
  have e3:Ae (i:Int) 1=((i+1:Nat):Int):=by rw[Aj];omega
  have e1:Ag (Ac seg) 1=((ch-1:Nat):Int):=by rw[Ac,hs,Du];omega
  rw[Gm,Nb,Abp F3];by_cases hc:ch=1
  ·have hv:E1 (λi=>seg.getD i 0) ch i=seg.getD i 0:=by
    rw[E1,Abg F0,Abg F0,show ch-1=i by omega]
   have h0:Ah seg 0=some (seg.getD i 0):=by
    have:=E4 (l:=seg) (k:=i) F0;rw[show(i:Int)=0 by omega]at this;exact this
   rw[hv]at ih;rw[Abp (by rw[Bj,Ac,hs,hc];rfl),h0,Aa,Az (by rw[htl];simp;omega),Aa,e3];exact ih
  ·rw[Abg (by rw[Bj,Ac,hs];simp;omega),e1];by_cases hl:i+1<ch
   ·have hv:E1 (λi=>seg.getD i 0) ch i=seg.getD (i+1) 0-seg.getD i 0:=by rw[E1,Abp hl]
    rw[hv]at ih;rw[Abp F9,e3,E4 F0,Aa,E4 F0,Aa,tS,Aa,Az (by rw[htl];simp;omega),Aa];exact ih
   ·have hv:E1 (λi=>seg.getD i 0) ch i=seg.getD (ch-1) 0-Ba (seg.getD (ch-1) 0-seg.getD (ch-2) 0) (2:Int32):=by rw[E1,Abg hl,Abp F0]
    rw[hv]at ih;have e4:Ag (i:Int) 1=((i-1:Nat):Int):=by rw[Du];omega
    have hp:((vA (λi=>seg.getD i 0) ch).take i).getD (i-1) 0=seg.getD (ch-1) 0-seg.getD (ch-2) 0:=by
     rw[Mu F0,Aq5,<-Mu F0,pS _ F0,E1,Abp F0,show i-1+1=ch-1 by omega,show i-1=ch-2 by omega]
    rw[Abg F9,e4,E4 F0,Aa,E4 F0,Aa,Aa,hp,Y1,Aa,Az (by rw[htl];simp;omega),Aa,e3,show seg.getD i 0=seg.getD (ch-1) 0 by rw[show i=ch-1 by omega]];exact ih
theorem Ad3(seg:LX)(ch:Nat)(h1:1<=ch)(h6:ch<=6)(hs:seg.length=ch):Yf seg=some (vA (λi=>seg.getD i 0) ch):=
 tY seg ch h1 h6 hs ch 0 Aq F0 F7
theorem pR(ch:Nat)(m:LX)(h1:1<=ch)(h6:ch<=6)(hm:m.length %ch=0)(hl2:m.length<=4000):∀(j at' q:Nat),at' %ch=0->at'<=m.length->m.length-at'<=j->j<q->
  Kz (ch:Int) m q (at':Int) ((mx ch m).take at')=some (mx ch m,0)
 |j,at',0,_,_,_,h=>absurd h (Amk _)
 |j,at',q+1,ha,hle,hj,hq=>by
  have hlen:=HS ch m;rw[Kz,Wz];by_cases h:at'<m.length
  ·have hb:=O8 ha hm h;have e4:Ae (at':Int) (ch:Int)=((at'+ch:Nat):Int):=by rw[Aj];omega
   have hrest:=pR ch m h1 h6 hm hl2 (j-1) (at'+ch) q (by rw[Nat.add_mod_right,ha]) hb F0 F0;have hseg:((m.take (at'+ch)).drop at').length=ch:=by simp;omega
   have htl:((mx ch m).take at').length=at':=by simp[hlen];omega
   rw[Abp F3,e4,fF,Aa,show((at'+ch:Nat):Int).toNat=at'+ch from rfl,show(at':Int).toNat=at' from rfl,Ad3 _ ch h1 h6 hseg,Aa,Az (by rw[htl,RA];omega),Aa];have e:(mx ch m).take at'++vA (λi=>((m.take (at'+ch)).drop at').getD i 0) ch=(mx ch m).take (at'+ch):=by
    apply Ano (by rw[Abr,htl,RA,Ahl,hlen];omega);intro k k1 k2;rw[Ahl,hlen]at k2;rw[List.getElem_append,Aq5];by_cases hk:k<at'
    ·rw[dif_pos (by rw[htl];exact hk),Aq5]
    ·rw[dif_neg (by rw[htl];exact hk)];have hu:=GG ch m ha (show k-at'<ch by omega) F0;rw[show at'+(k-at')=k by omega,Mu F0]at hu;have hf:∀i,i<ch-> ((m.take (at'+ch)).drop at').getD i 0=m.getD (at'+i) 0:=by
      intro i hi;rw[Mu F0,Mu F0];simp
     have hx:E1 (λi=>((m.take (at'+ch)).drop at').getD i 0) ch (k-at')=E1 (λi=>m.getD (at'+i) 0) ch (k-at'):=by
      unfold E1;split
      ·simp only;rw[hf _ F0,hf _ F0]
      ·split
       ·simp only;rw[hf _ F0,hf _ F0]
       ·simp only;rw[hf _ F0]
     have hy:=pS (λi=>((m.take (at'+ch)).drop at').getD i 0) (show k-at'<ch by omega);rw[Mu (by rw[RA];omega)]at hy;rw[hu,<-hx,<-hy];congr 1;rw[htl]
   rw[e];exact hrest
  ·rw[Abg F3,Ai7 F0];rfl
theorem Ad2(ch:Nat)(m:LX)(h1:1<=ch)(h6:ch<=6)(hm:m.length %ch=0)(hl2:m.length<=4000):Vw (ch:Int) m=some (mx ch m,0):=by
 have h:=pR ch m h1 h6 hm hl2 m.length 0 Aq Ard F0 F0 F7;rw[Vw,Wd,Ahf ch m h1 h6 hm hl2,Aa,Abg Arn];exact h
theorem Aj1{s:Int}{t p:LX}(h:jo s t p)(x:Int32):Uk s t p x=some (x-gF s t p,s,uU t p (x-gF s t p),x::p.take 15):=by
 rw[Uk,Age h,Aa,tS,Aa,jh h,Aa];simp only;rw[Aa3 h.2.2,Aa]
theorem Akp{bits:Int}(h:Ch bits){t p:LX}(hF:jo (sB bits) t p)(last x:Int32):
  Od bits last (sB bits) t p x=some (fI bits (last,t,p) x,bits,x,sB bits,uU t p (fI bits (last,t,p) x),(x-gs (shB bits) last)::p.take 15):=by
 have hb:Lb bits last (sB bits) t p=some (Ad (gs (shB bits) last):Int):=by
  rw[Lb];obtain rfl|rfl|rfl:=h
  ·rw[Abp Ar8,lW 4 (.inl rfl),Aa];rfl
  ·rw[Abg Ar2,lW 5 (.inr rfl),Aa];rfl
  ·rw[Abg Ar2,lW 5 (.inr rfl),Aa];rfl
 rw[Od,hb,Aa,tS,Aa,Aj1 hF,Aa];rfl
theorem Af8(a:Int32):Uo a=some (aW a):=by
 have h:=CJ a;have e1:Jz a 0=decide (0<=a.toInt):=rfl;rw[Uo,aW];by_cases h0:0<=a.toInt
 ·have e2:Bf 2 (Ad a:UInt32)=UInt32.ofNat (2*a.toInt.toNat):=by
   have e3:(Ad a:UInt32)=UInt32.ofNat a.toInt.toNat:=by
    show UInt32.ofNat (a.toInt %4294967296).toNat=_;rw[Int.emod_eq_of_lt h0 F0]
   rw[e3,S4,UInt32.ofNat_mul];rfl
  rw[Abp (by rw[e1];simpa using h0),e2,Abp h0]
 ·have e2:Ag (Bf (-2:Int) (Ad a:Int)) 1=((2*(-a.toInt-1).toNat+1:Nat):Int):=by
   rw[Fa,Ia,Du];omega
  rw[Abg (by rw[e1];simpa using h0),e2,xK,Abg h0]
def MX(p:Nat->Bool)(a:LU):LU:=(List.range a.length).map λk=>if p k=true then a.getD k 0 else 0
theorem Xo(p:Nat->Bool)(a:LU):(MX p a).length=a.length:=by simp[MX]
theorem eW{p r:Nat->Bool}(h:∀k,k<a.length->p k=r k):MX p a=MX r a:=by
 apply Ano (by rw[Xo,Xo]);intro k h1 h2;rw[Xo]at h1;simp only[MX,Aps,Api,h k h1]
theorem Aeg{p:Nat->Bool}{i:Nat}(h:i<a.length):Ka (MX p a) (i:Int) (a.getD i 0)=some (MX (λk=>p k||decide (k=i)) a):=by
 rw[Wq _ (by rw[Xo];exact h)];congr 1;apply Ano (by rw[Ap9,Xo,Xo]);intro k h1 h2;rw[Aqf];simp only[MX,Aps,Api];by_cases hk:i=k
 ·subst hk;rw[Abp rfl,Abp Ard]
 ·rw[Abg hk];have:(p k||decide (k=i))=p k:=by rw[Alp (λe=>hk e.symm),Bool.or_false]
  rw[this]
theorem Aeh{p:Nat->Bool}(h:∀k,k<a.length->p k=true):MX p a=a:=by
 apply Ano (by rw[Xo]);intro k h1 h2;simp only[MX,Aps,Api];rw[Abp (h k h2),List.getD_eq_getElem?_getD,List.getElem?_eq_getElem h2];rfl
theorem Abb{p:Nat->Bool}(h:∀k,k<a.length->p k=false):MX p a=List.replicate a.length 0:=by
 apply Ano (by rw[Xo,Akm]);intro k h1 h2;rw[Xo]at h1;simp only[MX,Aps,Api,List.getElem_replicate];rw[Abg (by rw[h k h1];decide)]
def chan(ch c:Nat)(l:LX):LX:=(List.range (l.length/ch)).map λm=>l.getD (c+m*ch) 0
theorem iE(ch c:Nat)(l:LX):(chan ch c l).length=l.length/ch:=by simp[chan]
theorem Q1{ch c m:Nat}{l:LX}(h:m<l.length/ch):(chan ch c l).getD m 0=l.getD (c+m*ch) 0:=by
 rw[Mu (by rw[iE];exact h)];simp[chan]
theorem vo{ch c m n:Nat}(hc:c<ch)(h:m<n):c+m*ch<n*ch:=by
 have:(m+1)*ch<=n*ch:=Aeb ch h;rw[Aft,Anf]at this;omega
theorem Z9(ch c:Nat)(l:LX)(hc:c<ch)(h6:ch<=6)(hm:l.length %ch=0)(hl:l.length<=4000):Ny l (c:Int) (ch:Int)=some (chan ch c l):=by
 have hdm:l.length=l.length/ch*ch:=by have:=Aqa l.length ch;rw[Ana]at this;omega
 have hcl:=iE ch c l;have hN:l.length/ch<=l.length:=Am3 _ _;have loop:∀(j m q:Nat),m+j=l.length/ch->j<q->Ex l (ch:Int) q ((c+m*ch:Nat):Int) ((chan ch c l).take m)=some (chan ch c l):=by
  intro j
  induction j with
  |zero=>
   intro m q hi hq;obtain⟨q,rfl⟩:∃q',q=q'+1:=⟨q-1,F0⟩;rw[show m=l.length/ch by omega];rw[Ex,Kb,Abg Arm,Ai7 F0];rfl
  |succ j ih=>
   intro m q hi hq;obtain⟨q,rfl⟩:∃q',q=q'+1:=⟨q-1,F0⟩;have hin:=vo hc (show m<l.length/ch by omega);have hg:=Q1 (ch:=ch) (c:=c) (l:=l) (show m<l.length/ch by omega);have h2:=ih (m+1) q F0 F0;rw[Jb F0,<-Mu F0,hg]at h2;have e:Ae ((c+m*ch:Nat):Int) (ch:Int)=((c+(m+1)*ch:Nat):Int):=by
    rw[Aft,Anf];generalize m*ch=z at hin⊢;rw[Aj];omega
   rw[Ex,Kb,Abp Arm,E4 F0,Aa,Az F6,Aa,e];exact h2
 have h0:=loop (l.length/ch) 0 Aq F0 F7;rw[Aq0,Aph]at h0;rw[Ny,Qr];exact h0
section
variable {bits:Int} {ch:Nat} {t x:LX} (hb:Ch bits) (ht:t.length=16) (h1:1<=ch) (h6:ch<=6) (hx4:x.length<=4000) (hm:x.length %ch=0)
include hb ht h1 h6 hx4 hm
theorem nV(bk:Int->LU->Option LU)(c:Nat)(hc:c<ch):∀(j m q:Nat),m+j=x.length/ch->j<q->
  Fp bk (ch:Int) bits t (mx ch x) (c:Int) (chan ch c (mx ch x)) q (m:Int) (MX (λk=>decide (k %ch<c\/ (k %ch=c/\k<c+m*ch))) (Eu bits ch t x)) bits (cst bits ch t (Eu bits ch t x) c (c+m*ch)).1 (sB bits) (cst bits ch t (Eu bits ch t x) c (c+m*ch)).2.1 (cst bits ch t (Eu bits ch t x) c (c+m*ch)).2.2=
   bk ((c+1:Nat):Int) (MX (λk=>decide (k %ch<c+1)) (Eu bits ch t x))
 |j,m,0,_,h=>absurd h (Amk _)
 |0,m,q+1,hi,_=>by
  have hVl:=KH bits ch t x;have hml:=HS ch x;have hcl:=iE ch c (mx ch x);have hdm:x.length=x.length/ch*ch:=by have:=Aqa x.length ch;rw[Ana]at this;omega
  rw[hml]at hcl;rw[Fp,If,Abg Arm,Rt,AJ,Aj];have U8:MX (λk=>decide (k %ch<c\/ (k %ch=c/\k<c+m*ch))) (Eu bits ch t x)=MX (λk=>decide (k %ch<c+1)) (Eu bits ch t x):=by
   apply eW;intro k hk;rw[show m=x.length/ch by omega,<-hdm];rw[Alr];simp only[Adz];omega
  rw[U8];rfl
 |j+1,m,q+1,hi,hq=>by
  have hVl:=KH bits ch t x;have hml:=HS ch x;have hcl:=iE ch c (mx ch x);rw[hml]at hcl;have hdm:x.length=x.length/ch*ch:=by have:=Aqa x.length ch;rw[Ana]at this;omega
  have hin:=vo hc (show m<x.length/ch by omega);have hNd:x.length/ch<=x.length:=Am3 _ _;rw[<-hdm]at hin;have hg:=Q1 (ch:=ch) (c:=c) (l:=mx ch x) (m:=m) (by rw[hml];omega);have ih:=nV bk c hc j (m+1) q F0 F0;have hmul:(m+1)*ch=m*ch+ch:=by rw[Aft,Anf]
  have hmod:(c+m*ch) %ch=c:=by rw[Nat.add_mul_mod_self_right,Ado hc]
  rw[hmul,<-Am6]at ih;have hidx:Ae (c:Int) (Bf (m:Int) (ch:Int))=((c+m*ch:Nat):Int):=by
   rw[Ia Ark Ark,<-Aln,Aj];omega
  generalize hI:c+m*ch=i at*
  have hok:=jm bits ch ht (Eu bits ch t x) c i;have hV:=K8 (bits:=bits) (ch:=ch) (t:=t) (x:=x) (i:=i) F0;rw[hmod]at hV;have hst:=Akp hb hok (cst bits ch t (Eu bits ch t x) c i).1 ((mx ch x).getD i 0);have nS:cst bits ch t (Eu bits ch t x) c (i+ch)=nL bits (cst bits ch t (Eu bits ch t x) c i) (qC ((Eu bits ch t x).getD i 0)):=Ac9 ch c i _ _ hmod hc;rw[hV,Adq]at nS;have hset:=Aeg (p:=λk=>decide (k %ch<c\/ (k %ch=c/\k<i))) (a:=Eu bits ch t x) (i:=i) F0;have U8:MX (λk=>decide (k %ch<c\/ (k %ch=c/\k<i))||decide (k=i)) (Eu bits ch t x)=MX (λk=>decide (k %ch<c\/ (k %ch=c/\k<i+ch))) (Eu bits ch t x):=by
   apply eW;intro k _;rw[Alr];simp only[Anl,Adz];constructor
   ·rintro((h1|h1)|h1)
    ·exact .inl h1
    ·exact .inr ⟨h1.1,F0⟩
    ·subst h1;exact .inr ⟨hmod,F0⟩
   ·rintro(h1|⟨h1,h2⟩)
    ·exact .inl (.inl h1)
    ·by_cases h3:k<i
     ·exact .inl (.inr ⟨h1,h3⟩)
     ·refine .inr ?_;have h4:(i+(k-i)) %ch=i %ch:=by rw[show i+(k-i)=k by omega,h1,hmod]
      have h5:=Nat.sub_mod_eq_zero_of_mod_eq h4;rw[Apn,Ado F0]at h5;omega
  rw[U8]at hset;rw[nS]at ih;have hz:(nL bits (cst bits ch t (Eu bits ch t x) c i) (fI bits (cst bits ch t (Eu bits ch t x) c i) ((mx ch x).getD i 0)))=((mx ch x).getD i 0,uU (cst bits ch t (Eu bits ch t x) c i).2.1 (cst bits ch t (Eu bits ch t x) c i).2.2 (fI bits (cst bits ch t (Eu bits ch t x) c i) ((mx ch x).getD i 0)),((mx ch x).getD i 0-gs (shB bits) (cst bits ch t (Eu bits ch t x) c i).1)::(cst bits ch t (Eu bits ch t x) c i).2.2.take 15):=by
   rw[nL,wE,fI,NQ]
  rw[hz]at ih;obtain⟨y0,hy0⟩:∃y,Ah (MX (λk=>decide (k %ch<c\/ (k %ch=c/\k<i))) (Eu bits ch t x)) (i:Int)=some y:=⟨_,jU (by rw[Xo];omega)⟩;rw[Fp,If,Abp Arm,E4 F0,Aa,Aa,hg];refine Aqc (congrArg (λo=>Option.bind o _) hst) ?_;rw[Aa];simp only;rw[Rr,AG,Af8,Aa,hidx];refine Aqc (congrArg (λo=>Option.bind o _) hy0) ?_;rw[Aa];rw[hV]at hset;refine Aqc (congrArg (λo=>Option.bind o _) hset) ?_;rw[Aa,Aj];exact ih
theorem mV:∀(j c q:Nat),c+j=ch->j<q->
  Dz (ch:Int) bits t (mx ch x) q (c:Int) (MX (λk=>decide (k %ch<c)) (Eu bits ch t x))=some (Eu bits ch t x)
 |j,c,0,_,h=>absurd h (Amk _)
 |0,c,q+1,hc,_=>by
  rw[Dz,Lj,Abg F9,Aeh (λk hk=>by have:=Apc k (show 0<ch by omega);simp;omega)];rfl
 |j+1,c,q+1,hc,hq=>by
  have hml:=HS ch x;have ih:=mV j (c+1) q F0 F0;have hin:=nV hb ht h1 h6 hx4 hm (Dz (ch:Int) bits t (mx ch x) q) c F0 (x.length/ch) 0 Aq F0 (by have:=Ar;have:=Am3 x.length ch;omega);rw[Aq0,Aph]at hin;have h0:cst bits ch t (Eu bits ch t x) c c=(0,t,List.replicate 16 0):=xq ch c _ _ c (Ala _) F0;rw[h0]at hin;have U8:MX (λk=>decide (k %ch<c\/ (k %ch=c/\k<c))) (Eu bits ch t x)=MX (λk=>decide (k %ch<c)) (Eu bits ch t x):=by
   apply eW;intro k hk;have:=Aqw k ch;rw[Alr];simp only[Adz];omega
  rw[U8]at hin;rw[Dz,Lj,Abp F9,Amz hb,Aa];simp only;rw[Z9 ch c (mx ch x) F0 h6 (by rw[hml];exact hm) F0,Aa,Sa];exact Aqc hin ih
theorem za:Sd (ch:Int) bits t x=some (Eu bits ch t x):=by
 have hVl:=KH bits ch t x;have h:=mV hb ht h1 h6 hx4 hm ch 0 Aq F0 F7;rw[Abb (λk _=>by simp),hVl]at h;rw[Sd,Ua,Ad2 ch x h1 h6 hm hx4,Aa];simp only;rw[Ac,xF,Aa,Cf Asc,Aa,Ajg,AO];exact h
end
theorem G8{m:Nat}{b:Bool}{c:List Bool}(h:At p m (b::c))(hm:m<=400000):By (Kt p 0 m) (m:Int) (if b=true then 1 else 0)=some (Kt p 0 (m+1),((m+1:Nat):Int)):=by
 have h0:=h.cons.1;have:=pY p 0 m hm;rw[Aol,h0]at this;cases b<;>exact this
theorem gB{m n:Nat}(hm:m+n<=300000)(hn:n<=63):Ik (Kt p 0 m) (m:Int) (JE p m n) (n:Int)=some (Kt p 0 (m+n),((m+n:Nat):Int)):=by
 have loop:∀(j i q:Nat),i+j=n->j<q->Ft (n:Int) q (JE p (m+i) j) (i:Int) ((m+i:Nat):Int) (Kt p 0 (m+i))=some (Kt p 0 (m+n),((m+n:Nat):Int)):=by
  intro j
  induction j with
  |zero=>
   intro i q hi hq;obtain⟨q,rfl⟩:∃q',q=q'+1:=⟨q-1,F0⟩;obtain rfl:i=n:=F0
   rw[Ft,Ln,Abg Arl];rfl
  |succ j ih=>
   intro i q hi hq;obtain⟨q,rfl⟩:∃q',q=q'+1:=⟨q-1,F0⟩;have hg:(JE p (m+i) (j+1)).toNat=Gt p (m+i)+2*Cx p (m+i+1) j:=by rw[ML _ _ _ F0,Cx]
   have hlt:=RM p (m+i);have e1:(Ad (Te (JE p (m+i) (j+1)) (2:UInt64)):Int)=((Gt p (m+i):Nat):Int):=by
    have e:(Te (JE p (m+i) (j+1)) (2:UInt64)).toNat=Gt p (m+i):=by
     rw[YR,Aqe,hg];show _ %2=_;omega
    rw[mF (by rw[e];omega),e]
   have e2:Ba (JE p (m+i) (j+1)) (2:UInt64)=JE p (m+i+1) j:=by
    apply UInt64.toNat_inj.1;rw[RX,Ap1,hg,ML _ _ _ F0];show _/2=_;omega
   have ha:=pY p 0 (m+i) F0;rw[Aol]at ha;rw[Ft,Ln,Abp F9,e1,ha,Aa];simp only;rw[e2,Aj];exact ih (i+1) q F0 F0
 exact loop n 0 Aq F0 F7
theorem Akw{q i:Nat}(h:i<q):tb (List.replicate q true) i=1:=by
 rw[tb,Abp];rw[List.getD_eq_getElem?_getD,List.getElem?_eq_getElem (by simpa using h)];simp
theorem xC{m n:Nat}(hn:n<=48)(hm:m+48<=300000)(h:At p m (List.replicate n true++(if n=48 then []else [false]))):EG (Kt p 0 m) (m:Int) (n:Int)=some (Kt p 0 (m+min (n+1) 48),((m+min (n+1) 48:Nat):Int)):=by
 have loop:∀(j i q:Nat),i+j=n->j<q->Ii (n:Int) q (i:Int) ((m+i:Nat):Int) (Kt p 0 (m+i))=some (Kt p 0 (m+min (n+1) 48),((m+min (n+1) 48:Nat):Int)):=by
  intro j
  induction j with
  |zero=>
   intro i q hi hq;obtain⟨q,rfl⟩:∃q',q=q'+1:=⟨q-1,F0⟩;obtain rfl:i=n:=F0
   rw[Ii,Pd,Abg Arl,Xb,II];by_cases h48:i=48
   ·rw[Abg F9,show m+min (i+1) 48=m+i by omega]
   ·have h2:=h.right;rw[Abg h48,Akm]at h2;have ha:=G8 h2 F0;rw[Abg F4]at ha;rw[Abp F9,ha,Aa,show m+min (i+1) 48=m+i+1 by omega]
  |succ j ih=>
   intro i q hi hq;obtain⟨q,rfl⟩:∃q',q=q'+1:=⟨q-1,F0⟩;have hb:Gt p (m+i)=1:=by
    rw[h i (by rw[Abr,Akm];omega),qx (by rw[Akm];omega),Akw F0]
   have ha:=pY p 0 (m+i) F0;rw[Aol,hb]at ha;rw[Ii,Pd,Abp F9,show(1:Int)=((1:Nat):Int)from rfl,ha,Aa];simp only;rw[Aj];exact ih (i+1) q F0 F0
 exact loop n 0 Aq F0 F7
theorem Acy{m l:Nat}{v:UInt32}(hl:l<=24)(hm:m+81<=300000)(h:At p m (KN l v.toNat)):
  Jg (Kt p 0 m) (m:Int) v (l:Int)=some (Kt p 0 (m+(KN l v.toNat).length),((m+(KN l v.toNat).length:Nat):Int)):=by
 have hvl:=v.toNat_lt;have hpos:0<2^l:=Ap4 F0;rw[Jg,Agk v l hl,Aa];rw[KN]at h⊢;by_cases h48:48<=v.toNat/2^l
 ·rw[Abp h48]at h⊢;obtain⟨h1,h2⟩:=h.cat;rw[Akm]at h2;have hval:=EJ p 32 (m+48) v.toNat h2;rw[Ado F0]at hval;have hu:=xC (p:=p) (m:=m) (n:=48) (Ala _) F0 (by rw[Abp rfl,Al6];exact h1);rw[show min 48 (v.toNat/2^l)=48 by omega,hu,Aa];simp only;rw[Abp F4,Db,TG (x:=UInt64.ofNat v.toNat) (p:=p) (m:=m+48) (n:=32) F0 (by rw[Ug F0,hval]),show(32:Int)=((32:Nat):Int)from rfl,show m+min (48+1) 48=m+48 by omega,gB F0 F0,Aa,Abr,Akm,Px,Am6]
 ·rw[Abg h48]at h⊢;generalize hq:v.toNat/2^l=q at*
  obtain⟨h1,h2⟩:=h.cat;rw[Akm]at h2;obtain⟨h3,h4⟩:=h2.cons;have hval:=EJ p l (m+q+1) (v.toNat %2^l) h4;rw[Nat.mod_mod]at hval;have hqa:At p m (List.replicate q true++[false]):=by
   have:List.replicate q true++(false::PR (v.toNat %2^l) l)=(List.replicate q true++[false])++PR (v.toNat %2^l) l:=by simp
   rw[this]at h;exact h.left
  have hu:=xC (p:=p) (m:=m) (n:=q) F0 F0 (by rw[Abg F0];exact hqa);have hp2:=NF (show l<=63 by omega);have hrest:Te (Ad v:UInt64) (UInt64.ofNat (2^l))=JE p (m+q+1) l:=by
   apply TG F0;rw[YR,Aqe,hp2,Db,Ug F0,hval]
  rw[show min 48 q=q by omega,hu,Aa];simp only;rw[Abg Arj,RJ l F0,Aa,Cf (by rw[iN];simp only[Aq8,ne_eq,<-Aq7,hp2];simp),Aa,hrest,show m+min (q+1) 48=m+q+1 by omega,gB F0 F0,Aa,Abr,Akm,Ajc,Px,show m+q+1+l=m+(q+(l+1)) by omega]
theorem Adn{k l:Nat}{s t:UInt64}(hk:k<=24)(hl:l<=24)(v:UInt32):Fl [] 0 (k:Int) (l:Int) s t v=some (Dr (Lc k l v),((Lc k l v).length:Int)):=by
 have hvl:=v.toNat_lt;have hlen:=JR v hk hl;have hAt:At (Dr (Lc k l v)) 0 (Lc k l v):=λi _=>by rw[Aol,Vr]
 have hfin:Kt (Dr (Lc k l v)) 0 (Lc k l v).length=Dr (Lc k l v):=by rw[ZO _ (Ala _),Ap3]
 have h0:Kt (Dr (Lc k l v)) 0 0=[]:=rfl;have key:∀(p:LB),p=Dr (Lc k l v)->Fl (Kt p 0 0) ((0:Nat):Int) (k:Int) (l:Int) s t v=some (Kt p 0 (Lc k l v).length,((Lc k l v).length:Int)):=by
  intro p hp;rw[<-hp]at hAt;rw[Lc]at hAt⊢;rw[Fl,Pj,Adc k l s t hk v,Aa];by_cases hs:v.toNat<2^k
  ·rw[Abp hs]at hAt⊢;have ha:=G8 hAt F0;rw[Abg F4]at ha;obtain⟨_,hc⟩:=hAt.cons;have hval:=EJ p k (0+1) v.toNat hc;rw[Ado hs]at hval;rw[Abp (by simpa using hs),ha,Aa];simp only;rw[Db,TG (x:=UInt64.ofNat v.toNat) (p:=p) (m:=0+1) (n:=k) F0 (by rw[Ug F0,hval]),gB F0 F0,Aa,Ajc,Px,show 0+1+k=k+1 by omega]
  ·rw[Abg hs]at hAt⊢;have ha:=G8 hAt F0;rw[Abp rfl]at ha;obtain⟨_,hc⟩:=hAt.cons;have hleft:(NP k v).toNat=v.toNat-2^k:=by rw[NP,Aix];exact Ado (Ao3 (Nat.sub_le _ _) F0)
   rw[<-hleft]at hc;have hr:=Acy (v:=NP k v) hl F0 hc;rw[Abg (by simpa using hs),Wj,Pn,ha,Aa];simp only;rw[left_eq k l s t hk v hs,Aa,hr,Aa,hleft,Ajc,show 0+1+(KN l (v.toNat-2^k)).length=(KN l (v.toNat-2^k)).length+1 by omega]
 have:=key _ rfl;rw[hfin,h0]at this;exact this
def mA(ch:Nat)(V:LU):List DuL:=(List.range V.length).map λi=>toI (now ch (V.take i))
theorem uD(ch:Nat)(V:LU):(mA ch V).length=V.length:=by simp[mA]
theorem sA{ch:Nat}{V:LU}{i:Nat}(h:i<V.length):(mA ch V)[i]'(by rw[uD];exact h)=toI (now ch (V.take i)):=by simp[mA]
theorem Abc(ch:Nat)(h1:1<=ch)(h6:ch<=6)(V:LU)(hV:V.length<=4000):Pf (ch:Int) V=some (mA ch V):=by
 have hlen:=uD ch V;have loop:∀(j i q:Nat),i+j=V.length->j<q->Fs (ch:Int) V q (i:Int) ((mA ch V).take i)=some (mA ch V):=by
  intro j
  induction j with
  |zero=>
   intro i q hi hq;obtain⟨q,rfl⟩:∃q',q=q'+1:=⟨q-1,F0⟩;rw[Fs,Lo,Abg F3,Ai7 F0];rfl
  |succ j ih=>
   intro i q hi hq;obtain⟨q,rfl⟩:∃q',q=q'+1:=⟨q-1,F0⟩;have hg:=sA (ch:=ch) (V:=V) (i:=i) F0;have h2:=ih (i+1) q F0 F0;rw[Jb F0,hg]at h2;have htl:((mA ch V).take i).length=i:=by rw[Ahl];omega
   have hVi:(V.take i).length=i:=by rw[Ahl];omega
   rw[Fs,Lo,Abp F3];by_cases hc:i<ch
   ·have hn:now ch (V.take i)=D8:=by
     rw[now,hVi,Ado hc];exact ni ch _ i i (Ala _) hc
    rw[hn]at h2;rw[Abp F9,Mi,Aa];simp only;rw[Az (by rw[htl];simp;omega),Aa,Aj];exact h2
   ·have e1:Ag (i:Int) (ch:Int)=((i-ch:Nat):Int):=by rw[Du];omega
    have hVj:(V.take (i-ch)).length=i-ch:=by rw[Ahl];omega
    have hga:Ah ((mA ch V).take i) ((i-ch:Nat):Int)=some (toI (now ch (V.take (i-ch)))):=by
     rw[Cu,Aq5,sA F0]
    have hsplit:V.take i=V.take (i-ch)++(V.drop (i-ch)).take ch:=by
     rw[<-List.take_add,show i-ch+ch=i by omega]
    have hmod:(i-ch) %ch=i %ch:=by rw[<-Nat.add_mod_right (i-ch) ch,show i-ch+ch=i by omega]
    have hgd:(V.take i).getD (i-ch) 0=V.getD (i-ch) 0:=by
     rw[List.getD_eq_getElem?_getD,List.getD_eq_getElem?_getD,List.getElem?_take,Abp F0]
    have hn:now ch (V.take i)=nxt (now ch (V.take (i-ch))) (V.getD (i-ch) 0):=by
     have hst:=Adx ch (V.take i) (i %ch) (i-ch) hmod (Apc _ F0);rw[show i-ch+ch=i by omega,hgd]at hst;have hap:oE ch (V.take i) (i %ch) (i-ch)=oE ch (V.take (i-ch)) (i %ch) (i-ch):=by
      rw[hsplit];exact D6 ch _ _ _ _ F0
     rw[now,now,hVi,hVj,hst,hap,hmod]
    rw[hn]at h2;have hle:=Aa8 (sG ch (V.take (i-ch)) ((V.take (i-ch)).length %ch) (V.take (i-ch)).length) (V.getD (i-ch) 0);rw[Abg F9,e1,hga,Aa,jU F0,Aa,Aa];refine Aqc (congrArg (λo=>Option.bind o _) hle) ?_;rw[Aa];simp only;rw[Az (by rw[htl];simp;omega),Aa,Aj];exact h2
 rw[Pf,So];exact loop V.length 0 Aq F0 F7
theorem shZ{k:Nat}(hk:k<64):(GI.toZ (Ad (k:Int):UInt64)).toNat=k:=by
 rw[FA,Ki,Ajg,Ug F0]
theorem Anx{k:Nat}(hk:k<8):De (1:UInt8) k=UInt8.ofNat (2^k):=by
 have:∀k,k<8->De (1:UInt8) k=UInt8.ofNat (2^k):=F4
 exact this k hk
theorem Aob(a:UInt8)(k:Nat):geq (Te (Bu a k) (2:UInt8)) (1:UInt8)=decide (a.toNat/2^k %2=1):=by
 rw[sD,um,Alr];simp only[Ape,<-UInt8.toNat_inj,UInt8.toNat_mod,Adz,D9];rfl
theorem wZ(E code:List Bool)(hE:E.length+code.length<=330000)(bk:Int->Int->LB->Option LB)(V:LU)(B:List DuL)(a:Int):∀(j o q:Nat),o+j=code.length->j<q->
  Dc bk V B a (code.length:Int) (Dr code) q ((E.length+o:Nat):Int) (o:Int) (Kt (Dr (E++code)) 0 (E.length+o))=bk ((E.length+code.length:Nat):Int) (Ae a 1) (Dr (E++code))
 |j,o,0,_,h=>absurd h (Amk _)
 |0,o,q+1,ho,_=>by
  obtain rfl:o=code.length:=F0
  rw[Dc,Ll,Abg Arl,Rj,BL,ZO _ Arq,Ai7 Arq]
 |j+1,o,q+1,ho,hq=>by
  generalize hP:Dr (E++code)=P;have hPo:Gt P (E.length+o)=Gt (Dr code) o:=by rw[<-hP,Vr,Vr,yR]
  have ih:=wZ E code hE bk V B a j (o+1) q F0 F0;rw[hP,<-Am6]at ih;generalize hn:E.length+o=n at*
  have hq8:Ba (n:Int) 8=((n/8:Nat):Int):=by rw[show(8:Int)=((8:Nat):Int)from rfl,Qy]
  have hr8:Ed (n:Int) 8=((n %8:Nat):Int):=by rw[show(8:Int)=((8:Nat):Int)from rfl,EF]
  have hqo:Ba (o:Int) 8=((o/8:Nat):Int):=by rw[show(8:Int)=((8:Nat):Int)from rfl,Qy]
  have hro:Ed (o:Int) 8=((o %8:Nat):Int):=by rw[show(8:Int)=((8:Nat):Int)from rfl,EF]
  have hroom:Dc bk V B a (code.length:Int) (Dr code) (q+1) (n:Int) (o:Int) (Kt P 0 n)=Lk (Dc bk V B a (code.length:Int) (Dr code) q) V a B (code.length:Int) (Dr code) (n:Int) (o:Int) (room P 0 n):=by
   rw[Dc,Ll,Abp F9,hr8,room];by_cases h0:n %8=0
   ·rw[Abp (by rw[Bj,h0];rfl),Az Ar6,Aa,Abp h0]
   ·rw[Abg Arj,Abg h0]
  have hcl:=Qe code;have hgm:Ah (Dr code) ((o/8:Nat):Int)=some ((Dr code).getD (o/8) 0):=by
   rw[Cu,List.getD_eq_getElem?_getD,List.getElem?_eq_getElem F0];rfl
  have hg:Ah (room P 0 n) ((n/8:Nat):Int)=some (UInt8.ofNat (Cx P (0+8*(n/8)) (n %8))):=by
   rw[Cu Aru,RF]
  have hlt:=kA P (0+8*(n/8)) (n %8+1) F0;have hsn:=QN P (0+8*(n/8)) (n %8);rw[show 0+8*(n/8)+n %8=n by omega]at hsn;have hrs:=jQ P 0 n 1 F0 F0;have hbit:geq (Te (Bu ((Dr code).getD (o/8) 0) (o %8)) (2:UInt8)) (1:UInt8)=decide (Gt P n=1):=by
   rw[Aob,hPo,Gt]
  rw[hroom,Lk,AX,hqo,hro,hq8,hr8,hgm,Aa,Aa,shZ F0,shZ F0,hbit];have hbl:=RM P n;by_cases hone:Gt P n=1
  ·have hnew:Ae (UInt8.ofNat (Cx P (0+8*(n/8)) (n %8))) (De (1:UInt8) (n %8))=UInt8.ofNat (Cx P (0+8*(n/8)) (n %8+1)):=by
    rw[Anx F0,wo,hsn,hone,Nat.mul_one,UInt8.ofNat_add]
   rw[Abp (by simpa using hone),hg,Aa,Aa,Aa,hnew,Wq _ Aru,Aa,hrs,Aj,Aj];exact ih
  ·have hz:Gt P n=0:=F0
   have hsn:Cx P (0+8*(n/8)) (n %8+1)=Cx P (0+8*(n/8)) (n %8):=by rw[hsn,hz];simp
   have hsame:room P 0 n=Kt P 0 (n+1):=by
    rw[<-hrs,hsn,<-RF,List.set_getElem_self]
   rw[Abg (by simpa using hone),hsame,Aj,Aj];exact ih
theorem mK(ch:Nat)(h1:1<=ch)(h6:ch<=6)(V:LU)(hV:V.length<=4000):∀(j i q:Nat),i+j=V.length->j<q->
  Dv V (mA ch V) q ((Zv ch V i).length:Int) (i:Int) (Dr (Zv ch V i))=some (Dr (Zv ch V V.length)++Zw (Le (Dr (Zv ch V V.length))).toNat 4)
 |j,i,0,_,h=>absurd h (Amk _)
 |0,i,q+1,hi,_=>by
  obtain rfl:i=V.length:=F0
  have hel:=FU ch V V.length;have hpl:=Qe (Zv ch V V.length);rw[Dv,Hz,Abg Asg,Ro,CC,Aax _ F0,Aa]
 |j+1,i,q+1,hi,hq=>by
  have hlen:=uD ch V;have hno:=yB ch (V.take i);have hdl:=JR (V.getD i 0) hno.1 hno.2;have hel:=FU ch V i;have ih:=mK ch h1 h6 V hV j (i+1) q F0 F0;have hgs:Ah (mA ch V) (i:Int)=some (toI (now ch (V.take i))):=by rw[Cu,sA F0]
  have hda:=Adn (s:=(now ch (V.take i)).2.2.1) (t:=(now ch (V.take i)).2.2.2) hno.1 hno.2 (V.getD i 0);have hpc:=wZ (Zv ch V i) (Lc (now ch (V.take i)).1 (now ch (V.take i)).2.1 (V.getD i 0)) F0 (Dv V (mA ch V) q) V (mA ch V) (i:Int) (Lc (now ch (V.take i)).1 (now ch (V.take i)).2.1 (V.getD i 0)).length 0 Aq F0 F7;rw[Aph,ZO _ Arq,List.take_left]at hpc;rw[Dv,Hz,Abp F3];refine Aqc (congrArg (λo=>Option.bind o _) hgs) ?_;rw[Aa,jU F0,Aa];refine Aqc (congrArg (λo=>Option.bind o _) hgs) ?_;rw[Aa];refine Aqc (congrArg (λo=>Option.bind o _) hda) ?_;rw[Aa];simp only;rw[AM,Sr,Rw];refine Aqc hpc ?_;rw[Aj];rw[Zv,Abr]at ih;exact ih
theorem rX{bits:Int}{ch:Nat}{t x:LX}(hb:Ch bits)(ht:t.length=16)(h1:1<=ch)(h6:ch<=6)(hx1:1<=x.length)(hx4:x.length<=4000)(hm:x.length %ch=0)(hr:uf bits x):Ld (ch:Int) bits t x=some (AI bits ch t x,0):=by
 have hVl:=KH bits ch t x;have hh:=TH bits;have hck:Ca (ch:Int) bits=some 0:=by
  rw[Ca,Abg Are,rQ hb,Aa,Abg Arj]
 have kr:Mp (ch:Int) bits x=some 0:=by
  rw[Mp,hck,Aa,Abg F4,lX hb hx4 hr,Aa,Abg F4,Abg F3,Cf Ari,Aa,Ac,EF,hm,Abg F4]
 have hlp:=mK ch h1 h6 (Eu bits ch t x) F0 x.length 0 Aq F0 F7;rw[Ld,kr,Aa,Abg F4,za hb ht h1 h6 hx4 hm,Aa,Ye,Tr,Abc ch h1 h6 _ F0,Aa,BZ];have e1:Dr []=[]:=rfl;rw[show Zv ch (Eu bits ch t x) 0=[]from rfl,e1,List.length_nil,show((0:Nat):Int)=0 from rfl]at hlp;rw[hlp];rw[Aa,AI,zX,hVl]
theorem V4{r:Nat}(h1:1<=r)(h:r<=1048576):Da (r:Int)=some ((Ak r:Int),0):=by
 have hv:=tI h;have e:Bf (r:Int) 256=Bf 256 (r:Int):=by rw[Ia,Ia];omega
 rw[Da,Abg Are,e];have hq:0<=Ba (Bf 256 (r:Int)) 245:=by
  have e2:Bf 256 (r:Int)=((256*r:Nat):Int):=by rw[Ia];omega
  rw[e2,show(245:Int)=((245:Nat):Int)from rfl,Qy];omega
 rw[C9]at hv;by_cases hz:Ba (Bf 256 (r:Int)) 245=0
 ·rw[Abp (by rw[Bj];simpa using hz)];rw[hz]at hv;have:(1:Int)=(Ak r:Int):=F0
  rw[this]
 ·rw[Abg (by rw[Bj];simpa using hz)];have:Ba (Bf 256 (r:Int)) 245=(Ak r:Int):=F0
  rw[this]
theorem Ar4{p:Prop}(h:p:=by rw[Bj,Ape];omega):p:=h
end Go.Pl
namespace Go.Pl
open Go Go.Lv
variable{x:LX}{c w r n:Nat}{p:Prop}
structure ClipOk (c w r n:Nat) (x:LX):Prop where
 ch:1<=c/\c<=6
 bits:Ch (w:Int)
 rate:1<=r/\r<=1048576
 cnt:1<=n/\n<=4000/c
 len:x.length=n*c
 fr:(n-1)/Ak r+1<=1000
 rng:uf (w:Int) x
theorem ClipOk.le(h:ClipOk c w r n x):n<=4000/\n*c<=4000/\1<=x.length/\x.length<=4000:=by
 have h1:=Aeb c h.cnt.2;have h2:=Nat.div_mul_le_self 4000 c;have h3:=Am3 4000 c;have h4:=Aq3 h.cnt.1 h.ch.1;have h5:=h.len;have:=h.cnt;omega
theorem ClipOk.w3(h:ClipOk c w r n x):w=8\/w=16\/w=24:=by
 have:=h.bits;unfold Ch at this;omega
theorem ClipOk.shape(h:ClipOk c w r n x)(f:Nat)(hf:f=1\/f=2):Tl f c w r n=true:=by
 have:=h.w3;have:=h.ch;have:=h.rate;have:=h.cnt;simp only[Tl,Adz];omega
theorem ClipOk.fit(h:ClipOk c w r n x):kW c r n=true:=by
 have:=h.cnt;have:=h.fr;simp only[kW,Adz];omega
theorem Adt{bits:Int}(h:¬Ch bits):Dt bits=some 0/\Lw bits=some (0,0,2):=by
 unfold Ch at h;constructor
 ·rw[Dt,Abg Ar4,Abg Ar4,Abg Ar4]
 ·have e:(geq bits 24)=false:=by rw[Bj,beq_eq_false_iff_ne];omega
  rw[Lw,LH,Abg Ar4,Abg Ar4,e,MO,KJ,Abg F4]
theorem Ar3(h:p:=by rw[Amr];omega):p:=h
theorem Asd(h:p:=by simp[Cr,BR]):p:=h
end Go.Pl
namespace Go.Pl
open Go Go.Lv
def uP(f c w r n:Nat):LB:=BR++Zw f 2++Zw c 2++Zw w 2++Zw r 4++Zw n 4
def B5(f c w r n:Nat):LB:=uP f c w r n++Zw (Le (uP f c w r n)).toNat 4
theorem aF(f c w r n:Nat):(uP f c w r n).length=18:=by simp only[uP,BR,Abr,Cr];rfl
theorem jX(f c w r n:Nat):(B5 f c w r n).length=22:=by rw[B5,Abr,aF,Cr]
theorem nS(b f g h k:Int)(m v w q:Nat)(a:LB)(hm:m<5)(hv:Ah ([b,f,g,h,k]:LI) (m:Int)=some (v:Int))(hw:Ah ([2,2,2,4,4]:LI) (m:Int)=some (w:Int))(h1:1<=w)(h8:w<=8)(hlt:v<256^w)(h64:v<18446744073709551616)(ha:a.length<=100):
  Kn b f g h k (q+1) (m:Int) a=Kn b f g h k q ((m+1:Nat):Int) (a++Zw v w):=by
 have e64:(UInt64.ofNat v).toNat=v:=Ug F0;have hi1:Ae (m:Int) 1=((m+1:Nat):Int):=by rw[Aj];omega
 rw[Kn,Xy,Abp F9,hv,Aa,hw,Aa,FA,RS _ w h1 h8 (by rw[e64];exact hlt),Aa];simp only;rw[Az Asb,Aa,hi1,e64]
theorem D5{f c w r n:Nat}(h1:Tl f c w r n=true)(h2:kW c r n=true):JN (f:Int) (c:Int) (w:Int) (r:Int) (n:Int)=some (B5 f c w r n,0):=by
 have hs:(f=1\/f=2)/\ (1<=c/\c<=6)/\ (w=8\/w=16\/w=24)/\ (1<=r/\r<=1048576)/\1<=n:=by simpa only[Tl,Adz]using h1
 have hn:n<=4000:=by
  simp only[kW,Adz]at h2;have:=Am3 4000 c;omega
 have hck:JD (f:Int) (c:Int) (w:Int) (r:Int) (n:Int)=some 0:=by
  rw[JD,J2,Aa,h1,Abg F4,Aae h1,Aa,h2,Abg F4]
 have hF:Aq=(Aq-6)+1+1+1+1+1+1:=by have:=Ar;omega
 have hlt:=(Le (uP f c w r n)).toNat_lt;have e64:(UInt64.ofNat (Le (uP f c w r n)).toNat).toNat=(Le (uP f c w r n)).toNat:=Ug F0;have hfin:Ya (uP f c w r n)=some (B5 f c w r n,0):=by
  rw[Ya,VP,X8 _ (by rw[aF];omega),Aa];simp only;rw[Db,show(4:Int)=((4:Nat):Int)from rfl,RS _ 4 F0 F0 (by rw[e64];omega),Aa];simp only;rw[Az (by rw[aF,Cr];omega),Aa,e64];rfl
 rw[JN,ID,hck,Aa,Abg F4,VV,hF];have s0:=nS (f:Int) (c:Int) (w:Int) (r:Int) (n:Int) 0 f 2 ((Aq-6)+1+1+1+1+1) BR F0 rfl rfl F0 F0 F0 F0 F4;have s1:=nS (f:Int) (c:Int) (w:Int) (r:Int) (n:Int) 1 c 2 ((Aq-6)+1+1+1+1) (BR++Zw f 2) F0 rfl rfl F0 F0 F0 F0 Asd;have s2:=nS (f:Int) (c:Int) (w:Int) (r:Int) (n:Int) 2 w 2 ((Aq-6)+1+1+1) (BR++Zw f 2++Zw c 2) F0 rfl rfl F0 F0 F0 F0 Asd;have s3:=nS (f:Int) (c:Int) (w:Int) (r:Int) (n:Int) 3 r 4 ((Aq-6)+1+1) (BR++Zw f 2++Zw c 2++Zw w 2) F0 rfl rfl F0 F0 F0 F0 Asd;have s4:=nS (f:Int) (c:Int) (w:Int) (r:Int) (n:Int) 4 n 4 ((Aq-6)+1) (BR++Zw f 2++Zw c 2++Zw w 2++Zw r 4) F0 rfl rfl F0 F0 F0 F0 Asd;refine s0.trans (s1.trans (s2.trans (s3.trans (s4.trans ?_))));rw[Kn,Xy,Abg F4];exact hfin
def hH(l:LI):LB:=l.flatMap λx=>Zw x.toNat 4
def N3(l:LI):LB:=hH l++Zw (Le (hH l)).toNat 4
theorem JV(l:LI):(hH l).length=4*l.length:=by
 induction l with
 |nil=>rfl
 |cons x l ih=>rw[hH,List.flatMap_cons,Abr,Cr,show(l.flatMap λx=>Zw x.toNat 4)=hH l from rfl,ih,Ajc];omega
theorem tN(l:LI):(N3 l).length=4*l.length+4:=by rw[N3,Abr,JV,Cr]
theorem wF(l:LI)(x:Int):hH (l++[x])=hH l++Zw x.toNat 4:=by simp[hH]
theorem nO(l:LI)(hl:l.length<=1000)(h5:∀x∈l,5<=x/\x<=100000):∀(j i q:Nat),i+j=l.length->j<q->Ps l q (i:Int) (hH (l.take i))=some (N3 l,0)
 |j,i,0,_,h=>absurd h (Amk _)
 |0,i,q+1,hi,_=>by
  have hlt:=(Le (hH l)).toNat_lt;have e64:(UInt64.ofNat (Le (hH l)).toNat).toNat=(Le (hH l)).toNat:=Ug F0;rw[Ps,CT,Abg F3,Ai7 F0,HT,VQ,X8 _ (by rw[JV];omega),Aa];simp only;rw[Db,show(4:Int)=((4:Nat):Int)from rfl,RS _ 4 F0 F0 (by rw[e64];omega),Aa];simp only;rw[Az (by rw[JV,Cr];omega),Aa,e64];rfl
 |j+1,i,q+1,hi,hq=>by
  have ih:=nO l hl h5 j (i+1) q F0 F0;obtain⟨x5,x6⟩:=h5 l[i] (Ap2 _);obtain⟨v,hv⟩:=Aig (show 0<=l[i] by omega);have e64:(UInt64.ofNat v).toNat=v:=Ug F0;have hi1:Ae (i:Int) 1=((i+1:Nat):Int):=by rw[Aj];omega
  rw[Ps,CT,Abp F3,Cu,Aa,hv,FA,show(4:Int)=((4:Nat):Int)from rfl,RS _ 4 F0 F0 (by rw[e64];omega),Aa];simp only;rw[Az (by rw[JV,Cr,Ahl];omega),Aa,HW,VX,hi1,e64];rw[Jb F0,wF,hv,Ajg]at ih;exact ih
theorem U1(l:LI):HL l=some (if tP l=true then(N3 l,0)else([],8)):=by
 rw[HL,KO,pT,Aa];by_cases h:tP l=true
 ·rw[Abp h,Abp h,Abg F4];simp only[tP,Abs,Adz]at h;obtain⟨⟨h1,h2⟩,h3⟩:=h;have h4:=(pF l 100000 F0).1 h3;have h6:=V8 h4.1;have hl:=nO l h2 (λx hx=>⟨h4.1 x hx,by have:=h6 x hx;omega⟩) l.length 0 Aq F0 F7;exact hl
 ·rw[Abg h,Abg h,Abp F4]
def Gb(c:Nat):LX->LI->List LX
 |_,[]=>[]
 |x,m::l=>x.take (m.toNat*c)::Gb c (x.drop (m.toNat*c)) l
theorem VC(c:Nat):∀(l:LI) (x:LX),(Gb c x l).length=l.length
 |[],x=>rfl
 |m::l,x=>by rw[Gb,Ajc,Ajc,VC c l]
theorem nD(c:Nat):∀(l:LI) (x:LX),(∀m∈l,0<=m)->x.length=l.sum.toNat*c-> (Gb c x l).flatten=x
 |[],x,_,h=>by
  have:x=[]:=Anp (by simpa using h);rw[this];rfl
 |m::l,x,h0,h=>by
  have hm:=h0 m Am5;have hl:0<=l.sum:=by
   have:∀l:LI,(∀m∈l,0<=m)->0<=l.sum:=by
    intro l
    induction l with
    |nil=>intro _;simp
    |cons a l ih=>intro h;have:=ih (λm hm=>h m (Ajv _ hm));have:=h a Am5;rw[Aog];omega
   exact this l λm hm=>h0 m (Ajv _ hm)
  rw[Aog,show(m+l.sum).toNat=m.toNat+l.sum.toNat by omega,Aft]at h;have ih:=nD c l (x.drop (m.toNat*c)) (λm hm=>h0 m (Ajv _ hm)) Ar3;rw[Gb,Ap7,ih,Aqi]
theorem eT(c:Nat)(h1:1<=c):∀(l:LI) (x:LX),(∀m∈l,1<=m)->x.length=l.sum.toNat*c->∀y∈Gb c x l,1<=y.length/\y.length<=x.length/\y.length %c=0/\∀v∈y,v∈x
 |[],x,_,_=>λy hy=>by simp[Gb]at hy
 |m::l,x,hm,hx=>by
  have hm1:=hm m Am5;have hl:0<=l.sum:=by
   have:∀l:LI,(∀m∈l,1<=m)->0<=l.sum:=by
    intro l
    induction l with
    |nil=>intro _;simp
    |cons a l ih=>intro h;have:=ih (λm hm=>h m (Ajv _ hm));have:=h a Am5;rw[Aog];omega
   exact this l λm hm'=>hm m (Ajv _ hm')
  rw[Aog,show(m+l.sum).toNat=m.toNat+l.sum.toNat by omega,Aft]at hx;have hpos:1<=m.toNat*c:=Aq3 F0 h1;intro y hy;rw[Gb,List.mem_cons]at hy;rcases hy with rfl|hy
  ·have hlen:(x.take (m.toNat*c)).length=m.toNat*c:=by rw[Ahl];omega
   rw[hlen];exact⟨hpos,F0,An1 _ _,λv hv=>List.mem_of_mem_take hv⟩
  ·obtain⟨a1,a2,a3,a4⟩:=eT c h1 l (x.drop (m.toNat*c)) (λm hm'=>hm m (Ajv _ hm')) Ar3 y hy;rw[Amr]at a2;exact⟨a1,F0,a3,λv hv=>Apq (a4 v hv)⟩
theorem qT(bits:Int)(ch:Nat)(t x:LX)(h0:1<=x.length)(h4:x.length<=4000):5<= (AI bits ch t x).length/\ (AI bits ch t x).length<=15*x.length:=by
 have h5:=M6 bits ch t x h0 h4;have h:=FU ch (Eu bits ch t x) x.length;refine⟨h5.1,?_⟩;rw[AI,Abr,Cr,zX,Qe];omega
def Hb(fs:List LB):LI:=fs.map λf=>(f.length:Int)
theorem Uz(fs:List LB):(Hb fs).length=fs.length:=by rw[Hb,List.length_map]
theorem rL:∀fs:List LB,(Hb fs).sum=(fs.flatten.length:Int)
 |[]=>rfl
 |f::fs=>by rw[Hb,An5,Aog,Ap7,Abr,show(fs.map λf=>(f.length:Int))=Hb fs from rfl,rL fs];omega
theorem Abw(bits:Int)(ch:Nat)(t:LX):∀ys:List LX,(∀y∈ys,1<=y.length/\y.length<=4000)-> ((ys.map (AI bits ch t)).flatten).length<=15*ys.flatten.length
 |[],_=>by simp
 |y::ys,h=>by
  have ih:=Abw bits ch t ys λy hy=>h y (Ajv _ hy);obtain⟨h1,h4⟩:=h y Am5;have:=(qT bits ch t y h1 h4).2;rw[An5,Ap7,Ap7,Abr,Abr];omega
def Xg(p:LB):Nat:=if p=[]then 1 else 2
def iJ(p:LB):LB:=if p=[]then []else Zw (FR p).toNat 8
theorem P2(p:LB):Xg p=1\/Xg p=2:=by unfold Xg;split<;>simp
theorem uN(p:LB):(iJ p).length=if Xg p=2 then 8 else 0:=by
 unfold iJ Xg;by_cases h:p=[]
 ·rw[Abp h,Abp h];rfl
 ·rw[Abg h,Abg h,Cr];rfl
def Z6(c r n:Nat)(x:LX):List LX:=Gb c x (Ib (Ak r) n)
def JH(c w r n:Nat)(x:LX)(p:LB):List LB:=(Z6 c r n x).map (AI (w:Int) c (Ru p))
def KD(c w r n:Nat)(x:LX)(p:LB):LB:=B5 (Xg p) c w r n++(iJ p++(N3 (Hb (JH c w r n x p))++(JH c w r n x p).flatten))
theorem nU{g n:Nat}(hg:1<=g)(h1:1<=n):∀m∈Ib g n,1<=m:=by
 intro m hm;rw[Ib,List.mem_append,List.mem_replicate,List.mem_singleton]at hm;have h:=Nat.div_mul_le_self (n-1) g;rcases hm with⟨_,rfl⟩|rfl
 ·omega
 ·omega
section
variable {c w r n:Nat} {x:LX} (h:ClipOk c w r n x)
include h
theorem ClipOk.sum:(Ib (Ak r) n).sum=(n:Int):=M3 h.cnt.1
theorem zi:(Z6 c r n x).flatten=x:=by
 refine nD _ _ _ (λm hm=>?_) ?_
 ·have:=nU (Kl r) h.cnt.1 m hm;omega
 ·rw[h.sum,h.len,Ajg]
theorem jV:∀y∈Z6 c r n x,1<=y.length/\y.length<=4000/\y.length %c=0/\uf (w:Int) y:=by
 intro y hy;obtain⟨a1,a2,a3,a4⟩:=eT c h.ch.1 _ _ (nU (Kl r) h.cnt.1) (by rw[h.sum,h.len,Ajg]) y hy;have:=h.le;exact⟨a1,F0,a3,λv hv=>h.rng v (a4 v hv)⟩
omit h in
theorem Aid(p:LB):(JH c w r n x p).length=(Ib (Ak r) n).length:=by rw[JH,List.length_map];exact VC _ _ _
theorem mh(p:LB):1<= (JH c w r n x p).length/\ (JH c w r n x p).length<=1000:=by
 rw[Aid,nA];exact⟨Nat.le_add_left _ _,h.fr⟩
theorem S7(p:LB):((JH c w r n x p).flatten).length<=15*x.length:=by
 have:=Abw (w:Int) c (Ru p) (Z6 c r n x) λy hy=>⟨(jV h y hy).1,(jV h y hy).2.1⟩;rw[zi h]at this;exact this
theorem T9(p:LB):∀f∈JH c w r n x p,5<=f.length:=by
 intro f hf;rw[JH,List.mem_map]at hf;obtain⟨y,hy,rfl⟩:=hf;exact(qT _ _ _ _ (jV h y hy).1 (jV h y hy).2.1).1
theorem K1(p:LB):tP (Hb (JH c w r n x p))=true:=by
 have h1:=mh h p;have h2:=S7 h p;have h3:=h.le;simp only[tP,Abs,Adz];rw[pF _ _ F0,Uz,rL];refine⟨F0,λz hz=>?_,F0⟩;rw[Hb,List.mem_map]at hz;obtain⟨f,hf,rfl⟩:=hz;have:=T9 h p f hf;omega
omit h in
theorem kG(p:LB):(KD c w r n x p).length=22+(if Xg p=2 then 8 else 0)+(4*(JH c w r n x p).length+4)+(JH c w r n x p).flatten.length:=by
 rw[KD,Abr,Abr,Abr,jX,uN,tN,Uz];omega
theorem Ae9(p:LB):(KD c w r n x p).length<=34+4*(JH c w r n x p).length+15*x.length:=by
 have h1:=kG (c:=c) (w:=w) (r:=r) (n:=n) (x:=x) p;have h2:=S7 h p;split at h1<;>omega
theorem lU(p:LB):(KD c w r n x p).length<=64034:=by
 have:=Ae9 h p;have:=mh h p;have:=h.le;omega
end
theorem mZ:∀{l:LI},(∀x∈l,0<=x)->∀k,0<= (l.take k).sum
 |[],_,k=>by simp
 |x::l,h,0=>by simp
 |x::l,h,k+1=>by
  have:=mZ (l:=l) (λy hy=>h y (Ajv _ hy)) k;have:=h x Am5;rw[List.take_succ_cons,Aog];omega
theorem sJ(c:Nat)(h1:1<=c):∀(l:LI) (x:LX),(∀m∈l,1<=m)->x.length=l.sum.toNat*c->∀(k:Nat) (hk:k<l.length) (hk':k<(Gb c x l).length),(Gb c x l)[k].length=l[k].toNat*c
 |[],x,_,_=>λk hk=>absurd hk (Amk _)
 |m::l,x,hm,hx=>by
  have hm1:=hm m Am5;have hl:0<=l.sum:=by
   have:=mZ (l:=l) (λy hy=>by have:=hm y (Ajv _ hy);omega) l.length;rw[Ap3]at this;exact this
  rw[Aog,show(m+l.sum).toNat=m.toNat+l.sum.toNat by omega,Aft]at hx;intro k hk hk';cases k with
  |zero=>simp only[Gb,List.getElem_cons_zero,Ahl];omega
  |succ k=>
   simp only[Gb,List.getElem_cons_succ];exact sJ c h1 l (x.drop (m.toNat*c)) (λm hm'=>hm m (Ajv _ hm')) Ar3 k (by simpa using hk) _
structure FileOf (c w r n:Nat) (x:LX) (p:LB) (T:Nat) (fs:List LB) (z b:LB):Prop where
 clip:ClipOk c w r n x
 pass:p.length<=64
 front:Ut b=((T:Int),0)
 le:b.length<=100000
 lens:Hb fs=Hb (JH c w r n x p)
 form:b.drop T=B5 (Xg p) c w r n++(iJ p++(N3 (Hb (JH c w r n x p))++(fs.flatten++z)))
section
variable {c w r n:Nat} {x:LX} {p:LB} {T:Nat} {fs:List LB} {z b:LB} (h:FileOf c w r n x p T fs z b)
include h
theorem FileOf.cnt:fs.length=(JH c w r n x p).length:=by
 have:=congrArg List.length h.lens;rw[Uz,Uz]at this;exact this
end
theorem Aih(fs:List LB):∀x∈Hb fs,0<=x:=by
 intro x hx;rw[Hb,List.mem_map]at hx;obtain⟨f,_,rfl⟩:=hx;omega
theorem lH{t z:LB}{i:Nat}(h:i<t.length):Nd (t++z) i=Nd t i:=by
 rw[Nd,Nd,List.getD_eq_getElem?_getD,List.getD_eq_getElem?_getD,List.getElem?_append_left h]
theorem cC(t:LB)(a i:Nat):Nd (t.drop a) i=Nd t (a+i):=by
 rw[Nd,Nd,List.getD_eq_getElem?_getD,List.getD_eq_getElem?_getD,List.getElem?_drop]
theorem Ajj{w:Nat}(hw:Ch (w:Int)){t z:LB}{a:Nat}(h:a+wB (w:Int)<=t.length):sx (wB (w:Int)) (t++z) a=sx (wB (w:Int)) t a:=by
 rcases hw with hw|hw|hw
 ·rw[hw]at h⊢;have e:wB 8=1:=rfl;rw[e]at h⊢;rw[sx,sx,Abp rfl,Abp rfl,lH F0]
 ·rw[hw]at h⊢;have e:wB 16=2:=rfl;rw[e]at h⊢;rw[sx2,sx2,lH F0,lH F0]
 ·rw[hw]at h⊢;have e:wB 24=3:=rfl;rw[e]at h⊢;rw[sx3,sx3,lH F0,lH F0,lH F0]
theorem Aht{w:Nat}(hw:Ch (w:Int))(t:LB)(a b:Nat):sx (wB (w:Int)) (t.drop a) b=sx (wB (w:Int)) t (a+b):=by
 rcases hw with hw|hw|hw
 ·rw[hw,show wB 8=1 from rfl,sx,sx,Abp rfl,Abp rfl,cC]
 ·rw[hw,show wB 16=2 from rfl,sx2,sx2,cC,cC];rfl
 ·rw[hw,show wB 24=3 from rfl,sx3,sx3,cC,cC,cC];rfl
theorem ql{w:Nat}(hw:Ch (w:Int)){t z:LB}{m:Nat}(h:m*wB (w:Int)<=t.length):QZ (wB (w:Int)) m (t++z)=QZ (wB (w:Int)) m t:=by
 rw[QZ,QZ];apply Aqs;intro x hx;have hx:=List.mem_range.1 hx;have h2:(x+1)*wB (w:Int)<=m*wB (w:Int):=Aeb _ hx;rw[Aft,Anf]at h2;rw[Ajj hw F0]
theorem Agt{w:Nat}(hw:Ch (w:Int))(t:LB)(m j:Nat):QZ (wB (w:Int)) (m+j) t=QZ (wB (w:Int)) m t++QZ (wB (w:Int)) j (t.drop (m*wB (w:Int))):=by
 rw[QZ,QZ,QZ,List.range_add,Apk,List.map_map];congr 1;apply Aqs;intro x hx
 show Int32.ofInt (sx (wB (w:Int)) t ((m+x)*wB (w:Int)))=_;rw[Aht hw,Aft]
theorem Aj0{w:Nat}(hw:Ch (w:Int))(t:LB)(a:Nat): -(hB (w:Int))<=sx (wB (w:Int)) t a/\sx (wB (w:Int)) t a<hB (w:Int):=by
 have b0:=SC t a;have b1:=SC t (a+1);have b2:=SC t (a+2);rcases hw with hw|hw|hw
 ·rw[hw,show wB 8=1 from rfl,show hB 8=128 from rfl,sx,Abp rfl];omega
 ·rw[hw,show wB 16=2 from rfl,show hB 16=32768 from rfl,sx2];split<;>omega
 ·rw[hw,show wB 24=3 from rfl,show hB 24=8388608 from rfl,sx3];split<;>omega
theorem zB{w:Nat}(hw:Ch (w:Int))(m:Nat)(t:LB):uf (w:Int) (QZ (wB (w:Int)) m t):=by
 intro x hx;rw[QZ,List.mem_map]at hx;obtain⟨k,_,rfl⟩:=hx;have h:=Aj0 hw t (k*wB (w:Int));have hh:=TH (w:Int);rw[aP F0 F0];exact h
theorem bW(c L:Nat):∀(k:Nat) (x y:LX),k*(L*c)<=x.length->Gb c (x++y) (List.replicate k (L:Int))=Gb c x (List.replicate k (L:Int))
 |0,x,y,_=>rfl
 |k+1,x,y,h=>by
  rw[Aft,Anf]at h;rw[Aop,Gb,Gb,Ajg,List.take_append_of_le_length F0,Ao2 F0,bW c L k _ y Ar3]
theorem kK(c:Nat):∀(l m:LI) (x:LX),(∀z∈l,0<=z)->Gb c x (l++m)=Gb c x l++Gb c (x.drop (l.sum.toNat*c)) m
 |[],m,x,_=>by simp[Gb]
 |z::l,m,x,h=>by
  have hz:=h z Am5;have hl:0<=l.sum:=Ae4 λy hy=>h y (Ajv _ hy);rw[Aqd,Gb,Gb,kK c l m _ (λy hy=>h y (Ajv _ hy)),Aqd,List.drop_drop,Aog,show(z+l.sum).toNat=z.toNat+l.sum.toNat by omega,Aft]
theorem Ace(k L:Nat):∀z∈List.replicate k (L:Int),0<=z:=λz hz=>by rw[(List.mem_replicate.1 hz).2];omega
theorem tZ(k L c:Nat):(List.replicate k (L:Int)).sum.toNat*c=k*(L*c):=by rw[yF,Ajg,Ans]
theorem X0(c L k:Nat)(x:LX)(h:x.length=(k+1)*(L*c)):Gb c x (List.replicate (k+1) (L:Int))=Gb c x (List.replicate k (L:Int))++[x.drop (k*(L*c))]:=by
 rw[List.replicate_succ',kK c _ _ _ (Ace k L),tZ,Gb,Gb,Ajg,Ai7 (by rw[Amr,h,Aft];omega)]
theorem Arx{p:Prop}(h:p:=by rw[Hs,Ac];simp;omega):p:=h
theorem Asa{p:Prop}(h:p:=by simp[Af,Ax,Ac];omega):p:=h
theorem Arr{p:Prop}(h:p:=by rw[Aft,Anf];omega):p:=h
end Go.Pl
namespace Go.Pl
open Go Go.Lv
structure EncOk (c w r:Nat) (p:LB):Prop where
 ch:1<=c/\c<=6
 bits:Ch (w:Int)
 rate:1<=r/\r<=1048576
 pass:p.length<=64
def gW(c w:Nat):Nat:=c*wB (w:Int)
def nE(c w:Nat)(t:LB):Nat:=t.length/gW c w
def XE(c w:Nat)(t:LB):LX:=QZ (wB (w:Int)) (nE c w t*c) t
def RE(c w:Nat)(t:LB):LB:=t.drop (nE c w t*gW c w)
def kE(c w r:Nat)(t:LB):Nat:=nE c w t/Ak r
def SE(c w r:Nat)(t:LB):LX:=(XE c w t).drop (kE c w r t*(Ak r*c))
def FE(c w r:Nat)(p t:LB):List LB:=(Gb c (XE c w t) (List.replicate (kE c w r t) (Ak r:Int))).map (AI (w:Int) c (Ru p))
def Mh(c r n:Nat):Prop:=n*c<=4000/\ (n=0\/ (n-1)/Ak r+1<=1000)
instance(c r n:Nat):Decidable (Mh c r n):=by unfold Mh;exact inferInstance
theorem Mh.mono{c r n m:Nat}(h:Mh c r n)(hm:m<=n):Mh c r m:=by
 obtain⟨h1,h2⟩:=h;have h3:=Aeb c hm;have h4:(m-1)/Ak r<= (n-1)/Ak r:=Ap5 F0;refine⟨F0,?_⟩;omega
section
variable {c w r:Nat} {p:LB} (h:EncOk c w r p) (t:LB)
include h
theorem fY:1<=gW c w/\gW c w<=18:=by
 have h1:=J1 (w:Int);have h2:=h.ch;have h3:=Aq3 (show 0<c by omega) (show 0<wB (w:Int) by omega);have h4:c*wB (w:Int)<=6*3:=Anj h2.2 h1.2;unfold gW;omega
theorem qp:Qf (c:Int) (w:Int)=some (gW c w:Int):=by
 have h2:=h.ch;have hw3:w=8\/w=16\/w=24:=by have:=h.bits;unfold Ch at this;omega
 rcases hw3 with rfl|rfl|rfl
 ·show some (Ba (Bf (c:Int) (8:Int)) 8)=_;rw[Ia,show(c:Int)*8=((c*8:Nat):Int) by omega,show(8:Int)=((8:Nat):Int)from rfl,Qy,gW,show wB ((8:Nat):Int)=1 from rfl];congr 2;omega
 ·show some (Ba (Bf (c:Int) (16:Int)) 8)=_;rw[Ia,show(c:Int)*16=((c*16:Nat):Int) by omega,show(8:Int)=((8:Nat):Int)from rfl,Qy,gW,show wB ((16:Nat):Int)=2 from rfl];congr 2;omega
 ·show some (Ba (Bf (c:Int) (24:Int)) 8)=_;rw[Ia,show(c:Int)*24=((c*24:Nat):Int) by omega,show(8:Int)=((8:Nat):Int)from rfl,Qy,gW,show wB ((24:Nat):Int)=3 from rfl];congr 2;omega
theorem rA:t.length=nE c w t*gW c w+(RE c w t).length/\ (RE c w t).length<gW c w:=by
 have hs:=fY h;have h1:=Aqa t.length (gW c w);have h2:=Apc t.length (show 0<gW c w by omega);rw[Ana]at h1;have e:(RE c w t).length=t.length-nE c w t*gW c w:=by rw[RE,Amr]
 have e2:nE c w t*gW c w=t.length/gW c w*gW c w:=rfl;omega
omit h in
theorem aL:(XE c w t).length=nE c w t*c:=bU _ _ _
theorem lZ:uf (w:Int) (XE c w t):=zB h.bits _ _
theorem qS:nE c w t=kE c w r t*Ak r+nE c w t %Ak r/\nE c w t %Ak r<Ak r:=by
 have _:=h;have hp:=Kl r;have h1:=Aqa (nE c w t) (Ak r);rw[Ana]at h1;exact⟨h1.symm,Apc _ F0⟩
theorem KZ:(SE c w r t).length=nE c w t %Ak r*c:=by
 have h1:=(qS h t).1;rw[SE,Amr,aL]
 conv=>lhs;rw[h1]
 rw[Aft,<-Ans,Apn]
omit h in
theorem ZH:(FE c w r p t).length=kE c w r t:=by rw[FE,List.length_map,VC,Akm]
theorem Aeo(b:UInt8)(hl:(RE c w t).length+1<gW c w):nE c w (t++[b])=nE c w t/\XE c w (t++[b])=XE c w t/\RE c w (t++[b])=RE c w t++[b]:=by
 have h1:=rA h t;have hs:=fY h;have hn:nE c w (t++[b])=nE c w t:=by
  rw[nE,Abr,Aoe];exact Apm F0 Arr
 refine⟨hn,?_,?_⟩
 ·rw[XE,hn,XE];exact ql h.bits (by
   have e:nE c w t*c*wB (w:Int)=nE c w t*gW c w:=by rw[gW,Ans]
   rw[e];omega)
 ·rw[RE,hn,RE,Ao2 F0]
theorem Aee(b:UInt8)(hl:¬(RE c w t).length+1<gW c w):(RE c w t).length+1=gW c w/\nE c w (t++[b])=nE c w t+1/\XE c w (t++[b])=XE c w t++QZ (wB (w:Int)) c (RE c w t++[b])/\RE c w (t++[b])=[]:=by
 have h1:=rA h t;have hs:=fY h;have hn:nE c w (t++[b])=nE c w t+1:=by
  rw[nE,Abr,Aoe];exact Apm Arr (by rw[Aft,Aft,Anf];omega)
 have e:nE c w t*c*wB (w:Int)=nE c w t*gW c w:=by rw[gW,Ans]
 refine⟨F0,hn,?_,?_⟩
 ·rw[XE,hn,Aft,Anf,Agt h.bits,ql h.bits (by rw[e];omega),e,Ao2 F0];rfl
 ·rw[RE,hn,Anz];rw[Abr,Aoe,Aft,Anf];omega
theorem qO:kE c w r t*(Ak r*c)<= (XE c w t).length:=by
 have h1:=(qS h t).1;rw[aL]
 conv=>rhs;rw[h1]
 rw[Aft,<-Ans];omega
theorem Ain{b:UInt8}(hl:(RE c w t).length+1<gW c w):kE c w r (t++[b])=kE c w r t/\SE c w r (t++[b])=SE c w r t/\FE c w r p (t++[b])=FE c w r p t:=by
 obtain⟨h1,h2,h3⟩:=Aeo h t b hl;have hk:kE c w r (t++[b])=kE c w r t:=by rw[kE,h1,kE]
 exact⟨hk,by rw[SE,hk,h2,SE],by rw[FE,hk,h2,FE]⟩
theorem Ai0{b:UInt8}(hl:¬(RE c w t).length+1<gW c w):
  ((SE c w r t++QZ (wB (w:Int)) c (RE c w t++[b])).length<Ak r*c->kE c w r (t++[b])=kE c w r t/\SE c w r (t++[b])=SE c w r t++QZ (wB (w:Int)) c (RE c w t++[b])/\FE c w r p (t++[b])=FE c w r p t)/\
  (¬(SE c w r t++QZ (wB (w:Int)) c (RE c w t++[b])).length<Ak r*c-> (SE c w r t++QZ (wB (w:Int)) c (RE c w t++[b])).length=Ak r*c/\kE c w r (t++[b])=kE c w r t+1/\SE c w r (t++[b])=[]/\FE c w r p (t++[b])=FE c w r p t++[AI (w:Int) c (Ru p) (SE c w r t++QZ (wB (w:Int)) c (RE c w t++[b]))]):=by
 obtain⟨_,h1,h2,h3⟩:=Aee h t b hl;obtain⟨d1,d2⟩:=qS h t;have hsl:=KZ h t;have hc:=h.ch;have hp:=Kl r;have hdk:=qO h t;have hlen:(SE c w r t++QZ (wB (w:Int)) c (RE c w t++[b])).length=(nE c w t %Ak r+1)*c:=by rw[Abr,hsl,bU,Aft,Anf]
 rw[hlen];constructor
 ·intro hlt;have hlt2:nE c w t %Ak r+1<Ak r:=Nat.lt_of_mul_lt_mul_right hlt;have hk:kE c w r (t++[b])=kE c w r t:=by
   rw[kE,h1];exact Apm F0 Arr
  refine⟨hk,?_,?_⟩
  ·rw[SE,hk,h2,Ao2 hdk,SE]
  ·rw[FE,hk,h2,bW c (Ak r) _ _ _ hdk,FE]
 ·intro hge;have Aqu:Ak r<=nE c w t %Ak r+1:=by
   refine Nat.le_of_not_lt λhh=>hge ?_;exact Nat.mul_lt_mul_of_pos_right hh hc.1
  have heq:nE c w t %Ak r+1=Ak r:=F0
  have hk:kE c w r (t++[b])=kE c w r t+1:=by
   rw[kE,h1];exact Apm Arr (by rw[Aft,Aft,Anf];omega)
  have hXl:(XE c w (t++[b])).length=(kE c w r t+1)*(Ak r*c):=by
   rw[aL,h1,<-Ans];congr 1;rw[Aft,Anf];omega
  refine⟨by rw[heq],hk,?_,?_⟩
  ·rw[SE,hk,<-hXl,Apa]
  ·rw[FE,hk,X0 c (Ak r) _ _ hXl,Apk,h2,bW c (Ak r) _ _ _ hdk,Ao2 hdk,FE];rfl
theorem Z5(hR:Mh c r (nE c w t)):∀f∈FE c w r p t,5<=f.length/\f.length<= (81*(Ak r*c)+7)/8+4:=by
 intro f hf;obtain⟨y,hy,rfl⟩:=List.mem_map.1 hf;have hx:(XE c w t).take (kE c w r t*(Ak r*c))++(XE c w t).drop (kE c w r t*(Ak r*c))=XE c w t:=Aqi _ _;have hdk:=qO h t;have hpr:=bW c (Ak r) (kE c w r t) ((XE c w t).take (kE c w r t*(Ak r*c))) ((XE c w t).drop (kE c w r t*(Ak r*c))) (by rw[Ahl];omega);rw[hx]at hpr;rw[hpr]at hy;have hp:=Kl r;obtain⟨k,hk,hk2⟩:=List.getElem_of_mem hy;have hl1:∀z∈List.replicate (kE c w r t) (Ak r:Int),1<=z:=λz hz=>by rw[(List.mem_replicate.1 hz).2];omega
 have hlx:((XE c w t).take (kE c w r t*(Ak r*c))).length=(List.replicate (kE c w r t) (Ak r:Int)).sum.toNat*c:=by rw[tZ,Ahl];omega
 have hg:=sJ c h.ch.1 _ _ hl1 hlx k (by rw[VC]at hk;exact hk) hk;rw[hk2,List.getElem_replicate,Ajg]at hg;obtain⟨a1,a2,_,_⟩:=eT c h.ch.1 _ _ hl1 hlx y hy;have hle:y.length<=4000:=by
  have:=hR.1;have h2:((XE c w t).take (kE c w r t*(Ak r*c))).length<= (XE c w t).length:=by rw[Ahl];omega
  rw[aL]at h2;omega
 have h5:=M6 (w:Int) c (Ru p) y a1 hle;have he:=FU c (Eu (w:Int) c (Ru p) y) y.length;refine⟨h5.1,?_⟩;rw[AI,Abr,Cr,zX,Qe,<-hg];omega
omit h in
theorem xG(b:List LB)(f a M:Int)(hM:Ae (Ba (Ae (Bf (Bf 81 f) a) 7) 8) 4=M)(hb:b.length<=100000)(hm:∀y∈b,5<=y.length/\ (y.length:Int)<=M):∀(j i q:Nat),i+j=b.length->j<q->Dl b f a q (i:Int)=some true
 |j,i,0,_,h=>absurd h (Amk _)
 |0,i,q+1,hi,_=>by
  rw[Dl,Il,Abg F3];rfl
 |j+1,i,q+1,hi,hq=>by
  have ih:=xG b f a M hM hb hm j (i+1) q F0 F0;have hy:=hm b[i] (Ap2 _);have hi1:Ae (i:Int) 1=((i+1:Nat):Int):=by rw[Aj];omega
  rw[Dl,Il,Abp F3,Cu,Aa,Ox,Wx,hM,Abg Asa,Wm,Wr,hi1];exact ih
theorem kX:Oq (c:Int) (w:Int) (r:Int) p=some ((Ak r:Int),true):=by
 have hp:=h.pass;rw[Oq,bM h.rate.1 h.rate.2,Aa];simp only;rw[Aea h.bits h.ch.1 h.ch.2,Aa];simp[Bj,Re,Ac];omega
theorem lV(hR:Mh c r (nE c w t))(p' m' n':LB)(u:Bool)(v k o:Int):Om (c:Int) k o p' m' (SE c w r t) (FE c w r p t) n' u v (Ak r:Int)=some (nE c w t:Int):=by
 have hc:=h.ch;obtain⟨d1,d2⟩:=qS h t;have hsl:=KZ h t;have hlt:=BM h.rate.2;have hn:nE c w t<=4000:=by
  have:=hR.1;have:nE c w t*1<=nE c w t*c:=Apl _ hc.1;omega
 have e1:Bf (Ac (FE c w r p t)) (Ak r:Int)=((kE c w r t*Ak r:Nat):Int):=by
  rw[Ac,ZH,Ia Ark Ark,<-Aln]
 have e2:Ba (Ac (SE c w r t)) (c:Int)=((nE c w t %Ak r:Nat):Int):=by
  rw[Ac,hsl,Qy (by
   have:nE c w t %Ak r*c<=nE c w t*c:=Aeb _ (Aqw _ _);have:=hR.1;omega),Aqz _ F0]
 rw[Om,Cf Ari,Aa,e1,e2,Aj];congr 1;omega
theorem wI(hR:Mh c r (nE c w t)):Jk (c:Int) (w:Int) (r:Int) p (RE c w t) (SE c w r t) (FE c w r p t) [] false 0=some 0:=by
 have hc:=h.ch;have hw:=h.bits;obtain⟨d1,d2⟩:=qS h t;have hsl:=KZ h t;have htl:=rA h t;have hlt:=BM h.rate.2;have hp:=Kl r;have hfl:=ZH (c:=c) (w:=w) (r:=r) (p:=p) t;have hn4:=hR.1;have hmod:nE c w t %Ak r*c<=nE c w t*c:=Aeb _ (Aqw _ _);have hn:nE c w t<=4000:=by
  have:nE c w t*1<=nE c w t*c:=Apl _ hc.1;omega
 have hfr:kE c w r t+(if 0<nE c w t %Ak r then 1 else 0)<=1000:=by
  rcases hR.2 with h0|h0
  ·have:kE c w r t=0:=by rw[kE,h0];exact Aq4 _
   rw[h0,Nat.zero_mod,this];decide
  ·generalize hq:Ak r=L at*
   have hk:kE c w r t=nE c w t/L:=by rw[kE,hq]
   by_cases hz:0<nE c w t %L
   ·rw[Abp hz];have:(nE c w t-1)/L=kE c w r t:=Apm F0 Arr;omega
   ·rw[Abg hz];by_cases hk0:kE c w r t=0
    ·omega
    ·obtain⟨k',hk'⟩:∃k',kE c w r t=k'+1:=⟨kE c w r t-1,F0⟩;rw[hk',Aft,Anf]at d1;have:(nE c w t-1)/L=k':=Apm F0 Arr;omega
 have hcnt:=lV h t hR p (RE c w t) [] false 0 (w:Int) (r:Int);have hin:uf (w:Int) (SE c w r t):=λv hv=>lZ h t v (Apq hv);have hwc:Rc (w:Int) (SE c w r t)=some 0:=by rw[fU hw _ F0,lX hw F0 hin]
 have hroom:∀k:Int,k<=1000->Og (c:Int) (w:Int) (r:Int) p (RE c w t) (SE c w r t) (FE c w r p t) [] false 0 k (nE c w t:Int)=some true:=by
  intro k hk;rw[Og,Ia Ark Ark,<-Aln];simp[Re];omega
 have hLc:Ak r*c<=1100000*6:=Anj F0 hc.2;have hM:Ae (Ba (Ae (Bf (Bf 81 (Ak r:Int)) (c:Int)) 7) 8) 4=(((81*(Ak r*c)+7)/8+4:Nat):Int):=by
  have e1:Bf 81 (Ak r:Int)=((81*Ak r:Nat):Int):=by rw[Ia];omega
  have e2:Bf ((81*Ak r:Nat):Int) (c:Int)=((81*(Ak r*c):Nat):Int):=by
   rw[Ia (by rw[<-Aln,Ans];omega) (by rw[<-Aln,Ans];omega),<-Aln,Ans]
  rw[e1,e2,Aj (a:=((81*(Ak r*c):Nat):Int)) (b:=7) F0 F0,show((81*(Ak r*c):Nat):Int)+7=((81*(Ak r*c)+7:Nat):Int) by omega,show(8:Int)=((8:Nat):Int)from rfl,Qy,Aj];omega
 have hloop:=xG (FE c w r p t) (Ak r:Int) (c:Int) _ hM F0 (λy hy=>by
  have:=Z5 h t hR y hy;omega) (FE c w r p t).length 0 Aq F0 F7
 have Ank:Ni (c:Int) (w:Int) (r:Int) p (RE c w t) (SE c w r t) (FE c w r p t) [] false 0 (Ak r:Int)=some true:=by
  have Alk:Ba (Ac (SE c w r t)) (c:Int)=((nE c w t %Ak r:Nat):Int):=by
   rw[Ac,hsl,Qy,Aqz _ F0]
  have Ao5:Ed (Ac (SE c w r t)) (c:Int)=0:=by rw[Ac,hsl,EF,An1];rfl
  have hkk:kE c w r t<=1000:=by split at hfr<;>omega
  rw[Ni,Rk,Abg F4,qp h,Aa,Abg Arx,Cf Ari,Aa,Ao5,Abg F4,Aa,Alk,Abg (by simp[Hs,Ax,Ac,hfl];omega),Pb,Pe,hwc,Aa,Abg F4];by_cases hz:0<nE c w t %Ak r
  ·rw[Abp hz]at hfr;have hpos:=Aq3 hz (show 0<c by omega);rw[Abp Arf,Kw,Ku,hcnt,Aa,Ac,hfl,Aj,hroom _ F0,Aa,Abg F4,Pm,Ks,Oz];exact hloop
  ·have h0:nE c w t %Ak r=0:=F0
   rw[h0,Aq0]at hsl;rw[Abg (by rw[Ax,Ac];simp only[Adz];omega),Kw,Ku,hcnt,Aa,Ac,hfl,hroom _ F0,Aa,Abg F4,Pm,Ks,Oz];exact hloop
 rw[Jk,kX h,Aa];simp only;rw[Abg F4,Abg F4,Abg F4,Ank,Aa,Abg F4]
end
theorem Arv{p:Prop}(h:p:=by rw[Af,Ac,Abr,Aoe];simp;omega):p:=h
end Go.Pl
namespace Go.Pl
open Go Go.Lv
variable{α:Type}
theorem eD(a:List LB)(ha:∀y∈a,y.length<=17179869184)(w:List LB)(hw:w.length=a.length)(ha2:a.length<=100000)(b f g:Int)(h:LB)(k:Bool)(m:Int)(n:LB)(o:LX)(p:LB):∀(j i q:Nat),i+j=a.length->j<q->Nk w a b f g h k m n o p q (i:Int) a=some (b,f,g,h,n,o,a,p,k,m)
 |j,i,0,_,h=>absurd h (Amk _)
 |0,i,q+1,hi,_=>by
  have hc:VZ w a=a:=by rw[VZ,hw,Ap3,Anz F0,Al6]
  rw[Nk,Yb,hc,Abg F3];rfl
 |j+1,i,q+1,hi,hq=>by
  have ih:=eD a ha w hw ha2 b f g h k m n o p j (i+1) q F0 F0;have hc:VZ w a=a:=by rw[VZ,hw,Ap3,Anz F0,Al6]
  have hi1:Ae (i:Int) 1=((i+1:Nat):Int):=by rw[Aj];omega
  have hy:=ha a[i] (Ap2 _);rw[Nk,Yb,hc,Abp F3,Cu,Aa,Aa,Bd,Az (by simpa using hy),Aa,Aa,Aa,Aoz,Wq _ F0,Aa,List.set_getElem_self,hi1];exact ih
theorem P1{a:List LB}(ha:∀y∈a,y.length<=17179869184)(ha2:a.length<=100000)(b f g:Int)(h:LB){x:LB}{s:LX}{z:LB}(hx:x.length<=17179869184)(hs:s.length<=17179869184)(hz:z.length<=17179869184)(k:Bool)(m:Int):BT b f g h x s a z k m=some (b,f,g,h,x,s,a,z,k,m):=by
 have hl:=eD a ha (List.replicate a.length []) (by rw[Akm]) ha2 b f g h k m x s z a.length 0 Aq F0 F7;have hc:VZ (List.replicate a.length []) a=a:=by rw[VZ,Akm,Ap3,Anz (by rw[Akm];omega),Al6]
 rw[BT,HU,Bd,Az (by simpa using hx),Aa,Aa,Cn,Az (by simpa using hs),Aa,Aa,Bd,Az (by simpa using hz),Aa,Aa,VU,HZ,xF Art Art,Aa,Cf Asc,Aa];simp only[Aoz,Ac,Ajg,hc];exact hl
section
variable {c w r:Nat} {p:LB} (h:EncOk c w r p)
include h
theorem vU(t:LB)(hR:Mh c r (nE c w t)):Xr (c:Int) (w:Int) (r:Int) p (RE c w t) (SE c w r t) (FE c w r p t) [] false 0=some ((c:Int),(w:Int),(r:Int),p,RE c w t,SE c w r t,FE c w r p t,[],false,0,(Ak r:Int),0):=by
 have h1:=rA h t;have hs:=fY h;have hsl:=KZ h t;have hfl:=ZH (c:=c) (w:=w) (r:=r) (p:=p) t;have hn4:=hR.1;have hmod:nE c w t %Ak r*c<=nE c w t*c:=Aeb _ (Aqw _ _);have hn:nE c w t<=4000:=by
  have:nE c w t*1<=nE c w t*c:=Apl _ h.ch.1;omega
 have hk:kE c w r t<=nE c w t:=Am3 _ _;have hlt:=BM h.rate.2;have hLc:Ak r*c<=1100000*6:=Anj F0 h.ch.2;have htw:=P1 (a:=FE c w r p t) (λy hy=>by have:=Z5 h t hR y hy;omega) F0 (c:Int) (w:Int) (r:Int) p (x:=RE c w t) (s:=SE c w r t) (z:=[]) F0 F0 Ard false 0;rw[Xr,PN,wI h t hR,Aa,Abg F4,bM h.rate.1 h.rate.2,Aa];simp only;rw[Abg F4,Abg F4,TA,PY,htw,Aa]
abbrev Anu:=Int×Int×Int×LB×LB×LX×(List LB)×LB×Bool×Int×Int
def cT(c w r:Nat)(p t:LB):Anu:=if Mh c r (nE c w t)then((c:Int),(w:Int),(r:Int),p,RE c w t,SE c w r t,FE c w r p t,[],false,0,0)else((c:Int),(w:Int),(r:Int),p,[],[],[],[],false,18,18)
theorem eO(t b:LB)(hb:b.length<=1000000):∀(j u q:Nat) (T:LB),u+j=b.length->j<q->T=t++b.take u->Mh c r (nE c w T)->He (gW c w:Int) b (c:Int) (w:Int) (r:Int) p false 0 (Ak r:Int) [] q (u:Int) (RE c w T) (SE c w r T) (FE c w r p T)=some (cT c w r p (t++b))
 |j,u,0,T,_,h,_,_=>absurd h (Amk _)
 |0,u,q+1,T,hu,_,hT,hR=>by
  rw[Ai7 F0]at hT;rw[He,Vx,Abg F3,EZ,QA,cT,<-hT,Abp hR]
 |j+1,u,q+1,T,hu,hq,hT,hR=>by
  have hc:=h.ch;have hs:=fY h;have hu1:Ae (u:Int) 1=((u+1:Nat):Int):=by rw[Aj];omega
  have hT':T++[b[u]' F0]=t++b.take (u+1):=by rw[hT,Jb F0,Ams]
  have hpre:(T++[b[u]' F0]).length<= (t++b).length:=by rw[hT',Abr,Abr,Ahl];omega
  have hmono:nE c w (T++[b[u]' F0])<=nE c w (t++b):=Ap5 hpre;have hgd:Ah b (u:Int)=some (b[u]' F0):=Cu;generalize b[u]' F0=d at hT' hpre hmono hgd⊢;have ih:=eO t b hb j (u+1) q (T++[d]) F0 F0 hT';have htl:=rA h T;have hsl:=KZ h T;have hfl:=ZH (c:=c) (w:=w) (r:=r) (p:=p) T;have hn4:=hR.1;have hmod:nE c w T %Ak r*c<=nE c w T*c:=Aeb _ (Aqw _ _);have hn:nE c w T<=4000:=by
   have:nE c w T*1<=nE c w T*c:=Apl _ hc.1;omega
  have hk:kE c w r T<=nE c w T:=Am3 _ _;have hlt:=BM h.rate.2;rw[He,Vx,Abp F3,hgd,Aa,Az F6,Aa];by_cases hlt1:(RE c w T).length+1<gW c w
  ·obtain⟨m1,m2,m3⟩:=Aeo h T d hlt1;obtain⟨g1,g2,g3⟩:=Ain h T (b:=d) hlt1;rw[m1,m3,g2,g3]at ih;rw[Abp Arv,Ly,Vs,hu1];exact ih hR
  ·obtain⟨m0,m1,m2,m3⟩:=Aee h T d hlt1;obtain⟨g1,g2⟩:=Ai0 h T (b:=d) hlt1;have hcnt:=lV h T hR p (RE c w T++[d]) [] false 0 (w:Int) (r:Int);have hroom:Og (c:Int) (w:Int) (r:Int) p (RE c w T++[d]) (SE c w r T) (FE c w r p T) [] false 0 (Ae (Ac (FE c w r p T)) 1) (Ae (nE c w T:Int) 1)=some (decide ((kE c w r T:Int)+1<=1000)&&decide ((((nE c w T+1)*c:Nat):Int)<=4000)):=by
    have hle:(nE c w T+1)*c<=4001*6:=Anj F0 hc.2;rw[Og,Ac,hfl,Aj,Aj,show(nE c w T:Int)+1=((nE c w T+1:Nat):Int) by omega,Ia Ark Ark,<-Aln,Re,Re]
   rw[Abg Arv,hcnt,Aa,hroom,Aa];by_cases hok:kE c w r T+1<=1000/\ (nE c w T+1)*c<=4000
   ·have hR':Mh c r (nE c w (T++[d])):=by rw[m1];exact⟨hok.2, .inr (by rw[Aqx];exact hok.1)⟩
    have ih:=ih hR';have All:=xU (RE c w T++[d]) h.bits (m:=c) (by rw[Abr,Aoe,m0];rfl) F0;have hLc:Ak r*c<=1100000*6:=Anj F0 hc.2;have hmul:Bf (Ak r:Int) (c:Int)=((Ak r*c:Nat):Int):=by rw[Ia Ark Ark,<-Aln]
    rw[Abg (by rw[Apb (show(kE c w r T:Int)+1<=1000 by omega),Apb (show(((nE c w T+1)*c:Nat):Int)<=4000 by omega)];decide),EH,QE,All,Aa];simp only;rw[Abg F4,Az (by rw[bU];omega),Aa,hmul];by_cases hfull:(SE c w r T++QZ (wB (w:Int)) c (RE c w T++[d])).length<Ak r*c
    ·obtain⟨k1,k2,k3⟩:=g1 hfull;rw[m3,k2,k3]at ih;rw[Abp Arm,Hl,Vt,Abg F4,Ly,Vs,hu1];exact ih
    ·obtain⟨k0,k1,k2,k3⟩:=g2 hfull;rw[m3,k2,k3]at ih;have hXl:Ak r*c<=4000:=by
      have e:=hR'.1;have hlen:(XE c w (T++[d])).length=nE c w (T++[d])*c:=aL (T++[d]);have hdk:=qO (r:=r) h (T++[d]);rw[k1,Aft,Anf]at hdk;omega
     have hin:uf (w:Int) (SE c w r T++QZ (wB (w:Int)) c (RE c w T++[d])):=by
      intro v hv;rw[List.mem_append]at hv;rcases hv with hv|hv
      ·exact lZ h T v (Apq hv)
      ·exact zB h.bits _ _ v hv
     have hLp:=Aq3 (Kl r) hc.1;have henc:=jH (t:=Ru p) (x:=SE c w r T++QZ (wB (w:Int)) c (RE c w T++[d])) h.bits (TS p) hc.1 hc.2 F0 F0 (by rw[k0];exact An1 _ _) hin;rw[Abg Arm,wY p h.pass,Aa];simp only;rw[Abg F4,henc,Aa];simp only;rw[Abg F4,Az F6,Aa,QQ,SD,Hl,Vt,Abg F4,Ly,Vs,hu1];exact ih
   ·have hno:¬Mh c r (nE c w (t++b)):=by
     intro hh;have:=hh.mono hmono;rw[m1]at this;obtain⟨z1,z2⟩:=this;apply hok;rw[Aqx]at z2;have hkE:kE c w r T=nE c w T/Ak r:=rfl;omega
    rw[Abp (by
     rw[Alq,Bool.and_eq_false_iff,Anq,Anq];omega),Hl,Vt,Abp F4,Sk,Aa,cT,Abg hno]
theorem Afb(t b:LB)(hb:b.length<=1000000)(hR:Mh c r (nE c w t)):JF (c:Int) (w:Int) (r:Int) p (RE c w t) (SE c w r t) (FE c w r p t) [] false 0 b=some (cT c w r p (t++b)):=by
 have hl:=eO h t b hb b.length 0 Aq t F0 F7 Ard hR;rw[JF,IC,vU h t hR,Aa];simp only;rw[Abg F4,qp h,Aa,RU];exact hl
theorem Ah4:Zl (c:Int) (w:Int) (r:Int) p=some ((c:Int),(w:Int),(r:Int),p,RE c w [],SE c w r [],FE c w r p [],[],false,0,0):=by
 have h0:nE c w []=0:=Aq4 _;have hk:kE c w r []=0:=by rw[kE,h0];exact Aq4 _
 rw[Zl,kX h,Aa];simp only;rw[Abg F4,RE,SE,FE,XE,hk,h0];simp[QZ,Gb]
omit h in
theorem xL(c r:Nat):Mh c r 0:=⟨F0, .inl rfl⟩
end
theorem tM(l:List LB)(hf:l.flatten.length<=1000000)(hl:l.length<=1000000)(v:LB)(hfin:Es l (l.flatten.length:Int)=some v):∀(j i q:Nat),i+j=l.length->j<q->Bt l q (((l.take i).flatten.length:Nat):Int) (i:Int)=some v
 |j,i,0,_,h=>absurd h (Amk _)
 |0,i,q+1,hi,_=>by
  rw[Bt,Ct,Abg F3,Ai7 F0];exact hfin
 |j+1,i,q+1,hi,hq=>by
  have ih:=tM l hf hl v hfin j (i+1) q F0 F0;have hi1:Ae (i:Int) 1=((i+1:Nat):Int):=by rw[Aj];omega
  have hsn:(l.take (i+1)).flatten=(l.take i).flatten++l[i]:=by rw[Jb F0,Aqb];simp
  have hsp:l.flatten=(l.take (i+1)).flatten++(l.drop (i+1)).flatten:=by rw[<-Aqb,Aqi]
  have hle:((l.take i).flatten).length+(l[i]).length<=1000000:=by
   rw[hsp,Abr,hsn,Abr]at hf;omega
  have hadd:Ae (((l.take i).flatten.length:Nat):Int) (Ac l[i])=(((l.take (i+1)).flatten.length:Nat):Int):=by
   rw[Ac,Aj,hsn,Abr];omega
  rw[Bt,Ct,Abp F3,Cu,Aa,hadd,Abg (by rw[Af];simp only[Adz];omega),hi1];exact ih
theorem sH(l:List LB)(hf:l.flatten.length<=1000000)(hl:l.length<=1000000):∀(j i q:Nat),i+j=l.length->j<q->Bo l q (i:Int) (l.take i).flatten=some l.flatten
 |j,i,0,_,h=>absurd h (Amk _)
 |0,i,q+1,hi,_=>by
  rw[Bo,Cl,Abg F3,Ai7 F0];rfl
 |j+1,i,q+1,hi,hq=>by
  have ih:=sH l hf hl j (i+1) q F0 F0;have hi1:Ae (i:Int) 1=((i+1:Nat):Int):=by rw[Aj];omega
  have hsn:(l.take (i+1)).flatten=(l.take i).flatten++l[i]:=by rw[Jb F0,Aqb];simp
  have hsp:l.flatten=(l.take (i+1)).flatten++(l.drop (i+1)).flatten:=by rw[<-Aqb,Aqi]
  have hle:((l.take i).flatten).length+(l[i]).length<=1000000:=by
   rw[hsp,Abr,hsn,Abr]at hf;omega
  rw[Bo,Cl,Abp F3,Cu,Aa,Az,Aa,hi1,<-hsn];exact ih
theorem iw(l:List LB)(hf:l.flatten.length<=1000000)(hl:l.length<=1000000):Dn l=some l.flatten:=by
 have h3:Er l []=some l.flatten:=by
  rw[Er,Hn,Hm];exact sH l hf hl l.length 0 Aq F0 F7
 have h11:Es l (l.flatten.length:Int)=some l.flatten:=by
  have z:Ag (0:Int) 0=0:=F4
  rw[Es,Ho,Abg (by rw[Af];simp only[Adz];omega),Lp,Hp,z,Du,Int.sub_zero];by_cases hp:0<l.flatten.length
  ·rw[Abp (by rw[Ax];simp only[Adz];omega),show pD (0:Int) 0 0=some ()from rfl,Aa,xF,Aa,Az (by simp only[List.length_nil,Akm];omega),Aa];rw[show pD (Ac ([]++List.replicate ((l.flatten.length:Nat):Int).toNat (0:UInt8))) 0 0=some () by rw[pD,Cf];simp[Ac],Aa];simp only[oI,Int.sub_self,Int.toNat_zero,Apj];exact h3
  ·rw[Abg (by rw[Ax];simp only[Adz];omega)];exact h3
 have:=tM l hf hl _ h11 l.length 0 Aq F0 F7;exact this
theorem V5{p:LB}(hp:p.length<=64):FO p=some ((Xg p:Int),0):=by
 rw[FO,Abg Arf,Xg];by_cases h:p=[]
 ·rw[Abp (by rw[Bj,Ac,h];rfl),Abp h];rfl
 ·have:p.length≠0:=λe=>h (Anp e);rw[Abg (by rw[Bj,Ac,Ape];omega),Abg h];rfl
theorem tA(a:List LB)(ha:a.length<=100000)(f g h:Int)(b k:LB)(m:LX)(n:LB)(o:Bool)(p:Int)(u v:LB)(hfin:Tc f g h b k m a n o p u (Hb a)=some (v,0)):∀(j i q:Nat),i+j=a.length->j<q->Nj a f g h b k m n o p u q (i:Int) (Hb (a.take i))=some (v,0)
 |j,i,0,_,h=>absurd h (Amk _)
 |0,i,q+1,hi,_=>by
  rw[Nj,Xw,Abg F3,Ai7 F0];exact hfin
 |j+1,i,q+1,hi,hq=>by
  have ih:=tA a ha f g h b k m n o p u v hfin j (i+1) q F0 F0;have hi1:Ae (i:Int) 1=((i+1:Nat):Int):=by rw[Aj];omega
  have hll:(Hb (a.take i)).length=i:=by rw[Uz,Ahl];omega
  have hsn:Hb (a.take i)++[Ac a[i]]=Hb (a.take (i+1)):=by rw[Jb F0,Hb,Hb,Apk];rfl
  rw[Nj,Xw,Abp F3,Cu,Aa,Az F6,Aa,hsn,hi1];exact ih
theorem O6{c w r n:Nat}{x:LX}(h:ClipOk c w r n x){p:LB}(hp:p.length<=64)(k:LB)(m:LX)(n':LB)(o:Bool)(e:Int):JO (c:Int) (w:Int) (r:Int) p k m (JH c w r n x p) n' o e (n:Int)=some (KD c w r n x p,0):=by
 have hn:=mh h p;have hl:=lU h p;have hlen:=kG (c:=c) (w:=w) (r:=r) (n:=n) (x:=x) p;have hdl:=uN p;have hfin:Tc (c:Int) (w:Int) (r:Int) p k m (JH c w r n x p) n' o e (B5 (Xg p) c w r n++iJ p) (Hb (JH c w r n x p))=some (KD c w r n x p,0):=by
  have hh:=jX (Xg p) c w r n;have ht:=tN (Hb (JH c w r n x p));have hll:=Uz (JH c w r n x p);rw[Tc,Xv,U1,Abp (K1 h p),Aa];simp only;rw[Abg F4,Az Arq,Aa,iw _ F0 F0,Aa,Az (by rw[Abr,Abr];omega),Aa];simp[KD]
 have hlp:=tA (JH c w r n x p) F0 (c:Int) (w:Int) (r:Int) p k m n' o e (B5 (Xg p) c w r n++iJ p) _ hfin (JH c w r n x p).length 0 Aq F0 F7;rw[JO,HQ,V5 hp,Aa];simp only;rw[Abg F4,D5 (h.shape _ (P2 p)) h.fit,Aa];simp only;rw[Abg F4];by_cases h0:p=[]
 ·have e2:iJ p=[]:=by rw[iJ,Abp h0]
  rw[e2,Al6]at hlp;rw[Abg (by simp[h0]),HP,Yc];exact hlp
 ·have e2:iJ p=Zw (FR p).toNat 8:=by rw[iJ,Abg h0]
  rw[e2]at hlp;rw[Abp (by simpa using h0),zx p hp,Aa];simp only;rw[Abg F4,Az (by rw[jX,Cr];omega),Aa,HP,Yc];exact hlp
section
variable {c w r:Nat} {p:LB} (h:EncOk c w r p) (t:LB) (hR:Mh c r (nE c w t))
include h hR
theorem tR(h1:1<=nE c w t):ClipOk c w r (nE c w t) (XE c w t):=by
 have hc:=h.ch;refine⟨hc,h.bits,h.rate,⟨h1,?_⟩,aL t,?_,lZ h t⟩
 ·rw[Nat.le_div_iff_mul_le F0];exact hR.1
 ·rcases hR.2 with h0|h0
  ·omega
  ·exact h0
omit hR in
theorem rI(h1:1<=nE c w t):JH c w r (nE c w t) (XE c w t) p=FE c w r p t++(if SE c w r t=[]then []else [AI (w:Int) c (Ru p) (SE c w r t)]):=by
 have hc:=h.ch;have hp:=Kl r;obtain⟨d1,d2⟩:=qS h t;have hsl:=KZ h t;have key:Z6 c r (nE c w t) (XE c w t)=Gb c (XE c w t) (List.replicate (kE c w r t) (Ak r:Int))++(if SE c w r t=[]then []else [SE c w r t]):=by
  by_cases hz:nE c w t %Ak r=0
  ·have hS:SE c w r t=[]:=Anp (by rw[hsl,hz,Aq0]);rw[Abp hS,Al6,Z6];congr 1;rw[hz,Aph]at d1;have hk1:1<=kE c w r t:=by
    rcases Aqh (kE c w r t)with h0|h0
    ·rw[h0,Aq0]at d1;omega
    ·exact h0
   obtain⟨k',hk'⟩:∃k',kE c w r t=k'+1:=⟨kE c w r t-1,F0⟩;have hd:(nE c w t-1)/Ak r=k':=by
    rw[hk',Aft,Anf]at d1;exact Apm F0 Arr
   rw[Ib,hd,hk',List.replicate_succ'];congr 2;rw[hk',Aft,Anf]at d1;omega
  ·have hS:SE c w r t≠ []:=by
    intro e;have:=congrArg List.length e;rw[hsl,List.length_nil]at this;rcases Nat.mul_eq_zero.1 this with h0|h0<;>omega
   have hd:(nE c w t-1)/Ak r=kE c w r t:=Apm F0 Arr;have hdk:=qO (r:=r) h t;rw[Abg hS,Z6,Ib,hd,kK c _ _ _ (Ace _ _),tZ,Gb,Gb,Ajg];congr 2;rw[Ai7]
   ·rfl
   ·rw[Amr,aL,<-Ans,<-Aqp];exact Ala _
 rw[JH,key,Apk,FE];congr 1;split<;>rfl
theorem dx:AL (c:Int) (w:Int) (r:Int) p (RE c w t) (SE c w r t) (FE c w r p t) [] false 0=
  some (if RE c w t≠ []\/nE c w t=0 then((c:Int),(w:Int),(r:Int),p,[],[],[],[],false,24,24)else((c:Int),(w:Int),(r:Int),p,[],[],[],KD c w r (nE c w t) (XE c w t) p,true,0,0)):=by
 have hc:=h.ch;have hsl:=KZ h t;have hfl:=ZH (c:=c) (w:=w) (r:=r) (p:=p) t;have hn4:=hR.1;have hmod:nE c w t %Ak r*c<=nE c w t*c:=Aeb _ (Aqw _ _);have hn:nE c w t<=4000:=by
  have:nE c w t*1<=nE c w t*c:=Apl _ hc.1;omega
 have hk:kE c w r t<=nE c w t:=Am3 _ _;rw[AL,NZ,vU h t hR,Aa];simp only;rw[Abg F4,lV h t hR,Aa];by_cases hbad:RE c w t≠ []\/nE c w t=0
 ·have hcond:((Em (Ac (RE c w t)) 0)||(geq (nE c w t:Int) 0))=true:=by
   rcases hbad with h0|h0
   ·have:RE c w t≠ []:=h0;have hl:0<(RE c w t).length:=List.length_pos_iff.2 this;rw[Ax,Ac,Anl];left;simpa using hl
   ·rw[h0];simp[Bj]
  rw[Abp hbad,Abp hcond,Sk,Aa]
 ·have hR0:RE c w t=[]:=by
   by_cases h0:RE c w t=[]
   ·exact h0
   ·exact absurd (.inl h0) hbad
  have hn1:1<=nE c w t:=by
   rcases Aqh (nE c w t)with h0|h0
   ·exact absurd (.inr h0) hbad
   ·exact h0
  have hcl:=tR h t hR hn1;have hfr:=rI h t hn1;have hcond:¬(((Em (Ac (RE c w t)) 0)||(geq (nE c w t:Int) 0))=true):=by rw[hR0];simp[Ax,Bj,Ac];omega
  rw[Abg hbad,Abg hcond];by_cases hS:SE c w r t=[]
  ·rw[Abp hS,Al6]at hfr;have hf:=O6 hcl h.pass (RE c w t) (SE c w r t) [] false 0;rw[hfr]at hf;rw[Abg (by rw[hS];decide),Uj,AQ,hf,Aa];simp only;rw[Abg F4]
  ·rw[Abg hS]at hfr;have hl:0<(SE c w r t).length:=List.length_pos_iff.2 hS;have hin:uf (w:Int) (SE c w r t):=λv hv=>lZ h t v (Apq hv);have henc:=jH (t:=Ru p) (x:=SE c w r t) h.bits (TS p) hc.1 hc.2 F0 F0 (by rw[hsl];exact An1 _ _) hin;have hf:=O6 hcl h.pass (RE c w t) [] [] false 0;rw[hfr]at hf;rw[Abp (by rw[Ax,Ac];simpa using hl),wY p h.pass,Aa];simp only;rw[Abg F4,henc,Aa];simp only;rw[Abg F4,Az F6,Aa,NL,NG,Abg F4,Uj,AQ,hf,Aa];simp only;rw[Abg F4]
end
def Cd(e:Int):Prop:=e=0\/e=4\/e=12\/e=16\/e=22\/e=24\/e=26\/e=38
instance(e:Int):Decidable (Cd e):=by unfold Cd;infer_instance
structure HdI (f c w r n:Int) (F C W R N:Nat):Prop where
 ef:f=F
 ec:c=C
 ew:w=W
 er:r=R
 en:n=N
 shape:Tl F C W R N=true
 fit:kW C R N=true
theorem Ag2(l:List α):geq (Ac l) 0=decide (l=[]):=by
 cases l with
 |nil=>rfl
 |cons x l=>rw[Bj,Ac,Ajc,Alp Ard,beq_eq_false_iff_ne];omega
theorem iI(l:List α):Em (Ac l) 0=decide (l≠ []):=by
 cases l with
 |nil=>rfl
 |cons x l=>rw[Ax,Ac,Ajc,Apb Ard];simp
inductive FitD (o:LB) (f c w r n:Int) (g:LI) (a:Int) (x:LB):Prop
 |new:f=0->c=0->w=0->r=0->n=0->g=[]->a=0->x=[]->FitD o f c w r n g a x
 |head (F C W R N:Nat):HdI f c w r n F C W R N-> (o==([]:LB))=decide (F=1)->g=[]->a=0->x=[]->FitD o f c w r n g a x
 |tab (F C W R N A:Nat):HdI f c w r n F C W R N-> (o==([]:LB))=decide (F=1)->tP g=true->g.length=(Ib (Ak R) N).length->a=A->A<=g.length->FitD o f c w r n g a x
def ID3:LB:=[73,68,51]
def APX:LB:=[65,80,69,84,65,71,69,88]
def Abo(b s:LB):Bool:=decide (b.length<s.length)&&(b==s.take b.length)
theorem xN(b s:LB):Pg b s=some (Abo b s):=by
 rw[Pg,Abo];by_cases h:b.length<s.length
 ·rw[Abp Arz,Ac,JL,Aa,Apb h,Aqn];rfl
 ·rw[Abg Arz,Alp h];rfl
def stS(b:LB):Int×Int×Int×Int×Int×Int×Int:=
 if(Ut b).2=24 then(0,0,0,0,0,0, -1)else if(Ut b).2≠0 then(0,0,0,0,0,0,(Ut b).2)else
 if(Abo (N4 b) ID3||Abo (N4 b) APX)=true then(0,0,0,0,0,0, -1)else
 if(Xq (N4 b)).2.2.2.2.2=24 then(0,0,0,0,0,0, -1)else((Ut b).1+22,(Xq (N4 b)).1,(Xq (N4 b)).2.1,(Xq (N4 b)).2.2.1,(Xq (N4 b)).2.2.2.1,(Xq (N4 b)).2.2.2.2.1,(Xq (N4 b)).2.2.2.2.2)
theorem W4(b:LB)(hb:b.length<=100000):Ve b=some (stS b):=by
 rw[Ve,Yv,zL b F0,Aa,stS];have hok:=zk (b:=b);simp only;by_cases h1:(Ut b).2=24
 ·rw[Abp (by rw[Bj];simpa using h1),Abp h1]
 rw[Abg (by rw[Bj];simpa using h1),Abg h1];by_cases h2:(Ut b).2≠0
 ·rw[Abp (by rw[Cq];simpa using h2),Abp h2]
 have h0:(Ut b).2=0:=by simpa using h2
 obtain⟨k1,k2,k3⟩:=hok h0;rw[Abg (by rw[Cq,h0];simp),Abg h2,cG,Aa,xN,Aa,show b.drop (Ut b).1.toNat=N4 b from rfl,show([73,68,51]:LB)=ID3 from rfl,show([65,80,69,84,65,71,69,88]:LB)=APX from rfl];by_cases h3:Abo (N4 b) ID3=true
 ·rw[Abp h3,h3,Bool.true_or,Abp rfl]
 rw[Abg h3,xN,Aa,Bool.eq_false_iff.2 h3,Bool.false_or];by_cases h4:Abo (N4 b) APX=true
 ·rw[Abp h4,Abp h4]
 have hl:(N4 b).length<=b.length:=by rw[N4,Amr];omega
 rw[Abg h4,Abg h4,Yt,Zb,Acp _ F0,Aa];simp only;by_cases h5:(Xq (N4 b)).2.2.2.2.2=24
 ·rw[Abp (by rw[Bj];simpa using h5),Abp h5]
 ·rw[Abg (by rw[Bj];simpa using h5),Abg h5,Aj]
structure SzD (p:LB) (g:LI) (a:Int) (x:LB):Prop where
 hp:p.length<=100000
 hg:g.length<=1000
 hx:x.length+12000*(g.length-a.toNat)<=13000000
section
variable {bk:LB->Int->Int->Int->Int->Int->Int->LI->LB->Vh} {o p:LB} {f c w r n:Int} {g:LI} {a:Int} {x:LB} {u:Bool} {v:Int}
theorem f75{d:Bool}{e:Int}:lQ bk o u v f c w r n a x d e p g=RI bk o u v p f c w r n a d e g x:=rfl
end
theorem bnd{β:Type}{o:Option α}{f:α->Option β}{r:β}(h:Option.bind o f=some r):∃x,o=some x/\f x=some r:=by
 cases o with
 |none=>cases h
 |some x=>exact⟨x,rfl,h⟩
def OutB(f c w r n:Int)(g:LI)(a:Int)(x:LB):Prop:=∀(F C W R N A:Nat),HdI f c w r n F C W R N->g≠ []->a=(A:Int)-> (x.length:Int)<=Ae5 C W (Ib (Ak R) N) A
theorem OutB.nil{f c w r n:Int}{a:Int}{x:LB}:OutB f c w r n [] a x:=λ_ _ _ _ _ _ _ h=>absurd rfl h
theorem OutB.zero{f c w r n:Int}{g:LI}:OutB f c w r n g 0 []:=λF C W R N A h hg ha=>by
 obtain rfl:A=0:=F0
 rw[Y4];simp
structure Wt (o p:LB) (f c w r n:Int) (g:LI) (a:Int) (x:LB):Prop where
 fit:FitD o f c w r n g a x
 sz:SzD p g a x
 out:OutB f c w r n g a x
 wait:CM o p f c w r n g a x false 0=some (o,p,f,c,w,r,n,g,a,x,false,0, -1)
abbrev Ajb(q:Nat)(o p:LB)(f c w r n:Int)(g:LI)(a:Int)(x:LB):=HG q o p f c w r n g a x false 0
abbrev Fd(o s:LB):=Ajb Aq o s 0 0 0 0 0 [] 0 []
inductive Bh (o s:LB):LB->Int->Int->Int->Int->Int->LI->Int->LB->Int->Prop
 |wt {p:LB} {f c w r n:Int} {g:LI} {a:Int} {x:LB}:Wt o p f c w r n g a x->p.length<=s.length-> (∀b:LB,(s++b).length<=100000->Fd o (s++b)=Ajb Aq o (p++b) f c w r n g a x)->Bh o s p f c w r n g a x 0
 |er {x:LB} {e:Int}:0<e->Cd e->x.length<=12000-> (∀b:LB,(s++b).length<=100000->Fd o (s++b)=some (o,[],0,0,0,0,0,[],0,x,false,e,e))->Bh o s [] 0 0 0 0 0 [] 0 x e
variable {o s p:LB} {f c w r n:Int} {g:LI} {a:Int} {x:LB} {e:Int}
theorem Bh.new(ho:o.length<=64):Bh o [] [] 0 0 0 0 0 [] 0 [] 0:=by
 refine .wt ⟨.new rfl rfl rfl rfl rfl rfl rfl rfl,⟨Ard,Ard,Ard⟩,OutB.nil,?_⟩ (Ala _) λb _=>rfl;rw[CM,GP,Abp F4,W4 [] Ard,Aa];rfl
end Go.Pl
namespace Go.Pl
open Go Go.Lv
variable{ns:List Nat}{i:Nat}
section
variable {o s p:LB} {f c w r n:Int} {g:LI} {a:Int} {x:LB} {e:Int}
theorem FitD.drop(h:FitD o f c w r n g a x)(t:Nat):FitD o f c w r n g a (x.drop t):=by
 cases h with
 |new e1 e2 e3 e4 e5 e6 e7 e8=>subst e8;exact .new e1 e2 e3 e4 e5 e6 e7 Ard
 |head F C W R N hd hpw e6 e7 e8=>subst e8;exact .head F C W R N hd hpw e6 e7 Ard
 |tab F C W R N A hd hpw ht hl ea hA=>exact .tab F C W R N A hd hpw ht hl ea hA
theorem OutB.drop(h:OutB f c w r n g a x)(t:Nat):OutB f c w r n g a (x.drop t):=by
 intro F C W R N A hd hg ha;have:=h F C W R N A hd hg ha;rw[Amr];omega
end
inductive Pl (S D A:Int) (G:Nat->Int) (l:LI) (a:Int):UInt8->Int->Int->Prop
 |t:a<S->Pl S D A G l a 1 0 0
 |h:S<=a->a<S+22->Pl S D A G l a 2 0 0
 |d:S+22<=a->a<D->Pl S D A G l a 3 0 0
 |s:S+22<=a->D<=a->a<A->Pl S D A G l a 4 0 0
 |f (i:Nat):S+22<=a->D<=a->A<=a->i<l.length->A+(l.take i).sum<=a->a<A+(l.take (i+1)).sum->Pl S D A G l a 5 i (G i)
 |b:S+22<=a->D<=a->A<=a->A+l.sum<=a->Pl S D A G l a 6 0 0
theorem ClipOk.enc{c w r n:Nat}{x:LX}(h:ClipOk c w r n x){p:LB}(hp:p.length<=64):EncOk c w r p:=⟨h.ch,h.bits,h.rate,hp⟩
def N5(f g:Nat):Nat->Nat->Nat->LI
 |0,_,_=>[]
 |q+1,h,a=>if a+1=f\/g.testBit (a %64)=true then((a+1-h:Nat):Int)::N5 f g q (a+1) (a+1)else N5 f g q h (a+1)
theorem Abx(g:UInt64)(k:Nat):(Eb (Bu g k) (1:UInt64)).toNat=g.toNat/2^k %2:=by
 rw[tB,UInt64.toNat_and,Xs];exact Nat.and_one_is_mod _
theorem Aly(g:UInt64)(k:Nat):geq (Eb (Bu g (GI.toZ (Ed (k:Int) 64)).toNat) 1) (1:UInt64)=g.toNat.testBit (k %64):=by
 have e:(GI.toZ (Ed (k:Int) 64)).toNat=k %64:=by
  unfold Ed;rw[Apg F0];simp only[GI.toZ];omega
 rw[e,pA,Nat.testBit_eq_decide_div_mod_eq];refine decide_eq_decide.2 ⟨λh=>by rw[<-Abx,h];rfl,λh=>UInt64.toNat_inj.1 (by rw[Abx,h];rfl)⟩
theorem Ajr(k:Nat):Jz (Ed (k:Int) 64) 0=true:=by
 unfold Ed;rw[Apg F0];simp[Jz,GI.toZ];omega
theorem O1(f:Nat)(g:UInt64):∀(q Q h a:Nat) (l:LI),q+a=f->q<Q->h<=a->f<=100000->l.length<=a->Mb (f:Int) g Q (h:Int) (a:Int) l=some (l++N5 f g.toNat q h a,0)
 |q,0,h,a,l,_,hq,_,_,_=>absurd hq (Amk _)
 |0,Q+1,h,a,l,hf,_,_,_,_=>by
  obtain rfl:a=f:=F0
  simp only[Mb,Vz];rw[Abg (by simp[Cj,GI.toZ]),N5,Al6];rfl
 |q+1,Q+1,h,a,l,hf,hq,hh,hl,hll=>by
  simp only[Mb,Vz];rw[Abp (by simp[Cj,GI.toZ];omega)];have e1:Ag (f:Int) 1=((f-1:Nat):Int):=by rw[Du];omega
  have e2:Ae (a:Int) 1=((a+1:Nat):Int):=by rw[Aj];omega
  have e3:Ag ((a+1:Nat):Int) (h:Int)=((a+1-h:Nat):Int):=by rw[Du];omega
  have e4:geq (a:Int) ((f-1:Nat):Int)=decide (a+1=f):=by
   show decide ((a:Int)=((f-1:Nat):Int))=_;exact decide_eq_decide.2 F0
  rw[e1,e2,e3,e4,Az F6,Aa,Ajr,Alv,Aa,Aly,N5];have ih:=λh' l'=>O1 f g q Q h' (a+1) l' F0 F0;by_cases h1:a+1=f
  ·rw[Abp (Apb h1),Abp (.inl h1),ih _ _ (Ala _) hl F6,Ams];rfl
  ·rw[Abg (by simpa using h1)];by_cases h2:g.toNat.testBit (a %64)=true
   ·rw[Abp h2,Abp (.inr h2),ih _ _ (Ala _) hl F6,Ams];rfl
   ·rw[Abg h2,Abg (λh=>h.elim h1 h2),ih _ _ F0 hl F0]
theorem lD(f:Nat)(g:UInt64)(hf:f<=100000):Lt (f:Int) g=some (N5 f g.toNat f 0 0,0):=by
 unfold Lt Vn SU;rw[Abg (by simp[Cj,Em,GI.toZ];omega)];have:=O1 f g f Aq 0 0 [] F0 F7 (Ala _) hf (Ala _);rw[show((0:Nat):Int)=0 from rfl]at this;rw[this];rfl
theorem gX(f g:Nat):∀(q h a:Nat),(N5 f g q h a).length<=q
 |0,h,a=>Ala _
 |q+1,h,a=>by
  rw[N5];split
  ·rw[Ajc];have:=gX f g q (a+1) (a+1);omega
  ·have:=gX f g q h (a+1);omega
def qM(ns:List Nat):LI:=List.map Int.ofNat ns
theorem EV(ns:List Nat):(qM ns).length=ns.length:=by simp[qM]
theorem lJ(h:i<ns.length):Go.Lv.Ah (qM ns) (i:Int)=some ((ns[i]:Nat):Int):=by
 rw[Cu (by rw[EV];exact h)];simp[qM]
def uV:List Nat->Nat|[]=>0|n::l=>n+uV l
theorem K6(h:i<ns.length):uV (ns.drop i)=ns[i]+uV (ns.drop (i+1)):=by
 rw[List.drop_eq_getElem_cons h];rfl
theorem P9(k:Nat)(hk:k<1000000):∀(r i q:Nat) (a:UInt64),r+i=k %64->r<q->Kv (k:Int) q a (i:Int)=some (a.toNat.testBit r)
 |r,i,0,a,_,h=>absurd h (Amk _)
 |r,i,q+1,a,hr,hq=>by
  simp only[Kv,Wk];have e0:Ed (k:Int) 64=((k %64:Nat):Int):=by unfold Ed;rw[Apg F0];omega
  rw[e0];cases r with
  |zero=>
   rw[Abg (by simp[Cj,GI.toZ];omega)];simp only[Wi,IK];congr 1;rw[YR,pA,Nat.testBit_eq_decide_div_mod_eq];refine decide_eq_decide.2 ⟨λh=>?_,λh=>UInt64.toNat_inj.1 ?_⟩
   ·have:=congrArg UInt64.toNat h;rw[Aqe]at this;simpa using this
   ·rw[Aqe];simpa using h
  |succ r=>
   rw[Abp (by simp[Cj,GI.toZ];omega)];have e2:Ae (i:Int) 1=((i+1:Nat):Int):=by rw[Aj];omega
   rw[e2,P9 k hk r (i+1) q _ F0 F0];congr 1;rw[RX,Ap1,show(2:UInt64).toNat=2 from rfl,Nat.testBit_succ]
theorem Aga(g:UInt64)(k:Nat)(hk:k<1000000):EM g (k:Int)=some (g.toNat.testBit (k %64)):=
 P9 k hk (k %64) 0 Aq g F0 F7
theorem xA(f:Nat)(g:UInt64):∀(q Q h a:Nat) (l:LI),q+a=f->q<Q->h<=a->f<=100000->l.length<=a->Gc (f:Int) g Q (h:Int) (a:Int) l=some (l++N5 f g.toNat q h a)
 |q,0,h,a,l,_,hq,_,_,_=>absurd hq (Amk _)
 |0,Q+1,h,a,l,hf,_,_,_,_=>by
  obtain rfl:a=f:=F0
  simp only[Gc,Ph];rw[Abg (by simp[Cj,GI.toZ]),N5,Al6];rfl
 |q+1,Q+1,h,a,l,hf,hq,hh,hl,hll=>by
  simp only[Gc,Ph];rw[Abp (by simp[Cj,GI.toZ];omega)];have e1:Ag (f:Int) 1=((f-1:Nat):Int):=by rw[Du];omega
  have e2:Ae (a:Int) 1=((a+1:Nat):Int):=by rw[Aj];omega
  have e3:Ag ((a+1:Nat):Int) (h:Int)=((a+1-h:Nat):Int):=by rw[Du];omega
  have e4:geq (a:Int) ((f-1:Nat):Int)=decide (a+1=f):=by
   show decide ((a:Int)=((f-1:Nat):Int))=_;exact decide_eq_decide.2 F0
  rw[e1,e4,Aga g a F0,Aa,N5];have ih:=λh' l'=>xA f g q Q h' (a+1) l' F0 F0;have st:∀t:Bool,Nw (Gc (f:Int) g Q) (f:Int) g (h:Int) (a:Int) l t=some (l++if t=true then((a+1-h:Nat):Int)::N5 f g.toNat q (a+1) (a+1)else N5 f g.toNat q h (a+1)):=by
   intro t;simp only[Nw,GY];rw[e2,e3];cases t with
   |true=>
    rw[Abp rfl,Abp rfl,Az F6,Aa,ih _ _ (Ala _) hl F6,Ams];rfl
   |false=>rw[Abg F4,Abg F4,ih _ _ F0 hl F0]
  by_cases h1:a+1=f
  ·rw[Abp (Apb h1),Abp (.inl h1),st true,Abp rfl]
  ·rw[Abg (by simpa using h1),st];by_cases h2:g.toNat.testBit (a %64)=true
   ·rw[Abp h2,Abp (.inr h2)]
   ·rw[Abg h2,Abg (λh=>h.elim h1 h2)]
theorem mq(f:Nat)(g:UInt64)(hf:f<=100000):Ql (f:Int) g=some (N5 f g.toNat f 0 0):=by
 unfold Ql Wp JC;have:=xA f g f Aq 0 0 [] F0 F7 (Ala _) hf (Ala _);rw[show((0:Nat):Int)=0 from rfl]at this;rw[this];rfl
theorem pJ(f g:Nat):∀(q h a:Nat),q+a=f->h<=a-> (q=0->h=a)->∃ns,N5 f g q h a=qM ns/\uV ns=f-h
 |0,h,a,hf,hh,h0=>⟨[],rfl,by rw[h0 rfl];simp[uV];omega⟩
 |q+1,h,a,hf,hh,_=>by
  rw[N5];by_cases h1:a+1=f\/g.testBit (a %64)=true
  ·rw[Abp h1];obtain⟨ns,g1,g2⟩:=pJ f g q (a+1) (a+1) F0 (Ala _) (λ_=>rfl);exact⟨(a+1-h)::ns,by rw[g1];rfl,by rw[uV,g2];omega⟩
  ·rw[Abg h1];exact pJ f g q h (a+1) F0 F0 (λe=>absurd (.inl F0) h1)
theorem Bh.len{o s p:LB}{f c w r n:Int}{g:LI}{a:Int}{x:LB}{e:Int}(h:Bh o s p f c w r n g a x e):p.length<=s.length/\g.length<=1000/\x.length<=13000000:=by
 cases h with
 |wt W hl hb=>exact⟨hl,W.sz.hg,by have:=W.sz.hx;omega⟩
 |er h0 hc hx hb=>exact⟨Ard,Ard,F0⟩
theorem Ar0{p:Prop}(h:p:=by rw[Af,Ac,EV];simp;omega):p:=h
theorem Ar5{p:Prop}(h:p:=by simp[Cq,Ax,Ac];omega):p:=h
end Go.Pl
namespace Go.Pl
open Go Go.Lv
theorem U5(C W R:Int)(p:LB):Bz C W R p=some 2\/ (∃c w r:Nat,C=(c:Int)/\W=(w:Int)/\R=(r:Int)/\EncOk c w r p/\Bz C W R p=some 0):=by
 have key:∀(m h:Int),Da R=some (m,h)-> (h≠0\/Ca C W=some 2\/64<p.length)-> (∃k,Ca C W=some k)->Bz C W R p=some 2:=by
  intro m h h1 h2 ⟨k,hk⟩;rw[Bz,h1,Aa];simp only;rw[hk,Aa,Abp];rcases h2 with h2|h2|h2
  ·have:Br h 0=true:=by rw[Cq];simpa using h2
   rw[this];simp
  ·rw[hk]at h2;have:=Ap8 h2;subst this;simp[Cq]
  ·have:Em (Ac p) 64=true:=by rw[Ax,Ac];simp;omega
   rw[this];simp
 have hlong:∃m h,Da R=some (m,h)/\ (h≠0↔ ¬(1<=R/\R<=1048576)):=by
  by_cases hR:1<=R/\R<=1048576
  ·obtain⟨r,rfl⟩:=Aig (show 0<=R by omega);exact⟨_,0,V4 F0 F0,by simp;omega⟩
  ·rw[Da,Abp Are];exact⟨0,2,rfl,by simp;omega⟩
 have Ao6:(Ca C W=some 2)\/ (1<=C/\C<=6/\Ch W/\Ca C W=some 0):=by
  rw[Ca];by_cases hC:((Cj C 1)||(Em C 6))=true
  ·rw[Abp hC];exact .inl rfl
  ·rw[Abg hC];simp only[Anl,not_or,Ax,Af,Adz]at hC;by_cases hb:Ch W
   ·have hh:=TH W;rw[rQ hb,Aa,Abg Arj];exact .inr ⟨F0,F0,hb,rfl⟩
   ·rw[(Adt hb).1,Aa,Abp F4];exact .inl rfl
 obtain⟨m,hh,hl1,hl2⟩:=hlong;rcases Ao6 with h1|⟨h1,h2,h3,h4⟩
 ·exact .inl (key m hh hl1 (.inr (.inl h1)) ⟨2,h1⟩)
 ·by_cases hR:1<=R/\R<=1048576
  ·by_cases hp:64<p.length
   ·exact .inl (key m hh hl1 (.inr (.inr hp)) ⟨0,h4⟩)
   ·have hh0:hh=0:=by
     refine Classical.byContradiction λhn=>?_;exact(hl2.1 hn) hR
    obtain⟨c,rfl⟩:=Aig (show 0<=C by omega);obtain⟨r,rfl⟩:=Aig (show 0<=R by omega);have hw:∃w:Nat,W=(w:Int):=by
     rcases h3 with rfl|rfl|rfl
     ·exact⟨8,rfl⟩
     ·exact⟨16,rfl⟩
     ·exact⟨24,rfl⟩
    obtain⟨w,rfl⟩:=hw;refine .inr ⟨c,w,r,rfl,rfl,rfl,⟨F0,h3,F0,F0⟩,?_⟩;rw[Bz,hl1,Aa];simp only;rw[h4,Aa,hh0,Abg Ar5]
  ·exact .inl (key m hh hl1 (.inl (hl2.2 hR)) ⟨0,h4⟩)
section
variable {c w r:Nat} {p:LB} (h:EncOk c w r p)
include h
def ZP(c w r:Nat)(p b:LB):LB×Int:=if Mh c r (nE c w b)then(if RE c w b≠ []\/nE c w b=0 then([],24)else(KD c w r (nE c w b) (XE c w b) p,0))else([],18)
theorem Y8{F:LB}(hF:F.length<=100000):FJ (c:Int) (w:Int) (r:Int) p [] [] [] F true 0 100000=some ((c:Int),(w:Int),(r:Int),p,[],[],[],[],true,0,F,0):=by
 have hck:Jk (c:Int) (w:Int) (r:Int) p [] [] [] F true 0=some 0:=by
  rw[Jk,kX h,Aa];simp only;rw[Abg F4,Abg F4,Abp (by trivial),Abg];have:sV (Ac F) 100000=true:=by rw[Re,Ac];simp;omega
  rw[this];decide
 have htw:=P1 (a:=[]) (λy hy=>by simp at hy) Ard (c:Int) (w:Int) (r:Int) p (x:=[]) (s:=[]) (z:=F) Ard Ard F0 true 0;have hm:Jf 100000 (Ac F)=(F.length:Int):=by rw[eY,Ac];omega
 rw[FJ,hck,Aa,Abg F4,Abg F4,htw,Aa];simp only;rw[hm,JL,Aa,Ajg,Ap3,Bd,Az F6,Aa,Aa,cG,Aa,Ajg,Apa,Aoz]
theorem I2(b:LB)(ns:List Nat)(hb:b.length<=10000)(hn:ns.length<=10000):∀(j i s q:Nat),i+j=ns.length->s+uV (ns.drop i)=b.length->j<q->Mh c r (nE c w (b.take s))->
  Md (qM ns) q (b.drop s) (i:Int) (c:Int) (w:Int) (r:Int) p false 0 (RE c w (b.take s)) (SE c w r (b.take s)) (FE c w r p (b.take s)) []=some (ZP c w r p b)
 |j,i,s,0,_,_,h,_=>absurd h (Amk _)
 |0,i,s,q+1,hi,hs,_,hR=>by
  have e:b.take s=b:=Ai7 (by rw[Anz F0]at hs;simp[uV]at hs;omega);rw[e]at hR⊢;have hfin:=dx h b hR;rw[Md,Vq,Abg Ar0,BQ,NR,hfin,Aa,ZP,Abp hR];by_cases hbad:RE c w b≠ []\/nE c w b=0
  ·rw[Abp hbad,Abp hbad];simp only;rw[Abp F4]
  ·rw[Abg hbad,Abg hbad];have hn1:1<=nE c w b:=by
    rcases Aqh (nE c w b)with h0|h0
    ·exact absurd (.inr h0) hbad
    ·exact h0
   have hcl:=tR h b hR hn1;simp only;rw[Abg F4,Y8 h (by have:=lU hcl p;omega),Aa]
 |j+1,i,s,q+1,hi,hs,hq,hR=>by
  have hil:i<ns.length:=F0
  have hi1:Ae (i:Int) 1=((i+1:Nat):Int):=by rw[Aj];omega
  have hsd:=K6 hil;have ih:=I2 b ns hb hn j (i+1) (s+ns[i]) q F0 F0 F0;have Alm:b.take s++(b.drop s).take ns[i]=b.take (s+ns[i]):=by rw[List.take_add]
  have hfd:=Afb h (b.take s) ((b.drop s).take ns[i]) (by rw[Ahl,Amr];omega) hR;rw[Alm,cT]at hfd;rw[Md,Vq,Abp Ar0,lJ hil,Aa,Aa,JL F0 Ar3,Aa,Ajg,hfd,Aa];by_cases hok:Mh c r (nE c w (b.take (s+ns[i])))
  ·rw[Abp hok];simp only;rw[Vo,EY,Abg F4,cG F0 Ar3,Aa,Ajg,List.drop_drop,hi1];exact ih hok
  ·rw[Abg hok];simp only;rw[Vo,EY,Abp F4,ZP,Abg];intro hh;exact hok (hh.mono (Ap5 (by rw[Ahl];omega)))
theorem Y3(b:LB)(hb:b.length<=10000)(m:UInt64):Ot (c:Int) (w:Int) (r:Int) p b m=some (ZP c w r p b):=by
 obtain⟨ns,h1,h2⟩:=pJ b.length m.toNat b.length 0 0 F0 F0 (λ_=>rfl);have hlen:ns.length<=b.length:=by
  have:=gX b.length m.toNat b.length 0 0;rw[h1,EV]at this;exact this
 have hl:=I2 h b ns hb F0 ns.length 0 0 Aq F0 (by rw[Aq6];omega) F7 (by rw[Apj,show nE c w []=0 from Aq4 _];exact xL c r);rw[Apj,Aq6]at hl;rw[Ot,Pw,Ac,lD _ _ F0,Aa];simp only;rw[Abg F4,Ah4 h,Aa];simp only;rw[Abg F4,h1];exact hl
end
theorem Ar7{p:Prop}(h:p:=by simp only[Cq,Hs,Ac,Anl,Aq8,Adz];omega):p:=h
end Go.Pl
namespace Go.Pl
open Go Go.Lv
theorem xI(a b:Nat)(h:a*b<=9223372036854775807):Bf (a:Int) (b:Int)=((a*b:Nat):Int):=by
 rw[Ia Ark Ark,<-Aln]
theorem wV(a b:Nat)(h:a+b<=9223372036854775807):Ae (a:Int) (b:Int)=((a+b:Nat):Int):=by
 rw[Aj,<-Int.natCast_add]
theorem Ag5{bits:Int}(h:¬Ch bits):Dt bits=some 0:=by
 have h8:¬bits=8:=λe=>h (.inl e);have h16:¬bits=16:=λe=>h (.inr (.inl e));have h24:¬bits=24:=λe=>h (.inr (.inr e));rw[Dt,Abg (by rw[Bj];simpa using h8),Abg (by rw[Bj];simpa using h16),Abg (by rw[Bj];simpa using h24)]
instance Ant(bits:Int):Decidable (Ch bits):=by unfold Ch;infer_instance
def U9(c w:Int):Bool:=decide ((1<=c/\c<=6)/\Ch w)
theorem Aca(c w:Int):Lu c w=some (if U9 c w=true then 0 else 2):=by
 rw[Lu];by_cases hw:Ch w
 ·rw[yZ hw,Aa];simp only;by_cases hc:1<=c/\c<=6
  ·rw[Abg Ar9,U9,Apb ⟨hc,hw⟩,Abp rfl]
  ·rw[Abp Ar9,U9,Alp (λh=>hc h.1),Abg F4]
 ·rw[Ab2 hw,Aa];simp only;rw[Abp (by simp[Cq]),U9,Alp (λh=>hw h.2),Abg F4]
theorem jq(c w:Int):Ca c w=some (if U9 c w=true then 0 else 2):=by
 rw[Ca];by_cases hc:1<=c/\c<=6
 ·rw[Abg Are];by_cases hw:Ch w
  ·have:=(TH w).1;rw[rQ hw,Aa,Abg Arj,U9,Apb ⟨hc,hw⟩,Abp rfl]
  ·rw[Ag5 hw,Aa,Abp F4,U9,Alp (λh=>hw h.2),Abg F4]
 ·rw[Abp Are,U9,Alp (λh=>hc h.1),Abg F4]
def RK(r:Int):Bool:=decide (1<=r/\r<=1048576)
def jY(r:Int):Int:=if RK r=true then(Ak r.toNat:Int)else 0
theorem nk(r:Int):Nn r=some (jY r,if RK r=true then 0 else 2):=by
 by_cases h:1<=r/\r<=1048576
 ·obtain⟨R,rfl⟩:=Aig (show 0<=r by omega);rw[bM F0 F0,jY,RK,Apb h];rfl
 ·rw[Nn,Abp Are,jY,RK,Alp h];rfl
theorem zG(r:Int):Da r=some (jY r,if RK r=true then 0 else 2):=by
 by_cases h:1<=r/\r<=1048576
 ·obtain⟨R,rfl⟩:=Aig (show 0<=r by omega);have e:Ba (Bf (R:Int) 256) 245=((R*256/245:Nat):Int):=by
   rw[Ia,show(R:Int)*256=((R*256:Nat):Int) by omega];exact Qy
  rw[Da,Abg Are,e,jY,RK,Apb h,Abp rfl,Abp rfl,Ak,show(R:Int).toNat=R from rfl,Ana 256 R];by_cases h0:R*256/245=0
  ·rw[Abp Arj];congr 2;omega
  ·rw[Abg Arj];congr 2;omega
 ·rw[Da,Abp Are,jY,RK,Alp h];rfl
def V1(C w:Int)(c L:Nat)(rest:LB)(l:LX)(fr:List LB)(out:LB):Bool:=
 decide (out=[]/\rest.length<c*wB w/\l.length %c=0/\l.length/c<L/\fr.length<=1000/\Bc w l=some 0/\fr.length+(if l=[]then 0 else 1)<=1000/\ (fr.length*L+l.length/c)*c<=4000/\
  ∀x∈fr,5<=x.length/\x.length<= (81*L*c+7)/8+4)
section
variable {w:Int} {c L:Nat} (hw:Ch w) (hc:1<=c/\c<=6) (hL:1<=L/\L<=1100000)
include hw hc hL
omit hw in
theorem uo:Ae (Ba (Ae (Bf (Bf 81 (L:Int)) (c:Int)) 7) 8) 4=(((81*L*c+7)/8+4:Nat):Int):=by
 have h1:81*L*c<=81*1100000*6:=Anj F0 hc.2;rw[show(81:Int)=((81:Nat):Int)from rfl,xI 81 L F0,xI (81*L) c F0,show(7:Int)=((7:Nat):Int)from rfl,wV (81*L*c) 7 F0,show(8:Int)=((8:Nat):Int)from rfl,Qy,show(4:Int)=((4:Nat):Int)from rfl,wV _ 4 F0]
omit hw in
theorem qb(fr:List LB)(hf:fr.length<=2000):∀(j i q:Nat),i+j=fr.length->j<q->Dl fr (L:Int) (c:Int) q (i:Int)=some (decide (∀x∈fr.drop i,5<=x.length/\x.length<= (81*L*c+7)/8+4))
 |0,i,q+1,hi,_=>by
  rw[Dl,Il,Abg F3,show i=fr.length by omega,Apa];rfl
 |j+1,i,q+1,hi,hq=>by
  have hlt:i<fr.length:=F0
  have ih:=qb fr hf j (i+1) q F0 F0;rw[Dl,Il,Abp F3,Cu hlt,Aa,Ox,Wx,uo hc hL,drop_cons hlt];generalize(81*L*c+7)/8+4=K at*
  by_cases h:5<=fr[i].length/\fr[i].length<=K
  ·rw[Abg Asa,Wm,Wr,Aj];refine ih.trans ?_;congr 1;rw[Alr,Adz,Adz,List.forall_mem_cons];exact⟨λhh=>⟨h,hh⟩,λhh=>hh.2⟩
  ·rw[Abp Asa,Wy,IH,IV,IU];have e:Jz (i:Int) 0=true:=by rw[Hs];simp
   rw[e,Alp (λhh=>h (hh _ Am5))];rfl
omit hw in
theorem Aey(C:Int)(fr:List LB)(hf:fr.length<=2000)(f2:Int)(o k:LB)(b:LX)(m:LB)(p:Bool)(u:Int):∀(j i q:Nat),i+j=fr.length->j<q->Ec (L:Int) (c:Int) C f2 o k b fr m p u q (i:Int)=some (decide (∀x∈fr.drop i,5<=x.length/\x.length<= (81*L*c+7)/8+4))
 |0,i,q+1,hi,_=>by
  rw[Ec,Jn,Abg F3,show i=fr.length by omega,Apa];rfl
 |j+1,i,q+1,hi,hq=>by
  have hlt:i<fr.length:=F0
  have ih:=Aey C fr hf f2 o k b m p u j (i+1) q F0 F0;rw[Ec,Jn,Abp F3,Cu hlt,Aa,Aa,uo hc hL,drop_cons hlt];generalize(81*L*c+7)/8+4=K at*
  by_cases h5:5<=fr[i].length
  ·rw[Abg (by simp[Af,Ac];omega)];by_cases h:fr[i].length<=K
   ·rw[Abg (by simp[Ax,Ac];omega),Aj];refine ih.trans ?_;congr 1;rw[Alr,Adz,Adz,List.forall_mem_cons];exact⟨λhh=>⟨⟨h5,h⟩,hh⟩,λhh=>hh.2⟩
   ·rw[Abp (by simp[Ax,Ac];omega),Alp (λhh=>h (hh _ Am5).2)]
  ·rw[Abp (by simp[Af,Ac];omega),Alp (λhh=>h5 (hh _ Am5).1)]
theorem Aau(R:Int)(p rest:LB)(l:LX)(fr:List LB)(out:LB)(u:Bool)(v:Int)(h1:l.length<=4000)(h2:fr.length<=2000):
  Ni (c:Int) w R p rest l fr out u v (L:Int)=some (V1 w w c L rest l fr out):=by
 have hok:Hq (Br (c:Int) 0)=some ():=Cf Ari;have hgs:Ba (Ac l) (c:Int)=((l.length/c:Nat):Int):=by rw[Ac];exact Qy
 have him:Ed (Ac l) (c:Int)=((l.length %c:Nat):Int):=by rw[Ac];exact EF _ _
 have hmo:Qf (c:Int) w=some ((c*wB w:Nat):Int):=by
  rw[Qf];obtain⟨W,rfl⟩:∃W:Nat,w=W:=by
   rcases hw with h|h|h<;>exact⟨_,h⟩
  rw[Z4 hc.2 hw]
 rw[Ni,Rk];simp only[hok,hgs,him,hmo,Aa];by_cases c1:out=[]
 ·rw[Abg (by subst c1;decide)];by_cases c2:rest.length<c*wB w
  ·rw[Abg Arx];by_cases c3:l.length %c=0
   ·rw[Abg (by rw[Cq,c3];decide)];by_cases c4:l.length/c<L/\fr.length<=1000
    ·rw[Abg (by simp[Hs,Ax,Ac];omega),Pb,Pe,fU hw l h1];obtain⟨e,he⟩:=uQ hw l h1;rw[he,Aa];by_cases c5:e=0
     ·subst c5;rw[Abg F4];have hlc:l.length/c<=4000:=Nat.le_trans (Am3 _ _) h1;have hGL:fr.length*L<=2000*1100000:=Anj h2 hL.2;have Aqy:(fr.length*L+l.length/c)*c<= (2000*1100000+4000)*6:=Anj F0 hc.2;have key:∀M:Nat,M<=3000->Kw (L:Int) (c:Int) w R p rest l fr out u v (M:Int)=some (decide (M<=1000/\ (fr.length*L+l.length/c)*c<=4000/\∀x∈fr,5<=x.length/\x.length<= (81*L*c+7)/8+4)):=by
       intro M hM;rw[Kw,Ku,Om,hok,Aa,Aa,Og,Aa,hgs,Ac,xI fr.length L F0,wV _ _ F0,xI _ c F0];by_cases c6:M<=1000/\ (fr.length*L+l.length/c)*c<=4000
       ·rw[Abg (by simp only[Re,Alq,Bool.and_eq_false_iff,Anq];omega),Pm,Ks,Oz];refine(qb hc hL fr h2 fr.length 0 Aq F0 F7).trans ?_;rw[Aq6];congr 1;rw[Alr,Adz,Adz];exact⟨λh=>⟨c6.1,c6.2,h⟩,λh=>h.2.2⟩
       ·rw[Abp (by simp only[Re,Alq,Bool.and_eq_false_iff,Anq];omega),Alp (λh=>c6 ⟨h.1,h.2.1⟩)]
      have fin:∀M:Nat,M=fr.length+(if l=[]then 0 else 1)->some (decide (M<=1000/\ (fr.length*L+l.length/c)*c<=4000/\∀x∈fr,5<=x.length/\x.length<= (81*L*c+7)/8+4))=some (V1 w w c L rest l fr out):=by
       intro M hM;congr 1;rw[V1,Alr,Adz,Adz,hM];exact⟨λh=>⟨c1,c2,c3,c4.1,c4.2,he,h⟩,λh=>h.2.2.2.2.2.2⟩
      by_cases c0:l=[]
      ·rw[Abg (by subst c0;decide),Ac,key fr.length F0];exact fin _ (by rw[Abp c0];rfl)
      ·rw[Abp (by rw[iI];simpa using c0),Ac,Aj,show((fr.length:Int)+1)=((fr.length+1:Nat):Int) by omega,key (fr.length+1) F0];exact fin _ (by rw[Abg c0])
     ·rw[Abp (by rw[Cq];simpa using c5),V1,Alp (λh=>c5 (by have:=h.2.2.2.2.2.1;rw[he]at this;exact Ap8 this))]
    ·rw[Abp (by simp[Hs,Ax,Ac];omega),V1,Alp (λh=>c4 ⟨h.2.2.2.1,h.2.2.2.2.1⟩)]
   ·rw[Abp Ari,Abp Ard,V1,Alp (λh=>c3 h.2.2.1)]
  ·rw[Abp Arx,Abp trivial,Abp Ard,V1,Alp (λh=>c2 h.2.1)]
 ·rw[Abp (by rw[iI];simpa using c1),Abp trivial,Abp trivial,Abp Ard,V1,Alp (λh=>c1 h.1)]
theorem Acb(R:Int)(hR:jY R=L)(p rest:LB)(l:LX)(fr:List LB)(out:LB)(u:Bool)(v:Int)(h1:l.length<=4000)(h2:fr.length<=2000):
  Np (c:Int) w R p rest l fr out u v=some (V1 w w c L rest l fr out):=by
 have hok:Hq (Br (c:Int) 0)=some ():=Cf Ari;have hgs:Ba (Ac l) (c:Int)=((l.length/c:Nat):Int):=by rw[Ac];exact Qy
 have him:Ed (Ac l) (c:Int)=((l.length %c:Nat):Int):=by rw[Ac];exact EF _ _
 have hmo:Gg (c:Int) w=some ((c*wB w:Nat):Int):=by
  rw[Gg];obtain⟨W,rfl⟩:∃W:Nat,w=W:=by
   rcases hw with h|h|h<;>exact⟨_,h⟩
  rw[Z4 hc.2 hw]
 have hlg:Gk (c:Int) w R p rest l fr out u v=some (L:Int):=by rw[Gk,zG,Aa,hR]
 have hLc:L*c<=1100000*6:=Anj hL.2 hc.2;have hlm:Bf (L:Int) (c:Int)=((L*c:Nat):Int):=xI L c F0;obtain⟨e,he⟩:=uQ hw l h1;rw[Np,Qt];simp only[hlg,hok,him,hmo,hlm,he,Aa];by_cases c1:out=[]
 ·rw[Abg (by subst c1;decide)];by_cases c2:rest.length<c*wB w
  ·rw[Abg Arx];by_cases c3:l.length %c=0/\l.length/c<L
   ·have c34:l.length<L*c:=(Nat.div_lt_iff_lt_mul F0).1 c3.2;rw[Abg Ar7];by_cases c5:e=0/\fr.length<=1000
    ·obtain⟨c5,c4⟩:=c5;subst c5;rw[Abg Ar5,Qa,Py];have hlc:l.length/c<=4000:=Nat.le_trans (Am3 _ _) h1;have hGL:fr.length*L<=2000*1100000:=Anj h2 hL.2;have key:∀M:Nat,M<=3000->Qk (L:Int) (c:Int) w R p rest l fr out u v (M:Int)=some (decide (M<=1000/\ (fr.length*L+l.length/c)*c<=4000/\∀x∈fr,5<=x.length/\x.length<= (81*L*c+7)/8+4)):=by
      intro M hM;have e4:Ba 4000 (c:Int)=((4000/c:Nat):Int):=Qy (a:=4000) F4;rw[Qk,Qc,Cv,hok,Aa,hlg,Aa,Aa,hgs,Ac,xI fr.length L F0,wV _ _ F0,Kh,hok,Aa,e4];have hdiv:(fr.length*L+l.length/c<=4000/c)↔(fr.length*L+l.length/c)*c<=4000:=Nat.le_div_iff_mul_le F0;by_cases c6:M<=1000
      ·rw[Abp Arw,Aa];by_cases c7:(fr.length*L+l.length/c)*c<=4000
       ·have c8:=hdiv.2 c7;rw[Abg (by simp only[Re,Alq,Anq];omega),Yu,Qn,Xc];refine(Aey hc hL w fr h2 R p rest l out u v fr.length 0 Aq F0 F7).trans ?_;rw[Aq6];congr 1;rw[Alr,Adz,Adz];exact⟨λh=>⟨c6,c7,h⟩,λh=>h.2.2⟩
       ·have c8:¬(fr.length*L+l.length/c<=4000/c):=λh=>c7 (hdiv.1 h);rw[Abp (by simp only[Re,Alq,Anq];omega),Alp (λh=>c7 h.2.1)]
      ·rw[Abg Arw,Aa,Abp F4,Alp (λh=>c6 h.1)]
     have fin:∀M:Nat,M=fr.length+(if l=[]then 0 else 1)->some (decide (M<=1000/\ (fr.length*L+l.length/c)*c<=4000/\∀x∈fr,5<=x.length/\x.length<= (81*L*c+7)/8+4))=some (V1 w w c L rest l fr out):=by
      intro M hM;congr 1;rw[V1,Alr,Adz,Adz,hM];exact⟨λh=>⟨c1,c2,c3.1,c3.2,c4,he,h⟩,λh=>h.2.2.2.2.2.2⟩
     by_cases c0:l=[]
     ·rw[Abg (by subst c0;decide),Ac,key fr.length F0];exact fin _ (by rw[Abp c0];rfl)
     ·rw[Abp (by rw[iI];simpa using c0),Ac,Aj,show((fr.length:Int)+1)=((fr.length+1:Nat):Int) by omega,key (fr.length+1) F0];exact fin _ (by rw[Abg c0])
    ·rw[Abp Ar5,V1,Alp (λh=>c5 ⟨by have:=h.2.2.2.2.2.1;rw[he]at this;exact Ap8 this,h.2.2.2.2.1⟩)]
   ·have c34:l.length %c≠0\/L*c<=l.length:=by
     by_cases h0:l.length %c=0
     ·exact .inr (by have:=mt (Nat.div_lt_iff_lt_mul (show 0<c by omega) (x:=l.length) (y:=L)).2 (λh=>c3 ⟨h0,h⟩);omega)
     ·exact .inl h0
    rw[Abp Ar7,Abp Ard,V1,Alp (λh=>c3 ⟨h.2.2.1,h.2.2.2.1⟩)]
  ·rw[Abp Arx,Abp Ard,Abp Ard,V1,Alp (λh=>c2 h.2.1)]
 ·rw[Abp (by rw[iI];simpa using c1),Abp trivial,Abp Ard,Abp Ard,V1,Alp (λh=>c1 h.1)]
end
theorem empty_eq(b:LB)(f:LX)(g:List LB)(hb:b.length<=100000)(hf:f.length<=100000)(hg:g.length<=100000):geq (Ae (Ae (Ac b) (Ac f)) (Ac g)) 0=((geq (Ac b) 0&&geq (Ac f) 0)&&geq (Ac g) 0):=by
 rw[Ac,Ac,Ac,wV _ _ F0,wV _ _ F0];simp only[Bj];rw[Alr];simp only[Abs,Ape];omega
theorem Aag(m n o:Int)(p b:LB)(f:LX)(g:List LB)(h:LB)(k:Bool)(a:Int)(hb:b.length<=100000)(hf:f.length<=4000)(hg:g.length<=2000)(hh:h.length<=1000000):
  ∃E,Jk m n o p b f g h k a=some E/\Ix m n o p b f g h k a=some E:=by
 rw[Jk,Oq,nk,Aa,Ix,Bz,zG,Aa];simp only;rw[Aca,jq,Aa,Aa,Aa];simp only;by_cases hR:U9 m n=true/\RK o=true/\p.length<=64
 ·obtain⟨h1,h2,h3⟩:=hR;have hp1:sV (Ac p) 64=true:=by rw[Re,Ac];simp;omega
  have hp2:Em (Ac p) 64=false:=by rw[Ax,Ac];simp;omega
  have hx:(if((Br (0:Int) 0||Br (0:Int) 0)||false)=true then some (2:Int)else some 0)=some 0:=rfl;have hy:¬(Br (0:Int) 0=true):=F4
  rw[Abp h1,Abp h2,hp1,hp2,Abg F4,hx,Aa,Abg hy];by_cases ha:Br a 0=true
  ·rw[Abp ha,Abp ha,empty_eq b f g F0 F0 F0];generalize((geq (Ac b) 0&&geq (Ac f) 0)&&geq (Ac g) 0)=z;have e1:geq (Ac h) 0=decide (h=[]):=Ag2 h;have e2:Em (Ac h) 0=decide (h≠ []):=iI h;rw[e1,e2];by_cases hq:(((((geq a 18)||(geq a 24))&&(!k))&&z)&&decide (h=[]))=true
   ·rw[Abg (by rw[hq];decide),Abg]
    ·exact⟨0,rfl,rfl⟩
    ·simp only[Abs,Anl,Alq,Adz,Bj,Cq,Aq8,Ape]at hq⊢;simp[hq];omega
   ·rw[Abp (by rw[Bool.eq_false_iff.2 hq];rfl),Abp]
    ·exact⟨8,rfl,rfl⟩
    ·simp only[Abs,Anl,Alq,Adz,Bj,Cq,Aq8,Ape]at hq⊢;by_cases e3:h=[]
     ·by_cases e4:z=true
      ·by_cases e5:k=true
       ·exact .inl (.inl (.inr e5))
       ·exact .inl (.inl (.inl (by
         simp only[Bool.not_eq_true]at e5;simp[e3,e4,e5]at hq;omega)))
      ·exact .inl (.inr (by simpa using e4))
     ·exact .inr e3
  ·rw[Abg ha,Abg ha];cases k with
   |true=>
    rw[Abp rfl,Abp rfl,empty_eq b f g F0 F0 F0];generalize((geq (Ac b) 0&&geq (Ac f) 0)&&geq (Ac g) 0)=z;by_cases hq:(z&&sV (Ac h) 100000)=true
    ·rw[Abg (by rw[hq];decide),Abg]
     ·exact⟨0,rfl,rfl⟩
     ·simp only[Abs,Re,Adz,Ac]at hq;simp[hq.1,Ax,Ac];omega
    ·rw[Abp (by rw[Bool.eq_false_iff.2 hq];rfl),Abp]
     ·exact⟨8,rfl,rfl⟩
     ·cases z with
      |false=>rfl
      |true=>
       simp[Re,Ac]at hq;simp[Ax,Ac];omega
   |false=>
    rw[Abg F4,Abg F4];have hs1:=h1;have hs2:=h2;rw[U9,Adz]at hs1;rw[RK,Adz]at hs2;obtain⟨C,rfl⟩:=Aig (show 0<=m by omega);have hLo:jY o=((Ak o.toNat:Nat):Int):=by rw[jY,Abp h2]
    have hL:1<=Ak o.toNat/\Ak o.toNat<=1100000:=⟨Kl _,BM F0⟩;rw[hLo,Aau hs1.2 F0 hL o p b f g h false a hf hg,Acb hs1.2 F0 hL o hLo p b f g h false a hf hg,Aa];generalize V1 n n C (Ak o.toNat) b f g h=B;cases B
    ·exact⟨8,rfl,rfl⟩
    ·exact⟨0,rfl,rfl⟩
 ·have h8:(((geq (if U9 m n=true then(0:Int)else 2) 0&&geq (if RK o=true then(0:Int)else 2) 0)&&sV (Ac p) 64))=false:=by
   rw[Bool.eq_false_iff];intro e;simp only[Abs,Re,Adz,Ac]at e;refine hR ⟨?_,?_,F0⟩
   ·cases hq:U9 m n with
    |true=>rfl
    |false=>rw[hq]at e;exact absurd e.1.1 F4
   ·cases hq:RK o with
    |true=>rfl
    |false=>rw[hq]at e;exact absurd e.1.2 F4
  rw[h8];refine⟨8,rfl,?_⟩;rw[Abp,Aa,Abp F4]
  ·simp only[Anl,Ax,Adz,Ac];cases hq:U9 m n with
   |false=>exact .inl (.inl F4)
   |true=>
    cases hq2:RK o with
    |false=>exact .inl (.inr F4)
    |true=>exact .inr (by have:¬p.length<=64:=λh=>hR ⟨hq,hq2,h⟩;omega)
theorem Ar1{p:Prop}(h:p:=by simp only[Abr,Cr];omega):p:=h
end Go.Pl
namespace Go.Pl
open Go Go.Lv
theorem Ajn{n w:Nat}(hn:n<2^64)(hw:w<=1000):Al (Ad (n:Int):UInt64) (w:Int)=some (Zw n w):=by
 rw[FA,UE _ w hw,Ug hn]
theorem Amo{a:LB}(ha:a.length<=10000000):∃k,Fk a=some k/\Al (Ad k:UInt64) 4=some (Zw (Le a).toNat 4):=by
 have hlt:=(Le a).toNat_lt;refine⟨Le a,Ab9 a F0,?_⟩;rw[Db,show(4:Int)=((4:Nat):Int)from rfl,UE _ 4 F0,Ug F0]
theorem Aof{f c w r n:Nat}(hf:f<2^64)(hc:c<2^64)(hw:w<2^64)(hr:r<2^64)(hn:n<2^64):Sm (f:Int) (c:Int) (w:Int) (r:Int) (n:Int)=some (B5 f c w r n):=by
 have w2:∀{m:Nat},m<2^64->Al (Ad (m:Int):UInt64) 2=some (Zw m 2):=λh=>Ajn (w:=2) h F0;have w4:∀{m:Nat},m<2^64->Al (Ad (m:Int):UInt64) 4=some (Zw m 4):=λh=>Ajn (w:=4) h F0;obtain⟨k,k1,k2⟩:=Amo (a:=uP f c w r n) (by rw[aF];omega);have e0:([(84:UInt8),(84:UInt8),(65:UInt8),(49:UInt8)]:LB)=BR:=rfl;have hm:BR.length=4:=rfl;rw[Sm,e0,w2 hf,Aa,Az Asb,Aa,w2 hc,Aa,Az Ar1,Aa,w2 hw,Aa,Az Ar1,Aa,w4 hr,Aa,Az Ar1,Aa,w4 hn,Aa,Az Ar1,Aa];change (Fk (uP f c w r n)).bind _=_;rw[k1,Aa,k2,Aa];change (Bx (uP f c w r n) _).bind _=_;rw[Az (by rw[aF,Cr];omega),Aa];rfl
theorem Al3(l:LI)(hl:l.length<=1000)(h5:∀x∈l,0<=x/\x<=100000):Ys l=some (N3 l):=by
 have loop:∀(j i q:Nat),i+j=l.length->j<q->Gn l q (i:Int) (hH (l.take i))=some (N3 l):=by
  intro j
  induction j with
  |zero=>
   intro i q hi hq;obtain⟨q,rfl⟩:∃q',q=q'+1:=⟨q-1,F0⟩;obtain⟨k,k1,k2⟩:=Amo (a:=hH l) (by rw[JV];omega);rw[Gn,My,Abg F3,Ai7 F0,Uc,DJ,k1,Aa,k2,Aa,Az (by rw[JV,Cr];omega),Aa];rfl
  |succ j ih=>
   intro i q hi hq;obtain⟨q,rfl⟩:∃q',q=q'+1:=⟨q-1,F0⟩;have ih:=ih (i+1) q F0 F0;obtain⟨x5,x6⟩:=h5 l[i] (Ap2 _);obtain⟨v,hv⟩:=Aig (show 0<=l[i] by omega);rw[Jb F0,wF,hv,Ajg]at ih;have w4:Al (Ad (v:Int):UInt64) 4=some (Zw v 4):=Ajn (w:=4) F0 F0;rw[Gn,My,Abp F3,Cu,Aa,hv,w4,Aa,Az (by rw[JV,Cr,Ahl];omega),Aa,Aj];exact ih
 exact loop l.length 0 Aq F0 F7
theorem Aim{a:List LB}(ha:∀y∈a,y.length<=17179869184)(ha2:a.length<=100000)(b f g:Int)(h:LB){x:LB}{s:LX}{z:LB}(hx:x.length<=17179869184)(hs:s.length<=17179869184)(hz:z.length<=17179869184)(k:Bool)(m:Int):Nq b f g h x s a z k m=some (b,f,g,h,x,s,a,z,k,m):=by
 have loop:∀(j i q:Nat),i+j=a.length->j<q->Hf b f g h a k m x s z q (i:Int) (a.take i)=some (b,f,g,h,x,s,a,z,k,m):=by
  intro j
  induction j with
  |zero=>
   intro i q hi hq;obtain⟨q,rfl⟩:∃q',q=q'+1:=⟨q-1,F0⟩;rw[Hf,Oc,Abg F3,Ai7 F0];rfl
  |succ j ih=>
   intro i q hi hq;obtain⟨q,rfl⟩:∃q',q=q'+1:=⟨q-1,F0⟩;have ih:=ih (i+1) q F0 F0;rw[Jb F0]at ih;have h1:=ha a[i] (Ap2 _);rw[Hf,Oc,Abp F3,Cu,Aa,Az F6,Aa,Aoz,Az F6,Aa,Aj];exact ih
 have h0:=loop a.length 0 Aq F0 F7;rw[Nq,Uy,Az F6,Aa,Az F6,Aa,Az F6,Aa];exact h0
theorem Ahe(p:LB):Im p=some (Xg p:Int):=by
 rw[Im,Xg];by_cases h0:p=[]
 ·rw[Abp h0,Abp (by simpa using h0)];rfl
 ·rw[Abg h0,Abg (by simpa using h0)];rfl
theorem Aiq{c w r n:Nat}{x:LX}(hcl:ClipOk c w r n x){p:LB}(hp:p.length<=64)(k:LB)(ab:LX):GL (c:Int) (w:Int) (r:Int) p k [] false 0 (Xg p:Int) (n:Int) ab (JH c w r n x p)=some (KD c w r n x p):=by
 have hfn:=mh hcl p;have hle:=lU hcl p;have hlen:=kG (c:=c) (w:=w) (r:=r) (n:=n) (x:=x) p;have h5:=T9 hcl p;have Ao7:=P2 p;have hll:=Uz (JH c w r n x p);have hnn:=Aih (JH c w r n x p);have hsh:(Xg p=1\/Xg p=2)/\ (1<=c/\c<=6)/\ (w=8\/w=16\/w=24)/\ (1<=r/\r<=1048576)/\1<=n:=by simpa only[Tl,Adz]using hcl.shape _ Ao7
 have Am4:=hcl.le;have htb:=K1 hcl p;have h6:∀z∈Hb (JH c w r n x p),0<=z/\z<=100000:=by
  simp only[tP,Abs,Adz]at htb;obtain⟨⟨_,_⟩,h3⟩:=htb;have h4:=(pF _ 100000 F0).1 h3;have h6:=V8 h4.1;exact λz hz=>⟨hnn z hz,by have:=h6 z hz;omega⟩
 have hh:=jX (Xg p) c w r n;have ht:=tN (Hb (JH c w r n x p));have hdl:=uN p;have hfin:Nc (c:Int) (w:Int) (r:Int) p k ab [] false 0 (Xg p:Int) (n:Int) (Hb (JH c w r n x p)) (JH c w r n x p).flatten (JH c w r n x p)=some (KD c w r n x p):=by
  rw[Nc,DC,Aof F0 F0 F0 F0 F0,Aa];by_cases h0:p=[]
  ·have e2:iJ p=[]:=by rw[iJ,Abp h0]
   rw[e2,List.length_nil]at hdl;rw[Abg (by simp[h0]),To,Tu,Al3 _ F0 h6,Aa,Az,Aa,Az Arq,Aa,KD,e2];simp
  ·have e2:iJ p=Zw (FR p).toNat 8:=by rw[iJ,Abg h0]
   rw[e2,Cr]at hdl;rw[Abp (by simpa using h0),yw p hp,Aa,Az Asb,Aa,To,Tu,Al3 _ F0 h6,Aa,Az (by rw[Abr,Cr];omega),Aa,Az (by rw[Abr,Abr,Cr];omega),Aa,KD,e2];simp
 have loop:∀(j i q:Nat),i+j=(JH c w r n x p).length->j<q->Hk (c:Int) (w:Int) (r:Int) p k ab [] false 0 (Xg p:Int) (n:Int) (JH c w r n x p) q (i:Int) (Hb ((JH c w r n x p).take i)) ((JH c w r n x p).take i).flatten=some (KD c w r n x p):=by
  intro j
  induction j with
  |zero=>
   intro i q hi hq;obtain⟨q,rfl⟩:∃q',q=q'+1:=⟨q-1,F0⟩;rw[Hk,Oa,Abg F3,Ai7 F0];exact hfin
  |succ j ih=>
   intro i q hi hq;obtain⟨q,rfl⟩:∃q',q=q'+1:=⟨q-1,F0⟩;have ih:=ih (i+1) q F0 F0;have hlt:i<(JH c w r n x p).length:=F0
   have hll:(Hb ((JH c w r n x p).take i)).length=i:=by rw[Uz,Ahl];omega
   have hsn:Hb ((JH c w r n x p).take i)++[Ac (JH c w r n x p)[i]]=Hb ((JH c w r n x p).take (i+1)):=by rw[Jb F0,Hb,Hb,Apk];rfl
   have hsf:((JH c w r n x p).take i).flatten++(JH c w r n x p)[i]=((JH c w r n x p).take (i+1)).flatten:=by rw[Jb F0,Aqb];simp
   have hfl:((JH c w r n x p).take (i+1)).flatten.length<= (JH c w r n x p).flatten.length:=by
    have:=congrArg (λl:List LB=>l.flatten.length) (Aqi (i+1) (JH c w r n x p));simp only[Aqb,Abr]at this;omega
   have hfa:=congrArg List.length hsf;rw[Abr]at hfa;rw[Hk,Oa,Abp F3,Cu hlt,Aa,Aa,Az F6,Aa,Aa,Aa,Az,Aa,hsn,hsf,Aj];exact ih
 exact loop (JH c w r n x p).length 0 Aq F0 F7
section
variable {c w r:Nat} {p:LB} (h:EncOk c w r p)
include h
theorem Ab6{t:LB}(hR:Mh c r (nE c w t)):(RE c w t).length<=18/\ (SE c w r t).length<=4000/\ (FE c w r p t).length<=1001/\ (∀y∈FE c w r p t,y.length<=17179869184)/\nE c w t<=4000:=by
 have h1:=rA h t;have hs:=fY h;have hsl:=KZ (r:=r) h t;have hfl:=ZH (c:=c) (w:=w) (r:=r) (p:=p) t;have hn4:=hR.1;have hmod:nE c w t %Ak r*c<=nE c w t*c:=Aeb _ (Aqw _ _);have hlt:=BM h.rate.2;have hLc:Ak r*c<=1100000*6:=Anj F0 h.ch.2;have hn:nE c w t<=4000:=by
  have:nE c w t*1<=nE c w t*c:=Apl _ h.ch.1;omega
 have hk:kE c w r t<=1001:=by
  rcases hR.2 with h0|h0
  ·rw[kE,h0,Aq4];omega
  ·rw[kE];have h2:nE c w t/Ak r<= (nE c w t-1+Ak r)/Ak r:=Ap5 (by have:=Kl r;omega);rw[Nat.add_div_right _ (Kl r)]at h2;omega
 exact⟨F0,F0,F0,λy hy=>by have:=Z5 h t hR y hy;omega,hn⟩
theorem Ad5{t:LB}(hR:Mh c r (nE c w t)):Ix (c:Int) (w:Int) (r:Int) p (RE c w t) (SE c w r t) (FE c w r p t) [] false 0=some 0:=by
 obtain⟨s1,s2,s3,s4,s5⟩:=Ab6 h hR;obtain⟨E,e1,e2⟩:=Aag (c:Int) (w:Int) (r:Int) p (RE c w t) (SE c w r t) (FE c w r p t) [] false 0 F0 F0 F0 Ard;rw[wI h t hR]at e1;rw[e2,<-e1]
theorem Ais(m:LB)(n:LX)(o:List LB)(x:LB)(u:Bool)(v:Int):Gk (c:Int) (w:Int) (r:Int) p m n o x u v=some (Ak r:Int):=by
 rw[Gk,V4 h.rate.1 h.rate.2,Aa]
theorem W8{t:LB}(hR:Mh c r (nE c w t))(m x:LB)(u:Bool)(v:Int):Cv (c:Int) (w:Int) (r:Int) p m (SE c w r t) (FE c w r p t) x u v=some (nE c w t:Int):=by
 obtain⟨s1,s2,s3,s4,s5⟩:=Ab6 h hR;have hc:=h.ch;obtain⟨d1,d2⟩:=qS (r:=r) h t;have hsl:=KZ (r:=r) h t;have hfl:=ZH (c:=c) (w:=w) (r:=r) (p:=p) t;have Alk:Ba (Ac (SE c w r t)) (c:Int)=((nE c w t %Ak r:Nat):Int):=by
  rw[Ac,hsl,Qy,Aqz _ F0]
 rw[Cv,Cf Ari,Aa,Ais h,Aa,Alk,Ac,hfl,Ia Ark Ark,<-Aln,Aj,<-Int.natCast_add,<-d1]
theorem ji(T:LB)(d:UInt8)(hR:Mh c r (nE c w T)):Jy (c:Int) (w:Int) (r:Int) p (RE c w T) (SE c w r T) (FE c w r p T) [] false 0 d=some (cT c w r p (T++[d])):=by
 obtain⟨s1,s2,s3,s4,s5⟩:=Ab6 h hR;have hc:=h.ch;have hs:=fY h;have htl:=rA h T;have hsl:=KZ (r:=r) h T;have hfl:=ZH (c:=c) (w:=w) (r:=r) (p:=p) T;have hlt:=BM h.rate.2;have hmo:Gg (c:Int) (w:Int)=some (gW c w:Int):=by rw[Gg,Z4 hc.2 h.bits];rfl
 rw[Jy,Yw,Az F6,Aa,hmo,Aa];by_cases hlt1:(RE c w T).length+1<gW c w
 ·obtain⟨m1,m2,m3⟩:=Aeo h T d hlt1;obtain⟨g1,g2,g3⟩:=Ain h T (b:=d) (r:=r) (p:=p) hlt1;rw[Abp Arv,cT,m1,Abp hR,m3,g2,g3]
 ·obtain⟨m0,m1,m2,m3⟩:=Aee h T d hlt1;obtain⟨g1,g2⟩:=Ai0 h T (b:=d) (r:=r) (p:=p) hlt1;have hq4:Ba (4000:Int) (c:Int)=((4000/c:Nat):Int):=by rw[show(4000:Int)=((4000:Nat):Int)from rfl,Qy]
  have hdiv:nE c w T+1<=4000/c↔(nE c w T+1)*c<=4000:=Nat.le_div_iff_mul_le hc.1;have hfits:Kh (c:Int) (w:Int) (r:Int) p (RE c w T++[d]) (SE c w r T) (FE c w r p T) [] false 0 (Ae (Ac (FE c w r p T)) 1) (Ae (nE c w T:Int) 1)=some (decide (kE c w r T+1<=1000/\ (nE c w T+1)*c<=4000)):=by
   rw[Kh,Ac,hfl,Aj,Aj,hq4];by_cases h1:kE c w r T+1<=1000
   ·rw[Abp Arw,Cf Ari,Aa,Re];congr 1;rw[decide_eq_decide];omega
   ·rw[Abg Arw,Alp (λe=>h1 e.1)]
  rw[Abg Arv,W8 h hR,Aa,hfits,Aa];by_cases hok:kE c w r T+1<=1000/\ (nE c w T+1)*c<=4000
  ·have hR':Mh c r (nE c w (T++[d])):=by rw[m1];exact⟨hok.2, .inr (by rw[Aqx];exact hok.1)⟩
   have All:=I0 (RE c w T++[d]) h.bits (m:=c) (by rw[Abr,Aoe,m0];rfl) F0;have hLc:Ak r*c<=1100000*6:=Anj F0 hc.2;have hmul:Bf (Ak r:Int) (c:Int)=((Ak r*c:Nat):Int):=by rw[Ia Ark Ark,<-Aln]
   rw[Apb hok,Abg F4,Zn,Zi,All,Aa];simp only;rw[Az (by rw[bU];omega),Aa,Ais h,Aa,hmul];by_cases hfull:(SE c w r T++QZ (wB (w:Int)) c (RE c w T++[d])).length<Ak r*c
   ·obtain⟨k1,k2,k3⟩:=g1 hfull;rw[Abg (by rw[Bj,Ac];simp only[Ape];omega),cT,Abp hR',m3,k2,k3]
   ·obtain⟨k0,k1,k2,k3⟩:=g2 hfull;have hXl:Ak r*c<=4000:=by
     have e:=hR'.1;have hlen:(XE c w (T++[d])).length=nE c w (T++[d])*c:=aL (T++[d]);have hdk:=qO (r:=r) h (T++[d]);rw[k1,Aft,Anf]at hdk;omega
    have hin:uf (w:Int) (SE c w r T++QZ (wB (w:Int)) c (RE c w T++[d])):=by
     intro v hv;rw[List.mem_append]at hv;rcases hv with hv|hv
     ·exact lZ h T v (Apq hv)
     ·exact zB h.bits _ _ v hv
    have hLp:=Aq3 (Kl r) hc.1;have henc:=rX (t:=Ru p) (x:=SE c w r T++QZ (wB (w:Int)) c (RE c w T++[d])) h.bits (TS p) hc.1 hc.2 F0 F0 (by rw[k0];exact An1 _ _) hin;rw[Abp (by rw[Bj,Ac];simp only[Ape];omega),Yl,O0 p h.pass,Aa];simp only;rw[henc,Aa];simp only;rw[Az F6,Aa,Aa,cT,Abp hR',m3,k2,k3]
  ·have hno:¬Mh c r (nE c w (T++[d])):=by
    intro hh;rw[m1]at hh;obtain⟨z1,z2⟩:=hh;apply hok;rw[Aqx]at z2;have hkE:kE c w r T=nE c w T/Ak r:=rfl;omega
   rw[Alp hok,Abp F4,Fz,Aa,cT,Abg hno]
theorem Aml(t b:LB)(hb:b.length<=1000000)(hR:Mh c r (nE c w t)):Nz (c:Int) (w:Int) (r:Int) p (RE c w t) (SE c w r t) (FE c w r p t) [] false 0 b=some (cT c w r p (t++b)):=by
 obtain⟨s1,s2,s3,s4,s5⟩:=Ab6 h hR;have loop:∀(j u q:Nat) (T:LB),u+j=b.length->j<q->T=t++b.take u->Mh c r (nE c w T)->Hg b q (u:Int) (c:Int) (w:Int) (r:Int) p false 0 (RE c w T) (SE c w r T) (FE c w r p T) []=some (cT c w r p (t++b)):=by
  intro j
  induction j with
  |zero=>
   intro u q T hu hq hT hR;obtain⟨q,rfl⟩:∃q',q=q'+1:=⟨q-1,F0⟩;rw[Ai7 F0]at hT;rw[Hg,Jo,Abg F3,Tz,DV,cT,<-hT,Abp hR]
  |succ j ih=>
   intro u q T hu hq hT hR;obtain⟨q,rfl⟩:∃q',q=q'+1:=⟨q-1,F0⟩;have hT':T++[b[u]' F0]=t++b.take (u+1):=by rw[hT,Jb F0,Ams]
   have hmono:nE c w (T++[b[u]' F0])<=nE c w (t++b):=Ap5 (by rw[hT',Abr,Abr,Ahl];omega);have hbf:=ji h T (b[u]' F0) hR;rw[Hg,Jo,Abp F3,Cu,Aa,hbf,cT];by_cases hok:Mh c r (nE c w (T++[b[u]' F0]))
   ·rw[Abp hok,Aa];simp only;rw[Oh,Vc,Abg F4,Aj];exact ih (u+1) q _ F0 F0 hT' hok
   ·rw[Abg hok,Aa];simp only;rw[Oh,Vc,Abp F4,cT,Abg (λhh=>hok (hh.mono hmono))]
 have hl:=loop b.length 0 Aq t F0 F7 Ard hR;rw[Nz,Vd,Ad5 h hR,Aa,Abg F4,Aim s4 F0 _ _ _ _ F0 F0 Ard,Aa];simp only;rw[Jv,Abg F4,Abg F4,Aa,Abg F4];exact hl
theorem An8:Ma (c:Int) (w:Int) (r:Int) p=some ((c:Int),(w:Int),(r:Int),p,RE c w [],SE c w r [],FE c w r p [],[],false,0,0):=by
 have h0:nE c w []=0:=Aq4 _;have hk:kE c w r []=0:=by rw[kE,h0];exact Aq4 _
 have kr:Bz (c:Int) (w:Int) (r:Int) p=some 0:=by
  rw[Bz,V4 h.rate.1 h.rate.2,Aa];simp only;have hsh:U9 (c:Int) (w:Int)=true:=by rw[U9,Adz];exact⟨by have:=h.ch;omega,h.bits⟩
  rw[jq,Aa,hsh,Abp rfl,Abg (by have:=h.pass;simp[Cq,Ax,Ac];omega)]
 rw[Ma,kr,Aa,Abg F4,RE,SE,FE,XE,hk,h0];simp[QZ,Gb]
theorem Ah1(t:LB)(hR:Mh c r (nE c w t)):Pk (c:Int) (w:Int) (r:Int) p (RE c w t) (SE c w r t) (FE c w r p t) [] false 0=
  some (if RE c w t≠ []\/nE c w t=0 then((c:Int),(w:Int),(r:Int),p,[],[],[],[],false,24,24)else((c:Int),(w:Int),(r:Int),p,[],[],[],KD c w r (nE c w t) (XE c w t) p,true,0,0)):=by
 obtain⟨s1,s2,s3,s4,s5⟩:=Ab6 h hR;have hc:=h.ch;have hsl:=KZ (r:=r) h t;rw[Pk,Rp,Ad5 h hR,Aa,Abg F4,Aim s4 F0 _ _ _ _ F0 F0 Ard,Aa];simp only;rw[Jv,Abg F4,Abg F4,Aa,Abg F4];by_cases hr0:RE c w t=[]
 case neg=>
  have hl:0<(RE c w t).length:=List.length_pos_iff.2 hr0;rw[Abp (by rw[Ax,Ac];simpa using hl),Fz,Aa,Abp (.inl hr0)]
 rw[Abg (by rw[hr0];decide),W8 h hR,Aa];by_cases hn0:nE c w t=0
 ·rw[Abp (by rw[Bj,hn0];rfl),Fz,Aa,Abp (.inr hn0)]
 have hn1:1<=nE c w t:=F0
 have hcl:=tR h t hR hn1;have hfr:=rI h t (r:=r) (p:=p) hn1;rw[Abg Arj,Abg (λe=>by rcases e with e|e;exact e hr0;exact hn0 e),Sj,Lr,Kk,Nl,Ahe,Aa,W8 h hR,Aa,FQ,Uw];by_cases hS:SE c w r t=[]
 ·rw[Abp hS,Al6]at hfr;rw[Abg (by rw[hS];decide),<-hfr,Aiq hcl h.pass,Aa]
 ·rw[Abg hS]at hfr;have hl:0<(SE c w r t).length:=List.length_pos_iff.2 hS;have hin:uf (w:Int) (SE c w r t):=λv hv=>lZ h t v (Apq hv);have henc:=rX (t:=Ru p) (x:=SE c w r t) h.bits (TS p) hc.1 hc.2 F0 F0 (by rw[hsl];exact An1 _ _) hin;rw[Abp (by rw[Ax,Ac];simpa using hl),O0 p h.pass,Aa];simp only;rw[henc,Aa];simp only;rw[Az F6,Aa,<-hfr,Aiq hcl h.pass,Aa]
end
section
variable {c w r:Nat} {p:LB} (h:EncOk c w r p)
include h
theorem O5(b:LB)(ns:List Nat)(hb:b.length<=10000)(hn:ns.length<=10000):∀(j i s q:Nat),i+j=ns.length->s+uV (ns.drop i)=b.length->j<q->Mh c r (nE c w (b.take s))->
  Fo b (qM ns) q (s:Int) (i:Int) (c:Int) (w:Int) (r:Int) p false 0 (RE c w (b.take s)) (SE c w r (b.take s)) (FE c w r p (b.take s)) []=some (ZP c w r p b)
 |j,i,s,0,_,_,h,_=>absurd h (Amk _)
 |0,i,s,q+1,hi,hs,_,hR=>by
  have e:b.take s=b:=Ai7 (by rw[Anz F0]at hs;simp[uV]at hs;omega);rw[e]at hR⊢;have hfin:=Ah1 h b hR;rw[Fo,Ih,Abg Ar0,Qx,Za,hfin,Aa,ZP,Abp hR];by_cases hbad:RE c w b≠ []\/nE c w b=0
  ·rw[Abp hbad,Abp hbad];simp only;rw[Abp F4]
  ·rw[Abg hbad,Abg hbad];simp only;rw[Abg F4]
 |j+1,i,s,q+1,hi,hs,hq,hR=>by
  have hil:i<ns.length:=F0
  have hi1:Ae (i:Int) 1=((i+1:Nat):Int):=by rw[Aj];omega
  have hsd:=K6 hil;have ih:=O5 b ns hb hn j (i+1) (s+ns[i]) q F0 F0 F0;have Alm:b.take s++(b.drop s).take ns[i]=b.take (s+ns[i]):=by rw[List.take_add]
  have hfd:=Aml h (b.take s) ((b.drop s).take ns[i]) (by rw[Ahl,Amr];omega) hR;have hsi:Ae (s:Int) (ns[i]:Int)=((s+ns[i]:Nat):Int):=by rw[Aj];omega
  have hcut:Ff b (s:Int) ((s+ns[i]:Nat):Int)=some ((b.drop s).take ns[i]):=by
   rw[fF,Ajg,Ajg,List.drop_take];congr 2;omega
  rw[Alm,cT]at hfd;rw[Fo,Ih,Abp Ar0,lJ hil,Aa,Aa,hsi,hcut,Aa,hfd,Aa];by_cases hok:Mh c r (nE c w (b.take (s+ns[i])))
  ·rw[Abp hok];simp only;rw[Ls,Sf,Abg F4,lJ hil,Aa,Aa,hsi,hi1];exact ih hok
  ·rw[Abg hok];simp only;rw[Ls,Sf,Abp F4,ZP,Abg];intro hh;exact hok (hh.mono (Ap5 (by rw[Ahl];omega)))
theorem Agq(b:LB)(hb:b.length<=10000)(m:UInt64):Gd (c:Int) (w:Int) (r:Int) p b m=some (ZP c w r p b):=by
 obtain⟨ns,h1,h2⟩:=pJ b.length m.toNat b.length 0 0 F0 F0 (λ_=>rfl);have hlen:ns.length<=b.length:=by
  have:=gX b.length m.toNat b.length 0 0;rw[h1,EV]at this;exact this
 have hl:=O5 h b ns hb F0 ns.length 0 0 Aq F0 (by rw[Aq6];omega) F7 (by rw[Apj,show nE c w []=0 from Aq4 _];exact xL c r);rw[Apj]at hl;rw[Gd,Ic,Abg Arf,An8 h,Aa];simp only;rw[Abg F4,Ac,mq _ _ F0,Aa,h1];exact hl
end
theorem Ahj{C W R:Int}{p:LB}(h0:Bz C W R p=some 2):Ma C W R p=some (0,0,0,[],[],[],[],[],false,0,2)/\Zl C W R p=some (0,0,0,[],[],[],[],[],false,0,2):=by
 refine⟨by rw[Ma,h0,Aa,Abp F4],?_⟩;rw[Bz,zG,Aa]at h0;simp only at h0;rw[jq,Aa]at h0;rw[Zl,Oq,nk,Aa];simp only;rw[Aca,Aa,Aa];simp only;rw[Abp];by_cases h1:U9 C W=true
 ·by_cases h2:RK R=true
  ·by_cases h3:p.length<=64
   ·rw[Abp h1,Abp h2,Abg Ar5]at h0;exact absurd (Ap8 h0) F4
   ·rw[Abp h1,Abp h2];simp[Bj,Re,Ac];omega
  ·rw[Abg h2];simp[Bj]
 ·rw[Abg h1];simp[Bj]
theorem rM{n:Int}(m:UInt64)(hn:n<0\/100000<n):Lt n m=some ([],2):=by
 rw[Lt,Vn,Abp Are]
theorem Amy(l:LI)(hl:l.length<=100000):Mx l l=some true:=by
 have loop:∀(j i q:Nat),i+j=l.length->j<q->Ee l l q (i:Int)=some true:=by
  intro j
  induction j with
  |zero=>
   intro i q hi hq;obtain⟨q,rfl⟩:∃q',q=q'+1:=⟨q-1,F0⟩;rw[Ee,Jj,Abg F3];rfl
  |succ j ih=>
   intro i q hi hq;obtain⟨q,rfl⟩:∃q',q=q'+1:=⟨q-1,F0⟩;rw[Ee,Jj,Abp F3,Cu,Aa,Aa,Abg (by simp[Cq]),Aj];exact ih (i+1) q F0 F0
 rw[Mx,On,Abg (by simp[Cq])];exact loop l.length 0 Aq F0 F7
theorem law_ChunksCuts(n:Int)(m:UInt64)(C W R:Int)(p b:LB):Qh n m C W R p b=some true:=by
 rw[Qh,AZ,Aa];by_cases hc:((((Em (Ac b) 400)&&(sV (Ac b) 100000))||(Em (Ac b) 100100))||(Em (Ac p) 100))=true
 ·rw[Abp hc]
 rw[Abg hc];simp only[Anl,Abs,not_or,not_and,Ax,Re,Ac,Adz]at hc;have hpc:∃(l:LI) (e:Int),l.length<=100000/\Lt n m=some (l,e)/\Kx n m=some (l,e):=by
  by_cases hn:n<0\/100000<n
  ·exact⟨[],2,Ard,rM m hn,by rw[Kx,Abp Are]⟩
  ·obtain⟨k,rfl⟩:=Aig (show 0<=n by omega);refine⟨N5 k m.toNat k 0 0,0,?_,lD k m F0,?_⟩
   ·have:=gX k m.toNat k 0 0;omega
   ·rw[Kx,Abg Are,mq k m F0,Aa]
 obtain⟨l,e,hl,hp1,hp2⟩:=hpc;have henc:∃(x:LB) (k:Int),Ot C W R p b m=some (x,k)/\Gd C W R p b m=some (x,k):=by
  by_cases hb:b.length<=10000
  ·rcases U5 C W R p with h0|⟨c,w,r,rfl,rfl,rfl,h,h0⟩
   ·obtain⟨n1,n2⟩:=Ahj h0;refine⟨[],2,?_,?_⟩
    ·rw[Ot,Pw,Ac,lD _ _ F0,Aa];simp only;rw[Abg F4,n2,Aa];simp only;rw[Abp F4]
    ·rw[Gd,Ic,Abg Arf,n1,Aa];simp only;rw[Abp F4]
   ·exact⟨_,_,Y3 h b hb m,Agq h b hb m⟩
  ·refine⟨[],2,?_,?_⟩
   ·rw[Ot,Pw,Ac,rM m F0,Aa];simp only;rw[Abp F4]
   ·rw[Gd,Ic,Abp Arf]
 obtain⟨x,k,he1,he2⟩:=henc;rw[hp1,Aa];simp only;rw[hp2,Aa];simp only;rw[he1,Aa];simp only;rw[he2,Aa];simp only;rw[Amy l hl,Aa];simp[Bj]
end Go.Pl
