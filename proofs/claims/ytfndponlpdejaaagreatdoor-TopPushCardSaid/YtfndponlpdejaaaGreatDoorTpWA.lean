/- A part of a proof (see the text that ends in Proof). No conditions. -/
import Derived.Test.YtfndponlpdejaaaGreatDoorTpPA
set_option linter.unusedVariables false
set_option linter.unusedSimpArgs false
namespace Go.Lv
variable{a b:Int}{l:List UInt8}{n:Nat}{α:Type}
theorem Ah(h: -9223372036854775808<=a+b:=by omega)(h':a+b<=9223372036854775807:=by omega):Ae a b=a+b:=by rw[Bfz,Dt h h']
theorem Cb(h: -9223372036854775808<=a-b:=by omega)(h':a-b<=9223372036854775807:=by omega):Aq a b=a-b:=by rw[Bf9,Dt h h']
theorem Ex(h: -9223372036854775808<=a*b:=by omega)(h':a*b<=9223372036854775807:=by omega):Bm a b=a*b:=by rw[Avg,Dt h h']
theorem bJ(c:UInt8):(Ag c:Int)=(c.toNat:Int):=by rw[Axc,Dt]<;>have:=c.toNat_lt<;>omega
theorem Bkj(c:UInt32):(Ag c:Int)=(c.toNat:Int):=by rw[Ata,Dt]<;>have:=c.toNat_lt<;>omega
theorem H8(c:UInt8):(Ag c:UInt64)=UInt64.ofNat c.toNat:=by simp only[Ag,KK,Kr]
theorem En(c:UInt32):(Ag c:UInt64)=UInt64.ofNat c.toNat:=by simp only[Ag,EV,Kr]
theorem eX(c:UInt64):(Ag c:UInt8)=UInt8.ofNat c.toNat:=by simp only[Ag,Mr,Rw]
theorem I8(c:UInt32):(Ag c:UInt8)=UInt8.ofNat c.toNat:=by simp only[Ag,EV,Rw]
theorem AQ(n:Nat):(Ag (n:Int):UInt64)=UInt64.ofNat n:=by simp only[Ag];exact Kr n
theorem Aer(n:Nat):(Ag (n:Int):UInt32)=UInt32.ofNat n:=by simp only[Ag];exact He n
theorem Aww(n:Nat):(Ag (n:Int):UInt8)=UInt8.ofNat n:=by simp only[Ag];exact Rw n
theorem qz{c:UInt64}(h:c.toNat<9223372036854775808):(Ag c:Int)=(c.toNat:Int):=by rw[As3,Dt]<;>omega
theorem Aqj:LIM=17179869184:=F2
theorem Ar:36893488147419103231<Ax:=F2
theorem Bq{l:List α}(h:n<l.length:=by omega):Ao l (n:Int)=some l[n]:=by simp[Ao,h]
theorem Yb{l:List α}(x:α)(h:n<l.length):Pc l (n:Int) x=some (l.set n x):=by simp[Pc,h]
theorem Sa{l:List α}(h:0<=a:=by omega)(h1:a<=b:=by omega)(h2:b<=l.length:=by omega):Bp l a b=some ((l.take b.toNat).drop a.toNat):=by rw[Bp,B2 ⟨h,h1,h2⟩]
theorem Bu{l:List α}(h:0<=a:=by omega)(h1:a<=l.length:=by omega):Bp l a (Ac l)=some (l.drop a.toNat):=by
 unfold Ac;rw[Sa h h1 (Int.le_refl _),C2,FX]
theorem Cx{l:List α}(h:0<=b:=by omega)(h1:b<=l.length:=by omega):Bp l 0 b=some (l.take b.toNat):=by rw[Sa (Int.le_refl _) h h1];rfl
theorem Bg{l m:List α}(h:l.length+m.length<=17179869184:=by omega):Dm l m=some (l++m):=by rw[Dm,Aqj,B2 h]
theorem xI{n:Int}{z:α}(h:0<=n:=by omega)(h':n<=17179869184:=by omega):mkI n z=some (List.replicate n.toNat z):=by rw[mkI,Aqj,B2 ⟨h,h'⟩]
theorem Bhz:Jb true=some ():=rfl
theorem Br{b:Bool}(h:b=true):Jb b=some ():=by rw[h];rfl
theorem Aa{β:Type}(a:α)(f:α->Option β):Option.bind (some a) f=f a:=rfl
theorem drop_cons{l:List α}(h:n<l.length):l.drop n=l[n]::l.drop (n+1):=ig h
theorem Iq{l:List α}(h:n<l.length):l.take (n+1)=l.take n++[l[n]]:=by rw[List.take_add_one,List.getElem?_eq_getElem h];rfl
def Gw:List UInt8->Nat
 |[]=>0
 |x::r=>x.toNat+256*Gw r
theorem dN:∀l:List UInt8,Gw l<256^l.length
 |[]=>by simp[Gw]
 |x::r=>by
  have h:=dN r;have:=x.toNat_lt;simp only[Gw,D_,F_];omega
theorem Blu:∀l m:List UInt8,Gw (l++m)=Gw l+256^l.length*Gw m
 |[],m=>by simp[Gw]
 |x::r,m=>by
  simp only[Gw,M!,Blu r m,D_,F_,X6];rw[D9 (256^r.length) 256,I6];omega
def C4(l:List UInt8):UInt64:=UInt64.ofNat (Gw l)
theorem Ban(h:l.length<=8):Gw l<18446744073709551616:=by
 have h1:=dN l;have h2:256^l.length<=256^8:=E1 F0 h;exact G4 h1 (by simpa using h2)
theorem Aqx(h:l.length<=4):Gw l<4294967296:=by
 have h1:=dN l;have h2:256^l.length<=256^4:=E1 F0 h;exact G4 h1 (by simpa using h2)
theorem jJ(h:l.length<=8):(C4 l).toNat=Gw l:=by
 rw[C4,E_,C! (Ban h)]
theorem UX(h:l.length<=4):(Ag (C4 l):Int)=(Gw l:Int):=by
 have:=Aqx h;rw[qz]<;>rw[jJ F0];omega
def Uc(n:Nat):Nat->List UInt8
 |0=>[]
 |w+1=>UInt8.ofNat n::Uc (n/256) w
theorem Cn:∀(w n:Nat),(Uc n w).length=w
 |0,_=>rfl
 |w+1,n=>by simp[Uc,Cn w]
theorem Ai6:∀(w n:Nat),Uc n (w+1)=Uc n w++[UInt8.ofNat (n/256^w)]
 |0,n=>by simp[Uc]
 |w+1,n=>by
  rw[Uc,Ai6 w (n/256),Uc];simp[S?,F_,D9]
def Im(p:List UInt8)(i:Nat):Nat:=(p.getD (i/8) 0).toNat/2^(i %8) %2
theorem HP(p:List UInt8)(i:Nat):Im p i<2:=HW _ F0
def Cp(p:List UInt8):Nat->Nat->Nat
 |_,0=>0
 |a,n+1=>Im p a+2*Cp p (a+1) n
theorem Tg(p:List UInt8):∀(n a:Nat),Cp p a n<2^n
 |0,_=>by simp[Cp]
 |n+1,a=>by
  have:=Tg p n (a+1);have:=HP p a;rw[Cp,F_];omega
theorem WE(p:List UInt8):∀(m n a:Nat),Cp p a (m+n)=Cp p a m+2^m*Cp p (a+m) n
 |0,n,a=>by simp[Cp]
 |m+1,n,a=>by
  rw[show m+1+n=(m+n)+1 by omega,Cp,Cp,WE p m n (a+1),show a+1+m=a+(m+1) by omega,F_,X6,D9 (2^m) 2,I6];omega
theorem Q4(p:List UInt8)(a:Nat):Cp p a 1=Im p a:=by simp[Cp]
theorem yM(p:List UInt8)(a n:Nat):Cp p a (n+1)=Cp p a n+2^n*Im p (a+n):=by rw[WE p n 1 a,Q4]
theorem nN(p:List UInt8)(a:Nat):∀t:Nat,a %8+t<=8->Cp p a t=(p.getD (a/8) 0).toNat/2^(a %8) %2^t
 |0,_=>by simp[Cp,mR]
 |t+1,h=>by
  have h1:(a+t)/8=a/8:=F0
  have h2:(a+t) %8=a %8+t:=F0
  rw[yM,nN p a t F0,Im,h1,h2,Nat.mod_pow_succ,PG,S?]
theorem jl{p:List UInt8}:∀(n a:Nat),(∀k,k<n->Im p (a+k)=0)->Cp p a n=0
 |0,_,_=>rfl
 |n+1,a,h=>by
  have h0:=h 0 F0;rw[Cp,jl n (a+1) λk hk=>by have:=h (k+1) F0;rwa [show a+1+k=a+(k+1) by omega]];rw[K4]at h0;omega
def okB(p:List UInt8)(n:Nat):Prop:=n<=330000/\p.length=(n+7)/8/\∀k,n<=k->k<8*p.length->Im p k=0
def Ul(p:List UInt8)(a n:Nat):List UInt8:=(List.range ((n+7)/8)).map λj=>UInt8.ofNat (Cp p (a+8*j) (min 8 (n-8*j)))
theorem Lj(p:List UInt8)(a n:Nat):(Ul p a n).length=(n+7)/8:=by simp[Ul]
theorem Ai3(p:List UInt8):∀(n a k:Nat),k<n->Cp p a n/2^k %2=Im p (a+k)
 |n+1,a,0,_=>by have:=HP p a;rw[Cp];simp;omega
 |n+1,a,k+1,h=>by
  have hb:=HP p a;have e:(Im p a+2*Cp p (a+1) n)/2=Cp p (a+1) n:=F0
  rw[Cp,F_,D9 (2^k) 2,<-S?,e,Ai3 p n (a+1) k F0,show a+1+k=a+(k+1) by omega]
theorem Atb(p:List UInt8)(n a k:Nat)(h:n<=k):Cp p a n/2^k %2=0:=by
 have:=Tg p n a;rw[MV (G4 this (E1 F0 h))]
theorem N0(p:List UInt8)(a n k:Nat):Im (Ul p a n) k=if k<n then Im p (a+k)else 0:=by
 rw[Im];by_cases hj:k/8<(n+7)/8
 ·have e:(Ul p a n).getD (k/8) 0=UInt8.ofNat (Cp p (a+8*(k/8)) (min 8 (n-8*(k/8)))):=by
   rw[List.getD_eq_getElem?_getD,List.getElem?_eq_getElem (by rw[Lj];exact hj)];simp[Ul]
  have hlt:Cp p (a+8*(k/8)) (min 8 (n-8*(k/8)))<256:=by
   have:=Tg p (min 8 (n-8*(k/8))) (a+8*(k/8));have h2:2^(min 8 (n-8*(k/8)))<=2^8:=E1 F0 F0;omega
  have hu:(UInt8.ofNat (Cp p (a+8*(k/8)) (min 8 (n-8*(k/8))))).toNat=Cp p (a+8*(k/8)) (min 8 (n-8*(k/8))):=by
   rw[HT];exact C! hlt
  rw[e,hu];by_cases hk:k<n
  ·rw[B2 hk,Ai3 p _ _ _ F0,show a+8*(k/8)+k %8=a+k by omega]
  ·rw[A_ hk,Atb p _ _ _ F0]
 ·have e:(Ul p a n).getD (k/8) 0=0:=by
   rw[List.getD_eq_getElem?_getD,List.getElem?_eq_none (by rw[Lj];omega)];rfl
  rw[e,A_ F0];simp
theorem O4(p:List UInt8)(a n:Nat)(h:n<=330000):okB (Ul p a n) n:=⟨h,Lj p a n,λk hk _=>by rw[N0,A_ F0]⟩
theorem Aib{p q:List UInt8}(hl:p.length=q.length)(h:∀k,k<8*p.length->Im p k=Im q k):p=q:=by
 apply KN hl;intro i h1 h2;have hp:Cp p (8*i) 8=Cp q (8*i) 8:=by
  have key:∀(n a:Nat),a+n<=8*p.length->Cp p a n=Cp q a n:=by
   intro n
   induction n with
   |zero=>intros;rfl
   |succ n ih=>intro a ha;rw[Cp,Cp,h a F0,ih (a+1) F0]
  exact key 8 (8*i) F0
 rw[nN p _ 8 F0,nN q _ 8 F0]at hp;have e1:8*i/8=i:=F0
 have e2:8*i %8=0:=F0
 rw[e1,e2]at hp;have a1:p.getD i 0=p[i]:=by simp[List.getD_eq_getElem?_getD,h1]
 have a2:q.getD i 0=q[i]:=by simp[List.getD_eq_getElem?_getD,h2]
 rw[a1,a2]at hp;apply UInt8.toNat_inj.1;have:=p[i].toNat_lt;have:=q[i].toNat_lt;simp at hp;omega
end Go.Lv
namespace Go.Pl
open Go Go.Lv
variable{α:Type}{s:UInt64}
theorem F4{p:Prop}(h:p:=by rw[Ad,Ac];simp;omega):p:=h
theorem mV{p:Prop}(h:p:=by simp[Ad,Ap,Ac];omega):p:=h
theorem C1{p:Prop}(h:p:=by rw[Ad];simp;omega):p:=h
theorem E6{p:Prop}(h:p:=by rw[As];simp;omega):p:=h
theorem EE{p:Prop}(h:p:=by simp[Ad,Ap];omega):p:=h
theorem ID{p:Prop}(h:p:=by rw[Dq];simp;omega):p:=h
theorem LK{p:Prop}(h:p:=by unfold Ac;omega):p:=h
theorem B_{p:Prop}(h:p:=by have:=Ar;omega):p:=h
theorem IE{p:Prop}(h:p:=by rw[Dq];simp):p:=h
theorem Qz{p:Prop}(h:p:=by rw[As];simp):p:=h
theorem OB{p:Prop}(h:p:=by rw[As];rfl):p:=h
theorem Awf(b:LB)(hb:b.length<4611686018427387904):∀(j q:Nat),j<=b.length->j<q->Sn b q (C4 (b.drop j)) ((j:Int)-1)=some (C4 b)
 |0,q+1,_,_=>by
  rw[Sn,KJ,A_ IE];simp[Atv,Ark]
 |j+1,q+1,hj,hq=>by
  rw[Sn,KJ,B2 IE,show((j+1:Nat):Int)-1=(j:Int) by omega,Bq,Aa,Cb];have h:Ae (Bm (256:UInt64) (C4 (b.drop (j+1)))) (Ag b[j]:UInt64)=C4 (b.drop j):=by
   rw[WW,WN,H8,drop_cons (n:=j) F0,C4,C4,Gw,v_,lG];exact UInt64.add_comm _ _
  rw[h];exact Awf b hb j q F0 F0
theorem XT(b:LB)(hb:b.length<4611686018427387904):Fb b=some (C4 b):=by
 have h:=Awf b hb b.length Ax (C9 _) B_;rw[Fb,Ass,Ast];have e:Aq (Ac b) 1=(b.length:Int)-1:=Cb LK LK;rw[e,<-h,L?];rfl
theorem Aye{n c:UInt64}{i:Nat}(hn:n.toNat<2^i)(hc:c.toNat*2^i<18446744073709551616):I7 n (Eh c i)=UInt64.ofNat (n.toNat+c.toNat*2^i):=by
 rw[Bdv];apply UInt64.toNat_inj.1;rw[UInt64.toNat_or,fQ,C! hc,D9,Nat.or_comm,<-QC hn,E_,C!,M_,D9];have h:=QC hn c.toNat;have h2:2^i*c.toNat+n.toNat<2^64:=by
  rw[h];exact Nat.or_lt_two_pow (by rw[D9];simpa using hc) n.toNat_lt
 rw[M_];first|exact h2|(rw[D9];exact h2)
theorem Aev(b:LB)(hb:b.length<=8):∀(j i q:Nat),i+j=b.length->j<q->KR b q (C4 (b.take i)) (i:Int)=some (C4 b,0)
 |0,i,q+1,hi,_=>by
  rw[KR,iD,A_ F4,show i=b.length by omega,FX];rfl
 |j+1,i,q+1,hi,hq=>by
  have hlt:i<b.length:=F0
  rw[KR,iD,B2 F4,Bq hlt,Aa,Ex,Br ID,Aa,Ah];have h:I7 (C4 (b.take i)) (Eh (Ag b[i]:UInt64) (GI.toZ ((8:Int)*(i:Int))).toNat)=C4 (b.take (i+1)):=by
   have e:(GI.toZ ((8:Int)*(i:Int))).toNat=8*i:=by show((8:Int)*(i:Int)).toNat=_;omega
   have e2:(2:Nat)^(8*i)=256^i:=by rw[mU]
   have h1:=dN (b.take i);rw[C8,I? F0]at h1;have h3:=b[i].toNat_lt;have hle:(256:Nat)^(i+1)<=256^8:=E1 F0 F0;rw[F_]at hle;have h4:(Ag b[i]:UInt64).toNat=b[i].toNat:=by rw[H8,E_];omega
   have h5:b[i].toNat*256^i<18446744073709551616:=by
    have:b[i].toNat*256^i<256*256^i:=um (by simpa using h3) (KQ F0);simp at hle;omega
   rw[e,Aye (by rw[jJ B5,e2];exact h1) (by rw[h4,e2];exact h5),jJ B5,h4,e2,Iq hlt];rw[C4,Blu];simp only[Gw,C8,I? (Nat.le_of_lt hlt),Nat.mul_zero,K4];rw[D9]
  rw[h];exact Aev b hb j (i+1) q F0 F0
theorem Ak0(b:LB)(h1:1<=b.length)(h2:b.length<=8):vQ b=some (C4 b,0):=by
 have h:=Aev b h2 b.length 0 Ax F0 B_;rw[vQ,yB,A_ mV,Bmo];exact h
def part(b:LB)(at' w:Nat):LB:=(b.take (at'+w)).drop at'
theorem Fo{b:LB}{a w:Nat}(h:a+w<=b.length:=by omega):(part b a w).length=w:=by simp[part];omega
theorem Sk(b:LB)(a w:Nat)(h1:1<=w)(h2:w<=8)(h3:a+w<=b.length)(hb:b.length<4611686018427387904):nH b (a:Int) (w:Int)=some (C4 (part b a w),0):=by
 rw[nH,A_ EE,A_ (by rw[Ap,Cb LK LK,Ac];simp;omega),Ah,Sa,Aa];rw[show((a:Int)+(w:Int)).toNat=a+w by omega,show(a:Int).toNat=a by omega];rw[Ak0 _ (by rw[show((b.take (a+w)).drop a).length=_ from Fo h3];exact h1) (by rw[show((b.take (a+w)).drop a).length=_ from Fo h3];exact h2),Aa];rfl
theorem Bl9(w:Nat)(hw:w<=1000):∀(j i q:Nat) (n:UInt64) (acc:LB),i+j=w->j<q->acc.length+j<=1000000->Kn (w:Int) q n (i:Int) acc=some (acc++Uc n.toNat j)
 |0,i,q+1,n,acc,hi,_,_=>by
  rw[Kn,Ya,A_ C1];simp[Abn,Abx,Uc]
 |j+1,i,q+1,n,acc,hi,hq,ha=>by
  rw[Kn,Ya,B2 C1];have e:(Ag (MM n (256:UInt64)):UInt8)=UInt8.ofNat n.toNat:=by
   rw[eX,Aim];apply UInt8.toNat_inj.1;rw[HT,HT,vW]
   show n.toNat %256 %256=_;omega
  have e2:(Ca n (256:UInt64)).toNat=n.toNat/256:=by rw[T6,WU];rfl
  rw[Bg B5,Aa,Ah,e];have h:=Bl9 w hw j (i+1) q (Ca n 256) (acc++[UInt8.ofNat n.toNat]) F0 F0 B5;rw[e2]at h;rw[show((i:Int)+1)=((i+1:Nat):Int) by omega,h,Uc];simp
theorem Bm9 (n:UInt64)(w:Nat)(hw:w<=1000):Gl n (w:Int)=some (Uc n.toNat w):=by
 rw[Gl,Ac3,Abv];have h:=Bl9 w hw w 0 Ax n [] F0 B_ B5;simpa using h
theorem oT{l m:List α}{x y:α}{i:Nat}(h:l.length=i):(l++x::m).set i y=l++y::m:=by subst h;simp
theorem zq(n:UInt64)(l4:LB)(w:Nat)(hl:l4.length=w)(hw:w<=8):∀(j i q:Nat),i+j=w->j<q->LZ n l4 q (i:Int) (Uc n.toNat i++List.replicate j 0)=some (Uc n.toNat w,0)
 |0,i,q+1,hi,_=>by
  rw[LZ,gZ,A_ F4];obtain rfl:i=w:=F0
  simp[uW,Bmk]
 |j+1,i,q+1,hi,hq=>by
  have hlen:(Uc n.toNat i++List.replicate (j+1) 0).length=i+(j+1):=by simp[Cn]
  rw[LZ,gZ,B2 F4,Ex,Br ID,Aa,Bq (by rw[hlen];omega),Aa,Yb _ (by rw[hlen];omega),Aa,Ah];have e:(Ag (Cy n (GI.toZ ((8:Int)*(i:Int))).toNat):UInt8)=UInt8.ofNat (n.toNat/256^i):=by
   have e:(GI.toZ ((8:Int)*(i:Int))).toNat=8*i:=by show((8:Int)*(i:Int)).toNat=_;omega
   rw[e,eX,HZ,mU]
  rw[e,LY,oT (Cn _ _)];have h:=zq n l4 w hl hw j (i+1) q F0 F0;rw[Ai6]at h;simpa using h
theorem Bd3(n:UInt64)(w:Nat)(h1:1<=w)(h2:w<=8)(h:n.toNat<256^w):p_ n (w:Int)=some true:=by
 rw[p_];by_cases h8:w=8
 ·subst h8;rw[B2 OB]
 ·rw[A_ E6,Ex,Br ID,Aa];have e:(GI.toZ ((8:Int)*(w:Int))).toNat=8*w:=by show((8:Int)*(w:Int)).toNat=_;omega
  rw[e,O8];have:Cy n (8*w)=0:=by
   apply UInt64.toNat_inj.1;rw[HZ,mU];exact MV h
  rw[this];rfl
theorem eU(n:UInt64)(w:Nat)(h1:1<=w)(h2:w<=8)(h:n.toNat<256^w):HF n (w:Int)=some (Uc n.toNat w,0):=by
 rw[HF,wN,A_ EE,Bd3 n w h1 h2 h,Aa,A_ B3,xI,Aa,Br Qz,Aa,Bml];have h:=zq n (List.replicate (w:Int).toNat 0) w B3 h2 w 0 Ax F0 B_;simpa [Uc]using h
theorem E7{p:Prop}(h:p:=by rw[Ap];simp;omega):p:=h
theorem C0{p:Prop}(h:p:=by rw[Aj];simp):p:=h
theorem zh(n:Nat)(h:n<4611686018427387904):Fy (n:Int) (7:Int)=((n %8:Nat):Int):=by
 have e:Fy (n:Int) (7:Int)=wrap64 ((BitVec.ofInt 64 (n:Int)&&&BitVec.ofInt 64 7).toNat:Int):=rfl;rw[e,jB,NW,NW];have h1:((n:Int) %((2^64:Nat):Int)).toNat=n:=F0
 have h2:((7:Int) %((2^64:Nat):Int)).toNat=2^3-1:=F2
 rw[h1,h2,aD,Dt F0 F0]
theorem Bh7(n:Nat):Q6 (n:Int) (GI.toZ (3:UInt64)).toNat=((n/8:Nat):Int):=by
 have e:Q6 (n:Int) (GI.toZ (3:UInt64)).toNat=(n:Int).fdiv 8:=rfl;rw[e,LM _ F0];omega
theorem Bjl{t:Nat}(h:t<=8):Aq (Eh (1:UInt8) t) (1:UInt8)=UInt8.ofNat (2^t-1):=by
 have:t=0\/t=1\/t=2\/t=3\/t=4\/t=5\/t=6\/t=7\/t=8:=F0
 rcases this with rfl|rfl|rfl|rfl|rfl|rfl|rfl|rfl|rfl<;>decide
theorem bitsOf(c:UInt8)(off t:Nat)(h:t<=8):(Fy (Cy c off) (Aq (Eh (1:UInt8) t) (1:UInt8))).toNat=c.toNat/2^off %2^t:=by
 have hp:2^t<=2^8:=E1 F0 h;rw[Bjl h,Ao8,w?,qc,HT,C! (by have:=KQ (n:=t) (show 0<2 by omega);omega),aD]
theorem nW{p:LB}{k:Nat}(h:k<p.length):Ao p (k:Int)=some (p.getD k 0):=by
 rw[Bq h];simp[List.getD_eq_getElem?_getD,h]
def Tm(p:LB)(a n:Nat):UInt64:=UInt64.ofNat (Cp p a n)
theorem DZ(p:LB)(a n:Nat)(h:n<=64):(Tm p a n).toNat=Cp p a n:=by
 have h1:=Tg p n a;have h2:2^n<=2^64:=E1 F0 h;rw[Tm,E_,C! F0]
theorem Ajp(p:LB)(N:Int)(a n:Nat)(hn:n<=64)(ha:a+n<=8*p.length)(hp:p.length<=1000000):∀(j h q:Nat),h+j=n->j<q->WI (a:Int) (n:Int) p N q (Tm p a h) (h:Int)=some (Tm p a n)
 |j,h,q+1,hj,hq=>by
  rw[WI,wS];by_cases hlt:h<n
  ·have e1:Ae (a:Int) (h:Int)=((a+h:Nat):Int):=by rw[Ah];omega
   have e2:Fq (Aq (n:Int) (h:Int)) (Aq (8:Int) (((a+h) %8:Nat):Int))=((min (n-h) (8-(a+h) %8):Nat):Int):=by
    rw[CO,Cb,Cb];omega
   have hm:(a+h)/8<p.length:=F0
   rw[B2 C1,e1,Bh7,nW hm,Aa,zh _ F0,Br ID,Aa,e2,Br IE,Aa,Br IE,Aa];generalize hT:min (n-h) (8-(a+h) %8)=T;have hT8:T<=8:=F0
   have hT1:1<=T:=F0
   have hb:(a+h) %8+T<=8:=F0
   have hv:=nN p (a+h) T hb;have z1:(GI.toZ (((a+h) %8:Nat):Int)).toNat=(a+h) %8:=rfl;have z2:(GI.toZ ((T:Nat):Int)).toNat=T:=rfl;have z3:(GI.toZ ((h:Nat):Int)).toNat=h:=rfl;rw[z1,z2,z3];have hx:(Ag (Fy (Cy (p.getD ((a+h)/8) 0) ((a+h) %8)) (Aq (Eh (1:UInt8) T) (1:UInt8))):UInt64).toNat=Cp p (a+h) T:=by
    rw[H8,E_,bitsOf _ _ _ hT8,<-hv];have:=Tg p T (a+h);have h2:2^T<=2^8:=E1 F0 hT8;omega
   have hlt2:=Tg p (h+T) a;rw[WE]at hlt2;have h64:2^(h+T)<=2^64:=E1 F0 F0;have hor:I7 (Tm p a h) (Eh (Ag (Fy (Cy (p.getD ((a+h)/8) 0) ((a+h) %8)) (Aq (Eh (1:UInt8) T) (1:UInt8))):UInt64) h)=Tm p a (h+T):=by
    rw[Aye (by rw[DZ p a h F0];exact Tg p h a) (by rw[hx,D9];omega),hx,DZ p a h F0,Tm,WE,D9 (2^h)]
   rw[hor,Ah,show(h:Int)+((T:Nat):Int)=((h+T:Nat):Int) by omega];exact Ajp p N a n hn ha hp (j-T) (h+T) q F0 F0
  ·rw[A_ C1,show h=n by omega];rfl
theorem get_eq(p:LB)(N:Int)(a n:Nat)(hn:n<=64)(ha:a+n<=8*p.length)(hp:p.length<=1000000):T5 p N (a:Int) (n:Int)=some (Tm p a n):=by
 have:=Ajp p N a n hn ha hp n 0 Ax F0 B_;exact this
theorem EX{p:LB}{n:Nat}(h:okB p n):Mc p (n:Int)=some 0:=by
 obtain⟨h1,h2,h3⟩:=h;have e7:Ae (n:Int) 7=((n+7:Nat):Int):=by rw[Ah];omega
 rw[Mc,e7,Bh7,A_ (by simp[Ad,Ap,Aj,Ac,h2];omega),zh _ F0];by_cases hz:n %8=0
 ·rw[A_ E7]
 ·have el:Aq (Ac p) 1=((p.length-1:Nat):Int):=by rw[Ac,Cb];omega
  rw[B2 E7,el,nW F0,Aa,Br ID,Aa];have z:(GI.toZ ((n %8:Nat):Int)).toNat=n %8:=rfl;have hs:Cy (p.getD (p.length-1) 0) (n %8)=0:=by
   apply UInt8.toNat_inj.1;rw[qc];have hv:=nN p n (8-n %8) F0;have h0:Cp p n (8-n %8)=0:=jl _ _ λk hk=>h3 _ F0 F0;rw[h0,show n/8=p.length-1 by omega]at hv;have hlt:(p.getD (p.length-1) 0).toNat/2^(n %8)<2^(8-n %8):=by
    have:=(p.getD (p.length-1) 0).toNat_lt;rw[aG (KQ F0),<-PG,show 8-n %8+n %8=8 by omega];simpa using this
   rw[C! hlt]at hv;exact hv.symm
  rw[z,hs,A_ (by rw[sL];simp)]
theorem sj{p:LB}{N:Nat}(h:okB p N)(a n:Nat)(hn:n<=64):PJ p (N:Int) (a:Int) (n:Int)=some (if N<a+n then(0,24)else(Tm p a n,0)):=by
 obtain⟨h1,h2,h3⟩:=h;rw[PJ,EX ⟨h1,h2,h3⟩,Aa,A_ C0,A_ EE,Cb];by_cases hl:N<a+n
 ·rw[B2 E7,B2 hl]
 ·rw[A_ E7,get_eq p N a n hn F0 F0,Aa,A_ hl]
theorem n?{p:Prop}(h:p:=by rw[Lj];simp;omega):p:=h
theorem bQ{p:Prop}(h:p:=by rw[D9];omega):p:=h
theorem Bkv(c:Nat)(h:c<4611686018427387904):Ca (c:Int) (2:Int)=((c/2:Nat):Int):=by
 rw[YG,R8 F0,Dt F0 F0];omega
theorem Bh8(c:Nat)(h:c<4611686018427387904):Ca (c:Int) (8:Int)=((c/8:Nat):Int):=by
 rw[YG,R8 F0,Dt F0 F0];omega
theorem ZN(c:Nat):Ge (c:Int) (8:Int)=((c %8:Nat):Int):=by rw[Ge,S8 F0];omega
theorem Bk6(c:Nat):Ge (c:Int) (2:Int)=((c %2:Nat):Int):=by rw[Ge,S8 F0];omega
theorem Ap6(i c:Nat)(hc:c<256):∀(j k q:Nat),k+j=i %8->j<q->Sr (i:Int) q ((c/2^k:Nat):Int) (k:Int)=some (((c/2^(i %8) %2:Nat):Int))
 |0,k,q+1,hk,_=>by
  rw[Sr,JX,ZN,A_ C1,Ava,Au6,Bk6,show k=i %8 by omega]
 |j+1,k,q+1,hk,hq=>by
  have hle:c/2^k<=c:=FU _ _;rw[Sr,JX,ZN,B2 C1,Bkv _ F0,Ah,S?,<-F_];exact Ap6 i c hc j (k+1) q F0 F0
theorem cu(p:LB)(N:Int)(i:Nat)(h:i/8<p.length)(hi:i<4611686018427387904):Pq p N (i:Int)=some ((Im p i:Nat):Int):=by
 have hc:=(p.getD (i/8) 0).toNat_lt;have:=Ap6 i (p.getD (i/8) 0).toNat (by simpa using hc) (i %8) 0 Ax F0 B_;rw[Pq,Au8,Bh8 _ hi,nW h,Aa,bJ,Au7];simpa [Im]using this
theorem Ato (p:LB)(N:Int)(a n:Nat)(ha:a+n<=8*p.length)(hp:p.length<=1000000):∀(j q:Nat),j<=n->j<q->Mv (a:Int) p N q (Tm p (a+j) (n-j)) ((j:Int)-1)=some (Tm p a n)
 |0,q+1,_,_=>by
  rw[Mv,BF,A_ IE];rfl
 |j+1,q+1,hj,hq=>by
  have hb:=HP p (a+j);rw[Mv,BF,show((j+1:Nat):Int)-1=(j:Int) by omega,B2 IE,Ah (a:=(a:Int)) F0 F0,show(a:Int)+(j:Int)=((a+j:Nat):Int) by omega,cu p N (a+j) F0 F0,Aa,Cb];have e:Ae (Bm (2:UInt64) (Tm p (a+(j+1)) (n-(j+1)))) (Ag ((Im p (a+j):Nat):Int):UInt64)=Tm p (a+j) (n-j):=by
   rw[WW,WN,AQ,Tm,Tm,show n-j=(n-(j+1))+1 by omega,Cp,show a+j+1=a+(j+1) by omega,v_,lG];exact UInt64.add_comm _ _
  rw[e];exact Ato p N a n ha hp j q F0 F0
theorem E9(p:LB)(N:Int)(a n:Nat)(ha:a+n<=8*p.length)(hp:p.length<=1000000):Zj p N (a:Int) (n:Int)=some (Tm p a n):=by
 have:=Ato p N a n ha hp n Ax (C9 _) B_;have hz:Tm p (a+n) (n-n)=0:=by rw[mG];rfl
 rw[hz]at this;rw[Zj,Agj,Aga,Cb];exact this
theorem Are(bit:Int)(N:Nat)(l:LB):∀(j k q:Nat),k+j=N %8->j<q->Qi bit (N:Int) l q ((2^k:Nat):Int) (k:Int)=GB bit ((2^(N %8):Nat):Int) (N:Int) l
 |0,k,q+1,hk,_=>by
  rw[Qi,HC,ZN,A_ C1,show k=N %8 by omega]
 |j+1,k,q+1,hk,hq=>by
  have hp:2^k<=2^8:=E1 F0 F0;have e:Bm ((2^k:Nat):Int) 2=((2^(k+1):Nat):Int):=by
   rw[F_];generalize 2^k=K at*
   rw[Ex];omega
  rw[Qi,HC,ZN,B2 C1,e,Ah];exact Are bit N l j (k+1) q F0 F0
theorem nX(p:LB)(a n j:Nat)(h:j<(n+7)/8):(Ul p a n)[j]'(by rw[Lj];exact h)=UInt8.ofNat (Cp p (a+8*j) (min 8 (n-8*j))):=by simp[Ul]
theorem Y0(p:LB)(a t:Nat)(h:t<=8):Cp p a t<256:=by
 have h1:=Tg p t a;have h2:2^t<=2^8:=E1 F0 h;omega
def room(p:LB)(a n:Nat):LB:=if n %8=0 then Ul p a n++[0]else Ul p a n
theorem Sd(p:LB)(a n:Nat):(room p a n).length=n/8+1:=by
 rw[room];split<;>simp[Lj]<;>omega
theorem Als(p:LB)(a n j:Nat)(h:j<n/8+1):(room p a n)[j]'(by rw[Sd];exact h)=UInt8.ofNat (Cp p (a+8*j) (min 8 (n-8*j))):=by
 have h0:(room p a n)[j]? =some (UInt8.ofNat (Cp p (a+8*j) (min 8 (n-8*j)))):=by
  rw[room];split
  ·by_cases hj:j<(n+7)/8
   ·rw[List.getElem?_append_left (by rw[Lj];exact hj),List.getElem?_eq_getElem (by rw[Lj];exact hj),nX p a n j hj]
   ·rw[List.getElem?_append_right (by rw[Lj];omega),Lj,show j-(n+7)/8=0 by omega,show n-8*j=0 by omega];rfl
  ·rw[List.getElem?_eq_getElem (by rw[Lj];omega),nX p a n j F0]
 rw[List.getElem?_eq_getElem (by rw[Sd];exact h)]at h0;exact G? h0
theorem U4(p:LB)(a n T:Nat)(h1:1<=T)(h:n %8+T<=8):(room p a n).set (n/8) (UInt8.ofNat (Cp p (a+8*(n/8)) (n %8+T)))=Ul p a (n+T):=by
 apply KN (by rw[N_,Sd,Lj];omega);intro j g1 g2;rw[N_,Sd]at g1;rw[WV,nX p a (n+T) j (by rw[Lj]at g2;exact g2)];split
 ·rename_i e;subst e;rw[show min 8 (n+T-8*(n/8))=n %8+T by omega]
 ·rw[Als p a n j g1,show min 8 (n-8*j)=8 by omega,show min 8 (n+T-8*j)=8 by omega]
theorem yU(p:LB)(a n:Nat):(room p a n)[n/8]'(by rw[Sd];omega)=UInt8.ofNat (Cp p (a+8*(n/8)) (n %8)):=by
 rw[Als p a n _ F0,show min 8 (n-8*(n/8))=n %8 by omega]
theorem Avs(p:LB)(a n:Nat)(hn:n<=400000):EP (Ul p a n) (n:Int) ((Im p (a+n):Nat):Int)=some (Ul p a (n+1),((n+1:Nat):Int)):=by
 have hb:=HP p (a+n);have hp:2^(n %8)<=2^7:=E1 F0 F0;have hroom:EP (Ul p a n) (n:Int) ((Im p (a+n):Nat):Int)=GF ((Im p (a+n):Nat):Int) (n:Int) (room p a n):=by
  rw[EP,Aog,ZN,room];by_cases h0:n %8=0
  ·rw[B2 (by rw[As,h0];rfl),Bg n?,Aa,B2 h0]
  ·rw[A_ E6,A_ h0]
 have hl:=Are ((Im p (a+n):Nat):Int) n (room p a n) (n %8) 0 Ax F0 B_;rw[hroom,GF,Aoz,Anv];refine F? hl ?_;have hg:Ao (room p a n) ((n/8:Nat):Int)=some (UInt8.ofNat (Cp p (a+8*(n/8)) (n %8))):=by
  rw[Bq (by rw[Sd];omega),yU]
 have hlt:=Y0 p (a+8*(n/8)) (n %8+1) F0;have hsn:=yM p (a+8*(n/8)) (n %8);rw[show a+8*(n/8)+n %8=a+n by omega]at hsn;have hm:Bm ((Im p (a+n):Nat):Int) ((2^(n %8):Nat):Int)=((2^(n %8)*Im p (a+n):Nat):Int):=by
  have hle:2^(n %8)*Im p (a+n)<=2^7*1:=HG hp F0;rw[Avg,<-JO,Dt F0 bQ,D9]
 have hx:Ae (UInt8.ofNat (Cp p (a+8*(n/8)) (n %8))) (Ag (((2^(n %8)*Im p (a+n):Nat):Int)):UInt8)=UInt8.ofNat (Cp p (a+8*(n/8)) (n %8+1)):=by
  rw[Bdq,Aww,hsn,UInt8.ofNat_add]
 rw[GB,Aob,Bh8 _ F0,hg,Aa,Aa,Aa,hm,hx,Yb _ (by rw[Sd];omega),Aa,U4 p a n 1 F0 F0,Ah];rfl
theorem Ahi(p:LB)(N:Int)(a n:Nat)(ha:a+n<=8*p.length)(hp:p.length<=1000000)(hn:n<=300000):∀(j m q:Nat),m+j=n->j<q->Kq ((a+n:Nat):Int) p N q ((a+m:Nat):Int) (m:Int) (Ul p a m)=some (Ul p a n,(n:Int))
 |0,m,q+1,hm,_=>by
  rw[Kq,Xz,A_ C1,show m=n by omega];rfl
 |j+1,m,q+1,hm,hq=>by
  rw[Kq,Xz,B2 C1,cu p N (a+m) F0 F0,Aa,Avs p a m F0,Aa];simp only;rw[Ah];exact Ahi p N a n ha hp hn j (m+1) q F0 F0
theorem Ah8(p:LB)(N:Int)(a n:Nat)(ha:a+n<=8*p.length)(hp:p.length<=1000000)(hn:n<=300000):Am2 p N (a:Int) ((a+n:Nat):Int)=some (Ul p a n,(n:Int)):=by
 have:=Ahi p N a n ha hp hn n 0 Ax F0 B_;exact this
theorem XA{p:Prop}(h:p:=by rw[Sd];omega):p:=h
theorem O7{p:Prop}(h:p:=by rw[Ap];simp):p:=h
theorem Bfh{t:Nat}(h:t<=8):Aq (Eh (1:UInt64) t) (1:UInt64)=UInt64.ofNat (2^t-1):=by
 have:t=0\/t=1\/t=2\/t=3\/t=4\/t=5\/t=6\/t=7\/t=8:=F0
 rcases this with rfl|rfl|rfl|rfl|rfl|rfl|rfl|rfl|rfl<;>decide
theorem Bjd(v:UInt64){t:Nat}(h:t<=8):(Fy v (Aq (Eh (1:UInt64) t) (1:UInt64))).toNat=v.toNat %2^t:=by
 have hp:2^t<=2^8:=E1 F0 h;rw[Bfh h,R5,aJ,E_,C! (by have:=KQ (n:=t) (show 0<2 by omega);omega),aD]
theorem or8{v w i:Nat}(hv:v<2^i)(hw:w*2^i<256)(hi:i<8):I7 (UInt8.ofNat v) (Eh (UInt8.ofNat w) i)=UInt8.ofNat (v+w*2^i):=by
 have hp:2^i<=2^8:=E1 F0 F0;have hpos:0<2^i:=KQ F0;have hw2:w<256:=P3 (VZ w hpos) hw;rw[Bft];apply UInt8.toNat_inj.1;have e1:(UInt8.ofNat v).toNat=v:=by rw[HT,C! F0]
 have e2:(UInt8.ofNat w).toNat=w:=by rw[HT,C! F0]
 rw[UInt8.toNat_or,Bcf,e1,e2,C! hw,D9 w,Nat.or_comm,<-QC hv,HT,M_ v];rw[D9]at hw;have hb:2^i*w+v<256:=by
  rw[QC hv];exact Nat.or_lt_two_pow (n:=8) hw F0
 rw[C! hb]
theorem Ajr(p:LB)(a n T:Nat)(h:T<=n)(hn:n<=64):Cy (Tm p a n) T=Tm p (a+T) (n-T):=by
 apply UInt64.toNat_inj.1;rw[HZ,DZ p a n hn,DZ p (a+T) (n-T) F0];have:=Tg p T a
 conv=>lhs;rw[show n=T+(n-T) by omega,WE,Nat.add_mul_div_left _ _ (KQ F0),MV this,HM]
theorem Ale(p:LB)(a n T:Nat)(h:T<=n)(hn:n<=64):(Tm p a n).toNat %2^T=Cp p a T:=by
 have:=Tg p T a;rw[DZ p a n hn]
 conv=>lhs;rw[show n=T+(n-T) by omega,WE,Nat.add_mul_mod_self_left,C! this]
theorem Be3 (bk:Int->Int->LB->Option (LB×Int×Int))(to':Int)(p:LB)(N fr:Int)(r6:UInt64)(a:Nat):∀(j m q:Nat),m+j<=300000->j<=64->j<q->
  Up bk to' p N fr r6 q (Tm p (a+m) j) (j:Int) (m:Int) (Ul p a m)=aO bk to' p N fr ((m+j:Nat):Int) (Ul p a (m+j))
 |0,m,q+1,_,_,_=>by
  rw[Up,aT,A_ O7];rfl
 |j+1,m,q+1,hm,hj,hq=>by
  have hroom:Up bk to' p N fr r6 (q+1) (Tm p (a+m) (j+1)) ((j+1:Nat):Int) (m:Int) (Ul p a m)=aW (Up bk to' p N fr r6 q) to' fr p N r6 (Tm p (a+m) (j+1)) ((j+1:Nat):Int) (m:Int) (room p a m):=by
   rw[Up,aT,B2 O7,zh m F0,room];by_cases h0:m %8=0
   ·rw[B2 (by rw[As,h0];rfl),Bg n?,Aa,B2 h0]
   ·rw[A_ E6,A_ h0]
  have hl:Aq (Ac (room p a m)) 1=((m/8:Nat):Int):=by
   rw[Ac,Sd,Cb];omega
  have e2:Fq ((j+1:Nat):Int) (Aq (8:Int) ((m %8:Nat):Int))=((min (j+1) (8-m %8):Nat):Int):=by
   rw[CO,Cb];omega
  rw[hroom,aW,Amj,zh m F0,e2,hl];generalize hT:min (j+1) (8-m %8)=T;have hT1:1<=T:=F0
  have hT8:m %8+T<=8:=F0
  have hg:Ao (room p a m) ((m/8:Nat):Int)=some (UInt8.ofNat (Cp p (a+8*(m/8)) (m %8))):=by
   rw[Bq XA,yU]
  have z1:(GI.toZ ((m %8:Nat):Int)).toNat=m %8:=rfl;have z2:(GI.toZ ((T:Nat):Int)).toNat=T:=rfl;have hlt:=Y0 p (a+8*(m/8)) (m %8+T) F0;have hadd:=WE p (m %8) T (a+8*(m/8));rw[show a+8*(m/8)+m %8=a+m by omega]at hadd;have hbyte:(Ag (Fy (Tm p (a+m) (j+1)) (Aq (Eh (1:UInt64) T) (1:UInt64))):UInt8)=UInt8.ofNat (Cp p (a+m) T):=by
   rw[eX,Bjd _ F0,Ale p (a+m) (j+1) T F0 hj]
  have hnew:I7 (UInt8.ofNat (Cp p (a+8*(m/8)) (m %8))) (Eh (UInt8.ofNat (Cp p (a+m) T)) (m %8))=UInt8.ofNat (Cp p (a+8*(m/8)) (m %8+T)):=by
   rw[or8 (Tg _ _ _) bQ F0,hadd,D9 (2^(m %8))]
  rw[hg,z1,z2,hbyte];simp only[Aa];rw[Br IE,Aa,Br ID,Aa,hnew,Yb _ XA,Aa,U4 p a m T hT1 hT8,Ags,Afb,zh m F0,e2,hT,Br IE,Aa,z2,Ajr p (a+m) (j+1) T F0 hj,Cb,Ah];have ih:=Be3 bk to' p N fr r6 a (j+1-T) (m+T) q F0 F0 F0;rw[show m+T+(j+1-T)=m+(j+1) by omega]at ih;rw[<-ih,show a+m+T=a+(m+T) by omega,show((j+1:Nat):Int)-((T:Nat):Int)=((j+1-T:Nat):Int) by omega,show(m:Int)+((T:Nat):Int)=((m+T:Nat):Int) by omega]
theorem Ajj(p:LB)(N:Int)(a n:Nat)(ha:a+n<=8*p.length)(hp:p.length<=1000000)(hn:n<=300000):∀(j m f q:Nat),(f=m\/n<=f/\m=n)->m+j=n->f<=n+64->j<q->EL ((a+n:Nat):Int) p N q ((a+f:Nat):Int) (m:Int) (Ul p a m)=some (Ul p a n,(n:Int),0)
 |j,m,f,q+1,hf,hm,hf2,hq=>by
  rw[EL,qR];by_cases hlt:f<n
  ·obtain rfl:f=m:=F0
   have e1:Fq (64:Int) (Aq ((a+n:Nat):Int) ((a+f:Nat):Int))=((min 64 (n-f):Nat):Int):=by
    rw[CO,Cb];omega
   rw[B2 C1,e1,get_eq p N (a+f) _ F0 F0 hp,Aa,qU];have h1:=Be3 (EL ((a+n:Nat):Int) p N q) ((a+n:Nat):Int) p N ((a+f:Nat):Int) (Tm p (a+f) (min 64 (n-f))) a (min 64 (n-f)) f Ax F0 F0 B_;refine F? h1 ?_;rw[aO,Aez,Ah,show((a+f:Nat):Int)+64=((a+(f+64):Nat):Int) by omega];exact Ajj p N a n ha hp hn (j-min 64 (n-f)) (f+min 64 (n-f)) (f+64) q F0 F0 F0 F0
  ·rw[A_ C1,pF,Ahh,show m=n by omega]
theorem Bfy{p:LB}{N:Nat}(h:okB p N)(a n:Nat)(ha:a+n<=N)(hn:n<=300000):wP p (N:Int) (a:Int) ((a+n:Nat):Int)=some (Ul p a n,(n:Int),0):=by
 obtain⟨h1,h2,h3⟩:=h;have:=Ajj p N a n F0 F0 hn n 0 0 Ax F0 F0 F0 B_;rw[wP,wV,EX ⟨h1,h2,h3⟩,Aa,A_ C0,A_ EE,Ac6];exact this
theorem SK{p:Prop}(h:p:=by simp[Ad];omega):p:=h
theorem J9{p:Prop}(h:p:=by rw[Ad];simp):p:=h
def Hx(p:LB):Nat->Nat->Nat
 |_,0=>0
 |a,m+1=>if Im p a=1 then 1+Hx p (a+1) m else 0
theorem gX(p:LB):∀(m a:Nat),Hx p a m<=m
 |0,_=>C9 _
 |m+1,a=>by rw[Hx];split<;>have:=gX p m (a+1)<;>omega
theorem Aj1(p:LB):∀(m a:Nat),∃s,Cp p a m+1=2^(Hx p a m+1)*s+2^Hx p a m/\ (Hx p a m=m->s=0)
 |0,a=>⟨0,by simp[Cp,Hx],λ_=>rfl⟩
 |m+1,a=>by
  have hb:=HP p a;obtain⟨s,h1,h2⟩:=Aj1 p m (a+1);by_cases h:Im p a=1
  ·refine⟨s,?_,λe=>h2 ?_⟩
   ·rw[Hx,B2 h,Cp,h,show 1+Hx p (a+1) m+1=(Hx p (a+1) m+1)+1 by omega,show 1+Hx p (a+1) m=Hx p (a+1) m+1 by omega,F_,F_ (n:=2) (m:=Hx p (a+1) m)];rw[F_]at h1;generalize Cp p (a+1) m=V at*
    generalize 2^Hx p (a+1) m=W at*
    have e1:W*2*2*s=2*(W*2*s):=by rw[jK (W*2) 2 s,D9]
    omega
   ·rw[Hx,B2 h]at e;omega
  ·refine⟨Cp p (a+1) m,?_,λe=>?_⟩
   ·rw[Hx,A_ h,Cp];simp;omega
   ·rw[Hx,A_ h]at e;omega
theorem Bdm{n t s:Nat}(h:2^(t+1)*s+2^t<=2^n)(ht:t<n)(x:Nat)(hx:x=2^n-(2^(t+1)*s+2^t)):x&&& (2^(t+1)*s+2^t)=2^t:=by
 have hpos:0<2^t:=KQ F0;have hlt:2^t<2^(t+1):=by rw[F_];omega
 have e:x=2^n-((2^(t+1)*s+(2^t-1))+1):=by rw[hx];congr 1;omega
 apply vM;intro i;rw[Nat.testBit_and,e,Nat.testBit_two_pow_sub_succ F0,Bor _ F0,Bor _ hlt];by_cases hi:i<t+1
 ·rw[B2 hi,B2 hi,Nat.testBit_two_pow_sub_one,Nat.testBit_two_pow];by_cases hit:t=i
  ·subst hit;simp;exact ht
  ·have:¬i=t:=λe=>hit e.symm;simp[hit]
 ·rw[A_ hi,A_ hi,Nat.testBit_two_pow];have:¬t=i:=F0
  simp[this]
theorem Ay3(a:UInt64):(N5 a).toNat=18446744073709551615-a.toNat:=by
 have h:=a.toNat_lt;have e:N5 a=UInt64.ofNat (BitVec.ofInt 64 18446744073709551615^^^BitVec.ofInt 64 (a.toNat:Int)).toNat:=Kr _;have h1:BitVec.ofInt 64 (a.toNat:Int)=a.toBitVec:=fF a;have h2:(BitVec.ofInt 64 18446744073709551615:BitVec 64)=BitVec.allOnes 64:=F2
 rw[e,E_,h1,h2,BitVec.allOnes_xor,lH];show(18446744073709551616-1-a.toNat) %18446744073709551616=18446744073709551615-a.toNat;omega
theorem Axr(a:UInt64):(O0 a).toNat=(18446744073709551616-a.toNat) %18446744073709551616:=by
 have h:=a.toNat_lt;have e:O0 a=UInt64.ofNat ((0-(a.toNat:Int)) %18446744073709551616).toNat:=qb _;rw[e,E_];show((0-(a.toNat:Int)) %18446744073709551616).toNat %18446744073709551616=_;omega
def Bjb:LB:=[0,1,56,2,57,49,28,3,61,58,42,50,38,29,17,4,62,47,59,36,45,43,51,22,53,39,33,30,24,18,12,5,63,55,48,27,60,41,37,16,46,35,44,21,52,32,23,11,54,26,40,15,34,20,31,10,25,14,19,9,13,8,7,6]
theorem Asd:∀t:Fin 64,Ao Bjb (GI.toZ (Cy (Bm (UInt64.ofNat (2^t.val)) (285870213051353865:UInt64)) (GI.toZ (58:UInt64)).toNat))=some (UInt8.ofNat t.val):=by decide +kernel
theorem Bir(x:UInt64)(t s:Nat)(ht:t<64)(h:x.toNat+(2^(t+1)*s+2^t)=18446744073709551616):Ja x=some (t:Int):=by
 have hpos:0<2^t:=KQ F0;have hx:x.toNat=2^64-(2^(t+1)*s+2^t):=by show x.toNat=18446744073709551616-_;omega
 have hle:2^t<=2^63:=E1 F0 F0;have hne:x≠0:=by
  intro e;rw[e]at h;have h':2^t*(2*s+1)=2^64:=by
   rw[X6,Nat.mul_one,<-I6,<-F_]
   show _=18446744073709551616;simpa using h
  have h2:2^64=2^t*2^(64-t):=by rw[<-PG];congr 1;omega
  rw[h2]at h';have h3:=Nat.eq_of_mul_eq_mul_left hpos h';rw[show 64-t=(63-t)+1 by omega,F_]at h3;omega
 have hx0:x.toNat≠0:=λe=>hne (UInt64.toNat_inj.1 e);have hl:Fy x (O0 x)=UInt64.ofNat (2^t):=by
  apply UInt64.toNat_inj.1;rw[R5,aJ,Axr,show(18446744073709551616-x.toNat) %18446744073709551616=2^(t+1)*s+2^t by omega,Bdm (n:=64) (by show _<=18446744073709551616;omega) ht _ hx,E_,C!];exact P3 hle F2
 have hb:=Asd ⟨t,ht⟩;rw[Ja,A_ (by rw[O8];simpa using hne),hl];refine F? (congrArg (λo=>Option.bind o λc=>some (Ag c:Int)) hb) ?_;rw[Aa,bJ,HT,C! (by show t<256;omega)]
theorem Bdx(p:LB)(a m:Nat)(hm:m<=48):Ja (N5 (Tm p a m))=some ((Hx p a m:Nat):Int):=by
 obtain⟨s,h1,h2⟩:=Aj1 p m a;have hle:=gX p m a;have hlt:=Tg p m a;have h48:2^m<=2^48:=E1 F0 hm;have hn:(N5 (Tm p a m)).toNat=18446744073709551615-Cp p a m:=by rw[Ay3,DZ p a m F0]
 have h3:(281474976710656:Nat)=2^48:=rfl;refine Bir _ (Hx p a m) s F0 ?_;rw[hn];omega
def unS(p:LB)(N a:Nat):Int×Int×Int:=
 if Hx p a (min 48 (N-a))<min 48 (N-a)then((Hx p a (min 48 (N-a)):Nat),((a+Hx p a (min 48 (N-a))+1:Nat):Int),0)else
 if Hx p a (min 48 (N-a))=48 then(48,((a+48:Nat):Int),0)else(0,0,24)
theorem Ayp{p:LB}{N:Nat}(h:okB p N)(a:Nat)(ha:a<N):TU p (N:Int) (a:Int)=some (unS p N a):=by
 have hN:=h.1;have e1:Fq (48:Int) (Aq (N:Int) (a:Int))=((min 48 (N-a):Nat):Int):=by rw[CO,Cb];omega
 have hle:=gX p (min 48 (N-a)) a;rw[TU,HX,EX h,Aa,A_ C0,A_ J9,A_ ID,e1,sj h a _ F0,A_ F0,Aa];simp only;rw[jV,Aaq,A_ C0,Bdx p a _ F0,Aa,Aar,Aad,e1,unS];by_cases h1:Hx p a (min 48 (N-a))<min 48 (N-a)
 ·rw[B2 C1,B2 h1,Ah (a:=(a:Int)) F0 F0,show Ae (0:Int) 1=1 by decide,Ah];congr 3;omega
 ·rw[A_ C1,A_ h1,Aao,Aa4];by_cases h2:Hx p a (min 48 (N-a))=48
  ·rw[B2 (by rw[As,h2];rfl),B2 h2,h2,Ah (a:=(a:Int)) F0 F0,Ah];congr 3;omega
  ·rw[A_ E6,A_ h2];rfl
theorem Aeg(p:LB):∀(m a:Nat),Hx p a m<m->Im p (a+Hx p a m)≠1
 |0,_,h=>by simp[Hx]at h
 |m+1,a,h=>by
  by_cases hb:Im p a=1
  ·rw[Hx,B2 hb]at h⊢;have:=Aeg p m (a+1) F0;rwa [show a+(1+Hx p (a+1) m)=a+1+Hx p (a+1) m by omega]
  ·rw[Hx,A_ hb];exact hb
theorem Adm(p:LB):∀(m a k:Nat),k<Hx p a m->Im p (a+k)=1
 |0,a,k,h=>by simp[Hx]at h
 |m+1,a,k,h=>by
  by_cases hb:Im p a=1
  ·rw[Hx,B2 hb]at h;cases k with
   |zero=>exact hb
   |succ k=>
    have:=Adm p m (a+1) k F0;rwa [show a+(k+1)=a+1+k by omega]
  ·rw[Hx,A_ hb]at h;omega
def unR(p:LB)(N a:Nat):Int×Int:=if(unS p N a).2.2=0 then((unS p N a).1,(unS p N a).2.1)else(-1,0)
theorem wz{p:LB}{N:Nat}(h:okB p N)(a:Nat)(ha:a<N):∀(j k q:Nat),k+j=Hx p a (min 48 (N-a))->j<q->Pw (a:Int) p (N:Int) q (k:Int)=some (unR p N a)
 |0,k,q+1,hk,_=>by
  obtain⟨hN,hl,hz⟩:=h;have hle:=gX p (min 48 (N-a)) a;have hk':k=Hx p a (min 48 (N-a)):=F0
  have e1:Ae (a:Int) (k:Int)=((a+k:Nat):Int):=by rw[Ah];omega
  have hend:HB (a:Int) (k:Int) p (N:Int)=some (unR p N a):=by
   rw[HB,Apb,e1];by_cases h48:k=48
   ·have hu:unS p N a=(48,((a+48:Nat):Int),0):=by rw[unS,<-hk',A_ F0,B2 h48]
    rw[B2 (by rw[As,h48];rfl),unR,hu,h48];rfl
   ·rw[A_ E6];by_cases hN2:N<=a+k
    ·have hu:unS p N a=(0,0,24):=by rw[unS,<-hk',A_ F0,A_ h48]
     rw[B2 ID,unR,hu];rfl
    ·have hu:unS p N a=(((k:Nat):Int),((a+k+1:Nat):Int),0):=by rw[unS,<-hk',B2 F0]
     rw[A_ ID,unR,hu,Ah];rfl
  rw[Pw,GV,e1];by_cases hc:a+k<N/\k<48
  ·have hb:=HP p (a+k);have hs:=Aeg p (min 48 (N-a)) a F0;rw[<-hk']at hs;rw[B2 SK,cu p _ (a+k) F0 F0,Aa,A_ E6,hend]
  ·rw[A_ SK,hend]
 |j+1,k,q+1,hk,hq=>by
  obtain⟨hN,hl,hz⟩:=h;have hle:=gX p (min 48 (N-a)) a;have hb:=Adm p (min 48 (N-a)) a k F0;have e1:Ae (a:Int) (k:Int)=((a+k:Nat):Int):=by rw[Ah];omega
  rw[Pw,GV,e1,B2 SK,cu p _ (a+k) F0 F0,Aa,hb,B2 F2,Ah];exact wz ⟨hN,hl,hz⟩ a ha j (k+1) q F0 F0
theorem Aws{p:LB}{N:Nat}(h:okB p N)(a:Nat)(ha:a<N):Bd6 p (N:Int) (a:Int)=some (unR p N a):=by
 have hle:=gX p (min 48 (N-a)) a;have:=wz h a ha (Hx p a (min 48 (N-a))) 0 Ax F0 B_;exact this
theorem Aw7{p:LB}{N a:Nat}(h:Hx p a (min 48 (N-a))<min 48 (N-a)):unS p N a=(((Hx p a (min 48 (N-a)):Nat):Int),((a+Hx p a (min 48 (N-a))+1:Nat):Int),0):=by rw[unS,B2 h]
theorem Ays{p:LB}{N a:Nat}(h:¬Hx p a (min 48 (N-a))<min 48 (N-a))(h2:Hx p a (min 48 (N-a))=48):unS p N a=(48,((a+48:Nat):Int),0):=by rw[unS,A_ h,B2 h2]
theorem Awa{p:LB}{N a:Nat}(h:¬Hx p a (min 48 (N-a))<min 48 (N-a))(h2:¬Hx p a (min 48 (N-a))=48):unS p N a=(0,0,24):=by rw[unS,A_ h,A_ h2]
theorem Asv{p:LB}{N:Nat}(h:okB p N)(a:Nat)(ha:N<=a):TU p (N:Int) (a:Int)=some (0,0,24):=by
 rw[TU,HX,EX h,Aa,A_ C0,A_ J9,B2 ID]
def bU(p:LB)(N a k:Nat):UInt32×Int×Int:=
 if N<=a then(0,0,24)else
 if Hx p a (min 48 (N-a))<min 48 (N-a)then
  (if N<a+Hx p a (min 48 (N-a))+1+k then(0,0,24)else(UInt32.ofNat (Hx p a (min 48 (N-a))*2^k+Cp p (a+Hx p a (min 48 (N-a))+1) k),((a+Hx p a (min 48 (N-a))+1+k:Nat):Int),0))
 else if Hx p a (min 48 (N-a))=48 then
  (if N<a+48+32 then(0,0,24)else if Cp p (a+48) 32/2^k<48 then(0,0,12)else(UInt32.ofNat (Cp p (a+48) 32),((a+48+32:Nat):Int),0))
 else(0,0,24)
theorem P5{p:LB}{a n:Nat}(h:n<=32):(Ag (Tm p a n):UInt32)=UInt32.ofNat (Cp p a n):=by
 have e:(Ag (Tm p a n):UInt32)=UInt32.ofNat (Tm p a n).toNat:=by simp only[Ag,Mr,He]
 rw[e,DZ p a n F0]
theorem gY{n:Nat}(h:n<4294967296):(UInt32.ofNat n).toNat=n:=by rw[H!];exact C! h
theorem Ajy(p:LB)(a:Nat){n:Nat}(h:n<=32):Cp p a n<4294967296:=by
 have h1:=Tg p n a;have h2:2^n<=2^32:=E1 F0 h;omega
theorem Bgt{q v k:Nat}(hq:q<48)(hv:v<2^k)(hk:k<=24):I7 (Eh (Ag (q:Int):UInt32) k) (UInt32.ofNat v)=UInt32.ofNat (q*2^k+v):=by
 have hp:2^k<=2^24:=E1 F0 hk;have h1:q*2^k<=47*2^24:=HG F0 hp;rw[Bcc];apply UInt32.toNat_inj.1;rw[UInt32.toNat_or,uM,Aer,gY F0,gY (n:=v) F0,C! F0,D9 q,<-QC hv,gY bQ]
theorem Bb7{p:LB}{N:Nat}(h:okB p N)(a k:Nat)(hk:k<=24):zA p (N:Int) (a:Int) (k:Int)=some (bU p N a k):=by
 have hN:=h.1;rw[zA,Afr,EX h,Aa,A_ C0,A_ EE];by_cases ha:N<=a
 ·rw[Asv h a ha,Aa,bU,B2 ha];rfl
 have hle:=gX p (min 48 (N-a)) a;rw[Ayp h a F0,Aa];by_cases h1:Hx p a (min 48 (N-a))<min 48 (N-a)
 ·have hS:bU p N a k=if N<a+Hx p a (min 48 (N-a))+1+k then(0,0,24)else(UInt32.ofNat (Hx p a (min 48 (N-a))*2^k+Cp p (a+Hx p a (min 48 (N-a))+1) k),((a+Hx p a (min 48 (N-a))+1+k:Nat):Int),0):=by rw[bU,A_ ha,B2 h1]
  rw[Aw7 h1,hS];generalize Hx p a (min 48 (N-a))=q at*
  simp only;rw[A_ C0,A_ E6,rA,qE,sj h _ k F0,Aa];by_cases h2:N<a+q+1+k
  ·rw[B2 h2,B2 h2];rfl
  ·rw[A_ h2,A_ h2];simp only;have z:(GI.toZ (k:Int)).toNat=k:=rfl;rw[A_ C0,B2 C1,Br IE,Aa,z,P5 F0,Bgt F0 (Tg _ _ _) hk,Ah];rfl
 ·by_cases h2:Hx p a (min 48 (N-a))=48
  ·have hS:bU p N a k=if N<a+48+32 then(0,0,24)else if Cp p (a+48) 32/2^k<48 then(0,0,12)else(UInt32.ofNat (Cp p (a+48) 32),((a+48+32:Nat):Int),0):=by rw[bU,A_ ha,A_ h1,B2 h2]
   have hg:=sj h (a+48) 32 F0;rw[Ays h1 h2,hS];simp only;rw[A_ C0,B2 OB,rA,qE];refine F? (congrArg (λo=>Option.bind o _) hg) ?_;rw[Aa];by_cases h3:N<a+48+32
   ·rw[B2 h3,B2 h3];rfl
   ·rw[A_ h3,A_ h3];simp only;have z:(GI.toZ (k:Int)).toNat=k:=rfl;have hv:=Ajy p (a+48) (n:=32) F0;rw[A_ C0,A_ J9,FO,Br IE,Aa,Aa,z,P5 F0,Apo];have e:(decide ((48:UInt32).toNat<= (Cy (UInt32.ofNat (Cp p (a+48) 32)) k).toNat))=decide (¬Cp p (a+48) 32/2^k<48):=by
     rw[VJ,gY hv];simp
    rw[e];by_cases h4:Cp p (a+48) 32/2^k<48
    ·rw[B2 (by simp[h4]),B2 h4]
    ·rw[A_ B5,A_ h4,Ah];rfl
  ·rw[Awa h1 h2,bU,A_ ha,A_ h1,A_ h2];rfl
theorem Baf (k:Nat)(hk:k<=63):∀(j i q:Nat),i+j=k->j<q->Mt (k:Int) q (UInt64.ofNat (2^i)) (i:Int)=some (UInt64.ofNat (2^k))
 |0,i,q+1,hi,_=>by
  rw[Mt,BK,A_ C1,show i=k by omega];rfl
 |j+1,i,q+1,hi,hq=>by
  have e:Bm (UInt64.ofNat (2^i)) (2:UInt64)=UInt64.ofNat (2^(i+1)):=by
   rw[WN,F_,lG];rfl
  rw[Mt,BK,B2 C1,Ah,e];exact Baf k hk j (i+1) q F0 F0
theorem WQ(k:Nat)(hk:k<=63):Ie (k:Int)=some (UInt64.ofNat (2^k)):=
 Baf k hk k 0 Ax F0 B_
theorem gQ{k:Nat}(hk:k<=63):(UInt64.ofNat (2^k)).toNat=2^k:=by
 have hp:2^k<=2^63:=E1 F0 hk;rw[E_,C! F0]
theorem Bbn(v:UInt32)(k:Nat)(hk:k<=24):MY v (k:Int)=some ((min 48 (v.toNat/2^k):Nat):Int):=by
 have hpos:0<2^k:=KQ F0;have hv:=v.toNat_lt;rw[MY,WQ k F0,Aa,Br (by rw[aS];simp only[LJ,ne_eq,<-RC,gQ (show k<=63 by omega)];simp),Aa];have e:(Ca (Ag v:UInt64) (UInt64.ofNat (2^k))).toNat=v.toNat/2^k:=by
  rw[T6,WU,En,gQ F0,E_,C! F0]
 have hle:v.toNat/2^k<=v.toNat:=FU _ _;have e2:Fq (48:UInt64) (Ca (Ag v:UInt64) (UInt64.ofNat (2^k)))=UInt64.ofNat (min 48 (v.toNat/2^k)):=by
  apply UInt64.toNat_inj.1;rw[E_,C! F0];show(if _ then _ else _:UInt64).toNat=_;rw[show(GI.toZ (Ca (Ag v:UInt64) (UInt64.ofNat (2^k))))=((v.toNat/2^k:Nat):Int) by rw[Mr,e],show GI.toZ (48:UInt64)=48 from rfl];split
  ·rw[e];omega
  ·show 48=_;omega
 rw[e2,qz (by rw[E_,C!]<;>omega),E_,C! F0]
theorem Awp{p:LB}{N:Nat}(h:okB p N)(a k:Nat)(hk:k<=24):TO p (N:Int) (a:Int) (k:Int)=some (bU p N a k):=by
 obtain⟨hN,hl,hz⟩:=h;have h:okB p N:=⟨hN,hl,hz⟩;rw[TO,Anq];by_cases ha:N<=a
 ·rw[B2 ID,bU,B2 ha]
 have hle:=gX p (min 48 (N-a)) a;rw[A_ ID,Aws h a F0,Aa,unR];by_cases h1:Hx p a (min 48 (N-a))<min 48 (N-a)
 ·have hS:bU p N a k=if N<a+Hx p a (min 48 (N-a))+1+k then(0,0,24)else(UInt32.ofNat (Hx p a (min 48 (N-a))*2^k+Cp p (a+Hx p a (min 48 (N-a))+1) k),((a+Hx p a (min 48 (N-a))+1+k:Nat):Int),0):=by rw[bU,A_ ha,B2 h1]
  rw[Aw7 h1,hS];generalize Hx p a (min 48 (N-a))=q at*
  rw[B2 rfl];simp only;rw[A_ E6,GX,GL,Cb];by_cases h2:N<a+q+1+k
  ·rw[B2 SK,B2 h2]
  ·have hp:2^k<=2^24:=E1 F0 hk;have hm:q*2^k<=47*2^24:=HG F0 hp;have hv:=Tg p k (a+q+1);have e:(Ag (Ae (Bm (Ag (q:Int):UInt64) (UInt64.ofNat (2^k))) (Tm p (a+q+1) k)):UInt32)=UInt32.ofNat (q*2^k+Cp p (a+q+1) k):=by
    have e1:Ae (Bm (Ag (q:Int):UInt64) (UInt64.ofNat (2^k))) (Tm p (a+q+1) k)=UInt64.ofNat (q*2^k+Cp p (a+q+1) k):=by
     rw[WW,WN,AQ,Tm,v_,lG]
    rw[e1];have e2:∀x:UInt64,(Ag x:UInt32)=UInt32.ofNat x.toNat:=λx=>by simp only[Ag,Mr,He]
    rw[e2,E_,C! F0]
   rw[A_ SK,A_ h2,E9 p _ _ k F0 F0,Aa,B2 C1,WQ k F0,Aa,e,Ah];rfl
 ·by_cases h2:Hx p a (min 48 (N-a))=48
  ·have hS:bU p N a k=if N<a+48+32 then(0,0,24)else if Cp p (a+48) 32/2^k<48 then(0,0,12)else(UInt32.ofNat (Cp p (a+48) 32),((a+48+32:Nat):Int),0):=by rw[bU,A_ ha,A_ h1,B2 h2]
   rw[Ays h1 h2,hS,B2 rfl];simp only;rw[B2 OB,GX,GL,Cb];by_cases h3:N<a+48+32
   ·rw[B2 SK,B2 h3]
   ·have hg:=E9 p (N:Int) (a+48) 32 F0 F0;have hv:=Ajy p (a+48) (n:=32) F0;rw[A_ SK,A_ h3];refine F? (congrArg (λo=>Option.bind o _) hg) ?_;rw[Aa,A_ J9,P5 F0,Bbn _ k hk,Aa,gY hv];by_cases h4:Cp p (a+48) 32/2^k<48
    ·rw[B2 C1,B2 h4]
    ·rw[A_ C1,A_ h4,Ah];rfl
  ·rw[Awa h1 h2,bU,A_ ha,A_ h1,A_ h2];have e:(if((0:Int),(0:Int),(24:Int)).2.2=0 then(((0:Int),(0:Int),(24:Int)).1,((0:Int),(0:Int),(24:Int)).2.1)else((-1:Int),(0:Int)))=(-1,0):=F2
   rw[e];rfl
theorem Bfq{p:LB}{N a k:Nat}{v:UInt32}{n:Int}(h:bU p N a k=(v,n,0)):(a:Int)<n/\n<=N:=by
 unfold bU at h;split at h
 ·simp at h
 split at h
 ·split at h
  ·simp at h
  ·simp only[BS]at h;omega
 ·split at h
  ·split at h
   ·simp at h
   ·split at h
    ·simp at h
    ·simp only[BS]at h;omega
  ·simp at h
def okD(k l:Nat)(s t:UInt64):Prop:=k<=24/\l<=24/\s.toNat<=68719476735/\t.toNat<=68719476735
theorem Aj0(a b:UInt64)(h:a.toNat<=b.toNat):Fq a b=a:=by
 show(if _ then _ else _)=_;rw[Mr,Mr,A_ F0]
theorem Aco(a:UInt64):geq a a=true:=by rw[O8];simp
theorem Avn{k l:Nat}{t:UInt64}(h:okD k l s t):eY (k:Int) (l:Int) s t=some 0:=by
 obtain⟨h1,h2,h3,h4⟩:=h;have e1:Fq (pJ (k:Int) 0) 24=(k:Int):=by rw[CO,qd];omega
 have e2:Fq (pJ (l:Int) 0) 24=(l:Int):=by rw[CO,qd];omega
 have e3:Fq s (68719476735:UInt64)=s:=Aj0 _ _ (by simpa using h3);have e4:Fq t (68719476735:UInt64)=t:=Aj0 _ _ (by simpa using h4);have e5:∀a:Int,geq a a=true:=λa=>by rw[As];simp
 rw[eY,UT,kQ,UM,jO,Aa2,e1,e2,e3,e4,e5,e5,Aco,Aco];rfl
def CJ(s n:UInt64):UInt64:=s+n-s/16
def kS(k:Nat)(s:UInt64):Nat:=if 0<k/\s.toNat<2^(k+4)then k-1 else if k<24/\2^(k+5)<s.toNat then k+1 else k
theorem Beo{k:Nat}(h:k<=24)(s:UInt64):kS k s<=24:=by
 unfold kS;by_cases h1:0<k/\s.toNat<2^(k+4)
 ·rw[B2 h1];omega
 ·rw[A_ h1];split<;>omega
theorem Apm{k:Nat}(h:¬(0<k/\s.toNat<2^(k+4))):(if k<24/\2^(k+5)<s.toNat then((k+1:Nat):Int)else(k:Int))=((kS k s:Nat):Int):=by
 rw[kS,A_ h];split<;>rfl
theorem Apq{n:UInt64}(h:s.toNat<=68719476735)(hn:n.toNat<=4294967295):(CJ s n).toNat<=68719476735:=by
 have h1:=s.toNat_lt;have e:(s+n).toNat=s.toNat+n.toNat:=by rw[UInt64.toNat_add];omega
 have e2:(s/16).toNat=s.toNat/16:=by rw[WU];rfl
 rw[CJ,v? _ _ (by rw[vB,e,e2];omega),e,e2];omega
theorem lJ(s n:UInt64):Ae s (Aq n (Cy s (GI.toZ (4:UInt64)).toNat))=CJ s n:=by
 have e:Cy s (GI.toZ (4:UInt64)).toNat=s/16:=by
  apply UInt64.toNat_inj.1;rw[HZ,WU];rfl
 rw[e,WW,U8,CJ,UInt64.sub_eq_add_neg,UInt64.sub_eq_add_neg,UInt64.add_assoc]
theorem Ap2(s n:UInt64):Aq (Ae s n) (Ca s (16:UInt64))=CJ s n:=by rw[WW,U8,T6,CJ]
theorem Bia{k:Nat}(h:k<=24):(Eh (16:UInt64) k).toNat=2^(k+4):=by
 have hp:2^k<=2^24:=E1 F0 h;rw[fQ,PG]
 show 16*2^k %_=2^k*16;rw[C! F0,D9]
theorem Bg3{k:Nat}(h:k<=24):(Eh (32:UInt64) k).toNat=2^(k+5):=by
 have hp:2^k<=2^24:=E1 F0 h;rw[fQ,PG]
 show 32*2^k %_=2^k*32;rw[C! F0,D9]
theorem Beh{k:Nat}(h:0<k)(h2:s.toNat<2^(k+4)):kS k s=k-1:=by rw[kS,B2 ⟨h,h2⟩]
theorem Bet{k:Nat}(h:¬(0<k/\s.toNat<2^(k+4)))(h2:k<24)(h3:2^(k+5)<s.toNat):kS k s=k+1:=by rw[kS,A_ h,B2 ⟨h2,h3⟩]
theorem gE{k:Nat}(h:¬(0<k/\s.toNat<2^(k+4)))(h2:¬(k<24/\2^(k+5)<s.toNat)):kS k s=k:=by rw[kS,A_ h,A_ h2]
theorem gP(k:Nat)(hk:k<=24)(s:UInt64)(f:Int->Option α):
  (if(Dz (k:Int) (0:Int))=true then(
   Option.bind (Jb (Le (k:Int) (0:Int))) λ_=>
   if(Cj s (Eh (16:UInt64) (GI.toZ (k:Int)).toNat))=true then f (Aq (k:Int) (1:Int))
   else(if(Cj (k:Int) (24:Int))=true then(
    Option.bind (Jb (Le (k:Int) (0:Int))) λ_=>
    if(Dz s (Eh (32:UInt64) (GI.toZ (k:Int)).toNat))=true then f (Ae (k:Int) (1:Int))else f (k:Int))
    else f (k:Int)))
  else(if(Cj (k:Int) (24:Int))=true then(
    Option.bind (Jb (Le (k:Int) (0:Int))) λ_=>
    if(Dz s (Eh (32:UInt64) (GI.toZ (k:Int)).toNat))=true then f (Ae (k:Int) (1:Int))else f (k:Int))
    else f (k:Int)))=f ((kS k s:Nat):Int):=by
 have z:(GI.toZ (k:Int)).toNat=k:=rfl;rw[z,Br IE];simp only[Aa];rw[k_,iA,Bia hk,Bg3 hk];by_cases h0:0<k
 ·rw[B2 E7];by_cases h1:s.toNat<2^(k+4)
  ·rw[B2 (by simp[h1]),Beh h0 h1,Cb];congr 1;omega
  ·rw[A_ B5];by_cases h2:k<24
   ·rw[B2 C1];by_cases h3:2^(k+5)<s.toNat
    ·rw[B2 (by simp[h3]),Bet (λh=>h1 h.2) h2 h3,Ah];rfl
    ·rw[A_ B5,gE (λh=>h1 h.2) (λh=>h3 h.2)]
   ·rw[A_ C1,gE (λh=>h1 h.2) (λh=>h2 h.1)]
 ·rw[A_ E7];by_cases h2:k<24
  ·rw[B2 C1];by_cases h3:2^(k+5)<s.toNat
   ·rw[B2 (by simp[h3]),Bet (λh=>h0 h.1) h2 h3,Ah];rfl
   ·rw[A_ B5,gE (λh=>h0 h.1) (λh=>h3 h.2)]
  ·rw[A_ C1,gE (λh=>h0 h.1) (λh=>h2 h.1)]
theorem Aq7(k:Nat)(hk:k<=24)(s n:UInt64):BW (k:Int) s n=some (((kS k (CJ s n):Nat):Int),CJ s n):=by
 have g1:Ae (k:Int) 4=((k+4:Nat):Int):=by rw[Ah];omega
 have g2:Ae (k:Int) 5=((k+5:Nat):Int):=by rw[Ah];omega
 have hp:CN (k:Int) s n=some (if k<24/\2^(k+5)<(CJ s n).toNat then((k+1:Nat):Int)else(k:Int),CJ s n):=by
  rw[CN,An6,g2,WQ _ F0,Aa,Ap2,iA,gQ F0];by_cases h2:k<24
  ·rw[B2 C1];by_cases h3:2^(k+5)<(CJ s n).toNat
   ·rw[B2 (by simp[h3]),B2 ⟨h2,h3⟩,Ah];rfl
   ·rw[A_ B5,A_ (λh=>h3 h.2)]
  ·rw[A_ C1,A_ (λh=>h2 h.1)]
 rw[BW,All,g1,WQ _ F0,Aa,Ap2,k_,gQ F0,hp];by_cases h0:0<k
 ·rw[B2 E7];by_cases h1:(CJ s n).toNat<2^(k+4)
  ·rw[B2 (by simp[h1]),Beh h0 h1,Cb];congr 2;omega
  ·rw[A_ B5,Apm (λh=>h1 h.2)]
 ·rw[A_ E7,Apm (λh=>h0 h.1)]
def c_(v:UInt32):UInt64:=UInt64.ofNat v.toNat
theorem Awz(v:UInt32):(c_ v).toNat<=4294967295:=by have:=v.toNat_lt;rw[c_,E_,C! F0];omega
def sM(k:Nat)(v:UInt32):UInt32:=UInt32.ofNat (v.toNat-2^k)
def lK(l:Nat)(t:UInt64)(k:Nat)(v:UInt32):Nat:=if v.toNat<2^k then l else kS l (CJ t (c_ (sM k v)))
def lT(t:UInt64)(k:Nat)(v:UInt32):UInt64:=if v.toNat<2^k then t else CJ t (c_ (sM k v))
theorem Avw{k l:Nat}{t:UInt64}(h:okD k l s t)(v:UInt32):okD (kS k (CJ s (c_ v))) (lK l t k v) (CJ s (c_ v)) (lT t k v):=by
 obtain⟨h1,h2,h3,h4⟩:=h;refine⟨Beo h1 _,?_,Apq h3 (Awz v),?_⟩
 ·unfold lK;split; · exact h2
  exact Beo h2 _
 ·unfold lT;split; · exact h4
  exact Apq h4 (Awz _)
theorem Bf6(k l:Nat)(s t:UInt64)(hk:k<=24)(v:UInt32):TI (k:Int) (l:Int) s t v=some (decide (v.toNat<2^k)):=by
 have:=v.toNat_lt;rw[TI,WQ k F0,Aa,k_,gQ F0,En,E_,C! F0]
theorem left_eq(k l:Nat)(s t:UInt64)(hk:k<=24)(v:UInt32)(h:¬v.toNat<2^k):OQ (k:Int) (l:Int) s t v=some (sM k v):=by
 have:=v.toNat_lt;have e2:∀x:UInt64,(Ag x:UInt32)=UInt32.ofNat x.toNat:=λx=>by simp only[Ag,Mr,He]
 have e3:(UInt64.ofNat v.toNat).toNat=v.toNat:=by rw[E_,C! F0]
 rw[OQ,WQ k F0,Aa,e2,U8,En,v? _ _ (by rw[vB,gQ F0,e3];omega),gQ F0,e3,sM]
theorem Auk{k l:Nat}{t:UInt64}(h:okD k l s t)(v:UInt32):FZ (k:Int) (l:Int) s t v=some (((kS k (CJ s (c_ v)):Nat):Int),((lK l t k v:Nat):Int),CJ s (c_ v),lT t k v):=by
 obtain⟨h1,h2,h3,h4⟩:=h;have hp:∀(r1:Int) (r2:UInt64),Yy v (k:Int) (l:Int) s t r1 r2=some (((kS k (CJ s (c_ v)):Nat):Int),r1,CJ s (c_ v),r2):=by
  intro r1 r2;rw[Yy,Af8,En,Aq7 k h1,Aa];rfl
 rw[FZ,Acu,Bf6 k l s t h1,Aa];by_cases hv:v.toNat<2^k
 ·rw[A_ (by simp[hv]),hp,lK,B2 hv,lT,B2 hv]
 ·rw[B2 B5,left_eq k l s t h1 v hv,Aa,En,Aq7 l h2,Aa];simp only;rw[hp,lK,A_ hv,lT,A_ hv];rfl
theorem z!(k l:Nat)(s t:UInt64)(hk:k<=24)(v:UInt32):TY (k:Int) (l:Int) s t v=some (if v.toNat<2^k then(0,v)else(1,sM k v)):=by
 have hp:2^k<=2^24:=E1 F0 hk;have hpos:0<2^k:=KQ F0;have hl:=v.toNat_lt;have z:(GI.toZ (k:Int)).toNat=k:=rfl;have e1:geq (Cy v k) (0:UInt32)=decide (v.toNat<2^k):=by
  rw[qH,D0];simp only[D4,<-lE,VJ,B7]
  show _/_=0↔_;rw[Nat.div_eq_zero_iff];omega
 have e2:¬v.toNat<2^k->Aq v (Eh (1:UInt32) k)=sM k v:=by
  intro h;have e3:(Eh (1:UInt32) k).toNat=2^k:=by rw[uM];show 1*2^k %_=_;rw[C! F0,JK]
  apply UInt32.toNat_inj.1;rw[e!,vC _ _ (by rw[vE,e3];omega),e3,sM,gY F0]
 rw[TY,Br IE,Aa,Aa,z,e1];by_cases h:v.toNat<2^k
 ·rw[B2 (by simp[h]),B2 h]
 ·rw[A_ B5,A_ h,e2 h]
abbrev Rd:=UInt32×Int×Int×Int×UInt64×UInt64×Int
theorem Ae9{k l:Nat}{t:UInt64}(h:okD k l s t)(v:UInt32)(r:Int):pI (k:Int) (l:Int) s t v r=some (v,r,((kS k (CJ s (c_ v)):Nat):Int),((lK l t k v:Nat):Int),CJ s (c_ v),lT t k v,0):=by
 obtain⟨h1,h2,h3,h4⟩:=h;have hp:∀(x:Int) (y:UInt64),QF v r (k:Int) s x y=some (v,r,((kS k (CJ s (c_ v)):Nat):Int),x,CJ s (c_ v),y,0):=by
  intro x y;rw[QF,Amf,En,lJ,gP k h1];rw[Ac9,Ahg,Aac,Aa1,En,lJ];rfl
 rw[pI,pG,z! k l s t h1,Aa];by_cases hv:v.toNat<2^k
 ·rw[B2 hv];simp only;rw[A_ Qz,hp,lK,B2 hv,lT,B2 hv]
 ·rw[A_ hv];simp only;rw[B2 OB,En,lJ,gP l h2 _ (λx=>QF v r (k:Int) s x (CJ t (UInt64.ofNat (sM k v).toNat))),hp,lK,A_ hv,lT,A_ hv];rfl
def kZ(p:LB)(N a k l:Nat):UInt32×Int×Int:=
 if N<=a then(0,0,24)else
 if Im p a=0 then(if N<a+1+k then(0,0,24)else(UInt32.ofNat (Cp p (a+1) k),((a+1+k:Nat):Int),0))else
 if(bU p N (a+1) l).2.2≠0 then(0,0,(bU p N (a+1) l).2.2)else
 if 4294967295<(bU p N (a+1) l).1.toNat+2^k then(0,0,12)else(UInt32.ofNat ((bU p N (a+1) l).1.toNat+2^k),(bU p N (a+1) l).2.1,0)
theorem Bgh{p:LB}{N a k l:Nat}(h:(kZ p N a k l).2.2=0):(a:Int)<(kZ p N a k l).2.1/\ (kZ p N a k l).2.1<=N:=by
 revert h
 unfold kZ;split
 ·simp
 split
 ·split
  ·simp
  ·simp only;omega
 ·split
  ·intro h;contradiction
  ·rename_i h1;split
   ·simp
   ·intro _;have:=Bfq (p:=p) (N:=N) (a:=a+1) (k:=l) (v:=(bU p N (a+1) l).1) (n:=(bU p N (a+1) l).2.1) (by
     have e:(bU p N (a+1) l).2.2=0:=by simpa using h1
     rw[<-e])
    simp only;omega
theorem Bb5{p:LB}{N:Nat}(h:okB p N)(a:Nat){k l:Nat}{t:UInt64}(hd:okD k l s t):TK p (N:Int) (a:Int) (k:Int) (l:Int) s t=
  some (if(kZ p N a k l).2.2≠0 then(0,0,0,0,0,0,(kZ p N a k l).2.2)else((kZ p N a k l).1,(kZ p N a k l).2.1,((kS k (CJ s (c_ (kZ p N a k l).1)):Nat):Int),((lK l t k (kZ p N a k l).1:Nat):Int),CJ s (c_ (kZ p N a k l).1),lT t k (kZ p N a k l).1,0)):=by
 obtain⟨h1,h2,h3,h4⟩:=hd;have hd:okD k l s t:=⟨h1,h2,h3,h4⟩;have hN:=h.1;have hg:=sj h a 1 F0;have hb:=HP p a;rw[TK,rJ,EX h,Aa,A_ C0,Avn hd,Aa,A_ C0,Amh,pP];refine F? (congrArg (λo=>Option.bind o _) hg) ?_;rw[Aa];by_cases ha:N<=a
 ·have hS:kZ p N a k l=(0,0,24):=by rw[kZ,B2 ha]
  rw[B2 F0,hS];rfl
 rw[A_ F0];simp only;have e0:geq (Tm p a 1) (0:UInt64)=decide (Im p a=0):=by
  rw[O8,D0];simp only[D4,<-RC,B7,DZ p a 1 F0,Q4];rfl
 have e1:Ae (a:Int) 1=((a+1:Nat):Int):=by rw[Ah];omega
 rw[A_ C0,e0,e1];by_cases hz:Im p a=0
 ·rw[B2 (by simp[hz]),sj h (a+1) k F0,Aa];by_cases h5:N<a+1+k
  ·have hS:kZ p N a k l=(0,0,24):=by rw[kZ,A_ ha,B2 hz,B2 h5]
   rw[B2 h5,hS];rfl
  ·have hS:kZ p N a k l=(UInt32.ofNat (Cp p (a+1) k),((a+1+k:Nat):Int),0):=by rw[kZ,A_ ha,B2 hz,A_ h5]
   rw[A_ h5,hS];simp only;rw[A_ C0,Ae9 hd,P5 F0,Ah];rfl
 ·rw[A_ (by simp[hz]),Bb7 h (a+1) l h2,Aa];have hp:2^k<=2^24:=E1 F0 h1;by_cases h5:(bU p N (a+1) l).2.2≠0
  ·have hS:kZ p N a k l=(0,0,(bU p N (a+1) l).2.2):=by rw[kZ,A_ ha,A_ hz,B2 h5]
   rw[hS];generalize bU p N (a+1) l=R at*
   obtain⟨v,n,e⟩:=R;simp only at*
   rw[B2 (by rw[Aj];simpa using h5),B2 h5]
  ·have hv:=(bU p N (a+1) l).1.toNat_lt;have z:(GI.toZ (k:Int)).toNat=k:=rfl;have e3:(Eh (1:UInt32) k).toNat=2^k:=by rw[uM];show 1*2^k %_=_;rw[C! F0,JK]
   by_cases h6:4294967295<(bU p N (a+1) l).1.toNat+2^k
   ·have hS:kZ p N a k l=(0,0,12):=by rw[kZ,A_ ha,A_ hz,A_ h5,B2 h6]
    rw[hS];generalize bU p N (a+1) l=R at*
    obtain⟨v,n,e⟩:=R;simp only at*
    rw[A_ (by rw[Aj];simpa using h5),Br IE,Aa,z,B2 (by rw[Apr,u_,vg,e3];simp;omega),B2 F2]
   ·have hS:kZ p N a k l=(UInt32.ofNat ((bU p N (a+1) l).1.toNat+2^k),(bU p N (a+1) l).2.1,0):=by rw[kZ,A_ ha,A_ hz,A_ h5,A_ h6]
    rw[hS];generalize bU p N (a+1) l=R at*
    obtain⟨v,n,e⟩:=R;simp only at*
    have e4:Ae v (Eh (1:UInt32) k)=UInt32.ofNat (v.toNat+2^k):=by
     apply UInt32.toNat_inj.1;rw[u_,vg,e3,gY F0,C! F0]
    rw[A_ (by rw[Aj];simpa using h5),Br IE,Aa,z,A_ (by rw[Apr,u_,vg,e3];simp;omega),e4,Ae9 hd];rfl
theorem Ay7{p:LB}{N:Nat}(h:okB p N)(a:Nat)(k l:Nat)(s t:UInt64)(h1:k<=24)(h2:l<=24):TL p (N:Int) (a:Int) (k:Int) (l:Int) s t=some (kZ p N a k l):=by
 have hN:=h.1;have hl:=h.2.1;have hb:=HP p a;rw[TL];by_cases ha:N<=a
 ·rw[B2 ID,kZ,B2 ha]
 rw[A_ ID,cu p _ a F0 F0,Aa,Cb (a:=(N:Int)) (b:=(a:Int)) F0 F0,Cb];have e1:Ae (a:Int) 1=((a+1:Nat):Int):=by rw[Ah];omega
 rw[e1];by_cases hz:Im p a=0
 ·rw[B2 (by rw[As];simp[hz])];by_cases h5:N<a+1+k
  ·rw[B2 C1,kZ,A_ ha,B2 hz,B2 h5]
  ·rw[A_ C1,E9 p _ (a+1) k F0 F0,Aa,kZ,A_ ha,B2 hz,A_ h5,P5 F0,Ah];rfl
 ·rw[A_ E6,Awp h (a+1) l h2,Aa];have hp:2^k<=2^24:=E1 F0 h1;have hv:=(bU p N (a+1) l).1.toNat_lt;have e2:∀x:UInt64,(Ag x:UInt32)=UInt32.ofNat x.toNat:=λx=>by simp only[Ag,Mr,He]
  by_cases h5:(bU p N (a+1) l).2.2≠0
  ·have hS:kZ p N a k l=(0,0,(bU p N (a+1) l).2.2):=by rw[kZ,A_ ha,A_ hz,B2 h5]
   rw[hS];generalize bU p N (a+1) l=R at*
   obtain⟨v,n,e⟩:=R;simp only at*
   rw[B2 (by rw[Aj];simpa using h5)]
  ·have hsum:∀v:UInt32,(Ae (Ag v:UInt64) (UInt64.ofNat (2^k))).toNat=v.toNat+2^k:=by
    intro v;have:=v.toNat_lt;have:=KQ (n:=k) (show 0<2 by omega);rw[WW,UInt64.toNat_add,En,gQ F0,E_];omega
   by_cases h6:4294967295<(bU p N (a+1) l).1.toNat+2^k
   ·have hS:kZ p N a k l=(0,0,12):=by rw[kZ,A_ ha,A_ hz,A_ h5,B2 h6]
    rw[hS];generalize bU p N (a+1) l=R at*
    obtain⟨v,n,e⟩:=R;simp only at*
    rw[A_ (by rw[Aj];simpa using h5),WQ k F0,Aa,B2 (by rw[iA,hsum];simpa using h6)]
   ·have hS:kZ p N a k l=(UInt32.ofNat ((bU p N (a+1) l).1.toNat+2^k),(bU p N (a+1) l).2.1,0):=by rw[kZ,A_ ha,A_ hz,A_ h5,A_ h6]
    rw[hS];generalize bU p N (a+1) l=R at*
    obtain⟨v,n,e⟩:=R;simp only at*
    rw[A_ (by rw[Aj];simpa using h5),WQ k F0,Aa,A_ (by rw[iA,hsum];simpa using h6),e2,hsum]
theorem D2{p:Prop}(h:p:=by rw[Aj];simp;omega):p:=h
theorem K6{p:Prop}(h:p:=by rw[<-JO];omega):p:=h
abbrev DuN:=Nat×Nat×UInt64×UInt64
def okN(d:DuN):Prop:=okD d.1 d.2.1 d.2.2.1 d.2.2.2
def nxt(d:DuN)(v:UInt32):DuN:=(kS d.1 (CJ d.2.2.1 (c_ v)),lK d.2.1 d.2.2.2 d.1 v,CJ d.2.2.1 (c_ v),lT d.2.2.2 d.1 v)
def dR:DuN:=(10,10,16384,16384)
theorem Aw9:okN dR:=⟨F2,F2,F2,F2⟩
theorem Bgl{d:DuN}(h:okN d)(v:UInt32):okN (nxt d v):=Avw h v
abbrev DuL:=Int×Int×UInt64×UInt64×Unit
def toI(d:DuN):DuL:=((d.1:Int),(d.2.1:Int),d.2.2.1,d.2.2.2,())
def tY(ch:Nat)(v:LU)(c:Nat):Nat->DuN
 |0=>dR
 |m+1=>if m %ch=c then nxt (tY ch v c m) (v.getD m 0)else tY ch v c m
theorem wL(ch:Nat)(v:LU)(c:Nat):∀m,okN (tY ch v c m)
 |0=>Aw9
 |m+1=>by rw[tY];split;exact Bgl (wL ch v c m) _;exact wL ch v c m
theorem Arc(ch:Nat)(v w:LU)(c:Nat):∀m,m<=v.length->tY ch (v++w) c m=tY ch v c m
 |0,_=>rfl
 |m+1,h=>by
  have e:(v++w).getD m 0=v.getD m 0:=by simp[List.getD_eq_getElem?_getD,List.getElem?_append_left (show m<v.length by omega)]
  rw[tY,tY,Arc ch v w c m F0,e]
theorem qF(ch:Nat)(v:LU)(c:Nat):∀m,m<=c->c<ch->tY ch v c m=dR
 |0,_,_=>rfl
 |m+1,h,h2=>by rw[tY,A_ (by rw[C! F0];omega),qF ch v c m F0 h2]
theorem Akx(ch:Nat)(v:LU)(c i:Nat)(hi:i %ch=c)(hc:c<ch):∀j,j<ch->tY ch v c (i+1+j)=tY ch v c (i+1)
 |0,_=>rfl
 |j+1,h=>by
  have hne:(i+1+j) %ch≠c:=by
   intro e;have h1:(i+(1+j)) %ch=i %ch:=by rw[hi,<-e];congr 1;omega
   have h2:(1+j) %ch=0:=by
    have h3:=uw h1;rwa [P']at h3
   rw[C! F0]at h2;omega
  rw[show i+1+(j+1)=(i+1+j)+1 by omega,tY,A_ hne,Akx ch v c i hi hc j F0]
theorem Axy(ch:Nat)(v:LU)(c i:Nat)(hi:i %ch=c)(hc:c<ch):tY ch v c (i+ch)=nxt (tY ch v c i) (v.getD i 0):=by
 have h:=Akx ch v c i hi hc (ch-1) F0;rw[show i+1+(ch-1)=i+ch by omega]at h;rw[h,tY,B2 hi]
theorem U9{l:LU}{k:Nat}(h:k<l.length):Ao l (k:Int)=some (l.getD k 0):=by
 rw[Bq h];simp[List.getD_eq_getElem?_getD,h]
theorem JJ(a b:Nat):Ge (a:Int) (b:Int)=((a %b:Nat):Int):=by rw[Ge,S8 F0];omega
theorem Bms(ch:Nat)(v:LU)(hch:1<=ch)(uN:ch<=6)(hv:v.length<=4000):∀(j i q:Nat),i %ch=v.length %ch->i<=v.length->v.length-i<=j->j<q->
  Qr (ch:Int) v q (i:Int) ((tY ch v (v.length %ch) i).1:Int) ((tY ch v (v.length %ch) i).2.1:Int) (tY ch v (v.length %ch) i).2.2.1 (tY ch v (v.length %ch) i).2.2.2=
   some (((tY ch v (v.length %ch) v.length).1:Int),((tY ch v (v.length %ch) v.length).2.1:Int),(tY ch v (v.length %ch) v.length).2.2.1,(tY ch v (v.length %ch) v.length).2.2.2)
 |j,i,q+1,hi,hl,hj,hq=>by
  have hc:v.length %ch<ch:=HW _ F0;rw[Qr,Af6];by_cases h:i<v.length
  ·have h1:=Auk (wL ch v (v.length %ch) i) (v.getD i 0);rw[B2 F4,U9 h,Aa,h1,Aa];have hle:i+ch<=v.length:=by
    have h2:=MK i ch;have h3:=MK v.length ch;rw[hi]at h2;have h4:ch*(i/ch)<ch*(v.length/ch):=F0
    have h5:=Nat.lt_of_mul_lt_mul_left h4;have h6:ch*(i/ch+1)<=ch*(v.length/ch):=P4 _ h5;rw[X6]at h6;omega
   have ih:=Bms ch v hch uN hv (j-ch) (i+ch) q (by rw[WO];exact hi) hle F0 F0;rw[Axy ch v _ i hi hc]at ih;simp only;rw[Ah];exact ih
  ·rw[A_ F4,show i=v.length by omega];rfl
theorem Atl(ch:Nat)(v:LU)(hch:1<=ch)(uN:ch<=6)(hv:v.length<=4000):Wh (ch:Int) v=some (((tY ch v (v.length %ch) v.length).1:Int),((tY ch v (v.length %ch) v.length).2.1:Int),(tY ch v (v.length %ch) v.length).2.2.1,(tY ch v (v.length %ch) v.length).2.2.2):=by
 have hc:v.length %ch<ch:=HW _ F0;have hle:v.length %ch<=v.length:=M2 _ _;have h:=Bms ch v hch uN hv v.length (v.length %ch) Ax (by rw[X8]) hle F0 B_;rw[qF ch v _ _ (C9 _) hc]at h;rw[Wh,Adj,Rz,Aa];simp only;rw[Br D2,Aa,Ac,JJ];exact h
def now(ch:Nat)(v:LU):DuN:=tY ch v (v.length %ch) v.length
def Y6(N a:Nat):Nat:=min 81 (N-a)
def Pm(ch:Nat)(p:LB)(N a:Nat)(out:LU):UInt32×Int×Int:=kZ (Ul p a (Y6 N a)) (Y6 N a) 0 (now ch out).1 (now ch out).2.1
def Zy(ch:Nat)(p:LB)(N:Nat):Nat->Nat->LU->LU×Nat×Int
 |0,a,out=>(out,a,0)
 |j+1,a,out=>if(Pm ch p N a out).2.2≠0 then(out,a,(Pm ch p N a out).2.2)else Zy ch p N j (a+(Pm ch p N a out).2.1.toNat) (out++[(Pm ch p N a out).1])
theorem yW{ch:Nat}{p:LB}{N a:Nat}{out:LU}(h:(Pm ch p N a out).2.2=0):0<(Pm ch p N a out).2.1/\ (Pm ch p N a out).2.1<=Y6 N a:=by
 have:=Bgh h;exact⟨this.1,this.2⟩
theorem Aes{ch:Nat}{p:LB}{N a:Nat}{out:LU}(h:(Pm ch p N a out).2.2=0):((a:Int)+(Pm ch p N a out).2.1)=((a+(Pm ch p N a out).2.1.toNat:Nat):Int):=by
 have:=yW h;omega
def sts(ch:Nat)(v:LU):List DuL:=(List.range 6).map λc=>toI (tY ch v c v.length)
theorem oV{ch:Nat}{v:LU}{c:Nat}(h:c<6):Ao (sts ch v) (c:Int)=some (toI (tY ch v c v.length)):=by
 rw[Bq (by simp[sts];exact h)];simp[sts]
theorem Ard{ch:Nat}{v:LU}{c:Nat}(x:UInt32)(h:c<6)(hc:c=v.length %ch):Pc (sts ch v) (c:Int) (toI (nxt (tY ch v c v.length) x))=some (sts ch (v++[x])):=by
 rw[Yb _ (by simp[sts];exact h)];congr 1;apply KN (by simp[sts]);intro i h1 h2;rw[WV];simp only[sts,QP,RA];have e:(v++[x]).getD v.length 0=x:=by simp
 rw[B6,P!,tY,e,Arc ch v [x] i v.length (C9 _)];by_cases hi:c=i
 ·subst hi;rw[B2 rfl,B2 hc.symm]
 ·rw[A_ hi,A_ F0]
theorem Bdw{ch:Nat}{v:LU}{c:Nat}(hc:c=v.length %ch):tY ch v c v.length=now ch v:=by rw[now,hc]
section
variable {p:LB} {N ch n:Nat}
theorem Ah1(hp:okB p N)(h1:1<=ch)(h6:ch<=6)(hn:n*ch<=4000):∀(j a q:Nat) (out:LU),out.length+j=n*ch->j<q->a<=N->
  Rs (ch:Int) (n:Int) p (N:Int) q (a:Int) (out.length:Int) (sts ch out) out=
   some (if(Zy ch p N j a out).2.2≠0 then([],0,(Zy ch p N j a out).2.2)else((Zy ch p N j a out).1,((Zy ch p N j a out).2.1:Int),0))
 |j,a,q+1,out,hj,hq,ha=>by
  have hN:=hp.1;have hnn:n<=n*ch:=VZ n F0;have em:Bm (n:Int) (ch:Int)=((n*ch:Nat):Int):=by rw[Ex K6 K6,JO]
  rw[Rs,Zo,em];cases j with
  |zero=>
   rw[A_ C1];rfl
  |succ j=>
   have hc:out.length %ch<6:=G4 (HW _ F0) h6;have ew:Fq (Ae (a:Int) 81) (N:Int)=((a+Y6 N a:Nat):Int):=by rw[CO,Ah];unfold Y6;omega
   have hw:a+Y6 N a<=N:=by unfold Y6;omega
   have hw2:Y6 N a<=81:=by unfold Y6;omega
   have hd:=Bb5 (O4 p a (Y6 N a) F0) 0 (wL ch out (out.length %ch) out.length);have tQ:kZ (Ul p a (Y6 N a)) (Y6 N a) 0 (tY ch out (out.length %ch) out.length).1 (tY ch out (out.length %ch) out.length).2.1=Pm ch p N a out:=rfl;rw[B2 C1,ew,Bfy hp a _ hw F0,Aa];simp only;rw[A_ C0,Br D2,Aa,JJ,oV hc,Aa,Aa];refine F? (congrArg (λo=>Option.bind o _) hd) ?_;rw[Aa,tQ,Zy];by_cases he:(Pm ch p N a out).2.2≠0
   ·rw[B2 he,B2 he];simp only;rw[Zb,JN,B2 (by rw[Aj];simpa using he),B2 he]
   ·have he0:(Pm ch p N a out).2.2=0:=by simpa using he
    have hok:=yW he0;have hset:=Ard (ch:=ch) (v:=out) (Pm ch p N a out).1 hc rfl;rw[A_ he,A_ he];simp only;rw[Zb,JN,A_ C0,Br D2,Aa,JJ,oV hc,Aa];refine F? (congrArg (λo=>Option.bind o _) hset) ?_;rw[Aa,Arl,Au3,Bg B5,Aa,Ah,Ah,Aes he0];have ih:=Ah1 hp h1 h6 hn j (a+(Pm ch p N a out).2.1.toNat) q (out++[(Pm ch p N a out).1]) B5 F0 F0;rw[B6,P!]at ih;exact ih
theorem Arz{p:LB}(hN:N=8*p.length)(hN2:N<=330000)(h1:1<=ch)(h6:ch<=6)(hn:n*ch<=4000):∀(j a q:Nat) (out:LU),out.length+j=n*ch->j<q->a<=N->
  Hi (ch:Int) (n:Int) p q (a:Int) (out.length:Int) out=
   if(Zy ch p N j a out).2.2≠0 then some ((Zy ch p N j a out).1,(Zy ch p N j a out).2.2)else BN ((Zy ch p N j a out).2.1:Int) p (Zy ch p N j a out).1
 |j,a,q+1,out,hj,hq,ha=>by
  have hnn:n<=n*ch:=VZ n F0;have em:Bm (n:Int) (ch:Int)=((n*ch:Nat):Int):=by rw[Ex K6 K6,JO]
  have e8:Bm (8:Int) (Ac p)=(N:Int):=by rw[Ac,Ex];omega
  rw[Hi,Agw,em];cases j with
  |zero=>
   rw[A_ C1];rfl
  |succ j=>
   have ew:Fq (Ae (a:Int) 81) (N:Int)=((a+Y6 N a:Nat):Int):=by rw[CO,Ah];unfold Y6;omega
   have hw:a+Y6 N a<=N:=by unfold Y6;omega
   have hw2:Y6 N a<=81:=by unfold Y6;omega
   have hpre:(Option.bind Rz λ(r_4,r_5,r_6,r_7)=>
     if(Le (out.length:Int) (ch:Int))=true then(
     Option.bind (Wh (ch:Int) out) λ(r_8,r_9,r_10,r_11)=>
     Mx (Hi (ch:Int) (n:Int) p q) (ch:Int) (n:Int) p (a:Int) (out.length:Int) out r_8 r_9 r_10 r_11)
     else Mx (Hi (ch:Int) (n:Int) p q) (ch:Int) (n:Int) p (a:Int) (out.length:Int) out r_4 r_5 r_6 r_7)=
     Mx (Hi (ch:Int) (n:Int) p q) (ch:Int) (n:Int) p (a:Int) (out.length:Int) out ((now ch out).1:Int) ((now ch out).2.1:Int) (now ch out).2.2.1 (now ch out).2.2.2:=by
    rw[Rz,Aa];by_cases hc:ch<=out.length
    ·simp only;rw[B2 ID,Atl ch out h1 h6 F0,Aa];rfl
    ·have e:now ch out=dR:=by rw[now,C! F0,qF ch out _ _ (C9 _) F0]
     simp only;rw[A_ ID,e];rfl
   have hd:=Ay7 (O4 p a (Y6 N a) F0) 0 (now ch out).1 (now ch out).2.1 (now ch out).2.2.1 (now ch out).2.2.2 (wL ch out _ _).1 (wL ch out _ _).2.1;have tQ:kZ (Ul p a (Y6 N a)) (Y6 N a) 0 (now ch out).1 (now ch out).2.1=Pm ch p N a out:=rfl;rw[B2 C1,hpre,Mx,Agk,e8,ew,Ah8 p (N:Int) a _ F0 F0 F0,Aa];simp only;refine F? (congrArg (λo=>Option.bind o _) hd) ?_;rw[Aa,tQ,Zy];by_cases he:(Pm ch p N a out).2.2≠0
   ·rw[B2 he,B2 (by rw[Aj];simpa using he),B2 he]
   ·have he0:(Pm ch p N a out).2.2=0:=by simpa using he
    have hok:=yW he0;have ih:=Arz hN hN2 h1 h6 hn j (a+(Pm ch p N a out).2.1.toNat) q (out++[(Pm ch p N a out).1]) B5 F0 F0;have hx:=Aes he0;rw[B6,P!]at ih;rw[A_ he];generalize Pm ch p N a out=R at*
    obtain⟨v,nx,e⟩:=R;simp only at*
    rw[A_ (by rw[Aj];simpa using he),Bg B5,Aa,Ah,Ah,hx];exact ih
end
theorem b_{ch:Nat}{p:LB}{N:Nat}:∀(j a:Nat) (out:LU),a<=N-> (Zy ch p N j a out).2.1<=N/\ (Zy ch p N j a out).1.length<=out.length+j/\ ((Zy ch p N j a out).2.2=0-> (Zy ch p N j a out).1.length=out.length+j)
 |0,a,out,h=>⟨h,C9 _,λ_=>rfl⟩
 |j+1,a,out,h=>by
  rw[Zy];split
  ·rename_i he;exact⟨h,B3,λe=>absurd e he⟩
  ·rename_i he;have hok:=yW (ch:=ch) (p:=p) (N:=N) (a:=a) (out:=out) (by simpa using he);have hw:a+Y6 N a<=N:=by unfold Y6;omega
   have ih:=b_ (ch:=ch) (p:=p) (N:=N) j (a+(Pm ch p N a out).2.1.toNat) (out++[(Pm ch p N a out).1]) F0;rw[B6,P!]at ih;exact⟨ih.1,F0,λe=>by have:=ih.2.2 e;omega⟩
theorem Aif(ch n:Int)(b:LB)(N:Int):KH ch n b N 0 (List.replicate 6 ((0:Int),(0:Int),(0:UInt64),(0:UInt64),()))=Aqn ch n b N (List.replicate 6 ((10:Int),(10:Int),(16384:UInt64),(16384:UInt64),())):=by
 have e:Ax=(Ax-7)+1+1+1+1+1+1+1:=by have:=Ar;omega
 rw[KH,e];rfl
theorem values_eq{p:LB}{N ch n:Nat}(hp:okB p N)(h1:1<=ch)(h6:ch<=6)(hn:n*ch<=4000):ON (ch:Int) (n:Int) p (N:Int)=
  some (if(Zy ch p N (n*ch) 0 []).2.2≠0 then([],0,(Zy ch p N (n*ch) 0 []).2.2)else((Zy ch p N (n*ch) 0 []).1,((Zy ch p N (n*ch) 0 []).2.1:Int),0)):=by
 have h:=Ah1 hp h1 h6 hn (n*ch) 0 Ax [] B3 B_ F0;rw[ON,OM,Aif];exact h
theorem Ad7(p:LB)(x:LU)(N:Nat)(hN:N=8*p.length)(hN2:N<=330000):∀(j a q:Nat),a+j=N->j<q->Na p x q (a:Int)=some (x,if Cp p a j=0 then 0 else 12)
 |0,a,q+1,ha,_=>by
  have e8:Bm (8:Int) (Ac p)=(N:Int):=by rw[Ac,Ex];omega
  rw[Na,BA,e8,A_ C1,Cp,B2 rfl];rfl
 |j+1,a,q+1,ha,hq=>by
  have e8:Bm (8:Int) (Ac p)=(N:Int):=by rw[Ac,Ex];omega
  have hb:=HP p a;rw[Na,BA,e8,B2 C1,cu p _ a F0 F0,Aa,Cp];by_cases h:Im p a=0
  ·rw[A_ (by rw[Aj];simp[h]),Ah,h];have ih:=Ad7 p x N hN hN2 j (a+1) q F0 F0;rw[show((a:Int)+1)=((a+1:Nat):Int) by omega,ih];congr 2;by_cases hv:Cp p (a+1) j=0
   ·rw[B2 hv,B2 F0]
   ·rw[A_ hv,A_ F0]
  ·rw[B2 D2,A_ F0]
theorem qp{p:LB}{N ch n:Nat}(hN:N=8*p.length)(hN2:N<=330000)(h1:1<=ch)(h6:ch<=6)(hn:n*ch<=4000):NB (ch:Int) (n:Int) p=
  some (if(Zy ch p N (n*ch) 0 []).2.2≠0 then((Zy ch p N (n*ch) 0 []).1,(Zy ch p N (n*ch) 0 []).2.2)else
   ((Zy ch p N (n*ch) 0 []).1,if 7<N-(Zy ch p N (n*ch) 0 []).2.1\/Cp p (Zy ch p N (n*ch) 0 []).2.1 (N-(Zy ch p N (n*ch) 0 []).2.1)≠0 then 12 else 0)):=by
 have h:=Arz hN hN2 h1 h6 hn (n*ch) 0 Ax [] B3 B_ F0;have hat:=(b_ (ch:=ch) (p:=p) (N:=N) (n*ch) 0 [] F0).1;have e8:Bm (8:Int) (Ac p)=(N:Int):=by rw[Ac,Ex];omega
 rw[NB,Amq];refine F? h ?_;generalize Zy ch p N (n*ch) 0 []=V at*
 obtain⟨v,a,e⟩:=V;simp only at*
 by_cases he:e≠0
 ·rw[B2 he,B2 he]
 ·rw[A_ he,A_ he,BN,Ag4,e8,Cb];by_cases h7:7<N-a
  ·rw[B2 E7,B2 (.inl h7)]
  ·rw[A_ E7,Agc,Ad7 p v N hN hN2 (N-a) a Ax F0 B_];by_cases hv:Cp p a (N-a)=0
   ·rw[B2 hv,A_ F0]
   ·rw[A_ hv,B2 (.inr hv)]
theorem rV(n:Int):(GI.ofZ n:Int32)=Int32.ofInt n:=rfl
theorem iS(a:Int32):GI.toZ a=a.toInt:=rfl
theorem lX(a b:Int32):Ae a b=a+b:=by
 rw[Ae,iS,iS,rV,wD,LA,LA]
theorem dJ(a b:Int32):Aq a b=a-b:=by
 rw[Aq,iS,iS,rV,wI,LA,LA]
theorem Apu(a b:Int32):geq a b=(a==b):=by
 rw[geq,iS,iS,D0];simp[Int32.toInt_inj]
def pR(p:Nat->Bool)(a b:LX):LX:=(List.range a.length).map λk=>if p k=true then a.getD k 0 else b.getD k 0
section
variable {p q:Nat->Bool} {a b:LX}
theorem UW:(pR p a b).length=a.length:=by simp[pR]
theorem Lm{k:Nat}(h:k<a.length):a.getD k 0=a[k]:=by simp[List.getD_eq_getElem?_getD,h]
theorem Yk{k:Nat}(h:k<(pR p a b).length):(pR p a b)[k]=if p k=true then a.getD k 0 else b.getD k 0:=by simp[pR]
theorem IY{k:Nat}(h:k<a.length):Ao (pR p a b) (k:Int)=some (if p k=true then a.getD k 0 else b.getD k 0):=by
 rw[Bq (by rw[UW];exact h),Yk]
theorem AG(h:∀k,k<a.length->p k=q k):pR p a b=pR q a b:=by
 apply S9;intro k hk;rw[h k (List.mem_range.1 hk)]
theorem qZ{k:Nat}(h:k<a.length):Pc (pR p a b) (k:Int) (a.getD k 0)=some (pR (λj=>p j||decide (j=k)) a b):=by
 rw[Yb _ (by rw[UW];exact h)];congr 1;apply KN (by simp[UW]);intro i h1 h2;rw[WV,Yk,Yk];by_cases hi:k=i
 ·subst hi;simp
 ·have:¬i=k:=λe=>hi e.symm;simp[hi,this]
theorem zC(h:∀k,k<a.length->p k=true):pR p a b=a:=by
 apply KN (by simp[UW]);intro i h1 h2;rw[Yk,B2 (h i h2),Lm h2]
theorem uV(hl:b.length=a.length)(h:∀k,k<a.length->p k=false):pR p a b=b:=by
 apply KN (by simp[UW,hl]);intro i h1 h2;rw[Yk,h i F0];simp[List.getD_eq_getElem?_getD,h2]
end
theorem nC{p:Prop}(h:p:=by rw[Qh];simp;omega):p:=h
theorem Qy{p:Prop}(h:p:=by rw[As];decide):p:=h
theorem D!(a b:Int32):Bm a b=a*b:=by
 rw[Bm,iS,iS,rV,Int32.ofInt_mul,LA,LA]
theorem GR(a:Int32): -2147483648<=a.toInt/\a.toInt<2147483648:=⟨a.le_toInt,a.toInt_lt⟩
theorem Hc(a:Int32):(Ag a:Int)=a.toInt:=by
 have:=GR a
 show wrap64 a.toInt=_;rw[Dt]<;>omega
theorem bL(n:Int):(Ag n:Int32)=Int32.ofInt n:=rfl
theorem At6(x:Int):Int32.ofInt (x %4294967296)=Int32.ofInt x:=by
 apply Int32.toInt_inj.1;rw[P8,P8];exact Int.emod_bmod x 4294967296
theorem j_(x:Int):Eb x=some (Int32.ofInt x):=by
 have e1:(Ag x:UInt64).toNat=(x %18446744073709551616).toNat:=by
  rw[Ajw,E_,C! F0]
 have e2:(Ag (Ag x:UInt64):UInt32).toNat=(x %4294967296).toNat:=by
  have e:(Ag (Ag x:UInt64):UInt32)=UInt32.ofNat (Ag x:UInt64).toNat:=by simp only[Ag,Mr,He]
  rw[e,H!,e1];show(x %18446744073709551616).toNat %4294967296=_;omega
 have e3:(Ag (Ag (Ag x:UInt64):UInt32):Int32)=Int32.ofInt ((Ag (Ag x:UInt64):UInt32).toNat:Int):=rfl;rw[Eb,e3,e2,<-At6 x];congr 2;omega
theorem O2(a b:Int32):Eb (Ae (Ag a:Int) (Ag b:Int))=some (a+b):=by
 have:=GR a;have:=GR b;rw[Hc,Hc,Ah,j_,wD,LA,LA]
theorem Ayo(a b:Int32):Eb (Bm (Ag a:Int) (Ag b:Int))=some (a*b):=by
 have ha:=GR a;have hb:=GR b;have h1: -9223372036854775808<=a.toInt*b.toInt/\a.toInt*b.toInt<=9223372036854775807:=by
  have h2:(a.toInt*b.toInt).natAbs<=2147483648*2147483648:=by
   rw[Int.natAbs_mul];exact HG F0 F0
  omega
 rw[Hc,Hc,Ex h1.1 h1.2,j_,Int32.ofInt_mul,LA,LA]
def OkF(s:Int)(t p:LX):Prop:=(s=9\/s=10)/\t.length=16/\p.length=16
theorem jr{s:Int}{t p:LX}(h:OkF s t p):TP s t p=some 0:=by
 obtain⟨rfl|rfl,_,_⟩:=h<;>rfl
theorem g32{l:LX}{k:Nat}(h:k<l.length):Ao l (k:Int)=some (l.getD k 0):=by
 rw[Bq h];simp[List.getD_eq_getElem?_getD,h]
def wT(t p:LX):Nat->Int32
 |0=>0
 |i+1=>wT t p i+t.getD i 0*p.getD i 0
def half(s:Int):Int32:=if s=9 then 256 else 512
def gF(s:Int)(t p:LX):Int32:=Int32.ofInt ((half s+wT t p 16).toInt.fdiv (if s=9 then 512 else 1024))
theorem Adt{s:Int}{t p:LX}(h:OkF s t p):∀(j i q:Nat),i+j=16->j<q->AP t s p q (half s+wT t p i) (i:Int)=some (gF s t p,0)
 |0,i,q+1,hi,_=>by
  obtain rfl:i=16:=F0
  have hs:=h.1;rw[AP,UR,A_ J9,jX,Aau,Br ID,Aa];obtain rfl|rfl:=hs<;>rfl
 |j+1,i,q+1,hi,hq=>by
  obtain⟨hs,ht,hp⟩:=h;rw[AP,UR,B2 C1,g32 F0,Aa,g32 F0,Aa,Aa,Ah (b:=1) F0 F0,lX,D!,Int32.add_assoc];exact Adt ⟨hs,ht,hp⟩ j (i+1) q F0 F0
theorem Aj6{s:Int}{t p:LX}(h:OkF s t p):dW s t p=some (gF s t p,0):=by
 have hs:=h.1;have h1:=Adt h 16 0 Ax F0 B_;have e:Eh (1:Int32) (GI.toZ (Aq s (1:Int))).toNat=half s+wT t p 0:=by
  obtain rfl|rfl:=hs<;>rfl
 rw[dW,jT,jr h,Aa,A_ C0,Br (by rw[Dq,Cb];simp;omega),Aa,Aah,e];exact h1
theorem y_{s:Int}{t p:LX}(ht:t.length=16)(hp:p.length=16){g:Int32}(hg:wT t p 16=g):∀(j i q:Nat),i+j=16->j<q->Qc s t p q (wT t p i).toInt (i:Int)=some g
 |0,i,q+1,hi,_=>by
  obtain rfl:i=16:=F0
  rw[Qc,FY,A_ J9,Anr,Apz,bL,LA,hg]
 |j+1,i,q+1,hi,hq=>by
  have ih:=y_ (s:=s) ht hp hg j (i+1) q F0 F0;rw[wT]at ih;rw[Qc,FY,B2 C1,g32 F0,g32 F0,Aa,Aa,Aa,Aa,Ayo,Aa,<-Hc (wT t p i),O2,Aa,Hc,Ah];exact ih
theorem Aw5{s:Int}{t p:LX}(h:OkF s t p):Bak s t p=some (wT t p 16):=
 y_ h.2.1 h.2.2 rfl 16 0 Ax F0 B_
theorem Auo(x n:Int)(hn:n=512\/n=1024\/n=16\/n=32):(if x.tmod n<0 then x.tdiv n-1 else x.tdiv n)=x.fdiv n:=by
 have hs:n.sign=1:=by obtain rfl|rfl|rfl|rfl:=hn<;>rfl
 rw[lM,Int.tmod_eq_emod,hs,LM _ F0];by_cases h:0<=x\/n∣x
 ·rw[B2 h,B2 h];obtain rfl|rfl|rfl|rfl:=hn<;>(rw[A_ F0];omega)
 ·rw[A_ h,A_ h];obtain rfl|rfl|rfl|rfl:=hn<;>(rw[B2 F0];omega)
theorem zO(x n:Int)(hn:n=512\/n=1024\/n=16\/n=32)(h: -1000000000000<=x)(h':x<=1000000000000): -1000000000000<=x.tdiv n/\x.tdiv n<=1000000000000:=by
 have hs:n.sign=1:=by obtain rfl|rfl|rfl|rfl:=hn<;>rfl
 rw[lM,hs];by_cases h:0<=x\/n∣x
 ·rw[B2 h];obtain rfl|rfl|rfl|rfl:=hn<;>omega
 ·rw[A_ h];obtain rfl|rfl|rfl|rfl:=hn<;>omega
theorem Biu(x n:Int)(hn:n=512\/n=1024\/n=16\/n=32)(h: -1000000000000<=x)(h':x<=1000000000000):Ca x n=x.tdiv n:=by
 have:=zO x n hn h h';rw[YG,Dt F0 F0]
theorem Akf(x n:Int)(hn:n=512\/n=1024\/n=16\/n=32)(h: -1000000000000<=x)(h':x<=1000000000000):
  (if(Cj (Ge x n) (0:Int))=true then some (Ag (Aq (Ca x n) (1:Int)):Int32)else some (Ag (Ca x n):Int32))=some (Int32.ofInt (x.fdiv n)):=by
 have hb:=zO x n hn h h';rw[Ad,Ge,Biu x n hn h h',Cb,bL,bL,<-Auo x n hn];by_cases hx:x.tmod n<0
 ·rw[B2 (by simpa using hx),B2 hx]
 ·rw[A_ (by simpa using hx),A_ hx]
theorem Bbe{s:Int}{t p:LX}(h:OkF s t p):OI s t p=some (gF s t p):=by
 obtain⟨hs,ht,hp⟩:=h;have h:OkF s t p:=⟨hs,ht,hp⟩;have hx:=GR (wT t p 16+half s);have key:∀n:Int,(n=512\/n=1024)-> (half s).toInt=n/2->gF s t p=Int32.ofInt ((half s+wT t p 16).toInt.fdiv n)->DX s t p n=some (gF s t p):=by
  intro n hn hh hg;have e2:Ca n (2:Int)=(half s).toInt:=by rw[hh];obtain rfl|rfl:=hn<;>rfl
  rw[DX,Ai8,Aw5 h,Aa,e2,<-Hc (half s),O2,Aa,Br D2,Aa,Aa,Hc,Akf _ n F0 F0 F0,hg,Int32.add_comm]
 rw[OI,Aji];obtain rfl|rfl:=hs
 ·rw[B2 OB];exact key 512 (.inl rfl) rfl rfl
 ·rw[A_ Qy];exact key 1024 (.inr rfl) rfl rfl
def stp(i:Nat):Int32:=if i=0 then 4 else if i<4 then 2 else 1
def sg(x:Int32):Int32:=if x.toInt<0 then -1 else if 0<x.toInt then 1 else 0
def E!(t p:LX)(w:Int32):LX:=(List.range 16).map λi=>t.getD i 0+stp i*sg (p.getD i 0)*sg w
theorem PY(t p:LX)(w:Int32):(E! t p w).length=16:=by simp[E!]
theorem om(t p:LX)(w:Int32){i:Nat}(h:i<16):(E! t p w).getD i 0=t.getD i 0+stp i*sg (p.getD i 0)*sg w:=by
 rw[Lm (by rw[PY];exact h)];simp[E!]
theorem step_eq(i:Nat):mD (i:Int)=some (stp i):=by
 rw[mD,stp];by_cases h:i=0
 ·rw[B2 (by rw[As];simp[h]),B2 h]
 ·rw[A_ E6,A_ h];by_cases h2:i<4
  ·rw[B2 C1,B2 h2]
  ·rw[A_ C1,A_ h2]
theorem Ath(i:Nat):QE (i:Int)=some (stp i):=by
 rw[QE,stp];by_cases h:i=0
 ·rw[B2 (by rw[As];simp[h]),B2 h]
 ·rw[A_ E6,A_ h];by_cases h2:i<4
  ·rw[B2 nC,B2 h2]
  ·rw[A_ nC,A_ h2]
theorem cH(a b:Int32):Cj a b=decide (a.toInt<b.toInt):=rfl
theorem sT(a b:Int32):Dz a b=decide (b.toInt<a.toInt):=rfl
theorem sign_eq(x:Int32):BP x=some (sg x):=by
 rw[BP,sg,cH,sT,show(0:Int32).toInt=0 from rfl];by_cases h:x.toInt<0
 ·rw[B2 (by simpa using h),B2 h]
 ·rw[A_ (by simpa using h),A_ h];by_cases h2:0<x.toInt
  ·rw[B2 (by simpa using h2),B2 h2]
  ·rw[A_ (by simpa using h2),A_ h2]
theorem Aqf:sg 0=0:=rfl
theorem toInt_ne{x:Int32}(h:x≠0):x.toInt≠0:=λe=>h (Int32.toInt_inj.1 (by rw[e];rfl))
theorem d!{x:Int32}(h:x.toInt<0):sg x= -1:=by rw[sg,B2 h]
theorem d?{x:Int32}(h:x≠0)(h2:¬x.toInt<0):sg x=1:=by
 have:=toInt_ne h;rw[sg,A_ h2,B2 F0]
theorem yZ(i:Nat):stp i=4\/stp i=2\/stp i=1:=by
 unfold stp;by_cases h:i=0
 ·rw[B2 h];exact .inl rfl
 ·rw[A_ h];split;exact .inr (.inl rfl);exact .inr (.inr rfl)
theorem Att{x w:Int32}(hx:x≠0)(hw:w≠0)(h:(x.toInt<0)=(w.toInt<0))(i:Nat):stp i*sg x*sg w=stp i:=by
 by_cases h1:x.toInt<0
 ·rw[d! h1,d! (by rw[<-h];exact h1)];obtain e|e|e:=yZ i<;>rw[e]<;>decide
 ·rw[d? hx h1,d? hw (by rw[<-h];exact h1)];obtain e|e|e:=yZ i<;>rw[e]<;>decide
theorem Amu{x w:Int32}(hx:x≠0)(hw:w≠0)(h:¬(x.toInt<0)=(w.toInt<0))(i:Nat)(a:Int32):a+stp i*sg x*sg w=a-stp i:=by
 have key:stp i*sg x*sg w=-stp i:=by
  by_cases h1:x.toInt<0
  ·have h2:¬w.toInt<0:=λh2=>h (propext ⟨λ_=>h2,λ_=>h1⟩);rw[d! h1,d? hw h2];obtain e|e|e:=yZ i<;>rw[e]<;>decide
  ·have h2:w.toInt<0:=Decidable.by_contra λh2=>h (propext ⟨λh3=>absurd h3 h1,λh3=>absurd h3 h2⟩);rw[d? hx h1,d! h2];obtain e|e|e:=yZ i<;>rw[e]<;>decide
 rw[key,Int32.sub_eq_add_neg]
def T4(i:Nat):Nat->Bool:=λj=>decide (j<i)
theorem o?{a b:LX}{i:Nat}(h:i<a.length):Pc (pR (T4 i) a b) (i:Int) (a.getD i 0)=some (pR (T4 (i+1)) a b):=by
 rw[qZ h];congr 1;apply AG;intro k _;rw[D0];simp only[T4,I',B7];omega
theorem Aug{a b:LX}{i:Nat}(e:a.getD i 0=b.getD i 0):pR (T4 i) a b=pR (T4 (i+1)) a b:=by
 apply S9;intro k _;simp only[T4,B7];by_cases h1:k<i
 ·rw[B2 h1,B2 F0]
 ·by_cases h2:k=i
  ·subst h2;rw[A_ h1,B2 F0,e]
  ·rw[A_ h1,A_ F0]
theorem Ak8{a b:LX}{i:Nat}(h:i<a.length):Ao (pR (T4 i) a b) (i:Int)=some (b.getD i 0):=by
 rw[IY h,A_ (by simp[T4])]
theorem Ae4{s:Int}{t p:LX}{w:Int32}(hw:w≠0)(ht:t.length=16)(hp:p.length=16):∀(j i q:Nat),i+j=16->j<q->AE w p s q (i:Int) (pR (T4 i) (E! t p w) t)=some (s,E! t p w,p,0)
 |0,i,q+1,hi,_=>by
  obtain rfl:i=16:=F0
  rw[AE,US,A_ J9,zC (λk hk=>by rw[PY]at hk;simpa [T4]using hk)];rfl
 |j+1,i,q+1,hi,hq=>by
  have hl:=PY t p w;have hg:=om t p w (i:=i) F0;rw[AE,US,B2 C1,g32 F0,Aa,Ah (b:=1) F0 F0,Ak8 F0,step_eq];simp only[Aa];rw[lX,dJ,Apu,cH,cH,show(0:Int32).toInt=0 from rfl];have ih:=Ae4 (s:=s) hw ht hp j (i+1) q F0 F0;by_cases hx:p.getD i 0=0
  ·rw[B2 (by rw[hx];rfl),Aug (by rw[hg,hx,Aqf,Int32.mul_zero,Int32.zero_mul,Int32.add_zero])];exact ih
  ·rw[A_ (by simpa using hx)];by_cases hs:((p.getD i 0).toInt<0)=(w.toInt<0)
   ·rw[B2 (by rw[D4];simp only[hs]),show t.getD i 0+stp i=(E! t p w).getD i 0 by rw[hg,Att hx hw hs],o? F0,Aa];exact ih
   ·rw[A_ (by rw[D4,decide_eq_decide];exact λh=>hs (propext h)),show t.getD i 0-stp i=(E! t p w).getD i 0 by rw[hg,Amu hx hw hs],o? F0,Aa];exact ih
theorem Avk{t:LX}(p:LX)(ht:t.length=16):E! t p 0=t:=by
 apply KN (by rw[PY,ht]);intro i h1 h2;have:=om t p 0 (i:=i) F0;rw[Lm h1,Lm h2]at this;rw[this,Aqf,Int32.mul_zero,Int32.add_zero]
theorem Ajv{s:Int}{t p:LX}(h:OkF s t p)(w:Int32):rM s t p w=some (s,E! t p w,p,0):=by
 rw[rM,kK,jr h,Aa,A_ C0,Apu];by_cases hw:w=0
 ·rw[B2 (by simpa using hw),hw,Avk p h.2.1]
 ·have h1:=Ae4 (s:=s) hw h.2.1 h.2.2 16 0 Ax F0 B_;rw[uV (by rw[PY,h.2.1]) (λk _=>by simp[T4])]at h1;rw[A_ (by simpa using hw)];exact h1
theorem Afe{s:Int}{t p:LX}{w:Int32}(ht:t.length=16)(hp:p.length=16):∀(j i q:Nat),i+j=16->j<q->Kv w s p q (i:Int) (pR (T4 i) (E! t p w) t)=some (s,E! t p w,p)
 |0,i,q+1,hi,_=>by
  obtain rfl:i=16:=F0
  rw[Kv,Xe,A_ J9,zC (λk hk=>by rw[PY]at hk;simpa [T4]using hk)];rfl
 |j+1,i,q+1,hi,hq=>by
  have hl:=PY t p w;have hg:=om t p w (i:=i) F0;rw[Kv,Xe,B2 C1,g32 (l:=p) F0,Ah (b:=1) F0 F0,Ak8 F0,Ath,sign_eq w,Aa,Aa,Aa,Aa,Aa,sign_eq,Aa,Aa,Aa,lX,D!,D!,<-hg,o? F0,Aa];exact Afe ht hp j (i+1) q F0 F0
theorem Aoj{s:Int}{t p:LX}(h:OkF s t p)(w:Int32):Ai7 s t p w=some (s,E! t p w,p):=by
 have h1:=Afe (s:=s) (w:=w) h.2.1 h.2.2 16 0 Ax F0 B_;rw[uV (by rw[PY,h.2.1]) (λk _=>by simp[T4])]at h1;exact h1
theorem Bbq{p:LX}(h:p.length=16):∃a0 a1 a2 a3 a4 a5 a6 a7 a8 a9 b0 b1 b2 b3 b4 b5,p=[a0,a1,a2,a3,a4,a5,a6,a7,a8,a9,b0,b1,b2,b3,b4,b5]:=by
 match p,h with
 |[a0,a1,a2,a3,a4,a5,a6,a7,a8,a9,b0,b1,b2,b3,b4,b5],_=>exact⟨a0,a1,a2,a3,a4,a5,a6,a7,a8,a9,b0,b1,b2,b3,b4,b5,rfl⟩
theorem Ao5{s:Int}{t p:LX}(h:OkF s t p)(x:Int32):zK s t p x=some (s,t,x::p.take 15,0):=by
 obtain⟨hs,ht,hp⟩:=h;rw[zK,aY,jr ⟨hs,ht,hp⟩,Aa,A_ C0,show dZ (16:Int) 1 16=some ()from rfl,Aa,show dZ (16:Int) 0 16=some ()from rfl,Aa,qL,Acq];obtain⟨a0,a1,a2,a3,a4,a5,a6,a7,a8,a9,b0,b1,b2,b3,b4,b5,rfl⟩:=Bbq hp;rfl
def shf(p:LX)(i:Nat):LX:=(List.range 16).map λk=>if k<=i then p.getD k 0 else p.getD (k-1) 0
theorem JB(p:LX)(i:Nat):(shf p i).length=16:=by simp[shf]
theorem Bcg(p:LX)(i k:Nat)(h:k<16):(shf p i).getD k 0=if k<=i then p.getD k 0 else p.getD (k-1) 0:=by
 rw[Lm (by rw[JB];exact h)];simp[shf]
theorem Bcp(p:LX)(i:Nat)(h:i+1<16):Pc (shf p (i+1)) ((i+1:Nat):Int) (p.getD i 0)=some (shf p i):=by
 rw[Yb _ (by rw[JB];exact h)];congr 1;apply KN (by simp[JB]);intro k h1 h2;rw[JB]at h2;rw[WV];simp only[shf,QP,RA];by_cases hk:i+1=k
 ·subst hk;rw[B2 rfl,A_ F0];rfl
 ·rw[A_ hk];by_cases h3:k<=i
  ·rw[B2 F0,B2 h3]
  ·rw[A_ F0,A_ h3]
theorem Bmr(s:Int)(t p:LX)(x:Int32)(hp:p.length=16):∀(i q:Nat),i<16->i<q->Mb x s t q (i:Int) (shf p i)=some (s,t,x::p.take 15)
 |0,q+1,_,_=>by
  have hg:Ao (shf p 0) (0:Int)=some ((shf p 0).getD 0 0):=g32 (l:=shf p 0) (k:=0) (by rw[JB];omega);have hset:Pc (shf p 0) (0:Int) x=some ((shf p 0).set 0 x):=Yb (l:=shf p 0) (n:=0) x (by rw[JB];omega);rw[Mb,Zm,A_ O7,Acn,Adc,hg,Aa,hset,Aa];congr 3;apply KN (by simp[JB,hp]);intro k h1 h2;rw[N_,JB]at h1;rw[WV];cases k with
  |zero=>rw[B2 rfl];rfl
  |succ k=>
   rw[A_ F0];simp only[shf,QP,RA,List.getElem_cons_succ,ku];rw[A_ F0,vT,Lm F0]
 |i+1,q+1,hi,hq=>by
  have hg:=g32 (l:=shf p (i+1)) (k:=i) (by rw[JB];omega);rw[Bcg p (i+1) i F0,B2 F0]at hg;have e1:Aq ((i+1:Nat):Int) (1:Int)=(i:Int):=by rw[Cb];omega
  have hg2:=g32 (l:=shf p (i+1)) (k:=i+1) (by rw[JB];omega);rw[Mb,Zm,B2 O7,e1,hg,Aa,Aa,hg2,Aa,Bcp p i hi,Aa];exact Bmr s t p x hp i q F0 F0
theorem At7{s:Int}{t p:LX}(hp:p.length=16)(x:Int32):Anc s t p x=some (s,t,x::p.take 15):=by
 have h:=Bmr s t p x hp 15 Ax F0 B_;have e:shf p 15=p:=by
  apply KN (by rw[JB,hp]);intro k h1 h2;rw[JB]at h1;simp only[shf,QP,RA];rw[B2 F0,Lm h2]
 rw[e]at h;exact h
theorem Awc{s:Int}{t p:LX}(h:OkF s t p)(w x:Int32):OkF s (E! t p w) (x::p.take 15):=⟨h.1,PY _ _ _,by simp[h.2.2]⟩
theorem Bcx{s:Int}{t p:LX}(h:OkF s t p)(y:Int32):xV s t p y=some (y+gF s t p,s,E! t p y,(y+gF s t p)::p.take 15,0):=by
 rw[xV,Aj6 h,Aa];simp only;rw[A_ C0,lX,cE,Ajv h,Aa];simp only;rw[Ao5 (s:=s) (t:=E! t p y) (p:=p) ⟨h.1,PY _ _ _,h.2.2⟩,Aa];rfl
theorem Ar6{s:Int}{t p:LX}(h:OkF s t p)(y:Int32):CY s t p y=some (y+gF s t p,s,E! t p y,(y+gF s t p)::p.take 15):=by
 rw[CY,Bbe h,Aa,O2,Aa,Aoj h,Aa];simp only;rw[At7 h.2.2,Aa]
def sB(bits:Int):Int:=if bits=16 then 9 else 10
def shB(bits:Int):Int:=if bits=8 then 4 else 5
def Bn(bits:Int):Prop:=bits=8\/bits=16\/bits=24
def gs(sh:Int)(last:Int32):Int32:=Ag (Q6 (Aq (Eh (Ag last:Int) sh.toNat) (Ag last)) sh.toNat)
theorem Bi2(bits:Int):sB bits=9\/sB bits=10:=by unfold sB;split<;>simp
theorem Bcr(bits:Int):0<=shB bits:=by unfold shB;split<;>omega
theorem Bk3{bits:Int}(h:Bn bits)(t:LX):S5 bits t=some (sB bits,t,List.replicate 16 0,0):=by
 obtain rfl|rfl|rfl:=h<;>rfl
theorem Bha{bits:Int}(h:Bn bits):wH bits=some (shB bits,0):=by
 obtain rfl|rfl|rfl:=h<;>rfl
theorem Bfu{sh:Int}(h:0<=sh)(last:Int32):gG sh last=some (gs sh last):=by
 rw[gG,Br (by rw[Dq];simpa using h),Aa,Aa];rfl
theorem Axg{bits:Int}(h:Bn bits)(last:Int32):DJ bits last=some (gs (shB bits) last,0):=by
 rw[DJ,Bha h,Aa];simp only;rw[A_ C0,Bfu (Bcr bits),Aa]
theorem yh{bits:Int}(h:Bn bits)(last:Int32)(t p:LX):DI bits last (sB bits) t p=some 0:=by
 rw[DI,Bk3 h,Aa];simp only;rw[A_ (by rw[Aj,Aj];simp)]
theorem As0{bits:Int}(h:Bn bits){t p:LX}(hF:OkF (sB bits) t p)(last y:Int32):
  Ps bits last (sB bits) t p y=some (y+gF (sB bits) t p+gs (shB bits) last,bits,y+gF (sB bits) t p+gs (shB bits) last,sB bits,E! t p y,(y+gF (sB bits) t p)::p.take 15,0):=by
 rw[Ps,yh h,Aa,A_ C0,Axg h,Aa];simp only;rw[Bcx hF,Aa];simp only;rw[lX]
theorem pz(sh:Int)(hs:sh=4\/sh=5)(last:Int32):Wm sh last=some (gs sh last):=by
 have hl:=GR last;have key:∀n:Int,n=16\/n=32->gs sh last=Int32.ofInt (((n-1)*last.toInt).fdiv n)->Zh last n=some (gs sh last):=by
  intro n hn hg;have e:Bm (Aq n (1:Int)) (Ag last:Int)=(n-1)*last.toInt:=by
   obtain rfl|rfl:=hn<;>(rw[Hc,Cb,Ex])
  rw[Zh,Acr,Br D2,Aa,Aa,e,Akf _ n F0 (by obtain rfl|rfl:=hn<;>omega) (by obtain rfl|rfl:=hn<;>omega),hg]
 rw[Wm,Af9];obtain rfl|rfl:=hs
 ·rw[A_ Qy];refine key 16 (.inl rfl) ?_;have e:Eh (Ag last:Int) (4:Int).toNat=last.toInt*16:=by
   rw[Hc];show wrap64 (last.toInt*2^4)=_;rw[Dt]<;>omega
  rw[gs,e,Hc,Cb,bL]
  show Int32.ofInt ((last.toInt*16-last.toInt).fdiv 16)=_;congr 2;omega
 ·rw[B2 OB];refine key 32 (.inr rfl) ?_;have e:Eh (Ag last:Int) (5:Int).toNat=last.toInt*32:=by
   rw[Hc];show wrap64 (last.toInt*2^5)=_;rw[Dt]<;>omega
  rw[gs,e,Hc,Cb,bL]
  show Int32.ofInt ((last.toInt*32-last.toInt).fdiv 32)=_;congr 2;omega
theorem Auy{bits:Int}(h:Bn bits){t p:LX}(hF:OkF (sB bits) t p)(last y:Int32):
  CQ bits last (sB bits) t p y=some (y+gF (sB bits) t p+gs (shB bits) last,bits,y+gF (sB bits) t p+gs (shB bits) last,sB bits,E! t p y,(y+gF (sB bits) t p)::p.take 15):=by
 have hb:GO bits last (sB bits) t p=some (Ag (gs (shB bits) last):Int):=by
  rw[GO];obtain rfl|rfl|rfl:=h
  ·rw[B2 OB,pz 4 (.inl rfl),Aa];rfl
  ·rw[A_ Qy,pz 5 (.inr rfl),Aa];rfl
  ·rw[A_ Qy,pz 5 (.inr rfl),Aa];rfl
 rw[CQ,Ar6 hF,Aa];simp only;rw[hb,Aa,O2,Aa]
theorem Bjq{bits:Int}(h:Bn bits)(t:LX):Bag bits t=some (bits,0,sB bits,t,List.replicate 16 0,0):=by
 obtain rfl|rfl|rfl:=h<;>rfl
def bY(n:UInt32):Int32:=if n.toNat %2=0 then Int32.ofInt ((n.toNat/2:Nat):Int)else Int32.ofInt (-((n.toNat/2:Nat):Int)-1)
theorem Aku(a b:Int32):(DY a b).toBitVec=a.toBitVec^^^b.toBitVec:=by
 show(Int32.ofInt ((BitVec.ofInt 32 a.toBitVec.toInt^^^BitVec.ofInt 32 b.toBitVec.toInt).toNat:Int)).toBitVec=_;rw[BitVec.ofInt_toInt,BitVec.ofInt_toInt,vN,BitVec.ofInt_natCast,BitVec.ofNat_toNat,BitVec.setWidth_eq]
theorem Bjp(m:Nat)(h:m<2147483648):DY (Int32.ofInt (m:Int)) (Int32.ofInt (-1))=Int32.ofInt (-(m:Int)-1):=by
 apply Int32.toBitVec_inj.1;have e1:(Int32.ofInt (-1)).toBitVec=BitVec.allOnes 32:=F2
 rw[Aku,e1,BitVec.xor_allOnes,vN,vN];apply WB;rw[lH,NW,NW];omega
theorem Axv(n:UInt32):FM n=some (bY n):=by
 have hn:=n.toNat_lt;have e1:(Ag (Cy n (GI.toZ (1:UInt64)).toNat):Int32)=Int32.ofInt ((n.toNat/2:Nat):Int):=by
  show Int32.ofInt ((Cy n 1).toNat:Int)=_;rw[VJ]
 have e2:(Ag (Fy n (1:UInt32)):Int32)=Int32.ofInt ((n.toNat %2:Nat):Int):=by
  show Int32.ofInt ((Fy n (1:UInt32)).toNat:Int)=_;rw[H?,jE]
  show Int32.ofInt ((n.toNat&&&1:Nat):Int)=_;rw[kR]
 rw[FM,e1,e2,bY];congr 1;by_cases h:n.toNat %2=0
 ·have e3:O0 (Int32.ofInt ((n.toNat %2:Nat):Int))=Int32.ofInt 0:=by rw[h];decide
  rw[B2 h,e3];apply Int32.toBitVec_inj.1;rw[Aku,show(Int32.ofInt 0).toBitVec=0#32 from rfl,BitVec.xor_zero]
 ·have e3:O0 (Int32.ofInt ((n.toNat %2:Nat):Int))=Int32.ofInt (-1):=by rw[show n.toNat %2=1 by omega];decide
  rw[A_ h,e3,Bjp _ F0]
theorem Bbo(n:UInt32):NY n=some (bY n):=by
 have hn:=n.toNat_lt;have e1:geq (MM n (2:UInt32)) (0:UInt32)=decide (n.toNat %2=0):=by
  rw[qH,Aig,D0];simp only[D4,<-lE,vV,B7];rfl
 rw[NY,e1,bY];by_cases h:n.toNat %2=0
 ·rw[B2 (by simpa using h),B2 h,Aiq];rfl
 ·have e2:(Ag n:Int)=(n.toNat:Int):=Bkj n;rw[A_ (by simpa using h),A_ h,e2,Ah,dI,Dt F0 F0,YG,lM,bL];congr 2;rw[B2 (.inr F0),Dt F0 F0];omega
theorem C3{p:Prop}(h:p:=by rw[Ap,Ac];simp;omega):p:=h
theorem B9{c:Prop} [Decidable c](h:c):Jb (decide c)=some ():=by rw[K! h];rfl
def unV(f:Nat->Int32)(ch:Nat):Nat->Int32
 |0=>if 1<ch then f (ch-1)+Ca (f (ch-2)) (2:Int32)else f (ch-1)
 |j+1=>unV f ch j-f (ch-2-j)
def h_(ch:Nat)(m:LX):LX:=(List.range m.length).map λk=>unV (λi=>m.getD (k-k %ch+i) 0) ch (ch-1-k %ch)
theorem qK(ch:Nat)(m:LX):(h_ ch m).length=m.length:=by simp[h_]
theorem T0{ch:Nat}{m:LX}{a i:Nat}(ha:a %ch=0)(hi:i<ch)(h:a+i<m.length):(h_ ch m).getD (a+i) 0=unV (λi=>m.getD (a+i) 0) ch (ch-1-i):=by
 have hb:(a+i) %ch=i:=by rw[Nat.add_mod,ha,HM,X8,C! hi]
 rw[Lm (by rw[qK];exact h)];simp only[h_,QP,RA,hb];rw[show a+i-i=a by omega]
section
variable (ch:Nat) (m:LX)
theorem Aix(h1:1<=ch)(h6:ch<=6)(hm:m.length %ch=0)(hl2:m.length<=4000):nB (ch:Int) m=some 0:=by
 rw[nB,A_ EE,A_ C3,Br D2,Aa,A_];rw[Aj,Ge,Ac,<-aM,hm];simp
theorem Bmh(bk:Int->LX->Option (LX×Int))(at':Nat)(h1:1<=ch)(h6:ch<=6)(hm:at' %ch=0)(hl:at'+ch<=m.length)(hl2:m.length<=4000):∀(i q:Nat),i<=ch-1->i<q->
  FH bk (ch:Int) (at':Int) q ((i:Int)-1) (pR (λk=>decide (k<at'\/ (at'+i<=k/\k<at'+ch))) (h_ ch m) m)=bk ((at'+ch:Nat):Int) (pR (λk=>decide (k<at'+ch)) (h_ ch m) m)
 |0,q+1,hi,_=>by
  have e4:Ae (at':Int) (ch:Int)=((at'+ch:Nat):Int):=by rw[Ah];omega
  rw[FH,aR,A_ IE,qI,Afp,e4];congr 1;apply AG;intro k _;rw[D0];simp;omega
 |i+1,q+1,hi,hq=>by
  have hlen:=qK ch m;have e2:Ae (at':Int) (ch:Int)-(at':Int)=(ch:Int):=by rw[Ah];omega
  have e3:Ae (i:Int) 1=((i+1:Nat):Int):=by rw[Ah];omega
  have hv:((h_ ch m).getD (at'+(i+1)) 0-m.getD (at'+i) 0)=(h_ ch m).getD (at'+i) 0:=by
   rw[T0 hm F0 F0,T0 hm F0 F0,show ch-1-i=(ch-1-(i+1))+1 by omega,unV,show ch-2-(ch-1-(i+1))=i by omega]
  rw[FH,aR,show((i+1:Nat):Int)-1=(i:Int) by omega,B2 IE,e2,e3,B9 F0,Aa,B9 F0,Aa,
   show(at':Int)+((i+1:Nat):Int)=((at'+(i+1):Nat):Int) by omega,show(at':Int)+(i:Int)=((at'+i:Nat):Int) by omega,
   IY F0,Aa,IY F0,Aa,Aa,B2 B5,A_ B5,dJ,hv,qZ F0,Aa,Cb]
  have ih:=Bmh bk at' h1 h6 hm hl hl2 i q F0 F0;rw[<-ih];congr 1;apply AG;intro k _;rw[D0];simp;omega
theorem S2{at' ch n:Nat}(ha:at' %ch=0)(hm:n %ch=0)(h:at'<n):at'+ch<=n:=by
 have d1:=MK at' ch;have d2:=MK n ch;rw[ha,K4]at d1;rw[hm,K4]at d2;have hlt:at'/ch<n/ch:=by
  rcases O! (at'/ch) (n/ch)with h'|h'
  ·exact h'
  ·have:=P4 ch h';omega
 have:=P4 ch (show at'/ch+1<=n/ch from hlt);rw[X6]at this;omega
theorem za(h1:1<=ch)(h6:ch<=6)(hm:m.length %ch=0)(hl2:m.length<=4000):∀(j at' q:Nat),at' %ch=0->at'<=m.length->m.length-at'<=j->j<q->
  Ze (ch:Int) q (at':Int) (pR (λk=>decide (k<at')) (h_ ch m) m)=some (h_ ch m,0)
 |j,at',q+1,ha,hle,hj,hq=>by
  have hlen:=qK ch m;have hl:Ac (pR (λk=>decide (k<at')) (h_ ch m) m)=(m.length:Int):=by rw[Ac,UW,hlen]
  rw[Ze,oZ,hl];by_cases h:at'<m.length
  ·have hb:=S2 ha hm h;obtain⟨j,rfl⟩:∃k,j=k+1:=⟨j-1,F0⟩;have e1:Aq (Ae (at':Int) (ch:Int)-(at':Int)) 1=((ch-1:Nat):Int):=by rw[Ah,Cb];omega
   have e2:Ae (at':Int) (ch:Int)-(at':Int)=(ch:Int):=by rw[Ah];omega
   have e4:Ae (at':Int) (ch:Int)=((at'+ch:Nat):Int):=by rw[Ah];omega
   have hi:=Bmh ch m (Ze (ch:Int) q) at' h1 h6 ha hb hl2 (ch-1) Ax F0 B_;have hrest:=za h1 h6 hm hl2 j (at'+ch) q (by rw[WO,ha]) hb F0 F0;have hstart:qS (Ze (ch:Int) q) (ch:Int) (at':Int) (pR (λk=>decide (k<at'\/ (at'+(ch-1)<=k/\k<at'+ch))) (h_ ch m) m)=some (h_ ch m,0):=by
    have e6:Aq ((ch-1:Nat):Int) 1=((ch-1:Nat):Int)-1:=Cb;rw[qS,oS,pE,e1,e6];exact F? hi hrest
   rw[B2 C1,show dZ (m.length:Int) (at':Int) (Ae (at':Int) (ch:Int))=some () by rw[e4,dZ,B9];omega,Aa,e1,e2];have hlast:=T0 (m:=m) ha (show ch-1<ch by omega) F0;rw[show ch-1-(ch-1)=0 by omega,unV]at hlast;by_cases hc:1<ch
   ·have e5:Aq ((ch-1:Nat):Int) 1=((ch-2:Nat):Int):=by rw[Cb];omega
    rw[B2 hc]at hlast;rw[B2 E7,B9 F0,Aa,e5,B9 F0,Aa,show(at':Int)+((ch-1:Nat):Int)=((at'+(ch-1):Nat):Int) by omega,show(at':Int)+((ch-2:Nat):Int)=((at'+(ch-2):Nat):Int) by omega,
     IY F0,Aa,IY F0,Aa,Aa,A_ B3,A_ B3,lX,<-hlast,qZ F0,Aa]
    rw[<-hstart];congr 1;apply AG;intro k _;rw[D0];simp;omega
   ·have hc1:ch=1:=F0
    rw[A_ E7,<-hstart];congr 1;rw[A_ hc]at hlast;apply S9;intro k hk;by_cases hk2:k=at'
    ·subst hk2;rw[A_ B3,B2 B5];rw[show k+(ch-1)=k by omega]at hlast;exact hlast.symm
    ·by_cases hk3:k<at'
     ·rw[B2 B5,B2 B5]
     ·rw[A_ B5,A_ B5]
  ·rw[A_ C1,zC (λk hk=>by simp;omega)];rfl
theorem Bbw(h1:1<=ch)(h6:ch<=6)(hm:m.length %ch=0)(hl2:m.length<=4000):P6 (ch:Int) m=some (h_ ch m,0):=by
 have hlen:=qK ch m;have h:=za ch m h1 h6 hm hl2 m.length 0 Ax B3 F0 F0 B_;rw[P6,xY,Aix ch m h1 h6 hm hl2,Aa,A_ C0,Dy,Bg B5,Aa,Aa,D8,Agr];rw[uV hlen.symm (λk _=>by simp)]at h;exact h
end
def ru(f:Nat->Int32)(ch:Nat):LX:=(List.range ch).map λi=>unV f ch (ch-1-i)
theorem mT(f:Nat->Int32)(ch:Nat):(ru f ch).length=ch:=by simp[ru]
theorem W4(f:Nat->Int32){ch i:Nat}(h:i<ch):(ru f ch).getD i 0=unV f ch (ch-1-i):=by
 rw[Lm (by rw[mT];exact h)];simp[ru]
theorem Ayw(a b:Int32):Eb (Aq (Ag a:Int) (Ag b:Int))=some (a-b):=by
 have:=GR a;have:=GR b;rw[Hc,Hc,Cb,j_,wI,LA,LA]
theorem At4(a b:Int32):Eb (Ae (Ag a:Int) (Ca (Ag b:Int) (2:Int)))=some (a+Ca b (2:Int32)):=by
 have:=GR a;have hb:=GR b;have hd: -2147483648<=b.toInt.tdiv 2/\b.toInt.tdiv 2<=2147483648:=by
  rw[lM,show Int.sign 2=1 from rfl];by_cases h:0<=b.toInt\/2∣b.toInt
  ·rw[B2 h];omega
  ·rw[A_ h];omega
 have e:Ca b (2:Int32)=Int32.ofInt (b.toInt.tdiv 2):=rfl;rw[Hc,Hc,YG,Dt F0 F0,Ah,j_,wD,LA,e]
theorem Aen(seg z:LX)(ch:Nat)(h6:ch<=6)(hs:seg.length=ch)(hz:z.length=ch):∀(i q:Nat),i+1<=ch->i<q->
  Ko seg q ((i:Int)-1) (pR (λk=>decide (i<=k)) (ru (λi=>seg.getD i 0) ch) z)=some (ru (λi=>seg.getD i 0) ch)
 |0,q+1,hi,_=>by
  rw[Ko,Xv,A_ IE,zC (λk hk=>by simp)];rfl
 |i+1,q+1,hi,hq=>by
  have hlen:=mT (λi=>seg.getD i 0) ch;have e3:Ae (i:Int) 1=((i+1:Nat):Int):=by rw[Ah];omega
  have hv:(ru (λi=>seg.getD i 0) ch).getD (i+1) 0-seg.getD i 0=(ru (λi=>seg.getD i 0) ch).getD i 0:=by
   rw[W4 _ F0,W4 _ F0,show ch-1-i=(ch-1-(i+1))+1 by omega,unV,show ch-2-(ch-1-(i+1))=i by omega]
  rw[Ko,Xv,show((i+1:Nat):Int)-1=(i:Int) by omega,B2 IE,e3,IY F0,Aa,g32 F0,Aa,Aa,B2 B3,Ayw,Aa,IY F0,Aa,hv,qZ F0,Aa,Cb];have ih:=Aen seg z ch h6 hs hz i q F0 F0;rw[<-ih];congr 1;apply AG;intro k _;rw[D0];simp;omega
theorem Aky{l:LX}{i:Nat}(v:Int32)(h:i<l.length):(l.set i v).getD i 0=v:=by
 rw[Lm (by rw[N_];exact h)];simp
theorem Amm(seg:LX)(ch:Nat)(h1:1<=ch)(h6:ch<=6)(hs:seg.length=ch):DU seg=some (ru (λi=>seg.getD i 0) ch):=by
 have hlen:=mT (λi=>seg.getD i 0) ch;have hzl:(List.replicate ch (0:Int32)).length=ch:=by simp
 have e1:Aq (Ac seg) 1=((ch-1:Nat):Int):=by rw[Ac,hs,Cb];omega
 have e2:Aq (Ac seg) 2=((ch-1:Nat):Int)-1:=by rw[Ac,hs,Cb];omega
 have hlast:=W4 (λi=>seg.getD i 0) (show ch-1<ch by omega);rw[show ch-1-(ch-1)=0 by omega,unV]at hlast;have hend:∀z:LX,z.length=ch->z.getD (ch-1) 0=(ru (λi=>seg.getD i 0) ch).getD (ch-1) 0->Xh seg z=some (ru (λi=>seg.getD i 0) ch):=by
  intro z hz hzl;have h:=Aen seg z ch h6 hs hz (ch-1) Ax F0 B_;have e:pR (λk=>decide (ch-1<=k)) (ru (λi=>seg.getD i 0) ch) z=z:=by
   apply KN (by rw[UW,hlen,hz]);intro k k1 k2;rw[Yk];by_cases hk:ch-1<=k
   ·obtain rfl:k=ch-1:=F0
    rw[B2 B3,<-hzl,Lm k2]
   ·rw[A_ (by simpa using hk),Lm k2]
  rw[e]at h;rw[Xh,Acj,e2];exact h
 rw[DU,Abq,Ac,hs,xI,Aa,Br Qz,Aa];rw[Ac,hs]at e1;rw[Ac,hs]at e2;have hz1:(List.replicate (Int.toNat (ch:Int)) (0:Int32)).length=ch:=by simp
 have hs1:=g32 (l:=seg) (k:=ch-1) F0;rw[e1,hs1,Aa,g32 F0,Aa,Yb _ F0,Aa];by_cases hc:1<ch
 ·rw[B2 hc]at hlast;have e3:((ch-1:Nat):Int)-1=((ch-2:Nat):Int):=F0
  have hs2:=g32 (l:=seg) (k:=ch-2) F0;rw[B2 E7,Aa,e2,e3,hs2,Aa,At4,Aa,g32 (by rw[N_];omega),Aa,Yb _ (by rw[N_];omega),Aa];refine hend _ B3 ?_;rw[hlast,Aky _ (by rw[N_];omega)]
 ·rw[A_ hc]at hlast;rw[A_ E7];refine hend _ B3 ?_;rw[hlast,Aky _ F0]
theorem Bcu(ch:Nat)(m:LX)(h1:1<=ch)(h6:ch<=6)(hm:m.length %ch=0)(hl2:m.length<=4000):Yz (ch:Int) m=some 0:=by
 rw[Yz,A_ EE,A_ C3,Br D2,Aa,A_];rw[Ap,Ge,Ac,<-aM,hm];simp
theorem Ble(ch:Nat)(m:LX)(h1:1<=ch)(h6:ch<=6)(hm:m.length %ch=0)(hl2:m.length<=4000):∀(j at' q:Nat),at' %ch=0->at'<=m.length->m.length-at'<=j->j<q->
  Ut (ch:Int) m q (at':Int) ((h_ ch m).take at')=some (h_ ch m,0)
 |j,at',q+1,ha,hle,hj,hq=>by
  have hlen:=qK ch m;rw[Ut,An8];by_cases h:at'<m.length
  ·have hb:=S2 ha hm h;have e4:Ae (at':Int) (ch:Int)=((at'+ch:Nat):Int):=by rw[Ah];omega
   have hrest:=Ble ch m h1 h6 hm hl2 (j-1) (at'+ch) q (by rw[WO,ha]) hb F0 F0;have hseg:((m.take (at'+ch)).drop at').length=ch:=by simp;omega
   have htl:((h_ ch m).take at').length=at':=by simp[hlen];omega
   rw[B2 F4,e4,Sa,Aa,show((at'+ch:Nat):Int).toNat=at'+ch from rfl,show(at':Int).toNat=at' from rfl,Amm _ ch h1 h6 hseg,Aa,Bg (by rw[htl,mT];omega),Aa];have e:(h_ ch m).take at'++ru (λi=>((m.take (at'+ch)).drop at').getD i 0) ch=(h_ ch m).take (at'+ch):=by
    apply KN (by rw[B6,htl,mT,C8,hlen];omega);intro k k1 k2;rw[C8,hlen]at k2;rw[List.getElem_append,ku];by_cases hk:k<at'
    ·rw[dif_pos (by rw[htl];exact hk),ku]
    ·rw[dif_neg (by rw[htl];exact hk)];have hu:=T0 (m:=m) ha (show k-at'<ch by omega) F0;rw[show at'+(k-at')=k by omega,Lm F0]at hu;have hx:∀n,n<=ch->unV (λi=>((m.take (at'+ch)).drop at').getD i 0) ch n=unV (λi=>m.getD (at'+i) 0) ch n:=by
      have hf:∀i,i<ch-> ((m.take (at'+ch)).drop at').getD i 0=m.getD (at'+i) 0:=by
       intro i hi;rw[Lm F0,Lm F0];simp
      intro n
      induction n with
      |zero=>
       intro _;rw[unV,unV,hf _ F0];split
       ·rw[hf _ F0]
       ·rfl
      |succ n ih=>intro hn;rw[unV,unV,ih F0,hf _ F0]
     have hy:=W4 (λi=>((m.take (at'+ch)).drop at').getD i 0) (show k-at'<ch by omega);rw[Lm (by rw[mT];omega)]at hy;rw[hu,<-hx _ F0,<-hy];congr 1;rw[htl]
   rw[e];exact hrest
  ·rw[A_ F4,H3 F0];rfl
theorem Atp(ch:Nat)(m:LX)(h1:1<=ch)(h6:ch<=6)(hm:m.length %ch=0)(hl2:m.length<=4000):OA (ch:Int) m=some (h_ ch m,0):=by
 have h:=Ble ch m h1 h6 hm hl2 m.length 0 Ax B3 F0 F0 B_;rw[OA,Aik,Bcu ch m h1 h6 hm hl2,Aa,A_ C0];exact h
def pre{α:Type}(ch c:Nat)(f:α->Nat->α)(a0:α):Nat->α
 |0=>a0
 |m+1=>if m %ch=c then f (pre ch c f a0 m) m else pre ch c f a0 m
theorem Arm{α:Type}(ch c:Nat)(f:α->Nat->α)(a0:α):∀m,m<=c->c<ch->pre ch c f a0 m=a0
 |0,_,_=>rfl
 |m+1,h,h2=>by rw[pre,A_ (by rw[C! F0];omega),Arm ch c f a0 m F0 h2]
theorem Ahw{α:Type}(ch c i:Nat)(f:α->Nat->α)(a0:α)(hi:i %ch=c)(hc:c<ch):∀j,j<ch->pre ch c f a0 (i+1+j)=pre ch c f a0 (i+1)
 |0,_=>rfl
 |j+1,h=>by
  have hne:(i+1+j) %ch≠c:=by
   intro e;have h1:(i+(1+j)) %ch=i %ch:=by rw[hi,<-e];congr 1;omega
   have h2:(1+j) %ch=0:=by
    have h3:=uw h1;rwa [P']at h3
   rw[C! F0]at h2;omega
  rw[show i+1+(j+1)=(i+1+j)+1 by omega,pre,A_ hne,Ahw ch c i f a0 hi hc j F0]
theorem Aw4(ch c i:Nat)(f:α->Nat->α)(a0:α)(hi:i %ch=c)(hc:c<ch):pre ch c f a0 (i+ch)=f (pre ch c f a0 i) i:=by
 have h:=Ahw ch c i f a0 hi hc (ch-1) F0;rw[show i+1+(ch-1)=i+ch by omega]at h;rw[h,pre,B2 hi]
abbrev CS:=Int32×LX×LX
def XI(bits:Int)(s:CS)(y:Int32):Int32:=y+gF (sB bits) s.2.1 s.2.2+gs (shB bits) s.1
def T9(bits:Int)(s:CS)(y:Int32):CS:=(XI bits s y,E! s.2.1 s.2.2 y,(y+gF (sB bits) s.2.1 s.2.2)::s.2.2.take 15)
def cst(bits:Int)(ch:Nat)(t:LX)(v:LU)(c:Nat):Nat->CS:=pre ch c (λs i=>T9 bits s (bY (v.getD i 0))) (0,t,List.replicate 16 0)
def OkC(bits:Int)(s:CS):Prop:=OkF (sB bits) s.2.1 s.2.2
theorem eC(bits:Int)(ch:Nat){t:LX}(ht:t.length=16)(v:LU)(c:Nat):∀m,OkC bits (cst bits ch t v c m)
 |0=>⟨Bi2 bits,ht,by simp[cst,pre]⟩
 |m+1=>by
  have ih:=eC bits ch ht v c m;rw[cst,pre];split
  ·exact Awc ih _ _
  ·exact ih
def Q8(bits:Int)(ch:Nat)(t:LX)(v:LU):LX:=(List.range v.length).map λi=>XI bits (cst bits ch t v (i %ch) i) (bY (v.getD i 0))
theorem qY(bits:Int)(ch:Nat)(t:LX)(v:LU):(Q8 bits ch t v).length=v.length:=by simp[Q8]
theorem rR(bits:Int)(ch:Nat)(t:LX)(v:LU){i:Nat}(h:i<v.length):(Q8 bits ch t v).getD i 0=XI bits (cst bits ch t v (i %ch) i) (bY (v.getD i 0)):=by
 rw[Lm (by rw[qY];exact h)];simp[Q8]
abbrev CL:=Int×Int32×(Int×LX×LX×Unit)×Unit
def toC(bits:Int)(s:CS):CL:=(bits,s.1,(sB bits,s.2.1,s.2.2,()),())
def cts(bits:Int)(ch:Nat)(t:LX)(v:LU)(i:Nat):List CL:=(List.range 6).map λc=>toC bits (cst bits ch t v c i)
theorem Ara{bits:Int}{ch:Nat}{t:LX}{v:LU}{i c:Nat}(h:c<6):Ao (cts bits ch t v i) (c:Int)=some (toC bits (cst bits ch t v c i)):=by
 rw[Bq (by simp[cts];exact h)];simp[cts]
theorem Ais(bits:Int)(ch:Nat)(t:LX)(v:LU)(c m:Nat):cst bits ch t v c (m+1)=if m %ch=c then T9 bits (cst bits ch t v c m) (bY (v.getD m 0))else cst bits ch t v c m:=rfl
theorem Aqo{bits:Int}{ch:Nat}{t:LX}{v:LU}{i c:Nat}(h:c<6)(hc:i %ch=c):Pc (cts bits ch t v i) (c:Int) (toC bits (T9 bits (cst bits ch t v c i) (bY (v.getD i 0))))=some (cts bits ch t v (i+1)):=by
 rw[Yb _ (by simp[cts];exact h)];congr 1;apply KN (by simp[cts]);intro k h1 h2;rw[WV];simp only[cts,QP,RA];by_cases hk:c=k
 ·subst hk;rw[B2 rfl,Ais,B2 hc]
 ·rw[A_ hk,Ais,A_ F0]
section
variable {bits:Int} {ch:Nat} {t:LX} {v:LU}
theorem Aia(hb:Bn bits)(ht:t.length=16)(h1:1<=ch)(h6:ch<=6)(hv:v.length<=4000):∀(j i q:Nat),i+j=v.length->j<q->
  Mg v (ch:Int) bits q (i:Int) (cts bits ch t v i) ((Q8 bits ch t v).take i)=Qa (ch:Int) bits (Q8 bits ch t v)
 |0,i,q+1,hi,_=>by
  rw[Mg,Pz,A_ F4,H3 (by rw[qY];omega)]
 |j+1,i,q+1,hi,hq=>by
  have hlen:=qY bits ch t v;have hc:i %ch<6:=G4 (HW _ F0) h6;have hok:=eC bits ch ht v (i %ch) i;have hs:=Aqo (bits:=bits) (ch:=ch) (t:=t) (v:=v) (i:=i) hc rfl;have hx:=rR bits ch t v (i:=i) F0;have hcb:=As0 hb hok (cst bits ch t v (i %ch) i).1 (bY (v.getD i 0));have ih:=Aia hb ht h1 h6 hv j (i+1) q F0 F0;rw[Iq F0,<-Lm F0,hx]at ih;rw[Mg,Pz,B2 F4,U9 F0,Aa,Br D2,Aa,JJ,Ara hc,Aa,Aa,Axv,Aa];refine F? (congrArg (λo=>Option.bind o _) hcb) ?_;rw[Aa];simp only;rw[GM,Aoi,A_ C0,JJ];refine F? (congrArg (λo=>Option.bind o _) hs) ?_;rw[Aa,Bg B5,Aa,Ah];exact ih
theorem Aus(hb:Bn bits)(ht:t.length=16)(h1:1<=ch)(h6:ch<=6)(hv:v.length<=4000):Zu (ch:Int) bits t v=Qa (ch:Int) bits (Q8 bits ch t v):=by
 have h:=Aia hb ht h1 h6 hv v.length 0 Ax F0 B_;have e:Ax=(Ax-7)+1+1+1+1+1+1+1:=by have:=Ar;omega
 have hs:GQ v (ch:Int) bits t 0 (List.replicate 6 ((0:Int),(0:Int32),((0:Int),(List.replicate 16 (0:Int32)),(List.replicate 16 (0:Int32)),()),()))=Aq0 v (ch:Int) bits (cts bits ch t v 0):=by
  rw[GQ,e];obtain rfl|rfl|rfl:=hb<;>rfl
 rw[Zu,KE,hs];exact h
theorem Adk(bk:Int->LX->Option LX)(hb:Bn bits)(ht:t.length=16)(h1:1<=ch)(h6:ch<=6)(hv:v.length<=4000)(z:LX)(c:Nat)(hc:c<ch):∀(j i q:Nat),i %ch=c->v.length-i<=j->i<=5000->j<q->
  Ph bk v (ch:Int) bits t (c:Int) q (i:Int) (pR (λk=>decide (k %ch<c\/ (k %ch=c/\k<i))) (Q8 bits ch t v) z) bits (cst bits ch t v c i).1 (sB bits) (cst bits ch t v c i).2.1 (cst bits ch t v c i).2.2=
   bk ((c+1:Nat):Int) (pR (λk=>decide (k %ch<c+1)) (Q8 bits ch t v) z)
 |j,i,q+1,hi,hj,hi5,hq=>by
  have hlen:=qY bits ch t v;rw[Ph,Aby];by_cases h:i<v.length
  ·have hok:=eC bits ch ht v c i;have hst:=Auy hb hok (cst bits ch t v c i).1 (bY (v.getD i 0));have hx:=rR bits ch t v (i:=i) h;rw[hi]at hx;have ih:=Adk bk hb ht h1 h6 hv z c hc (j-1) (i+ch) q (by rw[WO];exact hi) F0 F0 F0;have RQ:cst bits ch t v c (i+ch)=T9 bits (cst bits ch t v c i) (bY (v.getD i 0)):=Aw4 ch c i _ _ hi hc;rw[RQ]at ih;have hset:=qZ (p:=λk=>decide (k %ch<c\/ (k %ch=c/\k<i))) (a:=Q8 bits ch t v) (b:=z) (k:=i) F0;rw[hx]at hset;have Z3:pR (λj=>decide (j %ch<c\/ (j %ch=c/\j<i))||decide (j=i)) (Q8 bits ch t v) z=pR (λk=>decide (k %ch<c\/ (k %ch=c/\k<i+ch))) (Q8 bits ch t v) z:=by
    apply AG;intro k _;rw[D0];simp only[I',B7];constructor
    ·rintro((h1|h1)|h1)
     ·exact .inl h1
     ·exact .inr ⟨h1.1,F0⟩
     ·subst h1;exact .inr ⟨hi,F0⟩
    ·rintro(h1|⟨h1,h2⟩)
     ·exact .inl (.inl h1)
     ·by_cases h3:k<i
      ·exact .inl (.inr ⟨h1,h3⟩)
      ·refine .inr ?_;have h4:(i+(k-i)) %ch=i %ch:=by rw[show i+(k-i)=k by omega,h1,hi]
       have h5:=uw h4;rw[P',C! F0]at h5;omega
   rw[Z3]at hset;rw[B2 F4,U9 h,Aa,Bbo,Aa];refine F? (congrArg (λo=>Option.bind o _) hst) ?_;rw[Aa];simp only;rw[Ac4,Abz,IY F0,Aa];refine F? (congrArg (λo=>Option.bind o _) hset) ?_;rw[Aa,Abm,Abs,Ah];exact ih
  ·rw[A_ F4,Abr,Ac2,Ah];have Z3:pR (λk=>decide (k %ch<c\/ (k %ch=c/\k<i))) (Q8 bits ch t v) z=pR (λk=>decide (k %ch<c+1)) (Q8 bits ch t v) z:=by
    apply AG;intro k hk;rw[D0];simp only[B7];omega
   rw[Z3];rfl
theorem Aee(hb:Bn bits)(ht:t.length=16)(h1:1<=ch)(h6:ch<=6)(hv:v.length<=4000)(z:LX):∀(j c q:Nat),c+j=ch->j<q->
  Hw v (ch:Int) bits t q (c:Int) (pR (λk=>decide (k %ch<c)) (Q8 bits ch t v) z)=Xf (ch:Int) bits (Q8 bits ch t v)
 |0,c,q+1,hc,_=>by
  rw[Hw,Xg,A_ C1,zC (λk hk=>by have:=HW k (show 0<ch by omega);simp;omega)]
 |j+1,c,q+1,hc,hq=>by
  have ih:=Aee hb ht h1 h6 hv z j (c+1) q F0 F0;have hin:=Adk (Hw v (ch:Int) bits t q) hb ht h1 h6 hv z c F0 v.length c Ax (C! F0) F0 F0 B_;have h0:cst bits ch t v c c=(0,t,List.replicate 16 0):=Arm ch c _ _ c (C9 _) F0;rw[h0]at hin;have Z3:pR (λk=>decide (k %ch<c\/ (k %ch=c/\k<c))) (Q8 bits ch t v) z=pR (λk=>decide (k %ch<c)) (Q8 bits ch t v) z:=by
   apply AG;intro k hk;have:=M2 k ch;rw[D0];simp only[B7];omega
  rw[Z3]at hin;rw[Hw,Xg,B2 C1,Bjq hb,Aa];simp only;rw[Ac1];exact F? hin ih
theorem Aef(hb:Bn bits)(ht:t.length=16)(h1:1<=ch)(h6:ch<=6)(hv:v.length<=4000)(hm:v.length %ch=0):Wi (ch:Int) bits t v=some (h_ ch (Q8 bits ch t v)):=by
 have hlen:=qY bits ch t v;have h:=Aee hb ht h1 h6 hv (List.replicate v.length 0) ch 0 Ax F0 B_;rw[uV (by rw[hlen];simp) (λk _=>by simp)]at h;rw[Wi,Acx,Ac,xI,Aa,Br Qz,Aa,Ack];refine F? h ?_;rw[Xf,Ac0,Atp ch _ h1 h6 (by rw[hlen];exact hm) F0,Aa]
end
def hB(bits:Int):Int:=if bits=8 then 128 else if bits=16 then 32768 else 8388608
theorem ji{bits:Int}(h:Bn bits):Pb bits=some (Int32.ofInt (-(hB bits)),Int32.ofInt (hB bits-1),0):=by
 obtain rfl|rfl|rfl:=h<;>decide
theorem ZU{bits:Int}(h:Bn bits):Hs bits=some (hB bits):=by
 obtain rfl|rfl|rfl:=h<;>rfl
theorem NK(bits:Int):0<hB bits/\hB bits<=8388608:=by
 unfold hB;split; · omega
 ·split<;>omega
theorem Azp {bits:Int}(h:Bn bits)(l:LX)(hl:l.length<=4000):∀(j i q:Nat),i+j=l.length->j<q->
  Xd (Int32.ofInt (-(hB bits))) (Int32.ofInt (hB bits-1)) l q (i:Int)=Be l (hB bits) q (i:Int)
 |0,i,q+1,hi,_=>by
  rw[Xd,NC,Be,Df,A_ F4,A_ F4];rfl
 |j+1,i,q+1,hi,hq=>by
  have hh:=NK bits;have ih:=Azp h l hl j (i+1) q F0 F0;have e1:(Int32.ofInt (-(hB bits))).toInt= -(hB bits):=by rw[P8,aF (by show -(4294967296/2:Int)<= _;omega) (by show _<(4294967296+1)/2;omega)]
  have e2:(Int32.ofInt (hB bits-1)).toInt=hB bits-1:=by rw[P8,aF (by show -(4294967296/2:Int)<= _;omega) (by show _<(4294967296+1)/2;omega)]
  rw[Xd,NC,Be,Df,B2 F4,B2 F4,g32 F0,Aa,Aa,Aa,Hc,dI,Dt F0 F0,Ah,cH,sT,e1,e2,Ad,Dq];generalize(l.getD i 0).toInt=X;by_cases h1:X< -(hB bits)
  ·rw[B2 B5,B2 B5]
  ·rw[A_ (c:=decide (X<0-hB bits)=true) B5];by_cases h2:hB bits<=X
   ·rw[B2 B5,B2 B5]
   ·rw[A_ B5,A_ B5];exact ih
theorem UA{bits:Int}(h:Bn bits)(l:LX)(hl:l.length<=4000):Uq bits l=Au bits l:=by
 have hh:=NK bits;rw[Uq,eE,ji h,Aa,Au,Ed,ZU h,Aa];simp only;rw[A_ C0,A_ C3,A_ E6,A_ C3];exact Azp h l hl l.length 0 Ax F0 B_
theorem L9{bits:Int}(h:Bn bits)(l:LX)(hl:l.length<=4000):∃e,Au bits l=some e:=by
 have hh:=NK bits;have key:∀(j i q:Nat),i+j=l.length->j<q->∃e,Be l (hB bits) q (i:Int)=some e:=by
  intro j
  induction j with
  |zero=>
   intro i q hi hq;obtain⟨q,rfl⟩:∃k,q=k+1:=⟨q-1,F0⟩;rw[Be,Df,A_ F4];exact⟨_,rfl⟩
  |succ j ih=>
   intro i q hi hq;obtain⟨q,rfl⟩:∃k,q=k+1:=⟨q-1,F0⟩;rw[Be,Df,B2 F4,g32 F0,Aa,Aa,Ah];split
   ·exact⟨_,rfl⟩
   ·split
    ·exact⟨_,rfl⟩
    ·exact ih (i+1) q F0 F0
 obtain⟨e,he⟩:=key l.length 0 Ax F0 B_;rw[Au,Ed,ZU h,Aa,A_ E6,A_ C3];exact⟨e,he⟩
theorem Afd{bits:Int}{ch:Nat}{t:LX}{v:LU}(hb:Bn bits)(ht:t.length=16)(h1:1<=ch)(h6:ch<=6)(hv:v.length<=4000)(hm:v.length %ch=0):
  ∃l e,Wi (ch:Int) bits t v=some l/\Wq (ch:Int) bits l=some (if e≠0 then([],e)else(l,0))/\Zu (ch:Int) bits t v=some (if e≠0 then([],e)else(l,0))/\Au bits l=some e/\l.length=v.length:=by
 have hlen:=qY bits ch t v;have hul:=qK ch (Q8 bits ch t v);obtain⟨e,he⟩:=L9 hb (h_ ch (Q8 bits ch t v)) F0;refine⟨h_ ch (Q8 bits ch t v),e,Aef hb ht h1 h6 hv hm,?_,?_,he,F0⟩
 ·rw[Wq,he,Aa];by_cases h:e=0
  ·rw[A_ (by rw[Aj];simpa using h),A_ (by simpa using h)]
  ·rw[B2 (by rw[Aj];simpa using h),B2 h]
 ·rw[Aus hb ht h1 h6 hv,Qa,Ane,Bbw ch _ h1 h6 (by rw[hlen];exact hm) F0,Aa];simp only;rw[A_ C0,UA hb _ F0,he,Aa];by_cases h:e=0
  ·rw[A_ (by rw[Aj];simpa using h),A_ (by simpa using h)]
  ·rw[B2 (by rw[Aj];simpa using h),B2 h]
def wC(s:Nat):Nat:=(s/2)^^^ (if s %2=1 then 3988292384 else 0)
theorem oH{s:Nat}(h:s<4294967296):wC s<4294967296:=by
 unfold wC;exact M5 (n:=32) B5 (by split<;>decide)
theorem Ajh(x y:Nat):(x^^^y)/2=(x/2)^^^ (y/2):=by
 have:=Bou (a:=x) (b:=y) (i:=1);simpa [Bo1]using this
theorem Atu(x y:Nat):wC (x^^^y)=wC x^^^wC y:=by
 have h:(x^^^y) %2=(x %2+y %2) %2:=by
  have:=Nat.xor_mod_two_eq_one (a:=x) (b:=y);have h1:(x^^^y) %2<2:=HW _ F0;omega
 simp only[wC,Ajh,h];have hx:x %2=0\/x %2=1:=F0
 have hy:y %2=0\/y %2=1:=F0
 rcases hx with hx|hx<;>rcases hy with hy|hy<;>simp only[hx,hy]<;>simp
 ·rw[LR]
 ·rw[LR,SI (y/2),LR,SI 3988292384 (y/2)]
 ·rw[LR,SI 3988292384,LR,Nat.xor_self];simp
def FV:Nat->Nat->Nat
 |0,s=>s
 |k+1,s=>FV k (wC s)
theorem Ad6:∀(k x y:Nat),FV k (x^^^y)=FV k x^^^FV k y
 |0,_,_=>rfl
 |k+1,x,y=>by rw[FV,Atu,Ad6 k];rfl
theorem Adb:∀(k h:Nat),FV k (2^k*h)=h
 |0,h=>by simp[FV]
 |k+1,h=>by
  have:wC (2^(k+1)*h)=2^k*h:=by
   rw[F_,D9 (2^k) 2,I6,wC,A_ F0,Bo7 _ F0];simp
  rw[FV,this,Adb k]
theorem Y!:∀(k:Nat) {s:Nat},s<4294967296->FV k s<4294967296
 |0,_,h=>h
 |k+1,_,h=>Y! k (oH h)
def yw(s c:Nat):Nat:=FV 8 (s^^^c)
theorem S!{s c:Nat}(h:s<4294967296)(hc:c<256):yw s c<4294967296:=Y! 8 (M5 (n:=32) (by simpa using h) B5)
theorem Aje{s c:Nat}(hc:c<256):yw s c=(s/256)^^^FV 8 ((s %256)^^^c):=by
 have h:s=(2^8*(s/256))^^^ (s %256):=by
  have h1:s %256<2^8:=by simpa using HW s (by omega:256>0)
  have:=QC h1 (s/256);have h2:2^8*(s/256)|||s %256=(2^8*(s/256))^^^ (s %256):=by
   apply vM;intro i;rw[Nat.testBit_or,Nat.testBit_xor];by_cases hi:i<8
   ·have:(2^8*(s/256)).testBit i=false:=by rw[Bo8];simp;omega
    rw[this];simp
   ·have:(s %256).testBit i=false:=Nat.testBit_lt_two_pow (G4 h1 (E1 F0 F0));rw[this];simp
  omega
 rw[yw]
 conv=>lhs;rw[h]
 rw[LR,Ad6,Adb]
def VB(s:Nat)(l:LB):Nat:=l.foldl (λs c=>yw s c.toNat) s
def Ff(b:LB):UInt32:=4294967295-UInt32.ofNat (VB 4294967295 b)
theorem Bbi(s:UInt32)(c:Nat)(hc:c<256):PQ s (Ag (MM (UInt8.ofNat c) (2:UInt8)):Int)=some (UInt32.ofNat (s.toNat/2^^^ (if(s.toNat^^^c) %2=1 then 3988292384 else 0))):=by
 have h1:(Ag (MM (UInt8.ofNat c) (2:UInt8)):Int)=((c %2:Nat):Int):=by
  rw[bJ,Bdc,UInt8.toNat_mod,HT];show((c %256 %2:Nat):Int)=_;omega
 have h2:geq (MM s (2:UInt32)) (1:UInt32)=decide (s.toNat %2=1):=by
  rw[qH,Aig,D0];simp only[D4,B7];rw[<-lE,vV];rfl
 have h3:Ca s (2:UInt32)=UInt32.ofNat (s.toNat/2):=by
  apply UInt32.toNat_inj.1;rw[Aiq,UInt32.toNat_div,H!]
  show s.toNat/2=_;have:=s.toNat_lt;omega
 have h4:DY (Ca s (2:UInt32)) (3988292384:UInt32)=UInt32.ofNat (s.toNat/2^^^3988292384):=by
  apply UInt32.toNat_inj.1;rw[h3,lQ,WS,H!,H!];have:=s.toNat_lt;rw[C! (a:=s.toNat/2) F0,C!]
  ·rfl
  ·exact M5 (n:=32) F0 F2
 have hx:(s.toNat^^^c) %2=(s.toNat %2+c %2) %2:=by
  have:=Nat.xor_mod_two_eq_one (a:=s.toNat) (b:=c);have h1:(s.toNat^^^c) %2<2:=HW _ F0;omega
 have hs:s.toNat %2=0\/s.toNat %2=1:=F0
 have hc2:c %2=0\/c %2=1:=F0
 rw[PQ,Ahp,h1,h2,hx];rcases hs with hs|hs<;>rcases hc2 with hc2|hc2<;>simp[hs,hc2,As,Aiu,Am3,lQ,h3]
theorem Bm7:∀(j i q:Nat) (s:UInt32) (c:Nat),i+j=8->j<q->c<2^j->Oi q s (UInt8.ofNat c) (i:Int)=some (UInt32.ofNat (FV j (s.toNat^^^c)))
 |0,i,q+1,s,c,hi,_,hc=>by
  obtain rfl:i=8:=F0
  obtain rfl:c=0:=by simpa using hc
  rw[Oi,DV,A_ J9,Ana,Amw,FV];simp
 |j+1,i,q+1,s,c,hi,hq,hc=>by
  have hc8:c<256:=G4 hc (show 2^(j+1)<=2^8 from E1 F0 F0);rw[Oi,DV,B2 C1,Bbi s c hc8,Aa,Ah];have e:Ca (UInt8.ofNat c) (2:UInt8)=UInt8.ofNat (c/2):=by
   apply UInt8.toNat_inj.1;rw[Bcv,UInt8.toNat_div,HT,HT]
   show c %256/2=_;omega
  rw[e];have h:=Bm7 j (i+1) q (UInt32.ofNat (s.toNat/2^^^ (if(s.toNat^^^c) %2=1 then 3988292384 else 0))) (c/2) F0 F0 (by rw[F_]at hc;omega);rw[show((i:Int)+1)=((i+1:Nat):Int) by omega,h,H!,FV];congr 3;have:=s.toNat_lt;rw[C!,wC,Ajh,LR,LR,SI (c/2)];exact M5 (n:=32) F0 (by split<;>decide)
theorem Bcs(s:UInt32)(c:UInt8):Az5 s c=some (UInt32.ofNat (yw s.toNat c.toNat)):=by
 have h:=Bm7 8 0 Ax s c.toNat F0 B_ (by simpa using c.toNat_lt);rw[UInt8.ofNat_toNat]at h;exact h
theorem Aa8(b:LB)(hb:b.length<4611686018427387904):∀(j i q:Nat) (s:UInt32),i+j=b.length->j<q->Lz b q s (i:Int)=some (UInt32.ofNat (VB s.toNat (b.drop i)))
 |0,i,q+1,s,hi,_=>by
  rw[Lz,Yq,A_ F4,show i=b.length by omega,L?];simp[Afj,Ae0,VB]
 |j+1,i,q+1,s,hi,hq=>by
  have hlt:i<b.length:=F0
  rw[Lz,Yq,B2 F4,Bq hlt,Aa,Bcs,Aa,Ah];have h:=Aa8 b hb j (i+1) q (UInt32.ofNat (yw s.toNat b[i].toNat)) F0 F0;rw[show((i:Int)+1)=((i+1:Nat):Int) by omega,h,drop_cons hlt,H!,C! (S! s.toNat_lt b[i].toNat_lt)];rfl
theorem tC(b:LB)(hb:b.length<4611686018427387904):Zw b=some (Ff b):=by
 have h:=Aa8 b hb b.length 0 Ax 4294967295 F0 B_;rw[Zw,Ani,Adz,Af3,show((0:Int))=((0:Nat):Int)from rfl,h,Aa,e!];rfl
theorem Bde(c:UInt32):DY (Cy c (GI.toZ (1:UInt64)).toNat) (Bm (3988292384:UInt32) (Fy c (1:UInt32)))=UInt32.ofNat (wC c.toNat):=by
 apply UInt32.toNat_inj.1;have e:(GI.toZ (1:UInt64)).toNat=1:=rfl;have h1:(Cy c 1).toNat=c.toNat/2:=by rw[VJ]
 have h2:(Bm (3988292384:UInt32) (Fy c (1:UInt32))).toNat=if c.toNat %2=1 then 3988292384 else 0:=by
  rw[Azb,H?,UInt32.toNat_mul,jE]
  show 3988292384*(c.toNat&&&1) %4294967296=_;rw[kR];have:c.toNat %2=0\/c.toNat %2=1:=F0
  rcases this with h|h<;>simp[h]
 rw[e,lQ,WS,h1,h2,H!,C! (oH c.toNat_lt)];rfl
theorem Ah7(Jw:Int->LU->Option (UInt32×Int))(s:UInt32)(b:LB)(x:Int)(t:LU):∀(j i q:Nat) (c:UInt32),i+j=8->j<q->
  Wz Jw s b x t q c (i:Int)=OE Jw s b x (UInt32.ofNat (FV j c.toNat)) t
 |0,i,q+1,c,hi,_=>by
  obtain rfl:i=8:=F0
  rw[Wz,NP,A_ J9,FV,UInt32.ofNat_toNat]
 |j+1,i,q+1,c,hi,hq=>by
  rw[Wz,NP,B2 C1,Bde,Ah,show((i:Int)+1)=((i+1:Nat):Int) by omega,Ah7 Jw s b x t j (i+1) q _ F0 F0,H!,C! (oH c.toNat_lt)];rfl
def tbl(n:Nat):LU:=(List.range n).map λi=>UInt32.ofNat (FV 8 i)
theorem Aro(s:UInt32)(b:LB):∀(j i q:Nat),i+j=256->j<q->Ru s b q (i:Int) (tbl i++List.replicate j 0)=dM s b (tbl 256)
 |0,i,q+1,hi,_=>by
  obtain rfl:i=256:=F0
  rw[Ru,PZ,A_ J9];simp
 |j+1,i,q+1,hi,hq=>by
  have hlen:(tbl i++List.replicate (j+1) 0).length=i+(j+1):=by simp[tbl]
  rw[Ru,PZ,B2 C1,bW];have h:=Ah7 (Ru s b q) s b (i:Int) (tbl i++List.replicate (j+1) 0) 8 0 Ax (Ag (i:Int)) F0 B_;rw[show((0:Int))=((0:Nat):Int)from rfl,h,OE,Bks,Bq (by rw[hlen];omega),Aa,Yb _ (by rw[hlen];omega),Aa,Bm0,Bjy,Ah];have e:(Ag (i:Int):UInt32).toNat=i:=by rw[Aer,H!,C! F0]
  rw[e,LY,oT (by simp[tbl])];have h2:=Aro s b j (i+1) q F0 F0;have h3:tbl (i+1)=tbl i++[UInt32.ofNat (FV 8 i)]:=by simp[tbl,WJ]
  rw[h3]at h2;rw[show((i:Int)+1)=((i+1:Nat):Int) by omega,<-h2];simp
theorem Bb4{i:Nat}(h:i<256):Ao (tbl 256) (i:Int)=some (UInt32.ofNat (FV 8 i)):=by
 rw[Bq (by simpa [tbl]using h)];simp[tbl]
theorem Azr(s:UInt32)(c:UInt8):Ao (tbl 256) (GI.toZ (DY (Ag s:UInt8) c))=some (UInt32.ofNat (FV 8 ((s.toNat %256)^^^c.toNat))):=by
 have e:GI.toZ (DY (Ag s:UInt8) c)=(((s.toNat %256)^^^c.toNat:Nat):Int):=by
  rw[KK,Ape,wA,I8,HT]
 rw[e,Bb4];exact M5 (n:=8) B5 (by simpa using c.toNat_lt)
theorem Atq(s:UInt32)(c:UInt8):DY (Cy s (GI.toZ (8:UInt64)).toNat) (UInt32.ofNat (FV 8 ((s.toNat %256)^^^c.toNat)))=UInt32.ofNat (yw s.toNat c.toNat):=by
 apply UInt32.toNat_inj.1;have hlt:FV 8 ((s.toNat %256)^^^c.toNat)<4294967296:=Y! 8 (M5 (n:=32) B5 (by have:=c.toNat_lt;simp;omega));have e:(GI.toZ (8:UInt64)).toNat=8:=rfl;rw[e,lQ,WS,VJ,H!,H!,C! hlt,C! (S! s.toNat_lt c.toNat_lt),Aje c.toNat_lt]
theorem Akm(b:LB)(hb:b.length<4611686018427387904):∀(j i q:Nat) (s:UInt32),i+j=b.length->j<q->Xm b (tbl 256) q s (i:Int)=some (UInt32.ofNat (VB s.toNat (b.drop i)),0)
 |0,i,q+1,s,hi,_=>by
  rw[Xm,PX,A_ F4,show i=b.length by omega,L?];simp[cT,Bk8,VB]
 |j+1,i,q+1,s,hi,hq=>by
  have hlt:i<b.length:=F0
  rw[Xm,PX,B2 F4,Bq hlt,Aa,Azr,Aa,Aa,Atq,Ah];have h:=Akm b hb j (i+1) q (UInt32.ofNat (yw s.toNat b[i].toNat)) F0 F0;rw[show((i:Int)+1)=((i+1:Nat):Int) by omega,h,drop_cons hlt,H!,C! (S! s.toNat_lt b[i].toNat_lt)];rfl
theorem Bbb(s:UInt32)(b:LB)(hb:b.length<=100000):rC s b=some (UInt32.ofNat (VB s.toNat b),0):=by
 have h:=Aro s b 256 0 Ax F0 B_;have h2:=Akm b F0 b.length 0 Ax s F0 B_;rw[rC,kA,A_ C3,Bk4];refine F? h ?_;rw[dM,cX,Bkf,dG,dP];exact h2
theorem Awt(a:UInt32):N5 a=4294967295-a:=by
 have h:=a.toNat_lt;have e:N5 a=UInt32.ofNat (BitVec.ofInt 32 4294967295^^^BitVec.ofInt 32 (a.toNat:Int)).toNat:=He _;apply UInt32.toNat_inj.1;rw[e,H!,vC _ _ (by rw[vE];show a.toNat<=4294967295;omega)];have h1:BitVec.ofInt 32 (a.toNat:Int)=a.toBitVec:=fN a;have h2:(BitVec.ofInt 32 4294967295:BitVec 32)=BitVec.allOnes 32:=F2
 rw[h1,h2,BitVec.allOnes_xor,lH];show(4294967296-1-a.toNat) %4294967296=4294967295-a.toNat;omega
theorem lu(b:LB)(hb:b.length<=100000):EN b=some (Ff b,0):=by
 rw[EN,Bbb _ _ hb,Aa];simp only[Aj,Awt];rfl
theorem X?{p:Prop}(h:p:=by simp[Aj,Ad,Ap];omega):p:=h
theorem XC{p:Prop}(h:p:=by simp[Aj,Ad];omega):p:=h
theorem Ao3:∀{l m:LB},l.length=m.length->Gw l=Gw m->l=m
 |[],[],_,_=>rfl
 |x::l,y::m,h,e=>by
  simp only[Gw]at e;have hx:=x.toNat_lt;have hy:=y.toNat_lt;have h1:x=y:=UInt8.toNat_inj.1 F0;rw[h1,Ao3 (l:=l) (m:=m) (by simpa using h) F0]
theorem IW:∀(w n:Nat),Gw (Uc n w)=n %256^w
 |0,n=>by simp[Uc,Gw,mR]
 |w+1,n=>by
  rw[Uc,Gw,IW w (n/256),HT,show(256:Nat)^(w+1)=256*256^w by rw[F_,D9],Nat.mod_mul]
def Yj(b:LB):Int:=
 if b.length<5 then 24 else if 41254<b.length then 4 else if(Ff (b.take (b.length-4))).toNat≠Gw (b.drop (b.length-4))then 22 else 0
theorem Akb(b:LB):OP b=some (if Yj b≠0 then([],Yj b)else(b.take (b.length-4),0)):=by
 rw[OP];by_cases h1:b.length<5
 ·have hS:Yj b=24:=by rw[Yj,B2 h1]
  rw[B2 F4,hS];rfl
 rw[A_ F4];by_cases h2:41254<b.length
 ·have hS:Yj b=4:=by rw[Yj,A_ h1,B2 h2]
  rw[B2 C3,hS];rfl
 have e4:Aq (Ac b) 4=((b.length-4:Nat):Int):=by rw[Ac,Cb];omega
 have hd:(b.drop (b.length-4)).length=4:=by simp;omega
 rw[A_ C3,e4,Cx,Aa,show((b.length-4:Nat):Int).toNat=b.length-4 from rfl,lu _ B5,Aa];simp only;rw[A_ C0,Bu,Aa,show((b.length-4:Nat):Int).toNat=b.length-4 from rfl,Ak0 _ F0 F0,Aa];have hne:Bd (C4 (b.drop (b.length-4))) (Ag (Ff (b.take (b.length-4))):UInt64)=decide ((Ff (b.take (b.length-4))).toNat≠Gw (b.drop (b.length-4))):=by
  have hlt:=(Ff (b.take (b.length-4))).toNat_lt;rw[aS,D0];simp only[LJ,ne_eq,<-RC,B7];rw[jJ F0,En,E_,C! F0];exact⟨λh e=>h e.symm,λh e=>h e.symm⟩
 simp only;rw[hne,Aa];by_cases h3:(Ff (b.take (b.length-4))).toNat≠Gw (b.drop (b.length-4))
 ·have hS:Yj b=22:=by rw[Yj,A_ h1,A_ h2,B2 h3]
  rw[B2 (by simp[h3]),hS];rfl
 ·have hS:Yj b=0:=by rw[Yj,A_ h1,A_ h2,A_ h3]
  rw[A_ (by rw[E5 h3];decide),hS];rfl
theorem At2(b:LB)(hb:b.length<=1000000):GG b=some (b++Uc (Ff b).toNat 4):=by
 have h:∀k:Nat,(Ag (Cy (Ff b) k):UInt8)=UInt8.ofNat ((Ff b).toNat/2^k):=by
  intro k;rw[I8,VJ]
 have h0:(Ag (Ff b):UInt8)=UInt8.ofNat (Ff b).toNat:=I8 _;have h1:=h 8;have h2:=h 16;have h3:=h 24;rw[GG,tC b F0,Aa,Bg B5,Aa,Bg B5,Aa,h0,show(GI.toZ (8:UInt64)).toNat=8 from rfl,show(GI.toZ (16:UInt64)).toNat=16 from rfl,show(GI.toZ (24:UInt64)).toNat=24 from rfl,h1,h2,h3];simp only[Uc,S?,D8]
theorem H2(b:LB):Wj b=some (Yj b):=by
 rw[Wj];by_cases h1:b.length<5
 ·rw[B2 F4,Yj,B2 h1]
 rw[A_ F4];by_cases h2:41254<b.length
 ·rw[B2 C3,Yj,A_ h1,B2 h2]
 have e4:Aq (Ac b) 4=((b.length-4:Nat):Int):=by rw[Ac,Cb];omega
 have hd:(b.drop (b.length-4)).length=4:=by simp;omega
 rw[A_ C3,e4,Cx,Aa,show((b.length-4:Nat):Int).toNat=b.length-4 from rfl,At2 _ B5,Aa];have hlt:=(Ff (b.take (b.length-4))).toNat_lt;have hiff:(b.take (b.length-4)++Uc (Ff (b.take (b.length-4))).toNat 4 !=b)=decide ((Ff (b.take (b.length-4))).toNat≠Gw (b.drop (b.length-4))):=by
  rw[D0];simp only[LJ,ne_eq,B7];constructor
  ·intro h e;apply h;have:Uc (Ff (b.take (b.length-4))).toNat 4=b.drop (b.length-4):=Ao3 (by rw[Cn,hd]) (by rw[IW,C! F0,e]);rw[this,JY]
  ·intro h e;apply h;have hx:Uc (Ff (b.take (b.length-4))).toNat 4=b.drop (b.length-4):=by
    have e2:b.take (b.length-4)++Uc (Ff (b.take (b.length-4))).toNat 4=b.take (b.length-4)++b.drop (b.length-4):=by rw[e,JY]
    exact List.append_cancel_left e2
   rw[<-hx,IW,C! F0]
 rw[hiff];by_cases h3:(Ff (b.take (b.length-4))).toNat≠Gw (b.drop (b.length-4))
 ·rw[B2 (by simp[h3]),Yj,A_ h1,A_ h2,B2 h3]
 ·rw[A_ (by rw[E5 h3];decide),Yj,A_ h1,A_ h2,A_ h3]
theorem Alk{b:LB}(h:Yj b=0):5<=b.length/\b.length<=41254:=by
 unfold Yj at h;split at h
 ·simp at h
 ·split at h
  ·simp at h
  ·omega
theorem X_{c:Nat}(h1:1<=c)(h6:c<=6):Ca (4000:Int) (c:Int)=((4000/c:Nat):Int):=by
 have:c=1\/c=2\/c=3\/c=4\/c=5\/c=6:=F0
 rcases this with rfl|rfl|rfl|rfl|rfl|rfl<;>rfl
theorem Bav(p:LB)(h:p.length<=41250):okB p (8*p.length):=⟨F0,F0,λk h1 h2=>by omega⟩
theorem LH{bits:Int}{ch n:Nat}{t:LX}(b:LB)(hb:Bn bits)(ht:t.length=16)(h1:1<=ch)(h6:ch<=6)(n1:1<=n)(n2:n<=4000/ch):
  ∃l e,Jn (ch:Int) bits t (n:Int) b=some (l,e)/\Dx (ch:Int) bits t (n:Int) b=some (l,e)/\ (e=0->Au bits l=some 0/\l.length<=4000/\l.length=n*ch)/\ (e≠0->l=[]):=by
 have hn:n*ch<=4000:=by
  have:=C? ch n2;have h2:=MJ 4000 ch;omega
 have hq4:=X_ h1 h6;generalize 4000/ch=mm at*
 have hck:Fl (ch:Int) bits=some 0:=by
  have hr:∃x y,Pb bits=some (x,y,0):=⟨_,_,ji hb⟩;obtain⟨x,y,hr⟩:=hr;rw[Fl,hr,Aa];simp only;rw[A_ X?]
 have hh:=NK bits;have XF:Eu (ch:Int) bits (n:Int)=some 0:=by
  rw[Eu,Cv,A_ EE,ZU hb,Aa,A_ E6,Aa,A_ XC,Br D2,Aa,hq4,A_ E7]
 rw[Jn,Dx,Qx,hck,XF,Aa,Aa,A_ C0,A_ C1,Br D2,Aa,hq4,A_ E7,A_ C0,Akb,H2];by_cases hs:Yj b≠0
 ·rw[B2 hs];simp only[Aa];rw[B2 (by rw[Aj];simpa using hs),B2 (by rw[Aj];simpa using hs)];exact⟨[],Yj b,rfl,rfl,λe=>absurd e hs,λ_=>rfl⟩
 have hs0:Yj b=0:=by simpa using hs
 have hlen:=Alk hs0;have e4:Aq (Ac b) 4=((b.length-4:Nat):Int):=by rw[Ac,Cb];omega
 rw[A_ hs,hs0];simp only[Aa];rw[A_ C0,A_ C0,e4,Cx,Aa,show((b.length-4:Nat):Int).toNat=b.length-4 from rfl];have hpl:(b.take (b.length-4)).length=b.length-4:=by simp
 generalize b.take (b.length-4)=p at*
 have e8:Bm (8:Int) (Ac p)=((8*p.length:Nat):Int):=by rw[Ac,Ex];omega
 have hp:=Bav p F0;have hv:=values_eq hp h1 h6 hn;have hr:=qp (N:=8*p.length) (p:=p) rfl F0 h1 h6 hn;have hat:=b_ (ch:=ch) (p:=p) (N:=8*p.length) (n*ch) 0 [] F0;rw[rS,A_ C3,Bz,Bg B5,Aa,Aa,Aa,D8,e8];simp only;rw[A_ C0,hv,hr,Aa,Aa];generalize Zy ch p (8*p.length) (n*ch) 0 []=V at*
 obtain⟨v,at',e⟩:=V;simp only at*
 by_cases he:e≠0
 ·rw[B2 he,B2 he];simp only;rw[B2 (by rw[Aj];simpa using he),Ir,Iz,B2 (by rw[Aj];simpa using he)];exact⟨[],e,rfl,rfl,λh=>absurd h he,λ_=>rfl⟩
 have he0:e=0:=by simpa using he
 have hvl:=hat.2.2 he0;simp only[WG,HM]at hvl;rw[A_ he,A_ he];simp only;rw[A_ C0,Cb,show((8*p.length:Nat):Int)-(at':Int)=((8*p.length-at':Nat):Int) by omega,Ir,Iz];by_cases h7:7<8*p.length-at'
 ·have hE:(if 7<8*p.length-at'\/Cp p at' (8*p.length-at')≠0 then(12:Int)else 0)=12:=B2 (.inl h7);rw[B2 ID,hE,B2 F2];exact⟨[],12,rfl,rfl,λh=>absurd h F2,λ_=>rfl⟩
 rw[A_ ID,sj hp at' _ F0,A_ F0,Aa];have hz:Bd (Tm p at' (8*p.length-at')) (0:UInt64)=decide (Cp p at' (8*p.length-at')≠0):=by
  rw[aS,D0];simp only[LJ,ne_eq,<-RC,B7];rw[DZ p _ _ F0];rfl
 simp only;rw[hz];by_cases hv0:Cp p at' (8*p.length-at')≠0
 ·have hE:(if 7<8*p.length-at'\/Cp p at' (8*p.length-at')≠0 then(12:Int)else 0)=12:=B2 (.inr hv0);rw[B2 (by simp[hv0]),hE,B2 F2];exact⟨[],12,rfl,rfl,λh=>absurd h F2,λ_=>rfl⟩
 have hm:v.length %ch=0:=by rw[hvl];exact LN n ch
 obtain⟨l,e,g1,g2,g3,g4,g5⟩:=Afd (v:=v) hb ht h1 h6 F0 hm;have hE:(if 7<8*p.length-at'\/Cp p at' (8*p.length-at')≠0 then(12:Int)else 0)=0:=A_ F0;rw[A_ (by rw[E5 hv0];decide),hE,A_ F2,g1,g3,Aa,Aa,g2];by_cases hl:e≠0
 ·rw[B2 hl];exact⟨[],e,rfl,rfl,λh=>absurd h hl,λ_=>rfl⟩
 ·rw[A_ hl];have hl0:e=0:=by simpa using hl
  exact⟨l,0,rfl,rfl,λ_=>⟨by rw[g4,hl0],F0,F0⟩,λe=>absurd rfl e⟩
theorem Av8(a b:Int32):a-(a-b)=b:=by
 apply Int32.toBitVec_inj.1;simp only[Int32.toBitVec_sub];apply WB;simp only[BitVec.toNat_sub];have:=a.toBitVec.isLt;have:=b.toBitVec.isLt;omega
theorem iM(a b:Int32):a-b+b=a:=by
 apply Int32.toBitVec_inj.1;simp only[Int32.toBitVec_sub,Int32.toBitVec_add];apply WB;simp only[BitVec.toNat_sub,BitVec.toNat_add];have:=a.toBitVec.isLt;have:=b.toBitVec.isLt;omega
def mxV(f:Nat->Int32)(ch i:Nat):Int32:=if i+1<ch then f (i+1)-f i else if 1<ch then f (ch-1)-Ca (f (ch-1)-f (ch-2)) (2:Int32)else f (ch-1)
theorem Axt{f g:Nat->Int32}{ch:Nat}(h1:1<=ch)(h:∀i,i<ch->f i=mxV g ch i):∀j,j<ch->unV f ch j=g (ch-1-j)
 |0,_=>by
  rw[unV];by_cases h2:1<ch
  ·rw[B2 h2,h (ch-1) F0,h (ch-2) F0,mxV,mxV,A_ F0,B2 h2,B2 F0,show ch-2+1=ch-1 by omega,iM,mA]
  ·rw[A_ h2,h (ch-1) F0,mxV,A_ F0,A_ h2,mA]
 |j+1,hj=>by
  rw[unV,Axt h1 h j F0,h (ch-2-j) F0,mxV,B2 F0,show ch-2-j+1=ch-1-j by omega,Av8];congr 1;omega
def mx(ch:Nat)(x:LX):LX:=(List.range x.length).map λk=>mxV (λi=>x.getD (k-k %ch+i) 0) ch (k %ch)
theorem cN(ch:Nat)(x:LX):(mx ch x).length=x.length:=by simp[mx]
theorem Awn{ch:Nat}{x:LX}{k:Nat}(h:k<x.length):(mx ch x).getD k 0=mxV (λi=>x.getD (k-k %ch+i) 0) ch (k %ch):=by
 rw[Lm (by rw[cN];exact h)];simp[mx]
theorem Bg2{ch:Nat}{x:LX}(h1:1<=ch)(hm:x.length %ch=0):h_ ch (mx ch x)=x:=by
 apply KN (by rw[qK,cN]);intro k hk1 hk2;have hr:=HW k (show 0<ch by omega);have hle:=M2 k ch;have ha:(k-k %ch) %ch=0:=Nat.mod_eq_zero_of_dvd (Nat.dvd_sub_mod k);have hb:=S2 ha hm F0;have e:=T0 (m:=mx ch x) ha hr (by rw[cN];omega);rw[show k-k %ch+k %ch=k by omega]at e;rw[<-Lm hk1,<-Lm hk2,e];rw[Axt (g:=λi=>x.getD (k-k %ch+i) 0) h1 (λi hi=>?_) (ch-1-k %ch) F0]
 ·congr 1;omega
 ·rw[Awn F0];have h2:(k-k %ch+i) %ch=i:=by rw[Nat.add_mod,ha,HM,X8,C! hi]
  rw[h2,show k-k %ch+i-i=k-k %ch by omega]
def xJ(x:Int32):UInt32:=UInt32.ofNat (if 0<=x.toInt then 2*x.toInt.toNat else 2*(-x.toInt-1).toNat+1)
theorem Axm(x:Int32):bY (xJ x)=x:=by
 have h:=GR x;have e:(xJ x).toNat=if 0<=x.toInt then 2*x.toInt.toNat else 2*(-x.toInt-1).toNat+1:=by
  rw[xJ,H!];split<;>exact C! F0
 rw[bY,e];by_cases h0:0<=x.toInt
 ·rw[B2 h0,B2 F0,show((2*x.toInt.toNat/2:Nat):Int)=x.toInt by omega,LA]
 ·rw[A_ h0,A_ F0,show -(((2*(-x.toInt-1).toNat+1)/2:Nat):Int)-1=x.toInt by omega,LA]
theorem z_{α:Type}(ch c:Nat)(f g:α->Nat->α)(a0:α):∀m:Nat,(∀i,i<m->∀a,f a i=g a i)->pre ch c f a0 m=pre ch c g a0 m
 |0,_=>rfl
 |m+1,h=>by
  rw[pre,pre,z_ ch c f g a0 m λi hi=>h i F0,h m F0]
theorem Aql(bits:Int)(ch:Nat)(t:LX)(v w:LU)(c i:Nat)(h:i<=v.length):cst bits ch t (v++w) c i=cst bits ch t v c i:=by
 unfold cst;apply z_;intro j hj a;have:(v++w).getD j 0=v.getD j 0:=by
  rw[List.getD_eq_getElem?_getD,List.getD_eq_getElem?_getD,List.getElem?_append_left F0]
 rw[this]
def H_(bits:Int)(s:CS)(x:Int32):Int32:=x-gs (shB bits) s.1-gF (sB bits) s.2.1 s.2.2
theorem Adf(bits:Int)(s:CS)(x:Int32):XI bits s (H_ bits s x)=x:=by
 rw[XI,H_,iM,iM]
def evl(bits:Int)(ch:Nat)(t m:LX):Nat->LU
 |0=>[]
 |i+1=>evl bits ch t m i++[xJ (H_ bits (cst bits ch t (evl bits ch t m i) (i %ch) i) (m.getD i 0))]
theorem zG(bits:Int)(ch:Nat)(t m:LX):∀i,(evl bits ch t m i).length=i
 |0=>rfl
 |i+1=>by rw[evl,B6,zG bits ch t m i];rfl
theorem qg(bits:Int)(ch:Nat)(t m:LX):∀(j i:Nat),∃w,evl bits ch t m (i+j)=evl bits ch t m i++w
 |0,i=>⟨[],B3⟩
 |j+1,i=>by
  obtain⟨w,hw⟩:=qg bits ch t m j i;rw[<-I5,evl,hw];exact⟨_,C6 _ _ _⟩
theorem Bau(bits:Int)(ch:Nat)(t m:LX):Q8 bits ch t (evl bits ch t m m.length)=m:=by
 have hl:=zG bits ch t m m.length;apply KN (by rw[qY,hl]);intro i h1 h2;rw[<-Lm h1,<-Lm h2,rR _ _ _ _ F0];obtain⟨w,hw⟩:=qg bits ch t m (m.length-(i+1)) (i+1);rw[show i+1+(m.length-(i+1))=m.length by omega,evl,C6]at hw;have hli:=zG bits ch t m i;rw[hw,Aql _ _ _ _ _ _ _ F0];have hg:(evl bits ch t m i++([xJ (H_ bits (cst bits ch t (evl bits ch t m i) (i %ch) i) (m.getD i 0))]++w)).getD i 0=xJ (H_ bits (cst bits ch t (evl bits ch t m i) (i %ch) i) (m.getD i 0)):=by
  rw[List.getD_eq_getElem?_getD,List.getElem?_append_right F0,hli,mG];rfl
 rw[hg,Axm,Adf]
theorem KO{p:Prop}(h:p:=by rw[B6];omega):p:=h
def tb(l:List Bool)(k:Nat):Nat:=if l.getD k false=true then 1 else 0
theorem Ao1(b:Bool)(l:List Bool):tb (b::l) 0=if b=true then 1 else 0:=rfl
theorem Ap0(b:Bool)(l:List Bool)(k:Nat):tb (b::l) (k+1)=tb l k:=by simp[tb]
theorem Ap9{a b:List Bool}{k:Nat}(h:k<a.length):tb (a++b) k=tb a k:=by
 rw[tb,tb,List.getD_eq_getElem?_getD,List.getD_eq_getElem?_getD,List.getElem?_append_left h]
theorem pH(a b:List Bool)(k:Nat):tb (a++b) (a.length+k)=tb b k:=by
 rw[tb,tb,List.getD_eq_getElem?_getD,List.getD_eq_getElem?_getD,List.getElem?_append_right F0,P']
theorem eT{l:List Bool}{k:Nat}(h:l.length<=k):tb l k=0:=by
 rw[tb,List.getD_eq_getElem?_getD,List.getElem?_eq_none h];rfl
def At(p:LB)(a:Nat)(c:List Bool):Prop:=∀i,i<c.length->Im p (a+i)=tb c i
theorem At.left{p:LB}{a:Nat}{c d:List Bool}(h:At p a (c++d)):At p a c:=λi hi=>by
 rw[h i KO,Ap9 hi]
theorem At.right{p:LB}{a:Nat}{c d:List Bool}(h:At p a (c++d)):At p (a+c.length) d:=λi hi=>by
 rw[I5,h (c.length+i) KO,pH]
theorem At.cons{p:LB}{a:Nat}{b:Bool}{c:List Bool}(h:At p a (b::c)):Im p a=(if b=true then 1 else 0)/\At p (a+1) c:=by
 have h0:=h 0 B3;rw[K4,Ao1]at h0;refine⟨h0,λi hi=>?_⟩;have:=h (i+1) B5;rw[Ap0]at this;rw[show a+1+i=a+(i+1) by omega,this]
def rT:Nat->Nat->List Bool
 |_,0=>[]
 |v,n+1=>decide (v %2=1)::rT (v/2) n
theorem Wx:∀(v n:Nat),(rT v n).length=n
 |_,0=>rfl
 |v,n+1=>by rw[rT,D_,Wx (v/2) n]
theorem TB(p:LB):∀(n a v:Nat),At p a (rT v n)->Cp p a n=v %2^n
 |0,a,v,_=>by rw[Cp,Nat.pow_zero,mR]
 |n+1,a,v,h=>by
  rw[rT]at h;obtain⟨h0,h1⟩:=h.cons;rw[Cp,h0,TB p n (a+1) (v/2) h1,F_,D9 (2^n) 2,Nat.mod_mul];have:=Nat.mod_two_eq_zero_or_one v;rcases this with e|e<;>simp[e]
theorem k!(p:LB):∀(q m a:Nat) (c:List Bool),At p a (List.replicate q true++c)->q<=m->Hx p a m=q+Hx p (a+q) (m-q)
 |0,m,a,c,h,hm=>by simp
 |q+1,m,a,c,h,hm=>by
  rw[LY,M!]at h;obtain⟨h0,h1⟩:=h.cons;obtain⟨m,rfl⟩:∃k,m=k+1:=⟨m-1,F0⟩;rw[Hx,B2 (by rw[h0];rfl),k! p q m (a+1) c h1 F0,show a+1+q=a+(q+1) by omega,show m+1-(q+1)=m-q by omega];omega
theorem Bay{p:LB}{a m:Nat}(h:Im p a=0):Hx p a m=0:=by
 cases m with
 |zero=>rfl
 |succ m=>rw[Hx,A_ F0]
def cU(l v:Nat):List Bool:=if 48<=v/2^l then List.replicate 48 true++rT v 32 else List.replicate (v/2^l) true++(false::rT (v %2^l) l)
theorem At5{l v:Nat}(hl:l<=24):1<= (cU l v).length/\ (cU l v).length<=80:=by
 rw[cU];generalize v/2^l=q;split
 ·rw[B6,J?,Wx];omega
 ·rw[B6,J?,D_,Wx];omega
theorem Ar2{p:LB}{N a l v:Nat}(hl:l<=24)(hv:v<2^32)(h:At p a (cU l v))(hN:a+(cU l v).length<=N):bU p N a l=(UInt32.ofNat v,((a+(cU l v).length:Nat):Int),0):=by
 rw[cU]at h hN⊢;by_cases h48:48<=v/2^l
 ·rw[B2 h48]at h hN⊢;rw[B6,J?,Wx]at hN⊢;have hm:min 48 (N-a)=48:=F0
  have ho:=k! p 48 48 a (rT v 32) h (C9 _);rw[mG,Hx,K4]at ho;have hr:=h.right;rw[J?]at hr;have hval:=TB p 32 (a+48) v hr;rw[C! hv]at hval;rw[bU,A_ F0,hm,ho,A_ F0,B2 rfl,A_ F0,hval,A_ F0]
 ·rw[A_ h48]at h hN⊢;rw[B6,J?,D_,Wx]at hN⊢;generalize hq:v/2^l=q at*
  have hr:=h.right;rw[J?]at hr;obtain⟨h0,h1⟩:=hr.cons;have hm:q<min 48 (N-a):=F0
  have ho:=k! p q (min 48 (N-a)) a _ h F0;rw[Bay (a:=a+q) (m:=min 48 (N-a)-q) (by rw[h0];rfl),K4]at ho;have hval:=TB p l (a+q+1) (v %2^l) h1;rw[X8]at hval;have hdm:=MK v (2^l);rw[hq,D9]at hdm;rw[bU,A_ F0,ho,B2 hm,A_ F0,hval,hdm,show a+q+1+l=a+(q+(l+1)) by omega]
def Wa(k l:Nat)(v:UInt32):List Bool:=if v.toNat<2^k then false::rT v.toNat k else true::cU l (v.toNat-2^k)
theorem lL{k l:Nat}(v:UInt32)(hk:k<=24)(hl:l<=24):1<= (Wa k l v).length/\ (Wa k l v).length<=81:=by
 have:=At5 (v:=v.toNat-2^k) hl;rw[Wa];split
 ·rw[D_,Wx];omega
 ·rw[D_];omega
theorem Aud{p:LB}{N a k l:Nat}{v:UInt32}(hk:k<=24)(hl:l<=24)(h:At p a (Wa k l v))(hN:a+(Wa k l v).length<=N):kZ p N a k l=(v,((a+(Wa k l v).length:Nat):Int),0):=by
 have Bn7:=v.toNat_lt;have hof:UInt32.ofNat v.toNat=v:=by simp
 rw[Wa]at h hN⊢;by_cases hs:v.toNat<2^k
 ·rw[B2 hs]at h hN⊢;rw[D_,Wx]at hN⊢;obtain⟨h0,h1⟩:=h.cons;have hval:=TB p k (a+1) v.toNat h1;rw[C! hs]at hval;rw[kZ,A_ F0,B2 (by rw[h0];rfl),A_ F0,hval,hof,show a+1+k=a+(k+1) by omega]
 ·rw[A_ hs]at h hN⊢;rw[D_]at hN⊢;obtain⟨h0,h1⟩:=h.cons;have hsub:=Nat.sub_le v.toNat (2^k);have hr:=Ar2 hl (by omega:v.toNat-2^k<2^32) h1 (by omega:a+1+_<=N);have ht:(UInt32.ofNat (v.toNat-2^k)).toNat=v.toNat-2^k:=by rw[H!];exact C! F0
  rw[kZ,A_ F0,A_ (by rw[h0];decide),hr];simp only;rw[A_ F2,ht,A_ F0,show v.toNat-2^k+2^k=v.toNat by omega,hof,show a+1+(cU l (v.toNat-2^k)).length=a+((cU l (v.toNat-2^k)).length+1) by omega]
def bv:List Bool->Nat
 |[]=>0
 |b::r=>(if b=true then 1 else 0)+2*bv r
theorem Bew:∀l:List Bool,bv l<2^l.length
 |[]=>by decide
 |b::r=>by
  have:=Bew r;rw[bv,D_,F_];split<;>omega
theorem Axx:∀(l:List Bool) (k:Nat),bv l/2^k %2=tb l k
 |[],k=>by simp[bv,tb]
 |b::r,0=>by
  rw[bv,Ao1,Nat.pow_zero,Nat.div_one];split<;>omega
 |b::r,k+1=>by
  have:((if b=true then 1 else 0)+2*bv r)/2=bv r:=by split<;>omega
  rw[bv,Ap0,F_,D9 (2^k) 2,<-S?,this,Axx r k]
def Oa(c:List Bool):LB:=(List.range ((c.length+7)/8)).map λj=>UInt8.ofNat (bv ((c.drop (8*j)).take 8))
theorem AD(c:List Bool):(Oa c).length=(c.length+7)/8:=by simp[Oa]
theorem KZ(c:List Bool)(i:Nat):Im (Oa c) i=tb c i:=by
 rw[Im];by_cases h:i/8<(c.length+7)/8
 ·have hg:(Oa c).getD (i/8) 0=UInt8.ofNat (bv ((c.drop (8*(i/8))).take 8)):=by
   rw[List.getD_eq_getElem?_getD,List.getElem?_eq_getElem (by rw[AD];exact h)];simp[Oa]
  have hlt:=Bew ((c.drop (8*(i/8))).take 8);have hl8:((c.drop (8*(i/8))).take 8).length<=8:=by rw[C8];omega
  have hp:=E1 (show 0<2 by omega) hl8;have hn:(UInt8.ofNat (bv ((c.drop (8*(i/8))).take 8))).toNat=bv ((c.drop (8*(i/8))).take 8):=by
   rw[HT];exact C! F0
  rw[hg,hn,Axx,tb,tb];have:((c.drop (8*(i/8))).take 8).getD (i %8) false=c.getD i false:=by
   rw[List.getD_eq_getElem?_getD,List.getD_eq_getElem?_getD,List.getElem?_take,B2 F0,List.getElem?_drop,show 8*(i/8)+i %8=i by omega]
  rw[this]
 ·have hg:(Oa c).getD (i/8) 0=0:=by
   rw[List.getD_eq_getElem?_getD,List.getElem?_eq_none (by rw[AD];omega)];rfl
  rw[hg,eT F0];simp
def Vp(ch:Nat)(V:LU):Nat->List Bool
 |0=>[]
 |i+1=>Vp ch V i++Wa (now ch (V.take i)).1 (now ch (V.take i)).2.1 (V.getD i 0)
theorem cJ(ch:Nat)(v:LU):(now ch v).1<=24/\ (now ch v).2.1<=24:=by
 have:=wL ch v (v.length %ch) v.length;exact⟨this.1,this.2.1⟩
theorem Ajm(ch:Nat)(V:LU):∀(j i:Nat),∃w,Vp ch V (i+j)=Vp ch V i++w
 |0,i=>⟨[],B3⟩
 |j+1,i=>by
  obtain⟨w,hw⟩:=Ajm ch V j i;rw[<-I5,Vp,hw];exact⟨_,C6 _ _ _⟩
theorem lR(ch:Nat)(V:LU):∀i,(Vp ch V i).length<=81*i
 |0=>by simp[Vp]
 |i+1=>by
  have h:=cJ ch (V.take i);have:=lL (V.getD i 0) h.1 h.2;rw[Vp,B6];have:=lR ch V i;omega
theorem Aeo(ch:Nat)(V:LU)(N:Nat)(hN:(Vp ch V V.length).length<=N):∀(j i:Nat),i+j=V.length->Zy ch (Oa (Vp ch V V.length)) N j (Vp ch V i).length (V.take i)=(V,(Vp ch V V.length).length,0)
 |0,i,h=>by
  obtain rfl:i=V.length:=F0
  rw[Zy,FX]
 |j+1,i,h=>by
  obtain⟨w,hw⟩:=Ajm ch V j (i+1);rw[show i+1+j=V.length by omega]at hw;have hk:=cJ ch (V.take i);have hcl:=lL (V.getD i 0) hk.1 hk.2;have hAt:At (Oa (Vp ch V V.length)) (Vp ch V i).length (Wa (now ch (V.take i)).1 (now ch (V.take i)).2.1 (V.getD i 0)):=by
   intro m hm;rw[KZ,hw,Vp,C6,pH,Ap9 hm]
  have hlen:(Vp ch V i).length+(Wa (now ch (V.take i)).1 (now ch (V.take i)).2.1 (V.getD i 0)).length<= (Vp ch V V.length).length:=by
   rw[hw,Vp,B6,B6];omega
  have ih:=Aeo ch V N hN j (i+1) F0;rw[Vp,B6]at ih;generalize Oa (Vp ch V V.length)=p at*
  generalize(Vp ch V i).length=a at*
  have hw2:(Wa (now ch (V.take i)).1 (now ch (V.take i)).2.1 (V.getD i 0)).length<=Y6 N a:=by unfold Y6;omega
  have hAt2:At (Ul p a (Y6 N a)) 0 (Wa (now ch (V.take i)).1 (now ch (V.take i)).2.1 (V.getD i 0)):=by
   intro m hm;rw[HM,N0,B2 F0,hAt m hm]
  have hb:=Aud hk.1 hk.2 hAt2 (by omega:0+_<=Y6 N a);have hcode:Pm ch p N a (V.take i)=(V.getD i 0,((0+(Wa (now ch (V.take i)).1 (now ch (V.take i)).2.1 (V.getD i 0)).length:Nat):Int),0):=hb;rw[Zy,hcode];simp only;rw[A_ F2,HM,C2];have ht:V.take i++[V.getD i 0]=V.take (i+1):=by
   have hg:V.getD i 0=V[i]:=by rw[List.getD_eq_getElem?_getD,List.getElem?_eq_getElem F0];rfl
   rw[hg,Iq F0]
  rw[ht];exact ih
theorem w_{p:Prop}(h:p:=by rw[Ap,B7];omega):p:=h
def P64:Nat:=4823603603198064275
def YX(s:Nat):Nat:=(2*s %18446744073709551616)^^^ (s/9223372036854775808*P64)
theorem oC{s:Nat}(h:s<18446744073709551616):YX s<18446744073709551616:=by
 have h1:s/9223372036854775808=0\/s/9223372036854775808=1:=F0
 exact M5 (n:=64) (HW _ F2) (by rcases h1 with e|e<;>rw[e]<;>decide)
theorem Arr(x y:Nat):(x^^^y)/9223372036854775808=(x/9223372036854775808)^^^ (y/9223372036854775808):=by
 have:=Bou (a:=x) (b:=y) (i:=63);simpa [Bo1]using this
theorem Aqg(x y:Nat):2*(x^^^y) %18446744073709551616=(2*x %18446744073709551616)^^^ (2*y %18446744073709551616):=by
 have h1:=Bo2 (a:=x) (b:=y) (i:=1);have h2:=Nat.xor_mod_two_pow (a:=2*x) (b:=2*y) (n:=64);have e:2*(x^^^y)=(2*x)^^^ (2*y):=by simpa [Nat.shiftLeft_eq,D9]using h1
 rw[e];exact h2
theorem Bcb{a b:Nat}(ha:a=0\/a=1)(hb:b=0\/b=1)(p:Nat):(a^^^b)*p=(a*p)^^^ (b*p):=by
 rcases ha with rfl|rfl<;>rcases hb with rfl|rfl<;>simp
theorem Bkw(a b c d:Nat):(a^^^b)^^^ (c^^^d)=(a^^^c)^^^ (b^^^d):=by
 rw[LR,LR,<-LR b c d,SI b c,LR c b d]
theorem Anh{x y:Nat}(hx:x<18446744073709551616)(hy:y<18446744073709551616):YX (x^^^y)=YX x^^^YX y:=by
 rw[YX,YX,YX,Aqg,Arr,Bcb F0 F0,Bkw]
def Ts:Nat->Nat->Nat
 |0,s=>s
 |k+1,s=>Ts k (YX s)
theorem Z9:∀(k:Nat) {s:Nat},s<18446744073709551616->Ts k s<18446744073709551616
 |0,_,h=>h
 |k+1,_,h=>Z9 k (oC h)
theorem Asm :∀(k:Nat) {x y:Nat},x<18446744073709551616->y<18446744073709551616->Ts k (x^^^y)=Ts k x^^^Ts k y
 |0,_,_,_,_=>rfl
 |k+1,x,y,hx,hy=>by rw[Ts,Anh hx hy,Asm k (oC hx) (oC hy)];rfl
theorem Aa7:∀(k h:Nat),2^k*h<18446744073709551616->Ts k h=2^k*h
 |0,h,_=>by simp[Ts]
 |k+1,h,hl=>by
  have hpos:0<2^k:=KQ F0;rw[F_,I6]at hl;have h2:2*h<18446744073709551616:=P3 (Nat.le_mul_of_pos_left _ hpos) hl;have:YX h=2*h:=by rw[YX,C! h2,show h/9223372036854775808=0 by omega];simp
  rw[Ts,this,Aa7 k _ hl,F_,I6]
def xK(s c:Nat):Nat:=Ts 8 (s^^^ (c*72057594037927936))
theorem c56{c:Nat}(hc:c<256):c*72057594037927936<18446744073709551616:=F0
theorem oh{s c:Nat}(h:s<18446744073709551616)(hc:c<256):xK s c<18446744073709551616:=Z9 8 (M5 (n:=64) h (c56 hc))
theorem Bbz(s:Nat):s=(s/72057594037927936*72057594037927936)^^^ (s %72057594037927936):=by
 have h1:s %72057594037927936<2^56:=HW _ F2;have:=QC h1 (s/72057594037927936);have h2:2^56*(s/72057594037927936)|||s %72057594037927936=(2^56*(s/72057594037927936))^^^ (s %72057594037927936):=by
  apply vM;intro i;rw[Nat.testBit_or,Nat.testBit_xor];by_cases hi:i<56
  ·have:(2^56*(s/72057594037927936)).testBit i=false:=by rw[Bo8];simp;omega
   rw[this];simp
  ·have:(s %72057594037927936).testBit i=false:=Nat.testBit_lt_two_pow (G4 h1 (E1 F0 F0));rw[this];simp
 rw[D9 (s/72057594037927936)]
 show s=(2^56*(s/72057594037927936))^^^ _;rw[<-h2,<-this];have:=MK s 72057594037927936
 show s=72057594037927936*_+_;omega
theorem Asn(a c:Nat):(a^^^c)*72057594037927936=(a*72057594037927936)^^^ (c*72057594037927936):=by
 have h1:=Bo2 (a:=a) (b:=c) (i:=56);simpa [Nat.shiftLeft_eq]using h1
theorem Afs{s c:Nat}(h:s<18446744073709551616)(hc:c<256):xK s c=(256*s %18446744073709551616)^^^Ts 8 (((s/72057594037927936)^^^c)*72057594037927936):=by
 have hs:s/72057594037927936<2^8:=by show _<256;omega
 have hx:(s/72057594037927936)^^^c<256:=M5 (n:=8) hs (by simpa using hc);have hl:s %72057594037927936<72057594037927936:=HW _ F2;rw[xK]
 conv=>lhs;rw[Bbz s]
 rw[SI (s/72057594037927936*72057594037927936),LR,<-Asn,Asm 8 F0 (c56 hx),Aa7 8 _ (by show 256*_<_;omega)];congr 1
 show 256*(s %72057594037927936)=_;omega
def D? (s:Nat)(l:LB):Nat:=l.foldl (λs c=>xK s c.toNat) s
theorem OD{n:Nat}(h:n<18446744073709551616):(UInt64.ofNat n).toNat=n:=by rw[E_];exact C! h
theorem Be7(s:UInt64)(bit:Nat)(hb:bit=0\/bit=1):PR s (bit:Int)=some (UInt64.ofNat ((2*s.toNat %18446744073709551616)^^^ (((s.toNat/9223372036854775808)^^^bit)*P64))):=by
 have hs:=s.toNat_lt;have ht:s.toNat/9223372036854775808=0\/s.toNat/9223372036854775808=1:=F0
 have e1:(Bm s (2:UInt64)).toNat=2*s.toNat %18446744073709551616:=by
  rw[WN,UInt64.toNat_mul];show s.toNat*2 %_=_;rw[D9]
 have hlt:2*s.toNat %18446744073709551616<18446744073709551616:=HW _ F2;have ey:DY (Bm s (2:UInt64)) (4823603603198064275:UInt64)=UInt64.ofNat ((2*s.toNat %18446744073709551616)^^^P64):=by
  apply UInt64.toNat_inj.1;rw[N!,lF,e1,OD (M5 (n:=64) hlt F2)];rfl
 have en:Bm s (2:UInt64)=UInt64.ofNat (2*s.toNat %18446744073709551616):=by
  apply UInt64.toNat_inj.1;rw[e1,OD hlt]
 have eg:Le s (9223372036854775808:UInt64)=decide (s.toNat/9223372036854775808=1):=by
  rw[Bat,decide_eq_decide]
  show 9223372036854775808<=s.toNat↔_;omega
 have hp:∀b:Bool,CM s b=some (if b=true then UInt64.ofNat ((2*s.toNat %18446744073709551616)^^^P64)else UInt64.ofNat (2*s.toNat %18446744073709551616)):=by
  intro b;rw[CM,Amy,ey,en];cases b<;>rfl
 rw[PR,Alu,hp,hp,eg];rcases hb with rfl|rfl<;>rcases ht with h|h<;>rw[h]<;>simp[As]
theorem Aak(c:UInt8):∀(j q:Nat) (s:UInt64),j<=8->j<q->Om c q s ((2^j/2:Nat):Int)=some (UInt64.ofNat (Ts j (s.toNat^^^ (c.toNat %2^j*2^(64-j)))))
 |0,q+1,s,_,_=>by
  rw[Om,ED,A_ O7,Ahr,An4];simp[Ts,mR]
 |j+1,q+1,s,hj,hq=>by
  have hc:=c.toNat_lt;have hs:=s.toNat_lt;have hj2:2^j<=2^7:=E1 F0 F0;have hpos:0<2^j:=KQ F0;have e1:2^(j+1)/2=2^j:=by rw[F_];omega
  have e2:Ca ((2^j:Nat):Int) 2=((2^j/2:Nat):Int):=by
   generalize 2^j=K at*
   rw[YG,R8 F0,Dt F0 F0];omega
  have e3:Ge (Ca (Ag c:Int) ((2^j:Nat):Int)) (2:Int)=((c.toNat/2^j %2:Nat):Int):=by
   have hX:=FU c.toNat (2^j);rw[bJ,YG,<-lC];generalize c.toNat/2^j=X at*
   rw[Dt F0 F0,Ge,S8 F0];omega
  have hbit:c.toNat/2^j %2=0\/c.toNat/2^j %2=1:=F0
  rw[Om,ED,e1,B2 w_,Br (by rw[Aj,LJ];omega),Aa,e3,Be7 s _ hbit,Aa,e2,Aak c j q _ F0 F0];congr 2;rw[Ts];congr 1;have hx:c.toNat %2^(j+1)*2^(64-(j+1))=(c.toNat/2^j %2)*9223372036854775808+c.toNat %2^j*2^(63-j):=by
   have h63:(9223372036854775808:Nat)=2^j*2^(63-j):=by rw[<-PG,show j+(63-j)=63 by omega]
   rw[Nat.mod_pow_succ,h63,show 64-(j+1)=63-j by omega,C7,M_,I6,Nat.mul_left_comm]
  have hr:c.toNat %2^j<2^j:=HW _ hpos;have Bn9:c.toNat %2^j*2^(63-j)<9223372036854775808:=by
   have h63:(9223372036854775808:Nat)=2^j*2^(63-j):=by rw[<-PG,show j+(63-j)=63 by omega]
   rw[h63];exact um hr (KQ F0)
  have h64:c.toNat %2^j*2^(64-j)=2*(c.toNat %2^j*2^(63-j)):=by
   rw[show 64-j=(63-j)+1 by omega,F_,<-I6,D9]
  rw[hx,h64];generalize c.toNat %2^j*2^(63-j)=R at*
  generalize c.toNat/2^j %2=b at*
  have ht:s.toNat/9223372036854775808=0\/s.toNat/9223372036854775808=1:=F0
  have hp:((s.toNat/9223372036854775808^^^b)*P64)<18446744073709551616:=by
   rcases ht with h|h<;>rcases hbit with h2|h2<;>rw[h,h2]<;>decide
  rw[OD (M5 (n:=64) (HW _ F2) hp),YX,Aqg,Arr,show(b*9223372036854775808+R)/9223372036854775808=b by omega,show 2*(b*9223372036854775808+R) %18446744073709551616=2*R by omega,LR,LR,SI (2*R)]
theorem Bfi(c:UInt8)(s:UInt64):Avx s c=some (UInt64.ofNat (xK s.toNat c.toNat)):=by
 have h:=Aak c 8 Ax s (C9 _) B_;have hc:=c.toNat_lt;rw[C! (show c.toNat<2^8 by simpa using hc)]at h;exact h
theorem Aap(b:LB)(hb:b.length<4611686018427387904):∀(j i q:Nat) (s:UInt64),i+j=b.length->j<q->Ly b q s (i:Int)=some (UInt64.ofNat (D? s.toNat (b.drop i)))
 |0,i,q+1,s,hi,_=>by
  rw[Ly,Zd,A_ F4,show i=b.length by omega,L?];simp[Ae7,Af2,D?]
 |j+1,i,q+1,s,hi,hq=>by
  have hlt:i<b.length:=F0
  have hc:=b[i].toNat_lt;rw[Ly,Zd,B2 F4,Bq hlt,Aa,Bfi,Aa,Ah];have h:=Aap b hb j (i+1) q (UInt64.ofNat (xK s.toNat b[i].toNat)) F0 F0;rw[show((i:Int)+1)=((i+1:Nat):Int) by omega,h,drop_cons hlt,OD (oh s.toNat_lt (by simpa using hc))];rfl
def Vy(b:LB):UInt64:=UInt64.ofNat (D? 0 b)
theorem Akl(b:LB)(hb:b.length<=100000):GD 0 b=some (Vy b):=
 Aap b F0 b.length 0 Ax 0 F0 B_
theorem Ank(c:UInt64):DY (Eh c (GI.toZ (1:UInt64)).toNat) (Bm (4823603603198064275:UInt64) (Cy c (GI.toZ (63:UInt64)).toNat))=UInt64.ofNat (YX c.toNat):=by
 have hc:=c.toNat_lt;apply UInt64.toNat_inj.1;have h1:(Eh c (GI.toZ (1:UInt64)).toNat).toNat=2*c.toNat %18446744073709551616:=by
  rw[show(GI.toZ (1:UInt64)).toNat=1 from rfl,fQ,D9]
 have h2:(Bm (4823603603198064275:UInt64) (Cy c (GI.toZ (63:UInt64)).toNat)).toNat=c.toNat/9223372036854775808*P64:=by
  rw[show(GI.toZ (63:UInt64)).toNat=63 from rfl,WN,UInt64.toNat_mul,HZ]
  show 4823603603198064275*(c.toNat/9223372036854775808) %18446744073709551616=_;have h1:c.toNat/9223372036854775808=0\/c.toNat/9223372036854775808=1:=F0
  rcases h1 with e|e<;>rw[e]<;>decide
 rw[N!,lF,h1,h2,OD (oC hc)];rfl
theorem Blt(Jw:Int->LQ->Option (UInt64×Int))(s:UInt64)(b:LB)(x:Int)(t:LQ):∀(j i q:Nat) (c:UInt64),i+j=8->j<q->
  Xw Jw s b x t q c (i:Int)=NQ Jw s b x (UInt64.ofNat (Ts j c.toNat)) t
 |0,i,q+1,c,hi,_=>by
  obtain rfl:i=8:=F0
  rw[Xw,MU,A_ J9,Ts,UInt64.ofNat_toNat]
 |j+1,i,q+1,c,hi,hq=>by
  rw[Xw,MU,B2 C1,Ank,Ah,show((i:Int)+1)=((i+1:Nat):Int) by omega,Blt Jw s b x t j (i+1) q _ F0 F0,OD (oC c.toNat_lt)];rfl
def jG(n:Nat):LQ:=(List.range n).map λi=>UInt64.ofNat (Ts 8 (i*72057594037927936))
theorem Acb (s:UInt64)(b:LB):∀(j i q:Nat),i+j=256->j<q->So s b q (i:Int) (jG i++List.replicate j 0)=dV s b (jG 256)
 |0,i,q+1,hi,_=>by
  obtain rfl:i=256:=F0
  rw[So,OJ,A_ J9];simp
 |j+1,i,q+1,hi,hq=>by
  have hlen:(jG i++List.replicate (j+1) 0).length=i+(j+1):=by simp[jG]
  rw[So,OJ,B2 C1,fJ];have h:=Blt (So s b q) s b (i:Int) (jG i++List.replicate (j+1) 0) 8 0 Ax (Eh (Ag (i:Int):UInt64) (GI.toZ (56:UInt64)).toNat) F0 B_;rw[show((0:Int))=((0:Nat):Int)from rfl,h,NQ,Bk1,Bq (by rw[hlen];omega),Aa,Yb _ (by rw[hlen];omega),Aa,Bk7,Bik,Ah];have e:(Eh (Ag (i:Int):UInt64) (GI.toZ (56:UInt64)).toNat).toNat=i*72057594037927936:=by
   rw[fQ,AQ,OD F0]
   show i*72057594037927936 %18446744073709551616=_;omega
  rw[e,LY,oT (by simp[jG])];have h2:=Acb s b j (i+1) q F0 F0;have h3:jG (i+1)=jG i++[UInt64.ofNat (Ts 8 (i*72057594037927936))]:=by simp[jG,WJ]
  rw[h3]at h2;rw[show((i:Int)+1)=((i+1:Nat):Int) by omega,<-h2];simp
theorem At3{i:Nat}(h:i<256):Ao (jG 256) (i:Int)=some (UInt64.ofNat (Ts 8 (i*72057594037927936))):=by
 rw[Bq (by simpa [jG]using h)];simp[jG]
theorem Al2(s:UInt64)(c:UInt8):Ao (jG 256) (GI.toZ (DY (Ag (Cy s (GI.toZ (56:UInt64)).toNat):UInt8) c))=some (UInt64.ofNat (Ts 8 (((s.toNat/72057594037927936)^^^c.toNat)*72057594037927936))):=by
 have hs:=s.toNat_lt;have e:GI.toZ (DY (Ag (Cy s (GI.toZ (56:UInt64)).toNat):UInt8) c)=(((s.toNat/72057594037927936)^^^c.toNat:Nat):Int):=by
  have e2:((Ag (Cy s (GI.toZ (56:UInt64)).toNat):UInt8)).toNat=s.toNat/72057594037927936:=by
   rw[eX,HT,HZ]
   show s.toNat/72057594037927936 %256=_;omega
  rw[KK,Ape,wA,e2]
 rw[e,At3];exact M5 (n:=8) (by show _<256;omega) (by simpa using c.toNat_lt)
theorem Afu(s:UInt64)(c:UInt8):DY (Eh s (GI.toZ (8:UInt64)).toNat) (UInt64.ofNat (Ts 8 (((s.toNat/72057594037927936)^^^c.toNat)*72057594037927936)))=UInt64.ofNat (xK s.toNat c.toNat):=by
 have hs:=s.toNat_lt;have hc:c.toNat<256:=by simpa using c.toNat_lt
 apply UInt64.toNat_inj.1;have hlt:Ts 8 (((s.toNat/72057594037927936)^^^c.toNat)*72057594037927936)<18446744073709551616:=Z9 8 (c56 (M5 (n:=8) (by show _<256;omega) (by simpa using c.toNat_lt)));have e:(GI.toZ (8:UInt64)).toNat=8:=rfl;rw[e,N!,lF,fQ,OD hlt,OD (oh hs hc),Afs hs hc,D9 s.toNat]
theorem Bm6(b:LB)(s0:UInt64)(hb:b.length<4611686018427387904):∀(j i q:Nat) (s:UInt64),i+j=b.length->j<q->Xk b s0 (jG 256) q s (i:Int)=some (UInt64.ofNat (D? s.toNat (b.drop i)),0)
 |0,i,q+1,s,hi,_=>by
  rw[Xk,OH,A_ F4,show i=b.length by omega,L?];simp[eD,Bim,Bku,Bkt,D?]
 |j+1,i,q+1,s,hi,hq=>by
  have hlt:i<b.length:=F0
  have hc:=b[i].toNat_lt;rw[Xk,OH,B2 F4,Bq hlt,Aa,Al2,Aa,Aa,Afu,Ah];have h:=Bm6 b s0 hb j (i+1) q (UInt64.ofNat (xK s.toNat b[i].toNat)) F0 F0;rw[show((i:Int)+1)=((i+1:Nat):Int) by omega,h,drop_cons hlt,OD (oh s.toNat_lt (by simpa using hc))];rfl
theorem Akv(b:LB)(hb:b.length<=100000):mN b=some (Vy b,0):=by
 have h:=Acb 0 b 256 0 Ax F0 B_;have h2:=Bm6 b 0 F0 b.length 0 Ax 0 F0 B_;have hn:qT 0 b=some (Vy b,0):=by
  rw[qT,kM,A_ C3,Bko];refine F? h ?_;rw[dV,cC,cR];exact h2
 rw[mN,hn,Aa]
theorem mE(p:LB)(hp:p.length<=64):FF p=some (Uc (Vy p).toNat 8,0):=by
 rw[FF,nu,A_ C3,Akv p F0,Aa,Aa];simp only;have h:=eU (Vy p) 8 F0 F0 (by simpa using(Vy p).toNat_lt);rw[A_ C0];exact congrArg (λo=>Option.bind o λx:LB×Int=>some (x.1,x.2)) h
theorem lD(p:LB)(hp:p.length<=64):Ou p=some (Uc (Vy p).toNat 8):=by
 have h:=Bm9 (Vy p) 8 F0;rw[Ou,Ayi,Akl p F0,Aa,Aa];exact congrArg (λo=>Option.bind o λl=>some l) h
def s8(n:Nat):Int32:=Int32.ofInt (if n<128 then(n:Int)else(n:Int)-256)
def iF(d:UInt64)(n:Nat):LX:=(List.range n).map λi=>s8 (d.toNat/256^i %256)
theorem mZ(d:UInt64)(n:Nat):(iF d n).length=n:=by simp[iF]
theorem yD(d:UInt64)(n:Nat):iF d (n+1)=iF d n++[s8 (d.toNat/256^n %256)]:=by simp[iF,WJ]
theorem bm8(z:Nat):(z:Int).bmod Int8.size=if z %256<128 then((z %256:Nat):Int)else((z %256:Nat):Int)-256:=by
 rw[show Int8.size=256 from rfl,aN];split<;>split<;>omega
theorem Aqi(d:UInt64):∀(j i q:Nat),i+j=8->j<q->TW d q (i:Int) (iF d i++List.replicate (16-i) 0)=some (iF d 8++List.replicate 8 0)
 |0,i,q+1,hi,_=>by
  obtain rfl:i=8:=F0
  rw[TW,rL,A_ J9];rfl
 |j+1,i,q+1,hi,hq=>by
  have hlen:(iF d i++List.replicate (16-i) 0).length=16:=by simp[mZ];omega
  have ih:=Aqi d j (i+1) q F0 F0;have e8:Bm (8:Int) (i:Int)=((8*i:Nat):Int):=by rw[Ex];omega
  have ev:(Ag (Ag (Cy d (GI.toZ (((8*i:Nat):Int))).toNat):Int8):Int32)=s8 (d.toNat/256^i %256):=by
   have e1:(Cy d (GI.toZ (((8*i:Nat):Int))).toNat).toNat=d.toNat/256^i:=by
    rw[show(GI.toZ (((8*i:Nat):Int))).toNat=8*i from rfl,HZ,mU]
   show Int32.ofInt (Int8.ofInt ((Cy d (GI.toZ (((8*i:Nat):Int))).toNat).toNat:Int)).toInt=_;rw[e1,s8,Int8.toInt_ofInt,bm8]
  rw[TW,rL,B2 C1,e8,Br ID,Aa,ev,Bq,Aa,Yb _ F0,Aa,Ah,show 16-i=(15-i)+1 by omega,LY,oT (mZ d i)];rw[yD,show 16-(i+1)=15-i by omega,C6]at ih;exact ih
theorem Awu(d:UInt64):∀(j i q:Nat) (e:UInt64),i+j=8->j<q->e.toNat=d.toNat/256^i->Ny q e (i:Int) (iF d i++List.replicate (16-i) 0)=some (iF d 8++List.replicate 8 0)
 |0,i,q+1,e,hi,_,he=>by
  obtain rfl:i=8:=F0
  rw[Ny,JM,A_ J9];rfl
 |j+1,i,q+1,e,hi,hq,he=>by
  have hlen:(iF d i++List.replicate (16-i) 0).length=16:=by simp[mZ];omega
  have hq2:(Ca e (256:UInt64)).toNat=d.toNat/256^(i+1):=by
   rw[T6,WU,he,F_,<-S?];rfl
  have ih:=Awu d j (i+1) q (Ca e (256:UInt64)) F0 F0 hq2;have ev:(Ag (MM e (256:UInt64)):Int32)=Int32.ofInt ((d.toNat/256^i %256:Nat):Int):=by
   show Int32.ofInt ((MM e (256:UInt64)).toNat:Int)=_;rw[Aim,vW,he];rfl
  have hz:d.toNat/256^i %256<256:=HW _ F0;have et:(Int32.ofInt ((d.toNat/256^i %256:Nat):Int)).toInt=((d.toNat/256^i %256:Nat):Int):=by
   rw[P8,aF (by show -(4294967296/2:Int)<= _;omega) (by show _<(4294967296+1)/2;omega)]
  have hp8:∀x:Int32,x=s8 (d.toNat/256^i %256)->JW (Ny q) e (i:Int) (iF d i++List.replicate (16-i) 0) x=some (iF d 8++List.replicate 8 0):=by
   intro x hx;rw[JW,Atr,hx,Bq,Aa,Yb _ F0,Aa,Ah,show 16-i=(15-i)+1 by omega,LY,oT (mZ d i)];rw[yD,show 16-(i+1)=15-i by omega,C6]at ih;exact ih
  rw[Ny,JM,B2 C1,ev,sT,et,show(127:Int32).toInt=127 from rfl];by_cases h:d.toNat/256^i %256<128
  ·rw[A_ (by simp only[B7];omega)];exact hp8 _ (by rw[s8,B2 h])
  ·rw[B2 (by simp only[B7];omega)];refine hp8 _ ?_;rw[s8,A_ h,dJ,wI];rfl
def Ld(p:LB):LX:=iF (Vy p) 8++List.replicate 8 0
theorem Lq(p:LB):(Ld p).length=16:=by simp[Ld,mZ]
theorem UC(p:LB)(hp:p.length<=64):Nu p=some (Ld p,0):=by
 have h:=Aqi (Vy p) 8 0 Ax F0 B_;have h2:pC (Vy p)=some (Ld p):=h;rw[Nu,A_ C3,Akv p F0,Aa];simp only;rw[A_ C0,h2,Aa]
theorem WT(p:LB)(hp:p.length<=64):Pe p=some (Ld p,0):=by
 have h:=Awu (Vy p) 8 0 Ax (Vy p) F0 B_ B3;have h2:Bh9 (Vy p)=some (Ld p):=h;rw[Pe,A_ C3,Beb,Ay9,A_ C3,Akl p F0,Aa,Aa,Aa];simp only;rw[h2,Aa]
def u8(z:Int):UInt8:=UInt8.ofNat (z %256).toNat
theorem cM(z:Int):u8 (z %256)=u8 z:=by rw[u8,u8];congr 2;omega
def wB(bits:Int):Nat:=if bits=8 then 1 else if bits=16 then 2 else 3
theorem t?{bits:Int}(h:Bn bits):Ca bits 8=(wB bits:Int):=by obtain rfl|rfl|rfl:=h<;>rfl
theorem vo(bits:Int):1<=wB bits/\wB bits<=3:=by
 unfold wB;split; · omega
 ·split<;>omega
def TC(bits:Int)(x:Int):LB:=if bits=8 then [u8 (x+128)]else if bits=16 then [u8 x,u8 (x/256)]else [u8 x,u8 (x/256),u8 (x/65536)]
theorem Ahv(bits x:Int):(TC bits x).length<=3:=by
 unfold TC;split; · simp
 ·split<;>simp
theorem Axs(x:Int32)(k:Nat)(hk:k<=32):(Ag (Cy x k):UInt8)=u8 (x.toInt.fdiv (2^k)):=by
 have h:=GR x;have e:Cy x k=Int32.ofInt (x.toInt.fdiv (2^k)):=by
  show Int32.ofInt (x.toInt.fdiv (2^min k 32))=_;rw[I? hk]
 have hb: -2147483648<=x.toInt.fdiv (2^k)/\x.toInt.fdiv (2^k)<2147483648:=by
  have hpos:(0:Int)<2^k:=X5 F0;rw[LM _ F0];constructor
  ·refine(Int.le_ediv_iff_mul_le hpos).2 ?_;have:(1:Int)<=2^k:=F0
   have h2: -2147483648*(2^k:Int)<= -2147483648*1:=Int.mul_le_mul_of_nonpos_left F0 this;omega
  ·refine Int.ediv_lt_of_lt_mul hpos ?_;have:(1:Int)<=2^k:=F0
   have h2:(2147483648:Int)*1<=2147483648*2^k:=uq this F0;omega
 show UInt8.ofNat ((Cy x k).toInt %256).toNat=_;rw[e,P8,aF (by show -(4294967296/2:Int)<= _;omega) (by show _<(4294967296+1)/2;omega)];rfl
section
variable (bk:Int->LB->Option (LB×Int)) (l:LX)
theorem Z_{bits:Int}(h:Bn bits)(c:Int32)(x:Int)(i q:Nat)(acc:LB)(hi:i<wB bits)(ha:acc.length<=100000):
  Mm bk bits l c x (q+1) (i:Int) acc=Mm bk bits l c x q ((i+1:Nat):Int) (acc++[u8 (c.toInt.fdiv (2^(8*i)))]):=by
 have hw:=vo bits;have e8:Bm (8:Int) (i:Int)=((8*i:Nat):Int):=by rw[Ex];omega
 rw[Mm,IK,t? h,B2 C1,e8,Br ID,Aa,show(GI.toZ (((8*i:Nat):Int))).toNat=8*i from rfl,Axs _ _ F0,Bg B5,Aa,Ah];rfl
theorem sV{bits:Int}(h:Bn bits)(c:Int32)(x:Int)(q:Nat)(acc:LB):Mm bk bits l c x (q+1) ((wB bits:Nat):Int) acc=bk (Ae x 1) acc:=by
 rw[Mm,IK,t? h,A_ J9,YO,Bhn]
theorem Bfg{bits:Int}(h:Bn bits)(c:Int32)(x:Int)(acc:LB)(ha:acc.length<=90000)(hr: -(hB bits)<=c.toInt/\c.toInt<hB bits):
  Ui bk bits l x acc (if bits=8 then Ae c (128:Int32)else c)=bk (Ae x 1) (acc++TC bits c.toInt):=by
 have e:Ax=(Ax-4)+1+1+1+1:=by have:=Ar;omega
 have hc:=GR c;rw[Ui,XZ,ZH,e];have g0:=λ(c:Int32) q acc ha=>Z_ bk l h c x 0 q acc (by have:=vo bits;omega) ha;obtain rfl|rfl|rfl:=h
 ·have hh:hB 8=128:=rfl;rw[hh]at hr;have e1:(Ae c (128:Int32)).toInt=c.toInt+128:=by
   show(Int32.ofInt (c.toInt+(128:Int32).toInt)).toInt=_;rw[show(128:Int32).toInt=128 from rfl,P8,aF (by show -(4294967296/2:Int)<= _;omega) (by show _<(4294967296+1)/2;omega)]
  have g1:=sV bk l (bits:=8) (.inl rfl) (Ae c (128:Int32)) x (Ax-4+1+1);rw[B2 rfl,show(0:Int)=((0:Nat):Int)from rfl,g0 _ _ _ F0];refine F? (g1 _) ?_;rw[e1,TC,B2 rfl]
  show bk _ (acc++[u8 ((c.toInt+128).fdiv 1)])=_;rw[Int.fdiv_one]
 ·have g1:=λq acc ha=>Z_ bk l (bits:=16) (.inr (.inl rfl)) c x 1 q acc F2 ha;have g2:=sV bk l (bits:=16) (.inr (.inl rfl)) c x (Ax-4+1);rw[A_ F2,show(0:Int)=((0:Nat):Int)from rfl,g0 _ _ _ F0,g1 _ _ B5];refine F? (g2 _) ?_;rw[TC,A_ F2,B2 rfl,C6]
  show bk _ (acc++[u8 (c.toInt.fdiv 1),u8 (c.toInt.fdiv 256)])=_;rw[Int.fdiv_one,LM _ F0]
 ·have g1:=λq acc ha=>Z_ bk l (bits:=24) (.inr (.inr rfl)) c x 1 q acc F2 ha;have g2:=λq acc ha=>Z_ bk l (bits:=24) (.inr (.inr rfl)) c x 2 q acc F2 ha;have g3:=sV bk l (bits:=24) (.inr (.inr rfl)) c x (Ax-4);rw[A_ F2,show(0:Int)=((0:Nat):Int)from rfl,g0 _ _ _ F0,g1 _ _ B5,g2 _ _ B5];refine F? (g3 _) ?_;rw[TC,A_ F2,A_ F2,C6,C6]
  show bk _ (acc++[u8 (c.toInt.fdiv 1),u8 (c.toInt.fdiv 256),u8 (c.toInt.fdiv 65536)])=_;rw[Int.fdiv_one,LM _ F0,LM _ F0]
end
def Az(bits:Int)(l:LX):LB:=l.flatMap λx=>TC bits x.toInt
theorem Vu(bits:Int):∀l:LX,(Az bits l).length<=3*l.length
 |[]=>by simp[Az]
 |x::l=>by
  have h1:=Vu bits l;have h2:=Ahv bits x.toInt;simp only[Az,l?,B6,D_]at*
  omega
def inR(bits:Int)(l:LX):Prop:=∀x∈l, -(hB bits)<=x.toInt/\x.toInt<hB bits
theorem Aph{bits:Int}(h:Bn bits)(l:LX)(hl:l.length<=4000)(hr:inR bits l):∀(j i q:Nat),i+j=l.length->j<q->Il bits l q (i:Int) (Az bits (l.take i))=some (Az bits l,0)
 |0,i,q+1,hi,_=>by
  rw[Il,IZ,A_ F4,H3 F0];rfl
 |j+1,i,q+1,hi,hq=>by
  have hlt:i<l.length:=F0
  have ih:=Aph h l hl hr j (i+1) q F0 F0;have hlen:=Vu bits (l.take i);have hx:=hr l[i] (D5 _);have h1:=Bfg (Il bits l q) l h l[i] (i:Int) (Az bits (l.take i)) (by rw[C8]at hlen;omega) hx;rw[Il,IZ,B2 F4,Bq hlt,Aa];have e:(if(geq bits (8:Int))=true then Ui (Il bits l q) bits l (i:Int) (Az bits (l.take i)) (Ae l[i] (128:Int32))else Ui (Il bits l q) bits l (i:Int) (Az bits (l.take i)) l[i])=Ui (Il bits l q) bits l (i:Int) (Az bits (l.take i)) (if bits=8 then Ae l[i] (128:Int32)else l[i]):=by
   by_cases h8:bits=8
   ·rw[B2 (by rw[As];simpa using h8),B2 h8]
   ·rw[A_ (by rw[As];simpa using h8),A_ h8]
  rw[e,h1,Ah];rw[Iq hlt]at ih;have e2:Az bits (l.take i++[l[i]])=Az bits (l.take i)++TC bits l[i].toInt:=by unfold Az;rw[jH,List.flatMap_singleton]
  rw[e2]at ih;exact ih
theorem oJ{bits:Int}(h:Bn bits){l:LX}(hl:l.length<=4000)(hc:Au bits l=some 0):inR bits l:=by
 have hh:=NK bits;have key:∀(j i q:Nat),i+j=l.length->j<q->Be l (hB bits) q (i:Int)=some 0->∀k,i<=k-> (hk:k<l.length)-> -(hB bits)<=l[k].toInt/\l[k].toInt<hB bits:=by
  intro j
  induction j with
  |zero=>intro i q hi hq _ k h1 h2;omega
  |succ j ih=>
   intro i q hi hq hs k h1 h2;obtain⟨q,rfl⟩:∃k,q=k+1:=⟨q-1,F0⟩;rw[Be,Df,B2 F4,Bq,Aa,Aa,Hc,dI,Dt F0 F0,Ah,Ad,Dq]at hs;by_cases g1:l[i].toInt<0-hB bits
   ·rw[B2 (by simpa using g1)]at hs;simp at hs
   ·rw[A_ (by simpa using g1)]at hs;by_cases g2:hB bits<=l[i].toInt
    ·rw[B2 (by simpa using g2)]at hs;simp at hs
    ·rw[A_ (by simpa using g2)]at hs;by_cases hk:k=i
     ·subst hk;omega
     ·exact ih (i+1) q F0 F0 hs k F0 h2
 rw[Au,Ed,ZU h,Aa,A_ E6,A_ C3]at hc;have:=key l.length 0 Ax F0 B_ hc;intro x hx;obtain⟨k,hk,rfl⟩:=vO hx;exact this k F0 hk
theorem dX{bits:Int}(h:Bn bits){l:LX}(hl:l.length<=4000)(hc:Au bits l=some 0):Kw bits l=some (Az bits l,0):=by
 have h1:=Aph h l hl (oJ h hl hc) l.length 0 Ax F0 B_;rw[Kw,eG,UA h l hl,hc,Aa,A_ C0];exact h1
theorem Bam{bits:Int}(h:Bn bits)(x:Int32)(hr: -(hB bits)<=x.toInt/\x.toInt<hB bits):SP bits x=some (TC bits x.toInt):=by
 have hx:=GR x;have gu:∀z:Int,(Ag z:UInt8)=u8 z:=λz=>rfl;have hq:∀n:Int,0<=n->n<=20000000->Ca n (256:Int)=n/256/\Ca n (65536:Int)=n/65536:=by
  intro n h1 h2;constructor<;>(rw[YG,R8 h1,Dt F0 F0])
 have hm:∀n:Int,0<=n->Ge n (256:Int)=n %256:=λn h1=>by rw[Ge,S8 h1]
 rw[SP,Aow,Hc];obtain rfl|rfl|rfl:=h
 ·rw[B2 OB,Ah,gu,TC,B2 rfl]
 ·have hh:hB 16=32768:=rfl;rw[hh]at hr;have hp:∀n:Int,0<=n->n<=70000->u8 n=u8 x.toInt->u8 (n/256)=u8 (x.toInt/256)->Qd 16 n=some (TC 16 x.toInt):=by
   intro n h1 h2 h3 h4;rw[Qd,GP,A_ Qy,hm n h1,(hq n h1 F0).1,hm _ F0,gu,gu,cM,cM,h3,h4,TC,A_ F2,B2 rfl]
  rw[A_ Qy];by_cases hn:x.toInt<0
  ·rw[B2 (by rw[Ad];simpa using hn),ZU (.inr (.inl rfl)),Aa,hh,Ex,Ah];refine hp _ F0 F0 ?_ ?_
   ·rw[u8,u8];congr 2;omega
   ·rw[u8,u8];congr 2;omega
  ·rw[A_ (by rw[Ad];simpa using hn)];exact hp _ F0 F0 rfl rfl
 ·have hh:hB 24=8388608:=rfl;rw[hh]at hr;have hp:∀n:Int,0<=n->n<=16777215->u8 n=u8 x.toInt->u8 (n/256)=u8 (x.toInt/256)->u8 (n/65536)=u8 (x.toInt/65536)->Qd 24 n=some (TC 24 x.toInt):=by
   intro n h1 h2 h3 h4 h5;rw[Qd,GP,B2 OB,hm n h1,(hq n h1 F0).1,(hq n h1 F0).2,hm _ F0,gu,gu,gu,cM,cM,h3,h4,h5,Bg B3,Aa,TC,A_ F2,A_ F2];rfl
  rw[A_ Qy];by_cases hn:x.toInt<0
  ·rw[B2 (by rw[Ad];simpa using hn),ZU (.inr (.inr rfl)),Aa,hh,Ex,Ah];refine hp _ F0 F0 ?_ ?_ ?_
   ·rw[u8,u8];congr 2;omega
   ·rw[u8,u8];congr 2;omega
   ·rw[u8,u8];congr 2;omega
  ·rw[A_ (by rw[Ad];simpa using hn)];exact hp _ F0 F0 rfl rfl rfl
theorem Apa{bits:Int}(h:Bn bits)(l:LX)(hl:l.length<=4000)(hr:inR bits l):∀(j i q:Nat),i+j=l.length->j<q->Nb bits l q (i:Int) (Az bits (l.take i))=some (Az bits l,0)
 |0,i,q+1,hi,_=>by
  rw[Nb,BE,A_ F4,H3 F0];rfl
 |j+1,i,q+1,hi,hq=>by
  have hlt:i<l.length:=F0
  have ih:=Apa h l hl hr j (i+1) q F0 F0;have hlen:=Vu bits (l.take i);have hol:=Ahv bits l[i].toInt;rw[C8]at hlen;have e2:Az bits (l.take i++[l[i]])=Az bits (l.take i)++TC bits l[i].toInt:=by unfold Az;rw[jH,List.flatMap_singleton]
  rw[Iq hlt,e2]at ih;rw[Nb,BE,B2 F4,Bq hlt,Aa,Bam h _ (hr l[i] (D5 _)),Aa,Bg,Aa,Ah];exact ih
theorem TR{bits:Int}(h:Bn bits){l:LX}(hl:l.length<=4000)(hc:Au bits l=some 0):Yr bits l=some (Az bits l,0):=by
 have h1:=Apa h l hl (oJ h hl hc) l.length 0 Ax F0 B_;rw[Yr,Agl,hc,Aa,A_ C0];exact h1
theorem wO{p:Prop}(h:p:=by rw[Dq,Ac,Ac];simp;omega):p:=h
theorem nL{p:Prop}(h:p:=by rw[Ah]<;>omega):p:=h
def jZ:LB->Nat->Int×Int
 |[],n=>((n:Int),0)
 |c::r,n=>if 128<=c.toNat then(0,12)else jZ r (128*n+c.toNat)
theorem Arq:∀(l:LB) (n k:Nat),n<128^k->0<= (jZ l n).1/\ (jZ l n).1<((128^(k+l.length):Nat):Int)
 |[],n,k,h=>by simp[jZ];exact_mod_cast h
 |c::r,n,k,h=>by
  rw[jZ];split
  ·have:0<128^(k+(c::r).length):=KQ F0;exact⟨Int.le_refl _,by simp only;exact_mod_cast this⟩
  ·have:=Arq r (128*n+c.toNat) (k+1) (by rw[F_];omega);rw[D_,show k+(r.length+1)=k+1+r.length by omega];exact this
theorem or7(n c:Nat)(hn:n<268435456)(hc:c<128):I7 (Eh (n:Int) (GI.toZ (7:UInt64)).toNat) (c:Int)=((128*n+c:Nat):Int):=by
 have e:(GI.toZ (7:UInt64)).toNat=7:=rfl;have h1:Eh (n:Int) 7=((2^7*n:Nat):Int):=by
  have:Eh (n:Int) 7=wrap64 ((n:Int)*2^7):=rfl;rw[this,Dt F0 F0];omega
 rw[e,h1];have h2:I7 ((2^7*n:Nat):Int) (c:Int)=wrap64 ((BitVec.ofInt 64 ((2^7*n:Nat):Int)|||BitVec.ofInt 64 (c:Int)).toNat:Int):=rfl;rw[h2,aK,NW,NW];have h3:(((2^7*n:Nat):Int) %((2^64:Nat):Int)).toNat=2^7*n:=F0
 have h4:((c:Int) %((2^64:Nat):Int)).toNat=c:=F0
 rw[h3,h4,<-QC (by simpa using hc),Dt F0 F0]
theorem Arb(b:LB)(hb:b.length=4):∀(j i q n:Nat),i+j=4->j<q->n<128^i->Ri b q (n:Int) (i:Int)=some (jZ (b.drop i) n)
 |0,i,q+1,n,hi,_,_=>by
  rw[Ri,EU,A_ F4,show b.drop i=[] by simp;omega];rfl
 |j+1,i,q+1,n,hi,hq,hn=>by
  have hlt:i<b.length:=F0
  have hn2:n<268435456:=G4 hn (show 128^i<=128^4 from E1 F0 F0);rw[Ri,EU,B2 F4,Bq hlt,Aa,drop_cons hlt,jZ,Azn];by_cases hc:128<=b[i].toNat
  ·rw[B2 B5,B2 hc]
  ·rw[A_ B5,A_ hc,bJ,or7 n _ hn2 F0,Ah];exact Arb b hb j (i+1) q _ F0 F0 (by rw[F_];omega)
theorem Azk(b:LB)(hb:b.length=4):∀(j i q n:Nat),i+j=4->j<q->n<128^i->Ng b q (n:Int) (i:Int)=some (jZ (b.drop i) n)
 |0,i,q+1,n,hi,_,_=>by
  rw[Ng,BH,A_ C1,show b.drop i=[] by simp;omega];rfl
 |j+1,i,q+1,n,hi,hq,hn=>by
  have hlt:i<b.length:=F0
  have hn2:n<268435456:=G4 hn (show 128^i<=128^4 from E1 F0 F0);rw[Ng,BH,B2 C1,Bq hlt,Aa,drop_cons hlt,jZ,Axp];have h128:(128:UInt8).toNat=128:=rfl;by_cases hc:128<=b[i].toNat
  ·rw[B2 (by simpa using hc),B2 hc]
  ·have h3:=b[i].toNat_lt;rw[A_ (by simpa using hc),A_ hc,Aa,bJ,Ex,Ah,Ah];have:=Azk b hb j (i+1) q (128*n+b[i].toNat) F0 F0 (by rw[F_];omega);rw[<-this];rfl
theorem Ang(b:LB)(hb:b.length=4):UQ b=some (jZ b 0):=by
 have h:=Arb b hb 4 0 Ax 0 F0 B_ B3;rw[UQ,UF,A_ (by rw[Aj,Ac];simp;omega),Bbc];exact h
theorem Aum(b:LB)(hb:b.length=4):JZ b=some (jZ b 0):=by
 have h:=Azk b hb 4 0 Ax 0 F0 B_ B3;rw[JZ,Agm,A_ (by rw[Aj,Ac];simp;omega),Ag7];exact h
theorem sA{b:LB}(hb:b.length=4):0<= (jZ b 0).1/\ (jZ b 0).1<268435456:=by
 have:=Arq b 0 0 B3;rw[hb]at this;simpa using this
theorem pV(s p:LB):Pp s p=some (decide (p.length<=s.length/\s.take p.length=p)):=by
 rw[Pp];by_cases h:p.length<=s.length
 ·rw[B2 wO,show Ac p=(p.length:Int)from rfl,Cx,Aa,Jj,Aa,C2];congr 1;rw[D0];simp[h]
 ·rw[A_ wO];simp[h]
def mH(b:LB)(n:Int):Int×Int:=
 if 4000<n then(0,4)else if(b.length:Int)<n then(0,24)else
 if b.getD 5 0=16/\ (b.take n.toNat).drop (n-10).toNat≠ [51,68,73]++part b 3 7 then(0,12)else(n,0)
def zi(b:LB)(r:Int):Int×Int:=mH b (r+10+(if b.getD 5 0=16 then 10 else 0))
def Yl(b:LB):Int×Int:=
 if ¬(3<=b.length/\b.take 3=[73,68,51])then(0,6)else if b.length<10 then(0,24)else
 if(jZ (part b 6 4) 0).2≠0\/b.getD 4 0≠0\/ ¬((b.getD 5 0=0/\2<= (b.getD 3 0).toNat/\ (b.getD 3 0).toNat<=4)\/ (b.getD 5 0=16/\b.getD 3 0=4))then(0,12)else
 zi b (jZ (part b 6 4) 0).1
theorem G0{b:LB}{i:Nat}(h:i<b.length):Ao b (i:Int)=some (b.getD i 0):=by
 rw[Bq h];simp[List.getD_eq_getElem?_getD,h]
theorem Uu{b:LB}(a w:Nat)(h:a+w<=b.length:=by omega):Bp b (a:Int) ((a+w:Nat):Int)=some (part b a w):=by
 rw[Sa];rfl
theorem Bb2(b:LB)(r:Int)(h10:10<=b.length)(h0:0<=r)(h1:r<268435456):CV b r=some (zi b r):=by
 have g5:Ao b (5:Int)=some (b.getD 5 0):=G0 (i:=5) F0;have key:∀n:Int,10<=n->n<268435500->CK b n=some (mH b n):=by
  intro n hn hn2;rw[CK,Am7,mH];by_cases c1:4000<n
  ·rw[B2 (by rw[Ap];simpa using c1),B2 c1]
  ·rw[A_ (by rw[Ap];simpa using c1),A_ c1];by_cases c2:(b.length:Int)<n
   ·rw[B2 (by rw[Ad,Ac];simpa using c2),B2 c2]
   ·have e3:Bp b (3:Int) (10:Int)=some (part b 3 7):=Uu 3 7;rw[A_ (by rw[Ad,Ac];simpa using c2),A_ c2,g5,Aa];by_cases c3:b.getD 5 0=16
    ·rw[B2 (by rw[pS];simpa using c3),Cb,Sa,Aa,e3,Aa,Bg (by rw[Fo];simp),Aa];by_cases c4:(b.take n.toNat).drop (n-10).toNat=[51,68,73]++part b 3 7
     ·rw[A_ (by simpa using c4),A_ (by intro h;exact h.2 c4)]
     ·rw[B2 (by simpa using c4),B2 ⟨c3,c4⟩]
    ·rw[A_ (by rw[pS];simpa using c3),A_ (λh=>c3 h.1)]
 rw[CV,Ai9,g5,Aa,zi];by_cases c3:b.getD 5 0=16
 ·rw[B2 (by rw[pS];simpa using c3),Ah nL nL,Ah,key _ F0 F0,B2 c3,show 10+r+10=r+10+10 by omega]
 ·rw[A_ (by rw[pS];simpa using c3),Ah,key _ F0 F0,A_ c3,show 10+r=r+10+0 by omega]
theorem Ayx(b:LB)(hb:b.length<4611686018427387904):NS b=some (Yl b):=by
 rw[NS,Ajz,Yl];by_cases h3:3<=b.length
 ·rw[A_ F4,Cx,Aa];by_cases hp:b.take 3=[73,68,51]
  ·rw[A_ (by simpa using hp),A_ (by simp[h3,hp]),An9,Alj];by_cases h10:b.length<10
   ·rw[B2 F4,B2 h10]
   ·have e6:Bp b (6:Int) (10:Int)=some (part b 6 4):=Uu 6 4;have g3:Ao b (3:Int)=some (b.getD 3 0):=G0 (i:=3) F0;have g4:Ao b (4:Int)=some (b.getD 4 0):=G0 (i:=4) F0;have g5:Ao b (5:Int)=some (b.getD 5 0):=G0 (i:=5) F0;obtain⟨v1,v2⟩:=sA (b:=part b 6 4) (Fo);rw[A_ F4,A_ h10,e6,Aa,Aum _ (Fo),Aa];have ht:=Bb2 b (jZ (part b 6 4) 0).1 F0 v1 v2;generalize jZ (part b 6 4) 0=v at*
    obtain⟨v,e⟩:=v;simp only at ht v1 v2⊢;simp only[Aa,g3,g4,g5,ht];generalize b.getD 3 0=x at*
    generalize b.getD 4 0=y at*
    generalize b.getD 5 0=z at*
    simp only[sL,Bf7,Azn,Aj];by_cases he:e=0<;>by_cases hy:y=0<;>by_cases hz:z=0<;>by_cases hz2:z=16<;>by_cases hx:x=4<;>by_cases hx2:x.toNat<2<;>by_cases hx4:4<x.toNat<;>simp_all<;>(rw[A_ F0,A_ F0])
  ·rw[B2 (by simpa using hp),B2 (by simp[hp])]
 ·rw[B2 F4,B2 (by simp[h3])]
theorem zm(b:LB)(n:Int)(h10:10<=b.length)(hn:10<=n)(hn2:n<268435500):YI b (b.getD 5 0) n=some (mH b n):=by
 rw[YI,Bgz];by_cases c1:4000<n
 ·rw[B2 (by rw[Ap];simpa using c1),mH,B2 c1]
 ·rw[A_ (by rw[Ap];simpa using c1)];by_cases c2:(b.length:Int)<n
  ·rw[B2 (by rw[Ad,Ac];simpa using c2),mH,A_ c1,B2 c2]
  ·have e3:Bp b (3:Int) (10:Int)=some (part b 3 7):=Uu 3 7;rw[A_ (by rw[Ad,Ac];simpa using c2)];by_cases c3:b.getD 5 0=16
   ·have hl:((b.take n.toNat).drop (n-10).toNat).length=10:=by simp;omega
    have ht:mH b n=if(b.take n.toNat).drop (n-10).toNat≠ [51,68,73]++part b 3 7 then(0,12)else(n,0):=by rw[mH,A_ c1,A_ c2];simp only[c3,N1]
    rw[B2 (by rw[pS];simpa using c3),Cb,Sa,Aa,ht];generalize(b.take n.toNat).drop (n-10).toNat=f at*
    rw[Cx,Aa,Bu,Aa,e3,Aa,Jj,Aa];have hf:f=f.take 3++f.drop 3:=(JY 3 f).symm;by_cases c4:f=[51,68,73]++part b 3 7
    ·subst c4;simp
    ·by_cases c5:f.take 3=[51,68,73]
     ·have:f.drop 3≠part b 3 7:=λh=>c4 (by rw[hf,c5,h]);simp only[M!,D8]at c4;simp[c4,c5,this]
     ·simp only[M!,D8]at c4;simp[c4,c5]
   ·rw[A_ (by rw[pS];simpa using c3),mH,A_ c1,A_ c2,A_ (λh=>c3 h.1)]
theorem Ax8(b:LB)(r:Int)(h10:10<=b.length)(h0:0<=r)(h1:r<268435456):ZE b r (b.getD 5 0)=some (zi b r):=by
 rw[ZE,Bhl,zi];by_cases c3:b.getD 5 0=16
 ·rw[B2 (by rw[pS];simpa using c3),Ah nL nL,Ah,zm b _ h10 F0 F0,B2 c3]
 ·rw[A_ (by rw[pS];simpa using c3),Ah,zm b _ h10 F0 F0,A_ c3];simp
theorem Aui(b:LB)(hb:b.length<4611686018427387904):aP b=some (Yl b):=by
 rw[aP,IL,pV,Aa];by_cases hp:3<=b.length/\b.take 3=[73,68,51]
 ·rw[A_ (by simpa using hp)];by_cases h10:b.length<10
  ·rw[B2 F4,Yl,A_ (λh=>h hp),B2 h10]
  ·have e6:Bp b (6:Int) (10:Int)=some (part b 6 4):=Uu 6 4;have g3:Ao b (3:Int)=some (b.getD 3 0):=G0 (i:=3) F0;have g4:Ao b (4:Int)=some (b.getD 4 0):=G0 (i:=4) F0;have g5:Ao b (5:Int)=some (b.getD 5 0):=G0 (i:=5) F0;obtain⟨v1,v2⟩:=sA (b:=part b 6 4) (Fo);have ht:=Ax8 b (jZ (part b 6 4) 0).1 F0 v1 v2;rw[A_ F4,g3,Aa,g5,Aa,YK,ZC,e6,Aa,Ang _ (Fo),Aa,Yl,A_ (λh=>h hp),A_ h10];generalize jZ (part b 6 4) 0=v at*
   obtain⟨v,e⟩:=v;simp only at ht v1 v2⊢;simp only[Aa,g4,YB,Bg6];generalize b.getD 3 0=x at*
   generalize b.getD 4 0=y at*
   generalize b.getD 5 0=z at*
   simp only[sL,Bg4,pS,Axp,Aj];have e2:(2:UInt8).toNat=2:=rfl;have e4:(4:UInt8).toNat=4:=rfl;by_cases he:e=0<;>by_cases hy:y=0<;>by_cases hz:z=0<;>by_cases hz2:z=16<;>by_cases hx:x=4<;>by_cases hx2:2<=x.toNat<;>by_cases hx4:x.toNat<=4<;>simp_all
 ·rw[B2 (by rw[HE,KV];exact hp),Yl,B2 hp]
theorem Az1{b:LB}{n:Int}(h:Yl b=(n,0)):10<=n/\n<=b.length/\n<=4000:=by
 unfold Yl at h;split at h; · simp at h
 split at h; · simp at h
 split at h; · simp at h
 rename_i h10 _;obtain⟨v1,v2⟩:=sA (b:=part b 6 4) (Fo);unfold zi at h;generalize hm:(jZ (part b 6 4) 0).1+10+(if b.getD 5 0=16 then 10 else 0)=m at h;unfold mH at h;split at h; · simp at h
 split at h; · simp at h
 split at h; · simp at h
 simp only[BS,M?]at h;subst h;refine⟨?_,F0,F0⟩;rw[<-hm];split<;>omega
theorem RP{p:Prop}(h:p:=by rw[Ad,Ac];simp):p:=h
theorem KP{p:Prop}(h:p:=by rw[Fo];omega):p:=h
theorem bR{p:Prop}(h:p:=by rw[Cn];omega):p:=h
theorem PL{p:Prop}(h:p:=by simp[Cn]):p:=h
def yu:LB:=[65,80,69,84,65,71,69,88]
def Ty(n m fl:Nat):LB:=yu++Uc 2000 4++Uc (n+32) 4++Uc m 4++Uc fl 4++List.replicate 8 0
theorem jI{n:Nat}(h:n<18446744073709551616):(UInt64.ofNat n).toNat=n:=by rw[E_,C! h]
theorem zH(n m:Int)(fl:UInt64)(c:UInt64)(i q:Nat)(acc:LB)(hi:i<6)(hc:Ao ([(2000:UInt64),(Ag (Ae n (32:Int)):UInt64),(Ag m:UInt64),fl,(0:UInt64),(0:UInt64)]:LQ) (i:Int)=some c)(h:c.toNat<4294967296)(ha:acc.length<=1000000):
  KL n m fl (q+1) (i:Int) acc=KL n m fl q ((i+1:Nat):Int) (acc++Uc c.toNat 4):=by
 have hb:=eU c 4 F0 F0 (by simpa using h);rw[KL,qA,B2 F4,hc,Aa,Aa,show((4:Int))=((4:Nat):Int)from rfl,hb,Aa];simp only;rw[Bg bR,Aa,Ah];rfl
theorem W!(n m:Nat)(fl:UInt64)(hn:n<=3000)(hm:m<=1000)(hf:fl.toNat<4294967296):yS (n:Int) (m:Int) fl=some (Ty n m fl.toNat):=by
 have e1:(Ag (Ae (n:Int) (32:Int)):UInt64).toNat=n+32:=by rw[Ah,show(n:Int)+32=((n+32:Nat):Int) by omega,AQ,jI F0]
 have e2:(Ag (m:Int):UInt64).toNat=m:=by rw[AQ,jI F0]
 have hF:Ax=(Ax-7)+1+1+1+1+1+1+1:=by have:=Ar;omega
 rw[yS,J8,Bfj,hF];rw[show((0:Int))=((0:Nat):Int)from rfl,zH n m fl 2000 0 _ _ F0 rfl F2 B3,zH n m fl _ 1 _ _ F0 rfl (by rw[e1];omega) PL,zH n m fl _ 2 _ _ F0 rfl (by rw[e2];omega) PL,
  zH n m fl fl 3 _ _ F0 rfl hf PL,zH n m fl 0 4 _ _ F0 rfl F2 PL,zH n m fl 0 5 _ _ F0 rfl F2 PL,e1,e2]
 rw[KL,qA,A_ RP,H9,xZ,Ty];have z:Uc (0:UInt64).toNat 4++Uc (0:UInt64).toNat 4=List.replicate 8 0:=F2
 have z2:Uc (2000:UInt64).toNat 4=Uc 2000 4:=rfl;rw[C6 _ (Uc (0:UInt64).toNat 4),z,z2];rfl
theorem X9(n m:Nat)(fl:UInt64)(hn:n<=3000)(hm:m<=1000)(hf:fl.toNat<4294967296):Xq (n:Int) (m:Int) fl=some (Ty n m fl.toNat):=by
 have e1:(Ag (Ae (n:Int) (32:Int)):UInt64).toNat=n+32:=by rw[Ah,show(n:Int)+32=((n+32:Nat):Int) by omega,AQ,jI F0]
 have e2:(Ag (m:Int):UInt64).toNat=m:=by rw[AQ,jI F0]
 have w:∀c:UInt64,Gl c 4=some (Uc c.toNat 4):=λc=>Bm9 c 4 F0;have z2:Uc (2000:UInt64).toNat 4=Uc 2000 4:=rfl;rw[Xq];simp only[w,e1,e2,Aa];rw[Bg PL,Aa,Bg PL,Aa,Bg PL,Aa,Bg PL,Aa,xI,Aa,Bg PL,Aa,z2];rfl
theorem SN{b:LB}{a w k:Nat}(h:a+w<=k):part (b.take k) a w=part b a w:=by rw[part,part,LD,I? h]
def ML(b:LB):Bool:=decide (Gw (part b 12 4)<32\/3032<Gw (part b 12 4)\/1000<Gw (part b 16 4))
theorem Aze(b:LB)(h:20<=b.length):(((Cj (C4 (part b 12 4)) (32:UInt64))||(Dz (C4 (part b 12 4)) (3032:UInt64)))||(Dz (C4 (part b 16 4)) (1000:UInt64)))=ML b:=by
 rw[k_,iA,iA,jJ KP,jJ KP,ML];show((decide (Gw (part b 12 4)<32)||decide (3032<Gw (part b 12 4)))||decide (1000<Gw (part b 16 4)))=_;simp[Bool.or_assoc]
theorem jy(b:LB)(h:20<=b.length)(hb:ML b=false):Aq (Ag (C4 (part b 12 4)):Int) (32:Int)=((Gw (part b 12 4)-32:Nat):Int)/\ (Ag (C4 (part b 16 4)):Int)=((Gw (part b 16 4):Nat):Int)/\Gw (part b 12 4)-32<=3000/\Gw (part b 16 4)<=1000:=by
 simp only[ML,KV]at hb;refine⟨?_,UX KP,F0,F0⟩;rw[UX KP,Cb];omega
theorem qG(b:LB)(fl:UInt64)(h:20<=b.length)(hl:b.length<4611686018427387904)(hf:fl.toNat<4294967296):
  bK b fl=some (if ML b=true then(0,0,false)else(((Gw (part b 12 4)-32:Nat):Int),((Gw (part b 16 4):Nat):Int),b==Ty (Gw (part b 12 4)-32) (Gw (part b 16 4)) fl.toNat)):=by
 have a1:nH b 12 4=some (C4 (part b 12 4),0):=Sk b 12 4 F0 F0 F0 hl;have a2:nH b 16 4=some (C4 (part b 16 4),0):=Sk b 16 4 F0 F0 F0 hl;rw[bK,a1,Aa];simp only;rw[a2,Aa];simp only;rw[Aze b h];cases hb:ML b with
 |true=>rfl
 |false=>
  obtain⟨i1,i2,i3,i4⟩:=jy b h hb;rw[i1,i2,W! _ _ _ i3 i4 hf];rfl
theorem Ah0(b:LB)(h:20<=b.length)(hl:b.length<4611686018427387904):
  BQ b=some (if ML b=true then(0,0,false)else(((Gw (part b 12 4)-32:Nat):Int),((Gw (part b 16 4):Nat):Int),true)):=by
 have a1:Bp b 12 16=some (part b 12 4):=Uu 12 4;have a2:Bp b 16 20=some (part b 16 4):=Uu 16 4;rw[BQ,a1,Aa,XT _ KP,Aa,a2,Aa,XT _ KP,Aa,Aze b h];cases hb:ML b with
 |true=>rfl
 |false=>
  obtain⟨i1,i2,i3,i4⟩:=jy b h hb;rw[i1,i2];rfl
def Mp(b:LB):Int×Int:=
 if ¬(8<=b.length/\b.take 8=yu)then(0,6)else if b.length<32 then(0,24)else
 if ML b=true\/b.take 32≠Ty (Gw (part b 12 4)-32) (Gw (part b 16 4)) 2684354560 then(0,12)else
 if b.length<Gw (part b 12 4)+32 then(0,24)else
 if(b.take (Gw (part b 12 4)+32)).drop (Gw (part b 12 4))≠Ty (Gw (part b 12 4)-32) (Gw (part b 16 4)) 2147483648 then(0,12)else(((Gw (part b 12 4)+32:Nat):Int),0)
theorem Ai2(b:LB):ML (b.take 32)=ML b:=by rw[ML,ML,SN F0,SN F0]
section
variable {b:LB}
theorem fa1(h:¬(8<=b.length/\b.take 8=yu)):Mp b=(0,6):=by rw[Mp,B2 h]
theorem fa2(h:8<=b.length/\b.take 8=yu)(h2:b.length<32):Mp b=(0,24):=by rw[Mp,A_ (λh'=>h' h),B2 h2]
variable (h:8<=b.length/\b.take 8=yu) (h2:¬b.length<32)
include h h2
theorem fa3(h3:ML b=true):Mp b=(0,12):=by rw[Mp,A_ (λh'=>h' h),A_ h2,B2 (.inl h3)]
theorem fa4(h4:b.take 32≠Ty (Gw (part b 12 4)-32) (Gw (part b 16 4)) 2684354560):Mp b=(0,12):=by rw[Mp,A_ (λh'=>h' h),A_ h2,B2 (.inr h4)]
variable (h3:ML b=false) (h4:b.take 32=Ty (Gw (part b 12 4)-32) (Gw (part b 16 4)) 2684354560)
include h3 h4
theorem fa5(h5:b.length<Gw (part b 12 4)+32):Mp b=(0,24):=by
 rw[Mp,A_ (λh'=>h' h),A_ h2,A_ (λh'=>h'.elim (λe=>by rw[h3]at e;cases e) λe=>e h4),B2 h5]
theorem fa6(h5:¬b.length<Gw (part b 12 4)+32)(h6:(b.take (Gw (part b 12 4)+32)).drop (Gw (part b 12 4))≠Ty (Gw (part b 12 4)-32) (Gw (part b 16 4)) 2147483648):Mp b=(0,12):=by
 rw[Mp,A_ (λh'=>h' h),A_ h2,A_ (λh'=>h'.elim (λe=>by rw[h3]at e;cases e) λe=>e h4),A_ h5,B2 h6]
theorem fa7(h5:¬b.length<Gw (part b 12 4)+32)(h6:(b.take (Gw (part b 12 4)+32)).drop (Gw (part b 12 4))=Ty (Gw (part b 12 4)-32) (Gw (part b 16 4)) 2147483648):Mp b=(((Gw (part b 12 4)+32:Nat):Int),0):=by
 rw[Mp,A_ (λh'=>h' h),A_ h2,A_ (λh'=>h'.elim (λe=>by rw[h3]at e;cases e) λe=>e h4),A_ h5,A_ (λh'=>h' h6)]
end
theorem Am9(b:LB)(hl:b.length<4611686018427387904):yV b=some (Mp b):=by
 rw[yV,pV,Aa];by_cases hp:8<=b.length/\b.take 8=yu
 ·rw[A_ (by simpa [yu]using hp)];by_cases h32:b.length<32
  ·rw[B2 F4,fa2 hp h32]
  ·have t:=qG (b.take 32) 2684354560 B5 B5 F2;rw[Ai2,SN F0,SN F0]at t;rw[A_ F4,Cx,Aa,show(32:Int).toNat=32 from rfl,t,Aa];cases hb:ML b with
   |true=>rw[fa3 hp h32 hb];simp
   |false=>
    obtain⟨i1,i2,i3,i4⟩:=jy b F0 hb;have i5:32<=Gw (part b 12 4):=by simp only[ML,KV]at hb;omega
    simp only[J_,IB,false_or];by_cases c1:b.take 32=Ty (Gw (part b 12 4)-32) (Gw (part b 16 4)) 2684354560
    ·have c1':b.take 32=Ty (Gw (part b 12 4)-32) (Gw (part b 16 4)) (2684354560:UInt64).toNat:=c1;rw[A_ (by simpa using c1'),Ah];have e1:((Gw (part b 12 4)-32:Nat):Int)+64=((Gw (part b 12 4)+32:Nat):Int):=F0
     rw[e1];by_cases c2:b.length<Gw (part b 12 4)+32
     ·rw[B2 F4,fa5 hp h32 hb c1 c2]
     ·rw[A_ F4,Cb,Sa,Aa,W! _ _ _ i3 i4 F2,Aa,Jj,Aa];rw[show(((Gw (part b 12 4)+32:Nat):Int)).toNat=Gw (part b 12 4)+32 by omega,show(((Gw (part b 12 4)+32:Nat):Int)-32).toNat=Gw (part b 12 4) by omega];by_cases c3:(b.take (Gw (part b 12 4)+32)).drop (Gw (part b 12 4))=Ty (Gw (part b 12 4)-32) (Gw (part b 16 4)) 2147483648
      ·have c3':(b.take (Gw (part b 12 4)+32)).drop (Gw (part b 12 4))=Ty (Gw (part b 12 4)-32) (Gw (part b 16 4)) (2147483648:UInt64).toNat:=c3;rw[A_ (by simpa using c3'),fa7 hp h32 hb c1 c2 c3]
      ·have c3':¬(b.take (Gw (part b 12 4)+32)).drop (Gw (part b 12 4))=Ty (Gw (part b 12 4)-32) (Gw (part b 16 4)) (2147483648:UInt64).toNat:=c3;rw[B2 (by simpa using c3'),fa6 hp h32 hb c1 c2 c3]
    ·have c1':¬b.take 32=Ty (Gw (part b 12 4)-32) (Gw (part b 16 4)) (2684354560:UInt64).toNat:=c1;rw[B2 (by simpa using c1'),fa4 hp h32 c1]
 ·rw[B2 (by rw[HE,KV];exact hp),fa1 hp]
theorem As6(b:LB)(hl:b.length<4611686018427387904):JU b=some (Mp b):=by
 rw[JU,Ag2];by_cases h8:8<=b.length
 ·rw[A_ F4,Cx,Aa,show(8:Int).toNat=8 from rfl];by_cases ha:b.take 8=yu
  ·have hp:=And.intro h8 ha;rw[A_ (by simpa [yu]using ha),Agg,Ag9];by_cases h32:b.length<32
   ·rw[B2 F4,fa2 hp h32]
   ·have t:=Ah0 (b.take 32) B5 B5;rw[Ai2,SN F0,SN F0]at t;rw[A_ F4,Cx,Aa,show(32:Int).toNat=32 from rfl,t,Aa];cases hb:ML b with
    |true=>rw[fa3 hp h32 hb];simp
    |false=>
     obtain⟨i1,i2,i3,i4⟩:=jy b F0 hb;have i5:32<=Gw (part b 12 4):=by simp only[ML,KV]at hb;omega
     simp only[J_,IB,false_or,Aa,QZ];rw[BY,X9 _ _ _ i3 i4 F2,Aa,Aa];by_cases c1:b.take 32=Ty (Gw (part b 12 4)-32) (Gw (part b 16 4)) 2684354560
     ·have c1':b.take 32=Ty (Gw (part b 12 4)-32) (Gw (part b 16 4)) (2684354560:UInt64).toNat:=c1;rw[A_ (by simpa using c1'),Ahc,Agh,Ah];have e1:64+((Gw (part b 12 4)-32:Nat):Int)=((Gw (part b 12 4)+32:Nat):Int):=F0
      rw[e1];by_cases c2:b.length<Gw (part b 12 4)+32
      ·rw[B2 F4,fa5 hp h32 hb c1 c2]
      ·rw[A_ F4,Cb,Sa,Aa,Pk,B2 rfl,X9 _ _ _ i3 i4 F2,Aa,Aa];rw[show(((Gw (part b 12 4)+32:Nat):Int)).toNat=Gw (part b 12 4)+32 by omega,show(((Gw (part b 12 4)+32:Nat):Int)-32).toNat=Gw (part b 12 4) by omega];by_cases c3:(b.take (Gw (part b 12 4)+32)).drop (Gw (part b 12 4))=Ty (Gw (part b 12 4)-32) (Gw (part b 16 4)) 2147483648
       ·have c3':(b.take (Gw (part b 12 4)+32)).drop (Gw (part b 12 4))=Ty (Gw (part b 12 4)-32) (Gw (part b 16 4)) (2147483648:UInt64).toNat:=c3;rw[A_ (by simpa using c3'),fa7 hp h32 hb c1 c2 c3]
       ·have c3':¬(b.take (Gw (part b 12 4)+32)).drop (Gw (part b 12 4))=Ty (Gw (part b 12 4)-32) (Gw (part b 16 4)) (2147483648:UInt64).toNat:=c3;rw[B2 (by simpa using c3'),fa6 hp h32 hb c1 c2 c3]
     ·have c1':¬b.take 32=Ty (Gw (part b 12 4)-32) (Gw (part b 16 4)) (2684354560:UInt64).toNat:=c1;rw[B2 (by simpa using c1'),fa4 hp h32 c1]
  ·rw[B2 (by simpa [yu]using ha),fa1 (λh=>ha h.2)]
 ·rw[B2 F4,fa1 (λh=>h8 h.1)]
theorem Aup{b:LB}{n:Int}(h:Mp b=(n,0)):64<=n/\n<=b.length:=by
 unfold Mp at h;split at h; · simp at h
 split at h; · simp at h
 split at h; · simp at h
 rename_i hb;split at h; · simp at h
 split at h; · simp at h
 simp only[BS,M?]at h;have hb':¬ML b=true:=λe=>hb (.inl e);simp only[ML,B7]at hb';omega
def Dh(b:LB):Int×Int:=if(Yl b).2≠6 then Yl b else Mp b
theorem size_eq(b:LB)(hl:b.length<4611686018427387904):DH b=some (Dh b):=by
 rw[DH,Aui b hl,Aa,Am9 b hl];by_cases h:(Yl b).2=6
 ·simp[Dh,h,Aj]
 ·simp[Dh,h,Aj]
theorem xA{b:LB}{n:Int}(h:Dh b=(n,0)):10<=n/\n<=b.length:=by
 unfold Dh at h;split at h
 ·have:=Az1 h;omega
 ·have:=Aup h;omega
def Cu(b:LB):Nat->Nat->LI×Int
 |0,_=>([],6)
 |j+1,p=>if(Dh (b.drop p)).2=6 then([],0)else if(Dh (b.drop p)).2≠0 then([],(Dh (b.drop p)).2)else
  if 4000<(p:Int)+(Dh (b.drop p)).1 then([],4)else
  if(Cu b j (p+(Dh (b.drop p)).1.toNat)).2=0 then((Dh (b.drop p)).1::(Cu b j (p+(Dh (b.drop p)).1.toNat)).1,0)else([],(Cu b j (p+(Dh (b.drop p)).1.toNat)).2)
theorem zL(b:LB):∀(j p:Nat),p<=b.length->p<=4000-> (Cu b j p).2=0-> (∀x∈(Cu b j p).1,10<=x)/\ (p:Int)+(Cu b j p).1.sum<=b.length/\ (p:Int)+(Cu b j p).1.sum<=4000
 |0,p,_,_,h=>by simp[Cu]at h
 |j+1,p,hp,hq,h=>by
  rw[Cu]at h⊢;split at h
  ·rename_i h6;rw[B2 h6];simp;omega
  ·rename_i h6;split at h
   ·rename_i h0;exact absurd h h0
   ·rename_i h0;rw[A_ h6,A_ h0];have hz:Dh (b.drop p)=((Dh (b.drop p)).1,0):=by rw[mL];exact⟨rfl,Classical.not_not.1 h0⟩
    have hs:=xA hz;rw[D3]at hs;split at h
    ·simp at h
    ·rename_i h4;rw[A_ h4];split at h
     ·rename_i h00;rw[B2 h00];obtain⟨i1,i2,i3⟩:=zL b j _ F0 F0 h00;refine⟨λx hx=>?_,?_,?_⟩
      ·rcases List.mem_cons.1 hx with rfl|hx
       ·exact hs.1
       ·exact i1 x hx
      ·simp only[H'];omega
      ·simp only[H'];omega
     ·rename_i h00;exact absurd h h00
def G_(b:LB)(j p:Nat):Int×Int:=if(Cu b j p).2=0 then((p:Int)+(Cu b j p).1.sum,0)else(0,(Cu b j p).2)
theorem xN(b:LB)(hl:b.length<4611686018427387904):∀(j p q:Nat),p<=b.length->p<=4000->b.length-p<j->j<=q->AN b q (p:Int)=some (G_ b j p)
 |0,p,q,_,_,h,_=>by omega
 |j+1,p,q,hp,hp4,hj,hq=>by
  obtain⟨q,rfl⟩:∃k,q=k+1:=⟨q-1,F0⟩;rw[AN,Bu,Aa,C2,size_eq _ B5,Aa,As,As,Aj,G_];by_cases h6:(Dh (b.drop p)).2=6
  ·rw[B2 (by simpa using h6)];have:Cu b (j+1) p=([],0):=by rw[Cu,B2 h6]
   rw[this];simp
  ·rw[A_ (by simpa using h6)];by_cases h0:(Dh (b.drop p)).2=0
   ·have hz:Dh (b.drop p)=((Dh (b.drop p)).1,0):=by rw[mL];exact⟨rfl,h0⟩
    have hs:=xA hz;rw[D3]at hs;rw[Ah,Ap];by_cases h4:4000<(p:Int)+(Dh (b.drop p)).1
    ·rw[B2 (by simp[h0];omega)];have:Cu b (j+1) p=([],4):=by rw[Cu,A_ h6,A_ (λh=>h h0),B2 h4]
     rw[this];simp
    ·rw[A_ (by simp[h0];omega),A_ (by simpa using h0)];have ih:=xN b hl j (p+(Dh (b.drop p)).1.toNat) q F0 F0 F0 F0;rw[show(p:Int)+(Dh (b.drop p)).1=((p+(Dh (b.drop p)).1.toNat:Nat):Int) by omega,ih,G_];have:Cu b (j+1) p=if(Cu b j (p+(Dh (b.drop p)).1.toNat)).2=0 then((Dh (b.drop p)).1::(Cu b j (p+(Dh (b.drop p)).1.toNat)).1,0)else([],(Cu b j (p+(Dh (b.drop p)).1.toNat)).2):=by
      rw[Cu,A_ h6,A_ (λh=>h h0),A_ h4]
     rw[this];by_cases hr:(Cu b j (p+(Dh (b.drop p)).1.toNat)).2=0
     ·simp only[hr,LW,H'];congr 2;omega
     ·simp only[hr,IB]
   ·rw[A_ (by simp[h0]),B2 (by simpa using h0)];have:Cu b (j+1) p=([],(Dh (b.drop p)).2):=by rw[Cu,A_ h6,B2 h0]
    rw[this];simp[h0]
def ZQ(b:LB)(j p:Nat)(xs:LI):LI×Int:=if(Cu b j p).2=0 then(xs++(Cu b j p).1,0)else([],(Cu b j p).2)
theorem Awo(bk:Int->LI->Option (LI×Int))(b:LB)(p:Nat)(hp:p<=b.length)(xs:LI)(hx:xs.length<=4000)(hl:b.length<4611686018427387904):BM (Tl bk b) b (p:Int) xs=Tl bk b (p:Int) xs (Dh (b.drop p)).1 (Dh (b.drop p)).2:=by
 have hf:=As6 (b.drop p) B5;rw[BM,Bu,Aa,C2,Ayx _ B5,Aa];by_cases h:(Yl (b.drop p)).2=6
 ·simp[Dh,h,As,hf]
 ·simp[Dh,h,As]
theorem Aea(b:LB)(hl:b.length<4611686018427387904):∀(j p q:Nat) (xs:LI),p<=b.length->p<=4000->b.length-p<j->j<=q->xs.length<=p->Sy b q (p:Int) xs=some (ZQ b j p xs)
 |0,p,q,_,_,_,h,_,_=>by omega
 |j+1,p,q,xs,hp,hp4,hj,hq,hx=>by
  obtain⟨q,rfl⟩:∃k,q=k+1:=⟨q-1,F0⟩;rw[Sy,Awo _ b p hp xs F0 hl,Tl,Agf,As,Aj,ZQ];by_cases h6:(Dh (b.drop p)).2=6
  ·rw[B2 (by simpa using h6)];have:Cu b (j+1) p=([],0):=by rw[Cu,B2 h6]
   rw[this];simp
  ·rw[A_ (by simpa using h6)];by_cases h0:(Dh (b.drop p)).2=0
   ·have hz:Dh (b.drop p)=((Dh (b.drop p)).1,0):=by rw[mL];exact⟨rfl,h0⟩
    have hs:=xA hz;rw[D3]at hs;rw[A_ (by simpa using h0),Ah,Ap];by_cases h4:4000<(p:Int)+(Dh (b.drop p)).1
    ·rw[B2 B5];have:Cu b (j+1) p=([],4):=by rw[Cu,A_ h6,A_ (λh=>h h0),B2 h4]
     rw[this];simp
    ·rw[A_ B5,Bg B5,Aa];have ih:=Aea b hl j (p+(Dh (b.drop p)).1.toNat) q (xs++[(Dh (b.drop p)).1]) F0 F0 F0 F0 B5;rw[show(p:Int)+(Dh (b.drop p)).1=((p+(Dh (b.drop p)).1.toNat:Nat):Int) by omega,ih,ZQ];have:Cu b (j+1) p=if(Cu b j (p+(Dh (b.drop p)).1.toNat)).2=0 then((Dh (b.drop p)).1::(Cu b j (p+(Dh (b.drop p)).1.toNat)).1,0)else([],(Cu b j (p+(Dh (b.drop p)).1.toNat)).2):=by
      rw[Cu,A_ h6,A_ (λh=>h h0),A_ h4]
     rw[this];by_cases hr:(Cu b j (p+(Dh (b.drop p)).1.toNat)).2=0
     ·simp only[hr,LW];simp
     ·simp only[hr,IB]
   ·rw[B2 (by simpa using h0)];have:Cu b (j+1) p=([],(Dh (b.drop p)).2):=by rw[Cu,A_ h6,B2 h0]
    rw[this];simp[h0]
theorem g_:∀{l:LI},(∀x∈l,10<=x)->0<=l.sum/\ (l.length:Int)<=l.sum
 |[],_=>by simp
 |x::l,h=>by
  have h1:=h x I_;have h2:=g_ (l:=l) λy hy=>h y (G! _ hy);simp only[H',D_];omega
theorem I!(r:Int)(l:LI)(hl:l.length<=4000)(hx:∀x∈l,10<=x):∀(j i q:Nat) (n:Int),i+j=l.length->j<q->0<=n->n+(l.drop i).sum<=4000->Mw r l q n (i:Int)=some (n+(l.drop i).sum,r)
 |0,i,q+1,n,hi,_,_,_=>by
  rw[Mw,AT,A_ F4,show i=l.length by omega,L?];simp[Ahb,Ag0]
 |j+1,i,q+1,n,hi,hq,hn,hs=>by
  have hlt:i<l.length:=F0
  rw[drop_cons hlt,H']at hs⊢;have h1:=hx l[i] (D5 hlt);have h2:=g_ (l:=l.drop (i+1)) λy hy=>hx y (P1 hy);rw[Mw,AT,B2 F4,Bq hlt,Aa,Aa,Ah,Ah];have ih:=I! r l hl hx j (i+1) q (n+l[i]) F0 F0 F0 F0;rw[show((i:Int)+1)=((i+1:Nat):Int) by omega,ih];congr 2;omega
def Bw(b:LB):Int×Int:=G_ b (b.length+1) 0
theorem Ll(b:LB)(hl:b.length<4611686018427387904):Ku b=some (Bw b):=by
 have:=xN b hl (b.length+1) 0 Ax F0 F0 F0 B_;exact this
theorem EY(b:LB)(hl:b.length<4611686018427387904):Nx b=some (Bw b):=by
 have h:=Aea b hl (b.length+1) 0 Ax [] F0 F0 F0 B_ B3;have h':As9 b=some (ZQ b (b.length+1) 0 []):=h;rw[Nx,Agd,h',Aa,Bw,G_,ZQ];have ho:=zL b (b.length+1) 0 F0 F0;by_cases h0:(Cu b (b.length+1) 0).2=0
 ·obtain⟨i1,i2,i3⟩:=ho h0;have hp:=g_ i1;simp only[h0,LW,D8];have:=I! 0 (Cu b (b.length+1) 0).1 F0 i1 (Cu b (b.length+1) 0).1.length 0 Ax 0 F0 B_ F0 (by simpa using i3);simpa [AV]using this
 ·simp only[h0,IB];have:=I! (Cu b (b.length+1) 0).2 [] B3 B3 0 0 Ax 0 B3 B_ F0 B3;simpa [AV]using this
theorem EI{b:LB}(h:(Bw b).2=0):0<= (Bw b).1/\ (Bw b).1<=b.length/\ (Bw b).1<=4000:=by
 unfold Bw G_ at h⊢;split at h
 ·rename_i h0;rw[B2 h0];obtain⟨i1,i2,i3⟩:=zL b (b.length+1) 0 F0 F0 h0;have hp:=g_ i1;exact⟨by simp;omega,i2,i3⟩
 ·rename_i h0;exact absurd h h0
theorem PK{p:Prop}(h:p:=by rw[Ad,Ac,Ac];simp;omega):p:=h
def Ak(r:Nat):Nat:=max 1 (256*r/245)
theorem Du(r:Nat):1<=Ak r:=Nat.le_max_left _ _
theorem OR{r:Nat}(h:r<=1048576):Ak r<=1100000:=by unfold Ak;omega
theorem nk{r:Nat}(h:r<=1048576):pJ (1:Int) (Ca (Bm (256:Int) (r:Int)) (245:Int))=(Ak r:Int):=by
 rw[Ex,YG,R8 F0,Dt F0 F0,qd,Ak];omega
def Al(g n:Nat):LI:=List.replicate ((n-1)/g) (g:Int)++[((n-(n-1)/g*g:Nat):Int)]
theorem DE(g n:Nat):(Al g n).length=(n-1)/g+1:=by simp[Al]
theorem Aaw{g n:Nat}(h:n<=g)(h1:1<=n):Al g n=[(n:Int)]:=by
 rw[Al,MV F0];simp
theorem Abh{g n:Nat}(hg:1<=g)(h:g<n):Al g n=(g:Int)::Al g (n-g):=by
 have e:(n-1)/g=(n-g-1)/g+1:=by rw[<-vI _ F0];congr 1;omega
 rw[Al,Al,e,LY,M!];congr 4;have:=MJ (n-g-1) g;rw[C7,JK];omega
theorem Aca{g n:Nat}(hg:1<=g)(h1:1<=n):(n+g-1)/g=(n-1)/g+1:=by
 rw[<-vI _ F0];congr 1;omega
theorem lB{r:Nat}(h1:1<=r)(h:r<=1048576):Li (r:Int)=some ((Ak r:Int),0):=by
 rw[Li,A_ EE,nk h]
theorem Axn{r:Nat}(h:r<=1048576):Ur (r:Int)=some (Ak r:Int):=by rw[Ur,nk h]
theorem pT{r n:Nat}(h1:1<=r)(h:r<=1048576)(n1:1<=n)(n2:n<=4000):Lh (r:Int) (n:Int)=some (if 1000<(n-1)/Ak r+1 then(0,4)else((((n-1)/Ak r+1:Nat):Int),0)):=by
 have hp:=Du r;have hl:=OR h;have e:Ca (Aq (Ae (n:Int) (Ak r:Int)) (1:Int)) (Ak r:Int)=(((n-1)/Ak r+1:Nat):Int):=by
  have:(n+Ak r-1)/Ak r<=n+Ak r-1:=FU _ _;rw[Ah,Cb,YG,R8 F0,show(n:Int)+(Ak r:Int)-1=((n+Ak r-1:Nat):Int) by omega,<-vk,Aca hp n1];rw[Aca hp n1]at this;generalize(n-1)/Ak r=k at*
  exact Dt F0 F0
 rw[Lh,lB h1 h,Aa];simp only;rw[A_ C0,A_ EE,Br D2,Aa,e];by_cases hk:1000<(n-1)/Ak r+1
 ·rw[B2 E7,B2 hk]
 ·rw[A_ E7,A_ hk]
theorem x_{r:Nat}(h:r<=1048576):∀(j n q:Nat) (acc:LI),n<=4000->n<=j->j<q->acc.length+n<=10000->Fs (r:Int) q (n:Int) acc=some (acc++(if n=0 then []else Al (Ak r) n))
 |0,n,q+1,acc,hn,hj,hq,ha=>by
  obtain rfl:n=0:=F0
  rw[Fs,Jk,A_ O7];simp[Nj,Te]
 |j+1,n,q+1,acc,hn,hj,hq,ha=>by
  have hp:=Du r;have hl:=OR h;by_cases h0:n=0
  ·subst h0;rw[Fs,Jk,A_ O7];simp[Nj,Te]
  ·rw[Fs,Jk,B2 E7,Axn h,Aa,Bg B5,Aa,Aa,Cb,CO];by_cases hs:n<=Ak r
   ·rw[show min (n:Int) (Ak r:Int)=(n:Int) by omega,A_ h0,Aaw hs F0];have hz:∃k,q=k+1:=⟨q-1,F0⟩;obtain⟨q,rfl⟩:=hz;rw[Fs,Jk,A_ E7];simp[Nj,Te]
   ·rw[show min (n:Int) (Ak r:Int)=(Ak r:Int) by omega,show(n:Int)-(Ak r:Int)=((n-Ak r:Nat):Int) by omega,x_ h j (n-Ak r) q _ F0 F0 F0 B5,A_ F0,A_ h0,Abh hp (show Ak r<n by omega)];simp
theorem eB{r n:Nat}(h:r<=1048576)(n1:1<=n)(n2:n<=4000):Et (r:Int) (n:Int)=some (Al (Ak r) n):=by
 have:=x_ h n n Ax [] n2 (C9 _) B_ B5;rw[Et,BI,Afw,this,A_ F0];rfl
theorem mul_one(m:Nat)(h:m<=100000):IA (1:UInt64) (UInt64.ofNat m)=some (0,UInt64.ofNat m):=by
 have y1:(UInt64.ofNat m).toNat=m:=jI F0;have s1:Cy (1:UInt64) (GI.toZ (32:UInt64)).toNat=0:=F2
 have s2:Cy (UInt64.ofNat m) (GI.toZ (32:UInt64)).toNat=0:=by
  apply UInt64.toNat_inj.1;rw[HZ,y1];exact MV (P3 h F2)
 have s0:Cy (0:UInt64) (GI.toZ (32:UInt64)).toNat=0:=F2
 have a1:Fy (1:UInt64) (4294967295:UInt64)=1:=F2
 have a0:Fy (0:UInt64) (4294967295:UInt64)=0:=F2
 have a2:Fy (UInt64.ofNat m) (4294967295:UInt64)=UInt64.ofNat m:=by
  apply UInt64.toNat_inj.1;rw[R5,aJ,y1]
  show m&&& (2^32-1)=m;rw[aD,C! F0]
 have m1:∀x:UInt64,Bm 1 x=x:=λx=>by rw[WN,UInt64.one_mul]
 have m0:∀x:UInt64,Bm 0 x=0:=λx=>by rw[WN,UInt64.zero_mul]
 have p0:∀x:UInt64,Ae 0 x=x:=λx=>by rw[WW,UInt64.zero_add]
 have p1:∀x:UInt64,Ae x 0=x:=λx=>by rw[WW,UInt64.add_zero]
 rw[IA,YR];simp only[s1,s2,a1,a2,m1,m0,p0,p1,s0,a0,Aa]
theorem Bli(v:Int)(m:Nat)(hm:m<=100000):∀(j n q:Nat),1<=n->n<=m->m-n<=j->j<q->Hb q (n:Int) (List.replicate n v++List.replicate (m-n) 0)=some (List.replicate m v)
 |j,n,q+1,hn,hnm,hj,hq=>by
  have hlen:Ac (List.replicate n v++List.replicate (m-n) 0)=(m:Int):=by simp[Ac];omega
  rw[Hb,Jt,hlen];by_cases h:n<m
  ·obtain⟨j,rfl⟩:∃k,j=k+1:=⟨j-1,F0⟩;rw[B2 C1];have v1:dZ (m:Int) (n:Int) (m:Int)=some ():=by rw[dZ,Br];simp;omega
   have v2:dZ (m:Int) (0:Int) (n:Int)=some ():=by rw[dZ,Br];simp;omega
   have e1:QY (List.replicate n v++List.replicate (m-n) 0) (0:Int) ((n:Int)-0)=List.replicate n v:=by
    simp[QY]
   rw[v1,Aa,v2,Aa,e1];have e2:PO ((m:Int)-(n:Int)) (List.replicate n v).length=((min n (m-n):Nat):Int):=by
    rw[PO,J?];split<;>omega
   have e3:Ww (List.replicate n v++List.replicate (m-n) 0) (n:Int) ((m:Int)-(n:Int)) (List.replicate n v)=List.replicate (n+min n (m-n)) v++List.replicate (m-(n+min n (m-n))) 0:=by
    have t1:((m:Int)-(n:Int)).toNat=m-n:=F0
    have t2:(List.replicate n v++List.replicate (m-n) (0:Int)).take n=List.replicate n v:=by simp
    rw[Ww,t1,C2,t2,List.take_replicate,J?,<-C6,List.replicate_append_replicate,vZ,J?,Nat.min_comm (m-n) n];simp only[List.drop_replicate];rw[show n-(n+min n (m-n))=0 by omega,List.replicate_zero,D8,show m-n-(n+min n (m-n)-n)=m-(n+min n (m-n)) by omega]
   rw[e2,e3,Ah,show(n:Int)+((min n (m-n):Nat):Int)=((n+min n (m-n):Nat):Int) by omega];exact Bli v m hm j (n+min n (m-n)) q F0 F0 F0 F0
  ·rw[A_ C1];obtain rfl:n=m:=F0
   simp[Mq,Tp]
theorem Aut(v:Int)(m:Nat)(hm:m<=100000):Tj [v] (m:Int)=some (List.replicate m v):=by
 have y1:(UInt64.ofNat m).toNat=m:=jI F0;have c1:(Ag (Ac [v]):UInt64)=1:=by rfl
 have c2:(Ag (m:Int):UInt64)=UInt64.ofNat m:=AQ m;have c3:(Ag (UInt64.ofNat m):Int)=(m:Int):=by rw[qz F0,y1]
 rw[Tj,Vq,A_ J9,Abf,Vi,c1,c2,mul_one m hm,Aa];simp only;rw[A_ (by rw[iA,iA,y1];simp;show m<=9223372036854775807;omega),Aba,Vt,c3,xI,Aa,Br Qz,Aa,Abe,C2];by_cases h0:m=0
 ·subst h0;have hF:Ax=(Ax-1)+1:=by have:=Ar;omega
  rw[hF,Hb,Jt];simp[Ac,XS,PO,Ad,Mq,Tp]
 ·have:=Bli v m hm m 1 Ax F0 F0 F0 B_;have e1:PO (Ac (List.replicate m (0:Int))) [v].length=((1:Nat):Int):=by simp[PO,Ac];omega
  have e2:XS (List.replicate m (0:Int)) [v]=List.replicate 1 v++List.replicate (m-1) 0:=by
   obtain⟨k,rfl⟩:∃k,m=k+1:=⟨m-1,F0⟩;simp[XS]
  rw[e1,e2,this]
theorem Aub(l m:LI)(h:l.length+m.length<=1000000):Ta [l,m]=some (l++m):=by
 have hF:Ax=(Ax-3)+1+1+1:=by have:=Ar;omega
 rw[Ta,Vo,Ab8];have g0:Ao [l,m] (0:Int)=some l:=rfl;have g1:Ao [l,m] (1:Int)=some m:=rfl;have l2:Ac [l,m]=2:=rfl;have h3:Tu [l,m] []=some (l++m):=by
  rw[Tu,Tq,Tt,hF,Gm,Jc,l2,B2 F2,g0,Aa,Bg B5,Aa,D8,show Ae (0:Int) 1=1 by decide,
   Gm,Jc,l2,B2 F2,g1,Aa,Bg,Aa,show Ae (1:Int) 1=2 by decide,Gm,Jc,l2,A_ F2]
  rfl
 rw[hF,Ha,Jr,l2,B2 F2,g0,Aa,Ah LK LK,A_ RP,show Ae (0:Int) 1=1 by decide,
  Ha,Jr,l2,B2 F2,g1,Aa,Ah LK LK,A_ PK,show Ae (1:Int) 1=2 by decide,
  Ha,Jr,l2,A_ F2,Ab0,Tw,A_ PK,Ab1,Tr]
 have z:Aq (0:Int) 0=0:=F2
 have n0:(0:Int)+Ac l+Ac m=((l.length+m.length:Nat):Int):=by simp[Ac]
 rw[z,n0,Cb,Int.sub_zero];by_cases hp:0<l.length+m.length
 ·rw[B2 E7,show dZ (0:Int) 0 0=some ()from rfl,Aa,xI,Aa,Bg B5,Aa];rw[show dZ (Ac ([]++List.replicate ((l.length+m.length:Nat):Int).toNat (0:Int))) 0 0=some () by rw[dZ,Br];simp[Ac];omega,Aa];simp only[QY,mP,WM,J'];exact h3
 ·rw[A_ E7];exact h3
theorem Alr{r n:Nat}(h1:1<=r)(h:r<=1048576)(n1:1<=n)(n2:n<=4000)(hk:(n-1)/Ak r+1<=1000):CZ (r:Int) (n:Int)=some (Al (Ak r) n,0):=by
 have hp:=Du r;have hl:=OR h;have hd:=MJ (n-1) (Ak r);rw[CZ,pT h1 h n1 n2,A_ F0,Aa];simp only;rw[A_ C0,lB h1 h,Aa];simp only;rw[Al];generalize(n-1)/Ak r=k at*
 have e1:Aq ((k+1:Nat):Int) 1=(k:Int):=by rw[Cb];omega
 have e2:(k:Int)*(Ak r:Int)=((k*Ak r:Nat):Int):=by simp
 rw[e1,Aut _ _ F0,Aa,Ex (by rw[e2];omega) (by rw[e2];omega),e2,Cb,dQ,Aub _ _ B5,Aa,Aa,show(n:Int)-((k*Ak r:Nat):Int)=((n-k*Ak r:Nat):Int) by omega]
def Gn(f c w r n:Nat):Bool:=decide ((f=1\/f=2)/\ (1<=c/\c<=6)/\ (w=8\/w=16\/w=24)/\ (1<=r/\r<=1048576)/\1<=n)
def CI(c r n:Nat):Bool:=decide (n<=4000/c/\ (n-1)/Ak r+1<=1000)
theorem gL(f c w r n:Nat):Vh (f:Int) (c:Int) (w:Int) (r:Int) (n:Int)=some (Gn f c w r n):=by
 have e2:Xs (f:Int) (c:Int) (w:Int) (r:Int) (n:Int)=some (decide ((f=1\/f=2)/\ (1<=c/\c<=6)/\ (1<=r/\r<=1048576)/\1<=n)):=by
  rw[Xs,TH];congr 1;rw[D0];simp only[As,Ap,Qh,B8,I',D4,B7];omega
 have g:∀k:Nat,geq (w:Int) (k:Int)=decide (w=k):=λk=>by rw[As,D0];simp;omega
 have g8:geq (w:Int) (8:Int)=decide (w=8):=g 8;have g16:geq (w:Int) (16:Int)=decide (w=16):=g 16;have g24:geq (w:Int) (24:Int)=decide (w=24):=g 24;rw[Vh,SY,e2,g8,g16,g24,Gn];by_cases h8:w=8
 ·subst h8;simp
 ·by_cases h16:w=16
  ·subst h16;simp
  ·by_cases h24:w=24
   ·subst h24;simp
   ·simp[h8,h16,h24]
theorem K7(f c w r n:Nat):Mi (f:Int) (c:Int) (w:Int) (r:Int) (n:Int)=some (Gn f c w r n):=by
 rw[Mi,Gn];simp only[As,Dq,Qh,B8,I',D4,B7,RG];split
 ·rename_i h;congr 1;rw[D0];simp only[B8,I',D4,B7];omega
 ·rename_i h;congr 1;symm;rw[KV];omega
theorem Bej{c:Nat}(h:1<=c):Ca (4000:Int) (c:Int)=((4000/c:Nat):Int):=by
 have:4000/c<=4000:=FU _ _;rw[YG,R8 F0,show(4000:Int)=((4000:Nat):Int)from rfl,<-vk];generalize 4000/c=k at*
 exact Dt F0 F0
theorem yQ{f c w r n:Nat}(h:Gn f c w r n=true):XK (f:Int) (c:Int) (w:Int) (r:Int) (n:Int)=some (CI c r n):=by
 simp only[Gn,B7]at h;have hd:4000/c<=4000:=FU _ _;rw[XK,Br D2,Aa,Bej F0,CI];generalize 4000/c=m at*
 by_cases h1:n<=m
 ·rw[A_ E7,pT F0 F0 F0 F0,Aa];generalize(n-1)/Ak r+1=k;by_cases h2:1000<k
  ·rw[B2 h2];simp[As,Qh];omega
  ·rw[A_ h2];simp[As,Qh,h1];omega
 ·rw[B2 E7];simp[h1]
theorem oD{f c w r n:Nat}(h:Gn f c w r n=true):CG (f:Int) (c:Int) (w:Int) (r:Int) (n:Int)=some (!CI c r n):=by
 simp only[Gn,B7]at h;have hd:4000/c<=4000:=FU _ _;rw[CG,Br D2,Aa,Bej F0,CI];generalize 4000/c=m at*
 by_cases h1:n<=m
 ·rw[A_ E7,eB F0 F0 F0,Aa,Ac,DE];generalize(n-1)/Ak r+1=k;congr 1;rw[Ap,D0];simp only[B7,HE,KV];omega
 ·rw[B2 E7];simp[h1]
def Kt:LB:=[84,84,65,49]
def f0(b:LB):Nat:=Gw (part b 4 2)
def f1(b:LB):Nat:=Gw (part b 6 2)
def f2(b:LB):Nat:=Gw (part b 8 2)
def f3(b:LB):Nat:=Gw (part b 10 4)
def f4(b:LB):Nat:=Gw (part b 14 4)
abbrev H6:=Int×Int×Int×Int×Int×Int
def Eg(b:LB):H6:=
 if b.take (min 4 b.length)≠Kt.take (min 4 b.length)then(0,0,0,0,0,12)else if b.length<22 then(0,0,0,0,0,24)else
 if(Ff (b.take 18)).toNat≠Gw (part b 18 4)then(0,0,0,0,0,22)else
 if Gn (f0 b) (f1 b) (f2 b) (f3 b) (f4 b)=false then(0,0,0,0,0,12)else
 if CI (f1 b) (f3 b) (f4 b)=false then(0,0,0,0,0,4)else((f0 b:Int),(f1 b:Int),(f2 b:Int),(f3 b:Int),(f4 b:Int),0)
section
variable {b:LB}
theorem rs1(h:b.take (min 4 b.length)≠Kt.take (min 4 b.length)):Eg b=(0,0,0,0,0,12):=by rw[Eg,B2 h]
variable (h:b.take (min 4 b.length)=Kt.take (min 4 b.length))
include h
theorem rs2(h2:b.length<22):Eg b=(0,0,0,0,0,24):=by rw[Eg,A_ (λe=>e h),B2 h2]
variable (h2:¬b.length<22)
include h2
theorem rs3(h3:(Ff (b.take 18)).toNat≠Gw (part b 18 4)):Eg b=(0,0,0,0,0,22):=by rw[Eg,A_ (λe=>e h),A_ h2,B2 h3]
variable (h3:(Ff (b.take 18)).toNat=Gw (part b 18 4))
include h3
theorem rs4(h4:Gn (f0 b) (f1 b) (f2 b) (f3 b) (f4 b)=false):Eg b=(0,0,0,0,0,12):=by rw[Eg,A_ (λe=>e h),A_ h2,A_ (λe=>e h3),B2 h4]
variable (h4:Gn (f0 b) (f1 b) (f2 b) (f3 b) (f4 b)=true)
include h4
theorem rs5(h5:CI (f1 b) (f3 b) (f4 b)=false):Eg b=(0,0,0,0,0,4):=by rw[Eg,A_ (λe=>e h),A_ h2,A_ (λe=>e h3),A_ (by rw[h4];simp),B2 h5]
theorem rs6(h5:CI (f1 b) (f3 b) (f4 b)=true):Eg b=((f0 b:Int),(f1 b:Int),(f2 b:Int),(f3 b:Int),(f4 b:Int),0):=by rw[Eg,A_ (λe=>e h),A_ h2,A_ (λe=>e h3),A_ (by rw[h4];simp),A_ (by rw[h5];simp)]
end
theorem Avu(b:LB)(h2:¬b.length<22):Bd (Ag (Ff (b.take 18)):UInt64) (C4 (part b 18 4))=decide ((Ff (b.take 18)).toNat≠Gw (part b 18 4)):=by
 rw[aS,En,D0];simp only[LJ,ne_eq,B7];rw[<-RC,jI (by have:=(Ff (b.take 18)).toNat_lt;omega),jJ KP]
theorem uU(b:LB)(a w:Nat)(i q:Nat)(l:LI)(hi:i<5)(hl:l.length=5)(hw:Ao ([2,2,2,4,4]:LI) (i:Int)=some (w:Int))(h1:1<=w)(h4:w<=4)(ha:a+w<=b.length)(hb:b.length<4611686018427387904):
  Rt b (q+1) (a:Int) (i:Int) l=Rt b q ((a+w:Nat):Int) ((i+1:Nat):Int) (l.set i (Gw (part b a w):Int)):=by
 rw[Rt,NH,B2 C1,hw,Aa,Sk b a w h1 F0 ha hb,Aa];simp only;rw[Bq,Aa,Yb _ F0,Aa,UX (by rw[Fo ha];omega),Ah,Ah];rfl
theorem Axf(b:LB)(h22:¬b.length<22)(hb:b.length<4611686018427387904):dE b 4 0 (List.replicate 5 0)=NG [(f0 b:Int),(f1 b:Int),(f2 b:Int),(f3 b:Int),(f4 b:Int)]:=by
 have hF:Ax=(Ax-6)+1+1+1+1+1+1:=by have:=Ar;omega
 rw[dE,hF,show(4:Int)=((4:Nat):Int)from rfl,show(0:Int)=((0:Nat):Int)from rfl];rw[uU b 4 2 0 _ _ F0 B3 rfl F0 F0 F0 hb,uU b 6 2 1 _ _ F0 B3 rfl F0 F0 F0 hb,uU b 8 2 2 _ _ F0 B3 rfl F0 F0 F0 hb,
  uU b 10 4 3 _ _ F0 B3 rfl F0 F0 F0 hb,uU b 14 4 4 _ _ F0 B3 rfl F0 F0 F0 hb,Rt,NH,A_ J9]
 rfl
theorem Bk0(b:LB):Lk [84,84,65,49] (b.take (min 4 b.length))=some (decide (b.take (min 4 b.length)=Kt.take (min 4 b.length))):=by
 have hl:(b.take (min 4 b.length)).length=min 4 b.length:=by rw[C8];omega
 rw[Lk,Iu,B2 (by rw[Dq,Ac,Ac,hl];simp;omega),Ac,hl,Cx F0 B5,Aa,Aa,C2];congr 1;rw[D0];rw[B7,D4];exact eq_comm
theorem Bi8(b:LB):Fq (4:Int) (Ac b)=((min 4 b.length:Nat):Int):=by rw[CO,Ac];omega
theorem FI(b:LB)(hb:b.length<4611686018427387904):Ok b=some (Eg b):=by
 rw[Ok,eS,Bi8,Cx,Aa,C2,Bk0,Aa];by_cases h:b.take (min 4 b.length)=Kt.take (min 4 b.length)
 ·rw[A_ (by simpa using h)];by_cases h2:b.length<22
  ·rw[B2 F4,rs2 h h2]
  ·have a1:nH b 18 4=some (C4 (part b 18 4),0):=Sk b 18 4 F0 F0 F0 hb;rw[A_ F4,a1,Aa];simp only;rw[Cx,Aa,show(18:Int).toNat=18 from rfl,lu _ B5,Aa];simp only;rw[Avu b h2];by_cases h3:(Ff (b.take 18)).toNat=Gw (part b 18 4)
   ·rw[A_ (by simpa using h3),Axf b h2 hb,NG,Bm2];rw[show Ao [(f0 b:Int),(f1 b:Int),(f2 b:Int),(f3 b:Int),(f4 b:Int)] 0=some (f0 b:Int)from rfl,show Ao [(f0 b:Int),(f1 b:Int),(f2 b:Int),(f3 b:Int),(f4 b:Int)] 1=some (f1 b:Int)from rfl,show Ao [(f0 b:Int),(f1 b:Int),(f2 b:Int),(f3 b:Int),(f4 b:Int)] 2=some (f2 b:Int)from rfl,
     show Ao [(f0 b:Int),(f1 b:Int),(f2 b:Int),(f3 b:Int),(f4 b:Int)] 3=some (f3 b:Int)from rfl,show Ao [(f0 b:Int),(f1 b:Int),(f2 b:Int),(f3 b:Int),(f4 b:Int)] 4=some (f4 b:Int)from rfl]
    simp only[Aa,gL];cases h4:Gn (f0 b) (f1 b) (f2 b) (f3 b) (f4 b)with
    |false=>rw[rs4 h h2 h3 h4];rfl
    |true=>
     rw[yQ h4,A_ B3,Aa];cases h5:CI (f1 b) (f3 b) (f4 b)with
     |false=>rw[rs5 h h2 h3 h4 h5];rfl
     |true=>rw[rs6 h h2 h3 h4 h5];rfl
   ·rw[B2 (by simpa using h3),rs3 h h2 h3]
 ·rw[B2 (by simpa using h),rs1 h]
theorem lW(b:LB)(hb:b.length<4611686018427387904):Pf b=some (Eg b):=by
 rw[Pf,Aks,Bi8,Cx,Aa,C2,Cx F0 B5,Aa,C2];by_cases h:b.take (min 4 b.length)=Kt.take (min 4 b.length)
 ·rw[A_ (by rw[h];simp[Kt]),Amv,Al8];by_cases h2:b.length<22
  ·rw[B2 F4,rs2 h h2]
  ·have a1:Bp b 18 22=some (part b 18 4):=Uu 18 4;have c1:Bp b 4 6=some (part b 4 2):=Uu 4 2;have c2:Bp b 6 8=some (part b 6 2):=Uu 6 2;have c3:Bp b 8 10=some (part b 8 2):=Uu 8 2;have c4:Bp b 10 14=some (part b 10 4):=Uu 10 4;have c5:Bp b 14 18=some (part b 14 4):=Uu 14 4;have hs:Bd (C4 (part b 18 4)) (Ag (Ff (b.take 18)):UInt64)=decide ((Ff (b.take 18)).toNat≠Gw (part b 18 4)):=by
    rw[<-Avu b h2,aS,aS,D0];simp only[LJ,ne_eq];exact not_congr eq_comm
   have lp:∀a w,a+w<=b.length->Fb (part b a w)=some (C4 (part b a w)):=λa w h=>XT _ (by rw[Fo h];omega);rw[A_ F4,a1,Aa,Cx,Aa,show(18:Int).toNat=18 from rfl,lp _ _ F0,Aa,tC _ B5,Aa,hs];by_cases h3:(Ff (b.take 18)).toNat=Gw (part b 18 4)
   ·rw[A_ (by simpa using h3),Amz,Am1,c1,Aa,c2,Aa,c3,Aa,c4,Aa,c5,Aa,lp _ _ F0,Aa,lp _ _ F0,Aa,lp _ _ F0,Aa,lp _ _ F0,Aa,lp _ _ F0,Aa,
     Amd,Am0,UX KP,UX KP,UX KP,UX KP,UX KP]
    rw[show Gw (part b 4 2)=f0 b from rfl,show Gw (part b 6 2)=f1 b from rfl,show Gw (part b 8 2)=f2 b from rfl,show Gw (part b 10 4)=f3 b from rfl,show Gw (part b 14 4)=f4 b from rfl,K7,Aa];cases h4:Gn (f0 b) (f1 b) (f2 b) (f3 b) (f4 b)with
    |false=>rw[rs4 h h2 h3 h4];rfl
    |true=>
     rw[oD h4,A_ B3,Aa];cases h5:CI (f1 b) (f3 b) (f4 b)with
     |false=>rw[rs5 h h2 h3 h4 h5];rfl
     |true=>rw[rs6 h h2 h3 h4 h5];rfl
   ·rw[B2 (by simpa using h3),rs3 h h2 h3]
 ·rw[B2 (by simpa [Kt]using h),rs1 h]
theorem nI{b:LB}(h:(Eg b).2.2.2.2.2=0):Eg b=((f0 b:Int),(f1 b:Int),(f2 b:Int),(f3 b:Int),(f4 b:Int),0)/\22<=b.length/\Gn (f0 b) (f1 b) (f2 b) (f3 b) (f4 b)=true/\CI (f1 b) (f3 b) (f4 b)=true:=by
 unfold Eg at h⊢;split at h; · simp at h
 rename_i c1;rw[A_ c1];split at h; · simp at h
 rename_i c2;rw[A_ c2];split at h; · simp at h
 rename_i c3;rw[A_ c3];split at h; · simp at h
 rename_i c4;rw[A_ c4];split at h; · simp at h
 rename_i c5;rw[A_ c5];exact⟨rfl,F0,by simpa using c4,by simpa using c5⟩
theorem iG{f c w r n:Nat}(h:Gn f c w r n=true)(h2:CI c r n=true):Ec (f:Int) (c:Int) (w:Int) (r:Int) (n:Int)=some (Al (Ak r) n,0):=by
 have hc:Qk (f:Int) (c:Int) (w:Int) (r:Int) (n:Int)=some 0:=by
  rw[Qk,gL,Aa,h,A_ B3,yQ h,Aa,h2];rfl
 have hd:4000/c<=4000:=FU _ _;simp only[Gn,B7]at h;simp only[CI,B7]at h2;rw[Ec,hc,Aa,A_ C0,Alr F0 F0 F0 F0 h2.2];rfl
def okL:LI->Int->Bool
 |[],_=>true
 |x::l,left=>decide (5<=x/\x<=left)&&okL l (left-x)
theorem VH:∀l:LI,(∀x∈l,5<=x)->0<=l.sum
 |[],_=>by simp
 |x::l,h=>by
  have h1:=h x I_;have h2:=VH l λy hy=>h y (G! _ hy);rw[H'];omega
theorem FG:∀(l:LI) (left:Int),0<=left-> (okL l left=true↔(∀x∈l,5<=x)/\l.sum<=left)
 |[],left,h=>by simp[okL];exact h
 |x::l,left,h=>by
  rw[okL,B8,B7,H'];by_cases hx:5<=x/\x<=left
  ·rw[FG l (left-x) F0];constructor
   ·rintro⟨_,h1,h2⟩;exact⟨λy hy=>(List.mem_cons.1 hy).elim (λe=>e▸hx.1) (h1 y),F0⟩
   ·rintro⟨h1,h2⟩;exact⟨hx,λy hy=>h1 y (G! _ hy),F0⟩
  ·constructor
   ·rintro⟨h1,_⟩;exact absurd h1 hx
   ·rintro⟨h1,h2⟩;have h3:=h1 x I_;have:0<=l.sum:=VH l λy hy=>h1 y (G! _ hy);omega
theorem y?(l:LI)(hl:l.length<=1000):∀(j i q:Nat) (left:Int),i+j=l.length->j<q->0<=left->left<=100000->Xn l q left (i:Int)=some (if okL (l.drop i) left=true then 0 else 8)
 |0,i,q+1,left,hi,_,_,_=>by
  rw[Xn,QL,A_ F4,show i=l.length by omega,L?];rfl
 |j+1,i,q+1,left,hi,hq,h0,h1=>by
  have hlt:i<l.length:=F0
  rw[Xn,QL,B2 F4,Bq hlt,Aa,drop_cons hlt];by_cases h:5<=l[i]/\l[i]<=left
  ·rw[A_ EE,Cb,Ah];have ih:=y? l hl j (i+1) q (left-l[i]) F0 F0 F0 F0;rw[show((i:Int)+1)=((i+1:Nat):Int) by omega,ih];simp[okL,h]
  ·rw[B2 EE];have:okL (l[i]::l.drop (i+1)) left=false:=by rw[okL,E5 h];rfl
   rw[this];rfl
def Vm(l:LI):Bool:=decide (1<=l.length/\l.length<=1000)&&okL l 100000
theorem Ahn(l:LI)(hl:l.length<=1000):Ra l=some (if Vm l=true then 0 else 8):=by
 rw[Ra,PM,Vm];by_cases h:1<=l.length
 ·rw[A_ (by rw[As,Ap,Ac];simp;constructor;(intro e;subst e;simp at h);omega),Bl6];have:=y? l hl l.length 0 Ax 100000 F0 B_ F0 F0;rw[LG]at this;rw[K! (show 1<=l.length/\l.length<=1000 from⟨h,hl⟩),M8];exact this
 ·have:l=[]:=by
   cases l with
   |nil=>rfl
   |cons _ _=>simp at h
  subst this;rfl
theorem Ad8(l:LI)(hl:l.length<=1000):∀(j i q:Nat) (s:Int),i+j=l.length->j<q->0<=s->s<=100000*(i:Int)->Nh l q s (i:Int)=some (if(∀x∈l.drop i,5<=x/\x<=100000)/\s+(l.drop i).sum<=100000 then 0 else 8)
 |0,i,q+1,s,hi,_,_,_=>by
  rw[Nh,BJ,A_ F4,show i=l.length by omega,L?,Af5,Aff];by_cases h:s<=100000
  ·rw[A_ E7,B2 B5]
  ·rw[B2 E7,A_ B5]
 |j+1,i,q+1,s,hi,hq,h0,h1=>by
  have hlt:i<l.length:=F0
  rw[Nh,BJ,B2 F4,Bq hlt,Aa,drop_cons hlt];by_cases h5:l[i]<5
  ·rw[B2 (by rw[Ad];simpa using h5),A_ (λh=>by have:=(h.1 l[i] I_).1;omega)]
  ·rw[A_ (by rw[Ad];simpa using h5),Aa];by_cases h6:100000<l[i]
   ·rw[B2 (by rw[Ap];simpa using h6),A_ (λh=>by have:=(h.1 l[i] I_).2;omega)]
   ·rw[A_ (by rw[Ap];simpa using h6),Agi,Age,Bq hlt,Aa,Ah,Ah];have ih:=Ad8 l hl j (i+1) q (s+l[i]) F0 F0 F0 F0;rw[show((i:Int)+1)=((i+1:Nat):Int) by omega,ih];have e:((∀x∈l.drop (i+1),5<=x/\x<=100000)/\s+l[i]+(l.drop (i+1)).sum<=100000)↔((∀x∈l[i]::l.drop (i+1),5<=x/\x<=100000)/\s+(l[i]::l.drop (i+1)).sum<=100000):=by
     rw[H',List.forall_mem_cons,RJ];constructor
     ·rintro⟨a,b⟩;exact⟨⟨F0,a⟩,b⟩
     ·rintro⟨⟨_,a⟩,b⟩;exact⟨a,b⟩
    simp only[e]
theorem G2:∀{l:LI},(∀x∈l,5<=x)->∀x∈l,x<=l.sum
 |[],_,x,hx=>by simp at hx
 |y::l,h,x,hx=>by
  have h1:=h y I_;have h2:=VH l λz hz=>h z (G! _ hz);rw[H'];rcases List.mem_cons.1 hx with rfl|hx
  ·omega
  ·have:=G2 (l:=l) (λz hz=>h z (G! _ hz)) x hx;omega
theorem Ali(l:LI)(hl:l.length<=1000):Kb l=some (if Vm l=true then 0 else 8):=by
 rw[Kb,AU,Vm];by_cases h:1<=l.length
 ·have:=Ad8 l hl l.length 0 Ax 0 F0 B_ F0 F0;rw[A_ (by rw[Ad,Ap,Ac];simp;omega),Agv];refine F? this ?_;rw[LG,K! (show 1<=l.length/\l.length<=1000 from⟨h,hl⟩),M8];have e:((∀x∈l,5<=x/\x<=100000)/\0+l.sum<=100000)↔okL l 100000=true:=by
   rw[FG l 100000 F0,Int.zero_add];constructor
   ·rintro⟨a,b⟩;exact⟨λx hx=>(a x hx).1,b⟩
   ·rintro⟨a,b⟩;exact⟨λx hx=>⟨a x hx,Int.le_trans (G2 a x hx) b⟩,b⟩
  simp only[e]
 ·have:l=[]:=by
   cases l with
   |nil=>rfl
   |cons _ _=>simp at h
  subst this;rfl
theorem bS(l:LI):Ra l=some (if Vm l=true then 0 else 8):=by
 by_cases hl:l.length<=1000
 ·exact Ahn l hl
 ·rw[Ra,PM,B2 C3,Vm,E5 F0];rfl
theorem jY(l:LI):Kb l=some (if Vm l=true then 0 else 8):=by
 by_cases hl:l.length<=1000
 ·exact Ali l hl
 ·rw[Kb,AU,B2 C3,Vm,E5 F0];rfl
theorem yc(l:LI)(hl:l.length<=1000)(hx:∀x∈l,0<=x/\x<4294967296):Ra l=some (if Vm l=true then 0 else 8):=bS l
theorem Asu(l:LI)(hl:l.length<=1000)(hx:∀x∈l,0<=x/\x<4294967296):Kb l=some (if Vm l=true then 0 else 8):=jY l
def XW(b:LB)(n:Nat):LI:=(List.range n).map λi=>(Gw (part b (4*i) 4):Int)
theorem Xu(b:LB)(n:Nat):(XW b n).length=n:=by simp[XW]
theorem Adg(b:LB)(n:Nat):XW b (n+1)=XW b n++[(Gw (part b (4*n) 4):Int)]:=by simp[XW,WJ]
theorem Ao7(b:LB)(n:Nat)(h:4*n<=b.length):∀x∈XW b n,0<=x/\x<4294967296:=by
 intro x hx;simp only[XW,bG,lS]at hx;obtain⟨i,hi,rfl⟩:=hx;have:=Aqx (l:=part b (4*i) 4) KP;omega
def Ez(b:LB)(n:Nat):LI×Int:=
 if ¬(1<=n/\n<=1000)then([],2)else if b.length<4*n+4 then([],24)else if(Ff (b.take (4*n))).toNat≠Gw (part b (4*n) 4)then([],22)else
 if Vm (XW b n)=true then(XW b n,0)else([],12)
theorem Aqm{b:LB}{n:Nat}(h:1<=n/\n<=1000)(h2:¬b.length<4*n+4):Bd (Ag (Ff (b.take (4*n))):UInt64) (C4 (part b (4*n) 4))=decide ((Ff (b.take (4*n))).toNat≠Gw (part b (4*n) 4)):=by
 rw[aS,En,D0];simp only[LJ,ne_eq,B7];rw[<-RC,jI (by have:=(Ff (b.take (4*n))).toNat_lt;omega),jJ KP]
section
variable {b:LB} {n:Nat}
theorem ss1(h:¬(1<=n/\n<=1000)):Ez b n=([],2):=by rw[Ez,B2 h]
variable (h:1<=n/\n<=1000)
include h
theorem ss2(h2:b.length<4*n+4):Ez b n=([],24):=by rw[Ez,A_ (λe=>e h),B2 h2]
variable (h2:¬b.length<4*n+4)
include h2
theorem ss3(h3:(Ff (b.take (4*n))).toNat≠Gw (part b (4*n) 4)):Ez b n=([],22):=by rw[Ez,A_ (λe=>e h),A_ h2,B2 h3]
theorem ss4(h3:(Ff (b.take (4*n))).toNat=Gw (part b (4*n) 4)):Ez b n=if Vm (XW b n)=true then(XW b n,0)else([],12):=by rw[Ez,A_ (λe=>e h),A_ h2,A_ (λe=>e h3)]
end
theorem zy(b:LB)(l8:LI)(n:Nat)(hn:n<=1000)(h8:l8.length=n)(hb:4*n+4<=b.length)(hb2:b.length<4611686018427387904):∀(j i q:Nat),i+j=n->j<q->AI b l8 q (i:Int) (XW b i++List.replicate j 0)=UL (XW b n)
 |0,i,q+1,hi,_=>by
  obtain rfl:i=n:=F0
  rw[AI,UP,A_ F4];simp
 |j+1,i,q+1,hi,hq=>by
  have hlen:(XW b i++List.replicate (j+1) 0).length=i+(j+1):=by simp[Xu]
  have ha:=Sk b (4*i) 4 F0 F0 F0 hb2;rw[AI,UP,B2 F4,Ex,show(4:Int)*(i:Int)=((4*i:Nat):Int) by omega,show(4:Int)=((4:Nat):Int)from rfl,ha,Aa];simp only;rw[Bq (by rw[hlen];omega),Aa,Yb _ (by rw[hlen];omega),Aa,UX KP,Ah,LY,oT (Xu _ _)];have ih:=zy b l8 n hn h8 hb hb2 j (i+1) q F0 F0;rw[Adg]at ih;rw[show((i:Int)+1)=((i+1:Nat):Int) by omega,<-ih];simp
theorem zN(b:LB)(n:Nat)(hb:b.length<=100100):JT b (n:Int)=some (Ez b n):=by
 rw[JT,kV];by_cases h:1<=n/\n<=1000
 ·rw[A_ EE,Ex,Ah];by_cases h2:b.length<4*n+4
  ·rw[B2 F4,ss2 h h2]
  ·have ha:nH b (4*(n:Int)) 4=some (C4 (part b (4*n) 4),0):=by
    rw[show(4:Int)*(n:Int)=((4*n:Nat):Int) by omega];exact Sk b (4*n) 4 F0 F0 F0 F0
   rw[A_ F4,ha,Aa];simp only;rw[Cx,Aa,show(4*(n:Int)).toNat=4*n by omega,lu _ B5,Aa];simp only;rw[Aqm h h2];by_cases h3:(Ff (b.take (4*n))).toNat=Gw (part b (4*n) 4)
   ·have hlp:=zy b (List.replicate n 0) n F0 B3 F0 F0 n 0 Ax F0 B_;rw[A_ (by simpa using h3),xI,Aa,Br Qz,Aa,Aae,C2];refine F? (hlp) ?_;rw[UL,Aay,yc _ (by rw[Xu];omega) (Ao7 b n F0),Aa,ss4 h h2 h3];cases Vm (XW b n)<;>rfl
   ·rw[B2 (by simpa using h3),ss3 h h2 h3]
 ·rw[B2 EE,ss1 h]
theorem Aan(b:LB)(n:Nat)(hn:n<=1000)(hb:4*n+4<=b.length)(hb2:b.length<4611686018427387904):∀(j i q:Nat),i+j=n->j<q->Og b (n:Int) q (i:Int) (XW b i)=DM (XW b n)
 |0,i,q+1,hi,_=>by
  obtain rfl:i=n:=F0
  rw[Og,DG,A_ J9]
 |j+1,i,q+1,hi,hq=>by
  have hc:Bp b ((4:Int)*(i:Int)) ((4:Int)*(i:Int)+4)=some (part b (4*i) 4):=by
   rw[show(4:Int)*(i:Int)=((4*i:Nat):Int) by omega];exact Uu (4*i) 4
  rw[Og,DG,B2 C1,Ex,Ah,hc,Aa,XT _ KP,Aa,Bg (by rw[Xu];simp;omega),Aa,
   UX KP,Ah,<-Adg]
  exact Aan b n hn hb hb2 j (i+1) q F0 F0
theorem oL(b:LB)(n:Nat)(hb:b.length<=100100):Uy b (n:Int)=some (Ez b n):=by
 rw[Uy,Ahu];by_cases h:1<=n/\n<=1000
 ·rw[A_ EE,Ex,Ah];by_cases h2:b.length<4*n+4
  ·rw[B2 F4,ss2 h h2]
  ·have hc:Bp b ((4:Int)*(n:Int)) ((4:Int)*(n:Int)+4)=some (part b (4*n) 4):=by
    rw[show(4:Int)*(n:Int)=((4*n:Nat):Int) by omega];exact Uu (4*n) 4
   have hs:Bd (C4 (part b (4*n) 4)) (Ag (Ff (b.take (4*n))):UInt64)=decide ((Ff (b.take (4*n))).toNat≠Gw (part b (4*n) 4)):=by
    rw[<-Aqm h h2,aS,aS,D0];simp only[LJ,ne_eq];exact not_congr eq_comm
   rw[A_ F4,hc,Aa,Cx,Aa,show(4*(n:Int)).toNat=4*n by omega,XT _ KP,Aa,tC _ B5,Aa,hs];by_cases h3:(Ff (b.take (4*n))).toNat=Gw (part b (4*n) 4)
   ·have hlp:=Aan b n F0 F0 F0 n 0 Ax F0 B_;rw[A_ (by simpa using h3),Al0,Aht,An2];refine F? hlp ?_;rw[DM,Amb,Asu _ (by rw[Xu];omega) (Ao7 b n F0),Aa,ss4 h h2 h3];cases Vm (XW b n)<;>rfl
   ·rw[B2 (by simpa using h3),ss3 h h2 h3]
 ·rw[B2 EE,ss1 h]
theorem mC{b:LB}{n:Nat}(h:(Ez b n).2=0):Ez b n=(XW b n,0)/\1<=n/\n<=1000/\4*n+4<=b.length/\ (∀x∈XW b n,5<=x)/\ (XW b n).sum<=100000:=by
 unfold Ez at h⊢;split at h; · simp at h
 rename_i c1;rw[A_ c1];split at h; · simp at h
 rename_i c2;rw[A_ c2];split at h; · simp at h
 rename_i c3;rw[A_ c3];split at h
 ·rename_i c4;rw[B2 c4];have c4':=c4;rw[Vm,B8,FG _ _ F0]at c4';exact⟨rfl,F0,F0,F0,c4'.2.1,c4'.2.2⟩
 ·simp at h
theorem nO{p:Prop}(h:p:=by rw[Ac];omega):p:=h
def Jl(b:LB):LB:=b.drop (Bw b).1.toNat
abbrev Op8:=Int×Int×Int×Int×Int×Int×LI×Int
def HO(e:Int):Op8:=(0,0,0,0,0,0,[],e)
theorem XG(A K:Nat)(h:A<=200000)(hk:K<=1000):Ae (Ae (A:Int) (Bm 4 (K:Int))) 4=((A+4*K+4:Nat):Int):=by
 rw[Ex,Ah (a:=(A:Int)) F0 F0,Ah];omega
theorem mM{f c w r n:Nat}(h1:Gn f c w r n=true)(h2:CI c r n=true)(b:LB)(hb:b.length<=100100)(A:Nat)(hA:A<=b.length):
  On b (f:Int) (c:Int) (w:Int) (r:Int) (n:Int) (A:Int)=
   some (if(Ez (b.drop A) (Al (Ak r) n).length).2≠0 then HO (Ez (b.drop A) (Al (Ak r) n).length).2 else((f:Int),(c:Int),(w:Int),(r:Int),(n:Int),((A+4*(Al (Ak r) n).length+4:Nat):Int),(Ez (b.drop A) (Al (Ak r) n).length).1,0)):=by
 rw[On,Bki,iG h1 h2,Aa];simp only;rw[A_ C0,Bu,Aa,Ac,show(A:Int).toNat=A from rfl,zN _ _ B5,Aa];by_cases h:(Ez (b.drop A) (Al (Ak r) n).length).2≠0
 ·rw[B2 h,B2 (by rw[Aj];simpa using h)];rfl
 ·have h0:(Ez (b.drop A) (Al (Ak r) n).length).2=0:=by simpa using h
  obtain⟨g1,g2,g3,g4,g5,g6⟩:=mC h0;have gl:(Ez (b.drop A) (Al (Ak r) n).length).1.length=(Al (Ak r) n).length:=by rw[g1];exact Xu _ _
  rw[A_ h,A_ (by rw[Aj];simpa using h),Ac,gl,XG _ _ F0 F0]
theorem Av9{f c w r n:Nat}(h1:Gn f c w r n=true)(h2:CI c r n=true)(b:LB)(hb:b.length<=100100)(A:Nat)(hA:A<=b.length):
  Qn b (f:Int) (c:Int) (w:Int) (r:Int) (n:Int) (A:Int)=
   some (if(Ez (b.drop A) (Al (Ak r) n).length).2≠0 then HO (Ez (b.drop A) (Al (Ak r) n).length).2 else((f:Int),(c:Int),(w:Int),(r:Int),(n:Int),((A+4*(Al (Ak r) n).length+4:Nat):Int),(Ez (b.drop A) (Al (Ak r) n).length).1,0)):=by
 have hs:(1<=r/\r<=1048576)/\1<=n/\1<=c:=by
  simp only[Gn,B7]at h1;omega
 have hf:n<=4000:=by
  simp only[CI,B7]at h2;have:=FU 4000 c;omega
 rw[Qn,Acw,Bu,Aa,eB hs.1.2 hs.2.1 hf,Aa,Ac,show(A:Int).toNat=A from rfl,oL _ _ B5,Aa];simp only;rw[Acv,Acz];by_cases h:(Ez (b.drop A) (Al (Ak r) n).length).2≠0
 ·rw[B2 h,B2 (by rw[Aj];simpa using h)];rfl
 ·have h0:(Ez (b.drop A) (Al (Ak r) n).length).2=0:=by simpa using h
  obtain⟨g1,g2,g3,g4,g5,g6⟩:=mC h0;have gl:(Ez (b.drop A) (Al (Ak r) n).length).1.length=(Al (Ak r) n).length:=by rw[g1];exact Xu _ _
  rw[A_ h,A_ (by rw[Aj];simpa using h),Ac,gl,XG _ _ F0 F0]
structure Opn (b p:LB) (f c w r n A:Nat) (l:LI):Prop where
 prog:Cf b p=some ((f:Int),(c:Int),(w:Int),(r:Int),(n:Int),(A:Int),l,0)
 ref:Fz b p=some ((f:Int),(c:Int),(w:Int),(r:Int),(n:Int),(A:Int),l,0)
 pass:p.length<=64
 file:b.length<=100000
 shape:Gn f c w r n=true
 fit:CI c r n=true
 len:l.length=(Al (Ak r) n).length
 some1:1<=l.length/\l.length<=1000
 five:∀x∈l,5<=x
 sum:l.sum<=100000
 at':A<=b.length
 tag:(Bw b).2=0
 head:Eg (Jl b)=((f:Int),(c:Int),(w:Int),(r:Int),(n:Int),0)
 tab:Ez (b.drop ((Bw b).1.toNat+22+(if f=2 then 8 else 0))) l.length=(l,0)
 pos:A=(Bw b).1.toNat+22+(if f=2 then 8 else 0)+4*l.length+4
theorem V9(b p:LB)(hb:b.length<=100100)(hp:p.length<=64):
  (∃e:Int,e≠0/\Cf b p=some (HO e)/\Fz b p=some (HO e))\/ (∃f c w r n A l,Opn b p f c w r n A l):=by
 by_cases h1:100000<b.length
 ·refine .inl ⟨4,F0,?_,?_⟩
  ·rw[Cf,Of,A_ C3,B2 C3];rfl
  ·rw[Fz,Yo,B2 C3];rfl
 have hP:Cf b p=Cf b p:=rfl;have hR:Fz b p=Fz b p:=rfl
 conv at hP=>rhs;rw[Cf,Of,A_ C3,A_ C3,Ll b F0,Aa]
 conv at hR=>rhs;rw[Fz,Yo,A_ C3,EY b F0,Aa]
 by_cases h2:(Bw b).2=0
 ·obtain⟨p0,p1,p2⟩:=EI h2;have hc:=Bu (l:=b) p0 p1;simp only[h2]at hP hR;rw[A_ C0,hc,Aa,show b.drop (Bw b).1.toNat=Jl b from rfl,FI _ (by simp[Jl];omega),Aa]at hP;rw[A_ C0,hc,Aa,show b.drop (Bw b).1.toNat=Jl b from rfl,lW _ (by simp[Jl];omega),Aa]at hR;by_cases h3:(Eg (Jl b)).2.2.2.2.2=0
  ·obtain⟨g1,g2,g3,g4⟩:=nI h3;have hlen:(Jl b).length=b.length-(Bw b).1.toNat:=by simp[Jl]
   generalize hF:(Bw b).1.toNat=F at*
   have hF':(Bw b).1=(F:Int):=F0
   rw[g1,hF']at hP hR;simp only at hP hR;generalize f0 (Jl b)=f at*
   generalize f1 (Jl b)=c at*
   generalize f2 (Jl b)=w at*
   generalize f3 (Jl b)=r at*
   generalize f4 (Jl b)=n at*
   have t22:Ae (F:Int) 22=((F+22:Nat):Int):=by rw[Ah];omega
   have t30:Ae ((F+22:Nat):Int) 8=((F+30:Nat):Int):=by rw[Ah];omega
   have Bj7:f=1\/f=2:=by simp only[Gn,B7]at g3;omega
   rw[A_ C0,t22,t30]at hP hR;have hend:∀A:Nat,A<=b.length->A=F+22+(if f=2 then 8 else 0)->Cf b p=On b (f:Int) (c:Int) (w:Int) (r:Int) (n:Int) (A:Int)->Fz b p=Qn b (f:Int) (c:Int) (w:Int) (r:Int) (n:Int) (A:Int)->
     (∃e:Int,e≠0/\Cf b p=some (HO e)/\Fz b p=some (HO e))\/ (∃f c w r n A l,Opn b p f c w r n A l):=by
    intro A hA hA2 e1 e2;rw[mM g3 g4 b hb A hA]at e1;rw[Av9 g3 g4 b hb A hA]at e2;by_cases h:(Ez (b.drop A) (Al (Ak r) n).length).2≠0
    ·rw[B2 h]at e1 e2;exact .inl ⟨_,h,e1,e2⟩
    ·have h0:(Ez (b.drop A) (Al (Ak r) n).length).2=0:=by simpa using h
     obtain⟨k1,k2,k3,k4,k5,k6⟩:=mC h0;have gl:(Ez (b.drop A) (Al (Ak r) n).length).1.length=(Al (Ak r) n).length:=by rw[k1];exact Xu _ _
     rw[A_ h]at e1 e2;rw[D3]at k4;refine .inr ⟨f,c,w,r,n,_,_,⟨e1,e2,hp,F0,g3,g4,gl,F0,by rw[k1];exact k5,by rw[k1];exact k6,F0,h2,g1,by rw[gl,hF,<-hA2];exact Prod.ext rfl h0,by rw[gl,hF,<-hA2]⟩⟩
   by_cases QX:((p==([]:LB)) !=(geq (f:Int) (1:Int)))=true
   ·rw[B2 QX]at hP hR;exact .inl ⟨26,F0,hP,hR⟩
   ·rw[A_ QX]at hP hR;have hpf:(p=[]↔f=1):=by
     rw[As]at QX;have h5:(p==([]:LB))=((f:Int)==1):=by simpa using QX
     have h6:(p==([]:LB))=true↔((f:Int)==1)=true:=by rw[h5]
     rw[D4,D4]at h6;rw[h6];omega
    by_cases h5:f=2
    ·have VR:p≠ []:=λe=>by have:=hpf.1 e;omega
     have h64:(p !=([]:LB))=true:=by simpa using VR
     rw[B2 h64]at hP;rw[B2 (by rw[As,h5];rfl),Cb nO nO]at hR;by_cases h6:b.length<F+30
     ·rw[B2 F4]at hP hR;exact .inl ⟨24,F0,hP,hR⟩
     ·have hseg:((b.take (F+30)).drop (F+22)).length=8:=by simp;omega
      rw[A_ F4,Sa,Aa]at hP hR;rw[Qt,mE p hp,Aa]at hP;rw[lD p hp,Aa]at hR;simp only at hP;rw[A_ (by rw[Aj,Aj,Ac,Ac,Cn,show((F+30:Nat):Int).toNat=F+30 from rfl,show((F+22:Nat):Int).toNat=F+22 from rfl,hseg];simp),Jj,Aa,Aa]at hP;simp only at hP;rw[A_ C0]at hP;generalize(b.take ((F+30:Nat):Int).toNat).drop ((F+22:Nat):Int).toNat=seg at*
      by_cases h7:seg=Uc (Vy p).toNat 8
      ·rw[A_ (by simp[h7])]at hP;rw[A_ (by simp[h7])]at hR;exact hend (F+30) F0 (by rw[B2 h5]) hP hR
      ·rw[B2 (by simpa using h7)]at hP;rw[B2 (by simpa using h7)]at hR;exact .inl ⟨26,F0,hP,hR⟩
    ·have hpe:p=[]:=hpf.2 F0;rw[A_ (by rw[hpe];simp)]at hP;rw[A_ E6]at hR;exact hend (F+22) F0 (by rw[A_ h5]) hP hR
  ·generalize Eg (Jl b)=v at*
   obtain⟨v1,v2,v3,v4,v5,v6⟩:=v;simp only at h3 hP hR;rw[B2 (by rw[Aj];simpa using h3)]at hP hR;exact .inl ⟨v6,h3,hP,hR⟩
 ·generalize Bw b=v at*
  obtain⟨v,e⟩:=v;simp only at h2 hP hR;rw[B2 (by rw[Aj];simpa using h2)]at hP hR;exact .inl ⟨e,h2,hP,hR⟩
theorem Aew(l:LI)(i:Nat):(l.take i).sum+(l.drop i).sum=l.sum:=by
 conv=>rhs;rw[<-JY i l,RF]
theorem Fk{l:LI}(h5:∀x∈l,5<=x)(i:Nat):0<= (l.take i).sum/\ (l.take i).sum<=l.sum:=by
 have h1:=VH (l.take i) λx hx=>h5 x (aH hx);have h2:=VH (l.drop i) λx hx=>h5 x (P1 hx);have:=Aew l i;omega
theorem Fj{l:LI}{i:Nat}(h:i<l.length):(l.take (i+1)).sum=(l.take i).sum+l[i]:=by
 rw[Iq h,RF];simp
def Y1(l:LI)(n:Nat):LI:=(List.range n).map λi=>(l.take i).sum
theorem Aju(l:LI)(n:Nat):(Y1 l n).length=n:=by simp[Y1]
theorem Atf(l:LI)(n:Nat):Y1 l (n+1)=Y1 l n++[(l.take n).sum]:=by simp[Y1,WJ]
theorem V!(l:LI){n i:Nat}(h:i<n):Ao (Y1 l n) (i:Int)=some ((l.take i).sum):=by
 rw[Bq (by rw[Aju];exact h)];simp[Y1]
section
variable {l:LI} (hl:l.length<=1000) (h5:∀x∈l,5<=x) (hs:l.sum<=100000)
include hl h5 hs
theorem zU:∀(j i q:Nat),i+j=l.length->j<q->Rr l q (i:Int) ((l.take i).sum) (Y1 l (i+1))=some (Y1 l (l.length+1),0)
 |0,i,q+1,hi,_=>by
  rw[Rr,EW,A_ F4,show i=l.length by omega];rfl
 |j+1,i,q+1,hi,hq=>by
  have hlt:i<l.length:=F0
  have ih:=zU j (i+1) q F0 F0;have b1:=Fk h5 i;have b2:=Fk h5 (i+1);have e:=Fj hlt;rw[Atf l (i+1),e]at ih;rw[Rr,EW,B2 F4,Bq hlt,Aa,Ah,Bg (by simp[Aju];omega),Aa,TS,Bds,Ah,Ah];exact ih
theorem Bcd(h1:1<=l.length):UY l=some (Y1 l (l.length+1),0):=by
 have h:=zU hl h5 hs l.length 0 Ax F0 B_;have hx:∀x∈l,0<=x/\x<4294967296:=λx hx=>by
  have:=G2 h5 x hx;have:=h5 x hx;omega
 have ht:Vm l=true:=by
  rw[Vm,B8];exact⟨by simpa using⟨h1,hl⟩,(FG l 100000 F0).2 ⟨h5,hs⟩⟩
 rw[UY,TX,yc l hl hx,Aa,B2 ht,A_ C0];exact h
theorem Bez (f c w r n A:Int)(hA:0<=A)(hA2:A<=200000)(k:Nat)(hk:k<=l.length):∀(j i q:Nat),i+j=k->j<q->Nd (k:Int) f c w r n A l q (A+(l.take i).sum) (i:Int)=some (A+(l.take k).sum)
 |0,i,q+1,hi,_=>by
  rw[Nd,AZ,A_ C1,show i=k by omega];rfl
 |j+1,i,q+1,hi,hq=>by
  have hlt:i<l.length:=F0
  have ih:=Bez f c w r n A hA hA2 k hk j (i+1) q F0 F0;have b1:=Fk h5 i;have b2:=Fk h5 (i+1);have e:=Fj hlt;rw[e,<-RJ]at ih;rw[Nd,AZ,B2 C1,Bq hlt,Aa,Ah,Ah];exact ih
theorem Asf(f c w r n A:Int)(hA:0<=A)(hA2:A<=200000)(k:Nat)(hk:k<=l.length):Aqp f c w r n A l (k:Int)=some (A+(l.take k).sum):=by
 have h:=Bez hl h5 hs f c w r n A hA hA2 k hk k 0 Ax F0 B_;rw[J',M7,X0]at h;exact h
end
theorem Yt{g n:Nat}(hg:1<=g)(hn:1<=n){x:Int}(h:x∈Al g n):∃m:Nat,x=m/\1<=m/\m<=n:=by
 have hmul:=MJ (n-1) g;rw[Al,WH]at h;rcases h with h|h
 ·rw[List.mem_replicate]at h;have h1:1<= (n-1)/g:=Nat.pos_of_ne_zero h.1;have:=C? g h1;exact⟨g,h.2,hg,F0⟩
 ·rw[jv]at h;exact⟨_,h,F0,F0⟩
theorem My{f c w r n:Nat}(h:Gn f c w r n=true):(1<=c/\c<=6)/\Bn (w:Int)/\ (1<=r/\r<=1048576)/\1<=n/\ (f=1\/f=2):=by
 simp only[Gn,B7]at h;refine⟨h.2.1,?_,h.2.2.2.1,h.2.2.2.2,h.1⟩;rcases h.2.2.1 with rfl|rfl|rfl
 ·exact .inl rfl
 ·exact .inr (.inl rfl)
 ·exact .inr (.inr rfl)
theorem MC{p:Prop}(h:p:=by rw[C8];omega):p:=h
theorem Bfb(n m:Nat):Ty n m 0≠Ty n m 2147483648:=by
 intro h;simp[Ty,Uc,yu]at h
def Ds(b:LB):LB:=b.drop (b.length-32)
theorem Ai4{b:LB}(h:32<=b.length):(Ds b).length=32:=by rw[Ds,D3];omega
def SA(t:LB):Nat:=Gw (part t 12 4)-32
def Z? (t:LB):Nat:=Gw (part t 16 4)
def DK(b:LB):Int×Int:=
 if ¬(32<=b.length/\ (Ds b).take 8=yu)then(0,6)else if ML (Ds b)=true then(0,12)else
 if Ds b=Ty (SA (Ds b)) (Z? (Ds b)) 0 then(if b.length<SA (Ds b)+32 then(0,24)else(((SA (Ds b)+32:Nat):Int),0))else
 if Ds b≠Ty (SA (Ds b)) (Z? (Ds b)) 2147483648 then(0,12)else
 if b.length<SA (Ds b)+64 then(0,24)else
 if(b.take (b.length-(SA (Ds b)+64)+32)).drop (b.length-(SA (Ds b)+64))≠Ty (SA (Ds b)) (Z? (Ds b)) 2684354560 then(0,12)else(((SA (Ds b)+64:Nat):Int),0)
section
variable {b:LB}
theorem ba1(h:¬(32<=b.length/\ (Ds b).take 8=yu)):DK b=(0,6):=by rw[DK,B2 h]
variable (h:32<=b.length/\ (Ds b).take 8=yu)
include h
theorem ba2(h2:ML (Ds b)=true):DK b=(0,12):=by rw[DK,A_ (λh'=>h' h),B2 h2]
variable (h2:ML (Ds b)=false)
include h2
theorem ba3(h3:Ds b=Ty (SA (Ds b)) (Z? (Ds b)) 0):DK b=if b.length<SA (Ds b)+32 then(0,24)else(((SA (Ds b)+32:Nat):Int),0):=by
 rw[DK,A_ (λh'=>h' h),A_ (by rw[h2];simp),B2 h3]
variable (h3:Ds b≠Ty (SA (Ds b)) (Z? (Ds b)) 0)
include h3
theorem ba4(h4:Ds b≠Ty (SA (Ds b)) (Z? (Ds b)) 2147483648):DK b=(0,12):=by
 rw[DK,A_ (λh'=>h' h),A_ (by rw[h2];simp),A_ h3,B2 h4]
variable (h4:Ds b=Ty (SA (Ds b)) (Z? (Ds b)) 2147483648)
include h4
theorem ba5(h5:b.length<SA (Ds b)+64):DK b=(0,24):=by
 rw[DK,A_ (λh'=>h' h),A_ (by rw[h2];simp),A_ h3,A_ (λe=>e h4),B2 h5]
theorem ba6(h5:¬b.length<SA (Ds b)+64):DK b=if(b.take (b.length-(SA (Ds b)+64)+32)).drop (b.length-(SA (Ds b)+64))≠Ty (SA (Ds b)) (Z? (Ds b)) 2684354560 then(0,12)else(((SA (Ds b)+64:Nat):Int),0):=by
 rw[DK,A_ (λh'=>h' h),A_ (by rw[h2];simp),A_ h3,A_ (λe=>e h4),A_ h5]
end
theorem Ai1{b:LB}{n:Int}(h:DK b=(n,0)):32<=n/\n<=b.length:=by
 unfold DK at h;split at h; · simp at h
 rename_i h32;split at h; · simp at h
 split at h
 ·split at h; · simp at h
  simp only[BS,M?]at h;omega
 split at h; · simp at h
 split at h; · simp at h
 split at h; · simp at h
 simp only[BS,M?]at h;omega
theorem As4{b:LB}(h:(DK b).2≠0):(DK b).1=0:=by
 revert h
 unfold DK;split; · simp
 split; · simp
 split
 ·split<;>simp
 split; · simp
 split; · simp
 split<;>simp
theorem Ayl{b:LB}(h:32<=b.length)(hl:b.length<4611686018427387904):Aq (Ac b) 32=((b.length-32:Nat):Int)/\Bp b ((b.length-32:Nat):Int) (Ac b)=some (Ds b):=by
 refine⟨by rw[Ac,Cb];omega,?_⟩;rw[Bu];rfl
theorem Au2(b:LB)(hl:b.length<4611686018427387904):P2 b=some (DK b):=by
 rw[P2,Bmf];by_cases h32:32<=b.length
 ·obtain⟨e1,e2⟩:=Ayl h32 hl;have hl3:=Ai4 h32;rw[A_ (by rw[e1,Ad];simp),e1,e2,Aa,pV,Aa];by_cases hp:(Ds b).take 8=yu
  ·have h:=And.intro h32 hp;rw[A_ (by simpa [yu,hl3]using hp),Bhw,Bmp,e1,e2,Aa,qG _ 0 F0 F0 F2,Aa];cases hb:ML (Ds b)with
   |true=>
    rw[ba2 h hb];simp only[LW,J_,IB];rw[Aa,qG _ 2147483648 F0 F0 F2,Aa,hb];rfl
   |false=>
    obtain⟨i1,i2,i3,i4⟩:=jy (Ds b) F0 hb;have eI:Gw (part (Ds b) 12 4)-32=SA (Ds b):=rfl;have eM:Gw (part (Ds b) 16 4)=Z? (Ds b):=rfl;simp only[J_,IB];rw[eI]at i3;rw[eM]at i4;rw[eI,eM];by_cases c1:Ds b=Ty (SA (Ds b)) (Z? (Ds b)) 0
    ·have c1':Ds b=Ty (SA (Ds b)) (Z? (Ds b)) (0:UInt64).toNat:=c1;rw[B2 (by simpa using c1'),ba3 h hb c1];by_cases c2:b.length<SA (Ds b)+32
     ·rw[B2 C1,B2 c2]
     ·rw[A_ C1,A_ c2,Ah];rfl
    ·have c1':¬Ds b=Ty (SA (Ds b)) (Z? (Ds b)) (0:UInt64).toNat:=c1;rw[A_ (by simpa using c1'),Aa,qG _ 2147483648 F0 F0 F2,Aa,hb];simp only[J_,IB];rw[eI,eM];by_cases c2:Ds b=Ty (SA (Ds b)) (Z? (Ds b)) 2147483648
     ·have c2':Ds b=Ty (SA (Ds b)) (Z? (Ds b)) (2147483648:UInt64).toNat:=c2;rw[A_ (by simpa using c2'),Ah];by_cases c3:b.length<SA (Ds b)+64
      ·rw[B2 F4,ba5 h hb c1 c2 c3]
      ·rw[A_ F4,Ac,Cb,Ah,Sa,Aa,W! _ _ _ i3 i4 F2,Aa,Jj,Aa,ba6 h hb c1 c2 c3];rw[show((b.length:Int)-(((SA (Ds b):Nat):Int)+64)).toNat=b.length-(SA (Ds b)+64) by omega,show((b.length:Int)-(((SA (Ds b):Nat):Int)+64)+32).toNat=b.length-(SA (Ds b)+64)+32 by omega];have e7:(2684354560:UInt64).toNat=2684354560:=rfl;rw[e7];by_cases c4:(b.take (b.length-(SA (Ds b)+64)+32)).drop (b.length-(SA (Ds b)+64))=Ty (SA (Ds b)) (Z? (Ds b)) 2684354560
       ·rw[A_ (by simpa using c4),A_ (λe=>e c4)];rfl
       ·rw[B2 (by simpa using c4),B2 c4]
     ·have c2':¬Ds b=Ty (SA (Ds b)) (Z? (Ds b)) (2147483648:UInt64).toNat:=c2;rw[B2 (by simpa using c2'),ba4 h hb c1 c2]
  ·rw[B2 (by rw[HE,KV];intro h;exact hp h.2),ba1 (λh=>hp h.2)]
 ·rw[B2 (by rw[Ac,Cb,Ad];simp;omega),ba1 (λh=>h32 h.1)]
theorem Bcw{b:LB}(h:32<=b.length):(b.take (b.length-32+8)).drop (b.length-32)=(Ds b).take 8:=by
 rw[Ds,List.take_drop]
theorem Azq(b:LB)(hl:b.length<4611686018427387904):NX b=some (DK b):=by
 rw[NX,Ahq];by_cases h32:32<=b.length
 ·obtain⟨e1,e2⟩:=Ayl h32 hl;have hl3:=Ai4 h32;rw[A_ F4,e1,Ah,Sa,Aa,show((b.length-32:Nat):Int).toNat=b.length-32 from rfl,show(((b.length-32:Nat):Int)+8).toNat=b.length-32+8 by omega,Bcw h32];by_cases hp:(Ds b).take 8=yu
  ·have h:=And.intro h32 hp;rw[A_ (by simpa [yu]using hp),An0,Amx,e1,e2,Aa,Ah0 _ F0 F0,Aa];cases hb:ML (Ds b)with
   |true=>rw[ba2 h hb];rfl
   |false=>
    obtain⟨i1,i2,i3,i4⟩:=jy (Ds b) F0 hb;have eI:Gw (part (Ds b) 12 4)-32=SA (Ds b):=rfl;have eM:Gw (part (Ds b) 16 4)=Z? (Ds b):=rfl;simp only[J_,IB,QZ];rw[eI]at i3;rw[eM]at i4;rw[eI,eM,Pk,B2 rfl,X9 _ _ _ i3 i4 F2,Aa,Aa];have e7:(2147483648:UInt64).toNat=2147483648:=rfl;have e8:(2684354560:UInt64).toNat=2684354560:=rfl;rw[e7];by_cases c2:Ds b=Ty (SA (Ds b)) (Z? (Ds b)) 2147483648
    ·have c1:Ds b≠Ty (SA (Ds b)) (Z? (Ds b)) 0:=λe=>Bfb (SA (Ds b)) (Z? (Ds b)) (e.symm.trans c2);rw[A_ (by simpa using c2),DN,CT,B2 (by simpa using c2),DW,EB,Ah (a:=32) F0 F0,Ah];by_cases c3:b.length<SA (Ds b)+64
     ·rw[B2 F4,ba5 h hb c1 c2 c3]
     ·rw[A_ F4,B2 (by simpa using c2),Ac,Cb,Ah,Sa,Aa,BY,X9 _ _ _ i3 i4 F2,Aa,Aa,ba6 h hb c1 c2 c3,e8];rw[show((b.length:Int)-(32+((SA (Ds b):Nat):Int)+32)).toNat=b.length-(SA (Ds b)+64) by omega,show((b.length:Int)-(32+((SA (Ds b):Nat):Int)+32)+32).toNat=b.length-(SA (Ds b)+64)+32 by omega];by_cases c4:(b.take (b.length-(SA (Ds b)+64)+32)).drop (b.length-(SA (Ds b)+64))=Ty (SA (Ds b)) (Z? (Ds b)) 2684354560
      ·rw[A_ (by simpa using c4),A_ (λe=>e c4),show(32+((SA (Ds b):Nat):Int)+32)=((SA (Ds b)+64:Nat):Int) by omega]
      ·rw[B2 (by simpa using c4),B2 c4]
    ·rw[B2 (by simpa using c2),Pk,A_ B3,X9 _ _ _ i3 i4 F2,Aa,Aa];have e9:(0:UInt64).toNat=0:=rfl;rw[e9];by_cases c1:Ds b=Ty (SA (Ds b)) (Z? (Ds b)) 0
     ·rw[A_ (by simpa using c1),DN,CT,A_ (by simpa using c2),DW,EB,Ah,ba3 h hb c1,A_ (c:=(Ds b==Ty (SA (Ds b)) (Z? (Ds b)) 2147483648)=true) (by simpa using c2)];by_cases c3:b.length<SA (Ds b)+32
      ·rw[B2 F4,B2 c3]
      ·rw[A_ F4,A_ c3,show(32+((SA (Ds b):Nat):Int))=((SA (Ds b)+32:Nat):Int) by omega]
     ·rw[B2 (by simpa using c1),ba4 h hb c1 c2]
  ·rw[B2 (by simpa [yu]using hp),ba1 (λh=>hp h.2)]
 ·rw[B2 F4,ba1 (λh=>h32 h.1)]
def Q5:Nat->LB->Nat->Int×Int
 |0,_,_=>(0,38)
 |j+1,b,a=>if b=[]then((a:Int),0)else if(DK b).2≠0 then(0,38)else Q5 j (b.take (b.length-(DK b).1.toNat)) (a+1)
theorem Aj8:∀(j q a:Nat) (b:LB),b.length<j->j<=q->b.length<=4000->a+b.length<=4000->Zs q (a:Int) b=some (Q5 j b a)
 |0,_,_,_,h,_,_,_=>by omega
 |j+1,q+1,a,b,h,hq,h4,ha=>by
  rw[Zs,ZB,Q5];by_cases hb:b=[]
  ·subst hb;rw[A_ F2,B2 rfl];rfl
  ·have hpos:0<b.length:=List.length_pos_iff.2 hb;rw[B2 C3,A_ hb,Au2 b F0,Aa];have hbad:=As4 (b:=b);have hok:=λn=>Ai1 (b:=b) (n:=n);generalize DK b=v at*
   obtain⟨n,e⟩:=v;simp only at hbad⊢;rw[TM,Bes];by_cases he:e≠0
   ·rw[B2 he,hbad he,B2 F2]
   ·obtain⟨k1,k2⟩:=hok n (by rw[show e=0 by simpa using he]);rw[A_ he,A_ E6,Ac,Cb,Cx,Aa,Bf1,Bf2,Ah];rw[show((b.length:Int)-n).toNat=b.length-n.toNat by omega];have ih:=Aj8 j q (a+1) (b.take (b.length-n.toNat)) MC F0 MC MC;rw[<-ih];rfl
theorem Ap1:∀(j q a:Nat) (b:LB),b.length<j->j<=q->b.length<=4000->a+b.length<=4000->Qv q b (a:Int)=some (Q5 j b a)
 |0,_,_,_,h,_,_,_=>by omega
 |j+1,q+1,a,b,h,hq,h4,ha=>by
  rw[Qv,Afk,Q5];by_cases hb:b=[]
  ·subst hb;rw[A_ F2,B2 rfl];rfl
  ·have hpos:0<b.length:=List.length_pos_iff.2 hb;rw[B2 C3,A_ hb,Azq b F0,Aa];have hok:=λn=>Ai1 (b:=b) (n:=n);generalize DK b=v at*
   obtain⟨n,e⟩:=v;simp only;by_cases he:e≠0
   ·rw[B2 he,B2 (by rw[Aj];simpa using he)]
   ·obtain⟨k1,k2⟩:=hok n (by rw[show e=0 by simpa using he]);rw[A_ he,A_ (by rw[Aj];simpa using he),Ac,Cb,Cx,Aa,Ah];rw[show((b.length:Int)-n).toNat=b.length-n.toNat by omega];have ih:=Ap1 j q (a+1) (b.take (b.length-n.toNat)) MC F0 MC MC;rw[<-ih];rfl
def Qs(b:LB):Int×Int:=if 4000<b.length then(0,38)else Q5 (b.length+1) b 0
theorem wF(b:LB)(hl:b.length<4611686018427387904):Za b=some (Qs b):=by
 rw[Za,YW,Qs];by_cases h:4000<b.length
 ·rw[B2 C3,B2 h]
 ·rw[A_ C3,A_ h];exact Aj8 _ Ax 0 b F0 B_ F0 F0
theorem L4(b:LB)(hl:b.length<4611686018427387904):Wg b=some (Qs b):=by
 rw[Wg,Acs,Qs];by_cases h:4000<b.length
 ·rw[B2 C3,B2 h]
 ·rw[A_ C3,A_ h];exact Ap1 _ Ax 0 b F0 B_ F0 F0
theorem IC{p:Prop}(h:p:=by rw[D3];omega):p:=h
theorem Tv{a b:Nat}(h:a<9223372036854775808:=by omega):Ca (a:Int) (b:Int)=((a/b:Nat):Int):=by
 have:a/b<=a:=FU _ _;rw[YG,R8 F0,<-vk];generalize a/b=k at*
 exact Dt F0 F0
theorem Z2{bits:Int}(h:Bn bits)(x:Int):(TC bits x).length=wB bits:=by
 obtain rfl|rfl|rfl:=h<;>rfl
theorem KS{bits:Int}(h:Bn bits):∀l:LX,(Az bits l).length=l.length*wB bits
 |[]=>by simp[Az]
 |x::l=>by
  have h1:=KS h l;have h2:=Z2 h x.toInt;simp only[Az,l?,B6,D_,O']at*
  omega
def xL(b:LB)(A:Nat)(l:LI)(k:Nat):LB:=(b.take ((A:Int)+(l.take (k+1)).sum).toNat).drop ((A:Int)+(l.take k).sum).toNat
structure Gts (b p:LB) (f c w r n A:Nat) (l:LI) (k m:Nat) (x:LX) (s:LB) (e:Int):Prop where
 mom:Ao (Al (Ak r) n) (k:Int)=some (m:Int)
 pos:1<=m/\m*c<=4000
 got:Xr b p (f:Int) (c:Int) (w:Int) (r:Int) (n:Int) (A:Int) l (k:Int)=some (s,e)
 none':e≠0->s=[]/\x=[]
 some':e=0->s=Az (w:Int) x/\x.length=m*c/\Au (w:Int) x=some 0/\Kw (w:Int) x=some (s,0)/\ (A:Int)+(l.take (k+1)).sum<=b.length
 way:((b.length:Int)<(A:Int)+(l.take (k+1)).sum/\e=24)\/ ((A:Int)+(l.take (k+1)).sum<=b.length/\Jn (c:Int) (w:Int) (Ld p) (m:Int) (xL b A l k)=some (x,e)/\Dx (c:Int) (w:Int) (Ld p) (m:Int) (xL b A l k)=some (x,e))
theorem Ua{b p:LB}{f c w r n A:Nat}{l:LI}(o:Opn b p f c w r n A l)(k:Nat)(hk:k<l.length):∃m x s e,Gts b p f c w r n A l k m x s e:=by
 obtain⟨hc,hw,hr,hn,_⟩:=My o.shape;have hfit:n<=4000/c:=by have:=o.fit;simp only[CI,B7]at this;exact this.1
 have hn4:n<=4000:=by have:=FU 4000 c;omega
 have hA:=o.at';have Y':=o.file;have hlen:=o.len;have b1:=Fk o.five k;have b2:=Fk o.five (k+1);have e:=Fj hk;have h5:=o.five l[k] (D5 _);have hsum:=o.sum;have hs1:=o.some1;have hkf:k<(Al (Ak r) n).length:=F0
 obtain⟨m,hm,m1,m2⟩:=Yt (Du r) hn (D5 hkf);have iP:Ao (Al (Ak r) n) (k:Int)=some (m:Int):=by rw[Bq hkf,hm]
 have hpos:1<=m/\m*c<=4000:=by
  refine⟨m1,?_⟩;have:=C? c (PD m2 hfit);have:=MJ 4000 c;omega
 have hR:Xr b p (f:Int) (c:Int) (w:Int) (r:Int) (n:Int) (A:Int) l (k:Int)=Xr b p (f:Int) (c:Int) (w:Int) (r:Int) (n:Int) (A:Int) l (k:Int):=rfl
 conv at hR=>rhs;rw[Xr,Aoh,Asf hs1.2 o.five o.sum _ _ _ _ _ (A:Int) F0 F0 k F0,Aa,Bq hk,Aa,Cb nO nO]
 by_cases hto:(b.length:Int)<(A:Int)+(l.take (k+1)).sum
 ·rw[B2 (by rw[Ad,Ac,B7];omega)]at hR;exact⟨m,[],[],24,iP,hpos,hR,λ_=>⟨rfl,rfl⟩,λh=>by simp at h, .inl ⟨hto,rfl⟩⟩
 ·rw[A_ (by rw[Ad,Ac,B7];omega),WT p o.pass,eB hr.2 hn hn4]at hR;simp only[Aa]at hR;rw[Ah (a:=(A:Int)+(l.take k).sum) (b:=l[k]) F0 F0,RJ,<-e,iP]at hR;simp only[Aa]at hR;rw[Sa,Aa]at hR;obtain⟨x,er,g1,g2,g3,g4⟩:=LH (ch:=c) (n:=m) (t:=Ld p) (xL b A l k) hw (Lq p) hc.1 hc.2 m1 F0;rw[show(b.take ((A:Int)+(l.take (k+1)).sum).toNat).drop ((A:Int)+(l.take k).sum).toNat=xL b A l k from rfl,g2,Aa]at hR;simp only at hR;rw[Aoo,Ap4]at hR;by_cases her:er=0
  ·obtain⟨g5,g6,g7⟩:=g3 her;rw[A_ (by rw[Aj];simpa using her),TR hw g6 g5,Aa]at hR;subst her;exact⟨m,x,_,0,iP,hpos,hR,λh=>absurd rfl h,λ_=>⟨rfl,g7,g5,dX hw g6 g5,F0⟩, .inr ⟨F0,g1,g2⟩⟩
  ·rw[B2 (by rw[Aj];simpa using her)]at hR;exact⟨m,x,_,er,iP,hpos,hR,λh=>⟨rfl,g4 h⟩,λh=>absurd h her, .inr ⟨F0,g1,g2⟩⟩
theorem Gts.lens{b p:LB}{f c w r n A:Nat}{l:LI}{k m:Nat}{x:LX}{s:LB}{e:Int}(hw:Bn (w:Int))(g:Gts b p f c w r n A l k m x s e):s.length<=12000/\x.length<=4000/\ (e=0->s.length=m*c*wB (w:Int)):=by
 by_cases he:e=0
 ·obtain⟨h1,h2,_⟩:=g.some' he;have h3:=Vu (w:Int) x;have h4:=KS hw x;have h5:=g.pos;rw[<-h1]at h3 h4;refine⟨F0,F0,λ_=>by rw[h4,h2]⟩
 ·obtain⟨h1,h2⟩:=g.none' he;exact⟨by simp[h1],by simp[h2],λh=>absurd h he⟩
def aA(G:Nat->LB×Int)(be:Int):Nat->Nat->LB->LB×Int
 |0,_,acc=>if be≠0 then([],38)else(acc,0)
 |j+1,k,acc=>if(G k).2≠0 then([],(G k).2)else aA G be j (k+1) (acc++(G k).1)
def Iv(b p:LB)(f c w r n A:Nat)(l:LI)(k:Nat):LB×Int:=(Xr b p (f:Int) (c:Int) (w:Int) (r:Int) (n:Int) (A:Int) l (k:Int)).getD ([],0)
theorem Gts.eq{b p:LB}{f c w r n A:Nat}{l:LI}{k m:Nat}{x:LX}{s:LB}{e:Int}(g:Gts b p f c w r n A l k m x s e):Iv b p f c w r n A l k=(s,e):=by rw[Iv,g.got];rfl
def YV(b:LB)(A:Nat)(l:LI):Int:=(Qs (b.drop ((A:Int)+l.sum).toNat)).2
section
variable {b p:LB} {f c w r n A:Nat} {l:LI} (o:Opn b p f c w r n A l)
include o
theorem Asz(k m:Nat)(x:LX)(s:LB)(e:Int)(hk:k<l.length)(g:Gts b p f c w r n A l k m x s e)(bk:Int->LB->Ce)(M:Int)(acc:LB)(hacc:acc.length<=12000*k):
  IU bk (A:Int) b (Al (Ak r) n) M (c:Int) (w:Int) (Ld p) (f:Int) (r:Int) (n:Int) l (Y1 l (l.length+1)) (k:Int) ((l.take k).sum) ((l.take (k+1)).sum) acc=
   if e≠0 then some ([],e)else bk (((k+1:Nat)):Int) (acc++s):=by
 obtain⟨hc,hw,hr,hn,_⟩:=My o.shape;have hA:=o.at';have Y':=o.file;have hs1:=o.some1;have hsum:=o.sum;have b1:=Fk o.five k;have b2:=Fk o.five (k+1);have e2:=Fj hk;have h5:=o.five l[k] (D5 _);have hl:=g.lens hw;rw[IU,Bgw,Ah (a:=(A:Int)) (b:=(l.take (k+1)).sum) F0 F0,Ah,Ac];have hend:∀(e1:Int) (s1:LB),s1.length<=12000->IV bk b (Al (Ak r) n) (A:Int) M (f:Int) (c:Int) (w:Int) (r:Int) (n:Int) (Ld p) l (Y1 l (l.length+1)) (k:Int) acc e1 s1=if e1≠0 then some ([],e1)else bk (((k+1:Nat)):Int) (acc++s1):=by
  intro e1 s1 h1;rw[IV,Bg5];by_cases h:e1≠0
  ·rw[B2 h,B2 (by rw[Aj];simpa using h)]
  ·rw[A_ h,A_ (by rw[Aj];simpa using h),Bg,Aa,Bgi,Bgf,Ah];rfl
 rcases g.way with⟨h1,h2⟩|⟨h1,h2,_⟩
 ·rw[B2 w_,hend 24 [] B3,h2];rfl
 ·rw[A_ w_,g.mom];simp only[Aa];rw[Sa,Aa,show(b.take ((A:Int)+(l.take (k+1)).sum).toNat).drop ((A:Int)+(l.take k).sum).toNat=xL b A l k from rfl,h2,Aa];simp only;rw[Bgp,Bgk];by_cases he:e≠0
  ·rw[B2 (by rw[Aj];simpa using he),hend e [] B3,B2 he,B2 he]
  ·have he0:e=0:=by simpa using he
   rw[A_ (by rw[Aj];simpa using he),(g.some' he0).2.2.2.1,Aa];simp only;rw[hend 0 s hl.1,A_ B3,A_ he]
theorem Adw:∀(j k q:Nat) (acc:LB),k+j=l.length->j<q-> (k=l.length-> (A:Int)+l.sum<=b.length)->acc.length<=12000*k->
  Ub b (Al (Ak r) n) (A:Int) l.sum (f:Int) (c:Int) (w:Int) (r:Int) (n:Int) (Ld p) l (Y1 l (l.length+1)) q (k:Int) acc=some (aA (Iv b p f c w r n A l) (YV b A l) j k acc)
 |0,k,q+1,acc,hk,_,hfit,_=>by
  have hA:=o.at';have Y':=o.file;have hs1:=o.some1;have hsum:=o.sum;have b1:=Fk o.five l.length;have hf:=hfit F0;rw[FX]at b1;rw[Ub,IJ,A_ (by rw[Ad,Ac,<-o.len];simp;omega),ZI,Bfl,Ah,Bu,Aa,wF _ IC,Aa,aA,YV];generalize Qs (b.drop ((A:Int)+l.sum).toNat)=v;obtain⟨v1,v2⟩:=v;simp only;by_cases hv:v2≠0
  ·rw[B2 hv,B2 (by rw[Aj];simpa using hv)]
  ·rw[A_ hv,A_ (by rw[Aj];simpa using hv)]
 |j+1,k,q+1,acc,hk,hq,hfit,hacc=>by
  have hs1:=o.some1;obtain⟨m,x,s,e,g⟩:=Ua o k F0;obtain⟨hc,hw,hr,hn,_⟩:=My o.shape;have hl:=g.lens hw;have e1:Ae (k:Int) 1=((k+1:Nat):Int):=by rw[Ah];omega
  rw[Ub,IJ,B2 (by rw[Ad,Ac,<-o.len];simp;omega),e1,V! l F0,V! l F0];simp only[Aa];rw[Asz o k m x s e F0 g _ _ acc hacc,aA,g.eq];simp only;by_cases he:e≠0
  ·rw[B2 he,B2 he]
  ·have he0:e=0:=by simpa using he
   have Z':=(g.some' he0).2.2.2.2;rw[A_ he,A_ he];exact Adw j (k+1) q (acc++s) F0 F0 (λh=>by rw[h,FX]at Z';exact Z') KO
theorem Asw(k:Int):VU b p k=some (if k<0\/ (l.length:Int)<=k then([],2)else aA (Iv b p f c w r n A l) (YV b A l) (l.length-k.toNat) k.toNat []):=by
 have hs1:=o.some1;have e1:Ao (Y1 l (l.length+1)) (Ac (Al (Ak r) n))=some l.sum:=by rw[Ac,<-o.len,V! l F0,FX]
 rw[VU,cL,o.prog,Aa];simp only;rw[A_ C0,iG o.shape o.fit,Aa];simp only;rw[A_ C0,Bcd hs1.2 o.five o.sum hs1.1,Aa];simp only;rw[A_ C0,UC p o.pass,Aa];simp only;rw[A_ C0,e1,Aa,Aa,Bhq,ZD,A_ C0];by_cases hk:k<0\/ (l.length:Int)<=k
 ·rw[B2 hk,B2 (by rw[Ac,<-o.len];simp[Ad,Dq];omega)]
 ·rw[A_ hk,A_ (by rw[Ac,<-o.len];simp[Ad,Dq];omega)];obtain⟨k,rfl⟩:=FT (show 0<=k by omega);exact Adw o (l.length-k) k Ax [] F0 B_ F0 B3
end
def Vz(b:LB)(k:Nat):Nat:=(b.getD k 0).toNat
theorem U3(b:LB)(k:Nat):Vz b k<256:=(b.getD k 0).toNat_lt
def sx(n:Nat)(b:LB)(a:Nat):Int:=
 if n=1 then(Vz b a:Int)-128 else
 if n=2 then(if Vz b a+256*Vz b (a+1)<32768 then(Vz b a+256*Vz b (a+1):Nat)else((Vz b a+256*Vz b (a+1):Nat):Int)-65536)else
 (if Vz b a+256*Vz b (a+1)+65536*Vz b (a+2)<8388608 then(Vz b a+256*Vz b (a+1)+65536*Vz b (a+2):Nat)else((Vz b a+256*Vz b (a+1)+65536*Vz b (a+2):Nat):Int)-16777216)
def uI(n m:Nat)(b:LB):LX:=(List.range m).map λx=>Int32.ofInt (sx n b (x*n))
theorem Q9(n m:Nat)(b:LB):(uI n m b).length=m:=by simp[uI]
theorem Ax5(n m:Nat)(b:LB):uI n (m+1) b=uI n m b++[Int32.ofInt (sx n b (m*n))]:=by simp[uI,WJ]
theorem xE{n:Int}(h: -2147483648<=n)(h':n<2147483648):(Int32.ofInt n).toInt=n:=by
 rw[P8,aN,show((Int32.size:Nat):Int)=4294967296 from rfl];split<;>omega
theorem zI{b:LB}{k:Nat}(h:k<b.length):Ao b (k:Int)=some (b.getD k 0):=by
 rw[Bq h];simp[List.getD_eq_getElem?_getD,h]
theorem eL(c:UInt8):(Ag c:Int32)=Int32.ofInt (c.toNat:Int):=rfl
theorem lg{v:Nat}(k:Nat)(hk:k<=32)(h:v<2147483648):Eh (Int32.ofInt (v:Int)) k=Int32.ofInt ((v*2^k:Nat):Int):=by
 have e:Eh (Int32.ofInt (v:Int)) k=Int32.ofInt ((Int32.ofInt (v:Int)).toInt*2^min k 32):=rfl;rw[e,xE F0 F0,I? hk];simp
theorem iV{v w i:Nat}(hv:v<2^i)(hw:w*2^i<2147483648)(hi:i<=31):I7 (Int32.ofInt (v:Int)) (Int32.ofInt ((w*2^i:Nat):Int))=Int32.ofInt ((v+w*2^i:Nat):Int):=by
 have hv2:v<2147483648:=G4 hv (show 2^i<=2^31 from E1 F0 hi);have e:I7 (Int32.ofInt (v:Int)) (Int32.ofInt ((w*2^i:Nat):Int))=Int32.ofInt ((BitVec.ofInt 32 (Int32.ofInt (v:Int)).toInt|||BitVec.ofInt 32 (Int32.ofInt ((w*2^i:Nat):Int)).toInt).toNat:Int):=rfl;rw[e,xE F0 F0,xE F0 F0,aK,NW,NW];have a1:((v:Int) %((2^32:Nat):Int)).toNat=v:=F0
 have a2:(((w*2^i:Nat):Int) %((2^32:Nat):Int)).toNat=w*2^i:=F0
 rw[a1,a2,Nat.or_comm,D9 w,<-QC hv,M_]
theorem Ae6(w:Nat)(h:w<2147483648):I7 (0:Int32) (Int32.ofInt (w:Int))=Int32.ofInt (w:Int):=by
 have:=iV (v:=0) (w:=w) (i:=0) B3 (by simpa using h) F0;simpa using this
theorem carry{v k:Nat}(hk:k<=31)(h:v*2^k<4294967296)(hv:v<2147483648):Cy (Eh (Int32.ofInt (v:Int)) k) k=Int32.ofInt ((if v*2^k<2147483648 then((v*2^k:Nat):Int)else((v*2^k:Nat):Int)-4294967296).fdiv (2^k)):=by
 rw[lg k F0 hv];have e:∀x:Int32,Cy x k=Int32.ofInt (x.toInt.fdiv (2^min k 32)):=λ_=>rfl;have hX:(Int32.ofInt ((v*2^k:Nat):Int)).toInt=if v*2^k<2147483648 then((v*2^k:Nat):Int)else((v*2^k:Nat):Int)-4294967296:=by
  rw[P8,aN,show((Int32.size:Nat):Int)=4294967296 from rfl];generalize v*2^k=X at*
  split<;>split<;>omega
 rw[e,I? F0,hX]
theorem sx2(b:LB)(a:Nat):sx 2 b a=if Vz b a+256*Vz b (a+1)<32768 then((Vz b a+256*Vz b (a+1):Nat):Int)else((Vz b a+256*Vz b (a+1):Nat):Int)-65536:=rfl
theorem sx3(b:LB)(a:Nat):sx 3 b a=if Vz b a+256*Vz b (a+1)+65536*Vz b (a+2)<8388608 then((Vz b a+256*Vz b (a+1)+65536*Vz b (a+2):Nat):Int)else((Vz b a+256*Vz b (a+1)+65536*Vz b (a+2):Nat):Int)-16777216:=rfl
variable (b:LB)
theorem Bjc(bk:Int->LX->Option (LX×Int))(a:Nat)(acc:LX)(h:a+1<=b.length)(hl:b.length<=100000)(ha:acc.length<=100000)(j25:Int->LX->Int32->Int->Option (LX×Int))(j30:LX->Option (LX×Int)):
  Hu (Lp bk 8 b) j25 j30 8 b (a:Int) acc=bk ((a+1:Nat):Int) (acc++[Int32.ofInt (sx 1 b a)]):=by
 have hb:=U3 b a;have e:Aq (Ag (b.getD a 0):Int32) (128:Int32)=Int32.ofInt (sx 1 b a):=by
  have e1:Aq (Ag (b.getD a 0):Int32) (128:Int32)=Int32.ofInt ((Int32.ofInt ((b.getD a 0).toNat:Int)).toInt-(128:Int32).toInt):=rfl;rw[e1,xE F0 (by have:=(b.getD a 0).toNat_lt;omega)];rfl
 have q8:Ca (8:Int) 8=1:=F2
 rw[Hu,B2 F4,B2 OB,zI F0,Aa,e,Bg B5,Aa,Lp,BU,q8,Ah];rfl
theorem Bgq(bk:Int->LX->Option (LX×Int))(a:Nat)(acc:LX)(h:a+2<=b.length)(hl:b.length<=100000)(ha:acc.length<=100000)(j28:Int->LX->Option (LX×Int))(j30:LX->Option (LX×Int)):
  Hu j28 (Pj bk 16 b) j30 16 b (a:Int) acc=bk ((a+2:Nat):Int) (acc++[Int32.ofInt (sx 2 b a)]):=by
 have h0:=U3 b a;have h1:=U3 b (a+1);have q:Ca (16:Int) 8=2:=F2
 have hF:Ax=(Ax-3)+1+1+1:=by have:=Ar;omega
 have z0:(GI.toZ (Bm (8:Int) 0)).toNat=0:=F2
 have z1:(GI.toZ (Bm (8:Int) 1)).toNat=8:=F2
 have z16:(GI.toZ (Aq (32:Int) 16)).toNat=16:=F2
 have s0:Eh (Int32.ofInt (Vz b a:Int)) 0=Int32.ofInt (Vz b a:Int):=by have:=lg (v:=Vz b a) 0 F0 F0;simpa using this
 have s1:Eh (Int32.ofInt (Vz b (a+1):Int)) 8=Int32.ofInt ((Vz b (a+1)*2^8:Nat):Int):=lg 8 F0 F0;have o1:=iV (v:=Vz b a) (w:=Vz b (a+1)) (i:=8) (by simpa using h0) F0 F0;have c:=carry (v:=Vz b a+Vz b (a+1)*2^8) (k:=16) F0 F0 F0;rw[Hu,B2 F4,A_ Qy,Pj,hF,Gh,Hn,q,B2 F2,show Ae (a:Int) 0=((a:Nat):Int) by rw[Ah];omega,zI F0,Aa,Br F2,Aa,z0,
  eL,show((b.getD a 0).toNat:Int)=(Vz b a:Int)from rfl,s0,Ae6 _ F0,show Ae (0:Int) 1=1 by decide,
  Gh,Hn,q,B2 F2,show Ae (a:Int) 1=((a+1:Nat):Int) by rw[Ah];omega,zI F0,Aa,Br F2,Aa,z1,
  eL,show((b.getD (a+1) 0).toNat:Int)=(Vz b (a+1):Int)from rfl,s1,o1,show Ae (1:Int) 1=2 by decide,
  Gh,Hn,q,A_ F2,BZ,MO,Br F2,Aa,Aa,z16,c,Bg B5,Aa,Lp,BU,q,Ah]
 have e:((if(Vz b a+Vz b (a+1)*2^8)*2^16<2147483648 then(((Vz b a+Vz b (a+1)*2^8)*2^16:Nat):Int)else(((Vz b a+Vz b (a+1)*2^8)*2^16:Nat):Int)-4294967296).fdiv (2^16))=sx 2 b a:=by
  rw[LM _ F0,sx2];split<;>split<;>omega
 rw[e];rfl
theorem Bgv(bk:Int->LX->Option (LX×Int))(a:Nat)(acc:LX)(h:a+3<=b.length)(hl:b.length<=100000)(ha:acc.length<=100000)(j28:Int->LX->Option (LX×Int))(j30:LX->Option (LX×Int)):
  Hu j28 (Pj bk 24 b) j30 24 b (a:Int) acc=bk ((a+3:Nat):Int) (acc++[Int32.ofInt (sx 3 b a)]):=by
 have h0:=U3 b a;have h1:=U3 b (a+1);have h2:=U3 b (a+2);have q:Ca (24:Int) 8=3:=F2
 have hF:Ax=(Ax-4)+1+1+1+1:=by have:=Ar;omega
 have z0:(GI.toZ (Bm (8:Int) 0)).toNat=0:=F2
 have z1:(GI.toZ (Bm (8:Int) 1)).toNat=8:=F2
 have z2:(GI.toZ (Bm (8:Int) 2)).toNat=16:=F2
 have z8:(GI.toZ (Aq (32:Int) 24)).toNat=8:=F2
 have s0:Eh (Int32.ofInt (Vz b a:Int)) 0=Int32.ofInt (Vz b a:Int):=by have:=lg (v:=Vz b a) 0 F0 F0;simpa using this
 have s1:Eh (Int32.ofInt (Vz b (a+1):Int)) 8=Int32.ofInt ((Vz b (a+1)*2^8:Nat):Int):=lg 8 F0 F0;have s2:Eh (Int32.ofInt (Vz b (a+2):Int)) 16=Int32.ofInt ((Vz b (a+2)*2^16:Nat):Int):=lg 16 F0 F0;have o1:=iV (v:=Vz b a) (w:=Vz b (a+1)) (i:=8) (by simpa using h0) F0 F0;have o2:=iV (v:=Vz b a+Vz b (a+1)*2^8) (w:=Vz b (a+2)) (i:=16) F0 F0 F0;have c:=carry (v:=Vz b a+Vz b (a+1)*2^8+Vz b (a+2)*2^16) (k:=8) F0 F0 F0;rw[Hu,B2 F4,A_ Qy,Pj,hF,Gh,Hn,q,B2 F2,show Ae (a:Int) 0=((a:Nat):Int) by rw[Ah];omega,zI F0,Aa,Br F2,Aa,z0,
  eL,show((b.getD a 0).toNat:Int)=(Vz b a:Int)from rfl,s0,Ae6 _ F0,show Ae (0:Int) 1=1 by decide,
  Gh,Hn,q,B2 F2,show Ae (a:Int) 1=((a+1:Nat):Int) by rw[Ah];omega,zI F0,Aa,Br F2,Aa,z1,
  eL,show((b.getD (a+1) 0).toNat:Int)=(Vz b (a+1):Int)from rfl,s1,o1,show Ae (1:Int) 1=2 by decide,
  Gh,Hn,q,B2 F2,show Ae (a:Int) 2=((a+2:Nat):Int) by rw[Ah];omega,zI F0,Aa,Br F2,Aa,z2,
  eL,show((b.getD (a+2) 0).toNat:Int)=(Vz b (a+2):Int)from rfl,s2,o2,show Ae (2:Int) 1=3 by decide,
  Gh,Hn,q,A_ F2,BZ,MO,Br F2,Aa,Aa,z8,c,Bg B5,Aa,Lp,BU,q,Ah]
 have e:((if(Vz b a+Vz b (a+1)*2^8+Vz b (a+2)*2^16)*2^8<2147483648 then(((Vz b a+Vz b (a+1)*2^8+Vz b (a+2)*2^16)*2^8:Nat):Int)else(((Vz b a+Vz b (a+1)*2^8+Vz b (a+2)*2^16)*2^8:Nat):Int)-4294967296).fdiv (2^8))=sx 3 b a:=by
  rw[LM _ F0,sx3];split<;>split<;>omega
 rw[e];rfl
theorem Acp(bits:Int)(n m:Nat)(hn:1<=n)(hm:b.length=m*n)(hl:b.length<=100000)(step:∀(q a:Nat) (acc:LX),a+n<=b.length->acc.length<=100000->Fh bits b (q+1) (a:Int) acc=Fh bits b q ((a+n:Nat):Int) (acc++[Int32.ofInt (sx n b a)])):
  ∀(j x q:Nat),x+j=m->j<q->Fh bits b q ((x*n:Nat):Int) (uI n x b)=some (uI n m b,0)
 |0,x,q+1,hx,_=>by
  obtain rfl:x=m:=F0
  rw[Fh,Hu,A_ F4];rfl
 |j+1,x,q+1,hx,hq=>by
  have h1:(x+1)*n<=m*n:=C? n F0;rw[C7,JK]at h1;have h2:m<=m*n:=VZ m hn;rw[step q (x*n) _ F0 (by rw[Q9];omega),<-Ax5,show x*n+n=(x+1)*n by rw[C7,JK]];exact Acp bits n m hn hm hl step j (x+1) q F0 F0
theorem Avp{bits:Int}(h:¬Bn bits):Pb bits=some (0,0,2):=by
 have h8:¬bits=8:=λe=>h (.inl e);have h16:¬bits=16:=λe=>h (.inr (.inl e));have h24:¬bits=24:=λe=>h (.inr (.inr e));rw[Pb,dS,A_ (by rw[As];simpa using h8),A_ (by rw[As];simpa using h16),fI,cQ,A_ (by rw[As];simpa using h24)]
theorem Bix{bits:Int}(h:Bn bits)(hl:b.length<=100000)(q a:Nat)(acc:LX)(ha:a+wB bits<=b.length)(hc:acc.length<=100000):
  Fh bits b (q+1) (a:Int) acc=Fh bits b q ((a+wB bits:Nat):Int) (acc++[Int32.ofInt (sx (wB bits) b a)]):=by
 rw[Fh];obtain rfl|rfl|rfl:=h
 ·exact Bjc b _ a acc ha hl hc _ _
 ·exact Bgq b _ a acc ha hl hc _ _
 ·exact Bgv b _ a acc ha hl hc _ _
theorem Ae8{bits:Int}(h:Bn bits){m:Nat}(hm:b.length=m*wB bits)(h4:m<=4000):UO bits b=some (uI (wB bits) m b,0):=by
 have hn:=vo bits;have hl:b.length<=12000:=by rw[hm];exact HG h4 hn.2
 rw[UO,TV,ji h,Aa];simp only;rw[A_ C0,t? h,Br D2,Aa];have hr:Ge (Ac b) (wB bits:Int)=0:=by rw[Ac,JJ,hm,LN];rfl
 have hq:Ca (Ac b) (wB bits:Int)=(m:Int):=by rw[Ac,Tv,hm,RB _ F0]
 rw[A_ (by rw[Aj,hr];simp),Aa,hq,A_ E7,Az9];have:=Acp b bits (wB bits) m F0 hm F0 (λq a acc ha hc=>Bix b h F0 q a acc ha hc) m 0 Ax F0 B_;simpa [uI]using this
end Go.Pl
namespace Go.Pl
open Go Go.Lv
variable{bits e:Int}{x:LX}
theorem eZ{c:Nat}{w:Nat}(hc:c<=6)(hw:Bn (w:Int)):Ca (Bm (c:Int) (w:Int)) 8=((c*wB (w:Int):Nat):Int):=by
 have h:w=8\/w=16\/w=24:=by unfold Bn at hw;omega
 have:c=0\/c=1\/c=2\/c=3\/c=4\/c=5\/c=6:=F0
 rcases h with rfl|rfl|rfl<;>rcases this with rfl|rfl|rfl|rfl|rfl|rfl|rfl<;>rfl
theorem Bfx{w:Nat}(hw:Bn (w:Int)):8*wB (w:Int)=w/\w<=24:=by
 have h:w=8\/w=16\/w=24:=by unfold Bn at hw;omega
 rcases h with rfl|rfl|rfl<;>exact⟨rfl,F0⟩
theorem Bhc{t c w:Nat}(ht:t<=4000)(hc:c<=6)(hw:Bn (w:Int)):Ca (Bm (Bm (t:Int) (c:Int)) (w:Int)) 8=((t*(c*wB (w:Int)):Nat):Int):=by
 obtain⟨h1,h2⟩:=Bfx hw;have e1:(t:Int)*(c:Int)=((t*c:Nat):Int):=by simp
 have b1:t*c<=4000*6:=HG ht hc;have b2:t*c*w<=24000*24:=HG b1 h2;rw[Ex (a:=(t:Int)) (by rw[e1];omega) (by rw[e1];omega),e1,Ex K6 K6,<-JO,show(8:Int)=((8:Nat):Int)from rfl,Tv];congr 1;generalize wB (w:Int)=W at*
 subst h1;rw[Nat.mul_left_comm,Bo7 _ F0,I6]
def W? (w:Nat)(y:LB×Int):LX:=if y.2≠0 then []else uI (wB (w:Int)) (y.1.length/wB (w:Int)) y.1
theorem mq(z:Int):(u8 z).toNat=(z %256).toNat:=by
 have:(z %256).toNat<256:=F0
 rw[u8,HT,C! F0]
theorem Ab3{bits:Int}(h:Bn bits):∀(l:LX) (i j:Nat),i<l.length->j<wB bits-> (Az bits l).getD (i*wB bits+j) 0=(TC bits (l.getD i 0).toInt).getD j 0
 |[],i,j,hi,_=>by simp at hi
 |x::l,0,j,_,hj=>by
  have h1:=Z2 h x.toInt;have e:Az bits (x::l)=TC bits x.toInt++Az bits l:=by simp[Az]
  rw[e,RL,HM,List.getD_eq_getElem?_getD,List.getD_eq_getElem?_getD,List.getElem?_append_left F0];rfl
 |x::l,i+1,j,hi,hj=>by
  have h1:=Z2 h x.toInt;have e:Az bits (x::l)=TC bits x.toInt++Az bits l:=by simp[Az]
  have ih:=Ab3 h l i j (by simpa using hi) hj;have e2:(i+1)*wB bits+j=(TC bits x.toInt).length+(i*wB bits+j):=by rw[C7,JK,h1];omega
  rw[e,e2,List.getD_eq_getElem?_getD,List.getElem?_append_right F0,P',<-List.getD_eq_getElem?_getD,ih];rfl
theorem Bd1(h:Bn bits)(l:LX)(hr:inR bits l)(i:Nat)(hi:i<l.length):Int32.ofInt (sx (wB bits) (Az bits l) (i*wB bits))=l.getD i 0:=by
 have hm:l.getD i 0∈l:=by rw[List.getD_eq_getElem?_getD,List.getElem?_eq_getElem hi];exact D5 hi
 have hv:=hr _ hm;have g:∀j,j<wB bits->Vz (Az bits l) (i*wB bits+j)=((TC bits (l.getD i 0).toInt).getD j 0).toNat:=λj hj=>by rw[Vz,Ab3 h l i j hi hj]
 generalize l.getD i 0=x at*
 have key:sx (wB bits) (Az bits l) (i*wB bits)=x.toInt:=by
  generalize hA:i*wB bits=a at*
  obtain rfl|rfl|rfl:=h
  ·have g0:=g 0 F2;have e1:(TC 8 x.toInt).getD 0 0=u8 (x.toInt+128):=rfl;rw[K4,e1,mq]at g0;simp only[hB]at hv;simp at hv;have e2:wB 8=1:=rfl;rw[e2,sx,B2 rfl,g0];omega
  ·have g0:=g 0 F2;have g1:=g 1 F2;have e0:(TC 16 x.toInt).getD 0 0=u8 x.toInt:=rfl;have e1:(TC 16 x.toInt).getD 1 0=u8 (x.toInt/256):=rfl;rw[K4,e0,mq]at g0;rw[e1,mq]at g1;simp only[hB]at hv;simp at hv;have e2:wB 16=2:=rfl;rw[e2,sx2,g0,g1];split<;>omega
  ·have g0:=g 0 F2;have g1:=g 1 F2;have g2:=g 2 F2;have e0:(TC 24 x.toInt).getD 0 0=u8 x.toInt:=rfl;have e1:(TC 24 x.toInt).getD 1 0=u8 (x.toInt/256):=rfl;have e3:(TC 24 x.toInt).getD 2 0=u8 (x.toInt/65536):=rfl;rw[K4,e0,mq]at g0;rw[e1,mq]at g1;rw[e3,mq]at g2;simp only[hB]at hv;simp at hv;have e2:wB 24=3:=rfl;rw[e2,sx3,g0,g1,g2];split<;>omega
 rw[key];simp
theorem Alh(h:Bn bits)(l:LX)(hr:inR bits l):uI (wB bits) l.length (Az bits l)=l:=by
 refine KN (Q9 _ _ _) λi h1 h2=>?_;have:=Bd1 h l hr i h2;simp only[uI,QP,RA];rw[this,List.getD_eq_getElem?_getD,List.getElem?_eq_getElem h2];rfl
theorem Gts.Q8{b p:LB}{f c w r n A:Nat}{l:LI}{k m:Nat}{s:LB}(hw:Bn (w:Int))(g:Gts b p f c w r n A l k m x s e):W? w (s,e)=x:=by
 have hwb:=vo (w:Int);by_cases he:e=0
 ·obtain⟨h1,h2,h3,_⟩:=g.some' he;have h4:=g.pos;have h5:=KS hw x;rw[W?,A_ (by simpa using he)];simp only;rw[h1,h5,RB _ F0];exact Alh hw x (oJ hw F0 h3)
 ·rw[W?,B2 he,(g.none' he).2]
theorem nG{p:Prop}(h:p:=by rw[Ad,B7];omega):p:=h
theorem nK{p:Prop}(h:p:=by simp[Jl];omega):p:=h
abbrev C5:=Int×Int×Int×LX×Int
def OC(e:Int):C5:=(0,0,0,[],e)
theorem vU{seg p:LB}(hs:seg.length=8)(hp:p.length<=64):Qt seg p=some (seg==Uc (Vy p).toNat 8,0):=by
 rw[Qt,mE p hp,Aa];simp only;rw[A_ (by rw[Aj,Aj,Ac,Ac,Cn,hs];simp),Jj,Aa]
theorem Ba0(b p:LB)(m c w h o q n g y ab:Int)(k v:LI)(he:e≠0):Xl b p m c w h o q n g k e y ab v=some (OC e):=by
 rw[Xl,dU,B2 (by rw[Aj];simpa using he)];rfl
theorem f_(b p:LB)(m c w h o q n g y ab:Int)(k:LI)(he:e≠0):DC b p m c w h o q n g y ab k e=some (OC e):=by
 rw[DC,dY,B2 (by rw[Aj];simpa using he)];rfl
theorem Ayq(b p:LB)(m c w h o q n g y ab:Int)(k:LI):DC b p m c w h o q n g y ab k 0=OX b p m c w h o q n g y ab k:=by
 rw[DC,dY,A_ C0]
def lI(X:Nat->LX)(E:Nat->Int)(be:Int):Nat->Nat->LX->LX×Int
 |0,_,acc=>if be≠0 then([],38)else(acc,0)
 |j+1,k,acc=>if E k≠0 then([],E k)else lI X E be j (k+1) (acc++X k)
def gR(c w r:Nat)(y:LX×Int):C5:=if y.2≠0 then OC y.2 else((c:Int),(w:Int),(r:Int),y.1,0)
def RT(b p:LB)(f c w r n A:Nat)(l:LI):C5:=
 gR c w r (lI (λk=>W? w (Iv b p f c w r n A l k)) (λk=>(Iv b p f c w r n A l k).2) (YV b A l) l.length 0 [])
section
variable {b p:LB} {f c w r n A:Nat} {l:LI} (o:Opn b p f c w r n A l)
include o
theorem zD(a1 a2 a3 a4:Int):∀(j k q:Nat) (acc:LX),k+j=l.length->j<q-> (k=l.length-> (A:Int)+l.sum<=b.length)->acc.length<=4000*k->
  DA b l (f:Int) (c:Int) (w:Int) (r:Int) (n:Int) a1 a2 a3 (A:Int) a4 (Ld p) (Al (Ak r) n) q ((A:Int)+(l.take k).sum) (k:Int) acc=
   some (gR c w r (lI (λk=>W? w (Iv b p f c w r n A l k)) (λk=>(Iv b p f c w r n A l k).2) (YV b A l) j k acc))
 |0,k,q+1,acc,hk,_,hfit,_=>by
  have hA:=o.at';have Y':=o.file;have hs1:=o.some1;have hsum:=o.sum;have b1:=Fk o.five l.length;have hf:=hfit F0;obtain rfl:k=l.length:=F0
  rw[FX]at b1⊢;rw[DA,eJ,A_ RP,Bkn,Big,Bu,Aa,wF _ IC,Aa,lI,YV];generalize Qs (b.drop ((A:Int)+l.sum).toNat)=v;obtain⟨v1,v2⟩:=v;simp only;by_cases hv:v2≠0
  ·rw[B2 hv,B2 (by rw[Aj];simpa using hv),gR,B2 B3];rfl
  ·rw[A_ hv,A_ (by rw[Aj];simpa using hv),gR,A_ B3]
 |j+1,k,q+1,acc,hk,hq,hfit,hacc=>by
  have hA:=o.at';have Y':=o.file;have hs1:=o.some1;have hsum:=o.sum;have b1:=Fk o.five k;have b2:=Fk o.five (k+1);have hkl:k<l.length:=F0
  have e2:=Fj hkl;have h5:=o.five l[k] (D5 _);obtain⟨m,x,s,e,g⟩:=Ua o k hkl;obtain⟨hc,hw,hr,hn,_⟩:=My o.shape;have hl:=g.lens hw;rw[DA,eJ,B2 F4,Bq hkl,Aa,Aa,Ah (a:=(A:Int)+(l.take k).sum) F0 F0,RJ,<-e2,Ac,lI,g.eq];simp only;rcases g.way with⟨h1,h2⟩|⟨h1,h2,_⟩
  ·rw[B2 nG,B2 (by rw[h2];simp),h2,gR,B2 B3];rfl
  ·rw[A_ nG,g.mom];simp only[Aa];rw[Sa,Aa,show(b.take ((A:Int)+(l.take (k+1)).sum).toNat).drop ((A:Int)+(l.take k).sum).toNat=xL b A l k from rfl,h2,Aa];simp only;rw[Bkh,Bkg];by_cases he:e≠0
   ·rw[B2 (by rw[Aj];simpa using he),B2 he,gR,B2 he];rfl
   ·have he0:e=0:=by simpa using he
    have Z':=(g.some' he0).2.2.2.2;rw[A_ (by rw[Aj];simpa using he),A_ he,g.Q8 hw,Bg,Aa,Ah (a:=(A:Int)+(l.take k).sum) F0 F0,RJ,<-e2,Ah];exact zD a1 a2 a3 a4 j (k+1) q (acc++x) F0 F0 (λh=>by rw[h,FX]at Z';exact Z') KO
theorem Aas:∀(j k q:Nat) (acc:LX),k+j=l.length->j<q-> (k=l.length-> (A:Int)+l.sum<=b.length)->acc.length<=4000*k->
  Ot b (f:Int) (c:Int) (w:Int) (r:Int) (n:Int) l (Al (Ak r) n) (Ld p) q ((A:Int)+(l.take k).sum) (k:Int) acc=
   some (gR c w r (lI (λk=>W? w (Iv b p f c w r n A l k)) (λk=>(Iv b p f c w r n A l k).2) (YV b A l) j k acc))
 |0,k,q+1,acc,hk,_,hfit,_=>by
  have hA:=o.at';have Y':=o.file;have hs1:=o.some1;have hsum:=o.sum;have b1:=Fk o.five l.length;have hf:=hfit F0;obtain rfl:k=l.length:=F0
  rw[FX]at b1⊢;rw[Ot,EA,A_ RP,Agz,Ag3,Bu,Aa,L4 _ IC,Aa,lI,YV];generalize Qs (b.drop ((A:Int)+l.sum).toNat)=v;obtain⟨v1,v2⟩:=v;simp only;by_cases hv:v2≠0
  ·rw[B2 hv,B2 (by rw[Aj];simpa using hv),gR,B2 B3];rfl
  ·rw[A_ hv,A_ (by rw[Aj];simpa using hv),gR,A_ B3]
 |j+1,k,q+1,acc,hk,hq,hfit,hacc=>by
  have hA:=o.at';have Y':=o.file;have hs1:=o.some1;have hsum:=o.sum;have b1:=Fk o.five k;have b2:=Fk o.five (k+1);have hkl:k<l.length:=F0
  have e2:=Fj hkl;have h5:=o.five l[k] (D5 _);obtain⟨m,x,s,e,g⟩:=Ua o k hkl;obtain⟨hc,hw,hr,hn,_⟩:=My o.shape;have hl:=g.lens hw;rw[Ot,EA,B2 F4,Bq hkl,Aa,Aa,Ac,Cb,lI,g.eq];simp only;rcases g.way with⟨h1,h2⟩|⟨h1,_,h2⟩
  ·rw[B2 nG,B2 (by rw[h2];simp),h2,gR,B2 B3];rfl
  ·rw[A_ nG,g.mom];simp only[Aa];rw[Ah (a:=(A:Int)+(l.take k).sum) F0 F0,RJ,<-e2,Sa,Aa,show(b.take ((A:Int)+(l.take (k+1)).sum).toNat).drop ((A:Int)+(l.take k).sum).toNat=xL b A l k from rfl,h2,Aa];simp only;rw[Ah5,Ag5];by_cases he:e≠0
   ·rw[B2 (by rw[Aj];simpa using he),B2 he,gR,B2 he];rfl
   ·have he0:e=0:=by simpa using he
    have Z':=(g.some' he0).2.2.2.2;rw[A_ (by rw[Aj];simpa using he),A_ he,g.Q8 hw,Bg,Aa,Bq hkl,Aa,Aa,Ah (a:=(A:Int)+(l.take k).sum) F0 F0,RJ,<-e2,Ah];exact Aas j (k+1) q (acc++x) F0 F0 (λh=>by rw[h,FX]at Z';exact Z') KO
end
theorem zX(l:LI)(b p:LB)(m c w h o q n g:Int)(k:LI)(hl:l.length<=1000)(h5:∀x∈l,5<=x)(A:Int)(hA:0<=A)(hb:A+l.sum<=1000000):∀(j i z:Nat),i+j=l.length->j<z->CP l b p m c w h o q n g k z (i:Int) (A+(l.take i).sum)=dB b p l m c w h o q n g (A+l.sum) k
 |0,i,z+1,hi,_=>by
  rw[CP,dK,A_ F4,show i=l.length by omega,FX]
 |j+1,i,z+1,hi,hz=>by
  have hlt:i<l.length:=F0
  have b1:=Fk h5 i;have b2:=Fk h5 (i+1);have e:=Fj hlt;have ih:=zX l b p m c w h o q n g k hl h5 A hA hb j (i+1) z F0 F0;rw[e,<-RJ]at ih;rw[CP,dK,B2 F4,Bq hlt,Aa,Aa,Ah,Ah];exact ih
theorem Ams(b p:LB)(hb:b.length<=100100)(hp:p.length<=64):
  (∃e:Int,e≠0/\Cf b p=some (HO e)/\Sm b p=some (OC e)/\Lu b p=some (OC e))\/
  (∃f c w r n T:Nat,∃q d:Int,T<=b.length/\b.length<=100000/\Gn f c w r n=true/\CI c r n=true/\
   Cf b p=On b (f:Int) (c:Int) (w:Int) (r:Int) (n:Int) (T:Int)/\
   Sm b p=OX b p (f:Int) (c:Int) (w:Int) (r:Int) (n:Int) q d (T:Int) 0 0 (Al (Ak r) n)/\
   Lu b p=(JQ b (T:Int) (f:Int) (c:Int) (w:Int) (r:Int) (n:Int)).bind λ(h,ae)=>if Bd ae 0=true then some (OC ae)else(Et (r:Int) (n:Int)).bind λp2=>(Pe p).bind λ(u,ap)=>Ak1 b (f:Int) (c:Int) (w:Int) (r:Int) (n:Int) h p2 u (Ae (T:Int) (Ae (Bm 4 (Ac h)) 4)) 0 []):=by
 have hO:Cf b p=Cf b p:=rfl;have hV:Sm b p=Sm b p:=rfl;have hR:Lu b p=Lu b p:=rfl
 conv at hO=>rhs;rw[Cf,Of,A_ C3]
 conv at hV=>rhs;rw[Sm,A9,A_ C3,Bj5]
 conv at hR=>rhs;rw[Lu,Akq,A_ C3,Ati]
 by_cases h1:100000<b.length
 ·rw[B2 C3]at hO hV hR;refine .inl ⟨4,F0,hO,?_,?_⟩
  ·rw[hV,Aa];rfl
  ·rw[hR,Aa];rfl
 rw[A_ C3]at hO hV hR;rw[Ll b F0,Aa]at hO hV;rw[EY b F0,Aa]at hR;by_cases h2:(Bw b).2=0
 ·obtain⟨p0,p1,p2⟩:=EI h2;have hc:=Bu (l:=b) p0 p1;simp only[h2]at hO hV hR;rw[A_ C0,hc,Aa,show b.drop (Bw b).1.toNat=Jl b from rfl]at hO hV hR;rw[FI _ nK,Aa]at hO hV;rw[lW _ nK,Aa]at hR;by_cases h3:(Eg (Jl b)).2.2.2.2.2=0
  ·obtain⟨g1,g2,g3,g4⟩:=nI h3;have hlen:(Jl b).length=b.length-(Bw b).1.toNat:=by simp[Jl]
   generalize hF:(Bw b).1.toNat=F at*
   have hF':(Bw b).1=(F:Int):=F0
   rw[g1,hF']at hO hV hR;simp only at hO hV hR;generalize f0 (Jl b)=f at*
   generalize f1 (Jl b)=c at*
   generalize f2 (Jl b)=w at*
   generalize f3 (Jl b)=r at*
   generalize f4 (Jl b)=n at*
   have t22:Ae (F:Int) 22=((F+22:Nat):Int):=by rw[Ah];omega
   have t30:Ae ((F+22:Nat):Int) 8=((F+30:Nat):Int):=by rw[Ah];omega
   have Bj7:f=1\/f=2:=by simp only[Gn,B7]at g3;omega
   rw[A_ C0,t22,t30]at hO;rw[A_ C0,iG g3 g4,Aa,t22,t30]at hV;rw[Aa]at hR;simp only at hV hR;rw[A_ C0,t22,Aor,t30]at hR;by_cases QX:((p==([]:LB)) !=(geq (f:Int) (1:Int)))=true
   ·rw[B2 QX]at hO hR;refine .inl ⟨26,F0,hO,?_,?_⟩
    ·rw[hV];by_cases h5:f=2
     ·rw[B2 (by rw[As,h5];rfl),Aa];simp only;rw[A_ C0,B2 QX,f_ _ _ _ _ _ _ _ _ _ _ _ _ _ F0]
     ·rw[A_ E6,Aa];simp only;rw[A_ C0,B2 QX,f_ _ _ _ _ _ _ _ _ _ _ _ _ _ F0]
    ·rw[hR,Aa];rfl
   ·rw[A_ QX]at hO hR;have hpf:(p=[]↔f=1):=by
     rw[As]at QX;have h5:(p==([]:LB))=((f:Int)==1):=by simpa using QX
     have h6:(p==([]:LB))=true↔((f:Int)==1)=true:=by rw[h5]
     rw[D4,D4]at h6;rw[h6];omega
    by_cases h5:f=2
    ·have VR:p≠ []:=λe=>by have:=hpf.1 e;omega
     rw[B2 (by rw[As,h5];rfl),Aa]at hV;simp only at hV;rw[A_ C0,A_ QX,A_ E6]at hV;rw[B2 (by simpa using VR)]at hO;rw[A_ (by simpa using VR)]at hR;by_cases h6:b.length<F+30
     ·rw[B2 F4]at hO hV hR;refine .inl ⟨24,F0,hO,?_,?_⟩
      ·rw[hV,f_ _ _ _ _ _ _ _ _ _ _ _ _ _ F0]
      ·rw[hR,Aa];rfl
     ·have hseg:((b.take (F+30)).drop (F+22)).length=8:=by simp;omega
      rw[A_ F4,Sa,Aa,show((F+30:Nat):Int).toNat=F+30 from rfl,show((F+22:Nat):Int).toNat=F+22 from rfl]at hO hV hR;rw[vU hseg hp,Aa]at hO hV;rw[lD p hp,Aa]at hR;simp only at hO hV;rw[A_ C0]at hO;generalize(b.take (F+30)).drop (F+22)=seg at*
      by_cases h7:seg=Uc (Vy p).toNat 8
      ·rw[A_ (by simp[h7])]at hO hV;rw[A_ (by simp[h7]),Aa]at hR;simp only at hR;rw[A_ C0]at hR;rw[Ayq]at hV;exact .inr ⟨f,c,w,r,n,F+30,(F:Int),((F+22:Nat):Int),F0,F0,g3,g4,hO,hV,hR⟩
      ·rw[B2 (by simpa using h7)]at hO hV;rw[B2 (by simpa using h7)]at hR;refine .inl ⟨26,F0,hO,?_,?_⟩
       ·rw[hV,f_ _ _ _ _ _ _ _ _ _ _ _ _ _ F0]
       ·rw[hR,Aa];rfl
    ·have hpe:p=[]:=hpf.2 F0;rw[A_ E6,Aa]at hV;simp only at hV;rw[A_ C0,A_ QX,B2 E6,Ayq]at hV;rw[A_ (by rw[hpe];simp)]at hO;rw[B2 (by rw[hpe];rfl),Aa]at hR;simp only at hR;rw[A_ C0]at hR;exact .inr ⟨f,c,w,r,n,F+22,(F:Int),((F+22:Nat):Int),F0,F0,g3,g4,hO,hV,hR⟩
  ·generalize Eg (Jl b)=v at*
   obtain⟨v1,v2,v3,v4,v5,v6⟩:=v;simp only at h3 hO hV hR;rw[B2 (by rw[Aj];simpa using h3)]at hO hV;refine .inl ⟨v6,h3,hO,?_,?_⟩
   ·rw[hV,Aa];simp only;rw[B2 (by rw[Aj];simpa using h3)];rfl
   ·rw[hR,Aa];simp only;rw[B2 (by rw[Aj];simpa using h3)];rfl
 ·generalize Bw b=v at*
  obtain⟨v,e⟩:=v;simp only at h2 hO hV hR;rw[B2 (by rw[Aj];simpa using h2)]at hO hV hR;refine .inl ⟨e,h2,hO,?_,?_⟩
  ·rw[hV,Aa];simp only;rw[B2 (by rw[Aj];simpa using h2)];rfl
  ·rw[hR,Aa];simp only;rw[B2 (by rw[Aj];simpa using h2)];rfl
theorem N6(b p:LB)(hb:b.length<=100100)(hp:p.length<=64):
  (∃e:Int,e≠0/\Cf b p=some (HO e)/\Fz b p=some (HO e)/\Sm b p=some (OC e)/\Lu b p=some (OC e))\/
  (∃f c w r n A l,Opn b p f c w r n A l/\Sm b p=some (RT b p f c w r n A l)/\Lu b p=some (RT b p f c w r n A l)):=by
 have Be2:∀{e e2:Int},HO e=HO e2->e=e2:=λh=>by simpa [HO]using h
 rcases Ams b p hb hp with⟨e,he,h1,h2,h3⟩|⟨f,c,w,r,n,T,q,d,hT,Y',g3,g4,hO,hV,hR⟩
 ·rcases V9 b p hb hp with⟨e',he',k1,k2⟩|⟨f,c,w,r,n,A,l,o⟩
  ·rw[h1]at k1;have:=Be2 (G? k1);subst this;exact .inl ⟨e,he,h1,k2,h2,h3⟩
  ·have:=o.prog;rw[h1]at this;have:=G? this;simp only[HO,BS]at this;exact absurd this.2.2.2.2.2.2.2 he
 ·obtain⟨hc,hw,hr,hn,_⟩:=My g3;have hfit:n<=4000/c:=by simp only[CI,B7]at g4;exact g4.1
  have hn4:n<=4000:=by have:=FU 4000 c;omega
  rw[mM g3 g4 b hb T hT]at hO;have hcut:=Bu (l:=b) (a:=(T:Int)) F0 F0;rw[C2]at hcut;have hdl:(b.drop T).length<=100100:=by simp;omega
  rw[OX,Bky,A_ F4,hcut,Aa,Ac,zN _ _ hdl,Aa]at hV;rw[JQ,hcut,Aa,eB hr.2 hn hn4,Aa,Ac,oL _ _ hdl,Aa,Aa]at hR;by_cases h:(Ez (b.drop T) (Al (Ak r) n).length).2≠0
  ·rw[B2 h]at hO;generalize Ez (b.drop T) (Al (Ak r) n).length=v at*
   obtain⟨v1,v2⟩:=v;simp only at h hO hV hR;rcases V9 b p hb hp with⟨e',he',k1,k2⟩|⟨f,c,w,r,n,A,l,o⟩
   ·rw[hO]at k1;have:=Be2 (G? k1);subst this;refine .inl ⟨_,h,hO,k2,?_,?_⟩
    ·rw[hV,bO,cI,B2 (by rw[Aj];simpa using h),Ba0 _ _ _ _ _ _ _ _ _ _ _ _ _ _ h]
    ·rw[hR,B2 (by rw[Aj];simpa using h)]
   ·have:=o.prog;rw[hO]at this;have:=G? this;simp only[HO,BS]at this;exact absurd this.2.2.2.2.2.2.2 h
  ·have h0:(Ez (b.drop T) (Al (Ak r) n).length).2=0:=by simpa using h
   rw[A_ h]at hO;generalize hsv:Ez (b.drop T) (Al (Ak r) n).length=v at*
   obtain⟨v1,v2⟩:=v;simp only at h0 hO hV hR;subst h0;rcases V9 b p hb hp with⟨e',he',k1,k2⟩|⟨f',c',w',r',n',A,l,o⟩
   ·rw[hO]at k1;have:=G? k1;simp only[HO,BS]at this;exact absurd this.2.2.2.2.2.2.2.symm he'
   ·have hp2:=o.prog;rw[hO]at hp2;have hp3:=G? hp2;simp only[BS]at hp3;obtain⟨i1,i2,i3,i4,i5,i6,i7,_⟩:=hp3;obtain rfl:f=f':=F0
    obtain rfl:c=c':=F0
    obtain rfl:w=w':=F0
    obtain rfl:r=r':=F0
    obtain rfl:n=n':=F0
    subst i7;have hlen:=o.len;have hs1:=o.some1;have hsum:=o.sum;have hA:=o.at';have hAT:(A:Int)=(T:Int)+4*(v1.length:Int)+4:=F0
    have a1:Bm 4 (v1.length:Int)=4*(v1.length:Int):=Ex;have eV:Ae (Ae (T:Int) (Bm 4 (Ac v1))) 4=(A:Int):=by
     rw[Ac,a1,Ah (a:=(T:Int)) F0 F0,Ah];omega
    have eR:Ae (T:Int) (Ae (Bm 4 (Ac v1)) 4)=(A:Int):=by
     rw[Ac,a1,Ah (a:=4*(v1.length:Int)) F0 F0,Ah];omega
    have hlv:=zD o q d (T:Int) ((A:Int)+v1.sum) v1.length 0 Ax [] F0 B_ F0 B3;have hlr:=Aas o v1.length 0 Ax [] F0 B_ F0 B3;rw[J',M7,X0]at hlv hlr;refine .inr ⟨f,c,w,r,n,A,v1,o,?_,?_⟩
    ·have hs:=zX v1 b p (f:Int) (c:Int) (w:Int) (r:Int) (n:Int) q d (T:Int) (Al (Ak r) n) hs1.2 o.five (A:Int) F0 F0 v1.length 0 Ax F0 B_;rw[J',M7,X0]at hs;rw[hV,bO,cI,A_ C0,Bie,eV];refine F? hs ?_;rw[dB,Bjx,eV,Xl,dU,A_ C0,UC p o.pass,Aa];exact hlv
    ·rw[hR,A_ C0,Aa,WT p o.pass,Aa,eR];exact hlr
def Y7(b:LB):LI:=Al (Ak (f3 (Jl b))) (f4 (Jl b))
theorem sW{ch:Nat}(hb:Bn bits)(h1:1<=ch)(h6:ch<=6):Fl (ch:Int) bits=some 0:=by
 have hr:∃x y,Pb bits=some (x,y,0):=⟨_,_,ji hb⟩;obtain⟨x,y,hr⟩:=hr;rw[Fl,hr,Aa];simp only;rw[A_ X?]
abbrev P6':=Int×Int×Int×LX×LI×Int
def ZR(e:Int):P6':=(0,0,0,[],[],e)
theorem Anu{b:LB}{K:Nat}(h:(Eg b).2.2.2.2.2=0)(hK:22<=K):Eg (b.take K)=Eg b:=by
 obtain⟨g1,g2,g3,g4⟩:=nI h;have hl:(b.take K).length=min K b.length:=C8;have ht:∀j,j<=22-> (b.take K).take j=b.take j:=λj hj=>by rw[LD,I? F0]
 have hp:∀a w,a+w<=22->part (b.take K) a w=part b a w:=λa w h=>SN F0;have e0:f0 (b.take K)=f0 b:=by simp only[f0];rw[hp _ _ F0]
 have e1:f1 (b.take K)=f1 b:=by simp only[f1];rw[hp _ _ F0]
 have e2:f2 (b.take K)=f2 b:=by simp only[f2];rw[hp _ _ F0]
 have e3:f3 (b.take K)=f3 b:=by simp only[f3];rw[hp _ _ F0]
 have e4:f4 (b.take K)=f4 b:=by simp only[f4];rw[hp _ _ F0]
 unfold Eg;rw[hl,I? (show 4<=min K b.length by omega),I? (show 4<=b.length by omega),ht 4 F0,ht 18 F0,hp 18 4 F0,e0,e1,e2,e3,e4];by_cases hm:b.take 4≠Kt.take 4
 ·rw[B2 hm,B2 hm]
 ·rw[A_ hm,A_ hm,A_ (show ¬min K b.length<22 by omega),A_ (show ¬b.length<22 by omega)]
theorem s? {c r n:Nat}(h:CI c r n=true):1<= (Al (Ak r) n).length/\ (Al (Ak r) n).length<=1000:=by
 simp only[CI,B7]at h;rw[DE];exact⟨Nat.le_add_left _ _,h.2⟩
theorem pB(g:Nat):∀K:Nat,(List.replicate K (g:Int)).sum=((K*g:Nat):Int)
 |0=>by simp
 |K+1=>by
  rw[LY,H',pB g K,O'];omega
theorem iH{g n:Nat}(hn:1<=n):(Al g n).sum=(n:Int):=by
 have h:=MJ (n-1) g;rw[Al,RF,pB];simp only[H',M7];omega
theorem e?:∀{l:LI},(∀x∈l,0<=x)->0<=l.sum
 |[],_=>by simp
 |x::l,h=>by
  have h1:=h x I_;have h2:=e? (l:=l) λy hy=>h y (G! _ hy);rw[H'];omega
theorem qO{l:LI}(h:∀x∈l,0<=x)(i:Nat):0<= (l.take i).sum/\ (l.take i).sum<=l.sum:=by
 have h1:=e? (l:=l.take i) λx hx=>h x (aH hx);have h2:=e? (l:=l.drop i) λx hx=>h x (P1 hx);have:=Aew l i;omega
def MH(c w:Nat)(fr:LI)(k:Nat):Int:=(((fr.take k).sum.toNat*(c*wB (w:Int)):Nat):Int)
section
variable {f c w r n:Nat} (h1:Gn f c w r n=true) (h2:CI c r n=true)
include h1 h2
theorem UB:(∀x∈Al (Ak r) n,0<=x)/\ (Al (Ak r) n).sum=(n:Int)/\n<=4000:=by
 obtain⟨hc,hw,hr,hn,_⟩:=My h1;have hfit:n<=4000/c:=by simp only[CI,B7]at h2;exact h2.1
 have hn4:n<=4000:=by have:=FU 4000 c;omega
 refine⟨λx hx=>?_,iH hn,hn4⟩;obtain⟨m,rfl,_⟩:=Yt (Du r) hn hx;omega
end
theorem Anp(C W:Nat)(fr:LI):MH C W fr 0=0:=by rw[MH,J',M7];simp
theorem Ann(C W:Nat){fr:LI}(hp:∀z∈fr,0<=z){A m:Nat}(hA:A<fr.length)(hm:fr[A]=(m:Int)):MH C W fr (A+1)=MH C W fr A+((m*C*wB (W:Int):Nat):Int):=by
 have hs:0<= (fr.take A).sum:=by
  have:∀l:LI,(∀z∈l,0<=z)->0<=l.sum:=by
   intro l
   induction l with
   |nil=>intro _;simp
   |cons a l ih=>intro h;rw[H'];have:=h a B3;have:=ih (λz hz=>h z (by simp[hz]));omega
  exact this _ λz hz=>hp z (aH hz)
 have e:(fr.take (A+1)).sum=(fr.take A).sum+m:=by rw[Iq hA,RF,H',M7,hm];omega
 rw[MH,MH,e];have:((fr.take A).sum+(m:Int)).toNat=(fr.take A).sum.toNat+m:=F0
 rw[this,C7,I6 m];omega
theorem nJ(h:Bn bits){l:LX}(hl:l.length<=4000)(hr:inR bits l):Au bits l=some 0:=by
 have hh:=NK bits;have key:∀(j i q:Nat),i+j=l.length->j<q->Be l (hB bits) q (i:Int)=some 0:=by
  intro j
  induction j with
  |zero=>
   intro i q hi hq;obtain⟨q,rfl⟩:∃k,q=k+1:=⟨q-1,F0⟩;rw[Be,Df,A_ F4];rfl
  |succ j ih=>
   intro i q hi hq;obtain⟨q,rfl⟩:∃k,q=k+1:=⟨q-1,F0⟩;have hx:=hr l[i] (D5 F0);rw[Be,Df,B2 F4,Bq,Aa,Aa,Hc,dI,Dt F0 F0,Ah,Ad,Dq,A_ B5,A_ B5];exact ih (i+1) q F0 F0
 rw[Au,Ed,ZU h,Aa,A_ E6,A_ C3];exact key l.length 0 Ax F0 B_
theorem H4(bits:Int)(a b:LX):Az bits (a++b)=Az bits a++Az bits b:=by unfold Az;rw[jH]
def Rm{α:Type}(G:Nat->List α):Nat->Nat->List α
 |0,_=>[]
 |j+1,k=>G k++Rm G j (k+1)
theorem Ajl{α:Type}(G:Nat->List α):∀(i j k:Nat),Rm G (i+j) k=Rm G i k++Rm G j (k+i)
 |0,j,k=>by simp[Rm]
 |i+1,j,k=>by
  rw[show i+1+j=(i+j)+1 by omega,Rm,Rm,Ajl G i j (k+1),C6,show k+1+i=k+(i+1) by omega]
theorem Ae1{α:Type}(G:Nat->List α)(i k:Nat):Rm G (i+1) k=Rm G i k++G (k+i):=by
 rw[Ajl G i 1 k];simp[Rm]
theorem v!(w:Nat)(G:Nat->LB×Int)(be:Int):∀(j k:Nat) (acc:LB) (uP:LX),(aA G be j k acc).2=(lI (λk=>W? w (G k)) (λk=>(G k).2) be j k uP).2
 |0,k,acc,uP=>by
  rw[aA,lI];split<;>rfl
 |j+1,k,acc,uP=>by
  rw[aA,lI];split
  ·rfl
  ·exact v! w G be j (k+1) _ _
theorem oG(X:Nat->LX)(E:Nat->Int)(be:Int):∀(j k:Nat) (acc:LX),(lI X E be j k acc).2=0->be=0/\ (∀i,k<=i->i<k+j->E i=0)/\ (lI X E be j k acc).1=acc++Rm X j k
 |0,k,acc,h=>by
  rw[lI]at h⊢;by_cases hb:be≠0
  ·rw[B2 hb]at h;cases h
  ·rw[A_ hb];exact⟨by simpa using hb,λi h1 h2=>by omega,by simp[Rm]⟩
 |j+1,k,acc,h=>by
  rw[lI]at h⊢;by_cases hb:E k≠0
  ·rw[B2 hb]at h;exact absurd h hb
  ·rw[A_ hb]at h⊢;obtain⟨h1,h2,h3⟩:=oG X E be j (k+1) _ h;refine⟨h1,λi i1 i2=>?_,?_⟩
   ·by_cases hi:i=k
    ·subst hi;simpa using hb
    ·exact h2 i F0 F0
   ·rw[h3,Rm,C6]
theorem yP(G:Nat->LB×Int):∀(j k:Nat) (acc:LB),(∀i,k<=i->i<k+j-> (G i).2=0)->aA G 0 j k acc=(acc++Rm (λi=>(G i).1) j k,0)
 |0,k,acc,h=>by
  rw[aA,A_ B3,Rm];simp
 |j+1,k,acc,h=>by
  rw[aA,A_ (by rw[h k F0 F0];simp),yP G j (k+1) _ λi h1 h2=>h i F0 F0,Rm,C6]
section
variable {b p:LB} {f c w r n A:Nat} {l:LI} (o:Opn b p f c w r n A l) (hE:∀i,i<l.length-> (Iv b p f c w r n A l i).2=0)
include o hE
theorem rZ(i:Nat)(hi:i<l.length):∃m:Nat,Ao (Al (Ak r) n) (i:Int)=some (m:Int)/\1<=m/\ (Iv b p f c w r n A l i).1=Az (w:Int) (W? w (Iv b p f c w r n A l i))/\ (W? w (Iv b p f c w r n A l i)).length=m*c/\inR (w:Int) (W? w (Iv b p f c w r n A l i)):=by
 have hw:=(My o.shape).2.1;obtain⟨m,x,s,e,g⟩:=Ua o i hi;have h0:=hE i hi;have hsm:=g.Q8 hw;have hl:=g.lens hw;rw[g.eq]at h0⊢;rw[hsm];obtain⟨h1,h2,h3,_⟩:=g.some' h0;exact⟨m,g.mom,g.pos.1,h1,h2,oJ hw F0 h3⟩
theorem zu:∀(j k:Nat),k+j<=l.length->Az (w:Int) (Rm (λi=>W? w (Iv b p f c w r n A l i)) j k)=Rm (λi=>(Iv b p f c w r n A l i).1) j k
 |0,k,_=>rfl
 |j+1,k,h=>by
  obtain⟨m,_,_,h1,_⟩:=rZ o hE k F0;rw[Rm,Rm,H4,zu j (k+1) F0,<-h1]
theorem Arf:∀(j k:Nat),k+j<=l.length->inR (w:Int) (Rm (λi=>W? w (Iv b p f c w r n A l i)) j k)
 |0,k,_=>λx hx=>by simp[Rm]at hx
 |j+1,k,h=>by
  obtain⟨m,_,_,_,_,h1⟩:=rZ o hE k F0;intro x hx;rw[Rm,WH]at hx;rcases hx with hx|hx
  ·exact h1 x hx
  ·exact Arf j (k+1) F0 x hx
theorem Arn:∀(j:Nat),j<=l.length-> (Rm (λi=>W? w (Iv b p f c w r n A l i)) j 0).length=((Al (Ak r) n).take j).sum.toNat*c
 |0,_=>by simp[Rm]
 |j+1,h=>by
  obtain⟨m,h0,_,_,h1,_⟩:=rZ o hE j F0;have hlen:=o.len;have hlt:j<(Al (Ak r) n).length:=F0
  rw[Bq hlt]at h0;have h0':=G? h0;obtain⟨g1,g2,g3⟩:=UB o.shape o.fit;have b:=qO g1 j;rw[Ae1,B6,Arn j F0,HM,h1,Fj hlt,h0'];rw[show(((Al (Ak r) n).take j).sum+(m:Int)).toNat=((Al (Ak r) n).take j).sum.toNat+m by omega,C7]
theorem Ate:(Rm (λi=>W? w (Iv b p f c w r n A l i)) l.length 0).length=n*c:=by
 have hn:=(My o.shape).2.2.2.1;rw[Arn o hE l.length (C9 _),o.len,FX,iH hn];simp
theorem Ar4:Kw (w:Int) (Rm (λi=>W? w (Iv b p f c w r n A l i)) l.length 0)=some (Rm (λi=>(Iv b p f c w r n A l i).1) l.length 0,0):=by
 have hw:=(My o.shape).2.1;have hfit:n<=4000/c:=by have:=o.fit;simp only[CI,B7]at this;exact this.1
 have hN:n*c<=4000:=by
  have h1:=C? c hfit;have h2:=MJ 4000 c;omega
 have ht:=Ate o hE;rw[dX hw F0 (nJ hw F0 (Arf o hE l.length 0 F0)),zu o hE l.length 0 F0]
end
def Oh(bits:Int)(ch:Nat)(t x:LX):LU:=evl bits ch t (mx ch x) x.length
def aX(bits:Int)(ch:Nat)(t x:LX):LB:=Oa (Vp ch (Oh bits ch t x) x.length)
def Rg(bits:Int)(ch:Nat)(t x:LX):LB:=aX bits ch t x++Uc (Ff (aX bits ch t x)).toNat 4
theorem Ai0(bits:Int)(ch:Nat)(t x:LX)(h0:1<=x.length)(h4:x.length<=4000):1<= (aX bits ch t x).length/\ (aX bits ch t x).length<=40501:=by
 have h:=lR ch (Oh bits ch t x) x.length;obtain⟨k,hk⟩:∃k,x.length=k+1:=⟨x.length-1,F0⟩;have h1:1<= (Vp ch (Oh bits ch t x) x.length).length:=by
  rw[hk,Vp,B6];have hn:=cJ ch ((Oh bits ch t x).take k);have:=lL ((Oh bits ch t x).getD k 0) hn.1 hn.2;omega
 rw[aX,AD];omega
theorem Q1(bits:Int)(ch:Nat)(t x:LX)(h0:1<=x.length)(h4:x.length<=4000):5<= (Rg bits ch t x).length/\ (Rg bits ch t x).length<=40505:=by
 have:=Ai0 bits ch t x h0 h4;rw[Rg,B6,Cn];omega
theorem Asj(bits:Int)(ch:Nat)(t x:LX)(h0:1<=x.length)(h4:x.length<=4000):Yj (Rg bits ch t x)=0/\ (Rg bits ch t x).take ((Rg bits ch t x).length-4)=aX bits ch t x:=by
 have h:=Q1 bits ch t x h0 h4;have hl:(Rg bits ch t x).length-4=(aX bits ch t x).length:=by rw[Rg,B6,Cn];omega
 have h1:(Rg bits ch t x).take ((Rg bits ch t x).length-4)=aX bits ch t x:=by rw[hl,Rg,WK]
 have h2:(Rg bits ch t x).drop ((Rg bits ch t x).length-4)=Uc (Ff (aX bits ch t x)).toNat 4:=by rw[hl,Rg,M6]
 have hlt:=(Ff (aX bits ch t x)).toNat_lt;refine⟨?_,h1⟩;rw[Yj,A_ F0,A_ F0,h1,h2,IW,C! F0,A_ B3]
theorem An3{ch n:Nat}{t:LX}(hb:Bn bits)(ht:t.length=16)(h1:1<=ch)(h6:ch<=6)(n1:1<=n)(n2:n<=4000/ch)(hx:x.length=n*ch)(hr:inR bits x):
  Jn (ch:Int) bits t (n:Int) (Rg bits ch t x)=some (x,0)/\Dx (ch:Int) bits t (n:Int) (Rg bits ch t x)=some (x,0):=by
 have hn:n*ch<=4000:=by
  have:=C? ch n2;have h2:=MJ 4000 ch;omega
 have hq4:=X_ h1 h6;have hx1:1<=x.length:=by rw[hx];exact QU n1 h1
 have key:Dx (ch:Int) bits t (n:Int) (Rg bits ch t x)=some (x,0):=by
  generalize 4000/ch=mm at*
  have hh:=NK bits;have XF:Eu (ch:Int) bits (n:Int)=some 0:=by
   rw[Eu,Cv,A_ EE,ZU hb,Aa,A_ E6,Aa,A_ XC,Br D2,Aa,hq4,A_ E7]
  have hlen:=Q1 bits ch t x hx1 F0;obtain⟨hs,htk⟩:=Asj bits ch t x hx1 F0;have hpl:=Ai0 bits ch t x hx1 F0;have e4:Aq (Ac (Rg bits ch t x)) 4=(((Rg bits ch t x).length-4:Nat):Int):=by rw[Ac,Cb];omega
  have hVl:(Oh bits ch t x).length=x.length:=zG _ _ _ _ _;have hEl:=AD (Vp ch (Oh bits ch t x) x.length);have hvb:=Aeo ch (Oh bits ch t x) (8*(aX bits ch t x).length) (by rw[hVl,aX,hEl];omega) (n*ch) 0 F0;rw[hVl]at hvb;have hread:=qp (N:=8*(aX bits ch t x).length) (p:=aX bits ch t x) rfl F0 h1 h6 hn;have hvb':Zy ch (aX bits ch t x) (8*(aX bits ch t x).length) (n*ch) 0 []=(Oh bits ch t x,(Vp ch (Oh bits ch t x) x.length).length,0):=hvb;have hz:Cp (aX bits ch t x) (Vp ch (Oh bits ch t x) x.length).length (8*(aX bits ch t x).length-(Vp ch (Oh bits ch t x) x.length).length)=0:=by
   apply jl;intro k _;rw[aX,KZ,eT F0]
  have Bob:¬7<8*(aX bits ch t x).length-(Vp ch (Oh bits ch t x) x.length).length:=by rw[aX,hEl];omega
  rw[hvb']at hread;simp only at hread;rw[A_ F2,A_ (by rw[hz];simp;omega)]at hread;have hm:(Oh bits ch t x).length %ch=0:=by rw[hVl,hx];exact LN n ch
  have Bj8:=Aef (v:=Oh bits ch t x) hb ht h1 h6 F0 hm;have hsm:Q8 bits ch t (Oh bits ch t x)=mx ch x:=by
   have:=Bau bits ch t (mx ch x);rw[cN]at this;exact this
  rw[hsm,Bg2 h1 (by rw[hx];exact LN n ch)]at Bj8;rw[Dx,Qx,XF,Aa,A_ C0,H2,Aa,hs,A_ F2,e4,Cx,Aa,C2,htk,hread,Aa];simp only;rw[Ir,Iz,A_ F2,Bj8,Aa,Wq,nJ hb F0 hr,Aa,A_ F2];rfl
 obtain⟨l,e,d1,d2,_,_⟩:=LH (Rg bits ch t x) hb ht h1 h6 n1 n2;rw[key]at d2;cases d2;exact⟨d1,key⟩
theorem Akw(p:LB)(b0:UInt64)(a0:Int):∀(j m q:Nat),m+j<=300000->j<=64->j<q->
  Um b0 a0 q (Tm p m j) (j:Int) (m:Int) (Ul p 0 m)=some (Ul p 0 (m+j),((m+j:Nat):Int),0)
 |0,m,q+1,_,_,_=>by
  rw[Um,aV,A_ O7,pD,Ac7];rfl
 |j+1,m,q+1,hm,hj,hq=>by
  have hroom:Um b0 a0 (q+1) (Tm p m (j+1)) ((j+1:Nat):Int) (m:Int) (Ul p 0 m)=aU (Um b0 a0 q) b0 a0 (Tm p m (j+1)) ((j+1:Nat):Int) (m:Int) (room p 0 m):=by
   rw[Um,aV,B2 O7,zh m F0,room];by_cases h0:m %8=0
   ·rw[B2 (by rw[As,h0];rfl),Bg n?,Aa,B2 h0]
   ·rw[A_ E6,A_ h0]
  have hl:Aq (Ac (room p 0 m)) 1=((m/8:Nat):Int):=by
   rw[Ac,Sd,Cb];omega
  have e2:Fq ((j+1:Nat):Int) (Aq (8:Int) ((m %8:Nat):Int))=((min (j+1) (8-m %8):Nat):Int):=by
   rw[CO,Cb];omega
  rw[hroom,aU,Agq,zh m F0,e2,hl];generalize hT:min (j+1) (8-m %8)=T;have hT1:1<=T:=F0
  have hT8:m %8+T<=8:=F0
  have hg:Ao (room p 0 m) ((m/8:Nat):Int)=some (UInt8.ofNat (Cp p (0+8*(m/8)) (m %8))):=by
   rw[Bq XA,yU]
  have z1:(GI.toZ ((m %8:Nat):Int)).toNat=m %8:=rfl;have z2:(GI.toZ ((T:Nat):Int)).toNat=T:=rfl;have hlt:=Y0 p (0+8*(m/8)) (m %8+T) F0;have hadd:=WE p (m %8) T (0+8*(m/8));rw[show 0+8*(m/8)+m %8=m by omega]at hadd;have hbyte:(Ag (Fy (Tm p m (j+1)) (Aq (Eh (1:UInt64) T) (1:UInt64))):UInt8)=UInt8.ofNat (Cp p m T):=by
   rw[eX,Bjd _ F0,Ale p m (j+1) T F0 hj]
  have hnew:I7 (UInt8.ofNat (Cp p (0+8*(m/8)) (m %8))) (Eh (UInt8.ofNat (Cp p m T)) (m %8))=UInt8.ofNat (Cp p (0+8*(m/8)) (m %8+T)):=by
   rw[or8 (Tg _ _ _) bQ F0,hadd,D9 (2^(m %8))]
  rw[hg,z1,z2,hbyte];simp only[Aa];rw[Br IE,Aa,Br ID,Aa,hnew,Yb _ XA,Aa,U4 p 0 m T hT1 hT8,Amg,Aft,zh m F0,e2,hT,Br IE,Aa,z2,Ajr p m (j+1) T F0 hj,Cb,Ah];have ih:=Akw p b0 a0 (j+1-T) (m+T) q F0 F0 F0;rw[show m+T+(j+1-T)=m+(j+1) by omega]at ih;rw[<-ih,show((j+1:Nat):Int)-((T:Nat):Int)=((j+1-T:Nat):Int) by omega,show(m:Int)+((T:Nat):Int)=((m+T:Nat):Int) by omega]
theorem put_eq(p:LB)(m j:Nat)(hm:m+j<=300000)(hj:j<=63):eN (Ul p 0 m) (m:Int) (Tm p m j) (j:Int)=some (Ul p 0 (m+j),((m+j:Nat):Int),0):=by
 have hz:Bd (Cy (Tm p m j) (GI.toZ (j:Int)).toNat) 0=false:=by
  have:Cy (Tm p m j) j=0:=by
   apply UInt64.toNat_inj.1;rw[HZ,DZ p m j F0,MV (Tg p j m)];rfl
  rw[show(GI.toZ (j:Int)).toNat=j from rfl,this];rfl
 have hl:=Lj p 0 m;have htw:mK (Ul p 0 m) (m:Int)=some (Ul p 0 m,(m:Int)):=by
  rw[mK,Bz,Bg B5,Aa,Aa];rfl
 rw[eN,vD,EX (O4 p 0 m F0),Aa,A_ F2,A_ EE,B2 C1,Br IE,Aa,hz,A_ F2,Ah,A_ E7,htw,Aa];exact Akw p _ _ j m Ax hm F0 B_
end Go.Pl
