/- A part of a proof (see the text that ends in Proof). No conditions. -/
import Derived.Test.YtfndponlpdejaaaGreatDoorMpPA
import Derived.KernelRfl
set_option linter.unusedVariables false
set_option linter.unusedSimpArgs false
namespace Go.Lv
variable{a b:Int}{l:List UInt8}{n:Nat}{α:Type}
theorem Ag(h: -9223372036854775808<=a+b:=by omega)(h':a+b<=9223372036854775807:=by omega):Af a b=a+b:=by rw[Bbx,Dp h h']
theorem Ca(h: -9223372036854775808<=a-b:=by omega)(h':a-b<=9223372036854775807:=by omega):Ap a b=a-b:=by rw[Bb7,Dp h h']
theorem Ea(h: -9223372036854775808<=a*b:=by omega)(h':a*b<=9223372036854775807:=by omega):Bn a b=a*b:=by rw[Ash,Dp h h']
theorem YB(c:UInt8):(Ae c:Int)=(c.toNat:Int):=by rw[At8,Dp]<;>have:=c.toNat_lt<;>omega
theorem Abc(c:UInt32):(Ae c:Int)=(c.toNat:Int):=by rw[Aqj,Dp]<;>have:=c.toNat_lt<;>omega
theorem J5(c:UInt8):(Ae c:UInt64)=UInt64.ofNat c.toNat:=by simp only[Ae,QN,Ng]
theorem Dn(c:UInt32):(Ae c:UInt64)=UInt64.ofNat c.toNat:=by simp only[Ae,LO,Ng]
theorem iM(c:UInt64):(Ae c:UInt8)=UInt8.ofNat c.toNat:=by simp only[Ae,Oy,Vu]
theorem K5(c:UInt32):(Ae c:UInt8)=UInt8.ofNat c.toNat:=by simp only[Ae,LO,Vu]
theorem Xv(n:Nat):(Ae (n:Int):UInt64)=UInt64.ofNat n:=by simp only[Ae];exact Ng n
theorem ko(n:Nat):(Ae (n:Int):UInt32)=UInt32.ofNat n:=by simp only[Ae];exact Hs n
theorem Ats(n:Nat):(Ae (n:Int):UInt8)=UInt8.ofNat n:=by simp only[Ae];exact Vu n
theorem B4{c:UInt64}(h:c.toNat<9223372036854775808):(Ae c:Int)=(c.toNat:Int):=by rw[Aqf,Dp]<;>omega
theorem Aoh:LIM=17179869184:=F5
theorem Aq:36893488147419103231<As:=F5
theorem Bl{l:List α}(h:n<l.length:=by omega):Aj l (n:Int)=some l[n]:=by simp[Aj,h]
theorem Zv{l:List α}(x:α)(h:n<l.length):Rn l (n:Int) x=some (l.set n x):=by simp[Rn,h]
theorem TF{l:List α}(h:0<=a:=by omega)(h1:a<=b:=by omega)(h2:b<=l.length:=by omega):Bo l a b=some ((l.take b.toNat).drop a.toNat):=by rw[Bo,B6 ⟨h,h1,h2⟩]
theorem Dj{l:List α}(h:0<=a:=by omega)(h1:a<=l.length:=by omega):Bo l a (Ac l)=some (l.drop a.toNat):=by
 unfold Ac;rw[TF h h1 (Int.le_refl _),D0,QY]
theorem Dt{l:List α}(h:0<=b:=by omega)(h1:b<=l.length:=by omega):Bo l 0 b=some (l.take b.toNat):=by rw[TF (Int.le_refl _) h h1];rfl
theorem Ay{l m:List α}(h:l.length+m.length<=17179869184:=by omega):Bt l m=some (l++m):=by rw[Bt,Aoh,B6 h]
theorem yF{n:Int}{z:α}(h:0<=n:=by omega)(h':n<=17179869184:=by omega):mkI n z=some (List.replicate n.toNat z):=by rw[mkI,Aoh,B6 ⟨h,h'⟩]
theorem Bz{b:Bool}(h:b=true):Mt b=some ():=by rw[h];rfl
theorem Aa{β:Type}(a:α)(f:α->Option β):Option.bind (some a) f=f a:=rfl
theorem drop_cons{l:List α}(h:n<l.length):l.drop n=l[n]::l.drop (n+1):=Bke h
theorem Ho{l:List α}(h:n<l.length):l.take (n+1)=l.take n++[l[n]]:=by rw[List.take_add_one,List.getElem?_eq_getElem h];rfl
def Hl:List UInt8->Nat
 |[]=>0
 |x::r=>x.toNat+256*Hl r
theorem fQ:∀l:List UInt8,Hl l<256^l.length
 |[]=>by simp[Hl]
 |x::r=>by
  have h:=fQ r;have:=x.toNat_lt;simp only[Hl,E8,G1];omega
theorem Ab7:∀l m:List UInt8,Hl (l++m)=Hl l+256^l.length*Hl m
 |[],m=>by simp[Hl]
 |x::r,m=>by
  simp only[Hl,RK,Ab7 r m,E8,G1,XJ];rw[E! (256^r.length) 256,IF];omega
def E7(l:List UInt8):UInt64:=UInt64.ofNat (Hl l)
theorem Aw4(h:l.length<=8):Hl l<18446744073709551616:=by
 have h1:=fQ l;have h2:256^l.length<=256^8:=E4 F0 h;exact I6 h1 (by simpa using h2)
theorem Aot(h:l.length<=4):Hl l<4294967296:=by
 have h1:=fQ l;have h2:256^l.length<=256^4:=E4 F0 h;exact I6 h1 (by simpa using h2)
theorem mA(h:l.length<=8):(E7 l).toNat=Hl l:=by
 rw[E7,E6,C3 (Aw4 h)]
theorem ZI(h:l.length<=4):(Ae (E7 l):Int)=(Hl l:Int):=by
 have:=Aot h;rw[B4]<;>rw[mA F0];omega
def DZ(n:Nat):Nat->List UInt8
 |0=>[]
 |w+1=>UInt8.ofNat n::DZ (n/256) w
theorem Dk:∀(w n:Nat),(DZ n w).length=w
 |0,_=>rfl
 |w+1,n=>by simp[DZ,Dk w]
theorem Ahg:∀(w n:Nat),DZ n (w+1)=DZ n w++[UInt8.ofNat (n/256^w)]
 |0,n=>by simp[DZ]
 |w+1,n=>by
  rw[DZ,Ahg w (n/256),DZ];simp[VU,G1,E!]
def Ge(p:List UInt8)(i:Nat):Nat:=(p.getD (i/8) 0).toNat/2^(i %8) %2
theorem FN(p:List UInt8)(i:Nat):Ge p i<2:=IV _ F0
def Ck(p:List UInt8):Nat->Nat->Nat
 |_,0=>0
 |a,n+1=>Ge p a+2*Ck p (a+1) n
theorem Wo(p:List UInt8):∀(n a:Nat),Ck p a n<2^n
 |0,_=>by simp[Ck]
 |n+1,a=>by
  have:=Wo p n (a+1);have:=FN p a;rw[Ck,G1];omega
theorem aC(p:List UInt8):∀(m n a:Nat),Ck p a (m+n)=Ck p a m+2^m*Ck p (a+m) n
 |0,n,a=>by simp[Ck]
 |m+1,n,a=>by
  rw[show m+1+n=(m+n)+1 by omega,Ck,Ck,aC p m n (a+1),show a+1+m=a+(m+1) by omega,G1,XJ,E! (2^m) 2,IF];omega
theorem R3(p:List UInt8)(a:Nat):Ck p a 1=Ge p a:=by simp[Ck]
theorem oP(p:List UInt8)(a n:Nat):Ck p a (n+1)=Ck p a n+2^n*Ge p (a+n):=by rw[aC p n 1 a,R3]
theorem pS(p:List UInt8)(a:Nat):∀t:Nat,a %8+t<=8->Ck p a t=(p.getD (a/8) 0).toNat/2^(a %8) %2^t
 |0,_=>by simp[Ck,lN]
 |t+1,h=>by
  have h1:(a+t)/8=a/8:=F0
  have h2:(a+t) %8=a %8+t:=F0
  rw[oP,pS p a t F0,Ge,h1,h2,Nat.mod_pow_succ,RX,VU]
theorem xM{p:List UInt8}:∀(n a:Nat),(∀k,k<n->Ge p (a+k)=0)->Ck p a n=0
 |0,_,_=>rfl
 |n+1,a,h=>by
  have h0:=h 0 F0;rw[Ck,xM n (a+1) λk hk=>by have:=h (k+1) F0;rwa [show a+1+k=a+(k+1) by omega]];rw[N7]at h0;omega
def okB(p:List UInt8)(n:Nat):Prop:=n<=330000/\p.length=(n+7)/8/\∀k,n<=k->k<8*p.length->Ge p k=0
def Mx(p:List UInt8)(a n:Nat):List UInt8:=(List.range ((n+7)/8)).map λj=>UInt8.ofNat (Ck p (a+8*j) (min 8 (n-8*j)))
theorem Mv(p:List UInt8)(a n:Nat):(Mx p a n).length=(n+7)/8:=by simp[Mx]
theorem Ahd(p:List UInt8):∀(n a k:Nat),k<n->Ck p a n/2^k %2=Ge p (a+k)
 |n+1,a,0,_=>by have:=FN p a;rw[Ck];simp;omega
 |n+1,a,k+1,h=>by
  have hb:=FN p a;have e:(Ge p a+2*Ck p (a+1) n)/2=Ck p (a+1) n:=F0
  rw[Ck,G1,E! (2^k) 2,<-VU,e,Ahd p n (a+1) k F0,show a+1+k=a+(k+1) by omega]
theorem Aqk(p:List UInt8)(n a k:Nat)(h:n<=k):Ck p a n/2^k %2=0:=by
 have:=Wo p n a;rw[P! (I6 this (E4 F0 h))]
theorem W_(p:List UInt8)(a n k:Nat):Ge (Mx p a n) k=if k<n then Ge p (a+k)else 0:=by
 rw[Ge];by_cases hj:k/8<(n+7)/8
 ·have e:(Mx p a n).getD (k/8) 0=UInt8.ofNat (Ck p (a+8*(k/8)) (min 8 (n-8*(k/8)))):=by
   rw[List.getD_eq_getElem?_getD,List.getElem?_eq_getElem (by rw[Mv];exact hj)];simp[Mx]
  have hlt:Ck p (a+8*(k/8)) (min 8 (n-8*(k/8)))<256:=by
   have:=Wo p (min 8 (n-8*(k/8))) (a+8*(k/8));have h2:2^(min 8 (n-8*(k/8)))<=2^8:=E4 F0 F0;omega
  have hu:(UInt8.ofNat (Ck p (a+8*(k/8)) (min 8 (n-8*(k/8))))).toNat=Ck p (a+8*(k/8)) (min 8 (n-8*(k/8))):=by
   rw[I?];exact C3 hlt
  rw[e,hu];by_cases hk:k<n
  ·rw[B6 hk,Ahd p _ _ _ F0,show a+8*(k/8)+k %8=a+k by omega]
  ·rw[B! hk,Aqk p _ _ _ F0]
 ·have e:(Mx p a n).getD (k/8) 0=0:=by
   rw[List.getD_eq_getElem?_getD,List.getElem?_eq_none (by rw[Mv];omega)];rfl
  rw[e,B! F0];simp
theorem P3(p:List UInt8)(a n:Nat)(h:n<=330000):okB (Mx p a n) n:=⟨h,Mv p a n,λk hk _=>by rw[W_,B! F0]⟩
theorem Agj{p q:List UInt8}(hl:p.length=q.length)(h:∀k,k<8*p.length->Ge p k=Ge q k):p=q:=by
 apply M? hl;intro i h1 h2;have hp:Ck p (8*i) 8=Ck q (8*i) 8:=by
  have key:∀(n a:Nat),a+n<=8*p.length->Ck p a n=Ck q a n:=by
   intro n
   induction n with
   |zero=>intros;rfl
   |succ n ih=>intro a ha;rw[Ck,Ck,h a F0,ih (a+1) F0]
  exact key 8 (8*i) F0
 rw[pS p _ 8 F0,pS q _ 8 F0]at hp;have e1:8*i/8=i:=F0
 have e2:8*i %8=0:=F0
 rw[e1,e2]at hp;have a1:p.getD i 0=p[i]:=by simp[List.getD_eq_getElem?_getD,h1]
 have a2:q.getD i 0=q[i]:=by simp[List.getD_eq_getElem?_getD,h2]
 rw[a1,a2]at hp;apply UInt8.toNat_inj.1;have:=p[i].toNat_lt;have:=q[i].toNat_lt;simp at hp;omega
end Go.Lv
namespace Go.Pl
open Go Go.Lv
variable{x w:Int32}{α:Type}{s:UInt64}
theorem F2{p:Prop}(h:p:=by rw[Ad,Ac];simp;omega):p:=h
theorem lS{p:Prop}(h:p:=by simp[Ad,Ar,Ac];omega):p:=h
theorem F9{p:Prop}(h:p:=by rw[Ad];simp;omega):p:=h
theorem G2{p:Prop}(h:p:=by rw[Ax];simp;omega):p:=h
theorem H7{p:Prop}(h:p:=by simp[Ad,Ar];omega):p:=h
theorem K3{p:Prop}(h:p:=by rw[De];simp;omega):p:=h
theorem O4{p:Prop}(h:p:=by unfold Ac;omega):p:=h
theorem F7{p:Prop}(h:p:=by have:=Aq;omega):p:=h
theorem IZ{p:Prop}(h:p:=by rw[De];simp):p:=h
theorem T8{p:Prop}(h:p:=by rw[Ax];simp):p:=h
theorem Q0{p:Prop}(h:p:=by rw[Ax];rfl):p:=h
theorem Atc(b:LB)(hb:b.length<4611686018427387904):∀(j q:Nat),j<=b.length->j<q->Qx b q (E7 (b.drop j)) ((j:Int)-1)=some (E7 b)
 |0,q+1,_,_=>by
  rw[Qx,FF,B! IZ];simp[PX,Aox]
 |j+1,q+1,hj,hq=>by
  rw[Qx,FF,B6 IZ,show((j+1:Nat):Int)-1=(j:Int) by omega,Bl,Aa,Ca];have h:Af (Bn (256:UInt64) (E7 (b.drop (j+1)))) (Ae b[j]:UInt64)=E7 (b.drop j):=by
   rw[aM,aH,J5,drop_cons (n:=j) F0,E7,E7,Hl,vC,kP];exact UInt64.add_comm _ _
  rw[h];exact Atc b hb j q F0 F0
theorem ZU(b:LB)(hb:b.length<4611686018427387904):Bb b=some (E7 b):=by
 have h:=Atc b hb b.length As (D3 _) F7;rw[Bb,PN,Apl];have e:Ap (Ac b) 1=(b.length:Int)-1:=Ca O4 O4;rw[e,<-h,OH];rfl
theorem Au6{n c:UInt64}{i:Nat}(hn:n.toNat<2^i)(hc:c.toNat*2^i<18446744073709551616):K4 n (Ed c i)=UInt64.ofNat (n.toNat+c.toNat*2^i):=by
 rw[Azw];apply UInt64.toNat_inj.1;rw[UInt64.toNat_or,jL,C3 hc,E!,Nat.or_comm,<-SW hn,E6,C3,P6,E!];have h:=SW hn c.toNat;have h2:2^i*c.toNat+n.toNat<2^64:=by
  rw[h];exact Nat.or_lt_two_pow (by rw[E!];simpa using hc) n.toNat_lt
 rw[P6];first|exact h2|(rw[E!];exact h2)
theorem zh(b:LB)(hb:b.length<=8):∀(j i q:Nat),i+j=b.length->j<q->QU b q (E7 (b.take i)) (i:Int)=some (E7 b,0)
 |0,i,q+1,hi,_=>by
  rw[QU,kY,B! F2,show i=b.length by omega,QY];rfl
 |j+1,i,q+1,hi,hq=>by
  have hlt:i<b.length:=F0
  rw[QU,kY,B6 F2,Bl hlt,Aa,Ea,Bz K3,Aa,Ag];have h:K4 (E7 (b.take i)) (Ed (Ae b[i]:UInt64) (GI.toZ ((8:Int)*(i:Int))).toNat)=E7 (b.take (i+1)):=by
   have e:(GI.toZ ((8:Int)*(i:Int))).toNat=8*i:=by show((8:Int)*(i:Int)).toNat=_;omega
   have e2:(2:Nat)^(8*i)=256^i:=by rw[lO]
   have h1:=fQ (b.take i);rw[C8,MJ F0]at h1;have h3:=b[i].toNat_lt;have hle:(256:Nat)^(i+1)<=256^8:=E4 F0 F0;rw[G1]at hle;have h4:(Ae b[i]:UInt64).toNat=b[i].toNat:=by rw[J5,E6];omega
   have h5:b[i].toNat*256^i<18446744073709551616:=by
    have:b[i].toNat*256^i<256*256^i:=uK (by simpa using h3) (MP F0);simp at hle;omega
   rw[e,Au6 (by rw[mA F6,e2];exact h1) (by rw[h4,e2];exact h5),mA F6,h4,e2,Ho hlt];rw[E7,Ab7];simp only[Hl,C8,MJ (Nat.le_of_lt hlt),Nat.mul_zero,N7];rw[E!]
  rw[h];exact zh b hb j (i+1) q F0 F0
theorem Ai1(b:LB)(h1:1<=b.length)(h2:b.length<=8):wS b=some (E7 b,0):=by
 have h:=zh b h2 b.length 0 As F0 F7;rw[wS,yY,B! lS,Bes];exact h
def part(b:LB)(at' w:Nat):LB:=(b.take (at'+w)).drop at'
theorem Fs{b:LB}{a w:Nat}(h:a+w<=b.length:=by omega):(part b a w).length=w:=by simp[part];omega
theorem WK(b:LB)(a w:Nat)(h1:1<=w)(h2:w<=8)(h3:a+w<=b.length)(hb:b.length<4611686018427387904):pQ b (a:Int) (w:Int)=some (E7 (part b a w),0):=by
 rw[pQ,B! H7,B! (by rw[Ar,Ca O4 O4,Ac];simp;omega),Ag,TF,Aa];rw[show((a:Int)+(w:Int)).toNat=a+w by omega,show(a:Int).toNat=a by omega];rw[Ai1 _ (by rw[show((b.take (a+w)).drop a).length=_ from Fs h3];exact h1) (by rw[show((b.take (a+w)).drop a).length=_ from Fs h3];exact h2),Aa];rfl
theorem Bc4(w:Nat)(hw:w<=1000):∀(j i q:Nat) (n:UInt64) (acc:LB),i+j=w->j<q->acc.length+j<=1000000->Iv (w:Int) q n (i:Int) acc=some (acc++DZ n.toNat j)
 |0,i,q+1,n,acc,hi,_,_=>by
  rw[Iv,Tg,B! F9];simp[BD,Acs,DZ]
 |j+1,i,q+1,n,acc,hi,hq,ha=>by
  rw[Iv,Tg,B6 F9];have e:(Ae (FP n (256:UInt64)):UInt8)=UInt8.ofNat n.toNat:=by
   rw[iM,O9];apply UInt8.toNat_inj.1;rw[I?,I?,cV]
   show n.toNat %256 %256=_;omega
  have e2:(Bs n (256:UInt64)).toNat=n.toNat/256:=by rw[yE,W7];rfl
  rw[Ay F6,Aa,Ag,e];have h:=Bc4 w hw j (i+1) q (Bs n 256) (acc++[UInt8.ofNat n.toNat]) F0 F0 F6;rw[e2]at h;rw[show((i:Int)+1)=((i+1:Nat):Int) by omega,h,DZ];simp
theorem sI(n:UInt64)(w:Nat)(hw:w<=1000):Bf n (w:Int)=some (DZ n.toNat w):=by
 rw[Bf,CN,Acr];have h:=Bc4 w hw w 0 As n [] F0 F7 F6;simpa using h
theorem zD{l m:List α}{x y:α}{i:Nat}(h:l.length=i):(l++x::m).set i y=l++y::m:=by subst h;simp
theorem wQ(n:UInt64)(l4:LB)(w:Nat)(hl:l4.length=w)(hw:w<=8):∀(j i q:Nat),i+j=w->j<q->RL n l4 q (i:Int) (DZ n.toNat i++List.replicate j 0)=some (DZ n.toNat w,0)
 |0,i,q+1,hi,_=>by
  rw[RL,kT,B! F2];obtain rfl:i=w:=F0
  simp[wA,Be4]
 |j+1,i,q+1,hi,hq=>by
  have hlen:(DZ n.toNat i++List.replicate (j+1) 0).length=i+(j+1):=by simp[Dk]
  rw[RL,kT,B6 F2,Ea,Bz K3,Aa,Bl (by rw[hlen];omega),Aa,Zv _ (by rw[hlen];omega),Aa,Ag];have e:(Ae (Cx n (GI.toZ ((8:Int)*(i:Int))).toNat):UInt8)=UInt8.ofNat (n.toNat/256^i):=by
   have e:(GI.toZ ((8:Int)*(i:Int))).toNat=8*i:=by show((8:Int)*(i:Int)).toNat=_;omega
   rw[e,iM,VP,lO]
  rw[e,QR,zD (Dk _ _)];have h:=wQ n l4 w hl hw j (i+1) q F0 F0;rw[Ahg]at h;simpa using h
theorem Az5(n:UInt64)(w:Nat)(h1:1<=w)(h2:w<=8)(h:n.toNat<256^w):B_ n (w:Int)=some true:=by
 rw[B_];by_cases h8:w=8
 ·subst h8;rw[B6 Q0]
 ·rw[B! G2,Ea,Bz K3,Aa];have e:(GI.toZ ((8:Int)*(w:Int))).toNat=8*w:=by show((8:Int)*(w:Int)).toNat=_;omega
  rw[e,H'];have:Cx n (8*w)=0:=by
   apply UInt64.toNat_inj.1;rw[VP,lO];exact P! h
  rw[this];rfl
theorem iL(n:UInt64)(w:Nat)(h1:1<=w)(h2:w<=8)(h:n.toNat<256^w):NP n (w:Int)=some (DZ n.toNat w,0):=by
 rw[NP,xJ,B! H7,Az5 n w h1 h2 h,Aa,B! B8,yF,Aa,Bz T8,Aa,Beb];have h:=wQ n (List.replicate (w:Int).toNat 0) w B8 h2 w 0 As F0 F7;simpa [DZ]using h
theorem E5{p:Prop}(h:p:=by rw[Ar];simp;omega):p:=h
theorem D7{p:Prop}(h:p:=by rw[Am];simp):p:=h
theorem ug(n:Nat)(h:n<4611686018427387904):Gv (n:Int) (7:Int)=((n %8:Nat):Int):=by
 have e:Gv (n:Int) (7:Int)=wrap64 ((BitVec.ofInt 64 (n:Int)&&&BitVec.ofInt 64 7).toNat:Int):=rfl;rw[e,kD,QP,QP];have h1:((n:Int) %((2^64:Nat):Int)).toNat=n:=F0
 have h2:((7:Int) %((2^64:Nat):Int)).toNat=2^3-1:=F5
 rw[h1,h2,aX,Dp F0 F0]
theorem Bd2(n:Nat):SA (n:Int) (GI.toZ (3:UInt64)).toNat=((n/8:Nat):Int):=by
 have e:SA (n:Int) (GI.toZ (3:UInt64)).toNat=(n:Int).fdiv 8:=rfl;rw[e,NX _ F0];omega
theorem Bfg{t:Nat}(h:t<=8):Ap (Ed (1:UInt8) t) (1:UInt8)=UInt8.ofNat (2^t-1):=by
 have:t=0\/t=1\/t=2\/t=3\/t=4\/t=5\/t=6\/t=7\/t=8:=F0
 rcases this with rfl|rfl|rfl|rfl|rfl|rfl|rfl|rfl|rfl<;>decide
theorem bitsOf(c:UInt8)(off t:Nat)(h:t<=8):(Gv (Cx c off) (Ap (Ed (1:UInt8) t) (1:UInt8))).toNat=c.toNat/2^off %2^t:=by
 have hp:2^t<=2^8:=E4 F0 h;rw[Bfg h,Am7,uW,C_,I?,C3 (by have:=MP (n:=t) (show 0<2 by omega);omega),aX]
theorem G? {p:LB}{k:Nat}(h:k<p.length):Aj p (k:Int)=some (p.getD k 0):=by
 rw[Bl h];simp[List.getD_eq_getElem?_getD,h]
def Re(p:LB)(a n:Nat):UInt64:=UInt64.ofNat (Ck p a n)
theorem CY(p:LB)(a n:Nat)(h:n<=64):(Re p a n).toNat=Ck p a n:=by
 have h1:=Wo p n a;have h2:2^n<=2^64:=E4 F0 h;rw[Re,E6,C3 F0]
theorem Ahv(p:LB)(N:Int)(a n:Nat)(hn:n<=64)(ha:a+n<=8*p.length)(hp:p.length<=1000000):∀(j h q:Nat),h+j=n->j<q->aF (a:Int) (n:Int) p N q (Re p a h) (h:Int)=some (Re p a n)
 |j,h,q+1,hj,hq=>by
  rw[aF,xN];by_cases hlt:h<n
  ·have e1:Af (a:Int) (h:Int)=((a+h:Nat):Int):=by rw[Ag];omega
   have e2:Du (Ap (n:Int) (h:Int)) (Ap (8:Int) (((a+h) %8:Nat):Int))=((min (n-h) (8-(a+h) %8):Nat):Int):=by
    rw[Zp,Ca,Ca];omega
   have hm:(a+h)/8<p.length:=F0
   rw[B6 F9,e1,Bd2,G? hm,Aa,ug _ F0,Bz K3,Aa,e2,Bz IZ,Aa,Bz IZ,Aa];generalize hT:min (n-h) (8-(a+h) %8)=T;have hT8:T<=8:=F0
   have hT1:1<=T:=F0
   have hb:(a+h) %8+T<=8:=F0
   have hv:=pS p (a+h) T hb;have z1:(GI.toZ (((a+h) %8:Nat):Int)).toNat=(a+h) %8:=rfl;have z2:(GI.toZ ((T:Nat):Int)).toNat=T:=rfl;have z3:(GI.toZ ((h:Nat):Int)).toNat=h:=rfl;rw[z1,z2,z3];have hx:(Ae (Gv (Cx (p.getD ((a+h)/8) 0) ((a+h) %8)) (Ap (Ed (1:UInt8) T) (1:UInt8))):UInt64).toNat=Ck p (a+h) T:=by
    rw[J5,E6,bitsOf _ _ _ hT8,<-hv];have:=Wo p T (a+h);have h2:2^T<=2^8:=E4 F0 hT8;omega
   have hlt2:=Wo p (h+T) a;rw[aC]at hlt2;have h64:2^(h+T)<=2^64:=E4 F0 F0;have hor:K4 (Re p a h) (Ed (Ae (Gv (Cx (p.getD ((a+h)/8) 0) ((a+h) %8)) (Ap (Ed (1:UInt8) T) (1:UInt8))):UInt64) h)=Re p a (h+T):=by
    rw[Au6 (by rw[CY p a h F0];exact Wo p h a) (by rw[hx,E!];omega),hx,CY p a h F0,Re,aC,E! (2^h)]
   rw[hor,Ag,show(h:Int)+((T:Nat):Int)=((h+T:Nat):Int) by omega];exact Ahv p N a n hn ha hp (j-T) (h+T) q F0 F0
  ·rw[B! F9,show h=n by omega];rfl
theorem get_eq(p:LB)(N:Int)(a n:Nat)(hn:n<=64)(ha:a+n<=8*p.length)(hp:p.length<=1000000):U4 p N (a:Int) (n:Int)=some (Re p a n):=by
 have:=Ahv p N a n hn ha hp n 0 As F0 F7;exact this
theorem LR{p:LB}{n:Nat}(h:okB p n):Pc p (n:Int)=some 0:=by
 obtain⟨h1,h2,h3⟩:=h;have e7:Af (n:Int) 7=((n+7:Nat):Int):=by rw[Ag];omega
 rw[Pc,e7,Bd2,B! (by simp[Ad,Ar,Am,Ac,h2];omega),ug _ F0];by_cases hz:n %8=0
 ·rw[B! E5]
 ·have el:Ap (Ac p) 1=((p.length-1:Nat):Int):=by rw[Ac,Ca];omega
  rw[B6 E5,el,G? F0,Aa,Bz K3,Aa];have z:(GI.toZ ((n %8:Nat):Int)).toNat=n %8:=rfl;have hs:Cx (p.getD (p.length-1) 0) (n %8)=0:=by
   apply UInt8.toNat_inj.1;rw[C_];have hv:=pS p n (8-n %8) F0;have h0:Ck p n (8-n %8)=0:=xM _ _ λk hk=>h3 _ F0 F0;rw[h0,show n/8=p.length-1 by omega]at hv;have hlt:(p.getD (p.length-1) 0).toNat/2^(n %8)<2^(8-n %8):=by
    have:=(p.getD (p.length-1) 0).toNat_lt;rw[uR (MP F0),<-RX,show 8-n %8+n %8=8 by omega];simpa using this
   rw[C3 hlt]at hv;exact hv.symm
  rw[z,hs,B! (by rw[qK];simp)]
theorem ni{p:LB}{N:Nat}(h:okB p N)(a n:Nat)(hn:n<=64):US p (N:Int) (a:Int) (n:Int)=some (if N<a+n then(0,24)else(Re p a n,0)):=by
 obtain⟨h1,h2,h3⟩:=h;rw[US,LR ⟨h1,h2,h3⟩,Aa,B! D7,B! H7,Ca];by_cases hl:N<a+n
 ·rw[B6 E5,B6 hl]
 ·rw[B! E5,get_eq p N a n hn F0 F0,Aa,B! hl]
theorem dH{p:Prop}(h:p:=by rw[Mv];simp;omega):p:=h
theorem dK{p:Prop}(h:p:=by rw[E!];omega):p:=h
theorem Bgg(c:Nat)(h:c<4611686018427387904):Bs (c:Int) (2:Int)=((c/2:Nat):Int):=by
 rw[YC,TM F0,Dp F0 F0];omega
theorem Bd3(c:Nat)(h:c<4611686018427387904):Bs (c:Int) (8:Int)=((c/8:Nat):Int):=by
 rw[YC,TM F0,Dp F0 F0];omega
theorem aA(c:Nat):Gx (c:Int) (8:Int)=((c %8:Nat):Int):=by rw[Gx,bB F0];omega
theorem Bgr(c:Nat):Gx (c:Int) (2:Int)=((c %2:Nat):Int):=by rw[Gx,bB F0];omega
theorem An4(i c:Nat)(hc:c<256):∀(j k q:Nat),k+j=i %8->j<q->Rb (i:Int) q ((c/2^k:Nat):Int) (k:Int)=some (((c/2^(i %8) %2:Nat):Int))
 |0,k,q+1,hk,_=>by
  rw[Rb,EL,aA,B! F9,QL,Ar9,Bgr,show k=i %8 by omega]
 |j+1,k,q+1,hk,hq=>by
  have hle:c/2^k<=c:=G9 _ _;rw[Rb,EL,aA,B6 F9,Bgg _ F0,Ag,VU,<-G1];exact An4 i c hc j (k+1) q F0 F0
theorem Y0(p:LB)(N:Int)(i:Nat)(h:i/8<p.length)(hi:i<4611686018427387904):Pz p N (i:Int)=some ((Ge p i:Nat):Int):=by
 have hc:=(p.getD (i/8) 0).toNat_lt;have:=An4 i (p.getD (i/8) 0).toNat (by simpa using hc) (i %8) 0 As F0 F7;rw[Pz,QE,Bd3 _ hi,G? h,Aa,YB,Ara];simpa [Ge]using this
theorem At0(p:LB)(N:Int)(a n:Nat)(ha:a+n<=8*p.length)(hp:p.length<=1000000):∀(j q:Nat),j<=n->j<q->Lk (a:Int) p N q (Re p (a+j) (n-j)) ((j:Int)-1)=some (Re p a n)
 |0,q+1,_,_=>by
  rw[Lk,Ws,B! IZ];rfl
 |j+1,q+1,hj,hq=>by
  have hb:=FN p (a+j);rw[Lk,Ws,show((j+1:Nat):Int)-1=(j:Int) by omega,B6 IZ,Ag (a:=(a:Int)) F0 F0,show(a:Int)+(j:Int)=((a+j:Nat):Int) by omega,Y0 p N (a+j) F0 F0,Aa,Ca];have e:Af (Bn (2:UInt64) (Re p (a+(j+1)) (n-(j+1)))) (Ae ((Ge p (a+j):Nat):Int):UInt64)=Re p (a+j) (n-j):=by
   rw[aM,aH,Xv,Re,Re,show n-j=(n-(j+1))+1 by omega,Ck,show a+j+1=a+(j+1) by omega,vC,kP];exact UInt64.add_comm _ _
  rw[e];exact At0 p N a n ha hp j q F0 F0
theorem H9(p:LB)(N:Int)(a n:Nat)(ha:a+n<=8*p.length)(hp:p.length<=1000000):Wb p N (a:Int) (n:Int)=some (Re p a n):=by
 have:=At0 p N a n ha hp n As (D3 _) F7;have hz:Re p (a+n) (n-n)=0:=by rw[Nat.sub_self];rfl
 rw[hz]at this;rw[Wb,HF,Ahi,Ca];exact this
theorem Ao8(bit:Int)(N:Nat)(l:LB):∀(j k q:Nat),k+j=N %8->j<q->Pv bit (N:Int) l q ((2^k:Nat):Int) (k:Int)=AN bit ((2^(N %8):Nat):Int) (N:Int) l
 |0,k,q+1,hk,_=>by
  rw[Pv,BA,aA,B! F9,show k=N %8 by omega]
 |j+1,k,q+1,hk,hq=>by
  have hp:2^k<=2^8:=E4 F0 F0;have e:Bn ((2^k:Nat):Int) 2=((2^(k+1):Nat):Int):=by
   rw[G1];generalize 2^k=K at*
   rw[Ea];omega
  rw[Pv,BA,aA,B6 F9,e,Ag];exact Ao8 bit N l j (k+1) q F0 F0
theorem L? (p:LB)(a n j:Nat)(h:j<(n+7)/8):(Mx p a n)[j]'(by rw[Mv];exact h)=UInt8.ofNat (Ck p (a+8*j) (min 8 (n-8*j))):=by simp[Mx]
theorem zA(p:LB)(a t:Nat)(h:t<=8):Ck p a t<256:=by
 have h1:=Wo p t a;have h2:2^t<=2^8:=E4 F0 h;omega
def room(p:LB)(a n:Nat):LB:=if n %8=0 then Mx p a n++[0]else Mx p a n
theorem Rq(p:LB)(a n:Nat):(room p a n).length=n/8+1:=by
 rw[room];split<;>simp[Mv]<;>omega
theorem Ajq(p:LB)(a n j:Nat)(h:j<n/8+1):(room p a n)[j]'(by rw[Rq];exact h)=UInt8.ofNat (Ck p (a+8*j) (min 8 (n-8*j))):=by
 have h0:(room p a n)[j]? =some (UInt8.ofNat (Ck p (a+8*j) (min 8 (n-8*j)))):=by
  rw[room];split
  ·by_cases hj:j<(n+7)/8
   ·rw[List.getElem?_append_left (by rw[Mv];exact hj),List.getElem?_eq_getElem (by rw[Mv];exact hj),L? p a n j hj]
   ·rw[List.getElem?_append_right (by rw[Mv];omega),Mv,show j-(n+7)/8=0 by omega,show n-8*j=0 by omega];rfl
  ·rw[List.getElem?_eq_getElem (by rw[Mv];omega),L? p a n j F0]
 rw[List.getElem?_eq_getElem (by rw[Rq];exact h)]at h0;exact QT h0
theorem yO(p:LB)(a n T:Nat)(h1:1<=T)(h:n %8+T<=8):(room p a n).set (n/8) (UInt8.ofNat (Ck p (a+8*(n/8)) (n %8+T)))=Mx p a (n+T):=by
 apply M? (by rw[P4,Rq,Mv];omega);intro j g1 g2;rw[P4,Rq]at g1;rw[W?,L? p a (n+T) j (by rw[Mv]at g2;exact g2)];split
 ·rename_i e;subst e;rw[show min 8 (n+T-8*(n/8))=n %8+T by omega]
 ·rw[Ajq p a n j g1,show min 8 (n-8*j)=8 by omega,show min 8 (n+T-8*j)=8 by omega]
theorem eY(p:LB)(a n:Nat):(room p a n)[n/8]'(by rw[Rq];omega)=UInt8.ofNat (Ck p (a+8*(n/8)) (n %8)):=by
 rw[Ajq p a n _ F0,show min 8 (n-8*(n/8))=n %8 by omega]
theorem N4(p:LB)(a n:Nat)(hn:n<=400000):Dv (Mx p a n) (n:Int) ((Ge p (a+n):Nat):Int)=some (Mx p a (n+1),((n+1:Nat):Int)):=by
 have hb:=FN p (a+n);have hp:2^(n %8)<=2^7:=E4 F0 F0;have hroom:Dv (Mx p a n) (n:Int) ((Ge p (a+n):Nat):Int)=MU ((Ge p (a+n):Nat):Int) (n:Int) (room p a n):=by
  rw[Dv,MW,aA,room];by_cases h0:n %8=0
  ·rw[B6 (by rw[Ax,h0];rfl),Ay dH,Aa,B6 h0]
  ·rw[B! G2,B! h0]
 have hl:=Ao8 ((Ge p (a+n):Nat):Int) n (room p a n) (n %8) 0 As F0 F7;rw[hroom,MU,NG,Am1];refine D9 hl ?_;have hg:Aj (room p a n) ((n/8:Nat):Int)=some (UInt8.ofNat (Ck p (a+8*(n/8)) (n %8))):=by
  rw[Bl (by rw[Rq];omega),eY]
 have hlt:=zA p (a+8*(n/8)) (n %8+1) F0;have hsn:=oP p (a+8*(n/8)) (n %8);rw[show a+8*(n/8)+n %8=a+n by omega]at hsn;have hm:Bn ((Ge p (a+n):Nat):Int) ((2^(n %8):Nat):Int)=((2^(n %8)*Ge p (a+n):Nat):Int):=by
  have hle:2^(n %8)*Ge p (a+n)<=2^7*1:=G0 hp F0;rw[Ash,<-M!,Dp F0 dK,E!]
 have hx:Af (UInt8.ofNat (Ck p (a+8*(n/8)) (n %8))) (Ae (((2^(n %8)*Ge p (a+n):Nat):Int)):UInt8)=UInt8.ofNat (Ck p (a+8*(n/8)) (n %8+1)):=by
  rw[Ao5,Ats,hsn,UInt8.ofNat_add]
 rw[AN,Amc,Bd3 _ F0,hg,Aa,Aa,Aa,hm,hx,Zv _ (by rw[Rq];omega),Aa,yO p a n 1 F0 F0,Ag];rfl
theorem Aeh(p:LB)(N:Int)(a n:Nat)(ha:a+n<=8*p.length)(hp:p.length<=1000000)(hn:n<=300000):∀(j m q:Nat),m+j=n->j<q->Ix ((a+n:Nat):Int) p N q ((a+m:Nat):Int) (m:Int) (Mx p a m)=some (Mx p a n,(n:Int))
 |0,m,q+1,hm,_=>by
  rw[Ix,Tf,B! F9,show m=n by omega];rfl
 |j+1,m,q+1,hm,hq=>by
  rw[Ix,Tf,B6 F9,Y0 p N (a+m) F0 F0,Aa,N4 p a m F0,Aa];simp only;rw[Ag];exact Aeh p N a n ha hp hn j (m+1) q F0 F0
theorem Agg(p:LB)(N:Int)(a n:Nat)(ha:a+n<=8*p.length)(hp:p.length<=1000000)(hn:n<=300000):KG p N (a:Int) ((a+n:Nat):Int)=some (Mx p a n,(n:Int)):=by
 have:=Aeh p N a n ha hp hn n 0 As F0 F7;exact this
theorem UD{p:Prop}(h:p:=by rw[Rq];omega):p:=h
theorem S0{p:Prop}(h:p:=by rw[Ar];simp):p:=h
theorem Bbf{t:Nat}(h:t<=8):Ap (Ed (1:UInt64) t) (1:UInt64)=UInt64.ofNat (2^t-1):=by
 have:t=0\/t=1\/t=2\/t=3\/t=4\/t=5\/t=6\/t=7\/t=8:=F0
 rcases this with rfl|rfl|rfl|rfl|rfl|rfl|rfl|rfl|rfl<;>decide
theorem Be8(v:UInt64){t:Nat}(h:t<=8):(Gv v (Ap (Ed (1:UInt64) t) (1:UInt64))).toNat=v.toNat %2^t:=by
 have hp:2^t<=2^8:=E4 F0 h;rw[Bbf h,D?,kL,E6,C3 (by have:=MP (n:=t) (show 0<2 by omega);omega),aX]
theorem or8{v w i:Nat}(hv:v<2^i)(hw:w*2^i<256)(hi:i<8):K4 (UInt8.ofNat v) (Ed (UInt8.ofNat w) i)=UInt8.ofNat (v+w*2^i):=by
 have hp:2^i<=2^8:=E4 F0 F0;have hpos:0<2^i:=MP F0;have hw2:w<256:=QS (VO w hpos) hw;rw[Bbq];apply UInt8.toNat_inj.1;have e1:(UInt8.ofNat v).toNat=v:=by rw[I?,C3 F0]
 have e2:(UInt8.ofNat w).toNat=w:=by rw[I?,C3 F0]
 rw[UInt8.toNat_or,Ayh,e1,e2,C3 hw,E! w,Nat.or_comm,<-SW hv,I?,P6 v];rw[E!]at hw;have hb:2^i*w+v<256:=by
  rw[SW hv];exact Nat.or_lt_two_pow (n:=8) hw F0
 rw[C3 hb]
theorem Ahx(p:LB)(a n T:Nat)(h:T<=n)(hn:n<=64):Cx (Re p a n) T=Re p (a+T) (n-T):=by
 apply UInt64.toNat_inj.1;rw[VP,CY p a n hn,CY p (a+T) (n-T) F0];have:=Wo p T a
 conv=>lhs;rw[show n=T+(n-T) by omega,aC,Nat.add_mul_div_left _ _ (MP F0),P! this,L8]
theorem Ajg(p:LB)(a n T:Nat)(h:T<=n)(hn:n<=64):(Re p a n).toNat %2^T=Ck p a T:=by
 have:=Wo p T a;rw[CY p a n hn]
 conv=>lhs;rw[show n=T+(n-T) by omega,aC,Nat.add_mul_mod_self_left,C3 this]
theorem Bdl(bk:Int->Int->LB->Option (LB×Int×Int))(to':Int)(p:LB)(N fr:Int)(r6:UInt64)(a:Nat):∀(j m q:Nat),m+j<=300000->j<=64->j<q->
  Yj bk to' p N fr r6 q (Re p (a+m) j) (j:Int) (m:Int) (Mx p a m)=dQ bk to' p N fr ((m+j:Nat):Int) (Mx p a (m+j))
 |0,m,q+1,_,_,_=>by
  rw[Yj,dZ,B! S0];rfl
 |j+1,m,q+1,hm,hj,hq=>by
  have hroom:Yj bk to' p N fr r6 (q+1) (Re p (a+m) (j+1)) ((j+1:Nat):Int) (m:Int) (Mx p a m)=eC (Yj bk to' p N fr r6 q) to' fr p N r6 (Re p (a+m) (j+1)) ((j+1:Nat):Int) (m:Int) (room p a m):=by
   rw[Yj,dZ,B6 S0,ug m F0,room];by_cases h0:m %8=0
   ·rw[B6 (by rw[Ax,h0];rfl),Ay dH,Aa,B6 h0]
   ·rw[B! G2,B! h0]
  have hl:Ap (Ac (room p a m)) 1=((m/8:Nat):Int):=by
   rw[Ac,Rq,Ca];omega
  have e2:Du ((j+1:Nat):Int) (Ap (8:Int) ((m %8:Nat):Int))=((min (j+1) (8-m %8):Nat):Int):=by
   rw[Zp,Ca];omega
  rw[hroom,eC,Afk,ug m F0,e2,hl];generalize hT:min (j+1) (8-m %8)=T;have hT1:1<=T:=F0
  have hT8:m %8+T<=8:=F0
  have hg:Aj (room p a m) ((m/8:Nat):Int)=some (UInt8.ofNat (Ck p (a+8*(m/8)) (m %8))):=by
   rw[Bl UD,eY]
  have z1:(GI.toZ ((m %8:Nat):Int)).toNat=m %8:=rfl;have z2:(GI.toZ ((T:Nat):Int)).toNat=T:=rfl;have hlt:=zA p (a+8*(m/8)) (m %8+T) F0;have hadd:=aC p (m %8) T (a+8*(m/8));rw[show a+8*(m/8)+m %8=a+m by omega]at hadd;have hbyte:(Ae (Gv (Re p (a+m) (j+1)) (Ap (Ed (1:UInt64) T) (1:UInt64))):UInt8)=UInt8.ofNat (Ck p (a+m) T):=by
   rw[iM,Be8 _ F0,Ajg p (a+m) (j+1) T F0 hj]
  have hnew:K4 (UInt8.ofNat (Ck p (a+8*(m/8)) (m %8))) (Ed (UInt8.ofNat (Ck p (a+m) T)) (m %8))=UInt8.ofNat (Ck p (a+8*(m/8)) (m %8+T)):=by
   rw[or8 (Wo _ _ _) dK F0,hadd,E! (2^(m %8))]
  rw[hg,z1,z2,hbyte];simp only[Aa];rw[Bz IZ,Aa,Bz K3,Aa,hnew,Zv _ UD,Aa,yO p a m T hT1 hT8,Ae2,Aca,ug m F0,e2,hT,Bz IZ,Aa,z2,Ahx p (a+m) (j+1) T F0 hj,Ca,Ag];have ih:=Bdl bk to' p N fr r6 a (j+1-T) (m+T) q F0 F0 F0;rw[show m+T+(j+1-T)=m+(j+1) by omega]at ih;rw[<-ih,show a+m+T=a+(m+T) by omega,show((j+1:Nat):Int)-((T:Nat):Int)=((j+1-T:Nat):Int) by omega,show(m:Int)+((T:Nat):Int)=((m+T:Nat):Int) by omega]
theorem Ahp(p:LB)(N:Int)(a n:Nat)(ha:a+n<=8*p.length)(hp:p.length<=1000000)(hn:n<=300000):∀(j m f q:Nat),(f=m\/n<=f/\m=n)->m+j=n->f<=n+64->j<q->LA ((a+n:Nat):Int) p N q ((a+f:Nat):Int) (m:Int) (Mx p a m)=some (Mx p a n,(n:Int),0)
 |j,m,f,q+1,hf,hm,hf2,hq=>by
  rw[LA,sO];by_cases hlt:f<n
  ·obtain rfl:f=m:=F0
   have e1:Du (64:Int) (Ap ((a+n:Nat):Int) ((a+f:Nat):Int))=((min 64 (n-f):Nat):Int):=by
    rw[Zp,Ca];omega
   rw[B6 F9,e1,get_eq p N (a+f) _ F0 F0 hp,Aa,sS];have h1:=Bdl (LA ((a+n:Nat):Int) p N q) ((a+n:Nat):Int) p N ((a+f:Nat):Int) (Re p (a+f) (min 64 (n-f))) a (min 64 (n-f)) f As F0 F0 F7;refine D9 h1 ?_;rw[dQ,Ac8,Ag,show((a+f:Nat):Int)+64=((a+(f+64):Nat):Int) by omega];exact Ahp p N a n ha hp hn (j-min 64 (n-f)) (f+min 64 (n-f)) (f+64) q F0 F0 F0 F0
  ·rw[B! F9,rB,Aeg,show m=n by omega]
theorem Bbw{p:LB}{N:Nat}(h:okB p N)(a n:Nat)(ha:a+n<=N)(hn:n<=300000):xL p (N:Int) (a:Int) ((a+n:Nat):Int)=some (Mx p a n,(n:Int),0):=by
 obtain⟨h1,h2,h3⟩:=h;have:=Ahp p N a n F0 F0 hn n 0 0 As F0 F0 F0 F7;rw[xL,xS,LR ⟨h1,h2,h3⟩,Aa,B! D7,B! H7,Abk];exact this
theorem WC{p:Prop}(h:p:=by simp[Ad];omega):p:=h
theorem I!{p:Prop}(h:p:=by rw[Ad];simp):p:=h
def Li(p:LB):Nat->Nat->Nat
 |_,0=>0
 |a,m+1=>if Ge p a=1 then 1+Li p (a+1) m else 0
theorem kQ(p:LB):∀(m a:Nat),Li p a m<=m
 |0,_=>D3 _
 |m+1,a=>by rw[Li];split<;>have:=kQ p m (a+1)<;>omega
theorem Ah7(p:LB):∀(m a:Nat),∃s,Ck p a m+1=2^(Li p a m+1)*s+2^Li p a m/\ (Li p a m=m->s=0)
 |0,a=>⟨0,by simp[Ck,Li],λ_=>rfl⟩
 |m+1,a=>by
  have hb:=FN p a;obtain⟨s,h1,h2⟩:=Ah7 p m (a+1);by_cases h:Ge p a=1
  ·refine⟨s,?_,λe=>h2 ?_⟩
   ·rw[Li,B6 h,Ck,h,show 1+Li p (a+1) m+1=(Li p (a+1) m+1)+1 by omega,show 1+Li p (a+1) m=Li p (a+1) m+1 by omega,G1,G1 (n:=2) (m:=Li p (a+1) m)];rw[G1]at h1;generalize Ck p (a+1) m=V at*
    generalize 2^Li p (a+1) m=W at*
    have e1:W*2*2*s=2*(W*2*s):=by rw[jk (W*2) 2 s,E!]
    omega
   ·rw[Li,B6 h]at e;omega
  ·refine⟨Ck p (a+1) m,?_,λe=>?_⟩
   ·rw[Li,B! h,Ck];simp;omega
   ·rw[Li,B! h]at e;omega
theorem Azp{n t s:Nat}(h:2^(t+1)*s+2^t<=2^n)(ht:t<n)(x:Nat)(hx:x=2^n-(2^(t+1)*s+2^t)):x&&& (2^(t+1)*s+2^t)=2^t:=by
 have hpos:0<2^t:=MP F0;have hlt:2^t<2^(t+1):=by rw[G1];omega
 have e:x=2^n-((2^(t+1)*s+(2^t-1))+1):=by rw[hx];congr 1;omega
 apply uS;intro i;rw[Nat.testBit_and,e,Nat.testBit_two_pow_sub_succ F0,Bj2 _ F0,Bj2 _ hlt];by_cases hi:i<t+1
 ·rw[B6 hi,B6 hi,Nat.testBit_two_pow_sub_one,Nat.testBit_two_pow];by_cases hit:t=i
  ·subst hit;simp;exact ht
  ·have:¬i=t:=λe=>hit e.symm;simp[hit]
 ·rw[B! hi,B! hi,Nat.testBit_two_pow];have:¬t=i:=F0
  simp[this]
theorem Avu(a:UInt64):(J? a).toNat=18446744073709551615-a.toNat:=by
 have h:=a.toNat_lt;have e:J? a=UInt64.ofNat (BitVec.ofInt 64 18446744073709551615^^^BitVec.ofInt 64 (a.toNat:Int)).toNat:=Ng _;have h1:BitVec.ofInt 64 (a.toNat:Int)=a.toBitVec:=eG a;have h2:(BitVec.ofInt 64 18446744073709551615:BitVec 64)=BitVec.allOnes 64:=F5
 rw[e,E6,h1,h2,BitVec.allOnes_xor,kX];show(18446744073709551616-1-a.toNat) %18446744073709551616=18446744073709551615-a.toNat;omega
theorem Aul(a:UInt64):(O8 a).toNat=(18446744073709551616-a.toNat) %18446744073709551616:=by
 have h:=a.toNat_lt;have e:O8 a=UInt64.ofNat ((0-(a.toNat:Int)) %18446744073709551616).toNat:=nW _;rw[e,E6];show((0-(a.toNat:Int)) %18446744073709551616).toNat %18446744073709551616=_;omega
def Be5:LB:=[0,1,56,2,57,49,28,3,61,58,42,50,38,29,17,4,62,47,59,36,45,43,51,22,53,39,33,30,24,18,12,5,63,55,48,27,60,41,37,16,46,35,44,21,52,32,23,11,54,26,40,15,34,20,31,10,25,14,19,9,13,8,7,6]
theorem Apz:∀t:Fin 64,Aj Be5 (GI.toZ (Cx (Bn (UInt64.ofNat (2^t.val)) (285870213051353865:UInt64)) (GI.toZ (58:UInt64)).toNat))=some (UInt8.ofNat t.val):=by decide +kernel
theorem Bei(x:UInt64)(t s:Nat)(ht:t<64)(h:x.toNat+(2^(t+1)*s+2^t)=18446744073709551616):Kr x=some (t:Int):=by
 have hpos:0<2^t:=MP F0;have hx:x.toNat=2^64-(2^(t+1)*s+2^t):=by show x.toNat=18446744073709551616-_;omega
 have hle:2^t<=2^63:=E4 F0 F0;have hne:x≠0:=by
  intro e;rw[e]at h;have h':2^t*(2*s+1)=2^64:=by
   rw[XJ,lL,<-IF,<-G1]
   show _=18446744073709551616;simpa using h
  have h2:2^64=2^t*2^(64-t):=by rw[<-RX];congr 1;omega
  rw[h2]at h';have h3:=Nat.eq_of_mul_eq_mul_left hpos h';rw[show 64-t=(63-t)+1 by omega,G1]at h3;omega
 have hx0:x.toNat≠0:=λe=>hne (UInt64.toNat_inj.1 e);have hl:Gv x (O8 x)=UInt64.ofNat (2^t):=by
  apply UInt64.toNat_inj.1;rw[D?,kL,Aul,show(18446744073709551616-x.toNat) %18446744073709551616=2^(t+1)*s+2^t by omega,Azp (n:=64) (by show _<=18446744073709551616;omega) ht _ hx,E6,C3];exact QS hle F5
 have hb:=Apz ⟨t,ht⟩;rw[Kr,B! (by rw[H'];simpa using hne),hl];refine D9 (congrArg (λo=>Option.bind o λc=>some (Ae c:Int)) hb) ?_;rw[Aa,YB,I?,C3 (by show t<256;omega)]
theorem Azy(p:LB)(a m:Nat)(hm:m<=48):Kr (J? (Re p a m))=some ((Li p a m:Nat):Int):=by
 obtain⟨s,h1,h2⟩:=Ah7 p m a;have hle:=kQ p m a;have hlt:=Wo p m a;have h48:2^m<=2^48:=E4 F0 hm;have hn:(J? (Re p a m)).toNat=18446744073709551615-Ck p a m:=by rw[Avu,CY p a m F0]
 have h3:(281474976710656:Nat)=2^48:=rfl;refine Bei _ (Li p a m) s F0 ?_;rw[hn];omega
def unS(p:LB)(N a:Nat):Int×Int×Int:=
 if Li p a (min 48 (N-a))<min 48 (N-a)then((Li p a (min 48 (N-a)):Nat),((a+Li p a (min 48 (N-a))+1:Nat):Int),0)else
 if Li p a (min 48 (N-a))=48 then(48,((a+48:Nat):Int),0)else(0,0,24)
theorem Avh{p:LB}{N:Nat}(h:okB p N)(a:Nat)(ha:a<N):YK p (N:Int) (a:Int)=some (unS p N a):=by
 have hN:=h.1;have e1:Du (48:Int) (Ap (N:Int) (a:Int))=((min 48 (N-a):Nat):Int):=by rw[Zp,Ca];omega
 have hle:=kQ p (min 48 (N-a)) a;rw[YK,OI,LR h,Aa,B! D7,B! I!,B! K3,e1,ni h a _ F0,B! F0,Aa];simp only;rw[mO,Aax,B! D7,Azy p a _ F0,Aa,Aay,Aaj,e1,unS];by_cases h1:Li p a (min 48 (N-a))<min 48 (N-a)
 ·rw[B6 F9,B6 h1,Ag (a:=(a:Int)) F0 F0,show Af (0:Int) 1=1 by decide,Ag];congr 3;omega
 ·rw[B! F9,B! h1,Aat,Aac];by_cases h2:Li p a (min 48 (N-a))=48
  ·rw[B6 (by rw[Ax,h2];rfl),B6 h2,h2,Ag (a:=(a:Int)) F0 F0,Ag];congr 3;omega
  ·rw[B! G2,B! h2];rfl
theorem yu(p:LB):∀(m a:Nat),Li p a m<m->Ge p (a+Li p a m)≠1
 |0,_,h=>by simp[Li]at h
 |m+1,a,h=>by
  by_cases hb:Ge p a=1
  ·rw[Li,B6 hb]at h⊢;have:=yu p m (a+1) F0;rwa [show a+(1+Li p (a+1) m)=a+1+Li p (a+1) m by omega]
  ·rw[Li,B! hb];exact hb
theorem wE(p:LB):∀(m a k:Nat),k<Li p a m->Ge p (a+k)=1
 |0,a,k,h=>by simp[Li]at h
 |m+1,a,k,h=>by
  by_cases hb:Ge p a=1
  ·rw[Li,B6 hb]at h;cases k with
   |zero=>exact hb
   |succ k=>
    have:=wE p m (a+1) k F0;rwa [show a+(k+1)=a+1+k by omega]
  ·rw[Li,B! hb]at h;omega
def unR(p:LB)(N a:Nat):Int×Int:=if(unS p N a).2.2=0 then((unS p N a).1,(unS p N a).2.1)else(-1,0)
theorem Alp {p:LB}{N:Nat}(h:okB p N)(a:Nat)(ha:a<N):∀(j k q:Nat),k+j=Li p a (min 48 (N-a))->j<q->Ph (a:Int) p (N:Int) q (k:Int)=some (unR p N a)
 |0,k,q+1,hk,_=>by
  obtain⟨hN,hl,hz⟩:=h;have hle:=kQ p (min 48 (N-a)) a;have hk':k=Li p a (min 48 (N-a)):=F0
  have e1:Af (a:Int) (k:Int)=((a+k:Nat):Int):=by rw[Ag];omega
  have hend:AZ (a:Int) (k:Int) p (N:Int)=some (unR p N a):=by
   rw[AZ,Amv,e1];by_cases h48:k=48
   ·have hu:unS p N a=(48,((a+48:Nat):Int),0):=by rw[unS,<-hk',B! F0,B6 h48]
    rw[B6 (by rw[Ax,h48];rfl),unR,hu,h48];rfl
   ·rw[B! G2];by_cases hN2:N<=a+k
    ·have hu:unS p N a=(0,0,24):=by rw[unS,<-hk',B! F0,B! h48]
     rw[B6 K3,unR,hu];rfl
    ·have hu:unS p N a=(((k:Nat):Int),((a+k+1:Nat):Int),0):=by rw[unS,<-hk',B6 F0]
     rw[B! K3,unR,hu,Ag];rfl
  rw[Ph,AV,e1];by_cases hc:a+k<N/\k<48
  ·have hb:=FN p (a+k);have hs:=yu p (min 48 (N-a)) a F0;rw[<-hk']at hs;rw[B6 WC,Y0 p _ (a+k) F0 F0,Aa,B! G2,hend]
  ·rw[B! WC,hend]
 |j+1,k,q+1,hk,hq=>by
  obtain⟨hN,hl,hz⟩:=h;have hle:=kQ p (min 48 (N-a)) a;have hb:=wE p (min 48 (N-a)) a k F0;have e1:Af (a:Int) (k:Int)=((a+k:Nat):Int):=by rw[Ag];omega
  rw[Ph,AV,e1,B6 WC,Y0 p _ (a+k) F0 F0,Aa,hb,B6 F5,Ag];exact Alp ⟨hN,hl,hz⟩ a ha j (k+1) q F0 F0
theorem Ato{p:LB}{N:Nat}(h:okB p N)(a:Nat)(ha:a<N):XX p (N:Int) (a:Int)=some (unR p N a):=by
 have hle:=kQ p (min 48 (N-a)) a;have:=Alp h a ha (Li p a (min 48 (N-a))) 0 As F0 F7;exact this
theorem At4{p:LB}{N a:Nat}(h:Li p a (min 48 (N-a))<min 48 (N-a)):unS p N a=(((Li p a (min 48 (N-a)):Nat):Int),((a+Li p a (min 48 (N-a))+1:Nat):Int),0):=by rw[unS,B6 h]
theorem Avi{p:LB}{N a:Nat}(h:¬Li p a (min 48 (N-a))<min 48 (N-a))(h2:Li p a (min 48 (N-a))=48):unS p N a=(48,((a+48:Nat):Int),0):=by rw[unS,B! h,B6 h2]
theorem As8{p:LB}{N a:Nat}(h:¬Li p a (min 48 (N-a))<min 48 (N-a))(h2:¬Li p a (min 48 (N-a))=48):unS p N a=(0,0,24):=by rw[unS,B! h,B! h2]
theorem Aqb{p:LB}{N:Nat}(h:okB p N)(a:Nat)(ha:N<=a):YK p (N:Int) (a:Int)=some (0,0,24):=by
 rw[YK,OI,LR h,Aa,B! D7,B! I!,B6 K3]
def kA(p:LB)(N a k:Nat):UInt32×Int×Int:=
 if N<=a then(0,0,24)else
 if Li p a (min 48 (N-a))<min 48 (N-a)then
  (if N<a+Li p a (min 48 (N-a))+1+k then(0,0,24)else(UInt32.ofNat (Li p a (min 48 (N-a))*2^k+Ck p (a+Li p a (min 48 (N-a))+1) k),((a+Li p a (min 48 (N-a))+1+k:Nat):Int),0))
 else if Li p a (min 48 (N-a))=48 then
  (if N<a+48+32 then(0,0,24)else if Ck p (a+48) 32/2^k<48 then(0,0,12)else(UInt32.ofNat (Ck p (a+48) 32),((a+48+32:Nat):Int),0))
 else(0,0,24)
theorem Q3{p:LB}{a n:Nat}(h:n<=32):(Ae (Re p a n):UInt32)=UInt32.ofNat (Ck p a n):=by
 have e:(Ae (Re p a n):UInt32)=UInt32.ofNat (Re p a n).toNat:=by simp only[Ae,Oy,Hs]
 rw[e,CY p a n F0]
theorem kR{n:Nat}(h:n<4294967296):(UInt32.ofNat n).toNat=n:=by rw[G3];exact C3 h
theorem Ah3(p:LB)(a:Nat){n:Nat}(h:n<=32):Ck p a n<4294967296:=by
 have h1:=Wo p n a;have h2:2^n<=2^32:=E4 F0 h;omega
theorem Bcu{q v k:Nat}(hq:q<48)(hv:v<2^k)(hk:k<=24):K4 (Ed (Ae (q:Int):UInt32) k) (UInt32.ofNat v)=UInt32.ofNat (q*2^k+v):=by
 have hp:2^k<=2^24:=E4 F0 hk;have h1:q*2^k<=47*2^24:=G0 F0 hp;rw[Ayg];apply UInt32.toNat_inj.1;rw[UInt32.toNat_or,vR,ko,kR F0,kR (n:=v) F0,C3 F0,E! q,<-SW hv,kR dK]
theorem Ayc{p:LB}{N:Nat}(h:okB p N)(a k:Nat)(hk:k<=24):zY p (N:Int) (a:Int) (k:Int)=some (kA p N a k):=by
 have hN:=h.1;rw[zY,Ade,LR h,Aa,B! D7,B! H7];by_cases ha:N<=a
 ·rw[Aqb h a ha,Aa,kA,B6 ha];rfl
 have hle:=kQ p (min 48 (N-a)) a;rw[Avh h a F0,Aa];by_cases h1:Li p a (min 48 (N-a))<min 48 (N-a)
 ·have hS:kA p N a k=if N<a+Li p a (min 48 (N-a))+1+k then(0,0,24)else(UInt32.ofNat (Li p a (min 48 (N-a))*2^k+Ck p (a+Li p a (min 48 (N-a))+1) k),((a+Li p a (min 48 (N-a))+1+k:Nat):Int),0):=by rw[kA,B! ha,B6 h1]
  rw[At4 h1,hS];generalize Li p a (min 48 (N-a))=q at*
  simp only;rw[B! D7,B! G2,sX,rZ,ni h _ k F0,Aa];by_cases h2:N<a+q+1+k
  ·rw[B6 h2,B6 h2];rfl
  ·rw[B! h2,B! h2];simp only;have z:(GI.toZ (k:Int)).toNat=k:=rfl;rw[B! D7,B6 F9,Bz IZ,Aa,z,Q3 F0,Bcu F0 (Wo _ _ _) hk,Ag];rfl
 ·by_cases h2:Li p a (min 48 (N-a))=48
  ·have hS:kA p N a k=if N<a+48+32 then(0,0,24)else if Ck p (a+48) 32/2^k<48 then(0,0,12)else(UInt32.ofNat (Ck p (a+48) 32),((a+48+32:Nat):Int),0):=by rw[kA,B! ha,B! h1,B6 h2]
   have hg:=ni h (a+48) 32 F0;rw[Avi h1 h2,hS];simp only;rw[B! D7,B6 Q0,sX,rZ];refine D9 (congrArg (λo=>Option.bind o _) hg) ?_;rw[Aa];by_cases h3:N<a+48+32
   ·rw[B6 h3,B6 h3];rfl
   ·rw[B! h3,B! h3];simp only;have z:(GI.toZ (k:Int)).toNat=k:=rfl;have hv:=Ah3 p (a+48) (n:=32) F0;rw[B! D7,B! I!,MF,Bz IZ,Aa,Aa,z,Q3 F0,Anm];have e:(decide ((48:UInt32).toNat<= (Cx (UInt32.ofNat (Ck p (a+48) 32)) k).toNat))=decide (¬Ck p (a+48) 32/2^k<48):=by
     rw[ZO,kR hv];simp
    rw[e];by_cases h4:Ck p (a+48) 32/2^k<48
    ·rw[B6 (by simp[h4]),B6 h4]
    ·rw[B! F6,B! h4,Ag];rfl
  ·rw[As8 h1 h2,kA,B! ha,B! h1,B! h2];rfl
theorem Bbc(k:Nat)(hk:k<=63):∀(j i q:Nat),i+j=k->j<q->Lj (k:Int) q (UInt64.ofNat (2^i)) (i:Int)=some (UInt64.ofNat (2^k))
 |0,i,q+1,hi,_=>by
  rw[Lj,Ww,B! F9,show i=k by omega];rfl
 |j+1,i,q+1,hi,hq=>by
  have e:Bn (UInt64.ofNat (2^i)) (2:UInt64)=UInt64.ofNat (2^(i+1)):=by
   rw[aH,G1,kP];rfl
  rw[Lj,Ww,B6 F9,Ag,e];exact Bbc k hk j (i+1) q F0 F0
theorem UK(k:Nat)(hk:k<=63):Fm (k:Int)=some (UInt64.ofNat (2^k)):=
 Bbc k hk k 0 As F0 F7
theorem dV{k:Nat}(hk:k<=63):(UInt64.ofNat (2^k)).toNat=2^k:=by
 have hp:2^k<=2^63:=E4 F0 hk;rw[E6,C3 F0]
theorem Anl(v:UInt32)(k:Nat)(hk:k<=24):Yb v (k:Int)=some ((min 48 (v.toNat/2^k):Nat):Int):=by
 have hpos:0<2^k:=MP F0;have hv:=v.toNat_lt;rw[Yb,UK k F0,Aa,Bz (by rw[YZ];simp only[N9,ne_eq,<-T3,dV (show k<=63 by omega)];simp),Aa];have e:(Bs (Ae v:UInt64) (UInt64.ofNat (2^k))).toNat=v.toNat/2^k:=by
  rw[yE,W7,Dn,dV F0,E6,C3 F0]
 have hle:v.toNat/2^k<=v.toNat:=G9 _ _;have e2:Du (48:UInt64) (Bs (Ae v:UInt64) (UInt64.ofNat (2^k)))=UInt64.ofNat (min 48 (v.toNat/2^k)):=by
  apply UInt64.toNat_inj.1;rw[E6,C3 F0];show(if _ then _ else _:UInt64).toNat=_;rw[show(GI.toZ (Bs (Ae v:UInt64) (UInt64.ofNat (2^k))))=((v.toNat/2^k:Nat):Int) by rw[Oy,e],show GI.toZ (48:UInt64)=48 from rfl];split
  ·rw[e];omega
  ·show 48=_;omega
 rw[e2,B4 (by rw[E6,C3]<;>omega),E6,C3 F0]
theorem Atk{p:LB}{N:Nat}(h:okB p N)(a k:Nat)(hk:k<=24):LY p (N:Int) (a:Int) (k:Int)=some (kA p N a k):=by
 obtain⟨hN,hl,hz⟩:=h;have h:okB p N:=⟨hN,hl,hz⟩;rw[LY,Aly];by_cases ha:N<=a
 ·rw[B6 K3,kA,B6 ha]
 have hle:=kQ p (min 48 (N-a)) a;rw[B! K3,Ato h a F0,Aa,unR];by_cases h1:Li p a (min 48 (N-a))<min 48 (N-a)
 ·have hS:kA p N a k=if N<a+Li p a (min 48 (N-a))+1+k then(0,0,24)else(UInt32.ofNat (Li p a (min 48 (N-a))*2^k+Ck p (a+Li p a (min 48 (N-a))+1) k),((a+Li p a (min 48 (N-a))+1+k:Nat):Int),0):=by rw[kA,B! ha,B6 h1]
  rw[At4 h1,hS];generalize Li p a (min 48 (N-a))=q at*
  rw[B6 rfl];simp only;rw[B! G2,NI,MZ,Ca];by_cases h2:N<a+q+1+k
  ·rw[B6 WC,B6 h2]
  ·have hp:2^k<=2^24:=E4 F0 hk;have hm:q*2^k<=47*2^24:=G0 F0 hp;have hv:=Wo p k (a+q+1);have e:(Ae (Af (Bn (Ae (q:Int):UInt64) (UInt64.ofNat (2^k))) (Re p (a+q+1) k)):UInt32)=UInt32.ofNat (q*2^k+Ck p (a+q+1) k):=by
    have e1:Af (Bn (Ae (q:Int):UInt64) (UInt64.ofNat (2^k))) (Re p (a+q+1) k)=UInt64.ofNat (q*2^k+Ck p (a+q+1) k):=by
     rw[aM,aH,Xv,Re,vC,kP]
    rw[e1];have e2:∀x:UInt64,(Ae x:UInt32)=UInt32.ofNat x.toNat:=λx=>by simp only[Ae,Oy,Hs]
    rw[e2,E6,C3 F0]
   rw[B! WC,B! h2,H9 p _ _ k F0 F0,Aa,B6 F9,UK k F0,Aa,e,Ag];rfl
 ·by_cases h2:Li p a (min 48 (N-a))=48
  ·have hS:kA p N a k=if N<a+48+32 then(0,0,24)else if Ck p (a+48) 32/2^k<48 then(0,0,12)else(UInt32.ofNat (Ck p (a+48) 32),((a+48+32:Nat):Int),0):=by rw[kA,B! ha,B! h1,B6 h2]
   rw[Avi h1 h2,hS,B6 rfl];simp only;rw[B6 Q0,NI,MZ,Ca];by_cases h3:N<a+48+32
   ·rw[B6 WC,B6 h3]
   ·have hg:=H9 p (N:Int) (a+48) 32 F0 F0;have hv:=Ah3 p (a+48) (n:=32) F0;rw[B! WC,B! h3];refine D9 (congrArg (λo=>Option.bind o _) hg) ?_;rw[Aa,B! I!,Q3 F0,Anl _ k hk,Aa,kR hv];by_cases h4:Ck p (a+48) 32/2^k<48
    ·rw[B6 F9,B6 h4]
    ·rw[B! F9,B! h4,Ag];rfl
  ·rw[As8 h1 h2,kA,B! ha,B! h1,B! h2];have e:(if((0:Int),(0:Int),(24:Int)).2.2=0 then(((0:Int),(0:Int),(24:Int)).1,((0:Int),(0:Int),(24:Int)).2.1)else((-1:Int),(0:Int)))=(-1,0):=F5
   rw[e];rfl
theorem Bbm{p:LB}{N a k:Nat}{v:UInt32}{n:Int}(h:kA p N a k=(v,n,0)):(a:Int)<n/\n<=N:=by
 unfold kA at h;split at h
 ·simp at h
 split at h
 ·split at h
  ·simp at h
  ·simp only[C7]at h;omega
 ·split at h
  ·split at h
   ·simp at h
   ·split at h
    ·simp at h
    ·simp only[C7]at h;omega
  ·simp at h
def okD(k l:Nat)(s t:UInt64):Prop:=k<=24/\l<=24/\s.toNat<=68719476735/\t.toNat<=68719476735
theorem Ah5(a b:UInt64)(h:a.toNat<=b.toNat):Du a b=a:=by
 show(if _ then _ else _)=_;rw[Oy,Oy,B! F0]
theorem Abw(a:UInt64):geq a a=true:=by rw[H'];simp
theorem Aso{k l:Nat}{t:UInt64}(h:okD k l s t):iN (k:Int) (l:Int) s t=some 0:=by
 obtain⟨h1,h2,h3,h4⟩:=h;have e1:Du (jQ (k:Int) 0) 24=(k:Int):=by rw[Zp,jw];omega
 have e2:Du (jQ (l:Int) 0) 24=(l:Int):=by rw[Zp,jw];omega
 have e3:Du s (68719476735:UInt64)=s:=Ah5 _ _ (by simpa using h3);have e4:Du t (68719476735:UInt64)=t:=Ah5 _ _ (by simpa using h4);have e5:∀a:Int,geq a a=true:=λa=>by rw[Ax];simp
 rw[iN,ZF,nM,YX,mH,Aaa,e1,e2,e3,e4,e5,e5,Abw,Abw];rfl
def JA(s n:UInt64):UInt64:=s+n-s/16
def kS(k:Nat)(s:UInt64):Nat:=if 0<k/\s.toNat<2^(k+4)then k-1 else if k<24/\2^(k+5)<s.toNat then k+1 else k
theorem Bar{k:Nat}(h:k<=24)(s:UInt64):kS k s<=24:=by
 unfold kS;by_cases h1:0<k/\s.toNat<2^(k+4)
 ·rw[B6 h1];omega
 ·rw[B! h1];split<;>omega
theorem Anj{k:Nat}(h:¬(0<k/\s.toNat<2^(k+4))):(if k<24/\2^(k+5)<s.toNat then((k+1:Nat):Int)else(k:Int))=((kS k s:Nat):Int):=by
 rw[kS,B! h];split<;>rfl
theorem Ann{n:UInt64}(h:s.toNat<=68719476735)(hn:n.toNat<=4294967295):(JA s n).toNat<=68719476735:=by
 have h1:=s.toNat_lt;have e:(s+n).toNat=s.toNat+n.toNat:=by rw[UInt64.toNat_add];omega
 have e2:(s/16).toNat=s.toNat/16:=by rw[W7];rfl
 rw[JA,uF _ _ (by rw[uG,e,e2];omega),e,e2];omega
theorem nZ(s n:UInt64):Af s (Ap n (Cx s (GI.toZ (4:UInt64)).toNat))=JA s n:=by
 have e:Cx s (GI.toZ (4:UInt64)).toNat=s/16:=by
  apply UInt64.toNat_inj.1;rw[VP,W7];rfl
 rw[e,aM,V1,JA,UInt64.sub_eq_add_neg,UInt64.sub_eq_add_neg,UInt64.add_assoc]
theorem An0(s n:UInt64):Ap (Af s n) (Bs s (16:UInt64))=JA s n:=by rw[aM,V1,yE,JA]
theorem Bd4{k:Nat}(h:k<=24):(Ed (16:UInt64) k).toNat=2^(k+4):=by
 have hp:2^k<=2^24:=E4 F0 h;rw[jL,RX]
 show 16*2^k %_=2^k*16;rw[C3 F0,E!]
theorem Bc2{k:Nat}(h:k<=24):(Ed (32:UInt64) k).toNat=2^(k+5):=by
 have hp:2^k<=2^24:=E4 F0 h;rw[jL,RX]
 show 32*2^k %_=2^k*32;rw[C3 F0,E!]
theorem Bai{k:Nat}(h:0<k)(h2:s.toNat<2^(k+4)):kS k s=k-1:=by rw[kS,B6 ⟨h,h2⟩]
theorem Bax{k:Nat}(h:¬(0<k/\s.toNat<2^(k+4)))(h2:k<24)(h3:2^(k+5)<s.toNat):kS k s=k+1:=by rw[kS,B! h,B6 ⟨h2,h3⟩]
theorem iG{k:Nat}(h:¬(0<k/\s.toNat<2^(k+4)))(h2:¬(k<24/\2^(k+5)<s.toNat)):kS k s=k:=by rw[kS,B! h,B! h2]
theorem iZ(k:Nat)(hk:k<=24)(s:UInt64)(f:Int->Option α):
  (if(Ec (k:Int) (0:Int))=true then(
   Option.bind (Mt (Nw (k:Int) (0:Int))) λ_=>
   if(Cj s (Ed (16:UInt64) (GI.toZ (k:Int)).toNat))=true then f (Ap (k:Int) (1:Int))
   else(if(Cj (k:Int) (24:Int))=true then(
    Option.bind (Mt (Nw (k:Int) (0:Int))) λ_=>
    if(Ec s (Ed (32:UInt64) (GI.toZ (k:Int)).toNat))=true then f (Af (k:Int) (1:Int))else f (k:Int))
    else f (k:Int)))
  else(if(Cj (k:Int) (24:Int))=true then(
    Option.bind (Mt (Nw (k:Int) (0:Int))) λ_=>
    if(Ec s (Ed (32:UInt64) (GI.toZ (k:Int)).toNat))=true then f (Af (k:Int) (1:Int))else f (k:Int))
    else f (k:Int)))=f ((kS k s:Nat):Int):=by
 have z:(GI.toZ (k:Int)).toNat=k:=rfl;rw[z,Bz IZ];simp only[Aa];rw[P',kW,Bd4 hk,Bc2 hk];by_cases h0:0<k
 ·rw[B6 E5];by_cases h1:s.toNat<2^(k+4)
  ·rw[B6 (by simp[h1]),Bai h0 h1,Ca];congr 1;omega
  ·rw[B! F6];by_cases h2:k<24
   ·rw[B6 F9];by_cases h3:2^(k+5)<s.toNat
    ·rw[B6 (by simp[h3]),Bax (λh=>h1 h.2) h2 h3,Ag];rfl
    ·rw[B! F6,iG (λh=>h1 h.2) (λh=>h3 h.2)]
   ·rw[B! F9,iG (λh=>h1 h.2) (λh=>h2 h.1)]
 ·rw[B! E5];by_cases h2:k<24
  ·rw[B6 F9];by_cases h3:2^(k+5)<s.toNat
   ·rw[B6 (by simp[h3]),Bax (λh=>h0 h.1) h2 h3,Ag];rfl
   ·rw[B! F6,iG (λh=>h0 h.1) (λh=>h3 h.2)]
  ·rw[B! F9,iG (λh=>h0 h.1) (λh=>h2 h.1)]
theorem Ao2(k:Nat)(hk:k<=24)(s n:UInt64):Og (k:Int) s n=some (((kS k (JA s n):Nat):Int),JA s n):=by
 have g1:Af (k:Int) 4=((k+4:Nat):Int):=by rw[Ag];omega
 have g2:Af (k:Int) 5=((k+5:Nat):Int):=by rw[Ag];omega
 have hp:JJ (k:Int) s n=some (if k<24/\2^(k+5)<(JA s n).toNat then((k+1:Nat):Int)else(k:Int),JA s n):=by
  rw[JJ,Alo,g2,UK _ F0,Aa,An0,kW,dV F0];by_cases h2:k<24
  ·rw[B6 F9];by_cases h3:2^(k+5)<(JA s n).toNat
   ·rw[B6 (by simp[h3]),B6 ⟨h2,h3⟩,Ag];rfl
   ·rw[B! F6,B! (λh=>h3 h.2)]
  ·rw[B! F9,B! (λh=>h2 h.1)]
 rw[Og,Aks,g1,UK _ F0,Aa,An0,P',dV F0,hp];by_cases h0:0<k
 ·rw[B6 E5];by_cases h1:(JA s n).toNat<2^(k+4)
  ·rw[B6 (by simp[h1]),Bai h0 h1,Ca];congr 2;omega
  ·rw[B! F6,Anj (λh=>h1 h.2)]
 ·rw[B! E5,Anj (λh=>h0 h.1)]
def zw(v:UInt32):UInt64:=UInt64.ofNat v.toNat
theorem Atw(v:UInt32):(zw v).toNat<=4294967295:=by have:=v.toNat_lt;rw[zw,E6,C3 F0];omega
def gX(k:Nat)(v:UInt32):UInt32:=UInt32.ofNat (v.toNat-2^k)
def lK(l:Nat)(t:UInt64)(k:Nat)(v:UInt32):Nat:=if v.toNat<2^k then l else kS l (JA t (zw (gX k v)))
def lT(t:UInt64)(k:Nat)(v:UInt32):UInt64:=if v.toNat<2^k then t else JA t (zw (gX k v))
theorem Asx{k l:Nat}{t:UInt64}(h:okD k l s t)(v:UInt32):okD (kS k (JA s (zw v))) (lK l t k v) (JA s (zw v)) (lT t k v):=by
 obtain⟨h1,h2,h3,h4⟩:=h;refine⟨Bar h1 _,?_,Ann h3 (Atw v),?_⟩
 ·unfold lK;split; · exact h2
  exact Bar h2 _
 ·unfold lT;split; · exact h4
  exact Ann h4 (Atw _)
theorem At3(k l:Nat)(s t:UInt64)(hk:k<=24)(v:UInt32):Qs (k:Int) (l:Int) s t v=some (decide (v.toNat<2^k)):=by
 have:=v.toNat_lt;rw[Qs,UK k F0,Aa,P',dV F0,Dn,E6,C3 F0]
theorem left_eq(k l:Nat)(s t:UInt64)(hk:k<=24)(v:UInt32)(h:¬v.toNat<2^k):Gk (k:Int) (l:Int) s t v=some (gX k v):=by
 have:=v.toNat_lt;have e2:∀x:UInt64,(Ae x:UInt32)=UInt32.ofNat x.toNat:=λx=>by simp only[Ae,Oy,Hs]
 have e3:(UInt64.ofNat v.toNat).toNat=v.toNat:=by rw[E6,C3 F0]
 rw[Gk,UK k F0,Aa,e2,V1,Dn,uF _ _ (by rw[uG,dV F0,e3];omega),dV F0,e3,gX]
theorem Adg{k l:Nat}{t:UInt64}(h:okD k l s t)(v:UInt32):Tr (k:Int) (l:Int) s t v=some (((kS k (JA s (zw v)):Nat):Int),((lK l t k v:Nat):Int),JA s (zw v),lT t k v):=by
 obtain⟨h1,h2,h3,h4⟩:=h;have hp:∀(r1:Int) (r2:UInt64),Us v (k:Int) (l:Int) s t r1 r2=some (((kS k (JA s (zw v)):Nat):Int),r1,JA s (zw v),r2):=by
  intro r1 r2;rw[Us,Aeu,Dn,Ao2 k h1,Aa];rfl
 rw[Tr,Ur,At3 k l s t h1,Aa];by_cases hv:v.toNat<2^k
 ·rw[B! (by simp[hv]),hp,lK,B6 hv,lT,B6 hv]
 ·rw[B6 F6,left_eq k l s t h1 v hv,Aa,Dn,Ao2 l h2,Aa];simp only;rw[hp,lK,B! hv,lT,B! hv];rfl
theorem K!(k l:Nat)(s t:UInt64)(hk:k<=24)(v:UInt32):YN (k:Int) (l:Int) s t v=some (if v.toNat<2^k then(0,v)else(1,gX k v)):=by
 have hp:2^k<=2^24:=E4 F0 hk;have hpos:0<2^k:=MP F0;have hl:=v.toNat_lt;have z:(GI.toZ (k:Int)).toNat=k:=rfl;have e1:geq (Cx v k) (0:UInt32)=decide (v.toNat<2^k):=by
  rw[mV,C?];simp only[E3,<-kK,ZO,B?]
  show _/_=0↔_;rw[Nat.div_eq_zero_iff];omega
 have e2:¬v.toNat<2^k->Ap v (Ed (1:UInt32) k)=gX k v:=by
  intro h;have e3:(Ed (1:UInt32) k).toNat=2^k:=by rw[vR];show 1*2^k %_=_;rw[C3 F0,HV]
  apply UInt32.toNat_inj.1;rw[s_,uH _ _ (by rw[uI,e3];omega),e3,gX,kR F0]
 rw[YN,Bz IZ,Aa,Aa,z,e1];by_cases h:v.toNat<2^k
 ·rw[B6 (by simp[h]),B6 h]
 ·rw[B! F6,B! h,e2 h]
abbrev Rd:=UInt32×Int×Int×Int×UInt64×UInt64×Int
theorem Anv{k l:Nat}{t:UInt64}(h:okD k l s t)(v:UInt32)(r:Int):rG (k:Int) (l:Int) s t v r=some (v,r,((kS k (JA s (zw v)):Nat):Int),((lK l t k v:Nat):Int),JA s (zw v),lT t k v,0):=by
 obtain⟨h1,h2,h3,h4⟩:=h;have hp:∀(x:Int) (y:UInt64),VJ v r (k:Int) s x y=some (v,r,((kS k (JA s (zw v)):Nat):Int),x,JA s (zw v),y,0):=by
  intro x y;rw[VJ,Aez,Dn,nZ,iZ k h1];rw[Abn,Ae4,Aai,Aa9,Dn,nZ];rfl
 rw[rG,rC,K! k l s t h1,Aa];by_cases hv:v.toNat<2^k
 ·rw[B6 hv];simp only;rw[B! T8,hp,lK,B6 hv,lT,B6 hv]
 ·rw[B! hv];simp only;rw[B6 Q0,Dn,nZ,iZ l h2 _ (λx=>VJ v r (k:Int) s x (JA t (UInt64.ofNat (gX k v).toNat))),hp,lK,B! hv,lT,B! hv];rfl
def rE(p:LB)(N a k l:Nat):UInt32×Int×Int:=
 if N<=a then(0,0,24)else
 if Ge p a=0 then(if N<a+1+k then(0,0,24)else(UInt32.ofNat (Ck p (a+1) k),((a+1+k:Nat):Int),0))else
 if(kA p N (a+1) l).2.2≠0 then(0,0,(kA p N (a+1) l).2.2)else
 if 4294967295<(kA p N (a+1) l).1.toNat+2^k then(0,0,12)else(UInt32.ofNat ((kA p N (a+1) l).1.toNat+2^k),(kA p N (a+1) l).2.1,0)
theorem Bch{p:LB}{N a k l:Nat}(h:(rE p N a k l).2.2=0):(a:Int)<(rE p N a k l).2.1/\ (rE p N a k l).2.1<=N:=by
 revert h
 unfold rE;split
 ·simp
 split
 ·split
  ·simp
  ·simp only;omega
 ·split
  ·intro h;contradiction
  ·rename_i h1;split
   ·simp
   ·intro _;have:=Bbm (p:=p) (N:=N) (a:=a+1) (k:=l) (v:=(kA p N (a+1) l).1) (n:=(kA p N (a+1) l).2.1) (by
     have e:(kA p N (a+1) l).2.2=0:=by simpa using h1
     rw[<-e])
    simp only;omega
theorem Aya{p:LB}{N:Nat}(h:okB p N)(a:Nat){k l:Nat}{t:UInt64}(hd:okD k l s t):YF p (N:Int) (a:Int) (k:Int) (l:Int) s t=
  some (if(rE p N a k l).2.2≠0 then(0,0,0,0,0,0,(rE p N a k l).2.2)else((rE p N a k l).1,(rE p N a k l).2.1,((kS k (JA s (zw (rE p N a k l).1)):Nat):Int),((lK l t k (rE p N a k l).1:Nat):Int),JA s (zw (rE p N a k l).1),lT t k (rE p N a k l).1,0)):=by
 obtain⟨h1,h2,h3,h4⟩:=hd;have hd:okD k l s t:=⟨h1,h2,h3,h4⟩;have hN:=h.1;have hg:=ni h a 1 F0;have hb:=FN p a;rw[YF,tJ,LR h,Aa,B! D7,Aso hd,Aa,B! D7,Af1,rL];refine D9 (congrArg (λo=>Option.bind o _) hg) ?_;rw[Aa];by_cases ha:N<=a
 ·have hS:rE p N a k l=(0,0,24):=by rw[rE,B6 ha]
  rw[B6 F0,hS];rfl
 rw[B! F0];simp only;have e0:geq (Re p a 1) (0:UInt64)=decide (Ge p a=0):=by
  rw[H',C?];simp only[E3,<-T3,B?,CY p a 1 F0,R3];rfl
 have e1:Af (a:Int) 1=((a+1:Nat):Int):=by rw[Ag];omega
 rw[B! D7,e0,e1];by_cases hz:Ge p a=0
 ·rw[B6 (by simp[hz]),ni h (a+1) k F0,Aa];by_cases h5:N<a+1+k
  ·have hS:rE p N a k l=(0,0,24):=by rw[rE,B! ha,B6 hz,B6 h5]
   rw[B6 h5,hS];rfl
  ·have hS:rE p N a k l=(UInt32.ofNat (Ck p (a+1) k),((a+1+k:Nat):Int),0):=by rw[rE,B! ha,B6 hz,B! h5]
   rw[B! h5,hS];simp only;rw[B! D7,Anv hd,Q3 F0,Ag];rfl
 ·rw[B! (by simp[hz]),Ayc h (a+1) l h2,Aa];have hp:2^k<=2^24:=E4 F0 h1;by_cases h5:(kA p N (a+1) l).2.2≠0
  ·have hS:rE p N a k l=(0,0,(kA p N (a+1) l).2.2):=by rw[rE,B! ha,B! hz,B6 h5]
   rw[hS];generalize kA p N (a+1) l=R at*
   obtain⟨v,n,e⟩:=R;simp only at*
   rw[B6 (by rw[Am];simpa using h5),B6 h5]
  ·have hv:=(kA p N (a+1) l).1.toNat_lt;have z:(GI.toZ (k:Int)).toNat=k:=rfl;have e3:(Ed (1:UInt32) k).toNat=2^k:=by rw[vR];show 1*2^k %_=_;rw[C3 F0,HV]
   by_cases h6:4294967295<(kA p N (a+1) l).1.toNat+2^k
   ·have hS:rE p N a k l=(0,0,12):=by rw[rE,B! ha,B! hz,B! h5,B6 h6]
    rw[hS];generalize kA p N (a+1) l=R at*
    obtain⟨v,n,e⟩:=R;simp only at*
    rw[B! (by rw[Am];simpa using h5),Bz IZ,Aa,z,B6 (by rw[Ano,I_,vD,e3];simp;omega),B6 F5]
   ·have hS:rE p N a k l=(UInt32.ofNat ((kA p N (a+1) l).1.toNat+2^k),(kA p N (a+1) l).2.1,0):=by rw[rE,B! ha,B! hz,B! h5,B! h6]
    rw[hS];generalize kA p N (a+1) l=R at*
    obtain⟨v,n,e⟩:=R;simp only at*
    have e4:Af v (Ed (1:UInt32) k)=UInt32.ofNat (v.toNat+2^k):=by
     apply UInt32.toNat_inj.1;rw[I_,vD,e3,kR F0,C3 F0]
    rw[B! (by rw[Am];simpa using h5),Bz IZ,Aa,z,B! (by rw[Ano,I_,vD,e3];simp;omega),e4,Anv hd];rfl
theorem Avx{p:LB}{N:Nat}(h:okB p N)(a:Nat)(k l:Nat)(s t:UInt64)(h1:k<=24)(h2:l<=24):LV p (N:Int) (a:Int) (k:Int) (l:Int) s t=some (rE p N a k l):=by
 have hN:=h.1;have hl:=h.2.1;have hb:=FN p a;rw[LV];by_cases ha:N<=a
 ·rw[B6 K3,rE,B6 ha]
 rw[B! K3,Y0 p _ a F0 F0,Aa,Ca (a:=(N:Int)) (b:=(a:Int)) F0 F0,Ca];have e1:Af (a:Int) 1=((a+1:Nat):Int):=by rw[Ag];omega
 rw[e1];by_cases hz:Ge p a=0
 ·rw[B6 (by rw[Ax];simp[hz])];by_cases h5:N<a+1+k
  ·rw[B6 F9,rE,B! ha,B6 hz,B6 h5]
  ·rw[B! F9,H9 p _ (a+1) k F0 F0,Aa,rE,B! ha,B6 hz,B! h5,Q3 F0,Ag];rfl
 ·rw[B! G2,Atk h (a+1) l h2,Aa];have hp:2^k<=2^24:=E4 F0 h1;have hv:=(kA p N (a+1) l).1.toNat_lt;have e2:∀x:UInt64,(Ae x:UInt32)=UInt32.ofNat x.toNat:=λx=>by simp only[Ae,Oy,Hs]
  by_cases h5:(kA p N (a+1) l).2.2≠0
  ·have hS:rE p N a k l=(0,0,(kA p N (a+1) l).2.2):=by rw[rE,B! ha,B! hz,B6 h5]
   rw[hS];generalize kA p N (a+1) l=R at*
   obtain⟨v,n,e⟩:=R;simp only at*
   rw[B6 (by rw[Am];simpa using h5)]
  ·have hsum:∀v:UInt32,(Af (Ae v:UInt64) (UInt64.ofNat (2^k))).toNat=v.toNat+2^k:=by
    intro v;have:=v.toNat_lt;have:=MP (n:=k) (show 0<2 by omega);rw[aM,UInt64.toNat_add,Dn,dV F0,E6];omega
   by_cases h6:4294967295<(kA p N (a+1) l).1.toNat+2^k
   ·have hS:rE p N a k l=(0,0,12):=by rw[rE,B! ha,B! hz,B! h5,B6 h6]
    rw[hS];generalize kA p N (a+1) l=R at*
    obtain⟨v,n,e⟩:=R;simp only at*
    rw[B! (by rw[Am];simpa using h5),UK k F0,Aa,B6 (by rw[kW,hsum];simpa using h6)]
   ·have hS:rE p N a k l=(UInt32.ofNat ((kA p N (a+1) l).1.toNat+2^k),(kA p N (a+1) l).2.1,0):=by rw[rE,B! ha,B! hz,B! h5,B! h6]
    rw[hS];generalize kA p N (a+1) l=R at*
    obtain⟨v,n,e⟩:=R;simp only at*
    rw[B! (by rw[Am];simpa using h5),UK k F0,Aa,B! (by rw[kW,hsum];simpa using h6),e2,hsum]
theorem E?{p:Prop}(h:p:=by rw[Am];simp;omega):p:=h
theorem K?{p:Prop}(h:p:=by rw[<-M!];omega):p:=h
abbrev DuN:=Nat×Nat×UInt64×UInt64
def okN(d:DuN):Prop:=okD d.1 d.2.1 d.2.2.1 d.2.2.2
def nxt(d:DuN)(v:UInt32):DuN:=(kS d.1 (JA d.2.2.1 (zw v)),lK d.2.1 d.2.2.2 d.1 v,JA d.2.2.1 (zw v),lT d.2.2.2 d.1 v)
def r? :DuN:=(10,10,16384,16384)
theorem At6:okN r? :=⟨F5,F5,F5,F5⟩
theorem Bcl{d:DuN}(h:okN d)(v:UInt32):okN (nxt d v):=Asx h v
abbrev DuL:=Int×Int×UInt64×UInt64×Unit
def toI(d:DuN):DuL:=((d.1:Int),(d.2.1:Int),d.2.2.1,d.2.2.2,())
def sA(ch:Nat)(v:LU)(c:Nat):Nat->DuN
 |0=>r?
 |m+1=>if m %ch=c then nxt (sA ch v c m) (v.getD m 0)else sA ch v c m
theorem rS(ch:Nat)(v:LU)(c:Nat):∀m,okN (sA ch v c m)
 |0=>At6
 |m+1=>by rw[sA];split;exact Bcl (rS ch v c m) _;exact rS ch v c m
theorem oH(ch:Nat)(v w:LU)(c:Nat):∀m,m<=v.length->sA ch (v++w) c m=sA ch v c m
 |0,_=>rfl
 |m+1,h=>by
  have e:(v++w).getD m 0=v.getD m 0:=by simp[List.getD_eq_getElem?_getD,List.getElem?_append_left (show m<v.length by omega)]
  rw[sA,sA,oH ch v w c m F0,e]
theorem zy(ch:Nat)(v:LU)(c:Nat):∀m,m<=c->c<ch->sA ch v c m=r?
 |0,_,_=>rfl
 |m+1,h,h2=>by rw[sA,B! (by rw[C3 F0];omega),zy ch v c m F0 h2]
theorem Aiz(ch:Nat)(v:LU)(c i:Nat)(hi:i %ch=c)(hc:c<ch):∀j,j<ch->sA ch v c (i+1+j)=sA ch v c (i+1)
 |0,_=>rfl
 |j+1,h=>by
  have hne:(i+1+j) %ch≠c:=by
   intro e;have h1:(i+(1+j)) %ch=i %ch:=by rw[hi,<-e];congr 1;omega
   have h2:(1+j) %ch=0:=by
    have h3:=jd h1;rwa [VH]at h3
   rw[C3 F0]at h2;omega
  rw[show i+1+(j+1)=(i+1+j)+1 by omega,sA,B! hne,Aiz ch v c i hi hc j F0]
theorem Ahz(ch:Nat)(v:LU)(c i:Nat)(hi:i %ch=c)(hc:c<ch):sA ch v c (i+ch)=nxt (sA ch v c i) (v.getD i 0):=by
 have h:=Aiz ch v c i hi hc (ch-1) F0;rw[show i+1+(ch-1)=i+ch by omega]at h;rw[h,sA,B6 hi]
theorem jA{l:LU}{k:Nat}(h:k<l.length):Aj l (k:Int)=some (l.getD k 0):=by
 rw[Bl h];simp[List.getD_eq_getElem?_getD,h]
theorem GF(a b:Nat):Gx (a:Int) (b:Int)=((a %b:Nat):Int):=by rw[Gx,bB F0];omega
theorem Bgd(ch:Nat)(v:LU)(hch:1<=ch)(u!:ch<=6)(hv:v.length<=4000):∀(j i q:Nat),i %ch=v.length %ch->i<=v.length->v.length-i<=j->j<q->
  Oo (ch:Int) v q (i:Int) ((sA ch v (v.length %ch) i).1:Int) ((sA ch v (v.length %ch) i).2.1:Int) (sA ch v (v.length %ch) i).2.2.1 (sA ch v (v.length %ch) i).2.2.2=
   some (((sA ch v (v.length %ch) v.length).1:Int),((sA ch v (v.length %ch) v.length).2.1:Int),(sA ch v (v.length %ch) v.length).2.2.1,(sA ch v (v.length %ch) v.length).2.2.2)
 |j,i,q+1,hi,hl,hj,hq=>by
  have hc:v.length %ch<ch:=IV _ F0;rw[Oo,EN];by_cases h:i<v.length
  ·have h1:=Adg (rS ch v (v.length %ch) i) (v.getD i 0);rw[B6 F2,jA h,Aa,h1,Aa];have hle:i+ch<=v.length:=by
    have h2:=RQ i ch;have h3:=RQ v.length ch;rw[hi]at h2;have h4:ch*(i/ch)<ch*(v.length/ch):=F0
    have h5:=Nat.lt_of_mul_lt_mul_left h4;have h6:ch*(i/ch+1)<=ch*(v.length/ch):=OL _ h5;rw[XJ]at h6;omega
   have ih:=Bgd ch v hch u! hv (j-ch) (i+ch) q (by rw[U6];exact hi) hle F0 F0;rw[Ahz ch v _ i hi hc]at ih;simp only;rw[Ag];exact ih
  ·rw[B! F2,show i=v.length by omega];rfl
theorem Aqr(ch:Nat)(v:LU)(hch:1<=ch)(u!:ch<=6)(hv:v.length<=4000):Ua (ch:Int) v=some (((sA ch v (v.length %ch) v.length).1:Int),((sA ch v (v.length %ch) v.length).2.1:Int),(sA ch v (v.length %ch) v.length).2.2.1,(sA ch v (v.length %ch) v.length).2.2.2):=by
 have hc:v.length %ch<ch:=IV _ F0;have hle:v.length %ch<=v.length:=O1 _ _;have h:=Bgd ch v hch u! hv v.length (v.length %ch) As (by rw[dD]) hle F0 F7;rw[zy ch v _ _ (D3 _) hc]at h;rw[Ua,DV,Jf,Aa];simp only;rw[Bz E?,Aa,Ac,GF];exact h
def now(ch:Nat)(v:LU):DuN:=sA ch v (v.length %ch) v.length
def win(N a:Nat):Nat:=min 81 (N-a)
def Uq(ch:Nat)(p:LB)(N a:Nat)(out:LU):UInt32×Int×Int:=rE (Mx p a (win N a)) (win N a) 0 (now ch out).1 (now ch out).2.1
def MG(ch:Nat)(p:LB)(N:Nat):Nat->Nat->LU->LU×Nat×Int
 |0,a,out=>(out,a,0)
 |j+1,a,out=>if(Uq ch p N a out).2.2≠0 then(out,a,(Uq ch p N a out).2.2)else MG ch p N j (a+(Uq ch p N a out).2.1.toNat) (out++[(Uq ch p N a out).1])
theorem zR{ch:Nat}{p:LB}{N a:Nat}{out:LU}(h:(Uq ch p N a out).2.2=0):0<(Uq ch p N a out).2.1/\ (Uq ch p N a out).2.1<=win N a:=by
 have:=Bch h;exact⟨this.1,this.2⟩
theorem z!{ch:Nat}{p:LB}{N a:Nat}{out:LU}(h:(Uq ch p N a out).2.2=0):((a:Int)+(Uq ch p N a out).2.1)=((a+(Uq ch p N a out).2.1.toNat:Nat):Int):=by
 have:=zR h;omega
def sts(ch:Nat)(v:LU):List DuL:=(List.range 6).map λc=>toI (sA ch v c v.length)
theorem nY{ch:Nat}{v:LU}{c:Nat}(h:c<6):Aj (sts ch v) (c:Int)=some (toI (sA ch v c v.length)):=by
 rw[Bl (by simp[sts];exact h)];simp[sts]
theorem Ao7{ch:Nat}{v:LU}{c:Nat}(x:UInt32)(h:c<6)(hc:c=v.length %ch):Rn (sts ch v) (c:Int) (toI (nxt (sA ch v c v.length) x))=some (sts ch (v++[x])):=by
 rw[Zv _ (by simp[sts];exact h)];congr 1;apply M? (by simp[sts]);intro i h1 h2;rw[W?];simp only[sts,RM,RI];have e:(v++[x]).getD v.length 0=x:=by simp
 rw[B9,RG,sA,e,oH ch v [x] i v.length (D3 _)];by_cases hi:c=i
 ·subst hi;rw[B6 rfl,B6 hc.symm]
 ·rw[B! hi,B! F0]
theorem Azx{ch:Nat}{v:LU}{c:Nat}(hc:c=v.length %ch):sA ch v c v.length=now ch v:=by rw[now,hc]
section
variable {p:LB} {N ch n:Nat}
theorem Af7(hp:okB p N)(h1:1<=ch)(h6:ch<=6)(hn:n*ch<=4000):∀(j a q:Nat) (out:LU),out.length+j=n*ch->j<q->a<=N->
  Vq (ch:Int) (n:Int) p (N:Int) q (a:Int) (out.length:Int) (sts ch out) out=
   some (if(MG ch p N j a out).2.2≠0 then([],0,(MG ch p N j a out).2.2)else((MG ch p N j a out).1,((MG ch p N j a out).2.1:Int),0))
 |j,a,q+1,out,hj,hq,ha=>by
  have hN:=hp.1;have hnn:n<=n*ch:=VO n F0;have em:Bn (n:Int) (ch:Int)=((n*ch:Nat):Int):=by rw[Ea K? K?,M!]
  rw[Vq,FC,em];cases j with
  |zero=>
   rw[B! F9];rfl
  |succ j=>
   have hc:out.length %ch<6:=I6 (IV _ F0) h6;have ew:Du (Af (a:Int) 81) (N:Int)=((a+win N a:Nat):Int):=by rw[Zp,Ag];unfold win;omega
   have hw:a+win N a<=N:=by unfold win;omega
   have hw2:win N a<=81:=by unfold win;omega
   have hd:=Aya (P3 p a (win N a) F0) 0 (rS ch out (out.length %ch) out.length);have r!:rE (Mx p a (win N a)) (win N a) 0 (sA ch out (out.length %ch) out.length).1 (sA ch out (out.length %ch) out.length).2.1=Uq ch p N a out:=rfl;rw[B6 F9,ew,Bbw hp a _ hw F0,Aa];simp only;rw[B! D7,Bz E?,Aa,GF,nY hc,Aa,Aa];refine D9 (congrArg (λo=>Option.bind o _) hd) ?_;rw[Aa,r!,MG];by_cases he:(Uq ch p N a out).2.2≠0
   ·rw[B6 he,B6 he];simp only;rw[DY,PQ,B6 (by rw[Am];simpa using he),B6 he]
   ·have he0:(Uq ch p N a out).2.2=0:=by simpa using he
    have hok:=zR he0;have hset:=Ao7 (ch:=ch) (v:=out) (Uq ch p N a out).1 hc rfl;rw[B! he,B! he];simp only;rw[DY,PQ,B! D7,Bz E?,Aa,GF,nY hc,Aa];refine D9 (congrArg (λo=>Option.bind o _) hset) ?_;rw[Aa,Ap9,Aqz,Ay F6,Aa,Ag,Ag,z! he0];have ih:=Af7 hp h1 h6 hn j (a+(Uq ch p N a out).2.1.toNat) q (out++[(Uq ch p N a out).1]) F6 F0 F0;rw[B9,RG]at ih;exact ih
theorem Apm{p:LB}(hN:N=8*p.length)(hN2:N<=330000)(h1:1<=ch)(h6:ch<=6)(hn:n*ch<=4000):∀(j a q:Nat) (out:LU),out.length+j=n*ch->j<q->a<=N->
  Fv (ch:Int) (n:Int) p q (a:Int) (out.length:Int) out=
   if(MG ch p N j a out).2.2≠0 then some ((MG ch p N j a out).1,(MG ch p N j a out).2.2)else HO ((MG ch p N j a out).2.1:Int) p (MG ch p N j a out).1
 |j,a,q+1,out,hj,hq,ha=>by
  have hnn:n<=n*ch:=VO n F0;have em:Bn (n:Int) (ch:Int)=((n*ch:Nat):Int):=by rw[Ea K? K?,M!]
  have e8:Bn (8:Int) (Ac p)=(N:Int):=by rw[Ac,Ea];omega
  rw[Fv,HK,em];cases j with
  |zero=>
   rw[B! F9];rfl
  |succ j=>
   have ew:Du (Af (a:Int) 81) (N:Int)=((a+win N a:Nat):Int):=by rw[Zp,Ag];unfold win;omega
   have hw:a+win N a<=N:=by unfold win;omega
   have hw2:win N a<=81:=by unfold win;omega
   have hpre:(Option.bind Jf λ(r_4,r_5,r_6,r_7)=>
     if(Nw (out.length:Int) (ch:Int))=true then(
     Option.bind (Ua (ch:Int) out) λ(r_8,r_9,r_10,r_11)=>
     Lm (Fv (ch:Int) (n:Int) p q) (ch:Int) (n:Int) p (a:Int) (out.length:Int) out r_8 r_9 r_10 r_11)
     else Lm (Fv (ch:Int) (n:Int) p q) (ch:Int) (n:Int) p (a:Int) (out.length:Int) out r_4 r_5 r_6 r_7)=
     Lm (Fv (ch:Int) (n:Int) p q) (ch:Int) (n:Int) p (a:Int) (out.length:Int) out ((now ch out).1:Int) ((now ch out).2.1:Int) (now ch out).2.2.1 (now ch out).2.2.2:=by
    rw[Jf,Aa];by_cases hc:ch<=out.length
    ·simp only;rw[B6 K3,Aqr ch out h1 h6 F0,Aa];rfl
    ·have e:now ch out=r? :=by rw[now,C3 F0,zy ch out _ _ (D3 _) F0]
     simp only;rw[B! K3,e];rfl
   have hd:=Avx (P3 p a (win N a) F0) 0 (now ch out).1 (now ch out).2.1 (now ch out).2.2.1 (now ch out).2.2.2 (rS ch out _ _).1 (rS ch out _ _).2.1;have r!:rE (Mx p a (win N a)) (win N a) 0 (now ch out).1 (now ch out).2.1=Uq ch p N a out:=rfl;rw[B6 F9,hpre,Lm,Aj4,e8,ew,Agg p (N:Int) a _ F0 F0 F0,Aa];simp only;refine D9 (congrArg (λo=>Option.bind o _) hd) ?_;rw[Aa,r!,MG];by_cases he:(Uq ch p N a out).2.2≠0
   ·rw[B6 he,B6 (by rw[Am];simpa using he),B6 he]
   ·have he0:(Uq ch p N a out).2.2=0:=by simpa using he
    have hok:=zR he0;have ih:=Apm hN hN2 h1 h6 hn j (a+(Uq ch p N a out).2.1.toNat) q (out++[(Uq ch p N a out).1]) F6 F0 F0;have hx:=z! he0;rw[B9,RG]at ih;rw[B! he];generalize Uq ch p N a out=R at*
    obtain⟨v,nx,e⟩:=R;simp only at*
    rw[B! (by rw[Am];simpa using he),Ay F6,Aa,Ag,Ag,hx];exact ih
end
theorem zu{ch:Nat}{p:LB}{N:Nat}:∀(j a:Nat) (out:LU),a<=N-> (MG ch p N j a out).2.1<=N/\ (MG ch p N j a out).1.length<=out.length+j/\ ((MG ch p N j a out).2.2=0-> (MG ch p N j a out).1.length=out.length+j)
 |0,a,out,h=>⟨h,D3 _,λ_=>rfl⟩
 |j+1,a,out,h=>by
  rw[MG];split
  ·rename_i he;exact⟨h,B8,λe=>absurd e he⟩
  ·rename_i he;have hok:=zR (ch:=ch) (p:=p) (N:=N) (a:=a) (out:=out) (by simpa using he);have hw:a+win N a<=N:=by unfold win;omega
   have ih:=zu (ch:=ch) (p:=p) (N:=N) j (a+(Uq ch p N a out).2.1.toNat) (out++[(Uq ch p N a out).1]) F0;rw[B9,RG]at ih;exact⟨ih.1,F0,λe=>by have:=ih.2.2 e;omega⟩
theorem Agq(ch n:Int)(b:LB)(N:Int):QI ch n b N 0 (List.replicate 6 ((0:Int),(0:Int),(0:UInt64),(0:UInt64),()))=Aob ch n b N (List.replicate 6 ((10:Int),(10:Int),(16384:UInt64),(16384:UInt64),())):=by
 have e:As=(As-7)+1+1+1+1+1+1+1:=by have:=Aq;omega
 rw[QI,e];rfl
theorem values_eq{p:LB}{N ch n:Nat}(hp:okB p N)(h1:1<=ch)(h6:ch<=6)(hn:n*ch<=4000):TY (ch:Int) (n:Int) p (N:Int)=
  some (if(MG ch p N (n*ch) 0 []).2.2≠0 then([],0,(MG ch p N (n*ch) 0 []).2.2)else((MG ch p N (n*ch) 0 []).1,((MG ch p N (n*ch) 0 []).2.1:Int),0)):=by
 have h:=Af7 hp h1 h6 hn (n*ch) 0 As [] B8 F7 F0;rw[TY,TX,Agq];exact h
theorem yQ(p:LB)(x:LU)(N:Nat)(hN:N=8*p.length)(hN2:N<=330000):∀(j a q:Nat),a+j=N->j<q->Ln p x q (a:Int)=some (x,if Ck p a j=0 then 0 else 12)
 |0,a,q+1,ha,_=>by
  have e8:Bn (8:Int) (Ac p)=(N:Int):=by rw[Ac,Ea];omega
  rw[Ln,Wp,e8,B! F9,Ck,B6 rfl];rfl
 |j+1,a,q+1,ha,hq=>by
  have e8:Bn (8:Int) (Ac p)=(N:Int):=by rw[Ac,Ea];omega
  have hb:=FN p a;rw[Ln,Wp,e8,B6 F9,Y0 p _ a F0 F0,Aa,Ck];by_cases h:Ge p a=0
  ·rw[B! (by rw[Am];simp[h]),Ag,h];have ih:=yQ p x N hN hN2 j (a+1) q F0 F0;rw[show((a:Int)+1)=((a+1:Nat):Int) by omega,ih];congr 2;by_cases hv:Ck p (a+1) j=0
   ·rw[B6 hv,B6 F0]
   ·rw[B! hv,B! F0]
  ·rw[B6 E?,B! F0]
theorem An8{p:LB}{N ch n:Nat}(hN:N=8*p.length)(hN2:N<=330000)(h1:1<=ch)(h6:ch<=6)(hn:n*ch<=4000):HS (ch:Int) (n:Int) p=
  some (if(MG ch p N (n*ch) 0 []).2.2≠0 then((MG ch p N (n*ch) 0 []).1,(MG ch p N (n*ch) 0 []).2.2)else
   ((MG ch p N (n*ch) 0 []).1,if 7<N-(MG ch p N (n*ch) 0 []).2.1\/Ck p (MG ch p N (n*ch) 0 []).2.1 (N-(MG ch p N (n*ch) 0 []).2.1)≠0 then 12 else 0)):=by
 have h:=Apm hN hN2 h1 h6 hn (n*ch) 0 As [] B8 F7 F0;have hat:=(zu (ch:=ch) (p:=p) (N:=N) (n*ch) 0 [] F0).1;have e8:Bn (8:Int) (Ac p)=(N:Int):=by rw[Ac,Ea];omega
 rw[HS,KM];refine D9 h ?_;generalize MG ch p N (n*ch) 0 []=V at*
 obtain⟨v,a,e⟩:=V;simp only at*
 by_cases he:e≠0
 ·rw[B6 he,B6 he]
 ·rw[B! he,B! he,HO,GK,e8,Ca];by_cases h7:7<N-a
  ·rw[B6 E5,B6 (.inl h7)]
  ·rw[B! E5,GX,yQ p v N hN hN2 (N-a) a As F0 F7];by_cases hv:Ck p a (N-a)=0
   ·rw[B6 hv,B! F0]
   ·rw[B! hv,B6 (.inr hv)]
theorem oX(n:Int):(GI.ofZ n:Int32)=Int32.ofInt n:=rfl
theorem lG(a:Int32):GI.toZ a=a.toInt:=rfl
theorem oI(a b:Int32):Af a b=a+b:=by
 rw[Af,lG,lG,oX,uZ,N5,N5]
theorem gK(a b:Int32):Ap a b=a-b:=by
 rw[Ap,lG,lG,oX,jy,N5,N5]
theorem Anq(a b:Int32):geq a b=(a==b):=by
 rw[geq,lG,lG,C?];simp[Int32.toInt_inj]
def rN(p:Nat->Bool)(a b:LX):LX:=(List.range a.length).map λk=>if p k=true then a.getD k 0 else b.getD k 0
section
variable {p q:Nat->Bool} {a b:LX}
theorem ZH:(rN p a b).length=a.length:=by simp[rN]
theorem If{k:Nat}(h:k<a.length):a.getD k 0=a[k]:=by simp[List.getD_eq_getElem?_getD,h]
theorem DH{k:Nat}(h:k<(rN p a b).length):(rN p a b)[k]=if p k=true then a.getD k 0 else b.getD k 0:=by simp[rN]
theorem OW{k:Nat}(h:k<a.length):Aj (rN p a b) (k:Int)=some (if p k=true then a.getD k 0 else b.getD k 0):=by
 rw[Bl (by rw[ZH];exact h),DH]
theorem FW(h:∀k,k<a.length->p k=q k):rN p a b=rN q a b:=by
 apply Vh;intro k hk;rw[h k (List.mem_range.1 hk)]
theorem sW{k:Nat}(h:k<a.length):Rn (rN p a b) (k:Int) (a.getD k 0)=some (rN (λj=>p j||decide (j=k)) a b):=by
 rw[Zv _ (by rw[ZH];exact h)];congr 1;apply M? (by simp[ZH]);intro i h1 h2;rw[W?,DH,DH];by_cases hi:k=i
 ·subst hi;simp
 ·have:¬i=k:=λe=>hi e.symm;simp[hi,this]
theorem A3(h:∀k,k<a.length->p k=true):rN p a b=a:=by
 apply M? (by simp[ZH]);intro i h1 h2;rw[DH,B6 (h i h2),If h2]
theorem vZ(hl:b.length=a.length)(h:∀k,k<a.length->p k=false):rN p a b=b:=by
 apply M? (by simp[ZH,hl]);intro i h1 h2;rw[DH,h i F0];simp[List.getD_eq_getElem?_getD,h2]
end
theorem Z?{p:Prop}(h:p:=by rw[Th];simp;omega):p:=h
theorem R5{p:Prop}(h:p:=by rw[Ax];decide):p:=h
theorem U_(a b:Int32):Bn a b=a*b:=by
 rw[Bn,lG,lG,oX,Int32.ofInt_mul,N5,N5]
theorem EW(a:Int32): -2147483648<=a.toInt/\a.toInt<2147483648:=⟨a.le_toInt,a.toInt_lt⟩
theorem Fq(a:Int32):(Ae a:Int)=a.toInt:=by
 have:=EW a
 show wrap64 a.toInt=_;rw[Dp]<;>omega
theorem fA(n:Int):(Ae n:Int32)=Int32.ofInt n:=rfl
theorem Aq7(x:Int):Int32.ofInt (x %4294967296)=Int32.ofInt x:=by
 apply Int32.toInt_inj.1;rw[RJ,RJ];exact Int.emod_bmod x 4294967296
theorem S8(x:Int):Cf x=some (Int32.ofInt x):=by
 have e1:(Ae x:UInt64).toNat=(x %18446744073709551616).toNat:=by
  rw[Ah1,E6,C3 F0]
 have e2:(Ae (Ae x:UInt64):UInt32).toNat=(x %4294967296).toNat:=by
  have e:(Ae (Ae x:UInt64):UInt32)=UInt32.ofNat (Ae x:UInt64).toNat:=by simp only[Ae,Oy,Hs]
  rw[e,G3,e1];show(x %18446744073709551616).toNat %4294967296=_;omega
 have e3:(Ae (Ae (Ae x:UInt64):UInt32):Int32)=Int32.ofInt ((Ae (Ae x:UInt64):UInt32).toNat:Int):=rfl;rw[Cf,e3,e2,<-Aq7 x];congr 2;omega
theorem P1(a b:Int32):Cf (Af (Ae a:Int) (Ae b:Int))=some (a+b):=by
 have:=EW a;have:=EW b;rw[Fq,Fq,Ag,S8,uZ,N5,N5]
theorem Avg(a b:Int32):Cf (Bn (Ae a:Int) (Ae b:Int))=some (a*b):=by
 have ha:=EW a;have hb:=EW b;have h1: -9223372036854775808<=a.toInt*b.toInt/\a.toInt*b.toInt<=9223372036854775807:=by
  have h2:(a.toInt*b.toInt).natAbs<=2147483648*2147483648:=by
   rw[Int.natAbs_mul];exact G0 F0 F0
  omega
 rw[Fq,Fq,Ea h1.1 h1.2,S8,Int32.ofInt_mul,N5,N5]
def OkF(s:Int)(t p:LX):Prop:=(s=9\/s=10)/\t.length=16/\p.length=16
theorem Z1{s:Int}{t p:LX}(h:OkF s t p):YJ s t p=some 0:=by
 obtain⟨rfl|rfl,_,_⟩:=h<;>rfl
theorem D_{l:LX}{k:Nat}(h:k<l.length):Aj l (k:Int)=some (l.getD k 0):=by
 rw[Bl h];simp[List.getD_eq_getElem?_getD,h]
def xO(t p:LX):Nat->Int32
 |0=>0
 |i+1=>xO t p i+t.getD i 0*p.getD i 0
def half(s:Int):Int32:=if s=9 then 256 else 512
def gF(s:Int)(t p:LX):Int32:=Int32.ofInt ((half s+xO t p 16).toInt.fdiv (if s=9 then 512 else 1024))
theorem y?{s:Int}{t p:LX}(h:OkF s t p):∀(j i q:Nat),i+j=16->j<q->GA t s p q (half s+xO t p i) (i:Int)=some (gF s t p,0)
 |0,i,q+1,hi,_=>by
  obtain rfl:i=16:=F0
  have hs:=h.1;rw[GA,ZD,B! I!,mP,Ab1,Bz K3,Aa];obtain rfl|rfl:=hs<;>rfl
 |j+1,i,q+1,hi,hq=>by
  obtain⟨hs,ht,hp⟩:=h;rw[GA,ZD,B6 F9,D_ F0,Aa,D_ F0,Aa,Aa,Ag (b:=1) F0 F0,oI,U_,Int32.add_assoc];exact y? ⟨hs,ht,hp⟩ j (i+1) q F0 F0
theorem Aia{s:Int}{t p:LX}(h:OkF s t p):gW s t p=some (gF s t p,0):=by
 have hs:=h.1;have h1:=y? h 16 0 As F0 F7;have e:Ed (1:Int32) (GI.toZ (Ap s (1:Int))).toNat=half s+xO t p 0:=by
  obtain rfl|rfl:=hs<;>rfl
 rw[gW,mM,Z1 h,Aa,B! D7,Bz (by rw[De,Ca];simp;omega),Aa,Aao,e];exact h1
theorem Aww {s:Int}{t p:LX}(ht:t.length=16)(hp:p.length=16){g:Int32}(hg:xO t p 16=g):∀(j i q:Nat),i+j=16->j<q->Pm s t p q (xO t p i).toInt (i:Int)=some g
 |0,i,q+1,hi,_=>by
  obtain rfl:i=16:=F0
  rw[Pm,AJ,B! I!,MS,Ani,fA,N5,hg]
 |j+1,i,q+1,hi,hq=>by
  have ih:=Aww (s:=s) ht hp hg j (i+1) q F0 F0;rw[xO]at ih;rw[Pm,AJ,B6 F9,D_ F0,D_ F0,Aa,Aa,Aa,Aa,Avg,Aa,<-Fq (xO t p i),P1,Aa,Fq,Ag];exact ih
theorem At1{s:Int}{t p:LX}(h:OkF s t p):XQ s t p=some (xO t p 16):=
 Aww h.2.1 h.2.2 rfl 16 0 As F0 F7
theorem Ars(x n:Int)(hn:n=512\/n=1024\/n=16\/n=32):(if x.tmod n<0 then x.tdiv n-1 else x.tdiv n)=x.fdiv n:=by
 have hs:n.sign=1:=by obtain rfl|rfl|rfl|rfl:=hn<;>rfl
 rw[cW,Int.tmod_eq_emod,hs,NX _ F0];by_cases h:0<=x\/n∣x
 ·rw[B6 h,B6 h];obtain rfl|rfl|rfl|rfl:=hn<;>(rw[B! F0];omega)
 ·rw[B! h,B! h];obtain rfl|rfl|rfl|rfl:=hn<;>(rw[B6 F0];omega)
theorem Bgq (x n:Int)(hn:n=512\/n=1024\/n=16\/n=32)(h: -1000000000000<=x)(h':x<=1000000000000): -1000000000000<=x.tdiv n/\x.tdiv n<=1000000000000:=by
 have hs:n.sign=1:=by obtain rfl|rfl|rfl|rfl:=hn<;>rfl
 rw[cW,hs];by_cases h:0<=x\/n∣x
 ·rw[B6 h];obtain rfl|rfl|rfl|rfl:=hn<;>omega
 ·rw[B! h];obtain rfl|rfl|rfl|rfl:=hn<;>omega
theorem Bek(x n:Int)(hn:n=512\/n=1024\/n=16\/n=32)(h: -1000000000000<=x)(h':x<=1000000000000):Bs x n=x.tdiv n:=by
 have:=Bgq x n hn h h';rw[YC,Dp F0 F0]
theorem Aih(x n:Int)(hn:n=512\/n=1024\/n=16\/n=32)(h: -1000000000000<=x)(h':x<=1000000000000):
  (if(Cj (Gx x n) (0:Int))=true then some (Ae (Ap (Bs x n) (1:Int)):Int32)else some (Ae (Bs x n):Int32))=some (Int32.ofInt (x.fdiv n)):=by
 have hb:=Bgq x n hn h h';rw[Ad,Gx,Bek x n hn h h',Ca,fA,fA,<-Ars x n hn];by_cases hx:x.tmod n<0
 ·rw[B6 (by simpa using hx),B6 hx]
 ·rw[B! (by simpa using hx),B! hx]
theorem Anc{s:Int}{t p:LX}(h:OkF s t p):Ym s t p=some (gF s t p):=by
 obtain⟨hs,ht,hp⟩:=h;have h:OkF s t p:=⟨hs,ht,hp⟩;have hx:=EW (xO t p 16+half s);have key:∀n:Int,(n=512\/n=1024)-> (half s).toInt=n/2->gF s t p=Int32.ofInt ((half s+xO t p 16).toInt.fdiv n)->KQ s t p n=some (gF s t p):=by
  intro n hn hh hg;have e2:Bs n (2:Int)=(half s).toInt:=by rw[hh];obtain rfl|rfl:=hn<;>rfl
  rw[KQ,Akc,At1 h,Aa,e2,<-Fq (half s),P1,Aa,Bz E?,Aa,Aa,Fq,Aih _ n F0 F0 F0,hg,Int32.add_comm]
 rw[Ym,Aki];obtain rfl|rfl:=hs
 ·rw[B6 Q0];exact key 512 (.inl rfl) rfl rfl
 ·rw[B! R5];exact key 1024 (.inr rfl) rfl rfl
def stp(i:Nat):Int32:=if i=0 then 4 else if i<4 then 2 else 1
def sg(x:Int32):Int32:=if x.toInt<0 then -1 else if 0<x.toInt then 1 else 0
def oq(t p:LX)(w:Int32):LX:=(List.range 16).map λi=>t.getD i 0+stp i*sg (p.getD i 0)*sg w
theorem VC(t p:LX)(w:Int32):(oq t p w).length=16:=by simp[oq]
theorem ny(t p:LX)(w:Int32){i:Nat}(h:i<16):(oq t p w).getD i 0=t.getD i 0+stp i*sg (p.getD i 0)*sg w:=by
 rw[If (by rw[VC];exact h)];simp[oq]
theorem step_eq(i:Nat):oN (i:Int)=some (stp i):=by
 rw[oN,stp];by_cases h:i=0
 ·rw[B6 (by rw[Ax];simp[h]),B6 h]
 ·rw[B! G2,B! h];by_cases h2:i<4
  ·rw[B6 F9,B6 h2]
  ·rw[B! F9,B! h2]
theorem Aqn(i:Nat):IX (i:Int)=some (stp i):=by
 rw[IX,stp];by_cases h:i=0
 ·rw[B6 (by rw[Ax];simp[h]),B6 h]
 ·rw[B! G2,B! h];by_cases h2:i<4
  ·rw[B6 Z?,B6 h2]
  ·rw[B! Z?,B! h2]
theorem fL(a b:Int32):Cj a b=decide (a.toInt<b.toInt):=rfl
theorem p?(a b:Int32):Ec a b=decide (b.toInt<a.toInt):=rfl
theorem sign_eq(x:Int32):Ya x=some (sg x):=by
 rw[Ya,sg,fL,p?,show(0:Int32).toInt=0 from rfl];by_cases h:x.toInt<0
 ·rw[B6 (by simpa using h),B6 h]
 ·rw[B! (by simpa using h),B! h];by_cases h2:0<x.toInt
  ·rw[B6 (by simpa using h2),B6 h2]
  ·rw[B! (by simpa using h2),B! h2]
theorem Aod:sg 0=0:=rfl
theorem toInt_ne(h:x≠0):x.toInt≠0:=λe=>h (Int32.toInt_inj.1 (by rw[e];rfl))
theorem dN(h:x.toInt<0):sg x= -1:=by rw[sg,B6 h]
theorem dO(h:x≠0)(h2:¬x.toInt<0):sg x=1:=by
 have:=toInt_ne h;rw[sg,B! h2,B6 F0]
theorem zW(i:Nat):stp i=4\/stp i=2\/stp i=1:=by
 unfold stp;by_cases h:i=0
 ·rw[B6 h];exact .inl rfl
 ·rw[B! h];split;exact .inr (.inl rfl);exact .inr (.inr rfl)
theorem Aqx(hx:x≠0)(hw:w≠0)(h:(x.toInt<0)=(w.toInt<0))(i:Nat):stp i*sg x*sg w=stp i:=by
 by_cases h1:x.toInt<0
 ·rw[dN h1,dN (by rw[<-h];exact h1)];obtain e|e|e:=zW i<;>rw[e]<;>decide
 ·rw[dO hx h1,dO hw (by rw[<-h];exact h1)];obtain e|e|e:=zW i<;>rw[e]<;>decide
theorem Akn(hx:x≠0)(hw:w≠0)(h:¬(x.toInt<0)=(w.toInt<0))(i:Nat)(a:Int32):a+stp i*sg x*sg w=a-stp i:=by
 have key:stp i*sg x*sg w=-stp i:=by
  by_cases h1:x.toInt<0
  ·have h2:¬w.toInt<0:=λh2=>h (propext ⟨λ_=>h2,λ_=>h1⟩);rw[dN h1,dO hw h2];obtain e|e|e:=zW i<;>rw[e]<;>decide
  ·have h2:w.toInt<0:=Decidable.by_contra λh2=>h (propext ⟨λh3=>absurd h3 h1,λh3=>absurd h3 h2⟩);rw[dO hx h1,dN h2];obtain e|e|e:=zW i<;>rw[e]<;>decide
 rw[key,Int32.sub_eq_add_neg]
def U3(i:Nat):Nat->Bool:=λj=>decide (j<i)
theorem mB{a b:LX}{i:Nat}(h:i<a.length):Rn (rN (U3 i) a b) (i:Int) (a.getD i 0)=some (rN (U3 (i+1)) a b):=by
 rw[sW h];congr 1;apply FW;intro k _;rw[C?];simp only[U3,HU,B?];omega
theorem Ari{a b:LX}{i:Nat}(e:a.getD i 0=b.getD i 0):rN (U3 i) a b=rN (U3 (i+1)) a b:=by
 apply Vh;intro k _;simp only[U3,B?];by_cases h1:k<i
 ·rw[B6 h1,B6 F0]
 ·by_cases h2:k=i
  ·subst h2;rw[B! h1,B6 F0,e]
  ·rw[B! h1,B! F0]
theorem Ai9{a b:LX}{i:Nat}(h:i<a.length):Aj (rN (U3 i) a b) (i:Int)=some (b.getD i 0):=by
 rw[OW h,B! (by simp[U3])]
theorem Adl{s:Int}{t p:LX}{w:Int32}(hw:w≠0)(ht:t.length=16)(hp:p.length=16):∀(j i q:Nat),i+j=16->j<q->FV w p s q (i:Int) (rN (U3 i) (oq t p w) t)=some (s,oq t p w,p,0)
 |0,i,q+1,hi,_=>by
  obtain rfl:i=16:=F0
  rw[FV,ZE,B! I!,A3 (λk hk=>by rw[VC]at hk;simpa [U3]using hk)];rfl
 |j+1,i,q+1,hi,hq=>by
  have hl:=VC t p w;have hg:=ny t p w (i:=i) F0;rw[FV,ZE,B6 F9,D_ F0,Aa,Ag (b:=1) F0 F0,Ai9 F0,step_eq];simp only[Aa];rw[oI,gK,Anq,fL,fL,show(0:Int32).toInt=0 from rfl];have ih:=Adl (s:=s) hw ht hp j (i+1) q F0 F0;by_cases hx:p.getD i 0=0
  ·rw[B6 (by rw[hx];rfl),Ari (by rw[hg,hx,Aod,Int32.mul_zero,Int32.zero_mul,Int32.add_zero])];exact ih
  ·rw[B! (by simpa using hx)];by_cases hs:((p.getD i 0).toInt<0)=(w.toInt<0)
   ·rw[B6 (by rw[E3];simp only[hs]),show t.getD i 0+stp i=(oq t p w).getD i 0 by rw[hg,Aqx hx hw hs],mB F0,Aa];exact ih
   ·rw[B! (by rw[E3,vE];exact λh=>hs (propext h)),show t.getD i 0-stp i=(oq t p w).getD i 0 by rw[hg,Akn hx hw hs],mB F0,Aa];exact ih
theorem Asl{t:LX}(p:LX)(ht:t.length=16):oq t p 0=t:=by
 apply M? (by rw[VC,ht]);intro i h1 h2;have:=ny t p 0 (i:=i) F0;rw[If h1,If h2]at this;rw[this,Aod,Int32.mul_zero,Int32.add_zero]
theorem Ah0{s:Int}{t p:LX}(h:OkF s t p)(w:Int32):tM s t p w=some (s,oq t p w,p,0):=by
 rw[tM,nC,Z1 h,Aa,B! D7,Anq];by_cases hw:w=0
 ·rw[B6 (by simpa using hw),hw,Asl p h.2.1]
 ·have h1:=Adl (s:=s) hw h.2.1 h.2.2 16 0 As F0 F7;rw[vZ (by rw[VC,h.2.1]) (λk _=>by simp[U3])]at h1;rw[B! (by simpa using hw)];exact h1
theorem Aco{s:Int}{t p:LX}{w:Int32}(ht:t.length=16)(hp:p.length=16):∀(j i q:Nat),i+j=16->j<q->Ja w s p q (i:Int) (rN (U3 i) (oq t p w) t)=some (s,oq t p w,p)
 |0,i,q+1,hi,_=>by
  obtain rfl:i=16:=F0
  rw[Ja,Sm,B! I!,A3 (λk hk=>by rw[VC]at hk;simpa [U3]using hk)];rfl
 |j+1,i,q+1,hi,hq=>by
  have hl:=VC t p w;have hg:=ny t p w (i:=i) F0;rw[Ja,Sm,B6 F9,D_ (l:=p) F0,Ag (b:=1) F0 F0,Ai9 F0,Aqn,sign_eq w,Aa,Aa,Aa,Aa,Aa,sign_eq,Aa,Aa,Aa,oI,U_,U_,<-hg,mB F0,Aa];exact Aco ht hp j (i+1) q F0 F0
theorem Bf3 {s:Int}{t p:LX}(h:OkF s t p)(w:Int32):Yc s t p w=some (s,oq t p w,p):=by
 have h1:=Aco (s:=s) (w:=w) h.2.1 h.2.2 16 0 As F0 F7;rw[vZ (by rw[VC,h.2.1]) (λk _=>by simp[U3])]at h1;exact h1
theorem Axy{p:LX}(h:p.length=16):∃a0 a1 a2 a3 a4 a5 a6 a7 a8 a9 b0 b1 b2 b3 b4 b5,p=[a0,a1,a2,a3,a4,a5,a6,a7,a8,a9,b0,b1,b2,b3,b4,b5]:=by
 match p,h with
 |[a0,a1,a2,a3,a4,a5,a6,a7,a8,a9,b0,b1,b2,b3,b4,b5],_=>exact⟨a0,a1,a2,a3,a4,a5,a6,a7,a8,a9,b0,b1,b2,b3,b4,b5,rfl⟩
theorem Am5{s:Int}{t p:LX}(h:OkF s t p)(x:Int32):B0 s t p x=some (s,t,x::p.take 15,0):=by
 obtain⟨hs,ht,hp⟩:=h;rw[B0,eD,Z1 ⟨hs,ht,hp⟩,Aa,B! D7,show pE (16:Int) 1 16=some ()from rfl,Aa,show pE (16:Int) 0 16=some ()from rfl,Aa,sJ,Aby];obtain⟨a0,a1,a2,a3,a4,a5,a6,a7,a8,a9,b0,b1,b2,b3,b4,b5,rfl⟩:=Axy hp;rfl
def shf(p:LX)(i:Nat):LX:=(List.range 16).map λk=>if k<=i then p.getD k 0 else p.getD (k-1) 0
theorem PA(p:LX)(i:Nat):(shf p i).length=16:=by simp[shf]
theorem Ayi(p:LX)(i k:Nat)(h:k<16):(shf p i).getD k 0=if k<=i then p.getD k 0 else p.getD (k-1) 0:=by
 rw[If (by rw[PA];exact h)];simp[shf]
theorem Ays(p:LX)(i:Nat)(h:i+1<16):Rn (shf p (i+1)) ((i+1:Nat):Int) (p.getD i 0)=some (shf p i):=by
 rw[Zv _ (by rw[PA];exact h)];congr 1;apply M? (by simp[PA]);intro k h1 h2;rw[PA]at h2;rw[W?];simp only[shf,RM,RI];by_cases hk:i+1=k
 ·subst hk;rw[B6 rfl,B! F0];rfl
 ·rw[B! hk];by_cases h3:k<=i
  ·rw[B6 F0,B6 h3]
  ·rw[B! F0,B! h3]
theorem Bf7(s:Int)(t p:LX)(x:Int32)(hp:p.length=16):∀(i q:Nat),i<16->i<q->Ko x s t q (i:Int) (shf p i)=some (s,t,x::p.take 15)
 |0,q+1,_,_=>by
  have hg:Aj (shf p 0) (0:Int)=some ((shf p 0).getD 0 0):=D_ (l:=shf p 0) (k:=0) (by rw[PA];omega);have hset:Rn (shf p 0) (0:Int) x=some ((shf p 0).set 0 x):=Zv (l:=shf p 0) (n:=0) x (by rw[PA];omega);rw[Ko,Vd,B! S0,DN,Ae9,hg,Aa,hset,Aa];congr 3;apply M? (by simp[PA,hp]);intro k h1 h2;rw[P4,PA]at h1;rw[W?];cases k with
  |zero=>rw[B6 rfl];rfl
  |succ k=>
   rw[B! F0];simp only[shf,RM,RI,List.getElem_cons_succ,U7];rw[B! F0,cR,If F0]
 |i+1,q+1,hi,hq=>by
  have hg:=D_ (l:=shf p (i+1)) (k:=i) (by rw[PA];omega);rw[Ayi p (i+1) i F0,B6 F0]at hg;have e1:Ap ((i+1:Nat):Int) (1:Int)=(i:Int):=by rw[Ca];omega
  have hg2:=D_ (l:=shf p (i+1)) (k:=i+1) (by rw[PA];omega);rw[Ko,Vd,B6 S0,e1,hg,Aa,Aa,hg2,Aa,Ays p i hi,Aa];exact Bf7 s t p x hp i q F0 F0
theorem yw{s:Int}{t p:LX}(hp:p.length=16)(x:Int32):AL s t p x=some (s,t,x::p.take 15):=by
 have h:=Bf7 s t p x hp 15 As F0 F7;have e:shf p 15=p:=by
  apply M? (by rw[PA,hp]);intro k h1 h2;rw[PA]at h1;simp only[shf,RM,RI];rw[B6 F0,If h2]
 rw[e]at h;exact h
theorem As9{s:Int}{t p:LX}(h:OkF s t p)(w x:Int32):OkF s (oq t p w) (x::p.take 15):=⟨h.1,VC _ _ _,by simp[h.2.2]⟩
theorem Ay0{s:Int}{t p:LX}(h:OkF s t p)(y:Int32):yS s t p y=some (y+gF s t p,s,oq t p y,(y+gF s t p)::p.take 15,0):=by
 rw[yS,Aia h,Aa];simp only;rw[B! D7,oI,fO,Ah0 h,Aa];simp only;rw[Am5 (s:=s) (t:=oq t p y) (p:=p) ⟨h.1,VC _ _ _,h.2.2⟩,Aa];rfl
theorem Apu{s:Int}{t p:LX}(h:OkF s t p)(y:Int32):Ye s t p y=some (y+gF s t p,s,oq t p y,(y+gF s t p)::p.take 15):=by
 rw[Ye,Anc h,Aa,P1,Aa,Bf3 h,Aa];simp only;rw[yw h.2.2,Aa]
def sB(bits:Int):Int:=if bits=16 then 9 else 10
def shB(bits:Int):Int:=if bits=8 then 4 else 5
def Bq(bits:Int):Prop:=bits=8\/bits=16\/bits=24
def gs(sh:Int)(last:Int32):Int32:=Ae (SA (Ap (Ed (Ae last:Int) sh.toNat) (Ae last)) sh.toNat)
theorem Bew(bits:Int):sB bits=9\/sB bits=10:=by unfold sB;split<;>simp
theorem Ayu(bits:Int):0<=shB bits:=by unfold shB;split<;>omega
theorem Bgo{bits:Int}(h:Bq bits)(t:LX):T2 bits t=some (sB bits,t,List.replicate 16 0,0):=by
 obtain rfl|rfl|rfl:=h<;>rfl
theorem Bc9{bits:Int}(h:Bq bits):xD bits=some (shB bits,0):=by
 obtain rfl|rfl|rfl:=h<;>rfl
theorem Bbr{sh:Int}(h:0<=sh)(last:Int32):jZ sh last=some (gs sh last):=by
 rw[jZ,Bz (by rw[De];simpa using h),Aa,Aa];rfl
theorem Aua{bits:Int}(h:Bq bits)(last:Int32):JY bits last=some (gs (shB bits) last,0):=by
 rw[JY,Bc9 h,Aa];simp only;rw[B! D7,Bbr (Ayu bits),Aa]
theorem Ban {bits:Int}(h:Bq bits)(last:Int32)(t p:LX):JW bits last (sB bits) t p=some 0:=by
 rw[JW,Bgo h,Aa];simp only;rw[B! (by rw[Am,Am];simp)]
theorem Aqc{bits:Int}(h:Bq bits){t p:LX}(hF:OkF (sB bits) t p)(last y:Int32):
  Tp bits last (sB bits) t p y=some (y+gF (sB bits) t p+gs (shB bits) last,bits,y+gF (sB bits) t p+gs (shB bits) last,sB bits,oq t p y,(y+gF (sB bits) t p)::p.take 15,0):=by
 rw[Tp,Ban h,Aa,B! D7,Aua h,Aa];simp only;rw[Ay0 hF,Aa];simp only;rw[oI]
theorem eZ(sh:Int)(hs:sh=4\/sh=5)(last:Int32):Uh sh last=some (gs sh last):=by
 have hl:=EW last;have key:∀n:Int,n=16\/n=32->gs sh last=Int32.ofInt (((n-1)*last.toInt).fdiv n)->ER last n=some (gs sh last):=by
  intro n hn hg;have e:Bn (Ap n (1:Int)) (Ae last:Int)=(n-1)*last.toInt:=by
   obtain rfl|rfl:=hn<;>(rw[Fq,Ca,Ea])
  rw[ER,Adw,Bz E?,Aa,Aa,e,Aih _ n F0 (by obtain rfl|rfl:=hn<;>omega) (by obtain rfl|rfl:=hn<;>omega),hg]
 rw[Uh,Aex];obtain rfl|rfl:=hs
 ·rw[B! R5];refine key 16 (.inl rfl) ?_;have e:Ed (Ae last:Int) (4:Int).toNat=last.toInt*16:=by
   rw[Fq];show wrap64 (last.toInt*2^4)=_;rw[Dp]<;>omega
  rw[gs,e,Fq,Ca,fA]
  show Int32.ofInt ((last.toInt*16-last.toInt).fdiv 16)=_;congr 2;omega
 ·rw[B6 Q0];refine key 32 (.inr rfl) ?_;have e:Ed (Ae last:Int) (5:Int).toNat=last.toInt*32:=by
   rw[Fq];show wrap64 (last.toInt*2^5)=_;rw[Dp]<;>omega
  rw[gs,e,Fq,Ca,fA]
  show Int32.ofInt ((last.toInt*32-last.toInt).fdiv 32)=_;congr 2;omega
theorem Ar4{bits:Int}(h:Bq bits){t p:LX}(hF:OkF (sB bits) t p)(last y:Int32):
  My bits last (sB bits) t p y=some (y+gF (sB bits) t p+gs (shB bits) last,bits,y+gF (sB bits) t p+gs (shB bits) last,sB bits,oq t p y,(y+gF (sB bits) t p)::p.take 15):=by
 have hb:Kz bits last (sB bits) t p=some (Ae (gs (shB bits) last):Int):=by
  rw[Kz];obtain rfl|rfl|rfl:=h
  ·rw[B6 Q0,eZ 4 (.inl rfl),Aa];rfl
  ·rw[B! R5,eZ 5 (.inr rfl),Aa];rfl
  ·rw[B! R5,eZ 5 (.inr rfl),Aa];rfl
 rw[My,Apu hF,Aa];simp only;rw[hb,Aa,P1,Aa]
theorem Baw{bits:Int}(h:Bq bits)(t:LX):KX bits t=some (bits,0,sB bits,t,List.replicate 16 0,0):=by
 obtain rfl|rfl|rfl:=h<;>rfl
def cQ(n:UInt32):Int32:=if n.toNat %2=0 then Int32.ofInt ((n.toNat/2:Nat):Int)else Int32.ofInt (-((n.toNat/2:Nat):Int)-1)
theorem Aiw(a b:Int32):(KR a b).toBitVec=a.toBitVec^^^b.toBitVec:=by
 show(Int32.ofInt ((BitVec.ofInt 32 a.toBitVec.toInt^^^BitVec.ofInt 32 b.toBitVec.toInt).toNat:Int)).toBitVec=_;rw[BitVec.ofInt_toInt,BitVec.ofInt_toInt,uT,BitVec.ofInt_natCast,BitVec.ofNat_toNat,BitVec.setWidth_eq]
theorem Bfi(m:Nat)(h:m<2147483648):KR (Int32.ofInt (m:Int)) (Int32.ofInt (-1))=Int32.ofInt (-(m:Int)-1):=by
 apply Int32.toBitVec_inj.1;have e1:(Int32.ofInt (-1)).toBitVec=BitVec.allOnes 32:=F5
 rw[Aiw,e1,BitVec.xor_allOnes,uT,uT];apply aY;rw[kX,QP,QP];omega
theorem Aup(n:UInt32):ME n=some (cQ n):=by
 have hn:=n.toNat_lt;have e1:(Ae (Cx n (GI.toZ (1:UInt64)).toNat):Int32)=Int32.ofInt ((n.toNat/2:Nat):Int):=by
  show Int32.ofInt ((Cx n 1).toNat:Int)=_;rw[ZO]
 have e2:(Ae (Gv n (1:UInt32)):Int32)=Int32.ofInt ((n.toNat %2:Nat):Int):=by
  show Int32.ofInt ((Gv n (1:UInt32)).toNat:Int)=_;rw[Q!,kH]
  show Int32.ofInt ((n.toNat&&&1:Nat):Int)=_;rw[um]
 rw[ME,e1,e2,cQ];congr 1;by_cases h:n.toNat %2=0
 ·have e3:O8 (Int32.ofInt ((n.toNat %2:Nat):Int))=Int32.ofInt 0:=by rw[h];decide
  rw[B6 h,e3];apply Int32.toBitVec_inj.1;rw[Aiw,show(Int32.ofInt 0).toBitVec=0#32 from rfl,BitVec.xor_zero]
 ·have e3:O8 (Int32.ofInt ((n.toNat %2:Nat):Int))=Int32.ofInt (-1):=by rw[show n.toNat %2=1 by omega];decide
  rw[B! h,e3,Bfi _ F0]
theorem Axx(n:UInt32):Sp n=some (cQ n):=by
 have hn:=n.toNat_lt;have e1:geq (FP n (2:UInt32)) (0:UInt32)=decide (n.toNat %2=0):=by
  rw[mV,Agt,C?];simp only[E3,<-kK,v?,B?];rfl
 rw[Sp,e1,cQ];by_cases h:n.toNat %2=0
 ·rw[B6 (by simpa using h),B6 h,Ag3];rfl
 ·have e2:(Ae n:Int)=(n.toNat:Int):=Abc n;rw[B! (by simpa using h),B! h,e2,Ag,f?,Dp F0 F0,YC,cW,fA];congr 2;rw[B6 (.inr F0),Dp F0 F0];omega
theorem D!{p:Prop}(h:p:=by rw[Ar,Ac];simp;omega):p:=h
theorem E1{c:Prop} [Decidable c](h:c):Mt (decide c)=some ():=by rw[L! h];rfl
def unV(f:Nat->Int32)(ch:Nat):Nat->Int32
 |0=>if 1<ch then f (ch-1)+Bs (f (ch-2)) (2:Int32)else f (ch-1)
 |j+1=>unV f ch j-f (ch-2-j)
def n!(ch:Nat)(m:LX):LX:=(List.range m.length).map λk=>unV (λi=>m.getD (k-k %ch+i) 0) ch (ch-1-k %ch)
theorem zT(ch:Nat)(m:LX):(n! ch m).length=m.length:=by simp[n!]
theorem V'{ch:Nat}{m:LX}{a i:Nat}(ha:a %ch=0)(hi:i<ch)(h:a+i<m.length):(n! ch m).getD (a+i) 0=unV (λi=>m.getD (a+i) 0) ch (ch-1-i):=by
 have hb:(a+i) %ch=i:=by rw[Nat.add_mod,ha,L8,dD,C3 hi]
 rw[If (by rw[zT];exact h)];simp only[n!,RM,RI,hb];rw[show a+i-i=a by omega]
section
variable (ch:Nat) (m:LX)
theorem Ag7(h1:1<=ch)(h6:ch<=6)(hm:m.length %ch=0)(hl2:m.length<=4000):pN (ch:Int) m=some 0:=by
 rw[pN,B! H7,B! D!,Bz E?,Aa,B!];rw[Am,Gx,Ac,<-bK,hm];simp
theorem Acl(bk:Int->LX->Option (LX×Int))(at':Nat)(h1:1<=ch)(h6:ch<=6)(hm:at' %ch=0)(hl:at'+ch<=m.length)(hl2:m.length<=4000):∀(i q:Nat),i<=ch-1->i<q->
  MA bk (ch:Int) (at':Int) q ((i:Int)-1) (rN (λk=>decide (k<at'\/ (at'+i<=k/\k<at'+ch))) (n! ch m) m)=bk ((at'+ch:Nat):Int) (rN (λk=>decide (k<at'+ch)) (n! ch m) m)
 |0,q+1,hi,_=>by
  have e4:Af (at':Int) (ch:Int)=((at'+ch:Nat):Int):=by rw[Ag];omega
  rw[MA,dU,B! IZ,sG,Acq,e4];congr 1;apply FW;intro k _;rw[C?];simp;omega
 |i+1,q+1,hi,hq=>by
  have hlen:=zT ch m;have e2:Af (at':Int) (ch:Int)-(at':Int)=(ch:Int):=by rw[Ag];omega
  have e3:Af (i:Int) 1=((i+1:Nat):Int):=by rw[Ag];omega
  have hv:((n! ch m).getD (at'+(i+1)) 0-m.getD (at'+i) 0)=(n! ch m).getD (at'+i) 0:=by
   rw[V' hm F0 F0,V' hm F0 F0,show ch-1-i=(ch-1-(i+1))+1 by omega,unV,show ch-2-(ch-1-(i+1))=i by omega]
  rw[MA,dU,show((i+1:Nat):Int)-1=(i:Int) by omega,B6 IZ,e2,e3,E1 F0,Aa,E1 F0,Aa,
   show(at':Int)+((i+1:Nat):Int)=((at'+(i+1):Nat):Int) by omega,show(at':Int)+(i:Int)=((at'+i:Nat):Int) by omega,
   OW F0,Aa,OW F0,Aa,Aa,B6 F6,B! F6,gK,hv,sW F0,Aa,Ca]
  have ih:=Acl bk at' h1 h6 hm hl hl2 i q F0 F0;rw[<-ih];congr 1;apply FW;intro k _;rw[C?];simp;omega
theorem S9{at' ch n:Nat}(ha:at' %ch=0)(hm:n %ch=0)(h:at'<n):at'+ch<=n:=by
 have d1:=RQ at' ch;have d2:=RQ n ch;rw[ha,N7]at d1;rw[hm,N7]at d2;have hlt:at'/ch<n/ch:=by
  rcases T! (at'/ch) (n/ch)with h'|h'
  ·exact h'
  ·have:=OL ch h';omega
 have:=OL ch (show at'/ch+1<=n/ch from hlt);rw[XJ]at this;omega
theorem wm(h1:1<=ch)(h6:ch<=6)(hm:m.length %ch=0)(hl2:m.length<=4000):∀(j at' q:Nat),at' %ch=0->at'<=m.length->m.length-at'<=j->j<q->
  EF (ch:Int) q (at':Int) (rN (λk=>decide (k<at')) (n! ch m) m)=some (n! ch m,0)
 |j,at',q+1,ha,hle,hj,hq=>by
  have hlen:=zT ch m;have hl:Ac (rN (λk=>decide (k<at')) (n! ch m) m)=(m.length:Int):=by rw[Ac,ZH,hlen]
  rw[EF,qW,hl];by_cases h:at'<m.length
  ·have hb:=S9 ha hm h;obtain⟨j,rfl⟩:∃k,j=k+1:=⟨j-1,F0⟩;have e1:Ap (Af (at':Int) (ch:Int)-(at':Int)) 1=((ch-1:Nat):Int):=by rw[Ag,Ca];omega
   have e2:Af (at':Int) (ch:Int)-(at':Int)=(ch:Int):=by rw[Ag];omega
   have e4:Af (at':Int) (ch:Int)=((at'+ch:Nat):Int):=by rw[Ag];omega
   have hi:=Acl ch m (EF (ch:Int) q) at' h1 h6 ha hb hl2 (ch-1) As F0 F7;have hrest:=wm h1 h6 hm hl2 j (at'+ch) q (by rw[U6,ha]) hb F0 F0;have hstart:sP (EF (ch:Int) q) (ch:Int) (at':Int) (rN (λk=>decide (k<at'\/ (at'+(ch-1)<=k/\k<at'+ch))) (n! ch m) m)=some (n! ch m,0):=by
    have e6:Ap ((ch-1:Nat):Int) 1=((ch-1:Nat):Int)-1:=Ca;rw[sP,qQ,rA,e1,e6];exact D9 hi hrest
   rw[B6 F9,show pE (m.length:Int) (at':Int) (Af (at':Int) (ch:Int))=some () by rw[e4,pE,E1];omega,Aa,e1,e2];have hlast:=V' (m:=m) ha (show ch-1<ch by omega) F0;rw[show ch-1-(ch-1)=0 by omega,unV]at hlast;by_cases hc:1<ch
   ·have e5:Ap ((ch-1:Nat):Int) 1=((ch-2:Nat):Int):=by rw[Ca];omega
    rw[B6 hc]at hlast;rw[B6 E5,E1 F0,Aa,e5,E1 F0,Aa,show(at':Int)+((ch-1:Nat):Int)=((at'+(ch-1):Nat):Int) by omega,show(at':Int)+((ch-2:Nat):Int)=((at'+(ch-2):Nat):Int) by omega,
     OW F0,Aa,OW F0,Aa,Aa,B! B8,B! B8,oI,<-hlast,sW F0,Aa]
    rw[<-hstart];congr 1;apply FW;intro k _;rw[C?];simp;omega
   ·have hc1:ch=1:=F0
    rw[B! E5,<-hstart];congr 1;rw[B! hc]at hlast;apply Vh;intro k hk;by_cases hk2:k=at'
    ·subst hk2;rw[B! B8,B6 F6];rw[show k+(ch-1)=k by omega]at hlast;exact hlast.symm
    ·by_cases hk3:k<at'
     ·rw[B6 F6,B6 F6]
     ·rw[B! F6,B! F6]
  ·rw[B! F9,A3 (λk hk=>by simp;omega)];rfl
theorem Ax2(h1:1<=ch)(h6:ch<=6)(hm:m.length %ch=0)(hl2:m.length<=4000):Q4 (ch:Int) m=some (n! ch m,0):=by
 have hlen:=zT ch m;have h:=wm ch m h1 h6 hm hl2 m.length 0 As B8 F0 F0 F7;rw[Q4,yV,Ag7 ch m h1 h6 hm hl2,Aa,B! D7,Dx,Ay F6,Aa,Aa,I0,Adq];rw[vZ hlen.symm (λk _=>by simp)]at h;exact h
end
def mq(f:Nat->Int32)(ch:Nat):LX:=(List.range ch).map λi=>unV f ch (ch-1-i)
theorem pG(f:Nat->Int32)(ch:Nat):(mq f ch).length=ch:=by simp[mq]
theorem V2(f:Nat->Int32){ch i:Nat}(h:i<ch):(mq f ch).getD i 0=unV f ch (ch-1-i):=by
 rw[If (by rw[pG];exact h)];simp[mq]
theorem U5(a b:Int32):Cf (Ap (Ae a:Int) (Ae b:Int))=some (a-b):=by
 have:=EW a;have:=EW b;rw[Fq,Fq,Ca,S8,jy,N5,N5]
theorem Aq5(a b:Int32):Cf (Af (Ae a:Int) (Bs (Ae b:Int) (2:Int)))=some (a+Bs b (2:Int32)):=by
 have:=EW a;have hb:=EW b;have hd: -2147483648<=b.toInt.tdiv 2/\b.toInt.tdiv 2<=2147483648:=by
  rw[cW,show Int.sign 2=1 from rfl];by_cases h:0<=b.toInt\/2∣b.toInt
  ·rw[B6 h];omega
  ·rw[B! h];omega
 have e:Bs b (2:Int32)=Int32.ofInt (b.toInt.tdiv 2):=rfl;rw[Fq,Fq,YC,Dp F0 F0,Ag,S8,uZ,N5,e]
theorem Ac7(seg z:LX)(ch:Nat)(h6:ch<=6)(hs:seg.length=ch)(hz:z.length=ch):∀(i q:Nat),i+1<=ch->i<q->
  Iw seg q ((i:Int)-1) (rN (λk=>decide (i<=k)) (mq (λi=>seg.getD i 0) ch) z)=some (mq (λi=>seg.getD i 0) ch)
 |0,q+1,hi,_=>by
  rw[Iw,Ta,B! IZ,A3 (λk hk=>by simp)];rfl
 |i+1,q+1,hi,hq=>by
  have hlen:=pG (λi=>seg.getD i 0) ch;have e3:Af (i:Int) 1=((i+1:Nat):Int):=by rw[Ag];omega
  have hv:(mq (λi=>seg.getD i 0) ch).getD (i+1) 0-seg.getD i 0=(mq (λi=>seg.getD i 0) ch).getD i 0:=by
   rw[V2 _ F0,V2 _ F0,show ch-1-i=(ch-1-(i+1))+1 by omega,unV,show ch-2-(ch-1-(i+1))=i by omega]
  rw[Iw,Ta,show((i+1:Nat):Int)-1=(i:Int) by omega,B6 IZ,e3,OW F0,Aa,D_ F0,Aa,Aa,B6 B8,U5,Aa,OW F0,Aa,hv,sW F0,Aa,Ca];have ih:=Ac7 seg z ch h6 hs hz i q F0 F0;rw[<-ih];congr 1;apply FW;intro k _;rw[C?];simp;omega
theorem Ai0{l:LX}{i:Nat}(v:Int32)(h:i<l.length):(l.set i v).getD i 0=v:=by
 rw[If (by rw[P4];exact h)];simp
theorem Akg(seg:LX)(ch:Nat)(h1:1<=ch)(h6:ch<=6)(hs:seg.length=ch):Zc seg=some (mq (λi=>seg.getD i 0) ch):=by
 have hlen:=pG (λi=>seg.getD i 0) ch;have hzl:(List.replicate ch (0:Int32)).length=ch:=by simp
 have e1:Ap (Ac seg) 1=((ch-1:Nat):Int):=by rw[Ac,hs,Ca];omega
 have e2:Ap (Ac seg) 2=((ch-1:Nat):Int)-1:=by rw[Ac,hs,Ca];omega
 have hlast:=V2 (λi=>seg.getD i 0) (show ch-1<ch by omega);rw[show ch-1-(ch-1)=0 by omega,unV]at hlast;have hend:∀z:LX,z.length=ch->z.getD (ch-1) 0=(mq (λi=>seg.getD i 0) ch).getD (ch-1) 0->BR seg z=some (mq (λi=>seg.getD i 0) ch):=by
  intro z hz hzl;have h:=Ac7 seg z ch h6 hs hz (ch-1) As F0 F7;have e:rN (λk=>decide (ch-1<=k)) (mq (λi=>seg.getD i 0) ch) z=z:=by
   apply M? (by rw[ZH,hlen,hz]);intro k k1 k2;rw[DH];by_cases hk:ch-1<=k
   ·obtain rfl:k=ch-1:=F0
    rw[B6 B8,<-hzl,If k2]
   ·rw[B! (by simpa using hk),If k2]
  rw[e]at h;rw[BR,DB,e2];exact h
 rw[Zc,BK,Ac,hs,yF,Aa,Bz T8,Aa];rw[Ac,hs]at e1;rw[Ac,hs]at e2;have hz1:(List.replicate (Int.toNat (ch:Int)) (0:Int32)).length=ch:=by simp
 have hs1:=D_ (l:=seg) (k:=ch-1) F0;rw[e1,hs1,Aa,D_ F0,Aa,Zv _ F0,Aa];by_cases hc:1<ch
 ·rw[B6 hc]at hlast;have e3:((ch-1:Nat):Int)-1=((ch-2:Nat):Int):=F0
  have hs2:=D_ (l:=seg) (k:=ch-2) F0;rw[B6 E5,Aa,e2,e3,hs2,Aa,Aq5,Aa,D_ (by rw[P4];omega),Aa,Zv _ (by rw[P4];omega),Aa];refine hend _ B8 ?_;rw[hlast,Ai0 _ (by rw[P4];omega)]
 ·rw[B! hc]at hlast;rw[B! E5];refine hend _ B8 ?_;rw[hlast,Ai0 _ F0]
theorem Aog(ch:Nat)(m:LX)(h1:1<=ch)(h6:ch<=6)(hm:m.length %ch=0)(hl2:m.length<=4000):Mh (ch:Int) m=some 0:=by
 rw[Mh,B! H7,B! D!,Bz E?,Aa,B!];rw[Ar,Gx,Ac,<-bK,hm];simp
theorem Bc5(ch:Nat)(m:LX)(h1:1<=ch)(h6:ch<=6)(hm:m.length %ch=0)(hl2:m.length<=4000):∀(j at' q:Nat),at' %ch=0->at'<=m.length->m.length-at'<=j->j<q->
  Rs (ch:Int) m q (at':Int) ((n! ch m).take at')=some (n! ch m,0)
 |j,at',q+1,ha,hle,hj,hq=>by
  have hlen:=zT ch m;rw[Rs,KT];by_cases h:at'<m.length
  ·have hb:=S9 ha hm h;have e4:Af (at':Int) (ch:Int)=((at'+ch:Nat):Int):=by rw[Ag];omega
   have hrest:=Bc5 ch m h1 h6 hm hl2 (j-1) (at'+ch) q (by rw[U6,ha]) hb F0 F0;have hseg:((m.take (at'+ch)).drop at').length=ch:=by simp;omega
   have htl:((n! ch m).take at').length=at':=by simp[hlen];omega
   rw[B6 F2,e4,TF,Aa,show((at'+ch:Nat):Int).toNat=at'+ch from rfl,show(at':Int).toNat=at' from rfl,Akg _ ch h1 h6 hseg,Aa,Ay (by rw[htl,pG];omega),Aa];have e:(n! ch m).take at'++mq (λi=>((m.take (at'+ch)).drop at').getD i 0) ch=(n! ch m).take (at'+ch):=by
    apply M? (by rw[B9,htl,pG,C8,hlen];omega);intro k k1 k2;rw[C8,hlen]at k2;rw[List.getElem_append,U7];by_cases hk:k<at'
    ·rw[dif_pos (by rw[htl];exact hk),U7]
    ·rw[dif_neg (by rw[htl];exact hk)];have hu:=V' (m:=m) ha (show k-at'<ch by omega) F0;rw[show at'+(k-at')=k by omega,If F0]at hu;have hx:∀n,n<=ch->unV (λi=>((m.take (at'+ch)).drop at').getD i 0) ch n=unV (λi=>m.getD (at'+i) 0) ch n:=by
      have hf:∀i,i<ch-> ((m.take (at'+ch)).drop at').getD i 0=m.getD (at'+i) 0:=by
       intro i hi;rw[If F0,If F0];simp
      intro n
      induction n with
      |zero=>
       intro _;rw[unV,unV,hf _ F0];split
       ·rw[hf _ F0]
       ·rfl
      |succ n ih=>intro hn;rw[unV,unV,ih F0,hf _ F0]
     have hy:=V2 (λi=>((m.take (at'+ch)).drop at').getD i 0) (show k-at'<ch by omega);rw[If (by rw[pG];omega)]at hy;rw[hu,<-hx _ F0,<-hy];congr 1;rw[htl]
   rw[e];exact hrest
  ·rw[B! F2,H? F0];rfl
theorem Aqu(ch:Nat)(m:LX)(h1:1<=ch)(h6:ch<=6)(hm:m.length %ch=0)(hl2:m.length<=4000):IB (ch:Int) m=some (n! ch m,0):=by
 have h:=Bc5 ch m h1 h6 hm hl2 m.length 0 As B8 F0 F0 F7;rw[IB,JM,Aog ch m h1 h6 hm hl2,Aa,B! D7];exact h
def pre{α:Type}(ch c:Nat)(f:α->Nat->α)(a0:α):Nat->α
 |0=>a0
 |m+1=>if m %ch=c then f (pre ch c f a0 m) m else pre ch c f a0 m
theorem oR{α:Type}(ch c:Nat)(f:α->Nat->α)(a0:α):∀m,m<=c->c<ch->pre ch c f a0 m=a0
 |0,_,_=>rfl
 |m+1,h,h2=>by rw[pre,B! (by rw[C3 F0];omega),oR ch c f a0 m F0 h2]
theorem Af4{α:Type}(ch c i:Nat)(f:α->Nat->α)(a0:α)(hi:i %ch=c)(hc:c<ch):∀j,j<ch->pre ch c f a0 (i+1+j)=pre ch c f a0 (i+1)
 |0,_=>rfl
 |j+1,h=>by
  have hne:(i+1+j) %ch≠c:=by
   intro e;have h1:(i+(1+j)) %ch=i %ch:=by rw[hi,<-e];congr 1;omega
   have h2:(1+j) %ch=0:=by
    have h3:=jd h1;rwa [VH]at h3
   rw[C3 F0]at h2;omega
  rw[show i+1+(j+1)=(i+1+j)+1 by omega,pre,B! hne,Af4 ch c i f a0 hi hc j F0]
theorem Ahb(ch c i:Nat)(f:α->Nat->α)(a0:α)(hi:i %ch=c)(hc:c<ch):pre ch c f a0 (i+ch)=f (pre ch c f a0 i) i:=by
 have h:=Af4 ch c i f a0 hi hc (ch-1) F0;rw[show i+1+(ch-1)=i+ch by omega]at h;rw[h,pre,B6 hi]
abbrev CS:=Int32×LX×LX
def ZN(bits:Int)(s:CS)(y:Int32):Int32:=y+gF (sB bits) s.2.1 s.2.2+gs (shB bits) s.1
def R8(bits:Int)(s:CS)(y:Int32):CS:=(ZN bits s y,oq s.2.1 s.2.2 y,(y+gF (sB bits) s.2.1 s.2.2)::s.2.2.take 15)
def cst(bits:Int)(ch:Nat)(t:LX)(v:LU)(c:Nat):Nat->CS:=pre ch c (λs i=>R8 bits s (cQ (v.getD i 0))) (0,t,List.replicate 16 0)
def OkC(bits:Int)(s:CS):Prop:=OkF (sB bits) s.2.1 s.2.2
theorem z? (bits:Int)(ch:Nat){t:LX}(ht:t.length=16)(v:LU)(c:Nat):∀m,OkC bits (cst bits ch t v c m)
 |0=>⟨Bew bits,ht,by simp[cst,pre]⟩
 |m+1=>by
  have ih:=z? bits ch ht v c m;rw[cst,pre];split
  ·exact As9 ih _ _
  ·exact ih
def smp(bits:Int)(ch:Nat)(t:LX)(v:LU):LX:=(List.range v.length).map λi=>ZN bits (cst bits ch t v (i %ch) i) (cQ (v.getD i 0))
theorem A5(bits:Int)(ch:Nat)(t:LX)(v:LU):(smp bits ch t v).length=v.length:=by simp[smp]
theorem Aow(bits:Int)(ch:Nat)(t:LX)(v:LU){i:Nat}(h:i<v.length):(smp bits ch t v).getD i 0=ZN bits (cst bits ch t v (i %ch) i) (cQ (v.getD i 0)):=by
 rw[If (by rw[A5];exact h)];simp[smp]
abbrev CL:=Int×Int32×(Int×LX×LX×Unit)×Unit
def toC(bits:Int)(s:CS):CL:=(bits,s.1,(sB bits,s.2.1,s.2.2,()),())
def cts(bits:Int)(ch:Nat)(t:LX)(v:LU)(i:Nat):List CL:=(List.range 6).map λc=>toC bits (cst bits ch t v c i)
theorem Ao4{bits:Int}{ch:Nat}{t:LX}{v:LU}{i c:Nat}(h:c<6):Aj (cts bits ch t v i) (c:Int)=some (toC bits (cst bits ch t v c i)):=by
 rw[Bl (by simp[cts];exact h)];simp[cts]
theorem Ag4(bits:Int)(ch:Nat)(t:LX)(v:LU)(c m:Nat):cst bits ch t v c (m+1)=if m %ch=c then R8 bits (cst bits ch t v c m) (cQ (v.getD m 0))else cst bits ch t v c m:=rfl
theorem Aoj{bits:Int}{ch:Nat}{t:LX}{v:LU}{i c:Nat}(h:c<6)(hc:i %ch=c):Rn (cts bits ch t v i) (c:Int) (toC bits (R8 bits (cst bits ch t v c i) (cQ (v.getD i 0))))=some (cts bits ch t v (i+1)):=by
 rw[Zv _ (by simp[cts];exact h)];congr 1;apply M? (by simp[cts]);intro k h1 h2;rw[W?];simp only[cts,RM,RI];by_cases hk:c=k
 ·subst hk;rw[B6 rfl,Ag4,B6 hc]
 ·rw[B! hk,Ag4,B! F0]
section
variable {bits:Int} {ch:Nat} {t:LX} {v:LU}
theorem Agi(hb:Bq bits)(ht:t.length=16)(h1:1<=ch)(h6:ch<=6)(hv:v.length<=4000):∀(j i q:Nat),i+j=v.length->j<q->
  Pk v (ch:Int) bits q (i:Int) (cts bits ch t v i) ((smp bits ch t v).take i)=Tv (ch:Int) bits (smp bits ch t v)
 |0,i,q+1,hi,_=>by
  rw[Pk,Tu,B! F2,H? (by rw[A5];omega)]
 |j+1,i,q+1,hi,hq=>by
  have hlen:=A5 bits ch t v;have hc:i %ch<6:=I6 (IV _ F0) h6;have hok:=z? bits ch ht v (i %ch) i;have hs:=Aoj (bits:=bits) (ch:=ch) (t:=t) (v:=v) (i:=i) hc rfl;have hx:=Aow bits ch t v (i:=i) F0;have hcb:=Aqc hb hok (cst bits ch t v (i %ch) i).1 (cQ (v.getD i 0));have ih:=Agi hb ht h1 h6 hv j (i+1) q F0 F0;rw[Ho F0,<-If F0,hx]at ih;rw[Pk,Tu,B6 F2,jA F0,Aa,Bz E?,Aa,GF,Ao4 hc,Aa,Aa,Aup,Aa];refine D9 (congrArg (λo=>Option.bind o _) hcb) ?_;rw[Aa];simp only;rw[NA,Amp,B! D7,GF];refine D9 (congrArg (λo=>Option.bind o _) hs) ?_;rw[Aa,Ay F6,Aa,Ag];exact ih
theorem Ary(hb:Bq bits)(ht:t.length=16)(h1:1<=ch)(h6:ch<=6)(hv:v.length<=4000):FL (ch:Int) bits t v=Tv (ch:Int) bits (smp bits ch t v):=by
 have h:=Agi hb ht h1 h6 hv v.length 0 As F0 F7;have e:As=(As-7)+1+1+1+1+1+1+1:=by have:=Aq;omega
 have hs:NF v (ch:Int) bits t 0 (List.replicate 6 ((0:Int),(0:Int32),((0:Int),(List.replicate 16 (0:Int32)),(List.replicate 16 (0:Int32)),()),()))=Ant v (ch:Int) bits (cts bits ch t v 0):=by
  rw[NF,e];obtain rfl|rfl|rfl:=hb<;>rfl
 rw[FL,QF,hs];exact h
theorem v_(bk:Int->LX->Option LX)(hb:Bq bits)(ht:t.length=16)(h1:1<=ch)(h6:ch<=6)(hv:v.length<=4000)(z:LX)(c:Nat)(hc:c<ch):∀(j i q:Nat),i %ch=c->v.length-i<=j->i<=5000->j<q->
  Nk bk v (ch:Int) bits t (c:Int) q (i:Int) (rN (λk=>decide (k %ch<c\/ (k %ch=c/\k<i))) (smp bits ch t v) z) bits (cst bits ch t v c i).1 (sB bits) (cst bits ch t v c i).2.1 (cst bits ch t v c i).2.2=
   bk ((c+1:Nat):Int) (rN (λk=>decide (k %ch<c+1)) (smp bits ch t v) z)
 |j,i,q+1,hi,hj,hi5,hq=>by
  have hlen:=A5 bits ch t v;rw[Nk,Sr];by_cases h:i<v.length
  ·have hok:=z? bits ch ht v c i;have hst:=Ar4 hb hok (cst bits ch t v c i).1 (cQ (v.getD i 0));have hx:=Aow bits ch t v (i:=i) h;rw[hi]at hx;have ih:=v_ bk hb ht h1 h6 hv z c hc (j-1) (i+ch) q (by rw[U6];exact hi) F0 F0 F0;have H2:cst bits ch t v c (i+ch)=R8 bits (cst bits ch t v c i) (cQ (v.getD i 0)):=Ahb ch c i _ _ hi hc;rw[H2]at ih;have hset:=sW (p:=λk=>decide (k %ch<c\/ (k %ch=c/\k<i))) (a:=smp bits ch t v) (b:=z) (k:=i) F0;rw[hx]at hset;have zC:rN (λj=>decide (j %ch<c\/ (j %ch=c/\j<i))||decide (j=i)) (smp bits ch t v) z=rN (λk=>decide (k %ch<c\/ (k %ch=c/\k<i+ch))) (smp bits ch t v) z:=by
    apply FW;intro k _;rw[C?];simp only[HU,B?];constructor
    ·rintro((h1|h1)|h1)
     ·exact .inl h1
     ·exact .inr ⟨h1.1,F0⟩
     ·subst h1;exact .inr ⟨hi,F0⟩
    ·rintro(h1|⟨h1,h2⟩)
     ·exact .inl (.inl h1)
     ·by_cases h3:k<i
      ·exact .inl (.inr ⟨h1,h3⟩)
      ·refine .inr ?_;have h4:(i+(k-i)) %ch=i %ch:=by rw[show i+(k-i)=k by omega,h1,hi]
       have h5:=jd h4;rw[VH,C3 F0]at h5;omega
   rw[zC]at hset;rw[B6 F2,jA h,Aa,Axx,Aa];refine D9 (congrArg (λo=>Option.bind o _) hst) ?_;rw[Aa];simp only;rw[CT,Acv,OW F0,Aa];refine D9 (congrArg (λo=>Option.bind o _) hset) ?_;rw[Aa,Ace,Acj,Ag];exact ih
  ·rw[B! F2,BN,Acy,Ag];have zC:rN (λk=>decide (k %ch<c\/ (k %ch=c/\k<i))) (smp bits ch t v) z=rN (λk=>decide (k %ch<c+1)) (smp bits ch t v) z:=by
    apply FW;intro k hk;rw[C?];simp only[B?];omega
   rw[zC];rfl
theorem yh(hb:Bq bits)(ht:t.length=16)(h1:1<=ch)(h6:ch<=6)(hv:v.length<=4000)(z:LX):∀(j c q:Nat),c+j=ch->j<q->
  Gf v (ch:Int) bits t q (c:Int) (rN (λk=>decide (k %ch<c)) (smp bits ch t v) z)=Sn (ch:Int) bits (smp bits ch t v)
 |0,c,q+1,hc,_=>by
  rw[Gf,So,B! F9,A3 (λk hk=>by have:=IV k (show 0<ch by omega);simp;omega)]
 |j+1,c,q+1,hc,hq=>by
  have ih:=yh hb ht h1 h6 hv z j (c+1) q F0 F0;have hin:=v_ (Gf v (ch:Int) bits t q) hb ht h1 h6 hv z c F0 v.length c As (C3 F0) F0 F0 F7;have h0:cst bits ch t v c c=(0,t,List.replicate 16 0):=oR ch c _ _ c (D3 _) F0;rw[h0]at hin;have zC:rN (λk=>decide (k %ch<c\/ (k %ch=c/\k<c))) (smp bits ch t v) z=rN (λk=>decide (k %ch<c)) (smp bits ch t v) z:=by
   apply FW;intro k hk;have:=O1 k ch;rw[C?];simp only[B?];omega
  rw[zC]at hin;rw[Gf,So,B6 F9,Baw hb,Aa];simp only;rw[CJ];exact D9 hin ih
theorem Aq8(hb:Bq bits)(ht:t.length=16)(h1:1<=ch)(h6:ch<=6)(hv:v.length<=4000)(hm:v.length %ch=0):Pr (ch:Int) bits t v=some (n! ch (smp bits ch t v)):=by
 have hlen:=A5 bits ch t v;have h:=yh hb ht h1 h6 hv (List.replicate v.length 0) ch 0 As F0 F7;rw[vZ (by rw[hlen];simp) (λk _=>by simp)]at h;rw[Pr,DS,Ac,yF,Aa,Bz T8,Aa,Ad8];refine D9 h ?_;rw[Sn,Acw,Aqu ch _ h1 h6 (by rw[hlen];exact hm) F0,Aa]
end
def hB(bits:Int):Int:=if bits=8 then 128 else if bits=16 then 32768 else 8388608
theorem G!{bits:Int}(h:Bq bits):Sd bits=some (Int32.ofInt (-(hB bits)),Int32.ofInt (hB bits-1),0):=by
 obtain rfl|rfl|rfl:=h<;>decide
theorem oS{bits:Int}(h:Bq bits):Gt bits=some (hB bits):=by
 obtain rfl|rfl|rfl:=h<;>rfl
theorem XU(bits:Int):0<hB bits/\hB bits<=8388608:=by
 unfold hB;split; · omega
 ·split<;>omega
theorem Ba9{bits:Int}(h:Bq bits)(l:LX)(hl:l.length<=4000):∀(j i q:Nat),i+j=l.length->j<q->
  BP (Int32.ofInt (-(hB bits))) (Int32.ofInt (hB bits-1)) l q (i:Int)=Bp l (hB bits) q (i:Int)
 |0,i,q+1,hi,_=>by
  rw[BP,SX,Bp,Ee,B! F2,B! F2];rfl
 |j+1,i,q+1,hi,hq=>by
  have hh:=XU bits;have ih:=Ba9 h l hl j (i+1) q F0 F0;have e1:(Int32.ofInt (-(hB bits))).toInt= -(hB bits):=by rw[RJ,cU (by show -(4294967296/2:Int)<= _;omega) (by show _<(4294967296+1)/2;omega)]
  have e2:(Int32.ofInt (hB bits-1)).toInt=hB bits-1:=by rw[RJ,cU (by show -(4294967296/2:Int)<= _;omega) (by show _<(4294967296+1)/2;omega)]
  rw[BP,SX,Bp,Ee,B6 F2,B6 F2,D_ F0,Aa,Aa,Aa,Fq,f?,Dp F0 F0,Ag,fL,p?,e1,e2,Ad,De];generalize(l.getD i 0).toInt=X;by_cases h1:X< -(hB bits)
  ·rw[B6 F6,B6 F6]
  ·rw[B! (c:=decide (X<0-hB bits)=true) F6];by_cases h2:hB bits<=X
   ·rw[B6 F6,B6 F6]
   ·rw[B! F6,B! F6];exact ih
theorem iF{bits:Int}(h:Bq bits)(l:LX)(hl:l.length<=4000):DI bits l=Bd bits l:=by
 have hh:=XU bits;rw[DI,iA,G! h,Aa,Bd,Hy,oS h,Aa];simp only;rw[B! D7,B! D!,B! G2,B! D!];exact Ba9 h l hl l.length 0 As F0 F7
theorem M5{bits:Int}(h:Bq bits)(l:LX)(hl:l.length<=4000):∃e,Bd bits l=some e:=by
 have hh:=XU bits;have key:∀(j i q:Nat),i+j=l.length->j<q->∃e,Bp l (hB bits) q (i:Int)=some e:=by
  intro j
  induction j with
  |zero=>
   intro i q hi hq;obtain⟨q,rfl⟩:∃k,q=k+1:=⟨q-1,F0⟩;rw[Bp,Ee,B! F2];exact⟨_,rfl⟩
  |succ j ih=>
   intro i q hi hq;obtain⟨q,rfl⟩:∃k,q=k+1:=⟨q-1,F0⟩;rw[Bp,Ee,B6 F2,D_ F0,Aa,Aa,Ag];split
   ·exact⟨_,rfl⟩
   ·split
    ·exact⟨_,rfl⟩
    ·exact ih (i+1) q F0 F0
 obtain⟨e,he⟩:=key l.length 0 As F0 F7;rw[Bd,Hy,oS h,Aa,B! G2,B! D!];exact⟨e,he⟩
theorem Acn{bits:Int}{ch:Nat}{t:LX}{v:LU}(hb:Bq bits)(ht:t.length=16)(h1:1<=ch)(h6:ch<=6)(hv:v.length<=4000)(hm:v.length %ch=0):
  ∃l e,Pr (ch:Int) bits t v=some l/\Uk (ch:Int) bits l=some (if e≠0 then([],e)else(l,0))/\FL (ch:Int) bits t v=some (if e≠0 then([],e)else(l,0))/\Bd bits l=some e/\l.length=v.length:=by
 have hlen:=A5 bits ch t v;have hul:=zT ch (smp bits ch t v);obtain⟨e,he⟩:=M5 hb (n! ch (smp bits ch t v)) F0;refine⟨n! ch (smp bits ch t v),e,Aq8 hb ht h1 h6 hv hm,?_,?_,he,F0⟩
 ·rw[Uk,he,Aa];by_cases h:e=0
  ·rw[B! (by rw[Am];simpa using h),B! (by simpa using h)]
  ·rw[B6 (by rw[Am];simpa using h),B6 h]
 ·rw[Ary hb ht h1 h6 hv,Tv,Alx,Ax2 ch _ h1 h6 (by rw[hlen];exact hm) F0,Aa];simp only;rw[B! D7,iF hb _ F0,he,Aa];by_cases h:e=0
  ·rw[B! (by rw[Am];simpa using h),B! (by simpa using h)]
  ·rw[B6 (by rw[Am];simpa using h),B6 h]
def wY(s:Nat):Nat:=(s/2)^^^ (if s %2=1 then 3988292384 else 0)
theorem l? {s:Nat}(h:s<4294967296):wY s<4294967296:=by
 unfold wY;exact OC (n:=32) F6 (by split<;>decide)
theorem Aho(x y:Nat):(x^^^y)/2=(x/2)^^^ (y/2):=by
 have:=Bj6 (a:=x) (b:=y) (i:=1);simpa [Bkf]using this
theorem Aqy(x y:Nat):wY (x^^^y)=wY x^^^wY y:=by
 have h:(x^^^y) %2=(x %2+y %2) %2:=by
  have:=Nat.xor_mod_two_eq_one (a:=x) (b:=y);have h1:(x^^^y) %2<2:=IV _ F0;omega
 simp only[wY,Aho,h];have hx:x %2=0\/x %2=1:=F0
 have hy:y %2=0\/y %2=1:=F0
 rcases hx with hx|hx<;>rcases hy with hy|hy<;>simp only[hx,hy]<;>simp
 ·rw[NY]
 ·rw[NY,WA (y/2),NY,WA 3988292384 (y/2)]
 ·rw[NY,WA 3988292384,NY,Nat.xor_self];simp
def MN:Nat->Nat->Nat
 |0,s=>s
 |k+1,s=>MN k (wY s)
theorem yP:∀(k x y:Nat),MN k (x^^^y)=MN k x^^^MN k y
 |0,_,_=>rfl
 |k+1,x,y=>by rw[MN,Aqy,yP k];rfl
theorem wu:∀(k h:Nat),MN k (2^k*h)=h
 |0,h=>by simp[MN]
 |k+1,h=>by
  have:wY (2^(k+1)*h)=2^k*h:=by
   rw[G1,E! (2^k) 2,IF,wY,B! F0,Bko _ F0];simp
  rw[MN,this,wu k]
theorem l_:∀(k:Nat) {s:Nat},s<4294967296->MN k s<4294967296
 |0,_,h=>h
 |k+1,_,h=>l_ k (l? h)
def sw(s c:Nat):Nat:=MN 8 (s^^^c)
theorem g_{s c:Nat}(h:s<4294967296)(hc:c<256):sw s c<4294967296:=l_ 8 (OC (n:=32) (by simpa using h) F6)
theorem Ahm{s c:Nat}(hc:c<256):sw s c=(s/256)^^^MN 8 ((s %256)^^^c):=by
 have h:s=(2^8*(s/256))^^^ (s %256):=by
  have h1:s %256<2^8:=by simpa using IV s (by omega:256>0)
  have:=SW h1 (s/256);have h2:2^8*(s/256)|||s %256=(2^8*(s/256))^^^ (s %256):=by
   apply uS;intro i;rw[Nat.testBit_or,Nat.testBit_xor];by_cases hi:i<8
   ·have:(2^8*(s/256)).testBit i=false:=by rw[Bkp];simp;omega
    rw[this];simp
   ·have:(s %256).testBit i=false:=Nat.testBit_lt_two_pow (I6 h1 (E4 F0 F0));rw[this];simp
  omega
 rw[sw]
 conv=>lhs;rw[h]
 rw[NY,yP,wu]
def WU(s:Nat)(l:LB):Nat:=l.foldl (λs c=>sw s c.toNat) s
def Fw(b:LB):UInt32:=4294967295-UInt32.ofNat (WU 4294967295 b)
theorem Axt(s:UInt32)(c:Nat)(hc:c<256):IP s (Ae (FP (UInt8.ofNat c) (2:UInt8)):Int)=some (UInt32.ofNat (s.toNat/2^^^ (if(s.toNat^^^c) %2=1 then 3988292384 else 0))):=by
 have h1:(Ae (FP (UInt8.ofNat c) (2:UInt8)):Int)=((c %2:Nat):Int):=by
  rw[YB,Aop,uV,I?];show((c %256 %2:Nat):Int)=_;omega
 have h2:geq (FP s (2:UInt32)) (1:UInt32)=decide (s.toNat %2=1):=by
  rw[mV,Agt,C?];simp only[E3,B?];rw[<-kK,v?];rfl
 have h3:Bs s (2:UInt32)=UInt32.ofNat (s.toNat/2):=by
  apply UInt32.toNat_inj.1;rw[Ag3,UInt32.toNat_div,G3]
  show s.toNat/2=_;have:=s.toNat_lt;omega
 have h4:KR (Bs s (2:UInt32)) (3988292384:UInt32)=UInt32.ofNat (s.toNat/2^^^3988292384):=by
  apply UInt32.toNat_inj.1;rw[h3,oF,XG,G3,G3];have:=s.toNat_lt;rw[C3 (a:=s.toNat/2) F0,C3]
  ·rfl
  ·exact OC (n:=32) F0 F5
 have hx:(s.toNat^^^c) %2=(s.toNat %2+c %2) %2:=by
  have:=Nat.xor_mod_two_eq_one (a:=s.toNat) (b:=c);have h1:(s.toNat^^^c) %2<2:=IV _ F0;omega
 have hs:s.toNat %2=0\/s.toNat %2=1:=F0
 have hc2:c %2=0\/c %2=1:=F0
 rw[IP,Aka,h1,h2,hx];rcases hs with hs|hs<;>rcases hc2 with hc2|hc2<;>simp[hs,hc2,Ax,Ake,Akw,oF,h3]
theorem Bcp:∀(j i q:Nat) (s:UInt32) (c:Nat),i+j=8->j<q->c<2^j->Nd q s (UInt8.ofNat c) (i:Int)=some (UInt32.ofNat (MN j (s.toNat^^^c)))
 |0,i,q+1,s,c,hi,_,hc=>by
  obtain rfl:i=8:=F0
  obtain rfl:c=0:=by simpa using hc
  rw[Nd,Zg,B! I!,KW,Alc,MN];simp
 |j+1,i,q+1,s,c,hi,hq,hc=>by
  have hc8:c<256:=I6 hc (show 2^(j+1)<=2^8 from E4 F0 F0);rw[Nd,Zg,B6 F9,Axt s c hc8,Aa,Ag];have e:Bs (UInt8.ofNat c) (2:UInt8)=UInt8.ofNat (c/2):=by
   apply UInt8.toNat_inj.1;rw[Ayy,UInt8.toNat_div,I?,I?]
   show c %256/2=_;omega
  rw[e];have h:=Bcp j (i+1) q (UInt32.ofNat (s.toNat/2^^^ (if(s.toNat^^^c) %2=1 then 3988292384 else 0))) (c/2) F0 F0 (by rw[G1]at hc;omega);rw[show((i:Int)+1)=((i+1:Nat):Int) by omega,h,G3,MN];congr 3;have:=s.toNat_lt;rw[C3,wY,Aho,NY,NY,WA (c/2)];exact OC (n:=32) F0 (by split<;>decide)
theorem Ayv(s:UInt32)(c:UInt8):VA s c=some (UInt32.ofNat (sw s.toNat c.toNat)):=by
 have h:=Bcp 8 0 As s c.toNat F0 F7 (by simpa using c.toNat_lt);rw[UInt8.ofNat_toNat]at h;exact h
theorem Aaf(b:LB)(hb:b.length<4611686018427387904):∀(j i q:Nat) (s:UInt32),i+j=b.length->j<q->Km b q s (i:Int)=some (UInt32.ofNat (WU s.toNat (b.drop i)))
 |0,i,q+1,s,hi,_=>by
  rw[Km,Up,B! F2,show i=b.length by omega,OH];simp[FH,Aea,WU]
 |j+1,i,q+1,s,hi,hq=>by
  have hlt:i<b.length:=F0
  rw[Km,Up,B6 F2,Bl hlt,Aa,Ayv,Aa,Ag];have h:=Aaf b hb j (i+1) q (UInt32.ofNat (sw s.toNat b[i].toNat)) F0 F0;rw[show((i:Int)+1)=((i+1:Nat):Int) by omega,h,drop_cons hlt,G3,C3 (g_ s.toNat_lt b[i].toNat_lt)];rfl
theorem gP(b:LB)(hb:b.length<4611686018427387904):Js b=some (Fw b):=by
 have h:=Aaf b hb b.length 0 As 4294967295 F0 F7;rw[Js,MR,DW,Aeq,show((0:Int))=((0:Nat):Int)from rfl,h,Aa,s_];rfl
theorem Azi(c:UInt32):KR (Cx c (GI.toZ (1:UInt64)).toNat) (Bn (3988292384:UInt32) (Gv c (1:UInt32)))=UInt32.ofNat (wY c.toNat):=by
 apply UInt32.toNat_inj.1;have e:(GI.toZ (1:UInt64)).toNat=1:=rfl;have h1:(Cx c 1).toNat=c.toNat/2:=by rw[ZO]
 have h2:(Bn (3988292384:UInt32) (Gv c (1:UInt32))).toNat=if c.toNat %2=1 then 3988292384 else 0:=by
  rw[Ajj,Q!,UInt32.toNat_mul,kH]
  show 3988292384*(c.toNat&&&1) %4294967296=_;rw[um];have:c.toNat %2=0\/c.toNat %2=1:=F0
  rcases this with h|h<;>simp[h]
 rw[e,oF,XG,h1,h2,G3,C3 (l? c.toNat_lt)];rfl
theorem Agf(Hr:Int->LU->Option (UInt32×Int))(s:UInt32)(b:LB)(x:Int)(t:LU):∀(j i q:Nat) (c:UInt32),i+j=8->j<q->
  BL Hr s b x t q c (i:Int)=TP Hr s b x (UInt32.ofNat (MN j c.toNat)) t
 |0,i,q+1,c,hi,_=>by
  obtain rfl:i=8:=F0
  rw[BL,TH,B! I!,MN,UInt32.ofNat_toNat]
 |j+1,i,q+1,c,hi,hq=>by
  rw[BL,TH,B6 F9,Azi,Ag,show((i:Int)+1)=((i+1:Nat):Int) by omega,Agf Hr s b x t j (i+1) q _ F0 F0,G3,C3 (l? c.toNat_lt)];rfl
def tbl(n:Nat):LU:=(List.range n).map λi=>UInt32.ofNat (MN 8 i)
theorem Apg(s:UInt32)(b:LB):∀(j i q:Nat),i+j=256->j<q->Vs s b q (i:Int) (tbl i++List.replicate j 0)=gN s b (tbl 256)
 |0,i,q+1,hi,_=>by
  obtain rfl:i=256:=F0
  rw[Vs,VD,B! I!];simp
 |j+1,i,q+1,hi,hq=>by
  have hlen:(tbl i++List.replicate (j+1) 0).length=i+(j+1):=by simp[tbl]
  rw[Vs,VD,B6 F9,fJ];have h:=Agf (Vs s b q) s b (i:Int) (tbl i++List.replicate (j+1) 0) 8 0 As (Ae (i:Int)) F0 F7;rw[show((0:Int))=((0:Nat):Int)from rfl,h,TP,Bgy,Bl (by rw[hlen];omega),Aa,Zv _ (by rw[hlen];omega),Aa,Bh9,Bfo,Ag];have e:(Ae (i:Int):UInt32).toNat=i:=by rw[ko,G3,C3 F0]
  rw[e,QR,zD (by simp[tbl])];have h2:=Apg s b j (i+1) q F0 F0;have h3:tbl (i+1)=tbl i++[UInt32.ofNat (MN 8 i)]:=by simp[tbl,bC]
  rw[h3]at h2;rw[show((i:Int)+1)=((i+1:Nat):Int) by omega,<-h2];simp
theorem Ax9{i:Nat}(h:i<256):Aj (tbl 256) (i:Int)=some (UInt32.ofNat (MN 8 i)):=by
 rw[Bl (by simpa [tbl]using h)];simp[tbl]
theorem Awf(s:UInt32)(c:UInt8):Aj (tbl 256) (GI.toZ (KR (Ae s:UInt8) c))=some (UInt32.ofNat (MN 8 ((s.toNat %256)^^^c.toNat))):=by
 have e:GI.toZ (KR (Ae s:UInt8) c)=(((s.toNat %256)^^^c.toNat:Nat):Int):=by
  rw[QN,Am9,uX,K5,I?]
 rw[e,Ax9];exact OC (n:=8) F6 (by simpa using c.toNat_lt)
theorem Aqv(s:UInt32)(c:UInt8):KR (Cx s (GI.toZ (8:UInt64)).toNat) (UInt32.ofNat (MN 8 ((s.toNat %256)^^^c.toNat)))=UInt32.ofNat (sw s.toNat c.toNat):=by
 apply UInt32.toNat_inj.1;have hlt:MN 8 ((s.toNat %256)^^^c.toNat)<4294967296:=l_ 8 (OC (n:=32) F6 (by have:=c.toNat_lt;simp;omega));have e:(GI.toZ (8:UInt64)).toNat=8:=rfl;rw[e,oF,XG,ZO,G3,G3,C3 hlt,C3 (g_ s.toNat_lt c.toNat_lt),Ahm c.toNat_lt]
theorem Ain(b:LB)(hb:b.length<4611686018427387904):∀(j i q:Nat) (s:UInt32),i+j=b.length->j<q->CA b (tbl 256) q s (i:Int)=some (UInt32.ofNat (WU s.toNat (b.drop i)),0)
 |0,i,q+1,s,hi,_=>by
  rw[CA,VB,B! F2,show i=b.length by omega,OH];simp[fX,Bg2,WU]
 |j+1,i,q+1,s,hi,hq=>by
  have hlt:i<b.length:=F0
  rw[CA,VB,B6 F2,Bl hlt,Aa,Awf,Aa,Aa,Aqv,Ag];have h:=Ain b hb j (i+1) q (UInt32.ofNat (sw s.toNat b[i].toNat)) F0 F0;rw[show((i:Int)+1)=((i+1:Nat):Int) by omega,h,drop_cons hlt,G3,C3 (g_ s.toNat_lt b[i].toNat_lt)];rfl
theorem Axp(s:UInt32)(b:LB)(hb:b.length<=100000):tB s b=some (UInt32.ofNat (WU s.toNat b),0):=by
 have h:=Apg s b 256 0 As F0 F7;have h2:=Ain b F0 b.length 0 As s F0 F7;rw[tB,mT,B! D!,Bfv];refine D9 h ?_;rw[gN,gB,Bga,gI,gQ];exact h2
theorem Atp(a:UInt32):J? a=4294967295-a:=by
 have h:=a.toNat_lt;have e:J? a=UInt32.ofNat (BitVec.ofInt 32 4294967295^^^BitVec.ofInt 32 (a.toNat:Int)).toNat:=Hs _;apply UInt32.toNat_inj.1;rw[e,G3,uH _ _ (by rw[uI];show a.toNat<=4294967295;omega)];have h1:BitVec.ofInt 32 (a.toNat:Int)=a.toBitVec:=eP a;have h2:(BitVec.ofInt 32 4294967295:BitVec 32)=BitVec.allOnes 32:=F5
 rw[h1,h2,BitVec.allOnes_xor,kX];show(4294967296-1-a.toNat) %4294967296=4294967295-a.toNat;omega
theorem eu(b:LB)(hb:b.length<=100000):LG b=some (Fw b,0):=by
 rw[LG,Axp _ _ hb,Aa];simp only[Am,Atp];rfl
theorem lU{p:Prop}(h:p:=by simp[Am,Ad,Ar];omega):p:=h
theorem Am3:∀{l m:LB},l.length=m.length->Hl l=Hl m->l=m
 |[],[],_,_=>rfl
 |x::l,y::m,h,e=>by
  simp only[Hl]at e;have hx:=x.toNat_lt;have hy:=y.toNat_lt;have h1:x=y:=UInt8.toNat_inj.1 F0;rw[h1,Am3 (l:=l) (m:=m) (by simpa using h) F0]
theorem nH:∀(w n:Nat),Hl (DZ n w)=n %256^w
 |0,n=>by simp[DZ,Hl,lN]
 |w+1,n=>by
  rw[DZ,Hl,nH w (n/256),I?,show(256:Nat)^(w+1)=256*256^w by rw[G1,E!],Nat.mod_mul]
def HX(b:LB):Int:=
 if b.length<5 then 24 else if 41254<b.length then 4 else if(Fw (b.take (b.length-4))).toNat≠Hl (b.drop (b.length-4))then 22 else 0
theorem Aie(b:LB):UC b=some (if HX b≠0 then([],HX b)else(b.take (b.length-4),0)):=by
 rw[UC];by_cases h1:b.length<5
 ·have hS:HX b=24:=by rw[HX,B6 h1]
  rw[B6 F2,hS];rfl
 rw[B! F2];by_cases h2:41254<b.length
 ·have hS:HX b=4:=by rw[HX,B! h1,B6 h2]
  rw[B6 D!,hS];rfl
 have e4:Ap (Ac b) 4=((b.length-4:Nat):Int):=by rw[Ac,Ca];omega
 have hd:(b.drop (b.length-4)).length=4:=by simp;omega
 rw[B! D!,e4,Dt,Aa,show((b.length-4:Nat):Int).toNat=b.length-4 from rfl,eu _ F6,Aa];simp only;rw[B! D7,Dj,Aa,show((b.length-4:Nat):Int).toNat=b.length-4 from rfl,Ai1 _ F0 F0,Aa];have hne:Bj (E7 (b.drop (b.length-4))) (Ae (Fw (b.take (b.length-4))):UInt64)=decide ((Fw (b.take (b.length-4))).toNat≠Hl (b.drop (b.length-4))):=by
  have hlt:=(Fw (b.take (b.length-4))).toNat_lt;rw[YZ,C?];simp only[N9,ne_eq,<-T3,B?];rw[mA F0,Dn,E6,C3 F0];exact⟨λh e=>h e.symm,λh e=>h e.symm⟩
 simp only;rw[hne,Aa];by_cases h3:(Fw (b.take (b.length-4))).toNat≠Hl (b.drop (b.length-4))
 ·have hS:HX b=22:=by rw[HX,B! h1,B! h2,B6 h3]
  rw[B6 (by simp[h3]),hS];rfl
 ·have hS:HX b=0:=by rw[HX,B! h1,B! h2,B! h3]
  rw[B! (by rw[E0 h3];decide),hS];rfl
theorem yU(b:LB)(hb:b.length<=1000000):Tz b=some (b++DZ (Fw b).toNat 4):=by
 have h:∀k:Nat,(Ae (Cx (Fw b) k):UInt8)=UInt8.ofNat ((Fw b).toNat/2^k):=by
  intro k;rw[K5,ZO]
 have h0:(Ae (Fw b):UInt8)=UInt8.ofNat (Fw b).toNat:=K5 _;have h1:=h 8;have h2:=h 16;have h3:=h 24;rw[Tz,gP b F0,Aa,Ay F6,Aa,Ay F6,Aa,h0,show(GI.toZ (8:UInt64)).toNat=8 from rfl,show(GI.toZ (16:UInt64)).toNat=16 from rfl,show(GI.toZ (24:UInt64)).toNat=24 from rfl,h1,h2,h3];simp only[DZ,VU,I0]
theorem Aa6(b:LB):Ub b=some (HX b):=by
 rw[Ub];by_cases h1:b.length<5
 ·rw[B6 F2,HX,B6 h1]
 rw[B! F2];by_cases h2:41254<b.length
 ·rw[B6 D!,HX,B! h1,B6 h2]
 have e4:Ap (Ac b) 4=((b.length-4:Nat):Int):=by rw[Ac,Ca];omega
 have hd:(b.drop (b.length-4)).length=4:=by simp;omega
 rw[B! D!,e4,Dt,Aa,show((b.length-4:Nat):Int).toNat=b.length-4 from rfl,yU _ F6,Aa];have hlt:=(Fw (b.take (b.length-4))).toNat_lt;have hiff:(b.take (b.length-4)++DZ (Fw (b.take (b.length-4))).toNat 4 !=b)=decide ((Fw (b.take (b.length-4))).toNat≠Hl (b.drop (b.length-4))):=by
  rw[C?];simp only[N9,ne_eq,B?];constructor
  ·intro h e;apply h;have:DZ (Fw (b.take (b.length-4))).toNat 4=b.drop (b.length-4):=Am3 (by rw[Dk,hd]) (by rw[nH,C3 F0,e]);rw[this,QQ]
  ·intro h e;apply h;have hx:DZ (Fw (b.take (b.length-4))).toNat 4=b.drop (b.length-4):=by
    have e2:b.take (b.length-4)++DZ (Fw (b.take (b.length-4))).toNat 4=b.take (b.length-4)++b.drop (b.length-4):=by rw[e,QQ]
    exact List.append_cancel_left e2
   rw[<-hx,nH,C3 F0]
 rw[hiff];by_cases h3:(Fw (b.take (b.length-4))).toNat≠Hl (b.drop (b.length-4))
 ·rw[B6 (by simp[h3]),HX,B! h1,B! h2,B6 h3]
 ·rw[B! (by rw[E0 h3];decide),HX,B! h1,B! h2,B! h3]
theorem Ajl{b:LB}(h:HX b=0):5<=b.length/\b.length<=41254:=by
 unfold HX at h;split at h
 ·simp at h
 ·split at h
  ·simp at h
  ·omega
theorem Amx{c:Nat}(h1:1<=c)(h6:c<=6):Bs (4000:Int) (c:Int)=((4000/c:Nat):Int):=by
 have:c=1\/c=2\/c=3\/c=4\/c=5\/c=6:=F0
 rcases this with rfl|rfl|rfl|rfl|rfl|rfl<;>rfl
theorem Axb(p:LB)(h:p.length<=41250):okB p (8*p.length):=⟨F0,F0,λk h1 h2=>by omega⟩
theorem kU{bits:Int}{ch n:Nat}{t:LX}(b:LB)(hb:Bq bits)(ht:t.length=16)(h1:1<=ch)(h6:ch<=6)(n1:1<=n)(n2:n<=4000/ch):
  ∃l e,BC (ch:Int) bits t (n:Int) b=some (l,e)/\Fz (ch:Int) bits t (n:Int) b=some (l,e)/\ (e=0->Bd bits l=some 0/\l.length<=4000/\l.length=n*ch)/\ (e≠0->l=[]):=by
 have hn:n*ch<=4000:=by
  have:=C9 ch n2;have h2:=SY 4000 ch;omega
 have hq4:=Amx h1 h6;generalize 4000/ch=mm at*
 have hck:Nz (ch:Int) bits=some 0:=by
  have hr:∃x y,Sd bits=some (x,y,0):=⟨_,_,G! hb⟩;obtain⟨x,y,hr⟩:=hr;rw[Nz,hr,Aa];simp only;rw[B! lU]
 have hh:=XU bits;have M7:Qy (ch:Int) bits (n:Int)=some 0:=by
  rw[Qy,Cv,B! H7,oS hb,Aa,B! G2,Aa,B! (by simp[Am,Ad];omega),Bz E?,Aa,hq4,B! E5]
 rw[BC,Fz,Vf,hck,M7,Aa,Aa,B! D7,B! F9,Bz E?,Aa,hq4,B! E5,B! D7,Aie,Aa6];by_cases hs:HX b≠0
 ·rw[B6 hs];simp only[Aa];rw[B6 (by rw[Am];simpa using hs),B6 (by rw[Am];simpa using hs)];exact⟨[],HX b,rfl,rfl,λe=>absurd e hs,λ_=>rfl⟩
 have hs0:HX b=0:=by simpa using hs
 have hlen:=Ajl hs0;have e4:Ap (Ac b) 4=((b.length-4:Nat):Int):=by rw[Ac,Ca];omega
 rw[B! hs,hs0];simp only[Aa];rw[B! D7,B! D7,e4,Dt,Aa,show((b.length-4:Nat):Int).toNat=b.length-4 from rfl];have hpl:(b.take (b.length-4)).length=b.length-4:=by simp
 generalize b.take (b.length-4)=p at*
 have e8:Bn (8:Int) (Ac p)=((8*p.length:Nat):Int):=by rw[Ac,Ea];omega
 have hp:=Axb p F0;have hv:=values_eq hp h1 h6 hn;have hr:=An8 (N:=8*p.length) (p:=p) rfl F0 h1 h6 hn;have hat:=zu (ch:=ch) (p:=p) (N:=8*p.length) (n*ch) 0 [] F0;rw[oG,B! D!,By,Ay F6,Aa,Aa,Aa,I0,e8];simp only;rw[B! D7,hv,hr,Aa,Aa];generalize MG ch p (8*p.length) (n*ch) 0 []=V at*
 obtain⟨v,at',e⟩:=V;simp only at*
 by_cases he:e≠0
 ·rw[B6 he,B6 he];simp only;rw[B6 (by rw[Am];simpa using he),Kb,Hg,B6 (by rw[Am];simpa using he)];exact⟨[],e,rfl,rfl,λh=>absurd h he,λ_=>rfl⟩
 have he0:e=0:=by simpa using he
 have hvl:=hat.2.2 he0;simp only[T5,L8]at hvl;rw[B! he,B! he];simp only;rw[B! D7,Ca,show((8*p.length:Nat):Int)-(at':Int)=((8*p.length-at':Nat):Int) by omega,Kb,Hg];by_cases h7:7<8*p.length-at'
 ·have hE:(if 7<8*p.length-at'\/Ck p at' (8*p.length-at')≠0 then(12:Int)else 0)=12:=B6 (.inl h7);rw[B6 K3,hE,B6 F5];exact⟨[],12,rfl,rfl,λh=>absurd h F5,λ_=>rfl⟩
 rw[B! K3,ni hp at' _ F0,B! F0,Aa];have hz:Bj (Re p at' (8*p.length-at')) (0:UInt64)=decide (Ck p at' (8*p.length-at')≠0):=by
  rw[YZ,C?];simp only[N9,ne_eq,<-T3,B?];rw[CY p _ _ F0];rfl
 simp only;rw[hz];by_cases hv0:Ck p at' (8*p.length-at')≠0
 ·have hE:(if 7<8*p.length-at'\/Ck p at' (8*p.length-at')≠0 then(12:Int)else 0)=12:=B6 (.inr hv0);rw[B6 (by simp[hv0]),hE,B6 F5];exact⟨[],12,rfl,rfl,λh=>absurd h F5,λ_=>rfl⟩
 have hm:v.length %ch=0:=by rw[hvl];exact NR n ch
 obtain⟨l,e,g1,g2,g3,g4,g5⟩:=Acn (v:=v) hb ht h1 h6 F0 hm;have hE:(if 7<8*p.length-at'\/Ck p at' (8*p.length-at')≠0 then(12:Int)else 0)=0:=B! F0;rw[B! (by rw[E0 hv0];decide),hE,B! F5,g1,g3,Aa,Aa,g2];by_cases hl:e≠0
 ·rw[B6 hl];exact⟨[],e,rfl,rfl,λh=>absurd h hl,λ_=>rfl⟩
 ·rw[B! hl];have hl0:e=0:=by simpa using hl
  exact⟨l,0,rfl,rfl,λ_=>⟨by rw[g4,hl0],F0,F0⟩,λe=>absurd rfl e⟩
theorem lD(a b:Int32):a-b+b=a:=by
 apply Int32.toBitVec_inj.1;simp only[Int32.toBitVec_sub,Int32.toBitVec_add];apply aY;simp only[BitVec.toNat_sub,BitVec.toNat_add];have:=a.toBitVec.isLt;have:=b.toBitVec.isLt;omega
def mxV(f:Nat->Int32)(ch i:Nat):Int32:=if i+1<ch then f (i+1)-f i else if 1<ch then f (ch-1)-Bs (f (ch-1)-f (ch-2)) (2:Int32)else f (ch-1)
def mx(ch:Nat)(x:LX):LX:=(List.range x.length).map λk=>mxV (λi=>x.getD (k-k %ch+i) 0) ch (k %ch)
theorem bJ(ch:Nat)(x:LX):(mx ch x).length=x.length:=by simp[mx]
theorem Bbv{ch:Nat}{x:LX}{k:Nat}(h:k<x.length):(mx ch x).getD k 0=mxV (λi=>x.getD (k-k %ch+i) 0) ch (k %ch):=by
 rw[If (by rw[bJ];exact h)];simp[mx]
def yH(x:Int32):UInt32:=UInt32.ofNat (if 0<=x.toInt then 2*x.toInt.toNat else 2*(-x.toInt-1).toNat+1)
theorem Auh(x:Int32):cQ (yH x)=x:=by
 have h:=EW x;have e:(yH x).toNat=if 0<=x.toInt then 2*x.toInt.toNat else 2*(-x.toInt-1).toNat+1:=by
  rw[yH,G3];split<;>exact C3 F0
 rw[cQ,e];by_cases h0:0<=x.toInt
 ·rw[B6 h0,B6 F0,show((2*x.toInt.toNat/2:Nat):Int)=x.toInt by omega,N5]
 ·rw[B! h0,B! F0,show -(((2*(-x.toInt-1).toNat+1)/2:Nat):Int)-1=x.toInt by omega,N5]
theorem wh{α:Type}(ch c:Nat)(f g:α->Nat->α)(a0:α):∀m:Nat,(∀i,i<m->∀a,f a i=g a i)->pre ch c f a0 m=pre ch c g a0 m
 |0,_=>rfl
 |m+1,h=>by
  rw[pre,pre,wh ch c f g a0 m λi hi=>h i F0,h m F0]
theorem Ay4(bits:Int)(ch:Nat)(t:LX)(v w:LU)(c i:Nat)(h:i<=v.length):cst bits ch t (v++w) c i=cst bits ch t v c i:=by
 unfold cst;apply wh;intro j hj a;have:(v++w).getD j 0=v.getD j 0:=by
  rw[List.getD_eq_getElem?_getD,List.getD_eq_getElem?_getD,List.getElem?_append_left F0]
 rw[this]
def J2(bits:Int)(s:CS)(x:Int32):Int32:=x-gs (shB bits) s.1-gF (sB bits) s.2.1 s.2.2
theorem xG(bits:Int)(s:CS)(x:Int32):ZN bits s (J2 bits s x)=x:=by
 rw[ZN,J2,lD,lD]
def evl(bits:Int)(ch:Nat)(t m:LX):Nat->LU
 |0=>[]
 |i+1=>evl bits ch t m i++[yH (J2 bits (cst bits ch t (evl bits ch t m i) (i %ch) i) (m.getD i 0))]
theorem oD(bits:Int)(ch:Nat)(t m:LX):∀i,(evl bits ch t m i).length=i
 |0=>rfl
 |i+1=>by rw[evl,B9,oD bits ch t m i];rfl
theorem Apc(bits:Int)(ch:Nat)(t m:LX):∀(j i:Nat),∃w,evl bits ch t m (i+j)=evl bits ch t m i++w
 |0,i=>⟨[],B8⟩
 |j+1,i=>by
  obtain⟨w,hw⟩:=Apc bits ch t m j i;rw[<-H0,evl,hw];exact⟨_,F_ _ _ _⟩
theorem N0{p:Prop}(h:p:=by rw[B9];omega):p:=h
def tb(l:List Bool)(k:Nat):Nat:=if l.getD k false=true then 1 else 0
theorem Am0(b:Bool)(l:List Bool):tb (b::l) 0=if b=true then 1 else 0:=rfl
theorem Anw(b:Bool)(l:List Bool)(k:Nat):tb (b::l) (k+1)=tb l k:=by simp[tb]
theorem An7{a b:List Bool}{k:Nat}(h:k<a.length):tb (a++b) k=tb a k:=by
 rw[tb,tb,List.getD_eq_getElem?_getD,List.getD_eq_getElem?_getD,List.getElem?_append_left h]
theorem mU(a b:List Bool)(k:Nat):tb (a++b) (a.length+k)=tb b k:=by
 rw[tb,tb,List.getD_eq_getElem?_getD,List.getD_eq_getElem?_getD,List.getElem?_append_right F0,VH]
theorem qH{l:List Bool}{k:Nat}(h:l.length<=k):tb l k=0:=by
 rw[tb,List.getD_eq_getElem?_getD,List.getElem?_eq_none h];rfl
def At(p:LB)(a:Nat)(c:List Bool):Prop:=∀i,i<c.length->Ge p (a+i)=tb c i
theorem At.left{p:LB}{a:Nat}{c d:List Bool}(h:At p a (c++d)):At p a c:=λi hi=>by
 rw[h i N0,An7 hi]
theorem At.right{p:LB}{a:Nat}{c d:List Bool}(h:At p a (c++d)):At p (a+c.length) d:=λi hi=>by
 rw[H0,h (c.length+i) N0,mU]
theorem At.cons{p:LB}{a:Nat}{b:Bool}{c:List Bool}(h:At p a (b::c)):Ge p a=(if b=true then 1 else 0)/\At p (a+1) c:=by
 have h0:=h 0 B8;rw[N7,Am0]at h0;refine⟨h0,λi hi=>?_⟩;have:=h (i+1) F6;rw[Anw]at this;rw[show a+1+i=a+(i+1) by omega,this]
def oE:Nat->Nat->List Bool
 |_,0=>[]
 |v,n+1=>decide (v %2=1)::oE (v/2) n
theorem BI:∀(v n:Nat),(oE v n).length=n
 |_,0=>rfl
 |v,n+1=>by rw[oE,E8,BI (v/2) n]
theorem XZ(p:LB):∀(n a v:Nat),At p a (oE v n)->Ck p a n=v %2^n
 |0,a,v,_=>by rw[Ck,Nat.pow_zero,lN]
 |n+1,a,v,h=>by
  rw[oE]at h;obtain⟨h0,h1⟩:=h.cons;rw[Ck,h0,XZ p n (a+1) (v/2) h1,G1,E! (2^n) 2,Nat.mod_mul];have:=Nat.mod_two_eq_zero_or_one v;rcases this with e|e<;>simp[e]
def fY(l v:Nat):List Bool:=if 48<=v/2^l then List.replicate 48 true++oE v 32 else List.replicate (v/2^l) true++(false::oE (v %2^l) l)
theorem Aq6{l v:Nat}(hl:l<=24):1<= (fY l v).length/\ (fY l v).length<=80:=by
 rw[fY];generalize v/2^l=q;split
 ·rw[B9,JN,BI];omega
 ·rw[B9,JN,E8,BI];omega
def Uj(k l:Nat)(v:UInt32):List Bool:=if v.toNat<2^k then false::oE v.toNat k else true::fY l (v.toNat-2^k)
theorem eU{k l:Nat}(v:UInt32)(hk:k<=24)(hl:l<=24):1<= (Uj k l v).length/\ (Uj k l v).length<=81:=by
 have:=Aq6 (v:=v.toNat-2^k) hl;rw[Uj];split
 ·rw[E8,BI];omega
 ·rw[E8];omega
def bv:List Bool->Nat
 |[]=>0
 |b::r=>(if b=true then 1 else 0)+2*bv r
theorem Ba0:∀l:List Bool,bv l<2^l.length
 |[]=>by decide
 |b::r=>by
  have:=Ba0 r;rw[bv,E8,G1];split<;>omega
theorem Auq:∀(l:List Bool) (k:Nat),bv l/2^k %2=tb l k
 |[],k=>by simp[bv,tb]
 |b::r,0=>by
  rw[bv,Am0,Nat.pow_zero,Nat.div_one];split<;>omega
 |b::r,k+1=>by
  have:((if b=true then 1 else 0)+2*bv r)/2=bv r:=by split<;>omega
  rw[bv,Anw,G1,E! (2^k) 2,<-VU,this,Auq r k]
def Gn(c:List Bool):LB:=(List.range ((c.length+7)/8)).map λj=>UInt8.ofNat (bv ((c.drop (8*j)).take 8))
theorem BW(c:List Bool):(Gn c).length=(c.length+7)/8:=by simp[Gn]
theorem LD(c:List Bool)(i:Nat):Ge (Gn c) i=tb c i:=by
 rw[Ge];by_cases h:i/8<(c.length+7)/8
 ·have hg:(Gn c).getD (i/8) 0=UInt8.ofNat (bv ((c.drop (8*(i/8))).take 8)):=by
   rw[List.getD_eq_getElem?_getD,List.getElem?_eq_getElem (by rw[BW];exact h)];simp[Gn]
  have hlt:=Ba0 ((c.drop (8*(i/8))).take 8);have hl8:((c.drop (8*(i/8))).take 8).length<=8:=by rw[C8];omega
  have hp:=E4 (show 0<2 by omega) hl8;have hn:(UInt8.ofNat (bv ((c.drop (8*(i/8))).take 8))).toNat=bv ((c.drop (8*(i/8))).take 8):=by
   rw[I?];exact C3 F0
  rw[hg,hn,Auq,tb,tb];have:((c.drop (8*(i/8))).take 8).getD (i %8) false=c.getD i false:=by
   rw[List.getD_eq_getElem?_getD,List.getD_eq_getElem?_getD,List.getElem?_take,B6 F0,List.getElem?_drop,show 8*(i/8)+i %8=i by omega]
  rw[this]
 ·have hg:(Gn c).getD (i/8) 0=0:=by
   rw[List.getD_eq_getElem?_getD,List.getElem?_eq_none (by rw[BW];omega)];rfl
  rw[hg,qH F0];simp
def RZ(ch:Nat)(V:LU):Nat->List Bool
 |0=>[]
 |i+1=>RZ ch V i++Uj (now ch (V.take i)).1 (now ch (V.take i)).2.1 (V.getD i 0)
theorem dY(ch:Nat)(v:LU):(now ch v).1<=24/\ (now ch v).2.1<=24:=by
 have:=rS ch v (v.length %ch) v.length;exact⟨this.1,this.2.1⟩
theorem ZP(ch:Nat)(V:LU):∀i,(RZ ch V i).length<=81*i
 |0=>by simp[RZ]
 |i+1=>by
  have h:=dY ch (V.take i);have:=eU (V.getD i 0) h.1 h.2;rw[RZ,B9];have:=ZP ch V i;omega
def P64:Nat:=4823603603198064275
def cE(s:Nat):Nat:=(2*s %18446744073709551616)^^^ (s/9223372036854775808*P64)
theorem qJ{s:Nat}(h:s<18446744073709551616):cE s<18446744073709551616:=by
 have h1:s/9223372036854775808=0\/s/9223372036854775808=1:=F0
 exact OC (n:=64) (IV _ F5) (by rcases h1 with e|e<;>rw[e]<;>decide)
theorem Apj(x y:Nat):(x^^^y)/9223372036854775808=(x/9223372036854775808)^^^ (y/9223372036854775808):=by
 have:=Bj6 (a:=x) (b:=y) (i:=63);simpa [Bkf]using this
theorem Aoe(x y:Nat):2*(x^^^y) %18446744073709551616=(2*x %18446744073709551616)^^^ (2*y %18446744073709551616):=by
 have h1:=Bkg (a:=x) (b:=y) (i:=1);have h2:=Nat.xor_mod_two_pow (a:=2*x) (b:=2*y) (n:=64);have e:2*(x^^^y)=(2*x)^^^ (2*y):=by simpa [Nat.shiftLeft_eq,E!]using h1
 rw[e];exact h2
theorem Ayf{a b:Nat}(ha:a=0\/a=1)(hb:b=0\/b=1)(p:Nat):(a^^^b)*p=(a*p)^^^ (b*p):=by
 rcases ha with rfl|rfl<;>rcases hb with rfl|rfl<;>simp
theorem Bgh(a b c d:Nat):(a^^^b)^^^ (c^^^d)=(a^^^c)^^^ (b^^^d):=by
 rw[NY,NY,<-NY b c d,WA b c,NY c b d]
theorem Alb{x y:Nat}(hx:x<18446744073709551616)(hy:y<18446744073709551616):cE (x^^^y)=cE x^^^cE y:=by
 rw[cE,cE,cE,Aoe,Apj,Ayf F0 F0,Bgh]
def Xh:Nat->Nat->Nat
 |0,s=>s
 |k+1,s=>Xh k (cE s)
theorem X9:∀(k:Nat) {s:Nat},s<18446744073709551616->Xh k s<18446744073709551616
 |0,_,h=>h
 |k+1,_,h=>X9 k (qJ h)
theorem Art:∀(k:Nat) {x y:Nat},x<18446744073709551616->y<18446744073709551616->Xh k (x^^^y)=Xh k x^^^Xh k y
 |0,_,_,_,_=>rfl
 |k+1,x,y,hx,hy=>by rw[Xh,Alb hx hy,Art k (qJ hx) (qJ hy)];rfl
theorem Aed:∀(k h:Nat),2^k*h<18446744073709551616->Xh k h=2^k*h
 |0,h,_=>by simp[Xh]
 |k+1,h,hl=>by
  have hpos:0<2^k:=MP F0;rw[G1,IF]at hl;have h2:2*h<18446744073709551616:=QS (Nat.le_mul_of_pos_left _ hpos) hl;have:cE h=2*h:=by rw[cE,C3 h2,show h/9223372036854775808=0 by omega];simp
  rw[Xh,this,Aed k _ hl,G1,IF]
def yI(s c:Nat):Nat:=Xh 8 (s^^^ (c*72057594037927936))
theorem c56{c:Nat}(hc:c<256):c*72057594037927936<18446744073709551616:=F0
theorem jg{s c:Nat}(h:s<18446744073709551616)(hc:c<256):yI s c<18446744073709551616:=X9 8 (OC (n:=64) h (c56 hc))
theorem Ax4(s:Nat):s=(s/72057594037927936*72057594037927936)^^^ (s %72057594037927936):=by
 have h1:s %72057594037927936<2^56:=IV _ F5;have:=SW h1 (s/72057594037927936);have h2:2^56*(s/72057594037927936)|||s %72057594037927936=(2^56*(s/72057594037927936))^^^ (s %72057594037927936):=by
  apply uS;intro i;rw[Nat.testBit_or,Nat.testBit_xor];by_cases hi:i<56
  ·have:(2^56*(s/72057594037927936)).testBit i=false:=by rw[Bkp];simp;omega
   rw[this];simp
  ·have:(s %72057594037927936).testBit i=false:=Nat.testBit_lt_two_pow (I6 h1 (E4 F0 F0));rw[this];simp
 rw[E! (s/72057594037927936)]
 show s=(2^56*(s/72057594037927936))^^^ _;rw[<-h2,<-this];have:=RQ s 72057594037927936
 show s=72057594037927936*_+_;omega
theorem Ap4(a c:Nat):(a^^^c)*72057594037927936=(a*72057594037927936)^^^ (c*72057594037927936):=by
 have h1:=Bkg (a:=a) (b:=c) (i:=56);simpa [Nat.shiftLeft_eq]using h1
theorem Ad6{s c:Nat}(h:s<18446744073709551616)(hc:c<256):yI s c=(256*s %18446744073709551616)^^^Xh 8 (((s/72057594037927936)^^^c)*72057594037927936):=by
 have hs:s/72057594037927936<2^8:=by show _<256;omega
 have hx:(s/72057594037927936)^^^c<256:=OC (n:=8) hs (by simpa using hc);have hl:s %72057594037927936<72057594037927936:=IV _ F5;rw[yI]
 conv=>lhs;rw[Ax4 s]
 rw[WA (s/72057594037927936*72057594037927936),NY,<-Ap4,Art 8 F0 (c56 hx),Aed 8 _ (by show 256*_<_;omega)];congr 1
 show 256*(s %72057594037927936)=_;omega
def N!(s:Nat)(l:LB):Nat:=l.foldl (λs c=>yI s c.toNat) s
theorem RB{n:Nat}(h:n<18446744073709551616):(UInt64.ofNat n).toNat=n:=by rw[E6];exact C3 h
theorem Ba8(s:UInt64)(bit:Nat)(hb:bit=0\/bit=1):IQ s (bit:Int)=some (UInt64.ofNat ((2*s.toNat %18446744073709551616)^^^ (((s.toNat/9223372036854775808)^^^bit)*P64))):=by
 have hs:=s.toNat_lt;have ht:s.toNat/9223372036854775808=0\/s.toNat/9223372036854775808=1:=F0
 have e1:(Bn s (2:UInt64)).toNat=2*s.toNat %18446744073709551616:=by
  rw[aH,UInt64.toNat_mul];show s.toNat*2 %_=_;rw[E!]
 have hlt:2*s.toNat %18446744073709551616<18446744073709551616:=IV _ F5;have ey:KR (Bn s (2:UInt64)) (4823603603198064275:UInt64)=UInt64.ofNat ((2*s.toNat %18446744073709551616)^^^P64):=by
  apply UInt64.toNat_inj.1;rw[c_,kN,e1,RB (OC (n:=64) hlt F5)];rfl
 have en:Bn s (2:UInt64)=UInt64.ofNat (2*s.toNat %18446744073709551616):=by
  apply UInt64.toNat_inj.1;rw[e1,RB hlt]
 have eg:Nw s (9223372036854775808:UInt64)=decide (s.toNat/9223372036854775808=1):=by
  rw[Axa,vE]
  show 9223372036854775808<=s.toNat↔_;omega
 have hp:∀b:Bool,JG s b=some (if b=true then UInt64.ofNat ((2*s.toNat %18446744073709551616)^^^P64)else UInt64.ofNat (2*s.toNat %18446744073709551616)):=by
  intro b;rw[JG,Alh,ey,en];cases b<;>rfl
 rw[IQ,Aku,hp,hp,eg];rcases hb with rfl|rfl<;>rcases ht with h|h<;>rw[h]<;>simp[Ax]
theorem Bge(c:UInt8):∀(j q:Nat) (s:UInt64),j<=8->j<q->Nf c q s ((2^j/2:Nat):Int)=some (UInt64.ofNat (Xh j (s.toNat^^^ (c.toNat %2^j*2^(64-j)))))
 |0,q+1,s,_,_=>by
  rw[Nf,Zm,B! S0,JD,Alk];simp[Xh,lN]
 |j+1,q+1,s,hj,hq=>by
  have hc:=c.toNat_lt;have hs:=s.toNat_lt;have hj2:2^j<=2^7:=E4 F0 F0;have hpos:0<2^j:=MP F0;have e1:2^(j+1)/2=2^j:=by rw[G1];omega
  have e2:Bs ((2^j:Nat):Int) 2=((2^j/2:Nat):Int):=by
   generalize 2^j=K at*
   rw[YC,TM F0,Dp F0 F0];omega
  have e3:Gx (Bs (Ae c:Int) ((2^j:Nat):Int)) (2:Int)=((c.toNat/2^j %2:Nat):Int):=by
   have hX:=G9 c.toNat (2^j);rw[YB,YC,<-lC];generalize c.toNat/2^j=X at*
   rw[Dp F0 F0,Gx,bB F0];omega
  have hbit:c.toNat/2^j %2=0\/c.toNat/2^j %2=1:=F0
  rw[Nf,Zm,e1,B6 (by rw[Ar,B?];omega),Bz (by rw[Am,N9];omega),Aa,e3,Ba8 s _ hbit,Aa,e2,Bge c j q _ F0 F0];congr 2;rw[Xh];congr 1;have hx:c.toNat %2^(j+1)*2^(64-(j+1))=(c.toNat/2^j %2)*9223372036854775808+c.toNat %2^j*2^(63-j):=by
   have h63:(9223372036854775808:Nat)=2^j*2^(63-j):=by rw[<-RX,show j+(63-j)=63 by omega]
   rw[Nat.mod_pow_succ,h63,show 64-(j+1)=63-j by omega,C6,P6,IF,uo]
  have hr:c.toNat %2^j<2^j:=IV _ hpos;have Bjb:c.toNat %2^j*2^(63-j)<9223372036854775808:=by
   have h63:(9223372036854775808:Nat)=2^j*2^(63-j):=by rw[<-RX,show j+(63-j)=63 by omega]
   rw[h63];exact uK hr (MP F0)
  have h64:c.toNat %2^j*2^(64-j)=2*(c.toNat %2^j*2^(63-j)):=by
   rw[show 64-j=(63-j)+1 by omega,G1,<-IF,E!]
  rw[hx,h64];generalize c.toNat %2^j*2^(63-j)=R at*
  generalize c.toNat/2^j %2=b at*
  have ht:s.toNat/9223372036854775808=0\/s.toNat/9223372036854775808=1:=F0
  have hp:((s.toNat/9223372036854775808^^^b)*P64)<18446744073709551616:=by
   rcases ht with h|h<;>rcases hbit with h2|h2<;>rw[h,h2]<;>decide
  rw[RB (OC (n:=64) (IV _ F5) hp),cE,Aoe,Apj,show(b*9223372036854775808+R)/9223372036854775808=b by omega,show 2*(b*9223372036854775808+R) %18446744073709551616=2*R by omega,NY,NY,WA (2*R)]
theorem Bbg(c:UInt8)(s:UInt64):SK s c=some (UInt64.ofNat (yI s.toNat c.toNat)):=by
 have h:=Bge c 8 As s (D3 _) F7;have hc:=c.toNat_lt;rw[C3 (show c.toNat<2^8 by simpa using hc)]at h;exact h
theorem Aau(b:LB)(hb:b.length<4611686018427387904):∀(j i q:Nat) (s:UInt64),i+j=b.length->j<q->Kl b q s (i:Int)=some (UInt64.ofNat (N! s.toNat (b.drop i)))
 |0,i,q+1,s,hi,_=>by
  rw[Kl,Ux,B! F2,show i=b.length by omega,OH];simp[EG,Aep,N!]
 |j+1,i,q+1,s,hi,hq=>by
  have hlt:i<b.length:=F0
  have hc:=b[i].toNat_lt;rw[Kl,Ux,B6 F2,Bl hlt,Aa,Bbg,Aa,Ag];have h:=Aau b hb j (i+1) q (UInt64.ofNat (yI s.toNat b[i].toNat)) F0 F0;rw[show((i:Int)+1)=((i+1:Nat):Int) by omega,h,drop_cons hlt,RB (jg s.toNat_lt (by simpa using hc))];rfl
def MI(b:LB):UInt64:=UInt64.ofNat (N! 0 b)
theorem Aim(b:LB)(hb:b.length<=100000):AP 0 b=some (MI b):=
 Aau b F0 b.length 0 As 0 F0 F7
theorem Ald(c:UInt64):KR (Ed c (GI.toZ (1:UInt64)).toNat) (Bn (4823603603198064275:UInt64) (Cx c (GI.toZ (63:UInt64)).toNat))=UInt64.ofNat (cE c.toNat):=by
 have hc:=c.toNat_lt;apply UInt64.toNat_inj.1;have h1:(Ed c (GI.toZ (1:UInt64)).toNat).toNat=2*c.toNat %18446744073709551616:=by
  rw[show(GI.toZ (1:UInt64)).toNat=1 from rfl,jL,E!]
 have h2:(Bn (4823603603198064275:UInt64) (Cx c (GI.toZ (63:UInt64)).toNat)).toNat=c.toNat/9223372036854775808*P64:=by
  rw[show(GI.toZ (63:UInt64)).toNat=63 from rfl,aH,UInt64.toNat_mul,VP]
  show 4823603603198064275*(c.toNat/9223372036854775808) %18446744073709551616=_;have h1:c.toNat/9223372036854775808=0\/c.toNat/9223372036854775808=1:=F0
  rcases h1 with e|e<;>rw[e]<;>decide
 rw[c_,kN,h1,h2,RB (qJ hc)];rfl
theorem Bcc(Hr:Int->LQ->Option (UInt64×Int))(s:UInt64)(b:LB)(x:Int)(t:LQ):∀(j i q:Nat) (c:UInt64),i+j=8->j<q->
  CM Hr s b x t q c (i:Int)=TI Hr s b x (UInt64.ofNat (Xh j c.toNat)) t
 |0,i,q+1,c,hi,_=>by
  obtain rfl:i=8:=F0
  rw[CM,SJ,B! I!,Xh,UInt64.ofNat_toNat]
 |j+1,i,q+1,c,hi,hq=>by
  rw[CM,SJ,B6 F9,Ald,Ag,show((i:Int)+1)=((i+1:Nat):Int) by omega,Bcc Hr s b x t j (i+1) q _ F0 F0,RB (qJ c.toNat_lt)];rfl
def lW(n:Nat):LQ:=(List.range n).map λi=>UInt64.ofNat (Xh 8 (i*72057594037927936))
theorem Aef(s:UInt64)(b:LB):∀(j i q:Nat),i+j=256->j<q->Wd s b q (i:Int) (lW i++List.replicate j 0)=gV s b (lW 256)
 |0,i,q+1,hi,_=>by
  obtain rfl:i=256:=F0
  rw[Wd,TS,B! I!];simp
 |j+1,i,q+1,hi,hq=>by
  have hlen:(lW i++List.replicate (j+1) 0).length=i+(j+1):=by simp[lW]
  rw[Wd,TS,B6 F9,jE];have h:=Bcc (Wd s b q) s b (i:Int) (lW i++List.replicate (j+1) 0) 8 0 As (Ed (Ae (i:Int):UInt64) (GI.toZ (56:UInt64)).toNat) F0 F7;rw[show((0:Int))=((0:Nat):Int)from rfl,h,TI,Bfq,Bl (by rw[hlen];omega),Aa,Zv _ (by rw[hlen];omega),Aa,Bfz,Bf4,Ag];have e:(Ed (Ae (i:Int):UInt64) (GI.toZ (56:UInt64)).toNat).toNat=i*72057594037927936:=by
   rw[jL,Xv,RB F0]
   show i*72057594037927936 %18446744073709551616=_;omega
  rw[e,QR,zD (by simp[lW])];have h2:=Aef s b j (i+1) q F0 F0;have h3:lW (i+1)=lW i++[UInt64.ofNat (Xh 8 (i*72057594037927936))]:=by simp[lW,bC]
  rw[h3]at h2;rw[show((i:Int)+1)=((i+1:Nat):Int) by omega,<-h2];simp
theorem Aq4{i:Nat}(h:i<256):Aj (lW 256) (i:Int)=some (UInt64.ofNat (Xh 8 (i*72057594037927936))):=by
 rw[Bl (by simpa [lW]using h)];simp[lW]
theorem Ajx(s:UInt64)(c:UInt8):Aj (lW 256) (GI.toZ (KR (Ae (Cx s (GI.toZ (56:UInt64)).toNat):UInt8) c))=some (UInt64.ofNat (Xh 8 (((s.toNat/72057594037927936)^^^c.toNat)*72057594037927936))):=by
 have hs:=s.toNat_lt;have e:GI.toZ (KR (Ae (Cx s (GI.toZ (56:UInt64)).toNat):UInt8) c)=(((s.toNat/72057594037927936)^^^c.toNat:Nat):Int):=by
  have e2:((Ae (Cx s (GI.toZ (56:UInt64)).toNat):UInt8)).toNat=s.toNat/72057594037927936:=by
   rw[iM,I?,VP]
   show s.toNat/72057594037927936 %256=_;omega
  rw[QN,Am9,uX,e2]
 rw[e,Aq4];exact OC (n:=8) (by show _<256;omega) (by simpa using c.toNat_lt)
theorem Ad9(s:UInt64)(c:UInt8):KR (Ed s (GI.toZ (8:UInt64)).toNat) (UInt64.ofNat (Xh 8 (((s.toNat/72057594037927936)^^^c.toNat)*72057594037927936)))=UInt64.ofNat (yI s.toNat c.toNat):=by
 have hs:=s.toNat_lt;have hc:c.toNat<256:=by simpa using c.toNat_lt
 apply UInt64.toNat_inj.1;have hlt:Xh 8 (((s.toNat/72057594037927936)^^^c.toNat)*72057594037927936)<18446744073709551616:=X9 8 (c56 (OC (n:=8) (by show _<256;omega) (by simpa using c.toNat_lt)));have e:(GI.toZ (8:UInt64)).toNat=8:=rfl;rw[e,c_,kN,jL,RB hlt,RB (jg hs hc),Ad6 hs hc,E! s.toNat]
theorem Bcj(b:LB)(s0:UInt64)(hb:b.length<4611686018427387904):∀(j i q:Nat) (s:UInt64),i+j=b.length->j<q->BZ b s0 (lW 256) q s (i:Int)=some (UInt64.ofNat (N! s.toNat (b.drop i)),0)
 |0,i,q+1,s,hi,_=>by
  rw[BZ,TR,B! F2,show i=b.length by omega,OH];simp[hH,Bf9,Bh1,Bh0,N!]
 |j+1,i,q+1,s,hi,hq=>by
  have hlt:i<b.length:=F0
  have hc:=b[i].toNat_lt;rw[BZ,TR,B6 F2,Bl hlt,Aa,Ajx,Aa,Aa,Ad9,Ag];have h:=Bcj b s0 hb j (i+1) q (UInt64.ofNat (yI s.toNat b[i].toNat)) F0 F0;rw[show((i:Int)+1)=((i+1:Nat):Int) by omega,h,drop_cons hlt,RB (jg s.toNat_lt (by simpa using hc))];rfl
theorem Aix(b:LB)(hb:b.length<=100000):oY b=some (MI b,0):=by
 have h:=Aef 0 b 256 0 As F0 F7;have h2:=Bcj b 0 F0 b.length 0 As 0 F0 F7;have hn:sR 0 b=some (MI b,0):=by
  rw[sR,nF,B! D!,Bgt];refine D9 h ?_;rw[gV,fM,fV];exact h2
 rw[oY,hn,Aa]
theorem xA(p:LB)(hp:p.length<=64):UJ p=some (DZ (MI p).toNat 8,0):=by
 rw[UJ,je,B! D!,Aix p F0,Aa,Aa];simp only;have h:=iL (MI p) 8 F0 F0 (by simpa using(MI p).toNat_lt);rw[B! D7];exact congrArg (λo=>Option.bind o λx:LB×Int=>some (x.1,x.2)) h
theorem W6(p:LB)(hp:p.length<=64):Rw p=some (DZ (MI p).toNat 8):=by
 have h:=sI (MI p) 8 F0;rw[Rw,UH,Aim p F0,Aa,Aa];exact congrArg (λo=>Option.bind o λl=>some l) h
def s8(n:Nat):Int32:=Int32.ofInt (if n<128 then(n:Int)else(n:Int)-256)
def lA(d:UInt64)(n:Nat):LX:=(List.range n).map λi=>s8 (d.toNat/256^i %256)
theorem pK(d:UInt64)(n:Nat):(lA d n).length=n:=by simp[lA]
theorem Asa (d:UInt64)(n:Nat):lA d (n+1)=lA d n++[s8 (d.toNat/256^n %256)]:=by simp[lA,bC]
theorem bm8(z:Nat):(z:Int).bmod Int8.size=if z %256<128 then((z %256:Nat):Int)else((z %256:Nat):Int)-256:=by
 rw[show Int8.size=256 from rfl,d?];split<;>split<;>omega
theorem Aof(d:UInt64):∀(j i q:Nat),i+j=8->j<q->YM d q (i:Int) (lA d i++List.replicate (16-i) 0)=some (lA d 8++List.replicate 8 0)
 |0,i,q+1,hi,_=>by
  obtain rfl:i=8:=F0
  rw[YM,tL,B! I!];rfl
 |j+1,i,q+1,hi,hq=>by
  have hlen:(lA d i++List.replicate (16-i) 0).length=16:=by simp[pK];omega
  have ih:=Aof d j (i+1) q F0 F0;have e8:Bn (8:Int) (i:Int)=((8*i:Nat):Int):=by rw[Ea];omega
  have ev:(Ae (Ae (Cx d (GI.toZ (((8*i:Nat):Int))).toNat):Int8):Int32)=s8 (d.toNat/256^i %256):=by
   have e1:(Cx d (GI.toZ (((8*i:Nat):Int))).toNat).toNat=d.toNat/256^i:=by
    rw[show(GI.toZ (((8*i:Nat):Int))).toNat=8*i from rfl,VP,lO]
   show Int32.ofInt (Int8.ofInt ((Cx d (GI.toZ (((8*i:Nat):Int))).toNat).toNat:Int)).toInt=_;rw[e1,s8,Int8.toInt_ofInt,bm8]
  rw[YM,tL,B6 F9,e8,Bz K3,Aa,ev,Bl,Aa,Zv _ F0,Aa,Ag,show 16-i=(15-i)+1 by omega,QR,zD (pK d i)];rw[Asa,show 16-(i+1)=15-i by omega,F_]at ih;exact ih
theorem Atq(d:UInt64):∀(j i q:Nat) (e:UInt64),i+j=8->j<q->e.toNat=d.toNat/256^i->Ms q e (i:Int) (lA d i++List.replicate (16-i) 0)=some (lA d 8++List.replicate 8 0)
 |0,i,q+1,e,hi,_,he=>by
  obtain rfl:i=8:=F0
  rw[Ms,DT,B! I!];rfl
 |j+1,i,q+1,e,hi,hq,he=>by
  have hlen:(lA d i++List.replicate (16-i) 0).length=16:=by simp[pK];omega
  have hq2:(Bs e (256:UInt64)).toNat=d.toNat/256^(i+1):=by
   rw[yE,W7,he,G1,<-VU];rfl
  have ih:=Atq d j (i+1) q (Bs e (256:UInt64)) F0 F0 hq2;have ev:(Ae (FP e (256:UInt64)):Int32)=Int32.ofInt ((d.toNat/256^i %256:Nat):Int):=by
   show Int32.ofInt ((FP e (256:UInt64)).toNat:Int)=_;rw[O9,cV,he];rfl
  have hz:d.toNat/256^i %256<256:=IV _ F0;have et:(Int32.ofInt ((d.toNat/256^i %256:Nat):Int)).toInt=((d.toNat/256^i %256:Nat):Int):=by
   rw[RJ,cU (by show -(4294967296/2:Int)<= _;omega) (by show _<(4294967296+1)/2;omega)]
  have hp8:∀x:Int32,x=s8 (d.toNat/256^i %256)->EJ (Ms q) e (i:Int) (lA d i++List.replicate (16-i) 0) x=some (lA d 8++List.replicate 8 0):=by
   intro x hx;rw[EJ,Apt,hx,Bl,Aa,Zv _ F0,Aa,Ag,show 16-i=(15-i)+1 by omega,QR,zD (pK d i)];rw[Asa,show 16-(i+1)=15-i by omega,F_]at ih;exact ih
  rw[Ms,DT,B6 F9,ev,p?,et,show(127:Int32).toInt=127 from rfl];by_cases h:d.toNat/256^i %256<128
  ·rw[B! (by simp only[B?];omega)];exact hp8 _ (by rw[s8,B6 h])
  ·rw[B6 (by simp only[B?];omega)];refine hp8 _ ?_;rw[s8,B! h,gK,jy];rfl
def Vz(p:LB):LX:=lA (MI p) 8++List.replicate 8 0
theorem Vw(p:LB):(Vz p).length=16:=by simp[Vz,pK]
theorem zX(p:LB)(hp:p.length<=64):GB p=some (Vz p,0):=by
 have h:=Aof (MI p) 8 0 As F0 F7;have h2:nG (MI p)=some (Vz p):=h;rw[GB,B! D!,Aix p F0,Aa];simp only;rw[B! D7,h2,Aa]
theorem pI(p:LB)(hp:p.length<=64):Of p=some (Vz p,0):=by
 have h:=Atq (MI p) 8 0 As (MI p) F0 F7 B8;have h2:bU (MI p)=some (Vz p):=h;rw[Of,B! D!,YR,UB,B! D!,Aim p F0,Aa,Aa,Aa];simp only;rw[h2,Aa]
def u8(z:Int):UInt8:=UInt8.ofNat (z %256).toNat
theorem d_(z:Int):u8 (z %256)=u8 z:=by rw[u8,u8];congr 2;omega
def wB(bits:Int):Nat:=if bits=8 then 1 else if bits=16 then 2 else 3
theorem lq{bits:Int}(h:Bq bits):Bs bits 8=(wB bits:Int):=by obtain rfl|rfl|rfl:=h<;>rfl
theorem D5(bits:Int):1<=wB bits/\wB bits<=3:=by
 unfold wB;split; · omega
 ·split<;>omega
def C0(bits:Int)(x:Int):LB:=if bits=8 then [u8 (x+128)]else if bits=16 then [u8 x,u8 (x/256)]else [u8 x,u8 (x/256),u8 (x/65536)]
theorem Af2(bits x:Int):(C0 bits x).length<=3:=by
 unfold C0;split; · simp
 ·split<;>simp
theorem Aum(x:Int32)(k:Nat)(hk:k<=32):(Ae (Cx x k):UInt8)=u8 (x.toInt.fdiv (2^k)):=by
 have h:=EW x;have e:Cx x k=Int32.ofInt (x.toInt.fdiv (2^k)):=by
  show Int32.ofInt (x.toInt.fdiv (2^min k 32))=_;rw[MJ hk]
 have hb: -2147483648<=x.toInt.fdiv (2^k)/\x.toInt.fdiv (2^k)<2147483648:=by
  have hpos:(0:Int)<2^k:=Y6 F0;rw[NX _ F0];constructor
  ·refine(Int.le_ediv_iff_mul_le hpos).2 ?_;have:(1:Int)<=2^k:=F0
   have h2: -2147483648*(2^k:Int)<= -2147483648*1:=Int.mul_le_mul_of_nonpos_left F0 this;omega
  ·refine Int.ediv_lt_of_lt_mul hpos ?_;have:(1:Int)<=2^k:=F0
   have h2:(2147483648:Int)*1<=2147483648*2^k:=uJ this F0;omega
 show UInt8.ofNat ((Cx x k).toInt %256).toNat=_;rw[e,RJ,cU (by show -(4294967296/2:Int)<= _;omega) (by show _<(4294967296+1)/2;omega)];rfl
section
variable (bk:Int->LB->Option (LB×Int)) (l:LX)
theorem zo{bits:Int}(h:Bq bits)(c:Int32)(x:Int)(i q:Nat)(acc:LB)(hi:i<wB bits)(ha:acc.length<=100000):
  Qa bk bits l c x (q+1) (i:Int) acc=Qa bk bits l c x q ((i+1:Nat):Int) (acc++[u8 (c.toInt.fdiv (2^(8*i)))]):=by
 have hw:=D5 bits;have e8:Bn (8:Int) (i:Int)=((8*i:Nat):Int):=by rw[Ea];omega
 rw[Qa,OQ,lq h,B6 F9,e8,Bz K3,Aa,show(GI.toZ (((8*i:Nat):Int))).toNat=8*i from rfl,Aum _ _ F0,Ay F6,Aa,Ag];rfl
theorem q!{bits:Int}(h:Bq bits)(c:Int32)(x:Int)(q:Nat)(acc:LB):Qa bk bits l c x (q+1) ((wB bits:Nat):Int) acc=bk (Af x 1) acc:=by
 rw[Qa,OQ,lq h,B! I!,bW,Bdt]
theorem Bbe{bits:Int}(h:Bq bits)(c:Int32)(x:Int)(acc:LB)(ha:acc.length<=90000)(hr: -(hB bits)<=c.toInt/\c.toInt<hB bits):
  Xx bk bits l x acc (if bits=8 then Af c (128:Int32)else c)=bk (Af x 1) (acc++C0 bits c.toInt):=by
 have e:As=(As-4)+1+1+1+1:=by have:=Aq;omega
 have hc:=EW c;rw[Xx,bF,cM,e];have g0:=λ(c:Int32) q acc ha=>zo bk l h c x 0 q acc (by have:=D5 bits;omega) ha;obtain rfl|rfl|rfl:=h
 ·have hh:hB 8=128:=rfl;rw[hh]at hr;have e1:(Af c (128:Int32)).toInt=c.toInt+128:=by
   show(Int32.ofInt (c.toInt+(128:Int32).toInt)).toInt=_;rw[show(128:Int32).toInt=128 from rfl,RJ,cU (by show -(4294967296/2:Int)<= _;omega) (by show _<(4294967296+1)/2;omega)]
  have g1:=q! bk l (bits:=8) (.inl rfl) (Af c (128:Int32)) x (As-4+1+1);rw[B6 rfl,show(0:Int)=((0:Nat):Int)from rfl,g0 _ _ _ F0];refine D9 (g1 _) ?_;rw[e1,C0,B6 rfl]
  show bk _ (acc++[u8 ((c.toInt+128).fdiv 1)])=_;rw[Int.fdiv_one]
 ·have g1:=λq acc ha=>zo bk l (bits:=16) (.inr (.inl rfl)) c x 1 q acc F5 ha;have g2:=q! bk l (bits:=16) (.inr (.inl rfl)) c x (As-4+1);rw[B! F5,show(0:Int)=((0:Nat):Int)from rfl,g0 _ _ _ F0,g1 _ _ F6];refine D9 (g2 _) ?_;rw[C0,B! F5,B6 rfl,F_]
  show bk _ (acc++[u8 (c.toInt.fdiv 1),u8 (c.toInt.fdiv 256)])=_;rw[Int.fdiv_one,NX _ F0]
 ·have g1:=λq acc ha=>zo bk l (bits:=24) (.inr (.inr rfl)) c x 1 q acc F5 ha;have g2:=λq acc ha=>zo bk l (bits:=24) (.inr (.inr rfl)) c x 2 q acc F5 ha;have g3:=q! bk l (bits:=24) (.inr (.inr rfl)) c x (As-4);rw[B! F5,show(0:Int)=((0:Nat):Int)from rfl,g0 _ _ _ F0,g1 _ _ F6,g2 _ _ F6];refine D9 (g3 _) ?_;rw[C0,B! F5,B! F5,F_,F_]
  show bk _ (acc++[u8 (c.toInt.fdiv 1),u8 (c.toInt.fdiv 256),u8 (c.toInt.fdiv 65536)])=_;rw[Int.fdiv_one,NX _ F0,NX _ F0]
end
def We(bits:Int)(l:LX):LB:=l.flatMap λx=>C0 bits x.toInt
theorem YU(bits:Int):∀l:LX,(We bits l).length<=3*l.length
 |[]=>by simp[We]
 |x::l=>by
  have h1:=YU bits l;have h2:=Af2 bits x.toInt;simp only[We,uq,B9,E8]at*
  omega
def inR(bits:Int)(l:LX):Prop:=∀x∈l, -(hB bits)<=x.toInt/\x.toInt<hB bits
theorem Ana{bits:Int}(h:Bq bits)(l:LX)(hl:l.length<=4000)(hr:inR bits l):∀(j i q:Nat),i+j=l.length->j<q->Ju bits l q (i:Int) (We bits (l.take i))=some (We bits l,0)
 |0,i,q+1,hi,_=>by
  rw[Ju,OX,B! F2,H? F0];rfl
 |j+1,i,q+1,hi,hq=>by
  have hlt:i<l.length:=F0
  have ih:=Ana h l hl hr j (i+1) q F0 F0;have hlen:=YU bits (l.take i);have hx:=hr l[i] (G8 _);have h1:=Bbe (Ju bits l q) l h l[i] (i:Int) (We bits (l.take i)) (by rw[C8]at hlen;omega) hx;rw[Ju,OX,B6 F2,Bl hlt,Aa];have e:(if(geq bits (8:Int))=true then Xx (Ju bits l q) bits l (i:Int) (We bits (l.take i)) (Af l[i] (128:Int32))else Xx (Ju bits l q) bits l (i:Int) (We bits (l.take i)) l[i])=Xx (Ju bits l q) bits l (i:Int) (We bits (l.take i)) (if bits=8 then Af l[i] (128:Int32)else l[i]):=by
   by_cases h8:bits=8
   ·rw[B6 (by rw[Ax];simpa using h8),B6 h8]
   ·rw[B! (by rw[Ax];simpa using h8),B! h8]
  rw[e,h1,Ag];rw[Ho hlt]at ih;have e2:We bits (l.take i++[l[i]])=We bits (l.take i)++C0 bits l[i].toInt:=by unfold We;rw[List.flatMap_append,List.flatMap_singleton]
  rw[e2]at ih;exact ih
theorem Adi{bits:Int}(h:Bq bits){l:LX}(hl:l.length<=4000)(hc:Bd bits l=some 0):inR bits l:=by
 have hh:=XU bits;have key:∀(j i q:Nat),i+j=l.length->j<q->Bp l (hB bits) q (i:Int)=some 0->∀k,i<=k-> (hk:k<l.length)-> -(hB bits)<=l[k].toInt/\l[k].toInt<hB bits:=by
  intro j
  induction j with
  |zero=>intro i q hi hq _ k h1 h2;omega
  |succ j ih=>
   intro i q hi hq hs k h1 h2;obtain⟨q,rfl⟩:∃k,q=k+1:=⟨q-1,F0⟩;rw[Bp,Ee,B6 F2,Bl,Aa,Aa,Fq,f?,Dp F0 F0,Ag,Ad,De]at hs;by_cases g1:l[i].toInt<0-hB bits
   ·rw[B6 (by simpa using g1)]at hs;simp at hs
   ·rw[B! (by simpa using g1)]at hs;by_cases g2:hB bits<=l[i].toInt
    ·rw[B6 (by simpa using g2)]at hs;simp at hs
    ·rw[B! (by simpa using g2)]at hs;by_cases hk:k=i
     ·subst hk;omega
     ·exact ih (i+1) q F0 F0 hs k F0 h2
 rw[Bd,Hy,oS h,Aa,B! G2,B! D!]at hc;have:=key l.length 0 As F0 F7 hc;intro x hx;obtain⟨k,hk,rfl⟩:=uU hx;exact this k F0 hk
theorem Bcs{bits:Int}(h:Bq bits){l:LX}(hl:l.length<=4000)(hc:Bd bits l=some 0):DJ bits l=some (We bits l,0):=by
 have h1:=Ana h l hl (Adi h hl hc) l.length 0 As F0 F7;rw[DJ,iB,iF h l hl,hc,Aa,B! D7];exact h1
theorem Aw3{bits:Int}(h:Bq bits)(x:Int32)(hr: -(hB bits)<=x.toInt/\x.toInt<hB bits):KY bits x=some (C0 bits x.toInt):=by
 have hx:=EW x;have gu:∀z:Int,(Ae z:UInt8)=u8 z:=λz=>rfl;have hq:∀n:Int,0<=n->n<=20000000->Bs n (256:Int)=n/256/\Bs n (65536:Int)=n/65536:=by
  intro n h1 h2;constructor<;>(rw[YC,TM h1,Dp F0 F0])
 have hm:∀n:Int,0<=n->Gx n (256:Int)=n %256:=λn h1=>by rw[Gx,bB h1]
 rw[KY,Amt,Fq];obtain rfl|rfl|rfl:=h
 ·rw[B6 Q0,Ag,gu,C0,B6 rfl]
 ·have hh:hB 16=32768:=rfl;rw[hh]at hr;have hp:∀n:Int,0<=n->n<=70000->u8 n=u8 x.toInt->u8 (n/256)=u8 (x.toInt/256)->Tx 16 n=some (C0 16 x.toInt):=by
   intro n h1 h2 h3 h4;rw[Tx,ND,B! R5,hm n h1,(hq n h1 F0).1,hm _ F0,gu,gu,d_,d_,h3,h4,C0,B! F5,B6 rfl]
  rw[B! R5];by_cases hn:x.toInt<0
  ·rw[B6 (by rw[Ad];simpa using hn),oS (.inr (.inl rfl)),Aa,hh,Ea,Ag];refine hp _ F0 F0 ?_ ?_
   ·rw[u8,u8];congr 2;omega
   ·rw[u8,u8];congr 2;omega
  ·rw[B! (by rw[Ad];simpa using hn)];exact hp _ F0 F0 rfl rfl
 ·have hh:hB 24=8388608:=rfl;rw[hh]at hr;have hp:∀n:Int,0<=n->n<=16777215->u8 n=u8 x.toInt->u8 (n/256)=u8 (x.toInt/256)->u8 (n/65536)=u8 (x.toInt/65536)->Tx 24 n=some (C0 24 x.toInt):=by
   intro n h1 h2 h3 h4 h5;rw[Tx,ND,B6 Q0,hm n h1,(hq n h1 F0).1,(hq n h1 F0).2,hm _ F0,gu,gu,gu,d_,d_,h3,h4,h5,Ay B8,Aa,C0,B! F5,B! F5];rfl
  rw[B! R5];by_cases hn:x.toInt<0
  ·rw[B6 (by rw[Ad];simpa using hn),oS (.inr (.inr rfl)),Aa,hh,Ea,Ag];refine hp _ F0 F0 ?_ ?_ ?_
   ·rw[u8,u8];congr 2;omega
   ·rw[u8,u8];congr 2;omega
   ·rw[u8,u8];congr 2;omega
  ·rw[B! (by rw[Ad];simpa using hn)];exact hp _ F0 F0 rfl rfl rfl
theorem Am8{bits:Int}(h:Bq bits)(l:LX)(hl:l.length<=4000)(hr:inR bits l):∀(j i q:Nat),i+j=l.length->j<q->Lo bits l q (i:Int) (We bits (l.take i))=some (We bits l,0)
 |0,i,q+1,hi,_=>by
  rw[Lo,Wr,B! F2,H? F0];rfl
 |j+1,i,q+1,hi,hq=>by
  have hlt:i<l.length:=F0
  have ih:=Am8 h l hl hr j (i+1) q F0 F0;have hlen:=YU bits (l.take i);have hol:=Af2 bits l[i].toInt;rw[C8]at hlen;have e2:We bits (l.take i++[l[i]])=We bits (l.take i)++C0 bits l[i].toInt:=by unfold We;rw[List.flatMap_append,List.flatMap_singleton]
  rw[Ho hlt,e2]at ih;rw[Lo,Wr,B6 F2,Bl hlt,Aa,Aw3 h _ (hr l[i] (G8 _)),Aa,Ay,Aa,Ag];exact ih
theorem zO{bits:Int}(h:Bq bits){l:LX}(hl:l.length<=4000)(hc:Bd bits l=some 0):Vt bits l=some (We bits l,0):=by
 have h1:=Am8 h l hl (Adi h hl hc) l.length 0 As F0 F7;rw[Vt,HG,hc,Aa,B! D7];exact h1
theorem vI{p:Prop}(h:p:=by rw[De,Ac,Ac];simp;omega):p:=h
theorem lX{p:Prop}(h:p:=by rw[Ag]<;>omega):p:=h
def mS:LB->Nat->Int×Int
 |[],n=>((n:Int),0)
 |c::r,n=>if 128<=c.toNat then(0,12)else mS r (128*n+c.toNat)
theorem Api:∀(l:LB) (n k:Nat),n<128^k->0<= (mS l n).1/\ (mS l n).1<((128^(k+l.length):Nat):Int)
 |[],n,k,h=>by simp[mS];exact_mod_cast h
 |c::r,n,k,h=>by
  rw[mS];split
  ·have:0<128^(k+(c::r).length):=MP F0;exact⟨Int.le_refl _,by simp only;exact_mod_cast this⟩
  ·have:=Api r (128*n+c.toNat) (k+1) (by rw[G1];omega);rw[E8,show k+(r.length+1)=k+1+r.length by omega];exact this
theorem or7(n c:Nat)(hn:n<268435456)(hc:c<128):K4 (Ed (n:Int) (GI.toZ (7:UInt64)).toNat) (c:Int)=((128*n+c:Nat):Int):=by
 have e:(GI.toZ (7:UInt64)).toNat=7:=rfl;have h1:Ed (n:Int) 7=((2^7*n:Nat):Int):=by
  have:Ed (n:Int) 7=wrap64 ((n:Int)*2^7):=rfl;rw[this,Dp F0 F0];omega
 rw[e,h1];have h2:K4 ((2^7*n:Nat):Int) (c:Int)=wrap64 ((BitVec.ofInt 64 ((2^7*n:Nat):Int)|||BitVec.ofInt 64 (c:Int)).toNat:Int):=rfl;rw[h2,cX,QP,QP];have h3:(((2^7*n:Nat):Int) %((2^64:Nat):Int)).toNat=2^7*n:=F0
 have h4:((c:Int) %((2^64:Nat):Int)).toNat=c:=F0
 rw[h3,h4,<-SW (by simpa using hc),Dp F0 F0]
theorem Ao6(b:LB)(hb:b.length=4):∀(j i q n:Nat),i+j=4->j<q->n<128^i->Vl b q (n:Int) (i:Int)=some (mS (b.drop i) n)
 |0,i,q+1,n,hi,_,_=>by
  rw[Vl,LM,B! F2,show b.drop i=[] by simp;omega];rfl
 |j+1,i,q+1,n,hi,hq,hn=>by
  have hlt:i<b.length:=F0
  have hn2:n<268435456:=I6 hn (show 128^i<=128^4 from E4 F0 F0);rw[Vl,LM,B6 F2,Bl hlt,Aa,drop_cons hlt,mS,Awc];by_cases hc:128<=b[i].toNat
  ·rw[B6 F6,B6 hc]
  ·rw[B! F6,B! hc,YB,or7 n _ hn2 F0,Ag];exact Ao6 b hb j (i+1) q _ F0 F0 (by rw[G1];omega)
theorem Av9(b:LB)(hb:b.length=4):∀(j i q n:Nat),i+j=4->j<q->n<128^i->Lr b q (n:Int) (i:Int)=some (mS (b.drop i) n)
 |0,i,q+1,n,hi,_,_=>by
  rw[Lr,Wu,B! F9,show b.drop i=[] by simp;omega];rfl
 |j+1,i,q+1,n,hi,hq,hn=>by
  have hlt:i<b.length:=F0
  have hn2:n<268435456:=I6 hn (show 128^i<=128^4 from E4 F0 F0);rw[Lr,Wu,B6 F9,Bl hlt,Aa,drop_cons hlt,mS,Auk];have h128:(128:UInt8).toNat=128:=rfl;by_cases hc:128<=b[i].toNat
  ·rw[B6 (by simpa using hc),B6 hc]
  ·have h3:=b[i].toNat_lt;rw[B! (by simpa using hc),B! hc,Aa,YB,Ea,Ag,Ag];have:=Av9 b hb j (i+1) q (128*n+b[i].toNat) F0 F0 (by rw[G1];omega);rw[<-this];rfl
theorem Ala(b:LB)(hb:b.length=4):ZC b=some (mS b 0):=by
 have h:=Ao6 b hb 4 0 As 0 F0 F7 B8;rw[ZC,YP,B! (by rw[Am,Ac];simp;omega),Az3];exact h
theorem Arn(b:LB)(hb:b.length=4):ES b=some (mS b 0):=by
 have h:=Av9 b hb 4 0 As 0 F0 F7 B8;rw[ES,HH,B! (by rw[Am,Ac];simp;omega),Agb];exact h
theorem pX{b:LB}(hb:b.length=4):0<= (mS b 0).1/\ (mS b 0).1<268435456:=by
 have:=Api b 0 0 B8;rw[hb]at this;simpa using this
theorem rQ(s p:LB):To s p=some (decide (p.length<=s.length/\s.take p.length=p)):=by
 rw[To];by_cases h:p.length<=s.length
 ·rw[B6 vI,show Ac p=(p.length:Int)from rfl,Dt,Aa,Qb,Aa,D0];congr 1;rw[C?];simp[h]
 ·rw[B! vI];simp[h]
def oT(b:LB)(n:Int):Int×Int:=
 if 4000<n then(0,4)else if(b.length:Int)<n then(0,24)else
 if b.getD 5 0=16/\ (b.take n.toNat).drop (n-10).toNat≠ [51,68,73]++part b 3 7 then(0,12)else(n,0)
def uh(b:LB)(r:Int):Int×Int:=oT b (r+10+(if b.getD 5 0=16 then 10 else 0))
def MK(b:LB):Int×Int:=
 if ¬(3<=b.length/\b.take 3=[73,68,51])then(0,6)else if b.length<10 then(0,24)else
 if(mS (part b 6 4) 0).2≠0\/b.getD 4 0≠0\/ ¬((b.getD 5 0=0/\2<= (b.getD 3 0).toNat/\ (b.getD 3 0).toNat<=4)\/ (b.getD 5 0=16/\b.getD 3 0=4))then(0,12)else
 uh b (mS (part b 6 4) 0).1
theorem I1{b:LB}{i:Nat}(h:i<b.length):Aj b (i:Int)=some (b.getD i 0):=by
 rw[Bl h];simp[List.getD_eq_getElem?_getD,h]
theorem Yw{b:LB}(a w:Nat)(h:a+w<=b.length:=by omega):Bo b (a:Int) ((a+w:Nat):Int)=some (part b a w):=by
 rw[TF];rfl
theorem Ax7(b:LB)(r:Int)(h10:10<=b.length)(h0:0<=r)(h1:r<268435456):Yd b r=some (uh b r):=by
 have g5:Aj b (5:Int)=some (b.getD 5 0):=I1 (i:=5) F0;have key:∀n:Int,10<=n->n<268435500->JF b n=some (oT b n):=by
  intro n hn hn2;rw[JF,Akx,oT];by_cases c1:4000<n
  ·rw[B6 (by rw[Ar];simpa using c1),B6 c1]
  ·rw[B! (by rw[Ar];simpa using c1),B! c1];by_cases c2:(b.length:Int)<n
   ·rw[B6 (by rw[Ad,Ac];simpa using c2),B6 c2]
   ·have e3:Bo b (3:Int) (10:Int)=some (part b 3 7):=Yw 3 7;rw[B! (by rw[Ad,Ac];simpa using c2),B! c2,g5,Aa];by_cases c3:b.getD 5 0=16
    ·rw[B6 (by rw[TW];simpa using c3),Ca,TF,Aa,e3,Aa,Ay (by rw[Fs];simp),Aa];by_cases c4:(b.take n.toNat).drop (n-10).toNat=[51,68,73]++part b 3 7
     ·rw[B! (by simpa using c4),B! (by intro h;exact h.2 c4)]
     ·rw[B6 (by simpa using c4),B6 ⟨c3,c4⟩]
    ·rw[B! (by rw[TW];simpa using c3),B! (λh=>c3 h.1)]
 rw[Yd,Akd,g5,Aa,uh];by_cases c3:b.getD 5 0=16
 ·rw[B6 (by rw[TW];simpa using c3),Ag lX lX,Ag,key _ F0 F0,B6 c3,show 10+r+10=r+10+10 by omega]
 ·rw[B! (by rw[TW];simpa using c3),Ag,key _ F0 F0,B! c3,show 10+r=r+10+0 by omega]
theorem Avn(b:LB)(hb:b.length<4611686018427387904):HZ b=some (MK b):=by
 rw[HZ,JO,MK];by_cases h3:3<=b.length
 ·rw[B! F2,Dt,Aa];by_cases hp:b.take 3=[73,68,51]
  ·rw[B! (by simpa using hp),B! (by simp[h3,hp]),Alq,JZ];by_cases h10:b.length<10
   ·rw[B6 F2,B6 h10]
   ·have e6:Bo b (6:Int) (10:Int)=some (part b 6 4):=Yw 6 4;have g3:Aj b (3:Int)=some (b.getD 3 0):=I1 (i:=3) F0;have g4:Aj b (4:Int)=some (b.getD 4 0):=I1 (i:=4) F0;have g5:Aj b (5:Int)=some (b.getD 5 0):=I1 (i:=5) F0;obtain⟨v1,v2⟩:=pX (b:=part b 6 4) (Fs);rw[B! F2,B! h10,e6,Aa,Arn _ (Fs),Aa];have ht:=Ax7 b (mS (part b 6 4) 0).1 F0 v1 v2;generalize mS (part b 6 4) 0=v at*
    obtain⟨v,e⟩:=v;simp only at ht v1 v2⊢;simp only[Aa,g3,g4,g5,ht];generalize b.getD 3 0=x at*
    generalize b.getD 4 0=y at*
    generalize b.getD 5 0=z at*
    simp only[qK,Bb5,Awc,Am];by_cases he:e=0<;>by_cases hy:y=0<;>by_cases hz:z=0<;>by_cases hz2:z=16<;>by_cases hx:x=4<;>by_cases hx2:x.toNat<2<;>by_cases hx4:4<x.toNat<;>simp_all<;>(rw[B! F0,B! F0])
  ·rw[B6 (by simpa using hp),B6 (by simp[hp])]
 ·rw[B6 F2,B6 (by simp[h3])]
theorem wL(b:LB)(n:Int)(h10:10<=b.length)(hn:10<=n)(hn2:n<268435500):bO b (b.getD 5 0) n=some (oT b n):=by
 rw[bO,Bdm];by_cases c1:4000<n
 ·rw[B6 (by rw[Ar];simpa using c1),oT,B6 c1]
 ·rw[B! (by rw[Ar];simpa using c1)];by_cases c2:(b.length:Int)<n
  ·rw[B6 (by rw[Ad,Ac];simpa using c2),oT,B! c1,B6 c2]
  ·have e3:Bo b (3:Int) (10:Int)=some (part b 3 7):=Yw 3 7;rw[B! (by rw[Ad,Ac];simpa using c2)];by_cases c3:b.getD 5 0=16
   ·have hl:((b.take n.toNat).drop (n-10).toNat).length=10:=by simp;omega
    have ht:oT b n=if(b.take n.toNat).drop (n-10).toNat≠ [51,68,73]++part b 3 7 then(0,12)else(n,0):=by rw[oT,B! c1,B! c2];simp only[c3,Z3]
    rw[B6 (by rw[TW];simpa using c3),Ca,TF,Aa,ht];generalize(b.take n.toNat).drop (n-10).toNat=f at*
    rw[Dt,Aa,Dj,Aa,e3,Aa,Qb,Aa];have hf:f=f.take 3++f.drop 3:=(QQ 3 f).symm;by_cases c4:f=[51,68,73]++part b 3 7
    ·subst c4;simp
    ·by_cases c5:f.take 3=[51,68,73]
     ·have:f.drop 3≠part b 3 7:=λh=>c4 (by rw[hf,c5,h]);simp only[RK,I0]at c4;simp[c4,c5,this]
     ·simp only[RK,I0]at c4;simp[c4,c5]
   ·rw[B! (by rw[TW];simpa using c3),oT,B! c1,B! c2,B! (λh=>c3 h.1)]
theorem Au0(b:LB)(r:Int)(h10:10<=b.length)(h0:0<=r)(h1:r<268435456):cK b r (b.getD 5 0)=some (uh b r):=by
 rw[cK,Bdr,uh];by_cases c3:b.getD 5 0=16
 ·rw[B6 (by rw[TW];simpa using c3),Ag lX lX,Ag,wL b _ h10 F0 F0,B6 c3]
 ·rw[B! (by rw[TW];simpa using c3),Ag,wL b _ h10 F0 F0,B! c3];simp
theorem Arj(b:LB)(hb:b.length<4611686018427387904):dS b=some (MK b):=by
 rw[dS,OR,rQ,Aa];by_cases hp:3<=b.length/\b.take 3=[73,68,51]
 ·rw[B! (by simpa using hp)];by_cases h10:b.length<10
  ·rw[B6 F2,MK,B! (λh=>h hp),B6 h10]
  ·have e6:Bo b (6:Int) (10:Int)=some (part b 6 4):=Yw 6 4;have g3:Aj b (3:Int)=some (b.getD 3 0):=I1 (i:=3) F0;have g4:Aj b (4:Int)=some (b.getD 4 0):=I1 (i:=4) F0;have g5:Aj b (5:Int)=some (b.getD 5 0):=I1 (i:=5) F0;obtain⟨v1,v2⟩:=pX (b:=part b 6 4) (Fs);have ht:=Au0 b (mS (part b 6 4) 0).1 F0 v1 v2;rw[B! F2,g3,Aa,g5,Aa,bS,cJ,e6,Aa,Ala _ (Fs),Aa,MK,B! (λh=>h hp),B! h10];generalize mS (part b 6 4) 0=v at*
   obtain⟨v,e⟩:=v;simp only at ht v1 v2⊢;simp only[Aa,g4,bH,Bdb];generalize b.getD 3 0=x at*
   generalize b.getD 4 0=y at*
   generalize b.getD 5 0=z at*
   simp only[qK,Bc3,TW,Auk,Am];have e2:(2:UInt8).toNat=2:=rfl;have e4:(4:UInt8).toNat=4:=rfl;by_cases he:e=0<;>by_cases hy:y=0<;>by_cases hz:z=0<;>by_cases hz2:z=16<;>by_cases hx:x=4<;>by_cases hx2:2<=x.toNat<;>by_cases hx4:x.toNat<=4<;>simp_all
 ·rw[B6 (by rw[G6,N2];exact hp),MK,B6 hp]
theorem Awo{b:LB}{n:Int}(h:MK b=(n,0)):10<=n/\n<=b.length/\n<=4000:=by
 unfold MK at h;split at h; · simp at h
 split at h; · simp at h
 split at h; · simp at h
 rename_i h10 _;obtain⟨v1,v2⟩:=pX (b:=part b 6 4) (Fs);unfold uh at h;generalize hm:(mS (part b 6 4) 0).1+10+(if b.getD 5 0=16 then 10 else 0)=m at h;unfold oT at h;split at h; · simp at h
 split at h; · simp at h
 split at h; · simp at h
 simp only[C7,P8]at h;subst h;refine⟨?_,F0,F0⟩;rw[<-hm];split<;>omega
theorem WE{p:Prop}(h:p:=by rw[Ad,Ac];simp):p:=h
theorem N1{p:Prop}(h:p:=by rw[Fs];omega):p:=h
theorem dL{p:Prop}(h:p:=by rw[Dk];omega):p:=h
theorem S3{p:Prop}(h:p:=by simp[Dk]):p:=h
def J':LB:=[65,80,69,84,65,71,69,88]
def Xm(n m fl:Nat):LB:=J'++DZ 2000 4++DZ (n+32) 4++DZ m 4++DZ fl 4++List.replicate 8 0
theorem lZ{n:Nat}(h:n<18446744073709551616):(UInt64.ofNat n).toNat=n:=by rw[E6,C3 h]
theorem A8(n m:Int)(fl:UInt64)(c:UInt64)(i q:Nat)(acc:LB)(hi:i<6)(hc:Aj ([(2000:UInt64),(Ae (Af n (32:Int)):UInt64),(Ae m:UInt64),fl,(0:UInt64),(0:UInt64)]:LQ) (i:Int)=some c)(h:c.toNat<4294967296)(ha:acc.length<=1000000):
  QO n m fl (q+1) (i:Int) acc=QO n m fl q ((i+1:Nat):Int) (acc++DZ c.toNat 4):=by
 have hb:=iL c 4 F0 F0 (by simpa using h);rw[QO,rV,B6 F2,hc,Aa,Aa,show((4:Int))=((4:Nat):Int)from rfl,hb,Aa];simp only;rw[Ay dL,Aa,Ag];rfl
theorem j_(n m:Nat)(fl:UInt64)(hn:n<=3000)(hm:m<=1000)(hf:fl.toNat<4294967296):zM (n:Int) (m:Int) fl=some (Xm n m fl.toNat):=by
 have e1:(Ae (Af (n:Int) (32:Int)):UInt64).toNat=n+32:=by rw[Ag,show(n:Int)+32=((n+32:Nat):Int) by omega,Xv,lZ F0]
 have e2:(Ae (m:Int):UInt64).toNat=m:=by rw[Xv,lZ F0]
 have hF:As=(As-7)+1+1+1+1+1+1+1:=by have:=Aq;omega
 rw[zM,L5,Bhe,hF];rw[show((0:Int))=((0:Nat):Int)from rfl,A8 n m fl 2000 0 _ _ F0 rfl F5 B8,A8 n m fl _ 1 _ _ F0 rfl (by rw[e1];omega) S3,A8 n m fl _ 2 _ _ F0 rfl (by rw[e2];omega) S3,
  A8 n m fl fl 3 _ _ F0 rfl hf S3,A8 n m fl 0 4 _ _ F0 rfl F5 S3,A8 n m fl 0 5 _ _ F0 rfl F5 S3,e1,e2]
 rw[QO,rV,B! WE,J6,Ae5,Xm];have z:DZ (0:UInt64).toNat 4++DZ (0:UInt64).toNat 4=List.replicate 8 0:=F5
 have z2:DZ (2000:UInt64).toNat 4=DZ 2000 4:=rfl;rw[F_ _ (DZ (0:UInt64).toNat 4),z,z2];rfl
theorem W5(n m:Nat)(fl:UInt64)(hn:n<=3000)(hm:m<=1000)(hf:fl.toNat<4294967296):Vm (n:Int) (m:Int) fl=some (Xm n m fl.toNat):=by
 have e1:(Ae (Af (n:Int) (32:Int)):UInt64).toNat=n+32:=by rw[Ag,show(n:Int)+32=((n+32:Nat):Int) by omega,Xv,lZ F0]
 have e2:(Ae (m:Int):UInt64).toNat=m:=by rw[Xv,lZ F0]
 have w:∀c:UInt64,Bf c 4=some (DZ c.toNat 4):=λc=>sI c 4 F0;have z2:DZ (2000:UInt64).toNat 4=DZ 2000 4:=rfl;rw[Vm];simp only[w,e1,e2,Aa];rw[Ay S3,Aa,Ay S3,Aa,Ay S3,Aa,Ay S3,Aa,yF,Aa,Ay S3,Aa,z2];rfl
theorem eT{b:LB}{a w k:Nat}(h:a+w<=k):part (b.take k) a w=part b a w:=by rw[part,part,cP,MJ h]
def RY(b:LB):Bool:=decide (Hl (part b 12 4)<32\/3032<Hl (part b 12 4)\/1000<Hl (part b 16 4))
theorem Av4(b:LB)(h:20<=b.length):(((Cj (E7 (part b 12 4)) (32:UInt64))||(Ec (E7 (part b 12 4)) (3032:UInt64)))||(Ec (E7 (part b 16 4)) (1000:UInt64)))=RY b:=by
 rw[P',kW,kW,mA N1,mA N1,RY];show((decide (Hl (part b 12 4)<32)||decide (3032<Hl (part b 12 4)))||decide (1000<Hl (part b 16 4)))=_;simp[Bool.or_assoc]
theorem Z4(b:LB)(h:20<=b.length)(hb:RY b=false):Ap (Ae (E7 (part b 12 4)):Int) (32:Int)=((Hl (part b 12 4)-32:Nat):Int)/\ (Ae (E7 (part b 16 4)):Int)=((Hl (part b 16 4):Nat):Int)/\Hl (part b 12 4)-32<=3000/\Hl (part b 16 4)<=1000:=by
 simp only[RY,N2]at hb;refine⟨?_,ZI N1,F0,F0⟩;rw[ZI N1,Ca];omega
theorem sE(b:LB)(fl:UInt64)(h:20<=b.length)(hl:b.length<4611686018427387904)(hf:fl.toNat<4294967296):
  eX b fl=some (if RY b=true then(0,0,false)else(((Hl (part b 12 4)-32:Nat):Int),((Hl (part b 16 4):Nat):Int),b==Xm (Hl (part b 12 4)-32) (Hl (part b 16 4)) fl.toNat)):=by
 have a1:pQ b 12 4=some (E7 (part b 12 4),0):=WK b 12 4 F0 F0 F0 hl;have a2:pQ b 16 4=some (E7 (part b 16 4),0):=WK b 16 4 F0 F0 F0 hl;rw[eX,a1,Aa];simp only;rw[a2,Aa];simp only;rw[Av4 b h];cases hb:RY b with
 |true=>rfl
 |false=>
  obtain⟨i1,i2,i3,i4⟩:=Z4 b h hb;rw[i1,i2,j_ _ _ _ i3 i4 hf];rfl
theorem Af5(b:LB)(h:20<=b.length)(hl:b.length<4611686018427387904):
  Sk b=some (if RY b=true then(0,0,false)else(((Hl (part b 12 4)-32:Nat):Int),((Hl (part b 16 4):Nat):Int),true)):=by
 have a1:Bo b 12 16=some (part b 12 4):=Yw 12 4;have a2:Bo b 16 20=some (part b 16 4):=Yw 16 4;rw[Sk,a1,Aa,ZU _ N1,Aa,a2,Aa,ZU _ N1,Aa,Av4 b h];cases hb:RY b with
 |true=>rfl
 |false=>
  obtain⟨i1,i2,i3,i4⟩:=Z4 b h hb;rw[i1,i2];rfl
def Qd(b:LB):Int×Int:=
 if ¬(8<=b.length/\b.take 8=J')then(0,6)else if b.length<32 then(0,24)else
 if RY b=true\/b.take 32≠Xm (Hl (part b 12 4)-32) (Hl (part b 16 4)) 2684354560 then(0,12)else
 if b.length<Hl (part b 12 4)+32 then(0,24)else
 if(b.take (Hl (part b 12 4)+32)).drop (Hl (part b 12 4))≠Xm (Hl (part b 12 4)-32) (Hl (part b 16 4)) 2147483648 then(0,12)else(((Hl (part b 12 4)+32:Nat):Int),0)
theorem Ahc(b:LB):RY (b.take 32)=RY b:=by rw[RY,RY,eT F0,eT F0]
section
variable {b:LB}
theorem fa1(h:¬(8<=b.length/\b.take 8=J')):Qd b=(0,6):=by rw[Qd,B6 h]
theorem fa2(h:8<=b.length/\b.take 8=J')(h2:b.length<32):Qd b=(0,24):=by rw[Qd,B! (λh'=>h' h),B6 h2]
variable (h:8<=b.length/\b.take 8=J') (h2:¬b.length<32)
include h h2
theorem fa3(h3:RY b=true):Qd b=(0,12):=by rw[Qd,B! (λh'=>h' h),B! h2,B6 (.inl h3)]
theorem fa4(h4:b.take 32≠Xm (Hl (part b 12 4)-32) (Hl (part b 16 4)) 2684354560):Qd b=(0,12):=by rw[Qd,B! (λh'=>h' h),B! h2,B6 (.inr h4)]
variable (h3:RY b=false) (h4:b.take 32=Xm (Hl (part b 12 4)-32) (Hl (part b 16 4)) 2684354560)
include h3 h4
theorem fa5(h5:b.length<Hl (part b 12 4)+32):Qd b=(0,24):=by
 rw[Qd,B! (λh'=>h' h),B! h2,B! (λh'=>h'.elim (λe=>by rw[h3]at e;cases e) λe=>e h4),B6 h5]
theorem fa6(h5:¬b.length<Hl (part b 12 4)+32)(h6:(b.take (Hl (part b 12 4)+32)).drop (Hl (part b 12 4))≠Xm (Hl (part b 12 4)-32) (Hl (part b 16 4)) 2147483648):Qd b=(0,12):=by
 rw[Qd,B! (λh'=>h' h),B! h2,B! (λh'=>h'.elim (λe=>by rw[h3]at e;cases e) λe=>e h4),B! h5,B6 h6]
theorem fa7(h5:¬b.length<Hl (part b 12 4)+32)(h6:(b.take (Hl (part b 12 4)+32)).drop (Hl (part b 12 4))=Xm (Hl (part b 12 4)-32) (Hl (part b 16 4)) 2147483648):Qd b=(((Hl (part b 12 4)+32:Nat):Int),0):=by
 rw[Qd,B! (λh'=>h' h),B! h2,B! (λh'=>h'.elim (λe=>by rw[h3]at e;cases e) λe=>e h4),B! h5,B! (λh'=>h' h6)]
end
theorem Ak4(b:LB)(hl:b.length<4611686018427387904):zQ b=some (Qd b):=by
 rw[zQ,rQ,Aa];by_cases hp:8<=b.length/\b.take 8=J'
 ·rw[B! (by simpa [J']using hp)];by_cases h32:b.length<32
  ·rw[B6 F2,fa2 hp h32]
  ·have t:=sE (b.take 32) 2684354560 F6 F6 F5;rw[Ahc,eT F0,eT F0]at t;rw[B! F2,Dt,Aa,show(32:Int).toNat=32 from rfl,t,Aa];cases hb:RY b with
   |true=>rw[fa3 hp h32 hb];simp
   |false=>
    obtain⟨i1,i2,i3,i4⟩:=Z4 b F0 hb;have i5:32<=Hl (part b 12 4):=by simp only[RY,N2]at hb;omega
    simp only[L_,H5,false_or];by_cases c1:b.take 32=Xm (Hl (part b 12 4)-32) (Hl (part b 16 4)) 2684354560
    ·have c1':b.take 32=Xm (Hl (part b 12 4)-32) (Hl (part b 16 4)) (2684354560:UInt64).toNat:=c1;rw[B! (by simpa using c1'),Ag];have e1:((Hl (part b 12 4)-32:Nat):Int)+64=((Hl (part b 12 4)+32:Nat):Int):=F0
     rw[e1];by_cases c2:b.length<Hl (part b 12 4)+32
     ·rw[B6 F2,fa5 hp h32 hb c1 c2]
     ·rw[B! F2,Ca,TF,Aa,j_ _ _ _ i3 i4 F5,Aa,Qb,Aa];rw[show(((Hl (part b 12 4)+32:Nat):Int)).toNat=Hl (part b 12 4)+32 by omega,show(((Hl (part b 12 4)+32:Nat):Int)-32).toNat=Hl (part b 12 4) by omega];by_cases c3:(b.take (Hl (part b 12 4)+32)).drop (Hl (part b 12 4))=Xm (Hl (part b 12 4)-32) (Hl (part b 16 4)) 2147483648
      ·have c3':(b.take (Hl (part b 12 4)+32)).drop (Hl (part b 12 4))=Xm (Hl (part b 12 4)-32) (Hl (part b 16 4)) (2147483648:UInt64).toNat:=c3;rw[B! (by simpa using c3'),fa7 hp h32 hb c1 c2 c3]
      ·have c3':¬(b.take (Hl (part b 12 4)+32)).drop (Hl (part b 12 4))=Xm (Hl (part b 12 4)-32) (Hl (part b 16 4)) (2147483648:UInt64).toNat:=c3;rw[B6 (by simpa using c3'),fa6 hp h32 hb c1 c2 c3]
    ·have c1':¬b.take 32=Xm (Hl (part b 12 4)-32) (Hl (part b 16 4)) (2684354560:UInt64).toNat:=c1;rw[B6 (by simpa using c1'),fa4 hp h32 c1]
 ·rw[B6 (by rw[G6,N2];exact hp),fa1 hp]
theorem Aqh(b:LB)(hl:b.length<4611686018427387904):ED b=some (Qd b):=by
 rw[ED,Afu];by_cases h8:8<=b.length
 ·rw[B! F2,Dt,Aa,show(8:Int).toNat=8 from rfl];by_cases ha:b.take 8=J'
  ·have hp:=And.intro h8 ha;rw[B! (by simpa [J']using ha),Aiq,Agy];by_cases h32:b.length<32
   ·rw[B6 F2,fa2 hp h32]
   ·have t:=Af5 (b.take 32) F6 F6;rw[Ahc,eT F0,eT F0]at t;rw[B! F2,Dt,Aa,show(32:Int).toNat=32 from rfl,t,Aa];cases hb:RY b with
    |true=>rw[fa3 hp h32 hb];simp
    |false=>
     obtain⟨i1,i2,i3,i4⟩:=Z4 b F0 hb;have i5:32<=Hl (part b 12 4):=by simp only[RY,N2]at hb;omega
     simp only[L_,H5,false_or,Aa,S_];rw[Yl,W5 _ _ _ i3 i4 F5,Aa,Aa];by_cases c1:b.take 32=Xm (Hl (part b 12 4)-32) (Hl (part b 16 4)) 2684354560
     ·have c1':b.take 32=Xm (Hl (part b 12 4)-32) (Hl (part b 16 4)) (2684354560:UInt64).toNat:=c1;rw[B! (by simpa using c1'),Ak1,Aiu,Ag];have e1:64+((Hl (part b 12 4)-32:Nat):Int)=((Hl (part b 12 4)+32:Nat):Int):=F0
      rw[e1];by_cases c2:b.length<Hl (part b 12 4)+32
      ·rw[B6 F2,fa5 hp h32 hb c1 c2]
      ·rw[B! F2,Ca,TF,Aa,Gu,B6 rfl,W5 _ _ _ i3 i4 F5,Aa,Aa];rw[show(((Hl (part b 12 4)+32:Nat):Int)).toNat=Hl (part b 12 4)+32 by omega,show(((Hl (part b 12 4)+32:Nat):Int)-32).toNat=Hl (part b 12 4) by omega];by_cases c3:(b.take (Hl (part b 12 4)+32)).drop (Hl (part b 12 4))=Xm (Hl (part b 12 4)-32) (Hl (part b 16 4)) 2147483648
       ·have c3':(b.take (Hl (part b 12 4)+32)).drop (Hl (part b 12 4))=Xm (Hl (part b 12 4)-32) (Hl (part b 16 4)) (2147483648:UInt64).toNat:=c3;rw[B! (by simpa using c3'),fa7 hp h32 hb c1 c2 c3]
       ·have c3':¬(b.take (Hl (part b 12 4)+32)).drop (Hl (part b 12 4))=Xm (Hl (part b 12 4)-32) (Hl (part b 16 4)) (2147483648:UInt64).toNat:=c3;rw[B6 (by simpa using c3'),fa6 hp h32 hb c1 c2 c3]
     ·have c1':¬b.take 32=Xm (Hl (part b 12 4)-32) (Hl (part b 16 4)) (2684354560:UInt64).toNat:=c1;rw[B6 (by simpa using c1'),fa4 hp h32 c1]
  ·rw[B6 (by simpa [J']using ha),fa1 (λh=>ha h.2)]
 ·rw[B6 F2,fa1 (λh=>h8 h.1)]
theorem Aru{b:LB}{n:Int}(h:Qd b=(n,0)):64<=n/\n<=b.length:=by
 unfold Qd at h;split at h; · simp at h
 split at h; · simp at h
 split at h; · simp at h
 rename_i hb;split at h; · simp at h
 split at h; · simp at h
 simp only[C7,P8]at h;have hb':¬RY b=true:=λe=>hb (.inl e);simp only[RY,B?]at hb';omega
def Dq(b:LB):Int×Int:=if(MK b).2≠6 then MK b else Qd b
theorem size_eq(b:LB)(hl:b.length<4611686018427387904):JV b=some (Dq b):=by
 rw[JV,Arj b hl,Aa,Ak4 b hl];by_cases h:(MK b).2=6
 ·simp[Dq,h,Am]
 ·simp[Dq,h,Am]
theorem xW{b:LB}{n:Int}(h:Dq b=(n,0)):10<=n/\n<=b.length:=by
 unfold Dq at h;split at h
 ·have:=Awo h;omega
 ·have:=Aru h;omega
def Dc(b:LB):Nat->Nat->LI×Int
 |0,_=>([],6)
 |j+1,p=>if(Dq (b.drop p)).2=6 then([],0)else if(Dq (b.drop p)).2≠0 then([],(Dq (b.drop p)).2)else
  if 4000<(p:Int)+(Dq (b.drop p)).1 then([],4)else
  if(Dc b j (p+(Dq (b.drop p)).1.toNat)).2=0 then((Dq (b.drop p)).1::(Dc b j (p+(Dq (b.drop p)).1.toNat)).1,0)else([],(Dc b j (p+(Dq (b.drop p)).1.toNat)).2)
theorem B2(b:LB):∀(j p:Nat),p<=b.length->p<=4000-> (Dc b j p).2=0-> (∀x∈(Dc b j p).1,10<=x)/\ (p:Int)+(Dc b j p).1.sum<=b.length/\ (p:Int)+(Dc b j p).1.sum<=4000
 |0,p,_,_,h=>by simp[Dc]at h
 |j+1,p,hp,hq,h=>by
  rw[Dc]at h⊢;split at h
  ·rename_i h6;rw[B6 h6];simp;omega
  ·rename_i h6;split at h
   ·rename_i h0;exact absurd h h0
   ·rename_i h0;rw[B! h6,B! h0];have hz:Dq (b.drop p)=((Dq (b.drop p)).1,0):=by rw[ku];exact⟨rfl,Classical.not_not.1 h0⟩
    have hs:=xW hz;rw[D8]at hs;split at h
    ·simp at h
    ·rename_i h4;rw[B! h4];split at h
     ·rename_i h00;rw[B6 h00];obtain⟨i1,i2,i3⟩:=B2 b j _ F0 F0 h00;refine⟨λx hx=>?_,?_,?_⟩
      ·rcases List.mem_cons.1 hx with rfl|hx
       ·exact hs.1
       ·exact i1 x hx
      ·simp only[K1];omega
      ·simp only[K1];omega
     ·rename_i h00;exact absurd h h00
def RF(b:LB)(j p:Nat):Int×Int:=if(Dc b j p).2=0 then((p:Int)+(Dc b j p).1.sum,0)else(0,(Dc b j p).2)
theorem Abg (b:LB)(hl:b.length<4611686018427387904):∀(j p q:Nat),p<=b.length->p<=4000->b.length-p<j->j<=q->FZ b q (p:Int)=some (RF b j p)
 |0,p,q,_,_,h,_=>by omega
 |j+1,p,q,hp,hp4,hj,hq=>by
  obtain⟨q,rfl⟩:∃k,q=k+1:=⟨q-1,F0⟩;rw[FZ,Dj,Aa,D0,size_eq _ F6,Aa,Ax,Ax,Am,RF];by_cases h6:(Dq (b.drop p)).2=6
  ·rw[B6 (by simpa using h6)];have:Dc b (j+1) p=([],0):=by rw[Dc,B6 h6]
   rw[this];simp
  ·rw[B! (by simpa using h6)];by_cases h0:(Dq (b.drop p)).2=0
   ·have hz:Dq (b.drop p)=((Dq (b.drop p)).1,0):=by rw[ku];exact⟨rfl,h0⟩
    have hs:=xW hz;rw[D8]at hs;rw[Ag,Ar];by_cases h4:4000<(p:Int)+(Dq (b.drop p)).1
    ·rw[B6 (by simp[h0];omega)];have:Dc b (j+1) p=([],4):=by rw[Dc,B! h6,B! (λh=>h h0),B6 h4]
     rw[this];simp
    ·rw[B! (by simp[h0];omega),B! (by simpa using h0)];have ih:=Abg b hl j (p+(Dq (b.drop p)).1.toNat) q F0 F0 F0 F0;rw[show(p:Int)+(Dq (b.drop p)).1=((p+(Dq (b.drop p)).1.toNat:Nat):Int) by omega,ih,RF];have:Dc b (j+1) p=if(Dc b j (p+(Dq (b.drop p)).1.toNat)).2=0 then((Dq (b.drop p)).1::(Dc b j (p+(Dq (b.drop p)).1.toNat)).1,0)else([],(Dc b j (p+(Dq (b.drop p)).1.toNat)).2):=by
      rw[Dc,B! h6,B! (λh=>h h0),B! h4]
     rw[this];by_cases hr:(Dc b j (p+(Dq (b.drop p)).1.toNat)).2=0
     ·simp only[hr,NW,K1];congr 2;omega
     ·simp only[hr,H5]
   ·rw[B! (by simp[h0]),B6 (by simpa using h0)];have:Dc b (j+1) p=([],(Dq (b.drop p)).2):=by rw[Dc,B! h6,B6 h0]
    rw[this];simp[h0]
def aI(b:LB)(j p:Nat)(xs:LI):LI×Int:=if(Dc b j p).2=0 then(xs++(Dc b j p).1,0)else([],(Dc b j p).2)
theorem Atj(bk:Int->LI->Option (LI×Int))(b:LB)(p:Nat)(hp:p<=b.length)(xs:LI)(hx:xs.length<=4000)(hl:b.length<4611686018427387904):Wx (Qj bk b) b (p:Int) xs=Qj bk b (p:Int) xs (Dq (b.drop p)).1 (Dq (b.drop p)).2:=by
 have hf:=Aqh (b.drop p) F6;rw[Wx,Dj,Aa,D0,Avn _ F6,Aa];by_cases h:(MK (b.drop p)).2=6
 ·simp[Dq,h,Ax,hf]
 ·simp[Dq,h,Ax]
theorem y_(b:LB)(hl:b.length<4611686018427387904):∀(j p q:Nat) (xs:LI),p<=b.length->p<=4000->b.length-p<j->j<=q->xs.length<=p->Qf b q (p:Int) xs=some (aI b j p xs)
 |0,p,q,_,_,_,h,_,_=>by omega
 |j+1,p,q,xs,hp,hp4,hj,hq,hx=>by
  obtain⟨q,rfl⟩:∃k,q=k+1:=⟨q-1,F0⟩;rw[Qf,Atj _ b p hp xs F0 hl,Qj,Aik,Ax,Am,aI];by_cases h6:(Dq (b.drop p)).2=6
  ·rw[B6 (by simpa using h6)];have:Dc b (j+1) p=([],0):=by rw[Dc,B6 h6]
   rw[this];simp
  ·rw[B! (by simpa using h6)];by_cases h0:(Dq (b.drop p)).2=0
   ·have hz:Dq (b.drop p)=((Dq (b.drop p)).1,0):=by rw[ku];exact⟨rfl,h0⟩
    have hs:=xW hz;rw[D8]at hs;rw[B! (by simpa using h0),Ag,Ar];by_cases h4:4000<(p:Int)+(Dq (b.drop p)).1
    ·rw[B6 F6];have:Dc b (j+1) p=([],4):=by rw[Dc,B! h6,B! (λh=>h h0),B6 h4]
     rw[this];simp
    ·rw[B! F6,Ay F6,Aa];have ih:=y_ b hl j (p+(Dq (b.drop p)).1.toNat) q (xs++[(Dq (b.drop p)).1]) F0 F0 F0 F0 F6;rw[show(p:Int)+(Dq (b.drop p)).1=((p+(Dq (b.drop p)).1.toNat:Nat):Int) by omega,ih,aI];have:Dc b (j+1) p=if(Dc b j (p+(Dq (b.drop p)).1.toNat)).2=0 then((Dq (b.drop p)).1::(Dc b j (p+(Dq (b.drop p)).1.toNat)).1,0)else([],(Dc b j (p+(Dq (b.drop p)).1.toNat)).2):=by
      rw[Dc,B! h6,B! (λh=>h h0),B! h4]
     rw[this];by_cases hr:(Dc b j (p+(Dq (b.drop p)).1.toNat)).2=0
     ·simp only[hr,NW];simp
     ·simp only[hr,H5]
   ·rw[B6 (by simpa using h0)];have:Dc b (j+1) p=([],(Dq (b.drop p)).2):=by rw[Dc,B! h6,B6 h0]
    rw[this];simp[h0]
theorem I':∀{l:LI},(∀x∈l,10<=x)->0<=l.sum/\ (l.length:Int)<=l.sum
 |[],_=>by simp
 |x::l,h=>by
  have h1:=h x M9;have h2:=I' (l:=l) λy hy=>h y (J_ _ hy);simp only[K1,E8];omega
theorem X_(r:Int)(l:LI)(hl:l.length<=4000)(hx:∀x∈l,10<=x):∀(j i q:Nat) (n:Int),i+j=l.length->j<q->0<=n->n+(l.drop i).sum<=4000->Ll r l q n (i:Int)=some (n+(l.drop i).sum,r)
 |0,i,q+1,n,hi,_,_,_=>by
  rw[Ll,Wh,B! F2,show i=l.length by omega,OH];simp[HR,Aft]
 |j+1,i,q+1,n,hi,hq,hn,hs=>by
  have hlt:i<l.length:=F0
  rw[drop_cons hlt,K1]at hs⊢;have h1:=hx l[i] (G8 hlt);have h2:=I' (l:=l.drop (i+1)) λy hy=>hx y (TO hy);rw[Ll,Wh,B6 F2,Bl hlt,Aa,Aa,Ag,Ag];have ih:=X_ r l hl hx j (i+1) q (n+l[i]) F0 F0 F0 F0;rw[show((i:Int)+1)=((i+1:Nat):Int) by omega,ih];congr 2;omega
def Eo(b:LB):Int×Int:=RF b (b.length+1) 0
theorem fK(b:LB)(hl:b.length<4611686018427387904):Rv b=some (Eo b):=by
 have:=Abg b hl (b.length+1) 0 As F0 F0 F0 F7;exact this
theorem rO(b:LB)(hl:b.length<4611686018427387904):Wg b=some (Eo b):=by
 have h:=y_ b hl (b.length+1) 0 As [] F0 F0 F0 F7 B8;have h':PL b=some (aI b (b.length+1) 0 []):=h;rw[Wg,HB,h',Aa,Eo,RF,aI];have ho:=B2 b (b.length+1) 0 F0 F0;by_cases h0:(Dc b (b.length+1) 0).2=0
 ·obtain⟨i1,i2,i3⟩:=ho h0;have hp:=I' i1;simp only[h0,NW,I0];have:=X_ 0 (Dc b (b.length+1) 0).1 F0 i1 (Dc b (b.length+1) 0).1.length 0 As 0 F0 F7 F0 (by simpa using i3);simpa [GG]using this
 ·simp only[h0,H5];have:=X_ (Dc b (b.length+1) 0).2 [] B8 B8 0 0 As 0 B8 F7 F0 B8;simpa [GG]using this
theorem eW{b:LB}(h:(Eo b).2=0):0<= (Eo b).1/\ (Eo b).1<=b.length/\ (Eo b).1<=4000:=by
 unfold Eo RF at h⊢;split at h
 ·rename_i h0;rw[B6 h0];obtain⟨i1,i2,i3⟩:=B2 b (b.length+1) 0 F0 F0 h0;have hp:=I' i1;exact⟨by simp;omega,i2,i3⟩
 ·rename_i h0;exact absurd h h0
theorem S1{p:Prop}(h:p:=by rw[Ad,Ac,Ac];simp;omega):p:=h
def Ak(r:Nat):Nat:=max 1 (256*r/245)
theorem Hb(r:Nat):1<=Ak r:=Nat.le_max_left _ _
theorem KE{r:Nat}(h:r<=1048576):Ak r<=1100000:=by unfold Ak;omega
theorem O? {r:Nat}(h:r<=1048576):jQ (1:Int) (Bs (Bn (256:Int) (r:Int)) (245:Int))=(Ak r:Int):=by
 rw[Ea,YC,TM F0,Dp F0 F0,jw,Ak];omega
def Az(g n:Nat):LI:=List.replicate ((n-1)/g) (g:Int)++[((n-(n-1)/g*g:Nat):Int)]
theorem wM(g n:Nat):(Az g n).length=(n-1)/g+1:=by simp[Az]
theorem Aa3{g n:Nat}(h:n<=g)(h1:1<=n):Az g n=[(n:Int)]:=by
 rw[Az,P! F0];simp
theorem Ajw{g n:Nat}(hg:1<=g)(h:g<n):Az g n=(g:Int)::Az g (n-g):=by
 have e:(n-1)/g=(n-g-1)/g+1:=by rw[<-uw _ F0];congr 1;omega
 rw[Az,Az,e,QR,RK];congr 4;have:=SY (n-g-1) g;rw[C6,HV];omega
theorem Abo{g n:Nat}(hg:1<=g)(h1:1<=n):(n+g-1)/g=(n-1)/g+1:=by
 rw[<-uw _ F0];congr 1;omega
theorem eS{r:Nat}(h1:1<=r)(h:r<=1048576):Un (r:Int)=some ((Ak r:Int),0):=by
 rw[Un,B! H7,O? h]
theorem Aui{r:Nat}(h:r<=1048576):Ys (r:Int)=some (Ak r:Int):=by rw[Ys,O? h]
theorem Ak2{r n:Nat}(h1:1<=r)(h:r<=1048576)(n1:1<=n)(n2:n<=4000):NZ (r:Int) (n:Int)=some (if 1000<(n-1)/Ak r+1 then(0,4)else((((n-1)/Ak r+1:Nat):Int),0)):=by
 have hp:=Hb r;have hl:=KE h;have e:Bs (Ap (Af (n:Int) (Ak r:Int)) (1:Int)) (Ak r:Int)=(((n-1)/Ak r+1:Nat):Int):=by
  have:(n+Ak r-1)/Ak r<=n+Ak r-1:=G9 _ _;rw[Ag,Ca,YC,TM F0,show(n:Int)+(Ak r:Int)-1=((n+Ak r-1:Nat):Int) by omega,<-vF,Abo hp n1];rw[Abo hp n1]at this;generalize(n-1)/Ak r=k at*
  exact Dp F0 F0
 rw[NZ,eS h1 h,Aa];simp only;rw[B! D7,B! H7,Bz E?,Aa,e];by_cases hk:1000<(n-1)/Ak r+1
 ·rw[B6 E5,B6 hk]
 ·rw[B! E5,B! hk]
theorem Aek {r:Nat}(h:r<=1048576):∀(j n q:Nat) (acc:LI),n<=4000->n<=j->j<q->acc.length+n<=10000->Fu (r:Int) q (n:Int) acc=some (acc++(if n=0 then []else Az (Ak r) n))
 |0,n,q+1,acc,hn,hj,hq,ha=>by
  obtain rfl:n=0:=F0
  rw[Fu,Lq,B! S0];simp[Qm,Wl]
 |j+1,n,q+1,acc,hn,hj,hq,ha=>by
  have hp:=Hb r;have hl:=KE h;by_cases h0:n=0
  ·subst h0;rw[Fu,Lq,B! S0];simp[Qm,Wl]
  ·rw[Fu,Lq,B6 E5,Aui h,Aa,Ay F6,Aa,Aa,Ca,Zp];by_cases hs:n<=Ak r
   ·rw[show min (n:Int) (Ak r:Int)=(n:Int) by omega,B! h0,Aa3 hs F0];have hz:∃k,q=k+1:=⟨q-1,F0⟩;obtain⟨q,rfl⟩:=hz;rw[Fu,Lq,B! E5];simp[Qm,Wl]
   ·rw[show min (n:Int) (Ak r:Int)=(Ak r:Int) by omega,show(n:Int)-(Ak r:Int)=((n-Ak r:Nat):Int) by omega,Aek h j (n-Ak r) q _ F0 F0 F0 F6,B! F0,B! h0,Ajw hp (show Ak r<n by omega)];simp
theorem w!{r n:Nat}(h:r<=1048576)(n1:1<=n)(n2:n<=4000):Mm (r:Int) (n:Int)=some (Az (Ak r) n):=by
 have:=Aek h n n As [] n2 (D3 _) F7 F6;rw[Mm,HA,Afp,this,B! F0];rfl
theorem mul_one(m:Nat)(h:m<=100000):ZJ (1:UInt64) (UInt64.ofNat m)=some (0,UInt64.ofNat m):=by
 have y1:(UInt64.ofNat m).toNat=m:=lZ F0;have s1:Cx (1:UInt64) (GI.toZ (32:UInt64)).toNat=0:=F5
 have s2:Cx (UInt64.ofNat m) (GI.toZ (32:UInt64)).toNat=0:=by
  apply UInt64.toNat_inj.1;rw[VP,y1];exact P! (QS h F5)
 have s0:Cx (0:UInt64) (GI.toZ (32:UInt64)).toNat=0:=F5
 have a1:Gv (1:UInt64) (4294967295:UInt64)=1:=F5
 have a0:Gv (0:UInt64) (4294967295:UInt64)=0:=F5
 have a2:Gv (UInt64.ofNat m) (4294967295:UInt64)=UInt64.ofNat m:=by
  apply UInt64.toNat_inj.1;rw[D?,kL,y1]
  show m&&& (2^32-1)=m;rw[aX,C3 F0]
 have m1:∀x:UInt64,Bn 1 x=x:=λx=>by rw[aH,UInt64.one_mul]
 have m0:∀x:UInt64,Bn 0 x=0:=λx=>by rw[aH,UInt64.zero_mul]
 have p0:∀x:UInt64,Af 0 x=x:=λx=>by rw[aM,UInt64.zero_add]
 have p1:∀x:UInt64,Af x 0=x:=λx=>by rw[aM,UInt64.add_zero]
 rw[ZJ,cA];simp only[s1,s2,a1,a2,m1,m0,p0,p1,s0,a0,Aa]
theorem Bc7(v:Int)(m:Nat)(hm:m<=100000):∀(j n q:Nat),1<=n->n<=m->m-n<=j->j<q->Hq q (n:Int) (List.replicate n v++List.replicate (m-n) 0)=some (List.replicate m v)
 |j,n,q+1,hn,hnm,hj,hq=>by
  have hlen:Ac (List.replicate n v++List.replicate (m-n) 0)=(m:Int):=by simp[Ac];omega
  rw[Hq,Ma,hlen];by_cases h:n<m
  ·obtain⟨j,rfl⟩:∃k,j=k+1:=⟨j-1,F0⟩;rw[B6 F9];have v1:pE (m:Int) (n:Int) (m:Int)=some ():=by rw[pE,Bz];simp;omega
   have v2:pE (m:Int) (0:Int) (n:Int)=some ():=by rw[pE,Bz];simp;omega
   have e1:jS (List.replicate n v++List.replicate (m-n) 0) (0:Int) ((n:Int)-0)=List.replicate n v:=by
    simp[jS]
   rw[v1,Aa,v2,Aa,e1];have e2:iI ((m:Int)-(n:Int)) (List.replicate n v).length=((min n (m-n):Nat):Int):=by
    rw[iI,JN];split<;>omega
   have e3:JI (List.replicate n v++List.replicate (m-n) 0) (n:Int) ((m:Int)-(n:Int)) (List.replicate n v)=List.replicate (n+min n (m-n)) v++List.replicate (m-(n+min n (m-n))) 0:=by
    have t1:((m:Int)-(n:Int)).toNat=m-n:=F0
    have t2:(List.replicate n v++List.replicate (m-n) (0:Int)).take n=List.replicate n v:=by simp
    rw[JI,t1,D0,t2,List.take_replicate,JN,<-F_,List.replicate_append_replicate,vB,JN,Nat.min_comm (m-n) n];simp only[List.drop_replicate];rw[show n-(n+min n (m-n))=0 by omega,List.replicate_zero,I0,show m-n-(n+min n (m-n)-n)=m-(n+min n (m-n)) by omega]
   rw[e2,e3,Ag,show(n:Int)+((min n (m-n):Nat):Int)=((n+min n (m-n):Nat):Int) by omega];exact Bc7 v m hm j (n+min n (m-n)) q F0 F0 F0 F0
  ·rw[B! F9];obtain rfl:n=m:=F0
   simp[Qe,Xe]
theorem Arz(v:Int)(m:Nat)(hm:m<=100000):Wz [v] (m:Int)=some (List.replicate m v):=by
 have y1:(UInt64.ofNat m).toNat=m:=lZ F0;have c1:(Ae (Ac [v]):UInt64)=1:=by rfl
 have c2:(Ae (m:Int):UInt64)=UInt64.ofNat m:=Xv m;have c3:(Ae (UInt64.ofNat m):Int)=(m:Int):=by rw[B4 F0,y1]
 rw[Wz,AD,B! I!,Ac2,Zq,c1,c2,mul_one m hm,Aa];simp only;rw[B! (by rw[kW,kW,y1];simp;show m<=9223372036854775807;omega),Ac0,AG,c3,yF,Aa,Bz T8,Aa,Ac1,D0];by_cases h0:m=0
 ·subst h0;have hF:As=(As-1)+1:=by have:=Aq;omega
  rw[hF,Hq,Ma];simp[Ac,dJ,iI,Ad,Qe,Xe]
 ·have:=Bc7 v m hm m 1 As F0 F0 F0 F7;have e1:iI (Ac (List.replicate m (0:Int))) [v].length=((1:Nat):Int):=by simp[iI,Ac];omega
  have e2:dJ (List.replicate m (0:Int)) [v]=List.replicate 1 v++List.replicate (m-1) 0:=by
   obtain⟨k,rfl⟩:∃k,m=k+1:=⟨m-1,F0⟩;simp[dJ]
  rw[e1,e2,this]
theorem Ard(l m:LI)(h:l.length+m.length<=1000000):Wj [l,m]=some (l++m):=by
 have hF:As=(As-3)+1+1+1:=by have:=Aq;omega
 rw[Wj,AA,Abs];have g0:Aj [l,m] (0:Int)=some l:=rfl;have g1:Aj [l,m] (1:Int)=some m:=rfl;have l2:Ac [l,m]=2:=rfl;have h3:Xj [l,m] []=some (l++m):=by
  rw[Xj,Xf,Xi,hF,Ha,Ks,l2,B6 F5,g0,Aa,Ay F6,Aa,I0,show Af (0:Int) 1=1 by decide,
   Ha,Ks,l2,B6 F5,g1,Aa,Ay,Aa,show Af (1:Int) 1=2 by decide,Ha,Ks,l2,B! F5]
  rfl
 rw[hF,Hp,Ly,l2,B6 F5,g0,Aa,Ag O4 O4,B! WE,show Af (0:Int) 1=1 by decide,
  Hp,Ly,l2,B6 F5,g1,Aa,Ag O4 O4,B! S1,show Af (1:Int) 1=2 by decide,
  Hp,Ly,l2,B! F5,Abh,Xk,B! S1,Abi,Xg]
 have z:Ap (0:Int) 0=0:=F5
 have n0:(0:Int)+Ac l+Ac m=((l.length+m.length:Nat):Int):=by simp[Ac]
 rw[z,n0,Ca,Int.sub_zero];by_cases hp:0<l.length+m.length
 ·rw[B6 E5,show pE (0:Int) 0 0=some ()from rfl,Aa,yF,Aa,Ay F6,Aa];rw[show pE (Ac ([]++List.replicate ((l.length+m.length:Nat):Int).toNat (0:Int))) 0 0=some () by rw[pE,Bz];simp[Ac];omega,Aa];simp only[jS,Int.sub_self,lE,Q_];exact h3
 ·rw[B! E5];exact h3
theorem Awa{r n:Nat}(h1:1<=r)(h:r<=1048576)(n1:1<=n)(n2:n<=4000)(hk:(n-1)/Ak r+1<=1000):kJ (r:Int) (n:Int)=some (Az (Ak r) n,0):=by
 have hp:=Hb r;have hl:=KE h;have hd:=SY (n-1) (Ak r);rw[kJ,Ak2 h1 h n1 n2,B! F0,Aa];simp only;rw[B! D7,eS h1 h,Aa];simp only;rw[Az];generalize(n-1)/Ak r=k at*
 have e1:Ap ((k+1:Nat):Int) 1=(k:Int):=by rw[Ca];omega
 have e2:(k:Int)*(Ak r:Int)=((k*Ak r:Nat):Int):=by simp
 rw[e1,Arz _ _ F0,Aa,Ea (by rw[e2];omega) (by rw[e2];omega),e2,Ca,gR,Ard _ _ F6,Aa,Aa,show(n:Int)-((k*Ak r:Nat):Int)=((n-k*Ak r:Nat):Int) by omega]
def Oe(f c w r n:Nat):Bool:=decide ((f=1\/f=2)/\ (1<=c/\c<=6)/\ (w=8\/w=16\/w=24)/\ (1<=r/\r<=1048576)/\1<=n)
def bP(c r n:Nat):Bool:=decide (n<=4000/c/\ (n-1)/Ak r+1<=1000)
theorem kG(f c w r n:Nat):Zn (f:Int) (c:Int) (w:Int) (r:Int) (n:Int)=some (Oe f c w r n):=by
 have e2:CH (f:Int) (c:Int) (w:Int) (r:Int) (n:Int)=some (decide ((f=1\/f=2)/\ (1<=c/\c<=6)/\ (1<=r/\r<=1048576)/\1<=n)):=by
  rw[CH,YD];congr 1;rw[C?];simp only[Ax,Ar,Th,C1,HU,E3,B?];omega
 have g:∀k:Nat,geq (w:Int) (k:Int)=decide (w=k):=λk=>by rw[Ax,C?];simp;omega
 have g8:geq (w:Int) (8:Int)=decide (w=8):=g 8;have g16:geq (w:Int) (16:Int)=decide (w=16):=g 16;have g24:geq (w:Int) (24:Int)=decide (w=24):=g 24;rw[Zn,XW,e2,g8,g16,g24,Oe];by_cases h8:w=8
 ·subst h8;simp
 ·by_cases h16:w=16
  ·subst h16;simp
  ·by_cases h24:w=24
   ·subst h24;simp
   ·simp[h8,h16,h24]
theorem L9(f c w r n:Nat):Lc (f:Int) (c:Int) (w:Int) (r:Int) (n:Int)=some (Oe f c w r n):=by
 rw[Lc,Oe];simp only[Ax,De,Th,C1,HU,E3,B?,T_];split
 ·rename_i h;congr 1;rw[C?];simp only[C1,HU,E3,B?];omega
 ·rename_i h;congr 1;symm;rw[N2];omega
theorem Bam{c:Nat}(h:1<=c):Bs (4000:Int) (c:Int)=((4000/c:Nat):Int):=by
 have:4000/c<=4000:=G9 _ _;rw[YC,TM F0,show(4000:Int)=((4000:Nat):Int)from rfl,<-vF];generalize 4000/c=k at*
 exact Dp F0 F0
theorem zK{f c w r n:Nat}(h:Oe f c w r n=true):aT (f:Int) (c:Int) (w:Int) (r:Int) (n:Int)=some (bP c r n):=by
 simp only[Oe,B?]at h;have hd:4000/c<=4000:=G9 _ _;rw[aT,Bz E?,Aa,Bam F0,bP];generalize 4000/c=m at*
 by_cases h1:n<=m
 ·rw[B! E5,Ak2 F0 F0 F0 F0,Aa];generalize(n-1)/Ak r+1=k;by_cases h2:1000<k
  ·rw[B6 h2];simp[Ax,Th];omega
  ·rw[B! h2];simp[Ax,Th,h1];omega
 ·rw[B6 E5];simp[h1]
theorem mN{f c w r n:Nat}(h:Oe f c w r n=true):Oz (f:Int) (c:Int) (w:Int) (r:Int) (n:Int)=some (!bP c r n):=by
 simp only[Oe,B?]at h;have hd:4000/c<=4000:=G9 _ _;rw[Oz,Bz E?,Aa,Bam F0,bP];generalize 4000/c=m at*
 by_cases h1:n<=m
 ·rw[B! E5,w! F0 F0 F0,Aa,Ac,wM];generalize(n-1)/Ak r+1=k;congr 1;rw[Ar,C?];simp only[B?,G6,N2];omega
 ·rw[B6 E5];simp[h1]
def IJ:LB:=[84,84,65,49]
def f0(b:LB):Nat:=Hl (part b 4 2)
def f1(b:LB):Nat:=Hl (part b 6 2)
def f2(b:LB):Nat:=Hl (part b 8 2)
def f3(b:LB):Nat:=Hl (part b 10 4)
def f4(b:LB):Nat:=Hl (part b 14 4)
abbrev H6:=Int×Int×Int×Int×Int×Int
def Hu(b:LB):H6:=
 if b.take (min 4 b.length)≠IJ.take (min 4 b.length)then(0,0,0,0,0,12)else if b.length<22 then(0,0,0,0,0,24)else
 if(Fw (b.take 18)).toNat≠Hl (part b 18 4)then(0,0,0,0,0,22)else
 if Oe (f0 b) (f1 b) (f2 b) (f3 b) (f4 b)=false then(0,0,0,0,0,12)else
 if bP (f1 b) (f3 b) (f4 b)=false then(0,0,0,0,0,4)else((f0 b:Int),(f1 b:Int),(f2 b:Int),(f3 b:Int),(f4 b:Int),0)
section
variable {b:LB}
theorem rs1(h:b.take (min 4 b.length)≠IJ.take (min 4 b.length)):Hu b=(0,0,0,0,0,12):=by rw[Hu,B6 h]
variable (h:b.take (min 4 b.length)=IJ.take (min 4 b.length))
include h
theorem rs2(h2:b.length<22):Hu b=(0,0,0,0,0,24):=by rw[Hu,B! (λe=>e h),B6 h2]
variable (h2:¬b.length<22)
include h2
theorem rs3(h3:(Fw (b.take 18)).toNat≠Hl (part b 18 4)):Hu b=(0,0,0,0,0,22):=by rw[Hu,B! (λe=>e h),B! h2,B6 h3]
variable (h3:(Fw (b.take 18)).toNat=Hl (part b 18 4))
include h3
theorem rs4(h4:Oe (f0 b) (f1 b) (f2 b) (f3 b) (f4 b)=false):Hu b=(0,0,0,0,0,12):=by rw[Hu,B! (λe=>e h),B! h2,B! (λe=>e h3),B6 h4]
variable (h4:Oe (f0 b) (f1 b) (f2 b) (f3 b) (f4 b)=true)
include h4
theorem rs5(h5:bP (f1 b) (f3 b) (f4 b)=false):Hu b=(0,0,0,0,0,4):=by rw[Hu,B! (λe=>e h),B! h2,B! (λe=>e h3),B! (by rw[h4];simp),B6 h5]
theorem rs6(h5:bP (f1 b) (f3 b) (f4 b)=true):Hu b=((f0 b:Int),(f1 b:Int),(f2 b:Int),(f3 b:Int),(f4 b:Int),0):=by rw[Hu,B! (λe=>e h),B! h2,B! (λe=>e h3),B! (by rw[h4];simp),B! (by rw[h5];simp)]
end
theorem Asv(b:LB)(h2:¬b.length<22):Bj (Ae (Fw (b.take 18)):UInt64) (E7 (part b 18 4))=decide ((Fw (b.take 18)).toNat≠Hl (part b 18 4)):=by
 rw[YZ,Dn,C?];simp only[N9,ne_eq,B?];rw[<-T3,lZ (by have:=(Fw (b.take 18)).toNat_lt;omega),mA N1]
theorem vX(b:LB)(a w:Nat)(i q:Nat)(l:LI)(hi:i<5)(hl:l.length=5)(hw:Aj ([2,2,2,4,4]:LI) (i:Int)=some (w:Int))(h1:1<=w)(h4:w<=4)(ha:a+w<=b.length)(hb:b.length<4611686018427387904):
  Vr b (q+1) (a:Int) (i:Int) l=Vr b q ((a+w:Nat):Int) ((i+1:Nat):Int) (l.set i (Hl (part b a w):Int)):=by
 rw[Vr,TA,B6 F9,hw,Aa,WK b a w h1 F0 ha hb,Aa];simp only;rw[Bl,Aa,Zv _ F0,Aa,ZI (by rw[Fs ha];omega),Ag,Ag];rfl
theorem At9(b:LB)(h22:¬b.length<22)(hb:b.length<4611686018427387904):gH b 4 0 (List.replicate 5 0)=SZ [(f0 b:Int),(f1 b:Int),(f2 b:Int),(f3 b:Int),(f4 b:Int)]:=by
 have hF:As=(As-6)+1+1+1+1+1+1:=by have:=Aq;omega
 rw[gH,hF,show(4:Int)=((4:Nat):Int)from rfl,show(0:Int)=((0:Nat):Int)from rfl];rw[vX b 4 2 0 _ _ F0 B8 rfl F0 F0 F0 hb,vX b 6 2 1 _ _ F0 B8 rfl F0 F0 F0 hb,vX b 8 2 2 _ _ F0 B8 rfl F0 F0 F0 hb,
  vX b 10 4 3 _ _ F0 B8 rfl F0 F0 F0 hb,vX b 14 4 4 _ _ F0 B8 rfl F0 F0 F0 hb,Vr,TA,B! I!]
 rfl
theorem Bgm(b:LB):Oc [84,84,65,49] (b.take (min 4 b.length))=some (decide (b.take (min 4 b.length)=IJ.take (min 4 b.length))):=by
 have hl:(b.take (min 4 b.length)).length=min 4 b.length:=by rw[C8];omega
 rw[Oc,Kh,B6 (by rw[De,Ac,Ac,hl];simp;omega),Ac,hl,Dt F0 F6,Aa,Aa,D0];congr 1;rw[C?];rw[B?,E3];exact eq_comm
theorem Be2(b:LB):Du (4:Int) (Ac b)=((min 4 b.length:Nat):Int):=by rw[Zp,Ac];omega
theorem ji(b:LB)(hb:b.length<4611686018427387904):Yi b=some (Hu b):=by
 rw[Yi,iJ,Be2,Dt,Aa,D0,Bgm,Aa];by_cases h:b.take (min 4 b.length)=IJ.take (min 4 b.length)
 ·rw[B! (by simpa using h)];by_cases h2:b.length<22
  ·rw[B6 F2,rs2 h h2]
  ·have a1:pQ b 18 4=some (E7 (part b 18 4),0):=WK b 18 4 F0 F0 F0 hb;rw[B! F2,a1,Aa];simp only;rw[Dt,Aa,show(18:Int).toNat=18 from rfl,eu _ F6,Aa];simp only;rw[Asv b h2];by_cases h3:(Fw (b.take 18)).toNat=Hl (part b 18 4)
   ·rw[B! (by simpa using h3),At9 b h2 hb,SZ,Bhb];rw[show Aj [(f0 b:Int),(f1 b:Int),(f2 b:Int),(f3 b:Int),(f4 b:Int)] 0=some (f0 b:Int)from rfl,show Aj [(f0 b:Int),(f1 b:Int),(f2 b:Int),(f3 b:Int),(f4 b:Int)] 1=some (f1 b:Int)from rfl,show Aj [(f0 b:Int),(f1 b:Int),(f2 b:Int),(f3 b:Int),(f4 b:Int)] 2=some (f2 b:Int)from rfl,
     show Aj [(f0 b:Int),(f1 b:Int),(f2 b:Int),(f3 b:Int),(f4 b:Int)] 3=some (f3 b:Int)from rfl,show Aj [(f0 b:Int),(f1 b:Int),(f2 b:Int),(f3 b:Int),(f4 b:Int)] 4=some (f4 b:Int)from rfl]
    simp only[Aa,kG];cases h4:Oe (f0 b) (f1 b) (f2 b) (f3 b) (f4 b)with
    |false=>rw[rs4 h h2 h3 h4];rfl
    |true=>
     rw[zK h4,B! B8,Aa];cases h5:bP (f1 b) (f3 b) (f4 b)with
     |false=>rw[rs5 h h2 h3 h4 h5];rfl
     |true=>rw[rs6 h h2 h3 h4 h5];rfl
   ·rw[B6 (by simpa using h3),rs3 h h2 h3]
 ·rw[B6 (by simpa using h),rs1 h]
theorem i_(b:LB)(hb:b.length<4611686018427387904):Yy b=some (Hu b):=by
 rw[Yy,JT,Be2,Dt,Aa,D0,Dt F0 F6,Aa,D0];by_cases h:b.take (min 4 b.length)=IJ.take (min 4 b.length)
 ·rw[B! (by rw[h];simp[IJ]),Al6,JX];by_cases h2:b.length<22
  ·rw[B6 F2,rs2 h h2]
  ·have a1:Bo b 18 22=some (part b 18 4):=Yw 18 4;have c1:Bo b 4 6=some (part b 4 2):=Yw 4 2;have c2:Bo b 6 8=some (part b 6 2):=Yw 6 2;have c3:Bo b 8 10=some (part b 8 2):=Yw 8 2;have c4:Bo b 10 14=some (part b 10 4):=Yw 10 4;have c5:Bo b 14 18=some (part b 14 4):=Yw 14 4;have hs:Bj (E7 (part b 18 4)) (Ae (Fw (b.take 18)):UInt64)=decide ((Fw (b.take 18)).toNat≠Hl (part b 18 4)):=by
    rw[<-Asv b h2,YZ,YZ,C?];simp only[N9,ne_eq];exact not_congr eq_comm
   have lp:∀a w,a+w<=b.length->Bb (part b a w)=some (E7 (part b a w)):=λa w h=>ZU _ (by rw[Fs h];omega);rw[B! F2,a1,Aa,Dt,Aa,show(18:Int).toNat=18 from rfl,lp _ _ F0,Aa,gP _ F6,Aa,hs];by_cases h3:(Fw (b.take 18)).toNat=Hl (part b 18 4)
   ·rw[B! (by simpa using h3),KN,Yv,c1,Aa,c2,Aa,c3,Aa,c4,Aa,c5,Aa,lp _ _ F0,Aa,lp _ _ F0,Aa,lp _ _ F0,Aa,lp _ _ F0,Aa,lp _ _ F0,Aa,
     KL,Akv,ZI N1,ZI N1,ZI N1,ZI N1,ZI N1]
    rw[show Hl (part b 4 2)=f0 b from rfl,show Hl (part b 6 2)=f1 b from rfl,show Hl (part b 8 2)=f2 b from rfl,show Hl (part b 10 4)=f3 b from rfl,show Hl (part b 14 4)=f4 b from rfl,L9,Aa];cases h4:Oe (f0 b) (f1 b) (f2 b) (f3 b) (f4 b)with
    |false=>rw[rs4 h h2 h3 h4];rfl
    |true=>
     rw[mN h4,B! B8,Aa];cases h5:bP (f1 b) (f3 b) (f4 b)with
     |false=>rw[rs5 h h2 h3 h4 h5];rfl
     |true=>rw[rs6 h h2 h3 h4 h5];rfl
   ·rw[B6 (by simpa using h3),rs3 h h2 h3]
 ·rw[B6 (by simpa [IJ]using h),rs1 h]
theorem Ais{b:LB}(h:(Hu b).2.2.2.2.2=0):Hu b=((f0 b:Int),(f1 b:Int),(f2 b:Int),(f3 b:Int),(f4 b:Int),0)/\22<=b.length/\Oe (f0 b) (f1 b) (f2 b) (f3 b) (f4 b)=true/\bP (f1 b) (f3 b) (f4 b)=true:=by
 unfold Hu at h⊢;split at h; · simp at h
 rename_i c1;rw[B! c1];split at h; · simp at h
 rename_i c2;rw[B! c2];split at h; · simp at h
 rename_i c3;rw[B! c3];split at h; · simp at h
 rename_i c4;rw[B! c4];split at h; · simp at h
 rename_i c5;rw[B! c5];exact⟨rfl,F0,by simpa using c4,by simpa using c5⟩
theorem Ahn{f c w r n:Nat}(h:Oe f c w r n=true)(h2:bP c r n=true):Fk (f:Int) (c:Int) (w:Int) (r:Int) (n:Int)=some (Az (Ak r) n,0):=by
 have hc:Um (f:Int) (c:Int) (w:Int) (r:Int) (n:Int)=some 0:=by
  rw[Um,kG,Aa,h,B! B8,zK h,Aa,h2];rfl
 have hd:4000/c<=4000:=G9 _ _;simp only[Oe,B?]at h;simp only[bP,B?]at h2;rw[Fk,hc,Aa,B! D7,Awa F0 F0 F0 F0 h2.2];rfl
def okL:LI->Int->Bool
 |[],_=>true
 |x::l,left=>decide (5<=x/\x<=left)&&okL l (left-x)
theorem sH:∀l:LI,(∀x∈l,5<=x)->0<=l.sum
 |[],_=>by simp
 |x::l,h=>by
  have h1:=h x M9;have h2:=sH l λy hy=>h y (J_ _ hy);rw[K1];omega
theorem OU:∀(l:LI) (left:Int),0<=left-> (okL l left=true↔(∀x∈l,5<=x)/\l.sum<=left)
 |[],left,h=>by simp[okL];exact h
 |x::l,left,h=>by
  rw[okL,C1,B?,K1];by_cases hx:5<=x/\x<=left
  ·rw[OU l (left-x) F0];constructor
   ·rintro⟨_,h1,h2⟩;exact⟨λy hy=>(List.mem_cons.1 hy).elim (λe=>e▸hx.1) (h1 y),F0⟩
   ·rintro⟨h1,h2⟩;exact⟨hx,λy hy=>h1 y (J_ _ hy),F0⟩
  ·constructor
   ·rintro⟨h1,_⟩;exact absurd h1 hx
   ·rintro⟨h1,h2⟩;have h3:=h1 x M9;have:0<=l.sum:=sH l λy hy=>h1 y (J_ _ hy);omega
theorem Aqo (l:LI)(hl:l.length<=1000):∀(j i q:Nat) (left:Int),i+j=l.length->j<q->0<=left->left<=100000->CC l q left (i:Int)=some (if okL (l.drop i) left=true then 0 else 8)
 |0,i,q+1,left,hi,_,_,_=>by
  rw[CC,VR,B! F2,show i=l.length by omega,OH];rfl
 |j+1,i,q+1,left,hi,hq,h0,h1=>by
  have hlt:i<l.length:=F0
  rw[CC,VR,B6 F2,Bl hlt,Aa,drop_cons hlt];by_cases h:5<=l[i]/\l[i]<=left
  ·rw[B! H7,Ca,Ag];have ih:=Aqo l hl j (i+1) q (left-l[i]) F0 F0 F0 F0;rw[show((i:Int)+1)=((i+1:Nat):Int) by omega,ih];simp[okL,h]
  ·rw[B6 H7];have:okL (l[i]::l.drop (i+1)) left=false:=by rw[okL,E0 h];rfl
   rw[this];rfl
def FO(l:LI):Bool:=decide (1<=l.length/\l.length<=1000)&&okL l 100000
theorem Afx(l:LI)(hl:l.length<=1000):Zi l=some (if FO l=true then 0 else 8):=by
 rw[Zi,UU,FO];by_cases h:1<=l.length
 ·rw[B! (by rw[Ax,Ar,Ac];simp;constructor;(intro e;subst e;simp at h);omega),Bh2];have:=Aqo l hl l.length 0 As 100000 F0 F7 F0 F0;rw[RU]at this;rw[L! (show 1<=l.length/\l.length<=1000 from⟨h,hl⟩),OK];exact this
 ·have:l=[]:=by
   cases l with
   |nil=>rfl
   |cons _ _=>simp at h
  subst this;rfl
theorem yT(l:LI)(hl:l.length<=1000):∀(j i q:Nat) (s:Int),i+j=l.length->j<q->0<=s->s<=100000*(i:Int)->Ls l q s (i:Int)=some (if(∀x∈l.drop i,5<=x/\x<=100000)/\s+(l.drop i).sum<=100000 then 0 else 8)
 |0,i,q+1,s,hi,_,_,_=>by
  rw[Ls,Wv,B! F2,show i=l.length by omega,OH,EM,Afa];by_cases h:s<=100000
  ·rw[B! E5,B6 F6]
  ·rw[B6 E5,B! F6]
 |j+1,i,q+1,s,hi,hq,h0,h1=>by
  have hlt:i<l.length:=F0
  rw[Ls,Wv,B6 F2,Bl hlt,Aa,drop_cons hlt];by_cases h5:l[i]<5
  ·rw[B6 (by rw[Ad];simpa using h5),B! (λh=>by have:=(h.1 l[i] M9).1;omega)]
  ·rw[B! (by rw[Ad];simpa using h5),Aa];by_cases h6:100000<l[i]
   ·rw[B6 (by rw[Ar];simpa using h6),B! (λh=>by have:=(h.1 l[i] M9).2;omega)]
   ·rw[B! (by rw[Ar];simpa using h6),HE,Ahj,Bl hlt,Aa,Ag,Ag];have ih:=yT l hl j (i+1) q (s+l[i]) F0 F0 F0 F0;rw[show((i:Int)+1)=((i+1:Nat):Int) by omega,ih];have e:((∀x∈l.drop (i+1),5<=x/\x<=100000)/\s+l[i]+(l.drop (i+1)).sum<=100000)↔((∀x∈l[i]::l.drop (i+1),5<=x/\x<=100000)/\s+(l[i]::l.drop (i+1)).sum<=100000):=by
     rw[K1,List.forall_mem_cons,Int.add_assoc];constructor
     ·rintro⟨a,b⟩;exact⟨⟨F0,a⟩,b⟩
     ·rintro⟨⟨_,a⟩,b⟩;exact⟨a,b⟩
    simp only[e]
theorem X0:∀{l:LI},(∀x∈l,5<=x)->∀x∈l,x<=l.sum
 |[],_,x,hx=>by simp at hx
 |y::l,h,x,hx=>by
  have h1:=h y M9;have h2:=sH l λz hz=>h z (J_ _ hz);rw[K1];rcases List.mem_cons.1 hx with rfl|hx
  ·omega
  ·have:=X0 (l:=l) (λz hz=>h z (J_ _ hz)) x hx;omega
theorem Ajk(l:LI)(hl:l.length<=1000):Jc l=some (if FO l=true then 0 else 8):=by
 rw[Jc,Wi,FO];by_cases h:1<=l.length
 ·have:=yT l hl l.length 0 As 0 F0 F7 F0 F0;rw[B! (by rw[Ad,Ar,Ac];simp;omega),Aj9];refine D9 this ?_;rw[RU,L! (show 1<=l.length/\l.length<=1000 from⟨h,hl⟩),OK];have e:((∀x∈l,5<=x/\x<=100000)/\0+l.sum<=100000)↔okL l 100000=true:=by
   rw[OU l 100000 F0,Int.zero_add];constructor
   ·rintro⟨a,b⟩;exact⟨λx hx=>(a x hx).1,b⟩
   ·rintro⟨a,b⟩;exact⟨λx hx=>⟨a x hx,Int.le_trans (X0 a x hx) b⟩,b⟩
  simp only[e]
 ·have:l=[]:=by
   cases l with
   |nil=>rfl
   |cons _ _=>simp at h
  subst this;rfl
theorem fG(l:LI):Zi l=some (if FO l=true then 0 else 8):=by
 by_cases hl:l.length<=1000
 ·exact Afx l hl
 ·rw[Zi,UU,B6 D!,FO,E0 F0];rfl
theorem mQ(l:LI):Jc l=some (if FO l=true then 0 else 8):=by
 by_cases hl:l.length<=1000
 ·exact Ajk l hl
 ·rw[Jc,Wi,B6 D!,FO,E0 F0];rfl
theorem Al9(l:LI)(hl:l.length<=1000)(hx:∀x∈l,0<=x/\x<4294967296):Zi l=some (if FO l=true then 0 else 8):=fG l
theorem Aqa(l:LI)(hl:l.length<=1000)(hx:∀x∈l,0<=x/\x<4294967296):Jc l=some (if FO l=true then 0 else 8):=mQ l
def eO(b:LB)(n:Nat):LI:=(List.range n).map λi=>(Hl (part b (4*i) 4):Int)
theorem aE(b:LB)(n:Nat):(eO b n).length=n:=by simp[eO]
theorem xP(b:LB)(n:Nat):eO b (n+1)=eO b n++[(Hl (part b (4*n) 4):Int)]:=by simp[eO,bC]
theorem Am6(b:LB)(n:Nat)(h:4*n<=b.length):∀x∈eO b n,0<=x/\x<4294967296:=by
 intro x hx;simp only[eO,dC,lB]at hx;obtain⟨i,hi,rfl⟩:=hx;have:=Aot (l:=part b (4*i) 4) N1;omega
def Py(b:LB)(n:Nat):LI×Int:=
 if ¬(1<=n/\n<=1000)then([],2)else if b.length<4*n+4 then([],24)else if(Fw (b.take (4*n))).toNat≠Hl (part b (4*n) 4)then([],22)else
 if FO (eO b n)=true then(eO b n,0)else([],12)
theorem Aoi{b:LB}{n:Nat}(h:1<=n/\n<=1000)(h2:¬b.length<4*n+4):Bj (Ae (Fw (b.take (4*n))):UInt64) (E7 (part b (4*n) 4))=decide ((Fw (b.take (4*n))).toNat≠Hl (part b (4*n) 4)):=by
 rw[YZ,Dn,C?];simp only[N9,ne_eq,B?];rw[<-T3,lZ (by have:=(Fw (b.take (4*n))).toNat_lt;omega),mA N1]
section
variable {b:LB} {n:Nat}
theorem ss1(h:¬(1<=n/\n<=1000)):Py b n=([],2):=by rw[Py,B6 h]
variable (h:1<=n/\n<=1000)
include h
theorem ss2(h2:b.length<4*n+4):Py b n=([],24):=by rw[Py,B! (λe=>e h),B6 h2]
variable (h2:¬b.length<4*n+4)
include h2
theorem ss3(h3:(Fw (b.take (4*n))).toNat≠Hl (part b (4*n) 4)):Py b n=([],22):=by rw[Py,B! (λe=>e h),B! h2,B6 h3]
theorem ss4(h3:(Fw (b.take (4*n))).toNat=Hl (part b (4*n) 4)):Py b n=if FO (eO b n)=true then(eO b n,0)else([],12):=by rw[Py,B! (λe=>e h),B! h2,B! (λe=>e h3)]
end
theorem yJ(b:LB)(l8:LI)(n:Nat)(hn:n<=1000)(h8:l8.length=n)(hb:4*n+4<=b.length)(hb2:b.length<4611686018427387904):∀(j i q:Nat),i+j=n->j<q->FX b l8 q (i:Int) (eO b i++List.replicate j 0)=YW (eO b n)
 |0,i,q+1,hi,_=>by
  obtain rfl:i=n:=F0
  rw[FX,ZB,B! F2];simp
 |j+1,i,q+1,hi,hq=>by
  have hlen:(eO b i++List.replicate (j+1) 0).length=i+(j+1):=by simp[aE]
  have ha:=WK b (4*i) 4 F0 F0 F0 hb2;rw[FX,ZB,B6 F2,Ea,show(4:Int)*(i:Int)=((4*i:Nat):Int) by omega,show(4:Int)=((4:Nat):Int)from rfl,ha,Aa];simp only;rw[Bl (by rw[hlen];omega),Aa,Zv _ (by rw[hlen];omega),Aa,ZI N1,Ag,QR,zD (aE _ _)];have ih:=yJ b l8 n hn h8 hb hb2 j (i+1) q F0 F0;rw[xP]at ih;rw[show((i:Int)+1)=((i+1:Nat):Int) by omega,<-ih];simp
theorem Adm(b:LB)(n:Nat)(hb:b.length<=100100):gT b (n:Int)=some (Py b n):=by
 rw[gT,nQ];by_cases h:1<=n/\n<=1000
 ·rw[B! H7,Ea,Ag];by_cases h2:b.length<4*n+4
  ·rw[B6 F2,ss2 h h2]
  ·have ha:pQ b (4*(n:Int)) 4=some (E7 (part b (4*n) 4),0):=by
    rw[show(4:Int)*(n:Int)=((4*n:Nat):Int) by omega];exact WK b (4*n) 4 F0 F0 F0 F0
   rw[B! F2,ha,Aa];simp only;rw[Dt,Aa,show(4*(n:Int)).toNat=4*n by omega,eu _ F6,Aa];simp only;rw[Aoi h h2];by_cases h3:(Fw (b.take (4*n))).toNat=Hl (part b (4*n) 4)
   ·have hlp:=yJ b (List.replicate n 0) n F0 B8 F0 F0 n 0 As F0 F7;rw[B! (by simpa using h3),yF,Aa,Bz T8,Aa,Aak,D0];refine D9 (hlp) ?_;rw[YW,Ab3,Al9 _ (by rw[aE];omega) (Am6 b n F0),Aa,ss4 h h2 h3];cases FO (eO b n)<;>rfl
   ·rw[B6 (by simpa using h3),ss3 h h2 h3]
 ·rw[B6 H7,ss1 h]
theorem Aar(b:LB)(n:Nat)(hn:n<=1000)(hb:4*n+4<=b.length)(hb2:b.length<4611686018427387904):∀(j i q:Nat),i+j=n->j<q->Nc b (n:Int) q (i:Int) (eO b i)=Yn (eO b n)
 |0,i,q+1,hi,_=>by
  obtain rfl:i=n:=F0
  rw[Nc,Yk,B! I!]
 |j+1,i,q+1,hi,hq=>by
  have hc:Bo b ((4:Int)*(i:Int)) ((4:Int)*(i:Int)+4)=some (part b (4*i) 4):=by
   rw[show(4:Int)*(i:Int)=((4*i:Nat):Int) by omega];exact Yw (4*i) 4
  rw[Nc,Yk,B6 F9,Ea,Ag,hc,Aa,ZU _ N1,Aa,Ay (by rw[aE];simp;omega),Aa,
   ZI N1,Ag,<-xP]
  exact Aar b n hn hb hb2 j (i+1) q F0 F0
theorem Av1(b:LB)(n:Nat)(hb:b.length<=100100):IU b (n:Int)=some (Py b n):=by
 rw[IU,JK];by_cases h:1<=n/\n<=1000
 ·rw[B! H7,Ea,Ag];by_cases h2:b.length<4*n+4
  ·rw[B6 F2,ss2 h h2]
  ·have hc:Bo b ((4:Int)*(n:Int)) ((4:Int)*(n:Int)+4)=some (part b (4*n) 4):=by
    rw[show(4:Int)*(n:Int)=((4*n:Nat):Int) by omega];exact Yw (4*n) 4
   have hs:Bj (E7 (part b (4*n) 4)) (Ae (Fw (b.take (4*n))):UInt64)=decide ((Fw (b.take (4*n))).toNat≠Hl (part b (4*n) 4)):=by
    rw[<-Aoi h h2,YZ,YZ,C?];simp only[N9,ne_eq];exact not_congr eq_comm
   rw[B! F2,hc,Aa,Dt,Aa,show(4*(n:Int)).toNat=4*n by omega,ZU _ N1,Aa,gP _ F6,Aa,hs];by_cases h3:(Fw (b.take (4*n))).toNat=Hl (part b (4*n) 4)
   ·have hlp:=Aar b n F0 F0 F0 n 0 As F0 F7;rw[B! (by simpa using h3),Akp,JH,Ali];refine D9 hlp ?_;rw[Yn,Al0,Aqa _ (by rw[aE];omega) (Am6 b n F0),Aa,ss4 h h2 h3];cases FO (eO b n)<;>rfl
   ·rw[B6 (by simpa using h3),ss3 h h2 h3]
 ·rw[B6 H7,ss1 h]
theorem Ag1{b:LB}{n:Nat}(h:(Py b n).2=0):Py b n=(eO b n,0)/\1<=n/\n<=1000/\4*n+4<=b.length/\ (∀x∈eO b n,5<=x)/\ (eO b n).sum<=100000:=by
 unfold Py at h⊢;split at h; · simp at h
 rename_i c1;rw[B! c1];split at h; · simp at h
 rename_i c2;rw[B! c2];split at h; · simp at h
 rename_i c3;rw[B! c3];split at h
 ·rename_i c4;rw[B6 c4];have c4':=c4;rw[FO,C1,OU _ _ F0]at c4';exact⟨rfl,F0,F0,F0,c4'.2.1,c4'.2.2⟩
 ·simp at h
def GY(b:LB):LB:=b.drop (Eo b).1.toNat
theorem qP(A K:Nat)(h:A<=200000)(hk:K<=1000):Af (Af (A:Int) (Bn 4 (K:Int))) 4=((A+4*K+4:Nat):Int):=by
 rw[Ea,Ag (a:=(A:Int)) F0 F0,Ag];omega
theorem Arl(l:LI)(i:Nat):(l.take i).sum+(l.drop i).sum=l.sum:=by
 conv=>rhs;rw[<-QQ i l,k!]
theorem Aah{l:LI}{i:Nat}(h:i<l.length):(l.take (i+1)).sum=(l.take i).sum+l[i]:=by
 rw[Ho h,k!];simp
theorem XR{g n:Nat}(hg:1<=g)(hn:1<=n){x:Int}(h:x∈Az g n):∃m:Nat,x=m/\1<=m/\m<=n:=by
 have hmul:=SY (n-1) g;rw[Az,d!]at h;rcases h with h|h
 ·rw[List.mem_replicate]at h;have h1:1<= (n-1)/g:=Nat.pos_of_ne_zero h.1;have:=C9 g h1;exact⟨g,h.2,hg,F0⟩
 ·rw[uO]at h;exact⟨_,h,F0,F0⟩
theorem O6{f c w r n:Nat}(h:Oe f c w r n=true):(1<=c/\c<=6)/\Bq (w:Int)/\ (1<=r/\r<=1048576)/\1<=n/\ (f=1\/f=2):=by
 simp only[Oe,B?]at h;refine⟨h.2.1,?_,h.2.2.2.1,h.2.2.2.2,h.1⟩;rcases h.2.2.1 with rfl|rfl|rfl
 ·exact .inl rfl
 ·exact .inr (.inl rfl)
 ·exact .inr (.inr rfl)
theorem T6{p:Prop}(h:p:=by rw[C8];omega):p:=h
theorem Bbb(n m:Nat):Xm n m 0≠Xm n m 2147483648:=by
 intro h;simp[Xm,DZ,J']at h
def Dm(b:LB):LB:=b.drop (b.length-32)
theorem Ahe{b:LB}(h:32<=b.length):(Dm b).length=32:=by rw[Dm,D8];omega
def XH(t:LB):Nat:=Hl (part t 12 4)-32
def h!(t:LB):Nat:=Hl (part t 16 4)
def KB(b:LB):Int×Int:=
 if ¬(32<=b.length/\ (Dm b).take 8=J')then(0,6)else if RY (Dm b)=true then(0,12)else
 if Dm b=Xm (XH (Dm b)) (h! (Dm b)) 0 then(if b.length<XH (Dm b)+32 then(0,24)else(((XH (Dm b)+32:Nat):Int),0))else
 if Dm b≠Xm (XH (Dm b)) (h! (Dm b)) 2147483648 then(0,12)else
 if b.length<XH (Dm b)+64 then(0,24)else
 if(b.take (b.length-(XH (Dm b)+64)+32)).drop (b.length-(XH (Dm b)+64))≠Xm (XH (Dm b)) (h! (Dm b)) 2684354560 then(0,12)else(((XH (Dm b)+64:Nat):Int),0)
section
variable {b:LB}
theorem ba1(h:¬(32<=b.length/\ (Dm b).take 8=J')):KB b=(0,6):=by rw[KB,B6 h]
variable (h:32<=b.length/\ (Dm b).take 8=J')
include h
theorem ba2(h2:RY (Dm b)=true):KB b=(0,12):=by rw[KB,B! (λh'=>h' h),B6 h2]
variable (h2:RY (Dm b)=false)
include h2
theorem ba3(h3:Dm b=Xm (XH (Dm b)) (h! (Dm b)) 0):KB b=if b.length<XH (Dm b)+32 then(0,24)else(((XH (Dm b)+32:Nat):Int),0):=by
 rw[KB,B! (λh'=>h' h),B! (by rw[h2];simp),B6 h3]
variable (h3:Dm b≠Xm (XH (Dm b)) (h! (Dm b)) 0)
include h3
theorem ba4(h4:Dm b≠Xm (XH (Dm b)) (h! (Dm b)) 2147483648):KB b=(0,12):=by
 rw[KB,B! (λh'=>h' h),B! (by rw[h2];simp),B! h3,B6 h4]
variable (h4:Dm b=Xm (XH (Dm b)) (h! (Dm b)) 2147483648)
include h4
theorem ba5(h5:b.length<XH (Dm b)+64):KB b=(0,24):=by
 rw[KB,B! (λh'=>h' h),B! (by rw[h2];simp),B! h3,B! (λe=>e h4),B6 h5]
theorem ba6(h5:¬b.length<XH (Dm b)+64):KB b=if(b.take (b.length-(XH (Dm b)+64)+32)).drop (b.length-(XH (Dm b)+64))≠Xm (XH (Dm b)) (h! (Dm b)) 2684354560 then(0,12)else(((XH (Dm b)+64:Nat):Int),0):=by
 rw[KB,B! (λh'=>h' h),B! (by rw[h2];simp),B! h3,B! (λe=>e h4),B! h5]
end
theorem Aha{b:LB}{n:Int}(h:KB b=(n,0)):32<=n/\n<=b.length:=by
 unfold KB at h;split at h; · simp at h
 rename_i h32;split at h; · simp at h
 split at h
 ·split at h; · simp at h
  simp only[C7,P8]at h;omega
 split at h; · simp at h
 split at h; · simp at h
 split at h; · simp at h
 simp only[C7,P8]at h;omega
theorem Aqg{b:LB}(h:(KB b).2≠0):(KB b).1=0:=by
 revert h
 unfold KB;split; · simp
 split; · simp
 split
 ·split<;>simp
 split; · simp
 split; · simp
 split<;>simp
theorem Avd{b:LB}(h:32<=b.length)(hl:b.length<4611686018427387904):Ap (Ac b) 32=((b.length-32:Nat):Int)/\Bo b ((b.length-32:Nat):Int) (Ac b)=some (Dm b):=by
 refine⟨by rw[Ac,Ca];omega,?_⟩;rw[Dj];rfl
theorem Ar8(b:LB)(hl:b.length<4611686018427387904):P9 b=some (KB b):=by
 rw[P9,Bdk];by_cases h32:32<=b.length
 ·obtain⟨e1,e2⟩:=Avd h32 hl;have hl3:=Ahe h32;rw[B! (by rw[e1,Ad];simp),e1,e2,Aa,rQ,Aa];by_cases hp:(Dm b).take 8=J'
  ·have h:=And.intro h32 hp;rw[B! (by simpa [J',hl3]using hp),Axq,Bf1,e1,e2,Aa,sE _ 0 F0 F0 F5,Aa];cases hb:RY (Dm b)with
   |true=>
    rw[ba2 h hb];simp only[NW,L_,H5];rw[Aa,sE _ 2147483648 F0 F0 F5,Aa,hb];rfl
   |false=>
    obtain⟨i1,i2,i3,i4⟩:=Z4 (Dm b) F0 hb;have eI:Hl (part (Dm b) 12 4)-32=XH (Dm b):=rfl;have eM:Hl (part (Dm b) 16 4)=h! (Dm b):=rfl;simp only[L_,H5];rw[eI]at i3;rw[eM]at i4;rw[eI,eM];by_cases c1:Dm b=Xm (XH (Dm b)) (h! (Dm b)) 0
    ·have c1':Dm b=Xm (XH (Dm b)) (h! (Dm b)) (0:UInt64).toNat:=c1;rw[B6 (by simpa using c1'),ba3 h hb c1];by_cases c2:b.length<XH (Dm b)+32
     ·rw[B6 F9,B6 c2]
     ·rw[B! F9,B! c2,Ag];rfl
    ·have c1':¬Dm b=Xm (XH (Dm b)) (h! (Dm b)) (0:UInt64).toNat:=c1;rw[B! (by simpa using c1'),Aa,sE _ 2147483648 F0 F0 F5,Aa,hb];simp only[L_,H5];rw[eI,eM];by_cases c2:Dm b=Xm (XH (Dm b)) (h! (Dm b)) 2147483648
     ·have c2':Dm b=Xm (XH (Dm b)) (h! (Dm b)) (2147483648:UInt64).toNat:=c2;rw[B! (by simpa using c2'),Ag];by_cases c3:b.length<XH (Dm b)+64
      ·rw[B6 F2,ba5 h hb c1 c2 c3]
      ·rw[B! F2,Ac,Ca,Ag,TF,Aa,j_ _ _ _ i3 i4 F5,Aa,Qb,Aa,ba6 h hb c1 c2 c3];rw[show((b.length:Int)-(((XH (Dm b):Nat):Int)+64)).toNat=b.length-(XH (Dm b)+64) by omega,show((b.length:Int)-(((XH (Dm b):Nat):Int)+64)+32).toNat=b.length-(XH (Dm b)+64)+32 by omega];have e7:(2684354560:UInt64).toNat=2684354560:=rfl;rw[e7];by_cases c4:(b.take (b.length-(XH (Dm b)+64)+32)).drop (b.length-(XH (Dm b)+64))=Xm (XH (Dm b)) (h! (Dm b)) 2684354560
       ·rw[B! (by simpa using c4),B! (λe=>e c4)];rfl
       ·rw[B6 (by simpa using c4),B6 c4]
     ·have c2':¬Dm b=Xm (XH (Dm b)) (h! (Dm b)) (2147483648:UInt64).toNat:=c2;rw[B6 (by simpa using c2'),ba4 h hb c1 c2]
  ·rw[B6 (by rw[G6,N2];intro h;exact hp h.2),ba1 (λh=>hp h.2)]
 ·rw[B6 (by rw[Ac,Ca,Ad];simp;omega),ba1 (λh=>h32 h.1)]
theorem Ayz{b:LB}(h:32<=b.length):(b.take (b.length-32+8)).drop (b.length-32)=(Dm b).take 8:=by
 rw[Dm,List.take_drop]
theorem Awe(b:LB)(hl:b.length<4611686018427387904):IA b=some (KB b):=by
 rw[IA,JC];by_cases h32:32<=b.length
 ·obtain⟨e1,e2⟩:=Avd h32 hl;have hl3:=Ahe h32;rw[B! F2,e1,Ag,TF,Aa,show((b.length-32:Nat):Int).toNat=b.length-32 from rfl,show(((b.length-32:Nat):Int)+8).toNat=b.length-32+8 by omega,Ayz h32];by_cases hp:(Dm b).take 8=J'
  ·have h:=And.intro h32 hp;rw[B! (by simpa [J']using hp),KO,Ze,e1,e2,Aa,Af5 _ F0 F0,Aa];cases hb:RY (Dm b)with
   |true=>rw[ba2 h hb];rfl
   |false=>
    obtain⟨i1,i2,i3,i4⟩:=Z4 (Dm b) F0 hb;have eI:Hl (part (Dm b) 12 4)-32=XH (Dm b):=rfl;have eM:Hl (part (Dm b) 16 4)=h! (Dm b):=rfl;simp only[L_,H5,S_];rw[eI]at i3;rw[eM]at i4;rw[eI,eM,Gu,B6 rfl,W5 _ _ _ i3 i4 F5,Aa,Aa];have e7:(2147483648:UInt64).toNat=2147483648:=rfl;have e8:(2684354560:UInt64).toNat=2684354560:=rfl;rw[e7];by_cases c2:Dm b=Xm (XH (Dm b)) (h! (Dm b)) 2147483648
    ·have c1:Dm b≠Xm (XH (Dm b)) (h! (Dm b)) 0:=λe=>Bbb (XH (Dm b)) (h! (Dm b)) (e.symm.trans c2);rw[B! (by simpa using c2),Yo,JL,B6 (by simpa using c2),KP,KU,Ag (a:=32) F0 F0,Ag];by_cases c3:b.length<XH (Dm b)+64
     ·rw[B6 F2,ba5 h hb c1 c2 c3]
     ·rw[B! F2,B6 (by simpa using c2),Ac,Ca,Ag,TF,Aa,Yl,W5 _ _ _ i3 i4 F5,Aa,Aa,ba6 h hb c1 c2 c3,e8];rw[show((b.length:Int)-(32+((XH (Dm b):Nat):Int)+32)).toNat=b.length-(XH (Dm b)+64) by omega,show((b.length:Int)-(32+((XH (Dm b):Nat):Int)+32)+32).toNat=b.length-(XH (Dm b)+64)+32 by omega];by_cases c4:(b.take (b.length-(XH (Dm b)+64)+32)).drop (b.length-(XH (Dm b)+64))=Xm (XH (Dm b)) (h! (Dm b)) 2684354560
      ·rw[B! (by simpa using c4),B! (λe=>e c4),show(32+((XH (Dm b):Nat):Int)+32)=((XH (Dm b)+64:Nat):Int) by omega]
      ·rw[B6 (by simpa using c4),B6 c4]
    ·rw[B6 (by simpa using c2),Gu,B! B8,W5 _ _ _ i3 i4 F5,Aa,Aa];have e9:(0:UInt64).toNat=0:=rfl;rw[e9];by_cases c1:Dm b=Xm (XH (Dm b)) (h! (Dm b)) 0
     ·rw[B! (by simpa using c1),Yo,JL,B! (by simpa using c2),KP,KU,Ag,ba3 h hb c1,B! (c:=(Dm b==Xm (XH (Dm b)) (h! (Dm b)) 2147483648)=true) (by simpa using c2)];by_cases c3:b.length<XH (Dm b)+32
      ·rw[B6 F2,B6 c3]
      ·rw[B! F2,B! c3,show(32+((XH (Dm b):Nat):Int))=((XH (Dm b)+32:Nat):Int) by omega]
     ·rw[B6 (by simpa using c1),ba4 h hb c1 c2]
  ·rw[B6 (by simpa [J']using hp),ba1 (λh=>hp h.2)]
 ·rw[B6 F2,ba1 (λh=>h32 h.1)]
def S?:Nat->LB->Nat->Int×Int
 |0,_,_=>(0,38)
 |j+1,b,a=>if b=[]then((a:Int),0)else if(KB b).2≠0 then(0,38)else S? j (b.take (b.length-(KB b).1.toNat)) (a+1)
theorem Aic:∀(j q a:Nat) (b:LB),b.length<j->j<=q->b.length<=4000->a+b.length<=4000->FJ q (a:Int) b=some (S? j b a)
 |0,_,_,_,h,_,_,_=>by omega
 |j+1,q+1,a,b,h,hq,h4,ha=>by
  rw[FJ,cI,S?];by_cases hb:b=[]
  ·subst hb;rw[B! F5,B6 rfl];rfl
  ·have hpos:0<b.length:=List.length_pos_iff.2 hb;rw[B6 D!,B! hb,Ar8 b F0,Aa];have hbad:=Aqg (b:=b);have hok:=λn=>Aha (b:=b) (n:=n);generalize KB b=v at*
   obtain⟨n,e⟩:=v;simp only at hbad⊢;rw[YG,Bbd];by_cases he:e≠0
   ·rw[B6 he,hbad he,B6 F5]
   ·obtain⟨k1,k2⟩:=hok n (by rw[show e=0 by simpa using he]);rw[B! he,B! G2,Ac,Ca,Dt,Aa,Bbi,Bbj,Ag];rw[show((b.length:Int)-n).toNat=b.length-n.toNat by omega];have ih:=Aic j q (a+1) (b.take (b.length-n.toNat)) T6 F0 T6 T6;rw[<-ih];rfl
theorem Anz:∀(j q a:Nat) (b:LB),b.length<j->j<=q->b.length<=4000->a+b.length<=4000->Pf q b (a:Int)=some (S? j b a)
 |0,_,_,_,h,_,_,_=>by omega
 |j+1,q+1,a,b,h,hq,h4,ha=>by
  rw[Pf,FI,S?];by_cases hb:b=[]
  ·subst hb;rw[B! F5,B6 rfl];rfl
  ·have hpos:0<b.length:=List.length_pos_iff.2 hb;rw[B6 D!,B! hb,Awe b F0,Aa];have hok:=λn=>Aha (b:=b) (n:=n);generalize KB b=v at*
   obtain⟨n,e⟩:=v;simp only;by_cases he:e≠0
   ·rw[B6 he,B6 (by rw[Am];simpa using he)]
   ·obtain⟨k1,k2⟩:=hok n (by rw[show e=0 by simpa using he]);rw[B! he,B! (by rw[Am];simpa using he),Ac,Ca,Dt,Aa,Ag];rw[show((b.length:Int)-n).toNat=b.length-n.toNat by omega];have ih:=Anz j q (a+1) (b.take (b.length-n.toNat)) T6 F0 T6 T6;rw[<-ih];rfl
def lM(b:LB):Int×Int:=if 4000<b.length then(0,38)else S? (b.length+1) b 0
theorem Ahh(b:LB)(hl:b.length<4611686018427387904):dX b=some (lM b):=by
 rw[dX,cD,lM];by_cases h:4000<b.length
 ·rw[B6 D!,B6 h]
 ·rw[B! D!,B! h];exact Aic _ As 0 b F0 F7 F0 F0
theorem Amk(b:LB)(hl:b.length<4611686018427387904):AQ b=some (lM b):=by
 rw[AQ,DP,lM];by_cases h:4000<b.length
 ·rw[B6 D!,B6 h]
 ·rw[B! D!,B! h];exact Anz _ As 0 b F0 F7 F0 F0
theorem AF{a b:Nat}(h:a<9223372036854775808:=by omega):Bs (a:Int) (b:Int)=((a/b:Nat):Int):=by
 have:a/b<=a:=G9 _ _;rw[YC,TM F0,<-vF];generalize a/b=k at*
 exact Dp F0 F0
theorem Ap2{bits:Int}(h:Bq bits)(x:Int):(C0 bits x).length=wB bits:=by
 obtain rfl|rfl|rfl:=h<;>rfl
theorem vY{bits:Int}(h:Bq bits):∀l:LX,(We bits l).length=l.length*wB bits
 |[]=>by simp[We]
 |x::l=>by
  have h1:=vY h l;have h2:=Ap2 h x.toInt;simp only[We,uq,B9,E8,OJ]at*
  omega
def Bfd(b:LB)(A:Nat)(l:LI)(k:Nat):LB:=(b.take ((A:Int)+(l.take (k+1)).sum).toNat).drop ((A:Int)+(l.take k).sum).toNat
structure Gts (b p:LB) (f c w r n A:Nat) (l:LI) (k m:Nat) (x:LX) (s:LB) (e:Int):Prop where
 mom:Aj (Az (Ak r) n) (k:Int)=some (m:Int)
 pos:1<=m/\m*c<=4000
 got:Azr b p (f:Int) (c:Int) (w:Int) (r:Int) (n:Int) (A:Int) l (k:Int)=some (s,e)
 none':e≠0->s=[]/\x=[]
 some':e=0->s=We (w:Int) x/\x.length=m*c/\Bd (w:Int) x=some 0/\DJ (w:Int) x=some (s,0)/\ (A:Int)+(l.take (k+1)).sum<=b.length
 way:((b.length:Int)<(A:Int)+(l.take (k+1)).sum/\e=24)\/ ((A:Int)+(l.take (k+1)).sum<=b.length/\BC (c:Int) (w:Int) (Vz p) (m:Int) (Bfd b A l k)=some (x,e)/\Fz (c:Int) (w:Int) (Vz p) (m:Int) (Bfd b A l k)=some (x,e))
theorem Gts.lens{b p:LB}{f c w r n A:Nat}{l:LI}{k m:Nat}{x:LX}{s:LB}{e:Int}(hw:Bq (w:Int))(g:Gts b p f c w r n A l k m x s e):s.length<=12000/\x.length<=4000/\ (e=0->s.length=m*c*wB (w:Int)):=by
 by_cases he:e=0
 ·obtain⟨h1,h2,_⟩:=g.some' he;have h3:=YU (w:Int) x;have h4:=vY hw x;have h5:=g.pos;rw[<-h1]at h3 h4;refine⟨F0,F0,λ_=>by rw[h4,h2]⟩
 ·obtain⟨h1,h2⟩:=g.none' he;exact⟨by simp[h1],by simp[h2],λh=>absurd h he⟩
def Beq(b p:LB)(f c w r n A:Nat)(l:LI)(k:Nat):LB×Int:=(Azr b p (f:Int) (c:Int) (w:Int) (r:Int) (n:Int) (A:Int) l (k:Int)).getD ([],0)
theorem Gts.eq{b p:LB}{f c w r n A:Nat}{l:LI}{k m:Nat}{x:LX}{s:LB}{e:Int}(g:Gts b p f c w r n A l k m x s e):Beq b p f c w r n A l k=(s,e):=by rw[Beq,g.got];rfl
theorem vJ{p:Prop}(h:p:=by simp[hB];omega):p:=h
def Xc(b:LB)(k:Nat):Nat:=(b.getD k 0).toNat
theorem pV(b:LB)(k:Nat):Xc b k<256:=(b.getD k 0).toNat_lt
def sx(n:Nat)(b:LB)(a:Nat):Int:=
 if n=1 then(Xc b a:Int)-128 else
 if n=2 then(if Xc b a+256*Xc b (a+1)<32768 then(Xc b a+256*Xc b (a+1):Nat)else((Xc b a+256*Xc b (a+1):Nat):Int)-65536)else
 (if Xc b a+256*Xc b (a+1)+65536*Xc b (a+2)<8388608 then(Xc b a+256*Xc b (a+1)+65536*Xc b (a+2):Nat)else((Xc b a+256*Xc b (a+1)+65536*Xc b (a+2):Nat):Int)-16777216)
def pB(n m:Nat)(b:LB):LX:=(List.range m).map λx=>Int32.ofInt (sx n b (x*n))
theorem zP(n m:Nat)(b:LB):(pB n m b).length=m:=by simp[pB]
theorem Ah6(n m:Nat)(b:LB):pB n (m+1) b=pB n m b++[Int32.ofInt (sx n b (m*n))]:=by simp[pB,bC]
theorem yA{n:Int}(h: -2147483648<=n)(h':n<2147483648):(Int32.ofInt n).toInt=n:=by
 rw[RJ,d?,show((Int32.size:Nat):Int)=4294967296 from rfl];split<;>omega
theorem tA{b:LB}{k:Nat}(h:k<b.length):Aj b (k:Int)=some (b.getD k 0):=by
 rw[Bl h];simp[List.getD_eq_getElem?_getD,h]
theorem iD(c:UInt8):(Ae c:Int32)=Int32.ofInt (c.toNat:Int):=rfl
theorem Z8{v:Nat}(k:Nat)(hk:k<=32)(h:v<2147483648):Ed (Int32.ofInt (v:Int)) k=Int32.ofInt ((v*2^k:Nat):Int):=by
 have e:Ed (Int32.ofInt (v:Int)) k=Int32.ofInt ((Int32.ofInt (v:Int)).toInt*2^min k 32):=rfl;rw[e,yA F0 F0,MJ hk];simp
theorem jV{v w i:Nat}(hv:v<2^i)(hw:w*2^i<2147483648)(hi:i<=31):K4 (Int32.ofInt (v:Int)) (Int32.ofInt ((w*2^i:Nat):Int))=Int32.ofInt ((v+w*2^i:Nat):Int):=by
 have hv2:v<2147483648:=I6 hv (show 2^i<=2^31 from E4 F0 hi);have e:K4 (Int32.ofInt (v:Int)) (Int32.ofInt ((w*2^i:Nat):Int))=Int32.ofInt ((BitVec.ofInt 32 (Int32.ofInt (v:Int)).toInt|||BitVec.ofInt 32 (Int32.ofInt ((w*2^i:Nat):Int)).toInt).toNat:Int):=rfl;rw[e,yA F0 F0,yA F0 F0,cX,QP,QP];have a1:((v:Int) %((2^32:Nat):Int)).toNat=v:=F0
 have a2:(((w*2^i:Nat):Int) %((2^32:Nat):Int)).toNat=w*2^i:=F0
 rw[a1,a2,Nat.or_comm,E! w,<-SW hv,P6]
theorem Ado(w:Nat)(h:w<2147483648):K4 (0:Int32) (Int32.ofInt (w:Int))=Int32.ofInt (w:Int):=by
 have:=jV (v:=0) (w:=w) (i:=0) B8 (by simpa using h) F0;simpa using this
theorem carry{v k:Nat}(hk:k<=31)(h:v*2^k<4294967296)(hv:v<2147483648):Cx (Ed (Int32.ofInt (v:Int)) k) k=Int32.ofInt ((if v*2^k<2147483648 then((v*2^k:Nat):Int)else((v*2^k:Nat):Int)-4294967296).fdiv (2^k)):=by
 rw[Z8 k F0 hv];have e:∀x:Int32,Cx x k=Int32.ofInt (x.toInt.fdiv (2^min k 32)):=λ_=>rfl;have hX:(Int32.ofInt ((v*2^k:Nat):Int)).toInt=if v*2^k<2147483648 then((v*2^k:Nat):Int)else((v*2^k:Nat):Int)-4294967296:=by
  rw[RJ,d?,show((Int32.size:Nat):Int)=4294967296 from rfl];generalize v*2^k=X at*
  split<;>split<;>omega
 rw[e,MJ F0,hX]
theorem sx2(b:LB)(a:Nat):sx 2 b a=if Xc b a+256*Xc b (a+1)<32768 then((Xc b a+256*Xc b (a+1):Nat):Int)else((Xc b a+256*Xc b (a+1):Nat):Int)-65536:=rfl
theorem sx3(b:LB)(a:Nat):sx 3 b a=if Xc b a+256*Xc b (a+1)+65536*Xc b (a+2)<8388608 then((Xc b a+256*Xc b (a+1)+65536*Xc b (a+2):Nat):Int)else((Xc b a+256*Xc b (a+1)+65536*Xc b (a+2):Nat):Int)-16777216:=rfl
variable (b:LB)
theorem Be6(bk:Int->LX->Option (LX×Int))(a:Nat)(acc:LX)(h:a+1<=b.length)(hl:b.length<=100000)(ha:acc.length<=100000)(j25:Int->LX->Int32->Int->Option (LX×Int))(j30:LX->Option (LX×Int)):
  Is (Oh bk 8 b) j25 j30 8 b (a:Int) acc=bk ((a+1:Nat):Int) (acc++[Int32.ofInt (sx 1 b a)]):=by
 have hb:=pV b a;have e:Ap (Ae (b.getD a 0):Int32) (128:Int32)=Int32.ofInt (sx 1 b a):=by
  have e1:Ap (Ae (b.getD a 0):Int32) (128:Int32)=Int32.ofInt ((Int32.ofInt ((b.getD a 0).toNat:Int)).toInt-(128:Int32).toInt):=rfl;rw[e1,yA F0 (by have:=(b.getD a 0).toNat_lt;omega)];rfl
 have q8:Bs (8:Int) 8=1:=F5
 rw[Is,B6 F2,B6 Q0,tA F0,Aa,e,Ay F6,Aa,Oh,HY,q8,Ag];rfl
theorem Bcq(bk:Int->LX->Option (LX×Int))(a:Nat)(acc:LX)(h:a+2<=b.length)(hl:b.length<=100000)(ha:acc.length<=100000)(j28:Int->LX->Option (LX×Int))(j30:LX->Option (LX×Int)):
  Is j28 (Tj bk 16 b) j30 16 b (a:Int) acc=bk ((a+2:Nat):Int) (acc++[Int32.ofInt (sx 2 b a)]):=by
 have h0:=pV b a;have h1:=pV b (a+1);have q:Bs (16:Int) 8=2:=F5
 have hF:As=(As-3)+1+1+1:=by have:=Aq;omega
 have z0:(GI.toZ (Bn (8:Int) 0)).toNat=0:=F5
 have z1:(GI.toZ (Bn (8:Int) 1)).toNat=8:=F5
 have z16:(GI.toZ (Ap (32:Int) 16)).toNat=16:=F5
 have s0:Ed (Int32.ofInt (Xc b a:Int)) 0=Int32.ofInt (Xc b a:Int):=by have:=Z8 (v:=Xc b a) 0 F0 F0;simpa using this
 have s1:Ed (Int32.ofInt (Xc b (a+1):Int)) 8=Int32.ofInt ((Xc b (a+1)*2^8:Nat):Int):=Z8 8 F0 F0;have o1:=jV (v:=Xc b a) (w:=Xc b (a+1)) (i:=8) (by simpa using h0) F0 F0;have c:=carry (v:=Xc b a+Xc b (a+1)*2^8) (k:=16) F0 F0 F0;rw[Is,B6 F2,B! R5,Tj,hF,Gp,Ii,q,B6 F5,show Af (a:Int) 0=((a:Nat):Int) by rw[Ag];omega,tA F0,Aa,Bz F5,Aa,z0,
  iD,show((b.getD a 0).toNat:Int)=(Xc b a:Int)from rfl,s0,Ado _ F0,show Af (0:Int) 1=1 by decide,
  Gp,Ii,q,B6 F5,show Af (a:Int) 1=((a+1:Nat):Int) by rw[Ag];omega,tA F0,Aa,Bz F5,Aa,z1,
  iD,show((b.getD (a+1) 0).toNat:Int)=(Xc b (a+1):Int)from rfl,s1,o1,show Af (1:Int) 1=2 by decide,
  Gp,Ii,q,B! F5,IG,SC,Bz F5,Aa,Aa,z16,c,Ay F6,Aa,Oh,HY,q,Ag]
 have e:((if(Xc b a+Xc b (a+1)*2^8)*2^16<2147483648 then(((Xc b a+Xc b (a+1)*2^8)*2^16:Nat):Int)else(((Xc b a+Xc b (a+1)*2^8)*2^16:Nat):Int)-4294967296).fdiv (2^16))=sx 2 b a:=by
  rw[NX _ F0,sx2];split<;>split<;>omega
 rw[e];rfl
theorem Bcw(bk:Int->LX->Option (LX×Int))(a:Nat)(acc:LX)(h:a+3<=b.length)(hl:b.length<=100000)(ha:acc.length<=100000)(j28:Int->LX->Option (LX×Int))(j30:LX->Option (LX×Int)):
  Is j28 (Tj bk 24 b) j30 24 b (a:Int) acc=bk ((a+3:Nat):Int) (acc++[Int32.ofInt (sx 3 b a)]):=by
 have h0:=pV b a;have h1:=pV b (a+1);have h2:=pV b (a+2);have q:Bs (24:Int) 8=3:=F5
 have hF:As=(As-4)+1+1+1+1:=by have:=Aq;omega
 have z0:(GI.toZ (Bn (8:Int) 0)).toNat=0:=F5
 have z1:(GI.toZ (Bn (8:Int) 1)).toNat=8:=F5
 have z2:(GI.toZ (Bn (8:Int) 2)).toNat=16:=F5
 have z8:(GI.toZ (Ap (32:Int) 24)).toNat=8:=F5
 have s0:Ed (Int32.ofInt (Xc b a:Int)) 0=Int32.ofInt (Xc b a:Int):=by have:=Z8 (v:=Xc b a) 0 F0 F0;simpa using this
 have s1:Ed (Int32.ofInt (Xc b (a+1):Int)) 8=Int32.ofInt ((Xc b (a+1)*2^8:Nat):Int):=Z8 8 F0 F0;have s2:Ed (Int32.ofInt (Xc b (a+2):Int)) 16=Int32.ofInt ((Xc b (a+2)*2^16:Nat):Int):=Z8 16 F0 F0;have o1:=jV (v:=Xc b a) (w:=Xc b (a+1)) (i:=8) (by simpa using h0) F0 F0;have o2:=jV (v:=Xc b a+Xc b (a+1)*2^8) (w:=Xc b (a+2)) (i:=16) F0 F0 F0;have c:=carry (v:=Xc b a+Xc b (a+1)*2^8+Xc b (a+2)*2^16) (k:=8) F0 F0 F0;rw[Is,B6 F2,B! R5,Tj,hF,Gp,Ii,q,B6 F5,show Af (a:Int) 0=((a:Nat):Int) by rw[Ag];omega,tA F0,Aa,Bz F5,Aa,z0,
  iD,show((b.getD a 0).toNat:Int)=(Xc b a:Int)from rfl,s0,Ado _ F0,show Af (0:Int) 1=1 by decide,
  Gp,Ii,q,B6 F5,show Af (a:Int) 1=((a+1:Nat):Int) by rw[Ag];omega,tA F0,Aa,Bz F5,Aa,z1,
  iD,show((b.getD (a+1) 0).toNat:Int)=(Xc b (a+1):Int)from rfl,s1,o1,show Af (1:Int) 1=2 by decide,
  Gp,Ii,q,B6 F5,show Af (a:Int) 2=((a+2:Nat):Int) by rw[Ag];omega,tA F0,Aa,Bz F5,Aa,z2,
  iD,show((b.getD (a+2) 0).toNat:Int)=(Xc b (a+2):Int)from rfl,s2,o2,show Af (2:Int) 1=3 by decide,
  Gp,Ii,q,B! F5,IG,SC,Bz F5,Aa,Aa,z8,c,Ay F6,Aa,Oh,HY,q,Ag]
 have e:((if(Xc b a+Xc b (a+1)*2^8+Xc b (a+2)*2^16)*2^8<2147483648 then(((Xc b a+Xc b (a+1)*2^8+Xc b (a+2)*2^16)*2^8:Nat):Int)else(((Xc b a+Xc b (a+1)*2^8+Xc b (a+2)*2^16)*2^8:Nat):Int)-4294967296).fdiv (2^8))=sx 3 b a:=by
  rw[NX _ F0,sx3];split<;>split<;>omega
 rw[e];rfl
theorem Abx(bits:Int)(n m:Nat)(hn:1<=n)(hm:b.length=m*n)(hl:b.length<=100000)(step:∀(q a:Nat) (acc:LX),a+n<=b.length->acc.length<=100000->Fi bits b (q+1) (a:Int) acc=Fi bits b q ((a+n:Nat):Int) (acc++[Int32.ofInt (sx n b a)])):
  ∀(j x q:Nat),x+j=m->j<q->Fi bits b q ((x*n:Nat):Int) (pB n x b)=some (pB n m b,0)
 |0,x,q+1,hx,_=>by
  obtain rfl:x=m:=F0
  rw[Fi,Is,B! F2];rfl
 |j+1,x,q+1,hx,hq=>by
  have h1:(x+1)*n<=m*n:=C9 n F0;rw[C6,HV]at h1;have h2:m<=m*n:=VO m hn;rw[step q (x*n) _ F0 (by rw[zP];omega),<-Ah6,show x*n+n=(x+1)*n by rw[C6,HV]];exact Abx bits n m hn hm hl step j (x+1) q F0 F0
theorem Asq{bits:Int}(h:¬Bq bits):Sd bits=some (0,0,2):=by
 have h8:¬bits=8:=λe=>h (.inl e);have h16:¬bits=16:=λe=>h (.inr (.inl e));have h24:¬bits=24:=λe=>h (.inr (.inr e));rw[Sd,gU,B! (by rw[Ax];simpa using h8),B! (by rw[Ax];simpa using h16),jD,fU,B! (by rw[Ax];simpa using h24)]
theorem Ben{bits:Int}(h:Bq bits)(hl:b.length<=100000)(q a:Nat)(acc:LX)(ha:a+wB bits<=b.length)(hc:acc.length<=100000):
  Fi bits b (q+1) (a:Int) acc=Fi bits b q ((a+wB bits:Nat):Int) (acc++[Int32.ofInt (sx (wB bits) b a)]):=by
 rw[Fi];obtain rfl|rfl|rfl:=h
 ·exact Be6 b _ a acc ha hl hc _ _
 ·exact Bcq b _ a acc ha hl hc _ _
 ·exact Bcw b _ a acc ha hl hc _ _
theorem Adp{bits:Int}(h:Bq bits){m:Nat}(hm:b.length=m*wB bits)(h4:m<=4000):ZA bits b=some (pB (wB bits) m b,0):=by
 have hn:=D5 bits;have hl:b.length<=12000:=by rw[hm];exact G0 h4 hn.2
 rw[ZA,YL,G! h,Aa];simp only;rw[B! D7,lq h,Bz E?,Aa];have hr:Gx (Ac b) (wB bits:Int)=0:=by rw[Ac,GF,hm,NR];rfl
 have hq:Bs (Ac b) (wB bits:Int)=(m:Int):=by rw[Ac,AF,hm,cT _ F0]
 rw[B! (by rw[Am,hr];simp),Aa,hq,B! E5,Awp];have:=Abx b bits (wB bits) m F0 hm F0 (λq a acc ha hc=>Ben b h F0 q a acc ha hc) m 0 As F0 F7;simpa [pB]using this
theorem Azk{bits:Int}(h:Bq bits)(hl:b.length<=100000)(q a:Nat)(acc:LX)(ha:a+wB bits<=b.length)(hc:acc.length<=100000):
  Dy bits b (hB bits) (q+1) (a:Int) acc=Dy bits b (hB bits) q ((a+wB bits:Nat):Int) (acc++[Int32.ofInt (sx (wB bits) b a)]):=by
 have h0:=pV b a;have h1:=pV b (a+1);have h2:=pV b (a+2);have gc:∀k,(Ae (b.getD k 0):Int)=(Xc b k:Int):=λk=>YB _;have gx:∀z:Int,(Ae z:Int32)=Int32.ofInt z:=λz=>rfl;have hF:As=(As-7)+1+1+1+1+1+1+1:=by have:=Aq;omega
 have hw1:wB bits=1\/wB bits=2\/wB bits=3:=by have:=D5 bits;omega
 have hend:∀(bk:Int->LX->Option (LX×Int)) (z:Int),0<=z->z<2*hB bits->z=(if bits=8 then(Xc b a:Int)else if bits=16 then((Xc b a+256*Xc b (a+1):Nat):Int)else((Xc b a+256*Xc b (a+1)+65536*Xc b (a+2):Nat):Int))->
   Mc bk bits b (hB bits) (a:Int) z acc=bk ((a+wB bits:Nat):Int) (acc++[Int32.ofInt (sx (wB bits) b a)]):=by
  intro bk z z0 z1 z2;rw[Mc,Abz];have e28:∀uA,Zo bk bits b (hB bits) (a:Int) uA=bk ((a+wB bits:Nat):Int) uA:=by
   intro uA;rw[Zo,Abu,lq h,Ag];rfl
  simp only[e28];obtain rfl|rfl|rfl:=h
  ·rw[B6 F5,Ca F0 (by simp[hB]at z1;omega),Ay F6,Aa,gx,z2];rfl
  ·rw[B! F5];have e9:hB 16=32768:=rfl;rw[e9]at z1⊢;simp only[show ¬(16:Int)=8 by decide,H5,NW]at z2;have e10:wB 16=2:=rfl;rw[e10,sx2];by_cases hz:32768<=z
   ·rw[B6 (by rw[De];simpa using hz),Ea,Ca,Ay F6,Aa,gx,B! F0,z2];rfl
   ·rw[B! (by rw[De];simpa using hz),Ay F6,Aa,gx,B6 F0,z2]
  ·rw[B! F5];have e9:hB 24=8388608:=rfl;rw[e9]at z1⊢;simp only[show ¬(24:Int)=8 by decide,show ¬(24:Int)=16 by decide,H5]at z2;have e10:wB 24=3:=rfl;rw[e10,sx3];by_cases hz:8388608<=z
   ·rw[B6 (by rw[De];simpa using hz),Ea,Ca,Ay F6,Aa,gx,B! F0,z2];rfl
   ·rw[B! (by rw[De];simpa using hz),Ay F6,Aa,gx,B6 F0,z2]
 have step:∀(bk:Int->LX->Option (LX×Int)) (q2:Nat) (k:Int) (i:Nat),a+i<b.length->0<=k->k<65536->Ek bk bits b (hB bits) (a:Int) acc (q2+1) k (i:Int)=Ek bk bits b (hB bits) (a:Int) acc q2 (256*k+(Xc b (a+i):Int)) ((i:Int)-1):=by
  intro bk q2 k i hi hk hk2;have:=pV b (a+i);rw[Ek,Rl,B6 IZ,Ag (a:=(a:Int)) F0 F0,show(a:Int)+(i:Int)=((a+i:Nat):Int) by omega,tA F0,Aa,gc,Ea,Ag,Ca]
 have last:∀(bk:Int->LX->Option (LX×Int)) (q2:Nat) (k:Int),Ek bk bits b (hB bits) (a:Int) acc (q2+1) k (-1)=Mc bk bits b (hB bits) (a:Int) k acc:=by
  intro bk q2 k;rw[Ek,Rl,B! (by rw[De];decide)]
 rw[Dy,Rg,B6 F2,Zu,hF];generalize Dy bits b (hB bits) q=bk at*
 have hwq:=lq h;rw[hwq,Ca];obtain rfl|rfl|rfl:=h
 ·have e10:wB 8=1:=rfl;rw[e10]at ha⊢;rw[show(((1:Nat):Int)-1)=((0:Nat):Int) by omega,step _ _ 0 0 F0 F0 F0,show(((0:Nat):Int)-1)= -1 by omega,last];exact hend bk _ F0 vJ B8
 ·have e10:wB 16=2:=rfl;rw[e10]at ha⊢;rw[show(((2:Nat):Int)-1)=((1:Nat):Int) by omega,step _ _ 0 1 F0 F0 F0,show(((1:Nat):Int)-1)=((0:Nat):Int) by omega,step _ _ _ 0 F0 F0 F0,show(((0:Nat):Int)-1)= -1 by omega,last];exact hend bk _ F0 vJ F6
 ·have e10:wB 24=3:=rfl;rw[e10]at ha⊢;rw[show(((3:Nat):Int)-1)=((2:Nat):Int) by omega,step _ _ 0 2 F0 F0 F0,show(((2:Nat):Int)-1)=((1:Nat):Int) by omega,step _ _ _ 1 F0 F0 F0,show(((1:Nat):Int)-1)=((0:Nat):Int) by omega,step _ _ _ 0 F0 F0 F0,show(((0:Nat):Int)-1)= -1 by omega,last];exact hend bk _ F0 vJ F6
theorem Az9{bits:Int}(h:Bq bits){m:Nat}(hm:b.length=m*wB bits)(hl:b.length<=100000):
  ∀(j x q:Nat),x+j=m->j<q->Dy bits b (hB bits) q ((x*wB bits:Nat):Int) (pB (wB bits) x b)=some (pB (wB bits) m b,0)
 |0,x,q+1,hx,_=>by
  obtain rfl:x=m:=F0
  rw[Dy,Rg,B! F2];rfl
 |j+1,x,q+1,hx,hq=>by
  have hn:=D5 bits;have h1:(x+1)*wB bits<=m*wB bits:=C9 _ F0;rw[C6,HV]at h1;have h2:m<=m*wB bits:=VO m hn.1;rw[Azk b h hl q (x*wB bits) _ F0 (by rw[zP];omega),<-Ah6,show x*wB bits+wB bits=(x+1)*wB bits by rw[C6,HV]];exact Az9 h hm hl j (x+1) q F0 F0
theorem Af3{bits:Int}(h:Bq bits){m:Nat}(hm:b.length=m*wB bits)(h4:m<=4000):Zh bits b=some (pB (wB bits) m b,0):=by
 have hn:=D5 bits;have hl:b.length<=12000:=by rw[hm];exact G0 h4 hn.2
 have hpos:=XU bits;rw[Zh,BH,oS h,Aa,B! G2,lq h,Bz E?,Aa];have hr:Gx (Ac b) (wB bits:Int)=0:=by rw[Ac,GF,hm,NR];rfl
 have hq:Bs (Ac b) (wB bits:Int)=(m:Int):=by rw[Ac,AF,hm,cT _ F0]
 rw[B! (by rw[Ar,hr];simp),Aa,hq,B! E5,Abr];have:=Az9 b h hm F0 m 0 As F0 F7;simpa [pB]using this
end Go.Pl
namespace Go.Pl
open Go Go.Lv
theorem e!{c:Nat}{w:Nat}(hc:c<=6)(hw:Bq (w:Int)):Bs (Bn (c:Int) (w:Int)) 8=((c*wB (w:Int):Nat):Int):=by
 have h:w=8\/w=16\/w=24:=by unfold Bq at hw;omega
 have:c=0\/c=1\/c=2\/c=3\/c=4\/c=5\/c=6:=F0
 rcases h with rfl|rfl|rfl<;>rcases this with rfl|rfl|rfl|rfl|rfl|rfl|rfl<;>rfl
theorem Bbu{w:Nat}(hw:Bq (w:Int)):8*wB (w:Int)=w/\w<=24:=by
 have h:w=8\/w=16\/w=24:=by unfold Bq at hw;omega
 rcases h with rfl|rfl|rfl<;>exact⟨rfl,F0⟩
theorem Bda{t c w:Nat}(ht:t<=4000)(hc:c<=6)(hw:Bq (w:Int)):Bs (Bn (Bn (t:Int) (c:Int)) (w:Int)) 8=((t*(c*wB (w:Int)):Nat):Int):=by
 obtain⟨h1,h2⟩:=Bbu hw;have e1:(t:Int)*(c:Int)=((t*c:Nat):Int):=by simp
 have b1:t*c<=4000*6:=G0 ht hc;have b2:t*c*w<=24000*24:=G0 b1 h2;rw[Ea (a:=(t:Int)) (by rw[e1];omega) (by rw[e1];omega),e1,Ea K? K?,<-M!,show(8:Int)=((8:Nat):Int)from rfl,AF];congr 1;generalize wB (w:Int)=W at*
 subst h1;rw[uo,Bko _ F0,IF]
theorem Ag6{seg p:LB}(hs:seg.length=8)(hp:p.length<=64):VF seg p=some (seg==DZ (MI p).toNat 8,0):=by
 rw[VF,xA p hp,Aa];simp only;rw[B! (by rw[Am,Am,Ac,Ac,Dk,hs];simp),Qb,Aa]
def W9(b:LB):LI:=Az (Ak (f3 (GY b))) (f4 (GY b))
theorem Au3{ch:Nat}{bits:Int}(hb:Bq bits)(h1:1<=ch)(h6:ch<=6):Nz (ch:Int) bits=some 0:=by
 have hr:∃x y,Sd bits=some (x,y,0):=⟨_,_,G! hb⟩;obtain⟨x,y,hr⟩:=hr;rw[Nz,hr,Aa];simp only;rw[B! lU]
theorem y!{c r n:Nat}(h:bP c r n=true):1<= (Az (Ak r) n).length/\ (Az (Ak r) n).length<=1000:=by
 simp only[bP,B?]at h;rw[wM];exact⟨Nat.le_add_left _ _,h.2⟩
theorem nA(g:Nat):∀K:Nat,(List.replicate K (g:Int)).sum=((K*g:Nat):Int)
 |0=>by simp
 |K+1=>by
  rw[QR,K1,nA g K,OJ];omega
theorem xH{g n:Nat}(hn:1<=n):(Az g n).sum=(n:Int):=by
 have h:=SY (n-1) g;rw[Az,k!,nA];simp only[K1,Y1];omega
theorem fS:∀{l:LI},(∀x∈l,0<=x)->0<=l.sum
 |[],_=>by simp
 |x::l,h=>by
  have h1:=h x M9;have h2:=fS (l:=l) λy hy=>h y (J_ _ hy);rw[K1];omega
theorem zV{l:LI}(h:∀x∈l,0<=x)(i:Nat):0<= (l.take i).sum/\ (l.take i).sum<=l.sum:=by
 have h1:=fS (l:=l.take i) λx hx=>h x (jh hx);have h2:=fS (l:=l.drop i) λx hx=>h x (TO hx);have:=Arl l i;omega
def RT(c w:Nat)(fr:LI)(k:Nat):Int:=(((fr.take k).sum.toNat*(c*wB (w:Int)):Nat):Int)
section
variable {f c w r n:Nat} (h1:Oe f c w r n=true) (h2:bP c r n=true)
include h1 h2
theorem iH:(∀x∈Az (Ak r) n,0<=x)/\ (Az (Ak r) n).sum=(n:Int)/\n<=4000:=by
 obtain⟨hc,hw,hr,hn,_⟩:=O6 h1;have hfit:n<=4000/c:=by simp only[bP,B?]at h2;exact h2.1
 have hn4:n<=4000:=by have:=G9 4000 c;omega
 refine⟨λx hx=>?_,xH hn,hn4⟩;obtain⟨m,rfl,_⟩:=XR (Hb r) hn hx;omega
end
theorem Alj(C W:Nat)(fr:LI):RT C W fr 0=0:=by rw[RT,Q_,Y1];simp
theorem Alg(C W:Nat){fr:LI}(hp:∀z∈fr,0<=z){A m:Nat}(hA:A<fr.length)(hm:fr[A]=(m:Int)):RT C W fr (A+1)=RT C W fr A+((m*C*wB (W:Int):Nat):Int):=by
 have hs:0<= (fr.take A).sum:=by
  have:∀l:LI,(∀z∈l,0<=z)->0<=l.sum:=by
   intro l
   induction l with
   |nil=>intro _;simp
   |cons a l ih=>intro h;rw[K1];have:=h a B8;have:=ih (λz hz=>h z (by simp[hz]));omega
  exact this _ λz hz=>hp z (jh hz)
 have e:(fr.take (A+1)).sum=(fr.take A).sum+m:=by rw[Ho hA,k!,K1,Y1,hm];omega
 rw[RT,RT,e];have:((fr.take A).sum+(m:Int)).toNat=(fr.take A).sum.toNat+m:=F0
 rw[this,C6,IF m];omega
theorem jr{bits:Int}(h:Bq bits){l:LX}(hl:l.length<=4000)(hr:inR bits l):Bd bits l=some 0:=by
 have hh:=XU bits;have key:∀(j i q:Nat),i+j=l.length->j<q->Bp l (hB bits) q (i:Int)=some 0:=by
  intro j
  induction j with
  |zero=>
   intro i q hi hq;obtain⟨q,rfl⟩:∃k,q=k+1:=⟨q-1,F0⟩;rw[Bp,Ee,B! F2];rfl
  |succ j ih=>
   intro i q hi hq;obtain⟨q,rfl⟩:∃k,q=k+1:=⟨q-1,F0⟩;have hx:=hr l[i] (G8 F0);rw[Bp,Ee,B6 F2,Bl,Aa,Aa,Fq,f?,Dp F0 F0,Ag,Ad,De,B! F6,B! F6];exact ih (i+1) q F0 F0
 rw[Bd,Hy,oS h,Aa,B! G2,B! D!];exact key l.length 0 As F0 F7
def It(bits:Int)(ch:Nat)(t x:LX):LU:=evl bits ch t (mx ch x) x.length
def SM(bits:Int)(ch:Nat)(t x:LX):LB:=Gn (RZ ch (It bits ch t x) x.length)
def SV(bits:Int)(ch:Nat)(t x:LX):LB:=SM bits ch t x++DZ (Fw (SM bits ch t x)).toNat 4
theorem Atx(bits:Int)(ch:Nat)(t x:LX)(h0:1<=x.length)(h4:x.length<=4000):1<= (SM bits ch t x).length/\ (SM bits ch t x).length<=40501:=by
 have h:=ZP ch (It bits ch t x) x.length;obtain⟨k,hk⟩:∃k,x.length=k+1:=⟨x.length-1,F0⟩;have h1:1<= (RZ ch (It bits ch t x) x.length).length:=by
  rw[hk,RZ,B9];have hn:=dY ch ((It bits ch t x).take k);have:=eU ((It bits ch t x).getD k 0) hn.1 hn.2;omega
 rw[SM,BW];omega
theorem Ahr(bits:Int)(ch:Nat)(t x:LX)(h0:1<=x.length)(h4:x.length<=4000):5<= (SV bits ch t x).length/\ (SV bits ch t x).length<=40505:=by
 have:=Atx bits ch t x h0 h4;rw[SV,B9,Dk];omega
theorem Aiy(p:LB)(b0:UInt64)(a0:Int):∀(j m q:Nat),m+j<=300000->j<=64->j<q->
  Yf b0 a0 q (Re p m j) (j:Int) (m:Int) (Mx p 0 m)=some (Mx p 0 (m+j),((m+j:Nat):Int),0)
 |0,m,q+1,_,_,_=>by
  rw[Yf,eB,B! S0,qZ,Abl];rfl
 |j+1,m,q+1,hm,hj,hq=>by
  have hroom:Yf b0 a0 (q+1) (Re p m (j+1)) ((j+1:Nat):Int) (m:Int) (Mx p 0 m)=eA (Yf b0 a0 q) b0 a0 (Re p m (j+1)) ((j+1:Nat):Int) (m:Int) (room p 0 m):=by
   rw[Yf,eB,B6 S0,ug m F0,room];by_cases h0:m %8=0
   ·rw[B6 (by rw[Ax,h0];rfl),Ay dH,Aa,B6 h0]
   ·rw[B! G2,B! h0]
  have hl:Ap (Ac (room p 0 m)) 1=((m/8:Nat):Int):=by
   rw[Ac,Rq,Ca];omega
  have e2:Du ((j+1:Nat):Int) (Ap (8:Int) ((m %8:Nat):Int))=((min (j+1) (8-m %8):Nat):Int):=by
   rw[Zp,Ca];omega
  rw[hroom,eA,Adh,ug m F0,e2,hl];generalize hT:min (j+1) (8-m %8)=T;have hT1:1<=T:=F0
  have hT8:m %8+T<=8:=F0
  have hg:Aj (room p 0 m) ((m/8:Nat):Int)=some (UInt8.ofNat (Ck p (0+8*(m/8)) (m %8))):=by
   rw[Bl UD,eY]
  have z1:(GI.toZ ((m %8:Nat):Int)).toNat=m %8:=rfl;have z2:(GI.toZ ((T:Nat):Int)).toNat=T:=rfl;have hlt:=zA p (0+8*(m/8)) (m %8+T) F0;have hadd:=aC p (m %8) T (0+8*(m/8));rw[show 0+8*(m/8)+m %8=m by omega]at hadd;have hbyte:(Ae (Gv (Re p m (j+1)) (Ap (Ed (1:UInt64) T) (1:UInt64))):UInt8)=UInt8.ofNat (Ck p m T):=by
   rw[iM,Be8 _ F0,Ajg p m (j+1) T F0 hj]
  have hnew:K4 (UInt8.ofNat (Ck p (0+8*(m/8)) (m %8))) (Ed (UInt8.ofNat (Ck p m T)) (m %8))=UInt8.ofNat (Ck p (0+8*(m/8)) (m %8+T)):=by
   rw[or8 (Wo _ _ _) dK F0,hadd,E! (2^(m %8))]
  rw[hg,z1,z2,hbyte];simp only[Aa];rw[Bz IZ,Aa,Bz K3,Aa,hnew,Zv _ UD,Aa,yO p 0 m T hT1 hT8,Af0,Adf,ug m F0,e2,hT,Bz IZ,Aa,z2,Ahx p m (j+1) T F0 hj,Ca,Ag];have ih:=Aiy p b0 a0 (j+1-T) (m+T) q F0 F0 F0;rw[show m+T+(j+1-T)=m+(j+1) by omega]at ih;rw[<-ih,show((j+1:Nat):Int)-((T:Nat):Int)=((j+1-T:Nat):Int) by omega,show(m:Int)+((T:Nat):Int)=((m+T:Nat):Int) by omega]
theorem put_eq(p:LB)(m j:Nat)(hm:m+j<=300000)(hj:j<=63):iE (Mx p 0 m) (m:Int) (Re p m j) (j:Int)=some (Mx p 0 (m+j),((m+j:Nat):Int),0):=by
 have hz:Bj (Cx (Re p m j) (GI.toZ (j:Int)).toNat) 0=false:=by
  have:Cx (Re p m j) j=0:=by
   apply UInt64.toNat_inj.1;rw[VP,CY p m j F0,P! (Wo p j m)];rfl
  rw[show(GI.toZ (j:Int)).toNat=j from rfl,this];rfl
 have hl:=Mv p 0 m;have htw:oW (Mx p 0 m) (m:Int)=some (Mx p 0 m,(m:Int)):=by
  rw[oW,By,Ay F6,Aa,Aa];rfl
 rw[iE,wH,LR (P3 p 0 m F0),Aa,B! F5,B! H7,B6 F9,Bz IZ,Aa,hz,B! F5,Ag,B! E5,htw,Aa];exact Aiy p _ _ j m As hm F0 F7
theorem At.cat{p:LB}{a:Nat}{c d:List Bool}(h:At p a (c++d)):At p a c/\At p (a+c.length) d:=⟨h.left,h.right⟩
theorem Ai8(p:LB):∀(q a:Nat),At p a (List.replicate q true)->Ck p a q+1=2^q
 |0,a,_=>by rw[Ck]
 |q+1,a,h=>by
  rw[QR]at h;obtain⟨h0,h1⟩:=h.cons;have:=Ai8 p q (a+1) h1;rw[Ck,h0,G1,B6 rfl];omega
theorem qU{x:UInt64}{p:LB}{m n:Nat}(hn:n<=63)(h:x.toNat=Ck p m n):x=Re p m n:=by
 apply UInt64.toNat_inj.1;rw[h,CY p m n F0]
theorem IC{n:Nat}(h:n<2^64):(UInt64.ofNat n).toNat=n:=by rw[E6];exact C3 h
theorem wU{p:LB}{m q:Nat}(hq:q<=48)(hm:m+48<=300000)(h:At p m (List.replicate q true++(if q=48 then []else [false]))):
  lI (Mx p 0 m) (m:Int) (q:Int)=some (Mx p 0 (m+min (q+1) 48),((m+min (q+1) 48:Nat):Int),0):=by
 have h1:=h.left;have hv:=Ai8 p q m h1;have Bjd:2^q<=2^48:=E4 F0 hq;have hval:Ck p m (min (q+1) 48)+1=2^q:=by
  by_cases h48:q=48
  ·subst h48;exact hv
  ·rw[B! h48]at h;have h2:=h.right;rw[JN]at h2;have h0:=h2.cons.1;rw[show min (q+1) 48=q+1 by omega,oP,h0];simpa using hv
 have hx:(Ap (Ed (1:UInt64) q) (1:UInt64)).toNat=Ck p m (min (q+1) 48):=by
  have e1:(Ed (1:UInt64) q).toNat=2^q:=by rw[jL];show 1*2^q %_=_;rw[HV];exact C3 F0
  have hpos:0<2^q:=MP F0;rw[V1,uF _ _ (by rw[uG,e1];exact hpos),e1]
  show 2^q-1=_;omega
 rw[lI,LR (P3 p 0 m F0),Aa,B! F5,sU,B! H7,Aa];simp only;have e2:Du (Af (q:Int) 1) 48=((min (q+1) 48:Nat):Int):=by rw[Zp,Ag];omega
 rw[B! F5,Bz IZ,Aa,e2,show(GI.toZ (q:Int)).toNat=q from rfl,qU F0 hx,put_eq p m _ F0 F0,Aa]
theorem Atu{p:LB}{m l:Nat}{v:UInt32}(hl:l<=24)(hm:m+81<=300000)(h:At p m (fY l v.toNat)):
  rX (Mx p 0 m) (m:Int) v (l:Int)=some (Mx p 0 (m+(fY l v.toNat).length),((m+(fY l v.toNat).length:Nat):Int),0):=by
 have hvl:=v.toNat_lt;have hz:(GI.toZ (l:Int)).toNat=l:=rfl;have hlp:2^l<=2^24:=E4 F0 hl;have hpos:0<2^l:=MP F0;have Bhc:MF v (l:Int)=some (decide (48<=v.toNat/2^l)):=by
  rw[MF,Bz IZ,Aa,hz,Anm,ZO];rfl
 rw[rX,Aa7,LR (P3 p 0 m F0),Aa,B! F5,B! H7,Bz IZ,Aa,Aa,Bhc,Aa];rw[fY]at h⊢;by_cases h48:48<=v.toNat/2^l
 ·rw[B6 h48]at h⊢;obtain⟨h1,h2⟩:=h.cat;rw[JN]at h2;have hval:=XZ p 32 (m+48) v.toNat h2;rw[C3 F0]at hval;have hu:=wU (p:=p) (m:=m) (q:=48) (D3 _) F0 (by rw[B6 rfl,F!];exact h1);rw[B6 (by simpa using h48),nB,nP,show(48:Int)=((48:Nat):Int)from rfl,hu,Aa];simp only;rw[B! F5,Dn,qU (x:=UInt64.ofNat v.toNat) (p:=p) (m:=m+48) (n:=32) F0 (by rw[IC F0,hval]),show(32:Int)=((32:Nat):Int)from rfl,show m+min (48+1) 48=m+48 by omega,put_eq p (m+48) 32 F0 F0,Aa,B9,JN,BI,H0]
 ·rw[B! h48]at h⊢;generalize hq:v.toNat/2^l=q at*
  obtain⟨h1,h2⟩:=h.cat;rw[JN]at h2;obtain⟨h3,h4⟩:=h2.cons;have hval:=XZ p l (m+q+1) (v.toNat %2^l) h4;rw[dD]at hval;have hqa:At p m (List.replicate q true++[false]):=by
   have:List.replicate q true++(false::oE (v.toNat %2^l) l)=(List.replicate q true++[false])++oE (v.toNat %2^l) l:=by simp
   rw[this]at h;exact h.left
  have hu:=wU (p:=p) (m:=m) (q:=q) F0 F0 (by rw[B! F0];exact hqa);have hgq:(Ae (Cx v l):Int)=(q:Int):=by rw[Abc,ZO,hq]
  have hrest:(Ae (Gv v (Ap (Ed (1:UInt32) l) 1)):UInt64)=Re p (m+q+1) l:=by
   apply qU F0;have e1:(Ed (1:UInt32) l).toNat=2^l:=by rw[vR];show 1*2^l %_=_;rw[HV];exact C3 F0
   have e2:(Ap (Ed (1:UInt32) l) (1:UInt32)).toNat=2^l-1:=by
    rw[s_,uH _ _ (by rw[uI,e1];exact hpos),e1];rfl
   have e3:(Gv v (Ap (Ed (1:UInt32) l) 1)).toNat=v.toNat %2^l:=by
    rw[Q!,kH,e2,aX]
   rw[Dn,IC (by rw[e3];have:=IV v.toNat hpos;omega),e3,hval]
  rw[B! (by simpa using h48),nB,nP,hz,hgq,hu,Aa];simp only;rw[B! F5,hrest,show m+min (q+1) 48=m+q+1 by omega,put_eq p (m+q+1) l F0 F0,Aa,B9,JN,E8,BI,show m+q+1+l=m+(q+(l+1)) by omega]
theorem Av5{k l:Nat}{s t:UInt64}(h:okD k l s t)(v:UInt32):rM [] 0 (k:Int) (l:Int) s t v=
  some (Gn (Uj k l v),((Uj k l v).length:Int),((kS k (JA s (zw v)):Nat):Int),((lK l t k v:Nat):Int),JA s (zw v),lT t k v,0):=by
 obtain⟨h1,h2,h3,h4⟩:=h;have hvl:=v.toNat_lt;have hAt:At (Gn (Uj k l v)) 0 (Uj k l v):=λi hi=>by rw[L8,LD]
 have hlen:=eU v h1 h2;have hfull:Mx (Gn (Uj k l v)) 0 (Uj k l v).length=Gn (Uj k l v):=by
  apply Agj (by rw[Mv,BW]);intro i hi;rw[W_,L8,LD];by_cases hlt:i<(Uj k l v).length
  ·rw[B6 hlt]
  ·rw[B! hlt,qH F0]
 generalize hP:Gn (Uj k l v)=P at*
 have h0:Mx P 0 0=[]:=rfl;have Bf0:∀(x:Int) (y:UInt64) (aj ai:Int),NS v (k:Int) s ai P x y=some (P,ai,((kS k (JA s (zw v)):Nat):Int),x,JA s (zw v),y,0):=by
  intro x y aj ai;rw[NS,mJ,Dn,nZ,iZ k h1];rw[Ab0,mX,jF,VV,Dn,nZ];rfl
 have hp7:∀ai:Int,mZ v (k:Int) (l:Int) s t 0 ai P=some (P,ai,((kS k (JA s (zw v)):Nat):Int),((lK l t k v:Nat):Int),JA s (zw v),lT t k v,0):=by
  intro ai;rw[mZ,mI,B! F5,K! k l s t h1,Aa];by_cases hv:v.toNat<2^k
  ·rw[B6 hv];simp only;rw[B! T8,Bf0 _ _ 0,lK,B6 hv,lT,B6 hv]
  ·rw[B! hv];simp only;rw[B6 Q0,Dn,nZ,iZ l h2 _ (λx=>NS v (k:Int) s ai P x (JA t (UInt64.ofNat (gX k v).toNat))),Bf0 _ _ 0,lK,B! hv,lT,B! hv];rfl
 rw[rM,nR,show Pc [] 0=some 0 from rfl,Aa,B! F5,Aso ⟨h1,h2,h3,h4⟩,Aa,B! F5,Aa8,nL,K! k l s t h1,Aa];have hput:=put_eq P 0 1 F0 F0;rw[h0,L8,show((0:Nat):Int)=0 from rfl,show((1:Nat):Int)=1 from rfl]at hput;by_cases hv:v.toNat<2^k
 ·have hc:Uj k l v=false::oE v.toNat k:=by rw[Uj,B6 hv]
  rw[hc]at hAt hfull;obtain⟨b0,b1⟩:=hAt.cons;have hval:=XZ P k 1 v.toNat b1;rw[C3 hv]at hval;have hz:(Ae (0:Int):UInt64)=Re P 0 1:=qU F0 (by rw[R3,b0];rfl);rw[B6 hv];simp only;rw[hz,hput,Aa];simp only;rw[B6 F5,Dn,qU (x:=UInt64.ofNat v.toNat) (p:=P) (m:=1) (n:=k) F0 (by rw[IC F0,hval]),show(1:Int)=((1:Nat):Int)from rfl,put_eq P 1 k F0 F0,Aa];simp only;rw[E8,BI,P6 k 1]at hfull;rw[hfull,hp7,hc,E8,BI,P6 k 1]
 ·have hc:Uj k l v=true::fY l (v.toNat-2^k):=by rw[Uj,B! hv]
  rw[hc]at hAt hfull;obtain⟨b0,b1⟩:=hAt.cons;have hsub:=lP v.toNat (2^k);have hlv:(gX k v).toNat=v.toNat-2^k:=by rw[gX,kR F0]
  have hz:(Ae (1:Int):UInt64)=Re P 0 1:=qU F0 (by rw[R3,b0];rfl);have hr:=Atu (p:=P) (m:=1) (l:=l) (v:=gX k v) h2 F0 (by rw[hlv];exact b1);rw[hlv,show((1:Nat):Int)=1 from rfl]at hr;rw[B! hv];simp only;rw[hz,hput,Aa];simp only;rw[B! F5,B6 F5,hr,Aa];simp only;rw[E8,P6 _ 1]at hfull;rw[hfull,hp7,hc,E8,P6 _ 1]
section
variable (ch:Nat) (x:LX)
theorem ZW{at' i:Nat}(ha:at' %ch=0)(hi:i<ch)(h:at'+i<x.length):(mx ch x).getD (at'+i) 0=mxV (λi=>x.getD (at'+i) 0) ch i:=by
 have hb:(at'+i) %ch=i:=by rw[Nat.add_mod,ha,L8,dD,C3 hi]
 rw[Bbv h,hb,show at'+i-i=at' by omega]
theorem Ai4(bk:Int->LX->Option (LX×Int))(at':Nat)(h1:1<=ch)(h6:ch<=6)(hm:at' %ch=0)(hl:at'+ch<=x.length)(hl2:x.length<=4000):∀(j i q:Nat),i+j=ch-1->j<q->
  RN bk (ch:Int) (at':Int) q (i:Int) (rN (λk=>decide (k<at'+i)) (mx ch x) x)=bk ((at'+ch:Nat):Int) (rN (λk=>decide (k<at'+ch)) (mx ch x) x)
 |j,i,0,_,h=>absurd h (G4 _)
 |0,i,q+1,hi,_=>by
  have hlen:=bJ ch x;have e1:Ap (Af (at':Int) (ch:Int)-(at':Int)) 1=((ch-1:Nat):Int):=by rw[Ag,Ca];omega
  have e2:Af (at':Int) (ch:Int)-(at':Int)=(ch:Int):=by rw[Ag];omega
  have e4:Af (at':Int) (ch:Int)=((at'+ch:Nat):Int):=by rw[Ag];omega
  rw[RN,jY,e1,B! F9,vV,Bh5,e1,e2];obtain rfl:i=ch-1:=F0
  by_cases h2:1<ch
  ·have e3:Ap ((ch-1:Nat):Int) 1=((ch-2:Nat):Int):=by rw[Ca];omega
   have hv:Ap (x.getD (at'+(ch-1)) 0) (Bs ((mx ch x).getD (at'+(ch-2)) 0) 2)=(mx ch x).getD (at'+(ch-1)) 0:=by
    rw[ZW ch x hm F0 F0,ZW ch x hm F0 F0,mxV,mxV,B6 F0,B! F0,B6 h2,gK,show ch-2+1=ch-1 by omega]
   rw[B6 E5,E1 F0,Aa,e3,E1 F0,Aa,
    show(at':Int)+((ch-1:Nat):Int)=((at'+(ch-1):Nat):Int) by omega,show(at':Int)+((ch-2:Nat):Int)=((at'+(ch-2):Nat):Int) by omega,
    OW F0,Aa,OW F0,Aa,Aa,B! B8,B6 F6,hv,sW F0,Aa,xZ,wF,e4]
   congr 1;apply FW;intro k _;rw[C?];simp;omega
  ·obtain rfl:ch=1:=F0
   have hlast:x.getD at' 0=(mx 1 x).getD at' 0:=by
    have:=ZW 1 x (i:=0) hm F0 F0;rw[N7]at this;rw[this,mxV,B! F0,B! F0];rfl
   rw[B! S0,xZ,wF,e4];congr 1;apply M? (by rw[ZH,ZH]);intro k g1 g2;rw[DH,DH];by_cases hk:k<at'
   ·rw[B6 F6,B6 F6]
   ·by_cases hk2:k=at'
    ·subst hk2;rw[B! B8,B6 B8];exact hlast
    ·rw[B! F6,B! F6]
 |j+1,i,q+1,hi,hq=>by
  have hlen:=bJ ch x;have e1:Ap (Af (at':Int) (ch:Int)-(at':Int)) 1=((ch-1:Nat):Int):=by rw[Ag,Ca];omega
  have e2:Af (at':Int) (ch:Int)-(at':Int)=(ch:Int):=by rw[Ag];omega
  have e3:Af (i:Int) 1=((i+1:Nat):Int):=by rw[Ag];omega
  have hv:Ap (x.getD (at'+(i+1)) 0) (x.getD (at'+i) 0)=(mx ch x).getD (at'+i) 0:=by
   rw[ZW ch x hm F0 F0,mxV,B6 F0,gK]
  rw[RN,jY,e1,B6 F9,e2,e3,E1 F0,Aa,E1 F0,Aa,
   show(at':Int)+((i+1:Nat):Int)=((at'+(i+1):Nat):Int) by omega,show(at':Int)+(i:Int)=((at'+i:Nat):Int) by omega,
   OW F0,Aa,OW F0,Aa,Aa,B! B8,B! B8,hv,sW F0,Aa]
  have ih:=Ai4 bk at' h1 h6 hm hl hl2 j (i+1) q F0 F0;rw[<-ih];congr 1;apply FW;intro k _;rw[C?];simp;omega
theorem Ba1(h1:1<=ch)(h6:ch<=6)(hm:x.length %ch=0)(hl2:x.length<=4000):∀(j at' q:Nat),at' %ch=0->at'<=x.length->x.length-at'<=j->j<q->
  RV (ch:Int) q (at':Int) (rN (λk=>decide (k<at')) (mx ch x) x)=some (mx ch x,0)
 |j,at',0,_,_,_,h=>absurd h (G4 _)
 |j,at',q+1,ha,hle,hj,hq=>by
  have hlen:=bJ ch x;have hl:Ac (rN (λk=>decide (k<at')) (mx ch x) x)=(x.length:Int):=by rw[Ac,ZH,hlen]
  rw[RV,wC,hl];by_cases h:at'<x.length
  ·have hb:=S9 ha hm h;obtain⟨j,rfl⟩:∃k,j=k+1:=⟨j-1,F0⟩;have e4:Af (at':Int) (ch:Int)=((at'+ch:Nat):Int):=by rw[Ag];omega
   have hi:=Ai4 ch x (RV (ch:Int) q) at' h1 h6 ha hb hl2 (ch-1) 0 As F0 F7;have hrest:=Ba1 h1 h6 hm hl2 j (at'+ch) q (by rw[U6,ha]) hb F0 F0;rw[N7]at hi;rw[B6 F9,show pE (x.length:Int) (at':Int) (Af (at':Int) (ch:Int))=some () by rw[e4,pE,E1];omega,Aa];exact D9 hi hrest
  ·rw[B! F9,A3 (λk hk=>by simp;omega)];rfl
theorem Arq(h1:1<=ch)(h6:ch<=6)(hm:x.length %ch=0)(hl2:x.length<=4000):E_ (ch:Int) x=some (mx ch x,0):=by
 have hlen:=bJ ch x;have h:=Ba1 ch x h1 h6 hm hl2 x.length 0 As B8 F0 F0 F7;rw[E_,J8,Ag7 ch x h1 h6 hm hl2,Aa,B! D7,Dx,Ay F6,Aa,Aa,I0,Bb9];rw[vZ hlen.symm (λk _=>by simp)]at h;exact h
end
theorem Aug(a:Int32):zJ a=some (yH a):=by
 have h:=EW a;have hc:(Ae a:UInt32)=UInt32.ofNat (a.toInt %4294967296).toNat:=rfl;have hs:(Cx a (GI.toZ (31:UInt64)).toNat)=if 0<=a.toInt then(0:Int32)else -1:=by
  have e:Cx a 31=Int32.ofInt (a.toInt.fdiv (2^31)):=rfl;rw[show(GI.toZ (31:UInt64)).toNat=31 from rfl,e];by_cases h0:0<=a.toInt
  ·rw[B6 h0,show a.toInt.fdiv (2^31)=0 by rw[NX _ F5];omega];rfl
  ·rw[B! h0,show a.toInt.fdiv (2^31)= -1 by rw[NX _ F5];omega];rfl
 rw[zJ,hs,hc,yH];congr 1;have hsh:(Ed (UInt32.ofNat (a.toInt %4294967296).toNat) (GI.toZ (1:UInt64)).toNat).toNat=2*(a.toInt %4294967296).toNat %4294967296:=by
  rw[show(GI.toZ (1:UInt64)).toNat=1 from rfl,vR,G3,C3 (show(a.toInt %4294967296).toNat<2^32 by omega)];omega
 by_cases h0:0<=a.toInt
 ·rw[B6 h0,B6 h0,show(Ae (0:Int32):UInt32)=0 from rfl];apply UInt32.toNat_inj.1;rw[show∀z:UInt32,KR z (0:UInt32)=z^^^0 from λz=>by rw[oF],XG,hsh,G3,C3 (show 2*a.toInt.toNat<2^32 by omega)]
  show _^^^0=_;rw[Nat.xor_zero];omega
 ·rw[B! h0,B! h0,show(Ae (-1:Int32):UInt32)=4294967295 from rfl];apply UInt32.toNat_inj.1;rw[show∀z:UInt32,KR z (4294967295:UInt32)=z^^^4294967295 from λz=>by rw[oF],XG,hsh,G3,C3 (show 2*(-a.toInt-1).toNat+1<2^32 by omega)]
  show _^^^4294967295=_;have key:∀n:Nat,n<4294967296->n^^^4294967295=4294967295-n:=by
   intro n hn;have:=kX (x:=BitVec.ofNat 32 n);rw[<-BitVec.xor_allOnes,kF,BitVec.toNat_ofNat,C3 F0]at this;simpa using this
  rw[key _ F0];omega
theorem Ath{bits:Int}(h:Bq bits){t p:LX}(hF:OkF (sB bits) t p)(last x:Int32):
  FU bits last (sB bits) t p x=some (J2 bits (last,t,p) x,bits,x,sB bits,oq t p (J2 bits (last,t,p) x),(x-gs (shB bits) last)::p.take 15,0):=by
 rw[FU,Ban h,Aa,B! D7,Aua h,Aa];simp only;rw[gK,mD,Aia hF,Aa];simp only;rw[B! D7,gK,fO,Ah0 hF,Aa];simp only;rw[Am5 (s:=sB bits) (t:=oq t p _) (p:=p) ⟨hF.1,VC _ _ _,hF.2.2⟩,Aa,Aa];rfl
theorem fT(bits:Int)(ch:Nat)(t x:LX):(It bits ch t x).length=x.length:=oD _ _ _ _ _
theorem Ag9{bits:Int}{ch:Nat}{t x:LX}{i:Nat}(h:i<x.length):(It bits ch t x).getD i 0=yH (J2 bits (cst bits ch t (It bits ch t x) (i %ch) i) ((mx ch x).getD i 0)):=by
 obtain⟨w,hw⟩:=Apc bits ch t (mx ch x) (x.length-(i+1)) (i+1);rw[show i+1+(x.length-(i+1))=x.length by omega,evl,F_]at hw;have hli:=oD bits ch t (mx ch x) i;have hw':It bits ch t x=_:=hw;have hg:(It bits ch t x).getD i 0=yH (J2 bits (cst bits ch t (evl bits ch t (mx ch x) i) (i %ch) i) ((mx ch x).getD i 0)):=by
  rw[hw',List.getD_eq_getElem?_getD,List.getElem?_append_right F0,hli,Nat.sub_self];rfl
 have hc:cst bits ch t (It bits ch t x) (i %ch) i=cst bits ch t (evl bits ch t (mx ch x) i) (i %ch) i:=by rw[hw',Ay4 _ _ _ _ _ _ _ F0]
 rw[hg,hc]
section
variable {bits:Int} {ch:Nat} {t x:LX} (hb:Bq bits) (ht:t.length=16) (h1:1<=ch) (h6:ch<=6) (hx1:1<=x.length) (hx4:x.length<=4000) (hm:x.length %ch=0)
include hb ht h1 h6 hx1 hx4 hm
omit ht in
theorem Bbl(hr:inR bits x):YY (ch:Int) bits x=some 0:=by
 rw[YY,Au3 hb h1 h6,Aa,B! F5,iF hb x hx4,jr hb hx4 hr,Aa,B! F5,B! (by rw[Ax,Ac,E3];omega),Bz E?,Aa,Ac,GF,hm,B! F5]
omit hm in
theorem vk:∀(j i q:Nat),i+j=x.length->j<q->
  Qv (mx ch x) (ch:Int) bits q (i:Int) (cts bits ch t (It bits ch t x) i) ((It bits ch t x).take i)=some (It bits ch t x,0)
 |j,i,0,_,h=>absurd h (G4 _)
 |0,i,q+1,hi,_=>by
  have hl:=bJ ch x;have hV:=fT bits ch t x;rw[Qv,EZ,B! F2,H? F0];rfl
 |j+1,i,q+1,hi,hq=>by
  have hl:=bJ ch x;have hV:=fT bits ch t x;have hc:i %ch<6:=I6 (IV _ F0) h6;have hok:=z? bits ch ht (It bits ch t x) (i %ch) i;have hs:=Aoj (bits:=bits) (ch:=ch) (t:=t) (v:=It bits ch t x) (i:=i) hc rfl;have hg:=Ag9 (bits:=bits) (ch:=ch) (t:=t) (x:=x) (i:=i) F0;have ih:=vk j (i+1) q F0 F0;have htk:(It bits ch t x).take i++[(It bits ch t x).getD i 0]=(It bits ch t x).take (i+1):=by
   have:(It bits ch t x).getD i 0=(It bits ch t x)[i]' F0:=by rw[List.getD_eq_getElem?_getD,List.getElem?_eq_getElem F0];rfl
   rw[this,Ho F0]
  have hfw:=Ath hb hok (cst bits ch t (It bits ch t x) (i %ch) i).1 ((mx ch x).getD i 0);rw[Qv,EZ,B6 F2,D_ F0,Aa,Aa,Bz E?,Aa,GF,Ao4 hc,Aa,Aa];refine D9 (congrArg (λo=>Option.bind o _) hfw) ?_;rw[Aa];simp only;rw[B! F5];have hst:((bits,(mx ch x).getD i 0,(sB bits,oq (cst bits ch t (It bits ch t x) (i %ch) i).2.1 (cst bits ch t (It bits ch t x) (i %ch) i).2.2 (J2 bits (cst bits ch t (It bits ch t x) (i %ch) i) ((mx ch x).getD i 0)),((mx ch x).getD i 0-gs (shB bits) (cst bits ch t (It bits ch t x) (i %ch) i).1)::(cst bits ch t (It bits ch t x) (i %ch) i).2.2.take 15,()),()):CL)=toC bits (R8 bits (cst bits ch t (It bits ch t x) (i %ch) i) (cQ ((It bits ch t x).getD i 0))):=by
   rw[hg,Auh,toC,R8,xG];simp only;rw[J2,lD]
  refine D9 (congrArg (λo=>Option.bind o _) ((congrArg (λz=>Rn (cts bits ch t (It bits ch t x) i) ((i %ch:Nat):Int) z) hst).trans hs)) ?_;rw[Aa,Aug,Aa];have hg2:yH (J2 bits ((cst bits ch t (It bits ch t x) (i %ch) i).1,(cst bits ch t (It bits ch t x) (i %ch) i).2.1,(cst bits ch t (It bits ch t x) (i %ch) i).2.2) ((mx ch x).getD i 0))=(It bits ch t x).getD i 0:=hg.symm;rw[hg2,Ay (by rw[C8];simp;omega),Aa,htk,Ag];exact ih
theorem Alz(hr:inR bits x):TK (ch:Int) bits t x=some (It bits ch t x,0):=by
 have hl:=bJ ch x;have h:=vk hb ht h1 h6 hx1 hx4 x.length 0 As F0 F7;have e:As=(As-7)+1+1+1+1+1+1+1:=by have:=Aq;omega
 have hs:VY (ch:Int) bits t (mx ch x) 0 (List.replicate 6 ((0:Int),(0:Int32),((0:Int),(List.replicate 16 (0:Int32)),(List.replicate 16 (0:Int32)),()),()))=Asz (ch:Int) bits (mx ch x) (cts bits ch t (It bits ch t x) 0):=by
  rw[VY,e];obtain rfl|rfl|rfl:=hb<;>rfl
 rw[TK,TL,Bbl hb h1 h6 hx1 hx4 hm hr,Aa,B! F5,Arq ch x h1 h6 hm hx4,Aa];simp only;rw[B! F5];refine D9 hs ?_;exact h
end
theorem Als(ch:Nat):UL=some (sts ch []):=by
 have e:As=(As-7)+1+1+1+1+1+1+1:=by have:=Aq;omega
 rw[UL,TG,Avv,e];rfl
theorem xE(c:List Bool){n:Nat}(h:n<=c.length):Mx (Gn c) 0 n=Gn (c.take n):=by
 have hl:(c.take n).length=n:=by rw[C8];omega
 apply Agj (by rw[Mv,BW,hl]);intro i hi;rw[W_,L8,LD,LD];by_cases hlt:i<n
 ·rw[B6 hlt,tb,tb,List.getD_eq_getElem?_getD,List.getD_eq_getElem?_getD,List.getElem?_take,B6 hlt]
 ·rw[B! hlt,qH F0]
theorem Bc1(a:UInt8){k:Nat}(hk:k<8):Gv (Cx a k) (1:UInt8)=UInt8.ofNat (a.toNat/2^k %2):=by
 apply UInt8.toNat_inj.1;rw[Am7,uW,C_,I?]
 show _&&&1=_;rw[um];generalize a.toNat/2^k=X;omega
theorem Aj5(E code:List Bool)(hE:E.length+code.length<=330000)(bk:Int->List (Int×Int×UInt64×UInt64×Unit)->Int->LB->Ci)(V:LU)(b f g:Int)(k:List (Int×Int×UInt64×UInt64×Unit)):∀(j o q:Nat),o+j=code.length->j<q->
  Jn bk V b f (code.length:Int) g k (Gn code) q (o:Int) ((E.length+o:Nat):Int) (Mx (Gn (E++code)) 0 (E.length+o))=bk (Af g 1) k ((E.length+code.length:Nat):Int) (Gn (E++code))
 |j,o,0,_,h=>absurd h (G4 _)
 |0,o,q+1,ho,_=>by
  obtain rfl:o=code.length:=F0
  rw[Jn,FB,B! I!,QG,Apk,xE _ N0,H? N0]
 |j+1,o,q+1,ho,hq=>by
  generalize hP:Gn (E++code)=P;have hPo:Ge P (E.length+o)=Ge (Gn code) o:=by rw[<-hP,LD,LD,mU]
  have ih:=Aj5 E code hE bk V b f g k j (o+1) q F0 F0;rw[hP,<-H0]at ih;generalize hn:E.length+o=n at*
  have hq8:Bs (n:Int) 8=((n/8:Nat):Int):=by rw[show(8:Int)=((8:Nat):Int)from rfl,AF]
  have hr8:Gx (n:Int) 8=((n %8:Nat):Int):=by rw[show(8:Int)=((8:Nat):Int)from rfl,GF]
  have hqo:Bs (o:Int) 8=((o/8:Nat):Int):=by rw[show(8:Int)=((8:Nat):Int)from rfl,AF]
  have hro:Gx (o:Int) 8=((o %8:Nat):Int):=by rw[show(8:Int)=((8:Nat):Int)from rfl,GF]
  have hroom:Jn bk V b f (code.length:Int) g k (Gn code) (q+1) (o:Int) (n:Int) (Mx P 0 n)=DU (Jn bk V b f (code.length:Int) g k (Gn code) q) (code.length:Int) V g b f k (Gn code) (o:Int) (n:Int) (room P 0 n):=by
   rw[Jn,FB,B6 F9,hr8,room];by_cases h0:n %8=0
   ·rw[B6 (by rw[Ax,h0];rfl),Ay dH,Aa,B6 h0]
   ·rw[B! G2,B! h0]
  have hcl:=BW code;have hgm:Aj (Gn code) ((o/8:Nat):Int)=some ((Gn code).getD (o/8) 0):=by
   rw[Bl,List.getD_eq_getElem?_getD,List.getElem?_eq_getElem F0];rfl
  have hg:Aj (room P 0 n) ((n/8:Nat):Int)=some (UInt8.ofNat (Ck P (0+8*(n/8)) (n %8))):=by
   rw[Bl UD,eY]
  have hbit:Gv (Cx ((Gn code).getD (o/8) 0) (o %8)) (1:UInt8)=UInt8.ofNat (Ge P n):=by
   rw[Bc1 _ F0,hPo,Ge]
  have hlt:=zA P (0+8*(n/8)) (n %8+1) F0;have hsn:=oP P (0+8*(n/8)) (n %8);rw[show 0+8*(n/8)+n %8=n by omega]at hsn;have hnew:K4 (UInt8.ofNat (Ck P (0+8*(n/8)) (n %8))) (Ed (UInt8.ofNat (Ge P n)) (n %8))=UInt8.ofNat (Ck P (0+8*(n/8)) (n %8+1)):=by
   rw[or8 (Wo _ _ _) dK F0,hsn,E! (2^(n %8))]
  rw[hroom,DU,Apf,hqo,hro,hq8,hr8,hgm,Aa,Aa,Bz K3,Aa,hg,Aa,Bz K3,Aa,Aa,Aa,
   show(GI.toZ ((o %8:Nat):Int)).toNat=o %8 from rfl,show(GI.toZ ((n %8:Nat):Int)).toNat=n %8 from rfl,hbit,hnew,Zv _ UD,Aa,yO P 0 n 1 F0 F0,Apn,Asd,Ag,Ag]
  exact ih
theorem Bgj(l m:LB)(h:l.length+m.length<=1000000):Gg [l,m]=some (l++m):=by
 have hF:As=(As-3)+1+1+1:=by have:=Aq;omega
 rw[Gg,Wf,Abb];have g0:Aj [l,m] (0:Int)=some l:=rfl;have g1:Aj [l,m] (1:Int)=some m:=rfl;have l2:Ac [l,m]=2:=rfl;have h3:Io [l,m] []=some (l++m):=by
  rw[Io,Ns,Nq,hF,Da,Ei,l2,B6 F5,g0,Aa,Ay F6,Aa,I0,show Af (0:Int) 1=1 by decide,
   Da,Ei,l2,B6 F5,g1,Aa,Ay,Aa,show Af (1:Int) 1=2 by decide,Da,Ei,l2,B! F5]
  rfl
 rw[hF,Dh,Es,l2,B6 F5,g0,Aa,Ag O4 O4,B! WE,show Af (0:Int) 1=1 by decide,
  Dh,Es,l2,B6 F5,g1,Aa,Ag O4 O4,B! S1,show Af (1:Int) 1=2 by decide,
  Dh,Es,l2,B! F5,Ir,Nt,B! S1,Vc,Nu]
 have z:Ap (0:Int) 0=0:=F5
 have n0:(0:Int)+Ac l+Ac m=((l.length+m.length:Nat):Int):=by simp[Ac]
 rw[z,n0,Ca,Int.sub_zero];by_cases hp:0<l.length+m.length
 ·rw[B6 E5,show pE (0:Int) 0 0=some ()from rfl,Aa,yF,Aa,Ay F6,Aa];rw[show pE (Ac ([]++List.replicate ((l.length+m.length:Nat):Int).toNat (0:UInt8))) 0 0=some () by rw[pE,Bz];simp[Ac];omega,Aa];simp only[jS,Int.sub_self,lE,Q_];exact h3
 ·rw[B! E5];exact h3
theorem Ajs(bits:Int)(ch:Nat)(h1:1<=ch)(h6:ch<=6)(V:LU)(hV:V.length<=4000):∀(j i q:Nat),i+j=V.length->j<q->
  Mn V (ch:Int) bits q (i:Int) (sts ch (V.take i)) ((RZ ch V i).length:Int) (Gn (RZ ch V i))=some (Gn (RZ ch V V.length)++DZ (Fw (Gn (RZ ch V V.length))).toNat 4,0)
 |j,i,0,_,h=>absurd h (G4 _)
 |0,i,q+1,hi,_=>by
  obtain rfl:i=V.length:=F0
  have hel:=ZP ch V V.length;have hpl:=BW (RZ ch V V.length);have hlt:=(Fw (Gn (RZ ch V V.length))).toNat_lt;rw[Mn,EI,B! WE,PU,Aqw,eu _ F0,Aa];simp only;have e64:(UInt64.ofNat (Fw (Gn (RZ ch V V.length))).toNat).toNat=(Fw (Gn (RZ ch V V.length))).toNat:=IC F0;rw[B! F5,Dn,show(4:Int)=((4:Nat):Int)from rfl,iL _ 4 F0 F0 (by rw[e64];omega),Aa];simp only;rw[B! F5,e64,Bgj _ _ dL,Aa]
 |j+1,i,q+1,hi,hq=>by
  have hc:i %ch<6:=I6 (IV _ F0) h6;have hvl:(V.take i).length=i:=by rw[C8];omega
  have hel:=ZP ch V i;have hk:=dY ch (V.take i);have hcl:=eU (V.getD i 0) hk.1 hk.2;have ih:=Ajs bits ch h1 h6 V hV j (i+1) q F0 F0;have hvi:V.getD i 0=V[i]' F0:=by rw[List.getD_eq_getElem?_getD,List.getElem?_eq_getElem F0];rfl
  have htk:V.take i++[V.getD i 0]=V.take (i+1):=by rw[hvi,Ho F0]
  have hst:=nY (ch:=ch) (v:=V.take i) hc;have hset:=Ao7 (ch:=ch) (v:=V.take i) (V.getD i 0) hc (by rw[hvl]);have Bhf:sA ch (V.take i) (i %ch) (V.take i).length=now ch (V.take i):=Azx (by rw[hvl]);rw[Bhf]at hst hset;rw[htk]at hset;have hdp:=Av5 (k:=(now ch (V.take i)).1) (l:=(now ch (V.take i)).2.1) (s:=(now ch (V.take i)).2.2.1) (t:=(now ch (V.take i)).2.2.2) (rS ch (V.take i) _ _) (V.getD i 0);have hpc:=Aj5 (RZ ch V i) (Uj (now ch (V.take i)).1 (now ch (V.take i)).2.1 (V.getD i 0)) F0 (Mn V (ch:Int) bits q) V (ch:Int) bits (i:Int) (sts ch (V.take (i+1))) (Uj (now ch (V.take i)).1 (now ch (V.take i)).2.1 (V.getD i 0)).length 0 As F0 F7;rw[show(RZ ch V i).length+0=(RZ ch V i).length from rfl,xE _ N0,uf,show((0:Nat):Int)=0 from rfl]at hpc;rw[Mn,EI,B6 F2,jA F0,Aa,Aa,Bz E?,Aa,GF,hst,Aa,Aa];refine D9 (congrArg (λo=>Option.bind o _) hdp) ?_;rw[Aa];simp only;rw[B! F5,Aa,Aa];refine D9 (congrArg (λo=>Option.bind o _) hset) ?_;rw[Aa];refine D9 hpc ?_;rw[Ag];rw[RZ,B9]at ih;exact ih
theorem Ac6{bits:Int}{ch:Nat}{t x:LX}(hb:Bq bits)(ht:t.length=16)(h1:1<=ch)(h6:ch<=6)(hx1:1<=x.length)(hx4:x.length<=4000)(hm:x.length %ch=0)(hr:inR bits x):
  KS (ch:Int) bits t x=some (SV bits ch t x,0):=by
 have hV:=fT bits ch t x;have h:=Ajs bits ch h1 h6 (It bits ch t x) F0 (It bits ch t x).length 0 As F0 F7;have e0:Gn (RZ ch (It bits ch t x) 0)=[]:=by simp[RZ,Gn]
 have e1:((RZ ch (It bits ch t x) 0).length:Int)=0:=rfl;rw[e0,e1,Q_,hV,show((0:Nat):Int)=0 from rfl]at h;rw[KS,TB,Alz hb ht h1 h6 hx1 hx4 hm hr,Aa];simp only;rw[B! F5,Als ch,Aa,SV,SM,Aom];exact h
theorem pH{r:Nat}(h1:1<=r)(h:r<=1048576):Fe (r:Int)=some ((Ak r:Int),0):=by
 have hv:=O? h;have e:Bn (r:Int) 256=Bn 256 (r:Int):=by rw[Ea,Ea];omega
 rw[Fe,B! H7,e];have hq:0<=Bs (Bn 256 (r:Int)) 245:=by
  have e2:Bn 256 (r:Int)=((256*r:Nat):Int):=by rw[Ea];omega
  rw[e2,show(245:Int)=((245:Nat):Int)from rfl,AF];omega
 rw[jw]at hv;by_cases hz:Bs (Bn 256 (r:Int)) 245=0
 ·rw[B6 (by rw[Ax];simpa using hz)];rw[hz]at hv;have:(1:Int)=(Ak r:Int):=F0
  rw[this]
 ·rw[B! (by rw[Ax];simpa using hz)];have:Bs (Bn 256 (r:Int)) 245=(Ak r:Int):=F0
  rw[this]
theorem dI{p:Prop}(h:p:=by rw[Ax,E3];omega):p:=h
structure ClipOk (c w r n:Nat) (x:LX):Prop where
 ch:1<=c/\c<=6
 bits:Bq (w:Int)
 rate:1<=r/\r<=1048576
 cnt:1<=n/\n<=4000/c
 len:x.length=n*c
 fr:(n-1)/Ak r+1<=1000
 rng:inR (w:Int) x
theorem ClipOk.le{c w r n:Nat}{x:LX}(h:ClipOk c w r n x):n<=4000/\n*c<=4000/\1<=x.length/\x.length<=4000:=by
 have h1:=C9 c h.cnt.2;have h2:=SY 4000 c;have h3:=G9 4000 c;have h4:=R4 h.cnt.1 h.ch.1;have h5:=h.len;have:=h.cnt;omega
theorem ClipOk.w3{c w r n:Nat}{x:LX}(h:ClipOk c w r n x):w=8\/w=16\/w=24:=by
 have:=h.bits;unfold Bq at this;omega
theorem ClipOk.shape{c w r n:Nat}{x:LX}(h:ClipOk c w r n x)(f:Nat)(hf:f=1\/f=2):Oe f c w r n=true:=by
 have:=h.w3;have:=h.ch;have:=h.rate;have:=h.cnt;simp only[Oe,B?];omega
theorem ClipOk.fit{c w r n:Nat}{x:LX}(h:ClipOk c w r n x):bP c r n=true:=by
 have:=h.cnt;have:=h.fr;simp only[bP,B?];omega
theorem Aun{bits:Int}(h:¬Bq bits):Gt bits=some 0/\Sd bits=some (0,0,2):=by
 unfold Bq at h;constructor
 ·rw[Gt,B! dI,B! dI,B! dI]
 ·have e:(geq bits 24)=false:=by rw[Ax,uN];omega
  rw[Sd,gU,B! dI,B! dI,e,jD,fU,B! F5]
theorem L6{p:Prop}(h:p:=by rw[D8];omega):p:=h
theorem lY{p:Prop}(h:p:=by simp[Dk,IJ]):p:=h
def Q1(f c w r n:Nat):LB:=IJ++DZ f 2++DZ c 2++DZ w 2++DZ r 4++DZ n 4
def SQ(f c w r n:Nat):LB:=Q1 f c w r n++DZ (Fw (Q1 f c w r n)).toNat 4
theorem xQ(f c w r n:Nat):(Q1 f c w r n).length=18:=by simp only[Q1,IJ,B9,Dk];rfl
theorem V7(f c w r n:Nat):(SQ f c w r n).length=22:=by rw[SQ,B9,xQ,Dk]
theorem H2(b f g h k:Int)(m v w q:Nat)(a:LB)(hm:m<5)(hv:Aj ([b,f,g,h,k]:LI) (m:Int)=some (v:Int))(hw:Aj ([2,2,2,4,4]:LI) (m:Int)=some (w:Int))(h1:1<=w)(h8:w<=8)(hlt:v<256^w)(h64:v<18446744073709551616)(ha:a.length<=100):
  Tn b f g h k (q+1) (m:Int) a=Tn b f g h k q ((m+1:Nat):Int) (a++DZ v w):=by
 have e64:(UInt64.ofNat v).toNat=v:=IC F0;have hi1:Af (m:Int) 1=((m+1:Nat):Int):=by rw[Ag];omega
 rw[Tn,OZ,B6 F9,hv,Aa,hw,Aa,Xv,iL _ w h1 h8 (by rw[e64];exact hlt),Aa];simp only;rw[Ay dL,Aa,hi1,e64]
theorem Afd{f c w r n:Nat}(h1:Oe f c w r n=true)(h2:bP c r n=true):eJ (f:Int) (c:Int) (w:Int) (r:Int) (n:Int)=some (SQ f c w r n,0):=by
 have hs:(f=1\/f=2)/\ (1<=c/\c<=6)/\ (w=8\/w=16\/w=24)/\ (1<=r/\r<=1048576)/\1<=n:=by simpa only[Oe,B?]using h1
 have hn:n<=4000:=by
  simp only[bP,B?]at h2;have:=G9 4000 c;omega
 have hck:Um (f:Int) (c:Int) (w:Int) (r:Int) (n:Int)=some 0:=by
  rw[Um,kG,Aa,h1,B! F5,zK h1,Aa,h2,B! F5]
 have hF:As=(As-6)+1+1+1+1+1+1:=by have:=Aq;omega
 have hlt:=(Fw (Q1 f c w r n)).toNat_lt;have e64:(UInt64.ofNat (Fw (Q1 f c w r n)).toNat).toNat=(Fw (Q1 f c w r n)).toNat:=IC F0;have hfin:PB (Q1 f c w r n)=some (SQ f c w r n,0):=by
  rw[PB,Bdh,eu _ (by rw[xQ];omega),Aa];simp only;rw[Dn,show(4:Int)=((4:Nat):Int)from rfl,iL _ 4 F0 F0 (by rw[e64];omega),Aa];simp only;rw[Ay (by rw[xQ,Dk];omega),Aa,e64];rfl
 rw[eJ,cL,hck,Aa,B! F5,Bdq,hF];have s0:=H2 (f:Int) (c:Int) (w:Int) (r:Int) (n:Int) 0 f 2 ((As-6)+1+1+1+1+1) IJ F0 rfl rfl F0 F0 F0 F0 F5;have s1:=H2 (f:Int) (c:Int) (w:Int) (r:Int) (n:Int) 1 c 2 ((As-6)+1+1+1+1) (IJ++DZ f 2) F0 rfl rfl F0 F0 F0 F0 lY;have s2:=H2 (f:Int) (c:Int) (w:Int) (r:Int) (n:Int) 2 w 2 ((As-6)+1+1+1) (IJ++DZ f 2++DZ c 2) F0 rfl rfl F0 F0 F0 F0 lY;have s3:=H2 (f:Int) (c:Int) (w:Int) (r:Int) (n:Int) 3 r 4 ((As-6)+1+1) (IJ++DZ f 2++DZ c 2++DZ w 2) F0 rfl rfl F0 F0 F0 F0 lY;have s4:=H2 (f:Int) (c:Int) (w:Int) (r:Int) (n:Int) 4 n 4 ((As-6)+1) (IJ++DZ f 2++DZ c 2++DZ w 2++DZ r 4) F0 rfl rfl F0 F0 F0 F0 lY;refine s0.trans (s1.trans (s2.trans (s3.trans (s4.trans ?_))));rw[Tn,OZ,B! F5];exact hfin
def N3(l:LI):LB:=l.flatMap λx=>DZ x.toNat 4
def T9(l:LI):LB:=N3 l++DZ (Fw (N3 l)).toNat 4
theorem fF(l:LI):(N3 l).length=4*l.length:=by
 induction l with
 |nil=>rfl
 |cons x l ih=>rw[N3,uq,B9,Dk,show(l.flatMap λx=>DZ x.toNat 4)=N3 l from rfl,ih,E8];omega
theorem X? (l:LI):(T9 l).length=4*l.length+4:=by rw[T9,B9,fF,Dk]
theorem xK(l:LI)(x:Int):N3 (l++[x])=N3 l++DZ x.toNat 4:=by simp[N3]
theorem Bef(l:LI)(hl:l.length<=1000)(h5:∀x∈l,5<=x/\x<=100000):∀(j i q:Nat),i+j=l.length->j<q->BE l q (i:Int) (N3 (l.take i))=some (T9 l,0)
 |j,i,0,_,h=>absurd h (G4 _)
 |0,i,q+1,hi,_=>by
  have hlt:=(Fw (N3 l)).toNat_lt;have e64:(UInt64.ofNat (Fw (N3 l)).toNat).toNat=(Fw (N3 l)).toNat:=IC F0;rw[BE,VQ,B! F2,H? F0,bL,Bdi,eu _ (by rw[fF];omega),Aa];simp only;rw[Dn,show(4:Int)=((4:Nat):Int)from rfl,iL _ 4 F0 F0 (by rw[e64];omega),Aa];simp only;rw[Ay (by rw[fF,Dk];omega),Aa,e64];rfl
 |j+1,i,q+1,hi,hq=>by
  have ih:=Bef l hl h5 j (i+1) q F0 F0;obtain⟨x5,x6⟩:=h5 l[i] (G8 _);obtain⟨v,hv⟩:=G5 (show 0<=l[i] by omega);have e64:(UInt64.ofNat v).toNat=v:=IC F0;have hi1:Af (i:Int) 1=((i+1:Nat):Int):=by rw[Ag];omega
  rw[BE,VQ,B6 F2,Bl,Aa,hv,Xv,show(4:Int)=((4:Nat):Int)from rfl,iL _ 4 F0 F0 (by rw[e64];omega),Aa];simp only;rw[Ay (by rw[fF,Dk,C8];omega),Aa,bT,Bdv,hi1,e64];rw[Ho F0,xK,hv,D0]at ih;exact ih
theorem Aj2(l:LI):aZ l=some (if FO l=true then(T9 l,0)else([],8)):=by
 rw[aZ,gA,fG,Aa];by_cases h:FO l=true
 ·rw[B6 h,B6 h,B! F5];simp only[FO,C1,B?]at h;obtain⟨⟨h1,h2⟩,h3⟩:=h;have h4:=(OU l 100000 F0).1 h3;have h6:=X0 h4.1;have hl:=Bef l h2 (λx hx=>⟨h4.1 x hx,by have:=h6 x hx;omega⟩) l.length 0 As F0 F7;exact hl
 ·rw[B! h,B! h,B6 F5]
def Ky(c:Nat):LX->LI->List LX
 |_,[]=>[]
 |x,m::l=>x.take (m.toNat*c)::Ky c (x.drop (m.toNat*c)) l
theorem tD(c:Nat):∀(l:LI) (x:LX),(Ky c x l).length=l.length
 |[],x=>rfl
 |m::l,x=>by rw[Ky,E8,E8,tD c l]
theorem Bcz(c:Nat):∀(l:LI) (x:LX),(∀m∈l,0<=m)->x.length=l.sum.toNat*c-> (Ky c x l).flatten=x
 |[],x,_,h=>by
  have:x=[]:=Q8 (by simpa using h);rw[this];rfl
 |m::l,x,h0,h=>by
  have hm:=h0 m M9;have hl:0<=l.sum:=by
   have:∀l:LI,(∀m∈l,0<=m)->0<=l.sum:=by
    intro l
    induction l with
    |nil=>intro _;simp
    |cons a l ih=>intro h;have:=ih (λm hm=>h m (J_ _ hm));have:=h a M9;rw[K1];omega
   exact this l λm hm=>h0 m (J_ _ hm)
  rw[K1,show(m+l.sum).toNat=m.toNat+l.sum.toNat by omega,C6]at h;have ih:=Bcz c l (x.drop (m.toNat*c)) (λm hm=>h0 m (J_ _ hm)) L6;rw[Ky,U!,ih,QQ]
theorem I2(c:Nat)(h1:1<=c):∀(l:LI) (x:LX),(∀m∈l,1<=m)->x.length=l.sum.toNat*c->∀y∈Ky c x l,1<=y.length/\y.length<=x.length/\y.length %c=0/\∀v∈y,v∈x
 |[],x,_,_=>λy hy=>by simp[Ky]at hy
 |m::l,x,hm,hx=>by
  have hm1:=hm m M9;have hl:0<=l.sum:=by
   have:∀l:LI,(∀m∈l,1<=m)->0<=l.sum:=by
    intro l
    induction l with
    |nil=>intro _;simp
    |cons a l ih=>intro h;have:=ih (λm hm=>h m (J_ _ hm));have:=h a M9;rw[K1];omega
   exact this l λm hm'=>hm m (J_ _ hm')
  rw[K1,show(m+l.sum).toNat=m.toNat+l.sum.toNat by omega,C6]at hx;have hpos:1<=m.toNat*c:=R4 F0 h1;intro y hy;rw[Ky,dB]at hy;rcases hy with rfl|hy
  ·have hlen:(x.take (m.toNat*c)).length=m.toNat*c:=by rw[C8];omega
   rw[hlen];exact⟨hpos,F0,NR _ _,λv hv=>jh hv⟩
  ·obtain⟨a1,a2,a3,a4⟩:=I2 c h1 l (x.drop (m.toNat*c)) (λm hm'=>hm m (J_ _ hm')) L6 y hy;rw[D8]at a2;exact⟨a1,F0,a3,λv hv=>TO (a4 v hv)⟩
theorem Avb(bits:Int)(ch:Nat)(t x:LX)(h0:1<=x.length)(h4:x.length<=4000):5<= (SV bits ch t x).length/\ (SV bits ch t x).length<=15*x.length:=by
 have h5:=Ahr bits ch t x h0 h4;have h:=ZP ch (It bits ch t x) x.length;refine⟨h5.1,?_⟩;rw[SV,B9,Dk,SM,BW];omega
def Mp(fs:List LB):LI:=fs.map λf=>(f.length:Int)
theorem JU(fs:List LB):(Mp fs).length=fs.length:=by rw[Mp,jv]
theorem Aam:∀fs:List LB,(Mp fs).sum=(fs.flatten.length:Int)
 |[]=>rfl
 |f::fs=>by rw[Mp,MM,K1,U!,B9,show(fs.map λf=>(f.length:Int))=Mp fs from rfl,Aam fs];omega
theorem Asi(bits:Int)(ch:Nat)(t:LX):∀ys:List LX,(∀y∈ys,1<=y.length/\y.length<=4000)-> ((ys.map (SV bits ch t)).flatten).length<=15*ys.flatten.length
 |[],_=>by simp
 |y::ys,h=>by
  have ih:=Asi bits ch t ys λy hy=>h y (J_ _ hy);obtain⟨h1,h4⟩:=h y M9;have:=(Avb bits ch t y h1 h4).2;rw[MM,U!,U!,B9,B9];omega
def NU(p:LB):Nat:=if p=[]then 1 else 2
def P5(p:LB):LB:=if p=[]then []else DZ (MI p).toNat 8
theorem Aij(p:LB):NU p=1\/NU p=2:=by unfold NU;split<;>simp
theorem mL(p:LB):(P5 p).length=if NU p=2 then 8 else 0:=by
 unfold P5 NU;by_cases h:p=[]
 ·rw[B6 h,B6 h];rfl
 ·rw[B! h,B! h,Dk];rfl
def UX(c r n:Nat)(x:LX):List LX:=Ky c x (Az (Ak r) n)
def dW(c w r n:Nat)(x:LX)(p:LB):List LB:=(UX c r n x).map (SV (w:Int) c (Vz p))
def cS(c w r n:Nat)(x:LX)(p:LB):LB:=SQ (NU p) c w r n++(P5 p++(T9 (Mp (dW c w r n x p))++(dW c w r n x p).flatten))
theorem Bgf{g n:Nat}(hg:1<=g)(h1:1<=n):∀m∈Az g n,1<=m:=by
 intro m hm;rw[Az,d!,List.mem_replicate,uO]at hm;have h:=SY (n-1) g;rcases hm with⟨_,rfl⟩|rfl
 ·omega
 ·omega
section
variable {c w r n:Nat} {x:LX} (h:ClipOk c w r n x)
include h
theorem ClipOk.sum:(Az (Ak r) n).sum=(n:Int):=xH h.cnt.1
theorem Ap1:(UX c r n x).flatten=x:=by
 refine Bcz _ _ _ (λm hm=>?_) ?_
 ·have:=Bgf (Hb r) h.cnt.1 m hm;omega
 ·rw[h.sum,h.len,D0]
theorem V3:∀y∈UX c r n x,1<=y.length/\y.length<=4000/\y.length %c=0/\inR (w:Int) y:=by
 intro y hy;obtain⟨a1,a2,a3,a4⟩:=I2 c h.ch.1 _ _ (Bgf (Hb r) h.cnt.1) (by rw[h.sum,h.len,D0]) y hy;have:=h.le;exact⟨a1,F0,a3,λv hv=>h.rng v (a4 v hv)⟩
omit h in
theorem Az0(p:LB):(dW c w r n x p).length=(Az (Ak r) n).length:=by rw[dW,jv];exact tD _ _ _
theorem ZR(p:LB):1<= (dW c w r n x p).length/\ (dW c w r n x p).length<=1000:=by
 rw[Az0,wM];exact⟨Nat.le_add_left _ _,h.fr⟩
theorem Ajo(p:LB):((dW c w r n x p).flatten).length<=15*x.length:=by
 have:=Asi (w:Int) c (Vz p) (UX c r n x) λy hy=>⟨(V3 h y hy).1,(V3 h y hy).2.1⟩;rw[Ap1 h]at this;exact this
theorem Aj0(p:LB):∀f∈dW c w r n x p,5<=f.length:=by
 intro f hf;rw[dW,dC]at hf;obtain⟨y,hy,rfl⟩:=hf;exact(Avb _ _ _ _ (V3 h y hy).1 (V3 h y hy).2.1).1
theorem Ag0(p:LB):FO (Mp (dW c w r n x p))=true:=by
 have h1:=ZR h p;have h2:=Ajo h p;have h3:=h.le;simp only[FO,C1,B?];rw[OU _ _ F0,JU,Aam];refine⟨F0,λz hz=>?_,F0⟩;rw[Mp,dC]at hz;obtain⟨f,hf,rfl⟩:=hz;have:=Aj0 h p f hf;omega
omit h in
theorem X4(p:LB):(cS c w r n x p).length=22+(if NU p=2 then 8 else 0)+(4*(dW c w r n x p).length+4)+(dW c w r n x p).flatten.length:=by
 rw[cS,B9,B9,B9,V7,mL,X?,JU];omega
theorem Ajt(p:LB):(cS c w r n x p).length<=34+4*(dW c w r n x p).length+15*x.length:=by
 have h1:=X4 (c:=c) (w:=w) (r:=r) (n:=n) (x:=x) p;have h2:=Ajo h p;split at h1<;>omega
theorem yg(p:LB):(cS c w r n x p).length<=64034:=by
 have:=Ajt h p;have:=ZR h p;have:=h.le;omega
end
theorem Bck:∀{l:LI},(∀x∈l,0<=x)->∀k,0<= (l.take k).sum
 |[],_,k=>by simp
 |x::l,h,0=>by simp
 |x::l,h,k+1=>by
  have:=Bck (l:=l) (λy hy=>h y (J_ _ hy)) k;have:=h x M9;rw[List.take_succ_cons,K1];omega
theorem Ami(c:Nat)(h1:1<=c):∀(l:LI) (x:LX),(∀m∈l,1<=m)->x.length=l.sum.toNat*c->∀(k:Nat) (hk:k<l.length) (hk':k<(Ky c x l).length),(Ky c x l)[k].length=l[k].toNat*c
 |[],x,_,_=>λk hk=>absurd hk (G4 _)
 |m::l,x,hm,hx=>by
  have hm1:=hm m M9;have hl:0<=l.sum:=by
   have:=Bck (l:=l) (λy hy=>by have:=hm y (J_ _ hy);omega) l.length;rw[QY]at this;exact this
  rw[K1,show(m+l.sum).toNat=m.toNat+l.sum.toNat by omega,C6]at hx;intro k hk hk';cases k with
  |zero=>simp only[Ky,List.getElem_cons_zero,C8];omega
  |succ k=>
   simp only[Ky,List.getElem_cons_succ];exact Ami c h1 l (x.drop (m.toNat*c)) (λm hm'=>hm m (J_ _ hm')) L6 k (by simpa using hk) _
structure FileOf (c w r n:Nat) (x:LX) (p:LB) (T:Nat) (fs:List LB) (z b:LB):Prop where
 clip:ClipOk c w r n x
 pass:p.length<=64
 front:Eo b=((T:Int),0)
 le:b.length<=100000
 lens:Mp fs=Mp (dW c w r n x p)
 form:b.drop T=SQ (NU p) c w r n++(P5 p++(T9 (Mp (dW c w r n x p))++(fs.flatten++z)))
section
variable {c w r n:Nat} {x:LX} {p:LB} {T:Nat} {fs:List LB} {z b:LB} (h:FileOf c w r n x p T fs z b)
include h
theorem FileOf.cnt:fs.length=(dW c w r n x p).length:=by
 have:=congrArg List.length h.lens;rw[JU,JU]at this;exact this
end
theorem Az4(fs:List LB):∀x∈Mp fs,0<=x:=by
 intro x hx;rw[Mp,dC]at hx;obtain⟨f,_,rfl⟩:=hx;omega
def Cd(e:Int):Prop:=e=0\/e=4\/e=12\/e=16\/e=22\/e=24\/e=26\/e=38
instance(e:Int):Decidable (Cd e):=by unfold Cd;infer_instance
theorem Cd.nn{e:Int}(h:Cd e):0<=e:=by unfold Cd at h;omega
theorem Bba(p:LB)(N a k:Nat):Cd (kA p N a k).2.2:=by
 unfold kA
 repeat' split
 all_goals first|decide|exact .inl rfl
theorem Bc6(p:LB)(N a k l:Nat):Cd (rE p N a k l).2.2:=by
 have h:=Bba p N (a+1) l;unfold rE
 repeat' split
 all_goals first|exact h|decide|exact .inl rfl
theorem Anf(ch:Nat)(p:LB)(N:Nat):∀(j a:Nat) (out:LU),Cd (MG ch p N j a out).2.2
 |0,a,out=>by rw[MG];exact .inl rfl
 |j+1,a,out=>by
  rw[MG];split
  ·exact Bc6 ..
  ·exact Anf ch p N j _ _
theorem As7(b:LB):Cd (HX b):=by
 unfold HX
 repeat' split
 all_goals first|decide|exact .inl rfl
theorem xq(a:LX)(b:Int):∀(q:Nat) (i e:Int),Bp a b q i=some e->Cd e
 |0,_,_,h=>by rw[Bp]at h;cases h
 |q+1,i,e,h=>by
  rw[Bp,Ee]at h;split at h
  ·cases hg:Aj a i with
   |none=>rw[hg]at h;cases h
   |some g=>
    rw[hg,Aa]at h;split at h
    ·cases h;decide
    ·rw[Aa]at h;split at h
     ·cases h;decide
     ·exact xq a b q _ e h
  ·cases h;decide
theorem Aky{bits:Int}{a:LX}{e:Int}(hb:Bq bits)(h:Bd bits a=some e):Cd e:=by
 rw[Bd,Hy]at h;rw[oS hb,Aa,B! (by have:=XU bits;rw[Ax];simp;omega)]at h;split at h
 ·cases h;decide
 ·exact xq a _ _ _ e h
theorem yK{bits:Int}{ch n:Nat}{t:LX}{b:LB}(hb:Bq bits)(ht:t.length=16)(h1:1<=ch)(h6:ch<=6)(n1:1<=n)(n2:n<=4000/ch){l:LX}{e:Int}
  (h:Fz (ch:Int) bits t (n:Int) b=some (l,e)):Cd e:=by
 have hn:n*ch<=4000:=by
  have:=C9 ch n2;have h2:=SY 4000 ch;omega
 have hq4:=Amx h1 h6;generalize 4000/ch=mm at*
 have hh:=XU bits;have M7:Qy (ch:Int) bits (n:Int)=some 0:=by
  rw[Qy,Cv,B! H7,oS hb,Aa,B! G2,Aa,B! (by simp[Am,Ad];omega),Bz E?,Aa,hq4,B! E5]
 rw[Fz,Vf,M7,Aa,B! D7,Aa6,Aa]at h;by_cases hs:HX b≠0
 ·rw[B6 (by rw[Am];simpa using hs)]at h;simp only[Aa]at h;cases h;exact As7 b
 have hs0:HX b=0:=by simpa using hs
 have hlen:=Ajl hs0;have e4:Ap (Ac b) 4=((b.length-4:Nat):Int):=by rw[Ac,Ca];omega
 rw[B! (by rw[Am,hs0];simp),e4,Dt,Aa,show((b.length-4:Nat):Int).toNat=b.length-4 from rfl]at h;have hpl:(b.take (b.length-4)).length=b.length-4:=by simp
 generalize b.take (b.length-4)=p at*
 have hr:=An8 (N:=8*p.length) (p:=p) rfl F0 h1 h6 hn;have hV:=Anf ch p (8*p.length) (n*ch) 0 [];have hat:=zu (ch:=ch) (p:=p) (N:=8*p.length) (n*ch) 0 [] F0;rw[hr,Aa]at h;generalize MG ch p (8*p.length) (n*ch) 0 []=V at*
 obtain⟨v,at',er⟩:=V;simp only at*
 by_cases he:er≠0
 ·rw[B6 he]at h;simp only at h;rw[Kb,Hg,B6 (by rw[Am];simpa using he)]at h;cases h;exact hV
 have he0:er=0:=by simpa using he
 have hvl:=hat.2.2 he0;simp only[T5,L8]at hvl;rw[B! he]at h;simp only at h;rw[Kb,Hg]at h;split at h
 ·cases h;decide
 ·rw[B! F5]at h;have hm:v.length %ch=0:=by rw[hvl];exact NR n ch
  obtain⟨l',e',g1,g2,g3,g4,g5⟩:=Acn (v:=v) hb ht h1 h6 F0 hm;rw[g1,Aa,g2,Aa]at h;have:=Aky hb g4;by_cases hl:e'≠0
  ·rw[B6 hl]at h;cases h;exact this
  ·rw[B! hl]at h;cases h;decide
theorem wW{bits:Int}{ch n:Nat}{t:LX}{b:LB}(hb:Bq bits)(ht:t.length=16)(h1:1<=ch)(h6:ch<=6)(n1:1<=n)(n2:n<=4000/ch){l:LX}{e:Int}
  (h:Fz (ch:Int) bits t (n:Int) b=some (l,e)):0<=e:=(yK hb ht h1 h6 n1 n2 h).nn
def shI(f c w r n:Int):Bool:=decide ((f=1\/f=2)/\ (1<=c/\c<=6)/\ (w=8\/w=16\/w=24)/\ (1<=r/\r<=1048576)/\1<=n)
theorem Av0(f c w r n:Int):Zn f c w r n=some (shI f c w r n):=by
 have e2:CH f c w r n=some (decide ((f=1\/f=2)/\ (1<=c/\c<=6)/\ (1<=r/\r<=1048576)/\1<=n)):=by
  rw[CH,YD];congr 1;rw[C?];simp only[Ax,Ar,Th,C1,HU,E3,B?];omega
 have g:∀k:Int,geq w k=decide (w=k):=λk=>by rw[Ax,C?];simp
 rw[Zn,XW,e2,g,g,g,shI];by_cases h8:w=8
 ·subst h8;simp
 ·by_cases h16:w=16
  ·subst h16;simp
  ·by_cases h24:w=24
   ·subst h24;simp
   ·simp[h8,h16,h24]
theorem Azm(f c w r n:Int):Lc f c w r n=some (shI f c w r n):=by
 rw[Lc,shI];simp only[Ax,De,Th,C1,HU,E3,B?,T_];split
 ·rename_i h;congr 1;rw[C?];simp only[C1,HU,E3,B?];omega
 ·rename_i h;congr 1;symm;rw[N2];omega
structure HdI (f c w r n:Int) (F C W R N:Nat):Prop where
 ef:f=F
 ec:c=C
 ew:w=W
 er:r=R
 en:n=N
 shape:Oe F C W R N=true
 fit:bP C R N=true
theorem Ar1(f c w r n:Int):(∃F C W R N:Nat,HdI f c w r n F C W R N)\/ (Mr f c w r n=some 8/\Fk f c w r n=some ([],8)):=by
 by_cases h:shI f c w r n=true
 ·have h':=h;simp only[shI,B?]at h';obtain⟨F,rfl⟩:=G5 (show 0<=f by omega);obtain⟨C,rfl⟩:=G5 (show 0<=c by omega);obtain⟨W,rfl⟩:=G5 (show 0<=w by omega);obtain⟨R,rfl⟩:=G5 (show 0<=r by omega);obtain⟨N,rfl⟩:=G5 (show 0<=n by omega);have hs:Oe F C W R N=true:=by simp only[Oe,B?];omega
  by_cases hf:bP C R N=true
  ·exact .inl ⟨F,C,W,R,N,rfl,rfl,rfl,rfl,rfl,hs,hf⟩
  ·have hf':bP C R N=false:=by simpa using hf
   refine .inr ⟨?_,?_⟩
   ·rw[Mr,L9,Aa,hs,B! B8,mN hs,Aa,hf'];rfl
   ·rw[Fk,Um,kG,Aa,hs,B! B8,zK hs,Aa,hf'];rfl
 ·have h':shI f c w r n=false:=by simpa using h
  refine .inr ⟨?_,?_⟩
  ·rw[Mr,Azm,Aa,h'];rfl
  ·rw[Fk,Um,Av0,Aa,h'];rfl
theorem HdI.check{f c w r n:Int}{F C W R N:Nat}(h:HdI f c w r n F C W R N):Mr f c w r n=some 0:=by
 obtain⟨rfl,rfl,rfl,rfl,rfl,hs,hf⟩:=h;rw[Mr,L9,Aa,hs,B! B8,mN hs,Aa,hf];rfl
theorem HdI.W9{f c w r n:Int}{F C W R N:Nat}(h:HdI f c w r n F C W R N):Fk f c w r n=some (Az (Ak R) N,0):=by
 obtain⟨rfl,rfl,rfl,rfl,rfl,hs,hf⟩:=h;exact Ahn hs hf
theorem HdI.num{f c w r n:Int}{F C W R N:Nat}(h:HdI f c w r n F C W R N):(F=1\/F=2)/\ (1<=C/\C<=6)/\ (W=8\/W=16\/W=24)/\ (1<=R/\R<=1048576)/\1<=N/\N<=4000/C/\N<=4000/\ (N-1)/Ak R+1<=1000:=by
 obtain⟨rfl,rfl,rfl,rfl,rfl,hs,hf⟩:=h;simp only[Oe,B?]at hs;simp only[bP,B?]at hf;have hd:4000/C<=4000:=G9 _ _;omega
theorem HdI.UW{f c w r n:Int}{F C W R N:Nat}(h:HdI f c w r n F C W R N):Gy f c w r n=some (Az (Ak R) N):=by
 have hn:=h.num;obtain⟨rfl,rfl,rfl,rfl,rfl,hs,hf⟩:=h;rw[Gy,w! F0 F0 F0];rfl
section
variable {f c w r n:Nat} (h1:Oe f c w r n=true) (h2:bP c r n=true)
include h1 h2
theorem x?(k:Nat)(hk:k<= (Az (Ak r) n).length):∀(j i q:Nat),i+j=k->j<q->Nh (k:Int) (f:Int) (c:Int) (w:Int) (r:Int) (n:Int) (Az (Ak r) n) q (((Az (Ak r) n).take i).sum) (i:Int)=some (RT c w (Az (Ak r) n) k)
 |0,i,q+1,hi,_=>by
  obtain⟨hc,hw,hr,hn,_⟩:=O6 h1;obtain⟨g1,g2,g3⟩:=iH h1 h2;have b:=zV g1 i;obtain rfl:i=k:=F0
  have hb:((Az (Ak r) n).take i).sum.toNat*(c*wB (w:Int))<=4000*(6*3):=G0 F0 (G0 hc.2 (D5 (w:Int)).2);rw[Nh,Yh,B! I!,JE,Al3,Jl,Aa];simp only;rw[Gb,e! hc.2 hw,Aa,RT];have e:((Az (Ak r) n).take i).sum=((((Az (Ak r) n).take i).sum.toNat:Nat):Int):=F0
  rw[e,Ea K? K?,<-M!];rfl
 |j+1,i,q+1,hi,hq=>by
  obtain⟨g1,g2,g3⟩:=iH h1 h2;have hK:=y! h2;have hlt:i<(Az (Ak r) n).length:=F0
  have b1:=zV g1 i;have b2:=zV g1 (i+1);have e:=Aah hlt;have ih:=x? k hk j (i+1) q F0 F0;rw[e]at ih;rw[Nh,Yh,B6 F9,Bl hlt,Aa,Aa,Ag,Ag];exact ih
theorem Agc(k:Nat)(hk:k<= (Az (Ak r) n).length):Yx (f:Int) (c:Int) (w:Int) (r:Int) (n:Int) (k:Int)=some (RT c w (Az (Ak r) n) k):=by
 have hK:=y! h2;obtain⟨g1,g2,g3⟩:=iH h1 h2;obtain⟨hc,hw,hr,hn,_⟩:=O6 h1;have h:=x? h1 h2 k hk k 0 As F0 F7;rw[Q_,Y1]at h;rw[Yx,KD,Gy,w! hr.2 hn g3,Aa,Aa];exact h
theorem Akz{i:Nat}(hlt:i<(Az (Ak r) n).length):Af (RT c w (Az (Ak r) n) i) (Bs (Bn (Bn ((Az (Ak r) n)[i]) (c:Int)) (w:Int)) 8)=RT c w (Az (Ak r) n) (i+1):=by
 obtain⟨hc,hw,hr,hn,_⟩:=O6 h1;obtain⟨g1,g2,g3⟩:=iH h1 h2;have b1:=zV g1 i;have b2:=zV g1 (i+1);have e:=Aah hlt;have h0:=g1 _ (G8 hlt);have e2:(Az (Ak r) n)[i]=(((Az (Ak r) n)[i].toNat:Nat):Int):=F0
 have hb:((Az (Ak r) n).take (i+1)).sum.toNat*(c*wB (w:Int))<=4000*(6*3):=G0 F0 (G0 hc.2 (D5 (w:Int)).2);rw[e2,Bda F0 hc.2 hw,RT,RT];have e3:((Az (Ak r) n).take (i+1)).sum.toNat=((Az (Ak r) n).take i).sum.toNat+(Az (Ak r) n)[i].toNat:=F0
 rw[e3,C6]at hb⊢;rw[Ag];omega
theorem vW(a:Nat)(ha:a<= (Az (Ak r) n).length)(o p:LB)(m:LI)(a':Int)(N:LB)(u:Bool)(v:Int):∀(j i q:Nat),i+j=a->j<q->
  Xn ((Az (Ak r) n).take a) o p (f:Int) (c:Int) (w:Int) (r:Int) (n:Int) m a' N u v q (RT c w (Az (Ak r) n) i) (i:Int)=some (vA (Ac N) (RT c w (Az (Ak r) n) a))
 |0,i,q+1,hi,_=>by
  obtain rfl:i=a:=F0
  rw[Xn,OP,B! (by rw[Ad,Ac,C8];simp;omega),cC,Bdf]
 |j+1,i,q+1,hi,hq=>by
  have hK:=y! h2;have hlt:i<(Az (Ak r) n).length:=F0
  have hlt2:i<((Az (Ak r) n).take a).length:=by rw[C8];omega
  have ih:=vW a ha o p m a' N u v j (i+1) q F0 F0;rw[Xn,OP,B6 F2,Bl hlt2,Aa,U7,Akz h1 h2 hlt,Ag];exact ih
end
end Go.Pl
