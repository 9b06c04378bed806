/- A part of the proof of a statement of this seat (see the text that ends in Proof): LwBase, LwBitB, LwLe, LwBits, LwRef02, LwCut, LwUn, LwRice, LwDual, LwVal, LwI32, LwFil, LwUnm, LwSam, LwCrc, LwFrm, LwEc1, LwEc2, LwC64, LwWby, LwId, LwApe, LwStrip, LwLen, LwHead, LwSeek, LwOpen, LwFrame, LwBack, LwGot, LwWs, LwGoes, LwPol, LwRt. No conditions of its own. -/
import Derived.Test.YtgomgobgfhhahaaGreatDoorCbBA
import Derived.Test.YtgomgobgfhhahaaGreatDoorCbPA
set_option linter.unusedVariables false
set_option linter.unusedSimpArgs false
namespace Go.Lv
theorem Ah{a b:Int}(h: -9223372036854775808<=a+b)(h':a+b<=9223372036854775807):Ad a b=a+b:=by rw[Bi9,Dg h h']
theorem Bs{a b:Int}(h: -9223372036854775808<=a-b)(h':a-b<=9223372036854775807):Ao a b=a-b:=by rw[Bja,Dg h h']
theorem Fc{a b:Int}(h: -9223372036854775808<=a*b)(h':a*b<=9223372036854775807):Bg a b=a*b:=by rw[Bb2,Dg h h']
theorem XC(c:UInt8):(Af c:Int)=(c.toNat:Int):=by rw[Bbn,Dg]<;>have:=c.toNat_lt<;>omega
theorem Afz(c:UInt32):(Af c:Int)=(c.toNat:Int):=by rw[Axo,Dg]<;>have:=c.toNat_lt<;>omega
theorem vP(c:UInt8):(Af c:UInt64)=UInt64.ofNat c.toNat:=by simp only[Af,FY,Jp]
theorem Dt(c:UInt32):(Af c:UInt64)=UInt64.ofNat c.toNat:=by simp only[Af,BU,Jp]
theorem ZM(c:UInt64):(Af c:UInt8)=UInt8.ofNat c.toNat:=by simp only[Af,Lj,Py]
theorem wF(c:UInt32):(Af c:UInt8)=UInt8.ofNat c.toNat:=by simp only[Af,BU,Py]
theorem Xp(n:Nat):(Af (n:Int):UInt64)=UInt64.ofNat n:=by simp only[Af];exact Jp n
theorem Aiu(n:Nat):(Af (n:Int):UInt32)=UInt32.ofNat n:=by simp only[Af];exact Gg n
theorem Bbe(n:Nat):(Af (n:Int):UInt8)=UInt8.ofNat n:=by simp only[Af];exact Py n
theorem Aax{c:UInt64}(h:c.toNat<9223372036854775808):(Af c:Int)=(c.toNat:Int):=by rw[Axn,Dg]<;>omega
theorem Au4:LIM=17179869184:=by decide
theorem Aq:36893488147419103231<Au:=by decide
theorem Bm{α:Type}{l:List α}{n:Nat}(h:n<l.length):Ap l (n:Int)=some l[n]:=by simp[Ap,h]
theorem Wf{α:Type}{l:List α}{n:Nat}(x:α)(h:n<l.length):Nx l (n:Int) x=some (l.set n x):=by simp[Nx,h]
theorem Uk{α:Type}{l:List α}{a b:Int}(h:0<=a)(h1:a<=b)(h2:b<=l.length):Bi l a b=some ((l.take b.toNat).drop a.toNat):=by rw[Bi,Aas ⟨h,h1,h2⟩]
theorem Bt{α:Type}{l:List α}{a:Int}(h:0<=a)(h1:a<=l.length):Bi l a (Ac l)=some (l.drop a.toNat):=by
 unfold Ac;rw[Uk h h1 (Int.le_refl _),Ah2,Aye]
theorem Dd{α:Type}{l:List α}{b:Int}(h:0<=b)(h1:b<=l.length):Bi l 0 b=some (l.take b.toNat):=by rw[Uk (Int.le_refl _) h h1];rfl
theorem Bd{α:Type}{l m:List α}(h:l.length+m.length<=17179869184):Dy l m=some (l++m):=by rw[Dy,Au4,Aas h]
theorem uA{α:Type}{n:Int}{z:α}(h:0<=n)(h':n<=17179869184):mkI n z=some (List.replicate n.toNat z):=by rw[mkI,Au4,Aas ⟨h,h'⟩]
theorem Bk6:Lg true=some ():=rfl
theorem Bu{b:Bool}(h:b=true):Lg b=some ():=by rw[h];rfl
theorem Aa{α β:Type}(a:α)(f:α->Option β):Option.bind (some a) f=f a:=rfl
theorem drop_cons{α:Type}{l:List α}{n:Nat}(h:n<l.length):l.drop n=l[n]::l.drop (n+1):=List.drop_eq_getElem_cons h
theorem Ij{α:Type}{l:List α}{n:Nat}(h:n<l.length):l.take (n+1)=l.take n++[l[n]]:=by rw[List.take_add_one,List.getElem?_eq_getElem h];rfl
def Gb:List UInt8->Nat
 |[]=>0
 |x::r=>x.toNat+256*Gb r
theorem Aml:∀l:List UInt8,Gb l<256^l.length
 |[]=>by simp[Gb]
 |x::r=>by
  have h:=Aml r;have:=x.toNat_lt;simp only[Gb,Anf,Ayu];omega
theorem Aei:∀l m:List UInt8,Gb (l++m)=Gb l+256^l.length*Gb m
 |[],m=>by simp[Gb]
 |x::r,m=>by
  simp only[Gb,Blm,Aei r m,Anf,Ayu,Nat.mul_add];rw[Asu (256^r.length) 256,Bc9];omega
def uO(l:List UInt8):UInt64:=UInt64.ofNat (Gb l)
theorem Be1{l:List UInt8}(h:l.length<=8):Gb l<18446744073709551616:=by
 have h1:=Aml l;have h2:256^l.length<=256^8:=Ak6 (by omega) h;exact Arb h1 (by simpa using h2)
theorem Auu{l:List UInt8}(h:l.length<=4):Gb l<4294967296:=by
 have h1:=Aml l;have h2:256^l.length<=256^4:=Ak6 (by omega) h;exact Arb h1 (by simpa using h2)
theorem cZ{l:List UInt8}(h:l.length<=8):(uO l).toNat=Gb l:=by
 rw[uO,Amh,Ac1 (Be1 h)]
theorem QI{l:List UInt8}(h:l.length<=4):(Af (uO l):Int)=(Gb l:Int):=by
 have:=Auu h;rw[Aax]<;>rw[cZ (by omega)];omega
def Sm(n:Nat):Nat->List UInt8
 |0=>[]
 |w+1=>UInt8.ofNat n::Sm (n/256) w
theorem Cf:∀(w n:Nat),(Sm n w).length=w
 |0,_=>rfl
 |w+1,n=>by simp[Sm,Cf w]
theorem Ao2:∀(w n:Nat),Sm n (w+1)=Sm n w++[UInt8.ofNat (n/256^w)]
 |0,n=>by simp[Sm]
 |w+1,n=>by
  rw[Sm,Ao2 w (n/256),Sm];simp[Bl8,Ayu,Asu]
def Hp(p:List UInt8)(i:Nat):Nat:=(p.getD (i/8) 0).toNat/2^(i %8) %2
theorem DR(p:List UInt8)(i:Nat):Hp p i<2:=Bj3 _ (by omega)
def Ce(p:List UInt8):Nat->Nat->Nat
 |_,0=>0
 |a,n+1=>Hp p a+2*Ce p (a+1) n
theorem Qy(p:List UInt8):∀(n a:Nat),Ce p a n<2^n
 |0,_=>by simp[Ce]
 |n+1,a=>by
  have:=Qy p n (a+1);have:=DR p a;rw[Ce,Ayu];omega
theorem RW(p:List UInt8):∀(m n a:Nat),Ce p a (m+n)=Ce p a m+2^m*Ce p (a+m) n
 |0,n,a=>by simp[Ce]
 |m+1,n,a=>by
  rw[show m+1+n=(m+n)+1 by omega,Ce,Ce,RW p m n (a+1),show a+1+m=a+(m+1) by omega,Ayu,Nat.mul_add,Asu (2^m) 2,Bc9];omega
theorem yN(p:List UInt8)(a:Nat):Ce p a 1=Hp p a:=by simp[Ce]
theorem sL(p:List UInt8)(a n:Nat):Ce p a (n+1)=Ce p a n+2^n*Hp p (a+n):=by rw[RW p n 1 a,yN]
theorem gV(p:List UInt8)(a:Nat):∀t:Nat,a %8+t<=8->Ce p a t=(p.getD (a/8) 0).toNat/2^(a %8) %2^t
 |0,_=>by simp[Ce,Nat.mod_one]
 |t+1,h=>by
  have h1:(a+t)/8=a/8:=by omega
  have h2:(a+t) %8=a %8+t:=by omega
  rw[sL,gV p a t (by omega),Hp,h1,h2,Nat.mod_pow_succ,Bn5,Bl8]
theorem Aad{p:List UInt8}:∀(n a:Nat),(∀k,k<n->Hp p (a+k)=0)->Ce p a n=0
 |0,_,_=>rfl
 |n+1,a,h=>by
  have h0:=h 0 (by omega);rw[Ce,Aad n (a+1) λk hk=>by have:=h (k+1) (by omega);rwa [show a+1+k=a+(k+1) by omega]];rw[Bip]at h0;omega
def okB(p:List UInt8)(n:Nat):Prop:=n<=330000/\p.length=(n+7)/8/\∀k,n<=k->k<8*p.length->Hp p k=0
def Rw(p:List UInt8)(a n:Nat):List UInt8:=(List.range ((n+7)/8)).map λj=>UInt8.ofNat (Ce p (a+8*j) (min 8 (n-8*j)))
theorem Ki(p:List UInt8)(a n:Nat):(Rw p a n).length=(n+7)/8:=by simp[Rw]
theorem Apw(p:List UInt8):∀(n a k:Nat),k<n->Ce p a n/2^k %2=Hp p (a+k)
 |n+1,a,0,_=>by have:=DR p a;rw[Ce];simp;omega
 |n+1,a,k+1,h=>by
  have hb:=DR p a;have e:(Hp p a+2*Ce p (a+1) n)/2=Ce p (a+1) n:=by omega
  rw[Ce,Ayu,Asu (2^k) 2,<-Bl8,e,Apw p n (a+1) k (by omega),show a+1+k=a+(k+1) by omega]
theorem Awj(p:List UInt8)(n a k:Nat)(h:n<=k):Ce p a n/2^k %2=0:=by
 have:=Qy p n a;rw[Bkq (Arb this (Ak6 (by omega) h))]
theorem yC(p:List UInt8)(a n k:Nat):Hp (Rw p a n) k=if k<n then Hp p (a+k)else 0:=by
 rw[Hp];by_cases hj:k/8<(n+7)/8
 ·have e:(Rw p a n).getD (k/8) 0=UInt8.ofNat (Ce p (a+8*(k/8)) (min 8 (n-8*(k/8)))):=by
   rw[List.getD_eq_getElem?_getD,List.getElem?_eq_getElem (by rw[Ki];exact hj)];simp[Rw]
  have hlt:Ce p (a+8*(k/8)) (min 8 (n-8*(k/8)))<256:=by
   have:=Qy p (min 8 (n-8*(k/8))) (a+8*(k/8));have h2:2^(min 8 (n-8*(k/8)))<=2^8:=Ak6 (by omega) (by omega);omega
  have hu:(UInt8.ofNat (Ce p (a+8*(k/8)) (min 8 (n-8*(k/8))))).toNat=Ce p (a+8*(k/8)) (min 8 (n-8*(k/8))):=by
   rw[Aq6];exact Ac1 hlt
  rw[e,hu];by_cases hk:k<n
  ·rw[Aas hk,Apw p _ _ _ (by omega),show a+8*(k/8)+k %8=a+k by omega]
  ·rw[Aaf hk,Awj p _ _ _ (by omega)]
 ·have e:(Rw p a n).getD (k/8) 0=0:=by
   rw[List.getD_eq_getElem?_getD,List.getElem?_eq_none (by rw[Ki];omega)];rfl
  rw[e,Aaf (by omega)];simp
theorem wR(p:List UInt8)(a n:Nat)(h:n<=330000):okB (Rw p a n) n:=⟨h,Ki p a n,λk hk _=>by rw[yC,Aaf (by omega)]⟩
theorem Apr{p q:List UInt8}(hl:p.length=q.length)(h:∀k,k<8*p.length->Hp p k=Hp q k):p=q:=by
 apply Bdp hl;intro i h1 h2;have hp:Ce p (8*i) 8=Ce q (8*i) 8:=by
  have key:∀(n a:Nat),a+n<=8*p.length->Ce p a n=Ce q a n:=by
   intro n
   induction n with
   |zero=>intros;rfl
   |succ n ih=>intro a ha;rw[Ce,Ce,h a (by omega),ih (a+1) (by omega)]
  exact key 8 (8*i) (by omega)
 rw[gV p _ 8 (by omega),gV q _ 8 (by omega)]at hp;have e1:8*i/8=i:=by omega
 have e2:8*i %8=0:=by omega
 rw[e1,e2]at hp;have a1:p.getD i 0=p[i]:=by simp[List.getD_eq_getElem?_getD,h1]
 have a2:q.getD i 0=q[i]:=by simp[List.getD_eq_getElem?_getD,h2]
 rw[a1,a2]at hp;apply UInt8.toNat_inj.1;have:=p[i].toNat_lt;have:=q[i].toNat_lt;simp at hp;omega
end Go.Lv
namespace Go.Pl
open Go Go.Lv
theorem Bbl(b:List UInt8)(hb:b.length<4611686018427387904):∀(j q:Nat),j<=b.length->j<q->Qh b q (uO (b.drop j)) ((j:Int)-1)=some (uO b)
 |0,q+1,_,_=>by
  rw[Qh,FA,Aaf (by rw[Ds];simp)];simp[YV,XK]
 |j+1,q+1,hj,hq=>by
  rw[Qh,FA,Aas (by rw[Ds];simp),show((j+1:Nat):Int)-1=(j:Int) by omega,Bm (by omega),Aa,Bs (by omega) (by omega)];have h:Ad (Bg (256:UInt64) (uO (b.drop (j+1)))) (Af b[j]:UInt64)=uO (b.drop j):=by
   rw[SQ,RJ,vP,drop_cons (n:=j) (by omega),uO,uO,Gb,UInt64.ofNat_add,UInt64.ofNat_mul];exact UInt64.add_comm _ _
  rw[h];exact Bbl b hb j q (by omega) (by omega)
theorem Ao8(b:List UInt8)(hb:b.length<4611686018427387904):Ei b=some (uO b):=by
 have h:=Bbl b hb b.length Au (Aob _) (by have:=Aq;omega);rw[Ei,aM,aG];have e:Ao (Ac b) 1=(b.length:Int)-1:=Bs (by unfold Ac;omega) (by unfold Ac;omega);rw[e,<-h,Blu];rfl
theorem Azu{n c:UInt64}{i:Nat}(hn:n.toNat<2^i)(hc:c.toNat*2^i<18446744073709551616):vM n (Dp c i)=UInt64.ofNat (n.toNat+c.toNat*2^i):=by
 rw[Bd7];apply UInt64.toNat_inj.1;rw[UInt64.toNat_or,YP,Ac1 hc,Asu,Nat.or_comm,<-Bg2 hn,Amh,Ac1,Bmz,Asu];have h:=Bg2 hn c.toNat;have h2:2^i*c.toNat+n.toNat<2^64:=by
  rw[h];exact Nat.or_lt_two_pow (by rw[Asu];simpa using hc) n.toNat_lt
 rw[Bmz];first|exact h2|(rw[Asu];exact h2)
theorem Ajt(b:List UInt8)(hb:b.length<=8):∀(j i q:Nat),i+j=b.length->j<q->HI b q (uO (b.take i)) (i:Int)=some (uO b,0)
 |0,i,q+1,hi,_=>by
  rw[HI,cS,Aaf (by rw[Ae,Ac];simp;omega),show i=b.length by omega,Aye];rfl
 |j+1,i,q+1,hi,hq=>by
  have hlt:i<b.length:=by omega
  rw[HI,cS,Aas (by rw[Ae,Ac];simp;omega),Bm hlt,Aa,Fc (by omega) (by omega),Bu (by rw[Ds];simp;omega),Aa,Ah (by omega) (by omega)];have h:vM (uO (b.take i)) (Dp (Af b[i]:UInt64) (GI.toZ ((8:Int)*(i:Int))).toNat)=uO (b.take (i+1)):=by
   have e:(GI.toZ ((8:Int)*(i:Int))).toNat=8*i:=by show((8:Int)*(i:Int)).toNat=_;omega
   have e2:(2:Nat)^(8*i)=256^i:=by rw[Nat.pow_mul]
   have h1:=Aml (b.take i);rw[Ah9,Bfs (by omega)]at h1;have h3:=b[i].toNat_lt;have hle:(256:Nat)^(i+1)<=256^8:=Ak6 (by omega) (by omega);rw[Ayu]at hle;have h4:(Af b[i]:UInt64).toNat=b[i].toNat:=by rw[vP,Amh];omega
   have h5:b[i].toNat*256^i<18446744073709551616:=by
    have:b[i].toNat*256^i<256*256^i:=Nat.mul_lt_mul_of_pos_right (by simpa using h3) (Bl3 (by omega));simp at hle;omega
   rw[e,Azu (by rw[cZ (by simp;omega),e2];exact h1) (by rw[h4,e2];exact h5),cZ (by simp;omega),h4,e2,Ij hlt];rw[uO,Aei];simp only[Gb,Ah9,Bfs (Nat.le_of_lt hlt),Nat.mul_zero,Bip];rw[Asu]
  rw[h];exact Ajt b hb j (i+1) q (by omega) (by omega)
theorem Anm(b:List UInt8)(h1:1<=b.length)(h2:b.length<=8):qM b=some (uO b,0):=by
 have h:=Ajt b h2 b.length 0 Au (by omega) (by have:=Aq;omega);rw[qM,oS,Aaf (by simp[Ae,As,Ac];omega),oI];exact h
def part(b:List UInt8)(at' w:Nat):List UInt8:=(b.take (at'+w)).drop at'
theorem Ew{b:List UInt8}{a w:Nat}(h:a+w<=b.length):(part b a w).length=w:=by simp[part];omega
theorem Ajp(b:List UInt8)(a w:Nat)(h1:1<=w)(h2:w<=8)(h3:a+w<=b.length)(hb:b.length<4611686018427387904):fX b (a:Int) (w:Int)=some (uO (part b a w),0):=by
 rw[fX,Aaf (by simp[Ae,As];omega),Aaf (by rw[As,Bs (by unfold Ac;omega) (by unfold Ac;omega),Ac];simp;omega),Ah (by omega) (by omega),Uk (by omega) (by omega) (by omega),Aa];rw[show((a:Int)+(w:Int)).toNat=a+w by omega,show(a:Int).toNat=a by omega];rw[Anm _ (by rw[show((b.take (a+w)).drop a).length=_ from Ew h3];exact h1) (by rw[show((b.take (a+w)).drop a).length=_ from Ew h3];exact h2),Aa];rfl
theorem Aby(w:Nat)(hw:w<=1000):∀(j i q:Nat) (n:UInt64) (acc:List UInt8),i+j=w->j<q->acc.length+j<=1000000->Ji (w:Int) q n (i:Int) acc=some (acc++Sm n.toNat j)
 |0,i,q+1,n,acc,hi,_,_=>by
  rw[Ji,Ut,Aaf (by rw[Ae];simp;omega)];simp[GX,GR,Sm]
 |j+1,i,q+1,n,acc,hi,hq,ha=>by
  rw[Ji,Ut,Aas (by rw[Ae];simp;omega)];have e:(Af (HQ n (256:UInt64)):UInt8)=UInt8.ofNat n.toNat:=by
   rw[ZM,Ann];apply UInt8.toNat_inj.1;rw[Aq6,Aq6,UInt64.toNat_mod]
   show n.toNat %256 %256=_;omega
  have e2:(Ca n (256:UInt64)).toNat=n.toNat/256:=by rw[yE,Bn9];rfl
  rw[Bd (by simp;omega),Aa,Ah (by omega) (by omega),e];have h:=Aby w hw j (i+1) q (Ca n 256) (acc++[UInt8.ofNat n.toNat]) (by omega) (by omega) (by simp;omega);rw[e2]at h;rw[show((i:Int)+1)=((i+1:Nat):Int) by omega,h,Sm];simp
theorem Agv(n:UInt64)(w:Nat)(hw:w<=1000):Fl n (w:Int)=some (Sm n.toNat w):=by
 rw[Fl,GW,HC];have h:=Aby w hw w 0 Au n [] (by omega) (by have:=Aq;omega) (by simp;omega);simpa using h
theorem sE{α:Type}{l m:List α}{x y:α}{i:Nat}(h:l.length=i):(l++x::m).set i y=l++y::m:=by subst h;simp
theorem Akm(n:UInt64)(l4:List UInt8)(w:Nat)(hl:l4.length=w)(hw:w<=8):∀(j i q:Nat),i+j=w->j<q->HJ n l4 q (i:Int) (Sm n.toNat i++List.replicate j 0)=some (Sm n.toNat w,0)
 |0,i,q+1,hi,_=>by
  rw[HJ,cU,Aaf (by rw[Ae,Ac];simp;omega)];obtain rfl:i=w:=by omega
  simp[nY,Abk]
 |j+1,i,q+1,hi,hq=>by
  have hlen:(Sm n.toNat i++List.replicate (j+1) 0).length=i+(j+1):=by simp[Cf]
  rw[HJ,cU,Aas (by rw[Ae,Ac];simp;omega),Fc (by omega) (by omega),Bu (by rw[Ds];simp;omega),Aa,Bm (by rw[hlen];omega),Aa,Wf _ (by rw[hlen];omega),Aa,Ah (by omega) (by omega)];have e:(Af (Ck n (GI.toZ ((8:Int)*(i:Int))).toNat):UInt8)=UInt8.ofNat (n.toNat/256^i):=by
   have e:(GI.toZ ((8:Int)*(i:Int))).toNat=8*i:=by show((8:Int)*(i:Int)).toNat=_;omega
   rw[e,ZM,DN,Nat.pow_mul]
  rw[e,Bho,sE (Cf _ _)];have h:=Akm n l4 w hl hw j (i+1) q (by omega) (by omega);rw[Ao2]at h;simpa using h
theorem Be0(n:UInt64)(w:Nat)(h1:1<=w)(h2:w<=8)(h:n.toNat<256^w):Adr n (w:Int)=some true:=by
 rw[Adr];by_cases h8:w=8
 ·subst h8;rw[Aas (by rw[Ar];rfl)]
 ·rw[Aaf (by rw[Ar];simp;omega),Fc (by omega) (by omega),Bu (by rw[Ds];simp;omega),Aa];have e:(GI.toZ ((8:Int)*(w:Int))).toNat=8*w:=by show((8:Int)*(w:Int)).toNat=_;omega
  rw[e,zD];have:Ck n (8*w)=0:=by
   apply UInt64.toNat_inj.1;rw[DN,Nat.pow_mul];exact Bkq h
  rw[this];rfl
theorem ZY(n:UInt64)(w:Nat)(h1:1<=w)(h2:w<=8)(h:n.toNat<256^w):DJ n (w:Int)=some (Sm n.toNat w,0):=by
 rw[DJ,qA,Aaf (by simp[Ae,As];omega),Be0 n w h1 h2 h,Aa,Aaf (by simp),uA (by omega) (by omega),Aa,Bu (by rw[Ar];simp),Aa,rE];have h:=Akm n (List.replicate (w:Int).toNat 0) w (by simp) h2 w 0 Au (by omega) (by have:=Aq;omega);simpa [Sm]using h
theorem Abj(n:Nat)(h:n<4611686018427387904):Er (n:Int) (7:Int)=((n %8:Nat):Int):=by
 have e:Er (n:Int) (7:Int)=wrap64 ((BitVec.ofInt 64 (n:Int)&&&BitVec.ofInt 64 7).toNat:Int):=rfl;rw[e,BitVec.toNat_and,Bj4,Bj4];have h1:((n:Int) %((2^64:Nat):Int)).toNat=n:=by omega
 have h2:((7:Int) %((2^64:Nat):Int)).toNat=2^3-1:=by decide
 rw[h1,h2,Bl7,Dg (by omega) (by omega)]
theorem Bkj(n:Nat):Amz (n:Int) (GI.toZ (3:UInt64)).toNat=((n/8:Nat):Int):=by
 have e:Amz (n:Int) (GI.toZ (3:UInt64)).toNat=(n:Int).fdiv 8:=rfl;rw[e,Atp _ (by omega)];omega
theorem Bj8{t:Nat}(h:t<=8):Ao (Dp (1:UInt8) t) (1:UInt8)=UInt8.ofNat (2^t-1):=by
 have:t=0\/t=1\/t=2\/t=3\/t=4\/t=5\/t=6\/t=7\/t=8:=by omega
 rcases this with rfl|rfl|rfl|rfl|rfl|rfl|rfl|rfl|rfl<;>decide
theorem bitsOf(c:UInt8)(off t:Nat)(h:t<=8):(Er (Ck c off) (Ao (Dp (1:UInt8) t) (1:UInt8))).toNat=c.toNat/2^off %2^t:=by
 have hp:2^t<=2^8:=Ak6 (by omega) h;rw[Bj8 h,Aug,UInt8.toNat_and,Al9,Aq6,Ac1 (by have:=Bl3 (n:=t) (show 0<2 by omega);omega),Bl7]
theorem Ag0{p:List UInt8}{k:Nat}(h:k<p.length):Ap p (k:Int)=some (p.getD k 0):=by
 rw[Bm h];simp[List.getD_eq_getElem?_getD,h]
def Ra(p:List UInt8)(a n:Nat):UInt64:=UInt64.ofNat (Ce p a n)
theorem AD(p:List UInt8)(a n:Nat)(h:n<=64):(Ra p a n).toNat=Ce p a n:=by
 have h1:=Qy p n a;have h2:2^n<=2^64:=Ak6 (by omega) h;rw[Ra,Amh,Ac1 (by omega)]
theorem Aok(p:List UInt8)(N:Int)(a n:Nat)(hn:n<=64)(ha:a+n<=8*p.length)(hp:p.length<=1000000):∀(j h q:Nat),h+j=n->j<q->RQ (a:Int) (n:Int) p N q (Ra p a h) (h:Int)=some (Ra p a n)
 |j,h,q+1,hj,hq=>by
  rw[RQ,pE];by_cases hlt:h<n
  ·have e1:Ad (a:Int) (h:Int)=((a+h:Nat):Int):=by rw[Ah (by omega) (by omega)];omega
   have e2:Fk (Ao (n:Int) (h:Int)) (Ao (8:Int) (((a+h) %8:Nat):Int))=((min (n-h) (8-(a+h) %8):Nat):Int):=by
    rw[PL,Bs (by omega) (by omega),Bs (by omega) (by omega)];omega
   have hm:(a+h)/8<p.length:=by omega
   rw[Aas (by rw[Ae];simp;omega),e1,Bkj,Ag0 hm,Aa,Abj _ (by omega),Bu (by rw[Ds];simp;omega),Aa,e2,Bu (by rw[Ds];simp),Aa,Bu (by rw[Ds];simp),Aa];generalize hT:min (n-h) (8-(a+h) %8)=T;have hT8:T<=8:=by omega
   have hT1:1<=T:=by omega
   have hb:(a+h) %8+T<=8:=by omega
   have hv:=gV p (a+h) T hb;have z1:(GI.toZ (((a+h) %8:Nat):Int)).toNat=(a+h) %8:=rfl;have z2:(GI.toZ ((T:Nat):Int)).toNat=T:=rfl;have z3:(GI.toZ ((h:Nat):Int)).toNat=h:=rfl;rw[z1,z2,z3];have hx:(Af (Er (Ck (p.getD ((a+h)/8) 0) ((a+h) %8)) (Ao (Dp (1:UInt8) T) (1:UInt8))):UInt64).toNat=Ce p (a+h) T:=by
    rw[vP,Amh,bitsOf _ _ _ hT8,<-hv];have:=Qy p T (a+h);have h2:2^T<=2^8:=Ak6 (by omega) hT8;omega
   have hlt2:=Qy p (h+T) a;rw[RW]at hlt2;have h64:2^(h+T)<=2^64:=Ak6 (by omega) (by omega);have hor:vM (Ra p a h) (Dp (Af (Er (Ck (p.getD ((a+h)/8) 0) ((a+h) %8)) (Ao (Dp (1:UInt8) T) (1:UInt8))):UInt64) h)=Ra p a (h+T):=by
    rw[Azu (by rw[AD p a h (by omega)];exact Qy p h a) (by rw[hx,Asu];omega),hx,AD p a h (by omega),Ra,RW,Asu (2^h)]
   rw[hor,Ah (by omega) (by omega),show(h:Int)+((T:Nat):Int)=((h+T:Nat):Int) by omega];exact Aok p N a n hn ha hp (j-T) (h+T) q (by omega) (by omega)
  ·rw[Aaf (by rw[Ae];simp;omega),show h=n by omega];rfl
theorem get_eq(p:List UInt8)(N:Int)(a n:Nat)(hn:n<=64)(ha:a+n<=8*p.length)(hp:p.length<=1000000):zF p N (a:Int) (n:Int)=some (Ra p a n):=by
 have:=Aok p N a n hn ha hp n 0 Au (by omega) (by have:=Aq;omega);exact this
theorem BJ{p:List UInt8}{n:Nat}(h:okB p n):Km p (n:Int)=some 0:=by
 obtain⟨h1,h2,h3⟩:=h;have e7:Ad (n:Int) 7=((n+7:Nat):Int):=by rw[Ah (by omega) (by omega)];omega
 rw[Km,e7,Bkj,Aaf (by simp[Ae,As,Al,Ac,h2];omega),Abj _ (by omega)];by_cases hz:n %8=0
 ·rw[Aaf (by rw[As];simp;omega)]
 ·have el:Ao (Ac p) 1=((p.length-1:Nat):Int):=by rw[Ac,Bs (by omega) (by omega)];omega
  rw[Aas (by rw[As];simp;omega),el,Ag0 (by omega),Aa,Bu (by rw[Ds];simp;omega),Aa];have z:(GI.toZ ((n %8:Nat):Int)).toNat=n %8:=rfl;have hs:Ck (p.getD (p.length-1) 0) (n %8)=0:=by
   apply UInt8.toNat_inj.1;rw[Al9];have hv:=gV p n (8-n %8) (by omega);have h0:Ce p n (8-n %8)=0:=Aad _ _ λk hk=>h3 _ (by omega) (by omega);rw[h0,show n/8=p.length-1 by omega]at hv;have hlt:(p.getD (p.length-1) 0).toNat/2^(n %8)<2^(8-n %8):=by
    have:=(p.getD (p.length-1) 0).toNat_lt;rw[Nat.div_lt_iff_lt_mul (Bl3 (by omega)),<-Bn5,show 8-n %8+n %8=8 by omega];simpa using this
   rw[Ac1 hlt]at hv;exact hv.symm
  rw[z,hs,Aaf (by rw[Arw];simp)]
theorem Aay{p:List UInt8}{N:Nat}(h:okB p N)(a n:Nat)(hn:n<=64):IX p (N:Int) (a:Int) (n:Int)=some (if N<a+n then(0,24)else(Ra p a n,0)):=by
 obtain⟨h1,h2,h3⟩:=h;rw[IX,BJ ⟨h1,h2,h3⟩,Aa,Aaf (by rw[Al];simp),Aaf (by simp[Ae,As];omega),Bs (by omega) (by omega)];by_cases hl:N<a+n
 ·rw[Aas (by rw[As];simp;omega),Aas hl]
 ·rw[Aaf (by rw[As];simp;omega),get_eq p N a n hn (by omega) (by omega),Aa,Aaf hl]
theorem Bmn(c:Nat)(h:c<4611686018427387904):Ca (c:Int) (2:Int)=((c/2:Nat):Int):=by
 rw[UU,Bik (by omega),Dg (by omega) (by omega)];omega
theorem Bkv(c:Nat)(h:c<4611686018427387904):Ca (c:Int) (8:Int)=((c/8:Nat):Int):=by
 rw[UU,Bik (by omega),Dg (by omega) (by omega)];omega
theorem Bbm(c:Nat):Gc (c:Int) (8:Int)=((c %8:Nat):Int):=by rw[Gc,Bj6 (by omega)];omega
theorem Bml(c:Nat):Gc (c:Int) (2:Int)=((c %2:Nat):Int):=by rw[Gc,Bj6 (by omega)];omega
theorem Auq(i c:Nat)(hc:c<256):∀(j k q:Nat),k+j=i %8->j<q->Qg (i:Int) q ((c/2^k:Nat):Int) (k:Int)=some (((c/2^(i %8) %2:Nat):Int))
 |0,k,q+1,hk,_=>by
  rw[Qg,FM,Bbm,Aaf (by rw[Ae];simp;omega),ZP,YG,Bml,show k=i %8 by omega]
 |j+1,k,q+1,hk,hq=>by
  have hle:c/2^k<=c:=Atx _ _;rw[Qg,FM,Bbm,Aas (by rw[Ae];simp;omega),Bmn _ (by omega),Ah (by omega) (by omega),Bl8,<-Ayu];exact Auq i c hc j (k+1) q (by omega) (by omega)
theorem Aaa(p:List UInt8)(N:Int)(i:Nat)(h:i/8<p.length)(hi:i<4611686018427387904):Nt p N (i:Int)=some ((Hp p i:Nat):Int):=by
 have hc:=(p.getD (i/8) 0).toNat_lt;have:=Auq i (p.getD (i/8) 0).toNat (by simpa using hc) (i %8) 0 Au (by omega) (by have:=Aq;omega);rw[Nt,ZW,Bkv _ hi,Ag0 h,Aa,XC,YO];simpa [Hp]using this
theorem Af7(p:List UInt8)(N:Int)(a n:Nat)(ha:a+n<=8*p.length)(hp:p.length<=1000000):∀(j q:Nat),j<=n->j<q->Lo (a:Int) p N q (Ra p (a+j) (n-j)) ((j:Int)-1)=some (Ra p a n)
 |0,q+1,_,_=>by
  rw[Lo,Yh,Aaf (by rw[Ds];simp)];rfl
 |j+1,q+1,hj,hq=>by
  have hb:=DR p (a+j);rw[Lo,Yh,show((j+1:Nat):Int)-1=(j:Int) by omega,Aas (by rw[Ds];simp),Ah (a:=(a:Int)) (by omega) (by omega),show(a:Int)+(j:Int)=((a+j:Nat):Int) by omega,Aaa p N (a+j) (by omega) (by omega),Aa,Bs (by omega) (by omega)];have e:Ad (Bg (2:UInt64) (Ra p (a+(j+1)) (n-(j+1)))) (Af ((Hp p (a+j):Nat):Int):UInt64)=Ra p (a+j) (n-j):=by
   rw[SQ,RJ,Xp,Ra,Ra,show n-j=(n-(j+1))+1 by omega,Ce,show a+j+1=a+(j+1) by omega,UInt64.ofNat_add,UInt64.ofNat_mul];exact UInt64.add_comm _ _
  rw[e];exact Af7 p N a n ha hp j q (by omega) (by omega)
theorem vN(p:List UInt8)(N:Int)(a n:Nat)(ha:a+n<=8*p.length)(hp:p.length<=1000000):Wb p N (a:Int) (n:Int)=some (Ra p a n):=by
 have:=Af7 p N a n ha hp n Au (Aob _) (by have:=Aq;omega);have hz:Ra p (a+n) (n-n)=0:=by rw[Nat.sub_self];rfl
 rw[hz]at this;rw[Wb,ND,NN,Bs (by omega) (by omega)];exact this
theorem Au6(bit:Int)(N:Nat)(l:List UInt8):∀(j k q:Nat),k+j=N %8->j<q->Of bit (N:Int) l q ((2^k:Nat):Int) (k:Int)=CQ bit ((2^(N %8):Nat):Int) (N:Int) l
 |0,k,q+1,hk,_=>by
  rw[Of,CR,Bbm,Aaf (by rw[Ae];simp;omega),show k=N %8 by omega]
 |j+1,k,q+1,hk,hq=>by
  have hp:2^k<=2^8:=Ak6 (by omega) (by omega);have e:Bg ((2^k:Nat):Int) 2=((2^(k+1):Nat):Int):=by
   rw[Ayu];generalize 2^k=K at*
   rw[Fc (by omega) (by omega)];omega
  rw[Of,CR,Bbm,Aas (by rw[Ae];simp;omega),e,Ah (by omega) (by omega)];exact Au6 bit N l j (k+1) q (by omega) (by omega)
theorem Aer(p:List UInt8)(a n j:Nat)(h:j<(n+7)/8):(Rw p a n)[j]'(by rw[Ki];exact h)=UInt8.ofNat (Ce p (a+8*j) (min 8 (n-8*j))):=by simp[Rw]
theorem xH(p:List UInt8)(a t:Nat)(h:t<=8):Ce p a t<256:=by
 have h1:=Qy p t a;have h2:2^t<=2^8:=Ak6 (by omega) h;omega
def room(p:List UInt8)(a n:Nat):List UInt8:=if n %8=0 then Rw p a n++[0]else Rw p a n
theorem Qc(p:List UInt8)(a n:Nat):(room p a n).length=n/8+1:=by
 rw[room];split<;>simp[Ki]<;>omega
theorem An3(p:List UInt8)(a n j:Nat)(h:j<n/8+1):(room p a n)[j]'(by rw[Qc];exact h)=UInt8.ofNat (Ce p (a+8*j) (min 8 (n-8*j))):=by
 have h0:(room p a n)[j]? =some (UInt8.ofNat (Ce p (a+8*j) (min 8 (n-8*j)))):=by
  rw[room];split
  ·by_cases hj:j<(n+7)/8
   ·rw[List.getElem?_append_left (by rw[Ki];exact hj),List.getElem?_eq_getElem (by rw[Ki];exact hj),Aer p a n j hj]
   ·rw[List.getElem?_append_right (by rw[Ki];omega),Ki,show j-(n+7)/8=0 by omega,show n-8*j=0 by omega];rfl
  ·rw[List.getElem?_eq_getElem (by rw[Ki];omega),Aer p a n j (by omega)]
 rw[List.getElem?_eq_getElem (by rw[Qc];exact h)]at h0;exact Axa h0
theorem zI(p:List UInt8)(a n T:Nat)(h1:1<=T)(h:n %8+T<=8):(room p a n).set (n/8) (UInt8.ofNat (Ce p (a+8*(n/8)) (n %8+T)))=Rw p a (n+T):=by
 apply Bdp (by rw[Bl9,Qc,Ki];omega);intro j g1 g2;rw[Bl9,Qc]at g1;rw[Boa,Aer p a (n+T) j (by rw[Ki]at g2;exact g2)];split
 ·rename_i e;subst e;rw[show min 8 (n+T-8*(n/8))=n %8+T by omega]
 ·rw[An3 p a n j g1,show min 8 (n-8*j)=8 by omega,show min 8 (n+T-8*j)=8 by omega]
theorem sO(p:List UInt8)(a n:Nat):(room p a n)[n/8]'(by rw[Qc];omega)=UInt8.ofNat (Ce p (a+8*(n/8)) (n %8)):=by
 rw[An3 p a n _ (by omega),show min 8 (n-8*(n/8))=n %8 by omega]
theorem Ay5(p:List UInt8)(a n:Nat)(hn:n<=400000):BT (Rw p a n) (n:Int) ((Hp p (a+n):Nat):Int)=some (Rw p a (n+1),((n+1:Nat):Int)):=by
 have hb:=DR p (a+n);have hp:2^(n %8)<=2^7:=Ak6 (by omega) (by omega);have hroom:BT (Rw p a n) (n:Int) ((Hp p (a+n):Nat):Int)=CP ((Hp p (a+n):Nat):Int) (n:Int) (room p a n):=by
  rw[BT,VX,Bbm,room];by_cases h0:n %8=0
  ·rw[Aas (by rw[Ar,h0];rfl),Bd (by rw[Ki];simp;omega),Aa,Aas h0]
  ·rw[Aaf (by rw[Ar];simp;omega),Aaf h0]
 have hl:=Au6 ((Hp p (a+n):Nat):Int) n (room p a n) (n %8) 0 Au (by omega) (by have:=Aq;omega);rw[hroom,CP,VW,VV];refine Bj5 hl ?_;have hg:Ap (room p a n) ((n/8:Nat):Int)=some (UInt8.ofNat (Ce p (a+8*(n/8)) (n %8))):=by
  rw[Bm (by rw[Qc];omega),sO]
 have hlt:=xH p (a+8*(n/8)) (n %8+1) (by omega);have hsn:=sL p (a+8*(n/8)) (n %8);rw[show a+8*(n/8)+n %8=a+n by omega]at hsn;have hm:Bg ((Hp p (a+n):Nat):Int) ((2^(n %8):Nat):Int)=((2^(n %8)*Hp p (a+n):Nat):Int):=by
  have hle:2^(n %8)*Hp p (a+n)<=2^7*1:=Bds hp (by omega);rw[Bb2,<-Ara,Dg (by omega) (by rw[Asu];omega),Asu]
 have hx:Ad (UInt8.ofNat (Ce p (a+8*(n/8)) (n %8))) (Af (((2^(n %8)*Hp p (a+n):Nat):Int)):UInt8)=UInt8.ofNat (Ce p (a+8*(n/8)) (n %8+1)):=by
  rw[Bgf,Bbe,hsn,UInt8.ofNat_add]
 rw[CQ,VE,Bkv _ (by omega),hg,Aa,Aa,Aa,hm,hx,Wf _ (by rw[Qc];omega),Aa,zI p a n 1 (by omega) (by omega),Ah (by omega) (by omega)];rfl
theorem yG(p:List UInt8)(N:Int)(a n:Nat)(ha:a+n<=8*p.length)(hp:p.length<=1000000)(hn:n<=300000):∀(j m q:Nat),m+j=n->j<q->Jj ((a+n:Nat):Int) p N q ((a+m:Nat):Int) (m:Int) (Rw p a m)=some (Rw p a n,(n:Int))
 |0,m,q+1,hm,_=>by
  rw[Jj,Uw,Aaf (by rw[Ae];simp;omega),show m=n by omega];rfl
 |j+1,m,q+1,hm,hq=>by
  rw[Jj,Uw,Aas (by rw[Ae];simp;omega),Aaa p N (a+m) (by omega) (by omega),Aa,Ay5 p a m (by omega),Aa];simp only;rw[Ah (by omega) (by omega)];exact yG p N a n ha hp hn j (m+1) q (by omega) (by omega)
theorem Aql(p:List UInt8)(N:Int)(a n:Nat)(ha:a+n<=8*p.length)(hp:p.length<=1000000)(hn:n<=300000):RB p N (a:Int) ((a+n:Nat):Int)=some (Rw p a n,(n:Int)):=by
 have:=yG p N a n ha hp hn n 0 Au (by omega) (by have:=Aq;omega);exact this
theorem Bi5{t:Nat}(h:t<=8):Ao (Dp (1:UInt64) t) (1:UInt64)=UInt64.ofNat (2^t-1):=by
 have:t=0\/t=1\/t=2\/t=3\/t=4\/t=5\/t=6\/t=7\/t=8:=by omega
 rcases this with rfl|rfl|rfl|rfl|rfl|rfl|rfl|rfl|rfl<;>decide
theorem Bks(v:UInt64){t:Nat}(h:t<=8):(Er v (Ao (Dp (1:UInt64) t) (1:UInt64))).toNat=v.toNat %2^t:=by
 have hp:2^t<=2^8:=Ak6 (by omega) h;rw[Bi5 h,xU,Bok,Amh,Ac1 (by have:=Bl3 (n:=t) (show 0<2 by omega);omega),Bl7]
theorem or8{v w i:Nat}(hv:v<2^i)(hw:w*2^i<256)(hi:i<8):vM (UInt8.ofNat v) (Dp (UInt8.ofNat w) i)=UInt8.ofNat (v+w*2^i):=by
 have hp:2^i<=2^8:=Ak6 (by omega) (by omega);have hpos:0<2^i:=Bl3 (by omega);have hw2:w<256:=Bk0 (Bn7 w hpos) hw;rw[Bjh];apply UInt8.toNat_inj.1;have e1:(UInt8.ofNat v).toNat=v:=by rw[Aq6,Ac1 (by omega)]
 have e2:(UInt8.ofNat w).toNat=w:=by rw[Aq6,Ac1 (by omega)]
 rw[UInt8.toNat_or,Ber,e1,e2,Ac1 hw,Asu w,Nat.or_comm,<-Bg2 hv,Aq6,Bmz v];rw[Asu]at hw;have hb:2^i*w+v<256:=by
  rw[Bg2 hv];exact Nat.or_lt_two_pow (n:=8) hw (by omega)
 rw[Ac1 hb]
theorem Aoi(p:List UInt8)(a n T:Nat)(h:T<=n)(hn:n<=64):Ck (Ra p a n) T=Ra p (a+T) (n-T):=by
 apply UInt64.toNat_inj.1;rw[DN,AD p a n hn,AD p (a+T) (n-T) (by omega)];have:=Qy p T a
 conv=>lhs;rw[show n=T+(n-T) by omega,RW,Nat.add_mul_div_left _ _ (Bl3 (by omega)),Bkq this,Bdf]
theorem Aq2(p:List UInt8)(a n T:Nat)(h:T<=n)(hn:n<=64):(Ra p a n).toNat %2^T=Ce p a T:=by
 have:=Qy p T a;rw[AD p a n hn]
 conv=>lhs;rw[show n=T+(n-T) by omega,RW,Nat.add_mul_mod_self_left,Ac1 this]
theorem Afn(bk:Int->Int->List UInt8->Option (List UInt8×Int×Int))(to':Int)(p:List UInt8)(N fr:Int)(r6:UInt64)(a:Nat):∀(j m q:Nat),m+j<=300000->j<=64->j<q->
  Rz bk to' p N fr r6 q (Ra p (a+m) j) (j:Int) (m:Int) (Rw p a m)=WB bk to' p N fr ((m+j:Nat):Int) (Rw p a (m+j))
 |0,m,q+1,_,_,_=>by
  rw[Rz,WQ,Aaf (by rw[As];simp)];rfl
 |j+1,m,q+1,hm,hj,hq=>by
  have hroom:Rz bk to' p N fr r6 (q+1) (Ra p (a+m) (j+1)) ((j+1:Nat):Int) (m:Int) (Rw p a m)=WN (Rz bk to' p N fr r6 q) to' fr p N r6 (Ra p (a+m) (j+1)) ((j+1:Nat):Int) (m:Int) (room p a m):=by
   rw[Rz,WQ,Aas (by rw[As];simp),Abj m (by omega),room];by_cases h0:m %8=0
   ·rw[Aas (by rw[Ar,h0];rfl),Bd (by rw[Ki];simp;omega),Aa,Aas h0]
   ·rw[Aaf (by rw[Ar];simp;omega),Aaf h0]
  have hl:Ao (Ac (room p a m)) 1=((m/8:Nat):Int):=by
   rw[Ac,Qc,Bs (by omega) (by omega)];omega
  have e2:Fk ((j+1:Nat):Int) (Ao (8:Int) ((m %8:Nat):Int))=((min (j+1) (8-m %8):Nat):Int):=by
   rw[PL,Bs (by omega) (by omega)];omega
  rw[hroom,WN,jS,Abj m (by omega),e2,hl];generalize hT:min (j+1) (8-m %8)=T;have hT1:1<=T:=by omega
  have hT8:m %8+T<=8:=by omega
  have hg:Ap (room p a m) ((m/8:Nat):Int)=some (UInt8.ofNat (Ce p (a+8*(m/8)) (m %8))):=by
   rw[Bm (by rw[Qc];omega),sO]
  have z1:(GI.toZ ((m %8:Nat):Int)).toNat=m %8:=rfl;have z2:(GI.toZ ((T:Nat):Int)).toNat=T:=rfl;have hlt:=xH p (a+8*(m/8)) (m %8+T) (by omega);have hadd:=RW p (m %8) T (a+8*(m/8));rw[show a+8*(m/8)+m %8=a+m by omega]at hadd;have hbyte:(Af (Er (Ra p (a+m) (j+1)) (Ao (Dp (1:UInt64) T) (1:UInt64))):UInt8)=UInt8.ofNat (Ce p (a+m) T):=by
   rw[ZM,Bks _ (by omega),Aq2 p (a+m) (j+1) T (by omega) hj]
  have hnew:vM (UInt8.ofNat (Ce p (a+8*(m/8)) (m %8))) (Dp (UInt8.ofNat (Ce p (a+m) T)) (m %8))=UInt8.ofNat (Ce p (a+8*(m/8)) (m %8+T)):=by
   rw[or8 (Qy _ _ _) (by rw[Asu];omega) (by omega),hadd,Asu (2^(m %8))]
  rw[hg,z1,z2,hbyte];simp only[Aa];rw[Bu (by rw[Ds];simp),Aa,Bu (by rw[Ds];simp;omega),Aa,hnew,Wf _ (by rw[Qc];omega),Aa,zI p a m T hT1 hT8,jP,wW,Abj m (by omega),e2,hT,Bu (by rw[Ds];simp),Aa,z2,Aoi p (a+m) (j+1) T (by omega) hj,Bs (by omega) (by omega),Ah (by omega) (by omega)];have ih:=Afn bk to' p N fr r6 a (j+1-T) (m+T) q (by omega) (by omega) (by omega);rw[show m+T+(j+1-T)=m+(j+1) by omega]at ih;rw[<-ih,show a+m+T=a+(m+T) by omega,show((j+1:Nat):Int)-((T:Nat):Int)=((j+1-T:Nat):Int) by omega,show(m:Int)+((T:Nat):Int)=((m+T:Nat):Int) by omega]
theorem Anr(p:List UInt8)(N:Int)(a n:Nat)(ha:a+n<=8*p.length)(hp:p.length<=1000000)(hn:n<=300000):∀(j m f q:Nat),(f=m\/n<=f/\m=n)->m+j=n->f<=n+64->j<q->BQ ((a+n:Nat):Int) p N q ((a+f:Nat):Int) (m:Int) (Rw p a m)=some (Rw p a n,(n:Int),0)
 |j,m,f,q+1,hf,hm,hf2,hq=>by
  rw[BQ,iY];by_cases hlt:f<n
  ·obtain rfl:f=m:=by omega
   have e1:Fk (64:Int) (Ao ((a+n:Nat):Int) ((a+f:Nat):Int))=((min 64 (n-f):Nat):Int):=by
    rw[PL,Bs (by omega) (by omega)];omega
   rw[Aas (by rw[Ae];simp;omega),e1,get_eq p N (a+f) _ (by omega) (by omega) hp,Aa,lL];have h1:=Afn (BQ ((a+n:Nat):Int) p N q) ((a+n:Nat):Int) p N ((a+f:Nat):Int) (Ra p (a+f) (min 64 (n-f))) a (min 64 (n-f)) f Au (by omega) (by omega) (by have:=Aq;omega);refine Bj5 h1 ?_;rw[WB,wO,Ah (by omega) (by omega),show((a+f:Nat):Int)+64=((a+(f+64):Nat):Int) by omega];exact Anr p N a n ha hp hn (j-min 64 (n-f)) (f+min 64 (n-f)) (f+64) q (by omega) (by omega) (by omega) (by omega)
  ·rw[Aaf (by rw[Ae];simp;omega),lJ,xW,show m=n by omega]
theorem Bi8{p:List UInt8}{N:Nat}(h:okB p N)(a n:Nat)(ha:a+n<=N)(hn:n<=300000):pW p (N:Int) (a:Int) ((a+n:Nat):Int)=some (Rw p a n,(n:Int),0):=by
 obtain⟨h1,h2,h3⟩:=h;have:=Anr p N a n (by omega) (by omega) hn n 0 0 Au (by omega) (by omega) (by omega) (by have:=Aq;omega);rw[pW,pF,BJ ⟨h1,h2,h3⟩,Aa,Aaf (by rw[Al];simp),Aaf (by simp[Ae,As];omega),kX];exact this
def Gx(p:List UInt8):Nat->Nat->Nat
 |_,0=>0
 |a,m+1=>if Hp p a=1 then 1+Gx p (a+1) m else 0
theorem bQ(p:List UInt8):∀(m a:Nat),Gx p a m<=m
 |0,_=>Aob _
 |m+1,a=>by rw[Gx];split<;>have:=bQ p m (a+1)<;>omega
theorem Apy(p:List UInt8):∀(m a:Nat),∃s,Ce p a m+1=2^(Gx p a m+1)*s+2^Gx p a m/\ (Gx p a m=m->s=0)
 |0,a=>⟨0,by simp[Ce,Gx],λ_=>rfl⟩
 |m+1,a=>by
  have hb:=DR p a;obtain⟨s,h1,h2⟩:=Apy p m (a+1);by_cases h:Hp p a=1
  ·refine⟨s,?_,λe=>h2 ?_⟩
   ·rw[Gx,Aas h,Ce,h,show 1+Gx p (a+1) m+1=(Gx p (a+1) m+1)+1 by omega,show 1+Gx p (a+1) m=Gx p (a+1) m+1 by omega,Ayu,Ayu (n:=2) (m:=Gx p (a+1) m)];rw[Ayu]at h1;generalize Ce p (a+1) m=V at*
    generalize 2^Gx p (a+1) m=W at*
    have e1:W*2*2*s=2*(W*2*s):=by rw[Nat.mul_right_comm (W*2) 2 s,Asu]
    omega
   ·rw[Gx,Aas h]at e;omega
  ·refine⟨Ce p (a+1) m,?_,λe=>?_⟩
   ·rw[Gx,Aaf h,Ce];simp;omega
   ·rw[Gx,Aaf h]at e;omega
theorem Bew{n t s:Nat}(h:2^(t+1)*s+2^t<=2^n)(ht:t<n)(x:Nat)(hx:x=2^n-(2^(t+1)*s+2^t)):x&&& (2^(t+1)*s+2^t)=2^t:=by
 have hpos:0<2^t:=Bl3 (by omega);have hlt:2^t<2^(t+1):=by rw[Ayu];omega
 have e:x=2^n-((2^(t+1)*s+(2^t-1))+1):=by rw[hx];congr 1;omega
 apply Nat.eq_of_testBit_eq;intro i;rw[Nat.testBit_and,e,Nat.testBit_two_pow_sub_succ (by omega),Nat.testBit_two_pow_mul_add _ (by omega),Nat.testBit_two_pow_mul_add _ hlt];by_cases hi:i<t+1
 ·rw[Aas hi,Aas hi,Nat.testBit_two_pow_sub_one,Nat.testBit_two_pow];by_cases hit:t=i
  ·subst hit;simp;exact ht
  ·have:¬i=t:=λe=>hit e.symm;simp[hit]
 ·rw[Aaf hi,Aaf hi,Nat.testBit_two_pow];have:¬t=i:=by omega
  simp[this]
theorem Ba1(a:UInt64):(Agb a).toNat=18446744073709551615-a.toNat:=by
 have h:=a.toNat_lt;have e:Agb a=UInt64.ofNat (BitVec.ofInt 64 18446744073709551615^^^BitVec.ofInt 64 (a.toNat:Int)).toNat:=Jp _;have h1:BitVec.ofInt 64 (a.toNat:Int)=a.toBitVec:=Alz a;have h2:(BitVec.ofInt 64 18446744073709551615:BitVec 64)=BitVec.allOnes 64:=by decide
 rw[e,Amh,h1,h2,BitVec.allOnes_xor,BitVec.toNat_not];show(18446744073709551616-1-a.toNat) %18446744073709551616=18446744073709551615-a.toNat;omega
theorem Ba3(a:UInt64):(yP a).toNat=(18446744073709551616-a.toNat) %18446744073709551616:=by
 have h:=a.toNat_lt;have e:yP a=UInt64.ofNat ((0-(a.toNat:Int)) %18446744073709551616).toNat:=Ak5 _;rw[e,Amh];show((0-(a.toNat:Int)) %18446744073709551616).toNat %18446744073709551616=_;omega
def Bkk:List UInt8:=[0,1,56,2,57,49,28,3,61,58,42,50,38,29,17,4,62,47,59,36,45,43,51,22,53,39,33,30,24,18,12,5,63,55,48,27,60,41,37,16,46,35,44,21,52,32,23,11,54,26,40,15,34,20,31,10,25,14,19,9,13,8,7,6]
theorem Ax0:∀t:Fin 64,Ap Bkk (GI.toZ (Ck (Bg (UInt64.ofNat (2^t.val)) (285870213051353865:UInt64)) (GI.toZ (58:UInt64)).toNat))=some (UInt8.ofNat t.val):=by decide +kernel
theorem Bke(x:UInt64)(t s:Nat)(ht:t<64)(h:x.toNat+(2^(t+1)*s+2^t)=18446744073709551616):Hw x=some (t:Int):=by
 have hpos:0<2^t:=Bl3 (by omega);have hx:x.toNat=2^64-(2^(t+1)*s+2^t):=by show x.toNat=18446744073709551616-_;omega
 have hle:2^t<=2^63:=Ak6 (by omega) (by omega);have hne:x≠0:=by
  intro e;rw[e]at h;have h':2^t*(2*s+1)=2^64:=by
   rw[Nat.mul_add,Nat.mul_one,<-Bc9,<-Ayu]
   show _=18446744073709551616;simpa using h
  have h2:2^64=2^t*2^(64-t):=by rw[<-Bn5];congr 1;omega
  rw[h2]at h';have h3:=Nat.eq_of_mul_eq_mul_left hpos h';rw[show 64-t=(63-t)+1 by omega,Ayu]at h3;omega
 have hx0:x.toNat≠0:=λe=>hne (UInt64.toNat_inj.1 e);have hl:Er x (yP x)=UInt64.ofNat (2^t):=by
  apply UInt64.toNat_inj.1;rw[xU,Bok,Ba3,show(18446744073709551616-x.toNat) %18446744073709551616=2^(t+1)*s+2^t by omega,Bew (n:=64) (by show _<=18446744073709551616;omega) ht _ hx,Amh,Ac1];exact Bk0 hle (by decide)
 have hb:=Ax0 ⟨t,ht⟩;rw[Hw,Aaf (by rw[zD];simpa using hne),hl];refine Bj5 (congrArg (λo=>Option.bind o λc=>some (Af c:Int)) hb) ?_;rw[Aa,XC,Aq6,Ac1 (by show t<256;omega)]
theorem Bdw(p:List UInt8)(a m:Nat)(hm:m<=48):Hw (Agb (Ra p a m))=some ((Gx p a m:Nat):Int):=by
 obtain⟨s,h1,h2⟩:=Apy p m a;have hle:=bQ p m a;have hlt:=Qy p m a;have h48:2^m<=2^48:=Ak6 (by omega) hm;have hn:(Agb (Ra p a m)).toNat=18446744073709551615-Ce p a m:=by rw[Ba1,AD p a m (by omega)]
 have h3:(281474976710656:Nat)=2^48:=rfl;refine Bke _ (Gx p a m) s (by omega) ?_;rw[hn];omega
def unS(p:List UInt8)(N a:Nat):Int×Int×Int:=
 if Gx p a (min 48 (N-a))<min 48 (N-a)then((Gx p a (min 48 (N-a)):Nat),((a+Gx p a (min 48 (N-a))+1:Nat):Int),0)else
 if Gx p a (min 48 (N-a))=48 then(48,((a+48:Nat):Int),0)else(0,0,24)
theorem Bax{p:List UInt8}{N:Nat}(h:okB p N)(a:Nat)(ha:a<N):PN p (N:Int) (a:Int)=some (unS p N a):=by
 have hN:=h.1;have e1:Fk (48:Int) (Ao (N:Int) (a:Int))=((min 48 (N-a):Nat):Int):=by rw[PL,Bs (by omega) (by omega)];omega
 have hle:=bQ p (min 48 (N-a)) a;rw[PN,DQ,BJ h,Aa,Aaf (by rw[Al];simp),Aaf (by rw[Ae];simp),Aaf (by rw[Ds];simp;omega),e1,Aay h a _ (by omega),Aaf (by omega),Aa];simp only;rw[eS,dR,Aaf (by rw[Al];simp),Bdw p a _ (by omega),Aa,eP,dG,e1,unS];by_cases h1:Gx p a (min 48 (N-a))<min 48 (N-a)
 ·rw[Aas (by rw[Ae];simp;omega),Aas h1,Ah (a:=(a:Int)) (by omega) (by omega),show Ad (0:Int) 1=1 by decide,Ah (by omega) (by omega)];congr 3;omega
 ·rw[Aaf (by rw[Ae];simp;omega),Aaf h1,eD,dL];by_cases h2:Gx p a (min 48 (N-a))=48
  ·rw[Aas (by rw[Ar,h2];rfl),Aas h2,h2,Ah (a:=(a:Int)) (by omega) (by omega),Ah (by omega) (by omega)];congr 3;omega
  ·rw[Aaf (by rw[Ar];simp;omega),Aaf h2];rfl
theorem Aio(p:List UInt8):∀(m a:Nat),Gx p a m<m->Hp p (a+Gx p a m)≠1
 |0,_,h=>by simp[Gx]at h
 |m+1,a,h=>by
  by_cases hb:Hp p a=1
  ·rw[Gx,Aas hb]at h⊢;have:=Aio p m (a+1) (by omega);rwa [show a+(1+Gx p (a+1) m)=a+1+Gx p (a+1) m by omega]
  ·rw[Gx,Aaf hb];exact hb
theorem Ai1(p:List UInt8):∀(m a k:Nat),k<Gx p a m->Hp p (a+k)=1
 |0,a,k,h=>by simp[Gx]at h
 |m+1,a,k,h=>by
  by_cases hb:Hp p a=1
  ·rw[Gx,Aas hb]at h;cases k with
   |zero=>exact hb
   |succ k=>
    have:=Ai1 p m (a+1) k (by omega);rwa [show a+(k+1)=a+1+k by omega]
  ·rw[Gx,Aaf hb]at h;omega
def unR(p:List UInt8)(N a:Nat):Int×Int:=if(unS p N a).2.2=0 then((unS p N a).1,(unS p N a).2.1)else(-1,0)
theorem Ae4{p:List UInt8}{N:Nat}(h:okB p N)(a:Nat)(ha:a<N):∀(j k q:Nat),k+j=Gx p a (min 48 (N-a))->j<q->Oc (a:Int) p (N:Int) q (k:Int)=some (unR p N a)
 |0,k,q+1,hk,_=>by
  obtain⟨hN,hl,hz⟩:=h;have hle:=bQ p (min 48 (N-a)) a;have hk':k=Gx p a (min 48 (N-a)):=by omega
  have e1:Ad (a:Int) (k:Int)=((a+k:Nat):Int):=by rw[Ah (by omega) (by omega)];omega
  have hend:DD (a:Int) (k:Int) p (N:Int)=some (unR p N a):=by
   rw[DD,VJ,e1];by_cases h48:k=48
   ·have hu:unS p N a=(48,((a+48:Nat):Int),0):=by rw[unS,<-hk',Aaf (by omega),Aas h48]
    rw[Aas (by rw[Ar,h48];rfl),unR,hu,h48];rfl
   ·rw[Aaf (by rw[Ar];simp;omega)];by_cases hN2:N<=a+k
    ·have hu:unS p N a=(0,0,24):=by rw[unS,<-hk',Aaf (by omega),Aaf h48]
     rw[Aas (by rw[Ds];simp;omega),unR,hu];rfl
    ·have hu:unS p N a=(((k:Nat):Int),((a+k+1:Nat):Int),0):=by rw[unS,<-hk',Aas (by omega)]
     rw[Aaf (by rw[Ds];simp;omega),unR,hu,Ah (by omega) (by omega)];rfl
  rw[Oc,CC,e1];by_cases hc:a+k<N/\k<48
  ·have hb:=DR p (a+k);have hs:=Aio p (min 48 (N-a)) a (by omega);rw[<-hk']at hs;rw[Aas (by simp[Ae];omega),Aaa p _ (a+k) (by omega) (by omega),Aa,Aaf (by rw[Ar];simp;omega),hend]
  ·rw[Aaf (by simp[Ae];omega),hend]
 |j+1,k,q+1,hk,hq=>by
  obtain⟨hN,hl,hz⟩:=h;have hle:=bQ p (min 48 (N-a)) a;have hb:=Ai1 p (min 48 (N-a)) a k (by omega);have e1:Ad (a:Int) (k:Int)=((a+k:Nat):Int):=by rw[Ah (by omega) (by omega)];omega
  rw[Oc,CC,e1,Aas (by simp[Ae];omega),Aaa p _ (a+k) (by omega) (by omega),Aa,hb,Aas (by decide),Ah (by omega) (by omega)];exact Ae4 ⟨hN,hl,hz⟩ a ha j (k+1) q (by omega) (by omega)
theorem Bag{p:List UInt8}{N:Nat}(h:okB p N)(a:Nat)(ha:a<N):fA p (N:Int) (a:Int)=some (unR p N a):=by
 have hle:=bQ p (min 48 (N-a)) a;have:=Ae4 h a ha (Gx p a (min 48 (N-a))) 0 Au (by omega) (by have:=Aq;omega);exact this
theorem Azm{p:List UInt8}{N a:Nat}(h:Gx p a (min 48 (N-a))<min 48 (N-a)):unS p N a=(((Gx p a (min 48 (N-a)):Nat):Int),((a+Gx p a (min 48 (N-a))+1:Nat):Int),0):=by rw[unS,Aas h]
theorem Azb{p:List UInt8}{N a:Nat}(h:¬Gx p a (min 48 (N-a))<min 48 (N-a))(h2:Gx p a (min 48 (N-a))=48):unS p N a=(48,((a+48:Nat):Int),0):=by rw[unS,Aaf h,Aas h2]
theorem Ay4{p:List UInt8}{N a:Nat}(h:¬Gx p a (min 48 (N-a))<min 48 (N-a))(h2:¬Gx p a (min 48 (N-a))=48):unS p N a=(0,0,24):=by rw[unS,Aaf h,Aaf h2]
theorem Awb{p:List UInt8}{N:Nat}(h:okB p N)(a:Nat)(ha:N<=a):PN p (N:Int) (a:Int)=some (0,0,24):=by
 rw[PN,DQ,BJ h,Aa,Aaf (by rw[Al];simp),Aaf (by rw[Ae];simp),Aas (by rw[Ds];simp;omega)]
def XX(p:List UInt8)(N a k:Nat):UInt32×Int×Int:=
 if N<=a then(0,0,24)else
 if Gx p a (min 48 (N-a))<min 48 (N-a)then
  (if N<a+Gx p a (min 48 (N-a))+1+k then(0,0,24)else(UInt32.ofNat (Gx p a (min 48 (N-a))*2^k+Ce p (a+Gx p a (min 48 (N-a))+1) k),((a+Gx p a (min 48 (N-a))+1+k:Nat):Int),0))
 else if Gx p a (min 48 (N-a))=48 then
  (if N<a+48+32 then(0,0,24)else if Ce p (a+48) 32/2^k<48 then(0,0,12)else(UInt32.ofNat (Ce p (a+48) 32),((a+48+32:Nat):Int),0))
 else(0,0,24)
theorem xE{p:List UInt8}{a n:Nat}(h:n<=32):(Af (Ra p a n):UInt32)=UInt32.ofNat (Ce p a n):=by
 have e:(Af (Ra p a n):UInt32)=UInt32.ofNat (Ra p a n).toNat:=by simp only[Af,Lj,Gg]
 rw[e,AD p a n (by omega)]
theorem cY{n:Nat}(h:n<4294967296):(UInt32.ofNat n).toNat=n:=by rw[Anh];exact Ac1 h
theorem Ao7(p:List UInt8)(a:Nat){n:Nat}(h:n<=32):Ce p a n<4294967296:=by
 have h1:=Qy p n a;have h2:2^n<=2^32:=Ak6 (by omega) h;omega
theorem Bhx{q v k:Nat}(hq:q<48)(hv:v<2^k)(hk:k<=24):vM (Dp (Af (q:Int):UInt32) k) (UInt32.ofNat v)=UInt32.ofNat (q*2^k+v):=by
 have hp:2^k<=2^24:=Ak6 (by omega) hk;have h1:q*2^k<=47*2^24:=Bds (by omega) hp;rw[Bdr];apply UInt32.toNat_inj.1;rw[UInt32.toNat_or,qE,Aiu,cY (by omega),cY (n:=v) (by omega),Ac1 (by omega),Asu q,<-Bg2 hv,cY (by rw[Asu];omega)]
theorem Bdx{p:List UInt8}{N:Nat}(h:okB p N)(a k:Nat)(hk:k<=24):sU p (N:Int) (a:Int) (k:Int)=some (XX p N a k):=by
 have hN:=h.1;rw[sU,jA,BJ h,Aa,Aaf (by rw[Al];simp),Aaf (by simp[Ae,As];omega)];by_cases ha:N<=a
 ·rw[Awb h a ha,Aa,XX,Aas ha];rfl
 have hle:=bQ p (min 48 (N-a)) a;rw[Bax h a (by omega),Aa];by_cases h1:Gx p a (min 48 (N-a))<min 48 (N-a)
 ·have hS:XX p N a k=if N<a+Gx p a (min 48 (N-a))+1+k then(0,0,24)else(UInt32.ofNat (Gx p a (min 48 (N-a))*2^k+Ce p (a+Gx p a (min 48 (N-a))+1) k),((a+Gx p a (min 48 (N-a))+1+k:Nat):Int),0):=by rw[XX,Aaf ha,Aas h1]
  rw[Azm h1,hS];generalize Gx p a (min 48 (N-a))=q at*
  simp only;rw[Aaf (by rw[Al];simp),Aaf (by rw[Ar];simp;omega),WY,kW,Aay h _ k (by omega),Aa];by_cases h2:N<a+q+1+k
  ·rw[Aas h2,Aas h2];rfl
  ·rw[Aaf h2,Aaf h2];simp only;have z:(GI.toZ (k:Int)).toNat=k:=rfl;rw[Aaf (by rw[Al];simp),Aas (by rw[Ae];simp;omega),Bu (by rw[Ds];simp),Aa,z,xE (by omega),Bhx (by omega) (Qy _ _ _) hk,Ah (by omega) (by omega)];rfl
 ·by_cases h2:Gx p a (min 48 (N-a))=48
  ·have hS:XX p N a k=if N<a+48+32 then(0,0,24)else if Ce p (a+48) 32/2^k<48 then(0,0,12)else(UInt32.ofNat (Ce p (a+48) 32),((a+48+32:Nat):Int),0):=by rw[XX,Aaf ha,Aaf h1,Aas h2]
   have hg:=Aay h (a+48) 32 (by omega);rw[Azb h1 h2,hS];simp only;rw[Aaf (by rw[Al];simp),Aas (by rw[Ar];rfl),WY,kW];refine Bj5 (congrArg (λo=>Option.bind o _) hg) ?_;rw[Aa];by_cases h3:N<a+48+32
   ·rw[Aas h3,Aas h3];rfl
   ·rw[Aaf h3,Aaf h3];simp only;have z:(GI.toZ (k:Int)).toNat=k:=rfl;have hv:=Ao7 p (a+48) (n:=32) (by omega);rw[Aaf (by rw[Al];simp),Aaf (by rw[Ae];simp),BN,Bu (by rw[Ds];simp),Aa,Aa,z,xE (by omega),Avw];have e:(decide ((48:UInt32).toNat<= (Ck (UInt32.ofNat (Ce p (a+48) 32)) k).toNat))=decide (¬Ce p (a+48) 32/2^k<48):=by
     rw[SD,cY hv];simp
    rw[e];by_cases h4:Ce p (a+48) 32/2^k<48
    ·rw[Aas (by simp[h4]),Aas h4]
    ·rw[Aaf (by simp;omega),Aaf h4,Ah (by omega) (by omega)];rfl
  ·rw[Ay4 h1 h2,XX,Aaf ha,Aaf h1,Aaf h2];rfl
theorem Ahl(k:Nat)(hk:k<=63):∀(j i q:Nat),i+j=k->j<q->Lr (k:Int) q (UInt64.ofNat (2^i)) (i:Int)=some (UInt64.ofNat (2^k))
 |0,i,q+1,hi,_=>by
  rw[Lr,Xs,Aaf (by rw[Ae];simp;omega),show i=k by omega];rfl
 |j+1,i,q+1,hi,hq=>by
  have e:Bg (UInt64.ofNat (2^i)) (2:UInt64)=UInt64.ofNat (2^(i+1)):=by
   rw[RJ,Ayu,UInt64.ofNat_mul];rfl
  rw[Lr,Xs,Aas (by rw[Ae];simp;omega),Ah (by omega) (by omega),e];exact Ahl k hk j (i+1) q (by omega) (by omega)
theorem RP(k:Nat)(hk:k<=63):Hj (k:Int)=some (UInt64.ofNat (2^k)):=
 Ahl k hk k 0 Au (by omega) (by have:=Aq;omega)
theorem cP{k:Nat}(hk:k<=63):(UInt64.ofNat (2^k)).toNat=2^k:=by
 have hp:2^k<=2^63:=Ak6 (by omega) hk;rw[Amh,Ac1 (by omega)]
theorem Bfa(v:UInt32)(k:Nat)(hk:k<=24):LN v (k:Int)=some ((min 48 (v.toNat/2^k):Nat):Int):=by
 have hpos:0<2^k:=Bl3 (by omega);have hv:=v.toNat_lt;rw[LN,RP k (by omega),Aa,Bu (by rw[WC];simp only[Bn2,ne_eq,<-Bne,cP (show k<=63 by omega)];simp),Aa];have e:(Ca (Af v:UInt64) (UInt64.ofNat (2^k))).toNat=v.toNat/2^k:=by
  rw[yE,Bn9,Dt,cP (by omega),Amh,Ac1 (by omega)]
 have hle:v.toNat/2^k<=v.toNat:=Atx _ _;have e2:Fk (48:UInt64) (Ca (Af v:UInt64) (UInt64.ofNat (2^k)))=UInt64.ofNat (min 48 (v.toNat/2^k)):=by
  apply UInt64.toNat_inj.1;rw[Amh,Ac1 (by omega)];show(if _ then _ else _:UInt64).toNat=_;rw[show(GI.toZ (Ca (Af v:UInt64) (UInt64.ofNat (2^k))))=((v.toNat/2^k:Nat):Int) by rw[Lj,e],show GI.toZ (48:UInt64)=48 from rfl];split
  ·rw[e];omega
  ·show 48=_;omega
 rw[e2,Aax (by rw[Amh,Ac1]<;>omega),Amh,Ac1 (by omega)]
theorem Azd{p:List UInt8}{N:Nat}(h:okB p N)(a k:Nat)(hk:k<=24):OM p (N:Int) (a:Int) (k:Int)=some (XX p N a k):=by
 obtain⟨hN,hl,hz⟩:=h;have h:okB p N:=⟨hN,hl,hz⟩;rw[OM,VF];by_cases ha:N<=a
 ·rw[Aas (by rw[Ds];simp;omega),XX,Aas ha]
 have hle:=bQ p (min 48 (N-a)) a;rw[Aaf (by rw[Ds];simp;omega),Bag h a (by omega),Aa,unR];by_cases h1:Gx p a (min 48 (N-a))<min 48 (N-a)
 ·have hS:XX p N a k=if N<a+Gx p a (min 48 (N-a))+1+k then(0,0,24)else(UInt32.ofNat (Gx p a (min 48 (N-a))*2^k+Ce p (a+Gx p a (min 48 (N-a))+1) k),((a+Gx p a (min 48 (N-a))+1+k:Nat):Int),0):=by rw[XX,Aaf ha,Aas h1]
  rw[Azm h1,hS];generalize Gx p a (min 48 (N-a))=q at*
  rw[Aas rfl];simp only;rw[Aaf (by rw[Ar];simp;omega),CW,CJ,Bs (by omega) (by omega)];by_cases h2:N<a+q+1+k
  ·rw[Aas (by simp[Ae];omega),Aas h2]
  ·have hp:2^k<=2^24:=Ak6 (by omega) hk;have hm:q*2^k<=47*2^24:=Bds (by omega) hp;have hv:=Qy p k (a+q+1);have e:(Af (Ad (Bg (Af (q:Int):UInt64) (UInt64.ofNat (2^k))) (Ra p (a+q+1) k)):UInt32)=UInt32.ofNat (q*2^k+Ce p (a+q+1) k):=by
    have e1:Ad (Bg (Af (q:Int):UInt64) (UInt64.ofNat (2^k))) (Ra p (a+q+1) k)=UInt64.ofNat (q*2^k+Ce p (a+q+1) k):=by
     rw[SQ,RJ,Xp,Ra,UInt64.ofNat_add,UInt64.ofNat_mul]
    rw[e1];have e2:∀x:UInt64,(Af x:UInt32)=UInt32.ofNat x.toNat:=λx=>by simp only[Af,Lj,Gg]
    rw[e2,Amh,Ac1 (by omega)]
   rw[Aaf (by simp[Ae];omega),Aaf h2,vN p _ _ k (by omega) (by omega),Aa,Aas (by rw[Ae];simp;omega),RP k (by omega),Aa,e,Ah (by omega) (by omega)];rfl
 ·by_cases h2:Gx p a (min 48 (N-a))=48
  ·have hS:XX p N a k=if N<a+48+32 then(0,0,24)else if Ce p (a+48) 32/2^k<48 then(0,0,12)else(UInt32.ofNat (Ce p (a+48) 32),((a+48+32:Nat):Int),0):=by rw[XX,Aaf ha,Aaf h1,Aas h2]
   rw[Azb h1 h2,hS,Aas rfl];simp only;rw[Aas (by rw[Ar];rfl),CW,CJ,Bs (by omega) (by omega)];by_cases h3:N<a+48+32
   ·rw[Aas (by simp[Ae];omega),Aas h3]
   ·have hg:=vN p (N:Int) (a+48) 32 (by omega) (by omega);have hv:=Ao7 p (a+48) (n:=32) (by omega);rw[Aaf (by simp[Ae];omega),Aaf h3];refine Bj5 (congrArg (λo=>Option.bind o _) hg) ?_;rw[Aa,Aaf (by rw[Ae];simp),xE (by omega),Bfa _ k hk,Aa,cY hv];by_cases h4:Ce p (a+48) 32/2^k<48
    ·rw[Aas (by rw[Ae];simp;omega),Aas h4]
    ·rw[Aaf (by rw[Ae];simp;omega),Aaf h4,Ah (by omega) (by omega)];rfl
  ·rw[Ay4 h1 h2,XX,Aaf ha,Aaf h1,Aaf h2];have e:(if((0:Int),(0:Int),(24:Int)).2.2=0 then(((0:Int),(0:Int),(24:Int)).1,((0:Int),(0:Int),(24:Int)).2.1)else((-1:Int),(0:Int)))=(-1,0):=by decide
   rw[e];rfl
theorem Bit{p:List UInt8}{N a k:Nat}{v:UInt32}{n:Int}(h:XX p N a k=(v,n,0)):(a:Int)<n/\n<=N:=by
 unfold XX at h;split at h
 ·simp at h
 split at h
 ·split at h
  ·simp at h
  ·simp only[Aie]at h;omega
 ·split at h
  ·split at h
   ·simp at h
   ·split at h
    ·simp at h
    ·simp only[Aie]at h;omega
  ·simp at h
def okD(k l:Nat)(s t:UInt64):Prop:=k<=24/\l<=24/\s.toNat<=68719476735/\t.toNat<=68719476735
theorem Ap7(a b:UInt64)(h:a.toNat<=b.toNat):Fk a b=a:=by
 show(if _ then _ else _)=_;rw[Lj,Lj,Aaf (by omega)]
theorem zA(a:UInt64):geq a a=true:=by rw[zD];simp
theorem Bcl{k l:Nat}{s t:UInt64}(h:okD k l s t):ZZ (k:Int) (l:Int) s t=some 0:=by
 obtain⟨h1,h2,h3,h4⟩:=h;have e1:Fk (tH (k:Int) 0) 24=(k:Int):=by rw[PL,Am4];omega
 have e2:Fk (tH (l:Int) 0) 24=(l:Int):=by rw[PL,Am4];omega
 have e3:Fk s (68719476735:UInt64)=s:=Ap7 _ _ (by simpa using h3);have e4:Fk t (68719476735:UInt64)=t:=Ap7 _ _ (by simpa using h4);have e5:∀a:Int,geq a a=true:=λa=>by rw[Ar];simp
 rw[ZZ,QQ,dI,QM,eL,tQ,e1,e2,e3,e4,e5,e5,zA,zA];rfl
def Zf(s n:UInt64):UInt64:=s+n-s/16
def kS(k:Nat)(s:UInt64):Nat:=if 0<k/\s.toNat<2^(k+4)then k-1 else if k<24/\2^(k+5)<s.toNat then k+1 else k
theorem Bhf{k:Nat}(h:k<=24)(s:UInt64):kS k s<=24:=by
 unfold kS;by_cases h1:0<k/\s.toNat<2^(k+4)
 ·rw[Aas h1];omega
 ·rw[Aaf h1];split<;>omega
theorem Aun{k:Nat}{s:UInt64}(h:¬(0<k/\s.toNat<2^(k+4))):(if k<24/\2^(k+5)<s.toNat then((k+1:Nat):Int)else(k:Int))=((kS k s:Nat):Int):=by
 rw[kS,Aaf h];split<;>rfl
theorem Au8{s n:UInt64}(h:s.toNat<=68719476735)(hn:n.toNat<=4294967295):(Zf s n).toNat<=68719476735:=by
 have h1:=s.toNat_lt;have e:(s+n).toNat=s.toNat+n.toNat:=by rw[UInt64.toNat_add];omega
 have e2:(s/16).toNat=s.toNat/16:=by rw[Bn9];rfl
 rw[Zf,UInt64.toNat_sub_of_le _ _ (by rw[UInt64.le_iff_toNat_le,e,e2];omega),e,e2];omega
theorem gH(s n:UInt64):Ad s (Ao n (Ck s (GI.toZ (4:UInt64)).toNat))=Zf s n:=by
 have e:Ck s (GI.toZ (4:UInt64)).toNat=s/16:=by
  apply UInt64.toNat_inj.1;rw[DN,Bn9];rfl
 rw[e,SQ,yR,Zf,UInt64.sub_eq_add_neg,UInt64.sub_eq_add_neg,UInt64.add_assoc]
theorem Au7(s n:UInt64):Ao (Ad s n) (Ca s (16:UInt64))=Zf s n:=by rw[SQ,yR,yE,Zf]
theorem Bkp{k:Nat}(h:k<=24):(Dp (16:UInt64) k).toNat=2^(k+4):=by
 have hp:2^k<=2^24:=Ak6 (by omega) h;rw[YP,Bn5]
 show 16*2^k %_=2^k*16;rw[Ac1 (by omega),Asu]
theorem Biy{k:Nat}(h:k<=24):(Dp (32:UInt64) k).toNat=2^(k+5):=by
 have hp:2^k<=2^24:=Ak6 (by omega) h;rw[YP,Bn5]
 show 32*2^k %_=2^k*32;rw[Ac1 (by omega),Asu]
theorem Bg6{k:Nat}{s:UInt64}(h:0<k)(h2:s.toNat<2^(k+4)):kS k s=k-1:=by rw[kS,Aas ⟨h,h2⟩]
theorem Bgz{k:Nat}{s:UInt64}(h:¬(0<k/\s.toNat<2^(k+4)))(h2:k<24)(h3:2^(k+5)<s.toNat):kS k s=k+1:=by rw[kS,Aaf h,Aas ⟨h2,h3⟩]
theorem Aty{k:Nat}{s:UInt64}(h:¬(0<k/\s.toNat<2^(k+4)))(h2:¬(k<24/\2^(k+5)<s.toNat)):kS k s=k:=by rw[kS,Aaf h,Aaf h2]
theorem At0{α:Type}(k:Nat)(hk:k<=24)(s:UInt64)(f:Int->Option α):
  (if(Ef (k:Int) (0:Int))=true then(
   Option.bind (Lg (Ml (k:Int) (0:Int))) λ_=>
   if(Cl s (Dp (16:UInt64) (GI.toZ (k:Int)).toNat))=true then f (Ao (k:Int) (1:Int))
   else(if(Cl (k:Int) (24:Int))=true then(
    Option.bind (Lg (Ml (k:Int) (0:Int))) λ_=>
    if(Ef s (Dp (32:UInt64) (GI.toZ (k:Int)).toNat))=true then f (Ad (k:Int) (1:Int))else f (k:Int))
    else f (k:Int)))
  else(if(Cl (k:Int) (24:Int))=true then(
    Option.bind (Lg (Ml (k:Int) (0:Int))) λ_=>
    if(Ef s (Dp (32:UInt64) (GI.toZ (k:Int)).toNat))=true then f (Ad (k:Int) (1:Int))else f (k:Int))
    else f (k:Int)))=f ((kS k s:Nat):Int):=by
 have z:(GI.toZ (k:Int)).toNat=k:=rfl;rw[z,Bu (by rw[Ds];simp)];simp only[Aa];rw[Adl,cR,Bkp hk,Biy hk];by_cases h0:0<k
 ·rw[Aas (by rw[As];simp;omega)];by_cases h1:s.toNat<2^(k+4)
  ·rw[Aas (by simp[h1]),Bg6 h0 h1,Bs (by omega) (by omega)];congr 1;omega
  ·rw[Aaf (by simp;omega)];by_cases h2:k<24
   ·rw[Aas (by rw[Ae];simp;omega)];by_cases h3:2^(k+5)<s.toNat
    ·rw[Aas (by simp[h3]),Bgz (λh=>h1 h.2) h2 h3,Ah (by omega) (by omega)];rfl
    ·rw[Aaf (by simp;omega),Aty (λh=>h1 h.2) (λh=>h3 h.2)]
   ·rw[Aaf (by rw[Ae];simp;omega),Aty (λh=>h1 h.2) (λh=>h2 h.1)]
 ·rw[Aaf (by rw[As];simp;omega)];by_cases h2:k<24
  ·rw[Aas (by rw[Ae];simp;omega)];by_cases h3:2^(k+5)<s.toNat
   ·rw[Aas (by simp[h3]),Bgz (λh=>h0 h.1) h2 h3,Ah (by omega) (by omega)];rfl
   ·rw[Aaf (by simp;omega),Aty (λh=>h0 h.1) (λh=>h3 h.2)]
  ·rw[Aaf (by rw[Ae];simp;omega),Aty (λh=>h0 h.1) (λh=>h2 h.1)]
theorem Au9(k:Nat)(hk:k<=24)(s n:UInt64):Zb (k:Int) s n=some (((kS k (Zf s n):Nat):Int),Zf s n):=by
 have g1:Ad (k:Int) 4=((k+4:Nat):Int):=by rw[Ah (by omega) (by omega)];omega
 have g2:Ad (k:Int) 5=((k+5:Nat):Int):=by rw[Ah (by omega) (by omega)];omega
 have hp:AH (k:Int) s n=some (if k<24/\2^(k+5)<(Zf s n).toNat then((k+1:Nat):Int)else(k:Int),Zf s n):=by
  rw[AH,RT,g2,RP _ (by omega),Aa,Au7,cR,cP (by omega)];by_cases h2:k<24
  ·rw[Aas (by rw[Ae];simp;omega)];by_cases h3:2^(k+5)<(Zf s n).toNat
   ·rw[Aas (by simp[h3]),Aas ⟨h2,h3⟩,Ah (by omega) (by omega)];rfl
   ·rw[Aaf (by simp;omega),Aaf (λh=>h3 h.2)]
  ·rw[Aaf (by rw[Ae];simp;omega),Aaf (λh=>h2 h.1)]
 rw[Zb,TF,g1,RP _ (by omega),Aa,Au7,Adl,cP (by omega),hp];by_cases h0:0<k
 ·rw[Aas (by rw[As];simp;omega)];by_cases h1:(Zf s n).toNat<2^(k+4)
  ·rw[Aas (by simp[h1]),Bg6 h0 h1,Bs (by omega) (by omega)];congr 2;omega
  ·rw[Aaf (by simp;omega),Aun (λh=>h1 h.2)]
 ·rw[Aaf (by rw[As];simp;omega),Aun (λh=>h0 h.1)]
def n64(v:UInt32):UInt64:=UInt64.ofNat v.toNat
theorem Bcn(v:UInt32):(n64 v).toNat<=4294967295:=by have:=v.toNat_lt;rw[n64,Amh,Ac1 (by omega)];omega
def mJ(k:Nat)(v:UInt32):UInt32:=UInt32.ofNat (v.toNat-2^k)
def lK(l:Nat)(t:UInt64)(k:Nat)(v:UInt32):Nat:=if v.toNat<2^k then l else kS l (Zf t (n64 (mJ k v)))
def lT(t:UInt64)(k:Nat)(v:UInt32):UInt64:=if v.toNat<2^k then t else Zf t (n64 (mJ k v))
theorem Az5{k l:Nat}{s t:UInt64}(h:okD k l s t)(v:UInt32):okD (kS k (Zf s (n64 v))) (lK l t k v) (Zf s (n64 v)) (lT t k v):=by
 obtain⟨h1,h2,h3,h4⟩:=h;refine⟨Bhf h1 _,?_,Au8 h3 (Bcn v),?_⟩
 ·unfold lK;split; · exact h2
  exact Bhf h2 _
 ·unfold lT;split; · exact h4
  exact Au8 h4 (Bcn _)
theorem Bh7(k l:Nat)(s t:UInt64)(hk:k<=24)(v:UInt32):NT (k:Int) (l:Int) s t v=some (decide (v.toNat<2^k)):=by
 have:=v.toNat_lt;rw[NT,RP k (by omega),Aa,Adl,cP (by omega),Dt,Amh,Ac1 (by omega)]
theorem left_eq(k l:Nat)(s t:UInt64)(hk:k<=24)(v:UInt32)(h:¬v.toNat<2^k):JD (k:Int) (l:Int) s t v=some (mJ k v):=by
 have:=v.toNat_lt;have e2:∀x:UInt64,(Af x:UInt32)=UInt32.ofNat x.toNat:=λx=>by simp only[Af,Lj,Gg]
 have e3:(UInt64.ofNat v.toNat).toNat=v.toNat:=by rw[Amh,Ac1 (by omega)]
 rw[JD,RP k (by omega),Aa,e2,yR,Dt,UInt64.toNat_sub_of_le _ _ (by rw[UInt64.le_iff_toNat_le,cP (by omega),e3];omega),cP (by omega),e3,mJ]
theorem Axw{k l:Nat}{s t:UInt64}(h:okD k l s t)(v:UInt32):CT (k:Int) (l:Int) s t v=some (((kS k (Zf s (n64 v)):Nat):Int),((lK l t k v:Nat):Int),Zf s (n64 v),lT t k v):=by
 obtain⟨h1,h2,h3,h4⟩:=h;have hp:∀(r1:Int) (r2:UInt64),Wd v (k:Int) (l:Int) s t r1 r2=some (((kS k (Zf s (n64 v)):Nat):Int),r1,Zf s (n64 v),r2):=by
  intro r1 r2;rw[Wd,MK,Dt,Au9 k h1,Aa];rfl
 rw[CT,JI,Bh7 k l s t h1,Aa];by_cases hv:v.toNat<2^k
 ·rw[Aaf (by simp[hv]),hp,lK,Aas hv,lT,Aas hv]
 ·rw[Aas (by simp;omega),left_eq k l s t h1 v hv,Aa,Dt,Au9 l h2,Aa];simp only;rw[hp,lK,Aaf hv,lT,Aaf hv];rfl
theorem Agt(k l:Nat)(s t:UInt64)(hk:k<=24)(v:UInt32):OQ (k:Int) (l:Int) s t v=some (if v.toNat<2^k then(0,v)else(1,mJ k v)):=by
 have hp:2^k<=2^24:=Ak6 (by omega) hk;have hpos:0<2^k:=Bl3 (by omega);have hl:=v.toNat_lt;have z:(GI.toZ (k:Int)).toNat=k:=rfl;have e1:geq (Ck v k) (0:UInt32)=decide (v.toNat<2^k):=by
  rw[Amt,Anb];simp only[Aue,<-UInt32.toNat_inj,SD,Acw]
  show _/_=0↔_;rw[Nat.div_eq_zero_iff];omega
 have e2:¬v.toNat<2^k->Ao v (Dp (1:UInt32) k)=mJ k v:=by
  intro h;have e3:(Dp (1:UInt32) k).toNat=2^k:=by rw[qE];show 1*2^k %_=_;rw[Ac1 (by omega),Bdl]
  apply UInt32.toNat_inj.1;rw[Afb,UInt32.toNat_sub_of_le _ _ (by rw[UInt32.le_iff_toNat_le,e3];omega),e3,mJ,cY (by omega)]
 rw[OQ,Bu (by rw[Ds];simp),Aa,Aa,z,e1];by_cases h:v.toNat<2^k
 ·rw[Aas (by simp[h]),Aas h]
 ·rw[Aaf (by simp;omega),Aaf h,e2 h]
abbrev Rd:=UInt32×Int×Int×Int×UInt64×UInt64×Int
theorem Aha{k l:Nat}{s t:UInt64}(h:okD k l s t)(v:UInt32)(r:Int):WK (k:Int) (l:Int) s t v r=some (v,r,((kS k (Zf s (n64 v)):Nat):Int),((lK l t k v:Nat):Int),Zf s (n64 v),lT t k v,0):=by
 obtain⟨h1,h2,h3,h4⟩:=h;have hp:∀(x:Int) (y:UInt64),HT v r (k:Int) s x y=some (v,r,((kS k (Zf s (n64 v)):Nat):Int),x,Zf s (n64 v),y,0):=by
  intro x y;rw[HT,kF,Dt,gH,At0 k h1];rw[jY,jJ,eE,uL,Dt,gH];rfl
 rw[WK,jG,Agt k l s t h1,Aa];by_cases hv:v.toNat<2^k
 ·rw[Aas hv];simp only;rw[Aaf (by rw[Ar];simp),hp,lK,Aas hv,lT,Aas hv]
 ·rw[Aaf hv];simp only;rw[Aas (by rw[Ar];rfl),Dt,gH,At0 l h2 _ (λx=>HT v r (k:Int) s x (Zf t (UInt64.ofNat (mJ k v).toNat))),hp,lK,Aaf hv,lT,Aaf hv];rfl
def eX(p:List UInt8)(N a k l:Nat):UInt32×Int×Int:=
 if N<=a then(0,0,24)else
 if Hp p a=0 then(if N<a+1+k then(0,0,24)else(UInt32.ofNat (Ce p (a+1) k),((a+1+k:Nat):Int),0))else
 if(XX p N (a+1) l).2.2≠0 then(0,0,(XX p N (a+1) l).2.2)else
 if 4294967295<(XX p N (a+1) l).1.toNat+2^k then(0,0,12)else(UInt32.ofNat ((XX p N (a+1) l).1.toNat+2^k),(XX p N (a+1) l).2.1,0)
theorem Bjn{p:List UInt8}{N a k l:Nat}(h:(eX p N a k l).2.2=0):(a:Int)<(eX p N a k l).2.1/\ (eX p N a k l).2.1<=N:=by
 revert h
 unfold eX;split
 ·simp
 split
 ·split
  ·simp
  ·simp only;omega
 ·split
  ·intro h;contradiction
  ·rename_i h1;split
   ·simp
   ·intro _;have:=Bit (p:=p) (N:=N) (a:=a+1) (k:=l) (v:=(XX p N (a+1) l).1) (n:=(XX p N (a+1) l).2.1) (by
     have e:(XX p N (a+1) l).2.2=0:=by simpa using h1
     rw[<-e])
    simp only;omega
theorem Bfc{p:List UInt8}{N:Nat}(h:okB p N)(a:Nat){k l:Nat}{s t:UInt64}(hd:okD k l s t):NU p (N:Int) (a:Int) (k:Int) (l:Int) s t=
  some (if(eX p N a k l).2.2≠0 then(0,0,0,0,0,0,(eX p N a k l).2.2)else((eX p N a k l).1,(eX p N a k l).2.1,((kS k (Zf s (n64 (eX p N a k l).1)):Nat):Int),((lK l t k (eX p N a k l).1:Nat):Int),Zf s (n64 (eX p N a k l).1),lT t k (eX p N a k l).1,0)):=by
 obtain⟨h1,h2,h3,h4⟩:=hd;have hd:okD k l s t:=⟨h1,h2,h3,h4⟩;have hN:=h.1;have hg:=Aay h a 1 (by omega);have hb:=DR p a;rw[NU,kY,BJ h,Aa,Aaf (by rw[Al];simp),Bcl hd,Aa,Aaf (by rw[Al];simp),jB,jC];refine Bj5 (congrArg (λo=>Option.bind o _) hg) ?_;rw[Aa];by_cases ha:N<=a
 ·have hS:eX p N a k l=(0,0,24):=by rw[eX,Aas ha]
  rw[Aas (by omega),hS];rfl
 rw[Aaf (by omega)];simp only;have e0:geq (Ra p a 1) (0:UInt64)=decide (Hp p a=0):=by
  rw[zD,Anb];simp only[Aue,<-Bne,Acw,AD p a 1 (by omega),yN];rfl
 have e1:Ad (a:Int) 1=((a+1:Nat):Int):=by rw[Ah (by omega) (by omega)];omega
 rw[Aaf (by rw[Al];simp),e0,e1];by_cases hz:Hp p a=0
 ·rw[Aas (by simp[hz]),Aay h (a+1) k (by omega),Aa];by_cases h5:N<a+1+k
  ·have hS:eX p N a k l=(0,0,24):=by rw[eX,Aaf ha,Aas hz,Aas h5]
   rw[Aas h5,hS];rfl
  ·have hS:eX p N a k l=(UInt32.ofNat (Ce p (a+1) k),((a+1+k:Nat):Int),0):=by rw[eX,Aaf ha,Aas hz,Aaf h5]
   rw[Aaf h5,hS];simp only;rw[Aaf (by rw[Al];simp),Aha hd,xE (by omega),Ah (by omega) (by omega)];rfl
 ·rw[Aaf (by simp[hz]),Bdx h (a+1) l h2,Aa];have hp:2^k<=2^24:=Ak6 (by omega) h1;by_cases h5:(XX p N (a+1) l).2.2≠0
  ·have hS:eX p N a k l=(0,0,(XX p N (a+1) l).2.2):=by rw[eX,Aaf ha,Aaf hz,Aas h5]
   rw[hS];generalize XX p N (a+1) l=R at*
   obtain⟨v,n,e⟩:=R;simp only at*
   rw[Aas (by rw[Al];simpa using h5),Aas h5]
  ·have hv:=(XX p N (a+1) l).1.toNat_lt;have z:(GI.toZ (k:Int)).toNat=k:=rfl;have e3:(Dp (1:UInt32) k).toNat=2^k:=by rw[qE];show 1*2^k %_=_;rw[Ac1 (by omega),Bdl]
   by_cases h6:4294967295<(XX p N (a+1) l).1.toNat+2^k
   ·have hS:eX p N a k l=(0,0,12):=by rw[eX,Aaf ha,Aaf hz,Aaf h5,Aas h6]
    rw[hS];generalize XX p N (a+1) l=R at*
    obtain⟨v,n,e⟩:=R;simp only at*
    rw[Aaf (by rw[Al];simpa using h5),Bu (by rw[Ds];simp),Aa,z,Aas (by rw[At1,Aee,UInt32.toNat_add,e3];simp;omega),Aas (by decide)]
   ·have hS:eX p N a k l=(UInt32.ofNat ((XX p N (a+1) l).1.toNat+2^k),(XX p N (a+1) l).2.1,0):=by rw[eX,Aaf ha,Aaf hz,Aaf h5,Aaf h6]
    rw[hS];generalize XX p N (a+1) l=R at*
    obtain⟨v,n,e⟩:=R;simp only at*
    have e4:Ad v (Dp (1:UInt32) k)=UInt32.ofNat (v.toNat+2^k):=by
     apply UInt32.toNat_inj.1;rw[Aee,UInt32.toNat_add,e3,cY (by omega),Ac1 (by omega)]
    rw[Aaf (by rw[Al];simpa using h5),Bu (by rw[Ds];simp),Aa,z,Aaf (by rw[At1,Aee,UInt32.toNat_add,e3];simp;omega),e4,Aha hd];rfl
theorem Bcb{p:List UInt8}{N:Nat}(h:okB p N)(a:Nat)(k l:Nat)(s t:UInt64)(h1:k<=24)(h2:l<=24):OB p (N:Int) (a:Int) (k:Int) (l:Int) s t=some (eX p N a k l):=by
 have hN:=h.1;have hl:=h.2.1;have hb:=DR p a;rw[OB];by_cases ha:N<=a
 ·rw[Aas (by rw[Ds];simp;omega),eX,Aas ha]
 rw[Aaf (by rw[Ds];simp;omega),Aaa p _ a (by omega) (by omega),Aa,Bs (a:=(N:Int)) (b:=(a:Int)) (by omega) (by omega),Bs (by omega) (by omega)];have e1:Ad (a:Int) 1=((a+1:Nat):Int):=by rw[Ah (by omega) (by omega)];omega
 rw[e1];by_cases hz:Hp p a=0
 ·rw[Aas (by rw[Ar];simp[hz])];by_cases h5:N<a+1+k
  ·rw[Aas (by rw[Ae];simp;omega),eX,Aaf ha,Aas hz,Aas h5]
  ·rw[Aaf (by rw[Ae];simp;omega),vN p _ (a+1) k (by omega) (by omega),Aa,eX,Aaf ha,Aas hz,Aaf h5,xE (by omega),Ah (by omega) (by omega)];rfl
 ·rw[Aaf (by rw[Ar];simp;omega),Azd h (a+1) l h2,Aa];have hp:2^k<=2^24:=Ak6 (by omega) h1;have hv:=(XX p N (a+1) l).1.toNat_lt;have e2:∀x:UInt64,(Af x:UInt32)=UInt32.ofNat x.toNat:=λx=>by simp only[Af,Lj,Gg]
  by_cases h5:(XX p N (a+1) l).2.2≠0
  ·have hS:eX p N a k l=(0,0,(XX p N (a+1) l).2.2):=by rw[eX,Aaf ha,Aaf hz,Aas h5]
   rw[hS];generalize XX p N (a+1) l=R at*
   obtain⟨v,n,e⟩:=R;simp only at*
   rw[Aas (by rw[Al];simpa using h5)]
  ·have hsum:∀v:UInt32,(Ad (Af v:UInt64) (UInt64.ofNat (2^k))).toNat=v.toNat+2^k:=by
    intro v;have:=v.toNat_lt;have:=Bl3 (n:=k) (show 0<2 by omega);rw[SQ,UInt64.toNat_add,Dt,cP (by omega),Amh];omega
   by_cases h6:4294967295<(XX p N (a+1) l).1.toNat+2^k
   ·have hS:eX p N a k l=(0,0,12):=by rw[eX,Aaf ha,Aaf hz,Aaf h5,Aas h6]
    rw[hS];generalize XX p N (a+1) l=R at*
    obtain⟨v,n,e⟩:=R;simp only at*
    rw[Aaf (by rw[Al];simpa using h5),RP k (by omega),Aa,Aas (by rw[cR,hsum];simpa using h6)]
   ·have hS:eX p N a k l=(UInt32.ofNat ((XX p N (a+1) l).1.toNat+2^k),(XX p N (a+1) l).2.1,0):=by rw[eX,Aaf ha,Aaf hz,Aaf h5,Aaf h6]
    rw[hS];generalize XX p N (a+1) l=R at*
    obtain⟨v,n,e⟩:=R;simp only at*
    rw[Aaf (by rw[Al];simpa using h5),RP k (by omega),Aa,Aaf (by rw[cR,hsum];simpa using h6),e2,hsum]
abbrev DuN:=Nat×Nat×UInt64×UInt64
def okN(d:DuN):Prop:=okD d.1 d.2.1 d.2.2.1 d.2.2.2
def nxt(d:DuN)(v:UInt32):DuN:=(kS d.1 (Zf d.2.2.1 (n64 v)),lK d.2.1 d.2.2.2 d.1 v,Zf d.2.2.1 (n64 v),lT d.2.2.2 d.1 v)
def Al8:DuN:=(10,10,16384,16384)
theorem Aze:okN Al8:=⟨by decide,by decide,by decide,by decide⟩
theorem Bh4{d:DuN}(h:okN d)(v:UInt32):okN (nxt d v):=Az5 h v
abbrev DuL:=Int×Int×UInt64×UInt64×Unit
def toI(d:DuN):DuL:=((d.1:Int),(d.2.1:Int),d.2.2.1,d.2.2.2,())
def nR(ch:Nat)(v:List UInt32)(c:Nat):Nat->DuN
 |0=>Al8
 |m+1=>if m %ch=c then nxt (nR ch v c m) (v.getD m 0)else nR ch v c m
theorem rK(ch:Nat)(v:List UInt32)(c:Nat):∀m,okN (nR ch v c m)
 |0=>Aze
 |m+1=>by rw[nR];split;exact Bh4 (rK ch v c m) _;exact rK ch v c m
theorem Aum(ch:Nat)(v w:List UInt32)(c:Nat):∀m,m<=v.length->nR ch (v++w) c m=nR ch v c m
 |0,_=>rfl
 |m+1,h=>by
  have e:(v++w).getD m 0=v.getD m 0:=by simp[List.getD_eq_getElem?_getD,List.getElem?_append_left (show m<v.length by omega)]
  rw[nR,nR,Aum ch v w c m (by omega),e]
theorem Am7(ch:Nat)(v:List UInt32)(c:Nat):∀m,m<=c->c<ch->nR ch v c m=Al8
 |0,_,_=>rfl
 |m+1,h,h2=>by rw[nR,Aaf (by rw[Ac1 (by omega)];omega),Am7 ch v c m (by omega) h2]
theorem An5(ch:Nat)(v:List UInt32)(c i:Nat)(hi:i %ch=c)(hc:c<ch):∀j,j<ch->nR ch v c (i+1+j)=nR ch v c (i+1)
 |0,_=>rfl
 |j+1,h=>by
  have hne:(i+1+j) %ch≠c:=by
   intro e;have h1:(i+(1+j)) %ch=i %ch:=by rw[hi,<-e];congr 1;omega
   have h2:(1+j) %ch=0:=by
    have h3:=Nat.sub_mod_eq_zero_of_mod_eq h1;rwa [Bi1]at h3
   rw[Ac1 (by omega)]at h2;omega
  rw[show i+1+(j+1)=(i+1+j)+1 by omega,nR,Aaf hne,An5 ch v c i hi hc j (by omega)]
theorem Bce(ch:Nat)(v:List UInt32)(c i:Nat)(hi:i %ch=c)(hc:c<ch):nR ch v c (i+ch)=nxt (nR ch v c i) (v.getD i 0):=by
 have h:=An5 ch v c i hi hc (ch-1) (by omega);rw[show i+1+(ch-1)=i+ch by omega]at h;rw[h,nR,Aas hi]
theorem wS{l:List UInt32}{k:Nat}(h:k<l.length):Ap l (k:Int)=some (l.getD k 0):=by
 rw[Bm h];simp[List.getD_eq_getElem?_getD,h]
theorem TU(a b:Nat):Gc (a:Int) (b:Int)=((a %b:Nat):Int):=by rw[Gc,Bj6 (by omega)];omega
theorem Ab7(ch:Nat)(v:List UInt32)(hch:1<=ch)(Bjv:ch<=6)(hv:v.length<=4000):∀(j i q:Nat),i %ch=v.length %ch->i<=v.length->v.length-i<=j->j<q->
  Ou (ch:Int) v q (i:Int) ((nR ch v (v.length %ch) i).1:Int) ((nR ch v (v.length %ch) i).2.1:Int) (nR ch v (v.length %ch) i).2.2.1 (nR ch v (v.length %ch) i).2.2.2=
   some (((nR ch v (v.length %ch) v.length).1:Int),((nR ch v (v.length %ch) v.length).2.1:Int),(nR ch v (v.length %ch) v.length).2.2.1,(nR ch v (v.length %ch) v.length).2.2.2)
 |j,i,q+1,hi,hl,hj,hq=>by
  have hc:v.length %ch<ch:=Bj3 _ (by omega);rw[Ou,JG];by_cases h:i<v.length
  ·have h1:=Axw (rK ch v (v.length %ch) i) (v.getD i 0);rw[Aas (by rw[Ae,Ac];simp;omega),wS h,Aa,h1,Aa];have hle:i+ch<=v.length:=by
    have h2:=Bns i ch;have h3:=Bns v.length ch;rw[hi]at h2;have h4:ch*(i/ch)<ch*(v.length/ch):=by omega
    have h5:=Nat.lt_of_mul_lt_mul_left h4;have h6:ch*(i/ch+1)<=ch*(v.length/ch):=Bkl _ h5;rw[Nat.mul_add]at h6;omega
   have ih:=Ab7 ch v hch Bjv hv (j-ch) (i+ch) q (by rw[Bn0];exact hi) hle (by omega) (by omega);rw[Bce ch v _ i hi hc]at ih;simp only;rw[Ah (by omega) (by omega)];exact ih
  ·rw[Aaf (by rw[Ae,Ac];simp;omega),show i=v.length by omega];rfl
theorem Ayb(ch:Nat)(v:List UInt32)(hch:1<=ch)(Bjv:ch<=6)(hv:v.length<=4000):Tv (ch:Int) v=some (((nR ch v (v.length %ch) v.length).1:Int),((nR ch v (v.length %ch) v.length).2.1:Int),(nR ch v (v.length %ch) v.length).2.2.1,(nR ch v (v.length %ch) v.length).2.2.2):=by
 have hc:v.length %ch<ch:=Bj3 _ (by omega);have hle:v.length %ch<=v.length:=Bn1 _ _;have h:=Ab7 ch v hch Bjv hv v.length (v.length %ch) Au (by rw[Nat.mod_mod]) hle (by omega) (by have:=Aq;omega);rw[Am7 ch v _ _ (Aob _) hc]at h;rw[Tv,HY,Qb,Aa];simp only;rw[Bu (by rw[Al];simp;omega),Aa,Ac,TU];exact h
def now(ch:Nat)(v:List UInt32):DuN:=nR ch v (v.length %ch) v.length
def win(N a:Nat):Nat:=min 81 (N-a)
def Ns(ch:Nat)(p:List UInt8)(N a:Nat)(out:List UInt32):UInt32×Int×Int:=eX (Rw p a (win N a)) (win N a) 0 (now ch out).1 (now ch out).2.1
def Wv(ch:Nat)(p:List UInt8)(N:Nat):Nat->Nat->List UInt32->List UInt32×Nat×Int
 |0,a,out=>(out,a,0)
 |j+1,a,out=>if(Ns ch p N a out).2.2≠0 then(out,a,(Ns ch p N a out).2.2)else Wv ch p N j (a+(Ns ch p N a out).2.1.toNat) (out++[(Ns ch p N a out).1])
theorem sJ{ch:Nat}{p:List UInt8}{N a:Nat}{out:List UInt32}(h:(Ns ch p N a out).2.2=0):0<(Ns ch p N a out).2.1/\ (Ns ch p N a out).2.1<=win N a:=by
 have:=Bjn h;exact⟨this.1,this.2⟩
theorem Aix{ch:Nat}{p:List UInt8}{N a:Nat}{out:List UInt32}(h:(Ns ch p N a out).2.2=0):((a:Int)+(Ns ch p N a out).2.1)=((a+(Ns ch p N a out).2.1.toNat:Nat):Int):=by
 have:=sJ h;omega
def sts(ch:Nat)(v:List UInt32):List DuL:=(List.range 6).map λc=>toI (nR ch v c v.length)
theorem Ak8{ch:Nat}{v:List UInt32}{c:Nat}(h:c<6):Ap (sts ch v) (c:Int)=some (toI (nR ch v c v.length)):=by
 rw[Bm (by simp[sts];exact h)];simp[sts]
theorem Aui{ch:Nat}{v:List UInt32}{c:Nat}(x:UInt32)(h:c<6)(hc:c=v.length %ch):Nx (sts ch v) (c:Int) (toI (nxt (nR ch v c v.length) x))=some (sts ch (v++[x])):=by
 rw[Wf _ (by simp[sts];exact h)];congr 1;apply Bdp (by simp[sts]);intro i h1 h2;rw[Boa];simp only[sts,Bmh,Bme];have e:(v++[x]).getD v.length 0=x:=by simp
 rw[Abt,Bi7,nR,e,Aum ch v [x] i v.length (Aob _)];by_cases hi:c=i
 ·subst hi;rw[Aas rfl,Aas hc.symm]
 ·rw[Aaf hi,Aaf (by omega)]
theorem Bf0{ch:Nat}{v:List UInt32}{c:Nat}(hc:c=v.length %ch):nR ch v c v.length=now ch v:=by rw[now,hc]
section
variable {p:List UInt8} {N ch n:Nat}
theorem Ao9(hp:okB p N)(h1:1<=ch)(h6:ch<=6)(hn:n*ch<=4000):∀(j a q:Nat) (out:List UInt32),out.length+j=n*ch->j<q->a<=N->
  Qa (ch:Int) (n:Int) p (N:Int) q (a:Int) (out.length:Int) (sts ch out) out=
   some (if(Wv ch p N j a out).2.2≠0 then([],0,(Wv ch p N j a out).2.2)else((Wv ch p N j a out).1,((Wv ch p N j a out).2.1:Int),0))
 |j,a,q+1,out,hj,hq,ha=>by
  have hN:=hp.1;have hnn:n<=n*ch:=Bn7 n (by omega);have em:Bg (n:Int) (ch:Int)=((n*ch:Nat):Int):=by rw[Fc (by rw[<-Ara];omega) (by rw[<-Ara];omega),Ara]
  rw[Qa,Wq,em];cases j with
  |zero=>
   rw[Aaf (by rw[Ae];simp;omega)];rfl
  |succ j=>
   have hc:out.length %ch<6:=Arb (Bj3 _ (by omega)) h6;have ew:Fk (Ad (a:Int) 81) (N:Int)=((a+win N a:Nat):Int):=by rw[PL,Ah (by omega) (by omega)];unfold win;omega
   have hw:a+win N a<=N:=by unfold win;omega
   have hw2:win N a<=81:=by unfold win;omega
   have hd:=Bfc (wR p a (win N a) (by omega)) 0 (rK ch out (out.length %ch) out.length);have Bde:eX (Rw p a (win N a)) (win N a) 0 (nR ch out (out.length %ch) out.length).1 (nR ch out (out.length %ch) out.length).2.1=Ns ch p N a out:=rfl;rw[Aas (by rw[Ae];simp;omega),ew,Bi8 hp a _ hw (by omega),Aa];simp only;rw[Aaf (by rw[Al];simp),Bu (by rw[Al];simp;omega),Aa,TU,Ak8 hc,Aa,Aa];refine Bj5 (congrArg (λo=>Option.bind o _) hd) ?_;rw[Aa,Bde,Wv];by_cases he:(Ns ch p N a out).2.2≠0
   ·rw[Aas he,Aas he];simp only;rw[Wh,Vw,Aas (by rw[Al];simpa using he),Aas he]
   ·have he0:(Ns ch p N a out).2.2=0:=by simpa using he
    have hok:=sJ he0;have hset:=Aui (ch:=ch) (v:=out) (Ns ch p N a out).1 hc rfl;rw[Aaf he,Aaf he];simp only;rw[Wh,Vw,Aaf (by rw[Al];simp),Bu (by rw[Al];simp;omega),Aa,TU,Ak8 hc,Aa];refine Bj5 (congrArg (λo=>Option.bind o _) hset) ?_;rw[Aa,FU,bB,Bd (by simp;omega),Aa,Ah (by omega) (by omega),Ah (by omega) (by omega),Aix he0];have ih:=Ao9 hp h1 h6 hn j (a+(Ns ch p N a out).2.1.toNat) q (out++[(Ns ch p N a out).1]) (by simp;omega) (by omega) (by omega);rw[Abt,Bi7]at ih;exact ih
theorem Auf{p:List UInt8}(hN:N=8*p.length)(hN2:N<=330000)(h1:1<=ch)(h6:ch<=6)(hn:n*ch<=4000):∀(j a q:Nat) (out:List UInt32),out.length+j=n*ch->j<q->a<=N->
  Gk (ch:Int) (n:Int) p q (a:Int) (out.length:Int) out=
   if(Wv ch p N j a out).2.2≠0 then some ((Wv ch p N j a out).1,(Wv ch p N j a out).2.2)else Yi ((Wv ch p N j a out).2.1:Int) p (Wv ch p N j a out).1
 |j,a,q+1,out,hj,hq,ha=>by
  have hnn:n<=n*ch:=Bn7 n (by omega);have em:Bg (n:Int) (ch:Int)=((n*ch:Nat):Int):=by rw[Fc (by rw[<-Ara];omega) (by rw[<-Ara];omega),Ara]
  have e8:Bg (8:Int) (Ac p)=(N:Int):=by rw[Ac,Fc (by omega) (by omega)];omega
  rw[Gk,NP,em];cases j with
  |zero=>
   rw[Aaf (by rw[Ae];simp;omega)];rfl
  |succ j=>
   have ew:Fk (Ad (a:Int) 81) (N:Int)=((a+win N a:Nat):Int):=by rw[PL,Ah (by omega) (by omega)];unfold win;omega
   have hw:a+win N a<=N:=by unfold win;omega
   have hw2:win N a<=81:=by unfold win;omega
   have hpre:(Option.bind Qb λ(r_4,r_5,r_6,r_7)=>
     if(Ml (out.length:Int) (ch:Int))=true then(
     Option.bind (Tv (ch:Int) out) λ(r_8,r_9,r_10,r_11)=>
     Ma (Gk (ch:Int) (n:Int) p q) (ch:Int) (n:Int) p (a:Int) (out.length:Int) out r_8 r_9 r_10 r_11)
     else Ma (Gk (ch:Int) (n:Int) p q) (ch:Int) (n:Int) p (a:Int) (out.length:Int) out r_4 r_5 r_6 r_7)=
     Ma (Gk (ch:Int) (n:Int) p q) (ch:Int) (n:Int) p (a:Int) (out.length:Int) out ((now ch out).1:Int) ((now ch out).2.1:Int) (now ch out).2.2.1 (now ch out).2.2.2:=by
    rw[Qb,Aa];by_cases hc:ch<=out.length
    ·simp only;rw[Aas (by rw[Ds];simp;omega),Ayb ch out h1 h6 (by omega),Aa];rfl
    ·have e:now ch out=Al8:=by rw[now,Ac1 (by omega),Am7 ch out _ _ (Aob _) (by omega)]
     simp only;rw[Aaf (by rw[Ds];simp;omega),e];rfl
   have hd:=Bcb (wR p a (win N a) (by omega)) 0 (now ch out).1 (now ch out).2.1 (now ch out).2.2.1 (now ch out).2.2.2 (rK ch out _ _).1 (rK ch out _ _).2.1;have Bde:eX (Rw p a (win N a)) (win N a) 0 (now ch out).1 (now ch out).2.1=Ns ch p N a out:=rfl;rw[Aas (by rw[Ae];simp;omega),hpre,Ma,NR,e8,ew,Aql p (N:Int) a _ (by omega) (by omega) (by omega),Aa];simp only;refine Bj5 (congrArg (λo=>Option.bind o _) hd) ?_;rw[Aa,Bde,Wv];by_cases he:(Ns ch p N a out).2.2≠0
   ·rw[Aas he,Aas (by rw[Al];simpa using he),Aas he]
   ·have he0:(Ns ch p N a out).2.2=0:=by simpa using he
    have hok:=sJ he0;have ih:=Auf hN hN2 h1 h6 hn j (a+(Ns ch p N a out).2.1.toNat) q (out++[(Ns ch p N a out).1]) (by simp;omega) (by omega) (by omega);have hx:=Aix he0;rw[Abt,Bi7]at ih;rw[Aaf he];generalize Ns ch p N a out=R at*
    obtain⟨v,nx,e⟩:=R;simp only at*
    rw[Aaf (by rw[Al];simpa using he),Bd (by simp;omega),Aa,Ah (by omega) (by omega),Ah (by omega) (by omega),hx];exact ih
end
theorem Adc{ch:Nat}{p:List UInt8}{N:Nat}:∀(j a:Nat) (out:List UInt32),a<=N-> (Wv ch p N j a out).2.1<=N/\ (Wv ch p N j a out).1.length<=out.length+j/\ ((Wv ch p N j a out).2.2=0-> (Wv ch p N j a out).1.length=out.length+j)
 |0,a,out,h=>⟨h,Aob _,λ_=>rfl⟩
 |j+1,a,out,h=>by
  rw[Wv];split
  ·rename_i he;exact⟨h,by simp,λe=>absurd e he⟩
  ·rename_i he;have hok:=sJ (ch:=ch) (p:=p) (N:=N) (a:=a) (out:=out) (by simpa using he);have hw:a+win N a<=N:=by unfold win;omega
   have ih:=Adc (ch:=ch) (p:=p) (N:=N) j (a+(Ns ch p N a out).2.1.toNat) (out++[(Ns ch p N a out).1]) (by omega);rw[Abt,Bi7]at ih;exact⟨ih.1,by omega,λe=>by have:=ih.2.2 e;omega⟩
theorem Ap6(ch n:Int)(b:List UInt8)(N:Int):Wm ch n b N 0 (List.replicate 6 ((0:Int),(0:Int),(0:UInt64),(0:UInt64),()))=FB ch n b N (List.replicate 6 ((10:Int),(10:Int),(16384:UInt64),(16384:UInt64),())):=by
 have e:Au=(Au-7)+1+1+1+1+1+1+1:=by have:=Aq;omega
 rw[Wm,e];rfl
theorem values_eq{p:List UInt8}{N ch n:Nat}(hp:okB p N)(h1:1<=ch)(h6:ch<=6)(hn:n*ch<=4000):MC (ch:Int) (n:Int) p (N:Int)=
  some (if(Wv ch p N (n*ch) 0 []).2.2≠0 then([],0,(Wv ch p N (n*ch) 0 []).2.2)else((Wv ch p N (n*ch) 0 []).1,((Wv ch p N (n*ch) 0 []).2.1:Int),0)):=by
 have h:=Ao9 hp h1 h6 hn (n*ch) 0 Au [] (by simp) (by have:=Aq;omega) (by omega);rw[MC,IK,Ap6];exact h
theorem Aka(p:List UInt8)(x:List UInt32)(N:Nat)(hN:N=8*p.length)(hN2:N<=330000):∀(j a q:Nat),a+j=N->j<q->Lt p x q (a:Int)=some (x,if Ce p a j=0 then 0 else 12)
 |0,a,q+1,ha,_=>by
  have e8:Bg (8:Int) (Ac p)=(N:Int):=by rw[Ac,Fc (by omega) (by omega)];omega
  rw[Lt,Ye,e8,Aaf (by rw[Ae];simp;omega),Ce,Aas rfl];rfl
 |j+1,a,q+1,ha,hq=>by
  have e8:Bg (8:Int) (Ac p)=(N:Int):=by rw[Ac,Fc (by omega) (by omega)];omega
  have hb:=DR p a;rw[Lt,Ye,e8,Aas (by rw[Ae];simp;omega),Aaa p _ a (by omega) (by omega),Aa,Ce];by_cases h:Hp p a=0
  ·rw[Aaf (by rw[Al];simp[h]),Ah (by omega) (by omega),h];have ih:=Aka p x N hN hN2 j (a+1) q (by omega) (by omega);rw[show((a:Int)+1)=((a+1:Nat):Int) by omega,ih];congr 2;by_cases hv:Ce p (a+1) j=0
   ·rw[Aas hv,Aas (by omega)]
   ·rw[Aaf hv,Aaf (by omega)]
  ·rw[Aas (by rw[Al];simp;omega),Aaf (by omega)]
theorem Alb{p:List UInt8}{N ch n:Nat}(hN:N=8*p.length)(hN2:N<=330000)(h1:1<=ch)(h6:ch<=6)(hn:n*ch<=4000):IZ (ch:Int) (n:Int) p=
  some (if(Wv ch p N (n*ch) 0 []).2.2≠0 then((Wv ch p N (n*ch) 0 []).1,(Wv ch p N (n*ch) 0 []).2.2)else
   ((Wv ch p N (n*ch) 0 []).1,if 7<N-(Wv ch p N (n*ch) 0 []).2.1\/Ce p (Wv ch p N (n*ch) 0 []).2.1 (N-(Wv ch p N (n*ch) 0 []).2.1)≠0 then 12 else 0)):=by
 have h:=Auf hN hN2 h1 h6 hn (n*ch) 0 Au [] (by simp) (by have:=Aq;omega) (by omega);have hat:=(Adc (ch:=ch) (p:=p) (N:=N) (n*ch) 0 [] (by omega)).1;have e8:Bg (8:Int) (Ac p)=(N:Int):=by rw[Ac,Fc (by omega) (by omega)];omega
 rw[IZ,SR];refine Bj5 h ?_;generalize Wv ch p N (n*ch) 0 []=V at*
 obtain⟨v,a,e⟩:=V;simp only at*
 by_cases he:e≠0
 ·rw[Aas he,Aas he]
 ·rw[Aaf he,Aaf he,Yi,NS,e8,Bs (by omega) (by omega)];by_cases h7:7<N-a
  ·rw[Aas (by rw[As];simp;omega),Aas (.inl h7)]
  ·rw[Aaf (by rw[As];simp;omega),NI,Aka p v N hN hN2 (N-a) a Au (by omega) (by have:=Aq;omega)];by_cases hv:Ce p a (N-a)=0
   ·rw[Aas hv,Aaf (by omega)]
   ·rw[Aaf hv,Aas (.inr hv)]
theorem Alp(n:Int):(GI.ofZ n:Int32)=Int32.ofInt n:=rfl
theorem cG(a:Int32):GI.toZ a=a.toInt:=rfl
theorem fJ(a b:Int32):Ad a b=a+b:=by
 rw[Ad,cG,cG,Alp,Int32.ofInt_add,Bg0,Bg0]
theorem YR(a b:Int32):Ao a b=a-b:=by
 rw[Ao,cG,cG,Alp,Int32.ofInt_sub,Bg0,Bg0]
theorem At6(a b:Int32):geq a b=(a==b):=by
 rw[geq,cG,cG,Anb];simp[Int32.toInt_inj]
def kR(p:Nat->Bool)(a b:List Int32):List Int32:=(List.range a.length).map λk=>if p k=true then a.getD k 0 else b.getD k 0
section
variable {p q:Nat->Bool} {a b:List Int32}
theorem QD:(kR p a b).length=a.length:=by simp[kR]
theorem Ko{k:Nat}(h:k<a.length):a.getD k 0=a[k]:=by simp[List.getD_eq_getElem?_getD,h]
theorem Vm{k:Nat}(h:k<(kR p a b).length):(kR p a b)[k]=if p k=true then a.getD k 0 else b.getD k 0:=by simp[kR]
theorem EJ{k:Nat}(h:k<a.length):Ap (kR p a b) (k:Int)=some (if p k=true then a.getD k 0 else b.getD k 0):=by
 rw[Bm (by rw[QD];exact h),Vm]
theorem Xm(h:∀k,k<a.length->p k=q k):kR p a b=kR q a b:=by
 apply Bmu;intro k hk;rw[h k (List.mem_range.1 hk)]
theorem kI{k:Nat}(h:k<a.length):Nx (kR p a b) (k:Int) (a.getD k 0)=some (kR (λj=>p j||decide (j=k)) a b):=by
 rw[Wf _ (by rw[QD];exact h)];congr 1;apply Bdp (by simp[QD]);intro i h1 h2;rw[Boa,Vm,Vm];by_cases hi:k=i
 ·subst hi;simp
 ·have:¬i=k:=λe=>hi e.symm;simp[hi,this]
theorem tA(h:∀k,k<a.length->p k=true):kR p a b=a:=by
 apply Bdp (by simp[QD]);intro i h1 h2;rw[Vm,Aas (h i h2),Ko h2]
theorem rO(hl:b.length=a.length)(h:∀k,k<a.length->p k=false):kR p a b=b:=by
 apply Bdp (by simp[QD,hl]);intro i h1 h2;rw[Vm,h i (by omega)];simp[List.getD_eq_getElem?_getD,h2]
end
theorem Aez(a b:Int32):Bg a b=a*b:=by
 rw[Bg,cG,cG,Alp,Int32.ofInt_mul,Bg0,Bg0]
theorem CU(a:Int32): -2147483648<=a.toInt/\a.toInt<2147483648:=⟨a.le_toInt,a.toInt_lt⟩
theorem Ge(a:Int32):(Af a:Int)=a.toInt:=by
 have:=CU a
 show wrap64 a.toInt=_;rw[Dg]<;>omega
theorem XF(n:Int):(Af n:Int32)=Int32.ofInt n:=rfl
theorem Ayk(x:Int):Int32.ofInt (x %4294967296)=Int32.ofInt x:=by
 apply Int32.toInt_inj.1;rw[Bly,Bly];exact Int.emod_bmod x 4294967296
theorem Ada(x:Int):Dm x=some (Int32.ofInt x):=by
 have e1:(Af x:UInt64).toNat=(x %18446744073709551616).toNat:=by
  rw[Aoz,Amh,Ac1 (by omega)]
 have e2:(Af (Af x:UInt64):UInt32).toNat=(x %4294967296).toNat:=by
  have e:(Af (Af x:UInt64):UInt32)=UInt32.ofNat (Af x:UInt64).toNat:=by simp only[Af,Lj,Gg]
  rw[e,Anh,e1];show(x %18446744073709551616).toNat %4294967296=_;omega
 have e3:(Af (Af (Af x:UInt64):UInt32):Int32)=Int32.ofInt ((Af (Af x:UInt64):UInt32).toNat:Int):=rfl;rw[Dm,e3,e2,<-Ayk x];congr 2;omega
theorem yK(a b:Int32):Dm (Ad (Af a:Int) (Af b:Int))=some (a+b):=by
 have:=CU a;have:=CU b;rw[Ge,Ge,Ah (by omega) (by omega),Ada,Int32.ofInt_add,Bg0,Bg0]
theorem Bb6(a b:Int32):Dm (Bg (Af a:Int) (Af b:Int))=some (a*b):=by
 have ha:=CU a;have hb:=CU b;have h1: -9223372036854775808<=a.toInt*b.toInt/\a.toInt*b.toInt<=9223372036854775807:=by
  have h2:(a.toInt*b.toInt).natAbs<=2147483648*2147483648:=by
   rw[Int.natAbs_mul];exact Bds (by omega) (by omega)
  omega
 rw[Ge,Ge,Fc h1.1 h1.2,Ada,Int32.ofInt_mul,Bg0,Bg0]
def OkF(s:Int)(t p:List Int32):Prop:=(s=9\/s=10)/\t.length=16/\p.length=16
theorem zR{s:Int}{t p:List Int32}(h:OkF s t p):NZ s t p=some 0:=by
 obtain⟨rfl|rfl,_,_⟩:=h<;>rfl
theorem g32{l:List Int32}{k:Nat}(h:k<l.length):Ap l (k:Int)=some (l.getD k 0):=by
 rw[Bm h];simp[List.getD_eq_getElem?_getD,h]
def oO(t p:List Int32):Nat->Int32
 |0=>0
 |i+1=>oO t p i+t.getD i 0*p.getD i 0
def half(s:Int):Int32:=if s=9 then 256 else 512
def gF(s:Int)(t p:List Int32):Int32:=Int32.ofInt ((half s+oO t p 16).toInt.fdiv (if s=9 then 512 else 1024))
theorem Ajo{s:Int}{t p:List Int32}(h:OkF s t p):∀(j i q:Nat),i+j=16->j<q->Xl t s p q (half s+oO t p i) (i:Int)=some (gF s t p,0)
 |0,i,q+1,hi,_=>by
  obtain rfl:i=16:=by omega
  have hs:=h.1;rw[Xl,QE,Aaf (by rw[Ae];simp),dV,tS,Bu (by rw[Ds];simp;omega),Aa];obtain rfl|rfl:=hs<;>rfl
 |j+1,i,q+1,hi,hq=>by
  obtain⟨hs,ht,hp⟩:=h;rw[Xl,QE,Aas (by rw[Ae];simp;omega),g32 (by omega),Aa,g32 (by omega),Aa,Aa,Ah (b:=1) (by omega) (by omega),fJ,Aez,Int32.add_assoc];exact Ajo ⟨hs,ht,hp⟩ j (i+1) q (by omega) (by omega)
theorem Aqr{s:Int}{t p:List Int32}(h:OkF s t p):ZC s t p=some (gF s t p,0):=by
 have hs:=h.1;have h1:=Ajo h 16 0 Au (by omega) (by have:=Aq;omega);have e:Dp (1:Int32) (GI.toZ (Ao s (1:Int))).toNat=half s+oO t p 0:=by
  obtain rfl|rfl:=hs<;>rfl
 rw[ZC,eK,zR h,Aa,Aaf (by rw[Al];simp),Bu (by rw[Ds,Bs (by omega) (by omega)];simp;omega),Aa,eO,e];exact h1
theorem Ahf{s:Int}{t p:List Int32}(ht:t.length=16)(hp:p.length=16){g:Int32}(hg:oO t p 16=g):∀(j i q:Nat),i+j=16->j<q->Oh s t p q (oO t p i).toInt (i:Int)=some g
 |0,i,q+1,hi,_=>by
  obtain rfl:i=16:=by omega
  rw[Oh,CM,Aaf (by rw[Ae];simp),VT,VN,XF,Bg0,hg]
 |j+1,i,q+1,hi,hq=>by
  have ih:=Ahf (s:=s) ht hp hg j (i+1) q (by omega) (by omega);rw[oO]at ih;rw[Oh,CM,Aas (by rw[Ae];simp;omega),g32 (by omega),g32 (by omega),Aa,Aa,Aa,Aa,Bb6,Aa,<-Ge (oO t p i),yK,Aa,Ge,Ah (by omega) (by omega)];exact ih
theorem Bb9{s:Int}{t p:List Int32}(h:OkF s t p):fV s t p=some (oO t p 16):=
 Ahf h.2.1 h.2.2 rfl 16 0 Au (by omega) (by have:=Aq;omega)
theorem Aww(x n:Int)(hn:n=512\/n=1024\/n=16\/n=32):(if x.tmod n<0 then x.tdiv n-1 else x.tdiv n)=x.fdiv n:=by
 have hs:n.sign=1:=by obtain rfl|rfl|rfl|rfl:=hn<;>rfl
 rw[Int.tdiv_eq_ediv,Int.tmod_eq_emod,hs,Atp _ (by omega)];by_cases h:0<=x\/n∣x
 ·rw[Aas h,Aas h];obtain rfl|rfl|rfl|rfl:=hn<;>(rw[Aaf (by omega)];omega)
 ·rw[Aaf h,Aaf h];obtain rfl|rfl|rfl|rfl:=hn<;>(rw[Aas (by omega)];omega)
theorem Afc(x n:Int)(hn:n=512\/n=1024\/n=16\/n=32)(h: -1000000000000<=x)(h':x<=1000000000000): -1000000000000<=x.tdiv n/\x.tdiv n<=1000000000000:=by
 have hs:n.sign=1:=by obtain rfl|rfl|rfl|rfl:=hn<;>rfl
 rw[Int.tdiv_eq_ediv,hs];by_cases h:0<=x\/n∣x
 ·rw[Aas h];obtain rfl|rfl|rfl|rfl:=hn<;>omega
 ·rw[Aaf h];obtain rfl|rfl|rfl|rfl:=hn<;>omega
theorem Blo(x n:Int)(hn:n=512\/n=1024\/n=16\/n=32)(h: -1000000000000<=x)(h':x<=1000000000000):Ca x n=x.tdiv n:=by
 have:=Afc x n hn h h';rw[UU,Dg (by omega) (by omega)]
theorem Aph(x n:Int)(hn:n=512\/n=1024\/n=16\/n=32)(h: -1000000000000<=x)(h':x<=1000000000000):
  (if(Cl (Gc x n) (0:Int))=true then some (Af (Ao (Ca x n) (1:Int)):Int32)else some (Af (Ca x n):Int32))=some (Int32.ofInt (x.fdiv n)):=by
 have hb:=Afc x n hn h h';rw[Ae,Gc,Blo x n hn h h',Bs (by omega) (by omega),XF,XF,<-Aww x n hn];by_cases hx:x.tmod n<0
 ·rw[Aas (by simpa using hx),Aas hx]
 ·rw[Aaf (by simpa using hx),Aaf hx]
theorem Bf4{s:Int}{t p:List Int32}(h:OkF s t p):KQ s t p=some (gF s t p):=by
 obtain⟨hs,ht,hp⟩:=h;have h:OkF s t p:=⟨hs,ht,hp⟩;have hx:=CU (oO t p 16+half s);have key:∀n:Int,(n=512\/n=1024)-> (half s).toInt=n/2->gF s t p=Int32.ofInt ((half s+oO t p 16).toInt.fdiv n)->AF s t p n=some (gF s t p):=by
  intro n hn hh hg;have e2:Ca n (2:Int)=(half s).toInt:=by rw[hh];obtain rfl|rfl:=hn<;>rfl
  rw[AF,QX,Bb9 h,Aa,e2,<-Ge (half s),yK,Aa,Bu (by rw[Al];simp;omega),Aa,Aa,Ge,Aph _ n (by omega) (by omega) (by omega),hg,Int32.add_comm]
 rw[KQ,SA];obtain rfl|rfl:=hs
 ·rw[Aas (by rw[Ar];rfl)];exact key 512 (.inl rfl) rfl rfl
 ·rw[Aaf (by rw[Ar];decide)];exact key 1024 (.inr rfl) rfl rfl
def stp(i:Nat):Int32:=if i=0 then 4 else if i<4 then 2 else 1
def sg(x:Int32):Int32:=if x.toInt<0 then -1 else if 0<x.toInt then 1 else 0
def lrn(t p:List Int32)(w:Int32):List Int32:=(List.range 16).map λi=>t.getD i 0+stp i*sg (p.getD i 0)*sg w
theorem IA(t p:List Int32)(w:Int32):(lrn t p w).length=16:=by simp[lrn]
theorem Alo(t p:List Int32)(w:Int32){i:Nat}(h:i<16):(lrn t p w).getD i 0=t.getD i 0+stp i*sg (p.getD i 0)*sg w:=by
 rw[Ko (by rw[IA];exact h)];simp[lrn]
theorem step_eq(i:Nat):fL (i:Int)=some (stp i):=by
 rw[fL,stp];by_cases h:i=0
 ·rw[Aas (by rw[Ar];simp[h]),Aas h]
 ·rw[Aaf (by rw[Ar];simp;omega),Aaf h];by_cases h2:i<4
  ·rw[Aas (by rw[Ae];simp;omega),Aas h2]
  ·rw[Aaf (by rw[Ae];simp;omega),Aaf h2]
theorem Ayq(i:Nat):ID (i:Int)=some (stp i):=by
 rw[ID,stp];by_cases h:i=0
 ·rw[Aas (by rw[Ar];simp[h]),Aas h]
 ·rw[Aaf (by rw[Ar];simp;omega),Aaf h];by_cases h2:i<4
  ·rw[Aas (by rw[SL];simp;omega),Aas h2]
  ·rw[Aaf (by rw[SL];simp;omega),Aaf h2]
theorem Am0(a b:Int32):Cl a b=decide (a.toInt<b.toInt):=rfl
theorem Atj(a b:Int32):Ef a b=decide (b.toInt<a.toInt):=rfl
theorem sign_eq(x:Int32):Zc x=some (sg x):=by
 rw[Zc,sg,Am0,Atj,show(0:Int32).toInt=0 from rfl];by_cases h:x.toInt<0
 ·rw[Aas (by simpa using h),Aas h]
 ·rw[Aaf (by simpa using h),Aaf h];by_cases h2:0<x.toInt
  ·rw[Aas (by simpa using h2),Aas h2]
  ·rw[Aaf (by simpa using h2),Aaf h2]
theorem Avr:sg 0=0:=rfl
theorem toInt_ne{x:Int32}(h:x≠0):x.toInt≠0:=λe=>h (Int32.toInt_inj.1 (by rw[e];rfl))
theorem Amp{x:Int32}(h:x.toInt<0):sg x= -1:=by rw[sg,Aas h]
theorem Ale{x:Int32}(h:x≠0)(h2:¬x.toInt<0):sg x=1:=by
 have:=toInt_ne h;rw[sg,Aaf h2,Aas (by omega)]
theorem sM(i:Nat):stp i=4\/stp i=2\/stp i=1:=by
 unfold stp;by_cases h:i=0
 ·rw[Aas h];exact .inl rfl
 ·rw[Aaf h];split;exact .inr (.inl rfl);exact .inr (.inr rfl)
theorem Aw3{x w:Int32}(hx:x≠0)(hw:w≠0)(h:(x.toInt<0)=(w.toInt<0))(i:Nat):stp i*sg x*sg w=stp i:=by
 by_cases h1:x.toInt<0
 ·rw[Amp h1,Amp (by rw[<-h];exact h1)];obtain e|e|e:=sM i<;>rw[e]<;>decide
 ·rw[Ale hx h1,Ale hw (by rw[<-h];exact h1)];obtain e|e|e:=sM i<;>rw[e]<;>decide
theorem As2{x w:Int32}(hx:x≠0)(hw:w≠0)(h:¬(x.toInt<0)=(w.toInt<0))(i:Nat)(a:Int32):a+stp i*sg x*sg w=a-stp i:=by
 have key:stp i*sg x*sg w=-stp i:=by
  by_cases h1:x.toInt<0
  ·have h2:¬w.toInt<0:=λh2=>h (propext ⟨λ_=>h2,λ_=>h1⟩);rw[Amp h1,Ale hw h2];obtain e|e|e:=sM i<;>rw[e]<;>decide
  ·have h2:w.toInt<0:=Decidable.by_contra λh2=>h (propext ⟨λh3=>absurd h3 h1,λh3=>absurd h3 h2⟩);rw[Ale hx h1,Amp h2];obtain e|e|e:=sM i<;>rw[e]<;>decide
 rw[key,Int32.sub_eq_add_neg]
def yD(i:Nat):Nat->Bool:=λj=>decide (j<i)
theorem Agm{a b:List Int32}{i:Nat}(h:i<a.length):Nx (kR (yD i) a b) (i:Int) (a.getD i 0)=some (kR (yD (i+1)) a b):=by
 rw[kI h];congr 1;apply Xm;intro k _;rw[Anb];simp only[yD,Bdh,Acw];omega
theorem Awq{a b:List Int32}{i:Nat}(e:a.getD i 0=b.getD i 0):kR (yD i) a b=kR (yD (i+1)) a b:=by
 apply Bmu;intro k _;simp only[yD,Acw];by_cases h1:k<i
 ·rw[Aas h1,Aas (by omega)]
 ·by_cases h2:k=i
  ·subst h2;rw[Aaf h1,Aas (by omega),e]
  ·rw[Aaf h1,Aaf (by omega)]
theorem Ap2{a b:List Int32}{i:Nat}(h:i<a.length):Ap (kR (yD i) a b) (i:Int)=some (b.getD i 0):=by
 rw[EJ h,Aaf (by simp[yD])]
theorem Akt{s:Int}{t p:List Int32}{w:Int32}(hw:w≠0)(ht:t.length=16)(hp:p.length=16):∀(j i q:Nat),i+j=16->j<q->Xd w p s q (i:Int) (kR (yD i) (lrn t p w) t)=some (s,lrn t p w,p,0)
 |0,i,q+1,hi,_=>by
  obtain rfl:i=16:=by omega
  rw[Xd,QU,Aaf (by rw[Ae];simp),tA (λk hk=>by rw[IA]at hk;simpa [yD]using hk)];rfl
 |j+1,i,q+1,hi,hq=>by
  have hl:=IA t p w;have hg:=Alo t p w (i:=i) (by omega);rw[Xd,QU,Aas (by rw[Ae];simp;omega),g32 (by omega),Aa,Ah (b:=1) (by omega) (by omega),Ap2 (by omega),step_eq];simp only[Aa];rw[fJ,YR,At6,Am0,Am0,show(0:Int32).toInt=0 from rfl];have ih:=Akt (s:=s) hw ht hp j (i+1) q (by omega) (by omega);by_cases hx:p.getD i 0=0
  ·rw[Aas (by rw[hx];rfl),Awq (by rw[hg,hx,Avr,Int32.mul_zero,Int32.zero_mul,Int32.add_zero])];exact ih
  ·rw[Aaf (by simpa using hx)];by_cases hs:((p.getD i 0).toInt<0)=(w.toInt<0)
   ·rw[Aas (by rw[Aue];simp only[hs]),show t.getD i 0+stp i=(lrn t p w).getD i 0 by rw[hg,Aw3 hx hw hs],Agm (by omega),Aa];exact ih
   ·rw[Aaf (by rw[Aue,decide_eq_decide];exact λh=>hs (propext h)),show t.getD i 0-stp i=(lrn t p w).getD i 0 by rw[hg,As2 hx hw hs],Agm (by omega),Aa];exact ih
theorem Bat{t:List Int32}(p:List Int32)(ht:t.length=16):lrn t p 0=t:=by
 apply Bdp (by rw[IA,ht]);intro i h1 h2;have:=Alo t p 0 (i:=i) (by omega);rw[Ko h1,Ko h2]at this;rw[this,Avr,Int32.mul_zero,Int32.add_zero]
theorem Aol{s:Int}{t p:List Int32}(h:OkF s t p)(w:Int32):lM s t p w=some (s,lrn t p w,p,0):=by
 rw[lM,dE,zR h,Aa,Aaf (by rw[Al];simp),At6];by_cases hw:w=0
 ·rw[Aas (by simpa using hw),hw,Bat p h.2.1]
 ·have h1:=Akt (s:=s) hw h.2.1 h.2.2 16 0 Au (by omega) (by have:=Aq;omega);rw[rO (by rw[IA,h.2.1]) (λk _=>by simp[yD])]at h1;rw[Aaf (by simpa using hw)];exact h1
theorem wV{s:Int}{t p:List Int32}{w:Int32}(ht:t.length=16)(hp:p.length=16):∀(j i q:Nat),i+j=16->j<q->Jo w s p q (i:Int) (kR (yD i) (lrn t p w) t)=some (s,lrn t p w,p)
 |0,i,q+1,hi,_=>by
  obtain rfl:i=16:=by omega
  rw[Jo,Va,Aaf (by rw[Ae];simp),tA (λk hk=>by rw[IA]at hk;simpa [yD]using hk)];rfl
 |j+1,i,q+1,hi,hq=>by
  have hl:=IA t p w;have hg:=Alo t p w (i:=i) (by omega);rw[Jo,Va,Aas (by rw[Ae];simp;omega),g32 (l:=p) (by omega),Ah (b:=1) (by omega) (by omega),Ap2 (by omega),Ayq,sign_eq w,Aa,Aa,Aa,Aa,Aa,sign_eq,Aa,Aa,Aa,fJ,Aez,Aez,<-hg,Agm (by omega),Aa];exact wV ht hp j (i+1) q (by omega) (by omega)
theorem Asc{s:Int}{t p:List Int32}(h:OkF s t p)(w:Int32):TL s t p w=some (s,lrn t p w,p):=by
 have h1:=wV (s:=s) (w:=w) h.2.1 h.2.2 16 0 Au (by omega) (by have:=Aq;omega);rw[rO (by rw[IA,h.2.1]) (λk _=>by simp[yD])]at h1;exact h1
theorem Be8{p:List Int32}(h:p.length=16):∃a0 a1 a2 a3 a4 a5 a6 a7 a8 a9 b0 b1 b2 b3 b4 b5,p=[a0,a1,a2,a3,a4,a5,a6,a7,a8,a9,b0,b1,b2,b3,b4,b5]:=by
 match p,h with
 |[a0,a1,a2,a3,a4,a5,a6,a7,a8,a9,b0,b1,b2,b3,b4,b5],_=>exact⟨a0,a1,a2,a3,a4,a5,a6,a7,a8,a9,b0,b1,b2,b3,b4,b5,rfl⟩
theorem Avl{s:Int}{t p:List Int32}(h:OkF s t p)(x:Int32):sT s t p x=some (s,t,x::p.take 15,0):=by
 obtain⟨hs,ht,hp⟩:=h;rw[sT,WG,zR ⟨hs,ht,hp⟩,Aa,Aaf (by rw[Al];simp),show fG (16:Int) 1 16=some ()from rfl,Aa,show fG (16:Int) 0 16=some ()from rfl,Aa,jM,xF];obtain⟨a0,a1,a2,a3,a4,a5,a6,a7,a8,a9,b0,b1,b2,b3,b4,b5,rfl⟩:=Be8 hp;rfl
def shf(p:List Int32)(i:Nat):List Int32:=(List.range 16).map λk=>if k<=i then p.getD k 0 else p.getD (k-1) 0
theorem EK(p:List Int32)(i:Nat):(shf p i).length=16:=by simp[shf]
theorem Bfb(p:List Int32)(i k:Nat)(h:k<16):(shf p i).getD k 0=if k<=i then p.getD k 0 else p.getD (k-1) 0:=by
 rw[Ko (by rw[EK];exact h)];simp[shf]
theorem Bgi(p:List Int32)(i:Nat)(h:i+1<16):Nx (shf p (i+1)) ((i+1:Nat):Int) (p.getD i 0)=some (shf p i):=by
 rw[Wf _ (by rw[EK];exact h)];congr 1;apply Bdp (by simp[EK]);intro k h1 h2;rw[EK]at h2;rw[Boa];simp only[shf,Bmh,Bme];by_cases hk:i+1=k
 ·subst hk;rw[Aas rfl,Aaf (by omega)];rfl
 ·rw[Aaf hk];by_cases h3:k<=i
  ·rw[Aas (by omega),Aas h3]
  ·rw[Aaf (by omega),Aaf h3]
theorem Aco(s:Int)(t p:List Int32)(x:Int32)(hp:p.length=16):∀(i q:Nat),i<16->i<q->Kt x s t q (i:Int) (shf p i)=some (s,t,x::p.take 15)
 |0,q+1,_,_=>by
  have hg:Ap (shf p 0) (0:Int)=some ((shf p 0).getD 0 0):=g32 (l:=shf p 0) (k:=0) (by rw[EK];omega);have hset:Nx (shf p 0) (0:Int) x=some ((shf p 0).set 0 x):=Wf (l:=shf p 0) (n:=0) x (by rw[EK];omega);rw[Kt,Wj,Aaf (by rw[As];simp),MH,JR,hg,Aa,hset,Aa];congr 3;apply Bdp (by simp[EK,hp]);intro k h1 h2;rw[Bl9,EK]at h1;rw[Boa];cases k with
  |zero=>rw[Aas rfl];rfl
  |succ k=>
   rw[Aaf (by omega)];simp only[shf,Bmh,Bme,List.getElem_cons_succ,List.getElem_take];rw[Aaf (by omega),Nat.add_sub_cancel,Ko (by omega)]
 |i+1,q+1,hi,hq=>by
  have hg:=g32 (l:=shf p (i+1)) (k:=i) (by rw[EK];omega);rw[Bfb p (i+1) i (by omega),Aas (by omega)]at hg;have e1:Ao ((i+1:Nat):Int) (1:Int)=(i:Int):=by rw[Bs (by omega) (by omega)];omega
  have hg2:=g32 (l:=shf p (i+1)) (k:=i+1) (by rw[EK];omega);rw[Kt,Wj,Aas (by rw[As];simp),e1,hg,Aa,Aa,hg2,Aa,Bgi p i hi,Aa];exact Aco s t p x hp i q (by omega) (by omega)
theorem Awe{s:Int}{t p:List Int32}(hp:p.length=16)(x:Int32):VK s t p x=some (s,t,x::p.take 15):=by
 have h:=Aco s t p x hp 15 Au (by omega) (by have:=Aq;omega);have e:shf p 15=p:=by
  apply Bdp (by rw[EK,hp]);intro k h1 h2;rw[EK]at h1;simp only[shf,Bmh,Bme];rw[Aas (by omega),Ko h2]
 rw[e]at h;exact h
theorem Bab{s:Int}{t p:List Int32}(h:OkF s t p)(w x:Int32):OkF s (lrn t p w) (x::p.take 15):=⟨h.1,IA _ _ _,by simp[h.2.2]⟩
theorem Beq{s:Int}{t p:List Int32}(h:OkF s t p)(y:Int32):pP s t p y=some (y+gF s t p,s,lrn t p y,(y+gF s t p)::p.take 15,0):=by
 rw[pP,Aqr h,Aa];simp only;rw[Aaf (by rw[Al];simp),fJ,ZR,Aol h,Aa];simp only;rw[Avl (s:=s) (t:=lrn t p y) (p:=p) ⟨h.1,IA _ _ _,h.2.2⟩,Aa];rfl
theorem Ayj{s:Int}{t p:List Int32}(h:OkF s t p)(y:Int32):Zl s t p y=some (y+gF s t p,s,lrn t p y,(y+gF s t p)::p.take 15):=by
 rw[Zl,Bf4 h,Aa,yK,Aa,Asc h,Aa];simp only;rw[Awe h.2.2,Aa]
def sB(bits:Int):Int:=if bits=16 then 9 else 10
def shB(bits:Int):Int:=if bits=8 then 4 else 5
def Bk(bits:Int):Prop:=bits=8\/bits=16\/bits=24
def gs(sh:Int)(last:Int32):Int32:=Af (Amz (Ao (Dp (Af last:Int) sh.toNat) (Af last)) sh.toNat)
theorem Bk9(bits:Int):sB bits=9\/sB bits=10:=by unfold sB;split<;>simp
theorem Bfq(bits:Int):0<=shB bits:=by unfold shB;split<;>omega
theorem Bmr{bits:Int}(h:Bk bits)(t:List Int32):yB bits t=some (sB bits,t,List.replicate 16 0,0):=by
 obtain rfl|rfl|rfl:=h<;>rfl
theorem Bh2{bits:Int}(h:Bk bits):oL bits=some (shB bits,0):=by
 obtain rfl|rfl|rfl:=h<;>rfl
theorem Bi0{sh:Int}(h:0<=sh)(last:Int32):cD sh last=some (gs sh last):=by
 rw[cD,Bu (by rw[Ds];simpa using h),Aa,Aa];rfl
theorem Bas{bits:Int}(h:Bk bits)(last:Int32):AS bits last=some (gs (shB bits) last,0):=by
 rw[AS,Bh2 h,Aa];simp only;rw[Aaf (by rw[Al];simp),Bi0 (Bfq bits),Aa]
theorem Ae9{bits:Int}(h:Bk bits)(last:Int32)(t p:List Int32):Zw bits last (sB bits) t p=some 0:=by
 rw[Zw,Bmr h,Aa];simp only;rw[Aaf (by rw[Al,Al];simp)]
theorem Av4{bits:Int}(h:Bk bits){t p:List Int32}(hF:OkF (sB bits) t p)(last y:Int32):
  Nv bits last (sB bits) t p y=some (y+gF (sB bits) t p+gs (shB bits) last,bits,y+gF (sB bits) t p+gs (shB bits) last,sB bits,lrn t p y,(y+gF (sB bits) t p)::p.take 15,0):=by
 rw[Nv,Ae9 h,Aa,Aaf (by rw[Al];simp),Bas h,Aa];simp only;rw[Beq hF,Aa];simp only;rw[fJ]
theorem zO(sh:Int)(hs:sh=4\/sh=5)(last:Int32):Uc sh last=some (gs sh last):=by
 have hl:=CU last;have key:∀n:Int,n=16\/n=32->gs sh last=Int32.ofInt (((n-1)*last.toInt).fdiv n)->We last n=some (gs sh last):=by
  intro n hn hg;have e:Bg (Ao n (1:Int)) (Af last:Int)=(n-1)*last.toInt:=by
   obtain rfl|rfl:=hn<;>(rw[Ge,Bs (by omega) (by omega),Fc (by omega) (by omega)])
  rw[We,KS,Bu (by rw[Al];simp;omega),Aa,Aa,e,Aph _ n (by omega) (by obtain rfl|rfl:=hn<;>omega) (by obtain rfl|rfl:=hn<;>omega),hg]
 rw[Uc,IV];obtain rfl|rfl:=hs
 ·rw[Aaf (by rw[Ar];decide)];refine key 16 (.inl rfl) ?_;have e:Dp (Af last:Int) (4:Int).toNat=last.toInt*16:=by
   rw[Ge];show wrap64 (last.toInt*2^4)=_;rw[Dg]<;>omega
  rw[gs,e,Ge,Bs (by omega) (by omega),XF]
  show Int32.ofInt ((last.toInt*16-last.toInt).fdiv 16)=_;congr 2;omega
 ·rw[Aas (by rw[Ar];rfl)];refine key 32 (.inr rfl) ?_;have e:Dp (Af last:Int) (5:Int).toNat=last.toInt*32:=by
   rw[Ge];show wrap64 (last.toInt*2^5)=_;rw[Dg]<;>omega
  rw[gs,e,Ge,Bs (by omega) (by omega),XF]
  show Int32.ofInt ((last.toInt*32-last.toInt).fdiv 32)=_;congr 2;omega
theorem Axe{bits:Int}(h:Bk bits){t p:List Int32}(hF:OkF (sB bits) t p)(last y:Int32):
  Zh bits last (sB bits) t p y=some (y+gF (sB bits) t p+gs (shB bits) last,bits,y+gF (sB bits) t p+gs (shB bits) last,sB bits,lrn t p y,(y+gF (sB bits) t p)::p.take 15):=by
 have hb:DE bits last (sB bits) t p=some (Af (gs (shB bits) last):Int):=by
  rw[DE];obtain rfl|rfl|rfl:=h
  ·rw[Aas (by rw[Ar];rfl),zO 4 (.inl rfl),Aa];rfl
  ·rw[Aaf (by rw[Ar];decide),zO 5 (.inr rfl),Aa];rfl
  ·rw[Aaf (by rw[Ar];decide),zO 5 (.inr rfl),Aa];rfl
 rw[Zh,Ayj hF,Aa];simp only;rw[hb,Aa,yK,Aa]
theorem Bk1{bits:Int}(h:Bk bits)(t:List Int32):fO bits t=some (bits,0,sB bits,t,List.replicate 16 0,0):=by
 obtain rfl|rfl|rfl:=h<;>rfl
def ZE(n:UInt32):Int32:=if n.toNat %2=0 then Int32.ofInt ((n.toNat/2:Nat):Int)else Int32.ofInt (-((n.toNat/2:Nat):Int)-1)
theorem Aq4(a b:Int32):(AI a b).toBitVec=a.toBitVec^^^b.toBitVec:=by
 show(Int32.ofInt ((BitVec.ofInt 32 a.toBitVec.toInt^^^BitVec.ofInt 32 b.toBitVec.toInt).toNat:Int)).toBitVec=_;rw[BitVec.ofInt_toInt,BitVec.ofInt_toInt,Int32.toBitVec_ofInt,BitVec.ofInt_natCast,BitVec.ofNat_toNat,BitVec.setWidth_eq]
theorem Ble(m:Nat)(h:m<2147483648):AI (Int32.ofInt (m:Int)) (Int32.ofInt (-1))=Int32.ofInt (-(m:Int)-1):=by
 apply Int32.toBitVec_inj.1;have e1:(Int32.ofInt (-1)).toBitVec=BitVec.allOnes 32:=by decide
 rw[Aq4,e1,BitVec.xor_allOnes,Int32.toBitVec_ofInt,Int32.toBitVec_ofInt];apply Bm1;rw[BitVec.toNat_not,Bj4,Bj4];omega
theorem Bbi(n:UInt32):BA n=some (ZE n):=by
 have hn:=n.toNat_lt;have e1:(Af (Ck n (GI.toZ (1:UInt64)).toNat):Int32)=Int32.ofInt ((n.toNat/2:Nat):Int):=by
  show Int32.ofInt ((Ck n 1).toNat:Int)=_;rw[SD]
 have e2:(Af (Er n (1:UInt32)):Int32)=Int32.ofInt ((n.toNat %2:Nat):Int):=by
  show Int32.ofInt ((Er n (1:UInt32)).toNat:Int)=_;rw[Agj,UInt32.toNat_and]
  show Int32.ofInt ((n.toNat&&&1:Nat):Int)=_;rw[Nat.and_one_is_mod]
 rw[BA,e1,e2,ZE];congr 1;by_cases h:n.toNat %2=0
 ·have e3:yP (Int32.ofInt ((n.toNat %2:Nat):Int))=Int32.ofInt 0:=by rw[h];decide
  rw[Aas h,e3];apply Int32.toBitVec_inj.1;rw[Aq4,show(Int32.ofInt 0).toBitVec=0#32 from rfl,BitVec.xor_zero]
 ·have e3:yP (Int32.ofInt ((n.toNat %2:Nat):Int))=Int32.ofInt (-1):=by rw[show n.toNat %2=1 by omega];decide
  rw[Aaf h,e3,Ble _ (by omega)]
theorem Bge(n:UInt32):JQ n=some (ZE n):=by
 have hn:=n.toNat_lt;have e1:geq (HQ n (2:UInt32)) (0:UInt32)=decide (n.toNat %2=0):=by
  rw[Amt,Aoa,Anb];simp only[Aue,<-UInt32.toNat_inj,UInt32.toNat_mod,Acw];rfl
 rw[JQ,e1,ZE];by_cases h:n.toNat %2=0
 ·rw[Aas (by simpa using h),Aas h,An1];rfl
 ·have e2:(Af n:Int)=(n.toNat:Int):=Afz n;rw[Aaf (by simpa using h),Aaf h,e2,Ah (by omega) (by omega),Ami,Dg (by omega) (by omega),UU,Int.tdiv_eq_ediv,XF];congr 2;rw[Aas (.inr (by omega)),Dg (by omega) (by omega)];omega
theorem uJ{c:Prop} [Decidable c](h:c):Lg (decide c)=some ():=by rw[Bju h];rfl
def unV(f:Nat->Int32)(ch:Nat):Nat->Int32
 |0=>if 1<ch then f (ch-1)+Ca (f (ch-2)) (2:Int32)else f (ch-1)
 |j+1=>unV f ch j-f (ch-2-j)
def unm(ch:Nat)(m:List Int32):List Int32:=(List.range m.length).map λk=>unV (λi=>m.getD (k-k %ch+i) 0) ch (ch-1-k %ch)
theorem lR(ch:Nat)(m:List Int32):(unm ch m).length=m.length:=by simp[unm]
theorem wY{ch:Nat}{m:List Int32}{a i:Nat}(ha:a %ch=0)(hi:i<ch)(h:a+i<m.length):(unm ch m).getD (a+i) 0=unV (λi=>m.getD (a+i) 0) ch (ch-1-i):=by
 have hb:(a+i) %ch=i:=by rw[Nat.add_mod,ha,Bdf,Nat.mod_mod,Ac1 hi]
 rw[Ko (by rw[lR];exact h)];simp only[unm,Bmh,Bme,hb];rw[show a+i-i=a by omega]
section
variable (ch:Nat) (m:List Int32)
theorem Anq(h1:1<=ch)(h6:ch<=6)(hm:m.length %ch=0)(hl2:m.length<=4000):gC (ch:Int) m=some 0:=by
 rw[gC,Aaf (by simp[Ae,As];omega),Aaf (by rw[As,Ac];simp;omega),Bu (by rw[Al];simp;omega),Aa,Aaf];rw[Al,Gc,Ac,<-Int.ofNat_tmod,hm];simp
theorem Ahm(bk:Int->List Int32->Option (List Int32×Int))(at':Nat)(h1:1<=ch)(h6:ch<=6)(hm:at' %ch=0)(hl:at'+ch<=m.length)(hl2:m.length<=4000):∀(i q:Nat),i<=ch-1->i<q->
  BS bk (ch:Int) (at':Int) q ((i:Int)-1) (kR (λk=>decide (k<at'\/ (at'+i<=k/\k<at'+ch))) (unm ch m) m)=bk ((at'+ch:Nat):Int) (kR (λk=>decide (k<at'+ch)) (unm ch m) m)
 |0,q+1,hi,_=>by
  have e4:Ad (at':Int) (ch:Int)=((at'+ch:Nat):Int):=by rw[Ah (by omega) (by omega)];omega
  rw[BS,WZ,Aaf (by rw[Ds];simp),lH,xD,e4];congr 1;apply Xm;intro k _;rw[Anb];simp;omega
 |i+1,q+1,hi,hq=>by
  have hlen:=lR ch m;have e2:Ad (at':Int) (ch:Int)-(at':Int)=(ch:Int):=by rw[Ah (by omega) (by omega)];omega
  have e3:Ad (i:Int) 1=((i+1:Nat):Int):=by rw[Ah (by omega) (by omega)];omega
  have hv:((unm ch m).getD (at'+(i+1)) 0-m.getD (at'+i) 0)=(unm ch m).getD (at'+i) 0:=by
   rw[wY hm (by omega) (by omega),wY hm (by omega) (by omega),show ch-1-i=(ch-1-(i+1))+1 by omega,unV,show ch-2-(ch-1-(i+1))=i by omega]
  rw[BS,WZ,show((i+1:Nat):Int)-1=(i:Int) by omega,Aas (by rw[Ds];simp),e2,e3,uJ (by omega),Aa,uJ (by omega),Aa,
   show(at':Int)+((i+1:Nat):Int)=((at'+(i+1):Nat):Int) by omega,show(at':Int)+(i:Int)=((at'+i:Nat):Int) by omega,
   EJ (by omega),Aa,EJ (by omega),Aa,Aa,Aas (by simp;omega),Aaf (by simp;omega),YR,hv,kI (by omega),Aa,Bs (by omega) (by omega)]
  have ih:=Ahm bk at' h1 h6 hm hl hl2 i q (by omega) (by omega);rw[<-ih];congr 1;apply Xm;intro k _;rw[Anb];simp;omega
theorem yV{at' ch n:Nat}(ha:at' %ch=0)(hm:n %ch=0)(h:at'<n):at'+ch<=n:=by
 have d1:=Bns at' ch;have d2:=Bns n ch;rw[ha,Bip]at d1;rw[hm,Bip]at d2;have hlt:at'/ch<n/ch:=by
  rcases Bn3 (at'/ch) (n/ch)with h'|h'
  ·exact h'
  ·have:=Bkl ch h';omega
 have:=Bkl ch (show at'/ch+1<=n/ch from hlt);rw[Nat.mul_add]at this;omega
theorem Akc(h1:1<=ch)(h6:ch<=6)(hm:m.length %ch=0)(hl2:m.length<=4000):∀(j at' q:Nat),at' %ch=0->at'<=m.length->m.length-at'<=j->j<q->
  Vu (ch:Int) q (at':Int) (kR (λk=>decide (k<at')) (unm ch m) m)=some (unm ch m,0)
 |j,at',q+1,ha,hle,hj,hq=>by
  have hlen:=lR ch m;have hl:Ac (kR (λk=>decide (k<at')) (unm ch m) m)=(m.length:Int):=by rw[Ac,QD,hlen]
  rw[Vu,jX,hl];by_cases h:at'<m.length
  ·have hb:=yV ha hm h;obtain⟨j,rfl⟩:∃k,j=k+1:=⟨j-1,by omega⟩;have e1:Ao (Ad (at':Int) (ch:Int)-(at':Int)) 1=((ch-1:Nat):Int):=by rw[Ah (by omega) (by omega),Bs (by omega) (by omega)];omega
   have e2:Ad (at':Int) (ch:Int)-(at':Int)=(ch:Int):=by rw[Ah (by omega) (by omega)];omega
   have e4:Ad (at':Int) (ch:Int)=((at'+ch:Nat):Int):=by rw[Ah (by omega) (by omega)];omega
   have hi:=Ahm ch m (Vu (ch:Int) q) at' h1 h6 ha hb hl2 (ch-1) Au (by omega) (by have:=Aq;omega);have hrest:=Akc h1 h6 hm hl2 j (at'+ch) q (by rw[Bn0,ha]) hb (by omega) (by omega);have hstart:WM (Vu (ch:Int) q) (ch:Int) (at':Int) (kR (λk=>decide (k<at'\/ (at'+(ch-1)<=k/\k<at'+ch))) (unm ch m) m)=some (unm ch m,0):=by
    have e6:Ao ((ch-1:Nat):Int) 1=((ch-1:Nat):Int)-1:=Bs (by omega) (by omega);rw[WM,kZ,jZ,e1,e6];exact Bj5 hi hrest
   rw[Aas (by rw[Ae];simp;omega),show fG (m.length:Int) (at':Int) (Ad (at':Int) (ch:Int))=some () by rw[e4,fG,uJ];omega,Aa,e1,e2];have hlast:=wY (m:=m) ha (show ch-1<ch by omega) (by omega);rw[show ch-1-(ch-1)=0 by omega,unV]at hlast;by_cases hc:1<ch
   ·have e5:Ao ((ch-1:Nat):Int) 1=((ch-2:Nat):Int):=by rw[Bs (by omega) (by omega)];omega
    rw[Aas hc]at hlast;rw[Aas (by rw[As];simp;omega),uJ (by omega),Aa,e5,uJ (by omega),Aa,show(at':Int)+((ch-1:Nat):Int)=((at'+(ch-1):Nat):Int) by omega,show(at':Int)+((ch-2:Nat):Int)=((at'+(ch-2):Nat):Int) by omega,
     EJ (by omega),Aa,EJ (by omega),Aa,Aa,Aaf (by simp),Aaf (by simp),fJ,<-hlast,kI (by omega),Aa]
    rw[<-hstart];congr 1;apply Xm;intro k _;rw[Anb];simp;omega
   ·have hc1:ch=1:=by omega
    rw[Aaf (by rw[As];simp;omega),<-hstart];congr 1;rw[Aaf hc]at hlast;apply Bmu;intro k hk;by_cases hk2:k=at'
    ·subst hk2;rw[Aaf (by simp),Aas (by simp;omega)];rw[show k+(ch-1)=k by omega]at hlast;exact hlast.symm
    ·by_cases hk3:k<at'
     ·rw[Aas (by simp;omega),Aas (by simp;omega)]
     ·rw[Aaf (by simp;omega),Aaf (by simp;omega)]
  ·rw[Aaf (by rw[Ae];simp;omega),tA (λk hk=>by simp;omega)];rfl
theorem Bes(h1:1<=ch)(h6:ch<=6)(hm:m.length %ch=0)(hl2:m.length<=4000):yZ (ch:Int) m=some (unm ch m,0):=by
 have hlen:=lR ch m;have h:=Akc ch m h1 h6 hm hl2 m.length 0 Au (by simp) (by omega) (by omega) (by have:=Aq;omega);rw[yZ,rN,Anq ch m h1 h6 hm hl2,Aa,Aaf (by rw[Al];simp),Dj,Bd (by simp;omega),Aa,Aa,Arc,jW];rw[rO hlen.symm (λk _=>by simp)]at h;exact h
end
def zW(f:Nat->Int32)(ch:Nat):List Int32:=(List.range ch).map λi=>unV f ch (ch-1-i)
theorem iL(f:Nat->Int32)(ch:Nat):(zW f ch).length=ch:=by simp[zW]
theorem xS(f:Nat->Int32){ch i:Nat}(h:i<ch):(zW f ch).getD i 0=unV f ch (ch-1-i):=by
 rw[Ko (by rw[iL];exact h)];simp[zW]
theorem Bbf(a b:Int32):Dm (Ao (Af a:Int) (Af b:Int))=some (a-b):=by
 have:=CU a;have:=CU b;rw[Ge,Ge,Bs (by omega) (by omega),Ada,Int32.ofInt_sub,Bg0,Bg0]
theorem Ax6(a b:Int32):Dm (Ad (Af a:Int) (Ca (Af b:Int) (2:Int)))=some (a+Ca b (2:Int32)):=by
 have:=CU a;have hb:=CU b;have hd: -2147483648<=b.toInt.tdiv 2/\b.toInt.tdiv 2<=2147483648:=by
  rw[Int.tdiv_eq_ediv,show Int.sign 2=1 from rfl];by_cases h:0<=b.toInt\/2∣b.toInt
  ·rw[Aas h];omega
  ·rw[Aaf h];omega
 have e:Ca b (2:Int32)=Int32.ofInt (b.toInt.tdiv 2):=rfl;rw[Ge,Ge,UU,Dg (by omega) (by omega),Ah (by omega) (by omega),Ada,Int32.ofInt_add,Bg0,e]
theorem yH(tC z:List Int32)(ch:Nat)(h6:ch<=6)(hs:tC.length=ch)(hz:z.length=ch):∀(i q:Nat),i+1<=ch->i<q->
  Jl tC q ((i:Int)-1) (kR (λk=>decide (i<=k)) (zW (λi=>tC.getD i 0) ch) z)=some (zW (λi=>tC.getD i 0) ch)
 |0,q+1,hi,_=>by
  rw[Jl,Uz,Aaf (by rw[Ds];simp),tA (λk hk=>by simp)];rfl
 |i+1,q+1,hi,hq=>by
  have hlen:=iL (λi=>tC.getD i 0) ch;have e3:Ad (i:Int) 1=((i+1:Nat):Int):=by rw[Ah (by omega) (by omega)];omega
  have hv:(zW (λi=>tC.getD i 0) ch).getD (i+1) 0-tC.getD i 0=(zW (λi=>tC.getD i 0) ch).getD i 0:=by
   rw[xS _ (by omega),xS _ (by omega),show ch-1-i=(ch-1-(i+1))+1 by omega,unV,show ch-2-(ch-1-(i+1))=i by omega]
  rw[Jl,Uz,show((i+1:Nat):Int)-1=(i:Int) by omega,Aas (by rw[Ds];simp),e3,EJ (by omega),Aa,g32 (by omega),Aa,Aa,Aas (by simp),Bbf,Aa,EJ (by omega),Aa,hv,kI (by omega),Aa,Bs (by omega) (by omega)];have ih:=yH tC z ch h6 hs hz i q (by omega) (by omega);rw[<-ih];congr 1;apply Xm;intro k _;rw[Anb];simp;omega
theorem Aqu{l:List Int32}{i:Nat}(v:Int32)(h:i<l.length):(l.set i v).getD i 0=v:=by
 rw[Ko (by rw[Bl9];exact h)];simp
theorem Aro(tC:List Int32)(ch:Nat)(h1:1<=ch)(h6:ch<=6)(hs:tC.length=ch):AV tC=some (zW (λi=>tC.getD i 0) ch):=by
 have hlen:=iL (λi=>tC.getD i 0) ch;have hzl:(List.replicate ch (0:Int32)).length=ch:=by simp
 have e1:Ao (Ac tC) 1=((ch-1:Nat):Int):=by rw[Ac,hs,Bs (by omega) (by omega)];omega
 have e2:Ao (Ac tC) 2=((ch-1:Nat):Int)-1:=by rw[Ac,hs,Bs (by omega) (by omega)];omega
 have hlast:=xS (λi=>tC.getD i 0) (show ch-1<ch by omega);rw[show ch-1-(ch-1)=0 by omega,unV]at hlast;have hend:∀z:List Int32,z.length=ch->z.getD (ch-1) 0=(zW (λi=>tC.getD i 0) ch).getD (ch-1) 0->Vd tC z=some (zW (λi=>tC.getD i 0) ch):=by
  intro z hz hzl;have h:=yH tC z ch h6 hs hz (ch-1) Au (by omega) (by have:=Aq;omega);have e:kR (λk=>decide (ch-1<=k)) (zW (λi=>tC.getD i 0) ch) z=z:=by
   apply Bdp (by rw[QD,hlen,hz]);intro k k1 k2;rw[Vm];by_cases hk:ch-1<=k
   ·obtain rfl:k=ch-1:=by omega
    rw[Aas (by simp),<-hzl,Ko k2]
   ·rw[Aaf (by simpa using hk),Ko k2]
  rw[e]at h;rw[Vd,HA,e2];exact h
 rw[AV,GK,Ac,hs,uA (by omega) (by omega),Aa,Bu (by rw[Ar];simp),Aa];rw[Ac,hs]at e1;rw[Ac,hs]at e2;have hz1:(List.replicate (Int.toNat (ch:Int)) (0:Int32)).length=ch:=by simp
 have hs1:=g32 (l:=tC) (k:=ch-1) (by omega);rw[e1,hs1,Aa,g32 (by omega),Aa,Wf _ (by omega),Aa];by_cases hc:1<ch
 ·rw[Aas hc]at hlast;have e3:((ch-1:Nat):Int)-1=((ch-2:Nat):Int):=by omega
  have hs2:=g32 (l:=tC) (k:=ch-2) (by omega);rw[Aas (by rw[As];simp;omega),Aa,e2,e3,hs2,Aa,Ax6,Aa,g32 (by rw[Bl9];omega),Aa,Wf _ (by rw[Bl9];omega),Aa];refine hend _ (by simp) ?_;rw[hlast,Aqu _ (by rw[Bl9];omega)]
 ·rw[Aaf hc]at hlast;rw[Aaf (by rw[As];simp;omega)];refine hend _ (by simp) ?_;rw[hlast,Aqu _ (by omega)]
theorem Bdz(ch:Nat)(m:List Int32)(h1:1<=ch)(h6:ch<=6)(hm:m.length %ch=0)(hl2:m.length<=4000):Wc (ch:Int) m=some 0:=by
 rw[Wc,Aaf (by simp[Ae,As];omega),Aaf (by rw[As,Ac];simp;omega),Bu (by rw[Al];simp;omega),Aa,Aaf];rw[As,Gc,Ac,<-Int.ofNat_tmod,hm];simp
theorem Aci(ch:Nat)(m:List Int32)(h1:1<=ch)(h6:ch<=6)(hm:m.length %ch=0)(hl2:m.length<=4000):∀(j at' q:Nat),at' %ch=0->at'<=m.length->m.length-at'<=j->j<q->
  Sd (ch:Int) m q (at':Int) ((unm ch m).take at')=some (unm ch m,0)
 |j,at',q+1,ha,hle,hj,hq=>by
  have hlen:=lR ch m;rw[Sd,SF];by_cases h:at'<m.length
  ·have hb:=yV ha hm h;have e4:Ad (at':Int) (ch:Int)=((at'+ch:Nat):Int):=by rw[Ah (by omega) (by omega)];omega
   have hrest:=Aci ch m h1 h6 hm hl2 (j-1) (at'+ch) q (by rw[Bn0,ha]) hb (by omega) (by omega);have hseg:((m.take (at'+ch)).drop at').length=ch:=by simp;omega
   have htl:((unm ch m).take at').length=at':=by simp[hlen];omega
   rw[Aas (by rw[Ae,Ac];simp;omega),e4,Uk (by omega) (by omega) (by omega),Aa,show((at'+ch:Nat):Int).toNat=at'+ch from rfl,show(at':Int).toNat=at' from rfl,Aro _ ch h1 h6 hseg,Aa,Bd (by rw[htl,iL];omega),Aa];have e:(unm ch m).take at'++zW (λi=>((m.take (at'+ch)).drop at').getD i 0) ch=(unm ch m).take (at'+ch):=by
    apply Bdp (by rw[Abt,htl,iL,Ah9,hlen];omega);intro k k1 k2;rw[Ah9,hlen]at k2;rw[List.getElem_append,List.getElem_take];by_cases hk:k<at'
    ·rw[dif_pos (by rw[htl];exact hk),List.getElem_take]
    ·rw[dif_neg (by rw[htl];exact hk)];have hu:=wY (m:=m) ha (show k-at'<ch by omega) (by omega);rw[show at'+(k-at')=k by omega,Ko (by omega)]at hu;have hx:∀n,n<=ch->unV (λi=>((m.take (at'+ch)).drop at').getD i 0) ch n=unV (λi=>m.getD (at'+i) 0) ch n:=by
      have hf:∀i,i<ch-> ((m.take (at'+ch)).drop at').getD i 0=m.getD (at'+i) 0:=by
       intro i hi;rw[Ko (by omega),Ko (by omega)];simp
      intro n
      induction n with
      |zero=>
       intro _;rw[unV,unV,hf _ (by omega)];split
       ·rw[hf _ (by omega)]
       ·rfl
      |succ n ih=>intro hn;rw[unV,unV,ih (by omega),hf _ (by omega)]
     have hy:=xS (λi=>((m.take (at'+ch)).drop at').getD i 0) (show k-at'<ch by omega);rw[Ko (by rw[iL];omega)]at hy;rw[hu,<-hx _ (by omega),<-hy];congr 1;rw[htl]
   rw[e];exact hrest
  ·rw[Aaf (by rw[Ae,Ac];simp;omega),Aof (by omega)];rfl
theorem Axl(ch:Nat)(m:List Int32)(h1:1<=ch)(h6:ch<=6)(hm:m.length %ch=0)(hl2:m.length<=4000):MI (ch:Int) m=some (unm ch m,0):=by
 have h:=Aci ch m h1 h6 hm hl2 m.length 0 Au (by simp) (by omega) (by omega) (by have:=Aq;omega);rw[MI,RG,Bdz ch m h1 h6 hm hl2,Aa,Aaf (by rw[Al];simp)];exact h
def pre{α:Type}(ch c:Nat)(f:α->Nat->α)(a0:α):Nat->α
 |0=>a0
 |m+1=>if m %ch=c then f (pre ch c f a0 m) m else pre ch c f a0 m
theorem Avt{α:Type}(ch c:Nat)(f:α->Nat->α)(a0:α):∀m,m<=c->c<ch->pre ch c f a0 m=a0
 |0,_,_=>rfl
 |m+1,h,h2=>by rw[pre,Aaf (by rw[Ac1 (by omega)];omega),Avt ch c f a0 m (by omega) h2]
theorem An2{α:Type}(ch c i:Nat)(f:α->Nat->α)(a0:α)(hi:i %ch=c)(hc:c<ch):∀j,j<ch->pre ch c f a0 (i+1+j)=pre ch c f a0 (i+1)
 |0,_=>rfl
 |j+1,h=>by
  have hne:(i+1+j) %ch≠c:=by
   intro e;have h1:(i+(1+j)) %ch=i %ch:=by rw[hi,<-e];congr 1;omega
   have h2:(1+j) %ch=0:=by
    have h3:=Nat.sub_mod_eq_zero_of_mod_eq h1;rwa [Bi1]at h3
   rw[Ac1 (by omega)]at h2;omega
  rw[show i+1+(j+1)=(i+1+j)+1 by omega,pre,Aaf hne,An2 ch c i f a0 hi hc j (by omega)]
theorem Bak{α:Type}(ch c i:Nat)(f:α->Nat->α)(a0:α)(hi:i %ch=c)(hc:c<ch):pre ch c f a0 (i+ch)=f (pre ch c f a0 i) i:=by
 have h:=An2 ch c i f a0 hi hc (ch-1) (by omega);rw[show i+1+(ch-1)=i+ch by omega]at h;rw[h,pre,Aas hi]
abbrev CS:=Int32×List Int32×List Int32
def Apx(bits:Int)(s:CS)(y:Int32):Int32:=y+gF (sB bits) s.2.1 s.2.2+gs (shB bits) s.1
def Akj(bits:Int)(s:CS)(y:Int32):CS:=(Apx bits s y,lrn s.2.1 s.2.2 y,(y+gF (sB bits) s.2.1 s.2.2)::s.2.2.take 15)
def cst(bits:Int)(ch:Nat)(t:List Int32)(v:List UInt32)(c:Nat):Nat->CS:=pre ch c (λs i=>Akj bits s (ZE (v.getD i 0))) (0,t,List.replicate 16 0)
def OkC(bits:Int)(s:CS):Prop:=OkF (sB bits) s.2.1 s.2.2
theorem Alu(bits:Int)(ch:Nat){t:List Int32}(ht:t.length=16)(v:List UInt32)(c:Nat):∀m,OkC bits (cst bits ch t v c m)
 |0=>⟨Bk9 bits,ht,by simp[cst,pre]⟩
 |m+1=>by
  have ih:=Alu bits ch ht v c m;rw[cst,pre];split
  ·exact Bab ih _ _
  ·exact ih
def yU(bits:Int)(ch:Nat)(t:List Int32)(v:List UInt32):List Int32:=(List.range v.length).map λi=>Apx bits (cst bits ch t v (i %ch) i) (ZE (v.getD i 0))
theorem lA(bits:Int)(ch:Nat)(t:List Int32)(v:List UInt32):(yU bits ch t v).length=v.length:=by simp[yU]
theorem Amr(bits:Int)(ch:Nat)(t:List Int32)(v:List UInt32){i:Nat}(h:i<v.length):(yU bits ch t v).getD i 0=Apx bits (cst bits ch t v (i %ch) i) (ZE (v.getD i 0)):=by
 rw[Ko (by rw[lA];exact h)];simp[yU]
abbrev CL:=Int×Int32×(Int×(List Int32)×(List Int32)×Unit)×Unit
def toC(bits:Int)(s:CS):CL:=(bits,s.1,(sB bits,s.2.1,s.2.2,()),())
def cts(bits:Int)(ch:Nat)(t:List Int32)(v:List UInt32)(i:Nat):List CL:=(List.range 6).map λc=>toC bits (cst bits ch t v c i)
theorem At2{bits:Int}{ch:Nat}{t:List Int32}{v:List UInt32}{i c:Nat}(h:c<6):Ap (cts bits ch t v i) (c:Int)=some (toC bits (cst bits ch t v c i)):=by
 rw[Bm (by simp[cts];exact h)];simp[cts]
theorem Aop(bits:Int)(ch:Nat)(t:List Int32)(v:List UInt32)(c m:Nat):cst bits ch t v c (m+1)=if m %ch=c then Akj bits (cst bits ch t v c m) (ZE (v.getD m 0))else cst bits ch t v c m:=rfl
theorem Atw{bits:Int}{ch:Nat}{t:List Int32}{v:List UInt32}{i c:Nat}(h:c<6)(hc:i %ch=c):Nx (cts bits ch t v i) (c:Int) (toC bits (Akj bits (cst bits ch t v c i) (ZE (v.getD i 0))))=some (cts bits ch t v (i+1)):=by
 rw[Wf _ (by simp[cts];exact h)];congr 1;apply Bdp (by simp[cts]);intro k h1 h2;rw[Boa];simp only[cts,Bmh,Bme];by_cases hk:c=k
 ·subst hk;rw[Aas rfl,Aop,Aas hc]
 ·rw[Aaf hk,Aop,Aaf (by omega)]
section
variable {bits:Int} {ch:Nat} {t:List Int32} {v:List UInt32}
theorem Aom(hb:Bk bits)(ht:t.length=16)(h1:1<=ch)(h6:ch<=6)(hv:v.length<=4000):∀(j i q:Nat),i+j=v.length->j<q->
  Kz v (ch:Int) bits q (i:Int) (cts bits ch t v i) ((yU bits ch t v).take i)=Og (ch:Int) bits (yU bits ch t v)
 |0,i,q+1,hi,_=>by
  rw[Kz,Oj,Aaf (by rw[Ae,Ac];simp;omega),Aof (by rw[lA];omega)]
 |j+1,i,q+1,hi,hq=>by
  have hlen:=lA bits ch t v;have hc:i %ch<6:=Arb (Bj3 _ (by omega)) h6;have hok:=Alu bits ch ht v (i %ch) i;have hs:=Atw (bits:=bits) (ch:=ch) (t:=t) (v:=v) (i:=i) hc rfl;have hx:=Amr bits ch t v (i:=i) (by omega);have hcb:=Av4 hb hok (cst bits ch t v (i %ch) i).1 (ZE (v.getD i 0));have ih:=Aom hb ht h1 h6 hv j (i+1) q (by omega) (by omega);rw[Ij (by omega),<-Ko (by omega),hx]at ih;rw[Kz,Oj,Aas (by rw[Ae,Ac];simp;omega),wS (by omega),Aa,Bu (by rw[Al];simp;omega),Aa,TU,At2 hc,Aa,Aa,Bbi,Aa];refine Bj5 (congrArg (λo=>Option.bind o _) hcb) ?_;rw[Aa];simp only;rw[DB,VO,Aaf (by rw[Al];simp),TU];refine Bj5 (congrArg (λo=>Option.bind o _) hs) ?_;rw[Aa,Bd (by simp;omega),Aa,Ah (by omega) (by omega)];exact ih
theorem Ayl(hb:Bk bits)(ht:t.length=16)(h1:1<=ch)(h6:ch<=6)(hv:v.length<=4000):Xa (ch:Int) bits t v=Og (ch:Int) bits (yU bits ch t v):=by
 have h:=Aom hb ht h1 h6 hv v.length 0 Au (by omega) (by have:=Aq;omega);have e:Au=(Au-7)+1+1+1+1+1+1+1:=by have:=Aq;omega
 have hs:Ud v (ch:Int) bits t 0 (List.replicate 6 ((0:Int),(0:Int32),((0:Int),(List.replicate 16 (0:Int32)),(List.replicate 16 (0:Int32)),()),()))=CX v (ch:Int) bits (cts bits ch t v 0):=by
  rw[Ud,e];obtain rfl|rfl|rfl:=hb<;>rfl
 rw[Xa,FP,hs];exact h
theorem Ajq(bk:Int->List Int32->Option (List Int32))(hb:Bk bits)(ht:t.length=16)(h1:1<=ch)(h6:ch<=6)(hv:v.length<=4000)(z:List Int32)(c:Nat)(hc:c<ch):∀(j i q:Nat),i %ch=c->v.length-i<=j->i<=5000->j<q->
  Nl bk v (ch:Int) bits t (c:Int) q (i:Int) (kR (λk=>decide (k %ch<c\/ (k %ch=c/\k<i))) (yU bits ch t v) z) bits (cst bits ch t v c i).1 (sB bits) (cst bits ch t v c i).2.1 (cst bits ch t v c i).2.2=
   bk ((c+1:Nat):Int) (kR (λk=>decide (k %ch<c+1)) (yU bits ch t v) z)
 |j,i,q+1,hi,hj,hi5,hq=>by
  have hlen:=lA bits ch t v;rw[Nl,GZ];by_cases h:i<v.length
  ·have hok:=Alu bits ch ht v c i;have hst:=Axe hb hok (cst bits ch t v c i).1 (ZE (v.getD i 0));have hx:=Amr bits ch t v (i:=i) h;rw[hi]at hx;have ih:=Ajq bk hb ht h1 h6 hv z c hc (j-1) (i+ch) q (by rw[Bn0];exact hi) (by omega) (by omega) (by omega);have Ady:cst bits ch t v c (i+ch)=Akj bits (cst bits ch t v c i) (ZE (v.getD i 0)):=Bak ch c i _ _ hi hc;rw[Ady]at ih;have hset:=kI (p:=λk=>decide (k %ch<c\/ (k %ch=c/\k<i))) (a:=yU bits ch t v) (b:=z) (k:=i) (by omega);rw[hx]at hset;have Aq8:kR (λj=>decide (j %ch<c\/ (j %ch=c/\j<i))||decide (j=i)) (yU bits ch t v) z=kR (λk=>decide (k %ch<c\/ (k %ch=c/\k<i+ch))) (yU bits ch t v) z:=by
    apply Xm;intro k _;rw[Anb];simp only[Bdh,Acw];constructor
    ·rintro((h1|h1)|h1)
     ·exact .inl h1
     ·exact .inr ⟨h1.1,by omega⟩
     ·subst h1;exact .inr ⟨hi,by omega⟩
    ·rintro(h1|⟨h1,h2⟩)
     ·exact .inl (.inl h1)
     ·by_cases h3:k<i
      ·exact .inl (.inr ⟨h1,h3⟩)
      ·refine .inr ?_;have h4:(i+(k-i)) %ch=i %ch:=by rw[show i+(k-i)=k by omega,h1,hi]
       have h5:=Nat.sub_mod_eq_zero_of_mod_eq h4;rw[Bi1,Ac1 (by omega)]at h5;omega
   rw[Aq8]at hset;rw[Aas (by rw[Ae,Ac];simp;omega),wS h,Aa,Bge,Aa];refine Bj5 (congrArg (λo=>Option.bind o _) hst) ?_;rw[Aa];simp only;rw[GV,HF,EJ (by omega),Aa];refine Bj5 (congrArg (λo=>Option.bind o _) hset) ?_;rw[Aa,HK,GM,Ah (by omega) (by omega)];exact ih
  ·rw[Aaf (by rw[Ae,Ac];simp;omega),HH,HN,Ah (by omega) (by omega)];have Aq8:kR (λk=>decide (k %ch<c\/ (k %ch=c/\k<i))) (yU bits ch t v) z=kR (λk=>decide (k %ch<c+1)) (yU bits ch t v) z:=by
    apply Xm;intro k hk;rw[Anb];simp only[Acw];omega
   rw[Aq8];rfl
theorem Aiv(hb:Bk bits)(ht:t.length=16)(h1:1<=ch)(h6:ch<=6)(hv:v.length<=4000)(z:List Int32):∀(j c q:Nat),c+j=ch->j<q->
  Gw v (ch:Int) bits t q (c:Int) (kR (λk=>decide (k %ch<c)) (yU bits ch t v) z)=Uy (ch:Int) bits (yU bits ch t v)
 |0,c,q+1,hc,_=>by
  rw[Gw,Uv,Aaf (by rw[Ae];simp;omega),tA (λk hk=>by have:=Bj3 k (show 0<ch by omega);simp;omega)]
 |j+1,c,q+1,hc,hq=>by
  have ih:=Aiv hb ht h1 h6 hv z j (c+1) q (by omega) (by omega);have hin:=Ajq (Gw v (ch:Int) bits t q) hb ht h1 h6 hv z c (by omega) v.length c Au (Ac1 (by omega)) (by omega) (by omega) (by have:=Aq;omega);have h0:cst bits ch t v c c=(0,t,List.replicate 16 0):=Avt ch c _ _ c (Aob _) (by omega);rw[h0]at hin;have Aq8:kR (λk=>decide (k %ch<c\/ (k %ch=c/\k<c))) (yU bits ch t v) z=kR (λk=>decide (k %ch<c)) (yU bits ch t v) z:=by
   apply Xm;intro k hk;have:=Bn1 k ch;rw[Anb];simp only[Acw];omega
  rw[Aq8]at hin;rw[Gw,Uv,Aas (by rw[Ae];simp;omega),Bk1 hb,Aa];simp only;rw[GP];exact Bj5 hin ih
theorem Ajn(hb:Bk bits)(ht:t.length=16)(h1:1<=ch)(h6:ch<=6)(hv:v.length<=4000)(hm:v.length %ch=0):Ty (ch:Int) bits t v=some (unm ch (yU bits ch t v)):=by
 have hlen:=lA bits ch t v;have h:=Aiv hb ht h1 h6 hv (List.replicate v.length 0) ch 0 Au (by omega) (by have:=Aq;omega);rw[rO (by rw[hlen];simp) (λk _=>by simp)]at h;rw[Ty,MF,Ac,uA (by omega) (by omega),Aa,Bu (by rw[Ar];simp),Aa,HM];refine Bj5 h ?_;rw[Uy,GU,Axl ch _ h1 h6 (by rw[hlen];exact hm) (by omega),Aa]
end
def hB(bits:Int):Int:=if bits=8 then 128 else if bits=16 then 32768 else 8388608
theorem Ak7{bits:Int}(h:Bk bits):Sj bits=some (Int32.ofInt (-(hB bits)),Int32.ofInt (hB bits-1),0):=by
 obtain rfl|rfl|rfl:=h<;>decide
theorem qZ{bits:Int}(h:Bk bits):Kw bits=some (hB bits):=by
 obtain rfl|rfl|rfl:=h<;>rfl
theorem UQ(bits:Int):0<hB bits/\hB bits<=8388608:=by
 unfold hB;split; · omega
 ·split<;>omega
theorem Afj{bits:Int}(h:Bk bits)(l:List Int32)(hl:l.length<=4000):∀(j i q:Nat),i+j=l.length->j<q->
  Un (Int32.ofInt (-(hB bits))) (Int32.ofInt (hB bits-1)) l q (i:Int)=Bj l (hB bits) q (i:Int)
 |0,i,q+1,hi,_=>by
  rw[Un,KK,Bj,Eb,Aaf (by rw[Ae,Ac];simp;omega),Aaf (by rw[Ae,Ac];simp;omega)];rfl
 |j+1,i,q+1,hi,hq=>by
  have hh:=UQ bits;have ih:=Afj h l hl j (i+1) q (by omega) (by omega);have e1:(Int32.ofInt (-(hB bits))).toInt= -(hB bits):=by rw[Bly,Bog (by show -(4294967296/2:Int)<= _;omega) (by show _<(4294967296+1)/2;omega)]
  have e2:(Int32.ofInt (hB bits-1)).toInt=hB bits-1:=by rw[Bly,Bog (by show -(4294967296/2:Int)<= _;omega) (by show _<(4294967296+1)/2;omega)]
  rw[Un,KK,Bj,Eb,Aas (by rw[Ae,Ac];simp;omega),Aas (by rw[Ae,Ac];simp;omega),g32 (by omega),Aa,Aa,Aa,Ge,Ami,Dg (by omega) (by omega),Ah (by omega) (by omega),Am0,Atj,e1,e2,Ae,Ds];generalize(l.getD i 0).toInt=X;by_cases h1:X< -(hB bits)
  ·rw[Aas (by simp;omega),Aas (by simp;omega)]
  ·rw[Aaf (c:=decide (X<0-hB bits)=true) (by simp;omega)];by_cases h2:hB bits<=X
   ·rw[Aas (by simp;omega),Aas (by simp;omega)]
   ·rw[Aaf (by simp;omega),Aaf (by simp;omega)];exact ih
theorem lO{bits:Int}(h:Bk bits)(l:List Int32)(hl:l.length<=4000):Vp bits l=Bq bits l:=by
 have hh:=UQ bits;rw[Vp,YT,Ak7 h,Aa,Bq,Ik,qZ h,Aa];simp only;rw[Aaf (by rw[Al];simp),Aaf (by rw[As,Ac];simp;omega),Aaf (by rw[Ar];simp;omega),Aaf (by rw[As,Ac];simp;omega)];exact Afj h l hl l.length 0 Au (by omega) (by have:=Aq;omega)
theorem Arn{bits:Int}(h:Bk bits)(l:List Int32)(hl:l.length<=4000):∃e,Bq bits l=some e:=by
 have hh:=UQ bits;have key:∀(j i q:Nat),i+j=l.length->j<q->∃e,Bj l (hB bits) q (i:Int)=some e:=by
  intro j
  induction j with
  |zero=>
   intro i q hi hq;obtain⟨q,rfl⟩:∃k,q=k+1:=⟨q-1,by omega⟩;rw[Bj,Eb,Aaf (by rw[Ae,Ac];simp;omega)];exact⟨_,rfl⟩
  |succ j ih=>
   intro i q hi hq;obtain⟨q,rfl⟩:∃k,q=k+1:=⟨q-1,by omega⟩;rw[Bj,Eb,Aas (by rw[Ae,Ac];simp;omega),g32 (by omega),Aa,Aa,Ah (by omega) (by omega)];split
   ·exact⟨_,rfl⟩
   ·split
    ·exact⟨_,rfl⟩
    ·exact ih (i+1) q (by omega) (by omega)
 obtain⟨e,he⟩:=key l.length 0 Au (by omega) (by have:=Aq;omega);rw[Bq,Ik,qZ h,Aa,Aaf (by rw[Ar];simp;omega),Aaf (by rw[As,Ac];simp;omega)];exact⟨e,he⟩
theorem xI{bits:Int}{ch:Nat}{t:List Int32}{v:List UInt32}(hb:Bk bits)(ht:t.length=16)(h1:1<=ch)(h6:ch<=6)(hv:v.length<=4000)(hm:v.length %ch=0):
  ∃l e,Ty (ch:Int) bits t v=some l/\Tw (ch:Int) bits l=some (if e≠0 then([],e)else(l,0))/\Xa (ch:Int) bits t v=some (if e≠0 then([],e)else(l,0))/\Bq bits l=some e/\l.length=v.length:=by
 have hlen:=lA bits ch t v;have hul:=lR ch (yU bits ch t v);obtain⟨e,he⟩:=Arn hb (unm ch (yU bits ch t v)) (by omega);refine⟨unm ch (yU bits ch t v),e,Ajn hb ht h1 h6 hv hm,?_,?_,he,by omega⟩
 ·rw[Tw,he,Aa];by_cases h:e=0
  ·rw[Aaf (by rw[Al];simpa using h),Aaf (by simpa using h)]
  ·rw[Aas (by rw[Al];simpa using h),Aas h]
 ·rw[Ayl hb ht h1 h6 hv,Og,VM,Bes ch _ h1 h6 (by rw[hlen];exact hm) (by omega),Aa];simp only;rw[Aaf (by rw[Al];simp),lO hb _ (by omega),he,Aa];by_cases h:e=0
  ·rw[Aaf (by rw[Al];simpa using h),Aaf (by simpa using h)]
  ·rw[Aas (by rw[Al];simpa using h),Aas h]
def pZ(s:Nat):Nat:=(s/2)^^^ (if s %2=1 then 3988292384 else 0)
theorem Aey{s:Nat}(h:s<4294967296):pZ s<4294967296:=by
 unfold pZ;exact Bhl (n:=32) (by simp;omega) (by split<;>decide)
theorem Aoo(x y:Nat):(x^^^y)/2=(x/2)^^^ (y/2):=by
 have:=Nat.shiftRight_xor_distrib (a:=x) (b:=y) (i:=1);simpa [Nat.shiftRight_eq_div_pow]using this
theorem Av5(x y:Nat):pZ (x^^^y)=pZ x^^^pZ y:=by
 have h:(x^^^y) %2=(x %2+y %2) %2:=by
  have:=Nat.xor_mod_two_eq_one (a:=x) (b:=y);have h1:(x^^^y) %2<2:=Bj3 _ (by omega);omega
 simp only[pZ,Aoo,h];have hx:x %2=0\/x %2=1:=by omega
 have hy:y %2=0\/y %2=1:=by omega
 rcases hx with hx|hx<;>rcases hy with hy|hy<;>simp only[hx,hy]<;>simp
 ·rw[Bk2]
 ·rw[Bk2,Bom (y/2),Bk2,Bom 3988292384 (y/2)]
 ·rw[Bk2,Bom 3988292384,Bk2,Nat.xor_self];simp
def BY:Nat->Nat->Nat
 |0,s=>s
 |k+1,s=>BY k (pZ s)
theorem Ai8:∀(k x y:Nat),BY k (x^^^y)=BY k x^^^BY k y
 |0,_,_=>rfl
 |k+1,x,y=>by rw[BY,Av5,Ai8 k];rfl
theorem Ai2:∀(k h:Nat),BY k (2^k*h)=h
 |0,h=>by simp[BY]
 |k+1,h=>by
  have:pZ (2^(k+1)*h)=2^k*h:=by
   rw[Ayu,Asu (2^k) 2,Bc9,pZ,Aaf (by omega),Nat.mul_div_cancel_left _ (by omega)];simp
  rw[BY,this,Ai2 k]
theorem Ae1:∀(k:Nat) {s:Nat},s<4294967296->BY k s<4294967296
 |0,_,h=>h
 |k+1,_,h=>Ae1 k (Aey h)
def Acf(s c:Nat):Nat:=BY 8 (s^^^c)
theorem Afi{s c:Nat}(h:s<4294967296)(hc:c<256):Acf s c<4294967296:=Ae1 8 (Bhl (n:=32) (by simpa using h) (by simp;omega))
theorem Anj{s c:Nat}(hc:c<256):Acf s c=(s/256)^^^BY 8 ((s %256)^^^c):=by
 have h:s=(2^8*(s/256))^^^ (s %256):=by
  have h1:s %256<2^8:=by simpa using Bj3 s (by omega:256>0)
  have:=Bg2 h1 (s/256);have h2:2^8*(s/256)|||s %256=(2^8*(s/256))^^^ (s %256):=by
   apply Nat.eq_of_testBit_eq;intro i;rw[Nat.testBit_or,Nat.testBit_xor];by_cases hi:i<8
   ·have:(2^8*(s/256)).testBit i=false:=by rw[Nat.testBit_two_pow_mul];simp;omega
    rw[this];simp
   ·have:(s %256).testBit i=false:=Nat.testBit_lt_two_pow (Arb h1 (Ak6 (by omega) (by omega)));rw[this];simp
  omega
 rw[Acf]
 conv=>lhs;rw[h]
 rw[Bk2,Ai8,Ai2]
def Axb(s:Nat)(l:List UInt8):Nat:=l.foldl (λs c=>Acf s c.toNat) s
def Em(b:List UInt8):UInt32:=4294967295-UInt32.ofNat (Axb 4294967295 b)
theorem Bet(s:UInt32)(c:Nat)(hc:c<256):JU s (Af (HQ (UInt8.ofNat c) (2:UInt8)):Int)=some (UInt32.ofNat (s.toNat/2^^^ (if(s.toNat^^^c) %2=1 then 3988292384 else 0))):=by
 have h1:(Af (HQ (UInt8.ofNat c) (2:UInt8)):Int)=((c %2:Nat):Int):=by
  rw[XC,Bfu,UInt8.toNat_mod,Aq6];show((c %256 %2:Nat):Int)=_;omega
 have h2:geq (HQ s (2:UInt32)) (1:UInt32)=decide (s.toNat %2=1):=by
  rw[Amt,Aoa,Anb];simp only[Aue,Acw];rw[<-UInt32.toNat_inj,UInt32.toNat_mod];rfl
 have h3:Ca s (2:UInt32)=UInt32.ofNat (s.toNat/2):=by
  apply UInt32.toNat_inj.1;rw[An1,UInt32.toNat_div,Anh]
  show s.toNat/2=_;have:=s.toNat_lt;omega
 have h4:AI (Ca s (2:UInt32)) (3988292384:UInt32)=UInt32.ofNat (s.toNat/2^^^3988292384):=by
  apply UInt32.toNat_inj.1;rw[h3,fE,Bn8,Anh,Anh];have:=s.toNat_lt;rw[Ac1 (a:=s.toNat/2) (by omega),Ac1]
  ·rfl
  ·exact Bhl (n:=32) (by omega) (by decide)
 have hx:(s.toNat^^^c) %2=(s.toNat %2+c %2) %2:=by
  have:=Nat.xor_mod_two_eq_one (a:=s.toNat) (b:=c);have h1:(s.toNat^^^c) %2<2:=Bj3 _ (by omega);omega
 have hs:s.toNat %2=0\/s.toNat %2=1:=by omega
 have hc2:c %2=0\/c %2=1:=by omega
 rw[JU,TD,h1,h2,hx];rcases hs with hs|hs<;>rcases hc2 with hc2|hc2<;>simp[hs,hc2,Ar,SH,RI,fE,h3]
theorem Acr:∀(j i q:Nat) (s:UInt32) (c:Nat),i+j=8->j<q->c<2^j->Na q s (UInt8.ofNat c) (i:Int)=some (UInt32.ofNat (BY j (s.toNat^^^c)))
 |0,i,q+1,s,c,hi,_,hc=>by
  obtain rfl:i=8:=by omega
  obtain rfl:c=0:=by simpa using hc
  rw[Na,AB,Aaf (by rw[Ae];simp),TA,RH,BY];simp
 |j+1,i,q+1,s,c,hi,hq,hc=>by
  have hc8:c<256:=Arb hc (show 2^(j+1)<=2^8 from Ak6 (by omega) (by omega));rw[Na,AB,Aas (by rw[Ae];simp;omega),Bet s c hc8,Aa,Ah (by omega) (by omega)];have e:Ca (UInt8.ofNat c) (2:UInt8)=UInt8.ofNat (c/2):=by
   apply UInt8.toNat_inj.1;rw[Bd9,UInt8.toNat_div,Aq6,Aq6]
   show c %256/2=_;omega
  rw[e];have h:=Acr j (i+1) q (UInt32.ofNat (s.toNat/2^^^ (if(s.toNat^^^c) %2=1 then 3988292384 else 0))) (c/2) (by omega) (by omega) (by rw[Ayu]at hc;omega);rw[show((i:Int)+1)=((i+1:Nat):Int) by omega,h,Anh,BY];congr 3;have:=s.toNat_lt;rw[Ac1,pZ,Aoo,Bk2,Bk2,Bom (c/2)];exact Bhl (n:=32) (by omega) (by split<;>decide)
theorem Bgb(s:UInt32)(c:UInt8):bW s c=some (UInt32.ofNat (Acf s.toNat c.toNat)):=by
 have h:=Acr 8 0 Au s c.toNat (by omega) (by have:=Aq;omega) (by simpa using c.toNat_lt);rw[UInt8.ofNat_toNat]at h;exact h
theorem tX(b:List UInt8)(hb:b.length<4611686018427387904):∀(j i q:Nat) (s:UInt32),i+j=b.length->j<q->Kk b q s (i:Int)=some (UInt32.ofNat (Axb s.toNat (b.drop i)))
 |0,i,q+1,s,hi,_=>by
  rw[Kk,Vv,Aaf (by rw[Ae,Ac];simp;omega),show i=b.length by omega,Blu];simp[KN,IU,Axb]
 |j+1,i,q+1,s,hi,hq=>by
  have hlt:i<b.length:=by omega
  rw[Kk,Vv,Aas (by rw[Ae,Ac];simp;omega),Bm hlt,Aa,Bgb,Aa,Ah (by omega) (by omega)];have h:=tX b hb j (i+1) q (UInt32.ofNat (Acf s.toNat b[i].toNat)) (by omega) (by omega);rw[show((i:Int)+1)=((i+1:Nat):Int) by omega,h,drop_cons hlt,Anh,Ac1 (Afi s.toNat_lt b[i].toNat_lt)];rfl
theorem Bbg(b:List UInt8)(hb:b.length<4611686018427387904):Xb b=some (Em b):=by
 have h:=tX b hb b.length 0 Au 4294967295 (by omega) (by have:=Aq;omega);rw[Xb,VZ,KY,HU,show((0:Int))=((0:Nat):Int)from rfl,h,Aa,Afb];rfl
theorem Beb(c:UInt32):AI (Ck c (GI.toZ (1:UInt64)).toNat) (Bg (3988292384:UInt32) (Er c (1:UInt32)))=UInt32.ofNat (pZ c.toNat):=by
 apply UInt32.toNat_inj.1;have e:(GI.toZ (1:UInt64)).toNat=1:=rfl;have h1:(Ck c 1).toNat=c.toNat/2:=by rw[SD]
 have h2:(Bg (3988292384:UInt32) (Er c (1:UInt32))).toNat=if c.toNat %2=1 then 3988292384 else 0:=by
  rw[Bca,Agj,UInt32.toNat_mul,UInt32.toNat_and]
  show 3988292384*(c.toNat&&&1) %4294967296=_;rw[Nat.and_one_is_mod];have:c.toNat %2=0\/c.toNat %2=1:=by omega
  rcases this with h|h<;>simp[h]
 rw[e,fE,Bn8,h1,h2,Anh,Ac1 (Aey c.toNat_lt)];rfl
theorem Apq(Iw:Int->List UInt32->Option (UInt32×Int))(s:UInt32)(b:List UInt8)(x:Int)(t:List UInt32):∀(j i q:Nat) (c:UInt32),i+j=8->j<q->
  Ul Iw s b x t q c (i:Int)=KU Iw s b x (UInt32.ofNat (BY j c.toNat)) t
 |0,i,q+1,c,hi,_=>by
  obtain rfl:i=8:=by omega
  rw[Ul,LK,Aaf (by rw[Ae];simp),BY,UInt32.ofNat_toNat]
 |j+1,i,q+1,c,hi,hq=>by
  rw[Ul,LK,Aas (by rw[Ae];simp;omega),Beb,Ah (by omega) (by omega),show((i:Int)+1)=((i+1:Nat):Int) by omega,Apq Iw s b x t j (i+1) q _ (by omega) (by omega),Anh,Ac1 (Aey c.toNat_lt)];rfl
def tbl(n:Nat):List UInt32:=(List.range n).map λi=>UInt32.ofNat (BY 8 i)
theorem At7(s:UInt32)(b:List UInt8):∀(j i q:Nat),i+j=256->j<q->Qi s b q (i:Int) (tbl i++List.replicate j 0)=JW s b (tbl 256)
 |0,i,q+1,hi,_=>by
  obtain rfl:i=256:=by omega
  rw[Qi,KB,Aaf (by rw[Ae];simp)];simp
 |j+1,i,q+1,hi,hq=>by
  have hlen:(tbl i++List.replicate (j+1) 0).length=i+(j+1):=by simp[tbl]
  rw[Qi,KB,Aas (by rw[Ae];simp;omega),ZL];have h:=Apq (Qi s b q) s b (i:Int) (tbl i++List.replicate (j+1) 0) 8 0 Au (Af (i:Int)) (by omega) (by have:=Aq;omega);rw[show((0:Int))=((0:Nat):Int)from rfl,h,KU,bD,Bm (by rw[hlen];omega),Aa,Wf _ (by rw[hlen];omega),Aa,XU,qD,Ah (by omega) (by omega)];have e:(Af (i:Int):UInt32).toNat=i:=by rw[Aiu,Anh,Ac1 (by omega)]
  rw[e,Bho,sE (by simp[tbl])];have h2:=At7 s b j (i+1) q (by omega) (by omega);have h3:tbl (i+1)=tbl i++[UInt32.ofNat (BY 8 i)]:=by simp[tbl,Boe]
  rw[h3]at h2;rw[show((i:Int)+1)=((i+1:Nat):Int) by omega,<-h2];simp
theorem Bfx{i:Nat}(h:i<256):Ap (tbl 256) (i:Int)=some (UInt32.ofNat (BY 8 i)):=by
 rw[Bm (by simpa [tbl]using h)];simp[tbl]
theorem Az7(s:UInt32)(c:UInt8):Ap (tbl 256) (GI.toZ (AI (Af s:UInt8) c))=some (UInt32.ofNat (BY 8 ((s.toNat %256)^^^c.toNat))):=by
 have e:GI.toZ (AI (Af s:UInt8) c)=(((s.toNat %256)^^^c.toNat:Nat):Int):=by
  rw[FY,At5,UInt8.toNat_xor,wF,Aq6]
 rw[e,Bfx];exact Bhl (n:=8) (by simp;omega) (by simpa using c.toNat_lt)
theorem Ayp(s:UInt32)(c:UInt8):AI (Ck s (GI.toZ (8:UInt64)).toNat) (UInt32.ofNat (BY 8 ((s.toNat %256)^^^c.toNat)))=UInt32.ofNat (Acf s.toNat c.toNat):=by
 apply UInt32.toNat_inj.1;have hlt:BY 8 ((s.toNat %256)^^^c.toNat)<4294967296:=Ae1 8 (Bhl (n:=32) (by simp;omega) (by have:=c.toNat_lt;simp;omega));have e:(GI.toZ (8:UInt64)).toNat=8:=rfl;rw[e,fE,Bn8,SD,Anh,Anh,Ac1 hlt,Ac1 (Afi s.toNat_lt c.toNat_lt),Anj c.toNat_lt]
theorem Anv(b:List UInt8)(hb:b.length<4611686018427387904):∀(j i q:Nat) (s:UInt32),i+j=b.length->j<q->Uq b (tbl 256) q s (i:Int)=some (UInt32.ofNat (Axb s.toNat (b.drop i)),0)
 |0,i,q+1,s,hi,_=>by
  rw[Uq,LJ,Aaf (by rw[Ae,Ac];simp;omega),show i=b.length by omega,Blu];simp[ZT,oD,Axb]
 |j+1,i,q+1,s,hi,hq=>by
  have hlt:i<b.length:=by omega
  rw[Uq,LJ,Aas (by rw[Ae,Ac];simp;omega),Bm hlt,Aa,Az7,Aa,Aa,Ayp,Ah (by omega) (by omega)];have h:=Anv b hb j (i+1) q (UInt32.ofNat (Acf s.toNat b[i].toNat)) (by omega) (by omega);rw[show((i:Int)+1)=((i+1:Nat):Int) by omega,h,drop_cons hlt,Anh,Ac1 (Afi s.toNat_lt b[i].toNat_lt)];rfl
theorem Beh(s:UInt32)(b:List UInt8)(hb:b.length<=100000):kL s b=some (UInt32.ofNat (Axb s.toNat b),0):=by
 have h:=At7 s b 256 0 Au (by omega) (by have:=Aq;omega);have h2:=Anv b (by omega) b.length 0 Au s (by omega) (by have:=Aq;omega);rw[kL,dW,Aaf (by rw[As,Ac];simp;omega),YD];refine Bj5 h ?_;rw[JW,aH,ZH,YQ,ZB];exact h2
theorem Ay6(a:UInt32):Agb a=4294967295-a:=by
 have h:=a.toNat_lt;have e:Agb a=UInt32.ofNat (BitVec.ofInt 32 4294967295^^^BitVec.ofInt 32 (a.toNat:Int)).toNat:=Gg _;apply UInt32.toNat_inj.1;rw[e,Anh,UInt32.toNat_sub_of_le _ _ (by rw[UInt32.le_iff_toNat_le];show a.toNat<=4294967295;omega)];have h1:BitVec.ofInt 32 (a.toNat:Int)=a.toBitVec:=Alm a;have h2:(BitVec.ofInt 32 4294967295:BitVec 32)=BitVec.allOnes 32:=by decide
 rw[h1,h2,BitVec.allOnes_xor,BitVec.toNat_not];show(4294967296-1-a.toNat) %4294967296=4294967295-a.toNat;omega
theorem Aa2(b:List UInt8)(hb:b.length<=100000):BK b=some (Em b,0):=by
 rw[BK,Beh _ _ hb,Aa];simp only[Al,Ay6];rfl
theorem Avb:∀{l m:List UInt8},l.length=m.length->Gb l=Gb m->l=m
 |[],[],_,_=>rfl
 |x::l,y::m,h,e=>by
  simp only[Gb]at e;have hx:=x.toNat_lt;have hy:=y.toNat_lt;have h1:x=y:=UInt8.toNat_inj.1 (by omega);rw[h1,Avb (l:=l) (m:=m) (by simpa using h) (by omega)]
theorem EM:∀(w n:Nat),Gb (Sm n w)=n %256^w
 |0,n=>by simp[Sm,Gb,Nat.mod_one]
 |w+1,n=>by
  rw[Sm,Gb,EM w (n/256),Aq6,show(256:Nat)^(w+1)=256*256^w by rw[Ayu,Asu],Nat.mod_mul]
def Vo(b:List UInt8):Int:=
 if b.length<5 then 24 else if 41254<b.length then 4 else if(Em (b.take (b.length-4))).toNat≠Gb (b.drop (b.length-4))then 22 else 0
theorem Aps(b:List UInt8):MG b=some (if Vo b≠0 then([],Vo b)else(b.take (b.length-4),0)):=by
 rw[MG];by_cases h1:b.length<5
 ·have hS:Vo b=24:=by rw[Vo,Aas h1]
  rw[Aas (by rw[Ae,Ac];simp;omega),hS];rfl
 rw[Aaf (by rw[Ae,Ac];simp;omega)];by_cases h2:41254<b.length
 ·have hS:Vo b=4:=by rw[Vo,Aaf h1,Aas h2]
  rw[Aas (by rw[As,Ac];simp;omega),hS];rfl
 have e4:Ao (Ac b) 4=((b.length-4:Nat):Int):=by rw[Ac,Bs (by omega) (by omega)];omega
 have hd:(b.drop (b.length-4)).length=4:=by simp;omega
 rw[Aaf (by rw[As,Ac];simp;omega),e4,Dd (by omega) (by omega),Aa,show((b.length-4:Nat):Int).toNat=b.length-4 from rfl,Aa2 _ (by simp;omega),Aa];simp only;rw[Aaf (by rw[Al];simp),Bt (by omega) (by omega),Aa,show((b.length-4:Nat):Int).toNat=b.length-4 from rfl,Anm _ (by omega) (by omega),Aa];have hne:Ba (uO (b.drop (b.length-4))) (Af (Em (b.take (b.length-4))):UInt64)=decide ((Em (b.take (b.length-4))).toNat≠Gb (b.drop (b.length-4))):=by
  have hlt:=(Em (b.take (b.length-4))).toNat_lt;rw[WC,Anb];simp only[Bn2,ne_eq,<-Bne,Acw];rw[cZ (by omega),Dt,Amh,Ac1 (by omega)];exact⟨λh e=>h e.symm,λh e=>h e.symm⟩
 simp only;rw[hne,Aa];by_cases h3:(Em (b.take (b.length-4))).toNat≠Gb (b.drop (b.length-4))
 ·have hS:Vo b=22:=by rw[Vo,Aaf h1,Aaf h2,Aas h3]
  rw[Aas (by simp[h3]),hS];rfl
 ·have hS:Vo b=0:=by rw[Vo,Aaf h1,Aaf h2,Aaf h3]
  rw[Aaf (by rw[Bhd h3];decide),hS];rfl
theorem Ax3(b:List UInt8)(hb:b.length<=1000000):DC b=some (b++Sm (Em b).toNat 4):=by
 have h:∀k:Nat,(Af (Ck (Em b) k):UInt8)=UInt8.ofNat ((Em b).toNat/2^k):=by
  intro k;rw[wF,SD]
 have h0:(Af (Em b):UInt8)=UInt8.ofNat (Em b).toNat:=wF _;have h1:=h 8;have h2:=h 16;have h3:=h 24;rw[DC,Bbg b (by omega),Aa,Bd (by simp;omega),Aa,Bd (by simp;omega),Aa,h0,show(GI.toZ (8:UInt64)).toNat=8 from rfl,show(GI.toZ (16:UInt64)).toNat=16 from rfl,show(GI.toZ (24:UInt64)).toNat=24 from rfl,h1,h2,h3];simp only[Sm,Bl8,Arc]
theorem vC(b:List UInt8):Uf b=some (Vo b):=by
 rw[Uf];by_cases h1:b.length<5
 ·rw[Aas (by rw[Ae,Ac];simp;omega),Vo,Aas h1]
 rw[Aaf (by rw[Ae,Ac];simp;omega)];by_cases h2:41254<b.length
 ·rw[Aas (by rw[As,Ac];simp;omega),Vo,Aaf h1,Aas h2]
 have e4:Ao (Ac b) 4=((b.length-4:Nat):Int):=by rw[Ac,Bs (by omega) (by omega)];omega
 have hd:(b.drop (b.length-4)).length=4:=by simp;omega
 rw[Aaf (by rw[As,Ac];simp;omega),e4,Dd (by omega) (by omega),Aa,show((b.length-4:Nat):Int).toNat=b.length-4 from rfl,Ax3 _ (by simp;omega),Aa];have hlt:=(Em (b.take (b.length-4))).toNat_lt;have hiff:(b.take (b.length-4)++Sm (Em (b.take (b.length-4))).toNat 4 !=b)=decide ((Em (b.take (b.length-4))).toNat≠Gb (b.drop (b.length-4))):=by
  rw[Anb];simp only[Bn2,ne_eq,Acw];constructor
  ·intro h e;apply h;have:Sm (Em (b.take (b.length-4))).toNat 4=b.drop (b.length-4):=Avb (by rw[Cf,hd]) (by rw[EM,Ac1 (by omega),e]);rw[this,Ayx]
  ·intro h e;apply h;have hx:Sm (Em (b.take (b.length-4))).toNat 4=b.drop (b.length-4):=by
    have e2:b.take (b.length-4)++Sm (Em (b.take (b.length-4))).toNat 4=b.take (b.length-4)++b.drop (b.length-4):=by rw[e,Ayx]
    exact List.append_cancel_left e2
   rw[<-hx,EM,Ac1 (by omega)]
 rw[hiff];by_cases h3:(Em (b.take (b.length-4))).toNat≠Gb (b.drop (b.length-4))
 ·rw[Aas (by simp[h3]),Vo,Aaf h1,Aaf h2,Aas h3]
 ·rw[Aaf (by rw[Bhd h3];decide),Vo,Aaf h1,Aaf h2,Aaf h3]
theorem Ape{b:List UInt8}(h:Vo b=0):5<=b.length/\b.length<=41254:=by
 unfold Vo at h;split at h
 ·simp at h
 ·split at h
  ·simp at h
  ·omega
theorem Al2{c:Nat}(h1:1<=c)(h6:c<=6):Ca (4000:Int) (c:Int)=((4000/c:Nat):Int):=by
 have:c=1\/c=2\/c=3\/c=4\/c=5\/c=6:=by omega
 rcases this with rfl|rfl|rfl|rfl|rfl|rfl<;>rfl
theorem Bec(p:List UInt8)(h:p.length<=41250):okB p (8*p.length):=⟨by omega,by omega,λk h1 h2=>by omega⟩
theorem Zs{bits:Int}{ch n:Nat}{t:List Int32}(b:List UInt8)(hb:Bk bits)(ht:t.length=16)(h1:1<=ch)(h6:ch<=6)(n1:1<=n)(n2:n<=4000/ch):
  ∃l e,Iq (ch:Int) bits t (n:Int) b=some (l,e)/\Dh (ch:Int) bits t (n:Int) b=some (l,e)/\ (e=0->Bq bits l=some 0/\l.length<=4000/\l.length=n*ch)/\ (e≠0->l=[]):=by
 have hn:n*ch<=4000:=by
  have:=Aeb ch n2;have h2:=Bid 4000 ch;omega
 have hq4:=Al2 h1 h6;generalize 4000/ch=mm at*
 have hck:Oz (ch:Int) bits=some 0:=by
  have hr:∃x y,Sj bits=some (x,y,0):=⟨_,_,Ak7 hb⟩;obtain⟨x,y,hr⟩:=hr;rw[Oz,hr,Aa];simp only;rw[Aaf (by simp[Al,Ae,As];omega)]
 have hh:=UQ bits;have Ah7:Jf (ch:Int) bits (n:Int)=some 0:=by
  rw[Jf,Dz,Aaf (by simp[Ae,As];omega),qZ hb,Aa,Aaf (by rw[Ar];simp;omega),Aa,Aaf (by simp[Al,Ae];omega),Bu (by rw[Al];simp;omega),Aa,hq4,Aaf (by rw[As];simp;omega)]
 rw[Iq,Dh,On,hck,Ah7,Aa,Aa,Aaf (by rw[Al];simp),Aaf (by rw[Ae];simp;omega),Bu (by rw[Al];simp;omega),Aa,hq4,Aaf (by rw[As];simp;omega),Aaf (by rw[Al];simp),Aps,vC];by_cases hs:Vo b≠0
 ·rw[Aas hs];simp only[Aa];rw[Aas (by rw[Al];simpa using hs),Aas (by rw[Al];simpa using hs)];exact⟨[],Vo b,rfl,rfl,λe=>absurd e hs,λ_=>rfl⟩
 have hs0:Vo b=0:=by simpa using hs
 have hlen:=Ape hs0;have e4:Ao (Ac b) 4=((b.length-4:Nat):Int):=by rw[Ac,Bs (by omega) (by omega)];omega
 rw[Aaf hs,hs0];simp only[Aa];rw[Aaf (by rw[Al];simp),Aaf (by rw[Al];simp),e4,Dd (by omega) (by omega),Aa,show((b.length-4:Nat):Int).toNat=b.length-4 from rfl];have hpl:(b.take (b.length-4)).length=b.length-4:=by simp
 generalize b.take (b.length-4)=p at*
 have e8:Bg (8:Int) (Ac p)=((8*p.length:Nat):Int):=by rw[Ac,Fc (by omega) (by omega)];omega
 have hp:=Bec p (by omega);have hv:=values_eq hp h1 h6 hn;have hr:=Alb (N:=8*p.length) (p:=p) rfl (by omega) h1 h6 hn;have hat:=Adc (ch:=ch) (p:=p) (N:=8*p.length) (n*ch) 0 [] (by omega);rw[Amn,Aaf (by rw[As,Ac];simp;omega),Bl,Bd (by simp;omega),Aa,Aa,Aa,Arc,e8];simp only;rw[Aaf (by rw[Al];simp),hv,hr,Aa,Aa];generalize Wv ch p (8*p.length) (n*ch) 0 []=V at*
 obtain⟨v,at',e⟩:=V;simp only at*
 by_cases he:e≠0
 ·rw[Aas he,Aas he];simp only;rw[Aas (by rw[Al];simpa using he),Ht,Hv,Aas (by rw[Al];simpa using he)];exact⟨[],e,rfl,rfl,λh=>absurd h he,λ_=>rfl⟩
 have he0:e=0:=by simpa using he
 have hvl:=hat.2.2 he0;simp only[Bod,Bdf]at hvl;rw[Aaf he,Aaf he];simp only;rw[Aaf (by rw[Al];simp),Bs (by omega) (by omega),show((8*p.length:Nat):Int)-(at':Int)=((8*p.length-at':Nat):Int) by omega,Ht,Hv];by_cases h7:7<8*p.length-at'
 ·have hE:(if 7<8*p.length-at'\/Ce p at' (8*p.length-at')≠0 then(12:Int)else 0)=12:=Aas (.inl h7);rw[Aas (by rw[Ds];simp;omega),hE,Aas (by decide)];exact⟨[],12,rfl,rfl,λh=>absurd h (by decide),λ_=>rfl⟩
 rw[Aaf (by rw[Ds];simp;omega),Aay hp at' _ (by omega),Aaf (by omega),Aa];have hz:Ba (Ra p at' (8*p.length-at')) (0:UInt64)=decide (Ce p at' (8*p.length-at')≠0):=by
  rw[WC,Anb];simp only[Bn2,ne_eq,<-Bne,Acw];rw[AD p _ _ (by omega)];rfl
 simp only;rw[hz];by_cases hv0:Ce p at' (8*p.length-at')≠0
 ·have hE:(if 7<8*p.length-at'\/Ce p at' (8*p.length-at')≠0 then(12:Int)else 0)=12:=Aas (.inr hv0);rw[Aas (by simp[hv0]),hE,Aas (by decide)];exact⟨[],12,rfl,rfl,λh=>absurd h (by decide),λ_=>rfl⟩
 have hm:v.length %ch=0:=by rw[hvl];exact Bhj n ch
 obtain⟨l,e,g1,g2,g3,g4,g5⟩:=xI (v:=v) hb ht h1 h6 (by omega) hm;have hE:(if 7<8*p.length-at'\/Ce p at' (8*p.length-at')≠0 then(12:Int)else 0)=0:=Aaf (by omega);rw[Aaf (by rw[Bhd hv0];decide),hE,Aaf (by decide),g1,g3,Aa,Aa,g2];by_cases hl:e≠0
 ·rw[Aas hl];exact⟨[],e,rfl,rfl,λh=>absurd h hl,λ_=>rfl⟩
 ·rw[Aaf hl];have hl0:e=0:=by simpa using hl
  exact⟨l,0,rfl,rfl,λ_=>⟨by rw[g4,hl0],by omega,by omega⟩,λe=>absurd rfl e⟩
theorem Baw(a b:Int32):a-(a-b)=b:=by
 apply Int32.toBitVec_inj.1;simp only[Int32.toBitVec_sub];apply Bm1;simp only[BitVec.toNat_sub];have:=a.toBitVec.isLt;have:=b.toBitVec.isLt;omega
theorem cW(a b:Int32):a-b+b=a:=by
 apply Int32.toBitVec_inj.1;simp only[Int32.toBitVec_sub,Int32.toBitVec_add];apply Bm1;simp only[BitVec.toNat_sub,BitVec.toNat_add];have:=a.toBitVec.isLt;have:=b.toBitVec.isLt;omega
def mxV(f:Nat->Int32)(ch i:Nat):Int32:=if i+1<ch then f (i+1)-f i else if 1<ch then f (ch-1)-Ca (f (ch-1)-f (ch-2)) (2:Int32)else f (ch-1)
theorem Ay9{f g:Nat->Int32}{ch:Nat}(h1:1<=ch)(h:∀i,i<ch->f i=mxV g ch i):∀j,j<ch->unV f ch j=g (ch-1-j)
 |0,_=>by
  rw[unV];by_cases h2:1<ch
  ·rw[Aas h2,h (ch-1) (by omega),h (ch-2) (by omega),mxV,mxV,Aaf (by omega),Aas h2,Aas (by omega),show ch-2+1=ch-1 by omega,cW,Nat.sub_zero]
  ·rw[Aaf h2,h (ch-1) (by omega),mxV,Aaf (by omega),Aaf h2,Nat.sub_zero]
 |j+1,hj=>by
  rw[unV,Ay9 h1 h j (by omega),h (ch-2-j) (by omega),mxV,Aas (by omega),show ch-2-j+1=ch-1-j by omega,Baw];congr 1;omega
def mx(ch:Nat)(x:List Int32):List Int32:=(List.range x.length).map λk=>mxV (λi=>x.getD (k-k %ch+i) 0) ch (k %ch)
theorem YY(ch:Nat)(x:List Int32):(mx ch x).length=x.length:=by simp[mx]
theorem Azc{ch:Nat}{x:List Int32}{k:Nat}(h:k<x.length):(mx ch x).getD k 0=mxV (λi=>x.getD (k-k %ch+i) 0) ch (k %ch):=by
 rw[Ko (by rw[YY];exact h)];simp[mx]
theorem Biv{ch:Nat}{x:List Int32}(h1:1<=ch)(hm:x.length %ch=0):unm ch (mx ch x)=x:=by
 apply Bdp (by rw[lR,YY]);intro k hk1 hk2;have hr:=Bj3 k (show 0<ch by omega);have hle:=Bn1 k ch;have ha:(k-k %ch) %ch=0:=Nat.mod_eq_zero_of_dvd (Nat.dvd_sub_mod k);have hb:=yV ha hm (by omega);have e:=wY (m:=mx ch x) ha hr (by rw[YY];omega);rw[show k-k %ch+k %ch=k by omega]at e;rw[<-Ko hk1,<-Ko hk2,e];rw[Ay9 (g:=λi=>x.getD (k-k %ch+i) 0) h1 (λi hi=>?_) (ch-1-k %ch) (by omega)]
 ·congr 1;omega
 ·rw[Azc (by omega)];have h2:(k-k %ch+i) %ch=i:=by rw[Nat.add_mod,ha,Bdf,Nat.mod_mod,Ac1 hi]
  rw[h2,show k-k %ch+i-i=k-k %ch by omega]
def qW(x:Int32):UInt32:=UInt32.ofNat (if 0<=x.toInt then 2*x.toInt.toNat else 2*(-x.toInt-1).toNat+1)
theorem Azg(x:Int32):ZE (qW x)=x:=by
 have h:=CU x;have e:(qW x).toNat=if 0<=x.toInt then 2*x.toInt.toNat else 2*(-x.toInt-1).toNat+1:=by
  rw[qW,Anh];split<;>exact Ac1 (by omega)
 rw[ZE,e];by_cases h0:0<=x.toInt
 ·rw[Aas h0,Aas (by omega),show((2*x.toInt.toNat/2:Nat):Int)=x.toInt by omega,Bg0]
 ·rw[Aaf h0,Aaf (by omega),show -(((2*(-x.toInt-1).toNat+1)/2:Nat):Int)-1=x.toInt by omega,Bg0]
theorem Akp{α:Type}(ch c:Nat)(f g:α->Nat->α)(a0:α):∀m:Nat,(∀i,i<m->∀a,f a i=g a i)->pre ch c f a0 m=pre ch c g a0 m
 |0,_=>rfl
 |m+1,h=>by
  rw[pre,pre,Akp ch c f g a0 m λi hi=>h i (by omega),h m (by omega)]
theorem Avm(bits:Int)(ch:Nat)(t:List Int32)(v w:List UInt32)(c i:Nat)(h:i<=v.length):cst bits ch t (v++w) c i=cst bits ch t v c i:=by
 unfold cst;apply Akp;intro j hj a;have:(v++w).getD j 0=v.getD j 0:=by
  rw[List.getD_eq_getElem?_getD,List.getD_eq_getElem?_getD,List.getElem?_append_left (by omega)]
 rw[this]
def Ac0(bits:Int)(s:CS)(x:Int32):Int32:=x-gs (shB bits) s.1-gF (sB bits) s.2.1 s.2.2
theorem Aku(bits:Int)(s:CS)(x:Int32):Apx bits s (Ac0 bits s x)=x:=by
 rw[Apx,Ac0,cW,cW]
def evl(bits:Int)(ch:Nat)(t m:List Int32):Nat->List UInt32
 |0=>[]
 |i+1=>evl bits ch t m i++[qW (Ac0 bits (cst bits ch t (evl bits ch t m i) (i %ch) i) (m.getD i 0))]
theorem sG(bits:Int)(ch:Nat)(t m:List Int32):∀i,(evl bits ch t m i).length=i
 |0=>rfl
 |i+1=>by rw[evl,Abt,sG bits ch t m i];rfl
theorem Alw(bits:Int)(ch:Nat)(t m:List Int32):∀(j i:Nat),∃w,evl bits ch t m (i+j)=evl bits ch t m i++w
 |0,i=>⟨[],by simp⟩
 |j+1,i=>by
  obtain⟨w,hw⟩:=Alw bits ch t m j i;rw[<-Ay1,evl,hw];exact⟨_,Aec _ _ _⟩
theorem Bfm(bits:Int)(ch:Nat)(t m:List Int32):yU bits ch t (evl bits ch t m m.length)=m:=by
 have hl:=sG bits ch t m m.length;apply Bdp (by rw[lA,hl]);intro i h1 h2;rw[<-Ko h1,<-Ko h2,Amr _ _ _ _ (by omega)];obtain⟨w,hw⟩:=Alw bits ch t m (m.length-(i+1)) (i+1);rw[show i+1+(m.length-(i+1))=m.length by omega,evl,Aec]at hw;have hli:=sG bits ch t m i;rw[hw,Avm _ _ _ _ _ _ _ (by omega)];have hg:(evl bits ch t m i++([qW (Ac0 bits (cst bits ch t (evl bits ch t m i) (i %ch) i) (m.getD i 0))]++w)).getD i 0=qW (Ac0 bits (cst bits ch t (evl bits ch t m i) (i %ch) i) (m.getD i 0)):=by
  rw[List.getD_eq_getElem?_getD,List.getElem?_append_right (by omega),hli,Nat.sub_self];rfl
 rw[hg,Azg,Aku]
def tb(l:List Bool)(k:Nat):Nat:=if l.getD k false=true then 1 else 0
theorem Aua(b:Bool)(l:List Bool):tb (b::l) 0=if b=true then 1 else 0:=rfl
theorem Au1(b:Bool)(l:List Bool)(k:Nat):tb (b::l) (k+1)=tb l k:=by simp[tb]
theorem Avd{a b:List Bool}{k:Nat}(h:k<a.length):tb (a++b) k=tb a k:=by
 rw[tb,tb,List.getD_eq_getElem?_getD,List.getD_eq_getElem?_getD,List.getElem?_append_left h]
theorem Ak1(a b:List Bool)(k:Nat):tb (a++b) (a.length+k)=tb b k:=by
 rw[tb,tb,List.getD_eq_getElem?_getD,List.getD_eq_getElem?_getD,List.getElem?_append_right (by omega),Bi1]
theorem Amg{l:List Bool}{k:Nat}(h:l.length<=k):tb l k=0:=by
 rw[tb,List.getD_eq_getElem?_getD,List.getElem?_eq_none h];rfl
def At(p:List UInt8)(a:Nat)(c:List Bool):Prop:=∀i,i<c.length->Hp p (a+i)=tb c i
theorem At.left{p:List UInt8}{a:Nat}{c d:List Bool}(h:At p a (c++d)):At p a c:=λi hi=>by
 rw[h i (by rw[Abt];omega),Avd hi]
theorem At.right{p:List UInt8}{a:Nat}{c d:List Bool}(h:At p a (c++d)):At p (a+c.length) d:=λi hi=>by
 rw[Ay1,h (c.length+i) (by rw[Abt];omega),Ak1]
theorem At.cons{p:List UInt8}{a:Nat}{b:Bool}{c:List Bool}(h:At p a (b::c)):Hp p a=(if b=true then 1 else 0)/\At p (a+1) c:=by
 have h0:=h 0 (by simp);rw[Bip,Aua]at h0;refine⟨h0,λi hi=>?_⟩;have:=h (i+1) (by simp;omega);rw[Au1]at this;rw[show a+1+i=a+(i+1) by omega,this]
def lV:Nat->Nat->List Bool
 |_,0=>[]
 |v,n+1=>decide (v %2=1)::lV (v/2) n
theorem Vi:∀(v n:Nat),(lV v n).length=n
 |_,0=>rfl
 |v,n+1=>by rw[lV,Anf,Vi (v/2) n]
theorem PQ(p:List UInt8):∀(n a v:Nat),At p a (lV v n)->Ce p a n=v %2^n
 |0,a,v,_=>by rw[Ce,Nat.pow_zero,Nat.mod_one]
 |n+1,a,v,h=>by
  rw[lV]at h;obtain⟨h0,h1⟩:=h.cons;rw[Ce,h0,PQ p n (a+1) (v/2) h1,Ayu,Asu (2^n) 2,Nat.mod_mul];have:=Nat.mod_two_eq_zero_or_one v;rcases this with e|e<;>simp[e]
theorem Aed(p:List UInt8):∀(q m a:Nat) (c:List Bool),At p a (List.replicate q true++c)->q<=m->Gx p a m=q+Gx p (a+q) (m-q)
 |0,m,a,c,h,hm=>by simp
 |q+1,m,a,c,h,hm=>by
  rw[Bho,Blm]at h;obtain⟨h0,h1⟩:=h.cons;obtain⟨m,rfl⟩:∃k,m=k+1:=⟨m-1,by omega⟩;rw[Gx,Aas (by rw[h0];rfl),Aed p q m (a+1) c h1 (by omega),show a+1+q=a+(q+1) by omega,show m+1-(q+1)=m-q by omega];omega
theorem Bd2{p:List UInt8}{a m:Nat}(h:Hp p a=0):Gx p a m=0:=by
 cases m with
 |zero=>rfl
 |succ m=>rw[Gx,Aaf (by omega)]
def aL(l v:Nat):List Bool:=if 48<=v/2^l then List.replicate 48 true++lV v 32 else List.replicate (v/2^l) true++(false::lV (v %2^l) l)
theorem Aw5{l v:Nat}(hl:l<=24):1<= (aL l v).length/\ (aL l v).length<=80:=by
 rw[aL];generalize v/2^l=q;split
 ·rw[Abt,Ard,Vi];omega
 ·rw[Abt,Ard,Anf,Vi];omega
theorem Axc{p:List UInt8}{N a l v:Nat}(hl:l<=24)(hv:v<2^32)(h:At p a (aL l v))(hN:a+(aL l v).length<=N):XX p N a l=(UInt32.ofNat v,((a+(aL l v).length:Nat):Int),0):=by
 rw[aL]at h hN⊢;by_cases h48:48<=v/2^l
 ·rw[Aas h48]at h hN⊢;rw[Abt,Ard,Vi]at hN⊢;have hm:min 48 (N-a)=48:=by omega
  have ho:=Aed p 48 48 a (lV v 32) h (Aob _);rw[Nat.sub_self,Gx,Bip]at ho;have hr:=h.right;rw[Ard]at hr;have hval:=PQ p 32 (a+48) v hr;rw[Ac1 hv]at hval;rw[XX,Aaf (by omega),hm,ho,Aaf (by omega),Aas rfl,Aaf (by omega),hval,Aaf (by omega)]
 ·rw[Aaf h48]at h hN⊢;rw[Abt,Ard,Anf,Vi]at hN⊢;generalize hq:v/2^l=q at*
  have hr:=h.right;rw[Ard]at hr;obtain⟨h0,h1⟩:=hr.cons;have hm:q<min 48 (N-a):=by omega
  have ho:=Aed p q (min 48 (N-a)) a _ h (by omega);rw[Bd2 (a:=a+q) (m:=min 48 (N-a)-q) (by rw[h0];rfl),Bip]at ho;have hval:=PQ p l (a+q+1) (v %2^l) h1;rw[Nat.mod_mod]at hval;have hdm:=Bns v (2^l);rw[hq,Asu]at hdm;rw[XX,Aaf (by omega),ho,Aas hm,Aaf (by omega),hval,hdm,show a+q+1+l=a+(q+(l+1)) by omega]
def Ts(k l:Nat)(v:UInt32):List Bool:=if v.toNat<2^k then false::lV v.toNat k else true::aL l (v.toNat-2^k)
theorem fC{k l:Nat}(v:UInt32)(hk:k<=24)(hl:l<=24):1<= (Ts k l v).length/\ (Ts k l v).length<=81:=by
 have:=Aw5 (v:=v.toNat-2^k) hl;rw[Ts];split
 ·rw[Anf,Vi];omega
 ·rw[Anf];omega
theorem Av3{p:List UInt8}{N a k l:Nat}{v:UInt32}(hk:k<=24)(hl:l<=24)(h:At p a (Ts k l v))(hN:a+(Ts k l v).length<=N):eX p N a k l=(v,((a+(Ts k l v).length:Nat):Int),0):=by
 have Bpj:=v.toNat_lt;have hof:UInt32.ofNat v.toNat=v:=by simp
 rw[Ts]at h hN⊢;by_cases hs:v.toNat<2^k
 ·rw[Aas hs]at h hN⊢;rw[Anf,Vi]at hN⊢;obtain⟨h0,h1⟩:=h.cons;have hval:=PQ p k (a+1) v.toNat h1;rw[Ac1 hs]at hval;rw[eX,Aaf (by omega),Aas (by rw[h0];rfl),Aaf (by omega),hval,hof,show a+1+k=a+(k+1) by omega]
 ·rw[Aaf hs]at h hN⊢;rw[Anf]at hN⊢;obtain⟨h0,h1⟩:=h.cons;have hsub:=Nat.sub_le v.toNat (2^k);have hr:=Axc hl (by omega:v.toNat-2^k<2^32) h1 (by omega:a+1+_<=N);have ht:(UInt32.ofNat (v.toNat-2^k)).toNat=v.toNat-2^k:=by rw[Anh];exact Ac1 (by omega)
  rw[eX,Aaf (by omega),Aaf (by rw[h0];decide),hr];simp only;rw[Aaf (by decide),ht,Aaf (by omega),show v.toNat-2^k+2^k=v.toNat by omega,hof,show a+1+(aL l (v.toNat-2^k)).length=a+((aL l (v.toNat-2^k)).length+1) by omega]
def bv:List Bool->Nat
 |[]=>0
 |b::r=>(if b=true then 1 else 0)+2*bv r
theorem Bg3:∀l:List Bool,bv l<2^l.length
 |[]=>by decide
 |b::r=>by
  have:=Bg3 r;rw[bv,Anf,Ayu];split<;>omega
theorem Bbb:∀(l:List Bool) (k:Nat),bv l/2^k %2=tb l k
 |[],k=>by simp[bv,tb]
 |b::r,0=>by
  rw[bv,Aua,Nat.pow_zero,Nat.div_one];split<;>omega
 |b::r,k+1=>by
  have:((if b=true then 1 else 0)+2*bv r)/2=bv r:=by split<;>omega
  rw[bv,Au1,Ayu,Asu (2^k) 2,<-Bl8,this,Bbb r k]
def Mo(c:List Bool):List UInt8:=(List.range ((c.length+7)/8)).map λj=>UInt8.ofNat (bv ((c.drop (8*j)).take 8))
theorem Xf(c:List Bool):(Mo c).length=(c.length+7)/8:=by simp[Mo]
theorem GH(c:List Bool)(i:Nat):Hp (Mo c) i=tb c i:=by
 rw[Hp];by_cases h:i/8<(c.length+7)/8
 ·have hg:(Mo c).getD (i/8) 0=UInt8.ofNat (bv ((c.drop (8*(i/8))).take 8)):=by
   rw[List.getD_eq_getElem?_getD,List.getElem?_eq_getElem (by rw[Xf];exact h)];simp[Mo]
  have hlt:=Bg3 ((c.drop (8*(i/8))).take 8);have hl8:((c.drop (8*(i/8))).take 8).length<=8:=by rw[Ah9];omega
  have hp:=Ak6 (show 0<2 by omega) hl8;have hn:(UInt8.ofNat (bv ((c.drop (8*(i/8))).take 8))).toNat=bv ((c.drop (8*(i/8))).take 8):=by
   rw[Aq6];exact Ac1 (by omega)
  rw[hg,hn,Bbb,tb,tb];have:((c.drop (8*(i/8))).take 8).getD (i %8) false=c.getD i false:=by
   rw[List.getD_eq_getElem?_getD,List.getD_eq_getElem?_getD,List.getElem?_take,Aas (by omega),List.getElem?_drop,show 8*(i/8)+i %8=i by omega]
  rw[this]
 ·have hg:(Mo c).getD (i/8) 0=0:=by
   rw[List.getD_eq_getElem?_getD,List.getElem?_eq_none (by rw[Xf];omega)];rfl
  rw[hg,Amg (by omega)];simp
def Tl(ch:Nat)(V:List UInt32):Nat->List Bool
 |0=>[]
 |i+1=>Tl ch V i++Ts (now ch (V.take i)).1 (now ch (V.take i)).2.1 (V.getD i 0)
theorem Ali(ch:Nat)(v:List UInt32):(now ch v).1<=24/\ (now ch v).2.1<=24:=by
 have:=rK ch v (v.length %ch) v.length;exact⟨this.1,this.2.1⟩
theorem Ap5(ch:Nat)(V:List UInt32):∀(j i:Nat),∃w,Tl ch V (i+j)=Tl ch V i++w
 |0,i=>⟨[],by simp⟩
 |j+1,i=>by
  obtain⟨w,hw⟩:=Ap5 ch V j i;rw[<-Ay1,Tl,hw];exact⟨_,Aec _ _ _⟩
theorem fQ(ch:Nat)(V:List UInt32):∀i,(Tl ch V i).length<=81*i
 |0=>by simp[Tl]
 |i+1=>by
  have h:=Ali ch (V.take i);have:=fC (V.getD i 0) h.1 h.2;rw[Tl,Abt];have:=fQ ch V i;omega
theorem Aj8(ch:Nat)(V:List UInt32)(N:Nat)(hN:(Tl ch V V.length).length<=N):∀(j i:Nat),i+j=V.length->Wv ch (Mo (Tl ch V V.length)) N j (Tl ch V i).length (V.take i)=(V,(Tl ch V V.length).length,0)
 |0,i,h=>by
  obtain rfl:i=V.length:=by omega
  rw[Wv,Aye]
 |j+1,i,h=>by
  obtain⟨w,hw⟩:=Ap5 ch V j (i+1);rw[show i+1+j=V.length by omega]at hw;have hk:=Ali ch (V.take i);have hcl:=fC (V.getD i 0) hk.1 hk.2;have hAt:At (Mo (Tl ch V V.length)) (Tl ch V i).length (Ts (now ch (V.take i)).1 (now ch (V.take i)).2.1 (V.getD i 0)):=by
   intro m hm;rw[GH,hw,Tl,Aec,Ak1,Avd hm]
  have hlen:(Tl ch V i).length+(Ts (now ch (V.take i)).1 (now ch (V.take i)).2.1 (V.getD i 0)).length<= (Tl ch V V.length).length:=by
   rw[hw,Tl,Abt,Abt];omega
  have ih:=Aj8 ch V N hN j (i+1) (by omega);rw[Tl,Abt]at ih;generalize Mo (Tl ch V V.length)=p at*
  generalize(Tl ch V i).length=a at*
  have hw2:(Ts (now ch (V.take i)).1 (now ch (V.take i)).2.1 (V.getD i 0)).length<=win N a:=by unfold win;omega
  have hAt2:At (Rw p a (win N a)) 0 (Ts (now ch (V.take i)).1 (now ch (V.take i)).2.1 (V.getD i 0)):=by
   intro m hm;rw[Bdf,yC,Aas (by omega),hAt m hm]
  have hb:=Av3 hk.1 hk.2 hAt2 (by omega:0+_<=win N a);have hcode:Ns ch p N a (V.take i)=(V.getD i 0,((0+(Ts (now ch (V.take i)).1 (now ch (V.take i)).2.1 (V.getD i 0)).length:Nat):Int),0):=hb;rw[Wv,hcode];simp only;rw[Aaf (by decide),Bdf,Ah2];have ht:V.take i++[V.getD i 0]=V.take (i+1):=by
   have hg:V.getD i 0=V[i]:=by rw[List.getD_eq_getElem?_getD,List.getElem?_eq_getElem (by omega)];rfl
   rw[hg,Ij (by omega)]
  rw[ht];exact ih
def P64:Nat:=4823603603198064275
def UN(s:Nat):Nat:=(2*s %18446744073709551616)^^^ (s/9223372036854775808*P64)
theorem iD{s:Nat}(h:s<18446744073709551616):UN s<18446744073709551616:=by
 have h1:s/9223372036854775808=0\/s/9223372036854775808=1:=by omega
 exact Bhl (n:=64) (Bj3 _ (by decide)) (by rcases h1 with e|e<;>rw[e]<;>decide)
theorem Au2(x y:Nat):(x^^^y)/9223372036854775808=(x/9223372036854775808)^^^ (y/9223372036854775808):=by
 have:=Nat.shiftRight_xor_distrib (a:=x) (b:=y) (i:=63);simpa [Nat.shiftRight_eq_div_pow]using this
theorem Auw(x y:Nat):2*(x^^^y) %18446744073709551616=(2*x %18446744073709551616)^^^ (2*y %18446744073709551616):=by
 have h1:=Nat.shiftLeft_xor_distrib (a:=x) (b:=y) (i:=1);have h2:=Nat.xor_mod_two_pow (a:=2*x) (b:=2*y) (n:=64);have e:2*(x^^^y)=(2*x)^^^ (2*y):=by simpa [Nat.shiftLeft_eq,Asu]using h1
 rw[e];exact h2
theorem Bf7{a b:Nat}(ha:a=0\/a=1)(hb:b=0\/b=1)(p:Nat):(a^^^b)*p=(a*p)^^^ (b*p):=by
 rcases ha with rfl|rfl<;>rcases hb with rfl|rfl<;>simp
theorem Bmp(a b c d:Nat):(a^^^b)^^^ (c^^^d)=(a^^^c)^^^ (b^^^d):=by
 rw[Bk2,Bk2,<-Bk2 b c d,Bom b c,Bk2 c b d]
theorem As6{x y:Nat}(hx:x<18446744073709551616)(hy:y<18446744073709551616):UN (x^^^y)=UN x^^^UN y:=by
 rw[UN,UN,UN,Auw,Au2,Bf7 (by omega) (by omega),Bmp]
def Rk:Nat->Nat->Nat
 |0,s=>s
 |k+1,s=>Rk k (UN s)
theorem Abg:∀(k:Nat) {s:Nat},s<18446744073709551616->Rk k s<18446744073709551616
 |0,_,h=>h
 |k+1,_,h=>Abg k (iD h)
theorem Ae2:∀(k:Nat) {x y:Nat},x<18446744073709551616->y<18446744073709551616->Rk k (x^^^y)=Rk k x^^^Rk k y
 |0,_,_,_,_=>rfl
 |k+1,x,y,hx,hy=>by rw[Rk,As6 hx hy,Ae2 k (iD hx) (iD hy)];rfl
theorem Ae3:∀(k h:Nat),2^k*h<18446744073709551616->Rk k h=2^k*h
 |0,h,_=>by simp[Rk]
 |k+1,h,hl=>by
  have hpos:0<2^k:=Bl3 (by omega);rw[Ayu,Bc9]at hl;have h2:2*h<18446744073709551616:=Bk0 (Nat.le_mul_of_pos_left _ hpos) hl;have:UN h=2*h:=by rw[UN,Ac1 h2,show h/9223372036854775808=0 by omega];simp
  rw[Rk,this,Ae3 k _ hl,Ayu,Bc9]
def rC(s c:Nat):Nat:=Rk 8 (s^^^ (c*72057594037927936))
theorem c56{c:Nat}(hc:c<256):c*72057594037927936<18446744073709551616:=by omega
theorem zY{s c:Nat}(h:s<18446744073709551616)(hc:c<256):rC s c<18446744073709551616:=Abg 8 (Bhl (n:=64) h (c56 hc))
theorem Bgh(s:Nat):s=(s/72057594037927936*72057594037927936)^^^ (s %72057594037927936):=by
 have h1:s %72057594037927936<2^56:=Bj3 _ (by decide);have:=Bg2 h1 (s/72057594037927936);have h2:2^56*(s/72057594037927936)|||s %72057594037927936=(2^56*(s/72057594037927936))^^^ (s %72057594037927936):=by
  apply Nat.eq_of_testBit_eq;intro i;rw[Nat.testBit_or,Nat.testBit_xor];by_cases hi:i<56
  ·have:(2^56*(s/72057594037927936)).testBit i=false:=by rw[Nat.testBit_two_pow_mul];simp;omega
   rw[this];simp
  ·have:(s %72057594037927936).testBit i=false:=Nat.testBit_lt_two_pow (Arb h1 (Ak6 (by omega) (by omega)));rw[this];simp
 rw[Asu (s/72057594037927936)]
 show s=(2^56*(s/72057594037927936))^^^ _;rw[<-h2,<-this];have:=Bns s 72057594037927936
 show s=72057594037927936*_+_;omega
theorem Ays(a c:Nat):(a^^^c)*72057594037927936=(a*72057594037927936)^^^ (c*72057594037927936):=by
 have h1:=Nat.shiftLeft_xor_distrib (a:=a) (b:=c) (i:=56);simpa [Nat.shiftLeft_eq]using h1
theorem Am3{s c:Nat}(h:s<18446744073709551616)(hc:c<256):rC s c=(256*s %18446744073709551616)^^^Rk 8 (((s/72057594037927936)^^^c)*72057594037927936):=by
 have hs:s/72057594037927936<2^8:=by show _<256;omega
 have hx:(s/72057594037927936)^^^c<256:=Bhl (n:=8) hs (by simpa using hc);have hl:s %72057594037927936<72057594037927936:=Bj3 _ (by decide);rw[rC]
 conv=>lhs;rw[Bgh s]
 rw[Bom (s/72057594037927936*72057594037927936),Bk2,<-Ays,Ae2 8 (by omega) (c56 hx),Ae3 8 _ (by show 256*_<_;omega)];congr 1
 show 256*(s %72057594037927936)=_;omega
def Ahs(s:Nat)(l:List UInt8):Nat:=l.foldl (λs c=>rC s c.toNat) s
theorem Aif{n:Nat}(h:n<18446744073709551616):(UInt64.ofNat n).toNat=n:=by rw[Amh];exact Ac1 h
theorem Bif(s:UInt64)(bit:Nat)(hb:bit=0\/bit=1):JC s (bit:Int)=some (UInt64.ofNat ((2*s.toNat %18446744073709551616)^^^ (((s.toNat/9223372036854775808)^^^bit)*P64))):=by
 have hs:=s.toNat_lt;have ht:s.toNat/9223372036854775808=0\/s.toNat/9223372036854775808=1:=by omega
 have e1:(Bg s (2:UInt64)).toNat=2*s.toNat %18446744073709551616:=by
  rw[RJ,UInt64.toNat_mul];show s.toNat*2 %_=_;rw[Asu]
 have hlt:2*s.toNat %18446744073709551616<18446744073709551616:=Bj3 _ (by decide);have ey:AI (Bg s (2:UInt64)) (4823603603198064275:UInt64)=UInt64.ofNat ((2*s.toNat %18446744073709551616)^^^P64):=by
  apply UInt64.toNat_inj.1;rw[Af5,UInt64.toNat_xor,e1,Aif (Bhl (n:=64) hlt (by decide))];rfl
 have en:Bg s (2:UInt64)=UInt64.ofNat (2*s.toNat %18446744073709551616):=by
  apply UInt64.toNat_inj.1;rw[e1,Aif hlt]
 have eg:Ml s (9223372036854775808:UInt64)=decide (s.toNat/9223372036854775808=1):=by
  rw[Bgm,decide_eq_decide]
  show 9223372036854775808<=s.toNat↔_;omega
 have hp:∀b:Bool,AK s b=some (if b=true then UInt64.ofNat ((2*s.toNat %18446744073709551616)^^^P64)else UInt64.ofNat (2*s.toNat %18446744073709551616)):=by
  intro b;rw[AK,RO,ey,en];cases b<;>rfl
 rw[JC,RL,hp,hp,eg];rcases hb with rfl|rfl<;>rcases ht with h|h<;>rw[h]<;>simp[Ar]
theorem Abm(c:UInt8):∀(j q:Nat) (s:UInt64),j<=8->j<q->Mz c q s ((2^j/2:Nat):Int)=some (UInt64.ofNat (Rk j (s.toNat^^^ (c.toNat %2^j*2^(64-j)))))
 |0,q+1,s,_,_=>by
  rw[Mz,Zy,Aaf (by rw[As];simp),TP,SM];simp[Rk,Nat.mod_one]
 |j+1,q+1,s,hj,hq=>by
  have hc:=c.toNat_lt;have hs:=s.toNat_lt;have hj2:2^j<=2^7:=Ak6 (by omega) (by omega);have hpos:0<2^j:=Bl3 (by omega);have e1:2^(j+1)/2=2^j:=by rw[Ayu];omega
  have e2:Ca ((2^j:Nat):Int) 2=((2^j/2:Nat):Int):=by
   generalize 2^j=K at*
   rw[UU,Bik (by omega),Dg (by omega) (by omega)];omega
  have e3:Gc (Ca (Af c:Int) ((2^j:Nat):Int)) (2:Int)=((c.toNat/2^j %2:Nat):Int):=by
   have hX:=Atx c.toNat (2^j);rw[XC,UU,<-Int.ofNat_tdiv];generalize c.toNat/2^j=X at*
   rw[Dg (by omega) (by omega),Gc,Bj6 (by omega)];omega
  have hbit:c.toNat/2^j %2=0\/c.toNat/2^j %2=1:=by omega
  rw[Mz,Zy,e1,Aas (by rw[As,Acw];omega),Bu (by rw[Al,Bn2];omega),Aa,e3,Bif s _ hbit,Aa,e2,Abm c j q _ (by omega) (by omega)];congr 2;rw[Rk];congr 1;have hx:c.toNat %2^(j+1)*2^(64-(j+1))=(c.toNat/2^j %2)*9223372036854775808+c.toNat %2^j*2^(63-j):=by
   have h63:(9223372036854775808:Nat)=2^j*2^(63-j):=by rw[<-Bn5,show j+(63-j)=63 by omega]
   rw[Nat.mod_pow_succ,h63,show 64-(j+1)=63-j by omega,Ana,Bmz,Bc9,Nat.mul_left_comm]
  have hr:c.toNat %2^j<2^j:=Bj3 _ hpos;have Bpl:c.toNat %2^j*2^(63-j)<9223372036854775808:=by
   have h63:(9223372036854775808:Nat)=2^j*2^(63-j):=by rw[<-Bn5,show j+(63-j)=63 by omega]
   rw[h63];exact Nat.mul_lt_mul_of_pos_right hr (Bl3 (by omega))
  have h64:c.toNat %2^j*2^(64-j)=2*(c.toNat %2^j*2^(63-j)):=by
   rw[show 64-j=(63-j)+1 by omega,Ayu,<-Bc9,Asu]
  rw[hx,h64];generalize c.toNat %2^j*2^(63-j)=R at*
  generalize c.toNat/2^j %2=b at*
  have ht:s.toNat/9223372036854775808=0\/s.toNat/9223372036854775808=1:=by omega
  have hp:((s.toNat/9223372036854775808^^^b)*P64)<18446744073709551616:=by
   rcases ht with h|h<;>rcases hbit with h2|h2<;>rw[h,h2]<;>decide
  rw[Aif (Bhl (n:=64) (Bj3 _ (by decide)) hp),UN,Auw,Au2,show(b*9223372036854775808+R)/9223372036854775808=b by omega,show 2*(b*9223372036854775808+R) %18446744073709551616=2*R by omega,Bk2,Bk2,Bom (2*R)]
theorem Bio(c:UInt8)(s:UInt64):bH s c=some (UInt64.ofNat (rC s.toNat c.toNat)):=by
 have h:=Abm c 8 Au s (Aob _) (by have:=Aq;omega);have hc:=c.toNat_lt;rw[Ac1 (show c.toNat<2^8 by simpa using hc)]at h;exact h
theorem tZ(b:List UInt8)(hb:b.length<4611686018427387904):∀(j i q:Nat) (s:UInt64),i+j=b.length->j<q->Kh b q s (i:Int)=some (UInt64.ofNat (Ahs s.toNat (b.drop i)))
 |0,i,q+1,s,hi,_=>by
  rw[Kh,Ws,Aaf (by rw[Ae,Ac];simp;omega),show i=b.length by omega,Blu];simp[LG,IQ,Ahs]
 |j+1,i,q+1,s,hi,hq=>by
  have hlt:i<b.length:=by omega
  have hc:=b[i].toNat_lt;rw[Kh,Ws,Aas (by rw[Ae,Ac];simp;omega),Bm hlt,Aa,Bio,Aa,Ah (by omega) (by omega)];have h:=tZ b hb j (i+1) q (UInt64.ofNat (rC s.toNat b[i].toNat)) (by omega) (by omega);rw[show((i:Int)+1)=((i+1:Nat):Int) by omega,h,drop_cons hlt,Aif (zY s.toNat_lt (by simpa using hc))];rfl
def Vk(b:List UInt8):UInt64:=UInt64.ofNat (Ahs 0 b)
theorem Aqs(b:List UInt8)(hb:b.length<=100000):CF 0 b=some (Vk b):=
 tZ b (by omega) b.length 0 Au 0 (by omega) (by have:=Aq;omega)
theorem Ati(c:UInt64):AI (Dp c (GI.toZ (1:UInt64)).toNat) (Bg (4823603603198064275:UInt64) (Ck c (GI.toZ (63:UInt64)).toNat))=UInt64.ofNat (UN c.toNat):=by
 have hc:=c.toNat_lt;apply UInt64.toNat_inj.1;have h1:(Dp c (GI.toZ (1:UInt64)).toNat).toNat=2*c.toNat %18446744073709551616:=by
  rw[show(GI.toZ (1:UInt64)).toNat=1 from rfl,YP,Asu]
 have h2:(Bg (4823603603198064275:UInt64) (Ck c (GI.toZ (63:UInt64)).toNat)).toNat=c.toNat/9223372036854775808*P64:=by
  rw[show(GI.toZ (63:UInt64)).toNat=63 from rfl,RJ,UInt64.toNat_mul,DN]
  show 4823603603198064275*(c.toNat/9223372036854775808) %18446744073709551616=_;have h1:c.toNat/9223372036854775808=0\/c.toNat/9223372036854775808=1:=by omega
  rcases h1 with e|e<;>rw[e]<;>decide
 rw[Af5,UInt64.toNat_xor,h1,h2,Aif (iD hc)];rfl
theorem Abn(Iw:Int->List UInt64->Option (UInt64×Int))(s:UInt64)(b:List UInt8)(x:Int)(t:List UInt64):∀(j i q:Nat) (c:UInt64),i+j=8->j<q->
  Uu Iw s b x t q c (i:Int)=JV Iw s b x (UInt64.ofNat (Rk j c.toNat)) t
 |0,i,q+1,c,hi,_=>by
  obtain rfl:i=8:=by omega
  rw[Uu,KG,Aaf (by rw[Ae];simp),Rk,UInt64.ofNat_toNat]
 |j+1,i,q+1,c,hi,hq=>by
  rw[Uu,KG,Aas (by rw[Ae];simp;omega),Ati,Ah (by omega) (by omega),show((i:Int)+1)=((i+1:Nat):Int) by omega,Abn Iw s b x t j (i+1) q _ (by omega) (by omega),Aif (iD c.toNat_lt)];rfl
def dB(n:Nat):List UInt64:=(List.range n).map λi=>UInt64.ofNat (Rk 8 (i*72057594037927936))
theorem Afv(s:UInt64)(b:List UInt8):∀(j i q:Nat),i+j=256->j<q->Qe s b q (i:Int) (dB i++List.replicate j 0)=IF s b (dB 256)
 |0,i,q+1,hi,_=>by
  obtain rfl:i=256:=by omega
  rw[Qe,LW,Aaf (by rw[Ae];simp)];simp
 |j+1,i,q+1,hi,hq=>by
  have hlen:(dB i++List.replicate (j+1) 0).length=i+(j+1):=by simp[dB]
  rw[Qe,LW,Aas (by rw[Ae];simp;omega),ZQ];have h:=Abn (Qe s b q) s b (i:Int) (dB i++List.replicate (j+1) 0) 8 0 Au (Dp (Af (i:Int):UInt64) (GI.toZ (56:UInt64)).toNat) (by omega) (by have:=Aq;omega);rw[show((0:Int))=((0:Nat):Int)from rfl,h,JV,aY,Bm (by rw[hlen];omega),Aa,Wf _ (by rw[hlen];omega),Aa,YA,oG,Ah (by omega) (by omega)];have e:(Dp (Af (i:Int):UInt64) (GI.toZ (56:UInt64)).toNat).toNat=i*72057594037927936:=by
   rw[YP,Xp,Aif (by omega)]
   show i*72057594037927936 %18446744073709551616=_;omega
  rw[e,Bho,sE (by simp[dB])];have h2:=Afv s b j (i+1) q (by omega) (by omega);have h3:dB (i+1)=dB i++[UInt64.ofNat (Rk 8 (i*72057594037927936))]:=by simp[dB,Boe]
  rw[h3]at h2;rw[show((i:Int)+1)=((i+1:Nat):Int) by omega,<-h2];simp
theorem Awk{i:Nat}(h:i<256):Ap (dB 256) (i:Int)=some (UInt64.ofNat (Rk 8 (i*72057594037927936))):=by
 rw[Bm (by simpa [dB]using h)];simp[dB]
theorem Aon(s:UInt64)(c:UInt8):Ap (dB 256) (GI.toZ (AI (Af (Ck s (GI.toZ (56:UInt64)).toNat):UInt8) c))=some (UInt64.ofNat (Rk 8 (((s.toNat/72057594037927936)^^^c.toNat)*72057594037927936))):=by
 have hs:=s.toNat_lt;have e:GI.toZ (AI (Af (Ck s (GI.toZ (56:UInt64)).toNat):UInt8) c)=(((s.toNat/72057594037927936)^^^c.toNat:Nat):Int):=by
  have e2:((Af (Ck s (GI.toZ (56:UInt64)).toNat):UInt8)).toNat=s.toNat/72057594037927936:=by
   rw[ZM,Aq6,DN]
   show s.toNat/72057594037927936 %256=_;omega
  rw[FY,At5,UInt8.toNat_xor,e2]
 rw[e,Awk];exact Bhl (n:=8) (by show _<256;omega) (by simpa using c.toNat_lt)
theorem Alh(s:UInt64)(c:UInt8):AI (Dp s (GI.toZ (8:UInt64)).toNat) (UInt64.ofNat (Rk 8 (((s.toNat/72057594037927936)^^^c.toNat)*72057594037927936)))=UInt64.ofNat (rC s.toNat c.toNat):=by
 have hs:=s.toNat_lt;have hc:c.toNat<256:=by simpa using c.toNat_lt
 apply UInt64.toNat_inj.1;have hlt:Rk 8 (((s.toNat/72057594037927936)^^^c.toNat)*72057594037927936)<18446744073709551616:=Abg 8 (c56 (Bhl (n:=8) (by show _<256;omega) (by simpa using c.toNat_lt)));have e:(GI.toZ (8:UInt64)).toNat=8:=rfl;rw[e,Af5,UInt64.toNat_xor,YP,Aif hlt,Aif (zY hs hc),Am3 hs hc,Asu s.toNat]
theorem Acb(b:List UInt8)(s0:UInt64)(hb:b.length<4611686018427387904):∀(j i q:Nat) (s:UInt64),i+j=b.length->j<q->Ve b s0 (dB 256) q s (i:Int)=some (UInt64.ofNat (Ahs s.toNat (b.drop i)),0)
 |0,i,q+1,s,hi,_=>by
  rw[Ve,MA,Aaf (by rw[Ae,Ac];simp;omega),show i=b.length by omega,Blu];simp[bC,XM,ZA,oY,Ahs]
 |j+1,i,q+1,s,hi,hq=>by
  have hlt:i<b.length:=by omega
  have hc:=b[i].toNat_lt;rw[Ve,MA,Aas (by rw[Ae,Ac];simp;omega),Bm hlt,Aa,Aon,Aa,Aa,Alh,Ah (by omega) (by omega)];have h:=Acb b s0 hb j (i+1) q (UInt64.ofNat (rC s.toNat b[i].toNat)) (by omega) (by omega);rw[show((i:Int)+1)=((i+1:Nat):Int) by omega,h,drop_cons hlt,Aif (zY s.toNat_lt (by simpa using hc))];rfl
theorem Aoy(b:List UInt8)(hb:b.length<=100000):gD b=some (Vk b,0):=by
 have h:=Afv 0 b 256 0 Au (by omega) (by have:=Aq;omega);have h2:=Acb b 0 (by omega) b.length 0 Au 0 (by omega) (by have:=Aq;omega);have hn:lN 0 b=some (Vk b,0):=by
  rw[lN,dP,Aaf (by rw[As,Ac];simp;omega),XY];refine Bj5 h ?_;rw[IF,aK,YF];exact h2
 rw[gD,hn,Aa]
theorem sC(p:List UInt8)(hp:p.length<=64):JK p=some (Sm (Vk p).toNat 8,0):=by
 rw[JK,Aa1,Aaf (by rw[As,Ac];simp;omega),Aoy p (by omega),Aa,Aa];simp only;have h:=ZY (Vk p) 8 (by omega) (by omega) (by simpa using(Vk p).toNat_lt);rw[Aaf (by rw[Al];simp)];exact congrArg (λo=>Option.bind o λx:List UInt8×Int=>some (x.1,x.2)) h
theorem iN(p:List UInt8)(hp:p.length<=64):Mx p=some (Sm (Vk p).toNat 8):=by
 have h:=Agv (Vk p) 8 (by omega);rw[Mx,cQ,Aqs p (by omega),Aa,Aa];exact congrArg (λo=>Option.bind o λl=>some l) h
def s8(n:Nat):Int32:=Int32.ofInt (if n<128 then(n:Int)else(n:Int)-256)
def cF(d:UInt64)(n:Nat):List Int32:=(List.range n).map λi=>s8 (d.toNat/256^i %256)
theorem iW(d:UInt64)(n:Nat):(cF d n).length=n:=by simp[cF]
theorem Af0(d:UInt64)(n:Nat):cF d (n+1)=cF d n++[s8 (d.toNat/256^n %256)]:=by simp[cF,Boe]
theorem bm8(z:Nat):(z:Int).bmod Int8.size=if z %256<128 then((z %256:Nat):Int)else((z %256:Nat):Int)-256:=by
 rw[show Int8.size=256 from rfl,Int.bmod_def];split<;>split<;>omega
theorem Avv(d:UInt64):∀(j i q:Nat),i+j=8->j<q->NW d q (i:Int) (cF d i++List.replicate (16-i) 0)=some (cF d 8++List.replicate 8 0)
 |0,i,q+1,hi,_=>by
  obtain rfl:i=8:=by omega
  rw[NW,lB,Aaf (by rw[Ae];simp)];rfl
 |j+1,i,q+1,hi,hq=>by
  have hlen:(cF d i++List.replicate (16-i) 0).length=16:=by simp[iW];omega
  have ih:=Avv d j (i+1) q (by omega) (by omega);have e8:Bg (8:Int) (i:Int)=((8*i:Nat):Int):=by rw[Fc (by omega) (by omega)];omega
  have ev:(Af (Af (Ck d (GI.toZ (((8*i:Nat):Int))).toNat):Int8):Int32)=s8 (d.toNat/256^i %256):=by
   have e1:(Ck d (GI.toZ (((8*i:Nat):Int))).toNat).toNat=d.toNat/256^i:=by
    rw[show(GI.toZ (((8*i:Nat):Int))).toNat=8*i from rfl,DN,Nat.pow_mul]
   show Int32.ofInt (Int8.ofInt ((Ck d (GI.toZ (((8*i:Nat):Int))).toNat).toNat:Int)).toInt=_;rw[e1,s8,Int8.toInt_ofInt,bm8]
  rw[NW,lB,Aas (by rw[Ae];simp;omega),e8,Bu (by rw[Ds];simp;omega),Aa,ev,Bm (by omega),Aa,Wf _ (by omega),Aa,Ah (by omega) (by omega),show 16-i=(15-i)+1 by omega,Bho,sE (iW d i)];rw[Af0,show 16-(i+1)=15-i by omega,Aec]at ih;exact ih
theorem Bbt(d:UInt64):∀(j i q:Nat) (e:UInt64),i+j=8->j<q->e.toNat=d.toNat/256^i->Md q e (i:Int) (cF d i++List.replicate (16-i) 0)=some (cF d 8++List.replicate 8 0)
 |0,i,q+1,e,hi,_,he=>by
  obtain rfl:i=8:=by omega
  rw[Md,FG,Aaf (by rw[Ae];simp)];rfl
 |j+1,i,q+1,e,hi,hq,he=>by
  have hlen:(cF d i++List.replicate (16-i) 0).length=16:=by simp[iW];omega
  have hq2:(Ca e (256:UInt64)).toNat=d.toNat/256^(i+1):=by
   rw[yE,Bn9,he,Ayu,<-Bl8];rfl
  have ih:=Bbt d j (i+1) q (Ca e (256:UInt64)) (by omega) (by omega) hq2;have ev:(Af (HQ e (256:UInt64)):Int32)=Int32.ofInt ((d.toNat/256^i %256:Nat):Int):=by
   show Int32.ofInt ((HQ e (256:UInt64)).toNat:Int)=_;rw[Ann,UInt64.toNat_mod,he];rfl
  have hz:d.toNat/256^i %256<256:=Bj3 _ (by omega);have et:(Int32.ofInt ((d.toNat/256^i %256:Nat):Int)).toInt=((d.toNat/256^i %256:Nat):Int):=by
   rw[Bly,Bog (by show -(4294967296/2:Int)<= _;omega) (by show _<(4294967296+1)/2;omega)]
  have hp8:∀x:Int32,x=s8 (d.toNat/256^i %256)->FH (Md q) e (i:Int) (cF d i++List.replicate (16-i) 0) x=some (cF d 8++List.replicate 8 0):=by
   intro x hx;rw[FH,YK,hx,Bm (by omega),Aa,Wf _ (by omega),Aa,Ah (by omega) (by omega),show 16-i=(15-i)+1 by omega,Bho,sE (iW d i)];rw[Af0,show 16-(i+1)=15-i by omega,Aec]at ih;exact ih
  rw[Md,FG,Aas (by rw[Ae];simp;omega),ev,Atj,et,show(127:Int32).toInt=127 from rfl];by_cases h:d.toNat/256^i %256<128
  ·rw[Aaf (by simp only[Acw];omega)];exact hp8 _ (by rw[s8,Aas h])
  ·rw[Aas (by simp only[Acw];omega)];refine hp8 _ ?_;rw[s8,Aaf h,YR,Int32.ofInt_sub];rfl
def Kf(p:List UInt8):List Int32:=cF (Vk p) 8++List.replicate 8 0
theorem Kq(p:List UInt8):(Kf p).length=16:=by simp[Kf,iW]
theorem XH(p:List UInt8)(hp:p.length<=64):Rr p=some (Kf p,0):=by
 have h:=Avv (Vk p) 8 0 Au (by omega) (by have:=Aq;omega);have h2:Amy (Vk p)=some (Kf p):=h;rw[Rr,Aaf (by rw[As,Ac];simp;omega),Aoy p (by omega),Aa];simp only;rw[Aaf (by rw[Al];simp),h2,Aa]
theorem LR(p:List UInt8)(hp:p.length<=64):Ni p=some (Kf p,0):=by
 have h:=Bbt (Vk p) 8 0 Au (Vk p) (by omega) (by have:=Aq;omega) (by simp);have h2:mN (Vk p)=some (Kf p):=h;rw[Ni,Aaf (by rw[As,Ac];simp;omega),gJ,cK,Aaf (by rw[As,Ac];simp;omega),Aqs p (by omega),Aa,Aa,Aa];simp only;rw[h2,Aa]
def u8(z:Int):UInt8:=UInt8.ofNat (z %256).toNat
theorem Al0(z:Int):u8 (z %256)=u8 z:=by rw[u8,u8];congr 2;omega
def wB(bits:Int):Nat:=if bits=8 then 1 else if bits=16 then 2 else 3
theorem Arf{bits:Int}(h:Bk bits):Ca bits 8=(wB bits:Int):=by obtain rfl|rfl|rfl:=h<;>rfl
theorem zK(bits:Int):1<=wB bits/\wB bits<=3:=by
 unfold wB;split; · omega
 ·split<;>omega
def FZ(bits:Int)(x:Int):List UInt8:=if bits=8 then [u8 (x+128)]else if bits=16 then [u8 x,u8 (x/256)]else [u8 x,u8 (x/256),u8 (x/65536)]
theorem Anu(bits x:Int):(FZ bits x).length<=3:=by
 unfold FZ;split; · simp
 ·split<;>simp
theorem Ba2(x:Int32)(k:Nat)(hk:k<=32):(Af (Ck x k):UInt8)=u8 (x.toInt.fdiv (2^k)):=by
 have h:=CU x;have e:Ck x k=Int32.ofInt (x.toInt.fdiv (2^k)):=by
  show Int32.ofInt (x.toInt.fdiv (2^min k 32))=_;rw[Bfs hk]
 have hb: -2147483648<=x.toInt.fdiv (2^k)/\x.toInt.fdiv (2^k)<2147483648:=by
  have hpos:(0:Int)<2^k:=Int.pow_pos (by omega);rw[Atp _ (by omega)];constructor
  ·refine(Int.le_ediv_iff_mul_le hpos).2 ?_;have:(1:Int)<=2^k:=by omega
   have h2: -2147483648*(2^k:Int)<= -2147483648*1:=Int.mul_le_mul_of_nonpos_left (by omega) this;omega
  ·refine Int.ediv_lt_of_lt_mul hpos ?_;have:(1:Int)<=2^k:=by omega
   have h2:(2147483648:Int)*1<=2147483648*2^k:=Int.mul_le_mul_of_nonneg_left this (by omega);omega
 show UInt8.ofNat ((Ck x k).toInt %256).toNat=_;rw[e,Bly,Bog (by show -(4294967296/2:Int)<= _;omega) (by show _<(4294967296+1)/2;omega)];rfl
section
variable (bk:Int->List UInt8->Option (List UInt8×Int)) (l:List Int32)
theorem Adj{bits:Int}(h:Bk bits)(c:Int32)(x:Int)(i q:Nat)(acc:List UInt8)(hi:i<wB bits)(ha:acc.length<=100000):
  Lc bk bits l c x (q+1) (i:Int) acc=Lc bk bits l c x q ((i+1:Nat):Int) (acc++[u8 (c.toInt.fdiv (2^(8*i)))]):=by
 have hw:=zK bits;have e8:Bg (8:Int) (i:Int)=((8*i:Nat):Int):=by rw[Fc (by omega) (by omega)];omega
 rw[Lc,EX,Arf h,Aas (by rw[Ae];simp;omega),e8,Bu (by rw[Ds];simp;omega),Aa,show(GI.toZ (((8*i:Nat):Int))).toNat=8*i from rfl,Ba2 _ _ (by omega),Bd (by simp;omega),Aa,Ah (by omega) (by omega)];rfl
theorem Ath{bits:Int}(h:Bk bits)(c:Int32)(x:Int)(q:Nat)(acc:List UInt8):Lc bk bits l c x (q+1) ((wB bits:Nat):Int) acc=bk (Ad x 1) acc:=by
 rw[Lc,EX,Arf h,Aaf (by rw[Ae];simp),UJ,mF]
theorem Bhw{bits:Int}(h:Bk bits)(c:Int32)(x:Int)(acc:List UInt8)(ha:acc.length<=90000)(hr: -(hB bits)<=c.toInt/\c.toInt<hB bits):
  Ny bk bits l x acc (if bits=8 then Ad c (128:Int32)else c)=bk (Ad x 1) (acc++FZ bits c.toInt):=by
 have e:Au=(Au-4)+1+1+1+1:=by have:=Aq;omega
 have hc:=CU c;rw[Ny,UY,UO,e];have g0:=λ(c:Int32) q acc ha=>Adj bk l h c x 0 q acc (by have:=zK bits;omega) ha;obtain rfl|rfl|rfl:=h
 ·have hh:hB 8=128:=rfl;rw[hh]at hr;have e1:(Ad c (128:Int32)).toInt=c.toInt+128:=by
   show(Int32.ofInt (c.toInt+(128:Int32).toInt)).toInt=_;rw[show(128:Int32).toInt=128 from rfl,Bly,Bog (by show -(4294967296/2:Int)<= _;omega) (by show _<(4294967296+1)/2;omega)]
  have g1:=Ath bk l (bits:=8) (.inl rfl) (Ad c (128:Int32)) x (Au-4+1+1);rw[Aas rfl,show(0:Int)=((0:Nat):Int)from rfl,g0 _ _ _ (by omega)];refine Bj5 (g1 _) ?_;rw[e1,FZ,Aas rfl]
  show bk _ (acc++[u8 ((c.toInt+128).fdiv 1)])=_;rw[Int.fdiv_one]
 ·have g1:=λq acc ha=>Adj bk l (bits:=16) (.inr (.inl rfl)) c x 1 q acc (by decide) ha;have g2:=Ath bk l (bits:=16) (.inr (.inl rfl)) c x (Au-4+1);rw[Aaf (by decide),show(0:Int)=((0:Nat):Int)from rfl,g0 _ _ _ (by omega),g1 _ _ (by simp;omega)];refine Bj5 (g2 _) ?_;rw[FZ,Aaf (by decide),Aas rfl,Aec]
  show bk _ (acc++[u8 (c.toInt.fdiv 1),u8 (c.toInt.fdiv 256)])=_;rw[Int.fdiv_one,Atp _ (by omega)]
 ·have g1:=λq acc ha=>Adj bk l (bits:=24) (.inr (.inr rfl)) c x 1 q acc (by decide) ha;have g2:=λq acc ha=>Adj bk l (bits:=24) (.inr (.inr rfl)) c x 2 q acc (by decide) ha;have g3:=Ath bk l (bits:=24) (.inr (.inr rfl)) c x (Au-4);rw[Aaf (by decide),show(0:Int)=((0:Nat):Int)from rfl,g0 _ _ _ (by omega),g1 _ _ (by simp;omega),g2 _ _ (by simp;omega)];refine Bj5 (g3 _) ?_;rw[FZ,Aaf (by decide),Aaf (by decide),Aec,Aec]
  show bk _ (acc++[u8 (c.toInt.fdiv 1),u8 (c.toInt.fdiv 256),u8 (c.toInt.fdiv 65536)])=_;rw[Int.fdiv_one,Atp _ (by omega),Atp _ (by omega)]
end
def Cv(bits:Int)(l:List Int32):List UInt8:=l.flatMap λx=>FZ bits x.toInt
theorem PK(bits:Int):∀l:List Int32,(Cv bits l).length<=3*l.length
 |[]=>by simp[Cv]
 |x::l=>by
  have h1:=PK bits l;have h2:=Anu bits x.toInt;simp only[Cv,Boh,Abt,Anf]at*
  omega
def inR(bits:Int)(l:List Int32):Prop:=∀x∈l, -(hB bits)<=x.toInt/\x.toInt<hB bits
theorem Atv{bits:Int}(h:Bk bits)(l:List Int32)(hl:l.length<=4000)(hr:inR bits l):∀(j i q:Nat),i+j=l.length->j<q->Hn bits l q (i:Int) (Cv bits (l.take i))=some (Cv bits l,0)
 |0,i,q+1,hi,_=>by
  rw[Hn,EI,Aaf (by rw[Ae,Ac];simp;omega),Aof (by omega)];rfl
 |j+1,i,q+1,hi,hq=>by
  have hlt:i<l.length:=by omega
  have ih:=Atv h l hl hr j (i+1) q (by omega) (by omega);have hlen:=PK bits (l.take i);have hx:=hr l[i] (Ane _);have h1:=Bhw (Hn bits l q) l h l[i] (i:Int) (Cv bits (l.take i)) (by rw[Ah9]at hlen;omega) hx;rw[Hn,EI,Aas (by rw[Ae,Ac];simp;omega),Bm hlt,Aa];have e:(if(geq bits (8:Int))=true then Ny (Hn bits l q) bits l (i:Int) (Cv bits (l.take i)) (Ad l[i] (128:Int32))else Ny (Hn bits l q) bits l (i:Int) (Cv bits (l.take i)) l[i])=Ny (Hn bits l q) bits l (i:Int) (Cv bits (l.take i)) (if bits=8 then Ad l[i] (128:Int32)else l[i]):=by
   by_cases h8:bits=8
   ·rw[Aas (by rw[Ar];simpa using h8),Aas h8]
   ·rw[Aaf (by rw[Ar];simpa using h8),Aaf h8]
  rw[e,h1,Ah (by omega) (by omega)];rw[Ij hlt]at ih;have e2:Cv bits (l.take i++[l[i]])=Cv bits (l.take i)++FZ bits l[i].toInt:=by unfold Cv;rw[List.flatMap_append,List.flatMap_singleton]
  rw[e2]at ih;exact ih
theorem rW{bits:Int}(h:Bk bits){l:List Int32}(hl:l.length<=4000)(hc:Bq bits l=some 0):inR bits l:=by
 have hh:=UQ bits;have key:∀(j i q:Nat),i+j=l.length->j<q->Bj l (hB bits) q (i:Int)=some 0->∀k,i<=k-> (hk:k<l.length)-> -(hB bits)<=l[k].toInt/\l[k].toInt<hB bits:=by
  intro j
  induction j with
  |zero=>intro i q hi hq _ k h1 h2;omega
  |succ j ih=>
   intro i q hi hq hs k h1 h2;obtain⟨q,rfl⟩:∃k,q=k+1:=⟨q-1,by omega⟩;rw[Bj,Eb,Aas (by rw[Ae,Ac];simp;omega),Bm (by omega),Aa,Aa,Ge,Ami,Dg (by omega) (by omega),Ah (by omega) (by omega),Ae,Ds]at hs;by_cases g1:l[i].toInt<0-hB bits
   ·rw[Aas (by simpa using g1)]at hs;simp at hs
   ·rw[Aaf (by simpa using g1)]at hs;by_cases g2:hB bits<=l[i].toInt
    ·rw[Aas (by simpa using g2)]at hs;simp at hs
    ·rw[Aaf (by simpa using g2)]at hs;by_cases hk:k=i
     ·subst hk;omega
     ·exact ih (i+1) q (by omega) (by omega) hs k (by omega) h2
 rw[Bq,Ik,qZ h,Aa,Aaf (by rw[Ar];simp;omega),Aaf (by rw[As,Ac];simp;omega)]at hc;have:=key l.length 0 Au (by omega) (by have:=Aq;omega) hc;intro x hx;obtain⟨k,hk,rfl⟩:=List.getElem_of_mem hx;exact this k (by omega) hk
theorem OD{bits:Int}(h:Bk bits){l:List Int32}(hl:l.length<=4000)(hc:Bq bits l=some 0):Lf bits l=some (Cv bits l,0):=by
 have h1:=Atv h l hl (rW h hl hc) l.length 0 Au (by omega) (by have:=Aq;omega);rw[Lf,YW,lO h l hl,hc,Aa,Aaf (by rw[Al];simp)];exact h1
theorem Be5{bits:Int}(h:Bk bits)(x:Int32)(hr: -(hB bits)<=x.toInt/\x.toInt<hB bits):OX bits x=some (FZ bits x.toInt):=by
 have hx:=CU x;have gu:∀z:Int,(Af z:UInt8)=u8 z:=λz=>rfl;have hq:∀n:Int,0<=n->n<=20000000->Ca n (256:Int)=n/256/\Ca n (65536:Int)=n/65536:=by
  intro n h1 h2;constructor<;>(rw[UU,Bik h1,Dg (by omega) (by omega)])
 have hm:∀n:Int,0<=n->Gc n (256:Int)=n %256:=λn h1=>by rw[Gc,Bj6 h1]
 rw[OX,VG,Ge];obtain rfl|rfl|rfl:=h
 ·rw[Aas (by rw[Ar];rfl),Ah (by omega) (by omega),gu,FZ,Aas rfl]
 ·have hh:hB 16=32768:=rfl;rw[hh]at hr;have hp:∀n:Int,0<=n->n<=70000->u8 n=u8 x.toInt->u8 (n/256)=u8 (x.toInt/256)->Oa 16 n=some (FZ 16 x.toInt):=by
   intro n h1 h2 h3 h4;rw[Oa,CB,Aaf (by rw[Ar];decide),hm n h1,(hq n h1 (by omega)).1,hm _ (by omega),gu,gu,Al0,Al0,h3,h4,FZ,Aaf (by decide),Aas rfl]
  rw[Aaf (by rw[Ar];decide)];by_cases hn:x.toInt<0
  ·rw[Aas (by rw[Ae];simpa using hn),qZ (.inr (.inl rfl)),Aa,hh,Fc (by omega) (by omega),Ah (by omega) (by omega)];refine hp _ (by omega) (by omega) ?_ ?_
   ·rw[u8,u8];congr 2;omega
   ·rw[u8,u8];congr 2;omega
  ·rw[Aaf (by rw[Ae];simpa using hn)];exact hp _ (by omega) (by omega) rfl rfl
 ·have hh:hB 24=8388608:=rfl;rw[hh]at hr;have hp:∀n:Int,0<=n->n<=16777215->u8 n=u8 x.toInt->u8 (n/256)=u8 (x.toInt/256)->u8 (n/65536)=u8 (x.toInt/65536)->Oa 24 n=some (FZ 24 x.toInt):=by
   intro n h1 h2 h3 h4 h5;rw[Oa,CB,Aas (by rw[Ar];rfl),hm n h1,(hq n h1 (by omega)).1,(hq n h1 (by omega)).2,hm _ (by omega),gu,gu,gu,Al0,Al0,h3,h4,h5,Bd (by simp),Aa,FZ,Aaf (by decide),Aaf (by decide)];rfl
  rw[Aaf (by rw[Ar];decide)];by_cases hn:x.toInt<0
  ·rw[Aas (by rw[Ae];simpa using hn),qZ (.inr (.inr rfl)),Aa,hh,Fc (by omega) (by omega),Ah (by omega) (by omega)];refine hp _ (by omega) (by omega) ?_ ?_ ?_
   ·rw[u8,u8];congr 2;omega
   ·rw[u8,u8];congr 2;omega
   ·rw[u8,u8];congr 2;omega
  ·rw[Aaf (by rw[Ae];simpa using hn)];exact hp _ (by omega) (by omega) rfl rfl rfl
theorem At3{bits:Int}(h:Bk bits)(l:List Int32)(hl:l.length<=4000)(hr:inR bits l):∀(j i q:Nat),i+j=l.length->j<q->Lm bits l q (i:Int) (Cv bits (l.take i))=some (Cv bits l,0)
 |0,i,q+1,hi,_=>by
  rw[Lm,Ya,Aaf (by rw[Ae,Ac];simp;omega),Aof (by omega)];rfl
 |j+1,i,q+1,hi,hq=>by
  have hlt:i<l.length:=by omega
  have ih:=At3 h l hl hr j (i+1) q (by omega) (by omega);have hlen:=PK bits (l.take i);have hol:=Anu bits l[i].toInt;rw[Ah9]at hlen;have e2:Cv bits (l.take i++[l[i]])=Cv bits (l.take i)++FZ bits l[i].toInt:=by unfold Cv;rw[List.flatMap_append,List.flatMap_singleton]
  rw[Ij hlt,e2]at ih;rw[Lm,Ya,Aas (by rw[Ae,Ac];simp;omega),Bm hlt,Aa,Be5 h _ (hr l[i] (Ane _)),Aa,Bd (by omega),Aa,Ah (by omega) (by omega)];exact ih
theorem HB{bits:Int}(h:Bk bits){l:List Int32}(hl:l.length<=4000)(hc:Bq bits l=some 0):Wp bits l=some (Cv bits l,0):=by
 have h1:=At3 h l hl (rW h hl hc) l.length 0 Au (by omega) (by have:=Aq;omega);rw[Wp,MV,hc,Aa,Aaf (by rw[Al];simp)];exact h1
def dJ:List UInt8->Nat->Int×Int
 |[],n=>((n:Int),0)
 |c::r,n=>if 128<=c.toNat then(0,12)else dJ r (128*n+c.toNat)
theorem Auj:∀(l:List UInt8) (n k:Nat),n<128^k->0<= (dJ l n).1/\ (dJ l n).1<((128^(k+l.length):Nat):Int)
 |[],n,k,h=>by simp[dJ];exact_mod_cast h
 |c::r,n,k,h=>by
  rw[dJ];split
  ·have:0<128^(k+(c::r).length):=Bl3 (by omega);exact⟨Int.le_refl _,by simp only;exact_mod_cast this⟩
  ·have:=Auj r (128*n+c.toNat) (k+1) (by rw[Ayu];omega);rw[Anf,show k+(r.length+1)=k+1+r.length by omega];exact this
theorem or7(n c:Nat)(hn:n<268435456)(hc:c<128):vM (Dp (n:Int) (GI.toZ (7:UInt64)).toNat) (c:Int)=((128*n+c:Nat):Int):=by
 have e:(GI.toZ (7:UInt64)).toNat=7:=rfl;have h1:Dp (n:Int) 7=((2^7*n:Nat):Int):=by
  have:Dp (n:Int) 7=wrap64 ((n:Int)*2^7):=rfl;rw[this,Dg (by omega) (by omega)];omega
 rw[e,h1];have h2:vM ((2^7*n:Nat):Int) (c:Int)=wrap64 ((BitVec.ofInt 64 ((2^7*n:Nat):Int)|||BitVec.ofInt 64 (c:Int)).toNat:Int):=rfl;rw[h2,BitVec.toNat_or,Bj4,Bj4];have h3:(((2^7*n:Nat):Int) %((2^64:Nat):Int)).toNat=2^7*n:=by omega
 have h4:((c:Int) %((2^64:Nat):Int)).toNat=c:=by omega
 rw[h3,h4,<-Bg2 (by simpa using hc),Dg (by omega) (by omega)]
theorem Auh(b:List UInt8)(hb:b.length=4):∀(j i q n:Nat),i+j=4->j<q->n<128^i->Pq b q (n:Int) (i:Int)=some (dJ (b.drop i) n)
 |0,i,q+1,n,hi,_,_=>by
  rw[Pq,AZ,Aaf (by rw[Ae,Ac];simp;omega),show b.drop i=[] by simp;omega];rfl
 |j+1,i,q+1,n,hi,hq,hn=>by
  have hlt:i<b.length:=by omega
  have hn2:n<268435456:=Arb hn (show 128^i<=128^4 from Ak6 (by omega) (by omega));rw[Pq,AZ,Aas (by rw[Ae,Ac];simp;omega),Bm hlt,Aa,drop_cons hlt,dJ,Bc1];by_cases hc:128<=b[i].toNat
  ·rw[Aas (by simp;omega),Aas hc]
  ·rw[Aaf (by simp;omega),Aaf hc,XC,or7 n _ hn2 (by omega),Ah (by omega) (by omega)];exact Auh b hb j (i+1) q _ (by omega) (by omega) (by rw[Ayu];omega)
theorem Bb4(b:List UInt8)(hb:b.length=4):∀(j i q n:Nat),i+j=4->j<q->n<128^i->Lu b q (n:Int) (i:Int)=some (dJ (b.drop i) n)
 |0,i,q+1,n,hi,_,_=>by
  rw[Lu,Xz,Aaf (by rw[Ae];simp;omega),show b.drop i=[] by simp;omega];rfl
 |j+1,i,q+1,n,hi,hq,hn=>by
  have hlt:i<b.length:=by omega
  have hn2:n<268435456:=Arb hn (show 128^i<=128^4 from Ak6 (by omega) (by omega));rw[Lu,Xz,Aas (by rw[Ae];simp;omega),Bm hlt,Aa,drop_cons hlt,dJ,Bcz];have h128:(128:UInt8).toNat=128:=rfl;by_cases hc:128<=b[i].toNat
  ·rw[Aas (by simpa using hc),Aas hc]
  ·have h3:=b[i].toNat_lt;rw[Aaf (by simpa using hc),Aaf hc,Aa,XC,Fc (by omega) (by omega),Ah (by omega) (by omega),Ah (by omega) (by omega)];have:=Bb4 b hb j (i+1) q (128*n+b[i].toNat) (by omega) (by omega) (by rw[Ayu];omega);rw[<-this];rfl
theorem Asn(b:List UInt8)(hb:b.length=4):QJ b=some (dJ b 0):=by
 have h:=Auh b hb 4 0 Au 0 (by omega) (by have:=Aq;omega) (by simp);rw[QJ,OE,Aaf (by rw[Al,Ac];simp;omega),OG];exact h
theorem Awp(b:List UInt8)(hb:b.length=4):FO b=some (dJ b 0):=by
 have h:=Bb4 b hb 4 0 Au 0 (by omega) (by have:=Aq;omega) (by simp);rw[FO,NA,Aaf (by rw[Al,Ac];simp;omega),MS];exact h
theorem Arh{b:List UInt8}(hb:b.length=4):0<= (dJ b 0).1/\ (dJ b 0).1<268435456:=by
 have:=Auj b 0 0 (by simp);rw[hb]at this;simpa using this
theorem jO(s p:List UInt8):Nu s p=some (decide (p.length<=s.length/\s.take p.length=p)):=by
 rw[Nu];by_cases h:p.length<=s.length
 ·rw[Aas (by rw[Ds,Ac,Ac];simp;omega),show Ac p=(p.length:Int)from rfl,Dd (by omega) (by omega),Aa,If,Aa,Ah2];congr 1;rw[Anb];simp[h]
 ·rw[Aaf (by rw[Ds,Ac,Ac];simp;omega)];simp[h]
def gI(b:List UInt8)(n:Int):Int×Int:=
 if 4000<n then(0,4)else if(b.length:Int)<n then(0,24)else
 if b.getD 5 0=16/\ (b.take n.toNat).drop (n-10).toNat≠ [51,68,73]++part b 3 7 then(0,12)else(n,0)
def Acg(b:List UInt8)(r:Int):Int×Int:=gI b (r+10+(if b.getD 5 0=16 then 10 else 0))
def Zd(b:List UInt8):Int×Int:=
 if ¬(3<=b.length/\b.take 3=[73,68,51])then(0,6)else if b.length<10 then(0,24)else
 if(dJ (part b 6 4) 0).2≠0\/b.getD 4 0≠0\/ ¬((b.getD 5 0=0/\2<= (b.getD 3 0).toNat/\ (b.getD 3 0).toNat<=4)\/ (b.getD 5 0=16/\b.getD 3 0=4))then(0,12)else
 Acg b (dJ (part b 6 4) 0).1
theorem vD{b:List UInt8}{i:Nat}(h:i<b.length):Ap b (i:Int)=some (b.getD i 0):=by
 rw[Bm h];simp[List.getD_eq_getElem?_getD,h]
theorem Rv{b:List UInt8}(a w:Nat)(h:a+w<=b.length):Bi b (a:Int) ((a+w:Nat):Int)=some (part b a w):=by
 rw[Uk (by omega) (by omega) (by omega)];rfl
theorem Bgc(b:List UInt8)(r:Int)(h10:10<=b.length)(h0:0<=r)(h1:r<268435456):AR b r=some (Acg b r):=by
 have g5:Ap b (5:Int)=some (b.getD 5 0):=vD (i:=5) (by omega);have key:∀n:Int,10<=n->n<268435500->Zv b n=some (gI b n):=by
  intro n hn hn2;rw[Zv,RA,gI];by_cases c1:4000<n
  ·rw[Aas (by rw[As];simpa using c1),Aas c1]
  ·rw[Aaf (by rw[As];simpa using c1),Aaf c1];by_cases c2:(b.length:Int)<n
   ·rw[Aas (by rw[Ae,Ac];simpa using c2),Aas c2]
   ·have e3:Bi b (3:Int) (10:Int)=some (part b 3 7):=Rv 3 7 (by omega);rw[Aaf (by rw[Ae,Ac];simpa using c2),Aaf c2,g5,Aa];by_cases c3:b.getD 5 0=16
    ·rw[Aas (by rw[jI];simpa using c3),Bs (by omega) (by omega),Uk (by omega) (by omega) (by omega),Aa,e3,Aa,Bd (by rw[Ew (by omega)];simp),Aa];by_cases c4:(b.take n.toNat).drop (n-10).toNat=[51,68,73]++part b 3 7
     ·rw[Aaf (by simpa using c4),Aaf (by intro h;exact h.2 c4)]
     ·rw[Aas (by simpa using c4),Aas ⟨c3,c4⟩]
    ·rw[Aaf (by rw[jI];simpa using c3),Aaf (λh=>c3 h.1)]
 rw[AR,RC,g5,Aa,Acg];by_cases c3:b.getD 5 0=16
 ·rw[Aas (by rw[jI];simpa using c3),Ah (by rw[Ah]<;>omega) (by rw[Ah]<;>omega),Ah (by omega) (by omega),key _ (by omega) (by omega),Aas c3,show 10+r+10=r+10+10 by omega]
 ·rw[Aaf (by rw[jI];simpa using c3),Ah (by omega) (by omega),key _ (by omega) (by omega),Aaf c3,show 10+r=r+10+0 by omega]
theorem Az6(b:List UInt8)(hb:b.length<4611686018427387904):IW b=some (Zd b):=by
 rw[IW,SN,Zd];by_cases h3:3<=b.length
 ·rw[Aaf (by rw[Ae,Ac];simp;omega),Dd (by omega) (by omega),Aa];by_cases hp:b.take 3=[73,68,51]
  ·rw[Aaf (by simpa using hp),Aaf (by simp[h3,hp]),TN,RM];by_cases h10:b.length<10
   ·rw[Aas (by rw[Ae,Ac];simp;omega),Aas h10]
   ·have e6:Bi b (6:Int) (10:Int)=some (part b 6 4):=Rv 6 4 (by omega);have g3:Ap b (3:Int)=some (b.getD 3 0):=vD (i:=3) (by omega);have g4:Ap b (4:Int)=some (b.getD 4 0):=vD (i:=4) (by omega);have g5:Ap b (5:Int)=some (b.getD 5 0):=vD (i:=5) (by omega);obtain⟨v1,v2⟩:=Arh (b:=part b 6 4) (Ew (by omega));rw[Aaf (by rw[Ae,Ac];simp;omega),Aaf h10,e6,Aa,Awp _ (Ew (by omega)),Aa];have ht:=Bgc b (dJ (part b 6 4) 0).1 (by omega) v1 v2;generalize dJ (part b 6 4) 0=v at*
    obtain⟨v,e⟩:=v;simp only at ht v1 v2⊢;simp only[Aa,g3,g4,g5,ht];generalize b.getD 3 0=x at*
    generalize b.getD 4 0=y at*
    generalize b.getD 5 0=z at*
    simp only[Arw,Bi4,Bc1,Al];by_cases he:e=0<;>by_cases hy:y=0<;>by_cases hz:z=0<;>by_cases hz2:z=16<;>by_cases hx:x=4<;>by_cases hx2:x.toNat<2<;>by_cases hx4:4<x.toNat<;>simp_all<;>(rw[Aaf (by omega),Aaf (by omega)])
  ·rw[Aas (by simpa using hp),Aas (by simp[hp])]
 ·rw[Aas (by rw[Ae,Ac];simp;omega),Aas (by simp[h3])]
theorem Aj0(b:List UInt8)(n:Int)(h10:10<=b.length)(hn:10<=n)(hn2:n<268435500):EN b (b.getD 5 0) n=some (gI b n):=by
 rw[EN,lX];by_cases c1:4000<n
 ·rw[Aas (by rw[As];simpa using c1),gI,Aas c1]
 ·rw[Aaf (by rw[As];simpa using c1)];by_cases c2:(b.length:Int)<n
  ·rw[Aas (by rw[Ae,Ac];simpa using c2),gI,Aaf c1,Aas c2]
  ·have e3:Bi b (3:Int) (10:Int)=some (part b 3 7):=Rv 3 7 (by omega);rw[Aaf (by rw[Ae,Ac];simpa using c2)];by_cases c3:b.getD 5 0=16
   ·have hl:((b.take n.toNat).drop (n-10).toNat).length=10:=by simp;omega
    have ht:gI b n=if(b.take n.toNat).drop (n-10).toNat≠ [51,68,73]++part b 3 7 then(0,12)else(n,0):=by rw[gI,Aaf c1,Aaf c2];simp only[c3,true_and]
    rw[Aas (by rw[jI];simpa using c3),Bs (by omega) (by omega),Uk (by omega) (by omega) (by omega),Aa,ht];generalize(b.take n.toNat).drop (n-10).toNat=f at*
    rw[Dd (by omega) (by omega),Aa,Bt (by omega) (by omega),Aa,e3,Aa,If,Aa];have hf:f=f.take 3++f.drop 3:=(Ayx 3 f).symm;by_cases c4:f=[51,68,73]++part b 3 7
    ·subst c4;simp
    ·by_cases c5:f.take 3=[51,68,73]
     ·have:f.drop 3≠part b 3 7:=λh=>c4 (by rw[hf,c5,h]);simp only[Blm,Arc]at c4;simp[c4,c5,this]
     ·simp only[Blm,Arc]at c4;simp[c4,c5]
   ·rw[Aaf (by rw[jI];simpa using c3),gI,Aaf c1,Aaf c2,Aaf (λh=>c3 h.1)]
theorem Bch(b:List UInt8)(r:Int)(h10:10<=b.length)(h0:0<=r)(h1:r<268435456):EZ b r (b.getD 5 0)=some (Acg b r):=by
 rw[EZ,UD,Acg];by_cases c3:b.getD 5 0=16
 ·rw[Aas (by rw[jI];simpa using c3),Ah (by rw[Ah]<;>omega) (by rw[Ah]<;>omega),Ah (by omega) (by omega),Aj0 b _ h10 (by omega) (by omega),Aas c3]
 ·rw[Aaf (by rw[jI];simpa using c3),Ah (by omega) (by omega),Aj0 b _ h10 (by omega) (by omega),Aaf c3];simp
theorem Ax5(b:List UInt8)(hb:b.length<4611686018427387904):WV b=some (Zd b):=by
 rw[WV,EE,jO,Aa];by_cases hp:3<=b.length/\b.take 3=[73,68,51]
 ·rw[Aaf (by simpa using hp)];by_cases h10:b.length<10
  ·rw[Aas (by rw[Ae,Ac];simp;omega),Zd,Aaf (λh=>h hp),Aas h10]
  ·have e6:Bi b (6:Int) (10:Int)=some (part b 6 4):=Rv 6 4 (by omega);have g3:Ap b (3:Int)=some (b.getD 3 0):=vD (i:=3) (by omega);have g4:Ap b (4:Int)=some (b.getD 4 0):=vD (i:=4) (by omega);have g5:Ap b (5:Int)=some (b.getD 5 0):=vD (i:=5) (by omega);obtain⟨v1,v2⟩:=Arh (b:=part b 6 4) (Ew (by omega));have ht:=Bch b (dJ (part b 6 4) 0).1 (by omega) v1 v2;rw[Aaf (by rw[Ae,Ac];simp;omega),g3,Aa,g5,Aa,UA,TV,e6,Aa,Asn _ (Ew (by omega)),Aa,Zd,Aaf (λh=>h hp),Aaf h10];generalize dJ (part b 6 4) 0=v at*
   obtain⟨v,e⟩:=v;simp only at ht v1 v2⊢;simp only[Aa,g4,UH,UP];generalize b.getD 3 0=x at*
   generalize b.getD 4 0=y at*
   generalize b.getD 5 0=z at*
   simp only[Arw,Bi3,jI,Bcz,Al];have e2:(2:UInt8).toNat=2:=rfl;have e4:(4:UInt8).toNat=4:=rfl;by_cases he:e=0<;>by_cases hy:y=0<;>by_cases hz:z=0<;>by_cases hz2:z=16<;>by_cases hx:x=4<;>by_cases hx2:2<=x.toNat<;>by_cases hx4:x.toNat<=4<;>simp_all
 ·rw[Aas (by rw[Ayy,Bdm];exact hp),Zd,Aas hp]
theorem Azn{b:List UInt8}{n:Int}(h:Zd b=(n,0)):10<=n/\n<=b.length/\n<=4000:=by
 unfold Zd at h;split at h; · simp at h
 split at h; · simp at h
 split at h; · simp at h
 rename_i h10 _;obtain⟨v1,v2⟩:=Arh (b:=part b 6 4) (Ew (by omega));unfold Acg at h;generalize hm:(dJ (part b 6 4) 0).1+10+(if b.getD 5 0=16 then 10 else 0)=m at h;unfold gI at h;split at h; · simp at h
 split at h; · simp at h
 split at h; · simp at h
 simp only[Aie,Boj]at h;subst h;refine⟨?_,by omega,by omega⟩;rw[<-hm];split<;>omega
def APE:List UInt8:=[65,80,69,84,65,71,69,88]
def Rg(n m fl:Nat):List UInt8:=APE++Sm 2000 4++Sm (n+32) 4++Sm m 4++Sm fl 4++List.replicate 8 0
theorem bJ{n:Nat}(h:n<18446744073709551616):(UInt64.ofNat n).toNat=n:=by rw[Amh,Ac1 h]
theorem sZ(n m:Int)(fl:UInt64)(c:UInt64)(i q:Nat)(acc:List UInt8)(hi:i<6)(hc:Ap ([(2000:UInt64),(Af (Ad n (32:Int)):UInt64),(Af m:UInt64),fl,(0:UInt64),(0:UInt64)]:List UInt64) (i:Int)=some c)(h:c.toNat<4294967296)(ha:acc.length<=1000000):
  FV n m fl (q+1) (i:Int) acc=FV n m fl q ((i+1:Nat):Int) (acc++Sm c.toNat 4):=by
 have hb:=ZY c 4 (by omega) (by omega) (by simpa using h);rw[FV,jQ,Aas (by rw[Ae,Ac];simp;omega),hc,Aa,Aa,show((4:Int))=((4:Nat):Int)from rfl,hb,Aa];simp only;rw[Bd (by rw[Cf];omega),Aa,Ah (by omega) (by omega)];rfl
theorem Agc(n m:Nat)(fl:UInt64)(hn:n<=3000)(hm:m<=1000)(hf:fl.toNat<4294967296):sK (n:Int) (m:Int) fl=some (Rg n m fl.toNat):=by
 have e1:(Af (Ad (n:Int) (32:Int)):UInt64).toNat=n+32:=by rw[Ah (by omega) (by omega),show(n:Int)+32=((n+32:Nat):Int) by omega,Xp,bJ (by omega)]
 have e2:(Af (m:Int):UInt64).toNat=m:=by rw[Xp,bJ (by omega)]
 have hF:Au=(Au-7)+1+1+1+1+1+1+1:=by have:=Aq;omega
 rw[sK,vV,uV,hF];rw[show((0:Int))=((0:Nat):Int)from rfl,sZ n m fl 2000 0 _ _ (by omega) rfl (by decide) (by simp),sZ n m fl _ 1 _ _ (by omega) rfl (by rw[e1];omega) (by simp[Cf]),sZ n m fl _ 2 _ _ (by omega) rfl (by rw[e2];omega) (by simp[Cf]),
  sZ n m fl fl 3 _ _ (by omega) rfl hf (by simp[Cf]),sZ n m fl 0 4 _ _ (by omega) rfl (by decide) (by simp[Cf]),sZ n m fl 0 5 _ _ (by omega) rfl (by decide) (by simp[Cf]),e1,e2]
 rw[FV,jQ,Aaf (by rw[Ae,Ac];simp),vK,Ahd,Rg];have z:Sm (0:UInt64).toNat 4++Sm (0:UInt64).toNat 4=List.replicate 8 0:=by decide
 have z2:Sm (2000:UInt64).toNat 4=Sm 2000 4:=rfl;rw[Aec _ (Sm (0:UInt64).toNat 4),z,z2];rfl
theorem zJ(n m:Nat)(fl:UInt64)(hn:n<=3000)(hm:m<=1000)(hf:fl.toNat<4294967296):Uj (n:Int) (m:Int) fl=some (Rg n m fl.toNat):=by
 have e1:(Af (Ad (n:Int) (32:Int)):UInt64).toNat=n+32:=by rw[Ah (by omega) (by omega),show(n:Int)+32=((n+32:Nat):Int) by omega,Xp,bJ (by omega)]
 have e2:(Af (m:Int):UInt64).toNat=m:=by rw[Xp,bJ (by omega)]
 have w:∀c:UInt64,Fl c 4=some (Sm c.toNat 4):=λc=>Agv c 4 (by omega);have z2:Sm (2000:UInt64).toNat 4=Sm 2000 4:=rfl;rw[Uj];simp only[w,e1,e2,Aa];rw[Bd (by simp[Cf]),Aa,Bd (by simp[Cf]),Aa,Bd (by simp[Cf]),Aa,Bd (by simp[Cf]),Aa,uA (by omega) (by omega),Aa,Bd (by simp[Cf]),Aa,z2];rfl
theorem XB{b:List UInt8}{a w k:Nat}(h:a+w<=k):part (b.take k) a w=part b a w:=by rw[part,part,Bng,Bfs h]
def HP(b:List UInt8):Bool:=decide (Gb (part b 12 4)<32\/3032<Gb (part b 12 4)\/1000<Gb (part b 16 4))
theorem Bb7(b:List UInt8)(h:20<=b.length):(((Cl (uO (part b 12 4)) (32:UInt64))||(Ef (uO (part b 12 4)) (3032:UInt64)))||(Ef (uO (part b 16 4)) (1000:UInt64)))=HP b:=by
 rw[Adl,cR,cR,cZ (by rw[Ew (by omega)];omega),cZ (by rw[Ew (by omega)];omega),HP];show((decide (Gb (part b 12 4)<32)||decide (3032<Gb (part b 12 4)))||decide (1000<Gb (part b 16 4)))=_;simp[Bool.or_assoc]
theorem Aa7(b:List UInt8)(h:20<=b.length)(hb:HP b=false):Ao (Af (uO (part b 12 4)):Int) (32:Int)=((Gb (part b 12 4)-32:Nat):Int)/\ (Af (uO (part b 16 4)):Int)=((Gb (part b 16 4):Nat):Int)/\Gb (part b 12 4)-32<=3000/\Gb (part b 16 4)<=1000:=by
 simp only[HP,Bdm]at hb;refine⟨?_,QI (by rw[Ew (by omega)];omega),by omega,by omega⟩;rw[QI (by rw[Ew (by omega)];omega),Bs (by omega) (by omega)];omega
theorem jK(b:List UInt8)(fl:UInt64)(h:20<=b.length)(hl:b.length<4611686018427387904)(hf:fl.toNat<4294967296):
  XG b fl=some (if HP b=true then(0,0,false)else(((Gb (part b 12 4)-32:Nat):Int),((Gb (part b 16 4):Nat):Int),b==Rg (Gb (part b 12 4)-32) (Gb (part b 16 4)) fl.toNat)):=by
 have a1:fX b 12 4=some (uO (part b 12 4),0):=Ajp b 12 4 (by omega) (by omega) (by omega) hl;have a2:fX b 16 4=some (uO (part b 16 4),0):=Ajp b 16 4 (by omega) (by omega) (by omega) hl;rw[XG,a1,Aa];simp only;rw[a2,Aa];simp only;rw[Bb7 b h];cases hb:HP b with
 |true=>rfl
 |false=>
  obtain⟨i1,i2,i3,i4⟩:=Aa7 b h hb;rw[i1,i2,Agc _ _ _ i3 i4 hf];rfl
theorem Aqx(b:List UInt8)(h:20<=b.length)(hl:b.length<4611686018427387904):
  Yx b=some (if HP b=true then(0,0,false)else(((Gb (part b 12 4)-32:Nat):Int),((Gb (part b 16 4):Nat):Int),true)):=by
 have a1:Bi b 12 16=some (part b 12 4):=Rv 12 4 (by omega);have a2:Bi b 16 20=some (part b 16 4):=Rv 16 4 (by omega);rw[Yx,a1,Aa,Ao8 _ (by rw[Ew (by omega)];omega),Aa,a2,Aa,Ao8 _ (by rw[Ew (by omega)];omega),Aa,Bb7 b h];cases hb:HP b with
 |true=>rfl
 |false=>
  obtain⟨i1,i2,i3,i4⟩:=Aa7 b h hb;rw[i1,i2];rfl
def Lh(b:List UInt8):Int×Int:=
 if ¬(8<=b.length/\b.take 8=APE)then(0,6)else if b.length<32 then(0,24)else
 if HP b=true\/b.take 32≠Rg (Gb (part b 12 4)-32) (Gb (part b 16 4)) 2684354560 then(0,12)else
 if b.length<Gb (part b 12 4)+32 then(0,24)else
 if(b.take (Gb (part b 12 4)+32)).drop (Gb (part b 12 4))≠Rg (Gb (part b 12 4)-32) (Gb (part b 16 4)) 2147483648 then(0,12)else(((Gb (part b 12 4)+32:Nat):Int),0)
theorem Aqh(b:List UInt8):HP (b.take 32)=HP b:=by rw[HP,HP,XB (by omega),XB (by omega)]
section
variable {b:List UInt8}
theorem fa1(h:¬(8<=b.length/\b.take 8=APE)):Lh b=(0,6):=by rw[Lh,Aas h]
theorem fa2(h:8<=b.length/\b.take 8=APE)(h2:b.length<32):Lh b=(0,24):=by rw[Lh,Aaf (λh'=>h' h),Aas h2]
variable (h:8<=b.length/\b.take 8=APE) (h2:¬b.length<32)
include h h2
theorem fa3(h3:HP b=true):Lh b=(0,12):=by rw[Lh,Aaf (λh'=>h' h),Aaf h2,Aas (.inl h3)]
theorem fa4(h4:b.take 32≠Rg (Gb (part b 12 4)-32) (Gb (part b 16 4)) 2684354560):Lh b=(0,12):=by rw[Lh,Aaf (λh'=>h' h),Aaf h2,Aas (.inr h4)]
variable (h3:HP b=false) (h4:b.take 32=Rg (Gb (part b 12 4)-32) (Gb (part b 16 4)) 2684354560)
include h3 h4
theorem fa5(h5:b.length<Gb (part b 12 4)+32):Lh b=(0,24):=by
 rw[Lh,Aaf (λh'=>h' h),Aaf h2,Aaf (λh'=>h'.elim (λe=>by rw[h3]at e;cases e) λe=>e h4),Aas h5]
theorem fa6(h5:¬b.length<Gb (part b 12 4)+32)(h6:(b.take (Gb (part b 12 4)+32)).drop (Gb (part b 12 4))≠Rg (Gb (part b 12 4)-32) (Gb (part b 16 4)) 2147483648):Lh b=(0,12):=by
 rw[Lh,Aaf (λh'=>h' h),Aaf h2,Aaf (λh'=>h'.elim (λe=>by rw[h3]at e;cases e) λe=>e h4),Aaf h5,Aas h6]
theorem fa7(h5:¬b.length<Gb (part b 12 4)+32)(h6:(b.take (Gb (part b 12 4)+32)).drop (Gb (part b 12 4))=Rg (Gb (part b 12 4)-32) (Gb (part b 16 4)) 2147483648):Lh b=(((Gb (part b 12 4)+32:Nat):Int),0):=by
 rw[Lh,Aaf (λh'=>h' h),Aaf h2,Aaf (λh'=>h'.elim (λe=>by rw[h3]at e;cases e) λe=>e h4),Aaf h5,Aaf (λh'=>h' h6)]
end
theorem Ash(b:List UInt8)(hl:b.length<4611686018427387904):rX b=some (Lh b):=by
 rw[rX,jO,Aa];by_cases hp:8<=b.length/\b.take 8=APE
 ·rw[Aaf (by simpa [APE]using hp)];by_cases h32:b.length<32
  ·rw[Aas (by rw[Ae,Ac];simp;omega),fa2 hp h32]
  ·have t:=jK (b.take 32) 2684354560 (by simp;omega) (by simp;omega) (by decide);rw[Aqh,XB (by omega),XB (by omega)]at t;rw[Aaf (by rw[Ae,Ac];simp;omega),Dd (by omega) (by omega),Aa,show(32:Int).toNat=32 from rfl,t,Aa];cases hb:HP b with
   |true=>rw[fa3 hp h32 hb];simp
   |false=>
    obtain⟨i1,i2,i3,i4⟩:=Aa7 b (by omega) hb;have i5:32<=Gb (part b 12 4):=by simp only[HP,Bdm]at hb;omega
    simp only[Av0,Bmc,false_or];by_cases c1:b.take 32=Rg (Gb (part b 12 4)-32) (Gb (part b 16 4)) 2684354560
    ·have c1':b.take 32=Rg (Gb (part b 12 4)-32) (Gb (part b 16 4)) (2684354560:UInt64).toNat:=c1;rw[Aaf (by simpa using c1'),Ah (by omega) (by omega)];have e1:((Gb (part b 12 4)-32:Nat):Int)+64=((Gb (part b 12 4)+32:Nat):Int):=by omega
     rw[e1];by_cases c2:b.length<Gb (part b 12 4)+32
     ·rw[Aas (by rw[Ae,Ac];simp;omega),fa5 hp h32 hb c1 c2]
     ·rw[Aaf (by rw[Ae,Ac];simp;omega),Bs (by omega) (by omega),Uk (by omega) (by omega) (by omega),Aa,Agc _ _ _ i3 i4 (by decide),Aa,If,Aa];rw[show(((Gb (part b 12 4)+32:Nat):Int)).toNat=Gb (part b 12 4)+32 by omega,show(((Gb (part b 12 4)+32:Nat):Int)-32).toNat=Gb (part b 12 4) by omega];by_cases c3:(b.take (Gb (part b 12 4)+32)).drop (Gb (part b 12 4))=Rg (Gb (part b 12 4)-32) (Gb (part b 16 4)) 2147483648
      ·have c3':(b.take (Gb (part b 12 4)+32)).drop (Gb (part b 12 4))=Rg (Gb (part b 12 4)-32) (Gb (part b 16 4)) (2147483648:UInt64).toNat:=c3;rw[Aaf (by simpa using c3'),fa7 hp h32 hb c1 c2 c3]
      ·have c3':¬(b.take (Gb (part b 12 4)+32)).drop (Gb (part b 12 4))=Rg (Gb (part b 12 4)-32) (Gb (part b 16 4)) (2147483648:UInt64).toNat:=c3;rw[Aas (by simpa using c3'),fa6 hp h32 hb c1 c2 c3]
    ·have c1':¬b.take 32=Rg (Gb (part b 12 4)-32) (Gb (part b 16 4)) (2684354560:UInt64).toNat:=c1;rw[Aas (by simpa using c1'),fa4 hp h32 c1]
 ·rw[Aas (by rw[Ayy,Bdm];exact hp),fa1 hp]
theorem Ayd(b:List UInt8)(hl:b.length<4611686018427387904):GA b=some (Lh b):=by
 rw[GA,MU];by_cases h8:8<=b.length
 ·rw[Aaf (by rw[Ae,Ac];simp;omega),Dd (by omega) (by omega),Aa,show(8:Int).toNat=8 from rfl];by_cases ha:b.take 8=APE
  ·have hp:=And.intro h8 ha;rw[Aaf (by simpa [APE]using ha),MT,NB];by_cases h32:b.length<32
   ·rw[Aas (by rw[Ae,Ac];simp;omega),fa2 hp h32]
   ·have t:=Aqx (b.take 32) (by simp;omega) (by simp;omega);rw[Aqh,XB (by omega),XB (by omega)]at t;rw[Aaf (by rw[Ae,Ac];simp;omega),Dd (by omega) (by omega),Aa,show(32:Int).toNat=32 from rfl,t,Aa];cases hb:HP b with
    |true=>rw[fa3 hp h32 hb];simp
    |false=>
     obtain⟨i1,i2,i3,i4⟩:=Aa7 b (by omega) hb;have i5:32<=Gb (part b 12 4):=by simp only[HP,Bdm]at hb;omega
     simp only[Av0,Bmc,false_or,Aa,Bnt];rw[Yl,zJ _ _ _ i3 i4 (by decide),Aa,Aa];by_cases c1:b.take 32=Rg (Gb (part b 12 4)-32) (Gb (part b 16 4)) 2684354560
     ·have c1':b.take 32=Rg (Gb (part b 12 4)-32) (Gb (part b 16 4)) (2684354560:UInt64).toNat:=c1;rw[Aaf (by simpa using c1'),NJ,MW,Ah (by omega) (by omega)];have e1:64+((Gb (part b 12 4)-32:Nat):Int)=((Gb (part b 12 4)+32:Nat):Int):=by omega
      rw[e1];by_cases c2:b.length<Gb (part b 12 4)+32
      ·rw[Aas (by rw[Ae,Ac];simp;omega),fa5 hp h32 hb c1 c2]
      ·rw[Aaf (by rw[Ae,Ac];simp;omega),Bs (by omega) (by omega),Uk (by omega) (by omega) (by omega),Aa,Nj,Aas rfl,zJ _ _ _ i3 i4 (by decide),Aa,Aa];rw[show(((Gb (part b 12 4)+32:Nat):Int)).toNat=Gb (part b 12 4)+32 by omega,show(((Gb (part b 12 4)+32:Nat):Int)-32).toNat=Gb (part b 12 4) by omega];by_cases c3:(b.take (Gb (part b 12 4)+32)).drop (Gb (part b 12 4))=Rg (Gb (part b 12 4)-32) (Gb (part b 16 4)) 2147483648
       ·have c3':(b.take (Gb (part b 12 4)+32)).drop (Gb (part b 12 4))=Rg (Gb (part b 12 4)-32) (Gb (part b 16 4)) (2147483648:UInt64).toNat:=c3;rw[Aaf (by simpa using c3'),fa7 hp h32 hb c1 c2 c3]
       ·have c3':¬(b.take (Gb (part b 12 4)+32)).drop (Gb (part b 12 4))=Rg (Gb (part b 12 4)-32) (Gb (part b 16 4)) (2147483648:UInt64).toNat:=c3;rw[Aas (by simpa using c3'),fa6 hp h32 hb c1 c2 c3]
     ·have c1':¬b.take 32=Rg (Gb (part b 12 4)-32) (Gb (part b 16 4)) (2684354560:UInt64).toNat:=c1;rw[Aas (by simpa using c1'),fa4 hp h32 c1]
  ·rw[Aas (by simpa [APE]using ha),fa1 (λh=>ha h.2)]
 ·rw[Aas (by rw[Ae,Ac];simp;omega),fa1 (λh=>h8 h.1)]
theorem Av9{b:List UInt8}{n:Int}(h:Lh b=(n,0)):64<=n/\n<=b.length:=by
 unfold Lh at h;split at h; · simp at h
 split at h; · simp at h
 split at h; · simp at h
 rename_i hb;split at h; · simp at h
 split at h; · simp at h
 simp only[Aie,Boj]at h;have hb':¬HP b=true:=λe=>hb (.inl e);simp only[HP,Acw]at hb';omega
def Db(b:List UInt8):Int×Int:=if(Zd b).2≠6 then Zd b else Lh b
theorem size_eq(b:List UInt8)(hl:b.length<4611686018427387904):Zq b=some (Db b):=by
 rw[Zq,Ax5 b hl,Aa,Ash b hl];by_cases h:(Zd b).2=6
 ·simp[Db,h,Al]
 ·simp[Db,h,Al]
theorem pJ{b:List UInt8}{n:Int}(h:Db b=(n,0)):10<=n/\n<=b.length:=by
 unfold Db at h;split at h
 ·have:=Azn h;omega
 ·have:=Av9 h;omega
def Cm(b:List UInt8):Nat->Nat->List Int×Int
 |0,_=>([],6)
 |j+1,p=>if(Db (b.drop p)).2=6 then([],0)else if(Db (b.drop p)).2≠0 then([],(Db (b.drop p)).2)else
  if 4000<(p:Int)+(Db (b.drop p)).1 then([],4)else
  if(Cm b j (p+(Db (b.drop p)).1.toNat)).2=0 then((Db (b.drop p)).1::(Cm b j (p+(Db (b.drop p)).1.toNat)).1,0)else([],(Cm b j (p+(Db (b.drop p)).1.toNat)).2)
theorem rY(b:List UInt8):∀(j p:Nat),p<=b.length->p<=4000-> (Cm b j p).2=0-> (∀x∈(Cm b j p).1,10<=x)/\ (p:Int)+(Cm b j p).1.sum<=b.length/\ (p:Int)+(Cm b j p).1.sum<=4000
 |0,p,_,_,h=>by simp[Cm]at h
 |j+1,p,hp,hq,h=>by
  rw[Cm]at h⊢;split at h
  ·rename_i h6;rw[Aas h6];simp;omega
  ·rename_i h6;split at h
   ·rename_i h0;exact absurd h h0
   ·rename_i h0;rw[Aaf h6,Aaf h0];have hz:Db (b.drop p)=((Db (b.drop p)).1,0):=by rw[Prod.ext_iff];exact⟨rfl,Classical.not_not.1 h0⟩
    have hs:=pJ hz;rw[Aky]at hs;split at h
    ·simp at h
    ·rename_i h4;rw[Aaf h4];split at h
     ·rename_i h00;rw[Aas h00];obtain⟨i1,i2,i3⟩:=rY b j _ (by omega) (by omega) h00;refine⟨λx hx=>?_,?_,?_⟩
      ·rcases List.mem_cons.1 hx with rfl|hx
       ·exact hs.1
       ·exact i1 x hx
      ·simp only[Bdn];omega
      ·simp only[Bdn];omega
     ·rename_i h00;exact absurd h h00
def Afp(b:List UInt8)(j p:Nat):Int×Int:=if(Cm b j p).2=0 then((p:Int)+(Cm b j p).1.sum,0)else(0,(Cm b j p).2)
theorem Afs(b:List UInt8)(hl:b.length<4611686018427387904):∀(j p q:Nat),p<=b.length->p<=4000->b.length-p<j->j<=q->Xg b q (p:Int)=some (Afp b j p)
 |0,p,q,_,_,h,_=>by omega
 |j+1,p,q,hp,hp4,hj,hq=>by
  obtain⟨q,rfl⟩:∃k,q=k+1:=⟨q-1,by omega⟩;rw[Xg,Bt (by omega) (by omega),Aa,Ah2,size_eq _ (by simp;omega),Aa,Ar,Ar,Al,Afp];by_cases h6:(Db (b.drop p)).2=6
  ·rw[Aas (by simpa using h6)];have:Cm b (j+1) p=([],0):=by rw[Cm,Aas h6]
   rw[this];simp
  ·rw[Aaf (by simpa using h6)];by_cases h0:(Db (b.drop p)).2=0
   ·have hz:Db (b.drop p)=((Db (b.drop p)).1,0):=by rw[Prod.ext_iff];exact⟨rfl,h0⟩
    have hs:=pJ hz;rw[Aky]at hs;rw[Ah (by omega) (by omega),As];by_cases h4:4000<(p:Int)+(Db (b.drop p)).1
    ·rw[Aas (by simp[h0];omega)];have:Cm b (j+1) p=([],4):=by rw[Cm,Aaf h6,Aaf (λh=>h h0),Aas h4]
     rw[this];simp
    ·rw[Aaf (by simp[h0];omega),Aaf (by simpa using h0)];have ih:=Afs b hl j (p+(Db (b.drop p)).1.toNat) q (by omega) (by omega) (by omega) (by omega);rw[show(p:Int)+(Db (b.drop p)).1=((p+(Db (b.drop p)).1.toNat:Nat):Int) by omega,ih,Afp];have:Cm b (j+1) p=if(Cm b j (p+(Db (b.drop p)).1.toNat)).2=0 then((Db (b.drop p)).1::(Cm b j (p+(Db (b.drop p)).1.toNat)).1,0)else([],(Cm b j (p+(Db (b.drop p)).1.toNat)).2):=by
      rw[Cm,Aaf h6,Aaf (λh=>h h0),Aaf h4]
     rw[this];by_cases hr:(Cm b j (p+(Db (b.drop p)).1.toNat)).2=0
     ·simp only[hr,Bon,Bdn];congr 2;omega
     ·simp only[hr,Bmc]
   ·rw[Aaf (by simp[h0]),Aas (by simpa using h0)];have:Cm b (j+1) p=([],(Db (b.drop p)).2):=by rw[Cm,Aaf h6,Aas h0]
    rw[this];simp[h0]
def Ay8(b:List UInt8)(j p:Nat)(xs:List Int):List Int×Int:=if(Cm b j p).2=0 then(xs++(Cm b j p).1,0)else([],(Cm b j p).2)
theorem Bbd(bk:Int->List Int->Option (List Int×Int))(b:List UInt8)(p:Nat)(hp:p<=b.length)(xs:List Int)(hx:xs.length<=4000)(hl:b.length<4611686018427387904):Yj (Qv bk b) b (p:Int) xs=Qv bk b (p:Int) xs (Db (b.drop p)).1 (Db (b.drop p)).2:=by
 have hf:=Ayd (b.drop p) (by simp;omega);rw[Yj,Bt (by omega) (by omega),Aa,Ah2,Az6 _ (by simp;omega),Aa];by_cases h:(Zd (b.drop p)).2=6
 ·simp[Db,h,Ar,hf]
 ·simp[Db,h,Ar]
theorem Akg(b:List UInt8)(hl:b.length<4611686018427387904):∀(j p q:Nat) (xs:List Int),p<=b.length->p<=4000->b.length-p<j->j<=q->xs.length<=p->Qw b q (p:Int) xs=some (Ay8 b j p xs)
 |0,p,q,_,_,_,h,_,_=>by omega
 |j+1,p,q,xs,hp,hp4,hj,hq,hx=>by
  obtain⟨q,rfl⟩:∃k,q=k+1:=⟨q-1,by omega⟩;rw[Qw,Bbd _ b p hp xs (by omega) hl,Qv,MY,Ar,Al,Ay8];by_cases h6:(Db (b.drop p)).2=6
  ·rw[Aas (by simpa using h6)];have:Cm b (j+1) p=([],0):=by rw[Cm,Aas h6]
   rw[this];simp
  ·rw[Aaf (by simpa using h6)];by_cases h0:(Db (b.drop p)).2=0
   ·have hz:Db (b.drop p)=((Db (b.drop p)).1,0):=by rw[Prod.ext_iff];exact⟨rfl,h0⟩
    have hs:=pJ hz;rw[Aky]at hs;rw[Aaf (by simpa using h0),Ah (by omega) (by omega),As];by_cases h4:4000<(p:Int)+(Db (b.drop p)).1
    ·rw[Aas (by simp;omega)];have:Cm b (j+1) p=([],4):=by rw[Cm,Aaf h6,Aaf (λh=>h h0),Aas h4]
     rw[this];simp
    ·rw[Aaf (by simp;omega),Bd (by simp;omega),Aa];have ih:=Akg b hl j (p+(Db (b.drop p)).1.toNat) q (xs++[(Db (b.drop p)).1]) (by omega) (by omega) (by omega) (by omega) (by simp;omega);rw[show(p:Int)+(Db (b.drop p)).1=((p+(Db (b.drop p)).1.toNat:Nat):Int) by omega,ih,Ay8];have:Cm b (j+1) p=if(Cm b j (p+(Db (b.drop p)).1.toNat)).2=0 then((Db (b.drop p)).1::(Cm b j (p+(Db (b.drop p)).1.toNat)).1,0)else([],(Cm b j (p+(Db (b.drop p)).1.toNat)).2):=by
      rw[Cm,Aaf h6,Aaf (λh=>h h0),Aaf h4]
     rw[this];by_cases hr:(Cm b j (p+(Db (b.drop p)).1.toNat)).2=0
     ·simp only[hr,Bon];simp
     ·simp only[hr,Bmc]
   ·rw[Aas (by simpa using h0)];have:Cm b (j+1) p=([],(Db (b.drop p)).2):=by rw[Cm,Aaf h6,Aas h0]
    rw[this];simp[h0]
theorem Ac4:∀{l:List Int},(∀x∈l,10<=x)->0<=l.sum/\ (l.length:Int)<=l.sum
 |[],_=>by simp
 |x::l,h=>by
  have h1:=h x Ay0;have h2:=Ac4 (l:=l) λy hy=>h y (Aq1 _ hy);simp only[Bdn,Anf];omega
theorem Ag8(r:Int)(l:List Int)(hl:l.length<=4000)(hx:∀x∈l,10<=x):∀(j i q:Nat) (n:Int),i+j=l.length->j<q->0<=n->n+(l.drop i).sum<=4000->Ls r l q n (i:Int)=some (n+(l.drop i).sum,r)
 |0,i,q+1,n,hi,_,_,_=>by
  rw[Ls,Xx,Aaf (by rw[Ae,Ac];simp;omega),show i=l.length by omega,Blu];simp[NC,NM]
 |j+1,i,q+1,n,hi,hq,hn,hs=>by
  have hlt:i<l.length:=by omega
  rw[drop_cons hlt,Bdn]at hs⊢;have h1:=hx l[i] (Ane hlt);have h2:=Ac4 (l:=l.drop (i+1)) λy hy=>hx y (Bl6 hy);rw[Ls,Xx,Aas (by rw[Ae,Ac];simp;omega),Bm hlt,Aa,Aa,Ah (by omega) (by omega),Ah (by omega) (by omega)];have ih:=Ag8 r l hl hx j (i+1) q (n+l[i]) (by omega) (by omega) (by omega) (by omega);rw[show((i:Int)+1)=((i+1:Nat):Int) by omega,ih];congr 2;omega
def Bo(b:List UInt8):Int×Int:=Afp b (b.length+1) 0
theorem Pu(b:List UInt8)(hl:b.length<4611686018427387904):Ih b=some (Bo b):=by
 have:=Afs b hl (b.length+1) 0 Au (by omega) (by omega) (by omega) (by have:=Aq;omega);exact this
theorem BI(b:List UInt8)(hl:b.length<4611686018427387904):Mk b=some (Bo b):=by
 have h:=Akg b hl (b.length+1) 0 Au [] (by omega) (by omega) (by omega) (by have:=Aq;omega) (by simp);have h':aU b=some (Ay8 b (b.length+1) 0 []):=h;rw[Mk,MP,h',Aa,Bo,Afp,Ay8];have ho:=rY b (b.length+1) 0 (by omega) (by omega);by_cases h0:(Cm b (b.length+1) 0).2=0
 ·obtain⟨i1,i2,i3⟩:=ho h0;have hp:=Ac4 i1;simp only[h0,Bon,Arc];have:=Ag8 0 (Cm b (b.length+1) 0).1 (by omega) i1 (Cm b (b.length+1) 0).1.length 0 Au 0 (by omega) (by have:=Aq;omega) (by omega) (by simpa using i3);simpa [Xu]using this
 ·simp only[h0,Bmc];have:=Ag8 (Cm b (b.length+1) 0).2 [] (by simp) (by simp) 0 0 Au 0 (by simp) (by have:=Aq;omega) (by omega) (by simp);simpa [Xu]using this
theorem BR{b:List UInt8}(h:(Bo b).2=0):0<= (Bo b).1/\ (Bo b).1<=b.length/\ (Bo b).1<=4000:=by
 unfold Bo Afp at h⊢;split at h
 ·rename_i h0;rw[Aas h0];obtain⟨i1,i2,i3⟩:=rY b (b.length+1) 0 (by omega) (by omega) h0;have hp:=Ac4 i1;exact⟨by simp;omega,i2,i3⟩
 ·rename_i h0;exact absurd h h0
def Ak(r:Nat):Nat:=max 1 (256*r/245)
theorem Du(r:Nat):1<=Ak r:=Nat.le_max_left _ _
theorem aW{r:Nat}(h:r<=1048576):Ak r<=1100000:=by unfold Ak;omega
theorem Afo{r:Nat}(h:r<=1048576):tH (1:Int) (Ca (Bg (256:Int) (r:Int)) (245:Int))=(Ak r:Int):=by
 rw[Fc (by omega) (by omega),UU,Bik (by omega),Dg (by omega) (by omega),Am4,Ak];omega
def Aj(g n:Nat):List Int:=List.replicate ((n-1)/g) (g:Int)++[((n-(n-1)/g*g:Nat):Int)]
theorem bY(g n:Nat):(Aj g n).length=(n-1)/g+1:=by simp[Aj]
theorem Aic{g n:Nat}(h:n<=g)(h1:1<=n):Aj g n=[(n:Int)]:=by
 rw[Aj,Bkq (by omega)];simp
theorem Apd{g n:Nat}(hg:1<=g)(h:g<n):Aj g n=(g:Int)::Aj g (n-g):=by
 have e:(n-1)/g=(n-g-1)/g+1:=by rw[<-Nat.add_div_right _ (by omega)];congr 1;omega
 rw[Aj,Aj,e,Bho,Blm];congr 4;have:=Bid (n-g-1) g;rw[Ana,Bdl];omega
theorem yJ{g n:Nat}(hg:1<=g)(h1:1<=n):(n+g-1)/g=(n-1)/g+1:=by
 rw[<-Nat.add_div_right _ (by omega)];congr 1;omega
theorem sH{r:Nat}(h1:1<=r)(h:r<=1048576):Wr (r:Int)=some ((Ak r:Int),0):=by
 rw[Wr,Aaf (by simp[Ae,As];omega),Afo h]
theorem Baa{r:Nat}(h:r<=1048576):Ze (r:Int)=some (Ak r:Int):=by rw[Ze,Afo h]
theorem Agw{r n:Nat}(h1:1<=r)(h:r<=1048576)(n1:1<=n)(n2:n<=4000):DW (r:Int) (n:Int)=some (if 1000<(n-1)/Ak r+1 then(0,4)else((((n-1)/Ak r+1:Nat):Int),0)):=by
 have hp:=Du r;have hl:=aW h;have e:Ca (Ao (Ad (n:Int) (Ak r:Int)) (1:Int)) (Ak r:Int)=(((n-1)/Ak r+1:Nat):Int):=by
  have:(n+Ak r-1)/Ak r<=n+Ak r-1:=Atx _ _;rw[Ah (by omega) (by omega),Bs (by omega) (by omega),UU,Bik (by omega),show(n:Int)+(Ak r:Int)-1=((n+Ak r-1:Nat):Int) by omega,<-Int.natCast_ediv,yJ hp n1];rw[yJ hp n1]at this;generalize(n-1)/Ak r=k at*
  exact Dg (by omega) (by omega)
 rw[DW,sH h1 h,Aa];simp only;rw[Aaf (by rw[Al];simp),Aaf (by simp[Ae,As];omega),Bu (by rw[Al];simp;omega),Aa,e];by_cases hk:1000<(n-1)/Ak r+1
 ·rw[Aas (by rw[As];simp;omega),Aas hk]
 ·rw[Aaf (by rw[As];simp;omega),Aaf hk]
theorem Ae6{r:Nat}(h:r<=1048576):∀(j n q:Nat) (acc:List Int),n<=4000->n<=j->j<q->acc.length+n<=10000->Gl (r:Int) q (n:Int) acc=some (acc++(if n=0 then []else Aj (Ak r) n))
 |0,n,q+1,acc,hn,hj,hq,ha=>by
  obtain rfl:n=0:=by omega
  rw[Gl,Lp,Aaf (by rw[As];simp)];simp[Qp,Qs]
 |j+1,n,q+1,acc,hn,hj,hq,ha=>by
  have hp:=Du r;have hl:=aW h;by_cases h0:n=0
  ·subst h0;rw[Gl,Lp,Aaf (by rw[As];simp)];simp[Qp,Qs]
  ·rw[Gl,Lp,Aas (by rw[As];simp;omega),Baa h,Aa,Bd (by simp;omega),Aa,Aa,Bs (by omega) (by omega),PL];by_cases hs:n<=Ak r
   ·rw[show min (n:Int) (Ak r:Int)=(n:Int) by omega,Aaf h0,Aic hs (by omega)];have hz:∃k,q=k+1:=⟨q-1,by omega⟩;obtain⟨q,rfl⟩:=hz;rw[Gl,Lp,Aaf (by rw[As];simp;omega)];simp[Qp,Qs]
   ·rw[show min (n:Int) (Ak r:Int)=(Ak r:Int) by omega,show(n:Int)-(Ak r:Int)=((n-Ak r:Nat):Int) by omega,Ae6 h j (n-Ak r) q _ (by omega) (by omega) (by omega) (by simp;omega),Aaf (by omega),Aaf h0,Apd hp (show Ak r<n by omega)];simp
theorem XZ{r n:Nat}(h:r<=1048576)(n1:1<=n)(n2:n<=4000):Fq (r:Int) (n:Int)=some (Aj (Ak r) n):=by
 have:=Ae6 h n n Au [] n2 (Aob _) (by have:=Aq;omega) (by simp;omega);rw[Fq,NK,NG,this,Aaf (by omega)];rfl
theorem mul_one(m:Nat)(h:m<=100000):QF (1:UInt64) (UInt64.ofNat m)=some (0,UInt64.ofNat m):=by
 have y1:(UInt64.ofNat m).toNat=m:=bJ (by omega);have s1:Ck (1:UInt64) (GI.toZ (32:UInt64)).toNat=0:=by decide
 have s2:Ck (UInt64.ofNat m) (GI.toZ (32:UInt64)).toNat=0:=by
  apply UInt64.toNat_inj.1;rw[DN,y1];exact Bkq (Bk0 h (by decide))
 have s0:Ck (0:UInt64) (GI.toZ (32:UInt64)).toNat=0:=by decide
 have a1:Er (1:UInt64) (4294967295:UInt64)=1:=by decide
 have a0:Er (0:UInt64) (4294967295:UInt64)=0:=by decide
 have a2:Er (UInt64.ofNat m) (4294967295:UInt64)=UInt64.ofNat m:=by
  apply UInt64.toNat_inj.1;rw[xU,Bok,y1]
  show m&&& (2^32-1)=m;rw[Bl7,Ac1 (by omega)]
 have m1:∀x:UInt64,Bg 1 x=x:=λx=>by rw[RJ,UInt64.one_mul]
 have m0:∀x:UInt64,Bg 0 x=0:=λx=>by rw[RJ,UInt64.zero_mul]
 have p0:∀x:UInt64,Ad 0 x=x:=λx=>by rw[SQ,UInt64.zero_add]
 have p1:∀x:UInt64,Ad x 0=x:=λx=>by rw[SQ,UInt64.add_zero]
 rw[QF,TT];simp only[s1,s2,a1,a2,m1,m0,p0,p1,s0,a0,Aa]
theorem Ab5(v:Int)(m:Nat)(hm:m<=100000):∀(j n q:Nat),1<=n->n<=m->m-n<=j->j<q->Gf q (n:Int) (List.replicate n v++List.replicate (m-n) 0)=some (List.replicate m v)
 |j,n,q+1,hn,hnm,hj,hq=>by
  have hlen:Ac (List.replicate n v++List.replicate (m-n) 0)=(m:Int):=by simp[Ac];omega
  rw[Gf,Io,hlen];by_cases h:n<m
  ·obtain⟨j,rfl⟩:∃k,j=k+1:=⟨j-1,by omega⟩;rw[Aas (by rw[Ae];simp;omega)];have v1:fG (m:Int) (n:Int) (m:Int)=some ():=by rw[fG,Bu];simp;omega
   have v2:fG (m:Int) (0:Int) (n:Int)=some ():=by rw[fG,Bu];simp;omega
   have e1:bE (List.replicate n v++List.replicate (m-n) 0) (0:Int) ((n:Int)-0)=List.replicate n v:=by
    simp[bE]
   rw[v1,Aa,v2,Aa,e1];have e2:XT ((m:Int)-(n:Int)) (List.replicate n v).length=((min n (m-n):Nat):Int):=by
    rw[XT,Ard];split<;>omega
   have e3:Xy (List.replicate n v++List.replicate (m-n) 0) (n:Int) ((m:Int)-(n:Int)) (List.replicate n v)=List.replicate (n+min n (m-n)) v++List.replicate (m-(n+min n (m-n))) 0:=by
    have t1:((m:Int)-(n:Int)).toNat=m-n:=by omega
    have t2:(List.replicate n v++List.replicate (m-n) (0:Int)).take n=List.replicate n v:=by simp
    rw[Xy,t1,Ah2,t2,List.take_replicate,Ard,<-Aec,List.replicate_append_replicate,List.drop_append,Ard,Nat.min_comm (m-n) n];simp only[List.drop_replicate];rw[show n-(n+min n (m-n))=0 by omega,List.replicate_zero,Arc,show m-n-(n+min n (m-n)-n)=m-(n+min n (m-n)) by omega]
   rw[e2,e3,Ah (by omega) (by omega),show(n:Int)+((min n (m-n):Nat):Int)=((n+min n (m-n):Nat):Int) by omega];exact Ab5 v m hm j (n+min n (m-n)) q (by omega) (by omega) (by omega) (by omega)
  ·rw[Aaf (by rw[Ae];simp;omega)];obtain rfl:n=m:=by omega
   simp[Lk,Rl]
theorem Awu(v:Int)(m:Nat)(hm:m<=100000):Qq [v] (m:Int)=some (List.replicate m v):=by
 have y1:(UInt64.ofNat m).toNat=m:=bJ (by omega);have c1:(Af (Ac [v]):UInt64)=1:=by rfl
 have c2:(Af (m:Int):UInt64)=UInt64.ofNat m:=Xp m;have c3:(Af (UInt64.ofNat m):Int)=(m:Int):=by rw[Aax (by omega),y1]
 rw[Qq,Tc,Aaf (by rw[Ae];simp),Tq,Sp,c1,c2,mul_one m hm,Aa];simp only;rw[Aaf (by rw[cR,cR,y1];simp;show m<=9223372036854775807;omega),Tm,Tp,c3,uA (by omega) (by omega),Aa,Bu (by rw[Ar];simp),Aa,Sr,Ah2];by_cases h0:m=0
 ·subst h0;have hF:Au=(Au-1)+1:=by have:=Aq;omega
  rw[hF,Gf,Io];simp[Ac,VR,XT,Ae,Lk,Rl]
 ·have:=Ab5 v m hm m 1 Au (by omega) (by omega) (by omega) (by have:=Aq;omega);have e1:XT (Ac (List.replicate m (0:Int))) [v].length=((1:Nat):Int):=by simp[XT,Ac];omega
  have e2:VR (List.replicate m (0:Int)) [v]=List.replicate 1 v++List.replicate (m-1) 0:=by
   obtain⟨k,rfl⟩:∃k,m=k+1:=⟨m-1,by omega⟩;simp[VR]
  rw[e1,e2,this]
theorem Awn(l m:List Int)(h:l.length+m.length<=1000000):Qr [l,m]=some (l++m):=by
 have hF:Au=(Au-3)+1+1+1:=by have:=Aq;omega
 rw[Qr,Ti,Tk];have g0:Ap [l,m] (0:Int)=some l:=rfl;have g1:Ap [l,m] (1:Int)=some m:=rfl;have l2:Ac [l,m]=2:=rfl;have h3:Ll [l,m] []=some (l++m):=by
  rw[Ll,Rm,Rh,hF,Fp,Hx,l2,Aas (by decide),g0,Aa,Bd (by simp;omega),Aa,Arc,show Ad (0:Int) 1=1 by decide,
   Fp,Hx,l2,Aas (by decide),g1,Aa,Bd (by omega),Aa,show Ad (1:Int) 1=2 by decide,Fp,Hx,l2,Aaf (by decide)]
  rfl
 rw[hF,Gd,Ir,l2,Aas (by decide),g0,Aa,Ah (by unfold Ac;omega) (by unfold Ac;omega),Aaf (by rw[Ae,Ac];simp),show Ad (0:Int) 1=1 by decide,
  Gd,Ir,l2,Aas (by decide),g1,Aa,Ah (by unfold Ac;omega) (by unfold Ac;omega),Aaf (by rw[Ae,Ac,Ac];simp;omega),show Ad (1:Int) 1=2 by decide,
  Gd,Ir,l2,Aaf (by decide),Ri,Rf,Aaf (by rw[Ae,Ac,Ac];simp;omega),Rn,Rc]
 have z:Ao (0:Int) 0=0:=by decide
 have n0:(0:Int)+Ac l+Ac m=((l.length+m.length:Nat):Int):=by simp[Ac]
 rw[z,n0,Bs (by omega) (by omega),Int.sub_zero];by_cases hp:0<l.length+m.length
 ·rw[Aas (by rw[As];simp;omega),show fG (0:Int) 0 0=some ()from rfl,Aa,uA (by omega) (by omega),Aa,Bd (by simp;omega),Aa];rw[show fG (Ac ([]++List.replicate ((l.length+m.length:Nat):Int).toNat (0:Int))) 0 0=some () by rw[fG,Bu];simp[Ac];omega,Aa];simp only[bE,Int.sub_self,Int.toNat_zero,Bd5];exact h3
 ·rw[Aaf (by rw[As];simp;omega)];exact h3
theorem Ay7{r n:Nat}(h1:1<=r)(h:r<=1048576)(n1:1<=n)(n2:n<=4000)(hk:(n-1)/Ak r+1<=1000):cB (r:Int) (n:Int)=some (Aj (Ak r) n,0):=by
 have hp:=Du r;have hl:=aW h;have hd:=Bid (n-1) (Ak r);rw[cB,Agw h1 h n1 n2,Aaf (by omega),Aa];simp only;rw[Aaf (by rw[Al];simp),sH h1 h,Aa];simp only;rw[Aj];generalize(n-1)/Ak r=k at*
 have e1:Ao ((k+1:Nat):Int) 1=(k:Int):=by rw[Bs (by omega) (by omega)];omega
 have e2:(k:Int)*(Ak r:Int)=((k*Ak r:Nat):Int):=by simp
 rw[e1,Awu _ _ (by omega),Aa,Fc (by rw[e2];omega) (by rw[e2];omega),e2,Bs (by omega) (by omega),aO,Awn _ _ (by simp;omega),Aa,Aa,show(n:Int)-((k*Ak r:Nat):Int)=((n-k*Ak r:Nat):Int) by omega]
def Ft(f c w r n:Nat):Bool:=decide ((f=1\/f=2)/\ (1<=c/\c<=6)/\ (w=8\/w=16\/w=24)/\ (1<=r/\r<=1048576)/\1<=n)
def Xw(c r n:Nat):Bool:=decide (n<=4000/c/\ (n-1)/Ak r+1<=1000)
theorem cM(f c w r n:Nat):Tj (f:Int) (c:Int) (w:Int) (r:Int) (n:Int)=some (Ft f c w r n):=by
 have e2:Pf (f:Int) (c:Int) (w:Int) (r:Int) (n:Int)=some (decide ((f=1\/f=2)/\ (1<=c/\c<=6)/\ (1<=r/\r<=1048576)/\1<=n)):=by
  rw[Pf,NX];congr 1;rw[Anb];simp only[Ar,As,SL,Ac9,Bdh,Aue,Acw];omega
 have g:∀k:Nat,geq (w:Int) (k:Int)=decide (w=k):=λk=>by rw[Ar,Anb];simp;omega
 have g8:geq (w:Int) (8:Int)=decide (w=8):=g 8;have g16:geq (w:Int) (16:Int)=decide (w=16):=g 16;have g24:geq (w:Int) (24:Int)=decide (w=24):=g 24;rw[Tj,BD,e2,g8,g16,g24,Ft];by_cases h8:w=8
 ·subst h8;simp
 ·by_cases h16:w=16
  ·subst h16;simp
  ·by_cases h24:w=24
   ·subst h24;simp
   ·simp[h8,h16,h24]
theorem uY(f c w r n:Nat):La (f:Int) (c:Int) (w:Int) (r:Int) (n:Int)=some (Ft f c w r n):=by
 rw[La,Ft];simp only[Ar,Ds,SL,Ac9,Bdh,Aue,Acw,Bnv];split
 ·rename_i h;congr 1;rw[Anb];simp only[Ac9,Bdh,Aue,Acw];omega
 ·rename_i h;congr 1;symm;rw[Bdm];omega
theorem Bhc{c:Nat}(h:1<=c):Ca (4000:Int) (c:Int)=((4000/c:Nat):Int):=by
 have:4000/c<=4000:=Atx _ _;rw[UU,Bik (by omega),show(4000:Int)=((4000:Nat):Int)from rfl,<-Int.natCast_ediv];generalize 4000/c=k at*
 exact Dg (by omega) (by omega)
theorem sF{f c w r n:Nat}(h:Ft f c w r n=true):QY (f:Int) (c:Int) (w:Int) (r:Int) (n:Int)=some (Xw c r n):=by
 simp only[Ft,Acw]at h;have hd:4000/c<=4000:=Atx _ _;rw[QY,Bu (by rw[Al];simp;omega),Aa,Bhc (by omega),Xw];generalize 4000/c=m at*
 by_cases h1:n<=m
 ·rw[Aaf (by rw[As];simp;omega),Agw (by omega) (by omega) (by omega) (by omega),Aa];generalize(n-1)/Ak r+1=k;by_cases h2:1000<k
  ·rw[Aas h2];simp[Ar,SL];omega
  ·rw[Aaf h2];simp[Ar,SL,h1];omega
 ·rw[Aas (by rw[As];simp;omega)];simp[h1]
theorem Ad5{f c w r n:Nat}(h:Ft f c w r n=true):Yv (f:Int) (c:Int) (w:Int) (r:Int) (n:Int)=some (!Xw c r n):=by
 simp only[Ft,Acw]at h;have hd:4000/c<=4000:=Atx _ _;rw[Yv,Bu (by rw[Al];simp;omega),Aa,Bhc (by omega),Xw];generalize 4000/c=m at*
 by_cases h1:n<=m
 ·rw[Aaf (by rw[As];simp;omega),XZ (by omega) (by omega) (by omega),Aa,Ac,bY];generalize(n-1)/Ak r+1=k;congr 1;rw[As,Anb];simp only[Acw,Ayy,Bdm];omega
 ·rw[Aas (by rw[As];simp;omega)];simp[h1]
def Pb:List UInt8:=[84,84,65,49]
def f0(b:List UInt8):Nat:=Gb (part b 4 2)
def f1(b:List UInt8):Nat:=Gb (part b 6 2)
def f2(b:List UInt8):Nat:=Gb (part b 8 2)
def f3(b:List UInt8):Nat:=Gb (part b 10 4)
def f4(b:List UInt8):Nat:=Gb (part b 14 4)
abbrev H6:=Int×Int×Int×Int×Int×Int
def Eg(b:List UInt8):H6:=
 if b.take (min 4 b.length)≠Pb.take (min 4 b.length)then(0,0,0,0,0,12)else if b.length<22 then(0,0,0,0,0,24)else
 if(Em (b.take 18)).toNat≠Gb (part b 18 4)then(0,0,0,0,0,22)else
 if Ft (f0 b) (f1 b) (f2 b) (f3 b) (f4 b)=false then(0,0,0,0,0,12)else
 if Xw (f1 b) (f3 b) (f4 b)=false then(0,0,0,0,0,4)else((f0 b:Int),(f1 b:Int),(f2 b:Int),(f3 b:Int),(f4 b:Int),0)
section
variable {b:List UInt8}
theorem rs1(h:b.take (min 4 b.length)≠Pb.take (min 4 b.length)):Eg b=(0,0,0,0,0,12):=by rw[Eg,Aas h]
variable (h:b.take (min 4 b.length)=Pb.take (min 4 b.length))
include h
theorem rs2(h2:b.length<22):Eg b=(0,0,0,0,0,24):=by rw[Eg,Aaf (λe=>e h),Aas h2]
variable (h2:¬b.length<22)
include h2
theorem rs3(h3:(Em (b.take 18)).toNat≠Gb (part b 18 4)):Eg b=(0,0,0,0,0,22):=by rw[Eg,Aaf (λe=>e h),Aaf h2,Aas h3]
variable (h3:(Em (b.take 18)).toNat=Gb (part b 18 4))
include h3
theorem rs4(h4:Ft (f0 b) (f1 b) (f2 b) (f3 b) (f4 b)=false):Eg b=(0,0,0,0,0,12):=by rw[Eg,Aaf (λe=>e h),Aaf h2,Aaf (λe=>e h3),Aas h4]
variable (h4:Ft (f0 b) (f1 b) (f2 b) (f3 b) (f4 b)=true)
include h4
theorem rs5(h5:Xw (f1 b) (f3 b) (f4 b)=false):Eg b=(0,0,0,0,0,4):=by rw[Eg,Aaf (λe=>e h),Aaf h2,Aaf (λe=>e h3),Aaf (by rw[h4];simp),Aas h5]
theorem rs6(h5:Xw (f1 b) (f3 b) (f4 b)=true):Eg b=((f0 b:Int),(f1 b:Int),(f2 b:Int),(f3 b:Int),(f4 b:Int),0):=by rw[Eg,Aaf (λe=>e h),Aaf h2,Aaf (λe=>e h3),Aaf (by rw[h4];simp),Aaf (by rw[h5];simp)]
end
theorem Bbx(b:List UInt8)(h2:¬b.length<22):Ba (Af (Em (b.take 18)):UInt64) (uO (part b 18 4))=decide ((Em (b.take 18)).toNat≠Gb (part b 18 4)):=by
 rw[WC,Dt,Anb];simp only[Bn2,ne_eq,Acw];rw[<-Bne,bJ (by have:=(Em (b.take 18)).toNat_lt;omega),cZ (by rw[Ew (by omega)];omega)]
theorem pQ(b:List UInt8)(a w:Nat)(i q:Nat)(l:List Int)(hi:i<5)(hl:l.length=5)(hw:Ap ([2,2,2,4,4]:List Int) (i:Int)=some (w:Int))(h1:1<=w)(h4:w<=4)(ha:a+w<=b.length)(hb:b.length<4611686018427387904):
  Qk b (q+1) (a:Int) (i:Int) l=Qk b q ((a+w:Nat):Int) ((i+1:Nat):Int) (l.set i (Gb (part b a w):Int)):=by
 rw[Qk,HZ,Aas (by rw[Ae];simp;omega),hw,Aa,Ajp b a w h1 (by omega) ha hb,Aa];simp only;rw[Bm (by omega),Aa,Wf _ (by omega),Aa,QI (by rw[Ew ha];omega),Ah (by omega) (by omega),Ah (by omega) (by omega)];rfl
theorem Bco(b:List UInt8)(h22:¬b.length<22)(hb:b.length<4611686018427387904):JH b 4 0 (List.replicate 5 0)=KE [(f0 b:Int),(f1 b:Int),(f2 b:Int),(f3 b:Int),(f4 b:Int)]:=by
 have hF:Au=(Au-6)+1+1+1+1+1+1:=by have:=Aq;omega
 rw[JH,hF,show(4:Int)=((4:Nat):Int)from rfl,show(0:Int)=((0:Nat):Int)from rfl];rw[pQ b 4 2 0 _ _ (by omega) (by simp) rfl (by omega) (by omega) (by omega) hb,pQ b 6 2 1 _ _ (by omega) (by simp) rfl (by omega) (by omega) (by omega) hb,pQ b 8 2 2 _ _ (by omega) (by simp) rfl (by omega) (by omega) (by omega) hb,
  pQ b 10 4 3 _ _ (by omega) (by simp) rfl (by omega) (by omega) (by omega) hb,pQ b 14 4 4 _ _ (by omega) (by simp) rfl (by omega) (by omega) (by omega) hb,Qk,HZ,Aaf (by rw[Ae];simp)]
 rfl
theorem Bmj(b:List UInt8):Kx [84,84,65,49] (b.take (min 4 b.length))=some (decide (b.take (min 4 b.length)=Pb.take (min 4 b.length))):=by
 have hl:(b.take (min 4 b.length)).length=min 4 b.length:=by rw[Ah9];omega
 rw[Kx,Hs,Aas (by rw[Ds,Ac,Ac,hl];simp;omega),Ac,hl,Dd (by omega) (by simp;omega),Aa,Aa,Ah2];congr 1;rw[Anb];rw[Acw,Aue];exact eq_comm
theorem Bki(b:List UInt8):Fk (4:Int) (Ac b)=((min 4 b.length:Nat):Int):=by rw[PL,Ac];omega
theorem OP(b:List UInt8)(hb:b.length<4611686018427387904):Ld b=some (Eg b):=by
 rw[Ld,aV,Bki,Dd (by omega) (by omega),Aa,Ah2,Bmj,Aa];by_cases h:b.take (min 4 b.length)=Pb.take (min 4 b.length)
 ·rw[Aaf (by simpa using h)];by_cases h2:b.length<22
  ·rw[Aas (by rw[Ae,Ac];simp;omega),rs2 h h2]
  ·have a1:fX b 18 4=some (uO (part b 18 4),0):=Ajp b 18 4 (by omega) (by omega) (by omega) hb;rw[Aaf (by rw[Ae,Ac];simp;omega),a1,Aa];simp only;rw[Dd (by omega) (by omega),Aa,show(18:Int).toNat=18 from rfl,Aa2 _ (by simp;omega),Aa];simp only;rw[Bbx b h2];by_cases h3:(Em (b.take 18)).toNat=Gb (part b 18 4)
   ·rw[Aaf (by simpa using h3),Bco b h2 hb,KE,pH];rw[show Ap [(f0 b:Int),(f1 b:Int),(f2 b:Int),(f3 b:Int),(f4 b:Int)] 0=some (f0 b:Int)from rfl,show Ap [(f0 b:Int),(f1 b:Int),(f2 b:Int),(f3 b:Int),(f4 b:Int)] 1=some (f1 b:Int)from rfl,show Ap [(f0 b:Int),(f1 b:Int),(f2 b:Int),(f3 b:Int),(f4 b:Int)] 2=some (f2 b:Int)from rfl,
     show Ap [(f0 b:Int),(f1 b:Int),(f2 b:Int),(f3 b:Int),(f4 b:Int)] 3=some (f3 b:Int)from rfl,show Ap [(f0 b:Int),(f1 b:Int),(f2 b:Int),(f3 b:Int),(f4 b:Int)] 4=some (f4 b:Int)from rfl]
    simp only[Aa,cM];cases h4:Ft (f0 b) (f1 b) (f2 b) (f3 b) (f4 b)with
    |false=>rw[rs4 h h2 h3 h4];rfl
    |true=>
     rw[sF h4,Aaf (by simp),Aa];cases h5:Xw (f1 b) (f3 b) (f4 b)with
     |false=>rw[rs5 h h2 h3 h4 h5];rfl
     |true=>rw[rs6 h h2 h3 h4 h5];rfl
   ·rw[Aas (by simpa using h3),rs3 h h2 h3]
 ·rw[Aas (by simpa using h),rs1 h]
theorem iI(b:List UInt8)(hb:b.length<4611686018427387904):Nk b=some (Eg b):=by
 rw[Nk,RN,Bki,Dd (by omega) (by omega),Aa,Ah2,Dd (by omega) (by simp;omega),Aa,Ah2];by_cases h:b.take (min 4 b.length)=Pb.take (min 4 b.length)
 ·rw[Aaf (by rw[h];simp[Pb]),SY,TC];by_cases h2:b.length<22
  ·rw[Aas (by rw[Ae,Ac];simp;omega),rs2 h h2]
  ·have a1:Bi b 18 22=some (part b 18 4):=Rv 18 4 (by omega);have c1:Bi b 4 6=some (part b 4 2):=Rv 4 2 (by omega);have c2:Bi b 6 8=some (part b 6 2):=Rv 6 2 (by omega);have c3:Bi b 8 10=some (part b 8 2):=Rv 8 2 (by omega);have c4:Bi b 10 14=some (part b 10 4):=Rv 10 4 (by omega);have c5:Bi b 14 18=some (part b 14 4):=Rv 14 4 (by omega);have hs:Ba (uO (part b 18 4)) (Af (Em (b.take 18)):UInt64)=decide ((Em (b.take 18)).toNat≠Gb (part b 18 4)):=by
    rw[<-Bbx b h2,WC,WC,Anb];simp only[Bn2,ne_eq];exact not_congr eq_comm
   have lp:∀a w,a+w<=b.length->Ei (part b a w)=some (uO (part b a w)):=λa w h=>Ao8 _ (by rw[Ew h];omega);rw[Aaf (by rw[Ae,Ac];simp;omega),a1,Aa,Dd (by omega) (by omega),Aa,show(18:Int).toNat=18 from rfl,lp _ _ (by omega),Aa,Bbg _ (by simp;omega),Aa,hs];by_cases h3:(Em (b.take 18)).toNat=Gb (part b 18 4)
   ·rw[Aaf (by simpa using h3),RR,RY,c1,Aa,c2,Aa,c3,Aa,c4,Aa,c5,Aa,lp _ _ (by omega),Aa,lp _ _ (by omega),Aa,lp _ _ (by omega),Aa,lp _ _ (by omega),Aa,lp _ _ (by omega),Aa,
     TG,TE,QI (by rw[Ew (by omega)];omega),QI (by rw[Ew (by omega)];omega),QI (by rw[Ew (by omega)];omega),QI (by rw[Ew (by omega)];omega),QI (by rw[Ew (by omega)];omega)]
    rw[show Gb (part b 4 2)=f0 b from rfl,show Gb (part b 6 2)=f1 b from rfl,show Gb (part b 8 2)=f2 b from rfl,show Gb (part b 10 4)=f3 b from rfl,show Gb (part b 14 4)=f4 b from rfl,uY,Aa];cases h4:Ft (f0 b) (f1 b) (f2 b) (f3 b) (f4 b)with
    |false=>rw[rs4 h h2 h3 h4];rfl
    |true=>
     rw[Ad5 h4,Aaf (by simp),Aa];cases h5:Xw (f1 b) (f3 b) (f4 b)with
     |false=>rw[rs5 h h2 h3 h4 h5];rfl
     |true=>rw[rs6 h h2 h3 h4 h5];rfl
   ·rw[Aas (by simpa using h3),rs3 h h2 h3]
 ·rw[Aas (by simpa [Pb]using h),rs1 h]
theorem oW{b:List UInt8}(h:(Eg b).2.2.2.2.2=0):Eg b=((f0 b:Int),(f1 b:Int),(f2 b:Int),(f3 b:Int),(f4 b:Int),0)/\22<=b.length/\Ft (f0 b) (f1 b) (f2 b) (f3 b) (f4 b)=true/\Xw (f1 b) (f3 b) (f4 b)=true:=by
 unfold Eg at h⊢;split at h; · simp at h
 rename_i c1;rw[Aaf c1];split at h; · simp at h
 rename_i c2;rw[Aaf c2];split at h; · simp at h
 rename_i c3;rw[Aaf c3];split at h; · simp at h
 rename_i c4;rw[Aaf c4];split at h; · simp at h
 rename_i c5;rw[Aaf c5];exact⟨rfl,by omega,by simpa using c4,by simpa using c5⟩
theorem TJ{f c w r n:Nat}(h:Ft f c w r n=true)(h2:Xw c r n=true):Dk (f:Int) (c:Int) (w:Int) (r:Int) (n:Int)=some (Aj (Ak r) n,0):=by
 have hc:Oo (f:Int) (c:Int) (w:Int) (r:Int) (n:Int)=some 0:=by
  rw[Oo,cM,Aa,h,Aaf (by simp),sF h,Aa,h2];rfl
 have hd:4000/c<=4000:=Atx _ _;simp only[Ft,Acw]at h;simp only[Xw,Acw]at h2;rw[Dk,hc,Aa,Aaf (by rw[Al];simp),Ay7 (by omega) (by omega) (by omega) (by omega) h2.2];rfl
def okL:List Int->Int->Bool
 |[],_=>true
 |x::l,left=>decide (5<=x/\x<=left)&&okL l (left-x)
theorem Awm:∀l:List Int,(∀x∈l,5<=x)->0<=l.sum
 |[],_=>by simp
 |x::l,h=>by
  have h1:=h x Ay0;have h2:=Awm l λy hy=>h y (Aq1 _ hy);rw[Bdn];omega
theorem AX:∀(l:List Int) (left:Int),0<=left-> (okL l left=true↔(∀x∈l,5<=x)/\l.sum<=left)
 |[],left,h=>by simp[okL];exact h
 |x::l,left,h=>by
  rw[okL,Ac9,Acw,Bdn];by_cases hx:5<=x/\x<=left
  ·rw[AX l (left-x) (by omega)];constructor
   ·rintro⟨_,h1,h2⟩;exact⟨λy hy=>(List.mem_cons.1 hy).elim (λe=>e▸hx.1) (h1 y),by omega⟩
   ·rintro⟨h1,h2⟩;exact⟨hx,λy hy=>h1 y (Aq1 _ hy),by omega⟩
  ·constructor
   ·rintro⟨h1,_⟩;exact absurd h1 hx
   ·rintro⟨h1,h2⟩;have h3:=h1 x Ay0;have:0<=l.sum:=Awm l λy hy=>h1 y (Aq1 _ hy);omega
theorem Aho(l:List Int)(hl:l.length<=1000):∀(j i q:Nat) (left:Int),i+j=l.length->j<q->0<=left->left<=100000->Uo l q left (i:Int)=some (if okL (l.drop i) left=true then 0 else 8)
 |0,i,q+1,left,hi,_,_,_=>by
  rw[Uo,KP,Aaf (by rw[Ae,Ac];simp;omega),show i=l.length by omega,Blu];rfl
 |j+1,i,q+1,left,hi,hq,h0,h1=>by
  have hlt:i<l.length:=by omega
  rw[Uo,KP,Aas (by rw[Ae,Ac];simp;omega),Bm hlt,Aa,drop_cons hlt];by_cases h:5<=l[i]/\l[i]<=left
  ·rw[Aaf (by simp[Ae,As];omega),Bs (by omega) (by omega),Ah (by omega) (by omega)];have ih:=Aho l hl j (i+1) q (left-l[i]) (by omega) (by omega) (by omega) (by omega);rw[show((i:Int)+1)=((i+1:Nat):Int) by omega,ih];simp[okL,h]
  ·rw[Aas (by simp[Ae,As];omega)];have:okL (l[i]::l.drop (i+1)) left=false:=by rw[okL,Bhd h];rfl
   rw[this];rfl
def Sy(l:List Int):Bool:=decide (1<=l.length/\l.length<=1000)&&okL l 100000
theorem Als(l:List Int)(hl:l.length<=1000):Pa l=some (if Sy l=true then 0 else 8):=by
 rw[Pa,JJ,Sy];by_cases h:1<=l.length
 ·rw[Aaf (by rw[Ar,As,Ac];simp;constructor;(intro e;subst e;simp at h);omega),ZV];have:=Aho l hl l.length 0 Au 100000 (by omega) (by have:=Aq;omega) (by omega) (by omega);rw[Bnk]at this;rw[Bju (show 1<=l.length/\l.length<=1000 from⟨h,hl⟩),Bma];exact this
 ·have:l=[]:=by
   cases l with
   |nil=>rfl
   |cons _ _=>simp at h
  subst this;rfl
theorem Ajb(l:List Int)(hl:l.length<=1000):∀(j i q:Nat) (s:Int),i+j=l.length->j<q->0<=s->s<=100000*(i:Int)->Ly l q s (i:Int)=some (if(∀x∈l.drop i,5<=x/\x<=100000)/\s+(l.drop i).sum<=100000 then 0 else 8)
 |0,i,q+1,s,hi,_,_,_=>by
  rw[Ly,Xq,Aaf (by rw[Ae,Ac];simp;omega),show i=l.length by omega,Blu,KR,KI];by_cases h:s<=100000
  ·rw[Aaf (by rw[As];simp;omega),Aas (by simp;omega)]
  ·rw[Aas (by rw[As];simp;omega),Aaf (by simp;omega)]
 |j+1,i,q+1,s,hi,hq,h0,h1=>by
  have hlt:i<l.length:=by omega
  rw[Ly,Xq,Aas (by rw[Ae,Ac];simp;omega),Bm hlt,Aa,drop_cons hlt];by_cases h5:l[i]<5
  ·rw[Aas (by rw[Ae];simpa using h5),Aaf (λh=>by have:=(h.1 l[i] Ay0).1;omega)]
  ·rw[Aaf (by rw[Ae];simpa using h5),Aa];by_cases h6:100000<l[i]
   ·rw[Aas (by rw[As];simpa using h6),Aaf (λh=>by have:=(h.1 l[i] Ay0).2;omega)]
   ·rw[Aaf (by rw[As];simpa using h6),MX,MQ,Bm hlt,Aa,Ah (by omega) (by omega),Ah (by omega) (by omega)];have ih:=Ajb l hl j (i+1) q (s+l[i]) (by omega) (by omega) (by omega) (by omega);rw[show((i:Int)+1)=((i+1:Nat):Int) by omega,ih];have e:((∀x∈l.drop (i+1),5<=x/\x<=100000)/\s+l[i]+(l.drop (i+1)).sum<=100000)↔((∀x∈l[i]::l.drop (i+1),5<=x/\x<=100000)/\s+(l[i]::l.drop (i+1)).sum<=100000):=by
     rw[Bdn,List.forall_mem_cons,Bnu];constructor
     ·rintro⟨a,b⟩;exact⟨⟨by omega,a⟩,b⟩
     ·rintro⟨⟨_,a⟩,b⟩;exact⟨a,b⟩
    simp only[e]
theorem vT:∀{l:List Int},(∀x∈l,5<=x)->∀x∈l,x<=l.sum
 |[],_,x,hx=>by simp at hx
 |y::l,h,x,hx=>by
  have h1:=h y Ay0;have h2:=Awm l λz hz=>h z (Aq1 _ hz);rw[Bdn];rcases List.mem_cons.1 hx with rfl|hx
  ·omega
  ·have:=vT (l:=l) (λz hz=>h z (Aq1 _ hz)) x hx;omega
theorem Aqo(l:List Int)(hl:l.length<=1000):Jg l=some (if Sy l=true then 0 else 8):=by
 rw[Jg,Xr,Sy];by_cases h:1<=l.length
 ·have:=Ajb l hl l.length 0 Au 0 (by omega) (by have:=Aq;omega) (by omega) (by omega);rw[Aaf (by rw[Ae,As,Ac];simp;omega),NO];refine Bj5 this ?_;rw[Bnk,Bju (show 1<=l.length/\l.length<=1000 from⟨h,hl⟩),Bma];have e:((∀x∈l,5<=x/\x<=100000)/\0+l.sum<=100000)↔okL l 100000=true:=by
   rw[AX l 100000 (by omega),Int.zero_add];constructor
   ·rintro⟨a,b⟩;exact⟨λx hx=>(a x hx).1,b⟩
   ·rintro⟨a,b⟩;exact⟨λx hx=>⟨a x hx,Int.le_trans (vT a x hx) b⟩,b⟩
  simp only[e]
 ·have:l=[]:=by
   cases l with
   |nil=>rfl
   |cons _ _=>simp at h
  subst this;rfl
theorem XS(l:List Int):Pa l=some (if Sy l=true then 0 else 8):=by
 by_cases hl:l.length<=1000
 ·exact Als l hl
 ·rw[Pa,JJ,Aas (by rw[As,Ac];simp;omega),Sy,Bhd (by omega)];rfl
theorem eT(l:List Int):Jg l=some (if Sy l=true then 0 else 8):=by
 by_cases hl:l.length<=1000
 ·exact Aqo l hl
 ·rw[Jg,Xr,Aas (by rw[As,Ac];simp;omega),Sy,Bhd (by omega)];rfl
theorem Aes(l:List Int)(hl:l.length<=1000)(hx:∀x∈l,0<=x/\x<4294967296):Pa l=some (if Sy l=true then 0 else 8):=XS l
theorem Axr(l:List Int)(hl:l.length<=1000)(hx:∀x∈l,0<=x/\x<4294967296):Jg l=some (if Sy l=true then 0 else 8):=eT l
def RV(b:List UInt8)(n:Nat):List Int:=(List.range n).map λi=>(Gb (part b (4*i) 4):Int)
theorem Ux(b:List UInt8)(n:Nat):(RV b n).length=n:=by simp[RV]
theorem Akz(b:List UInt8)(n:Nat):RV b (n+1)=RV b n++[(Gb (part b (4*n) 4):Int)]:=by simp[RV,Boe]
theorem Avh(b:List UInt8)(n:Nat)(h:4*n<=b.length):∀x∈RV b n,0<=x/\x<4294967296:=by
 intro x hx;simp only[RV,List.mem_map,List.mem_range]at hx;obtain⟨i,hi,rfl⟩:=hx;have:=Auu (l:=part b (4*i) 4) (by rw[Ew (by omega)];omega);omega
def Eh(b:List UInt8)(n:Nat):List Int×Int:=
 if ¬(1<=n/\n<=1000)then([],2)else if b.length<4*n+4 then([],24)else if(Em (b.take (4*n))).toNat≠Gb (part b (4*n) 4)then([],22)else
 if Sy (RV b n)=true then(RV b n,0)else([],12)
theorem Avs{b:List UInt8}{n:Nat}(h:1<=n/\n<=1000)(h2:¬b.length<4*n+4):Ba (Af (Em (b.take (4*n))):UInt64) (uO (part b (4*n) 4))=decide ((Em (b.take (4*n))).toNat≠Gb (part b (4*n) 4)):=by
 rw[WC,Dt,Anb];simp only[Bn2,ne_eq,Acw];rw[<-Bne,bJ (by have:=(Em (b.take (4*n))).toNat_lt;omega),cZ (by rw[Ew (by omega)];omega)]
section
variable {b:List UInt8} {n:Nat}
theorem ss1(h:¬(1<=n/\n<=1000)):Eh b n=([],2):=by rw[Eh,Aas h]
variable (h:1<=n/\n<=1000)
include h
theorem ss2(h2:b.length<4*n+4):Eh b n=([],24):=by rw[Eh,Aaf (λe=>e h),Aas h2]
variable (h2:¬b.length<4*n+4)
include h2
theorem ss3(h3:(Em (b.take (4*n))).toNat≠Gb (part b (4*n) 4)):Eh b n=([],22):=by rw[Eh,Aaf (λe=>e h),Aaf h2,Aas h3]
theorem ss4(h3:(Em (b.take (4*n))).toNat=Gb (part b (4*n) 4)):Eh b n=if Sy (RV b n)=true then(RV b n,0)else([],12):=by rw[Eh,Aaf (λe=>e h),Aaf h2,Aaf (λe=>e h3)]
end
theorem Ajg(b:List UInt8)(l8:List Int)(n:Nat)(hn:n<=1000)(h8:l8.length=n)(hb:4*n+4<=b.length)(hb2:b.length<4611686018427387904):∀(j i q:Nat),i+j=n->j<q->Xo b l8 q (i:Int) (RV b i++List.replicate j 0)=QG (RV b n)
 |0,i,q+1,hi,_=>by
  obtain rfl:i=n:=by omega
  rw[Xo,QC,Aaf (by rw[Ae,Ac];simp;omega)];simp
 |j+1,i,q+1,hi,hq=>by
  have hlen:(RV b i++List.replicate (j+1) 0).length=i+(j+1):=by simp[Ux]
  have ha:=Ajp b (4*i) 4 (by omega) (by omega) (by omega) hb2;rw[Xo,QC,Aas (by rw[Ae,Ac];simp;omega),Fc (by omega) (by omega),show(4:Int)*(i:Int)=((4*i:Nat):Int) by omega,show(4:Int)=((4:Nat):Int)from rfl,ha,Aa];simp only;rw[Bm (by rw[hlen];omega),Aa,Wf _ (by rw[hlen];omega),Aa,QI (by rw[Ew (by omega)];omega),Ah (by omega) (by omega),Bho,sE (Ux _ _)];have ih:=Ajg b l8 n hn h8 hb hb2 j (i+1) q (by omega) (by omega);rw[Akz]at ih;rw[show((i:Int)+1)=((i+1:Nat):Int) by omega,<-ih];simp
theorem sP(b:List UInt8)(n:Nat)(hb:b.length<=100100):GD b (n:Int)=some (Eh b n):=by
 rw[GD,dK];by_cases h:1<=n/\n<=1000
 ·rw[Aaf (by simp[Ae,As];omega),Fc (by omega) (by omega),Ah (by omega) (by omega)];by_cases h2:b.length<4*n+4
  ·rw[Aas (by rw[Ae,Ac];simp;omega),ss2 h h2]
  ·have ha:fX b (4*(n:Int)) 4=some (uO (part b (4*n) 4),0):=by
    rw[show(4:Int)*(n:Int)=((4*n:Nat):Int) by omega];exact Ajp b (4*n) 4 (by omega) (by omega) (by omega) (by omega)
   rw[Aaf (by rw[Ae,Ac];simp;omega),ha,Aa];simp only;rw[Dd (by omega) (by omega),Aa,show(4*(n:Int)).toNat=4*n by omega,Aa2 _ (by simp;omega),Aa];simp only;rw[Avs h h2];by_cases h3:(Em (b.take (4*n))).toNat=Gb (part b (4*n) 4)
   ·have hlp:=Ajg b (List.replicate n 0) n (by omega) (by simp) (by omega) (by omega) n 0 Au (by omega) (by have:=Aq;omega);rw[Aaf (by simpa using h3),uA (by omega) (by omega),Aa,Bu (by rw[Ar];simp),Aa,eC,Ah2];refine Bj5 (hlp) ?_;rw[QG,uC,Aes _ (by rw[Ux];omega) (Avh b n (by omega)),Aa,ss4 h h2 h3];cases Sy (RV b n)<;>rfl
   ·rw[Aas (by simpa using h3),ss3 h h2 h3]
 ·rw[Aas (by simp[Ae,As];omega),ss1 h]
theorem tV(b:List UInt8)(n:Nat)(hn:n<=1000)(hb:4*n+4<=b.length)(hb2:b.length<4611686018427387904):∀(j i q:Nat),i+j=n->j<q->Nf b (n:Int) q (i:Int) (RV b i)=Zx (RV b n)
 |0,i,q+1,hi,_=>by
  obtain rfl:i=n:=by omega
  rw[Nf,AU,Aaf (by rw[Ae];simp)]
 |j+1,i,q+1,hi,hq=>by
  have hc:Bi b ((4:Int)*(i:Int)) ((4:Int)*(i:Int)+4)=some (part b (4*i) 4):=by
   rw[show(4:Int)*(i:Int)=((4*i:Nat):Int) by omega];exact Rv (4*i) 4 (by omega)
  rw[Nf,AU,Aas (by rw[Ae];simp;omega),Fc (by omega) (by omega),Ah (by omega) (by omega),hc,Aa,Ao8 _ (by rw[Ew (by omega)];omega),Aa,Bd (by rw[Ux];simp;omega),Aa,
   QI (by rw[Ew (by omega)];omega),Ah (by omega) (by omega),<-Akz]
  exact tV b n hn hb hb2 j (i+1) q (by omega) (by omega)
theorem Ad1(b:List UInt8)(n:Nat)(hb:b.length<=100100):Sa b (n:Int)=some (Eh b n):=by
 rw[Sa,SC];by_cases h:1<=n/\n<=1000
 ·rw[Aaf (by simp[Ae,As];omega),Fc (by omega) (by omega),Ah (by omega) (by omega)];by_cases h2:b.length<4*n+4
  ·rw[Aas (by rw[Ae,Ac];simp;omega),ss2 h h2]
  ·have hc:Bi b ((4:Int)*(n:Int)) ((4:Int)*(n:Int)+4)=some (part b (4*n) 4):=by
    rw[show(4:Int)*(n:Int)=((4*n:Nat):Int) by omega];exact Rv (4*n) 4 (by omega)
   have hs:Ba (uO (part b (4*n) 4)) (Af (Em (b.take (4*n))):UInt64)=decide ((Em (b.take (4*n))).toNat≠Gb (part b (4*n) 4)):=by
    rw[<-Avs h h2,WC,WC,Anb];simp only[Bn2,ne_eq];exact not_congr eq_comm
   rw[Aaf (by rw[Ae,Ac];simp;omega),hc,Aa,Dd (by omega) (by omega),Aa,show(4*(n:Int)).toNat=4*n by omega,Ao8 _ (by rw[Ew (by omega)];omega),Aa,Bbg _ (by simp;omega),Aa,hs];by_cases h3:(Em (b.take (4*n))).toNat=Gb (part b (4*n) 4)
   ·have hlp:=tV b n (by omega) (by omega) (by omega) n 0 Au (by omega) (by have:=Aq;omega);rw[Aaf (by simpa using h3),TB,SW,SU];refine Bj5 hlp ?_;rw[Zx,RS,Axr _ (by rw[Ux];omega) (Avh b n (by omega)),Aa,ss4 h h2 h3];cases Sy (RV b n)<;>rfl
   ·rw[Aas (by simpa using h3),ss3 h h2 h3]
 ·rw[Aas (by simp[Ae,As];omega),ss1 h]
theorem iK{b:List UInt8}{n:Nat}(h:(Eh b n).2=0):Eh b n=(RV b n,0)/\1<=n/\n<=1000/\4*n+4<=b.length/\ (∀x∈RV b n,5<=x)/\ (RV b n).sum<=100000:=by
 unfold Eh at h⊢;split at h; · simp at h
 rename_i c1;rw[Aaf c1];split at h; · simp at h
 rename_i c2;rw[Aaf c2];split at h; · simp at h
 rename_i c3;rw[Aaf c3];split at h
 ·rename_i c4;rw[Aas c4];have c4':=c4;rw[Sy,Ac9,AX _ _ (by omega)]at c4';exact⟨rfl,by omega,by omega,by omega,c4'.2.1,c4'.2.2⟩
 ·simp at h
def Il(b:List UInt8):List UInt8:=b.drop (Bo b).1.toNat
abbrev Op8:=Int×Int×Int×Int×Int×Int×(List Int)×Int
def SK(e:Int):Op8:=(0,0,0,0,0,0,[],e)
theorem Agr(A K:Nat)(h:A<=200000)(hk:K<=1000):Ad (Ad (A:Int) (Bg 4 (K:Int))) 4=((A+4*K+4:Nat):Int):=by
 rw[Fc (by omega) (by omega),Ah (a:=(A:Int)) (by omega) (by omega),Ah (by omega) (by omega)];omega
theorem sR{f c w r n:Nat}(h1:Ft f c w r n=true)(h2:Xw c r n=true)(b:List UInt8)(hb:b.length<=100100)(A:Nat)(hA:A<=b.length):
  Qn b (f:Int) (c:Int) (w:Int) (r:Int) (n:Int) (A:Int)=
   some (if(Eh (b.drop A) (Aj (Ak r) n).length).2≠0 then SK (Eh (b.drop A) (Aj (Ak r) n).length).2 else((f:Int),(c:Int),(w:Int),(r:Int),(n:Int),((A+4*(Aj (Ak r) n).length+4:Nat):Int),(Eh (b.drop A) (Aj (Ak r) n).length).1,0)):=by
 rw[Qn,pR,TJ h1 h2,Aa];simp only;rw[Aaf (by rw[Al];simp),Bt (by omega) (by omega),Aa,Ac,show(A:Int).toNat=A from rfl,sP _ _ (by simp;omega),Aa];by_cases h:(Eh (b.drop A) (Aj (Ak r) n).length).2≠0
 ·rw[Aas h,Aas (by rw[Al];simpa using h)];rfl
 ·have h0:(Eh (b.drop A) (Aj (Ak r) n).length).2=0:=by simpa using h
  obtain⟨g1,g2,g3,g4,g5,g6⟩:=iK h0;have gl:(Eh (b.drop A) (Aj (Ak r) n).length).1.length=(Aj (Ak r) n).length:=by rw[g1];exact Ux _ _
  rw[Aaf h,Aaf (by rw[Al];simpa using h),Ac,gl,Agr _ _ (by omega) (by omega)]
theorem Azw{f c w r n:Nat}(h1:Ft f c w r n=true)(h2:Xw c r n=true)(b:List UInt8)(hb:b.length<=100100)(A:Nat)(hA:A<=b.length):
  Oq b (f:Int) (c:Int) (w:Int) (r:Int) (n:Int) (A:Int)=
   some (if(Eh (b.drop A) (Aj (Ak r) n).length).2≠0 then SK (Eh (b.drop A) (Aj (Ak r) n).length).2 else((f:Int),(c:Int),(w:Int),(r:Int),(n:Int),((A+4*(Aj (Ak r) n).length+4:Nat):Int),(Eh (b.drop A) (Aj (Ak r) n).length).1,0)):=by
 have hs:(1<=r/\r<=1048576)/\1<=n/\1<=c:=by
  simp only[Ft,Acw]at h1;omega
 have hf:n<=4000:=by
  simp only[Xw,Acw]at h2;have:=Atx 4000 c;omega
 rw[Oq,HV,Bt (by omega) (by omega),Aa,XZ hs.1.2 hs.2.1 hf,Aa,Ac,show(A:Int).toNat=A from rfl,Ad1 _ _ (by simp;omega),Aa];simp only;rw[IE,LA];by_cases h:(Eh (b.drop A) (Aj (Ak r) n).length).2≠0
 ·rw[Aas h,Aas (by rw[Al];simpa using h)];rfl
 ·have h0:(Eh (b.drop A) (Aj (Ak r) n).length).2=0:=by simpa using h
  obtain⟨g1,g2,g3,g4,g5,g6⟩:=iK h0;have gl:(Eh (b.drop A) (Aj (Ak r) n).length).1.length=(Aj (Ak r) n).length:=by rw[g1];exact Ux _ _
  rw[Aaf h,Aaf (by rw[Al];simpa using h),Ac,gl,Agr _ _ (by omega) (by omega)]
structure Opn (b p:List UInt8) (f c w r n A:Nat) (l:List Int):Prop where
 prog:Cw b p=some ((f:Int),(c:Int),(w:Int),(r:Int),(n:Int),(A:Int),l,0)
 ref:Ez b p=some ((f:Int),(c:Int),(w:Int),(r:Int),(n:Int),(A:Int),l,0)
 pass:p.length<=64
 file:b.length<=100000
 shape:Ft f c w r n=true
 fit:Xw c r n=true
 len:l.length=(Aj (Ak r) n).length
 some1:1<=l.length/\l.length<=1000
 five:∀x∈l,5<=x
 sum:l.sum<=100000
 at':A<=b.length
 tag:(Bo b).2=0
 head:Eg (Il b)=((f:Int),(c:Int),(w:Int),(r:Int),(n:Int),0)
 tab:Eh (b.drop ((Bo b).1.toNat+22+(if f=2 then 8 else 0))) l.length=(l,0)
 pos:A=(Bo b).1.toNat+22+(if f=2 then 8 else 0)+4*l.length+4
theorem zE(b p:List UInt8)(hb:b.length<=100100)(hp:p.length<=64):
  (∃e:Int,e≠0/\Cw b p=some (SK e)/\Ez b p=some (SK e))\/ (∃f c w r n A l,Opn b p f c w r n A l):=by
 by_cases h1:100000<b.length
 ·refine .inl ⟨4,by omega,?_,?_⟩
  ·rw[Cw,Ui,Aaf (by rw[As,Ac];simp;omega),Aas (by rw[As,Ac];simp;omega)];rfl
  ·rw[Ez,Wu,Aas (by rw[As,Ac];simp;omega)];rfl
 have hP:Cw b p=Cw b p:=rfl;have hR:Ez b p=Ez b p:=rfl
 conv at hP=>rhs;rw[Cw,Ui,Aaf (by rw[As,Ac];simp;omega),Aaf (by rw[As,Ac];simp;omega),Pu b (by omega),Aa]
 conv at hR=>rhs;rw[Ez,Wu,Aaf (by rw[As,Ac];simp;omega),BI b (by omega),Aa]
 by_cases h2:(Bo b).2=0
 ·obtain⟨p0,p1,p2⟩:=BR h2;have hc:=Bt (l:=b) p0 p1;simp only[h2]at hP hR;rw[Aaf (by rw[Al];simp),hc,Aa,show b.drop (Bo b).1.toNat=Il b from rfl,OP _ (by simp[Il];omega),Aa]at hP;rw[Aaf (by rw[Al];simp),hc,Aa,show b.drop (Bo b).1.toNat=Il b from rfl,iI _ (by simp[Il];omega),Aa]at hR;by_cases h3:(Eg (Il b)).2.2.2.2.2=0
  ·obtain⟨g1,g2,g3,g4⟩:=oW h3;have hlen:(Il b).length=b.length-(Bo b).1.toNat:=by simp[Il]
   generalize hF:(Bo b).1.toNat=F at*
   have hF':(Bo b).1=(F:Int):=by omega
   rw[g1,hF']at hP hR;simp only at hP hR;generalize f0 (Il b)=f at*
   generalize f1 (Il b)=c at*
   generalize f2 (Il b)=w at*
   generalize f3 (Il b)=r at*
   generalize f4 (Il b)=n at*
   have t22:Ad (F:Int) 22=((F+22:Nat):Int):=by rw[Ah (by omega) (by omega)];omega
   have t30:Ad ((F+22:Nat):Int) 8=((F+30:Nat):Int):=by rw[Ah (by omega) (by omega)];omega
   have Bl1:f=1\/f=2:=by simp only[Ft,Acw]at g3;omega
   rw[Aaf (by rw[Al];simp),t22,t30]at hP hR;have hend:∀A:Nat,A<=b.length->A=F+22+(if f=2 then 8 else 0)->Cw b p=Qn b (f:Int) (c:Int) (w:Int) (r:Int) (n:Int) (A:Int)->Ez b p=Oq b (f:Int) (c:Int) (w:Int) (r:Int) (n:Int) (A:Int)->
     (∃e:Int,e≠0/\Cw b p=some (SK e)/\Ez b p=some (SK e))\/ (∃f c w r n A l,Opn b p f c w r n A l):=by
    intro A hA hA2 e1 e2;rw[sR g3 g4 b hb A hA]at e1;rw[Azw g3 g4 b hb A hA]at e2;by_cases h:(Eh (b.drop A) (Aj (Ak r) n).length).2≠0
    ·rw[Aas h]at e1 e2;exact .inl ⟨_,h,e1,e2⟩
    ·have h0:(Eh (b.drop A) (Aj (Ak r) n).length).2=0:=by simpa using h
     obtain⟨k1,k2,k3,k4,k5,k6⟩:=iK h0;have gl:(Eh (b.drop A) (Aj (Ak r) n).length).1.length=(Aj (Ak r) n).length:=by rw[k1];exact Ux _ _
     rw[Aaf h]at e1 e2;rw[Aky]at k4;refine .inr ⟨f,c,w,r,n,_,_,⟨e1,e2,hp,by omega,g3,g4,gl,by omega,by rw[k1];exact k5,by rw[k1];exact k6,by omega,h2,g1,by rw[gl,hF,<-hA2];exact Prod.ext rfl h0,by rw[gl,hF,<-hA2]⟩⟩
   by_cases ML:((p==([]:List UInt8)) !=(geq (f:Int) (1:Int)))=true
   ·rw[Aas ML]at hP hR;exact .inl ⟨26,by omega,hP,hR⟩
   ·rw[Aaf ML]at hP hR;have hpf:(p=[]↔f=1):=by
     rw[Ar]at ML;have h5:(p==([]:List UInt8))=((f:Int)==1):=by simpa using ML
     have h6:(p==([]:List UInt8))=true↔((f:Int)==1)=true:=by rw[h5]
     rw[Aue,Aue]at h6;rw[h6];omega
    by_cases h5:f=2
    ·have Ayw:p≠ []:=λe=>by have:=hpf.1 e;omega
     have h64:(p !=([]:List UInt8))=true:=by simpa using Ayw
     rw[Aas h64]at hP;rw[Aas (by rw[Ar,h5];rfl),Bs (by rw[Ac];omega) (by rw[Ac];omega)]at hR;by_cases h6:b.length<F+30
     ·rw[Aas (by rw[Ae,Ac];simp;omega)]at hP hR;exact .inl ⟨24,by omega,hP,hR⟩
     ·have hseg:((b.take (F+30)).drop (F+22)).length=8:=by simp;omega
      rw[Aaf (by rw[Ae,Ac];simp;omega),Uk (by omega) (by omega) (by omega),Aa]at hP hR;rw[Om,sC p hp,Aa]at hP;rw[iN p hp,Aa]at hR;simp only at hP;rw[Aaf (by rw[Al,Al,Ac,Ac,Cf,show((F+30:Nat):Int).toNat=F+30 from rfl,show((F+22:Nat):Int).toNat=F+22 from rfl,hseg];simp),If,Aa,Aa]at hP;simp only at hP;rw[Aaf (by rw[Al];simp)]at hP;generalize(b.take ((F+30:Nat):Int).toNat).drop ((F+22:Nat):Int).toNat=tC at*
      by_cases h7:tC=Sm (Vk p).toNat 8
      ·rw[Aaf (by simp[h7])]at hP;rw[Aaf (by simp[h7])]at hR;exact hend (F+30) (by omega) (by rw[Aas h5]) hP hR
      ·rw[Aas (by simpa using h7)]at hP;rw[Aas (by simpa using h7)]at hR;exact .inl ⟨26,by omega,hP,hR⟩
    ·have hpe:p=[]:=hpf.2 (by omega);rw[Aaf (by rw[hpe];simp)]at hP;rw[Aaf (by rw[Ar];simp;omega)]at hR;exact hend (F+22) (by omega) (by rw[Aaf h5]) hP hR
  ·generalize Eg (Il b)=v at*
   obtain⟨v1,v2,v3,v4,v5,v6⟩:=v;simp only at h3 hP hR;rw[Aas (by rw[Al];simpa using h3)]at hP hR;exact .inl ⟨v6,h3,hP,hR⟩
 ·generalize Bo b=v at*
  obtain⟨v,e⟩:=v;simp only at h2 hP hR;rw[Aas (by rw[Al];simpa using h2)]at hP hR;exact .inl ⟨e,h2,hP,hR⟩
theorem Ait(l:List Int)(i:Nat):(l.take i).sum+(l.drop i).sum=l.sum:=by
 conv=>rhs;rw[<-Ayx i l,Bof]
theorem Fb{l:List Int}(h5:∀x∈l,5<=x)(i:Nat):0<= (l.take i).sum/\ (l.take i).sum<=l.sum:=by
 have h1:=Awm (l.take i) λx hx=>h5 x (Bnx hx);have h2:=Awm (l.drop i) λx hx=>h5 x (Bl6 hx);have:=Ait l i;omega
theorem Fg{l:List Int}{i:Nat}(h:i<l.length):(l.take (i+1)).sum=(l.take i).sum+l[i]:=by
 rw[Ij h,Bof];simp
def Ac2(l:List Int)(n:Nat):List Int:=(List.range n).map λi=>(l.take i).sum
theorem Apl(l:List Int)(n:Nat):(Ac2 l n).length=n:=by simp[Ac2]
theorem Awc(l:List Int)(n:Nat):Ac2 l (n+1)=Ac2 l n++[(l.take n).sum]:=by simp[Ac2,Boe]
theorem Aeo(l:List Int){n i:Nat}(h:i<n):Ap (Ac2 l n) (i:Int)=some ((l.take i).sum):=by
 rw[Bm (by rw[Apl];exact h)];simp[Ac2]
section
variable {l:List Int} (hl:l.length<=1000) (h5:∀x∈l,5<=x) (hs:l.sum<=100000)
include hl h5 hs
theorem Aj4:∀(j i q:Nat),i+j=l.length->j<q->Up l q (i:Int) ((l.take i).sum) (Ac2 l (i+1))=some (Ac2 l (l.length+1),0)
 |0,i,q+1,hi,_=>by
  rw[Up,QB,Aaf (by rw[Ae,Ac];simp;omega),show i=l.length by omega];rfl
 |j+1,i,q+1,hi,hq=>by
  have hlt:i<l.length:=by omega
  have ih:=Aj4 j (i+1) q (by omega) (by omega);have b1:=Fb h5 i;have b2:=Fb h5 (i+1);have e:=Fg hlt;rw[Awc l (i+1),e]at ih;rw[Up,QB,Aas (by rw[Ae,Ac];simp;omega),Bm hlt,Aa,Ah (by omega) (by omega),Bd (by simp[Apl];omega),Aa,gK,fU,Ah (by omega) (by omega),Ah (by omega) (by omega)];exact ih
theorem Bfj(h1:1<=l.length):dF l=some (Ac2 l (l.length+1),0):=by
 have h:=Aj4 hl h5 hs l.length 0 Au (by omega) (by have:=Aq;omega);have hx:∀x∈l,0<=x/\x<4294967296:=λx hx=>by
  have:=vT h5 x hx;have:=h5 x hx;omega
 have ht:Sy l=true:=by
  rw[Sy,Ac9];exact⟨by simpa using⟨h1,hl⟩,(AX l 100000 (by omega)).2 ⟨h5,hs⟩⟩
 rw[dF,gM,Aes l hl hx,Aa,Aas ht,Aaf (by rw[Al];simp)];exact h
theorem Aen(f c w r n A:Int)(hA:0<=A)(hA2:A<=200000)(k:Nat)(hk:k<=l.length):∀(j i q:Nat),i+j=k->j<q->Ln (k:Int) f c w r n A l q (A+(l.take i).sum) (i:Int)=some (A+(l.take k).sum)
 |0,i,q+1,hi,_=>by
  rw[Ln,Yd,Aaf (by rw[Ae];simp;omega),show i=k by omega];rfl
 |j+1,i,q+1,hi,hq=>by
  have hlt:i<l.length:=by omega
  have ih:=Aen f c w r n A hA hA2 k hk j (i+1) q (by omega) (by omega);have b1:=Fb h5 i;have b2:=Fb h5 (i+1);have e:=Fg hlt;rw[e,<-Bnu]at ih;rw[Ln,Yd,Aas (by rw[Ae];simp;omega),Bm hlt,Aa,Ah (by omega) (by omega),Ah (by omega) (by omega)];exact ih
theorem Ake(f c w r n A:Int)(hA:0<=A)(hA2:A<=200000)(k:Nat)(hk:k<=l.length):XN f c w r n A l (k:Int)=some (A+(l.take k).sum):=by
 have h:=Aen hl h5 hs f c w r n A hA hA2 k hk k 0 Au (by omega) (by have:=Aq;omega);rw[Bd5,Bmm,Int.add_zero]at h;exact h
end
theorem Ta{g n:Nat}(hg:1<=g)(hn:1<=n){x:Int}(h:x∈Aj g n):∃m:Nat,x=m/\1<=m/\m<=n:=by
 have hmul:=Bid (n-1) g;rw[Aj,List.mem_append]at h;rcases h with h|h
 ·rw[List.mem_replicate]at h;have h1:1<= (n-1)/g:=Nat.pos_of_ne_zero h.1;have:=Aeb g h1;exact⟨g,h.2,hg,by omega⟩
 ·rw[List.mem_singleton]at h;exact⟨_,h,by omega,by omega⟩
theorem Lw{f c w r n:Nat}(h:Ft f c w r n=true):(1<=c/\c<=6)/\Bk (w:Int)/\ (1<=r/\r<=1048576)/\1<=n/\ (f=1\/f=2):=by
 simp only[Ft,Acw]at h;refine⟨h.2.1,?_,h.2.2.2.1,h.2.2.2.2,h.1⟩;rcases h.2.2.1 with rfl|rfl|rfl
 ·exact .inl rfl
 ·exact .inr (.inl rfl)
 ·exact .inr (.inr rfl)
theorem Aw0{b p:List UInt8}{f c w r n A:Nat}{l:List Int}(o:Opn b p f c w r n A l)(k:Nat)(hk:k<l.length):
  ∃y:List UInt8×Int,EH (k:Int) (Aj (Ak r) n) (f:Int) (c:Int) (w:Int) (r:Int) (n:Int) (A:Int) b (Kf p) l (Ac2 l (l.length+1))=some y/\
   Mc b p (f:Int) (c:Int) (w:Int) (r:Int) (n:Int) (A:Int) l (k:Int)=some y:=by
 obtain⟨hc,hw,hr,hn,_⟩:=Lw o.shape;have hfit:n<=4000/c:=by have:=o.fit;simp only[Xw,Acw]at this;exact this.1
 have hn4:n<=4000:=by have:=Atx 4000 c;omega
 have hA:=o.at';have Ah8:=o.file;have hlen:=o.len;have b1:=Fb o.five k;have b2:=Fb o.five (k+1);have e:=Fg hk;have h5:=o.five l[k] (Ane _);have hsum:=o.sum;have hs1:=o.some1;have hkf:k<(Aj (Ak r) n).length:=by omega
 obtain⟨m,hm,m1,m2⟩:=Ta (Du r) hn (Ane hkf);have e1:Ad (k:Int) 1=((k+1:Nat):Int):=by rw[Ah (by omega) (by omega)];omega
 rw[EH,mK,Aaf (by rw[Al];simp),Aaf (by simp[Ae,Ds,Ac];omega),e1,Aeo l (by omega),Aeo l (by omega),Aa,Aa,Aa,Aa,mM,lW,Ah (a:=(A:Int)) (b:=(l.take (k+1)).sum) (by omega) (by omega),Ah (by omega) (by omega)];rw[Mc,CG,Ake hs1.2 o.five o.sum _ _ _ _ _ (A:Int) (by omega) (by omega) k (by omega),Aa,Bm hk,Aa,Bs (by rw[Ac];omega) (by rw[Ac];omega)];by_cases hto:(b.length:Int)<(A:Int)+(l.take (k+1)).sum
 ·rw[Aas (by rw[As,Ac,Acw];omega),Aas (by rw[Ae,Ac,Acw];omega)];exact⟨_,rfl,rfl⟩
 ·rw[Aaf (by rw[As,Ac,Acw];omega),Aaf (by rw[Ae,Ac,Acw];omega),LR p o.pass,XZ hr.2 hn hn4];simp only[Aa];rw[Ah (a:=(A:Int)+(l.take k).sum) (b:=l[k]) (by omega) (by omega),Bnu,<-e,Bm hkf,hm];simp only[Aa];rw[Uk (by omega) (by omega) (by omega),Aa,Aa];obtain⟨x,er,g1,g2,g3,_⟩:=Zs (ch:=c) (n:=m) (t:=Kf p) ((b.take ((A:Int)+(l.take (k+1)).sum).toNat).drop ((A:Int)+(l.take k).sum).toNat) hw (Kq p) hc.1 hc.2 m1 (by omega);rw[g1,g2,Aa,Aa];simp only;rw[mB,mG,CY,DA];by_cases her:er=0
  ·obtain⟨g4,g5,_⟩:=g3 her;rw[Aaf (by rw[Al];simpa using her),Aaf (by rw[Al];simpa using her),OD hw g5 g4,HB hw g5 g4,Aa,Aa];exact⟨_,rfl,rfl⟩
  ·rw[Aas (by rw[Al];simpa using her),Aas (by rw[Al];simpa using her)];exact⟨_,rfl,rfl⟩
theorem Ap1{b p:List UInt8}{f c w r n A:Nat}{l:List Int}(o:Opn b p f c w r n A l)(k:Int):WJ b p k=EH k (Aj (Ak r) n) (f:Int) (c:Int) (w:Int) (r:Int) (n:Int) (A:Int) b (Kf p) l (Ac2 l (l.length+1)):=by
 have hs1:=o.some1;rw[WJ,mI,o.prog,Aa];simp only;rw[Aaf (by rw[Al];simp),TJ o.shape o.fit,Aa];simp only;rw[Aaf (by rw[Al];simp),Bfj hs1.2 o.five o.sum hs1.1,Aa];simp only;rw[Aaf (by rw[Al];simp),XH p o.pass,Aa];simp only;rw[Aaf (by rw[Al];simp),Ac,<-o.len,Aeo l (by omega),Aa,Aa]
theorem Bic(n m:Nat):Rg n m 0≠Rg n m 2147483648:=by
 intro h;simp[Rg,Sm,APE]at h
def De(b:List UInt8):List UInt8:=b.drop (b.length-32)
theorem Aq5{b:List UInt8}(h:32<=b.length):(De b).length=32:=by rw[De,Aky];omega
def MZ(t:List UInt8):Nat:=Gb (part t 12 4)-32
def mnA(t:List UInt8):Nat:=Gb (part t 16 4)
def Zt(b:List UInt8):Int×Int:=
 if ¬(32<=b.length/\ (De b).take 8=APE)then(0,6)else if HP (De b)=true then(0,12)else
 if De b=Rg (MZ (De b)) (mnA (De b)) 0 then(if b.length<MZ (De b)+32 then(0,24)else(((MZ (De b)+32:Nat):Int),0))else
 if De b≠Rg (MZ (De b)) (mnA (De b)) 2147483648 then(0,12)else
 if b.length<MZ (De b)+64 then(0,24)else
 if(b.take (b.length-(MZ (De b)+64)+32)).drop (b.length-(MZ (De b)+64))≠Rg (MZ (De b)) (mnA (De b)) 2684354560 then(0,12)else(((MZ (De b)+64:Nat):Int),0)
section
variable {b:List UInt8}
theorem ba1(h:¬(32<=b.length/\ (De b).take 8=APE)):Zt b=(0,6):=by rw[Zt,Aas h]
variable (h:32<=b.length/\ (De b).take 8=APE)
include h
theorem ba2(h2:HP (De b)=true):Zt b=(0,12):=by rw[Zt,Aaf (λh'=>h' h),Aas h2]
variable (h2:HP (De b)=false)
include h2
theorem ba3(h3:De b=Rg (MZ (De b)) (mnA (De b)) 0):Zt b=if b.length<MZ (De b)+32 then(0,24)else(((MZ (De b)+32:Nat):Int),0):=by
 rw[Zt,Aaf (λh'=>h' h),Aaf (by rw[h2];simp),Aas h3]
variable (h3:De b≠Rg (MZ (De b)) (mnA (De b)) 0)
include h3
theorem ba4(h4:De b≠Rg (MZ (De b)) (mnA (De b)) 2147483648):Zt b=(0,12):=by
 rw[Zt,Aaf (λh'=>h' h),Aaf (by rw[h2];simp),Aaf h3,Aas h4]
variable (h4:De b=Rg (MZ (De b)) (mnA (De b)) 2147483648)
include h4
theorem ba5(h5:b.length<MZ (De b)+64):Zt b=(0,24):=by
 rw[Zt,Aaf (λh'=>h' h),Aaf (by rw[h2];simp),Aaf h3,Aaf (λe=>e h4),Aas h5]
theorem ba6(h5:¬b.length<MZ (De b)+64):Zt b=if(b.take (b.length-(MZ (De b)+64)+32)).drop (b.length-(MZ (De b)+64))≠Rg (MZ (De b)) (mnA (De b)) 2684354560 then(0,12)else(((MZ (De b)+64:Nat):Int),0):=by
 rw[Zt,Aaf (λh'=>h' h),Aaf (by rw[h2];simp),Aaf h3,Aaf (λe=>e h4),Aaf h5]
end
theorem Apt{b:List UInt8}{n:Int}(h:Zt b=(n,0)):32<=n/\n<=b.length:=by
 unfold Zt at h;split at h; · simp at h
 rename_i h32;split at h; · simp at h
 split at h
 ·split at h; · simp at h
  simp only[Aie,Boj]at h;omega
 split at h; · simp at h
 split at h; · simp at h
 split at h; · simp at h
 simp only[Aie,Boj]at h;omega
theorem Av8{b:List UInt8}(h:(Zt b).2≠0):(Zt b).1=0:=by
 revert h
 unfold Zt;split; · simp
 split; · simp
 split
 ·split<;>simp
 split; · simp
 split; · simp
 split<;>simp
theorem Azz{b:List UInt8}(h:32<=b.length)(hl:b.length<4611686018427387904):Ao (Ac b) 32=((b.length-32:Nat):Int)/\Bi b ((b.length-32:Nat):Int) (Ac b)=some (De b):=by
 refine⟨by rw[Ac,Bs (by omega) (by omega)];omega,?_⟩;rw[Bt (by omega) (by omega)];rfl
theorem Av7(b:List UInt8)(hl:b.length<4611686018427387904):zB b=some (Zt b):=by
 rw[zB,pL];by_cases h32:32<=b.length
 ·obtain⟨e1,e2⟩:=Azz h32 hl;have hl3:=Aq5 h32;rw[Aaf (by rw[e1,Ae];simp),e1,e2,Aa,jO,Aa];by_cases hp:(De b).take 8=APE
  ·have h:=And.intro h32 hp;rw[Aaf (by simpa [APE,hl3]using hp),rM,Acn,e1,e2,Aa,jK _ 0 (by omega) (by omega) (by decide),Aa];cases hb:HP (De b)with
   |true=>
    rw[ba2 h hb];simp only[Bon,Av0,Bmc];rw[Aa,jK _ 2147483648 (by omega) (by omega) (by decide),Aa,hb];rfl
   |false=>
    obtain⟨i1,i2,i3,i4⟩:=Aa7 (De b) (by omega) hb;have eI:Gb (part (De b) 12 4)-32=MZ (De b):=rfl;have eM:Gb (part (De b) 16 4)=mnA (De b):=rfl;simp only[Av0,Bmc];rw[eI]at i3;rw[eM]at i4;rw[eI,eM];by_cases c1:De b=Rg (MZ (De b)) (mnA (De b)) 0
    ·have c1':De b=Rg (MZ (De b)) (mnA (De b)) (0:UInt64).toNat:=c1;rw[Aas (by simpa using c1'),ba3 h hb c1];by_cases c2:b.length<MZ (De b)+32
     ·rw[Aas (by rw[Ae];simp;omega),Aas c2]
     ·rw[Aaf (by rw[Ae];simp;omega),Aaf c2,Ah (by omega) (by omega)];rfl
    ·have c1':¬De b=Rg (MZ (De b)) (mnA (De b)) (0:UInt64).toNat:=c1;rw[Aaf (by simpa using c1'),Aa,jK _ 2147483648 (by omega) (by omega) (by decide),Aa,hb];simp only[Av0,Bmc];rw[eI,eM];by_cases c2:De b=Rg (MZ (De b)) (mnA (De b)) 2147483648
     ·have c2':De b=Rg (MZ (De b)) (mnA (De b)) (2147483648:UInt64).toNat:=c2;rw[Aaf (by simpa using c2'),Ah (by omega) (by omega)];by_cases c3:b.length<MZ (De b)+64
      ·rw[Aas (by rw[Ae,Ac];simp;omega),ba5 h hb c1 c2 c3]
      ·rw[Aaf (by rw[Ae,Ac];simp;omega),Ac,Bs (by omega) (by omega),Ah (by omega) (by omega),Uk (by omega) (by omega) (by omega),Aa,Agc _ _ _ i3 i4 (by decide),Aa,If,Aa,ba6 h hb c1 c2 c3];rw[show((b.length:Int)-(((MZ (De b):Nat):Int)+64)).toNat=b.length-(MZ (De b)+64) by omega,show((b.length:Int)-(((MZ (De b):Nat):Int)+64)+32).toNat=b.length-(MZ (De b)+64)+32 by omega];have e7:(2684354560:UInt64).toNat=2684354560:=rfl;rw[e7];by_cases c4:(b.take (b.length-(MZ (De b)+64)+32)).drop (b.length-(MZ (De b)+64))=Rg (MZ (De b)) (mnA (De b)) 2684354560
       ·rw[Aaf (by simpa using c4),Aaf (λe=>e c4)];rfl
       ·rw[Aas (by simpa using c4),Aas c4]
     ·have c2':¬De b=Rg (MZ (De b)) (mnA (De b)) (2147483648:UInt64).toNat:=c2;rw[Aas (by simpa using c2'),ba4 h hb c1 c2]
  ·rw[Aas (by rw[Ayy,Bdm];intro h;exact hp h.2),ba1 (λh=>hp h.2)]
 ·rw[Aas (by rw[Ac,Bs (by omega) (by omega),Ae];simp;omega),ba1 (λh=>h32 h.1)]
theorem Bgl{b:List UInt8}(h:32<=b.length):(b.take (b.length-32+8)).drop (b.length-32)=(De b).take 8:=by
 rw[De,List.take_drop]
theorem Bac(b:List UInt8)(hl:b.length<4611686018427387904):JZ b=some (Zt b):=by
 rw[JZ,TH];by_cases h32:32<=b.length
 ·obtain⟨e1,e2⟩:=Azz h32 hl;have hl3:=Aq5 h32;rw[Aaf (by rw[Ae,Ac];simp;omega),e1,Ah (by omega) (by omega),Uk (by omega) (by omega) (by omega),Aa,show((b.length-32:Nat):Int).toNat=b.length-32 from rfl,show(((b.length-32:Nat):Int)+8).toNat=b.length-32+8 by omega,Bgl h32];by_cases hp:(De b).take 8=APE
  ·have h:=And.intro h32 hp;rw[Aaf (by simpa [APE]using hp),SI,SP,e1,e2,Aa,Aqx _ (by omega) (by omega),Aa];cases hb:HP (De b)with
   |true=>rw[ba2 h hb];rfl
   |false=>
    obtain⟨i1,i2,i3,i4⟩:=Aa7 (De b) (by omega) hb;have eI:Gb (part (De b) 12 4)-32=MZ (De b):=rfl;have eM:Gb (part (De b) 16 4)=mnA (De b):=rfl;simp only[Av0,Bmc,Bnt];rw[eI]at i3;rw[eM]at i4;rw[eI,eM,Nj,Aas rfl,zJ _ _ _ i3 i4 (by decide),Aa,Aa];have e7:(2147483648:UInt64).toNat=2147483648:=rfl;have e8:(2684354560:UInt64).toNat=2684354560:=rfl;rw[e7];by_cases c2:De b=Rg (MZ (De b)) (mnA (De b)) 2147483648
    ·have c1:De b≠Rg (MZ (De b)) (mnA (De b)) 0:=λe=>Bic (MZ (De b)) (mnA (De b)) (e.symm.trans c2);rw[Aaf (by simpa using c2),AM,Zz,Aas (by simpa using c2),AL,Zm,Ah (a:=32) (by omega) (by omega),Ah (by omega) (by omega)];by_cases c3:b.length<MZ (De b)+64
     ·rw[Aas (by rw[Ae,Ac];simp;omega),ba5 h hb c1 c2 c3]
     ·rw[Aaf (by rw[Ae,Ac];simp;omega),Aas (by simpa using c2),Ac,Bs (by omega) (by omega),Ah (by omega) (by omega),Uk (by omega) (by omega) (by omega),Aa,Yl,zJ _ _ _ i3 i4 (by decide),Aa,Aa,ba6 h hb c1 c2 c3,e8];rw[show((b.length:Int)-(32+((MZ (De b):Nat):Int)+32)).toNat=b.length-(MZ (De b)+64) by omega,show((b.length:Int)-(32+((MZ (De b):Nat):Int)+32)+32).toNat=b.length-(MZ (De b)+64)+32 by omega];by_cases c4:(b.take (b.length-(MZ (De b)+64)+32)).drop (b.length-(MZ (De b)+64))=Rg (MZ (De b)) (mnA (De b)) 2684354560
      ·rw[Aaf (by simpa using c4),Aaf (λe=>e c4),show(32+((MZ (De b):Nat):Int)+32)=((MZ (De b)+64:Nat):Int) by omega]
      ·rw[Aas (by simpa using c4),Aas c4]
    ·rw[Aas (by simpa using c2),Nj,Aaf (by simp),zJ _ _ _ i3 i4 (by decide),Aa,Aa];have e9:(0:UInt64).toNat=0:=rfl;rw[e9];by_cases c1:De b=Rg (MZ (De b)) (mnA (De b)) 0
     ·rw[Aaf (by simpa using c1),AM,Zz,Aaf (by simpa using c2),AL,Zm,Ah (by omega) (by omega),ba3 h hb c1,Aaf (c:=(De b==Rg (MZ (De b)) (mnA (De b)) 2147483648)=true) (by simpa using c2)];by_cases c3:b.length<MZ (De b)+32
      ·rw[Aas (by rw[Ae,Ac];simp;omega),Aas c3]
      ·rw[Aaf (by rw[Ae,Ac];simp;omega),Aaf c3,show(32+((MZ (De b):Nat):Int))=((MZ (De b)+32:Nat):Int) by omega]
     ·rw[Aas (by simpa using c1),ba4 h hb c1 c2]
  ·rw[Aas (by simpa [APE]using hp),ba1 (λh=>hp h.2)]
 ·rw[Aas (by rw[Ae,Ac];simp;omega),ba1 (λh=>h32 h.1)]
def Amc:Nat->List UInt8->Nat->Int×Int
 |0,_,_=>(0,38)
 |j+1,b,a=>if b=[]then((a:Int),0)else if(Zt b).2≠0 then(0,38)else Amc j (b.take (b.length-(Zt b).1.toNat)) (a+1)
theorem Aq0:∀(j q a:Nat) (b:List UInt8),b.length<j->j<=q->b.length<=4000->a+b.length<=4000->Wx q (a:Int) b=some (Amc j b a)
 |0,_,_,_,h,_,_,_=>by omega
 |j+1,q+1,a,b,h,hq,h4,ha=>by
  rw[Wx,UR,Amc];by_cases hb:b=[]
  ·subst hb;rw[Aaf (by decide),Aas rfl];rfl
  ·have hpos:0<b.length:=List.length_pos_iff.2 hb;rw[Aas (by rw[As,Ac];simp;omega),Aaf hb,Av7 b (by omega),Aa];have hbad:=Av8 (b:=b);have hok:=λn=>Apt (b:=b) (n:=n);generalize Zt b=v at*
   obtain⟨n,e⟩:=v;simp only at hbad⊢;rw[OK,PF];by_cases he:e≠0
   ·rw[Aas he,hbad he,Aas (by decide)]
   ·obtain⟨k1,k2⟩:=hok n (by rw[show e=0 by simpa using he]);rw[Aaf he,Aaf (by rw[Ar];simp;omega),Ac,Bs (by omega) (by omega),Dd (by omega) (by omega),Aa,PM,fB,Ah (by omega) (by omega)];rw[show((b.length:Int)-n).toNat=b.length-n.toNat by omega];have ih:=Aq0 j q (a+1) (b.take (b.length-n.toNat)) (by rw[Ah9];omega) (by omega) (by rw[Ah9];omega) (by rw[Ah9];omega);rw[<-ih];rfl
theorem Auy:∀(j q a:Nat) (b:List UInt8),b.length<j->j<=q->b.length<=4000->a+b.length<=4000->Ot q b (a:Int)=some (Amc j b a)
 |0,_,_,_,h,_,_,_=>by omega
 |j+1,q+1,a,b,h,hq,h4,ha=>by
  rw[Ot,IY,Amc];by_cases hb:b=[]
  ·subst hb;rw[Aaf (by decide),Aas rfl];rfl
  ·have hpos:0<b.length:=List.length_pos_iff.2 hb;rw[Aas (by rw[As,Ac];simp;omega),Aaf hb,Bac b (by omega),Aa];have hok:=λn=>Apt (b:=b) (n:=n);generalize Zt b=v at*
   obtain⟨n,e⟩:=v;simp only;by_cases he:e≠0
   ·rw[Aas he,Aas (by rw[Al];simpa using he)]
   ·obtain⟨k1,k2⟩:=hok n (by rw[show e=0 by simpa using he]);rw[Aaf he,Aaf (by rw[Al];simpa using he),Ac,Bs (by omega) (by omega),Dd (by omega) (by omega),Aa,Ah (by omega) (by omega)];rw[show((b.length:Int)-n).toNat=b.length-n.toNat by omega];have ih:=Auy j q (a+1) (b.take (b.length-n.toNat)) (by rw[Ah9];omega) (by omega) (by rw[Ah9];omega) (by rw[Ah9];omega);rw[<-ih];rfl
def Qz(b:List UInt8):Int×Int:=if 4000<b.length then(0,38)else Amc (b.length+1) b 0
theorem Abo(b:List UInt8)(hl:b.length<4611686018427387904):KZ b=some (Qz b):=by
 rw[KZ,TW,Qz];by_cases h:4000<b.length
 ·rw[Aas (by rw[As,Ac];simp;omega),Aas h]
 ·rw[Aaf (by rw[As,Ac];simp;omega),Aaf h];exact Aq0 _ Au 0 b (by omega) (by have:=Aq;omega) (by omega) (by omega)
theorem wK(b:List UInt8)(hl:b.length<4611686018427387904):Tt b=some (Qz b):=by
 rw[Tt,JM,Qz];by_cases h:4000<b.length
 ·rw[Aas (by rw[As,Ac];simp;omega),Aas h]
 ·rw[Aaf (by rw[As,Ac];simp;omega),Aaf h];exact Auy _ Au 0 b (by omega) (by have:=Aq;omega) (by omega) (by omega)
theorem ZN{a b:Nat}(h:a<9223372036854775808):Ca (a:Int) (b:Int)=((a/b:Nat):Int):=by
 have:a/b<=a:=Atx _ _;rw[UU,Bik (by omega),<-Int.natCast_ediv];generalize a/b=k at*
 exact Dg (by omega) (by omega)
theorem zQ{bits:Int}(h:Bk bits)(x:Int):(FZ bits x).length=wB bits:=by
 obtain rfl|rfl|rfl:=h<;>rfl
theorem HD{bits:Int}(h:Bk bits):∀l:List Int32,(Cv bits l).length=l.length*wB bits
 |[]=>by simp[Cv]
 |x::l=>by
  have h1:=HD h l;have h2:=zQ h x.toInt;simp only[Cv,Boh,Abt,Anf,Bnf]at*
  omega
def tM(b:List UInt8)(A:Nat)(l:List Int)(k:Nat):List UInt8:=(b.take ((A:Int)+(l.take (k+1)).sum).toNat).drop ((A:Int)+(l.take k).sum).toNat
structure Gts (b p:List UInt8) (f c w r n A:Nat) (l:List Int) (k m:Nat) (x:List Int32) (s:List UInt8) (e:Int):Prop where
 mom:Ap (Aj (Ak r) n) (k:Int)=some (m:Int)
 pos:1<=m/\m*c<=4000
 got:Mc b p (f:Int) (c:Int) (w:Int) (r:Int) (n:Int) (A:Int) l (k:Int)=some (s,e)
 none':e≠0->s=[]/\x=[]
 some':e=0->s=Cv (w:Int) x/\x.length=m*c/\Bq (w:Int) x=some 0/\Lf (w:Int) x=some (s,0)/\ (A:Int)+(l.take (k+1)).sum<=b.length
 way:((b.length:Int)<(A:Int)+(l.take (k+1)).sum/\e=24)\/ ((A:Int)+(l.take (k+1)).sum<=b.length/\Iq (c:Int) (w:Int) (Kf p) (m:Int) (tM b A l k)=some (x,e)/\Dh (c:Int) (w:Int) (Kf p) (m:Int) (tM b A l k)=some (x,e))
theorem Rp{b p:List UInt8}{f c w r n A:Nat}{l:List Int}(o:Opn b p f c w r n A l)(k:Nat)(hk:k<l.length):∃m x s e,Gts b p f c w r n A l k m x s e:=by
 obtain⟨hc,hw,hr,hn,_⟩:=Lw o.shape;have hfit:n<=4000/c:=by have:=o.fit;simp only[Xw,Acw]at this;exact this.1
 have hn4:n<=4000:=by have:=Atx 4000 c;omega
 have hA:=o.at';have Ah8:=o.file;have hlen:=o.len;have b1:=Fb o.five k;have b2:=Fb o.five (k+1);have e:=Fg hk;have h5:=o.five l[k] (Ane _);have hsum:=o.sum;have hs1:=o.some1;have hkf:k<(Aj (Ak r) n).length:=by omega
 obtain⟨m,hm,m1,m2⟩:=Ta (Du r) hn (Ane hkf);have Bgs:Ap (Aj (Ak r) n) (k:Int)=some (m:Int):=by rw[Bm hkf,hm]
 have hpos:1<=m/\m*c<=4000:=by
  refine⟨m1,?_⟩;have:=Aeb c (Nat.le_trans m2 hfit);have:=Bid 4000 c;omega
 have hR:Mc b p (f:Int) (c:Int) (w:Int) (r:Int) (n:Int) (A:Int) l (k:Int)=Mc b p (f:Int) (c:Int) (w:Int) (r:Int) (n:Int) (A:Int) l (k:Int):=rfl
 conv at hR=>rhs;rw[Mc,CG,Ake hs1.2 o.five o.sum _ _ _ _ _ (A:Int) (by omega) (by omega) k (by omega),Aa,Bm hk,Aa,Bs (by rw[Ac];omega) (by rw[Ac];omega)]
 by_cases hto:(b.length:Int)<(A:Int)+(l.take (k+1)).sum
 ·rw[Aas (by rw[Ae,Ac,Acw];omega)]at hR;exact⟨m,[],[],24,Bgs,hpos,hR,λ_=>⟨rfl,rfl⟩,λh=>by simp at h, .inl ⟨hto,rfl⟩⟩
 ·rw[Aaf (by rw[Ae,Ac,Acw];omega),LR p o.pass,XZ hr.2 hn hn4]at hR;simp only[Aa]at hR;rw[Ah (a:=(A:Int)+(l.take k).sum) (b:=l[k]) (by omega) (by omega),Bnu,<-e,Bgs]at hR;simp only[Aa]at hR;rw[Uk (by omega) (by omega) (by omega),Aa]at hR;obtain⟨x,er,g1,g2,g3,g4⟩:=Zs (ch:=c) (n:=m) (t:=Kf p) (tM b A l k) hw (Kq p) hc.1 hc.2 m1 (by omega);rw[show(b.take ((A:Int)+(l.take (k+1)).sum).toNat).drop ((A:Int)+(l.take k).sum).toNat=tM b A l k from rfl,g2,Aa]at hR;simp only at hR;rw[CY,DA]at hR;by_cases her:er=0
  ·obtain⟨g5,g6,g7⟩:=g3 her;rw[Aaf (by rw[Al];simpa using her),HB hw g6 g5,Aa]at hR;subst her;exact⟨m,x,_,0,Bgs,hpos,hR,λh=>absurd rfl h,λ_=>⟨rfl,g7,g5,OD hw g6 g5,by omega⟩, .inr ⟨by omega,g1,g2⟩⟩
  ·rw[Aas (by rw[Al];simpa using her)]at hR;exact⟨m,x,_,er,Bgs,hpos,hR,λh=>⟨rfl,g4 h⟩,λh=>absurd h her, .inr ⟨by omega,g1,g2⟩⟩
theorem Gts.lens{b p:List UInt8}{f c w r n A:Nat}{l:List Int}{k m:Nat}{x:List Int32}{s:List UInt8}{e:Int}(hw:Bk (w:Int))(g:Gts b p f c w r n A l k m x s e):s.length<=12000/\x.length<=4000/\ (e=0->s.length=m*c*wB (w:Int)):=by
 by_cases he:e=0
 ·obtain⟨h1,h2,_⟩:=g.some' he;have h3:=PK (w:Int) x;have h4:=HD hw x;have h5:=g.pos;rw[<-h1]at h3 h4;refine⟨by omega,by omega,λ_=>by rw[h4,h2]⟩
 ·obtain⟨h1,h2⟩:=g.none' he;exact⟨by simp[h1],by simp[h2],λh=>absurd h he⟩
def mV(G:Nat->List UInt8×Int)(be:Int):Nat->Nat->List UInt8->List UInt8×Int
 |0,_,acc=>if be≠0 then([],38)else(acc,0)
 |j+1,k,acc=>if(G k).2≠0 then([],(G k).2)else mV G be j (k+1) (acc++(G k).1)
def Ii(b p:List UInt8)(f c w r n A:Nat)(l:List Int)(k:Nat):List UInt8×Int:=(Mc b p (f:Int) (c:Int) (w:Int) (r:Int) (n:Int) (A:Int) l (k:Int)).getD ([],0)
theorem Gts.eq{b p:List UInt8}{f c w r n A:Nat}{l:List Int}{k m:Nat}{x:List Int32}{s:List UInt8}{e:Int}(g:Gts b p f c w r n A l k m x s e):Ii b p f c w r n A l k=(s,e):=by rw[Ii,g.got];rfl
def eJ(b:List UInt8)(A:Nat)(l:List Int):Int:=(Qz (b.drop ((A:Int)+l.sum).toNat)).2
def Sn(b:List UInt8)(k:Nat):Nat:=(b.getD k 0).toNat
theorem lZ(b:List UInt8)(k:Nat):Sn b k<256:=(b.getD k 0).toNat_lt
def sx(n:Nat)(b:List UInt8)(a:Nat):Int:=
 if n=1 then(Sn b a:Int)-128 else
 if n=2 then(if Sn b a+256*Sn b (a+1)<32768 then(Sn b a+256*Sn b (a+1):Nat)else((Sn b a+256*Sn b (a+1):Nat):Int)-65536)else
 (if Sn b a+256*Sn b (a+1)+65536*Sn b (a+2)<8388608 then(Sn b a+256*Sn b (a+1)+65536*Sn b (a+2):Nat)else((Sn b a+256*Sn b (a+1)+65536*Sn b (a+2):Nat):Int)-16777216)
def mE(n m:Nat)(b:List UInt8):List Int32:=(List.range m).map λx=>Int32.ofInt (sx n b (x*n))
theorem yW(n m:Nat)(b:List UInt8):(mE n m b).length=m:=by simp[mE]
theorem Apm(n m:Nat)(b:List UInt8):mE n (m+1) b=mE n m b++[Int32.ofInt (sx n b (m*n))]:=by simp[mE,Boe]
theorem iV{n:Int}(h: -2147483648<=n)(h':n<2147483648):(Int32.ofInt n).toInt=n:=by
 rw[Bly,Int.bmod_def,show((Int32.size:Nat):Int)=4294967296 from rfl];split<;>omega
theorem sS{b:List UInt8}{k:Nat}(h:k<b.length):Ap b (k:Int)=some (b.getD k 0):=by
 rw[Bm h];simp[List.getD_eq_getElem?_getD,h]
theorem XL(c:UInt8):(Af c:Int32)=Int32.ofInt (c.toNat:Int):=rfl
theorem Aaq{v:Nat}(k:Nat)(hk:k<=32)(h:v<2147483648):Dp (Int32.ofInt (v:Int)) k=Int32.ofInt ((v*2^k:Nat):Int):=by
 have e:Dp (Int32.ofInt (v:Int)) k=Int32.ofInt ((Int32.ofInt (v:Int)).toInt*2^min k 32):=rfl;rw[e,iV (by omega) (by omega),Bfs hk];simp
theorem Bga{v w i:Nat}(hv:v<2^i)(hw:w*2^i<2147483648)(hi:i<=31):vM (Int32.ofInt (v:Int)) (Int32.ofInt ((w*2^i:Nat):Int))=Int32.ofInt ((v+w*2^i:Nat):Int):=by
 have hv2:v<2147483648:=Arb hv (show 2^i<=2^31 from Ak6 (by omega) hi);have e:vM (Int32.ofInt (v:Int)) (Int32.ofInt ((w*2^i:Nat):Int))=Int32.ofInt ((BitVec.ofInt 32 (Int32.ofInt (v:Int)).toInt|||BitVec.ofInt 32 (Int32.ofInt ((w*2^i:Nat):Int)).toInt).toNat:Int):=rfl;rw[e,iV (by omega) (by omega),iV (by omega) (by omega),BitVec.toNat_or,Bj4,Bj4];have a1:((v:Int) %((2^32:Nat):Int)).toNat=v:=by omega
 have a2:(((w*2^i:Nat):Int) %((2^32:Nat):Int)).toNat=w*2^i:=by omega
 rw[a1,a2,Nat.or_comm,Asu w,<-Bg2 hv,Bmz]
theorem Ai7(w:Nat)(h:w<2147483648):vM (0:Int32) (Int32.ofInt (w:Int))=Int32.ofInt (w:Int):=by
 have:=Bga (v:=0) (w:=w) (i:=0) (by simp) (by simpa using h) (by omega);simpa using this
theorem carry{v k:Nat}(hk:k<=31)(h:v*2^k<4294967296)(hv:v<2147483648):Ck (Dp (Int32.ofInt (v:Int)) k) k=Int32.ofInt ((if v*2^k<2147483648 then((v*2^k:Nat):Int)else((v*2^k:Nat):Int)-4294967296).fdiv (2^k)):=by
 rw[Aaq k (by omega) hv];have e:∀x:Int32,Ck x k=Int32.ofInt (x.toInt.fdiv (2^min k 32)):=λ_=>rfl;have hX:(Int32.ofInt ((v*2^k:Nat):Int)).toInt=if v*2^k<2147483648 then((v*2^k:Nat):Int)else((v*2^k:Nat):Int)-4294967296:=by
  rw[Bly,Int.bmod_def,show((Int32.size:Nat):Int)=4294967296 from rfl];generalize v*2^k=X at*
  split<;>split<;>omega
 rw[e,Bfs (by omega),hX]
theorem sx2(b:List UInt8)(a:Nat):sx 2 b a=if Sn b a+256*Sn b (a+1)<32768 then((Sn b a+256*Sn b (a+1):Nat):Int)else((Sn b a+256*Sn b (a+1):Nat):Int)-65536:=rfl
theorem sx3(b:List UInt8)(a:Nat):sx 3 b a=if Sn b a+256*Sn b (a+1)+65536*Sn b (a+2)<8388608 then((Sn b a+256*Sn b (a+1)+65536*Sn b (a+2):Nat):Int)else((Sn b a+256*Sn b (a+1)+65536*Sn b (a+2):Nat):Int)-16777216:=rfl
variable (b:List UInt8)
theorem Blc(bk:Int->List Int32->Option (List Int32×Int))(a:Nat)(acc:List Int32)(h:a+1<=b.length)(hl:b.length<=100000)(ha:acc.length<=100000)(j25:Int->List Int32->Int32->Int->Option (List Int32×Int))(j30:List Int32->Option (List Int32×Int)):
  Gs (Kn bk 8 b) j25 j30 8 b (a:Int) acc=bk ((a+1:Nat):Int) (acc++[Int32.ofInt (sx 1 b a)]):=by
 have hb:=lZ b a;have e:Ao (Af (b.getD a 0):Int32) (128:Int32)=Int32.ofInt (sx 1 b a):=by
  have e1:Ao (Af (b.getD a 0):Int32) (128:Int32)=Int32.ofInt ((Int32.ofInt ((b.getD a 0).toNat:Int)).toInt-(128:Int32).toInt):=rfl;rw[e1,iV (by omega) (by have:=(b.getD a 0).toNat_lt;omega)];rfl
 have q8:Ca (8:Int) 8=1:=by decide
 rw[Gs,Aas (by rw[Ae,Ac];simp;omega),Aas (by rw[Ar];rfl),sS (by omega),Aa,e,Bd (by simp;omega),Aa,Kn,Yq,q8,Ah (by omega) (by omega)];rfl
theorem Biz(bk:Int->List Int32->Option (List Int32×Int))(a:Nat)(acc:List Int32)(h:a+2<=b.length)(hl:b.length<=100000)(ha:acc.length<=100000)(j28:Int->List Int32->Option (List Int32×Int))(j30:List Int32->Option (List Int32×Int)):
  Gs j28 (Nm bk 16 b) j30 16 b (a:Int) acc=bk ((a+2:Nat):Int) (acc++[Int32.ofInt (sx 2 b a)]):=by
 have h0:=lZ b a;have h1:=lZ b (a+1);have q:Ca (16:Int) 8=2:=by decide
 have hF:Au=(Au-3)+1+1+1:=by have:=Aq;omega
 have z0:(GI.toZ (Bg (8:Int) 0)).toNat=0:=by decide
 have z1:(GI.toZ (Bg (8:Int) 1)).toNat=8:=by decide
 have z16:(GI.toZ (Ao (32:Int) 16)).toNat=16:=by decide
 have s0:Dp (Int32.ofInt (Sn b a:Int)) 0=Int32.ofInt (Sn b a:Int):=by have:=Aaq (v:=Sn b a) 0 (by omega) (by omega);simpa using this
 have s1:Dp (Int32.ofInt (Sn b (a+1):Int)) 8=Int32.ofInt ((Sn b (a+1)*2^8:Nat):Int):=Aaq 8 (by omega) (by omega);have o1:=Bga (v:=Sn b a) (w:=Sn b (a+1)) (i:=8) (by simpa using h0) (by omega) (by omega);have c:=carry (v:=Sn b a+Sn b (a+1)*2^8) (k:=16) (by omega) (by omega) (by omega);rw[Gs,Aas (by rw[Ae,Ac];simp;omega),Aaf (by rw[Ar];decide),Nm,hF,Fi,Gp,q,Aas (by decide),show Ad (a:Int) 0=((a:Nat):Int) by rw[Ah (by omega) (by omega)];omega,sS (by omega),Aa,Bu (by decide),Aa,z0,
  XL,show((b.getD a 0).toNat:Int)=(Sn b a:Int)from rfl,s0,Ai7 _ (by omega),show Ad (0:Int) 1=1 by decide,
  Fi,Gp,q,Aas (by decide),show Ad (a:Int) 1=((a+1:Nat):Int) by rw[Ah (by omega) (by omega)];omega,sS (by omega),Aa,Bu (by decide),Aa,z1,
  XL,show((b.getD (a+1) 0).toNat:Int)=(Sn b (a+1):Int)from rfl,s1,o1,show Ad (1:Int) 1=2 by decide,
  Fi,Gp,q,Aaf (by decide),Ym,Yu,Bu (by decide),Aa,Aa,z16,c,Bd (by simp;omega),Aa,Kn,Yq,q,Ah (by omega) (by omega)]
 have e:((if(Sn b a+Sn b (a+1)*2^8)*2^16<2147483648 then(((Sn b a+Sn b (a+1)*2^8)*2^16:Nat):Int)else(((Sn b a+Sn b (a+1)*2^8)*2^16:Nat):Int)-4294967296).fdiv (2^16))=sx 2 b a:=by
  rw[Atp _ (by omega),sx2];split<;>split<;>omega
 rw[e];rfl
theorem Big(bk:Int->List Int32->Option (List Int32×Int))(a:Nat)(acc:List Int32)(h:a+3<=b.length)(hl:b.length<=100000)(ha:acc.length<=100000)(j28:Int->List Int32->Option (List Int32×Int))(j30:List Int32->Option (List Int32×Int)):
  Gs j28 (Nm bk 24 b) j30 24 b (a:Int) acc=bk ((a+3:Nat):Int) (acc++[Int32.ofInt (sx 3 b a)]):=by
 have h0:=lZ b a;have h1:=lZ b (a+1);have h2:=lZ b (a+2);have q:Ca (24:Int) 8=3:=by decide
 have hF:Au=(Au-4)+1+1+1+1:=by have:=Aq;omega
 have z0:(GI.toZ (Bg (8:Int) 0)).toNat=0:=by decide
 have z1:(GI.toZ (Bg (8:Int) 1)).toNat=8:=by decide
 have z2:(GI.toZ (Bg (8:Int) 2)).toNat=16:=by decide
 have z8:(GI.toZ (Ao (32:Int) 24)).toNat=8:=by decide
 have s0:Dp (Int32.ofInt (Sn b a:Int)) 0=Int32.ofInt (Sn b a:Int):=by have:=Aaq (v:=Sn b a) 0 (by omega) (by omega);simpa using this
 have s1:Dp (Int32.ofInt (Sn b (a+1):Int)) 8=Int32.ofInt ((Sn b (a+1)*2^8:Nat):Int):=Aaq 8 (by omega) (by omega);have s2:Dp (Int32.ofInt (Sn b (a+2):Int)) 16=Int32.ofInt ((Sn b (a+2)*2^16:Nat):Int):=Aaq 16 (by omega) (by omega);have o1:=Bga (v:=Sn b a) (w:=Sn b (a+1)) (i:=8) (by simpa using h0) (by omega) (by omega);have o2:=Bga (v:=Sn b a+Sn b (a+1)*2^8) (w:=Sn b (a+2)) (i:=16) (by omega) (by omega) (by omega);have c:=carry (v:=Sn b a+Sn b (a+1)*2^8+Sn b (a+2)*2^16) (k:=8) (by omega) (by omega) (by omega);rw[Gs,Aas (by rw[Ae,Ac];simp;omega),Aaf (by rw[Ar];decide),Nm,hF,Fi,Gp,q,Aas (by decide),show Ad (a:Int) 0=((a:Nat):Int) by rw[Ah (by omega) (by omega)];omega,sS (by omega),Aa,Bu (by decide),Aa,z0,
  XL,show((b.getD a 0).toNat:Int)=(Sn b a:Int)from rfl,s0,Ai7 _ (by omega),show Ad (0:Int) 1=1 by decide,
  Fi,Gp,q,Aas (by decide),show Ad (a:Int) 1=((a+1:Nat):Int) by rw[Ah (by omega) (by omega)];omega,sS (by omega),Aa,Bu (by decide),Aa,z1,
  XL,show((b.getD (a+1) 0).toNat:Int)=(Sn b (a+1):Int)from rfl,s1,o1,show Ad (1:Int) 1=2 by decide,
  Fi,Gp,q,Aas (by decide),show Ad (a:Int) 2=((a+2:Nat):Int) by rw[Ah (by omega) (by omega)];omega,sS (by omega),Aa,Bu (by decide),Aa,z2,
  XL,show((b.getD (a+2) 0).toNat:Int)=(Sn b (a+2):Int)from rfl,s2,o2,show Ad (2:Int) 1=3 by decide,
  Fi,Gp,q,Aaf (by decide),Ym,Yu,Bu (by decide),Aa,Aa,z8,c,Bd (by simp;omega),Aa,Kn,Yq,q,Ah (by omega) (by omega)]
 have e:((if(Sn b a+Sn b (a+1)*2^8+Sn b (a+2)*2^16)*2^8<2147483648 then(((Sn b a+Sn b (a+1)*2^8+Sn b (a+2)*2^16)*2^8:Nat):Int)else(((Sn b a+Sn b (a+1)*2^8+Sn b (a+2)*2^16)*2^8:Nat):Int)-4294967296).fdiv (2^8))=sx 3 b a:=by
  rw[Atp _ (by omega),sx3];split<;>split<;>omega
 rw[e];rfl
theorem zM(bits:Int)(n m:Nat)(hn:1<=n)(hm:b.length=m*n)(hl:b.length<=100000)(step:∀(q a:Nat) (acc:List Int32),a+n<=b.length->acc.length<=100000->En bits b (q+1) (a:Int) acc=En bits b q ((a+n:Nat):Int) (acc++[Int32.ofInt (sx n b a)])):
  ∀(j x q:Nat),x+j=m->j<q->En bits b q ((x*n:Nat):Int) (mE n x b)=some (mE n m b,0)
 |0,x,q+1,hx,_=>by
  obtain rfl:x=m:=by omega
  rw[En,Gs,Aaf (by rw[Ae,Ac];simp;omega)];rfl
 |j+1,x,q+1,hx,hq=>by
  have h1:(x+1)*n<=m*n:=Aeb n (by omega);rw[Ana,Bdl]at h1;have h2:m<=m*n:=Bn7 m hn;rw[step q (x*n) _ (by omega) (by rw[yW];omega),<-Apm,show x*n+n=(x+1)*n by rw[Ana,Bdl]];exact zM bits n m hn hm hl step j (x+1) q (by omega) (by omega)
theorem Blf{bits:Int}(h:Bk bits)(hl:b.length<=100000)(q a:Nat)(acc:List Int32)(ha:a+wB bits<=b.length)(hc:acc.length<=100000):
  En bits b (q+1) (a:Int) acc=En bits b q ((a+wB bits:Nat):Int) (acc++[Int32.ofInt (sx (wB bits) b a)]):=by
 rw[En];obtain rfl|rfl|rfl:=h
 ·exact Blc b _ a acc ha hl hc _ _
 ·exact Biz b _ a acc ha hl hc _ _
 ·exact Big b _ a acc ha hl hc _ _
theorem Al6{bits:Int}(h:Bk bits){m:Nat}(hm:b.length=m*wB bits)(h4:m<=4000):QT bits b=some (mE (wB bits) m b,0):=by
 have hn:=zK bits;have hl:b.length<=12000:=by rw[hm];exact Bds h4 hn.2
 rw[QT,OL,Ak7 h,Aa];simp only;rw[Aaf (by rw[Al];simp),Arf h,Bu (by rw[Al];simp;omega),Aa];have hr:Gc (Ac b) (wB bits:Int)=0:=by rw[Ac,TU,hm,Bhj];rfl
 have hq:Ca (Ac b) (wB bits:Int)=(m:Int):=by rw[Ac,ZN (by omega),hm,Nat.mul_div_cancel _ (by omega)]
 rw[Aaf (by rw[Al,hr];simp),Aa,hq,Aaf (by rw[As];simp;omega),JB];have:=zM b bits (wB bits) m (by omega) hm (by omega) (λq a acc ha hc=>Blf b h (by omega) q a acc ha hc) m 0 Au (by omega) (by have:=Aq;omega);simpa [mE]using this
end Go.Pl
namespace Go.Pl
open Go Go.Lv
theorem Bji{c:Nat}{w:Nat}(hc:c<=6)(hw:Bk (w:Int)):Ca (Bg (c:Int) (w:Int)) 8=((c*wB (w:Int):Nat):Int):=by
 have h:w=8\/w=16\/w=24:=by unfold Bk at hw;omega
 have:c=0\/c=1\/c=2\/c=3\/c=4\/c=5\/c=6:=by omega
 rcases h with rfl|rfl|rfl<;>rcases this with rfl|rfl|rfl|rfl|rfl|rfl|rfl<;>rfl
theorem Biw{w:Nat}(hw:Bk (w:Int)):8*wB (w:Int)=w/\w<=24:=by
 have h:w=8\/w=16\/w=24:=by unfold Bk at hw;omega
 rcases h with rfl|rfl|rfl<;>exact⟨rfl,by omega⟩
theorem Bal{t c w:Nat}(ht:t<=4000)(hc:c<=6)(hw:Bk (w:Int)):Ca (Bg (Bg (t:Int) (c:Int)) (w:Int)) 8=((t*(c*wB (w:Int)):Nat):Int):=by
 obtain⟨h1,h2⟩:=Biw hw;have e1:(t:Int)*(c:Int)=((t*c:Nat):Int):=by simp
 have b1:t*c<=4000*6:=Bds ht hc;have b2:t*c*w<=24000*24:=Bds b1 h2;rw[Fc (a:=(t:Int)) (by rw[e1];omega) (by rw[e1];omega),e1,Fc (by rw[<-Ara];omega) (by rw[<-Ara];omega),<-Ara,show(8:Int)=((8:Nat):Int)from rfl,ZN (by omega)];congr 1;generalize wB (w:Int)=W at*
 subst h1;rw[Nat.mul_left_comm,Nat.mul_div_cancel_left _ (by omega),Bc9]
section
variable {b p:List UInt8} {f c w r n A:Nat} {l:List Int} (o:Opn b p f c w r n A l)
include o
theorem Axy{k m:Nat}{x:List Int32}{s:List UInt8}{e:Int}(hk:k<l.length)(g:Gts b p f c w r n A l k m x s e):WJ b p (k:Int)=some (s,e):=by
 obtain⟨y,h1,h2⟩:=Aw0 o k hk;rw[Ap1 o,h1,<-g.got,h2]
end
def smF(w:Nat)(y:List UInt8×Int):List Int32:=if y.2≠0 then []else mE (wB (w:Int)) (y.1.length/wB (w:Int)) y.1
theorem vG(z:Int):(u8 z).toNat=(z %256).toNat:=by
 have:(z %256).toNat<256:=by omega
 rw[u8,Aq6,Ac1 (by omega)]
theorem Afd{bits:Int}(h:Bk bits):∀(l:List Int32) (i j:Nat),i<l.length->j<wB bits-> (Cv bits l).getD (i*wB bits+j) 0=(FZ bits (l.getD i 0).toInt).getD j 0
 |[],i,j,hi,_=>by simp at hi
 |x::l,0,j,_,hj=>by
  have h1:=zQ h x.toInt;have e:Cv bits (x::l)=FZ bits x.toInt++Cv bits l:=by simp[Cv]
  rw[e,Bol,Bdf,List.getD_eq_getElem?_getD,List.getD_eq_getElem?_getD,List.getElem?_append_left (by omega)];rfl
 |x::l,i+1,j,hi,hj=>by
  have h1:=zQ h x.toInt;have e:Cv bits (x::l)=FZ bits x.toInt++Cv bits l:=by simp[Cv]
  have ih:=Afd h l i j (by simpa using hi) hj;have e2:(i+1)*wB bits+j=(FZ bits x.toInt).length+(i*wB bits+j):=by rw[Ana,Bdl,h1];omega
  rw[e,e2,List.getD_eq_getElem?_getD,List.getElem?_append_right (by omega),Bi1,<-List.getD_eq_getElem?_getD,ih];rfl
theorem Be2{bits:Int}(h:Bk bits)(l:List Int32)(hr:inR bits l)(i:Nat)(hi:i<l.length):Int32.ofInt (sx (wB bits) (Cv bits l) (i*wB bits))=l.getD i 0:=by
 have hm:l.getD i 0∈l:=by rw[List.getD_eq_getElem?_getD,List.getElem?_eq_getElem hi];exact Ane hi
 have hv:=hr _ hm;have g:∀j,j<wB bits->Sn (Cv bits l) (i*wB bits+j)=((FZ bits (l.getD i 0).toInt).getD j 0).toNat:=λj hj=>by rw[Sn,Afd h l i j hi hj]
 generalize l.getD i 0=x at*
 have key:sx (wB bits) (Cv bits l) (i*wB bits)=x.toInt:=by
  generalize hA:i*wB bits=a at*
  obtain rfl|rfl|rfl:=h
  ·have g0:=g 0 (by decide);have e1:(FZ 8 x.toInt).getD 0 0=u8 (x.toInt+128):=rfl;rw[Bip,e1,vG]at g0;simp only[hB]at hv;simp at hv;have e2:wB 8=1:=rfl;rw[e2,sx,Aas rfl,g0];omega
  ·have g0:=g 0 (by decide);have g1:=g 1 (by decide);have e0:(FZ 16 x.toInt).getD 0 0=u8 x.toInt:=rfl;have e1:(FZ 16 x.toInt).getD 1 0=u8 (x.toInt/256):=rfl;rw[Bip,e0,vG]at g0;rw[e1,vG]at g1;simp only[hB]at hv;simp at hv;have e2:wB 16=2:=rfl;rw[e2,sx2,g0,g1];split<;>omega
  ·have g0:=g 0 (by decide);have g1:=g 1 (by decide);have g2:=g 2 (by decide);have e0:(FZ 24 x.toInt).getD 0 0=u8 x.toInt:=rfl;have e1:(FZ 24 x.toInt).getD 1 0=u8 (x.toInt/256):=rfl;have e3:(FZ 24 x.toInt).getD 2 0=u8 (x.toInt/65536):=rfl;rw[Bip,e0,vG]at g0;rw[e1,vG]at g1;rw[e3,vG]at g2;simp only[hB]at hv;simp at hv;have e2:wB 24=3:=rfl;rw[e2,sx3,g0,g1,g2];split<;>omega
 rw[key];simp
theorem Bav{bits:Int}(h:Bk bits)(l:List Int32)(hr:inR bits l):mE (wB bits) l.length (Cv bits l)=l:=by
 refine Bdp (yW _ _ _) λi h1 h2=>?_;have:=Be2 h l hr i h2;simp only[mE,Bmh,Bme];rw[this,List.getD_eq_getElem?_getD,List.getElem?_eq_getElem h2];rfl
theorem Gts.yU{b p:List UInt8}{f c w r n A:Nat}{l:List Int}{k m:Nat}{x:List Int32}{s:List UInt8}{e:Int}(hw:Bk (w:Int))(g:Gts b p f c w r n A l k m x s e):smF w (s,e)=x:=by
 have hwb:=zK (w:Int);by_cases he:e=0
 ·obtain⟨h1,h2,h3,_⟩:=g.some' he;have h4:=g.pos;have h5:=HD hw x;rw[smF,Aaf (by simpa using he)];simp only;rw[h1,h5,Nat.mul_div_cancel _ (by omega)];exact Bav hw x (rW hw (by omega) h3)
 ·rw[smF,Aas he,(g.none' he).2]
end Go.Pl
