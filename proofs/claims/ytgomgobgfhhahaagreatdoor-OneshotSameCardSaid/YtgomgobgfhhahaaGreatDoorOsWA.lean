/- A part of the proof of a statement of this seat (see the text that ends in Proof): LwBase, LwBitB, LwLe, LwBits, LwRef02, LwCut, LwUn, LwRice, LwDual, LwVal, LwI32, LwFil, LwUnm, LwSam, LwCrc, LwFrm, LwEc1, LwEc2, LwC64, LwWby, LwId, LwApe, LwStrip, LwLen, LwHead, LwSeek, LwOpen, LwFrame, LwBack, LwGot, LwWs, LwGoes, LwPol, LwRt. No conditions of its own. -/
import Derived.Test.YtgomgobgfhhahaaGreatDoorOsBA
import Derived.Test.YtgomgobgfhhahaaGreatDoorOsPA
set_option linter.unusedVariables false
set_option linter.unusedSimpArgs false
namespace Go.Lv
theorem Ah{a b:Int}(h: -9223372036854775808<=a+b)(h':a+b<=9223372036854775807):Ad a b=a+b:=by rw[Bkj,Db h h']
theorem Bw{a b:Int}(h: -9223372036854775808<=a-b)(h':a-b<=9223372036854775807):Ao a b=a-b:=by rw[Bk3,Db h h']
theorem Ez{a b:Int}(h: -9223372036854775808<=a*b)(h':a*b<=9223372036854775807):Bf a b=a*b:=by rw[Bar,Db h h']
theorem XW(c:UInt8):(Af c:Int)=(c.toNat:Int):=by rw[Bch,Db]<;>have:=c.toNat_lt<;>omega
theorem Aem(c:UInt32):(Af c:Int)=(c.toNat:Int):=by rw[Azg,Db]<;>have:=c.toNat_lt<;>omega
theorem wI(c:UInt8):(Af c:UInt64)=UInt64.ofNat c.toNat:=by simp only[Af,FA,Jk]
theorem Dr(c:UInt32):(Af c:UInt64)=UInt64.ofNat c.toNat:=by simp only[Af,BO,Jk]
theorem bA(c:UInt64):(Af c:UInt8)=UInt8.ofNat c.toNat:=by simp only[Af,Lh,Qg]
theorem vS(c:UInt32):(Af c:UInt8)=UInt8.ofNat c.toNat:=by simp only[Af,BO,Qg]
theorem Xi(n:Nat):(Af (n:Int):UInt64)=UInt64.ofNat n:=by simp only[Af];exact Jk n
theorem Ai9(n:Nat):(Af (n:Int):UInt32)=UInt32.ofNat n:=by simp only[Af];exact Gg n
theorem Bd5(n:Nat):(Af (n:Int):UInt8)=UInt8.ofNat n:=by simp only[Af];exact Qg n
theorem Aal{c:UInt64}(h:c.toNat<9223372036854775808):(Af c:Int)=(c.toNat:Int):=by rw[Ax0,Db]<;>omega
theorem Awl:LIM=17179869184:=by decide
theorem As:36893488147419103231<Ax:=by decide
theorem Bn{α:Type}{l:List α}{n:Nat}(h:n<l.length):Ap l (n:Int)=some l[n]:=by simp[Ap,h]
theorem Ui{α:Type}{l:List α}{n:Nat}(x:α)(h:n<l.length):Ng l (n:Int) x=some (l.set n x):=by simp[Ng,h]
theorem Wd{α:Type}{l:List α}{a b:Int}(h:0<=a)(h1:a<=b)(h2:b<=l.length):Bq l a b=some ((l.take b.toNat).drop a.toNat):=by rw[Bq,Abm ⟨h,h1,h2⟩]
theorem Cb{α:Type}{l:List α}{a:Int}(h:0<=a)(h1:a<=l.length):Bq l a (Ac l)=some (l.drop a.toNat):=by
 unfold Ac;rw[Wd h h1 (Int.le_refl _),Afx,Azx]
theorem Dj{α:Type}{l:List α}{b:Int}(h:0<=b)(h1:b<=l.length):Bq l 0 b=some (l.take b.toNat):=by rw[Wd (Int.le_refl _) h h1];rfl
theorem Bi{α:Type}{l m:List α}(h:l.length+m.length<=17179869184):Du l m=some (l++m):=by rw[Du,Awl,Abm h]
theorem rA{α:Type}{n:Int}{z:α}(h:0<=n)(h':n<=17179869184):mkI n z=some (List.replicate n.toNat z):=by rw[mkI,Awl,Abm ⟨h,h'⟩]
theorem Bk{b:Bool}(h:b=true):Jg b=some ():=by rw[h];rfl
theorem Aa{α β:Type}(a:α)(f:α->Option β):Option.bind (some a) f=f a:=rfl
theorem drop_cons{α:Type}{l:List α}{n:Nat}(h:n<l.length):l.drop n=l[n]::l.drop (n+1):=List.drop_eq_getElem_cons h
theorem Ma{α:Type}{l:List α}{n:Nat}(h:n<l.length):l.take (n+1)=l.take n++[l[n]]:=by rw[List.take_add_one,List.getElem?_eq_getElem h];rfl
def Fy:List UInt8->Nat
 |[]=>0
 |x::r=>x.toNat+256*Fy r
theorem Aml:∀l:List UInt8,Fy l<256^l.length
 |[]=>by simp[Fy]
 |x::r=>by
  have h:=Aml r;have:=x.toNat_lt;simp only[Fy,Apu,Ax2];omega
theorem Ah0:∀l m:List UInt8,Fy (l++m)=Fy l+256^l.length*Fy m
 |[],m=>by simp[Fy]
 |x::r,m=>by
  simp only[Fy,Blm,Ah0 r m,Apu,Ax2,Nat.mul_add];rw[Ark (256^r.length) 256,Azz];omega
def uT(l:List UInt8):UInt64:=UInt64.ofNat (Fy l)
theorem Bgk{l:List UInt8}(h:l.length<=8):Fy l<18446744073709551616:=by
 have h1:=Aml l;have h2:256^l.length<=256^8:=Ad5 (by omega) h;exact Anj h1 (by simpa using h2)
theorem Awk{l:List UInt8}(h:l.length<=4):Fy l<4294967296:=by
 have h1:=Aml l;have h2:256^l.length<=256^4:=Ad5 (by omega) h;exact Anj h1 (by simpa using h2)
theorem cC{l:List UInt8}(h:l.length<=8):(uT l).toNat=Fy l:=by
 rw[uT,Aip,Ac0 (Bgk h)]
theorem QV{l:List UInt8}(h:l.length<=4):(Af (uT l):Int)=(Fy l:Int):=by
 have:=Awk h;rw[Aal]<;>rw[cC (by omega)];omega
def Xf(n:Nat):Nat->List UInt8
 |0=>[]
 |w+1=>UInt8.ofNat n::Xf (n/256) w
theorem Ef:∀(w n:Nat),(Xf n w).length=w
 |0,_=>rfl
 |w+1,n=>by simp[Xf,Ef w]
theorem Aq2:∀(w n:Nat),Xf n (w+1)=Xf n w++[UInt8.ofNat (n/256^w)]
 |0,n=>by simp[Xf]
 |w+1,n=>by
  rw[Xf,Aq2 w (n/256),Xf];simp[Blw,Ax2,Ark]
def Hv(p:List UInt8)(i:Nat):Nat:=(p.getD (i/8) 0).toNat/2^(i %8) %2
theorem DI(p:List UInt8)(i:Nat):Hv p i<2:=Bj3 _ (by omega)
def Ce(p:List UInt8):Nat->Nat->Nat
 |_,0=>0
 |a,n+1=>Hv p a+2*Ce p (a+1) n
theorem Qs(p:List UInt8):∀(n a:Nat),Ce p a n<2^n
 |0,_=>by simp[Ce]
 |n+1,a=>by
  have:=Qs p n (a+1);have:=DI p a;rw[Ce,Ax2];omega
theorem SO(p:List UInt8):∀(m n a:Nat),Ce p a (m+n)=Ce p a m+2^m*Ce p (a+m) n
 |0,n,a=>by simp[Ce]
 |m+1,n,a=>by
  rw[show m+1+n=(m+n)+1 by omega,Ce,Ce,SO p m n (a+1),show a+1+m=a+(m+1) by omega,Ax2,Nat.mul_add,Ark (2^m) 2,Azz];omega
theorem wX(p:List UInt8)(a:Nat):Ce p a 1=Hv p a:=by simp[Ce]
theorem rY(p:List UInt8)(a n:Nat):Ce p a (n+1)=Ce p a n+2^n*Hv p (a+n):=by rw[SO p n 1 a,wX]
theorem hU(p:List UInt8)(a:Nat):∀t:Nat,a %8+t<=8->Ce p a t=(p.getD (a/8) 0).toNat/2^(a %8) %2^t
 |0,_=>by simp[Ce,Nat.mod_one]
 |t+1,h=>by
  have h1:(a+t)/8=a/8:=by omega
  have h2:(a+t) %8=a %8+t:=by omega
  rw[rY,hU p a t (by omega),Hv,h1,h2,Nat.mod_pow_succ,Bo9,Blw]
theorem Akp{p:List UInt8}:∀(n a:Nat),(∀k,k<n->Hv p (a+k)=0)->Ce p a n=0
 |0,_,_=>rfl
 |n+1,a,h=>by
  have h0:=h 0 (by omega);rw[Ce,Akp n (a+1) λk hk=>by have:=h (k+1) (by omega);rwa [show a+1+k=a+(k+1) by omega]];rw[Blb]at h0;omega
def okB(p:List UInt8)(n:Nat):Prop:=n<=330000/\p.length=(n+7)/8/\∀k,n<=k->k<8*p.length->Hv p k=0
def Sp(p:List UInt8)(a n:Nat):List UInt8:=(List.range ((n+7)/8)).map λj=>UInt8.ofNat (Ce p (a+8*j) (min 8 (n-8*j)))
theorem Jy(p:List UInt8)(a n:Nat):(Sp p a n).length=(n+7)/8:=by simp[Sp]
theorem Ap6(p:List UInt8):∀(n a k:Nat),k<n->Ce p a n/2^k %2=Hv p (a+k)
 |n+1,a,0,_=>by have:=DI p a;rw[Ce];simp;omega
 |n+1,a,k+1,h=>by
  have hb:=DI p a;have e:(Hv p a+2*Ce p (a+1) n)/2=Ce p (a+1) n:=by omega
  rw[Ce,Ax2,Ark (2^k) 2,<-Blw,e,Ap6 p n (a+1) k (by omega),show a+1+k=a+(k+1) by omega]
theorem Aw4(p:List UInt8)(n a k:Nat)(h:n<=k):Ce p a n/2^k %2=0:=by
 have:=Qs p n a;rw[Bk6 (Anj this (Ad5 (by omega) h))]
theorem Aie(p:List UInt8)(a n k:Nat):Hv (Sp p a n) k=if k<n then Hv p (a+k)else 0:=by
 rw[Hv];by_cases hj:k/8<(n+7)/8
 ·have e:(Sp p a n).getD (k/8) 0=UInt8.ofNat (Ce p (a+8*(k/8)) (min 8 (n-8*(k/8)))):=by
   rw[List.getD_eq_getElem?_getD,List.getElem?_eq_getElem (by rw[Jy];exact hj)];simp[Sp]
  have hlt:Ce p (a+8*(k/8)) (min 8 (n-8*(k/8)))<256:=by
   have:=Qs p (min 8 (n-8*(k/8))) (a+8*(k/8));have h2:2^(min 8 (n-8*(k/8)))<=2^8:=Ad5 (by omega) (by omega);omega
  have hu:(UInt8.ofNat (Ce p (a+8*(k/8)) (min 8 (n-8*(k/8))))).toNat=Ce p (a+8*(k/8)) (min 8 (n-8*(k/8))):=by
   rw[Aqr];exact Ac0 hlt
  rw[e,hu];by_cases hk:k<n
  ·rw[Abm hk,Ap6 p _ _ _ (by omega),show a+8*(k/8)+k %8=a+k by omega]
  ·rw[Aau hk,Aw4 p _ _ _ (by omega)]
 ·have e:(Sp p a n).getD (k/8) 0=0:=by
   rw[List.getD_eq_getElem?_getD,List.getElem?_eq_none (by rw[Jy];omega)];rfl
  rw[e,Aau (by omega)];simp
theorem xH(p:List UInt8)(a n:Nat)(h:n<=330000):okB (Sp p a n) n:=⟨h,Jy p a n,λk hk _=>by rw[Aie,Aau (by omega)]⟩
theorem Apx{p q:List UInt8}(hl:p.length=q.length)(h:∀k,k<8*p.length->Hv p k=Hv q k):p=q:=by
 apply Bif hl;intro i h1 h2;have hp:Ce p (8*i) 8=Ce q (8*i) 8:=by
  have key:∀(n a:Nat),a+n<=8*p.length->Ce p a n=Ce q a n:=by
   intro n
   induction n with
   |zero=>intros;rfl
   |succ n ih=>intro a ha;rw[Ce,Ce,h a (by omega),ih (a+1) (by omega)]
  exact key 8 (8*i) (by omega)
 rw[hU p _ 8 (by omega),hU q _ 8 (by omega)]at hp;have e1:8*i/8=i:=by omega
 have e2:8*i %8=0:=by omega
 rw[e1,e2]at hp;have a1:p.getD i 0=p[i]:=by simp[List.getD_eq_getElem?_getD,h1]
 have a2:q.getD i 0=q[i]:=by simp[List.getD_eq_getElem?_getD,h2]
 rw[a1,a2]at hp;apply UInt8.toNat_inj.1;have:=p[i].toNat_lt;have:=q[i].toNat_lt;simp at hp;omega
end Go.Lv
namespace Go.Pl
open Go Go.Lv
theorem Az4(b:List UInt8)(hb:b.length<4611686018427387904):∀(j q:Nat),j<=b.length->j<q->Qd b q (uT (b.drop j)) ((j:Int)-1)=some (uT b)
 |0,q+1,_,_=>by
  rw[Qd,FR,Aau (by rw[Dw];simp)];simp[YE,ZP]
 |j+1,q+1,hj,hq=>by
  rw[Qd,FR,Abm (by rw[Dw];simp),show((j+1:Nat):Int)-1=(j:Int) by omega,Bn (by omega),Aa,Bw (by omega) (by omega)];have h:Ad (Bf (256:UInt64) (uT (b.drop (j+1)))) (Af b[j]:UInt64)=uT (b.drop j):=by
   rw[RT,RY,wI,drop_cons (n:=j) (by omega),uT,uT,Fy,UInt64.ofNat_add,UInt64.ofNat_mul];exact UInt64.add_comm _ _
  rw[h];exact Az4 b hb j q (by omega) (by omega)
theorem Anr(b:List UInt8)(hb:b.length<4611686018427387904):Ei b=some (uT b):=by
 have h:=Az4 b hb b.length Ax (Arj _) (by have:=As;omega);rw[Ei,aI,YW];have e:Ao (Ac b) 1=(b.length:Int)-1:=Bw (by unfold Ac;omega) (by unfold Ac;omega);rw[e,<-h,Bla];rfl
theorem Bab{n c:UInt64}{i:Nat}(hn:n.toNat<2^i)(hc:c.toNat*2^i<18446744073709551616):wM n (Dl c i)=UInt64.ofNat (n.toNat+c.toNat*2^i):=by
 rw[Bf4];apply UInt64.toNat_inj.1;rw[UInt64.toNat_or,ZS,Ac0 hc,Ark,Nat.or_comm,<-Bhi hn,Aip,Ac0,Bnm,Ark];have h:=Bhi hn c.toNat;have h2:2^i*c.toNat+n.toNat<2^64:=by
  rw[h];exact Nat.or_lt_two_pow (by rw[Ark];simpa using hc) n.toNat_lt
 rw[Bnm];first|exact h2|(rw[Ark];exact h2)
theorem Aj7(b:List UInt8)(hb:b.length<=8):∀(j i q:Nat),i+j=b.length->j<q->GQ b q (uT (b.take i)) (i:Int)=some (uT b,0)
 |0,i,q+1,hi,_=>by
  rw[GQ,cL,Aau (by rw[Ae,Ac];simp;omega),show i=b.length by omega,Azx];rfl
 |j+1,i,q+1,hi,hq=>by
  have hlt:i<b.length:=by omega
  rw[GQ,cL,Abm (by rw[Ae,Ac];simp;omega),Bn hlt,Aa,Ez (by omega) (by omega),Bk (by rw[Dw];simp;omega),Aa,Ah (by omega) (by omega)];have h:wM (uT (b.take i)) (Dl (Af b[i]:UInt64) (GI.toZ ((8:Int)*(i:Int))).toNat)=uT (b.take (i+1)):=by
   have e:(GI.toZ ((8:Int)*(i:Int))).toNat=8*i:=by show((8:Int)*(i:Int)).toNat=_;omega
   have e2:(2:Nat)^(8*i)=256^i:=by rw[Nat.pow_mul]
   have h1:=Aml (b.take i);rw[Afz,Bem (by omega)]at h1;have h3:=b[i].toNat_lt;have hle:(256:Nat)^(i+1)<=256^8:=Ad5 (by omega) (by omega);rw[Ax2]at hle;have h4:(Af b[i]:UInt64).toNat=b[i].toNat:=by rw[wI,Aip];omega
   have h5:b[i].toNat*256^i<18446744073709551616:=by
    have:b[i].toNat*256^i<256*256^i:=Nat.mul_lt_mul_of_pos_right (by simpa using h3) (Blo (by omega));simp at hle;omega
   rw[e,Bab (by rw[cC (by simp;omega),e2];exact h1) (by rw[h4,e2];exact h5),cC (by simp;omega),h4,e2,Ma hlt];rw[uT,Ah0];simp only[Fy,Afz,Bem (Nat.le_of_lt hlt),Nat.mul_zero,Blb];rw[Ark]
  rw[h];exact Aj7 b hb j (i+1) q (by omega) (by omega)
theorem Aq8(b:List UInt8)(h1:1<=b.length)(h2:b.length<=8):qG b=some (uT b,0):=by
 have h:=Aj7 b h2 b.length 0 Ax (by omega) (by have:=As;omega);rw[qG,oS,Aau (by simp[Ae,Aq,Ac];omega),oA];exact h
def part(b:List UInt8)(at' w:Nat):List UInt8:=(b.take (at'+w)).drop at'
theorem Ey{b:List UInt8}{a w:Nat}(h:a+w<=b.length):(part b a w).length=w:=by simp[part];omega
theorem Ajo(b:List UInt8)(a w:Nat)(h1:1<=w)(h2:w<=8)(h3:a+w<=b.length)(hb:b.length<4611686018427387904):gZ b (a:Int) (w:Int)=some (uT (part b a w),0):=by
 rw[gZ,Aau (by simp[Ae,Aq];omega),Aau (by rw[Aq,Bw (by unfold Ac;omega) (by unfold Ac;omega),Ac];simp;omega),Ah (by omega) (by omega),Wd (by omega) (by omega) (by omega),Aa];rw[show((a:Int)+(w:Int)).toNat=a+w by omega,show(a:Int).toNat=a by omega];rw[Aq8 _ (by rw[show((b.take (a+w)).drop a).length=_ from Ey h3];exact h1) (by rw[show((b.take (a+w)).drop a).length=_ from Ey h3];exact h2),Aa];rfl
theorem Abw(w:Nat)(hw:w<=1000):∀(j i q:Nat) (n:UInt64) (acc:List UInt8),i+j=w->j<q->acc.length+j<=1000000->Jj (w:Int) q n (i:Int) acc=some (acc++Xf n.toNat j)
 |0,i,q+1,n,acc,hi,_,_=>by
  rw[Jj,Uf,Aau (by rw[Ae];simp;omega)];simp[GB,FY,Xf]
 |j+1,i,q+1,n,acc,hi,hq,ha=>by
  rw[Jj,Uf,Abm (by rw[Ae];simp;omega)];have e:(Af (HJ n (256:UInt64)):UInt8)=UInt8.ofNat n.toNat:=by
   rw[bA,Apf];apply UInt8.toNat_inj.1;rw[Aqr,Aqr,UInt64.toNat_mod]
   show n.toNat %256 %256=_;omega
  have e2:(Br n (256:UInt64)).toNat=n.toNat/256:=by rw[yY,Bpd];rfl
  rw[Bi (by simp;omega),Aa,Ah (by omega) (by omega),e];have h:=Abw w hw j (i+1) q (Br n 256) (acc++[UInt8.ofNat n.toNat]) (by omega) (by omega) (by simp;omega);rw[e2]at h;rw[show((i:Int)+1)=((i+1:Nat):Int) by omega,h,Xf];simp
theorem Aif(n:UInt64)(w:Nat)(hw:w<=1000):Fo n (w:Int)=some (Xf n.toNat w):=by
 rw[Fo,HA,GW];have h:=Abw w hw w 0 Ax n [] (by omega) (by have:=As;omega) (by simp;omega);simpa using h
theorem kI{α:Type}{l m:List α}{x y:α}{i:Nat}(h:l.length=i):(l++x::m).set i y=l++y::m:=by subst h;simp
theorem Aj4(n:UInt64)(l4:List UInt8)(w:Nat)(hl:l4.length=w)(hw:w<=8):∀(j i q:Nat),i+j=w->j<q->GX n l4 q (i:Int) (Xf n.toNat i++List.replicate j 0)=some (Xf n.toNat w,0)
 |0,i,q+1,hi,_=>by
  rw[GX,cW,Aau (by rw[Ae,Ac];simp;omega)];obtain rfl:i=w:=by omega
  simp[pJ,Aca]
 |j+1,i,q+1,hi,hq=>by
  have hlen:(Xf n.toNat i++List.replicate (j+1) 0).length=i+(j+1):=by simp[Ef]
  rw[GX,cW,Abm (by rw[Ae,Ac];simp;omega),Ez (by omega) (by omega),Bk (by rw[Dw];simp;omega),Aa,Bn (by rw[hlen];omega),Aa,Ui _ (by rw[hlen];omega),Aa,Ah (by omega) (by omega)];have e:(Af (Ci n (GI.toZ ((8:Int)*(i:Int))).toNat):UInt8)=UInt8.ofNat (n.toNat/256^i):=by
   have e:(GI.toZ ((8:Int)*(i:Int))).toNat=8*i:=by show((8:Int)*(i:Int)).toNat=_;omega
   rw[e,bA,HN,Nat.pow_mul]
  rw[e,Bis,kI (Ef _ _)];have h:=Aj4 n l4 w hl hw j (i+1) q (by omega) (by omega);rw[Aq2]at h;simpa using h
theorem Bfm(n:UInt64)(w:Nat)(h1:1<=w)(h2:w<=8)(h:n.toNat<256^w):Adn n (w:Int)=some true:=by
 rw[Adn];by_cases h8:w=8
 ·subst h8;rw[Abm (by rw[Ar];rfl)]
 ·rw[Aau (by rw[Ar];simp;omega),Ez (by omega) (by omega),Bk (by rw[Dw];simp;omega),Aa];have e:(GI.toZ ((8:Int)*(w:Int))).toNat=8*w:=by show((8:Int)*(w:Int)).toNat=_;omega
  rw[e,Adp];have:Ci n (8*w)=0:=by
   apply UInt64.toNat_inj.1;rw[HN,Nat.pow_mul];exact Bk6 h
  rw[this];rfl
theorem bH(n:UInt64)(w:Nat)(h1:1<=w)(h2:w<=8)(h:n.toNat<256^w):DM n (w:Int)=some (Xf n.toNat w,0):=by
 rw[DM,rJ,Aau (by simp[Ae,Aq];omega),Bfm n w h1 h2 h,Aa,Aau (by simp),rA (by omega) (by omega),Aa,Bk (by rw[Ar];simp),Aa,qN];have h:=Aj4 n (List.replicate (w:Int).toNat 0) w (by simp) h2 w 0 Ax (by omega) (by have:=As;omega);simpa [Xf]using h
theorem Acw(n:Nat)(h:n<4611686018427387904):Fa (n:Int) (7:Int)=((n %8:Nat):Int):=by
 have e:Fa (n:Int) (7:Int)=wrap64 ((BitVec.ofInt 64 (n:Int)&&&BitVec.ofInt 64 7).toNat:Int):=rfl;rw[e,BitVec.toNat_and,Bjk,Bjk];have h1:((n:Int) %((2^64:Nat):Int)).toNat=n:=by omega
 have h2:((7:Int) %((2^64:Nat):Int)).toNat=2^3-1:=by decide
 rw[h1,h2,Blu,Db (by omega) (by omega)]
theorem Blr(n:Nat):Al0 (n:Int) (GI.toZ (3:UInt64)).toNat=((n/8:Nat):Int):=by
 have e:Al0 (n:Int) (GI.toZ (3:UInt64)).toNat=(n:Int).fdiv 8:=rfl;rw[e,Arr _ (by omega)];omega
theorem Bmj{t:Nat}(h:t<=8):Ao (Dl (1:UInt8) t) (1:UInt8)=UInt8.ofNat (2^t-1):=by
 have:t=0\/t=1\/t=2\/t=3\/t=4\/t=5\/t=6\/t=7\/t=8:=by omega
 rcases this with rfl|rfl|rfl|rfl|rfl|rfl|rfl|rfl|rfl<;>decide
theorem bitsOf(c:UInt8)(off t:Nat)(h:t<=8):(Fa (Ci c off) (Ao (Dl (1:UInt8) t) (1:UInt8))).toNat=c.toNat/2^off %2^t:=by
 have hp:2^t<=2^8:=Ad5 (by omega) h;rw[Bmj h,Avr,UInt8.toNat_and,Alb,Aqr,Ac0 (by have:=Blo (n:=t) (show 0<2 by omega);omega),Blu]
theorem Af0{p:List UInt8}{k:Nat}(h:k<p.length):Ap p (k:Int)=some (p.getD k 0):=by
 rw[Bn h];simp[List.getD_eq_getElem?_getD,h]
def Qx(p:List UInt8)(a n:Nat):UInt64:=UInt64.ofNat (Ce p a n)
theorem AF(p:List UInt8)(a n:Nat)(h:n<=64):(Qx p a n).toNat=Ce p a n:=by
 have h1:=Qs p n a;have h2:2^n<=2^64:=Ad5 (by omega) h;rw[Qx,Aip,Ac0 (by omega)]
theorem Aqo(p:List UInt8)(N:Int)(a n:Nat)(hn:n<=64)(ha:a+n<=8*p.length)(hp:p.length<=1000000):∀(j h q:Nat),h+j=n->j<q->RM (a:Int) (n:Int) p N q (Qx p a h) (h:Int)=some (Qx p a n)
 |j,h,q+1,hj,hq=>by
  rw[RM,oF];by_cases hlt:h<n
  ·have e1:Ad (a:Int) (h:Int)=((a+h:Nat):Int):=by rw[Ah (by omega) (by omega)];omega
   have e2:Fm (Ao (n:Int) (h:Int)) (Ao (8:Int) (((a+h) %8:Nat):Int))=((min (n-h) (8-(a+h) %8):Nat):Int):=by
    rw[OC,Bw (by omega) (by omega),Bw (by omega) (by omega)];omega
   have hm:(a+h)/8<p.length:=by omega
   rw[Abm (by rw[Ae];simp;omega),e1,Blr,Af0 hm,Aa,Acw _ (by omega),Bk (by rw[Dw];simp;omega),Aa,e2,Bk (by rw[Dw];simp),Aa,Bk (by rw[Dw];simp),Aa];generalize hT:min (n-h) (8-(a+h) %8)=T;have hT8:T<=8:=by omega
   have hT1:1<=T:=by omega
   have hb:(a+h) %8+T<=8:=by omega
   have hv:=hU p (a+h) T hb;have z1:(GI.toZ (((a+h) %8:Nat):Int)).toNat=(a+h) %8:=rfl;have z2:(GI.toZ ((T:Nat):Int)).toNat=T:=rfl;have z3:(GI.toZ ((h:Nat):Int)).toNat=h:=rfl;rw[z1,z2,z3];have hx:(Af (Fa (Ci (p.getD ((a+h)/8) 0) ((a+h) %8)) (Ao (Dl (1:UInt8) T) (1:UInt8))):UInt64).toNat=Ce p (a+h) T:=by
    rw[wI,Aip,bitsOf _ _ _ hT8,<-hv];have:=Qs p T (a+h);have h2:2^T<=2^8:=Ad5 (by omega) hT8;omega
   have hlt2:=Qs p (h+T) a;rw[SO]at hlt2;have h64:2^(h+T)<=2^64:=Ad5 (by omega) (by omega);have hor:wM (Qx p a h) (Dl (Af (Fa (Ci (p.getD ((a+h)/8) 0) ((a+h) %8)) (Ao (Dl (1:UInt8) T) (1:UInt8))):UInt64) h)=Qx p a (h+T):=by
    rw[Bab (by rw[AF p a h (by omega)];exact Qs p h a) (by rw[hx,Ark];omega),hx,AF p a h (by omega),Qx,SO,Ark (2^h)]
   rw[hor,Ah (by omega) (by omega),show(h:Int)+((T:Nat):Int)=((h+T:Nat):Int) by omega];exact Aqo p N a n hn ha hp (j-T) (h+T) q (by omega) (by omega)
  ·rw[Aau (by rw[Ae];simp;omega),show h=n by omega];rfl
theorem get_eq(p:List UInt8)(N:Int)(a n:Nat)(hn:n<=64)(ha:a+n<=8*p.length)(hp:p.length<=1000000):xF p N (a:Int) (n:Int)=some (Qx p a n):=by
 have:=Aqo p N a n hn ha hp n 0 Ax (by omega) (by have:=As;omega);exact this
theorem BT{p:List UInt8}{n:Nat}(h:okB p n):Ki p (n:Int)=some 0:=by
 obtain⟨h1,h2,h3⟩:=h;have e7:Ad (n:Int) 7=((n+7:Nat):Int):=by rw[Ah (by omega) (by omega)];omega
 rw[Ki,e7,Blr,Aau (by simp[Ae,Aq,Aj,Ac,h2];omega),Acw _ (by omega)];by_cases hz:n %8=0
 ·rw[Aau (by rw[Aq];simp;omega)]
 ·have el:Ao (Ac p) 1=((p.length-1:Nat):Int):=by rw[Ac,Bw (by omega) (by omega)];omega
  rw[Abm (by rw[Aq];simp;omega),el,Af0 (by omega),Aa,Bk (by rw[Dw];simp;omega),Aa];have z:(GI.toZ ((n %8:Nat):Int)).toNat=n %8:=rfl;have hs:Ci (p.getD (p.length-1) 0) (n %8)=0:=by
   apply UInt8.toNat_inj.1;rw[Alb];have hv:=hU p n (8-n %8) (by omega);have h0:Ce p n (8-n %8)=0:=Akp _ _ λk hk=>h3 _ (by omega) (by omega);rw[h0,show n/8=p.length-1 by omega]at hv;have hlt:(p.getD (p.length-1) 0).toNat/2^(n %8)<2^(8-n %8):=by
    have:=(p.getD (p.length-1) 0).toNat_lt;rw[Nat.div_lt_iff_lt_mul (Blo (by omega)),<-Bo9,show 8-n %8+n %8=8 by omega];simpa using this
   rw[Ac0 hlt]at hv;exact hv.symm
  rw[z,hs,Aau (by rw[Asf];simp)]
theorem zR{p:List UInt8}{N:Nat}(h:okB p N)(a n:Nat)(hn:n<=64):JN p (N:Int) (a:Int) (n:Int)=some (if N<a+n then(0,24)else(Qx p a n,0)):=by
 obtain⟨h1,h2,h3⟩:=h;rw[JN,BT ⟨h1,h2,h3⟩,Aa,Aau (by rw[Aj];simp),Aau (by simp[Ae,Aq];omega),Bw (by omega) (by omega)];by_cases hl:N<a+n
 ·rw[Abm (by rw[Aq];simp;omega),Abm hl]
 ·rw[Aau (by rw[Aq];simp;omega),get_eq p N a n hn (by omega) (by omega),Aa,Aau hl]
theorem Bnz(c:Nat)(h:c<4611686018427387904):Br (c:Int) (2:Int)=((c/2:Nat):Int):=by
 rw[VA,Biz (by omega),Db (by omega) (by omega)];omega
theorem Bmv(c:Nat)(h:c<4611686018427387904):Br (c:Int) (8:Int)=((c/8:Nat):Int):=by
 rw[VA,Biz (by omega),Db (by omega) (by omega)];omega
theorem Bbb(c:Nat):Gx (c:Int) (8:Int)=((c %8:Nat):Int):=by rw[Gx,Bnb (by omega)];omega
theorem Bn3(c:Nat):Gx (c:Int) (2:Int)=((c %2:Nat):Int):=by rw[Gx,Bnb (by omega)];omega
theorem Avv(i c:Nat)(hc:c<256):∀(j k q:Nat),k+j=i %8->j<q->Qa (i:Int) q ((c/2^k:Nat):Int) (k:Int)=some (((c/2^(i %8) %2:Nat):Int))
 |0,k,q+1,hk,_=>by
  rw[Qa,FQ,Bbb,Aau (by rw[Ae];simp;omega),aC,bB,Bn3,show k=i %8 by omega]
 |j+1,k,q+1,hk,hq=>by
  have hle:c/2^k<=c:=Atr _ _;rw[Qa,FQ,Bbb,Abm (by rw[Ae];simp;omega),Bnz _ (by omega),Ah (by omega) (by omega),Blw,<-Ax2];exact Avv i c hc j (k+1) q (by omega) (by omega)
theorem Aa7(p:List UInt8)(N:Int)(i:Nat)(h:i/8<p.length)(hi:i<4611686018427387904):Nv p N (i:Int)=some ((Hv p i:Nat):Int):=by
 have hc:=(p.getD (i/8) 0).toNat_lt;have:=Avv i (p.getD (i/8) 0).toNat (by simpa using hc) (i %8) 0 Ax (by omega) (by have:=As;omega);rw[Nv,bD,Bmv _ hi,Af0 h,Aa,XW,ZB];simpa [Hv]using this
theorem Aek(p:List UInt8)(N:Int)(a n:Nat)(ha:a+n<=8*p.length)(hp:p.length<=1000000):∀(j q:Nat),j<=n->j<q->Lq (a:Int) p N q (Qx p (a+j) (n-j)) ((j:Int)-1)=some (Qx p a n)
 |0,q+1,_,_=>by
  rw[Lq,Xv,Aau (by rw[Dw];simp)];rfl
 |j+1,q+1,hj,hq=>by
  have hb:=DI p (a+j);rw[Lq,Xv,show((j+1:Nat):Int)-1=(j:Int) by omega,Abm (by rw[Dw];simp),Ah (a:=(a:Int)) (by omega) (by omega),show(a:Int)+(j:Int)=((a+j:Nat):Int) by omega,Aa7 p N (a+j) (by omega) (by omega),Aa,Bw (by omega) (by omega)];have e:Ad (Bf (2:UInt64) (Qx p (a+(j+1)) (n-(j+1)))) (Af ((Hv p (a+j):Nat):Int):UInt64)=Qx p (a+j) (n-j):=by
   rw[RT,RY,Xi,Qx,Qx,show n-j=(n-(j+1))+1 by omega,Ce,show a+j+1=a+(j+1) by omega,UInt64.ofNat_add,UInt64.ofNat_mul];exact UInt64.add_comm _ _
  rw[e];exact Aek p N a n ha hp j q (by omega) (by omega)
theorem wQ(p:List UInt8)(N:Int)(a n:Nat)(ha:a+n<=8*p.length)(hp:p.length<=1000000):Vy p N (a:Int) (n:Int)=some (Qx p a n):=by
 have:=Aek p N a n ha hp n Ax (Arj _) (by have:=As;omega);have hz:Qx p (a+n) (n-n)=0:=by rw[Nat.sub_self];rfl
 rw[hz]at this;rw[Vy,NH,NR,Bw (by omega) (by omega)];exact this
theorem Av0(bit:Int)(N:Nat)(l:List UInt8):∀(j k q:Nat),k+j=N %8->j<q->Og bit (N:Int) l q ((2^k:Nat):Int) (k:Int)=CO bit ((2^(N %8):Nat):Int) (N:Int) l
 |0,k,q+1,hk,_=>by
  rw[Og,CW,Bbb,Aau (by rw[Ae];simp;omega),show k=N %8 by omega]
 |j+1,k,q+1,hk,hq=>by
  have hp:2^k<=2^8:=Ad5 (by omega) (by omega);have e:Bf ((2^k:Nat):Int) 2=((2^(k+1):Nat):Int):=by
   rw[Ax2];generalize 2^k=K at*
   rw[Ez (by omega) (by omega)];omega
  rw[Og,CW,Bbb,Abm (by rw[Ae];simp;omega),e,Ah (by omega) (by omega)];exact Av0 bit N l j (k+1) q (by omega) (by omega)
theorem Agx(p:List UInt8)(a n j:Nat)(h:j<(n+7)/8):(Sp p a n)[j]'(by rw[Jy];exact h)=UInt8.ofNat (Ce p (a+8*j) (min 8 (n-8*j))):=by simp[Sp]
theorem zO(p:List UInt8)(a t:Nat)(h:t<=8):Ce p a t<256:=by
 have h1:=Qs p t a;have h2:2^t<=2^8:=Ad5 (by omega) h;omega
def room(p:List UInt8)(a n:Nat):List UInt8:=if n %8=0 then Sp p a n++[0]else Sp p a n
theorem Pu(p:List UInt8)(a n:Nat):(room p a n).length=n/8+1:=by
 rw[room];split<;>simp[Jy]<;>omega
theorem Arf(p:List UInt8)(a n j:Nat)(h:j<n/8+1):(room p a n)[j]'(by rw[Pu];exact h)=UInt8.ofNat (Ce p (a+8*j) (min 8 (n-8*j))):=by
 have h0:(room p a n)[j]? =some (UInt8.ofNat (Ce p (a+8*j) (min 8 (n-8*j)))):=by
  rw[room];split
  ·by_cases hj:j<(n+7)/8
   ·rw[List.getElem?_append_left (by rw[Jy];exact hj),List.getElem?_eq_getElem (by rw[Jy];exact hj),Agx p a n j hj]
   ·rw[List.getElem?_append_right (by rw[Jy];omega),Jy,show j-(n+7)/8=0 by omega,show n-8*j=0 by omega];rfl
  ·rw[List.getElem?_eq_getElem (by rw[Jy];omega),Agx p a n j (by omega)]
 rw[List.getElem?_eq_getElem (by rw[Pu];exact h)]at h0;exact Ayi h0
theorem yP(p:List UInt8)(a n T:Nat)(h1:1<=T)(h:n %8+T<=8):(room p a n).set (n/8) (UInt8.ofNat (Ce p (a+8*(n/8)) (n %8+T)))=Sp p a (n+T):=by
 apply Bif (by rw[Blz,Pu,Jy];omega);intro j g1 g2;rw[Blz,Pu]at g1;rw[Bpe,Agx p a (n+T) j (by rw[Jy]at g2;exact g2)];split
 ·rename_i e;subst e;rw[show min 8 (n+T-8*(n/8))=n %8+T by omega]
 ·rw[Arf p a n j g1,show min 8 (n-8*j)=8 by omega,show min 8 (n+T-8*j)=8 by omega]
theorem sA(p:List UInt8)(a n:Nat):(room p a n)[n/8]'(by rw[Pu];omega)=UInt8.ofNat (Ce p (a+8*(n/8)) (n %8)):=by
 rw[Arf p a n _ (by omega),show min 8 (n-8*(n/8))=n %8 by omega]
theorem Az8(p:List UInt8)(a n:Nat)(hn:n<=400000):BP (Sp p a n) (n:Int) ((Hv p (a+n):Nat):Int)=some (Sp p a (n+1),((n+1:Nat):Int)):=by
 have hb:=DI p (a+n);have hp:2^(n %8)<=2^7:=Ad5 (by omega) (by omega);have hroom:BP (Sp p a n) (n:Int) ((Hv p (a+n):Nat):Int)=CX ((Hv p (a+n):Nat):Int) (n:Int) (room p a n):=by
  rw[BP,WB,Bbb,room];by_cases h0:n %8=0
  ·rw[Abm (by rw[Ar,h0];rfl),Bi (by rw[Jy];simp;omega),Aa,Abm h0]
  ·rw[Aau (by rw[Ar];simp;omega),Aau h0]
 have hl:=Av0 ((Hv p (a+n):Nat):Int) n (room p a n) (n %8) 0 Ax (by omega) (by have:=As;omega);rw[hroom,CX,WG,WO];refine Bjl hl ?_;have hg:Ap (room p a n) ((n/8:Nat):Int)=some (UInt8.ofNat (Ce p (a+8*(n/8)) (n %8))):=by
  rw[Bn (by rw[Pu];omega),sA]
 have hlt:=zO p (a+8*(n/8)) (n %8+1) (by omega);have hsn:=rY p (a+8*(n/8)) (n %8);rw[show a+8*(n/8)+n %8=a+n by omega]at hsn;have hm:Bf ((Hv p (a+n):Nat):Int) ((2^(n %8):Nat):Int)=((2^(n %8)*Hv p (a+n):Nat):Int):=by
  have hle:2^(n %8)*Hv p (a+n)<=2^7*1:=Bed hp (by omega);rw[Bar,<-Aos,Db (by omega) (by rw[Ark];omega),Ark]
 have hx:Ad (UInt8.ofNat (Ce p (a+8*(n/8)) (n %8))) (Af (((2^(n %8)*Hv p (a+n):Nat):Int)):UInt8)=UInt8.ofNat (Ce p (a+8*(n/8)) (n %8+1)):=by
  rw[Bf1,Bd5,hsn,UInt8.ofNat_add]
 rw[CO,WH,Bmv _ (by omega),hg,Aa,Aa,Aa,hm,hx,Ui _ (by rw[Pu];omega),Aa,yP p a n 1 (by omega) (by omega),Ah (by omega) (by omega)];rfl
theorem yT(p:List UInt8)(N:Int)(a n:Nat)(ha:a+n<=8*p.length)(hp:p.length<=1000000)(hn:n<=300000):∀(j m q:Nat),m+j=n->j<q->Jm ((a+n:Nat):Int) p N q ((a+m:Nat):Int) (m:Int) (Sp p a m)=some (Sp p a n,(n:Int))
 |0,m,q+1,hm,_=>by
  rw[Jm,Ub,Aau (by rw[Ae];simp;omega),show m=n by omega];rfl
 |j+1,m,q+1,hm,hq=>by
  rw[Jm,Ub,Abm (by rw[Ae];simp;omega),Aa7 p N (a+m) (by omega) (by omega),Aa,Az8 p a m (by omega),Aa];simp only;rw[Ah (by omega) (by omega)];exact yT p N a n ha hp hn j (m+1) q (by omega) (by omega)
theorem Ao0(p:List UInt8)(N:Int)(a n:Nat)(ha:a+n<=8*p.length)(hp:p.length<=1000000)(hn:n<=300000):RL p N (a:Int) ((a+n:Nat):Int)=some (Sp p a n,(n:Int)):=by
 have:=yT p N a n ha hp hn n 0 Ax (by omega) (by have:=As;omega);exact this
theorem Bk5{t:Nat}(h:t<=8):Ao (Dl (1:UInt64) t) (1:UInt64)=UInt64.ofNat (2^t-1):=by
 have:t=0\/t=1\/t=2\/t=3\/t=4\/t=5\/t=6\/t=7\/t=8:=by omega
 rcases this with rfl|rfl|rfl|rfl|rfl|rfl|rfl|rfl|rfl<;>decide
theorem Bl1(v:UInt64){t:Nat}(h:t<=8):(Fa v (Ao (Dl (1:UInt64) t) (1:UInt64))).toNat=v.toNat %2^t:=by
 have hp:2^t<=2^8:=Ad5 (by omega) h;rw[Bk5 h,Ahn,UInt64.toNat_and,Aip,Ac0 (by have:=Blo (n:=t) (show 0<2 by omega);omega),Blu]
theorem or8{v w i:Nat}(hv:v<2^i)(hw:w*2^i<256)(hi:i<8):wM (UInt8.ofNat v) (Dl (UInt8.ofNat w) i)=UInt8.ofNat (v+w*2^i):=by
 have hp:2^i<=2^8:=Ad5 (by omega) (by omega);have hpos:0<2^i:=Blo (by omega);have hw2:w<256:=Blj (Bpa w hpos) hw;rw[Bkt];apply UInt8.toNat_inj.1;have e1:(UInt8.ofNat v).toNat=v:=by rw[Aqr,Ac0 (by omega)]
 have e2:(UInt8.ofNat w).toNat=w:=by rw[Aqr,Ac0 (by omega)]
 rw[UInt8.toNat_or,Be4,e1,e2,Ac0 hw,Ark w,Nat.or_comm,<-Bhi hv,Aqr,Bnm v];rw[Ark]at hw;have hb:2^i*w+v<256:=by
  rw[Bhi hv];exact Nat.or_lt_two_pow (n:=8) hw (by omega)
 rw[Ac0 hb]
theorem Apv(p:List UInt8)(a n T:Nat)(h:T<=n)(hn:n<=64):Ci (Qx p a n) T=Qx p (a+T) (n-T):=by
 apply UInt64.toNat_inj.1;rw[HN,AF p a n hn,AF p (a+T) (n-T) (by omega)];have:=Qs p T a
 conv=>lhs;rw[show n=T+(n-T) by omega,SO,Nat.add_mul_div_left _ _ (Blo (by omega)),Bk6 this,Bh9]
theorem Aof(p:List UInt8)(a n T:Nat)(h:T<=n)(hn:n<=64):(Qx p a n).toNat %2^T=Ce p a T:=by
 have:=Qs p T a;rw[AF p a n hn]
 conv=>lhs;rw[show n=T+(n-T) by omega,SO,Nat.add_mul_mod_self_left,Ac0 this]
theorem Aij(bk:Int->Int->List UInt8->Option (List UInt8×Int×Int))(to':Int)(p:List UInt8)(N fr:Int)(r6:UInt64)(a:Nat):∀(j m q:Nat),m+j<=300000->j<=64->j<q->
  Sc bk to' p N fr r6 q (Qx p (a+m) j) (j:Int) (m:Int) (Sp p a m)=WQ bk to' p N fr ((m+j:Nat):Int) (Sp p a (m+j))
 |0,m,q+1,_,_,_=>by
  rw[Sc,XB,Aau (by rw[Aq];simp)];rfl
 |j+1,m,q+1,hm,hj,hq=>by
  have hroom:Sc bk to' p N fr r6 (q+1) (Qx p (a+m) (j+1)) ((j+1:Nat):Int) (m:Int) (Sp p a m)=XA (Sc bk to' p N fr r6 q) to' fr p N r6 (Qx p (a+m) (j+1)) ((j+1:Nat):Int) (m:Int) (room p a m):=by
   rw[Sc,XB,Abm (by rw[Aq];simp),Acw m (by omega),room];by_cases h0:m %8=0
   ·rw[Abm (by rw[Ar,h0];rfl),Bi (by rw[Jy];simp;omega),Aa,Abm h0]
   ·rw[Aau (by rw[Ar];simp;omega),Aau h0]
  have hl:Ao (Ac (room p a m)) 1=((m/8:Nat):Int):=by
   rw[Ac,Pu,Bw (by omega) (by omega)];omega
  have e2:Fm ((j+1:Nat):Int) (Ao (8:Int) ((m %8:Nat):Int))=((min (j+1) (8-m %8):Nat):Int):=by
   rw[OC,Bw (by omega) (by omega)];omega
  rw[hroom,XA,kW,Acw m (by omega),e2,hl];generalize hT:min (j+1) (8-m %8)=T;have hT1:1<=T:=by omega
  have hT8:m %8+T<=8:=by omega
  have hg:Ap (room p a m) ((m/8:Nat):Int)=some (UInt8.ofNat (Ce p (a+8*(m/8)) (m %8))):=by
   rw[Bn (by rw[Pu];omega),sA]
  have z1:(GI.toZ ((m %8:Nat):Int)).toNat=m %8:=rfl;have z2:(GI.toZ ((T:Nat):Int)).toNat=T:=rfl;have hlt:=zO p (a+8*(m/8)) (m %8+T) (by omega);have hadd:=SO p (m %8) T (a+8*(m/8));rw[show a+8*(m/8)+m %8=a+m by omega]at hadd;have hbyte:(Af (Fa (Qx p (a+m) (j+1)) (Ao (Dl (1:UInt64) T) (1:UInt64))):UInt8)=UInt8.ofNat (Ce p (a+m) T):=by
   rw[bA,Bl1 _ (by omega),Aof p (a+m) (j+1) T (by omega) hj]
  have hnew:wM (UInt8.ofNat (Ce p (a+8*(m/8)) (m %8))) (Dl (UInt8.ofNat (Ce p (a+m) T)) (m %8))=UInt8.ofNat (Ce p (a+8*(m/8)) (m %8+T)):=by
   rw[or8 (Qs _ _ _) (by rw[Ark];omega) (by omega),hadd,Ark (2^(m %8))]
  rw[hg,z1,z2,hbyte];simp only[Aa];rw[Bk (by rw[Dw];simp),Aa,Bk (by rw[Dw];simp;omega),Aa,hnew,Ui _ (by rw[Pu];omega),Aa,yP p a m T hT1 hT8,kB,yA,Acw m (by omega),e2,hT,Bk (by rw[Dw];simp),Aa,z2,Apv p (a+m) (j+1) T (by omega) hj,Bw (by omega) (by omega),Ah (by omega) (by omega)];have ih:=Aij bk to' p N fr r6 a (j+1-T) (m+T) q (by omega) (by omega) (by omega);rw[show m+T+(j+1-T)=m+(j+1) by omega]at ih;rw[<-ih,show a+m+T=a+(m+T) by omega,show((j+1:Nat):Int)-((T:Nat):Int)=((j+1-T:Nat):Int) by omega,show(m:Int)+((T:Nat):Int)=((m+T:Nat):Int) by omega]
theorem Aqt(p:List UInt8)(N:Int)(a n:Nat)(ha:a+n<=8*p.length)(hp:p.length<=1000000)(hn:n<=300000):∀(j m f q:Nat),(f=m\/n<=f/\m=n)->m+j=n->f<=n+64->j<q->BI ((a+n:Nat):Int) p N q ((a+f:Nat):Int) (m:Int) (Sp p a m)=some (Sp p a n,(n:Int),0)
 |j,m,f,q+1,hf,hm,hf2,hq=>by
  rw[BI,kT];by_cases hlt:f<n
  ·obtain rfl:f=m:=by omega
   have e1:Fm (64:Int) (Ao ((a+n:Nat):Int) ((a+f:Nat):Int))=((min 64 (n-f):Nat):Int):=by
    rw[OC,Bw (by omega) (by omega)];omega
   rw[Abm (by rw[Ae];simp;omega),e1,get_eq p N (a+f) _ (by omega) (by omega) hp,Aa,lL];have h1:=Aij (BI ((a+n:Nat):Int) p N q) ((a+n:Nat):Int) p N ((a+f:Nat):Int) (Qx p (a+f) (min 64 (n-f))) a (min 64 (n-f)) f Ax (by omega) (by omega) (by have:=As;omega);refine Bjl h1 ?_;rw[WQ,xA,Ah (by omega) (by omega),show((a+f:Nat):Int)+64=((a+(f+64):Nat):Int) by omega];exact Aqt p N a n ha hp hn (j-min 64 (n-f)) (f+min 64 (n-f)) (f+64) q (by omega) (by omega) (by omega) (by omega)
  ·rw[Aau (by rw[Ae];simp;omega),lR,xJ,show m=n by omega]
theorem Bke{p:List UInt8}{N:Nat}(h:okB p N)(a n:Nat)(ha:a+n<=N)(hn:n<=300000):oM p (N:Int) (a:Int) ((a+n:Nat):Int)=some (Sp p a n,(n:Int),0):=by
 obtain⟨h1,h2,h3⟩:=h;have:=Aqt p N a n (by omega) (by omega) hn n 0 0 Ax (by omega) (by omega) (by omega) (by have:=As;omega);rw[oM,pC,BT ⟨h1,h2,h3⟩,Aa,Aau (by rw[Aj];simp),Aau (by simp[Ae,Aq];omega),lF];exact this
def Ih(p:List UInt8):Nat->Nat->Nat
 |_,0=>0
 |a,m+1=>if Hv p a=1 then 1+Ih p (a+1) m else 0
theorem cV(p:List UInt8):∀(m a:Nat),Ih p a m<=m
 |0,_=>Arj _
 |m+1,a=>by rw[Ih];split<;>have:=cV p m (a+1)<;>omega
theorem Apz(p:List UInt8):∀(m a:Nat),∃s,Ce p a m+1=2^(Ih p a m+1)*s+2^Ih p a m/\ (Ih p a m=m->s=0)
 |0,a=>⟨0,by simp[Ce,Ih],λ_=>rfl⟩
 |m+1,a=>by
  have hb:=DI p a;obtain⟨s,h1,h2⟩:=Apz p m (a+1);by_cases h:Hv p a=1
  ·refine⟨s,?_,λe=>h2 ?_⟩
   ·rw[Ih,Abm h,Ce,h,show 1+Ih p (a+1) m+1=(Ih p (a+1) m+1)+1 by omega,show 1+Ih p (a+1) m=Ih p (a+1) m+1 by omega,Ax2,Ax2 (n:=2) (m:=Ih p (a+1) m)];rw[Ax2]at h1;generalize Ce p (a+1) m=V at*
    generalize 2^Ih p (a+1) m=W at*
    have e1:W*2*2*s=2*(W*2*s):=by rw[Nat.mul_right_comm (W*2) 2 s,Ark]
    omega
   ·rw[Ih,Abm h]at e;omega
  ·refine⟨Ce p (a+1) m,?_,λe=>?_⟩
   ·rw[Ih,Aau h,Ce];simp;omega
   ·rw[Ih,Aau h]at e;omega
theorem Bf9{n t s:Nat}(h:2^(t+1)*s+2^t<=2^n)(ht:t<n)(x:Nat)(hx:x=2^n-(2^(t+1)*s+2^t)):x&&& (2^(t+1)*s+2^t)=2^t:=by
 have hpos:0<2^t:=Blo (by omega);have hlt:2^t<2^(t+1):=by rw[Ax2];omega
 have e:x=2^n-((2^(t+1)*s+(2^t-1))+1):=by rw[hx];congr 1;omega
 apply Nat.eq_of_testBit_eq;intro i;rw[Nat.testBit_and,e,Nat.testBit_two_pow_sub_succ (by omega),Nat.testBit_two_pow_mul_add _ (by omega),Nat.testBit_two_pow_mul_add _ hlt];by_cases hi:i<t+1
 ·rw[Abm hi,Abm hi,Nat.testBit_two_pow_sub_one,Nat.testBit_two_pow];by_cases hit:t=i
  ·subst hit;simp;exact ht
  ·have:¬i=t:=λe=>hit e.symm;simp[hit]
 ·rw[Aau hi,Aau hi,Nat.testBit_two_pow];have:¬t=i:=by omega
  simp[this]
theorem Bbx(a:UInt64):(Agu a).toNat=18446744073709551615-a.toNat:=by
 have h:=a.toNat_lt;have e:Agu a=UInt64.ofNat (BitVec.ofInt 64 18446744073709551615^^^BitVec.ofInt 64 (a.toNat:Int)).toNat:=Jk _;have h1:BitVec.ofInt 64 (a.toNat:Int)=a.toBitVec:=Ane a;have h2:(BitVec.ofInt 64 18446744073709551615:BitVec 64)=BitVec.allOnes 64:=by decide
 rw[e,Aip,h1,h2,BitVec.allOnes_xor,BitVec.toNat_not];show(18446744073709551616-1-a.toNat) %18446744073709551616=18446744073709551615-a.toNat;omega
theorem Bc2(a:UInt64):(yW a).toNat=(18446744073709551616-a.toNat) %18446744073709551616:=by
 have h:=a.toNat_lt;have e:yW a=UInt64.ofNat ((0-(a.toNat:Int)) %18446744073709551616).toNat:=Anc _;rw[e,Aip];show((0-(a.toNat:Int)) %18446744073709551616).toNat %18446744073709551616=_;omega
def Bm6:List UInt8:=[0,1,56,2,57,49,28,3,61,58,42,50,38,29,17,4,62,47,59,36,45,43,51,22,53,39,33,30,24,18,12,5,63,55,48,27,60,41,37,16,46,35,44,21,52,32,23,11,54,26,40,15,34,20,31,10,25,14,19,9,13,8,7,6]
theorem Ax4:∀t:Fin 64,Ap Bm6 (GI.toZ (Ci (Bf (UInt64.ofNat (2^t.val)) (285870213051353865:UInt64)) (GI.toZ (58:UInt64)).toNat))=some (UInt8.ofNat t.val):=by decide +kernel
theorem Bna(x:UInt64)(t s:Nat)(ht:t<64)(h:x.toNat+(2^(t+1)*s+2^t)=18446744073709551616):Hx x=some (t:Int):=by
 have hpos:0<2^t:=Blo (by omega);have hx:x.toNat=2^64-(2^(t+1)*s+2^t):=by show x.toNat=18446744073709551616-_;omega
 have hle:2^t<=2^63:=Ad5 (by omega) (by omega);have hne:x≠0:=by
  intro e;rw[e]at h;have h':2^t*(2*s+1)=2^64:=by
   rw[Nat.mul_add,Nat.mul_one,<-Azz,<-Ax2]
   show _=18446744073709551616;simpa using h
  have h2:2^64=2^t*2^(64-t):=by rw[<-Bo9];congr 1;omega
  rw[h2]at h';have h3:=Nat.eq_of_mul_eq_mul_left hpos h';rw[show 64-t=(63-t)+1 by omega,Ax2]at h3;omega
 have hx0:x.toNat≠0:=λe=>hne (UInt64.toNat_inj.1 e);have hl:Fa x (yW x)=UInt64.ofNat (2^t):=by
  apply UInt64.toNat_inj.1;rw[Ahn,UInt64.toNat_and,Bc2,show(18446744073709551616-x.toNat) %18446744073709551616=2^(t+1)*s+2^t by omega,Bf9 (n:=64) (by show _<=18446744073709551616;omega) ht _ hx,Aip,Ac0];exact Blj hle (by decide)
 have hb:=Ax4 ⟨t,ht⟩;rw[Hx,Aau (by rw[Adp];simpa using hne),hl];refine Bjl (congrArg (λo=>Option.bind o λc=>some (Af c:Int)) hb) ?_;rw[Aa,XW,Aqr,Ac0 (by show t<256;omega)]
theorem Beo(p:List UInt8)(a m:Nat)(hm:m<=48):Hx (Agu (Qx p a m))=some ((Ih p a m:Nat):Int):=by
 obtain⟨s,h1,h2⟩:=Apz p m a;have hle:=cV p m a;have hlt:=Qs p m a;have h48:2^m<=2^48:=Ad5 (by omega) hm;have hn:(Agu (Qx p a m)).toNat=18446744073709551615-Ce p a m:=by rw[Bbx,AF p a m (by omega)]
 have h3:(281474976710656:Nat)=2^48:=rfl;refine Bna _ (Ih p a m) s (by omega) ?_;rw[hn];omega
def unS(p:List UInt8)(N a:Nat):Int×Int×Int:=
 if Ih p a (min 48 (N-a))<min 48 (N-a)then((Ih p a (min 48 (N-a)):Nat),((a+Ih p a (min 48 (N-a))+1:Nat):Int),0)else
 if Ih p a (min 48 (N-a))=48 then(48,((a+48:Nat):Int),0)else(0,0,24)
theorem Az3{p:List UInt8}{N:Nat}(h:okB p N)(a:Nat)(ha:a<N):PR p (N:Int) (a:Int)=some (unS p N a):=by
 have hN:=h.1;have e1:Fm (48:Int) (Ao (N:Int) (a:Int))=((min 48 (N-a):Nat):Int):=by rw[OC,Bw (by omega) (by omega)];omega
 have hle:=cV p (min 48 (N-a)) a;rw[PR,DH,BT h,Aa,Aau (by rw[Aj];simp),Aau (by rw[Ae];simp),Aau (by rw[Dw];simp;omega),e1,zR h a _ (by omega),Aau (by omega),Aa];simp only;rw[fG,dW,Aau (by rw[Aj];simp),Beo p a _ (by omega),Aa,eD,fI,e1,unS];by_cases h1:Ih p a (min 48 (N-a))<min 48 (N-a)
 ·rw[Abm (by rw[Ae];simp;omega),Abm h1,Ah (a:=(a:Int)) (by omega) (by omega),show Ad (0:Int) 1=1 by decide,Ah (by omega) (by omega)];congr 3;omega
 ·rw[Aau (by rw[Ae];simp;omega),Aau h1,dT,eK];by_cases h2:Ih p a (min 48 (N-a))=48
  ·rw[Abm (by rw[Ar,h2];rfl),Abm h2,h2,Ah (a:=(a:Int)) (by omega) (by omega),Ah (by omega) (by omega)];congr 3;omega
  ·rw[Aau (by rw[Ar];simp;omega),Aau h2];rfl
theorem Aj0(p:List UInt8):∀(m a:Nat),Ih p a m<m->Hv p (a+Ih p a m)≠1
 |0,_,h=>by simp[Ih]at h
 |m+1,a,h=>by
  by_cases hb:Hv p a=1
  ·rw[Ih,Abm hb]at h⊢;have:=Aj0 p m (a+1) (by omega);rwa [show a+(1+Ih p (a+1) m)=a+1+Ih p (a+1) m by omega]
  ·rw[Ih,Aau hb];exact hb
theorem Akq(p:List UInt8):∀(m a k:Nat),k<Ih p a m->Hv p (a+k)=1
 |0,a,k,h=>by simp[Ih]at h
 |m+1,a,k,h=>by
  by_cases hb:Hv p a=1
  ·rw[Ih,Abm hb]at h;cases k with
   |zero=>exact hb
   |succ k=>
    have:=Akq p m (a+1) k (by omega);rwa [show a+(k+1)=a+1+k by omega]
  ·rw[Ih,Aau hb]at h;omega
def unR(p:List UInt8)(N a:Nat):Int×Int:=if(unS p N a).2.2=0 then((unS p N a).1,(unS p N a).2.1)else(-1,0)
theorem Ahk{p:List UInt8}{N:Nat}(h:okB p N)(a:Nat)(ha:a<N):∀(j k q:Nat),k+j=Ih p a (min 48 (N-a))->j<q->Od (a:Int) p (N:Int) q (k:Int)=some (unR p N a)
 |0,k,q+1,hk,_=>by
  obtain⟨hN,hl,hz⟩:=h;have hle:=cV p (min 48 (N-a)) a;have hk':k=Ih p a (min 48 (N-a)):=by omega
  have e1:Ad (a:Int) (k:Int)=((a+k:Nat):Int):=by rw[Ah (by omega) (by omega)];omega
  have hend:CJ (a:Int) (k:Int) p (N:Int)=some (unR p N a):=by
   rw[CJ,WE,e1];by_cases h48:k=48
   ·have hu:unS p N a=(48,((a+48:Nat):Int),0):=by rw[unS,<-hk',Aau (by omega),Abm h48]
    rw[Abm (by rw[Ar,h48];rfl),unR,hu,h48];rfl
   ·rw[Aau (by rw[Ar];simp;omega)];by_cases hN2:N<=a+k
    ·have hu:unS p N a=(0,0,24):=by rw[unS,<-hk',Aau (by omega),Aau h48]
     rw[Abm (by rw[Dw];simp;omega),unR,hu];rfl
    ·have hu:unS p N a=(((k:Nat):Int),((a+k+1:Nat):Int),0):=by rw[unS,<-hk',Abm (by omega)]
     rw[Aau (by rw[Dw];simp;omega),unR,hu,Ah (by omega) (by omega)];rfl
  rw[Od,CN,e1];by_cases hc:a+k<N/\k<48
  ·have hb:=DI p (a+k);have hs:=Aj0 p (min 48 (N-a)) a (by omega);rw[<-hk']at hs;rw[Abm (by simp[Ae];omega),Aa7 p _ (a+k) (by omega) (by omega),Aa,Aau (by rw[Ar];simp;omega),hend]
  ·rw[Aau (by simp[Ae];omega),hend]
 |j+1,k,q+1,hk,hq=>by
  obtain⟨hN,hl,hz⟩:=h;have hle:=cV p (min 48 (N-a)) a;have hb:=Akq p (min 48 (N-a)) a k (by omega);have e1:Ad (a:Int) (k:Int)=((a+k:Nat):Int):=by rw[Ah (by omega) (by omega)];omega
  rw[Od,CN,e1,Abm (by simp[Ae];omega),Aa7 p _ (a+k) (by omega) (by omega),Aa,hb,Abm (by decide),Ah (by omega) (by omega)];exact Ahk ⟨hN,hl,hz⟩ a ha j (k+1) q (by omega) (by omega)
theorem Bbn{p:List UInt8}{N:Nat}(h:okB p N)(a:Nat)(ha:a<N):fS p (N:Int) (a:Int)=some (unR p N a):=by
 have hle:=cV p (min 48 (N-a)) a;have:=Ahk h a ha (Ih p a (min 48 (N-a))) 0 Ax (by omega) (by have:=As;omega);exact this
theorem Bau{p:List UInt8}{N a:Nat}(h:Ih p a (min 48 (N-a))<min 48 (N-a)):unS p N a=(((Ih p a (min 48 (N-a)):Nat):Int),((a+Ih p a (min 48 (N-a))+1:Nat):Int),0):=by rw[unS,Abm h]
theorem Bdr{p:List UInt8}{N a:Nat}(h:¬Ih p a (min 48 (N-a))<min 48 (N-a))(h2:Ih p a (min 48 (N-a))=48):unS p N a=(48,((a+48:Nat):Int),0):=by rw[unS,Aau h,Abm h2]
theorem Bap{p:List UInt8}{N a:Nat}(h:¬Ih p a (min 48 (N-a))<min 48 (N-a))(h2:¬Ih p a (min 48 (N-a))=48):unS p N a=(0,0,24):=by rw[unS,Aau h,Aau h2]
theorem Axc{p:List UInt8}{N:Nat}(h:okB p N)(a:Nat)(ha:N<=a):PR p (N:Int) (a:Int)=some (0,0,24):=by
 rw[PR,DH,BT h,Aa,Aau (by rw[Aj];simp),Aau (by rw[Ae];simp),Abm (by rw[Dw];simp;omega)]
def cQ(p:List UInt8)(N a k:Nat):UInt32×Int×Int:=
 if N<=a then(0,0,24)else
 if Ih p a (min 48 (N-a))<min 48 (N-a)then
  (if N<a+Ih p a (min 48 (N-a))+1+k then(0,0,24)else(UInt32.ofNat (Ih p a (min 48 (N-a))*2^k+Ce p (a+Ih p a (min 48 (N-a))+1) k),((a+Ih p a (min 48 (N-a))+1+k:Nat):Int),0))
 else if Ih p a (min 48 (N-a))=48 then
  (if N<a+48+32 then(0,0,24)else if Ce p (a+48) 32/2^k<48 then(0,0,12)else(UInt32.ofNat (Ce p (a+48) 32),((a+48+32:Nat):Int),0))
 else(0,0,24)
theorem xM{p:List UInt8}{a n:Nat}(h:n<=32):(Af (Qx p a n):UInt32)=UInt32.ofNat (Ce p a n):=by
 have e:(Af (Qx p a n):UInt32)=UInt32.ofNat (Qx p a n).toNat:=by simp only[Af,Lh,Gg]
 rw[e,AF p a n (by omega)]
theorem cR{n:Nat}(h:n<4294967296):(UInt32.ofNat n).toNat=n:=by rw[Ani];exact Ac0 h
theorem Aql(p:List UInt8)(a:Nat){n:Nat}(h:n<=32):Ce p a n<4294967296:=by
 have h1:=Qs p n a;have h2:2^n<=2^32:=Ad5 (by omega) h;omega
theorem Bki{q v k:Nat}(hq:q<48)(hv:v<2^k)(hk:k<=24):wM (Dl (Af (q:Int):UInt32) k) (UInt32.ofNat v)=UInt32.ofNat (q*2^k+v):=by
 have hp:2^k<=2^24:=Ad5 (by omega) hk;have h1:q*2^k<=47*2^24:=Bed (by omega) hp;rw[Bg5];apply UInt32.toNat_inj.1;rw[UInt32.toNat_or,oH,Ai9,cR (by omega),cR (n:=v) (by omega),Ac0 (by omega),Ark q,<-Bhi hv,cR (by rw[Ark];omega)]
theorem Bew{p:List UInt8}{N:Nat}(h:okB p N)(a k:Nat)(hk:k<=24):sD p (N:Int) (a:Int) (k:Int)=some (cQ p N a k):=by
 have hN:=h.1;rw[sD,kN,BT h,Aa,Aau (by rw[Aj];simp),Aau (by simp[Ae,Aq];omega)];by_cases ha:N<=a
 ·rw[Axc h a ha,Aa,cQ,Abm ha];rfl
 have hle:=cV p (min 48 (N-a)) a;rw[Az3 h a (by omega),Aa];by_cases h1:Ih p a (min 48 (N-a))<min 48 (N-a)
 ·have hS:cQ p N a k=if N<a+Ih p a (min 48 (N-a))+1+k then(0,0,24)else(UInt32.ofNat (Ih p a (min 48 (N-a))*2^k+Ce p (a+Ih p a (min 48 (N-a))+1) k),((a+Ih p a (min 48 (N-a))+1+k:Nat):Int),0):=by rw[cQ,Aau ha,Abm h1]
  rw[Bau h1,hS];generalize Ih p a (min 48 (N-a))=q at*
  simp only;rw[Aau (by rw[Aj];simp),Aau (by rw[Ar];simp;omega),WV,kR,zR h _ k (by omega),Aa];by_cases h2:N<a+q+1+k
  ·rw[Abm h2,Abm h2];rfl
  ·rw[Aau h2,Aau h2];simp only;have z:(GI.toZ (k:Int)).toNat=k:=rfl;rw[Aau (by rw[Aj];simp),Abm (by rw[Ae];simp;omega),Bk (by rw[Dw];simp),Aa,z,xM (by omega),Bki (by omega) (Qs _ _ _) hk,Ah (by omega) (by omega)];rfl
 ·by_cases h2:Ih p a (min 48 (N-a))=48
  ·have hS:cQ p N a k=if N<a+48+32 then(0,0,24)else if Ce p (a+48) 32/2^k<48 then(0,0,12)else(UInt32.ofNat (Ce p (a+48) 32),((a+48+32:Nat):Int),0):=by rw[cQ,Aau ha,Aau h1,Abm h2]
   have hg:=zR h (a+48) 32 (by omega);rw[Bdr h1 h2,hS];simp only;rw[Aau (by rw[Aj];simp),Abm (by rw[Ar];rfl),WV,kR];refine Bjl (congrArg (λo=>Option.bind o _) hg) ?_;rw[Aa];by_cases h3:N<a+48+32
   ·rw[Abm h3,Abm h3];rfl
   ·rw[Aau h3,Aau h3];simp only;have z:(GI.toZ (k:Int)).toNat=k:=rfl;have hv:=Aql p (a+48) (n:=32) (by omega);rw[Aau (by rw[Aj];simp),Aau (by rw[Ae];simp),AW,Bk (by rw[Dw];simp),Aa,Aa,z,xM (by omega),Aub];have e:(decide ((48:UInt32).toNat<= (Ci (UInt32.ofNat (Ce p (a+48) 32)) k).toNat))=decide (¬Ce p (a+48) 32/2^k<48):=by
     rw[SP,cR hv];simp
    rw[e];by_cases h4:Ce p (a+48) 32/2^k<48
    ·rw[Abm (by simp[h4]),Abm h4]
    ·rw[Aau (by simp;omega),Aau h4,Ah (by omega) (by omega)];rfl
  ·rw[Bap h1 h2,cQ,Aau ha,Aau h1,Aau h2];rfl
theorem Ag8(k:Nat)(hk:k<=63):∀(j i q:Nat),i+j=k->j<q->Lm (k:Int) q (UInt64.ofNat (2^i)) (i:Int)=some (UInt64.ofNat (2^k))
 |0,i,q+1,hi,_=>by
  rw[Lm,Ya,Aau (by rw[Ae];simp;omega),show i=k by omega];rfl
 |j+1,i,q+1,hi,hq=>by
  have e:Bf (UInt64.ofNat (2^i)) (2:UInt64)=UInt64.ofNat (2^(i+1)):=by
   rw[RY,Ax2,UInt64.ofNat_mul];rfl
  rw[Lm,Ya,Abm (by rw[Ae];simp;omega),Ah (by omega) (by omega),e];exact Ag8 k hk j (i+1) q (by omega) (by omega)
theorem SV(k:Nat)(hk:k<=63):Hb (k:Int)=some (UInt64.ofNat (2^k)):=
 Ag8 k hk k 0 Ax (by omega) (by have:=As;omega)
theorem bY{k:Nat}(hk:k<=63):(UInt64.ofNat (2^k)).toNat=2^k:=by
 have hp:2^k<=2^63:=Ad5 (by omega) hk;rw[Aip,Ac0 (by omega)]
theorem Bff(v:UInt32)(k:Nat)(hk:k<=24):JR v (k:Int)=some ((min 48 (v.toNat/2^k):Nat):Int):=by
 have hpos:0<2^k:=Blo (by omega);have hv:=v.toNat_lt;rw[JR,SV k (by omega),Aa,Bk (by rw[WS];simp only[Bo3,ne_eq,<-Bnx,bY (show k<=63 by omega)];simp),Aa];have e:(Br (Af v:UInt64) (UInt64.ofNat (2^k))).toNat=v.toNat/2^k:=by
  rw[yY,Bpd,Dr,bY (by omega),Aip,Ac0 (by omega)]
 have hle:v.toNat/2^k<=v.toNat:=Atr _ _;have e2:Fm (48:UInt64) (Br (Af v:UInt64) (UInt64.ofNat (2^k)))=UInt64.ofNat (min 48 (v.toNat/2^k)):=by
  apply UInt64.toNat_inj.1;rw[Aip,Ac0 (by omega)];show(if _ then _ else _:UInt64).toNat=_;rw[show(GI.toZ (Br (Af v:UInt64) (UInt64.ofNat (2^k))))=((v.toNat/2^k:Nat):Int) by rw[Lh,e],show GI.toZ (48:UInt64)=48 from rfl];split
  ·rw[e];omega
  ·show 48=_;omega
 rw[e2,Aal (by rw[Aip,Ac0]<;>omega),Aip,Ac0 (by omega)]
theorem Bdk{p:List UInt8}{N:Nat}(h:okB p N)(a k:Nat)(hk:k<=24):OK p (N:Int) (a:Int) (k:Int)=some (cQ p N a k):=by
 obtain⟨hN,hl,hz⟩:=h;have h:okB p N:=⟨hN,hl,hz⟩;rw[OK,WA];by_cases ha:N<=a
 ·rw[Abm (by rw[Dw];simp;omega),cQ,Abm ha]
 have hle:=cV p (min 48 (N-a)) a;rw[Aau (by rw[Dw];simp;omega),Bbn h a (by omega),Aa,unR];by_cases h1:Ih p a (min 48 (N-a))<min 48 (N-a)
 ·have hS:cQ p N a k=if N<a+Ih p a (min 48 (N-a))+1+k then(0,0,24)else(UInt32.ofNat (Ih p a (min 48 (N-a))*2^k+Ce p (a+Ih p a (min 48 (N-a))+1) k),((a+Ih p a (min 48 (N-a))+1+k:Nat):Int),0):=by rw[cQ,Aau ha,Abm h1]
  rw[Bau h1,hS];generalize Ih p a (min 48 (N-a))=q at*
  rw[Abm rfl];simp only;rw[Aau (by rw[Ar];simp;omega),CV,DB,Bw (by omega) (by omega)];by_cases h2:N<a+q+1+k
  ·rw[Abm (by simp[Ae];omega),Abm h2]
  ·have hp:2^k<=2^24:=Ad5 (by omega) hk;have hm:q*2^k<=47*2^24:=Bed (by omega) hp;have hv:=Qs p k (a+q+1);have e:(Af (Ad (Bf (Af (q:Int):UInt64) (UInt64.ofNat (2^k))) (Qx p (a+q+1) k)):UInt32)=UInt32.ofNat (q*2^k+Ce p (a+q+1) k):=by
    have e1:Ad (Bf (Af (q:Int):UInt64) (UInt64.ofNat (2^k))) (Qx p (a+q+1) k)=UInt64.ofNat (q*2^k+Ce p (a+q+1) k):=by
     rw[RT,RY,Xi,Qx,UInt64.ofNat_add,UInt64.ofNat_mul]
    rw[e1];have e2:∀x:UInt64,(Af x:UInt32)=UInt32.ofNat x.toNat:=λx=>by simp only[Af,Lh,Gg]
    rw[e2,Aip,Ac0 (by omega)]
   rw[Aau (by simp[Ae];omega),Aau h2,wQ p _ _ k (by omega) (by omega),Aa,Abm (by rw[Ae];simp;omega),SV k (by omega),Aa,e,Ah (by omega) (by omega)];rfl
 ·by_cases h2:Ih p a (min 48 (N-a))=48
  ·have hS:cQ p N a k=if N<a+48+32 then(0,0,24)else if Ce p (a+48) 32/2^k<48 then(0,0,12)else(UInt32.ofNat (Ce p (a+48) 32),((a+48+32:Nat):Int),0):=by rw[cQ,Aau ha,Aau h1,Abm h2]
   rw[Bdr h1 h2,hS,Abm rfl];simp only;rw[Abm (by rw[Ar];rfl),CV,DB,Bw (by omega) (by omega)];by_cases h3:N<a+48+32
   ·rw[Abm (by simp[Ae];omega),Abm h3]
   ·have hg:=wQ p (N:Int) (a+48) 32 (by omega) (by omega);have hv:=Aql p (a+48) (n:=32) (by omega);rw[Aau (by simp[Ae];omega),Aau h3];refine Bjl (congrArg (λo=>Option.bind o _) hg) ?_;rw[Aa,Aau (by rw[Ae];simp),xM (by omega),Bff _ k hk,Aa,cR hv];by_cases h4:Ce p (a+48) 32/2^k<48
    ·rw[Abm (by rw[Ae];simp;omega),Abm h4]
    ·rw[Aau (by rw[Ae];simp;omega),Aau h4,Ah (by omega) (by omega)];rfl
  ·rw[Bap h1 h2,cQ,Aau ha,Aau h1,Aau h2];have e:(if((0:Int),(0:Int),(24:Int)).2.2=0 then(((0:Int),(0:Int),(24:Int)).1,((0:Int),(0:Int),(24:Int)).2.1)else((-1:Int),(0:Int)))=(-1,0):=by decide
   rw[e];rfl
theorem Bjx{p:List UInt8}{N a k:Nat}{v:UInt32}{n:Int}(h:cQ p N a k=(v,n,0)):(a:Int)<n/\n<=N:=by
 unfold cQ at h;split at h
 ·simp at h
 split at h
 ·split at h
  ·simp at h
  ·simp only[Ae3]at h;omega
 ·split at h
  ·split at h
   ·simp at h
   ·split at h
    ·simp at h
    ·simp only[Ae3]at h;omega
  ·simp at h
def okD(k l:Nat)(s t:UInt64):Prop:=k<=24/\l<=24/\s.toNat<=68719476735/\t.toNat<=68719476735
theorem Aqa(a b:UInt64)(h:a.toNat<=b.toNat):Fm a b=a:=by
 show(if _ then _ else _)=_;rw[Lh,Lh,Aau (by omega)]
theorem zH(a:UInt64):geq a a=true:=by rw[Adp];simp
theorem Ba6{k l:Nat}{s t:UInt64}(h:okD k l s t):aA (k:Int) (l:Int) s t=some 0:=by
 obtain⟨h1,h2,h3,h4⟩:=h;have e1:Fm (tP (k:Int) 0) 24=(k:Int):=by rw[OC,Alv];omega
 have e2:Fm (tP (l:Int) 0) 24=(l:Int):=by rw[OC,Alv];omega
 have e3:Fm s (68719476735:UInt64)=s:=Aqa _ _ (by simpa using h3);have e4:Fm t (68719476735:UInt64)=t:=Aqa _ _ (by simpa using h4);have e5:∀a:Int,geq a a=true:=λa=>by rw[Ar];simp
 rw[aA,QL,eC,QH,eA,uG,e1,e2,e3,e4,e5,e5,zH,zH];rfl
def Zh(s n:UInt64):UInt64:=s+n-s/16
def kS(k:Nat)(s:UInt64):Nat:=if 0<k/\s.toNat<2^(k+4)then k-1 else if k<24/\2^(k+5)<s.toNat then k+1 else k
theorem Bie{k:Nat}(h:k<=24)(s:UInt64):kS k s<=24:=by
 unfold kS;by_cases h1:0<k/\s.toNat<2^(k+4)
 ·rw[Abm h1];omega
 ·rw[Aau h1];split<;>omega
theorem Au5{k:Nat}{s:UInt64}(h:¬(0<k/\s.toNat<2^(k+4))):(if k<24/\2^(k+5)<s.toNat then((k+1:Nat):Int)else(k:Int))=((kS k s:Nat):Int):=by
 rw[kS,Aau h];split<;>rfl
theorem Auv{s n:UInt64}(h:s.toNat<=68719476735)(hn:n.toNat<=4294967295):(Zh s n).toNat<=68719476735:=by
 have h1:=s.toNat_lt;have e:(s+n).toNat=s.toNat+n.toNat:=by rw[UInt64.toNat_add];omega
 have e2:(s/16).toNat=s.toNat/16:=by rw[Bpd];rfl
 rw[Zh,UInt64.toNat_sub_of_le _ _ (by rw[UInt64.le_iff_toNat_le,e,e2];omega),e,e2];omega
theorem fM(s n:UInt64):Ad s (Ao n (Ci s (GI.toZ (4:UInt64)).toNat))=Zh s n:=by
 have e:Ci s (GI.toZ (4:UInt64)).toNat=s/16:=by
  apply UInt64.toNat_inj.1;rw[HN,Bpd];rfl
 rw[e,RT,wW,Zh,UInt64.sub_eq_add_neg,UInt64.sub_eq_add_neg,UInt64.add_assoc]
theorem Aux(s n:UInt64):Ao (Ad s n) (Br s (16:UInt64))=Zh s n:=by rw[RT,wW,yY,Zh]
theorem Bm4{k:Nat}(h:k<=24):(Dl (16:UInt64) k).toNat=2^(k+4):=by
 have hp:2^k<=2^24:=Ad5 (by omega) h;rw[ZS,Bo9]
 show 16*2^k %_=2^k*16;rw[Ac0 (by omega),Ark]
theorem Bju{k:Nat}(h:k<=24):(Dl (32:UInt64) k).toNat=2^(k+5):=by
 have hp:2^k<=2^24:=Ad5 (by omega) h;rw[ZS,Bo9]
 show 32*2^k %_=2^k*32;rw[Ac0 (by omega),Ark]
theorem Bil{k:Nat}{s:UInt64}(h:0<k)(h2:s.toNat<2^(k+4)):kS k s=k-1:=by rw[kS,Abm ⟨h,h2⟩]
theorem Bip{k:Nat}{s:UInt64}(h:¬(0<k/\s.toNat<2^(k+4)))(h2:k<24)(h3:2^(k+5)<s.toNat):kS k s=k+1:=by rw[kS,Aau h,Abm ⟨h2,h3⟩]
theorem Aug{k:Nat}{s:UInt64}(h:¬(0<k/\s.toNat<2^(k+4)))(h2:¬(k<24/\2^(k+5)<s.toNat)):kS k s=k:=by rw[kS,Aau h,Aau h2]
theorem Avc{α:Type}(k:Nat)(hk:k<=24)(s:UInt64)(f:Int->Option α):
  (if(Ed (k:Int) (0:Int))=true then(
   Option.bind (Jg (Nf (k:Int) (0:Int))) λ_=>
   if(Cq s (Dl (16:UInt64) (GI.toZ (k:Int)).toNat))=true then f (Ao (k:Int) (1:Int))
   else(if(Cq (k:Int) (24:Int))=true then(
    Option.bind (Jg (Nf (k:Int) (0:Int))) λ_=>
    if(Ed s (Dl (32:UInt64) (GI.toZ (k:Int)).toNat))=true then f (Ad (k:Int) (1:Int))else f (k:Int))
    else f (k:Int)))
  else(if(Cq (k:Int) (24:Int))=true then(
    Option.bind (Jg (Nf (k:Int) (0:Int))) λ_=>
    if(Ed s (Dl (32:UInt64) (GI.toZ (k:Int)).toNat))=true then f (Ad (k:Int) (1:Int))else f (k:Int))
    else f (k:Int)))=f ((kS k s:Nat):Int):=by
 have z:(GI.toZ (k:Int)).toNat=k:=rfl;rw[z,Bk (by rw[Dw];simp)];simp only[Aa];rw[Adq,dE,Bm4 hk,Bju hk];by_cases h0:0<k
 ·rw[Abm (by rw[Aq];simp;omega)];by_cases h1:s.toNat<2^(k+4)
  ·rw[Abm (by simp[h1]),Bil h0 h1,Bw (by omega) (by omega)];congr 1;omega
  ·rw[Aau (by simp;omega)];by_cases h2:k<24
   ·rw[Abm (by rw[Ae];simp;omega)];by_cases h3:2^(k+5)<s.toNat
    ·rw[Abm (by simp[h3]),Bip (λh=>h1 h.2) h2 h3,Ah (by omega) (by omega)];rfl
    ·rw[Aau (by simp;omega),Aug (λh=>h1 h.2) (λh=>h3 h.2)]
   ·rw[Aau (by rw[Ae];simp;omega),Aug (λh=>h1 h.2) (λh=>h2 h.1)]
 ·rw[Aau (by rw[Aq];simp;omega)];by_cases h2:k<24
  ·rw[Abm (by rw[Ae];simp;omega)];by_cases h3:2^(k+5)<s.toNat
   ·rw[Abm (by simp[h3]),Bip (λh=>h0 h.1) h2 h3,Ah (by omega) (by omega)];rfl
   ·rw[Aau (by simp;omega),Aug (λh=>h0 h.1) (λh=>h3 h.2)]
  ·rw[Aau (by rw[Ae];simp;omega),Aug (λh=>h0 h.1) (λh=>h2 h.1)]
theorem Awu(k:Nat)(hk:k<=24)(s n:UInt64):Yr (k:Int) s n=some (((kS k (Zh s n):Nat):Int),Zh s n):=by
 have g1:Ad (k:Int) 4=((k+4:Nat):Int):=by rw[Ah (by omega) (by omega)];omega
 have g2:Ad (k:Int) 5=((k+5:Nat):Int):=by rw[Ah (by omega) (by omega)];omega
 have hp:AO (k:Int) s n=some (if k<24/\2^(k+5)<(Zh s n).toNat then((k+1:Nat):Int)else(k:Int),Zh s n):=by
  rw[AO,SL,g2,SV _ (by omega),Aa,Aux,dE,bY (by omega)];by_cases h2:k<24
  ·rw[Abm (by rw[Ae];simp;omega)];by_cases h3:2^(k+5)<(Zh s n).toNat
   ·rw[Abm (by simp[h3]),Abm ⟨h2,h3⟩,Ah (by omega) (by omega)];rfl
   ·rw[Aau (by simp;omega),Aau (λh=>h3 h.2)]
  ·rw[Aau (by rw[Ae];simp;omega),Aau (λh=>h2 h.1)]
 rw[Yr,RO,g1,SV _ (by omega),Aa,Aux,Adq,bY (by omega),hp];by_cases h0:0<k
 ·rw[Abm (by rw[Aq];simp;omega)];by_cases h1:(Zh s n).toNat<2^(k+4)
  ·rw[Abm (by simp[h1]),Bil h0 h1,Bw (by omega) (by omega)];congr 2;omega
  ·rw[Aau (by simp;omega),Au5 (λh=>h1 h.2)]
 ·rw[Aau (by rw[Aq];simp;omega),Au5 (λh=>h0 h.1)]
def n64(v:UInt32):UInt64:=UInt64.ofNat v.toNat
theorem Ba7(v:UInt32):(n64 v).toNat<=4294967295:=by have:=v.toNat_lt;rw[n64,Aip,Ac0 (by omega)];omega
def mL(k:Nat)(v:UInt32):UInt32:=UInt32.ofNat (v.toNat-2^k)
def lK(l:Nat)(t:UInt64)(k:Nat)(v:UInt32):Nat:=if v.toNat<2^k then l else kS l (Zh t (n64 (mL k v)))
def lT(t:UInt64)(k:Nat)(v:UInt32):UInt64:=if v.toNat<2^k then t else Zh t (n64 (mL k v))
theorem Bdt{k l:Nat}{s t:UInt64}(h:okD k l s t)(v:UInt32):okD (kS k (Zh s (n64 v))) (lK l t k v) (Zh s (n64 v)) (lT t k v):=by
 obtain⟨h1,h2,h3,h4⟩:=h;refine⟨Bie h1 _,?_,Auv h3 (Ba7 v),?_⟩
 ·unfold lK;split; · exact h2
  exact Bie h2 _
 ·unfold lT;split; · exact h4
  exact Auv h4 (Ba7 _)
theorem Bi9(k l:Nat)(s t:UInt64)(hk:k<=24)(v:UInt32):OM (k:Int) (l:Int) s t v=some (decide (v.toNat<2^k)):=by
 have:=v.toNat_lt;rw[OM,SV k (by omega),Aa,Adq,bY (by omega),Dr,Aip,Ac0 (by omega)]
theorem left_eq(k l:Nat)(s t:UInt64)(hk:k<=24)(v:UInt32)(h:¬v.toNat<2^k):IJ (k:Int) (l:Int) s t v=some (mL k v):=by
 have:=v.toNat_lt;have e2:∀x:UInt64,(Af x:UInt32)=UInt32.ofNat x.toNat:=λx=>by simp only[Af,Lh,Gg]
 have e3:(UInt64.ofNat v.toNat).toNat=v.toNat:=by rw[Aip,Ac0 (by omega)]
 rw[IJ,SV k (by omega),Aa,e2,wW,Dr,UInt64.toNat_sub_of_le _ _ (by rw[UInt64.le_iff_toNat_le,bY (by omega),e3];omega),bY (by omega),e3,mL]
theorem Ayg{k l:Nat}{s t:UInt64}(h:okD k l s t)(v:UInt32):CE (k:Int) (l:Int) s t v=some (((kS k (Zh s (n64 v)):Nat):Int),((lK l t k v:Nat):Int),Zh s (n64 v),lT t k v):=by
 obtain⟨h1,h2,h3,h4⟩:=h;have hp:∀(r1:Int) (r2:UInt64),Vo v (k:Int) (l:Int) s t r1 r2=some (((kS k (Zh s (n64 v)):Nat):Int),r1,Zh s (n64 v),r2):=by
  intro r1 r2;rw[Vo,JO,Dr,Awu k h1,Aa];rfl
 rw[CE,LY,Bi9 k l s t h1,Aa];by_cases hv:v.toNat<2^k
 ·rw[Aau (by simp[hv]),hp,lK,Abm hv,lT,Abm hv]
 ·rw[Abm (by simp;omega),left_eq k l s t h1 v hv,Aa,Dr,Awu l h2,Aa];simp only;rw[hp,lK,Aau hv,lT,Aau hv];rfl
theorem Ahz(k l:Nat)(s t:UInt64)(hk:k<=24)(v:UInt32):QF (k:Int) (l:Int) s t v=some (if v.toNat<2^k then(0,v)else(1,mL k v)):=by
 have hp:2^k<=2^24:=Ad5 (by omega) hk;have hpos:0<2^k:=Blo (by omega);have hl:=v.toNat_lt;have z:(GI.toZ (k:Int)).toNat=k:=rfl;have e1:geq (Ci v k) (0:UInt32)=decide (v.toNat<2^k):=by
  rw[Ana,Ajs];simp only[Aur,<-UInt32.toNat_inj,SP,Acm]
  show _/_=0↔_;rw[Nat.div_eq_zero_iff];omega
 have e2:¬v.toNat<2^k->Ao v (Dl (1:UInt32) k)=mL k v:=by
  intro h;have e3:(Dl (1:UInt32) k).toNat=2^k:=by rw[oH];show 1*2^k %_=_;rw[Ac0 (by omega),Be6]
  apply UInt32.toNat_inj.1;rw[Ahc,UInt32.toNat_sub_of_le _ _ (by rw[UInt32.le_iff_toNat_le,e3];omega),e3,mL,cR (by omega)]
 rw[QF,Bk (by rw[Dw];simp),Aa,Aa,z,e1];by_cases h:v.toNat<2^k
 ·rw[Abm (by simp[h]),Abm h]
 ·rw[Aau (by simp;omega),Aau h,e2 h]
abbrev Rd:=UInt32×Int×Int×Int×UInt64×UInt64×Int
theorem Ah8{k l:Nat}{s t:UInt64}(h:okD k l s t)(v:UInt32)(r:Int):WY (k:Int) (l:Int) s t v r=some (v,r,((kS k (Zh s (n64 v)):Nat):Int),((lK l t k v:Nat):Int),Zh s (n64 v),lT t k v,0):=by
 obtain⟨h1,h2,h3,h4⟩:=h;have hp:∀(x:Int) (y:UInt64),MN v r (k:Int) s x y=some (v,r,((kS k (Zh s (n64 v)):Nat):Int),x,Zh s (n64 v),y,0):=by
  intro x y;rw[MN,kX,Dr,fM,Avc k h1];rw[jI,jA,dP,uK,Dr,fM];rfl
 rw[WY,kY,Ahz k l s t h1,Aa];by_cases hv:v.toNat<2^k
 ·rw[Abm hv];simp only;rw[Aau (by rw[Ar];simp),hp,lK,Abm hv,lT,Abm hv]
 ·rw[Aau hv];simp only;rw[Abm (by rw[Ar];rfl),Dr,fM,Avc l h2 _ (λx=>MN v r (k:Int) s x (Zh t (UInt64.ofNat (mL k v).toNat))),hp,lK,Aau hv,lT,Aau hv];rfl
def iZ(p:List UInt8)(N a k l:Nat):UInt32×Int×Int:=
 if N<=a then(0,0,24)else
 if Hv p a=0 then(if N<a+1+k then(0,0,24)else(UInt32.ofNat (Ce p (a+1) k),((a+1+k:Nat):Int),0))else
 if(cQ p N (a+1) l).2.2≠0 then(0,0,(cQ p N (a+1) l).2.2)else
 if 4294967295<(cQ p N (a+1) l).1.toNat+2^k then(0,0,12)else(UInt32.ofNat ((cQ p N (a+1) l).1.toNat+2^k),(cQ p N (a+1) l).2.1,0)
theorem Bkw{p:List UInt8}{N a k l:Nat}(h:(iZ p N a k l).2.2=0):(a:Int)<(iZ p N a k l).2.1/\ (iZ p N a k l).2.1<=N:=by
 revert h
 unfold iZ;split
 ·simp
 split
 ·split
  ·simp
  ·simp only;omega
 ·split
  ·intro h;contradiction
  ·rename_i h1;split
   ·simp
   ·intro _;have:=Bjx (p:=p) (N:=N) (a:=a+1) (k:=l) (v:=(cQ p N (a+1) l).1) (n:=(cQ p N (a+1) l).2.1) (by
     have e:(cQ p N (a+1) l).2.2=0:=by simpa using h1
     rw[<-e])
    simp only;omega
theorem Ben{p:List UInt8}{N:Nat}(h:okB p N)(a:Nat){k l:Nat}{s t:UInt64}(hd:okD k l s t):OI p (N:Int) (a:Int) (k:Int) (l:Int) s t=
  some (if(iZ p N a k l).2.2≠0 then(0,0,0,0,0,0,(iZ p N a k l).2.2)else((iZ p N a k l).1,(iZ p N a k l).2.1,((kS k (Zh s (n64 (iZ p N a k l).1)):Nat):Int),((lK l t k (iZ p N a k l).1:Nat):Int),Zh s (n64 (iZ p N a k l).1),lT t k (iZ p N a k l).1,0)):=by
 obtain⟨h1,h2,h3,h4⟩:=hd;have hd:okD k l s t:=⟨h1,h2,h3,h4⟩;have hN:=h.1;have hg:=zR h a 1 (by omega);have hb:=DI p a;rw[OI,jR,BT h,Aa,Aau (by rw[Aj];simp),Ba6 hd,Aa,Aau (by rw[Aj];simp),kG,kO];refine Bjl (congrArg (λo=>Option.bind o _) hg) ?_;rw[Aa];by_cases ha:N<=a
 ·have hS:iZ p N a k l=(0,0,24):=by rw[iZ,Abm ha]
  rw[Abm (by omega),hS];rfl
 rw[Aau (by omega)];simp only;have e0:geq (Qx p a 1) (0:UInt64)=decide (Hv p a=0):=by
  rw[Adp,Ajs];simp only[Aur,<-Bnx,Acm,AF p a 1 (by omega),wX];rfl
 have e1:Ad (a:Int) 1=((a+1:Nat):Int):=by rw[Ah (by omega) (by omega)];omega
 rw[Aau (by rw[Aj];simp),e0,e1];by_cases hz:Hv p a=0
 ·rw[Abm (by simp[hz]),zR h (a+1) k (by omega),Aa];by_cases h5:N<a+1+k
  ·have hS:iZ p N a k l=(0,0,24):=by rw[iZ,Aau ha,Abm hz,Abm h5]
   rw[Abm h5,hS];rfl
  ·have hS:iZ p N a k l=(UInt32.ofNat (Ce p (a+1) k),((a+1+k:Nat):Int),0):=by rw[iZ,Aau ha,Abm hz,Aau h5]
   rw[Aau h5,hS];simp only;rw[Aau (by rw[Aj];simp),Ah8 hd,xM (by omega),Ah (by omega) (by omega)];rfl
 ·rw[Aau (by simp[hz]),Bew h (a+1) l h2,Aa];have hp:2^k<=2^24:=Ad5 (by omega) h1;by_cases h5:(cQ p N (a+1) l).2.2≠0
  ·have hS:iZ p N a k l=(0,0,(cQ p N (a+1) l).2.2):=by rw[iZ,Aau ha,Aau hz,Abm h5]
   rw[hS];generalize cQ p N (a+1) l=R at*
   obtain⟨v,n,e⟩:=R;simp only at*
   rw[Abm (by rw[Aj];simpa using h5),Abm h5]
  ·have hv:=(cQ p N (a+1) l).1.toNat_lt;have z:(GI.toZ (k:Int)).toNat=k:=rfl;have e3:(Dl (1:UInt32) k).toNat=2^k:=by rw[oH];show 1*2^k %_=_;rw[Ac0 (by omega),Be6]
   by_cases h6:4294967295<(cQ p N (a+1) l).1.toNat+2^k
   ·have hS:iZ p N a k l=(0,0,12):=by rw[iZ,Aau ha,Aau hz,Aau h5,Abm h6]
    rw[hS];generalize cQ p N (a+1) l=R at*
    obtain⟨v,n,e⟩:=R;simp only at*
    rw[Aau (by rw[Aj];simpa using h5),Bk (by rw[Dw];simp),Aa,z,Abm (by rw[Auc,Ahw,UInt32.toNat_add,e3];simp;omega),Abm (by decide)]
   ·have hS:iZ p N a k l=(UInt32.ofNat ((cQ p N (a+1) l).1.toNat+2^k),(cQ p N (a+1) l).2.1,0):=by rw[iZ,Aau ha,Aau hz,Aau h5,Aau h6]
    rw[hS];generalize cQ p N (a+1) l=R at*
    obtain⟨v,n,e⟩:=R;simp only at*
    have e4:Ad v (Dl (1:UInt32) k)=UInt32.ofNat (v.toNat+2^k):=by
     apply UInt32.toNat_inj.1;rw[Ahw,UInt32.toNat_add,e3,cR (by omega),Ac0 (by omega)]
    rw[Aau (by rw[Aj];simpa using h5),Bk (by rw[Dw];simp),Aa,z,Aau (by rw[Auc,Ahw,UInt32.toNat_add,e3];simp;omega),e4,Ah8 hd];rfl
theorem Bca{p:List UInt8}{N:Nat}(h:okB p N)(a:Nat)(k l:Nat)(s t:UInt64)(h1:k<=24)(h2:l<=24):PN p (N:Int) (a:Int) (k:Int) (l:Int) s t=some (iZ p N a k l):=by
 have hN:=h.1;have hl:=h.2.1;have hb:=DI p a;rw[PN];by_cases ha:N<=a
 ·rw[Abm (by rw[Dw];simp;omega),iZ,Abm ha]
 rw[Aau (by rw[Dw];simp;omega),Aa7 p _ a (by omega) (by omega),Aa,Bw (a:=(N:Int)) (b:=(a:Int)) (by omega) (by omega),Bw (by omega) (by omega)];have e1:Ad (a:Int) 1=((a+1:Nat):Int):=by rw[Ah (by omega) (by omega)];omega
 rw[e1];by_cases hz:Hv p a=0
 ·rw[Abm (by rw[Ar];simp[hz])];by_cases h5:N<a+1+k
  ·rw[Abm (by rw[Ae];simp;omega),iZ,Aau ha,Abm hz,Abm h5]
  ·rw[Aau (by rw[Ae];simp;omega),wQ p _ (a+1) k (by omega) (by omega),Aa,iZ,Aau ha,Abm hz,Aau h5,xM (by omega),Ah (by omega) (by omega)];rfl
 ·rw[Aau (by rw[Ar];simp;omega),Bdk h (a+1) l h2,Aa];have hp:2^k<=2^24:=Ad5 (by omega) h1;have hv:=(cQ p N (a+1) l).1.toNat_lt;have e2:∀x:UInt64,(Af x:UInt32)=UInt32.ofNat x.toNat:=λx=>by simp only[Af,Lh,Gg]
  by_cases h5:(cQ p N (a+1) l).2.2≠0
  ·have hS:iZ p N a k l=(0,0,(cQ p N (a+1) l).2.2):=by rw[iZ,Aau ha,Aau hz,Abm h5]
   rw[hS];generalize cQ p N (a+1) l=R at*
   obtain⟨v,n,e⟩:=R;simp only at*
   rw[Abm (by rw[Aj];simpa using h5)]
  ·have hsum:∀v:UInt32,(Ad (Af v:UInt64) (UInt64.ofNat (2^k))).toNat=v.toNat+2^k:=by
    intro v;have:=v.toNat_lt;have:=Blo (n:=k) (show 0<2 by omega);rw[RT,UInt64.toNat_add,Dr,bY (by omega),Aip];omega
   by_cases h6:4294967295<(cQ p N (a+1) l).1.toNat+2^k
   ·have hS:iZ p N a k l=(0,0,12):=by rw[iZ,Aau ha,Aau hz,Aau h5,Abm h6]
    rw[hS];generalize cQ p N (a+1) l=R at*
    obtain⟨v,n,e⟩:=R;simp only at*
    rw[Aau (by rw[Aj];simpa using h5),SV k (by omega),Aa,Abm (by rw[dE,hsum];simpa using h6)]
   ·have hS:iZ p N a k l=(UInt32.ofNat ((cQ p N (a+1) l).1.toNat+2^k),(cQ p N (a+1) l).2.1,0):=by rw[iZ,Aau ha,Aau hz,Aau h5,Aau h6]
    rw[hS];generalize cQ p N (a+1) l=R at*
    obtain⟨v,n,e⟩:=R;simp only at*
    rw[Aau (by rw[Aj];simpa using h5),SV k (by omega),Aa,Aau (by rw[dE,hsum];simpa using h6),e2,hsum]
abbrev DuN:=Nat×Nat×UInt64×UInt64
def okN(d:DuN):Prop:=okD d.1 d.2.1 d.2.2.1 d.2.2.2
def nxt(d:DuN)(v:UInt32):DuN:=(kS d.1 (Zh d.2.2.1 (n64 v)),lK d.2.1 d.2.2.2 d.1 v,Zh d.2.2.1 (n64 v),lT d.2.2.2 d.1 v)
def Alm:DuN:=(10,10,16384,16384)
theorem Bc1:okN Alm:=⟨by decide,by decide,by decide,by decide⟩
theorem Bi4{d:DuN}(h:okN d)(v:UInt32):okN (nxt d v):=Bdt h v
abbrev DuL:=Int×Int×UInt64×UInt64×Unit
def toI(d:DuN):DuL:=((d.1:Int),(d.2.1:Int),d.2.2.1,d.2.2.2,())
def mV(ch:Nat)(v:List UInt32)(c:Nat):Nat->DuN
 |0=>Alm
 |m+1=>if m %ch=c then nxt (mV ch v c m) (v.getD m 0)else mV ch v c m
theorem qI(ch:Nat)(v:List UInt32)(c:Nat):∀m,okN (mV ch v c m)
 |0=>Bc1
 |m+1=>by rw[mV];split;exact Bi4 (qI ch v c m) _;exact qI ch v c m
theorem Avb(ch:Nat)(v w:List UInt32)(c:Nat):∀m,m<=v.length->mV ch (v++w) c m=mV ch v c m
 |0,_=>rfl
 |m+1,h=>by
  have e:(v++w).getD m 0=v.getD m 0:=by simp[List.getD_eq_getElem?_getD,List.getElem?_append_left (show m<v.length by omega)]
  rw[mV,mV,Avb ch v w c m (by omega),e]
theorem Al5(ch:Nat)(v:List UInt32)(c:Nat):∀m,m<=c->c<ch->mV ch v c m=Alm
 |0,_,_=>rfl
 |m+1,h,h2=>by rw[mV,Aau (by rw[Ac0 (by omega)];omega),Al5 ch v c m (by omega) h2]
theorem An8(ch:Nat)(v:List UInt32)(c i:Nat)(hi:i %ch=c)(hc:c<ch):∀j,j<ch->mV ch v c (i+1+j)=mV ch v c (i+1)
 |0,_=>rfl
 |j+1,h=>by
  have hne:(i+1+j) %ch≠c:=by
   intro e;have h1:(i+(1+j)) %ch=i %ch:=by rw[hi,<-e];congr 1;omega
   have h2:(1+j) %ch=0:=by
    have h3:=Nat.sub_mod_eq_zero_of_mod_eq h1;rwa [Bkp]at h3
   rw[Ac0 (by omega)]at h2;omega
  rw[show i+1+(j+1)=(i+1+j)+1 by omega,mV,Aau hne,An8 ch v c i hi hc j (by omega)]
theorem Bb9(ch:Nat)(v:List UInt32)(c i:Nat)(hi:i %ch=c)(hc:c<ch):mV ch v c (i+ch)=nxt (mV ch v c i) (v.getD i 0):=by
 have h:=An8 ch v c i hi hc (ch-1) (by omega);rw[show i+1+(ch-1)=i+ch by omega]at h;rw[h,mV,Abm hi]
theorem xX{l:List UInt32}{k:Nat}(h:k<l.length):Ap l (k:Int)=some (l.getD k 0):=by
 rw[Bn h];simp[List.getD_eq_getElem?_getD,h]
theorem OG(a b:Nat):Gx (a:Int) (b:Int)=((a %b:Nat):Int):=by rw[Gx,Bnb (by omega)];omega
theorem Abr(ch:Nat)(v:List UInt32)(hch:1<=ch)(Blc:ch<=6)(hv:v.length<=4000):∀(j i q:Nat),i %ch=v.length %ch->i<=v.length->v.length-i<=j->j<q->
  Oq (ch:Int) v q (i:Int) ((mV ch v (v.length %ch) i).1:Int) ((mV ch v (v.length %ch) i).2.1:Int) (mV ch v (v.length %ch) i).2.2.1 (mV ch v (v.length %ch) i).2.2.2=
   some (((mV ch v (v.length %ch) v.length).1:Int),((mV ch v (v.length %ch) v.length).2.1:Int),(mV ch v (v.length %ch) v.length).2.2.1,(mV ch v (v.length %ch) v.length).2.2.2)
 |j,i,q+1,hi,hl,hj,hq=>by
  have hc:v.length %ch<ch:=Bj3 _ (by omega);rw[Oq,LJ];by_cases h:i<v.length
  ·have h1:=Ayg (qI ch v (v.length %ch) i) (v.getD i 0);rw[Abm (by rw[Ae,Ac];simp;omega),xX h,Aa,h1,Aa];have hle:i+ch<=v.length:=by
    have h2:=Bnr i ch;have h3:=Bnr v.length ch;rw[hi]at h2;have h4:ch*(i/ch)<ch*(v.length/ch):=by omega
    have h5:=Nat.lt_of_mul_lt_mul_left h4;have h6:ch*(i/ch+1)<=ch*(v.length/ch):=Bmm _ h5;rw[Nat.mul_add]at h6;omega
   have ih:=Abr ch v hch Blc hv (j-ch) (i+ch) q (by rw[Bo0];exact hi) hle (by omega) (by omega);rw[Bb9 ch v _ i hi hc]at ih;simp only;rw[Ah (by omega) (by omega)];exact ih
  ·rw[Aau (by rw[Ae,Ac];simp;omega),show i=v.length by omega];rfl
theorem Axa(ch:Nat)(v:List UInt32)(hch:1<=ch)(Blc:ch<=6)(hv:v.length<=4000):Tl (ch:Int) v=some (((mV ch v (v.length %ch) v.length).1:Int),((mV ch v (v.length %ch) v.length).2.1:Int),(mV ch v (v.length %ch) v.length).2.2.1,(mV ch v (v.length %ch) v.length).2.2.2):=by
 have hc:v.length %ch<ch:=Bj3 _ (by omega);have hle:v.length %ch<=v.length:=Bpf _ _;have h:=Abr ch v hch Blc hv v.length (v.length %ch) Ax (by rw[Nat.mod_mod]) hle (by omega) (by have:=As;omega);rw[Al5 ch v _ _ (Arj _) hc]at h;rw[Tl,JM,Po,Aa];simp only;rw[Bk (by rw[Aj];simp;omega),Aa,Ac,OG];exact h
def now(ch:Nat)(v:List UInt32):DuN:=mV ch v (v.length %ch) v.length
def win(N a:Nat):Nat:=min 81 (N-a)
def Oz(ch:Nat)(p:List UInt8)(N a:Nat)(out:List UInt32):UInt32×Int×Int:=iZ (Sp p a (win N a)) (win N a) 0 (now ch out).1 (now ch out).2.1
def BF(ch:Nat)(p:List UInt8)(N:Nat):Nat->Nat->List UInt32->List UInt32×Nat×Int
 |0,a,out=>(out,a,0)
 |j+1,a,out=>if(Oz ch p N a out).2.2≠0 then(out,a,(Oz ch p N a out).2.2)else BF ch p N j (a+(Oz ch p N a out).2.1.toNat) (out++[(Oz ch p N a out).1])
theorem sI{ch:Nat}{p:List UInt8}{N a:Nat}{out:List UInt32}(h:(Oz ch p N a out).2.2=0):0<(Oz ch p N a out).2.1/\ (Oz ch p N a out).2.1<=win N a:=by
 have:=Bkw h;exact⟨this.1,this.2⟩
theorem Akk{ch:Nat}{p:List UInt8}{N a:Nat}{out:List UInt32}(h:(Oz ch p N a out).2.2=0):((a:Int)+(Oz ch p N a out).2.1)=((a+(Oz ch p N a out).2.1.toNat:Nat):Int):=by
 have:=sI h;omega
def sts(ch:Nat)(v:List UInt32):List DuL:=(List.range 6).map λc=>toI (mV ch v c v.length)
theorem Am5{ch:Nat}{v:List UInt32}{c:Nat}(h:c<6):Ap (sts ch v) (c:Int)=some (toI (mV ch v c v.length)):=by
 rw[Bn (by simp[sts];exact h)];simp[sts]
theorem Auo{ch:Nat}{v:List UInt32}{c:Nat}(x:UInt32)(h:c<6)(hc:c=v.length %ch):Ng (sts ch v) (c:Int) (toI (nxt (mV ch v c v.length) x))=some (sts ch (v++[x])):=by
 rw[Ui _ (by simp[sts];exact h)];congr 1;apply Bif (by simp[sts]);intro i h1 h2;rw[Bpe];simp only[sts,Bn0,Bnu];have e:(v++[x]).getD v.length 0=x:=by simp
 rw[Abq,Bjc,mV,e,Avb ch v [x] i v.length (Arj _)];by_cases hi:c=i
 ·subst hi;rw[Abm rfl,Abm hc.symm]
 ·rw[Aau hi,Aau (by omega)]
theorem Bfc{ch:Nat}{v:List UInt32}{c:Nat}(hc:c=v.length %ch):mV ch v c v.length=now ch v:=by rw[now,hc]
section
variable {p:List UInt8} {N ch n:Nat}
theorem Aoy(hp:okB p N)(h1:1<=ch)(h6:ch<=6)(hn:n*ch<=4000):∀(j a q:Nat) (out:List UInt32),out.length+j=n*ch->j<q->a<=N->
  Qi (ch:Int) (n:Int) p (N:Int) q (a:Int) (out.length:Int) (sts ch out) out=
   some (if(BF ch p N j a out).2.2≠0 then([],0,(BF ch p N j a out).2.2)else((BF ch p N j a out).1,((BF ch p N j a out).2.1:Int),0))
 |j,a,q+1,out,hj,hq,ha=>by
  have hN:=hp.1;have hnn:n<=n*ch:=Bpa n (by omega);have em:Bf (n:Int) (ch:Int)=((n*ch:Nat):Int):=by rw[Ez (by rw[<-Aos];omega) (by rw[<-Aos];omega),Aos]
  rw[Qi,Vp,em];cases j with
  |zero=>
   rw[Aau (by rw[Ae];simp;omega)];rfl
  |succ j=>
   have hc:out.length %ch<6:=Anj (Bj3 _ (by omega)) h6;have ew:Fm (Ad (a:Int) 81) (N:Int)=((a+win N a:Nat):Int):=by rw[OC,Ah (by omega) (by omega)];unfold win;omega
   have hw:a+win N a<=N:=by unfold win;omega
   have hw2:win N a<=81:=by unfold win;omega
   have hd:=Ben (xH p a (win N a) (by omega)) 0 (qI ch out (out.length %ch) out.length);have Bej:iZ (Sp p a (win N a)) (win N a) 0 (mV ch out (out.length %ch) out.length).1 (mV ch out (out.length %ch) out.length).2.1=Oz ch p N a out:=rfl;rw[Abm (by rw[Ae];simp;omega),ew,Bke hp a _ hw (by omega),Aa];simp only;rw[Aau (by rw[Aj];simp),Bk (by rw[Aj];simp;omega),Aa,OG,Am5 hc,Aa,Aa];refine Bjl (congrArg (λo=>Option.bind o _) hd) ?_;rw[Aa,Bej,BF];by_cases he:(Oz ch p N a out).2.2≠0
   ·rw[Abm he,Abm he];simp only;rw[Vu,Vq,Abm (by rw[Aj];simpa using he),Abm he]
   ·have he0:(Oz ch p N a out).2.2=0:=by simpa using he
    have hok:=sI he0;have hset:=Auo (ch:=ch) (v:=out) (Oz ch p N a out).1 hc rfl;rw[Aau he,Aau he];simp only;rw[Vu,Vq,Aau (by rw[Aj];simp),Bk (by rw[Aj];simp;omega),Aa,OG,Am5 hc,Aa];refine Bjl (congrArg (λo=>Option.bind o _) hset) ?_;rw[Aa,FP,ZI,Bi (by simp;omega),Aa,Ah (by omega) (by omega),Ah (by omega) (by omega),Akk he0];have ih:=Aoy hp h1 h6 hn j (a+(Oz ch p N a out).2.1.toNat) q (out++[(Oz ch p N a out).1]) (by simp;omega) (by omega) (by omega);rw[Abq,Bjc]at ih;exact ih
theorem Avx{p:List UInt8}(hN:N=8*p.length)(hN2:N<=330000)(h1:1<=ch)(h6:ch<=6)(hn:n*ch<=4000):∀(j a q:Nat) (out:List UInt32),out.length+j=n*ch->j<q->a<=N->
  Gl (ch:Int) (n:Int) p q (a:Int) (out.length:Int) out=
   if(BF ch p N j a out).2.2≠0 then some ((BF ch p N j a out).1,(BF ch p N j a out).2.2)else Xp ((BF ch p N j a out).2.1:Int) p (BF ch p N j a out).1
 |j,a,q+1,out,hj,hq,ha=>by
  have hnn:n<=n*ch:=Bpa n (by omega);have em:Bf (n:Int) (ch:Int)=((n*ch:Nat):Int):=by rw[Ez (by rw[<-Aos];omega) (by rw[<-Aos];omega),Aos]
  have e8:Bf (8:Int) (Ac p)=(N:Int):=by rw[Ac,Ez (by omega) (by omega)];omega
  rw[Gl,NQ,em];cases j with
  |zero=>
   rw[Aau (by rw[Ae];simp;omega)];rfl
  |succ j=>
   have ew:Fm (Ad (a:Int) 81) (N:Int)=((a+win N a:Nat):Int):=by rw[OC,Ah (by omega) (by omega)];unfold win;omega
   have hw:a+win N a<=N:=by unfold win;omega
   have hw2:win N a<=81:=by unfold win;omega
   have hpre:(Option.bind Po λ(r_4,r_5,r_6,r_7)=>
     if(Nf (out.length:Int) (ch:Int))=true then(
     Option.bind (Tl (ch:Int) out) λ(r_8,r_9,r_10,r_11)=>
     Lw (Gl (ch:Int) (n:Int) p q) (ch:Int) (n:Int) p (a:Int) (out.length:Int) out r_8 r_9 r_10 r_11)
     else Lw (Gl (ch:Int) (n:Int) p q) (ch:Int) (n:Int) p (a:Int) (out.length:Int) out r_4 r_5 r_6 r_7)=
     Lw (Gl (ch:Int) (n:Int) p q) (ch:Int) (n:Int) p (a:Int) (out.length:Int) out ((now ch out).1:Int) ((now ch out).2.1:Int) (now ch out).2.2.1 (now ch out).2.2.2:=by
    rw[Po,Aa];by_cases hc:ch<=out.length
    ·simp only;rw[Abm (by rw[Dw];simp;omega),Axa ch out h1 h6 (by omega),Aa];rfl
    ·have e:now ch out=Alm:=by rw[now,Ac0 (by omega),Al5 ch out _ _ (Arj _) (by omega)]
     simp only;rw[Aau (by rw[Dw];simp;omega),e];rfl
   have hd:=Bca (xH p a (win N a) (by omega)) 0 (now ch out).1 (now ch out).2.1 (now ch out).2.2.1 (now ch out).2.2.2 (qI ch out _ _).1 (qI ch out _ _).2.1;have Bej:iZ (Sp p a (win N a)) (win N a) 0 (now ch out).1 (now ch out).2.1=Oz ch p N a out:=rfl;rw[Abm (by rw[Ae];simp;omega),hpre,Lw,NP,e8,ew,Ao0 p (N:Int) a _ (by omega) (by omega) (by omega),Aa];simp only;refine Bjl (congrArg (λo=>Option.bind o _) hd) ?_;rw[Aa,Bej,BF];by_cases he:(Oz ch p N a out).2.2≠0
   ·rw[Abm he,Abm (by rw[Aj];simpa using he),Abm he]
   ·have he0:(Oz ch p N a out).2.2=0:=by simpa using he
    have hok:=sI he0;have ih:=Avx hN hN2 h1 h6 hn j (a+(Oz ch p N a out).2.1.toNat) q (out++[(Oz ch p N a out).1]) (by simp;omega) (by omega) (by omega);have hx:=Akk he0;rw[Abq,Bjc]at ih;rw[Aau he];generalize Oz ch p N a out=R at*
    obtain⟨v,nx,e⟩:=R;simp only at*
    rw[Aau (by rw[Aj];simpa using he),Bi (by simp;omega),Aa,Ah (by omega) (by omega),Ah (by omega) (by omega),hx];exact ih
end
theorem Ac8{ch:Nat}{p:List UInt8}{N:Nat}:∀(j a:Nat) (out:List UInt32),a<=N-> (BF ch p N j a out).2.1<=N/\ (BF ch p N j a out).1.length<=out.length+j/\ ((BF ch p N j a out).2.2=0-> (BF ch p N j a out).1.length=out.length+j)
 |0,a,out,h=>⟨h,Arj _,λ_=>rfl⟩
 |j+1,a,out,h=>by
  rw[BF];split
  ·rename_i he;exact⟨h,by simp,λe=>absurd e he⟩
  ·rename_i he;have hok:=sI (ch:=ch) (p:=p) (N:=N) (a:=a) (out:=out) (by simpa using he);have hw:a+win N a<=N:=by unfold win;omega
   have ih:=Ac8 (ch:=ch) (p:=p) (N:=N) j (a+(Oz ch p N a out).2.1.toNat) (out++[(Oz ch p N a out).1]) (by omega);rw[Abq,Bjc]at ih;exact⟨ih.1,by omega,λe=>by have:=ih.2.2 e;omega⟩
theorem Ap9(ch n:Int)(b:List UInt8)(N:Int):Vn ch n b N 0 (List.replicate 6 ((0:Int),(0:Int),(0:UInt64),(0:UInt64),()))=FU ch n b N (List.replicate 6 ((10:Int),(10:Int),(16384:UInt64),(16384:UInt64),())):=by
 have e:Ax=(Ax-7)+1+1+1+1+1+1+1:=by have:=As;omega
 rw[Vn,e];rfl
theorem values_eq{p:List UInt8}{N ch n:Nat}(hp:okB p N)(h1:1<=ch)(h6:ch<=6)(hn:n*ch<=4000):LC (ch:Int) (n:Int) p (N:Int)=
  some (if(BF ch p N (n*ch) 0 []).2.2≠0 then([],0,(BF ch p N (n*ch) 0 []).2.2)else((BF ch p N (n*ch) 0 []).1,((BF ch p N (n*ch) 0 []).2.1:Int),0)):=by
 have h:=Aoy hp h1 h6 hn (n*ch) 0 Ax [] (by simp) (by have:=As;omega) (by omega);rw[LC,MF,Ap9];exact h
theorem Aj1(p:List UInt8)(x:List UInt32)(N:Nat)(hN:N=8*p.length)(hN2:N<=330000):∀(j a q:Nat),a+j=N->j<q->Ln p x q (a:Int)=some (x,if Ce p a j=0 then 0 else 12)
 |0,a,q+1,ha,_=>by
  have e8:Bf (8:Int) (Ac p)=(N:Int):=by rw[Ac,Ez (by omega) (by omega)];omega
  rw[Ln,Ye,e8,Aau (by rw[Ae];simp;omega),Ce,Abm rfl];rfl
 |j+1,a,q+1,ha,hq=>by
  have e8:Bf (8:Int) (Ac p)=(N:Int):=by rw[Ac,Ez (by omega) (by omega)];omega
  have hb:=DI p a;rw[Ln,Ye,e8,Abm (by rw[Ae];simp;omega),Aa7 p _ a (by omega) (by omega),Aa,Ce];by_cases h:Hv p a=0
  ·rw[Aau (by rw[Aj];simp[h]),Ah (by omega) (by omega),h];have ih:=Aj1 p x N hN hN2 j (a+1) q (by omega) (by omega);rw[show((a:Int)+1)=((a+1:Nat):Int) by omega,ih];congr 2;by_cases hv:Ce p (a+1) j=0
   ·rw[Abm hv,Abm (by omega)]
   ·rw[Aau hv,Aau (by omega)]
  ·rw[Abm (by rw[Aj];simp;omega),Aau (by omega)]
theorem Awx{p:List UInt8}{N ch n:Nat}(hN:N=8*p.length)(hN2:N<=330000)(h1:1<=ch)(h6:ch<=6)(hn:n*ch<=4000):HR (ch:Int) (n:Int) p=
  some (if(BF ch p N (n*ch) 0 []).2.2≠0 then((BF ch p N (n*ch) 0 []).1,(BF ch p N (n*ch) 0 []).2.2)else
   ((BF ch p N (n*ch) 0 []).1,if 7<N-(BF ch p N (n*ch) 0 []).2.1\/Ce p (BF ch p N (n*ch) 0 []).2.1 (N-(BF ch p N (n*ch) 0 []).2.1)≠0 then 12 else 0)):=by
 have h:=Avx hN hN2 h1 h6 hn (n*ch) 0 Ax [] (by simp) (by have:=As;omega) (by omega);have hat:=(Ac8 (ch:=ch) (p:=p) (N:=N) (n*ch) 0 [] (by omega)).1;have e8:Bf (8:Int) (Ac p)=(N:Int):=by rw[Ac,Ez (by omega) (by omega)];omega
 rw[HR,TK];refine Bjl h ?_;generalize BF ch p N (n*ch) 0 []=V at*
 obtain⟨v,a,e⟩:=V;simp only at*
 by_cases he:e≠0
 ·rw[Abm he,Abm he]
 ·rw[Aau he,Aau he,Xp,NA,e8,Bw (by omega) (by omega)];by_cases h7:7<N-a
  ·rw[Abm (by rw[Aq];simp;omega),Abm (.inl h7)]
  ·rw[Aau (by rw[Aq];simp;omega),NI,Aj1 p v N hN hN2 (N-a) a Ax (by omega) (by have:=As;omega)];by_cases hv:Ce p a (N-a)=0
   ·rw[Abm hv,Aau (by omega)]
   ·rw[Aau hv,Abm (.inr hv)]
theorem All(n:Int):(GI.ofZ n:Int32)=Int32.ofInt n:=rfl
theorem QT(a:Int32):GI.toZ a=a.toInt:=rfl
theorem fR(a b:Int32):Ad a b=a+b:=by
 rw[Ad,QT,QT,All,Int32.ofInt_add,Bfi,Bfi]
theorem aV(a b:Int32):Ao a b=a-b:=by
 rw[Ao,QT,QT,All,Int32.ofInt_sub,Bfi,Bfi]
theorem Avm(a b:Int32):geq a b=(a==b):=by
 rw[geq,QT,QT,Ajs];simp[Int32.toInt_inj]
theorem Bgg(a b:Int32):Bc a b=(a !=b):=by
 rw[Bc,QT,QT,Ajs];simp[Int32.toInt_inj]
def jQ(p:Nat->Bool)(a b:List Int32):List Int32:=(List.range a.length).map λk=>if p k=true then a.getD k 0 else b.getD k 0
section
variable {p q:Nat->Bool} {a b:List Int32}
theorem QN:(jQ p a b).length=a.length:=by simp[jQ]
theorem Ox{k:Nat}(h:k<a.length):a.getD k 0=a[k]:=by simp[List.getD_eq_getElem?_getD,h]
theorem Vh{k:Nat}(h:k<(jQ p a b).length):(jQ p a b)[k]=if p k=true then a.getD k 0 else b.getD k 0:=by simp[jQ]
theorem EC{k:Nat}(h:k<a.length):Ap (jQ p a b) (k:Int)=some (if p k=true then a.getD k 0 else b.getD k 0):=by
 rw[Bn (by rw[QN];exact h),Vh]
theorem Xg(h:∀k,k<a.length->p k=q k):jQ p a b=jQ q a b:=by
 apply Bnl;intro k hk;rw[h k (List.mem_range.1 hk)]
theorem lS{k:Nat}(h:k<a.length):Ng (jQ p a b) (k:Int) (a.getD k 0)=some (jQ (λj=>p j||decide (j=k)) a b):=by
 rw[Ui _ (by rw[QN];exact h)];congr 1;apply Bif (by simp[QN]);intro i h1 h2;rw[Bpe,Vh,Vh];by_cases hi:k=i
 ·subst hi;simp
 ·have:¬i=k:=λe=>hi e.symm;simp[hi,this]
theorem sE(h:∀k,k<a.length->p k=true):jQ p a b=a:=by
 apply Bif (by simp[QN]);intro i h1 h2;rw[Vh,Abm (h i h2),Ox h2]
theorem oV(hl:b.length=a.length)(h:∀k,k<a.length->p k=false):jQ p a b=b:=by
 apply Bif (by simp[QN,hl]);intro i h1 h2;rw[Vh,h i (by omega)];simp[List.getD_eq_getElem?_getD,h2]
end
theorem Agr(a b:Int32):Bf a b=a*b:=by
 rw[Bf,QT,QT,All,Int32.ofInt_mul,Bfi,Bfi]
theorem CM(a:Int32): -2147483648<=a.toInt/\a.toInt<2147483648:=⟨a.le_toInt,a.toInt_lt⟩
theorem Ge(a:Int32):(Af a:Int)=a.toInt:=by
 have:=CM a
 show wrap64 a.toInt=_;rw[Db]<;>omega
theorem XR(n:Int):(Af n:Int32)=Int32.ofInt n:=rfl
theorem Ax9(x:Int):Int32.ofInt (x %4294967296)=Int32.ofInt x:=by
 apply Int32.toInt_inj.1;rw[Bln,Bln];exact Int.emod_bmod x 4294967296
theorem Adi(x:Int):Di x=some (Int32.ofInt x):=by
 have e1:(Af x:UInt64).toNat=(x %18446744073709551616).toNat:=by
  rw[Aoi,Aip,Ac0 (by omega)]
 have e2:(Af (Af x:UInt64):UInt32).toNat=(x %4294967296).toNat:=by
  have e:(Af (Af x:UInt64):UInt32)=UInt32.ofNat (Af x:UInt64).toNat:=by simp only[Af,Lh,Gg]
  rw[e,Ani,e1];show(x %18446744073709551616).toNat %4294967296=_;omega
 have e3:(Af (Af (Af x:UInt64):UInt32):Int32)=Int32.ofInt ((Af (Af x:UInt64):UInt32).toNat:Int):=rfl;rw[Di,e3,e2,<-Ax9 x];congr 2;omega
theorem yN(a b:Int32):Di (Ad (Af a:Int) (Af b:Int))=some (a+b):=by
 have:=CM a;have:=CM b;rw[Ge,Ge,Ah (by omega) (by omega),Adi,Int32.ofInt_add,Bfi,Bfi]
theorem Bco(a b:Int32):Di (Bf (Af a:Int) (Af b:Int))=some (a*b):=by
 have ha:=CM a;have hb:=CM b;have h1: -9223372036854775808<=a.toInt*b.toInt/\a.toInt*b.toInt<=9223372036854775807:=by
  have h2:(a.toInt*b.toInt).natAbs<=2147483648*2147483648:=by
   rw[Int.natAbs_mul];exact Bed (by omega) (by omega)
  omega
 rw[Ge,Ge,Ez h1.1 h1.2,Adi,Int32.ofInt_mul,Bfi,Bfi]
def OkF(s:Int)(t p:List Int32):Prop:=(s=9\/s=10)/\t.length=16/\p.length=16
theorem Abf{s:Int}{t p:List Int32}(h:OkF s t p):PG s t p=some 0:=by
 obtain⟨rfl|rfl,_,_⟩:=h<;>rfl
theorem g32{l:List Int32}{k:Nat}(h:k<l.length):Ap l (k:Int)=some (l.getD k 0):=by
 rw[Bn h];simp[List.getD_eq_getElem?_getD,h]
def rB(t p:List Int32):Nat->Int32
 |0=>0
 |i+1=>rB t p i+t.getD i 0*p.getD i 0
def half(s:Int):Int32:=if s=9 then 256 else 512
def gF(s:Int)(t p:List Int32):Int32:=Int32.ofInt ((half s+rB t p 16).toInt.fdiv (if s=9 then 512 else 1024))
theorem Akw{s:Int}{t p:List Int32}(h:OkF s t p):∀(j i q:Nat),i+j=16->j<q->Xh t s p q (half s+rB t p i) (i:Int)=some (gF s t p,0)
 |0,i,q+1,hi,_=>by
  obtain rfl:i=16:=by omega
  have hs:=h.1;rw[Xh,QO,Aau (by rw[Ae];simp),fD,tU,Bk (by rw[Dw];simp;omega),Aa];obtain rfl|rfl:=hs<;>rfl
 |j+1,i,q+1,hi,hq=>by
  obtain⟨hs,ht,hp⟩:=h;rw[Xh,QO,Abm (by rw[Ae];simp;omega),g32 (by omega),Aa,g32 (by omega),Aa,Aa,Ah (b:=1) (by omega) (by omega),fR,Agr,Int32.add_assoc];exact Akw ⟨hs,ht,hp⟩ j (i+1) q (by omega) (by omega)
theorem Aq7{s:Int}{t p:List Int32}(h:OkF s t p):bI s t p=some (gF s t p,0):=by
 have hs:=h.1;have h1:=Akw h 16 0 Ax (by omega) (by have:=As;omega);have e:Dl (1:Int32) (GI.toZ (Ao s (1:Int))).toNat=half s+rB t p 0:=by
  obtain rfl|rfl:=hs<;>rfl
 rw[bI,eN,Abf h,Aa,Aau (by rw[Aj];simp),Bk (by rw[Dw,Bw (by omega) (by omega)];simp;omega),Aa,eO,e];exact h1
theorem Afw{s:Int}{t p:List Int32}(ht:t.length=16)(hp:p.length=16){g:Int32}(hg:rB t p 16=g):∀(j i q:Nat),i+j=16->j<q->Oi s t p q (rB t p i).toInt (i:Int)=some g
 |0,i,q+1,hi,_=>by
  obtain rfl:i=16:=by omega
  rw[Oi,DA,Aau (by rw[Ae];simp),VI,WM,XR,Bfi,hg]
 |j+1,i,q+1,hi,hq=>by
  have ih:=Afw (s:=s) ht hp hg j (i+1) q (by omega) (by omega);rw[rB]at ih;rw[Oi,DA,Abm (by rw[Ae];simp;omega),g32 (by omega),g32 (by omega),Aa,Aa,Aa,Aa,Bco,Aa,<-Ge (rB t p i),yN,Aa,Ge,Ah (by omega) (by omega)];exact ih
theorem Bda{s:Int}{t p:List Int32}(h:OkF s t p):gX s t p=some (rB t p 16):=
 Afw h.2.1 h.2.2 rfl 16 0 Ax (by omega) (by have:=As;omega)
theorem Axf(x n:Int)(hn:n=512\/n=1024\/n=16\/n=32):(if x.tmod n<0 then x.tdiv n-1 else x.tdiv n)=x.fdiv n:=by
 have hs:n.sign=1:=by obtain rfl|rfl|rfl|rfl:=hn<;>rfl
 rw[Int.tdiv_eq_ediv,Int.tmod_eq_emod,hs,Arr _ (by omega)];by_cases h:0<=x\/n∣x
 ·rw[Abm h,Abm h];obtain rfl|rfl|rfl|rfl:=hn<;>(rw[Aau (by omega)];omega)
 ·rw[Aau h,Aau h];obtain rfl|rfl|rfl|rfl:=hn<;>(rw[Abm (by omega)];omega)
theorem Afr(x n:Int)(hn:n=512\/n=1024\/n=16\/n=32)(h: -1000000000000<=x)(h':x<=1000000000000): -1000000000000<=x.tdiv n/\x.tdiv n<=1000000000000:=by
 have hs:n.sign=1:=by obtain rfl|rfl|rfl|rfl:=hn<;>rfl
 rw[Int.tdiv_eq_ediv,hs];by_cases h:0<=x\/n∣x
 ·rw[Abm h];obtain rfl|rfl|rfl|rfl:=hn<;>omega
 ·rw[Aau h];obtain rfl|rfl|rfl|rfl:=hn<;>omega
theorem Bms(x n:Int)(hn:n=512\/n=1024\/n=16\/n=32)(h: -1000000000000<=x)(h':x<=1000000000000):Br x n=x.tdiv n:=by
 have:=Afr x n hn h h';rw[VA,Db (by omega) (by omega)]
theorem Aqk(x n:Int)(hn:n=512\/n=1024\/n=16\/n=32)(h: -1000000000000<=x)(h':x<=1000000000000):
  (if(Cq (Gx x n) (0:Int))=true then some (Af (Ao (Br x n) (1:Int)):Int32)else some (Af (Br x n):Int32))=some (Int32.ofInt (x.fdiv n)):=by
 have hb:=Afr x n hn h h';rw[Ae,Gx,Bms x n hn h h',Bw (by omega) (by omega),XR,XR,<-Axf x n hn];by_cases hx:x.tmod n<0
 ·rw[Abm (by simpa using hx),Abm hx]
 ·rw[Aau (by simpa using hx),Aau hx]
theorem Bg6{s:Int}{t p:List Int32}(h:OkF s t p):KT s t p=some (gF s t p):=by
 obtain⟨hs,ht,hp⟩:=h;have h:OkF s t p:=⟨hs,ht,hp⟩;have hx:=CM (rB t p 16+half s);have key:∀n:Int,(n=512\/n=1024)-> (half s).toInt=n/2->gF s t p=Int32.ofInt ((half s+rB t p 16).toInt.fdiv n)->Zs s t p n=some (gF s t p):=by
  intro n hn hh hg;have e2:Br n (2:Int)=(half s).toInt:=by rw[hh];obtain rfl|rfl:=hn<;>rfl
  rw[Zs,SI,Bda h,Aa,e2,<-Ge (half s),yN,Aa,Bk (by rw[Aj];simp;omega),Aa,Aa,Ge,Aqk _ n (by omega) (by omega) (by omega),hg,Int32.add_comm]
 rw[KT,RU];obtain rfl|rfl:=hs
 ·rw[Abm (by rw[Ar];rfl)];exact key 512 (.inl rfl) rfl rfl
 ·rw[Aau (by rw[Ar];decide)];exact key 1024 (.inr rfl) rfl rfl
def stp(i:Nat):Int32:=if i=0 then 4 else if i<4 then 2 else 1
def sg(x:Int32):Int32:=if x.toInt<0 then -1 else if 0<x.toInt then 1 else 0
def lrn(t p:List Int32)(w:Int32):List Int32:=(List.range 16).map λi=>t.getD i 0+stp i*sg (p.getD i 0)*sg w
theorem IL(t p:List Int32)(w:Int32):(lrn t p w).length=16:=by simp[lrn]
theorem Ak9(t p:List Int32)(w:Int32){i:Nat}(h:i<16):(lrn t p w).getD i 0=t.getD i 0+stp i*sg (p.getD i 0)*sg w:=by
 rw[Ox (by rw[IL];exact h)];simp[lrn]
theorem step_eq(i:Nat):gI (i:Int)=some (stp i):=by
 rw[gI,stp];by_cases h:i=0
 ·rw[Abm (by rw[Ar];simp[h]),Abm h]
 ·rw[Aau (by rw[Ar];simp;omega),Aau h];by_cases h2:i<4
  ·rw[Abm (by rw[Ae];simp;omega),Abm h2]
  ·rw[Aau (by rw[Ae];simp;omega),Aau h2]
theorem Azp(i:Nat):JZ (i:Int)=some (stp i):=by
 rw[JZ,stp];by_cases h:i=0
 ·rw[Abm (by rw[Ar];simp[h]),Abm h]
 ·rw[Aau (by rw[Ar];simp;omega),Aau h];by_cases h2:i<4
  ·rw[Abm (by rw[VV];simp;omega),Abm h2]
  ·rw[Aau (by rw[VV];simp;omega),Aau h2]
theorem Anf(a b:Int32):Cq a b=decide (a.toInt<b.toInt):=rfl
theorem Ase(a b:Int32):Ed a b=decide (b.toInt<a.toInt):=rfl
theorem sign_eq(x:Int32):Yy x=some (sg x):=by
 rw[Yy,sg,Anf,Ase,show(0:Int32).toInt=0 from rfl];by_cases h:x.toInt<0
 ·rw[Abm (by simpa using h),Abm h]
 ·rw[Aau (by simpa using h),Aau h];by_cases h2:0<x.toInt
  ·rw[Abm (by simpa using h2),Abm h2]
  ·rw[Aau (by simpa using h2),Aau h2]
theorem Awc:sg 0=0:=rfl
theorem toInt_ne{x:Int32}(h:x≠0):x.toInt≠0:=λe=>h (Int32.toInt_inj.1 (by rw[e];rfl))
theorem Alz{x:Int32}(h:x.toInt<0):sg x= -1:=by rw[sg,Abm h]
theorem Alo{x:Int32}(h:x≠0)(h2:¬x.toInt<0):sg x=1:=by
 have:=toInt_ne h;rw[sg,Aau h2,Abm (by omega)]
theorem sT(i:Nat):stp i=4\/stp i=2\/stp i=1:=by
 unfold stp;by_cases h:i=0
 ·rw[Abm h];exact .inl rfl
 ·rw[Aau h];split;exact .inr (.inl rfl);exact .inr (.inr rfl)
theorem Ayp{x w:Int32}(hx:x≠0)(hw:w≠0)(h:(x.toInt<0)=(w.toInt<0))(i:Nat):stp i*sg x*sg w=stp i:=by
 by_cases h1:x.toInt<0
 ·rw[Alz h1,Alz (by rw[<-h];exact h1)];obtain e|e|e:=sT i<;>rw[e]<;>decide
 ·rw[Alo hx h1,Alo hw (by rw[<-h];exact h1)];obtain e|e|e:=sT i<;>rw[e]<;>decide
theorem Ars{x w:Int32}(hx:x≠0)(hw:w≠0)(h:¬(x.toInt<0)=(w.toInt<0))(i:Nat)(a:Int32):a+stp i*sg x*sg w=a-stp i:=by
 have key:stp i*sg x*sg w=-stp i:=by
  by_cases h1:x.toInt<0
  ·have h2:¬w.toInt<0:=λh2=>h (propext ⟨λ_=>h2,λ_=>h1⟩);rw[Alz h1,Alo hw h2];obtain e|e|e:=sT i<;>rw[e]<;>decide
  ·have h2:w.toInt<0:=Decidable.by_contra λh2=>h (propext ⟨λh3=>absurd h3 h1,λh3=>absurd h3 h2⟩);rw[Alo hx h1,Alz h2];obtain e|e|e:=sT i<;>rw[e]<;>decide
 rw[key,Int32.sub_eq_add_neg]
def yX(i:Nat):Nat->Bool:=λj=>decide (j<i)
theorem Ad3{a b:List Int32}{i:Nat}(h:i<a.length):Ng (jQ (yX i) a b) (i:Int) (a.getD i 0)=some (jQ (yX (i+1)) a b):=by
 rw[lS h];congr 1;apply Xg;intro k _;rw[Ajs];simp only[yX,Baq,Acm];omega
theorem Axr{a b:List Int32}{i:Nat}(e:a.getD i 0=b.getD i 0):jQ (yX i) a b=jQ (yX (i+1)) a b:=by
 apply Bnl;intro k _;simp only[yX,Acm];by_cases h1:k<i
 ·rw[Abm h1,Abm (by omega)]
 ·by_cases h2:k=i
  ·subst h2;rw[Aau h1,Abm (by omega),e]
  ·rw[Aau h1,Aau (by omega)]
theorem Ao3{a b:List Int32}{i:Nat}(h:i<a.length):Ap (jQ (yX i) a b) (i:Int)=some (b.getD i 0):=by
 rw[EC h,Aau (by simp[yX])]
theorem Ajr{s:Int}{t p:List Int32}{w:Int32}(hw:w≠0)(ht:t.length=16)(hp:p.length=16):∀(j i q:Nat),i+j=16->j<q->Xk w p s q (i:Int) (jQ (yX i) (lrn t p w) t)=some (s,lrn t p w,p,0)
 |0,i,q+1,hi,_=>by
  obtain rfl:i=16:=by omega
  rw[Xk,QM,Aau (by rw[Ae];simp),sE (λk hk=>by rw[IL]at hk;simpa [yX]using hk)];rfl
 |j+1,i,q+1,hi,hq=>by
  have hl:=IL t p w;have hg:=Ak9 t p w (i:=i) (by omega);rw[Xk,QM,Abm (by rw[Ae];simp;omega),g32 (by omega),Aa,Ah (b:=1) (by omega) (by omega),Ao3 (by omega),step_eq];simp only[Aa];rw[fR,aV,Avm,Anf,Anf,show(0:Int32).toInt=0 from rfl];have ih:=Ajr (s:=s) hw ht hp j (i+1) q (by omega) (by omega);by_cases hx:p.getD i 0=0
  ·rw[Abm (by rw[hx];rfl),Axr (by rw[hg,hx,Awc,Int32.mul_zero,Int32.zero_mul,Int32.add_zero])];exact ih
  ·rw[Aau (by simpa using hx)];by_cases hs:((p.getD i 0).toInt<0)=(w.toInt<0)
   ·rw[Abm (by rw[Aur];simp only[hs]),show t.getD i 0+stp i=(lrn t p w).getD i 0 by rw[hg,Ayp hx hw hs],Ad3 (by omega),Aa];exact ih
   ·rw[Aau (by rw[Aur,decide_eq_decide];exact λh=>hs (propext h)),show t.getD i 0-stp i=(lrn t p w).getD i 0 by rw[hg,Ars hx hw hs],Ad3 (by omega),Aa];exact ih
theorem Bcq{t:List Int32}(p:List Int32)(ht:t.length=16):lrn t p 0=t:=by
 apply Bif (by rw[IL,ht]);intro i h1 h2;have:=Ak9 t p 0 (i:=i) (by omega);rw[Ox h1,Ox h2]at this;rw[this,Awc,Int32.mul_zero,Int32.add_zero]
theorem Ao2{s:Int}{t p:List Int32}(h:OkF s t p)(w:Int32):jP s t p w=some (s,lrn t p w,p,0):=by
 rw[jP,fE,Abf h,Aa,Aau (by rw[Aj];simp),Avm];by_cases hw:w=0
 ·rw[Abm (by simpa using hw),hw,Bcq p h.2.1]
 ·have h1:=Ajr (s:=s) hw h.2.1 h.2.2 16 0 Ax (by omega) (by have:=As;omega);rw[oV (by rw[IL,h.2.1]) (λk _=>by simp[yX])]at h1;rw[Aau (by simpa using hw)];exact h1
theorem yR{s:Int}{t p:List Int32}{w:Int32}(ht:t.length=16)(hp:p.length=16):∀(j i q:Nat),i+j=16->j<q->Jf w s p q (i:Int) (jQ (yX i) (lrn t p w) t)=some (s,lrn t p w,p)
 |0,i,q+1,hi,_=>by
  obtain rfl:i=16:=by omega
  rw[Jf,Uy,Aau (by rw[Ae];simp),sE (λk hk=>by rw[IL]at hk;simpa [yX]using hk)];rfl
 |j+1,i,q+1,hi,hq=>by
  have hl:=IL t p w;have hg:=Ak9 t p w (i:=i) (by omega);rw[Jf,Uy,Abm (by rw[Ae];simp;omega),g32 (l:=p) (by omega),Ah (b:=1) (by omega) (by omega),Ao3 (by omega),Azp,sign_eq w,Aa,Aa,Aa,Aa,Aa,sign_eq,Aa,Aa,Aa,fR,Agr,Agr,<-hg,Ad3 (by omega),Aa];exact yR ht hp j (i+1) q (by omega) (by omega)
theorem Asp{s:Int}{t p:List Int32}(h:OkF s t p)(w:Int32):TJ s t p w=some (s,lrn t p w,p):=by
 have h1:=yR (s:=s) (w:=w) h.2.1 h.2.2 16 0 Ax (by omega) (by have:=As;omega);rw[oV (by rw[IL,h.2.1]) (λk _=>by simp[yX])]at h1;exact h1
theorem Bhc{p:List Int32}(h:p.length=16):∃a0 a1 a2 a3 a4 a5 a6 a7 a8 a9 b0 b1 b2 b3 b4 b5,p=[a0,a1,a2,a3,a4,a5,a6,a7,a8,a9,b0,b1,b2,b3,b4,b5]:=by
 match p,h with
 |[a0,a1,a2,a3,a4,a5,a6,a7,a8,a9,b0,b1,b2,b3,b4,b5],_=>exact⟨a0,a1,a2,a3,a4,a5,a6,a7,a8,a9,b0,b1,b2,b3,b4,b5,rfl⟩
theorem Ava{s:Int}{t p:List Int32}(h:OkF s t p)(x:Int32):sV s t p x=some (s,t,x::p.take 15,0):=by
 obtain⟨hs,ht,hp⟩:=h;rw[sV,WT,Abf ⟨hs,ht,hp⟩,Aa,Aau (by rw[Aj];simp),show gS (16:Int) 1 16=some ()from rfl,Aa,show gS (16:Int) 0 16=some ()from rfl,Aa,iV,xG];obtain⟨a0,a1,a2,a3,a4,a5,a6,a7,a8,a9,b0,b1,b2,b3,b4,b5,rfl⟩:=Bhc hp;rfl
def shf(p:List Int32)(i:Nat):List Int32:=(List.range 16).map λk=>if k<=i then p.getD k 0 else p.getD (k-1) 0
theorem DW(p:List Int32)(i:Nat):(shf p i).length=16:=by simp[shf]
theorem Bgl(p:List Int32)(i k:Nat)(h:k<16):(shf p i).getD k 0=if k<=i then p.getD k 0 else p.getD (k-1) 0:=by
 rw[Ox (by rw[DW];exact h)];simp[shf]
theorem Bht(p:List Int32)(i:Nat)(h:i+1<16):Ng (shf p (i+1)) ((i+1:Nat):Int) (p.getD i 0)=some (shf p i):=by
 rw[Ui _ (by rw[DW];exact h)];congr 1;apply Bif (by simp[DW]);intro k h1 h2;rw[DW]at h2;rw[Bpe];simp only[shf,Bn0,Bnu];by_cases hk:i+1=k
 ·subst hk;rw[Abm rfl,Aau (by omega)];rfl
 ·rw[Aau hk];by_cases h3:k<=i
  ·rw[Abm (by omega),Abm h3]
  ·rw[Aau (by omega),Aau h3]
theorem Abj(s:Int)(t p:List Int32)(x:Int32)(hp:p.length=16):∀(i q:Nat),i<16->i<q->Jz x s t q (i:Int) (shf p i)=some (s,t,x::p.take 15)
 |0,q+1,_,_=>by
  have hg:Ap (shf p 0) (0:Int)=some ((shf p 0).getD 0 0):=g32 (l:=shf p 0) (k:=0) (by rw[DW];omega);have hset:Ng (shf p 0) (0:Int) x=some ((shf p 0).set 0 x):=Ui (l:=shf p 0) (n:=0) x (by rw[DW];omega);rw[Jz,Vi,Aau (by rw[Aq];simp),JC,KV,hg,Aa,hset,Aa];congr 3;apply Bif (by simp[DW,hp]);intro k h1 h2;rw[Blz,DW]at h1;rw[Bpe];cases k with
  |zero=>rw[Abm rfl];rfl
  |succ k=>
   rw[Aau (by omega)];simp only[shf,Bn0,Bnu,List.getElem_cons_succ,List.getElem_take];rw[Aau (by omega),Nat.add_sub_cancel,Ox (by omega)]
 |i+1,q+1,hi,hq=>by
  have hg:=g32 (l:=shf p (i+1)) (k:=i) (by rw[DW];omega);rw[Bgl p (i+1) i (by omega),Abm (by omega)]at hg;have e1:Ao ((i+1:Nat):Int) (1:Int)=(i:Int):=by rw[Bw (by omega) (by omega)];omega
  have hg2:=g32 (l:=shf p (i+1)) (k:=i+1) (by rw[DW];omega);rw[Jz,Vi,Abm (by rw[Aq];simp),e1,hg,Aa,Aa,hg2,Aa,Bht p i hi,Aa];exact Abj s t p x hp i q (by omega) (by omega)
theorem Azd{s:Int}{t p:List Int32}(hp:p.length=16)(x:Int32):VY s t p x=some (s,t,x::p.take 15):=by
 have h:=Abj s t p x hp 15 Ax (by omega) (by have:=As;omega);have e:shf p 15=p:=by
  apply Bif (by rw[DW,hp]);intro k h1 h2;rw[DW]at h1;simp only[shf,Bn0,Bnu];rw[Abm (by omega),Ox h2]
 rw[e]at h;exact h
theorem Bdw{s:Int}{t p:List Int32}(h:OkF s t p)(w x:Int32):OkF s (lrn t p w) (x::p.take 15):=⟨h.1,IL _ _ _,by simp[h.2.2]⟩
theorem Bg4{s:Int}{t p:List Int32}(h:OkF s t p)(y:Int32):oJ s t p y=some (y+gF s t p,s,lrn t p y,(y+gF s t p)::p.take 15,0):=by
 rw[oJ,Aq7 h,Aa];simp only;rw[Aau (by rw[Aj];simp),fR,aU,Ao2 h,Aa];simp only;rw[Ava (s:=s) (t:=lrn t p y) (p:=p) ⟨h.1,IL _ _ _,h.2.2⟩,Aa];rfl
theorem Ax7{s:Int}{t p:List Int32}(h:OkF s t p)(y:Int32):AU s t p y=some (y+gF s t p,s,lrn t p y,(y+gF s t p)::p.take 15):=by
 rw[AU,Bg6 h,Aa,yN,Aa,Asp h,Aa];simp only;rw[Azd h.2.2,Aa]
def sB(bits:Int):Int:=if bits=16 then 9 else 10
def shB(bits:Int):Int:=if bits=8 then 4 else 5
def Bm(bits:Int):Prop:=bits=8\/bits=16\/bits=24
def gs(sh:Int)(last:Int32):Int32:=Af (Al0 (Ao (Dl (Af last:Int) sh.toNat) (Af last)) sh.toNat)
theorem Blq(bits:Int):sB bits=9\/sB bits=10:=by unfold sB;split<;>simp
theorem Bhp(bits:Int):0<=shB bits:=by unfold shB;split<;>omega
theorem Bn5{bits:Int}(h:Bm bits)(t:List Int32):xL bits t=some (sB bits,t,List.replicate 16 0,0):=by
 obtain rfl|rfl|rfl:=h<;>rfl
theorem Bi5{bits:Int}(h:Bm bits):qR bits=some (shB bits,0):=by
 obtain rfl|rfl|rfl:=h<;>rfl
theorem Bkv{sh:Int}(h:0<=sh)(last:Int32):dL sh last=some (gs sh last):=by
 rw[dL,Bk (by rw[Dw];simpa using h),Aa,Aa];rfl
theorem Bbk{bits:Int}(h:Bm bits)(last:Int32):Zo bits last=some (gs (shB bits) last,0):=by
 rw[Zo,Bi5 h,Aa];simp only;rw[Aau (by rw[Aj];simp),Bkv (Bhp bits),Aa]
theorem Ags{bits:Int}(h:Bm bits)(last:Int32)(t p:List Int32):AK bits last (sB bits) t p=some 0:=by
 rw[AK,Bn5 h,Aa];simp only;rw[Aau (by rw[Aj,Aj];simp)]
theorem Axt{bits:Int}(h:Bm bits){t p:List Int32}(hF:OkF (sB bits) t p)(last y:Int32):
  Ns bits last (sB bits) t p y=some (y+gF (sB bits) t p+gs (shB bits) last,bits,y+gF (sB bits) t p+gs (shB bits) last,sB bits,lrn t p y,(y+gF (sB bits) t p)::p.take 15,0):=by
 rw[Ns,Ags h,Aa,Aau (by rw[Aj];simp),Bbk h,Aa];simp only;rw[Bg4 hF,Aa];simp only;rw[fR]
theorem Aaj(sh:Int)(hs:sh=4\/sh=5)(last:Int32):Tt sh last=some (gs sh last):=by
 have hl:=CM last;have key:∀n:Int,n=16\/n=32->gs sh last=Int32.ofInt (((n-1)*last.toInt).fdiv n)->Wc last n=some (gs sh last):=by
  intro n hn hg;have e:Bf (Ao n (1:Int)) (Af last:Int)=(n-1)*last.toInt:=by
   obtain rfl|rfl:=hn<;>(rw[Ge,Bw (by omega) (by omega),Ez (by omega) (by omega)])
  rw[Wc,JD,Bk (by rw[Aj];simp;omega),Aa,Aa,e,Aqk _ n (by omega) (by obtain rfl|rfl:=hn<;>omega) (by obtain rfl|rfl:=hn<;>omega),hg]
 rw[Tt,KD];obtain rfl|rfl:=hs
 ·rw[Aau (by rw[Ar];decide)];refine key 16 (.inl rfl) ?_;have e:Dl (Af last:Int) (4:Int).toNat=last.toInt*16:=by
   rw[Ge];show wrap64 (last.toInt*2^4)=_;rw[Db]<;>omega
  rw[gs,e,Ge,Bw (by omega) (by omega),XR]
  show Int32.ofInt ((last.toInt*16-last.toInt).fdiv 16)=_;congr 2;omega
 ·rw[Abm (by rw[Ar];rfl)];refine key 32 (.inr rfl) ?_;have e:Dl (Af last:Int) (5:Int).toNat=last.toInt*32:=by
   rw[Ge];show wrap64 (last.toInt*2^5)=_;rw[Db]<;>omega
  rw[gs,e,Ge,Bw (by omega) (by omega),XR]
  show Int32.ofInt ((last.toInt*32-last.toInt).fdiv 32)=_;congr 2;omega
theorem Azj{bits:Int}(h:Bm bits){t p:List Int32}(hF:OkF (sB bits) t p)(last y:Int32):
  AI bits last (sB bits) t p y=some (y+gF (sB bits) t p+gs (shB bits) last,bits,y+gF (sB bits) t p+gs (shB bits) last,sB bits,lrn t p y,(y+gF (sB bits) t p)::p.take 15):=by
 have hb:DE bits last (sB bits) t p=some (Af (gs (shB bits) last):Int):=by
  rw[DE];obtain rfl|rfl|rfl:=h
  ·rw[Abm (by rw[Ar];rfl),Aaj 4 (.inl rfl),Aa];rfl
  ·rw[Aau (by rw[Ar];decide),Aaj 5 (.inr rfl),Aa];rfl
  ·rw[Aau (by rw[Ar];decide),Aaj 5 (.inr rfl),Aa];rfl
 rw[AI,Ax7 hF,Aa];simp only;rw[hb,Aa,yN,Aa]
theorem Bl8{bits:Int}(h:Bm bits)(t:List Int32):fZ bits t=some (bits,0,sB bits,t,List.replicate 16 0,0):=by
 obtain rfl|rfl|rfl:=h<;>rfl
def aP(n:UInt32):Int32:=if n.toNat %2=0 then Int32.ofInt ((n.toNat/2:Nat):Int)else Int32.ofInt (-((n.toNat/2:Nat):Int)-1)
theorem Aph(a b:Int32):(Zy a b).toBitVec=a.toBitVec^^^b.toBitVec:=by
 show(Int32.ofInt ((BitVec.ofInt 32 a.toBitVec.toInt^^^BitVec.ofInt 32 b.toBitVec.toInt).toNat:Int)).toBitVec=_;rw[BitVec.ofInt_toInt,BitVec.ofInt_toInt,Int32.toBitVec_ofInt,BitVec.ofInt_natCast,BitVec.ofNat_toNat,BitVec.setWidth_eq]
theorem Bmi(m:Nat)(h:m<2147483648):Zy (Int32.ofInt (m:Int)) (Int32.ofInt (-1))=Int32.ofInt (-(m:Int)-1):=by
 apply Int32.toBitVec_inj.1;have e1:(Int32.ofInt (-1)).toBitVec=BitVec.allOnes 32:=by decide
 rw[Aph,e1,BitVec.xor_allOnes,Int32.toBitVec_ofInt,Int32.toBitVec_ofInt];apply Bod;rw[BitVec.toNat_not,Bjk,Bjk];omega
theorem Ba3(n:UInt32):BS n=some (aP n):=by
 have hn:=n.toNat_lt;have e1:(Af (Ci n (GI.toZ (1:UInt64)).toNat):Int32)=Int32.ofInt ((n.toNat/2:Nat):Int):=by
  show Int32.ofInt ((Ci n 1).toNat:Int)=_;rw[SP]
 have e2:(Af (Fa n (1:UInt32)):Int32)=Int32.ofInt ((n.toNat %2:Nat):Int):=by
  show Int32.ofInt ((Fa n (1:UInt32)).toNat:Int)=_;rw[Afy,UInt32.toNat_and]
  show Int32.ofInt ((n.toNat&&&1:Nat):Int)=_;rw[Nat.and_one_is_mod]
 rw[BS,e1,e2,aP];congr 1;by_cases h:n.toNat %2=0
 ·have e3:yW (Int32.ofInt ((n.toNat %2:Nat):Int))=Int32.ofInt 0:=by rw[h];decide
  rw[Abm h,e3];apply Int32.toBitVec_inj.1;rw[Aph,show(Int32.ofInt 0).toBitVec=0#32 from rfl,BitVec.xor_zero]
 ·have e3:yW (Int32.ofInt ((n.toNat %2:Nat):Int))=Int32.ofInt (-1):=by rw[show n.toNat %2=1 by omega];decide
  rw[Aau h,e3,Bmi _ (by omega)]
theorem Bgm(n:UInt32):KH n=some (aP n):=by
 have hn:=n.toNat_lt;have e1:geq (HJ n (2:UInt32)) (0:UInt32)=decide (n.toNat %2=0):=by
  rw[Ana,Aqh,Ajs];simp only[Aur,<-UInt32.toNat_inj,UInt32.toNat_mod,Acm];rfl
 rw[KH,e1,aP];by_cases h:n.toNat %2=0
 ·rw[Abm (by simpa using h),Abm h,An6];rfl
 ·have e2:(Af n:Int)=(n.toNat:Int):=Aem n;rw[Aau (by simpa using h),Aau h,e2,Ah (by omega) (by omega),Ams,Db (by omega) (by omega),VA,Int.tdiv_eq_ediv,XR];congr 2;rw[Abm (.inr (by omega)),Db (by omega) (by omega)];omega
theorem tW{c:Prop} [Decidable c](h:c):Jg (decide c)=some ():=by rw[Bjs h];rfl
def unV(f:Nat->Int32)(ch:Nat):Nat->Int32
 |0=>if 1<ch then f (ch-1)+Br (f (ch-2)) (2:Int32)else f (ch-1)
 |j+1=>unV f ch j-f (ch-2-j)
def unm(ch:Nat)(m:List Int32):List Int32:=(List.range m.length).map λk=>unV (λi=>m.getD (k-k %ch+i) 0) ch (ch-1-k %ch)
theorem sU(ch:Nat)(m:List Int32):(unm ch m).length=m.length:=by simp[unm]
theorem Adj{ch:Nat}{m:List Int32}{a i:Nat}(ha:a %ch=0)(hi:i<ch)(h:a+i<m.length):(unm ch m).getD (a+i) 0=unV (λi=>m.getD (a+i) 0) ch (ch-1-i):=by
 have hb:(a+i) %ch=i:=by rw[Nat.add_mod,ha,Bh9,Nat.mod_mod,Ac0 hi]
 rw[Ox (by rw[sU];exact h)];simp only[unm,Bn0,Bnu,hb];rw[show a+i-i=a by omega]
section
variable (ch:Nat) (m:List Int32)
theorem Ap4(h1:1<=ch)(h6:ch<=6)(hm:m.length %ch=0)(hl2:m.length<=4000):gP (ch:Int) m=some 0:=by
 rw[gP,Aau (by simp[Ae,Aq];omega),Aau (by rw[Aq,Ac];simp;omega),Bk (by rw[Aj];simp;omega),Aa,Aau];rw[Aj,Gx,Ac,<-Int.ofNat_tmod,hm];simp
theorem Ahv(bk:Int->List Int32->Option (List Int32×Int))(at':Nat)(h1:1<=ch)(h6:ch<=6)(hm:at' %ch=0)(hl:at'+ch<=m.length)(hl2:m.length<=4000):∀(i q:Nat),i<=ch-1->i<q->
  BA bk (ch:Int) (at':Int) q ((i:Int)-1) (jQ (λk=>decide (k<at'\/ (at'+i<=k/\k<at'+ch))) (unm ch m) m)=bk ((at'+ch:Nat):Int) (jQ (λk=>decide (k<at'+ch)) (unm ch m) m)
 |0,q+1,hi,_=>by
  have e4:Ad (at':Int) (ch:Int)=((at'+ch:Nat):Int):=by rw[Ah (by omega) (by omega)];omega
  rw[BA,XJ,Aau (by rw[Dw];simp),jK,zE,e4];congr 1;apply Xg;intro k _;rw[Ajs];simp;omega
 |i+1,q+1,hi,hq=>by
  have hlen:=sU ch m;have e2:Ad (at':Int) (ch:Int)-(at':Int)=(ch:Int):=by rw[Ah (by omega) (by omega)];omega
  have e3:Ad (i:Int) 1=((i+1:Nat):Int):=by rw[Ah (by omega) (by omega)];omega
  have hv:((unm ch m).getD (at'+(i+1)) 0-m.getD (at'+i) 0)=(unm ch m).getD (at'+i) 0:=by
   rw[Adj hm (by omega) (by omega),Adj hm (by omega) (by omega),show ch-1-i=(ch-1-(i+1))+1 by omega,unV,show ch-2-(ch-1-(i+1))=i by omega]
  rw[BA,XJ,show((i+1:Nat):Int)-1=(i:Int) by omega,Abm (by rw[Dw];simp),e2,e3,tW (by omega),Aa,tW (by omega),Aa,
   show(at':Int)+((i+1:Nat):Int)=((at'+(i+1):Nat):Int) by omega,show(at':Int)+(i:Int)=((at'+i:Nat):Int) by omega,
   EC (by omega),Aa,EC (by omega),Aa,Aa,Abm (by simp;omega),Aau (by simp;omega),aV,hv,lS (by omega),Aa,Bw (by omega) (by omega)]
  have ih:=Ahv bk at' h1 h6 hm hl hl2 i q (by omega) (by omega);rw[<-ih];congr 1;apply Xg;intro k _;rw[Ajs];simp;omega
theorem Agj{at' ch n:Nat}(ha:at' %ch=0)(hm:n %ch=0)(h:at'<n):at'+ch<=n:=by
 have d1:=Bnr at' ch;have d2:=Bnr n ch;rw[ha,Blb]at d1;rw[hm,Blb]at d2;have hlt:at'/ch<n/ch:=by
  rcases Bn2 (at'/ch) (n/ch)with h'|h'
  ·exact h'
  ·have:=Bmm ch h';omega
 have:=Bmm ch (show at'/ch+1<=n/ch from hlt);rw[Nat.mul_add]at this;omega
theorem Akc(h1:1<=ch)(h6:ch<=6)(hm:m.length %ch=0)(hl2:m.length<=4000):∀(j at' q:Nat),at' %ch=0->at'<=m.length->m.length-at'<=j->j<q->
  Vr (ch:Int) q (at':Int) (jQ (λk=>decide (k<at')) (unm ch m) m)=some (unm ch m,0)
 |j,at',q+1,ha,hle,hj,hq=>by
  have hlen:=sU ch m;have hl:Ac (jQ (λk=>decide (k<at')) (unm ch m) m)=(m.length:Int):=by rw[Ac,QN,hlen]
  rw[Vr,jD,hl];by_cases h:at'<m.length
  ·have hb:=Agj ha hm h;obtain⟨j,rfl⟩:∃k,j=k+1:=⟨j-1,by omega⟩;have e1:Ao (Ad (at':Int) (ch:Int)-(at':Int)) 1=((ch-1:Nat):Int):=by rw[Ah (by omega) (by omega),Bw (by omega) (by omega)];omega
   have e2:Ad (at':Int) (ch:Int)-(at':Int)=(ch:Int):=by rw[Ah (by omega) (by omega)];omega
   have e4:Ad (at':Int) (ch:Int)=((at'+ch:Nat):Int):=by rw[Ah (by omega) (by omega)];omega
   have hi:=Ahv ch m (Vr (ch:Int) q) at' h1 h6 ha hb hl2 (ch-1) Ax (by omega) (by have:=As;omega);have hrest:=Akc h1 h6 hm hl2 j (at'+ch) q (by rw[Bo0,ha]) hb (by omega) (by omega);have hstart:XM (Vr (ch:Int) q) (ch:Int) (at':Int) (jQ (λk=>decide (k<at'\/ (at'+(ch-1)<=k/\k<at'+ch))) (unm ch m) m)=some (unm ch m,0):=by
    have e6:Ao ((ch-1:Nat):Int) 1=((ch-1:Nat):Int)-1:=Bw (by omega) (by omega);rw[XM,lJ,iX,e1,e6];exact Bjl hi hrest
   rw[Abm (by rw[Ae];simp;omega),show gS (m.length:Int) (at':Int) (Ad (at':Int) (ch:Int))=some () by rw[e4,gS,tW];omega,Aa,e1,e2];have hlast:=Adj (m:=m) ha (show ch-1<ch by omega) (by omega);rw[show ch-1-(ch-1)=0 by omega,unV]at hlast;by_cases hc:1<ch
   ·have e5:Ao ((ch-1:Nat):Int) 1=((ch-2:Nat):Int):=by rw[Bw (by omega) (by omega)];omega
    rw[Abm hc]at hlast;rw[Abm (by rw[Aq];simp;omega),tW (by omega),Aa,e5,tW (by omega),Aa,show(at':Int)+((ch-1:Nat):Int)=((at'+(ch-1):Nat):Int) by omega,show(at':Int)+((ch-2:Nat):Int)=((at'+(ch-2):Nat):Int) by omega,
     EC (by omega),Aa,EC (by omega),Aa,Aa,Aau (by simp),Aau (by simp),fR,<-hlast,lS (by omega),Aa]
    rw[<-hstart];congr 1;apply Xg;intro k _;rw[Ajs];simp;omega
   ·have hc1:ch=1:=by omega
    rw[Aau (by rw[Aq];simp;omega),<-hstart];congr 1;rw[Aau hc]at hlast;apply Bnl;intro k hk;by_cases hk2:k=at'
    ·subst hk2;rw[Aau (by simp),Abm (by simp;omega)];rw[show k+(ch-1)=k by omega]at hlast;exact hlast.symm
    ·by_cases hk3:k<at'
     ·rw[Abm (by simp;omega),Abm (by simp;omega)]
     ·rw[Aau (by simp;omega),Aau (by simp;omega)]
  ·rw[Aau (by rw[Ae];simp;omega),sE (λk hk=>by simp;omega)];rfl
theorem Bg1(h1:1<=ch)(h6:ch<=6)(hm:m.length %ch=0)(hl2:m.length<=4000):zK (ch:Int) m=some (unm ch m,0):=by
 have hlen:=sU ch m;have h:=Akc ch m h1 h6 hm hl2 m.length 0 Ax (by simp) (by omega) (by omega) (by have:=As;omega);rw[zK,qJ,Ap4 ch m h1 h6 hm hl2,Aa,Aau (by rw[Aj];simp),Dh,Bi (by simp;omega),Aa,Aa,Aro,jL];rw[oV hlen.symm (λk _=>by simp)]at h;exact h
end
def Aa9(f:Nat->Int32)(ch:Nat):List Int32:=(List.range ch).map λi=>unV f ch (ch-1-i)
theorem iT(f:Nat->Int32)(ch:Nat):(Aa9 f ch).length=ch:=by simp[Aa9]
theorem zM(f:Nat->Int32){ch i:Nat}(h:i<ch):(Aa9 f ch).getD i 0=unV f ch (ch-1-i):=by
 rw[Ox (by rw[iT];exact h)];simp[Aa9]
theorem Bdz(a b:Int32):Di (Ao (Af a:Int) (Af b:Int))=some (a-b):=by
 have:=CM a;have:=CM b;rw[Ge,Ge,Bw (by omega) (by omega),Adi,Int32.ofInt_sub,Bfi,Bfi]
theorem Aya(a b:Int32):Di (Ad (Af a:Int) (Br (Af b:Int) (2:Int)))=some (a+Br b (2:Int32)):=by
 have:=CM a;have hb:=CM b;have hd: -2147483648<=b.toInt.tdiv 2/\b.toInt.tdiv 2<=2147483648:=by
  rw[Int.tdiv_eq_ediv,show Int.sign 2=1 from rfl];by_cases h:0<=b.toInt\/2∣b.toInt
  ·rw[Abm h];omega
  ·rw[Aau h];omega
 have e:Br b (2:Int32)=Int32.ofInt (b.toInt.tdiv 2):=rfl;rw[Ge,Ge,VA,Db (by omega) (by omega),Ah (by omega) (by omega),Adi,Int32.ofInt_add,Bfi,e]
theorem xO(tE z:List Int32)(ch:Nat)(h6:ch<=6)(hs:tE.length=ch)(hz:z.length=ch):∀(i q:Nat),i+1<=ch->i<q->
  Ji tE q ((i:Int)-1) (jQ (λk=>decide (i<=k)) (Aa9 (λi=>tE.getD i 0) ch) z)=some (Aa9 (λi=>tE.getD i 0) ch)
 |0,q+1,hi,_=>by
  rw[Ji,Uj,Aau (by rw[Dw];simp),sE (λk hk=>by simp)];rfl
 |i+1,q+1,hi,hq=>by
  have hlen:=iT (λi=>tE.getD i 0) ch;have e3:Ad (i:Int) 1=((i+1:Nat):Int):=by rw[Ah (by omega) (by omega)];omega
  have hv:(Aa9 (λi=>tE.getD i 0) ch).getD (i+1) 0-tE.getD i 0=(Aa9 (λi=>tE.getD i 0) ch).getD i 0:=by
   rw[zM _ (by omega),zM _ (by omega),show ch-1-i=(ch-1-(i+1))+1 by omega,unV,show ch-2-(ch-1-(i+1))=i by omega]
  rw[Ji,Uj,show((i+1:Nat):Int)-1=(i:Int) by omega,Abm (by rw[Dw];simp),e3,EC (by omega),Aa,g32 (by omega),Aa,Aa,Abm (by simp),Bdz,Aa,EC (by omega),Aa,hv,lS (by omega),Aa,Bw (by omega) (by omega)];have ih:=xO tE z ch h6 hs hz i q (by omega) (by omega);rw[<-ih];congr 1;apply Xg;intro k _;rw[Ajs];simp;omega
theorem Aq1{l:List Int32}{i:Nat}(v:Int32)(h:i<l.length):(l.set i v).getD i 0=v:=by
 rw[Ox (by rw[Blz];exact h)];simp
theorem Atg(tE:List Int32)(ch:Nat)(h1:1<=ch)(h6:ch<=6)(hs:tE.length=ch):Zz tE=some (Aa9 (λi=>tE.getD i 0) ch):=by
 have hlen:=iT (λi=>tE.getD i 0) ch;have hzl:(List.replicate ch (0:Int32)).length=ch:=by simp
 have e1:Ao (Ac tE) 1=((ch-1:Nat):Int):=by rw[Ac,hs,Bw (by omega) (by omega)];omega
 have e2:Ao (Ac tE) 2=((ch-1:Nat):Int)-1:=by rw[Ac,hs,Bw (by omega) (by omega)];omega
 have hlast:=zM (λi=>tE.getD i 0) (show ch-1<ch by omega);rw[show ch-1-(ch-1)=0 by omega,unV]at hlast;have hend:∀z:List Int32,z.length=ch->z.getD (ch-1) 0=(Aa9 (λi=>tE.getD i 0) ch).getD (ch-1) 0->Uv tE z=some (Aa9 (λi=>tE.getD i 0) ch):=by
  intro z hz hzl;have h:=xO tE z ch h6 hs hz (ch-1) Ax (by omega) (by have:=As;omega);have e:jQ (λk=>decide (ch-1<=k)) (Aa9 (λi=>tE.getD i 0) ch) z=z:=by
   apply Bif (by rw[QN,hlen,hz]);intro k k1 k2;rw[Vh];by_cases hk:ch-1<=k
   ·obtain rfl:k=ch-1:=by omega
    rw[Abm (by simp),<-hzl,Ox k2]
   ·rw[Aau (by simpa using hk),Ox k2]
  rw[e]at h;rw[Uv,GV,e2];exact h
 rw[Zz,GJ,Ac,hs,rA (by omega) (by omega),Aa,Bk (by rw[Ar];simp),Aa];rw[Ac,hs]at e1;rw[Ac,hs]at e2;have hz1:(List.replicate (Int.toNat (ch:Int)) (0:Int32)).length=ch:=by simp
 have hs1:=g32 (l:=tE) (k:=ch-1) (by omega);rw[e1,hs1,Aa,g32 (by omega),Aa,Ui _ (by omega),Aa];by_cases hc:1<ch
 ·rw[Abm hc]at hlast;have e3:((ch-1:Nat):Int)-1=((ch-2:Nat):Int):=by omega
  have hs2:=g32 (l:=tE) (k:=ch-2) (by omega);rw[Abm (by rw[Aq];simp;omega),Aa,e2,e3,hs2,Aa,Aya,Aa,g32 (by rw[Blz];omega),Aa,Ui _ (by rw[Blz];omega),Aa];refine hend _ (by simp) ?_;rw[hlast,Aq1 _ (by rw[Blz];omega)]
 ·rw[Aau hc]at hlast;rw[Aau (by rw[Aq];simp;omega)];refine hend _ (by simp) ?_;rw[hlast,Aq1 _ (by omega)]
theorem Bhj(ch:Nat)(m:List Int32)(h1:1<=ch)(h6:ch<=6)(hm:m.length %ch=0)(hl2:m.length<=4000):Vt (ch:Int) m=some 0:=by
 rw[Vt,Aau (by simp[Ae,Aq];omega),Aau (by rw[Aq,Ac];simp;omega),Bk (by rw[Aj];simp;omega),Aa,Aau];rw[Aq,Gx,Ac,<-Int.ofNat_tmod,hm];simp
theorem Ab2(ch:Nat)(m:List Int32)(h1:1<=ch)(h6:ch<=6)(hm:m.length %ch=0)(hl2:m.length<=4000):∀(j at' q:Nat),at' %ch=0->at'<=m.length->m.length-at'<=j->j<q->
  Rv (ch:Int) m q (at':Int) ((unm ch m).take at')=some (unm ch m,0)
 |j,at',q+1,ha,hle,hj,hq=>by
  have hlen:=sU ch m;rw[Rv,SK];by_cases h:at'<m.length
  ·have hb:=Agj ha hm h;have e4:Ad (at':Int) (ch:Int)=((at'+ch:Nat):Int):=by rw[Ah (by omega) (by omega)];omega
   have hrest:=Ab2 ch m h1 h6 hm hl2 (j-1) (at'+ch) q (by rw[Bo0,ha]) hb (by omega) (by omega);have hseg:((m.take (at'+ch)).drop at').length=ch:=by simp;omega
   have htl:((unm ch m).take at').length=at':=by simp[hlen];omega
   rw[Abm (by rw[Ae,Ac];simp;omega),e4,Wd (by omega) (by omega) (by omega),Aa,show((at'+ch:Nat):Int).toNat=at'+ch from rfl,show(at':Int).toNat=at' from rfl,Atg _ ch h1 h6 hseg,Aa,Bi (by rw[htl,iT];omega),Aa];have e:(unm ch m).take at'++Aa9 (λi=>((m.take (at'+ch)).drop at').getD i 0) ch=(unm ch m).take (at'+ch):=by
    apply Bif (by rw[Abq,htl,iT,Afz,hlen];omega);intro k k1 k2;rw[Afz,hlen]at k2;rw[List.getElem_append,List.getElem_take];by_cases hk:k<at'
    ·rw[dif_pos (by rw[htl];exact hk),List.getElem_take]
    ·rw[dif_neg (by rw[htl];exact hk)];have hu:=Adj (m:=m) ha (show k-at'<ch by omega) (by omega);rw[show at'+(k-at')=k by omega,Ox (by omega)]at hu;have hx:∀n,n<=ch->unV (λi=>((m.take (at'+ch)).drop at').getD i 0) ch n=unV (λi=>m.getD (at'+i) 0) ch n:=by
      have hf:∀i,i<ch-> ((m.take (at'+ch)).drop at').getD i 0=m.getD (at'+i) 0:=by
       intro i hi;rw[Ox (by omega),Ox (by omega)];simp
      intro n
      induction n with
      |zero=>
       intro _;rw[unV,unV,hf _ (by omega)];split
       ·rw[hf _ (by omega)]
       ·rfl
      |succ n ih=>intro hn;rw[unV,unV,ih (by omega),hf _ (by omega)]
     have hy:=zM (λi=>((m.take (at'+ch)).drop at').getD i 0) (show k-at'<ch by omega);rw[Ox (by rw[iT];omega)]at hy;rw[hu,<-hx _ (by omega),<-hy];congr 1;rw[htl]
   rw[e];exact hrest
  ·rw[Aau (by rw[Ae,Ac];simp;omega),Ati (by omega)];rfl
theorem Aw7(ch:Nat)(m:List Int32)(h1:1<=ch)(h6:ch<=6)(hm:m.length %ch=0)(hl2:m.length<=4000):LR (ch:Int) m=some (unm ch m,0):=by
 have h:=Ab2 ch m h1 h6 hm hl2 m.length 0 Ax (by simp) (by omega) (by omega) (by have:=As;omega);rw[LR,TC,Bhj ch m h1 h6 hm hl2,Aa,Aau (by rw[Aj];simp)];exact h
def pre{α:Type}(ch c:Nat)(f:α->Nat->α)(a0:α):Nat->α
 |0=>a0
 |m+1=>if m %ch=c then f (pre ch c f a0 m) m else pre ch c f a0 m
theorem Awe{α:Type}(ch c:Nat)(f:α->Nat->α)(a0:α):∀m,m<=c->c<ch->pre ch c f a0 m=a0
 |0,_,_=>rfl
 |m+1,h,h2=>by rw[pre,Aau (by rw[Ac0 (by omega)];omega),Awe ch c f a0 m (by omega) h2]
theorem Aqc{α:Type}(ch c i:Nat)(f:α->Nat->α)(a0:α)(hi:i %ch=c)(hc:c<ch):∀j,j<ch->pre ch c f a0 (i+1+j)=pre ch c f a0 (i+1)
 |0,_=>rfl
 |j+1,h=>by
  have hne:(i+1+j) %ch≠c:=by
   intro e;have h1:(i+(1+j)) %ch=i %ch:=by rw[hi,<-e];congr 1;omega
   have h2:(1+j) %ch=0:=by
    have h3:=Nat.sub_mod_eq_zero_of_mod_eq h1;rwa [Bkp]at h3
   rw[Ac0 (by omega)]at h2;omega
  rw[show i+1+(j+1)=(i+1+j)+1 by omega,pre,Aau hne,Aqc ch c i f a0 hi hc j (by omega)]
theorem Bc8{α:Type}(ch c i:Nat)(f:α->Nat->α)(a0:α)(hi:i %ch=c)(hc:c<ch):pre ch c f a0 (i+ch)=f (pre ch c f a0 i) i:=by
 have h:=Aqc ch c i f a0 hi hc (ch-1) (by omega);rw[show i+1+(ch-1)=i+ch by omega]at h;rw[h,pre,Abm hi]
abbrev CS:=Int32×List Int32×List Int32
def Apl(bits:Int)(s:CS)(y:Int32):Int32:=y+gF (sB bits) s.2.1 s.2.2+gs (shB bits) s.1
def Akg(bits:Int)(s:CS)(y:Int32):CS:=(Apl bits s y,lrn s.2.1 s.2.2 y,(y+gF (sB bits) s.2.1 s.2.2)::s.2.2.take 15)
def cst(bits:Int)(ch:Nat)(t:List Int32)(v:List UInt32)(c:Nat):Nat->CS:=pre ch c (λs i=>Akg bits s (aP (v.getD i 0))) (0,t,List.replicate 16 0)
def OkC(bits:Int)(s:CS):Prop:=OkF (sB bits) s.2.1 s.2.2
theorem Am6(bits:Int)(ch:Nat){t:List Int32}(ht:t.length=16)(v:List UInt32)(c:Nat):∀m,OkC bits (cst bits ch t v c m)
 |0=>⟨Blq bits,ht,by simp[cst,pre]⟩
 |m+1=>by
  have ih:=Am6 bits ch ht v c m;rw[cst,pre];split
  ·exact Bdw ih _ _
  ·exact ih
def smp(bits:Int)(ch:Nat)(t:List Int32)(v:List UInt32):List Int32:=(List.range v.length).map λi=>Apl bits (cst bits ch t v (i %ch) i) (aP (v.getD i 0))
theorem rR(bits:Int)(ch:Nat)(t:List Int32)(v:List UInt32):(smp bits ch t v).length=v.length:=by simp[smp]
theorem Awg(bits:Int)(ch:Nat)(t:List Int32)(v:List UInt32){i:Nat}(h:i<v.length):(smp bits ch t v).getD i 0=Apl bits (cst bits ch t v (i %ch) i) (aP (v.getD i 0)):=by
 rw[Ox (by rw[rR];exact h)];simp[smp]
abbrev CL:=Int×Int32×(Int×(List Int32)×(List Int32)×Unit)×Unit
def toC(bits:Int)(s:CS):CL:=(bits,s.1,(sB bits,s.2.1,s.2.2,()),())
def cts(bits:Int)(ch:Nat)(t:List Int32)(v:List UInt32)(i:Nat):List CL:=(List.range 6).map λc=>toC bits (cst bits ch t v c i)
theorem Avu{bits:Int}{ch:Nat}{t:List Int32}{v:List UInt32}{i c:Nat}(h:c<6):Ap (cts bits ch t v i) (c:Int)=some (toC bits (cst bits ch t v c i)):=by
 rw[Bn (by simp[cts];exact h)];simp[cts]
theorem An5(bits:Int)(ch:Nat)(t:List Int32)(v:List UInt32)(c m:Nat):cst bits ch t v c (m+1)=if m %ch=c then Akg bits (cst bits ch t v c m) (aP (v.getD m 0))else cst bits ch t v c m:=rfl
theorem Aud{bits:Int}{ch:Nat}{t:List Int32}{v:List UInt32}{i c:Nat}(h:c<6)(hc:i %ch=c):Ng (cts bits ch t v i) (c:Int) (toC bits (Akg bits (cst bits ch t v c i) (aP (v.getD i 0))))=some (cts bits ch t v (i+1)):=by
 rw[Ui _ (by simp[cts];exact h)];congr 1;apply Bif (by simp[cts]);intro k h1 h2;rw[Bpe];simp only[cts,Bn0,Bnu];by_cases hk:c=k
 ·subst hk;rw[Abm rfl,An5,Abm hc]
 ·rw[Aau hk,An5,Aau (by omega)]
section
variable {bits:Int} {ch:Nat} {t:List Int32} {v:List UInt32}
theorem Ap7(hb:Bm bits)(ht:t.length=16)(h1:1<=ch)(h6:ch<=6)(hv:v.length<=4000):∀(j i q:Nat),i+j=v.length->j<q->
  Kz v (ch:Int) bits q (i:Int) (cts bits ch t v i) ((smp bits ch t v).take i)=Om (ch:Int) bits (smp bits ch t v)
 |0,i,q+1,hi,_=>by
  rw[Kz,Oe,Aau (by rw[Ae,Ac];simp;omega),Ati (by rw[rR];omega)]
 |j+1,i,q+1,hi,hq=>by
  have hlen:=rR bits ch t v;have hc:i %ch<6:=Anj (Bj3 _ (by omega)) h6;have hok:=Am6 bits ch ht v (i %ch) i;have hs:=Aud (bits:=bits) (ch:=ch) (t:=t) (v:=v) (i:=i) hc rfl;have hx:=Awg bits ch t v (i:=i) (by omega);have hcb:=Axt hb hok (cst bits ch t v (i %ch) i).1 (aP (v.getD i 0));have ih:=Ap7 hb ht h1 h6 hv j (i+1) q (by omega) (by omega);rw[Ma (by omega),<-Ox (by omega),hx]at ih;rw[Kz,Oe,Abm (by rw[Ae,Ac];simp;omega),xX (by omega),Aa,Bk (by rw[Aj];simp;omega),Aa,OG,Avu hc,Aa,Aa,Ba3,Aa];refine Bjl (congrArg (λo=>Option.bind o _) hcb) ?_;rw[Aa];simp only;rw[CR,VR,Aau (by rw[Aj];simp),OG];refine Bjl (congrArg (λo=>Option.bind o _) hs) ?_;rw[Aa,Bi (by simp;omega),Aa,Ah (by omega) (by omega)];exact ih
theorem Azq(hb:Bm bits)(ht:t.length=16)(h1:1<=ch)(h6:ch<=6)(hv:v.length<=4000):Wx (ch:Int) bits t v=Om (ch:Int) bits (smp bits ch t v):=by
 have h:=Ap7 hb ht h1 h6 hv v.length 0 Ax (by omega) (by have:=As;omega);have e:Ax=(Ax-7)+1+1+1+1+1+1+1:=by have:=As;omega
 have hs:Tp v (ch:Int) bits t 0 (List.replicate 6 ((0:Int),(0:Int32),((0:Int),(List.replicate 16 (0:Int32)),(List.replicate 16 (0:Int32)),()),()))=DD v (ch:Int) bits (cts bits ch t v 0):=by
  rw[Tp,e];obtain rfl|rfl|rfl:=hb<;>rfl
 rw[Wx,FT,hs];exact h
theorem Aju(bk:Int->List Int32->Option (List Int32))(hb:Bm bits)(ht:t.length=16)(h1:1<=ch)(h6:ch<=6)(hv:v.length<=4000)(z:List Int32)(c:Nat)(hc:c<ch):∀(j i q:Nat),i %ch=c->v.length-i<=j->i<=5000->j<q->
  Nl bk v (ch:Int) bits t (c:Int) q (i:Int) (jQ (λk=>decide (k %ch<c\/ (k %ch=c/\k<i))) (smp bits ch t v) z) bits (cst bits ch t v c i).1 (sB bits) (cst bits ch t v c i).2.1 (cst bits ch t v c i).2.2=
   bk ((c+1:Nat):Int) (jQ (λk=>decide (k %ch<c+1)) (smp bits ch t v) z)
 |j,i,q+1,hi,hj,hi5,hq=>by
  have hlen:=rR bits ch t v;rw[Nl,FX];by_cases h:i<v.length
  ·have hok:=Am6 bits ch ht v c i;have hst:=Azj hb hok (cst bits ch t v c i).1 (aP (v.getD i 0));have hx:=Awg bits ch t v (i:=i) h;rw[hi]at hx;have ih:=Aju bk hb ht h1 h6 hv z c hc (j-1) (i+ch) q (by rw[Bo0];exact hi) (by omega) (by omega) (by omega);have Ahy:cst bits ch t v c (i+ch)=Akg bits (cst bits ch t v c i) (aP (v.getD i 0)):=Bc8 ch c i _ _ hi hc;rw[Ahy]at ih;have hset:=lS (p:=λk=>decide (k %ch<c\/ (k %ch=c/\k<i))) (a:=smp bits ch t v) (b:=z) (k:=i) (by omega);rw[hx]at hset;have Arl:jQ (λj=>decide (j %ch<c\/ (j %ch=c/\j<i))||decide (j=i)) (smp bits ch t v) z=jQ (λk=>decide (k %ch<c\/ (k %ch=c/\k<i+ch))) (smp bits ch t v) z:=by
    apply Xg;intro k _;rw[Ajs];simp only[Baq,Acm];constructor
    ·rintro((h1|h1)|h1)
     ·exact .inl h1
     ·exact .inr ⟨h1.1,by omega⟩
     ·subst h1;exact .inr ⟨hi,by omega⟩
    ·rintro(h1|⟨h1,h2⟩)
     ·exact .inl (.inl h1)
     ·by_cases h3:k<i
      ·exact .inl (.inr ⟨h1,h3⟩)
      ·refine .inr ?_;have h4:(i+(k-i)) %ch=i %ch:=by rw[show i+(k-i)=k by omega,h1,hi]
       have h5:=Nat.sub_mod_eq_zero_of_mod_eq h4;rw[Bkp,Ac0 (by omega)]at h5;omega
   rw[Arl]at hset;rw[Abm (by rw[Ae,Ac];simp;omega),xX h,Aa,Bgm,Aa];refine Bjl (congrArg (λo=>Option.bind o _) hst) ?_;rw[Aa];simp only;rw[GM,GD,EC (by omega),Aa];refine Bjl (congrArg (λo=>Option.bind o _) hset) ?_;rw[Aa,HF,GN,Ah (by omega) (by omega)];exact ih
  ·rw[Aau (by rw[Ae,Ac];simp;omega),GL,HH,Ah (by omega) (by omega)];have Arl:jQ (λk=>decide (k %ch<c\/ (k %ch=c/\k<i))) (smp bits ch t v) z=jQ (λk=>decide (k %ch<c+1)) (smp bits ch t v) z:=by
    apply Xg;intro k hk;rw[Ajs];simp only[Acm];omega
   rw[Arl];rfl
theorem Ajb(hb:Bm bits)(ht:t.length=16)(h1:1<=ch)(h6:ch<=6)(hv:v.length<=4000)(z:List Int32):∀(j c q:Nat),c+j=ch->j<q->
  Gv v (ch:Int) bits t q (c:Int) (jQ (λk=>decide (k %ch<c)) (smp bits ch t v) z)=Ty (ch:Int) bits (smp bits ch t v)
 |0,c,q+1,hc,_=>by
  rw[Gv,Ur,Aau (by rw[Ae];simp;omega),sE (λk hk=>by have:=Bj3 k (show 0<ch by omega);simp;omega)]
 |j+1,c,q+1,hc,hq=>by
  have ih:=Ajb hb ht h1 h6 hv z j (c+1) q (by omega) (by omega);have hin:=Aju (Gv v (ch:Int) bits t q) hb ht h1 h6 hv z c (by omega) v.length c Ax (Ac0 (by omega)) (by omega) (by omega) (by have:=As;omega);have h0:cst bits ch t v c c=(0,t,List.replicate 16 0):=Awe ch c _ _ c (Arj _) (by omega);rw[h0]at hin;have Arl:jQ (λk=>decide (k %ch<c\/ (k %ch=c/\k<c))) (smp bits ch t v) z=jQ (λk=>decide (k %ch<c)) (smp bits ch t v) z:=by
   apply Xg;intro k hk;have:=Bpf k ch;rw[Ajs];simp only[Acm];omega
  rw[Arl]at hin;rw[Gv,Ur,Abm (by rw[Ae];simp;omega),Bl8 hb,Aa];simp only;rw[GF];exact Bjl hin ih
theorem Ay8(hb:Bm bits)(ht:t.length=16)(h1:1<=ch)(h6:ch<=6)(hv:v.length<=4000)(hm:v.length %ch=0):Tx (ch:Int) bits t v=some (unm ch (smp bits ch t v)):=by
 have hlen:=rR bits ch t v;have h:=Ajb hb ht h1 h6 hv (List.replicate v.length 0) ch 0 Ax (by omega) (by have:=As;omega);rw[oV (by rw[hlen];simp) (λk _=>by simp)]at h;rw[Tx,MA,Ac,rA (by omega) (by omega),Aa,Bk (by rw[Ar];simp),Aa,GO];refine Bjl h ?_;rw[Ty,GU,Aw7 ch _ h1 h6 (by rw[hlen];exact hm) (by omega),Aa]
end
def hB(bits:Int):Int:=if bits=8 then 128 else if bits=16 then 32768 else 8388608
theorem Aik{bits:Int}(h:Bm bits):Ro bits=some (Int32.ofInt (-(hB bits)),Int32.ofInt (hB bits-1),0):=by
 obtain rfl|rfl|rfl:=h<;>decide
theorem cP{bits:Int}(h:Bm bits):Nk bits=some (hB bits):=by
 obtain rfl|rfl|rfl:=h<;>rfl
theorem UY(bits:Int):0<hB bits/\hB bits<=8388608:=by
 unfold hB;split; · omega
 ·split<;>omega
theorem Afp{bits:Int}(h:Bm bits)(l:List Int32)(hl:l.length<=4000):∀(j i q:Nat),i+j=l.length->j<q->
  Ux (Int32.ofInt (-(hB bits))) (Int32.ofInt (hB bits-1)) l q (i:Int)=Ba l (hB bits) q (i:Int)
 |0,i,q+1,hi,_=>by
  rw[Ux,IB,Ba,Dd,Aau (by rw[Ae,Ac];simp;omega),Aau (by rw[Ae,Ac];simp;omega)];rfl
 |j+1,i,q+1,hi,hq=>by
  have hh:=UY bits;have ih:=Afp h l hl j (i+1) q (by omega) (by omega);have e1:(Int32.ofInt (-(hB bits))).toInt= -(hB bits):=by rw[Bln,Bpk (by show -(4294967296/2:Int)<= _;omega) (by show _<(4294967296+1)/2;omega)]
  have e2:(Int32.ofInt (hB bits-1)).toInt=hB bits-1:=by rw[Bln,Bpk (by show -(4294967296/2:Int)<= _;omega) (by show _<(4294967296+1)/2;omega)]
  rw[Ux,IB,Ba,Dd,Abm (by rw[Ae,Ac];simp;omega),Abm (by rw[Ae,Ac];simp;omega),g32 (by omega),Aa,Aa,Aa,Ge,Ams,Db (by omega) (by omega),Ah (by omega) (by omega),Anf,Ase,e1,e2,Ae,Dw];generalize(l.getD i 0).toInt=X;by_cases h1:X< -(hB bits)
  ·rw[Abm (by simp;omega),Abm (by simp;omega)]
  ·rw[Aau (c:=decide (X<0-hB bits)=true) (by simp;omega)];by_cases h2:hB bits<=X
   ·rw[Abm (by simp;omega),Abm (by simp;omega)]
   ·rw[Aau (by simp;omega),Aau (by simp;omega)];exact ih
theorem aX{bits:Int}(h:Bm bits)(l:List Int32)(hl:l.length<=4000):Ry bits l=Ay bits l:=by
 have hh:=UY bits;rw[Ry,YM,Aik h,Aa,Ay,Ea,cP h,Aa];simp only;rw[Aau (by rw[Aj];simp),Aau (by rw[Aq,Ac];simp;omega),Aau (by rw[Ar];simp;omega),Aau (by rw[Aq,Ac];simp;omega)];exact Afp h l hl l.length 0 Ax (by omega) (by have:=As;omega)
theorem Asw{bits:Int}(h:Bm bits)(l:List Int32)(hl:l.length<=4000):∃e,Ay bits l=some e:=by
 have hh:=UY bits;have key:∀(j i q:Nat),i+j=l.length->j<q->∃e,Ba l (hB bits) q (i:Int)=some e:=by
  intro j
  induction j with
  |zero=>
   intro i q hi hq;obtain⟨q,rfl⟩:∃k,q=k+1:=⟨q-1,by omega⟩;rw[Ba,Dd,Aau (by rw[Ae,Ac];simp;omega)];exact⟨_,rfl⟩
  |succ j ih=>
   intro i q hi hq;obtain⟨q,rfl⟩:∃k,q=k+1:=⟨q-1,by omega⟩;rw[Ba,Dd,Abm (by rw[Ae,Ac];simp;omega),g32 (by omega),Aa,Aa,Ah (by omega) (by omega)];split
   ·exact⟨_,rfl⟩
   ·split
    ·exact⟨_,rfl⟩
    ·exact ih (i+1) q (by omega) (by omega)
 obtain⟨e,he⟩:=key l.length 0 Ax (by omega) (by have:=As;omega);rw[Ay,Ea,cP h,Aa,Aau (by rw[Ar];simp;omega),Aau (by rw[Aq,Ac];simp;omega)];exact⟨e,he⟩
theorem wY{bits:Int}{ch:Nat}{t:List Int32}{v:List UInt32}(hb:Bm bits)(ht:t.length=16)(h1:1<=ch)(h6:ch<=6)(hv:v.length<=4000)(hm:v.length %ch=0):
  ∃l e,Tx (ch:Int) bits t v=some l/\DC (ch:Int) bits l=some (if e≠0 then([],e)else(l,0))/\Wx (ch:Int) bits t v=some (if e≠0 then([],e)else(l,0))/\Ay bits l=some e/\l.length=v.length:=by
 have hlen:=rR bits ch t v;have hul:=sU ch (smp bits ch t v);obtain⟨e,he⟩:=Asw hb (unm ch (smp bits ch t v)) (by omega);refine⟨unm ch (smp bits ch t v),e,Ay8 hb ht h1 h6 hv hm,?_,?_,he,by omega⟩
 ·rw[DC,he,Aa];by_cases h:e=0
  ·rw[Aau (by rw[Aj];simpa using h),Aau (by simpa using h)]
  ·rw[Abm (by rw[Aj];simpa using h),Abm h]
 ·rw[Azq hb ht h1 h6 hv,Om,VT,Bg1 ch _ h1 h6 (by rw[hlen];exact hm) (by omega),Aa];simp only;rw[Aau (by rw[Aj];simp),aX hb _ (by omega),he,Aa];by_cases h:e=0
  ·rw[Aau (by rw[Aj];simpa using h),Aau (by simpa using h)]
  ·rw[Abm (by rw[Aj];simpa using h),Abm h]
def pI(s:Nat):Nat:=(s/2)^^^ (if s %2=1 then 3988292384 else 0)
theorem Ag2{s:Nat}(h:s<4294967296):pI s<4294967296:=by
 unfold pI;exact Bii (n:=32) (by simp;omega) (by split<;>decide)
theorem Anu(x y:Nat):(x^^^y)/2=(x/2)^^^ (y/2):=by
 have:=Nat.shiftRight_xor_distrib (a:=x) (b:=y) (i:=1);simpa [Nat.shiftRight_eq_div_pow]using this
theorem Ayj(x y:Nat):pI (x^^^y)=pI x^^^pI y:=by
 have h:(x^^^y) %2=(x %2+y %2) %2:=by
  have:=Nat.xor_mod_two_eq_one (a:=x) (b:=y);have h1:(x^^^y) %2<2:=Bj3 _ (by omega);omega
 simp only[pI,Anu,h];have hx:x %2=0\/x %2=1:=by omega
 have hy:y %2=0\/y %2=1:=by omega
 rcases hx with hx|hx<;>rcases hy with hy|hy<;>simp only[hx,hy]<;>simp
 ·rw[Bll]
 ·rw[Bll,Bpp (y/2),Bll,Bpp 3988292384 (y/2)]
 ·rw[Bll,Bpp 3988292384,Bll,Nat.xor_self];simp
def BY:Nat->Nat->Nat
 |0,s=>s
 |k+1,s=>BY k (pI s)
theorem Ake:∀(k x y:Nat),BY k (x^^^y)=BY k x^^^BY k y
 |0,_,_=>rfl
 |k+1,x,y=>by rw[BY,Ayj,Ake k];rfl
theorem Ak1:∀(k h:Nat),BY k (2^k*h)=h
 |0,h=>by simp[BY]
 |k+1,h=>by
  have:pI (2^(k+1)*h)=2^k*h:=by
   rw[Ax2,Ark (2^k) 2,Azz,pI,Aau (by omega),Nat.mul_div_cancel_left _ (by omega)];simp
  rw[BY,this,Ak1 k]
theorem Agm:∀(k:Nat) {s:Nat},s<4294967296->BY k s<4294967296
 |0,_,h=>h
 |k+1,_,h=>Agm k (Ag2 h)
def Ach(s c:Nat):Nat:=BY 8 (s^^^c)
theorem Ad1{s c:Nat}(h:s<4294967296)(hc:c<256):Ach s c<4294967296:=Agm 8 (Bii (n:=32) (by simpa using h) (by simp;omega))
theorem Aow{s c:Nat}(hc:c<256):Ach s c=(s/256)^^^BY 8 ((s %256)^^^c):=by
 have h:s=(2^8*(s/256))^^^ (s %256):=by
  have h1:s %256<2^8:=by simpa using Bj3 s (by omega:256>0)
  have:=Bhi h1 (s/256);have h2:2^8*(s/256)|||s %256=(2^8*(s/256))^^^ (s %256):=by
   apply Nat.eq_of_testBit_eq;intro i;rw[Nat.testBit_or,Nat.testBit_xor];by_cases hi:i<8
   ·have:(2^8*(s/256)).testBit i=false:=by rw[Nat.testBit_two_pow_mul];simp;omega
    rw[this];simp
   ·have:(s %256).testBit i=false:=Nat.testBit_lt_two_pow (Anj h1 (Ad5 (by omega) (by omega)));rw[this];simp
  omega
 rw[Ach]
 conv=>lhs;rw[h]
 rw[Bll,Ake,Ak1]
def Axj(s:Nat)(l:List UInt8):Nat:=l.foldl (λs c=>Ach s c.toNat) s
def Fx(b:List UInt8):UInt32:=4294967295-UInt32.ofNat (Axj 4294967295 b)
theorem Bgf(s:UInt32)(c:Nat)(hc:c<256):HV s (Af (HJ (UInt8.ofNat c) (2:UInt8)):Int)=some (UInt32.ofNat (s.toNat/2^^^ (if(s.toNat^^^c) %2=1 then 3988292384 else 0))):=by
 have h1:(Af (HJ (UInt8.ofNat c) (2:UInt8)):Int)=((c %2:Nat):Int):=by
  rw[XW,Bfb,UInt8.toNat_mod,Aqr];show((c %256 %2:Nat):Int)=_;omega
 have h2:geq (HJ s (2:UInt32)) (1:UInt32)=decide (s.toNat %2=1):=by
  rw[Ana,Aqh,Ajs];simp only[Aur,Acm];rw[<-UInt32.toNat_inj,UInt32.toNat_mod];rfl
 have h3:Br s (2:UInt32)=UInt32.ofNat (s.toNat/2):=by
  apply UInt32.toNat_inj.1;rw[An6,UInt32.toNat_div,Ani]
  show s.toNat/2=_;have:=s.toNat_lt;omega
 have h4:Zy (Br s (2:UInt32)) (3988292384:UInt32)=UInt32.ofNat (s.toNat/2^^^3988292384):=by
  apply UInt32.toNat_inj.1;rw[h3,gJ,Bpc,Ani,Ani];have:=s.toNat_lt;rw[Ac0 (a:=s.toNat/2) (by omega),Ac0]
  ·rfl
  ·exact Bii (n:=32) (by omega) (by decide)
 have hx:(s.toNat^^^c) %2=(s.toNat %2+c %2) %2:=by
  have:=Nat.xor_mod_two_eq_one (a:=s.toNat) (b:=c);have h1:(s.toNat^^^c) %2<2:=Bj3 _ (by omega);omega
 have hs:s.toNat %2=0\/s.toNat %2=1:=by omega
 have hc2:c %2=0\/c %2=1:=by omega
 rw[HV,RD,h1,h2,hx];rcases hs with hs|hs<;>rcases hc2 with hc2|hc2<;>simp[hs,hc2,Ar,QZ,TG,gJ,h3]
theorem Abi:∀(j i q:Nat) (s:UInt32) (c:Nat),i+j=8->j<q->c<2^j->Mt q s (UInt8.ofNat c) (i:Int)=some (UInt32.ofNat (BY j (s.toNat^^^c)))
 |0,i,q+1,s,c,hi,_,hc=>by
  obtain rfl:i=8:=by omega
  obtain rfl:c=0:=by simpa using hc
  rw[Mt,AB,Aau (by rw[Ae];simp),SQ,SY,BY];simp
 |j+1,i,q+1,s,c,hi,hq,hc=>by
  have hc8:c<256:=Anj hc (show 2^(j+1)<=2^8 from Ad5 (by omega) (by omega));rw[Mt,AB,Abm (by rw[Ae];simp;omega),Bgf s c hc8,Aa,Ah (by omega) (by omega)];have e:Br (UInt8.ofNat c) (2:UInt8)=UInt8.ofNat (c/2):=by
   apply UInt8.toNat_inj.1;rw[Bhq,UInt8.toNat_div,Aqr,Aqr]
   show c %256/2=_;omega
  rw[e];have h:=Abi j (i+1) q (UInt32.ofNat (s.toNat/2^^^ (if(s.toNat^^^c) %2=1 then 3988292384 else 0))) (c/2) (by omega) (by omega) (by rw[Ax2]at hc;omega);rw[show((i:Int)+1)=((i+1:Nat):Int) by omega,h,Ani,BY];congr 3;have:=s.toNat_lt;rw[Ac0,pI,Anu,Bll,Bll,Bpp (c/2)];exact Bii (n:=32) (by omega) (by split<;>decide)
theorem Bfv(s:UInt32)(c:UInt8):dM s c=some (UInt32.ofNat (Ach s.toNat c.toNat)):=by
 have h:=Abi 8 0 Ax s c.toNat (by omega) (by have:=As;omega) (by simpa using c.toNat_lt);rw[UInt8.ofNat_toNat]at h;exact h
theorem uF(b:List UInt8)(hb:b.length<4611686018427387904):∀(j i q:Nat) (s:UInt32),i+j=b.length->j<q->Kn b q s (i:Int)=some (UInt32.ofNat (Axj s.toNat (b.drop i)))
 |0,i,q+1,s,hi,_=>by
  rw[Kn,Vl,Aau (by rw[Ae,Ac];simp;omega),show i=b.length by omega,Bla];simp[JY,IP,Axj]
 |j+1,i,q+1,s,hi,hq=>by
  have hlt:i<b.length:=by omega
  rw[Kn,Vl,Abm (by rw[Ae,Ac];simp;omega),Bn hlt,Aa,Bfv,Aa,Ah (by omega) (by omega)];have h:=uF b hb j (i+1) q (UInt32.ofNat (Ach s.toNat b[i].toNat)) (by omega) (by omega);rw[show((i:Int)+1)=((i+1:Nat):Int) by omega,h,drop_cons hlt,Ani,Ac0 (Ad1 s.toNat_lt b[i].toNat_lt)];rfl
theorem Bcy(b:List UInt8)(hb:b.length<4611686018427387904):Ww b=some (Fx b):=by
 have h:=uF b hb b.length 0 Ax 4294967295 (by omega) (by have:=As;omega);rw[Ww,VZ,KL,KR,show((0:Int))=((0:Nat):Int)from rfl,h,Aa,Ahc];rfl
theorem Bey(c:UInt32):Zy (Ci c (GI.toZ (1:UInt64)).toNat) (Bf (3988292384:UInt32) (Fa c (1:UInt32)))=UInt32.ofNat (pI c.toNat):=by
 apply UInt32.toNat_inj.1;have e:(GI.toZ (1:UInt64)).toNat=1:=rfl;have h1:(Ci c 1).toNat=c.toNat/2:=by rw[SP]
 have h2:(Bf (3988292384:UInt32) (Fa c (1:UInt32))).toNat=if c.toNat %2=1 then 3988292384 else 0:=by
  rw[Bah,Afy,UInt32.toNat_mul,UInt32.toNat_and]
  show 3988292384*(c.toNat&&&1) %4294967296=_;rw[Nat.and_one_is_mod];have:c.toNat %2=0\/c.toNat %2=1:=by omega
  rcases this with h|h<;>simp[h]
 rw[e,gJ,Bpc,h1,h2,Ani,Ac0 (Ag2 c.toNat_lt)];rfl
theorem Aqm(Ir:Int->List UInt32->Option (UInt32×Int))(s:UInt32)(b:List UInt8)(x:Int)(t:List UInt32):∀(j i q:Nat) (c:UInt32),i+j=8->j<q->
  Uw Ir s b x t q c (i:Int)=IX Ir s b x (UInt32.ofNat (BY j c.toNat)) t
 |0,i,q+1,c,hi,_=>by
  obtain rfl:i=8:=by omega
  rw[Uw,KA,Aau (by rw[Ae];simp),BY,UInt32.ofNat_toNat]
 |j+1,i,q+1,c,hi,hq=>by
  rw[Uw,KA,Abm (by rw[Ae];simp;omega),Bey,Ah (by omega) (by omega),show((i:Int)+1)=((i+1:Nat):Int) by omega,Aqm Ir s b x t j (i+1) q _ (by omega) (by omega),Ani,Ac0 (Ag2 c.toNat_lt)];rfl
def tbl(n:Nat):List UInt32:=(List.range n).map λi=>UInt32.ofNat (BY 8 i)
theorem Au6(s:UInt32)(b:List UInt8):∀(j i q:Nat),i+j=256->j<q->Qb s b q (i:Int) (tbl i++List.replicate j 0)=HX s b (tbl 256)
 |0,i,q+1,hi,_=>by
  obtain rfl:i=256:=by omega
  rw[Qb,JV,Aau (by rw[Ae];simp)];simp
 |j+1,i,q+1,hi,hq=>by
  have hlen:(tbl i++List.replicate (j+1) 0).length=i+(j+1):=by simp[tbl]
  rw[Qb,JV,Abm (by rw[Ae];simp;omega),YO];have h:=Aqm (Qb s b q) s b (i:Int) (tbl i++List.replicate (j+1) 0) 8 0 Ax (Af (i:Int)) (by omega) (by have:=As;omega);rw[show((0:Int))=((0:Nat):Int)from rfl,h,IX,ZA,Bn (by rw[hlen];omega),Aa,Ui _ (by rw[hlen];omega),Aa,aY,pQ,Ah (by omega) (by omega)];have e:(Af (i:Int):UInt32).toNat=i:=by rw[Ai9,Ani,Ac0 (by omega)]
  rw[e,Bis,kI (by simp[tbl])];have h2:=Au6 s b j (i+1) q (by omega) (by omega);have h3:tbl (i+1)=tbl i++[UInt32.ofNat (BY 8 i)]:=by simp[tbl,List.range_succ]
  rw[h3]at h2;rw[show((i:Int)+1)=((i+1:Nat):Int) by omega,<-h2];simp
theorem Bfg{i:Nat}(h:i<256):Ap (tbl 256) (i:Int)=some (UInt32.ofNat (BY 8 i)):=by
 rw[Bn (by simpa [tbl]using h)];simp[tbl]
theorem Bba(s:UInt32)(c:UInt8):Ap (tbl 256) (GI.toZ (Zy (Af s:UInt8) c))=some (UInt32.ofNat (BY 8 ((s.toNat %256)^^^c.toNat))):=by
 have e:GI.toZ (Zy (Af s:UInt8) c)=(((s.toNat %256)^^^c.toNat:Nat):Int):=by
  rw[FA,Awn,UInt8.toNat_xor,vS,Aqr]
 rw[e,Bfg];exact Bii (n:=8) (by simp;omega) (by simpa using c.toNat_lt)
theorem Ax3(s:UInt32)(c:UInt8):Zy (Ci s (GI.toZ (8:UInt64)).toNat) (UInt32.ofNat (BY 8 ((s.toNat %256)^^^c.toNat)))=UInt32.ofNat (Ach s.toNat c.toNat):=by
 apply UInt32.toNat_inj.1;have hlt:BY 8 ((s.toNat %256)^^^c.toNat)<4294967296:=Agm 8 (Bii (n:=32) (by simp;omega) (by have:=c.toNat_lt;simp;omega));have e:(GI.toZ (8:UInt64)).toNat=8:=rfl;rw[e,gJ,Bpc,SP,Ani,Ani,Ac0 hlt,Ac0 (Ad1 s.toNat_lt c.toNat_lt),Aow c.toNat_lt]
theorem Aoh(b:List UInt8)(hb:b.length<4611686018427387904):∀(j i q:Nat) (s:UInt32),i+j=b.length->j<q->Ug b (tbl 256) q s (i:Int)=some (UInt32.ofNat (Axj s.toNat (b.drop i)),0)
 |0,i,q+1,s,hi,_=>by
  rw[Ug,LO,Aau (by rw[Ae,Ac];simp;omega),show i=b.length by omega,Bla];simp[ZZ,qX,Axj]
 |j+1,i,q+1,s,hi,hq=>by
  have hlt:i<b.length:=by omega
  rw[Ug,LO,Abm (by rw[Ae,Ac];simp;omega),Bn hlt,Aa,Bba,Aa,Aa,Ax3,Ah (by omega) (by omega)];have h:=Aoh b hb j (i+1) q (UInt32.ofNat (Ach s.toNat b[i].toNat)) (by omega) (by omega);rw[show((i:Int)+1)=((i+1:Nat):Int) by omega,h,drop_cons hlt,Ani,Ac0 (Ad1 s.toNat_lt b[i].toNat_lt)];rfl
theorem Bgw(s:UInt32)(b:List UInt8)(hb:b.length<=100000):kM s b=some (UInt32.ofNat (Axj s.toNat b),0):=by
 have h:=Au6 s b 256 0 Ax (by omega) (by have:=As;omega);have h2:=Aoh b (by omega) b.length 0 Ax s (by omega) (by have:=As;omega);rw[kM,eZ,Aau (by rw[Aq,Ac];simp;omega),ZV];refine Bjl h ?_;rw[HX,ZF,YX,ZK,aR];exact h2
theorem Bb8(a:UInt32):Agu a=4294967295-a:=by
 have h:=a.toNat_lt;have e:Agu a=UInt32.ofNat (BitVec.ofInt 32 4294967295^^^BitVec.ofInt 32 (a.toNat:Int)).toNat:=Gg _;apply UInt32.toNat_inj.1;rw[e,Ani,UInt32.toNat_sub_of_le _ _ (by rw[UInt32.le_iff_toNat_le];show a.toNat<=4294967295;omega)];have h1:BitVec.ofInt 32 (a.toNat:Int)=a.toBitVec:=Am3 a;have h2:(BitVec.ofInt 32 4294967295:BitVec 32)=BitVec.allOnes 32:=by decide
 rw[h1,h2,BitVec.allOnes_xor,BitVec.toNat_not];show(4294967296-1-a.toNat) %4294967296=4294967295-a.toNat;omega
theorem Aad(b:List UInt8)(hb:b.length<=100000):BQ b=some (Fx b,0):=by
 rw[BQ,Bgw _ _ hb,Aa];simp only[Aj,Bb8];rfl
theorem Avi:∀{l m:List UInt8},l.length=m.length->Fy l=Fy m->l=m
 |[],[],_,_=>rfl
 |x::l,y::m,h,e=>by
  simp only[Fy]at e;have hx:=x.toNat_lt;have hy:=y.toNat_lt;have h1:x=y:=UInt8.toNat_inj.1 (by omega);rw[h1,Avi (l:=l) (m:=m) (by simpa using h) (by omega)]
theorem Amu:∀(w n:Nat),Fy (Xf n w)=n %256^w
 |0,n=>by simp[Xf,Fy,Nat.mod_one]
 |w+1,n=>by
  rw[Xf,Fy,Amu w (n/256),Aqr,show(256:Nat)^(w+1)=256*256^w by rw[Ax2,Ark],Nat.mod_mul]
def Yh(b:List UInt8):Int:=
 if b.length<5 then 24 else if 41254<b.length then 4 else if(Fx (b.take (b.length-4))).toNat≠Fy (b.drop (b.length-4))then 22 else 0
theorem Arc(b:List UInt8):ID b=some (if Yh b≠0 then([],Yh b)else(b.take (b.length-4),0)):=by
 rw[ID];by_cases h1:b.length<5
 ·have hS:Yh b=24:=by rw[Yh,Abm h1]
  rw[Abm (by rw[Ae,Ac];simp;omega),hS];rfl
 rw[Aau (by rw[Ae,Ac];simp;omega)];by_cases h2:41254<b.length
 ·have hS:Yh b=4:=by rw[Yh,Aau h1,Abm h2]
  rw[Abm (by rw[Aq,Ac];simp;omega),hS];rfl
 have e4:Ao (Ac b) 4=((b.length-4:Nat):Int):=by rw[Ac,Bw (by omega) (by omega)];omega
 have hd:(b.drop (b.length-4)).length=4:=by simp;omega
 rw[Aau (by rw[Aq,Ac];simp;omega),e4,Dj (by omega) (by omega),Aa,show((b.length-4:Nat):Int).toNat=b.length-4 from rfl,Aad _ (by simp;omega),Aa];simp only;rw[Aau (by rw[Aj];simp),Cb (by omega) (by omega),Aa,show((b.length-4:Nat):Int).toNat=b.length-4 from rfl,Aq8 _ (by omega) (by omega),Aa];have hne:Bc (uT (b.drop (b.length-4))) (Af (Fx (b.take (b.length-4))):UInt64)=decide ((Fx (b.take (b.length-4))).toNat≠Fy (b.drop (b.length-4))):=by
  have hlt:=(Fx (b.take (b.length-4))).toNat_lt;rw[WS,Ajs];simp only[Bo3,ne_eq,<-Bnx,Acm];rw[cC (by omega),Dr,Aip,Ac0 (by omega)];exact⟨λh e=>h e.symm,λh e=>h e.symm⟩
 simp only;rw[hne,Aa];by_cases h3:(Fx (b.take (b.length-4))).toNat≠Fy (b.drop (b.length-4))
 ·have hS:Yh b=22:=by rw[Yh,Aau h1,Aau h2,Abm h3]
  rw[Abm (by simp[h3]),hS];rfl
 ·have hS:Yh b=0:=by rw[Yh,Aau h1,Aau h2,Aau h3]
  rw[Aau (by rw[Bib h3];decide),hS];rfl
theorem Ax6(b:List UInt8)(hb:b.length<=1000000):CF b=some (b++Xf (Fx b).toNat 4):=by
 have h:∀k:Nat,(Af (Ci (Fx b) k):UInt8)=UInt8.ofNat ((Fx b).toNat/2^k):=by
  intro k;rw[vS,SP]
 have h0:(Af (Fx b):UInt8)=UInt8.ofNat (Fx b).toNat:=vS _;have h1:=h 8;have h2:=h 16;have h3:=h 24;rw[CF,Bcy b (by omega),Aa,Bi (by simp;omega),Aa,Bi (by simp;omega),Aa,h0,show(GI.toZ (8:UInt64)).toNat=8 from rfl,show(GI.toZ (16:UInt64)).toNat=16 from rfl,show(GI.toZ (24:UInt64)).toNat=24 from rfl,h1,h2,h3];simp only[Xf,Blw,Aro]
theorem Aea(b:List UInt8):Tq b=some (Yh b):=by
 rw[Tq];by_cases h1:b.length<5
 ·rw[Abm (by rw[Ae,Ac];simp;omega),Yh,Abm h1]
 rw[Aau (by rw[Ae,Ac];simp;omega)];by_cases h2:41254<b.length
 ·rw[Abm (by rw[Aq,Ac];simp;omega),Yh,Aau h1,Abm h2]
 have e4:Ao (Ac b) 4=((b.length-4:Nat):Int):=by rw[Ac,Bw (by omega) (by omega)];omega
 have hd:(b.drop (b.length-4)).length=4:=by simp;omega
 rw[Aau (by rw[Aq,Ac];simp;omega),e4,Dj (by omega) (by omega),Aa,show((b.length-4:Nat):Int).toNat=b.length-4 from rfl,Ax6 _ (by simp;omega),Aa];have hlt:=(Fx (b.take (b.length-4))).toNat_lt;have hiff:(b.take (b.length-4)++Xf (Fx (b.take (b.length-4))).toNat 4 !=b)=decide ((Fx (b.take (b.length-4))).toNat≠Fy (b.drop (b.length-4))):=by
  rw[Ajs];simp only[Bo3,ne_eq,Acm];constructor
  ·intro h e;apply h;have:Xf (Fx (b.take (b.length-4))).toNat 4=b.drop (b.length-4):=Avi (by rw[Ef,hd]) (by rw[Amu,Ac0 (by omega),e]);rw[this,Bjy]
  ·intro h e;apply h;have hx:Xf (Fx (b.take (b.length-4))).toNat 4=b.drop (b.length-4):=by
    have e2:b.take (b.length-4)++Xf (Fx (b.take (b.length-4))).toNat 4=b.take (b.length-4)++b.drop (b.length-4):=by rw[e,Bjy]
    exact List.append_cancel_left e2
   rw[<-hx,Amu,Ac0 (by omega)]
 rw[hiff];by_cases h3:(Fx (b.take (b.length-4))).toNat≠Fy (b.drop (b.length-4))
 ·rw[Abm (by simp[h3]),Yh,Aau h1,Aau h2,Abm h3]
 ·rw[Aau (by rw[Bib h3];decide),Yh,Aau h1,Aau h2,Aau h3]
theorem Ano{b:List UInt8}(h:Yh b=0):5<=b.length/\b.length<=41254:=by
 unfold Yh at h;split at h
 ·simp at h
 ·split at h
  ·simp at h
  ·omega
theorem Al9{c:Nat}(h1:1<=c)(h6:c<=6):Br (4000:Int) (c:Int)=((4000/c:Nat):Int):=by
 have:c=1\/c=2\/c=3\/c=4\/c=5\/c=6:=by omega
 rcases this with rfl|rfl|rfl|rfl|rfl|rfl<;>rfl
theorem Bhm(p:List UInt8)(h:p.length<=41250):okB p (8*p.length):=⟨by omega,by omega,λk h1 h2=>by omega⟩
theorem SM{bits:Int}{ch n:Nat}{t:List Int32}(b:List UInt8)(hb:Bm bits)(ht:t.length=16)(h1:1<=ch)(h6:ch<=6)(n1:1<=n)(n2:n<=4000/ch):
  ∃l e,Qc (ch:Int) bits t (n:Int) b=some (l,e)/\Fc (ch:Int) bits t (n:Int) b=some (l,e)/\ (e=0->Ay bits l=some 0/\l.length<=4000/\l.length=n*ch)/\ (e≠0->l=[]):=by
 have hn:n*ch<=4000:=by
  have:=Adx ch n2;have h2:=Bit 4000 ch;omega
 have hq4:=Al9 h1 h6;generalize 4000/ch=mm at*
 have hck:Gf (ch:Int) bits=some 0:=by
  have hr:∃x y,Ro bits=some (x,y,0):=⟨_,_,Aik hb⟩;obtain⟨x,y,hr⟩:=hr;rw[Gf,hr,Aa];simp only;rw[Aau (by simp[Aj,Ae,Aq];omega)]
 have hh:=UY bits;have At8:Hc (ch:Int) bits (n:Int)=some 0:=by
  rw[Hc,Et,Aau (by simp[Ae,Aq];omega),cP hb,Aa,Aau (by rw[Ar];simp;omega),Aa,Aau (by simp[Aj,Ae];omega),Bk (by rw[Aj];simp;omega),Aa,hq4,Aau (by rw[Aq];simp;omega)]
 rw[Qc,Fc,Wa,hck,At8,Aa,Aa,Aau (by rw[Aj];simp),Aau (by rw[Ae];simp;omega),Bk (by rw[Aj];simp;omega),Aa,hq4,Aau (by rw[Aq];simp;omega),Aau (by rw[Aj];simp),Arc,Aea];by_cases hs:Yh b≠0
 ·rw[Abm hs];simp only[Aa];rw[Abm (by rw[Aj];simpa using hs),Abm (by rw[Aj];simpa using hs)];exact⟨[],Yh b,rfl,rfl,λe=>absurd e hs,λ_=>rfl⟩
 have hs0:Yh b=0:=by simpa using hs
 have hlen:=Ano hs0;have e4:Ao (Ac b) 4=((b.length-4:Nat):Int):=by rw[Ac,Bw (by omega) (by omega)];omega
 rw[Aau hs,hs0];simp only[Aa];rw[Aau (by rw[Aj];simp),Aau (by rw[Aj];simp),e4,Dj (by omega) (by omega),Aa,show((b.length-4:Nat):Int).toNat=b.length-4 from rfl];have hpl:(b.take (b.length-4)).length=b.length-4:=by simp
 generalize b.take (b.length-4)=p at*
 have e8:Bf (8:Int) (Ac p)=((8*p.length:Nat):Int):=by rw[Ac,Ez (by omega) (by omega)];omega
 have hp:=Bhm p (by omega);have hv:=values_eq hp h1 h6 hn;have hr:=Awx (N:=8*p.length) (p:=p) rfl (by omega) h1 h6 hn;have hat:=Ac8 (ch:=ch) (p:=p) (N:=8*p.length) (n*ch) 0 [] (by omega);rw[Alr,Aau (by rw[Aq,Ac];simp;omega),By,Bi (by simp;omega),Aa,Aa,Aa,Aro,e8];simp only;rw[Aau (by rw[Aj];simp),hv,hr,Aa,Aa];generalize BF ch p (8*p.length) (n*ch) 0 []=V at*
 obtain⟨v,at',e⟩:=V;simp only at*
 by_cases he:e≠0
 ·rw[Abm he,Abm he];simp only;rw[Abm (by rw[Aj];simpa using he),Ka,Kg,Abm (by rw[Aj];simpa using he)];exact⟨[],e,rfl,rfl,λh=>absurd h he,λ_=>rfl⟩
 have he0:e=0:=by simpa using he
 have hvl:=hat.2.2 he0;simp only[List.length_nil,Bh9]at hvl;rw[Aau he,Aau he];simp only;rw[Aau (by rw[Aj];simp),Bw (by omega) (by omega),show((8*p.length:Nat):Int)-(at':Int)=((8*p.length-at':Nat):Int) by omega,Ka,Kg];by_cases h7:7<8*p.length-at'
 ·have hE:(if 7<8*p.length-at'\/Ce p at' (8*p.length-at')≠0 then(12:Int)else 0)=12:=Abm (.inl h7);rw[Abm (by rw[Dw];simp;omega),hE,Abm (by decide)];exact⟨[],12,rfl,rfl,λh=>absurd h (by decide),λ_=>rfl⟩
 rw[Aau (by rw[Dw];simp;omega),zR hp at' _ (by omega),Aau (by omega),Aa];have hz:Bc (Qx p at' (8*p.length-at')) (0:UInt64)=decide (Ce p at' (8*p.length-at')≠0):=by
  rw[WS,Ajs];simp only[Bo3,ne_eq,<-Bnx,Acm];rw[AF p _ _ (by omega)];rfl
 simp only;rw[hz];by_cases hv0:Ce p at' (8*p.length-at')≠0
 ·have hE:(if 7<8*p.length-at'\/Ce p at' (8*p.length-at')≠0 then(12:Int)else 0)=12:=Abm (.inr hv0);rw[Abm (by simp[hv0]),hE,Abm (by decide)];exact⟨[],12,rfl,rfl,λh=>absurd h (by decide),λ_=>rfl⟩
 have hm:v.length %ch=0:=by rw[hvl];exact Bjh n ch
 obtain⟨l,e,g1,g2,g3,g4,g5⟩:=wY (v:=v) hb ht h1 h6 (by omega) hm;have hE:(if 7<8*p.length-at'\/Ce p at' (8*p.length-at')≠0 then(12:Int)else 0)=0:=Aau (by omega);rw[Aau (by rw[Bib hv0];decide),hE,Aau (by decide),g1,g3,Aa,Aa,g2];by_cases hl:e≠0
 ·rw[Abm hl];exact⟨[],e,rfl,rfl,λh=>absurd h hl,λ_=>rfl⟩
 ·rw[Aau hl];have hl0:e=0:=by simpa using hl
  exact⟨l,0,rfl,rfl,λ_=>⟨by rw[g4,hl0],by omega,by omega⟩,λe=>absurd rfl e⟩
theorem pS(a b:Int32):a-b+b=a:=by
 apply Int32.toBitVec_inj.1;simp only[Int32.toBitVec_sub,Int32.toBitVec_add];apply Bod;simp only[BitVec.toNat_sub,BitVec.toNat_add];have:=a.toBitVec.isLt;have:=b.toBitVec.isLt;omega
def mxV(f:Nat->Int32)(ch i:Nat):Int32:=if i+1<ch then f (i+1)-f i else if 1<ch then f (ch-1)-Br (f (ch-1)-f (ch-2)) (2:Int32)else f (ch-1)
def mx(ch:Nat)(x:List Int32):List Int32:=(List.range x.length).map λk=>mxV (λi=>x.getD (k-k %ch+i) 0) ch (k %ch)
theorem pV(ch:Nat)(x:List Int32):(mx ch x).length=x.length:=by simp[mx]
theorem Bj8{ch:Nat}{x:List Int32}{k:Nat}(h:k<x.length):(mx ch x).getD k 0=mxV (λi=>x.getD (k-k %ch+i) 0) ch (k %ch):=by
 rw[Ox (by rw[pV];exact h)];simp[mx]
def zF(x:Int32):UInt32:=UInt32.ofNat (if 0<=x.toInt then 2*x.toInt.toNat else 2*(-x.toInt-1).toNat+1)
theorem Bkh(x:Int32):aP (zF x)=x:=by
 have h:=CM x;have e:(zF x).toNat=if 0<=x.toInt then 2*x.toInt.toNat else 2*(-x.toInt-1).toNat+1:=by
  rw[zF,Ani];split<;>exact Ac0 (by omega)
 rw[aP,e];by_cases h0:0<=x.toInt
 ·rw[Abm h0,Abm (by omega),show((2*x.toInt.toNat/2:Nat):Int)=x.toInt by omega,Bfi]
 ·rw[Aau h0,Aau (by omega),show -(((2*(-x.toInt-1).toNat+1)/2:Nat):Int)-1=x.toInt by omega,Bfi]
theorem Aki{α:Type}(ch c:Nat)(f g:α->Nat->α)(a0:α):∀m:Nat,(∀i,i<m->∀a,f a i=g a i)->pre ch c f a0 m=pre ch c g a0 m
 |0,_=>rfl
 |m+1,h=>by
  rw[pre,pre,Aki ch c f g a0 m λi hi=>h i (by omega),h m (by omega)]
theorem Bgq(bits:Int)(ch:Nat)(t:List Int32)(v w:List UInt32)(c i:Nat)(h:i<=v.length):cst bits ch t (v++w) c i=cst bits ch t v c i:=by
 unfold cst;apply Aki;intro j hj a;have:(v++w).getD j 0=v.getD j 0:=by
  rw[List.getD_eq_getElem?_getD,List.getD_eq_getElem?_getD,List.getElem?_append_left (by omega)]
 rw[this]
def Aiy(bits:Int)(s:CS)(x:Int32):Int32:=x-gs (shB bits) s.1-gF (sB bits) s.2.1 s.2.2
theorem Ay7(bits:Int)(s:CS)(x:Int32):Apl bits s (Aiy bits s x)=x:=by
 rw[Apl,Aiy,pS,pS]
def evl(bits:Int)(ch:Nat)(t m:List Int32):Nat->List UInt32
 |0=>[]
 |i+1=>evl bits ch t m i++[zF (Aiy bits (cst bits ch t (evl bits ch t m i) (i %ch) i) (m.getD i 0))]
theorem Am8(bits:Int)(ch:Nat)(t m:List Int32):∀i,(evl bits ch t m i).length=i
 |0=>rfl
 |i+1=>by rw[evl,Abq,Am8 bits ch t m i];rfl
theorem Av3(bits:Int)(ch:Nat)(t m:List Int32):∀(j i:Nat),∃w,evl bits ch t m (i+j)=evl bits ch t m i++w
 |0,i=>⟨[],by simp⟩
 |j+1,i=>by
  obtain⟨w,hw⟩:=Av3 bits ch t m j i;rw[<-Az0,evl,hw];exact⟨_,Amz _ _ _⟩
def tb(l:List Bool)(k:Nat):Nat:=if l.getD k false=true then 1 else 0
theorem Au9(b:Bool)(l:List Bool):tb (b::l) 0=if b=true then 1 else 0:=rfl
theorem Avy(b:Bool)(l:List Bool)(k:Nat):tb (b::l) (k+1)=tb l k:=by simp[tb]
theorem Bhr{a b:List Bool}{k:Nat}(h:k<a.length):tb (a++b) k=tb a k:=by
 rw[tb,tb,List.getD_eq_getElem?_getD,List.getD_eq_getElem?_getD,List.getElem?_append_left h]
theorem Auz(a b:List Bool)(k:Nat):tb (a++b) (a.length+k)=tb b k:=by
 rw[tb,tb,List.getD_eq_getElem?_getD,List.getD_eq_getElem?_getD,List.getElem?_append_right (by omega),Bkp]
theorem Atn{l:List Bool}{k:Nat}(h:l.length<=k):tb l k=0:=by
 rw[tb,List.getD_eq_getElem?_getD,List.getElem?_eq_none h];rfl
def At(p:List UInt8)(a:Nat)(c:List Bool):Prop:=∀i,i<c.length->Hv p (a+i)=tb c i
theorem At.left{p:List UInt8}{a:Nat}{c d:List Bool}(h:At p a (c++d)):At p a c:=λi hi=>by
 rw[h i (by rw[Abq];omega),Bhr hi]
theorem At.right{p:List UInt8}{a:Nat}{c d:List Bool}(h:At p a (c++d)):At p (a+c.length) d:=λi hi=>by
 rw[Az0,h (c.length+i) (by rw[Abq];omega),Auz]
theorem At.cons{p:List UInt8}{a:Nat}{b:Bool}{c:List Bool}(h:At p a (b::c)):Hv p a=(if b=true then 1 else 0)/\At p (a+1) c:=by
 have h0:=h 0 (by simp);rw[Blb,Au9]at h0;refine⟨h0,λi hi=>?_⟩;have:=h (i+1) (by simp;omega);rw[Avy]at this;rw[show a+1+i=a+(i+1) by omega,this]
def oB:Nat->Nat->List Bool
 |_,0=>[]
 |v,n+1=>decide (v %2=1)::oB (v/2) n
theorem GY:∀(v n:Nat),(oB v n).length=n
 |_,0=>rfl
 |v,n+1=>by rw[oB,Apu,GY (v/2) n]
theorem rZ(p:List UInt8):∀(n a v:Nat),At p a (oB v n)->Ce p a n=v %2^n
 |0,a,v,_=>by rw[Ce,Nat.pow_zero,Nat.mod_one]
 |n+1,a,v,h=>by
  rw[oB]at h;obtain⟨h0,h1⟩:=h.cons;rw[Ce,h0,rZ p n (a+1) (v/2) h1,Ax2,Ark (2^n) 2,Nat.mod_mul];have:=Nat.mod_two_eq_zero_or_one v;rcases this with e|e<;>simp[e]
def xD(l v:Nat):List Bool:=if 48<=v/2^l then List.replicate 48 true++oB v 32 else List.replicate (v/2^l) true++(false::oB (v %2^l) l)
theorem Ay5{l v:Nat}(hl:l<=24):1<= (xD l v).length/\ (xD l v).length<=80:=by
 rw[xD];generalize v/2^l=q;split
 ·rw[Abq,At7,GY];omega
 ·rw[Abq,At7,Apu,GY];omega
def JJ(k l:Nat)(v:UInt32):List Bool:=if v.toNat<2^k then false::oB v.toNat k else true::xD l (v.toNat-2^k)
theorem sW{k l:Nat}(v:UInt32)(hk:k<=24)(hl:l<=24):1<= (JJ k l v).length/\ (JJ k l v).length<=81:=by
 have:=Ay5 (v:=v.toNat-2^k) hl;rw[JJ];split
 ·rw[Apu,GY];omega
 ·rw[Apu];omega
def bv:List Bool->Nat
 |[]=>0
 |b::r=>(if b=true then 1 else 0)+2*bv r
theorem Bim:∀l:List Bool,bv l<2^l.length
 |[]=>by decide
 |b::r=>by
  have:=Bim r;rw[bv,Apu,Ax2];split<;>omega
theorem Bb2:∀(l:List Bool) (k:Nat),bv l/2^k %2=tb l k
 |[],k=>by simp[bv,tb]
 |b::r,0=>by
  rw[bv,Au9,Nat.pow_zero,Nat.div_one];split<;>omega
 |b::r,k+1=>by
  have:((if b=true then 1 else 0)+2*bv r)/2=bv r:=by split<;>omega
  rw[bv,Avy,Ax2,Ark (2^k) 2,<-Blw,this,Bb2 r k]
def Nz(c:List Bool):List UInt8:=(List.range ((c.length+7)/8)).map λj=>UInt8.ofNat (bv ((c.drop (8*j)).take 8))
theorem BH(c:List Bool):(Nz c).length=(c.length+7)/8:=by simp[Nz]
theorem XV(c:List Bool)(i:Nat):Hv (Nz c) i=tb c i:=by
 rw[Hv];by_cases h:i/8<(c.length+7)/8
 ·have hg:(Nz c).getD (i/8) 0=UInt8.ofNat (bv ((c.drop (8*(i/8))).take 8)):=by
   rw[List.getD_eq_getElem?_getD,List.getElem?_eq_getElem (by rw[BH];exact h)];simp[Nz]
  have hlt:=Bim ((c.drop (8*(i/8))).take 8);have hl8:((c.drop (8*(i/8))).take 8).length<=8:=by rw[Afz];omega
  have hp:=Ad5 (show 0<2 by omega) hl8;have hn:(UInt8.ofNat (bv ((c.drop (8*(i/8))).take 8))).toNat=bv ((c.drop (8*(i/8))).take 8):=by
   rw[Aqr];exact Ac0 (by omega)
  rw[hg,hn,Bb2,tb,tb];have:((c.drop (8*(i/8))).take 8).getD (i %8) false=c.getD i false:=by
   rw[List.getD_eq_getElem?_getD,List.getD_eq_getElem?_getD,List.getElem?_take,Abm (by omega),List.getElem?_drop,show 8*(i/8)+i %8=i by omega]
  rw[this]
 ·have hg:(Nz c).getD (i/8) 0=0:=by
   rw[List.getD_eq_getElem?_getD,List.getElem?_eq_none (by rw[BH];omega)];rfl
  rw[hg,Atn (by omega)];simp
def bR(ch:Nat)(V:List UInt32):Nat->List Bool
 |0=>[]
 |i+1=>bR ch V i++JJ (now ch (V.take i)).1 (now ch (V.take i)).2.1 (V.getD i 0)
theorem Atl(ch:Nat)(v:List UInt32):(now ch v).1<=24/\ (now ch v).2.1<=24:=by
 have:=qI ch v (v.length %ch) v.length;exact⟨this.1,this.2.1⟩
theorem gU(ch:Nat)(V:List UInt32):∀i,(bR ch V i).length<=81*i
 |0=>by simp[bR]
 |i+1=>by
  have h:=Atl ch (V.take i);have:=sW (V.getD i 0) h.1 h.2;rw[bR,Abq];have:=gU ch V i;omega
def P64:Nat:=4823603603198064275
def TZ(s:Nat):Nat:=(2*s %18446744073709551616)^^^ (s/9223372036854775808*P64)
theorem fO{s:Nat}(h:s<18446744073709551616):TZ s<18446744073709551616:=by
 have h1:s/9223372036854775808=0\/s/9223372036854775808=1:=by omega
 exact Bii (n:=64) (Bj3 _ (by decide)) (by rcases h1 with e|e<;>rw[e]<;>decide)
theorem Av6(x y:Nat):(x^^^y)/9223372036854775808=(x/9223372036854775808)^^^ (y/9223372036854775808):=by
 have:=Nat.shiftRight_xor_distrib (a:=x) (b:=y) (i:=63);simpa [Nat.shiftRight_eq_div_pow]using this
theorem Auu(x y:Nat):2*(x^^^y) %18446744073709551616=(2*x %18446744073709551616)^^^ (2*y %18446744073709551616):=by
 have h1:=Nat.shiftLeft_xor_distrib (a:=x) (b:=y) (i:=1);have h2:=Nat.xor_mod_two_pow (a:=2*x) (b:=2*y) (n:=64);have e:2*(x^^^y)=(2*x)^^^ (2*y):=by simpa [Nat.shiftLeft_eq,Ark]using h1
 rw[e];exact h2
theorem Bgn{a b:Nat}(ha:a=0\/a=1)(hb:b=0\/b=1)(p:Nat):(a^^^b)*p=(a*p)^^^ (b*p):=by
 rcases ha with rfl|rfl<;>rcases hb with rfl|rfl<;>simp
theorem Boa(a b c d:Nat):(a^^^b)^^^ (c^^^d)=(a^^^c)^^^ (b^^^d):=by
 rw[Bll,Bll,<-Bll b c d,Bpp b c,Bll c b d]
theorem Asc{x y:Nat}(hx:x<18446744073709551616)(hy:y<18446744073709551616):TZ (x^^^y)=TZ x^^^TZ y:=by
 rw[TZ,TZ,TZ,Auu,Av6,Bgn (by omega) (by omega),Boa]
def Qz:Nat->Nat->Nat
 |0,s=>s
 |k+1,s=>Qz k (TZ s)
theorem Aak:∀(k:Nat) {s:Nat},s<18446744073709551616->Qz k s<18446744073709551616
 |0,_,h=>h
 |k+1,_,h=>Aak k (fO h)
theorem Aew:∀(k:Nat) {x y:Nat},x<18446744073709551616->y<18446744073709551616->Qz k (x^^^y)=Qz k x^^^Qz k y
 |0,_,_,_,_=>rfl
 |k+1,x,y,hx,hy=>by rw[Qz,Asc hx hy,Aew k (fO hx) (fO hy)];rfl
theorem Ag3:∀(k h:Nat),2^k*h<18446744073709551616->Qz k h=2^k*h
 |0,h,_=>by simp[Qz]
 |k+1,h,hl=>by
  have hpos:0<2^k:=Blo (by omega);rw[Ax2,Azz]at hl;have h2:2*h<18446744073709551616:=Blj (Nat.le_mul_of_pos_left _ hpos) hl;have:TZ h=2*h:=by rw[TZ,Ac0 h2,show h/9223372036854775808=0 by omega];simp
  rw[Qz,this,Ag3 k _ hl,Ax2,Azz]
def pD(s c:Nat):Nat:=Qz 8 (s^^^ (c*72057594037927936))
theorem c56{c:Nat}(hc:c<256):c*72057594037927936<18446744073709551616:=by omega
theorem Aax{s c:Nat}(h:s<18446744073709551616)(hc:c<256):pD s c<18446744073709551616:=Aak 8 (Bii (n:=64) h (c56 hc))
theorem Bh1(s:Nat):s=(s/72057594037927936*72057594037927936)^^^ (s %72057594037927936):=by
 have h1:s %72057594037927936<2^56:=Bj3 _ (by decide);have:=Bhi h1 (s/72057594037927936);have h2:2^56*(s/72057594037927936)|||s %72057594037927936=(2^56*(s/72057594037927936))^^^ (s %72057594037927936):=by
  apply Nat.eq_of_testBit_eq;intro i;rw[Nat.testBit_or,Nat.testBit_xor];by_cases hi:i<56
  ·have:(2^56*(s/72057594037927936)).testBit i=false:=by rw[Nat.testBit_two_pow_mul];simp;omega
   rw[this];simp
  ·have:(s %72057594037927936).testBit i=false:=Nat.testBit_lt_two_pow (Anj h1 (Ad5 (by omega) (by omega)));rw[this];simp
 rw[Ark (s/72057594037927936)]
 show s=(2^56*(s/72057594037927936))^^^ _;rw[<-h2,<-this];have:=Bnr s 72057594037927936
 show s=72057594037927936*_+_;omega
theorem Ay2(a c:Nat):(a^^^c)*72057594037927936=(a*72057594037927936)^^^ (c*72057594037927936):=by
 have h1:=Nat.shiftLeft_xor_distrib (a:=a) (b:=c) (i:=56);simpa [Nat.shiftLeft_eq]using h1
theorem Amc{s c:Nat}(h:s<18446744073709551616)(hc:c<256):pD s c=(256*s %18446744073709551616)^^^Qz 8 (((s/72057594037927936)^^^c)*72057594037927936):=by
 have hs:s/72057594037927936<2^8:=by show _<256;omega
 have hx:(s/72057594037927936)^^^c<256:=Bii (n:=8) hs (by simpa using hc);have hl:s %72057594037927936<72057594037927936:=Bj3 _ (by decide);rw[pD]
 conv=>lhs;rw[Bh1 s]
 rw[Bpp (s/72057594037927936*72057594037927936),Bll,<-Ay2,Aew 8 (by omega) (c56 hx),Ag3 8 _ (by show 256*_<_;omega)];congr 1
 show 256*(s %72057594037927936)=_;omega
def Ahh(s:Nat)(l:List UInt8):Nat:=l.foldl (λs c=>pD s c.toNat) s
theorem Aiz{n:Nat}(h:n<18446744073709551616):(UInt64.ofNat n).toNat=n:=by rw[Aip];exact Ac0 h
theorem Bjd(s:UInt64)(bit:Nat)(hb:bit=0\/bit=1):HS s (bit:Int)=some (UInt64.ofNat ((2*s.toNat %18446744073709551616)^^^ (((s.toNat/9223372036854775808)^^^bit)*P64))):=by
 have hs:=s.toNat_lt;have ht:s.toNat/9223372036854775808=0\/s.toNat/9223372036854775808=1:=by omega
 have e1:(Bf s (2:UInt64)).toNat=2*s.toNat %18446744073709551616:=by
  rw[RY,UInt64.toNat_mul];show s.toNat*2 %_=_;rw[Ark]
 have hlt:2*s.toNat %18446744073709551616<18446744073709551616:=Bj3 _ (by decide);have ey:Zy (Bf s (2:UInt64)) (4823603603198064275:UInt64)=UInt64.ofNat ((2*s.toNat %18446744073709551616)^^^P64):=by
  apply UInt64.toNat_inj.1;rw[Aez,UInt64.toNat_xor,e1,Aiz (Bii (n:=64) hlt (by decide))];rfl
 have en:Bf s (2:UInt64)=UInt64.ofNat (2*s.toNat %18446744073709551616):=by
  apply UInt64.toNat_inj.1;rw[e1,Aiz hlt]
 have eg:Nf s (9223372036854775808:UInt64)=decide (s.toNat/9223372036854775808=1):=by
  rw[Bf2,decide_eq_decide]
  show 9223372036854775808<=s.toNat↔_;omega
 have hp:∀b:Bool,AD s b=some (if b=true then UInt64.ofNat ((2*s.toNat %18446744073709551616)^^^P64)else UInt64.ofNat (2*s.toNat %18446744073709551616)):=by
  intro b;rw[AD,RC,ey,en];cases b<;>rfl
 rw[HS,TO,hp,hp,eg];rcases hb with rfl|rfl<;>rcases ht with h|h<;>rw[h]<;>simp[Ar]
theorem Ace(c:UInt8):∀(j q:Nat) (s:UInt64),j<=8->j<q->Mr c q s ((2^j/2:Nat):Int)=some (UInt64.ofNat (Qz j (s.toNat^^^ (c.toNat %2^j*2^(64-j)))))
 |0,q+1,s,_,_=>by
  rw[Mr,AS,Aau (by rw[Aq];simp),TM,RH];simp[Qz,Nat.mod_one]
 |j+1,q+1,s,hj,hq=>by
  have hc:=c.toNat_lt;have hs:=s.toNat_lt;have hj2:2^j<=2^7:=Ad5 (by omega) (by omega);have hpos:0<2^j:=Blo (by omega);have e1:2^(j+1)/2=2^j:=by rw[Ax2];omega
  have e2:Br ((2^j:Nat):Int) 2=((2^j/2:Nat):Int):=by
   generalize 2^j=K at*
   rw[VA,Biz (by omega),Db (by omega) (by omega)];omega
  have e3:Gx (Br (Af c:Int) ((2^j:Nat):Int)) (2:Int)=((c.toNat/2^j %2:Nat):Int):=by
   have hX:=Atr c.toNat (2^j);rw[XW,VA,<-Int.ofNat_tdiv];generalize c.toNat/2^j=X at*
   rw[Db (by omega) (by omega),Gx,Bnb (by omega)];omega
  have hbit:c.toNat/2^j %2=0\/c.toNat/2^j %2=1:=by omega
  rw[Mr,AS,e1,Abm (by rw[Aq,Acm];omega),Bk (by rw[Aj,Bo3];omega),Aa,e3,Bjd s _ hbit,Aa,e2,Ace c j q _ (by omega) (by omega)];congr 2;rw[Qz];congr 1;have hx:c.toNat %2^(j+1)*2^(64-(j+1))=(c.toNat/2^j %2)*9223372036854775808+c.toNat %2^j*2^(63-j):=by
   have h63:(9223372036854775808:Nat)=2^j*2^(63-j):=by rw[<-Bo9,show j+(63-j)=63 by omega]
   rw[Nat.mod_pow_succ,h63,show 64-(j+1)=63-j by omega,Al6,Bnm,Azz,Nat.mul_left_comm]
  have hr:c.toNat %2^j<2^j:=Bj3 _ hpos;have Brd:c.toNat %2^j*2^(63-j)<9223372036854775808:=by
   have h63:(9223372036854775808:Nat)=2^j*2^(63-j):=by rw[<-Bo9,show j+(63-j)=63 by omega]
   rw[h63];exact Nat.mul_lt_mul_of_pos_right hr (Blo (by omega))
  have h64:c.toNat %2^j*2^(64-j)=2*(c.toNat %2^j*2^(63-j)):=by
   rw[show 64-j=(63-j)+1 by omega,Ax2,<-Azz,Ark]
  rw[hx,h64];generalize c.toNat %2^j*2^(63-j)=R at*
  generalize c.toNat/2^j %2=b at*
  have ht:s.toNat/9223372036854775808=0\/s.toNat/9223372036854775808=1:=by omega
  have hp:((s.toNat/9223372036854775808^^^b)*P64)<18446744073709551616:=by
   rcases ht with h|h<;>rcases hbit with h2|h2<;>rw[h,h2]<;>decide
  rw[Aiz (Bii (n:=64) (Bj3 _ (by decide)) hp),TZ,Auu,Av6,show(b*9223372036854775808+R)/9223372036854775808=b by omega,show 2*(b*9223372036854775808+R) %18446744073709551616=2*R by omega,Bll,Bll,Bpp (2*R)]
theorem Bk1(c:UInt8)(s:UInt64):dI s c=some (UInt64.ofNat (pD s.toNat c.toNat)):=by
 have h:=Ace c 8 Ax s (Arj _) (by have:=As;omega);have hc:=c.toNat_lt;rw[Ac0 (show c.toNat<2^8 by simpa using hc)]at h;exact h
theorem uI(b:List UInt8)(hb:b.length<4611686018427387904):∀(j i q:Nat) (s:UInt64),i+j=b.length->j<q->Kh b q s (i:Int)=some (UInt64.ofNat (Ahh s.toNat (b.drop i)))
 |0,i,q+1,s,hi,_=>by
  rw[Kh,Wl,Aau (by rw[Ae,Ac];simp;omega),show i=b.length by omega,Bla];simp[MB,JH,Ahh]
 |j+1,i,q+1,s,hi,hq=>by
  have hlt:i<b.length:=by omega
  have hc:=b[i].toNat_lt;rw[Kh,Wl,Abm (by rw[Ae,Ac];simp;omega),Bn hlt,Aa,Bk1,Aa,Ah (by omega) (by omega)];have h:=uI b hb j (i+1) q (UInt64.ofNat (pD s.toNat b[i].toNat)) (by omega) (by omega);rw[show((i:Int)+1)=((i+1:Nat):Int) by omega,h,drop_cons hlt,Aiz (Aax s.toNat_lt (by simpa using hc))];rfl
def Ws(b:List UInt8):UInt64:=UInt64.ofNat (Ahh 0 b)
theorem Aqd(b:List UInt8)(hb:b.length<=100000):CQ 0 b=some (Ws b):=
 uI b (by omega) b.length 0 Ax 0 (by omega) (by have:=As;omega)
theorem Ary(c:UInt64):Zy (Dl c (GI.toZ (1:UInt64)).toNat) (Bf (4823603603198064275:UInt64) (Ci c (GI.toZ (63:UInt64)).toNat))=UInt64.ofNat (TZ c.toNat):=by
 have hc:=c.toNat_lt;apply UInt64.toNat_inj.1;have h1:(Dl c (GI.toZ (1:UInt64)).toNat).toNat=2*c.toNat %18446744073709551616:=by
  rw[show(GI.toZ (1:UInt64)).toNat=1 from rfl,ZS,Ark]
 have h2:(Bf (4823603603198064275:UInt64) (Ci c (GI.toZ (63:UInt64)).toNat)).toNat=c.toNat/9223372036854775808*P64:=by
  rw[show(GI.toZ (63:UInt64)).toNat=63 from rfl,RY,UInt64.toNat_mul,HN]
  show 4823603603198064275*(c.toNat/9223372036854775808) %18446744073709551616=_;have h1:c.toNat/9223372036854775808=0\/c.toNat/9223372036854775808=1:=by omega
  rcases h1 with e|e<;>rw[e]<;>decide
 rw[Aez,UInt64.toNat_xor,h1,h2,Aiz (fO hc)];rfl
theorem Acg(Ir:Int->List UInt64->Option (UInt64×Int))(s:UInt64)(b:List UInt8)(x:Int)(t:List UInt64):∀(j i q:Nat) (c:UInt64),i+j=8->j<q->
  Un Ir s b x t q c (i:Int)=JS Ir s b x (UInt64.ofNat (Qz j c.toNat)) t
 |0,i,q+1,c,hi,_=>by
  obtain rfl:i=8:=by omega
  rw[Un,KM,Aau (by rw[Ae];simp),Qz,UInt64.ofNat_toNat]
 |j+1,i,q+1,c,hi,hq=>by
  rw[Un,KM,Abm (by rw[Ae];simp;omega),Ary,Ah (by omega) (by omega),show((i:Int)+1)=((i+1:Nat):Int) by omega,Acg Ir s b x t j (i+1) q _ (by omega) (by omega),Aiz (fO c.toNat_lt)];rfl
def cU(n:Nat):List UInt64:=(List.range n).map λi=>UInt64.ofNat (Qz 8 (i*72057594037927936))
theorem Afk(s:UInt64)(b:List UInt8):∀(j i q:Nat),i+j=256->j<q->Qf s b q (i:Int) (cU i++List.replicate j 0)=JP s b (cU 256)
 |0,i,q+1,hi,_=>by
  obtain rfl:i=256:=by omega
  rw[Qf,HZ,Aau (by rw[Ae];simp)];simp
 |j+1,i,q+1,hi,hq=>by
  have hlen:(cU i++List.replicate (j+1) 0).length=i+(j+1):=by simp[cU]
  rw[Qf,HZ,Abm (by rw[Ae];simp;omega),YZ];have h:=Acg (Qf s b q) s b (i:Int) (cU i++List.replicate (j+1) 0) 8 0 Ax (Dl (Af (i:Int):UInt64) (GI.toZ (56:UInt64)).toNat) (by omega) (by have:=As;omega);rw[show((0:Int))=((0:Nat):Int)from rfl,h,JS,aG,Bn (by rw[hlen];omega),Aa,Ui _ (by rw[hlen];omega),Aa,aE,rK,Ah (by omega) (by omega)];have e:(Dl (Af (i:Int):UInt64) (GI.toZ (56:UInt64)).toNat).toNat=i*72057594037927936:=by
   rw[ZS,Xi,Aiz (by omega)]
   show i*72057594037927936 %18446744073709551616=_;omega
  rw[e,Bis,kI (by simp[cU])];have h2:=Afk s b j (i+1) q (by omega) (by omega);have h3:cU (i+1)=cU i++[UInt64.ofNat (Qz 8 (i*72057594037927936))]:=by simp[cU,List.range_succ]
  rw[h3]at h2;rw[show((i:Int)+1)=((i+1:Nat):Int) by omega,<-h2];simp
theorem Ayn{i:Nat}(h:i<256):Ap (cU 256) (i:Int)=some (UInt64.ofNat (Qz 8 (i*72057594037927936))):=by
 rw[Bn (by simpa [cU]using h)];simp[cU]
theorem Ao5(s:UInt64)(c:UInt8):Ap (cU 256) (GI.toZ (Zy (Af (Ci s (GI.toZ (56:UInt64)).toNat):UInt8) c))=some (UInt64.ofNat (Qz 8 (((s.toNat/72057594037927936)^^^c.toNat)*72057594037927936))):=by
 have hs:=s.toNat_lt;have e:GI.toZ (Zy (Af (Ci s (GI.toZ (56:UInt64)).toNat):UInt8) c)=(((s.toNat/72057594037927936)^^^c.toNat:Nat):Int):=by
  have e2:((Af (Ci s (GI.toZ (56:UInt64)).toNat):UInt8)).toNat=s.toNat/72057594037927936:=by
   rw[bA,Aqr,HN]
   show s.toNat/72057594037927936 %256=_;omega
  rw[FA,Awn,UInt8.toNat_xor,e2]
 rw[e,Ayn];exact Bii (n:=8) (by show _<256;omega) (by simpa using c.toNat_lt)
theorem Ald(s:UInt64)(c:UInt8):Zy (Dl s (GI.toZ (8:UInt64)).toNat) (UInt64.ofNat (Qz 8 (((s.toNat/72057594037927936)^^^c.toNat)*72057594037927936)))=UInt64.ofNat (pD s.toNat c.toNat):=by
 have hs:=s.toNat_lt;have hc:c.toNat<256:=by simpa using c.toNat_lt
 apply UInt64.toNat_inj.1;have hlt:Qz 8 (((s.toNat/72057594037927936)^^^c.toNat)*72057594037927936)<18446744073709551616:=Aak 8 (c56 (Bii (n:=8) (by show _<256;omega) (by simpa using c.toNat_lt)));have e:(GI.toZ (8:UInt64)).toNat=8:=rfl;rw[e,Aez,UInt64.toNat_xor,ZS,Aiz hlt,Aiz (Aax hs hc),Amc hs hc,Ark s.toNat]
theorem Acv(b:List UInt8)(s0:UInt64)(hb:b.length<4611686018427387904):∀(j i q:Nat) (s:UInt64),i+j=b.length->j<q->Us b s0 (cU 256) q s (i:Int)=some (UInt64.ofNat (Ahh s.toNat (b.drop i)),0)
 |0,i,q+1,s,hi,_=>by
  rw[Us,KP,Aau (by rw[Ae,Ac];simp;omega),show i=b.length by omega,Bla];simp[YG,ZD,ZQ,qL,Ahh]
 |j+1,i,q+1,s,hi,hq=>by
  have hlt:i<b.length:=by omega
  have hc:=b[i].toNat_lt;rw[Us,KP,Abm (by rw[Ae,Ac];simp;omega),Bn hlt,Aa,Ao5,Aa,Aa,Ald,Ah (by omega) (by omega)];have h:=Acv b s0 hb j (i+1) q (UInt64.ofNat (pD s.toNat b[i].toNat)) (by omega) (by omega);rw[show((i:Int)+1)=((i+1:Nat):Int) by omega,h,drop_cons hlt,Aiz (Aax s.toNat_lt (by simpa using hc))];rfl
theorem Aob(b:List UInt8)(hb:b.length<=100000):fV b=some (Ws b,0):=by
 have h:=Afk 0 b 256 0 Ax (by omega) (by have:=As;omega);have h2:=Acv b 0 (by omega) b.length 0 Ax 0 (by omega) (by have:=As;omega);have hn:kK 0 b=some (Ws b,0):=by
  rw[kK,dU,Aau (by rw[Aq,Ac];simp;omega),YQ];refine Bjl h ?_;rw[JP,bE,ZU];exact h2
 rw[fV,hn,Aa]
theorem iR(p:List UInt8)(hp:p.length<=64):BC p=some (Xf (Ws p).toNat 8,0):=by
 rw[BC,Aan,Aau (by rw[Aq,Ac];simp;omega),Aob p (by omega),Aa,Aa];simp only;have h:=bH (Ws p) 8 (by omega) (by omega) (by simpa using(Ws p).toNat_lt);rw[Aau (by rw[Aj];simp)];exact congrArg (λo=>Option.bind o λx:List UInt8×Int=>some (x.1,x.2)) h
theorem iJ(p:List UInt8)(hp:p.length<=64):My p=some (Xf (Ws p).toNat 8):=by
 have h:=Aif (Ws p) 8 (by omega);rw[My,cY,Aqd p (by omega),Aa,Aa];exact congrArg (λo=>Option.bind o λl=>some l) h
def s8(n:Nat):Int32:=Int32.ofInt (if n<128 then(n:Int)else(n:Int)-256)
def dC(d:UInt64)(n:Nat):List Int32:=(List.range n).map λi=>s8 (d.toNat/256^i %256)
theorem gB(d:UInt64)(n:Nat):(dC d n).length=n:=by simp[dC]
theorem Agb(d:UInt64)(n:Nat):dC d (n+1)=dC d n++[s8 (d.toNat/256^n %256)]:=by simp[dC,List.range_succ]
theorem bm8(z:Nat):(z:Int).bmod Int8.size=if z %256<128 then((z %256:Nat):Int)else((z %256:Nat):Int)-256:=by
 rw[show Int8.size=256 from rfl,Int.bmod_def];split<;>split<;>omega
theorem Avs(d:UInt64):∀(j i q:Nat),i+j=8->j<q->QG d q (i:Int) (dC d i++List.replicate (16-i) 0)=some (dC d 8++List.replicate 8 0)
 |0,i,q+1,hi,_=>by
  obtain rfl:i=8:=by omega
  rw[QG,kD,Aau (by rw[Ae];simp)];rfl
 |j+1,i,q+1,hi,hq=>by
  have hlen:(dC d i++List.replicate (16-i) 0).length=16:=by simp[gB];omega
  have ih:=Avs d j (i+1) q (by omega) (by omega);have e8:Bf (8:Int) (i:Int)=((8*i:Nat):Int):=by rw[Ez (by omega) (by omega)];omega
  have ev:(Af (Af (Ci d (GI.toZ (((8*i:Nat):Int))).toNat):Int8):Int32)=s8 (d.toNat/256^i %256):=by
   have e1:(Ci d (GI.toZ (((8*i:Nat):Int))).toNat).toNat=d.toNat/256^i:=by
    rw[show(GI.toZ (((8*i:Nat):Int))).toNat=8*i from rfl,HN,Nat.pow_mul]
   show Int32.ofInt (Int8.ofInt ((Ci d (GI.toZ (((8*i:Nat):Int))).toNat).toNat:Int)).toInt=_;rw[e1,s8,Int8.toInt_ofInt,bm8]
  rw[QG,kD,Abm (by rw[Ae];simp;omega),e8,Bk (by rw[Dw];simp;omega),Aa,ev,Bn (by omega),Aa,Ui _ (by omega),Aa,Ah (by omega) (by omega),show 16-i=(15-i)+1 by omega,Bis,kI (gB d i)];rw[Agb,show 16-(i+1)=15-i by omega,Amz]at ih;exact ih
theorem Bcx(d:UInt64):∀(j i q:Nat) (e:UInt64),i+j=8->j<q->e.toNat=d.toNat/256^i->Mh q e (i:Int) (dC d i++List.replicate (16-i) 0)=some (dC d 8++List.replicate 8 0)
 |0,i,q+1,e,hi,_,he=>by
  obtain rfl:i=8:=by omega
  rw[Mh,FD,Aau (by rw[Ae];simp)];rfl
 |j+1,i,q+1,e,hi,hq,he=>by
  have hlen:(dC d i++List.replicate (16-i) 0).length=16:=by simp[gB];omega
  have hq2:(Br e (256:UInt64)).toNat=d.toNat/256^(i+1):=by
   rw[yY,Bpd,he,Ax2,<-Blw];rfl
  have ih:=Bcx d j (i+1) q (Br e (256:UInt64)) (by omega) (by omega) hq2;have ev:(Af (HJ e (256:UInt64)):Int32)=Int32.ofInt ((d.toNat/256^i %256:Nat):Int):=by
   show Int32.ofInt ((HJ e (256:UInt64)).toNat:Int)=_;rw[Apf,UInt64.toNat_mod,he];rfl
  have hz:d.toNat/256^i %256<256:=Bj3 _ (by omega);have et:(Int32.ofInt ((d.toNat/256^i %256:Nat):Int)).toInt=((d.toNat/256^i %256:Nat):Int):=by
   rw[Bln,Bpk (by show -(4294967296/2:Int)<= _;omega) (by show _<(4294967296+1)/2;omega)]
  have hp8:∀x:Int32,x=s8 (d.toNat/256^i %256)->EX (Mh q) e (i:Int) (dC d i++List.replicate (16-i) 0) x=some (dC d 8++List.replicate 8 0):=by
   intro x hx;rw[EX,aT,hx,Bn (by omega),Aa,Ui _ (by omega),Aa,Ah (by omega) (by omega),show 16-i=(15-i)+1 by omega,Bis,kI (gB d i)];rw[Agb,show 16-(i+1)=15-i by omega,Amz]at ih;exact ih
  rw[Mh,FD,Abm (by rw[Ae];simp;omega),ev,Ase,et,show(127:Int32).toInt=127 from rfl];by_cases h:d.toNat/256^i %256<128
  ·rw[Aau (by simp only[Acm];omega)];exact hp8 _ (by rw[s8,Abm h])
  ·rw[Abm (by simp only[Acm];omega)];refine hp8 _ ?_;rw[s8,Aau h,aV,Int32.ofInt_sub];rfl
def Nd(p:List UInt8):List Int32:=dC (Ws p) 8++List.replicate 8 0
theorem Mf(p:List UInt8):(Nd p).length=16:=by simp[Nd,gB]
theorem XU(p:List UInt8)(hp:p.length<=64):Nh p=some (Nd p,0):=by
 have h:=Avs (Ws p) 8 0 Ax (by omega) (by have:=As;omega);have h2:Alf (Ws p)=some (Nd p):=h;rw[Nh,Aau (by rw[Aq,Ac];simp;omega),Aob p (by omega),Aa];simp only;rw[Aau (by rw[Aj];simp),h2,Aa]
theorem SH(p:List UInt8)(hp:p.length<=64):Np p=some (Nd p,0):=by
 have h:=Bcx (Ws p) 8 0 Ax (Ws p) (by omega) (by have:=As;omega) (by simp);have h2:mN (Ws p)=some (Nd p):=h;rw[Np,Aau (by rw[Aq,Ac];simp;omega),fU,dD,Aau (by rw[Aq,Ac];simp;omega),Aqd p (by omega),Aa,Aa,Aa];simp only;rw[h2,Aa]
def u8(z:Int):UInt8:=UInt8.ofNat (z %256).toNat
theorem Alx(z:Int):u8 (z %256)=u8 z:=by rw[u8,u8];congr 2;omega
def wB(bits:Int):Nat:=if bits=8 then 1 else if bits=16 then 2 else 3
theorem Asq{bits:Int}(h:Bm bits):Br bits 8=(wB bits:Int):=by obtain rfl|rfl|rfl:=h<;>rfl
theorem Abz(bits:Int):1<=wB bits/\wB bits<=3:=by
 unfold wB;split; · omega
 ·split<;>omega
def PA(bits:Int)(x:Int):List UInt8:=if bits=8 then [u8 (x+128)]else if bits=16 then [u8 x,u8 (x/256)]else [u8 x,u8 (x/256),u8 (x/65536)]
theorem Aqu(bits x:Int):(PA bits x).length<=3:=by
 unfold PA;split; · simp
 ·split<;>simp
theorem Bbq(x:Int32)(k:Nat)(hk:k<=32):(Af (Ci x k):UInt8)=u8 (x.toInt.fdiv (2^k)):=by
 have h:=CM x;have e:Ci x k=Int32.ofInt (x.toInt.fdiv (2^k)):=by
  show Int32.ofInt (x.toInt.fdiv (2^min k 32))=_;rw[Bem hk]
 have hb: -2147483648<=x.toInt.fdiv (2^k)/\x.toInt.fdiv (2^k)<2147483648:=by
  have hpos:(0:Int)<2^k:=Int.pow_pos (by omega);rw[Arr _ (by omega)];constructor
  ·refine(Int.le_ediv_iff_mul_le hpos).2 ?_;have:(1:Int)<=2^k:=by omega
   have h2: -2147483648*(2^k:Int)<= -2147483648*1:=Int.mul_le_mul_of_nonpos_left (by omega) this;omega
  ·refine Int.ediv_lt_of_lt_mul hpos ?_;have:(1:Int)<=2^k:=by omega
   have h2:(2147483648:Int)*1<=2147483648*2^k:=Int.mul_le_mul_of_nonneg_left this (by omega);omega
 show UInt8.ofNat ((Ci x k).toInt %256).toNat=_;rw[e,Bln,Bpk (by show -(4294967296/2:Int)<= _;omega) (by show _<(4294967296+1)/2;omega)];rfl
section
variable (bk:Int->List UInt8->Option (List UInt8×Int)) (l:List Int32)
theorem Adm{bits:Int}(h:Bm bits)(c:Int32)(x:Int)(i q:Nat)(acc:List UInt8)(hi:i<wB bits)(ha:acc.length<=100000):
  Lc bk bits l c x (q+1) (i:Int) acc=Lc bk bits l c x q ((i+1:Nat):Int) (acc++[u8 (c.toInt.fdiv (2^(8*i)))]):=by
 have hw:=Abz bits;have e8:Bf (8:Int) (i:Int)=((8*i:Nat):Int):=by rw[Ez (by omega) (by omega)];omega
 rw[Lc,EJ,Asq h,Abm (by rw[Ae];simp;omega),e8,Bk (by rw[Dw];simp;omega),Aa,show(GI.toZ (((8*i:Nat):Int))).toNat=8*i from rfl,Bbq _ _ (by omega),Bi (by simp;omega),Aa,Ah (by omega) (by omega)];rfl
theorem Ass{bits:Int}(h:Bm bits)(c:Int32)(x:Int)(q:Nat)(acc:List UInt8):Lc bk bits l c x (q+1) ((wB bits:Nat):Int) acc=bk (Ad x 1) acc:=by
 rw[Lc,EJ,Asq h,Aau (by rw[Ae];simp),UP,mQ]
theorem Bk4{bits:Int}(h:Bm bits)(c:Int32)(x:Int)(acc:List UInt8)(ha:acc.length<=90000)(hr: -(hB bits)<=c.toInt/\c.toInt<hB bits):
  Nw bk bits l x acc (if bits=8 then Ad c (128:Int32)else c)=bk (Ad x 1) (acc++PA bits c.toInt):=by
 have e:Ax=(Ax-4)+1+1+1+1:=by have:=As;omega
 have hc:=CM c;rw[Nw,UI,UD,e];have g0:=λ(c:Int32) q acc ha=>Adm bk l h c x 0 q acc (by have:=Abz bits;omega) ha;obtain rfl|rfl|rfl:=h
 ·have hh:hB 8=128:=rfl;rw[hh]at hr;have e1:(Ad c (128:Int32)).toInt=c.toInt+128:=by
   show(Int32.ofInt (c.toInt+(128:Int32).toInt)).toInt=_;rw[show(128:Int32).toInt=128 from rfl,Bln,Bpk (by show -(4294967296/2:Int)<= _;omega) (by show _<(4294967296+1)/2;omega)]
  have g1:=Ass bk l (bits:=8) (.inl rfl) (Ad c (128:Int32)) x (Ax-4+1+1);rw[Abm rfl,show(0:Int)=((0:Nat):Int)from rfl,g0 _ _ _ (by omega)];refine Bjl (g1 _) ?_;rw[e1,PA,Abm rfl]
  show bk _ (acc++[u8 ((c.toInt+128).fdiv 1)])=_;rw[Int.fdiv_one]
 ·have g1:=λq acc ha=>Adm bk l (bits:=16) (.inr (.inl rfl)) c x 1 q acc (by decide) ha;have g2:=Ass bk l (bits:=16) (.inr (.inl rfl)) c x (Ax-4+1);rw[Aau (by decide),show(0:Int)=((0:Nat):Int)from rfl,g0 _ _ _ (by omega),g1 _ _ (by simp;omega)];refine Bjl (g2 _) ?_;rw[PA,Aau (by decide),Abm rfl,Amz]
  show bk _ (acc++[u8 (c.toInt.fdiv 1),u8 (c.toInt.fdiv 256)])=_;rw[Int.fdiv_one,Arr _ (by omega)]
 ·have g1:=λq acc ha=>Adm bk l (bits:=24) (.inr (.inr rfl)) c x 1 q acc (by decide) ha;have g2:=λq acc ha=>Adm bk l (bits:=24) (.inr (.inr rfl)) c x 2 q acc (by decide) ha;have g3:=Ass bk l (bits:=24) (.inr (.inr rfl)) c x (Ax-4);rw[Aau (by decide),show(0:Int)=((0:Nat):Int)from rfl,g0 _ _ _ (by omega),g1 _ _ (by simp;omega),g2 _ _ (by simp;omega)];refine Bjl (g3 _) ?_;rw[PA,Aau (by decide),Aau (by decide),Amz,Amz]
  show bk _ (acc++[u8 (c.toInt.fdiv 1),u8 (c.toInt.fdiv 256),u8 (c.toInt.fdiv 65536)])=_;rw[Int.fdiv_one,Arr _ (by omega),Arr _ (by omega)]
end
def Dk(bits:Int)(l:List Int32):List UInt8:=l.flatMap λx=>PA bits x.toInt
theorem FO(bits:Int):∀l:List Int32,(Dk bits l).length<=3*l.length
 |[]=>by simp[Dk]
 |x::l=>by
  have h1:=FO bits l;have h2:=Aqu bits x.toInt;simp only[Dk,List.flatMap_cons,Abq,Apu]at*
  omega
def inR(bits:Int)(l:List Int32):Prop:=∀x∈l, -(hB bits)<=x.toInt/\x.toInt<hB bits
theorem Aua{bits:Int}(h:Bm bits)(l:List Int32)(hl:l.length<=4000)(hr:inR bits l):∀(j i q:Nat),i+j=l.length->j<q->Hn bits l q (i:Int) (Dk bits (l.take i))=some (Dk bits l,0)
 |0,i,q+1,hi,_=>by
  rw[Hn,EI,Aau (by rw[Ae,Ac];simp;omega),Ati (by omega)];rfl
 |j+1,i,q+1,hi,hq=>by
  have hlt:i<l.length:=by omega
  have ih:=Aua h l hl hr j (i+1) q (by omega) (by omega);have hlen:=FO bits (l.take i);have hx:=hr l[i] (Ap3 _);have h1:=Bk4 (Hn bits l q) l h l[i] (i:Int) (Dk bits (l.take i)) (by rw[Afz]at hlen;omega) hx;rw[Hn,EI,Abm (by rw[Ae,Ac];simp;omega),Bn hlt,Aa];have e:(if(geq bits (8:Int))=true then Nw (Hn bits l q) bits l (i:Int) (Dk bits (l.take i)) (Ad l[i] (128:Int32))else Nw (Hn bits l q) bits l (i:Int) (Dk bits (l.take i)) l[i])=Nw (Hn bits l q) bits l (i:Int) (Dk bits (l.take i)) (if bits=8 then Ad l[i] (128:Int32)else l[i]):=by
   by_cases h8:bits=8
   ·rw[Abm (by rw[Ar];simpa using h8),Abm h8]
   ·rw[Aau (by rw[Ar];simpa using h8),Aau h8]
  rw[e,h1,Ah (by omega) (by omega)];rw[Ma hlt]at ih;have e2:Dk bits (l.take i++[l[i]])=Dk bits (l.take i)++PA bits l[i].toInt:=by unfold Dk;rw[List.flatMap_append,List.flatMap_singleton]
  rw[e2]at ih;exact ih
theorem fX{bits:Int}(h:Bm bits){l:List Int32}(hl:l.length<=4000)(hc:Ay bits l=some 0):inR bits l:=by
 have hh:=UY bits;have key:∀(j i q:Nat),i+j=l.length->j<q->Ba l (hB bits) q (i:Int)=some 0->∀k,i<=k-> (hk:k<l.length)-> -(hB bits)<=l[k].toInt/\l[k].toInt<hB bits:=by
  intro j
  induction j with
  |zero=>intro i q hi hq _ k h1 h2;omega
  |succ j ih=>
   intro i q hi hq hs k h1 h2;obtain⟨q,rfl⟩:∃k,q=k+1:=⟨q-1,by omega⟩;rw[Ba,Dd,Abm (by rw[Ae,Ac];simp;omega),Bn (by omega),Aa,Aa,Ge,Ams,Db (by omega) (by omega),Ah (by omega) (by omega),Ae,Dw]at hs;by_cases g1:l[i].toInt<0-hB bits
   ·rw[Abm (by simpa using g1)]at hs;simp at hs
   ·rw[Aau (by simpa using g1)]at hs;by_cases g2:hB bits<=l[i].toInt
    ·rw[Abm (by simpa using g2)]at hs;simp at hs
    ·rw[Aau (by simpa using g2)]at hs;by_cases hk:k=i
     ·subst hk;omega
     ·exact ih (i+1) q (by omega) (by omega) hs k (by omega) h2
 rw[Ay,Ea,cP h,Aa,Aau (by rw[Ar];simp;omega),Aau (by rw[Aq,Ac];simp;omega)]at hc;have:=key l.length 0 Ax (by omega) (by have:=As;omega) hc;intro x hx;obtain⟨k,hk,rfl⟩:=List.getElem_of_mem hx;exact this k (by omega) hk
theorem XY{bits:Int}(h:Bm bits){l:List Int32}(hl:l.length<=4000)(hc:Ay bits l=some 0):Le bits l=some (Dk bits l,0):=by
 have h1:=Aua h l hl (fX h hl hc) l.length 0 Ax (by omega) (by have:=As;omega);rw[Le,bC,aX h l hl,hc,Aa,Aau (by rw[Aj];simp)];exact h1
theorem Bfl{bits:Int}(h:Bm bits)(x:Int32)(hr: -(hB bits)<=x.toInt/\x.toInt<hB bits):PF bits x=some (PA bits x.toInt):=by
 have hx:=CM x;have gu:∀z:Int,(Af z:UInt8)=u8 z:=λz=>rfl;have hq:∀n:Int,0<=n->n<=20000000->Br n (256:Int)=n/256/\Br n (65536:Int)=n/65536:=by
  intro n h1 h2;constructor<;>(rw[VA,Biz h1,Db (by omega) (by omega)])
 have hm:∀n:Int,0<=n->Gx n (256:Int)=n %256:=λn h1=>by rw[Gx,Bnb h1]
 rw[PF,VS,Ge];obtain rfl|rfl|rfl:=h
 ·rw[Abm (by rw[Ar];rfl),Ah (by omega) (by omega),gu,PA,Abm rfl]
 ·have hh:hB 16=32768:=rfl;rw[hh]at hr;have hp:∀n:Int,0<=n->n<=70000->u8 n=u8 x.toInt->u8 (n/256)=u8 (x.toInt/256)->Oh 16 n=some (PA 16 x.toInt):=by
   intro n h1 h2 h3 h4;rw[Oh,CC,Aau (by rw[Ar];decide),hm n h1,(hq n h1 (by omega)).1,hm _ (by omega),gu,gu,Alx,Alx,h3,h4,PA,Aau (by decide),Abm rfl]
  rw[Aau (by rw[Ar];decide)];by_cases hn:x.toInt<0
  ·rw[Abm (by rw[Ae];simpa using hn),cP (.inr (.inl rfl)),Aa,hh,Ez (by omega) (by omega),Ah (by omega) (by omega)];refine hp _ (by omega) (by omega) ?_ ?_
   ·rw[u8,u8];congr 2;omega
   ·rw[u8,u8];congr 2;omega
  ·rw[Aau (by rw[Ae];simpa using hn)];exact hp _ (by omega) (by omega) rfl rfl
 ·have hh:hB 24=8388608:=rfl;rw[hh]at hr;have hp:∀n:Int,0<=n->n<=16777215->u8 n=u8 x.toInt->u8 (n/256)=u8 (x.toInt/256)->u8 (n/65536)=u8 (x.toInt/65536)->Oh 24 n=some (PA 24 x.toInt):=by
   intro n h1 h2 h3 h4 h5;rw[Oh,CC,Abm (by rw[Ar];rfl),hm n h1,(hq n h1 (by omega)).1,(hq n h1 (by omega)).2,hm _ (by omega),gu,gu,gu,Alx,Alx,h3,h4,h5,Bi (by simp),Aa,PA,Aau (by decide),Aau (by decide)];rfl
  rw[Aau (by rw[Ar];decide)];by_cases hn:x.toInt<0
  ·rw[Abm (by rw[Ae];simpa using hn),cP (.inr (.inr rfl)),Aa,hh,Ez (by omega) (by omega),Ah (by omega) (by omega)];refine hp _ (by omega) (by omega) ?_ ?_ ?_
   ·rw[u8,u8];congr 2;omega
   ·rw[u8,u8];congr 2;omega
   ·rw[u8,u8];congr 2;omega
  ·rw[Aau (by rw[Ae];simpa using hn)];exact hp _ (by omega) (by omega) rfl rfl rfl
theorem Awt{bits:Int}(h:Bm bits)(l:List Int32)(hl:l.length<=4000)(hr:inR bits l):∀(j i q:Nat),i+j=l.length->j<q->Ll bits l q (i:Int) (Dk bits (l.take i))=some (Dk bits l,0)
 |0,i,q+1,hi,_=>by
  rw[Ll,Yb,Aau (by rw[Ae,Ac];simp;omega),Ati (by omega)];rfl
 |j+1,i,q+1,hi,hq=>by
  have hlt:i<l.length:=by omega
  have ih:=Awt h l hl hr j (i+1) q (by omega) (by omega);have hlen:=FO bits (l.take i);have hol:=Aqu bits l[i].toInt;rw[Afz]at hlen;have e2:Dk bits (l.take i++[l[i]])=Dk bits (l.take i)++PA bits l[i].toInt:=by unfold Dk;rw[List.flatMap_append,List.flatMap_singleton]
  rw[Ma hlt,e2]at ih;rw[Ll,Yb,Abm (by rw[Ae,Ac];simp;omega),Bn hlt,Aa,Bfl h _ (hr l[i] (Ap3 _)),Aa,Bi (by omega),Aa,Ah (by omega) (by omega)];exact ih
theorem QB{bits:Int}(h:Bm bits){l:List Int32}(hl:l.length<=4000)(hc:Ay bits l=some 0):Wh bits l=some (Dk bits l,0):=by
 have h1:=Awt h l hl (fX h hl hc) l.length 0 Ax (by omega) (by have:=As;omega);rw[Wh,MZ,hc,Aa,Aau (by rw[Aj];simp)];exact h1
def dY:List UInt8->Nat->Int×Int
 |[],n=>((n:Int),0)
 |c::r,n=>if 128<=c.toNat then(0,12)else dY r (128*n+c.toNat)
theorem Avd:∀(l:List UInt8) (n k:Nat),n<128^k->0<= (dY l n).1/\ (dY l n).1<((128^(k+l.length):Nat):Int)
 |[],n,k,h=>by simp[dY];exact_mod_cast h
 |c::r,n,k,h=>by
  rw[dY];split
  ·have:0<128^(k+(c::r).length):=Blo (by omega);exact⟨Int.le_refl _,by simp only;exact_mod_cast this⟩
  ·have:=Avd r (128*n+c.toNat) (k+1) (by rw[Ax2];omega);rw[Apu,show k+(r.length+1)=k+1+r.length by omega];exact this
theorem or7(n c:Nat)(hn:n<268435456)(hc:c<128):wM (Dl (n:Int) (GI.toZ (7:UInt64)).toNat) (c:Int)=((128*n+c:Nat):Int):=by
 have e:(GI.toZ (7:UInt64)).toNat=7:=rfl;have h1:Dl (n:Int) 7=((2^7*n:Nat):Int):=by
  have:Dl (n:Int) 7=wrap64 ((n:Int)*2^7):=rfl;rw[this,Db (by omega) (by omega)];omega
 rw[e,h1];have h2:wM ((2^7*n:Nat):Int) (c:Int)=wrap64 ((BitVec.ofInt 64 ((2^7*n:Nat):Int)|||BitVec.ofInt 64 (c:Int)).toNat:Int):=rfl;rw[h2,BitVec.toNat_or,Bjk,Bjk];have h3:(((2^7*n:Nat):Int) %((2^64:Nat):Int)).toNat=2^7*n:=by omega
 have h4:((c:Int) %((2^64:Nat):Int)).toNat=c:=by omega
 rw[h3,h4,<-Bhi (by simpa using hc),Db (by omega) (by omega)]
theorem Awa(b:List UInt8)(hb:b.length=4):∀(j i q n:Nat),i+j=4->j<q->n<128^i->Pj b q (n:Int) (i:Int)=some (dY (b.drop i) n)
 |0,i,q+1,n,hi,_,_=>by
  rw[Pj,BE,Aau (by rw[Ae,Ac];simp;omega),show b.drop i=[] by simp;omega];rfl
 |j+1,i,q+1,n,hi,hq,hn=>by
  have hlt:i<b.length:=by omega
  have hn2:n<268435456:=Anj hn (show 128^i<=128^4 from Ad5 (by omega) (by omega));rw[Pj,BE,Abm (by rw[Ae,Ac];simp;omega),Bn hlt,Aa,drop_cons hlt,dY,Bcv];by_cases hc:128<=b[i].toNat
  ·rw[Abm (by simp;omega),Abm hc]
  ·rw[Aau (by simp;omega),Aau hc,XW,or7 n _ hn2 (by omega),Ah (by omega) (by omega)];exact Awa b hb j (i+1) q _ (by omega) (by omega) (by rw[Ax2];omega)
theorem Bdy(b:List UInt8)(hb:b.length=4):∀(j i q n:Nat),i+j=4->j<q->n<128^i->Lt b q (n:Int) (i:Int)=some (dY (b.drop i) n)
 |0,i,q+1,n,hi,_,_=>by
  rw[Lt,Xn,Aau (by rw[Ae];simp;omega),show b.drop i=[] by simp;omega];rfl
 |j+1,i,q+1,n,hi,hq,hn=>by
  have hlt:i<b.length:=by omega
  have hn2:n<268435456:=Anj hn (show 128^i<=128^4 from Ad5 (by omega) (by omega));rw[Lt,Xn,Abm (by rw[Ae];simp;omega),Bn hlt,Aa,drop_cons hlt,dY,Bdn];have h128:(128:UInt8).toNat=128:=rfl;by_cases hc:128<=b[i].toNat
  ·rw[Abm (by simpa using hc),Abm hc]
  ·have h3:=b[i].toNat_lt;rw[Aau (by simpa using hc),Aau hc,Aa,XW,Ez (by omega) (by omega),Ah (by omega) (by omega),Ah (by omega) (by omega)];have:=Bdy b hb j (i+1) q (128*n+b[i].toNat) (by omega) (by omega) (by rw[Ax2];omega);rw[<-this];rfl
theorem Atj(b:List UInt8)(hb:b.length=4):QJ b=some (dY b 0):=by
 have h:=Awa b hb 4 0 Ax 0 (by omega) (by have:=As;omega) (by simp);rw[QJ,OW,Aau (by rw[Aj,Ac];simp;omega),QC];exact h
theorem Ax8(b:List UInt8)(hb:b.length=4):EZ b=some (dY b 0):=by
 have h:=Bdy b hb 4 0 Ax 0 (by omega) (by have:=As;omega) (by simp);rw[EZ,NG,Aau (by rw[Aj,Ac];simp;omega),NV];exact h
theorem Ar4{b:List UInt8}(hb:b.length=4):0<= (dY b 0).1/\ (dY b 0).1<268435456:=by
 have:=Avd b 0 0 (by simp);rw[hb]at this;simpa using this
theorem lM(s p:List UInt8):Nt s p=some (decide (p.length<=s.length/\s.take p.length=p)):=by
 rw[Nt];by_cases h:p.length<=s.length
 ·rw[Abm (by rw[Dw,Ac,Ac];simp;omega),show Ac p=(p.length:Int)from rfl,Dj (by omega) (by omega),Aa,If,Aa,Afx];congr 1;rw[Ajs];simp[h]
 ·rw[Aau (by rw[Dw,Ac,Ac];simp;omega)];simp[h]
def iO(b:List UInt8)(n:Int):Int×Int:=
 if 4000<n then(0,4)else if(b.length:Int)<n then(0,24)else
 if b.getD 5 0=16/\ (b.take n.toNat).drop (n-10).toNat≠ [51,68,73]++part b 3 7 then(0,12)else(n,0)
def Ab1(b:List UInt8)(r:Int):Int×Int:=iO b (r+10+(if b.getD 5 0=16 then 10 else 0))
def BU(b:List UInt8):Int×Int:=
 if ¬(3<=b.length/\b.take 3=[73,68,51])then(0,6)else if b.length<10 then(0,24)else
 if(dY (part b 6 4) 0).2≠0\/b.getD 4 0≠0\/ ¬((b.getD 5 0=0/\2<= (b.getD 3 0).toNat/\ (b.getD 3 0).toNat<=4)\/ (b.getD 5 0=16/\b.getD 3 0=4))then(0,12)else
 Ab1 b (dY (part b 6 4) 0).1
theorem wN{b:List UInt8}{i:Nat}(h:i<b.length):Ap b (i:Int)=some (b.getD i 0):=by
 rw[Bn h];simp[List.getD_eq_getElem?_getD,h]
theorem Rn{b:List UInt8}(a w:Nat)(h:a+w<=b.length):Bq b (a:Int) ((a+w:Nat):Int)=some (part b a w):=by
 rw[Wd (by omega) (by omega) (by omega)];rfl
theorem Be1(b:List UInt8)(r:Int)(h10:10<=b.length)(h0:0<=r)(h1:r<268435456):Zw b r=some (Ab1 b r):=by
 have g5:Ap b (5:Int)=some (b.getD 5 0):=wN (i:=5) (by omega);have key:∀n:Int,10<=n->n<268435500->Zr b n=some (iO b n):=by
  intro n hn hn2;rw[Zr,TE,iO];by_cases c1:4000<n
  ·rw[Abm (by rw[Aq];simpa using c1),Abm c1]
  ·rw[Aau (by rw[Aq];simpa using c1),Aau c1];by_cases c2:(b.length:Int)<n
   ·rw[Abm (by rw[Ae,Ac];simpa using c2),Abm c2]
   ·have e3:Bq b (3:Int) (10:Int)=some (part b 3 7):=Rn 3 7 (by omega);rw[Aau (by rw[Ae,Ac];simpa using c2),Aau c2,g5,Aa];by_cases c3:b.getD 5 0=16
    ·rw[Abm (by rw[lV];simpa using c3),Bw (by omega) (by omega),Wd (by omega) (by omega) (by omega),Aa,e3,Aa,Bi (by rw[Ey (by omega)];simp),Aa];by_cases c4:(b.take n.toNat).drop (n-10).toNat=[51,68,73]++part b 3 7
     ·rw[Aau (by simpa using c4),Aau (by intro h;exact h.2 c4)]
     ·rw[Abm (by simpa using c4),Abm ⟨c3,c4⟩]
    ·rw[Aau (by rw[lV];simpa using c3),Aau (λh=>c3 h.1)]
 rw[Zw,TL,g5,Aa,Ab1];by_cases c3:b.getD 5 0=16
 ·rw[Abm (by rw[lV];simpa using c3),Ah (by rw[Ah]<;>omega) (by rw[Ah]<;>omega),Ah (by omega) (by omega),key _ (by omega) (by omega),Abm c3,show 10+r+10=r+10+10 by omega]
 ·rw[Aau (by rw[lV];simpa using c3),Ah (by omega) (by omega),key _ (by omega) (by omega),Aau c3,show 10+r=r+10+0 by omega]
theorem Bc5(b:List UInt8)(hb:b.length<4611686018427387904):MH b=some (BU b):=by
 rw[MH,RP,BU];by_cases h3:3<=b.length
 ·rw[Aau (by rw[Ae,Ac];simp;omega),Dj (by omega) (by omega),Aa];by_cases hp:b.take 3=[73,68,51]
  ·rw[Aau (by simpa using hp),Aau (by simp[h3,hp]),SU,RJ];by_cases h10:b.length<10
   ·rw[Abm (by rw[Ae,Ac];simp;omega),Abm h10]
   ·have e6:Bq b (6:Int) (10:Int)=some (part b 6 4):=Rn 6 4 (by omega);have g3:Ap b (3:Int)=some (b.getD 3 0):=wN (i:=3) (by omega);have g4:Ap b (4:Int)=some (b.getD 4 0):=wN (i:=4) (by omega);have g5:Ap b (5:Int)=some (b.getD 5 0):=wN (i:=5) (by omega);obtain⟨v1,v2⟩:=Ar4 (b:=part b 6 4) (Ey (by omega));rw[Aau (by rw[Ae,Ac];simp;omega),Aau h10,e6,Aa,Ax8 _ (Ey (by omega)),Aa];have ht:=Be1 b (dY (part b 6 4) 0).1 (by omega) v1 v2;generalize dY (part b 6 4) 0=v at*
    obtain⟨v,e⟩:=v;simp only at ht v1 v2⊢;simp only[Aa,g3,g4,g5,ht];generalize b.getD 3 0=x at*
    generalize b.getD 4 0=y at*
    generalize b.getD 5 0=z at*
    simp only[Asf,Bj6,Bcv,Aj];by_cases he:e=0<;>by_cases hy:y=0<;>by_cases hz:z=0<;>by_cases hz2:z=16<;>by_cases hx:x=4<;>by_cases hx2:x.toNat<2<;>by_cases hx4:4<x.toNat<;>simp_all<;>(rw[Aau (by omega),Aau (by omega)])
  ·rw[Abm (by simpa using hp),Abm (by simp[hp])]
 ·rw[Abm (by rw[Ae,Ac];simp;omega),Abm (by simp[h3])]
theorem Ajq(b:List UInt8)(n:Int)(h10:10<=b.length)(hn:10<=n)(hn2:n<268435500):EH b (b.getD 5 0) n=some (iO b n):=by
 rw[EH,mS];by_cases c1:4000<n
 ·rw[Abm (by rw[Aq];simpa using c1),iO,Abm c1]
 ·rw[Aau (by rw[Aq];simpa using c1)];by_cases c2:(b.length:Int)<n
  ·rw[Abm (by rw[Ae,Ac];simpa using c2),iO,Aau c1,Abm c2]
  ·have e3:Bq b (3:Int) (10:Int)=some (part b 3 7):=Rn 3 7 (by omega);rw[Aau (by rw[Ae,Ac];simpa using c2)];by_cases c3:b.getD 5 0=16
   ·have hl:((b.take n.toNat).drop (n-10).toNat).length=10:=by simp;omega
    have ht:iO b n=if(b.take n.toNat).drop (n-10).toNat≠ [51,68,73]++part b 3 7 then(0,12)else(n,0):=by rw[iO,Aau c1,Aau c2];simp only[c3,true_and]
    rw[Abm (by rw[lV];simpa using c3),Bw (by omega) (by omega),Wd (by omega) (by omega) (by omega),Aa,ht];generalize(b.take n.toNat).drop (n-10).toNat=f at*
    rw[Dj (by omega) (by omega),Aa,Cb (by omega) (by omega),Aa,e3,Aa,If,Aa];have hf:f=f.take 3++f.drop 3:=(Bjy 3 f).symm;by_cases c4:f=[51,68,73]++part b 3 7
    ·subst c4;simp
    ·by_cases c5:f.take 3=[51,68,73]
     ·have:f.drop 3≠part b 3 7:=λh=>c4 (by rw[hf,c5,h]);simp only[Blm,Aro]at c4;simp[c4,c5,this]
     ·simp only[Blm,Aro]at c4;simp[c4,c5]
   ·rw[Aau (by rw[lV];simpa using c3),iO,Aau c1,Aau c2,Aau (λh=>c3 h.1)]
theorem Bbz(b:List UInt8)(r:Int)(h10:10<=b.length)(h0:0<=r)(h1:r<268435456):EG b r (b.getD 5 0)=some (Ab1 b r):=by
 rw[EG,VB,Ab1];by_cases c3:b.getD 5 0=16
 ·rw[Abm (by rw[lV];simpa using c3),Ah (by rw[Ah]<;>omega) (by rw[Ah]<;>omega),Ah (by omega) (by omega),Ajq b _ h10 (by omega) (by omega),Abm c3]
 ·rw[Aau (by rw[lV];simpa using c3),Ah (by omega) (by omega),Ajq b _ h10 (by omega) (by omega),Aau c3];simp
theorem Azs(b:List UInt8)(hb:b.length<4611686018427387904):XI b=some (BU b):=by
 rw[XI,DZ,lM,Aa];by_cases hp:3<=b.length/\b.take 3=[73,68,51]
 ·rw[Aau (by simpa using hp)];by_cases h10:b.length<10
  ·rw[Abm (by rw[Ae,Ac];simp;omega),BU,Aau (λh=>h hp),Abm h10]
  ·have e6:Bq b (6:Int) (10:Int)=some (part b 6 4):=Rn 6 4 (by omega);have g3:Ap b (3:Int)=some (b.getD 3 0):=wN (i:=3) (by omega);have g4:Ap b (4:Int)=some (b.getD 4 0):=wN (i:=4) (by omega);have g5:Ap b (5:Int)=some (b.getD 5 0):=wN (i:=5) (by omega);obtain⟨v1,v2⟩:=Ar4 (b:=part b 6 4) (Ey (by omega));have ht:=Bbz b (dY (part b 6 4) 0).1 (by omega) v1 v2;rw[Aau (by rw[Ae,Ac];simp;omega),g3,Aa,g5,Aa,UL,UU,e6,Aa,Atj _ (Ey (by omega)),Aa,BU,Aau (λh=>h hp),Aau h10];generalize dY (part b 6 4) 0=v at*
   obtain⟨v,e⟩:=v;simp only at ht v1 v2⊢;simp only[Aa,g4,UW,TU];generalize b.getD 3 0=x at*
   generalize b.getD 4 0=y at*
   generalize b.getD 5 0=z at*
   simp only[Asf,Bku,lV,Bdn,Aj];have e2:(2:UInt8).toNat=2:=rfl;have e4:(4:UInt8).toNat=4:=rfl;by_cases he:e=0<;>by_cases hy:y=0<;>by_cases hz:z=0<;>by_cases hz2:z=16<;>by_cases hx:x=4<;>by_cases hx2:2<=x.toNat<;>by_cases hx4:x.toNat<=4<;>simp_all
 ·rw[Abm (by rw[Azt,Ba2];exact hp),BU,Abm hp]
theorem Bbh{b:List UInt8}{n:Int}(h:BU b=(n,0)):10<=n/\n<=b.length/\n<=4000:=by
 unfold BU at h;split at h; · simp at h
 split at h; · simp at h
 split at h; · simp at h
 rename_i h10 _;obtain⟨v1,v2⟩:=Ar4 (b:=part b 6 4) (Ey (by omega));unfold Ab1 at h;generalize hm:(dY (part b 6 4) 0).1+10+(if b.getD 5 0=16 then 10 else 0)=m at h;unfold iO at h;split at h; · simp at h
 split at h; · simp at h
 split at h; · simp at h
 simp only[Ae3,Bpl]at h;subst h;refine⟨?_,by omega,by omega⟩;rw[<-hm];split<;>omega
def APE:List UInt8:=[65,80,69,84,65,71,69,88]
def Rg(n m fl:Nat):List UInt8:=APE++Xf 2000 4++Xf (n+32) 4++Xf m 4++Xf fl 4++List.replicate 8 0
theorem bV{n:Nat}(h:n<18446744073709551616):(UInt64.ofNat n).toNat=n:=by rw[Aip,Ac0 h]
theorem tD(n m:Int)(fl:UInt64)(c:UInt64)(i q:Nat)(acc:List UInt8)(hi:i<6)(hc:Ap ([(2000:UInt64),(Af (Ad n (32:Int)):UInt64),(Af m:UInt64),fl,(0:UInt64),(0:UInt64)]:List UInt64) (i:Int)=some c)(h:c.toNat<4294967296)(ha:acc.length<=1000000):
  EW n m fl (q+1) (i:Int) acc=EW n m fl q ((i+1:Nat):Int) (acc++Xf c.toNat 4):=by
 have hb:=bH c 4 (by omega) (by omega) (by simpa using h);rw[EW,kF,Abm (by rw[Ae,Ac];simp;omega),hc,Aa,Aa,show((4:Int))=((4:Nat):Int)from rfl,hb,Aa];simp only;rw[Bi (by rw[Ef];omega),Aa,Ah (by omega) (by omega)];rfl
theorem Afs(n m:Nat)(fl:UInt64)(hn:n<=3000)(hm:m<=1000)(hf:fl.toNat<4294967296):sG (n:Int) (m:Int) fl=some (Rg n m fl.toNat):=by
 have e1:(Af (Ad (n:Int) (32:Int)):UInt64).toNat=n+32:=by rw[Ah (by omega) (by omega),show(n:Int)+32=((n+32:Nat):Int) by omega,Xi,bV (by omega)]
 have e2:(Af (m:Int):UInt64).toNat=m:=by rw[Xi,bV (by omega)]
 have hF:Ax=(Ax-7)+1+1+1+1+1+1+1:=by have:=As;omega
 rw[sG,wP,vX,hF];rw[show((0:Int))=((0:Nat):Int)from rfl,tD n m fl 2000 0 _ _ (by omega) rfl (by decide) (by simp),tD n m fl _ 1 _ _ (by omega) rfl (by rw[e1];omega) (by simp[Ef]),tD n m fl _ 2 _ _ (by omega) rfl (by rw[e2];omega) (by simp[Ef]),
  tD n m fl fl 3 _ _ (by omega) rfl hf (by simp[Ef]),tD n m fl 0 4 _ _ (by omega) rfl (by decide) (by simp[Ef]),tD n m fl 0 5 _ _ (by omega) rfl (by decide) (by simp[Ef]),e1,e2]
 rw[EW,kF,Aau (by rw[Ae,Ac];simp),wO,Aff,Rg];have z:Xf (0:UInt64).toNat 4++Xf (0:UInt64).toNat 4=List.replicate 8 0:=by decide
 have z2:Xf (2000:UInt64).toNat 4=Xf 2000 4:=rfl;rw[Amz _ (Xf (0:UInt64).toNat 4),z,z2];rfl
theorem xW(n m:Nat)(fl:UInt64)(hn:n<=3000)(hm:m<=1000)(hf:fl.toNat<4294967296):Up (n:Int) (m:Int) fl=some (Rg n m fl.toNat):=by
 have e1:(Af (Ad (n:Int) (32:Int)):UInt64).toNat=n+32:=by rw[Ah (by omega) (by omega),show(n:Int)+32=((n+32:Nat):Int) by omega,Xi,bV (by omega)]
 have e2:(Af (m:Int):UInt64).toNat=m:=by rw[Xi,bV (by omega)]
 have w:∀c:UInt64,Fo c 4=some (Xf c.toNat 4):=λc=>Aif c 4 (by omega);have z2:Xf (2000:UInt64).toNat 4=Xf 2000 4:=rfl;rw[Up];simp only[w,e1,e2,Aa];rw[Bi (by simp[Ef]),Aa,Bi (by simp[Ef]),Aa,Bi (by simp[Ef]),Aa,Bi (by simp[Ef]),Aa,rA (by omega) (by omega),Aa,Bi (by simp[Ef]),Aa,z2];rfl
theorem XS{b:List UInt8}{a w k:Nat}(h:a+w<=k):part (b.take k) a w=part b a w:=by rw[part,part,List.take_take,Bem h]
def HL(b:List UInt8):Bool:=decide (Fy (part b 12 4)<32\/3032<Fy (part b 12 4)\/1000<Fy (part b 16 4))
theorem Bdq(b:List UInt8)(h:20<=b.length):(((Cq (uT (part b 12 4)) (32:UInt64))||(Ed (uT (part b 12 4)) (3032:UInt64)))||(Ed (uT (part b 16 4)) (1000:UInt64)))=HL b:=by
 rw[Adq,dE,dE,cC (by rw[Ey (by omega)];omega),cC (by rw[Ey (by omega)];omega),HL];show((decide (Fy (part b 12 4)<32)||decide (3032<Fy (part b 12 4)))||decide (1000<Fy (part b 16 4)))=_;simp[Bool.or_assoc]
theorem Aam(b:List UInt8)(h:20<=b.length)(hb:HL b=false):Ao (Af (uT (part b 12 4)):Int) (32:Int)=((Fy (part b 12 4)-32:Nat):Int)/\ (Af (uT (part b 16 4)):Int)=((Fy (part b 16 4):Nat):Int)/\Fy (part b 12 4)-32<=3000/\Fy (part b 16 4)<=1000:=by
 simp only[HL,Ba2]at hb;refine⟨?_,QV (by rw[Ey (by omega)];omega),by omega,by omega⟩;rw[QV (by rw[Ey (by omega)];omega),Bw (by omega) (by omega)];omega
theorem jX(b:List UInt8)(fl:UInt64)(h:20<=b.length)(hl:b.length<4611686018427387904)(hf:fl.toNat<4294967296):
  XT b fl=some (if HL b=true then(0,0,false)else(((Fy (part b 12 4)-32:Nat):Int),((Fy (part b 16 4):Nat):Int),b==Rg (Fy (part b 12 4)-32) (Fy (part b 16 4)) fl.toNat)):=by
 have a1:gZ b 12 4=some (uT (part b 12 4),0):=Ajo b 12 4 (by omega) (by omega) (by omega) hl;have a2:gZ b 16 4=some (uT (part b 16 4),0):=Ajo b 16 4 (by omega) (by omega) (by omega) hl;rw[XT,a1,Aa];simp only;rw[a2,Aa];simp only;rw[Bdq b h];cases hb:HL b with
 |true=>rfl
 |false=>
  obtain⟨i1,i2,i3,i4⟩:=Aam b h hb;rw[i1,i2,Afs _ _ _ i3 i4 hf];rfl
theorem Aou(b:List UInt8)(h:20<=b.length)(hl:b.length<4611686018427387904):
  Yx b=some (if HL b=true then(0,0,false)else(((Fy (part b 12 4)-32:Nat):Int),((Fy (part b 16 4):Nat):Int),true)):=by
 have a1:Bq b 12 16=some (part b 12 4):=Rn 12 4 (by omega);have a2:Bq b 16 20=some (part b 16 4):=Rn 16 4 (by omega);rw[Yx,a1,Aa,Anr _ (by rw[Ey (by omega)];omega),Aa,a2,Aa,Anr _ (by rw[Ey (by omega)];omega),Aa,Bdq b h];cases hb:HL b with
 |true=>rfl
 |false=>
  obtain⟨i1,i2,i3,i4⟩:=Aam b h hb;rw[i1,i2];rfl
def Lg(b:List UInt8):Int×Int:=
 if ¬(8<=b.length/\b.take 8=APE)then(0,6)else if b.length<32 then(0,24)else
 if HL b=true\/b.take 32≠Rg (Fy (part b 12 4)-32) (Fy (part b 16 4)) 2684354560 then(0,12)else
 if b.length<Fy (part b 12 4)+32 then(0,24)else
 if(b.take (Fy (part b 12 4)+32)).drop (Fy (part b 12 4))≠Rg (Fy (part b 12 4)-32) (Fy (part b 16 4)) 2147483648 then(0,12)else(((Fy (part b 12 4)+32:Nat):Int),0)
theorem Apy(b:List UInt8):HL (b.take 32)=HL b:=by rw[HL,HL,XS (by omega),XS (by omega)]
section
variable {b:List UInt8}
theorem fa1(h:¬(8<=b.length/\b.take 8=APE)):Lg b=(0,6):=by rw[Lg,Abm h]
theorem fa2(h:8<=b.length/\b.take 8=APE)(h2:b.length<32):Lg b=(0,24):=by rw[Lg,Aau (λh'=>h' h),Abm h2]
variable (h:8<=b.length/\b.take 8=APE) (h2:¬b.length<32)
include h h2
theorem fa3(h3:HL b=true):Lg b=(0,12):=by rw[Lg,Aau (λh'=>h' h),Aau h2,Abm (.inl h3)]
theorem fa4(h4:b.take 32≠Rg (Fy (part b 12 4)-32) (Fy (part b 16 4)) 2684354560):Lg b=(0,12):=by rw[Lg,Aau (λh'=>h' h),Aau h2,Abm (.inr h4)]
variable (h3:HL b=false) (h4:b.take 32=Rg (Fy (part b 12 4)-32) (Fy (part b 16 4)) 2684354560)
include h3 h4
theorem fa5(h5:b.length<Fy (part b 12 4)+32):Lg b=(0,24):=by
 rw[Lg,Aau (λh'=>h' h),Aau h2,Aau (λh'=>h'.elim (λe=>by rw[h3]at e;cases e) λe=>e h4),Abm h5]
theorem fa6(h5:¬b.length<Fy (part b 12 4)+32)(h6:(b.take (Fy (part b 12 4)+32)).drop (Fy (part b 12 4))≠Rg (Fy (part b 12 4)-32) (Fy (part b 16 4)) 2147483648):Lg b=(0,12):=by
 rw[Lg,Aau (λh'=>h' h),Aau h2,Aau (λh'=>h'.elim (λe=>by rw[h3]at e;cases e) λe=>e h4),Aau h5,Abm h6]
theorem fa7(h5:¬b.length<Fy (part b 12 4)+32)(h6:(b.take (Fy (part b 12 4)+32)).drop (Fy (part b 12 4))=Rg (Fy (part b 12 4)-32) (Fy (part b 16 4)) 2147483648):Lg b=(((Fy (part b 12 4)+32:Nat):Int),0):=by
 rw[Lg,Aau (λh'=>h' h),Aau h2,Aau (λh'=>h'.elim (λe=>by rw[h3]at e;cases e) λe=>e h4),Aau h5,Aau (λh'=>h' h6)]
end
theorem Asi(b:List UInt8)(hl:b.length<4611686018427387904):tA b=some (Lg b):=by
 rw[tA,lM,Aa];by_cases hp:8<=b.length/\b.take 8=APE
 ·rw[Aau (by simpa [APE]using hp)];by_cases h32:b.length<32
  ·rw[Abm (by rw[Ae,Ac];simp;omega),fa2 hp h32]
  ·have t:=jX (b.take 32) 2684354560 (by simp;omega) (by simp;omega) (by decide);rw[Apy,XS (by omega),XS (by omega)]at t;rw[Aau (by rw[Ae,Ac];simp;omega),Dj (by omega) (by omega),Aa,show(32:Int).toNat=32 from rfl,t,Aa];cases hb:HL b with
   |true=>rw[fa3 hp h32 hb];simp
   |false=>
    obtain⟨i1,i2,i3,i4⟩:=Aam b (by omega) hb;have i5:32<=Fy (part b 12 4):=by simp only[HL,Ba2]at hb;omega
    simp only[Aw0,Bmy,false_or];by_cases c1:b.take 32=Rg (Fy (part b 12 4)-32) (Fy (part b 16 4)) 2684354560
    ·have c1':b.take 32=Rg (Fy (part b 12 4)-32) (Fy (part b 16 4)) (2684354560:UInt64).toNat:=c1;rw[Aau (by simpa using c1'),Ah (by omega) (by omega)];have e1:((Fy (part b 12 4)-32:Nat):Int)+64=((Fy (part b 12 4)+32:Nat):Int):=by omega
     rw[e1];by_cases c2:b.length<Fy (part b 12 4)+32
     ·rw[Abm (by rw[Ae,Ac];simp;omega),fa5 hp h32 hb c1 c2]
     ·rw[Aau (by rw[Ae,Ac];simp;omega),Bw (by omega) (by omega),Wd (by omega) (by omega) (by omega),Aa,Afs _ _ _ i3 i4 (by decide),Aa,If,Aa];rw[show(((Fy (part b 12 4)+32:Nat):Int)).toNat=Fy (part b 12 4)+32 by omega,show(((Fy (part b 12 4)+32:Nat):Int)-32).toNat=Fy (part b 12 4) by omega];by_cases c3:(b.take (Fy (part b 12 4)+32)).drop (Fy (part b 12 4))=Rg (Fy (part b 12 4)-32) (Fy (part b 16 4)) 2147483648
      ·have c3':(b.take (Fy (part b 12 4)+32)).drop (Fy (part b 12 4))=Rg (Fy (part b 12 4)-32) (Fy (part b 16 4)) (2147483648:UInt64).toNat:=c3;rw[Aau (by simpa using c3'),fa7 hp h32 hb c1 c2 c3]
      ·have c3':¬(b.take (Fy (part b 12 4)+32)).drop (Fy (part b 12 4))=Rg (Fy (part b 12 4)-32) (Fy (part b 16 4)) (2147483648:UInt64).toNat:=c3;rw[Abm (by simpa using c3'),fa6 hp h32 hb c1 c2 c3]
    ·have c1':¬b.take 32=Rg (Fy (part b 12 4)-32) (Fy (part b 16 4)) (2684354560:UInt64).toNat:=c1;rw[Abm (by simpa using c1'),fa4 hp h32 c1]
 ·rw[Abm (by rw[Azt,Ba2];exact hp),fa1 hp]
theorem Axw(b:List UInt8)(hl:b.length<4611686018427387904):EU b=some (Lg b):=by
 rw[EU,NK];by_cases h8:8<=b.length
 ·rw[Aau (by rw[Ae,Ac];simp;omega),Dj (by omega) (by omega),Aa,show(8:Int).toNat=8 from rfl];by_cases ha:b.take 8=APE
  ·have hp:=And.intro h8 ha;rw[Aau (by simpa [APE]using ha),NU,NW];by_cases h32:b.length<32
   ·rw[Abm (by rw[Ae,Ac];simp;omega),fa2 hp h32]
   ·have t:=Aou (b.take 32) (by simp;omega) (by simp;omega);rw[Apy,XS (by omega),XS (by omega)]at t;rw[Aau (by rw[Ae,Ac];simp;omega),Dj (by omega) (by omega),Aa,show(32:Int).toNat=32 from rfl,t,Aa];cases hb:HL b with
    |true=>rw[fa3 hp h32 hb];simp
    |false=>
     obtain⟨i1,i2,i3,i4⟩:=Aam b (by omega) hb;have i5:32<=Fy (part b 12 4):=by simp only[HL,Ba2]at hb;omega
     simp only[Aw0,Bmy,false_or,Aa,Bn8];rw[Yt,xW _ _ _ i3 i4 (by decide),Aa,Aa];by_cases c1:b.take 32=Rg (Fy (part b 12 4)-32) (Fy (part b 16 4)) 2684354560
     ·have c1':b.take 32=Rg (Fy (part b 12 4)-32) (Fy (part b 16 4)) (2684354560:UInt64).toNat:=c1;rw[Aau (by simpa using c1'),MX,NB,Ah (by omega) (by omega)];have e1:64+((Fy (part b 12 4)-32:Nat):Int)=((Fy (part b 12 4)+32:Nat):Int):=by omega
      rw[e1];by_cases c2:b.length<Fy (part b 12 4)+32
      ·rw[Abm (by rw[Ae,Ac];simp;omega),fa5 hp h32 hb c1 c2]
      ·rw[Aau (by rw[Ae,Ac];simp;omega),Bw (by omega) (by omega),Wd (by omega) (by omega) (by omega),Aa,Nn,Abm rfl,xW _ _ _ i3 i4 (by decide),Aa,Aa];rw[show(((Fy (part b 12 4)+32:Nat):Int)).toNat=Fy (part b 12 4)+32 by omega,show(((Fy (part b 12 4)+32:Nat):Int)-32).toNat=Fy (part b 12 4) by omega];by_cases c3:(b.take (Fy (part b 12 4)+32)).drop (Fy (part b 12 4))=Rg (Fy (part b 12 4)-32) (Fy (part b 16 4)) 2147483648
       ·have c3':(b.take (Fy (part b 12 4)+32)).drop (Fy (part b 12 4))=Rg (Fy (part b 12 4)-32) (Fy (part b 16 4)) (2147483648:UInt64).toNat:=c3;rw[Aau (by simpa using c3'),fa7 hp h32 hb c1 c2 c3]
       ·have c3':¬(b.take (Fy (part b 12 4)+32)).drop (Fy (part b 12 4))=Rg (Fy (part b 12 4)-32) (Fy (part b 16 4)) (2147483648:UInt64).toNat:=c3;rw[Abm (by simpa using c3'),fa6 hp h32 hb c1 c2 c3]
     ·have c1':¬b.take 32=Rg (Fy (part b 12 4)-32) (Fy (part b 16 4)) (2684354560:UInt64).toNat:=c1;rw[Abm (by simpa using c1'),fa4 hp h32 c1]
  ·rw[Abm (by simpa [APE]using ha),fa1 (λh=>ha h.2)]
 ·rw[Abm (by rw[Ae,Ac];simp;omega),fa1 (λh=>h8 h.1)]
theorem Ay4{b:List UInt8}{n:Int}(h:Lg b=(n,0)):64<=n/\n<=b.length:=by
 unfold Lg at h;split at h; · simp at h
 split at h; · simp at h
 split at h; · simp at h
 rename_i hb;split at h; · simp at h
 split at h; · simp at h
 simp only[Ae3,Bpl]at h;have hb':¬HL b=true:=λe=>hb (.inl e);simp only[HL,Acm]at hb';omega
def Da(b:List UInt8):Int×Int:=if(BU b).2≠6 then BU b else Lg b
theorem size_eq(b:List UInt8)(hl:b.length<4611686018427387904):Zm b=some (Da b):=by
 rw[Zm,Azs b hl,Aa,Asi b hl];by_cases h:(BU b).2=6
 ·simp[Da,h,Aj]
 ·simp[Da,h,Aj]
theorem rI{b:List UInt8}{n:Int}(h:Da b=(n,0)):10<=n/\n<=b.length:=by
 unfold Da at h;split at h
 ·have:=Bbh h;omega
 ·have:=Ay4 h;omega
def Cr(b:List UInt8):Nat->Nat->List Int×Int
 |0,_=>([],6)
 |j+1,p=>if(Da (b.drop p)).2=6 then([],0)else if(Da (b.drop p)).2≠0 then([],(Da (b.drop p)).2)else
  if 4000<(p:Int)+(Da (b.drop p)).1 then([],4)else
  if(Cr b j (p+(Da (b.drop p)).1.toNat)).2=0 then((Da (b.drop p)).1::(Cr b j (p+(Da (b.drop p)).1.toNat)).1,0)else([],(Cr b j (p+(Da (b.drop p)).1.toNat)).2)
theorem sZ(b:List UInt8):∀(j p:Nat),p<=b.length->p<=4000-> (Cr b j p).2=0-> (∀x∈(Cr b j p).1,10<=x)/\ (p:Int)+(Cr b j p).1.sum<=b.length/\ (p:Int)+(Cr b j p).1.sum<=4000
 |0,p,_,_,h=>by simp[Cr]at h
 |j+1,p,hp,hq,h=>by
  rw[Cr]at h⊢;split at h
  ·rename_i h6;rw[Abm h6];simp;omega
  ·rename_i h6;split at h
   ·rename_i h0;exact absurd h h0
   ·rename_i h0;rw[Aau h6,Aau h0];have hz:Da (b.drop p)=((Da (b.drop p)).1,0):=by rw[Prod.ext_iff];exact⟨rfl,Classical.not_not.1 h0⟩
    have hs:=rI hz;rw[Agn]at hs;split at h
    ·simp at h
    ·rename_i h4;rw[Aau h4];split at h
     ·rename_i h00;rw[Abm h00];obtain⟨i1,i2,i3⟩:=sZ b j _ (by omega) (by omega) h00;refine⟨λx hx=>?_,?_,?_⟩
      ·rcases List.mem_cons.1 hx with rfl|hx
       ·exact hs.1
       ·exact i1 x hx
      ·simp only[Azy];omega
      ·simp only[Azy];omega
     ·rename_i h00;exact absurd h h00
def Aix(b:List UInt8)(j p:Nat):Int×Int:=if(Cr b j p).2=0 then((p:Int)+(Cr b j p).1.sum,0)else(0,(Cr b j p).2)
theorem Afc(b:List UInt8)(hl:b.length<4611686018427387904):∀(j p q:Nat),p<=b.length->p<=4000->b.length-p<j->j<=q->Xc b q (p:Int)=some (Aix b j p)
 |0,p,q,_,_,h,_=>by omega
 |j+1,p,q,hp,hp4,hj,hq=>by
  obtain⟨q,rfl⟩:∃k,q=k+1:=⟨q-1,by omega⟩;rw[Xc,Cb (by omega) (by omega),Aa,Afx,size_eq _ (by simp;omega),Aa,Ar,Ar,Aj,Aix];by_cases h6:(Da (b.drop p)).2=6
  ·rw[Abm (by simpa using h6)];have:Cr b (j+1) p=([],0):=by rw[Cr,Abm h6]
   rw[this];simp
  ·rw[Aau (by simpa using h6)];by_cases h0:(Da (b.drop p)).2=0
   ·have hz:Da (b.drop p)=((Da (b.drop p)).1,0):=by rw[Prod.ext_iff];exact⟨rfl,h0⟩
    have hs:=rI hz;rw[Agn]at hs;rw[Ah (by omega) (by omega),Aq];by_cases h4:4000<(p:Int)+(Da (b.drop p)).1
    ·rw[Abm (by simp[h0];omega)];have:Cr b (j+1) p=([],4):=by rw[Cr,Aau h6,Aau (λh=>h h0),Abm h4]
     rw[this];simp
    ·rw[Aau (by simp[h0];omega),Aau (by simpa using h0)];have ih:=Afc b hl j (p+(Da (b.drop p)).1.toNat) q (by omega) (by omega) (by omega) (by omega);rw[show(p:Int)+(Da (b.drop p)).1=((p+(Da (b.drop p)).1.toNat:Nat):Int) by omega,ih,Aix];have:Cr b (j+1) p=if(Cr b j (p+(Da (b.drop p)).1.toNat)).2=0 then((Da (b.drop p)).1::(Cr b j (p+(Da (b.drop p)).1.toNat)).1,0)else([],(Cr b j (p+(Da (b.drop p)).1.toNat)).2):=by
      rw[Cr,Aau h6,Aau (λh=>h h0),Aau h4]
     rw[this];by_cases hr:(Cr b j (p+(Da (b.drop p)).1.toNat)).2=0
     ·simp only[hr,Bpq,Azy];congr 2;omega
     ·simp only[hr,Bmy]
   ·rw[Aau (by simp[h0]),Abm (by simpa using h0)];have:Cr b (j+1) p=([],(Da (b.drop p)).2):=by rw[Cr,Aau h6,Abm h0]
    rw[this];simp[h0]
def Bcb(b:List UInt8)(j p:Nat)(xs:List Int):List Int×Int:=if(Cr b j p).2=0 then(xs++(Cr b j p).1,0)else([],(Cr b j p).2)
theorem Az7(bk:Int->List Int->Option (List Int×Int))(b:List UInt8)(p:Nat)(hp:p<=b.length)(xs:List Int)(hx:xs.length<=4000)(hl:b.length<4611686018427387904):Xq (Qq bk b) b (p:Int) xs=Qq bk b (p:Int) xs (Da (b.drop p)).1 (Da (b.drop p)).2:=by
 have hf:=Axw (b.drop p) (by simp;omega);rw[Xq,Cb (by omega) (by omega),Aa,Afx,Bc5 _ (by simp;omega),Aa];by_cases h:(BU (b.drop p)).2=6
 ·simp[Da,h,Ar,hf]
 ·simp[Da,h,Ar]
theorem Ajl(b:List UInt8)(hl:b.length<4611686018427387904):∀(j p q:Nat) (xs:List Int),p<=b.length->p<=4000->b.length-p<j->j<=q->xs.length<=p->Qw b q (p:Int) xs=some (Bcb b j p xs)
 |0,p,q,_,_,_,h,_,_=>by omega
 |j+1,p,q,xs,hp,hp4,hj,hq,hx=>by
  obtain⟨q,rfl⟩:∃k,q=k+1:=⟨q-1,by omega⟩;rw[Qw,Az7 _ b p hp xs (by omega) hl,Qq,NC,Ar,Aj,Bcb];by_cases h6:(Da (b.drop p)).2=6
  ·rw[Abm (by simpa using h6)];have:Cr b (j+1) p=([],0):=by rw[Cr,Abm h6]
   rw[this];simp
  ·rw[Aau (by simpa using h6)];by_cases h0:(Da (b.drop p)).2=0
   ·have hz:Da (b.drop p)=((Da (b.drop p)).1,0):=by rw[Prod.ext_iff];exact⟨rfl,h0⟩
    have hs:=rI hz;rw[Agn]at hs;rw[Aau (by simpa using h0),Ah (by omega) (by omega),Aq];by_cases h4:4000<(p:Int)+(Da (b.drop p)).1
    ·rw[Abm (by simp;omega)];have:Cr b (j+1) p=([],4):=by rw[Cr,Aau h6,Aau (λh=>h h0),Abm h4]
     rw[this];simp
    ·rw[Aau (by simp;omega),Bi (by simp;omega),Aa];have ih:=Ajl b hl j (p+(Da (b.drop p)).1.toNat) q (xs++[(Da (b.drop p)).1]) (by omega) (by omega) (by omega) (by omega) (by simp;omega);rw[show(p:Int)+(Da (b.drop p)).1=((p+(Da (b.drop p)).1.toNat:Nat):Int) by omega,ih,Bcb];have:Cr b (j+1) p=if(Cr b j (p+(Da (b.drop p)).1.toNat)).2=0 then((Da (b.drop p)).1::(Cr b j (p+(Da (b.drop p)).1.toNat)).1,0)else([],(Cr b j (p+(Da (b.drop p)).1.toNat)).2):=by
      rw[Cr,Aau h6,Aau (λh=>h h0),Aau h4]
     rw[this];by_cases hr:(Cr b j (p+(Da (b.drop p)).1.toNat)).2=0
     ·simp only[hr,Bpq];simp
     ·simp only[hr,Bmy]
   ·rw[Abm (by simpa using h0)];have:Cr b (j+1) p=([],(Da (b.drop p)).2):=by rw[Cr,Aau h6,Abm h0]
    rw[this];simp[h0]
theorem Adt:∀{l:List Int},(∀x∈l,10<=x)->0<=l.sum/\ (l.length:Int)<=l.sum
 |[],_=>by simp
 |x::l,h=>by
  have h1:=h x Awp;have h2:=Adt (l:=l) λy hy=>h y (Anh _ hy);simp only[Azy,Apu];omega
theorem Af4(r:Int)(l:List Int)(hl:l.length<=4000)(hx:∀x∈l,10<=x):∀(j i q:Nat) (n:Int),i+j=l.length->j<q->0<=n->n+(l.drop i).sum<=4000->Lk r l q n (i:Int)=some (n+(l.drop i).sum,r)
 |0,i,q+1,n,hi,_,_,_=>by
  rw[Lk,Xz,Aau (by rw[Ae,Ac];simp;omega),show i=l.length by omega,Bla];simp[ND,OB]
 |j+1,i,q+1,n,hi,hq,hn,hs=>by
  have hlt:i<l.length:=by omega
  rw[drop_cons hlt,Azy]at hs⊢;have h1:=hx l[i] (Ap3 hlt);have h2:=Adt (l:=l.drop (i+1)) λy hy=>hx y (Blp hy);rw[Lk,Xz,Abm (by rw[Ae,Ac];simp;omega),Bn hlt,Aa,Aa,Ah (by omega) (by omega),Ah (by omega) (by omega)];have ih:=Af4 r l hl hx j (i+1) q (n+l[i]) (by omega) (by omega) (by omega) (by omega);rw[show((i:Int)+1)=((i+1:Nat):Int) by omega,ih];congr 2;omega
def Bs(b:List UInt8):Int×Int:=Aix b (b.length+1) 0
theorem Tz(b:List UInt8)(hl:b.length<4611686018427387904):Je b=some (Bs b):=by
 have:=Afc b hl (b.length+1) 0 Ax (by omega) (by omega) (by omega) (by have:=As;omega);exact this
theorem AY(b:List UInt8)(hl:b.length<4611686018427387904):Md b=some (Bs b):=by
 have h:=Ajl b hl (b.length+1) 0 Ax [] (by omega) (by omega) (by omega) (by have:=As;omega) (by simp);have h':bO b=some (Bcb b (b.length+1) 0 []):=h;rw[Md,MY,h',Aa,Bs,Aix,Bcb];have ho:=sZ b (b.length+1) 0 (by omega) (by omega);by_cases h0:(Cr b (b.length+1) 0).2=0
 ·obtain⟨i1,i2,i3⟩:=ho h0;have hp:=Adt i1;simp only[h0,Bpq,Aro];have:=Af4 0 (Cr b (b.length+1) 0).1 (by omega) i1 (Cr b (b.length+1) 0).1.length 0 Ax 0 (by omega) (by have:=As;omega) (by omega) (by simpa using i3);simpa [Yc]using this
 ·simp only[h0,Bmy];have:=Af4 (Cr b (b.length+1) 0).2 [] (by simp) (by simp) 0 0 Ax 0 (by simp) (by have:=As;omega) (by omega) (by simp);simpa [Yc]using this
theorem BB{b:List UInt8}(h:(Bs b).2=0):0<= (Bs b).1/\ (Bs b).1<=b.length/\ (Bs b).1<=4000:=by
 unfold Bs Aix at h⊢;split at h
 ·rename_i h0;rw[Abm h0];obtain⟨i1,i2,i3⟩:=sZ b (b.length+1) 0 (by omega) (by omega) h0;have hp:=Adt i1;exact⟨by simp;omega,i2,i3⟩
 ·rename_i h0;exact absurd h h0
def Ak(r:Nat):Nat:=max 1 (256*r/245)
theorem Ej(r:Nat):1<=Ak r:=Nat.le_max_left _ _
theorem aS{r:Nat}(h:r<=1048576):Ak r<=1100000:=by unfold Ak;omega
theorem Aeh{r:Nat}(h:r<=1048576):tP (1:Int) (Br (Bf (256:Int) (r:Int)) (245:Int))=(Ak r:Int):=by
 rw[Ez (by omega) (by omega),VA,Biz (by omega),Db (by omega) (by omega),Alv,Ak];omega
def Al(g n:Nat):List Int:=List.replicate ((n-1)/g) (g:Int)++[((n-(n-1)/g*g:Nat):Int)]
theorem HE(g n:Nat):(Al g n).length=(n-1)/g+1:=by simp[Al]
theorem tV{g n:Nat}(h:n<=g)(h1:1<=n):Al g n=[(n:Int)]:=by
 rw[Al,Bk6 (by omega)];simp
theorem Acu{g n:Nat}(hg:1<=g)(h:g<n):Al g n=(g:Int)::Al g (n-g):=by
 have e:(n-1)/g=(n-g-1)/g+1:=by rw[<-Nat.add_div_right _ (by omega)];congr 1;omega
 rw[Al,Al,e,Bis,Blm];congr 4;have:=Bit (n-g-1) g;rw[Al6,Be6];omega
theorem zJ{g n:Nat}(hg:1<=g)(h1:1<=n):(n+g-1)/g=(n-1)/g+1:=by
 rw[<-Nat.add_div_right _ (by omega)];congr 1;omega
theorem sY{r:Nat}(h1:1<=r)(h:r<=1048576):Oy (r:Int)=some ((Ak r:Int),0):=by
 rw[Oy,Aau (by simp[Ae,Aq];omega),Aeh h]
theorem Bbw{r:Nat}(h:r<=1048576):Ys (r:Int)=some (Ak r:Int):=by rw[Ys,Aeh h]
theorem jW{r n:Nat}(h1:1<=r)(h:r<=1048576)(n1:1<=n)(n2:n<=4000):Jv (r:Int) (n:Int)=some (if 1000<(n-1)/Ak r+1 then(0,4)else((((n-1)/Ak r+1:Nat):Int),0)):=by
 have hp:=Ej r;have hl:=aS h;have e:Br (Ao (Ad (n:Int) (Ak r:Int)) (1:Int)) (Ak r:Int)=(((n-1)/Ak r+1:Nat):Int):=by
  have:(n+Ak r-1)/Ak r<=n+Ak r-1:=Atr _ _;rw[Ah (by omega) (by omega),Bw (by omega) (by omega),VA,Biz (by omega),show(n:Int)+(Ak r:Int)-1=((n+Ak r-1:Nat):Int) by omega,<-Int.natCast_ediv,zJ hp n1];rw[zJ hp n1]at this;generalize(n-1)/Ak r=k at*
  exact Db (by omega) (by omega)
 rw[Jv,sY h1 h,Aa];simp only;rw[Aau (by rw[Aj];simp),Aau (by simp[Ae,Aq];omega),Bk (by rw[Aj];simp;omega),Aa,e];by_cases hk:1000<(n-1)/Ak r+1
 ·rw[Abm (by rw[Aq];simp;omega),Abm hk]
 ·rw[Aau (by rw[Aq];simp;omega),Aau hk]
theorem Ae9{r:Nat}(h:r<=1048576):∀(j n q:Nat) (acc:List Int),n<=4000->n<=j->j<q->acc.length+n<=10000->Gh (r:Int) q (n:Int) acc=some (acc++(if n=0 then []else Al (Ak r) n))
 |0,n,q+1,acc,hn,hj,hq,ha=>by
  obtain rfl:n=0:=by omega
  rw[Gh,Lu,Aau (by rw[Aq];simp)];simp[Qv,Qn]
 |j+1,n,q+1,acc,hn,hj,hq,ha=>by
  have hp:=Ej r;have hl:=aS h;by_cases h0:n=0
  ·subst h0;rw[Gh,Lu,Aau (by rw[Aq];simp)];simp[Qv,Qn]
  ·rw[Gh,Lu,Abm (by rw[Aq];simp;omega),Bbw h,Aa,Bi (by simp;omega),Aa,Aa,Bw (by omega) (by omega),OC];by_cases hs:n<=Ak r
   ·rw[show min (n:Int) (Ak r:Int)=(n:Int) by omega,Aau h0,tV hs (by omega)];have hz:∃k,q=k+1:=⟨q-1,by omega⟩;obtain⟨q,rfl⟩:=hz;rw[Gh,Lu,Aau (by rw[Aq];simp;omega)];simp[Qv,Qn]
   ·rw[show min (n:Int) (Ak r:Int)=(Ak r:Int) by omega,show(n:Int)-(Ak r:Int)=((n-Ak r:Nat):Int) by omega,Ae9 h j (n-Ak r) q _ (by omega) (by omega) (by omega) (by simp;omega),Aau (by omega),Aau h0,Acu hp (show Ak r<n by omega)];simp
theorem fY{r n:Nat}(h:r<=1048576)(n1:1<=n)(n2:n<=4000):Fu (r:Int) (n:Int)=some (Al (Ak r) n):=by
 have:=Ae9 h n n Ax [] n2 (Arj _) (by have:=As;omega) (by simp;omega);rw[Fu,NT,OA,this,Aau (by omega)];rfl
theorem mul_one(m:Nat)(h:m<=100000):QQ (1:UInt64) (UInt64.ofNat m)=some (0,UInt64.ofNat m):=by
 have y1:(UInt64.ofNat m).toNat=m:=bV (by omega);have s1:Ci (1:UInt64) (GI.toZ (32:UInt64)).toNat=0:=by decide
 have s2:Ci (UInt64.ofNat m) (GI.toZ (32:UInt64)).toNat=0:=by
  apply UInt64.toNat_inj.1;rw[HN,y1];exact Bk6 (Blj h (by decide))
 have s0:Ci (0:UInt64) (GI.toZ (32:UInt64)).toNat=0:=by decide
 have a1:Fa (1:UInt64) (4294967295:UInt64)=1:=by decide
 have a0:Fa (0:UInt64) (4294967295:UInt64)=0:=by decide
 have a2:Fa (UInt64.ofNat m) (4294967295:UInt64)=UInt64.ofNat m:=by
  apply UInt64.toNat_inj.1;rw[Ahn,UInt64.toNat_and,y1]
  show m&&& (2^32-1)=m;rw[Blu,Ac0 (by omega)]
 have m1:∀x:UInt64,Bf 1 x=x:=λx=>by rw[RY,UInt64.one_mul]
 have m0:∀x:UInt64,Bf 0 x=0:=λx=>by rw[RY,UInt64.zero_mul]
 have p0:∀x:UInt64,Ad 0 x=x:=λx=>by rw[RT,UInt64.zero_add]
 have p1:∀x:UInt64,Ad x 0=x:=λx=>by rw[RT,UInt64.add_zero]
 rw[QQ,VC];simp only[s1,s2,a1,a2,m1,m0,p0,p1,s0,a0,Aa]
theorem Ab0(v:Int)(m:Nat)(hm:m<=100000):∀(j n q:Nat),1<=n->n<=m->m-n<=j->j<q->Gd q (n:Int) (List.replicate n v++List.replicate (m-n) 0)=some (List.replicate m v)
 |j,n,q+1,hn,hnm,hj,hq=>by
  have hlen:Ac (List.replicate n v++List.replicate (m-n) 0)=(m:Int):=by simp[Ac];omega
  rw[Gd,Ip,hlen];by_cases h:n<m
  ·obtain⟨j,rfl⟩:∃k,j=k+1:=⟨j-1,by omega⟩;rw[Abm (by rw[Ae];simp;omega)];have v1:gS (m:Int) (n:Int) (m:Int)=some ():=by rw[gS,Bk];simp;omega
   have v2:gS (m:Int) (0:Int) (n:Int)=some ():=by rw[gS,Bk];simp;omega
   have e1:YV (List.replicate n v++List.replicate (m-n) 0) (0:Int) ((n:Int)-0)=List.replicate n v:=by
    simp[YV]
   rw[v1,Aa,v2,Aa,e1];have e2:bF ((m:Int)-(n:Int)) (List.replicate n v).length=((min n (m-n):Nat):Int):=by
    rw[bF,At7];split<;>omega
   have e3:Xt (List.replicate n v++List.replicate (m-n) 0) (n:Int) ((m:Int)-(n:Int)) (List.replicate n v)=List.replicate (n+min n (m-n)) v++List.replicate (m-(n+min n (m-n))) 0:=by
    have t1:((m:Int)-(n:Int)).toNat=m-n:=by omega
    have t2:(List.replicate n v++List.replicate (m-n) (0:Int)).take n=List.replicate n v:=by simp
    rw[Xt,t1,Afx,t2,List.take_replicate,At7,<-Amz,List.replicate_append_replicate,List.drop_append,At7,Nat.min_comm (m-n) n];simp only[List.drop_replicate];rw[show n-(n+min n (m-n))=0 by omega,List.replicate_zero,Aro,show m-n-(n+min n (m-n)-n)=m-(n+min n (m-n)) by omega]
   rw[e2,e3,Ah (by omega) (by omega),show(n:Int)+((min n (m-n):Nat):Int)=((n+min n (m-n):Nat):Int) by omega];exact Ab0 v m hm j (n+min n (m-n)) q (by omega) (by omega) (by omega) (by omega)
  ·rw[Aau (by rw[Ae];simp;omega)];obtain rfl:n=m:=by omega
   simp[Li,Ri]
theorem Ayr(v:Int)(m:Nat)(hm:m<=100000):Qp [v] (m:Int)=some (List.replicate m v):=by
 have y1:(UInt64.ofNat m).toNat=m:=bV (by omega);have c1:(Af (Ac [v]):UInt64)=1:=by rfl
 have c2:(Af (m:Int):UInt64)=UInt64.ofNat m:=Xi m;have c3:(Af (UInt64.ofNat m):Int)=(m:Int):=by rw[Aal (by omega),y1]
 rw[Qp,Sr,Aau (by rw[Ae];simp),So,Sn,c1,c2,mul_one m hm,Aa];simp only;rw[Aau (by rw[dE,dE,y1];simp;show m<=9223372036854775807;omega),Sm,Sj,c3,rA (by omega) (by omega),Aa,Bk (by rw[Ar];simp),Aa,Sy,Afx];by_cases h0:m=0
 ·subst h0;have hF:Ax=(Ax-1)+1:=by have:=As;omega
  rw[hF,Gd,Ip];simp[Ac,VH,bF,Ae,Li,Ri]
 ·have:=Ab0 v m hm m 1 Ax (by omega) (by omega) (by omega) (by have:=As;omega);have e1:bF (Ac (List.replicate m (0:Int))) [v].length=((1:Nat):Int):=by simp[bF,Ac];omega
  have e2:VH (List.replicate m (0:Int)) [v]=List.replicate 1 v++List.replicate (m-1) 0:=by
   obtain⟨k,rfl⟩:∃k,m=k+1:=⟨m-1,by omega⟩;simp[VH]
  rw[e1,e2,this]
theorem Azi(l m:List Int)(h:l.length+m.length<=1000000):Qt [l,m]=some (l++m):=by
 have hF:Ax=(Ax-3)+1+1+1:=by have:=As;omega
 rw[Qt,Tc,Tg];have g0:Ap [l,m] (0:Int)=some l:=rfl;have g1:Ap [l,m] (1:Int)=some m:=rfl;have l2:Ac [l,m]=2:=rfl;have h3:Lj [l,m] []=some (l++m):=by
  rw[Lj,Rf,Qy,hF,Fp,Hw,l2,Abm (by decide),g0,Aa,Bi (by simp;omega),Aa,Aro,show Ad (0:Int) 1=1 by decide,
   Fp,Hw,l2,Abm (by decide),g1,Aa,Bi (by omega),Aa,show Ad (1:Int) 1=2 by decide,Fp,Hw,l2,Aau (by decide)]
  rfl
 rw[hF,Gc,Im,l2,Abm (by decide),g0,Aa,Ah (by unfold Ac;omega) (by unfold Ac;omega),Aau (by rw[Ae,Ac];simp),show Ad (0:Int) 1=1 by decide,
  Gc,Im,l2,Abm (by decide),g1,Aa,Ah (by unfold Ac;omega) (by unfold Ac;omega),Aau (by rw[Ae,Ac,Ac];simp;omega),show Ad (1:Int) 1=2 by decide,
  Gc,Im,l2,Aau (by decide),Rb,Rj,Aau (by rw[Ae,Ac,Ac];simp;omega),Rh,Ra]
 have z:Ao (0:Int) 0=0:=by decide
 have n0:(0:Int)+Ac l+Ac m=((l.length+m.length:Nat):Int):=by simp[Ac]
 rw[z,n0,Bw (by omega) (by omega),Int.sub_zero];by_cases hp:0<l.length+m.length
 ·rw[Abm (by rw[Aq];simp;omega),show gS (0:Int) 0 0=some ()from rfl,Aa,rA (by omega) (by omega),Aa,Bi (by simp;omega),Aa];rw[show gS (Ac ([]++List.replicate ((l.length+m.length:Nat):Int).toNat (0:Int))) 0 0=some () by rw[gS,Bk];simp[Ac];omega,Aa];simp only[YV,Int.sub_self,Int.toNat_zero,Bix];exact h3
 ·rw[Aau (by rw[Aq];simp;omega)];exact h3
theorem An3{r n:Nat}(h1:1<=r)(h:r<=1048576)(n1:1<=n)(n2:n<=4000)(hk:(n-1)/Ak r+1<=1000):Zl (r:Int) (n:Int)=some (Al (Ak r) n,0):=by
 have hp:=Ej r;have hl:=aS h;have hd:=Bit (n-1) (Ak r);rw[Zl,jW h1 h n1 n2,Aau (by omega),Aa];simp only;rw[Aau (by rw[Aj];simp),sY h1 h,Aa];simp only;rw[Al];generalize(n-1)/Ak r=k at*
 have e1:Ao ((k+1:Nat):Int) 1=(k:Int):=by rw[Bw (by omega) (by omega)];omega
 have e2:(k:Int)*(Ak r:Int)=((k*Ak r:Nat):Int):=by simp
 rw[e1,Ayr _ _ (by omega),Aa,Ez (by rw[e2];omega) (by rw[e2];omega),e2,Bw (by omega) (by omega),aB,Azi _ _ (by simp;omega),Aa,Aa,show(n:Int)-((k*Ak r:Nat):Int)=((n-k*Ak r:Nat):Int) by omega]
def Gu(f c w r n:Nat):Bool:=decide ((f=1\/f=2)/\ (1<=c/\c<=6)/\ (w=8\/w=16\/w=24)/\ (1<=r/\r<=1048576)/\1<=n)
def BM(c r n:Nat):Bool:=decide (n<=4000/c/\ (n-1)/Ak r+1<=1000)
theorem cX(f c w r n:Nat):Sg (f:Int) (c:Int) (w:Int) (r:Int) (n:Int)=some (Gu f c w r n):=by
 have e2:Pn (f:Int) (c:Int) (w:Int) (r:Int) (n:Int)=some (decide ((f=1\/f=2)/\ (1<=c/\c<=6)/\ (1<=r/\r<=1048576)/\1<=n)):=by
  rw[Pn,OV];congr 1;rw[Ajs];simp only[Ar,Aq,VV,Adr,Baq,Aur,Acm];omega
 have g:∀k:Nat,geq (w:Int) (k:Int)=decide (w=k):=λk=>by rw[Ar,Ajs];simp;omega
 have g8:geq (w:Int) (8:Int)=decide (w=8):=g 8;have g16:geq (w:Int) (16:Int)=decide (w=16):=g 16;have g24:geq (w:Int) (24:Int)=decide (w=24):=g 24;rw[Sg,AZ,e2,g8,g16,g24,Gu];by_cases h8:w=8
 ·subst h8;simp
 ·by_cases h16:w=16
  ·subst h16;simp
  ·by_cases h24:w=24
   ·subst h24;simp
   ·simp[h8,h16,h24]
theorem wC(f c w r n:Nat):La (f:Int) (c:Int) (w:Int) (r:Int) (n:Int)=some (Gu f c w r n):=by
 rw[La,Gu];simp only[Ar,Dw,VV,Adr,Baq,Aur,Acm,Bof];split
 ·rename_i h;congr 1;rw[Ajs];simp only[Adr,Baq,Aur,Acm];omega
 ·rename_i h;congr 1;symm;rw[Ba2];omega
theorem Biu{c:Nat}(h:1<=c):Br (4000:Int) (c:Int)=((4000/c:Nat):Int):=by
 have:4000/c<=4000:=Atr _ _;rw[VA,Biz (by omega),show(4000:Int)=((4000:Nat):Int)from rfl,<-Int.natCast_ediv];generalize 4000/c=k at*
 exact Db (by omega) (by omega)
theorem sJ{f c w r n:Nat}(h:Gu f c w r n=true):TP (f:Int) (c:Int) (w:Int) (r:Int) (n:Int)=some (BM c r n):=by
 simp only[Gu,Acm]at h;have hd:4000/c<=4000:=Atr _ _;rw[TP,Bk (by rw[Aj];simp;omega),Aa,Biu (by omega),BM];generalize 4000/c=m at*
 by_cases h1:n<=m
 ·rw[Aau (by rw[Aq];simp;omega),jW (by omega) (by omega) (by omega) (by omega),Aa];generalize(n-1)/Ak r+1=k;by_cases h2:1000<k
  ·rw[Abm h2];simp[Ar,VV];omega
  ·rw[Aau h2];simp[Ar,VV,h1];omega
 ·rw[Abm (by rw[Aq];simp;omega)];simp[h1]
theorem Ahg{f c w r n:Nat}(h:Gu f c w r n=true):Yp (f:Int) (c:Int) (w:Int) (r:Int) (n:Int)=some (!BM c r n):=by
 simp only[Gu,Acm]at h;have hd:4000/c<=4000:=Atr _ _;rw[Yp,Bk (by rw[Aj];simp;omega),Aa,Biu (by omega),BM];generalize 4000/c=m at*
 by_cases h1:n<=m
 ·rw[Aau (by rw[Aq];simp;omega),fY (by omega) (by omega) (by omega),Aa,Ac,HE];generalize(n-1)/Ak r+1=k;congr 1;rw[Aq,Ajs];simp only[Acm,Azt,Ba2];omega
 ·rw[Abm (by rw[Aq];simp;omega)];simp[h1]
def BW:List UInt8:=[84,84,65,49]
def f0(b:List UInt8):Nat:=Fy (part b 4 2)
def f1(b:List UInt8):Nat:=Fy (part b 6 2)
def f2(b:List UInt8):Nat:=Fy (part b 8 2)
def f3(b:List UInt8):Nat:=Fy (part b 10 4)
def f4(b:List UInt8):Nat:=Fy (part b 14 4)
abbrev H6:=Int×Int×Int×Int×Int×Int
def Er(b:List UInt8):H6:=
 if b.take (min 4 b.length)≠BW.take (min 4 b.length)then(0,0,0,0,0,12)else if b.length<22 then(0,0,0,0,0,24)else
 if(Fx (b.take 18)).toNat≠Fy (part b 18 4)then(0,0,0,0,0,22)else
 if Gu (f0 b) (f1 b) (f2 b) (f3 b) (f4 b)=false then(0,0,0,0,0,12)else
 if BM (f1 b) (f3 b) (f4 b)=false then(0,0,0,0,0,4)else((f0 b:Int),(f1 b:Int),(f2 b:Int),(f3 b:Int),(f4 b:Int),0)
section
variable {b:List UInt8}
theorem rs1(h:b.take (min 4 b.length)≠BW.take (min 4 b.length)):Er b=(0,0,0,0,0,12):=by rw[Er,Abm h]
variable (h:b.take (min 4 b.length)=BW.take (min 4 b.length))
include h
theorem rs2(h2:b.length<22):Er b=(0,0,0,0,0,24):=by rw[Er,Aau (λe=>e h),Abm h2]
variable (h2:¬b.length<22)
include h2
theorem rs3(h3:(Fx (b.take 18)).toNat≠Fy (part b 18 4)):Er b=(0,0,0,0,0,22):=by rw[Er,Aau (λe=>e h),Aau h2,Abm h3]
variable (h3:(Fx (b.take 18)).toNat=Fy (part b 18 4))
include h3
theorem rs4(h4:Gu (f0 b) (f1 b) (f2 b) (f3 b) (f4 b)=false):Er b=(0,0,0,0,0,12):=by rw[Er,Aau (λe=>e h),Aau h2,Aau (λe=>e h3),Abm h4]
variable (h4:Gu (f0 b) (f1 b) (f2 b) (f3 b) (f4 b)=true)
include h4
theorem rs5(h5:BM (f1 b) (f3 b) (f4 b)=false):Er b=(0,0,0,0,0,4):=by rw[Er,Aau (λe=>e h),Aau h2,Aau (λe=>e h3),Aau (by rw[h4];simp),Abm h5]
theorem rs6(h5:BM (f1 b) (f3 b) (f4 b)=true):Er b=((f0 b:Int),(f1 b:Int),(f2 b:Int),(f3 b:Int),(f4 b:Int),0):=by rw[Er,Aau (λe=>e h),Aau h2,Aau (λe=>e h3),Aau (by rw[h4];simp),Aau (by rw[h5];simp)]
end
theorem Ba1(b:List UInt8)(h2:¬b.length<22):Bc (Af (Fx (b.take 18)):UInt64) (uT (part b 18 4))=decide ((Fx (b.take 18)).toNat≠Fy (part b 18 4)):=by
 rw[WS,Dr,Ajs];simp only[Bo3,ne_eq,Acm];rw[<-Bnx,bV (by have:=(Fx (b.take 18)).toNat_lt;omega),cC (by rw[Ey (by omega)];omega)]
theorem pR(b:List UInt8)(a w:Nat)(i q:Nat)(l:List Int)(hi:i<5)(hl:l.length=5)(hw:Ap ([2,2,2,4,4]:List Int) (i:Int)=some (w:Int))(h1:1<=w)(h4:w<=4)(ha:a+w<=b.length)(hb:b.length<4611686018427387904):
  Pr b (q+1) (a:Int) (i:Int) l=Pr b q ((a+w:Nat):Int) ((i+1:Nat):Int) (l.set i (Fy (part b a w):Int)):=by
 rw[Pr,JU,Abm (by rw[Ae];simp;omega),hw,Aa,Ajo b a w h1 (by omega) ha hb,Aa];simp only;rw[Bn (by omega),Aa,Ui _ (by omega),Aa,QV (by rw[Ey ha];omega),Ah (by omega) (by omega),Ah (by omega) (by omega)];rfl
theorem Bcf(b:List UInt8)(h22:¬b.length<22)(hb:b.length<4611686018427387904):IY b 4 0 (List.replicate 5 0)=JK [(f0 b:Int),(f1 b:Int),(f2 b:Int),(f3 b:Int),(f4 b:Int)]:=by
 have hF:Ax=(Ax-6)+1+1+1+1+1+1:=by have:=As;omega
 rw[IY,hF,show(4:Int)=((4:Nat):Int)from rfl,show(0:Int)=((0:Nat):Int)from rfl];rw[pR b 4 2 0 _ _ (by omega) (by simp) rfl (by omega) (by omega) (by omega) hb,pR b 6 2 1 _ _ (by omega) (by simp) rfl (by omega) (by omega) (by omega) hb,pR b 8 2 2 _ _ (by omega) (by simp) rfl (by omega) (by omega) (by omega) hb,
  pR b 10 4 3 _ _ (by omega) (by simp) rfl (by omega) (by omega) (by omega) hb,pR b 14 4 4 _ _ (by omega) (by simp) rfl (by omega) (by omega) (by omega) hb,Pr,JU,Aau (by rw[Ae];simp)]
 rfl
theorem Bn9(b:List UInt8):Kl [84,84,65,49] (b.take (min 4 b.length))=some (decide (b.take (min 4 b.length)=BW.take (min 4 b.length))):=by
 have hl:(b.take (min 4 b.length)).length=min 4 b.length:=by rw[Afz];omega
 rw[Kl,Hp,Abm (by rw[Dw,Ac,Ac,hl];simp;omega),Ac,hl,Dj (by omega) (by simp;omega),Aa,Aa,Afx];congr 1;rw[Ajs];rw[Acm,Aur];exact eq_comm
theorem Bmq(b:List UInt8):Fm (4:Int) (Ac b)=((min 4 b.length:Nat):Int):=by rw[OC,Ac];omega
theorem XX(b:List UInt8)(hb:b.length<4611686018427387904):Mz b=some (Er b):=by
 rw[Mz,ZY,Bmq,Dj (by omega) (by omega),Aa,Afx,Bn9,Aa];by_cases h:b.take (min 4 b.length)=BW.take (min 4 b.length)
 ·rw[Aau (by simpa using h)];by_cases h2:b.length<22
  ·rw[Abm (by rw[Ae,Ac];simp;omega),rs2 h h2]
  ·have a1:gZ b 18 4=some (uT (part b 18 4),0):=Ajo b 18 4 (by omega) (by omega) (by omega) hb;rw[Aau (by rw[Ae,Ac];simp;omega),a1,Aa];simp only;rw[Dj (by omega) (by omega),Aa,show(18:Int).toNat=18 from rfl,Aad _ (by simp;omega),Aa];simp only;rw[Ba1 b h2];by_cases h3:(Fx (b.take 18)).toNat=Fy (part b 18 4)
   ·rw[Aau (by simpa using h3),Bcf b h2 hb,JK,pH];rw[show Ap [(f0 b:Int),(f1 b:Int),(f2 b:Int),(f3 b:Int),(f4 b:Int)] 0=some (f0 b:Int)from rfl,show Ap [(f0 b:Int),(f1 b:Int),(f2 b:Int),(f3 b:Int),(f4 b:Int)] 1=some (f1 b:Int)from rfl,show Ap [(f0 b:Int),(f1 b:Int),(f2 b:Int),(f3 b:Int),(f4 b:Int)] 2=some (f2 b:Int)from rfl,
     show Ap [(f0 b:Int),(f1 b:Int),(f2 b:Int),(f3 b:Int),(f4 b:Int)] 3=some (f3 b:Int)from rfl,show Ap [(f0 b:Int),(f1 b:Int),(f2 b:Int),(f3 b:Int),(f4 b:Int)] 4=some (f4 b:Int)from rfl]
    simp only[Aa,cX];cases h4:Gu (f0 b) (f1 b) (f2 b) (f3 b) (f4 b)with
    |false=>rw[rs4 h h2 h3 h4];rfl
    |true=>
     rw[sJ h4,Aau (by simp),Aa];cases h5:BM (f1 b) (f3 b) (f4 b)with
     |false=>rw[rs5 h h2 h3 h4 h5];rfl
     |true=>rw[rs6 h h2 h3 h4 h5];rfl
   ·rw[Abm (by simpa using h3),rs3 h h2 h3]
 ·rw[Abm (by simpa using h),rs1 h]
theorem iN(b:List UInt8)(hb:b.length<4611686018427387904):Nj b=some (Er b):=by
 rw[Nj,SW,Bmq,Dj (by omega) (by omega),Aa,Afx,Dj (by omega) (by simp;omega),Aa,Afx];by_cases h:b.take (min 4 b.length)=BW.take (min 4 b.length)
 ·rw[Aau (by rw[h];simp[BW]),SG,SR];by_cases h2:b.length<22
  ·rw[Abm (by rw[Ae,Ac];simp;omega),rs2 h h2]
  ·have a1:Bq b 18 22=some (part b 18 4):=Rn 18 4 (by omega);have c1:Bq b 4 6=some (part b 4 2):=Rn 4 2 (by omega);have c2:Bq b 6 8=some (part b 6 2):=Rn 6 2 (by omega);have c3:Bq b 8 10=some (part b 8 2):=Rn 8 2 (by omega);have c4:Bq b 10 14=some (part b 10 4):=Rn 10 4 (by omega);have c5:Bq b 14 18=some (part b 14 4):=Rn 14 4 (by omega);have hs:Bc (uT (part b 18 4)) (Af (Fx (b.take 18)):UInt64)=decide ((Fx (b.take 18)).toNat≠Fy (part b 18 4)):=by
    rw[<-Ba1 b h2,WS,WS,Ajs];simp only[Bo3,ne_eq];exact not_congr eq_comm
   have lp:∀a w,a+w<=b.length->Ei (part b a w)=some (uT (part b a w)):=λa w h=>Anr _ (by rw[Ey h];omega);rw[Aau (by rw[Ae,Ac];simp;omega),a1,Aa,Dj (by omega) (by omega),Aa,show(18:Int).toNat=18 from rfl,lp _ _ (by omega),Aa,Bcy _ (by simp;omega),Aa,hs];by_cases h3:(Fx (b.take 18)).toNat=Fy (part b 18 4)
   ·rw[Aau (by simpa using h3),TI,SD,c1,Aa,c2,Aa,c3,Aa,c4,Aa,c5,Aa,lp _ _ (by omega),Aa,lp _ _ (by omega),Aa,lp _ _ (by omega),Aa,lp _ _ (by omega),Aa,lp _ _ (by omega),Aa,
     SC,TA,QV (by rw[Ey (by omega)];omega),QV (by rw[Ey (by omega)];omega),QV (by rw[Ey (by omega)];omega),QV (by rw[Ey (by omega)];omega),QV (by rw[Ey (by omega)];omega)]
    rw[show Fy (part b 4 2)=f0 b from rfl,show Fy (part b 6 2)=f1 b from rfl,show Fy (part b 8 2)=f2 b from rfl,show Fy (part b 10 4)=f3 b from rfl,show Fy (part b 14 4)=f4 b from rfl,wC,Aa];cases h4:Gu (f0 b) (f1 b) (f2 b) (f3 b) (f4 b)with
    |false=>rw[rs4 h h2 h3 h4];rfl
    |true=>
     rw[Ahg h4,Aau (by simp),Aa];cases h5:BM (f1 b) (f3 b) (f4 b)with
     |false=>rw[rs5 h h2 h3 h4 h5];rfl
     |true=>rw[rs6 h h2 h3 h4 h5];rfl
   ·rw[Abm (by simpa using h3),rs3 h h2 h3]
 ·rw[Abm (by simpa [BW]using h),rs1 h]
theorem oP{b:List UInt8}(h:(Er b).2.2.2.2.2=0):Er b=((f0 b:Int),(f1 b:Int),(f2 b:Int),(f3 b:Int),(f4 b:Int),0)/\22<=b.length/\Gu (f0 b) (f1 b) (f2 b) (f3 b) (f4 b)=true/\BM (f1 b) (f3 b) (f4 b)=true:=by
 unfold Er at h⊢;split at h; · simp at h
 rename_i c1;rw[Aau c1];split at h; · simp at h
 rename_i c2;rw[Aau c2];split at h; · simp at h
 rename_i c3;rw[Aau c3];split at h; · simp at h
 rename_i c4;rw[Aau c4];split at h; · simp at h
 rename_i c5;rw[Aau c5];exact⟨rfl,by omega,by simpa using c4,by simpa using c5⟩
theorem oL{f c w r n:Nat}(h:Gu f c w r n=true)(h2:BM c r n=true):Ds (f:Int) (c:Int) (w:Int) (r:Int) (n:Int)=some (Al (Ak r) n,0):=by
 have hc:On (f:Int) (c:Int) (w:Int) (r:Int) (n:Int)=some 0:=by
  rw[On,cX,Aa,h,Aau (by simp),sJ h,Aa,h2];rfl
 have hd:4000/c<=4000:=Atr _ _;simp only[Gu,Acm]at h;simp only[BM,Acm]at h2;rw[Ds,hc,Aa,Aau (by rw[Aj];simp),An3 (by omega) (by omega) (by omega) (by omega) h2.2];rfl
def okL:List Int->Int->Bool
 |[],_=>true
 |x::l,left=>decide (5<=x/\x<=left)&&okL l (left-x)
theorem Att:∀l:List Int,(∀x∈l,5<=x)->0<=l.sum
 |[],_=>by simp
 |x::l,h=>by
  have h1:=h x Awp;have h2:=Att l λy hy=>h y (Anh _ hy);rw[Azy];omega
theorem KS:∀(l:List Int) (left:Int),0<=left-> (okL l left=true↔(∀x∈l,5<=x)/\l.sum<=left)
 |[],left,h=>by simp[okL];exact h
 |x::l,left,h=>by
  rw[okL,Adr,Acm,Azy];by_cases hx:5<=x/\x<=left
  ·rw[KS l (left-x) (by omega)];constructor
   ·rintro⟨_,h1,h2⟩;exact⟨λy hy=>(List.mem_cons.1 hy).elim (λe=>e▸hx.1) (h1 y),by omega⟩
   ·rintro⟨h1,h2⟩;exact⟨hx,λy hy=>h1 y (Anh _ hy),by omega⟩
  ·constructor
   ·rintro⟨h1,_⟩;exact absurd h1 hx
   ·rintro⟨h1,h2⟩;have h3:=h1 x Awp;have:0<=l.sum:=Att l λy hy=>h1 y (Anh _ hy);omega
theorem Ahb(l:List Int)(hl:l.length<=1000):∀(j i q:Nat) (left:Int),i+j=l.length->j<q->0<=left->left<=100000->Uq l q left (i:Int)=some (if okL (l.drop i) left=true then 0 else 8)
 |0,i,q+1,left,hi,_,_,_=>by
  rw[Uq,ME,Aau (by rw[Ae,Ac];simp;omega),show i=l.length by omega,Bla];rfl
 |j+1,i,q+1,left,hi,hq,h0,h1=>by
  have hlt:i<l.length:=by omega
  rw[Uq,ME,Abm (by rw[Ae,Ac];simp;omega),Bn hlt,Aa,drop_cons hlt];by_cases h:5<=l[i]/\l[i]<=left
  ·rw[Aau (by simp[Ae,Aq];omega),Bw (by omega) (by omega),Ah (by omega) (by omega)];have ih:=Ahb l hl j (i+1) q (left-l[i]) (by omega) (by omega) (by omega) (by omega);rw[show((i:Int)+1)=((i+1:Nat):Int) by omega,ih];simp[okL,h]
  ·rw[Abm (by simp[Ae,Aq];omega)];have:okL (l[i]::l.drop (i+1)) left=false:=by rw[okL,Bib h];rfl
   rw[this];rfl
def Zg(l:List Int):Bool:=decide (1<=l.length/\l.length<=1000)&&okL l 100000
theorem Alw(l:List Int)(hl:l.length<=1000):Rr l=some (if Zg l=true then 0 else 8):=by
 rw[Rr,MP,Zg];by_cases h:1<=l.length
 ·rw[Aau (by rw[Ar,Aq,Ac];simp;constructor;(intro e;subst e;simp at h);omega),aZ];have:=Ahb l hl l.length 0 Ax 100000 (by omega) (by have:=As;omega) (by omega) (by omega);rw[List.drop_zero]at this;rw[Bjs (show 1<=l.length/\l.length<=1000 from⟨h,hl⟩),Bmh];exact this
 ·have:l=[]:=by
   cases l with
   |nil=>rfl
   |cons _ _=>simp at h
  subst this;rfl
theorem Ajf(l:List Int)(hl:l.length<=1000):∀(j i q:Nat) (s:Int),i+j=l.length->j<q->0<=s->s<=100000*(i:Int)->Ls l q s (i:Int)=some (if(∀x∈l.drop i,5<=x/\x<=100000)/\s+(l.drop i).sum<=100000 then 0 else 8)
 |0,i,q+1,s,hi,_,_,_=>by
  rw[Ls,Xx,Aau (by rw[Ae,Ac];simp;omega),show i=l.length by omega,Bla,IQ,KU];by_cases h:s<=100000
  ·rw[Aau (by rw[Aq];simp;omega),Abm (by simp;omega)]
  ·rw[Abm (by rw[Aq];simp;omega),Aau (by simp;omega)]
 |j+1,i,q+1,s,hi,hq,h0,h1=>by
  have hlt:i<l.length:=by omega
  rw[Ls,Xx,Abm (by rw[Ae,Ac];simp;omega),Bn hlt,Aa,drop_cons hlt];by_cases h5:l[i]<5
  ·rw[Abm (by rw[Ae];simpa using h5),Aau (λh=>by have:=(h.1 l[i] Awp).1;omega)]
  ·rw[Aau (by rw[Ae];simpa using h5),Aa];by_cases h6:100000<l[i]
   ·rw[Abm (by rw[Aq];simpa using h6),Aau (λh=>by have:=(h.1 l[i] Awp).2;omega)]
   ·rw[Aau (by rw[Aq];simpa using h6),NS,NX,Bn hlt,Aa,Ah (by omega) (by omega),Ah (by omega) (by omega)];have ih:=Ajf l hl j (i+1) q (s+l[i]) (by omega) (by omega) (by omega) (by omega);rw[show((i:Int)+1)=((i+1:Nat):Int) by omega,ih];have e:((∀x∈l.drop (i+1),5<=x/\x<=100000)/\s+l[i]+(l.drop (i+1)).sum<=100000)↔((∀x∈l[i]::l.drop (i+1),5<=x/\x<=100000)/\s+(l[i]::l.drop (i+1)).sum<=100000):=by
     rw[Azy,List.forall_mem_cons,Bpb];constructor
     ·rintro⟨a,b⟩;exact⟨⟨by omega,a⟩,b⟩
     ·rintro⟨⟨_,a⟩,b⟩;exact⟨a,b⟩
    simp only[e]
theorem Aes:∀{l:List Int},(∀x∈l,5<=x)->∀x∈l,x<=l.sum
 |[],_,x,hx=>by simp at hx
 |y::l,h,x,hx=>by
  have h1:=h y Awp;have h2:=Att l λz hz=>h z (Anh _ hz);rw[Azy];rcases List.mem_cons.1 hx with rfl|hx
  ·omega
  ·have:=Aes (l:=l) (λz hz=>h z (Anh _ hz)) x hx;omega
theorem Aqv(l:List Int)(hl:l.length<=1000):Iz l=some (if Zg l=true then 0 else 8):=by
 rw[Iz,Yg,Zg];by_cases h:1<=l.length
 ·have:=Ajf l hl l.length 0 Ax 0 (by omega) (by have:=As;omega) (by omega) (by omega);rw[Aau (by rw[Ae,Aq,Ac];simp;omega),NF];refine Bjl this ?_;rw[List.drop_zero,Bjs (show 1<=l.length/\l.length<=1000 from⟨h,hl⟩),Bmh];have e:((∀x∈l,5<=x/\x<=100000)/\0+l.sum<=100000)↔okL l 100000=true:=by
   rw[KS l 100000 (by omega),Int.zero_add];constructor
   ·rintro⟨a,b⟩;exact⟨λx hx=>(a x hx).1,b⟩
   ·rintro⟨a,b⟩;exact⟨λx hx=>⟨a x hx,Int.le_trans (Aes a x hx) b⟩,b⟩
  simp only[e]
 ·have:l=[]:=by
   cases l with
   |nil=>rfl
   |cons _ _=>simp at h
  subst this;rfl
theorem aN(l:List Int):Rr l=some (if Zg l=true then 0 else 8):=by
 by_cases hl:l.length<=1000
 ·exact Alw l hl
 ·rw[Rr,MP,Abm (by rw[Aq,Ac];simp;omega),Zg,Bib (by omega)];rfl
theorem fH(l:List Int):Iz l=some (if Zg l=true then 0 else 8):=by
 by_cases hl:l.length<=1000
 ·exact Aqv l hl
 ·rw[Iz,Yg,Abm (by rw[Aq,Ac];simp;omega),Zg,Bib (by omega)];rfl
theorem Asx(l:List Int)(hl:l.length<=1000)(hx:∀x∈l,0<=x/\x<4294967296):Rr l=some (if Zg l=true then 0 else 8):=aN l
theorem Ay3(l:List Int)(hl:l.length<=1000)(hx:∀x∈l,0<=x/\x<4294967296):Iz l=some (if Zg l=true then 0 else 8):=fH l
def XG(b:List UInt8)(n:Nat):List Int:=(List.range n).map λi=>(Fy (part b (4*i) 4):Int)
theorem Wy(b:List UInt8)(n:Nat):(XG b n).length=n:=by simp[XG]
theorem Aj6(b:List UInt8)(n:Nat):XG b (n+1)=XG b n++[(Fy (part b (4*n) 4):Int)]:=by simp[XG,List.range_succ]
theorem Aul(b:List UInt8)(n:Nat)(h:4*n<=b.length):∀x∈XG b n,0<=x/\x<4294967296:=by
 intro x hx;simp only[XG,List.mem_map,List.mem_range]at hx;obtain⟨i,hi,rfl⟩:=hx;have:=Awk (l:=part b (4*i) 4) (by rw[Ey (by omega)];omega);omega
def Eo(b:List UInt8)(n:Nat):List Int×Int:=
 if ¬(1<=n/\n<=1000)then([],2)else if b.length<4*n+4 then([],24)else if(Fx (b.take (4*n))).toNat≠Fy (part b (4*n) 4)then([],22)else
 if Zg (XG b n)=true then(XG b n,0)else([],12)
theorem Au3{b:List UInt8}{n:Nat}(h:1<=n/\n<=1000)(h2:¬b.length<4*n+4):Bc (Af (Fx (b.take (4*n))):UInt64) (uT (part b (4*n) 4))=decide ((Fx (b.take (4*n))).toNat≠Fy (part b (4*n) 4)):=by
 rw[WS,Dr,Ajs];simp only[Bo3,ne_eq,Acm];rw[<-Bnx,bV (by have:=(Fx (b.take (4*n))).toNat_lt;omega),cC (by rw[Ey (by omega)];omega)]
section
variable {b:List UInt8} {n:Nat}
theorem ss1(h:¬(1<=n/\n<=1000)):Eo b n=([],2):=by rw[Eo,Abm h]
variable (h:1<=n/\n<=1000)
include h
theorem ss2(h2:b.length<4*n+4):Eo b n=([],24):=by rw[Eo,Aau (λe=>e h),Abm h2]
variable (h2:¬b.length<4*n+4)
include h2
theorem ss3(h3:(Fx (b.take (4*n))).toNat≠Fy (part b (4*n) 4)):Eo b n=([],22):=by rw[Eo,Aau (λe=>e h),Aau h2,Abm h3]
theorem ss4(h3:(Fx (b.take (4*n))).toNat=Fy (part b (4*n) 4)):Eo b n=if Zg (XG b n)=true then(XG b n,0)else([],12):=by rw[Eo,Aau (λe=>e h),Aau h2,Aau (λe=>e h3)]
end
theorem Akn(b:List UInt8)(l8:List Int)(n:Nat)(hn:n<=1000)(h8:l8.length=n)(hb:4*n+4<=b.length)(hb2:b.length<4611686018427387904):∀(j i q:Nat),i+j=n->j<q->Xa b l8 q (i:Int) (XG b i++List.replicate j 0)=QX (XG b n)
 |0,i,q+1,hi,_=>by
  obtain rfl:i=n:=by omega
  rw[Xa,QS,Aau (by rw[Ae,Ac];simp;omega)];simp
 |j+1,i,q+1,hi,hq=>by
  have hlen:(XG b i++List.replicate (j+1) 0).length=i+(j+1):=by simp[Wy]
  have ha:=Ajo b (4*i) 4 (by omega) (by omega) (by omega) hb2;rw[Xa,QS,Abm (by rw[Ae,Ac];simp;omega),Ez (by omega) (by omega),show(4:Int)*(i:Int)=((4*i:Nat):Int) by omega,show(4:Int)=((4:Nat):Int)from rfl,ha,Aa];simp only;rw[Bn (by rw[hlen];omega),Aa,Ui _ (by rw[hlen];omega),Aa,QV (by rw[Ey (by omega)];omega),Ah (by omega) (by omega),Bis,kI (Wy _ _)];have ih:=Akn b l8 n hn h8 hb hb2 j (i+1) q (by omega) (by omega);rw[Aj6]at ih;rw[show((i:Int)+1)=((i+1:Nat):Int) by omega,<-ih];simp
theorem rS(b:List UInt8)(n:Nat)(hb:b.length<=100100):FI b (n:Int)=some (Eo b n):=by
 rw[FI,fF];by_cases h:1<=n/\n<=1000
 ·rw[Aau (by simp[Ae,Aq];omega),Ez (by omega) (by omega),Ah (by omega) (by omega)];by_cases h2:b.length<4*n+4
  ·rw[Abm (by rw[Ae,Ac];simp;omega),ss2 h h2]
  ·have ha:gZ b (4*(n:Int)) 4=some (uT (part b (4*n) 4),0):=by
    rw[show(4:Int)*(n:Int)=((4*n:Nat):Int) by omega];exact Ajo b (4*n) 4 (by omega) (by omega) (by omega) (by omega)
   rw[Aau (by rw[Ae,Ac];simp;omega),ha,Aa];simp only;rw[Dj (by omega) (by omega),Aa,show(4*(n:Int)).toNat=4*n by omega,Aad _ (by simp;omega),Aa];simp only;rw[Au3 h h2];by_cases h3:(Fx (b.take (4*n))).toNat=Fy (part b (4*n) 4)
   ·have hlp:=Akn b (List.replicate n 0) n (by omega) (by simp) (by omega) (by omega) n 0 Ax (by omega) (by have:=As;omega);rw[Aau (by simpa using h3),rA (by omega) (by omega),Aa,Bk (by rw[Ar];simp),Aa,eX,Afx];refine Bjl (hlp) ?_;rw[QX,uO,Asx _ (by rw[Wy];omega) (Aul b n (by omega)),Aa,ss4 h h2 h3];cases Zg (XG b n)<;>rfl
   ·rw[Abm (by simpa using h3),ss3 h h2 h3]
 ·rw[Abm (by simp[Ae,Aq];omega),ss1 h]
theorem uP(b:List UInt8)(n:Nat)(hn:n<=1000)(hb:4*n+4<=b.length)(hb2:b.length<4611686018427387904):∀(j i q:Nat),i+j=n->j<q->Nc b (n:Int) q (i:Int) (XG b i)=Zt (XG b n)
 |0,i,q+1,hi,_=>by
  obtain rfl:i=n:=by omega
  rw[Nc,AE,Aau (by rw[Ae];simp)]
 |j+1,i,q+1,hi,hq=>by
  have hc:Bq b ((4:Int)*(i:Int)) ((4:Int)*(i:Int)+4)=some (part b (4*i) 4):=by
   rw[show(4:Int)*(i:Int)=((4*i:Nat):Int) by omega];exact Rn (4*i) 4 (by omega)
  rw[Nc,AE,Abm (by rw[Ae];simp;omega),Ez (by omega) (by omega),Ah (by omega) (by omega),hc,Aa,Anr _ (by rw[Ey (by omega)];omega),Aa,Bi (by rw[Wy];simp;omega),Aa,
   QV (by rw[Ey (by omega)];omega),Ah (by omega) (by omega),<-Aj6]
  exact uP b n hn hb hb2 j (i+1) q (by omega) (by omega)
theorem Agi(b:List UInt8)(n:Nat)(hb:b.length<=100100):Ru b (n:Int)=some (Eo b n):=by
 rw[Ru,SB];by_cases h:1<=n/\n<=1000
 ·rw[Aau (by simp[Ae,Aq];omega),Ez (by omega) (by omega),Ah (by omega) (by omega)];by_cases h2:b.length<4*n+4
  ·rw[Abm (by rw[Ae,Ac];simp;omega),ss2 h h2]
  ·have hc:Bq b ((4:Int)*(n:Int)) ((4:Int)*(n:Int)+4)=some (part b (4*n) 4):=by
    rw[show(4:Int)*(n:Int)=((4*n:Nat):Int) by omega];exact Rn (4*n) 4 (by omega)
   have hs:Bc (uT (part b (4*n) 4)) (Af (Fx (b.take (4*n))):UInt64)=decide ((Fx (b.take (4*n))).toNat≠Fy (part b (4*n) 4)):=by
    rw[<-Au3 h h2,WS,WS,Ajs];simp only[Bo3,ne_eq];exact not_congr eq_comm
   rw[Aau (by rw[Ae,Ac];simp;omega),hc,Aa,Dj (by omega) (by omega),Aa,show(4*(n:Int)).toNat=4*n by omega,Anr _ (by rw[Ey (by omega)];omega),Aa,Bcy _ (by simp;omega),Aa,hs];by_cases h3:(Fx (b.take (4*n))).toNat=Fy (part b (4*n) 4)
   ·have hlp:=uP b n (by omega) (by omega) (by omega) n 0 Ax (by omega) (by have:=As;omega);rw[Aau (by simpa using h3),SX,RG,SZ];refine Bjl hlp ?_;rw[Zt,SF,Ay3 _ (by rw[Wy];omega) (Aul b n (by omega)),Aa,ss4 h h2 h3];cases Zg (XG b n)<;>rfl
   ·rw[Abm (by simpa using h3),ss3 h h2 h3]
 ·rw[Abm (by simp[Ae,Aq];omega),ss1 h]
theorem gA{b:List UInt8}{n:Nat}(h:(Eo b n).2=0):Eo b n=(XG b n,0)/\1<=n/\n<=1000/\4*n+4<=b.length/\ (∀x∈XG b n,5<=x)/\ (XG b n).sum<=100000:=by
 unfold Eo at h⊢;split at h; · simp at h
 rename_i c1;rw[Aau c1];split at h; · simp at h
 rename_i c2;rw[Aau c2];split at h; · simp at h
 rename_i c3;rw[Aau c3];split at h
 ·rename_i c4;rw[Abm c4];have c4':=c4;rw[Zg,Adr,KS _ _ (by omega)]at c4';exact⟨rfl,by omega,by omega,by omega,c4'.2.1,c4'.2.2⟩
 ·simp at h
def Ii(b:List UInt8):List UInt8:=b.drop (Bs b).1.toNat
abbrev Op8:=Int×Int×Int×Int×Int×Int×(List Int)×Int
def bQ(e:Int):Op8:=(0,0,0,0,0,0,[],e)
theorem Ag5(A K:Nat)(h:A<=200000)(hk:K<=1000):Ad (Ad (A:Int) (Bf 4 (K:Int))) 4=((A+4*K+4:Nat):Int):=by
 rw[Ez (by omega) (by omega),Ah (a:=(A:Int)) (by omega) (by omega),Ah (by omega) (by omega)];omega
theorem Aa8{f c w r n:Nat}(h1:Gu f c w r n=true)(h2:BM c r n=true)(b:List UInt8)(hb:b.length<=100100)(A:Nat)(hA:A<=b.length):
  Ud b (f:Int) (c:Int) (w:Int) (r:Int) (n:Int) (A:Int)=
   some (if(Eo (b.drop A) (Al (Ak r) n).length).2≠0 then bQ (Eo (b.drop A) (Al (Ak r) n).length).2 else((f:Int),(c:Int),(w:Int),(r:Int),(n:Int),((A+4*(Al (Ak r) n).length+4:Nat):Int),(Eo (b.drop A) (Al (Ak r) n).length).1,0)):=by
 rw[Ud,qY,oL h1 h2,Aa];simp only;rw[Aau (by rw[Aj];simp),Cb (by omega) (by omega),Aa,Ac,show(A:Int).toNat=A from rfl,rS _ _ (by simp;omega),Aa];by_cases h:(Eo (b.drop A) (Al (Ak r) n).length).2≠0
 ·rw[Abm h,Abm (by rw[Aj];simpa using h)];rfl
 ·have h0:(Eo (b.drop A) (Al (Ak r) n).length).2=0:=by simpa using h
  obtain⟨g1,g2,g3,g4,g5,g6⟩:=gA h0;have gl:(Eo (b.drop A) (Al (Ak r) n).length).1.length=(Al (Ak r) n).length:=by rw[g1];exact Wy _ _
  rw[Aau h,Aau (by rw[Aj];simpa using h),Ac,gl,Ag5 _ _ (by omega) (by omega)]
theorem Bbt{f c w r n:Nat}(h1:Gu f c w r n=true)(h2:BM c r n=true)(b:List UInt8)(hb:b.length<=100100)(A:Nat)(hA:A<=b.length):
  Pc b (f:Int) (c:Int) (w:Int) (r:Int) (n:Int) (A:Int)=
   some (if(Eo (b.drop A) (Al (Ak r) n).length).2≠0 then bQ (Eo (b.drop A) (Al (Ak r) n).length).2 else((f:Int),(c:Int),(w:Int),(r:Int),(n:Int),((A+4*(Al (Ak r) n).length+4:Nat):Int),(Eo (b.drop A) (Al (Ak r) n).length).1,0)):=by
 have hs:(1<=r/\r<=1048576)/\1<=n/\1<=c:=by
  simp only[Gu,Acm]at h1;omega
 have hf:n<=4000:=by
  simp only[BM,Acm]at h2;have:=Atr 4000 c;omega
 rw[Pc,HO,Cb (by omega) (by omega),Aa,fY hs.1.2 hs.2.1 hf,Aa,Ac,show(A:Int).toNat=A from rfl,Agi _ _ (by simp;omega),Aa];simp only;rw[KG,IA];by_cases h:(Eo (b.drop A) (Al (Ak r) n).length).2≠0
 ·rw[Abm h,Abm (by rw[Aj];simpa using h)];rfl
 ·have h0:(Eo (b.drop A) (Al (Ak r) n).length).2=0:=by simpa using h
  obtain⟨g1,g2,g3,g4,g5,g6⟩:=gA h0;have gl:(Eo (b.drop A) (Al (Ak r) n).length).1.length=(Al (Ak r) n).length:=by rw[g1];exact Wy _ _
  rw[Aau h,Aau (by rw[Aj];simpa using h),Ac,gl,Ag5 _ _ (by omega) (by omega)]
structure Opn (b p:List UInt8) (f c w r n A:Nat) (l:List Int):Prop where
 prog:Eb b p=some ((f:Int),(c:Int),(w:Int),(r:Int),(n:Int),(A:Int),l,0)
 ref:Fg b p=some ((f:Int),(c:Int),(w:Int),(r:Int),(n:Int),(A:Int),l,0)
 pass:p.length<=64
 file:b.length<=100000
 shape:Gu f c w r n=true
 fit:BM c r n=true
 len:l.length=(Al (Ak r) n).length
 some1:1<=l.length/\l.length<=1000
 five:∀x∈l,5<=x
 sum:l.sum<=100000
 at':A<=b.length
 tag:(Bs b).2=0
 head:Er (Ii b)=((f:Int),(c:Int),(w:Int),(r:Int),(n:Int),0)
 tab:Eo (b.drop ((Bs b).1.toNat+22+(if f=2 then 8 else 0))) l.length=(l,0)
 pos:A=(Bs b).1.toNat+22+(if f=2 then 8 else 0)+4*l.length+4
theorem Adw(b p:List UInt8)(hb:b.length<=100100)(hp:p.length<=64):
  (∃e:Int,e≠0/\Eb b p=some (bQ e)/\Fg b p=some (bQ e))\/ (∃f c w r n A l,Opn b p f c w r n A l):=by
 by_cases h1:100000<b.length
 ·refine .inl ⟨4,by omega,?_,?_⟩
  ·rw[Eb,AP,Aau (by rw[Aq,Ac];simp;omega),Abm (by rw[Aq,Ac];simp;omega)];rfl
  ·rw[Fg,Vv,Abm (by rw[Aq,Ac];simp;omega)];rfl
 have hP:Eb b p=Eb b p:=rfl;have hR:Fg b p=Fg b p:=rfl
 conv at hP=>rhs;rw[Eb,AP,Aau (by rw[Aq,Ac];simp;omega),Aau (by rw[Aq,Ac];simp;omega),Tz b (by omega),Aa]
 conv at hR=>rhs;rw[Fg,Vv,Aau (by rw[Aq,Ac];simp;omega),AY b (by omega),Aa]
 by_cases h2:(Bs b).2=0
 ·obtain⟨p0,p1,p2⟩:=BB h2;have hc:=Cb (l:=b) p0 p1;simp only[h2]at hP hR;rw[Aau (by rw[Aj];simp),hc,Aa,show b.drop (Bs b).1.toNat=Ii b from rfl,XX _ (by simp[Ii];omega),Aa]at hP;rw[Aau (by rw[Aj];simp),hc,Aa,show b.drop (Bs b).1.toNat=Ii b from rfl,iN _ (by simp[Ii];omega),Aa]at hR;by_cases h3:(Er (Ii b)).2.2.2.2.2=0
  ·obtain⟨g1,g2,g3,g4⟩:=oP h3;have hlen:(Ii b).length=b.length-(Bs b).1.toNat:=by simp[Ii]
   generalize hF:(Bs b).1.toNat=F at*
   have hF':(Bs b).1=(F:Int):=by omega
   rw[g1,hF']at hP hR;simp only at hP hR;generalize f0 (Ii b)=f at*
   generalize f1 (Ii b)=c at*
   generalize f2 (Ii b)=w at*
   generalize f3 (Ii b)=r at*
   generalize f4 (Ii b)=n at*
   have t22:Ad (F:Int) 22=((F+22:Nat):Int):=by rw[Ah (by omega) (by omega)];omega
   have t30:Ad ((F+22:Nat):Int) 8=((F+30:Nat):Int):=by rw[Ah (by omega) (by omega)];omega
   have Bnn:f=1\/f=2:=by simp only[Gu,Acm]at g3;omega
   rw[Aau (by rw[Aj];simp),t22,t30]at hP hR;have hend:∀A:Nat,A<=b.length->A=F+22+(if f=2 then 8 else 0)->Eb b p=Ud b (f:Int) (c:Int) (w:Int) (r:Int) (n:Int) (A:Int)->Fg b p=Pc b (f:Int) (c:Int) (w:Int) (r:Int) (n:Int) (A:Int)->
     (∃e:Int,e≠0/\Eb b p=some (bQ e)/\Fg b p=some (bQ e))\/ (∃f c w r n A l,Opn b p f c w r n A l):=by
    intro A hA hA2 e1 e2;rw[Aa8 g3 g4 b hb A hA]at e1;rw[Bbt g3 g4 b hb A hA]at e2;by_cases h:(Eo (b.drop A) (Al (Ak r) n).length).2≠0
    ·rw[Abm h]at e1 e2;exact .inl ⟨_,h,e1,e2⟩
    ·have h0:(Eo (b.drop A) (Al (Ak r) n).length).2=0:=by simpa using h
     obtain⟨k1,k2,k3,k4,k5,k6⟩:=gA h0;have gl:(Eo (b.drop A) (Al (Ak r) n).length).1.length=(Al (Ak r) n).length:=by rw[k1];exact Wy _ _
     rw[Aau h]at e1 e2;rw[Agn]at k4;refine .inr ⟨f,c,w,r,n,_,_,⟨e1,e2,hp,by omega,g3,g4,gl,by omega,by rw[k1];exact k5,by rw[k1];exact k6,by omega,h2,g1,by rw[gl,hF,<-hA2];exact Prod.ext rfl h0,by rw[gl,hF,<-hA2]⟩⟩
   by_cases MU:((p==([]:List UInt8)) !=(geq (f:Int) (1:Int)))=true
   ·rw[Abm MU]at hP hR;exact .inl ⟨26,by omega,hP,hR⟩
   ·rw[Aau MU]at hP hR;have hpf:(p=[]↔f=1):=by
     rw[Ar]at MU;have h5:(p==([]:List UInt8))=((f:Int)==1):=by simpa using MU
     have h6:(p==([]:List UInt8))=true↔((f:Int)==1)=true:=by rw[h5]
     rw[Aur,Aur]at h6;rw[h6];omega
    by_cases h5:f=2
    ·have Azw:p≠ []:=λe=>by have:=hpf.1 e;omega
     have h64:(p !=([]:List UInt8))=true:=by simpa using Azw
     rw[Abm h64]at hP;rw[Abm (by rw[Ar,h5];rfl),Bw (by rw[Ac];omega) (by rw[Ac];omega)]at hR;by_cases h6:b.length<F+30
     ·rw[Abm (by rw[Ae,Ac];simp;omega)]at hP hR;exact .inl ⟨24,by omega,hP,hR⟩
     ·have hseg:((b.take (F+30)).drop (F+22)).length=8:=by simp;omega
      rw[Aau (by rw[Ae,Ac];simp;omega),Wd (by omega) (by omega) (by omega),Aa]at hP hR;rw[Ou,iR p hp,Aa]at hP;rw[iJ p hp,Aa]at hR;simp only at hP;rw[Aau (by rw[Aj,Aj,Ac,Ac,Ef,show((F+30:Nat):Int).toNat=F+30 from rfl,show((F+22:Nat):Int).toNat=F+22 from rfl,hseg];simp),If,Aa,Aa]at hP;simp only at hP;rw[Aau (by rw[Aj];simp)]at hP;generalize(b.take ((F+30:Nat):Int).toNat).drop ((F+22:Nat):Int).toNat=tE at*
      by_cases h7:tE=Xf (Ws p).toNat 8
      ·rw[Aau (by simp[h7])]at hP;rw[Aau (by simp[h7])]at hR;exact hend (F+30) (by omega) (by rw[Abm h5]) hP hR
      ·rw[Abm (by simpa using h7)]at hP;rw[Abm (by simpa using h7)]at hR;exact .inl ⟨26,by omega,hP,hR⟩
    ·have hpe:p=[]:=hpf.2 (by omega);rw[Aau (by rw[hpe];simp)]at hP;rw[Aau (by rw[Ar];simp;omega)]at hR;exact hend (F+22) (by omega) (by rw[Aau h5]) hP hR
  ·generalize Er (Ii b)=v at*
   obtain⟨v1,v2,v3,v4,v5,v6⟩:=v;simp only at h3 hP hR;rw[Abm (by rw[Aj];simpa using h3)]at hP hR;exact .inl ⟨v6,h3,hP,hR⟩
 ·generalize Bs b=v at*
  obtain⟨v,e⟩:=v;simp only at h2 hP hR;rw[Abm (by rw[Aj];simpa using h2)]at hP hR;exact .inl ⟨e,h2,hP,hR⟩
theorem Aje(l:List Int)(i:Nat):(l.take i).sum+(l.drop i).sum=l.sum:=by
 conv=>rhs;rw[<-Bjy i l,List.sum_append]
theorem Ia{l:List Int}(h5:∀x∈l,5<=x)(i:Nat):0<= (l.take i).sum/\ (l.take i).sum<=l.sum:=by
 have h1:=Att (l.take i) λx hx=>h5 x (Bop hx);have h2:=Att (l.drop i) λx hx=>h5 x (Blp hx);have:=Aje l i;omega
theorem Jw{l:List Int}{i:Nat}(h:i<l.length):(l.take (i+1)).sum=(l.take i).sum+l[i]:=by
 rw[Ma h,List.sum_append];simp
section
variable {l:List Int} (hl:l.length<=1000) (h5:∀x∈l,5<=x) (hs:l.sum<=100000)
include hl h5 hs
theorem Ahl(f c w r n A:Int)(hA:0<=A)(hA2:A<=200000)(k:Nat)(hk:k<=l.length):∀(j i q:Nat),i+j=k->j<q->Lo (k:Int) f c w r n A l q (A+(l.take i).sum) (i:Int)=some (A+(l.take k).sum)
 |0,i,q+1,hi,_=>by
  rw[Lo,Xo,Aau (by rw[Ae];simp;omega),show i=k by omega];rfl
 |j+1,i,q+1,hi,hq=>by
  have hlt:i<l.length:=by omega
  have ih:=Ahl f c w r n A hA hA2 k hk j (i+1) q (by omega) (by omega);have b1:=Ia h5 i;have b2:=Ia h5 (i+1);have e:=Jw hlt;rw[e,<-Bpb]at ih;rw[Lo,Xo,Abm (by rw[Ae];simp;omega),Bn hlt,Aa,Ah (by omega) (by omega),Ah (by omega) (by omega)];exact ih
theorem Aye(f c w r n A:Int)(hA:0<=A)(hA2:A<=200000)(k:Nat)(hk:k<=l.length):ZR f c w r n A l (k:Int)=some (A+(l.take k).sum):=by
 have h:=Ahl hl h5 hs f c w r n A hA hA2 k hk k 0 Ax (by omega) (by have:=As;omega);rw[Bix,Bns,Int.add_zero]at h;exact h
end
theorem Wk{g n:Nat}(hg:1<=g)(hn:1<=n){x:Int}(h:x∈Al g n):∃m:Nat,x=m/\1<=m/\m<=n:=by
 have hmul:=Bit (n-1) g;rw[Al,List.mem_append]at h;rcases h with h|h
 ·rw[List.mem_replicate]at h;have h1:1<= (n-1)/g:=Nat.pos_of_ne_zero h.1;have:=Adx g h1;exact⟨g,h.2,hg,by omega⟩
 ·rw[List.mem_singleton]at h;exact⟨_,h,by omega,by omega⟩
theorem Of{f c w r n:Nat}(h:Gu f c w r n=true):(1<=c/\c<=6)/\Bm (w:Int)/\ (1<=r/\r<=1048576)/\1<=n/\ (f=1\/f=2):=by
 simp only[Gu,Acm]at h;refine⟨h.2.1,?_,h.2.2.2.1,h.2.2.2.2,h.1⟩;rcases h.2.2.1 with rfl|rfl|rfl
 ·exact .inl rfl
 ·exact .inr (.inl rfl)
 ·exact .inr (.inr rfl)
theorem Bks(n m:Nat):Rg n m 0≠Rg n m 2147483648:=by
 intro h;simp[Rg,Xf,APE]at h
def Cz(b:List UInt8):List UInt8:=b.drop (b.length-32)
theorem Aqq{b:List UInt8}(h:32<=b.length):(Cz b).length=32:=by rw[Cz,Agn];omega
def NN(t:List UInt8):Nat:=Fy (part t 12 4)-32
def mnA(t:List UInt8):Nat:=Fy (part t 16 4)
def AM(b:List UInt8):Int×Int:=
 if ¬(32<=b.length/\ (Cz b).take 8=APE)then(0,6)else if HL (Cz b)=true then(0,12)else
 if Cz b=Rg (NN (Cz b)) (mnA (Cz b)) 0 then(if b.length<NN (Cz b)+32 then(0,24)else(((NN (Cz b)+32:Nat):Int),0))else
 if Cz b≠Rg (NN (Cz b)) (mnA (Cz b)) 2147483648 then(0,12)else
 if b.length<NN (Cz b)+64 then(0,24)else
 if(b.take (b.length-(NN (Cz b)+64)+32)).drop (b.length-(NN (Cz b)+64))≠Rg (NN (Cz b)) (mnA (Cz b)) 2684354560 then(0,12)else(((NN (Cz b)+64:Nat):Int),0)
section
variable {b:List UInt8}
theorem ba1(h:¬(32<=b.length/\ (Cz b).take 8=APE)):AM b=(0,6):=by rw[AM,Abm h]
variable (h:32<=b.length/\ (Cz b).take 8=APE)
include h
theorem ba2(h2:HL (Cz b)=true):AM b=(0,12):=by rw[AM,Aau (λh'=>h' h),Abm h2]
variable (h2:HL (Cz b)=false)
include h2
theorem ba3(h3:Cz b=Rg (NN (Cz b)) (mnA (Cz b)) 0):AM b=if b.length<NN (Cz b)+32 then(0,24)else(((NN (Cz b)+32:Nat):Int),0):=by
 rw[AM,Aau (λh'=>h' h),Aau (by rw[h2];simp),Abm h3]
variable (h3:Cz b≠Rg (NN (Cz b)) (mnA (Cz b)) 0)
include h3
theorem ba4(h4:Cz b≠Rg (NN (Cz b)) (mnA (Cz b)) 2147483648):AM b=(0,12):=by
 rw[AM,Aau (λh'=>h' h),Aau (by rw[h2];simp),Aau h3,Abm h4]
variable (h4:Cz b=Rg (NN (Cz b)) (mnA (Cz b)) 2147483648)
include h4
theorem ba5(h5:b.length<NN (Cz b)+64):AM b=(0,24):=by
 rw[AM,Aau (λh'=>h' h),Aau (by rw[h2];simp),Aau h3,Aau (λe=>e h4),Abm h5]
theorem ba6(h5:¬b.length<NN (Cz b)+64):AM b=if(b.take (b.length-(NN (Cz b)+64)+32)).drop (b.length-(NN (Cz b)+64))≠Rg (NN (Cz b)) (mnA (Cz b)) 2684354560 then(0,12)else(((NN (Cz b)+64:Nat):Int),0):=by
 rw[AM,Aau (λh'=>h' h),Aau (by rw[h2];simp),Aau h3,Aau (λe=>e h4),Aau h5]
end
theorem Aop{b:List UInt8}{n:Int}(h:AM b=(n,0)):32<=n/\n<=b.length:=by
 unfold AM at h;split at h; · simp at h
 rename_i h32;split at h; · simp at h
 split at h
 ·split at h; · simp at h
  simp only[Ae3,Bpl]at h;omega
 split at h; · simp at h
 split at h; · simp at h
 split at h; · simp at h
 simp only[Ae3,Bpl]at h;omega
theorem Ayw{b:List UInt8}(h:(AM b).2≠0):(AM b).1=0:=by
 revert h
 unfold AM;split; · simp
 split; · simp
 split
 ·split<;>simp
 split; · simp
 split; · simp
 split<;>simp
theorem Bce{b:List UInt8}(h:32<=b.length)(hl:b.length<4611686018427387904):Ao (Ac b) 32=((b.length-32:Nat):Int)/\Bq b ((b.length-32:Nat):Int) (Ac b)=some (Cz b):=by
 refine⟨by rw[Ac,Bw (by omega) (by omega)];omega,?_⟩;rw[Cb (by omega) (by omega)];rfl
theorem Axd(b:List UInt8)(hl:b.length<4611686018427387904):xT b=some (AM b):=by
 rw[xT,rF];by_cases h32:32<=b.length
 ·obtain⟨e1,e2⟩:=Bce h32 hl;have hl3:=Aqq h32;rw[Aau (by rw[e1,Ae];simp),e1,e2,Aa,lM,Aa];by_cases hp:(Cz b).take 8=APE
  ·have h:=And.intro h32 hp;rw[Aau (by simpa [APE,hl3]using hp),oG,Abh,e1,e2,Aa,jX _ 0 (by omega) (by omega) (by decide),Aa];cases hb:HL (Cz b)with
   |true=>
    rw[ba2 h hb];simp only[Bpq,Aw0,Bmy];rw[Aa,jX _ 2147483648 (by omega) (by omega) (by decide),Aa,hb];rfl
   |false=>
    obtain⟨i1,i2,i3,i4⟩:=Aam (Cz b) (by omega) hb;have eI:Fy (part (Cz b) 12 4)-32=NN (Cz b):=rfl;have eM:Fy (part (Cz b) 16 4)=mnA (Cz b):=rfl;simp only[Aw0,Bmy];rw[eI]at i3;rw[eM]at i4;rw[eI,eM];by_cases c1:Cz b=Rg (NN (Cz b)) (mnA (Cz b)) 0
    ·have c1':Cz b=Rg (NN (Cz b)) (mnA (Cz b)) (0:UInt64).toNat:=c1;rw[Abm (by simpa using c1'),ba3 h hb c1];by_cases c2:b.length<NN (Cz b)+32
     ·rw[Abm (by rw[Ae];simp;omega),Abm c2]
     ·rw[Aau (by rw[Ae];simp;omega),Aau c2,Ah (by omega) (by omega)];rfl
    ·have c1':¬Cz b=Rg (NN (Cz b)) (mnA (Cz b)) (0:UInt64).toNat:=c1;rw[Aau (by simpa using c1'),Aa,jX _ 2147483648 (by omega) (by omega) (by decide),Aa,hb];simp only[Aw0,Bmy];rw[eI,eM];by_cases c2:Cz b=Rg (NN (Cz b)) (mnA (Cz b)) 2147483648
     ·have c2':Cz b=Rg (NN (Cz b)) (mnA (Cz b)) (2147483648:UInt64).toNat:=c2;rw[Aau (by simpa using c2'),Ah (by omega) (by omega)];by_cases c3:b.length<NN (Cz b)+64
      ·rw[Abm (by rw[Ae,Ac];simp;omega),ba5 h hb c1 c2 c3]
      ·rw[Aau (by rw[Ae,Ac];simp;omega),Ac,Bw (by omega) (by omega),Ah (by omega) (by omega),Wd (by omega) (by omega) (by omega),Aa,Afs _ _ _ i3 i4 (by decide),Aa,If,Aa,ba6 h hb c1 c2 c3];rw[show((b.length:Int)-(((NN (Cz b):Nat):Int)+64)).toNat=b.length-(NN (Cz b)+64) by omega,show((b.length:Int)-(((NN (Cz b):Nat):Int)+64)+32).toNat=b.length-(NN (Cz b)+64)+32 by omega];have e7:(2684354560:UInt64).toNat=2684354560:=rfl;rw[e7];by_cases c4:(b.take (b.length-(NN (Cz b)+64)+32)).drop (b.length-(NN (Cz b)+64))=Rg (NN (Cz b)) (mnA (Cz b)) 2684354560
       ·rw[Aau (by simpa using c4),Aau (λe=>e c4)];rfl
       ·rw[Abm (by simpa using c4),Abm c4]
     ·have c2':¬Cz b=Rg (NN (Cz b)) (mnA (Cz b)) (2147483648:UInt64).toNat:=c2;rw[Abm (by simpa using c2'),ba4 h hb c1 c2]
  ·rw[Abm (by rw[Azt,Ba2];intro h;exact hp h.2),ba1 (λh=>hp h.2)]
 ·rw[Abm (by rw[Ac,Bw (by omega) (by omega),Ae];simp;omega),ba1 (λh=>h32 h.1)]
theorem Bgj{b:List UInt8}(h:32<=b.length):(b.take (b.length-32+8)).drop (b.length-32)=(Cz b).take 8:=by
 rw[Cz,List.take_drop]
theorem Bbe(b:List UInt8)(hl:b.length<4611686018427387904):MM b=some (AM b):=by
 rw[MM,TQ];by_cases h32:32<=b.length
 ·obtain⟨e1,e2⟩:=Bce h32 hl;have hl3:=Aqq h32;rw[Aau (by rw[Ae,Ac];simp;omega),e1,Ah (by omega) (by omega),Wd (by omega) (by omega) (by omega),Aa,show((b.length-32:Nat):Int).toNat=b.length-32 from rfl,show(((b.length-32:Nat):Int)+8).toNat=b.length-32+8 by omega,Bgj h32];by_cases hp:(Cz b).take 8=APE
  ·have h:=And.intro h32 hp;rw[Aau (by simpa [APE]using hp),TD,RK,e1,e2,Aa,Aou _ (by omega) (by omega),Aa];cases hb:HL (Cz b)with
   |true=>rw[ba2 h hb];rfl
   |false=>
    obtain⟨i1,i2,i3,i4⟩:=Aam (Cz b) (by omega) hb;have eI:Fy (part (Cz b) 12 4)-32=NN (Cz b):=rfl;have eM:Fy (part (Cz b) 16 4)=mnA (Cz b):=rfl;simp only[Aw0,Bmy,Bn8];rw[eI]at i3;rw[eM]at i4;rw[eI,eM,Nn,Abm rfl,xW _ _ _ i3 i4 (by decide),Aa,Aa];have e7:(2147483648:UInt64).toNat=2147483648:=rfl;have e8:(2684354560:UInt64).toNat=2684354560:=rfl;rw[e7];by_cases c2:Cz b=Rg (NN (Cz b)) (mnA (Cz b)) 2147483648
    ·have c1:Cz b≠Rg (NN (Cz b)) (mnA (Cz b)) 0:=λe=>Bks (NN (Cz b)) (mnA (Cz b)) (e.symm.trans c2);rw[Aau (by simpa using c2),AJ,Zx,Abm (by simpa using c2),Zp,AL,Ah (a:=32) (by omega) (by omega),Ah (by omega) (by omega)];by_cases c3:b.length<NN (Cz b)+64
     ·rw[Abm (by rw[Ae,Ac];simp;omega),ba5 h hb c1 c2 c3]
     ·rw[Aau (by rw[Ae,Ac];simp;omega),Abm (by simpa using c2),Ac,Bw (by omega) (by omega),Ah (by omega) (by omega),Wd (by omega) (by omega) (by omega),Aa,Yt,xW _ _ _ i3 i4 (by decide),Aa,Aa,ba6 h hb c1 c2 c3,e8];rw[show((b.length:Int)-(32+((NN (Cz b):Nat):Int)+32)).toNat=b.length-(NN (Cz b)+64) by omega,show((b.length:Int)-(32+((NN (Cz b):Nat):Int)+32)+32).toNat=b.length-(NN (Cz b)+64)+32 by omega];by_cases c4:(b.take (b.length-(NN (Cz b)+64)+32)).drop (b.length-(NN (Cz b)+64))=Rg (NN (Cz b)) (mnA (Cz b)) 2684354560
      ·rw[Aau (by simpa using c4),Aau (λe=>e c4),show(32+((NN (Cz b):Nat):Int)+32)=((NN (Cz b)+64:Nat):Int) by omega]
      ·rw[Abm (by simpa using c4),Abm c4]
    ·rw[Abm (by simpa using c2),Nn,Aau (by simp),xW _ _ _ i3 i4 (by decide),Aa,Aa];have e9:(0:UInt64).toNat=0:=rfl;rw[e9];by_cases c1:Cz b=Rg (NN (Cz b)) (mnA (Cz b)) 0
     ·rw[Aau (by simpa using c1),AJ,Zx,Aau (by simpa using c2),Zp,AL,Ah (by omega) (by omega),ba3 h hb c1,Aau (c:=(Cz b==Rg (NN (Cz b)) (mnA (Cz b)) 2147483648)=true) (by simpa using c2)];by_cases c3:b.length<NN (Cz b)+32
      ·rw[Abm (by rw[Ae,Ac];simp;omega),Abm c3]
      ·rw[Aau (by rw[Ae,Ac];simp;omega),Aau c3,show(32+((NN (Cz b):Nat):Int))=((NN (Cz b)+32:Nat):Int) by omega]
     ·rw[Abm (by simpa using c1),ba4 h hb c1 c2]
  ·rw[Abm (by simpa [APE]using hp),ba1 (λh=>hp h.2)]
 ·rw[Abm (by rw[Ae,Ac];simp;omega),ba1 (λh=>h32 h.1)]
def Ala:Nat->List UInt8->Nat->Int×Int
 |0,_,_=>(0,38)
 |j+1,b,a=>if b=[]then((a:Int),0)else if(AM b).2≠0 then(0,38)else Ala j (b.take (b.length-(AM b).1.toNat)) (a+1)
theorem Aqp:∀(j q a:Nat) (b:List UInt8),b.length<j->j<=q->b.length<=4000->a+b.length<=4000->Wv q (a:Int) b=some (Ala j b a)
 |0,_,_,_,h,_,_,_=>by omega
 |j+1,q+1,a,b,h,hq,h4,ha=>by
  rw[Wv,UE,Ala];by_cases hb:b=[]
  ·subst hb;rw[Aau (by decide),Abm rfl];rfl
  ·have hpos:0<b.length:=List.length_pos_iff.2 hb;rw[Abm (by rw[Aq,Ac];simp;omega),Aau hb,Axd b (by omega),Aa];have hbad:=Ayw (b:=b);have hok:=λn=>Aop (b:=b) (n:=n);generalize AM b=v at*
   obtain⟨n,e⟩:=v;simp only at hbad⊢;rw[PM,OH];by_cases he:e≠0
   ·rw[Abm he,hbad he,Abm (by decide)]
   ·obtain⟨k1,k2⟩:=hok n (by rw[show e=0 by simpa using he]);rw[Aau he,Aau (by rw[Ar];simp;omega),Ac,Bw (by omega) (by omega),Dj (by omega) (by omega),Aa,QD,gM,Ah (by omega) (by omega)];rw[show((b.length:Int)-n).toNat=b.length-n.toNat by omega];have ih:=Aqp j q (a+1) (b.take (b.length-n.toNat)) (by rw[Afz];omega) (by omega) (by rw[Afz];omega) (by rw[Afz];omega);rw[<-ih];rfl
theorem Awz:∀(j q a:Nat) (b:List UInt8),b.length<j->j<=q->b.length<=4000->a+b.length<=4000->Pb q b (a:Int)=some (Ala j b a)
 |0,_,_,_,h,_,_,_=>by omega
 |j+1,q+1,a,b,h,hq,h4,ha=>by
  rw[Pb,LH,Ala];by_cases hb:b=[]
  ·subst hb;rw[Aau (by decide),Abm rfl];rfl
  ·have hpos:0<b.length:=List.length_pos_iff.2 hb;rw[Abm (by rw[Aq,Ac];simp;omega),Aau hb,Bbe b (by omega),Aa];have hok:=λn=>Aop (b:=b) (n:=n);generalize AM b=v at*
   obtain⟨n,e⟩:=v;simp only;by_cases he:e≠0
   ·rw[Abm he,Abm (by rw[Aj];simpa using he)]
   ·obtain⟨k1,k2⟩:=hok n (by rw[show e=0 by simpa using he]);rw[Aau he,Aau (by rw[Aj];simpa using he),Ac,Bw (by omega) (by omega),Dj (by omega) (by omega),Aa,Ah (by omega) (by omega)];rw[show((b.length:Int)-n).toNat=b.length-n.toNat by omega];have ih:=Awz j q (a+1) (b.take (b.length-n.toNat)) (by rw[Afz];omega) (by omega) (by rw[Afz];omega) (by rw[Afz];omega);rw[<-ih];rfl
def Se(b:List UInt8):Int×Int:=if 4000<b.length then(0,38)else Ala (b.length+1) b 0
theorem Acf(b:List UInt8)(hl:b.length<4611686018427387904):IF b=some (Se b):=by
 rw[IF,TX,Se];by_cases h:4000<b.length
 ·rw[Abm (by rw[Aq,Ac];simp;omega),Abm h]
 ·rw[Aau (by rw[Aq,Ac];simp;omega),Aau h];exact Aqp _ Ax 0 b (by omega) (by have:=As;omega) (by omega) (by omega)
theorem vT(b:List UInt8)(hl:b.length<4611686018427387904):Tw b=some (Se b):=by
 rw[Tw,JQ,Se];by_cases h:4000<b.length
 ·rw[Abm (by rw[Aq,Ac];simp;omega),Abm h]
 ·rw[Aau (by rw[Aq,Ac];simp;omega),Aau h];exact Awz _ Ax 0 b (by omega) (by have:=As;omega) (by omega) (by omega)
theorem JA{a b:Nat}(h:a<9223372036854775808):Br (a:Int) (b:Int)=((a/b:Nat):Int):=by
 have:a/b<=a:=Atr _ _;rw[VA,Biz (by omega),<-Int.natCast_ediv];generalize a/b=k at*
 exact Db (by omega) (by omega)
theorem Aac{bits:Int}(h:Bm bits)(x:Int):(PA bits x).length=wB bits:=by
 obtain rfl|rfl|rfl:=h<;>rfl
theorem GC{bits:Int}(h:Bm bits):∀l:List Int32,(Dk bits l).length=l.length*wB bits
 |[]=>by simp[Dk]
 |x::l=>by
  have h1:=GC h l;have h2:=Aac h x.toInt;simp only[Dk,List.flatMap_cons,Abq,Apu,Bn4]at*
  omega
def Aiv(b:List UInt8)(A:Nat)(l:List Int)(k:Nat):List UInt8:=(b.take ((A:Int)+(l.take (k+1)).sum).toNat).drop ((A:Int)+(l.take k).sum).toNat
structure Gts (b p:List UInt8) (f c w r n A:Nat) (l:List Int) (k m:Nat) (x:List Int32) (s:List UInt8) (e:Int):Prop where
 mom:Ap (Al (Ak r) n) (k:Int)=some (m:Int)
 pos:1<=m/\m*c<=4000
 got:Ue b p (f:Int) (c:Int) (w:Int) (r:Int) (n:Int) (A:Int) l (k:Int)=some (s,e)
 none':e≠0->s=[]/\x=[]
 some':e=0->s=Dk (w:Int) x/\x.length=m*c/\Ay (w:Int) x=some 0/\Le (w:Int) x=some (s,0)/\ (A:Int)+(l.take (k+1)).sum<=b.length
 way:((b.length:Int)<(A:Int)+(l.take (k+1)).sum/\e=24)\/ ((A:Int)+(l.take (k+1)).sum<=b.length/\Qc (c:Int) (w:Int) (Nd p) (m:Int) (Aiv b A l k)=some (x,e)/\Fc (c:Int) (w:Int) (Nd p) (m:Int) (Aiv b A l k)=some (x,e))
theorem HG{b p:List UInt8}{f c w r n A:Nat}{l:List Int}(o:Opn b p f c w r n A l)(k:Nat)(hk:k<l.length):∃m x s e,Gts b p f c w r n A l k m x s e:=by
 obtain⟨hc,hw,hr,hn,_⟩:=Of o.shape;have hfit:n<=4000/c:=by have:=o.fit;simp only[BM,Acm]at this;exact this.1
 have hn4:n<=4000:=by have:=Atr 4000 c;omega
 have hA:=o.at';have Arm:=o.file;have hlen:=o.len;have b1:=Ia o.five k;have b2:=Ia o.five (k+1);have e:=Jw hk;have h5:=o.five l[k] (Ap3 _);have hsum:=o.sum;have hs1:=o.some1;have hkf:k<(Al (Ak r) n).length:=by omega
 obtain⟨m,hm,m1,m2⟩:=Wk (Ej r) hn (Ap3 hkf);have Bh7:Ap (Al (Ak r) n) (k:Int)=some (m:Int):=by rw[Bn hkf,hm]
 have hpos:1<=m/\m*c<=4000:=by
  refine⟨m1,?_⟩;have:=Adx c (Bph m2 hfit);have:=Bit 4000 c;omega
 have hR:Ue b p (f:Int) (c:Int) (w:Int) (r:Int) (n:Int) (A:Int) l (k:Int)=Ue b p (f:Int) (c:Int) (w:Int) (r:Int) (n:Int) (A:Int) l (k:Int):=rfl
 conv at hR=>rhs;rw[Ue,VG,Aye hs1.2 o.five o.sum _ _ _ _ _ (A:Int) (by omega) (by omega) k (by omega),Aa,Bn hk,Aa,Bw (by rw[Ac];omega) (by rw[Ac];omega)]
 by_cases hto:(b.length:Int)<(A:Int)+(l.take (k+1)).sum
 ·rw[Abm (by rw[Ae,Ac,Acm];omega)]at hR;exact⟨m,[],[],24,Bh7,hpos,hR,λ_=>⟨rfl,rfl⟩,λh=>by simp at h, .inl ⟨hto,rfl⟩⟩
 ·rw[Aau (by rw[Ae,Ac,Acm];omega),SH p o.pass,fY hr.2 hn hn4]at hR;simp only[Aa]at hR;rw[Ah (a:=(A:Int)+(l.take k).sum) (b:=l[k]) (by omega) (by omega),Bpb,<-e,Bh7]at hR;simp only[Aa]at hR;rw[Wd (by omega) (by omega) (by omega),Aa]at hR;obtain⟨x,er,g1,g2,g3,g4⟩:=SM (ch:=c) (n:=m) (t:=Nd p) (Aiv b A l k) hw (Mf p) hc.1 hc.2 m1 (by omega);rw[show(b.take ((A:Int)+(l.take (k+1)).sum).toNat).drop ((A:Int)+(l.take k).sum).toNat=Aiv b A l k from rfl,g2,Aa]at hR;simp only at hR;rw[VW,VK]at hR;by_cases her:er=0
  ·obtain⟨g5,g6,g7⟩:=g3 her;rw[Aau (by rw[Aj];simpa using her),QB hw g6 g5,Aa]at hR;subst her;exact⟨m,x,_,0,Bh7,hpos,hR,λh=>absurd rfl h,λ_=>⟨rfl,g7,g5,XY hw g6 g5,by omega⟩, .inr ⟨by omega,g1,g2⟩⟩
  ·rw[Abm (by rw[Aj];simpa using her)]at hR;exact⟨m,x,_,er,Bh7,hpos,hR,λh=>⟨rfl,g4 h⟩,λh=>absurd h her, .inr ⟨by omega,g1,g2⟩⟩
theorem Gts.lens{b p:List UInt8}{f c w r n A:Nat}{l:List Int}{k m:Nat}{x:List Int32}{s:List UInt8}{e:Int}(hw:Bm (w:Int))(g:Gts b p f c w r n A l k m x s e):s.length<=12000/\x.length<=4000/\ (e=0->s.length=m*c*wB (w:Int)):=by
 by_cases he:e=0
 ·obtain⟨h1,h2,_⟩:=g.some' he;have h3:=FO (w:Int) x;have h4:=GC hw x;have h5:=g.pos;rw[<-h1]at h3 h4;refine⟨by omega,by omega,λ_=>by rw[h4,h2]⟩
 ·obtain⟨h1,h2⟩:=g.none' he;exact⟨by simp[h1],by simp[h2],λh=>absurd h he⟩
def mK(G:Nat->List UInt8×Int)(be:Int):Nat->Nat->List UInt8->List UInt8×Int
 |0,_,acc=>if be≠0 then([],38)else(acc,0)
 |j+1,k,acc=>if(G k).2≠0 then([],(G k).2)else mK G be j (k+1) (acc++(G k).1)
def Lz(b p:List UInt8)(f c w r n A:Nat)(l:List Int)(k:Nat):List UInt8×Int:=(Ue b p (f:Int) (c:Int) (w:Int) (r:Int) (n:Int) (A:Int) l (k:Int)).getD ([],0)
theorem Gts.eq{b p:List UInt8}{f c w r n A:Nat}{l:List Int}{k m:Nat}{x:List Int32}{s:List UInt8}{e:Int}(g:Gts b p f c w r n A l k m x s e):Lz b p f c w r n A l k=(s,e):=by rw[Lz,g.got];rfl
def mY(b:List UInt8)(A:Nat)(l:List Int):Int:=(Se (b.drop ((A:Int)+l.sum).toNat)).2
def Ti(b:List UInt8)(k:Nat):Nat:=(b.getD k 0).toNat
theorem zQ(b:List UInt8)(k:Nat):Ti b k<256:=(b.getD k 0).toNat_lt
def sx(n:Nat)(b:List UInt8)(a:Nat):Int:=
 if n=1 then(Ti b a:Int)-128 else
 if n=2 then(if Ti b a+256*Ti b (a+1)<32768 then(Ti b a+256*Ti b (a+1):Nat)else((Ti b a+256*Ti b (a+1):Nat):Int)-65536)else
 (if Ti b a+256*Ti b (a+1)+65536*Ti b (a+2)<8388608 then(Ti b a+256*Ti b (a+1)+65536*Ti b (a+2):Nat)else((Ti b a+256*Ti b (a+1)+65536*Ti b (a+2):Nat):Int)-16777216)
def nW(n m:Nat)(b:List UInt8):List Int32:=(List.range m).map λx=>Int32.ofInt (sx n b (x*n))
theorem yV(n m:Nat)(b:List UInt8):(nW n m b).length=m:=by simp[nW]
theorem Bdo(n m:Nat)(b:List UInt8):nW n (m+1) b=nW n m b++[Int32.ofInt (sx n b (m*n))]:=by simp[nW,List.range_succ]
theorem qW{n:Int}(h: -2147483648<=n)(h':n<2147483648):(Int32.ofInt n).toInt=n:=by
 rw[Bln,Int.bmod_def,show((Int32.size:Nat):Int)=4294967296 from rfl];split<;>omega
theorem tB{b:List UInt8}{k:Nat}(h:k<b.length):Ap b (k:Int)=some (b.getD k 0):=by
 rw[Bn h];simp[List.getD_eq_getElem?_getD,h]
theorem ZX(c:UInt8):(Af c:Int32)=Int32.ofInt (c.toNat:Int):=rfl
theorem Aaf{v:Nat}(k:Nat)(hk:k<=32)(h:v<2147483648):Dl (Int32.ofInt (v:Int)) k=Int32.ofInt ((v*2^k:Nat):Int):=by
 have e:Dl (Int32.ofInt (v:Int)) k=Int32.ofInt ((Int32.ofInt (v:Int)).toInt*2^min k 32):=rfl;rw[e,qW (by omega) (by omega),Bem hk];simp
theorem Bga{v w i:Nat}(hv:v<2^i)(hw:w*2^i<2147483648)(hi:i<=31):wM (Int32.ofInt (v:Int)) (Int32.ofInt ((w*2^i:Nat):Int))=Int32.ofInt ((v+w*2^i:Nat):Int):=by
 have hv2:v<2147483648:=Anj hv (show 2^i<=2^31 from Ad5 (by omega) hi);have e:wM (Int32.ofInt (v:Int)) (Int32.ofInt ((w*2^i:Nat):Int))=Int32.ofInt ((BitVec.ofInt 32 (Int32.ofInt (v:Int)).toInt|||BitVec.ofInt 32 (Int32.ofInt ((w*2^i:Nat):Int)).toInt).toNat:Int):=rfl;rw[e,qW (by omega) (by omega),qW (by omega) (by omega),BitVec.toNat_or,Bjk,Bjk];have a1:((v:Int) %((2^32:Nat):Int)).toNat=v:=by omega
 have a2:(((w*2^i:Nat):Int) %((2^32:Nat):Int)).toNat=w*2^i:=by omega
 rw[a1,a2,Nat.or_comm,Ark w,<-Bhi hv,Bnm]
theorem Aj3(w:Nat)(h:w<2147483648):wM (0:Int32) (Int32.ofInt (w:Int))=Int32.ofInt (w:Int):=by
 have:=Bga (v:=0) (w:=w) (i:=0) (by simp) (by simpa using h) (by omega);simpa using this
theorem carry{v k:Nat}(hk:k<=31)(h:v*2^k<4294967296)(hv:v<2147483648):Ci (Dl (Int32.ofInt (v:Int)) k) k=Int32.ofInt ((if v*2^k<2147483648 then((v*2^k:Nat):Int)else((v*2^k:Nat):Int)-4294967296).fdiv (2^k)):=by
 rw[Aaf k (by omega) hv];have e:∀x:Int32,Ci x k=Int32.ofInt (x.toInt.fdiv (2^min k 32)):=λ_=>rfl;have hX:(Int32.ofInt ((v*2^k:Nat):Int)).toInt=if v*2^k<2147483648 then((v*2^k:Nat):Int)else((v*2^k:Nat):Int)-4294967296:=by
  rw[Bln,Int.bmod_def,show((Int32.size:Nat):Int)=4294967296 from rfl];generalize v*2^k=X at*
  split<;>split<;>omega
 rw[e,Bem (by omega),hX]
theorem sx2(b:List UInt8)(a:Nat):sx 2 b a=if Ti b a+256*Ti b (a+1)<32768 then((Ti b a+256*Ti b (a+1):Nat):Int)else((Ti b a+256*Ti b (a+1):Nat):Int)-65536:=rfl
theorem sx3(b:List UInt8)(a:Nat):sx 3 b a=if Ti b a+256*Ti b (a+1)+65536*Ti b (a+2)<8388608 then((Ti b a+256*Ti b (a+1)+65536*Ti b (a+2):Nat):Int)else((Ti b a+256*Ti b (a+1)+65536*Ti b (a+2):Nat):Int)-16777216:=rfl
variable (b:List UInt8)
theorem Bl5(bk:Int->List Int32->Option (List Int32×Int))(a:Nat)(acc:List Int32)(h:a+1<=b.length)(hl:b.length<=100000)(ha:acc.length<=100000)(j25:Int->List Int32->Int32->Int->Option (List Int32×Int))(j30:List Int32->Option (List Int32×Int)):
  Gp (Kr bk 8 b) j25 j30 8 b (a:Int) acc=bk ((a+1:Nat):Int) (acc++[Int32.ofInt (sx 1 b a)]):=by
 have hb:=zQ b a;have e:Ao (Af (b.getD a 0):Int32) (128:Int32)=Int32.ofInt (sx 1 b a):=by
  have e1:Ao (Af (b.getD a 0):Int32) (128:Int32)=Int32.ofInt ((Int32.ofInt ((b.getD a 0).toNat:Int)).toInt-(128:Int32).toInt):=rfl;rw[e1,qW (by omega) (by have:=(b.getD a 0).toNat_lt;omega)];rfl
 have q8:Br (8:Int) 8=1:=by decide
 rw[Gp,Abm (by rw[Ae,Ac];simp;omega),Abm (by rw[Ar];rfl),tB (by omega),Aa,e,Bi (by simp;omega),Aa,Kr,Zb,q8,Ah (by omega) (by omega)];rfl
theorem Bjw(bk:Int->List Int32->Option (List Int32×Int))(a:Nat)(acc:List Int32)(h:a+2<=b.length)(hl:b.length<=100000)(ha:acc.length<=100000)(j28:Int->List Int32->Option (List Int32×Int))(j30:List Int32->Option (List Int32×Int)):
  Gp j28 (Nm bk 16 b) j30 16 b (a:Int) acc=bk ((a+2:Nat):Int) (acc++[Int32.ofInt (sx 2 b a)]):=by
 have h0:=zQ b a;have h1:=zQ b (a+1);have q:Br (16:Int) 8=2:=by decide
 have hF:Ax=(Ax-3)+1+1+1:=by have:=As;omega
 have z0:(GI.toZ (Bf (8:Int) 0)).toNat=0:=by decide
 have z1:(GI.toZ (Bf (8:Int) 1)).toNat=8:=by decide
 have z16:(GI.toZ (Ao (32:Int) 16)).toNat=16:=by decide
 have s0:Dl (Int32.ofInt (Ti b a:Int)) 0=Int32.ofInt (Ti b a:Int):=by have:=Aaf (v:=Ti b a) 0 (by omega) (by omega);simpa using this
 have s1:Dl (Int32.ofInt (Ti b (a+1):Int)) 8=Int32.ofInt ((Ti b (a+1)*2^8:Nat):Int):=Aaf 8 (by omega) (by omega);have o1:=Bga (v:=Ti b a) (w:=Ti b (a+1)) (i:=8) (by simpa using h0) (by omega) (by omega);have c:=carry (v:=Ti b a+Ti b (a+1)*2^8) (k:=16) (by omega) (by omega) (by omega);rw[Gp,Abm (by rw[Ae,Ac];simp;omega),Aau (by rw[Ar];decide),Nm,hF,Fk,Gq,q,Abm (by decide),show Ad (a:Int) 0=((a:Nat):Int) by rw[Ah (by omega) (by omega)];omega,tB (by omega),Aa,Bk (by decide),Aa,z0,
  ZX,show((b.getD a 0).toNat:Int)=(Ti b a:Int)from rfl,s0,Aj3 _ (by omega),show Ad (0:Int) 1=1 by decide,
  Fk,Gq,q,Abm (by decide),show Ad (a:Int) 1=((a+1:Nat):Int) by rw[Ah (by omega) (by omega)];omega,tB (by omega),Aa,Bk (by decide),Aa,z1,
  ZX,show((b.getD (a+1) 0).toNat:Int)=(Ti b (a+1):Int)from rfl,s1,o1,show Ad (1:Int) 1=2 by decide,
  Fk,Gq,q,Aau (by decide),Yk,Yv,Bk (by decide),Aa,Aa,z16,c,Bi (by simp;omega),Aa,Kr,Zb,q,Ah (by omega) (by omega)]
 have e:((if(Ti b a+Ti b (a+1)*2^8)*2^16<2147483648 then(((Ti b a+Ti b (a+1)*2^8)*2^16:Nat):Int)else(((Ti b a+Ti b (a+1)*2^8)*2^16:Nat):Int)-4294967296).fdiv (2^16))=sx 2 b a:=by
  rw[Arr _ (by omega),sx2];split<;>split<;>omega
 rw[e];rfl
theorem Bkd(bk:Int->List Int32->Option (List Int32×Int))(a:Nat)(acc:List Int32)(h:a+3<=b.length)(hl:b.length<=100000)(ha:acc.length<=100000)(j28:Int->List Int32->Option (List Int32×Int))(j30:List Int32->Option (List Int32×Int)):
  Gp j28 (Nm bk 24 b) j30 24 b (a:Int) acc=bk ((a+3:Nat):Int) (acc++[Int32.ofInt (sx 3 b a)]):=by
 have h0:=zQ b a;have h1:=zQ b (a+1);have h2:=zQ b (a+2);have q:Br (24:Int) 8=3:=by decide
 have hF:Ax=(Ax-4)+1+1+1+1:=by have:=As;omega
 have z0:(GI.toZ (Bf (8:Int) 0)).toNat=0:=by decide
 have z1:(GI.toZ (Bf (8:Int) 1)).toNat=8:=by decide
 have z2:(GI.toZ (Bf (8:Int) 2)).toNat=16:=by decide
 have z8:(GI.toZ (Ao (32:Int) 24)).toNat=8:=by decide
 have s0:Dl (Int32.ofInt (Ti b a:Int)) 0=Int32.ofInt (Ti b a:Int):=by have:=Aaf (v:=Ti b a) 0 (by omega) (by omega);simpa using this
 have s1:Dl (Int32.ofInt (Ti b (a+1):Int)) 8=Int32.ofInt ((Ti b (a+1)*2^8:Nat):Int):=Aaf 8 (by omega) (by omega);have s2:Dl (Int32.ofInt (Ti b (a+2):Int)) 16=Int32.ofInt ((Ti b (a+2)*2^16:Nat):Int):=Aaf 16 (by omega) (by omega);have o1:=Bga (v:=Ti b a) (w:=Ti b (a+1)) (i:=8) (by simpa using h0) (by omega) (by omega);have o2:=Bga (v:=Ti b a+Ti b (a+1)*2^8) (w:=Ti b (a+2)) (i:=16) (by omega) (by omega) (by omega);have c:=carry (v:=Ti b a+Ti b (a+1)*2^8+Ti b (a+2)*2^16) (k:=8) (by omega) (by omega) (by omega);rw[Gp,Abm (by rw[Ae,Ac];simp;omega),Aau (by rw[Ar];decide),Nm,hF,Fk,Gq,q,Abm (by decide),show Ad (a:Int) 0=((a:Nat):Int) by rw[Ah (by omega) (by omega)];omega,tB (by omega),Aa,Bk (by decide),Aa,z0,
  ZX,show((b.getD a 0).toNat:Int)=(Ti b a:Int)from rfl,s0,Aj3 _ (by omega),show Ad (0:Int) 1=1 by decide,
  Fk,Gq,q,Abm (by decide),show Ad (a:Int) 1=((a+1:Nat):Int) by rw[Ah (by omega) (by omega)];omega,tB (by omega),Aa,Bk (by decide),Aa,z1,
  ZX,show((b.getD (a+1) 0).toNat:Int)=(Ti b (a+1):Int)from rfl,s1,o1,show Ad (1:Int) 1=2 by decide,
  Fk,Gq,q,Abm (by decide),show Ad (a:Int) 2=((a+2:Nat):Int) by rw[Ah (by omega) (by omega)];omega,tB (by omega),Aa,Bk (by decide),Aa,z2,
  ZX,show((b.getD (a+2) 0).toNat:Int)=(Ti b (a+2):Int)from rfl,s2,o2,show Ad (2:Int) 1=3 by decide,
  Fk,Gq,q,Aau (by decide),Yk,Yv,Bk (by decide),Aa,Aa,z8,c,Bi (by simp;omega),Aa,Kr,Zb,q,Ah (by omega) (by omega)]
 have e:((if(Ti b a+Ti b (a+1)*2^8+Ti b (a+2)*2^16)*2^8<2147483648 then(((Ti b a+Ti b (a+1)*2^8+Ti b (a+2)*2^16)*2^8:Nat):Int)else(((Ti b a+Ti b (a+1)*2^8+Ti b (a+2)*2^16)*2^8:Nat):Int)-4294967296).fdiv (2^8))=sx 3 b a:=by
  rw[Arr _ (by omega),sx3];split<;>split<;>omega
 rw[e];rfl
theorem wU(bits:Int)(n m:Nat)(hn:1<=n)(hm:b.length=m*n)(hl:b.length<=100000)(step:∀(q a:Nat) (acc:List Int32),a+n<=b.length->acc.length<=100000->Em bits b (q+1) (a:Int) acc=Em bits b q ((a+n:Nat):Int) (acc++[Int32.ofInt (sx n b a)])):
  ∀(j x q:Nat),x+j=m->j<q->Em bits b q ((x*n:Nat):Int) (nW n x b)=some (nW n m b,0)
 |0,x,q+1,hx,_=>by
  obtain rfl:x=m:=by omega
  rw[Em,Gp,Aau (by rw[Ae,Ac];simp;omega)];rfl
 |j+1,x,q+1,hx,hq=>by
  have h1:(x+1)*n<=m*n:=Adx n (by omega);rw[Al6,Be6]at h1;have h2:m<=m*n:=Bpa m hn;rw[step q (x*n) _ (by omega) (by rw[yV];omega),<-Bdo,show x*n+n=(x+1)*n by rw[Al6,Be6]];exact wU bits n m hn hm hl step j (x+1) q (by omega) (by omega)
theorem Bl6{bits:Int}(h:Bm bits)(hl:b.length<=100000)(q a:Nat)(acc:List Int32)(ha:a+wB bits<=b.length)(hc:acc.length<=100000):
  Em bits b (q+1) (a:Int) acc=Em bits b q ((a+wB bits:Nat):Int) (acc++[Int32.ofInt (sx (wB bits) b a)]):=by
 rw[Em];obtain rfl|rfl|rfl:=h
 ·exact Bl5 b _ a acc ha hl hc _ _
 ·exact Bjw b _ a acc ha hl hc _ _
 ·exact Bkd b _ a acc ha hl hc _ _
theorem zA{bits:Int}(h:Bm bits){m:Nat}(hm:b.length=m*wB bits)(h4:m<=4000):Xl bits b=some (nW (wB bits) m b,0):=by
 have hn:=Abz bits;have hl:b.length<=12000:=by rw[hm];exact Bed h4 hn.2
 rw[Xl,ON,Aik h,Aa];simp only;rw[Aau (by rw[Aj];simp),Asq h,Bk (by rw[Aj];simp;omega),Aa];have hr:Gx (Ac b) (wB bits:Int)=0:=by rw[Ac,OG,hm,Bjh];rfl
 have hq:Br (Ac b) (wB bits:Int)=(m:Int):=by rw[Ac,JA (by omega),hm,Bnv _ (by omega)]
 rw[Aau (by rw[Aj,hr];simp),Aa,hq,Aau (by rw[Aq];simp;omega),JW];have:=wU b bits (wB bits) m (by omega) hm (by omega) (λq a acc ha hc=>Bl6 b h (by omega) q a acc ha hc) m 0 Ax (by omega) (by have:=As;omega);simpa [nW]using this
end Go.Pl
namespace Go.Pl
open Go Go.Lv
theorem Bkr{c:Nat}{w:Nat}(hc:c<=6)(hw:Bm (w:Int)):Br (Bf (c:Int) (w:Int)) 8=((c*wB (w:Int):Nat):Int):=by
 have h:w=8\/w=16\/w=24:=by unfold Bm at hw;omega
 have:c=0\/c=1\/c=2\/c=3\/c=4\/c=5\/c=6:=by omega
 rcases h with rfl|rfl|rfl<;>rcases this with rfl|rfl|rfl|rfl|rfl|rfl|rfl<;>rfl
theorem Bjq{w:Nat}(hw:Bm (w:Int)):8*wB (w:Int)=w/\w<=24:=by
 have h:w=8\/w=16\/w=24:=by unfold Bm at hw;omega
 rcases h with rfl|rfl|rfl<;>exact⟨rfl,by omega⟩
theorem Bk0{t c w:Nat}(ht:t<=4000)(hc:c<=6)(hw:Bm (w:Int)):Br (Bf (Bf (t:Int) (c:Int)) (w:Int)) 8=((t*(c*wB (w:Int)):Nat):Int):=by
 obtain⟨h1,h2⟩:=Bjq hw;have e1:(t:Int)*(c:Int)=((t*c:Nat):Int):=by simp
 have b1:t*c<=4000*6:=Bed ht hc;have b2:t*c*w<=24000*24:=Bed b1 h2;rw[Ez (a:=(t:Int)) (by rw[e1];omega) (by rw[e1];omega),e1,Ez (by rw[<-Aos];omega) (by rw[<-Aos];omega),<-Aos,show(8:Int)=((8:Nat):Int)from rfl,JA (by omega)];congr 1;generalize wB (w:Int)=W at*
 subst h1;rw[Nat.mul_left_comm,Nat.mul_div_cancel_left _ (by omega),Azz]
def smF(w:Nat)(y:List UInt8×Int):List Int32:=if y.2≠0 then []else nW (wB (w:Int)) (y.1.length/wB (w:Int)) y.1
theorem Abe(z:Int):(u8 z).toNat=(z %256).toNat:=by
 have:(z %256).toNat<256:=by omega
 rw[u8,Aqr,Ac0 (by omega)]
theorem Ae0{bits:Int}(h:Bm bits):∀(l:List Int32) (i j:Nat),i<l.length->j<wB bits-> (Dk bits l).getD (i*wB bits+j) 0=(PA bits (l.getD i 0).toInt).getD j 0
 |[],i,j,hi,_=>by simp at hi
 |x::l,0,j,_,hj=>by
  have h1:=Aac h x.toInt;have e:Dk bits (x::l)=PA bits x.toInt++Dk bits l:=by simp[Dk]
  rw[e,Bpn,Bh9,List.getD_eq_getElem?_getD,List.getD_eq_getElem?_getD,List.getElem?_append_left (by omega)];rfl
 |x::l,i+1,j,hi,hj=>by
  have h1:=Aac h x.toInt;have e:Dk bits (x::l)=PA bits x.toInt++Dk bits l:=by simp[Dk]
  have ih:=Ae0 h l i j (by simpa using hi) hj;have e2:(i+1)*wB bits+j=(PA bits x.toInt).length+(i*wB bits+j):=by rw[Al6,Be6,h1];omega
  rw[e,e2,List.getD_eq_getElem?_getD,List.getElem?_append_right (by omega),Bkp,<-List.getD_eq_getElem?_getD,ih];rfl
theorem Bex{bits:Int}(h:Bm bits)(l:List Int32)(hr:inR bits l)(i:Nat)(hi:i<l.length):Int32.ofInt (sx (wB bits) (Dk bits l) (i*wB bits))=l.getD i 0:=by
 have hm:l.getD i 0∈l:=by rw[List.getD_eq_getElem?_getD,List.getElem?_eq_getElem hi];exact Ap3 hi
 have hv:=hr _ hm;have g:∀j,j<wB bits->Ti (Dk bits l) (i*wB bits+j)=((PA bits (l.getD i 0).toInt).getD j 0).toNat:=λj hj=>by rw[Ti,Ae0 h l i j hi hj]
 generalize l.getD i 0=x at*
 have key:sx (wB bits) (Dk bits l) (i*wB bits)=x.toInt:=by
  generalize hA:i*wB bits=a at*
  obtain rfl|rfl|rfl:=h
  ·have g0:=g 0 (by decide);have e1:(PA 8 x.toInt).getD 0 0=u8 (x.toInt+128):=rfl;rw[Blb,e1,Abe]at g0;simp only[hB]at hv;simp at hv;have e2:wB 8=1:=rfl;rw[e2,sx,Abm rfl,g0];omega
  ·have g0:=g 0 (by decide);have g1:=g 1 (by decide);have e0:(PA 16 x.toInt).getD 0 0=u8 x.toInt:=rfl;have e1:(PA 16 x.toInt).getD 1 0=u8 (x.toInt/256):=rfl;rw[Blb,e0,Abe]at g0;rw[e1,Abe]at g1;simp only[hB]at hv;simp at hv;have e2:wB 16=2:=rfl;rw[e2,sx2,g0,g1];split<;>omega
  ·have g0:=g 0 (by decide);have g1:=g 1 (by decide);have g2:=g 2 (by decide);have e0:(PA 24 x.toInt).getD 0 0=u8 x.toInt:=rfl;have e1:(PA 24 x.toInt).getD 1 0=u8 (x.toInt/256):=rfl;have e3:(PA 24 x.toInt).getD 2 0=u8 (x.toInt/65536):=rfl;rw[Blb,e0,Abe]at g0;rw[e1,Abe]at g1;rw[e3,Abe]at g2;simp only[hB]at hv;simp at hv;have e2:wB 24=3:=rfl;rw[e2,sx3,g0,g1,g2];split<;>omega
 rw[key];simp
theorem Aht{bits:Int}(h:Bm bits)(l:List Int32)(hr:inR bits l):nW (wB bits) l.length (Dk bits l)=l:=by
 refine Bif (yV _ _ _) λi h1 h2=>?_;have:=Bex h l hr i h2;simp only[nW,Bn0,Bnu];rw[this,List.getD_eq_getElem?_getD,List.getElem?_eq_getElem h2];rfl
theorem Gts.smp{b p:List UInt8}{f c w r n A:Nat}{l:List Int}{k m:Nat}{x:List Int32}{s:List UInt8}{e:Int}(hw:Bm (w:Int))(g:Gts b p f c w r n A l k m x s e):smF w (s,e)=x:=by
 have hwb:=Abz (w:Int);by_cases he:e=0
 ·obtain⟨h1,h2,h3,_⟩:=g.some' he;have h4:=g.pos;have h5:=GC hw x;rw[smF,Aau (by simpa using he)];simp only;rw[h1,h5,Bnv _ (by omega)];exact Aht hw x (fX hw (by omega) h3)
 ·rw[smF,Abm he,(g.none' he).2]
end Go.Pl
