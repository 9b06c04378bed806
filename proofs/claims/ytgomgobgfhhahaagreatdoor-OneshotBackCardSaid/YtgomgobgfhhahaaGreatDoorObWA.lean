/- A part of the proof of a statement of this seat (see the text that ends in Proof): LwBase, LwBitB, LwLe, LwBits, LwRef02, LwCut, LwUn, LwRice, LwDual, LwVal, LwI32, LwFil, LwUnm, LwSam, LwCrc, LwFrm, LwEc1, LwEc2, LwC64, LwWby, LwId, LwApe, LwStrip, LwLen, LwHead, LwSeek, LwOpen, LwFrame, LwBack, LwGot, LwWs, LwGoes, LwPol, LwRt. No conditions of its own. -/
import Derived.Test.YtgomgobgfhhahaaGreatDoorObBA
import Derived.Test.YtgomgobgfhhahaaGreatDoorObPA
set_option linter.unusedVariables false
set_option linter.unusedSimpArgs false
namespace Go.Lv
theorem Ah{a b:Int}(h: -9223372036854775808<=a+b)(h':a+b<=9223372036854775807):Ad a b=a+b:=by rw[Bg7,Df h h']
theorem Bu{a b:Int}(h: -9223372036854775808<=a-b)(h':a-b<=9223372036854775807):Ao a b=a-b:=by rw[Bfs,Df h h']
theorem Fh{a b:Int}(h: -9223372036854775808<=a*b)(h':a*b<=9223372036854775807):Bj a b=a*b:=by rw[Ayo,Df h h']
theorem WN(c:UInt8):(Af c:Int)=(c.toNat:Int):=by rw[Ayh,Df]<;>have:=c.toNat_lt<;>omega
theorem Afc(c:UInt32):(Af c:Int)=(c.toNat:Int):=by rw[Avv,Df]<;>have:=c.toNat_lt<;>omega
theorem uP(c:UInt8):(Af c:UInt64)=UInt64.ofNat c.toNat:=by simp only[Af,EZ,Jk]
theorem Dx(c:UInt32):(Af c:UInt64)=UInt64.ofNat c.toNat:=by simp only[Af,BL,Jk]
theorem ZQ(c:UInt64):(Af c:UInt8)=UInt8.ofNat c.toNat:=by simp only[Af,Lm,Ps]
theorem tP(c:UInt32):(Af c:UInt8)=UInt8.ofNat c.toNat:=by simp only[Af,BL,Ps]
theorem Xg(n:Nat):(Af (n:Int):UInt64)=UInt64.ofNat n:=by simp only[Af];exact Jk n
theorem Ag7(n:Nat):(Af (n:Int):UInt32)=UInt32.ofNat n:=by simp only[Af];exact Gf n
theorem Azw(n:Nat):(Af (n:Int):UInt8)=UInt8.ofNat n:=by simp only[Af];exact Ps n
theorem zI{c:UInt64}(h:c.toNat<9223372036854775808):(Af c:Int)=(c.toNat:Int):=by rw[Aul,Df]<;>omega
theorem As8:LIM=17179869184:=by decide
theorem As:36893488147419103231<Ax:=by decide
theorem Bq{α:Type}{l:List α}{n:Nat}(h:n<l.length):Ap l (n:Int)=some l[n]:=by simp[Ap,h]
theorem Wf{α:Type}{l:List α}{n:Nat}(x:α)(h:n<l.length):Oe l (n:Int) x=some (l.set n x):=by simp[Oe,h]
theorem Uk{α:Type}{l:List α}{a b:Int}(h:0<=a)(h1:a<=b)(h2:b<=l.length):Br l a b=some ((l.take b.toNat).drop a.toNat):=by rw[Br,Aau ⟨h,h1,h2⟩]
theorem Bs{α:Type}{l:List α}{a:Int}(h:0<=a)(h1:a<=l.length):Br l a (Ac l)=some (l.drop a.toNat):=by
 unfold Ac;rw[Uk h h1 (Int.le_refl _),Agr,Awj]
theorem Dl{α:Type}{l:List α}{b:Int}(h:0<=b)(h1:b<=l.length):Br l 0 b=some (l.take b.toNat):=by rw[Uk (Int.le_refl _) h h1];rfl
theorem Bi{α:Type}{l m:List α}(h:l.length+m.length<=17179869184):Ee l m=some (l++m):=by rw[Ee,As8,Aau h]
theorem rZ{α:Type}{n:Int}{z:α}(h:0<=n)(h':n<=17179869184):mkI n z=some (List.replicate n.toNat z):=by rw[mkI,As8,Aau ⟨h,h'⟩]
theorem Bl{b:Bool}(h:b=true):Kx b=some ():=by rw[h];rfl
theorem Aa{α β:Type}(a:α)(f:α->Option β):Option.bind (some a) f=f a:=rfl
theorem drop_cons{α:Type}{l:List α}{n:Nat}(h:n<l.length):l.drop n=l[n]::l.drop (n+1):=List.drop_eq_getElem_cons h
theorem Md{α:Type}{l:List α}{n:Nat}(h:n<l.length):l.take (n+1)=l.take n++[l[n]]:=by rw[List.take_add_one,List.getElem?_eq_getElem h];rfl
def Fz:List UInt8->Nat
 |[]=>0
 |x::r=>x.toNat+256*Fz r
theorem Ajr:∀l:List UInt8,Fz l<256^l.length
 |[]=>by simp[Fz]
 |x::r=>by
  have h:=Ajr r;have:=x.toNat_lt;simp only[Fz,Alj,Awk];omega
theorem Ad4:∀l m:List UInt8,Fz (l++m)=Fz l+256^l.length*Fz m
 |[],m=>by simp[Fz]
 |x::r,m=>by
  simp only[Fz,Bi1,Ad4 r m,Alj,Awk,Nat.mul_add];rw[Ao6 (256^r.length) 256,Awr];omega
def sV(l:List UInt8):UInt64:=UInt64.ofNat (Fz l)
theorem Bdr{l:List UInt8}(h:l.length<=8):Fz l<18446744073709551616:=by
 have h1:=Ajr l;have h2:256^l.length<=256^8:=Agq (by omega) h;exact Apb h1 (by simpa using h2)
theorem As6{l:List UInt8}(h:l.length<=4):Fz l<4294967296:=by
 have h1:=Ajr l;have h2:256^l.length<=256^4:=Agq (by omega) h;exact Apb h1 (by simpa using h2)
theorem bP{l:List UInt8}(h:l.length<=8):(sV l).toNat=Fz l:=by
 rw[sV,Akr,Abl (Bdr h)]
theorem PY{l:List UInt8}(h:l.length<=4):(Af (sV l):Int)=(Fz l:Int):=by
 have:=As6 h;rw[zI]<;>rw[bP (by omega)];omega
def Ry(n:Nat):Nat->List UInt8
 |0=>[]
 |w+1=>UInt8.ofNat n::Ry (n/256) w
theorem Ce:∀(w n:Nat),(Ry n w).length=w
 |0,_=>rfl
 |w+1,n=>by simp[Ry,Ce w]
theorem Ank:∀(w n:Nat),Ry n (w+1)=Ry n w++[UInt8.ofNat (n/256^w)]
 |0,n=>by simp[Ry]
 |w+1,n=>by
  rw[Ry,Ank w (n/256),Ry];simp[Bjt,Awk,Ao6]
def Ho(p:List UInt8)(i:Nat):Nat:=(p.getD (i/8) 0).toNat/2^(i %8) %2
theorem DH(p:List UInt8)(i:Nat):Ho p i<2:=Bhn _ (by omega)
def Cf(p:List UInt8):Nat->Nat->Nat
 |_,0=>0
 |a,n+1=>Ho p a+2*Cf p (a+1) n
theorem Qv(p:List UInt8):∀(n a:Nat),Cf p a n<2^n
 |0,_=>by simp[Cf]
 |n+1,a=>by
  have:=Qv p n (a+1);have:=DH p a;rw[Cf,Awk];omega
theorem QJ(p:List UInt8):∀(m n a:Nat),Cf p a (m+n)=Cf p a m+2^m*Cf p (a+m) n
 |0,n,a=>by simp[Cf]
 |m+1,n,a=>by
  rw[show m+1+n=(m+n)+1 by omega,Cf,Cf,QJ p m n (a+1),show a+1+m=a+(m+1) by omega,Awk,Nat.mul_add,Ao6 (2^m) 2,Awr];omega
theorem vY(p:List UInt8)(a:Nat):Cf p a 1=Ho p a:=by simp[Cf]
theorem qD(p:List UInt8)(a n:Nat):Cf p a (n+1)=Cf p a n+2^n*Ho p (a+n):=by rw[QJ p n 1 a,vY]
theorem eT(p:List UInt8)(a:Nat):∀t:Nat,a %8+t<=8->Cf p a t=(p.getD (a/8) 0).toNat/2^(a %8) %2^t
 |0,_=>by simp[Cf,Nat.mod_one]
 |t+1,h=>by
  have h1:(a+t)/8=a/8:=by omega
  have h2:(a+t) %8=a %8+t:=by omega
  rw[qD,eT p a t (by omega),Ho,h1,h2,Nat.mod_pow_succ,Blr,Bjt]
theorem yY{p:List UInt8}:∀(n a:Nat),(∀k,k<n->Ho p (a+k)=0)->Cf p a n=0
 |0,_,_=>rfl
 |n+1,a,h=>by
  have h0:=h 0 (by omega);rw[Cf,yY n (a+1) λk hk=>by have:=h (k+1) (by omega);rwa [show a+1+k=a+(k+1) by omega]];rw[Bhl]at h0;omega
def okB(p:List UInt8)(n:Nat):Prop:=n<=330000/\p.length=(n+7)/8/\∀k,n<=k->k<8*p.length->Ho p k=0
def Rt(p:List UInt8)(a n:Nat):List UInt8:=(List.range ((n+7)/8)).map λj=>UInt8.ofNat (Cf p (a+8*j) (min 8 (n-8*j)))
theorem Kt(p:List UInt8)(a n:Nat):(Rt p a n).length=(n+7)/8:=by simp[Rt]
theorem An8(p:List UInt8):∀(n a k:Nat),k<n->Cf p a n/2^k %2=Ho p (a+k)
 |n+1,a,0,_=>by have:=DH p a;rw[Cf];simp;omega
 |n+1,a,k+1,h=>by
  have hb:=DH p a;have e:(Ho p a+2*Cf p (a+1) n)/2=Cf p (a+1) n:=by omega
  rw[Cf,Awk,Ao6 (2^k) 2,<-Bjt,e,An8 p n (a+1) k (by omega),show a+1+k=a+(k+1) by omega]
theorem Au3(p:List UInt8)(n a k:Nat)(h:n<=k):Cf p a n/2^k %2=0:=by
 have:=Qv p n a;rw[Bhr (Apb this (Agq (by omega) h))]
theorem wM(p:List UInt8)(a n k:Nat):Ho (Rt p a n) k=if k<n then Ho p (a+k)else 0:=by
 rw[Ho];by_cases hj:k/8<(n+7)/8
 ·have e:(Rt p a n).getD (k/8) 0=UInt8.ofNat (Cf p (a+8*(k/8)) (min 8 (n-8*(k/8)))):=by
   rw[List.getD_eq_getElem?_getD,List.getElem?_eq_getElem (by rw[Kt];exact hj)];simp[Rt]
  have hlt:Cf p (a+8*(k/8)) (min 8 (n-8*(k/8)))<256:=by
   have:=Qv p (min 8 (n-8*(k/8))) (a+8*(k/8));have h2:2^(min 8 (n-8*(k/8)))<=2^8:=Agq (by omega) (by omega);omega
  have hu:(UInt8.ofNat (Cf p (a+8*(k/8)) (min 8 (n-8*(k/8))))).toNat=Cf p (a+8*(k/8)) (min 8 (n-8*(k/8))):=by
   rw[Aol];exact Abl hlt
  rw[e,hu];by_cases hk:k<n
  ·rw[Aau hk,An8 p _ _ _ (by omega),show a+8*(k/8)+k %8=a+k by omega]
  ·rw[Aac hk,Au3 p _ _ _ (by omega)]
 ·have e:(Rt p a n).getD (k/8) 0=0:=by
   rw[List.getD_eq_getElem?_getD,List.getElem?_eq_none (by rw[Kt];omega)];rfl
  rw[e,Aac (by omega)];simp
theorem vC(p:List UInt8)(a n:Nat)(h:n<=330000):okB (Rt p a n) n:=⟨h,Kt p a n,λk hk _=>by rw[wM,Aac (by omega)]⟩
theorem Aly{p q:List UInt8}(hl:p.length=q.length)(h:∀k,k<8*p.length->Ho p k=Ho q k):p=q:=by
 apply Bee hl;intro i h1 h2;have hp:Cf p (8*i) 8=Cf q (8*i) 8:=by
  have key:∀(n a:Nat),a+n<=8*p.length->Cf p a n=Cf q a n:=by
   intro n
   induction n with
   |zero=>intros;rfl
   |succ n ih=>intro a ha;rw[Cf,Cf,h a (by omega),ih (a+1) (by omega)]
  exact key 8 (8*i) (by omega)
 rw[eT p _ 8 (by omega),eT q _ 8 (by omega)]at hp;have e1:8*i/8=i:=by omega
 have e2:8*i %8=0:=by omega
 rw[e1,e2]at hp;have a1:p.getD i 0=p[i]:=by simp[List.getD_eq_getElem?_getD,h1]
 have a2:q.getD i 0=q[i]:=by simp[List.getD_eq_getElem?_getD,h2]
 rw[a1,a2]at hp;apply UInt8.toNat_inj.1;have:=p[i].toNat_lt;have:=q[i].toNat_lt;simp at hp;omega
end Go.Lv
namespace Go.Pl
open Go Go.Lv
theorem Bae(b:List UInt8)(hb:b.length<4611686018427387904):∀(j q:Nat),j<=b.length->j<q->Qe b q (sV (b.drop j)) ((j:Int)-1)=some (sV b)
 |0,q+1,_,_=>by
  rw[Qe,EN,Aac (by rw[Ea];simp)];simp[YN,aF]
 |j+1,q+1,hj,hq=>by
  rw[Qe,EN,Aau (by rw[Ea];simp),show((j+1:Nat):Int)-1=(j:Int) by omega,Bq (by omega),Aa,Bu (by omega) (by omega)];have h:Ad (Bj (256:UInt64) (sV (b.drop (j+1)))) (Af b[j]:UInt64)=sV (b.drop j):=by
   rw[QN,QW,uP,drop_cons (n:=j) (by omega),sV,sV,Fz,UInt64.ofNat_add,UInt64.ofNat_mul];exact UInt64.add_comm _ _
  rw[h];exact Bae b hb j q (by omega) (by omega)
theorem An9(b:List UInt8)(hb:b.length<4611686018427387904):El b=some (sV b):=by
 have h:=Bae b hb b.length Ax (Am4 _) (by have:=As;omega);rw[El,aH,WV];have e:Ao (Ac b) 1=(b.length:Int)-1:=Bu (by unfold Ac;omega) (by unfold Ac;omega);rw[e,<-h,Bje];rfl
theorem Bao{n c:UInt64}{i:Nat}(hn:n.toNat<2^i)(hc:c.toNat*2^i<18446744073709551616):uJ n (Dt c i)=UInt64.ofNat (n.toNat+c.toNat*2^i):=by
 rw[Bbq];apply UInt64.toNat_inj.1;rw[UInt64.toNat_or,ZG,Abl hc,Ao6,Nat.or_comm,<-Be2 hn,Akr,Abl,Bk0,Ao6];have h:=Be2 hn c.toNat;have h2:2^i*c.toNat+n.toNat<2^64:=by
  rw[h];exact Nat.or_lt_two_pow (by rw[Ao6];simpa using hc) n.toNat_lt
 rw[Bk0];first|exact h2|(rw[Ao6];exact h2)
theorem Ag9(b:List UInt8)(hb:b.length<=8):∀(j i q:Nat),i+j=b.length->j<q->GM b q (sV (b.take i)) (i:Int)=some (sV b,0)
 |0,i,q+1,hi,_=>by
  rw[GM,bC,Aac (by rw[Ae,Ac];simp;omega),show i=b.length by omega,Awj];rfl
 |j+1,i,q+1,hi,hq=>by
  have hlt:i<b.length:=by omega
  rw[GM,bC,Aau (by rw[Ae,Ac];simp;omega),Bq hlt,Aa,Fh (by omega) (by omega),Bl (by rw[Ea];simp;omega),Aa,Ah (by omega) (by omega)];have h:uJ (sV (b.take i)) (Dt (Af b[i]:UInt64) (GI.toZ ((8:Int)*(i:Int))).toNat)=sV (b.take (i+1)):=by
   have e:(GI.toZ ((8:Int)*(i:Int))).toNat=8*i:=by show((8:Int)*(i:Int)).toNat=_;omega
   have e2:(2:Nat)^(8*i)=256^i:=by rw[Nat.pow_mul]
   have h1:=Ajr (b.take i);rw[Ag1,Bev (by omega)]at h1;have h3:=b[i].toNat_lt;have hle:(256:Nat)^(i+1)<=256^8:=Agq (by omega) (by omega);rw[Awk]at hle;have h4:(Af b[i]:UInt64).toNat=b[i].toNat:=by rw[uP,Akr];omega
   have h5:b[i].toNat*256^i<18446744073709551616:=by
    have:b[i].toNat*256^i<256*256^i:=Nat.mul_lt_mul_of_pos_right (by simpa using h3) (Bjl (by omega));simp at hle;omega
   rw[e,Bao (by rw[bP (by simp;omega),e2];exact h1) (by rw[h4,e2];exact h5),bP (by simp;omega),h4,e2,Md hlt];rw[sV,Ad4];simp only[Fz,Ag1,Bev (Nat.le_of_lt hlt),Nat.mul_zero,Bhl];rw[Ao6]
  rw[h];exact Ag9 b hb j (i+1) q (by omega) (by omega)
theorem Amb(b:List UInt8)(h1:1<=b.length)(h2:b.length<=8):nV b=some (sV b,0):=by
 have h:=Ag9 b h2 b.length 0 Ax (by omega) (by have:=As;omega);rw[nV,mW,Aac (by simp[Ae,Aq,Ac];omega),pH];exact h
def part(b:List UInt8)(at' w:Nat):List UInt8:=(b.take (at'+w)).drop at'
theorem Ez{b:List UInt8}{a w:Nat}(h:a+w<=b.length):(part b a w).length=w:=by simp[part];omega
theorem Ag8(b:List UInt8)(a w:Nat)(h1:1<=w)(h2:w<=8)(h3:a+w<=b.length)(hb:b.length<4611686018427387904):dX b (a:Int) (w:Int)=some (sV (part b a w),0):=by
 rw[dX,Aac (by simp[Ae,Aq];omega),Aac (by rw[Aq,Bu (by unfold Ac;omega) (by unfold Ac;omega),Ac];simp;omega),Ah (by omega) (by omega),Uk (by omega) (by omega) (by omega),Aa];rw[show((a:Int)+(w:Int)).toNat=a+w by omega,show(a:Int).toNat=a by omega];rw[Amb _ (by rw[show((b.take (a+w)).drop a).length=_ from Ez h3];exact h1) (by rw[show((b.take (a+w)).drop a).length=_ from Ez h3];exact h2),Aa];rfl
theorem zX(w:Nat)(hw:w<=1000):∀(j i q:Nat) (n:UInt64) (acc:List UInt8),i+j=w->j<q->acc.length+j<=1000000->Jg (w:Int) q n (i:Int) acc=some (acc++Ry n.toNat j)
 |0,i,q+1,n,acc,hi,_,_=>by
  rw[Jg,Us,Aac (by rw[Ae];simp;omega)];simp[FL,FU,Ry]
 |j+1,i,q+1,n,acc,hi,hq,ha=>by
  rw[Jg,Us,Aau (by rw[Ae];simp;omega)];have e:(Af (GY n (256:UInt64)):UInt8)=UInt8.ofNat n.toNat:=by
   rw[ZQ,Ams];apply UInt8.toNat_inj.1;rw[Aol,Aol,UInt64.toNat_mod]
   show n.toNat %256 %256=_;omega
  have e2:(Bw n (256:UInt64)).toNat=n.toNat/256:=by rw[uV,Blw];rfl
  rw[Bi (by simp;omega),Aa,Ah (by omega) (by omega),e];have h:=zX w hw j (i+1) q (Bw n 256) (acc++[UInt8.ofNat n.toNat]) (by omega) (by omega) (by simp;omega);rw[e2]at h;rw[show((i:Int)+1)=((i+1:Nat):Int) by omega,h,Ry];simp
theorem Adq(n:UInt64)(w:Nat)(hw:w<=1000):Fq n (w:Int)=some (Ry n.toNat w):=by
 rw[Fq,GK,GF];have h:=zX w hw w 0 Ax n [] (by omega) (by have:=As;omega) (by simp;omega);simpa using h
theorem qJ{α:Type}{l m:List α}{x y:α}{i:Nat}(h:l.length=i):(l++x::m).set i y=l++y::m:=by subst h;simp
theorem Ag3(n:UInt64)(l4:List UInt8)(w:Nat)(hl:l4.length=w)(hw:w<=8):∀(j i q:Nat),i+j=w->j<q->FR n l4 q (i:Int) (Ry n.toNat i++List.replicate j 0)=some (Ry n.toNat w,0)
 |0,i,q+1,hi,_=>by
  rw[FR,bU,Aac (by rw[Ae,Ac];simp;omega)];obtain rfl:i=w:=by omega
  simp[pB,Aad]
 |j+1,i,q+1,hi,hq=>by
  have hlen:(Ry n.toNat i++List.replicate (j+1) 0).length=i+(j+1):=by simp[Ce]
  rw[FR,bU,Aau (by rw[Ae,Ac];simp;omega),Fh (by omega) (by omega),Bl (by rw[Ea];simp;omega),Aa,Bq (by rw[hlen];omega),Aa,Wf _ (by rw[hlen];omega),Aa,Ah (by omega) (by omega)];have e:(Af (Ck n (GI.toZ ((8:Int)*(i:Int))).toNat):UInt8)=UInt8.ofNat (n.toNat/256^i):=by
   have e:(GI.toZ ((8:Int)*(i:Int))).toNat=8*i:=by show((8:Int)*(i:Int)).toNat=_;omega
   rw[e,ZQ,LM,Nat.pow_mul]
  rw[e,Bgj,qJ (Ce _ _)];have h:=Ag3 n l4 w hl hw j (i+1) q (by omega) (by omega);rw[Ank]at h;simpa using h
theorem Bds(n:UInt64)(w:Nat)(h1:1<=w)(h2:w<=8)(h:n.toNat<256^w):Abx n (w:Int)=some true:=by
 rw[Abx];by_cases h8:w=8
 ·subst h8;rw[Aau (by rw[Ar];rfl)]
 ·rw[Aac (by rw[Ar];simp;omega),Fh (by omega) (by omega),Bl (by rw[Ea];simp;omega),Aa];have e:(GI.toZ ((8:Int)*(w:Int))).toNat=8*w:=by show((8:Int)*(w:Int)).toNat=_;omega
  rw[e,Abw];have:Ck n (8*w)=0:=by
   apply UInt64.toNat_inj.1;rw[LM,Nat.pow_mul];exact Bhr h
  rw[this];rfl
theorem XP(n:UInt64)(w:Nat)(h1:1<=w)(h2:w<=8)(h:n.toNat<256^w):DK n (w:Int)=some (Ry n.toNat w,0):=by
 rw[DK,mK,Aac (by simp[Ae,Aq];omega),Bds n w h1 h2 h,Aa,Aac (by simp),rZ (by omega) (by omega),Aa,Bl (by rw[Ar];simp),Aa,oN];have h:=Ag3 n (List.replicate (w:Int).toNat 0) w (by simp) h2 w 0 Ax (by omega) (by have:=As;omega);simpa [Ry]using h
theorem Aa3(n:Nat)(h:n<4611686018427387904):Fe (n:Int) (7:Int)=((n %8:Nat):Int):=by
 have e:Fe (n:Int) (7:Int)=wrap64 ((BitVec.ofInt 64 (n:Int)&&&BitVec.ofInt 64 7).toNat:Int):=rfl;rw[e,BitVec.toNat_and,Bho,Bho];have h1:((n:Int) %((2^64:Nat):Int)).toNat=n:=by omega
 have h2:((7:Int) %((2^64:Nat):Int)).toNat=2^3-1:=by decide
 rw[h1,h2,Bjs,Df (by omega) (by omega)]
theorem Bhy(n:Nat):Ajw (n:Int) (GI.toZ (3:UInt64)).toNat=((n/8:Nat):Int):=by
 have e:Ajw (n:Int) (GI.toZ (3:UInt64)).toNat=(n:Int).fdiv 8:=rfl;rw[e,As3 _ (by omega)];omega
theorem Bil{t:Nat}(h:t<=8):Ao (Dt (1:UInt8) t) (1:UInt8)=UInt8.ofNat (2^t-1):=by
 have:t=0\/t=1\/t=2\/t=3\/t=4\/t=5\/t=6\/t=7\/t=8:=by omega
 rcases this with rfl|rfl|rfl|rfl|rfl|rfl|rfl|rfl|rfl<;>decide
theorem bitsOf(c:UInt8)(off t:Nat)(h:t<=8):(Fe (Ck c off) (Ao (Dt (1:UInt8) t) (1:UInt8))).toNat=c.toNat/2^off %2^t:=by
 have hp:2^t<=2^8:=Agq (by omega) h;rw[Bil h,Asp,UInt8.toNat_and,Ajm,Aol,Abl (by have:=Bjl (n:=t) (show 0<2 by omega);omega),Bjs]
theorem Adb{p:List UInt8}{k:Nat}(h:k<p.length):Ap p (k:Int)=some (p.getD k 0):=by
 rw[Bq h];simp[List.getD_eq_getElem?_getD,h]
def Qy(p:List UInt8)(a n:Nat):UInt64:=UInt64.ofNat (Cf p a n)
theorem AF(p:List UInt8)(a n:Nat)(h:n<=64):(Qy p a n).toNat=Cf p a n:=by
 have h1:=Qv p n a;have h2:2^n<=2^64:=Agq (by omega) h;rw[Qy,Akr,Abl (by omega)]
theorem Alk(p:List UInt8)(N:Int)(a n:Nat)(hn:n<=64)(ha:a+n<=8*p.length)(hp:p.length<=1000000):∀(j h q:Nat),h+j=n->j<q->RI (a:Int) (n:Int) p N q (Qy p a h) (h:Int)=some (Qy p a n)
 |j,h,q+1,hj,hq=>by
  rw[RI,nD];by_cases hlt:h<n
  ·have e1:Ad (a:Int) (h:Int)=((a+h:Nat):Int):=by rw[Ah (by omega) (by omega)];omega
   have e2:Fo (Ao (n:Int) (h:Int)) (Ao (8:Int) (((a+h) %8:Nat):Int))=((min (n-h) (8-(a+h) %8):Nat):Int):=by
    rw[OY,Bu (by omega) (by omega),Bu (by omega) (by omega)];omega
   have hm:(a+h)/8<p.length:=by omega
   rw[Aau (by rw[Ae];simp;omega),e1,Bhy,Adb hm,Aa,Aa3 _ (by omega),Bl (by rw[Ea];simp;omega),Aa,e2,Bl (by rw[Ea];simp),Aa,Bl (by rw[Ea];simp),Aa];generalize hT:min (n-h) (8-(a+h) %8)=T;have hT8:T<=8:=by omega
   have hT1:1<=T:=by omega
   have hb:(a+h) %8+T<=8:=by omega
   have hv:=eT p (a+h) T hb;have z1:(GI.toZ (((a+h) %8:Nat):Int)).toNat=(a+h) %8:=rfl;have z2:(GI.toZ ((T:Nat):Int)).toNat=T:=rfl;have z3:(GI.toZ ((h:Nat):Int)).toNat=h:=rfl;rw[z1,z2,z3];have hx:(Af (Fe (Ck (p.getD ((a+h)/8) 0) ((a+h) %8)) (Ao (Dt (1:UInt8) T) (1:UInt8))):UInt64).toNat=Cf p (a+h) T:=by
    rw[uP,Akr,bitsOf _ _ _ hT8,<-hv];have:=Qv p T (a+h);have h2:2^T<=2^8:=Agq (by omega) hT8;omega
   have hlt2:=Qv p (h+T) a;rw[QJ]at hlt2;have h64:2^(h+T)<=2^64:=Agq (by omega) (by omega);have hor:uJ (Qy p a h) (Dt (Af (Fe (Ck (p.getD ((a+h)/8) 0) ((a+h) %8)) (Ao (Dt (1:UInt8) T) (1:UInt8))):UInt64) h)=Qy p a (h+T):=by
    rw[Bao (by rw[AF p a h (by omega)];exact Qv p h a) (by rw[hx,Ao6];omega),hx,AF p a h (by omega),Qy,QJ,Ao6 (2^h)]
   rw[hor,Ah (by omega) (by omega),show(h:Int)+((T:Nat):Int)=((h+T:Nat):Int) by omega];exact Alk p N a n hn ha hp (j-T) (h+T) q (by omega) (by omega)
  ·rw[Aac (by rw[Ae];simp;omega),show h=n by omega];rfl
theorem get_eq(p:List UInt8)(N:Int)(a n:Nat)(hn:n<=64)(ha:a+n<=8*p.length)(hp:p.length<=1000000):vB p N (a:Int) (n:Int)=some (Qy p a n):=by
 have:=Alk p N a n hn ha hp n 0 Ax (by omega) (by have:=As;omega);exact this
theorem AT{p:List UInt8}{n:Nat}(h:okB p n):Ki p (n:Int)=some 0:=by
 obtain⟨h1,h2,h3⟩:=h;have e7:Ad (n:Int) 7=((n+7:Nat):Int):=by rw[Ah (by omega) (by omega)];omega
 rw[Ki,e7,Bhy,Aac (by simp[Ae,Aq,Aj,Ac,h2];omega),Aa3 _ (by omega)];by_cases hz:n %8=0
 ·rw[Aac (by rw[Aq];simp;omega)]
 ·have el:Ao (Ac p) 1=((p.length-1:Nat):Int):=by rw[Ac,Bu (by omega) (by omega)];omega
  rw[Aau (by rw[Aq];simp;omega),el,Adb (by omega),Aa,Bl (by rw[Ea];simp;omega),Aa];have z:(GI.toZ ((n %8:Nat):Int)).toNat=n %8:=rfl;have hs:Ck (p.getD (p.length-1) 0) (n %8)=0:=by
   apply UInt8.toNat_inj.1;rw[Ajm];have hv:=eT p n (8-n %8) (by omega);have h0:Cf p n (8-n %8)=0:=yY _ _ λk hk=>h3 _ (by omega) (by omega);rw[h0,show n/8=p.length-1 by omega]at hv;have hlt:(p.getD (p.length-1) 0).toNat/2^(n %8)<2^(8-n %8):=by
    have:=(p.getD (p.length-1) 0).toNat_lt;rw[Nat.div_lt_iff_lt_mul (Bjl (by omega)),<-Blr,show 8-n %8+n %8=8 by omega];simpa using this
   rw[Abl hlt]at hv;exact hv.symm
  rw[z,hs,Aac (by rw[Ark];simp)]
theorem yR{p:List UInt8}{N:Nat}(h:okB p N)(a n:Nat)(hn:n<=64):HG p (N:Int) (a:Int) (n:Int)=some (if N<a+n then(0,24)else(Qy p a n,0)):=by
 obtain⟨h1,h2,h3⟩:=h;rw[HG,AT ⟨h1,h2,h3⟩,Aa,Aac (by rw[Aj];simp),Aac (by simp[Ae,Aq];omega),Bu (by omega) (by omega)];by_cases hl:N<a+n
 ·rw[Aau (by rw[Aq];simp;omega),Aau hl]
 ·rw[Aac (by rw[Aq];simp;omega),get_eq p N a n hn (by omega) (by omega),Aa,Aac hl]
theorem Bj1(c:Nat)(h:c<4611686018427387904):Bw (c:Int) (2:Int)=((c/2:Nat):Int):=by
 rw[TC,Bgx (by omega),Df (by omega) (by omega)];omega
theorem Bid(c:Nat)(h:c<4611686018427387904):Bw (c:Int) (8:Int)=((c/8:Nat):Int):=by
 rw[TC,Bgx (by omega),Df (by omega) (by omega)];omega
theorem Axc(c:Nat):Gw (c:Int) (8:Int)=((c %8:Nat):Int):=by rw[Gw,Bkf (by omega)];omega
theorem Bj2(c:Nat):Gw (c:Int) (2:Int)=((c %2:Nat):Int):=by rw[Gw,Bkf (by omega)];omega
theorem Asz(i c:Nat)(hc:c<256):∀(j k q:Nat),k+j=i %8->j<q->Qh (i:Int) q ((c/2^k:Nat):Int) (k:Int)=some (((c/2^(i %8) %2:Nat):Int))
 |0,k,q+1,hk,_=>by
  rw[Qh,EG,Axc,Aac (by rw[Ae];simp;omega),YL,aC,Bj2,show k=i %8 by omega]
 |j+1,k,q+1,hk,hq=>by
  have hle:c/2^k<=c:=Arh _ _;rw[Qh,EG,Axc,Aau (by rw[Ae];simp;omega),Bj1 _ (by omega),Ah (by omega) (by omega),Bjt,<-Awk];exact Asz i c hc j (k+1) q (by omega) (by omega)
theorem yU(p:List UInt8)(N:Int)(i:Nat)(h:i/8<p.length)(hi:i<4611686018427387904):Of p N (i:Int)=some ((Ho p i:Nat):Int):=by
 have hc:=(p.getD (i/8) 0).toNat_lt;have:=Asz i (p.getD (i/8) 0).toNat (by simpa using hc) (i %8) 0 Ax (by omega) (by have:=As;omega);rw[Of,YA,Bid _ hi,Adb h,Aa,WN,XX];simpa [Ho]using this
theorem Ada(p:List UInt8)(N:Int)(a n:Nat)(ha:a+n<=8*p.length)(hp:p.length<=1000000):∀(j q:Nat),j<=n->j<q->Lo (a:Int) p N q (Qy p (a+j) (n-j)) ((j:Int)-1)=some (Qy p a n)
 |0,q+1,_,_=>by
  rw[Lo,Xu,Aac (by rw[Ea];simp)];rfl
 |j+1,q+1,hj,hq=>by
  have hb:=DH p (a+j);rw[Lo,Xu,show((j+1:Nat):Int)-1=(j:Int) by omega,Aau (by rw[Ea];simp),Ah (a:=(a:Int)) (by omega) (by omega),show(a:Int)+(j:Int)=((a+j:Nat):Int) by omega,yU p N (a+j) (by omega) (by omega),Aa,Bu (by omega) (by omega)];have e:Ad (Bj (2:UInt64) (Qy p (a+(j+1)) (n-(j+1)))) (Af ((Ho p (a+j):Nat):Int):UInt64)=Qy p (a+j) (n-j):=by
   rw[QN,QW,Xg,Qy,Qy,show n-j=(n-(j+1))+1 by omega,Cf,show a+j+1=a+(j+1) by omega,UInt64.ofNat_add,UInt64.ofNat_mul];exact UInt64.add_comm _ _
  rw[e];exact Ada p N a n ha hp j q (by omega) (by omega)
theorem tD(p:List UInt8)(N:Int)(a n:Nat)(ha:a+n<=8*p.length)(hp:p.length<=1000000):Wc p N (a:Int) (n:Int)=some (Qy p a n):=by
 have:=Ada p N a n ha hp n Ax (Am4 _) (by have:=As;omega);have hz:Qy p (a+n) (n-n)=0:=by rw[Nat.sub_self];rfl
 rw[hz]at this;rw[Wc,NG,MG,Bu (by omega) (by omega)];exact this
theorem Atp(bit:Int)(N:Nat)(l:List UInt8):∀(j k q:Nat),k+j=N %8->j<q->Oj bit (N:Int) l q ((2^k:Nat):Int) (k:Int)=CI bit ((2^(N %8):Nat):Int) (N:Int) l
 |0,k,q+1,hk,_=>by
  rw[Oj,CX,Axc,Aac (by rw[Ae];simp;omega),show k=N %8 by omega]
 |j+1,k,q+1,hk,hq=>by
  have hp:2^k<=2^8:=Agq (by omega) (by omega);have e:Bj ((2^k:Nat):Int) 2=((2^(k+1):Nat):Int):=by
   rw[Awk];generalize 2^k=K at*
   rw[Fh (by omega) (by omega)];omega
  rw[Oj,CX,Axc,Aau (by rw[Ae];simp;omega),e,Ah (by omega) (by omega)];exact Atp bit N l j (k+1) q (by omega) (by omega)
theorem Agb(p:List UInt8)(a n j:Nat)(h:j<(n+7)/8):(Rt p a n)[j]'(by rw[Kt];exact h)=UInt8.ofNat (Cf p (a+8*j) (min 8 (n-8*j))):=by simp[Rt]
theorem wU(p:List UInt8)(a t:Nat)(h:t<=8):Cf p a t<256:=by
 have h1:=Qv p t a;have h2:2^t<=2^8:=Agq (by omega) h;omega
def room(p:List UInt8)(a n:Nat):List UInt8:=if n %8=0 then Rt p a n++[0]else Rt p a n
theorem Pz(p:List UInt8)(a n:Nat):(room p a n).length=n/8+1:=by
 rw[room];split<;>simp[Kt]<;>omega
theorem An1(p:List UInt8)(a n j:Nat)(h:j<n/8+1):(room p a n)[j]'(by rw[Pz];exact h)=UInt8.ofNat (Cf p (a+8*j) (min 8 (n-8*j))):=by
 have h0:(room p a n)[j]? =some (UInt8.ofNat (Cf p (a+8*j) (min 8 (n-8*j)))):=by
  rw[room];split
  ·by_cases hj:j<(n+7)/8
   ·rw[List.getElem?_append_left (by rw[Kt];exact hj),List.getElem?_eq_getElem (by rw[Kt];exact hj),Agb p a n j hj]
   ·rw[List.getElem?_append_right (by rw[Kt];omega),Kt,show j-(n+7)/8=0 by omega,show n-8*j=0 by omega];rfl
  ·rw[List.getElem?_eq_getElem (by rw[Kt];omega),Agb p a n j (by omega)]
 rw[List.getElem?_eq_getElem (by rw[Pz];exact h)]at h0;exact Atf h0
theorem xF(p:List UInt8)(a n T:Nat)(h1:1<=T)(h:n %8+T<=8):(room p a n).set (n/8) (UInt8.ofNat (Cf p (a+8*(n/8)) (n %8+T)))=Rt p a (n+T):=by
 apply Bee (by rw[Bju,Pz,Kt];omega);intro j g1 g2;rw[Bju,Pz]at g1;rw[Blx,Agb p a (n+T) j (by rw[Kt]at g2;exact g2)];split
 ·rename_i e;subst e;rw[show min 8 (n+T-8*(n/8))=n %8+T by omega]
 ·rw[An1 p a n j g1,show min 8 (n-8*j)=8 by omega,show min 8 (n+T-8*j)=8 by omega]
theorem qO(p:List UInt8)(a n:Nat):(room p a n)[n/8]'(by rw[Pz];omega)=UInt8.ofNat (Cf p (a+8*(n/8)) (n %8)):=by
 rw[An1 p a n _ (by omega),show min 8 (n-8*(n/8))=n %8 by omega]
theorem Axn(p:List UInt8)(a n:Nat)(hn:n<=400000):BA (Rt p a n) (n:Int) ((Ho p (a+n):Nat):Int)=some (Rt p a (n+1),((n+1:Nat):Int)):=by
 have hb:=DH p (a+n);have hp:2^(n %8)<=2^7:=Agq (by omega) (by omega);have hroom:BA (Rt p a n) (n:Int) ((Ho p (a+n):Nat):Int)=CT ((Ho p (a+n):Nat):Int) (n:Int) (room p a n):=by
  rw[BA,UT,Axc,room];by_cases h0:n %8=0
  ·rw[Aau (by rw[Ar,h0];rfl),Bi (by rw[Kt];simp;omega),Aa,Aau h0]
  ·rw[Aac (by rw[Ar];simp;omega),Aac h0]
 have hl:=Atp ((Ho p (a+n):Nat):Int) n (room p a n) (n %8) 0 Ax (by omega) (by have:=As;omega);rw[hroom,CT,UR,VB];refine Bhp hl ?_;have hg:Ap (room p a n) ((n/8:Nat):Int)=some (UInt8.ofNat (Cf p (a+8*(n/8)) (n %8))):=by
  rw[Bq (by rw[Pz];omega),qO]
 have hlt:=wU p (a+8*(n/8)) (n %8+1) (by omega);have hsn:=qD p (a+8*(n/8)) (n %8);rw[show a+8*(n/8)+n %8=a+n by omega]at hsn;have hm:Bj ((Ho p (a+n):Nat):Int) ((2^(n %8):Nat):Int)=((2^(n %8)*Ho p (a+n):Nat):Int):=by
  have hle:2^(n %8)*Ho p (a+n)<=2^7*1:=Bem hp (by omega);rw[Ayo,<-Apa,Df (by omega) (by rw[Ao6];omega),Ao6]
 have hx:Ad (UInt8.ofNat (Cf p (a+8*(n/8)) (n %8))) (Af (((2^(n %8)*Ho p (a+n):Nat):Int)):UInt8)=UInt8.ofNat (Cf p (a+8*(n/8)) (n %8+1)):=by
  rw[Bdx,Azw,hsn,UInt8.ofNat_add]
 rw[CI,UO,Bid _ (by omega),hg,Aa,Aa,Aa,hm,hx,Wf _ (by rw[Pz];omega),Aa,xF p a n 1 (by omega) (by omega),Ah (by omega) (by omega)];rfl
theorem wX(p:List UInt8)(N:Int)(a n:Nat)(ha:a+n<=8*p.length)(hp:p.length<=1000000)(hn:n<=300000):∀(j m q:Nat),m+j=n->j<q->Jl ((a+n:Nat):Int) p N q ((a+m:Nat):Int) (m:Int) (Rt p a m)=some (Rt p a n,(n:Int))
 |0,m,q+1,hm,_=>by
  rw[Jl,Ve,Aac (by rw[Ae];simp;omega),show m=n by omega];rfl
 |j+1,m,q+1,hm,hq=>by
  rw[Jl,Ve,Aau (by rw[Ae];simp;omega),yU p N (a+m) (by omega) (by omega),Aa,Axn p a m (by omega),Aa];simp only;rw[Ah (by omega) (by omega)];exact wX p N a n ha hp hn j (m+1) q (by omega) (by omega)
theorem Anf(p:List UInt8)(N:Int)(a n:Nat)(ha:a+n<=8*p.length)(hp:p.length<=1000000)(hn:n<=300000):QZ p N (a:Int) ((a+n:Nat):Int)=some (Rt p a n,(n:Int)):=by
 have:=wX p N a n ha hp hn n 0 Ax (by omega) (by have:=As;omega);exact this
theorem Bft{t:Nat}(h:t<=8):Ao (Dt (1:UInt64) t) (1:UInt64)=UInt64.ofNat (2^t-1):=by
 have:t=0\/t=1\/t=2\/t=3\/t=4\/t=5\/t=6\/t=7\/t=8:=by omega
 rcases this with rfl|rfl|rfl|rfl|rfl|rfl|rfl|rfl|rfl<;>decide
theorem Biw(v:UInt64){t:Nat}(h:t<=8):(Fe v (Ao (Dt (1:UInt64) t) (1:UInt64))).toNat=v.toNat %2^t:=by
 have hp:2^t<=2^8:=Agq (by omega) h;rw[Bft h,Adw,UInt64.toNat_and,Akr,Abl (by have:=Bjl (n:=t) (show 0<2 by omega);omega),Bjs]
theorem or8{v w i:Nat}(hv:v<2^i)(hw:w*2^i<256)(hi:i<8):uJ (UInt8.ofNat v) (Dt (UInt8.ofNat w) i)=UInt8.ofNat (v+w*2^i):=by
 have hp:2^i<=2^8:=Agq (by omega) (by omega);have hpos:0<2^i:=Bjl (by omega);have hw2:w<256:=Bh4 (Bls w hpos) hw;rw[Bg5];apply UInt8.toNat_inj.1;have e1:(UInt8.ofNat v).toNat=v:=by rw[Aol,Abl (by omega)]
 have e2:(UInt8.ofNat w).toNat=w:=by rw[Aol,Abl (by omega)]
 rw[UInt8.toNat_or,Bdg,e1,e2,Abl hw,Ao6 w,Nat.or_comm,<-Be2 hv,Aol,Bk0 v];rw[Ao6]at hw;have hb:2^i*w+v<256:=by
  rw[Be2 hv];exact Nat.or_lt_two_pow (n:=8) hw (by omega)
 rw[Abl hb]
theorem Ao2(p:List UInt8)(a n T:Nat)(h:T<=n)(hn:n<=64):Ck (Qy p a n) T=Qy p (a+T) (n-T):=by
 apply UInt64.toNat_inj.1;rw[LM,AF p a n hn,AF p (a+T) (n-T) (by omega)];have:=Qv p T a
 conv=>lhs;rw[show n=T+(n-T) by omega,QJ,Nat.add_mul_div_left _ _ (Bjl (by omega)),Bhr this,Ay1]
theorem Amm(p:List UInt8)(a n T:Nat)(h:T<=n)(hn:n<=64):(Qy p a n).toNat %2^T=Cf p a T:=by
 have:=Qv p T a;rw[AF p a n hn]
 conv=>lhs;rw[show n=T+(n-T) by omega,QJ,Nat.add_mul_mod_self_left,Abl this]
theorem Adx(bk:Int->Int->List UInt8->Option (List UInt8×Int×Int))(to':Int)(p:List UInt8)(N fr:Int)(r6:UInt64)(a:Nat):∀(j m q:Nat),m+j<=300000->j<=64->j<q->
  Rq bk to' p N fr r6 q (Qy p (a+m) j) (j:Int) (m:Int) (Rt p a m)=WB bk to' p N fr ((m+j:Nat):Int) (Rt p a (m+j))
 |0,m,q+1,_,_,_=>by
  rw[Rq,VX,Aac (by rw[Aq];simp)];rfl
 |j+1,m,q+1,hm,hj,hq=>by
  have hroom:Rq bk to' p N fr r6 (q+1) (Qy p (a+m) (j+1)) ((j+1:Nat):Int) (m:Int) (Rt p a m)=WC (Rq bk to' p N fr r6 q) to' fr p N r6 (Qy p (a+m) (j+1)) ((j+1:Nat):Int) (m:Int) (room p a m):=by
   rw[Rq,VX,Aau (by rw[Aq];simp),Aa3 m (by omega),room];by_cases h0:m %8=0
   ·rw[Aau (by rw[Ar,h0];rfl),Bi (by rw[Kt];simp;omega),Aa,Aau h0]
   ·rw[Aac (by rw[Ar];simp;omega),Aac h0]
  have hl:Ao (Ac (room p a m)) 1=((m/8:Nat):Int):=by
   rw[Ac,Pz,Bu (by omega) (by omega)];omega
  have e2:Fo ((j+1:Nat):Int) (Ao (8:Int) ((m %8:Nat):Int))=((min (j+1) (8-m %8):Nat):Int):=by
   rw[OY,Bu (by omega) (by omega)];omega
  rw[hroom,WC,jH,Aa3 m (by omega),e2,hl];generalize hT:min (j+1) (8-m %8)=T;have hT1:1<=T:=by omega
  have hT8:m %8+T<=8:=by omega
  have hg:Ap (room p a m) ((m/8:Nat):Int)=some (UInt8.ofNat (Cf p (a+8*(m/8)) (m %8))):=by
   rw[Bq (by rw[Pz];omega),qO]
  have z1:(GI.toZ ((m %8:Nat):Int)).toNat=m %8:=rfl;have z2:(GI.toZ ((T:Nat):Int)).toNat=T:=rfl;have hlt:=wU p (a+8*(m/8)) (m %8+T) (by omega);have hadd:=QJ p (m %8) T (a+8*(m/8));rw[show a+8*(m/8)+m %8=a+m by omega]at hadd;have hbyte:(Af (Fe (Qy p (a+m) (j+1)) (Ao (Dt (1:UInt64) T) (1:UInt64))):UInt8)=UInt8.ofNat (Cf p (a+m) T):=by
   rw[ZQ,Biw _ (by omega),Amm p (a+m) (j+1) T (by omega) hj]
  have hnew:uJ (UInt8.ofNat (Cf p (a+8*(m/8)) (m %8))) (Dt (UInt8.ofNat (Cf p (a+m) T)) (m %8))=UInt8.ofNat (Cf p (a+8*(m/8)) (m %8+T)):=by
   rw[or8 (Qv _ _ _) (by rw[Ao6];omega) (by omega),hadd,Ao6 (2^(m %8))]
  rw[hg,z1,z2,hbyte];simp only[Aa];rw[Bl (by rw[Ea];simp),Aa,Bl (by rw[Ea];simp;omega),Aa,hnew,Wf _ (by rw[Pz];omega),Aa,xF p a m T hT1 hT8,iY,wW,Aa3 m (by omega),e2,hT,Bl (by rw[Ea];simp),Aa,z2,Ao2 p (a+m) (j+1) T (by omega) hj,Bu (by omega) (by omega),Ah (by omega) (by omega)];have ih:=Adx bk to' p N fr r6 a (j+1-T) (m+T) q (by omega) (by omega) (by omega);rw[show m+T+(j+1-T)=m+(j+1) by omega]at ih;rw[<-ih,show a+m+T=a+(m+T) by omega,show((j+1:Nat):Int)-((T:Nat):Int)=((j+1-T:Nat):Int) by omega,show(m:Int)+((T:Nat):Int)=((m+T:Nat):Int) by omega]
theorem Ame(p:List UInt8)(N:Int)(a n:Nat)(ha:a+n<=8*p.length)(hp:p.length<=1000000)(hn:n<=300000):∀(j m f q:Nat),(f=m\/n<=f/\m=n)->m+j=n->f<=n+64->j<q->BD ((a+n:Nat):Int) p N q ((a+f:Nat):Int) (m:Int) (Rt p a m)=some (Rt p a n,(n:Int),0)
 |j,m,f,q+1,hf,hm,hf2,hq=>by
  rw[BD,kI];by_cases hlt:f<n
  ·obtain rfl:f=m:=by omega
   have e1:Fo (64:Int) (Ao ((a+n:Nat):Int) ((a+f:Nat):Int))=((min 64 (n-f):Nat):Int):=by
    rw[OY,Bu (by omega) (by omega)];omega
   rw[Aau (by rw[Ae];simp;omega),e1,get_eq p N (a+f) _ (by omega) (by omega) hp,Aa,iT];have h1:=Adx (BD ((a+n:Nat):Int) p N q) ((a+n:Nat):Int) p N ((a+f:Nat):Int) (Qy p (a+f) (min 64 (n-f))) a (min 64 (n-f)) f Ax (by omega) (by omega) (by have:=As;omega);refine Bhp h1 ?_;rw[WB,uX,Ah (by omega) (by omega),show((a+f:Nat):Int)+64=((a+(f+64):Nat):Int) by omega];exact Ame p N a n ha hp hn (j-min 64 (n-f)) (f+min 64 (n-f)) (f+64) q (by omega) (by omega) (by omega) (by omega)
  ·rw[Aac (by rw[Ae];simp;omega),iZ,vF,show m=n by omega]
theorem Bfe{p:List UInt8}{N:Nat}(h:okB p N)(a n:Nat)(ha:a+n<=N)(hn:n<=300000):nX p (N:Int) (a:Int) ((a+n:Nat):Int)=some (Rt p a n,(n:Int),0):=by
 obtain⟨h1,h2,h3⟩:=h;have:=Ame p N a n (by omega) (by omega) hn n 0 0 Ax (by omega) (by omega) (by omega) (by have:=As;omega);rw[nX,oI,AT ⟨h1,h2,h3⟩,Aa,Aac (by rw[Aj];simp),Aac (by simp[Ae,Aq];omega),jS];exact this
def Gx(p:List UInt8):Nat->Nat->Nat
 |_,0=>0
 |a,m+1=>if Ho p a=1 then 1+Gx p (a+1) m else 0
theorem aX(p:List UInt8):∀(m a:Nat),Gx p a m<=m
 |0,_=>Am4 _
 |m+1,a=>by rw[Gx];split<;>have:=aX p m (a+1)<;>omega
theorem Alv(p:List UInt8):∀(m a:Nat),∃s,Cf p a m+1=2^(Gx p a m+1)*s+2^Gx p a m/\ (Gx p a m=m->s=0)
 |0,a=>⟨0,by simp[Cf,Gx],λ_=>rfl⟩
 |m+1,a=>by
  have hb:=DH p a;obtain⟨s,h1,h2⟩:=Alv p m (a+1);by_cases h:Ho p a=1
  ·refine⟨s,?_,λe=>h2 ?_⟩
   ·rw[Gx,Aau h,Cf,h,show 1+Gx p (a+1) m+1=(Gx p (a+1) m+1)+1 by omega,show 1+Gx p (a+1) m=Gx p (a+1) m+1 by omega,Awk,Awk (n:=2) (m:=Gx p (a+1) m)];rw[Awk]at h1;generalize Cf p (a+1) m=V at*
    generalize 2^Gx p (a+1) m=W at*
    have e1:W*2*2*s=2*(W*2*s):=by rw[Nat.mul_right_comm (W*2) 2 s,Ao6]
    omega
   ·rw[Gx,Aau h]at e;omega
  ·refine⟨Cf p (a+1) m,?_,λe=>?_⟩
   ·rw[Gx,Aac h,Cf];simp;omega
   ·rw[Gx,Aac h]at e;omega
theorem Bbp{n t s:Nat}(h:2^(t+1)*s+2^t<=2^n)(ht:t<n)(x:Nat)(hx:x=2^n-(2^(t+1)*s+2^t)):x&&& (2^(t+1)*s+2^t)=2^t:=by
 have hpos:0<2^t:=Bjl (by omega);have hlt:2^t<2^(t+1):=by rw[Awk];omega
 have e:x=2^n-((2^(t+1)*s+(2^t-1))+1):=by rw[hx];congr 1;omega
 apply Nat.eq_of_testBit_eq;intro i;rw[Nat.testBit_and,e,Nat.testBit_two_pow_sub_succ (by omega),Nat.testBit_two_pow_mul_add _ (by omega),Nat.testBit_two_pow_mul_add _ hlt];by_cases hi:i<t+1
 ·rw[Aau hi,Aau hi,Nat.testBit_two_pow_sub_one,Nat.testBit_two_pow];by_cases hit:t=i
  ·subst hit;simp;exact ht
  ·have:¬i=t:=λe=>hit e.symm;simp[hit]
 ·rw[Aac hi,Aac hi,Nat.testBit_two_pow];have:¬t=i:=by omega
  simp[this]
theorem Ayb(a:UInt64):(Agh a).toNat=18446744073709551615-a.toNat:=by
 have h:=a.toNat_lt;have e:Agh a=UInt64.ofNat (BitVec.ofInt 64 18446744073709551615^^^BitVec.ofInt 64 (a.toNat:Int)).toNat:=Jk _;have h1:BitVec.ofInt 64 (a.toNat:Int)=a.toBitVec:=Ak2 a;have h2:(BitVec.ofInt 64 18446744073709551615:BitVec 64)=BitVec.allOnes 64:=by decide
 rw[e,Akr,h1,h2,BitVec.allOnes_xor,BitVec.toNat_not];show(18446744073709551616-1-a.toNat) %18446744073709551616=18446744073709551615-a.toNat;omega
theorem Ayp(a:UInt64):(wC a).toNat=(18446744073709551616-a.toNat) %18446744073709551616:=by
 have h:=a.toNat_lt;have e:wC a=UInt64.ofNat ((0-(a.toNat:Int)) %18446744073709551616).toNat:=Ak4 _;rw[e,Akr];show((0-(a.toNat:Int)) %18446744073709551616).toNat %18446744073709551616=_;omega
def Bh8:List UInt8:=[0,1,56,2,57,49,28,3,61,58,42,50,38,29,17,4,62,47,59,36,45,43,51,22,53,39,33,30,24,18,12,5,63,55,48,27,60,41,37,16,46,35,44,21,52,32,23,11,54,26,40,15,34,20,31,10,25,14,19,9,13,8,7,6]
theorem Au4:∀t:Fin 64,Ap Bh8 (GI.toZ (Ck (Bj (UInt64.ofNat (2^t.val)) (285870213051353865:UInt64)) (GI.toZ (58:UInt64)).toNat))=some (UInt8.ofNat t.val):=by decide +kernel
theorem Bim(x:UInt64)(t s:Nat)(ht:t<64)(h:x.toNat+(2^(t+1)*s+2^t)=18446744073709551616):Hv x=some (t:Int):=by
 have hpos:0<2^t:=Bjl (by omega);have hx:x.toNat=2^64-(2^(t+1)*s+2^t):=by show x.toNat=18446744073709551616-_;omega
 have hle:2^t<=2^63:=Agq (by omega) (by omega);have hne:x≠0:=by
  intro e;rw[e]at h;have h':2^t*(2*s+1)=2^64:=by
   rw[Nat.mul_add,Nat.mul_one,<-Awr,<-Awk]
   show _=18446744073709551616;simpa using h
  have h2:2^64=2^t*2^(64-t):=by rw[<-Blr];congr 1;omega
  rw[h2]at h';have h3:=Nat.eq_of_mul_eq_mul_left hpos h';rw[show 64-t=(63-t)+1 by omega,Awk]at h3;omega
 have hx0:x.toNat≠0:=λe=>hne (UInt64.toNat_inj.1 e);have hl:Fe x (wC x)=UInt64.ofNat (2^t):=by
  apply UInt64.toNat_inj.1;rw[Adw,UInt64.toNat_and,Ayp,show(18446744073709551616-x.toNat) %18446744073709551616=2^(t+1)*s+2^t by omega,Bbp (n:=64) (by show _<=18446744073709551616;omega) ht _ hx,Akr,Abl];exact Bh4 hle (by decide)
 have hb:=Au4 ⟨t,ht⟩;rw[Hv,Aac (by rw[Abw];simpa using hne),hl];refine Bhp (congrArg (λo=>Option.bind o λc=>some (Af c:Int)) hb) ?_;rw[Aa,WN,Aol,Abl (by show t<256;omega)]
theorem Bc2(p:List UInt8)(a m:Nat)(hm:m<=48):Hv (Agh (Qy p a m))=some ((Gx p a m:Nat):Int):=by
 obtain⟨s,h1,h2⟩:=Alv p m a;have hle:=aX p m a;have hlt:=Qv p m a;have h48:2^m<=2^48:=Agq (by omega) hm;have hn:(Agh (Qy p a m)).toNat=18446744073709551615-Cf p a m:=by rw[Ayb,AF p a m (by omega)]
 have h3:(281474976710656:Nat)=2^48:=rfl;refine Bim _ (Gx p a m) s (by omega) ?_;rw[hn];omega
def unS(p:List UInt8)(N a:Nat):Int×Int×Int:=
 if Gx p a (min 48 (N-a))<min 48 (N-a)then((Gx p a (min 48 (N-a)):Nat),((a+Gx p a (min 48 (N-a))+1:Nat):Int),0)else
 if Gx p a (min 48 (N-a))=48 then(48,((a+48:Nat):Int),0)else(0,0,24)
theorem Awu{p:List UInt8}{N:Nat}(h:okB p N)(a:Nat)(ha:a<N):OW p (N:Int) (a:Int)=some (unS p N a):=by
 have hN:=h.1;have e1:Fo (48:Int) (Ao (N:Int) (a:Int))=((min 48 (N-a):Nat):Int):=by rw[OY,Bu (by omega) (by omega)];omega
 have hle:=aX p (min 48 (N-a)) a;rw[OW,DG,AT h,Aa,Aac (by rw[Aj];simp),Aac (by rw[Ae];simp),Aac (by rw[Ea];simp;omega),e1,yR h a _ (by omega),Aac (by omega),Aa];simp only;rw[cI,dR,Aac (by rw[Aj];simp),Bc2 p a _ (by omega),Aa,cZ,dO,e1,unS];by_cases h1:Gx p a (min 48 (N-a))<min 48 (N-a)
 ·rw[Aau (by rw[Ae];simp;omega),Aau h1,Ah (a:=(a:Int)) (by omega) (by omega),show Ad (0:Int) 1=1 by decide,Ah (by omega) (by omega)];congr 3;omega
 ·rw[Aac (by rw[Ae];simp;omega),Aac h1,cJ,cK];by_cases h2:Gx p a (min 48 (N-a))=48
  ·rw[Aau (by rw[Ar,h2];rfl),Aau h2,h2,Ah (a:=(a:Int)) (by omega) (by omega),Ah (by omega) (by omega)];congr 3;omega
  ·rw[Aac (by rw[Ar];simp;omega),Aac h2];rfl
theorem Ai2(p:List UInt8):∀(m a:Nat),Gx p a m<m->Ho p (a+Gx p a m)≠1
 |0,_,h=>by simp[Gx]at h
 |m+1,a,h=>by
  by_cases hb:Ho p a=1
  ·rw[Gx,Aau hb]at h⊢;have:=Ai2 p m (a+1) (by omega);rwa [show a+(1+Gx p (a+1) m)=a+1+Gx p (a+1) m by omega]
  ·rw[Gx,Aac hb];exact hb
theorem Ahs(p:List UInt8):∀(m a k:Nat),k<Gx p a m->Ho p (a+k)=1
 |0,a,k,h=>by simp[Gx]at h
 |m+1,a,k,h=>by
  by_cases hb:Ho p a=1
  ·rw[Gx,Aau hb]at h;cases k with
   |zero=>exact hb
   |succ k=>
    have:=Ahs p m (a+1) k (by omega);rwa [show a+(k+1)=a+1+k by omega]
  ·rw[Gx,Aac hb]at h;omega
def unR(p:List UInt8)(N a:Nat):Int×Int:=if(unS p N a).2.2=0 then((unS p N a).1,(unS p N a).2.1)else(-1,0)
theorem Afe{p:List UInt8}{N:Nat}(h:okB p N)(a:Nat)(ha:a<N):∀(j k q:Nat),k+j=Gx p a (min 48 (N-a))->j<q->Oh (a:Int) p (N:Int) q (k:Int)=some (unR p N a)
 |0,k,q+1,hk,_=>by
  obtain⟨hN,hl,hz⟩:=h;have hle:=aX p (min 48 (N-a)) a;have hk':k=Gx p a (min 48 (N-a)):=by omega
  have e1:Ad (a:Int) (k:Int)=((a+k:Nat):Int):=by rw[Ah (by omega) (by omega)];omega
  have hend:BU (a:Int) (k:Int) p (N:Int)=some (unR p N a):=by
   rw[BU,VI,e1];by_cases h48:k=48
   ·have hu:unS p N a=(48,((a+48:Nat):Int),0):=by rw[unS,<-hk',Aac (by omega),Aau h48]
    rw[Aau (by rw[Ar,h48];rfl),unR,hu,h48];rfl
   ·rw[Aac (by rw[Ar];simp;omega)];by_cases hN2:N<=a+k
    ·have hu:unS p N a=(0,0,24):=by rw[unS,<-hk',Aac (by omega),Aac h48]
     rw[Aau (by rw[Ea];simp;omega),unR,hu];rfl
    ·have hu:unS p N a=(((k:Nat):Int),((a+k+1:Nat):Int),0):=by rw[unS,<-hk',Aau (by omega)]
     rw[Aac (by rw[Ea];simp;omega),unR,hu,Ah (by omega) (by omega)];rfl
  rw[Oh,CA,e1];by_cases hc:a+k<N/\k<48
  ·have hb:=DH p (a+k);have hs:=Ai2 p (min 48 (N-a)) a (by omega);rw[<-hk']at hs;rw[Aau (by simp[Ae];omega),yU p _ (a+k) (by omega) (by omega),Aa,Aac (by rw[Ar];simp;omega),hend]
  ·rw[Aac (by simp[Ae];omega),hend]
 |j+1,k,q+1,hk,hq=>by
  obtain⟨hN,hl,hz⟩:=h;have hle:=aX p (min 48 (N-a)) a;have hb:=Ahs p (min 48 (N-a)) a k (by omega);have e1:Ad (a:Int) (k:Int)=((a+k:Nat):Int):=by rw[Ah (by omega) (by omega)];omega
  rw[Oh,CA,e1,Aau (by simp[Ae];omega),yU p _ (a+k) (by omega) (by omega),Aa,hb,Aau (by decide),Ah (by omega) (by omega)];exact Afe ⟨hN,hl,hz⟩ a ha j (k+1) q (by omega) (by omega)
theorem Aw8{p:List UInt8}{N:Nat}(h:okB p N)(a:Nat)(ha:a<N):gI p (N:Int) (a:Int)=some (unR p N a):=by
 have hle:=aX p (min 48 (N-a)) a;have:=Afe h a ha (Gx p a (min 48 (N-a))) 0 Ax (by omega) (by have:=As;omega);exact this
theorem Aya{p:List UInt8}{N a:Nat}(h:Gx p a (min 48 (N-a))<min 48 (N-a)):unS p N a=(((Gx p a (min 48 (N-a)):Nat):Int),((a+Gx p a (min 48 (N-a))+1:Nat):Int),0):=by rw[unS,Aau h]
theorem Bap{p:List UInt8}{N a:Nat}(h:¬Gx p a (min 48 (N-a))<min 48 (N-a))(h2:Gx p a (min 48 (N-a))=48):unS p N a=(48,((a+48:Nat):Int),0):=by rw[unS,Aac h,Aau h2]
theorem Ax5{p:List UInt8}{N a:Nat}(h:¬Gx p a (min 48 (N-a))<min 48 (N-a))(h2:¬Gx p a (min 48 (N-a))=48):unS p N a=(0,0,24):=by rw[unS,Aac h,Aac h2]
theorem Auw{p:List UInt8}{N:Nat}(h:okB p N)(a:Nat)(ha:N<=a):OW p (N:Int) (a:Int)=some (0,0,24):=by
 rw[OW,DG,AT h,Aa,Aac (by rw[Aj];simp),Aac (by rw[Ae];simp),Aau (by rw[Ea];simp;omega)]
def YS(p:List UInt8)(N a k:Nat):UInt32×Int×Int:=
 if N<=a then(0,0,24)else
 if Gx p a (min 48 (N-a))<min 48 (N-a)then
  (if N<a+Gx p a (min 48 (N-a))+1+k then(0,0,24)else(UInt32.ofNat (Gx p a (min 48 (N-a))*2^k+Cf p (a+Gx p a (min 48 (N-a))+1) k),((a+Gx p a (min 48 (N-a))+1+k:Nat):Int),0))
 else if Gx p a (min 48 (N-a))=48 then
  (if N<a+48+32 then(0,0,24)else if Cf p (a+48) 32/2^k<48 then(0,0,12)else(UInt32.ofNat (Cf p (a+48) 32),((a+48+32:Nat):Int),0))
 else(0,0,24)
theorem wE{p:List UInt8}{a n:Nat}(h:n<=32):(Af (Qy p a n):UInt32)=UInt32.ofNat (Cf p a n):=by
 have e:(Af (Qy p a n):UInt32)=UInt32.ofNat (Qy p a n).toNat:=by simp only[Af,Lm,Gf]
 rw[e,AF p a n (by omega)]
theorem bW{n:Nat}(h:n<4294967296):(UInt32.ofNat n).toNat=n:=by rw[Ali];exact Abl h
theorem Aod(p:List UInt8)(a:Nat){n:Nat}(h:n<=32):Cf p a n<4294967296:=by
 have h1:=Qv p n a;have h2:2^n<=2^32:=Agq (by omega) h;omega
theorem Bfj{q v k:Nat}(hq:q<48)(hv:v<2^k)(hk:k<=24):uJ (Dt (Af (q:Int):UInt32) k) (UInt32.ofNat v)=UInt32.ofNat (q*2^k+v):=by
 have hp:2^k<=2^24:=Agq (by omega) hk;have h1:q*2^k<=47*2^24:=Bem (by omega) hp;rw[Bb1];apply UInt32.toNat_inj.1;rw[UInt32.toNat_or,mJ,Ag7,bW (by omega),bW (n:=v) (by omega),Abl (by omega),Ao6 q,<-Be2 hv,bW (by rw[Ao6];omega)]
theorem Bc5{p:List UInt8}{N:Nat}(h:okB p N)(a k:Nat)(hk:k<=24):qH p (N:Int) (a:Int) (k:Int)=some (YS p N a k):=by
 have hN:=h.1;rw[qH,jT,AT h,Aa,Aac (by rw[Aj];simp),Aac (by simp[Ae,Aq];omega)];by_cases ha:N<=a
 ·rw[Auw h a ha,Aa,YS,Aau ha];rfl
 have hle:=aX p (min 48 (N-a)) a;rw[Awu h a (by omega),Aa];by_cases h1:Gx p a (min 48 (N-a))<min 48 (N-a)
 ·have hS:YS p N a k=if N<a+Gx p a (min 48 (N-a))+1+k then(0,0,24)else(UInt32.ofNat (Gx p a (min 48 (N-a))*2^k+Cf p (a+Gx p a (min 48 (N-a))+1) k),((a+Gx p a (min 48 (N-a))+1+k:Nat):Int),0):=by rw[YS,Aac ha,Aau h1]
  rw[Aya h1,hS];generalize Gx p a (min 48 (N-a))=q at*
  simp only;rw[Aac (by rw[Aj];simp),Aac (by rw[Ar];simp;omega),VR,gW,yR h _ k (by omega),Aa];by_cases h2:N<a+q+1+k
  ·rw[Aau h2,Aau h2];rfl
  ·rw[Aac h2,Aac h2];simp only;have z:(GI.toZ (k:Int)).toNat=k:=rfl;rw[Aac (by rw[Aj];simp),Aau (by rw[Ae];simp;omega),Bl (by rw[Ea];simp),Aa,z,wE (by omega),Bfj (by omega) (Qv _ _ _) hk,Ah (by omega) (by omega)];rfl
 ·by_cases h2:Gx p a (min 48 (N-a))=48
  ·have hS:YS p N a k=if N<a+48+32 then(0,0,24)else if Cf p (a+48) 32/2^k<48 then(0,0,12)else(UInt32.ofNat (Cf p (a+48) 32),((a+48+32:Nat):Int),0):=by rw[YS,Aac ha,Aac h1,Aau h2]
   have hg:=yR h (a+48) 32 (by omega);rw[Bap h1 h2,hS];simp only;rw[Aac (by rw[Aj];simp),Aau (by rw[Ar];rfl),VR,gW];refine Bhp (congrArg (λo=>Option.bind o _) hg) ?_;rw[Aa];by_cases h3:N<a+48+32
   ·rw[Aau h3,Aau h3];rfl
   ·rw[Aac h3,Aac h3];simp only;have z:(GI.toZ (k:Int)).toNat=k:=rfl;have hv:=Aod p (a+48) (n:=32) (by omega);rw[Aac (by rw[Aj];simp),Aac (by rw[Ae];simp),AY,Bl (by rw[Ea];simp),Aa,Aa,z,wE (by omega),As5];have e:(decide ((48:UInt32).toNat<= (Ck (UInt32.ofNat (Cf p (a+48) 32)) k).toNat))=decide (¬Cf p (a+48) 32/2^k<48):=by
     rw[RG,bW hv];simp
    rw[e];by_cases h4:Cf p (a+48) 32/2^k<48
    ·rw[Aau (by simp[h4]),Aau h4]
    ·rw[Aac (by simp;omega),Aac h4,Ah (by omega) (by omega)];rfl
  ·rw[Ax5 h1 h2,YS,Aac ha,Aac h1,Aac h2];rfl
theorem Afv(k:Nat)(hk:k<=63):∀(j i q:Nat),i+j=k->j<q->Lq (k:Int) q (UInt64.ofNat (2^i)) (i:Int)=some (UInt64.ofNat (2^k))
 |0,i,q+1,hi,_=>by
  rw[Lq,Ye,Aac (by rw[Ae];simp;omega),show i=k by omega];rfl
 |j+1,i,q+1,hi,hq=>by
  have e:Bj (UInt64.ofNat (2^i)) (2:UInt64)=UInt64.ofNat (2^(i+1)):=by
   rw[QW,Awk,UInt64.ofNat_mul];rfl
  rw[Lq,Ye,Aau (by rw[Ae];simp;omega),Ah (by omega) (by omega),e];exact Afv k hk j (i+1) q (by omega) (by omega)
theorem RZ(k:Nat)(hk:k<=63):He (k:Int)=some (UInt64.ofNat (2^k)):=
 Afv k hk k 0 Ax (by omega) (by have:=As;omega)
theorem bG{k:Nat}(hk:k<=63):(UInt64.ofNat (2^k)).toNat=2^k:=by
 have hp:2^k<=2^63:=Agq (by omega) hk;rw[Akr,Abl (by omega)]
theorem Bcb(v:UInt32)(k:Nat)(hk:k<=24):KV v (k:Int)=some ((min 48 (v.toNat/2^k):Nat):Int):=by
 have hpos:0<2^k:=Bjl (by omega);have hv:=v.toNat_lt;rw[KV,RZ k (by omega),Aa,Bl (by rw[HJ];simp only[Blo,ne_eq,<-Bla,bG (show k<=63 by omega)];simp),Aa];have e:(Bw (Af v:UInt64) (UInt64.ofNat (2^k))).toNat=v.toNat/2^k:=by
  rw[uV,Blw,Dx,bG (by omega),Akr,Abl (by omega)]
 have hle:v.toNat/2^k<=v.toNat:=Arh _ _;have e2:Fo (48:UInt64) (Bw (Af v:UInt64) (UInt64.ofNat (2^k)))=UInt64.ofNat (min 48 (v.toNat/2^k)):=by
  apply UInt64.toNat_inj.1;rw[Akr,Abl (by omega)];show(if _ then _ else _:UInt64).toNat=_;rw[show(GI.toZ (Bw (Af v:UInt64) (UInt64.ofNat (2^k))))=((v.toNat/2^k:Nat):Int) by rw[Lm,e],show GI.toZ (48:UInt64)=48 from rfl];split
  ·rw[e];omega
  ·show 48=_;omega
 rw[e2,zI (by rw[Akr,Abl]<;>omega),Akr,Abl (by omega)]
theorem Azm{p:List UInt8}{N:Nat}(h:okB p N)(a k:Nat)(hk:k<=24):OE p (N:Int) (a:Int) (k:Int)=some (YS p N a k):=by
 obtain⟨hN,hl,hz⟩:=h;have h:okB p N:=⟨hN,hl,hz⟩;rw[OE,VJ];by_cases ha:N<=a
 ·rw[Aau (by rw[Ea];simp;omega),YS,Aau ha]
 have hle:=aX p (min 48 (N-a)) a;rw[Aac (by rw[Ea];simp;omega),Aw8 h a (by omega),Aa,unR];by_cases h1:Gx p a (min 48 (N-a))<min 48 (N-a)
 ·have hS:YS p N a k=if N<a+Gx p a (min 48 (N-a))+1+k then(0,0,24)else(UInt32.ofNat (Gx p a (min 48 (N-a))*2^k+Cf p (a+Gx p a (min 48 (N-a))+1) k),((a+Gx p a (min 48 (N-a))+1+k:Nat):Int),0):=by rw[YS,Aac ha,Aau h1]
  rw[Aya h1,hS];generalize Gx p a (min 48 (N-a))=q at*
  rw[Aau rfl];simp only;rw[Aac (by rw[Ar];simp;omega),CO,CP,Bu (by omega) (by omega)];by_cases h2:N<a+q+1+k
  ·rw[Aau (by simp[Ae];omega),Aau h2]
  ·have hp:2^k<=2^24:=Agq (by omega) hk;have hm:q*2^k<=47*2^24:=Bem (by omega) hp;have hv:=Qv p k (a+q+1);have e:(Af (Ad (Bj (Af (q:Int):UInt64) (UInt64.ofNat (2^k))) (Qy p (a+q+1) k)):UInt32)=UInt32.ofNat (q*2^k+Cf p (a+q+1) k):=by
    have e1:Ad (Bj (Af (q:Int):UInt64) (UInt64.ofNat (2^k))) (Qy p (a+q+1) k)=UInt64.ofNat (q*2^k+Cf p (a+q+1) k):=by
     rw[QN,QW,Xg,Qy,UInt64.ofNat_add,UInt64.ofNat_mul]
    rw[e1];have e2:∀x:UInt64,(Af x:UInt32)=UInt32.ofNat x.toNat:=λx=>by simp only[Af,Lm,Gf]
    rw[e2,Akr,Abl (by omega)]
   rw[Aac (by simp[Ae];omega),Aac h2,tD p _ _ k (by omega) (by omega),Aa,Aau (by rw[Ae];simp;omega),RZ k (by omega),Aa,e,Ah (by omega) (by omega)];rfl
 ·by_cases h2:Gx p a (min 48 (N-a))=48
  ·have hS:YS p N a k=if N<a+48+32 then(0,0,24)else if Cf p (a+48) 32/2^k<48 then(0,0,12)else(UInt32.ofNat (Cf p (a+48) 32),((a+48+32:Nat):Int),0):=by rw[YS,Aac ha,Aac h1,Aau h2]
   rw[Bap h1 h2,hS,Aau rfl];simp only;rw[Aau (by rw[Ar];rfl),CO,CP,Bu (by omega) (by omega)];by_cases h3:N<a+48+32
   ·rw[Aau (by simp[Ae];omega),Aau h3]
   ·have hg:=tD p (N:Int) (a+48) 32 (by omega) (by omega);have hv:=Aod p (a+48) (n:=32) (by omega);rw[Aac (by simp[Ae];omega),Aac h3];refine Bhp (congrArg (λo=>Option.bind o _) hg) ?_;rw[Aa,Aac (by rw[Ae];simp),wE (by omega),Bcb _ k hk,Aa,bW hv];by_cases h4:Cf p (a+48) 32/2^k<48
    ·rw[Aau (by rw[Ae];simp;omega),Aau h4]
    ·rw[Aac (by rw[Ae];simp;omega),Aac h4,Ah (by omega) (by omega)];rfl
  ·rw[Ax5 h1 h2,YS,Aac ha,Aac h1,Aac h2];have e:(if((0:Int),(0:Int),(24:Int)).2.2=0 then(((0:Int),(0:Int),(24:Int)).1,((0:Int),(0:Int),(24:Int)).2.1)else((-1:Int),(0:Int)))=(-1,0):=by decide
   rw[e];rfl
theorem Bg6{p:List UInt8}{N a k:Nat}{v:UInt32}{n:Int}(h:YS p N a k=(v,n,0)):(a:Int)<n/\n<=N:=by
 unfold YS at h;split at h
 ·simp at h
 split at h
 ·split at h
  ·simp at h
  ·simp only[Agm]at h;omega
 ·split at h
  ·split at h
   ·simp at h
   ·split at h
    ·simp at h
    ·simp only[Agm]at h;omega
  ·simp at h
def okD(k l:Nat)(s t:UInt64):Prop:=k<=24/\l<=24/\s.toNat<=68719476735/\t.toNat<=68719476735
theorem Al5(a b:UInt64)(h:a.toNat<=b.toNat):Fo a b=a:=by
 show(if _ then _ else _)=_;rw[Lm,Lm,Aac (by omega)]
theorem vK(a:UInt64):geq a a=true:=by rw[Abw];simp
theorem Axi{k l:Nat}{s t:UInt64}(h:okD k l s t):YF (k:Int) (l:Int) s t=some 0:=by
 obtain⟨h1,h2,h3,h4⟩:=h;have e1:Fo (rO (k:Int) 0) 24=(k:Int):=by rw[OY,Akx];omega
 have e2:Fo (rO (l:Int) 0) 24=(l:Int):=by rw[OY,Akx];omega
 have e3:Fo s (68719476735:UInt64)=s:=Al5 _ _ (by simpa using h3);have e4:Fo t (68719476735:UInt64)=t:=Al5 _ _ (by simpa using h4);have e5:∀a:Int,geq a a=true:=λa=>by rw[Ar];simp
 rw[YF,PX,dG,QA,dT,sG,e1,e2,e3,e4,e5,e5,vK,vK];rfl
def Ze(s n:UInt64):UInt64:=s+n-s/16
def kS(k:Nat)(s:UInt64):Nat:=if 0<k/\s.toNat<2^(k+4)then k-1 else if k<24/\2^(k+5)<s.toNat then k+1 else k
theorem Bel{k:Nat}(h:k<=24)(s:UInt64):kS k s<=24:=by
 unfold kS;by_cases h1:0<k/\s.toNat<2^(k+4)
 ·rw[Aau h1];omega
 ·rw[Aac h1];split<;>omega
theorem Asu{k:Nat}{s:UInt64}(h:¬(0<k/\s.toNat<2^(k+4))):(if k<24/\2^(k+5)<s.toNat then((k+1:Nat):Int)else(k:Int))=((kS k s:Nat):Int):=by
 rw[kS,Aac h];split<;>rfl
theorem Atj{s n:UInt64}(h:s.toNat<=68719476735)(hn:n.toNat<=4294967295):(Ze s n).toNat<=68719476735:=by
 have h1:=s.toNat_lt;have e:(s+n).toNat=s.toNat+n.toNat:=by rw[UInt64.toNat_add];omega
 have e2:(s/16).toNat=s.toNat/16:=by rw[Blw];rfl
 rw[Ze,UInt64.toNat_sub_of_le _ _ (by rw[UInt64.le_iff_toNat_le,e,e2];omega),e,e2];omega
theorem fL(s n:UInt64):Ad s (Ao n (Ck s (GI.toZ (4:UInt64)).toNat))=Ze s n:=by
 have e:Ck s (GI.toZ (4:UInt64)).toNat=s/16:=by
  apply UInt64.toNat_inj.1;rw[LM,Blw];rfl
 rw[e,QN,xP,Ze,UInt64.sub_eq_add_neg,UInt64.sub_eq_add_neg,UInt64.add_assoc]
theorem Arr(s n:UInt64):Ao (Ad s n) (Bw s (16:UInt64))=Ze s n:=by rw[QN,xP,uV,Ze]
theorem Bh6{k:Nat}(h:k<=24):(Dt (16:UInt64) k).toNat=2^(k+4):=by
 have hp:2^k<=2^24:=Agq (by omega) h;rw[ZG,Blr]
 show 16*2^k %_=2^k*16;rw[Abl (by omega),Ao6]
theorem Bf2{k:Nat}(h:k<=24):(Dt (32:UInt64) k).toNat=2^(k+5):=by
 have hp:2^k<=2^24:=Agq (by omega) h;rw[ZG,Blr]
 show 32*2^k %_=2^k*32;rw[Abl (by omega),Ao6]
theorem Ben{k:Nat}{s:UInt64}(h:0<k)(h2:s.toNat<2^(k+4)):kS k s=k-1:=by rw[kS,Aau ⟨h,h2⟩]
theorem Bek{k:Nat}{s:UInt64}(h:¬(0<k/\s.toNat<2^(k+4)))(h2:k<24)(h3:2^(k+5)<s.toNat):kS k s=k+1:=by rw[kS,Aac h,Aau ⟨h2,h3⟩]
theorem Atr{k:Nat}{s:UInt64}(h:¬(0<k/\s.toNat<2^(k+4)))(h2:¬(k<24/\2^(k+5)<s.toNat)):kS k s=k:=by rw[kS,Aac h,Aac h2]
theorem Asi{α:Type}(k:Nat)(hk:k<=24)(s:UInt64)(f:Int->Option α):
  (if(Eh (k:Int) (0:Int))=true then(
   Option.bind (Kx (Nk (k:Int) (0:Int))) λ_=>
   if(Cv s (Dt (16:UInt64) (GI.toZ (k:Int)).toNat))=true then f (Ao (k:Int) (1:Int))
   else(if(Cv (k:Int) (24:Int))=true then(
    Option.bind (Kx (Nk (k:Int) (0:Int))) λ_=>
    if(Eh s (Dt (32:UInt64) (GI.toZ (k:Int)).toNat))=true then f (Ad (k:Int) (1:Int))else f (k:Int))
    else f (k:Int)))
  else(if(Cv (k:Int) (24:Int))=true then(
    Option.bind (Kx (Nk (k:Int) (0:Int))) λ_=>
    if(Eh s (Dt (32:UInt64) (GI.toZ (k:Int)).toNat))=true then f (Ad (k:Int) (1:Int))else f (k:Int))
    else f (k:Int)))=f ((kS k s:Nat):Int):=by
 have z:(GI.toZ (k:Int)).toNat=k:=rfl;rw[z,Bl (by rw[Ea];simp)];simp only[Aa];rw[Acd,cG,Bh6 hk,Bf2 hk];by_cases h0:0<k
 ·rw[Aau (by rw[Aq];simp;omega)];by_cases h1:s.toNat<2^(k+4)
  ·rw[Aau (by simp[h1]),Ben h0 h1,Bu (by omega) (by omega)];congr 1;omega
  ·rw[Aac (by simp;omega)];by_cases h2:k<24
   ·rw[Aau (by rw[Ae];simp;omega)];by_cases h3:2^(k+5)<s.toNat
    ·rw[Aau (by simp[h3]),Bek (λh=>h1 h.2) h2 h3,Ah (by omega) (by omega)];rfl
    ·rw[Aac (by simp;omega),Atr (λh=>h1 h.2) (λh=>h3 h.2)]
   ·rw[Aac (by rw[Ae];simp;omega),Atr (λh=>h1 h.2) (λh=>h2 h.1)]
 ·rw[Aac (by rw[Aq];simp;omega)];by_cases h2:k<24
  ·rw[Aau (by rw[Ae];simp;omega)];by_cases h3:2^(k+5)<s.toNat
   ·rw[Aau (by simp[h3]),Bek (λh=>h0 h.1) h2 h3,Ah (by omega) (by omega)];rfl
   ·rw[Aac (by simp;omega),Atr (λh=>h0 h.1) (λh=>h3 h.2)]
  ·rw[Aac (by rw[Ae];simp;omega),Atr (λh=>h0 h.1) (λh=>h2 h.1)]
theorem Ath(k:Nat)(hk:k<=24)(s n:UInt64):Yw (k:Int) s n=some (((kS k (Ze s n):Nat):Int),Ze s n):=by
 have g1:Ad (k:Int) 4=((k+4:Nat):Int):=by rw[Ah (by omega) (by omega)];omega
 have g2:Ad (k:Int) 5=((k+5:Nat):Int):=by rw[Ah (by omega) (by omega)];omega
 have hp:AR (k:Int) s n=some (if k<24/\2^(k+5)<(Ze s n).toNat then((k+1:Nat):Int)else(k:Int),Ze s n):=by
  rw[AR,SQ,g2,RZ _ (by omega),Aa,Arr,cG,bG (by omega)];by_cases h2:k<24
  ·rw[Aau (by rw[Ae];simp;omega)];by_cases h3:2^(k+5)<(Ze s n).toNat
   ·rw[Aau (by simp[h3]),Aau ⟨h2,h3⟩,Ah (by omega) (by omega)];rfl
   ·rw[Aac (by simp;omega),Aac (λh=>h3 h.2)]
  ·rw[Aac (by rw[Ae];simp;omega),Aac (λh=>h2 h.1)]
 rw[Yw,RK,g1,RZ _ (by omega),Aa,Arr,Acd,bG (by omega),hp];by_cases h0:0<k
 ·rw[Aau (by rw[Aq];simp;omega)];by_cases h1:(Ze s n).toNat<2^(k+4)
  ·rw[Aau (by simp[h1]),Ben h0 h1,Bu (by omega) (by omega)];congr 2;omega
  ·rw[Aac (by simp;omega),Asu (λh=>h1 h.2)]
 ·rw[Aac (by rw[Aq];simp;omega),Asu (λh=>h0 h.1)]
def n64(v:UInt32):UInt64:=UInt64.ofNat v.toNat
theorem Az1(v:UInt32):(n64 v).toNat<=4294967295:=by have:=v.toNat_lt;rw[n64,Akr,Abl (by omega)];omega
def kV(k:Nat)(v:UInt32):UInt32:=UInt32.ofNat (v.toNat-2^k)
def lK(l:Nat)(t:UInt64)(k:Nat)(v:UInt32):Nat:=if v.toNat<2^k then l else kS l (Ze t (n64 (kV k v)))
def lT(t:UInt64)(k:Nat)(v:UInt32):UInt64:=if v.toNat<2^k then t else Ze t (n64 (kV k v))
theorem Azx{k l:Nat}{s t:UInt64}(h:okD k l s t)(v:UInt32):okD (kS k (Ze s (n64 v))) (lK l t k v) (Ze s (n64 v)) (lT t k v):=by
 obtain⟨h1,h2,h3,h4⟩:=h;refine⟨Bel h1 _,?_,Atj h3 (Az1 v),?_⟩
 ·unfold lK;split; · exact h2
  exact Bel h2 _
 ·unfold lT;split; · exact h4
  exact Atj h4 (Az1 _)
theorem Bfu(k l:Nat)(s t:UInt64)(hk:k<=24)(v:UInt32):NN (k:Int) (l:Int) s t v=some (decide (v.toNat<2^k)):=by
 have:=v.toNat_lt;rw[NN,RZ k (by omega),Aa,Acd,bG (by omega),Dx,Akr,Abl (by omega)]
theorem left_eq(k l:Nat)(s t:UInt64)(hk:k<=24)(v:UInt32)(h:¬v.toNat<2^k):KF (k:Int) (l:Int) s t v=some (kV k v):=by
 have:=v.toNat_lt;have e2:∀x:UInt64,(Af x:UInt32)=UInt32.ofNat x.toNat:=λx=>by simp only[Af,Lm,Gf]
 have e3:(UInt64.ofNat v.toNat).toNat=v.toNat:=by rw[Akr,Abl (by omega)]
 rw[KF,RZ k (by omega),Aa,e2,xP,Dx,UInt64.toNat_sub_of_le _ _ (by rw[UInt64.le_iff_toNat_le,bG (by omega),e3];omega),bG (by omega),e3,kV]
theorem At4{k l:Nat}{s t:UInt64}(h:okD k l s t)(v:UInt32):CK (k:Int) (l:Int) s t v=some (((kS k (Ze s (n64 v)):Nat):Int),((lK l t k v:Nat):Int),Ze s (n64 v),lT t k v):=by
 obtain⟨h1,h2,h3,h4⟩:=h;have hp:∀(r1:Int) (r2:UInt64),Vt v (k:Int) (l:Int) s t r1 r2=some (((kS k (Ze s (n64 v)):Nat):Int),r1,Ze s (n64 v),r2):=by
  intro r1 r2;rw[Vt,HZ,Dx,Ath k h1,Aa];rfl
 rw[CK,JD,Bfu k l s t h1,Aa];by_cases hv:v.toNat<2^k
 ·rw[Aac (by simp[hv]),hp,lK,Aau hv,lT,Aau hv]
 ·rw[Aau (by simp;omega),left_eq k l s t h1 v hv,Aa,Dx,Ath l h2,Aa];simp only;rw[hp,lK,Aac hv,lT,Aac hv];rfl
theorem Adr(k l:Nat)(s t:UInt64)(hk:k<=24)(v:UInt32):OH (k:Int) (l:Int) s t v=some (if v.toNat<2^k then(0,v)else(1,kV k v)):=by
 have hp:2^k<=2^24:=Agq (by omega) hk;have hpos:0<2^k:=Bjl (by omega);have hl:=v.toNat_lt;have z:(GI.toZ (k:Int)).toNat=k:=rfl;have e1:geq (Ck v k) (0:UInt32)=decide (v.toNat<2^k):=by
  rw[Aku,Alf];simp only[Atu,<-UInt32.toNat_inj,RG,Abk]
  show _/_=0↔_;rw[Nat.div_eq_zero_iff];omega
 have e2:¬v.toNat<2^k->Ao v (Dt (1:UInt32) k)=kV k v:=by
  intro h;have e3:(Dt (1:UInt32) k).toNat=2^k:=by rw[mJ];show 1*2^k %_=_;rw[Abl (by omega),Bex]
  apply UInt32.toNat_inj.1;rw[Afd,UInt32.toNat_sub_of_le _ _ (by rw[UInt32.le_iff_toNat_le,e3];omega),e3,kV,bW (by omega)]
 rw[OH,Bl (by rw[Ea];simp),Aa,Aa,z,e1];by_cases h:v.toNat<2^k
 ·rw[Aau (by simp[h]),Aau h]
 ·rw[Aac (by simp;omega),Aac h,e2 h]
abbrev Rd:=UInt32×Int×Int×Int×UInt64×UInt64×Int
theorem Adn{k l:Nat}{s t:UInt64}(h:okD k l s t)(v:UInt32)(r:Int):VZ (k:Int) (l:Int) s t v r=some (v,r,((kS k (Ze s (n64 v)):Nat):Int),((lK l t k v:Nat):Int),Ze s (n64 v),lT t k v,0):=by
 obtain⟨h1,h2,h3,h4⟩:=h;have hp:∀(x:Int) (y:UInt64),JU v r (k:Int) s x y=some (v,r,((kS k (Ze s (n64 v)):Nat):Int),x,Ze s (n64 v),y,0):=by
  intro x y;rw[JU,jC,Dx,fL,Asi k h1];rw[jZ,iE,cR,sN,Dx,fL];rfl
 rw[VZ,jE,Adr k l s t h1,Aa];by_cases hv:v.toNat<2^k
 ·rw[Aau hv];simp only;rw[Aac (by rw[Ar];simp),hp,lK,Aau hv,lT,Aau hv]
 ·rw[Aac hv];simp only;rw[Aau (by rw[Ar];rfl),Dx,fL,Asi l h2 _ (λx=>JU v r (k:Int) s x (Ze t (UInt64.ofNat (kV k v).toNat))),hp,lK,Aac hv,lT,Aac hv];rfl
def dW(p:List UInt8)(N a k l:Nat):UInt32×Int×Int:=
 if N<=a then(0,0,24)else
 if Ho p a=0 then(if N<a+1+k then(0,0,24)else(UInt32.ofNat (Cf p (a+1) k),((a+1+k:Nat):Int),0))else
 if(YS p N (a+1) l).2.2≠0 then(0,0,(YS p N (a+1) l).2.2)else
 if 4294967295<(YS p N (a+1) l).1.toNat+2^k then(0,0,12)else(UInt32.ofNat ((YS p N (a+1) l).1.toNat+2^k),(YS p N (a+1) l).2.1,0)
theorem Bgz{p:List UInt8}{N a k l:Nat}(h:(dW p N a k l).2.2=0):(a:Int)<(dW p N a k l).2.1/\ (dW p N a k l).2.1<=N:=by
 revert h
 unfold dW;split
 ·simp
 split
 ·split
  ·simp
  ·simp only;omega
 ·split
  ·intro h;contradiction
  ·rename_i h1;split
   ·simp
   ·intro _;have:=Bg6 (p:=p) (N:=N) (a:=a+1) (k:=l) (v:=(YS p N (a+1) l).1) (n:=(YS p N (a+1) l).2.1) (by
     have e:(YS p N (a+1) l).2.2=0:=by simpa using h1
     rw[<-e])
    simp only;omega
theorem Bcw{p:List UInt8}{N:Nat}(h:okB p N)(a:Nat){k l:Nat}{s t:UInt64}(hd:okD k l s t):NK p (N:Int) (a:Int) (k:Int) (l:Int) s t=
  some (if(dW p N a k l).2.2≠0 then(0,0,0,0,0,0,(dW p N a k l).2.2)else((dW p N a k l).1,(dW p N a k l).2.1,((kS k (Ze s (n64 (dW p N a k l).1)):Nat):Int),((lK l t k (dW p N a k l).1:Nat):Int),Ze s (n64 (dW p N a k l).1),lT t k (dW p N a k l).1,0)):=by
 obtain⟨h1,h2,h3,h4⟩:=hd;have hd:okD k l s t:=⟨h1,h2,h3,h4⟩;have hN:=h.1;have hg:=yR h a 1 (by omega);have hb:=DH p a;rw[NK,jX,AT h,Aa,Aac (by rw[Aj];simp),Axi hd,Aa,Aac (by rw[Aj];simp),jU,iM];refine Bhp (congrArg (λo=>Option.bind o _) hg) ?_;rw[Aa];by_cases ha:N<=a
 ·have hS:dW p N a k l=(0,0,24):=by rw[dW,Aau ha]
  rw[Aau (by omega),hS];rfl
 rw[Aac (by omega)];simp only;have e0:geq (Qy p a 1) (0:UInt64)=decide (Ho p a=0):=by
  rw[Abw,Alf];simp only[Atu,<-Bla,Abk,AF p a 1 (by omega),vY];rfl
 have e1:Ad (a:Int) 1=((a+1:Nat):Int):=by rw[Ah (by omega) (by omega)];omega
 rw[Aac (by rw[Aj];simp),e0,e1];by_cases hz:Ho p a=0
 ·rw[Aau (by simp[hz]),yR h (a+1) k (by omega),Aa];by_cases h5:N<a+1+k
  ·have hS:dW p N a k l=(0,0,24):=by rw[dW,Aac ha,Aau hz,Aau h5]
   rw[Aau h5,hS];rfl
  ·have hS:dW p N a k l=(UInt32.ofNat (Cf p (a+1) k),((a+1+k:Nat):Int),0):=by rw[dW,Aac ha,Aau hz,Aac h5]
   rw[Aac h5,hS];simp only;rw[Aac (by rw[Aj];simp),Adn hd,wE (by omega),Ah (by omega) (by omega)];rfl
 ·rw[Aac (by simp[hz]),Bc5 h (a+1) l h2,Aa];have hp:2^k<=2^24:=Agq (by omega) h1;by_cases h5:(YS p N (a+1) l).2.2≠0
  ·have hS:dW p N a k l=(0,0,(YS p N (a+1) l).2.2):=by rw[dW,Aac ha,Aac hz,Aau h5]
   rw[hS];generalize YS p N (a+1) l=R at*
   obtain⟨v,n,e⟩:=R;simp only at*
   rw[Aau (by rw[Aj];simpa using h5),Aau h5]
  ·have hv:=(YS p N (a+1) l).1.toNat_lt;have z:(GI.toZ (k:Int)).toNat=k:=rfl;have e3:(Dt (1:UInt32) k).toNat=2^k:=by rw[mJ];show 1*2^k %_=_;rw[Abl (by omega),Bex]
   by_cases h6:4294967295<(YS p N (a+1) l).1.toNat+2^k
   ·have hS:dW p N a k l=(0,0,12):=by rw[dW,Aac ha,Aac hz,Aac h5,Aau h6]
    rw[hS];generalize YS p N (a+1) l=R at*
    obtain⟨v,n,e⟩:=R;simp only at*
    rw[Aac (by rw[Aj];simpa using h5),Bl (by rw[Ea];simp),Aa,z,Aau (by rw[Asv,Afj,UInt32.toNat_add,e3];simp;omega),Aau (by decide)]
   ·have hS:dW p N a k l=(UInt32.ofNat ((YS p N (a+1) l).1.toNat+2^k),(YS p N (a+1) l).2.1,0):=by rw[dW,Aac ha,Aac hz,Aac h5,Aac h6]
    rw[hS];generalize YS p N (a+1) l=R at*
    obtain⟨v,n,e⟩:=R;simp only at*
    have e4:Ad v (Dt (1:UInt32) k)=UInt32.ofNat (v.toNat+2^k):=by
     apply UInt32.toNat_inj.1;rw[Afj,UInt32.toNat_add,e3,bW (by omega),Abl (by omega)]
    rw[Aac (by rw[Aj];simpa using h5),Bl (by rw[Ea];simp),Aa,z,Aac (by rw[Asv,Afj,UInt32.toNat_add,e3];simp;omega),e4,Adn hd];rfl
theorem Ay5{p:List UInt8}{N:Nat}(h:okB p N)(a:Nat)(k l:Nat)(s t:UInt64)(h1:k<=24)(h2:l<=24):NI p (N:Int) (a:Int) (k:Int) (l:Int) s t=some (dW p N a k l):=by
 have hN:=h.1;have hl:=h.2.1;have hb:=DH p a;rw[NI];by_cases ha:N<=a
 ·rw[Aau (by rw[Ea];simp;omega),dW,Aau ha]
 rw[Aac (by rw[Ea];simp;omega),yU p _ a (by omega) (by omega),Aa,Bu (a:=(N:Int)) (b:=(a:Int)) (by omega) (by omega),Bu (by omega) (by omega)];have e1:Ad (a:Int) 1=((a+1:Nat):Int):=by rw[Ah (by omega) (by omega)];omega
 rw[e1];by_cases hz:Ho p a=0
 ·rw[Aau (by rw[Ar];simp[hz])];by_cases h5:N<a+1+k
  ·rw[Aau (by rw[Ae];simp;omega),dW,Aac ha,Aau hz,Aau h5]
  ·rw[Aac (by rw[Ae];simp;omega),tD p _ (a+1) k (by omega) (by omega),Aa,dW,Aac ha,Aau hz,Aac h5,wE (by omega),Ah (by omega) (by omega)];rfl
 ·rw[Aac (by rw[Ar];simp;omega),Azm h (a+1) l h2,Aa];have hp:2^k<=2^24:=Agq (by omega) h1;have hv:=(YS p N (a+1) l).1.toNat_lt;have e2:∀x:UInt64,(Af x:UInt32)=UInt32.ofNat x.toNat:=λx=>by simp only[Af,Lm,Gf]
  by_cases h5:(YS p N (a+1) l).2.2≠0
  ·have hS:dW p N a k l=(0,0,(YS p N (a+1) l).2.2):=by rw[dW,Aac ha,Aac hz,Aau h5]
   rw[hS];generalize YS p N (a+1) l=R at*
   obtain⟨v,n,e⟩:=R;simp only at*
   rw[Aau (by rw[Aj];simpa using h5)]
  ·have hsum:∀v:UInt32,(Ad (Af v:UInt64) (UInt64.ofNat (2^k))).toNat=v.toNat+2^k:=by
    intro v;have:=v.toNat_lt;have:=Bjl (n:=k) (show 0<2 by omega);rw[QN,UInt64.toNat_add,Dx,bG (by omega),Akr];omega
   by_cases h6:4294967295<(YS p N (a+1) l).1.toNat+2^k
   ·have hS:dW p N a k l=(0,0,12):=by rw[dW,Aac ha,Aac hz,Aac h5,Aau h6]
    rw[hS];generalize YS p N (a+1) l=R at*
    obtain⟨v,n,e⟩:=R;simp only at*
    rw[Aac (by rw[Aj];simpa using h5),RZ k (by omega),Aa,Aau (by rw[cG,hsum];simpa using h6)]
   ·have hS:dW p N a k l=(UInt32.ofNat ((YS p N (a+1) l).1.toNat+2^k),(YS p N (a+1) l).2.1,0):=by rw[dW,Aac ha,Aac hz,Aac h5,Aac h6]
    rw[hS];generalize YS p N (a+1) l=R at*
    obtain⟨v,n,e⟩:=R;simp only at*
    rw[Aac (by rw[Aj];simpa using h5),RZ k (by omega),Aa,Aac (by rw[cG,hsum];simpa using h6),e2,hsum]
abbrev DuN:=Nat×Nat×UInt64×UInt64
def okN(d:DuN):Prop:=okD d.1 d.2.1 d.2.2.1 d.2.2.2
def nxt(d:DuN)(v:UInt32):DuN:=(kS d.1 (Ze d.2.2.1 (n64 v)),lK d.2.1 d.2.2.2 d.1 v,Ze d.2.2.1 (n64 v),lT d.2.2.2 d.1 v)
def Ak8:DuN:=(10,10,16384,16384)
theorem Awv:okN Ak8:=⟨by decide,by decide,by decide,by decide⟩
theorem Bfa{d:DuN}(h:okN d)(v:UInt32):okN (nxt d v):=Azx h v
abbrev DuL:=Int×Int×UInt64×UInt64×Unit
def toI(d:DuN):DuL:=((d.1:Int),(d.2.1:Int),d.2.2.1,d.2.2.2,())
def lL(ch:Nat)(v:List UInt32)(c:Nat):Nat->DuN
 |0=>Ak8
 |m+1=>if m %ch=c then nxt (lL ch v c m) (v.getD m 0)else lL ch v c m
theorem oC(ch:Nat)(v:List UInt32)(c:Nat):∀m,okN (lL ch v c m)
 |0=>Awv
 |m+1=>by rw[lL];split;exact Bfa (oC ch v c m) _;exact oC ch v c m
theorem Att(ch:Nat)(v w:List UInt32)(c:Nat):∀m,m<=v.length->lL ch (v++w) c m=lL ch v c m
 |0,_=>rfl
 |m+1,h=>by
  have e:(v++w).getD m 0=v.getD m 0:=by simp[List.getD_eq_getElem?_getD,List.getElem?_append_left (show m<v.length by omega)]
  rw[lL,lL,Att ch v w c m (by omega),e]
theorem Akj(ch:Nat)(v:List UInt32)(c:Nat):∀m,m<=c->c<ch->lL ch v c m=Ak8
 |0,_,_=>rfl
 |m+1,h,h2=>by rw[lL,Aac (by rw[Abl (by omega)];omega),Akj ch v c m (by omega) h2]
theorem An0(ch:Nat)(v:List UInt32)(c i:Nat)(hi:i %ch=c)(hc:c<ch):∀j,j<ch->lL ch v c (i+1+j)=lL ch v c (i+1)
 |0,_=>rfl
 |j+1,h=>by
  have hne:(i+1+j) %ch≠c:=by
   intro e;have h1:(i+(1+j)) %ch=i %ch:=by rw[hi,<-e];congr 1;omega
   have h2:(1+j) %ch=0:=by
    have h3:=Nat.sub_mod_eq_zero_of_mod_eq h1;rwa [Bhd]at h3
   rw[Abl (by omega)]at h2;omega
  rw[show i+1+(j+1)=(i+1+j)+1 by omega,lL,Aac hne,An0 ch v c i hi hc j (by omega)]
theorem Ay6(ch:Nat)(v:List UInt32)(c i:Nat)(hi:i %ch=c)(hc:c<ch):lL ch v c (i+ch)=nxt (lL ch v c i) (v.getD i 0):=by
 have h:=An0 ch v c i hi hc (ch-1) (by omega);rw[show i+1+(ch-1)=i+ch by omega]at h;rw[h,lL,Aau hi]
theorem wZ{l:List UInt32}{k:Nat}(h:k<l.length):Ap l (k:Int)=some (l.getD k 0):=by
 rw[Bq h];simp[List.getD_eq_getElem?_getD,h]
theorem NP(a b:Nat):Gw (a:Int) (b:Int)=((a %b:Nat):Int):=by rw[Gw,Bkf (by omega)];omega
theorem zY(ch:Nat)(v:List UInt32)(hch:1<=ch)(Bhe:ch<=6)(hv:v.length<=4000):∀(j i q:Nat),i %ch=v.length %ch->i<=v.length->v.length-i<=j->j<q->
  Pb (ch:Int) v q (i:Int) ((lL ch v (v.length %ch) i).1:Int) ((lL ch v (v.length %ch) i).2.1:Int) (lL ch v (v.length %ch) i).2.2.1 (lL ch v (v.length %ch) i).2.2.2=
   some (((lL ch v (v.length %ch) v.length).1:Int),((lL ch v (v.length %ch) v.length).2.1:Int),(lL ch v (v.length %ch) v.length).2.2.1,(lL ch v (v.length %ch) v.length).2.2.2)
 |j,i,q+1,hi,hl,hj,hq=>by
  have hc:v.length %ch<ch:=Bhn _ (by omega);rw[Pb,JG];by_cases h:i<v.length
  ·have h1:=At4 (oC ch v (v.length %ch) i) (v.getD i 0);rw[Aau (by rw[Ae,Ac];simp;omega),wZ h,Aa,h1,Aa];have hle:i+ch<=v.length:=by
    have h2:=Bj5 i ch;have h3:=Bj5 v.length ch;rw[hi]at h2;have h4:ch*(i/ch)<ch*(v.length/ch):=by omega
    have h5:=Nat.lt_of_mul_lt_mul_left h4;have h6:ch*(i/ch+1)<=ch*(v.length/ch):=Bir _ h5;rw[Nat.mul_add]at h6;omega
   have ih:=zY ch v hch Bhe hv (j-ch) (i+ch) q (by rw[Blm];exact hi) hle (by omega) (by omega);rw[Ay6 ch v _ i hi hc]at ih;simp only;rw[Ah (by omega) (by omega)];exact ih
  ·rw[Aac (by rw[Ae,Ac];simp;omega),show i=v.length by omega];rfl
theorem Awh(ch:Nat)(v:List UInt32)(hch:1<=ch)(Bhe:ch<=6)(hv:v.length<=4000):Uc (ch:Int) v=some (((lL ch v (v.length %ch) v.length).1:Int),((lL ch v (v.length %ch) v.length).2.1:Int),(lL ch v (v.length %ch) v.length).2.2.1,(lL ch v (v.length %ch) v.length).2.2.2):=by
 have hc:v.length %ch<ch:=Bhn _ (by omega);have hle:v.length %ch<=v.length:=Bln _ _;have h:=zY ch v hch Bhe hv v.length (v.length %ch) Ax (by rw[Nat.mod_mod]) hle (by omega) (by have:=As;omega);rw[Akj ch v _ _ (Am4 _) hc]at h;rw[Uc,KC,Qf,Aa];simp only;rw[Bl (by rw[Aj];simp;omega),Aa,Ac,NP];exact h
def now(ch:Nat)(v:List UInt32):DuN:=lL ch v (v.length %ch) v.length
def yW(N a:Nat):Nat:=min 81 (N-a)
def Nu(ch:Nat)(p:List UInt8)(N a:Nat)(out:List UInt32):UInt32×Int×Int:=dW (Rt p a (yW N a)) (yW N a) 0 (now ch out).1 (now ch out).2.1
def Ws(ch:Nat)(p:List UInt8)(N:Nat):Nat->Nat->List UInt32->List UInt32×Nat×Int
 |0,a,out=>(out,a,0)
 |j+1,a,out=>if(Nu ch p N a out).2.2≠0 then(out,a,(Nu ch p N a out).2.2)else Ws ch p N j (a+(Nu ch p N a out).2.1.toNat) (out++[(Nu ch p N a out).1])
theorem qM{ch:Nat}{p:List UInt8}{N a:Nat}{out:List UInt32}(h:(Nu ch p N a out).2.2=0):0<(Nu ch p N a out).2.1/\ (Nu ch p N a out).2.1<=yW N a:=by
 have:=Bgz h;exact⟨this.1,this.2⟩
theorem Ai7{ch:Nat}{p:List UInt8}{N a:Nat}{out:List UInt32}(h:(Nu ch p N a out).2.2=0):((a:Int)+(Nu ch p N a out).2.1)=((a+(Nu ch p N a out).2.1.toNat:Nat):Int):=by
 have:=qM h;omega
def sts(ch:Nat)(v:List UInt32):List DuL:=(List.range 6).map λc=>toI (lL ch v c v.length)
theorem Akg{ch:Nat}{v:List UInt32}{c:Nat}(h:c<6):Ap (sts ch v) (c:Int)=some (toI (lL ch v c v.length)):=by
 rw[Bq (by simp[sts];exact h)];simp[sts]
theorem Atm{ch:Nat}{v:List UInt32}{c:Nat}(x:UInt32)(h:c<6)(hc:c=v.length %ch):Oe (sts ch v) (c:Int) (toI (nxt (lL ch v c v.length) x))=some (sts ch (v++[x])):=by
 rw[Wf _ (by simp[sts];exact h)];congr 1;apply Bee (by simp[sts]);intro i h1 h2;rw[Blx];simp only[sts,Bkd,Bj9];have e:(v++[x]).getD v.length 0=x:=by simp
 rw[Aav,Bhf,lL,e,Att ch v [x] i v.length (Am4 _)];by_cases hi:c=i
 ·subst hi;rw[Aau rfl,Aau hc.symm]
 ·rw[Aac hi,Aac (by omega)]
theorem Bd0{ch:Nat}{v:List UInt32}{c:Nat}(hc:c=v.length %ch):lL ch v c v.length=now ch v:=by rw[now,hc]
section
variable {p:List UInt8} {N ch n:Nat}
theorem Ao4(hp:okB p N)(h1:1<=ch)(h6:ch<=6)(hn:n*ch<=4000):∀(j a q:Nat) (out:List UInt32),out.length+j=n*ch->j<q->a<=N->
  Py (ch:Int) (n:Int) p (N:Int) q (a:Int) (out.length:Int) (sts ch out) out=
   some (if(Ws ch p N j a out).2.2≠0 then([],0,(Ws ch p N j a out).2.2)else((Ws ch p N j a out).1,((Ws ch p N j a out).2.1:Int),0))
 |j,a,q+1,out,hj,hq,ha=>by
  have hN:=hp.1;have hnn:n<=n*ch:=Bls n (by omega);have em:Bj (n:Int) (ch:Int)=((n*ch:Nat):Int):=by rw[Fh (by rw[<-Apa];omega) (by rw[<-Apa];omega),Apa]
  rw[Py,Vm,em];cases j with
  |zero=>
   rw[Aac (by rw[Ae];simp;omega)];rfl
  |succ j=>
   have hc:out.length %ch<6:=Apb (Bhn _ (by omega)) h6;have ew:Fo (Ad (a:Int) 81) (N:Int)=((a+yW N a:Nat):Int):=by rw[OY,Ah (by omega) (by omega)];unfold yW;omega
   have hw:a+yW N a<=N:=by unfold yW;omega
   have hw2:yW N a<=81:=by unfold yW;omega
   have hd:=Bcw (vC p a (yW N a) (by omega)) 0 (oC ch out (out.length %ch) out.length);have Ba5:dW (Rt p a (yW N a)) (yW N a) 0 (lL ch out (out.length %ch) out.length).1 (lL ch out (out.length %ch) out.length).2.1=Nu ch p N a out:=rfl;rw[Aau (by rw[Ae];simp;omega),ew,Bfe hp a _ hw (by omega),Aa];simp only;rw[Aac (by rw[Aj];simp),Bl (by rw[Aj];simp;omega),Aa,NP,Akg hc,Aa,Aa];refine Bhp (congrArg (λo=>Option.bind o _) hd) ?_;rw[Aa,Ba5,Ws];by_cases he:(Nu ch p N a out).2.2≠0
   ·rw[Aau he,Aau he];simp only;rw[Vw,Vo,Aau (by rw[Aj];simpa using he),Aau he]
   ·have he0:(Nu ch p N a out).2.2=0:=by simpa using he
    have hok:=qM he0;have hset:=Atm (ch:=ch) (v:=out) (Nu ch p N a out).1 hc rfl;rw[Aac he,Aac he];simp only;rw[Vw,Vo,Aac (by rw[Aj];simp),Bl (by rw[Aj];simp;omega),Aa,NP,Akg hc,Aa];refine Bhp (congrArg (λo=>Option.bind o _) hset) ?_;rw[Aa,FK,aO,Bi (by simp;omega),Aa,Ah (by omega) (by omega),Ah (by omega) (by omega),Ai7 he0];have ih:=Ao4 hp h1 h6 hn j (a+(Nu ch p N a out).2.1.toNat) q (out++[(Nu ch p N a out).1]) (by simp;omega) (by omega) (by omega);rw[Aav,Bhf]at ih;exact ih
theorem Ar5{p:List UInt8}(hN:N=8*p.length)(hN2:N<=330000)(h1:1<=ch)(h6:ch<=6)(hn:n*ch<=4000):∀(j a q:Nat) (out:List UInt32),out.length+j=n*ch->j<q->a<=N->
  Gj (ch:Int) (n:Int) p q (a:Int) (out.length:Int) out=
   if(Ws ch p N j a out).2.2≠0 then some ((Ws ch p N j a out).1,(Ws ch p N j a out).2.2)else Xw ((Ws ch p N j a out).2.1:Int) p (Ws ch p N j a out).1
 |j,a,q+1,out,hj,hq,ha=>by
  have hnn:n<=n*ch:=Bls n (by omega);have em:Bj (n:Int) (ch:Int)=((n*ch:Nat):Int):=by rw[Fh (by rw[<-Apa];omega) (by rw[<-Apa];omega),Apa]
  have e8:Bj (8:Int) (Ac p)=(N:Int):=by rw[Ac,Fh (by omega) (by omega)];omega
  rw[Gj,MU,em];cases j with
  |zero=>
   rw[Aac (by rw[Ae];simp;omega)];rfl
  |succ j=>
   have ew:Fo (Ad (a:Int) 81) (N:Int)=((a+yW N a:Nat):Int):=by rw[OY,Ah (by omega) (by omega)];unfold yW;omega
   have hw:a+yW N a<=N:=by unfold yW;omega
   have hw2:yW N a<=81:=by unfold yW;omega
   have hpre:(Option.bind Qf λ(r_4,r_5,r_6,r_7)=>
     if(Nk (out.length:Int) (ch:Int))=true then(
     Option.bind (Uc (ch:Int) out) λ(r_8,r_9,r_10,r_11)=>
     Lr (Gj (ch:Int) (n:Int) p q) (ch:Int) (n:Int) p (a:Int) (out.length:Int) out r_8 r_9 r_10 r_11)
     else Lr (Gj (ch:Int) (n:Int) p q) (ch:Int) (n:Int) p (a:Int) (out.length:Int) out r_4 r_5 r_6 r_7)=
     Lr (Gj (ch:Int) (n:Int) p q) (ch:Int) (n:Int) p (a:Int) (out.length:Int) out ((now ch out).1:Int) ((now ch out).2.1:Int) (now ch out).2.2.1 (now ch out).2.2.2:=by
    rw[Qf,Aa];by_cases hc:ch<=out.length
    ·simp only;rw[Aau (by rw[Ea];simp;omega),Awh ch out h1 h6 (by omega),Aa];rfl
    ·have e:now ch out=Ak8:=by rw[now,Abl (by omega),Akj ch out _ _ (Am4 _) (by omega)]
     simp only;rw[Aac (by rw[Ea];simp;omega),e];rfl
   have hd:=Ay5 (vC p a (yW N a) (by omega)) 0 (now ch out).1 (now ch out).2.1 (now ch out).2.2.1 (now ch out).2.2.2 (oC ch out _ _).1 (oC ch out _ _).2.1;have Ba5:dW (Rt p a (yW N a)) (yW N a) 0 (now ch out).1 (now ch out).2.1=Nu ch p N a out:=rfl;rw[Aau (by rw[Ae];simp;omega),hpre,Lr,MI,e8,ew,Anf p (N:Int) a _ (by omega) (by omega) (by omega),Aa];simp only;refine Bhp (congrArg (λo=>Option.bind o _) hd) ?_;rw[Aa,Ba5,Ws];by_cases he:(Nu ch p N a out).2.2≠0
   ·rw[Aau he,Aau (by rw[Aj];simpa using he),Aau he]
   ·have he0:(Nu ch p N a out).2.2=0:=by simpa using he
    have hok:=qM he0;have ih:=Ar5 hN hN2 h1 h6 hn j (a+(Nu ch p N a out).2.1.toNat) q (out++[(Nu ch p N a out).1]) (by simp;omega) (by omega) (by omega);have hx:=Ai7 he0;rw[Aav,Bhf]at ih;rw[Aac he];generalize Nu ch p N a out=R at*
    obtain⟨v,nx,e⟩:=R;simp only at*
    rw[Aac (by rw[Aj];simpa using he),Bi (by simp;omega),Aa,Ah (by omega) (by omega),Ah (by omega) (by omega),hx];exact ih
end
theorem Ace{ch:Nat}{p:List UInt8}{N:Nat}:∀(j a:Nat) (out:List UInt32),a<=N-> (Ws ch p N j a out).2.1<=N/\ (Ws ch p N j a out).1.length<=out.length+j/\ ((Ws ch p N j a out).2.2=0-> (Ws ch p N j a out).1.length=out.length+j)
 |0,a,out,h=>⟨h,Am4 _,λ_=>rfl⟩
 |j+1,a,out,h=>by
  rw[Ws];split
  ·rename_i he;exact⟨h,by simp,λe=>absurd e he⟩
  ·rename_i he;have hok:=qM (ch:=ch) (p:=p) (N:=N) (a:=a) (out:=out) (by simpa using he);have hw:a+yW N a<=N:=by unfold yW;omega
   have ih:=Ace (ch:=ch) (p:=p) (N:=N) j (a+(Nu ch p N a out).2.1.toNat) (out++[(Nu ch p N a out).1]) (by omega);rw[Aav,Bhf]at ih;exact⟨ih.1,by omega,λe=>by have:=ih.2.2 e;omega⟩
theorem Amq(ch n:Int)(b:List UInt8)(N:Int):Wg ch n b N 0 (List.replicate 6 ((0:Int),(0:Int),(0:UInt64),(0:UInt64),()))=EM ch n b N (List.replicate 6 ((10:Int),(10:Int),(16384:UInt64),(16384:UInt64),())):=by
 have e:Ax=(Ax-7)+1+1+1+1+1+1+1:=by have:=As;omega
 rw[Wg,e];rfl
theorem values_eq{p:List UInt8}{N ch n:Nat}(hp:okB p N)(h1:1<=ch)(h6:ch<=6)(hn:n*ch<=4000):IW (ch:Int) (n:Int) p (N:Int)=
  some (if(Ws ch p N (n*ch) 0 []).2.2≠0 then([],0,(Ws ch p N (n*ch) 0 []).2.2)else((Ws ch p N (n*ch) 0 []).1,((Ws ch p N (n*ch) 0 []).2.1:Int),0)):=by
 have h:=Ao4 hp h1 h6 hn (n*ch) 0 Ax [] (by simp) (by have:=As;omega) (by omega);rw[IW,KX,Amq];exact h
theorem Aiq(p:List UInt8)(x:List UInt32)(N:Nat)(hN:N=8*p.length)(hN2:N<=330000):∀(j a q:Nat),a+j=N->j<q->Lz p x q (a:Int)=some (x,if Cf p a j=0 then 0 else 12)
 |0,a,q+1,ha,_=>by
  have e8:Bj (8:Int) (Ac p)=(N:Int):=by rw[Ac,Fh (by omega) (by omega)];omega
  rw[Lz,Xx,e8,Aac (by rw[Ae];simp;omega),Cf,Aau rfl];rfl
 |j+1,a,q+1,ha,hq=>by
  have e8:Bj (8:Int) (Ac p)=(N:Int):=by rw[Ac,Fh (by omega) (by omega)];omega
  have hb:=DH p a;rw[Lz,Xx,e8,Aau (by rw[Ae];simp;omega),yU p _ a (by omega) (by omega),Aa,Cf];by_cases h:Ho p a=0
  ·rw[Aac (by rw[Aj];simp[h]),Ah (by omega) (by omega),h];have ih:=Aiq p x N hN hN2 j (a+1) q (by omega) (by omega);rw[show((a:Int)+1)=((a+1:Nat):Int) by omega,ih];congr 2;by_cases hv:Cf p (a+1) j=0
   ·rw[Aau hv,Aau (by omega)]
   ·rw[Aac hv,Aac (by omega)]
  ·rw[Aau (by rw[Aj];simp;omega),Aac (by omega)]
theorem Aj2{p:List UInt8}{N ch n:Nat}(hN:N=8*p.length)(hN2:N<=330000)(h1:1<=ch)(h6:ch<=6)(hn:n*ch<=4000):JW (ch:Int) (n:Int) p=
  some (if(Ws ch p N (n*ch) 0 []).2.2≠0 then((Ws ch p N (n*ch) 0 []).1,(Ws ch p N (n*ch) 0 []).2.2)else
   ((Ws ch p N (n*ch) 0 []).1,if 7<N-(Ws ch p N (n*ch) 0 []).2.1\/Cf p (Ws ch p N (n*ch) 0 []).2.1 (N-(Ws ch p N (n*ch) 0 []).2.1)≠0 then 12 else 0)):=by
 have h:=Ar5 hN hN2 h1 h6 hn (n*ch) 0 Ax [] (by simp) (by have:=As;omega) (by omega);have hat:=(Ace (ch:=ch) (p:=p) (N:=N) (n*ch) 0 [] (by omega)).1;have e8:Bj (8:Int) (Ac p)=(N:Int):=by rw[Ac,Fh (by omega) (by omega)];omega
 rw[JW,QU];refine Bhp h ?_;generalize Ws ch p N (n*ch) 0 []=V at*
 obtain⟨v,a,e⟩:=V;simp only at*
 by_cases he:e≠0
 ·rw[Aau he,Aau he]
 ·rw[Aac he,Aac he,Xw,MX,e8,Bu (by omega) (by omega)];by_cases h7:7<N-a
  ·rw[Aau (by rw[Aq];simp;omega),Aau (.inl h7)]
  ·rw[Aac (by rw[Aq];simp;omega),MQ,Aiq p v N hN hN2 (N-a) a Ax (by omega) (by have:=As;omega)];by_cases hv:Cf p a (N-a)=0
   ·rw[Aau hv,Aac (by omega)]
   ·rw[Aac hv,Aau (.inr hv)]
theorem Akf(n:Int):(GI.ofZ n:Int32)=Int32.ofInt n:=rfl
theorem PL(a:Int32):GI.toZ a=a.toInt:=rfl
theorem gD(a b:Int32):Ad a b=a+b:=by
 rw[Ad,PL,PL,Akf,Int32.ofInt_add,Be0,Be0]
theorem XY(a b:Int32):Ao a b=a-b:=by
 rw[Ao,PL,PL,Akf,Int32.ofInt_sub,Be0,Be0]
theorem Ase(a b:Int32):geq a b=(a==b):=by
 rw[geq,PL,PL,Alf];simp[Int32.toInt_inj]
theorem Bca(a b:Int32):Bc a b=(a !=b):=by
 rw[Bc,PL,PL,Alf];simp[Int32.toInt_inj]
def jY(p:Nat->Bool)(a b:List Int32):List Int32:=(List.range a.length).map λk=>if p k=true then a.getD k 0 else b.getD k 0
section
variable {p q:Nat->Bool} {a b:List Int32}
theorem PR:(jY p a b).length=a.length:=by simp[jY]
theorem Ku{k:Nat}(h:k<a.length):a.getD k 0=a[k]:=by simp[List.getD_eq_getElem?_getD,h]
theorem Vh{k:Nat}(h:k<(jY p a b).length):(jY p a b)[k]=if p k=true then a.getD k 0 else b.getD k 0:=by simp[jY]
theorem DN{k:Nat}(h:k<a.length):Ap (jY p a b) (k:Int)=some (if p k=true then a.getD k 0 else b.getD k 0):=by
 rw[Bq (by rw[PR];exact h),Vh]
theorem Xb(h:∀k,k<a.length->p k=q k):jY p a b=jY q a b:=by
 apply Bkp;intro k hk;rw[h k (List.mem_range.1 hk)]
theorem iD{k:Nat}(h:k<a.length):Oe (jY p a b) (k:Int) (a.getD k 0)=some (jY (λj=>p j||decide (j=k)) a b):=by
 rw[Wf _ (by rw[PR];exact h)];congr 1;apply Bee (by simp[PR]);intro i h1 h2;rw[Blx,Vh,Vh];by_cases hi:k=i
 ·subst hi;simp
 ·have:¬i=k:=λe=>hi e.symm;simp[hi,this]
theorem qV(h:∀k,k<a.length->p k=true):jY p a b=a:=by
 apply Bee (by simp[PR]);intro i h1 h2;rw[Vh,Aau (h i h2),Ku h2]
theorem mT(hl:b.length=a.length)(h:∀k,k<a.length->p k=false):jY p a b=b:=by
 apply Bee (by simp[PR,hl]);intro i h1 h2;rw[Vh,h i (by omega)];simp[List.getD_eq_getElem?_getD,h2]
end
theorem Adv(a b:Int32):Bj a b=a*b:=by
 rw[Bj,PL,PL,Akf,Int32.ofInt_mul,Be0,Be0]
theorem CG(a:Int32): -2147483648<=a.toInt/\a.toInt<2147483648:=⟨a.le_toInt,a.toInt_lt⟩
theorem Ge(a:Int32):(Af a:Int)=a.toInt:=by
 have:=CG a
 show wrap64 a.toInt=_;rw[Df]<;>omega
theorem WR(n:Int):(Af n:Int32)=Int32.ofInt n:=rfl
theorem Avc(x:Int):Int32.ofInt (x %4294967296)=Int32.ofInt x:=by
 apply Int32.toInt_inj.1;rw[Bji,Bji];exact Int.emod_bmod x 4294967296
theorem Ab7(x:Int):Dm x=some (Int32.ofInt x):=by
 have e1:(Af x:UInt64).toNat=(x %18446744073709551616).toNat:=by
  rw[Amt,Akr,Abl (by omega)]
 have e2:(Af (Af x:UInt64):UInt32).toNat=(x %4294967296).toNat:=by
  have e:(Af (Af x:UInt64):UInt32)=UInt32.ofNat (Af x:UInt64).toNat:=by simp only[Af,Lm,Gf]
  rw[e,Ali,e1];show(x %18446744073709551616).toNat %4294967296=_;omega
 have e3:(Af (Af (Af x:UInt64):UInt32):Int32)=Int32.ofInt ((Af (Af x:UInt64):UInt32).toNat:Int):=rfl;rw[Dm,e3,e2,<-Avc x];congr 2;omega
theorem xM(a b:Int32):Dm (Ad (Af a:Int) (Af b:Int))=some (a+b):=by
 have:=CG a;have:=CG b;rw[Ge,Ge,Ah (by omega) (by omega),Ab7,Int32.ofInt_add,Be0,Be0]
theorem Azr(a b:Int32):Dm (Bj (Af a:Int) (Af b:Int))=some (a*b):=by
 have ha:=CG a;have hb:=CG b;have h1: -9223372036854775808<=a.toInt*b.toInt/\a.toInt*b.toInt<=9223372036854775807:=by
  have h2:(a.toInt*b.toInt).natAbs<=2147483648*2147483648:=by
   rw[Int.natAbs_mul];exact Bem (by omega) (by omega)
  omega
 rw[Ge,Ge,Fh h1.1 h1.2,Ab7,Int32.ofInt_mul,Be0,Be0]
def OkF(s:Int)(t p:List Int32):Prop:=(s=9\/s=10)/\t.length=16/\p.length=16
theorem zU{s:Int}{t p:List Int32}(h:OkF s t p):OL s t p=some 0:=by
 obtain⟨rfl|rfl,_,_⟩:=h<;>rfl
theorem g32{l:List Int32}{k:Nat}(h:k<l.length):Ap l (k:Int)=some (l.getD k 0):=by
 rw[Bq h];simp[List.getD_eq_getElem?_getD,h]
def oM(t p:List Int32):Nat->Int32
 |0=>0
 |i+1=>oM t p i+t.getD i 0*p.getD i 0
def half(s:Int):Int32:=if s=9 then 256 else 512
def gF(s:Int)(t p:List Int32):Int32:=Int32.ofInt ((half s+oM t p 16).toInt.fdiv (if s=9 then 512 else 1024))
theorem Ai6{s:Int}{t p:List Int32}(h:OkF s t p):∀(j i q:Nat),i+j=16->j<q->Xl t s p q (half s+oM t p i) (i:Int)=some (gF s t p,0)
 |0,i,q+1,hi,_=>by
  obtain rfl:i=16:=by omega
  have hs:=h.1;rw[Xl,QC,Aac (by rw[Ae];simp),cS,sU,Bl (by rw[Ea];simp;omega),Aa];obtain rfl|rfl:=hs<;>rfl
 |j+1,i,q+1,hi,hq=>by
  obtain⟨hs,ht,hp⟩:=h;rw[Xl,QC,Aau (by rw[Ae];simp;omega),g32 (by omega),Aa,g32 (by omega),Aa,Aa,Ah (b:=1) (by omega) (by omega),gD,Adv,Int32.add_assoc];exact Ai6 ⟨hs,ht,hp⟩ j (i+1) q (by omega) (by omega)
theorem Alp{s:Int}{t p:List Int32}(h:OkF s t p):XF s t p=some (gF s t p,0):=by
 have hs:=h.1;have h1:=Ai6 h 16 0 Ax (by omega) (by have:=As;omega);have e:Dt (1:Int32) (GI.toZ (Ao s (1:Int))).toNat=half s+oM t p 0:=by
  obtain rfl|rfl:=hs<;>rfl
 rw[XF,cL,zU h,Aa,Aac (by rw[Aj];simp),Bl (by rw[Ea,Bu (by omega) (by omega)];simp;omega),Aa,dQ,e];exact h1
theorem Acu{s:Int}{t p:List Int32}(ht:t.length=16)(hp:p.length=16){g:Int32}(hg:oM t p 16=g):∀(j i q:Nat),i+j=16->j<q->Om s t p q (oM t p i).toInt (i:Int)=some g
 |0,i,q+1,hi,_=>by
  obtain rfl:i=16:=by omega
  rw[Om,BZ,Aac (by rw[Ae];simp),UL,UM,WR,Be0,hg]
 |j+1,i,q+1,hi,hq=>by
  have ih:=Acu (s:=s) ht hp hg j (i+1) q (by omega) (by omega);rw[oM]at ih;rw[Om,BZ,Aau (by rw[Ae];simp;omega),g32 (by omega),g32 (by omega),Aa,Aa,Aa,Aa,Azr,Aa,<-Ge (oM t p i),xM,Aa,Ge,Ah (by omega) (by omega)];exact ih
theorem Ay4{s:Int}{t p:List Int32}(h:OkF s t p):eU s t p=some (oM t p 16):=
 Acu h.2.1 h.2.2 rfl 16 0 Ax (by omega) (by have:=As;omega)
theorem Au8(x n:Int)(hn:n=512\/n=1024\/n=16\/n=32):(if x.tmod n<0 then x.tdiv n-1 else x.tdiv n)=x.fdiv n:=by
 have hs:n.sign=1:=by obtain rfl|rfl|rfl|rfl:=hn<;>rfl
 rw[Int.tdiv_eq_ediv,Int.tmod_eq_emod,hs,As3 _ (by omega)];by_cases h:0<=x\/n∣x
 ·rw[Aau h,Aau h];obtain rfl|rfl|rfl|rfl:=hn<;>(rw[Aac (by omega)];omega)
 ·rw[Aac h,Aac h];obtain rfl|rfl|rfl|rfl:=hn<;>(rw[Aau (by omega)];omega)
theorem Adu(x n:Int)(hn:n=512\/n=1024\/n=16\/n=32)(h: -1000000000000<=x)(h':x<=1000000000000): -1000000000000<=x.tdiv n/\x.tdiv n<=1000000000000:=by
 have hs:n.sign=1:=by obtain rfl|rfl|rfl|rfl:=hn<;>rfl
 rw[Int.tdiv_eq_ediv,hs];by_cases h:0<=x\/n∣x
 ·rw[Aau h];obtain rfl|rfl|rfl|rfl:=hn<;>omega
 ·rw[Aac h];obtain rfl|rfl|rfl|rfl:=hn<;>omega
theorem Bip(x n:Int)(hn:n=512\/n=1024\/n=16\/n=32)(h: -1000000000000<=x)(h':x<=1000000000000):Bw x n=x.tdiv n:=by
 have:=Adu x n hn h h';rw[TC,Df (by omega) (by omega)]
theorem Anx(x n:Int)(hn:n=512\/n=1024\/n=16\/n=32)(h: -1000000000000<=x)(h':x<=1000000000000):
  (if(Cv (Gw x n) (0:Int))=true then some (Af (Ao (Bw x n) (1:Int)):Int32)else some (Af (Bw x n):Int32))=some (Int32.ofInt (x.fdiv n)):=by
 have hb:=Adu x n hn h h';rw[Ae,Gw,Bip x n hn h h',Bu (by omega) (by omega),WR,WR,<-Au8 x n hn];by_cases hx:x.tmod n<0
 ·rw[Aau (by simpa using hx),Aau hx]
 ·rw[Aac (by simpa using hx),Aac hx]
theorem Bbc{s:Int}{t p:List Int32}(h:OkF s t p):IQ s t p=some (gF s t p):=by
 obtain⟨hs,ht,hp⟩:=h;have h:OkF s t p:=⟨hs,ht,hp⟩;have hx:=CG (oM t p 16+half s);have key:∀n:Int,(n=512\/n=1024)-> (half s).toInt=n/2->gF s t p=Int32.ofInt ((half s+oM t p 16).toInt.fdiv n)->Zp s t p n=some (gF s t p):=by
  intro n hn hh hg;have e2:Bw n (2:Int)=(half s).toInt:=by rw[hh];obtain rfl|rfl:=hn<;>rfl
  rw[Zp,SN,Ay4 h,Aa,e2,<-Ge (half s),xM,Aa,Bl (by rw[Aj];simp;omega),Aa,Aa,Ge,Anx _ n (by omega) (by omega) (by omega),hg,Int32.add_comm]
 rw[IQ,QH];obtain rfl|rfl:=hs
 ·rw[Aau (by rw[Ar];rfl)];exact key 512 (.inl rfl) rfl rfl
 ·rw[Aac (by rw[Ar];decide)];exact key 1024 (.inr rfl) rfl rfl
def stp(i:Nat):Int32:=if i=0 then 4 else if i<4 then 2 else 1
def sg(x:Int32):Int32:=if x.toInt<0 then -1 else if 0<x.toInt then 1 else 0
def lrn(t p:List Int32)(w:Int32):List Int32:=(List.range 16).map λi=>t.getD i 0+stp i*sg (p.getD i 0)*sg w
theorem HT(t p:List Int32)(w:Int32):(lrn t p w).length=16:=by simp[lrn]
theorem Aj6(t p:List Int32)(w:Int32){i:Nat}(h:i<16):(lrn t p w).getD i 0=t.getD i 0+stp i*sg (p.getD i 0)*sg w:=by
 rw[Ku (by rw[HT];exact h)];simp[lrn]
theorem step_eq(i:Nat):fX (i:Int)=some (stp i):=by
 rw[fX,stp];by_cases h:i=0
 ·rw[Aau (by rw[Ar];simp[h]),Aau h]
 ·rw[Aac (by rw[Ar];simp;omega),Aac h];by_cases h2:i<4
  ·rw[Aau (by rw[Ae];simp;omega),Aau h2]
  ·rw[Aac (by rw[Ae];simp;omega),Aac h2]
theorem Avm(i:Nat):IX (i:Int)=some (stp i):=by
 rw[IX,stp];by_cases h:i=0
 ·rw[Aau (by rw[Ar];simp[h]),Aau h]
 ·rw[Aac (by rw[Ar];simp;omega),Aac h];by_cases h2:i<4
  ·rw[Aau (by rw[US];simp;omega),Aau h2]
  ·rw[Aac (by rw[US];simp;omega),Aac h2]
theorem Ak1(a b:Int32):Cv a b=decide (a.toInt<b.toInt):=rfl
theorem Aqt(a b:Int32):Eh a b=decide (b.toInt<a.toInt):=rfl
theorem sign_eq(x:Int32):Za x=some (sg x):=by
 rw[Za,sg,Ak1,Aqt,show(0:Int32).toInt=0 from rfl];by_cases h:x.toInt<0
 ·rw[Aau (by simpa using h),Aau h]
 ·rw[Aac (by simpa using h),Aac h];by_cases h2:0<x.toInt
  ·rw[Aau (by simpa using h2),Aau h2]
  ·rw[Aac (by simpa using h2),Aac h2]
theorem Art:sg 0=0:=rfl
theorem toInt_ne{x:Int32}(h:x≠0):x.toInt≠0:=λe=>h (Int32.toInt_inj.1 (by rw[e];rfl))
theorem Aja{x:Int32}(h:x.toInt<0):sg x= -1:=by rw[sg,Aau h]
theorem Aj3{x:Int32}(h:x≠0)(h2:¬x.toInt<0):sg x=1:=by
 have:=toInt_ne h;rw[sg,Aac h2,Aau (by omega)]
theorem rE(i:Nat):stp i=4\/stp i=2\/stp i=1:=by
 unfold stp;by_cases h:i=0
 ·rw[Aau h];exact .inl rfl
 ·rw[Aac h];split;exact .inr (.inl rfl);exact .inr (.inr rfl)
theorem Avw{x w:Int32}(hx:x≠0)(hw:w≠0)(h:(x.toInt<0)=(w.toInt<0))(i:Nat):stp i*sg x*sg w=stp i:=by
 by_cases h1:x.toInt<0
 ·rw[Aja h1,Aja (by rw[<-h];exact h1)];obtain e|e|e:=rE i<;>rw[e]<;>decide
 ·rw[Aj3 hx h1,Aj3 hw (by rw[<-h];exact h1)];obtain e|e|e:=rE i<;>rw[e]<;>decide
theorem Aqk{x w:Int32}(hx:x≠0)(hw:w≠0)(h:¬(x.toInt<0)=(w.toInt<0))(i:Nat)(a:Int32):a+stp i*sg x*sg w=a-stp i:=by
 have key:stp i*sg x*sg w=-stp i:=by
  by_cases h1:x.toInt<0
  ·have h2:¬w.toInt<0:=λh2=>h (propext ⟨λ_=>h2,λ_=>h1⟩);rw[Aja h1,Aj3 hw h2];obtain e|e|e:=rE i<;>rw[e]<;>decide
  ·have h2:w.toInt<0:=Decidable.by_contra λh2=>h (propext ⟨λh3=>absurd h3 h1,λh3=>absurd h3 h2⟩);rw[Aj3 hx h1,Aja h2];obtain e|e|e:=rE i<;>rw[e]<;>decide
 rw[key,Int32.sub_eq_add_neg]
def wJ(i:Nat):Nat->Bool:=λj=>decide (j<i)
theorem Aco{a b:List Int32}{i:Nat}(h:i<a.length):Oe (jY (wJ i) a b) (i:Int) (a.getD i 0)=some (jY (wJ (i+1)) a b):=by
 rw[iD h];congr 1;apply Xb;intro k _;rw[Alf];simp only[wJ,Ba0,Abk];omega
theorem Av5{a b:List Int32}{i:Nat}(e:a.getD i 0=b.getD i 0):jY (wJ i) a b=jY (wJ (i+1)) a b:=by
 apply Bkp;intro k _;simp only[wJ,Abk];by_cases h1:k<i
 ·rw[Aau h1,Aau (by omega)]
 ·by_cases h2:k=i
  ·subst h2;rw[Aac h1,Aau (by omega),e]
  ·rw[Aac h1,Aac (by omega)]
theorem Amk{a b:List Int32}{i:Nat}(h:i<a.length):Ap (jY (wJ i) a b) (i:Int)=some (b.getD i 0):=by
 rw[DN h,Aac (by simp[wJ])]
theorem Aha{s:Int}{t p:List Int32}{w:Int32}(hw:w≠0)(ht:t.length=16)(hp:p.length=16):∀(j i q:Nat),i+j=16->j<q->Xi w p s q (i:Int) (jY (wJ i) (lrn t p w) t)=some (s,lrn t p w,p,0)
 |0,i,q+1,hi,_=>by
  obtain rfl:i=16:=by omega
  rw[Xi,PO,Aac (by rw[Ae];simp),qV (λk hk=>by rw[HT]at hk;simpa [wJ]using hk)];rfl
 |j+1,i,q+1,hi,hq=>by
  have hl:=HT t p w;have hg:=Aj6 t p w (i:=i) (by omega);rw[Xi,PO,Aau (by rw[Ae];simp;omega),g32 (by omega),Aa,Ah (b:=1) (by omega) (by omega),Amk (by omega),step_eq];simp only[Aa];rw[gD,XY,Ase,Ak1,Ak1,show(0:Int32).toInt=0 from rfl];have ih:=Aha (s:=s) hw ht hp j (i+1) q (by omega) (by omega);by_cases hx:p.getD i 0=0
  ·rw[Aau (by rw[hx];rfl),Av5 (by rw[hg,hx,Art,Int32.mul_zero,Int32.zero_mul,Int32.add_zero])];exact ih
  ·rw[Aac (by simpa using hx)];by_cases hs:((p.getD i 0).toInt<0)=(w.toInt<0)
   ·rw[Aau (by rw[Atu];simp only[hs]),show t.getD i 0+stp i=(lrn t p w).getD i 0 by rw[hg,Avw hx hw hs],Aco (by omega),Aa];exact ih
   ·rw[Aac (by rw[Atu,decide_eq_decide];exact λh=>hs (propext h)),show t.getD i 0-stp i=(lrn t p w).getD i 0 by rw[hg,Aqk hx hw hs],Aco (by omega),Aa];exact ih
theorem Axe{t:List Int32}(p:List Int32)(ht:t.length=16):lrn t p 0=t:=by
 apply Bee (by rw[HT,ht]);intro i h1 h2;have:=Aj6 t p 0 (i:=i) (by omega);rw[Ku h1,Ku h2]at this;rw[this,Art,Int32.mul_zero,Int32.add_zero]
theorem Amz{s:Int}{t p:List Int32}(h:OkF s t p)(w:Int32):jJ s t p w=some (s,lrn t p w,p,0):=by
 rw[jJ,cW,zU h,Aa,Aac (by rw[Aj];simp),Ase];by_cases hw:w=0
 ·rw[Aau (by simpa using hw),hw,Axe p h.2.1]
 ·have h1:=Aha (s:=s) hw h.2.1 h.2.2 16 0 Ax (by omega) (by have:=As;omega);rw[mT (by rw[HT,h.2.1]) (λk _=>by simp[wJ])]at h1;rw[Aac (by simpa using hw)];exact h1
theorem wI{s:Int}{t p:List Int32}{w:Int32}(ht:t.length=16)(hp:p.length=16):∀(j i q:Nat),i+j=16->j<q->Ji w s p q (i:Int) (jY (wJ i) (lrn t p w) t)=some (s,lrn t p w,p)
 |0,i,q+1,hi,_=>by
  obtain rfl:i=16:=by omega
  rw[Ji,Vc,Aac (by rw[Ae];simp),qV (λk hk=>by rw[HT]at hk;simpa [wJ]using hk)];rfl
 |j+1,i,q+1,hi,hq=>by
  have hl:=HT t p w;have hg:=Aj6 t p w (i:=i) (by omega);rw[Ji,Vc,Aau (by rw[Ae];simp;omega),g32 (l:=p) (by omega),Ah (b:=1) (by omega) (by omega),Amk (by omega),Avm,sign_eq w,Aa,Aa,Aa,Aa,Aa,sign_eq,Aa,Aa,Aa,gD,Adv,Adv,<-hg,Aco (by omega),Aa];exact wI ht hp j (i+1) q (by omega) (by omega)
theorem Aq1{s:Int}{t p:List Int32}(h:OkF s t p)(w:Int32):RB s t p w=some (s,lrn t p w,p):=by
 have h1:=wI (s:=s) (w:=w) h.2.1 h.2.2 16 0 Ax (by omega) (by have:=As;omega);rw[mT (by rw[HT,h.2.1]) (λk _=>by simp[wJ])]at h1;exact h1
theorem Bdn{p:List Int32}(h:p.length=16):∃a0 a1 a2 a3 a4 a5 a6 a7 a8 a9 b0 b1 b2 b3 b4 b5,p=[a0,a1,a2,a3,a4,a5,a6,a7,a8,a9,b0,b1,b2,b3,b4,b5]:=by
 match p,h with
 |[a0,a1,a2,a3,a4,a5,a6,a7,a8,a9,b0,b1,b2,b3,b4,b5],_=>exact⟨a0,a1,a2,a3,a4,a5,a6,a7,a8,a9,b0,b1,b2,b3,b4,b5,rfl⟩
theorem Asw{s:Int}{t p:List Int32}(h:OkF s t p)(x:Int32):qC s t p x=some (s,t,x::p.take 15,0):=by
 obtain⟨hs,ht,hp⟩:=h;rw[qC,VS,zU ⟨hs,ht,hp⟩,Aa,Aac (by rw[Aj];simp),show fN (16:Int) 1 16=some ()from rfl,Aa,show fN (16:Int) 0 16=some ()from rfl,Aa,hH,wO];obtain⟨a0,a1,a2,a3,a4,a5,a6,a7,a8,a9,b0,b1,b2,b3,b4,b5,rfl⟩:=Bdn hp;rfl
def shf(p:List Int32)(i:Nat):List Int32:=(List.range 16).map λk=>if k<=i then p.getD k 0 else p.getD (k-1) 0
theorem DY(p:List Int32)(i:Nat):(shf p i).length=16:=by simp[shf]
theorem Bbs(p:List Int32)(i k:Nat)(h:k<16):(shf p i).getD k 0=if k<=i then p.getD k 0 else p.getD (k-1) 0:=by
 rw[Ku (by rw[DY];exact h)];simp[shf]
theorem Bd6(p:List Int32)(i:Nat)(h:i+1<16):Oe (shf p (i+1)) ((i+1:Nat):Int) (p.getD i 0)=some (shf p i):=by
 rw[Wf _ (by rw[DY];exact h)];congr 1;apply Bee (by simp[DY]);intro k h1 h2;rw[DY]at h2;rw[Blx];simp only[shf,Bkd,Bj9];by_cases hk:i+1=k
 ·subst hk;rw[Aau rfl,Aac (by omega)];rfl
 ·rw[Aac hk];by_cases h3:k<=i
  ·rw[Aau (by omega),Aau h3]
  ·rw[Aac (by omega),Aac h3]
theorem Abh(s:Int)(t p:List Int32)(x:Int32)(hp:p.length=16):∀(i q:Nat),i<16->i<q->Kn x s t q (i:Int) (shf p i)=some (s,t,x::p.take 15)
 |0,q+1,_,_=>by
  have hg:Ap (shf p 0) (0:Int)=some ((shf p 0).getD 0 0):=g32 (l:=shf p 0) (k:=0) (by rw[DY];omega);have hset:Oe (shf p 0) (0:Int) x=some ((shf p 0).set 0 x):=Wf (l:=shf p 0) (n:=0) x (by rw[DY];omega);rw[Kn,Vl,Aac (by rw[Aq];simp),HQ,KD,hg,Aa,hset,Aa];congr 3;apply Bee (by simp[DY,hp]);intro k h1 h2;rw[Bju,DY]at h1;rw[Blx];cases k with
  |zero=>rw[Aau rfl];rfl
  |succ k=>
   rw[Aac (by omega)];simp only[shf,Bkd,Bj9,List.getElem_cons_succ,List.getElem_take];rw[Aac (by omega),Nat.add_sub_cancel,Ku (by omega)]
 |i+1,q+1,hi,hq=>by
  have hg:=g32 (l:=shf p (i+1)) (k:=i) (by rw[DY];omega);rw[Bbs p (i+1) i (by omega),Aau (by omega)]at hg;have e1:Ao ((i+1:Nat):Int) (1:Int)=(i:Int):=by rw[Bu (by omega) (by omega)];omega
  have hg2:=g32 (l:=shf p (i+1)) (k:=i+1) (by rw[DY];omega);rw[Kn,Vl,Aau (by rw[Aq];simp),e1,hg,Aa,Aa,hg2,Aa,Bd6 p i hi,Aa];exact Abh s t p x hp i q (by omega) (by omega)
theorem Atx{s:Int}{t p:List Int32}(hp:p.length=16)(x:Int32):VG s t p x=some (s,t,x::p.take 15):=by
 have h:=Abh s t p x hp 15 Ax (by omega) (by have:=As;omega);have e:shf p 15=p:=by
  apply Bee (by rw[DY,hp]);intro k h1 h2;rw[DY]at h1;simp only[shf,Bkd,Bj9];rw[Aau (by omega),Ku h2]
 rw[e]at h;exact h
theorem Axb{s:Int}{t p:List Int32}(h:OkF s t p)(w x:Int32):OkF s (lrn t p w) (x::p.take 15):=⟨h.1,HT _ _ _,by simp[h.2.2]⟩
theorem Bdk{s:Int}{t p:List Int32}(h:OkF s t p)(y:Int32):oY s t p y=some (y+gF s t p,s,lrn t p y,(y+gF s t p)::p.take 15,0):=by
 rw[oY,Alp h,Aa];simp only;rw[Aac (by rw[Aj];simp),gD,ZH,Amz h,Aa];simp only;rw[Asw (s:=s) (t:=lrn t p y) (p:=p) ⟨h.1,HT _ _ _,h.2.2⟩,Aa];rfl
theorem Avo{s:Int}{t p:List Int32}(h:OkF s t p)(y:Int32):AO s t p y=some (y+gF s t p,s,lrn t p y,(y+gF s t p)::p.take 15):=by
 rw[AO,Bbc h,Aa,xM,Aa,Aq1 h,Aa];simp only;rw[Atx h.2.2,Aa]
def sB(bits:Int):Int:=if bits=16 then 9 else 10
def shB(bits:Int):Int:=if bits=8 then 4 else 5
def Bk(bits:Int):Prop:=bits=8\/bits=16\/bits=24
def gs(sh:Int)(last:Int32):Int32:=Af (Ajw (Ao (Dt (Af last:Int) sh.toNat) (Af last)) sh.toNat)
theorem Biq(bits:Int):sB bits=9\/sB bits=10:=by unfold sB;split<;>simp
theorem Bcp(bits:Int):0<=shB bits:=by unfold shB;split<;>omega
theorem Bj0{bits:Int}(h:Bk bits)(t:List Int32):vS bits t=some (sB bits,t,List.replicate 16 0,0):=by
 obtain rfl|rfl|rfl:=h<;>rfl
theorem Bf5{bits:Int}(h:Bk bits):pI bits=some (shB bits,0):=by
 obtain rfl|rfl|rfl:=h<;>rfl
theorem Bff{sh:Int}(h:0<=sh)(last:Int32):cD sh last=some (gs sh last):=by
 rw[cD,Bl (by rw[Ea];simpa using h),Aa,Aa];rfl
theorem Bad{bits:Int}(h:Bk bits)(last:Int32):AI bits last=some (gs (shB bits) last,0):=by
 rw[AI,Bf5 h,Aa];simp only;rw[Aac (by rw[Aj];simp),Bff (Bcp bits),Aa]
theorem Ad5{bits:Int}(h:Bk bits)(last:Int32)(t p:List Int32):Zl bits last (sB bits) t p=some 0:=by
 rw[Zl,Bj0 h,Aa];simp only;rw[Aac (by rw[Aj,Aj];simp)]
theorem Awi{bits:Int}(h:Bk bits){t p:List Int32}(hF:OkF (sB bits) t p)(last y:Int32):
  Nw bits last (sB bits) t p y=some (y+gF (sB bits) t p+gs (shB bits) last,bits,y+gF (sB bits) t p+gs (shB bits) last,sB bits,lrn t p y,(y+gF (sB bits) t p)::p.take 15,0):=by
 rw[Nw,Ad5 h,Aa,Aac (by rw[Aj];simp),Bad h,Aa];simp only;rw[Bdk hF,Aa];simp only;rw[gD]
theorem yD(sh:Int)(hs:sh=4\/sh=5)(last:Int32):Tx sh last=some (gs sh last):=by
 have hl:=CG last;have key:∀n:Int,n=16\/n=32->gs sh last=Int32.ofInt (((n-1)*last.toInt).fdiv n)->Vn last n=some (gs sh last):=by
  intro n hn hg;have e:Bj (Ao n (1:Int)) (Af last:Int)=(n-1)*last.toInt:=by
   obtain rfl|rfl:=hn<;>(rw[Ge,Bu (by omega) (by omega),Fh (by omega) (by omega)])
  rw[Vn,KO,Bl (by rw[Aj];simp;omega),Aa,Aa,e,Anx _ n (by omega) (by obtain rfl|rfl:=hn<;>omega) (by obtain rfl|rfl:=hn<;>omega),hg]
 rw[Tx,KY];obtain rfl|rfl:=hs
 ·rw[Aac (by rw[Ar];decide)];refine key 16 (.inl rfl) ?_;have e:Dt (Af last:Int) (4:Int).toNat=last.toInt*16:=by
   rw[Ge];show wrap64 (last.toInt*2^4)=_;rw[Df]<;>omega
  rw[gs,e,Ge,Bu (by omega) (by omega),WR]
  show Int32.ofInt ((last.toInt*16-last.toInt).fdiv 16)=_;congr 2;omega
 ·rw[Aau (by rw[Ar];rfl)];refine key 32 (.inr rfl) ?_;have e:Dt (Af last:Int) (5:Int).toNat=last.toInt*32:=by
   rw[Ge];show wrap64 (last.toInt*2^5)=_;rw[Df]<;>omega
  rw[gs,e,Ge,Bu (by omega) (by omega),WR]
  show Int32.ofInt ((last.toInt*32-last.toInt).fdiv 32)=_;congr 2;omega
theorem Avg{bits:Int}(h:Bk bits){t p:List Int32}(hF:OkF (sB bits) t p)(last y:Int32):
  Zn bits last (sB bits) t p y=some (y+gF (sB bits) t p+gs (shB bits) last,bits,y+gF (sB bits) t p+gs (shB bits) last,sB bits,lrn t p y,(y+gF (sB bits) t p)::p.take 15):=by
 have hb:BY bits last (sB bits) t p=some (Af (gs (shB bits) last):Int):=by
  rw[BY];obtain rfl|rfl|rfl:=h
  ·rw[Aau (by rw[Ar];rfl),yD 4 (.inl rfl),Aa];rfl
  ·rw[Aac (by rw[Ar];decide),yD 5 (.inr rfl),Aa];rfl
  ·rw[Aac (by rw[Ar];decide),yD 5 (.inr rfl),Aa];rfl
 rw[Zn,Avo hF,Aa];simp only;rw[hb,Aa,xM,Aa]
theorem Biv{bits:Int}(h:Bk bits)(t:List Int32):gQ bits t=some (bits,0,sB bits,t,List.replicate 16 0,0):=by
 obtain rfl|rfl|rfl:=h<;>rfl
def XM(n:UInt32):Int32:=if n.toNat %2=0 then Int32.ofInt ((n.toNat/2:Nat):Int)else Int32.ofInt (-((n.toNat/2:Nat):Int)-1)
theorem Amu(a b:Int32):(AH a b).toBitVec=a.toBitVec^^^b.toBitVec:=by
 show(Int32.ofInt ((BitVec.ofInt 32 a.toBitVec.toInt^^^BitVec.ofInt 32 b.toBitVec.toInt).toNat:Int)).toBitVec=_;rw[BitVec.ofInt_toInt,BitVec.ofInt_toInt,Int32.toBitVec_ofInt,BitVec.ofInt_natCast,BitVec.ofNat_toNat,BitVec.setWidth_eq]
theorem Bib(m:Nat)(h:m<2147483648):AH (Int32.ofInt (m:Int)) (Int32.ofInt (-1))=Int32.ofInt (-(m:Int)-1):=by
 apply Int32.toBitVec_inj.1;have e1:(Int32.ofInt (-1)).toBitVec=BitVec.allOnes 32:=by decide
 rw[Amu,e1,BitVec.xor_allOnes,Int32.toBitVec_ofInt,Int32.toBitVec_ofInt];apply Bk1;rw[BitVec.toNat_not,Bho,Bho];omega
theorem Axf(n:UInt32):AU n=some (XM n):=by
 have hn:=n.toNat_lt;have e1:(Af (Ck n (GI.toZ (1:UInt64)).toNat):Int32)=Int32.ofInt ((n.toNat/2:Nat):Int):=by
  show Int32.ofInt ((Ck n 1).toNat:Int)=_;rw[RG]
 have e2:(Af (Fe n (1:UInt32)):Int32)=Int32.ofInt ((n.toNat %2:Nat):Int):=by
  show Int32.ofInt ((Fe n (1:UInt32)).toNat:Int)=_;rw[Aef,UInt32.toNat_and]
  show Int32.ofInt ((n.toNat&&&1:Nat):Int)=_;rw[Nat.and_one_is_mod]
 rw[AU,e1,e2,XM];congr 1;by_cases h:n.toNat %2=0
 ·have e3:wC (Int32.ofInt ((n.toNat %2:Nat):Int))=Int32.ofInt 0:=by rw[h];decide
  rw[Aau h,e3];apply Int32.toBitVec_inj.1;rw[Amu,show(Int32.ofInt 0).toBitVec=0#32 from rfl,BitVec.xor_zero]
 ·have e3:wC (Int32.ofInt ((n.toNat %2:Nat):Int))=Int32.ofInt (-1):=by rw[show n.toNat %2=1 by omega];decide
  rw[Aac h,e3,Bib _ (by omega)]
theorem Bbx(n:UInt32):IG n=some (XM n):=by
 have hn:=n.toNat_lt;have e1:geq (GY n (2:UInt32)) (0:UInt32)=decide (n.toNat %2=0):=by
  rw[Aku,An3,Alf];simp only[Atu,<-UInt32.toNat_inj,UInt32.toNat_mod,Abk];rfl
 rw[IG,e1,XM];by_cases h:n.toNat %2=0
 ·rw[Aau (by simpa using h),Aau h,Amw];rfl
 ·have e2:(Af n:Int)=(n.toNat:Int):=Afc n;rw[Aac (by simpa using h),Aac h,e2,Ah (by omega) (by omega),Akb,Df (by omega) (by omega),TC,Int.tdiv_eq_ediv,WR];congr 2;rw[Aau (.inr (by omega)),Df (by omega) (by omega)];omega
theorem sF{c:Prop} [Decidable c](h:c):Kx (decide c)=some ():=by rw[Bhq h];rfl
def unV(f:Nat->Int32)(ch:Nat):Nat->Int32
 |0=>if 1<ch then f (ch-1)+Bw (f (ch-2)) (2:Int32)else f (ch-1)
 |j+1=>unV f ch j-f (ch-2-j)
def unm(ch:Nat)(m:List Int32):List Int32:=(List.range m.length).map λk=>unV (λi=>m.getD (k-k %ch+i) 0) ch (ch-1-k %ch)
theorem jK(ch:Nat)(m:List Int32):(unm ch m).length=m.length:=by simp[unm]
theorem xB{ch:Nat}{m:List Int32}{a i:Nat}(ha:a %ch=0)(hi:i<ch)(h:a+i<m.length):(unm ch m).getD (a+i) 0=unV (λi=>m.getD (a+i) 0) ch (ch-1-i):=by
 have hb:(a+i) %ch=i:=by rw[Nat.add_mod,ha,Ay1,Nat.mod_mod,Abl hi]
 rw[Ku (by rw[jK];exact h)];simp only[unm,Bkd,Bj9,hb];rw[show a+i-i=a by omega]
section
variable (ch:Nat) (m:List Int32)
theorem Aos(h1:1<=ch)(h6:ch<=6)(hm:m.length %ch=0)(hl2:m.length<=4000):fD (ch:Int) m=some 0:=by
 rw[fD,Aac (by simp[Ae,Aq];omega),Aac (by rw[Aq,Ac];simp;omega),Bl (by rw[Aj];simp;omega),Aa,Aac];rw[Aj,Gw,Ac,<-Int.ofNat_tmod,hm];simp
theorem Agf(bk:Int->List Int32->Option (List Int32×Int))(at':Nat)(h1:1<=ch)(h6:ch<=6)(hm:at' %ch=0)(hl:at'+ch<=m.length)(hl2:m.length<=4000):∀(i q:Nat),i<=ch-1->i<q->
  BB bk (ch:Int) (at':Int) q ((i:Int)-1) (jY (λk=>decide (k<at'\/ (at'+i<=k/\k<at'+ch))) (unm ch m) m)=bk ((at'+ch:Nat):Int) (jY (λk=>decide (k<at'+ch)) (unm ch m) m)
 |0,q+1,hi,_=>by
  have e4:Ad (at':Int) (ch:Int)=((at'+ch:Nat):Int):=by rw[Ah (by omega) (by omega)];omega
  rw[BB,WH,Aac (by rw[Ea];simp),gY,vM,e4];congr 1;apply Xb;intro k _;rw[Alf];simp;omega
 |i+1,q+1,hi,hq=>by
  have hlen:=jK ch m;have e2:Ad (at':Int) (ch:Int)-(at':Int)=(ch:Int):=by rw[Ah (by omega) (by omega)];omega
  have e3:Ad (i:Int) 1=((i+1:Nat):Int):=by rw[Ah (by omega) (by omega)];omega
  have hv:((unm ch m).getD (at'+(i+1)) 0-m.getD (at'+i) 0)=(unm ch m).getD (at'+i) 0:=by
   rw[xB hm (by omega) (by omega),xB hm (by omega) (by omega),show ch-1-i=(ch-1-(i+1))+1 by omega,unV,show ch-2-(ch-1-(i+1))=i by omega]
  rw[BB,WH,show((i+1:Nat):Int)-1=(i:Int) by omega,Aau (by rw[Ea];simp),e2,e3,sF (by omega),Aa,sF (by omega),Aa,
   show(at':Int)+((i+1:Nat):Int)=((at'+(i+1):Nat):Int) by omega,show(at':Int)+(i:Int)=((at'+i:Nat):Int) by omega,
   DN (by omega),Aa,DN (by omega),Aa,Aa,Aau (by simp;omega),Aac (by simp;omega),XY,hv,iD (by omega),Aa,Bu (by omega) (by omega)]
  have ih:=Agf bk at' h1 h6 hm hl hl2 i q (by omega) (by omega);rw[<-ih];congr 1;apply Xb;intro k _;rw[Alf];simp;omega
theorem wA{at' ch n:Nat}(ha:at' %ch=0)(hm:n %ch=0)(h:at'<n):at'+ch<=n:=by
 have d1:=Bj5 at' ch;have d2:=Bj5 n ch;rw[ha,Bhl]at d1;rw[hm,Bhl]at d2;have hlt:at'/ch<n/ch:=by
  rcases Blp (at'/ch) (n/ch)with h'|h'
  ·exact h'
  ·have:=Bir ch h';omega
 have:=Bir ch (show at'/ch+1<=n/ch from hlt);rw[Nat.mul_add]at this;omega
theorem Ahr(h1:1<=ch)(h6:ch<=6)(hm:m.length %ch=0)(hl2:m.length<=4000):∀(j at' q:Nat),at' %ch=0->at'<=m.length->m.length-at'<=j->j<q->
  Vk (ch:Int) q (at':Int) (jY (λk=>decide (k<at')) (unm ch m) m)=some (unm ch m,0)
 |j,at',q+1,ha,hle,hj,hq=>by
  have hlen:=jK ch m;have hl:Ac (jY (λk=>decide (k<at')) (unm ch m) m)=(m.length:Int):=by rw[Ac,PR,hlen]
  rw[Vk,kD,hl];by_cases h:at'<m.length
  ·have hb:=wA ha hm h;obtain⟨j,rfl⟩:∃k,j=k+1:=⟨j-1,by omega⟩;have e1:Ao (Ad (at':Int) (ch:Int)-(at':Int)) 1=((ch-1:Nat):Int):=by rw[Ah (by omega) (by omega),Bu (by omega) (by omega)];omega
   have e2:Ad (at':Int) (ch:Int)-(at':Int)=(ch:Int):=by rw[Ah (by omega) (by omega)];omega
   have e4:Ad (at':Int) (ch:Int)=((at'+ch:Nat):Int):=by rw[Ah (by omega) (by omega)];omega
   have hi:=Agf ch m (Vk (ch:Int) q) at' h1 h6 ha hb hl2 (ch-1) Ax (by omega) (by have:=As;omega);have hrest:=Ahr h1 h6 hm hl2 j (at'+ch) q (by rw[Blm,ha]) hb (by omega) (by omega);have hstart:WK (Vk (ch:Int) q) (ch:Int) (at':Int) (jY (λk=>decide (k<at'\/ (at'+(ch-1)<=k/\k<at'+ch))) (unm ch m) m)=some (unm ch m,0):=by
    have e6:Ao ((ch-1:Nat):Int) 1=((ch-1:Nat):Int)-1:=Bu (by omega) (by omega);rw[WK,iN,gX,e1,e6];exact Bhp hi hrest
   rw[Aau (by rw[Ae];simp;omega),show fN (m.length:Int) (at':Int) (Ad (at':Int) (ch:Int))=some () by rw[e4,fN,sF];omega,Aa,e1,e2];have hlast:=xB (m:=m) ha (show ch-1<ch by omega) (by omega);rw[show ch-1-(ch-1)=0 by omega,unV]at hlast;by_cases hc:1<ch
   ·have e5:Ao ((ch-1:Nat):Int) 1=((ch-2:Nat):Int):=by rw[Bu (by omega) (by omega)];omega
    rw[Aau hc]at hlast;rw[Aau (by rw[Aq];simp;omega),sF (by omega),Aa,e5,sF (by omega),Aa,show(at':Int)+((ch-1:Nat):Int)=((at'+(ch-1):Nat):Int) by omega,show(at':Int)+((ch-2:Nat):Int)=((at'+(ch-2):Nat):Int) by omega,
     DN (by omega),Aa,DN (by omega),Aa,Aa,Aac (by simp),Aac (by simp),gD,<-hlast,iD (by omega),Aa]
    rw[<-hstart];congr 1;apply Xb;intro k _;rw[Alf];simp;omega
   ·have hc1:ch=1:=by omega
    rw[Aac (by rw[Aq];simp;omega),<-hstart];congr 1;rw[Aac hc]at hlast;apply Bkp;intro k hk;by_cases hk2:k=at'
    ·subst hk2;rw[Aac (by simp),Aau (by simp;omega)];rw[show k+(ch-1)=k by omega]at hlast;exact hlast.symm
    ·by_cases hk3:k<at'
     ·rw[Aau (by simp;omega),Aau (by simp;omega)]
     ·rw[Aac (by simp;omega),Aac (by simp;omega)]
  ·rw[Aac (by rw[Ae];simp;omega),qV (λk hk=>by simp;omega)];rfl
theorem Bbk(h1:1<=ch)(h6:ch<=6)(hm:m.length %ch=0)(hl2:m.length<=4000):wP (ch:Int) m=some (unm ch m,0):=by
 have hlen:=jK ch m;have h:=Ahr ch m h1 h6 hm hl2 m.length 0 Ax (by simp) (by omega) (by omega) (by have:=As;omega);rw[wP,nT,Aos ch m h1 h6 hm hl2,Aa,Aac (by rw[Aj];simp),Di,Bi (by simp;omega),Aa,Aa,Apc,iA];rw[mT hlen.symm (λk _=>by simp)]at h;exact h
end
def yX(f:Nat->Int32)(ch:Nat):List Int32:=(List.range ch).map λi=>unV f ch (ch-1-i)
theorem fM(f:Nat->Int32)(ch:Nat):(yX f ch).length=ch:=by simp[yX]
theorem vZ(f:Nat->Int32){ch i:Nat}(h:i<ch):(yX f ch).getD i 0=unV f ch (ch-1-i):=by
 rw[Ku (by rw[fM];exact h)];simp[yX]
theorem Bag(a b:Int32):Dm (Ao (Af a:Int) (Af b:Int))=some (a-b):=by
 have:=CG a;have:=CG b;rw[Ge,Ge,Bu (by omega) (by omega),Ab7,Int32.ofInt_sub,Be0,Be0]
theorem Awg(a b:Int32):Dm (Ad (Af a:Int) (Bw (Af b:Int) (2:Int)))=some (a+Bw b (2:Int32)):=by
 have:=CG a;have hb:=CG b;have hd: -2147483648<=b.toInt.tdiv 2/\b.toInt.tdiv 2<=2147483648:=by
  rw[Int.tdiv_eq_ediv,show Int.sign 2=1 from rfl];by_cases h:0<=b.toInt\/2∣b.toInt
  ·rw[Aau h];omega
  ·rw[Aac h];omega
 have e:Bw b (2:Int32)=Int32.ofInt (b.toInt.tdiv 2):=rfl;rw[Ge,Ge,TC,Df (by omega) (by omega),Ah (by omega) (by omega),Ab7,Int32.ofInt_add,Be0,e]
theorem xG(rL z:List Int32)(ch:Nat)(h6:ch<=6)(hs:rL.length=ch)(hz:z.length=ch):∀(i q:Nat),i+1<=ch->i<q->
  Jf rL q ((i:Int)-1) (jY (λk=>decide (i<=k)) (yX (λi=>rL.getD i 0) ch) z)=some (yX (λi=>rL.getD i 0) ch)
 |0,q+1,hi,_=>by
  rw[Jf,Vf,Aac (by rw[Ea];simp),qV (λk hk=>by simp)];rfl
 |i+1,q+1,hi,hq=>by
  have hlen:=fM (λi=>rL.getD i 0) ch;have e3:Ad (i:Int) 1=((i+1:Nat):Int):=by rw[Ah (by omega) (by omega)];omega
  have hv:(yX (λi=>rL.getD i 0) ch).getD (i+1) 0-rL.getD i 0=(yX (λi=>rL.getD i 0) ch).getD i 0:=by
   rw[vZ _ (by omega),vZ _ (by omega),show ch-1-i=(ch-1-(i+1))+1 by omega,unV,show ch-2-(ch-1-(i+1))=i by omega]
  rw[Jf,Vf,show((i+1:Nat):Int)-1=(i:Int) by omega,Aau (by rw[Ea];simp),e3,DN (by omega),Aa,g32 (by omega),Aa,Aa,Aau (by simp),Bag,Aa,DN (by omega),Aa,hv,iD (by omega),Aa,Bu (by omega) (by omega)];have ih:=xG rL z ch h6 hs hz i q (by omega) (by omega);rw[<-ih];congr 1;apply Xb;intro k _;rw[Alf];simp;omega
theorem Alo{l:List Int32}{i:Nat}(v:Int32)(h:i<l.length):(l.set i v).getD i 0=v:=by
 rw[Ku (by rw[Bju];exact h)];simp
theorem Ard(rL:List Int32)(ch:Nat)(h1:1<=ch)(h6:ch<=6)(hs:rL.length=ch):Zh rL=some (yX (λi=>rL.getD i 0) ch):=by
 have hlen:=fM (λi=>rL.getD i 0) ch;have hzl:(List.replicate ch (0:Int32)).length=ch:=by simp
 have e1:Ao (Ac rL) 1=((ch-1:Nat):Int):=by rw[Ac,hs,Bu (by omega) (by omega)];omega
 have e2:Ao (Ac rL) 2=((ch-1:Nat):Int)-1:=by rw[Ac,hs,Bu (by omega) (by omega)];omega
 have hlast:=vZ (λi=>rL.getD i 0) (show ch-1<ch by omega);rw[show ch-1-(ch-1)=0 by omega,unV]at hlast;have hend:∀z:List Int32,z.length=ch->z.getD (ch-1) 0=(yX (λi=>rL.getD i 0) ch).getD (ch-1) 0->Uz rL z=some (yX (λi=>rL.getD i 0) ch):=by
  intro z hz hzl;have h:=xG rL z ch h6 hs hz (ch-1) Ax (by omega) (by have:=As;omega);have e:jY (λk=>decide (ch-1<=k)) (yX (λi=>rL.getD i 0) ch) z=z:=by
   apply Bee (by rw[PR,hlen,hz]);intro k k1 k2;rw[Vh];by_cases hk:ch-1<=k
   ·obtain rfl:k=ch-1:=by omega
    rw[Aau (by simp),<-hzl,Ku k2]
   ·rw[Aac (by simpa using hk),Ku k2]
  rw[e]at h;rw[Uz,FY,e2];exact h
 rw[Zh,GH,Ac,hs,rZ (by omega) (by omega),Aa,Bl (by rw[Ar];simp),Aa];rw[Ac,hs]at e1;rw[Ac,hs]at e2;have hz1:(List.replicate (Int.toNat (ch:Int)) (0:Int32)).length=ch:=by simp
 have hs1:=g32 (l:=rL) (k:=ch-1) (by omega);rw[e1,hs1,Aa,g32 (by omega),Aa,Wf _ (by omega),Aa];by_cases hc:1<ch
 ·rw[Aau hc]at hlast;have e3:((ch-1:Nat):Int)-1=((ch-2:Nat):Int):=by omega
  have hs2:=g32 (l:=rL) (k:=ch-2) (by omega);rw[Aau (by rw[Aq];simp;omega),Aa,e2,e3,hs2,Aa,Awg,Aa,g32 (by rw[Bju];omega),Aa,Wf _ (by rw[Bju];omega),Aa];refine hend _ (by simp) ?_;rw[hlast,Alo _ (by rw[Bju];omega)]
 ·rw[Aac hc]at hlast;rw[Aac (by rw[Aq];simp;omega)];refine hend _ (by simp) ?_;rw[hlast,Alo _ (by omega)]
theorem Bdc(ch:Nat)(m:List Int32)(h1:1<=ch)(h6:ch<=6)(hm:m.length %ch=0)(hl2:m.length<=4000):Wp (ch:Int) m=some 0:=by
 rw[Wp,Aac (by simp[Ae,Aq];omega),Aac (by rw[Aq,Ac];simp;omega),Bl (by rw[Aj];simp;omega),Aa,Aac];rw[Aq,Gw,Ac,<-Int.ofNat_tmod,hm];simp
theorem Aan(ch:Nat)(m:List Int32)(h1:1<=ch)(h6:ch<=6)(hm:m.length %ch=0)(hl2:m.length<=4000):∀(j at' q:Nat),at' %ch=0->at'<=m.length->m.length-at'<=j->j<q->
  Sg (ch:Int) m q (at':Int) ((unm ch m).take at')=some (unm ch m,0)
 |j,at',q+1,ha,hle,hj,hq=>by
  have hlen:=jK ch m;rw[Sg,RT];by_cases h:at'<m.length
  ·have hb:=wA ha hm h;have e4:Ad (at':Int) (ch:Int)=((at'+ch:Nat):Int):=by rw[Ah (by omega) (by omega)];omega
   have hrest:=Aan ch m h1 h6 hm hl2 (j-1) (at'+ch) q (by rw[Blm,ha]) hb (by omega) (by omega);have hseg:((m.take (at'+ch)).drop at').length=ch:=by simp;omega
   have htl:((unm ch m).take at').length=at':=by simp[hlen];omega
   rw[Aau (by rw[Ae,Ac];simp;omega),e4,Uk (by omega) (by omega) (by omega),Aa,show((at'+ch:Nat):Int).toNat=at'+ch from rfl,show(at':Int).toNat=at' from rfl,Ard _ ch h1 h6 hseg,Aa,Bi (by rw[htl,fM];omega),Aa];have e:(unm ch m).take at'++yX (λi=>((m.take (at'+ch)).drop at').getD i 0) ch=(unm ch m).take (at'+ch):=by
    apply Bee (by rw[Aav,htl,fM,Ag1,hlen];omega);intro k k1 k2;rw[Ag1,hlen]at k2;rw[List.getElem_append,List.getElem_take];by_cases hk:k<at'
    ·rw[dif_pos (by rw[htl];exact hk),List.getElem_take]
    ·rw[dif_neg (by rw[htl];exact hk)];have hu:=xB (m:=m) ha (show k-at'<ch by omega) (by omega);rw[show at'+(k-at')=k by omega,Ku (by omega)]at hu;have hx:∀n,n<=ch->unV (λi=>((m.take (at'+ch)).drop at').getD i 0) ch n=unV (λi=>m.getD (at'+i) 0) ch n:=by
      have hf:∀i,i<ch-> ((m.take (at'+ch)).drop at').getD i 0=m.getD (at'+i) 0:=by
       intro i hi;rw[Ku (by omega),Ku (by omega)];simp
      intro n
      induction n with
      |zero=>
       intro _;rw[unV,unV,hf _ (by omega)];split
       ·rw[hf _ (by omega)]
       ·rfl
      |succ n ih=>intro hn;rw[unV,unV,ih (by omega),hf _ (by omega)]
     have hy:=vZ (λi=>((m.take (at'+ch)).drop at').getD i 0) (show k-at'<ch by omega);rw[Ku (by rw[fM];omega)]at hy;rw[hu,<-hx _ (by omega),<-hy];congr 1;rw[htl]
   rw[e];exact hrest
  ·rw[Aac (by rw[Ae,Ac];simp;omega),Ao5 (by omega)];rfl
theorem Avn(ch:Nat)(m:List Int32)(h1:1<=ch)(h6:ch<=6)(hm:m.length %ch=0)(hl2:m.length<=4000):KI (ch:Int) m=some (unm ch m,0):=by
 have h:=Aan ch m h1 h6 hm hl2 m.length 0 Ax (by simp) (by omega) (by omega) (by have:=As;omega);rw[KI,QP,Bdc ch m h1 h6 hm hl2,Aa,Aac (by rw[Aj];simp)];exact h
def pre{α:Type}(ch c:Nat)(f:α->Nat->α)(a0:α):Nat->α
 |0=>a0
 |m+1=>if m %ch=c then f (pre ch c f a0 m) m else pre ch c f a0 m
theorem Atq{α:Type}(ch c:Nat)(f:α->Nat->α)(a0:α):∀m,m<=c->c<ch->pre ch c f a0 m=a0
 |0,_,_=>rfl
 |m+1,h,h2=>by rw[pre,Aac (by rw[Abl (by omega)];omega),Atq ch c f a0 m (by omega) h2]
theorem Anz{α:Type}(ch c i:Nat)(f:α->Nat->α)(a0:α)(hi:i %ch=c)(hc:c<ch):∀j,j<ch->pre ch c f a0 (i+1+j)=pre ch c f a0 (i+1)
 |0,_=>rfl
 |j+1,h=>by
  have hne:(i+1+j) %ch≠c:=by
   intro e;have h1:(i+(1+j)) %ch=i %ch:=by rw[hi,<-e];congr 1;omega
   have h2:(1+j) %ch=0:=by
    have h3:=Nat.sub_mod_eq_zero_of_mod_eq h1;rwa [Bhd]at h3
   rw[Abl (by omega)]at h2;omega
  rw[show i+1+(j+1)=(i+1+j)+1 by omega,pre,Aac hne,Anz ch c i f a0 hi hc j (by omega)]
theorem Azl{α:Type}(ch c i:Nat)(f:α->Nat->α)(a0:α)(hi:i %ch=c)(hc:c<ch):pre ch c f a0 (i+ch)=f (pre ch c f a0 i) i:=by
 have h:=Anz ch c i f a0 hi hc (ch-1) (by omega);rw[show i+1+(ch-1)=i+ch by omega]at h;rw[h,pre,Aau hi]
abbrev CS:=Int32×List Int32×List Int32
def Aoz(bits:Int)(s:CS)(y:Int32):Int32:=y+gF (sB bits) s.2.1 s.2.2+gs (shB bits) s.1
def Ahg(bits:Int)(s:CS)(y:Int32):CS:=(Aoz bits s y,lrn s.2.1 s.2.2 y,(y+gF (sB bits) s.2.1 s.2.2)::s.2.2.take 15)
def cst(bits:Int)(ch:Nat)(t:List Int32)(v:List UInt32)(c:Nat):Nat->CS:=pre ch c (λs i=>Ahg bits s (XM (v.getD i 0))) (0,t,List.replicate 16 0)
def OkC(bits:Int)(s:CS):Prop:=OkF (sB bits) s.2.1 s.2.2
theorem Aks(bits:Int)(ch:Nat){t:List Int32}(ht:t.length=16)(v:List UInt32)(c:Nat):∀m,OkC bits (cst bits ch t v c m)
 |0=>⟨Biq bits,ht,by simp[cst,pre]⟩
 |m+1=>by
  have ih:=Aks bits ch ht v c m;rw[cst,pre];split
  ·exact Axb ih _ _
  ·exact ih
def vN(bits:Int)(ch:Nat)(t:List Int32)(v:List UInt32):List Int32:=(List.range v.length).map λi=>Aoz bits (cst bits ch t v (i %ch) i) (XM (v.getD i 0))
theorem iW(bits:Int)(ch:Nat)(t:List Int32)(v:List UInt32):(vN bits ch t v).length=v.length:=by simp[vN]
theorem Aj4(bits:Int)(ch:Nat)(t:List Int32)(v:List UInt32){i:Nat}(h:i<v.length):(vN bits ch t v).getD i 0=Aoz bits (cst bits ch t v (i %ch) i) (XM (v.getD i 0)):=by
 rw[Ku (by rw[iW];exact h)];simp[vN]
abbrev CL:=Int×Int32×(Int×(List Int32)×(List Int32)×Unit)×Unit
def toC(bits:Int)(s:CS):CL:=(bits,s.1,(sB bits,s.2.1,s.2.2,()),())
def cts(bits:Int)(ch:Nat)(t:List Int32)(v:List UInt32)(i:Nat):List CL:=(List.range 6).map λc=>toC bits (cst bits ch t v c i)
theorem Atk{bits:Int}{ch:Nat}{t:List Int32}{v:List UInt32}{i c:Nat}(h:c<6):Ap (cts bits ch t v i) (c:Int)=some (toC bits (cst bits ch t v c i)):=by
 rw[Bq (by simp[cts];exact h)];simp[cts]
theorem Al9(bits:Int)(ch:Nat)(t:List Int32)(v:List UInt32)(c m:Nat):cst bits ch t v c (m+1)=if m %ch=c then Ahg bits (cst bits ch t v c m) (XM (v.getD m 0))else cst bits ch t v c m:=rfl
theorem Aso{bits:Int}{ch:Nat}{t:List Int32}{v:List UInt32}{i c:Nat}(h:c<6)(hc:i %ch=c):Oe (cts bits ch t v i) (c:Int) (toC bits (Ahg bits (cst bits ch t v c i) (XM (v.getD i 0))))=some (cts bits ch t v (i+1)):=by
 rw[Wf _ (by simp[cts];exact h)];congr 1;apply Bee (by simp[cts]);intro k h1 h2;rw[Blx];simp only[cts,Bkd,Bj9];by_cases hk:c=k
 ·subst hk;rw[Aau rfl,Al9,Aau hc]
 ·rw[Aac hk,Al9,Aac (by omega)]
section
variable {bits:Int} {ch:Nat} {t:List Int32} {v:List UInt32}
theorem Amg(hb:Bk bits)(ht:t.length=16)(h1:1<=ch)(h6:ch<=6)(hv:v.length<=4000):∀(j i q:Nat),i+j=v.length->j<q->
  Lb v (ch:Int) bits q (i:Int) (cts bits ch t v i) ((vN bits ch t v).take i)=Oi (ch:Int) bits (vN bits ch t v)
 |0,i,q+1,hi,_=>by
  rw[Lb,Oq,Aac (by rw[Ae,Ac];simp;omega),Ao5 (by rw[iW];omega)]
 |j+1,i,q+1,hi,hq=>by
  have hlen:=iW bits ch t v;have hc:i %ch<6:=Apb (Bhn _ (by omega)) h6;have hok:=Aks bits ch ht v (i %ch) i;have hs:=Aso (bits:=bits) (ch:=ch) (t:=t) (v:=v) (i:=i) hc rfl;have hx:=Aj4 bits ch t v (i:=i) (by omega);have hcb:=Awi hb hok (cst bits ch t v (i %ch) i).1 (XM (v.getD i 0));have ih:=Amg hb ht h1 h6 hv j (i+1) q (by omega) (by omega);rw[Md (by omega),<-Ku (by omega),hx]at ih;rw[Lb,Oq,Aau (by rw[Ae,Ac];simp;omega),wZ (by omega),Aa,Bl (by rw[Aj];simp;omega),Aa,NP,Atk hc,Aa,Aa,Axf,Aa];refine Bhp (congrArg (λo=>Option.bind o _) hcb) ?_;rw[Aa];simp only;rw[CW,VL,Aac (by rw[Aj];simp),NP];refine Bhp (congrArg (λo=>Option.bind o _) hs) ?_;rw[Aa,Bi (by simp;omega),Aa,Ah (by omega) (by omega)];exact ih
theorem Aut(hb:Bk bits)(ht:t.length=16)(h1:1<=ch)(h6:ch<=6)(hv:v.length<=4000):Wx (ch:Int) bits t v=Oi (ch:Int) bits (vN bits ch t v):=by
 have h:=Amg hb ht h1 h6 hv v.length 0 Ax (by omega) (by have:=As;omega);have e:Ax=(Ax-7)+1+1+1+1+1+1+1:=by have:=As;omega
 have hs:Ts v (ch:Int) bits t 0 (List.replicate 6 ((0:Int),(0:Int32),((0:Int),(List.replicate 16 (0:Int32)),(List.replicate 16 (0:Int32)),()),()))=CE v (ch:Int) bits (cts bits ch t v 0):=by
  rw[Ts,e];obtain rfl|rfl|rfl:=hb<;>rfl
 rw[Wx,FF,hs];exact h
theorem Ahi(bk:Int->List Int32->Option (List Int32))(hb:Bk bits)(ht:t.length=16)(h1:1<=ch)(h6:ch<=6)(hv:v.length<=4000)(z:List Int32)(c:Nat)(hc:c<ch):∀(j i q:Nat),i %ch=c->v.length-i<=j->i<=5000->j<q->
  Nm bk v (ch:Int) bits t (c:Int) q (i:Int) (jY (λk=>decide (k %ch<c\/ (k %ch=c/\k<i))) (vN bits ch t v) z) bits (cst bits ch t v c i).1 (sB bits) (cst bits ch t v c i).2.1 (cst bits ch t v c i).2.2=
   bk ((c+1:Nat):Int) (jY (λk=>decide (k %ch<c+1)) (vN bits ch t v) z)
 |j,i,q+1,hi,hj,hi5,hq=>by
  have hlen:=iW bits ch t v;rw[Nm,GA];by_cases h:i<v.length
  ·have hok:=Aks bits ch ht v c i;have hst:=Avg hb hok (cst bits ch t v c i).1 (XM (v.getD i 0));have hx:=Aj4 bits ch t v (i:=i) h;rw[hi]at hx;have ih:=Ahi bk hb ht h1 h6 hv z c hc (j-1) (i+ch) q (by rw[Blm];exact hi) (by omega) (by omega) (by omega);have Af4:cst bits ch t v c (i+ch)=Ahg bits (cst bits ch t v c i) (XM (v.getD i 0)):=Azl ch c i _ _ hi hc;rw[Af4]at ih;have hset:=iD (p:=λk=>decide (k %ch<c\/ (k %ch=c/\k<i))) (a:=vN bits ch t v) (b:=z) (k:=i) (by omega);rw[hx]at hset;have Ao7:jY (λj=>decide (j %ch<c\/ (j %ch=c/\j<i))||decide (j=i)) (vN bits ch t v) z=jY (λk=>decide (k %ch<c\/ (k %ch=c/\k<i+ch))) (vN bits ch t v) z:=by
    apply Xb;intro k _;rw[Alf];simp only[Ba0,Abk];constructor
    ·rintro((h1|h1)|h1)
     ·exact .inl h1
     ·exact .inr ⟨h1.1,by omega⟩
     ·subst h1;exact .inr ⟨hi,by omega⟩
    ·rintro(h1|⟨h1,h2⟩)
     ·exact .inl (.inl h1)
     ·by_cases h3:k<i
      ·exact .inl (.inr ⟨h1,h3⟩)
      ·refine .inr ?_;have h4:(i+(k-i)) %ch=i %ch:=by rw[show i+(k-i)=k by omega,h1,hi]
       have h5:=Nat.sub_mod_eq_zero_of_mod_eq h4;rw[Bhd,Abl (by omega)]at h5;omega
   rw[Ao7]at hset;rw[Aau (by rw[Ae,Ac];simp;omega),wZ h,Aa,Bbx,Aa];refine Bhp (congrArg (λo=>Option.bind o _) hst) ?_;rw[Aa];simp only;rw[GL,FN,DN (by omega),Aa];refine Bhp (congrArg (λo=>Option.bind o _) hset) ?_;rw[Aa,GW,GG,Ah (by omega) (by omega)];exact ih
  ·rw[Aac (by rw[Ae,Ac];simp;omega),FQ,FO,Ah (by omega) (by omega)];have Ao7:jY (λk=>decide (k %ch<c\/ (k %ch=c/\k<i))) (vN bits ch t v) z=jY (λk=>decide (k %ch<c+1)) (vN bits ch t v) z:=by
    apply Xb;intro k hk;rw[Alf];simp only[Abk];omega
   rw[Ao7];rfl
theorem Ah3(hb:Bk bits)(ht:t.length=16)(h1:1<=ch)(h6:ch<=6)(hv:v.length<=4000)(z:List Int32):∀(j c q:Nat),c+j=ch->j<q->
  Gv v (ch:Int) bits t q (c:Int) (jY (λk=>decide (k %ch<c)) (vN bits ch t v) z)=Vd (ch:Int) bits (vN bits ch t v)
 |0,c,q+1,hc,_=>by
  rw[Gv,Uw,Aac (by rw[Ae];simp;omega),qV (λk hk=>by have:=Bhn k (show 0<ch by omega);simp;omega)]
 |j+1,c,q+1,hc,hq=>by
  have ih:=Ah3 hb ht h1 h6 hv z j (c+1) q (by omega) (by omega);have hin:=Ahi (Gv v (ch:Int) bits t q) hb ht h1 h6 hv z c (by omega) v.length c Ax (Abl (by omega)) (by omega) (by omega) (by have:=As;omega);have h0:cst bits ch t v c c=(0,t,List.replicate 16 0):=Atq ch c _ _ c (Am4 _) (by omega);rw[h0]at hin;have Ao7:jY (λk=>decide (k %ch<c\/ (k %ch=c/\k<c))) (vN bits ch t v) z=jY (λk=>decide (k %ch<c)) (vN bits ch t v) z:=by
   apply Xb;intro k hk;have:=Bln k ch;rw[Alf];simp only[Abk];omega
  rw[Ao7]at hin;rw[Gv,Uw,Aau (by rw[Ae];simp;omega),Biv hb,Aa];simp only;rw[FW];exact Bhp hin ih
theorem Aiw(hb:Bk bits)(ht:t.length=16)(h1:1<=ch)(h6:ch<=6)(hv:v.length<=4000)(hm:v.length %ch=0):Tr (ch:Int) bits t v=some (unm ch (vN bits ch t v)):=by
 have hlen:=iW bits ch t v;have h:=Ah3 hb ht h1 h6 hv (List.replicate v.length 0) ch 0 Ax (by omega) (by have:=As;omega);rw[mT (by rw[hlen];simp) (λk _=>by simp)]at h;rw[Tr,JF,Ac,rZ (by omega) (by omega),Aa,Bl (by rw[Ar];simp),Aa,FP];refine Bhp h ?_;rw[Vd,GP,Avn ch _ h1 h6 (by rw[hlen];exact hm) (by omega),Aa]
end
def hB(bits:Int):Int:=if bits=8 then 128 else if bits=16 then 32768 else 8388608
theorem Afk{bits:Int}(h:Bk bits):Sc bits=some (Int32.ofInt (-(hB bits)),Int32.ofInt (hB bits-1),0):=by
 obtain rfl|rfl|rfl:=h<;>decide
theorem ZZ{bits:Int}(h:Bk bits):Kr bits=some (hB bits):=by
 obtain rfl|rfl|rfl:=h<;>rfl
theorem PJ(bits:Int):0<hB bits/\hB bits<=8388608:=by
 unfold hB;split; · omega
 ·split<;>omega
theorem Ack{bits:Int}(h:Bk bits)(l:List Int32)(hl:l.length<=4000):∀(j i q:Nat),i+j=l.length->j<q->
  Uh (Int32.ofInt (-(hB bits))) (Int32.ofInt (hB bits-1)) l q (i:Int)=Az l (hB bits) q (i:Int)
 |0,i,q+1,hi,_=>by
  rw[Uh,II,Az,Cu,Aac (by rw[Ae,Ac];simp;omega),Aac (by rw[Ae,Ac];simp;omega)];rfl
 |j+1,i,q+1,hi,hq=>by
  have hh:=PJ bits;have ih:=Ack h l hl j (i+1) q (by omega) (by omega);have e1:(Int32.ofInt (-(hB bits))).toInt= -(hB bits):=by rw[Bji,Bl7 (by show -(4294967296/2:Int)<= _;omega) (by show _<(4294967296+1)/2;omega)]
  have e2:(Int32.ofInt (hB bits-1)).toInt=hB bits-1:=by rw[Bji,Bl7 (by show -(4294967296/2:Int)<= _;omega) (by show _<(4294967296+1)/2;omega)]
  rw[Uh,II,Az,Cu,Aau (by rw[Ae,Ac];simp;omega),Aau (by rw[Ae,Ac];simp;omega),g32 (by omega),Aa,Aa,Aa,Ge,Akb,Df (by omega) (by omega),Ah (by omega) (by omega),Ak1,Aqt,e1,e2,Ae,Ea];generalize(l.getD i 0).toInt=X;by_cases h1:X< -(hB bits)
  ·rw[Aau (by simp;omega),Aau (by simp;omega)]
  ·rw[Aac (c:=decide (X<0-hB bits)=true) (by simp;omega)];by_cases h2:hB bits<=X
   ·rw[Aau (by simp;omega),Aau (by simp;omega)]
   ·rw[Aac (by simp;omega),Aac (by simp;omega)];exact ih
theorem aD{bits:Int}(h:Bk bits)(l:List Int32)(hl:l.length<=4000):Sm bits l=Ay bits l:=by
 have hh:=PJ bits;rw[Sm,YO,Afk h,Aa,Ay,Dn,ZZ h,Aa];simp only;rw[Aac (by rw[Aj];simp),Aac (by rw[Aq,Ac];simp;omega),Aac (by rw[Ar];simp;omega),Aac (by rw[Aq,Ac];simp;omega)];exact Ack h l hl l.length 0 Ax (by omega) (by have:=As;omega)
theorem Aqg{bits:Int}(h:Bk bits)(l:List Int32)(hl:l.length<=4000):∃e,Ay bits l=some e:=by
 have hh:=PJ bits;have key:∀(j i q:Nat),i+j=l.length->j<q->∃e,Az l (hB bits) q (i:Int)=some e:=by
  intro j
  induction j with
  |zero=>
   intro i q hi hq;obtain⟨q,rfl⟩:∃k,q=k+1:=⟨q-1,by omega⟩;rw[Az,Cu,Aac (by rw[Ae,Ac];simp;omega)];exact⟨_,rfl⟩
  |succ j ih=>
   intro i q hi hq;obtain⟨q,rfl⟩:∃k,q=k+1:=⟨q-1,by omega⟩;rw[Az,Cu,Aau (by rw[Ae,Ac];simp;omega),g32 (by omega),Aa,Aa,Ah (by omega) (by omega)];split
   ·exact⟨_,rfl⟩
   ·split
    ·exact⟨_,rfl⟩
    ·exact ih (i+1) q (by omega) (by omega)
 obtain⟨e,he⟩:=key l.length 0 Ax (by omega) (by have:=As;omega);rw[Ay,Dn,ZZ h,Aa,Aac (by rw[Ar];simp;omega),Aac (by rw[Aq,Ac];simp;omega)];exact⟨e,he⟩
theorem vA{bits:Int}{ch:Nat}{t:List Int32}{v:List UInt32}(hb:Bk bits)(ht:t.length=16)(h1:1<=ch)(h6:ch<=6)(hv:v.length<=4000)(hm:v.length %ch=0):
  ∃l e,Tr (ch:Int) bits t v=some l/\Tv (ch:Int) bits l=some (if e≠0 then([],e)else(l,0))/\Wx (ch:Int) bits t v=some (if e≠0 then([],e)else(l,0))/\Ay bits l=some e/\l.length=v.length:=by
 have hlen:=iW bits ch t v;have hul:=jK ch (vN bits ch t v);obtain⟨e,he⟩:=Aqg hb (unm ch (vN bits ch t v)) (by omega);refine⟨unm ch (vN bits ch t v),e,Aiw hb ht h1 h6 hv hm,?_,?_,he,by omega⟩
 ·rw[Tv,he,Aa];by_cases h:e=0
  ·rw[Aac (by rw[Aj];simpa using h),Aac (by simpa using h)]
  ·rw[Aau (by rw[Aj];simpa using h),Aau h]
 ·rw[Aut hb ht h1 h6 hv,Oi,VD,Bbk ch _ h1 h6 (by rw[hlen];exact hm) (by omega),Aa];simp only;rw[Aac (by rw[Aj];simp),aD hb _ (by omega),he,Aa];by_cases h:e=0
  ·rw[Aac (by rw[Aj];simpa using h),Aac (by simpa using h)]
  ·rw[Aau (by rw[Aj];simpa using h),Aau h]
def pC(s:Nat):Nat:=(s/2)^^^ (if s %2=1 then 3988292384 else 0)
theorem Aee{s:Nat}(h:s<4294967296):pC s<4294967296:=by
 unfold pC;exact Bgi (n:=32) (by simp;omega) (by split<;>decide)
theorem Amo(x y:Nat):(x^^^y)/2=(x/2)^^^ (y/2):=by
 have:=Nat.shiftRight_xor_distrib (a:=x) (b:=y) (i:=1);simpa [Nat.shiftRight_eq_div_pow]using this
theorem Awd(x y:Nat):pC (x^^^y)=pC x^^^pC y:=by
 have h:(x^^^y) %2=(x %2+y %2) %2:=by
  have:=Nat.xor_mod_two_eq_one (a:=x) (b:=y);have h1:(x^^^y) %2<2:=Bhn _ (by omega);omega
 simp only[pC,Amo,h];have hx:x %2=0\/x %2=1:=by omega
 have hy:y %2=0\/y %2=1:=by omega
 rcases hx with hx|hx<;>rcases hy with hy|hy<;>simp only[hx,hy]<;>simp
 ·rw[Bie]
 ·rw[Bie,Bmb (y/2),Bie,Bmb 3988292384 (y/2)]
 ·rw[Bie,Bmb 3988292384,Bie,Nat.xor_self];simp
def BP:Nat->Nat->Nat
 |0,s=>s
 |k+1,s=>BP k (pC s)
theorem Ah5:∀(k x y:Nat),BP k (x^^^y)=BP k x^^^BP k y
 |0,_,_=>rfl
 |k+1,x,y=>by rw[BP,Awd,Ah5 k];rfl
theorem Aiv:∀(k h:Nat),BP k (2^k*h)=h
 |0,h=>by simp[BP]
 |k+1,h=>by
  have:pC (2^(k+1)*h)=2^k*h:=by
   rw[Awk,Ao6 (2^k) 2,Awr,pC,Aac (by omega),Nat.mul_div_cancel_left _ (by omega)];simp
  rw[BP,this,Aiv k]
theorem Aey:∀(k:Nat) {s:Nat},s<4294967296->BP k s<4294967296
 |0,_,h=>h
 |k+1,_,h=>Aey k (Aee h)
def Aam(s c:Nat):Nat:=BP 8 (s^^^c)
theorem Ad2{s c:Nat}(h:s<4294967296)(hc:c<256):Aam s c<4294967296:=Aey 8 (Bgi (n:=32) (by simpa using h) (by simp;omega))
theorem Aoi{s c:Nat}(hc:c<256):Aam s c=(s/256)^^^BP 8 ((s %256)^^^c):=by
 have h:s=(2^8*(s/256))^^^ (s %256):=by
  have h1:s %256<2^8:=by simpa using Bhn s (by omega:256>0)
  have:=Be2 h1 (s/256);have h2:2^8*(s/256)|||s %256=(2^8*(s/256))^^^ (s %256):=by
   apply Nat.eq_of_testBit_eq;intro i;rw[Nat.testBit_or,Nat.testBit_xor];by_cases hi:i<8
   ·have:(2^8*(s/256)).testBit i=false:=by rw[Nat.testBit_two_pow_mul];simp;omega
    rw[this];simp
   ·have:(s %256).testBit i=false:=Nat.testBit_lt_two_pow (Apb h1 (Agq (by omega) (by omega)));rw[this];simp
  omega
 rw[Aam]
 conv=>lhs;rw[h]
 rw[Bie,Ah5,Aiv]
def At7(s:Nat)(l:List UInt8):Nat:=l.foldl (λs c=>Aam s c.toNat) s
def En(b:List UInt8):UInt32:=4294967295-UInt32.ofNat (At7 4294967295 b)
theorem Bb8(s:UInt32)(c:Nat)(hc:c<256):HD s (Af (GY (UInt8.ofNat c) (2:UInt8)):Int)=some (UInt32.ofNat (s.toNat/2^^^ (if(s.toNat^^^c) %2=1 then 3988292384 else 0))):=by
 have h1:(Af (GY (UInt8.ofNat c) (2:UInt8)):Int)=((c %2:Nat):Int):=by
  rw[WN,Bbm,UInt8.toNat_mod,Aol];show((c %256 %2:Nat):Int)=_;omega
 have h2:geq (GY s (2:UInt32)) (1:UInt32)=decide (s.toNat %2=1):=by
  rw[Aku,An3,Alf];simp only[Atu,Abk];rw[<-UInt32.toNat_inj,UInt32.toNat_mod];rfl
 have h3:Bw s (2:UInt32)=UInt32.ofNat (s.toNat/2):=by
  apply UInt32.toNat_inj.1;rw[Amw,UInt32.toNat_div,Ali]
  show s.toNat/2=_;have:=s.toNat_lt;omega
 have h4:AH (Bw s (2:UInt32)) (3988292384:UInt32)=UInt32.ofNat (s.toNat/2^^^3988292384):=by
  apply UInt32.toNat_inj.1;rw[h3,gE,Blv,Ali,Ali];have:=s.toNat_lt;rw[Abl (a:=s.toNat/2) (by omega),Abl]
  ·rfl
  ·exact Bgi (n:=32) (by omega) (by decide)
 have hx:(s.toNat^^^c) %2=(s.toNat %2+c %2) %2:=by
  have:=Nat.xor_mod_two_eq_one (a:=s.toNat) (b:=c);have h1:(s.toNat^^^c) %2<2:=Bhn _ (by omega);omega
 have hs:s.toNat %2=0\/s.toNat %2=1:=by omega
 have hc2:c %2=0\/c %2=1:=by omega
 rw[HD,SK,h1,h2,hx];rcases hs with hs|hs<;>rcases hc2 with hc2|hc2<;>simp[hs,hc2,Ar,RN,QV,gE,h3]
theorem Aaa:∀(j i q:Nat) (s:UInt32) (c:Nat),i+j=8->j<q->c<2^j->Nj q s (UInt8.ofNat c) (i:Int)=some (UInt32.ofNat (BP j (s.toNat^^^c)))
 |0,i,q+1,s,c,hi,_,hc=>by
  obtain rfl:i=8:=by omega
  obtain rfl:c=0:=by simpa using hc
  rw[Nj,Zs,Aac (by rw[Ae];simp),SD,QE,BP];simp
 |j+1,i,q+1,s,c,hi,hq,hc=>by
  have hc8:c<256:=Apb hc (show 2^(j+1)<=2^8 from Agq (by omega) (by omega));rw[Nj,Zs,Aau (by rw[Ae];simp;omega),Bb8 s c hc8,Aa,Ah (by omega) (by omega)];have e:Bw (UInt8.ofNat c) (2:UInt8)=UInt8.ofNat (c/2):=by
   apply UInt8.toNat_inj.1;rw[Bc4,UInt8.toNat_div,Aol,Aol]
   show c %256/2=_;omega
  rw[e];have h:=Aaa j (i+1) q (UInt32.ofNat (s.toNat/2^^^ (if(s.toNat^^^c) %2=1 then 3988292384 else 0))) (c/2) (by omega) (by omega) (by rw[Awk]at hc;omega);rw[show((i:Int)+1)=((i+1:Nat):Int) by omega,h,Ali,BP];congr 3;have:=s.toNat_lt;rw[Abl,pC,Amo,Bie,Bie,Bmb (c/2)];exact Bgi (n:=32) (by omega) (by split<;>decide)
theorem Bdv(s:UInt32)(c:UInt8):aU s c=some (UInt32.ofNat (Aam s.toNat c.toNat)):=by
 have h:=Aaa 8 0 Ax s c.toNat (by omega) (by have:=As;omega) (by simpa using c.toNat_lt);rw[UInt8.ofNat_toNat]at h;exact h
theorem sP(b:List UInt8)(hb:b.length<4611686018427387904):∀(j i q:Nat) (s:UInt32),i+j=b.length->j<q->Km b q s (i:Int)=some (UInt32.ofNat (At7 s.toNat (b.drop i)))
 |0,i,q+1,s,hi,_=>by
  rw[Km,Vp,Aac (by rw[Ae,Ac];simp;omega),show i=b.length by omega,Bje];simp[KQ,KZ,At7]
 |j+1,i,q+1,s,hi,hq=>by
  have hlt:i<b.length:=by omega
  rw[Km,Vp,Aau (by rw[Ae,Ac];simp;omega),Bq hlt,Aa,Bdv,Aa,Ah (by omega) (by omega)];have h:=sP b hb j (i+1) q (UInt32.ofNat (Aam s.toNat b[i].toNat)) (by omega) (by omega);rw[show((i:Int)+1)=((i+1:Nat):Int) by omega,h,drop_cons hlt,Ali,Abl (Ad2 s.toNat_lt b[i].toNat_lt)];rfl
theorem Ay9(b:List UInt8)(hb:b.length<4611686018427387904):Wr b=some (En b):=by
 have h:=sP b hb b.length 0 Ax 4294967295 (by omega) (by have:=As;omega);rw[Wr,VF,KT,LK,show((0:Int))=((0:Nat):Int)from rfl,h,Aa,Afd];rfl
theorem Bdz(c:UInt32):AH (Ck c (GI.toZ (1:UInt64)).toNat) (Bj (3988292384:UInt32) (Fe c (1:UInt32)))=UInt32.ofNat (pC c.toNat):=by
 apply UInt32.toNat_inj.1;have e:(GI.toZ (1:UInt64)).toNat=1:=rfl;have h1:(Ck c 1).toNat=c.toNat/2:=by rw[RG]
 have h2:(Bj (3988292384:UInt32) (Fe c (1:UInt32))).toNat=if c.toNat %2=1 then 3988292384 else 0:=by
  rw[Axu,Aef,UInt32.toNat_mul,UInt32.toNat_and]
  show 3988292384*(c.toNat&&&1) %4294967296=_;rw[Nat.and_one_is_mod];have:c.toNat %2=0\/c.toNat %2=1:=by omega
  rcases this with h|h<;>simp[h]
 rw[e,gE,Blv,h1,h2,Ali,Abl (Aee c.toNat_lt)];rfl
theorem Anr(Is:Int->List UInt32->Option (UInt32×Int))(s:UInt32)(b:List UInt8)(x:Int)(t:List UInt32):∀(j i q:Nat) (c:UInt32),i+j=8->j<q->
  Ut Is s b x t q c (i:Int)=IK Is s b x (UInt32.ofNat (BP j c.toNat)) t
 |0,i,q+1,c,hi,_=>by
  obtain rfl:i=8:=by omega
  rw[Ut,KJ,Aac (by rw[Ae];simp),BP,UInt32.ofNat_toNat]
 |j+1,i,q+1,c,hi,hq=>by
  rw[Ut,KJ,Aau (by rw[Ae];simp;omega),Bdz,Ah (by omega) (by omega),show((i:Int)+1)=((i+1:Nat):Int) by omega,Anr Is s b x t j (i+1) q _ (by omega) (by omega),Ali,Abl (Aee c.toNat_lt)];rfl
def tbl(n:Nat):List UInt32:=(List.range n).map λi=>UInt32.ofNat (BP 8 i)
theorem Asj(s:UInt32)(b:List UInt8):∀(j i q:Nat),i+j=256->j<q->Qc s b q (i:Int) (tbl i++List.replicate j 0)=HU s b (tbl 256)
 |0,i,q+1,hi,_=>by
  obtain rfl:i=256:=by omega
  rw[Qc,HF,Aac (by rw[Ae];simp)];simp
 |j+1,i,q+1,hi,hq=>by
  have hlen:(tbl i++List.replicate (j+1) 0).length=i+(j+1):=by simp[tbl]
  rw[Qc,HF,Aau (by rw[Ae];simp;omega),XS];have h:=Anr (Qc s b q) s b (i:Int) (tbl i++List.replicate (j+1) 0) 8 0 Ax (Af (i:Int)) (by omega) (by have:=As;omega);rw[show((0:Int))=((0:Nat):Int)from rfl,h,IK,aB,Bq (by rw[hlen];omega),Aa,Wf _ (by rw[hlen];omega),Aa,ZX,mP,Ah (by omega) (by omega)];have e:(Af (i:Int):UInt32).toNat=i:=by rw[Ag7,Ali,Abl (by omega)]
  rw[e,Bgj,qJ (by simp[tbl])];have h2:=Asj s b j (i+1) q (by omega) (by omega);have h3:tbl (i+1)=tbl i++[UInt32.ofNat (BP 8 i)]:=by simp[tbl,List.range_succ]
  rw[h3]at h2;rw[show((i:Int)+1)=((i+1:Nat):Int) by omega,<-h2];simp
theorem Bda{i:Nat}(h:i<256):Ap (tbl 256) (i:Int)=some (UInt32.ofNat (BP 8 i)):=by
 rw[Bq (by simpa [tbl]using h)];simp[tbl]
theorem Az2(s:UInt32)(c:UInt8):Ap (tbl 256) (GI.toZ (AH (Af s:UInt8) c))=some (UInt32.ofNat (BP 8 ((s.toNat %256)^^^c.toNat))):=by
 have e:GI.toZ (AH (Af s:UInt8) c)=(((s.toNat %256)^^^c.toNat:Nat):Int):=by
  rw[EZ,Ast,UInt8.toNat_xor,tP,Aol]
 rw[e,Bda];exact Bgi (n:=8) (by simp;omega) (by simpa using c.toNat_lt)
theorem Avk(s:UInt32)(c:UInt8):AH (Ck s (GI.toZ (8:UInt64)).toNat) (UInt32.ofNat (BP 8 ((s.toNat %256)^^^c.toNat)))=UInt32.ofNat (Aam s.toNat c.toNat):=by
 apply UInt32.toNat_inj.1;have hlt:BP 8 ((s.toNat %256)^^^c.toNat)<4294967296:=Aey 8 (Bgi (n:=32) (by simp;omega) (by have:=c.toNat_lt;simp;omega));have e:(GI.toZ (8:UInt64)).toNat=8:=rfl;rw[e,gE,Blv,RG,Ali,Ali,Abl hlt,Abl (Ad2 s.toNat_lt c.toNat_lt),Aoi c.toNat_lt]
theorem An4(b:List UInt8)(hb:b.length<4611686018427387904):∀(j i q:Nat) (s:UInt32),i+j=b.length->j<q->Uu b (tbl 256) q s (i:Int)=some (UInt32.ofNat (At7 s.toNat (b.drop i)),0)
 |0,i,q+1,s,hi,_=>by
  rw[Uu,KE,Aac (by rw[Ae,Ac];simp;omega),show i=b.length by omega,Bje];simp[WZ,mU,At7]
 |j+1,i,q+1,s,hi,hq=>by
  have hlt:i<b.length:=by omega
  rw[Uu,KE,Aau (by rw[Ae,Ac];simp;omega),Bq hlt,Aa,Az2,Aa,Aa,Avk,Ah (by omega) (by omega)];have h:=An4 b hb j (i+1) q (UInt32.ofNat (Aam s.toNat b[i].toNat)) (by omega) (by omega);rw[show((i:Int)+1)=((i+1:Nat):Int) by omega,h,drop_cons hlt,Ali,Abl (Ad2 s.toNat_lt b[i].toNat_lt)];rfl
theorem Bdb(s:UInt32)(b:List UInt8)(hb:b.length<=100000):kF s b=some (UInt32.ofNat (At7 s.toNat b),0):=by
 have h:=Asj s b 256 0 Ax (by omega) (by have:=As;omega);have h2:=An4 b (by omega) b.length 0 Ax s (by omega) (by have:=As;omega);rw[kF,dJ,Aac (by rw[Aq,Ac];simp;omega),XA];refine Bhp h ?_;rw[HU,WX,YU,YQ,YW];exact h2
theorem Aw5(a:UInt32):Agh a=4294967295-a:=by
 have h:=a.toNat_lt;have e:Agh a=UInt32.ofNat (BitVec.ofInt 32 4294967295^^^BitVec.ofInt 32 (a.toNat:Int)).toNat:=Gf _;apply UInt32.toNat_inj.1;rw[e,Ali,UInt32.toNat_sub_of_le _ _ (by rw[UInt32.le_iff_toNat_le];show a.toNat<=4294967295;omega)];have h1:BitVec.ofInt 32 (a.toNat:Int)=a.toBitVec:=Akz a;have h2:(BitVec.ofInt 32 4294967295:BitVec 32)=BitVec.allOnes 32:=by decide
 rw[h1,h2,BitVec.allOnes_xor,BitVec.toNat_not];show(4294967296-1-a.toNat) %4294967296=4294967295-a.toNat;omega
theorem xV(b:List UInt8)(hb:b.length<=100000):AW b=some (En b,0):=by
 rw[AW,Bdb _ _ hb,Aa];simp only[Aj,Aw5];rfl
theorem Ary:∀{l m:List UInt8},l.length=m.length->Fz l=Fz m->l=m
 |[],[],_,_=>rfl
 |x::l,y::m,h,e=>by
  simp only[Fz]at e;have hx:=x.toNat_lt;have hy:=y.toNat_lt;have h1:x=y:=UInt8.toNat_inj.1 (by omega);rw[h1,Ary (l:=l) (m:=m) (by simpa using h) (by omega)]
theorem Yh:∀(w n:Nat),Fz (Ry n w)=n %256^w
 |0,n=>by simp[Ry,Fz,Nat.mod_one]
 |w+1,n=>by
  rw[Ry,Fz,Yh w (n/256),Aol,show(256:Nat)^(w+1)=256*256^w by rw[Awk,Ao6],Nat.mod_mul]
def Vj(b:List UInt8):Int:=
 if b.length<5 then 24 else if 41254<b.length then 4 else if(En (b.take (b.length-4))).toNat≠Fz (b.drop (b.length-4))then 22 else 0
theorem Ant(b:List UInt8):KA b=some (if Vj b≠0 then([],Vj b)else(b.take (b.length-4),0)):=by
 rw[KA];by_cases h1:b.length<5
 ·have hS:Vj b=24:=by rw[Vj,Aau h1]
  rw[Aau (by rw[Ae,Ac];simp;omega),hS];rfl
 rw[Aac (by rw[Ae,Ac];simp;omega)];by_cases h2:41254<b.length
 ·have hS:Vj b=4:=by rw[Vj,Aac h1,Aau h2]
  rw[Aau (by rw[Aq,Ac];simp;omega),hS];rfl
 have e4:Ao (Ac b) 4=((b.length-4:Nat):Int):=by rw[Ac,Bu (by omega) (by omega)];omega
 have hd:(b.drop (b.length-4)).length=4:=by simp;omega
 rw[Aac (by rw[Aq,Ac];simp;omega),e4,Dl (by omega) (by omega),Aa,show((b.length-4:Nat):Int).toNat=b.length-4 from rfl,xV _ (by simp;omega),Aa];simp only;rw[Aac (by rw[Aj];simp),Bs (by omega) (by omega),Aa,show((b.length-4:Nat):Int).toNat=b.length-4 from rfl,Amb _ (by omega) (by omega),Aa];have hne:Bc (sV (b.drop (b.length-4))) (Af (En (b.take (b.length-4))):UInt64)=decide ((En (b.take (b.length-4))).toNat≠Fz (b.drop (b.length-4))):=by
  have hlt:=(En (b.take (b.length-4))).toNat_lt;rw[HJ,Alf];simp only[Blo,ne_eq,<-Bla,Abk];rw[bP (by omega),Dx,Akr,Abl (by omega)];exact⟨λh e=>h e.symm,λh e=>h e.symm⟩
 simp only;rw[hne,Aa];by_cases h3:(En (b.take (b.length-4))).toNat≠Fz (b.drop (b.length-4))
 ·have hS:Vj b=22:=by rw[Vj,Aac h1,Aac h2,Aau h3]
  rw[Aau (by simp[h3]),hS];rfl
 ·have hS:Vj b=0:=by rw[Vj,Aac h1,Aac h2,Aac h3]
  rw[Aac (by rw[Bfl h3];decide),hS];rfl
theorem Auq(b:List UInt8)(hb:b.length<=1000000):CV b=some (b++Ry (En b).toNat 4):=by
 have h:∀k:Nat,(Af (Ck (En b) k):UInt8)=UInt8.ofNat ((En b).toNat/2^k):=by
  intro k;rw[tP,RG]
 have h0:(Af (En b):UInt8)=UInt8.ofNat (En b).toNat:=tP _;have h1:=h 8;have h2:=h 16;have h3:=h 24;rw[CV,Ay9 b (by omega),Aa,Bi (by simp;omega),Aa,Bi (by simp;omega),Aa,h0,show(GI.toZ (8:UInt64)).toNat=8 from rfl,show(GI.toZ (16:UInt64)).toNat=16 from rfl,show(GI.toZ (24:UInt64)).toNat=24 from rfl,h1,h2,h3];simp only[Ry,Bjt,Apc]
theorem uI(b:List UInt8):Tu b=some (Vj b):=by
 rw[Tu];by_cases h1:b.length<5
 ·rw[Aau (by rw[Ae,Ac];simp;omega),Vj,Aau h1]
 rw[Aac (by rw[Ae,Ac];simp;omega)];by_cases h2:41254<b.length
 ·rw[Aau (by rw[Aq,Ac];simp;omega),Vj,Aac h1,Aau h2]
 have e4:Ao (Ac b) 4=((b.length-4:Nat):Int):=by rw[Ac,Bu (by omega) (by omega)];omega
 have hd:(b.drop (b.length-4)).length=4:=by simp;omega
 rw[Aac (by rw[Aq,Ac];simp;omega),e4,Dl (by omega) (by omega),Aa,show((b.length-4:Nat):Int).toNat=b.length-4 from rfl,Auq _ (by simp;omega),Aa];have hlt:=(En (b.take (b.length-4))).toNat_lt;have hiff:(b.take (b.length-4)++Ry (En (b.take (b.length-4))).toNat 4 !=b)=decide ((En (b.take (b.length-4))).toNat≠Fz (b.drop (b.length-4))):=by
  rw[Alf];simp only[Blo,ne_eq,Abk];constructor
  ·intro h e;apply h;have:Ry (En (b.take (b.length-4))).toNat 4=b.drop (b.length-4):=Ary (by rw[Ce,hd]) (by rw[Yh,Abl (by omega),e]);rw[this,Bf0]
  ·intro h e;apply h;have hx:Ry (En (b.take (b.length-4))).toNat 4=b.drop (b.length-4):=by
    have e2:b.take (b.length-4)++Ry (En (b.take (b.length-4))).toNat 4=b.take (b.length-4)++b.drop (b.length-4):=by rw[e,Bf0]
    exact List.append_cancel_left e2
   rw[<-hx,Yh,Abl (by omega)]
 rw[hiff];by_cases h3:(En (b.take (b.length-4))).toNat≠Fz (b.drop (b.length-4))
 ·rw[Aau (by simp[h3]),Vj,Aac h1,Aac h2,Aau h3]
 ·rw[Aac (by rw[Bfl h3];decide),Vj,Aac h1,Aac h2,Aac h3]
theorem Amv{b:List UInt8}(h:Vj b=0):5<=b.length/\b.length<=41254:=by
 unfold Vj at h;split at h
 ·simp at h
 ·split at h
  ·simp at h
  ·omega
theorem Abz{c:Nat}(h1:1<=c)(h6:c<=6):Bw (4000:Int) (c:Int)=((4000/c:Nat):Int):=by
 have:c=1\/c=2\/c=3\/c=4\/c=5\/c=6:=by omega
 rcases this with rfl|rfl|rfl|rfl|rfl|rfl<;>rfl
theorem Bcq(p:List UInt8)(h:p.length<=41250):okB p (8*p.length):=⟨by omega,by omega,λk h1 h2=>by omega⟩
theorem FT{bits:Int}{ch n:Nat}{t:List Int32}(b:List UInt8)(hb:Bk bits)(ht:t.length=16)(h1:1<=ch)(h6:ch<=6)(n1:1<=n)(n2:n<=4000/ch):
  ∃l e,Jy (ch:Int) bits t (n:Int) b=some (l,e)/\Dg (ch:Int) bits t (n:Int) b=some (l,e)/\ (e=0->Ay bits l=some 0/\l.length<=4000/\l.length=n*ch)/\ (e≠0->l=[]):=by
 have hn:n*ch<=4000:=by
  have:=Adg ch n2;have h2:=Be7 4000 ch;omega
 have hq4:=Abz h1 h6;generalize 4000/ch=mm at*
 have hck:Gc (ch:Int) bits=some 0:=by
  have hr:∃x y,Sc bits=some (x,y,0):=⟨_,_,Afk hb⟩;obtain⟨x,y,hr⟩:=hr;rw[Gc,hr,Aa];simp only;rw[Aac (by simp[Aj,Ae,Aq];omega)]
 have hh:=PJ bits;have Ago:Ec (ch:Int) bits (n:Int)=some 0:=by
  rw[Ec,Dr,Aac (by simp[Ae,Aq];omega),ZZ hb,Aa,Aac (by rw[Ar];simp;omega),Aa,Aac (by simp[Aj,Ae];omega),Bl (by rw[Aj];simp;omega),Aa,hq4,Aac (by rw[Aq];simp;omega)]
 rw[Jy,Dg,Ox,hck,Ago,Aa,Aa,Aac (by rw[Aj];simp),Aac (by rw[Ae];simp;omega),Bl (by rw[Aj];simp;omega),Aa,hq4,Aac (by rw[Aq];simp;omega),Aac (by rw[Aj];simp),Ant,uI];by_cases hs:Vj b≠0
 ·rw[Aau hs];simp only[Aa];rw[Aau (by rw[Aj];simpa using hs),Aau (by rw[Aj];simpa using hs)];exact⟨[],Vj b,rfl,rfl,λe=>absurd e hs,λ_=>rfl⟩
 have hs0:Vj b=0:=by simpa using hs
 have hlen:=Amv hs0;have e4:Ao (Ac b) 4=((b.length-4:Nat):Int):=by rw[Ac,Bu (by omega) (by omega)];omega
 rw[Aac hs,hs0];simp only[Aa];rw[Aac (by rw[Aj];simp),Aac (by rw[Aj];simp),e4,Dl (by omega) (by omega),Aa,show((b.length-4:Nat):Int).toNat=b.length-4 from rfl];have hpl:(b.take (b.length-4)).length=b.length-4:=by simp
 generalize b.take (b.length-4)=p at*
 have e8:Bj (8:Int) (Ac p)=((8*p.length:Nat):Int):=by rw[Ac,Fh (by omega) (by omega)];omega
 have hp:=Bcq p (by omega);have hv:=values_eq hp h1 h6 hn;have hr:=Aj2 (N:=8*p.length) (p:=p) rfl (by omega) h1 h6 hn;have hat:=Ace (ch:=ch) (p:=p) (N:=8*p.length) (n*ch) 0 [] (by omega);rw[Ajq,Aac (by rw[Aq,Ac];simp;omega),Ca,Bi (by simp;omega),Aa,Aa,Aa,Apc,e8];simp only;rw[Aac (by rw[Aj];simp),hv,hr,Aa,Aa];generalize Ws ch p (8*p.length) (n*ch) 0 []=V at*
 obtain⟨v,at',e⟩:=V;simp only at*
 by_cases he:e≠0
 ·rw[Aau he,Aau he];simp only;rw[Aau (by rw[Aj];simpa using he),Hr,Ht,Aau (by rw[Aj];simpa using he)];exact⟨[],e,rfl,rfl,λh=>absurd h he,λ_=>rfl⟩
 have he0:e=0:=by simpa using he
 have hvl:=hat.2.2 he0;simp only[Bl6,Ay1]at hvl;rw[Aac he,Aac he];simp only;rw[Aac (by rw[Aj];simp),Bu (by omega) (by omega),show((8*p.length:Nat):Int)-(at':Int)=((8*p.length-at':Nat):Int) by omega,Hr,Ht];by_cases h7:7<8*p.length-at'
 ·have hE:(if 7<8*p.length-at'\/Cf p at' (8*p.length-at')≠0 then(12:Int)else 0)=12:=Aau (.inl h7);rw[Aau (by rw[Ea];simp;omega),hE,Aau (by decide)];exact⟨[],12,rfl,rfl,λh=>absurd h (by decide),λ_=>rfl⟩
 rw[Aac (by rw[Ea];simp;omega),yR hp at' _ (by omega),Aac (by omega),Aa];have hz:Bc (Qy p at' (8*p.length-at')) (0:UInt64)=decide (Cf p at' (8*p.length-at')≠0):=by
  rw[HJ,Alf];simp only[Blo,ne_eq,<-Bla,Abk];rw[AF p _ _ (by omega)];rfl
 simp only;rw[hz];by_cases hv0:Cf p at' (8*p.length-at')≠0
 ·have hE:(if 7<8*p.length-at'\/Cf p at' (8*p.length-at')≠0 then(12:Int)else 0)=12:=Aau (.inr hv0);rw[Aau (by simp[hv0]),hE,Aau (by decide)];exact⟨[],12,rfl,rfl,λh=>absurd h (by decide),λ_=>rfl⟩
 have hm:v.length %ch=0:=by rw[hvl];exact Bga n ch
 obtain⟨l,e,g1,g2,g3,g4,g5⟩:=vA (v:=v) hb ht h1 h6 (by omega) hm;have hE:(if 7<8*p.length-at'\/Cf p at' (8*p.length-at')≠0 then(12:Int)else 0)=0:=Aac (by omega);rw[Aac (by rw[Bfl hv0];decide),hE,Aac (by decide),g1,g3,Aa,Aa,g2];by_cases hl:e≠0
 ·rw[Aau hl];exact⟨[],e,rfl,rfl,λh=>absurd h hl,λ_=>rfl⟩
 ·rw[Aac hl];have hl0:e=0:=by simpa using hl
  exact⟨l,0,rfl,rfl,λ_=>⟨by rw[g4,hl0],by omega,by omega⟩,λe=>absurd rfl e⟩
theorem Aza(a b:Int32):a-(a-b)=b:=by
 apply Int32.toBitVec_inj.1;simp only[Int32.toBitVec_sub];apply Bk1;simp only[BitVec.toNat_sub];have:=a.toBitVec.isLt;have:=b.toBitVec.isLt;omega
theorem bI(a b:Int32):a-b+b=a:=by
 apply Int32.toBitVec_inj.1;simp only[Int32.toBitVec_sub,Int32.toBitVec_add];apply Bk1;simp only[BitVec.toNat_sub,BitVec.toNat_add];have:=a.toBitVec.isLt;have:=b.toBitVec.isLt;omega
def mxV(f:Nat->Int32)(ch i:Nat):Int32:=if i+1<ch then f (i+1)-f i else if 1<ch then f (ch-1)-Bw (f (ch-1)-f (ch-2)) (2:Int32)else f (ch-1)
theorem Aww{f g:Nat->Int32}{ch:Nat}(h1:1<=ch)(h:∀i,i<ch->f i=mxV g ch i):∀j,j<ch->unV f ch j=g (ch-1-j)
 |0,_=>by
  rw[unV];by_cases h2:1<ch
  ·rw[Aau h2,h (ch-1) (by omega),h (ch-2) (by omega),mxV,mxV,Aac (by omega),Aau h2,Aau (by omega),show ch-2+1=ch-1 by omega,bI,Nat.sub_zero]
  ·rw[Aac h2,h (ch-1) (by omega),mxV,Aac (by omega),Aac h2,Nat.sub_zero]
 |j+1,hj=>by
  rw[unV,Aww h1 h j (by omega),h (ch-2-j) (by omega),mxV,Aau (by omega),show ch-2-j+1=ch-1-j by omega,Aza];congr 1;omega
def mx(ch:Nat)(x:List Int32):List Int32:=(List.range x.length).map λk=>mxV (λi=>x.getD (k-k %ch+i) 0) ch (k %ch)
theorem aP(ch:Nat)(x:List Int32):(mx ch x).length=x.length:=by simp[mx]
theorem Ayt{ch:Nat}{x:List Int32}{k:Nat}(h:k<x.length):(mx ch x).getD k 0=mxV (λi=>x.getD (k-k %ch+i) 0) ch (k %ch):=by
 rw[Ku (by rw[aP];exact h)];simp[mx]
theorem Bgm{ch:Nat}{x:List Int32}(h1:1<=ch)(hm:x.length %ch=0):unm ch (mx ch x)=x:=by
 apply Bee (by rw[jK,aP]);intro k hk1 hk2;have hr:=Bhn k (show 0<ch by omega);have hle:=Bln k ch;have ha:(k-k %ch) %ch=0:=Nat.mod_eq_zero_of_dvd (Nat.dvd_sub_mod k);have hb:=wA ha hm (by omega);have e:=xB (m:=mx ch x) ha hr (by rw[aP];omega);rw[show k-k %ch+k %ch=k by omega]at e;rw[<-Ku hk1,<-Ku hk2,e];rw[Aww (g:=λi=>x.getD (k-k %ch+i) 0) h1 (λi hi=>?_) (ch-1-k %ch) (by omega)]
 ·congr 1;omega
 ·rw[Ayt (by omega)];have h2:(k-k %ch+i) %ch=i:=by rw[Nat.add_mod,ha,Ay1,Nat.mod_mod,Abl hi]
  rw[h2,show k-k %ch+i-i=k-k %ch by omega]
def oL(x:Int32):UInt32:=UInt32.ofNat (if 0<=x.toInt then 2*x.toInt.toNat else 2*(-x.toInt-1).toNat+1)
theorem Baa(x:Int32):XM (oL x)=x:=by
 have h:=CG x;have e:(oL x).toNat=if 0<=x.toInt then 2*x.toInt.toNat else 2*(-x.toInt-1).toNat+1:=by
  rw[oL,Ali];split<;>exact Abl (by omega)
 rw[XM,e];by_cases h0:0<=x.toInt
 ·rw[Aau h0,Aau (by omega),show((2*x.toInt.toNat/2:Nat):Int)=x.toInt by omega,Be0]
 ·rw[Aac h0,Aac (by omega),show -(((2*(-x.toInt-1).toNat+1)/2:Nat):Int)-1=x.toInt by omega,Be0]
theorem Ag5{α:Type}(ch c:Nat)(f g:α->Nat->α)(a0:α):∀m:Nat,(∀i,i<m->∀a,f a i=g a i)->pre ch c f a0 m=pre ch c g a0 m
 |0,_=>rfl
 |m+1,h=>by
  rw[pre,pre,Ag5 ch c f g a0 m λi hi=>h i (by omega),h m (by omega)]
theorem Ata(bits:Int)(ch:Nat)(t:List Int32)(v w:List UInt32)(c i:Nat)(h:i<=v.length):cst bits ch t (v++w) c i=cst bits ch t v c i:=by
 unfold cst;apply Ag5;intro j hj a;have:(v++w).getD j 0=v.getD j 0:=by
  rw[List.getD_eq_getElem?_getD,List.getD_eq_getElem?_getD,List.getElem?_append_left (by omega)]
 rw[this]
def Abp(bits:Int)(s:CS)(x:Int32):Int32:=x-gs (shB bits) s.1-gF (sB bits) s.2.1 s.2.2
theorem Aio(bits:Int)(s:CS)(x:Int32):Aoz bits s (Abp bits s x)=x:=by
 rw[Aoz,Abp,bI,bI]
def evl(bits:Int)(ch:Nat)(t m:List Int32):Nat->List UInt32
 |0=>[]
 |i+1=>evl bits ch t m i++[oL (Abp bits (cst bits ch t (evl bits ch t m i) (i %ch) i) (m.getD i 0))]
theorem qU(bits:Int)(ch:Nat)(t m:List Int32):∀i,(evl bits ch t m i).length=i
 |0=>rfl
 |i+1=>by rw[evl,Aav,qU bits ch t m i];rfl
theorem Akp(bits:Int)(ch:Nat)(t m:List Int32):∀(j i:Nat),∃w,evl bits ch t m (i+j)=evl bits ch t m i++w
 |0,i=>⟨[],by simp⟩
 |j+1,i=>by
  obtain⟨w,hw⟩:=Akp bits ch t m j i;rw[<-Awq,evl,hw];exact⟨_,Agd _ _ _⟩
theorem Bbj(bits:Int)(ch:Nat)(t m:List Int32):vN bits ch t (evl bits ch t m m.length)=m:=by
 have hl:=qU bits ch t m m.length;apply Bee (by rw[iW,hl]);intro i h1 h2;rw[<-Ku h1,<-Ku h2,Aj4 _ _ _ _ (by omega)];obtain⟨w,hw⟩:=Akp bits ch t m (m.length-(i+1)) (i+1);rw[show i+1+(m.length-(i+1))=m.length by omega,evl,Agd]at hw;have hli:=qU bits ch t m i;rw[hw,Ata _ _ _ _ _ _ _ (by omega)];have hg:(evl bits ch t m i++([oL (Abp bits (cst bits ch t (evl bits ch t m i) (i %ch) i) (m.getD i 0))]++w)).getD i 0=oL (Abp bits (cst bits ch t (evl bits ch t m i) (i %ch) i) (m.getD i 0)):=by
  rw[List.getD_eq_getElem?_getD,List.getElem?_append_right (by omega),hli,Nat.sub_self];rfl
 rw[hg,Baa,Aio]
def tb(l:List Bool)(k:Nat):Nat:=if l.getD k false=true then 1 else 0
theorem Ate(b:Bool)(l:List Bool):tb (b::l) 0=if b=true then 1 else 0:=rfl
theorem Aru(b:Bool)(l:List Bool)(k:Nat):tb (b::l) (k+1)=tb l k:=by simp[tb]
theorem Ar1{a b:List Bool}{k:Nat}(h:k<a.length):tb (a++b) k=tb a k:=by
 rw[tb,tb,List.getD_eq_getElem?_getD,List.getD_eq_getElem?_getD,List.getElem?_append_left h]
theorem Aj0(a b:List Bool)(k:Nat):tb (a++b) (a.length+k)=tb b k:=by
 rw[tb,tb,List.getD_eq_getElem?_getD,List.getD_eq_getElem?_getD,List.getElem?_append_right (by omega),Bhd]
theorem Akw{l:List Bool}{k:Nat}(h:l.length<=k):tb l k=0:=by
 rw[tb,List.getD_eq_getElem?_getD,List.getElem?_eq_none h];rfl
def At(p:List UInt8)(a:Nat)(c:List Bool):Prop:=∀i,i<c.length->Ho p (a+i)=tb c i
theorem At.left{p:List UInt8}{a:Nat}{c d:List Bool}(h:At p a (c++d)):At p a c:=λi hi=>by
 rw[h i (by rw[Aav];omega),Ar1 hi]
theorem At.right{p:List UInt8}{a:Nat}{c d:List Bool}(h:At p a (c++d)):At p (a+c.length) d:=λi hi=>by
 rw[Awq,h (c.length+i) (by rw[Aav];omega),Aj0]
theorem At.cons{p:List UInt8}{a:Nat}{b:Bool}{c:List Bool}(h:At p a (b::c)):Ho p a=(if b=true then 1 else 0)/\At p (a+1) c:=by
 have h0:=h 0 (by simp);rw[Bhl,Ate]at h0;refine⟨h0,λi hi=>?_⟩;have:=h (i+1) (by simp;omega);rw[Aru]at this;rw[show a+1+i=a+(i+1) by omega,this]
def kL:Nat->Nat->List Bool
 |_,0=>[]
 |v,n+1=>decide (v %2=1)::kL (v/2) n
theorem Ui:∀(v n:Nat),(kL v n).length=n
 |_,0=>rfl
 |v,n+1=>by rw[kL,Alj,Ui (v/2) n]
theorem PF(p:List UInt8):∀(n a v:Nat),At p a (kL v n)->Cf p a n=v %2^n
 |0,a,v,_=>by rw[Cf,Nat.pow_zero,Nat.mod_one]
 |n+1,a,v,h=>by
  rw[kL]at h;obtain⟨h0,h1⟩:=h.cons;rw[Cf,h0,PF p n (a+1) (v/2) h1,Awk,Ao6 (2^n) 2,Nat.mod_mul];have:=Nat.mod_two_eq_zero_or_one v;rcases this with e|e<;>simp[e]
theorem Aet(p:List UInt8):∀(q m a:Nat) (c:List Bool),At p a (List.replicate q true++c)->q<=m->Gx p a m=q+Gx p (a+q) (m-q)
 |0,m,a,c,h,hm=>by simp
 |q+1,m,a,c,h,hm=>by
  rw[Bgj,Bi1]at h;obtain⟨h0,h1⟩:=h.cons;obtain⟨m,rfl⟩:∃k,m=k+1:=⟨m-1,by omega⟩;rw[Gx,Aau (by rw[h0];rfl),Aet p q m (a+1) c h1 (by omega),show a+1+q=a+(q+1) by omega,show m+1-(q+1)=m-q by omega];omega
theorem Bbg{p:List UInt8}{a m:Nat}(h:Ho p a=0):Gx p a m=0:=by
 cases m with
 |zero=>rfl
 |succ m=>rw[Gx,Aac (by omega)]
def ZL(l v:Nat):List Bool:=if 48<=v/2^l then List.replicate 48 true++kL v 32 else List.replicate (v/2^l) true++(false::kL (v %2^l) l)
theorem Aus{l v:Nat}(hl:l<=24):1<= (ZL l v).length/\ (ZL l v).length<=80:=by
 rw[ZL];generalize v/2^l=q;split
 ·rw[Aav,Apd,Ui];omega
 ·rw[Aav,Apd,Alj,Ui];omega
theorem Avt{p:List UInt8}{N a l v:Nat}(hl:l<=24)(hv:v<2^32)(h:At p a (ZL l v))(hN:a+(ZL l v).length<=N):YS p N a l=(UInt32.ofNat v,((a+(ZL l v).length:Nat):Int),0):=by
 rw[ZL]at h hN⊢;by_cases h48:48<=v/2^l
 ·rw[Aau h48]at h hN⊢;rw[Aav,Apd,Ui]at hN⊢;have hm:min 48 (N-a)=48:=by omega
  have ho:=Aet p 48 48 a (kL v 32) h (Am4 _);rw[Nat.sub_self,Gx,Bhl]at ho;have hr:=h.right;rw[Apd]at hr;have hval:=PF p 32 (a+48) v hr;rw[Abl hv]at hval;rw[YS,Aac (by omega),hm,ho,Aac (by omega),Aau rfl,Aac (by omega),hval,Aac (by omega)]
 ·rw[Aac h48]at h hN⊢;rw[Aav,Apd,Alj,Ui]at hN⊢;generalize hq:v/2^l=q at*
  have hr:=h.right;rw[Apd]at hr;obtain⟨h0,h1⟩:=hr.cons;have hm:q<min 48 (N-a):=by omega
  have ho:=Aet p q (min 48 (N-a)) a _ h (by omega);rw[Bbg (a:=a+q) (m:=min 48 (N-a)-q) (by rw[h0];rfl),Bhl]at ho;have hval:=PF p l (a+q+1) (v %2^l) h1;rw[Nat.mod_mod]at hval;have hdm:=Bj5 v (2^l);rw[hq,Ao6]at hdm;rw[YS,Aac (by omega),ho,Aau hm,Aac (by omega),hval,hdm,show a+q+1+l=a+(q+(l+1)) by omega]
def Tm(k l:Nat)(v:UInt32):List Bool:=if v.toNat<2^k then false::kL v.toNat k else true::ZL l (v.toNat-2^k)
theorem gM{k l:Nat}(v:UInt32)(hk:k<=24)(hl:l<=24):1<= (Tm k l v).length/\ (Tm k l v).length<=81:=by
 have:=Aus (v:=v.toNat-2^k) hl;rw[Tm];split
 ·rw[Alj,Ui];omega
 ·rw[Alj];omega
theorem Auo{p:List UInt8}{N a k l:Nat}{v:UInt32}(hk:k<=24)(hl:l<=24)(h:At p a (Tm k l v))(hN:a+(Tm k l v).length<=N):dW p N a k l=(v,((a+(Tm k l v).length:Nat):Int),0):=by
 have Bm8:=v.toNat_lt;have hof:UInt32.ofNat v.toNat=v:=by simp
 rw[Tm]at h hN⊢;by_cases hs:v.toNat<2^k
 ·rw[Aau hs]at h hN⊢;rw[Alj,Ui]at hN⊢;obtain⟨h0,h1⟩:=h.cons;have hval:=PF p k (a+1) v.toNat h1;rw[Abl hs]at hval;rw[dW,Aac (by omega),Aau (by rw[h0];rfl),Aac (by omega),hval,hof,show a+1+k=a+(k+1) by omega]
 ·rw[Aac hs]at h hN⊢;rw[Alj]at hN⊢;obtain⟨h0,h1⟩:=h.cons;have hsub:=Nat.sub_le v.toNat (2^k);have hr:=Avt hl (by omega:v.toNat-2^k<2^32) h1 (by omega:a+1+_<=N);have ht:(UInt32.ofNat (v.toNat-2^k)).toNat=v.toNat-2^k:=by rw[Ali];exact Abl (by omega)
  rw[dW,Aac (by omega),Aac (by rw[h0];decide),hr];simp only;rw[Aac (by decide),ht,Aac (by omega),show v.toNat-2^k+2^k=v.toNat by omega,hof,show a+1+(ZL l (v.toNat-2^k)).length=a+((ZL l (v.toNat-2^k)).length+1) by omega]
def bv:List Bool->Nat
 |[]=>0
 |b::r=>(if b=true then 1 else 0)+2*bv r
theorem Beq:∀l:List Bool,bv l<2^l.length
 |[]=>by decide
 |b::r=>by
  have:=Beq r;rw[bv,Alj,Awk];split<;>omega
theorem Ax7:∀(l:List Bool) (k:Nat),bv l/2^k %2=tb l k
 |[],k=>by simp[bv,tb]
 |b::r,0=>by
  rw[bv,Ate,Nat.pow_zero,Nat.div_one];split<;>omega
 |b::r,k+1=>by
  have:((if b=true then 1 else 0)+2*bv r)/2=bv r:=by split<;>omega
  rw[bv,Aru,Awk,Ao6 (2^k) 2,<-Bjt,this,Ax7 r k]
def Mr(c:List Bool):List UInt8:=(List.range ((c.length+7)/8)).map λj=>UInt8.ofNat (bv ((c.drop (8*j)).take 8))
theorem Xc(c:List Bool):(Mr c).length=(c.length+7)/8:=by simp[Mr]
theorem FV(c:List Bool)(i:Nat):Ho (Mr c) i=tb c i:=by
 rw[Ho];by_cases h:i/8<(c.length+7)/8
 ·have hg:(Mr c).getD (i/8) 0=UInt8.ofNat (bv ((c.drop (8*(i/8))).take 8)):=by
   rw[List.getD_eq_getElem?_getD,List.getElem?_eq_getElem (by rw[Xc];exact h)];simp[Mr]
  have hlt:=Beq ((c.drop (8*(i/8))).take 8);have hl8:((c.drop (8*(i/8))).take 8).length<=8:=by rw[Ag1];omega
  have hp:=Agq (show 0<2 by omega) hl8;have hn:(UInt8.ofNat (bv ((c.drop (8*(i/8))).take 8))).toNat=bv ((c.drop (8*(i/8))).take 8):=by
   rw[Aol];exact Abl (by omega)
  rw[hg,hn,Ax7,tb,tb];have:((c.drop (8*(i/8))).take 8).getD (i %8) false=c.getD i false:=by
   rw[List.getD_eq_getElem?_getD,List.getD_eq_getElem?_getD,List.getElem?_take,Aau (by omega),List.getElem?_drop,show 8*(i/8)+i %8=i by omega]
  rw[this]
 ·have hg:(Mr c).getD (i/8) 0=0:=by
   rw[List.getD_eq_getElem?_getD,List.getElem?_eq_none (by rw[Xc];omega)];rfl
  rw[hg,Akw (by omega)];simp
def Ta(ch:Nat)(V:List UInt32):Nat->List Bool
 |0=>[]
 |i+1=>Ta ch V i++Tm (now ch (V.take i)).1 (now ch (V.take i)).2.1 (V.getD i 0)
theorem Ajv(ch:Nat)(v:List UInt32):(now ch v).1<=24/\ (now ch v).2.1<=24:=by
 have:=oC ch v (v.length %ch) v.length;exact⟨this.1,this.2.1⟩
theorem Anm(ch:Nat)(V:List UInt32):∀(j i:Nat),∃w,Ta ch V (i+j)=Ta ch V i++w
 |0,i=>⟨[],by simp⟩
 |j+1,i=>by
  obtain⟨w,hw⟩:=Anm ch V j i;rw[<-Awq,Ta,hw];exact⟨_,Agd _ _ _⟩
theorem eG(ch:Nat)(V:List UInt32):∀i,(Ta ch V i).length<=81*i
 |0=>by simp[Ta]
 |i+1=>by
  have h:=Ajv ch (V.take i);have:=gM (V.getD i 0) h.1 h.2;rw[Ta,Aav];have:=eG ch V i;omega
theorem Ai3(ch:Nat)(V:List UInt32)(N:Nat)(hN:(Ta ch V V.length).length<=N):∀(j i:Nat),i+j=V.length->Ws ch (Mr (Ta ch V V.length)) N j (Ta ch V i).length (V.take i)=(V,(Ta ch V V.length).length,0)
 |0,i,h=>by
  obtain rfl:i=V.length:=by omega
  rw[Ws,Awj]
 |j+1,i,h=>by
  obtain⟨w,hw⟩:=Anm ch V j (i+1);rw[show i+1+j=V.length by omega]at hw;have hk:=Ajv ch (V.take i);have hcl:=gM (V.getD i 0) hk.1 hk.2;have hAt:At (Mr (Ta ch V V.length)) (Ta ch V i).length (Tm (now ch (V.take i)).1 (now ch (V.take i)).2.1 (V.getD i 0)):=by
   intro m hm;rw[FV,hw,Ta,Agd,Aj0,Ar1 hm]
  have hlen:(Ta ch V i).length+(Tm (now ch (V.take i)).1 (now ch (V.take i)).2.1 (V.getD i 0)).length<= (Ta ch V V.length).length:=by
   rw[hw,Ta,Aav,Aav];omega
  have ih:=Ai3 ch V N hN j (i+1) (by omega);rw[Ta,Aav]at ih;generalize Mr (Ta ch V V.length)=p at*
  generalize(Ta ch V i).length=a at*
  have hw2:(Tm (now ch (V.take i)).1 (now ch (V.take i)).2.1 (V.getD i 0)).length<=yW N a:=by unfold yW;omega
  have hAt2:At (Rt p a (yW N a)) 0 (Tm (now ch (V.take i)).1 (now ch (V.take i)).2.1 (V.getD i 0)):=by
   intro m hm;rw[Ay1,wM,Aau (by omega),hAt m hm]
  have hb:=Auo hk.1 hk.2 hAt2 (by omega:0+_<=yW N a);have hcode:Nu ch p N a (V.take i)=(V.getD i 0,((0+(Tm (now ch (V.take i)).1 (now ch (V.take i)).2.1 (V.getD i 0)).length:Nat):Int),0):=hb;rw[Ws,hcode];simp only;rw[Aac (by decide),Ay1,Agr];have ht:V.take i++[V.getD i 0]=V.take (i+1):=by
   have hg:V.getD i 0=V[i]:=by rw[List.getD_eq_getElem?_getD,List.getElem?_eq_getElem (by omega)];rfl
   rw[hg,Md (by omega)]
  rw[ht];exact ih
def P64:Nat:=4823603603198064275
def UF(s:Nat):Nat:=(2*s %18446744073709551616)^^^ (s/9223372036854775808*P64)
theorem fB{s:Nat}(h:s<18446744073709551616):UF s<18446744073709551616:=by
 have h1:s/9223372036854775808=0\/s/9223372036854775808=1:=by omega
 exact Bgi (n:=64) (Bhn _ (by decide)) (by rcases h1 with e|e<;>rw[e]<;>decide)
theorem Asb(x y:Nat):(x^^^y)/9223372036854775808=(x/9223372036854775808)^^^ (y/9223372036854775808):=by
 have:=Nat.shiftRight_xor_distrib (a:=x) (b:=y) (i:=63);simpa [Nat.shiftRight_eq_div_pow]using this
theorem Asm(x y:Nat):2*(x^^^y) %18446744073709551616=(2*x %18446744073709551616)^^^ (2*y %18446744073709551616):=by
 have h1:=Nat.shiftLeft_xor_distrib (a:=x) (b:=y) (i:=1);have h2:=Nat.xor_mod_two_pow (a:=2*x) (b:=2*y) (n:=64);have e:2*(x^^^y)=(2*x)^^^ (2*y):=by simpa [Nat.shiftLeft_eq,Ao6]using h1
 rw[e];exact h2
theorem Bcf{a b:Nat}(ha:a=0\/a=1)(hb:b=0\/b=1)(p:Nat):(a^^^b)*p=(a*p)^^^ (b*p):=by
 rcases ha with rfl|rfl<;>rcases hb with rfl|rfl<;>simp
theorem Bjx(a b c d:Nat):(a^^^b)^^^ (c^^^d)=(a^^^c)^^^ (b^^^d):=by
 rw[Bie,Bie,<-Bie b c d,Bmb b c,Bie c b d]
theorem Aq2{x y:Nat}(hx:x<18446744073709551616)(hy:y<18446744073709551616):UF (x^^^y)=UF x^^^UF y:=by
 rw[UF,UF,UF,Asm,Asb,Bcf (by omega) (by omega),Bjx]
def Rh:Nat->Nat->Nat
 |0,s=>s
 |k+1,s=>Rh k (UF s)
theorem yO:∀(k:Nat) {s:Nat},s<18446744073709551616->Rh k s<18446744073709551616
 |0,_,h=>h
 |k+1,_,h=>yO k (fB h)
theorem Ade:∀(k:Nat) {x y:Nat},x<18446744073709551616->y<18446744073709551616->Rh k (x^^^y)=Rh k x^^^Rh k y
 |0,_,_,_,_=>rfl
 |k+1,x,y,hx,hy=>by rw[Rh,Aq2 hx hy,Ade k (fB hx) (fB hy)];rfl
theorem Afw:∀(k h:Nat),2^k*h<18446744073709551616->Rh k h=2^k*h
 |0,h,_=>by simp[Rh]
 |k+1,h,hl=>by
  have hpos:0<2^k:=Bjl (by omega);rw[Awk,Awr]at hl;have h2:2*h<18446744073709551616:=Bh4 (Nat.le_mul_of_pos_left _ hpos) hl;have:UF h=2*h:=by rw[UF,Abl h2,show h/9223372036854775808=0 by omega];simp
  rw[Rh,this,Afw k _ hl,Awk,Awr]
def pL(s c:Nat):Nat:=Rh 8 (s^^^ (c*72057594037927936))
theorem c56{c:Nat}(hc:c<256):c*72057594037927936<18446744073709551616:=by omega
theorem zQ{s c:Nat}(h:s<18446744073709551616)(hc:c<256):pL s c<18446744073709551616:=yO 8 (Bgi (n:=64) h (c56 hc))
theorem Bc1(s:Nat):s=(s/72057594037927936*72057594037927936)^^^ (s %72057594037927936):=by
 have h1:s %72057594037927936<2^56:=Bhn _ (by decide);have:=Be2 h1 (s/72057594037927936);have h2:2^56*(s/72057594037927936)|||s %72057594037927936=(2^56*(s/72057594037927936))^^^ (s %72057594037927936):=by
  apply Nat.eq_of_testBit_eq;intro i;rw[Nat.testBit_or,Nat.testBit_xor];by_cases hi:i<56
  ·have:(2^56*(s/72057594037927936)).testBit i=false:=by rw[Nat.testBit_two_pow_mul];simp;omega
   rw[this];simp
  ·have:(s %72057594037927936).testBit i=false:=Nat.testBit_lt_two_pow (Apb h1 (Agq (by omega) (by omega)));rw[this];simp
 rw[Ao6 (s/72057594037927936)]
 show s=(2^56*(s/72057594037927936))^^^ _;rw[<-h2,<-this];have:=Bj5 s 72057594037927936
 show s=72057594037927936*_+_;omega
theorem At3(a c:Nat):(a^^^c)*72057594037927936=(a*72057594037927936)^^^ (c*72057594037927936):=by
 have h1:=Nat.shiftLeft_xor_distrib (a:=a) (b:=c) (i:=56);simpa [Nat.shiftLeft_eq]using h1
theorem Aki{s c:Nat}(h:s<18446744073709551616)(hc:c<256):pL s c=(256*s %18446744073709551616)^^^Rh 8 (((s/72057594037927936)^^^c)*72057594037927936):=by
 have hs:s/72057594037927936<2^8:=by show _<256;omega
 have hx:(s/72057594037927936)^^^c<256:=Bgi (n:=8) hs (by simpa using hc);have hl:s %72057594037927936<72057594037927936:=Bhn _ (by decide);rw[pL]
 conv=>lhs;rw[Bc1 s]
 rw[Bmb (s/72057594037927936*72057594037927936),Bie,<-At3,Ade 8 (by omega) (c56 hx),Afw 8 _ (by show 256*_<_;omega)];congr 1
 show 256*(s %72057594037927936)=_;omega
def Af0(s:Nat)(l:List UInt8):Nat:=l.foldl (λs c=>pL s c.toNat) s
theorem Ags{n:Nat}(h:n<18446744073709551616):(UInt64.ofNat n).toNat=n:=by rw[Akr];exact Abl h
theorem Bgg(s:UInt64)(bit:Nat)(hb:bit=0\/bit=1):IP s (bit:Int)=some (UInt64.ofNat ((2*s.toNat %18446744073709551616)^^^ (((s.toNat/9223372036854775808)^^^bit)*P64))):=by
 have hs:=s.toNat_lt;have ht:s.toNat/9223372036854775808=0\/s.toNat/9223372036854775808=1:=by omega
 have e1:(Bj s (2:UInt64)).toNat=2*s.toNat %18446744073709551616:=by
  rw[QW,UInt64.toNat_mul];show s.toNat*2 %_=_;rw[Ao6]
 have hlt:2*s.toNat %18446744073709551616<18446744073709551616:=Bhn _ (by decide);have ey:AH (Bj s (2:UInt64)) (4823603603198064275:UInt64)=UInt64.ofNat ((2*s.toNat %18446744073709551616)^^^P64):=by
  apply UInt64.toNat_inj.1;rw[Ae0,UInt64.toNat_xor,e1,Ags (Bgi (n:=64) hlt (by decide))];rfl
 have en:Bj s (2:UInt64)=UInt64.ofNat (2*s.toNat %18446744073709551616):=by
  apply UInt64.toNat_inj.1;rw[e1,Ags hlt]
 have eg:Nk s (9223372036854775808:UInt64)=decide (s.toNat/9223372036854775808=1):=by
  rw[Bc7,decide_eq_decide]
  show 9223372036854775808<=s.toNat↔_;omega
 have hp:∀b:Bool,AA s b=some (if b=true then UInt64.ofNat ((2*s.toNat %18446744073709551616)^^^P64)else UInt64.ofNat (2*s.toNat %18446744073709551616)):=by
  intro b;rw[AA,QQ,ey,en];cases b<;>rfl
 rw[IP,RH,hp,hp,eg];rcases hb with rfl|rfl<;>rcases ht with h|h<;>rw[h]<;>simp[Ar]
theorem Aba(c:UInt8):∀(j q:Nat) (s:UInt64),j<=8->j<q->My c q s ((2^j/2:Nat):Int)=some (UInt64.ofNat (Rh j (s.toNat^^^ (c.toNat %2^j*2^(64-j)))))
 |0,q+1,s,_,_=>by
  rw[My,Zw,Aac (by rw[Aq];simp),SL,QY];simp[Rh,Nat.mod_one]
 |j+1,q+1,s,hj,hq=>by
  have hc:=c.toNat_lt;have hs:=s.toNat_lt;have hj2:2^j<=2^7:=Agq (by omega) (by omega);have hpos:0<2^j:=Bjl (by omega);have e1:2^(j+1)/2=2^j:=by rw[Awk];omega
  have e2:Bw ((2^j:Nat):Int) 2=((2^j/2:Nat):Int):=by
   generalize 2^j=K at*
   rw[TC,Bgx (by omega),Df (by omega) (by omega)];omega
  have e3:Gw (Bw (Af c:Int) ((2^j:Nat):Int)) (2:Int)=((c.toNat/2^j %2:Nat):Int):=by
   have hX:=Arh c.toNat (2^j);rw[WN,TC,<-Int.ofNat_tdiv];generalize c.toNat/2^j=X at*
   rw[Df (by omega) (by omega),Gw,Bkf (by omega)];omega
  have hbit:c.toNat/2^j %2=0\/c.toNat/2^j %2=1:=by omega
  rw[My,Zw,e1,Aau (by rw[Aq,Abk];omega),Bl (by rw[Aj,Blo];omega),Aa,e3,Bgg s _ hbit,Aa,e2,Aba c j q _ (by omega) (by omega)];congr 2;rw[Rh];congr 1;have hx:c.toNat %2^(j+1)*2^(64-(j+1))=(c.toNat/2^j %2)*9223372036854775808+c.toNat %2^j*2^(63-j):=by
   have h63:(9223372036854775808:Nat)=2^j*2^(63-j):=by rw[<-Blr,show j+(63-j)=63 by omega]
   rw[Nat.mod_pow_succ,h63,show 64-(j+1)=63-j by omega,Alg,Bk0,Awr,Nat.mul_left_comm]
  have hr:c.toNat %2^j<2^j:=Bhn _ hpos;have Bna:c.toNat %2^j*2^(63-j)<9223372036854775808:=by
   have h63:(9223372036854775808:Nat)=2^j*2^(63-j):=by rw[<-Blr,show j+(63-j)=63 by omega]
   rw[h63];exact Nat.mul_lt_mul_of_pos_right hr (Bjl (by omega))
  have h64:c.toNat %2^j*2^(64-j)=2*(c.toNat %2^j*2^(63-j)):=by
   rw[show 64-j=(63-j)+1 by omega,Awk,<-Awr,Ao6]
  rw[hx,h64];generalize c.toNat %2^j*2^(63-j)=R at*
  generalize c.toNat/2^j %2=b at*
  have ht:s.toNat/9223372036854775808=0\/s.toNat/9223372036854775808=1:=by omega
  have hp:((s.toNat/9223372036854775808^^^b)*P64)<18446744073709551616:=by
   rcases ht with h|h<;>rcases hbit with h2|h2<;>rw[h,h2]<;>decide
  rw[Ags (Bgi (n:=64) (Bhn _ (by decide)) hp),UF,Asm,Asb,show(b*9223372036854775808+R)/9223372036854775808=b by omega,show 2*(b*9223372036854775808+R) %18446744073709551616=2*R by omega,Bie,Bie,Bmb (2*R)]
theorem Bfi(c:UInt8)(s:UInt64):bZ s c=some (UInt64.ofNat (pL s.toNat c.toNat)):=by
 have h:=Aba c 8 Ax s (Am4 _) (by have:=As;omega);have hc:=c.toNat_lt;rw[Abl (show c.toNat<2^8 by simpa using hc)]at h;exact h
theorem sM(b:List UInt8)(hb:b.length<4611686018427387904):∀(j i q:Nat) (s:UInt64),i+j=b.length->j<q->Kq b q s (i:Int)=some (UInt64.ofNat (Af0 s.toNat (b.drop i)))
 |0,i,q+1,s,hi,_=>by
  rw[Kq,Wk,Aac (by rw[Ae,Ac];simp;omega),show i=b.length by omega,Bje];simp[HR,ID,Af0]
 |j+1,i,q+1,s,hi,hq=>by
  have hlt:i<b.length:=by omega
  have hc:=b[i].toNat_lt;rw[Kq,Wk,Aau (by rw[Ae,Ac];simp;omega),Bq hlt,Aa,Bfi,Aa,Ah (by omega) (by omega)];have h:=sM b hb j (i+1) q (UInt64.ofNat (pL s.toNat b[i].toNat)) (by omega) (by omega);rw[show((i:Int)+1)=((i+1:Nat):Int) by omega,h,drop_cons hlt,Ags (zQ s.toNat_lt (by simpa using hc))];rfl
def Lg(b:List UInt8):UInt64:=UInt64.ofNat (Af0 0 b)
theorem Amj(b:List UInt8)(hb:b.length<=100000):BR 0 b=some (Lg b):=
 sM b (by omega) b.length 0 Ax 0 (by omega) (by have:=As;omega)
theorem Aq9(c:UInt64):AH (Dt c (GI.toZ (1:UInt64)).toNat) (Bj (4823603603198064275:UInt64) (Ck c (GI.toZ (63:UInt64)).toNat))=UInt64.ofNat (UF c.toNat):=by
 have hc:=c.toNat_lt;apply UInt64.toNat_inj.1;have h1:(Dt c (GI.toZ (1:UInt64)).toNat).toNat=2*c.toNat %18446744073709551616:=by
  rw[show(GI.toZ (1:UInt64)).toNat=1 from rfl,ZG,Ao6]
 have h2:(Bj (4823603603198064275:UInt64) (Ck c (GI.toZ (63:UInt64)).toNat)).toNat=c.toNat/9223372036854775808*P64:=by
  rw[show(GI.toZ (63:UInt64)).toNat=63 from rfl,QW,UInt64.toNat_mul,LM]
  show 4823603603198064275*(c.toNat/9223372036854775808) %18446744073709551616=_;have h1:c.toNat/9223372036854775808=0\/c.toNat/9223372036854775808=1:=by omega
  rcases h1 with e|e<;>rw[e]<;>decide
 rw[Ae0,UInt64.toNat_xor,h1,h2,Ags (fB hc)];rfl
theorem Aaw(Is:Int->List UInt64->Option (UInt64×Int))(s:UInt64)(b:List UInt8)(x:Int)(t:List UInt64):∀(j i q:Nat) (c:UInt64),i+j=8->j<q->
  Uv Is s b x t q c (i:Int)=KK Is s b x (UInt64.ofNat (Rh j c.toNat)) t
 |0,i,q+1,c,hi,_=>by
  obtain rfl:i=8:=by omega
  rw[Uv,LY,Aac (by rw[Ae];simp),Rh,UInt64.ofNat_toNat]
 |j+1,i,q+1,c,hi,hq=>by
  rw[Uv,LY,Aau (by rw[Ae];simp;omega),Aq9,Ah (by omega) (by omega),show((i:Int)+1)=((i+1:Nat):Int) by omega,Aaw Is s b x t j (i+1) q _ (by omega) (by omega),Ags (fB c.toNat_lt)];rfl
def bY(n:Nat):List UInt64:=(List.range n).map λi=>UInt64.ofNat (Rh 8 (i*72057594037927936))
theorem Afl(s:UInt64)(b:List UInt8):∀(j i q:Nat),i+j=256->j<q->Px s b q (i:Int) (bY i++List.replicate j 0)=LD s b (bY 256)
 |0,i,q+1,hi,_=>by
  obtain rfl:i=256:=by omega
  rw[Px,HH,Aac (by rw[Ae];simp)];simp
 |j+1,i,q+1,hi,hq=>by
  have hlen:(bY i++List.replicate (j+1) 0).length=i+(j+1):=by simp[bY]
  rw[Px,HH,Aau (by rw[Ae];simp;omega),XK];have h:=Aaw (Px s b q) s b (i:Int) (bY i++List.replicate (j+1) 0) 8 0 Ax (Dt (Af (i:Int):UInt64) (GI.toZ (56:UInt64)).toNat) (by omega) (by have:=As;omega);rw[show((0:Int))=((0:Nat):Int)from rfl,h,KK,XW,Bq (by rw[hlen];omega),Aa,Wf _ (by rw[hlen];omega),Aa,YV,pN,Ah (by omega) (by omega)];have e:(Dt (Af (i:Int):UInt64) (GI.toZ (56:UInt64)).toNat).toNat=i*72057594037927936:=by
   rw[ZG,Xg,Ags (by omega)]
   show i*72057594037927936 %18446744073709551616=_;omega
  rw[e,Bgj,qJ (by simp[bY])];have h2:=Afl s b j (i+1) q (by omega) (by omega);have h3:bY (i+1)=bY i++[UInt64.ofNat (Rh 8 (i*72057594037927936))]:=by simp[bY,List.range_succ]
  rw[h3]at h2;rw[show((i:Int)+1)=((i+1:Nat):Int) by omega,<-h2];simp
theorem At0{i:Nat}(h:i<256):Ap (bY 256) (i:Int)=some (UInt64.ofNat (Rh 8 (i*72057594037927936))):=by
 rw[Bq (by simpa [bY]using h)];simp[bY]
theorem Aor(s:UInt64)(c:UInt8):Ap (bY 256) (GI.toZ (AH (Af (Ck s (GI.toZ (56:UInt64)).toNat):UInt8) c))=some (UInt64.ofNat (Rh 8 (((s.toNat/72057594037927936)^^^c.toNat)*72057594037927936))):=by
 have hs:=s.toNat_lt;have e:GI.toZ (AH (Af (Ck s (GI.toZ (56:UInt64)).toNat):UInt8) c)=(((s.toNat/72057594037927936)^^^c.toNat:Nat):Int):=by
  have e2:((Af (Ck s (GI.toZ (56:UInt64)).toNat):UInt8)).toNat=s.toNat/72057594037927936:=by
   rw[ZQ,Aol,LM]
   show s.toNat/72057594037927936 %256=_;omega
  rw[EZ,Ast,UInt8.toNat_xor,e2]
 rw[e,At0];exact Bgi (n:=8) (by show _<256;omega) (by simpa using c.toNat_lt)
theorem Aju(s:UInt64)(c:UInt8):AH (Dt s (GI.toZ (8:UInt64)).toNat) (UInt64.ofNat (Rh 8 (((s.toNat/72057594037927936)^^^c.toNat)*72057594037927936)))=UInt64.ofNat (pL s.toNat c.toNat):=by
 have hs:=s.toNat_lt;have hc:c.toNat<256:=by simpa using c.toNat_lt
 apply UInt64.toNat_inj.1;have hlt:Rh 8 (((s.toNat/72057594037927936)^^^c.toNat)*72057594037927936)<18446744073709551616:=yO 8 (c56 (Bgi (n:=8) (by show _<256;omega) (by simpa using c.toNat_lt)));have e:(GI.toZ (8:UInt64)).toNat=8:=rfl;rw[e,Ae0,UInt64.toNat_xor,ZG,Ags hlt,Ags (zQ hs hc),Aki hs hc,Ao6 s.toNat]
theorem Abd(b:List UInt8)(s0:UInt64)(hb:b.length<4611686018427387904):∀(j i q:Nat) (s:UInt64),i+j=b.length->j<q->Um b s0 (bY 256) q s (i:Int)=some (UInt64.ofNat (Af0 s.toNat (b.drop i)),0)
 |0,i,q+1,s,hi,_=>by
  rw[Um,IM,Aac (by rw[Ae,Ac];simp;omega),show i=b.length by omega,Bje];simp[XR,XD,ZJ,pP,Af0]
 |j+1,i,q+1,s,hi,hq=>by
  have hlt:i<b.length:=by omega
  have hc:=b[i].toNat_lt;rw[Um,IM,Aau (by rw[Ae,Ac];simp;omega),Bq hlt,Aa,Aor,Aa,Aa,Aju,Ah (by omega) (by omega)];have h:=Abd b s0 hb j (i+1) q (UInt64.ofNat (pL s.toNat b[i].toNat)) (by omega) (by omega);rw[show((i:Int)+1)=((i+1:Nat):Int) by omega,h,drop_cons hlt,Ags (zQ s.toNat_lt (by simpa using hc))];rfl
theorem Ae4(b:List UInt8)(hb:b.length<=100000):eZ b=some (Lg b,0):=by
 have h:=Afl 0 b 256 0 Ax (by omega) (by have:=As;omega);have h2:=Abd b 0 (by omega) b.length 0 Ax 0 (by omega) (by have:=As;omega);have hn:gT 0 b=some (Lg b,0):=by
  rw[gT,dI,Aac (by rw[Aq,Ac];simp;omega),aJ];refine Bhp h ?_;rw[LD,WY,YI];exact h2
 rw[eZ,hn,Aa]
theorem qE(p:List UInt8)(hp:p.length<=64):JP p=some (Ry (Lg p).toNat 8,0):=by
 rw[JP,NY,Aac (by rw[Aq,Ac];simp;omega),Ae4 p (by omega),Aa,Aa];simp only;have h:=XP (Lg p) 8 (by omega) (by omega) (by simpa using(Lg p).toNat_lt);rw[Aac (by rw[Aj];simp)];exact congrArg (λo=>Option.bind o λx:List UInt8×Int=>some (x.1,x.2)) h
theorem fZ(p:List UInt8)(hp:p.length<=64):Mx p=some (Ry (Lg p).toNat 8):=by
 have h:=Adq (Lg p) 8 (by omega);rw[Mx,cC,Amj p (by omega),Aa,Aa];exact congrArg (λo=>Option.bind o λl=>some l) h
def s8(n:Nat):Int32:=Int32.ofInt (if n<128 then(n:Int)else(n:Int)-256)
def cE(d:UInt64)(n:Nat):List Int32:=(List.range n).map λi=>s8 (d.toNat/256^i %256)
theorem gL(d:UInt64)(n:Nat):(cE d n).length=n:=by simp[cE]
theorem Ae9(d:UInt64)(n:Nat):cE d (n+1)=cE d n++[s8 (d.toNat/256^n %256)]:=by simp[cE,List.range_succ]
theorem bm8(z:Nat):(z:Int).bmod Int8.size=if z %256<128 then((z %256:Nat):Int)else((z %256:Nat):Int)-256:=by
 rw[show Int8.size=256 from rfl,Int.bmod_def];split<;>split<;>omega
theorem As4(d:UInt64):∀(j i q:Nat),i+j=8->j<q->OV d q (i:Int) (cE d i++List.replicate (16-i) 0)=some (cE d 8++List.replicate 8 0)
 |0,i,q+1,hi,_=>by
  obtain rfl:i=8:=by omega
  rw[OV,jG,Aac (by rw[Ae];simp)];rfl
 |j+1,i,q+1,hi,hq=>by
  have hlen:(cE d i++List.replicate (16-i) 0).length=16:=by simp[gL];omega
  have ih:=As4 d j (i+1) q (by omega) (by omega);have e8:Bj (8:Int) (i:Int)=((8*i:Nat):Int):=by rw[Fh (by omega) (by omega)];omega
  have ev:(Af (Af (Ck d (GI.toZ (((8*i:Nat):Int))).toNat):Int8):Int32)=s8 (d.toNat/256^i %256):=by
   have e1:(Ck d (GI.toZ (((8*i:Nat):Int))).toNat).toNat=d.toNat/256^i:=by
    rw[show(GI.toZ (((8*i:Nat):Int))).toNat=8*i from rfl,LM,Nat.pow_mul]
   show Int32.ofInt (Int8.ofInt ((Ck d (GI.toZ (((8*i:Nat):Int))).toNat).toNat:Int)).toInt=_;rw[e1,s8,Int8.toInt_ofInt,bm8]
  rw[OV,jG,Aau (by rw[Ae];simp;omega),e8,Bl (by rw[Ea];simp;omega),Aa,ev,Bq (by omega),Aa,Wf _ (by omega),Aa,Ah (by omega) (by omega),show 16-i=(15-i)+1 by omega,Bgj,qJ (gL d i)];rw[Ae9,show 16-(i+1)=15-i by omega,Agd]at ih;exact ih
theorem Ayv(d:UInt64):∀(j i q:Nat) (e:UInt64),i+j=8->j<q->e.toNat=d.toNat/256^i->Mk q e (i:Int) (cE d i++List.replicate (16-i) 0)=some (cE d 8++List.replicate 8 0)
 |0,i,q+1,e,hi,_,he=>by
  obtain rfl:i=8:=by omega
  rw[Mk,FI,Aac (by rw[Ae];simp)];rfl
 |j+1,i,q+1,e,hi,hq,he=>by
  have hlen:(cE d i++List.replicate (16-i) 0).length=16:=by simp[gL];omega
  have hq2:(Bw e (256:UInt64)).toNat=d.toNat/256^(i+1):=by
   rw[uV,Blw,he,Awk,<-Bjt];rfl
  have ih:=Ayv d j (i+1) q (Bw e (256:UInt64)) (by omega) (by omega) hq2;have ev:(Af (GY e (256:UInt64)):Int32)=Int32.ofInt ((d.toNat/256^i %256:Nat):Int):=by
   show Int32.ofInt ((GY e (256:UInt64)).toNat:Int)=_;rw[Ams,UInt64.toNat_mod,he];rfl
  have hz:d.toNat/256^i %256<256:=Bhn _ (by omega);have et:(Int32.ofInt ((d.toNat/256^i %256:Nat):Int)).toInt=((d.toNat/256^i %256:Nat):Int):=by
   rw[Bji,Bl7 (by show -(4294967296/2:Int)<= _;omega) (by show _<(4294967296+1)/2;omega)]
  have hp8:∀x:Int32,x=s8 (d.toNat/256^i %256)->EW (Mk q) e (i:Int) (cE d i++List.replicate (16-i) 0) x=some (cE d 8++List.replicate 8 0):=by
   intro x hx;rw[EW,XC,hx,Bq (by omega),Aa,Wf _ (by omega),Aa,Ah (by omega) (by omega),show 16-i=(15-i)+1 by omega,Bgj,qJ (gL d i)];rw[Ae9,show 16-(i+1)=15-i by omega,Agd]at ih;exact ih
  rw[Mk,FI,Aau (by rw[Ae];simp;omega),ev,Aqt,et,show(127:Int32).toInt=127 from rfl];by_cases h:d.toNat/256^i %256<128
  ·rw[Aac (by simp only[Abk];omega)];exact hp8 _ (by rw[s8,Aau h])
  ·rw[Aau (by simp only[Abk];omega)];refine hp8 _ ?_;rw[s8,Aac h,XY,Int32.ofInt_sub];rfl
def Js(p:List UInt8):List Int32:=cE (Lg p) 8++List.replicate 8 0
theorem Mg(p:List UInt8):(Js p).length=16:=by simp[Js,gL]
theorem gN(p:List UInt8)(hp:p.length<=64):Uf p=some (Js p,0):=by
 have h:=As4 (Lg p) 8 0 Ax (by omega) (by have:=As;omega);have h2:Ajl (Lg p)=some (Js p):=h;rw[Uf,Aac (by rw[Aq,Ac];simp;omega),Ae4 p (by omega),Aa];simp only;rw[Aac (by rw[Aj];simp),h2,Aa]
theorem SM(p:List UInt8)(hp:p.length<=64):Nr p=some (Js p,0):=by
 have h:=Ayv (Lg p) 8 0 Ax (Lg p) (by omega) (by have:=As;omega) (by simp);have h2:kU (Lg p)=some (Js p):=h;rw[Nr,Aac (by rw[Aq,Ac];simp;omega),fV,aT,Aac (by rw[Aq,Ac];simp;omega),Amj p (by omega),Aa,Aa,Aa];simp only;rw[h2,Aa]
def u8(z:Int):UInt8:=UInt8.ofNat (z %256).toNat
theorem Ajg(z:Int):u8 (z %256)=u8 z:=by rw[u8,u8];congr 2;omega
def wB(bits:Int):Nat:=if bits=8 then 1 else if bits=16 then 2 else 3
theorem Ap6{bits:Int}(h:Bk bits):Bw bits 8=(wB bits:Int):=by obtain rfl|rfl|rfl:=h<;>rfl
theorem Aa5(bits:Int):1<=wB bits/\wB bits<=3:=by
 unfold wB;split; · omega
 ·split<;>omega
def OJ(bits:Int)(x:Int):List UInt8:=if bits=8 then [u8 (x+128)]else if bits=16 then [u8 x,u8 (x/256)]else [u8 x,u8 (x/256),u8 (x/65536)]
theorem An7(bits x:Int):(OJ bits x).length<=3:=by
 unfold OJ;split; · simp
 ·split<;>simp
theorem Bas(x:Int32)(k:Nat)(hk:k<=32):(Af (Ck x k):UInt8)=u8 (x.toInt.fdiv (2^k)):=by
 have h:=CG x;have e:Ck x k=Int32.ofInt (x.toInt.fdiv (2^k)):=by
  show Int32.ofInt (x.toInt.fdiv (2^min k 32))=_;rw[Bev hk]
 have hb: -2147483648<=x.toInt.fdiv (2^k)/\x.toInt.fdiv (2^k)<2147483648:=by
  have hpos:(0:Int)<2^k:=Int.pow_pos (by omega);rw[As3 _ (by omega)];constructor
  ·refine(Int.le_ediv_iff_mul_le hpos).2 ?_;have:(1:Int)<=2^k:=by omega
   have h2: -2147483648*(2^k:Int)<= -2147483648*1:=Int.mul_le_mul_of_nonpos_left (by omega) this;omega
  ·refine Int.ediv_lt_of_lt_mul hpos ?_;have:(1:Int)<=2^k:=by omega
   have h2:(2147483648:Int)*1<=2147483648*2^k:=Int.mul_le_mul_of_nonneg_left this (by omega);omega
 show UInt8.ofNat ((Ck x k).toInt %256).toNat=_;rw[e,Bji,Bl7 (by show -(4294967296/2:Int)<= _;omega) (by show _<(4294967296+1)/2;omega)];rfl
section
variable (bk:Int->List UInt8->Option (List UInt8×Int)) (l:List Int32)
theorem Aby{bits:Int}(h:Bk bits)(c:Int32)(x:Int)(i q:Nat)(acc:List UInt8)(hi:i<wB bits)(ha:acc.length<=100000):
  Ld bk bits l c x (q+1) (i:Int) acc=Ld bk bits l c x q ((i+1:Nat):Int) (acc++[u8 (c.toInt.fdiv (2^(8*i)))]):=by
 have hw:=Aa5 bits;have e8:Bj (8:Int) (i:Int)=((8*i:Nat):Int):=by rw[Fh (by omega) (by omega)];omega
 rw[Ld,ED,Ap6 h,Aau (by rw[Ae];simp;omega),e8,Bl (by rw[Ea];simp;omega),Aa,show(GI.toZ (((8*i:Nat):Int))).toNat=8*i from rfl,Bas _ _ (by omega),Bi (by simp;omega),Aa,Ah (by omega) (by omega)];rfl
theorem Ap8{bits:Int}(h:Bk bits)(c:Int32)(x:Int)(q:Nat)(acc:List UInt8):Ld bk bits l c x (q+1) ((wB bits:Nat):Int) acc=bk (Ad x 1) acc:=by
 rw[Ld,ED,Ap6 h,Aac (by rw[Ae];simp),TJ,kZ]
theorem Bgw{bits:Int}(h:Bk bits)(c:Int32)(x:Int)(acc:List UInt8)(ha:acc.length<=90000)(hr: -(hB bits)<=c.toInt/\c.toInt<hB bits):
  Nz bk bits l x acc (if bits=8 then Ad c (128:Int32)else c)=bk (Ad x 1) (acc++OJ bits c.toInt):=by
 have e:Ax=(Ax-4)+1+1+1+1:=by have:=As;omega
 have hc:=CG c;rw[Nz,TP,TV,e];have g0:=λ(c:Int32) q acc ha=>Aby bk l h c x 0 q acc (by have:=Aa5 bits;omega) ha;obtain rfl|rfl|rfl:=h
 ·have hh:hB 8=128:=rfl;rw[hh]at hr;have e1:(Ad c (128:Int32)).toInt=c.toInt+128:=by
   show(Int32.ofInt (c.toInt+(128:Int32).toInt)).toInt=_;rw[show(128:Int32).toInt=128 from rfl,Bji,Bl7 (by show -(4294967296/2:Int)<= _;omega) (by show _<(4294967296+1)/2;omega)]
  have g1:=Ap8 bk l (bits:=8) (.inl rfl) (Ad c (128:Int32)) x (Ax-4+1+1);rw[Aau rfl,show(0:Int)=((0:Nat):Int)from rfl,g0 _ _ _ (by omega)];refine Bhp (g1 _) ?_;rw[e1,OJ,Aau rfl]
  show bk _ (acc++[u8 ((c.toInt+128).fdiv 1)])=_;rw[Int.fdiv_one]
 ·have g1:=λq acc ha=>Aby bk l (bits:=16) (.inr (.inl rfl)) c x 1 q acc (by decide) ha;have g2:=Ap8 bk l (bits:=16) (.inr (.inl rfl)) c x (Ax-4+1);rw[Aac (by decide),show(0:Int)=((0:Nat):Int)from rfl,g0 _ _ _ (by omega),g1 _ _ (by simp;omega)];refine Bhp (g2 _) ?_;rw[OJ,Aac (by decide),Aau rfl,Agd]
  show bk _ (acc++[u8 (c.toInt.fdiv 1),u8 (c.toInt.fdiv 256)])=_;rw[Int.fdiv_one,As3 _ (by omega)]
 ·have g1:=λq acc ha=>Aby bk l (bits:=24) (.inr (.inr rfl)) c x 1 q acc (by decide) ha;have g2:=λq acc ha=>Aby bk l (bits:=24) (.inr (.inr rfl)) c x 2 q acc (by decide) ha;have g3:=Ap8 bk l (bits:=24) (.inr (.inr rfl)) c x (Ax-4);rw[Aac (by decide),show(0:Int)=((0:Nat):Int)from rfl,g0 _ _ _ (by omega),g1 _ _ (by simp;omega),g2 _ _ (by simp;omega)];refine Bhp (g3 _) ?_;rw[OJ,Aac (by decide),Aac (by decide),Agd,Agd]
  show bk _ (acc++[u8 (c.toInt.fdiv 1),u8 (c.toInt.fdiv 256),u8 (c.toInt.fdiv 65536)])=_;rw[Int.fdiv_one,As3 _ (by omega),As3 _ (by omega)]
end
def Dk(bits:Int)(l:List Int32):List UInt8:=l.flatMap λx=>OJ bits x.toInt
theorem FC(bits:Int):∀l:List Int32,(Dk bits l).length<=3*l.length
 |[]=>by simp[Dk]
 |x::l=>by
  have h1:=FC bits l;have h2:=An7 bits x.toInt;simp only[Dk,List.flatMap_cons,Aav,Alj]at*
  omega
def inR(bits:Int)(l:List Int32):Prop:=∀x∈l, -(hB bits)<=x.toInt/\x.toInt<hB bits
theorem Atd{bits:Int}(h:Bk bits)(l:List Int32)(hl:l.length<=4000)(hr:inR bits l):∀(j i q:Nat),i+j=l.length->j<q->Hn bits l q (i:Int) (Dk bits (l.take i))=some (Dk bits l,0)
 |0,i,q+1,hi,_=>by
  rw[Hn,DQ,Aac (by rw[Ae,Ac];simp;omega),Ao5 (by omega)];rfl
 |j+1,i,q+1,hi,hq=>by
  have hlt:i<l.length:=by omega
  have ih:=Atd h l hl hr j (i+1) q (by omega) (by omega);have hlen:=FC bits (l.take i);have hx:=hr l[i] (Ami _);have h1:=Bgw (Hn bits l q) l h l[i] (i:Int) (Dk bits (l.take i)) (by rw[Ag1]at hlen;omega) hx;rw[Hn,DQ,Aau (by rw[Ae,Ac];simp;omega),Bq hlt,Aa];have e:(if(geq bits (8:Int))=true then Nz (Hn bits l q) bits l (i:Int) (Dk bits (l.take i)) (Ad l[i] (128:Int32))else Nz (Hn bits l q) bits l (i:Int) (Dk bits (l.take i)) l[i])=Nz (Hn bits l q) bits l (i:Int) (Dk bits (l.take i)) (if bits=8 then Ad l[i] (128:Int32)else l[i]):=by
   by_cases h8:bits=8
   ·rw[Aau (by rw[Ar];simpa using h8),Aau h8]
   ·rw[Aac (by rw[Ar];simpa using h8),Aac h8]
  rw[e,h1,Ah (by omega) (by omega)];rw[Md hlt]at ih;have e2:Dk bits (l.take i++[l[i]])=Dk bits (l.take i)++OJ bits l[i].toInt:=by unfold Dk;rw[List.flatMap_append,List.flatMap_singleton]
  rw[e2]at ih;exact ih
theorem eX{bits:Int}(h:Bk bits){l:List Int32}(hl:l.length<=4000)(hc:Ay bits l=some 0):inR bits l:=by
 have hh:=PJ bits;have key:∀(j i q:Nat),i+j=l.length->j<q->Az l (hB bits) q (i:Int)=some 0->∀k,i<=k-> (hk:k<l.length)-> -(hB bits)<=l[k].toInt/\l[k].toInt<hB bits:=by
  intro j
  induction j with
  |zero=>intro i q hi hq _ k h1 h2;omega
  |succ j ih=>
   intro i q hi hq hs k h1 h2;obtain⟨q,rfl⟩:∃k,q=k+1:=⟨q-1,by omega⟩;rw[Az,Cu,Aau (by rw[Ae,Ac];simp;omega),Bq (by omega),Aa,Aa,Ge,Akb,Df (by omega) (by omega),Ah (by omega) (by omega),Ae,Ea]at hs;by_cases g1:l[i].toInt<0-hB bits
   ·rw[Aau (by simpa using g1)]at hs;simp at hs
   ·rw[Aac (by simpa using g1)]at hs;by_cases g2:hB bits<=l[i].toInt
    ·rw[Aau (by simpa using g2)]at hs;simp at hs
    ·rw[Aac (by simpa using g2)]at hs;by_cases hk:k=i
     ·subst hk;omega
     ·exact ih (i+1) q (by omega) (by omega) hs k (by omega) h2
 rw[Ay,Dn,ZZ h,Aa,Aac (by rw[Ar];simp;omega),Aac (by rw[Aq,Ac];simp;omega)]at hc;have:=key l.length 0 Ax (by omega) (by have:=As;omega) hc;intro x hx;obtain⟨k,hk,rfl⟩:=List.getElem_of_mem hx;exact this k (by omega) hk
theorem aQ{bits:Int}(h:Bk bits){l:List Int32}(hl:l.length<=4000)(hc:Ay bits l=some 0):Le bits l=some (Dk bits l,0):=by
 have h1:=Atd h l hl (eX h hl hc) l.length 0 Ax (by omega) (by have:=As;omega);rw[Le,YG,aD h l hl,hc,Aa,Aac (by rw[Aj];simp)];exact h1
theorem Bdl{bits:Int}(h:Bk bits)(x:Int32)(hr: -(hB bits)<=x.toInt/\x.toInt<hB bits):OU bits x=some (OJ bits x.toInt):=by
 have hx:=CG x;have gu:∀z:Int,(Af z:UInt8)=u8 z:=λz=>rfl;have hq:∀n:Int,0<=n->n<=20000000->Bw n (256:Int)=n/256/\Bw n (65536:Int)=n/65536:=by
  intro n h1 h2;constructor<;>(rw[TC,Bgx h1,Df (by omega) (by omega)])
 have hm:∀n:Int,0<=n->Gw n (256:Int)=n %256:=λn h1=>by rw[Gw,Bkf h1]
 rw[OU,VM,Ge];obtain rfl|rfl|rfl:=h
 ·rw[Aau (by rw[Ar];rfl),Ah (by omega) (by omega),gu,OJ,Aau rfl]
 ·have hh:hB 16=32768:=rfl;rw[hh]at hr;have hp:∀n:Int,0<=n->n<=70000->u8 n=u8 x.toInt->u8 (n/256)=u8 (x.toInt/256)->On 16 n=some (OJ 16 x.toInt):=by
   intro n h1 h2 h3 h4;rw[On,CQ,Aac (by rw[Ar];decide),hm n h1,(hq n h1 (by omega)).1,hm _ (by omega),gu,gu,Ajg,Ajg,h3,h4,OJ,Aac (by decide),Aau rfl]
  rw[Aac (by rw[Ar];decide)];by_cases hn:x.toInt<0
  ·rw[Aau (by rw[Ae];simpa using hn),ZZ (.inr (.inl rfl)),Aa,hh,Fh (by omega) (by omega),Ah (by omega) (by omega)];refine hp _ (by omega) (by omega) ?_ ?_
   ·rw[u8,u8];congr 2;omega
   ·rw[u8,u8];congr 2;omega
  ·rw[Aac (by rw[Ae];simpa using hn)];exact hp _ (by omega) (by omega) rfl rfl
 ·have hh:hB 24=8388608:=rfl;rw[hh]at hr;have hp:∀n:Int,0<=n->n<=16777215->u8 n=u8 x.toInt->u8 (n/256)=u8 (x.toInt/256)->u8 (n/65536)=u8 (x.toInt/65536)->On 24 n=some (OJ 24 x.toInt):=by
   intro n h1 h2 h3 h4 h5;rw[On,CQ,Aau (by rw[Ar];rfl),hm n h1,(hq n h1 (by omega)).1,(hq n h1 (by omega)).2,hm _ (by omega),gu,gu,gu,Ajg,Ajg,h3,h4,h5,Bi (by simp),Aa,OJ,Aac (by decide),Aac (by decide)];rfl
  rw[Aac (by rw[Ar];decide)];by_cases hn:x.toInt<0
  ·rw[Aau (by rw[Ae];simpa using hn),ZZ (.inr (.inr rfl)),Aa,hh,Fh (by omega) (by omega),Ah (by omega) (by omega)];refine hp _ (by omega) (by omega) ?_ ?_ ?_
   ·rw[u8,u8];congr 2;omega
   ·rw[u8,u8];congr 2;omega
   ·rw[u8,u8];congr 2;omega
  ·rw[Aac (by rw[Ae];simpa using hn)];exact hp _ (by omega) (by omega) rfl rfl rfl
theorem Ash{bits:Int}(h:Bk bits)(l:List Int32)(hl:l.length<=4000)(hr:inR bits l):∀(j i q:Nat),i+j=l.length->j<q->Lu bits l q (i:Int) (Dk bits (l.take i))=some (Dk bits l,0)
 |0,i,q+1,hi,_=>by
  rw[Lu,Yf,Aac (by rw[Ae,Ac];simp;omega),Ao5 (by omega)];rfl
 |j+1,i,q+1,hi,hq=>by
  have hlt:i<l.length:=by omega
  have ih:=Ash h l hl hr j (i+1) q (by omega) (by omega);have hlen:=FC bits (l.take i);have hol:=An7 bits l[i].toInt;rw[Ag1]at hlen;have e2:Dk bits (l.take i++[l[i]])=Dk bits (l.take i)++OJ bits l[i].toInt:=by unfold Dk;rw[List.flatMap_append,List.flatMap_singleton]
  rw[Md hlt,e2]at ih;rw[Lu,Yf,Aau (by rw[Ae,Ac];simp;omega),Bq hlt,Aa,Bdl h _ (hr l[i] (Ami _)),Aa,Bi (by omega),Aa,Ah (by omega) (by omega)];exact ih
theorem OD{bits:Int}(h:Bk bits){l:List Int32}(hl:l.length<=4000)(hc:Ay bits l=some 0):Wj bits l=some (Dk bits l,0):=by
 have h1:=Ash h l hl (eX h hl hc) l.length 0 Ax (by omega) (by have:=As;omega);rw[Wj,ML,hc,Aa,Aac (by rw[Aj];simp)];exact h1
def cT:List UInt8->Nat->Int×Int
 |[],n=>((n:Int),0)
 |c::r,n=>if 128<=c.toNat then(0,12)else cT r (128*n+c.toNat)
theorem Ar6:∀(l:List UInt8) (n k:Nat),n<128^k->0<= (cT l n).1/\ (cT l n).1<((128^(k+l.length):Nat):Int)
 |[],n,k,h=>by simp[cT];exact_mod_cast h
 |c::r,n,k,h=>by
  rw[cT];split
  ·have:0<128^(k+(c::r).length):=Bjl (by omega);exact⟨Int.le_refl _,by simp only;exact_mod_cast this⟩
  ·have:=Ar6 r (128*n+c.toNat) (k+1) (by rw[Awk];omega);rw[Alj,show k+(r.length+1)=k+1+r.length by omega];exact this
theorem or7(n c:Nat)(hn:n<268435456)(hc:c<128):uJ (Dt (n:Int) (GI.toZ (7:UInt64)).toNat) (c:Int)=((128*n+c:Nat):Int):=by
 have e:(GI.toZ (7:UInt64)).toNat=7:=rfl;have h1:Dt (n:Int) 7=((2^7*n:Nat):Int):=by
  have:Dt (n:Int) 7=wrap64 ((n:Int)*2^7):=rfl;rw[this,Df (by omega) (by omega)];omega
 rw[e,h1];have h2:uJ ((2^7*n:Nat):Int) (c:Int)=wrap64 ((BitVec.ofInt 64 ((2^7*n:Nat):Int)|||BitVec.ofInt 64 (c:Int)).toNat:Int):=rfl;rw[h2,BitVec.toNat_or,Bho,Bho];have h3:(((2^7*n:Nat):Int) %((2^64:Nat):Int)).toNat=2^7*n:=by omega
 have h4:((c:Int) %((2^64:Nat):Int)).toNat=c:=by omega
 rw[h3,h4,<-Be2 (by simpa using hc),Df (by omega) (by omega)]
theorem Atc(b:List UInt8)(hb:b.length=4):∀(j i q n:Nat),i+j=4->j<q->n<128^i->Pq b q (n:Int) (i:Int)=some (cT (b.drop i) n)
 |0,i,q+1,n,hi,_,_=>by
  rw[Pq,BE,Aac (by rw[Ae,Ac];simp;omega),show b.drop i=[] by simp;omega];rfl
 |j+1,i,q+1,n,hi,hq,hn=>by
  have hlt:i<b.length:=by omega
  have hn2:n<268435456:=Apb hn (show 128^i<=128^4 from Agq (by omega) (by omega));rw[Pq,BE,Aau (by rw[Ae,Ac];simp;omega),Bq hlt,Aa,drop_cons hlt,cT,Aw0];by_cases hc:128<=b[i].toNat
  ·rw[Aau (by simp;omega),Aau hc]
  ·rw[Aac (by simp;omega),Aac hc,WN,or7 n _ hn2 (by omega),Ah (by omega) (by omega)];exact Atc b hb j (i+1) q _ (by omega) (by omega) (by rw[Awk];omega)
theorem Azz(b:List UInt8)(hb:b.length=4):∀(j i q n:Nat),i+j=4->j<q->n<128^i->Ma b q (n:Int) (i:Int)=some (cT (b.drop i) n)
 |0,i,q+1,n,hi,_,_=>by
  rw[Ma,Xn,Aac (by rw[Ae];simp;omega),show b.drop i=[] by simp;omega];rfl
 |j+1,i,q+1,n,hi,hq,hn=>by
  have hlt:i<b.length:=by omega
  have hn2:n<268435456:=Apb hn (show 128^i<=128^4 from Agq (by omega) (by omega));rw[Ma,Xn,Aau (by rw[Ae];simp;omega),Bq hlt,Aa,drop_cons hlt,cT,Axr];have h128:(128:UInt8).toNat=128:=rfl;by_cases hc:128<=b[i].toNat
  ·rw[Aau (by simpa using hc),Aau hc]
  ·have h3:=b[i].toNat_lt;rw[Aac (by simpa using hc),Aac hc,Aa,WN,Fh (by omega) (by omega),Ah (by omega) (by omega),Ah (by omega) (by omega)];have:=Azz b hb j (i+1) q (128*n+b[i].toNat) (by omega) (by omega) (by rw[Awk];omega);rw[<-this];rfl
theorem Ap9(b:List UInt8)(hb:b.length=4):QB b=some (cT b 0):=by
 have h:=Atc b hb 4 0 Ax 0 (by omega) (by have:=As;omega) (by simp);rw[QB,OO,Aac (by rw[Aj,Ac];simp;omega),NS];exact h
theorem Avu(b:List UInt8)(hb:b.length=4):EX b=some (cT b 0):=by
 have h:=Azz b hb 4 0 Ax 0 (by omega) (by have:=As;omega) (by simp);rw[EX,MP,Aac (by rw[Aj,Ac];simp;omega),MR];exact h
theorem Aqv{b:List UInt8}(hb:b.length=4):0<= (cT b 0).1/\ (cT b 0).1<268435456:=by
 have:=Ar6 b 0 0 (by simp);rw[hb]at this;simpa using this
theorem iU(s p:List UInt8):Oa s p=some (decide (p.length<=s.length/\s.take p.length=p)):=by
 rw[Oa];by_cases h:p.length<=s.length
 ·rw[Aau (by rw[Ea,Ac,Ac];simp;omega),show Ac p=(p.length:Int)from rfl,Dl (by omega) (by omega),Aa,Ig,Aa,Agr];congr 1;rw[Alf];simp[h]
 ·rw[Aac (by rw[Ea,Ac,Ac];simp;omega)];simp[h]
def gB(b:List UInt8)(n:Int):Int×Int:=
 if 4000<n then(0,4)else if(b.length:Int)<n then(0,24)else
 if b.getD 5 0=16/\ (b.take n.toNat).drop (n-10).toNat≠ [51,68,73]++part b 3 7 then(0,12)else(n,0)
def Aa0(b:List UInt8)(r:Int):Int×Int:=gB b (r+10+(if b.getD 5 0=16 then 10 else 0))
def Yq(b:List UInt8):Int×Int:=
 if ¬(3<=b.length/\b.take 3=[73,68,51])then(0,6)else if b.length<10 then(0,24)else
 if(cT (part b 6 4) 0).2≠0\/b.getD 4 0≠0\/ ¬((b.getD 5 0=0/\2<= (b.getD 3 0).toNat/\ (b.getD 3 0).toNat<=4)\/ (b.getD 5 0=16/\b.getD 3 0=4))then(0,12)else
 Aa0 b (cT (part b 6 4) 0).1
theorem tZ{b:List UInt8}{i:Nat}(h:i<b.length):Ap b (i:Int)=some (b.getD i 0):=by
 rw[Bq h];simp[List.getD_eq_getElem?_getD,h]
theorem Sd{b:List UInt8}(a w:Nat)(h:a+w<=b.length):Br b (a:Int) ((a+w:Nat):Int)=some (part b a w):=by
 rw[Uk (by omega) (by omega) (by omega)];rfl
theorem Bcg(b:List UInt8)(r:Int)(h10:10<=b.length)(h0:0<=r)(h1:r<268435456):Zg b r=some (Aa0 b r):=by
 have g5:Ap b (5:Int)=some (b.getD 5 0):=tZ (i:=5) (by omega);have key:∀n:Int,10<=n->n<268435500->Zt b n=some (gB b n):=by
  intro n hn hn2;rw[Zt,SS,gB];by_cases c1:4000<n
  ·rw[Aau (by rw[Aq];simpa using c1),Aau c1]
  ·rw[Aac (by rw[Aq];simpa using c1),Aac c1];by_cases c2:(b.length:Int)<n
   ·rw[Aau (by rw[Ae,Ac];simpa using c2),Aau c2]
   ·have e3:Br b (3:Int) (10:Int)=some (part b 3 7):=Sd 3 7 (by omega);rw[Aac (by rw[Ae,Ac];simpa using c2),Aac c2,g5,Aa];by_cases c3:b.getD 5 0=16
    ·rw[Aau (by rw[hU];simpa using c3),Bu (by omega) (by omega),Uk (by omega) (by omega) (by omega),Aa,e3,Aa,Bi (by rw[Ez (by omega)];simp),Aa];by_cases c4:(b.take n.toNat).drop (n-10).toNat=[51,68,73]++part b 3 7
     ·rw[Aac (by simpa using c4),Aac (by intro h;exact h.2 c4)]
     ·rw[Aau (by simpa using c4),Aau ⟨c3,c4⟩]
    ·rw[Aac (by rw[hU];simpa using c3),Aac (λh=>c3 h.1)]
 rw[Zg,RX,g5,Aa,Aa0];by_cases c3:b.getD 5 0=16
 ·rw[Aau (by rw[hU];simpa using c3),Ah (by rw[Ah]<;>omega) (by rw[Ah]<;>omega),Ah (by omega) (by omega),key _ (by omega) (by omega),Aau c3,show 10+r+10=r+10+10 by omega]
 ·rw[Aac (by rw[hU];simpa using c3),Ah (by omega) (by omega),key _ (by omega) (by omega),Aac c3,show 10+r=r+10+0 by omega]
theorem Bak(b:List UInt8)(hb:b.length<4611686018427387904):JS b=some (Yq b):=by
 rw[JS,QM,Yq];by_cases h3:3<=b.length
 ·rw[Aac (by rw[Ae,Ac];simp;omega),Dl (by omega) (by omega),Aa];by_cases hp:b.take 3=[73,68,51]
  ·rw[Aac (by simpa using hp),Aac (by simp[h3,hp]),SH,SO];by_cases h10:b.length<10
   ·rw[Aau (by rw[Ae,Ac];simp;omega),Aau h10]
   ·have e6:Br b (6:Int) (10:Int)=some (part b 6 4):=Sd 6 4 (by omega);have g3:Ap b (3:Int)=some (b.getD 3 0):=tZ (i:=3) (by omega);have g4:Ap b (4:Int)=some (b.getD 4 0):=tZ (i:=4) (by omega);have g5:Ap b (5:Int)=some (b.getD 5 0):=tZ (i:=5) (by omega);obtain⟨v1,v2⟩:=Aqv (b:=part b 6 4) (Ez (by omega));rw[Aac (by rw[Ae,Ac];simp;omega),Aac h10,e6,Aa,Avu _ (Ez (by omega)),Aa];have ht:=Bcg b (cT (part b 6 4) 0).1 (by omega) v1 v2;generalize cT (part b 6 4) 0=v at*
    obtain⟨v,e⟩:=v;simp only at ht v1 v2⊢;simp only[Aa,g3,g4,g5,ht];generalize b.getD 3 0=x at*
    generalize b.getD 4 0=y at*
    generalize b.getD 5 0=z at*
    simp only[Ark,Bgk,Aw0,Aj];by_cases he:e=0<;>by_cases hy:y=0<;>by_cases hz:z=0<;>by_cases hz2:z=16<;>by_cases hx:x=4<;>by_cases hx2:x.toNat<2<;>by_cases hx4:4<x.toNat<;>simp_all<;>(rw[Aac (by omega),Aac (by omega)])
  ·rw[Aau (by simpa using hp),Aau (by simp[hp])]
 ·rw[Aau (by rw[Ae,Ac];simp;omega),Aau (by simp[h3])]
theorem Ah9(b:List UInt8)(n:Int)(h10:10<=b.length)(hn:10<=n)(hn2:n<268435500):EB b (b.getD 5 0) n=some (gB b n):=by
 rw[EB,lB];by_cases c1:4000<n
 ·rw[Aau (by rw[Aq];simpa using c1),gB,Aau c1]
 ·rw[Aac (by rw[Aq];simpa using c1)];by_cases c2:(b.length:Int)<n
  ·rw[Aau (by rw[Ae,Ac];simpa using c2),gB,Aac c1,Aau c2]
  ·have e3:Br b (3:Int) (10:Int)=some (part b 3 7):=Sd 3 7 (by omega);rw[Aac (by rw[Ae,Ac];simpa using c2)];by_cases c3:b.getD 5 0=16
   ·have hl:((b.take n.toNat).drop (n-10).toNat).length=10:=by simp;omega
    have ht:gB b n=if(b.take n.toNat).drop (n-10).toNat≠ [51,68,73]++part b 3 7 then(0,12)else(n,0):=by rw[gB,Aac c1,Aac c2];simp only[c3,true_and]
    rw[Aau (by rw[hU];simpa using c3),Bu (by omega) (by omega),Uk (by omega) (by omega) (by omega),Aa,ht];generalize(b.take n.toNat).drop (n-10).toNat=f at*
    rw[Dl (by omega) (by omega),Aa,Bs (by omega) (by omega),Aa,e3,Aa,Ig,Aa];have hf:f=f.take 3++f.drop 3:=(Bf0 3 f).symm;by_cases c4:f=[51,68,73]++part b 3 7
    ·subst c4;simp
    ·by_cases c5:f.take 3=[51,68,73]
     ·have:f.drop 3≠part b 3 7:=λh=>c4 (by rw[hf,c5,h]);simp only[Bi1,Apc]at c4;simp[c4,c5,this]
     ·simp only[Bi1,Apc]at c4;simp[c4,c5]
   ·rw[Aac (by rw[hU];simpa using c3),gB,Aac c1,Aac c2,Aac (λh=>c3 h.1)]
theorem Axv(b:List UInt8)(r:Int)(h10:10<=b.length)(h0:0<=r)(h1:r<268435456):DX b r (b.getD 5 0)=some (Aa0 b r):=by
 rw[DX,TG,Aa0];by_cases c3:b.getD 5 0=16
 ·rw[Aau (by rw[hU];simpa using c3),Ah (by rw[Ah]<;>omega) (by rw[Ah]<;>omega),Ah (by omega) (by omega),Ah9 b _ h10 (by omega) (by omega),Aau c3]
 ·rw[Aac (by rw[hU];simpa using c3),Ah (by omega) (by omega),Ah9 b _ h10 (by omega) (by omega),Aac c3];simp
theorem Avf(b:List UInt8)(hb:b.length<4611686018427387904):VV b=some (Yq b):=by
 rw[VV,DS,iU,Aa];by_cases hp:3<=b.length/\b.take 3=[73,68,51]
 ·rw[Aac (by simpa using hp)];by_cases h10:b.length<10
  ·rw[Aau (by rw[Ae,Ac];simp;omega),Yq,Aac (λh=>h hp),Aau h10]
  ·have e6:Br b (6:Int) (10:Int)=some (part b 6 4):=Sd 6 4 (by omega);have g3:Ap b (3:Int)=some (b.getD 3 0):=tZ (i:=3) (by omega);have g4:Ap b (4:Int)=some (b.getD 4 0):=tZ (i:=4) (by omega);have g5:Ap b (5:Int)=some (b.getD 5 0):=tZ (i:=5) (by omega);obtain⟨v1,v2⟩:=Aqv (b:=part b 6 4) (Ez (by omega));have ht:=Axv b (cT (part b 6 4) 0).1 (by omega) v1 v2;rw[Aac (by rw[Ae,Ac];simp;omega),g3,Aa,g5,Aa,TU,UJ,e6,Aa,Ap9 _ (Ez (by omega)),Aa,Yq,Aac (λh=>h hp),Aac h10];generalize cT (part b 6 4) 0=v at*
   obtain⟨v,e⟩:=v;simp only at ht v1 v2⊢;simp only[Aa,g4,UH,TB];generalize b.getD 3 0=x at*
   generalize b.getD 4 0=y at*
   generalize b.getD 5 0=z at*
   simp only[Ark,Bg4,hU,Axr,Aj];have e2:(2:UInt8).toNat=2:=rfl;have e4:(4:UInt8).toNat=4:=rfl;by_cases he:e=0<;>by_cases hy:y=0<;>by_cases hz:z=0<;>by_cases hz2:z=16<;>by_cases hx:x=4<;>by_cases hx2:2<=x.toNat<;>by_cases hx4:x.toNat<=4<;>simp_all
 ·rw[Aau (by rw[Awn,Ba8];exact hp),Yq,Aau hp]
theorem Axz{b:List UInt8}{n:Int}(h:Yq b=(n,0)):10<=n/\n<=b.length/\n<=4000:=by
 unfold Yq at h;split at h; · simp at h
 split at h; · simp at h
 split at h; · simp at h
 rename_i h10 _;obtain⟨v1,v2⟩:=Aqv (b:=part b 6 4) (Ez (by omega));unfold Aa0 at h;generalize hm:(cT (part b 6 4) 0).1+10+(if b.getD 5 0=16 then 10 else 0)=m at h;unfold gB at h;split at h; · simp at h
 split at h; · simp at h
 split at h; · simp at h
 simp only[Agm,Bl9]at h;subst h;refine⟨?_,by omega,by omega⟩;rw[<-hm];split<;>omega
def APE:List UInt8:=[65,80,69,84,65,71,69,88]
def Rb(n m fl:Nat):List UInt8:=APE++Ry 2000 4++Ry (n+32) 4++Ry m 4++Ry fl 4++List.replicate 8 0
theorem bR{n:Nat}(h:n<18446744073709551616):(UInt64.ofNat n).toNat=n:=by rw[Akr,Abl h]
theorem rF(n m:Int)(fl:UInt64)(c:UInt64)(i q:Nat)(acc:List UInt8)(hi:i<6)(hc:Ap ([(2000:UInt64),(Af (Ad n (32:Int)):UInt64),(Af m:UInt64),fl,(0:UInt64),(0:UInt64)]:List UInt64) (i:Int)=some c)(h:c.toNat<4294967296)(ha:acc.length<=1000000):
  FB n m fl (q+1) (i:Int) acc=FB n m fl q ((i+1:Nat):Int) (acc++Ry c.toNat 4):=by
 have hb:=XP c 4 (by omega) (by omega) (by simpa using h);rw[FB,iQ,Aau (by rw[Ae,Ac];simp;omega),hc,Aa,Aa,show((4:Int))=((4:Nat):Int)from rfl,hb,Aa];simp only;rw[Bi (by rw[Ce];omega),Aa,Ah (by omega) (by omega)];rfl
theorem Aej(n m:Nat)(fl:UInt64)(hn:n<=3000)(hm:m<=1000)(hf:fl.toNat<4294967296):qI (n:Int) (m:Int) fl=some (Rb n m fl.toNat):=by
 have e1:(Af (Ad (n:Int) (32:Int)):UInt64).toNat=n+32:=by rw[Ah (by omega) (by omega),show(n:Int)+32=((n+32:Nat):Int) by omega,Xg,bR (by omega)]
 have e2:(Af (m:Int):UInt64).toNat=m:=by rw[Xg,bR (by omega)]
 have hF:Ax=(Ax-7)+1+1+1+1+1+1+1:=by have:=As;omega
 rw[qI,uM,uE,hF];rw[show((0:Int))=((0:Nat):Int)from rfl,rF n m fl 2000 0 _ _ (by omega) rfl (by decide) (by simp),rF n m fl _ 1 _ _ (by omega) rfl (by rw[e1];omega) (by simp[Ce]),rF n m fl _ 2 _ _ (by omega) rfl (by rw[e2];omega) (by simp[Ce]),
  rF n m fl fl 3 _ _ (by omega) rfl hf (by simp[Ce]),rF n m fl 0 4 _ _ (by omega) rfl (by decide) (by simp[Ce]),rF n m fl 0 5 _ _ (by omega) rfl (by decide) (by simp[Ce]),e1,e2]
 rw[FB,iQ,Aac (by rw[Ae,Ac];simp),tM,Ac4,Rb];have z:Ry (0:UInt64).toNat 4++Ry (0:UInt64).toNat 4=List.replicate 8 0:=by decide
 have z2:Ry (2000:UInt64).toNat 4=Ry 2000 4:=rfl;rw[Agd _ (Ry (0:UInt64).toNat 4),z,z2];rfl
theorem vP(n m:Nat)(fl:UInt64)(hn:n<=3000)(hm:m<=1000)(hf:fl.toNat<4294967296):Ul (n:Int) (m:Int) fl=some (Rb n m fl.toNat):=by
 have e1:(Af (Ad (n:Int) (32:Int)):UInt64).toNat=n+32:=by rw[Ah (by omega) (by omega),show(n:Int)+32=((n+32:Nat):Int) by omega,Xg,bR (by omega)]
 have e2:(Af (m:Int):UInt64).toNat=m:=by rw[Xg,bR (by omega)]
 have w:∀c:UInt64,Fq c 4=some (Ry c.toNat 4):=λc=>Adq c 4 (by omega);have z2:Ry (2000:UInt64).toNat 4=Ry 2000 4:=rfl;rw[Ul];simp only[w,e1,e2,Aa];rw[Bi (by simp[Ce]),Aa,Bi (by simp[Ce]),Aa,Bi (by simp[Ce]),Aa,Bi (by simp[Ce]),Aa,rZ (by omega) (by omega),Aa,Bi (by simp[Ce]),Aa,z2];rfl
theorem WT{b:List UInt8}{a w k:Nat}(h:a+w<=k):part (b.take k) a w=part b a w:=by rw[part,part,Bly,Bev h]
def GZ(b:List UInt8):Bool:=decide (Fz (part b 12 4)<32\/3032<Fz (part b 12 4)\/1000<Fz (part b 16 4))
theorem Az0(b:List UInt8)(h:20<=b.length):(((Cv (sV (part b 12 4)) (32:UInt64))||(Eh (sV (part b 12 4)) (3032:UInt64)))||(Eh (sV (part b 16 4)) (1000:UInt64)))=GZ b:=by
 rw[Acd,cG,cG,bP (by rw[Ez (by omega)];omega),bP (by rw[Ez (by omega)];omega),GZ];show((decide (Fz (part b 12 4)<32)||decide (3032<Fz (part b 12 4)))||decide (1000<Fz (part b 16 4)))=_;simp[Bool.or_assoc]
theorem xW(b:List UInt8)(h:20<=b.length)(hb:GZ b=false):Ao (Af (sV (part b 12 4)):Int) (32:Int)=((Fz (part b 12 4)-32:Nat):Int)/\ (Af (sV (part b 16 4)):Int)=((Fz (part b 16 4):Nat):Int)/\Fz (part b 12 4)-32<=3000/\Fz (part b 16 4)<=1000:=by
 simp only[GZ,Ba8]at hb;refine⟨?_,PY (by rw[Ez (by omega)];omega),by omega,by omega⟩;rw[PY (by rw[Ez (by omega)];omega),Bu (by omega) (by omega)];omega
theorem iP(b:List UInt8)(fl:UInt64)(h:20<=b.length)(hl:b.length<4611686018427387904)(hf:fl.toNat<4294967296):
  WO b fl=some (if GZ b=true then(0,0,false)else(((Fz (part b 12 4)-32:Nat):Int),((Fz (part b 16 4):Nat):Int),b==Rb (Fz (part b 12 4)-32) (Fz (part b 16 4)) fl.toNat)):=by
 have a1:dX b 12 4=some (sV (part b 12 4),0):=Ag8 b 12 4 (by omega) (by omega) (by omega) hl;have a2:dX b 16 4=some (sV (part b 16 4),0):=Ag8 b 16 4 (by omega) (by omega) (by omega) hl;rw[WO,a1,Aa];simp only;rw[a2,Aa];simp only;rw[Az0 b h];cases hb:GZ b with
 |true=>rfl
 |false=>
  obtain⟨i1,i2,i3,i4⟩:=xW b h hb;rw[i1,i2,Aej _ _ _ i3 i4 hf];rfl
theorem Al4(b:List UInt8)(h:20<=b.length)(hl:b.length<4611686018427387904):
  Ym b=some (if GZ b=true then(0,0,false)else(((Fz (part b 12 4)-32:Nat):Int),((Fz (part b 16 4):Nat):Int),true)):=by
 have a1:Br b 12 16=some (part b 12 4):=Sd 12 4 (by omega);have a2:Br b 16 20=some (part b 16 4):=Sd 16 4 (by omega);rw[Ym,a1,Aa,An9 _ (by rw[Ez (by omega)];omega),Aa,a2,Aa,An9 _ (by rw[Ez (by omega)];omega),Aa,Az0 b h];cases hb:GZ b with
 |true=>rfl
 |false=>
  obtain⟨i1,i2,i3,i4⟩:=xW b h hb;rw[i1,i2];rfl
def Li(b:List UInt8):Int×Int:=
 if ¬(8<=b.length/\b.take 8=APE)then(0,6)else if b.length<32 then(0,24)else
 if GZ b=true\/b.take 32≠Rb (Fz (part b 12 4)-32) (Fz (part b 16 4)) 2684354560 then(0,12)else
 if b.length<Fz (part b 12 4)+32 then(0,24)else
 if(b.take (Fz (part b 12 4)+32)).drop (Fz (part b 12 4))≠Rb (Fz (part b 12 4)-32) (Fz (part b 16 4)) 2147483648 then(0,12)else(((Fz (part b 12 4)+32:Nat):Int),0)
theorem Aoy(b:List UInt8):GZ (b.take 32)=GZ b:=by rw[GZ,GZ,WT (by omega),WT (by omega)]
section
variable {b:List UInt8}
theorem fa1(h:¬(8<=b.length/\b.take 8=APE)):Li b=(0,6):=by rw[Li,Aau h]
theorem fa2(h:8<=b.length/\b.take 8=APE)(h2:b.length<32):Li b=(0,24):=by rw[Li,Aac (λh'=>h' h),Aau h2]
variable (h:8<=b.length/\b.take 8=APE) (h2:¬b.length<32)
include h h2
theorem fa3(h3:GZ b=true):Li b=(0,12):=by rw[Li,Aac (λh'=>h' h),Aac h2,Aau (.inl h3)]
theorem fa4(h4:b.take 32≠Rb (Fz (part b 12 4)-32) (Fz (part b 16 4)) 2684354560):Li b=(0,12):=by rw[Li,Aac (λh'=>h' h),Aac h2,Aau (.inr h4)]
variable (h3:GZ b=false) (h4:b.take 32=Rb (Fz (part b 12 4)-32) (Fz (part b 16 4)) 2684354560)
include h3 h4
theorem fa5(h5:b.length<Fz (part b 12 4)+32):Li b=(0,24):=by
 rw[Li,Aac (λh'=>h' h),Aac h2,Aac (λh'=>h'.elim (λe=>by rw[h3]at e;cases e) λe=>e h4),Aau h5]
theorem fa6(h5:¬b.length<Fz (part b 12 4)+32)(h6:(b.take (Fz (part b 12 4)+32)).drop (Fz (part b 12 4))≠Rb (Fz (part b 12 4)-32) (Fz (part b 16 4)) 2147483648):Li b=(0,12):=by
 rw[Li,Aac (λh'=>h' h),Aac h2,Aac (λh'=>h'.elim (λe=>by rw[h3]at e;cases e) λe=>e h4),Aac h5,Aau h6]
theorem fa7(h5:¬b.length<Fz (part b 12 4)+32)(h6:(b.take (Fz (part b 12 4)+32)).drop (Fz (part b 12 4))=Rb (Fz (part b 12 4)-32) (Fz (part b 16 4)) 2147483648):Li b=(((Fz (part b 12 4)+32:Nat):Int),0):=by
 rw[Li,Aac (λh'=>h' h),Aac h2,Aac (λh'=>h'.elim (λe=>by rw[h3]at e;cases e) λe=>e h4),Aac h5,Aac (λh'=>h' h6)]
end
theorem Aqx(b:List UInt8)(hl:b.length<4611686018427387904):qF b=some (Li b):=by
 rw[qF,iU,Aa];by_cases hp:8<=b.length/\b.take 8=APE
 ·rw[Aac (by simpa [APE]using hp)];by_cases h32:b.length<32
  ·rw[Aau (by rw[Ae,Ac];simp;omega),fa2 hp h32]
  ·have t:=iP (b.take 32) 2684354560 (by simp;omega) (by simp;omega) (by decide);rw[Aoy,WT (by omega),WT (by omega)]at t;rw[Aac (by rw[Ae,Ac];simp;omega),Dl (by omega) (by omega),Aa,show(32:Int).toNat=32 from rfl,t,Aa];cases hb:GZ b with
   |true=>rw[fa3 hp h32 hb];simp
   |false=>
    obtain⟨i1,i2,i3,i4⟩:=xW b (by omega) hb;have i5:32<=Fz (part b 12 4):=by simp only[GZ,Ba8]at hb;omega
    simp only[Aub,Bj3,false_or];by_cases c1:b.take 32=Rb (Fz (part b 12 4)-32) (Fz (part b 16 4)) 2684354560
    ·have c1':b.take 32=Rb (Fz (part b 12 4)-32) (Fz (part b 16 4)) (2684354560:UInt64).toNat:=c1;rw[Aac (by simpa using c1'),Ah (by omega) (by omega)];have e1:((Fz (part b 12 4)-32:Nat):Int)+64=((Fz (part b 12 4)+32:Nat):Int):=by omega
     rw[e1];by_cases c2:b.length<Fz (part b 12 4)+32
     ·rw[Aau (by rw[Ae,Ac];simp;omega),fa5 hp h32 hb c1 c2]
     ·rw[Aac (by rw[Ae,Ac];simp;omega),Bu (by omega) (by omega),Uk (by omega) (by omega) (by omega),Aa,Aej _ _ _ i3 i4 (by decide),Aa,Ig,Aa];rw[show(((Fz (part b 12 4)+32:Nat):Int)).toNat=Fz (part b 12 4)+32 by omega,show(((Fz (part b 12 4)+32:Nat):Int)-32).toNat=Fz (part b 12 4) by omega];by_cases c3:(b.take (Fz (part b 12 4)+32)).drop (Fz (part b 12 4))=Rb (Fz (part b 12 4)-32) (Fz (part b 16 4)) 2147483648
      ·have c3':(b.take (Fz (part b 12 4)+32)).drop (Fz (part b 12 4))=Rb (Fz (part b 12 4)-32) (Fz (part b 16 4)) (2147483648:UInt64).toNat:=c3;rw[Aac (by simpa using c3'),fa7 hp h32 hb c1 c2 c3]
      ·have c3':¬(b.take (Fz (part b 12 4)+32)).drop (Fz (part b 12 4))=Rb (Fz (part b 12 4)-32) (Fz (part b 16 4)) (2147483648:UInt64).toNat:=c3;rw[Aau (by simpa using c3'),fa6 hp h32 hb c1 c2 c3]
    ·have c1':¬b.take 32=Rb (Fz (part b 12 4)-32) (Fz (part b 16 4)) (2684354560:UInt64).toNat:=c1;rw[Aau (by simpa using c1'),fa4 hp h32 c1]
 ·rw[Aau (by rw[Awn,Ba8];exact hp),fa1 hp]
theorem Avh(b:List UInt8)(hl:b.length<4611686018427387904):EP b=some (Li b):=by
 rw[EP,NB];by_cases h8:8<=b.length
 ·rw[Aac (by rw[Ae,Ac];simp;omega),Dl (by omega) (by omega),Aa,show(8:Int).toNat=8 from rfl];by_cases ha:b.take 8=APE
  ·have hp:=And.intro h8 ha;rw[Aac (by simpa [APE]using ha),MC,ME];by_cases h32:b.length<32
   ·rw[Aau (by rw[Ae,Ac];simp;omega),fa2 hp h32]
   ·have t:=Al4 (b.take 32) (by simp;omega) (by simp;omega);rw[Aoy,WT (by omega),WT (by omega)]at t;rw[Aac (by rw[Ae,Ac];simp;omega),Dl (by omega) (by omega),Aa,show(32:Int).toNat=32 from rfl,t,Aa];cases hb:GZ b with
    |true=>rw[fa3 hp h32 hb];simp
    |false=>
     obtain⟨i1,i2,i3,i4⟩:=xW b (by omega) hb;have i5:32<=Fz (part b 12 4):=by simp only[GZ,Ba8]at hb;omega
     simp only[Aub,Bj3,false_or,Aa,Blf];rw[Yk,vP _ _ _ i3 i4 (by decide),Aa,Aa];by_cases c1:b.take 32=Rb (Fz (part b 12 4)-32) (Fz (part b 16 4)) 2684354560
     ·have c1':b.take 32=Rb (Fz (part b 12 4)-32) (Fz (part b 16 4)) (2684354560:UInt64).toNat:=c1;rw[Aac (by simpa using c1'),MZ,MO,Ah (by omega) (by omega)];have e1:64+((Fz (part b 12 4)-32:Nat):Int)=((Fz (part b 12 4)+32:Nat):Int):=by omega
      rw[e1];by_cases c2:b.length<Fz (part b 12 4)+32
      ·rw[Aau (by rw[Ae,Ac];simp;omega),fa5 hp h32 hb c1 c2]
      ·rw[Aac (by rw[Ae,Ac];simp;omega),Bu (by omega) (by omega),Uk (by omega) (by omega) (by omega),Aa,Nn,Aau rfl,vP _ _ _ i3 i4 (by decide),Aa,Aa];rw[show(((Fz (part b 12 4)+32:Nat):Int)).toNat=Fz (part b 12 4)+32 by omega,show(((Fz (part b 12 4)+32:Nat):Int)-32).toNat=Fz (part b 12 4) by omega];by_cases c3:(b.take (Fz (part b 12 4)+32)).drop (Fz (part b 12 4))=Rb (Fz (part b 12 4)-32) (Fz (part b 16 4)) 2147483648
       ·have c3':(b.take (Fz (part b 12 4)+32)).drop (Fz (part b 12 4))=Rb (Fz (part b 12 4)-32) (Fz (part b 16 4)) (2147483648:UInt64).toNat:=c3;rw[Aac (by simpa using c3'),fa7 hp h32 hb c1 c2 c3]
       ·have c3':¬(b.take (Fz (part b 12 4)+32)).drop (Fz (part b 12 4))=Rb (Fz (part b 12 4)-32) (Fz (part b 16 4)) (2147483648:UInt64).toNat:=c3;rw[Aau (by simpa using c3'),fa6 hp h32 hb c1 c2 c3]
     ·have c1':¬b.take 32=Rb (Fz (part b 12 4)-32) (Fz (part b 16 4)) (2684354560:UInt64).toNat:=c1;rw[Aau (by simpa using c1'),fa4 hp h32 c1]
  ·rw[Aau (by simpa [APE]using ha),fa1 (λh=>ha h.2)]
 ·rw[Aau (by rw[Ae,Ac];simp;omega),fa1 (λh=>h8 h.1)]
theorem Avq{b:List UInt8}{n:Int}(h:Li b=(n,0)):64<=n/\n<=b.length:=by
 unfold Li at h;split at h; · simp at h
 split at h; · simp at h
 split at h; · simp at h
 rename_i hb;split at h; · simp at h
 split at h; · simp at h
 simp only[Agm,Bl9]at h;have hb':¬GZ b=true:=λe=>hb (.inl e);simp only[GZ,Abk]at hb';omega
def Db(b:List UInt8):Int×Int:=if(Yq b).2≠6 then Yq b else Li b
theorem size_eq(b:List UInt8)(hl:b.length<4611686018427387904):AM b=some (Db b):=by
 rw[AM,Avf b hl,Aa,Aqx b hl];by_cases h:(Yq b).2=6
 ·simp[Db,h,Aj]
 ·simp[Db,h,Aj]
theorem oJ{b:List UInt8}{n:Int}(h:Db b=(n,0)):10<=n/\n<=b.length:=by
 unfold Db at h;split at h
 ·have:=Axz h;omega
 ·have:=Avq h;omega
def Cp(b:List UInt8):Nat->Nat->List Int×Int
 |0,_=>([],6)
 |j+1,p=>if(Db (b.drop p)).2=6 then([],0)else if(Db (b.drop p)).2≠0 then([],(Db (b.drop p)).2)else
  if 4000<(p:Int)+(Db (b.drop p)).1 then([],4)else
  if(Cp b j (p+(Db (b.drop p)).1.toNat)).2=0 then((Db (b.drop p)).1::(Cp b j (p+(Db (b.drop p)).1.toNat)).1,0)else([],(Cp b j (p+(Db (b.drop p)).1.toNat)).2)
theorem rH(b:List UInt8):∀(j p:Nat),p<=b.length->p<=4000-> (Cp b j p).2=0-> (∀x∈(Cp b j p).1,10<=x)/\ (p:Int)+(Cp b j p).1.sum<=b.length/\ (p:Int)+(Cp b j p).1.sum<=4000
 |0,p,_,_,h=>by simp[Cp]at h
 |j+1,p,hp,hq,h=>by
  rw[Cp]at h⊢;split at h
  ·rename_i h6;rw[Aau h6];simp;omega
  ·rename_i h6;split at h
   ·rename_i h0;exact absurd h h0
   ·rename_i h0;rw[Aac h6,Aac h0];have hz:Db (b.drop p)=((Db (b.drop p)).1,0):=by rw[Prod.ext_iff];exact⟨rfl,Classical.not_not.1 h0⟩
    have hs:=oJ hz;rw[Ajb]at hs;split at h
    ·simp at h
    ·rename_i h4;rw[Aac h4];split at h
     ·rename_i h00;rw[Aau h00];obtain⟨i1,i2,i3⟩:=rH b j _ (by omega) (by omega) h00;refine⟨λx hx=>?_,?_,?_⟩
      ·rcases List.mem_cons.1 hx with rfl|hx
       ·exact hs.1
       ·exact i1 x hx
      ·simp only[Bdp];omega
      ·simp only[Bdp];omega
     ·rename_i h00;exact absurd h h00
def Aea(b:List UInt8)(j p:Nat):Int×Int:=if(Cp b j p).2=0 then((p:Int)+(Cp b j p).1.sum,0)else(0,(Cp b j p).2)
theorem Adt(b:List UInt8)(hl:b.length<4611686018427387904):∀(j p q:Nat),p<=b.length->p<=4000->b.length-p<j->j<=q->Xh b q (p:Int)=some (Aea b j p)
 |0,p,q,_,_,h,_=>by omega
 |j+1,p,q,hp,hp4,hj,hq=>by
  obtain⟨q,rfl⟩:∃k,q=k+1:=⟨q-1,by omega⟩;rw[Xh,Bs (by omega) (by omega),Aa,Agr,size_eq _ (by simp;omega),Aa,Ar,Ar,Aj,Aea];by_cases h6:(Db (b.drop p)).2=6
  ·rw[Aau (by simpa using h6)];have:Cp b (j+1) p=([],0):=by rw[Cp,Aau h6]
   rw[this];simp
  ·rw[Aac (by simpa using h6)];by_cases h0:(Db (b.drop p)).2=0
   ·have hz:Db (b.drop p)=((Db (b.drop p)).1,0):=by rw[Prod.ext_iff];exact⟨rfl,h0⟩
    have hs:=oJ hz;rw[Ajb]at hs;rw[Ah (by omega) (by omega),Aq];by_cases h4:4000<(p:Int)+(Db (b.drop p)).1
    ·rw[Aau (by simp[h0];omega)];have:Cp b (j+1) p=([],4):=by rw[Cp,Aac h6,Aac (λh=>h h0),Aau h4]
     rw[this];simp
    ·rw[Aac (by simp[h0];omega),Aac (by simpa using h0)];have ih:=Adt b hl j (p+(Db (b.drop p)).1.toNat) q (by omega) (by omega) (by omega) (by omega);rw[show(p:Int)+(Db (b.drop p)).1=((p+(Db (b.drop p)).1.toNat:Nat):Int) by omega,ih,Aea];have:Cp b (j+1) p=if(Cp b j (p+(Db (b.drop p)).1.toNat)).2=0 then((Db (b.drop p)).1::(Cp b j (p+(Db (b.drop p)).1.toNat)).1,0)else([],(Cp b j (p+(Db (b.drop p)).1.toNat)).2):=by
      rw[Cp,Aac h6,Aac (λh=>h h0),Aac h4]
     rw[this];by_cases hr:(Cp b j (p+(Db (b.drop p)).1.toNat)).2=0
     ·simp only[hr,Bmc,Bdp];congr 2;omega
     ·simp only[hr,Bj3]
   ·rw[Aac (by simp[h0]),Aau (by simpa using h0)];have:Cp b (j+1) p=([],(Db (b.drop p)).2):=by rw[Cp,Aac h6,Aau h0]
    rw[this];simp[h0]
def Ax4(b:List UInt8)(j p:Nat)(xs:List Int):List Int×Int:=if(Cp b j p).2=0 then(xs++(Cp b j p).1,0)else([],(Cp b j p).2)
theorem Aw6(bk:Int->List Int->Option (List Int×Int))(b:List UInt8)(p:Nat)(hp:p<=b.length)(xs:List Int)(hx:xs.length<=4000)(hl:b.length<4611686018427387904):Xq (Qo bk b) b (p:Int) xs=Qo bk b (p:Int) xs (Db (b.drop p)).1 (Db (b.drop p)).2:=by
 have hf:=Avh (b.drop p) (by simp;omega);rw[Xq,Bs (by omega) (by omega),Aa,Agr,Bak _ (by simp;omega),Aa];by_cases h:(Yq (b.drop p)).2=6
 ·simp[Db,h,Ar,hf]
 ·simp[Db,h,Ar]
theorem Ahp(b:List UInt8)(hl:b.length<4611686018427387904):∀(j p q:Nat) (xs:List Int),p<=b.length->p<=4000->b.length-p<j->j<=q->xs.length<=p->Qu b q (p:Int) xs=some (Ax4 b j p xs)
 |0,p,q,_,_,_,h,_,_=>by omega
 |j+1,p,q,xs,hp,hp4,hj,hq,hx=>by
  obtain⟨q,rfl⟩:∃k,q=k+1:=⟨q-1,by omega⟩;rw[Qu,Aw6 _ b p hp xs (by omega) hl,Qo,MK,Ar,Aj,Ax4];by_cases h6:(Db (b.drop p)).2=6
  ·rw[Aau (by simpa using h6)];have:Cp b (j+1) p=([],0):=by rw[Cp,Aau h6]
   rw[this];simp
  ·rw[Aac (by simpa using h6)];by_cases h0:(Db (b.drop p)).2=0
   ·have hz:Db (b.drop p)=((Db (b.drop p)).1,0):=by rw[Prod.ext_iff];exact⟨rfl,h0⟩
    have hs:=oJ hz;rw[Ajb]at hs;rw[Aac (by simpa using h0),Ah (by omega) (by omega),Aq];by_cases h4:4000<(p:Int)+(Db (b.drop p)).1
    ·rw[Aau (by simp;omega)];have:Cp b (j+1) p=([],4):=by rw[Cp,Aac h6,Aac (λh=>h h0),Aau h4]
     rw[this];simp
    ·rw[Aac (by simp;omega),Bi (by simp;omega),Aa];have ih:=Ahp b hl j (p+(Db (b.drop p)).1.toNat) q (xs++[(Db (b.drop p)).1]) (by omega) (by omega) (by omega) (by omega) (by simp;omega);rw[show(p:Int)+(Db (b.drop p)).1=((p+(Db (b.drop p)).1.toNat:Nat):Int) by omega,ih,Ax4];have:Cp b (j+1) p=if(Cp b j (p+(Db (b.drop p)).1.toNat)).2=0 then((Db (b.drop p)).1::(Cp b j (p+(Db (b.drop p)).1.toNat)).1,0)else([],(Cp b j (p+(Db (b.drop p)).1.toNat)).2):=by
      rw[Cp,Aac h6,Aac (λh=>h h0),Aac h4]
     rw[this];by_cases hr:(Cp b j (p+(Db (b.drop p)).1.toNat)).2=0
     ·simp only[hr,Bmc];simp
     ·simp only[hr,Bj3]
   ·rw[Aau (by simpa using h0)];have:Cp b (j+1) p=([],(Db (b.drop p)).2):=by rw[Cp,Aac h6,Aau h0]
    rw[this];simp[h0]
theorem Ab6:∀{l:List Int},(∀x∈l,10<=x)->0<=l.sum/\ (l.length:Int)<=l.sum
 |[],_=>by simp
 |x::l,h=>by
  have h1:=h x Awp;have h2:=Ab6 (l:=l) λy hy=>h y (Aoh _ hy);simp only[Bdp,Alj];omega
theorem Afg(r:Int)(l:List Int)(hl:l.length<=4000)(hx:∀x∈l,10<=x):∀(j i q:Nat) (n:Int),i+j=l.length->j<q->0<=n->n+(l.drop i).sum<=4000->Lt r l q n (i:Int)=some (n+(l.drop i).sum,r)
 |0,i,q+1,n,hi,_,_,_=>by
  rw[Lt,Xs,Aac (by rw[Ae,Ac];simp;omega),show i=l.length by omega,Bje];simp[MW,MF]
 |j+1,i,q+1,n,hi,hq,hn,hs=>by
  have hlt:i<l.length:=by omega
  rw[drop_cons hlt,Bdp]at hs⊢;have h1:=hx l[i] (Ami hlt);have h2:=Ab6 (l:=l.drop (i+1)) λy hy=>hx y (Bjr hy);rw[Lt,Xs,Aau (by rw[Ae,Ac];simp;omega),Bq hlt,Aa,Aa,Ah (by omega) (by omega),Ah (by omega) (by omega)];have ih:=Afg r l hl hx j (i+1) q (n+l[i]) (by omega) (by omega) (by omega) (by omega);rw[show((i:Int)+1)=((i+1:Nat):Int) by omega,ih];congr 2;omega
def Bm(b:List UInt8):Int×Int:=Aea b (b.length+1) 0
theorem Io(b:List UInt8)(hl:b.length<4611686018427387904):If b=some (Bm b):=by
 have:=Adt b hl (b.length+1) 0 Ax (by omega) (by omega) (by omega) (by have:=As;omega);exact this
theorem BC(b:List UInt8)(hl:b.length<4611686018427387904):Me b=some (Bm b):=by
 have h:=Ahp b hl (b.length+1) 0 Ax [] (by omega) (by omega) (by omega) (by have:=As;omega) (by simp);have h':YJ b=some (Ax4 b (b.length+1) 0 []):=h;rw[Me,NH,h',Aa,Bm,Aea,Ax4];have ho:=rH b (b.length+1) 0 (by omega) (by omega);by_cases h0:(Cp b (b.length+1) 0).2=0
 ·obtain⟨i1,i2,i3⟩:=ho h0;have hp:=Ab6 i1;simp only[h0,Bmc,Apc];have:=Afg 0 (Cp b (b.length+1) 0).1 (by omega) i1 (Cp b (b.length+1) 0).1.length 0 Ax 0 (by omega) (by have:=As;omega) (by omega) (by simpa using i3);simpa [Xm]using this
 ·simp only[h0,Bj3];have:=Afg (Cp b (b.length+1) 0).2 [] (by simp) (by simp) 0 0 Ax 0 (by simp) (by have:=As;omega) (by omega) (by simp);simpa [Xm]using this
theorem BN{b:List UInt8}(h:(Bm b).2=0):0<= (Bm b).1/\ (Bm b).1<=b.length/\ (Bm b).1<=4000:=by
 unfold Bm Aea at h⊢;split at h
 ·rename_i h0;rw[Aau h0];obtain⟨i1,i2,i3⟩:=rH b (b.length+1) 0 (by omega) (by omega) h0;have hp:=Ab6 i1;exact⟨by simp;omega,i2,i3⟩
 ·rename_i h0;exact absurd h h0
def Ak(r:Nat):Nat:=max 1 (256*r/245)
theorem Ex(r:Nat):1<=Ak r:=Nat.le_max_left _ _
theorem YR{r:Nat}(h:r<=1048576):Ak r<=1100000:=by unfold Ak;omega
theorem Acf{r:Nat}(h:r<=1048576):rO (1:Int) (Bw (Bj (256:Int) (r:Int)) (245:Int))=(Ak r:Int):=by
 rw[Fh (by omega) (by omega),TC,Bgx (by omega),Df (by omega) (by omega),Akx,Ak];omega
def Al(g n:Nat):List Int:=List.replicate ((n-1)/g) (g:Int)++[((n-(n-1)/g*g:Nat):Int)]
theorem SW(g n:Nat):(Al g n).length=(n-1)/g+1:=by simp[Al]
theorem sQ{g n:Nat}(h:n<=g)(h1:1<=n):Al g n=[(n:Int)]:=by
 rw[Al,Bhr (by omega)];simp
theorem Aah{g n:Nat}(hg:1<=g)(h:g<n):Al g n=(g:Int)::Al g (n-g):=by
 have e:(n-1)/g=(n-g-1)/g+1:=by rw[<-Nat.add_div_right _ (by omega)];congr 1;omega
 rw[Al,Al,e,Bgj,Bi1];congr 4;have:=Be7 (n-g-1) g;rw[Alg,Bex];omega
theorem xJ{g n:Nat}(hg:1<=g)(h1:1<=n):(n+g-1)/g=(n-1)/g+1:=by
 rw[<-Nat.add_div_right _ (by omega)];congr 1;omega
theorem qL{r:Nat}(h1:1<=r)(h:r<=1048576):Ot (r:Int)=some ((Ak r:Int),0):=by
 rw[Ot,Aac (by simp[Ae,Aq];omega),Acf h]
theorem Bai{r:Nat}(h:r<=1048576):Yt (r:Int)=some (Ak r:Int):=by rw[Yt,Acf h]
theorem jB{r n:Nat}(h1:1<=r)(h:r<=1048576)(n1:1<=n)(n2:n<=4000):Jw (r:Int) (n:Int)=some (if 1000<(n-1)/Ak r+1 then(0,4)else((((n-1)/Ak r+1:Nat):Int),0)):=by
 have hp:=Ex r;have hl:=YR h;have e:Bw (Ao (Ad (n:Int) (Ak r:Int)) (1:Int)) (Ak r:Int)=(((n-1)/Ak r+1:Nat):Int):=by
  have:(n+Ak r-1)/Ak r<=n+Ak r-1:=Arh _ _;rw[Ah (by omega) (by omega),Bu (by omega) (by omega),TC,Bgx (by omega),show(n:Int)+(Ak r:Int)-1=((n+Ak r-1:Nat):Int) by omega,<-Int.natCast_ediv,xJ hp n1];rw[xJ hp n1]at this;generalize(n-1)/Ak r=k at*
  exact Df (by omega) (by omega)
 rw[Jw,qL h1 h,Aa];simp only;rw[Aac (by rw[Aj];simp),Aac (by simp[Ae,Aq];omega),Bl (by rw[Aj];simp;omega),Aa,e];by_cases hk:1000<(n-1)/Ak r+1
 ·rw[Aau (by rw[Aq];simp;omega),Aau hk]
 ·rw[Aac (by rw[Aq];simp;omega),Aac hk]
theorem Ac9{r:Nat}(h:r<=1048576):∀(j n q:Nat) (acc:List Int),n<=4000->n<=j->j<q->acc.length+n<=10000->Gh (r:Int) q (n:Int) acc=some (acc++(if n=0 then []else Al (Ak r) n))
 |0,n,q+1,acc,hn,hj,hq,ha=>by
  obtain rfl:n=0:=by omega
  rw[Gh,Lw,Aac (by rw[Aq];simp)];simp[Qr,Qs]
 |j+1,n,q+1,acc,hn,hj,hq,ha=>by
  have hp:=Ex r;have hl:=YR h;by_cases h0:n=0
  ·subst h0;rw[Gh,Lw,Aac (by rw[Aq];simp)];simp[Qr,Qs]
  ·rw[Gh,Lw,Aau (by rw[Aq];simp;omega),Bai h,Aa,Bi (by simp;omega),Aa,Aa,Bu (by omega) (by omega),OY];by_cases hs:n<=Ak r
   ·rw[show min (n:Int) (Ak r:Int)=(n:Int) by omega,Aac h0,sQ hs (by omega)];have hz:∃k,q=k+1:=⟨q-1,by omega⟩;obtain⟨q,rfl⟩:=hz;rw[Gh,Lw,Aac (by rw[Aq];simp;omega)];simp[Qr,Qs]
   ·rw[show min (n:Int) (Ak r:Int)=(Ak r:Int) by omega,show(n:Int)-(Ak r:Int)=((n-Ak r:Nat):Int) by omega,Ac9 h j (n-Ak r) q _ (by omega) (by omega) (by omega) (by simp;omega),Aac (by omega),Aac h0,Aah hp (show Ak r<n by omega)];simp
theorem gP{r n:Nat}(h:r<=1048576)(n1:1<=n)(n2:n<=4000):Fw (r:Int) (n:Int)=some (Al (Ak r) n):=by
 have:=Ac9 h n n Ax [] n2 (Am4 _) (by have:=As;omega) (by simp;omega);rw[Fw,ND,NC,this,Aac (by omega)];rfl
theorem mul_one(m:Nat)(h:m<=100000):PN (1:UInt64) (UInt64.ofNat m)=some (0,UInt64.ofNat m):=by
 have y1:(UInt64.ofNat m).toNat=m:=bR (by omega);have s1:Ck (1:UInt64) (GI.toZ (32:UInt64)).toNat=0:=by decide
 have s2:Ck (UInt64.ofNat m) (GI.toZ (32:UInt64)).toNat=0:=by
  apply UInt64.toNat_inj.1;rw[LM,y1];exact Bhr (Bh4 h (by decide))
 have s0:Ck (0:UInt64) (GI.toZ (32:UInt64)).toNat=0:=by decide
 have a1:Fe (1:UInt64) (4294967295:UInt64)=1:=by decide
 have a0:Fe (0:UInt64) (4294967295:UInt64)=0:=by decide
 have a2:Fe (UInt64.ofNat m) (4294967295:UInt64)=UInt64.ofNat m:=by
  apply UInt64.toNat_inj.1;rw[Adw,UInt64.toNat_and,y1]
  show m&&& (2^32-1)=m;rw[Bjs,Abl (by omega)]
 have m1:∀x:UInt64,Bj 1 x=x:=λx=>by rw[QW,UInt64.one_mul]
 have m0:∀x:UInt64,Bj 0 x=0:=λx=>by rw[QW,UInt64.zero_mul]
 have p0:∀x:UInt64,Ad 0 x=x:=λx=>by rw[QN,UInt64.zero_add]
 have p1:∀x:UInt64,Ad x 0=x:=λx=>by rw[QN,UInt64.add_zero]
 rw[PN,UC];simp only[s1,s2,a1,a2,m1,m0,p0,p1,s0,a0,Aa]
theorem Aaj(v:Int)(m:Nat)(hm:m<=100000):∀(j n q:Nat),1<=n->n<=m->m-n<=j->j<q->Gb q (n:Int) (List.replicate n v++List.replicate (m-n) 0)=some (List.replicate m v)
 |j,n,q+1,hn,hnm,hj,hq=>by
  have hlen:Ac (List.replicate n v++List.replicate (m-n) 0)=(m:Int):=by simp[Ac];omega
  rw[Gb,Ik,hlen];by_cases h:n<m
  ·obtain⟨j,rfl⟩:∃k,j=k+1:=⟨j-1,by omega⟩;rw[Aau (by rw[Ae];simp;omega)];have v1:fN (m:Int) (n:Int) (m:Int)=some ():=by rw[fN,Bl];simp;omega
   have v2:fN (m:Int) (0:Int) (n:Int)=some ():=by rw[fN,Bl];simp;omega
   have e1:XT (List.replicate n v++List.replicate (m-n) 0) (0:Int) ((n:Int)-0)=List.replicate n v:=by
    simp[XT]
   rw[v1,Aa,v2,Aa,e1];have e2:ZB ((m:Int)-(n:Int)) (List.replicate n v).length=((min n (m-n):Nat):Int):=by
    rw[ZB,Apd];split<;>omega
   have e3:Xy (List.replicate n v++List.replicate (m-n) 0) (n:Int) ((m:Int)-(n:Int)) (List.replicate n v)=List.replicate (n+min n (m-n)) v++List.replicate (m-(n+min n (m-n))) 0:=by
    have t1:((m:Int)-(n:Int)).toNat=m-n:=by omega
    have t2:(List.replicate n v++List.replicate (m-n) (0:Int)).take n=List.replicate n v:=by simp
    rw[Xy,t1,Agr,t2,List.take_replicate,Apd,<-Agd,List.replicate_append_replicate,List.drop_append,Apd,Nat.min_comm (m-n) n];simp only[List.drop_replicate];rw[show n-(n+min n (m-n))=0 by omega,List.replicate_zero,Apc,show m-n-(n+min n (m-n)-n)=m-(n+min n (m-n)) by omega]
   rw[e2,e3,Ah (by omega) (by omega),show(n:Int)+((min n (m-n):Nat):Int)=((n+min n (m-n):Nat):Int) by omega];exact Aaj v m hm j (n+min n (m-n)) q (by omega) (by omega) (by omega) (by omega)
  ·rw[Aac (by rw[Ae];simp;omega)];obtain rfl:n=m:=by omega
   simp[Lk,Rl]
theorem Avd(v:Int)(m:Nat)(hm:m<=100000):Qx [v] (m:Int)=some (List.replicate m v):=by
 have y1:(UInt64.ofNat m).toNat=m:=bR (by omega);have c1:(Af (Ac [v]):UInt64)=1:=by rfl
 have c2:(Af (m:Int):UInt64)=UInt64.ofNat m:=Xg m;have c3:(Af (UInt64.ofNat m):Int)=(m:Int):=by rw[zI (by omega),y1]
 rw[Qx,Tk,Aac (by rw[Ae];simp),Tc,Sr,c1,c2,mul_one m hm,Aa];simp only;rw[Aac (by rw[cG,cG,y1];simp;show m<=9223372036854775807;omega),Te,Sy,c3,rZ (by omega) (by omega),Aa,Bl (by rw[Ar];simp),Aa,Th,Agr];by_cases h0:m=0
 ·subst h0;have hF:Ax=(Ax-1)+1:=by have:=As;omega
  rw[hF,Gb,Ik];simp[Ac,UQ,ZB,Ae,Lk,Rl]
 ·have:=Aaj v m hm m 1 Ax (by omega) (by omega) (by omega) (by have:=As;omega);have e1:ZB (Ac (List.replicate m (0:Int))) [v].length=((1:Nat):Int):=by simp[ZB,Ac];omega
  have e2:UQ (List.replicate m (0:Int)) [v]=List.replicate 1 v++List.replicate (m-1) 0:=by
   obtain⟨k,rfl⟩:∃k,m=k+1:=⟨m-1,by omega⟩;simp[UQ]
  rw[e1,e2,this]
theorem Auz(l m:List Int)(h:l.length+m.length<=1000000):Qw [l,m]=some (l++m):=by
 have hF:Ax=(Ax-3)+1+1+1:=by have:=As;omega
 rw[Qw,Sp,Tg];have g0:Ap [l,m] (0:Int)=some l:=rfl;have g1:Ap [l,m] (1:Int)=some m:=rfl;have l2:Ac [l,m]=2:=rfl;have h3:Ll [l,m] []=some (l++m):=by
  rw[Ll,Ra,Rf,hF,Fs,Hu,l2,Aau (by decide),g0,Aa,Bi (by simp;omega),Aa,Apc,show Ad (0:Int) 1=1 by decide,
   Fs,Hu,l2,Aau (by decide),g1,Aa,Bi (by omega),Aa,show Ad (1:Int) 1=2 by decide,Fs,Hu,l2,Aac (by decide)]
  rfl
 rw[hF,Gd,Ir,l2,Aau (by decide),g0,Aa,Ah (by unfold Ac;omega) (by unfold Ac;omega),Aac (by rw[Ae,Ac];simp),show Ad (0:Int) 1=1 by decide,
  Gd,Ir,l2,Aau (by decide),g1,Aa,Ah (by unfold Ac;omega) (by unfold Ac;omega),Aac (by rw[Ae,Ac,Ac];simp;omega),show Ad (1:Int) 1=2 by decide,
  Gd,Ir,l2,Aac (by decide),Rc,Re,Aac (by rw[Ae,Ac,Ac];simp;omega),Ri,Rg]
 have z:Ao (0:Int) 0=0:=by decide
 have n0:(0:Int)+Ac l+Ac m=((l.length+m.length:Nat):Int):=by simp[Ac]
 rw[z,n0,Bu (by omega) (by omega),Int.sub_zero];by_cases hp:0<l.length+m.length
 ·rw[Aau (by rw[Aq];simp;omega),show fN (0:Int) 0 0=some ()from rfl,Aa,rZ (by omega) (by omega),Aa,Bi (by simp;omega),Aa];rw[show fN (Ac ([]++List.replicate ((l.length+m.length:Nat):Int).toNat (0:Int))) 0 0=some () by rw[fN,Bl];simp[Ac];omega,Aa];simp only[XT,Int.sub_self,Blz,Bgs];exact h3
 ·rw[Aac (by rw[Aq];simp;omega)];exact h3
theorem Azt{r n:Nat}(h1:1<=r)(h:r<=1048576)(n1:1<=n)(n2:n<=4000)(hk:(n-1)/Ak r+1<=1000):bL (r:Int) (n:Int)=some (Al (Ak r) n,0):=by
 have hp:=Ex r;have hl:=YR h;have hd:=Be7 (n-1) (Ak r);rw[bL,jB h1 h n1 n2,Aac (by omega),Aa];simp only;rw[Aac (by rw[Aj];simp),qL h1 h,Aa];simp only;rw[Al];generalize(n-1)/Ak r=k at*
 have e1:Ao ((k+1:Nat):Int) 1=(k:Int):=by rw[Bu (by omega) (by omega)];omega
 have e2:(k:Int)*(Ak r:Int)=((k*Ak r:Nat):Int):=by simp
 rw[e1,Avd _ _ (by omega),Aa,Fh (by rw[e2];omega) (by rw[e2];omega),e2,Bu (by omega) (by omega),YH,Auz _ _ (by simp;omega),Aa,Aa,show(n:Int)-((k*Ak r:Nat):Int)=((n-k*Ak r:Nat):Int) by omega]
def Fi(f c w r n:Nat):Bool:=decide ((f=1\/f=2)/\ (1<=c/\c<=6)/\ (w=8\/w=16\/w=24)/\ (1<=r/\r<=1048576)/\1<=n)
def Wq(c r n:Nat):Bool:=decide (n<=4000/c/\ (n-1)/Ak r+1<=1000)
theorem aY(f c w r n:Nat):So (f:Int) (c:Int) (w:Int) (r:Int) (n:Int)=some (Fi f c w r n):=by
 have e2:Po (f:Int) (c:Int) (w:Int) (r:Int) (n:Int)=some (decide ((f=1\/f=2)/\ (1<=c/\c<=6)/\ (1<=r/\r<=1048576)/\1<=n)):=by
  rw[Po,PH];congr 1;rw[Alf];simp only[Ar,Aq,US,Abt,Ba0,Atu,Abk];omega
 have g:∀k:Nat,geq (w:Int) (k:Int)=decide (w=k):=λk=>by rw[Ar,Alf];simp;omega
 have g8:geq (w:Int) (8:Int)=decide (w=8):=g 8;have g16:geq (w:Int) (16:Int)=decide (w=16):=g 16;have g24:geq (w:Int) (24:Int)=decide (w=24):=g 24;rw[So,BF,e2,g8,g16,g24,Fi];by_cases h8:w=8
 ·subst h8;simp
 ·by_cases h16:w=16
  ·subst h16;simp
  ·by_cases h24:w=24
   ·subst h24;simp
   ·simp[h8,h16,h24]
theorem tT(f c w r n:Nat):Ky (f:Int) (c:Int) (w:Int) (r:Int) (n:Int)=some (Fi f c w r n):=by
 rw[Ky,Fi];simp only[Ar,Ea,US,Abt,Ba0,Atu,Abk,Blg];split
 ·rename_i h;congr 1;rw[Alf];simp only[Abt,Ba0,Atu,Abk];omega
 ·rename_i h;congr 1;symm;rw[Ba8];omega
theorem Ber{c:Nat}(h:1<=c):Bw (4000:Int) (c:Int)=((4000/c:Nat):Int):=by
 have:4000/c<=4000:=Arh _ _;rw[TC,Bgx (by omega),show(4000:Int)=((4000:Nat):Int)from rfl,<-Int.natCast_ediv];generalize 4000/c=k at*
 exact Df (by omega) (by omega)
theorem qP{f c w r n:Nat}(h:Fi f c w r n=true):RC (f:Int) (c:Int) (w:Int) (r:Int) (n:Int)=some (Wq c r n):=by
 simp only[Fi,Abk]at h;have hd:4000/c<=4000:=Arh _ _;rw[RC,Bl (by rw[Aj];simp;omega),Aa,Ber (by omega),Wq];generalize 4000/c=m at*
 by_cases h1:n<=m
 ·rw[Aac (by rw[Aq];simp;omega),jB (by omega) (by omega) (by omega) (by omega),Aa];generalize(n-1)/Ak r+1=k;by_cases h2:1000<k
  ·rw[Aau h2];simp[Ar,US];omega
  ·rw[Aac h2];simp[Ar,US,h1];omega
 ·rw[Aau (by rw[Aq];simp;omega)];simp[h1]
theorem Aeu{f c w r n:Nat}(h:Fi f c w r n=true):Yz (f:Int) (c:Int) (w:Int) (r:Int) (n:Int)=some (!Wq c r n):=by
 simp only[Fi,Abk]at h;have hd:4000/c<=4000:=Arh _ _;rw[Yz,Bl (by rw[Aj];simp;omega),Aa,Ber (by omega),Wq];generalize 4000/c=m at*
 by_cases h1:n<=m
 ·rw[Aac (by rw[Aq];simp;omega),gP (by omega) (by omega) (by omega),Aa,Ac,SW];generalize(n-1)/Ak r+1=k;congr 1;rw[Aq,Alf];simp only[Abk,Awn,Ba8];omega
 ·rw[Aau (by rw[Aq];simp;omega)];simp[h1]
def Ph:List UInt8:=[84,84,65,49]
def f0(b:List UInt8):Nat:=Fz (part b 4 2)
def f1(b:List UInt8):Nat:=Fz (part b 6 2)
def f2(b:List UInt8):Nat:=Fz (part b 8 2)
def f3(b:List UInt8):Nat:=Fz (part b 10 4)
def f4(b:List UInt8):Nat:=Fz (part b 14 4)
abbrev H6:=Int×Int×Int×Int×Int×Int
def Ej(b:List UInt8):H6:=
 if b.take (min 4 b.length)≠Ph.take (min 4 b.length)then(0,0,0,0,0,12)else if b.length<22 then(0,0,0,0,0,24)else
 if(En (b.take 18)).toNat≠Fz (part b 18 4)then(0,0,0,0,0,22)else
 if Fi (f0 b) (f1 b) (f2 b) (f3 b) (f4 b)=false then(0,0,0,0,0,12)else
 if Wq (f1 b) (f3 b) (f4 b)=false then(0,0,0,0,0,4)else((f0 b:Int),(f1 b:Int),(f2 b:Int),(f3 b:Int),(f4 b:Int),0)
section
variable {b:List UInt8}
theorem rs1(h:b.take (min 4 b.length)≠Ph.take (min 4 b.length)):Ej b=(0,0,0,0,0,12):=by rw[Ej,Aau h]
variable (h:b.take (min 4 b.length)=Ph.take (min 4 b.length))
include h
theorem rs2(h2:b.length<22):Ej b=(0,0,0,0,0,24):=by rw[Ej,Aac (λe=>e h),Aau h2]
variable (h2:¬b.length<22)
include h2
theorem rs3(h3:(En (b.take 18)).toNat≠Fz (part b 18 4)):Ej b=(0,0,0,0,0,22):=by rw[Ej,Aac (λe=>e h),Aac h2,Aau h3]
variable (h3:(En (b.take 18)).toNat=Fz (part b 18 4))
include h3
theorem rs4(h4:Fi (f0 b) (f1 b) (f2 b) (f3 b) (f4 b)=false):Ej b=(0,0,0,0,0,12):=by rw[Ej,Aac (λe=>e h),Aac h2,Aac (λe=>e h3),Aau h4]
variable (h4:Fi (f0 b) (f1 b) (f2 b) (f3 b) (f4 b)=true)
include h4
theorem rs5(h5:Wq (f1 b) (f3 b) (f4 b)=false):Ej b=(0,0,0,0,0,4):=by rw[Ej,Aac (λe=>e h),Aac h2,Aac (λe=>e h3),Aac (by rw[h4];simp),Aau h5]
theorem rs6(h5:Wq (f1 b) (f3 b) (f4 b)=true):Ej b=((f0 b:Int),(f1 b:Int),(f2 b:Int),(f3 b:Int),(f4 b:Int),0):=by rw[Ej,Aac (λe=>e h),Aac h2,Aac (λe=>e h3),Aac (by rw[h4];simp),Aac (by rw[h5];simp)]
end
theorem Azs(b:List UInt8)(h2:¬b.length<22):Bc (Af (En (b.take 18)):UInt64) (sV (part b 18 4))=decide ((En (b.take 18)).toNat≠Fz (part b 18 4)):=by
 rw[HJ,Dx,Alf];simp only[Blo,ne_eq,Abk];rw[<-Bla,bR (by have:=(En (b.take 18)).toNat_lt;omega),bP (by rw[Ez (by omega)];omega)]
theorem mO(b:List UInt8)(a w:Nat)(i q:Nat)(l:List Int)(hi:i<5)(hl:l.length=5)(hw:Ap ([2,2,2,4,4]:List Int) (i:Int)=some (w:Int))(h1:1<=w)(h4:w<=4)(ha:a+w<=b.length)(hb:b.length<4611686018427387904):
  Qk b (q+1) (a:Int) (i:Int) l=Qk b q ((a+w:Nat):Int) ((i+1:Nat):Int) (l.set i (Fz (part b a w):Int)):=by
 rw[Qk,HK,Aau (by rw[Ae];simp;omega),hw,Aa,Ag8 b a w h1 (by omega) ha hb,Aa];simp only;rw[Bq (by omega),Aa,Wf _ (by omega),Aa,PY (by rw[Ez ha];omega),Ah (by omega) (by omega),Ah (by omega) (by omega)];rfl
theorem Awx(b:List UInt8)(h22:¬b.length<22)(hb:b.length<4611686018427387904):JK b 4 0 (List.replicate 5 0)=JA [(f0 b:Int),(f1 b:Int),(f2 b:Int),(f3 b:Int),(f4 b:Int)]:=by
 have hF:Ax=(Ax-6)+1+1+1+1+1+1:=by have:=As;omega
 rw[JK,hF,show(4:Int)=((4:Nat):Int)from rfl,show(0:Int)=((0:Nat):Int)from rfl];rw[mO b 4 2 0 _ _ (by omega) (by simp) rfl (by omega) (by omega) (by omega) hb,mO b 6 2 1 _ _ (by omega) (by simp) rfl (by omega) (by omega) (by omega) hb,mO b 8 2 2 _ _ (by omega) (by simp) rfl (by omega) (by omega) (by omega) hb,
  mO b 10 4 3 _ _ (by omega) (by simp) rfl (by omega) (by omega) (by omega) hb,mO b 14 4 4 _ _ (by omega) (by simp) rfl (by omega) (by omega) (by omega) hb,Qk,HK,Aac (by rw[Ae];simp)]
 rfl
theorem Bj7(b:List UInt8):Kg [84,84,65,49] (b.take (min 4 b.length))=some (decide (b.take (min 4 b.length)=Ph.take (min 4 b.length))):=by
 have hl:(b.take (min 4 b.length)).length=min 4 b.length:=by rw[Ag1];omega
 rw[Kg,Hp,Aau (by rw[Ea,Ac,Ac,hl];simp;omega),Ac,hl,Dl (by omega) (by simp;omega),Aa,Aa,Agr];congr 1;rw[Alf];rw[Abk,Atu];exact eq_comm
theorem Bh9(b:List UInt8):Fo (4:Int) (Ac b)=((min 4 b.length:Nat):Int):=by rw[OY,Ac];omega
theorem Xd(b:List UInt8)(hb:b.length<4611686018427387904):Lh b=some (Ej b):=by
 rw[Lh,ZN,Bh9,Dl (by omega) (by omega),Aa,Agr,Bj7,Aa];by_cases h:b.take (min 4 b.length)=Ph.take (min 4 b.length)
 ·rw[Aac (by simpa using h)];by_cases h2:b.length<22
  ·rw[Aau (by rw[Ae,Ac];simp;omega),rs2 h h2]
  ·have a1:dX b 18 4=some (sV (part b 18 4),0):=Ag8 b 18 4 (by omega) (by omega) (by omega) hb;rw[Aac (by rw[Ae,Ac];simp;omega),a1,Aa];simp only;rw[Dl (by omega) (by omega),Aa,show(18:Int).toNat=18 from rfl,xV _ (by simp;omega),Aa];simp only;rw[Azs b h2];by_cases h3:(En (b.take 18)).toNat=Fz (part b 18 4)
   ·rw[Aac (by simpa using h3),Awx b h2 hb,JA,mS];rw[show Ap [(f0 b:Int),(f1 b:Int),(f2 b:Int),(f3 b:Int),(f4 b:Int)] 0=some (f0 b:Int)from rfl,show Ap [(f0 b:Int),(f1 b:Int),(f2 b:Int),(f3 b:Int),(f4 b:Int)] 1=some (f1 b:Int)from rfl,show Ap [(f0 b:Int),(f1 b:Int),(f2 b:Int),(f3 b:Int),(f4 b:Int)] 2=some (f2 b:Int)from rfl,
     show Ap [(f0 b:Int),(f1 b:Int),(f2 b:Int),(f3 b:Int),(f4 b:Int)] 3=some (f3 b:Int)from rfl,show Ap [(f0 b:Int),(f1 b:Int),(f2 b:Int),(f3 b:Int),(f4 b:Int)] 4=some (f4 b:Int)from rfl]
    simp only[Aa,aY];cases h4:Fi (f0 b) (f1 b) (f2 b) (f3 b) (f4 b)with
    |false=>rw[rs4 h h2 h3 h4];rfl
    |true=>
     rw[qP h4,Aac (by simp),Aa];cases h5:Wq (f1 b) (f3 b) (f4 b)with
     |false=>rw[rs5 h h2 h3 h4 h5];rfl
     |true=>rw[rs6 h h2 h3 h4 h5];rfl
   ·rw[Aau (by simpa using h3),rs3 h h2 h3]
 ·rw[Aau (by simpa using h),rs1 h]
theorem fJ(b:List UInt8)(hb:b.length<4611686018427387904):Nq b=some (Ej b):=by
 rw[Nq,SU,Bh9,Dl (by omega) (by omega),Aa,Agr,Dl (by omega) (by simp;omega),Aa,Agr];by_cases h:b.take (min 4 b.length)=Ph.take (min 4 b.length)
 ·rw[Aac (by rw[h];simp[Ph]),RR,QX];by_cases h2:b.length<22
  ·rw[Aau (by rw[Ae,Ac];simp;omega),rs2 h h2]
  ·have a1:Br b 18 22=some (part b 18 4):=Sd 18 4 (by omega);have c1:Br b 4 6=some (part b 4 2):=Sd 4 2 (by omega);have c2:Br b 6 8=some (part b 6 2):=Sd 6 2 (by omega);have c3:Br b 8 10=some (part b 8 2):=Sd 8 2 (by omega);have c4:Br b 10 14=some (part b 10 4):=Sd 10 4 (by omega);have c5:Br b 14 18=some (part b 14 4):=Sd 14 4 (by omega);have hs:Bc (sV (part b 18 4)) (Af (En (b.take 18)):UInt64)=decide ((En (b.take 18)).toNat≠Fz (part b 18 4)):=by
    rw[<-Azs b h2,HJ,HJ,Alf];simp only[Blo,ne_eq];exact not_congr eq_comm
   have lp:∀a w,a+w<=b.length->El (part b a w)=some (sV (part b a w)):=λa w h=>An9 _ (by rw[Ez h];omega);rw[Aac (by rw[Ae,Ac];simp;omega),a1,Aa,Dl (by omega) (by omega),Aa,show(18:Int).toNat=18 from rfl,lp _ _ (by omega),Aa,Ay9 _ (by simp;omega),Aa,hs];by_cases h3:(En (b.take 18)).toNat=Fz (part b 18 4)
   ·rw[Aac (by simpa using h3),QT,SX,c1,Aa,c2,Aa,c3,Aa,c4,Aa,c5,Aa,lp _ _ (by omega),Aa,lp _ _ (by omega),Aa,lp _ _ (by omega),Aa,lp _ _ (by omega),Aa,lp _ _ (by omega),Aa,
     QI,QR,PY (by rw[Ez (by omega)];omega),PY (by rw[Ez (by omega)];omega),PY (by rw[Ez (by omega)];omega),PY (by rw[Ez (by omega)];omega),PY (by rw[Ez (by omega)];omega)]
    rw[show Fz (part b 4 2)=f0 b from rfl,show Fz (part b 6 2)=f1 b from rfl,show Fz (part b 8 2)=f2 b from rfl,show Fz (part b 10 4)=f3 b from rfl,show Fz (part b 14 4)=f4 b from rfl,tT,Aa];cases h4:Fi (f0 b) (f1 b) (f2 b) (f3 b) (f4 b)with
    |false=>rw[rs4 h h2 h3 h4];rfl
    |true=>
     rw[Aeu h4,Aac (by simp),Aa];cases h5:Wq (f1 b) (f3 b) (f4 b)with
     |false=>rw[rs5 h h2 h3 h4 h5];rfl
     |true=>rw[rs6 h h2 h3 h4 h5];rfl
   ·rw[Aau (by simpa using h3),rs3 h h2 h3]
 ·rw[Aau (by simpa [Ph]using h),rs1 h]
theorem pR{b:List UInt8}(h:(Ej b).2.2.2.2.2=0):Ej b=((f0 b:Int),(f1 b:Int),(f2 b:Int),(f3 b:Int),(f4 b:Int),0)/\22<=b.length/\Fi (f0 b) (f1 b) (f2 b) (f3 b) (f4 b)=true/\Wq (f1 b) (f3 b) (f4 b)=true:=by
 unfold Ej at h⊢;split at h; · simp at h
 rename_i c1;rw[Aac c1];split at h; · simp at h
 rename_i c2;rw[Aac c2];split at h; · simp at h
 rename_i c3;rw[Aac c3];split at h; · simp at h
 rename_i c4;rw[Aac c4];split at h; · simp at h
 rename_i c5;rw[Aac c5];exact⟨rfl,by omega,by simpa using c4,by simpa using c5⟩
theorem pG{f c w r n:Nat}(h:Fi f c w r n=true)(h2:Wq c r n=true):Dw (f:Int) (c:Int) (w:Int) (r:Int) (n:Int)=some (Al (Ak r) n,0):=by
 have hc:Pd (f:Int) (c:Int) (w:Int) (r:Int) (n:Int)=some 0:=by
  rw[Pd,aY,Aa,h,Aac (by simp),qP h,Aa,h2];rfl
 have hd:4000/c<=4000:=Arh _ _;simp only[Fi,Abk]at h;simp only[Wq,Abk]at h2;rw[Dw,hc,Aa,Aac (by rw[Aj];simp),Azt (by omega) (by omega) (by omega) (by omega) h2.2];rfl
def okL:List Int->Int->Bool
 |[],_=>true
 |x::l,left=>decide (5<=x/\x<=left)&&okL l (left-x)
theorem Aqu:∀l:List Int,(∀x∈l,5<=x)->0<=l.sum
 |[],_=>by simp
 |x::l,h=>by
  have h1:=h x Awp;have h2:=Aqu l λy hy=>h y (Aoh _ hy);rw[Bdp];omega
theorem DO:∀(l:List Int) (left:Int),0<=left-> (okL l left=true↔(∀x∈l,5<=x)/\l.sum<=left)
 |[],left,h=>by simp[okL];exact h
 |x::l,left,h=>by
  rw[okL,Abt,Abk,Bdp];by_cases hx:5<=x/\x<=left
  ·rw[DO l (left-x) (by omega)];constructor
   ·rintro⟨_,h1,h2⟩;exact⟨λy hy=>(List.mem_cons.1 hy).elim (λe=>e▸hx.1) (h1 y),by omega⟩
   ·rintro⟨h1,h2⟩;exact⟨hx,λy hy=>h1 y (Aoh _ hy),by omega⟩
  ·constructor
   ·rintro⟨h1,_⟩;exact absurd h1 hx
   ·rintro⟨h1,h2⟩;have h3:=h1 x Awp;have:0<=l.sum:=Aqu l λy hy=>h1 y (Aoh _ hy);omega
theorem Aft(l:List Int)(hl:l.length<=1000):∀(j i q:Nat) (left:Int),i+j=l.length->j<q->0<=left->left<=100000->Uj l q left (i:Int)=some (if okL (l.drop i) left=true then 0 else 8)
 |0,i,q+1,left,hi,_,_,_=>by
  rw[Uj,LW,Aac (by rw[Ae,Ac];simp;omega),show i=l.length by omega,Bje];rfl
 |j+1,i,q+1,left,hi,hq,h0,h1=>by
  have hlt:i<l.length:=by omega
  rw[Uj,LW,Aau (by rw[Ae,Ac];simp;omega),Bq hlt,Aa,drop_cons hlt];by_cases h:5<=l[i]/\l[i]<=left
  ·rw[Aac (by simp[Ae,Aq];omega),Bu (by omega) (by omega),Ah (by omega) (by omega)];have ih:=Aft l hl j (i+1) q (left-l[i]) (by omega) (by omega) (by omega) (by omega);rw[show((i:Int)+1)=((i+1:Nat):Int) by omega,ih];simp[okL,h]
  ·rw[Aau (by simp[Ae,Aq];omega)];have:okL (l[i]::l.drop (i+1)) left=false:=by rw[okL,Bfl h];rfl
   rw[this];rfl
def Vb(l:List Int):Bool:=decide (1<=l.length/\l.length<=1000)&&okL l 100000
theorem Ajj(l:List Int)(hl:l.length<=1000):Sk l=some (if Vb l=true then 0 else 8):=by
 rw[Sk,LG,Vb];by_cases h:1<=l.length
 ·rw[Aac (by rw[Ar,Aq,Ac];simp;constructor;(intro e;subst e;simp at h);omega),ZS];have:=Aft l hl l.length 0 Ax 100000 (by omega) (by have:=As;omega) (by omega) (by omega);rw[Bl0]at this;rw[Bhq (show 1<=l.length/\l.length<=1000 from⟨h,hl⟩),Bjv];exact this
 ·have:l=[]:=by
   cases l with
   |nil=>rfl
   |cons _ _=>simp at h
  subst this;rfl
theorem Aiy(l:List Int)(hl:l.length<=1000):∀(j i q:Nat) (s:Int),i+j=l.length->j<q->0<=s->s<=100000*(i:Int)->Mb l q s (i:Int)=some (if(∀x∈l.drop i,5<=x/\x<=100000)/\s+(l.drop i).sum<=100000 then 0 else 8)
 |0,i,q+1,s,hi,_,_,_=>by
  rw[Mb,Xz,Aac (by rw[Ae,Ac];simp;omega),show i=l.length by omega,Bje,KL,HV];by_cases h:s<=100000
  ·rw[Aac (by rw[Aq];simp;omega),Aau (by simp;omega)]
  ·rw[Aau (by rw[Aq];simp;omega),Aac (by simp;omega)]
 |j+1,i,q+1,s,hi,hq,h0,h1=>by
  have hlt:i<l.length:=by omega
  rw[Mb,Xz,Aau (by rw[Ae,Ac];simp;omega),Bq hlt,Aa,drop_cons hlt];by_cases h5:l[i]<5
  ·rw[Aau (by rw[Ae];simpa using h5),Aac (λh=>by have:=(h.1 l[i] Awp).1;omega)]
  ·rw[Aac (by rw[Ae];simpa using h5),Aa];by_cases h6:100000<l[i]
   ·rw[Aau (by rw[Aq];simpa using h6),Aac (λh=>by have:=(h.1 l[i] Awp).2;omega)]
   ·rw[Aac (by rw[Aq];simpa using h6),MN,NF,Bq hlt,Aa,Ah (by omega) (by omega),Ah (by omega) (by omega)];have ih:=Aiy l hl j (i+1) q (s+l[i]) (by omega) (by omega) (by omega) (by omega);rw[show((i:Int)+1)=((i+1:Nat):Int) by omega,ih];have e:((∀x∈l.drop (i+1),5<=x/\x<=100000)/\s+l[i]+(l.drop (i+1)).sum<=100000)↔((∀x∈l[i]::l.drop (i+1),5<=x/\x<=100000)/\s+(l[i]::l.drop (i+1)).sum<=100000):=by
     rw[Bdp,List.forall_mem_cons,Blt];constructor
     ·rintro⟨a,b⟩;exact⟨⟨by omega,a⟩,b⟩
     ·rintro⟨⟨_,a⟩,b⟩;exact⟨a,b⟩
    simp only[e]
theorem yP:∀{l:List Int},(∀x∈l,5<=x)->∀x∈l,x<=l.sum
 |[],_,x,hx=>by simp at hx
 |y::l,h,x,hx=>by
  have h1:=h y Awp;have h2:=Aqu l λz hz=>h z (Aoh _ hz);rw[Bdp];rcases List.mem_cons.1 hx with rfl|hx
  ·omega
  ·have:=yP (l:=l) (λz hz=>h z (Aoh _ hz)) x hx;omega
theorem Am7(l:List Int)(hl:l.length<=1000):Iw l=some (if Vb l=true then 0 else 8):=by
 rw[Iw,Xt,Vb];by_cases h:1<=l.length
 ·have:=Aiy l hl l.length 0 Ax 0 (by omega) (by have:=As;omega) (by omega) (by omega);rw[Aac (by rw[Ae,Aq,Ac];simp;omega),MT];refine Bhp this ?_;rw[Bl0,Bhq (show 1<=l.length/\l.length<=1000 from⟨h,hl⟩),Bjv];have e:((∀x∈l,5<=x/\x<=100000)/\0+l.sum<=100000)↔okL l 100000=true:=by
   rw[DO l 100000 (by omega),Int.zero_add];constructor
   ·rintro⟨a,b⟩;exact⟨λx hx=>(a x hx).1,b⟩
   ·rintro⟨a,b⟩;exact⟨λx hx=>⟨a x hx,Int.le_trans (yP a x hx) b⟩,b⟩
  simp only[e]
 ·have:l=[]:=by
   cases l with
   |nil=>rfl
   |cons _ _=>simp at h
  subst this;rfl
theorem ZP(l:List Int):Sk l=some (if Vb l=true then 0 else 8):=by
 by_cases hl:l.length<=1000
 ·exact Ajj l hl
 ·rw[Sk,LG,Aau (by rw[Aq,Ac];simp;omega),Vb,Bfl (by omega)];rfl
theorem cU(l:List Int):Iw l=some (if Vb l=true then 0 else 8):=by
 by_cases hl:l.length<=1000
 ·exact Am7 l hl
 ·rw[Iw,Xt,Aau (by rw[Aq,Ac];simp;omega),Vb,Bfl (by omega)];rfl
theorem Api(l:List Int)(hl:l.length<=1000)(hx:∀x∈l,0<=x/\x<4294967296):Sk l=some (if Vb l=true then 0 else 8):=ZP l
theorem Auh(l:List Int)(hl:l.length<=1000)(hx:∀x∈l,0<=x/\x<4294967296):Iw l=some (if Vb l=true then 0 else 8):=cU l
def RU(b:List UInt8)(n:Nat):List Int:=(List.range n).map λi=>(Fz (part b (4*i) 4):Int)
theorem Va(b:List UInt8)(n:Nat):(RU b n).length=n:=by simp[RU]
theorem Air(b:List UInt8)(n:Nat):RU b (n+1)=RU b n++[(Fz (part b (4*n) 4):Int)]:=by simp[RU,List.range_succ]
theorem Ats(b:List UInt8)(n:Nat)(h:4*n<=b.length):∀x∈RU b n,0<=x/\x<4294967296:=by
 intro x hx;simp only[RU,List.mem_map,List.mem_range]at hx;obtain⟨i,hi,rfl⟩:=hx;have:=As6 (l:=part b (4*i) 4) (by rw[Ez (by omega)];omega);omega
def Ek(b:List UInt8)(n:Nat):List Int×Int:=
 if ¬(1<=n/\n<=1000)then([],2)else if b.length<4*n+4 then([],24)else if(En (b.take (4*n))).toNat≠Fz (part b (4*n) 4)then([],22)else
 if Vb (RU b n)=true then(RU b n,0)else([],12)
theorem Atl{b:List UInt8}{n:Nat}(h:1<=n/\n<=1000)(h2:¬b.length<4*n+4):Bc (Af (En (b.take (4*n))):UInt64) (sV (part b (4*n) 4))=decide ((En (b.take (4*n))).toNat≠Fz (part b (4*n) 4)):=by
 rw[HJ,Dx,Alf];simp only[Blo,ne_eq,Abk];rw[<-Bla,bR (by have:=(En (b.take (4*n))).toNat_lt;omega),bP (by rw[Ez (by omega)];omega)]
section
variable {b:List UInt8} {n:Nat}
theorem ss1(h:¬(1<=n/\n<=1000)):Ek b n=([],2):=by rw[Ek,Aau h]
variable (h:1<=n/\n<=1000)
include h
theorem ss2(h2:b.length<4*n+4):Ek b n=([],24):=by rw[Ek,Aac (λe=>e h),Aau h2]
variable (h2:¬b.length<4*n+4)
include h2
theorem ss3(h3:(En (b.take (4*n))).toNat≠Fz (part b (4*n) 4)):Ek b n=([],22):=by rw[Ek,Aac (λe=>e h),Aac h2,Aau h3]
theorem ss4(h3:(En (b.take (4*n))).toNat=Fz (part b (4*n) 4)):Ek b n=if Vb (RU b n)=true then(RU b n,0)else([],12):=by rw[Ek,Aac (λe=>e h),Aac h2,Aac (λe=>e h3)]
end
theorem Ain(b:List UInt8)(l8:List Int)(n:Nat)(hn:n<=1000)(h8:l8.length=n)(hb:4*n+4<=b.length)(hb2:b.length<4611686018427387904):∀(j i q:Nat),i+j=n->j<q->Xe b l8 q (i:Int) (RU b i++List.replicate j 0)=PK (RU b n)
 |0,i,q+1,hi,_=>by
  obtain rfl:i=n:=by omega
  rw[Xe,QD,Aac (by rw[Ae,Ac];simp;omega)];simp
 |j+1,i,q+1,hi,hq=>by
  have hlen:(RU b i++List.replicate (j+1) 0).length=i+(j+1):=by simp[Va]
  have ha:=Ag8 b (4*i) 4 (by omega) (by omega) (by omega) hb2;rw[Xe,QD,Aau (by rw[Ae,Ac];simp;omega),Fh (by omega) (by omega),show(4:Int)*(i:Int)=((4*i:Nat):Int) by omega,show(4:Int)=((4:Nat):Int)from rfl,ha,Aa];simp only;rw[Bq (by rw[hlen];omega),Aa,Wf _ (by rw[hlen];omega),Aa,PY (by rw[Ez (by omega)];omega),Ah (by omega) (by omega),Bgj,qJ (Va _ _)];have ih:=Ain b l8 n hn h8 hb hb2 j (i+1) q (by omega) (by omega);rw[Air]at ih;rw[show((i:Int)+1)=((i+1:Nat):Int) by omega,<-ih];simp
theorem rI(b:List UInt8)(n:Nat)(hb:b.length<=100100):FG b (n:Int)=some (Ek b n):=by
 rw[FG,cM];by_cases h:1<=n/\n<=1000
 ·rw[Aac (by simp[Ae,Aq];omega),Fh (by omega) (by omega),Ah (by omega) (by omega)];by_cases h2:b.length<4*n+4
  ·rw[Aau (by rw[Ae,Ac];simp;omega),ss2 h h2]
  ·have ha:dX b (4*(n:Int)) 4=some (sV (part b (4*n) 4),0):=by
    rw[show(4:Int)*(n:Int)=((4*n:Nat):Int) by omega];exact Ag8 b (4*n) 4 (by omega) (by omega) (by omega) (by omega)
   rw[Aac (by rw[Ae,Ac];simp;omega),ha,Aa];simp only;rw[Dl (by omega) (by omega),Aa,show(4*(n:Int)).toNat=4*n by omega,xV _ (by simp;omega),Aa];simp only;rw[Atl h h2];by_cases h3:(En (b.take (4*n))).toNat=Fz (part b (4*n) 4)
   ·have hlp:=Ain b (List.replicate n 0) n (by omega) (by simp) (by omega) (by omega) n 0 Ax (by omega) (by have:=As;omega);rw[Aac (by simpa using h3),rZ (by omega) (by omega),Aa,Bl (by rw[Ar];simp),Aa,cO,Agr];refine Bhp (hlp) ?_;rw[PK,sI,Api _ (by rw[Va];omega) (Ats b n (by omega)),Aa,ss4 h h2 h3];cases Vb (RU b n)<;>rfl
   ·rw[Aau (by simpa using h3),ss3 h h2 h3]
 ·rw[Aau (by simp[Ae,Aq];omega),ss1 h]
theorem sE(b:List UInt8)(n:Nat)(hn:n<=1000)(hb:4*n+4<=b.length)(hb2:b.length<4611686018427387904):∀(j i q:Nat),i+j=n->j<q->Na b (n:Int) q (i:Int) (RU b i)=Zv (RU b n)
 |0,i,q+1,hi,_=>by
  obtain rfl:i=n:=by omega
  rw[Na,AG,Aac (by rw[Ae];simp)]
 |j+1,i,q+1,hi,hq=>by
  have hc:Br b ((4:Int)*(i:Int)) ((4:Int)*(i:Int)+4)=some (part b (4*i) 4):=by
   rw[show(4:Int)*(i:Int)=((4*i:Nat):Int) by omega];exact Sd (4*i) 4 (by omega)
  rw[Na,AG,Aau (by rw[Ae];simp;omega),Fh (by omega) (by omega),Ah (by omega) (by omega),hc,Aa,An9 _ (by rw[Ez (by omega)];omega),Aa,Bi (by rw[Va];simp;omega),Aa,
   PY (by rw[Ez (by omega)];omega),Ah (by omega) (by omega),<-Air]
  exact sE b n hn hb hb2 j (i+1) q (by omega) (by omega)
theorem Ac7(b:List UInt8)(n:Nat)(hb:b.length<=100100):Sf b (n:Int)=some (Ek b n):=by
 rw[Sf,QS];by_cases h:1<=n/\n<=1000
 ·rw[Aac (by simp[Ae,Aq];omega),Fh (by omega) (by omega),Ah (by omega) (by omega)];by_cases h2:b.length<4*n+4
  ·rw[Aau (by rw[Ae,Ac];simp;omega),ss2 h h2]
  ·have hc:Br b ((4:Int)*(n:Int)) ((4:Int)*(n:Int)+4)=some (part b (4*n) 4):=by
    rw[show(4:Int)*(n:Int)=((4*n:Nat):Int) by omega];exact Sd (4*n) 4 (by omega)
   have hs:Bc (sV (part b (4*n) 4)) (Af (En (b.take (4*n))):UInt64)=decide ((En (b.take (4*n))).toNat≠Fz (part b (4*n) 4)):=by
    rw[<-Atl h h2,HJ,HJ,Alf];simp only[Blo,ne_eq];exact not_congr eq_comm
   rw[Aac (by rw[Ae,Ac];simp;omega),hc,Aa,Dl (by omega) (by omega),Aa,show(4*(n:Int)).toNat=4*n by omega,An9 _ (by rw[Ez (by omega)];omega),Aa,Ay9 _ (by simp;omega),Aa,hs];by_cases h3:(En (b.take (4*n))).toNat=Fz (part b (4*n) 4)
   ·have hlp:=sE b n (by omega) (by omega) (by omega) n 0 Ax (by omega) (by have:=As;omega);rw[Aac (by simpa using h3),SR,SI,QO];refine Bhp hlp ?_;rw[Zv,RS,Auh _ (by rw[Va];omega) (Ats b n (by omega)),Aa,ss4 h h2 h3];cases Vb (RU b n)<;>rfl
   ·rw[Aau (by simpa using h3),ss3 h h2 h3]
 ·rw[Aau (by simp[Ae,Aq];omega),ss1 h]
theorem gJ{b:List UInt8}{n:Nat}(h:(Ek b n).2=0):Ek b n=(RU b n,0)/\1<=n/\n<=1000/\4*n+4<=b.length/\ (∀x∈RU b n,5<=x)/\ (RU b n).sum<=100000:=by
 unfold Ek at h⊢;split at h; · simp at h
 rename_i c1;rw[Aac c1];split at h; · simp at h
 rename_i c2;rw[Aac c2];split at h; · simp at h
 rename_i c3;rw[Aac c3];split at h
 ·rename_i c4;rw[Aau c4];have c4':=c4;rw[Vb,Abt,DO _ _ (by omega)]at c4';exact⟨rfl,by omega,by omega,by omega,c4'.2.1,c4'.2.2⟩
 ·simp at h
def Ih(b:List UInt8):List UInt8:=b.drop (Bm b).1.toNat
abbrev Op8:=Int×Int×Int×Int×Int×Int×(List Int)×Int
def HA(e:Int):Op8:=(0,0,0,0,0,0,[],e)
theorem Af8(A K:Nat)(h:A<=200000)(hk:K<=1000):Ad (Ad (A:Int) (Bj 4 (K:Int))) 4=((A+4*K+4:Nat):Int):=by
 rw[Fh (by omega) (by omega),Ah (a:=(A:Int)) (by omega) (by omega),Ah (by omega) (by omega)];omega
theorem rG{f c w r n:Nat}(h1:Fi f c w r n=true)(h2:Wq c r n=true)(b:List UInt8)(hb:b.length<=100100)(A:Nat)(hA:A<=b.length):
  Ql b (f:Int) (c:Int) (w:Int) (r:Int) (n:Int) (A:Int)=
   some (if(Ek (b.drop A) (Al (Ak r) n).length).2≠0 then HA (Ek (b.drop A) (Al (Ak r) n).length).2 else((f:Int),(c:Int),(w:Int),(r:Int),(n:Int),((A+4*(Al (Ak r) n).length+4:Nat):Int),(Ek (b.drop A) (Al (Ak r) n).length).1,0)):=by
 rw[Ql,oZ,pG h1 h2,Aa];simp only;rw[Aac (by rw[Aj];simp),Bs (by omega) (by omega),Aa,Ac,show(A:Int).toNat=A from rfl,rI _ _ (by simp;omega),Aa];by_cases h:(Ek (b.drop A) (Al (Ak r) n).length).2≠0
 ·rw[Aau h,Aau (by rw[Aj];simpa using h)];rfl
 ·have h0:(Ek (b.drop A) (Al (Ak r) n).length).2=0:=by simpa using h
  obtain⟨g1,g2,g3,g4,g5,g6⟩:=gJ h0;have gl:(Ek (b.drop A) (Al (Ak r) n).length).1.length=(Al (Ak r) n).length:=by rw[g1];exact Va _ _
  rw[Aac h,Aac (by rw[Aj];simpa using h),Ac,gl,Af8 _ _ (by omega) (by omega)]
theorem Ayx{f c w r n:Nat}(h1:Fi f c w r n=true)(h2:Wq c r n=true)(b:List UInt8)(hb:b.length<=100100)(A:Nat)(hA:A<=b.length):
  Pe b (f:Int) (c:Int) (w:Int) (r:Int) (n:Int) (A:Int)=
   some (if(Ek (b.drop A) (Al (Ak r) n).length).2≠0 then HA (Ek (b.drop A) (Al (Ak r) n).length).2 else((f:Int),(c:Int),(w:Int),(r:Int),(n:Int),((A+4*(Al (Ak r) n).length+4:Nat):Int),(Ek (b.drop A) (Al (Ak r) n).length).1,0)):=by
 have hs:(1<=r/\r<=1048576)/\1<=n/\1<=c:=by
  simp only[Fi,Abk]at h1;omega
 have hf:n<=4000:=by
  simp only[Wq,Abk]at h2;have:=Arh 4000 c;omega
 rw[Pe,HC,Bs (by omega) (by omega),Aa,gP hs.1.2 hs.2.1 hf,Aa,Ac,show(A:Int).toNat=A from rfl,Ac7 _ _ (by simp;omega),Aa];simp only;rw[JN,KS];by_cases h:(Ek (b.drop A) (Al (Ak r) n).length).2≠0
 ·rw[Aau h,Aau (by rw[Aj];simpa using h)];rfl
 ·have h0:(Ek (b.drop A) (Al (Ak r) n).length).2=0:=by simpa using h
  obtain⟨g1,g2,g3,g4,g5,g6⟩:=gJ h0;have gl:(Ek (b.drop A) (Al (Ak r) n).length).1.length=(Al (Ak r) n).length:=by rw[g1];exact Va _ _
  rw[Aac h,Aac (by rw[Aj];simpa using h),Ac,gl,Af8 _ _ (by omega) (by omega)]
structure Opn (b p:List UInt8) (f c w r n A:Nat) (l:List Int):Prop where
 prog:Cc b p=some ((f:Int),(c:Int),(w:Int),(r:Int),(n:Int),(A:Int),l,0)
 ref:Ff b p=some ((f:Int),(c:Int),(w:Int),(r:Int),(n:Int),(A:Int),l,0)
 pass:p.length<=64
 file:b.length<=100000
 shape:Fi f c w r n=true
 fit:Wq c r n=true
 len:l.length=(Al (Ak r) n).length
 some1:1<=l.length/\l.length<=1000
 five:∀x∈l,5<=x
 sum:l.sum<=100000
 at':A<=b.length
 tag:(Bm b).2=0
 head:Ej (Ih b)=((f:Int),(c:Int),(w:Int),(r:Int),(n:Int),0)
 tab:Ek (b.drop ((Bm b).1.toNat+22+(if f=2 then 8 else 0))) l.length=(l,0)
 pos:A=(Bm b).1.toNat+22+(if f=2 then 8 else 0)+4*l.length+4
theorem vE(b p:List UInt8)(hb:b.length<=100100)(hp:p.length<=64):
  (∃e:Int,e≠0/\Cc b p=some (HA e)/\Ff b p=some (HA e))\/ (∃f c w r n A l,Opn b p f c w r n A l):=by
 by_cases h1:100000<b.length
 ·refine .inl ⟨4,by omega,?_,?_⟩
  ·rw[Cc,Nf,Aac (by rw[Aq,Ac];simp;omega),Aau (by rw[Aq,Ac];simp;omega)];rfl
  ·rw[Ff,Vx,Aau (by rw[Aq,Ac];simp;omega)];rfl
 have hP:Cc b p=Cc b p:=rfl;have hR:Ff b p=Ff b p:=rfl
 conv at hP=>rhs;rw[Cc,Nf,Aac (by rw[Aq,Ac];simp;omega),Aac (by rw[Aq,Ac];simp;omega),Io b (by omega),Aa]
 conv at hR=>rhs;rw[Ff,Vx,Aac (by rw[Aq,Ac];simp;omega),BC b (by omega),Aa]
 by_cases h2:(Bm b).2=0
 ·obtain⟨p0,p1,p2⟩:=BN h2;have hc:=Bs (l:=b) p0 p1;simp only[h2]at hP hR;rw[Aac (by rw[Aj];simp),hc,Aa,show b.drop (Bm b).1.toNat=Ih b from rfl,Xd _ (by simp[Ih];omega),Aa]at hP;rw[Aac (by rw[Aj];simp),hc,Aa,show b.drop (Bm b).1.toNat=Ih b from rfl,fJ _ (by simp[Ih];omega),Aa]at hR;by_cases h3:(Ej (Ih b)).2.2.2.2.2=0
  ·obtain⟨g1,g2,g3,g4⟩:=pR h3;have hlen:(Ih b).length=b.length-(Bm b).1.toNat:=by simp[Ih]
   generalize hF:(Bm b).1.toNat=F at*
   have hF':(Bm b).1=(F:Int):=by omega
   rw[g1,hF']at hP hR;simp only at hP hR;generalize f0 (Ih b)=f at*
   generalize f1 (Ih b)=c at*
   generalize f2 (Ih b)=w at*
   generalize f3 (Ih b)=r at*
   generalize f4 (Ih b)=n at*
   have t22:Ad (F:Int) 22=((F+22:Nat):Int):=by rw[Ah (by omega) (by omega)];omega
   have t30:Ad ((F+22:Nat):Int) 8=((F+30:Nat):Int):=by rw[Ah (by omega) (by omega)];omega
   have Bjm:f=1\/f=2:=by simp only[Fi,Abk]at g3;omega
   rw[Aac (by rw[Aj];simp),t22,t30]at hP hR;have hend:∀A:Nat,A<=b.length->A=F+22+(if f=2 then 8 else 0)->Cc b p=Ql b (f:Int) (c:Int) (w:Int) (r:Int) (n:Int) (A:Int)->Ff b p=Pe b (f:Int) (c:Int) (w:Int) (r:Int) (n:Int) (A:Int)->
     (∃e:Int,e≠0/\Cc b p=some (HA e)/\Ff b p=some (HA e))\/ (∃f c w r n A l,Opn b p f c w r n A l):=by
    intro A hA hA2 e1 e2;rw[rG g3 g4 b hb A hA]at e1;rw[Ayx g3 g4 b hb A hA]at e2;by_cases h:(Ek (b.drop A) (Al (Ak r) n).length).2≠0
    ·rw[Aau h]at e1 e2;exact .inl ⟨_,h,e1,e2⟩
    ·have h0:(Ek (b.drop A) (Al (Ak r) n).length).2=0:=by simpa using h
     obtain⟨k1,k2,k3,k4,k5,k6⟩:=gJ h0;have gl:(Ek (b.drop A) (Al (Ak r) n).length).1.length=(Al (Ak r) n).length:=by rw[k1];exact Va _ _
     rw[Aac h]at e1 e2;rw[Ajb]at k4;refine .inr ⟨f,c,w,r,n,_,_,⟨e1,e2,hp,by omega,g3,g4,gl,by omega,by rw[k1];exact k5,by rw[k1];exact k6,by omega,h2,g1,by rw[gl,hF,<-hA2];exact Prod.ext rfl h0,by rw[gl,hF,<-hA2]⟩⟩
   by_cases LZ:((p==([]:List UInt8)) !=(geq (f:Int) (1:Int)))=true
   ·rw[Aau LZ]at hP hR;exact .inl ⟨26,by omega,hP,hR⟩
   ·rw[Aac LZ]at hP hR;have hpf:(p=[]↔f=1):=by
     rw[Ar]at LZ;have h5:(p==([]:List UInt8))=((f:Int)==1):=by simpa using LZ
     have h6:(p==([]:List UInt8))=true↔((f:Int)==1)=true:=by rw[h5]
     rw[Atu,Atu]at h6;rw[h6];omega
    by_cases h5:f=2
    ·have Awm:p≠ []:=λe=>by have:=hpf.1 e;omega
     have h64:(p !=([]:List UInt8))=true:=by simpa using Awm
     rw[Aau h64]at hP;rw[Aau (by rw[Ar,h5];rfl),Bu (by rw[Ac];omega) (by rw[Ac];omega)]at hR;by_cases h6:b.length<F+30
     ·rw[Aau (by rw[Ae,Ac];simp;omega)]at hP hR;exact .inl ⟨24,by omega,hP,hR⟩
     ·have hseg:((b.take (F+30)).drop (F+22)).length=8:=by simp;omega
      rw[Aac (by rw[Ae,Ac];simp;omega),Uk (by omega) (by omega) (by omega),Aa]at hP hR;rw[Pc,qE p hp,Aa]at hP;rw[fZ p hp,Aa]at hR;simp only at hP;rw[Aac (by rw[Aj,Aj,Ac,Ac,Ce,show((F+30:Nat):Int).toNat=F+30 from rfl,show((F+22:Nat):Int).toNat=F+22 from rfl,hseg];simp),Ig,Aa,Aa]at hP;simp only at hP;rw[Aac (by rw[Aj];simp)]at hP;generalize(b.take ((F+30:Nat):Int).toNat).drop ((F+22:Nat):Int).toNat=rL at*
      by_cases h7:rL=Ry (Lg p).toNat 8
      ·rw[Aac (by simp[h7])]at hP;rw[Aac (by simp[h7])]at hR;exact hend (F+30) (by omega) (by rw[Aau h5]) hP hR
      ·rw[Aau (by simpa using h7)]at hP;rw[Aau (by simpa using h7)]at hR;exact .inl ⟨26,by omega,hP,hR⟩
    ·have hpe:p=[]:=hpf.2 (by omega);rw[Aac (by rw[hpe];simp)]at hP;rw[Aac (by rw[Ar];simp;omega)]at hR;exact hend (F+22) (by omega) (by rw[Aac h5]) hP hR
  ·generalize Ej (Ih b)=v at*
   obtain⟨v1,v2,v3,v4,v5,v6⟩:=v;simp only at h3 hP hR;rw[Aau (by rw[Aj];simpa using h3)]at hP hR;exact .inl ⟨v6,h3,hP,hR⟩
 ·generalize Bm b=v at*
  obtain⟨v,e⟩:=v;simp only at h2 hP hR;rw[Aau (by rw[Aj];simpa using h2)]at hP hR;exact .inl ⟨e,h2,hP,hR⟩
theorem Aix(l:List Int)(i:Nat):(l.take i).sum+(l.drop i).sum=l.sum:=by
 conv=>rhs;rw[<-Bf0 i l,List.sum_append]
theorem Ia{l:List Int}(h5:∀x∈l,5<=x)(i:Nat):0<= (l.take i).sum/\ (l.take i).sum<=l.sum:=by
 have h1:=Aqu (l.take i) λx hx=>h5 x (Bli hx);have h2:=Aqu (l.drop i) λx hx=>h5 x (Bjr hx);have:=Aix l i;omega
theorem Jv{l:List Int}{i:Nat}(h:i<l.length):(l.take (i+1)).sum=(l.take i).sum+l[i]:=by
 rw[Md h,List.sum_append];simp
section
variable {l:List Int} (hl:l.length<=1000) (h5:∀x∈l,5<=x) (hs:l.sum<=100000)
include hl h5 hs
theorem Aew(f c w r n A:Int)(hA:0<=A)(hA2:A<=200000)(k:Nat)(hk:k<=l.length):∀(j i q:Nat),i+j=k->j<q->Ly (k:Int) f c w r n A l q (A+(l.take i).sum) (i:Int)=some (A+(l.take k).sum)
 |0,i,q+1,hi,_=>by
  rw[Ly,Xr,Aac (by rw[Ae];simp;omega),show i=k by omega];rfl
 |j+1,i,q+1,hi,hq=>by
  have hlt:i<l.length:=by omega
  have ih:=Aew f c w r n A hA hA2 k hk j (i+1) q (by omega) (by omega);have b1:=Ia h5 i;have b2:=Ia h5 (i+1);have e:=Jv hlt;rw[e,<-Blt]at ih;rw[Ly,Xr,Aau (by rw[Ae];simp;omega),Bq hlt,Aa,Ah (by omega) (by omega),Ah (by omega) (by omega)];exact ih
theorem Avl(f c w r n A:Int)(hA:0<=A)(hA2:A<=200000)(k:Nat)(hk:k<=l.length):ZU f c w r n A l (k:Int)=some (A+(l.take k).sum):=by
 have h:=Aew hl h5 hs f c w r n A hA hA2 k hk k 0 Ax (by omega) (by have:=As;omega);rw[Bgs,Bk2,Int.add_zero]at h;exact h
end
theorem Wo{g n:Nat}(hg:1<=g)(hn:1<=n){x:Int}(h:x∈Al g n):∃m:Nat,x=m/\1<=m/\m<=n:=by
 have hmul:=Be7 (n-1) g;rw[Al,List.mem_append]at h;rcases h with h|h
 ·rw[List.mem_replicate]at h;have h1:1<= (n-1)/g:=Nat.pos_of_ne_zero h.1;have:=Adg g h1;exact⟨g,h.2,hg,by omega⟩
 ·rw[List.mem_singleton]at h;exact⟨_,h,by omega,by omega⟩
theorem Nh{f c w r n:Nat}(h:Fi f c w r n=true):(1<=c/\c<=6)/\Bk (w:Int)/\ (1<=r/\r<=1048576)/\1<=n/\ (f=1\/f=2):=by
 simp only[Fi,Abk]at h;refine⟨h.2.1,?_,h.2.2.2.1,h.2.2.2.2,h.1⟩;rcases h.2.2.1 with rfl|rfl|rfl
 ·exact .inl rfl
 ·exact .inr (.inl rfl)
 ·exact .inr (.inr rfl)
theorem Bgo(n m:Nat):Rb n m 0≠Rb n m 2147483648:=by
 intro h;simp[Rb,Ry,APE]at h
def De(b:List UInt8):List UInt8:=b.drop (b.length-32)
theorem Am0{b:List UInt8}(h:32<=b.length):(De b).length=32:=by rw[De,Ajb];omega
def MH(t:List UInt8):Nat:=Fz (part t 12 4)-32
def mnA(t:List UInt8):Nat:=Fz (part t 16 4)
def Zo(b:List UInt8):Int×Int:=
 if ¬(32<=b.length/\ (De b).take 8=APE)then(0,6)else if GZ (De b)=true then(0,12)else
 if De b=Rb (MH (De b)) (mnA (De b)) 0 then(if b.length<MH (De b)+32 then(0,24)else(((MH (De b)+32:Nat):Int),0))else
 if De b≠Rb (MH (De b)) (mnA (De b)) 2147483648 then(0,12)else
 if b.length<MH (De b)+64 then(0,24)else
 if(b.take (b.length-(MH (De b)+64)+32)).drop (b.length-(MH (De b)+64))≠Rb (MH (De b)) (mnA (De b)) 2684354560 then(0,12)else(((MH (De b)+64:Nat):Int),0)
section
variable {b:List UInt8}
theorem ba1(h:¬(32<=b.length/\ (De b).take 8=APE)):Zo b=(0,6):=by rw[Zo,Aau h]
variable (h:32<=b.length/\ (De b).take 8=APE)
include h
theorem ba2(h2:GZ (De b)=true):Zo b=(0,12):=by rw[Zo,Aac (λh'=>h' h),Aau h2]
variable (h2:GZ (De b)=false)
include h2
theorem ba3(h3:De b=Rb (MH (De b)) (mnA (De b)) 0):Zo b=if b.length<MH (De b)+32 then(0,24)else(((MH (De b)+32:Nat):Int),0):=by
 rw[Zo,Aac (λh'=>h' h),Aac (by rw[h2];simp),Aau h3]
variable (h3:De b≠Rb (MH (De b)) (mnA (De b)) 0)
include h3
theorem ba4(h4:De b≠Rb (MH (De b)) (mnA (De b)) 2147483648):Zo b=(0,12):=by
 rw[Zo,Aac (λh'=>h' h),Aac (by rw[h2];simp),Aac h3,Aau h4]
variable (h4:De b=Rb (MH (De b)) (mnA (De b)) 2147483648)
include h4
theorem ba5(h5:b.length<MH (De b)+64):Zo b=(0,24):=by
 rw[Zo,Aac (λh'=>h' h),Aac (by rw[h2];simp),Aac h3,Aac (λe=>e h4),Aau h5]
theorem ba6(h5:¬b.length<MH (De b)+64):Zo b=if(b.take (b.length-(MH (De b)+64)+32)).drop (b.length-(MH (De b)+64))≠Rb (MH (De b)) (mnA (De b)) 2684354560 then(0,12)else(((MH (De b)+64:Nat):Int),0):=by
 rw[Zo,Aac (λh'=>h' h),Aac (by rw[h2];simp),Aac h3,Aac (λe=>e h4),Aac h5]
end
theorem Al7{b:List UInt8}{n:Int}(h:Zo b=(n,0)):32<=n/\n<=b.length:=by
 unfold Zo at h;split at h; · simp at h
 rename_i h32;split at h; · simp at h
 split at h
 ·split at h; · simp at h
  simp only[Agm,Bl9]at h;omega
 split at h; · simp at h
 split at h; · simp at h
 split at h; · simp at h
 simp only[Agm,Bl9]at h;omega
theorem Avx{b:List UInt8}(h:(Zo b).2≠0):(Zo b).1=0:=by
 revert h
 unfold Zo;split; · simp
 split; · simp
 split
 ·split<;>simp
 split; · simp
 split; · simp
 split<;>simp
theorem Bal{b:List UInt8}(h:32<=b.length)(hl:b.length<4611686018427387904):Ao (Ac b) 32=((b.length-32:Nat):Int)/\Br b ((b.length-32:Nat):Int) (Ac b)=some (De b):=by
 refine⟨by rw[Ac,Bu (by omega) (by omega)];omega,?_⟩;rw[Bs (by omega) (by omega)];rfl
theorem At9(b:List UInt8)(hl:b.length<4611686018427387904):xI b=some (Zo b):=by
 rw[xI,pA];by_cases h32:32<=b.length
 ·obtain⟨e1,e2⟩:=Bal h32 hl;have hl3:=Am0 h32;rw[Aac (by rw[e1,Ae];simp),e1,e2,Aa,iU,Aa];by_cases hp:(De b).take 8=APE
  ·have h:=And.intro h32 hp;rw[Aac (by simpa [APE,hl3]using hp),oR,Abg,e1,e2,Aa,iP _ 0 (by omega) (by omega) (by decide),Aa];cases hb:GZ (De b)with
   |true=>
    rw[ba2 h hb];simp only[Bmc,Aub,Bj3];rw[Aa,iP _ 2147483648 (by omega) (by omega) (by decide),Aa,hb];rfl
   |false=>
    obtain⟨i1,i2,i3,i4⟩:=xW (De b) (by omega) hb;have eI:Fz (part (De b) 12 4)-32=MH (De b):=rfl;have eM:Fz (part (De b) 16 4)=mnA (De b):=rfl;simp only[Aub,Bj3];rw[eI]at i3;rw[eM]at i4;rw[eI,eM];by_cases c1:De b=Rb (MH (De b)) (mnA (De b)) 0
    ·have c1':De b=Rb (MH (De b)) (mnA (De b)) (0:UInt64).toNat:=c1;rw[Aau (by simpa using c1'),ba3 h hb c1];by_cases c2:b.length<MH (De b)+32
     ·rw[Aau (by rw[Ae];simp;omega),Aau c2]
     ·rw[Aac (by rw[Ae];simp;omega),Aac c2,Ah (by omega) (by omega)];rfl
    ·have c1':¬De b=Rb (MH (De b)) (mnA (De b)) (0:UInt64).toNat:=c1;rw[Aac (by simpa using c1'),Aa,iP _ 2147483648 (by omega) (by omega) (by decide),Aa,hb];simp only[Aub,Bj3];rw[eI,eM];by_cases c2:De b=Rb (MH (De b)) (mnA (De b)) 2147483648
     ·have c2':De b=Rb (MH (De b)) (mnA (De b)) (2147483648:UInt64).toNat:=c2;rw[Aac (by simpa using c2'),Ah (by omega) (by omega)];by_cases c3:b.length<MH (De b)+64
      ·rw[Aau (by rw[Ae,Ac];simp;omega),ba5 h hb c1 c2 c3]
      ·rw[Aac (by rw[Ae,Ac];simp;omega),Ac,Bu (by omega) (by omega),Ah (by omega) (by omega),Uk (by omega) (by omega) (by omega),Aa,Aej _ _ _ i3 i4 (by decide),Aa,Ig,Aa,ba6 h hb c1 c2 c3];rw[show((b.length:Int)-(((MH (De b):Nat):Int)+64)).toNat=b.length-(MH (De b)+64) by omega,show((b.length:Int)-(((MH (De b):Nat):Int)+64)+32).toNat=b.length-(MH (De b)+64)+32 by omega];have e7:(2684354560:UInt64).toNat=2684354560:=rfl;rw[e7];by_cases c4:(b.take (b.length-(MH (De b)+64)+32)).drop (b.length-(MH (De b)+64))=Rb (MH (De b)) (mnA (De b)) 2684354560
       ·rw[Aac (by simpa using c4),Aac (λe=>e c4)];rfl
       ·rw[Aau (by simpa using c4),Aau c4]
     ·have c2':¬De b=Rb (MH (De b)) (mnA (De b)) (2147483648:UInt64).toNat:=c2;rw[Aau (by simpa using c2'),ba4 h hb c1 c2]
  ·rw[Aau (by rw[Awn,Ba8];intro h;exact hp h.2),ba1 (λh=>hp h.2)]
 ·rw[Aau (by rw[Ac,Bu (by omega) (by omega),Ae];simp;omega),ba1 (λh=>h32 h.1)]
theorem Bc6{b:List UInt8}(h:32<=b.length):(b.take (b.length-32+8)).drop (b.length-32)=(De b).take 8:=by
 rw[De,List.take_drop]
theorem Ax1(b:List UInt8)(hl:b.length<4611686018427387904):LJ b=some (Zo b):=by
 rw[LJ,SA];by_cases h32:32<=b.length
 ·obtain⟨e1,e2⟩:=Bal h32 hl;have hl3:=Am0 h32;rw[Aac (by rw[Ae,Ac];simp;omega),e1,Ah (by omega) (by omega),Uk (by omega) (by omega) (by omega),Aa,show((b.length-32:Nat):Int).toNat=b.length-32 from rfl,show(((b.length-32:Nat):Int)+8).toNat=b.length-32+8 by omega,Bc6 h32];by_cases hp:(De b).take 8=APE
  ·have h:=And.intro h32 hp;rw[Aac (by simpa [APE]using hp),SB,RA,e1,e2,Aa,Al4 _ (by omega) (by omega),Aa];cases hb:GZ (De b)with
   |true=>rw[ba2 h hb];rfl
   |false=>
    obtain⟨i1,i2,i3,i4⟩:=xW (De b) (by omega) hb;have eI:Fz (part (De b) 12 4)-32=MH (De b):=rfl;have eM:Fz (part (De b) 16 4)=mnA (De b):=rfl;simp only[Aub,Bj3,Blf];rw[eI]at i3;rw[eM]at i4;rw[eI,eM,Nn,Aau rfl,vP _ _ _ i3 i4 (by decide),Aa,Aa];have e7:(2147483648:UInt64).toNat=2147483648:=rfl;have e8:(2684354560:UInt64).toNat=2684354560:=rfl;rw[e7];by_cases c2:De b=Rb (MH (De b)) (mnA (De b)) 2147483648
    ·have c1:De b≠Rb (MH (De b)) (mnA (De b)) 0:=λe=>Bgo (MH (De b)) (mnA (De b)) (e.symm.trans c2);rw[Aac (by simpa using c2),AN,AJ,Aau (by simpa using c2),AB,Zx,Ah (a:=32) (by omega) (by omega),Ah (by omega) (by omega)];by_cases c3:b.length<MH (De b)+64
     ·rw[Aau (by rw[Ae,Ac];simp;omega),ba5 h hb c1 c2 c3]
     ·rw[Aac (by rw[Ae,Ac];simp;omega),Aau (by simpa using c2),Ac,Bu (by omega) (by omega),Ah (by omega) (by omega),Uk (by omega) (by omega) (by omega),Aa,Yk,vP _ _ _ i3 i4 (by decide),Aa,Aa,ba6 h hb c1 c2 c3,e8];rw[show((b.length:Int)-(32+((MH (De b):Nat):Int)+32)).toNat=b.length-(MH (De b)+64) by omega,show((b.length:Int)-(32+((MH (De b):Nat):Int)+32)+32).toNat=b.length-(MH (De b)+64)+32 by omega];by_cases c4:(b.take (b.length-(MH (De b)+64)+32)).drop (b.length-(MH (De b)+64))=Rb (MH (De b)) (mnA (De b)) 2684354560
      ·rw[Aac (by simpa using c4),Aac (λe=>e c4),show(32+((MH (De b):Nat):Int)+32)=((MH (De b)+64:Nat):Int) by omega]
      ·rw[Aau (by simpa using c4),Aau c4]
    ·rw[Aau (by simpa using c2),Nn,Aac (by simp),vP _ _ _ i3 i4 (by decide),Aa,Aa];have e9:(0:UInt64).toNat=0:=rfl;rw[e9];by_cases c1:De b=Rb (MH (De b)) (mnA (De b)) 0
     ·rw[Aac (by simpa using c1),AN,AJ,Aac (by simpa using c2),AB,Zx,Ah (by omega) (by omega),ba3 h hb c1,Aac (c:=(De b==Rb (MH (De b)) (mnA (De b)) 2147483648)=true) (by simpa using c2)];by_cases c3:b.length<MH (De b)+32
      ·rw[Aau (by rw[Ae,Ac];simp;omega),Aau c3]
      ·rw[Aac (by rw[Ae,Ac];simp;omega),Aac c3,show(32+((MH (De b):Nat):Int))=((MH (De b)+32:Nat):Int) by omega]
     ·rw[Aau (by simpa using c1),ba4 h hb c1 c2]
  ·rw[Aau (by simpa [APE]using hp),ba1 (λh=>hp h.2)]
 ·rw[Aau (by rw[Ae,Ac];simp;omega),ba1 (λh=>h32 h.1)]
def Aka:Nat->List UInt8->Nat->Int×Int
 |0,_,_=>(0,38)
 |j+1,b,a=>if b=[]then((a:Int),0)else if(Zo b).2≠0 then(0,38)else Aka j (b.take (b.length-(Zo b).1.toNat)) (a+1)
theorem Al0:∀(j q a:Nat) (b:List UInt8),b.length<j->j<=q->b.length<=4000->a+b.length<=4000->Wy q (a:Int) b=some (Aka j b a)
 |0,_,_,_,h,_,_,_=>by omega
 |j+1,q+1,a,b,h,hq,h4,ha=>by
  rw[Wy,UG,Aka];by_cases hb:b=[]
  ·subst hb;rw[Aac (by decide),Aau rfl];rfl
  ·have hpos:0<b.length:=List.length_pos_iff.2 hb;rw[Aau (by rw[Aq,Ac];simp;omega),Aac hb,At9 b (by omega),Aa];have hbad:=Avx (b:=b);have hok:=λn=>Al7 (b:=b) (n:=n);generalize Zo b=v at*
   obtain⟨n,e⟩:=v;simp only at hbad⊢;rw[NR,OG];by_cases he:e≠0
   ·rw[Aau he,hbad he,Aau (by decide)]
   ·obtain⟨k1,k2⟩:=hok n (by rw[show e=0 by simpa using he]);rw[Aac he,Aac (by rw[Ar];simp;omega),Ac,Bu (by omega) (by omega),Dl (by omega) (by omega),Aa,OR,gC,Ah (by omega) (by omega)];rw[show((b.length:Int)-n).toNat=b.length-n.toNat by omega];have ih:=Al0 j q (a+1) (b.take (b.length-n.toNat)) (by rw[Ag1];omega) (by omega) (by rw[Ag1];omega) (by rw[Ag1];omega);rw[<-ih];rfl
theorem Ars:∀(j q a:Nat) (b:List UInt8),b.length<j->j<=q->b.length<=4000->a+b.length<=4000->Pa q b (a:Int)=some (Aka j b a)
 |0,_,_,_,h,_,_,_=>by omega
 |j+1,q+1,a,b,h,hq,h4,ha=>by
  rw[Pa,LC,Aka];by_cases hb:b=[]
  ·subst hb;rw[Aac (by decide),Aau rfl];rfl
  ·have hpos:0<b.length:=List.length_pos_iff.2 hb;rw[Aau (by rw[Aq,Ac];simp;omega),Aac hb,Ax1 b (by omega),Aa];have hok:=λn=>Al7 (b:=b) (n:=n);generalize Zo b=v at*
   obtain⟨n,e⟩:=v;simp only;by_cases he:e≠0
   ·rw[Aau he,Aau (by rw[Aj];simpa using he)]
   ·obtain⟨k1,k2⟩:=hok n (by rw[show e=0 by simpa using he]);rw[Aac he,Aac (by rw[Aj];simpa using he),Ac,Bu (by omega) (by omega),Dl (by omega) (by omega),Aa,Ah (by omega) (by omega)];rw[show((b.length:Int)-n).toNat=b.length-n.toNat by omega];have ih:=Ars j q (a+1) (b.take (b.length-n.toNat)) (by rw[Ag1];omega) (by omega) (by rw[Ag1];omega) (by rw[Ag1];omega);rw[<-ih];rfl
def Nt(b:List UInt8):Int×Int:=if 4000<b.length then(0,38)else Aka (b.length+1) b 0
theorem Aat(b:List UInt8)(hl:b.length<4611686018427387904):LR b=some (Nt b):=by
 rw[LR,TO,Nt];by_cases h:4000<b.length
 ·rw[Aau (by rw[Aq,Ac];simp;omega),Aau h]
 ·rw[Aac (by rw[Aq,Ac];simp;omega),Aac h];exact Al0 _ Ax 0 b (by omega) (by have:=As;omega) (by omega) (by omega)
theorem tW(b:List UInt8)(hl:b.length<4611686018427387904):Ue b=some (Nt b):=by
 rw[Ue,IZ,Nt];by_cases h:4000<b.length
 ·rw[Aau (by rw[Aq,Ac];simp;omega),Aau h]
 ·rw[Aac (by rw[Aq,Ac];simp;omega),Aac h];exact Ars _ Ax 0 b (by omega) (by have:=As;omega) (by omega) (by omega)
theorem TY{a b:Nat}(h:a<9223372036854775808):Bw (a:Int) (b:Int)=((a/b:Nat):Int):=by
 have:a/b<=a:=Arh _ _;rw[TC,Bgx (by omega),<-Int.natCast_ediv];generalize a/b=k at*
 exact Df (by omega) (by omega)
theorem zD{bits:Int}(h:Bk bits)(x:Int):(OJ bits x).length=wB bits:=by
 obtain rfl|rfl|rfl:=h<;>rfl
theorem GR{bits:Int}(h:Bk bits):∀l:List Int32,(Dk bits l).length=l.length*wB bits
 |[]=>by simp[Dk]
 |x::l=>by
  have h1:=GR h l;have h2:=zD h x.toInt;simp only[Dk,List.flatMap_cons,Aav,Alj,Bld]at*
  omega
def Abj(b:List UInt8)(A:Nat)(l:List Int)(k:Nat):List UInt8:=(b.take ((A:Int)+(l.take (k+1)).sum).toNat).drop ((A:Int)+(l.take k).sum).toNat
structure Gts (b p:List UInt8) (f c w r n A:Nat) (l:List Int) (k m:Nat) (x:List Int32) (s:List UInt8) (e:Int):Prop where
 mom:Ap (Al (Ak r) n) (k:Int)=some (m:Int)
 pos:1<=m/\m*c<=4000
 got:Un b p (f:Int) (c:Int) (w:Int) (r:Int) (n:Int) (A:Int) l (k:Int)=some (s,e)
 none':e≠0->s=[]/\x=[]
 some':e=0->s=Dk (w:Int) x/\x.length=m*c/\Ay (w:Int) x=some 0/\Le (w:Int) x=some (s,0)/\ (A:Int)+(l.take (k+1)).sum<=b.length
 way:((b.length:Int)<(A:Int)+(l.take (k+1)).sum/\e=24)\/ ((A:Int)+(l.take (k+1)).sum<=b.length/\Jy (c:Int) (w:Int) (Js p) (m:Int) (Abj b A l k)=some (x,e)/\Dg (c:Int) (w:Int) (Js p) (m:Int) (Abj b A l k)=some (x,e))
theorem BJ{b p:List UInt8}{f c w r n A:Nat}{l:List Int}(o:Opn b p f c w r n A l)(k:Nat)(hk:k<l.length):∃m x s e,Gts b p f c w r n A l k m x s e:=by
 obtain⟨hc,hw,hr,hn,_⟩:=Nh o.shape;have hfit:n<=4000/c:=by have:=o.fit;simp only[Wq,Abk]at this;exact this.1
 have hn4:n<=4000:=by have:=Arh 4000 c;omega
 have hA:=o.at';have Ao8:=o.file;have hlen:=o.len;have b1:=Ia o.five k;have b2:=Ia o.five (k+1);have e:=Jv hk;have h5:=o.five l[k] (Ami _);have hsum:=o.sum;have hs1:=o.some1;have hkf:k<(Al (Ak r) n).length:=by omega
 obtain⟨m,hm,m1,m2⟩:=Wo (Ex r) hn (Ami hkf);have Beb:Ap (Al (Ak r) n) (k:Int)=some (m:Int):=by rw[Bq hkf,hm]
 have hpos:1<=m/\m*c<=4000:=by
  refine⟨m1,?_⟩;have:=Adg c (Nat.le_trans m2 hfit);have:=Be7 4000 c;omega
 have hR:Un b p (f:Int) (c:Int) (w:Int) (r:Int) (n:Int) (A:Int) l (k:Int)=Un b p (f:Int) (c:Int) (w:Int) (r:Int) (n:Int) (A:Int) l (k:Int):=rfl
 conv at hR=>rhs;rw[Un,UX,Avl hs1.2 o.five o.sum _ _ _ _ _ (A:Int) (by omega) (by omega) k (by omega),Aa,Bq hk,Aa,Bu (by rw[Ac];omega) (by rw[Ac];omega)]
 by_cases hto:(b.length:Int)<(A:Int)+(l.take (k+1)).sum
 ·rw[Aau (by rw[Ae,Ac,Abk];omega)]at hR;exact⟨m,[],[],24,Beb,hpos,hR,λ_=>⟨rfl,rfl⟩,λh=>by simp at h, .inl ⟨hto,rfl⟩⟩
 ·rw[Aac (by rw[Ae,Ac,Abk];omega),SM p o.pass,gP hr.2 hn hn4]at hR;simp only[Aa]at hR;rw[Ah (a:=(A:Int)+(l.take k).sum) (b:=l[k]) (by omega) (by omega),Blt,<-e,Beb]at hR;simp only[Aa]at hR;rw[Uk (by omega) (by omega) (by omega),Aa]at hR;obtain⟨x,er,g1,g2,g3,g4⟩:=FT (ch:=c) (n:=m) (t:=Js p) (Abj b A l k) hw (Mg p) hc.1 hc.2 m1 (by omega);rw[show(b.take ((A:Int)+(l.take (k+1)).sum).toNat).drop ((A:Int)+(l.take k).sum).toNat=Abj b A l k from rfl,g2,Aa]at hR;simp only at hR;rw[VE,UU]at hR;by_cases her:er=0
  ·obtain⟨g5,g6,g7⟩:=g3 her;rw[Aac (by rw[Aj];simpa using her),OD hw g6 g5,Aa]at hR;subst her;exact⟨m,x,_,0,Beb,hpos,hR,λh=>absurd rfl h,λ_=>⟨rfl,g7,g5,aQ hw g6 g5,by omega⟩, .inr ⟨by omega,g1,g2⟩⟩
  ·rw[Aau (by rw[Aj];simpa using her)]at hR;exact⟨m,x,_,er,Beb,hpos,hR,λh=>⟨rfl,g4 h⟩,λh=>absurd h her, .inr ⟨by omega,g1,g2⟩⟩
theorem Gts.lens{b p:List UInt8}{f c w r n A:Nat}{l:List Int}{k m:Nat}{x:List Int32}{s:List UInt8}{e:Int}(hw:Bk (w:Int))(g:Gts b p f c w r n A l k m x s e):s.length<=12000/\x.length<=4000/\ (e=0->s.length=m*c*wB (w:Int)):=by
 by_cases he:e=0
 ·obtain⟨h1,h2,_⟩:=g.some' he;have h3:=FC (w:Int) x;have h4:=GR hw x;have h5:=g.pos;rw[<-h1]at h3 h4;refine⟨by omega,by omega,λ_=>by rw[h4,h2]⟩
 ·obtain⟨h1,h2⟩:=g.none' he;exact⟨by simp[h1],by simp[h2],λh=>absurd h he⟩
def lF(G:Nat->List UInt8×Int)(be:Int):Nat->Nat->List UInt8->List UInt8×Int
 |0,_,acc=>if be≠0 then([],38)else(acc,0)
 |j+1,k,acc=>if(G k).2≠0 then([],(G k).2)else lF G be j (k+1) (acc++(G k).1)
def Jb(b p:List UInt8)(f c w r n A:Nat)(l:List Int)(k:Nat):List UInt8×Int:=(Un b p (f:Int) (c:Int) (w:Int) (r:Int) (n:Int) (A:Int) l (k:Int)).getD ([],0)
theorem Gts.eq{b p:List UInt8}{f c w r n A:Nat}{l:List Int}{k m:Nat}{x:List Int32}{s:List UInt8}{e:Int}(g:Gts b p f c w r n A l k m x s e):Jb b p f c w r n A l k=(s,e):=by rw[Jb,g.got];rfl
def XH(b:List UInt8)(A:Nat)(l:List Int):Int:=(Nt (b.drop ((A:Int)+l.sum).toNat)).2
def Tl(b:List UInt8)(k:Nat):Nat:=(b.getD k 0).toNat
theorem wV(b:List UInt8)(k:Nat):Tl b k<256:=(b.getD k 0).toNat_lt
def sx(n:Nat)(b:List UInt8)(a:Nat):Int:=
 if n=1 then(Tl b a:Int)-128 else
 if n=2 then(if Tl b a+256*Tl b (a+1)<32768 then(Tl b a+256*Tl b (a+1):Nat)else((Tl b a+256*Tl b (a+1):Nat):Int)-65536)else
 (if Tl b a+256*Tl b (a+1)+65536*Tl b (a+2)<8388608 then(Tl b a+256*Tl b (a+1)+65536*Tl b (a+2):Nat)else((Tl b a+256*Tl b (a+1)+65536*Tl b (a+2):Nat):Int)-16777216)
def mH(n m:Nat)(b:List UInt8):List Int32:=(List.range m).map λx=>Int32.ofInt (sx n b (x*n))
theorem uW(n m:Nat)(b:List UInt8):(mH n m b).length=m:=by simp[mH]
theorem Azj(n m:Nat)(b:List UInt8):mH n (m+1) b=mH n m b++[Int32.ofInt (sx n b (m*n))]:=by simp[mH,List.range_succ]
theorem pY{n:Int}(h: -2147483648<=n)(h':n<2147483648):(Int32.ofInt n).toInt=n:=by
 rw[Bji,Int.bmod_def,show((Int32.size:Nat):Int)=4294967296 from rfl];split<;>omega
theorem rD{b:List UInt8}{k:Nat}(h:k<b.length):Ap b (k:Int)=some (b.getD k 0):=by
 rw[Bq h];simp[List.getD_eq_getElem?_getD,h]
theorem ZF(c:UInt8):(Af c:Int32)=Int32.ofInt (c.toNat:Int):=rfl
theorem xY{v:Nat}(k:Nat)(hk:k<=32)(h:v<2147483648):Dt (Int32.ofInt (v:Int)) k=Int32.ofInt ((v*2^k:Nat):Int):=by
 have e:Dt (Int32.ofInt (v:Int)) k=Int32.ofInt ((Int32.ofInt (v:Int)).toInt*2^min k 32):=rfl;rw[e,pY (by omega) (by omega),Bev hk];simp
theorem Bcx{v w i:Nat}(hv:v<2^i)(hw:w*2^i<2147483648)(hi:i<=31):uJ (Int32.ofInt (v:Int)) (Int32.ofInt ((w*2^i:Nat):Int))=Int32.ofInt ((v+w*2^i:Nat):Int):=by
 have hv2:v<2147483648:=Apb hv (show 2^i<=2^31 from Agq (by omega) hi);have e:uJ (Int32.ofInt (v:Int)) (Int32.ofInt ((w*2^i:Nat):Int))=Int32.ofInt ((BitVec.ofInt 32 (Int32.ofInt (v:Int)).toInt|||BitVec.ofInt 32 (Int32.ofInt ((w*2^i:Nat):Int)).toInt).toNat:Int):=rfl;rw[e,pY (by omega) (by omega),pY (by omega) (by omega),BitVec.toNat_or,Bho,Bho];have a1:((v:Int) %((2^32:Nat):Int)).toNat=v:=by omega
 have a2:(((w*2^i:Nat):Int) %((2^32:Nat):Int)).toNat=w*2^i:=by omega
 rw[a1,a2,Nat.or_comm,Ao6 w,<-Be2 hv,Bk0]
theorem Aiu(w:Nat)(h:w<2147483648):uJ (0:Int32) (Int32.ofInt (w:Int))=Int32.ofInt (w:Int):=by
 have:=Bcx (v:=0) (w:=w) (i:=0) (by simp) (by simpa using h) (by omega);simpa using this
theorem carry{v k:Nat}(hk:k<=31)(h:v*2^k<4294967296)(hv:v<2147483648):Ck (Dt (Int32.ofInt (v:Int)) k) k=Int32.ofInt ((if v*2^k<2147483648 then((v*2^k:Nat):Int)else((v*2^k:Nat):Int)-4294967296).fdiv (2^k)):=by
 rw[xY k (by omega) hv];have e:∀x:Int32,Ck x k=Int32.ofInt (x.toInt.fdiv (2^min k 32)):=λ_=>rfl;have hX:(Int32.ofInt ((v*2^k:Nat):Int)).toInt=if v*2^k<2147483648 then((v*2^k:Nat):Int)else((v*2^k:Nat):Int)-4294967296:=by
  rw[Bji,Int.bmod_def,show((Int32.size:Nat):Int)=4294967296 from rfl];generalize v*2^k=X at*
  split<;>split<;>omega
 rw[e,Bev (by omega),hX]
theorem sx2(b:List UInt8)(a:Nat):sx 2 b a=if Tl b a+256*Tl b (a+1)<32768 then((Tl b a+256*Tl b (a+1):Nat):Int)else((Tl b a+256*Tl b (a+1):Nat):Int)-65536:=rfl
theorem sx3(b:List UInt8)(a:Nat):sx 3 b a=if Tl b a+256*Tl b (a+1)+65536*Tl b (a+2)<8388608 then((Tl b a+256*Tl b (a+1)+65536*Tl b (a+2):Nat):Int)else((Tl b a+256*Tl b (a+1)+65536*Tl b (a+2):Nat):Int)-16777216:=rfl
variable (b:List UInt8)
theorem Bi0(bk:Int->List Int32->Option (List Int32×Int))(a:Nat)(acc:List Int32)(h:a+1<=b.length)(hl:b.length<=100000)(ha:acc.length<=100000)(j25:Int->List Int32->Int32->Int->Option (List Int32×Int))(j30:List Int32->Option (List Int32×Int)):
  Gp (Kk bk 8 b) j25 j30 8 b (a:Int) acc=bk ((a+1:Nat):Int) (acc++[Int32.ofInt (sx 1 b a)]):=by
 have hb:=wV b a;have e:Ao (Af (b.getD a 0):Int32) (128:Int32)=Int32.ofInt (sx 1 b a):=by
  have e1:Ao (Af (b.getD a 0):Int32) (128:Int32)=Int32.ofInt ((Int32.ofInt ((b.getD a 0).toNat:Int)).toInt-(128:Int32).toInt):=rfl;rw[e1,pY (by omega) (by have:=(b.getD a 0).toNat_lt;omega)];rfl
 have q8:Bw (8:Int) 8=1:=by decide
 rw[Gp,Aau (by rw[Ae,Ac];simp;omega),Aau (by rw[Ar];rfl),rD (by omega),Aa,e,Bi (by simp;omega),Aa,Kk,Yx,q8,Ah (by omega) (by omega)];rfl
theorem Bfr(bk:Int->List Int32->Option (List Int32×Int))(a:Nat)(acc:List Int32)(h:a+2<=b.length)(hl:b.length<=100000)(ha:acc.length<=100000)(j28:Int->List Int32->Option (List Int32×Int))(j30:List Int32->Option (List Int32×Int)):
  Gp j28 (Ns bk 16 b) j30 16 b (a:Int) acc=bk ((a+2:Nat):Int) (acc++[Int32.ofInt (sx 2 b a)]):=by
 have h0:=wV b a;have h1:=wV b (a+1);have q:Bw (16:Int) 8=2:=by decide
 have hF:Ax=(Ax-3)+1+1+1:=by have:=As;omega
 have z0:(GI.toZ (Bj (8:Int) 0)).toNat=0:=by decide
 have z1:(GI.toZ (Bj (8:Int) 1)).toNat=8:=by decide
 have z16:(GI.toZ (Ao (32:Int) 16)).toNat=16:=by decide
 have s0:Dt (Int32.ofInt (Tl b a:Int)) 0=Int32.ofInt (Tl b a:Int):=by have:=xY (v:=Tl b a) 0 (by omega) (by omega);simpa using this
 have s1:Dt (Int32.ofInt (Tl b (a+1):Int)) 8=Int32.ofInt ((Tl b (a+1)*2^8:Nat):Int):=xY 8 (by omega) (by omega);have o1:=Bcx (v:=Tl b a) (w:=Tl b (a+1)) (i:=8) (by simpa using h0) (by omega) (by omega);have c:=carry (v:=Tl b a+Tl b (a+1)*2^8) (k:=16) (by omega) (by omega) (by omega);rw[Gp,Aau (by rw[Ae,Ac];simp;omega),Aac (by rw[Ar];decide),Ns,hF,Fm,Gn,q,Aau (by decide),show Ad (a:Int) 0=((a:Nat):Int) by rw[Ah (by omega) (by omega)];omega,rD (by omega),Aa,Bl (by decide),Aa,z0,
  ZF,show((b.getD a 0).toNat:Int)=(Tl b a:Int)from rfl,s0,Aiu _ (by omega),show Ad (0:Int) 1=1 by decide,
  Fm,Gn,q,Aau (by decide),show Ad (a:Int) 1=((a+1:Nat):Int) by rw[Ah (by omega) (by omega)];omega,rD (by omega),Aa,Bl (by decide),Aa,z1,
  ZF,show((b.getD (a+1) 0).toNat:Int)=(Tl b (a+1):Int)from rfl,s1,o1,show Ad (1:Int) 1=2 by decide,
  Fm,Gn,q,Aac (by decide),Zd,Yp,Bl (by decide),Aa,Aa,z16,c,Bi (by simp;omega),Aa,Kk,Yx,q,Ah (by omega) (by omega)]
 have e:((if(Tl b a+Tl b (a+1)*2^8)*2^16<2147483648 then(((Tl b a+Tl b (a+1)*2^8)*2^16:Nat):Int)else(((Tl b a+Tl b (a+1)*2^8)*2^16:Nat):Int)-4294967296).fdiv (2^16))=sx 2 b a:=by
  rw[As3 _ (by omega),sx2];split<;>split<;>omega
 rw[e];rfl
theorem Bfk(bk:Int->List Int32->Option (List Int32×Int))(a:Nat)(acc:List Int32)(h:a+3<=b.length)(hl:b.length<=100000)(ha:acc.length<=100000)(j28:Int->List Int32->Option (List Int32×Int))(j30:List Int32->Option (List Int32×Int)):
  Gp j28 (Ns bk 24 b) j30 24 b (a:Int) acc=bk ((a+3:Nat):Int) (acc++[Int32.ofInt (sx 3 b a)]):=by
 have h0:=wV b a;have h1:=wV b (a+1);have h2:=wV b (a+2);have q:Bw (24:Int) 8=3:=by decide
 have hF:Ax=(Ax-4)+1+1+1+1:=by have:=As;omega
 have z0:(GI.toZ (Bj (8:Int) 0)).toNat=0:=by decide
 have z1:(GI.toZ (Bj (8:Int) 1)).toNat=8:=by decide
 have z2:(GI.toZ (Bj (8:Int) 2)).toNat=16:=by decide
 have z8:(GI.toZ (Ao (32:Int) 24)).toNat=8:=by decide
 have s0:Dt (Int32.ofInt (Tl b a:Int)) 0=Int32.ofInt (Tl b a:Int):=by have:=xY (v:=Tl b a) 0 (by omega) (by omega);simpa using this
 have s1:Dt (Int32.ofInt (Tl b (a+1):Int)) 8=Int32.ofInt ((Tl b (a+1)*2^8:Nat):Int):=xY 8 (by omega) (by omega);have s2:Dt (Int32.ofInt (Tl b (a+2):Int)) 16=Int32.ofInt ((Tl b (a+2)*2^16:Nat):Int):=xY 16 (by omega) (by omega);have o1:=Bcx (v:=Tl b a) (w:=Tl b (a+1)) (i:=8) (by simpa using h0) (by omega) (by omega);have o2:=Bcx (v:=Tl b a+Tl b (a+1)*2^8) (w:=Tl b (a+2)) (i:=16) (by omega) (by omega) (by omega);have c:=carry (v:=Tl b a+Tl b (a+1)*2^8+Tl b (a+2)*2^16) (k:=8) (by omega) (by omega) (by omega);rw[Gp,Aau (by rw[Ae,Ac];simp;omega),Aac (by rw[Ar];decide),Ns,hF,Fm,Gn,q,Aau (by decide),show Ad (a:Int) 0=((a:Nat):Int) by rw[Ah (by omega) (by omega)];omega,rD (by omega),Aa,Bl (by decide),Aa,z0,
  ZF,show((b.getD a 0).toNat:Int)=(Tl b a:Int)from rfl,s0,Aiu _ (by omega),show Ad (0:Int) 1=1 by decide,
  Fm,Gn,q,Aau (by decide),show Ad (a:Int) 1=((a+1:Nat):Int) by rw[Ah (by omega) (by omega)];omega,rD (by omega),Aa,Bl (by decide),Aa,z1,
  ZF,show((b.getD (a+1) 0).toNat:Int)=(Tl b (a+1):Int)from rfl,s1,o1,show Ad (1:Int) 1=2 by decide,
  Fm,Gn,q,Aau (by decide),show Ad (a:Int) 2=((a+2:Nat):Int) by rw[Ah (by omega) (by omega)];omega,rD (by omega),Aa,Bl (by decide),Aa,z2,
  ZF,show((b.getD (a+2) 0).toNat:Int)=(Tl b (a+2):Int)from rfl,s2,o2,show Ad (2:Int) 1=3 by decide,
  Fm,Gn,q,Aac (by decide),Zd,Yp,Bl (by decide),Aa,Aa,z8,c,Bi (by simp;omega),Aa,Kk,Yx,q,Ah (by omega) (by omega)]
 have e:((if(Tl b a+Tl b (a+1)*2^8+Tl b (a+2)*2^16)*2^8<2147483648 then(((Tl b a+Tl b (a+1)*2^8+Tl b (a+2)*2^16)*2^8:Nat):Int)else(((Tl b a+Tl b (a+1)*2^8+Tl b (a+2)*2^16)*2^8:Nat):Int)-4294967296).fdiv (2^8))=sx 3 b a:=by
  rw[As3 _ (by omega),sx3];split<;>split<;>omega
 rw[e];rfl
theorem wQ(bits:Int)(n m:Nat)(hn:1<=n)(hm:b.length=m*n)(hl:b.length<=100000)(step:∀(q a:Nat) (acc:List Int32),a+n<=b.length->acc.length<=100000->Er bits b (q+1) (a:Int) acc=Er bits b q ((a+n:Nat):Int) (acc++[Int32.ofInt (sx n b a)])):
  ∀(j x q:Nat),x+j=m->j<q->Er bits b q ((x*n:Nat):Int) (mH n x b)=some (mH n m b,0)
 |0,x,q+1,hx,_=>by
  obtain rfl:x=m:=by omega
  rw[Er,Gp,Aac (by rw[Ae,Ac];simp;omega)];rfl
 |j+1,x,q+1,hx,hq=>by
  have h1:(x+1)*n<=m*n:=Adg n (by omega);rw[Alg,Bex]at h1;have h2:m<=m*n:=Bls m hn;rw[step q (x*n) _ (by omega) (by rw[uW];omega),<-Azj,show x*n+n=(x+1)*n by rw[Alg,Bex]];exact wQ bits n m hn hm hl step j (x+1) q (by omega) (by omega)
theorem Bhz{bits:Int}(h:Bk bits)(hl:b.length<=100000)(q a:Nat)(acc:List Int32)(ha:a+wB bits<=b.length)(hc:acc.length<=100000):
  Er bits b (q+1) (a:Int) acc=Er bits b q ((a+wB bits:Nat):Int) (acc++[Int32.ofInt (sx (wB bits) b a)]):=by
 rw[Er];obtain rfl|rfl|rfl:=h
 ·exact Bi0 b _ a acc ha hl hc _ _
 ·exact Bfr b _ a acc ha hl hc _ _
 ·exact Bfk b _ a acc ha hl hc _ _
theorem xE{bits:Int}(h:Bk bits){m:Nat}(hm:b.length=m*wB bits)(h4:m<=4000):Xj bits b=some (mH (wB bits) m b,0):=by
 have hn:=Aa5 bits;have hl:b.length<=12000:=by rw[hm];exact Bem h4 hn.2
 rw[Xj,NM,Afk h,Aa];simp only;rw[Aac (by rw[Aj];simp),Ap6 h,Bl (by rw[Aj];simp;omega),Aa];have hr:Gw (Ac b) (wB bits:Int)=0:=by rw[Ac,NP,hm,Bga];rfl
 have hq:Bw (Ac b) (wB bits:Int)=(m:Int):=by rw[Ac,TY (by omega),hm,Bl2 _ (by omega)]
 rw[Aac (by rw[Aj,hr];simp),Aa,hq,Aac (by rw[Aq];simp;omega),JY];have:=wQ b bits (wB bits) m (by omega) hm (by omega) (λq a acc ha hc=>Bhz b h (by omega) q a acc ha hc) m 0 Ax (by omega) (by have:=As;omega);simpa [mH]using this
end Go.Pl
namespace Go.Pl
open Go Go.Lv
theorem Bgb{c:Nat}{w:Nat}(hc:c<=6)(hw:Bk (w:Int)):Bw (Bj (c:Int) (w:Int)) 8=((c*wB (w:Int):Nat):Int):=by
 have h:w=8\/w=16\/w=24:=by unfold Bk at hw;omega
 have:c=0\/c=1\/c=2\/c=3\/c=4\/c=5\/c=6:=by omega
 rcases h with rfl|rfl|rfl<;>rcases this with rfl|rfl|rfl|rfl|rfl|rfl|rfl<;>rfl
theorem Bfv{w:Nat}(hw:Bk (w:Int)):8*wB (w:Int)=w/\w<=24:=by
 have h:w=8\/w=16\/w=24:=by unfold Bk at hw;omega
 rcases h with rfl|rfl|rfl<;>exact⟨rfl,by omega⟩
theorem Bg2{t c w:Nat}(ht:t<=4000)(hc:c<=6)(hw:Bk (w:Int)):Bw (Bj (Bj (t:Int) (c:Int)) (w:Int)) 8=((t*(c*wB (w:Int)):Nat):Int):=by
 obtain⟨h1,h2⟩:=Bfv hw;have e1:(t:Int)*(c:Int)=((t*c:Nat):Int):=by simp
 have b1:t*c<=4000*6:=Bem ht hc;have b2:t*c*w<=24000*24:=Bem b1 h2;rw[Fh (a:=(t:Int)) (by rw[e1];omega) (by rw[e1];omega),e1,Fh (by rw[<-Apa];omega) (by rw[<-Apa];omega),<-Apa,show(8:Int)=((8:Nat):Int)from rfl,TY (by omega)];congr 1;generalize wB (w:Int)=W at*
 subst h1;rw[Nat.mul_left_comm,Nat.mul_div_cancel_left _ (by omega),Awr]
def smF(w:Nat)(y:List UInt8×Int):List Int32:=if y.2≠0 then []else mH (wB (w:Int)) (y.1.length/wB (w:Int)) y.1
theorem yI(z:Int):(u8 z).toNat=(z %256).toNat:=by
 have:(z %256).toNat<256:=by omega
 rw[u8,Aol,Abl (by omega)]
theorem Aei{bits:Int}(h:Bk bits):∀(l:List Int32) (i j:Nat),i<l.length->j<wB bits-> (Dk bits l).getD (i*wB bits+j) 0=(OJ bits (l.getD i 0).toInt).getD j 0
 |[],i,j,hi,_=>by simp at hi
 |x::l,0,j,_,hj=>by
  have h1:=zD h x.toInt;have e:Dk bits (x::l)=OJ bits x.toInt++Dk bits l:=by simp[Dk]
  rw[e,Bma,Ay1,List.getD_eq_getElem?_getD,List.getD_eq_getElem?_getD,List.getElem?_append_left (by omega)];rfl
 |x::l,i+1,j,hi,hj=>by
  have h1:=zD h x.toInt;have e:Dk bits (x::l)=OJ bits x.toInt++Dk bits l:=by simp[Dk]
  have ih:=Aei h l i j (by simpa using hi) hj;have e2:(i+1)*wB bits+j=(OJ bits x.toInt).length+(i*wB bits+j):=by rw[Alg,Bex,h1];omega
  rw[e,e2,List.getD_eq_getElem?_getD,List.getElem?_append_right (by omega),Bhd,<-List.getD_eq_getElem?_getD,ih];rfl
theorem Bb3{bits:Int}(h:Bk bits)(l:List Int32)(hr:inR bits l)(i:Nat)(hi:i<l.length):Int32.ofInt (sx (wB bits) (Dk bits l) (i*wB bits))=l.getD i 0:=by
 have hm:l.getD i 0∈l:=by rw[List.getD_eq_getElem?_getD,List.getElem?_eq_getElem hi];exact Ami hi
 have hv:=hr _ hm;have g:∀j,j<wB bits->Tl (Dk bits l) (i*wB bits+j)=((OJ bits (l.getD i 0).toInt).getD j 0).toNat:=λj hj=>by rw[Tl,Aei h l i j hi hj]
 generalize l.getD i 0=x at*
 have key:sx (wB bits) (Dk bits l) (i*wB bits)=x.toInt:=by
  generalize hA:i*wB bits=a at*
  obtain rfl|rfl|rfl:=h
  ·have g0:=g 0 (by decide);have e1:(OJ 8 x.toInt).getD 0 0=u8 (x.toInt+128):=rfl;rw[Bhl,e1,yI]at g0;simp only[hB]at hv;simp at hv;have e2:wB 8=1:=rfl;rw[e2,sx,Aau rfl,g0];omega
  ·have g0:=g 0 (by decide);have g1:=g 1 (by decide);have e0:(OJ 16 x.toInt).getD 0 0=u8 x.toInt:=rfl;have e1:(OJ 16 x.toInt).getD 1 0=u8 (x.toInt/256):=rfl;rw[Bhl,e0,yI]at g0;rw[e1,yI]at g1;simp only[hB]at hv;simp at hv;have e2:wB 16=2:=rfl;rw[e2,sx2,g0,g1];split<;>omega
  ·have g0:=g 0 (by decide);have g1:=g 1 (by decide);have g2:=g 2 (by decide);have e0:(OJ 24 x.toInt).getD 0 0=u8 x.toInt:=rfl;have e1:(OJ 24 x.toInt).getD 1 0=u8 (x.toInt/256):=rfl;have e3:(OJ 24 x.toInt).getD 2 0=u8 (x.toInt/65536):=rfl;rw[Bhl,e0,yI]at g0;rw[e1,yI]at g1;rw[e3,yI]at g2;simp only[hB]at hv;simp at hv;have e2:wB 24=3:=rfl;rw[e2,sx3,g0,g1,g2];split<;>omega
 rw[key];simp
theorem Afy{bits:Int}(h:Bk bits)(l:List Int32)(hr:inR bits l):mH (wB bits) l.length (Dk bits l)=l:=by
 refine Bee (uW _ _ _) λi h1 h2=>?_;have:=Bb3 h l hr i h2;simp only[mH,Bkd,Bj9];rw[this,List.getD_eq_getElem?_getD,List.getElem?_eq_getElem h2];rfl
theorem Gts.vN{b p:List UInt8}{f c w r n A:Nat}{l:List Int}{k m:Nat}{x:List Int32}{s:List UInt8}{e:Int}(hw:Bk (w:Int))(g:Gts b p f c w r n A l k m x s e):smF w (s,e)=x:=by
 have hwb:=Aa5 (w:Int);by_cases he:e=0
 ·obtain⟨h1,h2,h3,_⟩:=g.some' he;have h4:=g.pos;have h5:=GR hw x;rw[smF,Aac (by simpa using he)];simp only;rw[h1,h5,Bl2 _ (by omega)];exact Afy hw x (eX hw (by omega) h3)
 ·rw[smF,Aau he,(g.none' he).2]
end Go.Pl
