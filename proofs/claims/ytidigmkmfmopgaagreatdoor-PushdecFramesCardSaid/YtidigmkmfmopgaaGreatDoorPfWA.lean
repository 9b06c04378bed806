/- A part of the proof of a statement of this seat (see the text that ends in Proof): LwBase, LwBitB, LwLe, LwBits, LwRef02, LwCut, LwUn, LwRice, LwDual, LwVal, LwI32, LwFil, LwUnm, LwSam, LwCrc, LwFrm, LwEc1, LwEc2, LwC64, LwWby, LwId, LwApe, LwStrip, LwLen, LwHead, LwSeek, LwOpen, LwFrame, LwBack, LwGot, LwWs, LwGoes, LwPol, LwRt, LwClip, LwPts, LwTrc, LwPd, LwDt, LwDu. No conditions of its own. -/
import Derived.Test.YtidigmkmfmopgaaGreatDoorPfBA
import Derived.Test.YtidigmkmfmopgaaGreatDoorPfPA
set_option linter.unusedVariables false
set_option linter.unusedSimpArgs false
namespace Go.Lv
theorem Aj{a b:Int}(h: -9223372036854775808<=a+b)(h':a+b<=9223372036854775807):Ad a b=a+b:=by rw[Bgr,Cx h h']
theorem Bp{a b:Int}(h: -9223372036854775808<=a-b)(h':a-b<=9223372036854775807):Am a b=a-b:=by rw[Bgn,Cx h h']
theorem Hh{a b:Int}(h: -9223372036854775808<=a*b)(h':a*b<=9223372036854775807):Bn a b=a*b:=by rw[Axd,Cx h h']
theorem UL(c:UInt8):(Af c:Int)=(c.toNat:Int):=by rw[Ay5,Cx]<;>have:=c.toNat_lt<;>omega
theorem Ad2(c:UInt32):(Af c:Int)=(c.toNat:Int):=by rw[Auc,Cx]<;>have:=c.toNat_lt<;>omega
theorem sI(c:UInt8):(Af c:UInt64)=UInt64.ofNat c.toNat:=by simp only[Af,EC,Jj]
theorem Dn(c:UInt32):(Af c:UInt64)=UInt64.ofNat c.toNat:=by simp only[Af,AW,Jj]
theorem UU(c:UInt64):(Af c:UInt8)=UInt8.ofNat c.toNat:=by simp only[Af,Lb,Qd]
theorem rC(c:UInt32):(Af c:UInt8)=UInt8.ofNat c.toNat:=by simp only[Af,AW,Qd]
theorem Xd(n:Nat):(Af (n:Int):UInt64)=UInt64.ofNat n:=by simp only[Af];exact Jj n
theorem Agx(n:Nat):(Af (n:Int):UInt32)=UInt32.ofNat n:=by simp only[Af];exact Ga n
theorem Axb(n:Nat):(Af (n:Int):UInt8)=UInt8.ofNat n:=by simp only[Af];exact Qd n
theorem vV{c:UInt64}(h:c.toNat<9223372036854775808):(Af c:Int)=(c.toNat:Int):=by rw[Atu,Cx]<;>omega
theorem Aqy:LIM=17179869184:=by decide
theorem Au:36893488147419103231<Ay:=by decide
theorem Bu{α:Type}{l:List α}{n:Nat}(h:n<l.length):Ap l (n:Int)=some l[n]:=by simp[Ap,h]
theorem Vv{α:Type}{l:List α}{n:Nat}(x:α)(h:n<l.length):Nz l (n:Int) x=some (l.set n x):=by simp[Nz,h]
theorem Ut{α:Type}{l:List α}{a b:Int}(h:0<=a)(h1:a<=b)(h2:b<=l.length):Bk l a b=some ((l.take b.toNat).drop a.toNat):=by rw[Bk,Aah ⟨h,h1,h2⟩]
theorem Ca{α:Type}{l:List α}{a:Int}(h:0<=a)(h1:a<=l.length):Bk l a (Ac l)=some (l.drop a.toNat):=by
 unfold Ac;rw[Ut h h1 (Int.le_refl _),Ahr,Bgh]
theorem Da{α:Type}{l:List α}{b:Int}(h:0<=b)(h1:b<=l.length):Bk l 0 b=some (l.take b.toNat):=by rw[Ut (Int.le_refl _) h h1];rfl
theorem By{α:Type}{l m:List α}(h:l.length+m.length<=17179869184):Dy l m=some (l++m):=by rw[Dy,Aqy,Aah h]
theorem tD{α:Type}{n:Int}{z:α}(h:0<=n)(h':n<=17179869184):mkI n z=some (List.replicate n.toNat z):=by rw[mkI,Aqy,Aah ⟨h,h'⟩]
theorem Bo{b:Bool}(h:b=true):Le b=some ():=by rw[h];rfl
theorem Aa{α β:Type}(a:α)(f:α->Option β):Option.bind (some a) f=f a:=rfl
theorem drop_cons{α:Type}{l:List α}{n:Nat}(h:n<l.length):l.drop n=l[n]::l.drop (n+1):=List.drop_eq_getElem_cons h
theorem Mg{α:Type}{l:List α}{n:Nat}(h:n<l.length):l.take (n+1)=l.take n++[l[n]]:=by rw[List.take_add_one,List.getElem?_eq_getElem h];rfl
def Fu:List UInt8->Nat
 |[]=>0
 |x::r=>x.toNat+256*Fu r
theorem Aid:∀l:List UInt8,Fu l<256^l.length
 |[]=>by simp[Fu]
 |x::r=>by
  have h:=Aid r;have:=x.toNat_lt;simp only[Fu,Anu,Av3];omega
theorem Adu:∀l m:List UInt8,Fu (l++m)=Fu l+256^l.length*Fu m
 |[],m=>by simp[Fu]
 |x::r,m=>by
  simp only[Fu,Bi1,Adu r m,Anu,Av3,Nat.mul_add];rw[An1 (256^r.length) 256,Bhu];omega
def qQ(l:List UInt8):UInt64:=UInt64.ofNat (Fu l)
theorem Bdo{l:List UInt8}(h:l.length<=8):Fu l<18446744073709551616:=by
 have h1:=Aid l;have h2:256^l.length<=256^8:=Ajs (by omega) h;exact Anx h1 (by simpa using h2)
theorem Ar1{l:List UInt8}(h:l.length<=4):Fu l<4294967296:=by
 have h1:=Aid l;have h2:256^l.length<=256^4:=Ajs (by omega) h;exact Anx h1 (by simpa using h2)
theorem aI{l:List UInt8}(h:l.length<=8):(qQ l).toNat=Fu l:=by
 rw[qQ,Akl,Ab3 (Bdo h)]
theorem OA{l:List UInt8}(h:l.length<=4):(Af (qQ l):Int)=(Fu l:Int):=by
 have:=Ar1 h;rw[vV]<;>rw[aI (by omega)];omega
def Te(n:Nat):Nat->List UInt8
 |0=>[]
 |w+1=>UInt8.ofNat n::Te (n/256) w
theorem Cf:∀(w n:Nat),(Te n w).length=w
 |0,_=>rfl
 |w+1,n=>by simp[Te,Cf w]
theorem Aj8:∀(w n:Nat),Te n (w+1)=Te n w++[UInt8.ofNat (n/256^w)]
 |0,n=>by simp[Te]
 |w+1,n=>by
  rw[Te,Aj8 w (n/256),Te];simp[Bia,Av3,An1]
def Hn(p:List UInt8)(i:Nat):Nat:=(p.getD (i/8) 0).toNat/2^(i %8) %2
theorem CY(p:List UInt8)(i:Nat):Hn p i<2:=Bhd _ (by omega)
def Cb(p:List UInt8):Nat->Nat->Nat
 |_,0=>0
 |a,n+1=>Hn p a+2*Cb p (a+1) n
theorem Qo(p:List UInt8):∀(n a:Nat),Cb p a n<2^n
 |0,_=>by simp[Cb]
 |n+1,a=>by
  have:=Qo p n (a+1);have:=CY p a;rw[Cb,Av3];omega
theorem PJ(p:List UInt8):∀(m n a:Nat),Cb p a (m+n)=Cb p a m+2^m*Cb p (a+m) n
 |0,n,a=>by simp[Cb]
 |m+1,n,a=>by
  rw[show m+1+n=(m+n)+1 by omega,Cb,Cb,PJ p m n (a+1),show a+1+m=a+(m+1) by omega,Av3,Nat.mul_add,An1 (2^m) 2,Bhu];omega
theorem uZ(p:List UInt8)(a:Nat):Cb p a 1=Hn p a:=by simp[Cb]
theorem oL(p:List UInt8)(a n:Nat):Cb p a (n+1)=Cb p a n+2^n*Hn p (a+n):=by rw[PJ p n 1 a,uZ]
theorem dU(p:List UInt8)(a:Nat):∀t:Nat,a %8+t<=8->Cb p a t=(p.getD (a/8) 0).toNat/2^(a %8) %2^t
 |0,_=>by simp[Cb,Nat.mod_one]
 |t+1,h=>by
  have h1:(a+t)/8=a/8:=by omega
  have h2:(a+t) %8=a %8+t:=by omega
  rw[oL,dU p a t (by omega),Hn,h1,h2,Nat.mod_pow_succ,Bk8,Bia]
theorem xI{p:List UInt8}:∀(n a:Nat),(∀k,k<n->Hn p (a+k)=0)->Cb p a n=0
 |0,_,_=>rfl
 |n+1,a,h=>by
  have h0:=h 0 (by omega);rw[Cb,xI n (a+1) λk hk=>by have:=h (k+1) (by omega);rwa [show a+1+k=a+(k+1) by omega]];rw[Bg2]at h0;omega
def okB(p:List UInt8)(n:Nat):Prop:=n<=330000/\p.length=(n+7)/8/\∀k,n<=k->k<8*p.length->Hn p k=0
def Rm(p:List UInt8)(a n:Nat):List UInt8:=(List.range ((n+7)/8)).map λj=>UInt8.ofNat (Cb p (a+8*j) (min 8 (n-8*j)))
theorem Kj(p:List UInt8)(a n:Nat):(Rm p a n).length=(n+7)/8:=by simp[Rm]
theorem Am5(p:List UInt8):∀(n a k:Nat),k<n->Cb p a n/2^k %2=Hn p (a+k)
 |n+1,a,0,_=>by have:=CY p a;rw[Cb];simp;omega
 |n+1,a,k+1,h=>by
  have hb:=CY p a;have e:(Hn p a+2*Cb p (a+1) n)/2=Cb p (a+1) n:=by omega
  rw[Cb,Av3,An1 (2^k) 2,<-Bia,e,Am5 p n (a+1) k (by omega),show a+1+k=a+(k+1) by omega]
theorem Avm(p:List UInt8)(n a k:Nat)(h:n<=k):Cb p a n/2^k %2=0:=by
 have:=Qo p n a;rw[Bha (Anx this (Ajs (by omega) h))]
theorem sS(p:List UInt8)(a n k:Nat):Hn (Rm p a n) k=if k<n then Hn p (a+k)else 0:=by
 rw[Hn];by_cases hj:k/8<(n+7)/8
 ·have e:(Rm p a n).getD (k/8) 0=UInt8.ofNat (Cb p (a+8*(k/8)) (min 8 (n-8*(k/8)))):=by
   rw[List.getD_eq_getElem?_getD,List.getElem?_eq_getElem (by rw[Kj];exact hj)];simp[Rm]
  have hlt:Cb p (a+8*(k/8)) (min 8 (n-8*(k/8)))<256:=by
   have:=Qo p (min 8 (n-8*(k/8))) (a+8*(k/8));have h2:2^(min 8 (n-8*(k/8)))<=2^8:=Ajs (by omega) (by omega);omega
  have hu:(UInt8.ofNat (Cb p (a+8*(k/8)) (min 8 (n-8*(k/8))))).toNat=Cb p (a+8*(k/8)) (min 8 (n-8*(k/8))):=by
   rw[Anz];exact Ab3 hlt
  rw[e,hu];by_cases hk:k<n
  ·rw[Aah hk,Am5 p _ _ _ (by omega),show a+8*(k/8)+k %8=a+k by omega]
  ·rw[Aab hk,Avm p _ _ _ (by omega)]
 ·have e:(Rm p a n).getD (k/8) 0=0:=by
   rw[List.getD_eq_getElem?_getD,List.getElem?_eq_none (by rw[Kj];omega)];rfl
  rw[e,Aab (by omega)];simp
theorem tE(p:List UInt8)(a n:Nat)(h:n<=330000):okB (Rm p a n) n:=⟨h,Kj p a n,λk hk _=>by rw[sS,Aab (by omega)]⟩
theorem Akq{p q:List UInt8}(hl:p.length=q.length)(h:∀k,k<8*p.length->Hn p k=Hn q k):p=q:=by
 apply Baq hl;intro i h1 h2;have hp:Cb p (8*i) 8=Cb q (8*i) 8:=by
  have key:∀(n a:Nat),a+n<=8*p.length->Cb p a n=Cb q a n:=by
   intro n
   induction n with
   |zero=>intros;rfl
   |succ n ih=>intro a ha;rw[Cb,Cb,h a (by omega),ih (a+1) (by omega)]
  exact key 8 (8*i) (by omega)
 rw[dU p _ 8 (by omega),dU q _ 8 (by omega)]at hp;have e1:8*i/8=i:=by omega
 have e2:8*i %8=0:=by omega
 rw[e1,e2]at hp;have a1:p.getD i 0=p[i]:=by simp[List.getD_eq_getElem?_getD,h1]
 have a2:q.getD i 0=q[i]:=by simp[List.getD_eq_getElem?_getD,h2]
 rw[a1,a2]at hp;apply UInt8.toNat_inj.1;have:=p[i].toNat_lt;have:=q[i].toNat_lt;simp at hp;omega
end Go.Lv
namespace Go.Pl
open Go Go.Lv
theorem Aye(b:List UInt8)(hb:b.length<4611686018427387904):∀(j q:Nat),j<=b.length->j<q->Qg b q (qQ (b.drop j)) ((j:Int)-1)=some (qQ b)
 |0,q+1,_,_=>by
  rw[Qg,EJ,Aab (by rw[Dq];simp)];simp[XR,VG]
 |j+1,q+1,hj,hq=>by
  rw[Qg,EJ,Aah (by rw[Dq];simp),show((j+1:Nat):Int)-1=(j:Int) by omega,Bu (by omega),Aa,Bp (by omega) (by omega)];have h:Ad (Bn (256:UInt64) (qQ (b.drop (j+1)))) (Af b[j]:UInt64)=qQ (b.drop j):=by
   rw[PK,PD,sI,drop_cons (n:=j) (by omega),qQ,qQ,Fu,UInt64.ofNat_add,UInt64.ofNat_mul];exact UInt64.add_comm _ _
  rw[h];exact Aye b hb j q (by omega) (by omega)
theorem Ane(b:List UInt8)(hb:b.length<4611686018427387904):Dz b=some (qQ b):=by
 have h:=Aye b hb b.length Ay (An0 _) (by have:=Au;omega);rw[Dz,VC,WJ];have e:Am (Ac b) 1=(b.length:Int)-1:=Bp (by unfold Ac;omega) (by unfold Ac;omega);rw[e,<-h,Bhb];rfl
theorem Az2{n c:UInt64}{i:Nat}(hn:n.toNat<2^i)(hc:c.toNat*2^i<18446744073709551616):wU n (Ea c i)=UInt64.ofNat (n.toNat+c.toNat*2^i):=by
 rw[Bdz];apply UInt64.toNat_inj.1;rw[UInt64.toNat_or,WO,Ab3 hc,An1,Nat.or_comm,<-Bew hn,Akl,Ab3,Bj7,An1];have h:=Bew hn c.toNat;have h2:2^i*c.toNat+n.toNat<2^64:=by
  rw[h];exact Nat.or_lt_two_pow (by rw[An1];simpa using hc) n.toNat_lt
 rw[Bj7];first|exact h2|(rw[An1];exact h2)
theorem Agf(b:List UInt8)(hb:b.length<=8):∀(j i q:Nat),i+j=b.length->j<q->EZ b q (qQ (b.take i)) (i:Int)=some (qQ b,0)
 |0,i,q+1,hi,_=>by
  rw[EZ,ZU,Aab (by rw[Ae,Ac];simp;omega),show i=b.length by omega,Bgh];rfl
 |j+1,i,q+1,hi,hq=>by
  have hlt:i<b.length:=by omega
  rw[EZ,ZU,Aah (by rw[Ae,Ac];simp;omega),Bu hlt,Aa,Hh (by omega) (by omega),Bo (by rw[Dq];simp;omega),Aa,Aj (by omega) (by omega)];have h:wU (qQ (b.take i)) (Ea (Af b[i]:UInt64) (GI.toZ ((8:Int)*(i:Int))).toNat)=qQ (b.take (i+1)):=by
   have e:(GI.toZ ((8:Int)*(i:Int))).toNat=8*i:=by show((8:Int)*(i:Int)).toNat=_;omega
   have e2:(2:Nat)^(8*i)=256^i:=by rw[Nat.pow_mul]
   have h1:=Aid (b.take i);rw[Ajr,Bep (by omega)]at h1;have h3:=b[i].toNat_lt;have hle:(256:Nat)^(i+1)<=256^8:=Ajs (by omega) (by omega);rw[Av3]at hle;have h4:(Af b[i]:UInt64).toNat=b[i].toNat:=by rw[sI,Akl];omega
   have h5:b[i].toNat*256^i<18446744073709551616:=by
    have:b[i].toNat*256^i<256*256^i:=Nat.mul_lt_mul_of_pos_right (by simpa using h3) (Bhx (by omega));simp at hle;omega
   rw[e,Az2 (by rw[aI (by simp;omega),e2];exact h1) (by rw[h4,e2];exact h5),aI (by simp;omega),h4,e2,Mg hlt];rw[qQ,Adu];simp only[Fu,Ajr,Bep (Nat.le_of_lt hlt),Nat.mul_zero,Bg2];rw[An1]
  rw[h];exact Agf b hb j (i+1) q (by omega) (by omega)
theorem Aki(b:List UInt8)(h1:1<=b.length)(h2:b.length<=8):mL b=some (qQ b,0):=by
 have h:=Agf b h2 b.length 0 Ay (by omega) (by have:=Au;omega);rw[mL,nN,Aab (by simp[Ae,Aq,Ac];omega),kR];exact h
def part(b:List UInt8)(at' w:Nat):List UInt8:=(b.take (at'+w)).drop at'
theorem Eo{b:List UInt8}{a w:Nat}(h:a+w<=b.length):(part b a w).length=w:=by simp[part];omega
theorem Afq(b:List UInt8)(a w:Nat)(h1:1<=w)(h2:w<=8)(h3:a+w<=b.length)(hb:b.length<4611686018427387904):eE b (a:Int) (w:Int)=some (qQ (part b a w),0):=by
 rw[eE,Aab (by simp[Ae,Aq];omega),Aab (by rw[Aq,Bp (by unfold Ac;omega) (by unfold Ac;omega),Ac];simp;omega),Aj (by omega) (by omega),Ut (by omega) (by omega) (by omega),Aa];rw[show((a:Int)+(w:Int)).toNat=a+w by omega,show(a:Int).toNat=a by omega];rw[Aki _ (by rw[show((b.take (a+w)).drop a).length=_ from Eo h3];exact h1) (by rw[show((b.take (a+w)).drop a).length=_ from Eo h3];exact h2),Aa];rfl
theorem yV(w:Nat)(hw:w<=1000):∀(j i q:Nat) (n:UInt64) (acc:List UInt8),i+j=w->j<q->acc.length+j<=1000000->Jl (w:Int) q n (i:Int) acc=some (acc++Te n.toNat j)
 |0,i,q+1,n,acc,hi,_,_=>by
  rw[Jl,Ue,Aab (by rw[Ae];simp;omega)];simp[FT,FP,Te]
 |j+1,i,q+1,n,acc,hi,hq,ha=>by
  rw[Jl,Ue,Aah (by rw[Ae];simp;omega)];have e:(Af (GJ n (256:UInt64)):UInt8)=UInt8.ofNat n.toNat:=by
   rw[UU,Amt];apply UInt8.toNat_inj.1;rw[Anz,Anz,UInt64.toNat_mod]
   show n.toNat %256 %256=_;omega
  have e2:(Cv n (256:UInt64)).toNat=n.toNat/256:=by rw[tF,Blb];rfl
  rw[By (by simp;omega),Aa,Aj (by omega) (by omega),e];have h:=yV w hw j (i+1) q (Cv n 256) (acc++[UInt8.ofNat n.toNat]) (by omega) (by omega) (by simp;omega);rw[e2]at h;rw[show((i:Int)+1)=((i+1:Nat):Int) by omega,h,Te];simp
theorem Adw(n:UInt64)(w:Nat)(hw:w<=1000):Fg n (w:Int)=some (Te n.toNat w):=by
 rw[Fg,FJ,FY];have h:=yV w hw w 0 Ay n [] (by omega) (by have:=Au;omega) (by simp;omega);simpa using h
theorem gR{α:Type}{l m:List α}{x y:α}{i:Nat}(h:l.length=i):(l++x::m).set i y=l++y::m:=by subst h;simp
theorem Aga(n:UInt64)(l4:List UInt8)(w:Nat)(hl:l4.length=w)(hw:w<=8):∀(j i q:Nat),i+j=w->j<q->FK n l4 q (i:Int) (Te n.toNat i++List.replicate j 0)=some (Te n.toNat w,0)
 |0,i,q+1,hi,_=>by
  rw[FK,aJ,Aab (by rw[Ae,Ac];simp;omega)];obtain rfl:i=w:=by omega
  simp[nA,yF]
 |j+1,i,q+1,hi,hq=>by
  have hlen:(Te n.toNat i++List.replicate (j+1) 0).length=i+(j+1):=by simp[Cf]
  rw[FK,aJ,Aah (by rw[Ae,Ac];simp;omega),Hh (by omega) (by omega),Bo (by rw[Dq];simp;omega),Aa,Bu (by rw[hlen];omega),Aa,Vv _ (by rw[hlen];omega),Aa,Aj (by omega) (by omega)];have e:(Af (Ck n (GI.toZ ((8:Int)*(i:Int))).toNat):UInt8)=UInt8.ofNat (n.toNat/256^i):=by
   have e:(GI.toZ ((8:Int)*(i:Int))).toNat=8*i:=by show((8:Int)*(i:Int)).toNat=_;omega
   rw[e,UU,GL,Nat.pow_mul]
  rw[e,Beu,gR (Cf _ _)];have h:=Aga n l4 w hl hw j (i+1) q (by omega) (by omega);rw[Aj8]at h;simpa using h
theorem Bbk(n:UInt64)(w:Nat)(h1:1<=w)(h2:w<=8)(h:n.toNat<256^w):Aan n (w:Int)=some true:=by
 rw[Aan];by_cases h8:w=8
 ·subst h8;rw[Aah (by rw[Ar];rfl)]
 ·rw[Aab (by rw[Ar];simp;omega),Hh (by omega) (by omega),Bo (by rw[Dq];simp;omega),Aa];have e:(GI.toZ ((8:Int)*(w:Int))).toNat=8*w:=by show((8:Int)*(w:Int)).toNat=_;omega
  rw[e,zW];have:Ck n (8*w)=0:=by
   apply UInt64.toNat_inj.1;rw[GL,Nat.pow_mul];exact Bha h
  rw[this];rfl
theorem XQ(n:UInt64)(w:Nat)(h1:1<=w)(h2:w<=8)(h:n.toNat<256^w):CU n (w:Int)=some (Te n.toNat w,0):=by
 rw[CU,nH,Aab (by simp[Ae,Aq];omega),Bbk n w h1 h2 h,Aa,Aab (by simp),tD (by omega) (by omega),Aa,Bo (by rw[Ar];simp),Aa,lR];have h:=Aga n (List.replicate (w:Int).toNat 0) w (by simp) h2 w 0 Ay (by omega) (by have:=Au;omega);simpa [Te]using h
theorem yK(n:Nat)(h:n<4611686018427387904):Ev (n:Int) (7:Int)=((n %8:Nat):Int):=by
 have e:Ev (n:Int) (7:Int)=wrap64 ((BitVec.ofInt 64 (n:Int)&&&BitVec.ofInt 64 7).toNat:Int):=rfl;rw[e,BitVec.toNat_and,Bh0,Bh0];have h1:((n:Int) %((2^64:Nat):Int)).toNat=n:=by omega
 have h2:((7:Int) %((2^64:Nat):Int)).toNat=2^3-1:=by decide
 rw[h1,h2,Bh8,Cx (by omega) (by omega)]
theorem Bhh(n:Nat):Ail (n:Int) (GI.toZ (3:UInt64)).toNat=((n/8:Nat):Int):=by
 have e:Ail (n:Int) (GI.toZ (3:UInt64)).toNat=(n:Int).fdiv 8:=rfl;rw[e,Avi _ (by omega)];omega
theorem Bil{t:Nat}(h:t<=8):Am (Ea (1:UInt8) t) (1:UInt8)=UInt8.ofNat (2^t-1):=by
 have:t=0\/t=1\/t=2\/t=3\/t=4\/t=5\/t=6\/t=7\/t=8:=by omega
 rcases this with rfl|rfl|rfl|rfl|rfl|rfl|rfl|rfl|rfl<;>decide
theorem bitsOf(c:UInt8)(off t:Nat)(h:t<=8):(Ev (Ck c off) (Am (Ea (1:UInt8) t) (1:UInt8))).toNat=c.toNat/2^off %2^t:=by
 have hp:2^t<=2^8:=Ajs (by omega) h;rw[Bil h,Aqu,UInt8.toNat_and,Aih,Anz,Ab3 (by have:=Bhx (n:=t) (show 0<2 by omega);omega),Bh8]
theorem Abc{p:List UInt8}{k:Nat}(h:k<p.length):Ap p (k:Int)=some (p.getD k 0):=by
 rw[Bu h];simp[List.getD_eq_getElem?_getD,h]
def Qr(p:List UInt8)(a n:Nat):UInt64:=UInt64.ofNat (Cb p a n)
theorem AL(p:List UInt8)(a n:Nat)(h:n<=64):(Qr p a n).toNat=Cb p a n:=by
 have h1:=Qo p n a;have h2:2^n<=2^64:=Ajs (by omega) h;rw[Qr,Akl,Ab3 (by omega)]
theorem Anl(p:List UInt8)(N:Int)(a n:Nat)(hn:n<=64)(ha:a+n<=8*p.length)(hp:p.length<=1000000):∀(j h q:Nat),h+j=n->j<q->QO (a:Int) (n:Int) p N q (Qr p a h) (h:Int)=some (Qr p a n)
 |j,h,q+1,hj,hq=>by
  rw[QO,mO];by_cases hlt:h<n
  ·have e1:Ad (a:Int) (h:Int)=((a+h:Nat):Int):=by rw[Aj (by omega) (by omega)];omega
   have e2:Fe (Am (n:Int) (h:Int)) (Am (8:Int) (((a+h) %8:Nat):Int))=((min (n-h) (8-(a+h) %8):Nat):Int):=by
    rw[NP,Bp (by omega) (by omega),Bp (by omega) (by omega)];omega
   have hm:(a+h)/8<p.length:=by omega
   rw[Aah (by rw[Ae];simp;omega),e1,Bhh,Abc hm,Aa,yK _ (by omega),Bo (by rw[Dq];simp;omega),Aa,e2,Bo (by rw[Dq];simp),Aa,Bo (by rw[Dq];simp),Aa];generalize hT:min (n-h) (8-(a+h) %8)=T;have hT8:T<=8:=by omega
   have hT1:1<=T:=by omega
   have hb:(a+h) %8+T<=8:=by omega
   have hv:=dU p (a+h) T hb;have z1:(GI.toZ (((a+h) %8:Nat):Int)).toNat=(a+h) %8:=rfl;have z2:(GI.toZ ((T:Nat):Int)).toNat=T:=rfl;have z3:(GI.toZ ((h:Nat):Int)).toNat=h:=rfl;rw[z1,z2,z3];have hx:(Af (Ev (Ck (p.getD ((a+h)/8) 0) ((a+h) %8)) (Am (Ea (1:UInt8) T) (1:UInt8))):UInt64).toNat=Cb p (a+h) T:=by
    rw[sI,Akl,bitsOf _ _ _ hT8,<-hv];have:=Qo p T (a+h);have h2:2^T<=2^8:=Ajs (by omega) hT8;omega
   have hlt2:=Qo p (h+T) a;rw[PJ]at hlt2;have h64:2^(h+T)<=2^64:=Ajs (by omega) (by omega);have hor:wU (Qr p a h) (Ea (Af (Ev (Ck (p.getD ((a+h)/8) 0) ((a+h) %8)) (Am (Ea (1:UInt8) T) (1:UInt8))):UInt64) h)=Qr p a (h+T):=by
    rw[Az2 (by rw[AL p a h (by omega)];exact Qo p h a) (by rw[hx,An1];omega),hx,AL p a h (by omega),Qr,PJ,An1 (2^h)]
   rw[hor,Aj (by omega) (by omega),show(h:Int)+((T:Nat):Int)=((h+T:Nat):Int) by omega];exact Anl p N a n hn ha hp (j-T) (h+T) q (by omega) (by omega)
  ·rw[Aab (by rw[Ae];simp;omega),show h=n by omega];rfl
theorem get_eq(p:List UInt8)(N:Int)(a n:Nat)(hn:n<=64)(ha:a+n<=8*p.length)(hp:p.length<=1000000):tN p N (a:Int) (n:Int)=some (Qr p a n):=by
 have:=Anl p N a n hn ha hp n 0 Ay (by omega) (by have:=Au;omega);exact this
theorem BD{p:List UInt8}{n:Nat}(h:okB p n):Kg p (n:Int)=some 0:=by
 obtain⟨h1,h2,h3⟩:=h;have e7:Ad (n:Int) 7=((n+7:Nat):Int):=by rw[Aj (by omega) (by omega)];omega
 rw[Kg,e7,Bhh,Aab (by simp[Ae,Aq,Ak,Ac,h2];omega),yK _ (by omega)];by_cases hz:n %8=0
 ·rw[Aab (by rw[Aq];simp;omega)]
 ·have el:Am (Ac p) 1=((p.length-1:Nat):Int):=by rw[Ac,Bp (by omega) (by omega)];omega
  rw[Aah (by rw[Aq];simp;omega),el,Abc (by omega),Aa,Bo (by rw[Dq];simp;omega),Aa];have z:(GI.toZ ((n %8:Nat):Int)).toNat=n %8:=rfl;have hs:Ck (p.getD (p.length-1) 0) (n %8)=0:=by
   apply UInt8.toNat_inj.1;rw[Aih];have hv:=dU p n (8-n %8) (by omega);have h0:Cb p n (8-n %8)=0:=xI _ _ λk hk=>h3 _ (by omega) (by omega);rw[h0,show n/8=p.length-1 by omega]at hv;have hlt:(p.getD (p.length-1) 0).toNat/2^(n %8)<2^(8-n %8):=by
    have:=(p.getD (p.length-1) 0).toNat_lt;rw[Nat.div_lt_iff_lt_mul (Bhx (by omega)),<-Bk8,show 8-n %8+n %8=8 by omega];simpa using this
   rw[Ab3 hlt]at hv;exact hv.symm
  rw[z,hs,Aab (by rw[Ap2];simp)]
theorem vW{p:List UInt8}{N:Nat}(h:okB p N)(a n:Nat)(hn:n<=64):HN p (N:Int) (a:Int) (n:Int)=some (if N<a+n then(0,24)else(Qr p a n,0)):=by
 obtain⟨h1,h2,h3⟩:=h;rw[HN,BD ⟨h1,h2,h3⟩,Aa,Aab (by rw[Ak];simp),Aab (by simp[Ae,Aq];omega),Bp (by omega) (by omega)];by_cases hl:N<a+n
 ·rw[Aah (by rw[Aq];simp;omega),Aah hl]
 ·rw[Aab (by rw[Aq];simp;omega),get_eq p N a n hn (by omega) (by omega),Aa,Aab hl]
theorem Bj0(c:Nat)(h:c<4611686018427387904):Cv (c:Int) (2:Int)=((c/2:Nat):Int):=by
 rw[SF,Be1 (by omega),Cx (by omega) (by omega)];omega
theorem Bht(c:Nat)(h:c<4611686018427387904):Cv (c:Int) (8:Int)=((c/8:Nat):Int):=by
 rw[SF,Be1 (by omega),Cx (by omega) (by omega)];omega
theorem Azu(c:Nat):Ic (c:Int) (8:Int)=((c %8:Nat):Int):=by rw[Ic,Bjk (by omega)];omega
theorem Bjv(c:Nat):Ic (c:Int) (2:Int)=((c %2:Nat):Int):=by rw[Ic,Bjk (by omega)];omega
theorem Aqe(i c:Nat)(hc:c<256):∀(j k q:Nat),k+j=i %8->j<q->Qc (i:Int) q ((c/2^k:Nat):Int) (k:Int)=some (((c/2^(i %8) %2:Nat):Int))
 |0,k,q+1,hk,_=>by
  rw[Qc,DV,Azu,Aab (by rw[Ae];simp;omega),VL,XN,Bjv,show k=i %8 by omega]
 |j+1,k,q+1,hk,hq=>by
  have hle:c/2^k<=c:=As2 _ _;rw[Qc,DV,Azu,Aah (by rw[Ae];simp;omega),Bj0 _ (by omega),Aj (by omega) (by omega),Bia,<-Av3];exact Aqe i c hc j (k+1) q (by omega) (by omega)
theorem xD(p:List UInt8)(N:Int)(i:Nat)(h:i/8<p.length)(hi:i<4611686018427387904):Nq p N (i:Int)=some ((Hn p i:Nat):Int):=by
 have hc:=(p.getD (i/8) 0).toNat_lt;have:=Aqe i (p.getD (i/8) 0).toNat (by simpa using hc) (i %8) 0 Ay (by omega) (by have:=Au;omega);rw[Nq,VP,Bht _ hi,Abc h,Aa,UL,XB];simpa [Hn]using this
theorem Acr(p:List UInt8)(N:Int)(a n:Nat)(ha:a+n<=8*p.length)(hp:p.length<=1000000):∀(j q:Nat),j<=n->j<q->Li (a:Int) p N q (Qr p (a+j) (n-j)) ((j:Int)-1)=some (Qr p a n)
 |0,q+1,_,_=>by
  rw[Li,Xr,Aab (by rw[Dq];simp)];rfl
 |j+1,q+1,hj,hq=>by
  have hb:=CY p (a+j);rw[Li,Xr,show((j+1:Nat):Int)-1=(j:Int) by omega,Aah (by rw[Dq];simp),Aj (a:=(a:Int)) (by omega) (by omega),show(a:Int)+(j:Int)=((a+j:Nat):Int) by omega,xD p N (a+j) (by omega) (by omega),Aa,Bp (by omega) (by omega)];have e:Ad (Bn (2:UInt64) (Qr p (a+(j+1)) (n-(j+1)))) (Af ((Hn p (a+j):Nat):Int):UInt64)=Qr p (a+j) (n-j):=by
   rw[PK,PD,Xd,Qr,Qr,show n-j=(n-(j+1))+1 by omega,Cb,show a+j+1=a+(j+1) by omega,UInt64.ofNat_add,UInt64.ofNat_mul];exact UInt64.add_comm _ _
  rw[e];exact Acr p N a n ha hp j q (by omega) (by omega)
theorem qZ(p:List UInt8)(N:Int)(a n:Nat)(ha:a+n<=8*p.length)(hp:p.length<=1000000):Wf p N (a:Int) (n:Int)=some (Qr p a n):=by
 have:=Acr p N a n ha hp n Ay (An0 _) (by have:=Au;omega);have hz:Qr p (a+n) (n-n)=0:=by rw[Nat.sub_self];rfl
 rw[hz]at this;rw[Wf,MG,KY,Bp (by omega) (by omega)];exact this
theorem Ar0(bit:Int)(N:Nat)(l:List UInt8):∀(j k q:Nat),k+j=N %8->j<q->Oi bit (N:Int) l q ((2^k:Nat):Int) (k:Int)=CJ bit ((2^(N %8):Nat):Int) (N:Int) l
 |0,k,q+1,hk,_=>by
  rw[Oi,BZ,Azu,Aab (by rw[Ae];simp;omega),show k=N %8 by omega]
 |j+1,k,q+1,hk,hq=>by
  have hp:2^k<=2^8:=Ajs (by omega) (by omega);have e:Bn ((2^k:Nat):Int) 2=((2^(k+1):Nat):Int):=by
   rw[Av3];generalize 2^k=K at*
   rw[Hh (by omega) (by omega)];omega
  rw[Oi,BZ,Azu,Aah (by rw[Ae];simp;omega),e,Aj (by omega) (by omega)];exact Ar0 bit N l j (k+1) q (by omega) (by omega)
theorem Aa7(p:List UInt8)(a n j:Nat)(h:j<(n+7)/8):(Rm p a n)[j]'(by rw[Kj];exact h)=UInt8.ofNat (Cb p (a+8*j) (min 8 (n-8*j))):=by simp[Rm]
theorem tW(p:List UInt8)(a t:Nat)(h:t<=8):Cb p a t<256:=by
 have h1:=Qo p t a;have h2:2^t<=2^8:=Ajs (by omega) h;omega
def room(p:List UInt8)(a n:Nat):List UInt8:=if n %8=0 then Rm p a n++[0]else Rm p a n
theorem Pu(p:List UInt8)(a n:Nat):(room p a n).length=n/8+1:=by
 rw[room];split<;>simp[Kj]<;>omega
theorem Amy(p:List UInt8)(a n j:Nat)(h:j<n/8+1):(room p a n)[j]'(by rw[Pu];exact h)=UInt8.ofNat (Cb p (a+8*j) (min 8 (n-8*j))):=by
 have h0:(room p a n)[j]? =some (UInt8.ofNat (Cb p (a+8*j) (min 8 (n-8*j)))):=by
  rw[room];split
  ·by_cases hj:j<(n+7)/8
   ·rw[List.getElem?_append_left (by rw[Kj];exact hj),List.getElem?_eq_getElem (by rw[Kj];exact hj),Aa7 p a n j hj]
   ·rw[List.getElem?_append_right (by rw[Kj];omega),Kj,show j-(n+7)/8=0 by omega,show n-8*j=0 by omega];rfl
  ·rw[List.getElem?_eq_getElem (by rw[Kj];omega),Aa7 p a n j (by omega)]
 rw[List.getElem?_eq_getElem (by rw[Pu];exact h)]at h0;exact Bhg h0
theorem tO(p:List UInt8)(a n T:Nat)(h1:1<=T)(h:n %8+T<=8):(room p a n).set (n/8) (UInt8.ofNat (Cb p (a+8*(n/8)) (n %8+T)))=Rm p a (n+T):=by
 apply Baq (by rw[Bix,Pu,Kj];omega);intro j g1 g2;rw[Bix,Pu]at g1;rw[Blc,Aa7 p a (n+T) j (by rw[Kj]at g2;exact g2)];split
 ·rename_i e;subst e;rw[show min 8 (n+T-8*(n/8))=n %8+T by omega]
 ·rw[Amy p a n j g1,show min 8 (n-8*j)=8 by omega,show min 8 (n+T-8*j)=8 by omega]
theorem oO(p:List UInt8)(a n:Nat):(room p a n)[n/8]'(by rw[Pu];omega)=UInt8.ofNat (Cb p (a+8*(n/8)) (n %8)):=by
 rw[Amy p a n _ (by omega),show min 8 (n-8*(n/8))=n %8 by omega]
theorem Azn(p:List UInt8)(a n:Nat)(hn:n<=400000):BF (Rm p a n) (n:Int) ((Hn p (a+n):Nat):Int)=some (Rm p a (n+1),((n+1:Nat):Int)):=by
 have hb:=CY p (a+n);have hp:2^(n %8)<=2^7:=Ajs (by omega) (by omega);have hroom:BF (Rm p a n) (n:Int) ((Hn p (a+n):Nat):Int)=BL ((Hn p (a+n):Nat):Int) (n:Int) (room p a n):=by
  rw[BF,SX,Azu,room];by_cases h0:n %8=0
  ·rw[Aah (by rw[Ar,h0];rfl),By (by rw[Kj];simp;omega),Aa,Aah h0]
  ·rw[Aab (by rw[Ar];simp;omega),Aab h0]
 have hl:=Ar0 ((Hn p (a+n):Nat):Int) n (room p a n) (n %8) 0 Ay (by omega) (by have:=Au;omega);rw[hroom,BL,SZ,TK];refine Bg6 hl ?_;have hg:Ap (room p a n) ((n/8:Nat):Int)=some (UInt8.ofNat (Cb p (a+8*(n/8)) (n %8))):=by
  rw[Bu (by rw[Pu];omega),oO]
 have hlt:=tW p (a+8*(n/8)) (n %8+1) (by omega);have hsn:=oL p (a+8*(n/8)) (n %8);rw[show a+8*(n/8)+n %8=a+n by omega]at hsn;have hm:Bn ((Hn p (a+n):Nat):Int) ((2^(n %8):Nat):Int)=((2^(n %8)*Hn p (a+n):Nat):Int):=by
  have hle:2^(n %8)*Hn p (a+n)<=2^7*1:=Bgv hp (by omega);rw[Axd,<-Av5,Cx (by omega) (by rw[An1];omega),An1]
 have hx:Ad (UInt8.ofNat (Cb p (a+8*(n/8)) (n %8))) (Af (((2^(n %8)*Hn p (a+n):Nat):Int)):UInt8)=UInt8.ofNat (Cb p (a+8*(n/8)) (n %8+1)):=by
  rw[Bcl,Axb,hsn,UInt8.ofNat_add]
 rw[CJ,SU,Bht _ (by omega),hg,Aa,Aa,Aa,hm,hx,Vv _ (by rw[Pu];omega),Aa,tO p a n 1 (by omega) (by omega),Aj (by omega) (by omega)];rfl
theorem uV(p:List UInt8)(N:Int)(a n:Nat)(ha:a+n<=8*p.length)(hp:p.length<=1000000)(hn:n<=300000):∀(j m q:Nat),m+j=n->j<q->Je ((a+n:Nat):Int) p N q ((a+m:Nat):Int) (m:Int) (Rm p a m)=some (Rm p a n,(n:Int))
 |0,m,q+1,hm,_=>by
  rw[Je,Uk,Aab (by rw[Ae];simp;omega),show m=n by omega];rfl
 |j+1,m,q+1,hm,hq=>by
  rw[Je,Uk,Aah (by rw[Ae];simp;omega),xD p N (a+m) (by omega) (by omega),Aa,Azn p a m (by omega),Aa];simp only;rw[Aj (by omega) (by omega)];exact uV p N a n ha hp hn j (m+1) q (by omega) (by omega)
theorem Anr(p:List UInt8)(N:Int)(a n:Nat)(ha:a+n<=8*p.length)(hp:p.length<=1000000)(hn:n<=300000):QX p N (a:Int) ((a+n:Nat):Int)=some (Rm p a n,(n:Int)):=by
 have:=uV p N a n ha hp hn n 0 Ay (by omega) (by have:=Au;omega);exact this
theorem Bgo{t:Nat}(h:t<=8):Am (Ea (1:UInt64) t) (1:UInt64)=UInt64.ofNat (2^t-1):=by
 have:t=0\/t=1\/t=2\/t=3\/t=4\/t=5\/t=6\/t=7\/t=8:=by omega
 rcases this with rfl|rfl|rfl|rfl|rfl|rfl|rfl|rfl|rfl<;>decide
theorem Bhv(v:UInt64){t:Nat}(h:t<=8):(Ev v (Am (Ea (1:UInt64) t) (1:UInt64))).toNat=v.toNat %2^t:=by
 have hp:2^t<=2^8:=Ajs (by omega) h;rw[Bgo h,Aee,UInt64.toNat_and,Akl,Ab3 (by have:=Bhx (n:=t) (show 0<2 by omega);omega),Bh8]
theorem or8{v w i:Nat}(hv:v<2^i)(hw:w*2^i<256)(hi:i<8):wU (UInt8.ofNat v) (Ea (UInt8.ofNat w) i)=UInt8.ofNat (v+w*2^i):=by
 have hp:2^i<=2^8:=Ajs (by omega) (by omega);have hpos:0<2^i:=Bhx (by omega);have hw2:w<256:=Bhe (Nat.le_mul_of_pos_right w hpos) hw;rw[Bfd];apply UInt8.toNat_inj.1;have e1:(UInt8.ofNat v).toNat=v:=by rw[Anz,Ab3 (by omega)]
 have e2:(UInt8.ofNat w).toNat=w:=by rw[Anz,Ab3 (by omega)]
 rw[UInt8.toNat_or,Bdn,e1,e2,Ab3 hw,An1 w,Nat.or_comm,<-Bew hv,Anz,Bj7 v];rw[An1]at hw;have hb:2^i*w+v<256:=by
  rw[Bew hv];exact Nat.or_lt_two_pow (n:=8) hw (by omega)
 rw[Ab3 hb]
theorem Amz(p:List UInt8)(a n T:Nat)(h:T<=n)(hn:n<=64):Ck (Qr p a n) T=Qr p (a+T) (n-T):=by
 apply UInt64.toNat_inj.1;rw[GL,AL p a n hn,AL p (a+T) (n-T) (by omega)];have:=Qo p T a
 conv=>lhs;rw[show n=T+(n-T) by omega,PJ,Nat.add_mul_div_left _ _ (Bhx (by omega)),Bha this,Bar]
theorem Amd(p:List UInt8)(a n T:Nat)(h:T<=n)(hn:n<=64):(Qr p a n).toNat %2^T=Cb p a T:=by
 have:=Qo p T a;rw[AL p a n hn]
 conv=>lhs;rw[show n=T+(n-T) by omega,PJ,Nat.add_mul_mod_self_left,Ab3 this]
theorem Abe(bk:Int->Int->List UInt8->Option (List UInt8×Int×Int))(to':Int)(p:List UInt8)(N fr:Int)(r6:UInt64)(a:Nat):∀(j m q:Nat),m+j<=300000->j<=64->j<q->
  Rp bk to' p N fr r6 q (Qr p (a+m) j) (j:Int) (m:Int) (Rm p a m)=TW bk to' p N fr ((m+j:Nat):Int) (Rm p a (m+j))
 |0,m,q+1,_,_,_=>by
  rw[Rp,TU,Aab (by rw[Aq];simp)];rfl
 |j+1,m,q+1,hm,hj,hq=>by
  have hroom:Rp bk to' p N fr r6 (q+1) (Qr p (a+m) (j+1)) ((j+1:Nat):Int) (m:Int) (Rm p a m)=TM (Rp bk to' p N fr r6 q) to' fr p N r6 (Qr p (a+m) (j+1)) ((j+1:Nat):Int) (m:Int) (room p a m):=by
   rw[Rp,TU,Aah (by rw[Aq];simp),yK m (by omega),room];by_cases h0:m %8=0
   ·rw[Aah (by rw[Ar,h0];rfl),By (by rw[Kj];simp;omega),Aa,Aah h0]
   ·rw[Aab (by rw[Ar];simp;omega),Aab h0]
  have hl:Am (Ac (room p a m)) 1=((m/8:Nat):Int):=by
   rw[Ac,Pu,Bp (by omega) (by omega)];omega
  have e2:Fe ((j+1:Nat):Int) (Am (8:Int) ((m %8:Nat):Int))=((min (j+1) (8-m %8):Nat):Int):=by
   rw[NP,Bp (by omega) (by omega)];omega
  rw[hroom,TM,hH,yK m (by omega),e2,hl];generalize hT:min (j+1) (8-m %8)=T;have hT1:1<=T:=by omega
  have hT8:m %8+T<=8:=by omega
  have hg:Ap (room p a m) ((m/8:Nat):Int)=some (UInt8.ofNat (Cb p (a+8*(m/8)) (m %8))):=by
   rw[Bu (by rw[Pu];omega),oO]
  have z1:(GI.toZ ((m %8:Nat):Int)).toNat=m %8:=rfl;have z2:(GI.toZ ((T:Nat):Int)).toNat=T:=rfl;have hlt:=tW p (a+8*(m/8)) (m %8+T) (by omega);have hadd:=PJ p (m %8) T (a+8*(m/8));rw[show a+8*(m/8)+m %8=a+m by omega]at hadd;have hbyte:(Af (Ev (Qr p (a+m) (j+1)) (Am (Ea (1:UInt64) T) (1:UInt64))):UInt8)=UInt8.ofNat (Cb p (a+m) T):=by
   rw[UU,Bhv _ (by omega),Amd p (a+m) (j+1) T (by omega) hj]
  have hnew:wU (UInt8.ofNat (Cb p (a+8*(m/8)) (m %8))) (Ea (UInt8.ofNat (Cb p (a+m) T)) (m %8))=UInt8.ofNat (Cb p (a+8*(m/8)) (m %8+T)):=by
   rw[or8 (Qo _ _ _) (by rw[An1];omega) (by omega),hadd,An1 (2^(m %8))]
  rw[hg,z1,z2,hbyte];simp only[Aa];rw[Bo (by rw[Dq];simp),Aa,Bo (by rw[Dq];simp;omega),Aa,hnew,Vv _ (by rw[Pu];omega),Aa,tO p a m T hT1 hT8,gI,tI,yK m (by omega),e2,hT,Bo (by rw[Dq];simp),Aa,z2,Amz p (a+m) (j+1) T (by omega) hj,Bp (by omega) (by omega),Aj (by omega) (by omega)];have ih:=Abe bk to' p N fr r6 a (j+1-T) (m+T) q (by omega) (by omega) (by omega);rw[show m+T+(j+1-T)=m+(j+1) by omega]at ih;rw[<-ih,show a+m+T=a+(m+T) by omega,show((j+1:Nat):Int)-((T:Nat):Int)=((j+1-T:Nat):Int) by omega,show(m:Int)+((T:Nat):Int)=((m+T:Nat):Int) by omega]
theorem Ala(p:List UInt8)(N:Int)(a n:Nat)(ha:a+n<=8*p.length)(hp:p.length<=1000000)(hn:n<=300000):∀(j m f q:Nat),(f=m\/n<=f/\m=n)->m+j=n->f<=n+64->j<q->AZ ((a+n:Nat):Int) p N q ((a+f:Nat):Int) (m:Int) (Rm p a m)=some (Rm p a n,(n:Int),0)
 |j,m,f,q+1,hf,hm,hf2,hq=>by
  rw[AZ,fY];by_cases hlt:f<n
  ·obtain rfl:f=m:=by omega
   have e1:Fe (64:Int) (Am ((a+n:Nat):Int) ((a+f:Nat):Int))=((min 64 (n-f):Nat):Int):=by
    rw[NP,Bp (by omega) (by omega)];omega
   rw[Aah (by rw[Ae];simp;omega),e1,get_eq p N (a+f) _ (by omega) (by omega) hp,Aa,gT];have h1:=Abe (AZ ((a+n:Nat):Int) p N q) ((a+n:Nat):Int) p N ((a+f:Nat):Int) (Qr p (a+f) (min 64 (n-f))) a (min 64 (n-f)) f Ay (by omega) (by omega) (by have:=Au;omega);refine Bg6 h1 ?_;rw[TW,vF,Aj (by omega) (by omega),show((a+f:Nat):Int)+64=((a+(f+64):Nat):Int) by omega];exact Ala p N a n ha hp hn (j-min 64 (n-f)) (f+min 64 (n-f)) (f+64) q (by omega) (by omega) (by omega) (by omega)
  ·rw[Aab (by rw[Ae];simp;omega),fG,tB,show m=n by omega]
theorem Bf6{p:List UInt8}{N:Nat}(h:okB p N)(a n:Nat)(ha:a+n<=N)(hn:n<=300000):lO p (N:Int) (a:Int) ((a+n:Nat):Int)=some (Rm p a n,(n:Int),0):=by
 obtain⟨h1,h2,h3⟩:=h;have:=Ala p N a n (by omega) (by omega) hn n 0 0 Ay (by omega) (by omega) (by omega) (by have:=Au;omega);rw[lO,lD,BD ⟨h1,h2,h3⟩,Aa,Aab (by rw[Ak];simp),Aab (by simp[Ae,Aq];omega),eZ];exact this
def Gp(p:List UInt8):Nat->Nat->Nat
 |_,0=>0
 |a,m+1=>if Hn p a=1 then 1+Gp p (a+1) m else 0
theorem aE(p:List UInt8):∀(m a:Nat),Gp p a m<=m
 |0,_=>An0 _
 |m+1,a=>by rw[Gp];split<;>have:=aE p m (a+1)<;>omega
theorem Akc(p:List UInt8):∀(m a:Nat),∃s,Cb p a m+1=2^(Gp p a m+1)*s+2^Gp p a m/\ (Gp p a m=m->s=0)
 |0,a=>⟨0,by simp[Cb,Gp],λ_=>rfl⟩
 |m+1,a=>by
  have hb:=CY p a;obtain⟨s,h1,h2⟩:=Akc p m (a+1);by_cases h:Hn p a=1
  ·refine⟨s,?_,λe=>h2 ?_⟩
   ·rw[Gp,Aah h,Cb,h,show 1+Gp p (a+1) m+1=(Gp p (a+1) m+1)+1 by omega,show 1+Gp p (a+1) m=Gp p (a+1) m+1 by omega,Av3,Av3 (n:=2) (m:=Gp p (a+1) m)];rw[Av3]at h1;generalize Cb p (a+1) m=V at*
    generalize 2^Gp p (a+1) m=W at*
    have e1:W*2*2*s=2*(W*2*s):=by rw[Nat.mul_right_comm (W*2) 2 s,An1]
    omega
   ·rw[Gp,Aah h]at e;omega
  ·refine⟨Cb p (a+1) m,?_,λe=>?_⟩
   ·rw[Gp,Aab h,Cb];simp;omega
   ·rw[Gp,Aab h]at e;omega
theorem Bb6{n t s:Nat}(h:2^(t+1)*s+2^t<=2^n)(ht:t<n)(x:Nat)(hx:x=2^n-(2^(t+1)*s+2^t)):x&&& (2^(t+1)*s+2^t)=2^t:=by
 have hpos:0<2^t:=Bhx (by omega);have hlt:2^t<2^(t+1):=by rw[Av3];omega
 have e:x=2^n-((2^(t+1)*s+(2^t-1))+1):=by rw[hx];congr 1;omega
 apply Nat.eq_of_testBit_eq;intro i;rw[Nat.testBit_and,e,Nat.testBit_two_pow_sub_succ (by omega),Nat.testBit_two_pow_mul_add _ (by omega),Nat.testBit_two_pow_mul_add _ hlt];by_cases hi:i<t+1
 ·rw[Aah hi,Aah hi,Nat.testBit_two_pow_sub_one,Nat.testBit_two_pow];by_cases hit:t=i
  ·subst hit;simp;exact ht
  ·have:¬i=t:=λe=>hit e.symm;simp[hit]
 ·rw[Aab hi,Aab hi,Nat.testBit_two_pow];have:¬t=i:=by omega
  simp[this]
theorem Az0(a:UInt64):(Ae0 a).toNat=18446744073709551615-a.toNat:=by
 have h:=a.toNat_lt;have e:Ae0 a=UInt64.ofNat (BitVec.ofInt 64 18446744073709551615^^^BitVec.ofInt 64 (a.toNat:Int)).toNat:=Jj _;have h1:BitVec.ofInt 64 (a.toNat:Int)=a.toBitVec:=Aig a;have h2:(BitVec.ofInt 64 18446744073709551615:BitVec 64)=BitVec.allOnes 64:=by decide
 rw[e,Akl,h1,h2,BitVec.allOnes_xor,BitVec.toNat_not];show(18446744073709551616-1-a.toNat) %18446744073709551616=18446744073709551615-a.toNat;omega
theorem Azr(a:UInt64):(uT a).toNat=(18446744073709551616-a.toNat) %18446744073709551616:=by
 have h:=a.toNat_lt;have e:uT a=UInt64.ofNat ((0-(a.toNat:Int)) %18446744073709551616).toNat:=Aip _;rw[e,Akl];show((0-(a.toNat:Int)) %18446744073709551616).toNat %18446744073709551616=_;omega
def Bh4:List UInt8:=[0,1,56,2,57,49,28,3,61,58,42,50,38,29,17,4,62,47,59,36,45,43,51,22,53,39,33,30,24,18,12,5,63,55,48,27,60,41,37,16,46,35,44,21,52,32,23,11,54,26,40,15,34,20,31,10,25,14,19,9,13,8,7,6]
theorem Aum:∀t:Fin 64,Ap Bh4 (GI.toZ (Ck (Bn (UInt64.ofNat (2^t.val)) (285870213051353865:UInt64)) (GI.toZ (58:UInt64)).toNat))=some (UInt8.ofNat t.val):=by decide +kernel
theorem Bhl(x:UInt64)(t s:Nat)(ht:t<64)(h:x.toNat+(2^(t+1)*s+2^t)=18446744073709551616):Ia x=some (t:Int):=by
 have hpos:0<2^t:=Bhx (by omega);have hx:x.toNat=2^64-(2^(t+1)*s+2^t):=by show x.toNat=18446744073709551616-_;omega
 have hle:2^t<=2^63:=Ajs (by omega) (by omega);have hne:x≠0:=by
  intro e;rw[e]at h;have h':2^t*(2*s+1)=2^64:=by
   rw[Nat.mul_add,Nat.mul_one,<-Bhu,<-Av3]
   show _=18446744073709551616;simpa using h
  have h2:2^64=2^t*2^(64-t):=by rw[<-Bk8];congr 1;omega
  rw[h2]at h';have h3:=Nat.eq_of_mul_eq_mul_left hpos h';rw[show 64-t=(63-t)+1 by omega,Av3]at h3;omega
 have hx0:x.toNat≠0:=λe=>hne (UInt64.toNat_inj.1 e);have hl:Ev x (uT x)=UInt64.ofNat (2^t):=by
  apply UInt64.toNat_inj.1;rw[Aee,UInt64.toNat_and,Azr,show(18446744073709551616-x.toNat) %18446744073709551616=2^(t+1)*s+2^t by omega,Bb6 (n:=64) (by show _<=18446744073709551616;omega) ht _ hx,Akl,Ab3];exact Bhe hle (by decide)
 have hb:=Aum ⟨t,ht⟩;rw[Ia,Aab (by rw[zW];simpa using hne),hl];refine Bg6 (congrArg (λo=>Option.bind o λc=>some (Af c:Int)) hb) ?_;rw[Aa,UL,Anz,Ab3 (by show t<256;omega)]
theorem Bcp(p:List UInt8)(a m:Nat)(hm:m<=48):Ia (Ae0 (Qr p a m))=some ((Gp p a m:Nat):Int):=by
 obtain⟨s,h1,h2⟩:=Akc p m a;have hle:=aE p m a;have hlt:=Qo p m a;have h48:2^m<=2^48:=Ajs (by omega) hm;have hn:(Ae0 (Qr p a m)).toNat=18446744073709551615-Cb p a m:=by rw[Az0,AL p a m (by omega)]
 have h3:(281474976710656:Nat)=2^48:=rfl;refine Bhl _ (Gp p a m) s (by omega) ?_;rw[hn];omega
def unS(p:List UInt8)(N a:Nat):Int×Int×Int:=
 if Gp p a (min 48 (N-a))<min 48 (N-a)then((Gp p a (min 48 (N-a)):Nat),((a+Gp p a (min 48 (N-a))+1:Nat):Int),0)else
 if Gp p a (min 48 (N-a))=48 then(48,((a+48:Nat):Int),0)else(0,0,24)
theorem Ayh{p:List UInt8}{N:Nat}(h:okB p N)(a:Nat)(ha:a<N):NH p (N:Int) (a:Int)=some (unS p N a):=by
 have hN:=h.1;have e1:Fe (48:Int) (Am (N:Int) (a:Int))=((min 48 (N-a):Nat):Int):=by rw[NP,Bp (by omega) (by omega)];omega
 have hle:=aE p (min 48 (N-a)) a;rw[NH,CZ,BD h,Aa,Aab (by rw[Ak];simp),Aab (by rw[Ae];simp),Aab (by rw[Dq];simp;omega),e1,vW h a _ (by omega),Aab (by omega),Aa];simp only;rw[bX,aL,Aab (by rw[Ak];simp),Bcp p a _ (by omega),Aa,aM,bF,e1,unS];by_cases h1:Gp p a (min 48 (N-a))<min 48 (N-a)
 ·rw[Aah (by rw[Ae];simp;omega),Aah h1,Aj (a:=(a:Int)) (by omega) (by omega),show Ad (0:Int) 1=1 by decide,Aj (by omega) (by omega)];congr 3;omega
 ·rw[Aab (by rw[Ae];simp;omega),Aab h1,bN,bU];by_cases h2:Gp p a (min 48 (N-a))=48
  ·rw[Aah (by rw[Ar,h2];rfl),Aah h2,h2,Aj (a:=(a:Int)) (by omega) (by omega),Aj (by omega) (by omega)];congr 3;omega
  ·rw[Aab (by rw[Ar];simp;omega),Aab h2];rfl
theorem Ag8(p:List UInt8):∀(m a:Nat),Gp p a m<m->Hn p (a+Gp p a m)≠1
 |0,_,h=>by simp[Gp]at h
 |m+1,a,h=>by
  by_cases hb:Hn p a=1
  ·rw[Gp,Aah hb]at h⊢;have:=Ag8 p m (a+1) (by omega);rwa [show a+(1+Gp p (a+1) m)=a+1+Gp p (a+1) m by omega]
  ·rw[Gp,Aab hb];exact hb
theorem Agg(p:List UInt8):∀(m a k:Nat),k<Gp p a m->Hn p (a+k)=1
 |0,a,k,h=>by simp[Gp]at h
 |m+1,a,k,h=>by
  by_cases hb:Hn p a=1
  ·rw[Gp,Aah hb]at h;cases k with
   |zero=>exact hb
   |succ k=>
    have:=Agg p m (a+1) k (by omega);rwa [show a+(k+1)=a+1+k by omega]
  ·rw[Gp,Aab hb]at h;omega
def unR(p:List UInt8)(N a:Nat):Int×Int:=if(unS p N a).2.2=0 then((unS p N a).1,(unS p N a).2.1)else(-1,0)
theorem Acs{p:List UInt8}{N:Nat}(h:okB p N)(a:Nat)(ha:a<N):∀(j k q:Nat),k+j=Gp p a (min 48 (N-a))->j<q->Oh (a:Int) p (N:Int) q (k:Int)=some (unR p N a)
 |0,k,q+1,hk,_=>by
  obtain⟨hN,hl,hz⟩:=h;have hle:=aE p (min 48 (N-a)) a;have hk':k=Gp p a (min 48 (N-a)):=by omega
  have e1:Ad (a:Int) (k:Int)=((a+k:Nat):Int):=by rw[Aj (by omega) (by omega)];omega
  have hend:CA (a:Int) (k:Int) p (N:Int)=some (unR p N a):=by
   rw[CA,TF,e1];by_cases h48:k=48
   ·have hu:unS p N a=(48,((a+48:Nat):Int),0):=by rw[unS,<-hk',Aab (by omega),Aah h48]
    rw[Aah (by rw[Ar,h48];rfl),unR,hu,h48];rfl
   ·rw[Aab (by rw[Ar];simp;omega)];by_cases hN2:N<=a+k
    ·have hu:unS p N a=(0,0,24):=by rw[unS,<-hk',Aab (by omega),Aab h48]
     rw[Aah (by rw[Dq];simp;omega),unR,hu];rfl
    ·have hu:unS p N a=(((k:Nat):Int),((a+k+1:Nat):Int),0):=by rw[unS,<-hk',Aah (by omega)]
     rw[Aab (by rw[Dq];simp;omega),unR,hu,Aj (by omega) (by omega)];rfl
  rw[Oh,BR,e1];by_cases hc:a+k<N/\k<48
  ·have hb:=CY p (a+k);have hs:=Ag8 p (min 48 (N-a)) a (by omega);rw[<-hk']at hs;rw[Aah (by simp[Ae];omega),xD p _ (a+k) (by omega) (by omega),Aa,Aab (by rw[Ar];simp;omega),hend]
  ·rw[Aab (by simp[Ae];omega),hend]
 |j+1,k,q+1,hk,hq=>by
  obtain⟨hN,hl,hz⟩:=h;have hle:=aE p (min 48 (N-a)) a;have hb:=Agg p (min 48 (N-a)) a k (by omega);have e1:Ad (a:Int) (k:Int)=((a+k:Nat):Int):=by rw[Aj (by omega) (by omega)];omega
  rw[Oh,BR,e1,Aah (by simp[Ae];omega),xD p _ (a+k) (by omega) (by omega),Aa,hb,Aah (by decide),Aj (by omega) (by omega)];exact Acs ⟨hN,hl,hz⟩ a ha j (k+1) q (by omega) (by omega)
theorem Awe{p:List UInt8}{N:Nat}(h:okB p N)(a:Nat)(ha:a<N):cT p (N:Int) (a:Int)=some (unR p N a):=by
 have hle:=aE p (min 48 (N-a)) a;have:=Acs h a ha (Gp p a (min 48 (N-a))) 0 Ay (by omega) (by have:=Au;omega);exact this
theorem Awf{p:List UInt8}{N a:Nat}(h:Gp p a (min 48 (N-a))<min 48 (N-a)):unS p N a=(((Gp p a (min 48 (N-a)):Nat):Int),((a+Gp p a (min 48 (N-a))+1:Nat):Int),0):=by rw[unS,Aah h]
theorem Ayp{p:List UInt8}{N a:Nat}(h:¬Gp p a (min 48 (N-a))<min 48 (N-a))(h2:Gp p a (min 48 (N-a))=48):unS p N a=(48,((a+48:Nat):Int),0):=by rw[unS,Aab h,Aah h2]
theorem Aw7{p:List UInt8}{N a:Nat}(h:¬Gp p a (min 48 (N-a))<min 48 (N-a))(h2:¬Gp p a (min 48 (N-a))=48):unS p N a=(0,0,24):=by rw[unS,Aab h,Aab h2]
theorem Atc{p:List UInt8}{N:Nat}(h:okB p N)(a:Nat)(ha:N<=a):NH p (N:Int) (a:Int)=some (0,0,24):=by
 rw[NH,CZ,BD h,Aa,Aab (by rw[Ak];simp),Aab (by rw[Ae];simp),Aah (by rw[Dq];simp;omega)]
def YC(p:List UInt8)(N a k:Nat):UInt32×Int×Int:=
 if N<=a then(0,0,24)else
 if Gp p a (min 48 (N-a))<min 48 (N-a)then
  (if N<a+Gp p a (min 48 (N-a))+1+k then(0,0,24)else(UInt32.ofNat (Gp p a (min 48 (N-a))*2^k+Cb p (a+Gp p a (min 48 (N-a))+1) k),((a+Gp p a (min 48 (N-a))+1+k:Nat):Int),0))
 else if Gp p a (min 48 (N-a))=48 then
  (if N<a+48+32 then(0,0,24)else if Cb p (a+48) 32/2^k<48 then(0,0,12)else(UInt32.ofNat (Cb p (a+48) 32),((a+48+32:Nat):Int),0))
 else(0,0,24)
theorem sY{p:List UInt8}{a n:Nat}(h:n<=32):(Af (Qr p a n):UInt32)=UInt32.ofNat (Cb p a n):=by
 have e:(Af (Qr p a n):UInt32)=UInt32.ofNat (Qr p a n).toNat:=by simp only[Af,Lb,Ga]
 rw[e,AL p a n (by omega)]
theorem ZE{n:Nat}(h:n<4294967296):(UInt32.ofNat n).toNat=n:=by rw[Ant];exact Ab3 h
theorem Akr(p:List UInt8)(a:Nat){n:Nat}(h:n<=32):Cb p a n<4294967296:=by
 have h1:=Qo p n a;have h2:2^n<=2^32:=Ajs (by omega) h;omega
theorem Be8{q v k:Nat}(hq:q<48)(hv:v<2^k)(hk:k<=24):wU (Ea (Af (q:Int):UInt32) k) (UInt32.ofNat v)=UInt32.ofNat (q*2^k+v):=by
 have hp:2^k<=2^24:=Ajs (by omega) hk;have h1:q*2^k<=47*2^24:=Bgv (by omega) hp;rw[Bbx];apply UInt32.toNat_inj.1;rw[UInt32.toNat_or,nC,Agx,ZE (by omega),ZE (n:=v) (by omega),Ab3 (by omega),An1 q,<-Bew hv,ZE (by rw[An1];omega)]
theorem Bce{p:List UInt8}{N:Nat}(h:okB p N)(a k:Nat)(hk:k<=24):oZ p (N:Int) (a:Int) (k:Int)=some (YC p N a k):=by
 have hN:=h.1;rw[oZ,iE,BD h,Aa,Aab (by rw[Ak];simp),Aab (by simp[Ae,Aq];omega)];by_cases ha:N<=a
 ·rw[Atc h a ha,Aa,YC,Aah ha];rfl
 have hle:=aE p (min 48 (N-a)) a;rw[Ayh h a (by omega),Aa];by_cases h1:Gp p a (min 48 (N-a))<min 48 (N-a)
 ·have hS:YC p N a k=if N<a+Gp p a (min 48 (N-a))+1+k then(0,0,24)else(UInt32.ofNat (Gp p a (min 48 (N-a))*2^k+Cb p (a+Gp p a (min 48 (N-a))+1) k),((a+Gp p a (min 48 (N-a))+1+k:Nat):Int),0):=by rw[YC,Aab ha,Aah h1]
  rw[Awf h1,hS];generalize Gp p a (min 48 (N-a))=q at*
  simp only;rw[Aab (by rw[Ak];simp),Aab (by rw[Ar];simp;omega),UB,gU,vW h _ k (by omega),Aa];by_cases h2:N<a+q+1+k
  ·rw[Aah h2,Aah h2];rfl
  ·rw[Aab h2,Aab h2];simp only;have z:(GI.toZ (k:Int)).toNat=k:=rfl;rw[Aab (by rw[Ak];simp),Aah (by rw[Ae];simp;omega),Bo (by rw[Dq];simp),Aa,z,sY (by omega),Be8 (by omega) (Qo _ _ _) hk,Aj (by omega) (by omega)];rfl
 ·by_cases h2:Gp p a (min 48 (N-a))=48
  ·have hS:YC p N a k=if N<a+48+32 then(0,0,24)else if Cb p (a+48) 32/2^k<48 then(0,0,12)else(UInt32.ofNat (Cb p (a+48) 32),((a+48+32:Nat):Int),0):=by rw[YC,Aab ha,Aab h1,Aah h2]
   have hg:=vW h (a+48) 32 (by omega);rw[Ayp h1 h2,hS];simp only;rw[Aab (by rw[Ak];simp),Aah (by rw[Ar];rfl),UB,gU];refine Bg6 (congrArg (λo=>Option.bind o _) hg) ?_;rw[Aa];by_cases h3:N<a+48+32
   ·rw[Aah h3,Aah h3];rfl
   ·rw[Aab h3,Aab h3];simp only;have z:(GI.toZ (k:Int)).toNat=k:=rfl;have hv:=Akr p (a+48) (n:=32) (by omega);rw[Aab (by rw[Ak];simp),Aab (by rw[Ae];simp),BE,Bo (by rw[Dq];simp),Aa,Aa,z,sY (by omega),Arj];have e:(decide ((48:UInt32).toNat<= (Ck (UInt32.ofNat (Cb p (a+48) 32)) k).toNat))=decide (¬Cb p (a+48) 32/2^k<48):=by
     rw[QG,ZE hv];simp
    rw[e];by_cases h4:Cb p (a+48) 32/2^k<48
    ·rw[Aah (by simp[h4]),Aah h4]
    ·rw[Aab (by simp;omega),Aab h4,Aj (by omega) (by omega)];rfl
  ·rw[Aw7 h1 h2,YC,Aab ha,Aab h1,Aab h2];rfl
theorem Aco(k:Nat)(hk:k<=63):∀(j i q:Nat),i+j=k->j<q->Lh (k:Int) q (UInt64.ofNat (2^i)) (i:Int)=some (UInt64.ofNat (2^k))
 |0,i,q+1,hi,_=>by
  rw[Lh,Yg,Aab (by rw[Ae];simp;omega),show i=k by omega];rfl
 |j+1,i,q+1,hi,hq=>by
  have e:Bn (UInt64.ofNat (2^i)) (2:UInt64)=UInt64.ofNat (2^(i+1)):=by
   rw[PD,Av3,UInt64.ofNat_mul];rfl
  rw[Lh,Yg,Aah (by rw[Ae];simp;omega),Aj (by omega) (by omega),e];exact Aco k hk j (i+1) q (by omega) (by omega)
theorem QA(k:Nat)(hk:k<=63):Hf (k:Int)=some (UInt64.ofNat (2^k)):=
 Aco k hk k 0 Ay (by omega) (by have:=Au;omega)
theorem YV{k:Nat}(hk:k<=63):(UInt64.ofNat (2^k)).toNat=2^k:=by
 have hp:2^k<=2^63:=Ajs (by omega) hk;rw[Akl,Ab3 (by omega)]
theorem Bbd(v:UInt32)(k:Nat)(hk:k<=24):JN v (k:Int)=some ((min 48 (v.toNat/2^k):Nat):Int):=by
 have hpos:0<2^k:=Bhx (by omega);have hv:=v.toNat_lt;rw[JN,QA k (by omega),Aa,Bo (by rw[TY];simp only[Bk6,ne_eq,<-Bjx,YV (show k<=63 by omega)];simp),Aa];have e:(Cv (Af v:UInt64) (UInt64.ofNat (2^k))).toNat=v.toNat/2^k:=by
  rw[tF,Blb,Dn,YV (by omega),Akl,Ab3 (by omega)]
 have hle:v.toNat/2^k<=v.toNat:=As2 _ _;have e2:Fe (48:UInt64) (Cv (Af v:UInt64) (UInt64.ofNat (2^k)))=UInt64.ofNat (min 48 (v.toNat/2^k)):=by
  apply UInt64.toNat_inj.1;rw[Akl,Ab3 (by omega)];show(if _ then _ else _:UInt64).toNat=_;rw[show(GI.toZ (Cv (Af v:UInt64) (UInt64.ofNat (2^k))))=((v.toNat/2^k:Nat):Int) by rw[Lb,e],show GI.toZ (48:UInt64)=48 from rfl];split
  ·rw[e];omega
  ·show 48=_;omega
 rw[e2,vV (by rw[Akl,Ab3]<;>omega),Akl,Ab3 (by omega)]
theorem Aze{p:List UInt8}{N:Nat}(h:okB p N)(a k:Nat)(hk:k<=24):NL p (N:Int) (a:Int) (k:Int)=some (YC p N a k):=by
 obtain⟨hN,hl,hz⟩:=h;have h:okB p N:=⟨hN,hl,hz⟩;rw[NL,TJ];by_cases ha:N<=a
 ·rw[Aah (by rw[Dq];simp;omega),YC,Aah ha]
 have hle:=aE p (min 48 (N-a)) a;rw[Aab (by rw[Dq];simp;omega),Awe h a (by omega),Aa,unR];by_cases h1:Gp p a (min 48 (N-a))<min 48 (N-a)
 ·have hS:YC p N a k=if N<a+Gp p a (min 48 (N-a))+1+k then(0,0,24)else(UInt32.ofNat (Gp p a (min 48 (N-a))*2^k+Cb p (a+Gp p a (min 48 (N-a))+1) k),((a+Gp p a (min 48 (N-a))+1+k:Nat):Int),0):=by rw[YC,Aab ha,Aah h1]
  rw[Awf h1,hS];generalize Gp p a (min 48 (N-a))=q at*
  rw[Aah rfl];simp only;rw[Aab (by rw[Ar];simp;omega),BM,BO,Bp (by omega) (by omega)];by_cases h2:N<a+q+1+k
  ·rw[Aah (by simp[Ae];omega),Aah h2]
  ·have hp:2^k<=2^24:=Ajs (by omega) hk;have hm:q*2^k<=47*2^24:=Bgv (by omega) hp;have hv:=Qo p k (a+q+1);have e:(Af (Ad (Bn (Af (q:Int):UInt64) (UInt64.ofNat (2^k))) (Qr p (a+q+1) k)):UInt32)=UInt32.ofNat (q*2^k+Cb p (a+q+1) k):=by
    have e1:Ad (Bn (Af (q:Int):UInt64) (UInt64.ofNat (2^k))) (Qr p (a+q+1) k)=UInt64.ofNat (q*2^k+Cb p (a+q+1) k):=by
     rw[PK,PD,Xd,Qr,UInt64.ofNat_add,UInt64.ofNat_mul]
    rw[e1];have e2:∀x:UInt64,(Af x:UInt32)=UInt32.ofNat x.toNat:=λx=>by simp only[Af,Lb,Ga]
    rw[e2,Akl,Ab3 (by omega)]
   rw[Aab (by simp[Ae];omega),Aab h2,qZ p _ _ k (by omega) (by omega),Aa,Aah (by rw[Ae];simp;omega),QA k (by omega),Aa,e,Aj (by omega) (by omega)];rfl
 ·by_cases h2:Gp p a (min 48 (N-a))=48
  ·have hS:YC p N a k=if N<a+48+32 then(0,0,24)else if Cb p (a+48) 32/2^k<48 then(0,0,12)else(UInt32.ofNat (Cb p (a+48) 32),((a+48+32:Nat):Int),0):=by rw[YC,Aab ha,Aab h1,Aah h2]
   rw[Ayp h1 h2,hS,Aah rfl];simp only;rw[Aah (by rw[Ar];rfl),BM,BO,Bp (by omega) (by omega)];by_cases h3:N<a+48+32
   ·rw[Aah (by simp[Ae];omega),Aah h3]
   ·have hg:=qZ p (N:Int) (a+48) 32 (by omega) (by omega);have hv:=Akr p (a+48) (n:=32) (by omega);rw[Aab (by simp[Ae];omega),Aab h3];refine Bg6 (congrArg (λo=>Option.bind o _) hg) ?_;rw[Aa,Aab (by rw[Ae];simp),sY (by omega),Bbd _ k hk,Aa,ZE hv];by_cases h4:Cb p (a+48) 32/2^k<48
    ·rw[Aah (by rw[Ae];simp;omega),Aah h4]
    ·rw[Aab (by rw[Ae];simp;omega),Aab h4,Aj (by omega) (by omega)];rfl
  ·rw[Aw7 h1 h2,YC,Aab ha,Aab h1,Aab h2];have e:(if((0:Int),(0:Int),(24:Int)).2.2=0 then(((0:Int),(0:Int),(24:Int)).1,((0:Int),(0:Int),(24:Int)).2.1)else((-1:Int),(0:Int)))=(-1,0):=by decide
   rw[e];rfl
theorem Bgm{p:List UInt8}{N a k:Nat}{v:UInt32}{n:Int}(h:YC p N a k=(v,n,0)):(a:Int)<n/\n<=N:=by
 unfold YC at h;split at h
 ·simp at h
 split at h
 ·split at h
  ·simp at h
  ·simp only[Ajt]at h;omega
 ·split at h
  ·split at h
   ·simp at h
   ·split at h
    ·simp at h
    ·simp only[Ajt]at h;omega
  ·simp at h
def okD(k l:Nat)(s t:UInt64):Prop:=k<=24/\l<=24/\s.toNat<=68719476735/\t.toNat<=68719476735
theorem Anq(a b:UInt64)(h:a.toNat<=b.toNat):Fe a b=a:=by
 show(if _ then _ else _)=_;rw[Lb,Lb,Aab (by omega)]
theorem vD(a:UInt64):geq a a=true:=by rw[zW];simp
theorem Awm{k l:Nat}{s t:UInt64}(h:okD k l s t):VF (k:Int) (l:Int) s t=some 0:=by
 obtain⟨h1,h2,h3,h4⟩:=h;have e1:Fe (pP (k:Int) 0) 24=(k:Int):=by rw[NP,Ais];omega
 have e2:Fe (pP (l:Int) 0) 24=(l:Int):=by rw[NP,Ais];omega
 have e3:Fe s (68719476735:UInt64)=s:=Anq _ _ (by simpa using h3);have e4:Fe t (68719476735:UInt64)=t:=Anq _ _ (by simpa using h4);have e5:∀a:Int,geq a a=true:=λa=>by rw[Ar];simp
 rw[VF,OL,bC,OI,bL,qP,e1,e2,e3,e4,e5,e5,vD,vD];rfl
def Yz(s n:UInt64):UInt64:=s+n-s/16
def kS(k:Nat)(s:UInt64):Nat:=if 0<k/\s.toNat<2^(k+4)then k-1 else if k<24/\2^(k+5)<s.toNat then k+1 else k
theorem Bed{k:Nat}(h:k<=24)(s:UInt64):kS k s<=24:=by
 unfold kS;by_cases h1:0<k/\s.toNat<2^(k+4)
 ·rw[Aah h1];omega
 ·rw[Aab h1];split<;>omega
theorem Aqs{k:Nat}{s:UInt64}(h:¬(0<k/\s.toNat<2^(k+4))):(if k<24/\2^(k+5)<s.toNat then((k+1:Nat):Int)else(k:Int))=((kS k s:Nat):Int):=by
 rw[kS,Aab h];split<;>rfl
theorem Ar2{s n:UInt64}(h:s.toNat<=68719476735)(hn:n.toNat<=4294967295):(Yz s n).toNat<=68719476735:=by
 have h1:=s.toNat_lt;have e:(s+n).toNat=s.toNat+n.toNat:=by rw[UInt64.toNat_add];omega
 have e2:(s/16).toNat=s.toNat/16:=by rw[Blb];rfl
 rw[Yz,UInt64.toNat_sub_of_le _ _ (by rw[UInt64.le_iff_toNat_le,e,e2];omega),e,e2];omega
theorem cN(s n:UInt64):Ad s (Am n (Ck s (GI.toZ (4:UInt64)).toNat))=Yz s n:=by
 have e:Ck s (GI.toZ (4:UInt64)).toNat=s/16:=by
  apply UInt64.toNat_inj.1;rw[GL,Blb];rfl
 rw[e,PK,uU,Yz,UInt64.sub_eq_add_neg,UInt64.sub_eq_add_neg,UInt64.add_assoc]
theorem Asy(s n:UInt64):Am (Ad s n) (Cv s (16:UInt64))=Yz s n:=by rw[PK,uU,tF,Yz]
theorem Bhz{k:Nat}(h:k<=24):(Ea (16:UInt64) k).toNat=2^(k+4):=by
 have hp:2^k<=2^24:=Ajs (by omega) h;rw[WO,Bk8]
 show 16*2^k %_=2^k*16;rw[Ab3 (by omega),An1]
theorem Bgp{k:Nat}(h:k<=24):(Ea (32:UInt64) k).toNat=2^(k+5):=by
 have hp:2^k<=2^24:=Ajs (by omega) h;rw[WO,Bk8]
 show 32*2^k %_=2^k*32;rw[Ab3 (by omega),An1]
theorem Ber{k:Nat}{s:UInt64}(h:0<k)(h2:s.toNat<2^(k+4)):kS k s=k-1:=by rw[kS,Aah ⟨h,h2⟩]
theorem Beo{k:Nat}{s:UInt64}(h:¬(0<k/\s.toNat<2^(k+4)))(h2:k<24)(h3:2^(k+5)<s.toNat):kS k s=k+1:=by rw[kS,Aab h,Aah ⟨h2,h3⟩]
theorem Asw{k:Nat}{s:UInt64}(h:¬(0<k/\s.toNat<2^(k+4)))(h2:¬(k<24/\2^(k+5)<s.toNat)):kS k s=k:=by rw[kS,Aab h,Aab h2]
theorem Aqi{α:Type}(k:Nat)(hk:k<=24)(s:UInt64)(f:Int->Option α):
  (if(Ez (k:Int) (0:Int))=true then(
   Option.bind (Le (Om (k:Int) (0:Int))) λ_=>
   if(Cr s (Ea (16:UInt64) (GI.toZ (k:Int)).toNat))=true then f (Am (k:Int) (1:Int))
   else(if(Cr (k:Int) (24:Int))=true then(
    Option.bind (Le (Om (k:Int) (0:Int))) λ_=>
    if(Ez s (Ea (32:UInt64) (GI.toZ (k:Int)).toNat))=true then f (Ad (k:Int) (1:Int))else f (k:Int))
    else f (k:Int)))
  else(if(Cr (k:Int) (24:Int))=true then(
    Option.bind (Le (Om (k:Int) (0:Int))) λ_=>
    if(Ez s (Ea (32:UInt64) (GI.toZ (k:Int)).toNat))=true then f (Ad (k:Int) (1:Int))else f (k:Int))
    else f (k:Int)))=f ((kS k s:Nat):Int):=by
 have z:(GI.toZ (k:Int)).toNat=k:=rfl;rw[z,Bo (by rw[Dq];simp)];simp only[Aa];rw[Aaq,YX,Bhz hk,Bgp hk];by_cases h0:0<k
 ·rw[Aah (by rw[Aq];simp;omega)];by_cases h1:s.toNat<2^(k+4)
  ·rw[Aah (by simp[h1]),Ber h0 h1,Bp (by omega) (by omega)];congr 1;omega
  ·rw[Aab (by simp;omega)];by_cases h2:k<24
   ·rw[Aah (by rw[Ae];simp;omega)];by_cases h3:2^(k+5)<s.toNat
    ·rw[Aah (by simp[h3]),Beo (λh=>h1 h.2) h2 h3,Aj (by omega) (by omega)];rfl
    ·rw[Aab (by simp;omega),Asw (λh=>h1 h.2) (λh=>h3 h.2)]
   ·rw[Aab (by rw[Ae];simp;omega),Asw (λh=>h1 h.2) (λh=>h2 h.1)]
 ·rw[Aab (by rw[Aq];simp;omega)];by_cases h2:k<24
  ·rw[Aah (by rw[Ae];simp;omega)];by_cases h3:2^(k+5)<s.toNat
   ·rw[Aah (by simp[h3]),Beo (λh=>h0 h.1) h2 h3,Aj (by omega) (by omega)];rfl
   ·rw[Aab (by simp;omega),Asw (λh=>h0 h.1) (λh=>h3 h.2)]
  ·rw[Aab (by rw[Ae];simp;omega),Asw (λh=>h0 h.1) (λh=>h2 h.1)]
theorem Asq(k:Nat)(hk:k<=24)(s n:UInt64):Yt (k:Int) s n=some (((kS k (Yz s n):Nat):Int),Yz s n):=by
 have g1:Ad (k:Int) 4=((k+4:Nat):Int):=by rw[Aj (by omega) (by omega)];omega
 have g2:Ad (k:Int) 5=((k+5:Nat):Int):=by rw[Aj (by omega) (by omega)];omega
 have hp:Zs (k:Int) s n=some (if k<24/\2^(k+5)<(Yz s n).toNat then((k+1:Nat):Int)else(k:Int),Yz s n):=by
  rw[Zs,QD,g2,QA _ (by omega),Aa,Asy,YX,YV (by omega)];by_cases h2:k<24
  ·rw[Aah (by rw[Ae];simp;omega)];by_cases h3:2^(k+5)<(Yz s n).toNat
   ·rw[Aah (by simp[h3]),Aah ⟨h2,h3⟩,Aj (by omega) (by omega)];rfl
   ·rw[Aab (by simp;omega),Aab (λh=>h3 h.2)]
  ·rw[Aab (by rw[Ae];simp;omega),Aab (λh=>h2 h.1)]
 rw[Yt,QS,g1,QA _ (by omega),Aa,Asy,Aaq,YV (by omega),hp];by_cases h0:0<k
 ·rw[Aah (by rw[Aq];simp;omega)];by_cases h1:(Yz s n).toNat<2^(k+4)
  ·rw[Aah (by simp[h1]),Ber h0 h1,Bp (by omega) (by omega)];congr 2;omega
  ·rw[Aab (by simp;omega),Aqs (λh=>h1 h.2)]
 ·rw[Aab (by rw[Aq];simp;omega),Aqs (λh=>h0 h.1)]
def n64(v:UInt32):UInt64:=UInt64.ofNat v.toNat
theorem Ayi(v:UInt32):(n64 v).toNat<=4294967295:=by have:=v.toNat_lt;rw[n64,Akl,Ab3 (by omega)];omega
def iV(k:Nat)(v:UInt32):UInt32:=UInt32.ofNat (v.toNat-2^k)
def lK(l:Nat)(t:UInt64)(k:Nat)(v:UInt32):Nat:=if v.toNat<2^k then l else kS l (Yz t (n64 (iV k v)))
def lT(t:UInt64)(k:Nat)(v:UInt32):UInt64:=if v.toNat<2^k then t else Yz t (n64 (iV k v))
theorem Axj{k l:Nat}{s t:UInt64}(h:okD k l s t)(v:UInt32):okD (kS k (Yz s (n64 v))) (lK l t k v) (Yz s (n64 v)) (lT t k v):=by
 obtain⟨h1,h2,h3,h4⟩:=h;refine⟨Bed h1 _,?_,Ar2 h3 (Ayi v),?_⟩
 ·unfold lK;split; · exact h2
  exact Bed h2 _
 ·unfold lT;split; · exact h4
  exact Ar2 h4 (Ayi _)
theorem Bff(k l:Nat)(s t:UInt64)(hk:k<=24)(v:UInt32):MT (k:Int) (l:Int) s t v=some (decide (v.toNat<2^k)):=by
 have:=v.toNat_lt;rw[MT,QA k (by omega),Aa,Aaq,YV (by omega),Dn,Akl,Ab3 (by omega)]
theorem left_eq(k l:Nat)(s t:UInt64)(hk:k<=24)(v:UInt32)(h:¬v.toNat<2^k):HJ (k:Int) (l:Int) s t v=some (iV k v):=by
 have:=v.toNat_lt;have e2:∀x:UInt64,(Af x:UInt32)=UInt32.ofNat x.toNat:=λx=>by simp only[Af,Lb,Ga]
 have e3:(UInt64.ofNat v.toNat).toNat=v.toNat:=by rw[Akl,Ab3 (by omega)]
 rw[HJ,QA k (by omega),Aa,e2,uU,Dn,UInt64.toNat_sub_of_le _ _ (by rw[UInt64.le_iff_toNat_le,YV (by omega),e3];omega),YV (by omega),e3,iV]
theorem Aue{k l:Nat}{s t:UInt64}(h:okD k l s t)(v:UInt32):CG (k:Int) (l:Int) s t v=some (((kS k (Yz s (n64 v)):Nat):Int),((lK l t k v:Nat):Int),Yz s (n64 v),lT t k v):=by
 obtain⟨h1,h2,h3,h4⟩:=h;have hp:∀(r1:Int) (r2:UInt64),Vs v (k:Int) (l:Int) s t r1 r2=some (((kS k (Yz s (n64 v)):Nat):Int),r1,Yz s (n64 v),r2):=by
  intro r1 r2;rw[Vs,IW,Dn,Asq k h1,Aa];rfl
 rw[CG,ID,Bff k l s t h1,Aa];by_cases hv:v.toNat<2^k
 ·rw[Aab (by simp[hv]),hp,lK,Aah hv,lT,Aah hv]
 ·rw[Aah (by simp;omega),left_eq k l s t h1 v hv,Aa,Dn,Asq l h2,Aa];simp only;rw[hp,lK,Aab hv,lT,Aab hv];rfl
theorem Aeo(k l:Nat)(s t:UInt64)(hk:k<=24)(v:UInt32):NN (k:Int) (l:Int) s t v=some (if v.toNat<2^k then(0,v)else(1,iV k v)):=by
 have hp:2^k<=2^24:=Ajs (by omega) hk;have hpos:0<2^k:=Bhx (by omega);have hl:=v.toNat_lt;have z:(GI.toZ (k:Int)).toNat=k:=rfl;have e1:geq (Ck v k) (0:UInt32)=decide (v.toNat<2^k):=by
  rw[Ah8,Amo];simp only[Av2,<-UInt32.toNat_inj,QG,Abv]
  show _/_=0↔_;rw[Nat.div_eq_zero_iff];omega
 have e2:¬v.toNat<2^k->Am v (Ea (1:UInt32) k)=iV k v:=by
  intro h;have e3:(Ea (1:UInt32) k).toNat=2^k:=by rw[nC];show 1*2^k %_=_;rw[Ab3 (by omega),Nat.one_mul]
  apply UInt32.toNat_inj.1;rw[Ads,UInt32.toNat_sub_of_le _ _ (by rw[UInt32.le_iff_toNat_le,e3];omega),e3,iV,ZE (by omega)]
 rw[NN,Bo (by rw[Dq];simp),Aa,Aa,z,e1];by_cases h:v.toNat<2^k
 ·rw[Aah (by simp[h]),Aah h]
 ·rw[Aab (by simp;omega),Aab h,e2 h]
abbrev Rd:=UInt32×Int×Int×Int×UInt64×UInt64×Int
theorem Acu{k l:Nat}{s t:UInt64}(h:okD k l s t)(v:UInt32)(r:Int):TQ (k:Int) (l:Int) s t v r=some (v,r,((kS k (Yz s (n64 v)):Nat):Int),((lK l t k v:Nat):Int),Yz s (n64 v),lT t k v,0):=by
 obtain⟨h1,h2,h3,h4⟩:=h;have hp:∀(x:Int) (y:UInt64),JB v r (k:Int) s x y=some (v,r,((kS k (Yz s (n64 v)):Nat):Int),x,Yz s (n64 v),y,0):=by
  intro x y;rw[JB,eU,Dn,cN,Aqi k h1];rw[gQ,fF,aU,qG,Dn,cN];rfl
 rw[TQ,fJ,Aeo k l s t h1,Aa];by_cases hv:v.toNat<2^k
 ·rw[Aah hv];simp only;rw[Aab (by rw[Ar];simp),hp,lK,Aah hv,lT,Aah hv]
 ·rw[Aab hv];simp only;rw[Aah (by rw[Ar];rfl),Dn,cN,Aqi l h2 _ (λx=>JB v r (k:Int) s x (Yz t (UInt64.ofNat (iV k v).toNat))),hp,lK,Aab hv,lT,Aab hv];rfl
def cF(p:List UInt8)(N a k l:Nat):UInt32×Int×Int:=
 if N<=a then(0,0,24)else
 if Hn p a=0 then(if N<a+1+k then(0,0,24)else(UInt32.ofNat (Cb p (a+1) k),((a+1+k:Nat):Int),0))else
 if(YC p N (a+1) l).2.2≠0 then(0,0,(YC p N (a+1) l).2.2)else
 if 4294967295<(YC p N (a+1) l).1.toNat+2^k then(0,0,12)else(UInt32.ofNat ((YC p N (a+1) l).1.toNat+2^k),(YC p N (a+1) l).2.1,0)
theorem Bfn{p:List UInt8}{N a k l:Nat}(h:(cF p N a k l).2.2=0):(a:Int)<(cF p N a k l).2.1/\ (cF p N a k l).2.1<=N:=by
 revert h
 unfold cF;split
 ·simp
 split
 ·split
  ·simp
  ·simp only;omega
 ·split
  ·intro h;contradiction
  ·rename_i h1;split
   ·simp
   ·intro _;have:=Bgm (p:=p) (N:=N) (a:=a+1) (k:=l) (v:=(YC p N (a+1) l).1) (n:=(YC p N (a+1) l).2.1) (by
     have e:(YC p N (a+1) l).2.2=0:=by simpa using h1
     rw[<-e])
    simp only;omega
theorem Bck{p:List UInt8}{N:Nat}(h:okB p N)(a:Nat){k l:Nat}{s t:UInt64}(hd:okD k l s t):NS p (N:Int) (a:Int) (k:Int) (l:Int) s t=
  some (if(cF p N a k l).2.2≠0 then(0,0,0,0,0,0,(cF p N a k l).2.2)else((cF p N a k l).1,(cF p N a k l).2.1,((kS k (Yz s (n64 (cF p N a k l).1)):Nat):Int),((lK l t k (cF p N a k l).1:Nat):Int),Yz s (n64 (cF p N a k l).1),lT t k (cF p N a k l).1,0)):=by
 obtain⟨h1,h2,h3,h4⟩:=hd;have hd:okD k l s t:=⟨h1,h2,h3,h4⟩;have hN:=h.1;have hg:=vW h a 1 (by omega);have hb:=CY p a;rw[NS,gW,BD h,Aa,Aab (by rw[Ak];simp),Awm hd,Aa,Aab (by rw[Ak];simp),gB,iI];refine Bg6 (congrArg (λo=>Option.bind o _) hg) ?_;rw[Aa];by_cases ha:N<=a
 ·have hS:cF p N a k l=(0,0,24):=by rw[cF,Aah ha]
  rw[Aah (by omega),hS];rfl
 rw[Aab (by omega)];simp only;have e0:geq (Qr p a 1) (0:UInt64)=decide (Hn p a=0):=by
  rw[zW,Amo];simp only[Av2,<-Bjx,Abv,AL p a 1 (by omega),uZ];rfl
 have e1:Ad (a:Int) 1=((a+1:Nat):Int):=by rw[Aj (by omega) (by omega)];omega
 rw[Aab (by rw[Ak];simp),e0,e1];by_cases hz:Hn p a=0
 ·rw[Aah (by simp[hz]),vW h (a+1) k (by omega),Aa];by_cases h5:N<a+1+k
  ·have hS:cF p N a k l=(0,0,24):=by rw[cF,Aab ha,Aah hz,Aah h5]
   rw[Aah h5,hS];rfl
  ·have hS:cF p N a k l=(UInt32.ofNat (Cb p (a+1) k),((a+1+k:Nat):Int),0):=by rw[cF,Aab ha,Aah hz,Aab h5]
   rw[Aab h5,hS];simp only;rw[Aab (by rw[Ak];simp),Acu hd,sY (by omega),Aj (by omega) (by omega)];rfl
 ·rw[Aab (by simp[hz]),Bce h (a+1) l h2,Aa];have hp:2^k<=2^24:=Ajs (by omega) h1;by_cases h5:(YC p N (a+1) l).2.2≠0
  ·have hS:cF p N a k l=(0,0,(YC p N (a+1) l).2.2):=by rw[cF,Aab ha,Aab hz,Aah h5]
   rw[hS];generalize YC p N (a+1) l=R at*
   obtain⟨v,n,e⟩:=R;simp only at*
   rw[Aah (by rw[Ak];simpa using h5),Aah h5]
  ·have hv:=(YC p N (a+1) l).1.toNat_lt;have z:(GI.toZ (k:Int)).toNat=k:=rfl;have e3:(Ea (1:UInt32) k).toNat=2^k:=by rw[nC];show 1*2^k %_=_;rw[Ab3 (by omega),Nat.one_mul]
   by_cases h6:4294967295<(YC p N (a+1) l).1.toNat+2^k
   ·have hS:cF p N a k l=(0,0,12):=by rw[cF,Aab ha,Aab hz,Aab h5,Aah h6]
    rw[hS];generalize YC p N (a+1) l=R at*
    obtain⟨v,n,e⟩:=R;simp only at*
    rw[Aab (by rw[Ak];simpa using h5),Bo (by rw[Dq];simp),Aa,z,Aah (by rw[Asv,Aep,UInt32.toNat_add,e3];simp;omega),Aah (by decide)]
   ·have hS:cF p N a k l=(UInt32.ofNat ((YC p N (a+1) l).1.toNat+2^k),(YC p N (a+1) l).2.1,0):=by rw[cF,Aab ha,Aab hz,Aab h5,Aab h6]
    rw[hS];generalize YC p N (a+1) l=R at*
    obtain⟨v,n,e⟩:=R;simp only at*
    have e4:Ad v (Ea (1:UInt32) k)=UInt32.ofNat (v.toNat+2^k):=by
     apply UInt32.toNat_inj.1;rw[Aep,UInt32.toNat_add,e3,ZE (by omega),Ab3 (by omega)]
    rw[Aab (by rw[Ak];simpa using h5),Bo (by rw[Dq];simp),Aa,z,Aab (by rw[Asv,Aep,UInt32.toNat_add,e3];simp;omega),e4,Acu hd];rfl
theorem Axe{p:List UInt8}{N:Nat}(h:okB p N)(a:Nat)(k l:Nat)(s t:UInt64)(h1:k<=24)(h2:l<=24):MU p (N:Int) (a:Int) (k:Int) (l:Int) s t=some (cF p N a k l):=by
 have hN:=h.1;have hl:=h.2.1;have hb:=CY p a;rw[MU];by_cases ha:N<=a
 ·rw[Aah (by rw[Dq];simp;omega),cF,Aah ha]
 rw[Aab (by rw[Dq];simp;omega),xD p _ a (by omega) (by omega),Aa,Bp (a:=(N:Int)) (b:=(a:Int)) (by omega) (by omega),Bp (by omega) (by omega)];have e1:Ad (a:Int) 1=((a+1:Nat):Int):=by rw[Aj (by omega) (by omega)];omega
 rw[e1];by_cases hz:Hn p a=0
 ·rw[Aah (by rw[Ar];simp[hz])];by_cases h5:N<a+1+k
  ·rw[Aah (by rw[Ae];simp;omega),cF,Aab ha,Aah hz,Aah h5]
  ·rw[Aab (by rw[Ae];simp;omega),qZ p _ (a+1) k (by omega) (by omega),Aa,cF,Aab ha,Aah hz,Aab h5,sY (by omega),Aj (by omega) (by omega)];rfl
 ·rw[Aab (by rw[Ar];simp;omega),Aze h (a+1) l h2,Aa];have hp:2^k<=2^24:=Ajs (by omega) h1;have hv:=(YC p N (a+1) l).1.toNat_lt;have e2:∀x:UInt64,(Af x:UInt32)=UInt32.ofNat x.toNat:=λx=>by simp only[Af,Lb,Ga]
  by_cases h5:(YC p N (a+1) l).2.2≠0
  ·have hS:cF p N a k l=(0,0,(YC p N (a+1) l).2.2):=by rw[cF,Aab ha,Aab hz,Aah h5]
   rw[hS];generalize YC p N (a+1) l=R at*
   obtain⟨v,n,e⟩:=R;simp only at*
   rw[Aah (by rw[Ak];simpa using h5)]
  ·have hsum:∀v:UInt32,(Ad (Af v:UInt64) (UInt64.ofNat (2^k))).toNat=v.toNat+2^k:=by
    intro v;have:=v.toNat_lt;have:=Bhx (n:=k) (show 0<2 by omega);rw[PK,UInt64.toNat_add,Dn,YV (by omega),Akl];omega
   by_cases h6:4294967295<(YC p N (a+1) l).1.toNat+2^k
   ·have hS:cF p N a k l=(0,0,12):=by rw[cF,Aab ha,Aab hz,Aab h5,Aah h6]
    rw[hS];generalize YC p N (a+1) l=R at*
    obtain⟨v,n,e⟩:=R;simp only at*
    rw[Aab (by rw[Ak];simpa using h5),QA k (by omega),Aa,Aah (by rw[YX,hsum];simpa using h6)]
   ·have hS:cF p N a k l=(UInt32.ofNat ((YC p N (a+1) l).1.toNat+2^k),(YC p N (a+1) l).2.1,0):=by rw[cF,Aab ha,Aab hz,Aab h5,Aab h6]
    rw[hS];generalize YC p N (a+1) l=R at*
    obtain⟨v,n,e⟩:=R;simp only at*
    rw[Aab (by rw[Ak];simpa using h5),QA k (by omega),Aa,Aab (by rw[YX,hsum];simpa using h6),e2,hsum]
abbrev DuN:=Nat×Nat×UInt64×UInt64
def okN(d:DuN):Prop:=okD d.1 d.2.1 d.2.2.1 d.2.2.2
def nxt(d:DuN)(v:UInt32):DuN:=(kS d.1 (Yz d.2.2.1 (n64 v)),lK d.2.1 d.2.2.2 d.1 v,Yz d.2.2.1 (n64 v),lT d.2.2.2 d.1 v)
def Aiw:DuN:=(10,10,16384,16384)
theorem Ay6:okN Aiw:=⟨by decide,by decide,by decide,by decide⟩
theorem Bfr{d:DuN}(h:okN d)(v:UInt32):okN (nxt d v):=Axj h v
abbrev DuL:=Int×Int×UInt64×UInt64×Unit
def toI(d:DuN):DuL:=((d.1:Int),(d.2.1:Int),d.2.2.1,d.2.2.2,())
def jN(ch:Nat)(v:List UInt32)(c:Nat):Nat->DuN
 |0=>Aiw
 |m+1=>if m %ch=c then nxt (jN ch v c m) (v.getD m 0)else jN ch v c m
theorem lY(ch:Nat)(v:List UInt32)(c:Nat):∀m,okN (jN ch v c m)
 |0=>Ay6
 |m+1=>by rw[jN];split;exact Bfr (lY ch v c m) _;exact lY ch v c m
theorem Aqj(ch:Nat)(v w:List UInt32)(c:Nat):∀m,m<=v.length->jN ch (v++w) c m=jN ch v c m
 |0,_=>rfl
 |m+1,h=>by
  have e:(v++w).getD m 0=v.getD m 0:=by simp[List.getD_eq_getElem?_getD,List.getElem?_append_left (show m<v.length by omega)]
  rw[jN,jN,Aqj ch v w c m (by omega),e]
theorem Aiu(ch:Nat)(v:List UInt32)(c:Nat):∀m,m<=c->c<ch->jN ch v c m=Aiw
 |0,_,_=>rfl
 |m+1,h,h2=>by rw[jN,Aab (by rw[Ab3 (by omega)];omega),Aiu ch v c m (by omega) h2]
theorem Aj3(ch:Nat)(v:List UInt32)(c i:Nat)(hi:i %ch=c)(hc:c<ch):∀j,j<ch->jN ch v c (i+1+j)=jN ch v c (i+1)
 |0,_=>rfl
 |j+1,h=>by
  have hne:(i+1+j) %ch≠c:=by
   intro e;have h1:(i+(1+j)) %ch=i %ch:=by rw[hi,<-e];congr 1;omega
   have h2:(1+j) %ch=0:=by
    have h3:=Nat.sub_mod_eq_zero_of_mod_eq h1;rwa [Bga]at h3
   rw[Ab3 (by omega)]at h2;omega
  rw[show i+1+(j+1)=(i+1+j)+1 by omega,jN,Aab hne,Aj3 ch v c i hi hc j (by omega)]
theorem Aw3(ch:Nat)(v:List UInt32)(c i:Nat)(hi:i %ch=c)(hc:c<ch):jN ch v c (i+ch)=nxt (jN ch v c i) (v.getD i 0):=by
 have h:=Aj3 ch v c i hi hc (ch-1) (by omega);rw[show i+1+(ch-1)=i+ch by omega]at h;rw[h,jN,Aah hi]
theorem sW{l:List UInt32}{k:Nat}(h:k<l.length):Ap l (k:Int)=some (l.getD k 0):=by
 rw[Bu h];simp[List.getD_eq_getElem?_getD,h]
theorem XT(a b:Nat):Ic (a:Int) (b:Int)=((a %b:Nat):Int):=by rw[Ic,Bjk (by omega)];omega
theorem yJ(ch:Nat)(v:List UInt32)(hch:1<=ch)(Bg4:ch<=6)(hv:v.length<=4000):∀(j i q:Nat),i %ch=v.length %ch->i<=v.length->v.length-i<=j->j<q->
  Pb (ch:Int) v q (i:Int) ((jN ch v (v.length %ch) i).1:Int) ((jN ch v (v.length %ch) i).2.1:Int) (jN ch v (v.length %ch) i).2.2.1 (jN ch v (v.length %ch) i).2.2.2=
   some (((jN ch v (v.length %ch) v.length).1:Int),((jN ch v (v.length %ch) v.length).2.1:Int),(jN ch v (v.length %ch) v.length).2.2.1,(jN ch v (v.length %ch) v.length).2.2.2)
 |j,i,q+1,hi,hl,hj,hq=>by
  have hc:v.length %ch<ch:=Bhd _ (by omega);rw[Pb,GX];by_cases h:i<v.length
  ·have h1:=Aue (lY ch v (v.length %ch) i) (v.getD i 0);rw[Aah (by rw[Ae,Ac];simp;omega),sW h,Aa,h1,Aa];have hle:i+ch<=v.length:=by
    have h2:=Bkh i ch;have h3:=Bkh v.length ch;rw[hi]at h2;have h4:ch*(i/ch)<ch*(v.length/ch):=by omega
    have h5:=Nat.lt_of_mul_lt_mul_left h4;have h6:ch*(i/ch+1)<=ch*(v.length/ch):=Nat.mul_le_mul_left _ h5;rw[Nat.mul_add]at h6;omega
   have ih:=yJ ch v hch Bg4 hv (j-ch) (i+ch) q (by rw[Bk5];exact hi) hle (by omega) (by omega);rw[Aw3 ch v _ i hi hc]at ih;simp only;rw[Aj (by omega) (by omega)];exact ih
  ·rw[Aab (by rw[Ae,Ac];simp;omega),show i=v.length by omega];rfl
theorem As6(ch:Nat)(v:List UInt32)(hch:1<=ch)(Bg4:ch<=6)(hv:v.length<=4000):Tn (ch:Int) v=some (((jN ch v (v.length %ch) v.length).1:Int),((jN ch v (v.length %ch) v.length).2.1:Int),(jN ch v (v.length %ch) v.length).2.2.1,(jN ch v (v.length %ch) v.length).2.2.2):=by
 have hc:v.length %ch<ch:=Bhd _ (by omega);have hle:v.length %ch<=v.length:=Nat.mod_le _ _;have h:=yJ ch v hch Bg4 hv v.length (v.length %ch) Ay (by rw[Nat.mod_mod]) hle (by omega) (by have:=Au;omega);rw[Aiu ch v _ _ (An0 _) hc]at h;rw[Tn,GM,Pp,Aa];simp only;rw[Bo (by rw[Ak];simp;omega),Aa,Ac,XT];exact h
def now(ch:Nat)(v:List UInt32):DuN:=jN ch v (v.length %ch) v.length
def wN(N a:Nat):Nat:=min 81 (N-a)
def Oa(ch:Nat)(p:List UInt8)(N a:Nat)(out:List UInt32):UInt32×Int×Int:=cF (Rm p a (wN N a)) (wN N a) 0 (now ch out).1 (now ch out).2.1
def Xa(ch:Nat)(p:List UInt8)(N:Nat):Nat->Nat->List UInt32->List UInt32×Nat×Int
 |0,a,out=>(out,a,0)
 |j+1,a,out=>if(Oa ch p N a out).2.2≠0 then(out,a,(Oa ch p N a out).2.2)else Xa ch p N j (a+(Oa ch p N a out).2.1.toNat) (out++[(Oa ch p N a out).1])
theorem oI{ch:Nat}{p:List UInt8}{N a:Nat}{out:List UInt32}(h:(Oa ch p N a out).2.2=0):0<(Oa ch p N a out).2.1/\ (Oa ch p N a out).2.1<=wN N a:=by
 have:=Bfn h;exact⟨this.1,this.2⟩
theorem Af7{ch:Nat}{p:List UInt8}{N a:Nat}{out:List UInt32}(h:(Oa ch p N a out).2.2=0):((a:Int)+(Oa ch p N a out).2.1)=((a+(Oa ch p N a out).2.1.toNat:Nat):Int):=by
 have:=oI h;omega
def sts(ch:Nat)(v:List UInt32):List DuL:=(List.range 6).map λc=>toI (jN ch v c v.length)
theorem Ai3{ch:Nat}{v:List UInt32}{c:Nat}(h:c<6):Ap (sts ch v) (c:Int)=some (toI (jN ch v c v.length)):=by
 rw[Bu (by simp[sts];exact h)];simp[sts]
theorem Aqt{ch:Nat}{v:List UInt32}{c:Nat}(x:UInt32)(h:c<6)(hc:c=v.length %ch):Nz (sts ch v) (c:Int) (toI (nxt (jN ch v c v.length) x))=some (sts ch (v++[x])):=by
 rw[Vv _ (by simp[sts];exact h)];congr 1;apply Baq (by simp[sts]);intro i h1 h2;rw[Blc];simp only[sts,Bjj,Bjd];have e:(v++[x]).getD v.length 0=x:=by simp
 rw[Aav,List.length_singleton,jN,e,Aqj ch v [x] i v.length (An0 _)];by_cases hi:c=i
 ·subst hi;rw[Aah rfl,Aah hc.symm]
 ·rw[Aab hi,Aab (by omega)]
theorem Bcr{ch:Nat}{v:List UInt32}{c:Nat}(hc:c=v.length %ch):jN ch v c v.length=now ch v:=by rw[now,hc]
section
variable {p:List UInt8} {N ch n:Nat}
theorem Aky(hp:okB p N)(h1:1<=ch)(h6:ch<=6)(hn:n*ch<=4000):∀(j a q:Nat) (out:List UInt32),out.length+j=n*ch->j<q->a<=N->
  Py (ch:Int) (n:Int) p (N:Int) q (a:Int) (out.length:Int) (sts ch out) out=
   some (if(Xa ch p N j a out).2.2≠0 then([],0,(Xa ch p N j a out).2.2)else((Xa ch p N j a out).1,((Xa ch p N j a out).2.1:Int),0))
 |j,a,q+1,out,hj,hq,ha=>by
  have hN:=hp.1;have hnn:n<=n*ch:=Nat.le_mul_of_pos_right n (by omega);have em:Bn (n:Int) (ch:Int)=((n*ch:Nat):Int):=by rw[Hh (by rw[<-Av5];omega) (by rw[<-Av5];omega),Av5]
  rw[Py,Vm,em];cases j with
  |zero=>
   rw[Aab (by rw[Ae];simp;omega)];rfl
  |succ j=>
   have hc:out.length %ch<6:=Anx (Bhd _ (by omega)) h6;have ew:Fe (Ad (a:Int) 81) (N:Int)=((a+wN N a:Nat):Int):=by rw[NP,Aj (by omega) (by omega)];unfold wN;omega
   have hw:a+wN N a<=N:=by unfold wN;omega
   have hw2:wN N a<=81:=by unfold wN;omega
   have hd:=Bck (tE p a (wN N a) (by omega)) 0 (lY ch out (out.length %ch) out.length);have Bal:cF (Rm p a (wN N a)) (wN N a) 0 (jN ch out (out.length %ch) out.length).1 (jN ch out (out.length %ch) out.length).2.1=Oa ch p N a out:=rfl;rw[Aah (by rw[Ae];simp;omega),ew,Bf6 hp a _ hw (by omega),Aa];simp only;rw[Aab (by rw[Ak];simp),Bo (by rw[Ak];simp;omega),Aa,XT,Ai3 hc,Aa,Aa];refine Bg6 (congrArg (λo=>Option.bind o _) hd) ?_;rw[Aa,Bal,Xa];by_cases he:(Oa ch p N a out).2.2≠0
   ·rw[Aah he,Aah he];simp only;rw[Wg,Wk,Aah (by rw[Ak];simpa using he),Aah he]
   ·have he0:(Oa ch p N a out).2.2=0:=by simpa using he
    have hok:=oI he0;have hset:=Aqt (ch:=ch) (v:=out) (Oa ch p N a out).1 hc rfl;rw[Aab he,Aab he];simp only;rw[Wg,Wk,Aab (by rw[Ak];simp),Bo (by rw[Ak];simp;omega),Aa,XT,Ai3 hc,Aa];refine Bg6 (congrArg (λo=>Option.bind o _) hset) ?_;rw[Aa,DT,VT,By (by simp;omega),Aa,Aj (by omega) (by omega),Aj (by omega) (by omega),Af7 he0];have ih:=Aky hp h1 h6 hn j (a+(Oa ch p N a out).2.1.toNat) q (out++[(Oa ch p N a out).1]) (by simp;omega) (by omega) (by omega);rw[Aav,List.length_singleton]at ih;exact ih
theorem Arb{p:List UInt8}(hN:N=8*p.length)(hN2:N<=330000)(h1:1<=ch)(h6:ch<=6)(hn:n*ch<=4000):∀(j a q:Nat) (out:List UInt32),out.length+j=n*ch->j<q->a<=N->
  Gd (ch:Int) (n:Int) p q (a:Int) (out.length:Int) out=
   if(Xa ch p N j a out).2.2≠0 then some ((Xa ch p N j a out).1,(Xa ch p N j a out).2.2)else Yf ((Xa ch p N j a out).2.1:Int) p (Xa ch p N j a out).1
 |j,a,q+1,out,hj,hq,ha=>by
  have hnn:n<=n*ch:=Nat.le_mul_of_pos_right n (by omega);have em:Bn (n:Int) (ch:Int)=((n*ch:Nat):Int):=by rw[Hh (by rw[<-Av5];omega) (by rw[<-Av5];omega),Av5]
  have e8:Bn (8:Int) (Ac p)=(N:Int):=by rw[Ac,Hh (by omega) (by omega)];omega
  rw[Gd,KW,em];cases j with
  |zero=>
   rw[Aab (by rw[Ae];simp;omega)];rfl
  |succ j=>
   have ew:Fe (Ad (a:Int) 81) (N:Int)=((a+wN N a:Nat):Int):=by rw[NP,Aj (by omega) (by omega)];unfold wN;omega
   have hw:a+wN N a<=N:=by unfold wN;omega
   have hw2:wN N a<=81:=by unfold wN;omega
   have hpre:(Option.bind Pp λ(r_4,r_5,r_6,r_7)=>
     if(Om (out.length:Int) (ch:Int))=true then(
     Option.bind (Tn (ch:Int) out) λ(r_8,r_9,r_10,r_11)=>
     Ln (Gd (ch:Int) (n:Int) p q) (ch:Int) (n:Int) p (a:Int) (out.length:Int) out r_8 r_9 r_10 r_11)
     else Ln (Gd (ch:Int) (n:Int) p q) (ch:Int) (n:Int) p (a:Int) (out.length:Int) out r_4 r_5 r_6 r_7)=
     Ln (Gd (ch:Int) (n:Int) p q) (ch:Int) (n:Int) p (a:Int) (out.length:Int) out ((now ch out).1:Int) ((now ch out).2.1:Int) (now ch out).2.2.1 (now ch out).2.2.2:=by
    rw[Pp,Aa];by_cases hc:ch<=out.length
    ·simp only;rw[Aah (by rw[Dq];simp;omega),As6 ch out h1 h6 (by omega),Aa];rfl
    ·have e:now ch out=Aiw:=by rw[now,Ab3 (by omega),Aiu ch out _ _ (An0 _) (by omega)]
     simp only;rw[Aab (by rw[Dq];simp;omega),e];rfl
   have hd:=Axe (tE p a (wN N a) (by omega)) 0 (now ch out).1 (now ch out).2.1 (now ch out).2.2.1 (now ch out).2.2.2 (lY ch out _ _).1 (lY ch out _ _).2.1;have Bal:cF (Rm p a (wN N a)) (wN N a) 0 (now ch out).1 (now ch out).2.1=Oa ch p N a out:=rfl;rw[Aah (by rw[Ae];simp;omega),hpre,Ln,LO,e8,ew,Anr p (N:Int) a _ (by omega) (by omega) (by omega),Aa];simp only;refine Bg6 (congrArg (λo=>Option.bind o _) hd) ?_;rw[Aa,Bal,Xa];by_cases he:(Oa ch p N a out).2.2≠0
   ·rw[Aah he,Aah (by rw[Ak];simpa using he),Aah he]
   ·have he0:(Oa ch p N a out).2.2=0:=by simpa using he
    have hok:=oI he0;have ih:=Arb hN hN2 h1 h6 hn j (a+(Oa ch p N a out).2.1.toNat) q (out++[(Oa ch p N a out).1]) (by simp;omega) (by omega) (by omega);have hx:=Af7 he0;rw[Aav,List.length_singleton]at ih;rw[Aab he];generalize Oa ch p N a out=R at*
    obtain⟨v,nx,e⟩:=R;simp only at*
    rw[Aab (by rw[Ak];simpa using he),By (by simp;omega),Aa,Aj (by omega) (by omega),Aj (by omega) (by omega),hx];exact ih
end
theorem Aaj{ch:Nat}{p:List UInt8}{N:Nat}:∀(j a:Nat) (out:List UInt32),a<=N-> (Xa ch p N j a out).2.1<=N/\ (Xa ch p N j a out).1.length<=out.length+j/\ ((Xa ch p N j a out).2.2=0-> (Xa ch p N j a out).1.length=out.length+j)
 |0,a,out,h=>⟨h,An0 _,λ_=>rfl⟩
 |j+1,a,out,h=>by
  rw[Xa];split
  ·rename_i he;exact⟨h,by simp,λe=>absurd e he⟩
  ·rename_i he;have hok:=oI (ch:=ch) (p:=p) (N:=N) (a:=a) (out:=out) (by simpa using he);have hw:a+wN N a<=N:=by unfold wN;omega
   have ih:=Aaj (ch:=ch) (p:=p) (N:=N) j (a+(Oa ch p N a out).2.1.toNat) (out++[(Oa ch p N a out).1]) (by omega);rw[Aav,List.length_singleton]at ih;exact⟨ih.1,by omega,λe=>by have:=ih.2.2 e;omega⟩
theorem Am6(ch n:Int)(b:List UInt8)(N:Int):Wh ch n b N 0 (List.replicate 6 ((0:Int),(0:Int),(0:UInt64),(0:UInt64),()))=DZ ch n b N (List.replicate 6 ((10:Int),(10:Int),(16384:UInt64),(16384:UInt64),())):=by
 have e:Ay=(Ay-7)+1+1+1+1+1+1+1:=by have:=Au;omega
 rw[Wh,e];rfl
theorem values_eq{p:List UInt8}{N ch n:Nat}(hp:okB p N)(h1:1<=ch)(h6:ch<=6)(hn:n*ch<=4000):JV (ch:Int) (n:Int) p (N:Int)=
  some (if(Xa ch p N (n*ch) 0 []).2.2≠0 then([],0,(Xa ch p N (n*ch) 0 []).2.2)else((Xa ch p N (n*ch) 0 []).1,((Xa ch p N (n*ch) 0 []).2.1:Int),0)):=by
 have h:=Aky hp h1 h6 hn (n*ch) 0 Ay [] (by simp) (by have:=Au;omega) (by omega);rw[JV,JO,Am6];exact h
theorem Ahk(p:List UInt8)(x:List UInt32)(N:Nat)(hN:N=8*p.length)(hN2:N<=330000):∀(j a q:Nat),a+j=N->j<q->Lp p x q (a:Int)=some (x,if Cb p a j=0 then 0 else 12)
 |0,a,q+1,ha,_=>by
  have e8:Bn (8:Int) (Ac p)=(N:Int):=by rw[Ac,Hh (by omega) (by omega)];omega
  rw[Lp,Xm,e8,Aab (by rw[Ae];simp;omega),Cb,Aah rfl];rfl
 |j+1,a,q+1,ha,hq=>by
  have e8:Bn (8:Int) (Ac p)=(N:Int):=by rw[Ac,Hh (by omega) (by omega)];omega
  have hb:=CY p a;rw[Lp,Xm,e8,Aah (by rw[Ae];simp;omega),xD p _ a (by omega) (by omega),Aa,Cb];by_cases h:Hn p a=0
  ·rw[Aab (by rw[Ak];simp[h]),Aj (by omega) (by omega),h];have ih:=Ahk p x N hN hN2 j (a+1) q (by omega) (by omega);rw[show((a:Int)+1)=((a+1:Nat):Int) by omega,ih];congr 2;by_cases hv:Cb p (a+1) j=0
   ·rw[Aah hv,Aah (by omega)]
   ·rw[Aab hv,Aab (by omega)]
  ·rw[Aah (by rw[Ak];simp;omega),Aab (by omega)]
theorem Air{p:List UInt8}{N ch n:Nat}(hN:N=8*p.length)(hN2:N<=330000)(h1:1<=ch)(h6:ch<=6)(hn:n*ch<=4000):HV (ch:Int) (n:Int) p=
  some (if(Xa ch p N (n*ch) 0 []).2.2≠0 then((Xa ch p N (n*ch) 0 []).1,(Xa ch p N (n*ch) 0 []).2.2)else
   ((Xa ch p N (n*ch) 0 []).1,if 7<N-(Xa ch p N (n*ch) 0 []).2.1\/Cb p (Xa ch p N (n*ch) 0 []).2.1 (N-(Xa ch p N (n*ch) 0 []).2.1)≠0 then 12 else 0)):=by
 have h:=Arb hN hN2 h1 h6 hn (n*ch) 0 Ay [] (by simp) (by have:=Au;omega) (by omega);have hat:=(Aaj (ch:=ch) (p:=p) (N:=N) (n*ch) 0 [] (by omega)).1;have e8:Bn (8:Int) (Ac p)=(N:Int):=by rw[Ac,Hh (by omega) (by omega)];omega
 rw[HV,PZ];refine Bg6 h ?_;generalize Xa ch p N (n*ch) 0 []=V at*
 obtain⟨v,a,e⟩:=V;simp only at*
 by_cases he:e≠0
 ·rw[Aah he,Aah he]
 ·rw[Aab he,Aab he,Yf,KU,e8,Bp (by omega) (by omega)];by_cases h7:7<N-a
  ·rw[Aah (by rw[Aq];simp;omega),Aah (.inl h7)]
  ·rw[Aab (by rw[Aq];simp;omega),KZ,Ahk p v N hN hN2 (N-a) a Ay (by omega) (by have:=Au;omega)];by_cases hv:Cb p a (N-a)=0
   ·rw[Aah hv,Aab (by omega)]
   ·rw[Aab hv,Aah (.inr hv)]
theorem Ahp(n:Int):(GI.ofZ n:Int32)=Int32.ofInt n:=rfl
theorem ZL(a:Int32):GI.toZ a=a.toInt:=rfl
theorem cW(a b:Int32):Ad a b=a+b:=by
 rw[Ad,ZL,ZL,Ahp,Int32.ofInt_add,Bas,Bas]
theorem WZ(a b:Int32):Am a b=a-b:=by
 rw[Am,ZL,ZL,Ahp,Int32.ofInt_sub,Bas,Bas]
theorem As1(a b:Int32):geq a b=(a==b):=by
 rw[geq,ZL,ZL,Amo];simp[Int32.toInt_inj]
def fL(p:Nat->Bool)(a b:List Int32):List Int32:=(List.range a.length).map λk=>if p k=true then a.getD k 0 else b.getD k 0
section
variable {p q:Nat->Bool} {a b:List Int32}
theorem OB:(fL p a b).length=a.length:=by simp[fL]
theorem Ka{k:Nat}(h:k<a.length):a.getD k 0=a[k]:=by simp[List.getD_eq_getElem?_getD,h]
theorem Vh{k:Nat}(h:k<(fL p a b).length):(fL p a b)[k]=if p k=true then a.getD k 0 else b.getD k 0:=by simp[fL]
theorem DE{k:Nat}(h:k<a.length):Ap (fL p a b) (k:Int)=some (if p k=true then a.getD k 0 else b.getD k 0):=by
 rw[Bu (by rw[OB];exact h),Vh]
theorem Xe(h:∀k,k<a.length->p k=q k):fL p a b=fL q a b:=by
 apply Bk9;intro k hk;rw[h k (List.mem_range.1 hk)]
theorem fN{k:Nat}(h:k<a.length):Nz (fL p a b) (k:Int) (a.getD k 0)=some (fL (λj=>p j||decide (j=k)) a b):=by
 rw[Vv _ (by rw[OB];exact h)];congr 1;apply Baq (by simp[OB]);intro i h1 h2;rw[Blc,Vh,Vh];by_cases hi:k=i
 ·subst hi;simp
 ·have:¬i=k:=λe=>hi e.symm;simp[hi,this]
theorem oT(h:∀k,k<a.length->p k=true):fL p a b=a:=by
 apply Baq (by simp[OB]);intro i h1 h2;rw[Vh,Aah (h i h2),Ka h2]
theorem mY(hl:b.length=a.length)(h:∀k,k<a.length->p k=false):fL p a b=b:=by
 apply Baq (by simp[OB,hl]);intro i h1 h2;rw[Vh,h i (by omega)];simp[List.getD_eq_getElem?_getD,h2]
end
theorem Adz(a b:Int32):Bn a b=a*b:=by
 rw[Bn,ZL,ZL,Ahp,Int32.ofInt_mul,Bas,Bas]
theorem BN(a:Int32): -2147483648<=a.toInt/\a.toInt<2147483648:=⟨a.le_toInt,a.toInt_lt⟩
theorem Fx(a:Int32):(Af a:Int)=a.toInt:=by
 have:=BN a
 show wrap64 a.toInt=_;rw[Cx]<;>omega
theorem UG(n:Int):(Af n:Int32)=Int32.ofInt n:=rfl
theorem Avx(x:Int):Int32.ofInt (x %4294967296)=Int32.ofInt x:=by
 apply Int32.toInt_inj.1;rw[Bjm,Bjm];exact Int.emod_bmod x 4294967296
theorem zZ(x:Int):Dd x=some (Int32.ofInt x):=by
 have e1:(Af x:UInt64).toNat=(x %18446744073709551616).toNat:=by
  rw[Ajx,Akl,Ab3 (by omega)]
 have e2:(Af (Af x:UInt64):UInt32).toNat=(x %4294967296).toNat:=by
  have e:(Af (Af x:UInt64):UInt32)=UInt32.ofNat (Af x:UInt64).toNat:=by simp only[Af,Lb,Ga]
  rw[e,Ant,e1];show(x %18446744073709551616).toNat %4294967296=_;omega
 have e3:(Af (Af (Af x:UInt64):UInt32):Int32)=Int32.ofInt ((Af (Af x:UInt64):UInt32).toNat:Int):=rfl;rw[Dd,e3,e2,<-Avx x];congr 2;omega
theorem uG(a b:Int32):Dd (Ad (Af a:Int) (Af b:Int))=some (a+b):=by
 have:=BN a;have:=BN b;rw[Fx,Fx,Aj (by omega) (by omega),zZ,Int32.ofInt_add,Bas,Bas]
theorem Azf(a b:Int32):Dd (Bn (Af a:Int) (Af b:Int))=some (a*b):=by
 have ha:=BN a;have hb:=BN b;have h1: -9223372036854775808<=a.toInt*b.toInt/\a.toInt*b.toInt<=9223372036854775807:=by
  have h2:(a.toInt*b.toInt).natAbs<=2147483648*2147483648:=by
   rw[Int.natAbs_mul];exact Bgv (by omega) (by omega)
  omega
 rw[Fx,Fx,Hh h1.1 h1.2,zZ,Int32.ofInt_mul,Bas,Bas]
def OkF(s:Int)(t p:List Int32):Prop:=(s=9\/s=10)/\t.length=16/\p.length=16
theorem vO{s:Int}{t p:List Int32}(h:OkF s t p):NJ s t p=some 0:=by
 obtain⟨rfl|rfl,_,_⟩:=h<;>rfl
theorem g32{l:List Int32}{k:Nat}(h:k<l.length):Ap l (k:Int)=some (l.getD k 0):=by
 rw[Bu h];simp[List.getD_eq_getElem?_getD,h]
def mS(t p:List Int32):Nat->Int32
 |0=>0
 |i+1=>mS t p i+t.getD i 0*p.getD i 0
def half(s:Int):Int32:=if s=9 then 256 else 512
def gF(s:Int)(t p:List Int32):Int32:=Int32.ofInt ((half s+mS t p 16).toInt.fdiv (if s=9 then 512 else 1024))
theorem Afp{s:Int}{t p:List Int32}(h:OkF s t p):∀(j i q:Nat),i+j=16->j<q->Xc t s p q (half s+mS t p i) (i:Int)=some (gF s t p,0)
 |0,i,q+1,hi,_=>by
  obtain rfl:i=16:=by omega
  have hs:=h.1;rw[Xc,OE,Aab (by rw[Ae];simp),bQ,pX,Bo (by rw[Dq];simp;omega),Aa];obtain rfl|rfl:=hs<;>rfl
 |j+1,i,q+1,hi,hq=>by
  obtain⟨hs,ht,hp⟩:=h;rw[Xc,OE,Aah (by rw[Ae];simp;omega),g32 (by omega),Aa,g32 (by omega),Aa,Aa,Aj (b:=1) (by omega) (by omega),cW,Adz,Int32.add_assoc];exact Afp ⟨hs,ht,hp⟩ j (i+1) q (by omega) (by omega)
theorem Aj5{s:Int}{t p:List Int32}(h:OkF s t p):YA s t p=some (gF s t p,0):=by
 have hs:=h.1;have h1:=Afp h 16 0 Ay (by omega) (by have:=Au;omega);have e:Ea (1:Int32) (GI.toZ (Am s (1:Int))).toNat=half s+mS t p 0:=by
  obtain rfl|rfl:=hs<;>rfl
 rw[YA,bM,vO h,Aa,Aab (by rw[Ak];simp),Bo (by rw[Dq,Bp (by omega) (by omega)];simp;omega),Aa,aQ,e];exact h1
theorem Aej{s:Int}{t p:List Int32}(ht:t.length=16)(hp:p.length=16){g:Int32}(hg:mS t p 16=g):∀(j i q:Nat),i+j=16->j<q->Og s t p q (mS t p i).toInt (i:Int)=some g
 |0,i,q+1,hi,_=>by
  obtain rfl:i=16:=by omega
  rw[Og,BQ,Aab (by rw[Ae];simp),SR,TD,UG,Bas,hg]
 |j+1,i,q+1,hi,hq=>by
  have ih:=Aej (s:=s) ht hp hg j (i+1) q (by omega) (by omega);rw[mS]at ih;rw[Og,BQ,Aah (by rw[Ae];simp;omega),g32 (by omega),g32 (by omega),Aa,Aa,Aa,Aa,Azf,Aa,<-Fx (mS t p i),uG,Aa,Fx,Aj (by omega) (by omega)];exact ih
theorem Ax6{s:Int}{t p:List Int32}(h:OkF s t p):dX s t p=some (mS t p 16):=
 Aej h.2.1 h.2.2 rfl 16 0 Ay (by omega) (by have:=Au;omega)
theorem Atm(x n:Int)(hn:n=512\/n=1024\/n=16\/n=32):(if x.tmod n<0 then x.tdiv n-1 else x.tdiv n)=x.fdiv n:=by
 have hs:n.sign=1:=by obtain rfl|rfl|rfl|rfl:=hn<;>rfl
 rw[Int.tdiv_eq_ediv,Int.tmod_eq_emod,hs,Avi _ (by omega)];by_cases h:0<=x\/n∣x
 ·rw[Aah h,Aah h];obtain rfl|rfl|rfl|rfl:=hn<;>(rw[Aab (by omega)];omega)
 ·rw[Aab h,Aab h];obtain rfl|rfl|rfl|rfl:=hn<;>(rw[Aah (by omega)];omega)
theorem Acp(x n:Int)(hn:n=512\/n=1024\/n=16\/n=32)(h: -1000000000000<=x)(h':x<=1000000000000): -1000000000000<=x.tdiv n/\x.tdiv n<=1000000000000:=by
 have hs:n.sign=1:=by obtain rfl|rfl|rfl|rfl:=hn<;>rfl
 rw[Int.tdiv_eq_ediv,hs];by_cases h:0<=x\/n∣x
 ·rw[Aah h];obtain rfl|rfl|rfl|rfl:=hn<;>omega
 ·rw[Aab h];obtain rfl|rfl|rfl|rfl:=hn<;>omega
theorem Bio(x n:Int)(hn:n=512\/n=1024\/n=16\/n=32)(h: -1000000000000<=x)(h':x<=1000000000000):Cv x n=x.tdiv n:=by
 have:=Acp x n hn h h';rw[SF,Cx (by omega) (by omega)]
theorem Anj(x n:Int)(hn:n=512\/n=1024\/n=16\/n=32)(h: -1000000000000<=x)(h':x<=1000000000000):
  (if(Cr (Ic x n) (0:Int))=true then some (Af (Am (Cv x n) (1:Int)):Int32)else some (Af (Cv x n):Int32))=some (Int32.ofInt (x.fdiv n)):=by
 have hb:=Acp x n hn h h';rw[Ae,Ic,Bio x n hn h h',Bp (by omega) (by omega),UG,UG,<-Atm x n hn];by_cases hx:x.tmod n<0
 ·rw[Aah (by simpa using hx),Aah hx]
 ·rw[Aab (by simpa using hx),Aab hx]
theorem Bc8{s:Int}{t p:List Int32}(h:OkF s t p):KK s t p=some (gF s t p):=by
 obtain⟨hs,ht,hp⟩:=h;have h:OkF s t p:=⟨hs,ht,hp⟩;have hx:=BN (mS t p 16+half s);have key:∀n:Int,(n=512\/n=1024)-> (half s).toInt=n/2->gF s t p=Int32.ofInt ((half s+mS t p 16).toInt.fdiv n)->Zn s t p n=some (gF s t p):=by
  intro n hn hh hg;have e2:Cv n (2:Int)=(half s).toInt:=by rw[hh];obtain rfl|rfl:=hn<;>rfl
  rw[Zn,QL,Ax6 h,Aa,e2,<-Fx (half s),uG,Aa,Bo (by rw[Ak];simp;omega),Aa,Aa,Fx,Anj _ n (by omega) (by omega) (by omega),hg,Int32.add_comm]
 rw[KK,PL];obtain rfl|rfl:=hs
 ·rw[Aah (by rw[Ar];rfl)];exact key 512 (.inl rfl) rfl rfl
 ·rw[Aab (by rw[Ar];decide)];exact key 1024 (.inr rfl) rfl rfl
def stp(i:Nat):Int32:=if i=0 then 4 else if i<4 then 2 else 1
def sg(x:Int32):Int32:=if x.toInt<0 then -1 else if 0<x.toInt then 1 else 0
def lrn(t p:List Int32)(w:Int32):List Int32:=(List.range 16).map λi=>t.getD i 0+stp i*sg (p.getD i 0)*sg w
theorem GP(t p:List Int32)(w:Int32):(lrn t p w).length=16:=by simp[lrn]
theorem Ahy(t p:List Int32)(w:Int32){i:Nat}(h:i<16):(lrn t p w).getD i 0=t.getD i 0+stp i*sg (p.getD i 0)*sg w:=by
 rw[Ka (by rw[GP];exact h)];simp[lrn]
theorem step_eq(i:Nat):cM (i:Int)=some (stp i):=by
 rw[cM,stp];by_cases h:i=0
 ·rw[Aah (by rw[Ar];simp[h]),Aah h]
 ·rw[Aab (by rw[Ar];simp;omega),Aab h];by_cases h2:i<4
  ·rw[Aah (by rw[Ae];simp;omega),Aah h2]
  ·rw[Aab (by rw[Ae];simp;omega),Aab h2]
theorem Atp(i:Nat):JT (i:Int)=some (stp i):=by
 rw[JT,stp];by_cases h:i=0
 ·rw[Aah (by rw[Ar];simp[h]),Aah h]
 ·rw[Aab (by rw[Ar];simp;omega),Aab h];by_cases h2:i<4
  ·rw[Aah (by rw[ZJ];simp;omega),Aah h2]
  ·rw[Aab (by rw[ZJ];simp;omega),Aab h2]
theorem Ah9(a b:Int32):Cr a b=decide (a.toInt<b.toInt):=rfl
theorem Apx(a b:Int32):Ez a b=decide (b.toInt<a.toInt):=rfl
theorem sign_eq(x:Int32):Yq x=some (sg x):=by
 rw[Yq,sg,Ah9,Apx,show(0:Int32).toInt=0 from rfl];by_cases h:x.toInt<0
 ·rw[Aah (by simpa using h),Aah h]
 ·rw[Aab (by simpa using h),Aab h];by_cases h2:0<x.toInt
  ·rw[Aah (by simpa using h2),Aah h2]
  ·rw[Aab (by simpa using h2),Aab h2]
theorem Asr:sg 0=0:=rfl
theorem toInt_ne{x:Int32}(h:x≠0):x.toInt≠0:=λe=>h (Int32.toInt_inj.1 (by rw[e];rfl))
theorem Ahz{x:Int32}(h:x.toInt<0):sg x= -1:=by rw[sg,Aah h]
theorem Ahq{x:Int32}(h:x≠0)(h2:¬x.toInt<0):sg x=1:=by
 have:=toInt_ne h;rw[sg,Aab h2,Aah (by omega)]
theorem pB(i:Nat):stp i=4\/stp i=2\/stp i=1:=by
 unfold stp;by_cases h:i=0
 ·rw[Aah h];exact .inl rfl
 ·rw[Aab h];split;exact .inr (.inl rfl);exact .inr (.inr rfl)
theorem Att{x w:Int32}(hx:x≠0)(hw:w≠0)(h:(x.toInt<0)=(w.toInt<0))(i:Nat):stp i*sg x*sg w=stp i:=by
 by_cases h1:x.toInt<0
 ·rw[Ahz h1,Ahz (by rw[<-h];exact h1)];obtain e|e|e:=pB i<;>rw[e]<;>decide
 ·rw[Ahq hx h1,Ahq hw (by rw[<-h];exact h1)];obtain e|e|e:=pB i<;>rw[e]<;>decide
theorem Ao8{x w:Int32}(hx:x≠0)(hw:w≠0)(h:¬(x.toInt<0)=(w.toInt<0))(i:Nat)(a:Int32):a+stp i*sg x*sg w=a-stp i:=by
 have key:stp i*sg x*sg w=-stp i:=by
  by_cases h1:x.toInt<0
  ·have h2:¬w.toInt<0:=λh2=>h (propext ⟨λ_=>h2,λ_=>h1⟩);rw[Ahz h1,Ahq hw h2];obtain e|e|e:=pB i<;>rw[e]<;>decide
  ·have h2:w.toInt<0:=Decidable.by_contra λh2=>h (propext ⟨λh3=>absurd h3 h1,λh3=>absurd h3 h2⟩);rw[Ahq hx h1,Ahz h2];obtain e|e|e:=pB i<;>rw[e]<;>decide
 rw[key,Int32.sub_eq_add_neg]
def vM(i:Nat):Nat->Bool:=λj=>decide (j<i)
theorem Ac5{a b:List Int32}{i:Nat}(h:i<a.length):Nz (fL (vM i) a b) (i:Int) (a.getD i 0)=some (fL (vM (i+1)) a b):=by
 rw[fN h];congr 1;apply Xe;intro k _;rw[Amo];simp only[vM,Bat,Abv];omega
theorem Avg{a b:List Int32}{i:Nat}(e:a.getD i 0=b.getD i 0):fL (vM i) a b=fL (vM (i+1)) a b:=by
 apply Bk9;intro k _;simp only[vM,Abv];by_cases h1:k<i
 ·rw[Aah h1,Aah (by omega)]
 ·by_cases h2:k=i
  ·subst h2;rw[Aab h1,Aah (by omega),e]
  ·rw[Aab h1,Aab (by omega)]
theorem Ajw{a b:List Int32}{i:Nat}(h:i<a.length):Ap (fL (vM i) a b) (i:Int)=some (b.getD i 0):=by
 rw[DE h,Aab (by simp[vM])]
theorem Af9{s:Int}{t p:List Int32}{w:Int32}(hw:w≠0)(ht:t.length=16)(hp:p.length=16):∀(j i q:Nat),i+j=16->j<q->Xl w p s q (i:Int) (fL (vM i) (lrn t p w) t)=some (s,lrn t p w,p,0)
 |0,i,q+1,hi,_=>by
  obtain rfl:i=16:=by omega
  rw[Xl,OP,Aab (by rw[Ae];simp),oT (λk hk=>by rw[GP]at hk;simpa [vM]using hk)];rfl
 |j+1,i,q+1,hi,hq=>by
  have hl:=GP t p w;have hg:=Ahy t p w (i:=i) (by omega);rw[Xl,OP,Aah (by rw[Ae];simp;omega),g32 (by omega),Aa,Aj (b:=1) (by omega) (by omega),Ajw (by omega),step_eq];simp only[Aa];rw[cW,WZ,As1,Ah9,Ah9,show(0:Int32).toInt=0 from rfl];have ih:=Af9 (s:=s) hw ht hp j (i+1) q (by omega) (by omega);by_cases hx:p.getD i 0=0
  ·rw[Aah (by rw[hx];rfl),Avg (by rw[hg,hx,Asr,Int32.mul_zero,Int32.zero_mul,Int32.add_zero])];exact ih
  ·rw[Aab (by simpa using hx)];by_cases hs:((p.getD i 0).toInt<0)=(w.toInt<0)
   ·rw[Aah (by rw[Av2];simp only[hs]),show t.getD i 0+stp i=(lrn t p w).getD i 0 by rw[hg,Att hx hw hs],Ac5 (by omega),Aa];exact ih
   ·rw[Aab (by rw[Av2,decide_eq_decide];exact λh=>hs (propext h)),show t.getD i 0-stp i=(lrn t p w).getD i 0 by rw[hg,Ao8 hx hw hs],Ac5 (by omega),Aa];exact ih
theorem Ay7{t:List Int32}(p:List Int32)(ht:t.length=16):lrn t p 0=t:=by
 apply Baq (by rw[GP,ht]);intro i h1 h2;have:=Ahy t p 0 (i:=i) (by omega);rw[Ka h1,Ka h2]at this;rw[this,Asr,Int32.mul_zero,Int32.add_zero]
theorem Al1{s:Int}{t p:List Int32}(h:OkF s t p)(w:Int32):iH s t p w=some (s,lrn t p w,p,0):=by
 rw[iH,aY,vO h,Aa,Aab (by rw[Ak];simp),As1];by_cases hw:w=0
 ·rw[Aah (by simpa using hw),hw,Ay7 p h.2.1]
 ·have h1:=Af9 (s:=s) hw h.2.1 h.2.2 16 0 Ay (by omega) (by have:=Au;omega);rw[mY (by rw[GP,h.2.1]) (λk _=>by simp[vM])]at h1;rw[Aab (by simpa using hw)];exact h1
theorem tJ{s:Int}{t p:List Int32}{w:Int32}(ht:t.length=16)(hp:p.length=16):∀(j i q:Nat),i+j=16->j<q->Jh w s p q (i:Int) (fL (vM i) (lrn t p w) t)=some (s,lrn t p w,p)
 |0,i,q+1,hi,_=>by
  obtain rfl:i=16:=by omega
  rw[Jh,Us,Aab (by rw[Ae];simp),oT (λk hk=>by rw[GP]at hk;simpa [vM]using hk)];rfl
 |j+1,i,q+1,hi,hq=>by
  have hl:=GP t p w;have hg:=Ahy t p w (i:=i) (by omega);rw[Jh,Us,Aah (by rw[Ae];simp;omega),g32 (l:=p) (by omega),Aj (b:=1) (by omega) (by omega),Ajw (by omega),Atp,sign_eq w,Aa,Aa,Aa,Aa,Aa,sign_eq,Aa,Aa,Aa,cW,Adz,Adz,<-hg,Ac5 (by omega),Aa];exact tJ ht hp j (i+1) q (by omega) (by omega)
theorem Ao9{s:Int}{t p:List Int32}(h:OkF s t p)(w:Int32):OQ s t p w=some (s,lrn t p w,p):=by
 have h1:=tJ (s:=s) (w:=w) h.2.1 h.2.2 16 0 Ay (by omega) (by have:=Au;omega);rw[mY (by rw[GP,h.2.1]) (λk _=>by simp[vM])]at h1;exact h1
theorem Bcz{p:List Int32}(h:p.length=16):∃a0 a1 a2 a3 a4 a5 a6 a7 a8 a9 b0 b1 b2 b3 b4 b5,p=[a0,a1,a2,a3,a4,a5,a6,a7,a8,a9,b0,b1,b2,b3,b4,b5]:=by
 match p,h with
 |[a0,a1,a2,a3,a4,a5,a6,a7,a8,a9,b0,b1,b2,b3,b4,b5],_=>exact⟨a0,a1,a2,a3,a4,a5,a6,a7,a8,a9,b0,b1,b2,b3,b4,b5,rfl⟩
theorem Ash{s:Int}{t p:List Int32}(h:OkF s t p)(x:Int32):pG s t p x=some (s,t,x::p.take 15,0):=by
 obtain⟨hs,ht,hp⟩:=h;rw[pG,UA,vO ⟨hs,ht,hp⟩,Aa,Aab (by rw[Ak];simp),show jH (16:Int) 1 16=some ()from rfl,Aa,show jH (16:Int) 0 16=some ()from rfl,Aa,hU,tC];obtain⟨a0,a1,a2,a3,a4,a5,a6,a7,a8,a9,b0,b1,b2,b3,b4,b5,rfl⟩:=Bcz hp;rfl
def shf(p:List Int32)(i:Nat):List Int32:=(List.range 16).map λk=>if k<=i then p.getD k 0 else p.getD (k-1) 0
theorem DH(p:List Int32)(i:Nat):(shf p i).length=16:=by simp[shf]
theorem Bcg(p:List Int32)(i k:Nat)(h:k<16):(shf p i).getD k 0=if k<=i then p.getD k 0 else p.getD (k-1) 0:=by
 rw[Ka (by rw[DH];exact h)];simp[shf]
theorem Bbc(p:List Int32)(i:Nat)(h:i+1<16):Nz (shf p (i+1)) ((i+1:Nat):Int) (p.getD i 0)=some (shf p i):=by
 rw[Vv _ (by rw[DH];exact h)];congr 1;apply Baq (by simp[DH]);intro k h1 h2;rw[DH]at h2;rw[Blc];simp only[shf,Bjj,Bjd];by_cases hk:i+1=k
 ·subst hk;rw[Aah rfl,Aab (by omega)];rfl
 ·rw[Aab hk];by_cases h3:k<=i
  ·rw[Aah (by omega),Aah h3]
  ·rw[Aab (by omega),Aab h3]
theorem yE(s:Int)(t p:List Int32)(x:Int32)(hp:p.length=16):∀(i q:Nat),i<16->i<q->Ke x s t q (i:Int) (shf p i)=some (s,t,x::p.take 15)
 |0,q+1,_,_=>by
  have hg:Ap (shf p 0) (0:Int)=some ((shf p 0).getD 0 0):=g32 (l:=shf p 0) (k:=0) (by rw[DH];omega);have hset:Nz (shf p 0) (0:Int) x=some ((shf p 0).set 0 x):=Vv (l:=shf p 0) (n:=0) x (by rw[DH];omega);rw[Ke,Vt,Aab (by rw[Aq];simp),IE,HL,hg,Aa,hset,Aa];congr 3;apply Baq (by simp[DH,hp]);intro k h1 h2;rw[Bix,DH]at h1;rw[Blc];cases k with
  |zero=>rw[Aah rfl];rfl
  |succ k=>
   rw[Aab (by omega)];simp only[shf,Bjj,Bjd,List.getElem_cons_succ,List.getElem_take];rw[Aab (by omega),Nat.add_sub_cancel,Ka (by omega)]
 |i+1,q+1,hi,hq=>by
  have hg:=g32 (l:=shf p (i+1)) (k:=i) (by rw[DH];omega);rw[Bcg p (i+1) i (by omega),Aah (by omega)]at hg;have e1:Am ((i+1:Nat):Int) (1:Int)=(i:Int):=by rw[Bp (by omega) (by omega)];omega
  have hg2:=g32 (l:=shf p (i+1)) (k:=i+1) (by rw[DH];omega);rw[Ke,Vt,Aah (by rw[Aq];simp),e1,hg,Aa,Aa,hg2,Aa,Bbc p i hi,Aa];exact yE s t p x hp i q (by omega) (by omega)
theorem Atj{s:Int}{t p:List Int32}(hp:p.length=16)(x:Int32):SY s t p x=some (s,t,x::p.take 15):=by
 have h:=yE s t p x hp 15 Ay (by omega) (by have:=Au;omega);have e:shf p 15=p:=by
  apply Baq (by rw[DH,hp]);intro k h1 h2;rw[DH]at h1;simp only[shf,Bjj,Bjd];rw[Aah (by omega),Ka h2]
 rw[e]at h;exact h
theorem Axa{s:Int}{t p:List Int32}(h:OkF s t p)(w x:Int32):OkF s (lrn t p w) (x::p.take 15):=⟨h.1,GP _ _ _,by simp[h.2.2]⟩
theorem Ba7{s:Int}{t p:List Int32}(h:OkF s t p)(y:Int32):lC s t p y=some (y+gF s t p,s,lrn t p y,(y+gF s t p)::p.take 15,0):=by
 rw[lC,Aj5 h,Aa];simp only;rw[Aab (by rw[Ak];simp),cW,YO,Al1 h,Aa];simp only;rw[Ash (s:=s) (t:=lrn t p y) (p:=p) ⟨h.1,GP _ _ _,h.2.2⟩,Aa];rfl
theorem Atg{s:Int}{t p:List Int32}(h:OkF s t p)(y:Int32):Zj s t p y=some (y+gF s t p,s,lrn t p y,(y+gF s t p)::p.take 15):=by
 rw[Zj,Bc8 h,Aa,uG,Aa,Ao9 h,Aa];simp only;rw[Atj h.2.2,Aa]
def sB(bits:Int):Int:=if bits=16 then 9 else 10
def shB(bits:Int):Int:=if bits=8 then 4 else 5
def Bt(bits:Int):Prop:=bits=8\/bits=16\/bits=24
def gs(sh:Int)(last:Int32):Int32:=Af (Ail (Am (Ea (Af last:Int) sh.toNat) (Af last)) sh.toNat)
theorem Bho(bits:Int):sB bits=9\/sB bits=10:=by unfold sB;split<;>simp
theorem Bbb(bits:Int):0<=shB bits:=by unfold shB;split<;>omega
theorem Bj6{bits:Int}(h:Bt bits)(t:List Int32):uL bits t=some (sB bits,t,List.replicate 16 0,0):=by
 obtain rfl|rfl|rfl:=h<;>rfl
theorem Be7{bits:Int}(h:Bt bits):mW bits=some (shB bits,0):=by
 obtain rfl|rfl|rfl:=h<;>rfl
theorem Bf1{sh:Int}(h:0<=sh)(last:Int32):aA sh last=some (gs sh last):=by
 rw[aA,Bo (by rw[Dq];simpa using h),Aa,Aa];rfl
theorem Ayy{bits:Int}(h:Bt bits)(last:Int32):Zv bits last=some (gs (shB bits) last,0):=by
 rw[Zv,Be7 h,Aa];simp only;rw[Aab (by rw[Ak];simp),Bf1 (Bbb bits),Aa]
theorem Aer{bits:Int}(h:Bt bits)(last:Int32)(t p:List Int32):Zw bits last (sB bits) t p=some 0:=by
 rw[Zw,Bj6 h,Aa];simp only;rw[Aab (by rw[Ak,Ak];simp)]
theorem As9{bits:Int}(h:Bt bits){t p:List Int32}(hF:OkF (sB bits) t p)(last y:Int32):
  Nu bits last (sB bits) t p y=some (y+gF (sB bits) t p+gs (shB bits) last,bits,y+gF (sB bits) t p+gs (shB bits) last,sB bits,lrn t p y,(y+gF (sB bits) t p)::p.take 15,0):=by
 rw[Nu,Aer h,Aa,Aab (by rw[Ak];simp),Ayy h,Aa];simp only;rw[Ba7 hF,Aa];simp only;rw[cW]
theorem xP(sh:Int)(hs:sh=4\/sh=5)(last:Int32):Tp sh last=some (gs sh last):=by
 have hl:=BN last;have key:∀n:Int,n=16\/n=32->gs sh last=Int32.ofInt (((n-1)*last.toInt).fdiv n)->Vo last n=some (gs sh last):=by
  intro n hn hg;have e:Bn (Am n (1:Int)) (Af last:Int)=(n-1)*last.toInt:=by
   obtain rfl|rfl:=hn<;>(rw[Fx,Bp (by omega) (by omega),Hh (by omega) (by omega)])
  rw[Vo,JE,Bo (by rw[Ak];simp;omega),Aa,Aa,e,Anj _ n (by omega) (by obtain rfl|rfl:=hn<;>omega) (by obtain rfl|rfl:=hn<;>omega),hg]
 rw[Tp,JM];obtain rfl|rfl:=hs
 ·rw[Aab (by rw[Ar];decide)];refine key 16 (.inl rfl) ?_;have e:Ea (Af last:Int) (4:Int).toNat=last.toInt*16:=by
   rw[Fx];show wrap64 (last.toInt*2^4)=_;rw[Cx]<;>omega
  rw[gs,e,Fx,Bp (by omega) (by omega),UG]
  show Int32.ofInt ((last.toInt*16-last.toInt).fdiv 16)=_;congr 2;omega
 ·rw[Aah (by rw[Ar];rfl)];refine key 32 (.inr rfl) ?_;have e:Ea (Af last:Int) (5:Int).toNat=last.toInt*32:=by
   rw[Fx];show wrap64 (last.toInt*2^5)=_;rw[Cx]<;>omega
  rw[gs,e,Fx,Bp (by omega) (by omega),UG]
  show Int32.ofInt ((last.toInt*32-last.toInt).fdiv 32)=_;congr 2;omega
theorem Avw{bits:Int}(h:Bt bits){t p:List Int32}(hF:OkF (sB bits) t p)(last y:Int32):
  Zm bits last (sB bits) t p y=some (y+gF (sB bits) t p+gs (shB bits) last,bits,y+gF (sB bits) t p+gs (shB bits) last,sB bits,lrn t p y,(y+gF (sB bits) t p)::p.take 15):=by
 have hb:CK bits last (sB bits) t p=some (Af (gs (shB bits) last):Int):=by
  rw[CK];obtain rfl|rfl|rfl:=h
  ·rw[Aah (by rw[Ar];rfl),xP 4 (.inl rfl),Aa];rfl
  ·rw[Aab (by rw[Ar];decide),xP 5 (.inr rfl),Aa];rfl
  ·rw[Aab (by rw[Ar];decide),xP 5 (.inr rfl),Aa];rfl
 rw[Zm,Atg hF,Aa];simp only;rw[hb,Aa,uG,Aa]
theorem Bim{bits:Int}(h:Bt bits)(t:List Int32):dB bits t=some (bits,0,sB bits,t,List.replicate 16 0,0):=by
 obtain rfl|rfl|rfl:=h<;>rfl
def WN(n:UInt32):Int32:=if n.toNat %2=0 then Int32.ofInt ((n.toNat/2:Nat):Int)else Int32.ofInt (-((n.toNat/2:Nat):Int)-1)
theorem Ak5(a b:Int32):(Zy a b).toBitVec=a.toBitVec^^^b.toBitVec:=by
 show(Int32.ofInt ((BitVec.ofInt 32 a.toBitVec.toInt^^^BitVec.ofInt 32 b.toBitVec.toInt).toNat:Int)).toBitVec=_;rw[BitVec.ofInt_toInt,BitVec.ofInt_toInt,Int32.toBitVec_ofInt,BitVec.ofInt_natCast,BitVec.ofNat_toNat,BitVec.setWidth_eq]
theorem Bhm(m:Nat)(h:m<2147483648):Zy (Int32.ofInt (m:Int)) (Int32.ofInt (-1))=Int32.ofInt (-(m:Int)-1):=by
 apply Int32.toBitVec_inj.1;have e1:(Int32.ofInt (-1)).toBitVec=BitVec.allOnes 32:=by decide
 rw[Ak5,e1,BitVec.xor_allOnes,Int32.toBitVec_ofInt,Int32.toBitVec_ofInt];apply Bju;rw[BitVec.toNat_not,Bh0,Bh0];omega
theorem Awg(n:UInt32):BC n=some (WN n):=by
 have hn:=n.toNat_lt;have e1:(Af (Ck n (GI.toZ (1:UInt64)).toNat):Int32)=Int32.ofInt ((n.toNat/2:Nat):Int):=by
  show Int32.ofInt ((Ck n 1).toNat:Int)=_;rw[QG]
 have e2:(Af (Ev n (1:UInt32)):Int32)=Int32.ofInt ((n.toNat %2:Nat):Int):=by
  show Int32.ofInt ((Ev n (1:UInt32)).toNat:Int)=_;rw[Adm,UInt32.toNat_and]
  show Int32.ofInt ((n.toNat&&&1:Nat):Int)=_;rw[Nat.and_one_is_mod]
 rw[BC,e1,e2,WN];congr 1;by_cases h:n.toNat %2=0
 ·have e3:uT (Int32.ofInt ((n.toNat %2:Nat):Int))=Int32.ofInt 0:=by rw[h];decide
  rw[Aah h,e3];apply Int32.toBitVec_inj.1;rw[Ak5,show(Int32.ofInt 0).toBitVec=0#32 from rfl,BitVec.xor_zero]
 ·have e3:uT (Int32.ofInt ((n.toNat %2:Nat):Int))=Int32.ofInt (-1):=by rw[show n.toNat %2=1 by omega];decide
  rw[Aab h,e3,Bhm _ (by omega)]
theorem Bdv(n:UInt32):IM n=some (WN n):=by
 have hn:=n.toNat_lt;have e1:geq (GJ n (2:UInt32)) (0:UInt32)=decide (n.toNat %2=0):=by
  rw[Ah8,Anp,Amo];simp only[Av2,<-UInt32.toNat_inj,UInt32.toNat_mod,Abv];rfl
 rw[IM,e1,WN];by_cases h:n.toNat %2=0
 ·rw[Aah (by simpa using h),Aah h,Al3];rfl
 ·have e2:(Af n:Int)=(n.toNat:Int):=Ad2 n;rw[Aab (by simpa using h),Aab h,e2,Aj (by omega) (by omega),Ah2,Cx (by omega) (by omega),SF,Int.tdiv_eq_ediv,UG];congr 2;rw[Aah (.inr (by omega)),Cx (by omega) (by omega)];omega
theorem qM{c:Prop} [Decidable c](h:c):Le (decide c)=some ():=by rw[Bhq h];rfl
def unV(f:Nat->Int32)(ch:Nat):Nat->Int32
 |0=>if 1<ch then f (ch-1)+Cv (f (ch-2)) (2:Int32)else f (ch-1)
 |j+1=>unV f ch j-f (ch-2-j)
def unm(ch:Nat)(m:List Int32):List Int32:=(List.range m.length).map λk=>unV (λi=>m.getD (k-k %ch+i) 0) ch (ch-1-k %ch)
theorem gG(ch:Nat)(m:List Int32):(unm ch m).length=m.length:=by simp[unm]
theorem vJ{ch:Nat}{m:List Int32}{a i:Nat}(ha:a %ch=0)(hi:i<ch)(h:a+i<m.length):(unm ch m).getD (a+i) 0=unV (λi=>m.getD (a+i) 0) ch (ch-1-i):=by
 have hb:(a+i) %ch=i:=by rw[Nat.add_mod,ha,Bar,Nat.mod_mod,Ab3 hi]
 rw[Ka (by rw[gG];exact h)];simp only[unm,Bjj,Bjd,hb];rw[show a+i-i=a by omega]
section
variable (ch:Nat) (m:List Int32)
theorem Ans(h1:1<=ch)(h6:ch<=6)(hm:m.length %ch=0)(hl2:m.length<=4000):eP (ch:Int) m=some 0:=by
 rw[eP,Aab (by simp[Ae,Aq];omega),Aab (by rw[Aq,Ac];simp;omega),Bo (by rw[Ak];simp;omega),Aa,Aab];rw[Ak,Ic,Ac,<-Int.ofNat_tmod,hm];simp
theorem Ady(bk:Int->List Int32->Option (List Int32×Int))(at':Nat)(h1:1<=ch)(h6:ch<=6)(hm:at' %ch=0)(hl:at'+ch<=m.length)(hl2:m.length<=4000):∀(i q:Nat),i<=ch-1->i<q->
  AS bk (ch:Int) (at':Int) q ((i:Int)-1) (fL (λk=>decide (k<at'\/ (at'+i<=k/\k<at'+ch))) (unm ch m) m)=bk ((at'+ch:Nat):Int) (fL (λk=>decide (k<at'+ch)) (unm ch m) m)
 |0,q+1,hi,_=>by
  have e4:Ad (at':Int) (ch:Int)=((at'+ch:Nat):Int):=by rw[Aj (by omega) (by omega)];omega
  rw[AS,TT,Aab (by rw[Dq];simp),fS,uS,e4];congr 1;apply Xe;intro k _;rw[Amo];simp;omega
 |i+1,q+1,hi,hq=>by
  have hlen:=gG ch m;have e2:Ad (at':Int) (ch:Int)-(at':Int)=(ch:Int):=by rw[Aj (by omega) (by omega)];omega
  have e3:Ad (i:Int) 1=((i+1:Nat):Int):=by rw[Aj (by omega) (by omega)];omega
  have hv:((unm ch m).getD (at'+(i+1)) 0-m.getD (at'+i) 0)=(unm ch m).getD (at'+i) 0:=by
   rw[vJ hm (by omega) (by omega),vJ hm (by omega) (by omega),show ch-1-i=(ch-1-(i+1))+1 by omega,unV,show ch-2-(ch-1-(i+1))=i by omega]
  rw[AS,TT,show((i+1:Nat):Int)-1=(i:Int) by omega,Aah (by rw[Dq];simp),e2,e3,qM (by omega),Aa,qM (by omega),Aa,
   show(at':Int)+((i+1:Nat):Int)=((at'+(i+1):Nat):Int) by omega,show(at':Int)+(i:Int)=((at'+i:Nat):Int) by omega,
   DE (by omega),Aa,DE (by omega),Aa,Aa,Aah (by simp;omega),Aab (by simp;omega),WZ,hv,fN (by omega),Aa,Bp (by omega) (by omega)]
  have ih:=Ady bk at' h1 h6 hm hl hl2 i q (by omega) (by omega);rw[<-ih];congr 1;apply Xe;intro k _;rw[Amo];simp;omega
theorem uO{at' ch n:Nat}(ha:at' %ch=0)(hm:n %ch=0)(h:at'<n):at'+ch<=n:=by
 have d1:=Bkh at' ch;have d2:=Bkh n ch;rw[ha,Bg2]at d1;rw[hm,Bg2]at d2;have hlt:at'/ch<n/ch:=by
  rcases Bj3 (at'/ch) (n/ch)with h'|h'
  ·exact h'
  ·have:=Nat.mul_le_mul_left ch h';omega
 have:=Nat.mul_le_mul_left ch (show at'/ch+1<=n/ch from hlt);rw[Nat.mul_add]at this;omega
theorem Ag2(h1:1<=ch)(h6:ch<=6)(hm:m.length %ch=0)(hl2:m.length<=4000):∀(j at' q:Nat),at' %ch=0->at'<=m.length->m.length-at'<=j->j<q->
  Wa (ch:Int) q (at':Int) (fL (λk=>decide (k<at')) (unm ch m) m)=some (unm ch m,0)
 |j,at',q+1,ha,hle,hj,hq=>by
  have hlen:=gG ch m;have hl:Ac (fL (λk=>decide (k<at')) (unm ch m) m)=(m.length:Int):=by rw[Ac,OB,hlen]
  rw[Wa,fT,hl];by_cases h:at'<m.length
  ·have hb:=uO ha hm h;obtain⟨j,rfl⟩:∃k,j=k+1:=⟨j-1,by omega⟩;have e1:Am (Ad (at':Int) (ch:Int)-(at':Int)) 1=((ch-1:Nat):Int):=by rw[Aj (by omega) (by omega),Bp (by omega) (by omega)];omega
   have e2:Ad (at':Int) (ch:Int)-(at':Int)=(ch:Int):=by rw[Aj (by omega) (by omega)];omega
   have e4:Ad (at':Int) (ch:Int)=((at'+ch:Nat):Int):=by rw[Aj (by omega) (by omega)];omega
   have hi:=Ady ch m (Wa (ch:Int) q) at' h1 h6 ha hb hl2 (ch-1) Ay (by omega) (by have:=Au;omega);have hrest:=Ag2 h1 h6 hm hl2 j (at'+ch) q (by rw[Bk5,ha]) hb (by omega) (by omega);have hstart:TS (Wa (ch:Int) q) (ch:Int) (at':Int) (fL (λk=>decide (k<at'\/ (at'+(ch-1)<=k/\k<at'+ch))) (unm ch m) m)=some (unm ch m,0):=by
    have e6:Am ((ch-1:Nat):Int) 1=((ch-1:Nat):Int)-1:=Bp (by omega) (by omega);rw[TS,iJ,gC,e1,e6];exact Bg6 hi hrest
   rw[Aah (by rw[Ae];simp;omega),show jH (m.length:Int) (at':Int) (Ad (at':Int) (ch:Int))=some () by rw[e4,jH,qM];omega,Aa,e1,e2];have hlast:=vJ (m:=m) ha (show ch-1<ch by omega) (by omega);rw[show ch-1-(ch-1)=0 by omega,unV]at hlast;by_cases hc:1<ch
   ·have e5:Am ((ch-1:Nat):Int) 1=((ch-2:Nat):Int):=by rw[Bp (by omega) (by omega)];omega
    rw[Aah hc]at hlast;rw[Aah (by rw[Aq];simp;omega),qM (by omega),Aa,e5,qM (by omega),Aa,show(at':Int)+((ch-1:Nat):Int)=((at'+(ch-1):Nat):Int) by omega,show(at':Int)+((ch-2:Nat):Int)=((at'+(ch-2):Nat):Int) by omega,
     DE (by omega),Aa,DE (by omega),Aa,Aa,Aab (by simp),Aab (by simp),cW,<-hlast,fN (by omega),Aa]
    rw[<-hstart];congr 1;apply Xe;intro k _;rw[Amo];simp;omega
   ·have hc1:ch=1:=by omega
    rw[Aab (by rw[Aq];simp;omega),<-hstart];congr 1;rw[Aab hc]at hlast;apply Bk9;intro k hk;by_cases hk2:k=at'
    ·subst hk2;rw[Aab (by simp),Aah (by simp;omega)];rw[show k+(ch-1)=k by omega]at hlast;exact hlast.symm
    ·by_cases hk3:k<at'
     ·rw[Aah (by simp;omega),Aah (by simp;omega)]
     ·rw[Aab (by simp;omega),Aab (by simp;omega)]
  ·rw[Aab (by rw[Ae];simp;omega),oT (λk hk=>by simp;omega)];rfl
theorem Bc6(h1:1<=ch)(h6:ch<=6)(hm:m.length %ch=0)(hl2:m.length<=4000):uB (ch:Int) m=some (unm ch m,0):=by
 have hlen:=gG ch m;have h:=Ag2 ch m h1 h6 hm hl2 m.length 0 Ay (by simp) (by omega) (by omega) (by have:=Au;omega);rw[uB,oD,Ans ch m h1 h6 hm hl2,Aa,Aab (by rw[Ak];simp),El,By (by simp;omega),Aa,Aa,Aqd,fV];rw[mY hlen.symm (λk _=>by simp)]at h;exact h
end
def xS(f:Nat->Int32)(ch:Nat):List Int32:=(List.range ch).map λi=>unV f ch (ch-1-i)
theorem dZ(f:Nat->Int32)(ch:Nat):(xS f ch).length=ch:=by simp[xS]
theorem sU(f:Nat->Int32){ch i:Nat}(h:i<ch):(xS f ch).getD i 0=unV f ch (ch-1-i):=by
 rw[Ka (by rw[dZ];exact h)];simp[xS]
theorem Axs(a b:Int32):Dd (Am (Af a:Int) (Af b:Int))=some (a-b):=by
 have:=BN a;have:=BN b;rw[Fx,Fx,Bp (by omega) (by omega),zZ,Int32.ofInt_sub,Bas,Bas]
theorem Au2(a b:Int32):Dd (Ad (Af a:Int) (Cv (Af b:Int) (2:Int)))=some (a+Cv b (2:Int32)):=by
 have:=BN a;have hb:=BN b;have hd: -2147483648<=b.toInt.tdiv 2/\b.toInt.tdiv 2<=2147483648:=by
  rw[Int.tdiv_eq_ediv,show Int.sign 2=1 from rfl];by_cases h:0<=b.toInt\/2∣b.toInt
  ·rw[Aah h];omega
  ·rw[Aab h];omega
 have e:Cv b (2:Int32)=Int32.ofInt (b.toInt.tdiv 2):=rfl;rw[Fx,Fx,SF,Cx (by omega) (by omega),Aj (by omega) (by omega),zZ,Int32.ofInt_add,Bas,e]
theorem tZ(qU z:List Int32)(ch:Nat)(h6:ch<=6)(hs:qU.length=ch)(hz:z.length=ch):∀(i q:Nat),i+1<=ch->i<q->
  Ji qU q ((i:Int)-1) (fL (λk=>decide (i<=k)) (xS (λi=>qU.getD i 0) ch) z)=some (xS (λi=>qU.getD i 0) ch)
 |0,q+1,hi,_=>by
  rw[Ji,Tu,Aab (by rw[Dq];simp),oT (λk hk=>by simp)];rfl
 |i+1,q+1,hi,hq=>by
  have hlen:=dZ (λi=>qU.getD i 0) ch;have e3:Ad (i:Int) 1=((i+1:Nat):Int):=by rw[Aj (by omega) (by omega)];omega
  have hv:(xS (λi=>qU.getD i 0) ch).getD (i+1) 0-qU.getD i 0=(xS (λi=>qU.getD i 0) ch).getD i 0:=by
   rw[sU _ (by omega),sU _ (by omega),show ch-1-i=(ch-1-(i+1))+1 by omega,unV,show ch-2-(ch-1-(i+1))=i by omega]
  rw[Ji,Tu,show((i+1:Nat):Int)-1=(i:Int) by omega,Aah (by rw[Dq];simp),e3,DE (by omega),Aa,g32 (by omega),Aa,Aa,Aah (by simp),Axs,Aa,DE (by omega),Aa,hv,fN (by omega),Aa,Bp (by omega) (by omega)];have ih:=tZ qU z ch h6 hs hz i q (by omega) (by omega);rw[<-ih];congr 1;apply Xe;intro k _;rw[Amo];simp;omega
theorem Amx{l:List Int32}{i:Nat}(v:Int32)(h:i<l.length):(l.set i v).getD i 0=v:=by
 rw[Ka (by rw[Bix];exact h)];simp
theorem Aob(qU:List Int32)(ch:Nat)(h1:1<=ch)(h6:ch<=6)(hs:qU.length=ch):AQ qU=some (xS (λi=>qU.getD i 0) ch):=by
 have hlen:=dZ (λi=>qU.getD i 0) ch;have hzl:(List.replicate ch (0:Int32)).length=ch:=by simp
 have e1:Am (Ac qU) 1=((ch-1:Nat):Int):=by rw[Ac,hs,Bp (by omega) (by omega)];omega
 have e2:Am (Ac qU) 2=((ch-1:Nat):Int)-1:=by rw[Ac,hs,Bp (by omega) (by omega)];omega
 have hlast:=sU (λi=>qU.getD i 0) (show ch-1<ch by omega);rw[show ch-1-(ch-1)=0 by omega,unV]at hlast;have hend:∀z:List Int32,z.length=ch->z.getD (ch-1) 0=(xS (λi=>qU.getD i 0) ch).getD (ch-1) 0->Tw qU z=some (xS (λi=>qU.getD i 0) ch):=by
  intro z hz hzl;have h:=tZ qU z ch h6 hs hz (ch-1) Ay (by omega) (by have:=Au;omega);have e:fL (λk=>decide (ch-1<=k)) (xS (λi=>qU.getD i 0) ch) z=z:=by
   apply Baq (by rw[OB,hlen,hz]);intro k k1 k2;rw[Vh];by_cases hk:ch-1<=k
   ·obtain rfl:k=ch-1:=by omega
    rw[Aah (by simp),<-hzl,Ka k2]
   ·rw[Aab (by simpa using hk),Ka k2]
  rw[e]at h;rw[Tw,FI,e2];exact h
 rw[AQ,FQ,Ac,hs,tD (by omega) (by omega),Aa,Bo (by rw[Ar];simp),Aa];rw[Ac,hs]at e1;rw[Ac,hs]at e2;have hz1:(List.replicate (Int.toNat (ch:Int)) (0:Int32)).length=ch:=by simp
 have hs1:=g32 (l:=qU) (k:=ch-1) (by omega);rw[e1,hs1,Aa,g32 (by omega),Aa,Vv _ (by omega),Aa];by_cases hc:1<ch
 ·rw[Aah hc]at hlast;have e3:((ch-1:Nat):Int)-1=((ch-2:Nat):Int):=by omega
  have hs2:=g32 (l:=qU) (k:=ch-2) (by omega);rw[Aah (by rw[Aq];simp;omega),Aa,e2,e3,hs2,Aa,Au2,Aa,g32 (by rw[Bix];omega),Aa,Vv _ (by rw[Bix];omega),Aa];refine hend _ (by simp) ?_;rw[hlast,Amx _ (by rw[Bix];omega)]
 ·rw[Aab hc]at hlast;rw[Aab (by rw[Aq];simp;omega)];refine hend _ (by simp) ?_;rw[hlast,Amx _ (by omega)]
theorem Ba5(ch:Nat)(m:List Int32)(h1:1<=ch)(h6:ch<=6)(hm:m.length %ch=0)(hl2:m.length<=4000):Vl (ch:Int) m=some 0:=by
 rw[Vl,Aab (by simp[Ae,Aq];omega),Aab (by rw[Aq,Ac];simp;omega),Bo (by rw[Ak];simp;omega),Aa,Aab];rw[Aq,Ic,Ac,<-Int.ofNat_tmod,hm];simp
theorem yT(ch:Nat)(m:List Int32)(h1:1<=ch)(h6:ch<=6)(hm:m.length %ch=0)(hl2:m.length<=4000):∀(j at' q:Nat),at' %ch=0->at'<=m.length->m.length-at'<=j->j<q->
  Rj (ch:Int) m q (at':Int) ((unm ch m).take at')=some (unm ch m,0)
 |j,at',q+1,ha,hle,hj,hq=>by
  have hlen:=gG ch m;rw[Rj,PY];by_cases h:at'<m.length
  ·have hb:=uO ha hm h;have e4:Ad (at':Int) (ch:Int)=((at'+ch:Nat):Int):=by rw[Aj (by omega) (by omega)];omega
   have hrest:=yT ch m h1 h6 hm hl2 (j-1) (at'+ch) q (by rw[Bk5,ha]) hb (by omega) (by omega);have hseg:((m.take (at'+ch)).drop at').length=ch:=by simp;omega
   have htl:((unm ch m).take at').length=at':=by simp[hlen];omega
   rw[Aah (by rw[Ae,Ac];simp;omega),e4,Ut (by omega) (by omega) (by omega),Aa,show((at'+ch:Nat):Int).toNat=at'+ch from rfl,show(at':Int).toNat=at' from rfl,Aob _ ch h1 h6 hseg,Aa,By (by rw[htl,dZ];omega),Aa];have e:(unm ch m).take at'++xS (λi=>((m.take (at'+ch)).drop at').getD i 0) ch=(unm ch m).take (at'+ch):=by
    apply Baq (by rw[Aav,htl,dZ,Ajr,hlen];omega);intro k k1 k2;rw[Ajr,hlen]at k2;rw[List.getElem_append,List.getElem_take];by_cases hk:k<at'
    ·rw[dif_pos (by rw[htl];exact hk),List.getElem_take]
    ·rw[dif_neg (by rw[htl];exact hk)];have hu:=vJ (m:=m) ha (show k-at'<ch by omega) (by omega);rw[show at'+(k-at')=k by omega,Ka (by omega)]at hu;have hx:∀n,n<=ch->unV (λi=>((m.take (at'+ch)).drop at').getD i 0) ch n=unV (λi=>m.getD (at'+i) 0) ch n:=by
      have hf:∀i,i<ch-> ((m.take (at'+ch)).drop at').getD i 0=m.getD (at'+i) 0:=by
       intro i hi;rw[Ka (by omega),Ka (by omega)];simp
      intro n
      induction n with
      |zero=>
       intro _;rw[unV,unV,hf _ (by omega)];split
       ·rw[hf _ (by omega)]
       ·rfl
      |succ n ih=>intro hn;rw[unV,unV,ih (by omega),hf _ (by omega)]
     have hy:=sU (λi=>((m.take (at'+ch)).drop at').getD i 0) (show k-at'<ch by omega);rw[Ka (by rw[dZ];omega)]at hy;rw[hu,<-hx _ (by omega),<-hy];congr 1;rw[htl]
   rw[e];exact hrest
  ·rw[Aab (by rw[Ae,Ac];simp;omega),Ars (by omega)];rfl
theorem Ave(ch:Nat)(m:List Int32)(h1:1<=ch)(h6:ch<=6)(hm:m.length %ch=0)(hl2:m.length<=4000):GR (ch:Int) m=some (unm ch m,0):=by
 have h:=yT ch m h1 h6 hm hl2 m.length 0 Ay (by simp) (by omega) (by omega) (by have:=Au;omega);rw[GR,OV,Ba5 ch m h1 h6 hm hl2,Aa,Aab (by rw[Ak];simp)];exact h
def pre{α:Type}(ch c:Nat)(f:α->Nat->α)(a0:α):Nat->α
 |0=>a0
 |m+1=>if m %ch=c then f (pre ch c f a0 m) m else pre ch c f a0 m
theorem Aqk{α:Type}(ch c:Nat)(f:α->Nat->α)(a0:α):∀m,m<=c->c<ch->pre ch c f a0 m=a0
 |0,_,_=>rfl
 |m+1,h,h2=>by rw[pre,Aab (by rw[Ab3 (by omega)];omega),Aqk ch c f a0 m (by omega) h2]
theorem Amr{α:Type}(ch c i:Nat)(f:α->Nat->α)(a0:α)(hi:i %ch=c)(hc:c<ch):∀j,j<ch->pre ch c f a0 (i+1+j)=pre ch c f a0 (i+1)
 |0,_=>rfl
 |j+1,h=>by
  have hne:(i+1+j) %ch≠c:=by
   intro e;have h1:(i+(1+j)) %ch=i %ch:=by rw[hi,<-e];congr 1;omega
   have h2:(1+j) %ch=0:=by
    have h3:=Nat.sub_mod_eq_zero_of_mod_eq h1;rwa [Bga]at h3
   rw[Ab3 (by omega)]at h2;omega
  rw[show i+1+(j+1)=(i+1+j)+1 by omega,pre,Aab hne,Amr ch c i f a0 hi hc j (by omega)]
theorem Ayr{α:Type}(ch c i:Nat)(f:α->Nat->α)(a0:α)(hi:i %ch=c)(hc:c<ch):pre ch c f a0 (i+ch)=f (pre ch c f a0 i) i:=by
 have h:=Amr ch c i f a0 hi hc (ch-1) (by omega);rw[show i+1+(ch-1)=i+ch by omega]at h;rw[h,pre,Aah hi]
abbrev CS:=Int32×List Int32×List Int32
def Akb(bits:Int)(s:CS)(y:Int32):Int32:=y+gF (sB bits) s.2.1 s.2.2+gs (shB bits) s.1
def Afo(bits:Int)(s:CS)(y:Int32):CS:=(Akb bits s y,lrn s.2.1 s.2.2 y,(y+gF (sB bits) s.2.1 s.2.2)::s.2.2.take 15)
def cst(bits:Int)(ch:Nat)(t:List Int32)(v:List UInt32)(c:Nat):Nat->CS:=pre ch c (λs i=>Afo bits s (WN (v.getD i 0))) (0,t,List.replicate 16 0)
def OkC(bits:Int)(s:CS):Prop:=OkF (sB bits) s.2.1 s.2.2
theorem Aiv(bits:Int)(ch:Nat){t:List Int32}(ht:t.length=16)(v:List UInt32)(c:Nat):∀m,OkC bits (cst bits ch t v c m)
 |0=>⟨Bho bits,ht,by simp[cst,pre]⟩
 |m+1=>by
  have ih:=Aiv bits ch ht v c m;rw[cst,pre];split
  ·exact Axa ih _ _
  ·exact ih
def xT(bits:Int)(ch:Nat)(t:List Int32)(v:List UInt32):List Int32:=(List.range v.length).map λi=>Akb bits (cst bits ch t v (i %ch) i) (WN (v.getD i 0))
theorem iL(bits:Int)(ch:Nat)(t:List Int32)(v:List UInt32):(xT bits ch t v).length=v.length:=by simp[xT]
theorem Aie(bits:Int)(ch:Nat)(t:List Int32)(v:List UInt32){i:Nat}(h:i<v.length):(xT bits ch t v).getD i 0=Akb bits (cst bits ch t v (i %ch) i) (WN (v.getD i 0)):=by
 rw[Ka (by rw[iL];exact h)];simp[xT]
abbrev CL:=Int×Int32×(Int×(List Int32)×(List Int32)×Unit)×Unit
def toC(bits:Int)(s:CS):CL:=(bits,s.1,(sB bits,s.2.1,s.2.2,()),())
def cts(bits:Int)(ch:Nat)(t:List Int32)(v:List UInt32)(i:Nat):List CL:=(List.range 6).map λc=>toC bits (cst bits ch t v c i)
theorem Asx{bits:Int}{ch:Nat}{t:List Int32}{v:List UInt32}{i c:Nat}(h:c<6):Ap (cts bits ch t v i) (c:Int)=some (toC bits (cst bits ch t v c i)):=by
 rw[Bu (by simp[cts];exact h)];simp[cts]
theorem Ak0(bits:Int)(ch:Nat)(t:List Int32)(v:List UInt32)(c m:Nat):cst bits ch t v c (m+1)=if m %ch=c then Afo bits (cst bits ch t v c m) (WN (v.getD m 0))else cst bits ch t v c m:=rfl
theorem As3{bits:Int}{ch:Nat}{t:List Int32}{v:List UInt32}{i c:Nat}(h:c<6)(hc:i %ch=c):Nz (cts bits ch t v i) (c:Int) (toC bits (Afo bits (cst bits ch t v c i) (WN (v.getD i 0))))=some (cts bits ch t v (i+1)):=by
 rw[Vv _ (by simp[cts];exact h)];congr 1;apply Baq (by simp[cts]);intro k h1 h2;rw[Blc];simp only[cts,Bjj,Bjd];by_cases hk:c=k
 ·subst hk;rw[Aah rfl,Ak0,Aah hc]
 ·rw[Aab hk,Ak0,Aab (by omega)]
section
variable {bits:Int} {ch:Nat} {t:List Int32} {v:List UInt32}
theorem Akg(hb:Bt bits)(ht:t.length=16)(h1:1<=ch)(h6:ch<=6)(hv:v.length<=4000):∀(j i q:Nat),i+j=v.length->j<q->
  Kl v (ch:Int) bits q (i:Int) (cts bits ch t v i) ((xT bits ch t v).take i)=Oj (ch:Int) bits (xT bits ch t v)
 |0,i,q+1,hi,_=>by
  rw[Kl,Oe,Aab (by rw[Ae,Ac];simp;omega),Ars (by rw[iL];omega)]
 |j+1,i,q+1,hi,hq=>by
  have hlen:=iL bits ch t v;have hc:i %ch<6:=Anx (Bhd _ (by omega)) h6;have hok:=Aiv bits ch ht v (i %ch) i;have hs:=As3 (bits:=bits) (ch:=ch) (t:=t) (v:=v) (i:=i) hc rfl;have hx:=Aie bits ch t v (i:=i) (by omega);have hcb:=As9 hb hok (cst bits ch t v (i %ch) i).1 (WN (v.getD i 0));have ih:=Akg hb ht h1 h6 hv j (i+1) q (by omega) (by omega);rw[Mg (by omega),<-Ka (by omega),hx]at ih;rw[Kl,Oe,Aah (by rw[Ae,Ac];simp;omega),sW (by omega),Aa,Bo (by rw[Ak];simp;omega),Aa,XT,Asx hc,Aa,Aa,Awg,Aa];refine Bg6 (congrArg (λo=>Option.bind o _) hcb) ?_;rw[Aa];simp only;rw[BY,SP,Aab (by rw[Ak];simp),XT];refine Bg6 (congrArg (λo=>Option.bind o _) hs) ?_;rw[Aa,By (by simp;omega),Aa,Aj (by omega) (by omega)];exact ih
theorem Aub(hb:Bt bits)(ht:t.length=16)(h1:1<=ch)(h6:ch<=6)(hv:v.length<=4000):Wq (ch:Int) bits t v=Oj (ch:Int) bits (xT bits ch t v):=by
 have h:=Akg hb ht h1 h6 hv v.length 0 Ay (by omega) (by have:=Au;omega);have e:Ay=(Ay-7)+1+1+1+1+1+1+1:=by have:=Au;omega
 have hs:Ts v (ch:Int) bits t 0 (List.replicate 6 ((0:Int),(0:Int32),((0:Int),(List.replicate 16 (0:Int32)),(List.replicate 16 (0:Int32)),()),()))=CB v (ch:Int) bits (cts bits ch t v 0):=by
  rw[Ts,e];obtain rfl|rfl|rfl:=hb<;>rfl
 rw[Wq,EL,hs];exact h
theorem Afu(bk:Int->List Int32->Option (List Int32))(hb:Bt bits)(ht:t.length=16)(h1:1<=ch)(h6:ch<=6)(hv:v.length<=4000)(z:List Int32)(c:Nat)(hc:c<ch):∀(j i q:Nat),i %ch=c->v.length-i<=j->i<=5000->j<q->
  Np bk v (ch:Int) bits t (c:Int) q (i:Int) (fL (λk=>decide (k %ch<c\/ (k %ch=c/\k<i))) (xT bits ch t v) z) bits (cst bits ch t v c i).1 (sB bits) (cst bits ch t v c i).2.1 (cst bits ch t v c i).2.2=
   bk ((c+1:Nat):Int) (fL (λk=>decide (k %ch<c+1)) (xT bits ch t v) z)
 |j,i,q+1,hi,hj,hi5,hq=>by
  have hlen:=iL bits ch t v;rw[Np,FX];by_cases h:i<v.length
  ·have hok:=Aiv bits ch ht v c i;have hst:=Avw hb hok (cst bits ch t v c i).1 (WN (v.getD i 0));have hx:=Aie bits ch t v (i:=i) h;rw[hi]at hx;have ih:=Afu bk hb ht h1 h6 hv z c hc (j-1) (i+ch) q (by rw[Bk5];exact hi) (by omega) (by omega) (by omega);have Aas:cst bits ch t v c (i+ch)=Afo bits (cst bits ch t v c i) (WN (v.getD i 0)):=Ayr ch c i _ _ hi hc;rw[Aas]at ih;have hset:=fN (p:=λk=>decide (k %ch<c\/ (k %ch=c/\k<i))) (a:=xT bits ch t v) (b:=z) (k:=i) (by omega);rw[hx]at hset;have Anv:fL (λj=>decide (j %ch<c\/ (j %ch=c/\j<i))||decide (j=i)) (xT bits ch t v) z=fL (λk=>decide (k %ch<c\/ (k %ch=c/\k<i+ch))) (xT bits ch t v) z:=by
    apply Xe;intro k _;rw[Amo];simp only[Bat,Abv];constructor
    ·rintro((h1|h1)|h1)
     ·exact .inl h1
     ·exact .inr ⟨h1.1,by omega⟩
     ·subst h1;exact .inr ⟨hi,by omega⟩
    ·rintro(h1|⟨h1,h2⟩)
     ·exact .inl (.inl h1)
     ·by_cases h3:k<i
      ·exact .inl (.inr ⟨h1,h3⟩)
      ·refine .inr ?_;have h4:(i+(k-i)) %ch=i %ch:=by rw[show i+(k-i)=k by omega,h1,hi]
       have h5:=Nat.sub_mod_eq_zero_of_mod_eq h4;rw[Bga,Ab3 (by omega)]at h5;omega
   rw[Anv]at hset;rw[Aah (by rw[Ae,Ac];simp;omega),sW h,Aa,Bdv,Aa];refine Bg6 (congrArg (λo=>Option.bind o _) hst) ?_;rw[Aa];simp only;rw[FV,FO,DE (by omega),Aa];refine Bg6 (congrArg (λo=>Option.bind o _) hset) ?_;rw[Aa,FC,FH,Aj (by omega) (by omega)];exact ih
  ·rw[Aab (by rw[Ae,Ac];simp;omega),FN,GA,Aj (by omega) (by omega)];have Anv:fL (λk=>decide (k %ch<c\/ (k %ch=c/\k<i))) (xT bits ch t v) z=fL (λk=>decide (k %ch<c+1)) (xT bits ch t v) z:=by
    apply Xe;intro k hk;rw[Amo];simp only[Abv];omega
   rw[Anv];rfl
theorem Agb(hb:Bt bits)(ht:t.length=16)(h1:1<=ch)(h6:ch<=6)(hv:v.length<=4000)(z:List Int32):∀(j c q:Nat),c+j=ch->j<q->
  Gn v (ch:Int) bits t q (c:Int) (fL (λk=>decide (k %ch<c)) (xT bits ch t v) z)=Tx (ch:Int) bits (xT bits ch t v)
 |0,c,q+1,hc,_=>by
  rw[Gn,Uj,Aab (by rw[Ae];simp;omega),oT (λk hk=>by have:=Bhd k (show 0<ch by omega);simp;omega)]
 |j+1,c,q+1,hc,hq=>by
  have ih:=Agb hb ht h1 h6 hv z j (c+1) q (by omega) (by omega);have hin:=Afu (Gn v (ch:Int) bits t q) hb ht h1 h6 hv z c (by omega) v.length c Ay (Ab3 (by omega)) (by omega) (by omega) (by have:=Au;omega);have h0:cst bits ch t v c c=(0,t,List.replicate 16 0):=Aqk ch c _ _ c (An0 _) (by omega);rw[h0]at hin;have Anv:fL (λk=>decide (k %ch<c\/ (k %ch=c/\k<c))) (xT bits ch t v) z=fL (λk=>decide (k %ch<c)) (xT bits ch t v) z:=by
   apply Xe;intro k hk;have:=Nat.mod_le k ch;rw[Amo];simp only[Abv];omega
  rw[Anv]at hin;rw[Gn,Uj,Aah (by rw[Ae];simp;omega),Bim hb,Aa];simp only;rw[FB];exact Bg6 hin ih
theorem Ags(hb:Bt bits)(ht:t.length=16)(h1:1<=ch)(h6:ch<=6)(hv:v.length<=4000)(hm:v.length %ch=0):Tt (ch:Int) bits t v=some (unm ch (xT bits ch t v)):=by
 have hlen:=iL bits ch t v;have h:=Agb hb ht h1 h6 hv (List.replicate v.length 0) ch 0 Ay (by omega) (by have:=Au;omega);rw[mY (by rw[hlen];simp) (λk _=>by simp)]at h;rw[Tt,KG,Ac,tD (by omega) (by omega),Aa,Bo (by rw[Ar];simp),Aa,FW];refine Bg6 h ?_;rw[Tx,FF,Ave ch _ h1 h6 (by rw[hlen];exact hm) (by omega),Aa]
end
def hB(bits:Int):Int:=if bits=8 then 128 else if bits=16 then 32768 else 8388608
theorem Ai5{bits:Int}(h:Bt bits):Vi bits=some (Int32.ofInt (-(hB bits)),Int32.ofInt (hB bits-1),0):=by
 obtain rfl|rfl|rfl:=h<;>decide
theorem VJ{bits:Int}(h:Bt bits):Jy bits=some (hB bits):=by
 obtain rfl|rfl|rfl:=h<;>rfl
theorem RI(bits:Int):0<hB bits/\hB bits<=8388608:=by
 unfold hB;split; · omega
 ·split<;>omega
theorem Adc{bits:Int}(h:Bt bits)(l:List Int32)(hl:l.length<=4000):∀(j i q:Nat),i+j=l.length->j<q->
  Ub (Int32.ofInt (-(hB bits))) (Int32.ofInt (hB bits-1)) l q (i:Int)=Ba l (hB bits) q (i:Int)
 |0,i,q+1,hi,_=>by
  rw[Ub,HF,Ba,Cm,Aab (by rw[Ae,Ac];simp;omega),Aab (by rw[Ae,Ac];simp;omega)];rfl
 |j+1,i,q+1,hi,hq=>by
  have hh:=RI bits;have ih:=Adc h l hl j (i+1) q (by omega) (by omega);have e1:(Int32.ofInt (-(hB bits))).toInt= -(hB bits):=by rw[Bjm,Blg (by show -(4294967296/2:Int)<= _;omega) (by show _<(4294967296+1)/2;omega)]
  have e2:(Int32.ofInt (hB bits-1)).toInt=hB bits-1:=by rw[Bjm,Blg (by show -(4294967296/2:Int)<= _;omega) (by show _<(4294967296+1)/2;omega)]
  rw[Ub,HF,Ba,Cm,Aah (by rw[Ae,Ac];simp;omega),Aah (by rw[Ae,Ac];simp;omega),g32 (by omega),Aa,Aa,Aa,Fx,Ah2,Cx (by omega) (by omega),Aj (by omega) (by omega),Ah9,Apx,e1,e2,Ae,Dq];generalize(l.getD i 0).toInt=X;by_cases h1:X< -(hB bits)
  ·rw[Aah (by simp;omega),Aah (by simp;omega)]
  ·rw[Aab (c:=decide (X<0-hB bits)=true) (by simp;omega)];by_cases h2:hB bits<=X
   ·rw[Aah (by simp;omega),Aah (by simp;omega)]
   ·rw[Aab (by simp;omega),Aab (by simp;omega)];exact ih
theorem gN{bits:Int}(h:Bt bits)(l:List Int32)(hl:l.length<=4000):Zc bits l=Ax bits l:=by
 have hh:=RI bits;rw[Zc,XF,Ai5 h,Aa,Ax,De,VJ h,Aa];simp only;rw[Aab (by rw[Ak];simp),Aab (by rw[Aq,Ac];simp;omega),Aab (by rw[Ar];simp;omega),Aab (by rw[Aq,Ac];simp;omega)];exact Adc h l hl l.length 0 Ay (by omega) (by have:=Au;omega)
theorem Aog{bits:Int}(h:Bt bits)(l:List Int32)(hl:l.length<=4000):∃e,Ax bits l=some e:=by
 have hh:=RI bits;have key:∀(j i q:Nat),i+j=l.length->j<q->∃e,Ba l (hB bits) q (i:Int)=some e:=by
  intro j
  induction j with
  |zero=>
   intro i q hi hq;obtain⟨q,rfl⟩:∃k,q=k+1:=⟨q-1,by omega⟩;rw[Ba,Cm,Aab (by rw[Ae,Ac];simp;omega)];exact⟨_,rfl⟩
  |succ j ih=>
   intro i q hi hq;obtain⟨q,rfl⟩:∃k,q=k+1:=⟨q-1,by omega⟩;rw[Ba,Cm,Aah (by rw[Ae,Ac];simp;omega),g32 (by omega),Aa,Aa,Aj (by omega) (by omega)];split
   ·exact⟨_,rfl⟩
   ·split
    ·exact⟨_,rfl⟩
    ·exact ih (i+1) q (by omega) (by omega)
 obtain⟨e,he⟩:=key l.length 0 Ay (by omega) (by have:=Au;omega);rw[Ax,De,VJ h,Aa,Aab (by rw[Ar];simp;omega),Aab (by rw[Aq,Ac];simp;omega)];exact⟨e,he⟩
theorem tS{bits:Int}{ch:Nat}{t:List Int32}{v:List UInt32}(hb:Bt bits)(ht:t.length=16)(h1:1<=ch)(h6:ch<=6)(hv:v.length<=4000)(hm:v.length %ch=0):
  ∃l e,Tt (ch:Int) bits t v=some l/\Tl (ch:Int) bits l=some (if e≠0 then([],e)else(l,0))/\Wq (ch:Int) bits t v=some (if e≠0 then([],e)else(l,0))/\Ax bits l=some e/\l.length=v.length:=by
 have hlen:=iL bits ch t v;have hul:=gG ch (xT bits ch t v);obtain⟨e,he⟩:=Aog hb (unm ch (xT bits ch t v)) (by omega);refine⟨unm ch (xT bits ch t v),e,Ags hb ht h1 h6 hv hm,?_,?_,he,by omega⟩
 ·rw[Tl,he,Aa];by_cases h:e=0
  ·rw[Aab (by rw[Ak];simpa using h),Aab (by simpa using h)]
  ·rw[Aah (by rw[Ak];simpa using h),Aah h]
 ·rw[Aub hb ht h1 h6 hv,Oj,SV,Bc6 ch _ h1 h6 (by rw[hlen];exact hm) (by omega),Aa];simp only;rw[Aab (by rw[Ak];simp),gN hb _ (by omega),he,Aa];by_cases h:e=0
  ·rw[Aab (by rw[Ak];simpa using h),Aab (by simpa using h)]
  ·rw[Aah (by rw[Ak];simpa using h),Aah h]
def mI(s:Nat):Nat:=(s/2)^^^ (if s %2=1 then 3988292384 else 0)
theorem Aau{s:Nat}(h:s<4294967296):mI s<4294967296:=by
 unfold mI;exact Beq (n:=32) (by simp;omega) (by split<;>decide)
theorem Aj4(x y:Nat):(x^^^y)/2=(x/2)^^^ (y/2):=by
 have:=Nat.shiftRight_xor_distrib (a:=x) (b:=y) (i:=1);simpa [Nat.shiftRight_eq_div_pow]using this
theorem Avc(x y:Nat):mI (x^^^y)=mI x^^^mI y:=by
 have h:(x^^^y) %2=(x %2+y %2) %2:=by
  have:=Nat.xor_mod_two_eq_one (a:=x) (b:=y);have h1:(x^^^y) %2<2:=Bhd _ (by omega);omega
 simp only[mI,Aj4,h];have hx:x %2=0\/x %2=1:=by omega
 have hy:y %2=0\/y %2=1:=by omega
 rcases hx with hx|hx<;>rcases hy with hy|hy<;>simp only[hx,hy]<;>simp
 ·rw[Bhf]
 ·rw[Bhf,Blo (y/2),Bhf,Blo 3988292384 (y/2)]
 ·rw[Bhf,Blo 3988292384,Bhf,Nat.xor_self];simp
def BK:Nat->Nat->Nat
 |0,s=>s
 |k+1,s=>BK k (mI s)
theorem Ahe:∀(k x y:Nat),BK k (x^^^y)=BK k x^^^BK k y
 |0,_,_=>rfl
 |k+1,x,y=>by rw[BK,Avc,Ahe k];rfl
theorem Ahf:∀(k h:Nat),BK k (2^k*h)=h
 |0,h=>by simp[BK]
 |k+1,h=>by
  have:mI (2^(k+1)*h)=2^k*h:=by
   rw[Av3,An1 (2^k) 2,Bhu,mI,Aab (by omega),Nat.mul_div_cancel_left _ (by omega)];simp
  rw[BK,this,Ahf k]
theorem Ad1:∀(k:Nat) {s:Nat},s<4294967296->BK k s<4294967296
 |0,_,h=>h
 |k+1,_,h=>Ad1 k (Aau h)
def zM(s c:Nat):Nat:=BK 8 (s^^^c)
theorem Ae5{s c:Nat}(h:s<4294967296)(hc:c<256):zM s c<4294967296:=Ad1 8 (Beq (n:=32) (by simpa using h) (by simp;omega))
theorem Anb{s c:Nat}(hc:c<256):zM s c=(s/256)^^^BK 8 ((s %256)^^^c):=by
 have h:s=(2^8*(s/256))^^^ (s %256):=by
  have h1:s %256<2^8:=by simpa using Bhd s (by omega:256>0)
  have:=Bew h1 (s/256);have h2:2^8*(s/256)|||s %256=(2^8*(s/256))^^^ (s %256):=by
   apply Nat.eq_of_testBit_eq;intro i;rw[Nat.testBit_or,Nat.testBit_xor];by_cases hi:i<8
   ·have:(2^8*(s/256)).testBit i=false:=by rw[Nat.testBit_two_pow_mul];simp;omega
    rw[this];simp
   ·have:(s %256).testBit i=false:=Nat.testBit_lt_two_pow (Anx h1 (Ajs (by omega) (by omega)));rw[this];simp
  omega
 rw[zM]
 conv=>lhs;rw[h]
 rw[Bhf,Ahe,Ahf]
def Ati(s:Nat)(l:List UInt8):Nat:=l.foldl (λs c=>zM s c.toNat) s
def Ec(b:List UInt8):UInt32:=4294967295-UInt32.ofNat (Ati 4294967295 b)
theorem Bci(s:UInt32)(c:Nat)(hc:c<256):KN s (Af (GJ (UInt8.ofNat c) (2:UInt8)):Int)=some (UInt32.ofNat (s.toNat/2^^^ (if(s.toNat^^^c) %2=1 then 3988292384 else 0))):=by
 have h1:(Af (GJ (UInt8.ofNat c) (2:UInt8)):Int)=((c %2:Nat):Int):=by
  rw[UL,Bdk,UInt8.toNat_mod,Anz];show((c %256 %2:Nat):Int)=_;omega
 have h2:geq (GJ s (2:UInt32)) (1:UInt32)=decide (s.toNat %2=1):=by
  rw[Ah8,Anp,Amo];simp only[Av2,Abv];rw[<-UInt32.toNat_inj,UInt32.toNat_mod];rfl
 have h3:Cv s (2:UInt32)=UInt32.ofNat (s.toNat/2):=by
  apply UInt32.toNat_inj.1;rw[Al3,UInt32.toNat_div,Ant]
  show s.toNat/2=_;have:=s.toNat_lt;omega
 have h4:Zy (Cv s (2:UInt32)) (3988292384:UInt32)=UInt32.ofNat (s.toNat/2^^^3988292384):=by
  apply UInt32.toNat_inj.1;rw[h3,dE,Bla,Ant,Ant];have:=s.toNat_lt;rw[Ab3 (a:=s.toNat/2) (by omega),Ab3]
  ·rfl
  ·exact Beq (n:=32) (by omega) (by decide)
 have hx:(s.toNat^^^c) %2=(s.toNat %2+c %2) %2:=by
  have:=Nat.xor_mod_two_eq_one (a:=s.toNat) (b:=c);have h1:(s.toNat^^^c) %2<2:=Bhd _ (by omega);omega
 have hs:s.toNat %2=0\/s.toNat %2=1:=by omega
 have hc2:c %2=0\/c %2=1:=by omega
 rw[KN,PU,h1,h2,hx];rcases hs with hs|hs<;>rcases hc2 with hc2|hc2<;>simp[hs,hc2,Ar,OY,PN,dE,h3]
theorem xX:∀(j i q:Nat) (s:UInt32) (c:Nat),i+j=8->j<q->c<2^j->Mv q s (UInt8.ofNat c) (i:Int)=some (UInt32.ofNat (BK j (s.toNat^^^c)))
 |0,i,q+1,s,c,hi,_,hc=>by
  obtain rfl:i=8:=by omega
  obtain rfl:c=0:=by simpa using hc
  rw[Mv,Zl,Aab (by rw[Ae];simp),PT,OX,BK];simp
 |j+1,i,q+1,s,c,hi,hq,hc=>by
  have hc8:c<256:=Anx hc (show 2^(j+1)<=2^8 from Ajs (by omega) (by omega));rw[Mv,Zl,Aah (by rw[Ae];simp;omega),Bci s c hc8,Aa,Aj (by omega) (by omega)];have e:Cv (UInt8.ofNat c) (2:UInt8)=UInt8.ofNat (c/2):=by
   apply UInt8.toNat_inj.1;rw[Bdl,UInt8.toNat_div,Anz,Anz]
   show c %256/2=_;omega
  rw[e];have h:=xX j (i+1) q (UInt32.ofNat (s.toNat/2^^^ (if(s.toNat^^^c) %2=1 then 3988292384 else 0))) (c/2) (by omega) (by omega) (by rw[Av3]at hc;omega);rw[show((i:Int)+1)=((i+1:Nat):Int) by omega,h,Ant,BK];congr 3;have:=s.toNat_lt;rw[Ab3,mI,Aj4,Bhf,Bhf,Blo (c/2)];exact Beq (n:=32) (by omega) (by split<;>decide)
theorem Bdr(s:UInt32)(c:UInt8):aG s c=some (UInt32.ofNat (zM s.toNat c.toNat)):=by
 have h:=xX 8 0 Ay s c.toNat (by omega) (by have:=Au;omega) (by simpa using c.toNat_lt);rw[UInt8.ofNat_toNat]at h;exact h
theorem qH(b:List UInt8)(hb:b.length<4611686018427387904):∀(j i q:Nat) (s:UInt32),i+j=b.length->j<q->Kh b q s (i:Int)=some (UInt32.ofNat (Ati s.toNat (b.drop i)))
 |0,i,q+1,s,hi,_=>by
  rw[Kh,Wi,Aab (by rw[Ae,Ac];simp;omega),show i=b.length by omega,Bhb];simp[IF,HU,Ati]
 |j+1,i,q+1,s,hi,hq=>by
  have hlt:i<b.length:=by omega
  rw[Kh,Wi,Aah (by rw[Ae,Ac];simp;omega),Bu hlt,Aa,Bdr,Aa,Aj (by omega) (by omega)];have h:=qH b hb j (i+1) q (UInt32.ofNat (zM s.toNat b[i].toNat)) (by omega) (by omega);rw[show((i:Int)+1)=((i+1:Nat):Int) by omega,h,drop_cons hlt,Ant,Ab3 (Ae5 s.toNat_lt b[i].toNat_lt)];rfl
theorem Az9(b:List UInt8)(hb:b.length<4611686018427387904):Ww b=some (Ec b):=by
 have h:=qH b hb b.length 0 Ay 4294967295 (by omega) (by have:=Au;omega);rw[Ww,TE,HM,IQ,show((0:Int))=((0:Nat):Int)from rfl,h,Aa,Ads];rfl
theorem Bcv(c:UInt32):Zy (Ck c (GI.toZ (1:UInt64)).toNat) (Bn (3988292384:UInt32) (Ev c (1:UInt32)))=UInt32.ofNat (mI c.toNat):=by
 apply UInt32.toNat_inj.1;have e:(GI.toZ (1:UInt64)).toNat=1:=rfl;have h1:(Ck c 1).toNat=c.toNat/2:=by rw[QG]
 have h2:(Bn (3988292384:UInt32) (Ev c (1:UInt32))).toNat=if c.toNat %2=1 then 3988292384 else 0:=by
  rw[Ay2,Adm,UInt32.toNat_mul,UInt32.toNat_and]
  show 3988292384*(c.toNat&&&1) %4294967296=_;rw[Nat.and_one_is_mod];have:c.toNat %2=0\/c.toNat %2=1:=by omega
  rcases this with h|h<;>simp[h]
 rw[e,dE,Bla,h1,h2,Ant,Ab3 (Aau c.toNat_lt)];rfl
theorem Alu(Po:Int->List UInt32->Option (UInt32×Int))(s:UInt32)(b:List UInt8)(x:Int)(t:List UInt32):∀(j i q:Nat) (c:UInt32),i+j=8->j<q->
  Va Po s b x t q c (i:Int)=II Po s b x (UInt32.ofNat (BK j c.toNat)) t
 |0,i,q+1,c,hi,_=>by
  obtain rfl:i=8:=by omega
  rw[Va,HY,Aab (by rw[Ae];simp),BK,UInt32.ofNat_toNat]
 |j+1,i,q+1,c,hi,hq=>by
  rw[Va,HY,Aah (by rw[Ae];simp;omega),Bcv,Aj (by omega) (by omega),show((i:Int)+1)=((i+1:Nat):Int) by omega,Alu Po s b x t j (i+1) q _ (by omega) (by omega),Ant,Ab3 (Aau c.toNat_lt)];rfl
def tbl(n:Nat):List UInt32:=(List.range n).map λi=>UInt32.ofNat (BK 8 i)
theorem Asb(s:UInt32)(b:List UInt8):∀(j i q:Nat),i+j=256->j<q->Qe s b q (i:Int) (tbl i++List.replicate j 0)=JI s b (tbl 256)
 |0,i,q+1,hi,_=>by
  obtain rfl:i=256:=by omega
  rw[Qe,JZ,Aab (by rw[Ae];simp)];simp
 |j+1,i,q+1,hi,hq=>by
  have hlen:(tbl i++List.replicate (j+1) 0).length=i+(j+1):=by simp[tbl]
  rw[Qe,JZ,Aah (by rw[Ae];simp;omega),VK];have h:=Alu (Qe s b q) s b (i:Int) (tbl i++List.replicate (j+1) 0) 8 0 Ay (Af (i:Int)) (by omega) (by have:=Au;omega);rw[show((0:Int))=((0:Nat):Int)from rfl,h,II,YN,Bu (by rw[hlen];omega),Aa,Vv _ (by rw[hlen];omega),Aa,XG,nO,Aj (by omega) (by omega)];have e:(Af (i:Int):UInt32).toNat=i:=by rw[Agx,Ant,Ab3 (by omega)]
  rw[e,Beu,gR (by simp[tbl])];have h2:=Asb s b j (i+1) q (by omega) (by omega);have h3:tbl (i+1)=tbl i++[UInt32.ofNat (BK 8 i)]:=by simp[tbl,List.range_succ]
  rw[h3]at h2;rw[show((i:Int)+1)=((i+1:Nat):Int) by omega,<-h2];simp
theorem Bd2{i:Nat}(h:i<256):Ap (tbl 256) (i:Int)=some (UInt32.ofNat (BK 8 i)):=by
 rw[Bu (by simpa [tbl]using h)];simp[tbl]
theorem Ayw(s:UInt32)(c:UInt8):Ap (tbl 256) (GI.toZ (Zy (Af s:UInt8) c))=some (UInt32.ofNat (BK 8 ((s.toNat %256)^^^c.toNat))):=by
 have e:GI.toZ (Zy (Af s:UInt8) c)=(((s.toNat %256)^^^c.toNat:Nat):Int):=by
  rw[EC,Asd,UInt8.toNat_xor,rC,Anz]
 rw[e,Bd2];exact Beq (n:=8) (by simp;omega) (by simpa using c.toNat_lt)
theorem Atd(s:UInt32)(c:UInt8):Zy (Ck s (GI.toZ (8:UInt64)).toNat) (UInt32.ofNat (BK 8 ((s.toNat %256)^^^c.toNat)))=UInt32.ofNat (zM s.toNat c.toNat):=by
 apply UInt32.toNat_inj.1;have hlt:BK 8 ((s.toNat %256)^^^c.toNat)<4294967296:=Ad1 8 (Beq (n:=32) (by simp;omega) (by have:=c.toNat_lt;simp;omega));have e:(GI.toZ (8:UInt64)).toNat=8:=rfl;rw[e,dE,Bla,QG,Ant,Ant,Ab3 hlt,Ab3 (Ae5 s.toNat_lt c.toNat_lt),Anb c.toNat_lt]
theorem Akz(b:List UInt8)(hb:b.length<4611686018427387904):∀(j i q:Nat) (s:UInt32),i+j=b.length->j<q->Vf b (tbl 256) q s (i:Int)=some (UInt32.ofNat (Ati s.toNat (b.drop i)),0)
 |0,i,q+1,s,hi,_=>by
  rw[Vf,KH,Aab (by rw[Ae,Ac];simp;omega),show i=b.length by omega,Bhb];simp[XH,mT,Ati]
 |j+1,i,q+1,s,hi,hq=>by
  have hlt:i<b.length:=by omega
  rw[Vf,KH,Aah (by rw[Ae,Ac];simp;omega),Bu hlt,Aa,Ayw,Aa,Aa,Atd,Aj (by omega) (by omega)];have h:=Akz b hb j (i+1) q (UInt32.ofNat (zM s.toNat b[i].toNat)) (by omega) (by omega);rw[show((i:Int)+1)=((i+1:Nat):Int) by omega,h,drop_cons hlt,Ant,Ab3 (Ae5 s.toNat_lt b[i].toNat_lt)];rfl
theorem Bcb(s:UInt32)(b:List UInt8)(hb:b.length<=100000):iO s b=some (UInt32.ofNat (Ati s.toNat b),0):=by
 have h:=Asb s b 256 0 Ay (by omega) (by have:=Au;omega);have h2:=Akz b (by omega) b.length 0 Ay s (by omega) (by have:=Au;omega);rw[iO,bZ,Aab (by rw[Aq,Ac];simp;omega),WC];refine Bg6 h ?_;rw[JI,WQ,WK,UY,WB];exact h2
theorem Azb(a:UInt32):Ae0 a=4294967295-a:=by
 have h:=a.toNat_lt;have e:Ae0 a=UInt32.ofNat (BitVec.ofInt 32 4294967295^^^BitVec.ofInt 32 (a.toNat:Int)).toNat:=Ga _;apply UInt32.toNat_inj.1;rw[e,Ant,UInt32.toNat_sub_of_le _ _ (by rw[UInt32.le_iff_toNat_le];show a.toNat<=4294967295;omega)];have h1:BitVec.ofInt 32 (a.toNat:Int)=a.toBitVec:=Ahv a;have h2:(BitVec.ofInt 32 4294967295:BitVec 32)=BitVec.allOnes 32:=by decide
 rw[h1,h2,BitVec.allOnes_xor,BitVec.toNat_not];show(4294967296-1-a.toNat) %4294967296=4294967295-a.toNat;omega
theorem wV(b:List UInt8)(hb:b.length<=100000):AR b=some (Ec b,0):=by
 rw[AR,Bcb _ _ hb,Aa];simp only[Ak,Azb];rfl
theorem Arf:∀{l m:List UInt8},l.length=m.length->Fu l=Fu m->l=m
 |[],[],_,_=>rfl
 |x::l,y::m,h,e=>by
  simp only[Fu]at e;have hx:=x.toNat_lt;have hy:=y.toNat_lt;have h1:x=y:=UInt8.toNat_inj.1 (by omega);rw[h1,Arf (l:=l) (m:=m) (by simpa using h) (by omega)]
theorem DC:∀(w n:Nat),Fu (Te n w)=n %256^w
 |0,n=>by simp[Te,Fu,Nat.mod_one]
 |w+1,n=>by
  rw[Te,Fu,DC w (n/256),Anz,show(256:Nat)^(w+1)=256*256^w by rw[Av3,An1],Nat.mod_mul]
def Vk(b:List UInt8):Int:=
 if b.length<5 then 24 else if 41254<b.length then 4 else if(Ec (b.take (b.length-4))).toNat≠Fu (b.drop (b.length-4))then 22 else 0
theorem Amg(b:List UInt8):JY b=some (if Vk b≠0 then([],Vk b)else(b.take (b.length-4),0)):=by
 rw[JY];by_cases h1:b.length<5
 ·have hS:Vk b=24:=by rw[Vk,Aah h1]
  rw[Aah (by rw[Ae,Ac];simp;omega),hS];rfl
 rw[Aab (by rw[Ae,Ac];simp;omega)];by_cases h2:41254<b.length
 ·have hS:Vk b=4:=by rw[Vk,Aab h1,Aah h2]
  rw[Aah (by rw[Aq,Ac];simp;omega),hS];rfl
 have e4:Am (Ac b) 4=((b.length-4:Nat):Int):=by rw[Ac,Bp (by omega) (by omega)];omega
 have hd:(b.drop (b.length-4)).length=4:=by simp;omega
 rw[Aab (by rw[Aq,Ac];simp;omega),e4,Da (by omega) (by omega),Aa,show((b.length-4:Nat):Int).toNat=b.length-4 from rfl,wV _ (by simp;omega),Aa];simp only;rw[Aab (by rw[Ak];simp),Ca (by omega) (by omega),Aa,show((b.length-4:Nat):Int).toNat=b.length-4 from rfl,Aki _ (by omega) (by omega),Aa];have hne:Bi (qQ (b.drop (b.length-4))) (Af (Ec (b.take (b.length-4))):UInt64)=decide ((Ec (b.take (b.length-4))).toNat≠Fu (b.drop (b.length-4))):=by
  have hlt:=(Ec (b.take (b.length-4))).toNat_lt;rw[TY,Amo];simp only[Bk6,ne_eq,<-Bjx,Abv];rw[aI (by omega),Dn,Akl,Ab3 (by omega)];exact⟨λh e=>h e.symm,λh e=>h e.symm⟩
 simp only;rw[hne,Aa];by_cases h3:(Ec (b.take (b.length-4))).toNat≠Fu (b.drop (b.length-4))
 ·have hS:Vk b=22:=by rw[Vk,Aab h1,Aab h2,Aah h3]
  rw[Aah (by simp[h3]),hS];rfl
 ·have hS:Vk b=0:=by rw[Vk,Aab h1,Aab h2,Aab h3]
  rw[Aab (by rw[Bei h3];decide),hS];rfl
theorem As5(b:List UInt8)(hb:b.length<=1000000):CC b=some (b++Te (Ec b).toNat 4):=by
 have h:∀k:Nat,(Af (Ck (Ec b) k):UInt8)=UInt8.ofNat ((Ec b).toNat/2^k):=by
  intro k;rw[rC,QG]
 have h0:(Af (Ec b):UInt8)=UInt8.ofNat (Ec b).toNat:=rC _;have h1:=h 8;have h2:=h 16;have h3:=h 24;rw[CC,Az9 b (by omega),Aa,By (by simp;omega),Aa,By (by simp;omega),Aa,h0,show(GI.toZ (8:UInt64)).toNat=8 from rfl,show(GI.toZ (16:UInt64)).toNat=16 from rfl,show(GI.toZ (24:UInt64)).toNat=24 from rfl,h1,h2,h3];simp only[Te,Bia,Aqd]
theorem qW(b:List UInt8):Tm b=some (Vk b):=by
 rw[Tm];by_cases h1:b.length<5
 ·rw[Aah (by rw[Ae,Ac];simp;omega),Vk,Aah h1]
 rw[Aab (by rw[Ae,Ac];simp;omega)];by_cases h2:41254<b.length
 ·rw[Aah (by rw[Aq,Ac];simp;omega),Vk,Aab h1,Aah h2]
 have e4:Am (Ac b) 4=((b.length-4:Nat):Int):=by rw[Ac,Bp (by omega) (by omega)];omega
 have hd:(b.drop (b.length-4)).length=4:=by simp;omega
 rw[Aab (by rw[Aq,Ac];simp;omega),e4,Da (by omega) (by omega),Aa,show((b.length-4:Nat):Int).toNat=b.length-4 from rfl,As5 _ (by simp;omega),Aa];have hlt:=(Ec (b.take (b.length-4))).toNat_lt;have hiff:(b.take (b.length-4)++Te (Ec (b.take (b.length-4))).toNat 4 !=b)=decide ((Ec (b.take (b.length-4))).toNat≠Fu (b.drop (b.length-4))):=by
  rw[Amo];simp only[Bk6,ne_eq,Abv];constructor
  ·intro h e;apply h;have:Te (Ec (b.take (b.length-4))).toNat 4=b.drop (b.length-4):=Arf (by rw[Cf,hd]) (by rw[DC,Ab3 (by omega),e]);rw[this,Bax]
  ·intro h e;apply h;have hx:Te (Ec (b.take (b.length-4))).toNat 4=b.drop (b.length-4):=by
    have e2:b.take (b.length-4)++Te (Ec (b.take (b.length-4))).toNat 4=b.take (b.length-4)++b.drop (b.length-4):=by rw[e,Bax]
    exact List.append_cancel_left e2
   rw[<-hx,DC,Ab3 (by omega)]
 rw[hiff];by_cases h3:(Ec (b.take (b.length-4))).toNat≠Fu (b.drop (b.length-4))
 ·rw[Aah (by simp[h3]),Vk,Aab h1,Aab h2,Aah h3]
 ·rw[Aab (by rw[Bei h3];decide),Vk,Aab h1,Aab h2,Aab h3]
theorem Akv{b:List UInt8}(h:Vk b=0):5<=b.length/\b.length<=41254:=by
 unfold Vk at h;split at h
 ·simp at h
 ·split at h
  ·simp at h
  ·omega
theorem Aam{c:Nat}(h1:1<=c)(h6:c<=6):Cv (4000:Int) (c:Int)=((4000/c:Nat):Int):=by
 have:c=1\/c=2\/c=3\/c=4\/c=5\/c=6:=by omega
 rcases this with rfl|rfl|rfl|rfl|rfl|rfl<;>rfl
theorem Bbe(p:List UInt8)(h:p.length<=41250):okB p (8*p.length):=⟨by omega,by omega,λk h1 h2=>by omega⟩
theorem FR{bits:Int}{ch n:Nat}{t:List Int32}(b:List UInt8)(hb:Bt bits)(ht:t.length=16)(h1:1<=ch)(h6:ch<=6)(n1:1<=n)(n2:n<=4000/ch):
  ∃l e,Jv (ch:Int) bits t (n:Int) b=some (l,e)/\Di (ch:Int) bits t (n:Int) b=some (l,e)/\ (e=0->Ax bits l=some 0/\l.length<=4000/\l.length=n*ch)/\ (e≠0->l=[]):=by
 have hn:n*ch<=4000:=by
  have:=Aiy ch n2;have h2:=Bgf 4000 ch;omega
 have hq4:=Aam h1 h6;generalize 4000/ch=mm at*
 have hck:Hl (ch:Int) bits=some 0:=by
  have hr:∃x y,Vi bits=some (x,y,0):=⟨_,_,Ai5 hb⟩;obtain⟨x,y,hr⟩:=hr;rw[Hl,hr,Aa];simp only;rw[Aab (by simp[Ak,Ae,Aq];omega)]
 have hh:=RI bits;have Afc:Dr (ch:Int) bits (n:Int)=some 0:=by
  rw[Dr,Df,Aab (by simp[Ae,Aq];omega),VJ hb,Aa,Aab (by rw[Ar];simp;omega),Aa,Aab (by simp[Ak,Ae];omega),Bo (by rw[Ak];simp;omega),Aa,hq4,Aab (by rw[Aq];simp;omega)]
 rw[Jv,Di,Ot,hck,Afc,Aa,Aa,Aab (by rw[Ak];simp),Aab (by rw[Ae];simp;omega),Bo (by rw[Ak];simp;omega),Aa,hq4,Aab (by rw[Aq];simp;omega),Aab (by rw[Ak];simp),Amg,qW];by_cases hs:Vk b≠0
 ·rw[Aah hs];simp only[Aa];rw[Aah (by rw[Ak];simpa using hs),Aah (by rw[Ak];simpa using hs)];exact⟨[],Vk b,rfl,rfl,λe=>absurd e hs,λ_=>rfl⟩
 have hs0:Vk b=0:=by simpa using hs
 have hlen:=Akv hs0;have e4:Am (Ac b) 4=((b.length-4:Nat):Int):=by rw[Ac,Bp (by omega) (by omega)];omega
 rw[Aab hs,hs0];simp only[Aa];rw[Aab (by rw[Ak];simp),Aab (by rw[Ak];simp),e4,Da (by omega) (by omega),Aa,show((b.length-4:Nat):Int).toNat=b.length-4 from rfl];have hpl:(b.take (b.length-4)).length=b.length-4:=by simp
 generalize b.take (b.length-4)=p at*
 have e8:Bn (8:Int) (Ac p)=((8*p.length:Nat):Int):=by rw[Ac,Hh (by omega) (by omega)];omega
 have hp:=Bbe p (by omega);have hv:=values_eq hp h1 h6 hn;have hr:=Air (N:=8*p.length) (p:=p) rfl (by omega) h1 h6 hn;have hat:=Aaj (ch:=ch) (p:=p) (N:=8*p.length) (n*ch) 0 [] (by omega);rw[Aij,Aab (by rw[Aq,Ac];simp;omega),Fo,By (by simp;omega),Aa,Aa,Aa,Aqd,e8];simp only;rw[Aab (by rw[Ak];simp),hv,hr,Aa,Aa];generalize Xa ch p (8*p.length) (n*ch) 0 []=V at*
 obtain⟨v,at',e⟩:=V;simp only at*
 by_cases he:e≠0
 ·rw[Aah he,Aah he];simp only;rw[Aah (by rw[Ak];simpa using he),Hu,Hw,Aah (by rw[Ak];simpa using he)];exact⟨[],e,rfl,rfl,λh=>absurd h he,λ_=>rfl⟩
 have he0:e=0:=by simpa using he
 have hvl:=hat.2.2 he0;simp only[List.length_nil,Bar]at hvl;rw[Aab he,Aab he];simp only;rw[Aab (by rw[Ak];simp),Bp (by omega) (by omega),show((8*p.length:Nat):Int)-(at':Int)=((8*p.length-at':Nat):Int) by omega,Hu,Hw];by_cases h7:7<8*p.length-at'
 ·have hE:(if 7<8*p.length-at'\/Cb p at' (8*p.length-at')≠0 then(12:Int)else 0)=12:=Aah (.inl h7);rw[Aah (by rw[Dq];simp;omega),hE,Aah (by decide)];exact⟨[],12,rfl,rfl,λh=>absurd h (by decide),λ_=>rfl⟩
 rw[Aab (by rw[Dq];simp;omega),vW hp at' _ (by omega),Aab (by omega),Aa];have hz:Bi (Qr p at' (8*p.length-at')) (0:UInt64)=decide (Cb p at' (8*p.length-at')≠0):=by
  rw[TY,Amo];simp only[Bk6,ne_eq,<-Bjx,Abv];rw[AL p _ _ (by omega)];rfl
 simp only;rw[hz];by_cases hv0:Cb p at' (8*p.length-at')≠0
 ·have hE:(if 7<8*p.length-at'\/Cb p at' (8*p.length-at')≠0 then(12:Int)else 0)=12:=Aah (.inr hv0);rw[Aah (by simp[hv0]),hE,Aah (by decide)];exact⟨[],12,rfl,rfl,λh=>absurd h (by decide),λ_=>rfl⟩
 have hm:v.length %ch=0:=by rw[hvl];exact Bhi n ch
 obtain⟨l,e,g1,g2,g3,g4,g5⟩:=tS (v:=v) hb ht h1 h6 (by omega) hm;have hE:(if 7<8*p.length-at'\/Cb p at' (8*p.length-at')≠0 then(12:Int)else 0)=0:=Aab (by omega);rw[Aab (by rw[Bei hv0];decide),hE,Aab (by decide),g1,g3,Aa,Aa,g2];by_cases hl:e≠0
 ·rw[Aah hl];exact⟨[],e,rfl,rfl,λh=>absurd h hl,λ_=>rfl⟩
 ·rw[Aab hl];have hl0:e=0:=by simpa using hl
  exact⟨l,0,rfl,rfl,λ_=>⟨by rw[g4,hl0],by omega,by omega⟩,λe=>absurd rfl e⟩
theorem Ays(a b:Int32):a-(a-b)=b:=by
 apply Int32.toBitVec_inj.1;simp only[Int32.toBitVec_sub];apply Bju;simp only[BitVec.toNat_sub];have:=a.toBitVec.isLt;have:=b.toBitVec.isLt;omega
theorem ZA(a b:Int32):a-b+b=a:=by
 apply Int32.toBitVec_inj.1;simp only[Int32.toBitVec_sub,Int32.toBitVec_add];apply Bju;simp only[BitVec.toNat_sub,BitVec.toNat_add];have:=a.toBitVec.isLt;have:=b.toBitVec.isLt;omega
def mxV(f:Nat->Int32)(ch i:Nat):Int32:=if i+1<ch then f (i+1)-f i else if 1<ch then f (ch-1)-Cv (f (ch-1)-f (ch-2)) (2:Int32)else f (ch-1)
theorem Ayg{f g:Nat->Int32}{ch:Nat}(h1:1<=ch)(h:∀i,i<ch->f i=mxV g ch i):∀j,j<ch->unV f ch j=g (ch-1-j)
 |0,_=>by
  rw[unV];by_cases h2:1<ch
  ·rw[Aah h2,h (ch-1) (by omega),h (ch-2) (by omega),mxV,mxV,Aab (by omega),Aah h2,Aah (by omega),show ch-2+1=ch-1 by omega,ZA,Nat.sub_zero]
  ·rw[Aab h2,h (ch-1) (by omega),mxV,Aab (by omega),Aab h2,Nat.sub_zero]
 |j+1,hj=>by
  rw[unV,Ayg h1 h j (by omega),h (ch-2-j) (by omega),mxV,Aah (by omega),show ch-2-j+1=ch-1-j by omega,Ays];congr 1;omega
def mx(ch:Nat)(x:List Int32):List Int32:=(List.range x.length).map λk=>mxV (λi=>x.getD (k-k %ch+i) 0) ch (k %ch)
theorem VM(ch:Nat)(x:List Int32):(mx ch x).length=x.length:=by simp[mx]
theorem Ayn{ch:Nat}{x:List Int32}{k:Nat}(h:k<x.length):(mx ch x).getD k 0=mxV (λi=>x.getD (k-k %ch+i) 0) ch (k %ch):=by
 rw[Ka (by rw[VM];exact h)];simp[mx]
theorem Bfh{ch:Nat}{x:List Int32}(h1:1<=ch)(hm:x.length %ch=0):unm ch (mx ch x)=x:=by
 apply Baq (by rw[gG,VM]);intro k hk1 hk2;have hr:=Bhd k (show 0<ch by omega);have hle:=Nat.mod_le k ch;have ha:(k-k %ch) %ch=0:=Nat.mod_eq_zero_of_dvd (Nat.dvd_sub_mod k);have hb:=uO ha hm (by omega);have e:=vJ (m:=mx ch x) ha hr (by rw[VM];omega);rw[show k-k %ch+k %ch=k by omega]at e;rw[<-Ka hk1,<-Ka hk2,e];rw[Ayg (g:=λi=>x.getD (k-k %ch+i) 0) h1 (λi hi=>?_) (ch-1-k %ch) (by omega)]
 ·congr 1;omega
 ·rw[Ayn (by omega)];have h2:(k-k %ch+i) %ch=i:=by rw[Nat.add_mod,ha,Bar,Nat.mod_mod,Ab3 hi]
  rw[h2,show k-k %ch+i-i=k-k %ch by omega]
def mQ(x:Int32):UInt32:=UInt32.ofNat (if 0<=x.toInt then 2*x.toInt.toNat else 2*(-x.toInt-1).toNat+1)
theorem Ay4(x:Int32):WN (mQ x)=x:=by
 have h:=BN x;have e:(mQ x).toNat=if 0<=x.toInt then 2*x.toInt.toNat else 2*(-x.toInt-1).toNat+1:=by
  rw[mQ,Ant];split<;>exact Ab3 (by omega)
 rw[WN,e];by_cases h0:0<=x.toInt
 ·rw[Aah h0,Aah (by omega),show((2*x.toInt.toNat/2:Nat):Int)=x.toInt by omega,Bas]
 ·rw[Aab h0,Aab (by omega),show -(((2*(-x.toInt-1).toNat+1)/2:Nat):Int)-1=x.toInt by omega,Bas]
theorem Agr{α:Type}(ch c:Nat)(f g:α->Nat->α)(a0:α):∀m:Nat,(∀i,i<m->∀a,f a i=g a i)->pre ch c f a0 m=pre ch c g a0 m
 |0,_=>rfl
 |m+1,h=>by
  rw[pre,pre,Agr ch c f g a0 m λi hi=>h i (by omega),h m (by omega)]
theorem Aql(bits:Int)(ch:Nat)(t:List Int32)(v w:List UInt32)(c i:Nat)(h:i<=v.length):cst bits ch t (v++w) c i=cst bits ch t v c i:=by
 unfold cst;apply Agr;intro j hj a;have:(v++w).getD j 0=v.getD j 0:=by
  rw[List.getD_eq_getElem?_getD,List.getD_eq_getElem?_getD,List.getElem?_append_left (by omega)]
 rw[this]
def zQ(bits:Int)(s:CS)(x:Int32):Int32:=x-gs (shB bits) s.1-gF (sB bits) s.2.1 s.2.2
theorem Ag4(bits:Int)(s:CS)(x:Int32):Akb bits s (zQ bits s x)=x:=by
 rw[Akb,zQ,ZA,ZA]
def evl(bits:Int)(ch:Nat)(t m:List Int32):Nat->List UInt32
 |0=>[]
 |i+1=>evl bits ch t m i++[mQ (zQ bits (cst bits ch t (evl bits ch t m i) (i %ch) i) (m.getD i 0))]
theorem oR(bits:Int)(ch:Nat)(t m:List Int32):∀i,(evl bits ch t m i).length=i
 |0=>rfl
 |i+1=>by rw[evl,Aav,oR bits ch t m i];rfl
theorem Ain(bits:Int)(ch:Nat)(t m:List Int32):∀(j i:Nat),∃w,evl bits ch t m (i+j)=evl bits ch t m i++w
 |0,i=>⟨[],by simp⟩
 |j+1,i=>by
  obtain⟨w,hw⟩:=Ain bits ch t m j i;rw[<-Axy,evl,hw];exact⟨_,Agm _ _ _⟩
theorem Bc0(bits:Int)(ch:Nat)(t m:List Int32):xT bits ch t (evl bits ch t m m.length)=m:=by
 have hl:=oR bits ch t m m.length;apply Baq (by rw[iL,hl]);intro i h1 h2;rw[<-Ka h1,<-Ka h2,Aie _ _ _ _ (by omega)];obtain⟨w,hw⟩:=Ain bits ch t m (m.length-(i+1)) (i+1);rw[show i+1+(m.length-(i+1))=m.length by omega,evl,Agm]at hw;have hli:=oR bits ch t m i;rw[hw,Aql _ _ _ _ _ _ _ (by omega)];have hg:(evl bits ch t m i++([mQ (zQ bits (cst bits ch t (evl bits ch t m i) (i %ch) i) (m.getD i 0))]++w)).getD i 0=mQ (zQ bits (cst bits ch t (evl bits ch t m i) (i %ch) i) (m.getD i 0)):=by
  rw[List.getD_eq_getElem?_getD,List.getElem?_append_right (by omega),hli,Nat.sub_self];rfl
 rw[hg,Ay4,Ag4]
def tb(l:List Bool)(k:Nat):Nat:=if l.getD k false=true then 1 else 0
theorem Ari(b:Bool)(l:List Bool):tb (b::l) 0=if b=true then 1 else 0:=rfl
theorem Aq6(b:Bool)(l:List Bool)(k:Nat):tb (b::l) (k+1)=tb l k:=by simp[tb]
theorem Aqw{a b:List Bool}{k:Nat}(h:k<a.length):tb (a++b) k=tb a k:=by
 rw[tb,tb,List.getD_eq_getElem?_getD,List.getD_eq_getElem?_getD,List.getElem?_append_left h]
theorem Aiz(a b:List Bool)(k:Nat):tb (a++b) (a.length+k)=tb b k:=by
 rw[tb,tb,List.getD_eq_getElem?_getD,List.getD_eq_getElem?_getD,List.getElem?_append_right (by omega),Bga]
theorem Ahs{l:List Bool}{k:Nat}(h:l.length<=k):tb l k=0:=by
 rw[tb,List.getD_eq_getElem?_getD,List.getElem?_eq_none h];rfl
def At(p:List UInt8)(a:Nat)(c:List Bool):Prop:=∀i,i<c.length->Hn p (a+i)=tb c i
theorem At.left{p:List UInt8}{a:Nat}{c d:List Bool}(h:At p a (c++d)):At p a c:=λi hi=>by
 rw[h i (by rw[Aav];omega),Aqw hi]
theorem At.right{p:List UInt8}{a:Nat}{c d:List Bool}(h:At p a (c++d)):At p (a+c.length) d:=λi hi=>by
 rw[Axy,h (c.length+i) (by rw[Aav];omega),Aiz]
theorem At.cons{p:List UInt8}{a:Nat}{b:Bool}{c:List Bool}(h:At p a (b::c)):Hn p a=(if b=true then 1 else 0)/\At p (a+1) c:=by
 have h0:=h 0 (by simp);rw[Bg2,Ari]at h0;refine⟨h0,λi hi=>?_⟩;have:=h (i+1) (by simp;omega);rw[Aq6]at this;rw[show a+1+i=a+(i+1) by omega,this]
def iW:Nat->Nat->List Bool
 |_,0=>[]
 |v,n+1=>decide (v %2=1)::iW (v/2) n
theorem Ux:∀(v n:Nat),(iW v n).length=n
 |_,0=>rfl
 |v,n+1=>by rw[iW,Anu,Ux (v/2) n]
theorem NW(p:List UInt8):∀(n a v:Nat),At p a (iW v n)->Cb p a n=v %2^n
 |0,a,v,_=>by rw[Cb,Nat.pow_zero,Nat.mod_one]
 |n+1,a,v,h=>by
  rw[iW]at h;obtain⟨h0,h1⟩:=h.cons;rw[Cb,h0,NW p n (a+1) (v/2) h1,Av3,An1 (2^n) 2,Nat.mod_mul];have:=Nat.mod_two_eq_zero_or_one v;rcases this with e|e<;>simp[e]
theorem Aar(p:List UInt8):∀(q m a:Nat) (c:List Bool),At p a (List.replicate q true++c)->q<=m->Gp p a m=q+Gp p (a+q) (m-q)
 |0,m,a,c,h,hm=>by simp
 |q+1,m,a,c,h,hm=>by
  rw[Beu,Bi1]at h;obtain⟨h0,h1⟩:=h.cons;obtain⟨m,rfl⟩:∃k,m=k+1:=⟨m-1,by omega⟩;rw[Gp,Aah (by rw[h0];rfl),Aar p q m (a+1) c h1 (by omega),show a+1+q=a+(q+1) by omega,show m+1-(q+1)=m-q by omega];omega
theorem Bcs{p:List UInt8}{a m:Nat}(h:Hn p a=0):Gp p a m=0:=by
 cases m with
 |zero=>rfl
 |succ m=>rw[Gp,Aab (by omega)]
def YK(l v:Nat):List Bool:=if 48<=v/2^l then List.replicate 48 true++iW v 32 else List.replicate (v/2^l) true++(false::iW (v %2^l) l)
theorem At4{l v:Nat}(hl:l<=24):1<= (YK l v).length/\ (YK l v).length<=80:=by
 rw[YK];generalize v/2^l=q;split
 ·rw[Aav,Aty,Ux];omega
 ·rw[Aav,Aty,Anu,Ux];omega
theorem Auq{p:List UInt8}{N a l v:Nat}(hl:l<=24)(hv:v<2^32)(h:At p a (YK l v))(hN:a+(YK l v).length<=N):YC p N a l=(UInt32.ofNat v,((a+(YK l v).length:Nat):Int),0):=by
 rw[YK]at h hN⊢;by_cases h48:48<=v/2^l
 ·rw[Aah h48]at h hN⊢;rw[Aav,Aty,Ux]at hN⊢;have hm:min 48 (N-a)=48:=by omega
  have ho:=Aar p 48 48 a (iW v 32) h (An0 _);rw[Nat.sub_self,Gp,Bg2]at ho;have hr:=h.right;rw[Aty]at hr;have hval:=NW p 32 (a+48) v hr;rw[Ab3 hv]at hval;rw[YC,Aab (by omega),hm,ho,Aab (by omega),Aah rfl,Aab (by omega),hval,Aab (by omega)]
 ·rw[Aab h48]at h hN⊢;rw[Aav,Aty,Anu,Ux]at hN⊢;generalize hq:v/2^l=q at*
  have hr:=h.right;rw[Aty]at hr;obtain⟨h0,h1⟩:=hr.cons;have hm:q<min 48 (N-a):=by omega
  have ho:=Aar p q (min 48 (N-a)) a _ h (by omega);rw[Bcs (a:=a+q) (m:=min 48 (N-a)-q) (by rw[h0];rfl),Bg2]at ho;have hval:=NW p l (a+q+1) (v %2^l) h1;rw[Nat.mod_mod]at hval;have hdm:=Bkh v (2^l);rw[hq,An1]at hdm;rw[YC,Aab (by omega),ho,Aah hm,Aab (by omega),hval,hdm,show a+q+1+l=a+(q+(l+1)) by omega]
def Tg(k l:Nat)(v:UInt32):List Bool:=if v.toNat<2^k then false::iW v.toNat k else true::YK l (v.toNat-2^k)
theorem dP{k l:Nat}(v:UInt32)(hk:k<=24)(hl:l<=24):1<= (Tg k l v).length/\ (Tg k l v).length<=81:=by
 have:=At4 (v:=v.toNat-2^k) hl;rw[Tg];split
 ·rw[Anu,Ux];omega
 ·rw[Anu];omega
theorem Aut{p:List UInt8}{N a k l:Nat}{v:UInt32}(hk:k<=24)(hl:l<=24)(h:At p a (Tg k l v))(hN:a+(Tg k l v).length<=N):cF p N a k l=(v,((a+(Tg k l v).length:Nat):Int),0):=by
 have Bnd:=v.toNat_lt;have hof:UInt32.ofNat v.toNat=v:=by simp
 rw[Tg]at h hN⊢;by_cases hs:v.toNat<2^k
 ·rw[Aah hs]at h hN⊢;rw[Anu,Ux]at hN⊢;obtain⟨h0,h1⟩:=h.cons;have hval:=NW p k (a+1) v.toNat h1;rw[Ab3 hs]at hval;rw[cF,Aab (by omega),Aah (by rw[h0];rfl),Aab (by omega),hval,hof,show a+1+k=a+(k+1) by omega]
 ·rw[Aab hs]at h hN⊢;rw[Anu]at hN⊢;obtain⟨h0,h1⟩:=h.cons;have hsub:=Nat.sub_le v.toNat (2^k);have hr:=Auq hl (by omega:v.toNat-2^k<2^32) h1 (by omega:a+1+_<=N);have ht:(UInt32.ofNat (v.toNat-2^k)).toNat=v.toNat-2^k:=by rw[Ant];exact Ab3 (by omega)
  rw[cF,Aab (by omega),Aab (by rw[h0];decide),hr];simp only;rw[Aab (by decide),ht,Aab (by omega),show v.toNat-2^k+2^k=v.toNat by omega,hof,show a+1+(YK l (v.toNat-2^k)).length=a+((YK l (v.toNat-2^k)).length+1) by omega]
def bv:List Bool->Nat
 |[]=>0
 |b::r=>(if b=true then 1 else 0)+2*bv r
theorem Bet:∀l:List Bool,bv l<2^l.length
 |[]=>by decide
 |b::r=>by
  have:=Bet r;rw[bv,Anu,Av3];split<;>omega
theorem Awa:∀(l:List Bool) (k:Nat),bv l/2^k %2=tb l k
 |[],k=>by simp[bv,tb]
 |b::r,0=>by
  rw[bv,Ari,Nat.pow_zero,Nat.div_one];split<;>omega
 |b::r,k+1=>by
  have:((if b=true then 1 else 0)+2*bv r)/2=bv r:=by split<;>omega
  rw[bv,Aq6,Av3,An1 (2^k) 2,<-Bia,this,Awa r k]
def Ms(c:List Bool):List UInt8:=(List.range ((c.length+7)/8)).map λj=>UInt8.ofNat (bv ((c.drop (8*j)).take 8))
theorem AX(c:List Bool):(Ms c).length=(c.length+7)/8:=by simp[Ms]
theorem EX(c:List Bool)(i:Nat):Hn (Ms c) i=tb c i:=by
 rw[Hn];by_cases h:i/8<(c.length+7)/8
 ·have hg:(Ms c).getD (i/8) 0=UInt8.ofNat (bv ((c.drop (8*(i/8))).take 8)):=by
   rw[List.getD_eq_getElem?_getD,List.getElem?_eq_getElem (by rw[AX];exact h)];simp[Ms]
  have hlt:=Bet ((c.drop (8*(i/8))).take 8);have hl8:((c.drop (8*(i/8))).take 8).length<=8:=by rw[Ajr];omega
  have hp:=Ajs (show 0<2 by omega) hl8;have hn:(UInt8.ofNat (bv ((c.drop (8*(i/8))).take 8))).toNat=bv ((c.drop (8*(i/8))).take 8):=by
   rw[Anz];exact Ab3 (by omega)
  rw[hg,hn,Awa,tb,tb];have:((c.drop (8*(i/8))).take 8).getD (i %8) false=c.getD i false:=by
   rw[List.getD_eq_getElem?_getD,List.getD_eq_getElem?_getD,List.getElem?_take,Aah (by omega),List.getElem?_drop,show 8*(i/8)+i %8=i by omega]
  rw[this]
 ·have hg:(Ms c).getD (i/8) 0=0:=by
   rw[List.getD_eq_getElem?_getD,List.getElem?_eq_none (by rw[AX];omega)];rfl
  rw[hg,Ahs (by omega)];simp
def So(ch:Nat)(V:List UInt32):Nat->List Bool
 |0=>[]
 |i+1=>So ch V i++Tg (now ch (V.take i)).1 (now ch (V.take i)).2.1 (V.getD i 0)
theorem Ai8(ch:Nat)(v:List UInt32):(now ch v).1<=24/\ (now ch v).2.1<=24:=by
 have:=lY ch v (v.length %ch) v.length;exact⟨this.1,this.2.1⟩
theorem Ak4(ch:Nat)(V:List UInt32):∀(j i:Nat),∃w,So ch V (i+j)=So ch V i++w
 |0,i=>⟨[],by simp⟩
 |j+1,i=>by
  obtain⟨w,hw⟩:=Ak4 ch V j i;rw[<-Axy,So,hw];exact⟨_,Agm _ _ _⟩
theorem lU(ch:Nat)(V:List UInt32):∀i,(So ch V i).length<=81*i
 |0=>by simp[So]
 |i+1=>by
  have h:=Ai8 ch (V.take i);have:=dP (V.getD i 0) h.1 h.2;rw[So,Aav];have:=lU ch V i;omega
theorem Ahd(ch:Nat)(V:List UInt32)(N:Nat)(hN:(So ch V V.length).length<=N):∀(j i:Nat),i+j=V.length->Xa ch (Ms (So ch V V.length)) N j (So ch V i).length (V.take i)=(V,(So ch V V.length).length,0)
 |0,i,h=>by
  obtain rfl:i=V.length:=by omega
  rw[Xa,Bgh]
 |j+1,i,h=>by
  obtain⟨w,hw⟩:=Ak4 ch V j (i+1);rw[show i+1+j=V.length by omega]at hw;have hk:=Ai8 ch (V.take i);have hcl:=dP (V.getD i 0) hk.1 hk.2;have hAt:At (Ms (So ch V V.length)) (So ch V i).length (Tg (now ch (V.take i)).1 (now ch (V.take i)).2.1 (V.getD i 0)):=by
   intro m hm;rw[EX,hw,So,Agm,Aiz,Aqw hm]
  have hlen:(So ch V i).length+(Tg (now ch (V.take i)).1 (now ch (V.take i)).2.1 (V.getD i 0)).length<= (So ch V V.length).length:=by
   rw[hw,So,Aav,Aav];omega
  have ih:=Ahd ch V N hN j (i+1) (by omega);rw[So,Aav]at ih;generalize Ms (So ch V V.length)=p at*
  generalize(So ch V i).length=a at*
  have hw2:(Tg (now ch (V.take i)).1 (now ch (V.take i)).2.1 (V.getD i 0)).length<=wN N a:=by unfold wN;omega
  have hAt2:At (Rm p a (wN N a)) 0 (Tg (now ch (V.take i)).1 (now ch (V.take i)).2.1 (V.getD i 0)):=by
   intro m hm;rw[Bar,sS,Aah (by omega),hAt m hm]
  have hb:=Aut hk.1 hk.2 hAt2 (by omega:0+_<=wN N a);have hcode:Oa ch p N a (V.take i)=(V.getD i 0,((0+(Tg (now ch (V.take i)).1 (now ch (V.take i)).2.1 (V.getD i 0)).length:Nat):Int),0):=hb;rw[Xa,hcode];simp only;rw[Aab (by decide),Bar,Ahr];have ht:V.take i++[V.getD i 0]=V.take (i+1):=by
   have hg:V.getD i 0=V[i]:=by rw[List.getD_eq_getElem?_getD,List.getElem?_eq_getElem (by omega)];rfl
   rw[hg,Mg (by omega)]
  rw[ht];exact ih
def P64:Nat:=4823603603198064275
def SJ(s:Nat):Nat:=(2*s %18446744073709551616)^^^ (s/9223372036854775808*P64)
theorem dJ{s:Nat}(h:s<18446744073709551616):SJ s<18446744073709551616:=by
 have h1:s/9223372036854775808=0\/s/9223372036854775808=1:=by omega
 exact Beq (n:=64) (Bhd _ (by decide)) (by rcases h1 with e|e<;>rw[e]<;>decide)
theorem Ar8(x y:Nat):(x^^^y)/9223372036854775808=(x/9223372036854775808)^^^ (y/9223372036854775808):=by
 have:=Nat.shiftRight_xor_distrib (a:=x) (b:=y) (i:=63);simpa [Nat.shiftRight_eq_div_pow]using this
theorem Are(x y:Nat):2*(x^^^y) %18446744073709551616=(2*x %18446744073709551616)^^^ (2*y %18446744073709551616):=by
 have h1:=Nat.shiftLeft_xor_distrib (a:=x) (b:=y) (i:=1);have h2:=Nat.xor_mod_two_pow (a:=2*x) (b:=2*y) (n:=64);have e:2*(x^^^y)=(2*x)^^^ (2*y):=by simpa [Nat.shiftLeft_eq,An1]using h1
 rw[e];exact h2
theorem Bdd{a b:Nat}(ha:a=0\/a=1)(hb:b=0\/b=1)(p:Nat):(a^^^b)*p=(a*p)^^^ (b*p):=by
 rcases ha with rfl|rfl<;>rcases hb with rfl|rfl<;>simp
theorem Bj2(a b c d:Nat):(a^^^b)^^^ (c^^^d)=(a^^^c)^^^ (b^^^d):=by
 rw[Bhf,Bhf,<-Bhf b c d,Blo b c,Bhf c b d]
theorem Aox{x y:Nat}(hx:x<18446744073709551616)(hy:y<18446744073709551616):SJ (x^^^y)=SJ x^^^SJ y:=by
 rw[SJ,SJ,SJ,Are,Ar8,Bdd (by omega) (by omega),Bj2]
def Qv:Nat->Nat->Nat
 |0,s=>s
 |k+1,s=>Qv k (SJ s)
theorem wE:∀(k:Nat) {s:Nat},s<18446744073709551616->Qv k s<18446744073709551616
 |0,_,h=>h
 |k+1,_,h=>wE k (dJ h)
theorem Adq:∀(k:Nat) {x y:Nat},x<18446744073709551616->y<18446744073709551616->Qv k (x^^^y)=Qv k x^^^Qv k y
 |0,_,_,_,_=>rfl
 |k+1,x,y,hx,hy=>by rw[Qv,Aox hx hy,Adq k (dJ hx) (dJ hy)];rfl
theorem Abs:∀(k h:Nat),2^k*h<18446744073709551616->Qv k h=2^k*h
 |0,h,_=>by simp[Qv]
 |k+1,h,hl=>by
  have hpos:0<2^k:=Bhx (by omega);rw[Av3,Bhu]at hl;have h2:2*h<18446744073709551616:=Bhe (Nat.le_mul_of_pos_left _ hpos) hl;have:SJ h=2*h:=by rw[SJ,Ab3 h2,show h/9223372036854775808=0 by omega];simp
  rw[Qv,this,Abs k _ hl,Av3,Bhu]
def mV(s c:Nat):Nat:=Qv 8 (s^^^ (c*72057594037927936))
theorem c56{c:Nat}(hc:c<256):c*72057594037927936<18446744073709551616:=by omega
theorem xK{s c:Nat}(h:s<18446744073709551616)(hc:c<256):mV s c<18446744073709551616:=wE 8 (Beq (n:=64) h (c56 hc))
theorem Bb7(s:Nat):s=(s/72057594037927936*72057594037927936)^^^ (s %72057594037927936):=by
 have h1:s %72057594037927936<2^56:=Bhd _ (by decide);have:=Bew h1 (s/72057594037927936);have h2:2^56*(s/72057594037927936)|||s %72057594037927936=(2^56*(s/72057594037927936))^^^ (s %72057594037927936):=by
  apply Nat.eq_of_testBit_eq;intro i;rw[Nat.testBit_or,Nat.testBit_xor];by_cases hi:i<56
  ·have:(2^56*(s/72057594037927936)).testBit i=false:=by rw[Nat.testBit_two_pow_mul];simp;omega
   rw[this];simp
  ·have:(s %72057594037927936).testBit i=false:=Nat.testBit_lt_two_pow (Anx h1 (Ajs (by omega) (by omega)));rw[this];simp
 rw[An1 (s/72057594037927936)]
 show s=(2^56*(s/72057594037927936))^^^ _;rw[<-h2,<-this];have:=Bkh s 72057594037927936
 show s=72057594037927936*_+_;omega
theorem Auo(a c:Nat):(a^^^c)*72057594037927936=(a*72057594037927936)^^^ (c*72057594037927936):=by
 have h1:=Nat.shiftLeft_xor_distrib (a:=a) (b:=c) (i:=56);simpa [Nat.shiftLeft_eq]using h1
theorem Ajc{s c:Nat}(h:s<18446744073709551616)(hc:c<256):mV s c=(256*s %18446744073709551616)^^^Qv 8 (((s/72057594037927936)^^^c)*72057594037927936):=by
 have hs:s/72057594037927936<2^8:=by show _<256;omega
 have hx:(s/72057594037927936)^^^c<256:=Beq (n:=8) hs (by simpa using hc);have hl:s %72057594037927936<72057594037927936:=Bhd _ (by decide);rw[mV]
 conv=>lhs;rw[Bb7 s]
 rw[Blo (s/72057594037927936*72057594037927936),Bhf,<-Auo,Adq 8 (by omega) (c56 hx),Abs 8 _ (by show 256*_<_;omega)];congr 1
 show 256*(s %72057594037927936)=_;omega
def Aa2(s:Nat)(l:List UInt8):Nat:=l.foldl (λs c=>mV s c.toNat) s
theorem Afg{n:Nat}(h:n<18446744073709551616):(UInt64.ofNat n).toNat=n:=by rw[Akl];exact Ab3 h
theorem Bfo(s:UInt64)(bit:Nat)(hb:bit=0\/bit=1):IL s (bit:Int)=some (UInt64.ofNat ((2*s.toNat %18446744073709551616)^^^ (((s.toNat/9223372036854775808)^^^bit)*P64))):=by
 have hs:=s.toNat_lt;have ht:s.toNat/9223372036854775808=0\/s.toNat/9223372036854775808=1:=by omega
 have e1:(Bn s (2:UInt64)).toNat=2*s.toNat %18446744073709551616:=by
  rw[PD,UInt64.toNat_mul];show s.toNat*2 %_=_;rw[An1]
 have hlt:2*s.toNat %18446744073709551616<18446744073709551616:=Bhd _ (by decide);have ey:Zy (Bn s (2:UInt64)) (4823603603198064275:UInt64)=UInt64.ofNat ((2*s.toNat %18446744073709551616)^^^P64):=by
  apply UInt64.toNat_inj.1;rw[Ad0,UInt64.toNat_xor,e1,Afg (Beq (n:=64) hlt (by decide))];rfl
 have en:Bn s (2:UInt64)=UInt64.ofNat (2*s.toNat %18446744073709551616):=by
  apply UInt64.toNat_inj.1;rw[e1,Afg hlt]
 have eg:Om s (9223372036854775808:UInt64)=decide (s.toNat/9223372036854775808=1):=by
  rw[Bau,decide_eq_decide]
  show 9223372036854775808<=s.toNat↔_;omega
 have hp:∀b:Bool,Zt s b=some (if b=true then UInt64.ofNat ((2*s.toNat %18446744073709551616)^^^P64)else UInt64.ofNat (2*s.toNat %18446744073709551616)):=by
  intro b;rw[Zt,QT,ey,en];cases b<;>rfl
 rw[IL,OW,hp,hp,eg];rcases hb with rfl|rfl<;>rcases ht with h|h<;>rw[h]<;>simp[Ar]
theorem yG(c:UInt8):∀(j q:Nat) (s:UInt64),j<=8->j<q->Nd c q s ((2^j/2:Nat):Int)=some (UInt64.ofNat (Qv j (s.toNat^^^ (c.toNat %2^j*2^(64-j)))))
 |0,q+1,s,_,_=>by
  rw[Nd,AF,Aab (by rw[Aq];simp),RB,RA];simp[Qv,Nat.mod_one]
 |j+1,q+1,s,hj,hq=>by
  have hc:=c.toNat_lt;have hs:=s.toNat_lt;have hj2:2^j<=2^7:=Ajs (by omega) (by omega);have hpos:0<2^j:=Bhx (by omega);have e1:2^(j+1)/2=2^j:=by rw[Av3];omega
  have e2:Cv ((2^j:Nat):Int) 2=((2^j/2:Nat):Int):=by
   generalize 2^j=K at*
   rw[SF,Be1 (by omega),Cx (by omega) (by omega)];omega
  have e3:Ic (Cv (Af c:Int) ((2^j:Nat):Int)) (2:Int)=((c.toNat/2^j %2:Nat):Int):=by
   have hX:=As2 c.toNat (2^j);rw[UL,SF,<-Int.ofNat_tdiv];generalize c.toNat/2^j=X at*
   rw[Cx (by omega) (by omega),Ic,Bjk (by omega)];omega
  have hbit:c.toNat/2^j %2=0\/c.toNat/2^j %2=1:=by omega
  rw[Nd,AF,e1,Aah (by rw[Aq,Abv];omega),Bo (by rw[Ak,Bk6];omega),Aa,e3,Bfo s _ hbit,Aa,e2,yG c j q _ (by omega) (by omega)];congr 2;rw[Qv];congr 1;have hx:c.toNat %2^(j+1)*2^(64-(j+1))=(c.toNat/2^j %2)*9223372036854775808+c.toNat %2^j*2^(63-j):=by
   have h63:(9223372036854775808:Nat)=2^j*2^(63-j):=by rw[<-Bk8,show j+(63-j)=63 by omega]
   rw[Nat.mod_pow_succ,h63,show 64-(j+1)=63-j by omega,Av1,Bj7,Bhu,Nat.mul_left_comm]
  have hr:c.toNat %2^j<2^j:=Bhd _ hpos;have Bnf:c.toNat %2^j*2^(63-j)<9223372036854775808:=by
   have h63:(9223372036854775808:Nat)=2^j*2^(63-j):=by rw[<-Bk8,show j+(63-j)=63 by omega]
   rw[h63];exact Nat.mul_lt_mul_of_pos_right hr (Bhx (by omega))
  have h64:c.toNat %2^j*2^(64-j)=2*(c.toNat %2^j*2^(63-j)):=by
   rw[show 64-j=(63-j)+1 by omega,Av3,<-Bhu,An1]
  rw[hx,h64];generalize c.toNat %2^j*2^(63-j)=R at*
  generalize c.toNat/2^j %2=b at*
  have ht:s.toNat/9223372036854775808=0\/s.toNat/9223372036854775808=1:=by omega
  have hp:((s.toNat/9223372036854775808^^^b)*P64)<18446744073709551616:=by
   rcases ht with h|h<;>rcases hbit with h2|h2<;>rw[h,h2]<;>decide
  rw[Afg (Beq (n:=64) (Bhd _ (by decide)) hp),SJ,Are,Ar8,show(b*9223372036854775808+R)/9223372036854775808=b by omega,show 2*(b*9223372036854775808+R) %18446744073709551616=2*R by omega,Bhf,Bhf,Blo (2*R)]
theorem Bgt(c:UInt8)(s:UInt64):YW s c=some (UInt64.ofNat (mV s.toNat c.toNat)):=by
 have h:=yG c 8 Ay s (An0 _) (by have:=Au;omega);have hc:=c.toNat_lt;rw[Ab3 (show c.toNat<2^8 by simpa using hc)]at h;exact h
theorem pW(b:List UInt8)(hb:b.length<4611686018427387904):∀(j i q:Nat) (s:UInt64),i+j=b.length->j<q->Ju b q s (i:Int)=some (UInt64.ofNat (Aa2 s.toNat (b.drop i)))
 |0,i,q+1,s,hi,_=>by
  rw[Ju,Vn,Aab (by rw[Ae,Ac];simp;omega),show i=b.length by omega,Bhb];simp[JA,GZ,Aa2]
 |j+1,i,q+1,s,hi,hq=>by
  have hlt:i<b.length:=by omega
  have hc:=b[i].toNat_lt;rw[Ju,Vn,Aah (by rw[Ae,Ac];simp;omega),Bu hlt,Aa,Bgt,Aa,Aj (by omega) (by omega)];have h:=pW b hb j (i+1) q (UInt64.ofNat (mV s.toNat b[i].toNat)) (by omega) (by omega);rw[show((i:Int)+1)=((i+1:Nat):Int) by omega,h,drop_cons hlt,Afg (xK s.toNat_lt (by simpa using hc))];rfl
def Wv(b:List UInt8):UInt64:=UInt64.ofNat (Aa2 0 b)
theorem Ako(b:List UInt8)(hb:b.length<=100000):CE 0 b=some (Wv b):=
 pW b (by omega) b.length 0 Ay 0 (by omega) (by have:=Au;omega)
theorem Ao6(c:UInt64):Zy (Ea c (GI.toZ (1:UInt64)).toNat) (Bn (4823603603198064275:UInt64) (Ck c (GI.toZ (63:UInt64)).toNat))=UInt64.ofNat (SJ c.toNat):=by
 have hc:=c.toNat_lt;apply UInt64.toNat_inj.1;have h1:(Ea c (GI.toZ (1:UInt64)).toNat).toNat=2*c.toNat %18446744073709551616:=by
  rw[show(GI.toZ (1:UInt64)).toNat=1 from rfl,WO,An1]
 have h2:(Bn (4823603603198064275:UInt64) (Ck c (GI.toZ (63:UInt64)).toNat)).toNat=c.toNat/9223372036854775808*P64:=by
  rw[show(GI.toZ (63:UInt64)).toNat=63 from rfl,PD,UInt64.toNat_mul,GL]
  show 4823603603198064275*(c.toNat/9223372036854775808) %18446744073709551616=_;have h1:c.toNat/9223372036854775808=0\/c.toNat/9223372036854775808=1:=by omega
  rcases h1 with e|e<;>rw[e]<;>decide
 rw[Ad0,UInt64.toNat_xor,h1,h2,Afg (dJ hc)];rfl
theorem zL(Po:Int->List UInt64->Option (UInt64×Int))(s:UInt64)(b:List UInt8)(x:Int)(t:List UInt64):∀(j i q:Nat) (c:UInt64),i+j=8->j<q->
  Uu Po s b x t q c (i:Int)=JJ Po s b x (UInt64.ofNat (Qv j c.toNat)) t
 |0,i,q+1,c,hi,_=>by
  obtain rfl:i=8:=by omega
  rw[Uu,KB,Aab (by rw[Ae];simp),Qv,UInt64.ofNat_toNat]
 |j+1,i,q+1,c,hi,hq=>by
  rw[Uu,KB,Aah (by rw[Ae];simp;omega),Ao6,Aj (by omega) (by omega),show((i:Int)+1)=((i+1:Nat):Int) by omega,zL Po s b x t j (i+1) q _ (by omega) (by omega),Afg (dJ c.toNat_lt)];rfl
def ZG(n:Nat):List UInt64:=(List.range n).map λi=>UInt64.ofNat (Qv 8 (i*72057594037927936))
theorem Ade(s:UInt64)(b:List UInt8):∀(j i q:Nat),i+j=256->j<q->Pv s b q (i:Int) (ZG i++List.replicate j 0)=HZ s b (ZG 256)
 |0,i,q+1,hi,_=>by
  obtain rfl:i=256:=by omega
  rw[Pv,JG,Aab (by rw[Ae];simp)];simp
 |j+1,i,q+1,hi,hq=>by
  have hlen:(ZG i++List.replicate (j+1) 0).length=i+(j+1):=by simp[ZG]
  rw[Pv,JG,Aah (by rw[Ae];simp;omega),WI];have h:=zL (Pv s b q) s b (i:Int) (ZG i++List.replicate (j+1) 0) 8 0 Ay (Ea (Af (i:Int):UInt64) (GI.toZ (56:UInt64)).toNat) (by omega) (by have:=Au;omega);rw[show((0:Int))=((0:Nat):Int)from rfl,h,JJ,VO,Bu (by rw[hlen];omega),Aa,Vv _ (by rw[hlen];omega),Aa,YB,lJ,Aj (by omega) (by omega)];have e:(Ea (Af (i:Int):UInt64) (GI.toZ (56:UInt64)).toNat).toNat=i*72057594037927936:=by
   rw[WO,Xd,Afg (by omega)]
   show i*72057594037927936 %18446744073709551616=_;omega
  rw[e,Beu,gR (by simp[ZG])];have h2:=Ade s b j (i+1) q (by omega) (by omega);have h3:ZG (i+1)=ZG i++[UInt64.ofNat (Qv 8 (i*72057594037927936))]:=by simp[ZG,List.range_succ]
  rw[h3]at h2;rw[show((i:Int)+1)=((i+1:Nat):Int) by omega,<-h2];simp
theorem Au1{i:Nat}(h:i<256):Ap (ZG 256) (i:Int)=some (UInt64.ofNat (Qv 8 (i*72057594037927936))):=by
 rw[Bu (by simpa [ZG]using h)];simp[ZG]
theorem Ami(s:UInt64)(c:UInt8):Ap (ZG 256) (GI.toZ (Zy (Af (Ck s (GI.toZ (56:UInt64)).toNat):UInt8) c))=some (UInt64.ofNat (Qv 8 (((s.toNat/72057594037927936)^^^c.toNat)*72057594037927936))):=by
 have hs:=s.toNat_lt;have e:GI.toZ (Zy (Af (Ck s (GI.toZ (56:UInt64)).toNat):UInt8) c)=(((s.toNat/72057594037927936)^^^c.toNat:Nat):Int):=by
  have e2:((Af (Ck s (GI.toZ (56:UInt64)).toNat):UInt8)).toNat=s.toNat/72057594037927936:=by
   rw[UU,Anz,GL]
   show s.toNat/72057594037927936 %256=_;omega
  rw[EC,Asd,UInt8.toNat_xor,e2]
 rw[e,Au1];exact Beq (n:=8) (by show _<256;omega) (by simpa using c.toNat_lt)
theorem Ai0(s:UInt64)(c:UInt8):Zy (Ea s (GI.toZ (8:UInt64)).toNat) (UInt64.ofNat (Qv 8 (((s.toNat/72057594037927936)^^^c.toNat)*72057594037927936)))=UInt64.ofNat (mV s.toNat c.toNat):=by
 have hs:=s.toNat_lt;have hc:c.toNat<256:=by simpa using c.toNat_lt
 apply UInt64.toNat_inj.1;have hlt:Qv 8 (((s.toNat/72057594037927936)^^^c.toNat)*72057594037927936)<18446744073709551616:=wE 8 (c56 (Beq (n:=8) (by show _<256;omega) (by simpa using c.toNat_lt)));have e:(GI.toZ (8:UInt64)).toNat=8:=rfl;rw[e,Ad0,UInt64.toNat_xor,WO,Afg hlt,Afg (xK hs hc),Ajc hs hc,An1 s.toNat]
theorem yL(b:List UInt8)(s0:UInt64)(hb:b.length<4611686018427387904):∀(j i q:Nat) (s:UInt64),i+j=b.length->j<q->Uq b s0 (ZG 256) q s (i:Int)=some (UInt64.ofNat (Aa2 s.toNat (b.drop i)),0)
 |0,i,q+1,s,hi,_=>by
  rw[Uq,JD,Aab (by rw[Ae,Ac];simp;omega),show i=b.length by omega,Bhb];simp[XC,VH,VN,kM,Aa2]
 |j+1,i,q+1,s,hi,hq=>by
  have hlt:i<b.length:=by omega
  have hc:=b[i].toNat_lt;rw[Uq,JD,Aah (by rw[Ae,Ac];simp;omega),Bu hlt,Aa,Ami,Aa,Aa,Ai0,Aj (by omega) (by omega)];have h:=yL b s0 hb j (i+1) q (UInt64.ofNat (mV s.toNat b[i].toNat)) (by omega) (by omega);rw[show((i:Int)+1)=((i+1:Nat):Int) by omega,h,drop_cons hlt,Afg (xK s.toNat_lt (by simpa using hc))];rfl
theorem Amb(b:List UInt8)(hb:b.length<=100000):eL b=some (Wv b,0):=by
 have h:=Ade 0 b 256 0 Ay (by omega) (by have:=Au;omega);have h2:=yL b 0 (by omega) b.length 0 Ay 0 (by omega) (by have:=Au;omega);have hn:fO 0 b=some (Wv b,0):=by
  rw[fO,aP,Aab (by rw[Aq,Ac];simp;omega),VQ];refine Bg6 h ?_;rw[HZ,XZ,VX];exact h2
 rw[eL,hn,Aa]
theorem oV(p:List UInt8)(hp:p.length<=64):IK p=some (Te (Wv p).toNat 8,0):=by
 rw[IK,vR,Aab (by rw[Aq,Ac];simp;omega),Amb p (by omega),Aa,Aa];simp only;have h:=XQ (Wv p) 8 (by omega) (by omega) (by simpa using(Wv p).toNat_lt);rw[Aab (by rw[Ak];simp)];exact congrArg (λo=>Option.bind o λx:List UInt8×Int=>some (x.1,x.2)) h
theorem oG(p:List UInt8)(hp:p.length<=64):Rl p=some (Te (Wv p).toNat 8):=by
 have h:=Adw (Wv p) 8 (by omega);rw[Rl,aK,Ako p (by omega),Aa,Aa];exact congrArg (λo=>Option.bind o λl=>some l) h
def s8(n:Nat):Int32:=Int32.ofInt (if n<128 then(n:Int)else(n:Int)-256)
def ZQ(d:UInt64)(n:Nat):List Int32:=(List.range n).map λi=>s8 (d.toNat/256^i %256)
theorem dQ(d:UInt64)(n:Nat):(ZQ d n).length=n:=by simp[ZQ]
theorem Aax(d:UInt64)(n:Nat):ZQ d (n+1)=ZQ d n++[s8 (d.toNat/256^n %256)]:=by simp[ZQ,List.range_succ]
theorem bm8(z:Nat):(z:Int).bmod Int8.size=if z %256<128 then((z %256:Nat):Int)else((z %256:Nat):Int)-256:=by
 rw[show Int8.size=256 from rfl,Int.bmod_def];split<;>split<;>omega
theorem Ase(d:UInt64):∀(j i q:Nat),i+j=8->j<q->MM d q (i:Int) (ZQ d i++List.replicate (16-i) 0)=some (ZQ d 8++List.replicate 8 0)
 |0,i,q+1,hi,_=>by
  obtain rfl:i=8:=by omega
  rw[MM,iF,Aab (by rw[Ae];simp)];rfl
 |j+1,i,q+1,hi,hq=>by
  have hlen:(ZQ d i++List.replicate (16-i) 0).length=16:=by simp[dQ];omega
  have ih:=Ase d j (i+1) q (by omega) (by omega);have e8:Bn (8:Int) (i:Int)=((8*i:Nat):Int):=by rw[Hh (by omega) (by omega)];omega
  have ev:(Af (Af (Ck d (GI.toZ (((8*i:Nat):Int))).toNat):Int8):Int32)=s8 (d.toNat/256^i %256):=by
   have e1:(Ck d (GI.toZ (((8*i:Nat):Int))).toNat).toNat=d.toNat/256^i:=by
    rw[show(GI.toZ (((8*i:Nat):Int))).toNat=8*i from rfl,GL,Nat.pow_mul]
   show Int32.ofInt (Int8.ofInt ((Ck d (GI.toZ (((8*i:Nat):Int))).toNat).toNat:Int)).toInt=_;rw[e1,s8,Int8.toInt_ofInt,bm8]
  rw[MM,iF,Aah (by rw[Ae];simp;omega),e8,Bo (by rw[Dq];simp;omega),Aa,ev,Bu (by omega),Aa,Vv _ (by omega),Aa,Aj (by omega) (by omega),show 16-i=(15-i)+1 by omega,Beu,gR (dQ d i)];rw[Aax,show 16-(i+1)=15-i by omega,Agm]at ih;exact ih
theorem Axq(d:UInt64):∀(j i q:Nat) (e:UInt64),i+j=8->j<q->e.toNat=d.toNat/256^i->Ma q e (i:Int) (ZQ d i++List.replicate (16-i) 0)=some (ZQ d 8++List.replicate 8 0)
 |0,i,q+1,e,hi,_,he=>by
  obtain rfl:i=8:=by omega
  rw[Ma,EH,Aab (by rw[Ae];simp)];rfl
 |j+1,i,q+1,e,hi,hq,he=>by
  have hlen:(ZQ d i++List.replicate (16-i) 0).length=16:=by simp[dQ];omega
  have hq2:(Cv e (256:UInt64)).toNat=d.toNat/256^(i+1):=by
   rw[tF,Blb,he,Av3,<-Bia];rfl
  have ih:=Axq d j (i+1) q (Cv e (256:UInt64)) (by omega) (by omega) hq2;have ev:(Af (GJ e (256:UInt64)):Int32)=Int32.ofInt ((d.toNat/256^i %256:Nat):Int):=by
   show Int32.ofInt ((GJ e (256:UInt64)).toNat:Int)=_;rw[Amt,UInt64.toNat_mod,he];rfl
  have hz:d.toNat/256^i %256<256:=Bhd _ (by omega);have et:(Int32.ofInt ((d.toNat/256^i %256:Nat):Int)).toInt=((d.toNat/256^i %256:Nat):Int):=by
   rw[Bjm,Blg (by show -(4294967296/2:Int)<= _;omega) (by show _<(4294967296+1)/2;omega)]
  have hp8:∀x:Int32,x=s8 (d.toNat/256^i %256)->DU (Ma q) e (i:Int) (ZQ d i++List.replicate (16-i) 0) x=some (ZQ d 8++List.replicate 8 0):=by
   intro x hx;rw[DU,WV,hx,Bu (by omega),Aa,Vv _ (by omega),Aa,Aj (by omega) (by omega),show 16-i=(15-i)+1 by omega,Beu,gR (dQ d i)];rw[Aax,show 16-(i+1)=15-i by omega,Agm]at ih;exact ih
  rw[Ma,EH,Aah (by rw[Ae];simp;omega),ev,Apx,et,show(127:Int32).toInt=127 from rfl];by_cases h:d.toNat/256^i %256<128
  ·rw[Aab (by simp only[Abv];omega)];exact hp8 _ (by rw[s8,Aah h])
  ·rw[Aah (by simp only[Abv];omega)];refine hp8 _ ?_;rw[s8,Aab h,WZ,Int32.ofInt_sub];rfl
def Wd(p:List UInt8):List Int32:=ZQ (Wv p) 8++List.replicate 8 0
theorem Qb(p:List UInt8):(Wd p).length=16:=by simp[Wd,dQ]
theorem vU(p:List UInt8)(hp:p.length<=64):Uf p=some (Wd p,0):=by
 have h:=Ase (Wv p) 8 0 Ay (by omega) (by have:=Au;omega);have h2:Ai2 (Wv p)=some (Wd p):=h;rw[Uf,Aab (by rw[Aq,Ac];simp;omega),Amb p (by omega),Aa];simp only;rw[Aab (by rw[Ak];simp),h2,Aa]
theorem dS(p:List UInt8)(hp:p.length<=64):Ys p=some (Wd p,0):=by
 have h:=Axq (Wv p) 8 0 Ay (Wv p) (by omega) (by have:=Au;omega) (by simp);have h2:iZ (Wv p)=some (Wd p):=h;rw[Ys,Aab (by rw[Aq,Ac];simp;omega),eC,ZB,Aab (by rw[Aq,Ac];simp;omega),Ako p (by omega),Aa,Aa,Aa];simp only;rw[h2,Aa]
def u8(z:Int):UInt8:=UInt8.ofNat (z %256).toNat
theorem Aii(z:Int):u8 (z %256)=u8 z:=by rw[u8,u8];congr 2;omega
def wB(bits:Int):Nat:=if bits=8 then 1 else if bits=16 then 2 else 3
theorem Az5{bits:Int}(h:Bt bits):Cv bits 8=(wB bits:Int):=by obtain rfl|rfl|rfl:=h<;>rfl
theorem Agi(bits:Int):1<=wB bits/\wB bits<=3:=by
 unfold wB;split; · omega
 ·split<;>omega
def ND(bits:Int)(x:Int):List UInt8:=if bits=8 then [u8 (x+128)]else if bits=16 then [u8 x,u8 (x/256)]else [u8 x,u8 (x/256),u8 (x/65536)]
theorem Aj6(bits x:Int):(ND bits x).length<=3:=by
 unfold ND;split; · simp
 ·split<;>simp
theorem Ayk(x:Int32)(k:Nat)(hk:k<=32):(Af (Ck x k):UInt8)=u8 (x.toInt.fdiv (2^k)):=by
 have h:=BN x;have e:Ck x k=Int32.ofInt (x.toInt.fdiv (2^k)):=by
  show Int32.ofInt (x.toInt.fdiv (2^min k 32))=_;rw[Bep hk]
 have hb: -2147483648<=x.toInt.fdiv (2^k)/\x.toInt.fdiv (2^k)<2147483648:=by
  have hpos:(0:Int)<2^k:=Int.pow_pos (by omega);rw[Avi _ (by omega)];constructor
  ·refine(Int.le_ediv_iff_mul_le hpos).2 ?_;have:(1:Int)<=2^k:=by omega
   have h2: -2147483648*(2^k:Int)<= -2147483648*1:=Int.mul_le_mul_of_nonpos_left (by omega) this;omega
  ·refine Int.ediv_lt_of_lt_mul hpos ?_;have:(1:Int)<=2^k:=by omega
   have h2:(2147483648:Int)*1<=2147483648*2^k:=Int.mul_le_mul_of_nonneg_left this (by omega);omega
 show UInt8.ofNat ((Ck x k).toInt %256).toNat=_;rw[e,Bjm,Blg (by show -(4294967296/2:Int)<= _;omega) (by show _<(4294967296+1)/2;omega)];rfl
section
variable (bk:Int->List UInt8->Option (List UInt8×Int)) (l:List Int32)
theorem Aal{bits:Int}(h:Bt bits)(c:Int32)(x:Int)(i q:Nat)(acc:List UInt8)(hi:i<wB bits)(ha:acc.length<=100000):
  Ko bk bits l c x (q+1) (i:Int) acc=Ko bk bits l c x q ((i+1:Nat):Int) (acc++[u8 (c.toInt.fdiv (2^(8*i)))]):=by
 have hw:=Agi bits;have e8:Bn (8:Int) (i:Int)=((8*i:Nat):Int):=by rw[Hh (by omega) (by omega)];omega
 rw[Ko,DB,Az5 h,Aah (by rw[Ae];simp;omega),e8,Bo (by rw[Dq];simp;omega),Aa,show(GI.toZ (((8*i:Nat):Int))).toNat=8*i from rfl,Ayk _ _ (by omega),By (by simp;omega),Aa,Aj (by omega) (by omega)];rfl
theorem Apo{bits:Int}(h:Bt bits)(c:Int32)(x:Int)(q:Nat)(acc:List UInt8):Ko bk bits l c x (q+1) ((wB bits:Nat):Int) acc=bk (Ad x 1) acc:=by
 rw[Ko,DB,Az5 h,Aab (by rw[Ae];simp),RV,jK]
theorem Bgb{bits:Int}(h:Bt bits)(c:Int32)(x:Int)(acc:List UInt8)(ha:acc.length<=90000)(hr: -(hB bits)<=c.toInt/\c.toInt<hB bits):
  Nr bk bits l x acc (if bits=8 then Ad c (128:Int32)else c)=bk (Ad x 1) (acc++ND bits c.toInt):=by
 have e:Ay=(Ay-4)+1+1+1+1:=by have:=Au;omega
 have hc:=BN c;rw[Nr,RY,RW,e];have g0:=λ(c:Int32) q acc ha=>Aal bk l h c x 0 q acc (by have:=Agi bits;omega) ha;obtain rfl|rfl|rfl:=h
 ·have hh:hB 8=128:=rfl;rw[hh]at hr;have e1:(Ad c (128:Int32)).toInt=c.toInt+128:=by
   show(Int32.ofInt (c.toInt+(128:Int32).toInt)).toInt=_;rw[show(128:Int32).toInt=128 from rfl,Bjm,Blg (by show -(4294967296/2:Int)<= _;omega) (by show _<(4294967296+1)/2;omega)]
  have g1:=Apo bk l (bits:=8) (.inl rfl) (Ad c (128:Int32)) x (Ay-4+1+1);rw[Aah rfl,show(0:Int)=((0:Nat):Int)from rfl,g0 _ _ _ (by omega)];refine Bg6 (g1 _) ?_;rw[e1,ND,Aah rfl]
  show bk _ (acc++[u8 ((c.toInt+128).fdiv 1)])=_;rw[Int.fdiv_one]
 ·have g1:=λq acc ha=>Aal bk l (bits:=16) (.inr (.inl rfl)) c x 1 q acc (by decide) ha;have g2:=Apo bk l (bits:=16) (.inr (.inl rfl)) c x (Ay-4+1);rw[Aab (by decide),show(0:Int)=((0:Nat):Int)from rfl,g0 _ _ _ (by omega),g1 _ _ (by simp;omega)];refine Bg6 (g2 _) ?_;rw[ND,Aab (by decide),Aah rfl,Agm]
  show bk _ (acc++[u8 (c.toInt.fdiv 1),u8 (c.toInt.fdiv 256)])=_;rw[Int.fdiv_one,Avi _ (by omega)]
 ·have g1:=λq acc ha=>Aal bk l (bits:=24) (.inr (.inr rfl)) c x 1 q acc (by decide) ha;have g2:=λq acc ha=>Aal bk l (bits:=24) (.inr (.inr rfl)) c x 2 q acc (by decide) ha;have g3:=Apo bk l (bits:=24) (.inr (.inr rfl)) c x (Ay-4);rw[Aab (by decide),show(0:Int)=((0:Nat):Int)from rfl,g0 _ _ _ (by omega),g1 _ _ (by simp;omega),g2 _ _ (by simp;omega)];refine Bg6 (g3 _) ?_;rw[ND,Aab (by decide),Aab (by decide),Agm,Agm]
  show bk _ (acc++[u8 (c.toInt.fdiv 1),u8 (c.toInt.fdiv 256),u8 (c.toInt.fdiv 65536)])=_;rw[Int.fdiv_one,Avi _ (by omega),Avi _ (by omega)]
end
def Cy(bits:Int)(l:List Int32):List UInt8:=l.flatMap λx=>ND bits x.toInt
theorem MP(bits:Int):∀l:List Int32,(Cy bits l).length<=3*l.length
 |[]=>by simp[Cy]
 |x::l=>by
  have h1:=MP bits l;have h2:=Aj6 bits x.toInt;simp only[Cy,List.flatMap_cons,Aav,Anu]at*
  omega
def inR(bits:Int)(l:List Int32):Prop:=∀x∈l, -(hB bits)<=x.toInt/\x.toInt<hB bits
theorem Asg{bits:Int}(h:Bt bits)(l:List Int32)(hl:l.length<=4000)(hr:inR bits l):∀(j i q:Nat),i+j=l.length->j<q->Hm bits l q (i:Int) (Cy bits (l.take i))=some (Cy bits l,0)
 |0,i,q+1,hi,_=>by
  rw[Hm,DF,Aab (by rw[Ae,Ac];simp;omega),Ars (by omega)];rfl
 |j+1,i,q+1,hi,hq=>by
  have hlt:i<l.length:=by omega
  have ih:=Asg h l hl hr j (i+1) q (by omega) (by omega);have hlen:=MP bits (l.take i);have hx:=hr l[i] (Am7 _);have h1:=Bgb (Hm bits l q) l h l[i] (i:Int) (Cy bits (l.take i)) (by rw[Ajr]at hlen;omega) hx;rw[Hm,DF,Aah (by rw[Ae,Ac];simp;omega),Bu hlt,Aa];have e:(if(geq bits (8:Int))=true then Nr (Hm bits l q) bits l (i:Int) (Cy bits (l.take i)) (Ad l[i] (128:Int32))else Nr (Hm bits l q) bits l (i:Int) (Cy bits (l.take i)) l[i])=Nr (Hm bits l q) bits l (i:Int) (Cy bits (l.take i)) (if bits=8 then Ad l[i] (128:Int32)else l[i]):=by
   by_cases h8:bits=8
   ·rw[Aah (by rw[Ar];simpa using h8),Aah h8]
   ·rw[Aab (by rw[Ar];simpa using h8),Aab h8]
  rw[e,h1,Aj (by omega) (by omega)];rw[Mg hlt]at ih;have e2:Cy bits (l.take i++[l[i]])=Cy bits (l.take i)++ND bits l[i].toInt:=by unfold Cy;rw[List.flatMap_append,List.flatMap_singleton]
  rw[e2]at ih;exact ih
theorem pH{bits:Int}(h:Bt bits){l:List Int32}(hl:l.length<=4000)(hc:Ax bits l=some 0):inR bits l:=by
 have hh:=RI bits;have key:∀(j i q:Nat),i+j=l.length->j<q->Ba l (hB bits) q (i:Int)=some 0->∀k,i<=k-> (hk:k<l.length)-> -(hB bits)<=l[k].toInt/\l[k].toInt<hB bits:=by
  intro j
  induction j with
  |zero=>intro i q hi hq _ k h1 h2;omega
  |succ j ih=>
   intro i q hi hq hs k h1 h2;obtain⟨q,rfl⟩:∃k,q=k+1:=⟨q-1,by omega⟩;rw[Ba,Cm,Aah (by rw[Ae,Ac];simp;omega),Bu (by omega),Aa,Aa,Fx,Ah2,Cx (by omega) (by omega),Aj (by omega) (by omega),Ae,Dq]at hs;by_cases g1:l[i].toInt<0-hB bits
   ·rw[Aah (by simpa using g1)]at hs;simp at hs
   ·rw[Aab (by simpa using g1)]at hs;by_cases g2:hB bits<=l[i].toInt
    ·rw[Aah (by simpa using g2)]at hs;simp at hs
    ·rw[Aab (by simpa using g2)]at hs;by_cases hk:k=i
     ·subst hk;omega
     ·exact ih (i+1) q (by omega) (by omega) hs k (by omega) h2
 rw[Ax,De,VJ h,Aa,Aab (by rw[Ar];simp;omega),Aab (by rw[Aq,Ac];simp;omega)]at hc;have:=key l.length 0 Ay (by omega) (by have:=Au;omega) hc;intro x hx;obtain⟨k,hk,rfl⟩:=List.getElem_of_mem hx;exact this k (by omega) hk
theorem gD{bits:Int}(h:Bt bits){l:List Int32}(hl:l.length<=4000)(hc:Ax bits l=some 0):Jg bits l=some (Cy bits l,0):=by
 have h1:=Asg h l hl (pH h hl hc) l.length 0 Ay (by omega) (by have:=Au;omega);rw[Jg,WH,gN h l hl,hc,Aa,Aab (by rw[Ak];simp)];exact h1
theorem Bdb{bits:Int}(h:Bt bits)(x:Int32)(hr: -(hB bits)<=x.toInt/\x.toInt<hB bits):NK bits x=some (ND bits x.toInt):=by
 have hx:=BN x;have gu:∀z:Int,(Af z:UInt8)=u8 z:=λz=>rfl;have hq:∀n:Int,0<=n->n<=20000000->Cv n (256:Int)=n/256/\Cv n (65536:Int)=n/65536:=by
  intro n h1 h2;constructor<;>(rw[SF,Be1 h1,Cx (by omega) (by omega)])
 have hm:∀n:Int,0<=n->Ic n (256:Int)=n %256:=λn h1=>by rw[Ic,Bjk h1]
 rw[NK,SW,Fx];obtain rfl|rfl|rfl:=h
 ·rw[Aah (by rw[Ar];rfl),Aj (by omega) (by omega),gu,ND,Aah rfl]
 ·have hh:hB 16=32768:=rfl;rw[hh]at hr;have hp:∀n:Int,0<=n->n<=70000->u8 n=u8 x.toInt->u8 (n/256)=u8 (x.toInt/256)->Of 16 n=some (ND 16 x.toInt):=by
   intro n h1 h2 h3 h4;rw[Of,BS,Aab (by rw[Ar];decide),hm n h1,(hq n h1 (by omega)).1,hm _ (by omega),gu,gu,Aii,Aii,h3,h4,ND,Aab (by decide),Aah rfl]
  rw[Aab (by rw[Ar];decide)];by_cases hn:x.toInt<0
  ·rw[Aah (by rw[Ae];simpa using hn),VJ (.inr (.inl rfl)),Aa,hh,Hh (by omega) (by omega),Aj (by omega) (by omega)];refine hp _ (by omega) (by omega) ?_ ?_
   ·rw[u8,u8];congr 2;omega
   ·rw[u8,u8];congr 2;omega
  ·rw[Aab (by rw[Ae];simpa using hn)];exact hp _ (by omega) (by omega) rfl rfl
 ·have hh:hB 24=8388608:=rfl;rw[hh]at hr;have hp:∀n:Int,0<=n->n<=16777215->u8 n=u8 x.toInt->u8 (n/256)=u8 (x.toInt/256)->u8 (n/65536)=u8 (x.toInt/65536)->Of 24 n=some (ND 24 x.toInt):=by
   intro n h1 h2 h3 h4 h5;rw[Of,BS,Aah (by rw[Ar];rfl),hm n h1,(hq n h1 (by omega)).1,(hq n h1 (by omega)).2,hm _ (by omega),gu,gu,gu,Aii,Aii,h3,h4,h5,By (by simp),Aa,ND,Aab (by decide),Aab (by decide)];rfl
  rw[Aab (by rw[Ar];decide)];by_cases hn:x.toInt<0
  ·rw[Aah (by rw[Ae];simpa using hn),VJ (.inr (.inr rfl)),Aa,hh,Hh (by omega) (by omega),Aj (by omega) (by omega)];refine hp _ (by omega) (by omega) ?_ ?_ ?_
   ·rw[u8,u8];congr 2;omega
   ·rw[u8,u8];congr 2;omega
   ·rw[u8,u8];congr 2;omega
  ·rw[Aab (by rw[Ae];simpa using hn)];exact hp _ (by omega) (by omega) rfl rfl rfl
theorem Arh{bits:Int}(h:Bt bits)(l:List Int32)(hl:l.length<=4000)(hr:inR bits l):∀(j i q:Nat),i+j=l.length->j<q->Lg bits l q (i:Int) (Cy bits (l.take i))=some (Cy bits l,0)
 |0,i,q+1,hi,_=>by
  rw[Lg,Ya,Aab (by rw[Ae,Ac];simp;omega),Ars (by omega)];rfl
 |j+1,i,q+1,hi,hq=>by
  have hlt:i<l.length:=by omega
  have ih:=Arh h l hl hr j (i+1) q (by omega) (by omega);have hlen:=MP bits (l.take i);have hol:=Aj6 bits l[i].toInt;rw[Ajr]at hlen;have e2:Cy bits (l.take i++[l[i]])=Cy bits (l.take i)++ND bits l[i].toInt:=by unfold Cy;rw[List.flatMap_append,List.flatMap_singleton]
  rw[Mg hlt,e2]at ih;rw[Lg,Ya,Aah (by rw[Ae,Ac];simp;omega),Bu hlt,Aa,Bdb h _ (hr l[i] (Am7 _)),Aa,By (by omega),Aa,Aj (by omega) (by omega)];exact ih
theorem UF{bits:Int}(h:Bt bits){l:List Int32}(hl:l.length<=4000)(hc:Ax bits l=some 0):Wl bits l=some (Cy bits l,0):=by
 have h1:=Arh h l hl (pH h hl hc) l.length 0 Ay (by omega) (by have:=Au;omega);rw[Wl,LM,hc,Aa,Aab (by rw[Ak];simp)];exact h1
def bK:List UInt8->Nat->Int×Int
 |[],n=>((n:Int),0)
 |c::r,n=>if 128<=c.toNat then(0,12)else bK r (128*n+c.toNat)
theorem Aqz:∀(l:List UInt8) (n k:Nat),n<128^k->0<= (bK l n).1/\ (bK l n).1<((128^(k+l.length):Nat):Int)
 |[],n,k,h=>by simp[bK];exact_mod_cast h
 |c::r,n,k,h=>by
  rw[bK];split
  ·have:0<128^(k+(c::r).length):=Bhx (by omega);exact⟨Int.le_refl _,by simp only;exact_mod_cast this⟩
  ·have:=Aqz r (128*n+c.toNat) (k+1) (by rw[Av3];omega);rw[Anu,show k+(r.length+1)=k+1+r.length by omega];exact this
theorem or7(n c:Nat)(hn:n<268435456)(hc:c<128):wU (Ea (n:Int) (GI.toZ (7:UInt64)).toNat) (c:Int)=((128*n+c:Nat):Int):=by
 have e:(GI.toZ (7:UInt64)).toNat=7:=rfl;have h1:Ea (n:Int) 7=((2^7*n:Nat):Int):=by
  have:Ea (n:Int) 7=wrap64 ((n:Int)*2^7):=rfl;rw[this,Cx (by omega) (by omega)];omega
 rw[e,h1];have h2:wU ((2^7*n:Nat):Int) (c:Int)=wrap64 ((BitVec.ofInt 64 ((2^7*n:Nat):Int)|||BitVec.ofInt 64 (c:Int)).toNat:Int):=rfl;rw[h2,BitVec.toNat_or,Bh0,Bh0];have h3:(((2^7*n:Nat):Int) %((2^64:Nat):Int)).toNat=2^7*n:=by omega
 have h4:((c:Int) %((2^64:Nat):Int)).toNat=c:=by omega
 rw[h3,h4,<-Bew (by simpa using hc),Cx (by omega) (by omega)]
theorem Arl(b:List UInt8)(hb:b.length=4):∀(j i q n:Nat),i+j=4->j<q->n<128^i->Pj b q (n:Int) (i:Int)=some (bK (b.drop i) n)
 |0,i,q+1,n,hi,_,_=>by
  rw[Pj,AT,Aab (by rw[Ae,Ac];simp;omega),show b.drop i=[] by simp;omega];rfl
 |j+1,i,q+1,n,hi,hq,hn=>by
  have hlt:i<b.length:=by omega
  have hn2:n<268435456:=Anx hn (show 128^i<=128^4 from Ajs (by omega) (by omega));rw[Pj,AT,Aah (by rw[Ae,Ac];simp;omega),Bu hlt,Aa,drop_cons hlt,bK,Ay3];by_cases hc:128<=b[i].toNat
  ·rw[Aah (by simp;omega),Aah hc]
  ·rw[Aab (by simp;omega),Aab hc,UL,or7 n _ hn2 (by omega),Aj (by omega) (by omega)];exact Arl b hb j (i+1) q _ (by omega) (by omega) (by rw[Av3];omega)
theorem Aw4(b:List UInt8)(hb:b.length=4):∀(j i q n:Nat),i+j=4->j<q->n<128^i->Lo b q (n:Int) (i:Int)=some (bK (b.drop i) n)
 |0,i,q+1,n,hi,_,_=>by
  rw[Lo,Xp,Aab (by rw[Ae];simp;omega),show b.drop i=[] by simp;omega];rfl
 |j+1,i,q+1,n,hi,hq,hn=>by
  have hlt:i<b.length:=by omega
  have hn2:n<268435456:=Anx hn (show 128^i<=128^4 from Ajs (by omega) (by omega));rw[Lo,Xp,Aah (by rw[Ae];simp;omega),Bu hlt,Aa,drop_cons hlt,bK,Awb];have h128:(128:UInt8).toNat=128:=rfl;by_cases hc:128<=b[i].toNat
  ·rw[Aah (by simpa using hc),Aah hc]
  ·have h3:=b[i].toNat_lt;rw[Aab (by simpa using hc),Aab hc,Aa,UL,Hh (by omega) (by omega),Aj (by omega) (by omega),Aj (by omega) (by omega)];have:=Aw4 b hb j (i+1) q (128*n+b[i].toNat) (by omega) (by omega) (by rw[Av3];omega);rw[<-this];rfl
theorem Aoo(b:List UInt8)(hb:b.length=4):OC b=some (bK b 0):=by
 have h:=Arl b hb 4 0 Ay 0 (by omega) (by have:=Au;omega) (by simp);rw[OC,NI,Aab (by rw[Ak,Ac];simp;omega),NB];exact h
theorem Ate(b:List UInt8)(hb:b.length=4):EF b=some (bK b 0):=by
 have h:=Aw4 b hb 4 0 Ay 0 (by omega) (by have:=Au;omega) (by simp);rw[EF,ME,Aab (by rw[Ak,Ac];simp;omega),LH];exact h
theorem Apt{b:List UInt8}(hb:b.length=4):0<= (bK b 0).1/\ (bK b 0).1<268435456:=by
 have:=Aqz b 0 0 (by simp);rw[hb]at this;simpa using this
theorem gA(s p:List UInt8):Nv s p=some (decide (p.length<=s.length/\s.take p.length=p)):=by
 rw[Nv];by_cases h:p.length<=s.length
 ·rw[Aah (by rw[Dq,Ac,Ac];simp;omega),show Ac p=(p.length:Int)from rfl,Da (by omega) (by omega),Aa,Ii,Aa,Ahr];congr 1;rw[Amo];simp[h]
 ·rw[Aab (by rw[Dq,Ac,Ac];simp;omega)];simp[h]
def cH(b:List UInt8)(n:Int):Int×Int:=
 if 4000<n then(0,4)else if(b.length:Int)<n then(0,24)else
 if b.getD 5 0=16/\ (b.take n.toNat).drop (n-10).toNat≠ [51,68,73]++part b 3 7 then(0,12)else(n,0)
def yI(b:List UInt8)(r:Int):Int×Int:=cH b (r+10+(if b.getD 5 0=16 then 10 else 0))
def Yy(b:List UInt8):Int×Int:=
 if ¬(3<=b.length/\b.take 3=[73,68,51])then(0,6)else if b.length<10 then(0,24)else
 if(bK (part b 6 4) 0).2≠0\/b.getD 4 0≠0\/ ¬((b.getD 5 0=0/\2<= (b.getD 3 0).toNat/\ (b.getD 3 0).toNat<=4)\/ (b.getD 5 0=16/\b.getD 3 0=4))then(0,12)else
 yI b (bK (part b 6 4) 0).1
theorem sG{b:List UInt8}{i:Nat}(h:i<b.length):Ap b (i:Int)=some (b.getD i 0):=by
 rw[Bu h];simp[List.getD_eq_getElem?_getD,h]
theorem Rs{b:List UInt8}(a w:Nat)(h:a+w<=b.length):Bk b (a:Int) ((a+w:Nat):Int)=some (part b a w):=by
 rw[Ut (by omega) (by omega) (by omega)];rfl
theorem Bcn(b:List UInt8)(r:Int)(h10:10<=b.length)(h0:0<=r)(h1:r<268435456):Zf b r=some (yI b r):=by
 have g5:Ap b (5:Int)=some (b.getD 5 0):=sG (i:=5) (by omega);have key:∀n:Int,10<=n->n<268435500->Zh b n=some (cH b n):=by
  intro n hn hn2;rw[Zh,PF,cH];by_cases c1:4000<n
  ·rw[Aah (by rw[Aq];simpa using c1),Aah c1]
  ·rw[Aab (by rw[Aq];simpa using c1),Aab c1];by_cases c2:(b.length:Int)<n
   ·rw[Aah (by rw[Ae,Ac];simpa using c2),Aah c2]
   ·have e3:Bk b (3:Int) (10:Int)=some (part b 3 7):=Rs 3 7 (by omega);rw[Aab (by rw[Ae,Ac];simpa using c2),Aab c2,g5,Aa];by_cases c3:b.getD 5 0=16
    ·rw[Aah (by rw[fW];simpa using c3),Bp (by omega) (by omega),Ut (by omega) (by omega) (by omega),Aa,e3,Aa,By (by rw[Eo (by omega)];simp),Aa];by_cases c4:(b.take n.toNat).drop (n-10).toNat=[51,68,73]++part b 3 7
     ·rw[Aab (by simpa using c4),Aab (by intro h;exact h.2 c4)]
     ·rw[Aah (by simpa using c4),Aah ⟨c3,c4⟩]
    ·rw[Aab (by rw[fW];simpa using c3),Aab (λh=>c3 h.1)]
 rw[Zf,PO,g5,Aa,yI];by_cases c3:b.getD 5 0=16
 ·rw[Aah (by rw[fW];simpa using c3),Aj (by rw[Aj]<;>omega) (by rw[Aj]<;>omega),Aj (by omega) (by omega),key _ (by omega) (by omega),Aah c3,show 10+r+10=r+10+10 by omega]
 ·rw[Aab (by rw[fW];simpa using c3),Aj (by omega) (by omega),key _ (by omega) (by omega),Aab c3,show 10+r=r+10+0 by omega]
theorem Axl(b:List UInt8)(hb:b.length<4611686018427387904):KJ b=some (Yy b):=by
 rw[KJ,QB,Yy];by_cases h3:3<=b.length
 ·rw[Aab (by rw[Ae,Ac];simp;omega),Da (by omega) (by omega),Aa];by_cases hp:b.take 3=[73,68,51]
  ·rw[Aab (by simpa using hp),Aab (by simp[h3,hp]),OS,PM];by_cases h10:b.length<10
   ·rw[Aah (by rw[Ae,Ac];simp;omega),Aah h10]
   ·have e6:Bk b (6:Int) (10:Int)=some (part b 6 4):=Rs 6 4 (by omega);have g3:Ap b (3:Int)=some (b.getD 3 0):=sG (i:=3) (by omega);have g4:Ap b (4:Int)=some (b.getD 4 0):=sG (i:=4) (by omega);have g5:Ap b (5:Int)=some (b.getD 5 0):=sG (i:=5) (by omega);obtain⟨v1,v2⟩:=Apt (b:=part b 6 4) (Eo (by omega));rw[Aab (by rw[Ae,Ac];simp;omega),Aab h10,e6,Aa,Ate _ (Eo (by omega)),Aa];have ht:=Bcn b (bK (part b 6 4) 0).1 (by omega) v1 v2;generalize bK (part b 6 4) 0=v at*
    obtain⟨v,e⟩:=v;simp only at ht v1 v2⊢;simp only[Aa,g3,g4,g5,ht];generalize b.getD 3 0=x at*
    generalize b.getD 4 0=y at*
    generalize b.getD 5 0=z at*
    simp only[Ap2,Bfe,Ay3,Ak];by_cases he:e=0<;>by_cases hy:y=0<;>by_cases hz:z=0<;>by_cases hz2:z=16<;>by_cases hx:x=4<;>by_cases hx2:x.toNat<2<;>by_cases hx4:4<x.toNat<;>simp_all<;>(rw[Aab (by omega),Aab (by omega)])
  ·rw[Aah (by simpa using hp),Aah (by simp[hp])]
 ·rw[Aah (by rw[Ae,Ac];simp;omega),Aah (by simp[h3])]
theorem Af1(b:List UInt8)(n:Int)(h10:10<=b.length)(hn:10<=n)(hn2:n<268435500):DD b (b.getD 5 0) n=some (cH b n):=by
 rw[DD,jD];by_cases c1:4000<n
 ·rw[Aah (by rw[Aq];simpa using c1),cH,Aah c1]
 ·rw[Aab (by rw[Aq];simpa using c1)];by_cases c2:(b.length:Int)<n
  ·rw[Aah (by rw[Ae,Ac];simpa using c2),cH,Aab c1,Aah c2]
  ·have e3:Bk b (3:Int) (10:Int)=some (part b 3 7):=Rs 3 7 (by omega);rw[Aab (by rw[Ae,Ac];simpa using c2)];by_cases c3:b.getD 5 0=16
   ·have hl:((b.take n.toNat).drop (n-10).toNat).length=10:=by simp;omega
    have ht:cH b n=if(b.take n.toNat).drop (n-10).toNat≠ [51,68,73]++part b 3 7 then(0,12)else(n,0):=by rw[cH,Aab c1,Aab c2];simp only[c3,true_and]
    rw[Aah (by rw[fW];simpa using c3),Bp (by omega) (by omega),Ut (by omega) (by omega) (by omega),Aa,ht];generalize(b.take n.toNat).drop (n-10).toNat=f at*
    rw[Da (by omega) (by omega),Aa,Ca (by omega) (by omega),Aa,e3,Aa,Ii,Aa];have hf:f=f.take 3++f.drop 3:=(Bax 3 f).symm;by_cases c4:f=[51,68,73]++part b 3 7
    ·subst c4;simp
    ·by_cases c5:f.take 3=[51,68,73]
     ·have:f.drop 3≠part b 3 7:=λh=>c4 (by rw[hf,c5,h]);simp only[Bi1,Aqd]at c4;simp[c4,c5,this]
     ·simp only[Bi1,Aqd]at c4;simp[c4,c5]
   ·rw[Aab (by rw[fW];simpa using c3),cH,Aab c1,Aab c2,Aab (λh=>c3 h.1)]
theorem Awd(b:List UInt8)(r:Int)(h10:10<=b.length)(h0:0<=r)(h1:r<268435456):DA b r (b.getD 5 0)=some (yI b r):=by
 rw[DA,RT,yI];by_cases c3:b.getD 5 0=16
 ·rw[Aah (by rw[fW];simpa using c3),Aj (by rw[Aj]<;>omega) (by rw[Aj]<;>omega),Aj (by omega) (by omega),Af1 b _ h10 (by omega) (by omega),Aah c3]
 ·rw[Aab (by rw[fW];simpa using c3),Aj (by omega) (by omega),Af1 b _ h10 (by omega) (by omega),Aab c3];simp
theorem Au5(b:List UInt8)(hb:b.length<4611686018427387904):UC b=some (Yy b):=by
 rw[UC,DN,gA,Aa];by_cases hp:3<=b.length/\b.take 3=[73,68,51]
 ·rw[Aab (by simpa using hp)];by_cases h10:b.length<10
  ·rw[Aah (by rw[Ae,Ac];simp;omega),Yy,Aab (λh=>h hp),Aah h10]
  ·have e6:Bk b (6:Int) (10:Int)=some (part b 6 4):=Rs 6 4 (by omega);have g3:Ap b (3:Int)=some (b.getD 3 0):=sG (i:=3) (by omega);have g4:Ap b (4:Int)=some (b.getD 4 0):=sG (i:=4) (by omega);have g5:Ap b (5:Int)=some (b.getD 5 0):=sG (i:=5) (by omega);obtain⟨v1,v2⟩:=Apt (b:=part b 6 4) (Eo (by omega));have ht:=Awd b (bK (part b 6 4) 0).1 (by omega) v1 v2;rw[Aab (by rw[Ae,Ac];simp;omega),g3,Aa,g5,Aa,SM,RQ,e6,Aa,Aoo _ (Eo (by omega)),Aa,Yy,Aab (λh=>h hp),Aab h10];generalize bK (part b 6 4) 0=v at*
   obtain⟨v,e⟩:=v;simp only at ht v1 v2⊢;simp only[Aa,g4,RZ,RL];generalize b.getD 3 0=x at*
   generalize b.getD 4 0=y at*
   generalize b.getD 5 0=z at*
   simp only[Ap2,Bfg,fW,Awb,Ak];have e2:(2:UInt8).toNat=2:=rfl;have e4:(4:UInt8).toNat=4:=rfl;by_cases he:e=0<;>by_cases hy:y=0<;>by_cases hz:z=0<;>by_cases hz2:z=16<;>by_cases hx:x=4<;>by_cases hx2:2<=x.toNat<;>by_cases hx4:x.toNat<=4<;>simp_all
 ·rw[Aah (by rw[Axk,Bge];exact hp),Yy,Aah hp]
theorem Av8{b:List UInt8}{n:Int}(h:Yy b=(n,0)):10<=n/\n<=b.length/\n<=4000:=by
 unfold Yy at h;split at h; · simp at h
 split at h; · simp at h
 split at h; · simp at h
 rename_i h10 _;obtain⟨v1,v2⟩:=Apt (b:=part b 6 4) (Eo (by omega));unfold yI at h;generalize hm:(bK (part b 6 4) 0).1+10+(if b.getD 5 0=16 then 10 else 0)=m at h;unfold cH at h;split at h; · simp at h
 split at h; · simp at h
 split at h; · simp at h
 simp only[Ajt,Bll]at h;subst h;refine⟨?_,by omega,by omega⟩;rw[<-hm];split<;>omega
def zN:List UInt8:=[65,80,69,84,65,71,69,88]
def Qs(n m fl:Nat):List UInt8:=zN++Te 2000 4++Te (n+32) 4++Te m 4++Te fl 4++List.replicate 8 0
theorem ZF{n:Nat}(h:n<18446744073709551616):(UInt64.ofNat n).toNat=n:=by rw[Akl,Ab3 h]
theorem oX(n m:Int)(fl:UInt64)(c:UInt64)(i q:Nat)(acc:List UInt8)(hi:i<6)(hc:Ap ([(2000:UInt64),(Af (Ad n (32:Int)):UInt64),(Af m:UInt64),fl,(0:UInt64),(0:UInt64)]:List UInt64) (i:Int)=some c)(h:c.toNat<4294967296)(ha:acc.length<=1000000):
  EV n m fl (q+1) (i:Int) acc=EV n m fl q ((i+1:Nat):Int) (acc++Te c.toNat 4):=by
 have hb:=XQ c 4 (by omega) (by omega) (by simpa using h);rw[EV,eV,Aah (by rw[Ae,Ac];simp;omega),hc,Aa,Aa,show((4:Int))=((4:Nat):Int)from rfl,hb,Aa];simp only;rw[By (by rw[Cf];omega),Aa,Aj (by omega) (by omega)];rfl
theorem Aaw(n m:Nat)(fl:UInt64)(hn:n<=3000)(hm:m<=1000)(hf:fl.toNat<4294967296):oS (n:Int) (m:Int) fl=some (Qs n m fl.toNat):=by
 have e1:(Af (Ad (n:Int) (32:Int)):UInt64).toNat=n+32:=by rw[Aj (by omega) (by omega),show(n:Int)+32=((n+32:Nat):Int) by omega,Xd,ZF (by omega)]
 have e2:(Af (m:Int):UInt64).toNat=m:=by rw[Xd,ZF (by omega)]
 have hF:Ay=(Ay-7)+1+1+1+1+1+1+1:=by have:=Au;omega
 rw[oS,rS,rV,hF];rw[show((0:Int))=((0:Nat):Int)from rfl,oX n m fl 2000 0 _ _ (by omega) rfl (by decide) (by simp),oX n m fl _ 1 _ _ (by omega) rfl (by rw[e1];omega) (by simp[Cf]),oX n m fl _ 2 _ _ (by omega) rfl (by rw[e2];omega) (by simp[Cf]),
  oX n m fl fl 3 _ _ (by omega) rfl hf (by simp[Cf]),oX n m fl 0 4 _ _ (by omega) rfl (by decide) (by simp[Cf]),oX n m fl 0 5 _ _ (by omega) rfl (by decide) (by simp[Cf]),e1,e2]
 rw[EV,eV,Aab (by rw[Ae,Ac];simp),rQ,Aet,Qs];have z:Te (0:UInt64).toNat 4++Te (0:UInt64).toNat 4=List.replicate 8 0:=by decide
 have z2:Te (2000:UInt64).toNat 4=Te 2000 4:=rfl;rw[Agm _ (Te (0:UInt64).toNat 4),z,z2];rfl
theorem vG(n m:Nat)(fl:UInt64)(hn:n<=3000)(hm:m<=1000)(hf:fl.toNat<4294967296):Ua (n:Int) (m:Int) fl=some (Qs n m fl.toNat):=by
 have e1:(Af (Ad (n:Int) (32:Int)):UInt64).toNat=n+32:=by rw[Aj (by omega) (by omega),show(n:Int)+32=((n+32:Nat):Int) by omega,Xd,ZF (by omega)]
 have e2:(Af (m:Int):UInt64).toNat=m:=by rw[Xd,ZF (by omega)]
 have w:∀c:UInt64,Fg c 4=some (Te c.toNat 4):=λc=>Adw c 4 (by omega);have z2:Te (2000:UInt64).toNat 4=Te 2000 4:=rfl;rw[Ua];simp only[w,e1,e2,Aa];rw[By (by simp[Cf]),Aa,By (by simp[Cf]),Aa,By (by simp[Cf]),Aa,By (by simp[Cf]),Aa,tD (by omega) (by omega),Aa,By (by simp[Cf]),Aa,z2];rfl
theorem UK{b:List UInt8}{a w k:Nat}(h:a+w<=k):part (b.take k) a w=part b a w:=by rw[part,part,Bjb,Bep h]
def GF(b:List UInt8):Bool:=decide (Fu (part b 12 4)<32\/3032<Fu (part b 12 4)\/1000<Fu (part b 16 4))
theorem Azz(b:List UInt8)(h:20<=b.length):(((Cr (qQ (part b 12 4)) (32:UInt64))||(Ez (qQ (part b 12 4)) (3032:UInt64)))||(Ez (qQ (part b 16 4)) (1000:UInt64)))=GF b:=by
 rw[Aaq,YX,YX,aI (by rw[Eo (by omega)];omega),aI (by rw[Eo (by omega)];omega),GF];show((decide (Fu (part b 12 4)<32)||decide (3032<Fu (part b 12 4)))||decide (1000<Fu (part b 16 4)))=_;simp[Bool.or_assoc]
theorem xB(b:List UInt8)(h:20<=b.length)(hb:GF b=false):Am (Af (qQ (part b 12 4)):Int) (32:Int)=((Fu (part b 12 4)-32:Nat):Int)/\ (Af (qQ (part b 16 4)):Int)=((Fu (part b 16 4):Nat):Int)/\Fu (part b 12 4)-32<=3000/\Fu (part b 16 4)<=1000:=by
 simp only[GF,Bge]at hb;refine⟨?_,OA (by rw[Eo (by omega)];omega),by omega,by omega⟩;rw[OA (by rw[Eo (by omega)];omega),Bp (by omega) (by omega)];omega
theorem fX(b:List UInt8)(fl:UInt64)(h:20<=b.length)(hl:b.length<4611686018427387904)(hf:fl.toNat<4294967296):
  UI b fl=some (if GF b=true then(0,0,false)else(((Fu (part b 12 4)-32:Nat):Int),((Fu (part b 16 4):Nat):Int),b==Qs (Fu (part b 12 4)-32) (Fu (part b 16 4)) fl.toNat)):=by
 have a1:eE b 12 4=some (qQ (part b 12 4),0):=Afq b 12 4 (by omega) (by omega) (by omega) hl;have a2:eE b 16 4=some (qQ (part b 16 4),0):=Afq b 16 4 (by omega) (by omega) (by omega) hl;rw[UI,a1,Aa];simp only;rw[a2,Aa];simp only;rw[Azz b h];cases hb:GF b with
 |true=>rfl
 |false=>
  obtain⟨i1,i2,i3,i4⟩:=xB b h hb;rw[i1,i2,Aaw _ _ _ i3 i4 hf];rfl
theorem Aj9(b:List UInt8)(h:20<=b.length)(hl:b.length<4611686018427387904):
  Ym b=some (if GF b=true then(0,0,false)else(((Fu (part b 12 4)-32:Nat):Int),((Fu (part b 16 4):Nat):Int),true)):=by
 have a1:Bk b 12 16=some (part b 12 4):=Rs 12 4 (by omega);have a2:Bk b 16 20=some (part b 16 4):=Rs 16 4 (by omega);rw[Ym,a1,Aa,Ane _ (by rw[Eo (by omega)];omega),Aa,a2,Aa,Ane _ (by rw[Eo (by omega)];omega),Aa,Azz b h];cases hb:GF b with
 |true=>rfl
 |false=>
  obtain⟨i1,i2,i3,i4⟩:=xB b h hb;rw[i1,i2];rfl
def Kx(b:List UInt8):Int×Int:=
 if ¬(8<=b.length/\b.take 8=zN)then(0,6)else if b.length<32 then(0,24)else
 if GF b=true\/b.take 32≠Qs (Fu (part b 12 4)-32) (Fu (part b 16 4)) 2684354560 then(0,12)else
 if b.length<Fu (part b 12 4)+32 then(0,24)else
 if(b.take (Fu (part b 12 4)+32)).drop (Fu (part b 12 4))≠Qs (Fu (part b 12 4)-32) (Fu (part b 16 4)) 2147483648 then(0,12)else(((Fu (part b 12 4)+32:Nat):Int),0)
theorem All(b:List UInt8):GF (b.take 32)=GF b:=by rw[GF,GF,UK (by omega),UK (by omega)]
section
variable {b:List UInt8}
theorem fa1(h:¬(8<=b.length/\b.take 8=zN)):Kx b=(0,6):=by rw[Kx,Aah h]
theorem fa2(h:8<=b.length/\b.take 8=zN)(h2:b.length<32):Kx b=(0,24):=by rw[Kx,Aab (λh'=>h' h),Aah h2]
variable (h:8<=b.length/\b.take 8=zN) (h2:¬b.length<32)
include h h2
theorem fa3(h3:GF b=true):Kx b=(0,12):=by rw[Kx,Aab (λh'=>h' h),Aab h2,Aah (.inl h3)]
theorem fa4(h4:b.take 32≠Qs (Fu (part b 12 4)-32) (Fu (part b 16 4)) 2684354560):Kx b=(0,12):=by rw[Kx,Aab (λh'=>h' h),Aab h2,Aah (.inr h4)]
variable (h3:GF b=false) (h4:b.take 32=Qs (Fu (part b 12 4)-32) (Fu (part b 16 4)) 2684354560)
include h3 h4
theorem fa5(h5:b.length<Fu (part b 12 4)+32):Kx b=(0,24):=by
 rw[Kx,Aab (λh'=>h' h),Aab h2,Aab (λh'=>h'.elim (λe=>by rw[h3]at e;cases e) λe=>e h4),Aah h5]
theorem fa6(h5:¬b.length<Fu (part b 12 4)+32)(h6:(b.take (Fu (part b 12 4)+32)).drop (Fu (part b 12 4))≠Qs (Fu (part b 12 4)-32) (Fu (part b 16 4)) 2147483648):Kx b=(0,12):=by
 rw[Kx,Aab (λh'=>h' h),Aab h2,Aab (λh'=>h'.elim (λe=>by rw[h3]at e;cases e) λe=>e h4),Aab h5,Aah h6]
theorem fa7(h5:¬b.length<Fu (part b 12 4)+32)(h6:(b.take (Fu (part b 12 4)+32)).drop (Fu (part b 12 4))=Qs (Fu (part b 12 4)-32) (Fu (part b 16 4)) 2147483648):Kx b=(((Fu (part b 12 4)+32:Nat):Int),0):=by
 rw[Kx,Aab (λh'=>h' h),Aab h2,Aab (λh'=>h'.elim (λe=>by rw[h3]at e;cases e) λe=>e h4),Aab h5,Aab (λh'=>h' h6)]
end
theorem Apn(b:List UInt8)(hl:b.length<4611686018427387904):oW b=some (Kx b):=by
 rw[oW,gA,Aa];by_cases hp:8<=b.length/\b.take 8=zN
 ·rw[Aab (by simpa [zN]using hp)];by_cases h32:b.length<32
  ·rw[Aah (by rw[Ae,Ac];simp;omega),fa2 hp h32]
  ·have t:=fX (b.take 32) 2684354560 (by simp;omega) (by simp;omega) (by decide);rw[All,UK (by omega),UK (by omega)]at t;rw[Aab (by rw[Ae,Ac];simp;omega),Da (by omega) (by omega),Aa,show(32:Int).toNat=32 from rfl,t,Aa];cases hb:GF b with
   |true=>rw[fa3 hp h32 hb];simp
   |false=>
    obtain⟨i1,i2,i3,i4⟩:=xB b (by omega) hb;have i5:32<=Fu (part b 12 4):=by simp only[GF,Bge]at hb;omega
    simp only[Aoz,Bhy,false_or];by_cases c1:b.take 32=Qs (Fu (part b 12 4)-32) (Fu (part b 16 4)) 2684354560
    ·have c1':b.take 32=Qs (Fu (part b 12 4)-32) (Fu (part b 16 4)) (2684354560:UInt64).toNat:=c1;rw[Aab (by simpa using c1'),Aj (by omega) (by omega)];have e1:((Fu (part b 12 4)-32:Nat):Int)+64=((Fu (part b 12 4)+32:Nat):Int):=by omega
     rw[e1];by_cases c2:b.length<Fu (part b 12 4)+32
     ·rw[Aah (by rw[Ae,Ac];simp;omega),fa5 hp h32 hb c1 c2]
     ·rw[Aab (by rw[Ae,Ac];simp;omega),Bp (by omega) (by omega),Ut (by omega) (by omega) (by omega),Aa,Aaw _ _ _ i3 i4 (by decide),Aa,Ii,Aa];rw[show(((Fu (part b 12 4)+32:Nat):Int)).toNat=Fu (part b 12 4)+32 by omega,show(((Fu (part b 12 4)+32:Nat):Int)-32).toNat=Fu (part b 12 4) by omega];by_cases c3:(b.take (Fu (part b 12 4)+32)).drop (Fu (part b 12 4))=Qs (Fu (part b 12 4)-32) (Fu (part b 16 4)) 2147483648
      ·have c3':(b.take (Fu (part b 12 4)+32)).drop (Fu (part b 12 4))=Qs (Fu (part b 12 4)-32) (Fu (part b 16 4)) (2147483648:UInt64).toNat:=c3;rw[Aab (by simpa using c3'),fa7 hp h32 hb c1 c2 c3]
      ·have c3':¬(b.take (Fu (part b 12 4)+32)).drop (Fu (part b 12 4))=Qs (Fu (part b 12 4)-32) (Fu (part b 16 4)) (2147483648:UInt64).toNat:=c3;rw[Aah (by simpa using c3'),fa6 hp h32 hb c1 c2 c3]
    ·have c1':¬b.take 32=Qs (Fu (part b 12 4)-32) (Fu (part b 16 4)) (2684354560:UInt64).toNat:=c1;rw[Aah (by simpa using c1'),fa4 hp h32 c1]
 ·rw[Aah (by rw[Axk,Bge];exact hp),fa1 hp]
theorem Ata(b:List UInt8)(hl:b.length<4611686018427387904):EI b=some (Kx b):=by
 rw[EI,MC];by_cases h8:8<=b.length
 ·rw[Aab (by rw[Ae,Ac];simp;omega),Da (by omega) (by omega),Aa,show(8:Int).toNat=8 from rfl];by_cases ha:b.take 8=zN
  ·have hp:=And.intro h8 ha;rw[Aab (by simpa [zN]using ha),KV,MH];by_cases h32:b.length<32
   ·rw[Aah (by rw[Ae,Ac];simp;omega),fa2 hp h32]
   ·have t:=Aj9 (b.take 32) (by simp;omega) (by simp;omega);rw[All,UK (by omega),UK (by omega)]at t;rw[Aab (by rw[Ae,Ac];simp;omega),Da (by omega) (by omega),Aa,show(32:Int).toNat=32 from rfl,t,Aa];cases hb:GF b with
    |true=>rw[fa3 hp h32 hb];simp
    |false=>
     obtain⟨i1,i2,i3,i4⟩:=xB b (by omega) hb;have i5:32<=Fu (part b 12 4):=by simp only[GF,Bge]at hb;omega
     simp only[Aoz,Bhy,false_or,Aa,Bkt];rw[Yl,vG _ _ _ i3 i4 (by decide),Aa,Aa];by_cases c1:b.take 32=Qs (Fu (part b 12 4)-32) (Fu (part b 16 4)) 2684354560
     ·have c1':b.take 32=Qs (Fu (part b 12 4)-32) (Fu (part b 16 4)) (2684354560:UInt64).toNat:=c1;rw[Aab (by simpa using c1'),KX,MI,Aj (by omega) (by omega)];have e1:64+((Fu (part b 12 4)-32:Nat):Int)=((Fu (part b 12 4)+32:Nat):Int):=by omega
      rw[e1];by_cases c2:b.length<Fu (part b 12 4)+32
      ·rw[Aah (by rw[Ae,Ac];simp;omega),fa5 hp h32 hb c1 c2]
      ·rw[Aab (by rw[Ae,Ac];simp;omega),Bp (by omega) (by omega),Ut (by omega) (by omega) (by omega),Aa,Nm,Aah rfl,vG _ _ _ i3 i4 (by decide),Aa,Aa];rw[show(((Fu (part b 12 4)+32:Nat):Int)).toNat=Fu (part b 12 4)+32 by omega,show(((Fu (part b 12 4)+32:Nat):Int)-32).toNat=Fu (part b 12 4) by omega];by_cases c3:(b.take (Fu (part b 12 4)+32)).drop (Fu (part b 12 4))=Qs (Fu (part b 12 4)-32) (Fu (part b 16 4)) 2147483648
       ·have c3':(b.take (Fu (part b 12 4)+32)).drop (Fu (part b 12 4))=Qs (Fu (part b 12 4)-32) (Fu (part b 16 4)) (2147483648:UInt64).toNat:=c3;rw[Aab (by simpa using c3'),fa7 hp h32 hb c1 c2 c3]
       ·have c3':¬(b.take (Fu (part b 12 4)+32)).drop (Fu (part b 12 4))=Qs (Fu (part b 12 4)-32) (Fu (part b 16 4)) (2147483648:UInt64).toNat:=c3;rw[Aah (by simpa using c3'),fa6 hp h32 hb c1 c2 c3]
     ·have c1':¬b.take 32=Qs (Fu (part b 12 4)-32) (Fu (part b 16 4)) (2684354560:UInt64).toNat:=c1;rw[Aah (by simpa using c1'),fa4 hp h32 c1]
  ·rw[Aah (by simpa [zN]using ha),fa1 (λh=>ha h.2)]
 ·rw[Aah (by rw[Ae,Ac];simp;omega),fa1 (λh=>h8 h.1)]
theorem Atk{b:List UInt8}{n:Int}(h:Kx b=(n,0)):64<=n/\n<=b.length:=by
 unfold Kx at h;split at h; · simp at h
 split at h; · simp at h
 split at h; · simp at h
 rename_i hb;split at h; · simp at h
 split at h; · simp at h
 simp only[Ajt,Bll]at h;have hb':¬GF b=true:=λe=>hb (.inl e);simp only[GF,Abv]at hb';omega
def Ct(b:List UInt8):Int×Int:=if(Yy b).2≠6 then Yy b else Kx b
theorem size_eq(b:List UInt8)(hl:b.length<4611686018427387904):AG b=some (Ct b):=by
 rw[AG,Au5 b hl,Aa,Apn b hl];by_cases h:(Yy b).2=6
 ·simp[Ct,h,Ak]
 ·simp[Ct,h,Ak]
theorem mX{b:List UInt8}{n:Int}(h:Ct b=(n,0)):10<=n/\n<=b.length:=by
 unfold Ct at h;split at h
 ·have:=Av8 h;omega
 ·have:=Atk h;omega
def Ch(b:List UInt8):Nat->Nat->List Int×Int
 |0,_=>([],6)
 |j+1,p=>if(Ct (b.drop p)).2=6 then([],0)else if(Ct (b.drop p)).2≠0 then([],(Ct (b.drop p)).2)else
  if 4000<(p:Int)+(Ct (b.drop p)).1 then([],4)else
  if(Ch b j (p+(Ct (b.drop p)).1.toNat)).2=0 then((Ct (b.drop p)).1::(Ch b j (p+(Ct (b.drop p)).1.toNat)).1,0)else([],(Ch b j (p+(Ct (b.drop p)).1.toNat)).2)
theorem oU(b:List UInt8):∀(j p:Nat),p<=b.length->p<=4000-> (Ch b j p).2=0-> (∀x∈(Ch b j p).1,10<=x)/\ (p:Int)+(Ch b j p).1.sum<=b.length/\ (p:Int)+(Ch b j p).1.sum<=4000
 |0,p,_,_,h=>by simp[Ch]at h
 |j+1,p,hp,hq,h=>by
  rw[Ch]at h⊢;split at h
  ·rename_i h6;rw[Aah h6];simp;omega
  ·rename_i h6;split at h
   ·rename_i h0;exact absurd h h0
   ·rename_i h0;rw[Aab h6,Aab h0];have hz:Ct (b.drop p)=((Ct (b.drop p)).1,0):=by rw[Prod.ext_iff];exact⟨rfl,Classical.not_not.1 h0⟩
    have hs:=mX hz;rw[Akm]at hs;split at h
    ·simp at h
    ·rename_i h4;rw[Aab h4];split at h
     ·rename_i h00;rw[Aah h00];obtain⟨i1,i2,i3⟩:=oU b j _ (by omega) (by omega) h00;refine⟨λx hx=>?_,?_,?_⟩
      ·rcases List.mem_cons.1 hx with rfl|hx
       ·exact hs.1
       ·exact i1 x hx
      ·simp only[Av4];omega
      ·simp only[Av4];omega
     ·rename_i h00;exact absurd h h00
def Adl(b:List UInt8)(j p:Nat):Int×Int:=if(Ch b j p).2=0 then((p:Int)+(Ch b j p).1.sum,0)else(0,(Ch b j p).2)
theorem Ab2(b:List UInt8)(hl:b.length<4611686018427387904):∀(j p q:Nat),p<=b.length->p<=4000->b.length-p<j->j<=q->Xf b q (p:Int)=some (Adl b j p)
 |0,p,q,_,_,h,_=>by omega
 |j+1,p,q,hp,hp4,hj,hq=>by
  obtain⟨q,rfl⟩:∃k,q=k+1:=⟨q-1,by omega⟩;rw[Xf,Ca (by omega) (by omega),Aa,Ahr,size_eq _ (by simp;omega),Aa,Ar,Ar,Ak,Adl];by_cases h6:(Ct (b.drop p)).2=6
  ·rw[Aah (by simpa using h6)];have:Ch b (j+1) p=([],0):=by rw[Ch,Aah h6]
   rw[this];simp
  ·rw[Aab (by simpa using h6)];by_cases h0:(Ct (b.drop p)).2=0
   ·have hz:Ct (b.drop p)=((Ct (b.drop p)).1,0):=by rw[Prod.ext_iff];exact⟨rfl,h0⟩
    have hs:=mX hz;rw[Akm]at hs;rw[Aj (by omega) (by omega),Aq];by_cases h4:4000<(p:Int)+(Ct (b.drop p)).1
    ·rw[Aah (by simp[h0];omega)];have:Ch b (j+1) p=([],4):=by rw[Ch,Aab h6,Aab (λh=>h h0),Aah h4]
     rw[this];simp
    ·rw[Aab (by simp[h0];omega),Aab (by simpa using h0)];have ih:=Ab2 b hl j (p+(Ct (b.drop p)).1.toNat) q (by omega) (by omega) (by omega) (by omega);rw[show(p:Int)+(Ct (b.drop p)).1=((p+(Ct (b.drop p)).1.toNat:Nat):Int) by omega,ih,Adl];have:Ch b (j+1) p=if(Ch b j (p+(Ct (b.drop p)).1.toNat)).2=0 then((Ct (b.drop p)).1::(Ch b j (p+(Ct (b.drop p)).1.toNat)).1,0)else([],(Ch b j (p+(Ct (b.drop p)).1.toNat)).2):=by
      rw[Ch,Aab h6,Aab (λh=>h h0),Aab h4]
     rw[this];by_cases hr:(Ch b j (p+(Ct (b.drop p)).1.toNat)).2=0
     ·simp only[hr,Blp,Av4];congr 2;omega
     ·simp only[hr,Bhy]
   ·rw[Aab (by simp[h0]),Aah (by simpa using h0)];have:Ch b (j+1) p=([],(Ct (b.drop p)).2):=by rw[Ch,Aab h6,Aah h0]
    rw[this];simp[h0]
def Awu(b:List UInt8)(j p:Nat)(xs:List Int):List Int×Int:=if(Ch b j p).2=0 then(xs++(Ch b j p).1,0)else([],(Ch b j p).2)
theorem Ayj(bk:Int->List Int->Option (List Int×Int))(b:List UInt8)(p:Nat)(hp:p<=b.length)(xs:List Int)(hx:xs.length<=4000)(hl:b.length<4611686018427387904):Yi (Qi bk b) b (p:Int) xs=Qi bk b (p:Int) xs (Ct (b.drop p)).1 (Ct (b.drop p)).2:=by
 have hf:=Ata (b.drop p) (by simp;omega);rw[Yi,Ca (by omega) (by omega),Aa,Ahr,Axl _ (by simp;omega),Aa];by_cases h:(Yy (b.drop p)).2=6
 ·simp[Ct,h,Ar,hf]
 ·simp[Ct,h,Ar]
theorem Agj(b:List UInt8)(hl:b.length<4611686018427387904):∀(j p q:Nat) (xs:List Int),p<=b.length->p<=4000->b.length-p<j->j<=q->xs.length<=p->Qq b q (p:Int) xs=some (Awu b j p xs)
 |0,p,q,_,_,_,h,_,_=>by omega
 |j+1,p,q,xs,hp,hp4,hj,hq,hx=>by
  obtain⟨q,rfl⟩:∃k,q=k+1:=⟨q-1,by omega⟩;rw[Qq,Ayj _ b p hp xs (by omega) hl,Qi,LD,Ar,Ak,Awu];by_cases h6:(Ct (b.drop p)).2=6
  ·rw[Aah (by simpa using h6)];have:Ch b (j+1) p=([],0):=by rw[Ch,Aah h6]
   rw[this];simp
  ·rw[Aab (by simpa using h6)];by_cases h0:(Ct (b.drop p)).2=0
   ·have hz:Ct (b.drop p)=((Ct (b.drop p)).1,0):=by rw[Prod.ext_iff];exact⟨rfl,h0⟩
    have hs:=mX hz;rw[Akm]at hs;rw[Aab (by simpa using h0),Aj (by omega) (by omega),Aq];by_cases h4:4000<(p:Int)+(Ct (b.drop p)).1
    ·rw[Aah (by simp;omega)];have:Ch b (j+1) p=([],4):=by rw[Ch,Aab h6,Aab (λh=>h h0),Aah h4]
     rw[this];simp
    ·rw[Aab (by simp;omega),By (by simp;omega),Aa];have ih:=Agj b hl j (p+(Ct (b.drop p)).1.toNat) q (xs++[(Ct (b.drop p)).1]) (by omega) (by omega) (by omega) (by omega) (by simp;omega);rw[show(p:Int)+(Ct (b.drop p)).1=((p+(Ct (b.drop p)).1.toNat:Nat):Int) by omega,ih,Awu];have:Ch b (j+1) p=if(Ch b j (p+(Ct (b.drop p)).1.toNat)).2=0 then((Ct (b.drop p)).1::(Ch b j (p+(Ct (b.drop p)).1.toNat)).1,0)else([],(Ch b j (p+(Ct (b.drop p)).1.toNat)).2):=by
      rw[Ch,Aab h6,Aab (λh=>h h0),Aab h4]
     rw[this];by_cases hr:(Ch b j (p+(Ct (b.drop p)).1.toNat)).2=0
     ·simp only[hr,Blp];simp
     ·simp only[hr,Bhy]
   ·rw[Aah (by simpa using h0)];have:Ch b (j+1) p=([],(Ct (b.drop p)).2):=by rw[Ch,Aab h6,Aah h0]
    rw[this];simp[h0]
theorem Aaf:∀{l:List Int},(∀x∈l,10<=x)->0<=l.sum/\ (l.length:Int)<=l.sum
 |[],_=>by simp
 |x::l,h=>by
  have h1:=h x Avz;have h2:=Aaf (l:=l) λy hy=>h y (Anw _ hy);simp only[Av4,Anu];omega
theorem Ae6(r:Int)(l:List Int)(hl:l.length<=4000)(hx:∀x∈l,10<=x):∀(j i q:Nat) (n:Int),i+j=l.length->j<q->0<=n->n+(l.drop i).sum<=4000->Lj r l q n (i:Int)=some (n+(l.drop i).sum,r)
 |0,i,q+1,n,hi,_,_,_=>by
  rw[Lj,Yc,Aab (by rw[Ae,Ac];simp;omega),show i=l.length by omega,Bhb];simp[LR,MJ]
 |j+1,i,q+1,n,hi,hq,hn,hs=>by
  have hlt:i<l.length:=by omega
  rw[drop_cons hlt,Av4]at hs⊢;have h1:=hx l[i] (Am7 hlt);have h2:=Aaf (l:=l.drop (i+1)) λy hy=>hx y (Bjg hy);rw[Lj,Yc,Aah (by rw[Ae,Ac];simp;omega),Bu hlt,Aa,Aa,Aj (by omega) (by omega),Aj (by omega) (by omega)];have ih:=Ae6 r l hl hx j (i+1) q (n+l[i]) (by omega) (by omega) (by omega) (by omega);rw[show((i:Int)+1)=((i+1:Nat):Int) by omega,ih];congr 2;omega
def Az(b:List UInt8):Int×Int:=Adl b (b.length+1) 0
theorem Qf(b:List UInt8)(hl:b.length<4611686018427387904):Jm b=some (Az b):=by
 have:=Ab2 b hl (b.length+1) 0 Ay (by omega) (by omega) (by omega) (by have:=Au;omega);exact this
theorem Vp(b:List UInt8)(hl:b.length<4611686018427387904):Mo b=some (Az b):=by
 have h:=Agj b hl (b.length+1) 0 Ay [] (by omega) (by omega) (by omega) (by have:=Au;omega) (by simp);have h':YL b=some (Awu b (b.length+1) 0 []):=h;rw[Mo,LA,h',Aa,Az,Adl,Awu];have ho:=oU b (b.length+1) 0 (by omega) (by omega);by_cases h0:(Ch b (b.length+1) 0).2=0
 ·obtain⟨i1,i2,i3⟩:=ho h0;have hp:=Aaf i1;simp only[h0,Blp,Aqd];have:=Ae6 0 (Ch b (b.length+1) 0).1 (by omega) i1 (Ch b (b.length+1) 0).1.length 0 Ay 0 (by omega) (by have:=Au;omega) (by omega) (by simpa using i3);simpa [Xt]using this
 ·simp only[h0,Bhy];have:=Ae6 (Ch b (b.length+1) 0).2 [] (by simp) (by simp) 0 0 Ay 0 (by simp) (by have:=Au;omega) (by omega) (by simp);simpa [Xt]using this
theorem Xh{b:List UInt8}(h:(Az b).2=0):0<= (Az b).1/\ (Az b).1<=b.length/\ (Az b).1<=4000:=by
 unfold Az Adl at h⊢;split at h
 ·rename_i h0;rw[Aah h0];obtain⟨i1,i2,i3⟩:=oU b (b.length+1) 0 (by omega) (by omega) h0;have hp:=Aaf i1;exact⟨by simp;omega,i2,i3⟩
 ·rename_i h0;exact absurd h h0
def Ao(r:Nat):Nat:=max 1 (256*r/245)
theorem Fh(r:Nat):1<=Ao r:=Nat.le_max_left _ _
theorem Ad4{r:Nat}(h:r<=1048576):Ao r<=1100000:=by unfold Ao;omega
theorem Acy{r:Nat}(h:r<=1048576):pP (1:Int) (Cv (Bn (256:Int) (r:Int)) (245:Int))=(Ao r:Int):=by
 rw[Hh (by omega) (by omega),SF,Be1 (by omega),Cx (by omega) (by omega),Ais,Ao];omega
def Ah(g n:Nat):List Int:=List.replicate ((n-1)/g) (g:Int)++[((n-(n-1)/g*g:Nat):Int)]
theorem AB(g n:Nat):(Ah g n).length=(n-1)/g+1:=by simp[Ah]
theorem qN{g n:Nat}(h:n<=g)(h1:1<=n):Ah g n=[(n:Int)]:=by
 rw[Ah,Bha (by omega)];simp
theorem yZ{g n:Nat}(hg:1<=g)(h:g<n):Ah g n=(g:Int)::Ah g (n-g):=by
 have e:(n-1)/g=(n-g-1)/g+1:=by rw[<-Nat.add_div_right _ (by omega)];congr 1;omega
 rw[Ah,Ah,e,Beu,Bi1];congr 4;have:=Bgf (n-g-1) g;rw[Av1,Nat.one_mul];omega
theorem tQ{g n:Nat}(hg:1<=g)(h1:1<=n):(n+g-1)/g=(n-1)/g+1:=by
 rw[<-Nat.add_div_right _ (by omega)];congr 1;omega
theorem Afs{r:Nat}(h1:1<=r)(h:r<=1048576):Vw (r:Int)=some ((Ao r:Int),0):=by
 rw[Vw,Aab (by simp[Ae,Aq];omega),Acy h]
theorem Azw{r:Nat}(h:r<=1048576):Ri (r:Int)=some (Ao r:Int):=by rw[Ri,Acy h]
theorem iP{r n:Nat}(h1:1<=r)(h:r<=1048576)(n1:1<=n)(n2:n<=4000):Jp (r:Int) (n:Int)=some (if 1000<(n-1)/Ao r+1 then(0,4)else((((n-1)/Ao r+1:Nat):Int),0)):=by
 have hp:=Fh r;have hl:=Ad4 h;have e:Cv (Am (Ad (n:Int) (Ao r:Int)) (1:Int)) (Ao r:Int)=(((n-1)/Ao r+1:Nat):Int):=by
  have:(n+Ao r-1)/Ao r<=n+Ao r-1:=As2 _ _;rw[Aj (by omega) (by omega),Bp (by omega) (by omega),SF,Be1 (by omega),show(n:Int)+(Ao r:Int)-1=((n+Ao r-1:Nat):Int) by omega,<-Int.natCast_ediv,tQ hp n1];rw[tQ hp n1]at this;generalize(n-1)/Ao r=k at*
  exact Cx (by omega) (by omega)
 rw[Jp,Afs h1 h,Aa];simp only;rw[Aab (by rw[Ak];simp),Aab (by simp[Ae,Aq];omega),Bo (by rw[Ak];simp;omega),Aa,e];by_cases hk:1000<(n-1)/Ao r+1
 ·rw[Aah (by rw[Aq];simp;omega),Aah hk]
 ·rw[Aab (by rw[Aq];simp;omega),Aab hk]
theorem Abp{r:Nat}(h:r<=1048576):∀(j n q:Nat) (acc:List Int),n<=4000->n<=j->j<q->acc.length+n<=10000->Ep (r:Int) q (n:Int) acc=some (acc++(if n=0 then []else Ah (Ao r) n))
 |0,n,q+1,acc,hn,hj,hq,ha=>by
  obtain rfl:n=0:=by omega
  rw[Ep,Ik,Aab (by rw[Aq];simp)];simp[Lq,Qp]
 |j+1,n,q+1,acc,hn,hj,hq,ha=>by
  have hp:=Fh r;have hl:=Ad4 h;by_cases h0:n=0
  ·subst h0;rw[Ep,Ik,Aab (by rw[Aq];simp)];simp[Lq,Qp]
  ·rw[Ep,Ik,Aah (by rw[Aq];simp;omega),Azw h,Aa,By (by simp;omega),Aa,Aa,Bp (by omega) (by omega),NP];by_cases hs:n<=Ao r
   ·rw[show min (n:Int) (Ao r:Int)=(n:Int) by omega,Aab h0,qN hs (by omega)];have hz:∃k,q=k+1:=⟨q-1,by omega⟩;obtain⟨q,rfl⟩:=hz;rw[Ep,Ik,Aab (by rw[Aq];simp;omega)];simp[Lq,Qp]
   ·rw[show min (n:Int) (Ao r:Int)=(Ao r:Int) by omega,show(n:Int)-(Ao r:Int)=((n-Ao r:Nat):Int) by omega,Abp h j (n-Ao r) q _ (by omega) (by omega) (by omega) (by simp;omega),Aab (by omega),Aab h0,yZ hp (show Ao r<n by omega)];simp
theorem XV{r n:Nat}(h:r<=1048576)(n1:1<=n)(n2:n<=4000):Ei (r:Int) (n:Int)=some (Ah (Ao r) n):=by
 have:=Abp h n n Ay [] n2 (An0 _) (by have:=Au;omega) (by simp;omega);rw[Ei,Xu,Ye,this,Aab (by omega)];rfl
theorem mul_one(m:Nat)(h:m<=100000):OJ (1:UInt64) (UInt64.ofNat m)=some (0,UInt64.ofNat m):=by
 have y1:(UInt64.ofNat m).toNat=m:=ZF (by omega);have s1:Ck (1:UInt64) (GI.toZ (32:UInt64)).toNat=0:=by decide
 have s2:Ck (UInt64.ofNat m) (GI.toZ (32:UInt64)).toNat=0:=by
  apply UInt64.toNat_inj.1;rw[GL,y1];exact Bha (Bhe h (by decide))
 have s0:Ck (0:UInt64) (GI.toZ (32:UInt64)).toNat=0:=by decide
 have a1:Ev (1:UInt64) (4294967295:UInt64)=1:=by decide
 have a0:Ev (0:UInt64) (4294967295:UInt64)=0:=by decide
 have a2:Ev (UInt64.ofNat m) (4294967295:UInt64)=UInt64.ofNat m:=by
  apply UInt64.toNat_inj.1;rw[Aee,UInt64.toNat_and,y1]
  show m&&& (2^32-1)=m;rw[Bh8,Ab3 (by omega)]
 have m1:∀x:UInt64,Bn 1 x=x:=λx=>by rw[PD,UInt64.one_mul]
 have m0:∀x:UInt64,Bn 0 x=0:=λx=>by rw[PD,UInt64.zero_mul]
 have p0:∀x:UInt64,Ad 0 x=x:=λx=>by rw[PK,UInt64.zero_add]
 have p1:∀x:UInt64,Ad x 0=x:=λx=>by rw[PK,UInt64.add_zero]
 rw[OJ,RK];simp only[s1,s2,a1,a2,m1,m0,p0,p1,s0,a0,Aa]
theorem yW(v:Int)(m:Nat)(hm:m<=100000):∀(j n q:Nat),1<=n->n<=m->m-n<=j->j<q->Fz q (n:Int) (List.replicate n v++List.replicate (m-n) 0)=some (List.replicate m v)
 |j,n,q+1,hn,hnm,hj,hq=>by
  have hlen:Ac (List.replicate n v++List.replicate (m-n) 0)=(m:Int):=by simp[Ac];omega
  rw[Fz,Im,hlen];by_cases h:n<m
  ·obtain⟨j,rfl⟩:∃k,j=k+1:=⟨j-1,by omega⟩;rw[Aah (by rw[Ae];simp;omega)];have v1:jH (m:Int) (n:Int) (m:Int)=some ():=by rw[jH,Bo];simp;omega
   have v2:jH (m:Int) (0:Int) (n:Int)=some ():=by rw[jH,Bo];simp;omega
   have e1:YQ (List.replicate n v++List.replicate (m-n) 0) (0:Int) ((n:Int)-0)=List.replicate n v:=by
    simp[YQ]
   rw[v1,Aa,v2,Aa,e1];have e2:YH ((m:Int)-(n:Int)) (List.replicate n v).length=((min n (m-n):Nat):Int):=by
    rw[YH,Aty];split<;>omega
   have e3:Xn (List.replicate n v++List.replicate (m-n) 0) (n:Int) ((m:Int)-(n:Int)) (List.replicate n v)=List.replicate (n+min n (m-n)) v++List.replicate (m-(n+min n (m-n))) 0:=by
    have t1:((m:Int)-(n:Int)).toNat=m-n:=by omega
    have t2:(List.replicate n v++List.replicate (m-n) (0:Int)).take n=List.replicate n v:=by simp
    rw[Xn,t1,Ahr,t2,List.take_replicate,Aty,<-Agm,List.replicate_append_replicate,List.drop_append,Aty,Nat.min_comm (m-n) n];simp only[List.drop_replicate];rw[show n-(n+min n (m-n))=0 by omega,List.replicate_zero,Aqd,show m-n-(n+min n (m-n)-n)=m-(n+min n (m-n)) by omega]
   rw[e2,e3,Aj (by omega) (by omega),show(n:Int)+((min n (m-n):Nat):Int)=((n+min n (m-n):Nat):Int) by omega];exact yW v m hm j (n+min n (m-n)) q (by omega) (by omega) (by omega) (by omega)
  ·rw[Aab (by rw[Ae];simp;omega)];obtain rfl:n=m:=by omega
   simp[La,Ra]
theorem Avo(v:Int)(m:Nat)(hm:m<=100000):Qn [v] (m:Int)=some (List.replicate m v):=by
 have y1:(UInt64.ofNat m).toNat=m:=ZF (by omega);have c1:(Af (Ac [v]):UInt64)=1:=by rfl
 have c2:(Af (m:Int):UInt64)=UInt64.ofNat m:=Xd m;have c3:(Af (UInt64.ofNat m):Int)=(m:Int):=by rw[vV (by omega),y1]
 rw[Qn,Sr,Aab (by rw[Ae];simp),Sp,Sa,c1,c2,mul_one m hm,Aa];simp only;rw[Aab (by rw[YX,YX,y1];simp;show m<=9223372036854775807;omega),Se,Sg,c3,tD (by omega) (by omega),Aa,Bo (by rw[Ar];simp),Aa,Sm,Ahr];by_cases h0:m=0
 ·subst h0;have hF:Ay=(Ay-1)+1:=by have:=Au;omega
  rw[hF,Fz,Im];simp[Ac,Abb,YH,Ae,La,Ra]
 ·have:=yW v m hm m 1 Ay (by omega) (by omega) (by omega) (by have:=Au;omega);have e1:YH (Ac (List.replicate m (0:Int))) [v].length=((1:Nat):Int):=by simp[YH,Ac];omega
  have e2:Abb (List.replicate m (0:Int)) [v]=List.replicate 1 v++List.replicate (m-1) 0:=by
   obtain⟨k,rfl⟩:∃k,m=k+1:=⟨m-1,by omega⟩;simp[Abb]
  rw[e1,e2,this]
theorem Au9(l m:List Int)(h:l.length+m.length<=1000000):Qj [l,m]=some (l++m):=by
 have hF:Ay=(Ay-3)+1+1+1:=by have:=Au;omega
 rw[Qj,Sj,Sf];have g0:Ap [l,m] (0:Int)=some l:=rfl;have g1:Ap [l,m] (1:Int)=some m:=rfl;have l2:Ac [l,m]=2:=rfl;have h3:Kz [l,m] []=some (l++m):=by
  rw[Kz,Rb,Qt,hF,Fi,Hz,l2,Aah (by decide),g0,Aa,By (by simp;omega),Aa,Aqd,show Ad (0:Int) 1=1 by decide,
   Fi,Hz,l2,Aah (by decide),g1,Aa,By (by omega),Aa,show Ad (1:Int) 1=2 by decide,Fi,Hz,l2,Aab (by decide)]
  rfl
 rw[hF,Fw,Ip,l2,Aah (by decide),g0,Aa,Aj (by unfold Ac;omega) (by unfold Ac;omega),Aab (by rw[Ae,Ac];simp),show Ad (0:Int) 1=1 by decide,
  Fw,Ip,l2,Aah (by decide),g1,Aa,Aj (by unfold Ac;omega) (by unfold Ac;omega),Aab (by rw[Ae,Ac,Ac];simp;omega),show Ad (1:Int) 1=2 by decide,
  Fw,Ip,l2,Aab (by decide),Qu,Qw,Aab (by rw[Ae,Ac,Ac];simp;omega),Qy,Qz]
 have z:Am (0:Int) 0=0:=by decide
 have n0:(0:Int)+Ac l+Ac m=((l.length+m.length:Nat):Int):=by simp[Ac]
 rw[z,n0,Bp (by omega) (by omega),Int.sub_zero];by_cases hp:0<l.length+m.length
 ·rw[Aah (by rw[Aq];simp;omega),show jH (0:Int) 0 0=some ()from rfl,Aa,tD (by omega) (by omega),Aa,By (by simp;omega),Aa];rw[show jH (Ac ([]++List.replicate ((l.length+m.length:Nat):Int).toNat (0:Int))) 0 0=some () by rw[jH,Bo];simp[Ac];omega,Aa];simp only[YQ,Int.sub_self,Int.toNat_zero,Bey];exact h3
 ·rw[Aab (by rw[Aq];simp;omega)];exact h3
theorem Ana{r n:Nat}(h1:1<=r)(h:r<=1048576)(n1:1<=n)(n2:n<=4000)(hk:(n-1)/Ao r+1<=1000):AK (r:Int) (n:Int)=some (Ah (Ao r) n,0):=by
 have hp:=Fh r;have hl:=Ad4 h;have hd:=Bgf (n-1) (Ao r);rw[AK,iP h1 h n1 n2,Aab (by omega),Aa];simp only;rw[Aab (by rw[Ak];simp),Afs h1 h,Aa];simp only;rw[Ah];generalize(n-1)/Ao r=k at*
 have e1:Am ((k+1:Nat):Int) 1=(k:Int):=by rw[Bp (by omega) (by omega)];omega
 have e2:(k:Int)*(Ao r:Int)=((k*Ao r:Nat):Int):=by simp
 rw[e1,Avo _ _ (by omega),Aa,Hh (by rw[e2];omega) (by rw[e2];omega),e2,Bp (by omega) (by omega),VE,Au9 _ _ (by simp;omega),Aa,Aa,show(n:Int)-((k*Ao r:Nat):Int)=((n-k*Ao r:Nat):Int) by omega]
def Gf(f c w r n:Nat):Bool:=decide ((f=1\/f=2)/\ (1<=c/\c<=6)/\ (w=8\/w=16\/w=24)/\ (1<=r/\r<=1048576)/\1<=n)
def BH(c r n:Nat):Bool:=decide (n<=4000/c/\ (n-1)/Ao r+1<=1000)
theorem YZ(f c w r n:Nat):Sd (f:Int) (c:Int) (w:Int) (r:Int) (n:Int)=some (Gf f c w r n):=by
 have e2:Pm (f:Int) (c:Int) (w:Int) (r:Int) (n:Int)=some (decide ((f=1\/f=2)/\ (1<=c/\c<=6)/\ (1<=r/\r<=1048576)/\1<=n)):=by
  rw[Pm,NT];congr 1;rw[Amo];simp only[Ar,Aq,ZJ,Ada,Bat,Av2,Abv];omega
 have g:∀k:Nat,geq (w:Int) (k:Int)=decide (w=k):=λk=>by rw[Ar,Amo];simp;omega
 have g8:geq (w:Int) (8:Int)=decide (w=8):=g 8;have g16:geq (w:Int) (16:Int)=decide (w=16):=g 16;have g24:geq (w:Int) (24:Int)=decide (w=24):=g 24;rw[Sd,AV,e2,g8,g16,g24,Gf];by_cases h8:w=8
 ·subst h8;simp
 ·by_cases h16:w=16
  ·subst h16;simp
  ·by_cases h24:w=24
   ·subst h24;simp
   ·simp[h8,h16,h24]
theorem sN(f c w r n:Nat):Kn (f:Int) (c:Int) (w:Int) (r:Int) (n:Int)=some (Gf f c w r n):=by
 rw[Kn,Gf];simp only[Ar,Dq,ZJ,Ada,Bat,Av2,Abv,Bku];split
 ·rename_i h;congr 1;rw[Amo];simp only[Ada,Bat,Av2,Abv];omega
 ·rename_i h;congr 1;symm;rw[Bge];omega
theorem Bev{c:Nat}(h:1<=c):Cv (4000:Int) (c:Int)=((4000/c:Nat):Int):=by
 have:4000/c<=4000:=As2 _ _;rw[SF,Be1 (by omega),show(4000:Int)=((4000:Nat):Int)from rfl,<-Int.natCast_ediv];generalize 4000/c=k at*
 exact Cx (by omega) (by omega)
theorem oN{f c w r n:Nat}(h:Gf f c w r n=true):QF (f:Int) (c:Int) (w:Int) (r:Int) (n:Int)=some (BH c r n):=by
 simp only[Gf,Abv]at h;have hd:4000/c<=4000:=As2 _ _;rw[QF,Bo (by rw[Ak];simp;omega),Aa,Bev (by omega),BH];generalize 4000/c=m at*
 by_cases h1:n<=m
 ·rw[Aab (by rw[Aq];simp;omega),iP (by omega) (by omega) (by omega) (by omega),Aa];generalize(n-1)/Ao r+1=k;by_cases h2:1000<k
  ·rw[Aah h2];simp[Ar,ZJ];omega
  ·rw[Aab h2];simp[Ar,ZJ,h1];omega
 ·rw[Aah (by rw[Aq];simp;omega)];simp[h1]
theorem Abh{f c w r n:Nat}(h:Gf f c w r n=true):Yn (f:Int) (c:Int) (w:Int) (r:Int) (n:Int)=some (!BH c r n):=by
 simp only[Gf,Abv]at h;have hd:4000/c<=4000:=As2 _ _;rw[Yn,Bo (by rw[Ak];simp;omega),Aa,Bev (by omega),BH];generalize 4000/c=m at*
 by_cases h1:n<=m
 ·rw[Aab (by rw[Aq];simp;omega),XV (by omega) (by omega) (by omega),Aa,Ac,AB];generalize(n-1)/Ao r+1=k;congr 1;rw[Aq,Amo];simp only[Abv,Axk,Bge];omega
 ·rw[Aah (by rw[Aq];simp;omega)];simp[h1]
def Pg:List UInt8:=[84,84,65,49]
def f0(b:List UInt8):Nat:=Fu (part b 4 2)
def f1(b:List UInt8):Nat:=Fu (part b 6 2)
def f2(b:List UInt8):Nat:=Fu (part b 8 2)
def f3(b:List UInt8):Nat:=Fu (part b 10 4)
def f4(b:List UInt8):Nat:=Fu (part b 14 4)
abbrev H6:=Int×Int×Int×Int×Int×Int
def Dt(b:List UInt8):H6:=
 if b.take (min 4 b.length)≠Pg.take (min 4 b.length)then(0,0,0,0,0,12)else if b.length<22 then(0,0,0,0,0,24)else
 if(Ec (b.take 18)).toNat≠Fu (part b 18 4)then(0,0,0,0,0,22)else
 if Gf (f0 b) (f1 b) (f2 b) (f3 b) (f4 b)=false then(0,0,0,0,0,12)else
 if BH (f1 b) (f3 b) (f4 b)=false then(0,0,0,0,0,4)else((f0 b:Int),(f1 b:Int),(f2 b:Int),(f3 b:Int),(f4 b:Int),0)
section
variable {b:List UInt8}
theorem rs1(h:b.take (min 4 b.length)≠Pg.take (min 4 b.length)):Dt b=(0,0,0,0,0,12):=by rw[Dt,Aah h]
variable (h:b.take (min 4 b.length)=Pg.take (min 4 b.length))
include h
theorem rs2(h2:b.length<22):Dt b=(0,0,0,0,0,24):=by rw[Dt,Aab (λe=>e h),Aah h2]
variable (h2:¬b.length<22)
include h2
theorem rs3(h3:(Ec (b.take 18)).toNat≠Fu (part b 18 4)):Dt b=(0,0,0,0,0,22):=by rw[Dt,Aab (λe=>e h),Aab h2,Aah h3]
variable (h3:(Ec (b.take 18)).toNat=Fu (part b 18 4))
include h3
theorem rs4(h4:Gf (f0 b) (f1 b) (f2 b) (f3 b) (f4 b)=false):Dt b=(0,0,0,0,0,12):=by rw[Dt,Aab (λe=>e h),Aab h2,Aab (λe=>e h3),Aah h4]
variable (h4:Gf (f0 b) (f1 b) (f2 b) (f3 b) (f4 b)=true)
include h4
theorem rs5(h5:BH (f1 b) (f3 b) (f4 b)=false):Dt b=(0,0,0,0,0,4):=by rw[Dt,Aab (λe=>e h),Aab h2,Aab (λe=>e h3),Aab (by rw[h4];simp),Aah h5]
theorem rs6(h5:BH (f1 b) (f3 b) (f4 b)=true):Dt b=((f0 b:Int),(f1 b:Int),(f2 b:Int),(f3 b:Int),(f4 b:Int),0):=by rw[Dt,Aab (λe=>e h),Aab h2,Aab (λe=>e h3),Aab (by rw[h4];simp),Aab (by rw[h5];simp)]
end
theorem Ay1(b:List UInt8)(h2:¬b.length<22):Bi (Af (Ec (b.take 18)):UInt64) (qQ (part b 18 4))=decide ((Ec (b.take 18)).toNat≠Fu (part b 18 4)):=by
 rw[TY,Dn,Amo];simp only[Bk6,ne_eq,Abv];rw[<-Bjx,ZF (by have:=(Ec (b.take 18)).toNat_lt;omega),aI (by rw[Eo (by omega)];omega)]
theorem nZ(b:List UInt8)(a w:Nat)(i q:Nat)(l:List Int)(hi:i<5)(hl:l.length=5)(hw:Ap ([2,2,2,4,4]:List Int) (i:Int)=some (w:Int))(h1:1<=w)(h4:w<=4)(ha:a+w<=b.length)(hb:b.length<4611686018427387904):
  Pq b (q+1) (a:Int) (i:Int) l=Pq b q ((a+w:Nat):Int) ((i+1:Nat):Int) (l.set i (Fu (part b a w):Int)):=by
 rw[Pq,JL,Aah (by rw[Ae];simp;omega),hw,Aa,Afq b a w h1 (by omega) ha hb,Aa];simp only;rw[Bu (by omega),Aa,Vv _ (by omega),Aa,OA (by rw[Eo ha];omega),Aj (by omega) (by omega),Aj (by omega) (by omega)];rfl
theorem Azc(b:List UInt8)(h22:¬b.length<22)(hb:b.length<4611686018427387904):HT b 4 0 (List.replicate 5 0)=HS [(f0 b:Int),(f1 b:Int),(f2 b:Int),(f3 b:Int),(f4 b:Int)]:=by
 have hF:Ay=(Ay-6)+1+1+1+1+1+1:=by have:=Au;omega
 rw[HT,hF,show(4:Int)=((4:Nat):Int)from rfl,show(0:Int)=((0:Nat):Int)from rfl];rw[nZ b 4 2 0 _ _ (by omega) (by simp) rfl (by omega) (by omega) (by omega) hb,nZ b 6 2 1 _ _ (by omega) (by simp) rfl (by omega) (by omega) (by omega) hb,nZ b 8 2 2 _ _ (by omega) (by simp) rfl (by omega) (by omega) (by omega) hb,
  nZ b 10 4 3 _ _ (by omega) (by simp) rfl (by omega) (by omega) (by omega) hb,nZ b 14 4 4 _ _ (by omega) (by simp) rfl (by omega) (by omega) (by omega) hb,Pq,JL,Aab (by rw[Ae];simp)]
 rfl
theorem Bjs(b:List UInt8):Jt [84,84,65,49] (b.take (min 4 b.length))=some (decide (b.take (min 4 b.length)=Pg.take (min 4 b.length))):=by
 have hl:(b.take (min 4 b.length)).length=min 4 b.length:=by rw[Ajr];omega
 rw[Jt,Hs,Aah (by rw[Dq,Ac,Ac,hl];simp;omega),Ac,hl,Da (by omega) (by simp;omega),Aa,Aa,Ahr];congr 1;rw[Amo];rw[Abv,Av2];exact eq_comm
theorem Bh5(b:List UInt8):Fe (4:Int) (Ac b)=((min 4 b.length:Nat):Int):=by rw[NP,Ac];omega
theorem NY(b:List UInt8)(hb:b.length<4611686018427387904):Nc b=some (Dt b):=by
 rw[Nc,UP,Bh5,Da (by omega) (by omega),Aa,Ahr,Bjs,Aa];by_cases h:b.take (min 4 b.length)=Pg.take (min 4 b.length)
 ·rw[Aab (by simpa using h)];by_cases h2:b.length<22
  ·rw[Aah (by rw[Ae,Ac];simp;omega),rs2 h h2]
  ·have a1:eE b 18 4=some (qQ (part b 18 4),0):=Afq b 18 4 (by omega) (by omega) (by omega) hb;rw[Aab (by rw[Ae,Ac];simp;omega),a1,Aa];simp only;rw[Da (by omega) (by omega),Aa,show(18:Int).toNat=18 from rfl,wV _ (by simp;omega),Aa];simp only;rw[Ay1 b h2];by_cases h3:(Ec (b.take 18)).toNat=Fu (part b 18 4)
   ·rw[Aab (by simpa using h3),Azc b h2 hb,HS,kX];rw[show Ap [(f0 b:Int),(f1 b:Int),(f2 b:Int),(f3 b:Int),(f4 b:Int)] 0=some (f0 b:Int)from rfl,show Ap [(f0 b:Int),(f1 b:Int),(f2 b:Int),(f3 b:Int),(f4 b:Int)] 1=some (f1 b:Int)from rfl,show Ap [(f0 b:Int),(f1 b:Int),(f2 b:Int),(f3 b:Int),(f4 b:Int)] 2=some (f2 b:Int)from rfl,
     show Ap [(f0 b:Int),(f1 b:Int),(f2 b:Int),(f3 b:Int),(f4 b:Int)] 3=some (f3 b:Int)from rfl,show Ap [(f0 b:Int),(f1 b:Int),(f2 b:Int),(f3 b:Int),(f4 b:Int)] 4=some (f4 b:Int)from rfl]
    simp only[Aa,YZ];cases h4:Gf (f0 b) (f1 b) (f2 b) (f3 b) (f4 b)with
    |false=>rw[rs4 h h2 h3 h4];rfl
    |true=>
     rw[oN h4,Aab (by simp),Aa];cases h5:BH (f1 b) (f3 b) (f4 b)with
     |false=>rw[rs5 h h2 h3 h4 h5];rfl
     |true=>rw[rs6 h h2 h3 h4 h5];rfl
   ·rw[Aah (by simpa using h3),rs3 h h2 h3]
 ·rw[Aah (by simpa using h),rs1 h]
theorem XJ(b:List UInt8)(hb:b.length<4611686018427387904):Nj b=some (Dt b):=by
 rw[Nj,QW,Bh5,Da (by omega) (by omega),Aa,Ahr,Da (by omega) (by simp;omega),Aa,Ahr];by_cases h:b.take (min 4 b.length)=Pg.take (min 4 b.length)
 ·rw[Aab (by rw[h];simp[Pg]),QV,PC];by_cases h2:b.length<22
  ·rw[Aah (by rw[Ae,Ac];simp;omega),rs2 h h2]
  ·have a1:Bk b 18 22=some (part b 18 4):=Rs 18 4 (by omega);have c1:Bk b 4 6=some (part b 4 2):=Rs 4 2 (by omega);have c2:Bk b 6 8=some (part b 6 2):=Rs 6 2 (by omega);have c3:Bk b 8 10=some (part b 8 2):=Rs 8 2 (by omega);have c4:Bk b 10 14=some (part b 10 4):=Rs 10 4 (by omega);have c5:Bk b 14 18=some (part b 14 4):=Rs 14 4 (by omega);have hs:Bi (qQ (part b 18 4)) (Af (Ec (b.take 18)):UInt64)=decide ((Ec (b.take 18)).toNat≠Fu (part b 18 4)):=by
    rw[<-Ay1 b h2,TY,TY,Amo];simp only[Bk6,ne_eq];exact not_congr eq_comm
   have lp:∀a w,a+w<=b.length->Dz (part b a w)=some (qQ (part b a w)):=λa w h=>Ane _ (by rw[Eo h];omega);rw[Aab (by rw[Ae,Ac];simp;omega),a1,Aa,Da (by omega) (by omega),Aa,show(18:Int).toNat=18 from rfl,lp _ _ (by omega),Aa,Az9 _ (by simp;omega),Aa,hs];by_cases h3:(Ec (b.take 18)).toNat=Fu (part b 18 4)
   ·rw[Aab (by simpa using h3),RC,QM,c1,Aa,c2,Aa,c3,Aa,c4,Aa,c5,Aa,lp _ _ (by omega),Aa,lp _ _ (by omega),Aa,lp _ _ (by omega),Aa,lp _ _ (by omega),Aa,lp _ _ (by omega),Aa,
     PB,QP,OA (by rw[Eo (by omega)];omega),OA (by rw[Eo (by omega)];omega),OA (by rw[Eo (by omega)];omega),OA (by rw[Eo (by omega)];omega),OA (by rw[Eo (by omega)];omega)]
    rw[show Fu (part b 4 2)=f0 b from rfl,show Fu (part b 6 2)=f1 b from rfl,show Fu (part b 8 2)=f2 b from rfl,show Fu (part b 10 4)=f3 b from rfl,show Fu (part b 14 4)=f4 b from rfl,sN,Aa];cases h4:Gf (f0 b) (f1 b) (f2 b) (f3 b) (f4 b)with
    |false=>rw[rs4 h h2 h3 h4];rfl
    |true=>
     rw[Abh h4,Aab (by simp),Aa];cases h5:BH (f1 b) (f3 b) (f4 b)with
     |false=>rw[rs5 h h2 h3 h4 h5];rfl
     |true=>rw[rs6 h h2 h3 h4 h5];rfl
   ·rw[Aah (by simpa using h3),rs3 h h2 h3]
 ·rw[Aah (by simpa [Pg]using h),rs1 h]
theorem dR{b:List UInt8}(h:(Dt b).2.2.2.2.2=0):Dt b=((f0 b:Int),(f1 b:Int),(f2 b:Int),(f3 b:Int),(f4 b:Int),0)/\22<=b.length/\Gf (f0 b) (f1 b) (f2 b) (f3 b) (f4 b)=true/\BH (f1 b) (f3 b) (f4 b)=true:=by
 unfold Dt at h⊢;split at h; · simp at h
 rename_i c1;rw[Aab c1];split at h; · simp at h
 rename_i c2;rw[Aab c2];split at h; · simp at h
 rename_i c3;rw[Aab c3];split at h; · simp at h
 rename_i c4;rw[Aab c4];split at h; · simp at h
 rename_i c5;rw[Aab c5];exact⟨rfl,by omega,by simpa using c4,by simpa using c5⟩
theorem kP{f c w r n:Nat}(h:Gf f c w r n=true)(h2:BH c r n=true):Dm (f:Int) (c:Int) (w:Int) (r:Int) (n:Int)=some (Ah (Ao r) n,0):=by
 have hc:On (f:Int) (c:Int) (w:Int) (r:Int) (n:Int)=some 0:=by
  rw[On,YZ,Aa,h,Aab (by simp),oN h,Aa,h2];rfl
 have hd:4000/c<=4000:=As2 _ _;simp only[Gf,Abv]at h;simp only[BH,Abv]at h2;rw[Dm,hc,Aa,Aab (by rw[Ak];simp),Ana (by omega) (by omega) (by omega) (by omega) h2.2];rfl
def okL:List Int->Int->Bool
 |[],_=>true
 |x::l,left=>decide (5<=x/\x<=left)&&okL l (left-x)
theorem Aj7:∀l:List Int,(∀x∈l,5<=x)->0<=l.sum
 |[],_=>by simp
 |x::l,h=>by
  have h1:=h x Avz;have h2:=Aj7 l λy hy=>h y (Anw _ hy);rw[Av4];omega
theorem DG:∀(l:List Int) (left:Int),0<=left-> (okL l left=true↔(∀x∈l,5<=x)/\l.sum<=left)
 |[],left,h=>by simp[okL];exact h
 |x::l,left,h=>by
  rw[okL,Ada,Abv,Av4];by_cases hx:5<=x/\x<=left
  ·rw[DG l (left-x) (by omega)];constructor
   ·rintro⟨_,h1,h2⟩;exact⟨λy hy=>(List.mem_cons.1 hy).elim (λe=>e▸hx.1) (h1 y),by omega⟩
   ·rintro⟨h1,h2⟩;exact⟨hx,λy hy=>h1 y (Anw _ hy),by omega⟩
  ·constructor
   ·rintro⟨h1,_⟩;exact absurd h1 hx
   ·rintro⟨h1,h2⟩;have h3:=h1 x Avz;have:0<=l.sum:=Aj7 l λy hy=>h1 y (Anw _ hy);omega
theorem Ael(l:List Int)(hl:l.length<=1000):∀(j i q:Nat) (left:Int),i+j=l.length->j<q->0<=left->left<=100000->Uw l q left (i:Int)=some (if okL (l.drop i) left=true then 0 else 8)
 |0,i,q+1,left,hi,_,_,_=>by
  rw[Uw,IV,Aab (by rw[Ae,Ac];simp;omega),show i=l.length by omega,Bhb];rfl
 |j+1,i,q+1,left,hi,hq,h0,h1=>by
  have hlt:i<l.length:=by omega
  rw[Uw,IV,Aah (by rw[Ae,Ac];simp;omega),Bu hlt,Aa,drop_cons hlt];by_cases h:5<=l[i]/\l[i]<=left
  ·rw[Aab (by simp[Ae,Aq];omega),Bp (by omega) (by omega),Aj (by omega) (by omega)];have ih:=Ael l hl j (i+1) q (left-l[i]) (by omega) (by omega) (by omega) (by omega);rw[show((i:Int)+1)=((i+1:Nat):Int) by omega,ih];simp[okL,h]
  ·rw[Aah (by simp[Ae,Aq];omega)];have:okL (l[i]::l.drop (i+1)) left=false:=by rw[okL,Bei h];rfl
   rw[this];rfl
def Ud(l:List Int):Bool:=decide (1<=l.length/\l.length<=1000)&&okL l 100000
theorem Ait(l:List Int)(hl:l.length<=1000):Rn l=some (if Ud l=true then 0 else 8):=by
 rw[Rn,GK,Ud];by_cases h:1<=l.length
 ·rw[Aab (by rw[Ar,Aq,Ac];simp;constructor;(intro e;subst e;simp at h);omega),VW];have:=Ael l hl l.length 0 Ay 100000 (by omega) (by have:=Au;omega) (by omega) (by omega);rw[Bka]at this;rw[Bhq (show 1<=l.length/\l.length<=1000 from⟨h,hl⟩),Bi4];exact this
 ·have:l=[]:=by
   cases l with
   |nil=>rfl
   |cons _ _=>simp at h
  subst this;rfl
theorem Afy(l:List Int)(hl:l.length<=1000):∀(j i q:Nat) (s:Int),i+j=l.length->j<q->0<=s->s<=100000*(i:Int)->Lc l q s (i:Int)=some (if(∀x∈l.drop i,5<=x/\x<=100000)/\s+(l.drop i).sum<=100000 then 0 else 8)
 |0,i,q+1,s,hi,_,_,_=>by
  rw[Lc,Yh,Aab (by rw[Ae,Ac];simp;omega),show i=l.length by omega,Bhb,HP,IX];by_cases h:s<=100000
  ·rw[Aab (by rw[Aq];simp;omega),Aah (by simp;omega)]
  ·rw[Aah (by rw[Aq];simp;omega),Aab (by simp;omega)]
 |j+1,i,q+1,s,hi,hq,h0,h1=>by
  have hlt:i<l.length:=by omega
  rw[Lc,Yh,Aah (by rw[Ae,Ac];simp;omega),Bu hlt,Aa,drop_cons hlt];by_cases h5:l[i]<5
  ·rw[Aah (by rw[Ae];simpa using h5),Aab (λh=>by have:=(h.1 l[i] Avz).1;omega)]
  ·rw[Aab (by rw[Ae];simpa using h5),Aa];by_cases h6:100000<l[i]
   ·rw[Aah (by rw[Aq];simpa using h6),Aab (λh=>by have:=(h.1 l[i] Avz).2;omega)]
   ·rw[Aab (by rw[Aq];simpa using h6),LJ,LZ,Bu hlt,Aa,Aj (by omega) (by omega),Aj (by omega) (by omega)];have ih:=Afy l hl j (i+1) q (s+l[i]) (by omega) (by omega) (by omega) (by omega);rw[show((i:Int)+1)=((i+1:Nat):Int) by omega,ih];have e:((∀x∈l.drop (i+1),5<=x/\x<=100000)/\s+l[i]+(l.drop (i+1)).sum<=100000)↔((∀x∈l[i]::l.drop (i+1),5<=x/\x<=100000)/\s+(l[i]::l.drop (i+1)).sum<=100000):=by
     rw[Av4,List.forall_mem_cons,Blh];constructor
     ·rintro⟨a,b⟩;exact⟨⟨by omega,a⟩,b⟩
     ·rintro⟨⟨_,a⟩,b⟩;exact⟨a,b⟩
    simp only[e]
theorem wZ:∀{l:List Int},(∀x∈l,5<=x)->∀x∈l,x<=l.sum
 |[],_,x,hx=>by simp at hx
 |y::l,h,x,hx=>by
  have h1:=h y Avz;have h2:=Aj7 l λz hz=>h z (Anw _ hz);rw[Av4];rcases List.mem_cons.1 hx with rfl|hx
  ·omega
  ·have:=wZ (l:=l) (λz hz=>h z (Anw _ hz)) x hx;omega
theorem Al7(l:List Int)(hl:l.length<=1000):Iz l=some (if Ud l=true then 0 else 8):=by
 rw[Iz,Yb,Ud];by_cases h:1<=l.length
 ·have:=Afy l hl l.length 0 Ay 0 (by omega) (by have:=Au;omega) (by omega) (by omega);rw[Aab (by rw[Ae,Aq,Ac];simp;omega),LW];refine Bg6 this ?_;rw[Bka,Bhq (show 1<=l.length/\l.length<=1000 from⟨h,hl⟩),Bi4];have e:((∀x∈l,5<=x/\x<=100000)/\0+l.sum<=100000)↔okL l 100000=true:=by
   rw[DG l 100000 (by omega),Int.zero_add];constructor
   ·rintro⟨a,b⟩;exact⟨λx hx=>(a x hx).1,b⟩
   ·rintro⟨a,b⟩;exact⟨λx hx=>⟨a x hx,Int.le_trans (wZ a x hx) b⟩,b⟩
  simp only[e]
 ·have:l=[]:=by
   cases l with
   |nil=>rfl
   |cons _ _=>simp at h
  subst this;rfl
theorem VA(l:List Int):Rn l=some (if Ud l=true then 0 else 8):=by
 by_cases hl:l.length<=1000
 ·exact Ait l hl
 ·rw[Rn,GK,Aah (by rw[Aq,Ac];simp;omega),Ud,Bei (by omega)];rfl
theorem aW(l:List Int):Iz l=some (if Ud l=true then 0 else 8):=by
 by_cases hl:l.length<=1000
 ·exact Al7 l hl
 ·rw[Iz,Yb,Aah (by rw[Aq,Ac];simp;omega),Ud,Bei (by omega)];rfl
theorem Aoe(l:List Int)(hl:l.length<=1000)(hx:∀x∈l,0<=x/\x<4294967296):Rn l=some (if Ud l=true then 0 else 8):=VA l
theorem Atf(l:List Int)(hl:l.length<=1000)(hx:∀x∈l,0<=x/\x<4294967296):Iz l=some (if Ud l=true then 0 else 8):=aW l
def QH(b:List UInt8)(n:Nat):List Int:=(List.range n).map λi=>(Fu (part b (4*i) 4):Int)
theorem Ty(b:List UInt8)(n:Nat):(QH b n).length=n:=by simp[QH]
theorem Ahi(b:List UInt8)(n:Nat):QH b (n+1)=QH b n++[(Fu (part b (4*n) 4):Int)]:=by simp[QH,List.range_succ]
theorem Asm(b:List UInt8)(n:Nat)(h:4*n<=b.length):∀x∈QH b n,0<=x/\x<4294967296:=by
 intro x hx;simp only[QH,List.mem_map,List.mem_range]at hx;obtain⟨i,hi,rfl⟩:=hx;have:=Ar1 (l:=part b (4*i) 4) (by rw[Eo (by omega)];omega);omega
def Er(b:List UInt8)(n:Nat):List Int×Int:=
 if ¬(1<=n/\n<=1000)then([],2)else if b.length<4*n+4 then([],24)else if(Ec (b.take (4*n))).toNat≠Fu (part b (4*n) 4)then([],22)else
 if Ud (QH b n)=true then(QH b n,0)else([],12)
theorem Aru{b:List UInt8}{n:Nat}(h:1<=n/\n<=1000)(h2:¬b.length<4*n+4):Bi (Af (Ec (b.take (4*n))):UInt64) (qQ (part b (4*n) 4))=decide ((Ec (b.take (4*n))).toNat≠Fu (part b (4*n) 4)):=by
 rw[TY,Dn,Amo];simp only[Bk6,ne_eq,Abv];rw[<-Bjx,ZF (by have:=(Ec (b.take (4*n))).toNat_lt;omega),aI (by rw[Eo (by omega)];omega)]
section
variable {b:List UInt8} {n:Nat}
theorem ss1(h:¬(1<=n/\n<=1000)):Er b n=([],2):=by rw[Er,Aah h]
variable (h:1<=n/\n<=1000)
include h
theorem ss2(h2:b.length<4*n+4):Er b n=([],24):=by rw[Er,Aab (λe=>e h),Aah h2]
variable (h2:¬b.length<4*n+4)
include h2
theorem ss3(h3:(Ec (b.take (4*n))).toNat≠Fu (part b (4*n) 4)):Er b n=([],22):=by rw[Er,Aab (λe=>e h),Aab h2,Aah h3]
theorem ss4(h3:(Ec (b.take (4*n))).toNat=Fu (part b (4*n) 4)):Er b n=if Ud (QH b n)=true then(QH b n,0)else([],12):=by rw[Er,Aab (λe=>e h),Aab h2,Aab (λe=>e h3)]
end
theorem Ahb(b:List UInt8)(l8:List Int)(n:Nat)(hn:n<=1000)(h8:l8.length=n)(hb:4*n+4<=b.length)(hb2:b.length<4611686018427387904):∀(j i q:Nat),i+j=n->j<q->Xg b l8 q (i:Int) (QH b i++List.replicate j 0)=ON (QH b n)
 |0,i,q+1,hi,_=>by
  obtain rfl:i=n:=by omega
  rw[Xg,OG,Aab (by rw[Ae,Ac];simp;omega)];simp
 |j+1,i,q+1,hi,hq=>by
  have hlen:(QH b i++List.replicate (j+1) 0).length=i+(j+1):=by simp[Ty]
  have ha:=Afq b (4*i) 4 (by omega) (by omega) (by omega) hb2;rw[Xg,OG,Aah (by rw[Ae,Ac];simp;omega),Hh (by omega) (by omega),show(4:Int)*(i:Int)=((4*i:Nat):Int) by omega,show(4:Int)=((4:Nat):Int)from rfl,ha,Aa];simp only;rw[Bu (by rw[hlen];omega),Aa,Vv _ (by rw[hlen];omega),Aa,OA (by rw[Eo (by omega)];omega),Aj (by omega) (by omega),Beu,gR (Ty _ _)];have ih:=Ahb b l8 n hn h8 hb hb2 j (i+1) q (by omega) (by omega);rw[Ahi]at ih;rw[show((i:Int)+1)=((i+1:Nat):Int) by omega,<-ih];simp
theorem pD(b:List UInt8)(n:Nat)(hb:b.length<=100100):EA b (n:Int)=some (Er b n):=by
 rw[EA,bO];by_cases h:1<=n/\n<=1000
 ·rw[Aab (by simp[Ae,Aq];omega),Hh (by omega) (by omega),Aj (by omega) (by omega)];by_cases h2:b.length<4*n+4
  ·rw[Aah (by rw[Ae,Ac];simp;omega),ss2 h h2]
  ·have ha:eE b (4*(n:Int)) 4=some (qQ (part b (4*n) 4),0):=by
    rw[show(4:Int)*(n:Int)=((4*n:Nat):Int) by omega];exact Afq b (4*n) 4 (by omega) (by omega) (by omega) (by omega)
   rw[Aab (by rw[Ae,Ac];simp;omega),ha,Aa];simp only;rw[Da (by omega) (by omega),Aa,show(4*(n:Int)).toNat=4*n by omega,wV _ (by simp;omega),Aa];simp only;rw[Aru h h2];by_cases h3:(Ec (b.take (4*n))).toNat=Fu (part b (4*n) 4)
   ·have hlp:=Ahb b (List.replicate n 0) n (by omega) (by simp) (by omega) (by omega) n 0 Ay (by omega) (by have:=Au;omega);rw[Aab (by simpa using h3),tD (by omega) (by omega),Aa,Bo (by rw[Ar];simp),Aa,bG,Ahr];refine Bg6 (hlp) ?_;rw[ON,qA,Aoe _ (by rw[Ty];omega) (Asm b n (by omega)),Aa,ss4 h h2 h3];cases Ud (QH b n)<;>rfl
   ·rw[Aah (by simpa using h3),ss3 h h2 h3]
 ·rw[Aah (by simp[Ae,Aq];omega),ss1 h]
theorem pY(b:List UInt8)(n:Nat)(hn:n<=1000)(hb:4*n+4<=b.length)(hb2:b.length<4611686018427387904):∀(j i q:Nat),i+j=n->j<q->Mw b (n:Int) q (i:Int) (QH b i)=Zu (QH b n)
 |0,i,q+1,hi,_=>by
  obtain rfl:i=n:=by omega
  rw[Mw,Zk,Aab (by rw[Ae];simp)]
 |j+1,i,q+1,hi,hq=>by
  have hc:Bk b ((4:Int)*(i:Int)) ((4:Int)*(i:Int)+4)=some (part b (4*i) 4):=by
   rw[show(4:Int)*(i:Int)=((4*i:Nat):Int) by omega];exact Rs (4*i) 4 (by omega)
  rw[Mw,Zk,Aah (by rw[Ae];simp;omega),Hh (by omega) (by omega),Aj (by omega) (by omega),hc,Aa,Ane _ (by rw[Eo (by omega)];omega),Aa,By (by rw[Ty];simp;omega),Aa,
   OA (by rw[Eo (by omega)];omega),Aj (by omega) (by omega),<-Ahi]
  exact pY b n hn hb hb2 j (i+1) q (by omega) (by omega)
theorem Abk(b:List UInt8)(n:Nat)(hb:b.length<=100100):Rw b (n:Int)=some (Er b n):=by
 rw[Rw,QZ];by_cases h:1<=n/\n<=1000
 ·rw[Aab (by simp[Ae,Aq];omega),Hh (by omega) (by omega),Aj (by omega) (by omega)];by_cases h2:b.length<4*n+4
  ·rw[Aah (by rw[Ae,Ac];simp;omega),ss2 h h2]
  ·have hc:Bk b ((4:Int)*(n:Int)) ((4:Int)*(n:Int)+4)=some (part b (4*n) 4):=by
    rw[show(4:Int)*(n:Int)=((4*n:Nat):Int) by omega];exact Rs (4*n) 4 (by omega)
   have hs:Bi (qQ (part b (4*n) 4)) (Af (Ec (b.take (4*n))):UInt64)=decide ((Ec (b.take (4*n))).toNat≠Fu (part b (4*n) 4)):=by
    rw[<-Aru h h2,TY,TY,Amo];simp only[Bk6,ne_eq];exact not_congr eq_comm
   rw[Aab (by rw[Ae,Ac];simp;omega),hc,Aa,Da (by omega) (by omega),Aa,show(4*(n:Int)).toNat=4*n by omega,Ane _ (by rw[Eo (by omega)];omega),Aa,Az9 _ (by simp;omega),Aa,hs];by_cases h3:(Ec (b.take (4*n))).toNat=Fu (part b (4*n) 4)
   ·have hlp:=pY b n (by omega) (by omega) (by omega) n 0 Ay (by omega) (by have:=Au;omega);rw[Aab (by simpa using h3),QR,QE,QQ];refine Bg6 hlp ?_;rw[Zu,OT,Atf _ (by rw[Ty];omega) (Asm b n (by omega)),Aa,ss4 h h2 h3];cases Ud (QH b n)<;>rfl
   ·rw[Aah (by simpa using h3),ss3 h h2 h3]
 ·rw[Aah (by simp[Ae,Aq];omega),ss1 h]
theorem dF{b:List UInt8}{n:Nat}(h:(Er b n).2=0):Er b n=(QH b n,0)/\1<=n/\n<=1000/\4*n+4<=b.length/\ (∀x∈QH b n,5<=x)/\ (QH b n).sum<=100000:=by
 unfold Er at h⊢;split at h; · simp at h
 rename_i c1;rw[Aab c1];split at h; · simp at h
 rename_i c2;rw[Aab c2];split at h; · simp at h
 rename_i c3;rw[Aab c3];split at h
 ·rename_i c4;rw[Aah c4];have c4':=c4;rw[Ud,Ada,DG _ _ (by omega)]at c4';exact⟨rfl,by omega,by omega,by omega,c4'.2.1,c4'.2.2⟩
 ·simp at h
def Eg(b:List UInt8):List UInt8:=b.drop (Az b).1.toNat
abbrev Op8:=Int×Int×Int×Int×Int×Int×(List Int)×Int
def zS(e:Int):Op8:=(0,0,0,0,0,0,[],e)
theorem Ab4(A K:Nat)(h:A<=200000)(hk:K<=1000):Ad (Ad (A:Int) (Bn 4 (K:Int))) 4=((A+4*K+4:Nat):Int):=by
 rw[Hh (by omega) (by omega),Aj (a:=(A:Int)) (by omega) (by omega),Aj (by omega) (by omega)];omega
theorem xF{f c w r n:Nat}(h1:Gf f c w r n=true)(h2:BH c r n=true)(b:List UInt8)(hb:b.length<=100100)(A:Nat)(hA:A<=b.length):
  Un b (f:Int) (c:Int) (w:Int) (r:Int) (n:Int) (A:Int)=
   some (if(Er (b.drop A) (Ah (Ao r) n).length).2≠0 then zS (Er (b.drop A) (Ah (Ao r) n).length).2 else((f:Int),(c:Int),(w:Int),(r:Int),(n:Int),((A+4*(Ah (Ao r) n).length+4:Nat):Int),(Er (b.drop A) (Ah (Ao r) n).length).1,0)):=by
 rw[Un,nS,kP h1 h2,Aa];simp only;rw[Aab (by rw[Ak];simp),Ca (by omega) (by omega),Aa,Ac,show(A:Int).toNat=A from rfl,pD _ _ (by simp;omega),Aa];by_cases h:(Er (b.drop A) (Ah (Ao r) n).length).2≠0
 ·rw[Aah h,Aah (by rw[Ak];simpa using h)];rfl
 ·have h0:(Er (b.drop A) (Ah (Ao r) n).length).2=0:=by simpa using h
  obtain⟨g1,g2,g3,g4,g5,g6⟩:=dF h0;have gl:(Er (b.drop A) (Ah (Ao r) n).length).1.length=(Ah (Ao r) n).length:=by rw[g1];exact Ty _ _
  rw[Aab h,Aab (by rw[Ak];simpa using h),Ac,gl,Ab4 _ _ (by omega) (by omega)]
theorem Awv{f c w r n:Nat}(h1:Gf f c w r n=true)(h2:BH c r n=true)(b:List UInt8)(hb:b.length<=100100)(A:Nat)(hA:A<=b.length):
  Pe b (f:Int) (c:Int) (w:Int) (r:Int) (n:Int) (A:Int)=
   some (if(Er (b.drop A) (Ah (Ao r) n).length).2≠0 then zS (Er (b.drop A) (Ah (Ao r) n).length).2 else((f:Int),(c:Int),(w:Int),(r:Int),(n:Int),((A+4*(Ah (Ao r) n).length+4:Nat):Int),(Er (b.drop A) (Ah (Ao r) n).length).1,0)):=by
 have hs:(1<=r/\r<=1048576)/\1<=n/\1<=c:=by
  simp only[Gf,Abv]at h1;omega
 have hf:n<=4000:=by
  simp only[BH,Abv]at h2;have:=As2 4000 c;omega
 rw[Pe,IA,Ca (by omega) (by omega),Aa,XV hs.1.2 hs.2.1 hf,Aa,Ac,show(A:Int).toNat=A from rfl,Abk _ _ (by simp;omega),Aa];simp only;rw[HG,IU];by_cases h:(Er (b.drop A) (Ah (Ao r) n).length).2≠0
 ·rw[Aah h,Aah (by rw[Ak];simpa using h)];rfl
 ·have h0:(Er (b.drop A) (Ah (Ao r) n).length).2=0:=by simpa using h
  obtain⟨g1,g2,g3,g4,g5,g6⟩:=dF h0;have gl:(Er (b.drop A) (Ah (Ao r) n).length).1.length=(Ah (Ao r) n).length:=by rw[g1];exact Ty _ _
  rw[Aab h,Aab (by rw[Ak];simpa using h),Ac,gl,Ab4 _ _ (by omega) (by omega)]
structure Opn (b p:List UInt8) (f c w r n A:Nat) (l:List Int):Prop where
 prog:Es b p=some ((f:Int),(c:Int),(w:Int),(r:Int),(n:Int),(A:Int),l,0)
 ref:Gb b p=some ((f:Int),(c:Int),(w:Int),(r:Int),(n:Int),(A:Int),l,0)
 pass:p.length<=64
 file:b.length<=100000
 shape:Gf f c w r n=true
 fit:BH c r n=true
 len:l.length=(Ah (Ao r) n).length
 some1:1<=l.length/\l.length<=1000
 five:∀x∈l,5<=x
 sum:l.sum<=100000
 at':A<=b.length
 tag:(Az b).2=0
 head:Dt (Eg b)=((f:Int),(c:Int),(w:Int),(r:Int),(n:Int),0)
 tab:Er (b.drop ((Az b).1.toNat+22+(if f=2 then 8 else 0))) l.length=(l,0)
 pos:A=(Az b).1.toNat+22+(if f=2 then 8 else 0)+4*l.length+4
theorem Ar3(b p:List UInt8)(hb:b.length<=100100)(hp:p.length<=64):
  (∃e:Int,e≠0/\Es b p=some (zS e)/\Gb b p=some (zS e))\/ (∃f c w r n A l,Opn b p f c w r n A l):=by
 by_cases h1:100000<b.length
 ·refine .inl ⟨4,by omega,?_,?_⟩
  ·rw[Es,AJ,Aab (by rw[Aq,Ac];simp;omega),Aah (by rw[Aq,Ac];simp;omega)];rfl
  ·rw[Gb,Vr,Aah (by rw[Aq,Ac];simp;omega)];rfl
 have hP:Es b p=Es b p:=rfl;have hR:Gb b p=Gb b p:=rfl
 conv at hP=>rhs;rw[Es,AJ,Aab (by rw[Aq,Ac];simp;omega),Aab (by rw[Aq,Ac];simp;omega),Qf b (by omega),Aa]
 conv at hR=>rhs;rw[Gb,Vr,Aab (by rw[Aq,Ac];simp;omega),Vp b (by omega),Aa]
 by_cases h2:(Az b).2=0
 ·obtain⟨p0,p1,p2⟩:=Xh h2;have hc:=Ca (l:=b) p0 p1;simp only[h2]at hP hR;rw[Aab (by rw[Ak];simp),hc,Aa,show b.drop (Az b).1.toNat=Eg b from rfl,NY _ (by simp[Eg];omega),Aa]at hP;rw[Aab (by rw[Ak];simp),hc,Aa,show b.drop (Az b).1.toNat=Eg b from rfl,XJ _ (by simp[Eg];omega),Aa]at hR;by_cases h3:(Dt (Eg b)).2.2.2.2.2=0
  ·obtain⟨g1,g2,g3,g4⟩:=dR h3;have hlen:(Eg b).length=b.length-(Az b).1.toNat:=by simp[Eg]
   generalize hF:(Az b).1.toNat=F at*
   have hF':(Az b).1=(F:Int):=by omega
   rw[g1,hF']at hP hR;simp only at hP hR;generalize f0 (Eg b)=f at*
   generalize f1 (Eg b)=c at*
   generalize f2 (Eg b)=w at*
   generalize f3 (Eg b)=r at*
   generalize f4 (Eg b)=n at*
   have t22:Ad (F:Int) 22=((F+22:Nat):Int):=by rw[Aj (by omega) (by omega)];omega
   have t30:Ad ((F+22:Nat):Int) 8=((F+30:Nat):Int):=by rw[Aj (by omega) (by omega)];omega
   have Bjc:f=1\/f=2:=by simp only[Gf,Abv]at g3;omega
   rw[Aab (by rw[Ak];simp),t22,t30]at hP hR;have hend:∀A:Nat,A<=b.length->A=F+22+(if f=2 then 8 else 0)->Es b p=Un b (f:Int) (c:Int) (w:Int) (r:Int) (n:Int) (A:Int)->Gb b p=Pe b (f:Int) (c:Int) (w:Int) (r:Int) (n:Int) (A:Int)->
     (∃e:Int,e≠0/\Es b p=some (zS e)/\Gb b p=some (zS e))\/ (∃f c w r n A l,Opn b p f c w r n A l):=by
    intro A hA hA2 e1 e2;rw[xF g3 g4 b hb A hA]at e1;rw[Awv g3 g4 b hb A hA]at e2;by_cases h:(Er (b.drop A) (Ah (Ao r) n).length).2≠0
    ·rw[Aah h]at e1 e2;exact .inl ⟨_,h,e1,e2⟩
    ·have h0:(Er (b.drop A) (Ah (Ao r) n).length).2=0:=by simpa using h
     obtain⟨k1,k2,k3,k4,k5,k6⟩:=dF h0;have gl:(Er (b.drop A) (Ah (Ao r) n).length).1.length=(Ah (Ao r) n).length:=by rw[k1];exact Ty _ _
     rw[Aab h]at e1 e2;rw[Akm]at k4;refine .inr ⟨f,c,w,r,n,_,_,⟨e1,e2,hp,by omega,g3,g4,gl,by omega,by rw[k1];exact k5,by rw[k1];exact k6,by omega,h2,g1,by rw[gl,hF,<-hA2];exact Prod.ext rfl h0,by rw[gl,hF,<-hA2]⟩⟩
   by_cases qV:((p==([]:List UInt8)) !=(geq (f:Int) (1:Int)))=true
   ·rw[Aah qV]at hP hR;exact .inl ⟨26,by omega,hP,hR⟩
   ·rw[Aab qV]at hP hR;have hpf:(p=[]↔f=1):=by
     rw[Ar]at qV;have h5:(p==([]:List UInt8))=((f:Int)==1):=by simpa using qV
     have h6:(p==([]:List UInt8))=true↔((f:Int)==1)=true:=by rw[h5]
     rw[Av2,Av2]at h6;rw[h6];omega
    by_cases h5:f=2
    ·have Bg5:p≠ []:=λe=>by have:=hpf.1 e;omega
     have h64:(p !=([]:List UInt8))=true:=by simpa using Bg5
     rw[Aah h64]at hP;rw[Aah (by rw[Ar,h5];rfl),Bp (by rw[Ac];omega) (by rw[Ac];omega)]at hR;by_cases h6:b.length<F+30
     ·rw[Aah (by rw[Ae,Ac];simp;omega)]at hP hR;exact .inl ⟨24,by omega,hP,hR⟩
     ·have hseg:((b.take (F+30)).drop (F+22)).length=8:=by simp;omega
      rw[Aab (by rw[Ae,Ac];simp;omega),Ut (by omega) (by omega) (by omega),Aa]at hP hR;rw[Rq,oV p hp,Aa]at hP;rw[oG p hp,Aa]at hR;simp only at hP;rw[Aab (by rw[Ak,Ak,Ac,Ac,Cf,show((F+30:Nat):Int).toNat=F+30 from rfl,show((F+22:Nat):Int).toNat=F+22 from rfl,hseg];simp),Ii,Aa,Aa]at hP;simp only at hP;rw[Aab (by rw[Ak];simp)]at hP;generalize(b.take ((F+30:Nat):Int).toNat).drop ((F+22:Nat):Int).toNat=qU at*
      by_cases h7:qU=Te (Wv p).toNat 8
      ·rw[Aab (by simp[h7])]at hP;rw[Aab (by simp[h7])]at hR;exact hend (F+30) (by omega) (by rw[Aah h5]) hP hR
      ·rw[Aah (by simpa using h7)]at hP;rw[Aah (by simpa using h7)]at hR;exact .inl ⟨26,by omega,hP,hR⟩
    ·have hpe:p=[]:=hpf.2 (by omega);rw[Aab (by rw[hpe];simp)]at hP;rw[Aab (by rw[Ar];simp;omega)]at hR;exact hend (F+22) (by omega) (by rw[Aab h5]) hP hR
  ·generalize Dt (Eg b)=v at*
   obtain⟨v1,v2,v3,v4,v5,v6⟩:=v;simp only at h3 hP hR;rw[Aah (by rw[Ak];simpa using h3)]at hP hR;exact .inl ⟨v6,h3,hP,hR⟩
 ·generalize Az b=v at*
  obtain⟨v,e⟩:=v;simp only at h2 hP hR;rw[Aah (by rw[Ak];simpa using h2)]at hP hR;exact .inl ⟨e,h2,hP,hR⟩
theorem Ag9(l:List Int)(i:Nat):(l.take i).sum+(l.drop i).sum=l.sum:=by
 conv=>rhs;rw[<-Bax i l,Blf]
theorem Nw{l:List Int}(h5:∀x∈l,5<=x)(i:Nat):0<= (l.take i).sum/\ (l.take i).sum<=l.sum:=by
 have h1:=Aj7 (l.take i) λx hx=>h5 x (Bjy hx);have h2:=Aj7 (l.drop i) λx hx=>h5 x (Bjg hx);have:=Ag9 l i;omega
theorem Hj{l:List Int}{i:Nat}(h:i<l.length):(l.take (i+1)).sum=(l.take i).sum+l[i]:=by
 rw[Mg h,Blf];simp
section
variable {l:List Int} (hl:l.length<=1000) (h5:∀x∈l,5<=x) (hs:l.sum<=100000)
include hl h5 hs
theorem Ac4(f c w r n A:Int)(hA:0<=A)(hA2:A<=200000)(k:Nat)(hk:k<=l.length):∀(j i q:Nat),i+j=k->j<q->Lm (k:Int) f c w r n A l q (A+(l.take i).sum) (i:Int)=some (A+(l.take k).sum)
 |0,i,q+1,hi,_=>by
  rw[Lm,Xq,Aab (by rw[Ae];simp;omega),show i=k by omega];rfl
 |j+1,i,q+1,hi,hq=>by
  have hlt:i<l.length:=by omega
  have ih:=Ac4 f c w r n A hA hA2 k hk j (i+1) q (by omega) (by omega);have b1:=Nw h5 i;have b2:=Nw h5 (i+1);have e:=Hj hlt;rw[e,<-Blh]at ih;rw[Lm,Xq,Aah (by rw[Ae];simp;omega),Bu hlt,Aa,Aj (by omega) (by omega),Aj (by omega) (by omega)];exact ih
theorem Auu(f c w r n A:Int)(hA:0<=A)(hA2:A<=200000)(k:Nat)(hk:k<=l.length):VZ f c w r n A l (k:Int)=some (A+(l.take k).sum):=by
 have h:=Ac4 hl h5 hs f c w r n A hA hA2 k hk k 0 Ay (by omega) (by have:=Au;omega);rw[Bey,Bkf,Int.add_zero]at h;exact h
end
theorem Zi{g n:Nat}(hg:1<=g)(hn:1<=n){x:Int}(h:x∈Ah g n):∃m:Nat,x=m/\1<=m/\m<=n:=by
 have hmul:=Bgf (n-1) g;rw[Ah,List.mem_append]at h;rcases h with h|h
 ·rw[List.mem_replicate]at h;have h1:1<= (n-1)/g:=Nat.pos_of_ne_zero h.1;have:=Aiy g h1;exact⟨g,h.2,hg,by omega⟩
 ·rw[List.mem_singleton]at h;exact⟨_,h,by omega,by omega⟩
theorem AI{f c w r n:Nat}(h:Gf f c w r n=true):(1<=c/\c<=6)/\Bt (w:Int)/\ (1<=r/\r<=1048576)/\1<=n/\ (f=1\/f=2):=by
 simp only[Gf,Abv]at h;refine⟨h.2.1,?_,h.2.2.2.1,h.2.2.2.2,h.1⟩;rcases h.2.2.1 with rfl|rfl|rfl
 ·exact .inl rfl
 ·exact .inr (.inl rfl)
 ·exact .inr (.inr rfl)
theorem Bfa(n m:Nat):Qs n m 0≠Qs n m 2147483648:=by
 intro h;simp[Qs,Te,zN]at h
def Cw(b:List UInt8):List UInt8:=b.drop (b.length-32)
theorem Akt{b:List UInt8}(h:32<=b.length):(Cw b).length=32:=by rw[Cw,Akm];omega
def MB(t:List UInt8):Nat:=Fu (part t 12 4)-32
def mnA(t:List UInt8):Nat:=Fu (part t 16 4)
def AD(b:List UInt8):Int×Int:=
 if ¬(32<=b.length/\ (Cw b).take 8=zN)then(0,6)else if GF (Cw b)=true then(0,12)else
 if Cw b=Qs (MB (Cw b)) (mnA (Cw b)) 0 then(if b.length<MB (Cw b)+32 then(0,24)else(((MB (Cw b)+32:Nat):Int),0))else
 if Cw b≠Qs (MB (Cw b)) (mnA (Cw b)) 2147483648 then(0,12)else
 if b.length<MB (Cw b)+64 then(0,24)else
 if(b.take (b.length-(MB (Cw b)+64)+32)).drop (b.length-(MB (Cw b)+64))≠Qs (MB (Cw b)) (mnA (Cw b)) 2684354560 then(0,12)else(((MB (Cw b)+64:Nat):Int),0)
section
variable {b:List UInt8}
theorem ba1(h:¬(32<=b.length/\ (Cw b).take 8=zN)):AD b=(0,6):=by rw[AD,Aah h]
variable (h:32<=b.length/\ (Cw b).take 8=zN)
include h
theorem ba2(h2:GF (Cw b)=true):AD b=(0,12):=by rw[AD,Aab (λh'=>h' h),Aah h2]
variable (h2:GF (Cw b)=false)
include h2
theorem ba3(h3:Cw b=Qs (MB (Cw b)) (mnA (Cw b)) 0):AD b=if b.length<MB (Cw b)+32 then(0,24)else(((MB (Cw b)+32:Nat):Int),0):=by
 rw[AD,Aab (λh'=>h' h),Aab (by rw[h2];simp),Aah h3]
variable (h3:Cw b≠Qs (MB (Cw b)) (mnA (Cw b)) 0)
include h3
theorem ba4(h4:Cw b≠Qs (MB (Cw b)) (mnA (Cw b)) 2147483648):AD b=(0,12):=by
 rw[AD,Aab (λh'=>h' h),Aab (by rw[h2];simp),Aab h3,Aah h4]
variable (h4:Cw b=Qs (MB (Cw b)) (mnA (Cw b)) 2147483648)
include h4
theorem ba5(h5:b.length<MB (Cw b)+64):AD b=(0,24):=by
 rw[AD,Aab (λh'=>h' h),Aab (by rw[h2];simp),Aab h3,Aab (λe=>e h4),Aah h5]
theorem ba6(h5:¬b.length<MB (Cw b)+64):AD b=if(b.take (b.length-(MB (Cw b)+64)+32)).drop (b.length-(MB (Cw b)+64))≠Qs (MB (Cw b)) (mnA (Cw b)) 2684354560 then(0,12)else(((MB (Cw b)+64:Nat):Int),0):=by
 rw[AD,Aab (λh'=>h' h),Aab (by rw[h2];simp),Aab h3,Aab (λe=>e h4),Aab h5]
end
theorem Am2{b:List UInt8}{n:Int}(h:AD b=(n,0)):32<=n/\n<=b.length:=by
 unfold AD at h;split at h; · simp at h
 rename_i h32;split at h; · simp at h
 split at h
 ·split at h; · simp at h
  simp only[Ajt,Bll]at h;omega
 split at h; · simp at h
 split at h; · simp at h
 split at h; · simp at h
 simp only[Ajt,Bll]at h;omega
theorem Auz{b:List UInt8}(h:(AD b).2≠0):(AD b).1=0:=by
 revert h
 unfold AD;split; · simp
 split; · simp
 split
 ·split<;>simp
 split; · simp
 split; · simp
 split<;>simp
theorem Awq{b:List UInt8}(h:32<=b.length)(hl:b.length<4611686018427387904):Am (Ac b) 32=((b.length-32:Nat):Int)/\Bk b ((b.length-32:Nat):Int) (Ac b)=some (Cw b):=by
 refine⟨by rw[Ac,Bp (by omega) (by omega)];omega,?_⟩;rw[Ca (by omega) (by omega)];rfl
theorem Avn(b:List UInt8)(hl:b.length<4611686018427387904):sV b=some (AD b):=by
 rw[sV,oB];by_cases h32:32<=b.length
 ·obtain⟨e1,e2⟩:=Awq h32 hl;have hl3:=Akt h32;rw[Aab (by rw[e1,Ae];simp),e1,e2,Aa,gA,Aa];by_cases hp:(Cw b).take 8=zN
  ·have h:=And.intro h32 hp;rw[Aab (by simpa [zN,hl3]using hp),mC,yO,e1,e2,Aa,fX _ 0 (by omega) (by omega) (by decide),Aa];cases hb:GF (Cw b)with
   |true=>
    rw[ba2 h hb];simp only[Blp,Aoz,Bhy];rw[Aa,fX _ 2147483648 (by omega) (by omega) (by decide),Aa,hb];rfl
   |false=>
    obtain⟨i1,i2,i3,i4⟩:=xB (Cw b) (by omega) hb;have eI:Fu (part (Cw b) 12 4)-32=MB (Cw b):=rfl;have eM:Fu (part (Cw b) 16 4)=mnA (Cw b):=rfl;simp only[Aoz,Bhy];rw[eI]at i3;rw[eM]at i4;rw[eI,eM];by_cases c1:Cw b=Qs (MB (Cw b)) (mnA (Cw b)) 0
    ·have c1':Cw b=Qs (MB (Cw b)) (mnA (Cw b)) (0:UInt64).toNat:=c1;rw[Aah (by simpa using c1'),ba3 h hb c1];by_cases c2:b.length<MB (Cw b)+32
     ·rw[Aah (by rw[Ae];simp;omega),Aah c2]
     ·rw[Aab (by rw[Ae];simp;omega),Aab c2,Aj (by omega) (by omega)];rfl
    ·have c1':¬Cw b=Qs (MB (Cw b)) (mnA (Cw b)) (0:UInt64).toNat:=c1;rw[Aab (by simpa using c1'),Aa,fX _ 2147483648 (by omega) (by omega) (by decide),Aa,hb];simp only[Aoz,Bhy];rw[eI,eM];by_cases c2:Cw b=Qs (MB (Cw b)) (mnA (Cw b)) 2147483648
     ·have c2':Cw b=Qs (MB (Cw b)) (mnA (Cw b)) (2147483648:UInt64).toNat:=c2;rw[Aab (by simpa using c2'),Aj (by omega) (by omega)];by_cases c3:b.length<MB (Cw b)+64
      ·rw[Aah (by rw[Ae,Ac];simp;omega),ba5 h hb c1 c2 c3]
      ·rw[Aab (by rw[Ae,Ac];simp;omega),Ac,Bp (by omega) (by omega),Aj (by omega) (by omega),Ut (by omega) (by omega) (by omega),Aa,Aaw _ _ _ i3 i4 (by decide),Aa,Ii,Aa,ba6 h hb c1 c2 c3];rw[show((b.length:Int)-(((MB (Cw b):Nat):Int)+64)).toNat=b.length-(MB (Cw b)+64) by omega,show((b.length:Int)-(((MB (Cw b):Nat):Int)+64)+32).toNat=b.length-(MB (Cw b)+64)+32 by omega];have e7:(2684354560:UInt64).toNat=2684354560:=rfl;rw[e7];by_cases c4:(b.take (b.length-(MB (Cw b)+64)+32)).drop (b.length-(MB (Cw b)+64))=Qs (MB (Cw b)) (mnA (Cw b)) 2684354560
       ·rw[Aab (by simpa using c4),Aab (λe=>e c4)];rfl
       ·rw[Aah (by simpa using c4),Aah c4]
     ·have c2':¬Cw b=Qs (MB (Cw b)) (mnA (Cw b)) (2147483648:UInt64).toNat:=c2;rw[Aah (by simpa using c2'),ba4 h hb c1 c2]
  ·rw[Aah (by rw[Axk,Bge];intro h;exact hp h.2),ba1 (λh=>hp h.2)]
 ·rw[Aah (by rw[Ac,Bp (by omega) (by omega),Ae];simp;omega),ba1 (λh=>h32 h.1)]
theorem Bb4{b:List UInt8}(h:32<=b.length):(b.take (b.length-32+8)).drop (b.length-32)=(Cw b).take 8:=by
 rw[Cw,List.take_drop]
theorem Ax3(b:List UInt8)(hl:b.length<4611686018427387904):HX b=some (AD b):=by
 rw[HX,OR];by_cases h32:32<=b.length
 ·obtain⟨e1,e2⟩:=Awq h32 hl;have hl3:=Akt h32;rw[Aab (by rw[Ae,Ac];simp;omega),e1,Aj (by omega) (by omega),Ut (by omega) (by omega) (by omega),Aa,show((b.length-32:Nat):Int).toNat=b.length-32 from rfl,show(((b.length-32:Nat):Int)+8).toNat=b.length-32+8 by omega,Bb4 h32];by_cases hp:(Cw b).take 8=zN
  ·have h:=And.intro h32 hp;rw[Aab (by simpa [zN]using hp),OU,QN,e1,e2,Aa,Aj9 _ (by omega) (by omega),Aa];cases hb:GF (Cw b)with
   |true=>rw[ba2 h hb];rfl
   |false=>
    obtain⟨i1,i2,i3,i4⟩:=xB (Cw b) (by omega) hb;have eI:Fu (part (Cw b) 12 4)-32=MB (Cw b):=rfl;have eM:Fu (part (Cw b) 16 4)=mnA (Cw b):=rfl;simp only[Aoz,Bhy,Bkt];rw[eI]at i3;rw[eM]at i4;rw[eI,eM,Nm,Aah rfl,vG _ _ _ i3 i4 (by decide),Aa,Aa];have e7:(2147483648:UInt64).toNat=2147483648:=rfl;have e8:(2684354560:UInt64).toNat=2684354560:=rfl;rw[e7];by_cases c2:Cw b=Qs (MB (Cw b)) (mnA (Cw b)) 2147483648
    ·have c1:Cw b≠Qs (MB (Cw b)) (mnA (Cw b)) 0:=λe=>Bfa (MB (Cw b)) (mnA (Cw b)) (e.symm.trans c2);rw[Aab (by simpa using c2),AM,Zo,Aah (by simpa using c2),AA,AH,Aj (a:=32) (by omega) (by omega),Aj (by omega) (by omega)];by_cases c3:b.length<MB (Cw b)+64
     ·rw[Aah (by rw[Ae,Ac];simp;omega),ba5 h hb c1 c2 c3]
     ·rw[Aab (by rw[Ae,Ac];simp;omega),Aah (by simpa using c2),Ac,Bp (by omega) (by omega),Aj (by omega) (by omega),Ut (by omega) (by omega) (by omega),Aa,Yl,vG _ _ _ i3 i4 (by decide),Aa,Aa,ba6 h hb c1 c2 c3,e8];rw[show((b.length:Int)-(32+((MB (Cw b):Nat):Int)+32)).toNat=b.length-(MB (Cw b)+64) by omega,show((b.length:Int)-(32+((MB (Cw b):Nat):Int)+32)+32).toNat=b.length-(MB (Cw b)+64)+32 by omega];by_cases c4:(b.take (b.length-(MB (Cw b)+64)+32)).drop (b.length-(MB (Cw b)+64))=Qs (MB (Cw b)) (mnA (Cw b)) 2684354560
      ·rw[Aab (by simpa using c4),Aab (λe=>e c4),show(32+((MB (Cw b):Nat):Int)+32)=((MB (Cw b)+64:Nat):Int) by omega]
      ·rw[Aah (by simpa using c4),Aah c4]
    ·rw[Aah (by simpa using c2),Nm,Aab (by simp),vG _ _ _ i3 i4 (by decide),Aa,Aa];have e9:(0:UInt64).toNat=0:=rfl;rw[e9];by_cases c1:Cw b=Qs (MB (Cw b)) (mnA (Cw b)) 0
     ·rw[Aab (by simpa using c1),AM,Zo,Aab (by simpa using c2),AA,AH,Aj (by omega) (by omega),ba3 h hb c1,Aab (c:=(Cw b==Qs (MB (Cw b)) (mnA (Cw b)) 2147483648)=true) (by simpa using c2)];by_cases c3:b.length<MB (Cw b)+32
      ·rw[Aah (by rw[Ae,Ac];simp;omega),Aah c3]
      ·rw[Aab (by rw[Ae,Ac];simp;omega),Aab c3,show(32+((MB (Cw b):Nat):Int))=((MB (Cw b)+32:Nat):Int) by omega]
     ·rw[Aah (by simpa using c1),ba4 h hb c1 c2]
  ·rw[Aah (by simpa [zN]using hp),ba1 (λh=>hp h.2)]
 ·rw[Aah (by rw[Ae,Ac];simp;omega),ba1 (λh=>h32 h.1)]
def Ai4:Nat->List UInt8->Nat->Int×Int
 |0,_,_=>(0,38)
 |j+1,b,a=>if b=[]then((a:Int),0)else if(AD b).2≠0 then(0,38)else Ai4 j (b.take (b.length-(AD b).1.toNat)) (a+1)
theorem Anh:∀(j q a:Nat) (b:List UInt8),b.length<j->j<=q->b.length<=4000->a+b.length<=4000->Wz q (a:Int) b=some (Ai4 j b a)
 |0,_,_,_,h,_,_,_=>by omega
 |j+1,q+1,a,b,h,hq,h4,ha=>by
  rw[Wz,SG,Ai4];by_cases hb:b=[]
  ·subst hb;rw[Aab (by decide),Aah rfl];rfl
  ·have hpos:0<b.length:=List.length_pos_iff.2 hb;rw[Aah (by rw[Aq,Ac];simp;omega),Aab hb,Avn b (by omega),Aa];have hbad:=Auz (b:=b);have hok:=λn=>Am2 (b:=b) (n:=n);generalize AD b=v at*
   obtain⟨n,e⟩:=v;simp only at hbad⊢;rw[MQ,MY];by_cases he:e≠0
   ·rw[Aah he,hbad he,Aah (by decide)]
   ·obtain⟨k1,k2⟩:=hok n (by rw[show e=0 by simpa using he]);rw[Aab he,Aab (by rw[Ar];simp;omega),Ac,Bp (by omega) (by omega),Da (by omega) (by omega),Aa,NM,dH,Aj (by omega) (by omega)];rw[show((b.length:Int)-n).toNat=b.length-n.toNat by omega];have ih:=Anh j q (a+1) (b.take (b.length-n.toNat)) (by rw[Ajr];omega) (by omega) (by rw[Ajr];omega) (by rw[Ajr];omega);rw[<-ih];rfl
theorem Arz:∀(j q a:Nat) (b:List UInt8),b.length<j->j<=q->b.length<=4000->a+b.length<=4000->Pd q b (a:Int)=some (Ai4 j b a)
 |0,_,_,_,h,_,_,_=>by omega
 |j+1,q+1,a,b,h,hq,h4,ha=>by
  rw[Pd,IC,Ai4];by_cases hb:b=[]
  ·subst hb;rw[Aab (by decide),Aah rfl];rfl
  ·have hpos:0<b.length:=List.length_pos_iff.2 hb;rw[Aah (by rw[Aq,Ac];simp;omega),Aab hb,Ax3 b (by omega),Aa];have hok:=λn=>Am2 (b:=b) (n:=n);generalize AD b=v at*
   obtain⟨n,e⟩:=v;simp only;by_cases he:e≠0
   ·rw[Aah he,Aah (by rw[Ak];simpa using he)]
   ·obtain⟨k1,k2⟩:=hok n (by rw[show e=0 by simpa using he]);rw[Aab he,Aab (by rw[Ak];simpa using he),Ac,Bp (by omega) (by omega),Da (by omega) (by omega),Aa,Aj (by omega) (by omega)];rw[show((b.length:Int)-n).toNat=b.length-n.toNat by omega];have ih:=Arz j q (a+1) (b.take (b.length-n.toNat)) (by rw[Ajr];omega) (by omega) (by rw[Ajr];omega) (by rw[Ajr];omega);rw[<-ih];rfl
def NZ(b:List UInt8):Int×Int:=if 4000<b.length then(0,38)else Ai4 (b.length+1) b 0
theorem yS(b:List UInt8)(hl:b.length<4611686018427387904):GY b=some (NZ b):=by
 rw[GY,SA,NZ];by_cases h:4000<b.length
 ·rw[Aah (by rw[Aq,Ac];simp;omega),Aah h]
 ·rw[Aab (by rw[Aq,Ac];simp;omega),Aab h];exact Anh _ Ay 0 b (by omega) (by have:=Au;omega) (by omega) (by omega)
theorem Apj(b:List UInt8)(hl:b.length<4611686018427387904):CF b=some (NZ b):=by
 rw[CF,GV,NZ];by_cases h:4000<b.length
 ·rw[Aah (by rw[Aq,Ac];simp;omega),Aah h]
 ·rw[Aab (by rw[Aq,Ac];simp;omega),Aab h];exact Arz _ Ay 0 b (by omega) (by have:=Au;omega) (by omega) (by omega)
theorem mF{a b:Nat}(h:a<9223372036854775808):Cv (a:Int) (b:Int)=((a/b:Nat):Int):=by
 have:a/b<=a:=As2 _ _;rw[SF,Be1 (by omega),<-Int.natCast_ediv];generalize a/b=k at*
 exact Cx (by omega) (by omega)
theorem xQ{bits:Int}(h:Bt bits)(x:Int):(ND bits x).length=wB bits:=by
 obtain rfl|rfl|rfl:=h<;>rfl
theorem aC{bits:Int}(h:Bt bits):∀l:List Int32,(Cy bits l).length=l.length*wB bits
 |[]=>by simp[Cy]
 |x::l=>by
  have h1:=aC h l;have h2:=xQ h x.toInt;simp only[Cy,List.flatMap_cons,Aav,Anu,Bj8]at*
  omega
def wD(b:List UInt8)(A:Nat)(l:List Int)(k:Nat):List UInt8:=(b.take ((A:Int)+(l.take (k+1)).sum).toNat).drop ((A:Int)+(l.take k).sum).toNat
structure Gts (b p:List UInt8) (f c w r n A:Nat) (l:List Int) (k m:Nat) (x:List Int32) (s:List UInt8) (e:Int):Prop where
 mom:Ap (Ah (Ao r) n) (k:Int)=some (m:Int)
 pos:1<=m/\m*c<=4000
 got:Uc b p (f:Int) (c:Int) (w:Int) (r:Int) (n:Int) (A:Int) l (k:Int)=some (s,e)
 none':e≠0->s=[]/\x=[]
 some':e=0->s=Cy (w:Int) x/\x.length=m*c/\Ax (w:Int) x=some 0/\Jg (w:Int) x=some (s,0)/\ (A:Int)+(l.take (k+1)).sum<=b.length
 way:((b.length:Int)<(A:Int)+(l.take (k+1)).sum/\e=24)\/ ((A:Int)+(l.take (k+1)).sum<=b.length/\Jv (c:Int) (w:Int) (Wd p) (m:Int) (wD b A l k)=some (x,e)/\Di (c:Int) (w:Int) (Wd p) (m:Int) (wD b A l k)=some (x,e))
theorem NR{b p:List UInt8}{f c w r n A:Nat}{l:List Int}(o:Opn b p f c w r n A l)(k:Nat)(hk:k<l.length):∃m x s e,Gts b p f c w r n A l k m x s e:=by
 obtain⟨hc,hw,hr,hn,_⟩:=AI o.shape;have hfit:n<=4000/c:=by have:=o.fit;simp only[BH,Abv]at this;exact this.1
 have hn4:n<=4000:=by have:=As2 4000 c;omega
 have hA:=o.at';have Bam:=o.file;have hlen:=o.len;have b1:=Nw o.five k;have b2:=Nw o.five (k+1);have e:=Hj hk;have h5:=o.five l[k] (Am7 _);have hsum:=o.sum;have hs1:=o.some1;have hkf:k<(Ah (Ao r) n).length:=by omega
 obtain⟨m,hm,m1,m2⟩:=Zi (Fh r) hn (Am7 hkf);have Bd9:Ap (Ah (Ao r) n) (k:Int)=some (m:Int):=by rw[Bu hkf,hm]
 have hpos:1<=m/\m*c<=4000:=by
  refine⟨m1,?_⟩;have:=Aiy c (Bld m2 hfit);have:=Bgf 4000 c;omega
 have hR:Uc b p (f:Int) (c:Int) (w:Int) (r:Int) (n:Int) (A:Int) l (k:Int)=Uc b p (f:Int) (c:Int) (w:Int) (r:Int) (n:Int) (A:Int) l (k:Int):=rfl
 conv at hR=>rhs;rw[Uc,TB,Auu hs1.2 o.five o.sum _ _ _ _ _ (A:Int) (by omega) (by omega) k (by omega),Aa,Bu hk,Aa,Bp (by rw[Ac];omega) (by rw[Ac];omega)]
 by_cases hto:(b.length:Int)<(A:Int)+(l.take (k+1)).sum
 ·rw[Aah (by rw[Ae,Ac,Abv];omega)]at hR;exact⟨m,[],[],24,Bd9,hpos,hR,λ_=>⟨rfl,rfl⟩,λh=>by simp at h, .inl ⟨hto,rfl⟩⟩
 ·rw[Aab (by rw[Ae,Ac,Abv];omega),dS p o.pass,XV hr.2 hn hn4]at hR;simp only[Aa]at hR;rw[Aj (a:=(A:Int)+(l.take k).sum) (b:=l[k]) (by omega) (by omega),Blh,<-e,Bd9]at hR;simp only[Aa]at hR;rw[Ut (by omega) (by omega) (by omega),Aa]at hR;obtain⟨x,er,g1,g2,g3,g4⟩:=FR (ch:=c) (n:=m) (t:=Wd p) (wD b A l k) hw (Qb p) hc.1 hc.2 m1 (by omega);rw[show(b.take ((A:Int)+(l.take (k+1)).sum).toNat).drop ((A:Int)+(l.take k).sum).toNat=wD b A l k from rfl,g2,Aa]at hR;simp only at hR;rw[TG,TH]at hR;by_cases her:er=0
  ·obtain⟨g5,g6,g7⟩:=g3 her;rw[Aab (by rw[Ak];simpa using her),UF hw g6 g5,Aa]at hR;subst her;exact⟨m,x,_,0,Bd9,hpos,hR,λh=>absurd rfl h,λ_=>⟨rfl,g7,g5,gD hw g6 g5,by omega⟩, .inr ⟨by omega,g1,g2⟩⟩
  ·rw[Aah (by rw[Ak];simpa using her)]at hR;exact⟨m,x,_,er,Bd9,hpos,hR,λh=>⟨rfl,g4 h⟩,λh=>absurd h her, .inr ⟨by omega,g1,g2⟩⟩
theorem Gts.lens{b p:List UInt8}{f c w r n A:Nat}{l:List Int}{k m:Nat}{x:List Int32}{s:List UInt8}{e:Int}(hw:Bt (w:Int))(g:Gts b p f c w r n A l k m x s e):s.length<=12000/\x.length<=4000/\ (e=0->s.length=m*c*wB (w:Int)):=by
 by_cases he:e=0
 ·obtain⟨h1,h2,_⟩:=g.some' he;have h3:=MP (w:Int) x;have h4:=aC hw x;have h5:=g.pos;rw[<-h1]at h3 h4;refine⟨by omega,by omega,λ_=>by rw[h4,h2]⟩
 ·obtain⟨h1,h2⟩:=g.none' he;exact⟨by simp[h1],by simp[h2],λh=>absurd h he⟩
def KP(b p:List UInt8)(f c w r n A:Nat)(l:List Int)(k:Nat):List UInt8×Int:=(Uc b p (f:Int) (c:Int) (w:Int) (r:Int) (n:Int) (A:Int) l (k:Int)).getD ([],0)
theorem Gts.eq{b p:List UInt8}{f c w r n A:Nat}{l:List Int}{k m:Nat}{x:List Int32}{s:List UInt8}{e:Int}(g:Gts b p f c w r n A l k m x s e):KP b p f c w r n A l k=(s,e):=by rw[KP,g.got];rfl
def Bib(b:List UInt8)(A:Nat)(l:List Int):Int:=(NZ (b.drop ((A:Int)+l.sum).toNat)).2
def pM(b:List UInt8)(k:Nat):Nat:=(b.getD k 0).toNat
def sx(n:Nat)(b:List UInt8)(a:Nat):Int:=
 if n=1 then(pM b a:Int)-128 else
 if n=2 then(if pM b a+256*pM b (a+1)<32768 then(pM b a+256*pM b (a+1):Nat)else((pM b a+256*pM b (a+1):Nat):Int)-65536)else
 (if pM b a+256*pM b (a+1)+65536*pM b (a+2)<8388608 then(pM b a+256*pM b (a+1)+65536*pM b (a+2):Nat)else((pM b a+256*pM b (a+1)+65536*pM b (a+2):Nat):Int)-16777216)
def sxs(n m:Nat)(b:List UInt8):List Int32:=(List.range m).map λx=>Int32.ofInt (sx n b (x*n))
theorem Bd0(n m:Nat)(b:List UInt8):(sxs n m b).length=m:=by simp[sxs]
theorem sx2(b:List UInt8)(a:Nat):sx 2 b a=if pM b a+256*pM b (a+1)<32768 then((pM b a+256*pM b (a+1):Nat):Int)else((pM b a+256*pM b (a+1):Nat):Int)-65536:=rfl
theorem sx3(b:List UInt8)(a:Nat):sx 3 b a=if pM b a+256*pM b (a+1)+65536*pM b (a+2)<8388608 then((pM b a+256*pM b (a+1)+65536*pM b (a+2):Nat):Int)else((pM b a+256*pM b (a+1)+65536*pM b (a+2):Nat):Int)-16777216:=rfl
variable (b:List UInt8)
end Go.Pl
namespace Go.Pl
open Go Go.Lv
theorem Bgc{c:Nat}{w:Nat}(hc:c<=6)(hw:Bt (w:Int)):Cv (Bn (c:Int) (w:Int)) 8=((c*wB (w:Int):Nat):Int):=by
 have h:w=8\/w=16\/w=24:=by unfold Bt at hw;omega
 have:c=0\/c=1\/c=2\/c=3\/c=4\/c=5\/c=6:=by omega
 rcases h with rfl|rfl|rfl<;>rcases this with rfl|rfl|rfl|rfl|rfl|rfl|rfl<;>rfl
theorem Bf4{w:Nat}(hw:Bt (w:Int)):8*wB (w:Int)=w/\w<=24:=by
 have h:w=8\/w=16\/w=24:=by unfold Bt at hw;omega
 rcases h with rfl|rfl|rfl<;>exact⟨rfl,by omega⟩
theorem Bfw{t c w:Nat}(ht:t<=4000)(hc:c<=6)(hw:Bt (w:Int)):Cv (Bn (Bn (t:Int) (c:Int)) (w:Int)) 8=((t*(c*wB (w:Int)):Nat):Int):=by
 obtain⟨h1,h2⟩:=Bf4 hw;have e1:(t:Int)*(c:Int)=((t*c:Nat):Int):=by simp
 have b1:t*c<=4000*6:=Bgv ht hc;have b2:t*c*w<=24000*24:=Bgv b1 h2;rw[Hh (a:=(t:Int)) (by rw[e1];omega) (by rw[e1];omega),e1,Hh (by rw[<-Av5];omega) (by rw[<-Av5];omega),<-Av5,show(8:Int)=((8:Nat):Int)from rfl,mF (by omega)];congr 1;generalize wB (w:Int)=W at*
 subst h1;rw[Nat.mul_left_comm,Nat.mul_div_cancel_left _ (by omega),Bhu]
def smF(w:Nat)(y:List UInt8×Int):List Int32:=if y.2≠0 then []else sxs (wB (w:Int)) (y.1.length/wB (w:Int)) y.1
theorem wG(z:Int):(u8 z).toNat=(z %256).toNat:=by
 have:(z %256).toNat<256:=by omega
 rw[u8,Anz,Ab3 (by omega)]
theorem Ae1{bits:Int}(h:Bt bits):∀(l:List Int32) (i j:Nat),i<l.length->j<wB bits-> (Cy bits l).getD (i*wB bits+j) 0=(ND bits (l.getD i 0).toInt).getD j 0
 |[],i,j,hi,_=>by simp at hi
 |x::l,0,j,_,hj=>by
  have h1:=xQ h x.toInt;have e:Cy bits (x::l)=ND bits x.toInt++Cy bits l:=by simp[Cy]
  rw[e,Nat.zero_mul,Bar,List.getD_eq_getElem?_getD,List.getD_eq_getElem?_getD,List.getElem?_append_left (by omega)];rfl
 |x::l,i+1,j,hi,hj=>by
  have h1:=xQ h x.toInt;have e:Cy bits (x::l)=ND bits x.toInt++Cy bits l:=by simp[Cy]
  have ih:=Ae1 h l i j (by simpa using hi) hj;have e2:(i+1)*wB bits+j=(ND bits x.toInt).length+(i*wB bits+j):=by rw[Av1,Nat.one_mul,h1];omega
  rw[e,e2,List.getD_eq_getElem?_getD,List.getElem?_append_right (by omega),Bga,<-List.getD_eq_getElem?_getD,ih];rfl
theorem Bb2{bits:Int}(h:Bt bits)(l:List Int32)(hr:inR bits l)(i:Nat)(hi:i<l.length):Int32.ofInt (sx (wB bits) (Cy bits l) (i*wB bits))=l.getD i 0:=by
 have hm:l.getD i 0∈l:=by rw[List.getD_eq_getElem?_getD,List.getElem?_eq_getElem hi];exact Am7 hi
 have hv:=hr _ hm;have g:∀j,j<wB bits->pM (Cy bits l) (i*wB bits+j)=((ND bits (l.getD i 0).toInt).getD j 0).toNat:=λj hj=>by rw[pM,Ae1 h l i j hi hj]
 generalize l.getD i 0=x at*
 have key:sx (wB bits) (Cy bits l) (i*wB bits)=x.toInt:=by
  generalize hA:i*wB bits=a at*
  obtain rfl|rfl|rfl:=h
  ·have g0:=g 0 (by decide);have e1:(ND 8 x.toInt).getD 0 0=u8 (x.toInt+128):=rfl;rw[Bg2,e1,wG]at g0;simp only[hB]at hv;simp at hv;have e2:wB 8=1:=rfl;rw[e2,sx,Aah rfl,g0];omega
  ·have g0:=g 0 (by decide);have g1:=g 1 (by decide);have e0:(ND 16 x.toInt).getD 0 0=u8 x.toInt:=rfl;have e1:(ND 16 x.toInt).getD 1 0=u8 (x.toInt/256):=rfl;rw[Bg2,e0,wG]at g0;rw[e1,wG]at g1;simp only[hB]at hv;simp at hv;have e2:wB 16=2:=rfl;rw[e2,sx2,g0,g1];split<;>omega
  ·have g0:=g 0 (by decide);have g1:=g 1 (by decide);have g2:=g 2 (by decide);have e0:(ND 24 x.toInt).getD 0 0=u8 x.toInt:=rfl;have e1:(ND 24 x.toInt).getD 1 0=u8 (x.toInt/256):=rfl;have e3:(ND 24 x.toInt).getD 2 0=u8 (x.toInt/65536):=rfl;rw[Bg2,e0,wG]at g0;rw[e1,wG]at g1;rw[e3,wG]at g2;simp only[hB]at hv;simp at hv;have e2:wB 24=3:=rfl;rw[e2,sx3,g0,g1,g2];split<;>omega
 rw[key];simp
theorem Az7{bits:Int}(h:Bt bits)(l:List Int32)(hr:inR bits l):sxs (wB bits) l.length (Cy bits l)=l:=by
 refine Baq (Bd0 _ _ _) λi h1 h2=>?_;have:=Bb2 h l hr i h2;simp only[sxs,Bjj,Bjd];rw[this,List.getD_eq_getElem?_getD,List.getElem?_eq_getElem h2];rfl
theorem Gts.xT{b p:List UInt8}{f c w r n A:Nat}{l:List Int}{k m:Nat}{x:List Int32}{s:List UInt8}{e:Int}(hw:Bt (w:Int))(g:Gts b p f c w r n A l k m x s e):smF w (s,e)=x:=by
 have hwb:=Agi (w:Int);by_cases he:e=0
 ·obtain⟨h1,h2,h3,_⟩:=g.some' he;have h4:=g.pos;have h5:=aC hw x;rw[smF,Aab (by simpa using he)];simp only;rw[h1,h5,Nat.mul_div_cancel _ (by omega)];exact Az7 hw x (pH hw (by omega) h3)
 ·rw[smF,Aah he,(g.none' he).2]
abbrev C5:=Int×Int×Int×List Int32×Int
def Bjt(e:Int):C5:=(0,0,0,[],e)
theorem Ach{qU p:List UInt8}(hs:qU.length=8)(hp:p.length<=64):Rq qU p=some (qU==Te (Wv p).toNat 8,0):=by
 rw[Rq,oV p hp,Aa];simp only;rw[Aab (by rw[Ak,Ak,Ac,Ac,Cf,hs];simp),Ii,Aa]
def Bb1(X:Nat->List Int32)(E:Nat->Int)(be:Int):Nat->Nat->List Int32->List Int32×Int
 |0,_,acc=>if be≠0 then([],38)else(acc,0)
 |j+1,k,acc=>if E k≠0 then([],E k)else Bb1 X E be j (k+1) (acc++X k)
def Alc(c w r:Nat)(y:List Int32×Int):C5:=if y.2≠0 then Bjt y.2 else((c:Int),(w:Int),(r:Int),y.1,0)
section
variable {b p:List UInt8} {f c w r n A:Nat} {l:List Int} (o:Opn b p f c w r n A l)
include o
theorem xM(a1 a2 a3 a4:Int):∀(j k q:Nat) (acc:List Int32),k+j=l.length->j<q-> (k=l.length-> (A:Int)+l.sum<=b.length)->acc.length<=4000*k->
  JC b l (f:Int) (c:Int) (w:Int) (r:Int) (n:Int) a1 a2 a3 (A:Int) a4 (Wd p) (Ah (Ao r) n) q ((A:Int)+(l.take k).sum) (k:Int) acc=
   some (Alc c w r (Bb1 (λk=>smF w (KP b p f c w r n A l k)) (λk=>(KP b p f c w r n A l k).2) (Bib b A l) j k acc))
 |0,k,q+1,acc,hk,_,hfit,_=>by
  have hA:=o.at';have Bam:=o.file;have hs1:=o.some1;have hsum:=o.sum;have b1:=Nw o.five l.length;have hf:=hfit (by omega);obtain rfl:k=l.length:=by omega
  rw[Bgh]at b1⊢;rw[JC,WU,Aab (by rw[Ae,Ac];simp),kT,lL,Ca (by omega) (by omega),Aa,yS _ (by rw[Akm];omega),Aa,Bb1,Bib];generalize NZ (b.drop ((A:Int)+l.sum).toNat)=v;obtain⟨v1,v2⟩:=v;simp only;by_cases hv:v2≠0
  ·rw[Aah hv,Aah (by rw[Ak];simpa using hv),Alc,Aah (by simp)];rfl
  ·rw[Aab hv,Aab (by rw[Ak];simpa using hv),Alc,Aab (by simp)]
 |j+1,k,q+1,acc,hk,hq,hfit,hacc=>by
  have hA:=o.at';have Bam:=o.file;have hs1:=o.some1;have hsum:=o.sum;have b1:=Nw o.five k;have b2:=Nw o.five (k+1);have hkl:k<l.length:=by omega
  have e2:=Hj hkl;have h5:=o.five l[k] (Am7 _);obtain⟨m,x,s,e,g⟩:=NR o k hkl;obtain⟨hc,hw,hr,hn,_⟩:=AI o.shape;have hl:=g.lens hw;rw[JC,WU,Aah (by rw[Ae,Ac];simp;omega),Bu hkl,Aa,Aa,Aj (a:=(A:Int)+(l.take k).sum) (by omega) (by omega),Blh,<-e2,Ac,Bb1,g.eq];simp only;rcases g.way with⟨h1,h2⟩|⟨h1,h2,_⟩
  ·rw[Aah (by rw[Ae,Abv];omega),Aah (by rw[h2];simp),h2,Alc,Aah (by simp)];rfl
  ·rw[Aab (by rw[Ae,Abv];omega),g.mom];simp only[Aa];rw[Ut (by omega) (by omega) (by omega),Aa,show(b.take ((A:Int)+(l.take (k+1)).sum).toNat).drop ((A:Int)+(l.take k).sum).toNat=wD b A l k from rfl,h2,Aa];simp only;rw[lQ,lM];by_cases he:e≠0
   ·rw[Aah (by rw[Ak];simpa using he),Aah he,Alc,Aah he];rfl
   ·have he0:e=0:=by simpa using he
    have Be2:=(g.some' he0).2.2.2.2;rw[Aab (by rw[Ak];simpa using he),Aab he,g.xT hw,By (by omega),Aa,Aj (a:=(A:Int)+(l.take k).sum) (by omega) (by omega),Blh,<-e2,Aj (by omega) (by omega)];exact xM a1 a2 a3 a4 j (k+1) q (acc++x) (by omega) (by omega) (λh=>by rw[h,Bgh]at Be2;exact Be2) (by rw[Aav];omega)
end
def BP(b:List UInt8):List Int:=Ah (Ao (f3 (Eg b))) (f4 (Eg b))
def YT(b:List UInt8):Nat:=(Az b).1.toNat+22+(if f0 (Eg b)=2 then 8 else 0)
theorem start_eq(b:List UInt8)(hb:b.length<=100100):
  (∃e:Int,e≠0/\ (∃r1 r2 r3 r4 r5,FD b=some (r1,r2,r3,r4,r5,0,0,0,0,0,[],e))/\ (∃q0 q1 q2 q3 q4 q5,Gz b=some (q0,q1,q2,q3,q4,q5,e)))\/
  (b.length<=100000/\ (Az b).2=0/\ (Dt (Eg b)).2.2.2.2.2=0/\
   FD b=some ((f0 (Eg b):Int),(f1 (Eg b):Int),(f2 (Eg b):Int),(f3 (Eg b):Int),(f4 (Eg b):Int),(Az b).1,(Az b).1+22,(YT b:Int),0,0,BP b,0)/\
   Gz b=some ((Az b).1,(f0 (Eg b):Int),(f1 (Eg b):Int),(f2 (Eg b):Int),(f3 (Eg b):Int),(f4 (Eg b):Int),0)):=by
 by_cases h1:100000<b.length
 ·refine .inl ⟨4,by omega,⟨0,0,0,0,0,?_⟩,⟨0,0,0,0,0,0,?_⟩⟩
  ·rw[FD,Aah (by rw[Aq,Ac];simp;omega)]
  ·rw[Gz,Aah (by rw[Aq,Ac];simp;omega)]
 ·rw[FD,Aab (by rw[Aq,Ac];simp;omega),Gz,Aab (by rw[Aq,Ac];simp;omega),Qf b (by omega),Vp b (by omega),Aa,Aa];by_cases h2:(Az b).2=0
  ·obtain⟨p0,p1,p2⟩:=Xh h2;have hc:=Ca (l:=b) p0 p1;simp only[h2];rw[Aab (by rw[Ak];simp),Aab (by rw[Ak];simp),hc,Aa,Aa,show b.drop (Az b).1.toNat=Eg b from rfl,NY _ (by simp[Eg];omega),XJ _ (by simp[Eg];omega),Aa,Aa];by_cases h3:(Dt (Eg b)).2.2.2.2.2=0
   ·obtain⟨g1,g2,g3,g4⟩:=dR h3;refine .inr ⟨by omega,trivial,h3,?_,?_⟩
    ·rw[g1];simp only;rw[Aab (by rw[Ak];simp),kP g3 g4,Aa];simp only;have t22:Ad (Az b).1 22=(Az b).1+22:=Aj (by omega) (by omega);have t30:Ad ((Az b).1+22) 8=(Az b).1+22+8:=Aj (by omega) (by omega);rw[Ar,t22,t30];by_cases h5:f0 (Eg b)=2
     ·rw[Aah (by rw[h5];rfl)];rw[show(Az b).1+22+8=(YT b:Int) by rw[YT,Aah h5];omega];rfl
     ·rw[Aab (by simp;omega)];rw[show(YT b:Int)=(Az b).1+22 by rw[YT,Aab h5];omega];rfl
    ·rw[g1]
   ·generalize Dt (Eg b)=v at*
    obtain⟨v1,v2,v3,v4,v5,v6⟩:=v;simp only at h3⊢;exact .inl ⟨v6,h3,⟨v1,v2,v3,v4,v5,by rw[Aah (by rw[Ak];simpa using h3)]⟩,⟨(Az b).1,v1,v2,v3,v4,v5,rfl⟩⟩
  ·generalize Az b=v at*
   obtain⟨v,e⟩:=v;simp only at h2⊢;refine .inl ⟨e,h2,⟨0,0,0,0,0,?_⟩,⟨0,0,0,0,0,0,?_⟩⟩
   ·rw[Aah (by rw[Ak];simpa using h2)]
   ·rw[Aah (by rw[Ak];simpa using h2)]
theorem Acx(l:List Int)(b:List UInt8)(r2 r3 r4 r5 r6 r7 r8 r9:Int)(l12:List Int)(hl:l.length<=1000)(h5:∀x∈l,5<=x):∀(j i q:Nat) (s:Int),i+j=l.length->j<q->0<=s->s+(l.drop i).sum<=1000000->
  Ur l b r2 r3 r4 r5 r6 r7 r8 r9 l12 q (i:Int) s=DL b l r2 r3 r4 r5 r6 r7 r8 r9 (s+(l.drop i).sum) l12
 |0,i,q+1,s,hi,_,_,_=>by
  rw[Ur,IJ,Aab (by rw[Ae,Ac];simp;omega),show i=l.length by omega,Bhb];simp
 |j+1,i,q+1,s,hi,hq,h0,hs=>by
  have hlt:i<l.length:=by omega
  have hx:=h5 l[i] (Am7 hlt);have h2:=Aj7 (l.drop (i+1)) λy hy=>h5 y (Bjg hy);rw[drop_cons hlt,Av4]at hs⊢;rw[Ur,IJ,Aah (by rw[Ae,Ac];simp;omega),Bu hlt,Aa,Aa,Aj (by omega) (by omega),Aj (by omega) (by omega)];have ih:=Acx l b r2 r3 r4 r5 r6 r7 r8 r9 l12 hl h5 j (i+1) q (s+l[i]) (by omega) (by omega) (by omega) (by omega);rw[show((i:Int)+1)=((i+1:Nat):Int) by omega,ih,Blh]
theorem nI(b:List UInt8)(r2 x1:Int)(l:List Int)(hl:l.length<=1000)(h5:∀x∈l,5<=x):∀(j i q:Nat) (s:Int),i+j=l.length->j<q->0<=s->s+(l.drop i).sum<=1000000->
  Lk b r2 x1 l q (i:Int) s=Xo b r2 x1 l (s+(l.drop i).sum)
 |0,i,q+1,s,hi,_,_,_=>by
  rw[Lk,Xx,Aab (by rw[Ae,Ac];simp;omega),show i=l.length by omega,Bhb];simp
 |j+1,i,q+1,s,hi,hq,h0,hs=>by
  have hlt:i<l.length:=by omega
  have hx:=h5 l[i] (Am7 hlt);have h2:=Aj7 (l.drop (i+1)) λy hy=>h5 y (Bjg hy);rw[drop_cons hlt,Av4]at hs⊢;rw[Lk,Xx,Aah (by rw[Ae,Ac];simp;omega),Bu hlt,Aa,Aa,Aj (by omega) (by omega),Aj (by omega) (by omega)];have ih:=nI b r2 x1 l hl h5 j (i+1) q (s+l[i]) (by omega) (by omega) (by omega) (by omega);rw[show((i:Int)+1)=((i+1:Nat):Int) by omega,ih,Blh]
theorem An3{b p:List UInt8}{f c w r n A:Nat}{l:List Int}(o:Opn b p f c w r n A l)(hfit:(A:Int)+l.sum<=b.length):
  ZZ b=some ((Az b).1,(Az b).1+22,(A:Int)-4*(l.length:Int)-4,(A:Int),(A:Int)+l.sum,0)/\VS b=some ((Az b).1,(Az b).1+22,(A:Int)-4*(l.length:Int)-4,(A:Int),(A:Int)+l.sum,0):=by
 have Bam:=o.file;have hhead:=o.head;have hpos:=o.pos;have hlen:=o.len;have hs1:=o.some1;have hsum:=o.sum;have hA:=o.at';obtain⟨p0,p1,p2⟩:=Xh o.tag;have h3:(Dt (Eg b)).2.2.2.2.2=0:=by rw[hhead]
 obtain⟨c1,c2,c3,c4⟩:=dR h3;rw[c1]at hhead;simp only[Ajt]at hhead;obtain⟨i1,i2,i3,i4,i5,_⟩:=hhead;have e1:f0 (Eg b)=f:=by omega
 have e2:f1 (Eg b)=c:=by omega
 have e3:f2 (Eg b)=w:=by omega
 have e4:f3 (Eg b)=r:=by omega
 have e5:f4 (Eg b)=n:=by omega
 have htab:=o.tab;have hT:(Az b).1.toNat+22+(if f=2 then 8 else 0)=YT b:=by rw[YT,e1]
 rw[hT]at htab;have hTA:(YT b:Int)=(A:Int)-4*(l.length:Int)-4:=by omega
 have hfr:BP b=Ah (Ao r) n:=by rw[BP,e4,e5]
 have hk:(BP b).length=l.length:=by rw[hfr,hlen]
 obtain⟨hc,hw,hr,hn,_⟩:=AI o.shape;have Bl2:n<=4000/c:=by have:=o.fit;simp only[BH,Abv]at this;exact this.1
 have hn4:n<=4000:=by have:=As2 4000 c;omega
 have Bd5:Ei (f3 (Eg b):Int) (f4 (Eg b):Int)=some (BP b):=by rw[hfr,e4,e5];exact XV hr.2 hn hn4
 rw[ZZ,UN,VS,MF];rcases start_eq b (by omega)with⟨e,he,_,⟨q0,q1,q2,q3,q4,q5,h2⟩⟩|⟨_,_,_,h1,h2⟩
 ·exfalso;have hr2:=Gz b;have:Gz b=some ((Az b).1,(f0 (Eg b):Int),(f1 (Eg b):Int),(f2 (Eg b):Int),(f3 (Eg b):Int),(f4 (Eg b):Int),0):=by
   have hcut:=Ca (l:=b) p0 p1;have htag:=o.tag;rw[Gz,Aab (by rw[Aq,Ac];simp;omega),Vp b (by omega),Aa];generalize hv:Az b=v at*
   obtain⟨v1,v2⟩:=v;simp only at htag hcut⊢;rw[Aab (by rw[Ak];simpa using htag),hcut,Aa,show b.drop v1.toNat=Eg b by rw[Eg,hv],XJ _ (by simp[Eg];omega),c1,Aa]
  rw[h2]at this;have:=Bhg this;simp only[Ajt]at this;exact he this.2.2.2.2.2.2
 ·rw[h1,h2,Aa,Aa];have z:Bi (0:Int) 0=false:=by decide
  simp only[z,Aoz,Bhy];have e22:Ad (Az b).1 22=(Az b).1+22:=Aj (by omega) (by omega);have e30:Ad ((Az b).1+22) 8=(Az b).1+22+8:=Aj (by omega) (by omega);have hr:(if geq (f0 (Eg b):Int) 2=true then Lf b (f0 (Eg b)) (f1 (Eg b)) (f2 (Eg b)) (f3 (Eg b)) (f4 (Eg b)) (Az b).1 (Ad (Ad (Az b).1 22) 8)else Lf b (f0 (Eg b)) (f1 (Eg b)) (f2 (Eg b)) (f3 (Eg b)) (f4 (Eg b)) (Az b).1 (Ad (Az b).1 22))=
    Lf b (f0 (Eg b)) (f1 (Eg b)) (f2 (Eg b)) (f3 (Eg b)) (f4 (Eg b)) (Az b).1 (YT b:Int):=by
   rw[e22,e30,Ar];by_cases h5:f0 (Eg b)=2
   ·rw[Aah (by rw[h5];rfl),show(Az b).1+22+8=(YT b:Int) by rw[YT,Aah h5];omega]
   ·rw[Aab (by simp;omega),show(Az b).1+22=(YT b:Int) by rw[YT,Aab h5];omega]
  have hc:=Ca (l:=b) (a:=(YT b:Int)) (by omega) (by omega);rw[Ahr]at hc;have hdl:(b.drop (YT b)).length<=100100:=by simp;omega
  have hsp:=pD (b.drop (YT b)) (BP b).length hdl;have hsr:=Abk (b.drop (YT b)) (BP b).length hdl;rw[hk,htab]at hsp hsr;have eA:Ad (Ad (YT b:Int) (Bn 4 (Ac l))) 4=(A:Int):=by
   have a1:Bn 4 (Ac l)=4*(l.length:Int):=Hh (by unfold Ac;omega) (by unfold Ac;omega);have a2:Ad (YT b:Int) (4*(l.length:Int))=(YT b:Int)+4*(l.length:Int):=Aj (by omega) (by omega);rw[a1,a2,Aj (by omega) (by omega)];omega
  rw[hr,Lf,LN,Aab (by rw[Ae,Ac];simp;omega),Aab (by rw[Ae,Ac];simp;omega),YF,hc,Bd5,Aa,Aa,Aa,show Ac (BP b)=((BP b).length:Int)from rfl,hk,hsp,hsr,Aa,Aa,Aa];simp only;rw[YD,YG];simp only[z,Aoz,Bhy];rw[eA,XX,LK];have q1:=Acx l b (f0 (Eg b)) (f1 (Eg b)) (f2 (Eg b)) (f3 (Eg b)) (f4 (Eg b)) (Az b).1 ((Az b).1+22) (YT b) (BP b) (by omega) o.five l.length 0 Ay (A:Int) (by omega) (by have:=Au;omega) (by omega) (by rw[Bka];omega);have q2:=nI b (Az b).1 (YT b) l (by omega) o.five l.length 0 Ay (A:Int) (by omega) (by have:=Au;omega) (by omega) (by rw[Bka];omega);rw[Bka]at q1 q2;rw[show(0:Int)=((0:Nat):Int)from rfl,q1,q2,DL,RE,Wr,SO,z,Aab (by simp),SE,iY,Xo,LY,eA,e22];rw[Aab (by rw[Ae,Ac];simpa using hfit),hTA];exact⟨rfl,rfl⟩
theorem Aw5{ch:Nat}{bits:Int}(hb:Bt bits)(h1:1<=ch)(h6:ch<=6):Hl (ch:Int) bits=some 0:=by
 have hr:∃x y,Vi bits=some (x,y,0):=⟨_,_,Ai5 hb⟩;obtain⟨x,y,hr⟩:=hr;rw[Hl,hr,Aa];simp only;rw[Aab (by simp[Ak,Ae,Aq];omega)]
abbrev P6':=Int×Int×Int×List Int32×List Int×Int
def Ayb(e:Int):P6':=(0,0,0,[],[],e)
theorem Aa0{c r n:Nat}(h:BH c r n=true):1<= (Ah (Ao r) n).length/\ (Ah (Ao r) n).length<=1000:=by
 simp only[BH,Abv]at h;rw[AB];exact⟨Nat.le_add_left _ _,h.2⟩
theorem Asl(g:Nat):∀K:Nat,(List.replicate K (g:Int)).sum=((K*g:Nat):Int)
 |0=>by simp
 |K+1=>by
  rw[Beu,Av4,Asl g K,Bj8];omega
theorem yH{g n:Nat}(hn:1<=n):(Ah g n).sum=(n:Int):=by
 have h:=Bgf (n-1) g;rw[Ah,Blf,Asl];simp only[Av4,Bkf];omega
theorem Aof:∀{l:List Int},(∀x∈l,0<=x)->0<=l.sum
 |[],_=>by simp
 |x::l,h=>by
  have h1:=h x Avz;have h2:=Aof (l:=l) λy hy=>h y (Anw _ hy);rw[Av4];omega
theorem OK{l:List Int}(h:∀x∈l,0<=x)(i:Nat):0<= (l.take i).sum/\ (l.take i).sum<=l.sum:=by
 have h1:=Aof (l:=l.take i) λx hx=>h x (Bjy hx);have h2:=Aof (l:=l.drop i) λx hx=>h x (Bjg hx);have:=Ag9 l i;omega
def FA(c w:Nat)(fr:List Int)(k:Nat):Int:=(((fr.take k).sum.toNat*(c*wB (w:Int)):Nat):Int)
section
variable {f c w r n:Nat} (h1:Gf f c w r n=true) (h2:BH c r n=true)
include h1 h2
theorem VI:(∀x∈Ah (Ao r) n,0<=x)/\ (Ah (Ao r) n).sum=(n:Int)/\n<=4000:=by
 obtain⟨hc,hw,hr,hn,_⟩:=AI h1;have hfit:n<=4000/c:=by simp only[BH,Abv]at h2;exact h2.1
 have hn4:n<=4000:=by have:=As2 4000 c;omega
 refine⟨λx hx=>?_,yH hn,hn4⟩;obtain⟨m,rfl,_⟩:=Zi (Fh r) hn hx;omega
end
theorem Apb(C W:Nat)(fr:List Int):FA C W fr 0=0:=by rw[FA,Bey,Bkf];simp
theorem Ap5(C W:Nat){fr:List Int}(hp:∀z∈fr,0<=z){A m:Nat}(hA:A<fr.length)(hm:fr[A]=(m:Int)):FA C W fr (A+1)=FA C W fr A+((m*C*wB (W:Int):Nat):Int):=by
 have hs:0<= (fr.take A).sum:=by
  have:∀l:List Int,(∀z∈l,0<=z)->0<=l.sum:=by
   intro l
   induction l with
   |nil=>intro _;simp
   |cons a l ih=>intro h;rw[Av4];have:=h a (by simp);have:=ih (λz hz=>h z (by simp[hz]));omega
  exact this _ λz hz=>hp z (Bjy hz)
 have e:(fr.take (A+1)).sum=(fr.take A).sum+m:=by rw[Mg hA,Blf,Av4,Bkf,hm];omega
 rw[FA,FA,e];have:((fr.take A).sum+(m:Int)).toNat=(fr.take A).sum.toNat+m:=by omega
 rw[this,Av1,Bhu m];omega
end Go.Pl
