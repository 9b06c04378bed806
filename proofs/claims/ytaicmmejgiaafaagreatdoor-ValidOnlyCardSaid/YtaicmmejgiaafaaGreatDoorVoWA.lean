/- A part of a proof (see the text that ends in Proof). No conditions. -/
import Derived.Test.YtaicmmejgiaafaaGreatDoorVoPA
set_option linter.unusedVariables false
set_option linter.unusedSimpArgs false
namespace Go.Lv
variable{a b:Int}{l:List UInt8}{n:Nat}{α:Type}
theorem Ag(h: -9223372036854775808<=a+b:=by omega)(h':a+b<=9223372036854775807:=by omega):Ae a b=a+b:=by rw[At7,Bs h h']
theorem Bi(h: -9223372036854775808<=a-b:=by omega)(h':a-b<=9223372036854775807:=by omega):Aj a b=a-b:=by rw[Aui,Bs h h']
theorem Gp(h: -9223372036854775808<=a*b:=by omega)(h':a*b<=9223372036854775807:=by omega):Bg a b=a*b:=by rw[Akc,Bs h h']
theorem NC(c:UInt8):(Ad c:Int)=(c.toNat:Int):=by rw[Al7,Bs]<;>have:=c.toNat_lt<;>omega
theorem wC(c:UInt32):(Ad c:Int)=(c.toNat:Int):=by rw[Aid,Bs]<;>have:=c.toNat_lt<;>omega
theorem lS(c:UInt8):(Ad c:UInt64)=UInt64.ofNat c.toNat:=by simp only[Ad,Yz,Gx]
theorem Cp(c:UInt32):(Ad c:UInt64)=UInt64.ofNat c.toNat:=by simp only[Ad,Vq,Gx]
theorem QE(c:UInt64):(Ad c:UInt8)=UInt8.ofNat c.toNat:=by simp only[Ad,Ib,Lm]
theorem mC(c:UInt32):(Ad c:UInt8)=UInt8.ofNat c.toNat:=by simp only[Ad,Vq,Lm]
theorem Rv(n:Nat):(Ad (n:Int):UInt64)=UInt64.ofNat n:=by simp only[Ad];exact Gx n
theorem Q2(n:Nat):(Ad (n:Int):UInt32)=UInt32.ofNat n:=by simp only[Ad];exact Ek n
theorem Alp(n:Nat):(Ad (n:Int):UInt8)=UInt8.ofNat n:=by simp only[Ad];exact Lm n
theorem sU{c:UInt64}(h:c.toNat<9223372036854775808):(Ad c:Int)=(c.toNat:Int):=by rw[Ah9,Bs]<;>omega
theorem Afy:K7=17179869184:=F6
theorem Am:36893488147419103231<Aq:=F6
theorem Ci{l:List α}(h:n<l.length:=by omega):Ak l (n:Int)=some l[n]:=by simp[Ak,h]
theorem Qr{l:List α}(x:α)(h:n<l.length):Jb l (n:Int) x=some (l.set n x):=by simp[Jb,h]
theorem Ou{l:List α}(h:0<=a:=by omega)(h1:a<=b:=by omega)(h2:b<=l.length:=by omega):By l a b=some ((l.take b.toNat).drop a.toNat):=by rw[By,Abe ⟨h,h1,h2⟩]
theorem Ha{l:List α}(h:0<=a:=by omega)(h1:a<=l.length:=by omega):By l a (Ac l)=some (l.drop a.toNat):=by
 unfold Ac;rw[Ou h h1 (Int.le_refl _),Afl,Ax4]
theorem Ji{l:List α}(h:0<=b:=by omega)(h1:b<=l.length:=by omega):By l 0 b=some (l.take b.toNat):=by rw[Ou (Int.le_refl _) h h1];rfl
theorem Ct{l m:List α}(h:l.length+m.length<=17179869184:=by omega):Db l m=some (l++m):=by rw[Db,Afy,Abe h]
theorem pQ{n:Int}{z:α}(h:0<=n:=by omega)(h':n<=17179869184:=by omega):mkI n z=some (List.replicate n.toNat z):=by rw[mkI,Afy,Abe ⟨h,h'⟩]
theorem Bf{b:Bool}(h:b=true):Hz b=some ():=by rw[h];rfl
theorem Aa{β:Type}(a:α)(f:α->Option β):Option.bind (some a) f=f a:=rfl
theorem drop_cons{l:List α}(h:n<l.length):l.drop n=l[n]::l.drop (n+1):=List.drop_eq_getElem_cons h
theorem Pa{l:List α}(h:n<l.length):l.take (n+1)=l.take n++[l[n]]:=by rw[List.take_add_one,List.getElem?_eq_getElem h];rfl
def Ec:List UInt8->Nat
 |[]=>0
 |x::r=>x.toNat+256*Ec r
theorem E8:∀l:List UInt8,Ec l<256^l.length
 |[]=>by simp[Ec]
 |x::r=>by
  have h:=E8 r;have:=x.toNat_lt;simp only[Ec,Aj4,Avm];omega
theorem yD:∀l m:List UInt8,Ec (l++m)=Ec l+256^l.length*Ec m
 |[],m=>by simp[Ec]
 |x::r,m=>by
  simp only[Ec,Ayx,yD r m,Aj4,Avm,Nat.mul_add];rw[Apd (256^r.length) 256,Azy];omega
def kF(l:List UInt8):UInt64:=UInt64.ofNat (Ec l)
theorem Ao4(h:l.length<=8):Ec l<18446744073709551616:=by
 have h1:=E8 l;have h2:256^l.length<=256^8:=Adr F0 h;exact Aj7 h1 (by simpa using h2)
theorem Af9(h:l.length<=4):Ec l<4294967296:=by
 have h1:=E8 l;have h2:256^l.length<=256^4:=Adr F0 h;exact Aj7 h1 (by simpa using h2)
theorem SP(h:l.length<=8):(kF l).toNat=Ec l:=by
 rw[kF,Aig,Abo (Ao4 h)]
theorem HD(h:l.length<=4):(Ad (kF l):Int)=(Ec l:Int):=by
 have:=Af9 h;rw[sU]<;>rw[SP F0];omega
def Tk(n:Nat):Nat->List UInt8
 |0=>[]
 |w+1=>UInt8.ofNat n::Tk (n/256) w
theorem Dk:∀(w n:Nat),(Tk n w).length=w
 |0,_=>rfl
 |w+1,n=>by simp[Tk,Dk w]
theorem vk:∀(w n:Nat),Tk n (w+1)=Tk n w++[UInt8.ofNat (n/256^w)]
 |0,n=>by simp[Tk]
 |w+1,n=>by
  rw[Tk,vk w (n/256),Tk];simp[Aym,Avm,Apd]
def Ed(p:List UInt8)(i:Nat):Nat:=(p.getD (i/8) 0).toNat/2^(i %8) %2
theorem Nc(p:List UInt8)(i:Nat):Ed p i<2:=Ax5 _ F0
def Bc(p:List UInt8):Nat->Nat->Nat
 |_,0=>0
 |a,n+1=>Ed p a+2*Bc p (a+1) n
theorem Jg(p:List UInt8):∀(n a:Nat),Bc p a n<2^n
 |0,_=>by simp[Bc]
 |n+1,a=>by
  have:=Jg p n (a+1);have:=Nc p a;rw[Bc,Avm];omega
theorem II(p:List UInt8):∀(m n a:Nat),Bc p a (m+n)=Bc p a m+2^m*Bc p (a+m) n
 |0,n,a=>by simp[Bc]
 |m+1,n,a=>by
  rw[show m+1+n=(m+n)+1 by omega,Bc,Bc,II p m n (a+1),show a+1+m=a+(m+1) by omega,Avm,Nat.mul_add,Apd (2^m) 2,Azy];omega
theorem oL(p:List UInt8)(a:Nat):Bc p a 1=Ed p a:=by simp[Bc]
theorem iJ(p:List UInt8)(a n:Nat):Bc p a (n+1)=Bc p a n+2^n*Ed p (a+n):=by rw[II p n 1 a,oL]
theorem VU(p:List UInt8)(a:Nat):∀t:Nat,a %8+t<=8->Bc p a t=(p.getD (a/8) 0).toNat/2^(a %8) %2^t
 |0,_=>by simp[Bc,Nat.mod_one]
 |t+1,h=>by
  have h1:(a+t)/8=a/8:=F0
  have h2:(a+t) %8=a %8+t:=F0
  rw[iJ,VU p a t F0,Ed,h1,h2,Nat.mod_pow_succ,Bal,Aym]
theorem M7{p:List UInt8}:∀(n a:Nat),(∀k,k<n->Ed p (a+k)=0)->Bc p a n=0
 |0,_,_=>rfl
 |n+1,a,h=>by
  have h0:=h 0 F0;rw[Bc,M7 n (a+1) λk hk=>by have:=h (k+1) F0;rwa [show a+1+k=a+(k+1) by omega]];rw[Axs]at h0;omega
theorem ru{p:List UInt8}:∀(n a k:Nat),k<n->Ed p (a+k)=1->Bc p a n≠0
 |n+1,a,0,_,h=>by rw[Bc];rw[Axs]at h;omega
 |n+1,a,k+1,hk,h=>by
  have:=ru n (a+1) k F0 (by rwa [show a+1+k=a+(k+1) by omega]);rw[Bc];omega
def okB(p:List UInt8)(n:Nat):Prop:=n<=330000/\p.length=(n+7)/8/\∀k,n<=k->k<8*p.length->Ed p k=0
def Ni(p:List UInt8)(a n:Nat):List UInt8:=(List.range ((n+7)/8)).map λj=>UInt8.ofNat (Bc p (a+8*j) (min 8 (n-8*j)))
theorem Hi(p:List UInt8)(a n:Nat):(Ni p a n).length=(n+7)/8:=by simp[Ni]
theorem uw(p:List UInt8):∀(n a k:Nat),k<n->Bc p a n/2^k %2=Ed p (a+k)
 |n+1,a,0,_=>by have:=Nc p a;rw[Bc];simp;omega
 |n+1,a,k+1,h=>by
  have hb:=Nc p a;have e:(Ed p a+2*Bc p (a+1) n)/2=Bc p (a+1) n:=F0
  rw[Bc,Avm,Apd (2^k) 2,<-Aym,e,uw p n (a+1) k F0,show a+1+k=a+(k+1) by omega]
theorem Aie(p:List UInt8)(n a k:Nat)(h:n<=k):Bc p a n/2^k %2=0:=by
 have:=Jg p n a;rw[Axl (Aj7 this (Adr F0 h))]
theorem nG(p:List UInt8)(a n k:Nat):Ed (Ni p a n) k=if k<n then Ed p (a+k)else 0:=by
 rw[Ed];by_cases hj:k/8<(n+7)/8
 ·have e:(Ni p a n).getD (k/8) 0=UInt8.ofNat (Bc p (a+8*(k/8)) (min 8 (n-8*(k/8)))):=by
   rw[List.getD_eq_getElem?_getD,List.getElem?_eq_getElem (by rw[Hi];exact hj)];simp[Ni]
  have hlt:Bc p (a+8*(k/8)) (min 8 (n-8*(k/8)))<256:=by
   have:=Jg p (min 8 (n-8*(k/8))) (a+8*(k/8));have h2:2^(min 8 (n-8*(k/8)))<=2^8:=Adr F0 F0;omega
  have hu:(UInt8.ofNat (Bc p (a+8*(k/8)) (min 8 (n-8*(k/8))))).toNat=Bc p (a+8*(k/8)) (min 8 (n-8*(k/8))):=by
   rw[Aoq];exact Abo hlt
  rw[e,hu];by_cases hk:k<n
  ·rw[Abe hk,uw p _ _ _ F0,show a+8*(k/8)+k %8=a+k by omega]
  ·rw[Abc hk,Aie p _ _ _ F0]
 ·have e:(Ni p a n).getD (k/8) 0=0:=by
   rw[List.getD_eq_getElem?_getD,List.getElem?_eq_none (by rw[Hi];omega)];rfl
  rw[e,Abc F0];simp
theorem nS(p:List UInt8)(a n:Nat)(h:n<=330000):okB (Ni p a n) n:=⟨h,Hi p a n,λk hk _=>by rw[nG,Abc F0]⟩
theorem wQ{p q:List UInt8}(hl:p.length=q.length)(h:∀k,k<8*p.length->Ed p k=Ed q k):p=q:=by
 apply Awe hl;intro i h1 h2;have hp:Bc p (8*i) 8=Bc q (8*i) 8:=by
  have key:∀(n a:Nat),a+n<=8*p.length->Bc p a n=Bc q a n:=by
   intro n
   induction n with
   |zero=>intros;rfl
   |succ n ih=>intro a ha;rw[Bc,Bc,h a F0,ih (a+1) F0]
  exact key 8 (8*i) F0
 rw[VU p _ 8 F0,VU q _ 8 F0]at hp;have e1:8*i/8=i:=F0
 have e2:8*i %8=0:=F0
 rw[e1,e2]at hp;have a1:p.getD i 0=p[i]:=by simp[List.getD_eq_getElem?_getD,h1]
 have a2:q.getD i 0=q[i]:=by simp[List.getD_eq_getElem?_getD,h2]
 rw[a1,a2]at hp;apply UInt8.toNat_inj.1;have:=p[i].toNat_lt;have:=q[i].toNat_lt;simp at hp;omega
end Go.Lv
namespace Go.Pl
open Go Go.Lv
variable{p:Prop}
theorem F2(h:p:=by rw[Af,Ac];simp;omega):p:=h
theorem Ba6(h:p:=by rw[Af];simp;omega):p:=h
theorem Bbd(h:p:=by rw[Bb];simp;omega):p:=h
theorem Bbe(h:p:=by simp[Af,Al];omega):p:=h
theorem Bbf(h:p:=by rw[Dl];simp;omega):p:=h
theorem Bbh(h:p:=by unfold Ac;omega):p:=h
theorem Ba7(h:p:=by have:=Am;omega):p:=h
theorem Bbg(h:p:=by rw[Dl];simp):p:=h
theorem Bbt(h:p:=by rw[Bb];simp):p:=h
theorem Bbo(h:p:=by rw[Bb];rfl):p:=h
end Go.Pl
namespace Go.Pl
open Go Go.Lv
variable{i:Nat}{p:Prop}
theorem Ak6(b:LB)(hb:b.length<4611686018427387904):∀(j q:Nat),j<=b.length->j<q->Lt b q (kF (b.drop j)) ((j:Int)-1)=some (kF b)
 |0,q+1,_,_=>by
  rw[Lt,Yy,Abc Bbg];simp[PN,NT]
 |j+1,q+1,hj,hq=>by
  rw[Lt,Yy,Abe Bbg,show((j+1:Nat):Int)-1=(j:Int) by omega,Ci,Aa,Bi];have h:Ae (Bg (256:UInt64) (kF (b.drop (j+1)))) (Ad b[j]:UInt64)=kF (b.drop j):=by
   rw[JD,IW,lS,drop_cons (n:=j) F0,kF,kF,Ec,UInt64.ofNat_add,UInt64.ofNat_mul];exact UInt64.add_comm _ _
  rw[h];exact Ak6 b hb j q F0 F0
theorem Aam(b:LB)(hb:b.length<4611686018427387904):Da b=some (kF b):=by
 have h:=Ak6 b hb b.length Aq (Aiw _) Ba7;rw[Da,OR,OV];have e:Aj (Ac b) 1=(b.length:Int)-1:=Bi Bbh Bbh;rw[e,<-h,Ayb];rfl
theorem Am1{n c:UInt64}(hn:n.toNat<2^i)(hc:c.toNat*2^i<18446744073709551616):sD n (Cy c i)=UInt64.ofNat (n.toNat+c.toNat*2^i):=by
 rw[Ar6];apply UInt64.toNat_inj.1;rw[UInt64.toNat_or,QX,Abo hc,Apd,Nat.or_comm,<-Aw3 hn,Aig,Abo,Azz,Apd];have h:=Aw3 hn c.toNat;have h2:2^i*c.toNat+n.toNat<2^64:=by
  rw[h];exact Nat.or_lt_two_pow (by rw[Apd];simpa using hc) n.toNat_lt
 rw[Azz];first|exact h2|(rw[Apd];exact h2)
theorem Q6(b:LB)(hb:b.length<=8):∀(j i q:Nat),i+j=b.length->j<q->Zg b q (kF (b.take i)) (i:Int)=some (kF b,0)
 |0,i,q+1,hi,_=>by
  rw[Zg,RX,Abc F2,show i=b.length by omega,Ax4];rfl
 |j+1,i,q+1,hi,hq=>by
  have hlt:i<b.length:=F0
  rw[Zg,RX,Abe F2,Ci hlt,Aa,Gp,Bf Bbf,Aa,Ag];have h:sD (kF (b.take i)) (Cy (Ad b[i]:UInt64) (GI.toZ ((8:Int)*(i:Int))).toNat)=kF (b.take (i+1)):=by
   have e:(GI.toZ ((8:Int)*(i:Int))).toNat=8*i:=by show((8:Int)*(i:Int)).toNat=_;omega
   have e2:(2:Nat)^(8*i)=256^i:=by rw[Nat.pow_mul]
   have h1:=E8 (b.take i);rw[Afi,Aw2 F0]at h1;have h3:=b[i].toNat_lt;have hle:(256:Nat)^(i+1)<=256^8:=Adr F0 F0;rw[Avm]at hle;have h4:(Ad b[i]:UInt64).toNat=b[i].toNat:=by rw[lS,Aig];omega
   have h5:b[i].toNat*256^i<18446744073709551616:=by
    have:b[i].toNat*256^i<256*256^i:=Nat.mul_lt_mul_of_pos_right (by simpa using h3) (Ayf F0);simp at hle;omega
   rw[e,Am1 (by rw[SP Ba5,e2];exact h1) (by rw[h4,e2];exact h5),SP Ba5,h4,e2,Pa hlt];rw[kF,yD];simp only[Ec,Afi,Aw2 (Nat.le_of_lt hlt),Nat.mul_zero,Axs];rw[Apd]
  rw[h];exact Q6 b hb j (i+1) q F0 F0
theorem Aav(b:LB)(h1:1<=b.length)(h2:b.length<=8):dT b=some (kF b,0):=by
 have h:=Q6 b h2 b.length 0 Aq F0 Ba7;rw[dT,hH,Abc (by simp[Af,Al,Ac];omega),uK];exact h
def part(b:LB)(at' w:Nat):LB:=(b.take (at'+w)).drop at'
theorem Cw{b:LB}{a w:Nat}(h:a+w<=b.length:=by omega):(part b a w).length=w:=by simp[part];omega
theorem M3(b:LB)(a w:Nat)(h1:1<=w)(h2:w<=8)(h3:a+w<=b.length)(hb:b.length<4611686018427387904):VO b (a:Int) (w:Int)=some (kF (part b a w),0):=by
 rw[VO,Abc Bbe,Abc (by rw[Al,Bi Bbh Bbh,Ac];simp;omega),Ag,Ou,Aa];rw[show((a:Int)+(w:Int)).toNat=a+w by omega,show(a:Int).toNat=a by omega];rw[Aav _ (by rw[show((b.take (a+w)).drop a).length=_ from Cw h3];exact h1) (by rw[show((b.take (a+w)).drop a).length=_ from Cw h3];exact h2),Aa];rfl
theorem tL(w:Nat)(hw:w<=1000):∀(j i q:Nat) (n:UInt64) (acc:LB),i+j=w->j<q->acc.length+j<=1000000->Gu (w:Int) q n (i:Int) acc=some (acc++Tk n.toNat j)
 |0,i,q+1,n,acc,hi,_,_=>by
  rw[Gu,Pn,Abc Ba6];simp[Zd,Zq,Tk]
 |j+1,i,q+1,n,acc,hi,hq,ha=>by
  rw[Gu,Pn,Abe Ba6];have e:(Ad (AG n (256:UInt64)):UInt8)=UInt8.ofNat n.toNat:=by
   rw[QE,qy];apply UInt8.toNat_inj.1;rw[Aoq,Aoq,UInt64.toNat_mod]
   show n.toNat %256 %256=_;omega
  have e2:(Ca n (256:UInt64)).toNat=n.toNat/256:=by rw[pP,Ban];rfl
  rw[Ct Ba5,Aa,Ag,e];have h:=tL w hw j (i+1) q (Ca n 256) (acc++[UInt8.ofNat n.toNat]) F0 F0 Ba5;rw[e2]at h;rw[show((i:Int)+1)=((i+1:Nat):Int) by omega,h,Tk];simp
theorem A8(n:UInt64)(w:Nat)(hw:w<=1000):Dv n (w:Int)=some (Tk n.toNat w):=by
 rw[Dv,Zx,Zp];have h:=tL w hw w 0 Aq n [] F0 Ba7 Ba5;simpa using h
theorem WY{α:Type}{l m:List α}{x y:α}(h:l.length=i):(l++x::m).set i y=l++y::m:=by subst h;simp
theorem L4(n:UInt64)(l4:LB)(w:Nat)(hl:l4.length=w)(hw:w<=8):∀(j i q:Nat),i+j=w->j<q->Zz n l4 q (i:Int) (Tk n.toNat i++List.replicate j 0)=some (Tk n.toNat w,0)
 |0,i,q+1,hi,_=>by
  rw[Zz,RS,Abc F2];obtain rfl:i=w:=F0
  simp[cT,uG]
 |j+1,i,q+1,hi,hq=>by
  have hlen:(Tk n.toNat i++List.replicate (j+1) 0).length=i+(j+1):=by simp[Dk]
  rw[Zz,RS,Abe F2,Gp,Bf Bbf,Aa,Ci (by rw[hlen];omega),Aa,Qr _ (by rw[hlen];omega),Aa,Ag];have e:(Ad (Bv n (GI.toZ ((8:Int)*(i:Int))).toNat):UInt8)=UInt8.ofNat (n.toNat/256^i):=by
   have e:(GI.toZ ((8:Int)*(i:Int))).toNat=8*i:=by show((8:Int)*(i:Int)).toNat=_;omega
   rw[e,QE,DO,Nat.pow_mul]
  rw[e,Axk,WY (Dk _ _)];have h:=L4 n l4 w hl hw j (i+1) q F0 F0;rw[vk]at h;simpa using h
theorem Asg(n:UInt64)(w:Nat)(h1:1<=w)(h2:w<=8)(h:n.toNat<256^w):vW n (w:Int)=some true:=by
 rw[vW];by_cases h8:w=8
 ·subst h8;rw[Abe Bbo]
 ·rw[Abc Bbd,Gp,Bf Bbf,Aa];have e:(GI.toZ ((8:Int)*(w:Int))).toNat=8*w:=by show((8:Int)*(w:Int)).toNat=_;omega
  rw[e,vM];have:Bv n (8*w)=0:=by
   apply UInt64.toNat_inj.1;rw[DO,Nat.pow_mul];exact Axl h
  rw[this];rfl
theorem QB(n:UInt64)(w:Nat)(h1:1<=w)(h2:w<=8)(h:n.toNat<256^w):Li n (w:Int)=some (Tk n.toNat w,0):=by
 rw[Li,eU,Abc Bbe,Asg n w h1 h2 h,Aa,Abc Bba,pQ,Aa,Bf Bbt,Aa,uH];have h:=L4 n (List.replicate (w:Int).toNat 0) w Bba h2 w 0 Aq F0 Ba7;simpa [Tk]using h
theorem Bbb(h:p:=by rw[Al];simp;omega):p:=h
theorem Ba9(h:p:=by rw[Ah];simp):p:=h
end Go.Pl
namespace Go.Pl
open Go Go.Lv
variable{p:LB}
theorem uF(n:Nat)(h:n<4611686018427387904):Dr (n:Int) (7:Int)=((n %8:Nat):Int):=by
 have e:Dr (n:Int) (7:Int)=wrap64 ((BitVec.ofInt 64 (n:Int)&&&BitVec.ofInt 64 7).toNat:Int):=rfl;rw[e,Bax,Axo,Axo];have h1:((n:Int) %((2^64:Nat):Int)).toNat=n:=F0
 have h2:((7:Int) %((2^64:Nat):Int)).toNat=2^3-1:=F6
 rw[h1,h2,Axt,Bs F0 F0]
theorem Av5(n:Nat):Z4 (n:Int) (GI.toZ (3:UInt64)).toNat=((n/8:Nat):Int):=by
 have e:Z4 (n:Int) (GI.toZ (3:UInt64)).toNat=(n:Int).fdiv 8:=rfl;rw[e,Ate _ F0];omega
theorem Axa{t:Nat}(h:t<=8):Aj (Cy (1:UInt8) t) (1:UInt8)=UInt8.ofNat (2^t-1):=by
 have:t=0\/t=1\/t=2\/t=3\/t=4\/t=5\/t=6\/t=7\/t=8:=F0
 rcases this with rfl|rfl|rfl|rfl|rfl|rfl|rfl|rfl|rfl<;>decide
theorem bitsOf(c:UInt8)(off t:Nat)(h:t<=8):(Dr (Bv c off) (Aj (Cy (1:UInt8) t) (1:UInt8))).toNat=c.toNat/2^off %2^t:=by
 have hp:2^t<=2^8:=Adr F0 h;rw[Axa h,Aep,UInt8.toNat_and,jk,Aoq,Abo (by have:=Ayf (n:=t) (show 0<2 by omega);omega),Axt]
theorem B2{k:Nat}(h:k<p.length):Ak p (k:Int)=some (p.getD k 0):=by
 rw[Ci h];simp[List.getD_eq_getElem?_getD,h]
def Mi(p:LB)(a n:Nat):UInt64:=UInt64.ofNat (Bc p a n)
theorem Va(p:LB)(a n:Nat)(h:n<=64):(Mi p a n).toNat=Bc p a n:=by
 have h1:=Jg p n a;have h2:2^n<=2^64:=Adr F0 h;rw[Mi,Aig,Abo F0]
theorem yj(p:LB)(N:Int)(a n:Nat)(hn:n<=64)(ha:a+n<=8*p.length)(hp:p.length<=1000000):∀(j h q:Nat),h+j=n->j<q->IL (a:Int) (n:Int) p N q (Mi p a h) (h:Int)=some (Mi p a n)
 |j,h,q+1,hj,hq=>by
  rw[IL,fH];by_cases hlt:h<n
  ·have e1:Ae (a:Int) (h:Int)=((a+h:Nat):Int):=by rw[Ag];omega
   have e2:Gi (Aj (n:Int) (h:Int)) (Aj (8:Int) (((a+h) %8:Nat):Int))=((min (n-h) (8-(a+h) %8):Nat):Int):=by
    rw[AO,Bi,Bi];omega
   have hm:(a+h)/8<p.length:=F0
   rw[Abe Ba6,e1,Av5,B2 hm,Aa,uF _ F0,Bf Bbf,Aa,e2,Bf Bbg,Aa,Bf Bbg,Aa];generalize hT:min (n-h) (8-(a+h) %8)=T;have hT8:T<=8:=F0
   have hT1:1<=T:=F0
   have hb:(a+h) %8+T<=8:=F0
   have hv:=VU p (a+h) T hb;have z1:(GI.toZ (((a+h) %8:Nat):Int)).toNat=(a+h) %8:=rfl;have z2:(GI.toZ ((T:Nat):Int)).toNat=T:=rfl;have z3:(GI.toZ ((h:Nat):Int)).toNat=h:=rfl;rw[z1,z2,z3];have hx:(Ad (Dr (Bv (p.getD ((a+h)/8) 0) ((a+h) %8)) (Aj (Cy (1:UInt8) T) (1:UInt8))):UInt64).toNat=Bc p (a+h) T:=by
    rw[lS,Aig,bitsOf _ _ _ hT8,<-hv];have:=Jg p T (a+h);have h2:2^T<=2^8:=Adr F0 hT8;omega
   have hlt2:=Jg p (h+T) a;rw[II]at hlt2;have h64:2^(h+T)<=2^64:=Adr F0 F0;have hor:sD (Mi p a h) (Cy (Ad (Dr (Bv (p.getD ((a+h)/8) 0) ((a+h) %8)) (Aj (Cy (1:UInt8) T) (1:UInt8))):UInt64) h)=Mi p a (h+T):=by
    rw[Am1 (by rw[Va p a h F0];exact Jg p h a) (by rw[hx,Apd];omega),hx,Va p a h F0,Mi,II,Apd (2^h)]
   rw[hor,Ag,show(h:Int)+((T:Nat):Int)=((h+T:Nat):Int) by omega];exact yj p N a n hn ha hp (j-T) (h+T) q F0 F0
  ·rw[Abc Ba6,show h=n by omega];rfl
theorem get_eq(p:LB)(N:Int)(a n:Nat)(hn:n<=64)(ha:a+n<=8*p.length)(hp:p.length<=1000000):pO p N (a:Int) (n:Int)=some (Mi p a n):=by
 have:=yj p N a n hn ha hp n 0 Aq F0 Ba7;exact this
theorem Vr{n:Nat}(h:okB p n):Hs p (n:Int)=some 0:=by
 obtain⟨h1,h2,h3⟩:=h;have e7:Ae (n:Int) 7=((n+7:Nat):Int):=by rw[Ag];omega
 rw[Hs,e7,Av5,Abc (by simp[Af,Al,Ah,Ac,h2];omega),uF _ F0];by_cases hz:n %8=0
 ·rw[Abc Bbb]
 ·have el:Aj (Ac p) 1=((p.length-1:Nat):Int):=by rw[Ac,Bi];omega
  rw[Abe Bbb,el,B2 F0,Aa,Bf Bbf,Aa];have z:(GI.toZ ((n %8:Nat):Int)).toNat=n %8:=rfl;have hs:Bv (p.getD (p.length-1) 0) (n %8)=0:=by
   apply UInt8.toNat_inj.1;rw[jk];have hv:=VU p n (8-n %8) F0;have h0:Bc p n (8-n %8)=0:=M7 _ _ λk hk=>h3 _ F0 F0;rw[h0,show n/8=p.length-1 by omega]at hv;have hlt:(p.getD (p.length-1) 0).toNat/2^(n %8)<2^(8-n %8):=by
    have:=(p.getD (p.length-1) 0).toNat_lt;rw[Nat.div_lt_iff_lt_mul (Ayf F0),<-Bal,show 8-n %8+n %8=8 by omega];simpa using this
   rw[Abo hlt]at hv;exact hv.symm
  rw[z,hs,Abc (by rw[Adl];simp)]
theorem sY{N:Nat}(h:okB p N)(a n:Nat)(hn:n<=64):CT p (N:Int) (a:Int) (n:Int)=some (if N<a+n then(0,24)else(Mi p a n,0)):=by
 obtain⟨h1,h2,h3⟩:=h;rw[CT,Vr ⟨h1,h2,h3⟩,Aa,Abc Ba9,Abc Bbe,Bi];by_cases hl:N<a+n
 ·rw[Abe Bbb,Abe hl]
 ·rw[Abc Bbb,get_eq p N a n hn F0 F0,Aa,Abc hl]
theorem Bb1{p:Prop}(h:p:=by rw[Hi];simp;omega):p:=h
theorem Bb2{p:Prop}(h:p:=by rw[Apd];omega):p:=h
end Go.Pl
namespace Go.Pl
open Go Go.Lv
theorem Ayg(c:Nat)(h:c<4611686018427387904):Ca (c:Int) (2:Int)=((c/2:Nat):Int):=by
 rw[KI,Axh F0,Bs F0 F0];omega
theorem Av6(c:Nat)(h:c<4611686018427387904):Ca (c:Int) (8:Int)=((c/8:Nat):Int):=by
 rw[KI,Axh F0,Bs F0 F0];omega
theorem Akv(c:Nat):Ge (c:Int) (8:Int)=((c %8:Nat):Int):=by rw[Ge,Azi F0];omega
theorem Ayv(c:Nat):Ge (c:Int) (2:Int)=((c %2:Nat):Int):=by rw[Ge,Azi F0];omega
theorem Afn(i c:Nat)(hc:c<256):∀(j k q:Nat),k+j=i %8->j<q->Lz (i:Int) q ((c/2^k:Nat):Int) (k:Int)=some (((c/2^(i %8) %2:Nat):Int))
 |0,k,q+1,hk,_=>by
  rw[Lz,Yq,Akv,Abc Ba6,QY,QM,Ayv,show k=i %8 by omega]
 |j+1,k,q+1,hk,hq=>by
  have hle:c/2^k<=c:=Auo _ _;rw[Lz,Yq,Akv,Abe Ba6,Ayg _ F0,Ag,Aym,<-Avm];exact Afn i c hc j (k+1) q F0 F0
theorem rB(p:LB)(N:Int)(i:Nat)(h:i/8<p.length)(hi:i<4611686018427387904):Ki p N (i:Int)=some ((Ed p i:Nat):Int):=by
 have hc:=(p.getD (i/8) 0).toNat_lt;have:=Afn i (p.getD (i/8) 0).toNat (by simpa using hc) (i %8) 0 Aq F0 Ba7;rw[Ki,QP,Av6 _ hi,B2 h,Aa,NC,QN];simpa [Ed]using this
theorem zJ(p:LB)(N:Int)(a n:Nat)(ha:a+n<=8*p.length)(hp:p.length<=1000000):∀(j q:Nat),j<=n->j<q->If (a:Int) p N q (Mi p (a+j) (n-j)) ((j:Int)-1)=some (Mi p a n)
 |0,q+1,_,_=>by
  rw[If,Sm,Abc Bbg];rfl
 |j+1,q+1,hj,hq=>by
  have hb:=Nc p (a+j);rw[If,Sm,show((j+1:Nat):Int)-1=(j:Int) by omega,Abe Bbg,Ag (a:=(a:Int)) F0 F0,show(a:Int)+(j:Int)=((a+j:Nat):Int) by omega,rB p N (a+j) F0 F0,Aa,Bi];have e:Ae (Bg (2:UInt64) (Mi p (a+(j+1)) (n-(j+1)))) (Ad ((Ed p (a+j):Nat):Int):UInt64)=Mi p (a+j) (n-j):=by
   rw[JD,IW,Rv,Mi,Mi,show n-j=(n-(j+1))+1 by omega,Bc,show a+j+1=a+(j+1) by omega,UInt64.ofNat_add,UInt64.ofNat_mul];exact UInt64.add_comm _ _
  rw[e];exact zJ p N a n ha hp j q F0 F0
theorem lD(p:LB)(N:Int)(a n:Nat)(ha:a+n<=8*p.length)(hp:p.length<=1000000):Qu p N (a:Int) (n:Int)=some (Mi p a n):=by
 have:=zJ p N a n ha hp n Aq (Aiw _) Ba7;have hz:Mi p (a+n) (n-n)=0:=by rw[Nat.sub_self];rfl
 rw[hz]at this;rw[Qu,EV,EK,Bi];exact this
theorem Agq(bit:Int)(N:Nat)(l:LB):∀(j k q:Nat),k+j=N %8->j<q->Ku bit (N:Int) l q ((2^k:Nat):Int) (k:Int)=Wi bit ((2^(N %8):Nat):Int) (N:Int) l
 |0,k,q+1,hk,_=>by
  rw[Ku,Xe,Akv,Abc Ba6,show k=N %8 by omega]
 |j+1,k,q+1,hk,hq=>by
  have hp:2^k<=2^8:=Adr F0 F0;have e:Bg ((2^k:Nat):Int) 2=((2^(k+1):Nat):Int):=by
   rw[Avm];generalize 2^k=K at*
   rw[Gp];omega
  rw[Ku,Xe,Akv,Abe Ba6,e,Ag];exact Agq bit N l j (k+1) q F0 F0
theorem B8(p:LB)(a n j:Nat)(h:j<(n+7)/8):(Ni p a n)[j]'(by rw[Hi];exact h)=UInt8.ofNat (Bc p (a+8*j) (min 8 (n-8*j))):=by simp[Ni]
theorem qM(p:LB)(a t:Nat)(h:t<=8):Bc p a t<256:=by
 have h1:=Jg p t a;have h2:2^t<=2^8:=Adr F0 h;omega
def room(p:LB)(a n:Nat):LB:=if n %8=0 then Ni p a n++[0]else Ni p a n
theorem Lo(p:LB)(a n:Nat):(room p a n).length=n/8+1:=by
 rw[room];split<;>simp[Hi]<;>omega
theorem Abk(p:LB)(a n j:Nat)(h:j<n/8+1):(room p a n)[j]'(by rw[Lo];exact h)=UInt8.ofNat (Bc p (a+8*j) (min 8 (n-8*j))):=by
 have h0:(room p a n)[j]? =some (UInt8.ofNat (Bc p (a+8*j) (min 8 (n-8*j)))):=by
  rw[room];split
  ·by_cases hj:j<(n+7)/8
   ·rw[List.getElem?_append_left (by rw[Hi];exact hj),List.getElem?_eq_getElem (by rw[Hi];exact hj),B8 p a n j hj]
   ·rw[List.getElem?_append_right (by rw[Hi];omega),Hi,show j-(n+7)/8=0 by omega,show n-8*j=0 by omega];rfl
  ·rw[List.getElem?_eq_getElem (by rw[Hi];omega),B8 p a n j F0]
 rw[List.getElem?_eq_getElem (by rw[Lo];exact h)]at h0;exact Asp h0
theorem pV(p:LB)(a n T:Nat)(h1:1<=T)(h:n %8+T<=8):(room p a n).set (n/8) (UInt8.ofNat (Bc p (a+8*(n/8)) (n %8+T)))=Ni p a (n+T):=by
 apply Awe (by rw[Ax9,Lo,Hi];omega);intro j g1 g2;rw[Ax9,Lo]at g1;rw[Bao,B8 p a (n+T) j (by rw[Hi]at g2;exact g2)];split
 ·rename_i e;subst e;rw[show min 8 (n+T-8*(n/8))=n %8+T by omega]
 ·rw[Abk p a n j g1,show min 8 (n-8*j)=8 by omega,show min 8 (n+T-8*j)=8 by omega]
theorem iP(p:LB)(a n:Nat):(room p a n)[n/8]'(by rw[Lo];omega)=UInt8.ofNat (Bc p (a+8*(n/8)) (n %8)):=by
 rw[Abk p a n _ F0,show min 8 (n-8*(n/8))=n %8 by omega]
theorem Ako(p:LB)(a n:Nat)(hn:n<=400000):Vn (Ni p a n) (n:Int) ((Ed p (a+n):Nat):Int)=some (Ni p a (n+1),((n+1:Nat):Int)):=by
 have hb:=Nc p (a+n);have hp:2^(n %8)<=2^7:=Adr F0 F0;have hroom:Vn (Ni p a n) (n:Int) ((Ed p (a+n):Nat):Int)=Wl ((Ed p (a+n):Nat):Int) (n:Int) (room p a n):=by
  rw[Vn,LO,Akv,room];by_cases h0:n %8=0
  ·rw[Abe (by rw[Bb,h0];rfl),Ct Bb1,Aa,Abe h0]
  ·rw[Abc Bbd,Abc h0]
 have hl:=Agq ((Ed p (a+n):Nat):Int) n (room p a n) (n %8) 0 Aq F0 Ba7;rw[hroom,Wl,MA,LM];refine Axr hl ?_;have hg:Ak (room p a n) ((n/8:Nat):Int)=some (UInt8.ofNat (Bc p (a+8*(n/8)) (n %8))):=by
  rw[Ci (by rw[Lo];omega),iP]
 have hlt:=qM p (a+8*(n/8)) (n %8+1) F0;have hsn:=iJ p (a+8*(n/8)) (n %8);rw[show a+8*(n/8)+n %8=a+n by omega]at hsn;have hm:Bg ((Ed p (a+n):Nat):Int) ((2^(n %8):Nat):Int)=((2^(n %8)*Ed p (a+n):Nat):Int):=by
  have hle:2^(n %8)*Ed p (a+n)<=2^7*1:=Az6 hp F0;rw[Akc,<-Ax3,Bs F0 Bb2,Apd]
 have hx:Ae (UInt8.ofNat (Bc p (a+8*(n/8)) (n %8))) (Ad (((2^(n %8)*Ed p (a+n):Nat):Int)):UInt8)=UInt8.ofNat (Bc p (a+8*(n/8)) (n %8+1)):=by
  rw[Ar1,Alp,hsn,UInt8.ofNat_add]
 rw[Wi,LN,Av6 _ F0,hg,Aa,Aa,Aa,hm,hx,Qr _ (by rw[Lo];omega),Aa,pV p a n 1 F0 F0,Ag];rfl
theorem pS(p:LB)(N:Int)(a n:Nat)(ha:a+n<=8*p.length)(hp:p.length<=1000000)(hn:n<=300000):∀(j m q:Nat),m+j=n->j<q->Gw ((a+n:Nat):Int) p N q ((a+m:Nat):Int) (m:Int) (Ni p a m)=some (Ni p a n,(n:Int))
 |0,m,q+1,hm,_=>by
  rw[Gw,Pm,Abc Ba6,show m=n by omega];rfl
 |j+1,m,q+1,hm,hq=>by
  rw[Gw,Pm,Abe Ba6,rB p N (a+m) F0 F0,Aa,Ako p a m F0,Aa];simp only;rw[Ag];exact pS p N a n ha hp hn j (m+1) q F0 F0
theorem oz(p:LB)(N:Int)(a n:Nat)(ha:a+n<=8*p.length)(hp:p.length<=1000000)(hn:n<=300000):IV p N (a:Int) ((a+n:Nat):Int)=some (Ni p a n,(n:Int)):=by
 have:=pS p N a n ha hp hn n 0 Aq F0 Ba7;exact this
theorem Bbn{p:Prop}(h:p:=by rw[Lo];omega):p:=h
theorem Bbk{p:Prop}(h:p:=by rw[Al];simp):p:=h
end Go.Pl
namespace Go.Pl
open Go Go.Lv
variable{t:Nat}{p:Prop}
theorem Atv(h:t<=8):Aj (Cy (1:UInt64) t) (1:UInt64)=UInt64.ofNat (2^t-1):=by
 have:t=0\/t=1\/t=2\/t=3\/t=4\/t=5\/t=6\/t=7\/t=8:=F0
 rcases this with rfl|rfl|rfl|rfl|rfl|rfl|rfl|rfl|rfl<;>decide
theorem Aw5(v:UInt64)(h:t<=8):(Dr v (Aj (Cy (1:UInt64) t) (1:UInt64))).toNat=v.toNat %2^t:=by
 have hp:2^t<=2^8:=Adr F0 h;rw[Atv h,zY,UInt64.toNat_and,Aig,Abo (by have:=Ayf (n:=t) (show 0<2 by omega);omega),Axt]
theorem or8{v w i:Nat}(hv:v<2^i)(hw:w*2^i<256)(hi:i<8):sD (UInt8.ofNat v) (Cy (UInt8.ofNat w) i)=UInt8.ofNat (v+w*2^i):=by
 have hp:2^i<=2^8:=Adr F0 F0;have hpos:0<2^i:=Ayf F0;have hw2:w<256:=Ax6 (Nat.le_mul_of_pos_right w hpos) hw;rw[At4];apply UInt8.toNat_inj.1;have e1:(UInt8.ofNat v).toNat=v:=by rw[Aoq,Abo F0]
 have e2:(UInt8.ofNat w).toNat=w:=by rw[Aoq,Abo F0]
 rw[UInt8.toNat_or,Aqr,e1,e2,Abo hw,Apd w,Nat.or_comm,<-Aw3 hv,Aoq,Azz v];rw[Apd]at hw;have hb:2^i*w+v<256:=by
  rw[Aw3 hv];exact Nat.or_lt_two_pow (n:=8) hw F0
 rw[Abo hb]
theorem yw(p:LB)(a n T:Nat)(h:T<=n)(hn:n<=64):Bv (Mi p a n) T=Mi p (a+T) (n-T):=by
 apply UInt64.toNat_inj.1;rw[DO,Va p a n hn,Va p (a+T) (n-T) F0];have:=Jg p T a
 conv=>lhs;rw[show n=T+(n-T) by omega,II,Nat.add_mul_div_left _ _ (Ayf F0),Axl this,Avs]
theorem Aa8(p:LB)(a n T:Nat)(h:T<=n)(hn:n<=64):(Mi p a n).toNat %2^T=Bc p a T:=by
 have:=Jg p T a;rw[Va p a n hn]
 conv=>lhs;rw[show n=T+(n-T) by omega,II,Nat.add_mul_mod_self_left,Abo this]
theorem zR(bk:Int->Int->LB->Option (LB×Int×Int))(to':Int)(p:LB)(N fr:Int)(r6:UInt64)(a:Nat):∀(j m q:Nat),m+j<=300000->j<=64->j<q->
  Mx bk to' p N fr r6 q (Mi p (a+m) j) (j:Int) (m:Int) (Ni p a m)=MJ bk to' p N fr ((m+j:Nat):Int) (Ni p a (m+j))
 |0,m,q+1,_,_,_=>by
  rw[Mx,MQ,Abc Bbk];rfl
 |j+1,m,q+1,hm,hj,hq=>by
  have hroom:Mx bk to' p N fr r6 (q+1) (Mi p (a+m) (j+1)) ((j+1:Nat):Int) (m:Int) (Ni p a m)=MT (Mx bk to' p N fr r6 q) to' fr p N r6 (Mi p (a+m) (j+1)) ((j+1:Nat):Int) (m:Int) (room p a m):=by
   rw[Mx,MQ,Abe Bbk,uF m F0,room];by_cases h0:m %8=0
   ·rw[Abe (by rw[Bb,h0];rfl),Ct Bb1,Aa,Abe h0]
   ·rw[Abc Bbd,Abc h0]
  have hl:Aj (Ac (room p a m)) 1=((m/8:Nat):Int):=by
   rw[Ac,Lo,Bi];omega
  have e2:Gi ((j+1:Nat):Int) (Aj (8:Int) ((m %8:Nat):Int))=((min (j+1) (8-m %8):Nat):Int):=by
   rw[AO,Bi];omega
  rw[hroom,MT,qK,uF m F0,e2,hl];generalize hT:min (j+1) (8-m %8)=T;have hT1:1<=T:=F0
  have hT8:m %8+T<=8:=F0
  have hg:Ak (room p a m) ((m/8:Nat):Int)=some (UInt8.ofNat (Bc p (a+8*(m/8)) (m %8))):=by
   rw[Ci Bbn,iP]
  have z1:(GI.toZ ((m %8:Nat):Int)).toNat=m %8:=rfl;have z2:(GI.toZ ((T:Nat):Int)).toNat=T:=rfl;have hlt:=qM p (a+8*(m/8)) (m %8+T) F0;have hadd:=II p (m %8) T (a+8*(m/8));rw[show a+8*(m/8)+m %8=a+m by omega]at hadd;have hbyte:(Ad (Dr (Mi p (a+m) (j+1)) (Aj (Cy (1:UInt64) T) (1:UInt64))):UInt8)=UInt8.ofNat (Bc p (a+m) T):=by
   rw[QE,Aw5 _ F0,Aa8 p (a+m) (j+1) T F0 hj]
  have hnew:sD (UInt8.ofNat (Bc p (a+8*(m/8)) (m %8))) (Cy (UInt8.ofNat (Bc p (a+m) T)) (m %8))=UInt8.ofNat (Bc p (a+8*(m/8)) (m %8+T)):=by
   rw[or8 (Jg _ _ _) Bb2 F0,hadd,Apd (2^(m %8))]
  rw[hg,z1,z2,hbyte];simp only[Aa];rw[Bf Bbg,Aa,Bf Bbf,Aa,hnew,Qr _ Bbn,Aa,pV p a m T hT1 hT8,pE,oJ,uF m F0,e2,hT,Bf Bbg,Aa,z2,yw p (a+m) (j+1) T F0 hj,Bi,Ag];have ih:=zR bk to' p N fr r6 a (j+1-T) (m+T) q F0 F0 F0;rw[show m+T+(j+1-T)=m+(j+1) by omega]at ih;rw[<-ih,show a+m+T=a+(m+T) by omega,show((j+1:Nat):Int)-((T:Nat):Int)=((j+1-T:Nat):Int) by omega,show(m:Int)+((T:Nat):Int)=((m+T:Nat):Int) by omega]
theorem yc(p:LB)(N:Int)(a n:Nat)(ha:a+n<=8*p.length)(hp:p.length<=1000000)(hn:n<=300000):∀(j m f q:Nat),(f=m\/n<=f/\m=n)->m+j=n->f<=n+64->j<q->Vk ((a+n:Nat):Int) p N q ((a+f:Nat):Int) (m:Int) (Ni p a m)=some (Ni p a n,(n:Int),0)
 |j,m,f,q+1,hf,hm,hf2,hq=>by
  rw[Vk,YY];by_cases hlt:f<n
  ·obtain rfl:f=m:=F0
   have e1:Gi (64:Int) (Aj ((a+n:Nat):Int) ((a+f:Nat):Int))=((min 64 (n-f):Nat):Int):=by
    rw[AO,Bi];omega
   rw[Abe Ba6,e1,get_eq p N (a+f) _ F0 F0 hp,Aa,ZB];have h1:=zR (Vk ((a+n:Nat):Int) p N q) ((a+n:Nat):Int) p N ((a+f:Nat):Int) (Mi p (a+f) (min 64 (n-f))) a (min 64 (n-f)) f Aq F0 F0 Ba7;refine Axr h1 ?_;rw[MJ,oH,Ag,show((a+f:Nat):Int)+64=((a+(f+64):Nat):Int) by omega];exact yc p N a n ha hp hn (j-min 64 (n-f)) (f+min 64 (n-f)) (f+64) q F0 F0 F0 F0
  ·rw[Abc Ba6,XM,pR,show m=n by omega]
theorem At6{p:LB}{N:Nat}(h:okB p N)(a n:Nat)(ha:a+n<=N)(hn:n<=300000):eZ p (N:Int) (a:Int) ((a+n:Nat):Int)=some (Ni p a n,(n:Int),0):=by
 obtain⟨h1,h2,h3⟩:=h;have:=yc p N a n F0 F0 hn n 0 0 Aq F0 F0 F0 Ba7;rw[eZ,fL,Vr ⟨h1,h2,h3⟩,Aa,Abc Ba9,Abc Bbe,mX];exact this
theorem Bbq(h:p:=by simp[Af];omega):p:=h
theorem Bbi(h:p:=by rw[Af];simp):p:=h
end Go.Pl
namespace Go.Pl
open Go Go.Lv
variable{p:LB}{n N a k l:Nat}{t s:UInt64}
def Gc(p:LB):Nat->Nat->Nat
 |_,0=>0
 |a,m+1=>if Ed p a=1 then 1+Gc p (a+1) m else 0
theorem MP(p:LB):∀(m a:Nat),Gc p a m<=m
 |0,_=>Aiw _
 |m+1,a=>by rw[Gc];split<;>have:=MP p m (a+1)<;>omega
theorem zo(p:LB):∀(m a:Nat),∃s,Bc p a m+1=2^(Gc p a m+1)*s+2^Gc p a m/\ (Gc p a m=m->s=0)
 |0,a=>⟨0,by simp[Bc,Gc],λ_=>rfl⟩
 |m+1,a=>by
  have hb:=Nc p a;obtain⟨s,h1,h2⟩:=zo p m (a+1);by_cases h:Ed p a=1
  ·refine⟨s,?_,λe=>h2 ?_⟩
   ·rw[Gc,Abe h,Bc,h,show 1+Gc p (a+1) m+1=(Gc p (a+1) m+1)+1 by omega,show 1+Gc p (a+1) m=Gc p (a+1) m+1 by omega,Avm,Avm (n:=2) (m:=Gc p (a+1) m)];rw[Avm]at h1;generalize Bc p (a+1) m=V at*
    generalize 2^Gc p (a+1) m=W at*
    have e1:W*2*2*s=2*(W*2*s):=by rw[Nat.mul_right_comm (W*2) 2 s,Apd]
    omega
   ·rw[Gc,Abe h]at e;omega
  ·refine⟨Bc p (a+1) m,?_,λe=>?_⟩
   ·rw[Gc,Abc h,Bc];simp;omega
   ·rw[Gc,Abc h]at e;omega
theorem Ary{t s:Nat}(h:2^(t+1)*s+2^t<=2^n)(ht:t<n)(x:Nat)(hx:x=2^n-(2^(t+1)*s+2^t)):x&&& (2^(t+1)*s+2^t)=2^t:=by
 have hpos:0<2^t:=Ayf F0;have hlt:2^t<2^(t+1):=by rw[Avm];omega
 have e:x=2^n-((2^(t+1)*s+(2^t-1))+1):=by rw[hx];congr 1;omega
 apply Nat.eq_of_testBit_eq;intro i;rw[Nat.testBit_and,e,Nat.testBit_two_pow_sub_succ F0,Nat.testBit_two_pow_mul_add _ F0,Nat.testBit_two_pow_mul_add _ hlt];by_cases hi:i<t+1
 ·rw[Abe hi,Abe hi,Nat.testBit_two_pow_sub_one,Nat.testBit_two_pow];by_cases hit:t=i
  ·subst hit;simp;exact ht
  ·have:¬i=t:=λe=>hit e.symm;simp[hit]
 ·rw[Abc hi,Abc hi,Nat.testBit_two_pow];have:¬t=i:=F0
  simp[this]
theorem Ano(a:UInt64):(B6 a).toNat=18446744073709551615-a.toNat:=by
 have h:=a.toNat_lt;have e:B6 a=UInt64.ofNat (BitVec.ofInt 64 18446744073709551615^^^BitVec.ofInt 64 (a.toNat:Int)).toNat:=Gx _;have h1:BitVec.ofInt 64 (a.toNat:Int)=a.toBitVec:=Z6 a;have h2:(BitVec.ofInt 64 18446744073709551615:BitVec 64)=BitVec.allOnes 64:=F6
 rw[e,Aig,h1,h2,BitVec.allOnes_xor,BitVec.toNat_not];show(18446744073709551616-1-a.toNat) %18446744073709551616=18446744073709551615-a.toNat;omega
theorem Amg(a:UInt64):(nP a).toNat=(18446744073709551616-a.toNat) %18446744073709551616:=by
 have h:=a.toNat_lt;have e:nP a=UInt64.ofNat ((0-(a.toNat:Int)) %18446744073709551616).toNat:=U9 _;rw[e,Aig];show((0-(a.toNat:Int)) %18446744073709551616).toNat %18446744073709551616=_;omega
def Aw4:LB:=[0,1,56,2,57,49,28,3,61,58,42,50,38,29,17,4,62,47,59,36,45,43,51,22,53,39,33,30,24,18,12,5,63,55,48,27,60,41,37,16,46,35,44,21,52,32,23,11,54,26,40,15,34,20,31,10,25,14,19,9,13,8,7,6]
theorem Ahn:∀t:Fin 64,Ak Aw4 (GI.toZ (Bv (Bg (UInt64.ofNat (2^t.val)) (285870213051353865:UInt64)) (GI.toZ (58:UInt64)).toNat))=some (UInt8.ofNat t.val):=by decide +kernel
theorem Awn(x:UInt64)(t s:Nat)(ht:t<64)(h:x.toNat+(2^(t+1)*s+2^t)=18446744073709551616):Fx x=some (t:Int):=by
 have hpos:0<2^t:=Ayf F0;have hx:x.toNat=2^64-(2^(t+1)*s+2^t):=by show x.toNat=18446744073709551616-_;omega
 have hle:2^t<=2^63:=Adr F0 F0;have hne:x≠0:=by
  intro e;rw[e]at h;have h':2^t*(2*s+1)=2^64:=by
   rw[Nat.mul_add,Bac,<-Azy,<-Avm]
   show _=18446744073709551616;simpa using h
  have h2:2^64=2^t*2^(64-t):=by rw[<-Bal];congr 1;omega
  rw[h2]at h';have h3:=Nat.eq_of_mul_eq_mul_left hpos h';rw[show 64-t=(63-t)+1 by omega,Avm]at h3;omega
 have hx0:x.toNat≠0:=λe=>hne (UInt64.toNat_inj.1 e);have hl:Dr x (nP x)=UInt64.ofNat (2^t):=by
  apply UInt64.toNat_inj.1;rw[zY,UInt64.toNat_and,Amg,show(18446744073709551616-x.toNat) %18446744073709551616=2^(t+1)*s+2^t by omega,Ary (n:=64) (by show _<=18446744073709551616;omega) ht _ hx,Aig,Abo];exact Ax6 hle F6
 have hb:=Ahn ⟨t,ht⟩;rw[Fx,Abc (by rw[vM];simpa using hne),hl];refine Axr (congrArg (λo=>Option.bind o λc=>some (Ad c:Int)) hb) ?_;rw[Aa,NC,Aoq,Abo (by show t<256;omega)]
theorem Ar8(p:LB)(a m:Nat)(hm:m<=48):Fx (B6 (Mi p a m))=some ((Gc p a m:Nat):Int):=by
 obtain⟨s,h1,h2⟩:=zo p m a;have hle:=MP p m a;have hlt:=Jg p m a;have h48:2^m<=2^48:=Adr F0 hm;have hn:(B6 (Mi p a m)).toNat=18446744073709551615-Bc p a m:=by rw[Ano,Va p a m F0]
 have h3:(281474976710656:Nat)=2^48:=rfl;refine Awn _ (Gc p a m) s F0 ?_;rw[hn];omega
def qw(p:LB)(N a:Nat):Int×Int×Int:=
 if Gc p a (min 48 (N-a))<min 48 (N-a)then((Gc p a (min 48 (N-a)):Nat),((a+Gc p a (min 48 (N-a))+1:Nat):Int),0)else
 if Gc p a (min 48 (N-a))=48 then(48,((a+48:Nat):Int),0)else(0,0,24)
theorem Ana(h:okB p N)(a:Nat)(ha:a<N):GH p (N:Int) (a:Int)=some (qw p N a):=by
 have hN:=h.1;have e1:Gi (48:Int) (Aj (N:Int) (a:Int))=((min 48 (N-a):Nat):Int):=by rw[AO,Bi];omega
 have hle:=MP p (min 48 (N-a)) a;rw[GH,Xv,Vr h,Aa,Abc Ba9,Abc Bbi,Abc Bbf,e1,sY h a _ F0,Abc F0,Aa];simp only;rw[TH,kQ,Abc Ba9,Ar8 p a _ F0,Aa,kU,kG,e1,qw];by_cases h1:Gc p a (min 48 (N-a))<min 48 (N-a)
 ·rw[Abe Ba6,Abe h1,Ag (a:=(a:Int)) F0 F0,show Ae (0:Int) 1=1 by decide,Ag];congr 3;omega
 ·rw[Abc Ba6,Abc h1,kN,jY];by_cases h2:Gc p a (min 48 (N-a))=48
  ·rw[Abe (by rw[Bb,h2];rfl),Abe h2,h2,Ag (a:=(a:Int)) F0 F0,Ag];congr 3;omega
  ·rw[Abc Bbd,Abc h2];rfl
theorem sM(p:LB):∀(m a:Nat),Gc p a m<m->Ed p (a+Gc p a m)≠1
 |0,_,h=>by simp[Gc]at h
 |m+1,a,h=>by
  by_cases hb:Ed p a=1
  ·rw[Gc,Abe hb]at h⊢;have:=sM p m (a+1) F0;rwa [show a+(1+Gc p (a+1) m)=a+1+Gc p (a+1) m by omega]
  ·rw[Gc,Abc hb];exact hb
theorem rR(p:LB):∀(m a k:Nat),k<Gc p a m->Ed p (a+k)=1
 |0,a,k,h=>by simp[Gc]at h
 |m+1,a,k,h=>by
  by_cases hb:Ed p a=1
  ·rw[Gc,Abe hb]at h;cases k with
   |zero=>exact hb
   |succ k=>
    have:=rR p m (a+1) k F0;rwa [show a+(k+1)=a+1+k by omega]
  ·rw[Gc,Abc hb]at h;omega
def unR(p:LB)(N a:Nat):Int×Int:=if(qw p N a).2.2=0 then((qw p N a).1,(qw p N a).2.1)else(-1,0)
theorem D3{p:LB}{N:Nat}(h:okB p N)(a:Nat)(ha:a<N):∀(j k q:Nat),k+j=Gc p a (min 48 (N-a))->j<q->Kl (a:Int) p (N:Int) q (k:Int)=some (unR p N a)
 |0,k,q+1,hk,_=>by
  obtain⟨hN,hl,hz⟩:=h;have hle:=MP p (min 48 (N-a)) a;have hk':k=Gc p a (min 48 (N-a)):=F0
  have e1:Ae (a:Int) (k:Int)=((a+k:Nat):Int):=by rw[Ag];omega
  have hend:Xd (a:Int) (k:Int) p (N:Int)=some (unR p N a):=by
   rw[Xd,ME,e1];by_cases h48:k=48
   ·have hu:qw p N a=(48,((a+48:Nat):Int),0):=by rw[qw,<-hk',Abc F0,Abe h48]
    rw[Abe (by rw[Bb,h48];rfl),unR,hu,h48];rfl
   ·rw[Abc Bbd];by_cases hN2:N<=a+k
    ·have hu:qw p N a=(0,0,24):=by rw[qw,<-hk',Abc F0,Abc h48]
     rw[Abe Bbf,unR,hu];rfl
    ·have hu:qw p N a=(((k:Nat):Int),((a+k+1:Nat):Int),0):=by rw[qw,<-hk',Abe F0]
     rw[Abc Bbf,unR,hu,Ag];rfl
  rw[Kl,Wz,e1];by_cases hc:a+k<N/\k<48
  ·have hb:=Nc p (a+k);have hs:=sM p (min 48 (N-a)) a F0;rw[<-hk']at hs;rw[Abe Bbq,rB p _ (a+k) F0 F0,Aa,Abc Bbd,hend]
  ·rw[Abc Bbq,hend]
 |j+1,k,q+1,hk,hq=>by
  obtain⟨hN,hl,hz⟩:=h;have hle:=MP p (min 48 (N-a)) a;have hb:=rR p (min 48 (N-a)) a k F0;have e1:Ae (a:Int) (k:Int)=((a+k:Nat):Int):=by rw[Ag];omega
  rw[Kl,Wz,e1,Abe Bbq,rB p _ (a+k) F0 F0,Aa,hb,Abe F6,Ag];exact D3 ⟨hN,hl,hz⟩ a ha j (k+1) q F0 F0
theorem Alk(h:okB p N)(a:Nat)(ha:a<N):US p (N:Int) (a:Int)=some (unR p N a):=by
 have hle:=MP p (min 48 (N-a)) a;have:=D3 h a ha (Gc p a (min 48 (N-a))) 0 Aq F0 Ba7;exact this
theorem Al1(h:Gc p a (min 48 (N-a))<min 48 (N-a)):qw p N a=(((Gc p a (min 48 (N-a)):Nat):Int),((a+Gc p a (min 48 (N-a))+1:Nat):Int),0):=by rw[qw,Abe h]
theorem Ane(h:¬Gc p a (min 48 (N-a))<min 48 (N-a))(h2:Gc p a (min 48 (N-a))=48):qw p N a=(48,((a+48:Nat):Int),0):=by rw[qw,Abc h,Abe h2]
theorem Ak0(h:¬Gc p a (min 48 (N-a))<min 48 (N-a))(h2:¬Gc p a (min 48 (N-a))=48):qw p N a=(0,0,24):=by rw[qw,Abc h,Abc h2]
theorem Ah2(h:okB p N)(a:Nat)(ha:N<=a):GH p (N:Int) (a:Int)=some (0,0,24):=by
 rw[GH,Xv,Vr h,Aa,Abc Ba9,Abc Bbi,Abe Bbf]
def RB(p:LB)(N a k:Nat):UInt32×Int×Int:=
 if N<=a then(0,0,24)else
 if Gc p a (min 48 (N-a))<min 48 (N-a)then
  (if N<a+Gc p a (min 48 (N-a))+1+k then(0,0,24)else(UInt32.ofNat (Gc p a (min 48 (N-a))*2^k+Bc p (a+Gc p a (min 48 (N-a))+1) k),((a+Gc p a (min 48 (N-a))+1+k:Nat):Int),0))
 else if Gc p a (min 48 (N-a))=48 then
  (if N<a+48+32 then(0,0,24)else if Bc p (a+48) 32/2^k<48 then(0,0,12)else(UInt32.ofNat (Bc p (a+48) 32),((a+48+32:Nat):Int),0))
 else(0,0,24)
theorem oC(h:n<=32):(Ad (Mi p a n):UInt32)=UInt32.ofNat (Bc p a n):=by
 have e:(Ad (Mi p a n):UInt32)=UInt32.ofNat (Mi p a n).toNat:=by simp only[Ad,Ib,Ek]
 rw[e,Va p a n F0]
theorem Tj(h:n<4294967296):(UInt32.ofNat n).toNat=n:=by rw[Aj6];exact Abo h
theorem zk(p:LB)(a:Nat)(h:n<=32):Bc p a n<4294967296:=by
 have h1:=Jg p n a;have h2:2^n<=2^32:=Adr F0 h;omega
theorem Au0{q v:Nat}(hq:q<48)(hv:v<2^k)(hk:k<=24):sD (Cy (Ad (q:Int):UInt32) k) (UInt32.ofNat v)=UInt32.ofNat (q*2^k+v):=by
 have hp:2^k<=2^24:=Adr F0 hk;have h1:q*2^k<=47*2^24:=Az6 F0 hp;rw[Aqp];apply UInt32.toNat_inj.1;rw[UInt32.toNat_or,cH,Q2,Tj F0,Tj (n:=v) F0,Abo F0,Apd q,<-Aw3 hv,Tj Bb2]
theorem Aqi(h:okB p N)(a k:Nat)(hk:k<=24):iU p (N:Int) (a:Int) (k:Int)=some (RB p N a k):=by
 have hN:=h.1;rw[iU,oX,Vr h,Aa,Abc Ba9,Abc Bbe];by_cases ha:N<=a
 ·rw[Ah2 h a ha,Aa,RB,Abe ha];rfl
 have hle:=MP p (min 48 (N-a)) a;rw[Ana h a F0,Aa];by_cases h1:Gc p a (min 48 (N-a))<min 48 (N-a)
 ·have hS:RB p N a k=if N<a+Gc p a (min 48 (N-a))+1+k then(0,0,24)else(UInt32.ofNat (Gc p a (min 48 (N-a))*2^k+Bc p (a+Gc p a (min 48 (N-a))+1) k),((a+Gc p a (min 48 (N-a))+1+k:Nat):Int),0):=by rw[RB,Abc ha,Abe h1]
  rw[Al1 h1,hS];generalize Gc p a (min 48 (N-a))=q at*
  simp only;rw[Abc Ba9,Abc Bbd,ZJ,YL,sY h _ k F0,Aa];by_cases h2:N<a+q+1+k
  ·rw[Abe h2,Abe h2];rfl
  ·rw[Abc h2,Abc h2];simp only;have z:(GI.toZ (k:Int)).toNat=k:=rfl;rw[Abc Ba9,Abe Ba6,Bf Bbg,Aa,z,oC F0,Au0 F0 (Jg _ _ _) hk,Ag];rfl
 ·by_cases h2:Gc p a (min 48 (N-a))=48
  ·have hS:RB p N a k=if N<a+48+32 then(0,0,24)else if Bc p (a+48) 32/2^k<48 then(0,0,12)else(UInt32.ofNat (Bc p (a+48) 32),((a+48+32:Nat):Int),0):=by rw[RB,Abc ha,Abc h1,Abe h2]
   have hg:=sY h (a+48) 32 F0;rw[Ane h1 h2,hS];simp only;rw[Abc Ba9,Abe Bbo,ZJ,YL];refine Axr (congrArg (λo=>Option.bind o _) hg) ?_;rw[Aa];by_cases h3:N<a+48+32
   ·rw[Abe h3,Abe h3];rfl
   ·rw[Abc h3,Abc h3];simp only;have z:(GI.toZ (k:Int)).toNat=k:=rfl;have hv:=zk p (a+48) (n:=32) F0;rw[Abc Ba9,Abc Bbi,Vw,Bf Bbg,Aa,Aa,z,oC F0,Ae7];have e:(decide ((48:UInt32).toNat<= (Bv (UInt32.ofNat (Bc p (a+48) 32)) k).toNat))=decide (¬Bc p (a+48) 32/2^k<48):=by
     rw[HP,Tj hv];simp
    rw[e];by_cases h4:Bc p (a+48) 32/2^k<48
    ·rw[Abe (by simp[h4]),Abe h4]
    ·rw[Abc Ba5,Abc h4,Ag];rfl
  ·rw[Ak0 h1 h2,RB,Abc ha,Abc h1,Abc h2];rfl
theorem zP(k:Nat)(hk:k<=63):∀(j i q:Nat),i+j=k->j<q->Ie (k:Int) q (UInt64.ofNat (2^i)) (i:Int)=some (UInt64.ofNat (2^k))
 |0,i,q+1,hi,_=>by
  rw[Ie,Sp,Abc Ba6,show i=k by omega];rfl
 |j+1,i,q+1,hi,hq=>by
  have e:Bg (UInt64.ofNat (2^i)) (2:UInt64)=UInt64.ofNat (2^(i+1)):=by
   rw[IW,Avm,UInt64.ofNat_mul];rfl
  rw[Ie,Sp,Abe Ba6,Ag,e];exact zP k hk j (i+1) q F0 F0
theorem IZ(k:Nat)(hk:k<=63):Fh (k:Int)=some (UInt64.ofNat (2^k)):=
 zP k hk k 0 Aq F0 Ba7
theorem RO(hk:k<=63):(UInt64.ofNat (2^k)).toNat=2^k:=by
 have hp:2^k<=2^63:=Adr F0 hk;rw[Aig,Abo F0]
theorem Apz(v:UInt32)(k:Nat)(hk:k<=24):AP v (k:Int)=some ((min 48 (v.toNat/2^k):Nat):Int):=by
 have hpos:0<2^k:=Ayf F0;have hv:=v.toNat_lt;rw[AP,IZ k F0,Aa,Bf (by rw[MN];simp only[Baz,ne_eq,<-Az3,RO (show k<=63 by omega)];simp),Aa];have e:(Ca (Ad v:UInt64) (UInt64.ofNat (2^k))).toNat=v.toNat/2^k:=by
  rw[pP,Ban,Cp,RO F0,Aig,Abo F0]
 have hle:v.toNat/2^k<=v.toNat:=Auo _ _;have e2:Gi (48:UInt64) (Ca (Ad v:UInt64) (UInt64.ofNat (2^k)))=UInt64.ofNat (min 48 (v.toNat/2^k)):=by
  apply UInt64.toNat_inj.1;rw[Aig,Abo F0];show(if _ then _ else _:UInt64).toNat=_;rw[show(GI.toZ (Ca (Ad v:UInt64) (UInt64.ofNat (2^k))))=((v.toNat/2^k:Nat):Int) by rw[Ib,e],show GI.toZ (48:UInt64)=48 from rfl];split
  ·rw[e];omega
  ·show 48=_;omega
 rw[e2,sU (by rw[Aig,Abo]<;>omega),Aig,Abo F0]
theorem Ale(h:okB p N)(a k:Nat)(hk:k<=24):GD p (N:Int) (a:Int) (k:Int)=some (RB p N a k):=by
 obtain⟨hN,hl,hz⟩:=h;have h:okB p N:=⟨hN,hl,hz⟩;rw[GD,LJ];by_cases ha:N<=a
 ·rw[Abe Bbf,RB,Abe ha]
 have hle:=MP p (min 48 (N-a)) a;rw[Abc Bbf,Alk h a F0,Aa,unR];by_cases h1:Gc p a (min 48 (N-a))<min 48 (N-a)
 ·have hS:RB p N a k=if N<a+Gc p a (min 48 (N-a))+1+k then(0,0,24)else(UInt32.ofNat (Gc p a (min 48 (N-a))*2^k+Bc p (a+Gc p a (min 48 (N-a))+1) k),((a+Gc p a (min 48 (N-a))+1+k:Nat):Int),0):=by rw[RB,Abc ha,Abe h1]
  rw[Al1 h1,hS];generalize Gc p a (min 48 (N-a))=q at*
  rw[Abe rfl];simp only;rw[Abc Bbd,Xb,Wp,Bi];by_cases h2:N<a+q+1+k
  ·rw[Abe Bbq,Abe h2]
  ·have hp:2^k<=2^24:=Adr F0 hk;have hm:q*2^k<=47*2^24:=Az6 F0 hp;have hv:=Jg p k (a+q+1);have e:(Ad (Ae (Bg (Ad (q:Int):UInt64) (UInt64.ofNat (2^k))) (Mi p (a+q+1) k)):UInt32)=UInt32.ofNat (q*2^k+Bc p (a+q+1) k):=by
    have e1:Ae (Bg (Ad (q:Int):UInt64) (UInt64.ofNat (2^k))) (Mi p (a+q+1) k)=UInt64.ofNat (q*2^k+Bc p (a+q+1) k):=by
     rw[JD,IW,Rv,Mi,UInt64.ofNat_add,UInt64.ofNat_mul]
    rw[e1];have e2:∀x:UInt64,(Ad x:UInt32)=UInt32.ofNat x.toNat:=λx=>by simp only[Ad,Ib,Ek]
    rw[e2,Aig,Abo F0]
   rw[Abc Bbq,Abc h2,lD p _ _ k F0 F0,Aa,Abe Ba6,IZ k F0,Aa,e,Ag];rfl
 ·by_cases h2:Gc p a (min 48 (N-a))=48
  ·have hS:RB p N a k=if N<a+48+32 then(0,0,24)else if Bc p (a+48) 32/2^k<48 then(0,0,12)else(UInt32.ofNat (Bc p (a+48) 32),((a+48+32:Nat):Int),0):=by rw[RB,Abc ha,Abc h1,Abe h2]
   rw[Ane h1 h2,hS,Abe rfl];simp only;rw[Abe Bbo,Xb,Wp,Bi];by_cases h3:N<a+48+32
   ·rw[Abe Bbq,Abe h3]
   ·have hg:=lD p (N:Int) (a+48) 32 F0 F0;have hv:=zk p (a+48) (n:=32) F0;rw[Abc Bbq,Abc h3];refine Axr (congrArg (λo=>Option.bind o _) hg) ?_;rw[Aa,Abc Bbi,oC F0,Apz _ k hk,Aa,Tj hv];by_cases h4:Bc p (a+48) 32/2^k<48
    ·rw[Abe Ba6,Abe h4]
    ·rw[Abc Ba6,Abc h4,Ag];rfl
  ·rw[Ak0 h1 h2,RB,Abc ha,Abc h1,Abc h2];have e:(if((0:Int),(0:Int),(24:Int)).2.2=0 then(((0:Int),(0:Int),(24:Int)).1,((0:Int),(0:Int),(24:Int)).2.1)else((-1:Int),(0:Int)))=(-1,0):=F6
   rw[e];rfl
theorem At2{v:UInt32}{n:Int}(h:RB p N a k=(v,n,0)):(a:Int)<n/\n<=N:=by
 unfold RB at h;split at h
 ·simp at h
 split at h
 ·split at h
  ·simp at h
  ·simp only[As8]at h;omega
 ·split at h
  ·split at h
   ·simp at h
   ·split at h
    ·simp at h
    ·simp only[As8]at h;omega
  ·simp at h
def okD(k l:Nat)(s t:UInt64):Prop:=k<=24/\l<=24/\s.toNat<=68719476735/\t.toNat<=68719476735
theorem zn(a b:UInt64)(h:a.toNat<=b.toNat):Gi a b=a:=by
 show(if _ then _ else _)=_;rw[Ib,Ib,Abc F0]
theorem nK(a:UInt64):geq a a=true:=by rw[vM];simp
theorem Akj(h:okD k l s t):QF (k:Int) (l:Int) s t=some 0:=by
 obtain⟨h1,h2,h3,h4⟩:=h;have e1:Gi (oA (k:Int) 0) 24=(k:Int):=by rw[AO,fu];omega
 have e2:Gi (oA (l:Int) 0) 24=(l:Int):=by rw[AO,fu];omega
 have e3:Gi s (68719476735:UInt64)=s:=zn _ _ (by simpa using h3);have e4:Gi t (68719476735:UInt64)=t:=zn _ _ (by simpa using h4);have e5:∀a:Int,geq a a=true:=λa=>by rw[Bb];simp
 rw[QF,GZ,TY,GQ,SU,jW,e1,e2,e3,e4,e5,e5,nK,nK];rfl
def Ts(s n:UInt64):UInt64:=s+n-s/16
def kS(k:Nat)(s:UInt64):Nat:=if 0<k/\s.toNat<2^(k+4)then k-1 else if k<24/\2^(k+5)<s.toNat then k+1 else k
theorem As5(h:k<=24)(s:UInt64):kS k s<=24:=by
 unfold kS;by_cases h1:0<k/\s.toNat<2^(k+4)
 ·rw[Abe h1];omega
 ·rw[Abc h1];split<;>omega
theorem Ae6(h:¬(0<k/\s.toNat<2^(k+4))):(if k<24/\2^(k+5)<s.toNat then((k+1:Nat):Int)else(k:Int))=((kS k s:Nat):Int):=by
 rw[kS,Abc h];split<;>rfl
theorem Ae8{n:UInt64}(h:s.toNat<=68719476735)(hn:n.toNat<=4294967295):(Ts s n).toNat<=68719476735:=by
 have h1:=s.toNat_lt;have e:(s+n).toNat=s.toNat+n.toNat:=by rw[UInt64.toNat_add];omega
 have e2:(s/16).toNat=s.toNat/16:=by rw[Ban];rfl
 rw[Ts,UInt64.toNat_sub_of_le _ _ (by rw[UInt64.le_iff_toNat_le,e,e2];omega),e,e2];omega
theorem UJ(s n:UInt64):Ae s (Aj n (Bv s (GI.toZ (4:UInt64)).toNat))=Ts s n:=by
 have e:Bv s (GI.toZ (4:UInt64)).toNat=s/16:=by
  apply UInt64.toNat_inj.1;rw[DO,Ban];rfl
 rw[e,JD,pY,Ts,UInt64.sub_eq_add_neg,UInt64.sub_eq_add_neg,UInt64.add_assoc]
theorem Afk(s n:UInt64):Aj (Ae s n) (Ca s (16:UInt64))=Ts s n:=by rw[JD,pY,pP,Ts]
theorem Av8(h:k<=24):(Cy (16:UInt64) k).toNat=2^(k+4):=by
 have hp:2^k<=2^24:=Adr F0 h;rw[QX,Bal]
 show 16*2^k %_=2^k*16;rw[Abo F0,Apd]
theorem Avb(h:k<=24):(Cy (32:UInt64) k).toNat=2^(k+5):=by
 have hp:2^k<=2^24:=Adr F0 h;rw[QX,Bal]
 show 32*2^k %_=2^k*32;rw[Abo F0,Apd]
theorem Asz(h:0<k)(h2:s.toNat<2^(k+4)):kS k s=k-1:=by rw[kS,Abe ⟨h,h2⟩]
theorem As9(h:¬(0<k/\s.toNat<2^(k+4)))(h2:k<24)(h3:2^(k+5)<s.toNat):kS k s=k+1:=by rw[kS,Abc h,Abe ⟨h2,h3⟩]
theorem Aff(h:¬(0<k/\s.toNat<2^(k+4)))(h2:¬(k<24/\2^(k+5)<s.toNat)):kS k s=k:=by rw[kS,Abc h,Abc h2]
theorem Agv{α:Type}(k:Nat)(hk:k<=24)(s:UInt64)(f:Int->Option α):
  (if(Eu (k:Int) (0:Int))=true then(
   Option.bind (Hz (Me (k:Int) (0:Int))) λ_=>
   if(Cg s (Cy (16:UInt64) (GI.toZ (k:Int)).toNat))=true then f (Aj (k:Int) (1:Int))
   else(if(Cg (k:Int) (24:Int))=true then(
    Option.bind (Hz (Me (k:Int) (0:Int))) λ_=>
    if(Eu s (Cy (32:UInt64) (GI.toZ (k:Int)).toNat))=true then f (Ae (k:Int) (1:Int))else f (k:Int))
    else f (k:Int)))
  else(if(Cg (k:Int) (24:Int))=true then(
    Option.bind (Hz (Me (k:Int) (0:Int))) λ_=>
    if(Eu s (Cy (32:UInt64) (GI.toZ (k:Int)).toNat))=true then f (Ae (k:Int) (1:Int))else f (k:Int))
    else f (k:Int)))=f ((kS k s:Nat):Int):=by
 have z:(GI.toZ (k:Int)).toNat=k:=rfl;rw[z,Bf Bbg];simp only[Aa];rw[vS,RV,Av8 hk,Avb hk];by_cases h0:0<k
 ·rw[Abe Bbb];by_cases h1:s.toNat<2^(k+4)
  ·rw[Abe (by simp[h1]),Asz h0 h1,Bi];congr 1;omega
  ·rw[Abc Ba5];by_cases h2:k<24
   ·rw[Abe Ba6];by_cases h3:2^(k+5)<s.toNat
    ·rw[Abe (by simp[h3]),As9 (λh=>h1 h.2) h2 h3,Ag];rfl
    ·rw[Abc Ba5,Aff (λh=>h1 h.2) (λh=>h3 h.2)]
   ·rw[Abc Ba6,Aff (λh=>h1 h.2) (λh=>h2 h.1)]
 ·rw[Abc Bbb];by_cases h2:k<24
  ·rw[Abe Ba6];by_cases h3:2^(k+5)<s.toNat
   ·rw[Abe (by simp[h3]),As9 (λh=>h0 h.1) h2 h3,Ag];rfl
   ·rw[Abc Ba5,Aff (λh=>h0 h.1) (λh=>h3 h.2)]
  ·rw[Abc Ba6,Aff (λh=>h0 h.1) (λh=>h2 h.1)]
theorem Agj(k:Nat)(hk:k<=24)(s n:UInt64):Th (k:Int) s n=some (((kS k (Ts s n):Nat):Int),Ts s n):=by
 have g1:Ae (k:Int) 4=((k+4:Nat):Int):=by rw[Ag];omega
 have g2:Ae (k:Int) 5=((k+5:Nat):Int):=by rw[Ag];omega
 have hp:Tx (k:Int) s n=some (if k<24/\2^(k+5)<(Ts s n).toNat then((k+1:Nat):Int)else(k:Int),Ts s n):=by
  rw[Tx,JX,g2,IZ _ F0,Aa,Afk,RV,RO F0];by_cases h2:k<24
  ·rw[Abe Ba6];by_cases h3:2^(k+5)<(Ts s n).toNat
   ·rw[Abe (by simp[h3]),Abe ⟨h2,h3⟩,Ag];rfl
   ·rw[Abc Ba5,Abc (λh=>h3 h.2)]
  ·rw[Abc Ba6,Abc (λh=>h2 h.1)]
 rw[Th,IG,g1,IZ _ F0,Aa,Afk,vS,RO F0,hp];by_cases h0:0<k
 ·rw[Abe Bbb];by_cases h1:(Ts s n).toNat<2^(k+4)
  ·rw[Abe (by simp[h1]),Asz h0 h1,Bi];congr 2;omega
  ·rw[Abc Ba5,Ae6 (λh=>h1 h.2)]
 ·rw[Abc Bbb,Ae6 (λh=>h0 h.1)]
def vK(v:UInt32):UInt64:=UInt64.ofNat v.toNat
theorem Als(v:UInt32):(vK v).toNat<=4294967295:=by have:=v.toNat_lt;rw[vK,Aig,Abo F0];omega
def aN(k:Nat)(v:UInt32):UInt32:=UInt32.ofNat (v.toNat-2^k)
def lK(l:Nat)(t:UInt64)(k:Nat)(v:UInt32):Nat:=if v.toNat<2^k then l else kS l (Ts t (vK (aN k v)))
def lT(t:UInt64)(k:Nat)(v:UInt32):UInt64:=if v.toNat<2^k then t else Ts t (vK (aN k v))
theorem Akt(h:okD k l s t)(v:UInt32):okD (kS k (Ts s (vK v))) (lK l t k v) (Ts s (vK v)) (lT t k v):=by
 obtain⟨h1,h2,h3,h4⟩:=h;refine⟨As5 h1 _,?_,Ae8 h3 (Als v),?_⟩
 ·unfold lK;split; · exact h2
  exact As5 h2 _
 ·unfold lT;split; · exact h4
  exact Ae8 h4 (Als _)
theorem Auf(k l:Nat)(s t:UInt64)(hk:k<=24)(v:UInt32):FV (k:Int) (l:Int) s t v=some (decide (v.toNat<2^k)):=by
 have:=v.toNat_lt;rw[FV,IZ k F0,Aa,vS,RO F0,Cp,Aig,Abo F0]
theorem left_eq(k l:Nat)(s t:UInt64)(hk:k<=24)(v:UInt32)(h:¬v.toNat<2^k):CF (k:Int) (l:Int) s t v=some (aN k v):=by
 have:=v.toNat_lt;have e2:∀x:UInt64,(Ad x:UInt32)=UInt32.ofNat x.toNat:=λx=>by simp only[Ad,Ib,Ek]
 have e3:(UInt64.ofNat v.toNat).toNat=v.toNat:=by rw[Aig,Abo F0]
 rw[CF,IZ k F0,Aa,e2,pY,Cp,UInt64.toNat_sub_of_le _ _ (by rw[UInt64.le_iff_toNat_le,RO F0,e3];omega),RO F0,e3,aN]
theorem Aji(h:okD k l s t)(v:UInt32):Wh (k:Int) (l:Int) s t v=some (((kS k (Ts s (vK v)):Nat):Int),((lK l t k v:Nat):Int),Ts s (vK v),lT t k v):=by
 obtain⟨h1,h2,h3,h4⟩:=h;have hp:∀(r1:Int) (r2:UInt64),Qi v (k:Int) (l:Int) s t r1 r2=some (((kS k (Ts s (vK v)):Nat):Int),r1,Ts s (vK v),r2):=by
  intro r1 r2;rw[Qi,CY,Cp,Agj k h1,Aa];rfl
 rw[Wh,AU,Auf k l s t h1,Aa];by_cases hv:v.toNat<2^k
 ·rw[Abc (by simp[hv]),hp,lK,Abe hv,lT,Abe hv]
 ·rw[Abe Ba5,left_eq k l s t h1 v hv,Aa,Cp,Agj l h2,Aa];simp only;rw[hp,lK,Abc hv,lT,Abc hv];rfl
theorem yF(k l:Nat)(s t:UInt64)(hk:k<=24)(v:UInt32):GK (k:Int) (l:Int) s t v=some (if v.toNat<2^k then(0,v)else(1,aN k v)):=by
 have hp:2^k<=2^24:=Adr F0 hk;have hpos:0<2^k:=Ayf F0;have hl:=v.toNat_lt;have z:(GI.toZ (k:Int)).toNat=k:=rfl;have e1:geq (Bv v k) (0:UInt32)=decide (v.toNat<2^k):=by
  rw[U2,Aoi];simp only[Aye,<-UInt32.toNat_inj,HP,Ab6]
  show _/_=0↔_;rw[Nat.div_eq_zero_iff];omega
 have e2:¬v.toNat<2^k->Aj v (Cy (1:UInt32) k)=aN k v:=by
  intro h;have e3:(Cy (1:UInt32) k).toNat=2^k:=by rw[cH];show 1*2^k %_=_;rw[Abo F0,Nat.one_mul]
  apply UInt32.toNat_inj.1;rw[xK,UInt32.toNat_sub_of_le _ _ (by rw[UInt32.le_iff_toNat_le,e3];omega),e3,aN,Tj F0]
 rw[GK,Bf Bbg,Aa,Aa,z,e1];by_cases h:v.toNat<2^k
 ·rw[Abe (by simp[h]),Abe h]
 ·rw[Abc Ba5,Abc h,e2 h]
abbrev Rd:=UInt32×Int×Int×Int×UInt64×UInt64×Int
theorem wW(h:okD k l s t)(v:UInt32)(r:Int):XT (k:Int) (l:Int) s t v r=some (v,r,((kS k (Ts s (vK v)):Nat):Int),((lK l t k v:Nat):Int),Ts s (vK v),lT t k v,0):=by
 obtain⟨h1,h2,h3,h4⟩:=h;have hp:∀(x:Int) (y:UInt64),DM v r (k:Int) s x y=some (v,r,((kS k (Ts s (vK v)):Nat):Int),x,Ts s (vK v),y,0):=by
  intro x y;rw[DM,qD,Cp,UJ,Agv k h1];rw[nC,pM,kE,jV,Cp,UJ];rfl
 rw[XT,XN,yF k l s t h1,Aa];by_cases hv:v.toNat<2^k
 ·rw[Abe hv];simp only;rw[Abc Bbt,hp,lK,Abe hv,lT,Abe hv]
 ·rw[Abc hv];simp only;rw[Abe Bbo,Cp,UJ,Agv l h2 _ (λx=>DM v r (k:Int) s x (Ts t (UInt64.ofNat (aN k v).toNat))),hp,lK,Abc hv,lT,Abc hv];rfl
def XQ(p:LB)(N a k l:Nat):UInt32×Int×Int:=
 if N<=a then(0,0,24)else
 if Ed p a=0 then(if N<a+1+k then(0,0,24)else(UInt32.ofNat (Bc p (a+1) k),((a+1+k:Nat):Int),0))else
 if(RB p N (a+1) l).2.2≠0 then(0,0,(RB p N (a+1) l).2.2)else
 if 4294967295<(RB p N (a+1) l).1.toNat+2^k then(0,0,12)else(UInt32.ofNat ((RB p N (a+1) l).1.toNat+2^k),(RB p N (a+1) l).2.1,0)
theorem Aur(h:(XQ p N a k l).2.2=0):(a:Int)<(XQ p N a k l).2.1/\ (XQ p N a k l).2.1<=N:=by
 revert h
 unfold XQ;split
 ·simp
 split
 ·split
  ·simp
  ·simp only;omega
 ·split
  ·intro h;contradiction
  ·rename_i h1;split
   ·simp
   ·intro _;have:=At2 (p:=p) (N:=N) (a:=a+1) (k:=l) (v:=(RB p N (a+1) l).1) (n:=(RB p N (a+1) l).2.1) (by
     have e:(RB p N (a+1) l).2.2=0:=by simpa using h1
     rw[<-e])
    simp only;omega
theorem Aqg(h:okB p N)(a:Nat)(hd:okD k l s t):FY p (N:Int) (a:Int) (k:Int) (l:Int) s t=
  some (if(XQ p N a k l).2.2≠0 then(0,0,0,0,0,0,(XQ p N a k l).2.2)else((XQ p N a k l).1,(XQ p N a k l).2.1,((kS k (Ts s (vK (XQ p N a k l).1)):Nat):Int),((lK l t k (XQ p N a k l).1:Nat):Int),Ts s (vK (XQ p N a k l).1),lT t k (XQ p N a k l).1,0)):=by
 obtain⟨h1,h2,h3,h4⟩:=hd;have hd:okD k l s t:=⟨h1,h2,h3,h4⟩;have hN:=h.1;have hg:=sY h a 1 F0;have hb:=Nc p a;rw[FY,ZW,Vr h,Aa,Abc Ba9,Akj hd,Aa,Abc Ba9,qH,XX];refine Axr (congrArg (λo=>Option.bind o _) hg) ?_;rw[Aa];by_cases ha:N<=a
 ·have hS:XQ p N a k l=(0,0,24):=by rw[XQ,Abe ha]
  rw[Abe F0,hS];rfl
 rw[Abc F0];simp only;have e0:geq (Mi p a 1) (0:UInt64)=decide (Ed p a=0):=by
  rw[vM,Aoi];simp only[Aye,<-Az3,Ab6,Va p a 1 F0,oL];rfl
 have e1:Ae (a:Int) 1=((a+1:Nat):Int):=by rw[Ag];omega
 rw[Abc Ba9,e0,e1];by_cases hz:Ed p a=0
 ·rw[Abe (by simp[hz]),sY h (a+1) k F0,Aa];by_cases h5:N<a+1+k
  ·have hS:XQ p N a k l=(0,0,24):=by rw[XQ,Abc ha,Abe hz,Abe h5]
   rw[Abe h5,hS];rfl
  ·have hS:XQ p N a k l=(UInt32.ofNat (Bc p (a+1) k),((a+1+k:Nat):Int),0):=by rw[XQ,Abc ha,Abe hz,Abc h5]
   rw[Abc h5,hS];simp only;rw[Abc Ba9,wW hd,oC F0,Ag];rfl
 ·rw[Abc (by simp[hz]),Aqi h (a+1) l h2,Aa];have hp:2^k<=2^24:=Adr F0 h1;by_cases h5:(RB p N (a+1) l).2.2≠0
  ·have hS:XQ p N a k l=(0,0,(RB p N (a+1) l).2.2):=by rw[XQ,Abc ha,Abc hz,Abe h5]
   rw[hS];generalize RB p N (a+1) l=R at*
   obtain⟨v,n,e⟩:=R;simp only at*
   rw[Abe (by rw[Ah];simpa using h5),Abe h5]
  ·have hv:=(RB p N (a+1) l).1.toNat_lt;have z:(GI.toZ (k:Int)).toNat=k:=rfl;have e3:(Cy (1:UInt32) k).toNat=2^k:=by rw[cH];show 1*2^k %_=_;rw[Abo F0,Nat.one_mul]
   by_cases h6:4294967295<(RB p N (a+1) l).1.toNat+2^k
   ·have hS:XQ p N a k l=(0,0,12):=by rw[XQ,Abc ha,Abc hz,Abc h5,Abe h6]
    rw[hS];generalize RB p N (a+1) l=R at*
    obtain⟨v,n,e⟩:=R;simp only at*
    rw[Abc (by rw[Ah];simpa using h5),Bf Bbg,Aa,z,Abe (by rw[Ae9,wA,UInt32.toNat_add,e3];simp;omega),Abe F6]
   ·have hS:XQ p N a k l=(UInt32.ofNat ((RB p N (a+1) l).1.toNat+2^k),(RB p N (a+1) l).2.1,0):=by rw[XQ,Abc ha,Abc hz,Abc h5,Abc h6]
    rw[hS];generalize RB p N (a+1) l=R at*
    obtain⟨v,n,e⟩:=R;simp only at*
    have e4:Ae v (Cy (1:UInt32) k)=UInt32.ofNat (v.toNat+2^k):=by
     apply UInt32.toNat_inj.1;rw[wA,UInt32.toNat_add,e3,Tj F0,Abo F0]
    rw[Abc (by rw[Ah];simpa using h5),Bf Bbg,Aa,z,Abc (by rw[Ae9,wA,UInt32.toNat_add,e3];simp;omega),e4,wW hd];rfl
theorem Anr(h:okB p N)(a:Nat)(k l:Nat)(s t:UInt64)(h1:k<=24)(h2:l<=24):FZ p (N:Int) (a:Int) (k:Int) (l:Int) s t=some (XQ p N a k l):=by
 have hN:=h.1;have hl:=h.2.1;have hb:=Nc p a;rw[FZ];by_cases ha:N<=a
 ·rw[Abe Bbf,XQ,Abe ha]
 rw[Abc Bbf,rB p _ a F0 F0,Aa,Bi (a:=(N:Int)) (b:=(a:Int)) F0 F0,Bi];have e1:Ae (a:Int) 1=((a+1:Nat):Int):=by rw[Ag];omega
 rw[e1];by_cases hz:Ed p a=0
 ·rw[Abe (by rw[Bb];simp[hz])];by_cases h5:N<a+1+k
  ·rw[Abe Ba6,XQ,Abc ha,Abe hz,Abe h5]
  ·rw[Abc Ba6,lD p _ (a+1) k F0 F0,Aa,XQ,Abc ha,Abe hz,Abc h5,oC F0,Ag];rfl
 ·rw[Abc Bbd,Ale h (a+1) l h2,Aa];have hp:2^k<=2^24:=Adr F0 h1;have hv:=(RB p N (a+1) l).1.toNat_lt;have e2:∀x:UInt64,(Ad x:UInt32)=UInt32.ofNat x.toNat:=λx=>by simp only[Ad,Ib,Ek]
  by_cases h5:(RB p N (a+1) l).2.2≠0
  ·have hS:XQ p N a k l=(0,0,(RB p N (a+1) l).2.2):=by rw[XQ,Abc ha,Abc hz,Abe h5]
   rw[hS];generalize RB p N (a+1) l=R at*
   obtain⟨v,n,e⟩:=R;simp only at*
   rw[Abe (by rw[Ah];simpa using h5)]
  ·have hsum:∀v:UInt32,(Ae (Ad v:UInt64) (UInt64.ofNat (2^k))).toNat=v.toNat+2^k:=by
    intro v;have:=v.toNat_lt;have:=Ayf (n:=k) (show 0<2 by omega);rw[JD,UInt64.toNat_add,Cp,RO F0,Aig];omega
   by_cases h6:4294967295<(RB p N (a+1) l).1.toNat+2^k
   ·have hS:XQ p N a k l=(0,0,12):=by rw[XQ,Abc ha,Abc hz,Abc h5,Abe h6]
    rw[hS];generalize RB p N (a+1) l=R at*
    obtain⟨v,n,e⟩:=R;simp only at*
    rw[Abc (by rw[Ah];simpa using h5),IZ k F0,Aa,Abe (by rw[RV,hsum];simpa using h6)]
   ·have hS:XQ p N a k l=(UInt32.ofNat ((RB p N (a+1) l).1.toNat+2^k),(RB p N (a+1) l).2.1,0):=by rw[XQ,Abc ha,Abc hz,Abc h5,Abc h6]
    rw[hS];generalize RB p N (a+1) l=R at*
    obtain⟨v,n,e⟩:=R;simp only at*
    rw[Abc (by rw[Ah];simpa using h5),IZ k F0,Aa,Abc (by rw[RV,hsum];simpa using h6),e2,hsum]
theorem Bbc{p:Prop}(h:p:=by rw[Ah];simp;omega):p:=h
theorem Bby{p:Prop}(h:p:=by rw[<-Ax3];omega):p:=h
end Go.Pl
namespace Go.Pl
open Go Go.Lv
variable{out v:LU}
abbrev DuN:=Nat×Nat×UInt64×UInt64
def okN(d:DuN):Prop:=okD d.1 d.2.1 d.2.2.1 d.2.2.2
def nxt(d:DuN)(v:UInt32):DuN:=(kS d.1 (Ts d.2.2.1 (vK v)),lK d.2.1 d.2.2.2 d.1 v,Ts d.2.2.1 (vK v),lT d.2.2.2 d.1 v)
def ji:DuN:=(10,10,16384,16384)
theorem Al3:okN ji:=⟨F6,F6,F6,F6⟩
theorem Aut{d:DuN}(h:okN d)(v:UInt32):okN (nxt d v):=Akt h v
abbrev DuL:=Int×Int×UInt64×UInt64×Unit
def toI(d:DuN):DuL:=((d.1:Int),(d.2.1:Int),d.2.2.1,d.2.2.2,())
def bS(ch:Nat)(v:LU)(c:Nat):Nat->DuN
 |0=>ji
 |m+1=>if m %ch=c then nxt (bS ch v c m) (v.getD m 0)else bS ch v c m
theorem eS(ch:Nat)(v:LU)(c:Nat):∀m,okN (bS ch v c m)
 |0=>Al3
 |m+1=>by rw[bS];split;exact Aut (eS ch v c m) _;exact eS ch v c m
theorem Ago(ch:Nat)(v w:LU)(c:Nat):∀m,m<=v.length->bS ch (v++w) c m=bS ch v c m
 |0,_=>rfl
 |m+1,h=>by
  have e:(v++w).getD m 0=v.getD m 0:=by simp[List.getD_eq_getElem?_getD,List.getElem?_append_left (show m<v.length by omega)]
  rw[bS,bS,Ago ch v w c m F0,e]
theorem T8(ch:Nat)(v:LU)(c:Nat):∀m,m<=c->c<ch->bS ch v c m=ji
 |0,_,_=>rfl
 |m+1,h,h2=>by rw[bS,Abc (by rw[Abo F0];omega),T8 ch v c m F0 h2]
theorem Aat(ch:Nat)(v:LU)(c i:Nat)(hi:i %ch=c)(hc:c<ch):∀j,j<ch->bS ch v c (i+1+j)=bS ch v c (i+1)
 |0,_=>rfl
 |j+1,h=>by
  have hne:(i+1+j) %ch≠c:=by
   intro e;have h1:(i+(1+j)) %ch=i %ch:=by rw[hi,<-e];congr 1;omega
   have h2:(1+j) %ch=0:=by
    have h3:=Nat.sub_mod_eq_zero_of_mod_eq h1;rwa [Ayd]at h3
   rw[Abo F0]at h2;omega
  rw[show i+1+(j+1)=(i+1+j)+1 by omega,bS,Abc hne,Aat ch v c i hi hc j F0]
theorem Amo(ch:Nat)(v:LU)(c i:Nat)(hi:i %ch=c)(hc:c<ch):bS ch v c (i+ch)=nxt (bS ch v c i) (v.getD i 0):=by
 have h:=Aat ch v c i hi hc (ch-1) F0;rw[show i+1+(ch-1)=i+ch by omega]at h;rw[h,bS,Abe hi]
theorem pZ{l:LU}{k:Nat}(h:k<l.length):Ak l (k:Int)=some (l.getD k 0):=by
 rw[Ci h];simp[List.getD_eq_getElem?_getD,h]
theorem KF(a b:Nat):Ge (a:Int) (b:Int)=((a %b:Nat):Int):=by rw[Ge,Azi F0];omega
theorem uP(ch:Nat)(v:LU)(hch:1<=ch)(Avq:ch<=6)(hv:v.length<=4000):∀(j i q:Nat),i %ch=v.length %ch->i<=v.length->v.length-i<=j->j<q->
  Lb (ch:Int) v q (i:Int) ((bS ch v (v.length %ch) i).1:Int) ((bS ch v (v.length %ch) i).2.1:Int) (bS ch v (v.length %ch) i).2.2.1 (bS ch v (v.length %ch) i).2.2.2=
   some (((bS ch v (v.length %ch) v.length).1:Int),((bS ch v (v.length %ch) v.length).2.1:Int),(bS ch v (v.length %ch) v.length).2.2.1,(bS ch v (v.length %ch) v.length).2.2.2)
 |j,i,q+1,hi,hl,hj,hq=>by
  have hc:v.length %ch<ch:=Ax5 _ F0;rw[Lb,CW];by_cases h:i<v.length
  ·have h1:=Aji (eS ch v (v.length %ch) i) (v.getD i 0);rw[Abe F2,pZ h,Aa,h1,Aa];have hle:i+ch<=v.length:=by
    have h2:=Bai i ch;have h3:=Bai v.length ch;rw[hi]at h2;have h4:ch*(i/ch)<ch*(v.length/ch):=F0
    have h5:=Nat.lt_of_mul_lt_mul_left h4;have h6:ch*(i/ch+1)<=ch*(v.length/ch):=Nat.mul_le_mul_left _ h5;rw[Nat.mul_add]at h6;omega
   have ih:=uP ch v hch Avq hv (j-ch) (i+ch) q (by rw[Bah];exact hi) hle F0 F0;rw[Amo ch v _ i hi hc]at ih;simp only;rw[Ag];exact ih
  ·rw[Abc F2,show i=v.length by omega];rfl
theorem Ain(ch:Nat)(v:LU)(hch:1<=ch)(Avq:ch<=6)(hv:v.length<=4000):Nu (ch:Int) v=some (((bS ch v (v.length %ch) v.length).1:Int),((bS ch v (v.length %ch) v.length).2.1:Int),(bS ch v (v.length %ch) v.length).2.2.1,(bS ch v (v.length %ch) v.length).2.2.2):=by
 have hc:v.length %ch<ch:=Ax5 _ F0;have hle:v.length %ch<=v.length:=Nat.mod_le _ _;have h:=uP ch v hch Avq hv v.length (v.length %ch) Aq (by rw[Nat.mod_mod]) hle F0 Ba7;rw[T8 ch v _ _ (Aiw _) hc]at h;rw[Nu,BO,Ln,Aa];simp only;rw[Bf Bbc,Aa,Ac,KF];exact h
def now(ch:Nat)(v:LU):DuN:=bS ch v (v.length %ch) v.length
def wF(N a:Nat):Nat:=min 81 (N-a)
def It(ch:Nat)(p:LB)(N a:Nat)(out:LU):UInt32×Int×Int:=XQ (Ni p a (wF N a)) (wF N a) 0 (now ch out).1 (now ch out).2.1
def Vx(ch:Nat)(p:LB)(N:Nat):Nat->Nat->LU->LU×Nat×Int
 |0,a,out=>(out,a,0)
 |j+1,a,out=>if(It ch p N a out).2.2≠0 then(out,a,(It ch p N a out).2.2)else Vx ch p N j (a+(It ch p N a out).2.1.toNat) (out++[(It ch p N a out).1])
theorem VH{ch:Nat}{p:LB}{N a:Nat}(h:(It ch p N a out).2.2=0):0<(It ch p N a out).2.1/\ (It ch p N a out).2.1<=wF N a:=by
 have:=Aur h;exact⟨this.1,this.2⟩
theorem Q3{ch:Nat}{p:LB}{N a:Nat}(h:(It ch p N a out).2.2=0):((a:Int)+(It ch p N a out).2.1)=((a+(It ch p N a out).2.1.toNat:Nat):Int):=by
 have:=VH h;omega
def sts(ch:Nat)(v:LU):List DuL:=(List.range 6).map λc=>toI (bS ch v c v.length)
theorem X5{ch:Nat}{c:Nat}(h:c<6):Ak (sts ch v) (c:Int)=some (toI (bS ch v c v.length)):=by
 rw[Ci (by simp[sts];exact h)];simp[sts]
theorem Agp{ch:Nat}{c:Nat}(x:UInt32)(h:c<6)(hc:c=v.length %ch):Jb (sts ch v) (c:Int) (toI (nxt (bS ch v c v.length) x))=some (sts ch (v++[x])):=by
 rw[Qr _ (by simp[sts];exact h)];congr 1;apply Awe (by simp[sts]);intro i h1 h2;rw[Bao];simp only[sts,Ay7,Ayu];have e:(v++[x]).getD v.length 0=x:=by simp
 rw[Ab0,Az1,bS,e,Ago ch v [x] i v.length (Aiw _)];by_cases hi:c=i
 ·subst hi;rw[Abe rfl,Abe hc.symm]
 ·rw[Abc hi,Abc F0]
theorem Ar7{ch:Nat}{c:Nat}(hc:c=v.length %ch):bS ch v c v.length=now ch v:=by rw[now,hc]
section
variable {p:LB} {N ch n:Nat}
theorem om(hp:okB p N)(h1:1<=ch)(h6:ch<=6)(hn:n*ch<=4000):∀(j a q:Nat) (out:LU),out.length+j=n*ch->j<q->a<=N->
  Lj (ch:Int) (n:Int) p (N:Int) q (a:Int) (out.length:Int) (sts ch out) out=
   some (if(Vx ch p N j a out).2.2≠0 then([],0,(Vx ch p N j a out).2.2)else((Vx ch p N j a out).1,((Vx ch p N j a out).2.1:Int),0))
 |j,a,q+1,out,hj,hq,ha=>by
  have hN:=hp.1;have hnn:n<=n*ch:=Nat.le_mul_of_pos_right n F0;have em:Bg (n:Int) (ch:Int)=((n*ch:Nat):Int):=by rw[Gp Bby Bby,Ax3]
  rw[Lj,Ra,em];cases j with
  |zero=>
   rw[Abc Ba6];rfl
  |succ j=>
   have hc:out.length %ch<6:=Aj7 (Ax5 _ F0) h6;have ew:Gi (Ae (a:Int) 81) (N:Int)=((a+wF N a:Nat):Int):=by rw[AO,Ag];unfold wF;omega
   have hw:a+wF N a<=N:=by unfold wF;omega
   have hw2:wF N a<=81:=by unfold wF;omega
   have hd:=Aqg (nS p a (wF N a) F0) 0 (eS ch out (out.length %ch) out.length);have Aox:XQ (Ni p a (wF N a)) (wF N a) 0 (bS ch out (out.length %ch) out.length).1 (bS ch out (out.length %ch) out.length).2.1=It ch p N a out:=rfl;rw[Abe Ba6,ew,At6 hp a _ hw F0,Aa];simp only;rw[Abc Ba9,Bf Bbc,Aa,KF,X5 hc,Aa,Aa];refine Axr (congrArg (λo=>Option.bind o _) hd) ?_;rw[Aa,Aox,Vx];by_cases he:(It ch p N a out).2.2≠0
   ·rw[Abe he,Abe he];simp only;rw[Ql,Yl,Abe (by rw[Ah];simpa using he),Abe he]
   ·have he0:(It ch p N a out).2.2=0:=by simpa using he
    have hok:=VH he0;have hset:=Agp (ch:=ch) (v:=out) (It ch p N a out).1 hc rfl;rw[Abc he,Abc he];simp only;rw[Ql,Yl,Abc Ba9,Bf Bbc,Aa,KF,X5 hc,Aa];refine Axr (congrArg (λo=>Option.bind o _) hset) ?_;rw[Aa,NV,QA,Ct Ba5,Aa,Ag,Ag,Q3 he0];have ih:=om hp h1 h6 hn j (a+(It ch p N a out).2.1.toNat) q (out++[(It ch p N a out).1]) Ba5 F0 F0;rw[Ab0,Az1]at ih;exact ih
theorem Ahc{p:LB}(hN:N=8*p.length)(hN2:N<=330000)(h1:1<=ch)(h6:ch<=6)(hn:n*ch<=4000):∀(j a q:Nat) (out:LU),out.length+j=n*ch->j<q->a<=N->
  Ep (ch:Int) (n:Int) p q (a:Int) (out.length:Int) out=
   if(Vx ch p N j a out).2.2≠0 then some ((Vx ch p N j a out).1,(Vx ch p N j a out).2.2)else Ta ((Vx ch p N j a out).2.1:Int) p (Vx ch p N j a out).1
 |j,a,q+1,out,hj,hq,ha=>by
  have hnn:n<=n*ch:=Nat.le_mul_of_pos_right n F0;have em:Bg (n:Int) (ch:Int)=((n*ch:Nat):Int):=by rw[Gp Bby Bby,Ax3]
  have e8:Bg (8:Int) (Ac p)=(N:Int):=by rw[Ac,Gp];omega
  rw[Ep,FB,em];cases j with
  |zero=>
   rw[Abc Ba6];rfl
  |succ j=>
   have ew:Gi (Ae (a:Int) 81) (N:Int)=((a+wF N a:Nat):Int):=by rw[AO,Ag];unfold wF;omega
   have hw:a+wF N a<=N:=by unfold wF;omega
   have hw2:wF N a<=81:=by unfold wF;omega
   have hpre:(Option.bind Ln λ(r_4,r_5,r_6,r_7)=>
     if(Me (out.length:Int) (ch:Int))=true then(
     Option.bind (Nu (ch:Int) out) λ(r_8,r_9,r_10,r_11)=>
     Ih (Ep (ch:Int) (n:Int) p q) (ch:Int) (n:Int) p (a:Int) (out.length:Int) out r_8 r_9 r_10 r_11)
     else Ih (Ep (ch:Int) (n:Int) p q) (ch:Int) (n:Int) p (a:Int) (out.length:Int) out r_4 r_5 r_6 r_7)=
     Ih (Ep (ch:Int) (n:Int) p q) (ch:Int) (n:Int) p (a:Int) (out.length:Int) out ((now ch out).1:Int) ((now ch out).2.1:Int) (now ch out).2.2.1 (now ch out).2.2.2:=by
    rw[Ln,Aa];by_cases hc:ch<=out.length
    ·simp only;rw[Abe Bbf,Ain ch out h1 h6 F0,Aa];rfl
    ·have e:now ch out=ji:=by rw[now,Abo F0,T8 ch out _ _ (Aiw _) F0]
     simp only;rw[Abc Bbf,e];rfl
   have hd:=Anr (nS p a (wF N a) F0) 0 (now ch out).1 (now ch out).2.1 (now ch out).2.2.1 (now ch out).2.2.2 (eS ch out _ _).1 (eS ch out _ _).2.1;have Aox:XQ (Ni p a (wF N a)) (wF N a) 0 (now ch out).1 (now ch out).2.1=It ch p N a out:=rfl;rw[Abe Ba6,hpre,Ih,EW,e8,ew,oz p (N:Int) a _ F0 F0 F0,Aa];simp only;refine Axr (congrArg (λo=>Option.bind o _) hd) ?_;rw[Aa,Aox,Vx];by_cases he:(It ch p N a out).2.2≠0
   ·rw[Abe he,Abe (by rw[Ah];simpa using he),Abe he]
   ·have he0:(It ch p N a out).2.2=0:=by simpa using he
    have hok:=VH he0;have ih:=Ahc hN hN2 h1 h6 hn j (a+(It ch p N a out).2.1.toNat) q (out++[(It ch p N a out).1]) Ba5 F0 F0;have hx:=Q3 he0;rw[Ab0,Az1]at ih;rw[Abc he];generalize It ch p N a out=R at*
    obtain⟨v,nx,e⟩:=R;simp only at*
    rw[Abc (by rw[Ah];simpa using he),Ct Ba5,Aa,Ag,Ag,hx];exact ih
end
theorem vJ{ch:Nat}{p:LB}{N:Nat}:∀(j a:Nat) (out:LU),a<=N-> (Vx ch p N j a out).2.1<=N/\ (Vx ch p N j a out).1.length<=out.length+j/\ ((Vx ch p N j a out).2.2=0-> (Vx ch p N j a out).1.length=out.length+j)
 |0,a,out,h=>⟨h,Aiw _,λ_=>rfl⟩
 |j+1,a,out,h=>by
  rw[Vx];split
  ·rename_i he;exact⟨h,Bba,λe=>absurd e he⟩
  ·rename_i he;have hok:=VH (ch:=ch) (p:=p) (N:=N) (a:=a) (out:=out) (by simpa using he);have hw:a+wF N a<=N:=by unfold wF;omega
   have ih:=vJ (ch:=ch) (p:=p) (N:=N) j (a+(It ch p N a out).2.1.toNat) (out++[(It ch p N a out).1]) F0;rw[Ab0,Az1]at ih;exact⟨ih.1,F0,λe=>by have:=ih.2.2 e;omega⟩
theorem qh(ch n:Int)(b:LB)(N:Int):Yw ch n b N 0 (List.replicate 6 ((0:Int),(0:Int),(0:UInt64),(0:UInt64),()))=NK ch n b N (List.replicate 6 ((10:Int),(10:Int),(16384:UInt64),(16384:UInt64),())):=by
 have e:Aq=(Aq-7)+1+1+1+1+1+1+1:=by have:=Am;omega
 rw[Yw,e];rfl
theorem values_eq{p:LB}{N ch n:Nat}(hp:okB p N)(h1:1<=ch)(h6:ch<=6)(hn:n*ch<=4000):CC (ch:Int) (n:Int) p (N:Int)=
  some (if(Vx ch p N (n*ch) 0 []).2.2≠0 then([],0,(Vx ch p N (n*ch) 0 []).2.2)else((Vx ch p N (n*ch) 0 []).1,((Vx ch p N (n*ch) 0 []).2.1:Int),0)):=by
 have h:=om hp h1 h6 hn (n*ch) 0 Aq [] Bba Ba7 F0;rw[CC,CA,qh];exact h
theorem O6(p:LB)(x:LU)(N:Nat)(hN:N=8*p.length)(hN2:N<=330000):∀(j a q:Nat),a+j=N->j<q->Ij p x q (a:Int)=some (x,if Bc p a j=0 then 0 else 12)
 |0,a,q+1,ha,_=>by
  have e8:Bg (8:Int) (Ac p)=(N:Int):=by rw[Ac,Gp];omega
  rw[Ij,Sd,e8,Abc Ba6,Bc,Abe rfl];rfl
 |j+1,a,q+1,ha,hq=>by
  have e8:Bg (8:Int) (Ac p)=(N:Int):=by rw[Ac,Gp];omega
  have hb:=Nc p a;rw[Ij,Sd,e8,Abe Ba6,rB p _ a F0 F0,Aa,Bc];by_cases h:Ed p a=0
  ·rw[Abc (by rw[Ah];simp[h]),Ag,h];have ih:=O6 p x N hN hN2 j (a+1) q F0 F0;rw[show((a:Int)+1)=((a+1:Nat):Int) by omega,ih];congr 2;by_cases hv:Bc p (a+1) j=0
   ·rw[Abe hv,Abe F0]
   ·rw[Abc hv,Abc F0]
  ·rw[Abe Bbc,Abc F0]
theorem Afr{p:LB}{N ch n:Nat}(hN:N=8*p.length)(hN2:N<=330000)(h1:1<=ch)(h6:ch<=6)(hn:n*ch<=4000):AR (ch:Int) (n:Int) p=
  some (if(Vx ch p N (n*ch) 0 []).2.2≠0 then((Vx ch p N (n*ch) 0 []).1,(Vx ch p N (n*ch) 0 []).2.2)else
   ((Vx ch p N (n*ch) 0 []).1,if 7<N-(Vx ch p N (n*ch) 0 []).2.1\/Bc p (Vx ch p N (n*ch) 0 []).2.1 (N-(Vx ch p N (n*ch) 0 []).2.1)≠0 then 12 else 0)):=by
 have h:=Ahc hN hN2 h1 h6 hn (n*ch) 0 Aq [] Bba Ba7 F0;have hat:=(vJ (ch:=ch) (p:=p) (N:=N) (n*ch) 0 [] F0).1;have e8:Bg (8:Int) (Ac p)=(N:Int):=by rw[Ac,Gp];omega
 rw[AR,JH];refine Axr h ?_;generalize Vx ch p N (n*ch) 0 []=V at*
 obtain⟨v,a,e⟩:=V;simp only at*
 by_cases he:e≠0
 ·rw[Abe he,Abe he]
 ·rw[Abc he,Abc he,Ta,EF,e8,Bi];by_cases h7:7<N-a
  ·rw[Abe Bbb,Abe (.inl h7)]
  ·rw[Abc Bbb,EL,O6 p v N hN hN2 (N-a) a Aq F0 Ba7];by_cases hv:Bc p a (N-a)=0
   ·rw[Abe hv,Abc F0]
   ·rw[Abc hv,Abe (.inr hv)]
theorem kr(n:Int):(GI.ofZ n:Int32)=Int32.ofInt n:=rfl
theorem SE(a:Int32):GI.toZ a=a.toInt:=rfl
theorem UP(a b:Int32):Ae a b=a+b:=by
 rw[Ae,SE,SE,kr,Int32.ofInt_add,Awc,Awc]
theorem OW(a b:Int32):Aj a b=a-b:=by
 rw[Aj,SE,SE,kr,Int32.ofInt_sub,Awc,Awc]
theorem Afb(a b:Int32):geq a b=(a==b):=by
 rw[geq,SE,SE,Aoi];simp[Int32.toInt_inj]
def XZ(p:Nat->Bool)(a b:LX):LX:=(List.range a.length).map λk=>if p k=true then a.getD k 0 else b.getD k 0
section
variable {p q:Nat->Bool} {a b:LX}
theorem HC:(XZ p a b).length=a.length:=by simp[XZ]
theorem Jf{k:Nat}(h:k<a.length):a.getD k 0=a[k]:=by simp[List.getD_eq_getElem?_getD,h]
theorem Pw{k:Nat}(h:k<(XZ p a b).length):(XZ p a b)[k]=if p k=true then a.getD k 0 else b.getD k 0:=by simp[XZ]
theorem Yb{k:Nat}(h:k<a.length):Ak (XZ p a b) (k:Int)=some (if p k=true then a.getD k 0 else b.getD k 0):=by
 rw[Ci (by rw[HC];exact h),Pw]
theorem Rn(h:∀k,k<a.length->p k=q k):XZ p a b=XZ q a b:=by
 apply Az9;intro k hk;rw[h k (List.mem_range.1 hk)]
theorem ZH{k:Nat}(h:k<a.length):Jb (XZ p a b) (k:Int) (a.getD k 0)=some (XZ (λj=>p j||decide (j=k)) a b):=by
 rw[Qr _ (by rw[HC];exact h)];congr 1;apply Awe (by simp[HC]);intro i h1 h2;rw[Bao,Pw,Pw];by_cases hi:k=i
 ·subst hi;simp
 ·have:¬i=k:=λe=>hi e.symm;simp[hi,this]
theorem iW(h:∀k,k<a.length->p k=true):XZ p a b=a:=by
 apply Awe (by simp[HC]);intro i h1 h2;rw[Pw,Abe (h i h2),Jf h2]
theorem cS(hl:b.length=a.length)(h:∀k,k<a.length->p k=false):XZ p a b=b:=by
 apply Awe (by simp[HC,hl]);intro i h1 h2;rw[Pw,h i F0];simp[List.getD_eq_getElem?_getD,h2]
end
theorem Bbu{p:Prop}(h:p:=by rw[Bb];decide):p:=h
end Go.Pl
namespace Go.Pl
open Go Go.Lv
variable{s bits:Int}{x w:Int32}{t p a b:LX}{i:Nat}
theorem wJ(a b:Int32):Bg a b=a*b:=by
 rw[Bg,SE,SE,kr,Int32.ofInt_mul,Awc,Awc]
theorem Wy(a:Int32): -2147483648<=a.toInt/\a.toInt<2147483648:=⟨a.le_toInt,a.toInt_lt⟩
theorem Ej(a:Int32):(Ad a:Int)=a.toInt:=by
 have:=Wy a
 show wrap64 a.toInt=_;rw[Bs]<;>omega
theorem NF(n:Int):(Ad n:Int32)=Int32.ofInt n:=rfl
theorem Ai6(x:Int):Int32.ofInt (x %4294967296)=Int32.ofInt x:=by
 apply Int32.toInt_inj.1;rw[Ayr,Ayr];exact Int.emod_bmod x 4294967296
theorem vQ(x:Int):Ck x=some (Int32.ofInt x):=by
 have e1:(Ad x:UInt64).toNat=(x %18446744073709551616).toNat:=by
  rw[zh,Aig,Abo F0]
 have e2:(Ad (Ad x:UInt64):UInt32).toNat=(x %4294967296).toNat:=by
  have e:(Ad (Ad x:UInt64):UInt32)=UInt32.ofNat (Ad x:UInt64).toNat:=by simp only[Ad,Ib,Ek]
  rw[e,Aj6,e1];show(x %18446744073709551616).toNat %4294967296=_;omega
 have e3:(Ad (Ad (Ad x:UInt64):UInt32):Int32)=Int32.ofInt ((Ad (Ad x:UInt64):UInt32).toNat:Int):=rfl;rw[Ck,e3,e2,<-Ai6 x];congr 2;omega
theorem nR(a b:Int32):Ck (Ae (Ad a:Int) (Ad b:Int))=some (a+b):=by
 have:=Wy a;have:=Wy b;rw[Ej,Ej,Ag,vQ,Int32.ofInt_add,Awc,Awc]
theorem Am8(a b:Int32):Ck (Bg (Ad a:Int) (Ad b:Int))=some (a*b):=by
 have ha:=Wy a;have hb:=Wy b;have h1: -9223372036854775808<=a.toInt*b.toInt/\a.toInt*b.toInt<=9223372036854775807:=by
  have h2:(a.toInt*b.toInt).natAbs<=2147483648*2147483648:=by
   rw[Int.natAbs_mul];exact Az6 F0 F0
  omega
 rw[Ej,Ej,Gp h1.1 h1.2,vQ,Int32.ofInt_mul,Awc,Awc]
def OkF(s:Int)(t p:LX):Prop:=(s=9\/s=10)/\t.length=16/\p.length=16
theorem rN(h:OkF s t p):GF s t p=some 0:=by
 obtain⟨rfl|rfl,_,_⟩:=h<;>rfl
theorem g32{l:LX}{k:Nat}(h:k<l.length):Ak l (k:Int)=some (l.getD k 0):=by
 rw[Ci h];simp[List.getD_eq_getElem?_getD,h]
def fI(t p:LX):Nat->Int32
 |0=>0
 |i+1=>fI t p i+t.getD i 0*p.getD i 0
def half(s:Int):Int32:=if s=9 then 256 else 512
def gF(s:Int)(t p:LX):Int32:=Int32.ofInt ((half s+fI t p 16).toInt.fdiv (if s=9 then 512 else 1024))
theorem N6{s:Int}{t p:LX}(h:OkF s t p):∀(j i q:Nat),i+j=16->j<q->Rt t s p q (half s+fI t p i) (i:Int)=some (gF s t p,0)
 |0,i,q+1,hi,_=>by
  obtain rfl:i=16:=F0
  have hs:=h.1;rw[Rt,GW,Abc Bbi,TJ,kX,Bf Bbf,Aa];obtain rfl|rfl:=hs<;>rfl
 |j+1,i,q+1,hi,hq=>by
  obtain⟨hs,ht,hp⟩:=h;rw[Rt,GW,Abe Ba6,g32 F0,Aa,g32 F0,Aa,Aa,Ag (b:=1) F0 F0,UP,wJ,Int32.add_assoc];exact N6 ⟨hs,ht,hp⟩ j (i+1) q F0 F0
theorem zy(h:OkF s t p):PL s t p=some (gF s t p,0):=by
 have hs:=h.1;have h1:=N6 h 16 0 Aq F0 Ba7;have e:Cy (1:Int32) (GI.toZ (Aj s (1:Int))).toNat=half s+fI t p 0:=by
  obtain rfl|rfl:=hs<;>rfl
 rw[PL,TE,rN h,Aa,Abc Ba9,Bf (by rw[Dl,Bi];simp;omega),Aa,kJ,e];exact h1
theorem E6{s:Int}{t p:LX}(ht:t.length=16)(hp:p.length=16){g:Int32}(hg:fI t p 16=g):∀(j i q:Nat),i+j=16->j<q->Kq s t p q (fI t p i).toInt (i:Int)=some g
 |0,i,q+1,hi,_=>by
  obtain rfl:i=16:=F0
  rw[Kq,Wg,Abc Bbi,LK,MG,NF,Awc,hg]
 |j+1,i,q+1,hi,hq=>by
  have ih:=E6 (s:=s) ht hp hg j (i+1) q F0 F0;rw[fI]at ih;rw[Kq,Wg,Abe Ba6,g32 F0,g32 F0,Aa,Aa,Aa,Aa,Am8,Aa,<-Ej (fI t p i),nR,Aa,Ej,Ag];exact ih
theorem Alz(h:OkF s t p):UL s t p=some (fI t p 16):=
 E6 h.2.1 h.2.2 rfl 16 0 Aq F0 Ba7
theorem Ajm(x n:Int)(hn:n=512\/n=1024\/n=16\/n=32):(if x.tmod n<0 then x.tdiv n-1 else x.tdiv n)=x.fdiv n:=by
 have hs:n.sign=1:=by obtain rfl|rfl|rfl|rfl:=hn<;>rfl
 rw[Int.tdiv_eq_ediv,Int.tmod_eq_emod,hs,Ate _ F0];by_cases h:0<=x\/n∣x
 ·rw[Abe h,Abe h];obtain rfl|rfl|rfl|rfl:=hn<;>(rw[Abc F0];omega)
 ·rw[Abc h,Abc h];obtain rfl|rfl|rfl|rfl:=hn<;>(rw[Abe F0];omega)
theorem G6(x n:Int)(hn:n=512\/n=1024\/n=16\/n=32)(h: -1000000000000<=x)(h':x<=1000000000000): -1000000000000<=x.tdiv n/\x.tdiv n<=1000000000000:=by
 have hs:n.sign=1:=by obtain rfl|rfl|rfl|rfl:=hn<;>rfl
 rw[Int.tdiv_eq_ediv,hs];by_cases h:0<=x\/n∣x
 ·rw[Abe h];obtain rfl|rfl|rfl|rfl:=hn<;>omega
 ·rw[Abc h];obtain rfl|rfl|rfl|rfl:=hn<;>omega
theorem Awq(x n:Int)(hn:n=512\/n=1024\/n=16\/n=32)(h: -1000000000000<=x)(h':x<=1000000000000):Ca x n=x.tdiv n:=by
 have:=G6 x n hn h h';rw[KI,Bs F0 F0]
theorem Aaf(x n:Int)(hn:n=512\/n=1024\/n=16\/n=32)(h: -1000000000000<=x)(h':x<=1000000000000):
  (if(Cg (Ge x n) (0:Int))=true then some (Ad (Aj (Ca x n) (1:Int)):Int32)else some (Ad (Ca x n):Int32))=some (Int32.ofInt (x.fdiv n)):=by
 have hb:=G6 x n hn h h';rw[Af,Ge,Awq x n hn h h',Bi,NF,NF,<-Ajm x n hn];by_cases hx:x.tmod n<0
 ·rw[Abe (by simpa using hx),Abe hx]
 ·rw[Abc (by simpa using hx),Abc hx]
theorem Apr(h:OkF s t p):BT s t p=some (gF s t p):=by
 obtain⟨hs,ht,hp⟩:=h;have h:OkF s t p:=⟨hs,ht,hp⟩;have hx:=Wy (fI t p 16+half s);have key:∀n:Int,(n=512\/n=1024)-> (half s).toInt=n/2->gF s t p=Int32.ofInt ((half s+fI t p 16).toInt.fdiv n)->Uz s t p n=some (gF s t p):=by
  intro n hn hh hg;have e2:Ca n (2:Int)=(half s).toInt:=by rw[hh];obtain rfl|rfl:=hn<;>rfl
  rw[Uz,HO,Alz h,Aa,e2,<-Ej (half s),nR,Aa,Bf Bbc,Aa,Aa,Ej,Aaf _ n F0 F0 F0,hg,Int32.add_comm]
 rw[BT,HV];obtain rfl|rfl:=hs
 ·rw[Abe Bbo];exact key 512 (.inl rfl) rfl rfl
 ·rw[Abc Bbu];exact key 1024 (.inr rfl) rfl rfl
def nk(i:Nat):Int32:=if i=0 then 4 else if i<4 then 2 else 1
def sg(x:Int32):Int32:=if x.toInt<0 then -1 else if 0<x.toInt then 1 else 0
def wK(t p:LX)(w:Int32):LX:=(List.range 16).map λi=>t.getD i 0+nk i*sg (p.getD i 0)*sg w
theorem DD(t p:LX)(w:Int32):(wK t p w).length=16:=by simp[wK]
theorem Y1(t p:LX)(w:Int32)(h:i<16):(wK t p w).getD i 0=t.getD i 0+nk i*sg (p.getD i 0)*sg w:=by
 rw[Jf (by rw[DD];exact h)];simp[wK]
theorem step_eq(i:Nat):UW (i:Int)=some (nk i):=by
 rw[UW,nk];by_cases h:i=0
 ·rw[Abe (by rw[Bb];simp[h]),Abe h]
 ·rw[Abc Bbd,Abc h];by_cases h2:i<4
  ·rw[Abe Ba6,Abe h2]
  ·rw[Abc Ba6,Abc h2]
theorem Aij(i:Nat):DL (i:Int)=some (nk i):=by
 rw[DL,nk];by_cases h:i=0
 ·rw[Abe (by rw[Bb];simp[h]),Abe h]
 ·rw[Abc Bbd,Abc h];by_cases h2:i<4
  ·rw[Abe (by rw[O9];simp;omega),Abe h2]
  ·rw[Abc (by rw[O9];simp;omega),Abc h2]
theorem Y3(a b:Int32):Cg a b=decide (a.toInt<b.toInt):=rfl
theorem Acx(a b:Int32):Eu a b=decide (b.toInt<a.toInt):=rfl
theorem sign_eq(x:Int32):Td x=some (sg x):=by
 rw[Td,sg,Y3,Acx,show(0:Int32).toInt=0 from rfl];by_cases h:x.toInt<0
 ·rw[Abe (by simpa using h),Abe h]
 ·rw[Abc (by simpa using h),Abc h];by_cases h2:0<x.toInt
  ·rw[Abe (by simpa using h2),Abe h2]
  ·rw[Abc (by simpa using h2),Abc h2]
theorem Afv:sg 0=0:=rfl
theorem toInt_ne(h:x≠0):x.toInt≠0:=λe=>h (Int32.toInt_inj.1 (by rw[e];rfl))
theorem T2(h:x.toInt<0):sg x= -1:=by rw[sg,Abe h]
theorem T3(h:x≠0)(h2:¬x.toInt<0):sg x=1:=by
 have:=toInt_ne h;rw[sg,Abc h2,Abe F0]
theorem iT(i:Nat):nk i=4\/nk i=2\/nk i=1:=by
 unfold nk;by_cases h:i=0
 ·rw[Abe h];exact .inl rfl
 ·rw[Abc h];split;exact .inr (.inl rfl);exact .inr (.inr rfl)
theorem Ait(hx:x≠0)(hw:w≠0)(h:(x.toInt<0)=(w.toInt<0))(i:Nat):nk i*sg x*sg w=nk i:=by
 by_cases h1:x.toInt<0
 ·rw[T2 h1,T2 (by rw[<-h];exact h1)];obtain e|e|e:=iT i<;>rw[e]<;>decide
 ·rw[T3 hx h1,T3 hw (by rw[<-h];exact h1)];obtain e|e|e:=iT i<;>rw[e]<;>decide
theorem Ach(hx:x≠0)(hw:w≠0)(h:¬(x.toInt<0)=(w.toInt<0))(i:Nat)(a:Int32):a+nk i*sg x*sg w=a-nk i:=by
 have key:nk i*sg x*sg w=-nk i:=by
  by_cases h1:x.toInt<0
  ·have h2:¬w.toInt<0:=λh2=>h (propext ⟨λ_=>h2,λ_=>h1⟩);rw[T2 h1,T3 hw h2];obtain e|e|e:=iT i<;>rw[e]<;>decide
  ·have h2:w.toInt<0:=Decidable.by_contra λh2=>h (propext ⟨λh3=>absurd h3 h1,λh3=>absurd h3 h2⟩);rw[T3 hx h1,T2 h2];obtain e|e|e:=iT i<;>rw[e]<;>decide
 rw[key,Int32.sub_eq_add_neg]
def pN(i:Nat):Nat->Bool:=λj=>decide (j<i)
theorem H0(h:i<a.length):Jb (XZ (pN i) a b) (i:Int) (a.getD i 0)=some (XZ (pN (i+1)) a b):=by
 rw[ZH h];congr 1;apply Rn;intro k _;rw[Aoi];simp only[pN,Ax8,Ab6];omega
theorem Ajd(e:a.getD i 0=b.getD i 0):XZ (pN i) a b=XZ (pN (i+1)) a b:=by
 apply Az9;intro k _;simp only[pN,Ab6];by_cases h1:k<i
 ·rw[Abe h1,Abe F0]
 ·by_cases h2:k=i
  ·subst h2;rw[Abc h1,Abe F0,e]
  ·rw[Abc h1,Abc F0]
theorem Aa3(h:i<a.length):Ak (XZ (pN i) a b) (i:Int)=some (b.getD i 0):=by
 rw[Yb h,Abc (by simp[pN])]
theorem R5{s:Int}{t p:LX}{w:Int32}(hw:w≠0)(ht:t.length=16)(hp:p.length=16):∀(j i q:Nat),i+j=16->j<q->Rm w p s q (i:Int) (XZ (pN i) (wK t p w) t)=some (s,wK t p w,p,0)
 |0,i,q+1,hi,_=>by
  obtain rfl:i=16:=F0
  rw[Rm,GX,Abc Bbi,iW (λk hk=>by rw[DD]at hk;simpa [pN]using hk)];rfl
 |j+1,i,q+1,hi,hq=>by
  have hl:=DD t p w;have hg:=Y1 t p w (i:=i) F0;rw[Rm,GX,Abe Ba6,g32 F0,Aa,Ag (b:=1) F0 F0,Aa3 F0,step_eq];simp only[Aa];rw[UP,OW,Afb,Y3,Y3,show(0:Int32).toInt=0 from rfl];have ih:=R5 (s:=s) hw ht hp j (i+1) q F0 F0;by_cases hx:p.getD i 0=0
  ·rw[Abe (by rw[hx];rfl),Ajd (by rw[hg,hx,Afv,Int32.mul_zero,Int32.zero_mul,Int32.add_zero])];exact ih
  ·rw[Abc (by simpa using hx)];by_cases hs:((p.getD i 0).toInt<0)=(w.toInt<0)
   ·rw[Abe (by rw[Aye];simp only[hs]),show t.getD i 0+nk i=(wK t p w).getD i 0 by rw[hg,Ait hx hw hs],H0 F0,Aa];exact ih
   ·rw[Abc (by rw[Aye,decide_eq_decide];exact λh=>hs (propext h)),show t.getD i 0-nk i=(wK t p w).getD i 0 by rw[hg,Ach hx hw hs],H0 F0,Aa];exact ih
theorem Akg(p:LX)(ht:t.length=16):wK t p 0=t:=by
 apply Awe (by rw[DD,ht]);intro i h1 h2;have:=Y1 t p 0 (i:=i) F0;rw[Jf h1,Jf h2]at this;rw[this,Afv,Int32.mul_zero,Int32.add_zero]
theorem zf(h:OkF s t p)(w:Int32):ZZ s t p w=some (s,wK t p w,p,0):=by
 rw[ZZ,TR,rN h,Aa,Abc Ba9,Afb];by_cases hw:w=0
 ·rw[Abe (by simpa using hw),hw,Akg p h.2.1]
 ·have h1:=R5 (s:=s) hw h.2.1 h.2.2 16 0 Aq F0 Ba7;rw[cS (by rw[DD,h.2.1]) (λk _=>by simp[pN])]at h1;rw[Abc (by simpa using hw)];exact h1
theorem oP{s:Int}{t p:LX}{w:Int32}(ht:t.length=16)(hp:p.length=16):∀(j i q:Nat),i+j=16->j<q->Gy w s p q (i:Int) (XZ (pN i) (wK t p w) t)=some (s,wK t p w,p)
 |0,i,q+1,hi,_=>by
  obtain rfl:i=16:=F0
  rw[Gy,Om,Abc Bbi,iW (λk hk=>by rw[DD]at hk;simpa [pN]using hk)];rfl
 |j+1,i,q+1,hi,hq=>by
  have hl:=DD t p w;have hg:=Y1 t p w (i:=i) F0;rw[Gy,Om,Abe Ba6,g32 (l:=p) F0,Ag (b:=1) F0 F0,Aa3 F0,Aij,sign_eq w,Aa,Aa,Aa,Aa,Aa,sign_eq,Aa,Aa,Aa,UP,wJ,wJ,<-hg,H0 F0,Aa];exact oP ht hp j (i+1) q F0 F0
theorem Ad1(h:OkF s t p)(w:Int32):HN s t p w=some (s,wK t p w,p):=by
 have h1:=oP (s:=s) (w:=w) h.2.1 h.2.2 16 0 Aq F0 Ba7;rw[cS (by rw[DD,h.2.1]) (λk _=>by simp[pN])]at h1;exact h1
theorem Ap2(h:p.length=16):∃a0 a1 a2 a3 a4 a5 a6 a7 a8 a9 b0 b1 b2 b3 b4 b5,p=[a0,a1,a2,a3,a4,a5,a6,a7,a8,a9,b0,b1,b2,b3,b4,b5]:=by
 match p,h with
 |[a0,a1,a2,a3,a4,a5,a6,a7,a8,a9,b0,b1,b2,b3,b4,b5],_=>exact⟨a0,a1,a2,a3,a4,a5,a6,a7,a8,a9,b0,b1,b2,b3,b4,b5,rfl⟩
theorem Aen(h:OkF s t p)(x:Int32):jC s t p x=some (s,t,x::p.take 15,0):=by
 obtain⟨hs,ht,hp⟩:=h;rw[jC,MU,rN ⟨hs,ht,hp⟩,Aa,Abc Ba9,show aP (16:Int) 1 16=some ()from rfl,Aa,show aP (16:Int) 0 16=some ()from rfl,Aa,YT,nO];obtain⟨a0,a1,a2,a3,a4,a5,a6,a7,a8,a9,b0,b1,b2,b3,b4,b5,rfl⟩:=Ap2 hp;rfl
def V9(p:LX)(i:Nat):LX:=(List.range 16).map λk=>if k<=i then p.getD k 0 else p.getD (k-1) 0
theorem Yf(p:LX)(i:Nat):(V9 p i).length=16:=by simp[V9]
theorem Aqs(p:LX)(i k:Nat)(h:k<16):(V9 p i).getD k 0=if k<=i then p.getD k 0 else p.getD (k-1) 0:=by
 rw[Jf (by rw[Yf];exact h)];simp[V9]
theorem Aq2(p:LX)(i:Nat)(h:i+1<16):Jb (V9 p (i+1)) ((i+1:Nat):Int) (p.getD i 0)=some (V9 p i):=by
 rw[Qr _ (by rw[Yf];exact h)];congr 1;apply Awe (by simp[Yf]);intro k h1 h2;rw[Yf]at h2;rw[Bao];simp only[V9,Ay7,Ayu];by_cases hk:i+1=k
 ·subst hk;rw[Abe rfl,Abc F0];rfl
 ·rw[Abc hk];by_cases h3:k<=i
  ·rw[Abe F0,Abe h3]
  ·rw[Abc F0,Abc h3]
theorem uN(s:Int)(t p:LX)(x:Int32)(hp:p.length=16):∀(i q:Nat),i<16->i<q->Hr x s t q (i:Int) (V9 p i)=some (s,t,x::p.take 15)
 |0,q+1,_,_=>by
  have hg:Ak (V9 p 0) (0:Int)=some ((V9 p 0).getD 0 0):=g32 (l:=V9 p 0) (k:=0) (by rw[Yf];omega);have hset:Jb (V9 p 0) (0:Int) x=some ((V9 p 0).set 0 x):=Qr (l:=V9 p 0) (n:=0) x (by rw[Yf];omega);rw[Hr,Qy,Abc Bbk,AL,BN,hg,Aa,hset,Aa];congr 3;apply Awe (by simp[Yf,hp]);intro k h1 h2;rw[Ax9,Yf]at h1;rw[Bao];cases k with
  |zero=>rw[Abe rfl];rfl
  |succ k=>
   rw[Abc F0];simp only[V9,Ay7,Ayu,List.getElem_cons_succ,List.getElem_take];rw[Abc F0,Nat.add_sub_cancel,Jf F0]
 |i+1,q+1,hi,hq=>by
  have hg:=g32 (l:=V9 p (i+1)) (k:=i) (by rw[Yf];omega);rw[Aqs p (i+1) i F0,Abe F0]at hg;have e1:Aj ((i+1:Nat):Int) (1:Int)=(i:Int):=by rw[Bi];omega
  have hg2:=g32 (l:=V9 p (i+1)) (k:=i+1) (by rw[Yf];omega);rw[Hr,Qy,Abe Bbk,e1,hg,Aa,Aa,hg2,Aa,Aq2 p i hi,Aa];exact uN s t p x hp i q F0 F0
theorem Ai7(hp:p.length=16)(x:Int32):LD s t p x=some (s,t,x::p.take 15):=by
 have h:=uN s t p x hp 15 Aq F0 Ba7;have e:V9 p 15=p:=by
  apply Awe (by rw[Yf,hp]);intro k h1 h2;rw[Yf]at h1;simp only[V9,Ay7,Ayu];rw[Abe F0,Jf h2]
 rw[e]at h;exact h
theorem Ak3(h:OkF s t p)(w x:Int32):OkF s (wK t p w) (x::p.take 15):=⟨h.1,DD _ _ _,by simp[h.2.2]⟩
theorem Arb(h:OkF s t p)(y:Int32):gQ s t p y=some (y+gF s t p,s,wK t p y,(y+gF s t p)::p.take 15,0):=by
 rw[gQ,zy h,Aa];simp only;rw[Abc Ba9,UP,NU,zf h,Aa];simp only;rw[Aen (s:=s) (t:=wK t p y) (p:=p) ⟨h.1,DD _ _ _,h.2.2⟩,Aa];rfl
theorem Ahh(h:OkF s t p)(y:Int32):Uc s t p y=some (y+gF s t p,s,wK t p y,(y+gF s t p)::p.take 15):=by
 rw[Uc,Apr h,Aa,nR,Aa,Ad1 h,Aa];simp only;rw[Ai7 h.2.2,Aa]
def sB(bits:Int):Int:=if bits=16 then 9 else 10
def shB(bits:Int):Int:=if bits=8 then 4 else 5
def Ch(bits:Int):Prop:=bits=8\/bits=16\/bits=24
def gs(sh:Int)(last:Int32):Int32:=Ad (Z4 (Aj (Cy (Ad last:Int) sh.toNat) (Ad last)) sh.toNat)
theorem Awv(bits:Int):sB bits=9\/sB bits=10:=by unfold sB;split<;>simp
theorem Aq4(bits:Int):0<=shB bits:=by unfold shB;split<;>omega
theorem Ays(h:Ch bits)(t:LX):pF bits t=some (sB bits,t,List.replicate 16 0,0):=by
 obtain rfl|rfl|rfl:=h<;>rfl
theorem Avg(h:Ch bits):eK bits=some (shB bits,0):=by
 obtain rfl|rfl|rfl:=h<;>rfl
theorem At5{sh:Int}(h:0<=sh)(last:Int32):RK sh last=some (gs sh last):=by
 rw[RK,Bf (by rw[Dl];simpa using h),Aa,Aa];rfl
theorem Al9(h:Ch bits)(last:Int32):Uj bits last=some (gs (shB bits) last,0):=by
 rw[Uj,Avg h,Aa];simp only;rw[Abc Ba9,At5 (Aq4 bits),Aa]
theorem E9(h:Ch bits)(last:Int32)(t p:LX):Uh bits last (sB bits) t p=some 0:=by
 rw[Uh,Ays h,Aa];simp only;rw[Abc (by rw[Ah,Ah];simp)]
theorem Ah5(h:Ch bits)(hF:OkF (sB bits) t p)(last y:Int32):
  Kj bits last (sB bits) t p y=some (y+gF (sB bits) t p+gs (shB bits) last,bits,y+gF (sB bits) t p+gs (shB bits) last,sB bits,wK t p y,(y+gF (sB bits) t p)::p.take 15,0):=by
 rw[Kj,E9 h,Aa,Abc Ba9,Al9 h,Aa];simp only;rw[Arb hF,Aa];simp only;rw[UP]
theorem sN(sh:Int)(hs:sh=4\/sh=5)(last:Int32):Nx sh last=some (gs sh last):=by
 have hl:=Wy last;have key:∀n:Int,n=16\/n=32->gs sh last=Int32.ofInt (((n-1)*last.toInt).fdiv n)->Qs last n=some (gs sh last):=by
  intro n hn hg;have e:Bg (Aj n (1:Int)) (Ad last:Int)=(n-1)*last.toInt:=by
   obtain rfl|rfl:=hn<;>(rw[Ej,Bi,Gp])
  rw[Qs,AQ,Bf Bbc,Aa,Aa,e,Aaf _ n F0 (by obtain rfl|rfl:=hn<;>omega) (by obtain rfl|rfl:=hn<;>omega),hg]
 rw[Nx,DB];obtain rfl|rfl:=hs
 ·rw[Abc Bbu];refine key 16 (.inl rfl) ?_;have e:Cy (Ad last:Int) (4:Int).toNat=last.toInt*16:=by
   rw[Ej];show wrap64 (last.toInt*2^4)=_;rw[Bs]<;>omega
  rw[gs,e,Ej,Bi,NF]
  show Int32.ofInt ((last.toInt*16-last.toInt).fdiv 16)=_;congr 2;omega
 ·rw[Abe Bbo];refine key 32 (.inr rfl) ?_;have e:Cy (Ad last:Int) (5:Int).toNat=last.toInt*32:=by
   rw[Ej];show wrap64 (last.toInt*2^5)=_;rw[Bs]<;>omega
  rw[gs,e,Ej,Bi,NF]
  show Int32.ofInt ((last.toInt*32-last.toInt).fdiv 32)=_;congr 2;omega
theorem Ajv(h:Ch bits)(hF:OkF (sB bits) t p)(last y:Int32):
  Ty bits last (sB bits) t p y=some (y+gF (sB bits) t p+gs (shB bits) last,bits,y+gF (sB bits) t p+gs (shB bits) last,sB bits,wK t p y,(y+gF (sB bits) t p)::p.take 15):=by
 have hb:Wu bits last (sB bits) t p=some (Ad (gs (shB bits) last):Int):=by
  rw[Wu];obtain rfl|rfl|rfl:=h
  ·rw[Abe Bbo,sN 4 (.inl rfl),Aa];rfl
  ·rw[Abc Bbu,sN 5 (.inr rfl),Aa];rfl
  ·rw[Abc Bbu,sN 5 (.inr rfl),Aa];rfl
 rw[Ty,Ahh hF,Aa];simp only;rw[hb,Aa,nR,Aa]
theorem Axe(h:Ch bits)(t:LX):UG bits t=some (bits,0,sB bits,t,List.replicate 16 0,0):=by
 obtain rfl|rfl|rfl:=h<;>rfl
def HL(n:UInt32):Int32:=if n.toNat %2=0 then Int32.ofInt ((n.toNat/2:Nat):Int)else Int32.ofInt (-((n.toNat/2:Nat):Int)-1)
theorem Aaq(a b:Int32):(Qv a b).toBitVec=a.toBitVec^^^b.toBitVec:=by
 show(Int32.ofInt ((BitVec.ofInt 32 a.toBitVec.toInt^^^BitVec.ofInt 32 b.toBitVec.toInt).toNat:Int)).toBitVec=_;rw[BitVec.ofInt_toInt,BitVec.ofInt_toInt,Int32.toBitVec_ofInt,BitVec.ofInt_natCast,BitVec.ofNat_toNat,BitVec.setWidth_eq]
theorem Axd(m:Nat)(h:m<2147483648):Qv (Int32.ofInt (m:Int)) (Int32.ofInt (-1))=Int32.ofInt (-(m:Int)-1):=by
 apply Int32.toBitVec_inj.1;have e1:(Int32.ofInt (-1)).toBitVec=BitVec.allOnes 32:=F6
 rw[Aaq,e1,BitVec.xor_allOnes,Int32.toBitVec_ofInt,Int32.toBitVec_ofInt];apply Ayt;rw[BitVec.toNat_not,Axo,Axo];omega
theorem Amk(n:UInt32):Vu n=some (HL n):=by
 have hn:=n.toNat_lt;have e1:(Ad (Bv n (GI.toZ (1:UInt64)).toNat):Int32)=Int32.ofInt ((n.toNat/2:Nat):Int):=by
  show Int32.ofInt ((Bv n 1).toNat:Int)=_;rw[HP]
 have e2:(Ad (Dr n (1:UInt32)):Int32)=Int32.ofInt ((n.toNat %2:Nat):Int):=by
  show Int32.ofInt ((Dr n (1:UInt32)).toNat:Int)=_;rw[yN,UInt32.toNat_and]
  show Int32.ofInt ((n.toNat&&&1:Nat):Int)=_;rw[Nat.and_one_is_mod]
 rw[Vu,e1,e2,HL];congr 1;by_cases h:n.toNat %2=0
 ·have e3:nP (Int32.ofInt ((n.toNat %2:Nat):Int))=Int32.ofInt 0:=by rw[h];decide
  rw[Abe h,e3];apply Int32.toBitVec_inj.1;rw[Aaq,show(Int32.ofInt 0).toBitVec=0#32 from rfl,BitVec.xor_zero]
 ·have e3:nP (Int32.ofInt ((n.toNat %2:Nat):Int))=Int32.ofInt (-1):=by rw[show n.toNat %2=1 by omega];decide
  rw[Abc h,e3,Axd _ F0]
theorem Ap0(n:UInt32):BK n=some (HL n):=by
 have hn:=n.toNat_lt;have e1:geq (AG n (2:UInt32)) (0:UInt32)=decide (n.toNat %2=0):=by
  rw[U2,qj,Aoi];simp only[Aye,<-UInt32.toNat_inj,UInt32.toNat_mod,Ab6];rfl
 rw[BK,e1,HL];by_cases h:n.toNat %2=0
 ·rw[Abe (by simpa using h),Abe h,su];rfl
 ·have e2:(Ad n:Int)=(n.toNat:Int):=wC n;rw[Abc (by simpa using h),Abc h,e2,Ag,U5,Bs F0 F0,KI,Int.tdiv_eq_ediv,NF];congr 2;rw[Abe (.inr F0),Bs F0 F0];omega
theorem Ba8{p:Prop}(h:p:=by rw[Al,Ac];simp;omega):p:=h
end Go.Pl
namespace Go.Pl
open Go Go.Lv
theorem kB{c:Prop} [Decidable c](h:c):Hz (decide c)=some ():=by rw[decide_eq_true h];rfl
def Q7(f:Nat->Int32)(ch:Nat):Nat->Int32
 |0=>if 1<ch then f (ch-1)+Ca (f (ch-2)) (2:Int32)else f (ch-1)
 |j+1=>Q7 f ch j-f (ch-2-j)
def qN(ch:Nat)(m:LX):LX:=(List.range m.length).map λk=>Q7 (λi=>m.getD (k-k %ch+i) 0) ch (ch-1-k %ch)
theorem HA(ch:Nat)(m:LX):(qN ch m).length=m.length:=by simp[qN]
theorem pK{ch:Nat}{m:LX}{a i:Nat}(ha:a %ch=0)(hi:i<ch)(h:a+i<m.length):(qN ch m).getD (a+i) 0=Q7 (λi=>m.getD (a+i) 0) ch (ch-1-i):=by
 have hb:(a+i) %ch=i:=by rw[Nat.add_mod,ha,Avs,Nat.mod_mod,Abo hi]
 rw[Jf (by rw[HA];exact h)];simp only[qN,Ay7,Ayu,hb];rw[show a+i-i=a by omega]
section
variable (ch:Nat) (m:LX)
theorem uh(h1:1<=ch)(h6:ch<=6)(hm:m.length %ch=0)(hl2:m.length<=4000):VL (ch:Int) m=some 0:=by
 rw[VL,Abc Bbe,Abc Ba8,Bf Bbc,Aa,Abc];rw[Ah,Ge,Ac,<-Int.ofNat_tmod,hm];simp
theorem wG(bk:Int->LX->Option (LX×Int))(at':Nat)(h1:1<=ch)(h6:ch<=6)(hm:at' %ch=0)(hl:at'+ch<=m.length)(hl2:m.length<=4000):∀(i q:Nat),i<=ch-1->i<q->
  Vt bk (ch:Int) (at':Int) q ((i:Int)-1) (XZ (λk=>decide (k<at'\/ (at'+i<=k/\k<at'+ch))) (qN ch m) m)=bk ((at'+ch:Nat):Int) (XZ (λk=>decide (k<at'+ch)) (qN ch m) m)
 |0,q+1,hi,_=>by
  have e4:Ae (at':Int) (ch:Int)=((at'+ch:Nat):Int):=by rw[Ag];omega
  rw[Vt,MM,Abc Bbg,YQ,oR,e4];congr 1;apply Rn;intro k _;rw[Aoi];simp;omega
 |i+1,q+1,hi,hq=>by
  have hlen:=HA ch m;have e2:Ae (at':Int) (ch:Int)-(at':Int)=(ch:Int):=by rw[Ag];omega
  have e3:Ae (i:Int) 1=((i+1:Nat):Int):=by rw[Ag];omega
  have hv:((qN ch m).getD (at'+(i+1)) 0-m.getD (at'+i) 0)=(qN ch m).getD (at'+i) 0:=by
   rw[pK hm F0 F0,pK hm F0 F0,show ch-1-i=(ch-1-(i+1))+1 by omega,Q7,show ch-2-(ch-1-(i+1))=i by omega]
  rw[Vt,MM,show((i+1:Nat):Int)-1=(i:Int) by omega,Abe Bbg,e2,e3,kB F0,Aa,kB F0,Aa,
   show(at':Int)+((i+1:Nat):Int)=((at'+(i+1):Nat):Int) by omega,show(at':Int)+(i:Int)=((at'+i:Nat):Int) by omega,
   Yb F0,Aa,Yb F0,Aa,Aa,Abe Ba5,Abc Ba5,OW,hv,ZH F0,Aa,Bi]
  have ih:=wG bk at' h1 h6 hm hl hl2 i q F0 F0;rw[<-ih];congr 1;apply Rn;intro k _;rw[Aoi];simp;omega
theorem pC{at' ch n:Nat}(ha:at' %ch=0)(hm:n %ch=0)(h:at'<n):at'+ch<=n:=by
 have d1:=Bai at' ch;have d2:=Bai n ch;rw[ha,Axs]at d1;rw[hm,Axs]at d2;have hlt:at'/ch<n/ch:=by
  rcases Az5 (at'/ch) (n/ch)with h'|h'
  ·exact h'
  ·have:=Nat.mul_le_mul_left ch h';omega
 have:=Nat.mul_le_mul_left ch (show at'/ch+1<=n/ch from hlt);rw[Nat.mul_add]at this;omega
theorem M4(h1:1<=ch)(h6:ch<=6)(hm:m.length %ch=0)(hl2:m.length<=4000):∀(j at' q:Nat),at' %ch=0->at'<=m.length->m.length-at'<=j->j<q->
  Qo (ch:Int) q (at':Int) (XZ (λk=>decide (k<at')) (qN ch m) m)=some (qN ch m,0)
 |j,at',q+1,ha,hle,hj,hq=>by
  have hlen:=HA ch m;have hl:Ac (XZ (λk=>decide (k<at')) (qN ch m) m)=(m.length:Int):=by rw[Ac,HC,hlen]
  rw[Qo,XF,hl];by_cases h:at'<m.length
  ·have hb:=pC ha hm h;obtain⟨j,rfl⟩:∃k,j=k+1:=⟨j-1,F0⟩;have e1:Aj (Ae (at':Int) (ch:Int)-(at':Int)) 1=((ch-1:Nat):Int):=by rw[Ag,Bi];omega
   have e2:Ae (at':Int) (ch:Int)-(at':Int)=(ch:Int):=by rw[Ag];omega
   have e4:Ae (at':Int) (ch:Int)=((at'+ch:Nat):Int):=by rw[Ag];omega
   have hi:=wG ch m (Qo (ch:Int) q) at' h1 h6 ha hb hl2 (ch-1) Aq F0 Ba7;have hrest:=M4 h1 h6 hm hl2 j (at'+ch) q (by rw[Bah,ha]) hb F0 F0;have hstart:YZ (Qo (ch:Int) q) (ch:Int) (at':Int) (XZ (λk=>decide (k<at'\/ (at'+(ch-1)<=k/\k<at'+ch))) (qN ch m) m)=some (qN ch m,0):=by
    have e6:Aj ((ch-1:Nat):Int) 1=((ch-1:Nat):Int)-1:=Bi;rw[YZ,WX,XL,e1,e6];exact Axr hi hrest
   rw[Abe Ba6,show aP (m.length:Int) (at':Int) (Ae (at':Int) (ch:Int))=some () by rw[e4,aP,kB];omega,Aa,e1,e2];have hlast:=pK (m:=m) ha (show ch-1<ch by omega) F0;rw[show ch-1-(ch-1)=0 by omega,Q7]at hlast;by_cases hc:1<ch
   ·have e5:Aj ((ch-1:Nat):Int) 1=((ch-2:Nat):Int):=by rw[Bi];omega
    rw[Abe hc]at hlast;rw[Abe Bbb,kB F0,Aa,e5,kB F0,Aa,show(at':Int)+((ch-1:Nat):Int)=((at'+(ch-1):Nat):Int) by omega,show(at':Int)+((ch-2:Nat):Int)=((at'+(ch-2):Nat):Int) by omega,
     Yb F0,Aa,Yb F0,Aa,Aa,Abc Bba,Abc Bba,UP,<-hlast,ZH F0,Aa]
    rw[<-hstart];congr 1;apply Rn;intro k _;rw[Aoi];simp;omega
   ·have hc1:ch=1:=F0
    rw[Abc Bbb,<-hstart];congr 1;rw[Abc hc]at hlast;apply Az9;intro k hk;by_cases hk2:k=at'
    ·subst hk2;rw[Abc Bba,Abe Ba5];rw[show k+(ch-1)=k by omega]at hlast;exact hlast.symm
    ·by_cases hk3:k<at'
     ·rw[Abe Ba5,Abe Ba5]
     ·rw[Abc Ba5,Abc Ba5]
  ·rw[Abc Ba6,iW (λk hk=>by simp;omega)];rfl
theorem Ap9(h1:1<=ch)(h6:ch<=6)(hm:m.length %ch=0)(hl2:m.length<=4000):oE (ch:Int) m=some (qN ch m,0):=by
 have hlen:=HA ch m;have h:=M4 ch m h1 h6 hm hl2 m.length 0 Aq Bba F0 F0 Ba7;rw[oE,gT,uh ch m h1 h6 hm hl2,Aa,Abc Ba9,Dd,Ct Ba5,Aa,Aa,Av0,pB];rw[cS hlen.symm (λk _=>by simp)]at h;exact h
end
def sV(f:Nat->Int32)(ch:Nat):LX:=(List.range ch).map λi=>Q7 f ch (ch-1-i)
theorem VG(f:Nat->Int32)(ch:Nat):(sV f ch).length=ch:=by simp[sV]
theorem qA(f:Nat->Int32){ch i:Nat}(h:i<ch):(sV f ch).getD i 0=Q7 f ch (ch-1-i):=by
 rw[Jf (by rw[VG];exact h)];simp[sV]
theorem Anj(a b:Int32):Ck (Aj (Ad a:Int) (Ad b:Int))=some (a-b):=by
 have:=Wy a;have:=Wy b;rw[Ej,Ej,Bi,vQ,Int32.ofInt_sub,Awc,Awc]
theorem Ai2(a b:Int32):Ck (Ae (Ad a:Int) (Ca (Ad b:Int) (2:Int)))=some (a+Ca b (2:Int32)):=by
 have:=Wy a;have hb:=Wy b;have hd: -2147483648<=b.toInt.tdiv 2/\b.toInt.tdiv 2<=2147483648:=by
  rw[Int.tdiv_eq_ediv,show Int.sign 2=1 from rfl];by_cases h:0<=b.toInt\/2∣b.toInt
  ·rw[Abe h];omega
  ·rw[Abc h];omega
 have e:Ca b (2:Int32)=Int32.ofInt (b.toInt.tdiv 2):=rfl;rw[Ej,Ej,KI,Bs F0 F0,Ag,vQ,Int32.ofInt_add,Awc,e]
theorem nZ(seg z:LX)(ch:Nat)(h6:ch<=6)(hs:seg.length=ch)(hz:z.length=ch):∀(i q:Nat),i+1<=ch->i<q->
  Gv seg q ((i:Int)-1) (XZ (λk=>decide (i<=k)) (sV (λi=>seg.getD i 0) ch) z)=some (sV (λi=>seg.getD i 0) ch)
 |0,q+1,hi,_=>by
  rw[Gv,Ph,Abc Bbg,iW (λk hk=>by simp)];rfl
 |i+1,q+1,hi,hq=>by
  have hlen:=VG (λi=>seg.getD i 0) ch;have e3:Ae (i:Int) 1=((i+1:Nat):Int):=by rw[Ag];omega
  have hv:(sV (λi=>seg.getD i 0) ch).getD (i+1) 0-seg.getD i 0=(sV (λi=>seg.getD i 0) ch).getD i 0:=by
   rw[qA _ F0,qA _ F0,show ch-1-i=(ch-1-(i+1))+1 by omega,Q7,show ch-2-(ch-1-(i+1))=i by omega]
  rw[Gv,Ph,show((i+1:Nat):Int)-1=(i:Int) by omega,Abe Bbg,e3,Yb F0,Aa,g32 F0,Aa,Aa,Abe Bba,Anj,Aa,Yb F0,Aa,hv,ZH F0,Aa,Bi];have ih:=nZ seg z ch h6 hs hz i q F0 F0;rw[<-ih];congr 1;apply Rn;intro k _;rw[Aoi];simp;omega
theorem Aau{l:LX}{i:Nat}(v:Int32)(h:i<l.length):(l.set i v).getD i 0=v:=by
 rw[Jf (by rw[Ax9];exact h)];simp
theorem Ab9(seg:LX)(ch:Nat)(h1:1<=ch)(h6:ch<=6)(hs:seg.length=ch):Uw seg=some (sV (λi=>seg.getD i 0) ch):=by
 have hlen:=VG (λi=>seg.getD i 0) ch;have hzl:(List.replicate ch (0:Int32)).length=ch:=by simp
 have e1:Aj (Ac seg) 1=((ch-1:Nat):Int):=by rw[Ac,hs,Bi];omega
 have e2:Aj (Ac seg) 2=((ch-1:Nat):Int)-1:=by rw[Ac,hs,Bi];omega
 have hlast:=qA (λi=>seg.getD i 0) (show ch-1<ch by omega);rw[show ch-1-(ch-1)=0 by omega,Q7]at hlast;have hend:∀z:LX,z.length=ch->z.getD (ch-1) 0=(sV (λi=>seg.getD i 0) ch).getD (ch-1) 0->Oq seg z=some (sV (λi=>seg.getD i 0) ch):=by
  intro z hz hzl;have h:=nZ seg z ch h6 hs hz (ch-1) Aq F0 Ba7;have e:XZ (λk=>decide (ch-1<=k)) (sV (λi=>seg.getD i 0) ch) z=z:=by
   apply Awe (by rw[HC,hlen,hz]);intro k k1 k2;rw[Pw];by_cases hk:ch-1<=k
   ·obtain rfl:k=ch-1:=F0
    rw[Abe Bba,<-hzl,Jf k2]
   ·rw[Abc (by simpa using hk),Jf k2]
  rw[e]at h;rw[Oq,AE,e2];exact h
 rw[Uw,Zh,Ac,hs,pQ,Aa,Bf Bbt,Aa];rw[Ac,hs]at e1;rw[Ac,hs]at e2;have hz1:(List.replicate (Int.toNat (ch:Int)) (0:Int32)).length=ch:=by simp
 have hs1:=g32 (l:=seg) (k:=ch-1) F0;rw[e1,hs1,Aa,g32 F0,Aa,Qr _ F0,Aa];by_cases hc:1<ch
 ·rw[Abe hc]at hlast;have e3:((ch-1:Nat):Int)-1=((ch-2:Nat):Int):=F0
  have hs2:=g32 (l:=seg) (k:=ch-2) F0;rw[Abe Bbb,Aa,e2,e3,hs2,Aa,Ai2,Aa,g32 (by rw[Ax9];omega),Aa,Qr _ (by rw[Ax9];omega),Aa];refine hend _ Bba ?_;rw[hlast,Aau _ (by rw[Ax9];omega)]
 ·rw[Abc hc]at hlast;rw[Abc Bbb];refine hend _ Bba ?_;rw[hlast,Aau _ F0]
theorem Aq8(ch:Nat)(m:LX)(h1:1<=ch)(h6:ch<=6)(hm:m.length %ch=0)(hl2:m.length<=4000):Qj (ch:Int) m=some 0:=by
 rw[Qj,Abc Bbe,Abc Ba8,Bf Bbc,Aa,Abc];rw[Al,Ge,Ac,<-Int.ofNat_tmod,hm];simp
theorem tN(ch:Nat)(m:LX)(h1:1<=ch)(h6:ch<=6)(hm:m.length %ch=0)(hl2:m.length<=4000):∀(j at' q:Nat),at' %ch=0->at'<=m.length->m.length-at'<=j->j<q->
  Mz (ch:Int) m q (at':Int) ((qN ch m).take at')=some (qN ch m,0)
 |j,at',q+1,ha,hle,hj,hq=>by
  have hlen:=HA ch m;rw[Mz,JY];by_cases h:at'<m.length
  ·have hb:=pC ha hm h;have e4:Ae (at':Int) (ch:Int)=((at'+ch:Nat):Int):=by rw[Ag];omega
   have hrest:=tN ch m h1 h6 hm hl2 (j-1) (at'+ch) q (by rw[Bah,ha]) hb F0 F0;have hseg:((m.take (at'+ch)).drop at').length=ch:=by simp;omega
   have htl:((qN ch m).take at').length=at':=by simp[hlen];omega
   rw[Abe F2,e4,Ou,Aa,show((at'+ch:Nat):Int).toNat=at'+ch from rfl,show(at':Int).toNat=at' from rfl,Ab9 _ ch h1 h6 hseg,Aa,Ct (by rw[htl,VG];omega),Aa];have e:(qN ch m).take at'++sV (λi=>((m.take (at'+ch)).drop at').getD i 0) ch=(qN ch m).take (at'+ch):=by
    apply Awe (by rw[Ab0,htl,VG,Afi,hlen];omega);intro k k1 k2;rw[Afi,hlen]at k2;rw[List.getElem_append,List.getElem_take];by_cases hk:k<at'
    ·rw[dif_pos (by rw[htl];exact hk),List.getElem_take]
    ·rw[dif_neg (by rw[htl];exact hk)];have hu:=pK (m:=m) ha (show k-at'<ch by omega) F0;rw[show at'+(k-at')=k by omega,Jf F0]at hu;have hx:∀n,n<=ch->Q7 (λi=>((m.take (at'+ch)).drop at').getD i 0) ch n=Q7 (λi=>m.getD (at'+i) 0) ch n:=by
      have hf:∀i,i<ch-> ((m.take (at'+ch)).drop at').getD i 0=m.getD (at'+i) 0:=by
       intro i hi;rw[Jf F0,Jf F0];simp
      intro n
      induction n with
      |zero=>
       intro _;rw[Q7,Q7,hf _ F0];split
       ·rw[hf _ F0]
       ·rfl
      |succ n ih=>intro hn;rw[Q7,Q7,ih F0,hf _ F0]
     have hy:=qA (λi=>((m.take (at'+ch)).drop at').getD i 0) (show k-at'<ch by omega);rw[Jf (by rw[VG];omega)]at hy;rw[hu,<-hx _ F0,<-hy];congr 1;rw[htl]
   rw[e];exact hrest
  ·rw[Abc F2,Avw F0];rfl
theorem Aiq(ch:Nat)(m:LX)(h1:1<=ch)(h6:ch<=6)(hm:m.length %ch=0)(hl2:m.length<=4000):BM (ch:Int) m=some (qN ch m,0):=by
 have h:=tN ch m h1 h6 hm hl2 m.length 0 Aq Bba F0 F0 Ba7;rw[BM,HS,Aq8 ch m h1 h6 hm hl2,Aa,Abc Ba9];exact h
def pre{α:Type}(ch c:Nat)(f:α->Nat->α)(a0:α):Nat->α
 |0=>a0
 |m+1=>if m %ch=c then f (pre ch c f a0 m) m else pre ch c f a0 m
theorem Agx{α:Type}(ch c:Nat)(f:α->Nat->α)(a0:α):∀m,m<=c->c<ch->pre ch c f a0 m=a0
 |0,_,_=>rfl
 |m+1,h,h2=>by rw[pre,Abc (by rw[Abo F0];omega),Agx ch c f a0 m F0 h2]
theorem ny{α:Type}(ch c i:Nat)(f:α->Nat->α)(a0:α)(hi:i %ch=c)(hc:c<ch):∀j,j<ch->pre ch c f a0 (i+1+j)=pre ch c f a0 (i+1)
 |0,_=>rfl
 |j+1,h=>by
  have hne:(i+1+j) %ch≠c:=by
   intro e;have h1:(i+(1+j)) %ch=i %ch:=by rw[hi,<-e];congr 1;omega
   have h2:(1+j) %ch=0:=by
    have h3:=Nat.sub_mod_eq_zero_of_mod_eq h1;rwa [Ayd]at h3
   rw[Abo F0]at h2;omega
  rw[show i+1+(j+1)=(i+1+j)+1 by omega,pre,Abc hne,ny ch c i f a0 hi hc j F0]
theorem Aly{α:Type}(ch c i:Nat)(f:α->Nat->α)(a0:α)(hi:i %ch=c)(hc:c<ch):pre ch c f a0 (i+ch)=f (pre ch c f a0 i) i:=by
 have h:=ny ch c i f a0 hi hc (ch-1) F0;rw[show i+1+(ch-1)=i+ch by omega]at h;rw[h,pre,Abe hi]
abbrev CS:=Int32×LX×LX
def wH(bits:Int)(s:CS)(y:Int32):Int32:=y+gF (sB bits) s.2.1 s.2.2+gs (shB bits) s.1
def O0(bits:Int)(s:CS)(y:Int32):CS:=(wH bits s y,wK s.2.1 s.2.2 y,(y+gF (sB bits) s.2.1 s.2.2)::s.2.2.take 15)
def cst(bits:Int)(ch:Nat)(t:LX)(v:LU)(c:Nat):Nat->CS:=pre ch c (λs i=>O0 bits s (HL (v.getD i 0))) (0,t,List.replicate 16 0)
def OkC(bits:Int)(s:CS):Prop:=OkF (sB bits) s.2.1 s.2.2
theorem jr(bits:Int)(ch:Nat){t:LX}(ht:t.length=16)(v:LU)(c:Nat):∀m,OkC bits (cst bits ch t v c m)
 |0=>⟨Awv bits,ht,by simp[cst,pre]⟩
 |m+1=>by
  have ih:=jr bits ch ht v c m;rw[cst,pre];split
  ·exact Ak3 ih _ _
  ·exact ih
def lY(bits:Int)(ch:Nat)(t:LX)(v:LU):LX:=(List.range v.length).map λi=>wH bits (cst bits ch t v (i %ch) i) (HL (v.getD i 0))
theorem MX(bits:Int)(ch:Nat)(t:LX)(v:LU):(lY bits ch t v).length=v.length:=by simp[lY]
theorem gy(bits:Int)(ch:Nat)(t:LX)(v:LU){i:Nat}(h:i<v.length):(lY bits ch t v).getD i 0=wH bits (cst bits ch t v (i %ch) i) (HL (v.getD i 0)):=by
 rw[Jf (by rw[MX];exact h)];simp[lY]
abbrev CL:=Int×Int32×(Int×LX×LX×Unit)×Unit
def toC(bits:Int)(s:CS):CL:=(bits,s.1,(sB bits,s.2.1,s.2.2,()),())
def cts(bits:Int)(ch:Nat)(t:LX)(v:LU)(i:Nat):List CL:=(List.range 6).map λc=>toC bits (cst bits ch t v c i)
theorem Agm{bits:Int}{ch:Nat}{t:LX}{v:LU}{i c:Nat}(h:c<6):Ak (cts bits ch t v i) (c:Int)=some (toC bits (cst bits ch t v c i)):=by
 rw[Ci (by simp[cts];exact h)];simp[cts]
theorem tq(bits:Int)(ch:Nat)(t:LX)(v:LU)(c m:Nat):cst bits ch t v c (m+1)=if m %ch=c then O0 bits (cst bits ch t v c m) (HL (v.getD m 0))else cst bits ch t v c m:=rfl
theorem Af1{bits:Int}{ch:Nat}{t:LX}{v:LU}{i c:Nat}(h:c<6)(hc:i %ch=c):Jb (cts bits ch t v i) (c:Int) (toC bits (O0 bits (cst bits ch t v c i) (HL (v.getD i 0))))=some (cts bits ch t v (i+1)):=by
 rw[Qr _ (by simp[cts];exact h)];congr 1;apply Awe (by simp[cts]);intro k h1 h2;rw[Bao];simp only[cts,Ay7,Ayu];by_cases hk:c=k
 ·subst hk;rw[Abe rfl,tq,Abe hc]
 ·rw[Abc hk,tq,Abc F0]
section
variable {bits:Int} {ch:Nat} {t:LX} {v:LU}
theorem pz(hb:Ch bits)(ht:t.length=16)(h1:1<=ch)(h6:ch<=6)(hv:v.length<=4000):∀(j i q:Nat),i+j=v.length->j<q->
  Hv v (ch:Int) bits q (i:Int) (cts bits ch t v i) ((lY bits ch t v).take i)=Ko (ch:Int) bits (lY bits ch t v)
 |0,i,q+1,hi,_=>by
  rw[Hv,Kn,Abc F2,Avw (by rw[MX];omega)]
 |j+1,i,q+1,hi,hq=>by
  have hlen:=MX bits ch t v;have hc:i %ch<6:=Aj7 (Ax5 _ F0) h6;have hok:=jr bits ch ht v (i %ch) i;have hs:=Af1 (bits:=bits) (ch:=ch) (t:=t) (v:=v) (i:=i) hc rfl;have hx:=gy bits ch t v (i:=i) F0;have hcb:=Ah5 hb hok (cst bits ch t v (i %ch) i).1 (HL (v.getD i 0));have ih:=pz hb ht h1 h6 hv j (i+1) q F0 F0;rw[Pa F0,<-Jf F0,hx]at ih;rw[Hv,Kn,Abe F2,pZ F0,Aa,Bf Bbc,Aa,KF,Agm hc,Aa,Aa,Amk,Aa];refine Axr (congrArg (λo=>Option.bind o _) hcb) ?_;rw[Aa];simp only;rw[Wr,LV,Abc Ba9,KF];refine Axr (congrArg (λo=>Option.bind o _) hs) ?_;rw[Aa,Ct Ba5,Aa,Ag];exact ih
theorem Ajq(hb:Ch bits)(ht:t.length=16)(h1:1<=ch)(h6:ch<=6)(hv:v.length<=4000):Rg (ch:Int) bits t v=Ko (ch:Int) bits (lY bits ch t v):=by
 have h:=pz hb ht h1 h6 hv v.length 0 Aq F0 Ba7;have e:Aq=(Aq-7)+1+1+1+1+1+1+1:=by have:=Am;omega
 have hs:Wx v (ch:Int) bits t 0 (List.replicate 6 ((0:Int),(0:Int32),((0:Int),(List.replicate 16 (0:Int32)),(List.replicate 16 (0:Int32)),()),()))=MH v (ch:Int) bits (cts bits ch t v 0):=by
  rw[Wx,e];obtain rfl|rfl|rfl:=hb<;>rfl
 rw[Rg,Yt,hs];exact h
theorem N0(bk:Int->LX->Option LX)(hb:Ch bits)(ht:t.length=16)(h1:1<=ch)(h6:ch<=6)(hv:v.length<=4000)(z:LX)(c:Nat)(hc:c<ch):∀(j i q:Nat),i %ch=c->v.length-i<=j->i<=5000->j<q->
  Jz bk v (ch:Int) bits t (c:Int) q (i:Int) (XZ (λk=>decide (k %ch<c\/ (k %ch=c/\k<i))) (lY bits ch t v) z) bits (cst bits ch t v c i).1 (sB bits) (cst bits ch t v c i).2.1 (cst bits ch t v c i).2.2=
   bk ((c+1:Nat):Int) (XZ (λk=>decide (k %ch<c+1)) (lY bits ch t v) z)
 |j,i,q+1,hi,hj,hi5,hq=>by
  have hlen:=MX bits ch t v;rw[Jz,Zr];by_cases h:i<v.length
  ·have hok:=jr bits ch ht v c i;have hst:=Ajv hb hok (cst bits ch t v c i).1 (HL (v.getD i 0));have hx:=gy bits ch t v (i:=i) h;rw[hi]at hx;have ih:=N0 bk hb ht h1 h6 hv z c hc (j-1) (i+ch) q (by rw[Bah];exact hi) F0 F0 F0;have D8:cst bits ch t v c (i+ch)=O0 bits (cst bits ch t v c i) (HL (v.getD i 0)):=Aly ch c i _ _ hi hc;rw[D8]at ih;have hset:=ZH (p:=λk=>decide (k %ch<c\/ (k %ch=c/\k<i))) (a:=lY bits ch t v) (b:=z) (k:=i) F0;rw[hx]at hset;have Ab2:XZ (λj=>decide (j %ch<c\/ (j %ch=c/\j<i))||decide (j=i)) (lY bits ch t v) z=XZ (λk=>decide (k %ch<c\/ (k %ch=c/\k<i+ch))) (lY bits ch t v) z:=by
    apply Rn;intro k _;rw[Aoi];simp only[Ax8,Ab6];constructor
    ·rintro((h1|h1)|h1)
     ·exact .inl h1
     ·exact .inr ⟨h1.1,F0⟩
     ·subst h1;exact .inr ⟨hi,F0⟩
    ·rintro(h1|⟨h1,h2⟩)
     ·exact .inl (.inl h1)
     ·by_cases h3:k<i
      ·exact .inl (.inr ⟨h1,h3⟩)
      ·refine .inr ?_;have h4:(i+(k-i)) %ch=i %ch:=by rw[show i+(k-i)=k by omega,h1,hi]
       have h5:=Nat.sub_mod_eq_zero_of_mod_eq h4;rw[Ayd,Abo F0]at h5;omega
   rw[Ab2]at hset;rw[Abe F2,pZ h,Aa,Ap0,Aa];refine Axr (congrArg (λo=>Option.bind o _) hst) ?_;rw[Aa];simp only;rw[Zy,Zs,Yb F0,Aa];refine Axr (congrArg (λo=>Option.bind o _) hset) ?_;rw[Aa,Zc,Zm,Ag];exact ih
  ·rw[Abc F2,Zj,Zw,Ag];have Ab2:XZ (λk=>decide (k %ch<c\/ (k %ch=c/\k<i))) (lY bits ch t v) z=XZ (λk=>decide (k %ch<c+1)) (lY bits ch t v) z:=by
    apply Rn;intro k hk;rw[Aoi];simp only[Ab6];omega
   rw[Ab2];rfl
theorem P3(hb:Ch bits)(ht:t.length=16)(h1:1<=ch)(h6:ch<=6)(hv:v.length<=4000)(z:LX):∀(j c q:Nat),c+j=ch->j<q->
  Ez v (ch:Int) bits t q (c:Int) (XZ (λk=>decide (k %ch<c)) (lY bits ch t v) z)=On (ch:Int) bits (lY bits ch t v)
 |0,c,q+1,hc,_=>by
  rw[Ez,Oo,Abc Ba6,iW (λk hk=>by have:=Ax5 k (show 0<ch by omega);simp;omega)]
 |j+1,c,q+1,hc,hq=>by
  have ih:=P3 hb ht h1 h6 hv z j (c+1) q F0 F0;have hin:=N0 (Ez v (ch:Int) bits t q) hb ht h1 h6 hv z c F0 v.length c Aq (Abo F0) F0 F0 Ba7;have h0:cst bits ch t v c c=(0,t,List.replicate 16 0):=Agx ch c _ _ c (Aiw _) F0;rw[h0]at hin;have Ab2:XZ (λk=>decide (k %ch<c\/ (k %ch=c/\k<c))) (lY bits ch t v) z=XZ (λk=>decide (k %ch<c)) (lY bits ch t v) z:=by
   apply Rn;intro k hk;have:=Nat.mod_le k ch;rw[Aoi];simp only[Ab6];omega
  rw[Ab2]at hin;rw[Ez,Oo,Abe Ba6,Axe hb,Aa];simp only;rw[Zv];exact Axr hin ih
theorem P4(hb:Ch bits)(ht:t.length=16)(h1:1<=ch)(h6:ch<=6)(hv:v.length<=4000)(hm:v.length %ch=0):Nv (ch:Int) bits t v=some (qN ch (lY bits ch t v)):=by
 have hlen:=MX bits ch t v;have h:=P3 hb ht h1 h6 hv (List.replicate v.length 0) ch 0 Aq F0 Ba7;rw[cS (by rw[hlen];simp) (λk _=>by simp)]at h;rw[Nv,BE,Ac,pQ,Aa,Bf Bbt,Aa,AF];refine Axr h ?_;rw[On,Zt,Aiq ch _ h1 h6 (by rw[hlen];exact hm) F0,Aa]
end
def hB(bits:Int):Int:=if bits=8 then 128 else if bits=16 then 32768 else 8388608
theorem U1{bits:Int}(h:Ch bits):Py bits=some (Int32.ofInt (-(hB bits)),Int32.ofInt (hB bits-1),0):=by
 obtain rfl|rfl|rfl:=h<;>decide
theorem RU{bits:Int}(h:Ch bits):Hu bits=some (hB bits):=by
 obtain rfl|rfl|rfl:=h<;>rfl
theorem NY(bits:Int):0<hB bits/\hB bits<=8388608:=by
 unfold hB;split; · omega
 ·split<;>omega
theorem zN{bits:Int}(h:Ch bits)(l:LX)(hl:l.length<=4000):∀(j i q:Nat),i+j=l.length->j<q->
  Ok (Int32.ofInt (-(hB bits))) (Int32.ofInt (hB bits-1)) l q (i:Int)=Ay l (hB bits) q (i:Int)
 |0,i,q+1,hi,_=>by
  rw[Ok,AS,Ay,Cc,Abc F2,Abc F2];rfl
 |j+1,i,q+1,hi,hq=>by
  have hh:=NY bits;have ih:=zN h l hl j (i+1) q F0 F0;have e1:(Int32.ofInt (-(hB bits))).toInt= -(hB bits):=by rw[Ayr,Baj (by show -(4294967296/2:Int)<= _;omega) (by show _<(4294967296+1)/2;omega)]
  have e2:(Int32.ofInt (hB bits-1)).toInt=hB bits-1:=by rw[Ayr,Baj (by show -(4294967296/2:Int)<= _;omega) (by show _<(4294967296+1)/2;omega)]
  rw[Ok,AS,Ay,Cc,Abe F2,Abe F2,g32 F0,Aa,Aa,Aa,Ej,U5,Bs F0 F0,Ag,Y3,Acx,e1,e2,Af,Dl];generalize(l.getD i 0).toInt=X;by_cases h1:X< -(hB bits)
  ·rw[Abe Ba5,Abe Ba5]
  ·rw[Abc (c:=decide (X<0-hB bits)=true) Ba5];by_cases h2:hB bits<=X
   ·rw[Abe Ba5,Abe Ba5]
   ·rw[Abc Ba5,Abc Ba5];exact ih
theorem YX{bits:Int}(h:Ch bits)(l:LX)(hl:l.length<=4000):Ui bits l=Ap bits l:=by
 have hh:=NY bits;rw[Ui,PQ,U1 h,Aa,Ap,Cs,RU h,Aa];simp only;rw[Abc Ba9,Abc Ba8,Abc Bbd,Abc Ba8];exact zN h l hl l.length 0 Aq F0 Ba7
theorem H8{bits:Int}(h:Ch bits)(l:LX)(hl:l.length<=4000):∃e,Ap bits l=some e:=by
 have hh:=NY bits;have key:∀(j i q:Nat),i+j=l.length->j<q->∃e,Ay l (hB bits) q (i:Int)=some e:=by
  intro j
  induction j with
  |zero=>
   intro i q hi hq;obtain⟨q,rfl⟩:∃k,q=k+1:=⟨q-1,F0⟩;rw[Ay,Cc,Abc F2];exact⟨_,rfl⟩
  |succ j ih=>
   intro i q hi hq;obtain⟨q,rfl⟩:∃k,q=k+1:=⟨q-1,F0⟩;rw[Ay,Cc,Abe F2,g32 F0,Aa,Aa,Ag];split
   ·exact⟨_,rfl⟩
   ·split
    ·exact⟨_,rfl⟩
    ·exact ih (i+1) q F0 F0
 obtain⟨e,he⟩:=key l.length 0 Aq F0 Ba7;rw[Ap,Cs,RU h,Aa,Abc Bbd,Abc Ba8];exact⟨e,he⟩
theorem X8{bits:Int}{ch:Nat}{t:LX}{v:LU}(hb:Ch bits)(ht:t.length=16)(h1:1<=ch)(h6:ch<=6)(hv:v.length<=4000)(hm:v.length %ch=0):
  ∃l e,Nv (ch:Int) bits t v=some l/\Nz (ch:Int) bits l=some (if e≠0 then([],e)else(l,0))/\Rg (ch:Int) bits t v=some (if e≠0 then([],e)else(l,0))/\Ap bits l=some e/\l.length=v.length:=by
 have hlen:=MX bits ch t v;have hul:=HA ch (lY bits ch t v);obtain⟨e,he⟩:=H8 hb (qN ch (lY bits ch t v)) F0;refine⟨qN ch (lY bits ch t v),e,P4 hb ht h1 h6 hv hm,?_,?_,he,F0⟩
 ·rw[Nz,he,Aa];by_cases h:e=0
  ·rw[Abc (by rw[Ah];simpa using h),Abc (by simpa using h)]
  ·rw[Abe (by rw[Ah];simpa using h),Abe h]
 ·rw[Ajq hb ht h1 h6 hv,Ko,LG,Ap9 ch _ h1 h6 (by rw[hlen];exact hm) F0,Aa];simp only;rw[Abc Ba9,YX hb _ F0,he,Aa];by_cases h:e=0
  ·rw[Abc (by rw[Ah];simpa using h),Abc (by simpa using h)]
  ·rw[Abe (by rw[Ah];simpa using h),Abe h]
def eE(s:Nat):Nat:=(s/2)^^^ (if s %2=1 then 3988292384 else 0)
theorem E5{s:Nat}(h:s<4294967296):eE s<4294967296:=by
 unfold eE;exact Awu (n:=32) Ba5 (by split<;>decide)
theorem xu(x y:Nat):(x^^^y)/2=(x/2)^^^ (y/2):=by
 have:=Nat.shiftRight_xor_distrib (a:=x) (b:=y) (i:=1);simpa [Nat.shiftRight_eq_div_pow]using this
theorem Aiu(x y:Nat):eE (x^^^y)=eE x^^^eE y:=by
 have h:(x^^^y) %2=(x %2+y %2) %2:=by
  have:=Nat.xor_mod_two_eq_one (a:=x) (b:=y);have h1:(x^^^y) %2<2:=Ax5 _ F0;omega
 simp only[eE,xu,h];have hx:x %2=0\/x %2=1:=F0
 have hy:y %2=0\/y %2=1:=F0
 rcases hx with hx|hx<;>rcases hy with hy|hy<;>simp only[hx,hy]<;>simp
 ·rw[Ax7]
 ·rw[Ax7,Ba0 (y/2),Ax7,Ba0 3988292384 (y/2)]
 ·rw[Ax7,Ba0 3988292384,Ax7,Nat.xor_self];simp
def Wd:Nat->Nat->Nat
 |0,s=>s
 |k+1,s=>Wd k (eE s)
theorem O5:∀(k x y:Nat),Wd k (x^^^y)=Wd k x^^^Wd k y
 |0,_,_=>rfl
 |k+1,x,y=>by rw[Wd,Aiu,O5 k];rfl
theorem M5:∀(k h:Nat),Wd k (2^k*h)=h
 |0,h=>by simp[Wd]
 |k+1,h=>by
  have:eE (2^(k+1)*h)=2^k*h:=by
   rw[Avm,Apd (2^k) 2,Azy,eE,Abc F0,Nat.mul_div_cancel_left _ F0];simp
  rw[Wd,this,M5 k]
theorem xE:∀(k:Nat) {s:Nat},s<4294967296->Wd k s<4294967296
 |0,_,h=>h
 |k+1,_,h=>xE k (E5 h)
def uA(s c:Nat):Nat:=Wd 8 (s^^^c)
theorem wZ{s c:Nat}(h:s<4294967296)(hc:c<256):uA s c<4294967296:=xE 8 (Awu (n:=32) (by simpa using h) Ba5)
theorem xg{s c:Nat}(hc:c<256):uA s c=(s/256)^^^Wd 8 ((s %256)^^^c):=by
 have h:s=(2^8*(s/256))^^^ (s %256):=by
  have h1:s %256<2^8:=by simpa using Ax5 s (by omega:256>0)
  have:=Aw3 h1 (s/256);have h2:2^8*(s/256)|||s %256=(2^8*(s/256))^^^ (s %256):=by
   apply Nat.eq_of_testBit_eq;intro i;rw[Nat.testBit_or,Nat.testBit_xor];by_cases hi:i<8
   ·have:(2^8*(s/256)).testBit i=false:=by rw[Nat.testBit_two_pow_mul];simp;omega
    rw[this];simp
   ·have:(s %256).testBit i=false:=Nat.testBit_lt_two_pow (Aj7 h1 (Adr F0 F0));rw[this];simp
  omega
 rw[uA]
 conv=>lhs;rw[h]
 rw[Ax7,O5,M5]
def Ah6(s:Nat)(l:LB):Nat:=l.foldl (λs c=>uA s c.toNat) s
def Dn(b:LB):UInt32:=4294967295-UInt32.ofNat (Ah6 4294967295 b)
theorem Apu(s:UInt32)(c:Nat)(hc:c<256):CZ s (Ad (AG (UInt8.ofNat c) (2:UInt8)):Int)=some (UInt32.ofNat (s.toNat/2^^^ (if(s.toNat^^^c) %2=1 then 3988292384 else 0))):=by
 have h1:(Ad (AG (UInt8.ofNat c) (2:UInt8)):Int)=((c %2:Nat):Int):=by
  rw[NC,Arq,UInt8.toNat_mod,Aoq];show((c %256 %2:Nat):Int)=_;omega
 have h2:geq (AG s (2:UInt32)) (1:UInt32)=decide (s.toNat %2=1):=by
  rw[U2,qj,Aoi];simp only[Aye,Ab6];rw[<-UInt32.toNat_inj,UInt32.toNat_mod];rfl
 have h3:Ca s (2:UInt32)=UInt32.ofNat (s.toNat/2):=by
  apply UInt32.toNat_inj.1;rw[su,UInt32.toNat_div,Aj6]
  show s.toNat/2=_;have:=s.toNat_lt;omega
 have h4:Qv (Ca s (2:UInt32)) (3988292384:UInt32)=UInt32.ofNat (s.toNat/2^^^3988292384):=by
  apply UInt32.toNat_inj.1;rw[h3,UN,Bam,Aj6,Aj6];have:=s.toNat_lt;rw[Abo (a:=s.toNat/2) F0,Abo]
  ·rfl
  ·exact Awu (n:=32) F0 F6
 have hx:(s.toNat^^^c) %2=(s.toNat %2+c %2) %2:=by
  have:=Nat.xor_mod_two_eq_one (a:=s.toNat) (b:=c);have h1:(s.toNat^^^c) %2<2:=Ax5 _ F0;omega
 have hs:s.toNat %2=0\/s.toNat %2=1:=F0
 have hc2:c %2=0\/c %2=1:=F0
 rw[CZ,HH,h1,h2,hx];rcases hs with hs|hs<;>rcases hc2 with hc2|hc2<;>simp[hs,hc2,Bb,HT,IX,UN,h3]
theorem tT:∀(j i q:Nat) (s:UInt32) (c:Nat),i+j=8->j<q->c<2^j->Jl q s (UInt8.ofNat c) (i:Int)=some (UInt32.ofNat (Wd j (s.toNat^^^c)))
 |0,i,q+1,s,c,hi,_,hc=>by
  obtain rfl:i=8:=F0
  obtain rfl:c=0:=by simpa using hc
  rw[Jl,Ux,Abc Bbi,KC,JK,Wd];simp
 |j+1,i,q+1,s,c,hi,hq,hc=>by
  have hc8:c<256:=Aj7 hc (show 2^(j+1)<=2^8 from Adr F0 F0);rw[Jl,Ux,Abe Ba6,Apu s c hc8,Aa,Ag];have e:Ca (UInt8.ofNat c) (2:UInt8)=UInt8.ofNat (c/2):=by
   apply UInt8.toNat_inj.1;rw[Aq9,UInt8.toNat_div,Aoq,Aoq]
   show c %256/2=_;omega
  rw[e];have h:=tT j (i+1) q (UInt32.ofNat (s.toNat/2^^^ (if(s.toNat^^^c) %2=1 then 3988292384 else 0))) (c/2) F0 F0 (by rw[Avm]at hc;omega);rw[show((i:Int)+1)=((i+1:Nat):Int) by omega,h,Aj6,Wd];congr 3;have:=s.toNat_lt;rw[Abo,eE,xu,Ax7,Ax7,Ba0 (c/2)];exact Awu (n:=32) F0 (by split<;>decide)
theorem Aq5(s:UInt32)(c:UInt8):SH s c=some (UInt32.ofNat (uA s.toNat c.toNat)):=by
 have h:=tT 8 0 Aq s c.toNat F0 Ba7 (by simpa using c.toNat_lt);rw[UInt8.ofNat_toNat]at h;exact h
theorem kD(b:LB)(hb:b.length<4611686018427387904):∀(j i q:Nat) (s:UInt32),i+j=b.length->j<q->Ho b q s (i:Int)=some (UInt32.ofNat (Ah6 s.toNat (b.drop i)))
 |0,i,q+1,s,hi,_=>by
  rw[Ho,Qe,Abc F2,show i=b.length by omega,Ayb];simp[DS,BY,Ah6]
 |j+1,i,q+1,s,hi,hq=>by
  have hlt:i<b.length:=F0
  rw[Ho,Qe,Abe F2,Ci hlt,Aa,Aq5,Aa,Ag];have h:=kD b hb j (i+1) q (UInt32.ofNat (uA s.toNat b[i].toNat)) F0 F0;rw[show((i:Int)+1)=((i+1:Nat):Int) by omega,h,drop_cons hlt,Aj6,Abo (wZ s.toNat_lt b[i].toNat_lt)];rfl
theorem Aku(b:LB)(hb:b.length<4611686018427387904):Rh b=some (Dn b):=by
 have h:=kD b hb b.length 0 Aq 4294967295 F0 Ba7;rw[Rh,LH,BQ,CQ,show((0:Int))=((0:Nat):Int)from rfl,h,Aa,xK];rfl
theorem Arr(c:UInt32):Qv (Bv c (GI.toZ (1:UInt64)).toNat) (Bg (3988292384:UInt32) (Dr c (1:UInt32)))=UInt32.ofNat (eE c.toNat):=by
 apply UInt32.toNat_inj.1;have e:(GI.toZ (1:UInt64)).toNat=1:=rfl;have h1:(Bv c 1).toNat=c.toNat/2:=by rw[HP]
 have h2:(Bg (3988292384:UInt32) (Dr c (1:UInt32))).toNat=if c.toNat %2=1 then 3988292384 else 0:=by
  rw[Ant,yN,UInt32.toNat_mul,UInt32.toNat_and]
  show 3988292384*(c.toNat&&&1) %4294967296=_;rw[Nat.and_one_is_mod];have:c.toNat %2=0\/c.toNat %2=1:=F0
  rcases this with h|h<;>simp[h]
 rw[e,UN,Bam,h1,h2,Aj6,Abo (E5 c.toNat_lt)];rfl
theorem ou(Lh:Int->LU->Option (UInt32×Int))(s:UInt32)(b:LB)(x:Int)(t:LU):∀(j i q:Nat) (c:UInt32),i+j=8->j<q->
  Oj Lh s b x t q c (i:Int)=BP Lh s b x (UInt32.ofNat (Wd j c.toNat)) t
 |0,i,q+1,c,hi,_=>by
  obtain rfl:i=8:=F0
  rw[Oj,BC,Abc Bbi,Wd,UInt32.ofNat_toNat]
 |j+1,i,q+1,c,hi,hq=>by
  rw[Oj,BC,Abe Ba6,Arr,Ag,show((i:Int)+1)=((i+1:Nat):Int) by omega,ou Lh s b x t j (i+1) q _ F0 F0,Aj6,Abo (E5 c.toNat_lt)];rfl
def tbl(n:Nat):LU:=(List.range n).map λi=>UInt32.ofNat (Wd 8 i)
theorem Agz(s:UInt32)(b:LB):∀(j i q:Nat),i+j=256->j<q->Ll s b q (i:Int) (tbl i++List.replicate j 0)=OZ s b (tbl 256)
 |0,i,q+1,hi,_=>by
  obtain rfl:i=256:=F0
  rw[Ll,DE,Abc Bbi];simp
 |j+1,i,q+1,hi,hq=>by
  have hlen:(tbl i++List.replicate (j+1) 0).length=i+(j+1):=by simp[tbl]
  rw[Ll,DE,Abe Ba6,NP];have h:=ou (Ll s b q) s b (i:Int) (tbl i++List.replicate (j+1) 0) 8 0 Aq (Ad (i:Int)) F0 Ba7;rw[show((0:Int))=((0:Nat):Int)from rfl,h,BP,eP,Ci (by rw[hlen];omega),Aa,Qr _ (by rw[hlen];omega),Aa,gB,dE,Ag];have e:(Ad (i:Int):UInt32).toNat=i:=by rw[Q2,Aj6,Abo F0]
  rw[e,Axk,WY (by simp[tbl])];have h2:=Agz s b j (i+1) q F0 F0;have h3:tbl (i+1)=tbl i++[UInt32.ofNat (Wd 8 i)]:=by simp[tbl,List.range_succ]
  rw[h3]at h2;rw[show((i:Int)+1)=((i+1:Nat):Int) by omega,<-h2];simp
theorem Aqf{i:Nat}(h:i<256):Ak (tbl 256) (i:Int)=some (UInt32.ofNat (Wd 8 i)):=by
 rw[Ci (by simpa [tbl]using h)];simp[tbl]
theorem Aoe(s:UInt32)(c:UInt8):Ak (tbl 256) (GI.toZ (Qv (Ad s:UInt8) c))=some (UInt32.ofNat (Wd 8 ((s.toNat %256)^^^c.toNat))):=by
 have e:GI.toZ (Qv (Ad s:UInt8) c)=(((s.toNat %256)^^^c.toNat:Nat):Int):=by
  rw[Yz,Aew,UInt8.toNat_xor,mC,Aoq]
 rw[e,Aqf];exact Awu (n:=8) Ba5 (by simpa using c.toNat_lt)
theorem Air(s:UInt32)(c:UInt8):Qv (Bv s (GI.toZ (8:UInt64)).toNat) (UInt32.ofNat (Wd 8 ((s.toNat %256)^^^c.toNat)))=UInt32.ofNat (uA s.toNat c.toNat):=by
 apply UInt32.toNat_inj.1;have hlt:Wd 8 ((s.toNat %256)^^^c.toNat)<4294967296:=xE 8 (Awu (n:=32) Ba5 (by have:=c.toNat_lt;simp;omega));have e:(GI.toZ (8:UInt64)).toNat=8:=rfl;rw[e,UN,Bam,HP,Aj6,Aj6,Abo hlt,Abo (wZ s.toNat_lt c.toNat_lt),xg c.toNat_lt]
theorem Aaj(b:LB)(hb:b.length<4611686018427387904):∀(j i q:Nat) (s:UInt32),i+j=b.length->j<q->Pb b (tbl 256) q s (i:Int)=some (UInt32.ofNat (Ah6 s.toNat (b.drop i)),0)
 |0,i,q+1,s,hi,_=>by
  rw[Pb,DC,Abc F2,show i=b.length by omega,Ayb];simp[OI,dV,Ah6]
 |j+1,i,q+1,s,hi,hq=>by
  have hlt:i<b.length:=F0
  rw[Pb,DC,Abe F2,Ci hlt,Aa,Aoe,Aa,Aa,Air,Ag];have h:=Aaj b hb j (i+1) q (UInt32.ofNat (uA s.toNat b[i].toNat)) F0 F0;rw[show((i:Int)+1)=((i+1:Nat):Int) by omega,h,drop_cons hlt,Aj6,Abo (wZ s.toNat_lt b[i].toNat_lt)];rfl
theorem Apn(s:UInt32)(b:LB)(hb:b.length<=100000):ZP s b=some (UInt32.ofNat (Ah6 s.toNat b),0):=by
 have h:=Agz s b 256 0 Aq F0 Ba7;have h2:=Aaj b F0 b.length 0 Aq s F0 Ba7;rw[ZP,TK,Abc Ba8,dM];refine Axr h ?_;rw[OZ,OK,dX,OS,PF];exact h2
theorem All(a:UInt32):B6 a=4294967295-a:=by
 have h:=a.toNat_lt;have e:B6 a=UInt32.ofNat (BitVec.ofInt 32 4294967295^^^BitVec.ofInt 32 (a.toNat:Int)).toNat:=Ek _;apply UInt32.toNat_inj.1;rw[e,Aj6,UInt32.toNat_sub_of_le _ _ (by rw[UInt32.le_iff_toNat_le];show a.toNat<=4294967295;omega)];have h1:BitVec.ofInt 32 (a.toNat:Int)=a.toBitVec:=ig a;have h2:(BitVec.ofInt 32 4294967295:BitVec 32)=BitVec.allOnes 32:=F6
 rw[h1,h2,BitVec.allOnes_xor,BitVec.toNat_not];show(4294967296-1-a.toNat) %4294967296=4294967295-a.toNat;omega
theorem rV(b:LB)(hb:b.length<=100000):Vm b=some (Dn b,0):=by
 rw[Vm,Apn _ _ hb,Aa];simp only[Ah,All];rfl
theorem Bbs{p:Prop}(h:p:=by simp[Ah,Af,Al];omega):p:=h
theorem Bbp{p:Prop}(h:p:=by simp[Ah,Af];omega):p:=h
end Go.Pl
namespace Go.Pl
open Go Go.Lv
theorem S3:∀{l m:LB},l.length=m.length->Ec l=Ec m->l=m
 |[],[],_,_=>rfl
 |x::l,y::m,h,e=>by
  simp only[Ec]at e;have hx:=x.toNat_lt;have hy:=y.toNat_lt;have h1:x=y:=UInt8.toNat_inj.1 F0;rw[h1,S3 (l:=l) (m:=m) (by simpa using h) F0]
theorem vR:∀(w n:Nat),Ec (Tk n w)=n %256^w
 |0,n=>by simp[Tk,Ec,Nat.mod_one]
 |w+1,n=>by
  rw[Tk,Ec,vR w (n/256),Aoq,show(256:Nat)^(w+1)=256*256^w by rw[Avm,Apd],Nat.mod_mul]
def Wa(b:LB):Int:=
 if b.length<5 then 24 else if 41254<b.length then 4 else if(Dn (b.take (b.length-4))).toNat≠Ec (b.drop (b.length-4))then 22 else 0
theorem Aae(b:LB):CE b=some (if Wa b≠0 then([],Wa b)else(b.take (b.length-4),0)):=by
 rw[CE];by_cases h1:b.length<5
 ·have hS:Wa b=24:=by rw[Wa,Abe h1]
  rw[Abe F2,hS];rfl
 rw[Abc F2];by_cases h2:41254<b.length
 ·have hS:Wa b=4:=by rw[Wa,Abc h1,Abe h2]
  rw[Abe Ba8,hS];rfl
 have e4:Aj (Ac b) 4=((b.length-4:Nat):Int):=by rw[Ac,Bi];omega
 have hd:(b.drop (b.length-4)).length=4:=by simp;omega
 rw[Abc Ba8,e4,Ji,Aa,show((b.length-4:Nat):Int).toNat=b.length-4 from rfl,rV _ Ba5,Aa];simp only;rw[Abc Ba9,Ha,Aa,show((b.length-4:Nat):Int).toNat=b.length-4 from rfl,Aav _ F0 F0,Aa];have hne:Bo (kF (b.drop (b.length-4))) (Ad (Dn (b.take (b.length-4))):UInt64)=decide ((Dn (b.take (b.length-4))).toNat≠Ec (b.drop (b.length-4))):=by
  have hlt:=(Dn (b.take (b.length-4))).toNat_lt;rw[MN,Aoi];simp only[Baz,ne_eq,<-Az3,Ab6];rw[SP F0,Cp,Aig,Abo F0];exact⟨λh e=>h e.symm,λh e=>h e.symm⟩
 simp only;rw[hne,Aa];by_cases h3:(Dn (b.take (b.length-4))).toNat≠Ec (b.drop (b.length-4))
 ·have hS:Wa b=22:=by rw[Wa,Abc h1,Abc h2,Abe h3]
  rw[Abe (by simp[h3]),hS];rfl
 ·have hS:Wa b=0:=by rw[Wa,Abc h1,Abc h2,Abc h3]
  rw[Abc (by rw[Az0 h3];decide),hS];rfl
theorem Ai0(b:LB)(hb:b.length<=1000000):Wn b=some (b++Tk (Dn b).toNat 4):=by
 have h:∀k:Nat,(Ad (Bv (Dn b) k):UInt8)=UInt8.ofNat ((Dn b).toNat/2^k):=by
  intro k;rw[mC,HP]
 have h0:(Ad (Dn b):UInt8)=UInt8.ofNat (Dn b).toNat:=mC _;have h1:=h 8;have h2:=h 16;have h3:=h 24;rw[Wn,Aku b F0,Aa,Ct Ba5,Aa,Ct Ba5,Aa,h0,show(GI.toZ (8:UInt64)).toNat=8 from rfl,show(GI.toZ (16:UInt64)).toNat=16 from rfl,show(GI.toZ (24:UInt64)).toNat=24 from rfl,h1,h2,h3];simp only[Tk,Aym,Av0]
theorem xZ(b:LB):Nw b=some (Wa b):=by
 rw[Nw];by_cases h1:b.length<5
 ·rw[Abe F2,Wa,Abe h1]
 rw[Abc F2];by_cases h2:41254<b.length
 ·rw[Abe Ba8,Wa,Abc h1,Abe h2]
 have e4:Aj (Ac b) 4=((b.length-4:Nat):Int):=by rw[Ac,Bi];omega
 have hd:(b.drop (b.length-4)).length=4:=by simp;omega
 rw[Abc Ba8,e4,Ji,Aa,show((b.length-4:Nat):Int).toNat=b.length-4 from rfl,Ai0 _ Ba5,Aa];have hlt:=(Dn (b.take (b.length-4))).toNat_lt;have hiff:(b.take (b.length-4)++Tk (Dn (b.take (b.length-4))).toNat 4 !=b)=decide ((Dn (b.take (b.length-4))).toNat≠Ec (b.drop (b.length-4))):=by
  rw[Aoi];simp only[Baz,ne_eq,Ab6];constructor
  ·intro h e;apply h;have:Tk (Dn (b.take (b.length-4))).toNat 4=b.drop (b.length-4):=S3 (by rw[Dk,hd]) (by rw[vR,Abo F0,e]);rw[this,Axj]
  ·intro h e;apply h;have hx:Tk (Dn (b.take (b.length-4))).toNat 4=b.drop (b.length-4):=by
    have e2:b.take (b.length-4)++Tk (Dn (b.take (b.length-4))).toNat 4=b.take (b.length-4)++b.drop (b.length-4):=by rw[e,Axj]
    exact List.append_cancel_left e2
   rw[<-hx,vR,Abo F0]
 rw[hiff];by_cases h3:(Dn (b.take (b.length-4))).toNat≠Ec (b.drop (b.length-4))
 ·rw[Abe (by simp[h3]),Wa,Abc h1,Abc h2,Abe h3]
 ·rw[Abc (by rw[Az0 h3];decide),Wa,Abc h1,Abc h2,Abc h3]
theorem Abd{b:LB}(h:Wa b=0):5<=b.length/\b.length<=41254:=by
 unfold Wa at h;split at h
 ·simp at h
 ·split at h
  ·simp at h
  ·omega
theorem vE{c:Nat}(h1:1<=c)(h6:c<=6):Ca (4000:Int) (c:Int)=((4000/c:Nat):Int):=by
 have:c=1\/c=2\/c=3\/c=4\/c=5\/c=6:=F0
 rcases this with rfl|rfl|rfl|rfl|rfl|rfl<;>rfl
theorem Ao9(p:LB)(h:p.length<=41250):okB p (8*p.length):=⟨F0,F0,λk h1 h2=>by omega⟩
theorem uy{bits:Int}{ch n:Nat}{t:LX}(b:LB)(hb:Ch bits)(ht:t.length=16)(h1:1<=ch)(h6:ch<=6)(n1:1<=n)(n2:n<=4000/ch):
  ∃l e,Tt (ch:Int) bits t (n:Int) b=some (l,e)/\El (ch:Int) bits t (n:Int) b=some (l,e)/\ (e=0->Ap bits l=some 0/\l.length<=4000/\l.length=n*ch)/\ (e≠0->l=[]):=by
 have hn:n*ch<=4000:=by
  have:=Ab7 ch n2;have h2:=Axz 4000 ch;omega
 have hq4:=vE h1 h6;generalize 4000/ch=mm at*
 have hck:Fo (ch:Int) bits=some 0:=by
  have hr:∃x y,Py bits=some (x,y,0):=⟨_,_,U1 hb⟩;obtain⟨x,y,hr⟩:=hr;rw[Fo,hr,Aa];simp only;rw[Abc Bbs]
 have hh:=NY bits;have Aeg:Cr (ch:Int) bits (n:Int)=some 0:=by
  rw[Cr,Cf,Abc Bbe,RU hb,Aa,Abc Bbd,Aa,Abc Bbp,Bf Bbc,Aa,hq4,Abc Bbb]
 rw[Tt,El,Rc,hck,Aeg,Aa,Aa,Abc Ba9,Abc Ba6,Bf Bbc,Aa,hq4,Abc Bbb,Abc Ba9,Aae,xZ];by_cases hs:Wa b≠0
 ·rw[Abe hs];simp only[Aa];rw[Abe (by rw[Ah];simpa using hs),Abe (by rw[Ah];simpa using hs)];exact⟨[],Wa b,rfl,rfl,λe=>absurd e hs,λ_=>rfl⟩
 have hs0:Wa b=0:=by simpa using hs
 have hlen:=Abd hs0;have e4:Aj (Ac b) 4=((b.length-4:Nat):Int):=by rw[Ac,Bi];omega
 rw[Abc hs,hs0];simp only[Aa];rw[Abc Ba9,Abc Ba9,e4,Ji,Aa,show((b.length-4:Nat):Int).toNat=b.length-4 from rfl];have hpl:(b.take (b.length-4)).length=b.length-4:=by simp
 generalize b.take (b.length-4)=p at*
 have e8:Bg (8:Int) (Ac p)=((8*p.length:Nat):Int):=by rw[Ac,Gp];omega
 have hp:=Ao9 p F0;have hv:=values_eq hp h1 h6 hn;have hr:=Afr (N:=8*p.length) (p:=p) rfl F0 h1 h6 hn;have hat:=vJ (ch:=ch) (p:=p) (N:=8*p.length) (n*ch) 0 [] F0;rw[iy,Abc Ba8,Eb,Ct Ba5,Aa,Aa,Aa,Av0,e8];simp only;rw[Abc Ba9,hv,hr,Aa,Aa];generalize Vx ch p (8*p.length) (n*ch) 0 []=V at*
 obtain⟨v,at',e⟩:=V;simp only at*
 by_cases he:e≠0
 ·rw[Abe he,Abe he];simp only;rw[Abe (by rw[Ah];simpa using he),Fs,Fv,Abe (by rw[Ah];simpa using he)];exact⟨[],e,rfl,rfl,λh=>absurd h he,λ_=>rfl⟩
 have he0:e=0:=by simpa using he
 have hvl:=hat.2.2 he0;simp only[List.length_nil,Avs]at hvl;rw[Abc he,Abc he];simp only;rw[Abc Ba9,Bi,show((8*p.length:Nat):Int)-(at':Int)=((8*p.length-at':Nat):Int) by omega,Fs,Fv];by_cases h7:7<8*p.length-at'
 ·have hE:(if 7<8*p.length-at'\/Bc p at' (8*p.length-at')≠0 then(12:Int)else 0)=12:=Abe (.inl h7);rw[Abe Bbf,hE,Abe F6];exact⟨[],12,rfl,rfl,λh=>absurd h F6,λ_=>rfl⟩
 rw[Abc Bbf,sY hp at' _ F0,Abc F0,Aa];have hz:Bo (Mi p at' (8*p.length-at')) (0:UInt64)=decide (Bc p at' (8*p.length-at')≠0):=by
  rw[MN,Aoi];simp only[Baz,ne_eq,<-Az3,Ab6];rw[Va p _ _ F0];rfl
 simp only;rw[hz];by_cases hv0:Bc p at' (8*p.length-at')≠0
 ·have hE:(if 7<8*p.length-at'\/Bc p at' (8*p.length-at')≠0 then(12:Int)else 0)=12:=Abe (.inr hv0);rw[Abe (by simp[hv0]),hE,Abe F6];exact⟨[],12,rfl,rfl,λh=>absurd h F6,λ_=>rfl⟩
 have hm:v.length %ch=0:=by rw[hvl];exact Ayp n ch
 obtain⟨l,e,g1,g2,g3,g4,g5⟩:=X8 (v:=v) hb ht h1 h6 F0 hm;have hE:(if 7<8*p.length-at'\/Bc p at' (8*p.length-at')≠0 then(12:Int)else 0)=0:=Abc F0;rw[Abc (by rw[Az0 hv0];decide),hE,Abc F6,g1,g3,Aa,Aa,g2];by_cases hl:e≠0
 ·rw[Abe hl];exact⟨[],e,rfl,rfl,λh=>absurd h hl,λ_=>rfl⟩
 ·rw[Abc hl];have hl0:e=0:=by simpa using hl
  exact⟨l,0,rfl,rfl,λ_=>⟨by rw[g4,hl0],F0,F0⟩,λe=>absurd rfl e⟩
theorem qb(a b:Int32):a-(a-b)=b:=by
 apply Int32.toBitVec_inj.1;simp only[Int32.toBitVec_sub];apply Ayt;simp only[BitVec.toNat_sub];have:=a.toBitVec.isLt;have:=b.toBitVec.isLt;omega
theorem fN(a b:Int32):a-b+b=a:=by
 apply Int32.toBitVec_inj.1;simp only[Int32.toBitVec_sub,Int32.toBitVec_add];apply Ayt;simp only[BitVec.toNat_sub,BitVec.toNat_add];have:=a.toBitVec.isLt;have:=b.toBitVec.isLt;omega
def mxV(f:Nat->Int32)(ch i:Nat):Int32:=if i+1<ch then f (i+1)-f i else if 1<ch then f (ch-1)-Ca (f (ch-1)-f (ch-2)) (2:Int32)else f (ch-1)
def mx(ch:Nat)(x:LX):LX:=(List.range x.length).map λk=>mxV (λi=>x.getD (k-k %ch+i) 0) ch (k %ch)
theorem XH(ch:Nat)(x:LX):(mx ch x).length=x.length:=by simp[mx]
theorem Alc{ch:Nat}{x:LX}{k:Nat}(h:k<x.length):(mx ch x).getD k 0=mxV (λi=>x.getD (k-k %ch+i) 0) ch (k %ch):=by
 rw[Jf (by rw[XH];exact h)];simp[mx]
def aV(x:Int32):UInt32:=UInt32.ofNat (if 0<=x.toInt then 2*x.toInt.toNat else 2*(-x.toInt-1).toNat+1)
theorem Aun(x:Int32):HL (aV x)=x:=by
 have h:=Wy x;have e:(aV x).toNat=if 0<=x.toInt then 2*x.toInt.toNat else 2*(-x.toInt-1).toNat+1:=by
  rw[aV,Aj6];split<;>exact Abo F0
 rw[HL,e];by_cases h0:0<=x.toInt
 ·rw[Abe h0,Abe F0,show((2*x.toInt.toNat/2:Nat):Int)=x.toInt by omega,Awc]
 ·rw[Abc h0,Abc F0,show -(((2*(-x.toInt-1).toNat+1)/2:Nat):Int)-1=x.toInt by omega,Awc]
theorem M2{α:Type}(ch c:Nat)(f g:α->Nat->α)(a0:α):∀m:Nat,(∀i,i<m->∀a,f a i=g a i)->pre ch c f a0 m=pre ch c g a0 m
 |0,_=>rfl
 |m+1,h=>by
  rw[pre,pre,M2 ch c f g a0 m λi hi=>h i F0,h m F0]
theorem Afz(bits:Int)(ch:Nat)(t:LX)(v w:LU)(c i:Nat)(h:i<=v.length):cst bits ch t (v++w) c i=cst bits ch t v c i:=by
 unfold cst;apply M2;intro j hj a;have:(v++w).getD j 0=v.getD j 0:=by
  rw[List.getD_eq_getElem?_getD,List.getD_eq_getElem?_getD,List.getElem?_append_left F0]
 rw[this]
def uY(bits:Int)(s:CS)(x:Int32):Int32:=x-gs (shB bits) s.1-gF (sB bits) s.2.1 s.2.2
theorem Ah4(bits:Int)(s:CS)(x:Int32):wH bits s (uY bits s x)=x:=by
 rw[wH,uY,fN,fN]
def evl(bits:Int)(ch:Nat)(t m:LX):Nat->LU
 |0=>[]
 |i+1=>evl bits ch t m i++[aV (uY bits (cst bits ch t (evl bits ch t m i) (i %ch) i) (m.getD i 0))]
theorem iw(bits:Int)(ch:Nat)(t m:LX):∀i,(evl bits ch t m i).length=i
 |0=>rfl
 |i+1=>by rw[evl,Ab0,iw bits ch t m i];rfl
theorem Agu(bits:Int)(ch:Nat)(t m:LX):∀(j i:Nat),∃w,evl bits ch t m (i+j)=evl bits ch t m i++w
 |0,i=>⟨[],Bba⟩
 |j+1,i=>by
  obtain⟨w,hw⟩:=Agu bits ch t m j i;rw[<-Avp,evl,hw];exact⟨_,Apj _ _ _⟩
theorem Bbv{p:Prop}(h:p:=by rw[Ab0];omega):p:=h
end Go.Pl
namespace Go.Pl
open Go Go.Lv
variable{c d:List Bool}{a k s:Nat}
def tb(l:List Bool)(k:Nat):Nat:=if l.getD k false=true then 1 else 0
theorem S1(b:Bool)(l:List Bool):tb (b::l) 0=if b=true then 1 else 0:=rfl
theorem X3(b:Bool)(l:List Bool)(k:Nat):tb (b::l) (k+1)=tb l k:=by simp[tb]
theorem Afp{a b:List Bool}(h:k<a.length):tb (a++b) k=tb a k:=by
 rw[tb,tb,List.getD_eq_getElem?_getD,List.getD_eq_getElem?_getD,List.getElem?_append_left h]
theorem T6(a b:List Bool)(k:Nat):tb (a++b) (a.length+k)=tb b k:=by
 rw[tb,tb,List.getD_eq_getElem?_getD,List.getD_eq_getElem?_getD,List.getElem?_append_right F0,Ayd]
theorem Z2{l:List Bool}(h:l.length<=k):tb l k=0:=by
 rw[tb,List.getD_eq_getElem?_getD,List.getElem?_eq_none h];rfl
def At(p:LB)(a:Nat)(c:List Bool):Prop:=∀i,i<c.length->Ed p (a+i)=tb c i
theorem At.left{p:LB}(h:At p a (c++d)):At p a c:=λi hi=>by
 rw[h i Bbv,Afp hi]
theorem At.right{p:LB}(h:At p a (c++d)):At p (a+c.length) d:=λi hi=>by
 rw[Avp,h (c.length+i) Bbv,T6]
theorem At.cons{p:LB}{b:Bool}(h:At p a (b::c)):Ed p a=(if b=true then 1 else 0)/\At p (a+1) c:=by
 have h0:=h 0 Bba;rw[Axs,S1]at h0;refine⟨h0,λi hi=>?_⟩;have:=h (i+1) Ba5;rw[X3]at this;rw[show a+1+i=a+(i+1) by omega,this]
def RM:Nat->Nat->List Bool
 |_,0=>[]
 |v,n+1=>decide (v %2=1)::RM (v/2) n
theorem Og:∀(v n:Nat),(RM v n).length=n
 |_,0=>rfl
 |v,n+1=>by rw[RM,Aj4,Og (v/2) n]
theorem iH(p:LB):∀(n a v:Nat),At p a (RM v n)->Bc p a n=v %2^n
 |0,a,v,_=>by rw[Bc,Nat.pow_zero,Nat.mod_one]
 |n+1,a,v,h=>by
  rw[RM]at h;obtain⟨h0,h1⟩:=h.cons;rw[Bc,h0,iH p n (a+1) (v/2) h1,Avm,Apd (2^n) 2,Nat.mod_mul];have:=Nat.mod_two_eq_zero_or_one v;rcases this with e|e<;>simp[e]
def UX(l v:Nat):List Bool:=if 48<=v/2^l then List.replicate 48 true++RM v 32 else List.replicate (v/2^l) true++(false::RM (v %2^l) l)
theorem Ai3{l v:Nat}(hl:l<=24):1<= (UX l v).length/\ (UX l v).length<=80:=by
 rw[UX];generalize v/2^l=q;split
 ·rw[Ab0,Asw,Og];omega
 ·rw[Ab0,Asw,Aj4,Og];omega
def Tn(k l:Nat)(v:UInt32):List Bool:=if v.toNat<2^k then false::RM v.toNat k else true::UX l (v.toNat-2^k)
theorem iD{l:Nat}(v:UInt32)(hk:k<=24)(hl:l<=24):1<= (Tn k l v).length/\ (Tn k l v).length<=81:=by
 have:=Ai3 (v:=v.toNat-2^k) hl;rw[Tn];split
 ·rw[Aj4,Og];omega
 ·rw[Aj4];omega
def bv:List Bool->Nat
 |[]=>0
 |b::r=>(if b=true then 1 else 0)+2*bv r
theorem Atd:∀l:List Bool,bv l<2^l.length
 |[]=>by decide
 |b::r=>by
  have:=Atd r;rw[bv,Aj4,Avm];split<;>omega
theorem Amm:∀(l:List Bool) (k:Nat),bv l/2^k %2=tb l k
 |[],k=>by simp[bv,tb]
 |b::r,0=>by
  rw[bv,S1,Nat.pow_zero,Nat.div_one];split<;>omega
 |b::r,k+1=>by
  have:((if b=true then 1 else 0)+2*bv r)/2=bv r:=by split<;>omega
  rw[bv,X3,Avm,Apd (2^k) 2,<-Aym,this,Amm r k]
def Jr(c:List Bool):LB:=(List.range ((c.length+7)/8)).map λj=>UInt8.ofNat (bv ((c.drop (8*j)).take 8))
theorem Vl(c:List Bool):(Jr c).length=(c.length+7)/8:=by simp[Jr]
theorem FM(c:List Bool)(i:Nat):Ed (Jr c) i=tb c i:=by
 rw[Ed];by_cases h:i/8<(c.length+7)/8
 ·have hg:(Jr c).getD (i/8) 0=UInt8.ofNat (bv ((c.drop (8*(i/8))).take 8)):=by
   rw[List.getD_eq_getElem?_getD,List.getElem?_eq_getElem (by rw[Vl];exact h)];simp[Jr]
  have hlt:=Atd ((c.drop (8*(i/8))).take 8);have hl8:((c.drop (8*(i/8))).take 8).length<=8:=by rw[Afi];omega
  have hp:=Adr (show 0<2 by omega) hl8;have hn:(UInt8.ofNat (bv ((c.drop (8*(i/8))).take 8))).toNat=bv ((c.drop (8*(i/8))).take 8):=by
   rw[Aoq];exact Abo F0
  rw[hg,hn,Amm,tb,tb];have:((c.drop (8*(i/8))).take 8).getD (i %8) false=c.getD i false:=by
   rw[List.getD_eq_getElem?_getD,List.getD_eq_getElem?_getD,List.getElem?_take,Abe F0,List.getElem?_drop,show 8*(i/8)+i %8=i by omega]
  rw[this]
 ·have hg:(Jr c).getD (i/8) 0=0:=by
   rw[List.getD_eq_getElem?_getD,List.getElem?_eq_none (by rw[Vl];omega)];rfl
  rw[hg,Z2 F0];simp
def Tr(ch:Nat)(V:LU):Nat->List Bool
 |0=>[]
 |i+1=>Tr ch V i++Tn (now ch (V.take i)).1 (now ch (V.take i)).2.1 (V.getD i 0)
theorem S0(ch:Nat)(v:LU):(now ch v).1<=24/\ (now ch v).2.1<=24:=by
 have:=eS ch v (v.length %ch) v.length;exact⟨this.1,this.2.1⟩
theorem cU(ch:Nat)(V:LU):∀i,(Tr ch V i).length<=81*i
 |0=>by simp[Tr]
 |i+1=>by
  have h:=S0 ch (V.take i);have:=iD (V.getD i 0) h.1 h.2;rw[Tr,Ab0];have:=cU ch V i;omega
def P64:Nat:=4823603603198064275
def KS(s:Nat):Nat:=(2*s %18446744073709551616)^^^ (s/9223372036854775808*P64)
theorem WJ(h:s<18446744073709551616):KS s<18446744073709551616:=by
 have h1:s/9223372036854775808=0\/s/9223372036854775808=1:=F0
 exact Awu (n:=64) (Ax5 _ F6) (by rcases h1 with e|e<;>rw[e]<;>decide)
theorem Ag3(x y:Nat):(x^^^y)/9223372036854775808=(x/9223372036854775808)^^^ (y/9223372036854775808):=by
 have:=Nat.shiftRight_xor_distrib (a:=x) (b:=y) (i:=63);simpa [Nat.shiftRight_eq_div_pow]using this
theorem Afw(x y:Nat):2*(x^^^y) %18446744073709551616=(2*x %18446744073709551616)^^^ (2*y %18446744073709551616):=by
 have h1:=Nat.shiftLeft_xor_distrib (a:=x) (b:=y) (i:=1);have h2:=Nat.xor_mod_two_pow (a:=2*x) (b:=2*y) (n:=64);have e:2*(x^^^y)=(2*x)^^^ (2*y):=by simpa [Nat.shiftLeft_eq,Apd]using h1
 rw[e];exact h2
theorem Aqo{b:Nat}(ha:a=0\/a=1)(hb:b=0\/b=1)(p:Nat):(a^^^b)*p=(a*p)^^^ (b*p):=by
 rcases ha with rfl|rfl<;>rcases hb with rfl|rfl<;>simp
theorem Ayi(a b c d:Nat):(a^^^b)^^^ (c^^^d)=(a^^^c)^^^ (b^^^d):=by
 rw[Ax7,Ax7,<-Ax7 b c d,Ba0 b c,Ax7 c b d]
theorem Ac1{x y:Nat}(hx:x<18446744073709551616)(hy:y<18446744073709551616):KS (x^^^y)=KS x^^^KS y:=by
 rw[KS,KS,KS,Afw,Ag3,Aqo F0 F0,Ayi]
def Mn:Nat->Nat->Nat
 |0,s=>s
 |k+1,s=>Mn k (KS s)
theorem rA:∀(k:Nat) {s:Nat},s<18446744073709551616->Mn k s<18446744073709551616
 |0,_,h=>h
 |k+1,_,h=>rA k (WJ h)
theorem zI:∀(k:Nat) {x y:Nat},x<18446744073709551616->y<18446744073709551616->Mn k (x^^^y)=Mn k x^^^Mn k y
 |0,_,_,_,_=>rfl
 |k+1,x,y,hx,hy=>by rw[Mn,Ac1 hx hy,zI k (WJ hx) (WJ hy)];rfl
theorem wI:∀(k h:Nat),2^k*h<18446744073709551616->Mn k h=2^k*h
 |0,h,_=>by simp[Mn]
 |k+1,h,hl=>by
  have hpos:0<2^k:=Ayf F0;rw[Avm,Azy]at hl;have h2:2*h<18446744073709551616:=Ax6 (Nat.le_mul_of_pos_left _ hpos) hl;have:KS h=2*h:=by rw[KS,Abo h2,show h/9223372036854775808=0 by omega];simp
  rw[Mn,this,wI k _ hl,Avm,Azy]
def fY(s c:Nat):Nat:=Mn 8 (s^^^ (c*72057594037927936))
theorem c56{c:Nat}(hc:c<256):c*72057594037927936<18446744073709551616:=F0
theorem sG{c:Nat}(h:s<18446744073709551616)(hc:c<256):fY s c<18446744073709551616:=rA 8 (Awu (n:=64) h (c56 hc))
theorem Aqb(s:Nat):s=(s/72057594037927936*72057594037927936)^^^ (s %72057594037927936):=by
 have h1:s %72057594037927936<2^56:=Ax5 _ F6;have:=Aw3 h1 (s/72057594037927936);have h2:2^56*(s/72057594037927936)|||s %72057594037927936=(2^56*(s/72057594037927936))^^^ (s %72057594037927936):=by
  apply Nat.eq_of_testBit_eq;intro i;rw[Nat.testBit_or,Nat.testBit_xor];by_cases hi:i<56
  ·have:(2^56*(s/72057594037927936)).testBit i=false:=by rw[Nat.testBit_two_pow_mul];simp;omega
   rw[this];simp
  ·have:(s %72057594037927936).testBit i=false:=Nat.testBit_lt_two_pow (Aj7 h1 (Adr F0 F0));rw[this];simp
 rw[Apd (s/72057594037927936)]
 show s=(2^56*(s/72057594037927936))^^^ _;rw[<-h2,<-this];have:=Bai s 72057594037927936
 show s=72057594037927936*_+_;omega
theorem Ahv(a c:Nat):(a^^^c)*72057594037927936=(a*72057594037927936)^^^ (c*72057594037927936):=by
 have h1:=Nat.shiftLeft_xor_distrib (a:=a) (b:=c) (i:=56);simpa [Nat.shiftLeft_eq]using h1
theorem U0{c:Nat}(h:s<18446744073709551616)(hc:c<256):fY s c=(256*s %18446744073709551616)^^^Mn 8 (((s/72057594037927936)^^^c)*72057594037927936):=by
 have hs:s/72057594037927936<2^8:=by show _<256;omega
 have hx:(s/72057594037927936)^^^c<256:=Awu (n:=8) hs (by simpa using hc);have hl:s %72057594037927936<72057594037927936:=Ax5 _ F6;rw[fY]
 conv=>lhs;rw[Aqb s]
 rw[Ba0 (s/72057594037927936*72057594037927936),Ax7,<-Ahv,zI 8 F0 (c56 hx),wI 8 _ (by show 256*_<_;omega)];congr 1
 show 256*(s %72057594037927936)=_;omega
def yJ(s:Nat)(l:LB):Nat:=l.foldl (λs c=>fY s c.toNat) s
theorem I6{n:Nat}(h:n<18446744073709551616):(UInt64.ofNat n).toNat=n:=by rw[Aig];exact Abo h
theorem Atp(s:UInt64)(bit:Nat)(hb:bit=0\/bit=1):DA s (bit:Int)=some (UInt64.ofNat ((2*s.toNat %18446744073709551616)^^^ (((s.toNat/9223372036854775808)^^^bit)*P64))):=by
 have hs:=s.toNat_lt;have ht:s.toNat/9223372036854775808=0\/s.toNat/9223372036854775808=1:=F0
 have e1:(Bg s (2:UInt64)).toNat=2*s.toNat %18446744073709551616:=by
  rw[IW,UInt64.toNat_mul];show s.toNat*2 %_=_;rw[Apd]
 have hlt:2*s.toNat %18446744073709551616<18446744073709551616:=Ax5 _ F6;have ey:Qv (Bg s (2:UInt64)) (4823603603198064275:UInt64)=UInt64.ofNat ((2*s.toNat %18446744073709551616)^^^P64):=by
  apply UInt64.toNat_inj.1;rw[wU,UInt64.toNat_xor,e1,I6 (Awu (n:=64) hlt F6)];rfl
 have en:Bg s (2:UInt64)=UInt64.ofNat (2*s.toNat %18446744073709551616):=by
  apply UInt64.toNat_inj.1;rw[e1,I6 hlt]
 have eg:Me s (9223372036854775808:UInt64)=decide (s.toNat/9223372036854775808=1):=by
  rw[Ao8,decide_eq_decide]
  show 9223372036854775808<=s.toNat↔_;omega
 have hp:∀b:Bool,Tv s b=some (if b=true then UInt64.ofNat ((2*s.toNat %18446744073709551616)^^^P64)else UInt64.ofNat (2*s.toNat %18446744073709551616)):=by
  intro b;rw[Tv,JM,ey,en];cases b<;>rfl
 rw[DA,IJ,hp,hp,eg];rcases hb with rfl|rfl<;>rcases ht with h|h<;>rw[h]<;>simp[Bb]
theorem uQ(c:UInt8):∀(j q:Nat) (s:UInt64),j<=8->j<q->Jm c q s ((2^j/2:Nat):Int)=some (UInt64.ofNat (Mn j (s.toNat^^^ (c.toNat %2^j*2^(64-j)))))
 |0,q+1,s,_,_=>by
  rw[Jm,Vi,Abc Bbk,HJ,JS];simp[Mn,Nat.mod_one]
 |j+1,q+1,s,hj,hq=>by
  have hc:=c.toNat_lt;have hs:=s.toNat_lt;have hj2:2^j<=2^7:=Adr F0 F0;have hpos:0<2^j:=Ayf F0;have e1:2^(j+1)/2=2^j:=by rw[Avm];omega
  have e2:Ca ((2^j:Nat):Int) 2=((2^j/2:Nat):Int):=by
   generalize 2^j=K at*
   rw[KI,Axh F0,Bs F0 F0];omega
  have e3:Ge (Ca (Ad c:Int) ((2^j:Nat):Int)) (2:Int)=((c.toNat/2^j %2:Nat):Int):=by
   have hX:=Auo c.toNat (2^j);rw[NC,KI,<-Int.ofNat_tdiv];generalize c.toNat/2^j=X at*
   rw[Bs F0 F0,Ge,Azi F0];omega
  have hbit:c.toNat/2^j %2=0\/c.toNat/2^j %2=1:=F0
  rw[Jm,Vi,e1,Abe (by rw[Al,Ab6];omega),Bf (by rw[Ah,Baz];omega),Aa,e3,Atp s _ hbit,Aa,e2,uQ c j q _ F0 F0];congr 2;rw[Mn];congr 1;have hx:c.toNat %2^(j+1)*2^(64-(j+1))=(c.toNat/2^j %2)*9223372036854775808+c.toNat %2^j*2^(63-j):=by
   have h63:(9223372036854775808:Nat)=2^j*2^(63-j):=by rw[<-Bal,show j+(63-j)=63 by omega]
   rw[Nat.mod_pow_succ,h63,show 64-(j+1)=63-j by omega,Auj,Azz,Azy,Nat.mul_left_comm]
  have hr:c.toNat %2^j<2^j:=Ax5 _ hpos;have Bck:c.toNat %2^j*2^(63-j)<9223372036854775808:=by
   have h63:(9223372036854775808:Nat)=2^j*2^(63-j):=by rw[<-Bal,show j+(63-j)=63 by omega]
   rw[h63];exact Nat.mul_lt_mul_of_pos_right hr (Ayf F0)
  have h64:c.toNat %2^j*2^(64-j)=2*(c.toNat %2^j*2^(63-j)):=by
   rw[show 64-j=(63-j)+1 by omega,Avm,<-Azy,Apd]
  rw[hx,h64];generalize c.toNat %2^j*2^(63-j)=R at*
  generalize c.toNat/2^j %2=b at*
  have ht:s.toNat/9223372036854775808=0\/s.toNat/9223372036854775808=1:=F0
  have hp:((s.toNat/9223372036854775808^^^b)*P64)<18446744073709551616:=by
   rcases ht with h|h<;>rcases hbit with h2|h2<;>rw[h,h2]<;>decide
  rw[I6 (Awu (n:=64) (Ax5 _ F6) hp),KS,Afw,Ag3,show(b*9223372036854775808+R)/9223372036854775808=b by omega,show 2*(b*9223372036854775808+R) %18446744073709551616=2*R by omega,Ax7,Ax7,Ba0 (2*R)]
theorem Atw(c:UInt8)(s:UInt64):RJ s c=some (UInt64.ofNat (fY s.toNat c.toNat)):=by
 have h:=uQ c 8 Aq s (Aiw _) Ba7;have hc:=c.toNat_lt;rw[Abo (show c.toNat<2^8 by simpa using hc)]at h;exact h
theorem kO(b:LB)(hb:b.length<4611686018427387904):∀(j i q:Nat) (s:UInt64),i+j=b.length->j<q->Hn b q s (i:Int)=some (UInt64.ofNat (yJ s.toNat (b.drop i)))
 |0,i,q+1,s,hi,_=>by
  rw[Hn,Qn,Abc F2,show i=b.length by omega,Ayb];simp[CN,CP,yJ]
 |j+1,i,q+1,s,hi,hq=>by
  have hlt:i<b.length:=F0
  have hc:=b[i].toNat_lt;rw[Hn,Qn,Abe F2,Ci hlt,Aa,Atw,Aa,Ag];have h:=kO b hb j (i+1) q (UInt64.ofNat (fY s.toNat b[i].toNat)) F0 F0;rw[show((i:Int)+1)=((i+1:Nat):Int) by omega,h,drop_cons hlt,I6 (sG s.toNat_lt (by simpa using hc))];rfl
def Zf(b:LB):UInt64:=UInt64.ofNat (yJ 0 b)
theorem Aai(b:LB)(hb:b.length<=100000):Wk 0 b=some (Zf b):=
 kO b F0 b.length 0 Aq 0 F0 Ba7
theorem Ac4(c:UInt64):Qv (Cy c (GI.toZ (1:UInt64)).toNat) (Bg (4823603603198064275:UInt64) (Bv c (GI.toZ (63:UInt64)).toNat))=UInt64.ofNat (KS c.toNat):=by
 have hc:=c.toNat_lt;apply UInt64.toNat_inj.1;have h1:(Cy c (GI.toZ (1:UInt64)).toNat).toNat=2*c.toNat %18446744073709551616:=by
  rw[show(GI.toZ (1:UInt64)).toNat=1 from rfl,QX,Apd]
 have h2:(Bg (4823603603198064275:UInt64) (Bv c (GI.toZ (63:UInt64)).toNat)).toNat=c.toNat/9223372036854775808*P64:=by
  rw[show(GI.toZ (63:UInt64)).toNat=63 from rfl,IW,UInt64.toNat_mul,DO]
  show 4823603603198064275*(c.toNat/9223372036854775808) %18446744073709551616=_;have h1:c.toNat/9223372036854775808=0\/c.toNat/9223372036854775808=1:=F0
  rcases h1 with e|e<;>rw[e]<;>decide
 rw[wU,UInt64.toNat_xor,h1,h2,I6 (WJ hc)];rfl
theorem tP(Lh:Int->LQ->Option (UInt64×Int))(s:UInt64)(b:LB)(x:Int)(t:LQ):∀(j i q:Nat) (c:UInt64),i+j=8->j<q->
  Pj Lh s b x t q c (i:Int)=BD Lh s b x (UInt64.ofNat (Mn j c.toNat)) t
 |0,i,q+1,c,hi,_=>by
  obtain rfl:i=8:=F0
  rw[Pj,AK,Abc Bbi,Mn,UInt64.ofNat_toNat]
 |j+1,i,q+1,c,hi,hq=>by
  rw[Pj,AK,Abe Ba6,Ac4,Ag,show((i:Int)+1)=((i+1:Nat):Int) by omega,tP Lh s b x t j (i+1) q _ F0 F0,I6 (WJ c.toNat_lt)];rfl
def SN(n:Nat):LQ:=(List.range n).map λi=>UInt64.ofNat (Mn 8 (i*72057594037927936))
theorem yS(s:UInt64)(b:LB):∀(j i q:Nat),i+j=256->j<q->Lu s b q (i:Int) (SN i++List.replicate j 0)=PJ s b (SN 256)
 |0,i,q+1,hi,_=>by
  obtain rfl:i=256:=F0
  rw[Lu,BU,Abc Bbi];simp
 |j+1,i,q+1,hi,hq=>by
  have hlen:(SN i++List.replicate (j+1) 0).length=i+(j+1):=by simp[SN]
  rw[Lu,BU,Abe Ba6,QQ];have h:=tP (Lu s b q) s b (i:Int) (SN i++List.replicate (j+1) 0) 8 0 Aq (Cy (Ad (i:Int):UInt64) (GI.toZ (56:UInt64)).toNat) F0 Ba7;rw[show((0:Int))=((0:Nat):Int)from rfl,h,BD,dG,Ci (by rw[hlen];omega),Aa,Qr _ (by rw[hlen];omega),Aa,dQ,cP,Ag];have e:(Cy (Ad (i:Int):UInt64) (GI.toZ (56:UInt64)).toNat).toNat=i*72057594037927936:=by
   rw[QX,Rv,I6 F0]
   show i*72057594037927936 %18446744073709551616=_;omega
  rw[e,Axk,WY (by simp[SN])];have h2:=yS s b j (i+1) q F0 F0;have h3:SN (i+1)=SN i++[UInt64.ofNat (Mn 8 (i*72057594037927936))]:=by simp[SN,List.range_succ]
  rw[h3]at h2;rw[show((i:Int)+1)=((i+1:Nat):Int) by omega,<-h2];simp
theorem Ai1{i:Nat}(h:i<256):Ak (SN 256) (i:Int)=some (UInt64.ofNat (Mn 8 (i*72057594037927936))):=by
 rw[Ci (by simpa [SN]using h)];simp[SN]
theorem Abs(s:UInt64)(c:UInt8):Ak (SN 256) (GI.toZ (Qv (Ad (Bv s (GI.toZ (56:UInt64)).toNat):UInt8) c))=some (UInt64.ofNat (Mn 8 (((s.toNat/72057594037927936)^^^c.toNat)*72057594037927936))):=by
 have hs:=s.toNat_lt;have e:GI.toZ (Qv (Ad (Bv s (GI.toZ (56:UInt64)).toNat):UInt8) c)=(((s.toNat/72057594037927936)^^^c.toNat:Nat):Int):=by
  have e2:((Ad (Bv s (GI.toZ (56:UInt64)).toNat):UInt8)).toNat=s.toNat/72057594037927936:=by
   rw[QE,Aoq,DO]
   show s.toNat/72057594037927936 %256=_;omega
  rw[Yz,Aew,UInt8.toNat_xor,e2]
 rw[e,Ai1];exact Awu (n:=8) (by show _<256;omega) (by simpa using c.toNat_lt)
theorem U3(s:UInt64)(c:UInt8):Qv (Cy s (GI.toZ (8:UInt64)).toNat) (UInt64.ofNat (Mn 8 (((s.toNat/72057594037927936)^^^c.toNat)*72057594037927936)))=UInt64.ofNat (fY s.toNat c.toNat):=by
 have hs:=s.toNat_lt;have hc:c.toNat<256:=by simpa using c.toNat_lt
 apply UInt64.toNat_inj.1;have hlt:Mn 8 (((s.toNat/72057594037927936)^^^c.toNat)*72057594037927936)<18446744073709551616:=rA 8 (c56 (Awu (n:=8) (by show _<256;omega) (by simpa using c.toNat_lt)));have e:(GI.toZ (8:UInt64)).toNat=8:=rfl;rw[e,wU,UInt64.toNat_xor,QX,I6 hlt,I6 (sG hs hc),U0 hs hc,Apd s.toNat]
theorem tR(b:LB)(s0:UInt64)(hb:b.length<4611686018427387904):∀(j i q:Nat) (s:UInt64),i+j=b.length->j<q->Ot b s0 (SN 256) q s (i:Int)=some (UInt64.ofNat (yJ s.toNat (b.drop i)),0)
 |0,i,q+1,s,hi,_=>by
  rw[Ot,BR,Abc F2,show i=b.length by omega,Ayb];simp[PO,cY,eW,eT,yJ]
 |j+1,i,q+1,s,hi,hq=>by
  have hlt:i<b.length:=F0
  have hc:=b[i].toNat_lt;rw[Ot,BR,Abe F2,Ci hlt,Aa,Abs,Aa,Aa,U3,Ag];have h:=tR b s0 hb j (i+1) q (UInt64.ofNat (fY s.toNat b[i].toNat)) F0 F0;rw[show((i:Int)+1)=((i+1:Nat):Int) by omega,h,drop_cons hlt,I6 (sG s.toNat_lt (by simpa using hc))];rfl
theorem Aar(b:LB)(hb:b.length<=100000):VC b=some (Zf b,0):=by
 have h:=yS 0 b 256 0 Aq F0 Ba7;have h2:=tR b 0 F0 b.length 0 Aq 0 F0 Ba7;have hn:ZA 0 b=some (Zf b,0):=by
  rw[ZA,TU,Abc Ba8,eF];refine Axr h ?_;rw[PJ,NS,OG];exact h2
 rw[VC,hn,Aa]
theorem rH(p:LB)(hp:p.length<=64):CK p=some (Tk (Zf p).toNat 8,0):=by
 rw[CK,sE,Abc Ba8,Aar p F0,Aa,Aa];simp only;have h:=QB (Zf p) 8 F0 F0 (by simpa using(Zf p).toNat_lt);rw[Abc Ba9];exact congrArg (λo=>Option.bind o λx:LB×Int=>some (x.1,x.2)) h
theorem K5(p:LB)(hp:p.length<=64):Jp p=some (Tk (Zf p).toNat 8):=by
 have h:=A8 (Zf p) 8 F0;rw[Jp,SB,Aai p F0,Aa,Aa];exact congrArg (λo=>Option.bind o λl=>some l) h
def s8(n:Nat):Int32:=Int32.ofInt (if n<128 then(n:Int)else(n:Int)-256)
def RZ(d:UInt64)(n:Nat):LX:=(List.range n).map λi=>s8 (d.toNat/256^i %256)
theorem VJ(d:UInt64)(n:Nat):(RZ d n).length=n:=by simp[RZ]
theorem E1(d:UInt64)(n:Nat):RZ d (n+1)=RZ d n++[s8 (d.toNat/256^n %256)]:=by simp[RZ,List.range_succ]
theorem bm8(z:Nat):(z:Int).bmod Int8.size=if z %256<128 then((z %256:Nat):Int)else((z %256:Nat):Int)-256:=by
 rw[show Int8.size=256 from rfl,Int.bmod_def];split<;>split<;>omega
theorem Afx(d:UInt64):∀(j i q:Nat),i+j=8->j<q->GJ d q (i:Int) (RZ d i++List.replicate (16-i) 0)=some (RZ d 8++List.replicate 8 0)
 |0,i,q+1,hi,_=>by
  obtain rfl:i=8:=F0
  rw[GJ,ZY,Abc Bbi];rfl
 |j+1,i,q+1,hi,hq=>by
  have hlen:(RZ d i++List.replicate (16-i) 0).length=16:=by simp[VJ];omega
  have ih:=Afx d j (i+1) q F0 F0;have e8:Bg (8:Int) (i:Int)=((8*i:Nat):Int):=by rw[Gp];omega
  have ev:(Ad (Ad (Bv d (GI.toZ (((8*i:Nat):Int))).toNat):Int8):Int32)=s8 (d.toNat/256^i %256):=by
   have e1:(Bv d (GI.toZ (((8*i:Nat):Int))).toNat).toNat=d.toNat/256^i:=by
    rw[show(GI.toZ (((8*i:Nat):Int))).toNat=8*i from rfl,DO,Nat.pow_mul]
   show Int32.ofInt (Int8.ofInt ((Bv d (GI.toZ (((8*i:Nat):Int))).toNat).toNat:Int)).toInt=_;rw[e1,s8,Int8.toInt_ofInt,bm8]
  rw[GJ,ZY,Abe Ba6,e8,Bf Bbf,Aa,ev,Ci,Aa,Qr _ F0,Aa,Ag,show 16-i=(15-i)+1 by omega,Axk,WY (VJ d i)];rw[E1,show 16-(i+1)=15-i by omega,Apj]at ih;exact ih
theorem Alm(d:UInt64):∀(j i q:Nat) (e:UInt64),i+j=8->j<q->e.toNat=d.toNat/256^i->Jd q e (i:Int) (RZ d i++List.replicate (16-i) 0)=some (RZ d 8++List.replicate 8 0)
 |0,i,q+1,e,hi,_,he=>by
  obtain rfl:i=8:=F0
  rw[Jd,Yk,Abc Bbi];rfl
 |j+1,i,q+1,e,hi,hq,he=>by
  have hlen:(RZ d i++List.replicate (16-i) 0).length=16:=by simp[VJ];omega
  have hq2:(Ca e (256:UInt64)).toNat=d.toNat/256^(i+1):=by
   rw[pP,Ban,he,Avm,<-Aym];rfl
  have ih:=Alm d j (i+1) q (Ca e (256:UInt64)) F0 F0 hq2;have ev:(Ad (AG e (256:UInt64)):Int32)=Int32.ofInt ((d.toNat/256^i %256:Nat):Int):=by
   show Int32.ofInt ((AG e (256:UInt64)).toNat:Int)=_;rw[qy,UInt64.toNat_mod,he];rfl
  have hz:d.toNat/256^i %256<256:=Ax5 _ F0;have et:(Int32.ofInt ((d.toNat/256^i %256:Nat):Int)).toInt=((d.toNat/256^i %256:Nat):Int):=by
   rw[Ayr,Baj (by show -(4294967296/2:Int)<= _;omega) (by show _<(4294967296+1)/2;omega)]
  have hp8:∀x:Int32,x=s8 (d.toNat/256^i %256)->Yp (Jd q) e (i:Int) (RZ d i++List.replicate (16-i) 0) x=some (RZ d 8++List.replicate 8 0):=by
   intro x hx;rw[Yp,PM,hx,Ci,Aa,Qr _ F0,Aa,Ag,show 16-i=(15-i)+1 by omega,Axk,WY (VJ d i)];rw[E1,show 16-(i+1)=15-i by omega,Apj]at ih;exact ih
  rw[Jd,Yk,Abe Ba6,ev,Acx,et,show(127:Int32).toInt=127 from rfl];by_cases h:d.toNat/256^i %256<128
  ·rw[Abc (by simp only[Ab6];omega)];exact hp8 _ (by rw[s8,Abe h])
  ·rw[Abe (by simp only[Ab6];omega)];refine hp8 _ ?_;rw[s8,Abc h,OW,Int32.ofInt_sub];rfl
def Sk(p:LB):LX:=RZ (Zf p) 8++List.replicate 8 0
theorem lR(p:LB):(Sk p).length=16:=by simp[Sk,VJ]
theorem P2(p:LB)(hp:p.length<=64):GN p=some (Sk p,0):=by
 have h:=Afx (Zf p) 8 0 Aq F0 Ba7;have h2:S9 (Zf p)=some (Sk p):=h;rw[GN,Abc Ba8,Aar p F0,Aa];simp only;rw[Abc Ba9,h2,Aa]
theorem zw(p:LB)(hp:p.length<=64):Ju p=some (Sk p,0):=by
 have h:=Alm (Zf p) 8 0 Aq (Zf p) F0 Ba7 Bba;have h2:aO (Zf p)=some (Sk p):=h;rw[Ju,Abc Ba8,VS,SA,Abc Ba8,Aai p F0,Aa,Aa,Aa];simp only;rw[h2,Aa]
def u8(z:Int):UInt8:=UInt8.ofNat (z %256).toNat
theorem S6(z:Int):u8 (z %256)=u8 z:=by rw[u8,u8];congr 2;omega
def wB(bits:Int):Nat:=if bits=8 then 1 else if bits=16 then 2 else 3
theorem Anu{bits:Int}(h:Ch bits):Ca bits 8=(wB bits:Int):=by obtain rfl|rfl|rfl:=h<;>rfl
theorem Ak1(bits:Int):1<=wB bits/\wB bits<=3:=by
 unfold wB;split; · omega
 ·split<;>omega
def FO(bits:Int)(x:Int):LB:=if bits=8 then [u8 (x+128)]else if bits=16 then [u8 x,u8 (x/256)]else [u8 x,u8 (x/256),u8 (x/65536)]
theorem nu(bits x:Int):(FO bits x).length<=3:=by
 unfold FO;split; · simp
 ·split<;>simp
theorem Amh(x:Int32)(k:Nat)(hk:k<=32):(Ad (Bv x k):UInt8)=u8 (x.toInt.fdiv (2^k)):=by
 have h:=Wy x;have e:Bv x k=Int32.ofInt (x.toInt.fdiv (2^k)):=by
  show Int32.ofInt (x.toInt.fdiv (2^min k 32))=_;rw[Aw2 hk]
 have hb: -2147483648<=x.toInt.fdiv (2^k)/\x.toInt.fdiv (2^k)<2147483648:=by
  have hpos:(0:Int)<2^k:=Int.pow_pos F0;rw[Ate _ F0];constructor
  ·refine(Int.le_ediv_iff_mul_le hpos).2 ?_;have:(1:Int)<=2^k:=F0
   have h2: -2147483648*(2^k:Int)<= -2147483648*1:=Int.mul_le_mul_of_nonpos_left F0 this;omega
  ·refine Int.ediv_lt_of_lt_mul hpos ?_;have:(1:Int)<=2^k:=F0
   have h2:(2147483648:Int)*1<=2147483648*2^k:=Int.mul_le_mul_of_nonneg_left this F0;omega
 show UInt8.ofNat ((Bv x k).toInt %256).toNat=_;rw[e,Ayr,Baj (by show -(4294967296/2:Int)<= _;omega) (by show _<(4294967296+1)/2;omega)];rfl
section
variable (bk:Int->LB->Option (LB×Int)) (l:LX)
theorem vH{bits:Int}(h:Ch bits)(c:Int32)(x:Int)(i q:Nat)(acc:LB)(hi:i<wB bits)(ha:acc.length<=100000):
  Hx bk bits l c x (q+1) (i:Int) acc=Hx bk bits l c x q ((i+1:Nat):Int) (acc++[u8 (c.toInt.fdiv (2^(8*i)))]):=by
 have hw:=Ak1 bits;have e8:Bg (8:Int) (i:Int)=((8*i:Nat):Int):=by rw[Gp];omega
 rw[Hx,Xy,Anu h,Abe Ba6,e8,Bf Bbf,Aa,show(GI.toZ (((8*i:Nat):Int))).toNat=8*i from rfl,Amh _ _ F0,Ct Ba5,Aa,Ag];rfl
theorem Ac2{bits:Int}(h:Ch bits)(c:Int32)(x:Int)(q:Nat)(acc:LB):Hx bk bits l c x (q+1) ((wB bits:Nat):Int) acc=bk (Ae x 1) acc:=by
 rw[Hx,Xy,Anu h,Abc Bbi,KO,aU]
theorem Atu{bits:Int}(h:Ch bits)(c:Int32)(x:Int)(acc:LB)(ha:acc.length<=90000)(hr: -(hB bits)<=c.toInt/\c.toInt<hB bits):
  Mv bk bits l x acc (if bits=8 then Ae c (128:Int32)else c)=bk (Ae x 1) (acc++FO bits c.toInt):=by
 have e:Aq=(Aq-4)+1+1+1+1:=by have:=Am;omega
 have hc:=Wy c;rw[Mv,KD,KY,e];have g0:=λ(c:Int32) q acc ha=>vH bk l h c x 0 q acc (by have:=Ak1 bits;omega) ha;obtain rfl|rfl|rfl:=h
 ·have hh:hB 8=128:=rfl;rw[hh]at hr;have e1:(Ae c (128:Int32)).toInt=c.toInt+128:=by
   show(Int32.ofInt (c.toInt+(128:Int32).toInt)).toInt=_;rw[show(128:Int32).toInt=128 from rfl,Ayr,Baj (by show -(4294967296/2:Int)<= _;omega) (by show _<(4294967296+1)/2;omega)]
  have g1:=Ac2 bk l (bits:=8) (.inl rfl) (Ae c (128:Int32)) x (Aq-4+1+1);rw[Abe rfl,show(0:Int)=((0:Nat):Int)from rfl,g0 _ _ _ F0];refine Axr (g1 _) ?_;rw[e1,FO,Abe rfl]
  show bk _ (acc++[u8 ((c.toInt+128).fdiv 1)])=_;rw[Int.fdiv_one]
 ·have g1:=λq acc ha=>vH bk l (bits:=16) (.inr (.inl rfl)) c x 1 q acc F6 ha;have g2:=Ac2 bk l (bits:=16) (.inr (.inl rfl)) c x (Aq-4+1);rw[Abc F6,show(0:Int)=((0:Nat):Int)from rfl,g0 _ _ _ F0,g1 _ _ Ba5];refine Axr (g2 _) ?_;rw[FO,Abc F6,Abe rfl,Apj]
  show bk _ (acc++[u8 (c.toInt.fdiv 1),u8 (c.toInt.fdiv 256)])=_;rw[Int.fdiv_one,Ate _ F0]
 ·have g1:=λq acc ha=>vH bk l (bits:=24) (.inr (.inr rfl)) c x 1 q acc F6 ha;have g2:=λq acc ha=>vH bk l (bits:=24) (.inr (.inr rfl)) c x 2 q acc F6 ha;have g3:=Ac2 bk l (bits:=24) (.inr (.inr rfl)) c x (Aq-4);rw[Abc F6,show(0:Int)=((0:Nat):Int)from rfl,g0 _ _ _ F0,g1 _ _ Ba5,g2 _ _ Ba5];refine Axr (g3 _) ?_;rw[FO,Abc F6,Abc F6,Apj,Apj]
  show bk _ (acc++[u8 (c.toInt.fdiv 1),u8 (c.toInt.fdiv 256),u8 (c.toInt.fdiv 65536)])=_;rw[Int.fdiv_one,Ate _ F0,Ate _ F0]
end
def Fw(bits:Int)(l:LX):LB:=l.flatMap λx=>FO bits x.toInt
theorem ZN(bits:Int):∀l:LX,(Fw bits l).length<=3*l.length
 |[]=>by simp[Fw]
 |x::l=>by
  have h1:=ZN bits l;have h2:=nu bits x.toInt;simp only[Fw,List.flatMap_cons,Ab0,Aj4]at*
  omega
def inR(bits:Int)(l:LX):Prop:=∀x∈l, -(hB bits)<=x.toInt/\x.toInt<hB bits
theorem Ae1{bits:Int}(h:Ch bits)(l:LX)(hl:l.length<=4000)(hr:inR bits l):∀(j i q:Nat),i+j=l.length->j<q->Fp bits l q (i:Int) (Fw bits (l.take i))=some (Fw bits l,0)
 |0,i,q+1,hi,_=>by
  rw[Fp,Yc,Abc F2,Avw F0];rfl
 |j+1,i,q+1,hi,hq=>by
  have hlt:i<l.length:=F0
  have ih:=Ae1 h l hl hr j (i+1) q F0 F0;have hlen:=ZN bits (l.take i);have hx:=hr l[i] (Avx _);have h1:=Atu (Fp bits l q) l h l[i] (i:Int) (Fw bits (l.take i)) (by rw[Afi]at hlen;omega) hx;rw[Fp,Yc,Abe F2,Ci hlt,Aa];have e:(if(geq bits (8:Int))=true then Mv (Fp bits l q) bits l (i:Int) (Fw bits (l.take i)) (Ae l[i] (128:Int32))else Mv (Fp bits l q) bits l (i:Int) (Fw bits (l.take i)) l[i])=Mv (Fp bits l q) bits l (i:Int) (Fw bits (l.take i)) (if bits=8 then Ae l[i] (128:Int32)else l[i]):=by
   by_cases h8:bits=8
   ·rw[Abe (by rw[Bb];simpa using h8),Abe h8]
   ·rw[Abc (by rw[Bb];simpa using h8),Abc h8]
  rw[e,h1,Ag];rw[Pa hlt]at ih;have e2:Fw bits (l.take i++[l[i]])=Fw bits (l.take i)++FO bits l[i].toInt:=by unfold Fw;rw[List.flatMap_append,List.flatMap_singleton]
  rw[e2]at ih;exact ih
theorem WR{bits:Int}(h:Ch bits){l:LX}(hl:l.length<=4000)(hc:Ap bits l=some 0):inR bits l:=by
 have hh:=NY bits;have key:∀(j i q:Nat),i+j=l.length->j<q->Ay l (hB bits) q (i:Int)=some 0->∀k,i<=k-> (hk:k<l.length)-> -(hB bits)<=l[k].toInt/\l[k].toInt<hB bits:=by
  intro j
  induction j with
  |zero=>intro i q hi hq _ k h1 h2;omega
  |succ j ih=>
   intro i q hi hq hs k h1 h2;obtain⟨q,rfl⟩:∃k,q=k+1:=⟨q-1,F0⟩;rw[Ay,Cc,Abe F2,Ci,Aa,Aa,Ej,U5,Bs F0 F0,Ag,Af,Dl]at hs;by_cases g1:l[i].toInt<0-hB bits
   ·rw[Abe (by simpa using g1)]at hs;simp at hs
   ·rw[Abc (by simpa using g1)]at hs;by_cases g2:hB bits<=l[i].toInt
    ·rw[Abe (by simpa using g2)]at hs;simp at hs
    ·rw[Abc (by simpa using g2)]at hs;by_cases hk:k=i
     ·subst hk;omega
     ·exact ih (i+1) q F0 F0 hs k F0 h2
 rw[Ap,Cs,RU h,Aa,Abc Bbd,Abc Ba8]at hc;have:=key l.length 0 Aq F0 Ba7 hc;intro x hx;obtain⟨k,hk,rfl⟩:=List.getElem_of_mem hx;exact this k F0 hk
theorem Ac6{bits:Int}(h:Ch bits){l:LX}(hl:l.length<=4000)(hc:Ap bits l=some 0):JW bits l=some (Fw bits l,0):=by
 have h1:=Ae1 h l hl (WR h hl hc) l.length 0 Aq F0 Ba7;rw[JW,PR,YX h l hl,hc,Aa,Abc Ba9];exact h1
theorem Ao3{bits:Int}(h:Ch bits)(x:Int32)(hr: -(hB bits)<=x.toInt/\x.toInt<hB bits):FJ bits x=some (FO bits x.toInt):=by
 have hx:=Wy x;have gu:∀z:Int,(Ad z:UInt8)=u8 z:=λz=>rfl;have hq:∀n:Int,0<=n->n<=20000000->Ca n (256:Int)=n/256/\Ca n (65536:Int)=n/65536:=by
  intro n h1 h2;constructor<;>(rw[KI,Axh h1,Bs F0 F0])
 have hm:∀n:Int,0<=n->Ge n (256:Int)=n %256:=λn h1=>by rw[Ge,Azi h1]
 rw[FJ,LZ,Ej];obtain rfl|rfl|rfl:=h
 ·rw[Abe Bbo,Ag,gu,FO,Abe rfl]
 ·have hh:hB 16=32768:=rfl;rw[hh]at hr;have hp:∀n:Int,0<=n->n<=70000->u8 n=u8 x.toInt->u8 (n/256)=u8 (x.toInt/256)->Kr 16 n=some (FO 16 x.toInt):=by
   intro n h1 h2 h3 h4;rw[Kr,Wv,Abc Bbu,hm n h1,(hq n h1 F0).1,hm _ F0,gu,gu,S6,S6,h3,h4,FO,Abc F6,Abe rfl]
  rw[Abc Bbu];by_cases hn:x.toInt<0
  ·rw[Abe (by rw[Af];simpa using hn),RU (.inr (.inl rfl)),Aa,hh,Gp,Ag];refine hp _ F0 F0 ?_ ?_
   ·rw[u8,u8];congr 2;omega
   ·rw[u8,u8];congr 2;omega
  ·rw[Abc (by rw[Af];simpa using hn)];exact hp _ F0 F0 rfl rfl
 ·have hh:hB 24=8388608:=rfl;rw[hh]at hr;have hp:∀n:Int,0<=n->n<=16777215->u8 n=u8 x.toInt->u8 (n/256)=u8 (x.toInt/256)->u8 (n/65536)=u8 (x.toInt/65536)->Kr 24 n=some (FO 24 x.toInt):=by
   intro n h1 h2 h3 h4 h5;rw[Kr,Wv,Abe Bbo,hm n h1,(hq n h1 F0).1,(hq n h1 F0).2,hm _ F0,gu,gu,gu,S6,S6,h3,h4,h5,Ct Bba,Aa,FO,Abc F6,Abc F6];rfl
  rw[Abc Bbu];by_cases hn:x.toInt<0
  ·rw[Abe (by rw[Af];simpa using hn),RU (.inr (.inr rfl)),Aa,hh,Gp,Ag];refine hp _ F0 F0 ?_ ?_ ?_
   ·rw[u8,u8];congr 2;omega
   ·rw[u8,u8];congr 2;omega
   ·rw[u8,u8];congr 2;omega
  ·rw[Abc (by rw[Af];simpa using hn)];exact hp _ F0 F0 rfl rfl rfl
theorem Aer{bits:Int}(h:Ch bits)(l:LX)(hl:l.length<=4000)(hr:inR bits l):∀(j i q:Nat),i+j=l.length->j<q->Ik bits l q (i:Int) (Fw bits (l.take i))=some (Fw bits l,0)
 |0,i,q+1,hi,_=>by
  rw[Ik,Sj,Abc F2,Avw F0];rfl
 |j+1,i,q+1,hi,hq=>by
  have hlt:i<l.length:=F0
  have ih:=Aer h l hl hr j (i+1) q F0 F0;have hlen:=ZN bits (l.take i);have hol:=nu bits l[i].toInt;rw[Afi]at hlen;have e2:Fw bits (l.take i++[l[i]])=Fw bits (l.take i)++FO bits l[i].toInt:=by unfold Fw;rw[List.flatMap_append,List.flatMap_singleton]
  rw[Pa hlt,e2]at ih;rw[Ik,Sj,Abe F2,Ci hlt,Aa,Ao3 h _ (hr l[i] (Avx _)),Aa,Ct,Aa,Ag];exact ih
theorem Aii{bits:Int}(h:Ch bits){l:LX}(hl:l.length<=4000)(hc:Ap bits l=some 0):Qf bits l=some (Fw bits l,0):=by
 have h1:=Aer h l hl (WR h hl hc) l.length 0 Aq F0 Ba7;rw[Qf,EX,hc,Aa,Abc Ba9];exact h1
theorem Bb6{p:Prop}(h:p:=by rw[Ag]<;>omega):p:=h
end Go.Pl
namespace Go.Pl
open Go Go.Lv
variable{b:LB}{p:Prop}
def VA:LB->Nat->Int×Int
 |[],n=>((n:Int),0)
 |c::r,n=>if 128<=c.toNat then(0,12)else VA r (128*n+c.toNat)
theorem Ag2:∀(l:LB) (n k:Nat),n<128^k->0<= (VA l n).1/\ (VA l n).1<((128^(k+l.length):Nat):Int)
 |[],n,k,h=>by simp[VA];exact_mod_cast h
 |c::r,n,k,h=>by
  rw[VA];split
  ·have:0<128^(k+(c::r).length):=Ayf F0;exact⟨Int.le_refl _,by simp only;exact_mod_cast this⟩
  ·have:=Ag2 r (128*n+c.toNat) (k+1) (by rw[Avm];omega);rw[Aj4,show k+(r.length+1)=k+1+r.length by omega];exact this
theorem or7(n c:Nat)(hn:n<268435456)(hc:c<128):sD (Cy (n:Int) (GI.toZ (7:UInt64)).toNat) (c:Int)=((128*n+c:Nat):Int):=by
 have e:(GI.toZ (7:UInt64)).toNat=7:=rfl;have h1:Cy (n:Int) 7=((2^7*n:Nat):Int):=by
  have:Cy (n:Int) 7=wrap64 ((n:Int)*2^7):=rfl;rw[this,Bs F0 F0];omega
 rw[e,h1];have h2:sD ((2^7*n:Nat):Int) (c:Int)=wrap64 ((BitVec.ofInt 64 ((2^7*n:Nat):Int)|||BitVec.ofInt 64 (c:Int)).toNat:Int):=rfl;rw[h2,BitVec.toNat_or,Axo,Axo];have h3:(((2^7*n:Nat):Int) %((2^64:Nat):Int)).toNat=2^7*n:=F0
 have h4:((c:Int) %((2^64:Nat):Int)).toNat=c:=F0
 rw[h3,h4,<-Aw3 (by simpa using hc),Bs F0 F0]
theorem Agn(b:LB)(hb:b.length=4):∀(j i q n:Nat),i+j=4->j<q->n<128^i->Lf b q (n:Int) (i:Int)=some (VA (b.drop i) n)
 |0,i,q+1,n,hi,_,_=>by
  rw[Lf,Vp,Abc F2,show b.drop i=[] by simp;omega];rfl
 |j+1,i,q+1,n,hi,hq,hn=>by
  have hlt:i<b.length:=F0
  have hn2:n<268435456:=Aj7 hn (show 128^i<=128^4 from Adr F0 F0);rw[Lf,Vp,Abe F2,Ci hlt,Aa,drop_cons hlt,VA,An7];by_cases hc:128<=b[i].toNat
  ·rw[Abe Ba5,Abe hc]
  ·rw[Abc Ba5,Abc hc,NC,or7 n _ hn2 F0,Ag];exact Agn b hb j (i+1) q _ F0 F0 (by rw[Avm];omega)
theorem An4(b:LB)(hb:b.length=4):∀(j i q n:Nat),i+j=4->j<q->n<128^i->Io b q (n:Int) (i:Int)=some (VA (b.drop i) n)
 |0,i,q+1,n,hi,_,_=>by
  rw[Io,Sn,Abc Ba6,show b.drop i=[] by simp;omega];rfl
 |j+1,i,q+1,n,hi,hq,hn=>by
  have hlt:i<b.length:=F0
  have hn2:n<268435456:=Aj7 hn (show 128^i<=128^4 from Adr F0 F0);rw[Io,Sn,Abe Ba6,Ci hlt,Aa,drop_cons hlt,VA,Amf];have h128:(128:UInt8).toNat=128:=rfl;by_cases hc:128<=b[i].toNat
  ·rw[Abe (by simpa using hc),Abe hc]
  ·have h3:=b[i].toNat_lt;rw[Abc (by simpa using hc),Abc hc,Aa,NC,Gp,Ag,Ag];have:=An4 b hb j (i+1) q (128*n+b[i].toNat) F0 F0 (by rw[Avm];omega);rw[<-this];rfl
theorem Ac0(b:LB)(hb:b.length=4):GV b=some (VA b 0):=by
 have h:=Agn b hb 4 0 Aq 0 F0 Ba7 Bba;rw[GV,GM,Abc (by rw[Ah,Ac];simp;omega),UM];exact h
theorem Ajk(b:LB)(hb:b.length=4):Yr b=some (VA b 0):=by
 have h:=An4 b hb 4 0 Aq 0 F0 Ba7 Bba;rw[Yr,EY,Abc (by rw[Ah,Ac];simp;omega),EH];exact h
theorem Acn(hb:b.length=4):0<= (VA b 0).1/\ (VA b 0).1<268435456:=by
 have:=Ag2 b 0 0 Bba;rw[hb]at this;simpa using this
theorem YD(s p:LB):Kh s p=some (decide (p.length<=s.length/\s.take p.length=p)):=by
 rw[Kh];by_cases h:p.length<=s.length
 ·rw[Abe (by rw[Dl,Ac,Ac];simp;omega),show Ac p=(p.length:Int)from rfl,Ji,Aa,Gz,Aa,Afl];congr 1;rw[Aoi];simp[h]
 ·rw[Abc (by rw[Dl,Ac,Ac];simp;omega)];simp[h]
def kA(b:LB)(n:Int):Int×Int:=
 if 4000<n then(0,4)else if(b.length:Int)<n then(0,24)else
 if b.getD 5 0=16/\ (b.take n.toNat).drop (n-10).toNat≠ [51,68,73]++part b 3 7 then(0,12)else(n,0)
def O1(b:LB)(r:Int):Int×Int:=kA b (r+10+(if b.getD 5 0=16 then 10 else 0))
def aK(b:LB):Int×Int:=
 if ¬(3<=b.length/\b.take 3=[73,68,51])then(0,6)else if b.length<10 then(0,24)else
 if(VA (part b 6 4) 0).2≠0\/b.getD 4 0≠0\/ ¬((b.getD 5 0=0/\2<= (b.getD 3 0).toNat/\ (b.getD 3 0).toNat<=4)\/ (b.getD 5 0=16/\b.getD 3 0=4))then(0,12)else
 O1 b (VA (part b 6 4) 0).1
theorem lE{i:Nat}(h:i<b.length):Ak b (i:Int)=some (b.getD i 0):=by
 rw[Ci h];simp[List.getD_eq_getElem?_getD,h]
theorem Na(a w:Nat)(h:a+w<=b.length:=by omega):By b (a:Int) ((a+w:Nat):Int)=some (part b a w):=by
 rw[Ou];rfl
theorem Aqd(b:LB)(r:Int)(h10:10<=b.length)(h0:0<=r)(h1:r<268435456):Ua b r=some (O1 b r):=by
 have g5:Ak b (5:Int)=some (b.getD 5 0):=lE (i:=5) F0;have key:∀n:Int,10<=n->n<268435500->Tu b n=some (kA b n):=by
  intro n hn hn2;rw[Tu,JA,kA];by_cases c1:4000<n
  ·rw[Abe (by rw[Al];simpa using c1),Abe c1]
  ·rw[Abc (by rw[Al];simpa using c1),Abc c1];by_cases c2:(b.length:Int)<n
   ·rw[Abe (by rw[Af,Ac];simpa using c2),Abe c2]
   ·have e3:By b (3:Int) (10:Int)=some (part b 3 7):=Na 3 7;rw[Abc (by rw[Af,Ac];simpa using c2),Abc c2,g5,Aa];by_cases c3:b.getD 5 0=16
    ·rw[Abe (by rw[YA];simpa using c3),Bi,Ou,Aa,e3,Aa,Ct (by rw[Cw];simp),Aa];by_cases c4:(b.take n.toNat).drop (n-10).toNat=[51,68,73]++part b 3 7
     ·rw[Abc (by simpa using c4),Abc (by intro h;exact h.2 c4)]
     ·rw[Abe (by simpa using c4),Abe ⟨c3,c4⟩]
    ·rw[Abc (by rw[YA];simpa using c3),Abc (λh=>c3 h.1)]
 rw[Ua,HR,g5,Aa,O1];by_cases c3:b.getD 5 0=16
 ·rw[Abe (by rw[YA];simpa using c3),Ag Bb6 Bb6,Ag,key _ F0 F0,Abe c3,show 10+r+10=r+10+10 by omega]
 ·rw[Abc (by rw[YA];simpa using c3),Ag,key _ F0 F0,Abc c3,show 10+r=r+10+0 by omega]
theorem Ank(b:LB)(hb:b.length<4611686018427387904):BF b=some (aK b):=by
 rw[BF,HW,aK];by_cases h3:3<=b.length
 ·rw[Abc F2,Ji,Aa];by_cases hp:b.take 3=[73,68,51]
  ·rw[Abc (by simpa using hp),Abc (by simp[h3,hp]),JZ,IF];by_cases h10:b.length<10
   ·rw[Abe F2,Abe h10]
   ·have e6:By b (6:Int) (10:Int)=some (part b 6 4):=Na 6 4;have g3:Ak b (3:Int)=some (b.getD 3 0):=lE (i:=3) F0;have g4:Ak b (4:Int)=some (b.getD 4 0):=lE (i:=4) F0;have g5:Ak b (5:Int)=some (b.getD 5 0):=lE (i:=5) F0;obtain⟨v1,v2⟩:=Acn (b:=part b 6 4) (Cw);rw[Abc F2,Abc h10,e6,Aa,Ajk _ (Cw),Aa];have ht:=Aqd b (VA (part b 6 4) 0).1 F0 v1 v2;generalize VA (part b 6 4) 0=v at*
    obtain⟨v,e⟩:=v;simp only at ht v1 v2⊢;simp only[Aa,g3,g4,g5,ht];generalize b.getD 3 0=x at*
    generalize b.getD 4 0=y at*
    generalize b.getD 5 0=z at*
    simp only[Adl,Aug,An7,Ah];by_cases he:e=0<;>by_cases hy:y=0<;>by_cases hz:z=0<;>by_cases hz2:z=16<;>by_cases hx:x=4<;>by_cases hx2:x.toNat<2<;>by_cases hx4:4<x.toNat<;>simp_all<;>(rw[Abc F0,Abc F0])
  ·rw[Abe (by simpa using hp),Abe (by simp[hp])]
 ·rw[Abe F2,Abe (by simp[h3])]
theorem K9(b:LB)(n:Int)(h10:10<=b.length)(hn:10<=n)(hn2:n<268435500):KJ b (b.getD 5 0) n=some (kA b n):=by
 rw[KJ,aM];by_cases c1:4000<n
 ·rw[Abe (by rw[Al];simpa using c1),kA,Abe c1]
 ·rw[Abc (by rw[Al];simpa using c1)];by_cases c2:(b.length:Int)<n
  ·rw[Abe (by rw[Af,Ac];simpa using c2),kA,Abc c1,Abe c2]
  ·have e3:By b (3:Int) (10:Int)=some (part b 3 7):=Na 3 7;rw[Abc (by rw[Af,Ac];simpa using c2)];by_cases c3:b.getD 5 0=16
   ·have hl:((b.take n.toNat).drop (n-10).toNat).length=10:=by simp;omega
    have ht:kA b n=if(b.take n.toNat).drop (n-10).toNat≠ [51,68,73]++part b 3 7 then(0,12)else(n,0):=by rw[kA,Abc c1,Abc c2];simp only[c3,true_and]
    rw[Abe (by rw[YA];simpa using c3),Bi,Ou,Aa,ht];generalize(b.take n.toNat).drop (n-10).toNat=f at*
    rw[Ji,Aa,Ha,Aa,e3,Aa,Gz,Aa];have hf:f=f.take 3++f.drop 3:=(Axj 3 f).symm;by_cases c4:f=[51,68,73]++part b 3 7
    ·subst c4;simp
    ·by_cases c5:f.take 3=[51,68,73]
     ·have:f.drop 3≠part b 3 7:=λh=>c4 (by rw[hf,c5,h]);simp only[Ayx,Av0]at c4;simp[c4,c5,this]
     ·simp only[Ayx,Av0]at c4;simp[c4,c5]
   ·rw[Abc (by rw[YA];simpa using c3),kA,Abc c1,Abc c2,Abc (λh=>c3 h.1)]
theorem Amw(b:LB)(r:Int)(h10:10<=b.length)(h0:0<=r)(h1:r<268435456):KW b r (b.getD 5 0)=some (O1 b r):=by
 rw[KW,aT,O1];by_cases c3:b.getD 5 0=16
 ·rw[Abe (by rw[YA];simpa using c3),Ag Bb6 Bb6,Ag,K9 b _ h10 F0 F0,Abe c3]
 ·rw[Abc (by rw[YA];simpa using c3),Ag,K9 b _ h10 F0 F0,Abc c3];simp
theorem Ajf(b:LB)(hb:b.length<4611686018427387904):MK b=some (aK b):=by
 rw[MK,Xz,YD,Aa];by_cases hp:3<=b.length/\b.take 3=[73,68,51]
 ·rw[Abc (by simpa using hp)];by_cases h10:b.length<10
  ·rw[Abe F2,aK,Abc (λh=>h hp),Abe h10]
  ·have e6:By b (6:Int) (10:Int)=some (part b 6 4):=Na 6 4;have g3:Ak b (3:Int)=some (b.getD 3 0):=lE (i:=3) F0;have g4:Ak b (4:Int)=some (b.getD 4 0):=lE (i:=4) F0;have g5:Ak b (5:Int)=some (b.getD 5 0):=lE (i:=5) F0;obtain⟨v1,v2⟩:=Acn (b:=part b 6 4) (Cw);have ht:=Amw b (VA (part b 6 4) 0).1 F0 v1 v2;rw[Abc F2,g3,Aa,g5,Aa,KK,KV,e6,Aa,Ac0 _ (Cw),Aa,aK,Abc (λh=>h hp),Abc h10];generalize VA (part b 6 4) 0=v at*
   obtain⟨v,e⟩:=v;simp only at ht v1 v2⊢;simp only[Aa,g4,KE,aB];generalize b.getD 3 0=x at*
   generalize b.getD 4 0=y at*
   generalize b.getD 5 0=z at*
   simp only[Adl,Avc,YA,Amf,Ah];have e2:(2:UInt8).toNat=2:=rfl;have e4:(4:UInt8).toNat=4:=rfl;by_cases he:e=0<;>by_cases hy:y=0<;>by_cases hz:z=0<;>by_cases hz2:z=16<;>by_cases hx:x=4<;>by_cases hx2:2<=x.toNat<;>by_cases hx4:x.toNat<=4<;>simp_all
 ·rw[Abe (by rw[Avf,Ax2];exact hp),aK,Abe hp]
theorem Aom{n:Int}(h:aK b=(n,0)):10<=n/\n<=b.length/\n<=4000:=by
 unfold aK at h;split at h; · simp at h
 split at h; · simp at h
 split at h; · simp at h
 rename_i h10 _;obtain⟨v1,v2⟩:=Acn (b:=part b 6 4) (Cw);unfold O1 at h;generalize hm:(VA (part b 6 4) 0).1+10+(if b.getD 5 0=16 then 10 else 0)=m at h;unfold kA at h;split at h; · simp at h
 split at h; · simp at h
 split at h; · simp at h
 simp only[As8,and_true]at h;subst h;refine⟨?_,F0,F0⟩;rw[<-hm];split<;>omega
theorem Bbz(h:p:=by rw[Af,Ac];simp):p:=h
theorem Bbj(h:p:=by rw[Cw];omega):p:=h
theorem Bbx(h:p:=by simp[Dk]):p:=h
end Go.Pl
namespace Go.Pl
open Go Go.Lv
def X0:LB:=[65,80,69,84,65,71,69,88]
def Mt(n m fl:Nat):LB:=X0++Tk 2000 4++Tk (n+32) 4++Tk m 4++Tk fl 4++List.replicate 8 0
theorem SO{n:Nat}(h:n<18446744073709551616):(UInt64.ofNat n).toNat=n:=by rw[Aig,Abo h]
theorem jB(n m:Int)(fl:UInt64)(c:UInt64)(i q:Nat)(acc:LB)(hi:i<6)(hc:Ak ([(2000:UInt64),(Ad (Ae n (32:Int)):UInt64),(Ad m:UInt64),fl,(0:UInt64),(0:UInt64)]:LQ) (i:Int)=some c)(h:c.toNat<4294967296)(ha:acc.length<=1000000):
  Za n m fl (q+1) (i:Int) acc=Za n m fl q ((i+1:Nat):Int) (acc++Tk c.toNat 4):=by
 have hb:=QB c 4 F0 F0 (by simpa using h);rw[Za,YH,Abe F2,hc,Aa,Aa,show((4:Int))=((4:Nat):Int)from rfl,hb,Aa];simp only;rw[Ct (by rw[Dk];omega),Aa,Ag];rfl
theorem xC(n m:Nat)(fl:UInt64)(hn:n<=3000)(hm:m<=1000)(hf:fl.toNat<4294967296):iM (n:Int) (m:Int) fl=some (Mt n m fl.toNat):=by
 have e1:(Ad (Ae (n:Int) (32:Int)):UInt64).toNat=n+32:=by rw[Ag,show(n:Int)+32=((n+32:Nat):Int) by omega,Rv,SO F0]
 have e2:(Ad (m:Int):UInt64).toNat=m:=by rw[Rv,SO F0]
 have hF:Aq=(Aq-7)+1+1+1+1+1+1+1:=by have:=Am;omega
 rw[iM,mK,xU,hF];rw[show((0:Int))=((0:Nat):Int)from rfl,jB n m fl 2000 0 _ _ F0 rfl F6 Bba,jB n m fl _ 1 _ _ F0 rfl (by rw[e1];omega) Bbx,jB n m fl _ 2 _ _ F0 rfl (by rw[e2];omega) Bbx,
  jB n m fl fl 3 _ _ F0 rfl hf Bbx,jB n m fl 0 4 _ _ F0 rfl F6 Bbx,jB n m fl 0 5 _ _ F0 rfl F6 Bbx,e1,e2]
 rw[Za,YH,Abc Bbz,lU,C8,Mt];have z:Tk (0:UInt64).toNat 4++Tk (0:UInt64).toNat 4=List.replicate 8 0:=F6
 have z2:Tk (2000:UInt64).toNat 4=Tk 2000 4:=rfl;rw[Apj _ (Tk (0:UInt64).toNat 4),z,z2];rfl
theorem qL(n m:Nat)(fl:UInt64)(hn:n<=3000)(hm:m<=1000)(hf:fl.toNat<4294967296):Pe (n:Int) (m:Int) fl=some (Mt n m fl.toNat):=by
 have e1:(Ad (Ae (n:Int) (32:Int)):UInt64).toNat=n+32:=by rw[Ag,show(n:Int)+32=((n+32:Nat):Int) by omega,Rv,SO F0]
 have e2:(Ad (m:Int):UInt64).toNat=m:=by rw[Rv,SO F0]
 have w:∀c:UInt64,Dv c 4=some (Tk c.toNat 4):=λc=>A8 c 4 F0;have z2:Tk (2000:UInt64).toNat 4=Tk 2000 4:=rfl;rw[Pe];simp only[w,e1,e2,Aa];rw[Ct Bbx,Aa,Ct Bbx,Aa,Ct Bbx,Aa,Ct Bbx,Aa,pQ,Aa,Ct Bbx,Aa,z2];rfl
theorem NB{b:LB}{a w k:Nat}(h:a+w<=k):part (b.take k) a w=part b a w:=by rw[part,part,List.take_take,Aw2 h]
def IY(b:LB):Bool:=decide (Ec (part b 12 4)<32\/3032<Ec (part b 12 4)\/1000<Ec (part b 16 4))
theorem Anw(b:LB)(h:20<=b.length):(((Cg (kF (part b 12 4)) (32:UInt64))||(Eu (kF (part b 12 4)) (3032:UInt64)))||(Eu (kF (part b 16 4)) (1000:UInt64)))=IY b:=by
 rw[vS,RV,RV,SP Bbj,SP Bbj,IY];show((decide (Ec (part b 12 4)<32)||decide (3032<Ec (part b 12 4)))||decide (1000<Ec (part b 16 4)))=_;simp[Bool.or_assoc]
theorem rQ(b:LB)(h:20<=b.length)(hb:IY b=false):Aj (Ad (kF (part b 12 4)):Int) (32:Int)=((Ec (part b 12 4)-32:Nat):Int)/\ (Ad (kF (part b 16 4)):Int)=((Ec (part b 16 4):Nat):Int)/\Ec (part b 12 4)-32<=3000/\Ec (part b 16 4)<=1000:=by
 simp only[IY,Ax2]at hb;refine⟨?_,HD Bbj,F0,F0⟩;rw[HD Bbj,Bi];omega
theorem YN(b:LB)(fl:UInt64)(h:20<=b.length)(hl:b.length<4611686018427387904)(hf:fl.toNat<4294967296):
  ND b fl=some (if IY b=true then(0,0,false)else(((Ec (part b 12 4)-32:Nat):Int),((Ec (part b 16 4):Nat):Int),b==Mt (Ec (part b 12 4)-32) (Ec (part b 16 4)) fl.toNat)):=by
 have a1:VO b 12 4=some (kF (part b 12 4),0):=M3 b 12 4 F0 F0 F0 hl;have a2:VO b 16 4=some (kF (part b 16 4),0):=M3 b 16 4 F0 F0 F0 hl;rw[ND,a1,Aa];simp only;rw[a2,Aa];simp only;rw[Anw b h];cases hb:IY b with
 |true=>rfl
 |false=>
  obtain⟨i1,i2,i3,i4⟩:=rQ b h hb;rw[i1,i2,xC _ _ _ i3 i4 hf];rfl
theorem oh(b:LB)(h:20<=b.length)(hl:b.length<4611686018427387904):
  Tf b=some (if IY b=true then(0,0,false)else(((Ec (part b 12 4)-32:Nat):Int),((Ec (part b 16 4):Nat):Int),true)):=by
 have a1:By b 12 16=some (part b 12 4):=Na 12 4;have a2:By b 16 20=some (part b 16 4):=Na 16 4;rw[Tf,a1,Aa,Aam _ Bbj,Aa,a2,Aa,Aam _ Bbj,Aa,Anw b h];cases hb:IY b with
 |true=>rfl
 |false=>
  obtain⟨i1,i2,i3,i4⟩:=rQ b h hb;rw[i1,i2];rfl
def Qx(b:LB):Int×Int:=
 if ¬(8<=b.length/\b.take 8=X0)then(0,6)else if b.length<32 then(0,24)else
 if IY b=true\/b.take 32≠Mt (Ec (part b 12 4)-32) (Ec (part b 16 4)) 2684354560 then(0,12)else
 if b.length<Ec (part b 12 4)+32 then(0,24)else
 if(b.take (Ec (part b 12 4)+32)).drop (Ec (part b 12 4))≠Mt (Ec (part b 12 4)-32) (Ec (part b 16 4)) 2147483648 then(0,12)else(((Ec (part b 12 4)+32:Nat):Int),0)
theorem uq(b:LB):IY (b.take 32)=IY b:=by rw[IY,IY,NB F0,NB F0]
section
variable {b:LB}
theorem fa1(h:¬(8<=b.length/\b.take 8=X0)):Qx b=(0,6):=by rw[Qx,Abe h]
theorem fa2(h:8<=b.length/\b.take 8=X0)(h2:b.length<32):Qx b=(0,24):=by rw[Qx,Abc (λh'=>h' h),Abe h2]
variable (h:8<=b.length/\b.take 8=X0) (h2:¬b.length<32)
include h h2
theorem fa3(h3:IY b=true):Qx b=(0,12):=by rw[Qx,Abc (λh'=>h' h),Abc h2,Abe (.inl h3)]
theorem fa4(h4:b.take 32≠Mt (Ec (part b 12 4)-32) (Ec (part b 16 4)) 2684354560):Qx b=(0,12):=by rw[Qx,Abc (λh'=>h' h),Abc h2,Abe (.inr h4)]
variable (h3:IY b=false) (h4:b.take 32=Mt (Ec (part b 12 4)-32) (Ec (part b 16 4)) 2684354560)
include h3 h4
theorem fa5(h5:b.length<Ec (part b 12 4)+32):Qx b=(0,24):=by
 rw[Qx,Abc (λh'=>h' h),Abc h2,Abc (λh'=>h'.elim (λe=>by rw[h3]at e;cases e) λe=>e h4),Abe h5]
theorem fa6(h5:¬b.length<Ec (part b 12 4)+32)(h6:(b.take (Ec (part b 12 4)+32)).drop (Ec (part b 12 4))≠Mt (Ec (part b 12 4)-32) (Ec (part b 16 4)) 2147483648):Qx b=(0,12):=by
 rw[Qx,Abc (λh'=>h' h),Abc h2,Abc (λh'=>h'.elim (λe=>by rw[h3]at e;cases e) λe=>e h4),Abc h5,Abe h6]
theorem fa7(h5:¬b.length<Ec (part b 12 4)+32)(h6:(b.take (Ec (part b 12 4)+32)).drop (Ec (part b 12 4))=Mt (Ec (part b 12 4)-32) (Ec (part b 16 4)) 2147483648):Qx b=(((Ec (part b 12 4)+32:Nat):Int),0):=by
 rw[Qx,Abc (λh'=>h' h),Abc h2,Abc (λh'=>h'.elim (λe=>by rw[h3]at e;cases e) λe=>e h4),Abc h5,Abc (λh'=>h' h6)]
end
theorem Acv(b:LB)(hl:b.length<4611686018427387904):iQ b=some (Qx b):=by
 rw[iQ,YD,Aa];by_cases hp:8<=b.length/\b.take 8=X0
 ·rw[Abc (by simpa [X0]using hp)];by_cases h32:b.length<32
  ·rw[Abe F2,fa2 hp h32]
  ·have t:=YN (b.take 32) 2684354560 Ba5 Ba5 F6;rw[uq,NB F0,NB F0]at t;rw[Abc F2,Ji,Aa,show(32:Int).toNat=32 from rfl,t,Aa];cases hb:IY b with
   |true=>rw[fa3 hp h32 hb];simp
   |false=>
    obtain⟨i1,i2,i3,i4⟩:=rQ b F0 hb;have i5:32<=Ec (part b 12 4):=by simp only[IY,Ax2]at hb;omega
    simp only[Ar3,Ayh,false_or];by_cases c1:b.take 32=Mt (Ec (part b 12 4)-32) (Ec (part b 16 4)) 2684354560
    ·have c1':b.take 32=Mt (Ec (part b 12 4)-32) (Ec (part b 16 4)) (2684354560:UInt64).toNat:=c1;rw[Abc (by simpa using c1'),Ag];have e1:((Ec (part b 12 4)-32:Nat):Int)+64=((Ec (part b 12 4)+32:Nat):Int):=F0
     rw[e1];by_cases c2:b.length<Ec (part b 12 4)+32
     ·rw[Abe F2,fa5 hp h32 hb c1 c2]
     ·rw[Abc F2,Bi,Ou,Aa,xC _ _ _ i3 i4 F6,Aa,Gz,Aa];rw[show(((Ec (part b 12 4)+32:Nat):Int)).toNat=Ec (part b 12 4)+32 by omega,show(((Ec (part b 12 4)+32:Nat):Int)-32).toNat=Ec (part b 12 4) by omega];by_cases c3:(b.take (Ec (part b 12 4)+32)).drop (Ec (part b 12 4))=Mt (Ec (part b 12 4)-32) (Ec (part b 16 4)) 2147483648
      ·have c3':(b.take (Ec (part b 12 4)+32)).drop (Ec (part b 12 4))=Mt (Ec (part b 12 4)-32) (Ec (part b 16 4)) (2147483648:UInt64).toNat:=c3;rw[Abc (by simpa using c3'),fa7 hp h32 hb c1 c2 c3]
      ·have c3':¬(b.take (Ec (part b 12 4)+32)).drop (Ec (part b 12 4))=Mt (Ec (part b 12 4)-32) (Ec (part b 16 4)) (2147483648:UInt64).toNat:=c3;rw[Abe (by simpa using c3'),fa6 hp h32 hb c1 c2 c3]
    ·have c1':¬b.take 32=Mt (Ec (part b 12 4)-32) (Ec (part b 16 4)) (2684354560:UInt64).toNat:=c1;rw[Abe (by simpa using c1'),fa4 hp h32 c1]
 ·rw[Abe (by rw[Avf,Ax2];exact hp),fa1 hp]
theorem Aib(b:LB)(hl:b.length<4611686018427387904):Yo b=some (Qx b):=by
 rw[Yo,ED];by_cases h8:8<=b.length
 ·rw[Abc F2,Ji,Aa,show(8:Int).toNat=8 from rfl];by_cases ha:b.take 8=X0
  ·have hp:=And.intro h8 ha;rw[Abc (by simpa [X0]using ha),ER,EJ];by_cases h32:b.length<32
   ·rw[Abe F2,fa2 hp h32]
   ·have t:=oh (b.take 32) Ba5 Ba5;rw[uq,NB F0,NB F0]at t;rw[Abc F2,Ji,Aa,show(32:Int).toNat=32 from rfl,t,Aa];cases hb:IY b with
    |true=>rw[fa3 hp h32 hb];simp
    |false=>
     obtain⟨i1,i2,i3,i4⟩:=rQ b F0 hb;have i5:32<=Ec (part b 12 4):=by simp only[IY,Ax2]at hb;omega
     simp only[Ar3,Ayh,false_or,Aa,Bab];rw[Ti,qL _ _ _ i3 i4 F6,Aa,Aa];by_cases c1:b.take 32=Mt (Ec (part b 12 4)-32) (Ec (part b 16 4)) 2684354560
     ·have c1':b.take 32=Mt (Ec (part b 12 4)-32) (Ec (part b 16 4)) (2684354560:UInt64).toNat:=c1;rw[Abc (by simpa using c1'),FI,ES,Ag];have e1:64+((Ec (part b 12 4)-32:Nat):Int)=((Ec (part b 12 4)+32:Nat):Int):=F0
      rw[e1];by_cases c2:b.length<Ec (part b 12 4)+32
      ·rw[Abe F2,fa5 hp h32 hb c1 c2]
      ·rw[Abc F2,Bi,Ou,Aa,Ke,Abe rfl,qL _ _ _ i3 i4 F6,Aa,Aa];rw[show(((Ec (part b 12 4)+32:Nat):Int)).toNat=Ec (part b 12 4)+32 by omega,show(((Ec (part b 12 4)+32:Nat):Int)-32).toNat=Ec (part b 12 4) by omega];by_cases c3:(b.take (Ec (part b 12 4)+32)).drop (Ec (part b 12 4))=Mt (Ec (part b 12 4)-32) (Ec (part b 16 4)) 2147483648
       ·have c3':(b.take (Ec (part b 12 4)+32)).drop (Ec (part b 12 4))=Mt (Ec (part b 12 4)-32) (Ec (part b 16 4)) (2147483648:UInt64).toNat:=c3;rw[Abc (by simpa using c3'),fa7 hp h32 hb c1 c2 c3]
       ·have c3':¬(b.take (Ec (part b 12 4)+32)).drop (Ec (part b 12 4))=Mt (Ec (part b 12 4)-32) (Ec (part b 16 4)) (2147483648:UInt64).toNat:=c3;rw[Abe (by simpa using c3'),fa6 hp h32 hb c1 c2 c3]
     ·have c1':¬b.take 32=Mt (Ec (part b 12 4)-32) (Ec (part b 16 4)) (2684354560:UInt64).toNat:=c1;rw[Abe (by simpa using c1'),fa4 hp h32 c1]
  ·rw[Abe (by simpa [X0]using ha),fa1 (λh=>ha h.2)]
 ·rw[Abe F2,fa1 (λh=>h8 h.1)]
theorem Ajn{b:LB}{n:Int}(h:Qx b=(n,0)):64<=n/\n<=b.length:=by
 unfold Qx at h;split at h; · simp at h
 split at h; · simp at h
 split at h; · simp at h
 rename_i hb;split at h; · simp at h
 split at h; · simp at h
 simp only[As8,and_true]at h;have hb':¬IY b=true:=λe=>hb (.inl e);simp only[IY,Ab6]at hb';omega
def Ex(b:LB):Int×Int:=if(aK b).2≠6 then aK b else Qx b
theorem size_eq(b:LB)(hl:b.length<4611686018427387904):Ug b=some (Ex b):=by
 rw[Ug,Ajf b hl,Aa,Acv b hl];by_cases h:(aK b).2=6
 ·simp[Ex,h,Ah]
 ·simp[Ex,h,Ah]
theorem D1{b:LB}{n:Int}(h:Ex b=(n,0)):10<=n/\n<=b.length:=by
 unfold Ex at h;split at h
 ·have:=Aom h;omega
 ·have:=Ajn h;omega
def Df(b:LB):Nat->Nat->LI×Int
 |0,_=>([],6)
 |j+1,p=>if(Ex (b.drop p)).2=6 then([],0)else if(Ex (b.drop p)).2≠0 then([],(Ex (b.drop p)).2)else
  if 4000<(p:Int)+(Ex (b.drop p)).1 then([],4)else
  if(Df b j (p+(Ex (b.drop p)).1.toNat)).2=0 then((Ex (b.drop p)).1::(Df b j (p+(Ex (b.drop p)).1.toNat)).1,0)else([],(Df b j (p+(Ex (b.drop p)).1.toNat)).2)
theorem sR(b:LB):∀(j p:Nat),p<=b.length->p<=4000-> (Df b j p).2=0-> (∀x∈(Df b j p).1,10<=x)/\ (p:Int)+(Df b j p).1.sum<=b.length/\ (p:Int)+(Df b j p).1.sum<=4000
 |0,p,_,_,h=>by simp[Df]at h
 |j+1,p,hp,hq,h=>by
  rw[Df]at h⊢;split at h
  ·rename_i h6;rw[Abe h6];simp;omega
  ·rename_i h6;split at h
   ·rename_i h0;exact absurd h h0
   ·rename_i h0;rw[Abc h6,Abc h0];have hz:Ex (b.drop p)=((Ex (b.drop p)).1,0):=by rw[Prod.ext_iff];exact⟨rfl,Classical.not_not.1 h0⟩
    have hs:=D1 hz;rw[Atc]at hs;split at h
    ·simp at h
    ·rename_i h4;rw[Abc h4];split at h
     ·rename_i h00;rw[Abe h00];obtain⟨i1,i2,i3⟩:=sR b j _ F0 F0 h00;refine⟨λx hx=>?_,?_,?_⟩
      ·rcases List.mem_cons.1 hx with rfl|hx
       ·exact hs.1
       ·exact i1 x hx
      ·simp only[Avv];omega
      ·simp only[Avv];omega
     ·rename_i h00;exact absurd h h00
def Ah1(b:LB)(j p:Nat):Int×Int:=if(Df b j p).2=0 then((p:Int)+(Df b j p).1.sum,0)else(0,(Df b j p).2)
theorem B9(b:LB)(hl:b.length<4611686018427387904):∀(j p q:Nat),p<=b.length->p<=4000->b.length-p<j->j<=q->Rr b q (p:Int)=some (Ah1 b j p)
 |0,p,q,_,_,h,_=>by omega
 |j+1,p,q,hp,hp4,hj,hq=>by
  obtain⟨q,rfl⟩:∃k,q=k+1:=⟨q-1,F0⟩;rw[Rr,Ha,Aa,Afl,size_eq _ Ba5,Aa,Bb,Bb,Ah,Ah1];by_cases h6:(Ex (b.drop p)).2=6
  ·rw[Abe (by simpa using h6)];have:Df b (j+1) p=([],0):=by rw[Df,Abe h6]
   rw[this];simp
  ·rw[Abc (by simpa using h6)];by_cases h0:(Ex (b.drop p)).2=0
   ·have hz:Ex (b.drop p)=((Ex (b.drop p)).1,0):=by rw[Prod.ext_iff];exact⟨rfl,h0⟩
    have hs:=D1 hz;rw[Atc]at hs;rw[Ag,Al];by_cases h4:4000<(p:Int)+(Ex (b.drop p)).1
    ·rw[Abe (by simp[h0];omega)];have:Df b (j+1) p=([],4):=by rw[Df,Abc h6,Abc (λh=>h h0),Abe h4]
     rw[this];simp
    ·rw[Abc (by simp[h0];omega),Abc (by simpa using h0)];have ih:=B9 b hl j (p+(Ex (b.drop p)).1.toNat) q F0 F0 F0 F0;rw[show(p:Int)+(Ex (b.drop p)).1=((p+(Ex (b.drop p)).1.toNat:Nat):Int) by omega,ih,Ah1];have:Df b (j+1) p=if(Df b j (p+(Ex (b.drop p)).1.toNat)).2=0 then((Ex (b.drop p)).1::(Df b j (p+(Ex (b.drop p)).1.toNat)).1,0)else([],(Df b j (p+(Ex (b.drop p)).1.toNat)).2):=by
      rw[Df,Abc h6,Abc (λh=>h h0),Abc h4]
     rw[this];by_cases hr:(Df b j (p+(Ex (b.drop p)).1.toNat)).2=0
     ·simp only[hr,Ba2,Avv];congr 2;omega
     ·simp only[hr,Ayh]
   ·rw[Abc (by simp[h0]),Abe (by simpa using h0)];have:Df b (j+1) p=([],(Ex (b.drop p)).2):=by rw[Df,Abc h6,Abe h0]
    rw[this];simp[h0]
def Ak7(b:LB)(j p:Nat)(xs:LI):LI×Int:=if(Df b j p).2=0 then(xs++(Df b j p).1,0)else([],(Df b j p).2)
theorem Ald(bk:Int->LI->Option (LI×Int))(b:LB)(p:Nat)(hp:p<=b.length)(xs:LI)(hx:xs.length<=4000)(hl:b.length<4611686018427387904):Sr (Mg bk b) b (p:Int) xs=Mg bk b (p:Int) xs (Ex (b.drop p)).1 (Ex (b.drop p)).2:=by
 have hf:=Aib (b.drop p) Ba5;rw[Sr,Ha,Aa,Afl,Ank _ Ba5,Aa];by_cases h:(aK (b.drop p)).2=6
 ·simp[Ex,h,Bb,hf]
 ·simp[Ex,h,Bb]
theorem P0(b:LB)(hl:b.length<4611686018427387904):∀(j p q:Nat) (xs:LI),p<=b.length->p<=4000->b.length-p<j->j<=q->xs.length<=p->Ma b q (p:Int) xs=some (Ak7 b j p xs)
 |0,p,q,_,_,_,h,_,_=>by omega
 |j+1,p,q,xs,hp,hp4,hj,hq,hx=>by
  obtain⟨q,rfl⟩:∃k,q=k+1:=⟨q-1,F0⟩;rw[Ma,Ald _ b p hp xs F0 hl,Mg,EP,Bb,Ah,Ak7];by_cases h6:(Ex (b.drop p)).2=6
  ·rw[Abe (by simpa using h6)];have:Df b (j+1) p=([],0):=by rw[Df,Abe h6]
   rw[this];simp
  ·rw[Abc (by simpa using h6)];by_cases h0:(Ex (b.drop p)).2=0
   ·have hz:Ex (b.drop p)=((Ex (b.drop p)).1,0):=by rw[Prod.ext_iff];exact⟨rfl,h0⟩
    have hs:=D1 hz;rw[Atc]at hs;rw[Abc (by simpa using h0),Ag,Al];by_cases h4:4000<(p:Int)+(Ex (b.drop p)).1
    ·rw[Abe Ba5];have:Df b (j+1) p=([],4):=by rw[Df,Abc h6,Abc (λh=>h h0),Abe h4]
     rw[this];simp
    ·rw[Abc Ba5,Ct Ba5,Aa];have ih:=P0 b hl j (p+(Ex (b.drop p)).1.toNat) q (xs++[(Ex (b.drop p)).1]) F0 F0 F0 F0 Ba5;rw[show(p:Int)+(Ex (b.drop p)).1=((p+(Ex (b.drop p)).1.toNat:Nat):Int) by omega,ih,Ak7];have:Df b (j+1) p=if(Df b j (p+(Ex (b.drop p)).1.toNat)).2=0 then((Ex (b.drop p)).1::(Df b j (p+(Ex (b.drop p)).1.toNat)).1,0)else([],(Df b j (p+(Ex (b.drop p)).1.toNat)).2):=by
      rw[Df,Abc h6,Abc (λh=>h h0),Abc h4]
     rw[this];by_cases hr:(Df b j (p+(Ex (b.drop p)).1.toNat)).2=0
     ·simp only[hr,Ba2];simp
     ·simp only[hr,Ayh]
   ·rw[Abe (by simpa using h0)];have:Df b (j+1) p=([],(Ex (b.drop p)).2):=by rw[Df,Abc h6,Abe h0]
    rw[this];simp[h0]
theorem vO:∀{l:LI},(∀x∈l,10<=x)->0<=l.sum/\ (l.length:Int)<=l.sum
 |[],_=>by simp
 |x::l,h=>by
  have h1:=h x Au1;have h2:=vO (l:=l) λy hy=>h y (Aj8 _ hy);simp only[Avv,Aj4];omega
theorem wO(r:Int)(l:LI)(hl:l.length<=4000)(hx:∀x∈l,10<=x):∀(j i q:Nat) (n:Int),i+j=l.length->j<q->0<=n->n+(l.drop i).sum<=4000->Ig r l q n (i:Int)=some (n+(l.drop i).sum,r)
 |0,i,q+1,n,hi,_,_,_=>by
  rw[Ig,Rw,Abc F2,show i=l.length by omega,Ayb];simp[FG,EC]
 |j+1,i,q+1,n,hi,hq,hn,hs=>by
  have hlt:i<l.length:=F0
  rw[drop_cons hlt,Avv]at hs⊢;have h1:=hx l[i] (Avx hlt);have h2:=vO (l:=l.drop (i+1)) λy hy=>hx y (Bae hy);rw[Ig,Rw,Abe F2,Ci hlt,Aa,Aa,Ag,Ag];have ih:=wO r l hl hx j (i+1) q (n+l[i]) F0 F0 F0 F0;rw[show((i:Int)+1)=((i+1:Nat):Int) by omega,ih];congr 2;omega
def Bd(b:LB):Int×Int:=Ah1 b (b.length+1) 0
theorem AM(b:LB)(hl:b.length<4611686018427387904):Uu b=some (Bd b):=by
 have:=B9 b hl (b.length+1) 0 Aq F0 F0 F0 Ba7;exact this
theorem BZ(b:LB)(hl:b.length<4611686018427387904):Ly b=some (Bd b):=by
 have h:=P0 b hl (b.length+1) 0 Aq [] F0 F0 F0 Ba7 Bba;have h':OC b=some (Ak7 b (b.length+1) 0 []):=h;rw[Ly,EN,h',Aa,Bd,Ah1,Ak7];have ho:=sR b (b.length+1) 0 F0 F0;by_cases h0:(Df b (b.length+1) 0).2=0
 ·obtain⟨i1,i2,i3⟩:=ho h0;have hp:=vO i1;simp only[h0,Ba2,Av0];have:=wO 0 (Df b (b.length+1) 0).1 F0 i1 (Df b (b.length+1) 0).1.length 0 Aq 0 F0 Ba7 F0 (by simpa using i3);simpa [Rz]using this
 ·simp only[h0,Ayh];have:=wO (Df b (b.length+1) 0).2 [] Bba Bba 0 0 Aq 0 Bba Ba7 F0 Bba;simpa [Rz]using this
theorem FK{b:LB}(h:(Bd b).2=0):0<= (Bd b).1/\ (Bd b).1<=b.length/\ (Bd b).1<=4000:=by
 unfold Bd Ah1 at h⊢;split at h
 ·rename_i h0;rw[Abe h0];obtain⟨i1,i2,i3⟩:=sR b (b.length+1) 0 F0 F0 h0;have hp:=vO i1;exact⟨by simp;omega,i2,i3⟩
 ·rename_i h0;exact absurd h h0
theorem Bbl{p:Prop}(h:p:=by rw[Af,Ac,Ac];simp;omega):p:=h
end Go.Pl
namespace Go.Pl
open Go Go.Lv
def Ar(r:Nat):Nat:=max 1 (256*r/245)
theorem Ka(r:Nat):1<=Ar r:=Nat.le_max_left _ _
theorem oO{r:Nat}(h:r<=1048576):Ar r<=1100000:=by unfold Ar;omega
theorem C3{r:Nat}(h:r<=1048576):oA (1:Int) (Ca (Bg (256:Int) (r:Int)) (245:Int))=(Ar r:Int):=by
 rw[Gp,KI,Axh F0,Bs F0 F0,fu,Ar];omega
def Ax(g n:Nat):LI:=List.replicate ((n-1)/g) (g:Int)++[((n-(n-1)/g*g:Nat):Int)]
theorem Zo(g n:Nat):(Ax g n).length=(n-1)/g+1:=by simp[Ax]
theorem HG{g n:Nat}(h:n<=g)(h1:1<=n):Ax g n=[(n:Int)]:=by
 rw[Ax,Axl F0];simp
theorem gV{g n:Nat}(hg:1<=g)(h:g<n):Ax g n=(g:Int)::Ax g (n-g):=by
 have e:(n-1)/g=(n-g-1)/g+1:=by rw[<-Nat.add_div_right _ F0];congr 1;omega
 rw[Ax,Ax,e,Axk,Ayx];congr 4;have:=Axz (n-g-1) g;rw[Auj,Nat.one_mul];omega
theorem nD{g n:Nat}(hg:1<=g)(h1:1<=n):(n+g-1)/g=(n-1)/g+1:=by
 rw[<-Nat.add_div_right _ F0];congr 1;omega
theorem K4{r:Nat}(h1:1<=r)(h:r<=1048576):Qb (r:Int)=some ((Ar r:Int),0):=by
 rw[Qb,Abc Bbe,C3 h]
theorem Amd{r:Nat}(h:r<=1048576):Tl (r:Int)=some (Ar r:Int):=by rw[Tl,C3 h]
theorem YB{r n:Nat}(h1:1<=r)(h:r<=1048576)(n1:1<=n)(n2:n<=4000):Hh (r:Int) (n:Int)=some (if 1000<(n-1)/Ar r+1 then(0,4)else((((n-1)/Ar r+1:Nat):Int),0)):=by
 have hp:=Ka r;have hl:=oO h;have e:Ca (Aj (Ae (n:Int) (Ar r:Int)) (1:Int)) (Ar r:Int)=(((n-1)/Ar r+1:Nat):Int):=by
  have:(n+Ar r-1)/Ar r<=n+Ar r-1:=Auo _ _;rw[Ag,Bi,KI,Axh F0,show(n:Int)+(Ar r:Int)-1=((n+Ar r-1:Nat):Int) by omega,<-Int.natCast_ediv,nD hp n1];rw[nD hp n1]at this;generalize(n-1)/Ar r=k at*
  exact Bs F0 F0
 rw[Hh,K4 h1 h,Aa];simp only;rw[Abc Ba9,Abc Bbe,Bf Bbc,Aa,e];by_cases hk:1000<(n-1)/Ar r+1
 ·rw[Abe Bbb,Abe hk]
 ·rw[Abc Bbb,Abc hk]
theorem C9{r:Nat}(h:r<=1048576):∀(j n q:Nat) (acc:LI),n<=4000->n<=j->j<q->acc.length+n<=10000->En (r:Int) q (n:Int) acc=some (acc++(if n=0 then []else Ax (Ar r) n))
 |0,n,q+1,acc,hn,hj,hq,ha=>by
  obtain rfl:n=0:=F0
  rw[En,Il,Abc Bbk];simp[Mh,Md]
 |j+1,n,q+1,acc,hn,hj,hq,ha=>by
  have hp:=Ka r;have hl:=oO h;by_cases h0:n=0
  ·subst h0;rw[En,Il,Abc Bbk];simp[Mh,Md]
  ·rw[En,Il,Abe Bbb,Amd h,Aa,Ct Ba5,Aa,Aa,Bi,AO];by_cases hs:n<=Ar r
   ·rw[show min (n:Int) (Ar r:Int)=(n:Int) by omega,Abc h0,HG hs F0];have hz:∃k,q=k+1:=⟨q-1,F0⟩;obtain⟨q,rfl⟩:=hz;rw[En,Il,Abc Bbb];simp[Mh,Md]
   ·rw[show min (n:Int) (Ar r:Int)=(Ar r:Int) by omega,show(n:Int)-(Ar r:Int)=((n-Ar r:Nat):Int) by omega,C9 h j (n-Ar r) q _ F0 F0 F0 Ba5,Abc F0,Abc h0,gV hp (show Ar r<n by omega)];simp
theorem fJ{r n:Nat}(h:r<=1048576)(n1:1<=n)(n2:n<=4000):Di (r:Int) (n:Int)=some (Ax (Ar r) n):=by
 have:=C9 h n n Aq [] n2 (Aiw _) Ba7 Ba5;rw[Di,EM,DY,this,Abc F0];rfl
theorem mul_one(m:Nat)(h:m<=100000):HF (1:UInt64) (UInt64.ofNat m)=some (0,UInt64.ofNat m):=by
 have y1:(UInt64.ofNat m).toNat=m:=SO F0;have s1:Bv (1:UInt64) (GI.toZ (32:UInt64)).toNat=0:=F6
 have s2:Bv (UInt64.ofNat m) (GI.toZ (32:UInt64)).toNat=0:=by
  apply UInt64.toNat_inj.1;rw[DO,y1];exact Axl (Ax6 h F6)
 have s0:Bv (0:UInt64) (GI.toZ (32:UInt64)).toNat=0:=F6
 have a1:Dr (1:UInt64) (4294967295:UInt64)=1:=F6
 have a0:Dr (0:UInt64) (4294967295:UInt64)=0:=F6
 have a2:Dr (UInt64.ofNat m) (4294967295:UInt64)=UInt64.ofNat m:=by
  apply UInt64.toNat_inj.1;rw[zY,UInt64.toNat_and,y1]
  show m&&& (2^32-1)=m;rw[Axt,Abo F0]
 have m1:∀x:UInt64,Bg 1 x=x:=λx=>by rw[IW,UInt64.one_mul]
 have m0:∀x:UInt64,Bg 0 x=0:=λx=>by rw[IW,UInt64.zero_mul]
 have p0:∀x:UInt64,Ae 0 x=x:=λx=>by rw[JD,UInt64.zero_add]
 have p1:∀x:UInt64,Ae x 0=x:=λx=>by rw[JD,UInt64.add_zero]
 rw[HF,KQ];simp only[s1,s2,a1,a2,m1,m0,p0,p1,s0,a0,Aa]
theorem tO(v:Int)(m:Nat)(hm:m<=100000):∀(j n q:Nat),1<=n->n<=m->m-n<=j->j<q->Ei q (n:Int) (List.replicate n v++List.replicate (m-n) 0)=some (List.replicate m v)
 |j,n,q+1,hn,hnm,hj,hq=>by
  have hlen:Ac (List.replicate n v++List.replicate (m-n) 0)=(m:Int):=by simp[Ac];omega
  rw[Ei,Gl,hlen];by_cases h:n<m
  ·obtain⟨j,rfl⟩:∃k,j=k+1:=⟨j-1,F0⟩;rw[Abe Ba6];have v1:aP (m:Int) (n:Int) (m:Int)=some ():=by rw[aP,Bf];simp;omega
   have v2:aP (m:Int) (0:Int) (n:Int)=some ():=by rw[aP,Bf];simp;omega
   have e1:TL (List.replicate n v++List.replicate (m-n) 0) (0:Int) ((n:Int)-0)=List.replicate n v:=by
    simp[TL]
   rw[v1,Aa,v2,Aa,e1];have e2:PX ((m:Int)-(n:Int)) (List.replicate n v).length=((min n (m-n):Nat):Int):=by
    rw[PX,Asw];split<;>omega
   have e3:Tw (List.replicate n v++List.replicate (m-n) 0) (n:Int) ((m:Int)-(n:Int)) (List.replicate n v)=List.replicate (n+min n (m-n)) v++List.replicate (m-(n+min n (m-n))) 0:=by
    have t1:((m:Int)-(n:Int)).toNat=m-n:=F0
    have t2:(List.replicate n v++List.replicate (m-n) (0:Int)).take n=List.replicate n v:=by simp
    rw[Tw,t1,Afl,t2,List.take_replicate,Asw,<-Apj,List.replicate_append_replicate,List.drop_append,Asw,Nat.min_comm (m-n) n];simp only[List.drop_replicate];rw[show n-(n+min n (m-n))=0 by omega,List.replicate_zero,Av0,show m-n-(n+min n (m-n)-n)=m-(n+min n (m-n)) by omega]
   rw[e2,e3,Ag,show(n:Int)+((min n (m-n):Nat):Int)=((n+min n (m-n):Nat):Int) by omega];exact tO v m hm j (n+min n (m-n)) q F0 F0 F0 F0
  ·rw[Abc Ba6];obtain rfl:n=m:=F0
   simp[Ia,Mk]
theorem Ajr(v:Int)(m:Nat)(hm:m<=100000):Mf [v] (m:Int)=some (List.replicate m v):=by
 have y1:(UInt64.ofNat m).toNat=m:=SO F0;have c1:(Ad (Ac [v]):UInt64)=1:=by rfl
 have c2:(Ad (m:Int):UInt64)=UInt64.ofNat m:=Rv m;have c3:(Ad (UInt64.ofNat m):Int)=(m:Int):=by rw[sU F0,y1]
 rw[Mf,Np,Abc Bbi,Xx,Nk,c1,c2,mul_one m hm,Aa];simp only;rw[Abc (by rw[RV,RV,y1];simp;show m<=9223372036854775807;omega),Xt,Nr,c3,pQ,Aa,Bf Bbt,Aa,Xw,Afl];by_cases h0:m=0
 ·subst h0;have hF:Aq=(Aq-1)+1:=by have:=Am;omega
  rw[hF,Ei,Gl];simp[Ac,G4,PX,Af,Ia,Mk]
 ·have:=tO v m hm m 1 Aq F0 F0 F0 Ba7;have e1:PX (Ac (List.replicate m (0:Int))) [v].length=((1:Nat):Int):=by simp[PX,Ac];omega
  have e2:G4 (List.replicate m (0:Int)) [v]=List.replicate 1 v++List.replicate (m-1) 0:=by
   obtain⟨k,rfl⟩:∃k,m=k+1:=⟨m-1,F0⟩;simp[G4]
  rw[e1,e2,this]
theorem Aja(l m:LI)(h:l.length+m.length<=1000000):Mb [l,m]=some (l++m):=by
 have hF:Aq=(Aq-3)+1+1+1:=by have:=Am;omega
 rw[Mb,Nn,Xo];have g0:Ak [l,m] (0:Int)=some l:=rfl;have g1:Ak [l,m] (1:Int)=some m:=rfl;have l2:Ac [l,m]=2:=rfl;have h3:Mq [l,m] []=some (l++m):=by
  rw[Mq,Ml,Mo,hF,Dw,Fy,l2,Abe F6,g0,Aa,Ct Ba5,Aa,Av0,show Ae (0:Int) 1=1 by decide,
   Dw,Fy,l2,Abe F6,g1,Aa,Ct,Aa,show Ae (1:Int) 1=2 by decide,Dw,Fy,l2,Abc F6]
  rfl
 rw[hF,Eh,Gj,l2,Abe F6,g0,Aa,Ag Bbh Bbh,Abc Bbz,show Ae (0:Int) 1=1 by decide,
  Eh,Gj,l2,Abe F6,g1,Aa,Ag Bbh Bbh,Abc Bbl,show Ae (1:Int) 1=2 by decide,
  Eh,Gj,l2,Abc F6,Vz,Mr,Abc Bbl,Wc,Mm]
 have z:Aj (0:Int) 0=0:=F6
 have n0:(0:Int)+Ac l+Ac m=((l.length+m.length:Nat):Int):=by simp[Ac]
 rw[z,n0,Bi,Int.sub_zero];by_cases hp:0<l.length+m.length
 ·rw[Abe Bbb,show aP (0:Int) 0 0=some ()from rfl,Aa,pQ,Aa,Ct Ba5,Aa];rw[show aP (Ac ([]++List.replicate ((l.length+m.length:Nat):Int).toNat (0:Int))) 0 0=some () by rw[aP,Bf];simp[Ac];omega,Aa];simp only[TL,Int.sub_self,Int.toNat_zero,Aya];exact h3
 ·rw[Abc Bbb];exact h3
theorem Abj{r n:Nat}(h1:1<=r)(h:r<=1048576)(n1:1<=n)(n2:n<=4000)(hk:(n-1)/Ar r+1<=1000):Ue (r:Int) (n:Int)=some (Ax (Ar r) n,0):=by
 have hp:=Ka r;have hl:=oO h;have hd:=Axz (n-1) (Ar r);rw[Ue,YB h1 h n1 n2,Abc F0,Aa];simp only;rw[Abc Ba9,K4 h1 h,Aa];simp only;rw[Ax];generalize(n-1)/Ar r=k at*
 have e1:Aj ((k+1:Nat):Int) 1=(k:Int):=by rw[Bi];omega
 have e2:(k:Int)*(Ar r:Int)=((k*Ar r:Nat):Int):=by simp
 rw[e1,Ajr _ _ F0,Aa,Gp (by rw[e2];omega) (by rw[e2];omega),e2,Bi,PG,Aja _ _ Ba5,Aa,Aa,show(n:Int)-((k*Ar r:Nat):Int)=((n-k*Ar r:Nat):Int) by omega]
def Hb(f c w r n:Nat):Bool:=decide ((f=1\/f=2)/\ (1<=c/\c<=6)/\ (w=8\/w=16\/w=24)/\ (1<=r/\r<=1048576)/\1<=n)
def FW(c r n:Nat):Bool:=decide (n<=4000/c/\ (n-1)/Ar r+1<=1000)
theorem cV(f c w r n:Nat):Xf (f:Int) (c:Int) (w:Int) (r:Int) (n:Int)=some (Hb f c w r n):=by
 have e2:GC (f:Int) (c:Int) (w:Int) (r:Int) (n:Int)=some (decide ((f=1\/f=2)/\ (1<=c/\c<=6)/\ (1<=r/\r<=1048576)/\1<=n)):=by
  rw[GC,UZ];congr 1;rw[Aoi];simp only[Bb,Al,O9,Ab5,Ax8,Aye,Ab6];omega
 have g:∀k:Nat,geq (w:Int) (k:Int)=decide (w=k):=λk=>by rw[Bb,Aoi];simp;omega
 have g8:geq (w:Int) (8:Int)=decide (w=8):=g 8;have g16:geq (w:Int) (16:Int)=decide (w=16):=g 16;have g24:geq (w:Int) (24:Int)=decide (w=24):=g 24;rw[Xf,UR,e2,g8,g16,g24,Hb];by_cases h8:w=8
 ·subst h8;simp
 ·by_cases h16:w=16
  ·subst h16;simp
  ·by_cases h24:w=24
   ·subst h24;simp
   ·simp[h8,h16,h24]
theorem Ady(f c w r n:Nat):Ww (f:Int) (c:Int) (w:Int) (r:Int) (n:Int)=some (Hb f c w r n):=by
 rw[Ww,Hb];simp only[Bb,Dl,O9,Ab5,Ax8,Aye,Ab6,Bap];split
 ·rename_i h;congr 1;rw[Aoi];simp only[Ab5,Ax8,Aye,Ab6];omega
 ·rename_i h;congr 1;symm;rw[Ax2];omega
theorem As1{c:Nat}(h:1<=c):Ca (4000:Int) (c:Int)=((4000/c:Nat):Int):=by
 have:4000/c<=4000:=Auo _ _;rw[KI,Axh F0,show(4000:Int)=((4000:Nat):Int)from rfl,<-Int.natCast_ediv];generalize 4000/c=k at*
 exact Bs F0 F0
theorem rP{f c w r n:Nat}(h:Hb f c w r n=true):JQ (f:Int) (c:Int) (w:Int) (r:Int) (n:Int)=some (FW c r n):=by
 simp only[Hb,Ab6]at h;have hd:4000/c<=4000:=Auo _ _;rw[JQ,Bf Bbc,Aa,As1 F0,FW];generalize 4000/c=m at*
 by_cases h1:n<=m
 ·rw[Abc Bbb,YB F0 F0 F0 F0,Aa];generalize(n-1)/Ar r+1=k;by_cases h2:1000<k
  ·rw[Abe h2];simp[Bb,O9];omega
  ·rw[Abc h2];simp[Bb,O9,h1];omega
 ·rw[Abe Bbb];simp[h1]
theorem Aog{f c w r n:Nat}(h:Hb f c w r n=true):DK (f:Int) (c:Int) (w:Int) (r:Int) (n:Int)=some (!FW c r n):=by
 simp only[Hb,Ab6]at h;have hd:4000/c<=4000:=Auo _ _;rw[DK,Bf Bbc,Aa,As1 F0,FW];generalize 4000/c=m at*
 by_cases h1:n<=m
 ·rw[Abc Bbb,fJ F0 F0 F0,Aa,Ac,Zo];generalize(n-1)/Ar r+1=k;congr 1;rw[Al,Aoi];simp only[Ab6,Avf,Ax2];omega
 ·rw[Abe Bbb];simp[h1]
def Xp:LB:=[84,84,65,49]
def f0(b:LB):Nat:=Ec (part b 4 2)
def f1(b:LB):Nat:=Ec (part b 6 2)
def f2(b:LB):Nat:=Ec (part b 8 2)
def f3(b:LB):Nat:=Ec (part b 10 4)
def f4(b:LB):Nat:=Ec (part b 14 4)
abbrev H6:=Int×Int×Int×Int×Int×Int
def Jt(b:LB):H6:=
 if b.take (min 4 b.length)≠Xp.take (min 4 b.length)then(0,0,0,0,0,12)else if b.length<22 then(0,0,0,0,0,24)else
 if(Dn (b.take 18)).toNat≠Ec (part b 18 4)then(0,0,0,0,0,22)else
 if Hb (f0 b) (f1 b) (f2 b) (f3 b) (f4 b)=false then(0,0,0,0,0,12)else
 if FW (f1 b) (f3 b) (f4 b)=false then(0,0,0,0,0,4)else((f0 b:Int),(f1 b:Int),(f2 b:Int),(f3 b:Int),(f4 b:Int),0)
section
variable {b:LB}
theorem rs1(h:b.take (min 4 b.length)≠Xp.take (min 4 b.length)):Jt b=(0,0,0,0,0,12):=by rw[Jt,Abe h]
variable (h:b.take (min 4 b.length)=Xp.take (min 4 b.length))
include h
theorem rs2(h2:b.length<22):Jt b=(0,0,0,0,0,24):=by rw[Jt,Abc (λe=>e h),Abe h2]
variable (h2:¬b.length<22)
include h2
theorem rs3(h3:(Dn (b.take 18)).toNat≠Ec (part b 18 4)):Jt b=(0,0,0,0,0,22):=by rw[Jt,Abc (λe=>e h),Abc h2,Abe h3]
variable (h3:(Dn (b.take 18)).toNat=Ec (part b 18 4))
include h3
theorem rs4(h4:Hb (f0 b) (f1 b) (f2 b) (f3 b) (f4 b)=false):Jt b=(0,0,0,0,0,12):=by rw[Jt,Abc (λe=>e h),Abc h2,Abc (λe=>e h3),Abe h4]
variable (h4:Hb (f0 b) (f1 b) (f2 b) (f3 b) (f4 b)=true)
include h4
theorem rs5(h5:FW (f1 b) (f3 b) (f4 b)=false):Jt b=(0,0,0,0,0,4):=by rw[Jt,Abc (λe=>e h),Abc h2,Abc (λe=>e h3),Abc (by rw[h4];simp),Abe h5]
theorem rs6(h5:FW (f1 b) (f3 b) (f4 b)=true):Jt b=((f0 b:Int),(f1 b:Int),(f2 b:Int),(f3 b:Int),(f4 b:Int),0):=by rw[Jt,Abc (λe=>e h),Abc h2,Abc (λe=>e h3),Abc (by rw[h4];simp),Abc (by rw[h5];simp)]
end
theorem Akr(b:LB)(h2:¬b.length<22):Bo (Ad (Dn (b.take 18)):UInt64) (kF (part b 18 4))=decide ((Dn (b.take 18)).toNat≠Ec (part b 18 4)):=by
 rw[MN,Cp,Aoi];simp only[Baz,ne_eq,Ab6];rw[<-Az3,SO (by have:=(Dn (b.take 18)).toNat_lt;omega),SP Bbj]
theorem cQ(b:LB)(a w:Nat)(i q:Nat)(l:LI)(hi:i<5)(hl:l.length=5)(hw:Ak ([2,2,2,4,4]:LI) (i:Int)=some (w:Int))(h1:1<=w)(h4:w<=4)(ha:a+w<=b.length)(hb:b.length<4611686018427387904):
  Lk b (q+1) (a:Int) (i:Int) l=Lk b q ((a+w:Nat):Int) ((i+1:Nat):Int) (l.set i (Ec (part b a w):Int)):=by
 rw[Lk,AX,Abe Ba6,hw,Aa,M3 b a w h1 F0 ha hb,Aa];simp only;rw[Ci,Aa,Qr _ F0,Aa,HD (by rw[Cw ha];omega),Ag,Ag];rfl
theorem Al8(b:LB)(h22:¬b.length<22)(hb:b.length<4611686018427387904):OQ b 4 0 (List.replicate 5 0)=AV [(f0 b:Int),(f1 b:Int),(f2 b:Int),(f3 b:Int),(f4 b:Int)]:=by
 have hF:Aq=(Aq-6)+1+1+1+1+1+1:=by have:=Am;omega
 rw[OQ,hF,show(4:Int)=((4:Nat):Int)from rfl,show(0:Int)=((0:Nat):Int)from rfl];rw[cQ b 4 2 0 _ _ F0 Bba rfl F0 F0 F0 hb,cQ b 6 2 1 _ _ F0 Bba rfl F0 F0 F0 hb,cQ b 8 2 2 _ _ F0 Bba rfl F0 F0 F0 hb,
  cQ b 10 4 3 _ _ F0 Bba rfl F0 F0 F0 hb,cQ b 14 4 4 _ _ F0 Bba rfl F0 F0 F0 hb,Lk,AX,Abc Bbi]
 rfl
theorem Ayq(b:LB):Te [84,84,65,49] (b.take (min 4 b.length))=some (decide (b.take (min 4 b.length)=Xp.take (min 4 b.length))):=by
 have hl:(b.take (min 4 b.length)).length=min 4 b.length:=by rw[Afi];omega
 rw[Te,Iw,Abe (by rw[Dl,Ac,Ac,hl];simp;omega),Ac,hl,Ji F0 Ba5,Aa,Aa,Afl];congr 1;rw[Aoi];rw[Ab6,Aye];exact eq_comm
theorem Aw1(b:LB):Gi (4:Int) (Ac b)=((min 4 b.length:Nat):Int):=by rw[AO,Ac];omega
theorem iS(b:LB)(hb:b.length<4611686018427387904):IC b=some (Jt b):=by
 rw[IC,PZ,Aw1,Ji,Aa,Afl,Ayq,Aa];by_cases h:b.take (min 4 b.length)=Xp.take (min 4 b.length)
 ·rw[Abc (by simpa using h)];by_cases h2:b.length<22
  ·rw[Abe F2,rs2 h h2]
  ·have a1:VO b 18 4=some (kF (part b 18 4),0):=M3 b 18 4 F0 F0 F0 hb;rw[Abc F2,a1,Aa];simp only;rw[Ji,Aa,show(18:Int).toNat=18 from rfl,rV _ Ba5,Aa];simp only;rw[Akr b h2];by_cases h3:(Dn (b.take 18)).toNat=Ec (part b 18 4)
   ·rw[Abc (by simpa using h3),Al8 b h2 hb,AV,gM];rw[show Ak [(f0 b:Int),(f1 b:Int),(f2 b:Int),(f3 b:Int),(f4 b:Int)] 0=some (f0 b:Int)from rfl,show Ak [(f0 b:Int),(f1 b:Int),(f2 b:Int),(f3 b:Int),(f4 b:Int)] 1=some (f1 b:Int)from rfl,show Ak [(f0 b:Int),(f1 b:Int),(f2 b:Int),(f3 b:Int),(f4 b:Int)] 2=some (f2 b:Int)from rfl,
     show Ak [(f0 b:Int),(f1 b:Int),(f2 b:Int),(f3 b:Int),(f4 b:Int)] 3=some (f3 b:Int)from rfl,show Ak [(f0 b:Int),(f1 b:Int),(f2 b:Int),(f3 b:Int),(f4 b:Int)] 4=some (f4 b:Int)from rfl]
    simp only[Aa,cV];cases h4:Hb (f0 b) (f1 b) (f2 b) (f3 b) (f4 b)with
    |false=>rw[rs4 h h2 h3 h4];rfl
    |true=>
     rw[rP h4,Abc Bba,Aa];cases h5:FW (f1 b) (f3 b) (f4 b)with
     |false=>rw[rs5 h h2 h3 h4 h5];rfl
     |true=>rw[rs6 h h2 h3 h4 h5];rfl
   ·rw[Abe (by simpa using h3),rs3 h h2 h3]
 ·rw[Abe (by simpa using h),rs1 h]
theorem cZ(b:LB)(hb:b.length<4611686018427387904):Nd b=some (Jt b):=by
 rw[Nd,HZ,Aw1,Ji,Aa,Afl,Ji F0 Ba5,Aa,Afl];by_cases h:b.take (min 4 b.length)=Xp.take (min 4 b.length)
 ·rw[Abc (by rw[h];simp[Xp]),JJ,IE];by_cases h2:b.length<22
  ·rw[Abe F2,rs2 h h2]
  ·have a1:By b 18 22=some (part b 18 4):=Na 18 4;have c1:By b 4 6=some (part b 4 2):=Na 4 2;have c2:By b 6 8=some (part b 6 2):=Na 6 2;have c3:By b 8 10=some (part b 8 2):=Na 8 2;have c4:By b 10 14=some (part b 10 4):=Na 10 4;have c5:By b 14 18=some (part b 14 4):=Na 14 4;have hs:Bo (kF (part b 18 4)) (Ad (Dn (b.take 18)):UInt64)=decide ((Dn (b.take 18)).toNat≠Ec (part b 18 4)):=by
    rw[<-Akr b h2,MN,MN,Aoi];simp only[Baz,ne_eq];exact not_congr eq_comm
   have lp:∀a w,a+w<=b.length->Da (part b a w)=some (kF (part b a w)):=λa w h=>Aam _ (by rw[Cw h];omega);rw[Abc F2,a1,Aa,Ji,Aa,show(18:Int).toNat=18 from rfl,lp _ _ F0,Aa,Aku _ Ba5,Aa,hs];by_cases h3:(Dn (b.take 18)).toNat=Ec (part b 18 4)
   ·rw[Abc (by simpa using h3),JN,IQ,c1,Aa,c2,Aa,c3,Aa,c4,Aa,c5,Aa,lp _ _ F0,Aa,lp _ _ F0,Aa,lp _ _ F0,Aa,lp _ _ F0,Aa,lp _ _ F0,Aa,
     JG,IP,HD Bbj,HD Bbj,HD Bbj,HD Bbj,HD Bbj]
    rw[show Ec (part b 4 2)=f0 b from rfl,show Ec (part b 6 2)=f1 b from rfl,show Ec (part b 8 2)=f2 b from rfl,show Ec (part b 10 4)=f3 b from rfl,show Ec (part b 14 4)=f4 b from rfl,Ady,Aa];cases h4:Hb (f0 b) (f1 b) (f2 b) (f3 b) (f4 b)with
    |false=>rw[rs4 h h2 h3 h4];rfl
    |true=>
     rw[Aog h4,Abc Bba,Aa];cases h5:FW (f1 b) (f3 b) (f4 b)with
     |false=>rw[rs5 h h2 h3 h4 h5];rfl
     |true=>rw[rs6 h h2 h3 h4 h5];rfl
   ·rw[Abe (by simpa using h3),rs3 h h2 h3]
 ·rw[Abe (by simpa [Xp]using h),rs1 h]
theorem VP{b:LB}(h:(Jt b).2.2.2.2.2=0):Jt b=((f0 b:Int),(f1 b:Int),(f2 b:Int),(f3 b:Int),(f4 b:Int),0)/\22<=b.length/\Hb (f0 b) (f1 b) (f2 b) (f3 b) (f4 b)=true/\FW (f1 b) (f3 b) (f4 b)=true:=by
 unfold Jt at h⊢;split at h; · simp at h
 rename_i c1;rw[Abc c1];split at h; · simp at h
 rename_i c2;rw[Abc c2];split at h; · simp at h
 rename_i c3;rw[Abc c3];split at h; · simp at h
 rename_i c4;rw[Abc c4];split at h; · simp at h
 rename_i c5;rw[Abc c5];exact⟨rfl,F0,by simpa using c4,by simpa using c5⟩
theorem eQ{f c w r n:Nat}(h:Hb f c w r n=true)(h2:FW c r n=true):Xj (f:Int) (c:Int) (w:Int) (r:Int) (n:Int)=some (Ax (Ar r) n,0):=by
 have hc:Pz (f:Int) (c:Int) (w:Int) (r:Int) (n:Int)=some 0:=by
  rw[Pz,cV,Aa,h,Abc Bba,rP h,Aa,h2];rfl
 have hd:4000/c<=4000:=Auo _ _;simp only[Hb,Ab6]at h;simp only[FW,Ab6]at h2;rw[Xj,hc,Aa,Abc Ba9,Abj F0 F0 F0 F0 h2.2];rfl
def okL:LI->Int->Bool
 |[],_=>true
 |x::l,left=>decide (5<=x/\x<=left)&&okL l (left-x)
theorem Acr:∀l:LI,(∀x∈l,5<=x)->0<=l.sum
 |[],_=>by simp
 |x::l,h=>by
  have h1:=h x Au1;have h2:=Acr l λy hy=>h y (Aj8 _ hy);rw[Avv];omega
theorem oV:∀(l:LI) (left:Int),0<=left-> (okL l left=true↔(∀x∈l,5<=x)/\l.sum<=left)
 |[],left,h=>by simp[okL];exact h
 |x::l,left,h=>by
  rw[okL,Ab5,Ab6,Avv];by_cases hx:5<=x/\x<=left
  ·rw[oV l (left-x) F0];constructor
   ·rintro⟨_,h1,h2⟩;exact⟨λy hy=>(List.mem_cons.1 hy).elim (λe=>e▸hx.1) (h1 y),F0⟩
   ·rintro⟨h1,h2⟩;exact⟨hx,λy hy=>h1 y (Aj8 _ hy),F0⟩
  ·constructor
   ·rintro⟨h1,_⟩;exact absurd h1 hx
   ·rintro⟨h1,h2⟩;have h3:=h1 x Au1;have:0<=l.sum:=Acr l λy hy=>h1 y (Aj8 _ hy);omega
theorem E0(l:LI)(hl:l.length<=1000):∀(j i q:Nat) (left:Int),i+j=l.length->j<q->0<=left->left<=100000->Pc l q left (i:Int)=some (if okL (l.drop i) left=true then 0 else 8)
 |0,i,q+1,left,hi,_,_,_=>by
  rw[Pc,DQ,Abc F2,show i=l.length by omega,Ayb];rfl
 |j+1,i,q+1,left,hi,hq,h0,h1=>by
  have hlt:i<l.length:=F0
  rw[Pc,DQ,Abe F2,Ci hlt,Aa,drop_cons hlt];by_cases h:5<=l[i]/\l[i]<=left
  ·rw[Abc Bbe,Bi,Ag];have ih:=E0 l hl j (i+1) q (left-l[i]) F0 F0 F0 F0;rw[show((i:Int)+1)=((i+1:Nat):Int) by omega,ih];simp[okL,h]
  ·rw[Abe Bbe];have:okL (l[i]::l.drop (i+1)) left=false:=by rw[okL,Az0 h];rfl
   rw[this];rfl
def TS(l:LI):Bool:=decide (1<=l.length/\l.length<=1000)&&okL l 100000
theorem mh(l:LI)(hl:l.length<=1000):Px l=some (if TS l=true then 0 else 8):=by
 rw[Px,CX,TS];by_cases h:1<=l.length
 ·rw[Abc (by rw[Bb,Al,Ac];simp;constructor;(intro e;subst e;simp at h);omega),fE];have:=E0 l hl l.length 0 Aq 100000 F0 Ba7 F0 F0;rw[List.drop_zero]at this;rw[decide_eq_true (show 1<=l.length/\l.length<=1000 from⟨h,hl⟩),Baa];exact this
 ·have:l=[]:=by
   cases l with
   |nil=>rfl
   |cons _ _=>simp at h
  subst this;rfl
theorem O7(l:LI)(hl:l.length<=1000):∀(j i q:Nat) (s:Int),i+j=l.length->j<q->0<=s->s<=100000*(i:Int)->Iq l q s (i:Int)=some (if(∀x∈l.drop i,5<=x/\x<=100000)/\s+(l.drop i).sum<=100000 then 0 else 8)
 |0,i,q+1,s,hi,_,_,_=>by
  rw[Iq,So,Abc F2,show i=l.length by omega,Ayb,CV,DI];by_cases h:s<=100000
  ·rw[Abc Bbb,Abe Ba5]
  ·rw[Abe Bbb,Abc Ba5]
 |j+1,i,q+1,s,hi,hq,h0,h1=>by
  have hlt:i<l.length:=F0
  rw[Iq,So,Abe F2,Ci hlt,Aa,drop_cons hlt];by_cases h5:l[i]<5
  ·rw[Abe (by rw[Af];simpa using h5),Abc (λh=>by have:=(h.1 l[i] Au1).1;omega)]
  ·rw[Abc (by rw[Af];simpa using h5),Aa];by_cases h6:100000<l[i]
   ·rw[Abe (by rw[Al];simpa using h6),Abc (λh=>by have:=(h.1 l[i] Au1).2;omega)]
   ·rw[Abc (by rw[Al];simpa using h6),EU,EO,Ci hlt,Aa,Ag,Ag];have ih:=O7 l hl j (i+1) q (s+l[i]) F0 F0 F0 F0;rw[show((i:Int)+1)=((i+1:Nat):Int) by omega,ih];have e:((∀x∈l.drop (i+1),5<=x/\x<=100000)/\s+l[i]+(l.drop (i+1)).sum<=100000)↔((∀x∈l[i]::l.drop (i+1),5<=x/\x<=100000)/\s+(l[i]::l.drop (i+1)).sum<=100000):=by
     rw[Avv,List.forall_mem_cons,Az4];constructor
     ·rintro⟨a,b⟩;exact⟨⟨F0,a⟩,b⟩
     ·rintro⟨⟨_,a⟩,b⟩;exact⟨a,b⟩
    simp only[e]
theorem Ace:∀{l:LI},(∀x∈l,5<=x)->∀x∈l,x<=l.sum
 |[],_,x,hx=>by simp at hx
 |y::l,h,x,hx=>by
  have h1:=h y Au1;have h2:=Acr l λz hz=>h z (Aj8 _ hz);rw[Avv];rcases List.mem_cons.1 hx with rfl|hx
  ·omega
  ·have:=Ace (l:=l) (λz hz=>h z (Aj8 _ hz)) x hx;omega
theorem Abb(l:LI)(hl:l.length<=1000):Is l=some (if TS l=true then 0 else 8):=by
 rw[Is,Ry,TS];by_cases h:1<=l.length
 ·have:=O7 l hl l.length 0 Aq 0 F0 Ba7 F0 F0;rw[Abc (by rw[Af,Al,Ac];simp;omega),FA];refine Axr this ?_;rw[List.drop_zero,decide_eq_true (show 1<=l.length/\l.length<=1000 from⟨h,hl⟩),Baa];have e:((∀x∈l,5<=x/\x<=100000)/\0+l.sum<=100000)↔okL l 100000=true:=by
   rw[oV l 100000 F0,Int.zero_add];constructor
   ·rintro⟨a,b⟩;exact⟨λx hx=>(a x hx).1,b⟩
   ·rintro⟨a,b⟩;exact⟨λx hx=>⟨a x hx,Int.le_trans (Ace a x hx) b⟩,b⟩
  simp only[e]
 ·have:l=[]:=by
   cases l with
   |nil=>rfl
   |cons _ _=>simp at h
  subst this;rfl
theorem cG(l:LI):Px l=some (if TS l=true then 0 else 8):=by
 by_cases hl:l.length<=1000
 ·exact mh l hl
 ·rw[Px,CX,Abe Ba8,TS,Az0 F0];rfl
theorem I9(l:LI):Is l=some (if TS l=true then 0 else 8):=by
 by_cases hl:l.length<=1000
 ·exact Abb l hl
 ·rw[Is,Ry,Abe Ba8,TS,Az0 F0];rfl
theorem Adv(l:LI)(hl:l.length<=1000)(hx:∀x∈l,0<=x/\x<4294967296):Px l=some (if TS l=true then 0 else 8):=cG l
theorem Ah0(l:LI)(hl:l.length<=1000)(hx:∀x∈l,0<=x/\x<4294967296):Is l=some (if TS l=true then 0 else 8):=I9 l
def MY(b:LB)(n:Nat):LI:=(List.range n).map λi=>(Ec (part b (4*i) 4):Int)
theorem IM(b:LB)(n:Nat):(MY b n).length=n:=by simp[MY]
theorem rK(b:LB)(n:Nat):MY b (n+1)=MY b n++[(Ec (part b (4*n) 4):Int)]:=by simp[MY,List.range_succ]
theorem Aeo(b:LB)(n:Nat)(h:4*n<=b.length):∀x∈MY b n,0<=x/\x<4294967296:=by
 intro x hx;simp only[MY,List.mem_map,List.mem_range]at hx;obtain⟨i,hi,rfl⟩:=hx;have:=Af9 (l:=part b (4*i) 4) Bbj;omega
def Jw(b:LB)(n:Nat):LI×Int:=
 if ¬(1<=n/\n<=1000)then([],2)else if b.length<4*n+4 then([],24)else if(Dn (b.take (4*n))).toNat≠Ec (part b (4*n) 4)then([],22)else
 if TS (MY b n)=true then(MY b n,0)else([],12)
theorem Af0{b:LB}{n:Nat}(h:1<=n/\n<=1000)(h2:¬b.length<4*n+4):Bo (Ad (Dn (b.take (4*n))):UInt64) (kF (part b (4*n) 4))=decide ((Dn (b.take (4*n))).toNat≠Ec (part b (4*n) 4)):=by
 rw[MN,Cp,Aoi];simp only[Baz,ne_eq,Ab6];rw[<-Az3,SO (by have:=(Dn (b.take (4*n))).toNat_lt;omega),SP Bbj]
section
variable {b:LB} {n:Nat}
theorem ss1(h:¬(1<=n/\n<=1000)):Jw b n=([],2):=by rw[Jw,Abe h]
variable (h:1<=n/\n<=1000)
include h
theorem ss2(h2:b.length<4*n+4):Jw b n=([],24):=by rw[Jw,Abc (λe=>e h),Abe h2]
variable (h2:¬b.length<4*n+4)
include h2
theorem ss3(h3:(Dn (b.take (4*n))).toNat≠Ec (part b (4*n) 4)):Jw b n=([],22):=by rw[Jw,Abc (λe=>e h),Abc h2,Abe h3]
theorem ss4(h3:(Dn (b.take (4*n))).toNat=Ec (part b (4*n) 4)):Jw b n=if TS (MY b n)=true then(MY b n,0)else([],12):=by rw[Jw,Abc (λe=>e h),Abc h2,Abc (λe=>e h3)]
end
theorem O3(b:LB)(l8:LI)(n:Nat)(hn:n<=1000)(h8:l8.length=n)(hb:4*n+4<=b.length)(hb2:b.length<4611686018427387904):∀(j i q:Nat),i+j=n->j<q->Ro b l8 q (i:Int) (MY b i++List.replicate j 0)=GP (MY b n)
 |0,i,q+1,hi,_=>by
  obtain rfl:i=n:=F0
  rw[Ro,GU,Abc F2];simp
 |j+1,i,q+1,hi,hq=>by
  have hlen:(MY b i++List.replicate (j+1) 0).length=i+(j+1):=by simp[IM]
  have ha:=M3 b (4*i) 4 F0 F0 F0 hb2;rw[Ro,GU,Abe F2,Gp,show(4:Int)*(i:Int)=((4*i:Nat):Int) by omega,show(4:Int)=((4:Nat):Int)from rfl,ha,Aa];simp only;rw[Ci (by rw[hlen];omega),Aa,Qr _ (by rw[hlen];omega),Aa,HD Bbj,Ag,Axk,WY (IM _ _)];have ih:=O3 b l8 n hn h8 hb hb2 j (i+1) q F0 F0;rw[rK]at ih;rw[show((i:Int)+1)=((i+1:Nat):Int) by omega,<-ih];simp
theorem sZ(b:LB)(n:Nat)(hb:b.length<=100100):GB b (n:Int)=some (Jw b n):=by
 rw[GB,UB];by_cases h:1<=n/\n<=1000
 ·rw[Abc Bbe,Gp,Ag];by_cases h2:b.length<4*n+4
  ·rw[Abe F2,ss2 h h2]
  ·have ha:VO b (4*(n:Int)) 4=some (kF (part b (4*n) 4),0):=by
    rw[show(4:Int)*(n:Int)=((4*n:Nat):Int) by omega];exact M3 b (4*n) 4 F0 F0 F0 F0
   rw[Abc F2,ha,Aa];simp only;rw[Ji,Aa,show(4*(n:Int)).toNat=4*n by omega,rV _ Ba5,Aa];simp only;rw[Af0 h h2];by_cases h3:(Dn (b.take (4*n))).toNat=Ec (part b (4*n) 4)
   ·have hlp:=O3 b (List.replicate n 0) n F0 Bba F0 F0 n 0 Aq F0 Ba7;rw[Abc (by simpa using h3),pQ,Aa,Bf Bbt,Aa,kH,Afl];refine Axr (hlp) ?_;rw[GP,lB,Adv _ (by rw[IM];omega) (Aeo b n F0),Aa,ss4 h h2 h3];cases TS (MY b n)<;>rfl
   ·rw[Abe (by simpa using h3),ss3 h h2 h3]
 ·rw[Abe Bbe,ss1 h]
theorem kM(b:LB)(n:Nat)(hn:n<=1000)(hb:4*n+4<=b.length)(hb2:b.length<4611686018427387904):∀(j i q:Nat),i+j=n->j<q->Jk b (n:Int) q (i:Int) (MY b i)=Uo (MY b n)
 |0,i,q+1,hi,_=>by
  obtain rfl:i=n:=F0
  rw[Jk,Uf,Abc Bbi]
 |j+1,i,q+1,hi,hq=>by
  have hc:By b ((4:Int)*(i:Int)) ((4:Int)*(i:Int)+4)=some (part b (4*i) 4):=by
   rw[show(4:Int)*(i:Int)=((4*i:Nat):Int) by omega];exact Na (4*i) 4
  rw[Jk,Uf,Abe Ba6,Gp,Ag,hc,Aa,Aam _ Bbj,Aa,Ct (by rw[IM];simp;omega),Aa,
   HD Bbj,Ag,<-rK]
  exact kM b n hn hb hb2 j (i+1) q F0 F0
theorem G1(b:LB)(n:Nat)(hb:b.length<=100100):Nf b (n:Int)=some (Jw b n):=by
 rw[Nf,HM];by_cases h:1<=n/\n<=1000
 ·rw[Abc Bbe,Gp,Ag];by_cases h2:b.length<4*n+4
  ·rw[Abe F2,ss2 h h2]
  ·have hc:By b ((4:Int)*(n:Int)) ((4:Int)*(n:Int)+4)=some (part b (4*n) 4):=by
    rw[show(4:Int)*(n:Int)=((4*n:Nat):Int) by omega];exact Na (4*n) 4
   have hs:Bo (kF (part b (4*n) 4)) (Ad (Dn (b.take (4*n))):UInt64)=decide ((Dn (b.take (4*n))).toNat≠Ec (part b (4*n) 4)):=by
    rw[<-Af0 h h2,MN,MN,Aoi];simp only[Baz,ne_eq];exact not_congr eq_comm
   rw[Abc F2,hc,Aa,Ji,Aa,show(4*(n:Int)).toNat=4*n by omega,Aam _ Bbj,Aa,Aku _ Ba5,Aa,hs];by_cases h3:(Dn (b.take (4*n))).toNat=Ec (part b (4*n) 4)
   ·have hlp:=kM b n F0 F0 F0 n 0 Aq F0 Ba7;rw[Abc (by simpa using h3),ID,HK,JP];refine Axr hlp ?_;rw[Uo,JC,Ah0 _ (by rw[IM];omega) (Aeo b n F0),Aa,ss4 h h2 h3];cases TS (MY b n)<;>rfl
   ·rw[Abe (by simpa using h3),ss3 h h2 h3]
 ·rw[Abe Bbe,ss1 h]
theorem nT{b:LB}{n:Nat}(h:(Jw b n).2=0):Jw b n=(MY b n,0)/\1<=n/\n<=1000/\4*n+4<=b.length/\ (∀x∈MY b n,5<=x)/\ (MY b n).sum<=100000:=by
 unfold Jw at h⊢;split at h; · simp at h
 rename_i c1;rw[Abc c1];split at h; · simp at h
 rename_i c2;rw[Abc c2];split at h; · simp at h
 rename_i c3;rw[Abc c3];split at h
 ·rename_i c4;rw[Abe c4];have c4':=c4;rw[TS,Ab5,oV _ _ F0]at c4';exact⟨rfl,F0,F0,F0,c4'.2.1,c4'.2.2⟩
 ·simp at h
theorem Bb7{p:Prop}(h:p:=by rw[Ac];omega):p:=h
end Go.Pl
namespace Go.Pl
open Go Go.Lv
variable{f c w r n:Nat}
def Jy(b:LB):LB:=b.drop (Bd b).1.toNat
abbrev Op8:=Int×Int×Int×Int×Int×Int×LI×Int
def jL(e:Int):Op8:=(0,0,0,0,0,0,[],e)
theorem An3(A K:Nat)(h:A<=200000)(hk:K<=1000):Ae (Ae (A:Int) (Bg 4 (K:Int))) 4=((A+4*K+4:Nat):Int):=by
 rw[Gp,Ag (a:=(A:Int)) F0 F0,Ag];omega
theorem N2(h1:Hb f c w r n=true)(h2:FW c r n=true)(b:LB)(hb:b.length<=100100)(A:Nat)(hA:A<=b.length):
  Uk b (f:Int) (c:Int) (w:Int) (r:Int) (n:Int) (A:Int)=
   some (if(Jw (b.drop A) (Ax (Ar r) n).length).2≠0 then jL (Jw (b.drop A) (Ax (Ar r) n).length).2 else((f:Int),(c:Int),(w:Int),(r:Int),(n:Int),((A+4*(Ax (Ar r) n).length+4:Nat):Int),(Jw (b.drop A) (Ax (Ar r) n).length).1,0)):=by
 rw[Uk,eD,eQ h1 h2,Aa];simp only;rw[Abc Ba9,Ha,Aa,Ac,show(A:Int).toNat=A from rfl,sZ _ _ Ba5,Aa];by_cases h:(Jw (b.drop A) (Ax (Ar r) n).length).2≠0
 ·rw[Abe h,Abe (by rw[Ah];simpa using h)];rfl
 ·have h0:(Jw (b.drop A) (Ax (Ar r) n).length).2=0:=by simpa using h
  obtain⟨g1,g2,g3,g4,g5,g6⟩:=nT h0;have gl:(Jw (b.drop A) (Ax (Ar r) n).length).1.length=(Ax (Ar r) n).length:=by rw[g1];exact IM _ _
  rw[Abc h,Abc (by rw[Ah];simpa using h),Ac,gl,An3 _ _ F0 F0]
theorem Akz(h1:Hb f c w r n=true)(h2:FW c r n=true)(b:LB)(hb:b.length<=100100)(A:Nat)(hA:A<=b.length):
  Kx b (f:Int) (c:Int) (w:Int) (r:Int) (n:Int) (A:Int)=
   some (if(Jw (b.drop A) (Ax (Ar r) n).length).2≠0 then jL (Jw (b.drop A) (Ax (Ar r) n).length).2 else((f:Int),(c:Int),(w:Int),(r:Int),(n:Int),((A+4*(Ax (Ar r) n).length+4:Nat):Int),(Jw (b.drop A) (Ax (Ar r) n).length).1,0)):=by
 have hs:(1<=r/\r<=1048576)/\1<=n/\1<=c:=by
  simp only[Hb,Ab6]at h1;omega
 have hf:n<=4000:=by
  simp only[FW,Ab6]at h2;have:=Auo 4000 c;omega
 rw[Kx,BA,Ha,Aa,fJ hs.1.2 hs.2.1 hf,Aa,Ac,show(A:Int).toNat=A from rfl,G1 _ _ Ba5,Aa];simp only;rw[AZ,BL];by_cases h:(Jw (b.drop A) (Ax (Ar r) n).length).2≠0
 ·rw[Abe h,Abe (by rw[Ah];simpa using h)];rfl
 ·have h0:(Jw (b.drop A) (Ax (Ar r) n).length).2=0:=by simpa using h
  obtain⟨g1,g2,g3,g4,g5,g6⟩:=nT h0;have gl:(Jw (b.drop A) (Ax (Ar r) n).length).1.length=(Ax (Ar r) n).length:=by rw[g1];exact IM _ _
  rw[Abc h,Abc (by rw[Ah];simpa using h),Ac,gl,An3 _ _ F0 F0]
structure Opn (b p:LB) (f c w r n A:Nat) (l:LI):Prop where
 prog:Fj b p=some ((f:Int),(c:Int),(w:Int),(r:Int),(n:Int),(A:Int),l,0)
 ref:Ds b p=some ((f:Int),(c:Int),(w:Int),(r:Int),(n:Int),(A:Int),l,0)
 pass:p.length<=64
 file:b.length<=100000
 shape:Hb f c w r n=true
 fit:FW c r n=true
 len:l.length=(Ax (Ar r) n).length
 some1:1<=l.length/\l.length<=1000
 five:∀x∈l,5<=x
 sum:l.sum<=100000
 at':A<=b.length
 tag:(Bd b).2=0
 head:Jt (Jy b)=((f:Int),(c:Int),(w:Int),(r:Int),(n:Int),0)
 tab:Jw (b.drop ((Bd b).1.toNat+22+(if f=2 then 8 else 0))) l.length=(l,0)
 pos:A=(Bd b).1.toNat+22+(if f=2 then 8 else 0)+4*l.length+4
theorem jg(b p:LB)(hb:b.length<=100100)(hp:p.length<=64):
  (∃e:Int,e≠0/\Fj b p=some (jL e)/\Ds b p=some (jL e))\/ (∃f c w r n A l,Opn b p f c w r n A l):=by
 by_cases h1:100000<b.length
 ·refine .inl ⟨4,F0,?_,?_⟩
  ·rw[Fj,Ud,Abc Ba8,Abe Ba8];rfl
  ·rw[Ds,Qc,Abe Ba8];rfl
 have hP:Fj b p=Fj b p:=rfl;have hR:Ds b p=Ds b p:=rfl
 conv at hP=>rhs;rw[Fj,Ud,Abc Ba8,Abc Ba8,AM b F0,Aa]
 conv at hR=>rhs;rw[Ds,Qc,Abc Ba8,BZ b F0,Aa]
 by_cases h2:(Bd b).2=0
 ·obtain⟨p0,p1,p2⟩:=FK h2;have hc:=Ha (l:=b) p0 p1;simp only[h2]at hP hR;rw[Abc Ba9,hc,Aa,show b.drop (Bd b).1.toNat=Jy b from rfl,iS _ (by simp[Jy];omega),Aa]at hP;rw[Abc Ba9,hc,Aa,show b.drop (Bd b).1.toNat=Jy b from rfl,cZ _ (by simp[Jy];omega),Aa]at hR;by_cases h3:(Jt (Jy b)).2.2.2.2.2=0
  ·obtain⟨g1,g2,g3,g4⟩:=VP h3;have hlen:(Jy b).length=b.length-(Bd b).1.toNat:=by simp[Jy]
   generalize hF:(Bd b).1.toNat=F at*
   have hF':(Bd b).1=(F:Int):=F0
   rw[g1,hF']at hP hR;simp only at hP hR;generalize f0 (Jy b)=f at*
   generalize f1 (Jy b)=c at*
   generalize f2 (Jy b)=w at*
   generalize f3 (Jy b)=r at*
   generalize f4 (Jy b)=n at*
   have t22:Ae (F:Int) 22=((F+22:Nat):Int):=by rw[Ag];omega
   have t30:Ae ((F+22:Nat):Int) 8=((F+30:Nat):Int):=by rw[Ag];omega
   have Avr:f=1\/f=2:=by simp only[Hb,Ab6]at g3;omega
   rw[Abc Ba9,t22,t30]at hP hR;have hend:∀A:Nat,A<=b.length->A=F+22+(if f=2 then 8 else 0)->Fj b p=Uk b (f:Int) (c:Int) (w:Int) (r:Int) (n:Int) (A:Int)->Ds b p=Kx b (f:Int) (c:Int) (w:Int) (r:Int) (n:Int) (A:Int)->
     (∃e:Int,e≠0/\Fj b p=some (jL e)/\Ds b p=some (jL e))\/ (∃f c w r n A l,Opn b p f c w r n A l):=by
    intro A hA hA2 e1 e2;rw[N2 g3 g4 b hb A hA]at e1;rw[Akz g3 g4 b hb A hA]at e2;by_cases h:(Jw (b.drop A) (Ax (Ar r) n).length).2≠0
    ·rw[Abe h]at e1 e2;exact .inl ⟨_,h,e1,e2⟩
    ·have h0:(Jw (b.drop A) (Ax (Ar r) n).length).2=0:=by simpa using h
     obtain⟨k1,k2,k3,k4,k5,k6⟩:=nT h0;have gl:(Jw (b.drop A) (Ax (Ar r) n).length).1.length=(Ax (Ar r) n).length:=by rw[k1];exact IM _ _
     rw[Abc h]at e1 e2;rw[Atc]at k4;refine .inr ⟨f,c,w,r,n,_,_,⟨e1,e2,hp,F0,g3,g4,gl,F0,by rw[k1];exact k5,by rw[k1];exact k6,F0,h2,g1,by rw[gl,hF,<-hA2];exact Prod.ext rfl h0,by rw[gl,hF,<-hA2]⟩⟩
   by_cases WV:((p==([]:LB)) !=(geq (f:Int) (1:Int)))=true
   ·rw[Abe WV]at hP hR;exact .inl ⟨26,F0,hP,hR⟩
   ·rw[Abc WV]at hP hR;have hpf:(p=[]↔f=1):=by
     rw[Bb]at WV;have h5:(p==([]:LB))=((f:Int)==1):=by simpa using WV
     have h6:(p==([]:LB))=true↔((f:Int)==1)=true:=by rw[h5]
     rw[Aye,Aye]at h6;rw[h6];omega
    by_cases h5:f=2
    ·have Aso:p≠ []:=λe=>by have:=hpf.1 e;omega
     have h64:(p !=([]:LB))=true:=by simpa using Aso
     rw[Abe h64]at hP;rw[Abe (by rw[Bb,h5];rfl),Bi Bb7 Bb7]at hR;by_cases h6:b.length<F+30
     ·rw[Abe F2]at hP hR;exact .inl ⟨24,F0,hP,hR⟩
     ·have hseg:((b.take (F+30)).drop (F+22)).length=8:=by simp;omega
      rw[Abc F2,Ou,Aa]at hP hR;rw[Vv,rH p hp,Aa]at hP;rw[K5 p hp,Aa]at hR;simp only at hP;rw[Abc (by rw[Ah,Ah,Ac,Ac,Dk,show((F+30:Nat):Int).toNat=F+30 from rfl,show((F+22:Nat):Int).toNat=F+22 from rfl,hseg];simp),Gz,Aa,Aa]at hP;simp only at hP;rw[Abc Ba9]at hP;generalize(b.take ((F+30:Nat):Int).toNat).drop ((F+22:Nat):Int).toNat=seg at*
      by_cases h7:seg=Tk (Zf p).toNat 8
      ·rw[Abc (by simp[h7])]at hP;rw[Abc (by simp[h7])]at hR;exact hend (F+30) F0 (by rw[Abe h5]) hP hR
      ·rw[Abe (by simpa using h7)]at hP;rw[Abe (by simpa using h7)]at hR;exact .inl ⟨26,F0,hP,hR⟩
    ·have hpe:p=[]:=hpf.2 F0;rw[Abc (by rw[hpe];simp)]at hP;rw[Abc Bbd]at hR;exact hend (F+22) F0 (by rw[Abc h5]) hP hR
  ·generalize Jt (Jy b)=v at*
   obtain⟨v1,v2,v3,v4,v5,v6⟩:=v;simp only at h3 hP hR;rw[Abe (by rw[Ah];simpa using h3)]at hP hR;exact .inl ⟨v6,h3,hP,hR⟩
 ·generalize Bd b=v at*
  obtain⟨v,e⟩:=v;simp only at h2 hP hR;rw[Abe (by rw[Ah];simpa using h2)]at hP hR;exact .inl ⟨e,h2,hP,hR⟩
theorem Ajh(l:LI)(i:Nat):(l.take i).sum+(l.drop i).sum=l.sum:=by
 conv=>rhs;rw[<-Axj i l,List.sum_append]
theorem Hk{l:LI}(h5:∀x∈l,5<=x)(i:Nat):0<= (l.take i).sum/\ (l.take i).sum<=l.sum:=by
 have h1:=Acr (l.take i) λx hx=>h5 x (List.mem_of_mem_take hx);have h2:=Acr (l.drop i) λx hx=>h5 x (Bae hx);have:=Ajh l i;omega
theorem Nl{l:LI}{i:Nat}(h:i<l.length):(l.take (i+1)).sum=(l.take i).sum+l[i]:=by
 rw[Pa h,List.sum_append];simp
section
variable {l:LI} (hl:l.length<=1000) (h5:∀x∈l,5<=x) (hs:l.sum<=100000)
include hl h5 hs
theorem zS(f c w r n A:Int)(hA:0<=A)(hA2:A<=200000)(k:Nat)(hk:k<=l.length):∀(j i q:Nat),i+j=k->j<q->Im (k:Int) f c w r n A l q (A+(l.take i).sum) (i:Int)=some (A+(l.take k).sum)
 |0,i,q+1,hi,_=>by
  rw[Im,Sc,Abc Ba6,show i=k by omega];rfl
 |j+1,i,q+1,hi,hq=>by
  have hlt:i<l.length:=F0
  have ih:=zS f c w r n A hA hA2 k hk j (i+1) q F0 F0;have b1:=Hk h5 i;have b2:=Hk h5 (i+1);have e:=Nl hlt;rw[e,<-Az4]at ih;rw[Im,Sc,Abe Ba6,Ci hlt,Aa,Ag,Ag];exact ih
theorem Ahp(f c w r n A:Int)(hA:0<=A)(hA2:A<=200000)(k:Nat)(hk:k<=l.length):NL f c w r n A l (k:Int)=some (A+(l.take k).sum):=by
 have h:=zS hl h5 hs f c w r n A hA hA2 k hk k 0 Aq F0 Ba7;rw[Aya,List.sum_nil,Int.add_zero]at h;exact h
end
theorem wV{g:Nat}(hg:1<=g)(hn:1<=n){x:Int}(h:x∈Ax g n):∃m:Nat,x=m/\1<=m/\m<=n:=by
 have hmul:=Axz (n-1) g;rw[Ax,List.mem_append]at h;rcases h with h|h
 ·rw[List.mem_replicate]at h;have h1:1<= (n-1)/g:=Nat.pos_of_ne_zero h.1;have:=Ab7 g h1;exact⟨g,h.2,hg,F0⟩
 ·rw[List.mem_singleton]at h;exact⟨_,h,F0,F0⟩
theorem HU(h:Hb f c w r n=true):(1<=c/\c<=6)/\Ch (w:Int)/\ (1<=r/\r<=1048576)/\1<=n/\ (f=1\/f=2):=by
 simp only[Hb,Ab6]at h;refine⟨h.2.1,?_,h.2.2.2.1,h.2.2.2.2,h.1⟩;rcases h.2.2.1 with rfl|rfl|rfl
 ·exact .inl rfl
 ·exact .inr (.inl rfl)
 ·exact .inr (.inr rfl)
theorem Bbm{p:Prop}(h:p:=by rw[Afi];omega):p:=h
end Go.Pl
namespace Go.Pl
open Go Go.Lv
variable{e:Int}{l:LI}{x:LX}{n f c w r A k m:Nat}
theorem Atq(n m:Nat):Mt n m 0≠Mt n m 2147483648:=by
 intro h;simp[Mt,Tk,X0]at h
def Bz(b:LB):LB:=b.drop (b.length-32)
theorem uz{b:LB}(h:32<=b.length):(Bz b).length=32:=by rw[Bz,Atc];omega
def EZ(t:LB):Nat:=Ec (part t 12 4)-32
def zG(t:LB):Nat:=Ec (part t 16 4)
def Ul(b:LB):Int×Int:=
 if ¬(32<=b.length/\ (Bz b).take 8=X0)then(0,6)else if IY (Bz b)=true then(0,12)else
 if Bz b=Mt (EZ (Bz b)) (zG (Bz b)) 0 then(if b.length<EZ (Bz b)+32 then(0,24)else(((EZ (Bz b)+32:Nat):Int),0))else
 if Bz b≠Mt (EZ (Bz b)) (zG (Bz b)) 2147483648 then(0,12)else
 if b.length<EZ (Bz b)+64 then(0,24)else
 if(b.take (b.length-(EZ (Bz b)+64)+32)).drop (b.length-(EZ (Bz b)+64))≠Mt (EZ (Bz b)) (zG (Bz b)) 2684354560 then(0,12)else(((EZ (Bz b)+64:Nat):Int),0)
section
variable {b:LB}
theorem ba1(h:¬(32<=b.length/\ (Bz b).take 8=X0)):Ul b=(0,6):=by rw[Ul,Abe h]
variable (h:32<=b.length/\ (Bz b).take 8=X0)
include h
theorem ba2(h2:IY (Bz b)=true):Ul b=(0,12):=by rw[Ul,Abc (λh'=>h' h),Abe h2]
variable (h2:IY (Bz b)=false)
include h2
theorem ba3(h3:Bz b=Mt (EZ (Bz b)) (zG (Bz b)) 0):Ul b=if b.length<EZ (Bz b)+32 then(0,24)else(((EZ (Bz b)+32:Nat):Int),0):=by
 rw[Ul,Abc (λh'=>h' h),Abc (by rw[h2];simp),Abe h3]
variable (h3:Bz b≠Mt (EZ (Bz b)) (zG (Bz b)) 0)
include h3
theorem ba4(h4:Bz b≠Mt (EZ (Bz b)) (zG (Bz b)) 2147483648):Ul b=(0,12):=by
 rw[Ul,Abc (λh'=>h' h),Abc (by rw[h2];simp),Abc h3,Abe h4]
variable (h4:Bz b=Mt (EZ (Bz b)) (zG (Bz b)) 2147483648)
include h4
theorem ba5(h5:b.length<EZ (Bz b)+64):Ul b=(0,24):=by
 rw[Ul,Abc (λh'=>h' h),Abc (by rw[h2];simp),Abc h3,Abc (λe=>e h4),Abe h5]
theorem ba6(h5:¬b.length<EZ (Bz b)+64):Ul b=if(b.take (b.length-(EZ (Bz b)+64)+32)).drop (b.length-(EZ (Bz b)+64))≠Mt (EZ (Bz b)) (zG (Bz b)) 2684354560 then(0,12)else(((EZ (Bz b)+64:Nat):Int),0):=by
 rw[Ul,Abc (λh'=>h' h),Abc (by rw[h2];simp),Abc h3,Abc (λe=>e h4),Abc h5]
end
theorem uo{b:LB}{n:Int}(h:Ul b=(n,0)):32<=n/\n<=b.length:=by
 unfold Ul at h;split at h; · simp at h
 rename_i h32;split at h; · simp at h
 split at h
 ·split at h; · simp at h
  simp only[As8,and_true]at h;omega
 split at h; · simp at h
 split at h; · simp at h
 split at h; · simp at h
 simp only[As8,and_true]at h;omega
theorem Aia{b:LB}(h:(Ul b).2≠0):(Ul b).1=0:=by
 revert h
 unfold Ul;split; · simp
 split; · simp
 split
 ·split<;>simp
 split; · simp
 split; · simp
 split<;>simp
theorem Am6{b:LB}(h:32<=b.length)(hl:b.length<4611686018427387904):Aj (Ac b) 32=((b.length-32:Nat):Int)/\By b ((b.length-32:Nat):Int) (Ac b)=some (Bz b):=by
 refine⟨by rw[Ac,Bi];omega,?_⟩;rw[Ha];rfl
theorem Ajz(b:LB)(hl:b.length<4611686018427387904):nY b=some (Ul b):=by
 rw[nY,uB];by_cases h32:32<=b.length
 ·obtain⟨e1,e2⟩:=Am6 h32 hl;have hl3:=uz h32;rw[Abc (by rw[e1,Af];simp),e1,e2,Aa,YD,Aa];by_cases hp:(Bz b).take 8=X0
  ·have h:=And.intro h32 hp;rw[Abc (by simpa [X0,hl3]using hp),tA,uL,e1,e2,Aa,YN _ 0 F0 F0 F6,Aa];cases hb:IY (Bz b)with
   |true=>
    rw[ba2 h hb];simp only[Ba2,Ar3,Ayh];rw[Aa,YN _ 2147483648 F0 F0 F6,Aa,hb];rfl
   |false=>
    obtain⟨i1,i2,i3,i4⟩:=rQ (Bz b) F0 hb;have eI:Ec (part (Bz b) 12 4)-32=EZ (Bz b):=rfl;have eM:Ec (part (Bz b) 16 4)=zG (Bz b):=rfl;simp only[Ar3,Ayh];rw[eI]at i3;rw[eM]at i4;rw[eI,eM];by_cases c1:Bz b=Mt (EZ (Bz b)) (zG (Bz b)) 0
    ·have c1':Bz b=Mt (EZ (Bz b)) (zG (Bz b)) (0:UInt64).toNat:=c1;rw[Abe (by simpa using c1'),ba3 h hb c1];by_cases c2:b.length<EZ (Bz b)+32
     ·rw[Abe Ba6,Abe c2]
     ·rw[Abc Ba6,Abc c2,Ag];rfl
    ·have c1':¬Bz b=Mt (EZ (Bz b)) (zG (Bz b)) (0:UInt64).toNat:=c1;rw[Abc (by simpa using c1'),Aa,YN _ 2147483648 F0 F0 F6,Aa,hb];simp only[Ar3,Ayh];rw[eI,eM];by_cases c2:Bz b=Mt (EZ (Bz b)) (zG (Bz b)) 2147483648
     ·have c2':Bz b=Mt (EZ (Bz b)) (zG (Bz b)) (2147483648:UInt64).toNat:=c2;rw[Abc (by simpa using c2'),Ag];by_cases c3:b.length<EZ (Bz b)+64
      ·rw[Abe F2,ba5 h hb c1 c2 c3]
      ·rw[Abc F2,Ac,Bi,Ag,Ou,Aa,xC _ _ _ i3 i4 F6,Aa,Gz,Aa,ba6 h hb c1 c2 c3];rw[show((b.length:Int)-(((EZ (Bz b):Nat):Int)+64)).toNat=b.length-(EZ (Bz b)+64) by omega,show((b.length:Int)-(((EZ (Bz b):Nat):Int)+64)+32).toNat=b.length-(EZ (Bz b)+64)+32 by omega];have e7:(2684354560:UInt64).toNat=2684354560:=rfl;rw[e7];by_cases c4:(b.take (b.length-(EZ (Bz b)+64)+32)).drop (b.length-(EZ (Bz b)+64))=Mt (EZ (Bz b)) (zG (Bz b)) 2684354560
       ·rw[Abc (by simpa using c4),Abc (λe=>e c4)];rfl
       ·rw[Abe (by simpa using c4),Abe c4]
     ·have c2':¬Bz b=Mt (EZ (Bz b)) (zG (Bz b)) (2147483648:UInt64).toNat:=c2;rw[Abe (by simpa using c2'),ba4 h hb c1 c2]
  ·rw[Abe (by rw[Avf,Ax2];intro h;exact hp h.2),ba1 (λh=>hp h.2)]
 ·rw[Abe (by rw[Ac,Bi,Af];simp;omega),ba1 (λh=>h32 h.1)]
theorem Ara{b:LB}(h:32<=b.length):(b.take (b.length-32+8)).drop (b.length-32)=(Bz b).take 8:=by
 rw[Bz,List.take_drop]
theorem Aob(b:LB)(hl:b.length<4611686018427387904):BJ b=some (Ul b):=by
 rw[BJ,HI];by_cases h32:32<=b.length
 ·obtain⟨e1,e2⟩:=Am6 h32 hl;have hl3:=uz h32;rw[Abc F2,e1,Ag,Ou,Aa,show((b.length-32:Nat):Int).toNat=b.length-32 from rfl,show(((b.length-32:Nat):Int)+8).toNat=b.length-32+8 by omega,Ara h32];by_cases hp:(Bz b).take 8=X0
  ·have h:=And.intro h32 hp;rw[Abc (by simpa [X0]using hp),JO,JL,e1,e2,Aa,oh _ F0 F0,Aa];cases hb:IY (Bz b)with
   |true=>rw[ba2 h hb];rfl
   |false=>
    obtain⟨i1,i2,i3,i4⟩:=rQ (Bz b) F0 hb;have eI:Ec (part (Bz b) 12 4)-32=EZ (Bz b):=rfl;have eM:Ec (part (Bz b) 16 4)=zG (Bz b):=rfl;simp only[Ar3,Ayh,Bab];rw[eI]at i3;rw[eM]at i4;rw[eI,eM,Ke,Abe rfl,qL _ _ _ i3 i4 F6,Aa,Aa];have e7:(2147483648:UInt64).toNat=2147483648:=rfl;have e8:(2684354560:UInt64).toNat=2684354560:=rfl;rw[e7];by_cases c2:Bz b=Mt (EZ (Bz b)) (zG (Bz b)) 2147483648
    ·have c1:Bz b≠Mt (EZ (Bz b)) (zG (Bz b)) 0:=λe=>Atq (EZ (Bz b)) (zG (Bz b)) (e.symm.trans c2);rw[Abc (by simpa using c2),Up,Tz,Abe (by simpa using c2),Uy,Vh,Ag (a:=32) F0 F0,Ag];by_cases c3:b.length<EZ (Bz b)+64
     ·rw[Abe F2,ba5 h hb c1 c2 c3]
     ·rw[Abc F2,Abe (by simpa using c2),Ac,Bi,Ag,Ou,Aa,Ti,qL _ _ _ i3 i4 F6,Aa,Aa,ba6 h hb c1 c2 c3,e8];rw[show((b.length:Int)-(32+((EZ (Bz b):Nat):Int)+32)).toNat=b.length-(EZ (Bz b)+64) by omega,show((b.length:Int)-(32+((EZ (Bz b):Nat):Int)+32)+32).toNat=b.length-(EZ (Bz b)+64)+32 by omega];by_cases c4:(b.take (b.length-(EZ (Bz b)+64)+32)).drop (b.length-(EZ (Bz b)+64))=Mt (EZ (Bz b)) (zG (Bz b)) 2684354560
      ·rw[Abc (by simpa using c4),Abc (λe=>e c4),show(32+((EZ (Bz b):Nat):Int)+32)=((EZ (Bz b)+64:Nat):Int) by omega]
      ·rw[Abe (by simpa using c4),Abe c4]
    ·rw[Abe (by simpa using c2),Ke,Abc Bba,qL _ _ _ i3 i4 F6,Aa,Aa];have e9:(0:UInt64).toNat=0:=rfl;rw[e9];by_cases c1:Bz b=Mt (EZ (Bz b)) (zG (Bz b)) 0
     ·rw[Abc (by simpa using c1),Up,Tz,Abc (by simpa using c2),Uy,Vh,Ag,ba3 h hb c1,Abc (c:=(Bz b==Mt (EZ (Bz b)) (zG (Bz b)) 2147483648)=true) (by simpa using c2)];by_cases c3:b.length<EZ (Bz b)+32
      ·rw[Abe F2,Abe c3]
      ·rw[Abc F2,Abc c3,show(32+((EZ (Bz b):Nat):Int))=((EZ (Bz b)+32:Nat):Int) by omega]
     ·rw[Abe (by simpa using c1),ba4 h hb c1 c2]
  ·rw[Abe (by simpa [X0]using hp),ba1 (λh=>hp h.2)]
 ·rw[Abe F2,ba1 (λh=>h32 h.1)]
def Ai5:Nat->LB->Nat->Int×Int
 |0,_,_=>(0,38)
 |j+1,b,a=>if b=[]then((a:Int),0)else if(Ul b).2≠0 then(0,38)else Ai5 j (b.take (b.length-(Ul b).1.toNat)) (a+1)
theorem Aab:∀(j q a:Nat) (b:LB),b.length<j->j<=q->b.length<=4000->a+b.length<=4000->Re q (a:Int) b=some (Ai5 j b a)
 |0,_,_,_,h,_,_,_=>by omega
 |j+1,q+1,a,b,h,hq,h4,ha=>by
  rw[Re,KU,Ai5];by_cases hb:b=[]
  ·subst hb;rw[Abc F6,Abe rfl];rfl
  ·have hpos:0<b.length:=List.length_pos_iff.2 hb;rw[Abe Ba8,Abc hb,Ajz b F0,Aa];have hbad:=Aia (b:=b);have hok:=λn=>uo (b:=b) (n:=n);generalize Ul b=v at*
   obtain⟨n,e⟩:=v;simp only at hbad⊢;rw[GA,WA];by_cases he:e≠0
   ·rw[Abe he,hbad he,Abe F6]
   ·obtain⟨k1,k2⟩:=hok n (by rw[show e=0 by simpa using he]);rw[Abc he,Abc Bbd,Ac,Bi,Ji,Aa,WH,WK,Ag];rw[show((b.length:Int)-n).toNat=b.length-n.toNat by omega];have ih:=Aab j q (a+1) (b.take (b.length-n.toNat)) Bbm F0 Bbm Bbm;rw[<-ih];rfl
theorem Afj:∀(j q a:Nat) (b:LB),b.length<j->j<=q->b.length<=4000->a+b.length<=4000->Ld q b (a:Int)=some (Ai5 j b a)
 |0,_,_,_,h,_,_,_=>by omega
 |j+1,q+1,a,b,h,hq,h4,ha=>by
  rw[Ld,DW,Ai5];by_cases hb:b=[]
  ·subst hb;rw[Abc F6,Abe rfl];rfl
  ·have hpos:0<b.length:=List.length_pos_iff.2 hb;rw[Abe Ba8,Abc hb,Aob b F0,Aa];have hok:=λn=>uo (b:=b) (n:=n);generalize Ul b=v at*
   obtain⟨n,e⟩:=v;simp only;by_cases he:e≠0
   ·rw[Abe he,Abe (by rw[Ah];simpa using he)]
   ·obtain⟨k1,k2⟩:=hok n (by rw[show e=0 by simpa using he]);rw[Abc he,Abc (by rw[Ah];simpa using he),Ac,Bi,Ji,Aa,Ag];rw[show((b.length:Int)-n).toNat=b.length-n.toNat by omega];have ih:=Afj j q (a+1) (b.take (b.length-n.toNat)) Bbm F0 Bbm Bbm;rw[<-ih];rfl
def ZC(b:LB):Int×Int:=if 4000<b.length then(0,38)else Ai5 (b.length+1) b 0
theorem vo(b:LB)(hl:b.length<4611686018427387904):MO b=some (ZC b):=by
 rw[MO,KR,ZC];by_cases h:4000<b.length
 ·rw[Abe Ba8,Abe h]
 ·rw[Abc Ba8,Abc h];exact Aab _ Aq 0 b F0 Ba7 F0 F0
theorem Ad4(b:LB)(hl:b.length<4611686018427387904):Wm b=some (ZC b):=by
 rw[Wm,AT,ZC];by_cases h:4000<b.length
 ·rw[Abe Ba8,Abe h]
 ·rw[Abc Ba8,Abc h];exact Afj _ Aq 0 b F0 Ba7 F0 F0
theorem mQ{a b:Nat}(h:a<9223372036854775808:=by omega):Ca (a:Int) (b:Int)=((a/b:Nat):Int):=by
 have:a/b<=a:=Auo _ _;rw[KI,Axh F0,<-Int.natCast_ediv];generalize a/b=k at*
 exact Bs F0 F0
theorem qW{bits:Int}(h:Ch bits)(x:Int):(FO bits x).length=wB bits:=by
 obtain rfl|rfl|rfl:=h<;>rfl
theorem cR{bits:Int}(h:Ch bits):∀l:LX,(Fw bits l).length=l.length*wB bits
 |[]=>by simp[Fw]
 |x::l=>by
  have h1:=cR h l;have h2:=qW h x.toInt;simp only[Fw,List.flatMap_cons,Ab0,Aj4,Az7]at*
  omega
def D9(b:LB)(A:Nat)(l:LI)(k:Nat):LB:=(b.take ((A:Int)+(l.take (k+1)).sum).toNat).drop ((A:Int)+(l.take k).sum).toNat
structure Gts (b p:LB) (f c w r n A:Nat) (l:LI) (k m:Nat) (x:LX) (s:LB) (e:Int):Prop where
 mom:Ak (Ax (Ar r) n) (k:Int)=some (m:Int)
 pos:1<=m/\m*c<=4000
 got:Pf b p (f:Int) (c:Int) (w:Int) (r:Int) (n:Int) (A:Int) l (k:Int)=some (s,e)
 none':e≠0->s=[]/\x=[]
 some':e=0->s=Fw (w:Int) x/\x.length=m*c/\Ap (w:Int) x=some 0/\JW (w:Int) x=some (s,0)/\ (A:Int)+(l.take (k+1)).sum<=b.length
 way:((b.length:Int)<(A:Int)+(l.take (k+1)).sum/\e=24)\/ ((A:Int)+(l.take (k+1)).sum<=b.length/\Tt (c:Int) (w:Int) (Sk p) (m:Int) (D9 b A l k)=some (x,e)/\El (c:Int) (w:Int) (Sk p) (m:Int) (D9 b A l k)=some (x,e))
theorem qT{b p:LB}(o:Opn b p f c w r n A l)(k:Nat)(hk:k<l.length):∃m x s e,Gts b p f c w r n A l k m x s e:=by
 obtain⟨hc,hw,hr,hn,_⟩:=HU o.shape;have hfit:n<=4000/c:=by have:=o.fit;simp only[FW,Ab6]at this;exact this.1
 have hn4:n<=4000:=by have:=Auo 4000 c;omega
 have hA:=o.at';have I1:=o.file;have hlen:=o.len;have b1:=Hk o.five k;have b2:=Hk o.five (k+1);have e:=Nl hk;have h5:=o.five l[k] (Avx _);have hsum:=o.sum;have hs1:=o.some1;have hkf:k<(Ax (Ar r) n).length:=F0
 obtain⟨m,hm,m1,m2⟩:=wV (Ka r) hn (Avx hkf);have Asq:Ak (Ax (Ar r) n) (k:Int)=some (m:Int):=by rw[Ci hkf,hm]
 have hpos:1<=m/\m*c<=4000:=by
  refine⟨m1,?_⟩;have:=Ab7 c (Bak m2 hfit);have:=Axz 4000 c;omega
 have hR:Pf b p (f:Int) (c:Int) (w:Int) (r:Int) (n:Int) (A:Int) l (k:Int)=Pf b p (f:Int) (c:Int) (w:Int) (r:Int) (n:Int) (A:Int) l (k:Int):=rfl
 conv at hR=>rhs;rw[Pf,LR,Ahp hs1.2 o.five o.sum _ _ _ _ _ (A:Int) F0 F0 k F0,Aa,Ci hk,Aa,Bi Bb7 Bb7]
 by_cases hto:(b.length:Int)<(A:Int)+(l.take (k+1)).sum
 ·rw[Abe (by rw[Af,Ac,Ab6];omega)]at hR;exact⟨m,[],[],24,Asq,hpos,hR,λ_=>⟨rfl,rfl⟩,λh=>by simp at h, .inl ⟨hto,rfl⟩⟩
 ·rw[Abc (by rw[Af,Ac,Ab6];omega),zw p o.pass,fJ hr.2 hn hn4]at hR;simp only[Aa]at hR;rw[Ag (a:=(A:Int)+(l.take k).sum) (b:=l[k]) F0 F0,Az4,<-e,Asq]at hR;simp only[Aa]at hR;rw[Ou,Aa]at hR;obtain⟨x,er,g1,g2,g3,g4⟩:=uy (ch:=c) (n:=m) (t:=Sk p) (D9 b A l k) hw (lR p) hc.1 hc.2 m1 F0;rw[show(b.take ((A:Int)+(l.take (k+1)).sum).toNat).drop ((A:Int)+(l.take k).sum).toNat=D9 b A l k from rfl,g2,Aa]at hR;simp only at hR;rw[LW,MB]at hR;by_cases her:er=0
  ·obtain⟨g5,g6,g7⟩:=g3 her;rw[Abc (by rw[Ah];simpa using her),Aii hw g6 g5,Aa]at hR;subst her;exact⟨m,x,_,0,Asq,hpos,hR,λh=>absurd rfl h,λ_=>⟨rfl,g7,g5,Ac6 hw g6 g5,F0⟩, .inr ⟨F0,g1,g2⟩⟩
  ·rw[Abe (by rw[Ah];simpa using her)]at hR;exact⟨m,x,_,er,Asq,hpos,hR,λh=>⟨rfl,g4 h⟩,λh=>absurd h her, .inr ⟨F0,g1,g2⟩⟩
theorem Gts.lens{b p:LB}{s:LB}(hw:Ch (w:Int))(g:Gts b p f c w r n A l k m x s e):s.length<=12000/\x.length<=4000/\ (e=0->s.length=m*c*wB (w:Int)):=by
 by_cases he:e=0
 ·obtain⟨h1,h2,_⟩:=g.some' he;have h3:=ZN (w:Int) x;have h4:=cR hw x;have h5:=g.pos;rw[<-h1]at h3 h4;refine⟨F0,F0,λ_=>by rw[h4,h2]⟩
 ·obtain⟨h1,h2⟩:=g.none' he;exact⟨by simp[h1],by simp[h2],λh=>absurd h he⟩
def fD(b p:LB)(f c w r n A:Nat)(l:LI)(k:Nat):LB×Int:=(Pf b p (f:Int) (c:Int) (w:Int) (r:Int) (n:Int) (A:Int) l (k:Int)).getD ([],0)
theorem Gts.eq{b p:LB}{s:LB}(g:Gts b p f c w r n A l k m x s e):fD b p f c w r n A l k=(s,e):=by rw[fD,g.got];rfl
def Adn(b:LB)(A:Nat)(l:LI):Int:=(ZC (b.drop ((A:Int)+l.sum).toNat)).2
def jM(b:LB)(k:Nat):Nat:=(b.getD k 0).toNat
def sx(n:Nat)(b:LB)(a:Nat):Int:=
 if n=1 then(jM b a:Int)-128 else
 if n=2 then(if jM b a+256*jM b (a+1)<32768 then(jM b a+256*jM b (a+1):Nat)else((jM b a+256*jM b (a+1):Nat):Int)-65536)else
 (if jM b a+256*jM b (a+1)+65536*jM b (a+2)<8388608 then(jM b a+256*jM b (a+1)+65536*jM b (a+2):Nat)else((jM b a+256*jM b (a+1)+65536*jM b (a+2):Nat):Int)-16777216)
def sxs(n m:Nat)(b:LB):LX:=(List.range m).map λx=>Int32.ofInt (sx n b (x*n))
theorem Aqw(n m:Nat)(b:LB):(sxs n m b).length=m:=by simp[sxs]
theorem sx2(b:LB)(a:Nat):sx 2 b a=if jM b a+256*jM b (a+1)<32768 then((jM b a+256*jM b (a+1):Nat):Int)else((jM b a+256*jM b (a+1):Nat):Int)-65536:=rfl
theorem sx3(b:LB)(a:Nat):sx 3 b a=if jM b a+256*jM b (a+1)+65536*jM b (a+2)<8388608 then((jM b a+256*jM b (a+1)+65536*jM b (a+2):Nat):Int)else((jM b a+256*jM b (a+1)+65536*jM b (a+2):Nat):Int)-16777216:=rfl
variable (b:LB)
end Go.Pl
namespace Go.Pl
open Go Go.Lv
end Go.Pl
namespace Go.Pl
open Go Go.Lv
variable{bits:Int}{p:Prop}
def smF(w:Nat)(y:LB×Int):LX:=if y.2≠0 then []else sxs (wB (w:Int)) (y.1.length/wB (w:Int)) y.1
theorem rY(z:Int):(u8 z).toNat=(z %256).toNat:=by
 have:(z %256).toNat<256:=F0
 rw[u8,Aoq,Abo F0]
theorem wM{bits:Int}(h:Ch bits):∀(l:LX) (i j:Nat),i<l.length->j<wB bits-> (Fw bits l).getD (i*wB bits+j) 0=(FO bits (l.getD i 0).toInt).getD j 0
 |[],i,j,hi,_=>by simp at hi
 |x::l,0,j,_,hj=>by
  have h1:=qW h x.toInt;have e:Fw bits (x::l)=FO bits x.toInt++Fw bits l:=by simp[Fw]
  rw[e,Nat.zero_mul,Avs,List.getD_eq_getElem?_getD,List.getD_eq_getElem?_getD,List.getElem?_append_left F0];rfl
 |x::l,i+1,j,hi,hj=>by
  have h1:=qW h x.toInt;have e:Fw bits (x::l)=FO bits x.toInt++Fw bits l:=by simp[Fw]
  have ih:=wM h l i j (by simpa using hi) hj;have e2:(i+1)*wB bits+j=(FO bits x.toInt).length+(i*wB bits+j):=by rw[Auj,Nat.one_mul,h1];omega
  rw[e,e2,List.getD_eq_getElem?_getD,List.getElem?_append_right F0,Ayd,<-List.getD_eq_getElem?_getD,ih];rfl
theorem Asd(h:Ch bits)(l:LX)(hr:inR bits l)(i:Nat)(hi:i<l.length):Int32.ofInt (sx (wB bits) (Fw bits l) (i*wB bits))=l.getD i 0:=by
 have hm:l.getD i 0∈l:=by rw[List.getD_eq_getElem?_getD,List.getElem?_eq_getElem hi];exact Avx hi
 have hv:=hr _ hm;have g:∀j,j<wB bits->jM (Fw bits l) (i*wB bits+j)=((FO bits (l.getD i 0).toInt).getD j 0).toNat:=λj hj=>by rw[jM,wM h l i j hi hj]
 generalize l.getD i 0=x at*
 have key:sx (wB bits) (Fw bits l) (i*wB bits)=x.toInt:=by
  generalize hA:i*wB bits=a at*
  obtain rfl|rfl|rfl:=h
  ·have g0:=g 0 F6;have e1:(FO 8 x.toInt).getD 0 0=u8 (x.toInt+128):=rfl;rw[Axs,e1,rY]at g0;simp only[hB]at hv;simp at hv;have e2:wB 8=1:=rfl;rw[e2,sx,Abe rfl,g0];omega
  ·have g0:=g 0 F6;have g1:=g 1 F6;have e0:(FO 16 x.toInt).getD 0 0=u8 x.toInt:=rfl;have e1:(FO 16 x.toInt).getD 1 0=u8 (x.toInt/256):=rfl;rw[Axs,e0,rY]at g0;rw[e1,rY]at g1;simp only[hB]at hv;simp at hv;have e2:wB 16=2:=rfl;rw[e2,sx2,g0,g1];split<;>omega
  ·have g0:=g 0 F6;have g1:=g 1 F6;have g2:=g 2 F6;have e0:(FO 24 x.toInt).getD 0 0=u8 x.toInt:=rfl;have e1:(FO 24 x.toInt).getD 1 0=u8 (x.toInt/256):=rfl;have e3:(FO 24 x.toInt).getD 2 0=u8 (x.toInt/65536):=rfl;rw[Axs,e0,rY]at g0;rw[e1,rY]at g1;rw[e3,rY]at g2;simp only[hB]at hv;simp at hv;have e2:wB 24=3:=rfl;rw[e2,sx3,g0,g1,g2];split<;>omega
 rw[key];simp
theorem Anv(h:Ch bits)(l:LX)(hr:inR bits l):sxs (wB bits) l.length (Fw bits l)=l:=by
 refine Awe (Aqw _ _ _) λi h1 h2=>?_;have:=Asd h l hr i h2;simp only[sxs,Ay7,Ayu];rw[this,List.getD_eq_getElem?_getD,List.getElem?_eq_getElem h2];rfl
theorem Gts.lY{b p:LB}{f c w r n A:Nat}{l:LI}{k m:Nat}{x:LX}{s:LB}{e:Int}(hw:Ch (w:Int))(g:Gts b p f c w r n A l k m x s e):smF w (s,e)=x:=by
 have hwb:=Ak1 (w:Int);by_cases he:e=0
 ·obtain⟨h1,h2,h3,_⟩:=g.some' he;have h4:=g.pos;have h5:=cR hw x;rw[smF,Abc (by simpa using he)];simp only;rw[h1,h5,Nat.mul_div_cancel _ F0];exact Anv hw x (WR hw F0 h3)
 ·rw[smF,Abe he,(g.none' he).2]
theorem Bb5(h:p:=by rw[Af,Ab6];omega):p:=h
theorem Bbr(h:p:=by simp[Jy];omega):p:=h
theorem Bbw(h:p:=by rw[Atc];omega):p:=h
end Go.Pl
namespace Go.Pl
open Go Go.Lv
variable{e bits:Int}
abbrev C5:=Int×Int×Int×LX×Int
def I5(e:Int):C5:=(0,0,0,[],e)
theorem ug{seg p:LB}(hs:seg.length=8)(hp:p.length<=64):Vv seg p=some (seg==Tk (Zf p).toNat 8,0):=by
 rw[Vv,rH p hp,Aa];simp only;rw[Abc (by rw[Ah,Ah,Ac,Ac,Dk,hs];simp),Gz,Aa]
theorem Apc(b p:LB)(m c w h o q n g y ab:Int)(k v:LI)(he:e≠0):Oy b p m c w h o q n g k e y ab v=some (I5 e):=by
 rw[Oy,Pg,Abe (by rw[Ah];simpa using he)];rfl
theorem vN(b p:LB)(m c w h o q n g y ab:Int)(k:LI)(he:e≠0):Oz b p m c w h o q n g y ab k e=some (I5 e):=by
 rw[Oz,CJ,Abe (by rw[Ah];simpa using he)];rfl
theorem Anb(b p:LB)(m c w h o q n g y ab:Int)(k:LI):Oz b p m c w h o q n g y ab k 0=CM b p m c w h o q n g y ab k:=by
 rw[Oz,CJ,Abc Ba9]
def qQ(X:Nat->LX)(E:Nat->Int)(be:Int):Nat->Nat->LX->LX×Int
 |0,_,acc=>if be≠0 then([],38)else(acc,0)
 |j+1,k,acc=>if E k≠0 then([],E k)else qQ X E be j (k+1) (acc++X k)
def UT(c w r:Nat)(y:LX×Int):C5:=if y.2≠0 then I5 y.2 else((c:Int),(w:Int),(r:Int),y.1,0)
def Ag0(b p:LB)(f c w r n A:Nat)(l:LI):C5:=
 UT c w r (qQ (λk=>smF w (fD b p f c w r n A l k)) (λk=>(fD b p f c w r n A l k).2) (Adn b A l) l.length 0 [])
section
variable {b p:LB} {f c w r n A:Nat} {l:LI} (o:Opn b p f c w r n A l)
include o
theorem iX(a1 a2 a3 a4:Int):∀(j k q:Nat) (acc:LX),k+j=l.length->j<q-> (k=l.length-> (A:Int)+l.sum<=b.length)->acc.length<=4000*k->
  Ox b l (f:Int) (c:Int) (w:Int) (r:Int) (n:Int) a1 a2 a3 (A:Int) a4 (Sk p) (Ax (Ar r) n) q ((A:Int)+(l.take k).sum) (k:Int) acc=
   some (UT c w r (qQ (λk=>smF w (fD b p f c w r n A l k)) (λk=>(fD b p f c w r n A l k).2) (Adn b A l) j k acc))
 |0,k,q+1,acc,hk,_,hfit,_=>by
  have hA:=o.at';have I1:=o.file;have hs1:=o.some1;have hsum:=o.sum;have b1:=Hk o.five l.length;have hf:=hfit F0;obtain rfl:k=l.length:=F0
  rw[Ax4]at b1⊢;rw[Ox,CU,Abc Bbz,OX,cK,Ha,Aa,vo _ Bbw,Aa,qQ,Adn];generalize ZC (b.drop ((A:Int)+l.sum).toNat)=v;obtain⟨v1,v2⟩:=v;simp only;by_cases hv:v2≠0
  ·rw[Abe hv,Abe (by rw[Ah];simpa using hv),UT,Abe Bba];rfl
  ·rw[Abc hv,Abc (by rw[Ah];simpa using hv),UT,Abc Bba]
 |j+1,k,q+1,acc,hk,hq,hfit,hacc=>by
  have hA:=o.at';have I1:=o.file;have hs1:=o.some1;have hsum:=o.sum;have b1:=Hk o.five k;have b2:=Hk o.five (k+1);have hkl:k<l.length:=F0
  have e2:=Nl hkl;have h5:=o.five l[k] (Avx _);obtain⟨m,x,s,e,g⟩:=qT o k hkl;obtain⟨hc,hw,hr,hn,_⟩:=HU o.shape;have hl:=g.lens hw;rw[Ox,CU,Abe F2,Ci hkl,Aa,Aa,Ag (a:=(A:Int)+(l.take k).sum) F0 F0,Az4,<-e2,Ac,qQ,g.eq];simp only;rcases g.way with⟨h1,h2⟩|⟨h1,h2,_⟩
  ·rw[Abe Bb5,Abe (by rw[h2];simp),h2,UT,Abe Bba];rfl
  ·rw[Abc Bb5,g.mom];simp only[Aa];rw[Ou,Aa,show(b.take ((A:Int)+(l.take (k+1)).sum).toNat).drop ((A:Int)+(l.take k).sum).toNat=D9 b A l k from rfl,h2,Aa];simp only;rw[OT,dZ];by_cases he:e≠0
   ·rw[Abe (by rw[Ah];simpa using he),Abe he,UT,Abe he];rfl
   ·have he0:e=0:=by simpa using he
    have Ab3:=(g.some' he0).2.2.2.2;rw[Abc (by rw[Ah];simpa using he),Abc he,g.lY hw,Ct,Aa,Ag (a:=(A:Int)+(l.take k).sum) F0 F0,Az4,<-e2,Ag];exact iX a1 a2 a3 a4 j (k+1) q (acc++x) F0 F0 (λh=>by rw[h,Ax4]at Ab3;exact Ab3) Bbv
theorem kV:∀(j k q:Nat) (acc:LX),k+j=l.length->j<q-> (k=l.length-> (A:Int)+l.sum<=b.length)->acc.length<=4000*k->
  Jo b (f:Int) (c:Int) (w:Int) (r:Int) (n:Int) l (Ax (Ar r) n) (Sk p) q ((A:Int)+(l.take k).sum) (k:Int) acc=
   some (UT c w r (qQ (λk=>smF w (fD b p f c w r n A l k)) (λk=>(fD b p f c w r n A l k).2) (Adn b A l) j k acc))
 |0,k,q+1,acc,hk,_,hfit,_=>by
  have hA:=o.at';have I1:=o.file;have hs1:=o.some1;have hsum:=o.sum;have b1:=Hk o.five l.length;have hf:=hfit F0;obtain rfl:k=l.length:=F0
  rw[Ax4]at b1⊢;rw[Jo,Vg,Abc Bbz,FD,EE,Ha,Aa,Ad4 _ Bbw,Aa,qQ,Adn];generalize ZC (b.drop ((A:Int)+l.sum).toNat)=v;obtain⟨v1,v2⟩:=v;simp only;by_cases hv:v2≠0
  ·rw[Abe hv,Abe (by rw[Ah];simpa using hv),UT,Abe Bba];rfl
  ·rw[Abc hv,Abc (by rw[Ah];simpa using hv),UT,Abc Bba]
 |j+1,k,q+1,acc,hk,hq,hfit,hacc=>by
  have hA:=o.at';have I1:=o.file;have hs1:=o.some1;have hsum:=o.sum;have b1:=Hk o.five k;have b2:=Hk o.five (k+1);have hkl:k<l.length:=F0
  have e2:=Nl hkl;have h5:=o.five l[k] (Avx _);obtain⟨m,x,s,e,g⟩:=qT o k hkl;obtain⟨hc,hw,hr,hn,_⟩:=HU o.shape;have hl:=g.lens hw;rw[Jo,Vg,Abe F2,Ci hkl,Aa,Aa,Ac,Bi,qQ,g.eq];simp only;rcases g.way with⟨h1,h2⟩|⟨h1,_,h2⟩
  ·rw[Abe Bb5,Abe (by rw[h2];simp),h2,UT,Abe Bba];rfl
  ·rw[Abc Bb5,g.mom];simp only[Aa];rw[Ag (a:=(A:Int)+(l.take k).sum) F0 F0,Az4,<-e2,Ou,Aa,show(b.take ((A:Int)+(l.take (k+1)).sum).toNat).drop ((A:Int)+(l.take k).sum).toNat=D9 b A l k from rfl,h2,Aa];simp only;rw[FE,EG];by_cases he:e≠0
   ·rw[Abe (by rw[Ah];simpa using he),Abe he,UT,Abe he];rfl
   ·have he0:e=0:=by simpa using he
    have Ab3:=(g.some' he0).2.2.2.2;rw[Abc (by rw[Ah];simpa using he),Abc he,g.lY hw,Ct,Aa,Ci hkl,Aa,Aa,Ag (a:=(A:Int)+(l.take k).sum) F0 F0,Az4,<-e2,Ag];exact kV j (k+1) q (acc++x) F0 F0 (λh=>by rw[h,Ax4]at Ab3;exact Ab3) Bbv
end
theorem L8(l:LI)(b p:LB)(m c w h o q n g:Int)(k:LI)(hl:l.length<=1000)(h5:∀x∈l,5<=x)(A:Int)(hA:0<=A)(hb:A+l.sum<=1000000):∀(j i z:Nat),i+j=l.length->j<z->Oh l b p m c w h o q n g k z (i:Int) (A+(l.take i).sum)=ON b p l m c w h o q n g (A+l.sum) k
 |0,i,z+1,hi,_=>by
  rw[Oh,BS,Abc F2,show i=l.length by omega,Ax4]
 |j+1,i,z+1,hi,hz=>by
  have hlt:i<l.length:=F0
  have b1:=Hk h5 i;have b2:=Hk h5 (i+1);have e:=Nl hlt;have ih:=L8 l b p m c w h o q n g k hl h5 A hA hb j (i+1) z F0 F0;rw[e,<-Az4]at ih;rw[Oh,BS,Abe F2,Ci hlt,Aa,Aa,Ag,Ag];exact ih
theorem Acf(b p:LB)(hb:b.length<=100100)(hp:p.length<=64):
  (∃e:Int,e≠0/\Fj b p=some (jL e)/\Hl b p=some (I5 e)/\Hm b p=some (I5 e))\/
  (∃f c w r n T:Nat,∃q d:Int,T<=b.length/\b.length<=100000/\Hb f c w r n=true/\FW c r n=true/\
   Fj b p=Uk b (f:Int) (c:Int) (w:Int) (r:Int) (n:Int) (T:Int)/\
   Hl b p=CM b p (f:Int) (c:Int) (w:Int) (r:Int) (n:Int) q d (T:Int) 0 0 (Ax (Ar r) n)/\
   Hm b p=(Lp b (T:Int) (f:Int) (c:Int) (w:Int) (r:Int) (n:Int)).bind λ(h,ae)=>if Bo ae 0=true then some (I5 ae)else(Di (r:Int) (n:Int)).bind λp2=>(Ju p).bind λ(u,ap)=>HX b (f:Int) (c:Int) (w:Int) (r:Int) (n:Int) h p2 u (Ae (T:Int) (Ae (Bg 4 (Ac h)) 4)) 0 []):=by
 have hO:Fj b p=Fj b p:=rfl;have hV:Hl b p=Hl b p:=rfl;have hR:Hm b p=Hm b p:=rfl
 conv at hO=>rhs;rw[Fj,Ud,Abc Ba8]
 conv at hV=>rhs;rw[Hl,TC,Abc Ba8,Pu]
 conv at hR=>rhs;rw[Hm,HY,Abc Ba8,Dh]
 by_cases h1:100000<b.length
 ·rw[Abe Ba8]at hO hV hR;refine .inl ⟨4,F0,hO,?_,?_⟩
  ·rw[hV,Aa];rfl
  ·rw[hR,Aa];rfl
 rw[Abc Ba8]at hO hV hR;rw[AM b F0,Aa]at hO hV;rw[BZ b F0,Aa]at hR;by_cases h2:(Bd b).2=0
 ·obtain⟨p0,p1,p2⟩:=FK h2;have hc:=Ha (l:=b) p0 p1;simp only[h2]at hO hV hR;rw[Abc Ba9,hc,Aa,show b.drop (Bd b).1.toNat=Jy b from rfl]at hO hV hR;rw[iS _ Bbr,Aa]at hO hV;rw[cZ _ Bbr,Aa]at hR;by_cases h3:(Jt (Jy b)).2.2.2.2.2=0
  ·obtain⟨g1,g2,g3,g4⟩:=VP h3;have hlen:(Jy b).length=b.length-(Bd b).1.toNat:=by simp[Jy]
   generalize hF:(Bd b).1.toNat=F at*
   have hF':(Bd b).1=(F:Int):=F0
   rw[g1,hF']at hO hV hR;simp only at hO hV hR;generalize f0 (Jy b)=f at*
   generalize f1 (Jy b)=c at*
   generalize f2 (Jy b)=w at*
   generalize f3 (Jy b)=r at*
   generalize f4 (Jy b)=n at*
   have t22:Ae (F:Int) 22=((F+22:Nat):Int):=by rw[Ag];omega
   have t30:Ae ((F+22:Nat):Int) 8=((F+30:Nat):Int):=by rw[Ag];omega
   have Avr:f=1\/f=2:=by simp only[Hb,Ab6]at g3;omega
   rw[Abc Ba9,t22,t30]at hO;rw[Abc Ba9,eQ g3 g4,Aa,t22,t30]at hV;rw[Aa]at hR;simp only at hV hR;rw[Abc Ba9,t22,LY,t30]at hR;by_cases WV:((p==([]:LB)) !=(geq (f:Int) (1:Int)))=true
   ·rw[Abe WV]at hO hR;refine .inl ⟨26,F0,hO,?_,?_⟩
    ·rw[hV];by_cases h5:f=2
     ·rw[Abe (by rw[Bb,h5];rfl),Aa];simp only;rw[Abc Ba9,Abe WV,vN _ _ _ _ _ _ _ _ _ _ _ _ _ F0]
     ·rw[Abc Bbd,Aa];simp only;rw[Abc Ba9,Abe WV,vN _ _ _ _ _ _ _ _ _ _ _ _ _ F0]
    ·rw[hR,Aa];rfl
   ·rw[Abc WV]at hO hR;have hpf:(p=[]↔f=1):=by
     rw[Bb]at WV;have h5:(p==([]:LB))=((f:Int)==1):=by simpa using WV
     have h6:(p==([]:LB))=true↔((f:Int)==1)=true:=by rw[h5]
     rw[Aye,Aye]at h6;rw[h6];omega
    by_cases h5:f=2
    ·have Aso:p≠ []:=λe=>by have:=hpf.1 e;omega
     rw[Abe (by rw[Bb,h5];rfl),Aa]at hV;simp only at hV;rw[Abc Ba9,Abc WV,Abc Bbd]at hV;rw[Abe (by simpa using Aso)]at hO;rw[Abc (by simpa using Aso)]at hR;by_cases h6:b.length<F+30
     ·rw[Abe F2]at hO hV hR;refine .inl ⟨24,F0,hO,?_,?_⟩
      ·rw[hV,vN _ _ _ _ _ _ _ _ _ _ _ _ _ F0]
      ·rw[hR,Aa];rfl
     ·have hseg:((b.take (F+30)).drop (F+22)).length=8:=by simp;omega
      rw[Abc F2,Ou,Aa,show((F+30:Nat):Int).toNat=F+30 from rfl,show((F+22:Nat):Int).toNat=F+22 from rfl]at hO hV hR;rw[ug hseg hp,Aa]at hO hV;rw[K5 p hp,Aa]at hR;simp only at hO hV;rw[Abc Ba9]at hO;generalize(b.take (F+30)).drop (F+22)=seg at*
      by_cases h7:seg=Tk (Zf p).toNat 8
      ·rw[Abc (by simp[h7])]at hO hV;rw[Abc (by simp[h7]),Aa]at hR;simp only at hR;rw[Abc Ba9]at hR;rw[Anb]at hV;exact .inr ⟨f,c,w,r,n,F+30,(F:Int),((F+22:Nat):Int),F0,F0,g3,g4,hO,hV,hR⟩
      ·rw[Abe (by simpa using h7)]at hO hV;rw[Abe (by simpa using h7)]at hR;refine .inl ⟨26,F0,hO,?_,?_⟩
       ·rw[hV,vN _ _ _ _ _ _ _ _ _ _ _ _ _ F0]
       ·rw[hR,Aa];rfl
    ·have hpe:p=[]:=hpf.2 F0;rw[Abc Bbd,Aa]at hV;simp only at hV;rw[Abc Ba9,Abc WV,Abe Bbd,Anb]at hV;rw[Abc (by rw[hpe];simp)]at hO;rw[Abe (by rw[hpe];rfl),Aa]at hR;simp only at hR;rw[Abc Ba9]at hR;exact .inr ⟨f,c,w,r,n,F+22,(F:Int),((F+22:Nat):Int),F0,F0,g3,g4,hO,hV,hR⟩
  ·generalize Jt (Jy b)=v at*
   obtain⟨v1,v2,v3,v4,v5,v6⟩:=v;simp only at h3 hO hV hR;rw[Abe (by rw[Ah];simpa using h3)]at hO hV;refine .inl ⟨v6,h3,hO,?_,?_⟩
   ·rw[hV,Aa];simp only;rw[Abe (by rw[Ah];simpa using h3)];rfl
   ·rw[hR,Aa];simp only;rw[Abe (by rw[Ah];simpa using h3)];rfl
 ·generalize Bd b=v at*
  obtain⟨v,e⟩:=v;simp only at h2 hO hV hR;rw[Abe (by rw[Ah];simpa using h2)]at hO hV hR;refine .inl ⟨e,h2,hO,?_,?_⟩
  ·rw[hV,Aa];simp only;rw[Abe (by rw[Ah];simpa using h2)];rfl
  ·rw[hR,Aa];simp only;rw[Abe (by rw[Ah];simpa using h2)];rfl
theorem Aet(b p:LB)(hb:b.length<=100100)(hp:p.length<=64):
  (∃e:Int,e≠0/\Fj b p=some (jL e)/\Ds b p=some (jL e)/\Hl b p=some (I5 e)/\Hm b p=some (I5 e))\/
  (∃f c w r n A l,Opn b p f c w r n A l/\Hl b p=some (Ag0 b p f c w r n A l)/\Hm b p=some (Ag0 b p f c w r n A l)):=by
 have Atl:∀{e e2:Int},jL e=jL e2->e=e2:=λh=>by simpa [jL]using h
 rcases Acf b p hb hp with⟨e,he,h1,h2,h3⟩|⟨f,c,w,r,n,T,q,d,hT,I1,g3,g4,hO,hV,hR⟩
 ·rcases jg b p hb hp with⟨e',he',k1,k2⟩|⟨f,c,w,r,n,A,l,o⟩
  ·rw[h1]at k1;have:=Atl (Asp k1);subst this;exact .inl ⟨e,he,h1,k2,h2,h3⟩
  ·have:=o.prog;rw[h1]at this;have:=Asp this;simp only[jL,As8]at this;exact absurd this.2.2.2.2.2.2.2 he
 ·obtain⟨hc,hw,hr,hn,_⟩:=HU g3;have hfit:n<=4000/c:=by simp only[FW,Ab6]at g4;exact g4.1
  have hn4:n<=4000:=by have:=Auo 4000 c;omega
  rw[N2 g3 g4 b hb T hT]at hO;have hcut:=Ha (l:=b) (a:=(T:Int)) F0 F0;rw[Afl]at hcut;have hdl:(b.drop T).length<=100100:=by simp;omega
  rw[CM,PK,Abc F2,hcut,Aa,Ac,sZ _ _ hdl,Aa]at hV;rw[Lp,hcut,Aa,fJ hr.2 hn hn4,Aa,Ac,G1 _ _ hdl,Aa,Aa]at hR;by_cases h:(Jw (b.drop T) (Ax (Ar r) n).length).2≠0
  ·rw[Abe h]at hO;generalize Jw (b.drop T) (Ax (Ar r) n).length=v at*
   obtain⟨v1,v2⟩:=v;simp only at h hO hV hR;rcases jg b p hb hp with⟨e',he',k1,k2⟩|⟨f,c,w,r,n,A,l,o⟩
   ·rw[hO]at k1;have:=Atl (Asp k1);subst this;refine .inl ⟨_,h,hO,k2,?_,?_⟩
    ·rw[hV,NI,AW,Abe (by rw[Ah];simpa using h),Apc _ _ _ _ _ _ _ _ _ _ _ _ _ _ h]
    ·rw[hR,Abe (by rw[Ah];simpa using h)]
   ·have:=o.prog;rw[hO]at this;have:=Asp this;simp only[jL,As8]at this;exact absurd this.2.2.2.2.2.2.2 h
  ·have h0:(Jw (b.drop T) (Ax (Ar r) n).length).2=0:=by simpa using h
   rw[Abc h]at hO;generalize hsv:Jw (b.drop T) (Ax (Ar r) n).length=v at*
   obtain⟨v1,v2⟩:=v;simp only at h0 hO hV hR;subst h0;rcases jg b p hb hp with⟨e',he',k1,k2⟩|⟨f',c',w',r',n',A,l,o⟩
   ·rw[hO]at k1;have:=Asp k1;simp only[jL,As8]at this;exact absurd this.2.2.2.2.2.2.2.symm he'
   ·have hp2:=o.prog;rw[hO]at hp2;have hp3:=Asp hp2;simp only[As8]at hp3;obtain⟨i1,i2,i3,i4,i5,i6,i7,_⟩:=hp3;obtain rfl:f=f':=F0
    obtain rfl:c=c':=F0
    obtain rfl:w=w':=F0
    obtain rfl:r=r':=F0
    obtain rfl:n=n':=F0
    subst i7;have hlen:=o.len;have hs1:=o.some1;have hsum:=o.sum;have hA:=o.at';have hAT:(A:Int)=(T:Int)+4*(v1.length:Int)+4:=F0
    have a1:Bg 4 (v1.length:Int)=4*(v1.length:Int):=Gp;have eV:Ae (Ae (T:Int) (Bg 4 (Ac v1))) 4=(A:Int):=by
     rw[Ac,a1,Ag (a:=(T:Int)) F0 F0,Ag];omega
    have eR:Ae (T:Int) (Ae (Bg 4 (Ac v1)) 4)=(A:Int):=by
     rw[Ac,a1,Ag (a:=4*(v1.length:Int)) F0 F0,Ag];omega
    have hlv:=iX o q d (T:Int) ((A:Int)+v1.sum) v1.length 0 Aq [] F0 Ba7 F0 Bba;have hlr:=kV o v1.length 0 Aq [] F0 Ba7 F0 Bba;rw[Aya,List.sum_nil,Int.add_zero]at hlv hlr;refine .inr ⟨f,c,w,r,n,A,v1,o,?_,?_⟩
    ·have hs:=L8 v1 b p (f:Int) (c:Int) (w:Int) (r:Int) (n:Int) q d (T:Int) (Ax (Ar r) n) hs1.2 o.five (A:Int) F0 F0 v1.length 0 Aq F0 Ba7;rw[Aya,List.sum_nil,Int.add_zero]at hs;rw[hV,NI,AW,Abc Ba9,cI,eV];refine Axr hs ?_;rw[ON,OA,eV,Oy,Pg,Abc Ba9,P2 p o.pass,Aa];exact hlv
    ·rw[hR,Abc Ba9,Aa,zw p o.pass,Aa,eR];exact hlr
def SZ(b:LB):LI:=Ax (Ar (f3 (Jy b))) (f4 (Jy b))
def RC(b:LB):Nat:=(Bd b).1.toNat+22+(if f0 (Jy b)=2 then 8 else 0)
theorem start_eq(b:LB)(hb:b.length<=100100):
  (∃e:Int,e≠0/\ (∃r1 r2 r3 r4 r5,Pu b=some (r1,r2,r3,r4,r5,0,0,0,0,0,[],e))/\ (∃q0 q1 q2 q3 q4 q5,Dh b=some (q0,q1,q2,q3,q4,q5,e)))\/
  (b.length<=100000/\ (Bd b).2=0/\ (Jt (Jy b)).2.2.2.2.2=0/\
   Pu b=some ((f0 (Jy b):Int),(f1 (Jy b):Int),(f2 (Jy b):Int),(f3 (Jy b):Int),(f4 (Jy b):Int),(Bd b).1,(Bd b).1+22,(RC b:Int),0,0,SZ b,0)/\
   Dh b=some ((Bd b).1,(f0 (Jy b):Int),(f1 (Jy b):Int),(f2 (Jy b):Int),(f3 (Jy b):Int),(f4 (Jy b):Int),0)):=by
 by_cases h1:100000<b.length
 ·refine .inl ⟨4,F0,⟨0,0,0,0,0,?_⟩,⟨0,0,0,0,0,0,?_⟩⟩
  ·rw[Pu,Abe Ba8]
  ·rw[Dh,Abe Ba8]
 ·rw[Pu,Abc Ba8,Dh,Abc Ba8,AM b F0,BZ b F0,Aa,Aa];by_cases h2:(Bd b).2=0
  ·obtain⟨p0,p1,p2⟩:=FK h2;have hc:=Ha (l:=b) p0 p1;simp only[h2];rw[Abc Ba9,Abc Ba9,hc,Aa,Aa,show b.drop (Bd b).1.toNat=Jy b from rfl,iS _ Bbr,cZ _ Bbr,Aa,Aa];by_cases h3:(Jt (Jy b)).2.2.2.2.2=0
   ·obtain⟨g1,g2,g3,g4⟩:=VP h3;refine .inr ⟨F0,trivial,h3,?_,?_⟩
    ·rw[g1];simp only;rw[Abc Ba9,eQ g3 g4,Aa];simp only;have t22:Ae (Bd b).1 22=(Bd b).1+22:=Ag;have t30:Ae ((Bd b).1+22) 8=(Bd b).1+22+8:=Ag;rw[Bb,t22,t30];by_cases h5:f0 (Jy b)=2
     ·rw[Abe (by rw[h5];rfl)];rw[show(Bd b).1+22+8=(RC b:Int) by rw[RC,Abe h5];omega];rfl
     ·rw[Abc Ba5];rw[show(RC b:Int)=(Bd b).1+22 by rw[RC,Abc h5];omega];rfl
    ·rw[g1]
   ·generalize Jt (Jy b)=v at*
    obtain⟨v1,v2,v3,v4,v5,v6⟩:=v;simp only at h3⊢;exact .inl ⟨v6,h3,⟨v1,v2,v3,v4,v5,by rw[Abe (by rw[Ah];simpa using h3)]⟩,⟨(Bd b).1,v1,v2,v3,v4,v5,rfl⟩⟩
  ·generalize Bd b=v at*
   obtain⟨v,e⟩:=v;simp only at h2⊢;refine .inl ⟨e,h2,⟨0,0,0,0,0,?_⟩,⟨0,0,0,0,0,0,?_⟩⟩
   ·rw[Abe (by rw[Ah];simpa using h2)]
   ·rw[Abe (by rw[Ah];simpa using h2)]
theorem zM(l:LI)(b:LB)(r2 r3 r4 r5 r6 r7 r8 r9:Int)(l12:LI)(hl:l.length<=1000)(h5:∀x∈l,5<=x):∀(j i q:Nat) (s:Int),i+j=l.length->j<q->0<=s->s+(l.drop i).sum<=1000000->
  Oi l b r2 r3 r4 r5 r6 r7 r8 r9 l12 q (i:Int) s=Yd b l r2 r3 r4 r5 r6 r7 r8 r9 (s+(l.drop i).sum) l12
 |0,i,q+1,s,hi,_,_,_=>by
  rw[Oi,AN,Abc F2,show i=l.length by omega,Ayb];simp
 |j+1,i,q+1,s,hi,hq,h0,hs=>by
  have hlt:i<l.length:=F0
  have hx:=h5 l[i] (Avx hlt);have h2:=Acr (l.drop (i+1)) λy hy=>h5 y (Bae hy);rw[drop_cons hlt,Avv]at hs⊢;rw[Oi,AN,Abe F2,Ci hlt,Aa,Aa,Ag,Ag];have ih:=zM l b r2 r3 r4 r5 r6 r7 r8 r9 l12 hl h5 j (i+1) q (s+l[i]) F0 F0 F0 F0;rw[show((i:Int)+1)=((i+1:Nat):Int) by omega,ih,Az4]
theorem gD(b:LB)(r2 x1:Int)(l:LI)(hl:l.length<=1000)(h5:∀x∈l,5<=x):∀(j i q:Nat) (s:Int),i+j=l.length->j<q->0<=s->s+(l.drop i).sum<=1000000->
  Ip b r2 x1 l q (i:Int) s=Sy b r2 x1 l (s+(l.drop i).sum)
 |0,i,q+1,s,hi,_,_,_=>by
  rw[Ip,Tc,Abc F2,show i=l.length by omega,Ayb];simp
 |j+1,i,q+1,s,hi,hq,h0,hs=>by
  have hlt:i<l.length:=F0
  have hx:=h5 l[i] (Avx hlt);have h2:=Acr (l.drop (i+1)) λy hy=>h5 y (Bae hy);rw[drop_cons hlt,Avv]at hs⊢;rw[Ip,Tc,Abe F2,Ci hlt,Aa,Aa,Ag,Ag];have ih:=gD b r2 x1 l hl h5 j (i+1) q (s+l[i]) F0 F0 F0 F0;rw[show((i:Int)+1)=((i+1:Nat):Int) by omega,ih,Az4]
theorem Acs{b p:LB}{f c w r n A:Nat}{l:LI}(o:Opn b p f c w r n A l)(hfit:(A:Int)+l.sum<=b.length):
  KA b=some ((Bd b).1,(Bd b).1+22,(A:Int)-4*(l.length:Int)-4,(A:Int),(A:Int)+l.sum,0)/\NM b=some ((Bd b).1,(Bd b).1+22,(A:Int)-4*(l.length:Int)-4,(A:Int),(A:Int)+l.sum,0):=by
 have I1:=o.file;have hhead:=o.head;have hpos:=o.pos;have hlen:=o.len;have hs1:=o.some1;have hsum:=o.sum;have hA:=o.at';obtain⟨p0,p1,p2⟩:=FK o.tag;have h3:(Jt (Jy b)).2.2.2.2.2=0:=by rw[hhead]
 obtain⟨c1,c2,c3,c4⟩:=VP h3;rw[c1]at hhead;simp only[As8]at hhead;obtain⟨i1,i2,i3,i4,i5,_⟩:=hhead;have e1:f0 (Jy b)=f:=F0
 have e2:f1 (Jy b)=c:=F0
 have e3:f2 (Jy b)=w:=F0
 have e4:f3 (Jy b)=r:=F0
 have e5:f4 (Jy b)=n:=F0
 have htab:=o.tab;have hT:(Bd b).1.toNat+22+(if f=2 then 8 else 0)=RC b:=by rw[RC,e1]
 rw[hT]at htab;have hTA:(RC b:Int)=(A:Int)-4*(l.length:Int)-4:=F0
 have hfr:SZ b=Ax (Ar r) n:=by rw[SZ,e4,e5]
 have hk:(SZ b).length=l.length:=by rw[hfr,hlen]
 obtain⟨hc,hw,hr,hn,_⟩:=HU o.shape;have Baw:n<=4000/c:=by have:=o.fit;simp only[FW,Ab6]at this;exact this.1
 have hn4:n<=4000:=by have:=Auo 4000 c;omega
 have Asm:Di (f3 (Jy b):Int) (f4 (Jy b):Int)=some (SZ b):=by rw[hfr,e4,e5];exact fJ hr.2 hn hn4
 rw[KA,OE,NM,FC];rcases start_eq b F0 with⟨e,he,_,⟨q0,q1,q2,q3,q4,q5,h2⟩⟩|⟨_,_,_,h1,h2⟩
 ·exfalso;have hr2:=Dh b;have:Dh b=some ((Bd b).1,(f0 (Jy b):Int),(f1 (Jy b):Int),(f2 (Jy b):Int),(f3 (Jy b):Int),(f4 (Jy b):Int),0):=by
   have hcut:=Ha (l:=b) p0 p1;have htag:=o.tag;rw[Dh,Abc Ba8,BZ b F0,Aa];generalize hv:Bd b=v at*
   obtain⟨v1,v2⟩:=v;simp only at htag hcut⊢;rw[Abc (by rw[Ah];simpa using htag),hcut,Aa,show b.drop v1.toNat=Jy b by rw[Jy,hv],cZ _ Bbr,c1,Aa]
  rw[h2]at this;have:=Asp this;simp only[As8]at this;exact he this.2.2.2.2.2.2
 ·rw[h1,h2,Aa,Aa];have z:Bo (0:Int) 0=false:=F6
  simp only[z,Ar3,Ayh];have e22:Ae (Bd b).1 22=(Bd b).1+22:=Ag;have e30:Ae ((Bd b).1+22) 8=(Bd b).1+22+8:=Ag;have hr:(if geq (f0 (Jy b):Int) 2=true then Ii b (f0 (Jy b)) (f1 (Jy b)) (f2 (Jy b)) (f3 (Jy b)) (f4 (Jy b)) (Bd b).1 (Ae (Ae (Bd b).1 22) 8)else Ii b (f0 (Jy b)) (f1 (Jy b)) (f2 (Jy b)) (f3 (Jy b)) (f4 (Jy b)) (Bd b).1 (Ae (Bd b).1 22))=
    Ii b (f0 (Jy b)) (f1 (Jy b)) (f2 (Jy b)) (f3 (Jy b)) (f4 (Jy b)) (Bd b).1 (RC b:Int):=by
   rw[e22,e30,Bb];by_cases h5:f0 (Jy b)=2
   ·rw[Abe (by rw[h5];rfl),show(Bd b).1+22+8=(RC b:Int) by rw[RC,Abe h5];omega]
   ·rw[Abc Ba5,show(Bd b).1+22=(RC b:Int) by rw[RC,Abc h5];omega]
  have hc:=Ha (l:=b) (a:=(RC b:Int)) F0 F0;rw[Afl]at hc;have hdl:(b.drop (RC b)).length<=100100:=by simp;omega
  have hsp:=sZ (b.drop (RC b)) (SZ b).length hdl;have hsr:=G1 (b.drop (RC b)) (SZ b).length hdl;rw[hk,htab]at hsp hsr;have eA:Ae (Ae (RC b:Int) (Bg 4 (Ac l))) 4=(A:Int):=by
   have a1:Bg 4 (Ac l)=4*(l.length:Int):=Gp Bbh Bbh;have a2:Ae (RC b:Int) (4*(l.length:Int))=(RC b:Int)+4*(l.length:Int):=Ag;rw[a1,a2,Ag];omega
  rw[hr,Ii,FF,Abc F2,Abc F2,Lp,hc,Asm,Aa,Aa,Aa,show Ac (SZ b)=((SZ b).length:Int)from rfl,hk,hsp,hsr,Aa,Aa,Aa];simp only;rw[hU,QI];simp only[z,Ar3,Ayh];rw[eA,fA,FH];have q1:=zM l b (f0 (Jy b)) (f1 (Jy b)) (f2 (Jy b)) (f3 (Jy b)) (f4 (Jy b)) (Bd b).1 ((Bd b).1+22) (RC b) (SZ b) F0 o.five l.length 0 Aq (A:Int) F0 Ba7 F0 (by rw[List.drop_zero];omega);have q2:=gD b (Bd b).1 (RC b) l F0 o.five l.length 0 Aq (A:Int) F0 Ba7 F0 (by rw[List.drop_zero];omega);rw[List.drop_zero]at q1 q2;rw[show(0:Int)=((0:Nat):Int)from rfl,q1,q2,Yd,aD,Mu,aF,z,Abc Bba,aL,aX,Sy,DZ,eA,e22];rw[Abc (by rw[Af,Ac];simpa using hfit),hTA];exact⟨rfl,rfl⟩
theorem Amy{ch:Nat}(hb:Ch bits)(h1:1<=ch)(h6:ch<=6):Fo (ch:Int) bits=some 0:=by
 have hr:∃x y,Py bits=some (x,y,0):=⟨_,_,U1 hb⟩;obtain⟨x,y,hr⟩:=hr;rw[Fo,hr,Aa];simp only;rw[Abc Bbs]
abbrev P6':=Int×Int×Int×LX×LI×Int
def Amp(e:Int):P6':=(0,0,0,[],[],e)
theorem Aes(g:Nat):∀K:Nat,(List.replicate K (g:Int)).sum=((K*g:Nat):Int)
 |0=>by simp
 |K+1=>by
  rw[Axk,Avv,Aes g K,Az7];omega
theorem tZ{g n:Nat}(hn:1<=n):(Ax g n).sum=(n:Int):=by
 have h:=Axz (n-1) g;rw[Ax,List.sum_append,Aes];simp only[Avv,List.sum_nil];omega
def An2(c w:Nat)(fr:LI)(k:Nat):Int:=(((fr.take k).sum.toNat*(c*wB (w:Int)):Nat):Int)
theorem Adb(C W:Nat)(fr:LI):An2 C W fr 0=0:=by rw[An2,Aya,List.sum_nil];simp
theorem P6(h:Ch bits){l:LX}(hl:l.length<=4000)(hr:inR bits l):Ap bits l=some 0:=by
 have hh:=NY bits;have key:∀(j i q:Nat),i+j=l.length->j<q->Ay l (hB bits) q (i:Int)=some 0:=by
  intro j
  induction j with
  |zero=>
   intro i q hi hq;obtain⟨q,rfl⟩:∃k,q=k+1:=⟨q-1,F0⟩;rw[Ay,Cc,Abc F2];rfl
  |succ j ih=>
   intro i q hi hq;obtain⟨q,rfl⟩:∃k,q=k+1:=⟨q-1,F0⟩;have hx:=hr l[i] (Avx F0);rw[Ay,Cc,Abe F2,Ci,Aa,Aa,Ej,U5,Bs F0 F0,Ag,Af,Dl,Abc Ba5,Abc Ba5];exact ih (i+1) q F0 F0
 rw[Ap,Cs,RU h,Aa,Abc Bbd,Abc Ba8];exact key l.length 0 Aq F0 Ba7
def uZ{α:Type}(G:Nat->List α):Nat->Nat->List α
 |0,_=>[]
 |j+1,k=>G k++uZ G j (k+1)
def Nj(bits:Int)(ch:Nat)(t x:LX):LU:=evl bits ch t (mx ch x) x.length
def za(bits:Int)(ch:Nat)(t x:LX):LB:=Jr (Tr ch (Nj bits ch t x) x.length)
def Yi(bits:Int)(ch:Nat)(t x:LX):LB:=za bits ch t x++Tk (Dn (za bits ch t x)).toNat 4
theorem Alu(bits:Int)(ch:Nat)(t x:LX)(h0:1<=x.length)(h4:x.length<=4000):1<= (za bits ch t x).length/\ (za bits ch t x).length<=40501:=by
 have h:=cU ch (Nj bits ch t x) x.length;obtain⟨k,hk⟩:∃k,x.length=k+1:=⟨x.length-1,F0⟩;have h1:1<= (Tr ch (Nj bits ch t x) x.length).length:=by
  rw[hk,Tr,Ab0];have hn:=S0 ch ((Nj bits ch t x).take k);have:=iD ((Nj bits ch t x).getD k 0) hn.1 hn.2;omega
 rw[za,Vl];omega
theorem Amj(bits:Int)(ch:Nat)(t x:LX)(h0:1<=x.length)(h4:x.length<=4000):5<= (Yi bits ch t x).length/\ (Yi bits ch t x).length<=40505:=by
 have:=Alu bits ch t x h0 h4;rw[Yi,Ab0,Dk];omega
theorem Aas(p:LB)(b0:UInt64)(a0:Int):∀(j m q:Nat),m+j<=300000->j<=64->j<q->
  Mw b0 a0 q (Mi p m j) (j:Int) (m:Int) (Ni p 0 m)=some (Ni p 0 (m+j),((m+j:Nat):Int),0)
 |0,m,q+1,_,_,_=>by
  rw[Mw,MS,Abc Bbk,XK,mY];rfl
 |j+1,m,q+1,hm,hj,hq=>by
  have hroom:Mw b0 a0 (q+1) (Mi p m (j+1)) ((j+1:Nat):Int) (m:Int) (Ni p 0 m)=MR (Mw b0 a0 q) b0 a0 (Mi p m (j+1)) ((j+1:Nat):Int) (m:Int) (room p 0 m):=by
   rw[Mw,MS,Abe Bbk,uF m F0,room];by_cases h0:m %8=0
   ·rw[Abe (by rw[Bb,h0];rfl),Ct Bb1,Aa,Abe h0]
   ·rw[Abc Bbd,Abc h0]
  have hl:Aj (Ac (room p 0 m)) 1=((m/8:Nat):Int):=by
   rw[Ac,Lo,Bi];omega
  have e2:Gi ((j+1:Nat):Int) (Aj (8:Int) ((m %8:Nat):Int))=((min (j+1) (8-m %8):Nat):Int):=by
   rw[AO,Bi];omega
  rw[hroom,MR,pA,uF m F0,e2,hl];generalize hT:min (j+1) (8-m %8)=T;have hT1:1<=T:=F0
  have hT8:m %8+T<=8:=F0
  have hg:Ak (room p 0 m) ((m/8:Nat):Int)=some (UInt8.ofNat (Bc p (0+8*(m/8)) (m %8))):=by
   rw[Ci Bbn,iP]
  have z1:(GI.toZ ((m %8:Nat):Int)).toNat=m %8:=rfl;have z2:(GI.toZ ((T:Nat):Int)).toNat=T:=rfl;have hlt:=qM p (0+8*(m/8)) (m %8+T) F0;have hadd:=II p (m %8) T (0+8*(m/8));rw[show 0+8*(m/8)+m %8=m by omega]at hadd;have hbyte:(Ad (Dr (Mi p m (j+1)) (Aj (Cy (1:UInt64) T) (1:UInt64))):UInt8)=UInt8.ofNat (Bc p m T):=by
   rw[QE,Aw5 _ F0,Aa8 p m (j+1) T F0 hj]
  have hnew:sD (UInt8.ofNat (Bc p (0+8*(m/8)) (m %8))) (Cy (UInt8.ofNat (Bc p m T)) (m %8))=UInt8.ofNat (Bc p (0+8*(m/8)) (m %8+T)):=by
   rw[or8 (Jg _ _ _) Bb2 F0,hadd,Apd (2^(m %8))]
  rw[hg,z1,z2,hbyte];simp only[Aa];rw[Bf Bbg,Aa,Bf Bbf,Aa,hnew,Qr _ Bbn,Aa,pV p 0 m T hT1 hT8,qG,oZ,uF m F0,e2,hT,Bf Bbg,Aa,z2,yw p m (j+1) T F0 hj,Bi,Ag];have ih:=Aas p b0 a0 (j+1-T) (m+T) q F0 F0 F0;rw[show m+T+(j+1-T)=m+(j+1) by omega]at ih;rw[<-ih,show((j+1:Nat):Int)-((T:Nat):Int)=((j+1-T:Nat):Int) by omega,show(m:Int)+((T:Nat):Int)=((m+T:Nat):Int) by omega]
theorem put_eq(p:LB)(m j:Nat)(hm:m+j<=300000)(hj:j<=63):PU (Ni p 0 m) (m:Int) (Mi p m j) (j:Int)=some (Ni p 0 (m+j),((m+j:Nat):Int),0):=by
 have hz:Bo (Bv (Mi p m j) (GI.toZ (j:Int)).toNat) 0=false:=by
  have:Bv (Mi p m j) j=0:=by
   apply UInt64.toNat_inj.1;rw[DO,Va p m j F0,Axl (Jg p j m)];rfl
  rw[show(GI.toZ (j:Int)).toNat=j from rfl,this];rfl
 have hl:=Hi p 0 m;have htw:VB (Ni p 0 m) (m:Int)=some (Ni p 0 m,(m:Int)):=by
  rw[VB,Eb,Ct Ba5,Aa,Aa];rfl
 rw[PU,dD,Vr (nS p 0 m F0),Aa,Abc F6,Abc Bbe,Abe Ba6,Bf Bbg,Aa,hz,Abc F6,Ag,Abc Bbb,htw,Aa];exact Aas p _ _ j m Aq hm F0 Ba7
theorem At.cat{p:LB}{a:Nat}{c d:List Bool}(h:At p a (c++d)):At p a c/\At p (a+c.length) d:=⟨h.left,h.right⟩
theorem Aa1(p:LB):∀(q a:Nat),At p a (List.replicate q true)->Bc p a q+1=2^q
 |0,a,_=>by rw[Bc]
 |q+1,a,h=>by
  rw[Axk]at h;obtain⟨h0,h1⟩:=h.cons;have:=Aa1 p q (a+1) h1;rw[Bc,h0,Avm,Abe rfl];omega
theorem qV{x:UInt64}{p:LB}{m n:Nat}(hn:n<=63)(h:x.toNat=Bc p m n):x=Mi p m n:=by
 apply UInt64.toNat_inj.1;rw[h,Va p m n F0]
theorem RW{n:Nat}(h:n<2^64):(UInt64.ofNat n).toNat=n:=by rw[Aig];exact Abo h
theorem L9{p:LB}{m q:Nat}(hq:q<=48)(hm:m+48<=300000)(h:At p m (List.replicate q true++(if q=48 then []else [false]))):
  SG (Ni p 0 m) (m:Int) (q:Int)=some (Ni p 0 (m+min (q+1) 48),((m+min (q+1) 48:Nat):Int),0):=by
 have h1:=h.left;have hv:=Aa1 p q m h1;have Bco:2^q<=2^48:=Adr F0 hq;have hval:Bc p m (min (q+1) 48)+1=2^q:=by
  by_cases h48:q=48
  ·subst h48;exact hv
  ·rw[Abc h48]at h;have h2:=h.right;rw[Asw]at h2;have h0:=h2.cons.1;rw[show min (q+1) 48=q+1 by omega,iJ,h0];simpa using hv
 have hx:(Aj (Cy (1:UInt64) q) (1:UInt64)).toNat=Bc p m (min (q+1) 48):=by
  have e1:(Cy (1:UInt64) q).toNat=2^q:=by rw[QX];show 1*2^q %_=_;rw[Nat.one_mul];exact Abo F0
  have hpos:0<2^q:=Ayf F0;rw[pY,UInt64.toNat_sub_of_le _ _ (by rw[UInt64.le_iff_toNat_le,e1];exact hpos),e1]
  show 2^q-1=_;omega
 rw[SG,Vr (nS p 0 m F0),Aa,Abc F6,ZE,Abc Bbe,Aa];simp only;have e2:Gi (Ae (q:Int) 1) 48=((min (q+1) 48:Nat):Int):=by rw[AO,Ag];omega
 rw[Abc F6,Bf Bbg,Aa,e2,show(GI.toZ (q:Int)).toNat=q from rfl,qV F0 hx,put_eq p m _ F0 F0,Aa]
theorem Alq{p:LB}{m l:Nat}{v:UInt32}(hl:l<=24)(hm:m+81<=300000)(h:At p m (UX l v.toNat)):
  YJ (Ni p 0 m) (m:Int) v (l:Int)=some (Ni p 0 (m+(UX l v.toNat).length),((m+(UX l v.toNat).length:Nat):Int),0):=by
 have hvl:=v.toNat_lt;have hz:(GI.toZ (l:Int)).toNat=l:=rfl;have hlp:2^l<=2^24:=Adr F0 hl;have hpos:0<2^l:=Ayf F0;have Azo:Vw v (l:Int)=some (decide (48<=v.toNat/2^l)):=by
  rw[Vw,Bf Bbg,Aa,hz,Ae7,HP];rfl
 rw[YJ,jT,Vr (nS p 0 m F0),Aa,Abc F6,Abc Bbe,Bf Bbg,Aa,Aa,Azo,Aa];rw[UX]at h⊢;by_cases h48:48<=v.toNat/2^l
 ·rw[Abe h48]at h⊢;obtain⟨h1,h2⟩:=h.cat;rw[Asw]at h2;have hval:=iH p 32 (m+48) v.toNat h2;rw[Abo F0]at hval;have hu:=L9 (p:=p) (m:=m) (q:=48) (Aiw _) F0 (by rw[Abe rfl,Apx];exact h1);rw[Abe (by simpa using h48),TQ,UA,show(48:Int)=((48:Nat):Int)from rfl,hu,Aa];simp only;rw[Abc F6,Cp,qV (x:=UInt64.ofNat v.toNat) (p:=p) (m:=m+48) (n:=32) F0 (by rw[RW F0,hval]),show(32:Int)=((32:Nat):Int)from rfl,show m+min (48+1) 48=m+48 by omega,put_eq p (m+48) 32 F0 F0,Aa,Ab0,Asw,Og,Avp]
 ·rw[Abc h48]at h⊢;generalize hq:v.toNat/2^l=q at*
  obtain⟨h1,h2⟩:=h.cat;rw[Asw]at h2;obtain⟨h3,h4⟩:=h2.cons;have hval:=iH p l (m+q+1) (v.toNat %2^l) h4;rw[Nat.mod_mod]at hval;have hqa:At p m (List.replicate q true++[false]):=by
   have:List.replicate q true++(false::RM (v.toNat %2^l) l)=(List.replicate q true++[false])++RM (v.toNat %2^l) l:=by simp
   rw[this]at h;exact h.left
  have hu:=L9 (p:=p) (m:=m) (q:=q) F0 F0 (by rw[Abc F0];exact hqa);have hgq:(Ad (Bv v l):Int)=(q:Int):=by rw[wC,HP,hq]
  have hrest:(Ad (Dr v (Aj (Cy (1:UInt32) l) 1)):UInt64)=Mi p (m+q+1) l:=by
   apply qV F0;have e1:(Cy (1:UInt32) l).toNat=2^l:=by rw[cH];show 1*2^l %_=_;rw[Nat.one_mul];exact Abo F0
   have e2:(Aj (Cy (1:UInt32) l) (1:UInt32)).toNat=2^l-1:=by
    rw[xK,UInt32.toNat_sub_of_le _ _ (by rw[UInt32.le_iff_toNat_le,e1];exact hpos),e1];rfl
   have e3:(Dr v (Aj (Cy (1:UInt32) l) 1)).toNat=v.toNat %2^l:=by
    rw[yN,UInt32.toNat_and,e2,Axt]
   rw[Cp,RW (by rw[e3];have:=Ax5 v.toNat hpos;omega),e3,hval]
  rw[Abc (by simpa using h48),TQ,UA,hz,hgq,hu,Aa];simp only;rw[Abc F6,hrest,show m+min (q+1) 48=m+q+1 by omega,put_eq p (m+q+1) l F0 F0,Aa,Ab0,Asw,Aj4,Og,show m+q+1+l=m+(q+(l+1)) by omega]
theorem Anx{k l:Nat}{s t:UInt64}(h:okD k l s t)(v:UInt32):XY [] 0 (k:Int) (l:Int) s t v=
  some (Jr (Tn k l v),((Tn k l v).length:Int),((kS k (Ts s (vK v)):Nat):Int),((lK l t k v:Nat):Int),Ts s (vK v),lT t k v,0):=by
 obtain⟨h1,h2,h3,h4⟩:=h;have hvl:=v.toNat_lt;have hAt:At (Jr (Tn k l v)) 0 (Tn k l v):=λi hi=>by rw[Avs,FM]
 have hlen:=iD v h1 h2;have hfull:Ni (Jr (Tn k l v)) 0 (Tn k l v).length=Jr (Tn k l v):=by
  apply wQ (by rw[Hi,Vl]);intro i hi;rw[nG,Avs,FM];by_cases hlt:i<(Tn k l v).length
  ·rw[Abe hlt]
  ·rw[Abc hlt,Z2 F0]
 generalize hP:Jr (Tn k l v)=P at*
 have h0:Ni P 0 0=[]:=rfl;have Ax0:∀(x:Int) (y:UInt64) (aj ai:Int),Xi v (k:Int) s ai P x y=some (P,ai,((kS k (Ts s (vK v)):Nat):Int),x,Ts s (vK v),y,0):=by
  intro x y aj ai;rw[Xi,TA,Cp,UJ,Agv k h1];rw[kW,TM,QR,DT,Cp,UJ];rfl
 have hp7:∀ai:Int,TP v (k:Int) (l:Int) s t 0 ai P=some (P,ai,((kS k (Ts s (vK v)):Nat):Int),((lK l t k v:Nat):Int),Ts s (vK v),lT t k v,0):=by
  intro ai;rw[TP,SW,Abc F6,yF k l s t h1,Aa];by_cases hv:v.toNat<2^k
  ·rw[Abe hv];simp only;rw[Abc Bbt,Ax0 _ _ 0,lK,Abe hv,lT,Abe hv]
  ·rw[Abc hv];simp only;rw[Abe Bbo,Cp,UJ,Agv l h2 _ (λx=>Xi v (k:Int) s ai P x (Ts t (UInt64.ofNat (aN k v).toNat))),Ax0 _ _ 0,lK,Abc hv,lT,Abc hv];rfl
 rw[XY,UC,show Hs [] 0=some 0 from rfl,Aa,Abc F6,Akj ⟨h1,h2,h3,h4⟩,Aa,Abc F6,jU,TW,yF k l s t h1,Aa];have hput:=put_eq P 0 1 F0 F0;rw[h0,Avs,show((0:Nat):Int)=0 from rfl,show((1:Nat):Int)=1 from rfl]at hput;by_cases hv:v.toNat<2^k
 ·have hc:Tn k l v=false::RM v.toNat k:=by rw[Tn,Abe hv]
  rw[hc]at hAt hfull;obtain⟨b0,b1⟩:=hAt.cons;have hval:=iH P k 1 v.toNat b1;rw[Abo hv]at hval;have hz:(Ad (0:Int):UInt64)=Mi P 0 1:=qV F0 (by rw[oL,b0];rfl);rw[Abe hv];simp only;rw[hz,hput,Aa];simp only;rw[Abe F6,Cp,qV (x:=UInt64.ofNat v.toNat) (p:=P) (m:=1) (n:=k) F0 (by rw[RW F0,hval]),show(1:Int)=((1:Nat):Int)from rfl,put_eq P 1 k F0 F0,Aa];simp only;rw[Aj4,Og,Azz k 1]at hfull;rw[hfull,hp7,hc,Aj4,Og,Azz k 1]
 ·have hc:Tn k l v=true::UX l (v.toNat-2^k):=by rw[Tn,Abc hv]
  rw[hc]at hAt hfull;obtain⟨b0,b1⟩:=hAt.cons;have hsub:=Nat.sub_le v.toNat (2^k);have hlv:(aN k v).toNat=v.toNat-2^k:=by rw[aN,Tj F0]
  have hz:(Ad (1:Int):UInt64)=Mi P 0 1:=qV F0 (by rw[oL,b0];rfl);have hr:=Alq (p:=P) (m:=1) (l:=l) (v:=aN k v) h2 F0 (by rw[hlv];exact b1);rw[hlv,show((1:Nat):Int)=1 from rfl]at hr;rw[Abc hv];simp only;rw[hz,hput,Aa];simp only;rw[Abc F6,Abe F6,hr,Aa];simp only;rw[Aj4,Azz _ 1]at hfull;rw[hfull,hp7,hc,Aj4,Azz _ 1]
section
variable (ch:Nat) (x:LX)
theorem RQ{at' i:Nat}(ha:at' %ch=0)(hi:i<ch)(h:at'+i<x.length):(mx ch x).getD (at'+i) 0=mxV (λi=>x.getD (at'+i) 0) ch i:=by
 have hb:(at'+i) %ch=i:=by rw[Nat.add_mod,ha,Avs,Nat.mod_mod,Abo hi]
 rw[Alc h,hb,show at'+i-i=at' by omega]
theorem Aax(bk:Int->LX->Option (LX×Int))(at':Nat)(h1:1<=ch)(h6:ch<=6)(hm:at' %ch=0)(hl:at'+ch<=x.length)(hl2:x.length<=4000):∀(j i q:Nat),i+j=ch-1->j<q->
  AA bk (ch:Int) (at':Int) q (i:Int) (XZ (λk=>decide (k<at'+i)) (mx ch x) x)=bk ((at'+ch:Nat):Int) (XZ (λk=>decide (k<at'+ch)) (mx ch x) x)
 |j,i,0,_,h=>absurd h (Ayw _)
 |0,i,q+1,hi,_=>by
  have hlen:=XH ch x;have e1:Aj (Ae (at':Int) (ch:Int)-(at':Int)) 1=((ch-1:Nat):Int):=by rw[Ag,Bi];omega
  have e2:Ae (at':Int) (ch:Int)-(at':Int)=(ch:Int):=by rw[Ag];omega
  have e4:Ae (at':Int) (ch:Int)=((at'+ch:Nat):Int):=by rw[Ag];omega
  rw[AA,RH,e1,Abc Ba6,cN,uT,e1,e2];obtain rfl:i=ch-1:=F0
  by_cases h2:1<ch
  ·have e3:Aj ((ch-1:Nat):Int) 1=((ch-2:Nat):Int):=by rw[Bi];omega
   have hv:Aj (x.getD (at'+(ch-1)) 0) (Ca ((mx ch x).getD (at'+(ch-2)) 0) 2)=(mx ch x).getD (at'+(ch-1)) 0:=by
    rw[RQ ch x hm F0 F0,RQ ch x hm F0 F0,mxV,mxV,Abe F0,Abc F0,Abe h2,OW,show ch-2+1=ch-1 by omega]
   rw[Abe Bbb,kB F0,Aa,e3,kB F0,Aa,
    show(at':Int)+((ch-1:Nat):Int)=((at'+(ch-1):Nat):Int) by omega,show(at':Int)+((ch-2:Nat):Int)=((at'+(ch-2):Nat):Int) by omega,
    Yb F0,Aa,Yb F0,Aa,Aa,Abc Bba,Abe Ba5,hv,ZH F0,Aa,fR,dA,e4]
   congr 1;apply Rn;intro k _;rw[Aoi];simp;omega
  ·obtain rfl:ch=1:=F0
   have hlast:x.getD at' 0=(mx 1 x).getD at' 0:=by
    have:=RQ 1 x (i:=0) hm F0 F0;rw[Axs]at this;rw[this,mxV,Abc F0,Abc F0];rfl
   rw[Abc Bbk,fR,dA,e4];congr 1;apply Awe (by rw[HC,HC]);intro k g1 g2;rw[Pw,Pw];by_cases hk:k<at'
   ·rw[Abe Ba5,Abe Ba5]
   ·by_cases hk2:k=at'
    ·subst hk2;rw[Abc Bba,Abe Bba];exact hlast
    ·rw[Abc Ba5,Abc Ba5]
 |j+1,i,q+1,hi,hq=>by
  have hlen:=XH ch x;have e1:Aj (Ae (at':Int) (ch:Int)-(at':Int)) 1=((ch-1:Nat):Int):=by rw[Ag,Bi];omega
  have e2:Ae (at':Int) (ch:Int)-(at':Int)=(ch:Int):=by rw[Ag];omega
  have e3:Ae (i:Int) 1=((i+1:Nat):Int):=by rw[Ag];omega
  have hv:Aj (x.getD (at'+(i+1)) 0) (x.getD (at'+i) 0)=(mx ch x).getD (at'+i) 0:=by
   rw[RQ ch x hm F0 F0,mxV,Abe F0,OW]
  rw[AA,RH,e1,Abe Ba6,e2,e3,kB F0,Aa,kB F0,Aa,
   show(at':Int)+((i+1:Nat):Int)=((at'+(i+1):Nat):Int) by omega,show(at':Int)+(i:Int)=((at'+i:Nat):Int) by omega,
   Yb F0,Aa,Yb F0,Aa,Aa,Abc Bba,Abc Bba,hv,ZH F0,Aa]
  have ih:=Aax bk at' h1 h6 hm hl hl2 j (i+1) q F0 F0;rw[<-ih];congr 1;apply Rn;intro k _;rw[Aoi];simp;omega
theorem tF(h1:1<=ch)(h6:ch<=6)(hm:x.length %ch=0)(hl2:x.length<=4000):∀(j at' q:Nat),at' %ch=0->at'<=x.length->x.length-at'<=j->j<q->
  AD (ch:Int) q (at':Int) (XZ (λk=>decide (k<at')) (mx ch x) x)=some (mx ch x,0)
 |j,at',0,_,_,_,h=>absurd h (Ayw _)
 |j,at',q+1,ha,hle,hj,hq=>by
  have hlen:=XH ch x;have hl:Ac (XZ (λk=>decide (k<at')) (mx ch x) x)=(x.length:Int):=by rw[Ac,HC,hlen]
  rw[AD,cW,hl];by_cases h:at'<x.length
  ·have hb:=pC ha hm h;obtain⟨j,rfl⟩:∃k,j=k+1:=⟨j-1,F0⟩;have e4:Ae (at':Int) (ch:Int)=((at'+ch:Nat):Int):=by rw[Ag];omega
   have hi:=Aax ch x (AD (ch:Int) q) at' h1 h6 ha hb hl2 (ch-1) 0 Aq F0 Ba7;have hrest:=tF h1 h6 hm hl2 j (at'+ch) q (by rw[Bah,ha]) hb F0 F0;rw[Axs]at hi;rw[Abe Ba6,show aP (x.length:Int) (at':Int) (Ae (at':Int) (ch:Int))=some () by rw[e4,aP,kB];omega,Aa];exact Axr hi hrest
  ·rw[Abc Ba6,iW (λk hk=>by simp;omega)];rfl
theorem Ajl(h1:1<=ch)(h6:ch<=6)(hm:x.length %ch=0)(hl2:x.length<=4000):vX (ch:Int) x=some (mx ch x,0):=by
 have hlen:=XH ch x;have h:=tF ch x h1 h6 hm hl2 x.length 0 Aq Bba F0 F0 Ba7;rw[vX,lV,uh ch x h1 h6 hm hl2,Aa,Abc Ba9,Dd,Ct Ba5,Aa,Aa,Av0,tI];rw[cS hlen.symm (λk _=>by simp)]at h;exact h
end
theorem Amc(a:Int32):iK a=some (aV a):=by
 have h:=Wy a;have hc:(Ad a:UInt32)=UInt32.ofNat (a.toInt %4294967296).toNat:=rfl;have hs:(Bv a (GI.toZ (31:UInt64)).toNat)=if 0<=a.toInt then(0:Int32)else -1:=by
  have e:Bv a 31=Int32.ofInt (a.toInt.fdiv (2^31)):=rfl;rw[show(GI.toZ (31:UInt64)).toNat=31 from rfl,e];by_cases h0:0<=a.toInt
  ·rw[Abe h0,show a.toInt.fdiv (2^31)=0 by rw[Ate _ F6];omega];rfl
  ·rw[Abc h0,show a.toInt.fdiv (2^31)= -1 by rw[Ate _ F6];omega];rfl
 rw[iK,hs,hc,aV];congr 1;have hsh:(Cy (UInt32.ofNat (a.toInt %4294967296).toNat) (GI.toZ (1:UInt64)).toNat).toNat=2*(a.toInt %4294967296).toNat %4294967296:=by
  rw[show(GI.toZ (1:UInt64)).toNat=1 from rfl,cH,Aj6,Abo (show(a.toInt %4294967296).toNat<2^32 by omega)];omega
 by_cases h0:0<=a.toInt
 ·rw[Abe h0,Abe h0,show(Ad (0:Int32):UInt32)=0 from rfl];apply UInt32.toNat_inj.1;rw[show∀z:UInt32,Qv z (0:UInt32)=z^^^0 from λz=>by rw[UN],Bam,hsh,Aj6,Abo (show 2*a.toInt.toNat<2^32 by omega)]
  show _^^^0=_;rw[Nat.xor_zero];omega
 ·rw[Abc h0,Abc h0,show(Ad (-1:Int32):UInt32)=4294967295 from rfl];apply UInt32.toNat_inj.1;rw[show∀z:UInt32,Qv z (4294967295:UInt32)=z^^^4294967295 from λz=>by rw[UN],Bam,hsh,Aj6,Abo (show 2*(-a.toInt-1).toNat+1<2^32 by omega)]
  show _^^^4294967295=_;have key:∀n:Nat,n<4294967296->n^^^4294967295=4294967295-n:=by
   intro n hn;have:=BitVec.toNat_not (x:=BitVec.ofNat 32 n);rw[<-BitVec.xor_allOnes,BitVec.toNat_xor,BitVec.toNat_ofNat,Abo F0]at this;simpa using this
  rw[key _ F0];omega
theorem Alb(h:Ch bits){t p:LX}(hF:OkF (sB bits) t p)(last x:Int32):
  Rl bits last (sB bits) t p x=some (uY bits (last,t,p) x,bits,x,sB bits,wK t p (uY bits (last,t,p) x),(x-gs (shB bits) last)::p.take 15,0):=by
 rw[Rl,E9 h,Aa,Abc Ba9,Al9 h,Aa];simp only;rw[OW,SQ,zy hF,Aa];simp only;rw[Abc Ba9,OW,NU,zf hF,Aa];simp only;rw[Aen (s:=sB bits) (t:=wK t p _) (p:=p) ⟨hF.1,DD _ _ _,hF.2.2⟩,Aa,Aa];rfl
end Go.Pl
