/- A part of a proof (see the text that ends in Proof). No conditions. -/
import Derived.Test.YtniihmolajmfcaaGreatDoorCpPA
import Derived.KernelRfl
set_option linter.unusedVariables false
set_option linter.unusedSimpArgs false
namespace Go.Lv
variable{a b:Int}{n:Nat}{α:Type}
theorem Hn(h: -9223372036854775808<=a+b:=by omega)(h':a+b<=9223372036854775807:=by omega):Ae a b=a+b:=by rw[Arf,Da h h']
theorem DF(h: -9223372036854775808<=a-b:=by omega)(h':a-b<=9223372036854775807:=by omega):As a b=a-b:=by rw[Arr,Da h h']
theorem xF(h: -9223372036854775808<=a*b:=by omega)(h':a*b<=9223372036854775807:=by omega):Cf a b=a*b:=by rw[Aqz,Da h h']
theorem Ahq(c:UInt8):(Al c:Int)=(c.toNat:Int):=by rw[Akr,Da]<;>have:=c.toNat_lt<;>omega
theorem yx(c:UInt32):(Al c:Int)=(c.toNat:Int):=by rw[Ahy,Da]<;>have:=c.toNat_lt<;>omega
theorem Aiz(n:Nat):(Al (n:Int):UInt64)=UInt64.ofNat n:=by simp only[Al];exact FB n
theorem Ai1{c:UInt64}(h:c.toNat<9223372036854775808):(Al c:Int)=(c.toNat:Int):=by rw[Ahs,Da]<;>omega
theorem pY:pP=17179869184:=F5
theorem sG:36893488147419103231<Aq:=F5
theorem uS{l:List α}(h:n<l.length:=by omega):Af l (n:Int)=some l[n]:=by simp[Af,h]
theorem QJ{l m:List α}(h:l.length+m.length<=17179869184:=by omega):Ba l m=some (l++m):=by rw[Ba,pY,B! h]
theorem cM{n:Int}{z:α}(h:0<=n:=by omega)(h':n<=17179869184:=by omega):mkI n z=some (List.replicate n.toNat z):=by rw[mkI,pY,B! ⟨h,h'⟩]
theorem jy{b:Bool}(h:b=true):Ew b=some ():=by rw[h];rfl
theorem Kq{β:Type}(a:α)(f:α->Option β):Option.bind (some a) f=f a:=rfl
theorem jI{l:List α}(h:n<l.length):l.take (n+1)=l.take n++[l[n]]:=by rw[List.take_add_one,E_ h];rfl
end Go.Lv
namespace Go.Pl
open Go Go.Lv
variable{c:Bool}{a i b:Int}{k:IntKind}{n:Nat}
theorem m?{p:Prop}(h:p:=by unfold Aa;simp;omega):p:=h
theorem mS{p:Prop}(h:p:=by unfold Aa;simp):p:=h
def Dq{α:Type}(p:α->Prop)(l:List α):Prop:=∀x∈l,p x
def Rg(a b x:Int):Prop:=a<=x/\x<=b
def Le{α:Type}(n:Int)(x:List α):Prop:=Aa x<=n
def Fz(x:Int):Prop:= -9223372036854775808<=x/\x<=9223372036854775807
def PD(a g:LB)(m o n p u:Int)(k:LI)(h:Int)(v:LB)(b:Bool)(f:Int):Prop:=Aa a<=64/\Aa g<=100000/\Aa k<=1000/\0<=h/\h<=Aa k/\Aa v<=12000000/\ (b=false->f=0->Aa v<=12000*h)/\0<=f/\f<=99/\ (m=0->Aa k=0)/\Dq (Rg 5 100000) k
def PE(m:LB)(n:LX)(o:List LB)(p:LB)(a:Int):Prop:=Aa m<=18/\Aa n<=3000000/\Aa o<=102000/\Dq (Le 200000) o/\Aa p<=17179869184/\0<=a/\a<=99
def Nl(x:UInt8):Prop:=x≠10
def Ln(n:Int)(x:LB):Prop:=Aa x<=n/\Dq Nl x
def Mu(h:LB):Prop:=(h==[112,97,115,115,119,111,114,100])=true\/ (h==[102,105,108,101])=true\/ (h==[97,100,100])=true\/ (h==[99,117,116])=true\/ (h==[102,108,105,112])=true\/ (h==[98,117,114,115,116])=true\/ (h==[99,108,105,112])=true
def BX(m h x n:Int):Prop:=h=8/\Cf x m<=n\/h=16/\2*Cf x m<=n\/h=24/\3*Cf x m<=n
def Sr(x:UInt8×Int×Unit):Prop:=0<=x.2.1/\x.2.1<=999999999
def St(x:Int×LB×Unit):Prop:=0<=x.1/\x.1<=99/\Aa x.2.1<=12000000
def Wd(n:Int)(x:LB):Prop:=1<=Aa x/\Aa x<=n
def Nn(x:Int):Prop:=0<=x
def sm(a:LI)(f:Int):Int:=(a.drop f.toNat).sum
theorem Cj:sm [] 0=0:=rfl
theorem Ck(x:Int):sm [x] 0=x:=by unfold sm;simp
theorem Cm(l m:LI):sm (l++m) 0=sm l 0+sm m 0:=by unfold sm;simp
theorem Ary(l:LI)(h:Dq Nn l):0<=l.sum:=by
 induction l with
 |nil=>exact H3 _
 |cons a l ih=>
  have h1:0<=a:=h a (H6 ..);have h2:=ih λx hx=>h x (G_ _ hx);rw[List.sum_cons];omega
def Ty(x:Int×Int32×(Int×LX×LX×Unit)×Unit):Prop:=Aa x.2.2.1.2.1=16/\Aa x.2.2.1.2.2.1=16
theorem all_nil{α:Type}{p:α->Prop}:Dq p []:=λ_ h=>by cases h
theorem Ad{α:Type}{p:α->Prop}{l m:List α}(h:Dq p l)(k:Dq p m):Dq p (l++m):=λx hx=>(List.mem_append.1 hx).elim (h x) (k x)
theorem Bc{α:Type}{p:α->Prop}{a:α}(h:p a):Dq p [a]:=λx hx=>by rw[kV]at hx;exact hx▸h
theorem all_cons{α:Type}{p:α->Prop}{a:α}{l:List α}(h:p a)(k:Dq p l):Dq p (a::l):=λx hx=>(List.mem_cons.1 hx).elim (λe=>e▸h) (k x)
theorem Ch{l:LB}(h:(l.all λx=>!(x==10))=true):Dq Nl l:=λx hx e=>by
 have:=List.all_eq_true.1 h x hx;rw[e]at this;exact absurd this F5
theorem Ey{α:Type}{p:α->Prop}{a:α}(h:p a):Dq p (List.replicate n a):=λx hx=>(List.mem_replicate.1 hx).2▸h
def T{α:Type}(o:Option α)(Q:α->Prop):Prop:=∃y,o=some y/\Q y
theorem Dv(a b:Int):Ae a b=wrap64 (a+b):=rfl
theorem Dr(a b:Int):As a b=wrap64 (a-b):=rfl
theorem Hl(a b:Int):Cf a b=wrap64 (a*b):=rfl
theorem Is(a:Int):L7 a=wrap64 (0-a):=rfl
theorem Bt(a:Int):wrap64 a=(a+9223372036854775808) %18446744073709551616-9223372036854775808:=by
 rw[z_];split<;>omega
theorem zw(h: -9223372036854775808<=a)(h':a<=9223372036854775807):wrap64 a=a:=Da h h'
theorem ED{p:Prop}{i:Decidable p}:(@decide p i=true)=p:=by cases i<;>simp_all
theorem EJ{p:Prop}{i:Decidable p}:(@decide p i=false)=¬p:=by cases i<;>simp_all
theorem EA(b:Bool):(b=true)=(b.toNat=1):=by cases b<;>simp
theorem EO(b:Bool):(b=false)=(b.toNat=0):=by cases b<;>simp
theorem Qe{T:Type} [GI T k](a b:T):Bw a b=decide (GI.toZ a<GI.toZ b):=rfl
theorem DP{T:Type} [GI T k](a b:T):TL a b=decide (GI.toZ a<=GI.toZ b):=rfl
theorem Ti{T:Type} [GI T k](a b:T):Dp a b=decide (GI.toZ b<GI.toZ a):=rfl
theorem Yr{T:Type} [GI T k](a b:T):Ft a b=decide (GI.toZ b<=GI.toZ a):=rfl
theorem BR{T:Type} [GI T k](a b:T):geq a b=decide (GI.toZ a=GI.toZ b):=rfl
theorem Tx{T:Type} [GI T k](a b:T):Ay a b=decide (GI.toZ a≠GI.toZ b):=by
 unfold Ay;cases h:(GI.toZ a !=GI.toZ b)<;>simp_all
theorem zi(a:Int):GI.toZ a=a:=rfl
theorem z8(a:UInt8):GI.toZ a=(a.toNat:Int):=rfl
theorem z32(a:UInt32):GI.toZ a=(a.toNat:Int):=rfl
theorem z64(a:UInt64):GI.toZ a=(a.toNat:Int):=rfl
theorem Ir(a b:Int):Ge a b=min a b:=by
 have e:Ge a b=if b<a then b else a:=rfl;rw[e];split<;>omega
theorem Ig(a b:Int):G7 a b=max a b:=by
 have e:G7 a b=if b>a then b else a:=rfl;rw[e];split<;>omega
theorem Gn(a b:Int):Ex a b=wrap64 (a.tdiv b):=rfl
theorem Fh(a b:Int):Jh a b=a.tmod b:=rfl
theorem mX(b:Int)(h:0<=a):a.tdiv b=a/b:=kH h
theorem XL(b:Int)(h:0<=a):a.tmod b=a %b:=Int.tmod_eq_emod_of_nonneg h
theorem DS(a:Int):J' a (GI.toZ (3:UInt64)).toNat=a/8:=by
 have e:(GI.toZ (3:UInt64)).toNat=3:=rfl;rw[e];unfold J';exact S5 a F5
theorem Ij(a:Int):J' a (Int.toNat ((3:Nat):Int))=a/8:=DS a
theorem DJ(a:UInt8):(Al a:Int)=(a.toNat:Int):=Ahq a
theorem Ii(a:UInt32):(Al a:Int)=(a.toNat:Int):=yx a
theorem Iu(a:UInt64):(Al a:Int)=wrap64 (a.toNat:Int):=rfl
theorem Im(a:Int):GI.toZ (Al a:UInt64)=a %18446744073709551616:=GI.toZ_ofZ a
theorem z15(a:UInt8):(Ec a 15).toNat<16:=by
 rw[Am5,UInt8.toNat_and];have:a.toNat&&& (15:UInt8).toNat<= (15:UInt8).toNat:=Nat.and_le_right;have:(15:UInt8).toNat=15:=rfl;omega
theorem zn4(a:UInt8):(Dj a (GI.toZ (4:UInt64)).toNat).toNat<16:=by
 have e:(GI.toZ (4:UInt64)).toNat=4:=rfl;rw[e,Apl];have:=a.toNat_lt;omega
theorem Avh(a:UInt64):(Dj a (GI.toZ (58:UInt64)).toNat).toNat<64:=by
 have e:(GI.toZ (58:UInt64)).toNat=58:=rfl;rw[e,om];have:=a.toNat_lt;omega
theorem EF(a:Int):Ec a 7=a %8:=by
 have e:Ec a (7:Int)=wrap64 ((BitVec.ofInt 64 a&&&BitVec.ofInt 64 7).toNat:Int):=rfl;rw[e,SS,K8,K8];have h2:((7:Int) %((2^64:Nat):Int)).toNat=2^3-1:=F5
 rw[h2,kE,Da F3 F3];omega
theorem ES{α:Type}(l m:List α)(a n:Int):(Ok l a n m).length=min a.toNat l.length+(min n.toNat m.length+(l.length-(a.toNat+min n.toNat m.length))):=by
 unfold Ok;rw[B_,B_,C7,C7,D0];
theorem zqm(n:Int)(_:True)(h:1<=n/\n<=40000000):1000<=Ex 9223372036854775807 n:=by
 have h1:=QS (show(0:Int)<=9223372036854775807 by decide) (show 0<=n by omega);have h2:=SP (b:=n) (show(0:Int)<=9223372036854775807 by decide);have h3:1000<= (9223372036854775807:Int)/n:=Int.le_ediv_of_mul_le F3 F3;rw[Gn,kH F5,Da F3 F3];exact h3
theorem z8b(b:UInt8)(_:True):(b.toNat:Int)<=255:=by have:=b.toNat_lt;omega
theorem zm1(a b:Int)(_:True)(h:a=1):Cf a (As b 1)=As b 1:=by
 rw[h,Hl,Dr,Int.one_mul,Bt,Bt];omega
theorem Hr{T:Type} [GI T k](a:T):Fz (Al a:Int):=by
 have e:(Al a:Int)=wrap64 (GI.toZ a):=rfl;unfold Fz;rw[e,Bt];omega
theorem zws(a n:Int)(_:True)(h:Jh n (Ex a 8)=0)(hn:0<=n)(ha:8<=a/\a<=24/\a %8=0):a=8\/a=16/\n %2=0\/a=24/\n %3=0:=by
 have:a=8\/a=16\/a=24:=F3
 rcases this with rfl|rfl|rfl
 ·exact .inl rfl
 ·rw[Fh,XL _ hn,show Ex (16:Int) 8=2 by decide]at h;exact .inr (.inl ⟨rfl,h⟩)
 ·rw[Fh,XL _ hn,show Ex (24:Int) 8=3 by decide]at h;exact .inr (.inr ⟨rfl,h⟩)
theorem tap{α:Type}{l m:List α}{Q:List α->Prop}(h:Aa l+Aa m<=17179869184)(q:Q (l++m)):T (Ba l m) Q:=⟨_,by unfold Ba pP;unfold Aa at h;rw[B! F3],q⟩
theorem Aq4{a:LI}{f x:Int}(e:Af a f=some x)(h:Dq Nn a/\0<=f/\f<=1000):0<=x/\sm a f=x+sm a (Ae f 1)/\0<=sm a (Ae f 1):=by
 unfold Af at e;rw[B! h.2.1]at e;have hl:f.toNat<a.length:=(List.getElem?_eq_some_iff.1 e).1;have hx:a[f.toNat]=x:=(List.getElem?_eq_some_iff.1 e).2;rw[Hn];unfold sm;rw[show(f+1).toNat=f.toNat+1 by omega,kI hl,List.sum_cons,hx];exact⟨hx▸h.1 _ (N8 _),rfl,Ary _ λy hy=>h.1 y (List.mem_of_mem_drop hy)⟩
theorem zp8(a:Int)(_:True)(h:0<=a/\a<=8):1<=Fe (1:Int) (GI.toZ a).toNat/\Fe (1:Int) (GI.toZ a).toNat<=256:=by
 have:a=0\/a=1\/a=2\/a=3\/a=4\/a=5\/a=6\/a=7\/a=8:=F3
 rcases this with rfl|rfl|rfl|rfl|rfl|rfl|rfl|rfl|rfl<;>decide
theorem zfa{f a:Int}(h:1<=a/\a<=6/\0<=f/\f<=4000):0<=Cf f a/\Cf f a<=24000:=by
 have:a=1\/a=2\/a=3\/a=4\/a=5\/a=6:=F3
 rw[Hl];rcases this with rfl|rfl|rfl|rfl|rfl|rfl<;>rw[Da F3 F3]<;>omega
theorem zq4(a:Int)(_:True)(h:1<=a):0<=Ex 4000 a/\Ex 4000 a<=4000:=by
 have h1:=QS (show(0:Int)<=4000 by decide) (show 0<=a by omega);have h2:=SP (b:=a) (show(0:Int)<=4000 by decide);rw[Gn,kH F5,Da F3 F3];exact⟨h1,h2⟩
theorem Cy:(Aq:Int)=36893488147419103232:=rfl
section
variable {α β:Type} {o:Option α} {f:α->Option β} {P:α->Prop} {Q:β->Prop} {H:Prop}
theorem tj{o:Option β}{H:Prop}(c:H->T o Q)(h:H:=by first|exact True.intro|((try clear ih)<;>(try clear hb)<;>(try simp only[Dv,Dr,Hl,Is,Bt,Qe,DP,Ti,Yr,BR,Tx,zi,z8,z32,z64,Ir,Ig,Gn,Fh,DS,Ij,DJ,Ii,Iu,Im,EF,UInt8.reduceToNat,UInt32.reduceToNat,UInt64.reduceToNat,Cy,Rg,Le,Ln,PE,Mu,BX,Sr,St,Wd,Nn,Cj,Ck,Cm,PD,Ty,Fz,Aa,Cp,ES,Cq,C7,D0,D3,Eg,C5,C4,B_,D',C?,BC,↓ED,↓EJ,CE,D7,C9,D2,reduceCtorEq,E0,E1,E3,C_,D8,D1,D_,E4,D!,D9,D6,D4,D5,E5]at *)<;>(try simp only[EA,EO]at *)<;>omega)|((try clear ih)<;>(try clear hb)<;>(try simp only[Dv,Dr,Hl,Is,Qe,DP,Ti,Yr,BR,Tx,zi,z8,z32,z64,Ir,Ig,Gn,Fh,DS,Ij,DJ,Ii,Iu,Im,EF,UInt8.reduceToNat,UInt32.reduceToNat,UInt64.reduceToNat,Cy,Rg,Le,Ln,PE,Mu,BX,Sr,St,Wd,Nn,Cj,Ck,Cm,PD,Ty,Fz,Aa,Cp,ES,Cq,C7,D0,D3,Eg,C5,C4,B_,D',C?,BC,↓ED,↓EJ,CE,D7,C9,D2,reduceCtorEq,E0,E1,E3,C_,D8,D1,D_,E4,D!,D9,D6,D4,D5,E5]at *)<;>(try simp only[EA,EO]at *)<;>(try simp(disch:=omega)only[zw,mX,XL]at *)<;>(try simp only[Bt]at *)<;>first|omega|(and_intros<;>first|omega|assumption|exact all_nil|exact Ey ⟨rfl,rfl⟩|exact Bc (by simp only[Nn,Aa]at *;omega)|exact Ad (by first|assumption|grind) (Bc (by first|assumption|exact Hr _|(simp only[Nn,Dv,Dr,Bt,Fz,Rg,Le,Ln,St,Sr,Aa,C4]at *;omega)|simp_all))|grind|(simp_all;done)|(first|grind|exact Ch F5|(apply Ad<;>(first|grind|exact Ch F5))|(apply Ad<;>first|grind|exact Ch F5|(apply Ad<;>(first|grind|exact Ch F5))))|(repeat' first|exact all_nil|exact Hr _|apply all_cons|(simp only[Fz]at *;omega);done))|(intros;and_intros<;>first|omega|assumption|exact all_nil|grind|simp_all|(first|grind|exact Ch F5|(apply Ad<;>(first|grind|exact Ch F5))|(apply Ad<;>first|grind|exact Ch F5|(apply Ad<;>(first|grind|exact Ch F5))))))):T o Q:=c h
theorem ts{y:β}(h:Q y:=by first|exact True.intro|((try clear ih)<;>(try clear hb)<;>(try simp only[Dv,Dr,Hl,Is,Bt,Qe,DP,Ti,Yr,BR,Tx,zi,z8,z32,z64,Ir,Ig,Gn,Fh,DS,Ij,DJ,Ii,Iu,Im,EF,UInt8.reduceToNat,UInt32.reduceToNat,UInt64.reduceToNat,Cy,Rg,Le,Ln,PE,Mu,BX,Sr,St,Wd,Nn,Cj,Ck,Cm,PD,Ty,Fz,Aa,Cp,ES,Cq,C7,D0,D3,Eg,C5,C4,B_,D',C?,BC,↓ED,↓EJ,CE,D7,C9,D2,reduceCtorEq,E0,E1,E3,C_,D8,D1,D_,E4,D!,D9,D6,D4,D5,E5]at *)<;>(try simp only[EA,EO]at *)<;>omega)|((try clear ih)<;>(try clear hb)<;>(try simp only[Dv,Dr,Hl,Is,Qe,DP,Ti,Yr,BR,Tx,zi,z8,z32,z64,Ir,Ig,Gn,Fh,DS,Ij,DJ,Ii,Iu,Im,EF,UInt8.reduceToNat,UInt32.reduceToNat,UInt64.reduceToNat,Cy,Rg,Le,Ln,PE,Mu,BX,Sr,St,Wd,Nn,Cj,Ck,Cm,PD,Ty,Fz,Aa,Cp,ES,Cq,C7,D0,D3,Eg,C5,C4,B_,D',C?,BC,↓ED,↓EJ,CE,D7,C9,D2,reduceCtorEq,E0,E1,E3,C_,D8,D1,D_,E4,D!,D9,D6,D4,D5,E5]at *)<;>(try simp only[EA,EO]at *)<;>(try simp(disch:=omega)only[zw,mX,XL]at *)<;>(try simp only[Bt]at *)<;>first|omega|(and_intros<;>first|omega|assumption|exact all_nil|exact Ey ⟨rfl,rfl⟩|exact Bc (by simp only[Nn,Aa]at *;omega)|exact Ad (by first|assumption|grind) (Bc (by first|assumption|exact Hr _|(simp only[Nn,Dv,Dr,Bt,Fz,Rg,Le,Ln,St,Sr,Aa,C4]at *;omega)|simp_all))|grind|(simp_all;done)|(first|grind|exact Ch F5|(apply Ad<;>(first|grind|exact Ch F5))|(apply Ad<;>first|grind|exact Ch F5|(apply Ad<;>(first|grind|exact Ch F5))))|(repeat' first|exact all_nil|exact Hr _|apply all_cons|(simp only[Fz]at *;omega);done))|(intros;and_intros<;>first|omega|assumption|exact all_nil|grind|simp_all|(first|grind|exact Ch F5|(apply Ad<;>(first|grind|exact Ch F5))|(apply Ad<;>first|grind|exact Ch F5|(apply Ad<;>(first|grind|exact Ch F5))))))):T (some y) Q:=⟨y,rfl,h⟩
theorem tf{o:Option β}{H F:Prop}(hf:H->F)(k:F->T o Q)(h:H:=by first|exact True.intro|((try clear ih)<;>(try clear hb)<;>(try simp only[Dv,Dr,Hl,Is,Bt,Qe,DP,Ti,Yr,BR,Tx,zi,z8,z32,z64,Ir,Ig,Gn,Fh,DS,Ij,DJ,Ii,Iu,Im,EF,UInt8.reduceToNat,UInt32.reduceToNat,UInt64.reduceToNat,Cy,Rg,Le,Ln,PE,Mu,BX,Sr,St,Wd,Nn,Cj,Ck,Cm,PD,Ty,Fz,Aa,Cp,ES,Cq,C7,D0,D3,Eg,C5,C4,B_,D',C?,BC,↓ED,↓EJ,CE,D7,C9,D2,reduceCtorEq,E0,E1,E3,C_,D8,D1,D_,E4,D!,D9,D6,D4,D5,E5]at *)<;>(try simp only[EA,EO]at *)<;>omega)|((try clear ih)<;>(try clear hb)<;>(try simp only[Dv,Dr,Hl,Is,Qe,DP,Ti,Yr,BR,Tx,zi,z8,z32,z64,Ir,Ig,Gn,Fh,DS,Ij,DJ,Ii,Iu,Im,EF,UInt8.reduceToNat,UInt32.reduceToNat,UInt64.reduceToNat,Cy,Rg,Le,Ln,PE,Mu,BX,Sr,St,Wd,Nn,Cj,Ck,Cm,PD,Ty,Fz,Aa,Cp,ES,Cq,C7,D0,D3,Eg,C5,C4,B_,D',C?,BC,↓ED,↓EJ,CE,D7,C9,D2,reduceCtorEq,E0,E1,E3,C_,D8,D1,D_,E4,D!,D9,D6,D4,D5,E5]at *)<;>(try simp only[EA,EO]at *)<;>(try simp(disch:=omega)only[zw,mX,XL]at *)<;>(try simp only[Bt]at *)<;>first|omega|(and_intros<;>first|omega|assumption|exact all_nil|exact Ey ⟨rfl,rfl⟩|exact Bc (by simp only[Nn,Aa]at *;omega)|exact Ad (by first|assumption|grind) (Bc (by first|assumption|exact Hr _|(simp only[Nn,Dv,Dr,Bt,Fz,Rg,Le,Ln,St,Sr,Aa,C4]at *;omega)|simp_all))|grind|(simp_all;done)|(first|grind|exact Ch F5|(apply Ad<;>(first|grind|exact Ch F5))|(apply Ad<;>first|grind|exact Ch F5|(apply Ad<;>(first|grind|exact Ch F5))))|(repeat' first|exact all_nil|exact Hr _|apply all_cons|(simp only[Fz]at *;omega);done))|(intros;and_intros<;>first|omega|assumption|exact all_nil|grind|simp_all|(first|grind|exact Ch F5|(apply Ad<;>(first|grind|exact Ch F5))|(apply Ad<;>first|grind|exact Ch F5|(apply Ad<;>(first|grind|exact Ch F5))))))):T o Q:=k (hf h)
theorem tQ{y:α}(e:H->o=some y)(k:T (f y) Q)(h:H:=by first|exact True.intro|((try clear ih)<;>(try clear hb)<;>(try simp only[Dv,Dr,Hl,Is,Bt,Qe,DP,Ti,Yr,BR,Tx,zi,z8,z32,z64,Ir,Ig,Gn,Fh,DS,Ij,DJ,Ii,Iu,Im,EF,UInt8.reduceToNat,UInt32.reduceToNat,UInt64.reduceToNat,Cy,Rg,Le,Ln,PE,Mu,BX,Sr,St,Wd,Nn,Cj,Ck,Cm,PD,Ty,Fz,Aa,Cp,ES,Cq,C7,D0,D3,Eg,C5,C4,B_,D',C?,BC,↓ED,↓EJ,CE,D7,C9,D2,reduceCtorEq,E0,E1,E3,C_,D8,D1,D_,E4,D!,D9,D6,D4,D5,E5]at *)<;>(try simp only[EA,EO]at *)<;>omega)|((try clear ih)<;>(try clear hb)<;>(try simp only[Dv,Dr,Hl,Is,Qe,DP,Ti,Yr,BR,Tx,zi,z8,z32,z64,Ir,Ig,Gn,Fh,DS,Ij,DJ,Ii,Iu,Im,EF,UInt8.reduceToNat,UInt32.reduceToNat,UInt64.reduceToNat,Cy,Rg,Le,Ln,PE,Mu,BX,Sr,St,Wd,Nn,Cj,Ck,Cm,PD,Ty,Fz,Aa,Cp,ES,Cq,C7,D0,D3,Eg,C5,C4,B_,D',C?,BC,↓ED,↓EJ,CE,D7,C9,D2,reduceCtorEq,E0,E1,E3,C_,D8,D1,D_,E4,D!,D9,D6,D4,D5,E5]at *)<;>(try simp only[EA,EO]at *)<;>(try simp(disch:=omega)only[zw,mX,XL]at *)<;>(try simp only[Bt]at *)<;>first|omega|(and_intros<;>first|omega|assumption|exact all_nil|exact Ey ⟨rfl,rfl⟩|exact Bc (by simp only[Nn,Aa]at *;omega)|exact Ad (by first|assumption|grind) (Bc (by first|assumption|exact Hr _|(simp only[Nn,Dv,Dr,Bt,Fz,Rg,Le,Ln,St,Sr,Aa,C4]at *;omega)|simp_all))|grind|(simp_all;done)|(first|grind|exact Ch F5|(apply Ad<;>(first|grind|exact Ch F5))|(apply Ad<;>first|grind|exact Ch F5|(apply Ad<;>(first|grind|exact Ch F5))))|(repeat' first|exact all_nil|exact Hr _|apply all_cons|(simp only[Fz]at *;omega);done))|(intros;and_intros<;>first|omega|assumption|exact all_nil|grind|simp_all|(first|grind|exact Ch F5|(apply Ad<;>(first|grind|exact Ch F5))|(apply Ad<;>first|grind|exact Ch F5|(apply Ad<;>(first|grind|exact Ch F5))))))):T (o.bind f) Q:=by rw[e h];exact k
theorem tm{o:Option α}{P Q:α->Prop}(c:T o P)(h:∀y,P y->Q y):T o Q:=by
 obtain⟨y,e,hp⟩:=c;exact⟨y,e,h y hp⟩
theorem tn(h:False:=by first|exact True.intro|((try clear ih)<;>(try clear hb)<;>(try simp only[Dv,Dr,Hl,Is,Bt,Qe,DP,Ti,Yr,BR,Tx,zi,z8,z32,z64,Ir,Ig,Gn,Fh,DS,Ij,DJ,Ii,Iu,Im,EF,UInt8.reduceToNat,UInt32.reduceToNat,UInt64.reduceToNat,Cy,Rg,Le,Ln,PE,Mu,BX,Sr,St,Wd,Nn,Cj,Ck,Cm,PD,Ty,Fz,Aa,Cp,ES,Cq,C7,D0,D3,Eg,C5,C4,B_,D',C?,BC,↓ED,↓EJ,CE,D7,C9,D2,reduceCtorEq,E0,E1,E3,C_,D8,D1,D_,E4,D!,D9,D6,D4,D5,E5]at *)<;>(try simp only[EA,EO]at *)<;>omega)|((try clear ih)<;>(try clear hb)<;>(try simp only[Dv,Dr,Hl,Is,Qe,DP,Ti,Yr,BR,Tx,zi,z8,z32,z64,Ir,Ig,Gn,Fh,DS,Ij,DJ,Ii,Iu,Im,EF,UInt8.reduceToNat,UInt32.reduceToNat,UInt64.reduceToNat,Cy,Rg,Le,Ln,PE,Mu,BX,Sr,St,Wd,Nn,Cj,Ck,Cm,PD,Ty,Fz,Aa,Cp,ES,Cq,C7,D0,D3,Eg,C5,C4,B_,D',C?,BC,↓ED,↓EJ,CE,D7,C9,D2,reduceCtorEq,E0,E1,E3,C_,D8,D1,D_,E4,D!,D9,D6,D4,D5,E5]at *)<;>(try simp only[EA,EO]at *)<;>(try simp(disch:=omega)only[zw,mX,XL]at *)<;>(try simp only[Bt]at *)<;>first|omega|(and_intros<;>first|omega|assumption|exact all_nil|exact Ey ⟨rfl,rfl⟩|exact Bc (by simp only[Nn,Aa]at *;omega)|exact Ad (by first|assumption|grind) (Bc (by first|assumption|exact Hr _|(simp only[Nn,Dv,Dr,Bt,Fz,Rg,Le,Ln,St,Sr,Aa,C4]at *;omega)|simp_all))|grind|(simp_all;done)|(first|grind|exact Ch F5|(apply Ad<;>(first|grind|exact Ch F5))|(apply Ad<;>first|grind|exact Ch F5|(apply Ad<;>(first|grind|exact Ch F5))))|(repeat' first|exact all_nil|exact Hr _|apply all_cons|(simp only[Fz]at *;omega);done))|(intros;and_intros<;>first|omega|assumption|exact all_nil|grind|simp_all|(first|grind|exact Ch F5|(apply Ad<;>(first|grind|exact Ch F5))|(apply Ad<;>first|grind|exact Ch F5|(apply Ad<;>(first|grind|exact Ch F5))))))):T none Q:=h.elim
theorem tb(c:H->T o P)(k:∀y,P y->T (f y) Q)(h:H:=by first|exact True.intro|((try clear ih)<;>(try clear hb)<;>(try simp only[Dv,Dr,Hl,Is,Bt,Qe,DP,Ti,Yr,BR,Tx,zi,z8,z32,z64,Ir,Ig,Gn,Fh,DS,Ij,DJ,Ii,Iu,Im,EF,UInt8.reduceToNat,UInt32.reduceToNat,UInt64.reduceToNat,Cy,Rg,Le,Ln,PE,Mu,BX,Sr,St,Wd,Nn,Cj,Ck,Cm,PD,Ty,Fz,Aa,Cp,ES,Cq,C7,D0,D3,Eg,C5,C4,B_,D',C?,BC,↓ED,↓EJ,CE,D7,C9,D2,reduceCtorEq,E0,E1,E3,C_,D8,D1,D_,E4,D!,D9,D6,D4,D5,E5]at *)<;>(try simp only[EA,EO]at *)<;>omega)|((try clear ih)<;>(try clear hb)<;>(try simp only[Dv,Dr,Hl,Is,Qe,DP,Ti,Yr,BR,Tx,zi,z8,z32,z64,Ir,Ig,Gn,Fh,DS,Ij,DJ,Ii,Iu,Im,EF,UInt8.reduceToNat,UInt32.reduceToNat,UInt64.reduceToNat,Cy,Rg,Le,Ln,PE,Mu,BX,Sr,St,Wd,Nn,Cj,Ck,Cm,PD,Ty,Fz,Aa,Cp,ES,Cq,C7,D0,D3,Eg,C5,C4,B_,D',C?,BC,↓ED,↓EJ,CE,D7,C9,D2,reduceCtorEq,E0,E1,E3,C_,D8,D1,D_,E4,D!,D9,D6,D4,D5,E5]at *)<;>(try simp only[EA,EO]at *)<;>(try simp(disch:=omega)only[zw,mX,XL]at *)<;>(try simp only[Bt]at *)<;>first|omega|(and_intros<;>first|omega|assumption|exact all_nil|exact Ey ⟨rfl,rfl⟩|exact Bc (by simp only[Nn,Aa]at *;omega)|exact Ad (by first|assumption|grind) (Bc (by first|assumption|exact Hr _|(simp only[Nn,Dv,Dr,Bt,Fz,Rg,Le,Ln,St,Sr,Aa,C4]at *;omega)|simp_all))|grind|(simp_all;done)|(first|grind|exact Ch F5|(apply Ad<;>(first|grind|exact Ch F5))|(apply Ad<;>first|grind|exact Ch F5|(apply Ad<;>(first|grind|exact Ch F5))))|(repeat' first|exact all_nil|exact Hr _|apply all_cons|(simp only[Fz]at *;omega);done))|(intros;and_intros<;>first|omega|assumption|exact all_nil|grind|simp_all|(first|grind|exact Ch F5|(apply Ad<;>(first|grind|exact Ch F5))|(apply Ad<;>first|grind|exact Ch F5|(apply Ad<;>(first|grind|exact Ch F5))))))):T (o.bind f) Q:=by
 obtain⟨y,rfl,hp⟩:=c h;exact k y hp
theorem ti{a b:Option β}(h1:c=true->T a Q)(h2:c=false->T b Q):T (if c=true then a else b) Q:=by
 cases c
 ·exact h2 rfl
 ·exact h1 rfl
theorem wo{a b:Option β}(h1:c=true->T a Q)(h2:T b Q):T (if c=true then a else b) Q:=ti h1 λ_=>h2
theorem tg{l:List α}(k:∀x,T (f x) Q)(h:0<=i/\i<Aa l:=by first|exact True.intro|((try clear ih)<;>(try clear hb)<;>(try simp only[Dv,Dr,Hl,Is,Bt,Qe,DP,Ti,Yr,BR,Tx,zi,z8,z32,z64,Ir,Ig,Gn,Fh,DS,Ij,DJ,Ii,Iu,Im,EF,UInt8.reduceToNat,UInt32.reduceToNat,UInt64.reduceToNat,Cy,Rg,Le,Ln,PE,Mu,BX,Sr,St,Wd,Nn,Cj,Ck,Cm,PD,Ty,Fz,Aa,Cp,ES,Cq,C7,D0,D3,Eg,C5,C4,B_,D',C?,BC,↓ED,↓EJ,CE,D7,C9,D2,reduceCtorEq,E0,E1,E3,C_,D8,D1,D_,E4,D!,D9,D6,D4,D5,E5]at *)<;>(try simp only[EA,EO]at *)<;>omega)|((try clear ih)<;>(try clear hb)<;>(try simp only[Dv,Dr,Hl,Is,Qe,DP,Ti,Yr,BR,Tx,zi,z8,z32,z64,Ir,Ig,Gn,Fh,DS,Ij,DJ,Ii,Iu,Im,EF,UInt8.reduceToNat,UInt32.reduceToNat,UInt64.reduceToNat,Cy,Rg,Le,Ln,PE,Mu,BX,Sr,St,Wd,Nn,Cj,Ck,Cm,PD,Ty,Fz,Aa,Cp,ES,Cq,C7,D0,D3,Eg,C5,C4,B_,D',C?,BC,↓ED,↓EJ,CE,D7,C9,D2,reduceCtorEq,E0,E1,E3,C_,D8,D1,D_,E4,D!,D9,D6,D4,D5,E5]at *)<;>(try simp only[EA,EO]at *)<;>(try simp(disch:=omega)only[zw,mX,XL]at *)<;>(try simp only[Bt]at *)<;>first|omega|(and_intros<;>first|omega|assumption|exact all_nil|exact Ey ⟨rfl,rfl⟩|exact Bc (by simp only[Nn,Aa]at *;omega)|exact Ad (by first|assumption|grind) (Bc (by first|assumption|exact Hr _|(simp only[Nn,Dv,Dr,Bt,Fz,Rg,Le,Ln,St,Sr,Aa,C4]at *;omega)|simp_all))|grind|(simp_all;done)|(first|grind|exact Ch F5|(apply Ad<;>(first|grind|exact Ch F5))|(apply Ad<;>first|grind|exact Ch F5|(apply Ad<;>(first|grind|exact Ch F5))))|(repeat' first|exact all_nil|exact Hr _|apply all_cons|(simp only[Fz]at *;omega);done))|(intros;and_intros<;>first|omega|assumption|exact all_nil|grind|simp_all|(first|grind|exact Ch F5|(apply Ad<;>(first|grind|exact Ch F5))|(apply Ad<;>first|grind|exact Ch F5|(apply Ad<;>(first|grind|exact Ch F5))))))):T ((Af l i).bind f) Q:=by
 unfold Af;rw[B! h.1];have:i.toNat<l.length:=by have:=h.2;unfold Aa at this;omega
 rw[E_ this];exact k _
theorem th{l:List α}(k:∀x,x∈l->T (f x) Q)(h:0<=i/\i<Aa l:=by first|exact True.intro|((try clear ih)<;>(try clear hb)<;>(try simp only[Dv,Dr,Hl,Is,Bt,Qe,DP,Ti,Yr,BR,Tx,zi,z8,z32,z64,Ir,Ig,Gn,Fh,DS,Ij,DJ,Ii,Iu,Im,EF,UInt8.reduceToNat,UInt32.reduceToNat,UInt64.reduceToNat,Cy,Rg,Le,Ln,PE,Mu,BX,Sr,St,Wd,Nn,Cj,Ck,Cm,PD,Ty,Fz,Aa,Cp,ES,Cq,C7,D0,D3,Eg,C5,C4,B_,D',C?,BC,↓ED,↓EJ,CE,D7,C9,D2,reduceCtorEq,E0,E1,E3,C_,D8,D1,D_,E4,D!,D9,D6,D4,D5,E5]at *)<;>(try simp only[EA,EO]at *)<;>omega)|((try clear ih)<;>(try clear hb)<;>(try simp only[Dv,Dr,Hl,Is,Qe,DP,Ti,Yr,BR,Tx,zi,z8,z32,z64,Ir,Ig,Gn,Fh,DS,Ij,DJ,Ii,Iu,Im,EF,UInt8.reduceToNat,UInt32.reduceToNat,UInt64.reduceToNat,Cy,Rg,Le,Ln,PE,Mu,BX,Sr,St,Wd,Nn,Cj,Ck,Cm,PD,Ty,Fz,Aa,Cp,ES,Cq,C7,D0,D3,Eg,C5,C4,B_,D',C?,BC,↓ED,↓EJ,CE,D7,C9,D2,reduceCtorEq,E0,E1,E3,C_,D8,D1,D_,E4,D!,D9,D6,D4,D5,E5]at *)<;>(try simp only[EA,EO]at *)<;>(try simp(disch:=omega)only[zw,mX,XL]at *)<;>(try simp only[Bt]at *)<;>first|omega|(and_intros<;>first|omega|assumption|exact all_nil|exact Ey ⟨rfl,rfl⟩|exact Bc (by simp only[Nn,Aa]at *;omega)|exact Ad (by first|assumption|grind) (Bc (by first|assumption|exact Hr _|(simp only[Nn,Dv,Dr,Bt,Fz,Rg,Le,Ln,St,Sr,Aa,C4]at *;omega)|simp_all))|grind|(simp_all;done)|(first|grind|exact Ch F5|(apply Ad<;>(first|grind|exact Ch F5))|(apply Ad<;>first|grind|exact Ch F5|(apply Ad<;>(first|grind|exact Ch F5))))|(repeat' first|exact all_nil|exact Hr _|apply all_cons|(simp only[Fz]at *;omega);done))|(intros;and_intros<;>first|omega|assumption|exact all_nil|grind|simp_all|(first|grind|exact Ch F5|(apply Ad<;>(first|grind|exact Ch F5))|(apply Ad<;>first|grind|exact Ch F5|(apply Ad<;>(first|grind|exact Ch F5))))))):T ((Af l i).bind f) Q:=by
 unfold Af;rw[B! h.1];have:i.toNat<l.length:=by have:=h.2;unfold Aa at this;omega
 rw[E_ this];exact k _ (N8 _)
theorem tq{l:List α}{x:UInt8}(k:∀y,T (f y) Q)(h:256<=Aa l:=by first|exact True.intro|((try clear ih)<;>(try clear hb)<;>(try simp only[Dv,Dr,Hl,Is,Bt,Qe,DP,Ti,Yr,BR,Tx,zi,z8,z32,z64,Ir,Ig,Gn,Fh,DS,Ij,DJ,Ii,Iu,Im,EF,UInt8.reduceToNat,UInt32.reduceToNat,UInt64.reduceToNat,Cy,Rg,Le,Ln,PE,Mu,BX,Sr,St,Wd,Nn,Cj,Ck,Cm,PD,Ty,Fz,Aa,Cp,ES,Cq,C7,D0,D3,Eg,C5,C4,B_,D',C?,BC,↓ED,↓EJ,CE,D7,C9,D2,reduceCtorEq,E0,E1,E3,C_,D8,D1,D_,E4,D!,D9,D6,D4,D5,E5]at *)<;>(try simp only[EA,EO]at *)<;>omega)|((try clear ih)<;>(try clear hb)<;>(try simp only[Dv,Dr,Hl,Is,Qe,DP,Ti,Yr,BR,Tx,zi,z8,z32,z64,Ir,Ig,Gn,Fh,DS,Ij,DJ,Ii,Iu,Im,EF,UInt8.reduceToNat,UInt32.reduceToNat,UInt64.reduceToNat,Cy,Rg,Le,Ln,PE,Mu,BX,Sr,St,Wd,Nn,Cj,Ck,Cm,PD,Ty,Fz,Aa,Cp,ES,Cq,C7,D0,D3,Eg,C5,C4,B_,D',C?,BC,↓ED,↓EJ,CE,D7,C9,D2,reduceCtorEq,E0,E1,E3,C_,D8,D1,D_,E4,D!,D9,D6,D4,D5,E5]at *)<;>(try simp only[EA,EO]at *)<;>(try simp(disch:=omega)only[zw,mX,XL]at *)<;>(try simp only[Bt]at *)<;>first|omega|(and_intros<;>first|omega|assumption|exact all_nil|exact Ey ⟨rfl,rfl⟩|exact Bc (by simp only[Nn,Aa]at *;omega)|exact Ad (by first|assumption|grind) (Bc (by first|assumption|exact Hr _|(simp only[Nn,Dv,Dr,Bt,Fz,Rg,Le,Ln,St,Sr,Aa,C4]at *;omega)|simp_all))|grind|(simp_all;done)|(first|grind|exact Ch F5|(apply Ad<;>(first|grind|exact Ch F5))|(apply Ad<;>first|grind|exact Ch F5|(apply Ad<;>(first|grind|exact Ch F5))))|(repeat' first|exact all_nil|exact Hr _|apply all_cons|(simp only[Fz]at *;omega);done))|(intros;and_intros<;>first|omega|assumption|exact all_nil|grind|simp_all|(first|grind|exact Ch F5|(apply Ad<;>(first|grind|exact Ch F5))|(apply Ad<;>first|grind|exact Ch F5|(apply Ad<;>(first|grind|exact Ch F5))))))):T ((Af l (GI.toZ x)).bind f) Q:=
 tg k ⟨by rw[z8];omega,by rw[z8];have:=x.toNat_lt;omega⟩
theorem tz{l:List α}{x:UInt64}(hx:x.toNat<64)(k:∀y,T (f y) Q)(h:64<=Aa l:=by first|exact True.intro|((try clear ih)<;>(try clear hb)<;>(try simp only[Dv,Dr,Hl,Is,Bt,Qe,DP,Ti,Yr,BR,Tx,zi,z8,z32,z64,Ir,Ig,Gn,Fh,DS,Ij,DJ,Ii,Iu,Im,EF,UInt8.reduceToNat,UInt32.reduceToNat,UInt64.reduceToNat,Cy,Rg,Le,Ln,PE,Mu,BX,Sr,St,Wd,Nn,Cj,Ck,Cm,PD,Ty,Fz,Aa,Cp,ES,Cq,C7,D0,D3,Eg,C5,C4,B_,D',C?,BC,↓ED,↓EJ,CE,D7,C9,D2,reduceCtorEq,E0,E1,E3,C_,D8,D1,D_,E4,D!,D9,D6,D4,D5,E5]at *)<;>(try simp only[EA,EO]at *)<;>omega)|((try clear ih)<;>(try clear hb)<;>(try simp only[Dv,Dr,Hl,Is,Qe,DP,Ti,Yr,BR,Tx,zi,z8,z32,z64,Ir,Ig,Gn,Fh,DS,Ij,DJ,Ii,Iu,Im,EF,UInt8.reduceToNat,UInt32.reduceToNat,UInt64.reduceToNat,Cy,Rg,Le,Ln,PE,Mu,BX,Sr,St,Wd,Nn,Cj,Ck,Cm,PD,Ty,Fz,Aa,Cp,ES,Cq,C7,D0,D3,Eg,C5,C4,B_,D',C?,BC,↓ED,↓EJ,CE,D7,C9,D2,reduceCtorEq,E0,E1,E3,C_,D8,D1,D_,E4,D!,D9,D6,D4,D5,E5]at *)<;>(try simp only[EA,EO]at *)<;>(try simp(disch:=omega)only[zw,mX,XL]at *)<;>(try simp only[Bt]at *)<;>first|omega|(and_intros<;>first|omega|assumption|exact all_nil|exact Ey ⟨rfl,rfl⟩|exact Bc (by simp only[Nn,Aa]at *;omega)|exact Ad (by first|assumption|grind) (Bc (by first|assumption|exact Hr _|(simp only[Nn,Dv,Dr,Bt,Fz,Rg,Le,Ln,St,Sr,Aa,C4]at *;omega)|simp_all))|grind|(simp_all;done)|(first|grind|exact Ch F5|(apply Ad<;>(first|grind|exact Ch F5))|(apply Ad<;>first|grind|exact Ch F5|(apply Ad<;>(first|grind|exact Ch F5))))|(repeat' first|exact all_nil|exact Hr _|apply all_cons|(simp only[Fz]at *;omega);done))|(intros;and_intros<;>first|omega|assumption|exact all_nil|grind|simp_all|(first|grind|exact Ch F5|(apply Ad<;>(first|grind|exact Ch F5))|(apply Ad<;>first|grind|exact Ch F5|(apply Ad<;>(first|grind|exact Ch F5))))))):T ((Af l (GI.toZ x)).bind f) Q:=tg k ⟨by rw[z64];omega,by rw[z64];omega⟩
theorem tr{l:List α}(k:∀y,T (f y) Q)(h:0<=a/\0<b/\b<=Aa l:=by first|exact True.intro|((try clear ih)<;>(try clear hb)<;>(try simp only[Dv,Dr,Hl,Is,Bt,Qe,DP,Ti,Yr,BR,Tx,zi,z8,z32,z64,Ir,Ig,Gn,Fh,DS,Ij,DJ,Ii,Iu,Im,EF,UInt8.reduceToNat,UInt32.reduceToNat,UInt64.reduceToNat,Cy,Rg,Le,Ln,PE,Mu,BX,Sr,St,Wd,Nn,Cj,Ck,Cm,PD,Ty,Fz,Aa,Cp,ES,Cq,C7,D0,D3,Eg,C5,C4,B_,D',C?,BC,↓ED,↓EJ,CE,D7,C9,D2,reduceCtorEq,E0,E1,E3,C_,D8,D1,D_,E4,D!,D9,D6,D4,D5,E5]at *)<;>(try simp only[EA,EO]at *)<;>omega)|((try clear ih)<;>(try clear hb)<;>(try simp only[Dv,Dr,Hl,Is,Qe,DP,Ti,Yr,BR,Tx,zi,z8,z32,z64,Ir,Ig,Gn,Fh,DS,Ij,DJ,Ii,Iu,Im,EF,UInt8.reduceToNat,UInt32.reduceToNat,UInt64.reduceToNat,Cy,Rg,Le,Ln,PE,Mu,BX,Sr,St,Wd,Nn,Cj,Ck,Cm,PD,Ty,Fz,Aa,Cp,ES,Cq,C7,D0,D3,Eg,C5,C4,B_,D',C?,BC,↓ED,↓EJ,CE,D7,C9,D2,reduceCtorEq,E0,E1,E3,C_,D8,D1,D_,E4,D!,D9,D6,D4,D5,E5]at *)<;>(try simp only[EA,EO]at *)<;>(try simp(disch:=omega)only[zw,mX,XL]at *)<;>(try simp only[Bt]at *)<;>first|omega|(and_intros<;>first|omega|assumption|exact all_nil|exact Ey ⟨rfl,rfl⟩|exact Bc (by simp only[Nn,Aa]at *;omega)|exact Ad (by first|assumption|grind) (Bc (by first|assumption|exact Hr _|(simp only[Nn,Dv,Dr,Bt,Fz,Rg,Le,Ln,St,Sr,Aa,C4]at *;omega)|simp_all))|grind|(simp_all;done)|(first|grind|exact Ch F5|(apply Ad<;>(first|grind|exact Ch F5))|(apply Ad<;>first|grind|exact Ch F5|(apply Ad<;>(first|grind|exact Ch F5))))|(repeat' first|exact all_nil|exact Hr _|apply all_cons|(simp only[Fz]at *;omega);done))|(intros;and_intros<;>first|omega|assumption|exact all_nil|grind|simp_all|(first|grind|exact Ch F5|(apply Ad<;>(first|grind|exact Ch F5))|(apply Ad<;>first|grind|exact Ch F5|(apply Ad<;>(first|grind|exact Ch F5))))))):T ((Af l (Jh a b)).bind f) Q:=
 tg k ⟨by rw[Fh,XL _ h.1];exact QX _ F3,by rw[Fh,XL _ h.1];have:=QO a h.2.1;omega⟩
theorem tA{l:List α}{p:α->Prop}(k:∀x,p x->T (f x) Q)(hA:Dq p l:=by first|assumption|grind|(simp only[PD,PE]at *;grind))(h:0<=i/\i<Aa l:=by first|exact True.intro|((try clear ih)<;>(try clear hb)<;>(try simp only[Dv,Dr,Hl,Is,Bt,Qe,DP,Ti,Yr,BR,Tx,zi,z8,z32,z64,Ir,Ig,Gn,Fh,DS,Ij,DJ,Ii,Iu,Im,EF,UInt8.reduceToNat,UInt32.reduceToNat,UInt64.reduceToNat,Cy,Rg,Le,Ln,PE,Mu,BX,Sr,St,Wd,Nn,Cj,Ck,Cm,PD,Ty,Fz,Aa,Cp,ES,Cq,C7,D0,D3,Eg,C5,C4,B_,D',C?,BC,↓ED,↓EJ,CE,D7,C9,D2,reduceCtorEq,E0,E1,E3,C_,D8,D1,D_,E4,D!,D9,D6,D4,D5,E5]at *)<;>(try simp only[EA,EO]at *)<;>omega)|((try clear ih)<;>(try clear hb)<;>(try simp only[Dv,Dr,Hl,Is,Qe,DP,Ti,Yr,BR,Tx,zi,z8,z32,z64,Ir,Ig,Gn,Fh,DS,Ij,DJ,Ii,Iu,Im,EF,UInt8.reduceToNat,UInt32.reduceToNat,UInt64.reduceToNat,Cy,Rg,Le,Ln,PE,Mu,BX,Sr,St,Wd,Nn,Cj,Ck,Cm,PD,Ty,Fz,Aa,Cp,ES,Cq,C7,D0,D3,Eg,C5,C4,B_,D',C?,BC,↓ED,↓EJ,CE,D7,C9,D2,reduceCtorEq,E0,E1,E3,C_,D8,D1,D_,E4,D!,D9,D6,D4,D5,E5]at *)<;>(try simp only[EA,EO]at *)<;>(try simp(disch:=omega)only[zw,mX,XL]at *)<;>(try simp only[Bt]at *)<;>first|omega|(and_intros<;>first|omega|assumption|exact all_nil|exact Ey ⟨rfl,rfl⟩|exact Bc (by simp only[Nn,Aa]at *;omega)|exact Ad (by first|assumption|grind) (Bc (by first|assumption|exact Hr _|(simp only[Nn,Dv,Dr,Bt,Fz,Rg,Le,Ln,St,Sr,Aa,C4]at *;omega)|simp_all))|grind|(simp_all;done)|(first|grind|exact Ch F5|(apply Ad<;>(first|grind|exact Ch F5))|(apply Ad<;>first|grind|exact Ch F5|(apply Ad<;>(first|grind|exact Ch F5))))|(repeat' first|exact all_nil|exact Hr _|apply all_cons|(simp only[Fz]at *;omega);done))|(intros;and_intros<;>first|omega|assumption|exact all_nil|grind|simp_all|(first|grind|exact Ch F5|(apply Ad<;>(first|grind|exact Ch F5))|(apply Ad<;>first|grind|exact Ch F5|(apply Ad<;>(first|grind|exact Ch F5))))))):T ((Af l i).bind f) Q:=
 th λx hx=>k x (hA x hx)
theorem tAr{l:List α}{p:α->Prop}(k:∀x,p x->T (f x) Q)(hA:Dq p l:=by first|assumption|grind|(simp only[PD,PE]at *;grind))(h:0<=a/\0<b/\b<=Aa l:=by first|exact True.intro|((try clear ih)<;>(try clear hb)<;>(try simp only[Dv,Dr,Hl,Is,Bt,Qe,DP,Ti,Yr,BR,Tx,zi,z8,z32,z64,Ir,Ig,Gn,Fh,DS,Ij,DJ,Ii,Iu,Im,EF,UInt8.reduceToNat,UInt32.reduceToNat,UInt64.reduceToNat,Cy,Rg,Le,Ln,PE,Mu,BX,Sr,St,Wd,Nn,Cj,Ck,Cm,PD,Ty,Fz,Aa,Cp,ES,Cq,C7,D0,D3,Eg,C5,C4,B_,D',C?,BC,↓ED,↓EJ,CE,D7,C9,D2,reduceCtorEq,E0,E1,E3,C_,D8,D1,D_,E4,D!,D9,D6,D4,D5,E5]at *)<;>(try simp only[EA,EO]at *)<;>omega)|((try clear ih)<;>(try clear hb)<;>(try simp only[Dv,Dr,Hl,Is,Qe,DP,Ti,Yr,BR,Tx,zi,z8,z32,z64,Ir,Ig,Gn,Fh,DS,Ij,DJ,Ii,Iu,Im,EF,UInt8.reduceToNat,UInt32.reduceToNat,UInt64.reduceToNat,Cy,Rg,Le,Ln,PE,Mu,BX,Sr,St,Wd,Nn,Cj,Ck,Cm,PD,Ty,Fz,Aa,Cp,ES,Cq,C7,D0,D3,Eg,C5,C4,B_,D',C?,BC,↓ED,↓EJ,CE,D7,C9,D2,reduceCtorEq,E0,E1,E3,C_,D8,D1,D_,E4,D!,D9,D6,D4,D5,E5]at *)<;>(try simp only[EA,EO]at *)<;>(try simp(disch:=omega)only[zw,mX,XL]at *)<;>(try simp only[Bt]at *)<;>first|omega|(and_intros<;>first|omega|assumption|exact all_nil|exact Ey ⟨rfl,rfl⟩|exact Bc (by simp only[Nn,Aa]at *;omega)|exact Ad (by first|assumption|grind) (Bc (by first|assumption|exact Hr _|(simp only[Nn,Dv,Dr,Bt,Fz,Rg,Le,Ln,St,Sr,Aa,C4]at *;omega)|simp_all))|grind|(simp_all;done)|(first|grind|exact Ch F5|(apply Ad<;>(first|grind|exact Ch F5))|(apply Ad<;>first|grind|exact Ch F5|(apply Ad<;>(first|grind|exact Ch F5))))|(repeat' first|exact all_nil|exact Hr _|apply all_cons|(simp only[Fz]at *;omega);done))|(intros;and_intros<;>first|omega|assumption|exact all_nil|grind|simp_all|(first|grind|exact Ch F5|(apply Ad<;>(first|grind|exact Ch F5))|(apply Ad<;>first|grind|exact Ch F5|(apply Ad<;>(first|grind|exact Ch F5))))))):T ((Af l (Jh a b)).bind f) Q:=
 tA k hA ⟨by rw[Fh,XL _ h.1];exact QX _ F3,by rw[Fh,XL _ h.1];have:=QO a h.2.1;omega⟩
theorem tE{l:List α}(k:∀x,Af l i=some x->T (f x) Q)(h:0<=i/\i<Aa l:=by first|exact True.intro|((try clear ih)<;>(try clear hb)<;>(try simp only[Dv,Dr,Hl,Is,Bt,Qe,DP,Ti,Yr,BR,Tx,zi,z8,z32,z64,Ir,Ig,Gn,Fh,DS,Ij,DJ,Ii,Iu,Im,EF,UInt8.reduceToNat,UInt32.reduceToNat,UInt64.reduceToNat,Cy,Rg,Le,Ln,PE,Mu,BX,Sr,St,Wd,Nn,Cj,Ck,Cm,PD,Ty,Fz,Aa,Cp,ES,Cq,C7,D0,D3,Eg,C5,C4,B_,D',C?,BC,↓ED,↓EJ,CE,D7,C9,D2,reduceCtorEq,E0,E1,E3,C_,D8,D1,D_,E4,D!,D9,D6,D4,D5,E5]at *)<;>(try simp only[EA,EO]at *)<;>omega)|((try clear ih)<;>(try clear hb)<;>(try simp only[Dv,Dr,Hl,Is,Qe,DP,Ti,Yr,BR,Tx,zi,z8,z32,z64,Ir,Ig,Gn,Fh,DS,Ij,DJ,Ii,Iu,Im,EF,UInt8.reduceToNat,UInt32.reduceToNat,UInt64.reduceToNat,Cy,Rg,Le,Ln,PE,Mu,BX,Sr,St,Wd,Nn,Cj,Ck,Cm,PD,Ty,Fz,Aa,Cp,ES,Cq,C7,D0,D3,Eg,C5,C4,B_,D',C?,BC,↓ED,↓EJ,CE,D7,C9,D2,reduceCtorEq,E0,E1,E3,C_,D8,D1,D_,E4,D!,D9,D6,D4,D5,E5]at *)<;>(try simp only[EA,EO]at *)<;>(try simp(disch:=omega)only[zw,mX,XL]at *)<;>(try simp only[Bt]at *)<;>first|omega|(and_intros<;>first|omega|assumption|exact all_nil|exact Ey ⟨rfl,rfl⟩|exact Bc (by simp only[Nn,Aa]at *;omega)|exact Ad (by first|assumption|grind) (Bc (by first|assumption|exact Hr _|(simp only[Nn,Dv,Dr,Bt,Fz,Rg,Le,Ln,St,Sr,Aa,C4]at *;omega)|simp_all))|grind|(simp_all;done)|(first|grind|exact Ch F5|(apply Ad<;>(first|grind|exact Ch F5))|(apply Ad<;>first|grind|exact Ch F5|(apply Ad<;>(first|grind|exact Ch F5))))|(repeat' first|exact all_nil|exact Hr _|apply all_cons|(simp only[Fz]at *;omega);done))|(intros;and_intros<;>first|omega|assumption|exact all_nil|grind|simp_all|(first|grind|exact Ch F5|(apply Ad<;>(first|grind|exact Ch F5))|(apply Ad<;>first|grind|exact Ch F5|(apply Ad<;>(first|grind|exact Ch F5))))))):T ((Af l i).bind f) Q:=by
 have:i.toNat<l.length:=by have:=h.2;unfold Aa at this;omega
 have e:Af l i=some l[i.toNat]:=by unfold Af;rw[B! h.1,E_ this]
 rw[e,C6];exact k _ e
theorem tB{l:List α}{p:α->Prop}(k:∀x,Af l i=some x->p x->T (f x) Q)(hA:Dq p l:=by first|assumption|grind|(simp only[PD,PE]at *;grind))(h:0<=i/\i<Aa l:=by first|exact True.intro|((try clear ih)<;>(try clear hb)<;>(try simp only[Dv,Dr,Hl,Is,Bt,Qe,DP,Ti,Yr,BR,Tx,zi,z8,z32,z64,Ir,Ig,Gn,Fh,DS,Ij,DJ,Ii,Iu,Im,EF,UInt8.reduceToNat,UInt32.reduceToNat,UInt64.reduceToNat,Cy,Rg,Le,Ln,PE,Mu,BX,Sr,St,Wd,Nn,Cj,Ck,Cm,PD,Ty,Fz,Aa,Cp,ES,Cq,C7,D0,D3,Eg,C5,C4,B_,D',C?,BC,↓ED,↓EJ,CE,D7,C9,D2,reduceCtorEq,E0,E1,E3,C_,D8,D1,D_,E4,D!,D9,D6,D4,D5,E5]at *)<;>(try simp only[EA,EO]at *)<;>omega)|((try clear ih)<;>(try clear hb)<;>(try simp only[Dv,Dr,Hl,Is,Qe,DP,Ti,Yr,BR,Tx,zi,z8,z32,z64,Ir,Ig,Gn,Fh,DS,Ij,DJ,Ii,Iu,Im,EF,UInt8.reduceToNat,UInt32.reduceToNat,UInt64.reduceToNat,Cy,Rg,Le,Ln,PE,Mu,BX,Sr,St,Wd,Nn,Cj,Ck,Cm,PD,Ty,Fz,Aa,Cp,ES,Cq,C7,D0,D3,Eg,C5,C4,B_,D',C?,BC,↓ED,↓EJ,CE,D7,C9,D2,reduceCtorEq,E0,E1,E3,C_,D8,D1,D_,E4,D!,D9,D6,D4,D5,E5]at *)<;>(try simp only[EA,EO]at *)<;>(try simp(disch:=omega)only[zw,mX,XL]at *)<;>(try simp only[Bt]at *)<;>first|omega|(and_intros<;>first|omega|assumption|exact all_nil|exact Ey ⟨rfl,rfl⟩|exact Bc (by simp only[Nn,Aa]at *;omega)|exact Ad (by first|assumption|grind) (Bc (by first|assumption|exact Hr _|(simp only[Nn,Dv,Dr,Bt,Fz,Rg,Le,Ln,St,Sr,Aa,C4]at *;omega)|simp_all))|grind|(simp_all;done)|(first|grind|exact Ch F5|(apply Ad<;>(first|grind|exact Ch F5))|(apply Ad<;>first|grind|exact Ch F5|(apply Ad<;>(first|grind|exact Ch F5))))|(repeat' first|exact all_nil|exact Hr _|apply all_cons|(simp only[Fz]at *;omega);done))|(intros;and_intros<;>first|omega|assumption|exact all_nil|grind|simp_all|(first|grind|exact Ch F5|(apply Ad<;>(first|grind|exact Ch F5))|(apply Ad<;>first|grind|exact Ch F5|(apply Ad<;>(first|grind|exact Ch F5))))))):T ((Af l i).bind f) Q:=
 tE (λx e=>k x e (hA x (by unfold Af at e;rw[B! h.1]at e;exact I1 e))) h
variable {l m:List α} {g:List α->Option β}
theorem te{x:α}(k:∀y,Aa y=Aa l->T (g y) Q)(h:0<=i/\i<Aa l:=by first|exact True.intro|((try clear ih)<;>(try clear hb)<;>(try simp only[Dv,Dr,Hl,Is,Bt,Qe,DP,Ti,Yr,BR,Tx,zi,z8,z32,z64,Ir,Ig,Gn,Fh,DS,Ij,DJ,Ii,Iu,Im,EF,UInt8.reduceToNat,UInt32.reduceToNat,UInt64.reduceToNat,Cy,Rg,Le,Ln,PE,Mu,BX,Sr,St,Wd,Nn,Cj,Ck,Cm,PD,Ty,Fz,Aa,Cp,ES,Cq,C7,D0,D3,Eg,C5,C4,B_,D',C?,BC,↓ED,↓EJ,CE,D7,C9,D2,reduceCtorEq,E0,E1,E3,C_,D8,D1,D_,E4,D!,D9,D6,D4,D5,E5]at *)<;>(try simp only[EA,EO]at *)<;>omega)|((try clear ih)<;>(try clear hb)<;>(try simp only[Dv,Dr,Hl,Is,Qe,DP,Ti,Yr,BR,Tx,zi,z8,z32,z64,Ir,Ig,Gn,Fh,DS,Ij,DJ,Ii,Iu,Im,EF,UInt8.reduceToNat,UInt32.reduceToNat,UInt64.reduceToNat,Cy,Rg,Le,Ln,PE,Mu,BX,Sr,St,Wd,Nn,Cj,Ck,Cm,PD,Ty,Fz,Aa,Cp,ES,Cq,C7,D0,D3,Eg,C5,C4,B_,D',C?,BC,↓ED,↓EJ,CE,D7,C9,D2,reduceCtorEq,E0,E1,E3,C_,D8,D1,D_,E4,D!,D9,D6,D4,D5,E5]at *)<;>(try simp only[EA,EO]at *)<;>(try simp(disch:=omega)only[zw,mX,XL]at *)<;>(try simp only[Bt]at *)<;>first|omega|(and_intros<;>first|omega|assumption|exact all_nil|exact Ey ⟨rfl,rfl⟩|exact Bc (by simp only[Nn,Aa]at *;omega)|exact Ad (by first|assumption|grind) (Bc (by first|assumption|exact Hr _|(simp only[Nn,Dv,Dr,Bt,Fz,Rg,Le,Ln,St,Sr,Aa,C4]at *;omega)|simp_all))|grind|(simp_all;done)|(first|grind|exact Ch F5|(apply Ad<;>(first|grind|exact Ch F5))|(apply Ad<;>first|grind|exact Ch F5|(apply Ad<;>(first|grind|exact Ch F5))))|(repeat' first|exact all_nil|exact Hr _|apply all_cons|(simp only[Fz]at *;omega);done))|(intros;and_intros<;>first|omega|assumption|exact all_nil|grind|simp_all|(first|grind|exact Ch F5|(apply Ad<;>(first|grind|exact Ch F5))|(apply Ad<;>first|grind|exact Ch F5|(apply Ad<;>(first|grind|exact Ch F5))))))):T ((Me l i x).bind g) Q:=by
 unfold Me;rw[B! (by unfold Aa at h;exact h)];exact k _ mS
theorem tS{x:α}{p:α->Prop}(k:∀y,Aa y=Aa l/\Dq p y->T (g y) Q)(hA:Dq p l:=by first|assumption|grind|(simp only[PD,PE]at *;grind))(hx:p x:=by first|exact True.intro|((try clear ih)<;>(try clear hb)<;>(try simp only[Dv,Dr,Hl,Is,Bt,Qe,DP,Ti,Yr,BR,Tx,zi,z8,z32,z64,Ir,Ig,Gn,Fh,DS,Ij,DJ,Ii,Iu,Im,EF,UInt8.reduceToNat,UInt32.reduceToNat,UInt64.reduceToNat,Cy,Rg,Le,Ln,PE,Mu,BX,Sr,St,Wd,Nn,Cj,Ck,Cm,PD,Ty,Fz,Aa,Cp,ES,Cq,C7,D0,D3,Eg,C5,C4,B_,D',C?,BC,↓ED,↓EJ,CE,D7,C9,D2,reduceCtorEq,E0,E1,E3,C_,D8,D1,D_,E4,D!,D9,D6,D4,D5,E5]at *)<;>(try simp only[EA,EO]at *)<;>omega)|((try clear ih)<;>(try clear hb)<;>(try simp only[Dv,Dr,Hl,Is,Qe,DP,Ti,Yr,BR,Tx,zi,z8,z32,z64,Ir,Ig,Gn,Fh,DS,Ij,DJ,Ii,Iu,Im,EF,UInt8.reduceToNat,UInt32.reduceToNat,UInt64.reduceToNat,Cy,Rg,Le,Ln,PE,Mu,BX,Sr,St,Wd,Nn,Cj,Ck,Cm,PD,Ty,Fz,Aa,Cp,ES,Cq,C7,D0,D3,Eg,C5,C4,B_,D',C?,BC,↓ED,↓EJ,CE,D7,C9,D2,reduceCtorEq,E0,E1,E3,C_,D8,D1,D_,E4,D!,D9,D6,D4,D5,E5]at *)<;>(try simp only[EA,EO]at *)<;>(try simp(disch:=omega)only[zw,mX,XL]at *)<;>(try simp only[Bt]at *)<;>first|omega|(and_intros<;>first|omega|assumption|exact all_nil|exact Ey ⟨rfl,rfl⟩|exact Bc (by simp only[Nn,Aa]at *;omega)|exact Ad (by first|assumption|grind) (Bc (by first|assumption|exact Hr _|(simp only[Nn,Dv,Dr,Bt,Fz,Rg,Le,Ln,St,Sr,Aa,C4]at *;omega)|simp_all))|grind|(simp_all;done)|(first|grind|exact Ch F5|(apply Ad<;>(first|grind|exact Ch F5))|(apply Ad<;>first|grind|exact Ch F5|(apply Ad<;>(first|grind|exact Ch F5))))|(repeat' first|exact all_nil|exact Hr _|apply all_cons|(simp only[Fz]at *;omega);done))|(intros;and_intros<;>first|omega|assumption|exact all_nil|grind|simp_all|(first|grind|exact Ch F5|(apply Ad<;>(first|grind|exact Ch F5))|(apply Ad<;>first|grind|exact Ch F5|(apply Ad<;>(first|grind|exact Ch F5)))))))(h:0<=i/\i<Aa l:=by first|exact True.intro|((try clear ih)<;>(try clear hb)<;>(try simp only[Dv,Dr,Hl,Is,Bt,Qe,DP,Ti,Yr,BR,Tx,zi,z8,z32,z64,Ir,Ig,Gn,Fh,DS,Ij,DJ,Ii,Iu,Im,EF,UInt8.reduceToNat,UInt32.reduceToNat,UInt64.reduceToNat,Cy,Rg,Le,Ln,PE,Mu,BX,Sr,St,Wd,Nn,Cj,Ck,Cm,PD,Ty,Fz,Aa,Cp,ES,Cq,C7,D0,D3,Eg,C5,C4,B_,D',C?,BC,↓ED,↓EJ,CE,D7,C9,D2,reduceCtorEq,E0,E1,E3,C_,D8,D1,D_,E4,D!,D9,D6,D4,D5,E5]at *)<;>(try simp only[EA,EO]at *)<;>omega)|((try clear ih)<;>(try clear hb)<;>(try simp only[Dv,Dr,Hl,Is,Qe,DP,Ti,Yr,BR,Tx,zi,z8,z32,z64,Ir,Ig,Gn,Fh,DS,Ij,DJ,Ii,Iu,Im,EF,UInt8.reduceToNat,UInt32.reduceToNat,UInt64.reduceToNat,Cy,Rg,Le,Ln,PE,Mu,BX,Sr,St,Wd,Nn,Cj,Ck,Cm,PD,Ty,Fz,Aa,Cp,ES,Cq,C7,D0,D3,Eg,C5,C4,B_,D',C?,BC,↓ED,↓EJ,CE,D7,C9,D2,reduceCtorEq,E0,E1,E3,C_,D8,D1,D_,E4,D!,D9,D6,D4,D5,E5]at *)<;>(try simp only[EA,EO]at *)<;>(try simp(disch:=omega)only[zw,mX,XL]at *)<;>(try simp only[Bt]at *)<;>first|omega|(and_intros<;>first|omega|assumption|exact all_nil|exact Ey ⟨rfl,rfl⟩|exact Bc (by simp only[Nn,Aa]at *;omega)|exact Ad (by first|assumption|grind) (Bc (by first|assumption|exact Hr _|(simp only[Nn,Dv,Dr,Bt,Fz,Rg,Le,Ln,St,Sr,Aa,C4]at *;omega)|simp_all))|grind|(simp_all;done)|(first|grind|exact Ch F5|(apply Ad<;>(first|grind|exact Ch F5))|(apply Ad<;>first|grind|exact Ch F5|(apply Ad<;>(first|grind|exact Ch F5))))|(repeat' first|exact all_nil|exact Hr _|apply all_cons|(simp only[Fz]at *;omega);done))|(intros;and_intros<;>first|omega|assumption|exact all_nil|grind|simp_all|(first|grind|exact Ch F5|(apply Ad<;>(first|grind|exact Ch F5))|(apply Ad<;>first|grind|exact Ch F5|(apply Ad<;>(first|grind|exact Ch F5))))))):T ((Me l i x).bind g) Q:=by
 unfold Me;rw[B! (by unfold Aa at h;exact h)];exact k _ ⟨by unfold Aa;simp,λy hy=>(List.mem_or_eq_of_mem_set hy).elim (hA y) λe=>e▸hx⟩
theorem tir{x:α}(k:∀y,Aa y=Aa l->T (g y) Q)(h:0<=a/\0<b/\b<=Aa l:=by first|exact True.intro|((try clear ih)<;>(try clear hb)<;>(try simp only[Dv,Dr,Hl,Is,Bt,Qe,DP,Ti,Yr,BR,Tx,zi,z8,z32,z64,Ir,Ig,Gn,Fh,DS,Ij,DJ,Ii,Iu,Im,EF,UInt8.reduceToNat,UInt32.reduceToNat,UInt64.reduceToNat,Cy,Rg,Le,Ln,PE,Mu,BX,Sr,St,Wd,Nn,Cj,Ck,Cm,PD,Ty,Fz,Aa,Cp,ES,Cq,C7,D0,D3,Eg,C5,C4,B_,D',C?,BC,↓ED,↓EJ,CE,D7,C9,D2,reduceCtorEq,E0,E1,E3,C_,D8,D1,D_,E4,D!,D9,D6,D4,D5,E5]at *)<;>(try simp only[EA,EO]at *)<;>omega)|((try clear ih)<;>(try clear hb)<;>(try simp only[Dv,Dr,Hl,Is,Qe,DP,Ti,Yr,BR,Tx,zi,z8,z32,z64,Ir,Ig,Gn,Fh,DS,Ij,DJ,Ii,Iu,Im,EF,UInt8.reduceToNat,UInt32.reduceToNat,UInt64.reduceToNat,Cy,Rg,Le,Ln,PE,Mu,BX,Sr,St,Wd,Nn,Cj,Ck,Cm,PD,Ty,Fz,Aa,Cp,ES,Cq,C7,D0,D3,Eg,C5,C4,B_,D',C?,BC,↓ED,↓EJ,CE,D7,C9,D2,reduceCtorEq,E0,E1,E3,C_,D8,D1,D_,E4,D!,D9,D6,D4,D5,E5]at *)<;>(try simp only[EA,EO]at *)<;>(try simp(disch:=omega)only[zw,mX,XL]at *)<;>(try simp only[Bt]at *)<;>first|omega|(and_intros<;>first|omega|assumption|exact all_nil|exact Ey ⟨rfl,rfl⟩|exact Bc (by simp only[Nn,Aa]at *;omega)|exact Ad (by first|assumption|grind) (Bc (by first|assumption|exact Hr _|(simp only[Nn,Dv,Dr,Bt,Fz,Rg,Le,Ln,St,Sr,Aa,C4]at *;omega)|simp_all))|grind|(simp_all;done)|(first|grind|exact Ch F5|(apply Ad<;>(first|grind|exact Ch F5))|(apply Ad<;>first|grind|exact Ch F5|(apply Ad<;>(first|grind|exact Ch F5))))|(repeat' first|exact all_nil|exact Hr _|apply all_cons|(simp only[Fz]at *;omega);done))|(intros;and_intros<;>first|omega|assumption|exact all_nil|grind|simp_all|(first|grind|exact Ch F5|(apply Ad<;>(first|grind|exact Ch F5))|(apply Ad<;>first|grind|exact Ch F5|(apply Ad<;>(first|grind|exact Ch F5))))))):T ((Me l (Jh a b) x).bind g) Q:=
 te k ⟨by rw[Fh,XL _ h.1];exact QX _ F3,by rw[Fh,XL _ h.1];have:=QO a h.2.1;omega⟩
theorem tSr{x:α}{p:α->Prop}(k:∀y,Aa y=Aa l/\Dq p y->T (g y) Q)(hA:Dq p l:=by first|assumption|grind|(simp only[PD,PE]at *;grind))(hx:p x:=by first|exact True.intro|((try clear ih)<;>(try clear hb)<;>(try simp only[Dv,Dr,Hl,Is,Bt,Qe,DP,Ti,Yr,BR,Tx,zi,z8,z32,z64,Ir,Ig,Gn,Fh,DS,Ij,DJ,Ii,Iu,Im,EF,UInt8.reduceToNat,UInt32.reduceToNat,UInt64.reduceToNat,Cy,Rg,Le,Ln,PE,Mu,BX,Sr,St,Wd,Nn,Cj,Ck,Cm,PD,Ty,Fz,Aa,Cp,ES,Cq,C7,D0,D3,Eg,C5,C4,B_,D',C?,BC,↓ED,↓EJ,CE,D7,C9,D2,reduceCtorEq,E0,E1,E3,C_,D8,D1,D_,E4,D!,D9,D6,D4,D5,E5]at *)<;>(try simp only[EA,EO]at *)<;>omega)|((try clear ih)<;>(try clear hb)<;>(try simp only[Dv,Dr,Hl,Is,Qe,DP,Ti,Yr,BR,Tx,zi,z8,z32,z64,Ir,Ig,Gn,Fh,DS,Ij,DJ,Ii,Iu,Im,EF,UInt8.reduceToNat,UInt32.reduceToNat,UInt64.reduceToNat,Cy,Rg,Le,Ln,PE,Mu,BX,Sr,St,Wd,Nn,Cj,Ck,Cm,PD,Ty,Fz,Aa,Cp,ES,Cq,C7,D0,D3,Eg,C5,C4,B_,D',C?,BC,↓ED,↓EJ,CE,D7,C9,D2,reduceCtorEq,E0,E1,E3,C_,D8,D1,D_,E4,D!,D9,D6,D4,D5,E5]at *)<;>(try simp only[EA,EO]at *)<;>(try simp(disch:=omega)only[zw,mX,XL]at *)<;>(try simp only[Bt]at *)<;>first|omega|(and_intros<;>first|omega|assumption|exact all_nil|exact Ey ⟨rfl,rfl⟩|exact Bc (by simp only[Nn,Aa]at *;omega)|exact Ad (by first|assumption|grind) (Bc (by first|assumption|exact Hr _|(simp only[Nn,Dv,Dr,Bt,Fz,Rg,Le,Ln,St,Sr,Aa,C4]at *;omega)|simp_all))|grind|(simp_all;done)|(first|grind|exact Ch F5|(apply Ad<;>(first|grind|exact Ch F5))|(apply Ad<;>first|grind|exact Ch F5|(apply Ad<;>(first|grind|exact Ch F5))))|(repeat' first|exact all_nil|exact Hr _|apply all_cons|(simp only[Fz]at *;omega);done))|(intros;and_intros<;>first|omega|assumption|exact all_nil|grind|simp_all|(first|grind|exact Ch F5|(apply Ad<;>(first|grind|exact Ch F5))|(apply Ad<;>first|grind|exact Ch F5|(apply Ad<;>(first|grind|exact Ch F5)))))))(h:0<=a/\0<b/\b<=Aa l:=by first|exact True.intro|((try clear ih)<;>(try clear hb)<;>(try simp only[Dv,Dr,Hl,Is,Bt,Qe,DP,Ti,Yr,BR,Tx,zi,z8,z32,z64,Ir,Ig,Gn,Fh,DS,Ij,DJ,Ii,Iu,Im,EF,UInt8.reduceToNat,UInt32.reduceToNat,UInt64.reduceToNat,Cy,Rg,Le,Ln,PE,Mu,BX,Sr,St,Wd,Nn,Cj,Ck,Cm,PD,Ty,Fz,Aa,Cp,ES,Cq,C7,D0,D3,Eg,C5,C4,B_,D',C?,BC,↓ED,↓EJ,CE,D7,C9,D2,reduceCtorEq,E0,E1,E3,C_,D8,D1,D_,E4,D!,D9,D6,D4,D5,E5]at *)<;>(try simp only[EA,EO]at *)<;>omega)|((try clear ih)<;>(try clear hb)<;>(try simp only[Dv,Dr,Hl,Is,Qe,DP,Ti,Yr,BR,Tx,zi,z8,z32,z64,Ir,Ig,Gn,Fh,DS,Ij,DJ,Ii,Iu,Im,EF,UInt8.reduceToNat,UInt32.reduceToNat,UInt64.reduceToNat,Cy,Rg,Le,Ln,PE,Mu,BX,Sr,St,Wd,Nn,Cj,Ck,Cm,PD,Ty,Fz,Aa,Cp,ES,Cq,C7,D0,D3,Eg,C5,C4,B_,D',C?,BC,↓ED,↓EJ,CE,D7,C9,D2,reduceCtorEq,E0,E1,E3,C_,D8,D1,D_,E4,D!,D9,D6,D4,D5,E5]at *)<;>(try simp only[EA,EO]at *)<;>(try simp(disch:=omega)only[zw,mX,XL]at *)<;>(try simp only[Bt]at *)<;>first|omega|(and_intros<;>first|omega|assumption|exact all_nil|exact Ey ⟨rfl,rfl⟩|exact Bc (by simp only[Nn,Aa]at *;omega)|exact Ad (by first|assumption|grind) (Bc (by first|assumption|exact Hr _|(simp only[Nn,Dv,Dr,Bt,Fz,Rg,Le,Ln,St,Sr,Aa,C4]at *;omega)|simp_all))|grind|(simp_all;done)|(first|grind|exact Ch F5|(apply Ad<;>(first|grind|exact Ch F5))|(apply Ad<;>first|grind|exact Ch F5|(apply Ad<;>(first|grind|exact Ch F5))))|(repeat' first|exact all_nil|exact Hr _|apply all_cons|(simp only[Fz]at *;omega);done))|(intros;and_intros<;>first|omega|assumption|exact all_nil|grind|simp_all|(first|grind|exact Ch F5|(apply Ad<;>(first|grind|exact Ch F5))|(apply Ad<;>first|grind|exact Ch F5|(apply Ad<;>(first|grind|exact Ch F5))))))):T ((Me l (Jh a b) x).bind g) Q:=
 tS k hA hx ⟨by rw[Fh,XL _ h.1];exact QX _ F3,by rw[Fh,XL _ h.1];have:=QO a h.2.1;omega⟩
theorem tc(k:∀y,Aa y=b-a->T (g y) Q)(h:0<=a/\a<=b/\b<=Aa l:=by first|exact True.intro|((try clear ih)<;>(try clear hb)<;>(try simp only[Dv,Dr,Hl,Is,Bt,Qe,DP,Ti,Yr,BR,Tx,zi,z8,z32,z64,Ir,Ig,Gn,Fh,DS,Ij,DJ,Ii,Iu,Im,EF,UInt8.reduceToNat,UInt32.reduceToNat,UInt64.reduceToNat,Cy,Rg,Le,Ln,PE,Mu,BX,Sr,St,Wd,Nn,Cj,Ck,Cm,PD,Ty,Fz,Aa,Cp,ES,Cq,C7,D0,D3,Eg,C5,C4,B_,D',C?,BC,↓ED,↓EJ,CE,D7,C9,D2,reduceCtorEq,E0,E1,E3,C_,D8,D1,D_,E4,D!,D9,D6,D4,D5,E5]at *)<;>(try simp only[EA,EO]at *)<;>omega)|((try clear ih)<;>(try clear hb)<;>(try simp only[Dv,Dr,Hl,Is,Qe,DP,Ti,Yr,BR,Tx,zi,z8,z32,z64,Ir,Ig,Gn,Fh,DS,Ij,DJ,Ii,Iu,Im,EF,UInt8.reduceToNat,UInt32.reduceToNat,UInt64.reduceToNat,Cy,Rg,Le,Ln,PE,Mu,BX,Sr,St,Wd,Nn,Cj,Ck,Cm,PD,Ty,Fz,Aa,Cp,ES,Cq,C7,D0,D3,Eg,C5,C4,B_,D',C?,BC,↓ED,↓EJ,CE,D7,C9,D2,reduceCtorEq,E0,E1,E3,C_,D8,D1,D_,E4,D!,D9,D6,D4,D5,E5]at *)<;>(try simp only[EA,EO]at *)<;>(try simp(disch:=omega)only[zw,mX,XL]at *)<;>(try simp only[Bt]at *)<;>first|omega|(and_intros<;>first|omega|assumption|exact all_nil|exact Ey ⟨rfl,rfl⟩|exact Bc (by simp only[Nn,Aa]at *;omega)|exact Ad (by first|assumption|grind) (Bc (by first|assumption|exact Hr _|(simp only[Nn,Dv,Dr,Bt,Fz,Rg,Le,Ln,St,Sr,Aa,C4]at *;omega)|simp_all))|grind|(simp_all;done)|(first|grind|exact Ch F5|(apply Ad<;>(first|grind|exact Ch F5))|(apply Ad<;>first|grind|exact Ch F5|(apply Ad<;>(first|grind|exact Ch F5))))|(repeat' first|exact all_nil|exact Hr _|apply all_cons|(simp only[Fz]at *;omega);done))|(intros;and_intros<;>first|omega|assumption|exact all_nil|grind|simp_all|(first|grind|exact Ch F5|(apply Ad<;>(first|grind|exact Ch F5))|(apply Ad<;>first|grind|exact Ch F5|(apply Ad<;>(first|grind|exact Ch F5))))))):T ((Bg l a b).bind g) Q:=by
 unfold Bg;unfold Aa at h;rw[B! h];exact k _ m?
theorem tC{p:α->Prop}(k:∀y,Aa y=b-a/\Dq p y->T (g y) Q)(hA:Dq p l:=by first|assumption|grind|(simp only[PD,PE]at *;grind))(h:0<=a/\a<=b/\b<=Aa l:=by first|exact True.intro|((try clear ih)<;>(try clear hb)<;>(try simp only[Dv,Dr,Hl,Is,Bt,Qe,DP,Ti,Yr,BR,Tx,zi,z8,z32,z64,Ir,Ig,Gn,Fh,DS,Ij,DJ,Ii,Iu,Im,EF,UInt8.reduceToNat,UInt32.reduceToNat,UInt64.reduceToNat,Cy,Rg,Le,Ln,PE,Mu,BX,Sr,St,Wd,Nn,Cj,Ck,Cm,PD,Ty,Fz,Aa,Cp,ES,Cq,C7,D0,D3,Eg,C5,C4,B_,D',C?,BC,↓ED,↓EJ,CE,D7,C9,D2,reduceCtorEq,E0,E1,E3,C_,D8,D1,D_,E4,D!,D9,D6,D4,D5,E5]at *)<;>(try simp only[EA,EO]at *)<;>omega)|((try clear ih)<;>(try clear hb)<;>(try simp only[Dv,Dr,Hl,Is,Qe,DP,Ti,Yr,BR,Tx,zi,z8,z32,z64,Ir,Ig,Gn,Fh,DS,Ij,DJ,Ii,Iu,Im,EF,UInt8.reduceToNat,UInt32.reduceToNat,UInt64.reduceToNat,Cy,Rg,Le,Ln,PE,Mu,BX,Sr,St,Wd,Nn,Cj,Ck,Cm,PD,Ty,Fz,Aa,Cp,ES,Cq,C7,D0,D3,Eg,C5,C4,B_,D',C?,BC,↓ED,↓EJ,CE,D7,C9,D2,reduceCtorEq,E0,E1,E3,C_,D8,D1,D_,E4,D!,D9,D6,D4,D5,E5]at *)<;>(try simp only[EA,EO]at *)<;>(try simp(disch:=omega)only[zw,mX,XL]at *)<;>(try simp only[Bt]at *)<;>first|omega|(and_intros<;>first|omega|assumption|exact all_nil|exact Ey ⟨rfl,rfl⟩|exact Bc (by simp only[Nn,Aa]at *;omega)|exact Ad (by first|assumption|grind) (Bc (by first|assumption|exact Hr _|(simp only[Nn,Dv,Dr,Bt,Fz,Rg,Le,Ln,St,Sr,Aa,C4]at *;omega)|simp_all))|grind|(simp_all;done)|(first|grind|exact Ch F5|(apply Ad<;>(first|grind|exact Ch F5))|(apply Ad<;>first|grind|exact Ch F5|(apply Ad<;>(first|grind|exact Ch F5))))|(repeat' first|exact all_nil|exact Hr _|apply all_cons|(simp only[Fz]at *;omega);done))|(intros;and_intros<;>first|omega|assumption|exact all_nil|grind|simp_all|(first|grind|exact Ch F5|(apply Ad<;>(first|grind|exact Ch F5))|(apply Ad<;>first|grind|exact Ch F5|(apply Ad<;>(first|grind|exact Ch F5))))))):T ((Bg l a b).bind g) Q:=by
 have e:Bg l a b=some ((l.take b.toNat).drop a.toNat):=by unfold Bg;unfold Aa at h;rw[B! h]
 rw[e,C6];exact k _ ⟨by unfold Aa at *;simp;omega,λx hx=>hA x (S4 (List.mem_of_mem_drop hx))⟩
theorem ta(k:T (g (l++m)) Q)(h:Aa l+Aa m<=17179869184:=by first|exact True.intro|((try clear ih)<;>(try clear hb)<;>(try simp only[Dv,Dr,Hl,Is,Bt,Qe,DP,Ti,Yr,BR,Tx,zi,z8,z32,z64,Ir,Ig,Gn,Fh,DS,Ij,DJ,Ii,Iu,Im,EF,UInt8.reduceToNat,UInt32.reduceToNat,UInt64.reduceToNat,Cy,Rg,Le,Ln,PE,Mu,BX,Sr,St,Wd,Nn,Cj,Ck,Cm,PD,Ty,Fz,Aa,Cp,ES,Cq,C7,D0,D3,Eg,C5,C4,B_,D',C?,BC,↓ED,↓EJ,CE,D7,C9,D2,reduceCtorEq,E0,E1,E3,C_,D8,D1,D_,E4,D!,D9,D6,D4,D5,E5]at *)<;>(try simp only[EA,EO]at *)<;>omega)|((try clear ih)<;>(try clear hb)<;>(try simp only[Dv,Dr,Hl,Is,Qe,DP,Ti,Yr,BR,Tx,zi,z8,z32,z64,Ir,Ig,Gn,Fh,DS,Ij,DJ,Ii,Iu,Im,EF,UInt8.reduceToNat,UInt32.reduceToNat,UInt64.reduceToNat,Cy,Rg,Le,Ln,PE,Mu,BX,Sr,St,Wd,Nn,Cj,Ck,Cm,PD,Ty,Fz,Aa,Cp,ES,Cq,C7,D0,D3,Eg,C5,C4,B_,D',C?,BC,↓ED,↓EJ,CE,D7,C9,D2,reduceCtorEq,E0,E1,E3,C_,D8,D1,D_,E4,D!,D9,D6,D4,D5,E5]at *)<;>(try simp only[EA,EO]at *)<;>(try simp(disch:=omega)only[zw,mX,XL]at *)<;>(try simp only[Bt]at *)<;>first|omega|(and_intros<;>first|omega|assumption|exact all_nil|exact Ey ⟨rfl,rfl⟩|exact Bc (by simp only[Nn,Aa]at *;omega)|exact Ad (by first|assumption|grind) (Bc (by first|assumption|exact Hr _|(simp only[Nn,Dv,Dr,Bt,Fz,Rg,Le,Ln,St,Sr,Aa,C4]at *;omega)|simp_all))|grind|(simp_all;done)|(first|grind|exact Ch F5|(apply Ad<;>(first|grind|exact Ch F5))|(apply Ad<;>first|grind|exact Ch F5|(apply Ad<;>(first|grind|exact Ch F5))))|(repeat' first|exact all_nil|exact Hr _|apply all_cons|(simp only[Fz]at *;omega);done))|(intros;and_intros<;>first|omega|assumption|exact all_nil|grind|simp_all|(first|grind|exact Ch F5|(apply Ad<;>(first|grind|exact Ch F5))|(apply Ad<;>first|grind|exact Ch F5|(apply Ad<;>(first|grind|exact Ch F5))))))):T ((Ba l m).bind g) Q:=by
 unfold Ba pP;unfold Aa at h;rw[B! F3];exact k
theorem tk{n:Int}{z:α}(k:∀y,Aa y=n->T (g y) Q)(h:0<=n/\n<=17179869184:=by first|exact True.intro|((try clear ih)<;>(try clear hb)<;>(try simp only[Dv,Dr,Hl,Is,Bt,Qe,DP,Ti,Yr,BR,Tx,zi,z8,z32,z64,Ir,Ig,Gn,Fh,DS,Ij,DJ,Ii,Iu,Im,EF,UInt8.reduceToNat,UInt32.reduceToNat,UInt64.reduceToNat,Cy,Rg,Le,Ln,PE,Mu,BX,Sr,St,Wd,Nn,Cj,Ck,Cm,PD,Ty,Fz,Aa,Cp,ES,Cq,C7,D0,D3,Eg,C5,C4,B_,D',C?,BC,↓ED,↓EJ,CE,D7,C9,D2,reduceCtorEq,E0,E1,E3,C_,D8,D1,D_,E4,D!,D9,D6,D4,D5,E5]at *)<;>(try simp only[EA,EO]at *)<;>omega)|((try clear ih)<;>(try clear hb)<;>(try simp only[Dv,Dr,Hl,Is,Qe,DP,Ti,Yr,BR,Tx,zi,z8,z32,z64,Ir,Ig,Gn,Fh,DS,Ij,DJ,Ii,Iu,Im,EF,UInt8.reduceToNat,UInt32.reduceToNat,UInt64.reduceToNat,Cy,Rg,Le,Ln,PE,Mu,BX,Sr,St,Wd,Nn,Cj,Ck,Cm,PD,Ty,Fz,Aa,Cp,ES,Cq,C7,D0,D3,Eg,C5,C4,B_,D',C?,BC,↓ED,↓EJ,CE,D7,C9,D2,reduceCtorEq,E0,E1,E3,C_,D8,D1,D_,E4,D!,D9,D6,D4,D5,E5]at *)<;>(try simp only[EA,EO]at *)<;>(try simp(disch:=omega)only[zw,mX,XL]at *)<;>(try simp only[Bt]at *)<;>first|omega|(and_intros<;>first|omega|assumption|exact all_nil|exact Ey ⟨rfl,rfl⟩|exact Bc (by simp only[Nn,Aa]at *;omega)|exact Ad (by first|assumption|grind) (Bc (by first|assumption|exact Hr _|(simp only[Nn,Dv,Dr,Bt,Fz,Rg,Le,Ln,St,Sr,Aa,C4]at *;omega)|simp_all))|grind|(simp_all;done)|(first|grind|exact Ch F5|(apply Ad<;>(first|grind|exact Ch F5))|(apply Ad<;>first|grind|exact Ch F5|(apply Ad<;>(first|grind|exact Ch F5))))|(repeat' first|exact all_nil|exact Hr _|apply all_cons|(simp only[Fz]at *;omega);done))|(intros;and_intros<;>first|omega|assumption|exact all_nil|grind|simp_all|(first|grind|exact Ch F5|(apply Ad<;>(first|grind|exact Ch F5))|(apply Ad<;>first|grind|exact Ch F5|(apply Ad<;>(first|grind|exact Ch F5))))))):T ((mkI n z).bind g) Q:=by
 unfold mkI pP;rw[B! F3];exact k _ m?
theorem tw{b:Bool}{f:Unit->Option β}(k:T (f ()) Q)(h:b=true:=by first|exact True.intro|((try clear ih)<;>(try clear hb)<;>(try simp only[Dv,Dr,Hl,Is,Bt,Qe,DP,Ti,Yr,BR,Tx,zi,z8,z32,z64,Ir,Ig,Gn,Fh,DS,Ij,DJ,Ii,Iu,Im,EF,UInt8.reduceToNat,UInt32.reduceToNat,UInt64.reduceToNat,Cy,Rg,Le,Ln,PE,Mu,BX,Sr,St,Wd,Nn,Cj,Ck,Cm,PD,Ty,Fz,Aa,Cp,ES,Cq,C7,D0,D3,Eg,C5,C4,B_,D',C?,BC,↓ED,↓EJ,CE,D7,C9,D2,reduceCtorEq,E0,E1,E3,C_,D8,D1,D_,E4,D!,D9,D6,D4,D5,E5]at *)<;>(try simp only[EA,EO]at *)<;>omega)|((try clear ih)<;>(try clear hb)<;>(try simp only[Dv,Dr,Hl,Is,Qe,DP,Ti,Yr,BR,Tx,zi,z8,z32,z64,Ir,Ig,Gn,Fh,DS,Ij,DJ,Ii,Iu,Im,EF,UInt8.reduceToNat,UInt32.reduceToNat,UInt64.reduceToNat,Cy,Rg,Le,Ln,PE,Mu,BX,Sr,St,Wd,Nn,Cj,Ck,Cm,PD,Ty,Fz,Aa,Cp,ES,Cq,C7,D0,D3,Eg,C5,C4,B_,D',C?,BC,↓ED,↓EJ,CE,D7,C9,D2,reduceCtorEq,E0,E1,E3,C_,D8,D1,D_,E4,D!,D9,D6,D4,D5,E5]at *)<;>(try simp only[EA,EO]at *)<;>(try simp(disch:=omega)only[zw,mX,XL]at *)<;>(try simp only[Bt]at *)<;>first|omega|(and_intros<;>first|omega|assumption|exact all_nil|exact Ey ⟨rfl,rfl⟩|exact Bc (by simp only[Nn,Aa]at *;omega)|exact Ad (by first|assumption|grind) (Bc (by first|assumption|exact Hr _|(simp only[Nn,Dv,Dr,Bt,Fz,Rg,Le,Ln,St,Sr,Aa,C4]at *;omega)|simp_all))|grind|(simp_all;done)|(first|grind|exact Ch F5|(apply Ad<;>(first|grind|exact Ch F5))|(apply Ad<;>first|grind|exact Ch F5|(apply Ad<;>(first|grind|exact Ch F5))))|(repeat' first|exact all_nil|exact Hr _|apply all_cons|(simp only[Fz]at *;omega);done))|(intros;and_intros<;>first|omega|assumption|exact all_nil|grind|simp_all|(first|grind|exact Ch F5|(apply Ad<;>(first|grind|exact Ch F5))|(apply Ad<;>first|grind|exact Ch F5|(apply Ad<;>(first|grind|exact Ch F5))))))):T ((Ew b).bind f) Q:=by
 unfold Ew;rw[B! h];exact k
theorem tv{n:Int}{f:Unit->Option β}(k:T (f ()) Q)(h:0<=a/\a<=b/\b<=n:=by first|exact True.intro|((try clear ih)<;>(try clear hb)<;>(try simp only[Dv,Dr,Hl,Is,Bt,Qe,DP,Ti,Yr,BR,Tx,zi,z8,z32,z64,Ir,Ig,Gn,Fh,DS,Ij,DJ,Ii,Iu,Im,EF,UInt8.reduceToNat,UInt32.reduceToNat,UInt64.reduceToNat,Cy,Rg,Le,Ln,PE,Mu,BX,Sr,St,Wd,Nn,Cj,Ck,Cm,PD,Ty,Fz,Aa,Cp,ES,Cq,C7,D0,D3,Eg,C5,C4,B_,D',C?,BC,↓ED,↓EJ,CE,D7,C9,D2,reduceCtorEq,E0,E1,E3,C_,D8,D1,D_,E4,D!,D9,D6,D4,D5,E5]at *)<;>(try simp only[EA,EO]at *)<;>omega)|((try clear ih)<;>(try clear hb)<;>(try simp only[Dv,Dr,Hl,Is,Qe,DP,Ti,Yr,BR,Tx,zi,z8,z32,z64,Ir,Ig,Gn,Fh,DS,Ij,DJ,Ii,Iu,Im,EF,UInt8.reduceToNat,UInt32.reduceToNat,UInt64.reduceToNat,Cy,Rg,Le,Ln,PE,Mu,BX,Sr,St,Wd,Nn,Cj,Ck,Cm,PD,Ty,Fz,Aa,Cp,ES,Cq,C7,D0,D3,Eg,C5,C4,B_,D',C?,BC,↓ED,↓EJ,CE,D7,C9,D2,reduceCtorEq,E0,E1,E3,C_,D8,D1,D_,E4,D!,D9,D6,D4,D5,E5]at *)<;>(try simp only[EA,EO]at *)<;>(try simp(disch:=omega)only[zw,mX,XL]at *)<;>(try simp only[Bt]at *)<;>first|omega|(and_intros<;>first|omega|assumption|exact all_nil|exact Ey ⟨rfl,rfl⟩|exact Bc (by simp only[Nn,Aa]at *;omega)|exact Ad (by first|assumption|grind) (Bc (by first|assumption|exact Hr _|(simp only[Nn,Dv,Dr,Bt,Fz,Rg,Le,Ln,St,Sr,Aa,C4]at *;omega)|simp_all))|grind|(simp_all;done)|(first|grind|exact Ch F5|(apply Ad<;>(first|grind|exact Ch F5))|(apply Ad<;>first|grind|exact Ch F5|(apply Ad<;>(first|grind|exact Ch F5))))|(repeat' first|exact all_nil|exact Hr _|apply all_cons|(simp only[Fz]at *;omega);done))|(intros;and_intros<;>first|omega|assumption|exact all_nil|grind|simp_all|(first|grind|exact Ch F5|(apply Ad<;>(first|grind|exact Ch F5))|(apply Ad<;>first|grind|exact Ch F5|(apply Ad<;>(first|grind|exact Ch F5))))))):T ((jN n a b).bind f) Q:=by
 unfold jN;exact tw k (G3 h)
end
theorem ind{p:Nat->Prop}(h:p 0)(hs:∀q,p q->p (q+1)):∀q,p q:=λq=>Nat.rec h hs q
theorem WX{p:Prop}(h:p:=by rw[RZ,Aa];simp;omega):p:=h
theorem F8{p:Prop}(h:p:=by unfold Aa;omega):p:=h
theorem mU{p:Prop}(h:p:=by have:=sG;omega):p:=h
theorem sP(h:n<18446744073709551616):(UInt64.ofNat n).toNat=n:=by rw[SF,N3 h]
theorem mul_one(m:Nat)(h:m<=100000):EM (1:UInt64) (UInt64.ofNat m)=some (0,UInt64.ofNat m):=by
 have y1:(UInt64.ofNat m).toNat=m:=sP F3;have s1:Dj (1:UInt64) (GI.toZ (32:UInt64)).toNat=0:=F5
 have s2:Dj (UInt64.ofNat m) (GI.toZ (32:UInt64)).toNat=0:=by
  apply UInt64.toNat_inj.1;rw[om,y1];exact SX (Nat.lt_of_le_of_lt h F5)
 have s0:Dj (0:UInt64) (GI.toZ (32:UInt64)).toNat=0:=F5
 have a1:Ec (1:UInt64) (4294967295:UInt64)=1:=F5
 have a0:Ec (0:UInt64) (4294967295:UInt64)=0:=F5
 have a2:Ec (UInt64.ofNat m) (4294967295:UInt64)=UInt64.ofNat m:=by
  apply UInt64.toNat_inj.1;rw[Ak8,UInt64.toNat_and,y1]
  show m&&& (2^32-1)=m;rw[kE,N3 F3]
 have m1:∀x:UInt64,Cf 1 x=x:=λx=>by rw[oW,UInt64.one_mul]
 have m0:∀x:UInt64,Cf 0 x=0:=λx=>by rw[oW,UInt64.zero_mul]
 have p0:∀x:UInt64,Ae 0 x=x:=λx=>by rw[nX,UInt64.zero_add]
 have p1:∀x:UInt64,Ae x 0=x:=λx=>by rw[nX,UInt64.add_zero]
 rw[EM,GA];simp only[s1,s2,a1,a2,m1,m0,p0,p1,s0,a0,Kq]
theorem zN(v:Int)(m:Nat)(hm:m<=100000):∀(j n q:Nat),1<=n->n<=m->m-n<=j->j<q->Ed q (n:Int) (List.replicate n v++List.replicate (m-n) 0)=some (List.replicate m v)
 |j,n,q+1,hn,hnm,hj,hq=>by
  have hlen:Aa (List.replicate n v++List.replicate (m-n) 0)=(m:Int):=by simp[Aa];omega
  rw[Ed,Fo,hlen];by_cases h:n<m
  ·obtain⟨j,rfl⟩:∃k,j=k+1:=⟨j-1,F3⟩;rw[B! (by rw[RZ];simp;omega)];have v1:jN (m:Int) (n:Int) (m:Int)=some ():=by rw[jN,jy];simp;omega
   have v2:jN (m:Int) (0:Int) (n:Int)=some ():=by rw[jN,jy];simp;omega
   have e1:Eg (List.replicate n v++List.replicate (m-n) 0) (0:Int) ((n:Int)-0)=List.replicate n v:=by
    simp[Eg]
   rw[v1,Kq,v2,Kq,e1];have e2:Cp ((m:Int)-(n:Int)) (List.replicate n v).length=((min n (m-n):Nat):Int):=by
    rw[Cp,D'];split<;>omega
   have e3:Ok (List.replicate n v++List.replicate (m-n) 0) (n:Int) ((m:Int)-(n:Int)) (List.replicate n v)=List.replicate (n+min n (m-n)) v++List.replicate (m-(n+min n (m-n))) 0:=by
    have t1:((m:Int)-(n:Int)).toNat=m-n:=F3
    have t2:(List.replicate n v++List.replicate (m-n) (0:Int)).take n=List.replicate n v:=by simp
    rw[Ok,t1,H',t2,List.take_replicate,D',<-H?,List.replicate_append_replicate,kK,D',Nat.min_comm (m-n) n];simp only[List.drop_replicate];rw[show n-(n+min n (m-n))=0 by omega,List.replicate_zero,J9,show m-n-(n+min n (m-n)-n)=m-(n+min n (m-n)) by omega]
   rw[e2,e3,Hn,show(n:Int)+((min n (m-n):Nat):Int)=((n+min n (m-n):Nat):Int) by omega];exact zN v m hm j (n+min n (m-n)) q F3 F3 F3 F3
  ·rw[C' (by rw[RZ];simp;omega)];obtain rfl:n=m:=F3
   simp[Ho,Li]
theorem u_(v:Int)(m:Nat)(hm:m<=100000):Ld [v] (m:Int)=some (List.replicate m v):=by
 have y1:(UInt64.ofNat m).toNat=m:=sP F3;have c1:(Al (Aa [v]):UInt64)=1:=by rfl
 have c2:(Al (m:Int):UInt64)=UInt64.ofNat m:=Aiz m;have c3:(Al (UInt64.ofNat m):Int)=(m:Int):=by rw[Ai1 F3,y1]
 rw[Ld,Mo,C' (by rw[RZ];simp),Vm,Mi,c1,c2,mul_one m hm,Kq];simp only;rw[C' (by rw[qw,qw,y1];simp;show m<=9223372036854775807;omega),Vh,Mq,c3,cM,Kq,jy (by rw[Atg];simp),Kq,Vl,H'];by_cases h0:m=0
 ·subst h0;have hF:Aq=(Aq-1)+1:=by have:=sG;omega
  rw[hF,Ed,Fo];simp[Aa,Cq,Cp,RZ,Ho,Li]
 ·have:=zN v m hm m 1 Aq F3 F3 F3 mU;have e1:Cp (Aa (List.replicate m (0:Int))) [v].length=((1:Nat):Int):=by simp[Cp,Aa];omega
  have e2:Cq (List.replicate m (0:Int)) [v]=List.replicate 1 v++List.replicate (m-1) 0:=by
   obtain⟨k,rfl⟩:∃k,m=k+1:=⟨m-1,F3⟩;simp[Cq]
  rw[e1,e2,this]
theorem n_(l m:LI)(h:l.length+m.length<=1000000):Lb [l,m]=some (l++m):=by
 have hF:Aq=(Aq-3)+1+1+1:=by have:=sG;omega
 rw[Lb,Mm,Ut];have g0:Af [l,m] (0:Int)=some l:=rfl;have g1:Af [l,m] (1:Int)=some m:=rfl;have l2:Aa [l,m]=2:=rfl;have h3:Lo [l,m] []=some (l++m):=by
  rw[Lo,Lj,Lm,hF,Dw,Ez,l2,B! F5,g0,Kq,QJ F6,Kq,J9,show Ae (0:Int) 1=1 by decide,
   Dw,Ez,l2,B! F5,g1,Kq,QJ,Kq,show Ae (1:Int) 1=2 by decide,Dw,Ez,l2,C' F5]
  rfl
 rw[hF,Ea,Fk,l2,B! F5,g0,Kq,Hn F8 F8,C' (by rw[RZ,Aa];simp),show Ae (0:Int) 1=1 by decide,
  Ea,Fk,l2,B! F5,g1,Kq,Hn F8 F8,C' (by rw[RZ,Aa,Aa];simp;omega),show Ae (1:Int) 1=2 by decide,
  Ea,Fk,l2,C' F5,Tv,Lp,C' (by rw[RZ,Aa,Aa];simp;omega),Tw,Lk]
 have z:As (0:Int) 0=0:=F5
 have n0:(0:Int)+Aa l+Aa m=((l.length+m.length:Nat):Int):=by simp[Aa]
 rw[z,n0,DF,Int.sub_zero];by_cases hp:0<l.length+m.length
 ·rw[B! (by rw[TY];simp;omega),show jN (0:Int) 0 0=some ()from rfl,Kq,cM,Kq,QJ F6,Kq];rw[show jN (Aa ([]++List.replicate ((l.length+m.length:Nat):Int).toNat (0:Int))) 0 0=some () by rw[jN,jy];simp[Aa];omega,Kq];simp only[Eg,Int.sub_self,lA,O'];exact h3
 ·rw[C' (by rw[TY];simp;omega)];exact h3
theorem mq(l:List LB)(hf:l.flatten.length<=4000000000)(hl:l.length<=4000000000)(v:LB)(hfin:Gl l (l.flatten.length:Int)=some v):∀(j i q:Nat),i+j=l.length->j<q->Dn l q (((l.take i).flatten.length:Nat):Int) (i:Int)=some v
 |j,i,0,_,h=>absurd h (kO _)
 |0,i,q+1,hi,_=>by
  rw[Dn,Gy,C' WX,IV F3];exact hfin
 |j+1,i,q+1,hi,hq=>by
  have ih:=mq l hf hl v hfin j (i+1) q F3 F3;have hi1:Ae (i:Int) 1=((i+1:Nat):Int):=by rw[Hn];omega
  have hsn:(l.take (i+1)).flatten=(l.take i).flatten++l[i]:=by rw[jI F3,VF];simp
  have hsp:l.flatten=(l.take (i+1)).flatten++(l.drop (i+1)).flatten:=by rw[<-VF,S6]
  have hle:((l.take i).flatten).length+(l[i]).length<=4000000000:=by
   rw[hsp,B_,hsn,B_]at hf;omega
  have hadd:Ae (((l.take i).flatten.length:Nat):Int) (Aa l[i])=(((l.take (i+1)).flatten.length:Nat):Int):=by
   rw[Aa,Hn,hsn,B_];omega
  rw[Dn,Gy,B! WX,uS,Kq,hadd,C' (by rw[RZ];simp only[FL];omega),hi1];exact ih
theorem Y2(l:List LB)(hf:l.flatten.length<=4000000000)(hl:l.length<=4000000000):∀(j i q:Nat),i+j=l.length->j<q->Dh l q (i:Int) (l.take i).flatten=some l.flatten
 |j,i,0,_,h=>absurd h (kO _)
 |0,i,q+1,hi,_=>by
  rw[Dh,Gk,C' WX,IV F3];rfl
 |j+1,i,q+1,hi,hq=>by
  have ih:=Y2 l hf hl j (i+1) q F3 F3;have hi1:Ae (i:Int) 1=((i+1:Nat):Int):=by rw[Hn];omega
  have hsn:(l.take (i+1)).flatten=(l.take i).flatten++l[i]:=by rw[jI F3,VF];simp
  have hsp:l.flatten=(l.take (i+1)).flatten++(l.drop (i+1)).flatten:=by rw[<-VF,S6]
  have hle:((l.take i).flatten).length+(l[i]).length<=4000000000:=by
   rw[hsp,B_,hsn,B_]at hf;omega
  rw[Dh,Gk,B! WX,uS,Kq,QJ,Kq,hi1,<-hsn];exact ih
theorem pq(l:List LB)(hf:l.flatten.length<=4000000000)(hl:l.length<=4000000000):Cd l=some l.flatten:=by
 have h3:Jv l []=some l.flatten:=by
  rw[Jv,Js,Jp];exact Y2 l hf hl l.length 0 Aq F3 mU
 have h11:Gl l (l.flatten.length:Int)=some l.flatten:=by
  have z:As (0:Int) 0=0:=F5
  rw[Gl,Jt,C' (by rw[RZ];simp only[FL];omega),Re,Jw,z,DF,Int.sub_zero];by_cases hp:0<l.flatten.length
  ·rw[B! (by rw[TY];simp only[FL];omega),show jN (0:Int) 0 0=some ()from rfl,Kq,cM,Kq,QJ (by simp only[C4,D'];omega),Kq];rw[show jN (Aa ([]++List.replicate ((l.flatten.length:Nat):Int).toNat (0:UInt8))) 0 0=some () by rw[jN,jy];simp[Aa],Kq];simp only[Eg,Int.sub_self,lA,O'];exact h3
  ·rw[C' (by rw[TY];simp only[FL];omega)];exact h3
 have:=mq l hf hl _ h11 l.length 0 Aq F3 mU;exact this
theorem Avc(l m:LB)(h:l.length+m.length<=1000000):Cd [l,m]=some (l++m):=by
 have:=pq [l,m] F6 F7;rw[this];simp
theorem lu{p:Prop}(h:p:=by simp only[B_,I3];omega):p:=h
theorem X'{p:Prop}(h:p:=by simp only[I3];omega):p:=h
end Go.Pl
set_option maxRecDepth 4000
set_option maxHeartbeats 400000
namespace Go.Pl
open Go Go.Lv
variable{y b:Int}{N16:Nat}
theorem Z1(s:LB)(c:UInt8): -1<=Gt s c/\Gt s c<Aa s:=by
  induction s with
  |nil=>simp[Gt,Aa]
  |cons b l ih=>
    simp only[Gt,Aa,C5]at*
    split<;>(try split)<;>omega
theorem Aft(s:LB)(c:UInt8)(h:True):T (stringslite_IndexByte s c) (λr=> -1<=r/\r<Aa s):=⟨_,rfl,Z1 s c⟩
theorem Ug(a:LB)(b:UInt8)(hP:True):T (Ds a b) (λr=> -1<=r/\r<Aa a):=
 tb (Aft _ _) λ_ _=>ts
theorem ug(q n:Nat)(a:LB)(h:Dq Nl a):(dgt q n a).length<=a.length+q/\Dq Nl (dgt q n a):=by
  have k:∀m,m<10->Nl (UInt8.ofNat (48+m)):=λm hm e=>by
    have:=congrArg UInt8.toNat e;rw[SG,show(10:UInt8).toNat=10 from rfl]at this;omega
  induction q generalizing n a with
  |zero=>exact⟨E6 _,h⟩
  |succ q ih=>
    unfold dgt;split
    · rename_i hn
      exact⟨by rw[C5];omega,all_cons (k n hn) h⟩
    · have:=ih (n/10) (UInt8.ofNat (48+n %10)::a) (all_cons (k _ F3) h)
      rw[C5]at this;exact⟨F3,this.2⟩
theorem Bv(n:Int)(h: -9223372036854775808<=n/\n<=9223372036854775807):T (strconv_Itoa n) (λr=>Aa r<=21/\Dq Nl r):=by
  unfold strconv_Itoa;rw[B! (G3 h)];refine⟨_,rfl,?_⟩;have h1:=ug 20 n.natAbs [] all_nil;have h2:=ug 20 n.toNat [] all_nil;simp only[Aa,C4]at*
  split
  · exact⟨by simp only[C5];omega,all_cons (λe=>absurd e F5) h1.2⟩
  · exact⟨F3,h2.2⟩
theorem Bf(a:Int)(hP:0<=a/\a<=99):T (Aj a) (λr=>Aa r<=30/\Dq Nl r):=
 tb (Bv _) λ_ _=>ta (ts)
def hd(n:UInt8):UInt8:=([48,49,50,51,52,53,54,55,56,57,97,98,99,100,101,102]:LB).getD n.toNat 0
def xA:LB->LB
  |[]=>[]
  |b::r=>hd (Dj b (GI.toZ (4:UInt64)).toNat)::hd (Ec b 15)::xA r
theorem Akh(a b:LB):xA (a++b)=xA a++xA b:=by
  induction a with
  |nil=>rfl
  |cons x l ih=>simp only[J8,xA,ih]
theorem qo(a:LB):(xA a).length=2*a.length:=by
  induction a with
  |nil=>rfl
  |cons x l ih=>simp only[xA,C5,ih];omega
theorem um(n:UInt8)(h:n.toNat<16):Nl (hd n):=by
  have:Dq Nl [48,49,50,51,52,53,54,55,56,57,97,98,99,100,101,102]:=Ch F5;refine this _ ?_;unfold hd;rw[G4,E_ (by simpa using h)];exact N8 _
theorem Apx(a:LB):Dq Nl (xA a):=by
  induction a with
  |nil=>exact all_nil
  |cons x l ih=>exact all_cons (um _ (zn4 _)) (all_cons (um _ (z15 _)) ih)
theorem uF(n:UInt8)(h:n.toNat<16):Af ([48,49,50,51,52,53,54,55,56,57,97,98,99,100,101,102]:LB) (GI.toZ n)=some (hd n):=by
  rw[z8];unfold Af hd;rw[B! F3,H',G4,E_ (by simpa using h)];rfl
theorem Ayr(a:LB)(ha:a.length<=12000000):∀(q i:Nat),i<=a.length/\a.length<i+q->Sk a q i (xA (a.take i))=some (xA a):=
 ind (λi hI=>by exfalso;omega) λq ih i hI=>by
  have hl:=qo (a.take i);have hl':=qo a;rw[C7]at hl;rw[Sk,LG];by_cases h:i<a.length
  · have hsn:a.take (i+1)=a.take i++[a[i]]:=by rw[wu h]
    have g1:Af a (i:Int)=some a[i]:=by unfold Af;rw[B! F3,H',E_ h]
    have e:xA (a.take (i+1))=xA (a.take i)++[hd (Dj a[i] (GI.toZ (4:UInt64)).toNat)]++[hd (Ec a[i] 15)]:=by
      rw[hsn,Akh,H?];rfl
    have k:=ih (i+1) ⟨F3,F3⟩;rw[e]at k;rw[B! (by rw[Qe];exact G3 (by show(i:Int)<Aa a;unfold Aa;omega)),g1,C6,uF _ (zn4 _),C6];unfold Ba pP;rw[B! X',C6,uF _ (z15 _),C6,B! lu,C6,Hn];exact k
  · rw[C' (by rw[Qe];simp only[zi,FL];unfold Aa;omega),IV F3]
    unfold KW fJ Ew;rw[B! (G3 F8)];rfl
theorem Aac(a:LB)(ha:a.length<=12000000):Es a 0=some (xA a):=by
  unfold Es Zb;rw[C' F5];exact Ayr a ha Aq 0 ⟨F3,by have:=Cy;omega⟩
theorem Vn(a:LB)(h:Int)(hP:0<=h/\h<=99/\Aa a<=12000000):T (Es a h) (λr=>Aa r<=24000030/\Dq Nl r):=by
  by_cases h0:h=0
  · subst h0
    have hl:=qo a;have:=hP.2.2;unfold Aa at this;exact⟨_,Aac a F3,by unfold Aa;omega,Apx a⟩
  · unfold Es Zb
    rw[B! (by rw[Tx];exact G3 h0)];exact tb (Bf _) λ_ _=>ts
theorem Jy(a b:LB)(hP:True):T (Md a b) (λ_=>True):=
 ts
theorem Yx(b a:LB)(hP:Aa a<=17179869184):T (Lt b a) (λ_=>True):=
 ti (λ_=>tc λ_ _=>tb (Jy _ _) λ_ _=>ts) λ_=>ts
theorem Tr{x:Int}(n:Nat)(hn:n<=62)(hx:0<=x/\x<2^n)(hy:0<=y/\y<2^n):0<=gor x y/\gor x y<2^n:=by
  have e:gor x y=wrap64 ((BitVec.ofInt 64 x|||BitVec.ofInt 64 y).toNat:Int):=rfl;have hp2:(2:Int)^n=((2^n:Nat):Int):=by push_cast;rfl
  have hp:2^n<=2^62:=kQ F5 hn;have h1:(BitVec.ofInt 64 x).toNat=x.toNat:=by rw[K8];omega
  have h2:(BitVec.ofInt 64 y).toNat=y.toNat:=by rw[K8];omega
  have h3:x.toNat|||y.toNat<2^n:=Nat.or_lt_two_pow F3 F3;rw[e,BitVec.toNat_or,h1,h2,Da F3 F3];omega
theorem sh7(h:0<=b/\b<2097152):Fe b (GI.toZ (7:UInt64)).toNat=b*128:=by
  have e:Fe b (GI.toZ (7:UInt64)).toNat=wrap64 (b*128):=rfl;rw[e,Da F3 F3]
theorem Aqu(a:LB):∀(q:Nat) (b f:Int),0<=f/\f<=4/\4<f+q/\Aa a=4/\0<=b/\ (f=0->b<1)/\ (f=1->b<128)/\ (f=2->b<16384)/\ (f=3->b<2097152)/\b<268435456->T (Sp a q b f) (λr=>0<=r.2/\r.2<=99/\ (r.2=0->0<=r.1/\r.1<268435456)):=
 ind (λb f hI=>by exfalso;omega) λq ih b f hI=>ti (λh1=>tg λg=>ti (λ_=>ts) λh2=>by
  have hf:f<4:=by simp only[Qe,zi,FL]at h1;omega
  have hg:g.toNat<128:=by
    have e:(127:UInt8).toNat=127:=rfl;simp only[Ti,z8,e,G?]at h2;omega
  have hb:0<=b/\b<2097152:=F3
  have k7:=Tr (x:=b*128) (y:=(g.toNat:Int)) 7 F5;have k14:=Tr (x:=b*128) (y:=(g.toNat:Int)) 14 F5;have k21:=Tr (x:=b*128) (y:=(g.toNat:Int)) 21 F5;have k28:=Tr (x:=b*128) (y:=(g.toNat:Int)) 28 F5;rw[sh7 hb,DJ,Hn];refine ih _ _ ?_;have:f=0\/f=1\/f=2\/f=3:=F3
  rcases this with h|h|h|h<;>omega) λ_=>ts
theorem Abz(a:LB)(hP:True):T (QA a) (λr=>0<=r.2/\r.2<=99/\ (r.2=0->0<=r.1/\r.1<268435456)):=
 ti (λ_=>ts) λ_=>tj (Aqu _ Aq _ _)
theorem Ma(a:LB)(g:Int)(b:UInt8)(m:Bool)(hP:Aa a<=100000/\10<=Aa a/\ (m=false->0<=g/\g<268435456)):T (FK a g b m) (λr=>0<=r.2/\r.2<=99/\ (r.2=0->10<=r.1/\r.1<=Aa a)):=
 ti (λ_=>ts) λ_=>ti (λ_=>ti (λ_=>ts) λ_=>ti (λ_=>ts) λ_=>ti (λ_=>tc λ_ _=>tc λ_ _=>ti (λ_=>ts) λ_=>tc λ_ _=>tc λ_ _=>tb (Jy _ _) λ_ _=>ti (λ_=>ts) λ_=>ts) λ_=>ts) λ_=>ti (λ_=>ts) λ_=>ti (λ_=>ts) λ_=>ti (λ_=>tc λ_ _=>tc λ_ _=>ti (λ_=>ts) λ_=>tc λ_ _=>tc λ_ _=>tb (Jy _ _) λ_ _=>ti (λ_=>ts) λ_=>ts) λ_=>ts
theorem Aqs(a:LB)(hP:Aa a<=100000):T (WS a) (λr=>0<=r.2/\r.2<=99/\ (r.2=0->10<=r.1/\r.1<=Aa a)):=
 tb (Yx _ _) λ_ _=>ti (λ_=>ts) λ_=>ti (λ_=>ts) λ_=>tg λ_=>tg λ_=>tc λ_ _=>tb (Abz _) λ⟨_,_⟩ _=>ti (λ_=>ti (λ_=>tj (Ma _ _ _ _)) λh=>absurd h F7) λ_=>tg λ_=>ti (λ_=>tj (Ma _ _ _ _)) λ_=>ti (λ_=>tj (Ma _ _ _ _)) λ_=>ti (λ_=>tj (Ma _ _ _ _)) λ_=>tj (Ma _ _ _ _)
theorem Azb(a:LB):∀(q:Nat) (f:UInt64) (b:Int),0<=b/\b<= (Aa a)/\ (Aa a)<b+q/\ (Aa a)<=17179869184->T (MY a q f b) (λr=>0<=r.2/\r.2<=99):=
 ind (λf b hI=>by exfalso;(try simp only[Aa]at *);omega) λq ih f b hI=>ti (λ_=>tg λ_=>tw (tj (ih _ _))) λ_=>ts
theorem oh(a:LB)(hP:True):T (rA a) (λr=>0<=r.2/\r.2<=99):=
 ti (λ_=>ts) λ_=>tj (Azb _ Aq _ _)
theorem jM(f:LB)(a b:Int)(hP:Aa f<=100000):T (B4 f a b) (λr=>0<=r.2/\r.2<=99):=
 ti (λ_=>ts) λ_=>ti (λ_=>ts) λ_=>tc λ_ _=>tb (oh _) λ⟨_,_⟩ _=>ts
theorem Agz(b:UInt64)(a:Int)(hP:1<=a/\a<=8):T (W? b a) (λ_=>True):=
 ti (λ_=>ts) λ_=>tw (ts)
theorem Azn(f:UInt64)(g:LB):∀(q:Nat) (a:Int) (b:LB),0<=a/\a<= (Aa g)/\ (Aa g)<a+q/\ (Aa g)<=17179869184/\Aa b=Aa g/\Aa g<=8->T (OE f g q a b) (λr=>0<=r.2/\r.2<=99/\Aa r.1<=8):=
 ind (λa b hI=>by exfalso;(try simp only[Aa]at *);omega) λq ih a b hI=>ti (λ_=>tw (tg λ_=>te (λ_ _=>tj (ih _ _)))) λ_=>ts
theorem Po(f:UInt64)(h:Int)(hP:True):T (Ly f h) (λr=>0<=r.2/\r.2<=99/\Aa r.1<=8):=
 ti (λ_=>ts) λ_=>tb (Agz _ _) λ_ _=>ti (λ_=>ts) λ_=>tk λ_ _=>tw (tj (Azn _ _ Aq _ _))
theorem Ac7(a b:Int)(f:UInt64):∀(q:Nat) (h:Int) (g:LB),0<=h/\h<= (Aa ([(2000:UInt64),(Al (Ae a 32):UInt64),(Al b:UInt64),f,(0:UInt64),(0:UInt64)]:LQ))/\ (Aa ([(2000:UInt64),(Al (Ae a 32):UInt64),(Al b:UInt64),f,(0:UInt64),(0:UInt64)]:LQ))<h+q/\ (Aa ([(2000:UInt64),(Al (Ae a 32):UInt64),(Al b:UInt64),f,(0:UInt64),(0:UInt64)]:LQ))<=17179869184/\Aa g<=8+8*h->T (YX a b f q h g) (λr=>Aa r<=100):=
 ind (λh g hI=>by exfalso;(try simp only[Aa]at *);omega) λq ih h g hI=>ti (λ_=>tg λ_=>tg λ_=>tb (Po _ _) λ⟨_,_⟩ _=>ta (tj (ih _ _))) λ_=>ts
theorem uZ(a b:Int)(f:UInt64)(hP:True):T (jK a b f) (λr=>Aa r<=100):=
 (by unfold jK oM S2;exact tj (Ac7 _ _ _ Aq _ _))
theorem fP(b:LB)(g:UInt64)(hP:Aa b<=100000):T (SN b g) (λr=>r.2.2=true->0<=r.1/\r.1<=3000/\0<=r.2.1/\r.2.1<=1000):=
 tb (jM _ _ _) λ⟨_,_⟩ _=>tb (jM _ _ _) λ⟨_,_⟩ _=>ti (λ_=>ts) λ_=>tb (uZ _ _ _) λ_ _=>tb (Jy _ _) λ_ _=>ts
theorem yK(a:LB)(hP:Aa a<=100000):T (xG a) (λr=>0<=r.2/\r.2<=99/\ (r.2=0->10<=r.1/\r.1<=Aa a)):=
 tb (Yx _ _) λ_ _=>ti (λ_=>ts) λ_=>ti (λ_=>ts) λ_=>tc λ_ _=>tb (fP _ _) λ⟨_,_,_⟩ _=>ti (λ_=>ts) λ_=>ti (λ_=>ts) λ_=>tc λ_ _=>tb (uZ _ _ _) λ_ _=>tb (Jy _ _) λ_ _=>ti (λ_=>ts) λ_=>ts
theorem Akj (a:LB)(hP:Aa a<=100000):T (Wp a) (λr=>0<=r.2/\r.2<=99/\ (r.2=0->10<=r.1/\r.1<=Aa a)):=
 tb (Aqs _) λ⟨_,_⟩ _=>ti (λ_=>ts) λ_=>tb (yK _) λ⟨_,_⟩ _=>ts
theorem Ac9(b:LB):∀(q:Nat) (x:Int),0<=x/\x<=Aa b/\Aa b<x+q/\Aa b<=100000->T (Ve b q x) (λr=>0<=r.2/\r.2<=99/\ (r.2=0->0<=r.1/\r.1<=Aa b)):=
 ind (λx hI=>by exfalso;omega) λq ih x hI=>tc λ_ _=>tb (Akj _) λ⟨_,_⟩ _=>ti (λ_=>ts) λ_=>ti (λ_=>ts) λ_=>ti (λ_=>ts) λ_=>tj (ih _)
theorem Pz(b:LB)(hP:Aa b<=100000):T (Gd b) (λr=>0<=r.2/\r.2<=99/\ (r.2=0->0<=r.1/\r.1<=Aa b)):=tj (Ac9 _ Aq _)
theorem AR(b a:LB)(hP:Aa a<=17179869184):T (Hw b a) (λ_=>True):=
 ti (λ_=>tc λ_ _=>ts) λ_=>ts
theorem HF(a b:LB)(hP:Aa b<=17179869184):T (Qs a b) (λ_=>True):=
 tb (AR _ _) λ_ _=>ts
theorem Ayf{Ff:Int->LU->Bp}(f:UInt32)(a:LB)(g:Int)(b:LU)(hb:∀(g:Int) (b:LU),0<=g/\g<=256/\256<g+N16/\Aa b=256/\Aa a<=100000->T (Ff g b) (λr=>0<=r.2/\r.2<=99)):∀(q:Nat) (k:UInt32) (n:Int),0<=n/\n<=8/\8<n+q/\0<=g/\g<=256/\256<g+(N16+1)/\Aa b=256/\Aa a<=100000/\g<256->T (Ze Ff f a g b q k n) (λr=>0<=r.2/\r.2<=99):=
 ind (λk n hI=>by exfalso;(try simp only[Aa]at *);omega) λq ih k n hI=>ti (λ_=>tj (ih _ _)) λ_=>tg λ_=>te (λ_ _=>tj (hb _ _))
theorem Aw3(a:LB)(b:LU):∀(q:Nat) (h:UInt32) (m:Int),0<=m/\m<= (Aa a)/\ (Aa a)<m+q/\ (Aa a)<=17179869184/\Aa b=256->T (Zw a b q h m) (λr=>0<=r.2/\r.2<=99):=
 ind (λh m hI=>by exfalso;(try simp only[Aa]at *);omega) λq ih h m hI=>ti (λ_=>tg λ_=>tq λ_=>tq λ_=>tj (ih _ _)) λ_=>ts
theorem Axb(f:UInt32)(a:LB):∀(q:Nat) (g:Int) (b:LU),0<=g/\g<=256/\256<g+q/\Aa b=256/\Aa a<=100000->T (Yz f a q g b) (λr=>0<=r.2/\r.2<=99):=
 ind (λg b hI=>by exfalso;(try simp only[Aa]at *);omega) λq ih g b hI=>ti (λ_=>tj (Ayf _ _ _ _ ih Aq _ _)) λ_=>tj (Aw3 _ _ Aq _ _)
theorem Amc (f:UInt32)(a:LB)(hP:True):T (oX f a) (λr=>0<=r.2/\r.2<=99):=
 ti (λ_=>ts) λ_=>tj (Axb _ _ Aq _ _)
theorem Ye(b:LB)(hP:True):T (Xm b) (λr=>0<=r.2/\r.2<=99):=
 tb (Amc _ _) λ⟨_,_⟩ _=>ti (λ_=>ts) λ_=>ts
theorem bA(b f a g h:Int)(hP:True):T (DV b f a g h) (λr=>r=true->1<=b/\b<=2/\1<=f/\f<=6/\8<=a/\a<=24/\a %8=0/\1<=g/\g<=1048576/\1<=h):=
 ti (λ_=>ti (λ_=>ts) λ_=>ts) λ_=>ti (λ_=>ti (λ_=>ts) λ_=>ts) λ_=>ti (λ_=>ts) λ_=>ts
theorem KD(a:Int)(hP:True):T (Jo a) (λr=>0<=r.2/\r.2<=99/\ (r.2=0->1<=r.1/\r.1<=1100000)):=
 ti (λ_=>ts) λ_=>ts
theorem zq{a:Int}(h:0<a)(hb:1<=b):1<= (b+a-1)/a/\ ((b+a-1)/a-1)*a<b/\b<= (b+a-1)/a*a:=by
  have h1:=Int.emod_add_mul_ediv (b+a-1) a;have h2:=QX (b+a-1) (show a≠0 by omega);have h3:=QO (b+a-1) h;have h4:1<= (b+a-1)/a:=by
    have:=Int.le_ediv_of_mul_le h (show 1*a<=b+a-1 by omega);exact this
  have e:((b+a-1)/a-1)*a=a*((b+a-1)/a)-a:=by rw[Int.sub_mul,T0,Int.one_mul]
  refine⟨h4,F3,?_⟩;rw[T0];omega
theorem Vp(g b:Int)(hP:True):T (Kf g b) (λr=>0<=r.2/\r.2<=99/\ (r.2=0->1<=r.1/\r.1<=1000/\1<=b/\b<=4000/\∃a,Jo g=some (a,0)/\1<=a/\a<=1100000/\ (r.1-1)*a<b/\b<=r.1*a)):=by
  obtain⟨⟨a,f⟩,e,h⟩:=KD g trivial;unfold Kf;rw[e,C6];refine ti (λ_=>ts) λh1=>?_;refine ti (λ_=>ts) λh2=>?_;refine tw ?_;have h3:1<=a/\a<=1100000/\1<=b/\b<=4000/\f=0:=by
    simp only[Qe,Ti,Tx,zi,CE,G?]at*
    omega
  have e1:Ex (As (Ae b a) 1) a=(b+a-1)/a:=by
    rw[Hn,DF,Gn,mX _ F3,Da]
    · have:=QS (show 0<=b+a-1 by omega) (show 0<=a by omega);omega
    · have:=SP (b:=a) (show 0<=b+a-1 by omega);omega
  have hq:=zq (a:=a) (b:=b) F3 F3;rw[e1];refine ti (λ_=>ts) λh4=>⟨_,rfl,H3 _,(show(0:Int)<=99 by decide),λ_=>⟨hq.1,?_,F3,F3,a,?_,F3,F3,hq.2⟩⟩
  · simp only[Ti,zi,G?]at h4;omega
  · rw[show f=0 by omega]
theorem lN(k a m f b:Int)(hP:1<=a):T (ON k a m f b) (λr=>r=true->1<=b/\b<=4000):=
 tw (ti (λ_=>ts) λ_=>tb (Vp _ _) λ⟨_,_⟩ _=>ts)
theorem Axe(b:LB):∀(q:Nat) (g:Int) (f:Int) (a:LI),0<=f/\f<=5/\5<f+q/\Aa a=5/\22<=Aa b/\Aa b<=100000/\4<=g/\g<=4+4*f->T (Yy b q g f a) (λr=>0<=r.2.2.2.2.2/\r.2.2.2.2.2<=99/\ (r.2.2.2.2.2=0->1<=r.1/\r.1<=2/\1<=r.2.1/\r.2.1<=6/\8<=r.2.2.1/\r.2.2.1<=24/\r.2.2.1 %8=0/\1<=r.2.2.2.1/\r.2.2.2.1<=1048576/\1<=r.2.2.2.2.1/\r.2.2.2.2.1<=4000/\22<=Aa b)):=
 ind (λg f a hI=>by exfalso;(try simp only[Aa]at *);omega) λq ih g f a hI=>ti (λ_=>th λ_ _=>tb (jM _ _ _) λ⟨_,_⟩ _=>th λ_ _=>te (λ_ _=>tj (ih _ _ _))) λ_=>th λ_ _=>th λ_ _=>th λ_ _=>th λ_ _=>th λ_ _=>th λ_ _=>th λ_ _=>th λ_ _=>th λ_ _=>th λ_ _=>tb (bA _ _ _ _ _) λ_ _=>ti (λ_=>ts) λ_=>tb (lN _ _ _ _ _) λ_ _=>ti (λ_=>ts) λ_=>ts
theorem Py(b:LB)(hP:Aa b<=100000):T (Ka b) (λr=>0<=r.2.2.2.2.2/\r.2.2.2.2.2<=99/\ (r.2.2.2.2.2=0->1<=r.1/\r.1<=2/\1<=r.2.1/\r.2.1<=6/\8<=r.2.2.1/\r.2.2.1<=24/\r.2.2.1 %8=0/\1<=r.2.2.2.1/\r.2.2.2.1<=1048576/\1<=r.2.2.2.2.1/\r.2.2.2.2.1<=4000/\22<=Aa b)):=
 tc λ_ _=>tb (HF _ _) λ_ _=>ti (λ_=>ts) λ_=>ti (λ_=>ts) λ_=>tb (jM _ _ _) λ⟨_,_⟩ _=>tc λ_ _=>tb (Ye _) λ⟨_,_⟩ _=>ti (λ_=>ts) λ_=>tj (Axe _ Aq _ _ _)
theorem Aw6{Ff:Int->LQ->Bq}(b:UInt64)(a:LB)(g:Int)(f:LQ)(hb:∀(g:Int) (f:LQ),0<=g/\g<=256/\256<g+N16/\Aa f=256/\Aa a<=100000->T (Ff g f) (λr=>0<=r.2/\r.2<=99)):∀(q:Nat) (k:UInt64) (n:Int),0<=n/\n<=8/\8<n+q/\0<=g/\g<=256/\256<g+(N16+1)/\Aa f=256/\Aa a<=100000/\g<256->T (AT Ff b a g f q k n) (λr=>0<=r.2/\r.2<=99):=
 ind (λk n hI=>by exfalso;(try simp only[Aa]at *);omega) λq ih k n hI=>ti (λ_=>tj (ih _ _)) λ_=>tg λ_=>te (λ_ _=>tj (hb _ _))
theorem Ayv(a:LB)(b:UInt64)(f:LQ):∀(q:Nat) (h:UInt64) (m:Int),0<=m/\m<= (Aa a)/\ (Aa a)<m+q/\ (Aa a)<=17179869184/\Aa f=256->T (Zp a b f q h m) (λr=>0<=r.2/\r.2<=99):=
 ind (λh m hI=>by exfalso;(try simp only[Aa]at *);omega) λq ih h m hI=>ti (λ_=>tg λ_=>tq λ_=>tq λ_=>tj (ih _ _)) λ_=>ts
theorem Ax3(b:UInt64)(a:LB):∀(q:Nat) (g:Int) (f:LQ),0<=g/\g<=256/\256<g+q/\Aa f=256/\Aa a<=100000->T (BO b a q g f) (λr=>0<=r.2/\r.2<=99):=
 ind (λg f hI=>by exfalso;(try simp only[Aa]at *);omega) λq ih g f hI=>ti (λ_=>tj (Aw6 _ _ _ _ ih Aq _ _)) λ_=>tj (Ayv _ _ _ Aq _ _)
theorem Aci (b:UInt64)(a:LB)(hP:True):T (oH b a) (λr=>0<=r.2/\r.2<=99):=
 ti (λ_=>ts) λ_=>tj (Ax3 _ _ Aq _ _)
theorem C2(a:LB)(hP:True):T (jL a) (λr=>0<=r.2/\r.2<=99):=
 tb (Aci _ _) λ⟨_,_⟩ _=>ts
theorem yX(a:LB)(hP:True):T (xJ a) (λr=>0<=r.2/\r.2<=99):=
 ti (λ_=>ts) λ_=>tb (C2 _) λ⟨_,_⟩ _=>ts
theorem iA(b:LB)(hP:True):T (HW b) (λr=>0<=r.2/\r.2<=99/\Aa r.1<=8):=
 tb (yX _) λ⟨_,_⟩ _=>ti (λ_=>ts) λ_=>tb (Po _ _) λ⟨_,_⟩ _=>ts
theorem AQ(a f:LB)(hP:True):T (Tn a f) (λr=>0<=r.2/\r.2<=99):=
 tb (iA _) λ⟨_,_⟩ _=>ti (λ_=>ts) λ_=>tb (Jy _ _) λ_ _=>ts
theorem gN(a b f g h:Int)(hP:True):T (HH a b f g h) (λr=>0<=r/\r<=99/\ (r=0->1<=a/\a<=2/\1<=b/\b<=6/\8<=f/\f<=24/\f %8=0/\1<=g/\g<=1048576/\1<=h/\h<=4000)):=
 tb (bA _ _ _ _ _) λ_ _=>ti (λ_=>ts) λ_=>tb (lN _ _ _ _ _) λ_ _=>ti (λ_=>ts) λ_=>ts
theorem Abh(a b:Int)(hP:True):T (Of a b) (λr=>0<=r.2/\r.2<=99/\Aa r.1<=1000/\Dq (Rg 1 4000) r.1/\ (r.2=0->1<=Aa r.1)):=by
  obtain⟨⟨f,g⟩,e,h⟩:=Vp a b trivial;unfold Of;rw[e,C6];refine ti (λ_=>ts) λh1=>?_;have hg:g=0:=by simp only[Tx,zi,G?,D!,Decidable.not_not]at h1;exact h1
  obtain⟨k1,k2,k3,k4,v,ev,v1,v2,w1,w2⟩:=h.2.2 hg;simp only at k1 k2 k3 k4 w1 w2;have hm:0<= (f-1)*v:=lB F3 F3;rw[ev,C6];simp only;obtain⟨m,hm'⟩:∃m:Nat,f-1=(m:Int):=⟨(f-1).toNat,F3⟩;rw[DF,xF,DF,hm',u_ _ _ F3,C6];unfold AK;rw[n_ _ _ F6];refine⟨_,rfl,H3 _,(show(0:Int)<=99 by decide),by unfold Aa;rw[B_,D',I3];omega,λx hx=>?_,λ_=>by unfold Aa;rw[B_,D',I3];omega⟩
  show 1<=x/\x<=4000;rcases List.mem_append.1 hx with hx|hx
  · obtain⟨n0,rfl⟩:=List.mem_replicate.1 hx
    have:=wz (show 1<=f-1 by omega) (show 0<=x by omega);omega
  · rw[kV]at hx
    have:f*v=(f-1)*v+v:=by rw[Int.sub_mul];omega
    subst hx;rw[<-hm'];omega
theorem Aw8(g h k a b:Int):T (Bn g h k a b) (λr=>0<=r.2/\r.2<=99/\Aa r.1<=1000/\Dq (Rg 1 4000) r.1/\ (r.2=0->1<=Aa r.1/\1<=g/\g<=2/\1<=h/\h<=6/\8<=k/\k<=24/\k %8=0/\1<=a/\a<=1048576/\1<=b/\b<=4000)):=
 tb (gN _ _ _ _ _) λ_ _=>ti (λ_=>ts) λ_=>tb (Abh _ _) λ⟨_,_⟩ _=>ts
def nF(g h k a b:Int):Int:=match Bn g h k a b with
  |some r=>Aa r.1
  |none=>0
theorem Db(g h k a b:Int)(hP:True):T (Bn g h k a b) (λr=>Aa r.1=nF g h k a b/\0<=r.2/\r.2<=99/\Aa r.1<=1000/\Dq (Rg 1 4000) r.1/\ (r.2=0->1<=Aa r.1/\1<=g/\g<=2/\1<=h/\h<=6/\8<=k/\k<=24/\k %8=0/\1<=a/\a<=1048576/\1<=b/\b<=4000)):=by
  obtain⟨y,e,h⟩:=Aw8 g h k a b;exact⟨y,e,by unfold nF;rw[e],h⟩
theorem Aw9(a:LI):∀(q:Nat) (f b:Int),0<=b/\b<=Aa a/\Aa a<b+q/\Aa a<=1000/\ (∀k:Nat,(k:Int)<b->∀x,a[k]? =some x->5<=x/\x<=100000)/\f<=100000->T (Zy a q f b) (λr=>0<=r/\r<=99/\ (r=0->Aa a<=1000/\Dq (Rg 5 100000) a)):=
 ind (λf b hI=>by exfalso;omega) λq ih f b hI=>ti (λh1=>by
  have hb:b<Aa a:=by simp only[Qe,zi,FL]at h1;exact h1
  have hb':b.toNat<a.length:=by unfold Aa at hb;omega
  have e:Af a b=some a[b.toNat]:=by unfold Af;rw[B! hI.1,E_ hb']
  rw[e,C6];refine ti (λ_=>⟨_,rfl,F5,F5,λh=>absurd h F5⟩) λh2=>?_;have h3:5<=a[b.toNat]/\a[b.toNat]<=f:=by simp only[Qe,Ti,zi,CE,G?]at h2;omega
  have e2:As f a[b.toNat]=f-a[b.toNat]:=DF;have e3:Ae b 1=b+1:=Hn;rw[e2,e3];refine ih _ _ ⟨F3,F3,F3,F3,λk hk x hx=>?_,F3⟩;by_cases hkb:(k:Int)<b
  · exact hI.2.2.2.2.1 k hkb x hx
  · have:k=b.toNat:=F3
    subst this;rw[E_ hb']at hx;obtain rfl:=G6 hx;omega) λh1=>⟨_,rfl,H3 _,F5,λ_=>⟨hI.2.2.2.1,λx hx=>by
  obtain⟨k,hk,rfl⟩:=List.getElem_of_mem hx;refine hI.2.2.2.2.1 k ?_ _ (E_ hk);simp only[Qe,zi,G?]at h1;unfold Aa at h1;omega⟩⟩
theorem Vg(a:LI)(hP:True):T (Sd a) (λr=>0<=r/\r<=99/\ (r=0->Aa a<=1000/\Dq (Rg 5 100000) a)):=
 ti (λ_=>⟨_,rfl,F5,F5,λh=>absurd h F5⟩) λh=>(Aw9 _ Aq _ _) ⟨H3 _,by unfold Aa;omega,by unfold Aa at *;simp only[BR,Ti,zi,Aa,CE,G?]at h;have:=Cy;omega,by simp only[BR,Ti,zi,Aa,CE,G?]at *;omega,λk hk=>by omega,F5⟩
theorem Acv{h:Int}(a:LB)(f:LI):∀(q:Nat) (g:Int) (b:LI),0<=g/\g<= (Aa f)/\ (Aa f)<g+q/\ (Aa f)<=17179869184/\Aa b=Aa f/\Aa a<=100000/\Aa f=h/\4*h+4<=Aa a->T (EE a f q g b) (λr=>0<=r.2/\r.2<=99/\ (r.2=0->Aa r.1=h/\4*h+4<=Aa a/\Dq (Rg 5 100000) r.1)):=
 ind (λg b hI=>by exfalso;(try simp only[Aa]at *);omega) λq ih g b hI=>ti (λ_=>tb (jM _ _ _) λ⟨_,_⟩ _=>tg λ_=>te (λ_ _=>tj (ih _ _))) λ_=>tb (Vg _) λ_ _=>ti (λ_=>ts) λ_=>ts
theorem BB(a:LB)(h:Int)(hP:Aa a<=100000):T (Ws a h) (λr=>0<=r.2/\r.2<=99/\ (r.2=0->Aa r.1=h/\4*h+4<=Aa a/\Dq (Rg 5 100000) r.1)):=
 ti (λ_=>ts) λ_=>ti (λ_=>ts) λ_=>tb (jM _ _ _) λ⟨_,_⟩ _=>tc λ_ _=>tb (Ye _) λ⟨_,_⟩ _=>ti (λ_=>ts) λ_=>tk λ_ _=>tw (tj (Acv _ _ Aq _ _))
theorem WB(a:LB)(b g h k m o:Int)(hP:0<=o/\o<=Aa a/\Aa a<=100000):T (eV a b g h k m o) (λr=>0<=r.2.2.2.2.2.2.2/\r.2.2.2.2.2.2.2<=99/\ (r.2.2.2.2.2.2.2=0->1<=r.1/\r.1<=2/\1<=r.2.1/\r.2.1<=6/\8<=r.2.2.1/\r.2.2.1<=24/\r.2.2.1 %8=0/\1<=r.2.2.2.1/\r.2.2.2.1<=1048576/\1<=r.2.2.2.2.1/\r.2.2.2.2.1<=4000/\1<=r.2.2.2.2.2.1/\r.2.2.2.2.2.1<=110000/\1<=Aa r.2.2.2.2.2.2.1/\Aa r.2.2.2.2.2.2.1<=1000/\Aa a<=100000/\Aa r.2.2.2.2.2.2.1=nF r.1 r.2.1 r.2.2.1 r.2.2.2.1 r.2.2.2.2.1/\Dq (Rg 5 100000) r.2.2.2.2.2.2.1)):=
 tb (Db _ _ _ _ _) λ⟨_,_⟩ _=>ti (λ_=>ts) λ_=>tc λ_ _=>tb (BB _ _) λ⟨_,_⟩ _=>ti (λ_=>ts) λ_=>ts
theorem Iq(a n:LB)(hP:True):T (Gi a n) (λr=>0<=r.2.2.2.2.2.2.2/\r.2.2.2.2.2.2.2<=99/\ (r.2.2.2.2.2.2.2=0->1<=r.1/\r.1<=2/\1<=r.2.1/\r.2.1<=6/\8<=r.2.2.1/\r.2.2.1<=24/\r.2.2.1 %8=0/\1<=r.2.2.2.1/\r.2.2.2.1<=1048576/\1<=r.2.2.2.2.1/\r.2.2.2.2.1<=4000/\1<=r.2.2.2.2.2.1/\r.2.2.2.2.2.1<=110000/\1<=Aa r.2.2.2.2.2.2.1/\Aa r.2.2.2.2.2.2.1<=1000/\Aa a<=100000/\Aa r.2.2.2.2.2.2.1=nF r.1 r.2.1 r.2.2.1 r.2.2.2.1 r.2.2.2.2.1/\Dq (Rg 5 100000) r.2.2.2.2.2.2.1)):=
 ti (λ_=>ts) λ_=>ti (λ_=>ts) λ_=>tb (Pz _) λ⟨_,_⟩ _=>ti (λ_=>ts) λ_=>tc λ_ _=>tb (Py _) λ⟨_,_,_,_,_,_⟩ _=>ti (λ_=>ts) λ_=>ti (λ_=>ts) λ_=>ti (λ_=>ti (λ_=>ts) λ_=>tc λ_ _=>tb (AQ _ _) λ⟨_,_⟩ _=>ti (λ_=>ts) λ_=>ti (λ_=>ts) λ_=>tj (WB _ _ _ _ _ _ _)) λ_=>tj (WB _ _ _ _ _ _ _)
theorem lZ(f:LB)(hP:True):T (MX f) (λr=>0<=r.2.2.2.2.2.2.2.2.2.2.2/\r.2.2.2.2.2.2.2.2.2.2.2<=99/\ (r.2.2.2.2.2.2.2.2.2.2.2=0->Aa f<=100000/\1<=r.1/\r.1<=2/\1<=r.2.1/\r.2.1<=6/\8<=r.2.2.1/\r.2.2.1<=24/\r.2.2.1 %8=0/\1<=r.2.2.2.1/\r.2.2.2.1<=1048576/\1<=r.2.2.2.2.1/\r.2.2.2.2.1<=4000/\0<=r.2.2.2.2.2.1/\r.2.2.2.2.2.1+22=r.2.2.2.2.2.2.1/\r.2.2.2.2.2.2.1<=r.2.2.2.2.2.2.2.1/\r.2.2.2.2.2.2.1<=Aa f/\r.2.2.2.2.2.2.2.1<=r.2.2.2.2.2.2.1+8/\r.2.2.2.2.2.2.2.2.1=0/\r.2.2.2.2.2.2.2.2.2.1=0/\Aa r.2.2.2.2.2.2.2.2.2.2.1<=1000/\Dq (Rg 1 4000) r.2.2.2.2.2.2.2.2.2.2.1)):=
 ti (λ_=>ts) λ_=>tb (Pz _) λ⟨_,_⟩ _=>ti (λ_=>ts) λ_=>tc λ_ _=>tb (Py _) λ⟨_,_,_,_,_,_⟩ _=>ti (λ_=>ts) λ_=>tb (Db _ _ _ _ _) λ⟨_,_⟩ _=>ti (λ_=>ts) λ_=>ts
theorem A? (f:UInt64):∀(q:Nat) (a:Int) (b:LX),0<=a/\a<=8/\8<a+q/\Aa b=16->T (XY f q a b) (λr=>Aa r=16):=
 ind (λa b hI=>by exfalso;(try simp only[Aa]at *);omega) λq ih a b hI=>ti (λ_=>tw (tg λ_=>te (λ_ _=>tj (ih _ _)))) λ_=>ts
theorem Aix(f:UInt64)(hP:True):T (M4 f) (λr=>Aa r=16):=
 (by unfold M4 oI uh;exact tj (A? _ Aq _ _))
theorem Rz(a:LB)(hP:True):T (Nx a) (λr=>0<=r.2/\r.2<=99/\Aa r.1=16):=
 ti (λ_=>ts) λ_=>tb (C2 _) λ⟨_,_⟩ _=>ti (λ_=>ts) λ_=>tb (Aix _) λ_ _=>ts
theorem PK(a:Int)(hP:True):T (FH a) (λr=>0<=r.2.2/\r.2.2<=99/\ (r.2.2=0->8<=a/\a<=24/\a %8=0)):=
 ti (λ_=>ti (λ_=>tw (ts)) λ_=>ts) λ_=>ti (λ_=>ti (λ_=>tw (ts)) λ_=>ts) λ_=>ti (λ_=>tw (ts)) λ_=>ts
theorem Pu(a b:Int)(hP:True):T (Mn a b) (λr=>0<=r/\r<=99/\ (r=0->1<=a/\a<=6/\8<=b/\b<=24/\b %8=0)):=
 tb (PK _) λ⟨_,_,_⟩ _=>ti (λ_=>ts) λ_=>ts
theorem Axa(a:LB)(hP:True):T (KG a) (λr=>0<=r.2/\r.2<=99/\Aa r.1<=41250):=
 ti (λ_=>ts) λ_=>ti (λ_=>ts) λ_=>tc λ_ _=>tb (Ye _) λ⟨_,_⟩ _=>ti (λ_=>ts) λ_=>tc λ_ _=>tb (oh _) λ⟨_,_⟩ _=>ti (λ_=>ts) λ_=>tc λ_ _=>ts
theorem Um(a:LB)(hP:Aa a<=17179869184):T (Bk a) (λr=>Aa r=Aa a):=
 ta (ts)
theorem Ai3(a:LB)(hP:True):T (X? a) (λr=>0<=r.2.2/\r.2.2<=99/\Aa r.1<=41250/\ (r.2.2=0->r.2.1=8*Aa a/\Aa r.1=Aa a)):=
 ti (λ_=>ts) λ_=>tb (Um _) λ_ _=>ts
theorem sR(hP:True):T (YZ) (λ_=>True):=
 ts
theorem Jr(b:LB)(a:Int)(hP:True):T (Jk b a) (λr=>0<=r/\r<=99/\ (r=0->0<=a/\a<=330000/\Aa b=(a+7)/8)):=
 ti (λ_=>ts) λ_=>ti (λ_=>tg λ_=>tw (ti (λ_=>ts) λ_=>ts)) λ_=>ts
theorem Azc(b f:Int)(h:LB)(k:Int):∀(q:Nat) (g:UInt64) (a:Int),0<=a/\a<=f/\f<a+q/\f<=17179869184/\0<=b/\0<=f/\b+f<=k/\k<=330000/\Aa h=(k+7)/8->T (NY b f h k q g a) (λ_=>True):=
 ind (λg a hI=>by exfalso;(try simp only[Aa]at *);omega) λq ih g a hI=>ti (λ_=>tg λ_=>tw (tw (tw (tj (ih _ _))))) λ_=>ts
theorem Z6(h:LB)(k b f:Int)(hP:0<=b/\0<=f/\b+f<=k/\k<=330000/\Aa h=(k+7)/8):T (gY h k b f) (λ_=>True):=
 (by unfold gY cZ zW;exact tj (Azc _ _ _ _ Aq _ _))
theorem Aqr{N27:Nat}{Uk:Int->Int->LB->Dx}(a:Int)(g:LB)(b f:Int)(m:UInt64)(hb:∀(f:Int) (o:Int) (p:LB),0<=y/\y<=a/\a<=b/\b<=330000/\Aa g=(b+7)/8/\0<=f/\f<=a+64/\a+64<f+N27/\0<=o/\o<=f/\Aa p=(o+7)/8->T (Uk f o p) (λr=>0<=r.2.2/\r.2.2<=99/\ (r.2.2=0->0<=y/\y<=a/\a<=b/\b<=330000))):∀(q:Nat) (n:UInt64) (k:Int) (h:Int) (u:LB),0<=y/\y<=a/\a<=b/\b<=330000/\Aa g=(b+7)/8/\0<=f/\f<a/\a+64<f+(N27+1)/\0<=k/\k<=64/\k<q/\0<=h/\h+k<=f+64/\Aa u=(h+7)/8->T (HN Uk a g b f m q n k h u) (λr=>0<=r.2.2/\r.2.2<=99/\ (r.2.2=0->0<=y/\y<=a/\a<=b/\b<=330000)):=
 ind (λn k h u hI=>by exfalso;(try simp only[Aa]at *);omega) λq ih n k h u hI=>ti (λ_=>ti (λ_=>ta (tg λ_=>tw (tw (tg λ_=>tg λ_=>te (λ_ _=>tw (tj (ih _ _ _ _))))))) λ_=>tg λ_=>tw (tw (tg λ_=>tg λ_=>te (λ_ _=>tw (tj (ih _ _ _ _)))))) λ_=>tj (hb _ _ _)
theorem Aj2(a:Int)(g:LB)(b:Int):∀(q:Nat) (f:Int) (o:Int) (p:LB),0<=y/\y<=a/\a<=b/\b<=330000/\Aa g=(b+7)/8/\0<=f/\f<=a+64/\a+64<f+q/\0<=o/\o<=f/\Aa p=(o+7)/8->T (HJ a g b q f o p) (λr=>0<=r.2.2/\r.2.2<=99/\ (r.2.2=0->0<=y/\y<=a/\a<=b/\b<=330000)):=
 ind (λf o p hI=>by exfalso;(try simp only[Aa]at *);omega) λq ih f o p hI=>ti (λ_=>tb (Z6 _ _ _ _) λ_ _=>tj (Aqr _ _ _ _ _ ih Aq _ _ _ _)) λ_=>ts
theorem Aeh(g:LB)(b y a:Int)(hP:True):T (sF g b y a) (λr=>0<=r.2.2/\r.2.2<=99/\ (r.2.2=0->0<=y/\y<=a/\a<=b/\b<=330000)):=
 tb (Jr _ _) λ_ _=>ti (λ_=>ts) λ_=>ti (λ_=>ts) λ_=>tj (Aj2 _ _ _ Aq _ _ _)
theorem rD(a b:Int)(f g:UInt64)(hP:True):T (YH a b f g) (λr=>0<=r/\r<=99/\ (r=0->0<=a/\a<=24/\0<=b/\b<=24)):=
 ti (λ_=>ts) λ_=>ts
theorem IQ(g:LB)(b f a:Int)(hP:True):T (FC g b f a) (λr=>0<=r.2/\r.2<=99/\ (r.2=0->0<=f/\f+a<=b)):=
 tb (Jr _ _) λ_ _=>ti (λ_=>ts) λ_=>ti (λ_=>ts) λ_=>ti (λ_=>ts) λ_=>tb (Z6 _ _ _ _) λ_ _=>ts
theorem Abs(a:UInt64)(hP:True):T (Lg a) (λr=>0<=r):=
 ti (λ_=>ts) λ_=>tz (Avh _) λ_=>ts
theorem Aea (g:LB)(b a:Int)(hP:True):T (nS g b a) (λr=>0<=r.2.2/\r.2.2<=99/\ (r.2.2=0->0<=r.1/\r.1<=48/\0<=r.2.1/\r.2.1<=400000)):=
 tb (Jr _ _) λ_ _=>ti (λ_=>ts) λ_=>ti (λ_=>ts) λ_=>ti (λ_=>ts) λ_=>tb (IQ _ _ _ _) λ⟨_,_⟩ _=>ti (λ_=>ts) λ_=>tb (Abs _) λ_ _=>ti (λ_=>ts) λ_=>ti (λ_=>ts) λ_=>ts
theorem iW(b:UInt32)(a:Int)(hP:0<=a):T (IA b a) (λ_=>True):=
 tw (ts)
theorem cW(a b f:Int)(g:LB)(h k:Int)(hP:0<=a/\a<=24/\0<=k/\k<=32/\0<=b/\b<=400000):T (tR a b f g h k) (λr=>0<=r.2.2/\r.2.2<=99/\ (r.2.2=0->0<=r.2.1/\r.2.1<=450000)):=
 tb (IQ _ _ _ _) λ⟨_,_⟩ _=>ti (λ_=>ts) λ_=>ti (λ_=>tw (ts)) λ_=>tb (iW _ _) λ_ _=>ti (λ_=>ts) λ_=>ts
theorem xU(g:LB)(h v a:Int)(hP:True):T (xQ g h v a) (λr=>0<=r.2.2/\r.2.2<=99/\ (r.2.2=0->0<=r.2.1/\r.2.1<=450000)):=
 tb (Jr _ _) λ_ _=>ti (λ_=>ts) λ_=>ti (λ_=>ts) λ_=>tb (Aea _ _ _) λ⟨_,_,_⟩ _=>ti (λ_=>ts) λ_=>ti (λ_=>tj (cW _ _ _ _ _ _)) λ_=>tj (cW _ _ _ _ _ _)
theorem XB(a f:Int)(g h:UInt64)(b:UInt32)(hP:0<=a):T (KJ a f g h b) (λr=>0<=r.1/\r.1<=1):=
 tw (ti (λ_=>ts) λ_=>tw (ts))
theorem Iv(f:UInt32)(k a:Int)(b:UInt64)(m:Int)(n:UInt64)(hP:0<=a/\a<=24/\0<=m/\m<=24/\0<=k/\k<=500000):T (YM f k a b m n) (λr=>0<=r.2.2.2.2.2.2/\r.2.2.2.2.2.2<=99/\ (r.2.2.2.2.2.2=0->0<=r.2.1/\r.2.1<=500000/\0<=r.2.2.1/\r.2.2.1<=24/\0<=r.2.2.2.1/\r.2.2.2.1<=24)):=
 ti (λ_=>tw (ti (λ_=>ts) λ_=>ti (λ_=>tw (ti (λ_=>ts) λ_=>ts)) λ_=>ts)) λ_=>ti (λ_=>tw (ti (λ_=>ts) λ_=>ts)) λ_=>ts
theorem eP(a h:Int)(b g:UInt64)(f:UInt32)(k:Int)(hP:0<=a/\a<=24/\0<=h/\h<=24/\0<=k/\k<=500000):T (rE a h b g f k) (λr=>0<=r.2.2.2.2.2.2/\r.2.2.2.2.2.2<=99/\ (r.2.2.2.2.2.2=0->0<=r.2.1/\r.2.1<=500000/\0<=r.2.2.1/\r.2.2.1<=24/\0<=r.2.2.2.1/\r.2.2.2.1<=24)):=
 tb (XB _ _ _ _ _) λ⟨_,_⟩ _=>ti (λ_=>ti (λ_=>tw (ti (λ_=>tj (Iv _ _ _ _ _ _)) λ_=>ti (λ_=>tw (ti (λ_=>tj (Iv _ _ _ _ _ _)) λ_=>tj (Iv _ _ _ _ _ _))) λ_=>tj (Iv _ _ _ _ _ _))) λ_=>ti (λ_=>tw (ti (λ_=>tj (Iv _ _ _ _ _ _)) λ_=>tj (Iv _ _ _ _ _ _))) λ_=>tj (Iv _ _ _ _ _ _)) λ_=>tj (Iv _ _ _ _ _ _)
theorem yU(u:LB)(v p a h:Int)(b g:UInt64)(hP:True):T (IF u v p a h b g) (λr=>0<=r.2.2.2.2.2.2/\r.2.2.2.2.2.2<=99/\ (r.2.2.2.2.2.2=0->0<=r.2.1/\r.2.1<=500000/\0<=r.2.2.1/\r.2.2.1<=24/\0<=r.2.2.2.1/\r.2.2.2.1<=24)):=
 tb (Jr _ _) λ_ _=>ti (λ_=>ts) λ_=>tb (rD _ _ _ _) λ_ _=>ti (λ_=>ts) λ_=>tb (IQ _ _ _ _) λ⟨_,_⟩ _=>ti (λ_=>ts) λ_=>ti (λ_=>tb (IQ _ _ _ _) λ⟨_,_⟩ _=>ti (λ_=>ts) λ_=>tj (eP _ _ _ _ _ _)) λ_=>tb (xU _ _ _ _) λ⟨_,_,_⟩ _=>ti (λ_=>ts) λ_=>tw (ti (λ_=>ts) λ_=>tj (eP _ _ _ _ _ _))
end Go.Pl
set_option maxRecDepth 4000
set_option maxHeartbeats 400000
namespace Go.Pl
open Go Go.Lv
theorem Al9(a f:Int)(g:LB)(b:Int):∀(q:Nat) (k:Int) (h:Int) (m:List (Int×Int×UInt64×UInt64×Unit)) (n:LU),0<=h/\h<= (Cf f a)/\ (Cf f a)<h+q/\ (Cf f a)<=17179869184/\1<=a/\a<=6/\0<=Cf f a/\Cf f a<=24000/\Aa m=6/\Aa n=h/\0<=k/\k<=900000->T (Oh a f g b q k h m n) (λr=>0<=r.2.2/\r.2.2<=99/\Aa r.1<=24000/\ (r.2.2=0->Aa r.1=Cf f a)):=
 ind (λk h m n hI=>by exfalso;(try simp only[Aa]at *);omega) λq ih k h m n hI=>ti (λ_=>tb (Aeh _ _ _ _) λ⟨_,_,_⟩ _=>ti (λ_=>ts) λ_=>tw (tr λ_=>tr λ_=>tb (yU _ _ _ _ _ _ _) λ⟨_,_,_,_,_,_,_⟩ _=>ti (λ_=>ts) λ_=>tw (tr λ_=>tir (λ_ _=>ta (tj (ih _ _ _ _)))))) λ_=>ts
theorem Ald(a f:Int)(g:LB)(b:Int):∀(q:Nat) (u:Int) (p:List (Int×Int×UInt64×UInt64×Unit)),0<=u/\u<=6/\6<u+q/\1<=a/\a<=6/\0<=Cf f a/\Cf f a<=24000/\Aa p=6->T (Ou a f g b q u p) (λr=>0<=r.2.2/\r.2.2<=99/\Aa r.1<=24000/\ (r.2.2=0->Aa r.1=Cf f a)):=
 ind (λu p hI=>by exfalso;(try simp only[Aa]at *);omega) λq ih u p hI=>ti (λ_=>tb (sR) λ⟨_,_,_,_⟩ _=>tg λ_=>te (λ_ _=>tj (ih _ _))) λ_=>tj (Al9 _ _ _ _ Aq _ _ _ _)
theorem Ayi(a f:Int)(g:LB)(b:Int)(hP:1<=a/\a<=6/\0<=f/\f<=4000):T (AH a f g b) (λr=>0<=r.2.2/\r.2.2<=99/\Aa r.1<=24000/\ (r.2.2=0->Aa r.1=Cf f a)):=
 (by unfold AH AF MI;exact tf (zfa (f:=f) (a:=a)) λ_=>tj (Ald _ _ _ _ Aq _ _))
theorem uo(a:Int)(b:LX)(hP:Aa b=16):T (sT a b) (λr=>0<=r.2.2.2/\r.2.2.2<=99/\Aa r.2.1=16/\Aa r.2.2.1=16/\ (r.2.2.2=0->9<=r.1/\r.1<=10)):=
 ti (λ_=>ti (λ_=>ts) λ_=>ti (λ_=>ts) λ_=>ts) λ_=>ti (λ_=>ts) λ_=>ti (λ_=>ts) λ_=>ts
theorem A8(a:Int)(f:LX)(hP:Aa f=16):T (kB a f) (λr=>0<=r.2.2.2.2.2/\r.2.2.2.2.2<=99/\Aa r.2.2.2.1=16/\Aa r.2.2.2.2.1=16):=
 tb (uo _ _) λ⟨_,_,_,_⟩ _=>ti (λ_=>ts) λ_=>ts
theorem xN(a:UInt32)(hP:True):T (Yd a) (λ_=>True):=
 ts
theorem lQ(a:Int)(k:Int32)(b:Int)(f m:LX)(hP:Aa f=16):T (Xs a k b f m) (λr=>0<=r/\r<=99):=
 tb (uo _ _) λ⟨_,_,_,_⟩ _=>ti (λ_=>ts) λ_=>ts
theorem Axr(a:Int)(hP:True):T (eX a) (λr=>0<=r.2/\r.2<=99/\0<=r.1/\r.1<=5):=
 ti (λ_=>ts) λ_=>ti (λ_=>ti (λ_=>ts) λ_=>ts) λ_=>ti (λ_=>ts) λ_=>ts
theorem Azh(a:Int)(b:Int32)(hP:0<=a):T (cT a b) (λ_=>True):=
 tw (tw (ts))
theorem mL(b:Int)(f:Int32)(hP:True):T (Xu b f) (λr=>0<=r.2/\r.2<=99):=
 tb (Axr _) λ⟨_,_⟩ _=>ti (λ_=>ts) λ_=>tb (Azh _ _) λ_ _=>ts
theorem YQ(a:Int)(b f:LX)(hP:True):T (DB a b f) (λr=>0<=r/\r<=99/\ (r=0->9<=a/\a<=10)):=
 ti (λ_=>ts) λ_=>ts
theorem Ab8(b:LX)(a:Int)(f:LX):∀(q:Nat) (h:Int32) (g:Int),0<=g/\g<=16/\16<g+q/\9<=a/\a<=10/\Aa b=16/\Aa f=16->T (EK b a f q h g) (λr=>0<=r.2/\r.2<=99):=
 ind (λh g hI=>by exfalso;(try simp only[Aa]at *);omega) λq ih h g hI=>ti (λ_=>tg λ_=>tg λ_=>tg λ_=>tj (ih _ _)) λ_=>tw (ts)
theorem tM(a:Int)(b f:LX)(hP:Aa b=16/\Aa f=16):T (XU a b f) (λr=>0<=r.2/\r.2<=99):=
 tb (YQ _ _ _) λ_ _=>ti (λ_=>ts) λ_=>tw (tj (Ab8 _ _ _ Aq _ _))
theorem B6(a:Int)(hP:True):T (jH a) (λ_=>True):=
 ti (λ_=>ts) λ_=>ti (λ_=>ts) λ_=>ts
theorem Acn(h:Int32)(f:LX)(g:Int):∀(q:Nat) (a:Int) (b:LX),0<=a/\a<=16/\16<a+q/\Aa b=16/\Aa f=16->T (EC h f g q a b) (λr=>0<=r.2.2.2/\r.2.2.2<=99/\Aa r.2.1=16/\Aa r.2.2.1=16):=
 ind (λa b hI=>by exfalso;(try simp only[Aa]at *);omega) λq ih a b hI=>ti (λ_=>tg λ_=>ti (λ_=>tj (ih _ _)) λ_=>ti (λ_=>tg λ_=>tg λ_=>tb (B6 _) λ_ _=>tg λ_=>te (λ_ _=>tj (ih _ _))) λ_=>tg λ_=>tg λ_=>tb (B6 _) λ_ _=>tg λ_=>te (λ_ _=>tj (ih _ _))) λ_=>ts
theorem Acl(g:Int)(k f:LX)(h:Int32)(hP:Aa k=16/\Aa f=16):T (pG g k f h) (λr=>0<=r.2.2.2/\r.2.2.2<=99/\Aa r.2.1=16/\Aa r.2.2.1=16):=
 tb (YQ _ _ _) λ_ _=>ti (λ_=>ts) λ_=>ti (λ_=>ts) λ_=>tj (Acn _ _ _ Aq _ _)
theorem xk(b:Int)(f a:LX)(g:Int32)(hP:Aa f=16/\Aa a=16):T (yQ b f a g) (λr=>0<=r.2.2.2/\r.2.2.2<=99/\Aa r.2.1=16/\Aa r.2.2.1=16):=
 tb (YQ _ _ _) λ_ _=>ti (λ_=>ts) λ_=>tv (tv (tg λ_=>te (λ_ _=>ts)))
theorem qE(a:Int)(b f:LX)(g h:Int32)(hP:Aa b=16/\Aa f=16):T (XA a b f g h) (λr=>Aa r.2.1=16/\Aa r.2.2=16):=
 tb (Acl _ _ _ _) λ⟨_,_,_,_⟩ _=>tb (xk _ _ _ _) λ⟨_,_,_,_⟩ _=>ts
theorem za(b:Int)(f g:LX)(a:Int32)(hP:Aa f=16/\Aa g=16):T (uB b f g a) (λr=>0<=r.2.2.2.2/\r.2.2.2.2<=99/\Aa r.2.2.1=16/\Aa r.2.2.2.1=16):=
 tb (tM _ _ _) λ⟨_,_⟩ _=>ti (λ_=>ts) λ_=>tb (qE _ _ _ _ _) λ⟨_,_,_⟩ _=>ts
theorem Ajf(a:Int)(b:Int32)(f:Int)(g h:LX)(o:Int32)(hP:Aa g=16/\Aa h=16):T (La a b f g h o) (λr=>0<=r.2.2.2.2.2.2/\r.2.2.2.2.2.2<=99/\Aa r.2.2.2.2.1=16/\Aa r.2.2.2.2.2.1=16):=
 tb (lQ _ _ _ _ _) λ_ _=>ti (λ_=>ts) λ_=>tb (mL _ _) λ⟨_,_⟩ _=>tb (za _ _ _ _) λ⟨_,_,_,_,_⟩ _=>ts
theorem C3(a:Int)(b:LX)(hP:True):T (jS a b) (λr=>0<=r/\r<=99/\ (r=0->1<=a/\a<=6/\Aa b<=4000/\Jh (Aa b) a=0)):=
 ti (λ_=>ts) λ_=>ti (λ_=>ts) λ_=>tw (ti (λ_=>ts) λ_=>ts)
theorem Sg(a:LX)(hP:Aa a<=17179869184):T (Cg a) (λr=>Aa r=Aa a):=
 ta (ts)
theorem iC{N12:Nat}{k:LX}{Oa:Int->LX->Ep}(b a:Int)(hb:∀(a:Int) (f:LX),1<=b/\b<=6/\Aa f<=4000/\0<=a/\a<=Aa f/\Aa f<a+N12/\Aa f %b=0/\a %b=0/\Aa f=Aa k->T (Oa a f) (λr=>0<=r.2/\r.2<=99/\Aa r.1<=4000/\ (r.2=0->Aa r.1=Aa k))):∀(q:Nat) (g:Int) (h:LX),1<=b/\b<=6/\Aa h<=4000/\0<=a/\a+b<=Aa h/\Aa h<a+(N12+1)/\Aa h %b=0/\a %b=0/\g+1<b/\ -3<=g/\g+4<q/\Aa h=Aa k->T (HZ Oa b a q g h) (λr=>0<=r.2/\r.2<=99/\Aa r.1<=4000/\ (r.2=0->Aa r.1=Aa k)):=
 ind (λg h hI=>by exfalso;(try simp only[Aa]at *);omega) λq ih g h hI=>by
  rcases(show b=1\/b=2\/b=3\/b=4\/b=5\/b=6 by omega)with rfl|rfl|rfl|rfl|rfl|rfl<;>exact ti (λ_=>tw (tw (tg λ_=>tg λ_=>tw (te (λ_ _=>tj (ih _ _)))))) λ_=>tj (hb _ _)
theorem Ak4{k:LX}(b:Int):∀(q:Nat) (a:Int) (f:LX),1<=b/\b<=6/\Aa f<=4000/\0<=a/\a<=Aa f/\Aa f<a+q/\Aa f %b=0/\a %b=0/\Aa f=Aa k->T (HV b q a f) (λr=>0<=r.2/\r.2<=99/\Aa r.1<=4000/\ (r.2=0->Aa r.1=Aa k)):=
 ind (λa f hI=>by exfalso;(try simp only[Aa]at *);omega) λq ih a f hI=>by
  rcases(show b=1\/b=2\/b=3\/b=4\/b=5\/b=6 by omega)with rfl|rfl|rfl|rfl|rfl|rfl<;>exact ti (λ_=>tv (ti (λ_=>tw (tw (tg λ_=>tg λ_=>tw (te (λ_ _=>tj (iC _ _ ih Aq _ _)))))) λ_=>tj (iC _ _ ih Aq _ _))) λ_=>ts
theorem Aet(b:Int)(k:LX)(hP:True):T (X4 b k) (λr=>0<=r.2/\r.2<=99/\Aa r.1<=4000/\ (r.2=0->Aa r.1=Aa k)):=
 tb (C3 _ _) λ_ _=>ti (λ_=>ts) λ_=>tb (Sg _) λ_ _=>tj (Ak4 _ Aq _ _)
theorem Ayh{m:Int}(b f:Int32)(a:LX):∀(q:Nat) (g:Int),0<=g/\g<= (Aa a)/\ (Aa a)<g+q/\ (Aa a)<=17179869184/\Aa a<=4000/\8<=m/\m<=24/\m %8=0->T (Zj b f a q g) (λr=>0<=r/\r<=99/\ (r=0->Aa a<=4000/\8<=m/\m<=24/\m %8=0)):=
 ind (λg hI=>by exfalso;(try simp only[Aa]at *);omega) λq ih g hI=>ti (λ_=>tg λ_=>ti (λ_=>ts) λ_=>tj (ih _)) λ_=>ts
theorem Vi(m:Int)(a:LX)(hP:True):T (Rm m a) (λr=>0<=r/\r<=99/\ (r=0->Aa a<=4000/\8<=m/\m<=24/\m %8=0)):=
 tb (PK _) λ⟨_,_,_⟩ _=>ti (λ_=>ts) λ_=>ti (λ_=>ts) λ_=>tj (Ayh _ _ _ Aq _)
theorem Akw(f:LU)(a b:Int):∀(q:Nat) (g:Int) (h:List (Int×Int32×(Int×LX×LX×Unit)×Unit)) (k:LX),0<=g/\g<= (Aa f)/\ (Aa f)<g+q/\ (Aa f)<=17179869184/\1<=a/\a<=6/\Aa f<=24000/\Aa h=6/\Dq Ty h/\Aa k=g->T (Mt f a b q g h k) (λr=>0<=r.2/\r.2<=99/\Aa r.1<=4000/\ (r.2=0->Aa r.1=Aa f)):=
 ind (λg h k hI=>by exfalso;(try simp only[Aa]at *);omega) λq ih g h k hI=>ti (λ_=>tg λ_=>tw (tAr (p:=Ty) λ_ _=>tAr (p:=Ty) λ_ _=>tb (xN _) λ_ _=>tb (Ajf _ _ _ _ _ _) λ⟨_,_,_,_,_,_,_⟩ _=>ti (λ_=>ts) λ_=>tSr (p:=Ty) (λ_ _=>ta (tj (ih _ _ _))))) λ_=>tb (Aet _ _) λ⟨_,_⟩ _=>ti (λ_=>ts) λ_=>tb (Vi _ _) λ_ _=>ti (λ_=>ts) λ_=>ts
theorem Akt(f:LU)(a b:Int)(o:LX):∀(q:Nat) (p:Int) (n:List (Int×Int32×(Int×LX×LX×Unit)×Unit)),0<=p/\p<=6/\6<p+q/\1<=a/\a<=6/\Aa o=16/\Aa f<=24000/\Aa n=6/\Dq Ty n->T (Mw f a b o q p n) (λr=>0<=r.2/\r.2<=99/\Aa r.1<=4000/\ (r.2=0->Aa r.1=Aa f)):=
 ind (λp n hI=>by exfalso;(try simp only[Aa]at *);omega) λq ih p n hI=>ti (λ_=>tb (A8 _ _) λ⟨_,_,_,_,_,_⟩ _=>tA (p:=Ty) λ_ _=>tS (p:=Ty) (λ_ _=>tj (ih _ _))) λ_=>tj (Akw _ _ _ Aq _ _ _)
theorem Asd(a b:Int)(o:LX)(f:LU)(hP:1<=a/\a<=6/\Aa o=16/\Aa f<=24000):T (Vz a b o f) (λr=>0<=r.2/\r.2<=99/\Aa r.1<=4000/\ (r.2=0->Aa r.1=Aa f)):=
 (by unfold Vz Wv GY;exact tj (Akt _ _ _ _ Aq _ _))
theorem Nz(a h:Int)(u:LX)(f:Int)(v:LB)(hP:Aa u=16):T (Ko a h u f v) (λr=>0<=r.2/\r.2<=99/\Aa r.1<=4000/\ (r.2=0->Aa r.1=Cf f a/\1<=f/\f<=4000)):=
 tf (zq4 a) λ_=>tb (Pu _ _) λ_ _=>ti (λ_=>ts) λ_=>ti (λ_=>ts) λ_=>tw (ti (λ_=>ts) λ_=>tb (Axa _) λ⟨_,_⟩ _=>ti (λ_=>ts) λ_=>tb (Ai3 _) λ⟨_,_,_⟩ _=>ti (λ_=>ts) λ_=>tb (Ayi _ _ _ _) λ⟨_,_,_⟩ _=>ti (λ_=>ts) λ_=>ti (λ_=>ts) λ_=>tb (IQ _ _ _ _) λ⟨_,_⟩ _=>ti (λ_=>ts) λ_=>tb (Asd _ _ _ _) λ⟨_,_⟩ _=>ts)
theorem Aap(a:LB)(hP:Aa a<=100000/\32<=Aa a):T (zA a) (λr=>0<=r.2/\r.2<=99/\0<=r.1/\r.1<=Aa a):=
 tc λ_ _=>tb (fP _ _) λ⟨_,_,_⟩ _=>ti (λ_=>ti (λ_=>ts) λ_=>ts) λ_=>tc λ_ _=>tb (fP _ _) λ⟨_,_,_⟩ _=>ti (λ_=>ts) λ_=>ti (λ_=>ts) λ_=>tc λ_ _=>tb (uZ _ _ _) λ_ _=>tb (Jy _ _) λ_ _=>ti (λ_=>ts) λ_=>ts
theorem zl(a:LB)(hP:Aa a<=100000):T (U2 a) (λr=>0<=r.2/\r.2<=99/\0<=r.1/\r.1<=Aa a):=
 ti (λ_=>ts) λ_=>tc λ_ _=>tb (Yx _ _) λ_ _=>ti (λ_=>ts) λ_=>tj (Aap _)
theorem As3:∀(q:Nat) (a:Int) (b:LB),Aa b<=4000/\0<=a/\a+Aa b<=4000/\Aa b<q->T (Vu q a b) (λr=>0<=r.2/\r.2<=99):=
 ind (λa b hI=>by exfalso;(try simp only[Aa]at *);omega) λq ih a b hI=>ti (λ_=>tb (zl _) λ⟨_,_⟩ _=>ti (λ_=>ts) λ_=>tc λ_ _=>tj (ih _ _)) λ_=>ts
theorem LJ(h:LB)(hP:True):T (Td h) (λr=>0<=r.2/\r.2<=99):=
 ti (λ_=>ts) λ_=>tj (As3 Aq _ _)
theorem Awq(a:LB)(w:LI)(m f g h o p n b ab ae:Int)(ac:LX)(k:LI):∀(q:Nat) (y:Int) (aa:Int) (ad:LX),0<=aa/\aa<= (Aa w)/\ (Aa w)<aa+q/\ (Aa w)<=17179869184/\Aa a<=100000/\Aa w=Aa k/\Aa k<=1000/\Dq (Rg 5 100000) w/\0<=y/\y<=Aa a/\Aa ac=16/\Aa ad<=4000*aa->T (Zt a w m f g h o p n b ab ae ac k q y aa ad) (λr=>0<=r.2.2.2.2/\r.2.2.2.2<=99/\Aa r.2.2.2.1<=4000000):=
 ind (λy aa ad hI=>by exfalso;(try simp only[Aa]at *);omega) λq ih y aa ad hI=>ti (λ_=>tA (p:=Rg 5 100000) λ_ _=>tA (p:=Rg 5 100000) λ_ _=>ti (λ_=>ts) λ_=>tg λ_=>tc λ_ _=>tg λ_=>tb (Nz _ _ _ _ _) λ⟨_,_⟩ _=>ti (λ_=>ts) λ_=>ta (tj (ih _ _ _))) λ_=>tc λ_ _=>tb (LJ _) λ⟨_,_⟩ _=>ti (λ_=>ts) λ_=>ts
theorem CU(a u:LB)(m f g h o p n b:Int)(k:LI)(ao ab ae:Int)(w:LI)(hP:Aa a<=100000/\0<=ao/\ao<=99/\Aa k<=1000/\ (ao=0->Aa w=Aa k/\0<=ab/\ab<=Aa a)/\Dq (Rg 5 100000) w):T (Zu a u m f g h o p n b k ao ab ae w) (λr=>0<=r.2.2.2.2/\r.2.2.2.2<=99/\Aa r.2.2.2.1<=4000000):=
 ti (λ_=>ts) λ_=>tb (Rz _) λ⟨_,_⟩ _=>tj (Awq _ _ _ _ _ _ _ _ _ _ _ _ _ _ Aq _ _ _)
theorem Axp(v:LI)(a u:LB)(m f g h o p n b:Int)(k:LI):∀(q:Nat) (ag:Int) (af:Int),0<=ag/\ag<= (Aa v)/\ (Aa v)<ag+q/\ (Aa v)<=17179869184/\Aa a<=100000/\0<=b/\b+4*Aa v+4<=Aa a/\Aa v=Aa k/\Aa k<=1000/\Dq (Rg 5 100000) v->T (Za v a u m f g h o p n b k q ag af) (λr=>0<=r.2.2.2.2/\r.2.2.2.2<=99/\Aa r.2.2.2.1<=4000000):=
 ind (λag af hI=>by exfalso;(try simp only[Aa]at *);omega) λq ih ag af hI=>ti (λ_=>tg λ_=>tg λ_=>tj (ih _ _)) λ_=>(by unfold eE JB;exact tj (CU _ _ _ _ _ _ _ _ _ _ _ _ _ _ _))
theorem Ng(a u:LB)(m f g h o p n b ah ai:Int)(k:LI)(am:Int)(hP:Aa a<=100000/\0<=b/\b<=100030/\Aa k<=1000/\0<=am/\am<=99):T (JG a u m f g h o p n b ah ai k am) (λr=>0<=r.2.2.2.2/\r.2.2.2.2<=99/\Aa r.2.2.2.1<=4000000):=
 ti (λ_=>ts) λ_=>ti (λ_=>tj (CU _ _ _ _ _ _ _ _ _ _ _ _ _ _ _)) λ_=>tc λ_ _=>tb (BB _ _) λ⟨_,_⟩ _=>ti (λ_=>tj (CU _ _ _ _ _ _ _ _ _ _ _ _ _ _ _)) λ_=>tj (Axp _ _ _ _ _ _ _ _ _ _ _ _ Aq _ _)
theorem qO(a u:LB)(hP:True):T (YD a u) (λr=>0<=r.2.2.2.2/\r.2.2.2.2<=99/\Aa r.2.2.2.1<=4000000):=
 ti (λ_=>ts) λ_=>tb (lZ _) λ⟨_,_,_,_,_,_,_,_,_,_,_,_⟩ _=>ti (λ_=>ts) λ_=>ti (λ_=>tj (Ng _ _ _ _ _ _ _ _ _ _ _ _ _ _)) λ_=>ti (λ_=>tj (Ng _ _ _ _ _ _ _ _ _ _ _ _ _ _)) λ_=>ti (λ_=>tj (Ng _ _ _ _ _ _ _ _ _ _ _ _ _ _)) λ_=>tc λ_ _=>tb (AQ _ _) λ⟨_,_⟩ _=>ti (λ_=>tj (Ng _ _ _ _ _ _ _ _ _ _ _ _ _ _)) λ_=>tj (Ng _ _ _ _ _ _ _ _ _ _ _ _ _ _)
theorem mA(a b:LB)(hP:True):T (OP a b) (λr=>0<=r/\r<=99):=
 tb (qO _ _) λ⟨_,_,_,_,_⟩ _=>ts
end Go.Pl
set_option maxRecDepth 4000
set_option maxHeartbeats 400000
namespace Go.Pl
open Go Go.Lv
variable{zn:Int}{l:LI}
theorem Adk(a n:LB)(b:Int)(hP:True):T (ZB a n b) (λ_=>True):=
 ti (λ_=>ts) λ_=>tb (Pz _) λ⟨_,_⟩ _=>ti (λ_=>ts) λ_=>tc λ_ _=>tb (Py _) λ⟨_,_,_,_,_,_⟩ _=>ti (λ_=>ts) λ_=>ti (λ_=>ti (λ_=>ts) λ_=>ts) λ_=>ti (λ_=>ts) λ_=>ts
def Mon(l:LI):Prop:=∀(i:Nat) (x y:Int),l[i]? =some x->l[i+1]? =some y->0<=x/\x<=y/\y<=100000000
theorem Ap1{g h:Int}{n:Nat}(hn:l.length=n+1)(hm:Mon l)(hl:l[n]? =some g)(h0:0<=g)(hh:0<=h)(hb:g+h<=100000000):Mon (l++[g+h])/\ (l++[g+h])[n+1]? =some (g+h):=by
  refine⟨λi x y hx hy=>?_,by rw[H0 F3,hn,Nat.sub_self];rfl⟩;by_cases hi:i+1<l.length
  · rw[F_ F3]at hx hy
    exact hm i x y hx hy
  · have hi2:i+1<(l++[g+h]).length:=by
      rcases I7 (i+1) (l++[g+h]).length with hlt|hge
      · exact hlt
      · rw[K7 hge]at hy;cases hy
    rw[B_,I3]at hi2;have:i=n:=F3
    subst this;rw[F_ F3,hl]at hx;rw[H0 F3,hn,Nat.sub_self]at hy;obtain rfl:=G6 hx;obtain rfl:=G6 (show some (g+h)=some y from hy);exact⟨h0,F3,hb⟩
theorem qT{a x y:Int}(hm:Mon l)(h0:0<=a/\a<=1000000)(hx:Af l a=some x)(hy:Af l (Ae a 1)=some y):0<=x/\x<=y/\y<=100000000:=by
  rw[Hn]at hy;unfold Af at hx hy;rw[B! h0.1]at hx;rw[B! F3,show(a+1).toNat=a.toNat+1 by omega]at hy;exact hm _ _ _ hx hy
theorem Aql(a:LI)(hA:Dq (Rg 5 100000) a)(hl:Aa a<=1000):∀(q:Nat) (b g:Int) (f:LI),0<=b/\b<=Aa a/\Aa a<b+q/\Aa f=b+1/\Mon f/\f[b.toNat]? =some g/\0<=g/\g<=100000*b->T (Tt a q b g f) (λr=>0<=r.2/\r.2<=99/\ (r.2=0->Aa r.1=Aa a+1/\Mon r.1)):=
 ind (λb g f hI=>by exfalso;omega) λq ih b g f hI=>ti (λh1=>tA (λh hh=>ta (by
  have hh:5<=h/\h<=100000:=hh;have h2:b<Aa a:=by simp only[Qe,zi,FL]at h1;exact h1
  have hn:f.length=b.toNat+1:=by have:=hI.2.2.2.1;unfold Aa at this;omega
  have k:=Ap1 (h:=h) hn hI.2.2.2.2.1 hI.2.2.2.2.2.1 F3 F3 F3;rw[Hn (show -9223372036854775808<=g+h by omega)];unfold DD TX;rw[Hn (show -9223372036854775808<=b+1 by omega),Hn (show -9223372036854775808<=g+h by omega)];refine ih _ _ _ ⟨F3,F3,F3,?_,k.1,?_,F3,F3⟩
  · unfold Aa;rw[B_,I3,hn];omega
  · rw[show(b+1).toNat=b.toNat+1 by omega];exact k.2)) hA) λh1=>⟨_,rfl,H3 _,(show(0:Int)<=99 by decide),λ_=>by
  have h2:¬b<Aa a:=by simp only[Qe,zi,G?]at h1;exact h1
  exact⟨by show Aa f=_;omega,hI.2.2.2.2.1⟩⟩
theorem aO(a:LI)(hP:True):T (EP a) (λr=>0<=r.2/\r.2<=99/\ (r.2=0->Aa r.1=Aa a+1/\Mon r.1)):=
 tb (Vg _) λm hm=>ti (λh=>⟨_,rfl,hm.1,hm.2.1,λh0=>by rw[show m=0 from h0]at h;exact absurd h F5⟩) λh=>by
  have h0:m=0:=by simp only[Tx,zi,G?,D!,Decidable.not_not]at h;exact h
  have k:=hm.2.2 h0;refine Aql a k.2 k.1 Aq 0 0 [0] ⟨H3 _,by unfold Aa;omega,by have:=Cy;omega,rfl,λi x y hx hy=>?_,rfl,H3 _,F5⟩;cases hy
theorem OV{N16:Nat}{Ff:Int->LB->Cv}(b:Int)(a:LX)(k:Int32)(f:Int)(hb:∀(f:Int) (g:LB),0<=f/\f<= (Aa a)/\ (Aa a)<f+N16/\ (Aa a)<=17179869184/\Aa a<=4000/\ (b=8/\Aa g=f\/b=16/\Aa g=2*f\/b=24/\Aa g=3*f)->T (Ff f g) (λr=>0<=r.2/\r.2<=99/\Aa r.1<=12000/\ (r.2=0-> (b=8/\Aa r.1=Aa a\/b=16/\Aa r.1=2*Aa a\/b=24/\Aa r.1=3*Aa a)))):∀(q:Nat) (m:Int) (h:LB),0<=m/\3<m+q/\Aa a<=4000/\ (b=8/\Aa h=f+m/\m<=1\/b=16/\Aa h=2*f+m/\m<=2\/b=24/\Aa h=3*f+m/\m<=3)/\0<=f/\f<Aa a/\Aa a<f+(N16+1)->T (Wf Ff b a k f q m h) (λr=>0<=r.2/\r.2<=99/\Aa r.1<=12000/\ (r.2=0-> (b=8/\Aa r.1=Aa a\/b=16/\Aa r.1=2*Aa a\/b=24/\Aa r.1=3*Aa a))):=
 ind (λm h hI=>by exfalso;(try simp only[Aa]at *);omega) λq ih m h hI=>ti (λ_=>tw (ta (tj (ih _ _)))) λ_=>tj (hb _ _)
theorem Au0(b:Int)(a:LX):∀(q:Nat) (f:Int) (g:LB),0<=f/\f<= (Aa a)/\ (Aa a)<f+q/\ (Aa a)<=17179869184/\Aa a<=4000/\ (b=8/\Aa g=f\/b=16/\Aa g=2*f\/b=24/\Aa g=3*f)->T (Wg b a q f g) (λr=>0<=r.2/\r.2<=99/\Aa r.1<=12000/\ (r.2=0-> (b=8/\Aa r.1=Aa a\/b=16/\Aa r.1=2*Aa a\/b=24/\Aa r.1=3*Aa a))):=
 ind (λf g hI=>by exfalso;(try simp only[Aa]at *);omega) λq ih f g hI=>ti (λ_=>tg λ_=>ti (λ_=>tj (OV _ _ _ _ ih Aq _ _)) λ_=>tj (OV _ _ _ _ ih Aq _ _)) λ_=>ts
theorem Qd(b:Int)(a:LX)(hP:True):T (Kh b a) (λr=>0<=r.2/\r.2<=99/\Aa r.1<=12000/\ (r.2=0-> (b=8/\Aa r.1=Aa a\/b=16/\Aa r.1=2*Aa a\/b=24/\Aa r.1=3*Aa a))):=
 tb (Vi _ _) λ_ _=>ti (λ_=>ts) λ_=>tj (Au0 _ _ Aq _ _)
theorem Au3(w a m g:Int)(aa:LX)(n o p h:Int)(k:LB)(u:LX)(v b f:LI)(hP:0<=w/\w<=99):T (ZW w a m g aa n o p h k u v b f) (λr=>0<=r.2/\r.2<=99/\Aa r.1<=12000):=
 ti (λ_=>ts) λ_=>tb (Qd _ _) λ⟨_,_⟩ _=>ts
theorem Aux(a:Int)(f:LI)(n m g o p h:Int)(k:LB)(u:LX)(v b:LI)(hP:Aa k<=100000/\0<=h/\h<=110000/\Aa u=16/\Aa b=Aa f+1/\Aa f<=1000)(hM:Mon b):T (ZT a f n m g o p h k u v b) (λr=>0<=r.2/\r.2<=99/\Aa r.1<=12000):=
 ti (λ_=>ts) λ_=>tg λ_=>tg λ_=>tE λ_ e3=>tE λ_ e4=>tf (λh0=>qT hM h0 e3 e4) λ_=>ti (λ_=>ts) λ_=>tg λ_=>tc λ_ _=>tg λ_=>tb (Nz _ _ _ _ _) λ⟨_,_⟩ _=>tj (Au3 _ _ _ _ _ _ _ _ _ _ _ _ _ _)
theorem Qx(a ac:Int)(hP:0<=ac/\ac<=99):T (bC a ac) (λr=>0<=r.2/\r.2<=99/\Aa r.1<=12000):=ti (λ_=>ts) λ_=>ti (λ_=>ts) λ_=>tn
theorem Zl(k ad:LB)(a:Int)(hP:True):T (Oz k ad a) (λr=>0<=r.2/\r.2<=99/\Aa r.1<=12000):=
 tb (Iq _ _) λ⟨n,m,g,o,p,h,v,ae⟩ h1=>ti (λ_=>tj (Qx _ _)) λ_=>tb (Db _ _ _ _ _) λ⟨f,af⟩ h2=>ti (λ_=>tj (Qx _ _)) λ_=>tb (aO _) λ⟨b,ag⟩ h3=>ti (λ_=>tj (Qx _ _)) λh4=>tb (Rz _) λ⟨u,ah⟩ _=>ti (λ_=>tj (Qx _ _)) λ_=>tg λ_=>tg λ_=>tj (λhP=>Aux _ _ _ _ _ _ _ _ _ _ _ _ hP (h3.2.2 (by simp only[Tx,zi,G?,D!,Decidable.not_not]at h4;exact h4)).2)
theorem Avn(m f a b g h:Int)(k:LI):∀(q:Nat) (n:Int) (o:Int),0<=o/\o<=m/\m<o+q/\m<=17179869184/\m<=Aa k/\Aa k<=1000->T (AN m f a b g h k q n o) (λr=>0<=r.2/\r.2<=99/\ -9223372036854775808<=r.1/\r.1<=9223372036854775807):=
 ind (λn o hI=>by exfalso;(try simp only[Aa]at *);omega) λq ih n o hI=>ti (λ_=>tg λ_=>tg λ_=>tj (ih _ _)) λ_=>ts
theorem mH(f a b g h m:Int)(hP:0<=m):T (OR f a b g h m) (λr=>0<=r.2/\r.2<=99/\ -9223372036854775808<=r.1/\r.1<=9223372036854775807):=
 tb (Db _ _ _ _ _) λ⟨_,_⟩ _=>ti (λ_=>ts) λ_=>tj (Avn _ _ _ _ _ _ _ Aq _ _)
theorem DT(b f g h k m o:Int)(a:LI)(y:Int)(aa:UInt8)(ab:Int)(hP:0<=y/\y<=1000/\0<=ab/\ab<=1000/\0<=b/\b<=99):T (KN b f g h k m o a y aa ab) (λr=>0<=r.2.2.2.2/\r.2.2.2.2<=99/\0<=r.1/\r.1<=99/\0<=r.2.2.1/\r.2.2.1<=1000/\ -9223372036854775808<=r.2.2.2.1/\r.2.2.2.1<=9223372036854775807):=
 tb (mH _ _ _ _ _ _) λ⟨_,_⟩ _=>ts
theorem TS(p n:LB)(a:LI)(b:Int)(u:UInt8)(f g h k m o:Int):∀(q:Nat) (v:Int),0<=v/\v<= (Aa a)/\ (Aa a)<v+q/\ (Aa a)<=17179869184/\Aa a<=1000/\0<=b/\b<=99->T (BY p n a b u f g h k m o q v) (λr=>0<=r.2.2.2.2/\r.2.2.2.2<=99/\0<=r.1/\r.1<=99/\0<=r.2.2.1/\r.2.2.1<=1000/\ -9223372036854775808<=r.2.2.2.1/\r.2.2.2.1<=9223372036854775807):=
 ind (λv hI=>by exfalso;(try simp only[Aa]at *);omega) λq ih v hI=>ti (λ_=>ti (λ_=>tj (DT _ _ _ _ _ _ _ _ _ _ _)) λ_=>tb (Zl _ _ _) λ⟨_,_⟩ _=>ti (λ_=>tj (DT _ _ _ _ _ _ _ _ _ _ _)) λ_=>tj (ih _)) λ_=>tj (DT _ _ _ _ _ _ _ _ _ _ _)
theorem mO(p n:LB)(hP:True):T (EV p n) (λr=>0<=r.2.2.2.2/\r.2.2.2.2<=99/\0<=r.1/\r.1<=99/\0<=r.2.2.1/\r.2.2.1<=1000/\ -9223372036854775808<=r.2.2.2.1/\r.2.2.2.1<=9223372036854775807):=
 ti (λ_=>ts) λ_=>tb (mA _ _) λ_ _=>tb (Iq _ _) λ⟨_,_,_,_,_,_,_,_⟩ _=>ti (λ_=>tb (Adk _ _ _) λ_ _=>ts) λ_=>ti (λ_=>(by unfold KL AL;exact tj (TS _ _ _ _ _ _ _ _ _ _ _ Aq _))) λ_=>(by unfold KL AL;exact tj (TS _ _ _ _ _ _ _ _ _ _ _ Aq _))
theorem Aey(a b:LB)(hP:True):T (rM a b) (λr=>0<=r.2.2.2.2.2.2.2.2.2.2.2/\r.2.2.2.2.2.2.2.2.2.2.2<=99/\ -9223372036854775808<=r.1/\r.1<=9223372036854775807/\ -9223372036854775808<=r.2.1/\r.2.1<=9223372036854775807/\ -9223372036854775808<=r.2.2.1/\r.2.2.1<=9223372036854775807/\ -9223372036854775808<=r.2.2.2.1/\r.2.2.2.1<=9223372036854775807/\ -9223372036854775808<=r.2.2.2.2.1/\r.2.2.2.2.1<=9223372036854775807/\ -9223372036854775808<=r.2.2.2.2.2.1/\r.2.2.2.2.2.1<=9223372036854775807/\ -9223372036854775808<=r.2.2.2.2.2.2.2.1/\r.2.2.2.2.2.2.2.1<=9223372036854775807/\ -9223372036854775808<=r.2.2.2.2.2.2.2.2.2.1/\r.2.2.2.2.2.2.2.2.2.1<=9223372036854775807/\ -9223372036854775808<=r.2.2.2.2.2.2.2.2.2.2.1/\r.2.2.2.2.2.2.2.2.2.2.1<=9223372036854775807/\Aa r.2.2.2.2.2.2.1<=1000/\Dq (Rg 5 100000) r.2.2.2.2.2.2.1):=
 tb (Iq _ _) λ⟨_,_,_,_,_,_,_,_⟩ _=>ti (λ_=>ts) λ_=>tb (mO _ _) λ⟨_,_,_,_,_⟩ _=>ti (λ_=>ts) λ_=>ts
theorem Adm(n o p u v k:Int)(m:LI)(a:Int)(h:UInt8)(b g:Int)(hP:True):T (PF n o p u v k m a h b g) (λr=>0<=r/\r<=99):=
 tb (Db _ _ _ _ _) λ⟨_,_⟩ _=>ti (λ_=>ti (λ_=>ts) λ_=>ti (λ_=>ti (λ_=>ts) λ_=>ti (λ_=>ti (λ_=>ts) λ_=>ts) λ_=>ti (λ_=>ti (λ_=>ts) λ_=>ts) λ_=>ti (λ_=>ti (λ_=>ts) λ_=>ts) λ_=>ti (λ_=>ti (λ_=>ts) λ_=>ts) λ_=>ti (λ_=>ti (λ_=>ts) λ_=>ts) λ_=>ti (λ_=>ti (λ_=>ts) λ_=>ts) λ_=>ti (λ_=>ts) λ_=>ts) λ_=>ti (λ_=>ts) λ_=>ti (λ_=>ti (λ_=>ts) λ_=>ts) λ_=>ti (λ_=>ti (λ_=>ts) λ_=>ts) λ_=>ti (λ_=>ti (λ_=>ts) λ_=>ts) λ_=>ti (λ_=>ti (λ_=>ts) λ_=>ts) λ_=>ti (λ_=>ti (λ_=>ts) λ_=>ts) λ_=>ti (λ_=>ti (λ_=>ts) λ_=>ts) λ_=>ti (λ_=>ts) λ_=>ts) λ_=>tb (Vg _) λ_ _=>ti (λ_=>ti (λ_=>ts) λ_=>ti (λ_=>ti (λ_=>ts) λ_=>ti (λ_=>ti (λ_=>ts) λ_=>ts) λ_=>ti (λ_=>ti (λ_=>ts) λ_=>ts) λ_=>ti (λ_=>ti (λ_=>ts) λ_=>ts) λ_=>ti (λ_=>ti (λ_=>ts) λ_=>ts) λ_=>ti (λ_=>ti (λ_=>ts) λ_=>ts) λ_=>ti (λ_=>ti (λ_=>ts) λ_=>ts) λ_=>ti (λ_=>ts) λ_=>ts) λ_=>ti (λ_=>ts) λ_=>ti (λ_=>ti (λ_=>ts) λ_=>ts) λ_=>ti (λ_=>ti (λ_=>ts) λ_=>ts) λ_=>ti (λ_=>ti (λ_=>ts) λ_=>ts) λ_=>ti (λ_=>ti (λ_=>ts) λ_=>ts) λ_=>ti (λ_=>ti (λ_=>ts) λ_=>ts) λ_=>ti (λ_=>ti (λ_=>ts) λ_=>ts) λ_=>ti (λ_=>ts) λ_=>ts) λ_=>ti (λ_=>ts) λ_=>ti (λ_=>ti (λ_=>ts) λ_=>ti (λ_=>ti (λ_=>ts) λ_=>ts) λ_=>ti (λ_=>ti (λ_=>ts) λ_=>ts) λ_=>ti (λ_=>ti (λ_=>ts) λ_=>ts) λ_=>ti (λ_=>ti (λ_=>ts) λ_=>ts) λ_=>ti (λ_=>ti (λ_=>ts) λ_=>ts) λ_=>ti (λ_=>ti (λ_=>ts) λ_=>ts) λ_=>ti (λ_=>ts) λ_=>ts) λ_=>ti (λ_=>ts) λ_=>ti (λ_=>ti (λ_=>ts) λ_=>ts) λ_=>ti (λ_=>ti (λ_=>ts) λ_=>ts) λ_=>ti (λ_=>ti (λ_=>ts) λ_=>ts) λ_=>ti (λ_=>ti (λ_=>ts) λ_=>ts) λ_=>ti (λ_=>ti (λ_=>ts) λ_=>ts) λ_=>ti (λ_=>ti (λ_=>ts) λ_=>ts) λ_=>ti (λ_=>ts) λ_=>ts
theorem Axc(a:Int)(b:UInt8)(f g:Int):∀(q:Nat) (w:Int) (v:LB),0<=w/\w<= (Aa ([a,(Al b:Int),f,g]:LI))/\ (Aa ([a,(Al b:Int),f,g]:LI))<w+q/\ (Aa ([a,(Al b:Int),f,g]:LI))<=17179869184/\ -9223372036854775808<=a/\a<=9223372036854775807/\ -9223372036854775808<=f/\f<=9223372036854775807/\ -9223372036854775808<=g/\g<=9223372036854775807/\ (b.toNat:Int)<=255/\Aa v<=120000+100*w->T (BQ a b f g q w v) (λr=>0<=r.2/\r.2<=99/\Aa r.1<=130000):=
 ind (λw v hI=>by exfalso;(try simp only[Aa]at *);omega) λq ih w v hI=>ti (λ_=>th λ_ _=>th λ_ _=>tb (Bv _) λ_ _=>ta (ta (tj (ih _ _)))) λ_=>(by unfold MN eU;exact ta (tw (ts)))
theorem Axz(h:LI)(a:Int)(b:UInt8)(f g:Int):∀(q:Nat) (ak:Int) (y:LB),0<=ak/\ak<= (Aa h)/\ (Aa h)<ak+q/\ (Aa h)<=17179869184/\ -9223372036854775808<=a/\a<=9223372036854775807/\ -9223372036854775808<=f/\f<=9223372036854775807/\ -9223372036854775808<=g/\g<=9223372036854775807/\ (b.toNat:Int)<=255/\Aa h<=1000/\Dq (Rg 5 100000) h/\Aa y<=8000+100*ak->T (Zq h a b f g q ak y) (λr=>0<=r.2/\r.2<=99/\Aa r.1<=130000):=
 ind (λak y hI=>by exfalso;(try simp only[Aa]at *);omega) λq ih ak y hI=>ti (λ_=>tA (p:=Rg 5 100000) λ_ _=>tb (Bv _) λ_ _=>ta (ta (tj (ih _ _)))) λ_=>(by unfold iQ KQ;exact ta (tj (Axc _ _ _ _ Aq _ _)))
theorem Axk(u k m n o p:Int)(h:LI)(a:Int)(b:UInt8)(f g:Int):∀(q:Nat) (ab:Int) (aa:LB),0<=ab/\ab<= (Aa ([u]:LI))/\ (Aa ([u]:LI))<ab+q/\ (Aa ([u]:LI))<=17179869184/\ -9223372036854775808<=k/\k<=9223372036854775807/\ -9223372036854775808<=m/\m<=9223372036854775807/\ -9223372036854775808<=n/\n<=9223372036854775807/\ -9223372036854775808<=o/\o<=9223372036854775807/\ -9223372036854775808<=p/\p<=9223372036854775807/\ -9223372036854775808<=u/\u<=9223372036854775807/\ -9223372036854775808<=a/\a<=9223372036854775807/\ -9223372036854775808<=f/\f<=9223372036854775807/\ -9223372036854775808<=g/\g<=9223372036854775807/\Aa h<=1000/\Dq (Rg 5 100000) h/\ (b.toNat:Int)<=255/\Aa aa<=6000+100*ab->T (Zk u k m n o p h a b f g q ab aa) (λr=>0<=r.2/\r.2<=99/\Aa r.1<=130000):=
 ind (λab aa hI=>by exfalso;(try simp only[Aa]at *);omega) λq ih ab aa hI=>ti (λ_=>th λ_ _=>th λ_ _=>tb (Bv _) λ_ _=>ta (ta (tj (ih _ _)))) λ_=>(by unfold fF KE;exact ta (tj (Axz _ _ _ _ _ Aq _ _)))
theorem Ayo(p k m n o u:Int)(h:LI)(a:Int)(b:UInt8)(f g:Int):∀(q:Nat) (ad:Int) (ac:LB),0<=ad/\ad<= (Aa ([p]:LI))/\ (Aa ([p]:LI))<ad+q/\ (Aa ([p]:LI))<=17179869184/\ -9223372036854775808<=k/\k<=9223372036854775807/\ -9223372036854775808<=m/\m<=9223372036854775807/\ -9223372036854775808<=n/\n<=9223372036854775807/\ -9223372036854775808<=o/\o<=9223372036854775807/\ -9223372036854775808<=p/\p<=9223372036854775807/\ -9223372036854775808<=u/\u<=9223372036854775807/\ -9223372036854775808<=a/\a<=9223372036854775807/\ -9223372036854775808<=f/\f<=9223372036854775807/\ -9223372036854775808<=g/\g<=9223372036854775807/\Aa h<=1000/\Dq (Rg 5 100000) h/\ (b.toNat:Int)<=255/\Aa ac<=5000+100*ad->T (BH p k m n o u h a b f g q ad ac) (λr=>0<=r.2/\r.2<=99/\Aa r.1<=130000):=
 ind (λad ac hI=>by exfalso;(try simp only[Aa]at *);omega) λq ih ad ac hI=>ti (λ_=>th λ_ _=>th λ_ _=>tb (Bv _) λ_ _=>ta (ta (tj (ih _ _)))) λ_=>(by unfold gD KS;exact ta (tj (Axk _ _ _ _ _ _ _ _ _ _ _ Aq _ _)))
theorem Axl(o k m n p u:Int)(h:LI)(a:Int)(b:UInt8)(f g:Int):∀(q:Nat) (af:Int) (ae:LB),0<=af/\af<= (Aa ([o]:LI))/\ (Aa ([o]:LI))<af+q/\ (Aa ([o]:LI))<=17179869184/\ -9223372036854775808<=k/\k<=9223372036854775807/\ -9223372036854775808<=m/\m<=9223372036854775807/\ -9223372036854775808<=n/\n<=9223372036854775807/\ -9223372036854775808<=o/\o<=9223372036854775807/\ -9223372036854775808<=p/\p<=9223372036854775807/\ -9223372036854775808<=u/\u<=9223372036854775807/\ -9223372036854775808<=a/\a<=9223372036854775807/\ -9223372036854775808<=f/\f<=9223372036854775807/\ -9223372036854775808<=g/\g<=9223372036854775807/\Aa h<=1000/\Dq (Rg 5 100000) h/\ (b.toNat:Int)<=255/\Aa ae<=4000+100*af->T (BD o k m n p u h a b f g q af ae) (λr=>0<=r.2/\r.2<=99/\Aa r.1<=130000):=
 ind (λaf ae hI=>by exfalso;(try simp only[Aa]at *);omega) λq ih af ae hI=>ti (λ_=>th λ_ _=>th λ_ _=>tb (Bv _) λ_ _=>ta (ta (tj (ih _ _)))) λ_=>(by unfold iB KT;exact ta (tj (Ayo _ _ _ _ _ _ _ _ _ _ _ Aq _ _)))
theorem Axy(n k m o p u:Int)(h:LI)(a:Int)(b:UInt8)(f g:Int):∀(q:Nat) (ah:Int) (ag:LB),0<=ah/\ah<= (Aa ([n]:LI))/\ (Aa ([n]:LI))<ah+q/\ (Aa ([n]:LI))<=17179869184/\ -9223372036854775808<=k/\k<=9223372036854775807/\ -9223372036854775808<=m/\m<=9223372036854775807/\ -9223372036854775808<=n/\n<=9223372036854775807/\ -9223372036854775808<=o/\o<=9223372036854775807/\ -9223372036854775808<=p/\p<=9223372036854775807/\ -9223372036854775808<=u/\u<=9223372036854775807/\ -9223372036854775808<=a/\a<=9223372036854775807/\ -9223372036854775808<=f/\f<=9223372036854775807/\ -9223372036854775808<=g/\g<=9223372036854775807/\Aa h<=1000/\Dq (Rg 5 100000) h/\ (b.toNat:Int)<=255/\Aa ag<=3000+100*ah->T (Yv n k m o p u h a b f g q ah ag) (λr=>0<=r.2/\r.2<=99/\Aa r.1<=130000):=
 ind (λah ag hI=>by exfalso;(try simp only[Aa]at *);omega) λq ih ah ag hI=>ti (λ_=>th λ_ _=>th λ_ _=>tb (Bv _) λ_ _=>ta (ta (tj (ih _ _)))) λ_=>(by unfold fA KC;exact ta (tj (Axl _ _ _ _ _ _ _ _ _ _ _ Aq _ _)))
theorem Axi(m k n o p u:Int)(h:LI)(a:Int)(b:UInt8)(f g:Int):∀(q:Nat) (aj:Int) (ai:LB),0<=aj/\aj<= (Aa ([m]:LI))/\ (Aa ([m]:LI))<aj+q/\ (Aa ([m]:LI))<=17179869184/\ -9223372036854775808<=k/\k<=9223372036854775807/\ -9223372036854775808<=m/\m<=9223372036854775807/\ -9223372036854775808<=n/\n<=9223372036854775807/\ -9223372036854775808<=o/\o<=9223372036854775807/\ -9223372036854775808<=p/\p<=9223372036854775807/\ -9223372036854775808<=u/\u<=9223372036854775807/\ -9223372036854775808<=a/\a<=9223372036854775807/\ -9223372036854775808<=f/\f<=9223372036854775807/\ -9223372036854775808<=g/\g<=9223372036854775807/\Aa h<=1000/\Dq (Rg 5 100000) h/\ (b.toNat:Int)<=255/\Aa ai<=2000+100*aj->T (Zi m k n o p u h a b f g q aj ai) (λr=>0<=r.2/\r.2<=99/\Aa r.1<=130000):=
 ind (λaj ai hI=>by exfalso;(try simp only[Aa]at *);omega) λq ih aj ai hI=>ti (λ_=>th λ_ _=>th λ_ _=>tb (Bv _) λ_ _=>ta (ta (tj (ih _ _)))) λ_=>(by unfold gI LZ;exact ta (tj (Axy _ _ _ _ _ _ _ _ _ _ _ Aq _ _)))
theorem Axf(k m n o p u:Int)(h:LI)(a:Int)(b:UInt8)(f g:Int):∀(q:Nat) (am:Int) (al:LB),0<=am/\am<= (Aa ([k]:LI))/\ (Aa ([k]:LI))<am+q/\ (Aa ([k]:LI))<=17179869184/\ -9223372036854775808<=k/\k<=9223372036854775807/\ -9223372036854775808<=m/\m<=9223372036854775807/\ -9223372036854775808<=n/\n<=9223372036854775807/\ -9223372036854775808<=o/\o<=9223372036854775807/\ -9223372036854775808<=p/\p<=9223372036854775807/\ -9223372036854775808<=u/\u<=9223372036854775807/\ -9223372036854775808<=a/\a<=9223372036854775807/\ -9223372036854775808<=f/\f<=9223372036854775807/\ -9223372036854775808<=g/\g<=9223372036854775807/\Aa h<=1000/\Dq (Rg 5 100000) h/\ (b.toNat:Int)<=255/\Aa al<=1000+100*am->T (AZ k m n o p u h a b f g q am al) (λr=>0<=r.2/\r.2<=99/\Aa r.1<=130000):=
 ind (λam al hI=>by exfalso;(try simp only[Aa]at *);omega) λq ih am al hI=>ti (λ_=>th λ_ _=>th λ_ _=>tb (Bv _) λ_ _=>ta (ta (tj (ih _ _)))) λ_=>(by unfold eN KY;exact ta (tj (Axi _ _ _ _ _ _ _ _ _ _ _ Aq _ _)))
theorem Ash (k m n o p u:Int)(h:LI)(a:Int)(b:UInt8)(f g:Int)(hP: -9223372036854775808<=k/\k<=9223372036854775807/\ -9223372036854775808<=m/\m<=9223372036854775807/\ -9223372036854775808<=n/\n<=9223372036854775807/\ -9223372036854775808<=o/\o<=9223372036854775807/\ -9223372036854775808<=p/\p<=9223372036854775807/\ -9223372036854775808<=u/\u<=9223372036854775807/\ -9223372036854775808<=a/\a<=9223372036854775807/\ -9223372036854775808<=f/\f<=9223372036854775807/\ -9223372036854775808<=g/\g<=9223372036854775807/\Aa h<=1000/\Dq (Rg 5 100000) h):T (oZ k m n o p u h a b f g) (λr=>0<=r.2/\r.2<=99/\Aa r.1<=130000):=
 tf (z8b b) λ_=>tb (Adm _ _ _ _ _ _ _ _ _ _ _) λ_ _=>ti (λ_=>ts) λ_=>(by unfold IX KP;exact ta (tj (Axf _ _ _ _ _ _ _ _ _ _ _ Aq _ _)))
theorem Aa1(a b:LB)(hP:Aa a<=17179869184):T (Cx a b) (λr=>r=true->Aa b<=Aa a):=
 ti (λ_=>tc λ_ _=>ts) λ_=>ts
theorem Ajr(a b:LB)(hP:Aa a<=17179869184/\Aa b=1):T (En a b) (λr=>Aa r<=Aa a):=
 tb (Aa1 _ _) λ_ _=>ti (λ_=>tc λ_ _=>ts) λ_=>ts
theorem Al8(a b:LB)(hP:Aa a<=17179869184/\Aa b=1):T (Fy a b) (λr=>Aa r<=Aa a):=
 tb (Ajr _ _) λ_ _=>ts
theorem Aq0(s:LB)(c:UInt8)(h:0<s.count c):0<=Gt s c/\c∉s.take (Gt s c).toNat/\ (s.drop ((Gt s c).toNat+1)).count c+1=s.count c:=by
  induction s with
  |nil=>simp at h
  |cons b l ih=>
    simp only[Gt];by_cases hb:(b==c)=true
    · rw[B! hb]
      have:=eq_of_beq hb;subst this;exact⟨H3 _,F7,F7⟩
    · rw[C' hb]
      have hbc:¬b=c:=λe=>hb (by simp[e]);have hc:(b::l).count c=l.count c:=by rw[List.count_cons,C' hb,QR]
      rw[hc]at h⊢;obtain⟨h1,h2,h3⟩:=ih h;have h4:¬(Gt l c== -1)=true:=by simp;omega
      rw[C' h4];have e:(Gt l c+1).toNat=(Gt l c).toNat+1:=F3
      refine⟨F3,?_,?_⟩
      · rw[e,List.take_succ_cons,D1,not_or];exact⟨λh=>hbc h.symm,h2⟩
      · rw[e,List.drop_succ_cons];exact h3
theorem Alw(a b:LB)(c:UInt8)(f:Int)(hb:c∉b/\Aa b<=3/\Aa a<=1000000):∀(q:Nat) (h m:Int) (n:LB),0<=h/\h<=Aa a/\0<=m/\m<=f/\f<m+q/\f<=1000000/\ ((a.drop h.toNat).count c:Int)=f-m/\c∉n/\Aa n<=4*h->T (On a [c] b f q h m n) (λr=>c∉r/\Aa r<=4*Aa a):=
 ind (λh m n hI=>by exfalso;omega) λq ih h m n hI=>by
  obtain⟨hb1,hb2,hb3⟩:=hb;obtain⟨i1,i2,i3,i4,i5,i6,i7,i8,i9⟩:=hI;have hl:(a.drop h.toNat).length=a.length-h.toNat:=D0;have c1:Bg a h (Aa a)=some (a.drop h.toNat):=by
    unfold Bg Aa at*
    rw[B! F3,H',N7]
  refine ti (λh1=>?_) λh1=>?_
  · have hm:m<f:=by simp only[Qe,zi,FL]at h1;exact h1
    have k:=Aq0 (a.drop h.toNat) c F3;have kb:=Z1 (a.drop h.toNat) c;have e0:strings_Index (a.drop h.toNat) [c]=some (Gt (a.drop h.toNat) c):=rfl;rw[c1,C6,e0,C6];generalize Gt (a.drop h.toNat) c=i at*
    unfold Aa at kb i2 hb3 hb2 i9⊢;have e1:Ae h i=h+i:=Hn;have e2:Ae (h+i) ((([c]:LB).length:Nat):Int)=h+i+1:=Hn F6 F6;have e3:Ae m 1=m+1:=Hn;have c2:Bg a h (h+i)=some ((a.drop h.toNat).take i.toNat):=by
      unfold Bg;rw[B! F3,show(h+i).toNat=h.toNat+i.toNat by omega,List.drop_take,xK]
    have l2:((a.drop h.toNat).take i.toNat).length=i.toNat:=by rw[C7];omega
    rw[e1,e2,e3,c2,C6];refine ta ?_ F8;refine ta ?_ (by unfold Aa;rw[B_];omega);refine ih _ _ _ ⟨F3,by unfold Aa;omega,F3,F3,F3,F3,?_,?_,?_⟩
    · have:a.drop (h+i+1).toNat=(a.drop h.toNat).drop (i.toNat+1):=by rw[l?];congr 1;omega
      rw[this];omega
    · rw[WI,WI,not_or,not_or];exact⟨⟨i8,k.2.1⟩,hb1⟩
    · unfold Aa;rw[B_,B_];omega
  · have hm:m=f:=by simp only[Qe,zi,G?]at h1;omega
    unfold Jm GR;rw[c1,C6];unfold Aa at*
    refine ta (tw ⟨_,rfl,?_,?_⟩ (G3 (by rw[B_];omega))) F8
    · rw[WI,not_or]
      exact⟨i8,λhx=>by have:=List.count_pos_iff.2 hx;omega⟩
    · show Aa (n++_)<= _
      unfold Aa;rw[B_];omega
theorem Aus(a b:LB)(c:UInt8)(hP:c∉b/\Aa b<=3/\Aa a<=1000000):T (FQ a [c] b (-1)) (λr=>c∉r/\Aa r<=4*Aa a):=by
  have hl:Aa a=(a.length:Int):=rfl;have hc:a.count c<=a.length:=List.count_le_length;refine ti (λh=>?_) λh=>?_
  · rw[C?]at h
    rcases h with h|h
    · exact absurd (eq_of_beq h) (λe=>hP.1 (e▸List.mem_singleton.2 rfl))
    · exact absurd h F5
  · have e:strings_Count a [c]=some ((a.count c:Nat):Int):=rfl
    rw[e,C6];refine ti (λh=>⟨_,rfl,?_,by rw[hl];omega⟩) λh=>?_
    · simp only[BR,zi,FL]at h
      exact λhx=>by have:=List.count_pos_iff.2 hx;omega
    · refine ti (λ_=>?_) λh2=>by rw[CE]at h2;exact absurd h2.1 F5
      have hg:Aa ([c]:LB)=1:=rfl;unfold JP Wz;have hb0:0<=Aa b:=by unfold Aa;omega
      have eb:As (Aa b) 1=Aa b-1:=DF;have hm: -1000000<= ((a.count c:Nat):Int)*(Aa b-1)/\ ((a.count c:Nat):Int)*(Aa b-1)<=2000000:=by
        have:Aa b=0\/Aa b=1\/Aa b=2\/Aa b=3:=F3
        rcases this with h|h|h|h<;>rw[h]<;>omega
      have hn: -((a.count c:Nat):Int)<= ((a.count c:Nat):Int)*(Aa b-1):=by
        have:Aa b=0\/Aa b=1\/Aa b=2\/Aa b=3:=F3
        rcases this with h|h|h|h<;>rw[h]<;>omega
      have em:Cf ((a.count c:Nat):Int) (Aa b-1)=((a.count c:Nat):Int)*(Aa b-1):=xF;have ea:Ae (Aa a) (((a.count c:Nat):Int)*(Aa b-1))=Aa a+((a.count c:Nat):Int)*(Aa b-1):=Hn;rw[hg,eb,em,ea];refine tw ?_ (G3 F3);refine ti (λ_=>?_) λh=>absurd h F5;exact Alw a b c _ hP Aq 0 0 [] ⟨H3 _,F3,H3 _,F3,by have:=Cy;omega,F3,by rw[lA,List.drop_zero];omega,F7,by unfold Aa;simp⟩
theorem Alf(a f:LB)(c:UInt8)(hP:c=10/\Dq Nl f/\Aa f<=3/\Aa a<=1000000):T (Wq a [c] f) (λr=>Dq Nl r/\Aa r<=4000000):=
 tb (λh=>Aus a f c h) (λ_ h=>⟨_,rfl,λx hx e=>h.1 (by rw[hP.1,<-e];exact hx),by have:=h.2;omega⟩) ⟨λh=>hP.2.1 _ h hP.1,hP.2.2⟩
theorem Aqo{b:List LB}(a:LB)(f:List LB):∀(q:Nat) (k:Int) (h:LB),0<=k/\k<= (Aa f)/\ (Aa f)<k+q/\ (Aa f)<=17179869184/\Dq (Ln zn) f/\Aa f<=40000000/\ (zn=21\/zn=50)/\Aa f+1=Aa b/\Aa a=1/\Dq Nl a/\ (zn=21/\Aa h<=21+22*k\/zn=50/\Aa h<=50+51*k)/\Dq Nl h->T (Sm a f q k h) (λr=>(zn=21/\Aa r<=22*Aa b\/zn=50/\Aa r<=51*Aa b)/\Dq Nl r):=
 ind (λk h hI=>by exfalso;(try simp only[Aa]at *);omega) λq ih k h hI=>ti (λ_=>tA (p:=Ln zn) λ_ _=>ta (ta (tj (ih _ _)))) λ_=>tw (ts)
theorem JQ(b:List LB)(a:LB):∀(q:Nat) (g:Int) (m:Int),0<=m/\m<= (Aa b)/\ (Aa b)<m+q/\ (Aa b)<=17179869184/\Dq (Ln zn) b/\Aa b<=40000000/\ (zn=21\/zn=50)/\Aa a=1/\Dq Nl a/\2<=Aa b/\0<=g/\g<=40000000+50*m->T (Tm b a q g m) (λr=>(zn=21/\Aa r<=22*Aa b\/zn=50/\Aa r<=51*Aa b)/\Dq Nl r):=
 ind (λg m hI=>by exfalso;(try simp only[Aa]at *);omega) λq ih g m hI=>ti (λ_=>tA (p:=Ln zn) λ_ _=>ti (λ_=>tn) λ_=>tj (ih _ _)) λ_=>tw (tA (p:=Ln zn) λ_ _=>ta (tC (p:=Ln zn) λ_ _=>tj (Aqo _ _ Aq _ _)))
theorem jC(b:List LB)(a:LB)(hP:Dq (Ln zn) b/\Aa b<=40000000/\ (zn=21\/zn=50)/\Aa a=1/\Dq Nl a):T (HO b a) (λr=>(zn=21/\Aa r<=22*Aa b\/zn=50/\Aa r<=51*Aa b)/\Dq Nl r):=
 tf (zqm (As (Aa b) 1)) λ_=>tf (zm1 (Aa a) (Aa b)) λ_=>ti (λ_=>ts) λ_=>ti (λ_=>tA (p:=Ln zn) λ_ _=>ts) λ_=>ti (λ_=>tw (ti (λ_=>tn) λ_=>tj (JQ _ _ Aq _ _))) λ_=>tj (JQ _ _ Aq _ _)
theorem As9(a:LI):∀(q:Nat) (f:Int) (b:List LB),0<=f/\f<= (Aa a)/\ (Aa a)<f+q/\ (Aa a)<=17179869184/\Dq Fz a/\Aa a<=40000000/\Dq (Ln 21) b/\Aa b=f->T (Vt a q f b) (λr=>Aa r<=30+22*Aa a/\Dq Nl r):=
 ind (λf b hI=>by exfalso;(try simp only[Aa]at *);omega) λq ih f b hI=>ti (λ_=>tA (p:=Fz) λ_ _=>tb (Bv _) λ_ _=>ta (tj (ih _ _))) λ_=>tb (jC (zn:=21) _ _) λ_ _=>ts
theorem Mz(a:LI)(h:Int)(hP:0<=h/\h<=99/\Aa a<=40000000/\Dq Fz a):T (Eh a h) (λr=>Aa r<=30+22*Aa a/\Dq Nl r):=
 ti (λ_=>tb (Bf _) λ_ _=>ts) λ_=>tj (As9 _ Aq _ _)
end Go.Pl
set_option maxRecDepth 4000
set_option maxHeartbeats 400000
namespace Go.Pl
open Go Go.Lv
variable{go gz:LB}{WM:Nat}
theorem Us(a:LB)(hP:True):T (Rs a) (λr=>0<=r.2.2.2.2.2.2.2.2.2.2.2.2/\r.2.2.2.2.2.2.2.2.2.2.2.2<=99/\PD r.1 r.2.1 r.2.2.1 r.2.2.2.1 r.2.2.2.2.1 r.2.2.2.2.2.1 r.2.2.2.2.2.2.1 r.2.2.2.2.2.2.2.1 r.2.2.2.2.2.2.2.2.1 r.2.2.2.2.2.2.2.2.2.1 r.2.2.2.2.2.2.2.2.2.2.1 r.2.2.2.2.2.2.2.2.2.2.2.1/\Aa r.2.1=0):=
 ti (λ_=>ts) λ_=>ts
theorem Uu(a:LB)(h:Aa a<=17179869184):Ke a=some a:=by
  unfold Ke Ba pP;unfold Aa at h;rw[B! F6];rfl
theorem Ahw(a:LI)(h:Aa a<=17179869184):Gh a=some a:=by
  unfold Gh Ba pP;unfold Aa at h;rw[B! F6];rfl
theorem Ny(a b:LB)(f g h k m:Int)(n:LI)(o:Int)(p:LB)(u:Bool)(v:Int)(hP:Aa b<=100000/\Aa n<=1000/\Aa p<=12000000):Ej a b f g h k m n o p u v=some (a,b,f,g,h,k,m,n,o,p,u,v):=by
  unfold Ej;rw[Uu _ F3,C6,Uu _ F3,C6,Ahw _ F3,C6]
theorem DC(a f g h k:Int)(b:LB)(hP:True):T (Rl a f g h k b) (λr=>0<=r/\r<=99):=
 ti (λ_=>ts) λ_=>ts
theorem Asr(w:LI)(o p:LB)(h b f k m:Int)(g:LI)(a:Int)(n:LB)(u:Bool)(v:Int):∀(q:Nat) (y:Int) (aa:Int),0<=aa/\aa<= (Aa w)/\ (Aa w)<aa+q/\ (Aa w)<=17179869184/\Aa w<=1000->T (Vs w o p h b f k m g a n u v q y aa) (λ_=>True):=
 ind (λy aa hI=>by exfalso;(try simp only[Aa]at *);omega) λq ih y aa hI=>ti (λ_=>tg λ_=>tj (ih _ _)) λ_=>ts
theorem Ata(o p:LB)(h b f k m:Int)(g:LI)(a:Int)(n:LB)(u:Bool)(v:Int)(hP:PD o p h b f k m g a n u v):T (HK o p h b f k m g a n u v) (λ_=>True):=
 ti (λ_=>ts) λ_=>tb (Db _ _ _ _ _) λ⟨_,_⟩ _=>ti (λ_=>ts) λ_=>tb (DC _ _ _ _ _ _) λ_ _=>ti (λ_=>ts) λ_=>ti (λ_=>ts) λ_=>tb (Vg _) λ_ _=>ti (λ_=>ts) λ_=>tc λ_ _=>tj (Asr _ _ _ _ _ _ _ _ _ _ _ _ _ Aq _ _)
theorem Az(a:Int)(hP:True):T (Ao a) (λr=>r.1=false/\r.2=a):=
 ts
theorem Av6(a:LB):∀(q:Nat) (b:Int),0<=b/\b<=2/\2<b+q/\Aa a<=100000->T (Vy a q b) (λ_=>True):=
 ind (λb hI=>by exfalso;(try simp only[Aa]at *);omega) λq ih b hI=>ti (λ_=>tg λ_=>ti (λ_=>tb (HF _ _) λ_ _=>ti (λ_=>ts) λ_=>tj (ih _)) λ_=>tj (ih _)) λ_=>ts
theorem fI(a:LB)(hP:Aa a<=100000):T (Pn a) (λ_=>True):=
 (by unfold Pn GB aR;exact tj (Av6 _ Aq _))
theorem aD(f a b g h:Int)(hP:True):T (DZ f a b g h) (λ_=>True):=
 ts
theorem Afi(a:LI)(b:Int):∀(q:Nat) (f:Int),0<=f/\f<= (Aa a)/\ (Aa a)<f+q/\ (Aa a)<=17179869184->T (Dt a b q f) (λ_=>True):=
 ind (λf hI=>by exfalso;(try simp only[Aa]at *);omega) λq ih f hI=>ti (λ_=>tg λ_=>ti (λ_=>ts) λ_=>tj (ih _)) λ_=>ts
theorem Aje(a:LI)(b:Int)(hP:Aa a<=100):T (El a b) (λ_=>True):=
 (by unfold El Fp Ki;exact tj (Afi _ _ Aq _))
theorem Afx(a:LI)(b:Int)(hP:Aa a<=100):T (Fj a b) (λ_=>True):=
 tb (Aje _ _) λ_ _=>ts
theorem Aav(a:Int)(hP:True):T (Qg a) (λ_=>True):=
 tb (Afx _ _) λ_ _=>ts
theorem Cr(df:Bool)(hP:True):T (Gx df) (λr=>0<=r/\r<=99):=
 ti (λ_=>ts) λ_=>ts
theorem Hg(dg:Bool)(dh:Int)(hP:True):T (Qt dg dh) (λr=>0<=r/\r<=99):=
 tj (Cr _)
theorem Ap4(g ax:LB)(ay az ab ba af b:Int)(n:Bool)(o:Int)(f:LI)(k:LB)(hP:True):T (Zf g ax ay az ab ba af b n o f k) (λr=>0<=r/\r<=99):=
 tb (DC _ _ _ _ _ _) λ_ _=>tb (Az _) λ⟨_,_⟩ _=>tj (Hg _ _)
theorem Fc(dk:Bool)(dl:Int)(hP:True):T (Mc dk dl) (λr=>0<=r/\r<=99):=
 tj (Cr _)
theorem HA(g a:LB)(h p m u v b:Int)(n:Bool)(o:Int)(f:LI)(k:LB)(de:Int)(hP:Aa a<=100000/\ (de=0\/de=8)/\de<=Aa a):T (Rh g a h p m u v b n o f k de) (λr=>0<=r/\r<=99):=
 tb (Db _ _ _ _ _) λ⟨_,_⟩ _=>ti (λ_=>tb (Az _) λ⟨_,_⟩ _=>tj (Fc _ _)) λ_=>tc λ_ _=>tb (BB _ _) λ⟨_,_⟩ _=>ti (λ_=>tj (Fc _ _)) λ_=>ti (λ_=>tb (Az _) λ⟨_,_⟩ _=>tj (Fc _ _)) λ_=>tc λ_ _=>tj (Fc _ _)
theorem Hh(dt:Bool)(du:Int)(hP:True):T (Mb dt du) (λr=>0<=r/\r<=99):=
 tj (Cr _)
theorem Aoa(y:Int)(g a:LB)(h p m u v b:Int)(n:Bool)(o:Int)(bc:LX)(ag f:LI)(k:LB)(hP:Aa a<=100000/\0<=y/\y<=Aa a/\0<=b/\b<Aa ag/\Aa bc=16/\Aa k<=12000000):T (NB y g a h p m u v b n o bc ag f k) (λr=>0<=r/\r<=99):=
 tg λ_=>tc λ_ _=>tg λ_=>tb (aD _ _ _ _ _) λ⟨_,_⟩ _=>tb (Nz _ _ _ _ _) λ⟨_,_⟩ _=>ti (λ_=>tb (Az _) λ⟨_,_⟩ _=>tj (Hh _ _)) λ_=>tb (Qd _ _) λ⟨_,_⟩ _=>ti (λ_=>tb (Az _) λ⟨_,_⟩ _=>tj (Hh _ _)) λ_=>ta (tc λ_ _=>tj (Hh _ _))
theorem FV(al am:LB)(an ao ap aq ar:Int)(au:LI)(ad:Int)(ae:LB)(aa:Bool)(w:Int)(hP:PD al am an ao ap aq ar au ad ae aa w):T (Qh al am an ao ap aq ar au ad ae aa w) (λr=>0<=r/\r<=99):=
 ti (λ_=>ts) λ_=>ti (λ_=>tQ (Ny _ _ _ _ _ _ _ _ _ _ _ _) (tb (Ata _ _ _ _ _ _ _ _ _ _ _ _) λ_ _=>ti (λ_=>ti (λ_=>tb (Pz _) λ⟨_,_⟩ _=>ti (λ_=>tj (Hg _ _)) λ_=>ti (λ_=>tb (Az _) λ⟨_,_⟩ _=>tj (Hg _ _)) λ_=>tc λ_ _=>tb (fI _) λ_ _=>ti (λ_=>tj (Hg _ _)) λ_=>tc λ_ _=>tb (Py _) λ⟨_,_,_,_,_,_⟩ _=>ti (λ_=>tj (Hg _ _)) λ_=>ti (λ_=>tb (Az _) λ⟨_,_⟩ _=>tj (Hg _ _)) λ_=>tc λ_ _=>tj (Ap4 _ _ _ _ _ _ _ _ _ _ _ _)) λ_=>ti (λ_=>ti (λ_=>ti (λ_=>tj (Fc _ _)) λ_=>tc λ_ _=>tb (AQ _ _) λ⟨_,_⟩ _=>ti (λ_=>tb (Az _) λ⟨_,_⟩ _=>tj (Fc _ _)) λ_=>ti (λ_=>tb (Az _) λ⟨_,_⟩ _=>tj (Fc _ _)) λ_=>tj (HA _ _ _ _ _ _ _ _ _ _ _ _ _)) λ_=>tj (HA _ _ _ _ _ _ _ _ _ _ _ _ _)) λ_=>ti (λ_=>tA (p:=Rg 5 100000) λ_ _=>tA (p:=Rg 5 100000) λ_ _=>ti (λ_=>tj (Hh _ _)) λ_=>tb (Rz _) λ⟨_,_⟩ _=>ti (λ_=>tb (Az _) λ⟨_,_⟩ _=>tj (Hh _ _)) λ_=>tb (Db _ _ _ _ _) λ⟨_,_⟩ _=>ti (λ_=>tb (Az _) λ⟨_,_⟩ _=>tj (Hh _ _)) λ_=>tj (Aoa _ _ _ _ _ _ _ _ _ _ _ _ _ _ _)) λ_=>ti (λ_=>tb (Az _) λ⟨_,_⟩ _=>tj (Cr _)) λ_=>(by unfold AV OI;exact tj (Cr _))) λ_=>tj (Cr _))) λ_=>ti (λ_=>ti (λ_=>ti (λ_=>tj (Cr _)) λ_=>ti (λ_=>tb (Aav _) λ_ _=>tj (Cr _)) λ_=>tj (Cr _)) λ_=>tj (Cr _)) λ_=>ti (λh=>absurd h F7) λ_=>tj (Cr _)
theorem ZL(f g:LB)(h k m n o:Int)(p:LI)(u:Int)(v:LB)(b:Bool)(a:Int)(hP:PD f g h k m n o p u v b a):T (Qi f g h k m n o p u v b a) (λr=>0<=r.2.2.2.2.2.2.2.2.2.2.2.2/\r.2.2.2.2.2.2.2.2.2.2.2.2<=99/\PD r.1 r.2.1 r.2.2.1 r.2.2.2.1 r.2.2.2.2.1 r.2.2.2.2.2.1 r.2.2.2.2.2.2.1 r.2.2.2.2.2.2.2.1 r.2.2.2.2.2.2.2.2.1 r.2.2.2.2.2.2.2.2.2.1 r.2.2.2.2.2.2.2.2.2.2.1 r.2.2.2.2.2.2.2.2.2.2.2.1/\Aa r.2.1<=Aa g/\ (r.2.2.2.2.2.2.2.2.2.2.2.2=0->r.2.2.2.2.2.2.2.2.2.2.1=false/\r.2.2.2.2.2.2.2.2.2.2.2.1=0)):=
 tb (FV _ _ _ _ _ _ _ _ _ _ _ _) λ_ _=>ti (λ_=>ts) λ_=>ti (λ_=>tQ (Ny _ _ _ _ _ _ _ _ _ _ _ _) (ts)) λ_=>ti (λ_=>tQ (Ny _ _ _ _ _ _ _ _ _ _ _ _) (ts)) λ_=>tQ (Ny _ _ _ _ _ _ _ _ _ _ _ _) (ts)
theorem iG(b g:LB)(h k m n o:Int)(p:LI)(u:Int)(f:LB)(v:Bool)(w a:Int)(hP:Aa b<=64/\Aa f<=12000000/\1<=a/\a<=99):T (IC b g h k m n o p u f v w a) (λr=>0<=r.2.2.2.2.2.2.2.2.2.2.2.2/\r.2.2.2.2.2.2.2.2.2.2.2.2<=99/\PD r.1 r.2.1 r.2.2.1 r.2.2.2.1 r.2.2.2.2.1 r.2.2.2.2.2.1 r.2.2.2.2.2.2.1 r.2.2.2.2.2.2.2.1 r.2.2.2.2.2.2.2.2.1 r.2.2.2.2.2.2.2.2.2.1 r.2.2.2.2.2.2.2.2.2.2.1 r.2.2.2.2.2.2.2.2.2.2.2.1/\Aa r.2.1=0):=
 ts
theorem Kt{Pr:LB->Int->Int->Int->Int->Int->Int->LI->LB->Ak}(a:LB)(b:Bool)(f:Int)(av:LB)(aw ax ay az ba bb:Int)(dy:Bool)(dk:Int)(bc:LI)(bd:LB)(hb:∀(g:LB) (m:Int) (o:Int) (n:Int) (p:Int) (u:Int) (h:Int) (k:LI) (v:LB),PD a g m o n p u k h v b f/\b=false/\f=0/\ (m=0-> (2500:Int)<WM)/\ (m≠0->Aa k=0-> (1500:Int)<WM)/\ (0:Int)<WM/\Aa k-h<WM/\Aa g<=Aa go+Aa gz->T (Pr g m o n p u h k v) (λr=>0<=r.2.2.2.2.2.2.2.2.2.2.2.2/\r.2.2.2.2.2.2.2.2.2.2.2.2<=99/\PD r.1 r.2.1 r.2.2.1 r.2.2.2.1 r.2.2.2.2.1 r.2.2.2.2.2.1 r.2.2.2.2.2.2.1 r.2.2.2.2.2.2.2.1 r.2.2.2.2.2.2.2.2.1 r.2.2.2.2.2.2.2.2.2.1 r.2.2.2.2.2.2.2.2.2.2.1 r.2.2.2.2.2.2.2.2.2.2.2.1/\Aa r.2.1<=Aa go+Aa gz))(hP:PD a av aw ax ay az ba bc bb bd b f/\b=false/\f=0/\Aa av<=Aa go+Aa gz/\0<=dk/\dk<=99/\ (dy=false->dk=0-> (aw=0-> (2500:Int)<WM)/\ (aw≠0->Aa bc=0-> (1500:Int)<WM)/\ (0:Int)<WM/\Aa bc-bb<WM)):T (Hx Pr a b f av aw ax ay az ba bb dy dk bc bd) (λr=>0<=r.2.2.2.2.2.2.2.2.2.2.2.2/\r.2.2.2.2.2.2.2.2.2.2.2.2<=99/\PD r.1 r.2.1 r.2.2.1 r.2.2.2.1 r.2.2.2.2.1 r.2.2.2.2.2.1 r.2.2.2.2.2.2.1 r.2.2.2.2.2.2.2.1 r.2.2.2.2.2.2.2.2.1 r.2.2.2.2.2.2.2.2.2.1 r.2.2.2.2.2.2.2.2.2.2.1 r.2.2.2.2.2.2.2.2.2.2.2.1/\Aa r.2.1<=Aa go+Aa gz):=
 ti (λ_=>tQ (Ny _ _ _ _ _ _ _ _ _ _ _ _) (ts)) λ_=>ti (λ_=>tb (iG _ _ _ _ _ _ _ _ _ _ _ _ _) λ⟨_,_,_,_,_,_,_,_,_,_,_,_,_⟩ _=>ts) λ_=>tj (hb _ _ _ _ _ _ _ _ _)
theorem Ht{Pr:LB->Int->Int->Int->Int->Int->Int->LI->LB->Ak}(a:LB)(b:Bool)(f h:Int)(k:LI)(v:LB)(fv:Bool)(fw:Int)(fx:LB)(fy fz ga gb gc:Int)(hb:∀(g:LB) (m:Int) (o:Int) (n:Int) (p:Int) (u:Int) (h:Int) (k:LI) (v:LB),PD a g m o n p u k h v b f/\b=false/\f=0/\ (m=0-> (2500:Int)<WM)/\ (m≠0->Aa k=0-> (1500:Int)<WM)/\ (0:Int)<WM/\Aa k-h<WM/\Aa g<=Aa go+Aa gz->T (Pr g m o n p u h k v) (λr=>0<=r.2.2.2.2.2.2.2.2.2.2.2.2/\r.2.2.2.2.2.2.2.2.2.2.2.2<=99/\PD r.1 r.2.1 r.2.2.1 r.2.2.2.1 r.2.2.2.2.1 r.2.2.2.2.2.1 r.2.2.2.2.2.2.1 r.2.2.2.2.2.2.2.1 r.2.2.2.2.2.2.2.2.1 r.2.2.2.2.2.2.2.2.2.1 r.2.2.2.2.2.2.2.2.2.2.1 r.2.2.2.2.2.2.2.2.2.2.2.1/\Aa r.2.1<=Aa go+Aa gz))(hP:PD a fx fy fz ga gb gc k h v b f/\b=false/\f=0/\Aa fx<=Aa go+Aa gz/\0<=fw/\fw<=99/\ (fv=false->fw=0-> (fy=0-> (2500:Int)<WM)/\ (fy≠0->Aa k=0-> (1500:Int)<WM)/\ (0:Int)<WM/\Aa k-h<WM)):T (Tl Pr a b f h k v fv fw fx fy fz ga gb gc) (λr=>0<=r.2.2.2.2.2.2.2.2.2.2.2.2/\r.2.2.2.2.2.2.2.2.2.2.2.2<=99/\PD r.1 r.2.1 r.2.2.1 r.2.2.2.1 r.2.2.2.2.1 r.2.2.2.2.2.1 r.2.2.2.2.2.2.1 r.2.2.2.2.2.2.2.1 r.2.2.2.2.2.2.2.2.1 r.2.2.2.2.2.2.2.2.2.1 r.2.2.2.2.2.2.2.2.2.2.1 r.2.2.2.2.2.2.2.2.2.2.2.1/\Aa r.2.1<=Aa go+Aa gz):=
 tj (Kt _ _ _ _ _ _ _ _ _ _ _ _ _ _ hb)
theorem Fx{Pr:LB->Int->Int->Int->Int->Int->Int->LI->LB->Ak}(a:LB)(b:Bool)(f m o n p u h:Int)(v:LB)(bf:Bool)(bg:Int)(bh:LB)(bi:LI)(hb:∀(g:LB) (m:Int) (o:Int) (n:Int) (p:Int) (u:Int) (h:Int) (k:LI) (v:LB),PD a g m o n p u k h v b f/\b=false/\f=0/\ (m=0-> (2500:Int)<WM)/\ (m≠0->Aa k=0-> (1500:Int)<WM)/\ (0:Int)<WM/\Aa k-h<WM/\Aa g<=Aa go+Aa gz->T (Pr g m o n p u h k v) (λr=>0<=r.2.2.2.2.2.2.2.2.2.2.2.2/\r.2.2.2.2.2.2.2.2.2.2.2.2<=99/\PD r.1 r.2.1 r.2.2.1 r.2.2.2.1 r.2.2.2.2.1 r.2.2.2.2.2.1 r.2.2.2.2.2.2.1 r.2.2.2.2.2.2.2.1 r.2.2.2.2.2.2.2.2.1 r.2.2.2.2.2.2.2.2.2.1 r.2.2.2.2.2.2.2.2.2.2.1 r.2.2.2.2.2.2.2.2.2.2.2.1/\Aa r.2.1<=Aa go+Aa gz))(hP:PD a bh m o n p u bi h v b f/\b=false/\f=0/\Aa bh<=Aa go+Aa gz/\0<=bg/\bg<=99/\ (bf=false->bg=0-> (m=0-> (2500:Int)<WM)/\ (m≠0->Aa bi=0-> (1500:Int)<WM)/\ (0:Int)<WM/\Aa bi-h<WM)):T (Nr Pr a b f m o n p u h v bf bg bh bi) (λr=>0<=r.2.2.2.2.2.2.2.2.2.2.2.2/\r.2.2.2.2.2.2.2.2.2.2.2.2<=99/\PD r.1 r.2.1 r.2.2.1 r.2.2.2.1 r.2.2.2.2.1 r.2.2.2.2.2.1 r.2.2.2.2.2.2.1 r.2.2.2.2.2.2.2.1 r.2.2.2.2.2.2.2.2.1 r.2.2.2.2.2.2.2.2.2.1 r.2.2.2.2.2.2.2.2.2.2.1 r.2.2.2.2.2.2.2.2.2.2.2.1/\Aa r.2.1<=Aa go+Aa gz):=
 tj (Kt _ _ _ _ _ _ _ _ _ _ _ _ _ _ hb)
theorem LN{Pr:LB->Int->Int->Int->Int->Int->Int->LI->LB->Ak}(a:LB)(b:Bool)(f:Int)(g:LB)(m o n p u h:Int)(k:LI)(v:LB)(dl:Int)(hb:∀(g:LB) (m:Int) (o:Int) (n:Int) (p:Int) (u:Int) (h:Int) (k:LI) (v:LB),PD a g m o n p u k h v b f/\b=false/\f=0/\ (m=0-> (2500:Int)<WM)/\ (m≠0->Aa k=0-> (1500:Int)<WM)/\ (0:Int)<WM/\Aa k-h<WM/\Aa g<=Aa go+Aa gz->T (Pr g m o n p u h k v) (λr=>0<=r.2.2.2.2.2.2.2.2.2.2.2.2/\r.2.2.2.2.2.2.2.2.2.2.2.2<=99/\PD r.1 r.2.1 r.2.2.1 r.2.2.2.1 r.2.2.2.2.1 r.2.2.2.2.2.1 r.2.2.2.2.2.2.1 r.2.2.2.2.2.2.2.1 r.2.2.2.2.2.2.2.2.1 r.2.2.2.2.2.2.2.2.2.1 r.2.2.2.2.2.2.2.2.2.2.1 r.2.2.2.2.2.2.2.2.2.2.2.1/\Aa r.2.1<=Aa go+Aa gz))(hP:PD a g m o n p u k h v b f/\b=false/\f=0/\Aa g<=Aa go+Aa gz/\m≠0/\Aa k=0/\ (dl=0\/dl=8)/\dl<=Aa g/\ (1500:Int)<=WM):T (DQ Pr a b f g m o n p u h k v dl) (λr=>0<=r.2.2.2.2.2.2.2.2.2.2.2.2/\r.2.2.2.2.2.2.2.2.2.2.2.2<=99/\PD r.1 r.2.1 r.2.2.1 r.2.2.2.1 r.2.2.2.2.1 r.2.2.2.2.2.1 r.2.2.2.2.2.2.1 r.2.2.2.2.2.2.2.1 r.2.2.2.2.2.2.2.2.1 r.2.2.2.2.2.2.2.2.2.1 r.2.2.2.2.2.2.2.2.2.2.1 r.2.2.2.2.2.2.2.2.2.2.2.1/\Aa r.2.1<=Aa go+Aa gz):=
 tb (Db _ _ _ _ _) λ⟨_,_⟩ _=>ti (λ_=>tb (Az _) λ⟨_,_⟩ _=>tj (Fx _ _ _ _ _ _ _ _ _ _ _ _ _ _ hb)) λ_=>tc λ_ _=>tb (BB _ _) λ⟨_,_⟩ _=>ti (λ_=>tj (Fx _ _ _ _ _ _ _ _ _ _ _ _ _ _ hb)) λ_=>ti (λ_=>tb (Az _) λ⟨_,_⟩ _=>tj (Fx _ _ _ _ _ _ _ _ _ _ _ _ _ _ hb)) λ_=>tc λ_ _=>tj (Fx _ _ _ _ _ _ _ _ _ _ _ _ _ _ hb)
theorem Ib{Pr:LB->Int->Int->Int->Int->Int->Int->LI->LB->Ak}(a:LB)(b:Bool)(f m o n p u:Int)(k:LI)(bl:Bool)(bm:Int)(bn:LB)(bp:Int)(bq:LB)(hb:∀(g:LB) (m:Int) (o:Int) (n:Int) (p:Int) (u:Int) (h:Int) (k:LI) (v:LB),PD a g m o n p u k h v b f/\b=false/\f=0/\ (m=0-> (2500:Int)<WM)/\ (m≠0->Aa k=0-> (1500:Int)<WM)/\ (0:Int)<WM/\Aa k-h<WM/\Aa g<=Aa go+Aa gz->T (Pr g m o n p u h k v) (λr=>0<=r.2.2.2.2.2.2.2.2.2.2.2.2/\r.2.2.2.2.2.2.2.2.2.2.2.2<=99/\PD r.1 r.2.1 r.2.2.1 r.2.2.2.1 r.2.2.2.2.1 r.2.2.2.2.2.1 r.2.2.2.2.2.2.1 r.2.2.2.2.2.2.2.1 r.2.2.2.2.2.2.2.2.1 r.2.2.2.2.2.2.2.2.2.1 r.2.2.2.2.2.2.2.2.2.2.1 r.2.2.2.2.2.2.2.2.2.2.2.1/\Aa r.2.1<=Aa go+Aa gz))(hP:PD a bn m o n p u k bp bq b f/\b=false/\f=0/\Aa bn<=Aa go+Aa gz/\0<=bm/\bm<=99/\ (bl=false->bm=0-> (m=0-> (2500:Int)<WM)/\ (m≠0->Aa k=0-> (1500:Int)<WM)/\ (0:Int)<WM/\Aa k-bp<WM)):T (Tk Pr a b f m o n p u k bl bm bn bp bq) (λr=>0<=r.2.2.2.2.2.2.2.2.2.2.2.2/\r.2.2.2.2.2.2.2.2.2.2.2.2<=99/\PD r.1 r.2.1 r.2.2.1 r.2.2.2.1 r.2.2.2.2.1 r.2.2.2.2.2.1 r.2.2.2.2.2.2.1 r.2.2.2.2.2.2.2.1 r.2.2.2.2.2.2.2.2.1 r.2.2.2.2.2.2.2.2.2.1 r.2.2.2.2.2.2.2.2.2.2.1 r.2.2.2.2.2.2.2.2.2.2.2.1/\Aa r.2.1<=Aa go+Aa gz):=
 tj (Kt _ _ _ _ _ _ _ _ _ _ _ _ _ _ hb)
theorem Aqi(a:LB)(b:Bool)(f:Int):∀(q:Nat) (g:LB) (m:Int) (o:Int) (n:Int) (p:Int) (u:Int) (h:Int) (k:LI) (v:LB),PD a g m o n p u k h v b f/\b=false/\f=0/\ (m=0-> (2500:Int)<q)/\ (m≠0->Aa k=0-> (1500:Int)<q)/\ (0:Int)<q/\Aa k-h<q/\Aa g<=Aa go+Aa gz->T (Dc a b f q g m o n p u h k v) (λr=>0<=r.2.2.2.2.2.2.2.2.2.2.2.2/\r.2.2.2.2.2.2.2.2.2.2.2.2<=99/\PD r.1 r.2.1 r.2.2.1 r.2.2.2.1 r.2.2.2.2.1 r.2.2.2.2.2.1 r.2.2.2.2.2.2.1 r.2.2.2.2.2.2.2.1 r.2.2.2.2.2.2.2.2.1 r.2.2.2.2.2.2.2.2.2.1 r.2.2.2.2.2.2.2.2.2.2.1 r.2.2.2.2.2.2.2.2.2.2.2.1/\Aa r.2.1<=Aa go+Aa gz):=
 ind (λg m o n p u h k v hI=>by exfalso;(try simp only[Aa]at *);omega) λq ih g m o n p u h k v hI=>ti (λ_=>tb (Pz _) λ⟨_,_⟩ _=>ti (λ_=>tj (Ht _ _ _ _ _ _ _ _ _ _ _ _ _ _ ih)) λ_=>ti (λ_=>tb (Az _) λ⟨_,_⟩ _=>tj (Ht _ _ _ _ _ _ _ _ _ _ _ _ _ _ ih)) λ_=>tc λ_ _=>tb (fI _) λ_ _=>ti (λ_=>tj (Ht _ _ _ _ _ _ _ _ _ _ _ _ _ _ ih)) λ_=>tc λ_ _=>tb (Py _) λ⟨_,_,_,_,_,_⟩ _=>ti (λ_=>tj (Ht _ _ _ _ _ _ _ _ _ _ _ _ _ _ ih)) λ_=>ti (λ_=>tb (Az _) λ⟨_,_⟩ _=>tj (Ht _ _ _ _ _ _ _ _ _ _ _ _ _ _ ih)) λ_=>tc λ_ _=>tb (DC _ _ _ _ _ _) λ_ _=>tb (Az _) λ⟨_,_⟩ _=>tj (Ht _ _ _ _ _ _ _ _ _ _ _ _ _ _ ih)) λ_=>ti (λ_=>ti (λ_=>ti (λ_=>tj (Fx _ _ _ _ _ _ _ _ _ _ _ _ _ _ ih)) λ_=>tc λ_ _=>tb (AQ _ _) λ⟨_,_⟩ _=>ti (λ_=>tb (Az _) λ⟨_,_⟩ _=>tj (Fx _ _ _ _ _ _ _ _ _ _ _ _ _ _ ih)) λ_=>ti (λ_=>tb (Az _) λ⟨_,_⟩ _=>tj (Fx _ _ _ _ _ _ _ _ _ _ _ _ _ _ ih)) λ_=>tj (LN _ _ _ _ _ _ _ _ _ _ _ _ _ ih)) λ_=>tj (LN _ _ _ _ _ _ _ _ _ _ _ _ _ ih)) λ_=>ti (λ_=>tA (p:=Rg 5 100000) λ_ _=>tA (p:=Rg 5 100000) λ_ _=>ti (λ_=>tj (Ib _ _ _ _ _ _ _ _ _ _ _ _ _ _ ih)) λ_=>tb (Rz _) λ⟨_,_⟩ _=>ti (λ_=>tb (Az _) λ⟨_,_⟩ _=>tj (Ib _ _ _ _ _ _ _ _ _ _ _ _ _ _ ih)) λ_=>tb (Db _ _ _ _ _) λ⟨_,_⟩ _=>ti (λ_=>tb (Az _) λ⟨_,_⟩ _=>tj (Ib _ _ _ _ _ _ _ _ _ _ _ _ _ _ ih)) λ_=>tg λ_=>tc λ_ _=>tg λ_=>tb (aD _ _ _ _ _) λ⟨_,_⟩ _=>tb (Nz _ _ _ _ _) λ⟨_,_⟩ _=>ti (λ_=>tb (Az _) λ⟨_,_⟩ _=>tj (Ib _ _ _ _ _ _ _ _ _ _ _ _ _ _ ih)) λ_=>tb (Qd _ _) λ⟨_,_⟩ _=>ti (λ_=>tb (Az _) λ⟨_,_⟩ _=>tj (Ib _ _ _ _ _ _ _ _ _ _ _ _ _ _ ih)) λ_=>ta (tc λ_ _=>tj (Ib _ _ _ _ _ _ _ _ _ _ _ _ _ _ ih))) λ_=>ti (λ_=>tb (Az _) λ⟨_,_⟩ _=>tj (Kt _ _ _ _ _ _ _ _ _ _ _ _ _ _ ih)) λ_=>(by unfold DI VS;exact tj (Kt _ _ _ _ _ _ _ _ _ _ _ _ _ _ ih))
theorem Zr(gn go:LB)(gp gq gr gs gt:Int)(gu:LI)(gv:Int)(gw:LB)(gx:Bool)(gy:Int)(gz:LB)(hP:PD gn go gp gq gr gs gt gu gv gw gx gy/\Aa go+Aa gz<=100000):T (Gz gn go gp gq gr gs gt gu gv gw gx gy gz) (λr=>0<=r.2.2.2.2.2.2.2.2.2.2.2.2/\r.2.2.2.2.2.2.2.2.2.2.2.2<=99/\PD r.1 r.2.1 r.2.2.1 r.2.2.2.1 r.2.2.2.2.1 r.2.2.2.2.2.1 r.2.2.2.2.2.2.1 r.2.2.2.2.2.2.2.1 r.2.2.2.2.2.2.2.2.1 r.2.2.2.2.2.2.2.2.2.1 r.2.2.2.2.2.2.2.2.2.2.1 r.2.2.2.2.2.2.2.2.2.2.2.1/\Aa r.2.1<=Aa go+Aa gz):=
 tb (ZL _ _ _ _ _ _ _ _ _ _ _ _) λ⟨_,_,_,_,_,_,_,_,_,_,_,_,_⟩ _=>ti (λ_=>ts) λ_=>ta (tj (Aqi _ _ _ Aq _ _ _ _ _ _ _ _ _))
theorem Aw0(p a:LB)(g u v w y:Int)(b:LI)(h:Int)(aa:LB)(ab:Bool)(ac:Int)(hP:Aa a<=100000):T (JH p a g u v w y b h aa ab ac) (λr=>0<=r/\r<=99):=
 ti (λ_=>tb (Pz _) λ⟨_,_⟩ _=>ti (λ_=>ts) λ_=>tc λ_ _=>tb (Py _) λ⟨_,_,_,_,_,_⟩ _=>ts) λ_=>ti (λ_=>ts) λ_=>tb (LJ _) λ⟨_,_⟩ _=>ts
theorem Tf(aa ab:LB)(ac ad ae af ag:Int)(ah:LI)(ai:Int)(aj:LB)(ak:Bool)(al:Int)(hP:PD aa ab ac ad ae af ag ah ai aj ak al):T (Ky aa ab ac ad ae af ag ah ai aj ak al) (λr=>0<=r.2.2.2.2.2.2.2.2.2.2.2.2/\r.2.2.2.2.2.2.2.2.2.2.2.2<=99/\PD r.1 r.2.1 r.2.2.1 r.2.2.2.1 r.2.2.2.2.1 r.2.2.2.2.2.1 r.2.2.2.2.2.2.1 r.2.2.2.2.2.2.2.1 r.2.2.2.2.2.2.2.2.1 r.2.2.2.2.2.2.2.2.2.1 r.2.2.2.2.2.2.2.2.2.2.1 r.2.2.2.2.2.2.2.2.2.2.2.1/\Aa r.2.1<=Aa ab):=
 tb (ZL _ _ _ _ _ _ _ _ _ _ _ _) λ⟨_,_,_,_,_,_,_,_,_,_,_,_,_⟩ _=>ti (λ_=>ts) λ_=>tb (Aw0 _ _ _ _ _ _ _ _ _ _ _ _) λ_ _=>ti (λ_=>tb (iG _ _ _ _ _ _ _ _ _ _ _ _ _) λ⟨_,_,_,_,_,_,_,_,_,_,_,_,_⟩ _=>ts) λ_=>ts
end Go.Pl
set_option maxRecDepth 4000
set_option maxHeartbeats 400000
namespace Go.Pl
open Go Go.Lv
theorem Amz{N16:Nat}{Ff:Int->LX->By}(a:Int)(b:LB)(f:Int)(g:LX)(hb:∀(f:Int) (g:LX),0<=f/\f<= (Aa b)/\ (Aa b)<f+N16/\ (Aa b)<=17179869184/\Aa b<=12000000/\Aa g<=f/\ (a=8\/a=16/\Aa b %2=0/\f %2=0\/a=24/\Aa b %3=0/\f %3=0)->T (Ff f g) (λr=>0<=r.2/\r.2<=99/\Aa r.1<=Aa b)):∀(q:Nat) (k:Int32) (h:Int),0<=h/\h<= (Ex a 8)/\ (Ex a 8)<h+q/\ (Ex a 8)<=17179869184/\0<=f/\f<= (Aa b)/\ (Aa b)<f+(N16+1)/\ (Aa b)<=17179869184/\Aa b<=12000000/\Aa g<=f/\ (a=8\/a=16/\Aa b %2=0/\f %2=0\/a=24/\Aa b %3=0/\f %3=0)/\f<(Aa b)->T (Rc Ff a b f g q k h) (λr=>0<=r.2/\r.2<=99/\Aa r.1<=Aa b):=
 ind (λk h hI=>by exfalso;(try simp only[Aa]at *);omega) λq ih k h hI=>ti (λ_=>tg λ_=>tw (tj (ih _ _))) λ_=>tw (tw (ta (tj (hb _ _))))
theorem Amk(a:Int)(b:LB):∀(q:Nat) (f:Int) (g:LX),0<=f/\f<= (Aa b)/\ (Aa b)<f+q/\ (Aa b)<=17179869184/\Aa b<=12000000/\Aa g<=f/\ (a=8\/a=16/\Aa b %2=0/\f %2=0\/a=24/\Aa b %3=0/\f %3=0)->T (Mg a b q f g) (λr=>0<=r.2/\r.2<=99/\Aa r.1<=Aa b):=
 ind (λf g hI=>by exfalso;(try simp only[Aa]at *);omega) λq ih f g hI=>ti (λ_=>ti (λ_=>tg λ_=>ta (tj (ih _ _))) λ_=>tj (Amz _ _ _ _ ih Aq _ _)) λ_=>ts
theorem We(a:Int)(b:LB)(hP:Aa b<=12000000):T (Qa a b) (λr=>0<=r.2/\r.2<=99/\Aa r.1<=Aa b):=
 tf (zws a (Aa b)) λ_=>tb (PK _) λ⟨_,_,_⟩ _=>ti (λ_=>ts) λ_=>tw (ti (λ_=>ts) λ_=>tw (ti (λ_=>ts) λ_=>tj (Amk _ _ Aq _ _)))
theorem TU(p u:LB)(hP:Aa p<=100000):T (Ru p u) (λr=>0<=r.2.2.2.2/\r.2.2.2.2<=99/\Aa r.2.2.2.1<=12000000):=
 tb (Us _) λ⟨_,_,_,_,_,_,_,_,_,_,_,_,_⟩ _=>ti (λ_=>ts) λ_=>tb (Zr _ _ _ _ _ _ _ _ _ _ _ _ _) λ⟨_,_,_,_,_,_,_,_,_,_,_,_,_⟩ _=>ti (λ_=>ts) λ_=>tb (Tf _ _ _ _ _ _ _ _ _ _ _ _) λ⟨_,_,_,_,_,_,_,_,_,_,_,_,_⟩ _=>ti (λ_=>ts) λ_=>ti (λ_=>ts) λ_=>tb (We _ _) λ⟨_,_⟩ _=>ti (λ_=>ts) λ_=>ts
theorem Alu(a:Int)(b:LX):∀(q:Nat) (g:Int) (f:LI),0<=g/\g<= (Aa b)/\ (Aa b)<g+q/\ (Aa b)<=17179869184/\0<=a/\a<=99/\Aa b<=40000000/\Aa f=g/\Dq Fz f->T (Pm a b q g f) (λr=>Aa r<=30+22*Aa b/\Dq Nl r):=
 ind (λg f hI=>by exfalso;(try simp only[Aa]at *);omega) λq ih g f hI=>ti (λ_=>tg λ_=>ta (tj (ih _ _))) λ_=>tb (Mz _ _) λ_ _=>ts
theorem AE(n o p:Int)(b:LX)(a:Int)(hP:0<=a/\a<=99/\Aa b<=40000000):T (Fv n o p b a) (λr=>Aa r<=30+22*Aa b/\Dq Nl r):=
 (by unfold Fv Xc LY;exact tj (Alu _ _ Aq _ _))
theorem Tq(ab:Int)(af:LI)(hP:0<=ab/\ab<=99/\Aa af<=1000/\Dq Fz af):T (Kz ab af) (λr=>0<=r.2/\r.2<=99/\Aa r.1<=1000/\Dq Fz r.1):=
 ti (λ_=>ts) λ_=>ts
theorem Ayt(a b:LB)(g:LI)(h k f m n o:Int)(p:LI):∀(q:Nat) (u:Int) (v:LI),0<=u/\u<= (Aa g)/\ (Aa g)<u+q/\ (Aa g)<=17179869184/\Aa g<=1000/\Aa v<=u/\Dq Fz v->T (Zv a b g h k f m n o p q u v) (λr=>0<=r.2/\r.2<=99/\Aa r.1<=1000/\Dq Fz r.1):=
 ind (λu v hI=>by exfalso;(try simp only[Aa]at *);omega) λq ih u v hI=>ti (λ_=>tg λ_=>tg λ_=>tb (Zl _ _ _) λ⟨_,_⟩ _=>ti (λ_=>tb (We _ _) λ⟨_,_⟩ _=>ti (λ_=>tj (Tq _ _)) λ_=>(by unfold BP JZ;exact ti (λ_=>ta ((by unfold Rw Rq;exact ti (λh=>absurd h F5) λ_=>(by unfold Sa Ri;exact tj (ih _ _))))) λ_=>(by unfold Rw Rq;exact ti (λh=>absurd h F5) λ_=>(by unfold Sa Ri;exact tj (ih _ _))))) λ_=>(by unfold BP JZ;exact ti (λ_=>ta ((by unfold Rw Rq;exact ti (λh=>absurd h F5) λ_=>(by unfold Sa Ri;exact tj (ih _ _))))) λ_=>(by unfold Rw Rq;exact ti (λh=>absurd h F5) λ_=>(by unfold Sa Ri;exact tj (ih _ _))))) λ_=>(by unfold KO fS;exact tj (Tq _ _))
theorem Ax8(a b:LB)(hP:True):T (YN a b) (λr=>0<=r.2/\r.2<=99/\Aa r.1<=1000/\Dq Fz r.1):=
 tb (Iq _ _) λ⟨_,_,_,_,_,_,_,_⟩ _=>ti (λ_=>tj (Tq _ _)) λ_=>tb (Db _ _ _ _ _) λ⟨_,_⟩ _=>ti (λ_=>tj (Tq _ _)) λ_=>tj (Ayt _ _ _ _ _ _ _ _ _ _ Aq _ _)
theorem Aaf(a g b:Int)(hP:True):T (PN a g b) (λr=>0<=r/\r<=99/\ (r=0->1<=a/\a<=6/\1<=b/\b<=4000)):=
 tf (zq4 a) λ_=>tb (Pu _ _) λ_ _=>ti (λ_=>ts) λ_=>ti (λ_=>ts) λ_=>tw (ti (λ_=>ts) λ_=>ts)
theorem MV(a g b:Int)(hP:True):T (FW a g b) (λr=>0<=r.2/\r.2<=99/\Aa r.1<=24000):=
 tf (λ(_:True)=> @zfa b a) λ_=>tb (Aaf _ _ _) λ_ _=>ti (λ_=>ts) λ_=>tk λ_ _=>tw (ts)
theorem Jn(a b f ah:Int)(ai:LI)(ag:LX)(hP:0<=ah/\ah<=99/\Aa ag<=36000000):T (Jc a b f ah ai ag) (λr=>0<=r.2.2.2.2.2/\r.2.2.2.2.2<=99/\Aa r.2.2.2.1<=36000000):=
 ti (λ_=>ts) λ_=>ti (λ_=>ts) λ_=>ts
theorem Ee{N21:Nat}{IE:Int->LI->LX->Ax}(g h:LB)(o:LI)(m k a b f p u n v w y:Int)(aa:LI)(ab ao:Int)(am:LI)(an:LX)(hb:∀(ab:Int) (ad:LI) (ac:LX),0<=ab/\ab<= (Aa o)/\ (Aa o)<ab+N21/\ (Aa o)<=17179869184/\Aa o<=1000/\Aa ad<=ab/\Aa ac<=36000*ab->T (IE ab ad ac) (λr=>0<=r.2.2.2.2.2/\r.2.2.2.2.2<=99/\Aa r.2.2.2.1<=36000000))(hP:0<=ab/\ab<Aa o/\Aa o<ab+(N21+1)/\Aa o<=1000/\Aa am<=ab+1/\Aa an<=36000*(ab+1)/\0<=ao/\ao<=99):T (Qw IE g h o m k a b f p u n v w y aa ab ao am an) (λr=>0<=r.2.2.2.2.2/\r.2.2.2.2.2<=99/\Aa r.2.2.2.1<=36000000):=
 ti (λ_=>tj (Jn _ _ _ _ _ _)) λ_=>(by unfold Mh NT;exact tj (hb _ _ _))
theorem Amm(g h:LB)(o:LI)(m k a b f p u n v w y:Int)(aa:LI):∀(q:Nat) (ab:Int) (ad:LI) (ac:LX),0<=ab/\ab<= (Aa o)/\ (Aa o)<ab+q/\ (Aa o)<=17179869184/\Aa o<=1000/\Aa ad<=ab/\Aa ac<=36000*ab->T (Rb g h o m k a b f p u n v w y aa q ab ad ac) (λr=>0<=r.2.2.2.2.2/\r.2.2.2.2.2<=99/\Aa r.2.2.2.1<=36000000):=
 ind (λab ad ac hI=>by exfalso;(try simp only[Aa]at *);omega) λq ih ab ad ac hI=>ti (λ_=>tg λ_=>tg λ_=>tb (Zl _ _ _) λ⟨_,_⟩ _=>ti (λ_=>tb (We _ _) λ⟨_,_⟩ _=>ti (λ_=>tj (Jn _ _ _ _ _ _)) λ_=>ti (λ_=>ta (ti (λ_=>tb (MV _ _ _) λ⟨_,_⟩ _=>ti (λ_=>tj (Ee _ _ _ _ _ _ _ _ _ _ _ _ _ _ _ _ _ _ _ ih)) λ_=>ta (tj (Ee _ _ _ _ _ _ _ _ _ _ _ _ _ _ _ _ _ _ _ ih))) λ_=>ta (tj (Ee _ _ _ _ _ _ _ _ _ _ _ _ _ _ _ _ _ _ _ ih)))) λ_=>ta (tj (Ee _ _ _ _ _ _ _ _ _ _ _ _ _ _ _ _ _ _ _ ih))) λ_=>ti (λ_=>ta (ti (λ_=>tb (MV _ _ _) λ⟨_,_⟩ _=>ti (λ_=>tj (Ee _ _ _ _ _ _ _ _ _ _ _ _ _ _ _ _ _ _ _ ih)) λ_=>ta (tj (Ee _ _ _ _ _ _ _ _ _ _ _ _ _ _ _ _ _ _ _ ih))) λ_=>ta (tj (Ee _ _ _ _ _ _ _ _ _ _ _ _ _ _ _ _ _ _ _ ih)))) λ_=>ta (tj (Ee _ _ _ _ _ _ _ _ _ _ _ _ _ _ _ _ _ _ _ ih))) λ_=>(by unfold MZ CC;exact tj (Jn _ _ _ _ _ _))
theorem aQ(g h:LB)(k:Int)(hP:True):T (Qj g h k) (λr=>0<=r.2.2.2.2.2/\r.2.2.2.2.2<=99/\Aa r.2.2.2.1<=36000000):=
 ti (λ_=>ts) λ_=>ti (λ_=>tb (qO _ _) λ⟨_,_,_,_,_⟩ _=>ts) λ_=>tb (Iq _ _) λ⟨_,_,_,_,_,_,_,_⟩ _=>ti (λ_=>ts) λ_=>tb (Iq _ _) λ⟨_,_,_,_,_,_,_,_⟩ _=>ti (λ_=>tj (Jn _ _ _ _ _ _)) λ_=>tb (Db _ _ _ _ _) λ⟨_,_⟩ _=>ti (λ_=>tj (Jn _ _ _ _ _ _)) λ_=>tj (Amm _ _ _ _ _ _ _ _ _ _ _ _ _ _ _ Aq _ _ _)
theorem Ali (a b f:Int)(g:LX)(hP:True):T (nE a b f g) (λ_=>True):=
 ts
theorem xW(a g f:Int)(h:LX)(b:Int)(hP:1<=a):T (vH a g f h b) (λr=>0<=r/\r<=99):=
 tb (Ali _ _ _ _) λ⟨_,_⟩ _=>tb (Pu _ _) λ_ _=>ti (λ_=>ts) λ_=>tw (ti (λ_=>ts) λ_=>tb (Vp _ _) λ⟨_,_⟩ _=>ti (λ_=>ts) λ_=>ts)
theorem sS(a f h:Int)(b:LX)(hP:True):T (XC a f h b) (λr=>0<=r/\r<=99):=
 ti (λ_=>ts) λ_=>tw (ti (λ_=>ts) λ_=>tw (tb (xW _ _ _ _ _) λ_ _=>ti (λ_=>ts) λ_=>tb (Vi _ _) λ_ _=>ti (λ_=>ts) λ_=>ts))
theorem Axu(b a f:Int)(hP:True):T (MJ b a f) (λr=>0<=r/\r<=99/\ (r=0->1<=b/\b<=6)):=
 ti (λ_=>ts) λ_=>ti (λ_=>ti (λ_=>ts) λ_=>ts) λ_=>ti (λ_=>ti (λ_=>ts) λ_=>ts) λ_=>ti (λ_=>ts) λ_=>ts
theorem Aaq(a b g:Int)(hP:True):T (QF a b g) (λr=>0<=r.2/\r.2<=99/\ (r.2=0->1<=a/\a<=6)):=
 tb (Axu _ _ _) λ_ _=>ti (λ_=>ts) λ_=>ts
theorem JV(a:Bool)(h:Int)(f:LQ):∀(q:Nat) (g:Int) (b:LB),0<=g/\g<=h/\h<g+q/\h<=17179869184/\h<=9/\Aa f=9/\Aa b<=8*g->T (Tg a h f q g b) (λr=>Aa r<=100):=
 ind (λg b hI=>by exfalso;(try simp only[Aa]at *);omega) λq ih g b hI=>ti (λ_=>tg λ_=>tg λ_=>tg λ_=>tb (Po _ _) λ⟨_,_⟩ _=>ta (tj (ih _ _))) λ_=>ti (λ_=>tc λ_ _=>ta (ts)) λ_=>ts
theorem Acx(m k n:Int)(a:Bool)(o:UInt64)(hP:True):T (QN m k n a o) (λr=>Aa r<=100):=
 ti (λ_=>tg λ_=>te (λ_ _=>(by unfold DO Tp;exact tj (JV _ _ _ Aq _ _)))) λ_=>(by unfold DO Tp;exact tj (JV _ _ _ Aq _ _))
theorem Awr(a b f:Int)(hP:True):T (MK a b f) (λr=>0<=r.2/\r.2<=99/\Aa r.1<=100):=
 tb (Aaq _ _ _) λ⟨_,_⟩ _=>ti (λ_=>ts) λ_=>tw (tb (Acx _ _ _ _ _) λ_ _=>ts)
theorem Ax4(a:LB):∀(q:Nat) (b:Int),0<=b/\b<= (Aa a)/\ (Aa a)<b+q/\ (Aa a)<=17179869184->T (BF a q b) (λ_=>True):=
 ind (λb hI=>by exfalso;(try simp only[Aa]at *);omega) λq ih b hI=>ti (λ_=>tg λ_=>tg λ_=>ti (λ_=>ts) λ_=>tj (ih _)) λ_=>ts
theorem lO(a:LB)(hP:Aa a<=1000000):T (EZ a) (λ_=>True):=
 (by unfold EZ LR eI;exact tj (Ax4 _ Aq _))
theorem Ara(a:List (LB×LB×Unit)):∀(q:Nat) (b:Int) (f:Int),0<=f/\f<= (Aa a)/\ (Aa a)<f+q/\ (Aa a)<=17179869184->T (HM a q b f) (λ_=>True):=
 ind (λb f hI=>by exfalso;(try simp only[Aa]at *);omega) λq ih b f hI=>ti (λ_=>tg λ_=>tj (ih _ _)) λ_=>ts
theorem zE(a:List (LB×LB×Unit))(hP:Aa a<=20):T (CT a) (λ_=>True):=
 (by unfold CT XV qJ;exact tj (Ara _ Aq _ _))
theorem Aq7(a f:LB)(hP:Aa a<=1000000):T (HR a f) (λ_=>True):=
 tb (lO _) λ_ _=>ts
def Nm(x:LB×LB×Unit):Prop:=Aa x.1<=1000000
theorem So(n:Bool):T (Rv n) (λr=>0<=r/\r<=99):=ti (λ_=>ts) λ_=>ts
theorem Aws(a:List (LB×LB×Unit))(hA:Dq Nm a):∀(q:Nat) (f:Int),0<=f/\f<=Aa a/\Aa a<f+q/\Aa a<=20->T (AG a q f) (λr=>0<=r/\r<=99):=
 ind (λf hI=>by exfalso;omega) λq ih f hI=>ti (λ_=>tA (p:=Nm) λx hx=>tb (λ_=>Aq7 _ _ hx) λ_ _=>(by unfold LK eW dQ eY;exact ti (λ_=>(by unfold AD JY;exact So _)) λ_=>tj (ih _))) λ_=>(by unfold KZ eF AD JY;exact So _)
theorem xT(u:LB)(a:List (LB×LB×Unit))(hP:Aa u<=1000000/\Dq Nm a):T (Rj u a) (λr=>0<=r/\r<=99):=by
  unfold Rj DX;exact ti (λ_=>ts) λ_=>tb (lO _) λ_ _=>ti (λ_=>ti (λ_=>So _) λh=>absurd h F5) λ_=>tb (zE _) λ_ _=>ti (λ_=>So _) λ_=>tj (Aws _ hP.2 Aq _)
theorem cY(o id:LB)(n:Int)(hP:Aa o<=100000000/\Aa id<=1000):T (SJ o id n) (λr=>Aa r<=Aa o+Aa id+8):=
 tb (Po _ _) (λ⟨b,_⟩ h=>ta (tap (by have:=h.2.2;unfold Aa at *;rw[B_];simp only at this;omega) (by have:=h.2.2;unfold Aa at *;rw[B_,B_];simp only at this;omega)) F3) trivial
theorem yT(i k j m o:LB)(hP:Aa i<=1000/\Aa j<=1000/\Aa k<=1000000/\Aa m<=1000000/\Aa o<=1000000):T (EY [(i,k,()),(j,m,())] o) (λr=>Aa r<=4000000):=by
  have hz:∀x:Int,0<=Ec x 1/\Ec x 1<=1:=λx=>by
    have e:Ec x (1:Int)=wrap64 ((BitVec.ofInt 64 x&&&BitVec.ofInt 64 1).toNat:Int):=rfl;rw[e,SS];have:(BitVec.ofInt 64 x).toNat&&& (BitVec.ofInt 64 1).toNat<= (BitVec.ofInt 64 1).toNat:=Nat.and_le_right;have h1:(BitVec.ofInt 64 1).toNat=1:=F5
    rw[Da F3 F3];omega
  have z1:=hz (Aa k);have z2:=hz (Aa m);unfold EY;refine tb (cY _ _ _) (λp hp=>ta (tk (λz hz1=>ta ?_ ?_) ?_) ?_) ?_
  · unfold EY
    refine tb (cY _ _ _) (λp2 hp2=>ta (tk (λz2 hz2=>ta ?_ ?_) ?_) ?_) ?_
    · unfold EY
      refine⟨_,rfl,?_⟩;unfold Aa at *;simp only[B_]at *;omega
    all_goals (unfold Aa at *;simp only[B_]at *;omega)
  all_goals (unfold Aa at *;simp only[B_]at *;omega)
theorem Abg(a i k j m:LB)(hP:Aa a<=1000/\Aa i<=1000/\Aa j<=1000/\Aa k<=1000000/\Aa m<=1000000):T (LM a [(i,k,()),(j,m,())]) (λr=>0<=r.2/\r.2<=99/\Aa r.1<=4000000):=
 tb (λ_=>xT _ _ ⟨F3,λx hx=>by
  rcases List.mem_cons.1 hx with rfl|hx
  · show Aa i<=1000000;omega
  · rw[List.mem_singleton.1 hx];show Aa j<=1000000;omega⟩) (λ_ _=>ti (λ_=>ts) λ_=>tb (zE _) (λ_ _=>tb (cY _ _ _) λ_ _=>ta (tb (yT _ _ _ _ _) λ_ _=>ts)) (show(2:Int)<=20 by decide)) trivial
theorem xX(b a f:Int)(g:LX)(hP:True):T (xZ b a f g) (λr=>0<=r.2/\r.2<=99/\Aa r.1<=4000000):=
 tb (sS _ _ _ _) λ_ _=>ti (λ_=>ts) λ_=>tb (Awr _ _ _) λ⟨_,_⟩ _=>tb (Qd _ _) λ⟨_,_⟩ _=>tb (Abg _ _ _ _ _) λ⟨_,_⟩ _=>ts
theorem LV(n:Int)(o:LB)(hP:0<=n/\n<=99/\Aa o<=4000000):T (DG n o) (λr=>0<=r.2/\r.2<=99/\Aa r.1<=4000000):=
 ts
theorem Acg(p u:LB)(hP:Aa p<=100000):T (EN p u) (λr=>0<=r.2/\r.2<=99/\Aa r.1<=4000000):=
 tb (TU _ _) λ⟨_,_,_,_,_⟩ _=>(by unfold UU SA;exact ti (λ_=>tj (LV _ _)) λ_=>tb (xX _ _ _ _) λ⟨_,_⟩ _=>(by unfold UP VZ;exact tj (LV _ _)))
end Go.Pl
set_option maxRecDepth 4000
set_option maxHeartbeats 400000
namespace Go.Pl
open Go Go.Lv
def Two(x:LB):Prop:=Aa x=2
theorem L_:∀(l:LB),l.length %2=0->Dq Two (BS l)/\ (BS l).length<=l.length
  |[],_=>⟨all_nil,E6 _⟩
  |[a],h=>by simp at h
  |a::b::r,h=>by
    have k:=L_ r (by simp only[C5]at h;omega);rw[BS];exact⟨λx hx=>(List.mem_cons.1 hx).elim (λe=>e▸rfl) (k.1 x),by have:=k.2;simp only[C5];omega⟩
theorem OF:∀(xs:List LB) (a:LB),Dq Two xs/\Aa a+Aa xs<=1000000->T (Lu xs a) (λr=>Aa r.1<=Aa a+Aa xs)
  |[],a,_=>⟨_,rfl,by unfold Aa;simp⟩
  |b::xs,a,h=>by
    have hb:Aa b=2:=h.1 b (H6 ..);have hx:Dq Two xs:=λx hx=>h.1 x (G_ _ hx);have hl:Aa (b::xs)=Aa xs+1:=by unfold Aa;simp
    have ha:0<=Aa a:=by unfold Aa;omega
    have hs:0<=Aa xs:=by unfold Aa;omega
    unfold Lu;refine tg (λh=>tg (λk=>tb (Ug _ _) λ_ _=>tb (Ug _ _) λ_ _=>ti (λ_=>⟨_,rfl,by show(0:Int)<= _;omega⟩) λ_=>ta ?_ (by unfold Aa at *;simp only[I3];omega)) F3) F3;exact tm (OF xs _ ⟨hx,by unfold Aa at *;rw[B_,I3];omega⟩) λy hy=>by
      unfold Aa at *;rw[B_,I3]at hy;omega
theorem Ab5(n:LB)(hP:Aa n<=1000000):T (Qc n) (λr=>Aa r.1<=Aa n):=by
  unfold Qc;refine ti (λ_=>⟨_,rfl,by show(0:Int)<= _;unfold Aa;omega⟩) λh=>?_;refine ti (λh=>absurd h F5) λ_=>?_;have hm:n.length %2=0:=by
    simp only[Tx,zi,Fh,G?,D!,Decidable.not_not]at h;rw[XL _ F8]at h;unfold Aa at h;omega
  have k:=L_ n hm;unfold e!;rw[Option.bind_assoc];refine tw ?_ (G3 F3);rw[C6];obtain⟨y,e,hy⟩:=OF (BS n) [] ⟨k.1,by unfold Aa at *;simp;omega⟩;exact⟨y,e,by unfold Aa at *;simp at hy;omega⟩
theorem Am3(N:Nat)(a:List LB)(h:Dq (Le N) a):a.flatten.length<=N*a.length:=by
  induction a with
  |nil=>simp
  |cons x l ih=>
    have h1:Aa x<=N:=h x (H6 ..);have h2:=ih λy hy=>h y (G_ _ hy);unfold Aa at h1;rw[UZ,B_,C5,Nat.mul_add];omega
theorem tT(a b:LB)(h:Aa a+Aa b<=1000000):T (Cd [a,b]) (λr=>Aa r=Aa a+Aa b):=⟨_,Avc a b (by unfold Aa at h;omega),by unfold Aa;simp⟩
theorem Ad4(a:List LB)(hP:Dq (Le 200000) a/\Aa a<=2000):T (Cd a) (λr=>Aa r<=200000*Aa a):=by
  have h1:=Am3 200000 a hP.1;have h2:=hP.2;unfold Aa at h2;exact⟨_,pq a F3 F3,by unfold Aa;omega⟩
theorem RG(s:LB)(hP:Aa s<=100000):T (Hc s) (λr=>r.2=true-> -999999999<=r.1/\r.1<=999999999):=by
  unfold Hc;rw[B! (by unfold Aa at hP;omega)];cases e:Lib.atoiAll s with
  |ok n=>
    have hb:=Lib.atoiAll_bounds e;refine tb (Bv n) (λt _=>⟨_,rfl,λh=>?_⟩) F3;simp only[Yr,DP,zi,BC,FL]at h;exact h.2
  |range=>exact⟨_,rfl,λh=>by cases h⟩
  |_=>exact⟨_,rfl,λh=>by cases h⟩
theorem Aqn(a:List LB):∀(q:Nat) (f:Int) (b:List (UInt8×Int×Unit)),0<=f/\f<= (Aa a)/\ (Aa a)<f+q/\ (Aa a)<=17179869184/\Dq (Wd 100000) a/\Aa a<=100000/\Dq Sr b/\Aa b=f->T (Sy a q f b) (λr=>Dq Sr r.1/\Aa r.1<=100000):=
 ind (λf b hI=>by exfalso;(try simp only[Aa]at *);omega) λq ih f b hI=>ti (λ_=>tA (p:=Wd 100000) λ_ _=>ti (λ_=>tg λ_=>tb (Ug _ _) λ_ _=>tc λ_ _=>tb (RG _) λ⟨_,_⟩ _=>ti (λ_=>ts) λ_=>ta (tj (ih _ _))) λ_=>ta (tj (ih _ _))) λ_=>ts
theorem Abj(a:List LB)(hP:Dq (Wd 100000) a/\Aa a<=100000):T (Uw a) (λr=>Dq Sr r.1/\Aa r.1<=100000):=
 (by unfold Uw DM TQ;exact tj (Aqn _ Aq _ _))
theorem Af4(a:UInt8)(b:Int)(hP:True):T (YF a b) (λ_=>True):=
 ti (λ_=>ti (λ_=>ts) λ_=>ti (λ_=>ts) λ_=>ts) λ_=>ti (λ_=>ts) λ_=>ti (λ_=>ts) λ_=>ts
theorem Ayg(a:UInt8)(b:Int)(hP:True):T (KH a b) (λ_=>True):=
 tb (Af4 _ _) λ_ _=>ts
theorem Aqb{a:List (UInt8×Int×Unit)}(f:Bool)(hP:Aa a<=200):T (VD f) (λr=>0<=r/\r<=99/\ (r=0->Aa a<=200)):=
 ti (λ_=>ts) λ_=>(by unfold UI RV;exact ts)
theorem JF{a:List (UInt8×Int×Unit)}(f:Bool)(hP:Aa a<=200):T (DA f) (λr=>0<=r/\r<=99/\ (r=0->Aa a<=200)):=
 tj (Aqb _)
theorem Arw(a:List (UInt8×Int×Unit)):∀(q:Nat) (b:Int),0<=b/\b<= (Aa a)/\ (Aa a)<b+q/\ (Aa a)<=17179869184/\Aa a<=200->T (Tc a q b) (λr=>0<=r/\r<=99/\ (r=0->Aa a<=200)):=
 ind (λb hI=>by exfalso;(try simp only[Aa]at *);omega) λq ih b hI=>ti (λ_=>tg λ_=>tb (Ayg _ _) λ_ _=>(by unfold CS UT;exact ti (λ_=>tj (JF _)) λ_=>(by unfold WC TC;exact tj (ih _)))) λ_=>(by unfold DH TJ;exact tj (JF _))
theorem Ae7(a:List (UInt8×Int×Unit))(hP:True):T (XT a) (λr=>0<=r/\r<=99/\ (r=0->Aa a<=200)):=
 ti (λ_=>ts) λ_=>tj (Arw _ Aq _)
theorem ZG(f g:LB)(h k m n o:Int)(p:LI)(u:Int)(v:LB)(w:Bool)(y b:Int)(hP:PD f g h k m n o p u v w y):T (Uy f g h k m n o p u v w y b) (λr=>0<=r.2.2.2.2.2.2.2.2.2.2.2.2.2/\r.2.2.2.2.2.2.2.2.2.2.2.2.2<=99/\PD r.1 r.2.1 r.2.2.1 r.2.2.2.1 r.2.2.2.2.1 r.2.2.2.2.2.1 r.2.2.2.2.2.2.1 r.2.2.2.2.2.2.2.1 r.2.2.2.2.2.2.2.2.1 r.2.2.2.2.2.2.2.2.2.1 r.2.2.2.2.2.2.2.2.2.2.1 r.2.2.2.2.2.2.2.2.2.2.2.1/\Aa r.2.2.2.2.2.2.2.2.2.2.2.2.1<=12000000/\Aa r.2.1<=Aa g):=
 tb (FV _ _ _ _ _ _ _ _ _ _ _ _) λ_ _=>ti (λ_=>ts) λ_=>ti (λ_=>ts) λ_=>tQ (Ny _ _ _ _ _ _ _ _ _ _ _ _) (tc λ_ _=>tQ (Uu _) (tc λ_ _=>ts))
theorem Aq2(b:List (UInt8×Int×Unit)):∀(q:Nat) (ab:Int) (f:LB) (g:Int) (h:Int) (k:Int) (m:Int) (n:Int) (o:Int) (p:LB) (u:Bool) (v:Int) (a:LB) (aa:List (Int×LB×Unit)) (w:LB) (y:LI),0<=ab/\ab<= (Aa b)/\ (Aa b)<ab+q/\ (Aa b)<=17179869184/\PD f w g h k m n y o p u v/\Aa w+Aa a<=100000/\Aa b<=200/\Aa aa<=ab/\Dq St aa/\Dq Sr b->T (Gq b q ab f g h k m n o p u v a aa w y) (λr=>0<=r.2.2.2.2.2.2.2.2.2.2.2.2.2/\r.2.2.2.2.2.2.2.2.2.2.2.2.2<=99/\Aa r.2.2.2.2.2.2.2.2.2.2.2.2.1<=200/\Dq St r.2.2.2.2.2.2.2.2.2.2.2.2.1/\ (r.2.2.2.2.2.2.2.2.2.2.2.2.2=0->Aa b<=200)):=
 ind (λab f g h k m n o p u v a aa w y hI=>by exfalso;(try simp only[Aa]at *);omega) λq ih ab f g h k m n o p u v a aa w y hI=>ti (λ_=>tA (p:=Sr) λ_ _=>ti (λ_=>tc λ_ _=>tb (Zr _ _ _ _ _ _ _ _ _ _ _ _ _) λ⟨_,_,_,_,_,_,_,_,_,_,_,_,_⟩ _=>tc λ_ _=>ta (tj (ih _ _ _ _ _ _ _ _ _ _ _ _ _ _ _))) λ_=>ti (λ_=>tb (ZG _ _ _ _ _ _ _ _ _ _ _ _ _) λ⟨_,_,_,_,_,_,_,_,_,_,_,_,_,_⟩ _=>ta (tj (ih _ _ _ _ _ _ _ _ _ _ _ _ _ _ _))) λ_=>ti (λ_=>tb (Tf _ _ _ _ _ _ _ _ _ _ _ _) λ⟨_,_,_,_,_,_,_,_,_,_,_,_,_⟩ _=>ta (tj (ih _ _ _ _ _ _ _ _ _ _ _ _ _ _ _))) λ_=>tj (ih _ _ _ _ _ _ _ _ _ _ _ _ _ _ _)) λ_=>ts
theorem bN(fd fe:LB)(b:List (UInt8×Int×Unit))(hP:Dq Sr b/\Aa fe<=100000):T (Uz fd fe b) (λr=>0<=r.2.2.2.2.2.2.2.2.2.2.2.2.2/\r.2.2.2.2.2.2.2.2.2.2.2.2.2<=99/\Aa r.2.2.2.2.2.2.2.2.2.2.2.2.1<=200/\Dq St r.2.2.2.2.2.2.2.2.2.2.2.2.1/\ (r.2.2.2.2.2.2.2.2.2.2.2.2.2=0->Aa b<=200)):=
 tb (Ae7 _) λ_ _=>ti (λ_=>ts) λ_=>tb (Us _) λ⟨_,_,_,_,_,_,_,_,_,_,_,_,_⟩ _=>ti (λ_=>ts) λ_=>tj (Aq2 _ Aq _ _ _ _ _ _ _ _ _ _ _ _ _ _ _)
theorem Tj(g a:LB)(h k m n o:Int)(b:LI)(p:Int)(u:LB)(v:Bool)(w:Int)(hP:PD g a h k m n o b p u v w):T (IS g a h k m n o b p u v w) (λr=>0<=r.2/\r.2<=99/\0<=r.1/\r.1<=200000):=
 tb (FV _ _ _ _ _ _ _ _ _ _ _ _) λ_ _=>ti (λ_=>ts) λ_=>ts
theorem Ayk(a:List (UInt8×Int×Unit)):∀(q:Nat) (h:LB) (b:Int) (f:Int) (g:Int) (k:LB) (m:Int) (n:Int) (o:Int) (p:Int) (u:Int) (v:Int) (w:LB) (y:Bool) (aa:Int) (ab:LB) (ac:LI),0<=g/\g<= (Aa a)/\ (Aa a)<g+q/\ (Aa a)<=17179869184/\PD k ab m n o p u ac v w y aa/\Aa ab+Aa h<=100000/\Aa a<=200/\Dq Sr a/\0<=b/\b<=1000000/\0<=f/\f<=12000000->T (CA a q h b f g k m n o p u v w y aa ab ac) (λr=>0<=r.2.2/\r.2.2<=99/\0<=r.1/\r.1<=1000000/\0<=r.2.1/\r.2.1<=12000000):=
 ind (λh b f g k m n o p u v w y aa ab ac hI=>by exfalso;(try simp only[Aa]at *);omega) λq ih h b f g k m n o p u v w y aa ab ac hI=>ti (λ_=>tA (p:=Sr) λ_ _=>ti (λ_=>tc λ_ _=>tb (Zr _ _ _ _ _ _ _ _ _ _ _ _ _) λ⟨_,_,_,_,_,_,_,_,_,_,_,_,_⟩ _=>tc λ_ _=>tb (Tj _ _ _ _ _ _ _ _ _ _ _ _) λ⟨_,_⟩ _=>ti (λ_=>ts) λ_=>tj (ih _ _ _ _ _ _ _ _ _ _ _ _ _ _ _ _)) λ_=>ti (λ_=>tb (ZG _ _ _ _ _ _ _ _ _ _ _ _ _) λ⟨_,_,_,_,_,_,_,_,_,_,_,_,_,_⟩ _=>tb (Tj _ _ _ _ _ _ _ _ _ _ _ _) λ⟨_,_⟩ _=>ti (λ_=>ts) λ_=>tj (ih _ _ _ _ _ _ _ _ _ _ _ _ _ _ _ _)) λ_=>ti (λ_=>tb (Tf _ _ _ _ _ _ _ _ _ _ _ _) λ⟨_,_,_,_,_,_,_,_,_,_,_,_,_⟩ _=>tb (Tj _ _ _ _ _ _ _ _ _ _ _ _) λ⟨_,_⟩ _=>ti (λ_=>ts) λ_=>tj (ih _ _ _ _ _ _ _ _ _ _ _ _ _ _ _ _)) λ_=>tb (Tj _ _ _ _ _ _ _ _ _ _ _ _) λ⟨_,_⟩ _=>ti (λ_=>ts) λ_=>tj (ih _ _ _ _ _ _ _ _ _ _ _ _ _ _ _ _)) λ_=>ts
theorem Azo(ar au:LB)(a:List (UInt8×Int×Unit))(hP:Dq Sr a/\Aa au<=100000):T (NW ar au a) (λr=>0<=r.2.2/\r.2.2<=99/\0<=r.1/\r.1<=1000000/\0<=r.2.1/\r.2.1<=12000000):=
 tb (bN _ _ _) λ⟨_,_,_,_,_,_,_,_,_,_,_,_,_,_⟩ _=>ti (λ_=>ts) λ_=>tb (Us _) λ⟨_,_,_,_,_,_,_,_,_,_,_,_,_⟩ _=>ti (λ_=>ts) λ_=>tj (Ayk _ Aq _ _ _ _ _ _ _ _ _ _ _ _ _ _ _ _)
theorem xL{p:Prop}(h:p:=by unfold Aa at *;simp only at *;omega):p:=h
end Go.Pl
set_option maxRecDepth 4000
set_option maxHeartbeats 400000
namespace Go.Pl
open Go Go.Lv
variable{w n k x a b v g:Int}{l:LI}
theorem BA(a:LB)(m n o p u f g b:Int)(h:LI)(ae ad y:Int)(hP:0<=ae/\ae<=99):T (Lr a m n o p u f g b h ae ad y) (λr=>0<=r.2.2.2.2.2/\r.2.2.2.2.2<=99):=
 ti (λ_=>ts) λ_=>ti (λ_=>ts) λ_=>ts
theorem Axv(k:LI)(a:LB)(m n o p u f g b:Int)(h:LI):∀(q:Nat) (w:Int) (v:Int),0<=w/\w<= (Aa k)/\ (Aa k)<w+q/\ (Aa k)<=17179869184/\Aa k<=1000->T (Zd k a m n o p u f g b h q w v) (λr=>0<=r.2.2.2.2.2/\r.2.2.2.2.2<=99):=
 ind (λw v hI=>by exfalso;(try simp only[Aa]at *);omega) λq ih w v hI=>ti (λ_=>tg λ_=>tg λ_=>tj (ih _ _)) λ_=>(by unfold GD ZU;exact tj (BA _ _ _ _ _ _ _ _ _ _ _ _ _))
theorem Abf(a:LB)(hP:True):T (iU a) (λr=>0<=r.2.2.2.2.2/\r.2.2.2.2.2<=99):=
 tb (lZ _) λ⟨_,_,_,_,_,_,_,_,_,_,_,_⟩ _=>ti (λ_=>ts) λ_=>ti (λ_=>tj (BA _ _ _ _ _ _ _ _ _ _ _ _ _)) λ_=>tc λ_ _=>tb (BB _ _) λ⟨_,_⟩ _=>ti (λ_=>tj (BA _ _ _ _ _ _ _ _ _ _ _ _ _)) λ_=>tj (Axv _ _ _ _ _ _ _ _ _ _ _ Aq _ _)
theorem Asw(a:Int)(b:LI)(g h k m n o:Int):∀(q:Nat) (p:Int) (f:Int),0<=f/\f<= (Aa b)/\ (Aa b)<f+q/\ (Aa b)<=17179869184/\Aa b<=1000->T (Wi a b g h k m n o q p f) (λr=>0<=r.2.2.2.2/\r.2.2.2.2<=99/\0<=r.1/\r.1<=99/\0<=r.2.2.1/\r.2.2.1<=1000/\ -9223372036854775808<=r.2.2.2.1/\r.2.2.2.1<=9223372036854775807):=
 ind (λp f hI=>by exfalso;(try simp only[Aa]at *);omega) λq ih p f hI=>ti (λ_=>tg λ_=>tg λ_=>ti (λ_=>tb (mH _ _ _ _ _ _) λ⟨_,_⟩ _=>ts) λ_=>tj (ih _ _)) λ_=>ts
theorem Adc(u w:LB)(a:Int)(hP:True):T (Mf u w a) (λr=>0<=r.2.2.2.2/\r.2.2.2.2<=99/\0<=r.1/\r.1<=99/\0<=r.2.2.1/\r.2.2.1<=1000/\ -9223372036854775808<=r.2.2.2.1/\r.2.2.2.1<=9223372036854775807):=
 tb (mA _ _) λ_ _=>ti (λ_=>ts) λ_=>ti (λ_=>ts) λ_=>tb (Abf _) λ⟨_,_,_,_,_,_⟩ _=>ti (λ_=>ts) λ_=>tb (Iq _ _) λ⟨_,_,_,_,_,_,_,_⟩ _=>ti (λ_=>ts) λ_=>ti (λ_=>ts) λ_=>ti (λ_=>ts) λ_=>ti (λ_=>ts) λ_=>ti (λ_=>ts) λ_=>tj (Asw _ _ _ _ _ _ _ _ Aq _ _)
theorem Avg(hk:Af l n=some k)(hx:Af l (Ae w 1)=some x)(h0:0<=w/\w<=1000000):w+1=n->x=k:=λe=>by
  rw[Hn,e,hk]at hx;exact(G6 hx).symm
theorem Avf{y z m:Int}(hx:Af l y=some x)(e:Af l w=some z)(_:True):w=y->Cf z m=Cf x m:=λh=>by
  rw[h,hx]at e;rw[G6 e]
theorem Zz{N:Nat}{ZD:Int->LB->Be}(a:LB)(f:LI)(b k n m h o p:Int)(u:LX)(v g:LI)(y x:Int)(hb:∀(w:Int) (aa:LB),Aa f<=1000/\Aa a<=100000/\0<=b/\b<=110000/\Aa u=16/\Aa g=Aa f+1/\0<=w/\w<=Aa f/\Aa f<w+N/\Aa aa<=12000*w/\ (w=Aa f->0<=k/\b+k<=Aa a)/\y<=w/\y<Aa f/\ (w=y/\Aa aa=0\/BX m h x (Aa aa))->T (ZD w aa) (λr=>0<=r.2/\r.2<=99/\Aa r.1<=12000000/\ (r.2=0->BX m h x (Aa r.1))))(w:Int)(aa:LB)(ai:Int)(ar:LB)(hP:0<=ai/\ai<=99/\Aa f<=1000/\Aa a<=100000/\0<=b/\b<=110000/\Aa u=16/\Aa g=Aa f+1/\0<=w/\w<Aa f/\Aa f<w+(N+1)/\Aa aa<=12000*w/\Aa ar<=12000/\y<=w/\ (ai=0->w+1=Aa f->0<=k/\b+k<=Aa a)/\ (ai=0->BX m h x (Aa aa+Aa ar))):T (FX ZD a f b k n m h o p u v g w aa ai ar) (λr=>0<=r.2/\r.2<=99/\Aa r.1<=12000000/\ (r.2=0->BX m h x (Aa r.1))):=
 ti (λ_=>ts) λ_=>ta (tj (hb _ _))
theorem Au8(a:LB)(f:LI)(b k n m h o p:Int)(u:LX)(v g:LI)(y x:Int)(hM:Mon g)(hk:Af g (Aa f)=some k)(hx:Af f y=some x):∀(q:Nat) (w:Int) (aa:LB),Aa f<=1000/\Aa a<=100000/\0<=b/\b<=110000/\Aa u=16/\Aa g=Aa f+1/\0<=w/\w<=Aa f/\Aa f<w+q/\Aa aa<=12000*w/\ (w=Aa f->0<=k/\b+k<=Aa a)/\y<=w/\y<Aa f/\ (w=y/\Aa aa=0\/BX m h x (Aa aa))->T (Vw a f b k n m h o p u v g q w aa) (λr=>0<=r.2/\r.2<=99/\Aa r.1<=12000000/\ (r.2=0->BX m h x (Aa r.1))):=
 ind (λw aa hI=>by exfalso;(try simp only[Aa]at *);omega) λq ih w aa hI=>ti (λ_=>tg λ_=>tg λ_=>tE λ_ e3=>tE λ_ e4=>tf (λh0=>And.intro (qT hM h0 e3 e4) (Avg hk e4 h0)) λ_=>(by unfold FU aJ;exact ti (λ_=>tj (λhP=>Zz _ _ _ _ _ _ _ _ _ _ _ _ _ _ ih _ _ _ _ hP)) λ_=>tg λ_=>tc λ_ _=>tE λ_ e5=>tf (Avf (m:=m) hx e5) λ_=>tb (Nz _ _ _ _ _) λ⟨_,_⟩ _=>(by unfold ZZ ZX;exact ti (λ_=>tj (λhP=>Zz _ _ _ _ _ _ _ _ _ _ _ _ _ _ ih _ _ _ _ hP)) λ_=>tb (Qd _ _) λ⟨_,_⟩ _=>tj (λhP=>Zz _ _ _ _ _ _ _ _ _ _ _ _ _ _ ih _ _ _ _ hP)))) λ_=>(by unfold GL ZF;exact tc λ_ _=>tb (LJ _) λ⟨_,_⟩ _=>ti (λ_=>ts) λ_=>ts)
theorem Asp(a:LB)(y:Int)(f:LI)(b k n m h o p:Int)(u:LX)(v g:LI)(hM:Mon g)(hk:Af g (Aa f)=some k)(hP:Aa f<=1000/\Aa a<=100000/\0<=b/\b<=110000/\Aa u=16/\Aa g=Aa f+1):T (GC a y f b k n m h o p u v g) (λr=>0<=r.2/\r.2<=99/\Aa r.1<=12000000/\ (r.2=0->∃x,Af f y=some x/\BX m h x (Aa r.1))):=by
  unfold GC GJ;refine ti (λh=>absurd h F5) λ_=>ti (λ_=>⟨_,rfl,F5,F5,F5,λh=>absurd h F5⟩) λh1=>?_;simp only[Qe,Yr,zi,CE,G?]at h1;have hy:y.toNat<f.length:=by unfold Aa at h1;omega
  have hx:Af f y=some f[y.toNat]:=by unfold Af;rw[B! F3,E_ hy]
  refine tm (Au8 a f b k n m h o p u v g y _ hM hk hx Aq y [] ⟨hP.1,hP.2.1,hP.2.2.1,hP.2.2.2.1,hP.2.2.2.2.1,hP.2.2.2.2.2,F3,F3,by have:=Cy;omega,by unfold Aa at *;simp only[C4];omega,F3,F3,F3, .inl ⟨rfl,rfl⟩⟩) λr hr=>⟨hr.1,hr.2.1,hr.2.2.1,λh0=>⟨_,hx,hr.2.2.2 h0⟩⟩
theorem Atv(a:LB)(y ah:Int)(hP:0<=ah/\ah<=99):T (GF a y ah) (λr=>1<=r.2/\r.2<=99/\Aa r.1<=12000000):=ti (λ_=>ts) λ_=>ti (λ_=>ts) λh=>by
  exfalso;simp only[Qe,Yr,zi,CE,G?]at h;omega
theorem mJ(a aj:LB)(y:Int)(hP:True):T (Xo a aj y) (λr=>0<=r.2/\r.2<=99/\Aa r.1<=12000000/\ (r.2=0->∃n m h o p b v f x,Gi a aj=some (n,m,h,o,p,b,v,0)/\Bn n m h o p=some (f,0)/\Af f y=some x/\BX m h x (Aa r.1))):=by
  have hE:∀ah,0<=ah/\ah<=99->T (GF a y ah) (λr=>0<=r.2/\r.2<=99/\Aa r.1<=12000000/\ (r.2=0->∃n m h o p b v f x,Gi a aj=some (n,m,h,o,p,b,v,0)/\Bn n m h o p=some (f,0)/\Af f y=some x/\BX m h x (Aa r.1))):=λah hh=>tm (Atv a y ah hh) λr hr=>⟨F3,hr.2.1,hr.2.2,λh0=>by omega⟩;have hz:∀{x:Int},Ay x 0=false->x=0:=λh=>by simp only[Tx,zi,G?,D!,Decidable.not_not]at h;exact h
  obtain⟨⟨n,m,h,o,p,b,v,ak⟩,e1,h1⟩:=Iq a aj trivial;unfold Xo JE;refine tQ (λ_:True=>e1) ?_ trivial;refine ti (λ_=>hE ak ⟨h1.1,h1.2.1⟩) λk1=>?_;obtain⟨⟨f,al⟩,e2,h2⟩:=Db n m h o p trivial;refine tQ (λ_:True=>e2) ?_ trivial;refine ti (λ_=>hE al ⟨h2.2.1,h2.2.2.1⟩) λk2=>tb (aO _) (λ⟨g,am⟩ h3=>ti (λ_=>hE am ⟨h3.1,h3.2.1⟩) λk3=>tb (Rz _) (λ⟨u,an⟩ h4=>ti (λ_=>hE an ⟨h4.1,h4.2.1⟩) λ_=>?_) trivial) trivial;obtain⟨g1,g2⟩:=h3.2.2 (hz k3);have o1:=h1.2.2 (hz k1);have hcc:Aa f<=1000/\Aa a<=100000/\0<=b/\b<=110000/\Aa u=16/\Aa g=Aa f+1:=by simp only at *;omega
  refine tg (λ_=>tE (λk e=>tm (Asp a y f b k n m h o p u v g g2 e hcc) λr hr=>⟨hr.1,hr.2.1,hr.2.2.1,λh0=>?_⟩) xL) xL;obtain⟨x,hx,hb⟩:=hr.2.2.2 h0;exact⟨n,m,h,o,p,b,v,f,x,by rw[e1,show ak=0 from hz k1],by rw[e2,show al=0 from hz k2],hx,hb⟩
theorem Aa3{f:Int}(e:Kf a b=some (f,0))(ev:Jo a=some (v,0))(k:1<=f/\f<=1000/\1<=b/\b<=4000/\1<=v/\v<=1100000/\ (f-1)*v<b/\b<=f*v):∃m:Nat,f-1=m/\Of a b=some (List.replicate m v++[b-m*v],0):=by
  obtain⟨k1,k2,k3,k4,v1,v2,w1,w2⟩:=k;have hm:0<= (f-1)*v:=lB F3 F3;obtain⟨m,hm'⟩:∃m:Nat,f-1=(m:Int):=⟨(f-1).toNat,F3⟩;refine⟨m,hm',?_⟩;unfold Of;rw[e,C6];simp only;rw[C' F5,ev,C6];simp only;rw[DF,xF,DF,hm',u_ _ _ F3,C6];unfold AK;rw[n_ _ _ F6];rfl
theorem Aca(f g a:Int)(hP:True):T (EG f g a) (λr=>0<=r.2.2/\r.2.2<=99/\ (r.2.2=0->∃(m:Nat) (v:Int),Of f g=some (List.replicate m v++[g-m*v],0)/\1<=v/\m<=1000/\1<=g/\g<=4000/\m*v<g/\g<= (m+1)*v/\0<=a/\a<g/\r.1=a/v/\r.2.1=a %v)):=by
  obtain⟨⟨k,h⟩,e,h1⟩:=Vp f g trivial;unfold EG;rw[e,C6];refine ti (λhh=>⟨_,rfl,h1.1,h1.2.1,λh0=>by simp only[Tx,zi,FL]at hh;exact absurd h0 hh⟩) λhh=>ti (λ_=>⟨_,rfl,F5,F5,λh=>absurd h F5⟩) λha=>?_;have hz:h=0:=by simp only[Tx,zi,G?,D!,Decidable.not_not]at hh;exact hh
  obtain⟨k1,k2,k3,k4,v,ev,v1,v2,w1,w2⟩:=h1.2.2 hz;subst hz;simp only[Qe,Yr,zi,CE,G?]at ha k1 k2 k3 k4 w1 w2;obtain⟨m,hm,hA⟩:=Aa3 e ev ⟨k1,k2,k3,k4,v1,v2,w1,w2⟩;rw[hm]at w1;rw[show k=m+1 by omega]at w2;rw[ev,C6];refine tw (tw ⟨_,rfl,H3 _,(by decide:(0:Int)<=99),λ_=>⟨m,v,hA,v1,F3,k3,k4,w1,w2,F3,F3,?_,?_⟩⟩ ?_) ?_
  · show Ex a v=a/v
    have h2:=QS (show 0<=a by omega) (show 0<=v by omega);have h3:=SP (b:=v) (show 0<=a by omega);rw[Gn,mX _ F3,Da F3 F3]
  · show Jh a v=a %v
    rw[Fh,XL _ F3]
  all_goals (rw[Tx];exact G3 (by show v≠0;omega))
theorem Aiw{h:Int}{f:LI}(e:Bn g h k a b=some (f,0)):Of a b=some (f,0):=by
  unfold Bn at e;obtain⟨m,_,e⟩:=Option.bind_eq_some_iff.1 e;split at e
  · rename_i hm
    obtain⟨_,h2⟩:=Prod.mk.inj (G6 e);rw[h2]at hm;exact absurd hm F5
  · obtain⟨⟨f',n⟩,e1,e2⟩:=Option.bind_eq_some_iff.1 e
    obtain⟨rfl,rfl⟩:=Prod.mk.inj (G6 e2);exact e1
theorem Aku{m:Nat}(h:1<=v/\0<=a/\a<g/\g<=4000/\m*v<g/\g<= (m+1)*v)(e:Af (List.replicate m v++[g-m*v]) (a/v)=some x):0<=a %v/\a %v<x/\x<=4000:=by
  obtain⟨h1,h2,h3,h6,h4,h5⟩:=h;have q1:=QX a (show v≠0 by omega);have q2:=QO a (show 0<v by omega);have q3:=Int.emod_add_mul_ediv a v;have q4:=QS h2 (show 0<=v by omega);obtain⟨n,hn⟩:∃n:Nat,a/v=n:=⟨(a/v).toNat,F3⟩;unfold Af at e;rw[hn]at e q3;rw[B! F3,H']at e;by_cases hm:n<m
  · rw[F_ (by simpa using hm),List.getElem?_replicate,B! hm]at e
    obtain rfl:=G6 e;have:=wz (show(1:Int)<=m by omega) (show 0<=v by omega);omega
  · rw[H0 (by simpa using hm),D']at e
    have hl:n-m=0:=by
      by_cases hz:n-m=0
      · exact hz
      · rw[K7 X']at e;cases e
    rw[hl]at e;obtain rfl:=G6 (show some (g-m*v)=some x from e);have:n=m:=F3
    subst this;rw[T0 v]at q3;have:0<= (n:Int)*v:=lB F3 F3;omega
theorem Ato{o p:Int}(h:0<=w/\w<x/\x<=4000/\1<=o/\o<=6)(hb:BX o p x n):0<=Ex (Cf (Cf w o) p) 8/\Ex (Cf (Cf w o) p) 8<=n:=by
  have ho:o=1\/o=2\/o=3\/o=4\/o=5\/o=6:=F3
  unfold BX at hb;rw[xF (a:=x) (by rcases ho with rfl|rfl|rfl|rfl|rfl|rfl<;>omega) (by rcases ho with rfl|rfl|rfl|rfl|rfl|rfl<;>omega)]at hb;have hw:0<=w*o/\w*o<=24000/\w*o<=x*o:=by rcases ho with rfl|rfl|rfl|rfl|rfl|rfl<;>omega
  rw[xF (a:=w) (b:=o) F3 F3];generalize w*o=z at*
  generalize x*o=z2 at*
  have key:∀c:Int,0<=c/\c<=3->p=8*c->c*z2<=n->0<=c*z/\c*z<=c*z2->0<=Ex (Cf z p) 8/\Ex (Cf z p) 8<=n:=λc hc e h1 h2=>by
    have e2:z*p=8*(c*z):=by rw[e,T0 z,Int.mul_assoc]
    have h3:c*z<=72000:=by
      have:c=0\/c=1\/c=2\/c=3:=F3
      rcases this with rfl|rfl|rfl|rfl<;>omega
    rw[xF,Gn,mX _ F3,Da F3 F3];omega
  rcases hb with⟨rfl,hb⟩|⟨rfl,hb⟩|⟨rfl,hb⟩
  · exact key 1 F5 rfl F3 F3
  · exact key 2 F5 rfl F3 F3
  · exact key 3 F5 rfl F3 F3
theorem yA(f g:LB)(b:Int)(hP:True):T (WH f g b) (λr=>0<=r.2/\r.2<=99/\Aa r.1<=12000000):=by
  have hz:∀{x:Int},Ay x 0=false->x=0:=λh=>by simp only[Tx,zi,G?,D!,Decidable.not_not]at h;exact h
  obtain⟨⟨aa,o,p,u,h,ab,ac,k⟩,e,h1⟩:=Iq f g trivial;unfold WH;rw[e,C6];refine ti (λ_=>ts) λhk=>ti (λ_=>ts) λhb=>?_;obtain⟨⟨v,w,m⟩,e2,h2⟩:=Aca u h b trivial;rw[e2,C6];refine ti (λ_=>ts) λhm=>?_;obtain⟨⟨a,n⟩,e3,h3⟩:=mJ f g v trivial;rw[e3,C6];refine ti (λ_=>ts) λhn=>?_;obtain⟨n',m',h',o',p',b',v',f',x,q1,q2,q3,q4⟩:=h3.2.2.2 (hz hn);rw[e]at q1;simp only[E9,I2]at q1;obtain⟨rfl,rfl,rfl,rfl,rfl,_⟩:=q1;obtain⟨mm,L,r1,r2,r3,r4,r5,r6,r7,r8,r9,r10,r11⟩:=h2.2.2 (hz hm);rw[Aiw q2]at r1;obtain⟨rfl,_⟩:=Prod.mk.inj (G6 r1);rw[show v=b/L from r10]at q3;have k1:=Aku ⟨r2,r8,r9,r5,r6,r7⟩ q3;rw[<-show w=b %L from r11]at k1;have o1:=h1.2.2 (hz hk);have k2:=Ato ⟨k1.1,k1.2.1,k1.2.2,o1.2.2.1,o1.2.2.2.1⟩ q4;exact tw (tc (λ_ _=>ts) ⟨k2.1,k2.2,H3 _⟩) (G3 ⟨H3 _,H3 _⟩)
theorem Aaz(f:LB)(a:Int)(g:UInt8)(hP:Aa f<=100000):T (eC f a g) (λr=>0<=r.2/\r.2<=99/\Aa r.1<=100000):=
 ti (λ_=>ts) λ_=>tQ (Uu _) (tg λ_=>tg λ_=>tg λ_=>te (λ_ _=>ts))
theorem Asa(a:Int)(g:UInt32):∀(q:Nat) (b:Int) (h:Bool) (f:LB),0<=b/\b<=32/\32<b+q/\0<=a/\a<=800000/\Aa f<=100000->T (Vr a g q b h f) (λr=>0<=r.2/\r.2<=99/\Aa r.1<=100000):=
 ind (λb h f hI=>by exfalso;(try simp only[Aa]at *);omega) λq ih b h f hI=>ti (λ_=>tw (ti (λ_=>ti (λ_=>tg λ_=>tw (tg λ_=>tg λ_=>te (λ_ _=>tj (ih _ _ _)))) λ_=>tj (ih _ _ _)) λ_=>tj (ih _ _ _))) λ_=>ti (λ_=>ts) λ_=>ts
theorem Awj(k:LB)(a:Int)(g:UInt32)(hP:Aa k<=100000):T (HT k a g) (λr=>0<=r.2/\r.2<=99/\Aa r.1<=100000):=
 ti (λ_=>ts) λ_=>tQ (Uu _) (tj (Asa _ _ Aq _ _ _))
theorem Aqy(a:LI):∀(q:Nat) (b:LB) (f:Int) (g:LB) (h:Int) (k:Int) (m:Int) (n:Int) (o:Int) (p:Int) (u:LB) (v:Bool) (w:Int) (y:LB) (aa:LI),0<=f/\f<= (Aa a)/\ (Aa a)<f+q/\ (Aa a)<=17179869184/\PD g y h k m n o aa p u v w/\Aa y+Aa b<=100000/\Dq Nn a/\sm a f=Aa b/\Aa a<=100->T (Tu a q b f g h k m n o p u v w y aa) (λr=>0<=r.2/\r.2<=99/\Aa r.1<=12000000):=
 ind (λb f g h k m n o p u v w y aa hI=>by exfalso;(try simp only[Aa]at *);omega) λq ih b f g h k m n o p u v w y aa hI=>ti (λ_=>tE λ_ e=>tf (Aq4 e) λ_=>tc λ_ _=>tb (Zr _ _ _ _ _ _ _ _ _ _ _ _ _) λ⟨_,_,_,_,_,_,_,_,_,_,_,_,_⟩ _=>ti (λ_=>ts) λ_=>tc λ_ _=>tj (ih _ _ _ _ _ _ _ _ _ _ _ _ _ _)) λ_=>tb (Tf _ _ _ _ _ _ _ _ _ _ _ _) λ⟨_,_,_,_,_,_,_,_,_,_,_,_,_⟩ _=>ts
theorem bR(av aw:LB)(a:LI)(hP:Aa aw<=100000/\Dq Nn a/\sm a 0=Aa aw/\Aa a<=100):T (DW av aw a) (λr=>0<=r.2/\r.2<=99/\Aa r.1<=12000000):=
 tb (Us _) λ⟨_,_,_,_,_,_,_,_,_,_,_,_,_⟩ _=>ti (λ_=>ts) λ_=>tj (Aqy _ Aq _ _ _ _ _ _ _ _ _ _ _ _ _ _)
theorem Au6{N12:Nat}{Oa:Int->Int->Cu}(g b:LB)(f a:Int)(h:LB)(k n m:Int)(hb:∀(n:Int) (m:Int),0<=m/\m<= (Fe (1:Int) (GI.toZ a).toNat)/\ (Fe (1:Int) (GI.toZ a).toNat)<m+N12/\ (Fe (1:Int) (GI.toZ a).toNat)<=17179869184/\Aa b<=100000/\0<=a/\a<=8/\0<=f/\f+a<=Aa b/\0<=n/\n<=m/\0<=k/\k<=99/\Fe (1:Int) (GI.toZ a).toNat<=256->T (Oa n m) (λr=>0<=r.2/\r.2<=99/\0<=r.1/\r.1<=256)):∀(q:Nat) (p:Int) (o:Int) (u:LI),0<=o/\o<=a/\a<o+q/\a<=17179869184/\Aa b<=100000/\0<=a/\a<=8/\0<=f/\f+a<=Aa b/\0<=n/\n<=m/\0<=k/\k<=99/\Fe (1:Int) (GI.toZ a).toNat<=256/\0<=p/\p<=f+o/\Aa u<=o/\Dq Nn u/\sm u 0=p/\0<=m/\m<= (Fe (1:Int) (GI.toZ a).toNat)/\ (Fe (1:Int) (GI.toZ a).toNat)<m+(N12+1)/\ (Fe (1:Int) (GI.toZ a).toNat)<=17179869184/\Aa b<=100000/\0<=a/\a<=8/\0<=f/\f+a<=Aa b/\0<=n/\n<=m/\0<=k/\k<=99/\Fe (1:Int) (GI.toZ a).toNat<=256/\m<(Fe (1:Int) (GI.toZ a).toNat)->T (Vq Oa g b f a h k n m q p o u) (λr=>0<=r.2/\r.2<=99/\0<=r.1/\r.1<=256):=
 ind (λp o u hI=>by exfalso;(try simp only[Aa]at *);omega) λq ih p o u hI=>ti (λ_=>tw (ti (λ_=>ta (tj (ih _ _ _))) λ_=>tj (ih _ _ _))) λ_=>ta (tb (bR _ _ _) λ⟨_,_⟩ _=>ti (λ_=>tj (hb _ _)) λ_=>tb (Jy _ _) λ_ _=>ti (λ_=>tj (hb _ _)) λ_=>tj (hb _ _))
theorem Ate(g b:LB)(f a:Int)(h:LB)(k:Int):∀(q:Nat) (n:Int) (m:Int),0<=m/\m<= (Fe (1:Int) (GI.toZ a).toNat)/\ (Fe (1:Int) (GI.toZ a).toNat)<m+q/\ (Fe (1:Int) (GI.toZ a).toNat)<=17179869184/\Aa b<=100000/\0<=a/\a<=8/\0<=f/\f+a<=Aa b/\0<=n/\n<=m/\0<=k/\k<=99/\Fe (1:Int) (GI.toZ a).toNat<=256->T (Wj g b f a h k q n m) (λr=>0<=r.2/\r.2<=99/\0<=r.1/\r.1<=256):=
 ind (λn m hI=>by exfalso;(try simp only[Aa]at *);omega) λq ih n m hI=>ti (λ_=>tj (Au6 _ _ _ _ _ _ _ _ ih Aq _ _ _)) λ_=>ts
theorem Ax7(g b:LB)(f a:Int)(hP:True):T (OZ g b f a) (λr=>0<=r.2/\r.2<=99/\0<=r.1/\r.1<=256):=
 tf (zp8 a) λ_=>ti (λ_=>ts) λ_=>tb (Us _) λ⟨_,_,_,_,_,_,_,_,_,_,_,_,_⟩ _=>ti (λ_=>ts) λ_=>ti (λ_=>ts) λ_=>tb (bR _ _ _) λ⟨_,_⟩ _=>tw (tj (Ate _ _ _ _ _ _ Aq _ _))
end Go.Pl
set_option maxRecDepth 4000
set_option maxHeartbeats 400000
namespace Go.Pl
open Go Go.Lv
variable{y w:Int}
theorem bD(a b f:Int)(g:LB)(hP:True):T (EI a b f g) (λr=>r.2=true->1<=r.1/\r.1<=1100000/\1<=a/\a<=6/\8<=b/\b<=24/\b %8=0):=
 tb (KD _) λ⟨_,_⟩ _=>tb (Pu _ _) λ_ _=>ts
theorem Axs(a b f:Int)(g:LB)(hP:True):T (fY a b f g) (λr=>0<=r.2.2.2.2.2.2.2.2.2.2/\r.2.2.2.2.2.2.2.2.2.2<=99/\PE r.2.2.2.2.1 r.2.2.2.2.2.1 r.2.2.2.2.2.2.1 r.2.2.2.2.2.2.2.1 r.2.2.2.2.2.2.2.2.2.1):=
 tb (bD _ _ _ _) λ⟨_,_⟩ _=>ti (λ_=>ts) λ_=>ts
theorem UE(a b:Int)(hP:1<=a/\a<=6/\8<=b/\b<=24):T (Zo a b) (λr=>1<=r/\r<=18):=by
  refine⟨_,rfl,?_⟩;have:a=1\/a=2\/a=3\/a=4\/a=5\/a=6:=F3
  rw[Hl];rcases this with rfl|rfl|rfl|rfl|rfl|rfl<;>rw[Da F3 F3,Gn,mX _ F3,Da F3 F3]<;>omega
theorem Wb(a h k:Int)(m n:LB)(b:LX)(f:List LB)(o:LB)(p:Bool)(u g:Int)(hP:1<=a):T (Uq a h k m n b f o p u g) (λ_=>True):=
 tw (ts)
theorem IW(a g h:Int)(k m:LB)(n:LX)(o:List LB)(p:LB)(u:Bool)(v b f:Int)(hP:True):T (IB a g h k m n o p u v b f) (λ_=>True):=
 ts
theorem CN{g:LX}{m:LB}(b:List LB)(f a:Int):∀(q:Nat) (h:Int),0<=h/\h<= (Aa b)/\ (Aa b)<h+q/\ (Aa b)<=17179869184/\Aa g<=4000/\Aa b<=1000/\Aa m<=18->T (Mv b f a q h) (λr=>r=true->Aa g<=4000/\Aa b<=1000/\Aa m<=18):=
 ind (λh hI=>by exfalso;(try simp only[Aa]at *);omega) λq ih h hI=>ti (λ_=>tg λ_=>ti (λ_=>ts) λ_=>tj (ih _)) λ_=>ts
theorem Akn(f a k o:Int)(p m:LB)(g:LX)(b:List LB)(n:LB)(u:Bool)(v:Int)(hP:1<=a/\Aa b<=1000/\Aa m<=18):T (Uc f a k o p m g b n u v) (λr=>r=true->Aa g<=4000/\Aa b<=1000/\Aa m<=18):=
 tb (Vi _ _) λ_ _=>ti (λ_=>ts) λ_=>ti (λ_=>tb (Wb _ _ _ _ _ _ _ _ _ _ _) λ_ _=>tb (IW _ _ _ _ _ _ _ _ _ _ _ _) λ_ _=>ti (λ_=>ts) λ_=>tj (CN _ _ _ Aq _)) λ_=>tb (Wb _ _ _ _ _ _ _ _ _ _ _) λ_ _=>tb (IW _ _ _ _ _ _ _ _ _ _ _ _) λ_ _=>ti (λ_=>ts) λ_=>tj (CN _ _ _ Aq _)
theorem Atp(a k o:Int)(p m:LB)(g:LX)(b:List LB)(n:LB)(u:Bool)(v f:Int)(hP:1<=a/\a<=6/\8<=k/\k<=24):T (Wa a k o p m g b n u v f) (λr=>r=true->Aa g<=4000/\Aa b<=1000/\Aa m<=18):=by
  unfold Wa Wo;simp only[Bool.true_or,↓reduceIte];exact ti (λ_=>ts) λ_=>tb (UE _ _) λ_ _=>ti (λ_=>ts) λ_=>tw (ti (λ_=>ts) λ_=>tw (ti (λ_=>ts) λ_=>tj (Akn _ _ _ _ _ _ _ _ _ _ _)))
theorem Aay(m n o:Int)(p b:LB)(f:LX)(g:List LB)(h:LB)(k:Bool)(a:Int)(hP:PE b f g h a):T (PW m n o p b f g h k a) (λr=>0<=r/\r<=99/\ (r=0->1<=m/\m<=6/\8<=n/\n<=24/\n %8=0/\ (a=0->k=false->Aa f<=4000/\Aa g<=1000/\Aa b<=18))):=
 tb (bD _ _ _ _) λ⟨_,_⟩ _=>ti (λ_=>ts) λ_=>ti (λ_=>ti (λ_=>ts) λ_=>ts) λ_=>ti (λ_=>ti (λ_=>ts) λ_=>ts) λ_=>tb (Atp _ _ _ _ _ _ _ _ _ _ _) λ_ _=>ti (λ_=>ts) λ_=>ts
theorem Y? (a:LB)(h:Aa a<=17179869184):Bk a=some a:=by
  unfold Bk Ba pP;unfold Aa at h;rw[B! F6];rfl
theorem Ag3(a:LX)(h:Aa a<=17179869184):Cg a=some a:=by
  unfold Cg Ba pP;unfold Aa at h;rw[B! F6];rfl
theorem Auy(w a:List LB)(b f g:Int)(h:LB)(k:Bool)(m:Int)(n:LB)(o:LX)(p:LB)(hw:w.length=a.length)(hA:Dq (Le 200000) a):∀(q:Nat) (v:Int),0<=v/\v<=Aa a/\Aa a<v+q/\Aa a<=200000->Pv w a b f g h k m n o p q v a=some (b,f,g,h,n,o,a,p,k,m):=
 ind (λv hI=>by exfalso;omega) λq ih v hI=>by
  have e:Cq w a=a:=by unfold Cq;rw[hw,N7,MR F3,G1]
  rw[Pv,GK,e];by_cases h1:v<Aa a
  · have hv:v.toNat<a.length:=by unfold Aa at h1;omega
    have g1:Af a v=some a[v.toNat]:=by unfold Af;rw[B! hI.1,E_ hv]
    have g2:Aa a[v.toNat]<=200000:=hA _ (N8 _);have s1:Me a v a[v.toNat]=some a:=by
      unfold Me;rw[B! (by unfold Aa at h1;omega),List.set_getElem_self]
    rw[B! (by rw[Qe];exact G3 h1),g1,C6,C6,Y? _ F3,C6,C6,s1,C6,Hn];exact ih _ ⟨F3,F3,F3,F3⟩
  · rw[C' (by rw[Qe];simp only[zi,FL];exact h1)]
    rfl
theorem KK(b f g:Int)(h ac:LB)(ad:LX)(a:List LB)(ae:LB)(k:Bool)(m:Int)(hP:PE ac ad a ae m):HY b f g h ac ad a ae k m=some (b,f,g,h,ac,ad,a,ae,k,m):=by
  obtain⟨h1,h2,h3,h4,h5,h6,h7⟩:=hP;have h0:0<=Aa a:=by unfold Aa;omega
  unfold HY FM;rw[Y? _ F3,C6,Ag3 _ F3,C6,Y? _ F3,C6];unfold aX FZ mkI pP;rw[B! F3,C6,show Ew (geq (Aa a) (Aa a))=some () by unfold Ew;rw[B! (by rw[BR];simp)],C6];have hw:(List.replicate (Aa a).toNat ([]:LB)).length=a.length:=by unfold Aa;simp
  have e:Cq (List.replicate (Aa a).toNat ([]:LB)) a=a:=by unfold Cq;rw[hw,N7,MR F3,G1]
  rw[e];exact Auy _ _ _ _ _ _ _ _ _ _ _ hw h4 Aq 0 ⟨H3 _,h0,by have:=Cy;omega,F3⟩
theorem ZY(g h b:Int)(k m:LB)(n:LX)(o:List LB)(p:LB)(f:Bool)(a:Int)(hP:PE m n o p a):T (EL g h b k m n o p f a) (λr=>0<=r.2.2.2.2.2.2.2.2.2.2.2/\r.2.2.2.2.2.2.2.2.2.2.2<=99/\PE r.2.2.2.2.1 r.2.2.2.2.2.1 r.2.2.2.2.2.2.1 r.2.2.2.2.2.2.2.1 r.2.2.2.2.2.2.2.2.2.1/\ (r.2.2.2.2.2.2.2.2.2.2.2=0->1<=r.1/\r.1<=6/\8<=r.2.1/\r.2.1<=24/\r.2.1 %8=0/\Aa r.2.2.2.2.2.1<=4000/\Aa r.2.2.2.2.2.2.1<=1000/\1<=r.2.2.2.2.2.2.2.2.2.2.1/\r.2.2.2.2.2.2.2.2.2.2.1<=1100000/\r.2.2.2.2.2.2.2.2.2.1=0)):=
 tb (Aay _ _ _ _ _ _ _ _ _ _) λ_ _=>ti (λ_=>ts) λ_=>tb (KD _) λ⟨_,_⟩ _=>ti (λ_=>tQ (KK _ _ _ _ _ _ _ _ _ _) (ts)) λ_=>ti (λ_=>tQ (KK _ _ _ _ _ _ _ _ _ _) (ts)) λ_=>tQ (KK _ _ _ _ _ _ _ _ _ _) (ts)
theorem Aak(a f:Int)(b:LX)(hP:True):T (PT a f b) (λr=>0<=r/\r<=99/\ (r=0->1<=a/\a<=6/\Aa b<=4000)):=
 tb (Pu _ _) λ_ _=>ti (λ_=>ts) λ_=>tb (Vi _ _) λ_ _=>ti (λ_=>ts) λ_=>ti (λ_=>ts) λ_=>tw (ti (λ_=>ts) λ_=>ts)
theorem Azp{N12:Nat}{Oa:Int->LX->Gf}(b a:Int)(hb:∀(a:Int) (h:LX),1<=b/\b<=6/\Aa h<=4000/\0<=a/\a<=Aa h/\Aa h<a+N12/\Aa h %b=0/\a %b=0->T (Oa a h) (λr=>0<=r.2/\r.2<=99/\Aa r.1<=4000)):∀(q:Nat) (f:Int) (g:LX),1<=b/\b<=6/\Aa g<=4000/\0<=a/\a+b<=Aa g/\Aa g<a+(N12+1)/\Aa g %b=0/\a %b=0/\0<=f/\f<b/\b<f+q->T (OG Oa b a q f g) (λr=>0<=r.2/\r.2<=99/\Aa r.1<=4000):=
 ind (λf g hI=>by exfalso;(try simp only[Aa]at *);omega) λq ih f g hI=>by
  rcases(show b=1\/b=2\/b=3\/b=4\/b=5\/b=6 by omega)with rfl|rfl|rfl|rfl|rfl|rfl<;>exact ti (λ_=>tw (tw (tg λ_=>tg λ_=>tw (te (λ_ _=>tj (ih _ _)))))) λ_=>ti (λ_=>tw (tw (tg λ_=>tg λ_=>tw (te (λ_ _=>tj (hb _ _)))))) λ_=>tj (hb _ _)
theorem Ad8(b:Int):∀(q:Nat) (a:Int) (h:LX),1<=b/\b<=6/\Aa h<=4000/\0<=a/\a<=Aa h/\Aa h<a+q/\Aa h %b=0/\a %b=0->T (OU b q a h) (λr=>0<=r.2/\r.2<=99/\Aa r.1<=4000):=
 ind (λa h hI=>by exfalso;(try simp only[Aa]at *);omega) λq ih a h hI=>by
  rcases(show b=1\/b=2\/b=3\/b=4\/b=5\/b=6 by omega)with rfl|rfl|rfl|rfl|rfl|rfl<;>exact ti (λ_=>tv (tj (Azp _ _ ih Aq _ _))) λ_=>ts
theorem Ahe(b:Int)(o:LX)(hP:True):T (X0 b o) (λr=>0<=r.2/\r.2<=99/\Aa r.1<=4000):=
 tb (C3 _ _) λ_ _=>ti (λ_=>ts) λ_=>tb (Sg _) λ_ _=>tj (Ad8 _ Aq _ _)
theorem Afy(b:Int)(f g:LX)(a:Int32)(hP:Aa f=16/\Aa g=16):T (PC b f g a) (λr=>0<=r.2.2.2.2/\r.2.2.2.2<=99/\Aa r.2.2.1=16/\Aa r.2.2.2.1=16):=
 tb (tM _ _ _) λ⟨_,_⟩ _=>ti (λ_=>ts) λ_=>tb (qE _ _ _ _ _) λ⟨_,_,_⟩ _=>ts
theorem Ach(a:Int)(b:Int32)(f:Int)(g h:LX)(k:Int32)(hP:Aa g=16/\Aa h=16):T (Un a b f g h k) (λr=>0<=r.2.2.2.2.2.2/\r.2.2.2.2.2.2<=99/\Aa r.2.2.2.2.1=16/\Aa r.2.2.2.2.2.1=16):=
 tb (lQ _ _ _ _ _) λ_ _=>ti (λ_=>ts) λ_=>tb (mL _ _) λ⟨_,_⟩ _=>tb (Afy _ _ _ _) λ⟨_,_,_,_,_⟩ _=>ts
theorem yL(a:Int32)(hP:True):T (wP a) (λ_=>True):=
 ts
theorem Alh(b:LX)(a f:Int):∀(q:Nat) (g:Int) (k:List (Int×Int32×(Int×LX×LX×Unit)×Unit)) (h:LU),0<=g/\g<= (Aa b)/\ (Aa b)<g+q/\ (Aa b)<=17179869184/\1<=a/\a<=6/\Aa b<=4000/\Aa k=6/\Dq Ty k/\Aa h=g->T (Pa b a f q g k h) (λr=>0<=r.2/\r.2<=99/\Aa r.1<=4000/\ (r.2=0->1<=a/\a<=6)):=
 ind (λg k h hI=>by exfalso;(try simp only[Aa]at *);omega) λq ih g k h hI=>ti (λ_=>tg λ_=>tg λ_=>tw (tAr (p:=Ty) λ_ _=>tAr (p:=Ty) λ_ _=>tb (Ach _ _ _ _ _ _) λ⟨_,_,_,_,_,_,_⟩ _=>ti (λ_=>ts) λ_=>tSr (p:=Ty) (λ_ _=>tb (yL _) λ_ _=>ta (tj (ih _ _ _))))) λ_=>ts
theorem Aog(a f:Int)(n b:LX):∀(q:Nat) (o:Int) (m:List (Int×Int32×(Int×LX×LX×Unit)×Unit)),0<=o/\o<=6/\6<o+q/\1<=a/\a<=6/\Aa n=16/\Aa b<=4000/\Aa m=6/\Dq Ty m->T (Qz a f n b q o m) (λr=>0<=r.2/\r.2<=99/\Aa r.1<=4000/\ (r.2=0->1<=a/\a<=6)):=
 ind (λo m hI=>by exfalso;(try simp only[Aa]at *);omega) λq ih o m hI=>ti (λ_=>tb (A8 _ _) λ⟨_,_,_,_,_,_⟩ _=>tA (p:=Ty) λ_ _=>tS (p:=Ty) (λ_ _=>tj (ih _ _))) λ_=>tj (Alh _ _ _ Aq _ _ _)
theorem Ayz(a f:Int)(n y:LX)(hP:Aa n=16):T (JK a f n y) (λr=>0<=r.2/\r.2<=99/\Aa r.1<=4000/\ (r.2=0->1<=a/\a<=6)):=
 tb (Aak _ _ _) λ_ _=>ti (λ_=>ts) λ_=>tb (Ahe _ _) λ⟨_,_⟩ _=>ti (λ_=>ts) λ_=>tj (Aog _ _ _ _ Aq _ _)
theorem Ank:∀(q:Nat) (b:Int) (a:List (Int×Int×UInt64×UInt64×Unit)),0<=b/\b<=6/\6<b+q/\Aa a=6->T (Qr q b a) (λr=>Aa r=6):=
 ind (λb a hI=>by exfalso;(try simp only[Aa]at *);omega) λq ih b a hI=>ti (λ_=>tb (sR) λ⟨_,_,_,_⟩ _=>tg λ_=>te (λ_ _=>tj (ih _ _))) λ_=>ts
theorem Awu(hP:True):T (AX) (λr=>Aa r=6):=
 (by unfold AX Zs OJ;exact tj (Ank Aq _ _))
theorem B5(a:LB)(b:Int)(h:Aa a<=42000):SU a b=some (a,b):=by
  unfold SU Bk Ba pP;unfold Aa at h;rw[B! F6];rfl
theorem Adi(b:UInt64)(a:Int):∀(q:Nat) (m:UInt64) (h:Int) (f:Int) (o:LB),0<=h/\h<=64/\h<q/\0<=f/\f+h<=330000/\Aa o=(f+7)/8/\f+h<=y+64->T (HL b a q m h f o) (λr=>0<=r.2.2/\r.2.2<=99/\Aa r.1=(r.2.1+7)/8/\0<=r.2.1/\r.2.1<=330000/\ (r.2.2=0->r.2.1<=y+64)):=
 ind (λm h f o hI=>by exfalso;(try simp only[Aa]at *);omega) λq ih m h f o hI=>ti (λ_=>ti (λ_=>ta (tg λ_=>tw (tw (tg λ_=>tg λ_=>te (λ_ _=>tw (tj (ih _ _ _ _))))))) λ_=>tg λ_=>tw (tw (tg λ_=>tg λ_=>te (λ_ _=>tw (tj (ih _ _ _ _)))))) λ_=>ts
theorem Ago(b:UInt64)(a:Int):∀(q:Nat) (n:UInt64) (k:Int) (g:Int) (p:LB),0<=k/\k<=64/\k<q/\0<=g/\g+k<=330000/\Aa p=(g+7)/8/\g+k<=y+64->T (HS b a q n k g p) (λr=>0<=r.2.2/\r.2.2<=99/\Aa r.1=(r.2.1+7)/8/\0<=r.2.1/\r.2.1<=330000/\ (r.2.2=0->r.2.1<=y+64)):=
 ind (λn k g p hI=>by exfalso;(try simp only[Aa]at *);omega) λq ih n k g p hI=>ti (λ_=>ti (λ_=>ta (tg λ_=>tw (tw (tg λ_=>tg λ_=>te (λ_ _=>tw (tj (ih _ _ _ _))))))) λ_=>tg λ_=>tw (tw (tg λ_=>tg λ_=>te (λ_ _=>tw (tj (ih _ _ _ _)))))) λ_=>ts
theorem LW(ac:LB)(y:Int)(b:UInt64)(a:Int)(hP:True):T (UA ac y b a) (λr=>0<=r.2.2/\r.2.2<=99/\Aa r.1=(r.2.1+7)/8/\0<=r.2.1/\r.2.1<=330000/\ (r.2.2=0->r.2.1<=y+64)):=
 tb (Jr _ _) λ_ _=>ti (λ_=>ts) λ_=>ti (λ_=>ts) λ_=>ti (λ_=>tw (ti (λ_=>ts) λ_=>ti (λ_=>ts) λ_=>tQ (B5 _ _) (tj (Adi _ _ Aq _ _ _ _)))) λ_=>ti (λ_=>ts) λ_=>tQ (B5 _ _) (tj (Ago _ _ Aq _ _ _ _))
theorem Awn(a:Int)(hP:True):T (YJ a) (λr=>0<=r.2/\r.2<=99/\ (r.2=0->0<=a/\a<=48)):=
 ti (λ_=>ts) λ_=>ts
theorem lV(b:LB)(f a:Int)(hP:True):T (gS b f a) (λr=>0<=r.2.2/\r.2.2<=99/\Aa r.1=(r.2.1+7)/8/\0<=r.2.1/\r.2.1<=330000/\ (r.2.2=0->r.2.1<=f+64)):=
 tb (Jr _ _) λ_ _=>ti (λ_=>ts) λ_=>tb (Awn _) λ⟨_,_⟩ _=>ti (λ_=>ts) λ_=>tw (tb (LW _ _ _ _) λ⟨_,_,_⟩ _=>ts)
theorem Axt(b:LB)(f:Int)(g:UInt32)(a:Int)(hP:True):T (nQ b f g a) (λr=>0<=r.2.2/\r.2.2<=99/\Aa r.1=(r.2.1+7)/8/\0<=r.2.1/\r.2.1<=330000/\ (r.2.2=0->r.2.1<=f+128)):=
 tb (Jr _ _) λ_ _=>ti (λ_=>ts) λ_=>ti (λ_=>ts) λ_=>tw (tw (tb (iW _ _) λ_ _=>ti (λ_=>tb (lV _ _ _) λ⟨_,_,_⟩ _=>ti (λ_=>ts) λ_=>tb (LW _ _ _ _) λ⟨_,_,_⟩ _=>ts) λ_=>tb (lV _ _ _) λ⟨_,_,_⟩ _=>ti (λ_=>ts) λ_=>tb (LW _ _ _ _) λ⟨_,_,_⟩ _=>ts))
theorem Hk(b:UInt32)(f:Int)(a:UInt64)(k:Int)(m:LB)(n:Int)(o:UInt64)(hP:0<=f/\f<=24/\Aa m=(k+7)/8/\0<=k/\k<=330000/\k<=w+200):T (PQ b f a k m n o) (λr=>0<=r.2.2.2.2.2.2/\r.2.2.2.2.2.2<=99/\Aa r.1=(r.2.1+7)/8/\0<=r.2.1/\r.2.1<=330000/\ (r.2.2.2.2.2.2=0->r.2.1<=w+200)):=
 ti (λ_=>tw (ti (λ_=>ts) λ_=>ti (λ_=>tw (ti (λ_=>ts) λ_=>ts)) λ_=>ts)) λ_=>ti (λ_=>tw (ti (λ_=>ts) λ_=>ts)) λ_=>ts
theorem GH(b:UInt32)(f h:Int)(a g:UInt64)(ac k:Int)(m:LB)(hP:0<=f/\f<=24/\0<=h/\h<=24/\0<=ac/\ac<=99/\Aa m=(k+7)/8/\0<=k/\k<=330000/\ (ac=0->k<=w+200)):T (mE b f h a g ac k m) (λr=>0<=r.2.2.2.2.2.2/\r.2.2.2.2.2.2<=99/\Aa r.1=(r.2.1+7)/8/\0<=r.2.1/\r.2.1<=330000/\ (r.2.2.2.2.2.2=0->r.2.1<=w+200)):=
 ti (λ_=>ts) λ_=>tb (XB _ _ _ _ _) λ⟨_,_⟩ _=>ti (λ_=>ti (λ_=>tw (ti (λ_=>tj (Hk _ _ _ _ _ _ _)) λ_=>ti (λ_=>tw (ti (λ_=>tj (Hk _ _ _ _ _ _ _)) λ_=>tj (Hk _ _ _ _ _ _ _))) λ_=>tj (Hk _ _ _ _ _ _ _))) λ_=>ti (λ_=>tw (ti (λ_=>tj (Hk _ _ _ _ _ _ _)) λ_=>tj (Hk _ _ _ _ _ _ _))) λ_=>tj (Hk _ _ _ _ _ _ _)) λ_=>tj (Hk _ _ _ _ _ _ _)
theorem Af1(v:LB)(w f h:Int)(a g:UInt64)(b:UInt32)(hP:True):T (nN v w f h a g b) (λr=>0<=r.2.2.2.2.2.2/\r.2.2.2.2.2.2<=99/\Aa r.1=(r.2.1+7)/8/\0<=r.2.1/\r.2.1<=330000/\ (r.2.2.2.2.2.2=0->r.2.1<=w+200)):=
 tb (Jr _ _) λ_ _=>ti (λ_=>ts) λ_=>tb (rD _ _ _ _) λ_ _=>ti (λ_=>ts) λ_=>tb (XB _ _ _ _ _) λ⟨_,_⟩ _=>tb (LW _ _ _ _) λ⟨_,_,_⟩ _=>ti (λ_=>tb (LW _ _ _ _) λ⟨_,_,_⟩ _=>tj (GH _ _ _ _ _ _ _ _)) λ_=>ti (λ_=>tb (Axt _ _ _ _) λ⟨_,_,_⟩ _=>tj (GH _ _ _ _ _ _ _ _)) λ_=>tj (GH _ _ _ _ _ _ _ _)
theorem Ala{N27:Nat}{Uk:Int-> (List (Int×Int×UInt64×UInt64×Unit))->Int->LB->Bj}(b:LU)(a g h f:Int)(n:List (Int×Int×UInt64×UInt64×Unit))(m:LB)(hb:∀(f:Int) (u:List (Int×Int×UInt64×UInt64×Unit)) (v:Int) (p:LB),0<=f/\f<= (Aa b)/\ (Aa b)<f+N27/\ (Aa b)<=17179869184/\Aa b<=4000/\1<=a/\a<=6/\Aa u=6/\0<=v/\v<=200*f/\Aa p=(v+7)/8->T (Uk f u v p) (λr=>0<=r.2/\r.2<=99/\Aa r.1<=200000)):∀(q:Nat) (o:Int) (k:Int) (w:LB),Aa b<=4000/\1<=a/\a<=6/\Aa n=6/\0<=f/\f<Aa b/\Aa b<f+(N27+1)/\0<=o/\o<=h/\h<o+q/\h<=200/\Aa m=(h+7)/8/\o<=k/\k<=200*f+o/\Aa w=(k+7)/8->T (Pj Uk b a g h f n m q o k w) (λr=>0<=r.2/\r.2<=99/\Aa r.1<=200000):=
 ind (λo k w hI=>by exfalso;(try simp only[Aa]at *);omega) λq ih o k w hI=>ti (λ_=>ti (λ_=>ta (tg λ_=>tg λ_=>tw (tg λ_=>tw (tg λ_=>tg λ_=>te (λ_ _=>tj (ih _ _ _)))))) λ_=>tg λ_=>tg λ_=>tw (tg λ_=>tw (tg λ_=>tg λ_=>te (λ_ _=>tj (ih _ _ _))))) λ_=>tj (hb _ _ _ _)
theorem Aln(b:LU)(a g:Int):∀(q:Nat) (f:Int) (u:List (Int×Int×UInt64×UInt64×Unit)) (v:Int) (p:LB),0<=f/\f<= (Aa b)/\ (Aa b)<f+q/\ (Aa b)<=17179869184/\Aa b<=4000/\1<=a/\a<=6/\Aa u=6/\0<=v/\v<=200*f/\Aa p=(v+7)/8->T (Pd b a g q f u v p) (λr=>0<=r.2/\r.2<=99/\Aa r.1<=200000):=
 ind (λf u v p hI=>by exfalso;(try simp only[Aa]at *);omega) λq ih f u v p hI=>ti (λ_=>tg λ_=>tg λ_=>tw (tr λ_=>tr λ_=>tb (Af1 _ _ _ _ _ _ _) λ⟨_,_,_,_,_,_,_⟩ _=>ti (λ_=>ts) λ_=>tw (tr λ_=>tir (λ_ _=>tj (Ala _ _ _ _ _ _ _ ih Aq _ _ _))))) λ_=>tb (Ye _) λ⟨_,_⟩ _=>ti (λ_=>ts) λ_=>tb (Po _ _) λ⟨_,_⟩ _=>ti (λ_=>ts) λ_=>tb (tT _ _) λ_ _=>ts
theorem UB(a g:Int)(ap aq:LX)(hP:Aa ap=16):T (BT a g ap aq) (λr=>0<=r.2/\r.2<=99/\Aa r.1<=200000):=
 tb (Ayz _ _ _ _) λ⟨_,_⟩ _=>ti (λ_=>ts) λ_=>tb (Awu) λ_ _=>tj (Aln _ _ _ Aq _ _ _ _)
theorem Zc(b f g:Int)(h k:LB)(m:LX)(n:List LB)(o:LB)(p:Bool)(u a:Int)(hP:0<=a/\a<=99):T (To b f g h k m n o p u a) (λr=>r.2.2.2.2.2.2.2.2.2.2=a/\PE r.2.2.2.2.1 r.2.2.2.2.2.1 r.2.2.2.2.2.2.1 r.2.2.2.2.2.2.2.1 r.2.2.2.2.2.2.2.2.2.1):=
 ts
theorem Ia{N14:Nat}{Yq:Int->LB->LX->List LB->Bl}(p:Int)(n:LB)(a b g:Int)(f:LB)(h:Bool)(k o:Int)(m:LB)(u ad:Int)(ae:LB)(af:LX)(ag:List LB)(hb:∀(u:Int) (y:LB) (w:LX) (v:List LB),0<=u/\u<= (Aa n)/\ (Aa n)<u+N14/\ (Aa n)<=17179869184/\Aa n<=100000/\1<=a/\a<=6/\8<=b/\b<=24/\b %8=0/\p<=18/\Aa y<=18/\Aa w<=4000+20*u/\Aa v<=1000+u/\Dq (Le 200000) v/\Aa m<=17179869184/\k=0->T (Yq u y w v) (λr=>0<=r.2.2.2.2.2.2.2.2.2.2/\r.2.2.2.2.2.2.2.2.2.2<=99/\PE r.2.2.2.2.1 r.2.2.2.2.2.1 r.2.2.2.2.2.2.1 r.2.2.2.2.2.2.2.1 r.2.2.2.2.2.2.2.2.2.1))(hP:0<=ad/\ad<=99/\ (ad=0->Aa ae<=18)/\Aa af<=4000+20*(u+1)/\Aa ag<=1000+u+1/\Dq (Le 200000) ag/\0<=u/\u<Aa n/\Aa n<u+(N14+1)/\Aa n<=100000/\1<=a/\a<=6/\8<=b/\b<=24/\b %8=0/\p<=18/\Aa m<=17179869184/\k=0):T (Kn Yq p n a b g f h k o m u ad ae af ag) (λr=>0<=r.2.2.2.2.2.2.2.2.2.2/\r.2.2.2.2.2.2.2.2.2.2<=99/\PE r.2.2.2.2.1 r.2.2.2.2.2.1 r.2.2.2.2.2.2.1 r.2.2.2.2.2.2.2.1 r.2.2.2.2.2.2.2.2.2.1):=
 ti (λ_=>tb (Zc _ _ _ _ _ _ _ _ _ _ _) λ⟨_,_,_,_,_,_,_,_,_,_,_⟩ _=>ts) λ_=>(by unfold My CV;exact tj (hb _ _ _ _))
theorem Arv(p:Int)(n:LB)(a b g:Int)(f:LB)(h:Bool)(k o:Int)(m:LB):∀(q:Nat) (u:Int) (y:LB) (w:LX) (v:List LB),0<=u/\u<= (Aa n)/\ (Aa n)<u+q/\ (Aa n)<=17179869184/\Aa n<=100000/\1<=a/\a<=6/\8<=b/\b<=24/\b %8=0/\p<=18/\Aa y<=18/\Aa w<=4000+20*u/\Aa v<=1000+u/\Dq (Le 200000) v/\Aa m<=17179869184/\k=0->T (Kl p n a b g f h k o m q u y w v) (λr=>0<=r.2.2.2.2.2.2.2.2.2.2/\r.2.2.2.2.2.2.2.2.2.2<=99/\PE r.2.2.2.2.1 r.2.2.2.2.2.1 r.2.2.2.2.2.2.1 r.2.2.2.2.2.2.2.1 r.2.2.2.2.2.2.2.2.2.1):=
 ind (λu y w v hI=>by exfalso;(try simp only[Aa]at *);omega) λq ih u y w v hI=>ti (λ_=>tg λ_=>ta (ti (λ_=>(by unfold My CV;exact tj (ih _ _ _ _))) λ_=>tb (Wb _ _ _ _ _ _ _ _ _ _ _) λ_ _=>tb (IW _ _ _ _ _ _ _ _ _ _ _ _) λ_ _=>ti (λ_=>tj (Ia _ _ _ _ _ _ _ _ _ _ _ _ _ _ _ ih)) λ_=>tb (We _ _) λ⟨_,_⟩ _=>ti (λ_=>tj (Ia _ _ _ _ _ _ _ _ _ _ _ _ _ _ _ ih)) λ_=>ta (ti (λ_=>tj (Ia _ _ _ _ _ _ _ _ _ _ _ _ _ _ _ ih)) λ_=>tb (Rz _) λ⟨_,_⟩ _=>ti (λ_=>(by unfold DL CQ;exact tj (Ia _ _ _ _ _ _ _ _ _ _ _ _ _ _ _ ih))) λ_=>tb (UB _ _ _ _) λ⟨_,_⟩ _=>ti (λ_=>(by unfold DL CQ;exact tj (Ia _ _ _ _ _ _ _ _ _ _ _ _ _ _ _ ih))) λ_=>ta ((by unfold SL VC;exact tj (Ia _ _ _ _ _ _ _ _ _ _ _ _ _ _ _ ih)))))) λ_=>ts
theorem Ar9(bl bm bn:Int)(bp bq:LB)(br:LX)(bs:List LB)(bt:LB)(bu:Bool)(bv:Int)(n:LB)(hP:PE bq br bs bt bv/\Aa n<=100000):T (WW bl bm bn bp bq br bs bt bu bv n) (λr=>0<=r.2.2.2.2.2.2.2.2.2.2/\r.2.2.2.2.2.2.2.2.2.2<=99/\PE r.2.2.2.2.1 r.2.2.2.2.2.1 r.2.2.2.2.2.2.1 r.2.2.2.2.2.2.2.1 r.2.2.2.2.2.2.2.2.2.1):=
 tb (ZY _ _ _ _ _ _ _ _ _ _) λ⟨_,_,_,_,_,_,_,_,_,_,_,_⟩ _=>ti (λ_=>ts) λ_=>tb (UE _ _) λ_ _=>tj (Arv _ _ _ _ _ _ _ _ _ _ Aq _ _ _ _)
theorem Ac8(a:LB)(hP:True):T (QT a) (λr=>0<=r.2/\r.2<=99):=
 ti (λ_=>ts) λ_=>ti (λ_=>ts) λ_=>ts
theorem Au4(b f g h k:Int):∀(q:Nat) (m:Int) (a:LB),0<=m/\m<=5/\5<m+q/\Aa a<=4+8*m->T (Vv b f g h k q m a) (λr=>0<=r.2/\r.2<=99/\Aa r.1<=100):=
 ind (λm a hI=>by exfalso;(try simp only[Aa]at *);omega) λq ih m a hI=>ti (λ_=>th λ_ _=>th λ_ _=>tb (Po _ _) λ⟨_,_⟩ _=>ta (tj (ih _ _))) λ_=>tb (Ye _) λ⟨_,_⟩ _=>tb (Po _ _) λ⟨_,_⟩ _=>ta (ts)
theorem Adp(b f g h k:Int)(hP:True):T (XX b f g h k) (λr=>0<=r.2/\r.2<=99/\Aa r.1<=100):=
 tb (gN _ _ _ _ _) λ_ _=>ti (λ_=>ts) λ_=>tj (Au4 _ _ _ _ _ Aq _ _)
theorem Ayx(a:LI):∀(q:Nat) (f:Int) (b:LB),0<=f/\f<= (Aa a)/\ (Aa a)<f+q/\ (Aa a)<=17179869184/\Aa a<=1000/\Aa b<=8*f->T (Yu a q f b) (λr=>0<=r.2/\r.2<=99/\Aa r.1<=9000):=
 ind (λf b hI=>by exfalso;(try simp only[Aa]at *);omega) λq ih f b hI=>ti (λ_=>tg λ_=>tb (Po _ _) λ⟨_,_⟩ _=>ta (tj (ih _ _))) λ_=>tb (Ye _) λ⟨_,_⟩ _=>tb (Po _ _) λ⟨_,_⟩ _=>ta (ts)
theorem Ayc(a:LI)(hP:True):T (OQ a) (λr=>0<=r.2/\r.2<=99/\Aa r.1<=9000):=
 tb (Vg _) λ_ _=>ti (λ_=>ts) λ_=>tj (Ayx _ Aq _ _)
theorem NM(a:List LB)(f g h:Int)(b k:LB)(m:LX)(n:LB)(o:Bool)(p:Int)(u:LB):∀(q:Nat) (w:Int) (v:LI),0<=w/\w<= (Aa a)/\ (Aa a)<w+q/\ (Aa a)<=17179869184/\Aa a<=1001/\Dq (Le 200000) a/\Aa v=w/\Aa u<=200->T (Wh a f g h b k m n o p u q w v) (λr=>0<=r.2/\r.2<=99/\Aa r.1<=1000000000):=
 ind (λw v hI=>by exfalso;(try simp only[Aa]at *);omega) λq ih w v hI=>ti (λ_=>tg λ_=>ta (tj (ih _ _))) λ_=>tb (Ayc _) λ⟨_,_⟩ _=>ti (λ_=>ts) λ_=>ta (tb (Ad4 _) λ_ _=>ta (ts))
theorem Ad9(f g h:Int)(b k:LB)(m:LX)(a:List LB)(n:LB)(o:Bool)(p ak:Int)(hP:Aa a<=1001/\Dq (Le 200000) a):T (YU f g h b k m a n o p ak) (λr=>0<=r.2/\r.2<=99/\Aa r.1<=1000000000):=
 tb (Ac8 _) λ⟨_,_⟩ _=>ti (λ_=>ts) λ_=>tb (Adp _ _ _ _ _) λ⟨_,_⟩ _=>ti (λ_=>ts) λ_=>ti (λ_=>tb (iA _) λ⟨_,_⟩ _=>ti (λ_=>ts) λ_=>ta (tj (NM _ _ _ _ _ _ _ _ _ _ _ Aq _ _))) λ_=>tj (NM _ _ _ _ _ _ _ _ _ _ _ Aq _ _)
theorem HE(o a b g:Int)(f:LB)(k:Bool)(m:Int)(h n:LB)(ab:LX)(ac:List LB)(hP:Aa ac<=1001/\Dq (Le 200000) ac):T (AY o a b g f k m h n ab ac) (λr=>0<=r.2.2.2.2.2.2.2.2.2.2/\r.2.2.2.2.2.2.2.2.2.2<=99/\Aa r.2.2.2.2.2.2.2.1<=17179869184):=
 tb (Ad9 _ _ _ _ _ _ _ _ _ _ _) λ⟨_,_⟩ _=>ti (λ_=>tb (Zc _ _ _ _ _ _ _ _ _ _ _) λ⟨_,_,_,_,_,_,_,_,_,_,_⟩ _=>ts) λ_=>ts
theorem Uh(o a b g:Int)(f:LB)(k:Bool)(m:Int)(h n:LB)(ad:Int)(ae:LX)(af:List LB)(hP:0<=ad/\ad<=99/\Aa af<=1001/\Dq (Le 200000) af):T (NV o a b g f k m h n ad ae af) (λr=>0<=r.2.2.2.2.2.2.2.2.2.2/\r.2.2.2.2.2.2.2.2.2.2<=99/\Aa r.2.2.2.2.2.2.2.1<=17179869184):=
 ti (λ_=>tb (Zc _ _ _ _ _ _ _ _ _ _ _) λ⟨_,_,_,_,_,_,_,_,_,_,_⟩ _=>ts) λ_=>tj (HE _ _ _ _ _ _ _ _ _ _ _)
theorem Aw4(bb bc bd:Int)(be bf:LB)(bg:LX)(bh:List LB)(bi:LB)(bj:Bool)(bk:Int)(hP:PE bf bg bh bi bk):T (IY bb bc bd be bf bg bh bi bj bk) (λr=>0<=r.2.2.2.2.2.2.2.2.2.2/\r.2.2.2.2.2.2.2.2.2.2<=99/\Aa r.2.2.2.2.2.2.2.1<=17179869184):=
 tb (ZY _ _ _ _ _ _ _ _ _ _) λ⟨_,_,_,_,_,_,_,_,_,_,_,_⟩ _=>ti (λ_=>ts) λ_=>tb (Wb _ _ _ _ _ _ _ _ _ _ _) λ_ _=>ti (λ_=>tb (Zc _ _ _ _ _ _ _ _ _ _ _) λ⟨_,_,_,_,_,_,_,_,_,_,_⟩ _=>ts) λ_=>ti (λ_=>tb (Rz _) λ⟨_,_⟩ _=>ti (λ_=>tj (Uh _ _ _ _ _ _ _ _ _ _ _ _)) λ_=>tb (UB _ _ _ _) λ⟨_,_⟩ _=>ti (λ_=>tj (Uh _ _ _ _ _ _ _ _ _ _ _ _)) λ_=>ta (tj (Uh _ _ _ _ _ _ _ _ _ _ _ _))) λ_=>tj (HE _ _ _ _ _ _ _ _ _ _ _)
theorem Avr(ax av ay:Int)(az:LX)(bd:LB)(hP:True):T (IU ax av ay az bd) (λr=>0<=r.2/\r.2<=99/\Aa r.1<=17179869184):=
 tb (sS _ _ _ _) λ_ _=>ti (λ_=>ts) λ_=>tb (Qd _ _) λ⟨_,_⟩ _=>ti (λ_=>ts) λ_=>tb (Axs _ _ _ _) λ⟨_,_,_,_,_,_,_,_,_,_,_⟩ _=>ti (λ_=>ts) λ_=>tb (Ar9 _ _ _ _ _ _ _ _ _ _ _) λ⟨_,_,_,_,_,_,_,_,_,_,_⟩ _=>ti (λ_=>ti (λ_=>ts) λ_=>ts) λ_=>tb (Aw4 _ _ _ _ _ _ _ _ _ _) λ⟨_,_,_,_,_,_,_,_,_,_,_⟩ _=>ti (λ_=>ts) λ_=>ts
end Go.Pl
set_option maxRecDepth 4000
set_option maxHeartbeats 3000000
namespace Go.Pl
open Go Go.Lv
variable{zf zb h:LB}{i:Nat}{α:Type}
theorem Ar3(a e:Int)(h:0<=e/\e<=99/\Fz a):T (Eh [a] e) (λr=>Aa r<=200/\Dq Nl r):=tm (Mz _ _ ⟨h.1,h.2.1,by simp[Aa],Bc h.2.2⟩) λr hr=>⟨VX hr.1 (by simp[Aa]),hr.2⟩
theorem Aq8(a b e:Int)(h:0<=e/\e<=99/\Fz a/\Fz b):T (Eh [a,b] e) (λr=>Aa r<=200/\Dq Nl r):=tm (Mz _ _ ⟨h.1,h.2.1,by simp[Aa],all_cons h.2.2.1 (Bc h.2.2.2)⟩) λr hr=>⟨VX hr.1 (by simp[Aa]),hr.2⟩
theorem Aq5(a:UInt8)(b c e:Int)(h:0<=e/\e<=99/\Fz b/\Fz c):T (Eh [(Al a:Int),b,c] e) (λr=>Aa r<=200/\Dq Nl r):=tm (Mz _ _ ⟨h.1,h.2.1,by simp[Aa],all_cons (Hr a) (all_cons h.2.2.1 (Bc h.2.2.2))⟩) λr hr=>⟨VX hr.1 (by simp[Aa]),hr.2⟩
theorem Ard(a:Int)(b:UInt8)(c d e:Int)(h:0<=e/\e<=99/\Fz a/\Fz c/\Fz d):T (Eh [a,(Al b:Int),c,d] e) (λr=>Aa r<=200/\Dq Nl r):=tm (Mz _ _ ⟨h.1,h.2.1,by simp[Aa],all_cons h.2.2.1 (all_cons (Hr b) (all_cons h.2.2.2.1 (Bc h.2.2.2.2)))⟩) λr hr=>⟨VX hr.1 (by simp[Aa]),hr.2⟩
theorem Adz(g a:LB)(k:LI)(hP:Aa k=1/\Aa g<=100000/\Aa a<=64/\ (g=zf/\a=zb\/Mu h)/\Mu h/\ (∀x,Af k 0=some x->0<=x/\x<=Aa g)):T (Oj g a k) (λr=>Aa r.2.1<=100000/\Aa r.2.2<=64/\Aa r.1<=800000000/\Dq Nl r.1/\ (r.2.1=zf/\r.2.2=zb\/Mu h)):=
 by
  obtain⟨_,_,_,_,_,_⟩:=hP;exact tE λ_ _=>tE λ_ _=>tc λ_ _=>tb (Um _) λ_ _=>ti (λh=>absurd h F5) λ_=>ti (λ_=>tb (Bf _) λ_ _=>ts) λ_=>tb (Bv _) λ_ _=>ts
theorem Ad7(w:LI)(g a:LB)(p u v:Int):∀(q:Nat) (af:Int) (ac:LX),0<=af/\af<= (Aa w)/\ (Aa w)<af+q/\ (Aa w)<=17179869184/\Aa w<=100000/\Mu h/\Aa a<=64/\Aa g<=100000/\Aa ac=af->T (Jd w g a p u v q af ac) (λr=>Aa r.2.1<=100000/\Aa r.2.2<=64/\Aa r.1<=800000000/\Dq Nl r.1/\ (r.2.1=zf/\r.2.2=zb\/Mu h)):=
 ind (λaf ac hI=>by exfalso;(try simp only[Aa]at *);omega) λq ih af ac hI=>ti (λ_=>tg λ_=>ta (tj (ih _ _))) λ_=>tb (Avr _ _ _ _ _) λ⟨_,_⟩ _=>ti (λ_=>tb (Bf _) λ_ _=>ts) λ_=>ti (λ_=>tb (Bf _) λ_ _=>ts) λ_=>tb (Bv _) λ_ _=>ts
theorem Ads(h g a:LB)(k:LI)(hP:Aa k<=100000/\Aa g<=100000/\Aa a<=64/\ (g=zf/\a=zb\/Mu h)):T (Ph h g a k) (λr=>Aa r.2.1<=100000/\Aa r.2.2<=64/\Aa r.1<=800000000/\Dq Nl r.1/\ (r.2.1=zf/\r.2.2=zb\/Mu h)):=
 by
  obtain⟨_,_,_,_⟩:=hP;exact wo (λ_=>ti (λ_=>tE λ_ _=>tE λ_ _=>ti (λ_=>tb (Bf _) λ_ _=>ts) λ_=>tE λ_ _=>tE λ_ _=>ti (λ_=>tb (Bf _) λ_ _=>ts) λ_=>tj (Adz _ _ _)) λ_=>ts) (wo (λ_=>ti (λ_=>tE λ_ _=>tE λ_ _=>tb (Adc _ _ _) λ⟨_,_,_,_,_⟩ _=>tb (Aq5 _ _ _ _) λ_ _=>ts) λ_=>ts) (wo (λ_=>ti (λ_=>tE λ_ _=>tE λ_ _=>tb (Zl _ _ _) λ⟨_,_⟩ _=>tb (Vn _ _) λ_ _=>ts) λ_=>ts) (wo (λ_=>ti (λ_=>tE λ_ _=>tE λ_ _=>tb (mJ _ _ _) λ⟨_,_⟩ _=>tb (Vn _ _) λ_ _=>ts) λ_=>ts) (wo (λ_=>ti (λ_=>tE λ_ _=>tE λ_ _=>tb (yA _ _ _) λ⟨_,_⟩ _=>tb (Vn _ _) λ_ _=>ts) λ_=>ts) (wo (λ_=>ti (λ_=>tE λ_ _=>tE λ_ _=>ti (λ_=>tb (Bf _) λ_ _=>ts) λ_=>tE λ_ _=>tE λ_ _=>ti (λ_=>tb (Bf _) λ_ _=>ts) λ_=>tE λ_ _=>tE λ_ _=>tE λ_ _=>tE λ_ _=>tb (Aaz _ _ _) λ⟨_,_⟩ _=>ti (λ_=>tb (Bf _) λ_ _=>ts) λ_=>ti (λ_=>tb (Bf _) λ_ _=>ts) λ_=>tb (Bv _) λ_ _=>ts) λ_=>ts) (wo (λ_=>ti (λ_=>tE λ_ _=>tE λ_ _=>ti (λ_=>tb (Bf _) λ_ _=>ts) λ_=>tE λ_ _=>tE λ_ _=>tE λ_ _=>tE λ_ _=>tb (Awj _ _ _) λ⟨_,_⟩ _=>ti (λ_=>tb (Bf _) λ_ _=>ts) λ_=>ti (λ_=>tb (Bf _) λ_ _=>ts) λ_=>tb (Bv _) λ_ _=>ts) λ_=>ts) (wo (λ_=>ti (λ_=>tE λ_ _=>tE λ_ _=>tE λ_ _=>tE λ_ _=>tb (Ax7 _ _ _ _) λ⟨_,_⟩ _=>tb (Ar3 _ _) λ_ _=>ts) λ_=>ts) (wo (λ_=>ti (λ_=>tE λ_ _=>tE λ_ _=>tE λ_ _=>tE λ_ _=>tE λ_ _=>tE λ_ _=>tc λ_ _=>tj (Ad7 _ _ _ _ _ _ Aq _ _)) λ_=>ts) (ti (λh=>absurd h F7) λ_=>ts)))))))))
theorem Ae2(h:LB)(m:List LB)(g a:LB):∀(q:Nat) (y:Int) (k:LI),0<=y/\y<= (Aa m)/\ (Aa m)<y+q/\ (Aa m)<=17179869184/\Dq (Wd 100000) m/\Aa m<=100000/\Aa g<=100000/\Aa a<=64/\ (g=zf/\a=zb\/Mu h)/\Aa k=y->T (Ju h m g a q y k) (λr=>Aa r.2.1<=100000/\Aa r.2.2<=64/\Aa r.1<=800000000/\Dq Nl r.1/\ (r.2.1=zf/\r.2.2=zb\/Mu h)):=
 ind (λy k hI=>by exfalso;(try simp only[Aa]at *);omega) λq ih y k hI=>ti (λ_=>tB (p:=Wd 100000) λ_ _ _=>tb (RG _) λ⟨_,_⟩ _=>ti (λ_=>ts) λ_=>ta (tj (ih _ _))) λ_=>tj (Ads _ _ _ _)
theorem Bi(h:LB)(m:List LB)(kh:LB)(ki:Bool)(g a:LB)(hP:Dq (Wd 100000) m/\Aa m<=100000/\Aa g<=100000/\Aa a<=64/\ (g=zf/\a=zb\/Mu h)/\ (ki=true->Aa kh<=800000000/\Dq Nl kh)):T (Dd h m kh ki g a) (λr=>Aa r.2.1<=100000/\Aa r.2.2<=64/\Aa r.1<=800000000/\Dq Nl r.1/\ (r.2.1=zf/\r.2.2=zb\/Mu h)):=
 by
  obtain⟨_,_,_,_,_,_⟩:=hP;exact ti (λ_=>ts) λ_=>(by unfold Zg Cl;exact tj (Ae2 _ _ _ _ Aq _ _))
theorem Ad5(n:List (Int×LB×Unit))(h:LB)(m:List LB)(f b:LB):∀(q:Nat) (ae:Int) (ad:List LB),0<=ae/\ae<= (Aa n)/\ (Aa n)<ae+q/\ (Aa n)<=17179869184/\Dq St n/\Aa n<=1000/\Dq (Wd 100000) m/\Aa m<=100000/\Aa f<=100000/\Aa b<=64/\ (f=zf/\b=zb\/Mu h)/\Dq (Ln 50) ad/\Aa ad<=ae->T (Jb n h m f b q ae ad) (λr=>Aa r.2.1<=100000/\Aa r.2.2<=64/\Aa r.1<=800000000/\Dq Nl r.1/\ (r.2.1=zf/\r.2.2=zb\/Mu h)):=
 ind (λae ad hI=>by exfalso;(try simp only[Aa]at *);omega) λq ih ae ad hI=>ti (λh1=>tA (p:=St) λ_ _=>tA (p:=St) λ_ _=>tb (Bv _) λx r1=>ta (tb (Bv _) λz r2=>ta (ta (ih _ _ (by
  have h0:0<=Aa ad:=by unfold Aa;omega
  have e:Ae ae 1=ae+1:=Hn;simp only[Qe,zi,FL]at h1;rw[e];exact⟨F3,F3,F3,hI.2.2.2.1,hI.2.2.2.2.1,hI.2.2.2.2.2.1,hI.2.2.2.2.2.2.1,hI.2.2.2.2.2.2.2.1,hI.2.2.2.2.2.2.2.2.1,hI.2.2.2.2.2.2.2.2.2.1,hI.2.2.2.2.2.2.2.2.2.2.1,Ad hI.2.2.2.2.2.2.2.2.2.2.2.1 (Bc ⟨by have:=r1.1;have:=r2.1;unfold Aa at *;simp only[B_,I3];omega,Ad (Ad r1.2 (Ch F5)) r2.2⟩),by have:=hI.2.2.2.2.2.2.2.2.2.2.2.2;unfold Aa at *;simp only[B_,I3];omega⟩))))) λ_=>tb (jC (zn:=50) _ _) λ_ _=>(by unfold Ja Gg;exact tj (Bi _ _ _ _ _ _))
theorem Ae0(h:LB)(m:List LB)(f b:LB)(hP:Dq (Wd 100000) m/\Aa m<=100000/\Aa f<=100000/\Aa b<=64/\ (f=zf/\b=zb\/Mu h)):T (Pf h m f b) (λr=>Aa r.2.1<=100000/\Aa r.2.2<=64/\Aa r.1<=800000000/\Dq Nl r.1/\ (r.2.1=zf/\r.2.2=zb\/Mu h)):=
 by
  obtain⟨_,_,_,_,_⟩:=hP;exact ti (λ_=>tB (p:=Wd 100000) λ_ _ _=>ti (λ_=>tb (Bf _) λ_ _=>tj (Bi _ _ _ _ _ _)) λ_=>tB (p:=Wd 100000) λ_ _ _=>tj (Bi _ _ _ _ _ _)) λ_=>ti (λ_=>tB (p:=Wd 100000) λ_ _ _=>tb (Ab5 _) λ⟨_,_⟩ _=>ti (λ_=>tj (Bi _ _ _ _ _ _)) λ_=>wo (λ_=>tb (tT _ _) λ_ _=>ti (λh=>absurd h F5) λ_=>ti (λ_=>tb (Bf _) λ_ _=>(by unfold BM Pk;exact tj (Bi _ _ _ _ _ _))) λ_=>tb (Bv _) λ_ _=>(by unfold AB Ox;exact tj (Bi _ _ _ _ _ _))) (ti (λh=>absurd h F5) λ_=>ti (λ_=>tb (Bf _) λ_ _=>(by unfold Yk Nf;exact tj (Bi _ _ _ _ _ _))) λ_=>tb (Bv _) λ_ _=>(by unfold Xq Nc;exact tj (Bi _ _ _ _ _ _)))) λ_=>ti (λ_=>tb (Abj _) λ⟨_,_⟩ _=>ti (λ_=>tj (Bi _ _ _ _ _ _)) λ_=>wo (λ_=>tb (Azo _ _ _) λ⟨_,_,_⟩ _=>tb (Aq8 _ _ _) λ_ _=>tj (Bi _ _ _ _ _ _)) (tb (bN _ _ _) λ⟨_,_,_,_,_,_,_,_,_,_,_,_,_,_⟩ _=>ti (λ_=>tb (Bf _) λ_ _=>(by unfold Ja Gg;exact tj (Bi _ _ _ _ _ _))) λ_=>tj (Ad5 _ _ _ _ _ Aq _ _))) λ_=>(by unfold Zn Pg;exact tj (Bi _ _ _ _ _ _))
theorem Adr(h:LB)(m:List LB)(f b:LB)(hP:Dq (Wd 100000) m/\Aa m<=100000/\Aa f<=100000/\Aa b<=64/\ (f=zf/\b=zb\/Mu h)):T (Om h m f b) (λr=>Aa r.2.1<=100000/\Aa r.2.2<=64/\Aa r.1<=800000000/\Dq Nl r.1/\ (r.2.1=zf/\r.2.2=zb\/Mu h)):=
 by
  obtain⟨_,_,_,_,_⟩:=hP;exact ti (λ_=>wo (λ_=>ts) (wo (λ_=>ti (λh=>absurd h F5) λ_=>ti (λh=>absurd h F5) λ_=>tb (Bv _) λ_ _=>ts) (wo (λ_=>tb (Vn _ _) λ_ _=>ts) (wo (λ_=>tb (Aey _ _) λ⟨_,_,_,_,_,_,_,_,_,_,_,_⟩ _=>ti (λ_=>tb (Bf _) λ_ _=>ts) λ_=>tb (Ash _ _ _ _ _ _ _ _ _ _ _) λ⟨_,_⟩ _=>ti (λ_=>tb (Bf _) λ_ _=>ts) λ_=>tb (Al8 _ _) λ_ _=>tb (Alf _ _ _) λ_ _=>ts) (wo (λ_=>tb (mO _ _) λ⟨_,_,_,_,_⟩ _=>tb (Ard _ _ _ _ _) λ_ _=>ts) (wo (λ_=>tb (TU _ _) λ⟨_,_,_,_,_⟩ _=>tb (AE _ _ _ _ _) λ_ _=>ts) (wo (λ_=>tb (Ax8 _ _) λ⟨_,_⟩ _=>tb (Mz _ _) λ_ _=>ts) (wo (λ_=>tb (aQ _ _ _) λ⟨_,_,_,_,_,_⟩ _=>tb (AE _ _ _ _ _) λ_ _=>ts) (wo (λ_=>tb (aQ _ _ _) λ⟨_,_,_,_,_,_⟩ _=>tb (AE _ _ _ _ _) λ_ _=>ts) (wo (λ_=>tb (Acg _ _) λ⟨_,_⟩ _=>tb (Vn _ _) λ_ _=>ts) (ts))))))))))) λ_=>tj (Ae0 _ _ _ _)
theorem Alo(zf zb h:LB)(m:List LB)(hP:Dq (Wd 100000) m/\Aa m<=100000/\Aa zf<=100000/\Aa zb<=64):T (Kr zf zb (h::m)) (λr=>Aa r.2.1<=100000/\Aa r.2.2<=64/\Aa r.1<=800000000/\Dq Nl r.1/\ (r.2.1=zf/\r.2.2=zb\/Mu h)):=by
  unfold Kr Qp;have e1:Af (h::m) (0:Int)=some h:=rfl;have e2:Bg (h::m) 1 (Aa (h::m))=some m:=by
    unfold Bg Aa;rw[B! (by simp only[C5];omega),H',N7];rfl
  rw[e1,C6,e2,C6];exact Adr _ _ _ _ ⟨hP.1,hP.2.1,hP.2.2.1,hP.2.2.2, .inl ⟨rfl,rfl⟩⟩
theorem whl:Aa ([119,104,97,116]:LB)<=800000000:=by simp[Aa]
theorem wh:Dq Nl [119,104,97,116]:=Ch F5
theorem Auh(f b h:LB)(hf:Aa f<=100000/\Aa b<=64)(xs:List LB):∀m:List LB,Dq (Le 100000) xs->Dq (Wd 100000) (h::m)->Aa m+Aa xs<=99999->T (Jf f b xs (h::m)) (λr=>Aa r.2.1<=100000/\Aa r.2.2<=64/\Aa r.1<=800000000/\Dq Nl r.1/\ (r.2.1=f/\r.2.2=b\/Mu h)):=by
  induction xs with
  |nil=>exact λm _ h2 h3=>Alo f b h m ⟨λx hx=>h2 x (G_ _ hx),by unfold Aa at *;simp at h3;omega,hf.1,hf.2⟩
  |cons x xs ih=>
    intro m h1 h2 h3;unfold Jf;refine ti (λ_=>⟨_,rfl,hf.1,hf.2,whl,wh, .inl ⟨rfl,rfl⟩⟩) λhx=>ta ?_ (by unfold Aa at *;simp only[C5,C4]at *;omega);have hx1:1<=Aa x:=by
      cases x with
      |nil=>cases hx
      |cons a l=>unfold Aa;simp only[C5];omega
    exact ih (m++[x]) (λy hy=>h1 y (G_ _ hy)) (Ad h2 (Bc ⟨hx1,h1 x (H6 ..)⟩)) (by unfold Aa at *;simp only[C5,B_,C4]at *;omega)
theorem nk(c:UInt8):∀(q:Nat) (s:LB),s.length<q->Dq (Le (Aa s)) (Se c q s)/\ (Se c q s).length<=s.length+1
  |0,s,h=>absurd h (kO _)
  |q+1,s,h=>by
    unfold Se;have hb:=Z1 s c;split
    · exact⟨Bc (H3 _),F7⟩
    · rename_i h1
      simp only[Qe,zi,FL]at h1;unfold Aa at hb;have hd:(s.drop ((Gt s c).toNat+1)).length=s.length-((Gt s c).toNat+1):=D0;have k:=nk c q (s.drop ((Gt s c).toNat+1)) F3;refine⟨all_cons (by unfold Le Aa;rw[C7];omega) λx hx=>?_,by rw[C5];omega⟩;have:=k.1 x hx;unfold Le Aa at *;omega
theorem Aau(f b dq:LB)(hP:Aa f<=100000/\Aa b<=64/\Aa dq<=50000):T (Gp f b dq) (λr=>Aa r.2.1<=100000/\Aa r.2.2<=64/\Aa r.1<=800000000/\Dq Nl r.1/\ (r.2.1=f/\r.2.2=b\/∃h,(Se 32 (dq.length+1) dq).head? =some h/\Mu h)):=by
  have k:=nk 32 (dq.length+1) dq (Vk _);unfold Gp U!;rw[Option.bind_assoc];refine tw ?_ (G3 F3);rw[C6];cases hs:Se 32 (dq.length+1) dq with
  |nil=>
    unfold Se at hs;split at hs<;>cases hs
  |cons x xs=>
    rw[hs]at k;unfold Jf;refine ti (λ_=>⟨_,rfl,hP.1,hP.2.1,whl,wh, .inl ⟨rfl,rfl⟩⟩) λhx=>ta ?_ mS;have hx1:1<=Aa x:=by
      cases x with
      |nil=>cases hx
      |cons a l=>unfold Aa;simp only[C5];omega
    have hle:∀y∈x::xs,Aa y<=100000:=λy hy=>by
      have:=k.1 y hy;unfold Le at this;omega
    refine tm (Auh f b x ⟨hP.1,hP.2.1⟩ xs [] (λy hy=>hle y (G_ _ hy)) (Bc ⟨hx1,hle x (H6 ..)⟩) (by have:=k.2;unfold Aa at *;simp only[C5,C4]at *;omega)) λy hy=>⟨hy.1,hy.2.1,hy.2.2.1,hy.2.2.2.1,hy.2.2.2.2.imp id λhm=>⟨x,rfl,hm⟩⟩
def outs(f b:LB):List LB->List LB
 |[]=>[]
 |l::ls=>match Gp f b l with
  |some r=>r.1::outs r.2.1 r.2.2 ls
  |none=>[]
def held(f b:LB):List LB->LB×LB
 |[]=>(f,b)
 |l::ls=>match Gp f b l with
  |some r=>held r.2.1 r.2.2 ls
  |none=>(f,b)
def Od:List LB->LB
 |[]=>[]
 |l::ls=>l++10::Od ls
def Ok2(f b:LB):Prop:=Aa f<=100000/\Aa b<=64
def Ls(l:LB):Prop:=Dq Nl l/\Aa l<=3000
theorem ord{f b l:LB}(h:Ok2 f b)(hl:Aa l<=3000):∃r,Gp f b l=some r/\Ok2 r.2.1 r.2.2/\Aa r.1<=800000000/\Dq Nl r.1/\ (r.2.1=f/\r.2.2=b\/∃h,(Se 32 (l.length+1) l).head? =some h/\Mu h):=by
 obtain⟨r,e,h1,h2,h3,h4,h5⟩:=Aau f b l ⟨h.1,h.2,F3⟩;exact⟨r,e,⟨h1,h2⟩,h3,h4,h5⟩
theorem s? (l m:List LB):Od (l++m)=Od l++Od m:=by
 induction l with
 |nil=>rfl
 |cons x l ih=>simp only[J8,Od,ih,H?]
theorem trim(l:LB)(hl:Aa l<=3000):Fy (l++[10]) [10]=some l:=by
 have e1:Aa (l++[10])=Aa l+1:=by unfold Aa;simp
 have h0:0<=Aa l:=by unfold Aa;omega
 have e2:Aa ([10]:LB)=1:=rfl;have c1:Bg (l++[10]) (Aa l) (Aa l+1)=some [10]:=by
  unfold Bg Aa;rw[B! F6,show((l.length:Int)+1).toNat=(l++[10]).length by simp,N7];simp
 have c2:Bg (l++[10]) 0 (Aa l)=some l:=by
  unfold Bg Aa;rw[B! F6];simp
 have e3:As (Aa l+1) 1=Aa l:=by rw[DF];omega
 unfold Fy En Cx;rw[e1,e2,e3,B! (by rw[Yr];exact G3 (by show 1<=Aa l+1;omega)),c1,C6,C6,B! F5,c2];rfl
theorem Atj(ls:List LB):∀(f b a:LB),Ok2 f b->Dq Ls ls->Aa a+800000001*Aa ls<=17179869184->Ml (ls.map (· ++[10])) f b a=some (a++Od (outs f b ls),0):=by
 induction ls with
 |nil=>
  intro f b a _ _ ha;rw[O3,Ml,Ew,B! (G3 (by unfold Aa at *;simp at ha;omega))];simp[outs,Od]
 |cons l ls ih=>
  intro f b a h hl ha;obtain⟨⟨m,n,o⟩,e,h1,h2,_⟩:=ord h (hl l (H6 ..)).2;simp only at h1 h2;have h3:Aa (l::ls)=Aa ls+1:=by unfold Aa;simp
  have h4:0<=Aa ls:=by unfold Aa;omega
  have h5:Aa (a++(m++[10]))=Aa a+Aa m+1:=by unfold Aa;simp;omega
  have h6:0<=Aa a:=by unfold Aa;omega
  have ih:=ih n o (a++(m++[10])) h1 (λx hx=>hl x (G_ _ hx)) F3;rw[H!,Ml,trim l (hl l (H6 ..)).2,C6,e,C6];unfold Aa at*
  simp only;rw[QJ X',C6,QJ lu,C6,ih];simp[outs,e,Od]
theorem tH:∀(l s:LB),Dq Nl l->Gt (l++10::s) 10=Aa l
 |[],s,_=>rfl
 |x::l,s,h=>by
  have hx:x≠10:=h x (H6 ..);have ih:=tH l s λy hy=>h y (G_ _ hy);rw[J8,Gt,C' (by simp[hx]),ih,C' mS];unfold Aa;simp
theorem f_:∀(ls:List LB) (q:Nat),Dq Ls ls-> (Od ls).length<q->Ud q (Od ls)=ls.map (· ++[10])
 |[],q,_,h=>by
  cases q with
  |zero=>omega
  |succ q=>rfl
 |l::ls,q,h,hq=>by
  cases q with
  |zero=>omega
  |succ q=>
   have hl:=h l (H6 ..);have i:=tH l (Od ls) hl.1;have ih:=f_ ls q (λx hx=>h x (G_ _ hx)) (by rw[Od]at hq;simp at hq;omega);have h0:0<=Aa l:=by unfold Aa;omega
   have e:Od (l::ls)=l++10::Od ls:=rfl;rw[e];cases hc:l++10::Od ls with
   |nil=>cases l<;>cases hc
   |cons c s=>
    rw[hc]at i;rw[Ud,i,C' (by rw[Qe];simp only[zi,FL];omega),<-hc];have e1:(Aa l).toNat+1=(l++[10]).length:=by unfold Aa;simp
    have e2:l++10::Od ls=(l++[10])++Od ls:=by simp
    rw[e1,e2,List.take_left,SE,ih,H!]
theorem vI:∀ls,Dq Ls ls-> (Od ls).count 10=ls.length
 |[],_=>rfl
 |l::ls,h=>by
  have ih:=vI ls λx hx=>h x (G_ _ hx);have:l.count 10=0:=List.count_eq_zero.2 λhm=>(h l (H6 ..)).1 10 hm rfl;rw[Od,List.count_append,List.count_cons,this,ih,C5];simp
theorem Aeq(ls:List LB)(h:ls≠ [])(hl:Aa (Od ls)<=3000):Qy (Od ls) [10]=some true:=by
 have e:∃s,Od ls=s++[10]:=by
  clear hl
  induction ls with
  |nil=>exact absurd rfl h
  |cons l ls ih=>
   cases ls with
   |nil=>exact⟨l,rfl⟩
   |cons m ls=>
    obtain⟨s,e⟩:=ih F7;exact⟨l++10::s,by rw[Od,e];simp⟩
 obtain⟨s,e⟩:=e;rw[e]at hl⊢;have e1:Aa (s++[10])=Aa s+1:=by unfold Aa;simp
 have h0:0<=Aa s:=by unfold Aa;omega
 have e2:Aa ([10]:LB)=1:=rfl;have c1:Bg (s++[10]) (Aa s) (Aa s+1)=some [10]:=by
  unfold Bg Aa;rw[B! F6,show((s.length:Int)+1).toNat=(s++[10]).length by simp,N7];simp
 have e3:As (Aa s+1) 1=Aa s:=by rw[DF];omega
 unfold Qy Cx;rw[e1,e2,e3,B! (by rw[Yr];exact G3 (by show 1<=Aa s+1;omega)),c1,C6,C6];rfl
theorem Ar1{ls:List LB}(h:ls≠ []):(Od ls !=([]:LB))=true:=by
 cases ls with
 |nil=>exact absurd rfl h
 |cons l ls=>rw[Od];cases l<;>rfl
theorem O_(ls:List LB)(h:Dq Ls ls)(hl:Aa (Od ls)<=3000)(hn:ls.length<=40):Px (Od ls)=some 0:=by
 have hc:strings_Count (Od ls) [10]=some (ls.length:Int):=by
  rw[<-vI ls h];rfl
 unfold Px VY;rw[C' (by rw[Ti];simp only[zi,FL];omega),hc,C6,C' (by rw[Ti];simp only[zi,FL];omega)];unfold RB UN;by_cases h0:ls=[]
 ·subst h0;rfl
 ·rw[B! (Ar1 h0),Aeq ls h0 hl];rfl
theorem Amr(ls:List LB)(h:Dq Ls ls)(hl:Aa (Od ls)<=3000)(hn:ls.length<=20):Xv (Od ls)=some (Od (outs [] [] ls),0):=by
 unfold Xv;rw[O_ ls h hl F3,C6,C' F5];unfold r! Ew;rw[B! (G3 F3),C6,C6,f_ ls _ h (Vk _),Atj ls [] [] [] ⟨F5,F5⟩ h m?];rfl
theorem rW:∀(ls:List LB) (f b:LB),Ok2 f b->Dq Ls ls-> (outs f b ls).length=ls.length/\Dq (Dq Nl) (outs f b ls)/\Ok2 (held f b ls).1 (held f b ls).2
 |[],f,b,h,_=>⟨rfl,all_nil,h⟩
 |l::ls,f,b,h,hl=>by
  obtain⟨r,e,h1,h2,h3,_⟩:=ord h (hl l (H6 ..)).2;have ih:=rW ls r.2.1 r.2.2 h1 λx hx=>hl x (G_ _ hx);simp only[outs,held,e];exact⟨by rw[C5,C5,ih.1],all_cons h3 ih.2.1,ih.2.2⟩
theorem pQ:∀(ls ms:List LB) (f b:LB),Ok2 f b->Dq Ls ls->outs f b (ls++ms)=outs f b ls++outs (held f b ls).1 (held f b ls).2 ms
 |[],ms,f,b,h,_=>rfl
 |l::ls,ms,f,b,h,hl=>by
  obtain⟨r,e,h1,h2,h3,_⟩:=ord h (hl l (H6 ..)).2;have ih:=pQ ls ms r.2.1 r.2.2 h1 λx hx=>hl x (G_ _ hx);simp only[J8,outs,held,e,ih]
theorem Ag5(ls:List LB)(k:Nat)(f b:LB)(h:Ok2 f b)(hl:Dq Ls ls):outs f b (ls.take k)=(outs f b ls).take k:=by
 have e:=pQ (ls.take k) (ls.drop k) f b h λx hx=>hl x (S4 hx);have n:=(rW (ls.take k) f b h λx hx=>hl x (S4 hx)).1;rw[S6]at e;rw[e];by_cases hk:k<=ls.length
 ·rw[C7,N' hk]at n;exact(List.take_left' n).symm
 ·rw[C7]at n;rw[MR (show ls.length<=k by omega)];simp only[outs,G1];exact(IV F3).symm
theorem WV{p:Prop}(h:p:=by simp only[zi];unfold Aa;omega):p:=h
theorem YP{l:List α}(h:i<l.length):Af l (i:Int)=some l[i]:=by
  unfold Af;rw[B! F3,H',E_ h]
theorem R7{l:List α}(h:i<l.length):Bw (i:Int) (Aa l)=true:=by rw[Qe];exact G3 WV
theorem w? {l:List α}(h:¬i<l.length):¬Bw (i:Int) (Aa l)=true:=by rw[Qe];simp only[zi,FL];unfold Aa;omega
theorem eq8(x y:UInt8):(geq x y=true)=(x=y):=by
  rw[BR,FL,z8,z8];exact propext ⟨λh=>UInt8.toNat_inj.1 F3,λh=>by rw[h]⟩
theorem Aed(a:LB)(ha:a.length<=9223372036854775807):∀(q i:Nat),i<=a.length/\a.length<i+q->Hs a q (((a.take i).count 10:Nat):Int) i=Lc a ((a.count 10:Nat):Int):=
 ind (λi hI=>by exfalso;omega) λq ih i hI=>by
  rw[Hs,Qn];by_cases h:i<a.length
  · have k:=ih (i+1) ⟨F3,F3⟩
    have hc:=List.count_le_length (a:=10) (l:=a.take i);rw[C7]at hc;rw[jI h,List.count_append,List.count_singleton]at k;have e1:Ae (i:Int) 1=((i+1:Nat):Int):=by rw[Hn];omega
    rw[B! (R7 h),YP h,C6,e1];by_cases hx:a[i]=10
    · rw[hx]at k
      rw[B! (by rw[eq8];exact hx),Hn];exact k
    · have hb:(a[i]==10)=false:=by simp[hx]
      rw[C' (by rw[eq8];exact hx)];rw[hb]at k;exact k
  · rw[C' (w? h),IV F3]
    rfl
theorem Ajx(a:LB)(ha:a.length<=9223372036854775807):Gb a=Lc a ((a.count 10:Nat):Int):=
  Aed a ha Aq 0 ⟨F3,by have:=Cy;omega⟩
theorem P7(a P l R:LB)(h:a=P++l++10::R)(hl:Dq Nl l)(ha:a.length<=17179869184)(f:List LB)(hf:f.length<=1000000):∀(n q:Nat),n<=l.length->Ce a (q+n+1) P.length ((P.length+l.length-n:Nat):Int) f=Ce a q ((P.length+l.length+1:Nat):Int) ((P.length+l.length+1:Nat):Int) (f++[l])
  |0,q,hn=>by
    have e1:a.length=P.length+l.length+1+R.length:=by rw[h];simp;omega
    have e2:a[P.length+l.length]' F3=10:=by
      simp only[h];rw[xE F7];simp
    have e3:Bg a (P.length:Int) ((P.length+l.length:Nat):Int)=some l:=by
      unfold Bg;rw[B! F3,H',H',h,kG F7,IV F7,SE]
    show Ce a (q+1) _ _ f=_;rw[Ce,Hq,VW,B! (R7 F3),YP F3,C6,e2,B! (by rw[eq8]),e3,C6,QJ F6,C6,Hn];rfl
  |n+1,q,hn=>by
    have e1:a.length=P.length+l.length+1+R.length:=by rw[h];simp;omega
    have hi:P.length+l.length-(n+1)<a.length:=F3
    have e2:Nl a[P.length+l.length-(n+1)]:=by
      refine hl _ ?_;simp only[h];rw[List.getElem_append_left F6,xE F3];exact N8 _
    have ih:=P7 a P l R h hl ha f hf n q F3;have e4:Ae ((P.length+l.length-(n+1):Nat):Int) 1=((P.length+l.length-n:Nat):Int):=by rw[Hn];omega
    show Ce a ((q+n+1)+1) _ _ f=_;rw[Ce,Hq,B! (R7 hi),YP hi,C6,C' (by rw[eq8];exact e2),e4];exact ih
theorem mh(a:LB)(ha:a.length<=17179869184):∀(ls:List LB) (P:LB) (f:List LB) (q:Nat),a=P++Od ls->Dq (Dq Nl) ls-> (Od ls).length<q->f.length+ls.length<=1000000->Ce a q P.length P.length f=some (f++ls)
  |[],P,f,q,h,hl,hq,hf=>by
    cases q with
    |zero=>omega
    |succ q=>
      have e:a.length=P.length:=by rw[h];simp[Od]
      rw[Ce,Hq,C' (w? F3)];simp[Qo,CI]
  |l::ls,P,f,q,h,hl,hq,hf=>by
    have e:(Od (l::ls)).length=l.length+(Od ls).length+1:=by rw[Od];simp;omega
    have h2:a=P++l++10::Od ls:=by rw[h,Od];simp
    have h3:a=(P++l++[10])++Od ls:=by rw[h2];simp
    simp only[C5]at hf;have k:=P7 a P l (Od ls) h2 (hl l (H6 ..)) ha f F3 l.length (q-l.length-1) (E6 _);have ih:=mh a ha ls (P++l++[10]) (f++[l]) (q-l.length-1) h3 (λx hx=>hl x (G_ _ hx)) F3 F6;rw[show q-l.length-1+l.length+1=q by omega,Nat.add_sub_cancel]at k;have e5:((P++l++[10]).length:Int)=((P.length+l.length+1:Nat):Int):=by simp;omega
    rw[e5]at ih;rw[k,ih];simp
theorem F!(ls:List LB):ls.length<= (Od ls).length:=by
  induction ls with
  |nil=>exact E6 _
  |cons l ls ih=>rw[Od,B_,C5,C5];omega
theorem wB(ls:List LB)(hl:Dq (Dq Nl) ls)(h:(Od ls).length<=17179869184)(hn:ls.length<=1000000):Ic (Od ls)=some ls:=
  mh (Od ls) h ls [] [] Aq rfl hl (by have:=Cy;omega) F6
theorem uR:∀(n:Nat) (a:LB),a.length<=n-> (a=[]\/a.getLast? =some 10)->∃ls,Dq (Dq Nl) ls/\a=Od ls
  |0,a,hn,_=>⟨[],all_nil,by cases a with|nil=>rfl|cons x l=>simp at hn⟩
  |n+1,a,hn,h=>by
    rcases h with rfl|h
    · exact⟨[],all_nil,rfl⟩
    · have h10:10∈a:=List.mem_of_getLast? h
      obtain⟨l,r,e,hl⟩:∃l r,a=l++10::r/\Dq Nl l:=by
        clear h hn
        induction a with
        |nil=>cases h10
        |cons x s ih=>
          by_cases hx:x=10
          · exact⟨[],s,by rw[hx];rfl,all_nil⟩
          · obtain⟨l,r,e,hl⟩:=ih ((List.mem_cons.1 h10).resolve_left λe=>hx e.symm)
            exact⟨x::l,r,by rw[e];rfl,all_cons hx hl⟩
      have hr:r=[]\/r.getLast? =some 10:=by
        cases r with
        |nil=>exact .inl rfl
        |cons x s=>
          refine .inr ?_;rw[e,List.getLast?_append,List.getLast?_cons_cons]at h;cases hs:(x::s).getLast? with
          |none=>simp at hs
          |some z=>rw[hs]at h;exact h
      obtain⟨ls,k1,k2⟩:=uR n r (by rw[e]at hn;simp at hn;omega) hr;exact⟨l::ls,all_cons hl k1,by rw[e,k2];rfl⟩
theorem Air(a:LB)(ha:a.length<=9223372036854775807):Gb a=some 4\/Gb a=some 12\/ (Gb a=some 0/\ (a=[]\/a.getLast? =some 10)):=by
  rw[Ajx a ha];unfold Lc;split
  · exact .inl rfl
  · cases a with
    |nil=>exact .inr (.inr ⟨rfl, .inl rfl⟩)
    |cons x s=>
      have hl:As (Aa (x::s)) 1=(s.length:Int):=by
        rw[show Aa (x::s)=(s.length:Int)+1 from by unfold Aa;simp,DF (by simp at ha;omega) (by simp at ha;omega)];omega
      have hg:Af (x::s) (s.length:Int)=some ((x::s).getLast F7):=by
        rw[YP F7,List.getLast_eq_getElem];rfl
      rw[B! (by rw[Ti];exact G3 (by simp only[zi];unfold Aa;simp)),hl,hg,C6];split
      · exact .inr (.inl rfl)
      · rename_i h
        refine .inr (.inr ⟨rfl, .inr ?_⟩);have h2:(x::s).getLast F7=10:=by
          simp only[Tx,z8,FL,D!,Decidable.not_not]at h;exact UInt8.toNat_inj.1 F3
        rw[List.getLast?_eq_some_getLast F7,h2]
theorem Aol(a:LB)(ha:a.length<=9223372036854775807):Nw a=some false\/ (Nw a=some true/\∃ls,Dq Ls ls/\a=Od ls/\ (Od ls).length<=800/\ls.length<=15):=by
  unfold Nw Ww;rcases Air a ha with h|h|⟨h,hl⟩
  · rw[h];simp only[C6];left
    rw[B! F5];simp only[C6];split<;>rfl
  · rw[h];simp only[C6];left
    rw[B! F5];simp only[C6];split<;>rfl
  · rw[h];simp only[C6]
    rw[C' F5];by_cases h8:a.length<=800
    · obtain⟨ls,k1,rfl⟩:=uR a.length a (E6 _) hl
      have hn:=F! ls;rw[C' (by rw[Ti];simp only[zi,FL];unfold Aa;omega),wB ls k1 F3 F3,C6,C6];by_cases h15:ls.length<=15
      · right
        refine⟨?_,ls,λx hx=>⟨k1 x hx,?_⟩,rfl,h8,h15⟩
        · rw[show Dp (Aa ls) 15=false by rw[Ti];exact kM WV];rfl
        · have:∀m:List LB,x∈m->x.length<= (Od m).length:=λm hm=>by
            induction m with
            |nil=>cases hm
            |cons y m ih=>
              rw[Od,B_,C5];rcases List.mem_cons.1 hm with rfl|hm
              · omega
              · have:=ih hm;omega
          have:=this ls hx;unfold Aa;omega
      · left
        rw[show Dp (Aa ls) 15=true by rw[Ti];exact G3 WV];rfl
    · left
      rw[B! (by rw[Ti];exact G3 WV)];rfl
theorem q?:∀(ls:List LB) (f b:LB),Ok2 f b->Dq Ls ls-> (Od (outs f b ls)).length<=800000001*ls.length
  |[],f,b,h,_=>by simp[outs,Od]
  |l::ls,f,b,h,hl=>by
    obtain⟨r,e,h1,h2,h3,_⟩:=ord h (hl l (H6 ..)).2;have ih:=q? ls r.2.1 r.2.2 h1 λx hx=>hl x (G_ _ hx);simp only[outs,e,Od];unfold Aa at h2;rw[B_,C5,C5];omega
theorem nW:∀ls:List LB,ls≠ []-> (Od ls).getLast? =some 10
  |[],h=>absurd rfl h
  |[l],_=>by simp[Od]
  |l::m::ls,_=>by
    have ih:=nW (m::ls) F7;rw[Od,List.getLast?_append];have e:(10::Od (m::ls)).getLast? =some 10:=by
      rw[List.getLast?_cons,ih];rfl
    rw[e];rfl
theorem ok0:Ok2 [] []:=⟨by simp[Aa],by simp[Aa]⟩
theorem nM(ls:List LB)(h:Dq Ls ls)(hl:(Od ls).length<=3000)(hn:ls.length<=20):Kx (Od ls)=some (outs [] [] ls,true):=by
  have k:=rW ls [] [] ok0 h;have kb:=q? ls [] [] ok0 h;have hs:=wB (outs [] [] ls) k.2.1 F3 F3;unfold Kx;rw[Amr ls h F8 hn,C6];simp only;rw[C' F5];generalize outs [] [] ls=o at*
  by_cases h0:o=[]
  · subst h0;rfl
  · have hl2:=nW o h0
    cases ht:Od o with
    |nil=>rw[ht]at hl2;cases hl2
    |cons x s=>
      rw[ht]at hl2 hs kb;rw[C5]at kb;have hl:As (Aa (x::s)) 1=(s.length:Int):=by
        rw[show Aa (x::s)=(s.length:Int)+1 from by unfold Aa;simp,DF];omega
      have hg:Af (x::s) (s.length:Int)=some 10:=by
        rw[YP F7,<-hl2,List.getLast?_eq_getElem?,E_ F7];simp
      rw[B! (by rw[Ti];exact G3 (by simp only[zi];unfold Aa;simp)),hl,hg,C6,C' F5,hs,C6]
theorem yc(a:List LB)(ha:(Od a).length<=1000000)(hn:a.length<=1000000):∀(q i:Nat),i<=a.length/\a.length<i+q->Gw a q (Od (a.take i)) i=some (Od a):=
 ind (λi hI=>by exfalso;omega) λq ih i hI=>by
  rw[Gw,Oi];by_cases h:i<a.length
  · have k:=ih (i+1) ⟨F3,F3⟩
    have e:Od (a.take (i+1))=Od (a.take i)++(a[i]++[10]):=by rw[jI h,s?];rfl
    have hle:(Od (a.take (i+1))).length<= (Od a).length:=by
      have:Od a=Od (a.take (i+1))++Od (a.drop (i+1)):=by rw[<-s?,S6]
      rw[this,B_];omega
    rw[e,B_,B_,I3]at hle;rw[e]at k;rw[B! (R7 h),YP h,C6,QJ X',C6,QJ lu,C6,Hn];exact k
  · rw[C' (w? h),IV F3]
    rfl
theorem Ai0(a:List LB)(ha:(Od a).length<=1000000):Uj a=some (Od a):=
  yc a ha (by have:=F! a;omega) Aq 0 ⟨F3,by have:=F! a;have:=Cy;omega⟩
theorem Aih(a:List LB)(hn:a.length<=1000000):∀(q i:Nat),i<=a.length/\a.length<i+q->Iy a a q i=some true:=
 ind (λi hI=>by exfalso;omega) λq ih i hI=>by
  rw[Iy,Ry];by_cases h:i<a.length
  · have k:=ih (i+1) ⟨F3,F3⟩
    rw[B! (R7 h),YP h,C6,C6,C' F7,Hn];exact k
  · rw[C' (w? h)]
    rfl
theorem Aob(a:List LB)(hn:a.length<=1000000):Qv a a=some true:=by
  unfold Qv Rk;rw[C' (by rw[Tx];simp)];exact Aih a hn Aq 0 ⟨F3,by have:=Cy;omega⟩
theorem Aka(ls:List LB)(h:Dq Ls ls)(hl:(Od ls).length<=3000)(hn:ls.length<=20):Ux (Od ls)=some ((ls.length:Int),0):=by
  unfold Ux;rw[O_ ls h F8 F3,C6,C' F5];have:strings_Count (Od ls) [10]=some (ls.length:Int):=by rw[<-vI ls h];rfl
  rw[this];rfl
theorem Aip(hA:Pc=some true)(a:LB)(b:Int)(ha:a.length<=9223372036854775807):Hf a b=some true:=by
  unfold Hf;rw[hA,C6];rcases Aol a ha with h|⟨h,ls,k1,rfl,k2,k3⟩
  · rw[h];rfl
  · have ko:=rW ls [] [] ok0 k1
    rw[h,C6,C' F5,wB ls (λx hx=>(k1 x hx).1) F3 F3,C6,nM ls k1 F3 F3,C6];simp only;rw[Aka ls k1 F3 F3,C6];simp only;rw[C' (by simp[Tx,zi,Aa,ko.1])];split
    · rfl
    · rename_i hb
      simp only[Qe,Ti,zi,C?,FL,not_or]at hb;obtain⟨n,rfl⟩:∃n:Nat,b=n:=⟨b.toNat,F3⟩;unfold Aa at hb;have c:∀m:List LB,m.length=ls.length->Bg m 0 (n:Int)=some (m.take n):=λm hm=>by
        unfold Bg;rw[B! F3];simp
      have kt:Dq Ls (ls.take n):=λx hx=>k1 x (S4 hx);have hle:(Od (ls.take n)).length<= (Od ls).length:=by
        have:Od ls=Od (ls.take n)++Od (ls.drop n):=by rw[<-s?,S6]
        rw[this,B_];omega
      rw[c ls rfl,C6,Ai0 _ F3,C6,nM _ kt F3 (by rw[C7];omega),C6];simp only;rw[B! F5,c _ ko.1,C6,Ag5 ls n [] [] ok0 k1,Aob _ (by rw[C7];omega)];rfl
end Go.Pl
set_option maxRecDepth 100000
namespace Go.Pl
open Go Go.Lv
theorem Anw:Pc=some true:=by kernel_rfl
theorem law_ConsolePrefix(a:LB)(b:Int)(ha:a.length<=9223372036854775807):Hf a b=some true:=Aip Anw a b ha
end Go.Pl
