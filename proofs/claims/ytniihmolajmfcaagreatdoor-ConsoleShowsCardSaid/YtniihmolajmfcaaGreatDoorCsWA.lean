/- A part of a proof (see the text that ends in Proof). No conditions. -/
import Derived.Test.YtniihmolajmfcaaGreatDoorCsPA
import Derived.KernelRfl
set_option linter.unusedVariables false
set_option linter.unusedSimpArgs false
namespace Go.Lv
variable{a b:Int}{n:Nat}{α:Type}
theorem Gt(h: -9223372036854775808<=a+b:=by omega)(h':a+b<=9223372036854775807:=by omega):Ae a b=a+b:=by rw[Ar4,Db h h']
theorem DS(h: -9223372036854775808<=a-b:=by omega)(h':a-b<=9223372036854775807:=by omega):As a b=a-b:=by rw[Asf,Db h h']
theorem xT(h: -9223372036854775808<=a*b:=by omega)(h':a*b<=9223372036854775807:=by omega):Ch a b=a*b:=by rw[Aro,Db h h']
theorem Aie(c:UInt8):(Al c:Int)=(c.toNat:Int):=by rw[Ale,Db]<;>have:=c.toNat_lt<;>omega
theorem Ad2(c:UInt32):(Al c:Int)=(c.toNat:Int):=by rw[Aim,Db]<;>have:=c.toNat_lt<;>omega
theorem Ajm(n:Nat):(Al (n:Int):UInt64)=UInt64.ofNat n:=by simp only[Al];exact FO n
theorem Ajo{c:UInt64}(h:c.toNat<9223372036854775808):(Al c:Int)=(c.toNat:Int):=by rw[Aig,Db]<;>omega
theorem rY:qF=17179869184:=F4
theorem sU:36893488147419103231<Ap:=F4
theorem uU{l:List α}(h:n<l.length:=by omega):Af l (n:Int)=some l[n]:=by simp[Af,h]
theorem GW{l m:List α}(h:l.length+m.length<=17179869184:=by omega):Ax l m=some (l++m):=by rw[Ax,rY,B? h]
theorem dX{n:Int}{z:α}(h:0<=n:=by omega)(h':n<=17179869184:=by omega):mkI n z=some (List.replicate n.toNat z):=by rw[mkI,rY,B? ⟨h,h'⟩]
theorem ou{b:Bool}(h:b=true):Ex b=some ():=by rw[h];rfl
theorem Kw{β:Type}(a:α)(f:α->Option β):Option.bind (some a) f=f a:=rfl
theorem DI{l:List α}(h:n<l.length):l.take (n+1)=l.take n++[l[n]]:=by rw[List.take_add_one,H' h];rfl
end Go.Lv
namespace Go.Pl
open Go Go.Lv
variable{c:Bool}{a i b:Int}{k:IntKind}{n:Nat}
theorem mh{p:Prop}(h:p:=by unfold Aa;simp;omega):p:=h
theorem Y0{p:Prop}(h:p:=by unfold Aa;simp):p:=h
def Dp{α:Type}(p:α->Prop)(l:List α):Prop:=∀x∈l,p x
def Rg(a b x:Int):Prop:=a<=x/\x<=b
def Le{α:Type}(n:Int)(x:List α):Prop:=Aa x<=n
def Gd(x:Int):Prop:= -9223372036854775808<=x/\x<=9223372036854775807
def PD(a g:LB)(m o n p u:Int)(k:LI)(h:Int)(v:LB)(b:Bool)(f:Int):Prop:=Aa a<=64/\Aa g<=100000/\Aa k<=1000/\0<=h/\h<=Aa k/\Aa v<=12000000/\ (b=false->f=0->Aa v<=12000*h)/\0<=f/\f<=99/\ (m=0->Aa k=0)/\Dp (Rg 5 100000) k
def PE(m:LB)(n:LX)(o:List LB)(p:LB)(a:Int):Prop:=Aa m<=18/\Aa n<=3000000/\Aa o<=102000/\Dp (Le 200000) o/\Aa p<=17179869184/\0<=a/\a<=99
def Nl(x:UInt8):Prop:=x≠10
def Ln(n:Int)(x:LB):Prop:=Aa x<=n/\Dp Nl x
def Mu(h:LB):Prop:=(h==[112,97,115,115,119,111,114,100])=true\/ (h==[102,105,108,101])=true\/ (h==[97,100,100])=true\/ (h==[99,117,116])=true\/ (h==[102,108,105,112])=true\/ (h==[98,117,114,115,116])=true\/ (h==[99,108,105,112])=true
def BX(m h x n:Int):Prop:=h=8/\Ch x m<=n\/h=16/\2*Ch x m<=n\/h=24/\3*Ch x m<=n
def Sr(x:UInt8×Int×Unit):Prop:=0<=x.2.1/\x.2.1<=999999999
def St(x:Int×LB×Unit):Prop:=0<=x.1/\x.1<=99/\Aa x.2.1<=12000000
def Wd(n:Int)(x:LB):Prop:=1<=Aa x/\Aa x<=n
def Nn(x:Int):Prop:=0<=x
def sm(a:LI)(f:Int):Int:=(a.drop f.toNat).sum
theorem Ck:sm [] 0=0:=rfl
theorem Cl(x:Int):sm [x] 0=x:=by unfold sm;simp
theorem Cn(l m:LI):sm (l++m) 0=sm l 0+sm m 0:=by unfold sm;simp
theorem Asn(l:LI)(h:Dp Nn l):0<=l.sum:=by
 induction l with
 |nil=>exact I? _
 |cons a l ih=>
  have h1:0<=a:=h a (I8 ..);have h2:=ih λx hx=>h x (I5 _ hx);rw[List.sum_cons];omega
def Ui(x:Int×Int32×(Int×LX×LX×Unit)×Unit):Prop:=Aa x.2.2.1.2.1=16/\Aa x.2.2.1.2.2.1=16
theorem all_nil{α:Type}{p:α->Prop}:Dp p []:=λ_ h=>by cases h
theorem Ad{α:Type}{p:α->Prop}{l m:List α}(h:Dp p l)(k:Dp p m):Dp p (l++m):=λx hx=>(List.mem_append.1 hx).elim (h x) (k x)
theorem Bc{α:Type}{p:α->Prop}{a:α}(h:p a):Dp p [a]:=λx hx=>by rw[lE]at hx;exact hx▸h
theorem all_cons{α:Type}{p:α->Prop}{a:α}{l:List α}(h:p a)(k:Dp p l):Dp p (a::l):=λx hx=>(List.mem_cons.1 hx).elim (λe=>e▸h) (k x)
theorem Cj{l:LB}(h:(l.all λx=>!(x==10))=true):Dp Nl l:=λx hx e=>by
 have:=List.all_eq_true.1 h x hx;rw[e]at this;exact absurd this F4
theorem Ez{α:Type}{p:α->Prop}{a:α}(h:p a):Dp p (List.replicate n a):=λx hx=>(List.mem_replicate.1 hx).2▸h
def T{α:Type}(o:Option α)(Q:α->Prop):Prop:=∃y,o=some y/\Q y
theorem Dv(a b:Int):Ae a b=wrap64 (a+b):=rfl
theorem Dq(a b:Int):As a b=wrap64 (a-b):=rfl
theorem Ho(a b:Int):Ch a b=wrap64 (a*b):=rfl
theorem Iw(a:Int):NH a=wrap64 (0-a):=rfl
theorem Bt(a:Int):wrap64 a=(a+9223372036854775808) %18446744073709551616-9223372036854775808:=by
 rw[S!];split<;>omega
theorem zw(h: -9223372036854775808<=a)(h':a<=9223372036854775807):wrap64 a=a:=Db h h'
theorem ER{p:Prop}{i:Decidable p}:(@decide p i=true)=p:=by cases i<;>simp_all
theorem EY{p:Prop}{i:Decidable p}:(@decide p i=false)=¬p:=by cases i<;>simp_all
theorem EO(b:Bool):(b=true)=(b.toNat=1):=by cases b<;>simp
theorem FD(b:Bool):(b=false)=(b.toNat=0):=by cases b<;>simp
theorem Qq{T:Type} [GI T k](a b:T):Bu a b=decide (GI.toZ a<GI.toZ b):=rfl
theorem ED{T:Type} [GI T k](a b:T):UA a b=decide (GI.toZ a<=GI.toZ b):=rfl
theorem Uf{T:Type} [GI T k](a b:T):Dr a b=decide (GI.toZ b<GI.toZ a):=rfl
theorem Yn{T:Type} [GI T k](a b:T):Fq a b=decide (GI.toZ b<=GI.toZ a):=rfl
theorem Yy{T:Type} [GI T k](a b:T):geq a b=decide (GI.toZ a=GI.toZ b):=rfl
theorem Uh{T:Type} [GI T k](a b:T):Az a b=decide (GI.toZ a≠GI.toZ b):=by
 unfold Az;cases h:(GI.toZ a !=GI.toZ b)<;>simp_all
theorem zi(a:Int):GI.toZ a=a:=rfl
theorem z8(a:UInt8):GI.toZ a=(a.toNat:Int):=rfl
theorem z32(a:UInt32):GI.toZ a=(a.toNat:Int):=rfl
theorem z64(a:UInt64):GI.toZ a=(a.toNat:Int):=rfl
theorem Iv(a b:Int):Gi a b=min a b:=by
 have e:Gi a b=if b<a then b else a:=rfl;rw[e];split<;>omega
theorem Im(a b:Int):I4 a b=max a b:=by
 have e:I4 a b=if b>a then b else a:=rfl;rw[e];split<;>omega
theorem Gu(a b:Int):Ey a b=wrap64 (a.tdiv b):=rfl
theorem Fk(a b:Int):Jl a b=a.tmod b:=rfl
theorem nN(b:Int)(h:0<=a):a.tdiv b=a/b:=kT h
theorem YB(b:Int)(h:0<=a):a.tmod b=a %b:=Int.tmod_eq_emod_of_nonneg h
theorem EG(a:Int):L_ a (GI.toZ (3:UInt64)).toNat=a/8:=by
 have e:(GI.toZ (3:UInt64)).toNat=3:=rfl;rw[e];unfold L_;exact T9 a F4
theorem Ip(a:Int):L_ a (Int.toNat ((3:Nat):Int))=a/8:=EG a
theorem DW(a:UInt8):(Al a:Int)=(a.toNat:Int):=Aie a
theorem Io(a:UInt32):(Al a:Int)=(a.toNat:Int):=Ad2 a
theorem Iy(a:UInt64):(Al a:Int)=wrap64 (a.toNat:Int):=rfl
theorem Is(a:Int):GI.toZ (Al a:UInt64)=a %18446744073709551616:=GI.toZ_ofZ a
theorem z15(a:UInt8):(Ed a 15).toNat<16:=by
 rw[Anv,UInt8.toNat_and];have:a.toNat&&& (15:UInt8).toNat<= (15:UInt8).toNat:=Nat.and_le_right;have:(15:UInt8).toNat=15:=rfl;omega
theorem zn4(a:UInt8):(Dj a (GI.toZ (4:UInt64)).toNat).toNat<16:=by
 have e:(GI.toZ (4:UInt64)).toNat=4:=rfl;rw[e,Aqa];have:=a.toNat_lt;omega
theorem Av5(a:UInt64):(Dj a (GI.toZ (58:UInt64)).toNat).toNat<64:=by
 have e:(GI.toZ (58:UInt64)).toNat=58:=rfl;rw[e,qG];have:=a.toNat_lt;omega
theorem EU(a:Int):Ed a 7=a %8:=by
 have e:Ed a (7:Int)=wrap64 ((BitVec.ofInt 64 a&&&BitVec.ofInt 64 7).toNat:Int):=rfl;rw[e,TV,N1,N1];have h2:((7:Int) %((2^64:Nat):Int)).toNat=2^3-1:=F4
 rw[h2,kU,Db F3 F3];omega
theorem FG{α:Type}(l m:List α)(a n:Int):(Ou l a n m).length=min a.toNat l.length+(min n.toNat m.length+(l.length-(a.toNat+min n.toNat m.length))):=by
 unfold Ou;rw[BP,BP,D_,D_,E8];
theorem zqm(n:Int)(_:True)(h:1<=n/\n<=40000000):1000<=Ey 9223372036854775807 n:=by
 have h1:=RC (show(0:Int)<=9223372036854775807 by decide) (show 0<=n by omega);have h2:=TU (b:=n) (show(0:Int)<=9223372036854775807 by decide);have h3:1000<= (9223372036854775807:Int)/n:=Int.le_ediv_of_mul_le F3 F3;rw[Gu,kT F4,Db F3 F3];exact h3
theorem z8b(b:UInt8)(_:True):(b.toNat:Int)<=255:=by have:=b.toNat_lt;omega
theorem zm1(a b:Int)(_:True)(h:a=1):Ch a (As b 1)=As b 1:=by
 rw[h,Ho,Dq,Int.one_mul,Bt,Bt];omega
theorem Hx{T:Type} [GI T k](a:T):Gd (Al a:Int):=by
 have e:(Al a:Int)=wrap64 (GI.toZ a):=rfl;unfold Gd;rw[e,Bt];omega
theorem zws(a n:Int)(_:True)(h:Jl n (Ey a 8)=0)(hn:0<=n)(ha:8<=a/\a<=24/\a %8=0):a=8\/a=16/\n %2=0\/a=24/\n %3=0:=by
 have:a=8\/a=16\/a=24:=F3
 rcases this with rfl|rfl|rfl
 ·exact .inl rfl
 ·rw[Fk,YB _ hn,show Ey (16:Int) 8=2 by decide]at h;exact .inr (.inl ⟨rfl,h⟩)
 ·rw[Fk,YB _ hn,show Ey (24:Int) 8=3 by decide]at h;exact .inr (.inr ⟨rfl,h⟩)
theorem tap{α:Type}{l m:List α}{Q:List α->Prop}(h:Aa l+Aa m<=17179869184)(q:Q (l++m)):T (Ax l m) Q:=⟨_,by unfold Ax qF;unfold Aa at h;rw[B? F3],q⟩
theorem Art{a:LI}{f x:Int}(e:Af a f=some x)(h:Dp Nn a/\0<=f/\f<=1000):0<=x/\sm a f=x+sm a (Ae f 1)/\0<=sm a (Ae f 1):=by
 unfold Af at e;rw[B? h.2.1]at e;have hl:f.toNat<a.length:=(List.getElem?_eq_some_iff.1 e).1;have hx:a[f.toNat]=x:=(List.getElem?_eq_some_iff.1 e).2;rw[Gt];unfold sm;rw[show(f+1).toNat=f.toNat+1 by omega,TG hl,List.sum_cons,hx];exact⟨hx▸h.1 _ (N3 _),rfl,Asn _ λy hy=>h.1 y (List.mem_of_mem_drop hy)⟩
theorem zp8(a:Int)(_:True)(h:0<=a/\a<=8):1<=Fi (1:Int) (GI.toZ a).toNat/\Fi (1:Int) (GI.toZ a).toNat<=256:=by
 have:a=0\/a=1\/a=2\/a=3\/a=4\/a=5\/a=6\/a=7\/a=8:=F3
 rcases this with rfl|rfl|rfl|rfl|rfl|rfl|rfl|rfl|rfl<;>decide
theorem zfa{f a:Int}(h:1<=a/\a<=6/\0<=f/\f<=4000):0<=Ch f a/\Ch f a<=24000:=by
 have:a=1\/a=2\/a=3\/a=4\/a=5\/a=6:=F3
 rw[Ho];rcases this with rfl|rfl|rfl|rfl|rfl|rfl<;>rw[Db F3 F3]<;>omega
theorem zq4(a:Int)(_:True)(h:1<=a):0<=Ey 4000 a/\Ey 4000 a<=4000:=by
 have h1:=RC (show(0:Int)<=4000 by decide) (show 0<=a by omega);have h2:=TU (b:=a) (show(0:Int)<=4000 by decide);rw[Gu,kT F4,Db F3 F3];exact⟨h1,h2⟩
theorem Cu:(Ap:Int)=36893488147419103232:=rfl
section
variable {α β:Type} {o:Option α} {f:α->Option β} {P:α->Prop} {Q:β->Prop} {H:Prop}
theorem tj{o:Option β}{H:Prop}(c:H->T o Q)(h:H:=by first|exact True.intro|((try clear ih)<;>(try clear hb)<;>(try simp only[Dv,Dq,Ho,Iw,Bt,Qq,ED,Uf,Yn,Yy,Uh,zi,z8,z32,z64,Iv,Im,Gu,Fk,EG,Ip,DW,Io,Iy,Is,EU,UInt8.reduceToNat,UInt32.reduceToNat,UInt64.reduceToNat,Cu,Rg,Le,Ln,PE,Mu,BX,Sr,St,Wd,Nn,Ck,Cl,Cn,PD,Ui,Gd,Aa,Cp,FG,Cq,D_,E8,FW,Eh,C_,D',BP,E7,E5,BD,↓ER,↓EY,E4,G1,E1,E_,reduceCtorEq,G5,G6,G7,E3,G2,E9,G4,G8,E6,G3,G0,FX,F_,G9]at *)<;>(try simp only[EO,FD]at *)<;>omega)|((try clear ih)<;>(try clear hb)<;>(try simp only[Dv,Dq,Ho,Iw,Qq,ED,Uf,Yn,Yy,Uh,zi,z8,z32,z64,Iv,Im,Gu,Fk,EG,Ip,DW,Io,Iy,Is,EU,UInt8.reduceToNat,UInt32.reduceToNat,UInt64.reduceToNat,Cu,Rg,Le,Ln,PE,Mu,BX,Sr,St,Wd,Nn,Ck,Cl,Cn,PD,Ui,Gd,Aa,Cp,FG,Cq,D_,E8,FW,Eh,C_,D',BP,E7,E5,BD,↓ER,↓EY,E4,G1,E1,E_,reduceCtorEq,G5,G6,G7,E3,G2,E9,G4,G8,E6,G3,G0,FX,F_,G9]at *)<;>(try simp only[EO,FD]at *)<;>(try simp(disch:=omega)only[zw,nN,YB]at *)<;>(try simp only[Bt]at *)<;>first|omega|(and_intros<;>first|omega|assumption|exact all_nil|exact Ez ⟨rfl,rfl⟩|exact Bc (by simp only[Nn,Aa]at *;omega)|exact Ad (by first|assumption|grind) (Bc (by first|assumption|exact Hx _|(simp only[Nn,Dv,Dq,Bt,Gd,Rg,Le,Ln,St,Sr,Aa,D']at *;omega)|simp_all))|grind|(simp_all;done)|(first|grind|exact Cj F4|(apply Ad<;>(first|grind|exact Cj F4))|(apply Ad<;>first|grind|exact Cj F4|(apply Ad<;>(first|grind|exact Cj F4))))|(repeat' first|exact all_nil|exact Hx _|apply all_cons|(simp only[Gd]at *;omega);done))|(intros;and_intros<;>first|omega|assumption|exact all_nil|grind|simp_all|(first|grind|exact Cj F4|(apply Ad<;>(first|grind|exact Cj F4))|(apply Ad<;>first|grind|exact Cj F4|(apply Ad<;>(first|grind|exact Cj F4))))))):T o Q:=c h
theorem ts{y:β}(h:Q y:=by first|exact True.intro|((try clear ih)<;>(try clear hb)<;>(try simp only[Dv,Dq,Ho,Iw,Bt,Qq,ED,Uf,Yn,Yy,Uh,zi,z8,z32,z64,Iv,Im,Gu,Fk,EG,Ip,DW,Io,Iy,Is,EU,UInt8.reduceToNat,UInt32.reduceToNat,UInt64.reduceToNat,Cu,Rg,Le,Ln,PE,Mu,BX,Sr,St,Wd,Nn,Ck,Cl,Cn,PD,Ui,Gd,Aa,Cp,FG,Cq,D_,E8,FW,Eh,C_,D',BP,E7,E5,BD,↓ER,↓EY,E4,G1,E1,E_,reduceCtorEq,G5,G6,G7,E3,G2,E9,G4,G8,E6,G3,G0,FX,F_,G9]at *)<;>(try simp only[EO,FD]at *)<;>omega)|((try clear ih)<;>(try clear hb)<;>(try simp only[Dv,Dq,Ho,Iw,Qq,ED,Uf,Yn,Yy,Uh,zi,z8,z32,z64,Iv,Im,Gu,Fk,EG,Ip,DW,Io,Iy,Is,EU,UInt8.reduceToNat,UInt32.reduceToNat,UInt64.reduceToNat,Cu,Rg,Le,Ln,PE,Mu,BX,Sr,St,Wd,Nn,Ck,Cl,Cn,PD,Ui,Gd,Aa,Cp,FG,Cq,D_,E8,FW,Eh,C_,D',BP,E7,E5,BD,↓ER,↓EY,E4,G1,E1,E_,reduceCtorEq,G5,G6,G7,E3,G2,E9,G4,G8,E6,G3,G0,FX,F_,G9]at *)<;>(try simp only[EO,FD]at *)<;>(try simp(disch:=omega)only[zw,nN,YB]at *)<;>(try simp only[Bt]at *)<;>first|omega|(and_intros<;>first|omega|assumption|exact all_nil|exact Ez ⟨rfl,rfl⟩|exact Bc (by simp only[Nn,Aa]at *;omega)|exact Ad (by first|assumption|grind) (Bc (by first|assumption|exact Hx _|(simp only[Nn,Dv,Dq,Bt,Gd,Rg,Le,Ln,St,Sr,Aa,D']at *;omega)|simp_all))|grind|(simp_all;done)|(first|grind|exact Cj F4|(apply Ad<;>(first|grind|exact Cj F4))|(apply Ad<;>first|grind|exact Cj F4|(apply Ad<;>(first|grind|exact Cj F4))))|(repeat' first|exact all_nil|exact Hx _|apply all_cons|(simp only[Gd]at *;omega);done))|(intros;and_intros<;>first|omega|assumption|exact all_nil|grind|simp_all|(first|grind|exact Cj F4|(apply Ad<;>(first|grind|exact Cj F4))|(apply Ad<;>first|grind|exact Cj F4|(apply Ad<;>(first|grind|exact Cj F4))))))):T (some y) Q:=⟨y,rfl,h⟩
theorem tf{o:Option β}{H F:Prop}(hf:H->F)(k:F->T o Q)(h:H:=by first|exact True.intro|((try clear ih)<;>(try clear hb)<;>(try simp only[Dv,Dq,Ho,Iw,Bt,Qq,ED,Uf,Yn,Yy,Uh,zi,z8,z32,z64,Iv,Im,Gu,Fk,EG,Ip,DW,Io,Iy,Is,EU,UInt8.reduceToNat,UInt32.reduceToNat,UInt64.reduceToNat,Cu,Rg,Le,Ln,PE,Mu,BX,Sr,St,Wd,Nn,Ck,Cl,Cn,PD,Ui,Gd,Aa,Cp,FG,Cq,D_,E8,FW,Eh,C_,D',BP,E7,E5,BD,↓ER,↓EY,E4,G1,E1,E_,reduceCtorEq,G5,G6,G7,E3,G2,E9,G4,G8,E6,G3,G0,FX,F_,G9]at *)<;>(try simp only[EO,FD]at *)<;>omega)|((try clear ih)<;>(try clear hb)<;>(try simp only[Dv,Dq,Ho,Iw,Qq,ED,Uf,Yn,Yy,Uh,zi,z8,z32,z64,Iv,Im,Gu,Fk,EG,Ip,DW,Io,Iy,Is,EU,UInt8.reduceToNat,UInt32.reduceToNat,UInt64.reduceToNat,Cu,Rg,Le,Ln,PE,Mu,BX,Sr,St,Wd,Nn,Ck,Cl,Cn,PD,Ui,Gd,Aa,Cp,FG,Cq,D_,E8,FW,Eh,C_,D',BP,E7,E5,BD,↓ER,↓EY,E4,G1,E1,E_,reduceCtorEq,G5,G6,G7,E3,G2,E9,G4,G8,E6,G3,G0,FX,F_,G9]at *)<;>(try simp only[EO,FD]at *)<;>(try simp(disch:=omega)only[zw,nN,YB]at *)<;>(try simp only[Bt]at *)<;>first|omega|(and_intros<;>first|omega|assumption|exact all_nil|exact Ez ⟨rfl,rfl⟩|exact Bc (by simp only[Nn,Aa]at *;omega)|exact Ad (by first|assumption|grind) (Bc (by first|assumption|exact Hx _|(simp only[Nn,Dv,Dq,Bt,Gd,Rg,Le,Ln,St,Sr,Aa,D']at *;omega)|simp_all))|grind|(simp_all;done)|(first|grind|exact Cj F4|(apply Ad<;>(first|grind|exact Cj F4))|(apply Ad<;>first|grind|exact Cj F4|(apply Ad<;>(first|grind|exact Cj F4))))|(repeat' first|exact all_nil|exact Hx _|apply all_cons|(simp only[Gd]at *;omega);done))|(intros;and_intros<;>first|omega|assumption|exact all_nil|grind|simp_all|(first|grind|exact Cj F4|(apply Ad<;>(first|grind|exact Cj F4))|(apply Ad<;>first|grind|exact Cj F4|(apply Ad<;>(first|grind|exact Cj F4))))))):T o Q:=k (hf h)
theorem tQ{y:α}(e:H->o=some y)(k:T (f y) Q)(h:H:=by first|exact True.intro|((try clear ih)<;>(try clear hb)<;>(try simp only[Dv,Dq,Ho,Iw,Bt,Qq,ED,Uf,Yn,Yy,Uh,zi,z8,z32,z64,Iv,Im,Gu,Fk,EG,Ip,DW,Io,Iy,Is,EU,UInt8.reduceToNat,UInt32.reduceToNat,UInt64.reduceToNat,Cu,Rg,Le,Ln,PE,Mu,BX,Sr,St,Wd,Nn,Ck,Cl,Cn,PD,Ui,Gd,Aa,Cp,FG,Cq,D_,E8,FW,Eh,C_,D',BP,E7,E5,BD,↓ER,↓EY,E4,G1,E1,E_,reduceCtorEq,G5,G6,G7,E3,G2,E9,G4,G8,E6,G3,G0,FX,F_,G9]at *)<;>(try simp only[EO,FD]at *)<;>omega)|((try clear ih)<;>(try clear hb)<;>(try simp only[Dv,Dq,Ho,Iw,Qq,ED,Uf,Yn,Yy,Uh,zi,z8,z32,z64,Iv,Im,Gu,Fk,EG,Ip,DW,Io,Iy,Is,EU,UInt8.reduceToNat,UInt32.reduceToNat,UInt64.reduceToNat,Cu,Rg,Le,Ln,PE,Mu,BX,Sr,St,Wd,Nn,Ck,Cl,Cn,PD,Ui,Gd,Aa,Cp,FG,Cq,D_,E8,FW,Eh,C_,D',BP,E7,E5,BD,↓ER,↓EY,E4,G1,E1,E_,reduceCtorEq,G5,G6,G7,E3,G2,E9,G4,G8,E6,G3,G0,FX,F_,G9]at *)<;>(try simp only[EO,FD]at *)<;>(try simp(disch:=omega)only[zw,nN,YB]at *)<;>(try simp only[Bt]at *)<;>first|omega|(and_intros<;>first|omega|assumption|exact all_nil|exact Ez ⟨rfl,rfl⟩|exact Bc (by simp only[Nn,Aa]at *;omega)|exact Ad (by first|assumption|grind) (Bc (by first|assumption|exact Hx _|(simp only[Nn,Dv,Dq,Bt,Gd,Rg,Le,Ln,St,Sr,Aa,D']at *;omega)|simp_all))|grind|(simp_all;done)|(first|grind|exact Cj F4|(apply Ad<;>(first|grind|exact Cj F4))|(apply Ad<;>first|grind|exact Cj F4|(apply Ad<;>(first|grind|exact Cj F4))))|(repeat' first|exact all_nil|exact Hx _|apply all_cons|(simp only[Gd]at *;omega);done))|(intros;and_intros<;>first|omega|assumption|exact all_nil|grind|simp_all|(first|grind|exact Cj F4|(apply Ad<;>(first|grind|exact Cj F4))|(apply Ad<;>first|grind|exact Cj F4|(apply Ad<;>(first|grind|exact Cj F4))))))):T (o.bind f) Q:=by rw[e h];exact k
theorem tm{o:Option α}{P Q:α->Prop}(c:T o P)(h:∀y,P y->Q y):T o Q:=by
 obtain⟨y,e,hp⟩:=c;exact⟨y,e,h y hp⟩
theorem tn(h:False:=by first|exact True.intro|((try clear ih)<;>(try clear hb)<;>(try simp only[Dv,Dq,Ho,Iw,Bt,Qq,ED,Uf,Yn,Yy,Uh,zi,z8,z32,z64,Iv,Im,Gu,Fk,EG,Ip,DW,Io,Iy,Is,EU,UInt8.reduceToNat,UInt32.reduceToNat,UInt64.reduceToNat,Cu,Rg,Le,Ln,PE,Mu,BX,Sr,St,Wd,Nn,Ck,Cl,Cn,PD,Ui,Gd,Aa,Cp,FG,Cq,D_,E8,FW,Eh,C_,D',BP,E7,E5,BD,↓ER,↓EY,E4,G1,E1,E_,reduceCtorEq,G5,G6,G7,E3,G2,E9,G4,G8,E6,G3,G0,FX,F_,G9]at *)<;>(try simp only[EO,FD]at *)<;>omega)|((try clear ih)<;>(try clear hb)<;>(try simp only[Dv,Dq,Ho,Iw,Qq,ED,Uf,Yn,Yy,Uh,zi,z8,z32,z64,Iv,Im,Gu,Fk,EG,Ip,DW,Io,Iy,Is,EU,UInt8.reduceToNat,UInt32.reduceToNat,UInt64.reduceToNat,Cu,Rg,Le,Ln,PE,Mu,BX,Sr,St,Wd,Nn,Ck,Cl,Cn,PD,Ui,Gd,Aa,Cp,FG,Cq,D_,E8,FW,Eh,C_,D',BP,E7,E5,BD,↓ER,↓EY,E4,G1,E1,E_,reduceCtorEq,G5,G6,G7,E3,G2,E9,G4,G8,E6,G3,G0,FX,F_,G9]at *)<;>(try simp only[EO,FD]at *)<;>(try simp(disch:=omega)only[zw,nN,YB]at *)<;>(try simp only[Bt]at *)<;>first|omega|(and_intros<;>first|omega|assumption|exact all_nil|exact Ez ⟨rfl,rfl⟩|exact Bc (by simp only[Nn,Aa]at *;omega)|exact Ad (by first|assumption|grind) (Bc (by first|assumption|exact Hx _|(simp only[Nn,Dv,Dq,Bt,Gd,Rg,Le,Ln,St,Sr,Aa,D']at *;omega)|simp_all))|grind|(simp_all;done)|(first|grind|exact Cj F4|(apply Ad<;>(first|grind|exact Cj F4))|(apply Ad<;>first|grind|exact Cj F4|(apply Ad<;>(first|grind|exact Cj F4))))|(repeat' first|exact all_nil|exact Hx _|apply all_cons|(simp only[Gd]at *;omega);done))|(intros;and_intros<;>first|omega|assumption|exact all_nil|grind|simp_all|(first|grind|exact Cj F4|(apply Ad<;>(first|grind|exact Cj F4))|(apply Ad<;>first|grind|exact Cj F4|(apply Ad<;>(first|grind|exact Cj F4))))))):T none Q:=h.elim
theorem tb(c:H->T o P)(k:∀y,P y->T (f y) Q)(h:H:=by first|exact True.intro|((try clear ih)<;>(try clear hb)<;>(try simp only[Dv,Dq,Ho,Iw,Bt,Qq,ED,Uf,Yn,Yy,Uh,zi,z8,z32,z64,Iv,Im,Gu,Fk,EG,Ip,DW,Io,Iy,Is,EU,UInt8.reduceToNat,UInt32.reduceToNat,UInt64.reduceToNat,Cu,Rg,Le,Ln,PE,Mu,BX,Sr,St,Wd,Nn,Ck,Cl,Cn,PD,Ui,Gd,Aa,Cp,FG,Cq,D_,E8,FW,Eh,C_,D',BP,E7,E5,BD,↓ER,↓EY,E4,G1,E1,E_,reduceCtorEq,G5,G6,G7,E3,G2,E9,G4,G8,E6,G3,G0,FX,F_,G9]at *)<;>(try simp only[EO,FD]at *)<;>omega)|((try clear ih)<;>(try clear hb)<;>(try simp only[Dv,Dq,Ho,Iw,Qq,ED,Uf,Yn,Yy,Uh,zi,z8,z32,z64,Iv,Im,Gu,Fk,EG,Ip,DW,Io,Iy,Is,EU,UInt8.reduceToNat,UInt32.reduceToNat,UInt64.reduceToNat,Cu,Rg,Le,Ln,PE,Mu,BX,Sr,St,Wd,Nn,Ck,Cl,Cn,PD,Ui,Gd,Aa,Cp,FG,Cq,D_,E8,FW,Eh,C_,D',BP,E7,E5,BD,↓ER,↓EY,E4,G1,E1,E_,reduceCtorEq,G5,G6,G7,E3,G2,E9,G4,G8,E6,G3,G0,FX,F_,G9]at *)<;>(try simp only[EO,FD]at *)<;>(try simp(disch:=omega)only[zw,nN,YB]at *)<;>(try simp only[Bt]at *)<;>first|omega|(and_intros<;>first|omega|assumption|exact all_nil|exact Ez ⟨rfl,rfl⟩|exact Bc (by simp only[Nn,Aa]at *;omega)|exact Ad (by first|assumption|grind) (Bc (by first|assumption|exact Hx _|(simp only[Nn,Dv,Dq,Bt,Gd,Rg,Le,Ln,St,Sr,Aa,D']at *;omega)|simp_all))|grind|(simp_all;done)|(first|grind|exact Cj F4|(apply Ad<;>(first|grind|exact Cj F4))|(apply Ad<;>first|grind|exact Cj F4|(apply Ad<;>(first|grind|exact Cj F4))))|(repeat' first|exact all_nil|exact Hx _|apply all_cons|(simp only[Gd]at *;omega);done))|(intros;and_intros<;>first|omega|assumption|exact all_nil|grind|simp_all|(first|grind|exact Cj F4|(apply Ad<;>(first|grind|exact Cj F4))|(apply Ad<;>first|grind|exact Cj F4|(apply Ad<;>(first|grind|exact Cj F4))))))):T (o.bind f) Q:=by
 obtain⟨y,rfl,hp⟩:=c h;exact k y hp
theorem ti{a b:Option β}(h1:c=true->T a Q)(h2:c=false->T b Q):T (if c=true then a else b) Q:=by
 cases c
 ·exact h2 rfl
 ·exact h1 rfl
theorem zh{a b:Option β}(h1:c=true->T a Q)(h2:T b Q):T (if c=true then a else b) Q:=ti h1 λ_=>h2
theorem tg{l:List α}(k:∀x,T (f x) Q)(h:0<=i/\i<Aa l:=by first|exact True.intro|((try clear ih)<;>(try clear hb)<;>(try simp only[Dv,Dq,Ho,Iw,Bt,Qq,ED,Uf,Yn,Yy,Uh,zi,z8,z32,z64,Iv,Im,Gu,Fk,EG,Ip,DW,Io,Iy,Is,EU,UInt8.reduceToNat,UInt32.reduceToNat,UInt64.reduceToNat,Cu,Rg,Le,Ln,PE,Mu,BX,Sr,St,Wd,Nn,Ck,Cl,Cn,PD,Ui,Gd,Aa,Cp,FG,Cq,D_,E8,FW,Eh,C_,D',BP,E7,E5,BD,↓ER,↓EY,E4,G1,E1,E_,reduceCtorEq,G5,G6,G7,E3,G2,E9,G4,G8,E6,G3,G0,FX,F_,G9]at *)<;>(try simp only[EO,FD]at *)<;>omega)|((try clear ih)<;>(try clear hb)<;>(try simp only[Dv,Dq,Ho,Iw,Qq,ED,Uf,Yn,Yy,Uh,zi,z8,z32,z64,Iv,Im,Gu,Fk,EG,Ip,DW,Io,Iy,Is,EU,UInt8.reduceToNat,UInt32.reduceToNat,UInt64.reduceToNat,Cu,Rg,Le,Ln,PE,Mu,BX,Sr,St,Wd,Nn,Ck,Cl,Cn,PD,Ui,Gd,Aa,Cp,FG,Cq,D_,E8,FW,Eh,C_,D',BP,E7,E5,BD,↓ER,↓EY,E4,G1,E1,E_,reduceCtorEq,G5,G6,G7,E3,G2,E9,G4,G8,E6,G3,G0,FX,F_,G9]at *)<;>(try simp only[EO,FD]at *)<;>(try simp(disch:=omega)only[zw,nN,YB]at *)<;>(try simp only[Bt]at *)<;>first|omega|(and_intros<;>first|omega|assumption|exact all_nil|exact Ez ⟨rfl,rfl⟩|exact Bc (by simp only[Nn,Aa]at *;omega)|exact Ad (by first|assumption|grind) (Bc (by first|assumption|exact Hx _|(simp only[Nn,Dv,Dq,Bt,Gd,Rg,Le,Ln,St,Sr,Aa,D']at *;omega)|simp_all))|grind|(simp_all;done)|(first|grind|exact Cj F4|(apply Ad<;>(first|grind|exact Cj F4))|(apply Ad<;>first|grind|exact Cj F4|(apply Ad<;>(first|grind|exact Cj F4))))|(repeat' first|exact all_nil|exact Hx _|apply all_cons|(simp only[Gd]at *;omega);done))|(intros;and_intros<;>first|omega|assumption|exact all_nil|grind|simp_all|(first|grind|exact Cj F4|(apply Ad<;>(first|grind|exact Cj F4))|(apply Ad<;>first|grind|exact Cj F4|(apply Ad<;>(first|grind|exact Cj F4))))))):T ((Af l i).bind f) Q:=by
 unfold Af;rw[B? h.1];have:i.toNat<l.length:=by have:=h.2;unfold Aa at this;omega
 rw[H' this];exact k _
theorem th{l:List α}(k:∀x,x∈l->T (f x) Q)(h:0<=i/\i<Aa l:=by first|exact True.intro|((try clear ih)<;>(try clear hb)<;>(try simp only[Dv,Dq,Ho,Iw,Bt,Qq,ED,Uf,Yn,Yy,Uh,zi,z8,z32,z64,Iv,Im,Gu,Fk,EG,Ip,DW,Io,Iy,Is,EU,UInt8.reduceToNat,UInt32.reduceToNat,UInt64.reduceToNat,Cu,Rg,Le,Ln,PE,Mu,BX,Sr,St,Wd,Nn,Ck,Cl,Cn,PD,Ui,Gd,Aa,Cp,FG,Cq,D_,E8,FW,Eh,C_,D',BP,E7,E5,BD,↓ER,↓EY,E4,G1,E1,E_,reduceCtorEq,G5,G6,G7,E3,G2,E9,G4,G8,E6,G3,G0,FX,F_,G9]at *)<;>(try simp only[EO,FD]at *)<;>omega)|((try clear ih)<;>(try clear hb)<;>(try simp only[Dv,Dq,Ho,Iw,Qq,ED,Uf,Yn,Yy,Uh,zi,z8,z32,z64,Iv,Im,Gu,Fk,EG,Ip,DW,Io,Iy,Is,EU,UInt8.reduceToNat,UInt32.reduceToNat,UInt64.reduceToNat,Cu,Rg,Le,Ln,PE,Mu,BX,Sr,St,Wd,Nn,Ck,Cl,Cn,PD,Ui,Gd,Aa,Cp,FG,Cq,D_,E8,FW,Eh,C_,D',BP,E7,E5,BD,↓ER,↓EY,E4,G1,E1,E_,reduceCtorEq,G5,G6,G7,E3,G2,E9,G4,G8,E6,G3,G0,FX,F_,G9]at *)<;>(try simp only[EO,FD]at *)<;>(try simp(disch:=omega)only[zw,nN,YB]at *)<;>(try simp only[Bt]at *)<;>first|omega|(and_intros<;>first|omega|assumption|exact all_nil|exact Ez ⟨rfl,rfl⟩|exact Bc (by simp only[Nn,Aa]at *;omega)|exact Ad (by first|assumption|grind) (Bc (by first|assumption|exact Hx _|(simp only[Nn,Dv,Dq,Bt,Gd,Rg,Le,Ln,St,Sr,Aa,D']at *;omega)|simp_all))|grind|(simp_all;done)|(first|grind|exact Cj F4|(apply Ad<;>(first|grind|exact Cj F4))|(apply Ad<;>first|grind|exact Cj F4|(apply Ad<;>(first|grind|exact Cj F4))))|(repeat' first|exact all_nil|exact Hx _|apply all_cons|(simp only[Gd]at *;omega);done))|(intros;and_intros<;>first|omega|assumption|exact all_nil|grind|simp_all|(first|grind|exact Cj F4|(apply Ad<;>(first|grind|exact Cj F4))|(apply Ad<;>first|grind|exact Cj F4|(apply Ad<;>(first|grind|exact Cj F4))))))):T ((Af l i).bind f) Q:=by
 unfold Af;rw[B? h.1];have:i.toNat<l.length:=by have:=h.2;unfold Aa at this;omega
 rw[H' this];exact k _ (N3 _)
theorem tq{l:List α}{x:UInt8}(k:∀y,T (f y) Q)(h:256<=Aa l:=by first|exact True.intro|((try clear ih)<;>(try clear hb)<;>(try simp only[Dv,Dq,Ho,Iw,Bt,Qq,ED,Uf,Yn,Yy,Uh,zi,z8,z32,z64,Iv,Im,Gu,Fk,EG,Ip,DW,Io,Iy,Is,EU,UInt8.reduceToNat,UInt32.reduceToNat,UInt64.reduceToNat,Cu,Rg,Le,Ln,PE,Mu,BX,Sr,St,Wd,Nn,Ck,Cl,Cn,PD,Ui,Gd,Aa,Cp,FG,Cq,D_,E8,FW,Eh,C_,D',BP,E7,E5,BD,↓ER,↓EY,E4,G1,E1,E_,reduceCtorEq,G5,G6,G7,E3,G2,E9,G4,G8,E6,G3,G0,FX,F_,G9]at *)<;>(try simp only[EO,FD]at *)<;>omega)|((try clear ih)<;>(try clear hb)<;>(try simp only[Dv,Dq,Ho,Iw,Qq,ED,Uf,Yn,Yy,Uh,zi,z8,z32,z64,Iv,Im,Gu,Fk,EG,Ip,DW,Io,Iy,Is,EU,UInt8.reduceToNat,UInt32.reduceToNat,UInt64.reduceToNat,Cu,Rg,Le,Ln,PE,Mu,BX,Sr,St,Wd,Nn,Ck,Cl,Cn,PD,Ui,Gd,Aa,Cp,FG,Cq,D_,E8,FW,Eh,C_,D',BP,E7,E5,BD,↓ER,↓EY,E4,G1,E1,E_,reduceCtorEq,G5,G6,G7,E3,G2,E9,G4,G8,E6,G3,G0,FX,F_,G9]at *)<;>(try simp only[EO,FD]at *)<;>(try simp(disch:=omega)only[zw,nN,YB]at *)<;>(try simp only[Bt]at *)<;>first|omega|(and_intros<;>first|omega|assumption|exact all_nil|exact Ez ⟨rfl,rfl⟩|exact Bc (by simp only[Nn,Aa]at *;omega)|exact Ad (by first|assumption|grind) (Bc (by first|assumption|exact Hx _|(simp only[Nn,Dv,Dq,Bt,Gd,Rg,Le,Ln,St,Sr,Aa,D']at *;omega)|simp_all))|grind|(simp_all;done)|(first|grind|exact Cj F4|(apply Ad<;>(first|grind|exact Cj F4))|(apply Ad<;>first|grind|exact Cj F4|(apply Ad<;>(first|grind|exact Cj F4))))|(repeat' first|exact all_nil|exact Hx _|apply all_cons|(simp only[Gd]at *;omega);done))|(intros;and_intros<;>first|omega|assumption|exact all_nil|grind|simp_all|(first|grind|exact Cj F4|(apply Ad<;>(first|grind|exact Cj F4))|(apply Ad<;>first|grind|exact Cj F4|(apply Ad<;>(first|grind|exact Cj F4))))))):T ((Af l (GI.toZ x)).bind f) Q:=
 tg k ⟨by rw[z8];omega,by rw[z8];have:=x.toNat_lt;omega⟩
theorem tz{l:List α}{x:UInt64}(hx:x.toNat<64)(k:∀y,T (f y) Q)(h:64<=Aa l:=by first|exact True.intro|((try clear ih)<;>(try clear hb)<;>(try simp only[Dv,Dq,Ho,Iw,Bt,Qq,ED,Uf,Yn,Yy,Uh,zi,z8,z32,z64,Iv,Im,Gu,Fk,EG,Ip,DW,Io,Iy,Is,EU,UInt8.reduceToNat,UInt32.reduceToNat,UInt64.reduceToNat,Cu,Rg,Le,Ln,PE,Mu,BX,Sr,St,Wd,Nn,Ck,Cl,Cn,PD,Ui,Gd,Aa,Cp,FG,Cq,D_,E8,FW,Eh,C_,D',BP,E7,E5,BD,↓ER,↓EY,E4,G1,E1,E_,reduceCtorEq,G5,G6,G7,E3,G2,E9,G4,G8,E6,G3,G0,FX,F_,G9]at *)<;>(try simp only[EO,FD]at *)<;>omega)|((try clear ih)<;>(try clear hb)<;>(try simp only[Dv,Dq,Ho,Iw,Qq,ED,Uf,Yn,Yy,Uh,zi,z8,z32,z64,Iv,Im,Gu,Fk,EG,Ip,DW,Io,Iy,Is,EU,UInt8.reduceToNat,UInt32.reduceToNat,UInt64.reduceToNat,Cu,Rg,Le,Ln,PE,Mu,BX,Sr,St,Wd,Nn,Ck,Cl,Cn,PD,Ui,Gd,Aa,Cp,FG,Cq,D_,E8,FW,Eh,C_,D',BP,E7,E5,BD,↓ER,↓EY,E4,G1,E1,E_,reduceCtorEq,G5,G6,G7,E3,G2,E9,G4,G8,E6,G3,G0,FX,F_,G9]at *)<;>(try simp only[EO,FD]at *)<;>(try simp(disch:=omega)only[zw,nN,YB]at *)<;>(try simp only[Bt]at *)<;>first|omega|(and_intros<;>first|omega|assumption|exact all_nil|exact Ez ⟨rfl,rfl⟩|exact Bc (by simp only[Nn,Aa]at *;omega)|exact Ad (by first|assumption|grind) (Bc (by first|assumption|exact Hx _|(simp only[Nn,Dv,Dq,Bt,Gd,Rg,Le,Ln,St,Sr,Aa,D']at *;omega)|simp_all))|grind|(simp_all;done)|(first|grind|exact Cj F4|(apply Ad<;>(first|grind|exact Cj F4))|(apply Ad<;>first|grind|exact Cj F4|(apply Ad<;>(first|grind|exact Cj F4))))|(repeat' first|exact all_nil|exact Hx _|apply all_cons|(simp only[Gd]at *;omega);done))|(intros;and_intros<;>first|omega|assumption|exact all_nil|grind|simp_all|(first|grind|exact Cj F4|(apply Ad<;>(first|grind|exact Cj F4))|(apply Ad<;>first|grind|exact Cj F4|(apply Ad<;>(first|grind|exact Cj F4))))))):T ((Af l (GI.toZ x)).bind f) Q:=tg k ⟨by rw[z64];omega,by rw[z64];omega⟩
theorem tr{l:List α}(k:∀y,T (f y) Q)(h:0<=a/\0<b/\b<=Aa l:=by first|exact True.intro|((try clear ih)<;>(try clear hb)<;>(try simp only[Dv,Dq,Ho,Iw,Bt,Qq,ED,Uf,Yn,Yy,Uh,zi,z8,z32,z64,Iv,Im,Gu,Fk,EG,Ip,DW,Io,Iy,Is,EU,UInt8.reduceToNat,UInt32.reduceToNat,UInt64.reduceToNat,Cu,Rg,Le,Ln,PE,Mu,BX,Sr,St,Wd,Nn,Ck,Cl,Cn,PD,Ui,Gd,Aa,Cp,FG,Cq,D_,E8,FW,Eh,C_,D',BP,E7,E5,BD,↓ER,↓EY,E4,G1,E1,E_,reduceCtorEq,G5,G6,G7,E3,G2,E9,G4,G8,E6,G3,G0,FX,F_,G9]at *)<;>(try simp only[EO,FD]at *)<;>omega)|((try clear ih)<;>(try clear hb)<;>(try simp only[Dv,Dq,Ho,Iw,Qq,ED,Uf,Yn,Yy,Uh,zi,z8,z32,z64,Iv,Im,Gu,Fk,EG,Ip,DW,Io,Iy,Is,EU,UInt8.reduceToNat,UInt32.reduceToNat,UInt64.reduceToNat,Cu,Rg,Le,Ln,PE,Mu,BX,Sr,St,Wd,Nn,Ck,Cl,Cn,PD,Ui,Gd,Aa,Cp,FG,Cq,D_,E8,FW,Eh,C_,D',BP,E7,E5,BD,↓ER,↓EY,E4,G1,E1,E_,reduceCtorEq,G5,G6,G7,E3,G2,E9,G4,G8,E6,G3,G0,FX,F_,G9]at *)<;>(try simp only[EO,FD]at *)<;>(try simp(disch:=omega)only[zw,nN,YB]at *)<;>(try simp only[Bt]at *)<;>first|omega|(and_intros<;>first|omega|assumption|exact all_nil|exact Ez ⟨rfl,rfl⟩|exact Bc (by simp only[Nn,Aa]at *;omega)|exact Ad (by first|assumption|grind) (Bc (by first|assumption|exact Hx _|(simp only[Nn,Dv,Dq,Bt,Gd,Rg,Le,Ln,St,Sr,Aa,D']at *;omega)|simp_all))|grind|(simp_all;done)|(first|grind|exact Cj F4|(apply Ad<;>(first|grind|exact Cj F4))|(apply Ad<;>first|grind|exact Cj F4|(apply Ad<;>(first|grind|exact Cj F4))))|(repeat' first|exact all_nil|exact Hx _|apply all_cons|(simp only[Gd]at *;omega);done))|(intros;and_intros<;>first|omega|assumption|exact all_nil|grind|simp_all|(first|grind|exact Cj F4|(apply Ad<;>(first|grind|exact Cj F4))|(apply Ad<;>first|grind|exact Cj F4|(apply Ad<;>(first|grind|exact Cj F4))))))):T ((Af l (Jl a b)).bind f) Q:=
 tg k ⟨by rw[Fk,YB _ h.1];exact RG _ F3,by rw[Fk,YB _ h.1];have:=RN a h.2.1;omega⟩
theorem tA{l:List α}{p:α->Prop}(k:∀x,p x->T (f x) Q)(hA:Dp p l:=by first|assumption|grind|(simp only[PD,PE]at *;grind))(h:0<=i/\i<Aa l:=by first|exact True.intro|((try clear ih)<;>(try clear hb)<;>(try simp only[Dv,Dq,Ho,Iw,Bt,Qq,ED,Uf,Yn,Yy,Uh,zi,z8,z32,z64,Iv,Im,Gu,Fk,EG,Ip,DW,Io,Iy,Is,EU,UInt8.reduceToNat,UInt32.reduceToNat,UInt64.reduceToNat,Cu,Rg,Le,Ln,PE,Mu,BX,Sr,St,Wd,Nn,Ck,Cl,Cn,PD,Ui,Gd,Aa,Cp,FG,Cq,D_,E8,FW,Eh,C_,D',BP,E7,E5,BD,↓ER,↓EY,E4,G1,E1,E_,reduceCtorEq,G5,G6,G7,E3,G2,E9,G4,G8,E6,G3,G0,FX,F_,G9]at *)<;>(try simp only[EO,FD]at *)<;>omega)|((try clear ih)<;>(try clear hb)<;>(try simp only[Dv,Dq,Ho,Iw,Qq,ED,Uf,Yn,Yy,Uh,zi,z8,z32,z64,Iv,Im,Gu,Fk,EG,Ip,DW,Io,Iy,Is,EU,UInt8.reduceToNat,UInt32.reduceToNat,UInt64.reduceToNat,Cu,Rg,Le,Ln,PE,Mu,BX,Sr,St,Wd,Nn,Ck,Cl,Cn,PD,Ui,Gd,Aa,Cp,FG,Cq,D_,E8,FW,Eh,C_,D',BP,E7,E5,BD,↓ER,↓EY,E4,G1,E1,E_,reduceCtorEq,G5,G6,G7,E3,G2,E9,G4,G8,E6,G3,G0,FX,F_,G9]at *)<;>(try simp only[EO,FD]at *)<;>(try simp(disch:=omega)only[zw,nN,YB]at *)<;>(try simp only[Bt]at *)<;>first|omega|(and_intros<;>first|omega|assumption|exact all_nil|exact Ez ⟨rfl,rfl⟩|exact Bc (by simp only[Nn,Aa]at *;omega)|exact Ad (by first|assumption|grind) (Bc (by first|assumption|exact Hx _|(simp only[Nn,Dv,Dq,Bt,Gd,Rg,Le,Ln,St,Sr,Aa,D']at *;omega)|simp_all))|grind|(simp_all;done)|(first|grind|exact Cj F4|(apply Ad<;>(first|grind|exact Cj F4))|(apply Ad<;>first|grind|exact Cj F4|(apply Ad<;>(first|grind|exact Cj F4))))|(repeat' first|exact all_nil|exact Hx _|apply all_cons|(simp only[Gd]at *;omega);done))|(intros;and_intros<;>first|omega|assumption|exact all_nil|grind|simp_all|(first|grind|exact Cj F4|(apply Ad<;>(first|grind|exact Cj F4))|(apply Ad<;>first|grind|exact Cj F4|(apply Ad<;>(first|grind|exact Cj F4))))))):T ((Af l i).bind f) Q:=
 th λx hx=>k x (hA x hx)
theorem tAr{l:List α}{p:α->Prop}(k:∀x,p x->T (f x) Q)(hA:Dp p l:=by first|assumption|grind|(simp only[PD,PE]at *;grind))(h:0<=a/\0<b/\b<=Aa l:=by first|exact True.intro|((try clear ih)<;>(try clear hb)<;>(try simp only[Dv,Dq,Ho,Iw,Bt,Qq,ED,Uf,Yn,Yy,Uh,zi,z8,z32,z64,Iv,Im,Gu,Fk,EG,Ip,DW,Io,Iy,Is,EU,UInt8.reduceToNat,UInt32.reduceToNat,UInt64.reduceToNat,Cu,Rg,Le,Ln,PE,Mu,BX,Sr,St,Wd,Nn,Ck,Cl,Cn,PD,Ui,Gd,Aa,Cp,FG,Cq,D_,E8,FW,Eh,C_,D',BP,E7,E5,BD,↓ER,↓EY,E4,G1,E1,E_,reduceCtorEq,G5,G6,G7,E3,G2,E9,G4,G8,E6,G3,G0,FX,F_,G9]at *)<;>(try simp only[EO,FD]at *)<;>omega)|((try clear ih)<;>(try clear hb)<;>(try simp only[Dv,Dq,Ho,Iw,Qq,ED,Uf,Yn,Yy,Uh,zi,z8,z32,z64,Iv,Im,Gu,Fk,EG,Ip,DW,Io,Iy,Is,EU,UInt8.reduceToNat,UInt32.reduceToNat,UInt64.reduceToNat,Cu,Rg,Le,Ln,PE,Mu,BX,Sr,St,Wd,Nn,Ck,Cl,Cn,PD,Ui,Gd,Aa,Cp,FG,Cq,D_,E8,FW,Eh,C_,D',BP,E7,E5,BD,↓ER,↓EY,E4,G1,E1,E_,reduceCtorEq,G5,G6,G7,E3,G2,E9,G4,G8,E6,G3,G0,FX,F_,G9]at *)<;>(try simp only[EO,FD]at *)<;>(try simp(disch:=omega)only[zw,nN,YB]at *)<;>(try simp only[Bt]at *)<;>first|omega|(and_intros<;>first|omega|assumption|exact all_nil|exact Ez ⟨rfl,rfl⟩|exact Bc (by simp only[Nn,Aa]at *;omega)|exact Ad (by first|assumption|grind) (Bc (by first|assumption|exact Hx _|(simp only[Nn,Dv,Dq,Bt,Gd,Rg,Le,Ln,St,Sr,Aa,D']at *;omega)|simp_all))|grind|(simp_all;done)|(first|grind|exact Cj F4|(apply Ad<;>(first|grind|exact Cj F4))|(apply Ad<;>first|grind|exact Cj F4|(apply Ad<;>(first|grind|exact Cj F4))))|(repeat' first|exact all_nil|exact Hx _|apply all_cons|(simp only[Gd]at *;omega);done))|(intros;and_intros<;>first|omega|assumption|exact all_nil|grind|simp_all|(first|grind|exact Cj F4|(apply Ad<;>(first|grind|exact Cj F4))|(apply Ad<;>first|grind|exact Cj F4|(apply Ad<;>(first|grind|exact Cj F4))))))):T ((Af l (Jl a b)).bind f) Q:=
 tA k hA ⟨by rw[Fk,YB _ h.1];exact RG _ F3,by rw[Fk,YB _ h.1];have:=RN a h.2.1;omega⟩
theorem tE{l:List α}(k:∀x,Af l i=some x->T (f x) Q)(h:0<=i/\i<Aa l:=by first|exact True.intro|((try clear ih)<;>(try clear hb)<;>(try simp only[Dv,Dq,Ho,Iw,Bt,Qq,ED,Uf,Yn,Yy,Uh,zi,z8,z32,z64,Iv,Im,Gu,Fk,EG,Ip,DW,Io,Iy,Is,EU,UInt8.reduceToNat,UInt32.reduceToNat,UInt64.reduceToNat,Cu,Rg,Le,Ln,PE,Mu,BX,Sr,St,Wd,Nn,Ck,Cl,Cn,PD,Ui,Gd,Aa,Cp,FG,Cq,D_,E8,FW,Eh,C_,D',BP,E7,E5,BD,↓ER,↓EY,E4,G1,E1,E_,reduceCtorEq,G5,G6,G7,E3,G2,E9,G4,G8,E6,G3,G0,FX,F_,G9]at *)<;>(try simp only[EO,FD]at *)<;>omega)|((try clear ih)<;>(try clear hb)<;>(try simp only[Dv,Dq,Ho,Iw,Qq,ED,Uf,Yn,Yy,Uh,zi,z8,z32,z64,Iv,Im,Gu,Fk,EG,Ip,DW,Io,Iy,Is,EU,UInt8.reduceToNat,UInt32.reduceToNat,UInt64.reduceToNat,Cu,Rg,Le,Ln,PE,Mu,BX,Sr,St,Wd,Nn,Ck,Cl,Cn,PD,Ui,Gd,Aa,Cp,FG,Cq,D_,E8,FW,Eh,C_,D',BP,E7,E5,BD,↓ER,↓EY,E4,G1,E1,E_,reduceCtorEq,G5,G6,G7,E3,G2,E9,G4,G8,E6,G3,G0,FX,F_,G9]at *)<;>(try simp only[EO,FD]at *)<;>(try simp(disch:=omega)only[zw,nN,YB]at *)<;>(try simp only[Bt]at *)<;>first|omega|(and_intros<;>first|omega|assumption|exact all_nil|exact Ez ⟨rfl,rfl⟩|exact Bc (by simp only[Nn,Aa]at *;omega)|exact Ad (by first|assumption|grind) (Bc (by first|assumption|exact Hx _|(simp only[Nn,Dv,Dq,Bt,Gd,Rg,Le,Ln,St,Sr,Aa,D']at *;omega)|simp_all))|grind|(simp_all;done)|(first|grind|exact Cj F4|(apply Ad<;>(first|grind|exact Cj F4))|(apply Ad<;>first|grind|exact Cj F4|(apply Ad<;>(first|grind|exact Cj F4))))|(repeat' first|exact all_nil|exact Hx _|apply all_cons|(simp only[Gd]at *;omega);done))|(intros;and_intros<;>first|omega|assumption|exact all_nil|grind|simp_all|(first|grind|exact Cj F4|(apply Ad<;>(first|grind|exact Cj F4))|(apply Ad<;>first|grind|exact Cj F4|(apply Ad<;>(first|grind|exact Cj F4))))))):T ((Af l i).bind f) Q:=by
 have:i.toNat<l.length:=by have:=h.2;unfold Aa at this;omega
 have e:Af l i=some l[i.toNat]:=by unfold Af;rw[B? h.1,H' this]
 rw[e,CS];exact k _ e
theorem tB{l:List α}{p:α->Prop}(k:∀x,Af l i=some x->p x->T (f x) Q)(hA:Dp p l:=by first|assumption|grind|(simp only[PD,PE]at *;grind))(h:0<=i/\i<Aa l:=by first|exact True.intro|((try clear ih)<;>(try clear hb)<;>(try simp only[Dv,Dq,Ho,Iw,Bt,Qq,ED,Uf,Yn,Yy,Uh,zi,z8,z32,z64,Iv,Im,Gu,Fk,EG,Ip,DW,Io,Iy,Is,EU,UInt8.reduceToNat,UInt32.reduceToNat,UInt64.reduceToNat,Cu,Rg,Le,Ln,PE,Mu,BX,Sr,St,Wd,Nn,Ck,Cl,Cn,PD,Ui,Gd,Aa,Cp,FG,Cq,D_,E8,FW,Eh,C_,D',BP,E7,E5,BD,↓ER,↓EY,E4,G1,E1,E_,reduceCtorEq,G5,G6,G7,E3,G2,E9,G4,G8,E6,G3,G0,FX,F_,G9]at *)<;>(try simp only[EO,FD]at *)<;>omega)|((try clear ih)<;>(try clear hb)<;>(try simp only[Dv,Dq,Ho,Iw,Qq,ED,Uf,Yn,Yy,Uh,zi,z8,z32,z64,Iv,Im,Gu,Fk,EG,Ip,DW,Io,Iy,Is,EU,UInt8.reduceToNat,UInt32.reduceToNat,UInt64.reduceToNat,Cu,Rg,Le,Ln,PE,Mu,BX,Sr,St,Wd,Nn,Ck,Cl,Cn,PD,Ui,Gd,Aa,Cp,FG,Cq,D_,E8,FW,Eh,C_,D',BP,E7,E5,BD,↓ER,↓EY,E4,G1,E1,E_,reduceCtorEq,G5,G6,G7,E3,G2,E9,G4,G8,E6,G3,G0,FX,F_,G9]at *)<;>(try simp only[EO,FD]at *)<;>(try simp(disch:=omega)only[zw,nN,YB]at *)<;>(try simp only[Bt]at *)<;>first|omega|(and_intros<;>first|omega|assumption|exact all_nil|exact Ez ⟨rfl,rfl⟩|exact Bc (by simp only[Nn,Aa]at *;omega)|exact Ad (by first|assumption|grind) (Bc (by first|assumption|exact Hx _|(simp only[Nn,Dv,Dq,Bt,Gd,Rg,Le,Ln,St,Sr,Aa,D']at *;omega)|simp_all))|grind|(simp_all;done)|(first|grind|exact Cj F4|(apply Ad<;>(first|grind|exact Cj F4))|(apply Ad<;>first|grind|exact Cj F4|(apply Ad<;>(first|grind|exact Cj F4))))|(repeat' first|exact all_nil|exact Hx _|apply all_cons|(simp only[Gd]at *;omega);done))|(intros;and_intros<;>first|omega|assumption|exact all_nil|grind|simp_all|(first|grind|exact Cj F4|(apply Ad<;>(first|grind|exact Cj F4))|(apply Ad<;>first|grind|exact Cj F4|(apply Ad<;>(first|grind|exact Cj F4))))))):T ((Af l i).bind f) Q:=
 tE (λx e=>k x e (hA x (by unfold Af at e;rw[B? h.1]at e;exact J6 e))) h
variable {l m:List α} {g:List α->Option β}
theorem te{x:α}(k:∀y,Aa y=Aa l->T (g y) Q)(h:0<=i/\i<Aa l:=by first|exact True.intro|((try clear ih)<;>(try clear hb)<;>(try simp only[Dv,Dq,Ho,Iw,Bt,Qq,ED,Uf,Yn,Yy,Uh,zi,z8,z32,z64,Iv,Im,Gu,Fk,EG,Ip,DW,Io,Iy,Is,EU,UInt8.reduceToNat,UInt32.reduceToNat,UInt64.reduceToNat,Cu,Rg,Le,Ln,PE,Mu,BX,Sr,St,Wd,Nn,Ck,Cl,Cn,PD,Ui,Gd,Aa,Cp,FG,Cq,D_,E8,FW,Eh,C_,D',BP,E7,E5,BD,↓ER,↓EY,E4,G1,E1,E_,reduceCtorEq,G5,G6,G7,E3,G2,E9,G4,G8,E6,G3,G0,FX,F_,G9]at *)<;>(try simp only[EO,FD]at *)<;>omega)|((try clear ih)<;>(try clear hb)<;>(try simp only[Dv,Dq,Ho,Iw,Qq,ED,Uf,Yn,Yy,Uh,zi,z8,z32,z64,Iv,Im,Gu,Fk,EG,Ip,DW,Io,Iy,Is,EU,UInt8.reduceToNat,UInt32.reduceToNat,UInt64.reduceToNat,Cu,Rg,Le,Ln,PE,Mu,BX,Sr,St,Wd,Nn,Ck,Cl,Cn,PD,Ui,Gd,Aa,Cp,FG,Cq,D_,E8,FW,Eh,C_,D',BP,E7,E5,BD,↓ER,↓EY,E4,G1,E1,E_,reduceCtorEq,G5,G6,G7,E3,G2,E9,G4,G8,E6,G3,G0,FX,F_,G9]at *)<;>(try simp only[EO,FD]at *)<;>(try simp(disch:=omega)only[zw,nN,YB]at *)<;>(try simp only[Bt]at *)<;>first|omega|(and_intros<;>first|omega|assumption|exact all_nil|exact Ez ⟨rfl,rfl⟩|exact Bc (by simp only[Nn,Aa]at *;omega)|exact Ad (by first|assumption|grind) (Bc (by first|assumption|exact Hx _|(simp only[Nn,Dv,Dq,Bt,Gd,Rg,Le,Ln,St,Sr,Aa,D']at *;omega)|simp_all))|grind|(simp_all;done)|(first|grind|exact Cj F4|(apply Ad<;>(first|grind|exact Cj F4))|(apply Ad<;>first|grind|exact Cj F4|(apply Ad<;>(first|grind|exact Cj F4))))|(repeat' first|exact all_nil|exact Hx _|apply all_cons|(simp only[Gd]at *;omega);done))|(intros;and_intros<;>first|omega|assumption|exact all_nil|grind|simp_all|(first|grind|exact Cj F4|(apply Ad<;>(first|grind|exact Cj F4))|(apply Ad<;>first|grind|exact Cj F4|(apply Ad<;>(first|grind|exact Cj F4))))))):T ((Ml l i x).bind g) Q:=by
 unfold Ml;rw[B? (by unfold Aa at h;exact h)];exact k _ Y0
theorem tS{x:α}{p:α->Prop}(k:∀y,Aa y=Aa l/\Dp p y->T (g y) Q)(hA:Dp p l:=by first|assumption|grind|(simp only[PD,PE]at *;grind))(hx:p x:=by first|exact True.intro|((try clear ih)<;>(try clear hb)<;>(try simp only[Dv,Dq,Ho,Iw,Bt,Qq,ED,Uf,Yn,Yy,Uh,zi,z8,z32,z64,Iv,Im,Gu,Fk,EG,Ip,DW,Io,Iy,Is,EU,UInt8.reduceToNat,UInt32.reduceToNat,UInt64.reduceToNat,Cu,Rg,Le,Ln,PE,Mu,BX,Sr,St,Wd,Nn,Ck,Cl,Cn,PD,Ui,Gd,Aa,Cp,FG,Cq,D_,E8,FW,Eh,C_,D',BP,E7,E5,BD,↓ER,↓EY,E4,G1,E1,E_,reduceCtorEq,G5,G6,G7,E3,G2,E9,G4,G8,E6,G3,G0,FX,F_,G9]at *)<;>(try simp only[EO,FD]at *)<;>omega)|((try clear ih)<;>(try clear hb)<;>(try simp only[Dv,Dq,Ho,Iw,Qq,ED,Uf,Yn,Yy,Uh,zi,z8,z32,z64,Iv,Im,Gu,Fk,EG,Ip,DW,Io,Iy,Is,EU,UInt8.reduceToNat,UInt32.reduceToNat,UInt64.reduceToNat,Cu,Rg,Le,Ln,PE,Mu,BX,Sr,St,Wd,Nn,Ck,Cl,Cn,PD,Ui,Gd,Aa,Cp,FG,Cq,D_,E8,FW,Eh,C_,D',BP,E7,E5,BD,↓ER,↓EY,E4,G1,E1,E_,reduceCtorEq,G5,G6,G7,E3,G2,E9,G4,G8,E6,G3,G0,FX,F_,G9]at *)<;>(try simp only[EO,FD]at *)<;>(try simp(disch:=omega)only[zw,nN,YB]at *)<;>(try simp only[Bt]at *)<;>first|omega|(and_intros<;>first|omega|assumption|exact all_nil|exact Ez ⟨rfl,rfl⟩|exact Bc (by simp only[Nn,Aa]at *;omega)|exact Ad (by first|assumption|grind) (Bc (by first|assumption|exact Hx _|(simp only[Nn,Dv,Dq,Bt,Gd,Rg,Le,Ln,St,Sr,Aa,D']at *;omega)|simp_all))|grind|(simp_all;done)|(first|grind|exact Cj F4|(apply Ad<;>(first|grind|exact Cj F4))|(apply Ad<;>first|grind|exact Cj F4|(apply Ad<;>(first|grind|exact Cj F4))))|(repeat' first|exact all_nil|exact Hx _|apply all_cons|(simp only[Gd]at *;omega);done))|(intros;and_intros<;>first|omega|assumption|exact all_nil|grind|simp_all|(first|grind|exact Cj F4|(apply Ad<;>(first|grind|exact Cj F4))|(apply Ad<;>first|grind|exact Cj F4|(apply Ad<;>(first|grind|exact Cj F4)))))))(h:0<=i/\i<Aa l:=by first|exact True.intro|((try clear ih)<;>(try clear hb)<;>(try simp only[Dv,Dq,Ho,Iw,Bt,Qq,ED,Uf,Yn,Yy,Uh,zi,z8,z32,z64,Iv,Im,Gu,Fk,EG,Ip,DW,Io,Iy,Is,EU,UInt8.reduceToNat,UInt32.reduceToNat,UInt64.reduceToNat,Cu,Rg,Le,Ln,PE,Mu,BX,Sr,St,Wd,Nn,Ck,Cl,Cn,PD,Ui,Gd,Aa,Cp,FG,Cq,D_,E8,FW,Eh,C_,D',BP,E7,E5,BD,↓ER,↓EY,E4,G1,E1,E_,reduceCtorEq,G5,G6,G7,E3,G2,E9,G4,G8,E6,G3,G0,FX,F_,G9]at *)<;>(try simp only[EO,FD]at *)<;>omega)|((try clear ih)<;>(try clear hb)<;>(try simp only[Dv,Dq,Ho,Iw,Qq,ED,Uf,Yn,Yy,Uh,zi,z8,z32,z64,Iv,Im,Gu,Fk,EG,Ip,DW,Io,Iy,Is,EU,UInt8.reduceToNat,UInt32.reduceToNat,UInt64.reduceToNat,Cu,Rg,Le,Ln,PE,Mu,BX,Sr,St,Wd,Nn,Ck,Cl,Cn,PD,Ui,Gd,Aa,Cp,FG,Cq,D_,E8,FW,Eh,C_,D',BP,E7,E5,BD,↓ER,↓EY,E4,G1,E1,E_,reduceCtorEq,G5,G6,G7,E3,G2,E9,G4,G8,E6,G3,G0,FX,F_,G9]at *)<;>(try simp only[EO,FD]at *)<;>(try simp(disch:=omega)only[zw,nN,YB]at *)<;>(try simp only[Bt]at *)<;>first|omega|(and_intros<;>first|omega|assumption|exact all_nil|exact Ez ⟨rfl,rfl⟩|exact Bc (by simp only[Nn,Aa]at *;omega)|exact Ad (by first|assumption|grind) (Bc (by first|assumption|exact Hx _|(simp only[Nn,Dv,Dq,Bt,Gd,Rg,Le,Ln,St,Sr,Aa,D']at *;omega)|simp_all))|grind|(simp_all;done)|(first|grind|exact Cj F4|(apply Ad<;>(first|grind|exact Cj F4))|(apply Ad<;>first|grind|exact Cj F4|(apply Ad<;>(first|grind|exact Cj F4))))|(repeat' first|exact all_nil|exact Hx _|apply all_cons|(simp only[Gd]at *;omega);done))|(intros;and_intros<;>first|omega|assumption|exact all_nil|grind|simp_all|(first|grind|exact Cj F4|(apply Ad<;>(first|grind|exact Cj F4))|(apply Ad<;>first|grind|exact Cj F4|(apply Ad<;>(first|grind|exact Cj F4))))))):T ((Ml l i x).bind g) Q:=by
 unfold Ml;rw[B? (by unfold Aa at h;exact h)];exact k _ ⟨by unfold Aa;simp,λy hy=>(List.mem_or_eq_of_mem_set hy).elim (hA y) λe=>e▸hx⟩
theorem tir{x:α}(k:∀y,Aa y=Aa l->T (g y) Q)(h:0<=a/\0<b/\b<=Aa l:=by first|exact True.intro|((try clear ih)<;>(try clear hb)<;>(try simp only[Dv,Dq,Ho,Iw,Bt,Qq,ED,Uf,Yn,Yy,Uh,zi,z8,z32,z64,Iv,Im,Gu,Fk,EG,Ip,DW,Io,Iy,Is,EU,UInt8.reduceToNat,UInt32.reduceToNat,UInt64.reduceToNat,Cu,Rg,Le,Ln,PE,Mu,BX,Sr,St,Wd,Nn,Ck,Cl,Cn,PD,Ui,Gd,Aa,Cp,FG,Cq,D_,E8,FW,Eh,C_,D',BP,E7,E5,BD,↓ER,↓EY,E4,G1,E1,E_,reduceCtorEq,G5,G6,G7,E3,G2,E9,G4,G8,E6,G3,G0,FX,F_,G9]at *)<;>(try simp only[EO,FD]at *)<;>omega)|((try clear ih)<;>(try clear hb)<;>(try simp only[Dv,Dq,Ho,Iw,Qq,ED,Uf,Yn,Yy,Uh,zi,z8,z32,z64,Iv,Im,Gu,Fk,EG,Ip,DW,Io,Iy,Is,EU,UInt8.reduceToNat,UInt32.reduceToNat,UInt64.reduceToNat,Cu,Rg,Le,Ln,PE,Mu,BX,Sr,St,Wd,Nn,Ck,Cl,Cn,PD,Ui,Gd,Aa,Cp,FG,Cq,D_,E8,FW,Eh,C_,D',BP,E7,E5,BD,↓ER,↓EY,E4,G1,E1,E_,reduceCtorEq,G5,G6,G7,E3,G2,E9,G4,G8,E6,G3,G0,FX,F_,G9]at *)<;>(try simp only[EO,FD]at *)<;>(try simp(disch:=omega)only[zw,nN,YB]at *)<;>(try simp only[Bt]at *)<;>first|omega|(and_intros<;>first|omega|assumption|exact all_nil|exact Ez ⟨rfl,rfl⟩|exact Bc (by simp only[Nn,Aa]at *;omega)|exact Ad (by first|assumption|grind) (Bc (by first|assumption|exact Hx _|(simp only[Nn,Dv,Dq,Bt,Gd,Rg,Le,Ln,St,Sr,Aa,D']at *;omega)|simp_all))|grind|(simp_all;done)|(first|grind|exact Cj F4|(apply Ad<;>(first|grind|exact Cj F4))|(apply Ad<;>first|grind|exact Cj F4|(apply Ad<;>(first|grind|exact Cj F4))))|(repeat' first|exact all_nil|exact Hx _|apply all_cons|(simp only[Gd]at *;omega);done))|(intros;and_intros<;>first|omega|assumption|exact all_nil|grind|simp_all|(first|grind|exact Cj F4|(apply Ad<;>(first|grind|exact Cj F4))|(apply Ad<;>first|grind|exact Cj F4|(apply Ad<;>(first|grind|exact Cj F4))))))):T ((Ml l (Jl a b) x).bind g) Q:=
 te k ⟨by rw[Fk,YB _ h.1];exact RG _ F3,by rw[Fk,YB _ h.1];have:=RN a h.2.1;omega⟩
theorem tSr{x:α}{p:α->Prop}(k:∀y,Aa y=Aa l/\Dp p y->T (g y) Q)(hA:Dp p l:=by first|assumption|grind|(simp only[PD,PE]at *;grind))(hx:p x:=by first|exact True.intro|((try clear ih)<;>(try clear hb)<;>(try simp only[Dv,Dq,Ho,Iw,Bt,Qq,ED,Uf,Yn,Yy,Uh,zi,z8,z32,z64,Iv,Im,Gu,Fk,EG,Ip,DW,Io,Iy,Is,EU,UInt8.reduceToNat,UInt32.reduceToNat,UInt64.reduceToNat,Cu,Rg,Le,Ln,PE,Mu,BX,Sr,St,Wd,Nn,Ck,Cl,Cn,PD,Ui,Gd,Aa,Cp,FG,Cq,D_,E8,FW,Eh,C_,D',BP,E7,E5,BD,↓ER,↓EY,E4,G1,E1,E_,reduceCtorEq,G5,G6,G7,E3,G2,E9,G4,G8,E6,G3,G0,FX,F_,G9]at *)<;>(try simp only[EO,FD]at *)<;>omega)|((try clear ih)<;>(try clear hb)<;>(try simp only[Dv,Dq,Ho,Iw,Qq,ED,Uf,Yn,Yy,Uh,zi,z8,z32,z64,Iv,Im,Gu,Fk,EG,Ip,DW,Io,Iy,Is,EU,UInt8.reduceToNat,UInt32.reduceToNat,UInt64.reduceToNat,Cu,Rg,Le,Ln,PE,Mu,BX,Sr,St,Wd,Nn,Ck,Cl,Cn,PD,Ui,Gd,Aa,Cp,FG,Cq,D_,E8,FW,Eh,C_,D',BP,E7,E5,BD,↓ER,↓EY,E4,G1,E1,E_,reduceCtorEq,G5,G6,G7,E3,G2,E9,G4,G8,E6,G3,G0,FX,F_,G9]at *)<;>(try simp only[EO,FD]at *)<;>(try simp(disch:=omega)only[zw,nN,YB]at *)<;>(try simp only[Bt]at *)<;>first|omega|(and_intros<;>first|omega|assumption|exact all_nil|exact Ez ⟨rfl,rfl⟩|exact Bc (by simp only[Nn,Aa]at *;omega)|exact Ad (by first|assumption|grind) (Bc (by first|assumption|exact Hx _|(simp only[Nn,Dv,Dq,Bt,Gd,Rg,Le,Ln,St,Sr,Aa,D']at *;omega)|simp_all))|grind|(simp_all;done)|(first|grind|exact Cj F4|(apply Ad<;>(first|grind|exact Cj F4))|(apply Ad<;>first|grind|exact Cj F4|(apply Ad<;>(first|grind|exact Cj F4))))|(repeat' first|exact all_nil|exact Hx _|apply all_cons|(simp only[Gd]at *;omega);done))|(intros;and_intros<;>first|omega|assumption|exact all_nil|grind|simp_all|(first|grind|exact Cj F4|(apply Ad<;>(first|grind|exact Cj F4))|(apply Ad<;>first|grind|exact Cj F4|(apply Ad<;>(first|grind|exact Cj F4)))))))(h:0<=a/\0<b/\b<=Aa l:=by first|exact True.intro|((try clear ih)<;>(try clear hb)<;>(try simp only[Dv,Dq,Ho,Iw,Bt,Qq,ED,Uf,Yn,Yy,Uh,zi,z8,z32,z64,Iv,Im,Gu,Fk,EG,Ip,DW,Io,Iy,Is,EU,UInt8.reduceToNat,UInt32.reduceToNat,UInt64.reduceToNat,Cu,Rg,Le,Ln,PE,Mu,BX,Sr,St,Wd,Nn,Ck,Cl,Cn,PD,Ui,Gd,Aa,Cp,FG,Cq,D_,E8,FW,Eh,C_,D',BP,E7,E5,BD,↓ER,↓EY,E4,G1,E1,E_,reduceCtorEq,G5,G6,G7,E3,G2,E9,G4,G8,E6,G3,G0,FX,F_,G9]at *)<;>(try simp only[EO,FD]at *)<;>omega)|((try clear ih)<;>(try clear hb)<;>(try simp only[Dv,Dq,Ho,Iw,Qq,ED,Uf,Yn,Yy,Uh,zi,z8,z32,z64,Iv,Im,Gu,Fk,EG,Ip,DW,Io,Iy,Is,EU,UInt8.reduceToNat,UInt32.reduceToNat,UInt64.reduceToNat,Cu,Rg,Le,Ln,PE,Mu,BX,Sr,St,Wd,Nn,Ck,Cl,Cn,PD,Ui,Gd,Aa,Cp,FG,Cq,D_,E8,FW,Eh,C_,D',BP,E7,E5,BD,↓ER,↓EY,E4,G1,E1,E_,reduceCtorEq,G5,G6,G7,E3,G2,E9,G4,G8,E6,G3,G0,FX,F_,G9]at *)<;>(try simp only[EO,FD]at *)<;>(try simp(disch:=omega)only[zw,nN,YB]at *)<;>(try simp only[Bt]at *)<;>first|omega|(and_intros<;>first|omega|assumption|exact all_nil|exact Ez ⟨rfl,rfl⟩|exact Bc (by simp only[Nn,Aa]at *;omega)|exact Ad (by first|assumption|grind) (Bc (by first|assumption|exact Hx _|(simp only[Nn,Dv,Dq,Bt,Gd,Rg,Le,Ln,St,Sr,Aa,D']at *;omega)|simp_all))|grind|(simp_all;done)|(first|grind|exact Cj F4|(apply Ad<;>(first|grind|exact Cj F4))|(apply Ad<;>first|grind|exact Cj F4|(apply Ad<;>(first|grind|exact Cj F4))))|(repeat' first|exact all_nil|exact Hx _|apply all_cons|(simp only[Gd]at *;omega);done))|(intros;and_intros<;>first|omega|assumption|exact all_nil|grind|simp_all|(first|grind|exact Cj F4|(apply Ad<;>(first|grind|exact Cj F4))|(apply Ad<;>first|grind|exact Cj F4|(apply Ad<;>(first|grind|exact Cj F4))))))):T ((Ml l (Jl a b) x).bind g) Q:=
 tS k hA hx ⟨by rw[Fk,YB _ h.1];exact RG _ F3,by rw[Fk,YB _ h.1];have:=RN a h.2.1;omega⟩
theorem tc(k:∀y,Aa y=b-a->T (g y) Q)(h:0<=a/\a<=b/\b<=Aa l:=by first|exact True.intro|((try clear ih)<;>(try clear hb)<;>(try simp only[Dv,Dq,Ho,Iw,Bt,Qq,ED,Uf,Yn,Yy,Uh,zi,z8,z32,z64,Iv,Im,Gu,Fk,EG,Ip,DW,Io,Iy,Is,EU,UInt8.reduceToNat,UInt32.reduceToNat,UInt64.reduceToNat,Cu,Rg,Le,Ln,PE,Mu,BX,Sr,St,Wd,Nn,Ck,Cl,Cn,PD,Ui,Gd,Aa,Cp,FG,Cq,D_,E8,FW,Eh,C_,D',BP,E7,E5,BD,↓ER,↓EY,E4,G1,E1,E_,reduceCtorEq,G5,G6,G7,E3,G2,E9,G4,G8,E6,G3,G0,FX,F_,G9]at *)<;>(try simp only[EO,FD]at *)<;>omega)|((try clear ih)<;>(try clear hb)<;>(try simp only[Dv,Dq,Ho,Iw,Qq,ED,Uf,Yn,Yy,Uh,zi,z8,z32,z64,Iv,Im,Gu,Fk,EG,Ip,DW,Io,Iy,Is,EU,UInt8.reduceToNat,UInt32.reduceToNat,UInt64.reduceToNat,Cu,Rg,Le,Ln,PE,Mu,BX,Sr,St,Wd,Nn,Ck,Cl,Cn,PD,Ui,Gd,Aa,Cp,FG,Cq,D_,E8,FW,Eh,C_,D',BP,E7,E5,BD,↓ER,↓EY,E4,G1,E1,E_,reduceCtorEq,G5,G6,G7,E3,G2,E9,G4,G8,E6,G3,G0,FX,F_,G9]at *)<;>(try simp only[EO,FD]at *)<;>(try simp(disch:=omega)only[zw,nN,YB]at *)<;>(try simp only[Bt]at *)<;>first|omega|(and_intros<;>first|omega|assumption|exact all_nil|exact Ez ⟨rfl,rfl⟩|exact Bc (by simp only[Nn,Aa]at *;omega)|exact Ad (by first|assumption|grind) (Bc (by first|assumption|exact Hx _|(simp only[Nn,Dv,Dq,Bt,Gd,Rg,Le,Ln,St,Sr,Aa,D']at *;omega)|simp_all))|grind|(simp_all;done)|(first|grind|exact Cj F4|(apply Ad<;>(first|grind|exact Cj F4))|(apply Ad<;>first|grind|exact Cj F4|(apply Ad<;>(first|grind|exact Cj F4))))|(repeat' first|exact all_nil|exact Hx _|apply all_cons|(simp only[Gd]at *;omega);done))|(intros;and_intros<;>first|omega|assumption|exact all_nil|grind|simp_all|(first|grind|exact Cj F4|(apply Ad<;>(first|grind|exact Cj F4))|(apply Ad<;>first|grind|exact Cj F4|(apply Ad<;>(first|grind|exact Cj F4))))))):T ((Bg l a b).bind g) Q:=by
 unfold Bg;unfold Aa at h;rw[B? h];exact k _ mh
theorem tC{p:α->Prop}(k:∀y,Aa y=b-a/\Dp p y->T (g y) Q)(hA:Dp p l:=by first|assumption|grind|(simp only[PD,PE]at *;grind))(h:0<=a/\a<=b/\b<=Aa l:=by first|exact True.intro|((try clear ih)<;>(try clear hb)<;>(try simp only[Dv,Dq,Ho,Iw,Bt,Qq,ED,Uf,Yn,Yy,Uh,zi,z8,z32,z64,Iv,Im,Gu,Fk,EG,Ip,DW,Io,Iy,Is,EU,UInt8.reduceToNat,UInt32.reduceToNat,UInt64.reduceToNat,Cu,Rg,Le,Ln,PE,Mu,BX,Sr,St,Wd,Nn,Ck,Cl,Cn,PD,Ui,Gd,Aa,Cp,FG,Cq,D_,E8,FW,Eh,C_,D',BP,E7,E5,BD,↓ER,↓EY,E4,G1,E1,E_,reduceCtorEq,G5,G6,G7,E3,G2,E9,G4,G8,E6,G3,G0,FX,F_,G9]at *)<;>(try simp only[EO,FD]at *)<;>omega)|((try clear ih)<;>(try clear hb)<;>(try simp only[Dv,Dq,Ho,Iw,Qq,ED,Uf,Yn,Yy,Uh,zi,z8,z32,z64,Iv,Im,Gu,Fk,EG,Ip,DW,Io,Iy,Is,EU,UInt8.reduceToNat,UInt32.reduceToNat,UInt64.reduceToNat,Cu,Rg,Le,Ln,PE,Mu,BX,Sr,St,Wd,Nn,Ck,Cl,Cn,PD,Ui,Gd,Aa,Cp,FG,Cq,D_,E8,FW,Eh,C_,D',BP,E7,E5,BD,↓ER,↓EY,E4,G1,E1,E_,reduceCtorEq,G5,G6,G7,E3,G2,E9,G4,G8,E6,G3,G0,FX,F_,G9]at *)<;>(try simp only[EO,FD]at *)<;>(try simp(disch:=omega)only[zw,nN,YB]at *)<;>(try simp only[Bt]at *)<;>first|omega|(and_intros<;>first|omega|assumption|exact all_nil|exact Ez ⟨rfl,rfl⟩|exact Bc (by simp only[Nn,Aa]at *;omega)|exact Ad (by first|assumption|grind) (Bc (by first|assumption|exact Hx _|(simp only[Nn,Dv,Dq,Bt,Gd,Rg,Le,Ln,St,Sr,Aa,D']at *;omega)|simp_all))|grind|(simp_all;done)|(first|grind|exact Cj F4|(apply Ad<;>(first|grind|exact Cj F4))|(apply Ad<;>first|grind|exact Cj F4|(apply Ad<;>(first|grind|exact Cj F4))))|(repeat' first|exact all_nil|exact Hx _|apply all_cons|(simp only[Gd]at *;omega);done))|(intros;and_intros<;>first|omega|assumption|exact all_nil|grind|simp_all|(first|grind|exact Cj F4|(apply Ad<;>(first|grind|exact Cj F4))|(apply Ad<;>first|grind|exact Cj F4|(apply Ad<;>(first|grind|exact Cj F4))))))):T ((Bg l a b).bind g) Q:=by
 have e:Bg l a b=some ((l.take b.toNat).drop a.toNat):=by unfold Bg;unfold Aa at h;rw[B? h]
 rw[e,CS];exact k _ ⟨by unfold Aa at *;simp;omega,λx hx=>hA x (List.mem_of_mem_take (List.mem_of_mem_drop hx))⟩
theorem ta(k:T (g (l++m)) Q)(h:Aa l+Aa m<=17179869184:=by first|exact True.intro|((try clear ih)<;>(try clear hb)<;>(try simp only[Dv,Dq,Ho,Iw,Bt,Qq,ED,Uf,Yn,Yy,Uh,zi,z8,z32,z64,Iv,Im,Gu,Fk,EG,Ip,DW,Io,Iy,Is,EU,UInt8.reduceToNat,UInt32.reduceToNat,UInt64.reduceToNat,Cu,Rg,Le,Ln,PE,Mu,BX,Sr,St,Wd,Nn,Ck,Cl,Cn,PD,Ui,Gd,Aa,Cp,FG,Cq,D_,E8,FW,Eh,C_,D',BP,E7,E5,BD,↓ER,↓EY,E4,G1,E1,E_,reduceCtorEq,G5,G6,G7,E3,G2,E9,G4,G8,E6,G3,G0,FX,F_,G9]at *)<;>(try simp only[EO,FD]at *)<;>omega)|((try clear ih)<;>(try clear hb)<;>(try simp only[Dv,Dq,Ho,Iw,Qq,ED,Uf,Yn,Yy,Uh,zi,z8,z32,z64,Iv,Im,Gu,Fk,EG,Ip,DW,Io,Iy,Is,EU,UInt8.reduceToNat,UInt32.reduceToNat,UInt64.reduceToNat,Cu,Rg,Le,Ln,PE,Mu,BX,Sr,St,Wd,Nn,Ck,Cl,Cn,PD,Ui,Gd,Aa,Cp,FG,Cq,D_,E8,FW,Eh,C_,D',BP,E7,E5,BD,↓ER,↓EY,E4,G1,E1,E_,reduceCtorEq,G5,G6,G7,E3,G2,E9,G4,G8,E6,G3,G0,FX,F_,G9]at *)<;>(try simp only[EO,FD]at *)<;>(try simp(disch:=omega)only[zw,nN,YB]at *)<;>(try simp only[Bt]at *)<;>first|omega|(and_intros<;>first|omega|assumption|exact all_nil|exact Ez ⟨rfl,rfl⟩|exact Bc (by simp only[Nn,Aa]at *;omega)|exact Ad (by first|assumption|grind) (Bc (by first|assumption|exact Hx _|(simp only[Nn,Dv,Dq,Bt,Gd,Rg,Le,Ln,St,Sr,Aa,D']at *;omega)|simp_all))|grind|(simp_all;done)|(first|grind|exact Cj F4|(apply Ad<;>(first|grind|exact Cj F4))|(apply Ad<;>first|grind|exact Cj F4|(apply Ad<;>(first|grind|exact Cj F4))))|(repeat' first|exact all_nil|exact Hx _|apply all_cons|(simp only[Gd]at *;omega);done))|(intros;and_intros<;>first|omega|assumption|exact all_nil|grind|simp_all|(first|grind|exact Cj F4|(apply Ad<;>(first|grind|exact Cj F4))|(apply Ad<;>first|grind|exact Cj F4|(apply Ad<;>(first|grind|exact Cj F4))))))):T ((Ax l m).bind g) Q:=by
 unfold Ax qF;unfold Aa at h;rw[B? F3];exact k
theorem tk{n:Int}{z:α}(k:∀y,Aa y=n->T (g y) Q)(h:0<=n/\n<=17179869184:=by first|exact True.intro|((try clear ih)<;>(try clear hb)<;>(try simp only[Dv,Dq,Ho,Iw,Bt,Qq,ED,Uf,Yn,Yy,Uh,zi,z8,z32,z64,Iv,Im,Gu,Fk,EG,Ip,DW,Io,Iy,Is,EU,UInt8.reduceToNat,UInt32.reduceToNat,UInt64.reduceToNat,Cu,Rg,Le,Ln,PE,Mu,BX,Sr,St,Wd,Nn,Ck,Cl,Cn,PD,Ui,Gd,Aa,Cp,FG,Cq,D_,E8,FW,Eh,C_,D',BP,E7,E5,BD,↓ER,↓EY,E4,G1,E1,E_,reduceCtorEq,G5,G6,G7,E3,G2,E9,G4,G8,E6,G3,G0,FX,F_,G9]at *)<;>(try simp only[EO,FD]at *)<;>omega)|((try clear ih)<;>(try clear hb)<;>(try simp only[Dv,Dq,Ho,Iw,Qq,ED,Uf,Yn,Yy,Uh,zi,z8,z32,z64,Iv,Im,Gu,Fk,EG,Ip,DW,Io,Iy,Is,EU,UInt8.reduceToNat,UInt32.reduceToNat,UInt64.reduceToNat,Cu,Rg,Le,Ln,PE,Mu,BX,Sr,St,Wd,Nn,Ck,Cl,Cn,PD,Ui,Gd,Aa,Cp,FG,Cq,D_,E8,FW,Eh,C_,D',BP,E7,E5,BD,↓ER,↓EY,E4,G1,E1,E_,reduceCtorEq,G5,G6,G7,E3,G2,E9,G4,G8,E6,G3,G0,FX,F_,G9]at *)<;>(try simp only[EO,FD]at *)<;>(try simp(disch:=omega)only[zw,nN,YB]at *)<;>(try simp only[Bt]at *)<;>first|omega|(and_intros<;>first|omega|assumption|exact all_nil|exact Ez ⟨rfl,rfl⟩|exact Bc (by simp only[Nn,Aa]at *;omega)|exact Ad (by first|assumption|grind) (Bc (by first|assumption|exact Hx _|(simp only[Nn,Dv,Dq,Bt,Gd,Rg,Le,Ln,St,Sr,Aa,D']at *;omega)|simp_all))|grind|(simp_all;done)|(first|grind|exact Cj F4|(apply Ad<;>(first|grind|exact Cj F4))|(apply Ad<;>first|grind|exact Cj F4|(apply Ad<;>(first|grind|exact Cj F4))))|(repeat' first|exact all_nil|exact Hx _|apply all_cons|(simp only[Gd]at *;omega);done))|(intros;and_intros<;>first|omega|assumption|exact all_nil|grind|simp_all|(first|grind|exact Cj F4|(apply Ad<;>(first|grind|exact Cj F4))|(apply Ad<;>first|grind|exact Cj F4|(apply Ad<;>(first|grind|exact Cj F4))))))):T ((mkI n z).bind g) Q:=by
 unfold mkI qF;rw[B? F3];exact k _ mh
theorem tw{b:Bool}{f:Unit->Option β}(k:T (f ()) Q)(h:b=true:=by first|exact True.intro|((try clear ih)<;>(try clear hb)<;>(try simp only[Dv,Dq,Ho,Iw,Bt,Qq,ED,Uf,Yn,Yy,Uh,zi,z8,z32,z64,Iv,Im,Gu,Fk,EG,Ip,DW,Io,Iy,Is,EU,UInt8.reduceToNat,UInt32.reduceToNat,UInt64.reduceToNat,Cu,Rg,Le,Ln,PE,Mu,BX,Sr,St,Wd,Nn,Ck,Cl,Cn,PD,Ui,Gd,Aa,Cp,FG,Cq,D_,E8,FW,Eh,C_,D',BP,E7,E5,BD,↓ER,↓EY,E4,G1,E1,E_,reduceCtorEq,G5,G6,G7,E3,G2,E9,G4,G8,E6,G3,G0,FX,F_,G9]at *)<;>(try simp only[EO,FD]at *)<;>omega)|((try clear ih)<;>(try clear hb)<;>(try simp only[Dv,Dq,Ho,Iw,Qq,ED,Uf,Yn,Yy,Uh,zi,z8,z32,z64,Iv,Im,Gu,Fk,EG,Ip,DW,Io,Iy,Is,EU,UInt8.reduceToNat,UInt32.reduceToNat,UInt64.reduceToNat,Cu,Rg,Le,Ln,PE,Mu,BX,Sr,St,Wd,Nn,Ck,Cl,Cn,PD,Ui,Gd,Aa,Cp,FG,Cq,D_,E8,FW,Eh,C_,D',BP,E7,E5,BD,↓ER,↓EY,E4,G1,E1,E_,reduceCtorEq,G5,G6,G7,E3,G2,E9,G4,G8,E6,G3,G0,FX,F_,G9]at *)<;>(try simp only[EO,FD]at *)<;>(try simp(disch:=omega)only[zw,nN,YB]at *)<;>(try simp only[Bt]at *)<;>first|omega|(and_intros<;>first|omega|assumption|exact all_nil|exact Ez ⟨rfl,rfl⟩|exact Bc (by simp only[Nn,Aa]at *;omega)|exact Ad (by first|assumption|grind) (Bc (by first|assumption|exact Hx _|(simp only[Nn,Dv,Dq,Bt,Gd,Rg,Le,Ln,St,Sr,Aa,D']at *;omega)|simp_all))|grind|(simp_all;done)|(first|grind|exact Cj F4|(apply Ad<;>(first|grind|exact Cj F4))|(apply Ad<;>first|grind|exact Cj F4|(apply Ad<;>(first|grind|exact Cj F4))))|(repeat' first|exact all_nil|exact Hx _|apply all_cons|(simp only[Gd]at *;omega);done))|(intros;and_intros<;>first|omega|assumption|exact all_nil|grind|simp_all|(first|grind|exact Cj F4|(apply Ad<;>(first|grind|exact Cj F4))|(apply Ad<;>first|grind|exact Cj F4|(apply Ad<;>(first|grind|exact Cj F4))))))):T ((Ex b).bind f) Q:=by
 unfold Ex;rw[B? h];exact k
theorem tv{n:Int}{f:Unit->Option β}(k:T (f ()) Q)(h:0<=a/\a<=b/\b<=n:=by first|exact True.intro|((try clear ih)<;>(try clear hb)<;>(try simp only[Dv,Dq,Ho,Iw,Bt,Qq,ED,Uf,Yn,Yy,Uh,zi,z8,z32,z64,Iv,Im,Gu,Fk,EG,Ip,DW,Io,Iy,Is,EU,UInt8.reduceToNat,UInt32.reduceToNat,UInt64.reduceToNat,Cu,Rg,Le,Ln,PE,Mu,BX,Sr,St,Wd,Nn,Ck,Cl,Cn,PD,Ui,Gd,Aa,Cp,FG,Cq,D_,E8,FW,Eh,C_,D',BP,E7,E5,BD,↓ER,↓EY,E4,G1,E1,E_,reduceCtorEq,G5,G6,G7,E3,G2,E9,G4,G8,E6,G3,G0,FX,F_,G9]at *)<;>(try simp only[EO,FD]at *)<;>omega)|((try clear ih)<;>(try clear hb)<;>(try simp only[Dv,Dq,Ho,Iw,Qq,ED,Uf,Yn,Yy,Uh,zi,z8,z32,z64,Iv,Im,Gu,Fk,EG,Ip,DW,Io,Iy,Is,EU,UInt8.reduceToNat,UInt32.reduceToNat,UInt64.reduceToNat,Cu,Rg,Le,Ln,PE,Mu,BX,Sr,St,Wd,Nn,Ck,Cl,Cn,PD,Ui,Gd,Aa,Cp,FG,Cq,D_,E8,FW,Eh,C_,D',BP,E7,E5,BD,↓ER,↓EY,E4,G1,E1,E_,reduceCtorEq,G5,G6,G7,E3,G2,E9,G4,G8,E6,G3,G0,FX,F_,G9]at *)<;>(try simp only[EO,FD]at *)<;>(try simp(disch:=omega)only[zw,nN,YB]at *)<;>(try simp only[Bt]at *)<;>first|omega|(and_intros<;>first|omega|assumption|exact all_nil|exact Ez ⟨rfl,rfl⟩|exact Bc (by simp only[Nn,Aa]at *;omega)|exact Ad (by first|assumption|grind) (Bc (by first|assumption|exact Hx _|(simp only[Nn,Dv,Dq,Bt,Gd,Rg,Le,Ln,St,Sr,Aa,D']at *;omega)|simp_all))|grind|(simp_all;done)|(first|grind|exact Cj F4|(apply Ad<;>(first|grind|exact Cj F4))|(apply Ad<;>first|grind|exact Cj F4|(apply Ad<;>(first|grind|exact Cj F4))))|(repeat' first|exact all_nil|exact Hx _|apply all_cons|(simp only[Gd]at *;omega);done))|(intros;and_intros<;>first|omega|assumption|exact all_nil|grind|simp_all|(first|grind|exact Cj F4|(apply Ad<;>(first|grind|exact Cj F4))|(apply Ad<;>first|grind|exact Cj F4|(apply Ad<;>(first|grind|exact Cj F4))))))):T ((kB n a b).bind f) Q:=by
 unfold kB;exact tw k (H8 h)
end
theorem ind{p:Nat->Prop}(h:p 0)(hs:∀q,p q->p (q+1)):∀q,p q:=λq=>Nat.rec h hs q
theorem XL{p:Prop}(h:p:=by rw[SN,Aa];simp;omega):p:=h
theorem M5{p:Prop}(h:p:=by unfold Aa;omega):p:=h
theorem n!{p:Prop}(h:p:=by have:=sU;omega):p:=h
theorem sY(h:n<18446744073709551616):(UInt64.ofNat n).toNat=n:=by rw[TL,P3 h]
theorem mul_one(m:Nat)(h:m<=100000):FB (1:UInt64) (UInt64.ofNat m)=some (0,UInt64.ofNat m):=by
 have y1:(UInt64.ofNat m).toNat=m:=sY F3;have s1:Dj (1:UInt64) (GI.toZ (32:UInt64)).toNat=0:=F4
 have s2:Dj (UInt64.ofNat m) (GI.toZ (32:UInt64)).toNat=0:=by
  apply UInt64.toNat_inj.1;rw[qG,y1];exact TX (Nat.lt_of_le_of_lt h F4)
 have s0:Dj (0:UInt64) (GI.toZ (32:UInt64)).toNat=0:=F4
 have a1:Ed (1:UInt64) (4294967295:UInt64)=1:=F4
 have a0:Ed (0:UInt64) (4294967295:UInt64)=0:=F4
 have a2:Ed (UInt64.ofNat m) (4294967295:UInt64)=UInt64.ofNat m:=by
  apply UInt64.toNat_inj.1;rw[Alx,UInt64.toNat_and,y1]
  show m&&& (2^32-1)=m;rw[kU,P3 F3]
 have m1:∀x:UInt64,Ch 1 x=x:=λx=>by rw[nX,UInt64.one_mul]
 have m0:∀x:UInt64,Ch 0 x=0:=λx=>by rw[nX,UInt64.zero_mul]
 have p0:∀x:UInt64,Ae 0 x=x:=λx=>by rw[pH,UInt64.zero_add]
 have p1:∀x:UInt64,Ae x 0=x:=λx=>by rw[pH,UInt64.add_zero]
 rw[FB,GQ];simp only[s1,s2,a1,a2,m1,m0,p0,p1,s0,a0,Kw]
theorem A9(v:Int)(m:Nat)(hm:m<=100000):∀(j n q:Nat),1<=n->n<=m->m-n<=j->j<q->Ee q (n:Int) (List.replicate n v++List.replicate (m-n) 0)=some (List.replicate m v)
 |j,n,q+1,hn,hnm,hj,hq=>by
  have hlen:Aa (List.replicate n v++List.replicate (m-n) 0)=(m:Int):=by simp[Aa];omega
  rw[Ee,Fs,hlen];by_cases h:n<m
  ·obtain⟨j,rfl⟩:∃k,j=k+1:=⟨j-1,F3⟩;rw[B? (by rw[SN];simp;omega)];have v1:kB (m:Int) (n:Int) (m:Int)=some ():=by rw[kB,ou];simp;omega
   have v2:kB (m:Int) (0:Int) (n:Int)=some ():=by rw[kB,ou];simp;omega
   have e1:Eh (List.replicate n v++List.replicate (m-n) 0) (0:Int) ((n:Int)-0)=List.replicate n v:=by
    simp[Eh]
   rw[v1,Kw,v2,Kw,e1];have e2:Cp ((m:Int)-(n:Int)) (List.replicate n v).length=((min n (m-n):Nat):Int):=by
    rw[Cp,E7];split<;>omega
   have e3:Ou (List.replicate n v++List.replicate (m-n) 0) (n:Int) ((m:Int)-(n:Int)) (List.replicate n v)=List.replicate (n+min n (m-n)) v++List.replicate (m-(n+min n (m-n))) 0:=by
    have t1:((m:Int)-(n:Int)).toNat=m-n:=F3
    have t2:(List.replicate n v++List.replicate (m-n) (0:Int)).take n=List.replicate n v:=by simp
    rw[Ou,t1,I6,t2,List.take_replicate,E7,<-J2,List.replicate_append_replicate,lJ,E7,Nat.min_comm (m-n) n];simp only[List.drop_replicate];rw[show n-(n+min n (m-n))=0 by omega,List.replicate_zero,M2,show m-n-(n+min n (m-n)-n)=m-(n+min n (m-n)) by omega]
   rw[e2,e3,Gt,show(n:Int)+((min n (m-n):Nat):Int)=((n+min n (m-n):Nat):Int) by omega];exact A9 v m hm j (n+min n (m-n)) q F3 F3 F3 F3
  ·rw[C' (by rw[SN];simp;omega)];obtain rfl:n=m:=F3
   simp[Hs,Lq]
theorem N!(v:Int)(m:Nat)(hm:m<=100000):Lk [v] (m:Int)=some (List.replicate m v):=by
 have y1:(UInt64.ofNat m).toNat=m:=sY F3;have c1:(Al (Aa [v]):UInt64)=1:=by rfl
 have c2:(Al (m:Int):UInt64)=UInt64.ofNat m:=Ajm m;have c3:(Al (UInt64.ofNat m):Int)=(m:Int):=by rw[Ajo F3,y1]
 rw[Lk,Mv,C' (by rw[SN];simp),Vv,Mp,c1,c2,mul_one m hm,Kw];simp only;rw[C' (by rw[rI,rI,y1];simp;show m<=9223372036854775807;omega),Vq,Mx,c3,dX,Kw,ou (by rw[At5];simp),Kw,Vu,I6];by_cases h0:m=0
 ·subst h0;have hF:Ap=(Ap-1)+1:=by have:=sU;omega
  rw[hF,Ee,Fs];simp[Aa,Cq,Cp,SN,Hs,Lq]
 ·have:=A9 v m hm m 1 Ap F3 F3 F3 n!;have e1:Cp (Aa (List.replicate m (0:Int))) [v].length=((1:Nat):Int):=by simp[Cp,Aa];omega
  have e2:Cq (List.replicate m (0:Int)) [v]=List.replicate 1 v++List.replicate (m-1) 0:=by
   obtain⟨k,rfl⟩:∃k,m=k+1:=⟨m-1,F3⟩;simp[Cq]
  rw[e1,e2,this]
theorem F!(l m:LI)(h:l.length+m.length<=1000000):Li [l,m]=some (l++m):=by
 have hF:Ap=(Ap-3)+1+1+1:=by have:=sU;omega
 rw[Li,Ms,Vg];have g0:Af [l,m] (0:Int)=some l:=rfl;have g1:Af [l,m] (1:Int)=some m:=rfl;have l2:Aa [l,m]=2:=rfl;have h3:Ly [l,m] []=some (l++m):=by
  rw[Ly,Lr,Lw,hF,Dw,Fb,l2,B? F4,g0,Kw,GW F6,Kw,M2,show Ae (0:Int) 1=1 by decide,
   Dw,Fb,l2,B? F4,g1,Kw,GW,Kw,show Ae (1:Int) 1=2 by decide,Dw,Fb,l2,C' F4]
  rfl
 rw[hF,Ec,Fo,l2,B? F4,g0,Kw,Gt M5 M5,C' (by rw[SN,Aa];simp),show Ae (0:Int) 1=1 by decide,
  Ec,Fo,l2,B? F4,g1,Kw,Gt M5 M5,C' (by rw[SN,Aa,Aa];simp;omega),show Ae (1:Int) 1=2 by decide,
  Ec,Fo,l2,C' F4,Ue,Lz,C' (by rw[SN,Aa,Aa];simp;omega),Ug,Lt]
 have z:As (0:Int) 0=0:=F4
 have n0:(0:Int)+Aa l+Aa m=((l.length+m.length:Nat):Int):=by simp[Aa]
 rw[z,n0,DS,Int.sub_zero];by_cases hp:0<l.length+m.length
 ·rw[B? (by rw[V?];simp;omega),show kB (0:Int) 0 0=some ()from rfl,Kw,dX,Kw,GW F6,Kw];rw[show kB (Aa ([]++List.replicate ((l.length+m.length:Nat):Int).toNat (0:Int))) 0 0=some () by rw[kB,ou];simp[Aa];omega,Kw];simp only[Eh,Int.sub_self,lQ,P9];exact h3
 ·rw[C' (by rw[V?];simp;omega)];exact h3
theorem qd(l:List LB)(hf:l.flatten.length<=4000000000)(hl:l.length<=4000000000)(v:LB)(hfin:Gq l (l.flatten.length:Int)=some v):∀(j i q:Nat),i+j=l.length->j<q->Dn l q (((l.take i).flatten.length:Nat):Int) (i:Int)=some v
 |j,i,0,_,h=>absurd h (lN _)
 |0,i,q+1,hi,_=>by
  rw[Dn,Hb,C' XL,K1 F3];exact hfin
 |j+1,i,q+1,hi,hq=>by
  have ih:=qd l hf hl v hfin j (i+1) q F3 F3;have hi1:Ae (i:Int) 1=((i+1:Nat):Int):=by rw[Gt];omega
  have hsn:(l.take (i+1)).flatten=(l.take i).flatten++l[i]:=by rw[DI F3,X'];simp
  have hsp:l.flatten=(l.take (i+1)).flatten++(l.drop (i+1)).flatten:=by rw[<-X',WN]
  have hle:((l.take i).flatten).length+(l[i]).length<=4000000000:=by
   rw[hsp,BP,hsn,BP]at hf;omega
  have hadd:Ae (((l.take i).flatten.length:Nat):Int) (Aa l[i])=(((l.take (i+1)).flatten.length:Nat):Int):=by
   rw[Aa,Gt,hsn,BP];omega
  rw[Dn,Hb,B? XL,uU,Kw,hadd,C' (by rw[SN];simp only[H4];omega),hi1];exact ih
theorem Z9(l:List LB)(hf:l.flatten.length<=4000000000)(hl:l.length<=4000000000):∀(j i q:Nat),i+j=l.length->j<q->Dh l q (i:Int) (l.take i).flatten=some l.flatten
 |j,i,0,_,h=>absurd h (lN _)
 |0,i,q+1,hi,_=>by
  rw[Dh,Gp,C' XL,K1 F3];rfl
 |j+1,i,q+1,hi,hq=>by
  have ih:=Z9 l hf hl j (i+1) q F3 F3;have hi1:Ae (i:Int) 1=((i+1:Nat):Int):=by rw[Gt];omega
  have hsn:(l.take (i+1)).flatten=(l.take i).flatten++l[i]:=by rw[DI F3,X'];simp
  have hsp:l.flatten=(l.take (i+1)).flatten++(l.drop (i+1)).flatten:=by rw[<-X',WN]
  have hle:((l.take i).flatten).length+(l[i]).length<=4000000000:=by
   rw[hsp,BP,hsn,BP]at hf;omega
  rw[Dh,Gp,B? XL,uU,Kw,GW,Kw,hi1,<-hsn];exact ih
theorem rz(l:List LB)(hf:l.flatten.length<=4000000000)(hl:l.length<=4000000000):Cd l=some l.flatten:=by
 have h3:Kf l []=some l.flatten:=by
  rw[Kf,Jz,Jv];exact Z9 l hf hl l.length 0 Ap F3 n!
 have h11:Gq l (l.flatten.length:Int)=some l.flatten:=by
  have z:As (0:Int) 0=0:=F4
  rw[Gq,Ka,C' (by rw[SN];simp only[H4];omega),Rr,Kg,z,DS,Int.sub_zero];by_cases hp:0<l.flatten.length
  ·rw[B? (by rw[V?];simp only[H4];omega),show kB (0:Int) 0 0=some ()from rfl,Kw,dX,Kw,GW (by simp only[D',E7];omega),Kw];rw[show kB (Aa ([]++List.replicate ((l.flatten.length:Nat):Int).toNat (0:UInt8))) 0 0=some () by rw[kB,ou];simp[Aa],Kw];simp only[Eh,Int.sub_self,lQ,P9];exact h3
  ·rw[C' (by rw[V?];simp only[H4];omega)];exact h3
 have:=qd l hf hl _ h11 l.length 0 Ap F3 n!;exact this
theorem Av0(l m:LB)(h:l.length+m.length<=1000000):Cd [l,m]=some (l++m):=by
 have:=rz [l,m] F6 F7;rw[this];simp
theorem xq{p:Prop}(h:p:=by rw[Qq];simp only[zi,H4];unfold Aa;omega):p:=h
theorem lg{p:Prop}(h:p:=by simp only[BP,J9];omega):p:=h
theorem XN{p:Prop}(h:p:=by simp only[J9];omega):p:=h
end Go.Pl
set_option maxRecDepth 4000
set_option maxHeartbeats 400000
namespace Go.Pl
open Go Go.Lv
variable{y b:Int}{N16:Nat}
theorem Z_(s:LB)(c:UInt8): -1<=Gb s c/\Gb s c<Aa s:=by
  induction s with
  |nil=>simp[Gb,Aa]
  |cons b l ih=>
    simp only[Gb,Aa,C_]at*
    split<;>(try split)<;>omega
theorem Agh(s:LB)(c:UInt8)(h:True):T (stringslite_IndexByte s c) (λr=> -1<=r/\r<Aa s):=⟨_,rfl,Z_ s c⟩
theorem Uq(a:LB)(b:UInt8)(hP:True):T (Ds a b) (λr=> -1<=r/\r<Aa a):=
 tb (Agh _ _) λ_ _=>ts
theorem vg(q n:Nat)(a:LB)(h:Dp Nl a):(dgt q n a).length<=a.length+q/\Dp Nl (dgt q n a):=by
  have k:∀m,m<10->Nl (UInt8.ofNat (48+m)):=λm hm e=>by
    have:=congrArg UInt8.toNat e;rw[T?,show(10:UInt8).toNat=10 from rfl]at this;omega
  induction q generalizing n a with
  |zero=>exact⟨G? _,h⟩
  |succ q ih=>
    unfold dgt;split
    · rename_i hn
      exact⟨by rw[C_];omega,all_cons (k n hn) h⟩
    · have:=ih (n/10) (UInt8.ofNat (48+n %10)::a) (all_cons (k _ F3) h)
      rw[C_]at this;exact⟨F3,this.2⟩
theorem Bw(n:Int)(h: -9223372036854775808<=n/\n<=9223372036854775807):T (strconv_Itoa n) (λr=>Aa r<=21/\Dp Nl r):=by
  unfold strconv_Itoa;rw[B? (H8 h)];refine⟨_,rfl,?_⟩;have h1:=vg 20 n.natAbs [] all_nil;have h2:=vg 20 n.toNat [] all_nil;simp only[Aa,D']at*
  split
  · exact⟨by simp only[C_];omega,all_cons (λe=>absurd e F4) h1.2⟩
  · exact⟨F3,h2.2⟩
theorem Bf(a:Int)(hP:0<=a/\a<=99):T (Aj a) (λr=>Aa r<=30/\Dp Nl r):=
 tb (Bw _) λ_ _=>ta (ts)
def hd(n:UInt8):UInt8:=([48,49,50,51,52,53,54,55,56,57,97,98,99,100,101,102]:LB).getD n.toNat 0
def xO:LB->LB
  |[]=>[]
  |b::r=>hd (Dj b (GI.toZ (4:UInt64)).toNat)::hd (Ed b 15)::xO r
theorem Ak4(a b:LB):xO (a++b)=xO a++xO b:=by
  induction a with
  |nil=>rfl
  |cons x l ih=>simp only[M0,xO,ih]
theorem uq(a:LB):(xO a).length=2*a.length:=by
  induction a with
  |nil=>rfl
  |cons x l ih=>simp only[xO,C_,ih];omega
theorem w?(n:UInt8)(h:n.toNat<16):Nl (hd n):=by
  have:Dp Nl [48,49,50,51,52,53,54,55,56,57,97,98,99,100,101,102]:=Cj F4;refine this _ ?_;unfold hd;rw[H_,H' (by simpa using h)];exact N3 _
theorem Aql(a:LB):Dp Nl (xO a):=by
  induction a with
  |nil=>exact all_nil
  |cons x l ih=>exact all_cons (w? _ (zn4 _)) (all_cons (w? _ (z15 _)) ih)
theorem tY(n:UInt8)(h:n.toNat<16):Af ([48,49,50,51,52,53,54,55,56,57,97,98,99,100,101,102]:LB) (GI.toZ n)=some (hd n):=by
  rw[z8];unfold Af hd;rw[B? F3,I6,H_,H' (by simpa using h)];rfl
theorem Azm(a:LB)(ha:a.length<=12000000):∀(q i:Nat),i<=a.length/\a.length<i+q->Tf a q i (xO (a.take i))=some (xO a):=
 ind (λi hI=>by exfalso;omega) λq ih i hI=>by
  have hl:=uq (a.take i);have hl':=uq a;rw[D_]at hl;rw[Tf,ME];by_cases h:i<a.length
  · have hsn:a.take (i+1)=a.take i++[a[i]]:=by rw[xY h]
    have g1:Af a (i:Int)=some a[i]:=by unfold Af;rw[B? F3,I6,H' h]
    have e:xO (a.take (i+1))=xO (a.take i)++[hd (Dj a[i] (GI.toZ (4:UInt64)).toNat)]++[hd (Ed a[i] 15)]:=by
      rw[hsn,Ak4,J2];rfl
    have k:=ih (i+1) ⟨F3,F3⟩;rw[e]at k;rw[B? (by rw[Qq];exact H8 (by show(i:Int)<Aa a;unfold Aa;omega)),g1,CS,tY _ (zn4 _),CS];unfold Ax qF;rw[B? XN,CS,tY _ (z15 _),CS,B? lg,CS,Gt];exact k
  · rw[C' xq,K1 F3]
    unfold LV fY Ex;rw[B? (H8 M5)];rfl
theorem Alf(a:LB)(ha:a.length<=12000000):Et a 0=some (xO a):=by
  unfold Et Zl;rw[C' F4];exact Azm a ha Ap 0 ⟨F3,by have:=Cu;omega⟩
theorem Vw(a:LB)(h:Int)(hP:0<=h/\h<=99/\Aa a<=12000000):T (Et a h) (λr=>Aa r<=24000030/\Dp Nl r):=by
  by_cases h0:h=0
  · subst h0
    have hl:=uq a;have:=hP.2.2;unfold Aa at this;exact⟨_,Alf a F3,by unfold Aa;omega,Aql a⟩
  · unfold Et Zl
    rw[B? (by rw[Uh];exact H8 h0)];exact tb (Bf _) λ_ _=>ts
theorem Kh(a b:LB)(hP:True):T (Mk a b) (λ_=>True):=
 ts
theorem Zh(b a:LB)(hP:Aa a<=17179869184):T (Mc b a) (λ_=>True):=
 ti (λ_=>tc λ_ _=>tb (Kh _ _) λ_ _=>ts) λ_=>ts
theorem UT{x:Int}(n:Nat)(hn:n<=62)(hx:0<=x/\x<2^n)(hy:0<=y/\y<2^n):0<=gor x y/\gor x y<2^n:=by
  have e:gor x y=wrap64 ((BitVec.ofInt 64 x|||BitVec.ofInt 64 y).toNat:Int):=rfl;have hp2:(2:Int)^n=((2^n:Nat):Int):=by push_cast;rfl
  have hp:2^n<=2^62:=kX F4 hn;have h1:(BitVec.ofInt 64 x).toNat=x.toNat:=by rw[N1];omega
  have h2:(BitVec.ofInt 64 y).toNat=y.toNat:=by rw[N1];omega
  have h3:x.toNat|||y.toNat<2^n:=Nat.or_lt_two_pow F3 F3;rw[e,BitVec.toNat_or,h1,h2,Db F3 F3];omega
theorem sh7(h:0<=b/\b<2097152):Fi b (GI.toZ (7:UInt64)).toNat=b*128:=by
  have e:Fi b (GI.toZ (7:UInt64)).toNat=wrap64 (b*128):=rfl;rw[e,Db F3 F3]
theorem Arz(a:LB):∀(q:Nat) (b f:Int),0<=f/\f<=4/\4<f+q/\Aa a=4/\0<=b/\ (f=0->b<1)/\ (f=1->b<128)/\ (f=2->b<16384)/\ (f=3->b<2097152)/\b<268435456->T (Tj a q b f) (λr=>0<=r.2/\r.2<=99/\ (r.2=0->0<=r.1/\r.1<268435456)):=
 ind (λb f hI=>by exfalso;omega) λq ih b f hI=>ti (λh1=>tg λg=>ti (λ_=>ts) λh2=>by
  have hf:f<4:=by simp only[Qq,zi,H4]at h1;omega
  have hg:g.toNat<128:=by
    have e:(127:UInt8).toNat=127:=rfl;simp only[Uf,z8,e,I']at h2;omega
  have hb:0<=b/\b<2097152:=F3
  have k7:=UT (x:=b*128) (y:=(g.toNat:Int)) 7 F4;have k14:=UT (x:=b*128) (y:=(g.toNat:Int)) 14 F4;have k21:=UT (x:=b*128) (y:=(g.toNat:Int)) 21 F4;have k28:=UT (x:=b*128) (y:=(g.toNat:Int)) 28 F4;rw[sh7 hb,DW,Gt];refine ih _ _ ?_;have:f=0\/f=1\/f=2\/f=3:=F3
  rcases this with h|h|h|h<;>omega) λ_=>ts
theorem Ac2(a:LB)(hP:True):T (QQ a) (λr=>0<=r.2/\r.2<=99/\ (r.2=0->0<=r.1/\r.1<268435456)):=
 ti (λ_=>ts) λ_=>tj (Arz _ Ap _ _)
theorem Mh(a:LB)(g:Int)(b:UInt8)(m:Bool)(hP:Aa a<=100000/\10<=Aa a/\ (m=false->0<=g/\g<268435456)):T (FZ a g b m) (λr=>0<=r.2/\r.2<=99/\ (r.2=0->10<=r.1/\r.1<=Aa a)):=
 ti (λ_=>ts) λ_=>ti (λ_=>ti (λ_=>ts) λ_=>ti (λ_=>ts) λ_=>ti (λ_=>tc λ_ _=>tc λ_ _=>ti (λ_=>ts) λ_=>tc λ_ _=>tc λ_ _=>tb (Kh _ _) λ_ _=>ti (λ_=>ts) λ_=>ts) λ_=>ts) λ_=>ti (λ_=>ts) λ_=>ti (λ_=>ts) λ_=>ti (λ_=>tc λ_ _=>tc λ_ _=>ti (λ_=>ts) λ_=>tc λ_ _=>tc λ_ _=>tb (Kh _ _) λ_ _=>ti (λ_=>ts) λ_=>ts) λ_=>ts
theorem Att(a:LB)(hP:Aa a<=100000):T (XI a) (λr=>0<=r.2/\r.2<=99/\ (r.2=0->10<=r.1/\r.1<=Aa a)):=
 tb (Zh _ _) λ_ _=>ti (λ_=>ts) λ_=>ti (λ_=>ts) λ_=>tg λ_=>tg λ_=>tc λ_ _=>tb (Ac2 _) λ⟨_,_⟩ _=>ti (λ_=>ti (λ_=>tj (Mh _ _ _ _)) λh=>absurd h F7) λ_=>tg λ_=>ti (λ_=>tj (Mh _ _ _ _)) λ_=>ti (λ_=>tj (Mh _ _ _ _)) λ_=>ti (λ_=>tj (Mh _ _ _ _)) λ_=>tj (Mh _ _ _ _)
theorem Aa3(a:LB):∀(q:Nat) (f:UInt64) (b:Int),0<=b/\b<= (Aa a)/\ (Aa a)<b+q/\ (Aa a)<=17179869184->T (NO a q f b) (λr=>0<=r.2/\r.2<=99):=
 ind (λf b hI=>by exfalso;(try simp only[Aa]at *);omega) λq ih f b hI=>ti (λ_=>tg λ_=>tw (tj (ih _ _))) λ_=>ts
theorem qp(a:LB)(hP:True):T (rP a) (λr=>0<=r.2/\r.2<=99):=
 ti (λ_=>ts) λ_=>tj (Aa3 _ Ap _ _)
theorem kA(f:LB)(a b:Int)(hP:Aa f<=100000):T (D0 f a b) (λr=>0<=r.2/\r.2<=99):=
 ti (λ_=>ts) λ_=>ti (λ_=>ts) λ_=>tc λ_ _=>tb (qp _) λ⟨_,_⟩ _=>ts
theorem Ahm(b:UInt64)(a:Int)(hP:1<=a/\a<=8):T (t? b a) (λ_=>True):=
 ti (λ_=>ts) λ_=>tw (ts)
theorem Akt(f:UInt64)(g:LB):∀(q:Nat) (a:Int) (b:LB),0<=a/\a<= (Aa g)/\ (Aa g)<a+q/\ (Aa g)<=17179869184/\Aa b=Aa g/\Aa g<=8->T (OT f g q a b) (λr=>0<=r.2/\r.2<=99/\Aa r.1<=8):=
 ind (λa b hI=>by exfalso;(try simp only[Aa]at *);omega) λq ih a b hI=>ti (λ_=>tw (tg λ_=>te (λ_ _=>tj (ih _ _)))) λ_=>ts
theorem Pz(f:UInt64)(h:Int)(hP:True):T (Mf f h) (λr=>0<=r.2/\r.2<=99/\Aa r.1<=8):=
 ti (λ_=>ts) λ_=>tb (Ahm _ _) λ_ _=>ti (λ_=>ts) λ_=>tk λ_ _=>tw (tj (Akt _ _ Ap _ _))
theorem Als(a b:Int)(f:UInt64):∀(q:Nat) (h:Int) (g:LB),0<=h/\h<= (Aa ([(2000:UInt64),(Al (Ae a 32):UInt64),(Al b:UInt64),f,(0:UInt64),(0:UInt64)]:LQ))/\ (Aa ([(2000:UInt64),(Al (Ae a 32):UInt64),(Al b:UInt64),f,(0:UInt64),(0:UInt64)]:LQ))<h+q/\ (Aa ([(2000:UInt64),(Al (Ae a 32):UInt64),(Al b:UInt64),f,(0:UInt64),(0:UInt64)]:LQ))<=17179869184/\Aa g<=8+8*h->T (ZM a b f q h g) (λr=>Aa r<=100):=
 ind (λh g hI=>by exfalso;(try simp only[Aa]at *);omega) λq ih h g hI=>ti (λ_=>tg λ_=>tg λ_=>tb (Pz _ _) λ⟨_,_⟩ _=>ta (tj (ih _ _))) λ_=>ts
theorem vO(a b:Int)(f:UInt64)(hP:True):T (jY a b f) (λr=>Aa r<=100):=
 (by unfold jY pB U1;exact tj (Als _ _ _ Ap _ _))
theorem gE(b:LB)(g:UInt64)(hP:Aa b<=100000):T (TE b g) (λr=>r.2.2=true->0<=r.1/\r.1<=3000/\0<=r.2.1/\r.2.1<=1000):=
 tb (kA _ _ _) λ⟨_,_⟩ _=>tb (kA _ _ _) λ⟨_,_⟩ _=>ti (λ_=>ts) λ_=>tb (vO _ _ _) λ_ _=>tb (Kh _ _) λ_ _=>ts
theorem Adi(a:LB)(hP:Aa a<=100000):T (xU a) (λr=>0<=r.2/\r.2<=99/\ (r.2=0->10<=r.1/\r.1<=Aa a)):=
 tb (Zh _ _) λ_ _=>ti (λ_=>ts) λ_=>ti (λ_=>ts) λ_=>tc λ_ _=>tb (gE _ _) λ⟨_,_,_⟩ _=>ti (λ_=>ts) λ_=>ti (λ_=>ts) λ_=>tc λ_ _=>tb (vO _ _ _) λ_ _=>tb (Kh _ _) λ_ _=>ti (λ_=>ts) λ_=>ts
theorem Ayc (a:LB)(hP:Aa a<=100000):T (Wy a) (λr=>0<=r.2/\r.2<=99/\ (r.2=0->10<=r.1/\r.1<=Aa a)):=
 tb (Att _) λ⟨_,_⟩ _=>ti (λ_=>ts) λ_=>tb (Adi _) λ⟨_,_⟩ _=>ts
theorem Ac9(b:LB):∀(q:Nat) (x:Int),0<=x/\x<=Aa b/\Aa b<x+q/\Aa b<=100000->T (Vn b q x) (λr=>0<=r.2/\r.2<=99/\ (r.2=0->0<=r.1/\r.1<=Aa b)):=
 ind (λx hI=>by exfalso;omega) λq ih x hI=>tc λ_ _=>tb (Ayc _) λ⟨_,_⟩ _=>ti (λ_=>ts) λ_=>ti (λ_=>ts) λ_=>ti (λ_=>ts) λ_=>tj (ih _)
theorem Ql(b:LB)(hP:Aa b<=100000):T (Gh b) (λr=>0<=r.2/\r.2<=99/\ (r.2=0->0<=r.1/\r.1<=Aa b)):=tj (Ac9 _ Ap _)
theorem Aa1(b a:LB)(hP:Aa a<=17179869184):T (Ic b a) (λ_=>True):=
 ti (λ_=>tc λ_ _=>ts) λ_=>ts
theorem HU(a b:LB)(hP:Aa b<=17179869184):T (Re a b) (λ_=>True):=
 tb (Aa1 _ _) λ_ _=>ts
theorem Az5{Fj:Int->LU->Bp}(f:UInt32)(a:LB)(g:Int)(b:LU)(hb:∀(g:Int) (b:LU),0<=g/\g<=256/\256<g+N16/\Aa b=256/\Aa a<=100000->T (Fj g b) (λr=>0<=r.2/\r.2<=99)):∀(q:Nat) (k:UInt32) (n:Int),0<=n/\n<=8/\8<n+q/\0<=g/\g<=256/\256<g+(N16+1)/\Aa b=256/\Aa a<=100000/\g<256->T (Zp Fj f a g b q k n) (λr=>0<=r.2/\r.2<=99):=
 ind (λk n hI=>by exfalso;(try simp only[Aa]at *);omega) λq ih k n hI=>ti (λ_=>tj (ih _ _)) λ_=>tg λ_=>te (λ_ _=>tj (hb _ _))
theorem Axf(a:LB)(b:LU):∀(q:Nat) (h:UInt32) (m:Int),0<=m/\m<= (Aa a)/\ (Aa a)<m+q/\ (Aa a)<=17179869184/\Aa b=256->T (AI a b q h m) (λr=>0<=r.2/\r.2<=99):=
 ind (λh m hI=>by exfalso;(try simp only[Aa]at *);omega) λq ih h m hI=>ti (λ_=>tg λ_=>tq λ_=>tq λ_=>tj (ih _ _)) λ_=>ts
theorem Ay6(f:UInt32)(a:LB):∀(q:Nat) (g:Int) (b:LU),0<=g/\g<=256/\256<g+q/\Aa b=256/\Aa a<=100000->T (Zj f a q g b) (λr=>0<=r.2/\r.2<=99):=
 ind (λg b hI=>by exfalso;(try simp only[Aa]at *);omega) λq ih g b hI=>ti (λ_=>tj (Az5 _ _ _ _ ih Ap _ _)) λ_=>tj (Axf _ _ Ap _ _)
theorem yP(f:UInt32)(a:LB)(hP:True):T (pM f a) (λr=>0<=r.2/\r.2<=99):=
 ti (λ_=>ts) λ_=>tj (Ay6 _ _ Ap _ _)
theorem Yo(b:LB)(hP:True):T (Xv b) (λr=>0<=r.2/\r.2<=99):=
 tb (yP _ _) λ⟨_,_⟩ _=>ti (λ_=>ts) λ_=>ts
theorem bP(b f a g h:Int)(hP:True):T (EJ b f a g h) (λr=>r=true->1<=b/\b<=2/\1<=f/\f<=6/\8<=a/\a<=24/\a %8=0/\1<=g/\g<=1048576/\1<=h):=
 ti (λ_=>ti (λ_=>ts) λ_=>ts) λ_=>ti (λ_=>ti (λ_=>ts) λ_=>ts) λ_=>ti (λ_=>ts) λ_=>ts
theorem KS(a:Int)(hP:True):T (Ju a) (λr=>0<=r.2/\r.2<=99/\ (r.2=0->1<=r.1/\r.1<=1100000)):=
 ti (λ_=>ts) λ_=>ts
theorem zq{a:Int}(h:0<a)(hb:1<=b):1<= (b+a-1)/a/\ ((b+a-1)/a-1)*a<b/\b<= (b+a-1)/a*a:=by
  have h1:=Int.emod_add_mul_ediv (b+a-1) a;have h2:=RG (b+a-1) (show a≠0 by omega);have h3:=RN (b+a-1) h;have h4:1<= (b+a-1)/a:=by
    have:=Int.le_ediv_of_mul_le h (show 1*a<=b+a-1 by omega);exact this
  have e:((b+a-1)/a-1)*a=a*((b+a-1)/a)-a:=by rw[Int.sub_mul,U4,Int.one_mul]
  refine⟨h4,F3,?_⟩;rw[U4];omega
theorem Vy(g b:Int)(hP:True):T (Kl g b) (λr=>0<=r.2/\r.2<=99/\ (r.2=0->1<=r.1/\r.1<=1000/\1<=b/\b<=4000/\∃a,Ju g=some (a,0)/\1<=a/\a<=1100000/\ (r.1-1)*a<b/\b<=r.1*a)):=by
  obtain⟨⟨a,f⟩,e,h⟩:=KS g trivial;unfold Kl;rw[e,CS];refine ti (λ_=>ts) λh1=>?_;refine ti (λ_=>ts) λh2=>?_;refine tw ?_;have h3:1<=a/\a<=1100000/\1<=b/\b<=4000/\f=0:=by
    simp only[Qq,Uf,Uh,zi,E4,I']at*
    omega
  have e1:Ey (As (Ae b a) 1) a=(b+a-1)/a:=by
    rw[Gt,DS,Gu,nN _ F3,Db]
    · have:=RC (show 0<=b+a-1 by omega) (show 0<=a by omega);omega
    · have:=TU (b:=a) (show 0<=b+a-1 by omega);omega
  have hq:=zq (a:=a) (b:=b) F3 F3;rw[e1];refine ti (λ_=>ts) λh4=>⟨_,rfl,I? _,(show(0:Int)<=99 by decide),λ_=>⟨hq.1,?_,F3,F3,a,?_,F3,F3,hq.2⟩⟩
  · simp only[Uf,zi,I']at h4;omega
  · rw[show f=0 by omega]
theorem mB(k a m f b:Int)(hP:1<=a):T (PC k a m f b) (λr=>r=true->1<=b/\b<=4000):=
 tw (ti (λ_=>ts) λ_=>tb (Vy _ _) λ⟨_,_⟩ _=>ts)
theorem Ay9(b:LB):∀(q:Nat) (g:Int) (f:Int) (a:LI),0<=f/\f<=5/\5<f+q/\Aa a=5/\22<=Aa b/\Aa b<=100000/\4<=g/\g<=4+4*f->T (Zi b q g f a) (λr=>0<=r.2.2.2.2.2/\r.2.2.2.2.2<=99/\ (r.2.2.2.2.2=0->1<=r.1/\r.1<=2/\1<=r.2.1/\r.2.1<=6/\8<=r.2.2.1/\r.2.2.1<=24/\r.2.2.1 %8=0/\1<=r.2.2.2.1/\r.2.2.2.1<=1048576/\1<=r.2.2.2.2.1/\r.2.2.2.2.1<=4000/\22<=Aa b)):=
 ind (λg f a hI=>by exfalso;(try simp only[Aa]at *);omega) λq ih g f a hI=>ti (λ_=>th λ_ _=>tb (kA _ _ _) λ⟨_,_⟩ _=>th λ_ _=>te (λ_ _=>tj (ih _ _ _))) λ_=>th λ_ _=>th λ_ _=>th λ_ _=>th λ_ _=>th λ_ _=>th λ_ _=>th λ_ _=>th λ_ _=>th λ_ _=>th λ_ _=>tb (bP _ _ _ _ _) λ_ _=>ti (λ_=>ts) λ_=>tb (mB _ _ _ _ _) λ_ _=>ti (λ_=>ts) λ_=>ts
theorem Qk(b:LB)(hP:Aa b<=100000):T (Kj b) (λr=>0<=r.2.2.2.2.2/\r.2.2.2.2.2<=99/\ (r.2.2.2.2.2=0->1<=r.1/\r.1<=2/\1<=r.2.1/\r.2.1<=6/\8<=r.2.2.1/\r.2.2.1<=24/\r.2.2.1 %8=0/\1<=r.2.2.2.1/\r.2.2.2.1<=1048576/\1<=r.2.2.2.2.1/\r.2.2.2.2.1<=4000/\22<=Aa b)):=
 tc λ_ _=>tb (HU _ _) λ_ _=>ti (λ_=>ts) λ_=>ti (λ_=>ts) λ_=>tb (kA _ _ _) λ⟨_,_⟩ _=>tc λ_ _=>tb (Yo _) λ⟨_,_⟩ _=>ti (λ_=>ts) λ_=>tj (Ay9 _ Ap _ _ _)
theorem Axi{Fj:Int->LQ->Bq}(b:UInt64)(a:LB)(g:Int)(f:LQ)(hb:∀(g:Int) (f:LQ),0<=g/\g<=256/\256<g+N16/\Aa f=256/\Aa a<=100000->T (Fj g f) (λr=>0<=r.2/\r.2<=99)):∀(q:Nat) (k:UInt64) (n:Int),0<=n/\n<=8/\8<n+q/\0<=g/\g<=256/\256<g+(N16+1)/\Aa f=256/\Aa a<=100000/\g<256->T (BF Fj b a g f q k n) (λr=>0<=r.2/\r.2<=99):=
 ind (λk n hI=>by exfalso;(try simp only[Aa]at *);omega) λq ih k n hI=>ti (λ_=>tj (ih _ _)) λ_=>tg λ_=>te (λ_ _=>tj (hb _ _))
theorem Azq(a:LB)(b:UInt64)(f:LQ):∀(q:Nat) (h:UInt64) (m:Int),0<=m/\m<= (Aa a)/\ (Aa a)<m+q/\ (Aa a)<=17179869184/\Aa f=256->T (AA a b f q h m) (λr=>0<=r.2/\r.2<=99):=
 ind (λh m hI=>by exfalso;(try simp only[Aa]at *);omega) λq ih h m hI=>ti (λ_=>tg λ_=>tq λ_=>tq λ_=>tj (ih _ _)) λ_=>ts
theorem Ay2(b:UInt64)(a:LB):∀(q:Nat) (g:Int) (f:LQ),0<=g/\g<=256/\256<g+q/\Aa f=256/\Aa a<=100000->T (CC b a q g f) (λr=>0<=r.2/\r.2<=99):=
 ind (λg f hI=>by exfalso;(try simp only[Aa]at *);omega) λq ih g f hI=>ti (λ_=>tj (Axi _ _ _ _ ih Ap _ _)) λ_=>tj (Azq _ _ _ Ap _ _)
theorem Amd (b:UInt64)(a:LB)(hP:True):T (oW b a) (λr=>0<=r.2/\r.2<=99):=
 ti (λ_=>ts) λ_=>tj (Ay2 _ _ Ap _ _)
theorem D8(a:LB)(hP:True):T (jZ a) (λr=>0<=r.2/\r.2<=99):=
 tb (Amd _ _) λ⟨_,_⟩ _=>ts
theorem zK(a:LB)(hP:True):T (xX a) (λr=>0<=r.2/\r.2<=99):=
 ti (λ_=>ts) λ_=>tb (D8 _) λ⟨_,_⟩ _=>ts
theorem iP(b:LB)(hP:True):T (IL b) (λr=>0<=r.2/\r.2<=99/\Aa r.1<=8):=
 tb (zK _) λ⟨_,_⟩ _=>ti (λ_=>ts) λ_=>tb (Pz _ _) λ⟨_,_⟩ _=>ts
theorem BC(a f:LB)(hP:True):T (Tx a f) (λr=>0<=r.2/\r.2<=99):=
 tb (iP _) λ⟨_,_⟩ _=>ti (λ_=>ts) λ_=>tb (Kh _ _) λ_ _=>ts
theorem iA(a b f g h:Int)(hP:True):T (HW a b f g h) (λr=>0<=r/\r<=99/\ (r=0->1<=a/\a<=2/\1<=b/\b<=6/\8<=f/\f<=24/\f %8=0/\1<=g/\g<=1048576/\1<=h/\h<=4000)):=
 tb (bP _ _ _ _ _) λ_ _=>ti (λ_=>ts) λ_=>tb (mB _ _ _ _ _) λ_ _=>ti (λ_=>ts) λ_=>ts
theorem Aba(a b:Int)(hP:True):T (Ok a b) (λr=>0<=r.2/\r.2<=99/\Aa r.1<=1000/\Dp (Rg 1 4000) r.1/\ (r.2=0->1<=Aa r.1)):=by
  obtain⟨⟨f,g⟩,e,h⟩:=Vy a b trivial;unfold Ok;rw[e,CS];refine ti (λ_=>ts) λh1=>?_;have hg:g=0:=by simp only[Uh,zi,I',E6,Decidable.not_not]at h1;exact h1
  obtain⟨k1,k2,k3,k4,v,ev,v1,v2,w1,w2⟩:=h.2.2 hg;simp only at k1 k2 k3 k4 w1 w2;have hm:0<= (f-1)*v:=lC F3 F3;rw[ev,CS];simp only;obtain⟨m,hm'⟩:∃m:Nat,f-1=(m:Int):=⟨(f-1).toNat,F3⟩;rw[DS,xT,DS,hm',N! _ _ F3,CS];unfold AW;rw[F! _ _ F6];refine⟨_,rfl,I? _,(show(0:Int)<=99 by decide),by unfold Aa;rw[BP,E7,J9];omega,λx hx=>?_,λ_=>by unfold Aa;rw[BP,E7,J9];omega⟩
  show 1<=x/\x<=4000;rcases List.mem_append.1 hx with hx|hx
  · obtain⟨n0,rfl⟩:=List.mem_replicate.1 hx
    have:=xZ (show 1<=f-1 by omega) (show 0<=x by omega);omega
  · rw[lE]at hx
    have:f*v=(f-1)*v+v:=by rw[Int.sub_mul];omega
    subst hx;rw[<-hm'];omega
theorem Axk(g h k a b:Int):T (Bn g h k a b) (λr=>0<=r.2/\r.2<=99/\Aa r.1<=1000/\Dp (Rg 1 4000) r.1/\ (r.2=0->1<=Aa r.1/\1<=g/\g<=2/\1<=h/\h<=6/\8<=k/\k<=24/\k %8=0/\1<=a/\a<=1048576/\1<=b/\b<=4000)):=
 tb (iA _ _ _ _ _) λ_ _=>ti (λ_=>ts) λ_=>tb (Aba _ _) λ⟨_,_⟩ _=>ts
def nF(g h k a b:Int):Int:=match Bn g h k a b with
  |some r=>Aa r.1
  |none=>0
theorem Dc(g h k a b:Int)(hP:True):T (Bn g h k a b) (λr=>Aa r.1=nF g h k a b/\0<=r.2/\r.2<=99/\Aa r.1<=1000/\Dp (Rg 1 4000) r.1/\ (r.2=0->1<=Aa r.1/\1<=g/\g<=2/\1<=h/\h<=6/\8<=k/\k<=24/\k %8=0/\1<=a/\a<=1048576/\1<=b/\b<=4000)):=by
  obtain⟨y,e,h⟩:=Axk g h k a b;exact⟨y,e,by unfold nF;rw[e],h⟩
theorem Axl(a:LI):∀(q:Nat) (f b:Int),0<=b/\b<=Aa a/\Aa a<b+q/\Aa a<=1000/\ (∀k:Nat,(k:Int)<b->∀x,a[k]? =some x->5<=x/\x<=100000)/\f<=100000->T (AK a q f b) (λr=>0<=r/\r<=99/\ (r=0->Aa a<=1000/\Dp (Rg 5 100000) a)):=
 ind (λf b hI=>by exfalso;omega) λq ih f b hI=>ti (λh1=>by
  have hb:b<Aa a:=by simp only[Qq,zi,H4]at h1;exact h1
  have hb':b.toNat<a.length:=by unfold Aa at hb;omega
  have e:Af a b=some a[b.toNat]:=by unfold Af;rw[B? hI.1,H' hb']
  rw[e,CS];refine ti (λ_=>⟨_,rfl,F4,F4,λh=>absurd h F4⟩) λh2=>?_;have h3:5<=a[b.toNat]/\a[b.toNat]<=f:=by simp only[Qq,Uf,zi,E4,I']at h2;omega
  have e2:As f a[b.toNat]=f-a[b.toNat]:=DS;have e3:Ae b 1=b+1:=Gt;rw[e2,e3];refine ih _ _ ⟨F3,F3,F3,F3,λk hk x hx=>?_,F3⟩;by_cases hkb:(k:Int)<b
  · exact hI.2.2.2.2.1 k hkb x hx
  · have:k=b.toNat:=F3
    subst this;rw[H' hb']at hx;obtain rfl:=H9 hx;omega) λh1=>⟨_,rfl,I? _,F4,λ_=>⟨hI.2.2.2.1,λx hx=>by
  obtain⟨k,hk,rfl⟩:=List.getElem_of_mem hx;refine hI.2.2.2.2.1 k ?_ _ (H' hk);simp only[Qq,zi,I']at h1;unfold Aa at h1;omega⟩⟩
theorem Vp(a:LI)(hP:True):T (Ta a) (λr=>0<=r/\r<=99/\ (r=0->Aa a<=1000/\Dp (Rg 5 100000) a)):=
 ti (λ_=>⟨_,rfl,F4,F4,λh=>absurd h F4⟩) λh=>(Axl _ Ap _ _) ⟨I? _,by unfold Aa;omega,by unfold Aa at *;simp only[Yy,Uf,zi,Aa,E4,I']at h;have:=Cu;omega,by simp only[Yy,Uf,zi,Aa,E4,I']at *;omega,λk hk=>by omega,F4⟩
theorem Acw{h:Int}(a:LB)(f:LI):∀(q:Nat) (g:Int) (b:LI),0<=g/\g<= (Aa f)/\ (Aa f)<g+q/\ (Aa f)<=17179869184/\Aa b=Aa f/\Aa a<=100000/\Aa f=h/\4*h+4<=Aa a->T (ES a f q g b) (λr=>0<=r.2/\r.2<=99/\ (r.2=0->Aa r.1=h/\4*h+4<=Aa a/\Dp (Rg 5 100000) r.1)):=
 ind (λg b hI=>by exfalso;(try simp only[Aa]at *);omega) λq ih g b hI=>ti (λ_=>tb (kA _ _ _) λ⟨_,_⟩ _=>tg λ_=>te (λ_ _=>tj (ih _ _))) λ_=>tb (Vp _) λ_ _=>ti (λ_=>ts) λ_=>ts
theorem BO(a:LB)(h:Int)(hP:Aa a<=100000):T (Xb a h) (λr=>0<=r.2/\r.2<=99/\ (r.2=0->Aa r.1=h/\4*h+4<=Aa a/\Dp (Rg 5 100000) r.1)):=
 ti (λ_=>ts) λ_=>ti (λ_=>ts) λ_=>tb (kA _ _ _) λ⟨_,_⟩ _=>tc λ_ _=>tb (Yo _) λ⟨_,_⟩ _=>ti (λ_=>ts) λ_=>tk λ_ _=>tw (tj (Acw _ _ Ap _ _))
theorem WT(a:LB)(b g h k m o:Int)(hP:0<=o/\o<=Aa a/\Aa a<=100000):T (fL a b g h k m o) (λr=>0<=r.2.2.2.2.2.2.2/\r.2.2.2.2.2.2.2<=99/\ (r.2.2.2.2.2.2.2=0->1<=r.1/\r.1<=2/\1<=r.2.1/\r.2.1<=6/\8<=r.2.2.1/\r.2.2.1<=24/\r.2.2.1 %8=0/\1<=r.2.2.2.1/\r.2.2.2.1<=1048576/\1<=r.2.2.2.2.1/\r.2.2.2.2.1<=4000/\1<=r.2.2.2.2.2.1/\r.2.2.2.2.2.1<=110000/\1<=Aa r.2.2.2.2.2.2.1/\Aa r.2.2.2.2.2.2.1<=1000/\Aa a<=100000/\Aa r.2.2.2.2.2.2.1=nF r.1 r.2.1 r.2.2.1 r.2.2.2.1 r.2.2.2.2.1/\Dp (Rg 5 100000) r.2.2.2.2.2.2.1)):=
 tb (Dc _ _ _ _ _) λ⟨_,_⟩ _=>ti (λ_=>ts) λ_=>tc λ_ _=>tb (BO _ _) λ⟨_,_⟩ _=>ti (λ_=>ts) λ_=>ts
theorem Iu(a n:LB)(hP:True):T (Gm a n) (λr=>0<=r.2.2.2.2.2.2.2/\r.2.2.2.2.2.2.2<=99/\ (r.2.2.2.2.2.2.2=0->1<=r.1/\r.1<=2/\1<=r.2.1/\r.2.1<=6/\8<=r.2.2.1/\r.2.2.1<=24/\r.2.2.1 %8=0/\1<=r.2.2.2.1/\r.2.2.2.1<=1048576/\1<=r.2.2.2.2.1/\r.2.2.2.2.1<=4000/\1<=r.2.2.2.2.2.1/\r.2.2.2.2.2.1<=110000/\1<=Aa r.2.2.2.2.2.2.1/\Aa r.2.2.2.2.2.2.1<=1000/\Aa a<=100000/\Aa r.2.2.2.2.2.2.1=nF r.1 r.2.1 r.2.2.1 r.2.2.2.1 r.2.2.2.2.1/\Dp (Rg 5 100000) r.2.2.2.2.2.2.1)):=
 ti (λ_=>ts) λ_=>ti (λ_=>ts) λ_=>tb (Ql _) λ⟨_,_⟩ _=>ti (λ_=>ts) λ_=>tc λ_ _=>tb (Qk _) λ⟨_,_,_,_,_,_⟩ _=>ti (λ_=>ts) λ_=>ti (λ_=>ts) λ_=>ti (λ_=>ti (λ_=>ts) λ_=>tc λ_ _=>tb (BC _ _) λ⟨_,_⟩ _=>ti (λ_=>ts) λ_=>ti (λ_=>ts) λ_=>tj (WT _ _ _ _ _ _ _)) λ_=>tj (WT _ _ _ _ _ _ _)
theorem mO(f:LB)(hP:True):T (NN f) (λr=>0<=r.2.2.2.2.2.2.2.2.2.2.2/\r.2.2.2.2.2.2.2.2.2.2.2<=99/\ (r.2.2.2.2.2.2.2.2.2.2.2=0->Aa f<=100000/\1<=r.1/\r.1<=2/\1<=r.2.1/\r.2.1<=6/\8<=r.2.2.1/\r.2.2.1<=24/\r.2.2.1 %8=0/\1<=r.2.2.2.1/\r.2.2.2.1<=1048576/\1<=r.2.2.2.2.1/\r.2.2.2.2.1<=4000/\0<=r.2.2.2.2.2.1/\r.2.2.2.2.2.1+22=r.2.2.2.2.2.2.1/\r.2.2.2.2.2.2.1<=r.2.2.2.2.2.2.2.1/\r.2.2.2.2.2.2.1<=Aa f/\r.2.2.2.2.2.2.2.1<=r.2.2.2.2.2.2.1+8/\r.2.2.2.2.2.2.2.2.1=0/\r.2.2.2.2.2.2.2.2.2.1=0/\Aa r.2.2.2.2.2.2.2.2.2.2.1<=1000/\Dp (Rg 1 4000) r.2.2.2.2.2.2.2.2.2.2.1)):=
 ti (λ_=>ts) λ_=>tb (Ql _) λ⟨_,_⟩ _=>ti (λ_=>ts) λ_=>tc λ_ _=>tb (Qk _) λ⟨_,_,_,_,_,_⟩ _=>ti (λ_=>ts) λ_=>tb (Dc _ _ _ _ _) λ⟨_,_⟩ _=>ti (λ_=>ts) λ_=>ts
theorem Afy (f:UInt64):∀(q:Nat) (a:Int) (b:LX),0<=a/\a<=8/\8<a+q/\Aa b=16->T (YN f q a b) (λr=>Aa r=16):=
 ind (λa b hI=>by exfalso;(try simp only[Aa]at *);omega) λq ih a b hI=>ti (λ_=>tw (tg λ_=>te (λ_ _=>tj (ih _ _)))) λ_=>ts
theorem Ajk(f:UInt64)(hP:True):T (O0 f) (λr=>Aa r=16):=
 (by unfold O0 oX xu;exact tj (Afy _ Ap _ _))
theorem Sp(a:LB)(hP:True):T (Oe a) (λr=>0<=r.2/\r.2<=99/\Aa r.1=16):=
 ti (λ_=>ts) λ_=>tb (D8 _) λ⟨_,_⟩ _=>ti (λ_=>ts) λ_=>tb (Ajk _) λ_ _=>ts
theorem QC(a:Int)(hP:True):T (FV a) (λr=>0<=r.2.2/\r.2.2<=99/\ (r.2.2=0->8<=a/\a<=24/\a %8=0)):=
 ti (λ_=>ti (λ_=>tw (ts)) λ_=>ts) λ_=>ti (λ_=>ti (λ_=>tw (ts)) λ_=>ts) λ_=>ti (λ_=>tw (ts)) λ_=>ts
theorem Qg(a b:Int)(hP:True):T (Mt a b) (λr=>0<=r/\r<=99/\ (r=0->1<=a/\a<=6/\8<=b/\b<=24/\b %8=0)):=
 tb (QC _) λ⟨_,_,_⟩ _=>ti (λ_=>ts) λ_=>ts
theorem Ay5(a:LB)(hP:True):T (KV a) (λr=>0<=r.2/\r.2<=99/\Aa r.1<=41250):=
 ti (λ_=>ts) λ_=>ti (λ_=>ts) λ_=>tc λ_ _=>tb (Yo _) λ⟨_,_⟩ _=>ti (λ_=>ts) λ_=>tc λ_ _=>tb (qp _) λ⟨_,_⟩ _=>ti (λ_=>ts) λ_=>tc λ_ _=>ts
theorem Uw(a:LB)(hP:Aa a<=17179869184):T (Bk a) (λr=>Aa r=Aa a):=
 ta (ts)
theorem Ajq(a:LB)(hP:True):T (u? a) (λr=>0<=r.2.2/\r.2.2<=99/\Aa r.1<=41250/\ (r.2.2=0->r.2.1=8*Aa a/\Aa r.1=Aa a)):=
 ti (λ_=>ts) λ_=>tb (Uw _) λ_ _=>ts
theorem tJ(hP:True):T (ZO) (λ_=>True):=
 ts
theorem Jy(b:LB)(a:Int)(hP:True):T (Jp b a) (λr=>0<=r/\r<=99/\ (r=0->0<=a/\a<=330000/\Aa b=(a+7)/8)):=
 ti (λ_=>ts) λ_=>ti (λ_=>tg λ_=>tw (ti (λ_=>ts) λ_=>ts)) λ_=>ts
theorem Aa6(b f:Int)(h:LB)(k:Int):∀(q:Nat) (g:UInt64) (a:Int),0<=a/\a<=f/\f<a+q/\f<=17179869184/\0<=b/\0<=f/\b+f<=k/\k<=330000/\Aa h=(k+7)/8->T (ON b f h k q g a) (λ_=>True):=
 ind (λg a hI=>by exfalso;(try simp only[Aa]at *);omega) λq ih g a hI=>ti (λ_=>tg λ_=>tw (tw (tw (tj (ih _ _))))) λ_=>ts
theorem jm(h:LB)(k b f:Int)(hP:0<=b/\0<=f/\b+f<=k/\k<=330000/\Aa h=(k+7)/8):T (iL h k b f) (λ_=>True):=
 (by unfold iL dO C0;exact tj (Aa6 _ _ _ _ Ap _ _))
theorem Ats{N27:Nat}{Uu:Int->Int->LB->Dy}(a:Int)(g:LB)(b f:Int)(m:UInt64)(hb:∀(f:Int) (o:Int) (p:LB),0<=y/\y<=a/\a<=b/\b<=330000/\Aa g=(b+7)/8/\0<=f/\f<=a+64/\a+64<f+N27/\0<=o/\o<=f/\Aa p=(o+7)/8->T (Uu f o p) (λr=>0<=r.2.2/\r.2.2<=99/\ (r.2.2=0->0<=y/\y<=a/\a<=b/\b<=330000))):∀(q:Nat) (n:UInt64) (k:Int) (h:Int) (u:LB),0<=y/\y<=a/\a<=b/\b<=330000/\Aa g=(b+7)/8/\0<=f/\f<a/\a+64<f+(N27+1)/\0<=k/\k<=64/\k<q/\0<=h/\h+k<=f+64/\Aa u=(h+7)/8->T (IC Uu a g b f m q n k h u) (λr=>0<=r.2.2/\r.2.2<=99/\ (r.2.2=0->0<=y/\y<=a/\a<=b/\b<=330000)):=
 ind (λn k h u hI=>by exfalso;(try simp only[Aa]at *);omega) λq ih n k h u hI=>ti (λ_=>ti (λ_=>ta (tg λ_=>tw (tw (tg λ_=>tg λ_=>te (λ_ _=>tw (tj (ih _ _ _ _))))))) λ_=>tg λ_=>tw (tw (tg λ_=>tg λ_=>te (λ_ _=>tw (tj (ih _ _ _ _)))))) λ_=>tj (hb _ _ _)
theorem Akv(a:Int)(g:LB)(b:Int):∀(q:Nat) (f:Int) (o:Int) (p:LB),0<=y/\y<=a/\a<=b/\b<=330000/\Aa g=(b+7)/8/\0<=f/\f<=a+64/\a+64<f+q/\0<=o/\o<=f/\Aa p=(o+7)/8->T (HY a g b q f o p) (λr=>0<=r.2.2/\r.2.2<=99/\ (r.2.2=0->0<=y/\y<=a/\a<=b/\b<=330000)):=
 ind (λf o p hI=>by exfalso;(try simp only[Aa]at *);omega) λq ih f o p hI=>ti (λ_=>tb (jm _ _ _ _) λ_ _=>tj (Ats _ _ _ _ _ ih Ap _ _ _ _)) λ_=>ts
theorem Ae0(g:LB)(b y a:Int)(hP:True):T (sT g b y a) (λr=>0<=r.2.2/\r.2.2<=99/\ (r.2.2=0->0<=y/\y<=a/\a<=b/\b<=330000)):=
 tb (Jy _ _) λ_ _=>ti (λ_=>ts) λ_=>ti (λ_=>ts) λ_=>tj (Akv _ _ _ Ap _ _ _)
theorem rS(a b:Int)(f g:UInt64)(hP:True):T (YW a b f g) (λr=>0<=r/\r<=99/\ (r=0->0<=a/\a<=24/\0<=b/\b<=24)):=
 ti (λ_=>ts) λ_=>ts
theorem JH(g:LB)(b f a:Int)(hP:True):T (FP g b f a) (λr=>0<=r.2/\r.2<=99/\ (r.2=0->0<=f/\f+a<=b)):=
 tb (Jy _ _) λ_ _=>ti (λ_=>ts) λ_=>ti (λ_=>ts) λ_=>ti (λ_=>ts) λ_=>tb (jm _ _ _ _) λ_ _=>ts
theorem Ab9(a:UInt64)(hP:True):T (Lm a) (λr=>0<=r):=
 ti (λ_=>ts) λ_=>tz (Av5 _) λ_=>ts
theorem Ark (g:LB)(b a:Int)(hP:True):T (oH g b a) (λr=>0<=r.2.2/\r.2.2<=99/\ (r.2.2=0->0<=r.1/\r.1<=48/\0<=r.2.1/\r.2.1<=400000)):=
 tb (Jy _ _) λ_ _=>ti (λ_=>ts) λ_=>ti (λ_=>ts) λ_=>ti (λ_=>ts) λ_=>tb (JH _ _ _ _) λ⟨_,_⟩ _=>ti (λ_=>ts) λ_=>tb (Ab9 _) λ_ _=>ti (λ_=>ts) λ_=>ti (λ_=>ts) λ_=>ts
theorem jL(b:UInt32)(a:Int)(hP:0<=a):T (IQ b a) (λ_=>True):=
 tw (ts)
theorem dL(a b f:Int)(g:LB)(h k:Int)(hP:0<=a/\a<=24/\0<=k/\k<=32/\0<=b/\b<=400000):T (uG a b f g h k) (λr=>0<=r.2.2/\r.2.2<=99/\ (r.2.2=0->0<=r.2.1/\r.2.1<=450000)):=
 tb (JH _ _ _ _) λ⟨_,_⟩ _=>ti (λ_=>ts) λ_=>ti (λ_=>tw (ts)) λ_=>tb (jL _ _) λ_ _=>ti (λ_=>ts) λ_=>ts
theorem yI(g:LB)(h v a:Int)(hP:True):T (yF g h v a) (λr=>0<=r.2.2/\r.2.2<=99/\ (r.2.2=0->0<=r.2.1/\r.2.1<=450000)):=
 tb (Jy _ _) λ_ _=>ti (λ_=>ts) λ_=>ti (λ_=>ts) λ_=>tb (Ark _ _ _) λ⟨_,_,_⟩ _=>ti (λ_=>ts) λ_=>ti (λ_=>tj (dL _ _ _ _ _ _)) λ_=>tj (dL _ _ _ _ _ _)
theorem XS(a f:Int)(g h:UInt64)(b:UInt32)(hP:0<=a):T (KY a f g h b) (λr=>0<=r.1/\r.1<=1):=
 tw (ti (λ_=>ts) λ_=>tw (ts))
theorem Ja(f:UInt32)(k a:Int)(b:UInt64)(m:Int)(n:UInt64)(hP:0<=a/\a<=24/\0<=m/\m<=24/\0<=k/\k<=500000):T (ZB f k a b m n) (λr=>0<=r.2.2.2.2.2.2/\r.2.2.2.2.2.2<=99/\ (r.2.2.2.2.2.2=0->0<=r.2.1/\r.2.1<=500000/\0<=r.2.2.1/\r.2.2.1<=24/\0<=r.2.2.2.1/\r.2.2.2.1<=24)):=
 ti (λ_=>tw (ti (λ_=>ts) λ_=>ti (λ_=>tw (ti (λ_=>ts) λ_=>ts)) λ_=>ts)) λ_=>ti (λ_=>tw (ti (λ_=>ts) λ_=>ts)) λ_=>ts
theorem fF(a h:Int)(b g:UInt64)(f:UInt32)(k:Int)(hP:0<=a/\a<=24/\0<=h/\h<=24/\0<=k/\k<=500000):T (rT a h b g f k) (λr=>0<=r.2.2.2.2.2.2/\r.2.2.2.2.2.2<=99/\ (r.2.2.2.2.2.2=0->0<=r.2.1/\r.2.1<=500000/\0<=r.2.2.1/\r.2.2.1<=24/\0<=r.2.2.2.1/\r.2.2.2.1<=24)):=
 tb (XS _ _ _ _ _) λ⟨_,_⟩ _=>ti (λ_=>ti (λ_=>tw (ti (λ_=>tj (Ja _ _ _ _ _ _)) λ_=>ti (λ_=>tw (ti (λ_=>tj (Ja _ _ _ _ _ _)) λ_=>tj (Ja _ _ _ _ _ _))) λ_=>tj (Ja _ _ _ _ _ _))) λ_=>ti (λ_=>tw (ti (λ_=>tj (Ja _ _ _ _ _ _)) λ_=>tj (Ja _ _ _ _ _ _))) λ_=>tj (Ja _ _ _ _ _ _)) λ_=>tj (Ja _ _ _ _ _ _)
theorem zH(u:LB)(v p a h:Int)(b g:UInt64)(hP:True):T (IX u v p a h b g) (λr=>0<=r.2.2.2.2.2.2/\r.2.2.2.2.2.2<=99/\ (r.2.2.2.2.2.2=0->0<=r.2.1/\r.2.1<=500000/\0<=r.2.2.1/\r.2.2.1<=24/\0<=r.2.2.2.1/\r.2.2.2.1<=24)):=
 tb (Jy _ _) λ_ _=>ti (λ_=>ts) λ_=>tb (rS _ _ _ _) λ_ _=>ti (λ_=>ts) λ_=>tb (JH _ _ _ _) λ⟨_,_⟩ _=>ti (λ_=>ts) λ_=>ti (λ_=>tb (JH _ _ _ _) λ⟨_,_⟩ _=>ti (λ_=>ts) λ_=>tj (fF _ _ _ _ _ _)) λ_=>tb (yI _ _ _ _) λ⟨_,_,_⟩ _=>ti (λ_=>ts) λ_=>tw (ti (λ_=>ts) λ_=>tj (fF _ _ _ _ _ _))
end Go.Pl
set_option maxRecDepth 4000
set_option maxHeartbeats 400000
namespace Go.Pl
open Go Go.Lv
theorem Am9(a f:Int)(g:LB)(b:Int):∀(q:Nat) (k:Int) (h:Int) (m:List (Int×Int×UInt64×UInt64×Unit)) (n:LU),0<=h/\h<= (Ch f a)/\ (Ch f a)<h+q/\ (Ch f a)<=17179869184/\1<=a/\a<=6/\0<=Ch f a/\Ch f a<=24000/\Aa m=6/\Aa n=h/\0<=k/\k<=900000->T (Oo a f g b q k h m n) (λr=>0<=r.2.2/\r.2.2<=99/\Aa r.1<=24000/\ (r.2.2=0->Aa r.1=Ch f a)):=
 ind (λk h m n hI=>by exfalso;(try simp only[Aa]at *);omega) λq ih k h m n hI=>ti (λ_=>tb (Ae0 _ _ _ _) λ⟨_,_,_⟩ _=>ti (λ_=>ts) λ_=>tw (tr λ_=>tr λ_=>tb (zH _ _ _ _ _ _ _) λ⟨_,_,_,_,_,_,_⟩ _=>ti (λ_=>ts) λ_=>tw (tr λ_=>tir (λ_ _=>ta (tj (ih _ _ _ _)))))) λ_=>ts
theorem Amf(a f:Int)(g:LB)(b:Int):∀(q:Nat) (u:Int) (p:List (Int×Int×UInt64×UInt64×Unit)),0<=u/\u<=6/\6<u+q/\1<=a/\a<=6/\0<=Ch f a/\Ch f a<=24000/\Aa p=6->T (Pc a f g b q u p) (λr=>0<=r.2.2/\r.2.2<=99/\Aa r.1<=24000/\ (r.2.2=0->Aa r.1=Ch f a)):=
 ind (λu p hI=>by exfalso;(try simp only[Aa]at *);omega) λq ih u p hI=>ti (λ_=>tb (tJ) λ⟨_,_,_,_⟩ _=>tg λ_=>te (λ_ _=>tj (ih _ _))) λ_=>tj (Am9 _ _ _ _ Ap _ _ _ _)
theorem Az8(a f:Int)(g:LB)(b:Int)(hP:1<=a/\a<=6/\0<=f/\f<=4000):T (AS a f g b) (λr=>0<=r.2.2/\r.2.2<=99/\Aa r.1<=24000/\ (r.2.2=0->Aa r.1=Ch f a)):=
 (by unfold AS AQ MX;exact tf (zfa (f:=f) (a:=a)) λ_=>tj (Amf _ _ _ _ Ap _ _))
theorem yg(a:Int)(b:LX)(hP:Aa b=16):T (tL a b) (λr=>0<=r.2.2.2/\r.2.2.2<=99/\Aa r.2.1=16/\Aa r.2.2.1=16/\ (r.2.2.2=0->9<=r.1/\r.1<=10)):=
 ti (λ_=>ti (λ_=>ts) λ_=>ti (λ_=>ts) λ_=>ts) λ_=>ti (λ_=>ts) λ_=>ti (λ_=>ts) λ_=>ts
theorem C6(a:Int)(f:LX)(hP:Aa f=16):T (kQ a f) (λr=>0<=r.2.2.2.2.2/\r.2.2.2.2.2<=99/\Aa r.2.2.2.1=16/\Aa r.2.2.2.2.1=16):=
 tb (yg _ _) λ⟨_,_,_,_⟩ _=>ti (λ_=>ts) λ_=>ts
theorem zC(a:UInt32)(hP:True):T (Ym a) (λ_=>True):=
 ts
theorem mE(a:Int)(k:Int32)(b:Int)(f m:LX)(hP:Aa f=16):T (Yb a k b f m) (λr=>0<=r/\r<=99):=
 tb (yg _ _) λ⟨_,_,_,_⟩ _=>ti (λ_=>ts) λ_=>ts
theorem Azy(a:Int)(hP:True):T (fN a) (λr=>0<=r.2/\r.2<=99/\0<=r.1/\r.1<=5):=
 ti (λ_=>ts) λ_=>ti (λ_=>ti (λ_=>ts) λ_=>ts) λ_=>ti (λ_=>ts) λ_=>ts
theorem Adf(a:Int)(b:Int32)(hP:0<=a):T (dI a b) (λ_=>True):=
 tw (tw (ts))
theorem nA(b:Int)(f:Int32)(hP:True):T (Yd b f) (λr=>0<=r.2/\r.2<=99):=
 tb (Azy _) λ⟨_,_⟩ _=>ti (λ_=>ts) λ_=>tb (Adf _ _) λ_ _=>ts
theorem ZE(a:Int)(b f:LX)(hP:True):T (DO a b f) (λr=>0<=r/\r<=99/\ (r=0->9<=a/\a<=10)):=
 ti (λ_=>ts) λ_=>ts
theorem Abc(b:LX)(a:Int)(f:LX):∀(q:Nat) (h:Int32) (g:Int),0<=g/\g<=16/\16<g+q/\9<=a/\a<=10/\Aa b=16/\Aa f=16->T (EZ b a f q h g) (λr=>0<=r.2/\r.2<=99):=
 ind (λh g hI=>by exfalso;(try simp only[Aa]at *);omega) λq ih h g hI=>ti (λ_=>tg λ_=>tg λ_=>tg λ_=>tj (ih _ _)) λ_=>tw (ts)
theorem uC(a:Int)(b f:LX)(hP:Aa b=16/\Aa f=16):T (YJ a b f) (λr=>0<=r.2/\r.2<=99):=
 tb (ZE _ _ _) λ_ _=>ti (λ_=>ts) λ_=>tw (tj (Abc _ _ _ Ap _ _))
theorem D2(a:Int)(hP:True):T (jW a) (λ_=>True):=
 ti (λ_=>ts) λ_=>ti (λ_=>ts) λ_=>ts
theorem Ack(h:Int32)(f:LX)(g:Int):∀(q:Nat) (a:Int) (b:LX),0<=a/\a<=16/\16<a+q/\Aa b=16/\Aa f=16->T (EP h f g q a b) (λr=>0<=r.2.2.2/\r.2.2.2<=99/\Aa r.2.1=16/\Aa r.2.2.1=16):=
 ind (λa b hI=>by exfalso;(try simp only[Aa]at *);omega) λq ih a b hI=>ti (λ_=>tg λ_=>ti (λ_=>tj (ih _ _)) λ_=>ti (λ_=>tg λ_=>tg λ_=>tb (D2 _) λ_ _=>tg λ_=>te (λ_ _=>tj (ih _ _))) λ_=>tg λ_=>tg λ_=>tb (D2 _) λ_ _=>tg λ_=>te (λ_ _=>tj (ih _ _))) λ_=>ts
theorem Am2(g:Int)(k f:LX)(h:Int32)(hP:Aa k=16/\Aa f=16):T (pV g k f h) (λr=>0<=r.2.2.2/\r.2.2.2<=99/\Aa r.2.1=16/\Aa r.2.2.1=16):=
 tb (ZE _ _ _) λ_ _=>ti (λ_=>ts) λ_=>ti (λ_=>ts) λ_=>tj (Ack _ _ _ Ap _ _)
theorem yx(b:Int)(f a:LX)(g:Int32)(hP:Aa f=16/\Aa a=16):T (zF b f a g) (λr=>0<=r.2.2.2/\r.2.2.2<=99/\Aa r.2.1=16/\Aa r.2.2.1=16):=
 tb (ZE _ _ _) λ_ _=>ti (λ_=>ts) λ_=>tv (tv (tg λ_=>te (λ_ _=>ts)))
theorem qT(a:Int)(b f:LX)(g h:Int32)(hP:Aa b=16/\Aa f=16):T (XR a b f g h) (λr=>Aa r.2.1=16/\Aa r.2.2=16):=
 tb (Am2 _ _ _ _) λ⟨_,_,_,_⟩ _=>tb (yx _ _ _ _) λ⟨_,_,_,_⟩ _=>ts
theorem Ad5(b:Int)(f g:LX)(a:Int32)(hP:Aa f=16/\Aa g=16):T (uQ b f g a) (λr=>0<=r.2.2.2.2/\r.2.2.2.2<=99/\Aa r.2.2.1=16/\Aa r.2.2.2.1=16):=
 tb (uC _ _ _) λ⟨_,_⟩ _=>ti (λ_=>ts) λ_=>tb (qT _ _ _ _ _) λ⟨_,_,_⟩ _=>ts
theorem Avt(a:Int)(b:Int32)(f:Int)(g h:LX)(o:Int32)(hP:Aa g=16/\Aa h=16):T (Lh a b f g h o) (λr=>0<=r.2.2.2.2.2.2/\r.2.2.2.2.2.2<=99/\Aa r.2.2.2.2.1=16/\Aa r.2.2.2.2.2.1=16):=
 tb (mE _ _ _ _ _) λ_ _=>ti (λ_=>ts) λ_=>tb (nA _ _) λ⟨_,_⟩ _=>tb (Ad5 _ _ _ _) λ⟨_,_,_,_,_⟩ _=>ts
theorem D9(a:Int)(b:LX)(hP:True):T (kH a b) (λr=>0<=r/\r<=99/\ (r=0->1<=a/\a<=6/\Aa b<=4000/\Jl (Aa b) a=0)):=
 ti (λ_=>ts) λ_=>ti (λ_=>ts) λ_=>tw (ti (λ_=>ts) λ_=>ts)
theorem Td(a:LX)(hP:Aa a<=17179869184):T (Ci a) (λr=>Aa r=Aa a):=
 ta (ts)
theorem iR{N12:Nat}{k:LX}{Oh:Int->LX->Er}(b a:Int)(hb:∀(a:Int) (f:LX),1<=b/\b<=6/\Aa f<=4000/\0<=a/\a<=Aa f/\Aa f<a+N12/\Aa f %b=0/\a %b=0/\Aa f=Aa k->T (Oh a f) (λr=>0<=r.2/\r.2<=99/\Aa r.1<=4000/\ (r.2=0->Aa r.1=Aa k))):∀(q:Nat) (g:Int) (h:LX),1<=b/\b<=6/\Aa h<=4000/\0<=a/\a+b<=Aa h/\Aa h<a+(N12+1)/\Aa h %b=0/\a %b=0/\g+1<b/\ -3<=g/\g+4<q/\Aa h=Aa k->T (IP Oh b a q g h) (λr=>0<=r.2/\r.2<=99/\Aa r.1<=4000/\ (r.2=0->Aa r.1=Aa k)):=
 ind (λg h hI=>by exfalso;(try simp only[Aa]at *);omega) λq ih g h hI=>by
  rcases(show b=1\/b=2\/b=3\/b=4\/b=5\/b=6 by omega)with rfl|rfl|rfl|rfl|rfl|rfl<;>exact ti (λ_=>tw (tw (tg λ_=>tg λ_=>tw (te (λ_ _=>tj (ih _ _)))))) λ_=>tj (hb _ _)
theorem Anp{k:LX}(b:Int):∀(q:Nat) (a:Int) (f:LX),1<=b/\b<=6/\Aa f<=4000/\0<=a/\a<=Aa f/\Aa f<a+q/\Aa f %b=0/\a %b=0/\Aa f=Aa k->T (IK b q a f) (λr=>0<=r.2/\r.2<=99/\Aa r.1<=4000/\ (r.2=0->Aa r.1=Aa k)):=
 ind (λa f hI=>by exfalso;(try simp only[Aa]at *);omega) λq ih a f hI=>by
  rcases(show b=1\/b=2\/b=3\/b=4\/b=5\/b=6 by omega)with rfl|rfl|rfl|rfl|rfl|rfl<;>exact ti (λ_=>tv (ti (λ_=>tw (tw (tg λ_=>tg λ_=>tw (te (λ_ _=>tj (iR _ _ ih Ap _ _)))))) λ_=>tj (iR _ _ ih Ap _ _))) λ_=>ts
theorem Afd(b:Int)(k:LX)(hP:True):T (Z0 b k) (λr=>0<=r.2/\r.2<=99/\Aa r.1<=4000/\ (r.2=0->Aa r.1=Aa k)):=
 tb (D9 _ _) λ_ _=>ti (λ_=>ts) λ_=>tb (Td _) λ_ _=>tj (Anp _ Ap _ _)
theorem Az7{m:Int}(b f:Int32)(a:LX):∀(q:Nat) (g:Int),0<=g/\g<= (Aa a)/\ (Aa a)<g+q/\ (Aa a)<=17179869184/\Aa a<=4000/\8<=m/\m<=24/\m %8=0->T (Zu b f a q g) (λr=>0<=r/\r<=99/\ (r=0->Aa a<=4000/\8<=m/\m<=24/\m %8=0)):=
 ind (λg hI=>by exfalso;(try simp only[Aa]at *);omega) λq ih g hI=>ti (λ_=>tg λ_=>ti (λ_=>ts) λ_=>tj (ih _)) λ_=>ts
theorem Vr(m:Int)(a:LX)(hP:True):T (Ry m a) (λr=>0<=r/\r<=99/\ (r=0->Aa a<=4000/\8<=m/\m<=24/\m %8=0)):=
 tb (QC _) λ⟨_,_,_⟩ _=>ti (λ_=>ts) λ_=>ti (λ_=>ts) λ_=>tj (Az7 _ _ _ Ap _)
theorem Am3(f:LU)(a b:Int):∀(q:Nat) (g:Int) (h:List (Int×Int32×(Int×LX×LX×Unit)×Unit)) (k:LX),0<=g/\g<= (Aa f)/\ (Aa f)<g+q/\ (Aa f)<=17179869184/\1<=a/\a<=6/\Aa f<=24000/\Aa h=6/\Dp Ui h/\Aa k=g->T (Nb f a b q g h k) (λr=>0<=r.2/\r.2<=99/\Aa r.1<=4000/\ (r.2=0->Aa r.1=Aa f)):=
 ind (λg h k hI=>by exfalso;(try simp only[Aa]at *);omega) λq ih g h k hI=>ti (λ_=>tg λ_=>tw (tAr (p:=Ui) λ_ _=>tAr (p:=Ui) λ_ _=>tb (zC _) λ_ _=>tb (Avt _ _ _ _ _ _) λ⟨_,_,_,_,_,_,_⟩ _=>ti (λ_=>ts) λ_=>tSr (p:=Ui) (λ_ _=>ta (tj (ih _ _ _))))) λ_=>tb (Afd _ _) λ⟨_,_⟩ _=>ti (λ_=>ts) λ_=>tb (Vr _ _) λ_ _=>ti (λ_=>ts) λ_=>ts
theorem Am0(f:LU)(a b:Int)(o:LX):∀(q:Nat) (p:Int) (n:List (Int×Int32×(Int×LX×LX×Unit)×Unit)),0<=p/\p<=6/\6<p+q/\1<=a/\a<=6/\Aa o=16/\Aa f<=24000/\Aa n=6/\Dp Ui n->T (Nd f a b o q p n) (λr=>0<=r.2/\r.2<=99/\Aa r.1<=4000/\ (r.2=0->Aa r.1=Aa f)):=
 ind (λp n hI=>by exfalso;(try simp only[Aa]at *);omega) λq ih p n hI=>ti (λ_=>tb (C6 _ _) λ⟨_,_,_,_,_,_⟩ _=>tA (p:=Ui) λ_ _=>tS (p:=Ui) (λ_ _=>tj (ih _ _))) λ_=>tj (Am3 _ _ _ Ap _ _ _)
theorem Atg(a b:Int)(o:LX)(f:LU)(hP:1<=a/\a<=6/\Aa o=16/\Aa f<=24000):T (Wj a b o f) (λr=>0<=r.2/\r.2<=99/\Aa r.1<=4000/\ (r.2=0->Aa r.1=Aa f)):=
 (by unfold Wj Xe HN;exact tj (Am0 _ _ _ _ Ap _ _))
theorem Og(a h:Int)(u:LX)(f:Int)(v:LB)(hP:Aa u=16):T (Kv a h u f v) (λr=>0<=r.2/\r.2<=99/\Aa r.1<=4000/\ (r.2=0->Aa r.1=Ch f a/\1<=f/\f<=4000)):=
 tf (zq4 a) λ_=>tb (Qg _ _) λ_ _=>ti (λ_=>ts) λ_=>ti (λ_=>ts) λ_=>tw (ti (λ_=>ts) λ_=>tb (Ay5 _) λ⟨_,_⟩ _=>ti (λ_=>ts) λ_=>tb (Ajq _) λ⟨_,_,_⟩ _=>ti (λ_=>ts) λ_=>tb (Az8 _ _ _ _) λ⟨_,_,_⟩ _=>ti (λ_=>ts) λ_=>ti (λ_=>ts) λ_=>tb (JH _ _ _ _) λ⟨_,_⟩ _=>ti (λ_=>ts) λ_=>tb (Atg _ _ _ _) λ⟨_,_⟩ _=>ts)
theorem Alk(a:LB)(hP:Aa a<=100000/\32<=Aa a):T (zQ a) (λr=>0<=r.2/\r.2<=99/\0<=r.1/\r.1<=Aa a):=
 tc λ_ _=>tb (gE _ _) λ⟨_,_,_⟩ _=>ti (λ_=>ti (λ_=>ts) λ_=>ts) λ_=>tc λ_ _=>tb (gE _ _) λ⟨_,_,_⟩ _=>ti (λ_=>ts) λ_=>ti (λ_=>ts) λ_=>tc λ_ _=>tb (vO _ _ _) λ_ _=>tb (Kh _ _) λ_ _=>ti (λ_=>ts) λ_=>ts
theorem Afq(a:LB)(hP:Aa a<=100000):T (X5 a) (λr=>0<=r.2/\r.2<=99/\0<=r.1/\r.1<=Aa a):=
 ti (λ_=>ts) λ_=>tc λ_ _=>tb (Zh _ _) λ_ _=>ti (λ_=>ts) λ_=>tj (Alk _)
theorem At3:∀(q:Nat) (a:Int) (b:LB),Aa b<=4000/\0<=a/\a+Aa b<=4000/\Aa b<q->T (We q a b) (λr=>0<=r.2/\r.2<=99):=
 ind (λa b hI=>by exfalso;(try simp only[Aa]at *);omega) λq ih a b hI=>ti (λ_=>tb (Afq _) λ⟨_,_⟩ _=>ti (λ_=>ts) λ_=>tc λ_ _=>tj (ih _ _)) λ_=>ts
theorem MG(h:LB)(hP:True):T (Tn h) (λr=>0<=r.2/\r.2<=99):=
 ti (λ_=>ts) λ_=>tj (At3 Ap _ _)
theorem Axm(a:LB)(w:LI)(m f g h o p n b ab ae:Int)(ac:LX)(k:LI):∀(q:Nat) (y:Int) (aa:Int) (ad:LX),0<=aa/\aa<= (Aa w)/\ (Aa w)<aa+q/\ (Aa w)<=17179869184/\Aa a<=100000/\Aa w=Aa k/\Aa k<=1000/\Dp (Rg 5 100000) w/\0<=y/\y<=Aa a/\Aa ac=16/\Aa ad<=4000*aa->T (AF a w m f g h o p n b ab ae ac k q y aa ad) (λr=>0<=r.2.2.2.2/\r.2.2.2.2<=99/\Aa r.2.2.2.1<=4000000):=
 ind (λy aa ad hI=>by exfalso;(try simp only[Aa]at *);omega) λq ih y aa ad hI=>ti (λ_=>tA (p:=Rg 5 100000) λ_ _=>tA (p:=Rg 5 100000) λ_ _=>ti (λ_=>ts) λ_=>tg λ_=>tc λ_ _=>tg λ_=>tb (Og _ _ _ _ _) λ⟨_,_⟩ _=>ti (λ_=>ts) λ_=>ta (tj (ih _ _ _))) λ_=>tc λ_ _=>tb (MG _) λ⟨_,_⟩ _=>ti (λ_=>ts) λ_=>ts
theorem DG(a u:LB)(m f g h o p n b:Int)(k:LI)(ao ab ae:Int)(w:LI)(hP:Aa a<=100000/\0<=ao/\ao<=99/\Aa k<=1000/\ (ao=0->Aa w=Aa k/\0<=ab/\ab<=Aa a)/\Dp (Rg 5 100000) w):T (AG a u m f g h o p n b k ao ab ae w) (λr=>0<=r.2.2.2.2/\r.2.2.2.2<=99/\Aa r.2.2.2.1<=4000000):=
 ti (λ_=>ts) λ_=>tb (Sp _) λ⟨_,_⟩ _=>tj (Axm _ _ _ _ _ _ _ _ _ _ _ _ _ _ Ap _ _ _)
theorem Aym(v:LI)(a u:LB)(m f g h o p n b:Int)(k:LI):∀(q:Nat) (ag:Int) (af:Int),0<=ag/\ag<= (Aa v)/\ (Aa v)<ag+q/\ (Aa v)<=17179869184/\Aa a<=100000/\0<=b/\b+4*Aa v+4<=Aa a/\Aa v=Aa k/\Aa k<=1000/\Dp (Rg 5 100000) v->T (Zk v a u m f g h o p n b k q ag af) (λr=>0<=r.2.2.2.2/\r.2.2.2.2<=99/\Aa r.2.2.2.1<=4000000):=
 ind (λag af hI=>by exfalso;(try simp only[Aa]at *);omega) λq ih ag af hI=>ti (λ_=>tg λ_=>tg λ_=>tj (ih _ _)) λ_=>(by unfold eT JQ;exact tj (DG _ _ _ _ _ _ _ _ _ _ _ _ _ _ _))
theorem Nq(a u:LB)(m f g h o p n b ah ai:Int)(k:LI)(am:Int)(hP:Aa a<=100000/\0<=b/\b<=100030/\Aa k<=1000/\0<=am/\am<=99):T (JV a u m f g h o p n b ah ai k am) (λr=>0<=r.2.2.2.2/\r.2.2.2.2<=99/\Aa r.2.2.2.1<=4000000):=
 ti (λ_=>ts) λ_=>ti (λ_=>tj (DG _ _ _ _ _ _ _ _ _ _ _ _ _ _ _)) λ_=>tc λ_ _=>tb (BO _ _) λ⟨_,_⟩ _=>ti (λ_=>tj (DG _ _ _ _ _ _ _ _ _ _ _ _ _ _ _)) λ_=>tj (Aym _ _ _ _ _ _ _ _ _ _ _ _ Ap _ _)
theorem rD(a u:LB)(hP:True):T (YS a u) (λr=>0<=r.2.2.2.2/\r.2.2.2.2<=99/\Aa r.2.2.2.1<=4000000):=
 ti (λ_=>ts) λ_=>tb (mO _) λ⟨_,_,_,_,_,_,_,_,_,_,_,_⟩ _=>ti (λ_=>ts) λ_=>ti (λ_=>tj (Nq _ _ _ _ _ _ _ _ _ _ _ _ _ _)) λ_=>ti (λ_=>tj (Nq _ _ _ _ _ _ _ _ _ _ _ _ _ _)) λ_=>ti (λ_=>tj (Nq _ _ _ _ _ _ _ _ _ _ _ _ _ _)) λ_=>tc λ_ _=>tb (BC _ _) λ⟨_,_⟩ _=>ti (λ_=>tj (Nq _ _ _ _ _ _ _ _ _ _ _ _ _ _)) λ_=>tj (Nq _ _ _ _ _ _ _ _ _ _ _ _ _ _)
theorem mP(a b:LB)(hP:True):T (PG a b) (λr=>0<=r/\r<=99):=
 tb (rD _ _) λ⟨_,_,_,_,_⟩ _=>ts
end Go.Pl
set_option maxRecDepth 4000
set_option maxHeartbeats 400000
namespace Go.Pl
open Go Go.Lv
variable{zn:Int}{l:LI}
theorem Ae1(a n:LB)(b:Int)(hP:True):T (ZQ a n b) (λ_=>True):=
 ti (λ_=>ts) λ_=>tb (Ql _) λ⟨_,_⟩ _=>ti (λ_=>ts) λ_=>tc λ_ _=>tb (Qk _) λ⟨_,_,_,_,_,_⟩ _=>ti (λ_=>ts) λ_=>ti (λ_=>ti (λ_=>ts) λ_=>ts) λ_=>ti (λ_=>ts) λ_=>ts
def Mon(l:LI):Prop:=∀(i:Nat) (x y:Int),l[i]? =some x->l[i+1]? =some y->0<=x/\x<=y/\y<=100000000
theorem Aqp{g h:Int}{n:Nat}(hn:l.length=n+1)(hm:Mon l)(hl:l[n]? =some g)(h0:0<=g)(hh:0<=h)(hb:g+h<=100000000):Mon (l++[g+h])/\ (l++[g+h])[n+1]? =some (g+h):=by
  refine⟨λi x y hx hy=>?_,by rw[I7 F3,hn,Nat.sub_self];rfl⟩;by_cases hi:i+1<l.length
  · rw[H5 F3]at hx hy
    exact hm i x y hx hy
  · have hi2:i+1<(l++[g+h]).length:=by
      rcases JS (i+1) (l++[g+h]).length with hlt|hge
      · exact hlt
      · rw[L7 hge]at hy;cases hy
    rw[BP,J9]at hi2;have:i=n:=F3
    subst this;rw[H5 F3,hl]at hx;rw[I7 F3,hn,Nat.sub_self]at hy;obtain rfl:=H9 hx;obtain rfl:=H9 (show some (g+h)=some y from hy);exact⟨h0,F3,hb⟩
theorem qX{a x y:Int}(hm:Mon l)(h0:0<=a/\a<=1000000)(hx:Af l a=some x)(hy:Af l (Ae a 1)=some y):0<=x/\x<=y/\y<=100000000:=by
  rw[Gt]at hy;unfold Af at hx hy;rw[B? h0.1]at hx;rw[B? F3,show(a+1).toNat=a.toNat+1 by omega]at hy;exact hm _ _ _ hx hy
theorem Arm(a:LI)(hA:Dp (Rg 5 100000) a)(hl:Aa a<=1000):∀(q:Nat) (b g:Int) (f:LI),0<=b/\b<=Aa a/\Aa a<b+q/\Aa f=b+1/\Mon f/\f[b.toNat]? =some g/\0<=g/\g<=100000*b->T (Uc a q b g f) (λr=>0<=r.2/\r.2<=99/\ (r.2=0->Aa r.1=Aa a+1/\Mon r.1)):=
 ind (λb g f hI=>by exfalso;omega) λq ih b g f hI=>ti (λh1=>tA (λh hh=>ta (by
  have hh:5<=h/\h<=100000:=hh;have h2:b<Aa a:=by simp only[Qq,zi,H4]at h1;exact h1
  have hn:f.length=b.toNat+1:=by have:=hI.2.2.2.1;unfold Aa at this;omega
  have k:=Aqp (h:=h) hn hI.2.2.2.2.1 hI.2.2.2.2.2.1 F3 F3 F3;rw[Gt (show -9223372036854775808<=g+h by omega)];unfold DQ UL;rw[Gt (show -9223372036854775808<=b+1 by omega),Gt (show -9223372036854775808<=g+h by omega)];refine ih _ _ _ ⟨F3,F3,F3,?_,k.1,?_,F3,F3⟩
  · unfold Aa;rw[BP,J9,hn];omega
  · rw[show(b+1).toNat=b.toNat+1 by omega];exact k.2)) hA) λh1=>⟨_,rfl,I? _,(show(0:Int)<=99 by decide),λ_=>by
  have h2:¬b<Aa a:=by simp only[Qq,zi,I']at h1;exact h1
  exact⟨by show Aa f=_;omega,hI.2.2.2.2.1⟩⟩
theorem bD(a:LI)(hP:True):T (FE a) (λr=>0<=r.2/\r.2<=99/\ (r.2=0->Aa r.1=Aa a+1/\Mon r.1)):=
 tb (Vp _) λm hm=>ti (λh=>⟨_,rfl,hm.1,hm.2.1,λh0=>by rw[show m=0 from h0]at h;exact absurd h F4⟩) λh=>by
  have h0:m=0:=by simp only[Uh,zi,I',E6,Decidable.not_not]at h;exact h
  have k:=hm.2.2 h0;refine Arm a k.2 k.1 Ap 0 0 [0] ⟨I? _,by unfold Aa;omega,by have:=Cu;omega,rfl,λi x y hx hy=>?_,rfl,I? _,F4⟩;cases hy
theorem PN{N16:Nat}{Fj:Int->LB->Cw}(b:Int)(a:LX)(k:Int32)(f:Int)(hb:∀(f:Int) (g:LB),0<=f/\f<= (Aa a)/\ (Aa a)<f+N16/\ (Aa a)<=17179869184/\Aa a<=4000/\ (b=8/\Aa g=f\/b=16/\Aa g=2*f\/b=24/\Aa g=3*f)->T (Fj f g) (λr=>0<=r.2/\r.2<=99/\Aa r.1<=12000/\ (r.2=0-> (b=8/\Aa r.1=Aa a\/b=16/\Aa r.1=2*Aa a\/b=24/\Aa r.1=3*Aa a)))):∀(q:Nat) (m:Int) (h:LB),0<=m/\3<m+q/\Aa a<=4000/\ (b=8/\Aa h=f+m/\m<=1\/b=16/\Aa h=2*f+m/\m<=2\/b=24/\Aa h=3*f+m/\m<=3)/\0<=f/\f<Aa a/\Aa a<f+(N16+1)->T (Wo Fj b a k f q m h) (λr=>0<=r.2/\r.2<=99/\Aa r.1<=12000/\ (r.2=0-> (b=8/\Aa r.1=Aa a\/b=16/\Aa r.1=2*Aa a\/b=24/\Aa r.1=3*Aa a))):=
 ind (λm h hI=>by exfalso;(try simp only[Aa]at *);omega) λq ih m h hI=>ti (λ_=>tw (ta (tj (ih _ _)))) λ_=>tj (hb _ _)
theorem Auz(b:Int)(a:LX):∀(q:Nat) (f:Int) (g:LB),0<=f/\f<= (Aa a)/\ (Aa a)<f+q/\ (Aa a)<=17179869184/\Aa a<=4000/\ (b=8/\Aa g=f\/b=16/\Aa g=2*f\/b=24/\Aa g=3*f)->T (Wp b a q f g) (λr=>0<=r.2/\r.2<=99/\Aa r.1<=12000/\ (r.2=0-> (b=8/\Aa r.1=Aa a\/b=16/\Aa r.1=2*Aa a\/b=24/\Aa r.1=3*Aa a))):=
 ind (λf g hI=>by exfalso;(try simp only[Aa]at *);omega) λq ih f g hI=>ti (λ_=>tg λ_=>ti (λ_=>tj (PN _ _ _ _ ih Ap _ _)) λ_=>tj (PN _ _ _ _ ih Ap _ _)) λ_=>ts
theorem Qp(b:Int)(a:LX)(hP:True):T (Kn b a) (λr=>0<=r.2/\r.2<=99/\Aa r.1<=12000/\ (r.2=0-> (b=8/\Aa r.1=Aa a\/b=16/\Aa r.1=2*Aa a\/b=24/\Aa r.1=3*Aa a))):=
 tb (Vr _ _) λ_ _=>ti (λ_=>ts) λ_=>tj (Auz _ _ Ap _ _)
theorem Avc(w a m g:Int)(aa:LX)(n o p h:Int)(k:LB)(u:LX)(v b f:LI)(hP:0<=w/\w<=99):T (aL w a m g aa n o p h k u v b f) (λr=>0<=r.2/\r.2<=99/\Aa r.1<=12000):=
 ti (λ_=>ts) λ_=>tb (Qp _ _) λ⟨_,_⟩ _=>ts
theorem Awo(a:Int)(f:LI)(n m g o p h:Int)(k:LB)(u:LX)(v b:LI)(hP:Aa k<=100000/\0<=h/\h<=110000/\Aa u=16/\Aa b=Aa f+1/\Aa f<=1000)(hM:Mon b):T (aI a f n m g o p h k u v b) (λr=>0<=r.2/\r.2<=99/\Aa r.1<=12000):=
 ti (λ_=>ts) λ_=>tg λ_=>tg λ_=>tE λ_ e3=>tE λ_ e4=>tf (λh0=>qX hM h0 e3 e4) λ_=>ti (λ_=>ts) λ_=>tg λ_=>tc λ_ _=>tg λ_=>tb (Og _ _ _ _ _) λ⟨_,_⟩ _=>tj (Avc _ _ _ _ _ _ _ _ _ _ _ _ _ _)
theorem Rl(a ac:Int)(hP:0<=ac/\ac<=99):T (bR a ac) (λr=>0<=r.2/\r.2<=99/\Aa r.1<=12000):=ti (λ_=>ts) λ_=>ti (λ_=>ts) λ_=>tn
theorem Zw(k ad:LB)(a:Int)(hP:True):T (Pg k ad a) (λr=>0<=r.2/\r.2<=99/\Aa r.1<=12000):=
 tb (Iu _ _) λ⟨n,m,g,o,p,h,v,ae⟩ h1=>ti (λ_=>tj (Rl _ _)) λ_=>tb (Dc _ _ _ _ _) λ⟨f,af⟩ h2=>ti (λ_=>tj (Rl _ _)) λ_=>tb (bD _) λ⟨b,ag⟩ h3=>ti (λ_=>tj (Rl _ _)) λh4=>tb (Sp _) λ⟨u,ah⟩ _=>ti (λ_=>tj (Rl _ _)) λ_=>tg λ_=>tg λ_=>tj (λhP=>Awo _ _ _ _ _ _ _ _ _ _ _ _ hP (h3.2.2 (by simp only[Uh,zi,I',E6,Decidable.not_not]at h4;exact h4)).2)
theorem Axa(m f a b g h:Int)(k:LI):∀(q:Nat) (n:Int) (o:Int),0<=o/\o<=m/\m<o+q/\m<=17179869184/\m<=Aa k/\Aa k<=1000->T (AZ m f a b g h k q n o) (λr=>0<=r.2/\r.2<=99/\ -9223372036854775808<=r.1/\r.1<=9223372036854775807):=
 ind (λn o hI=>by exfalso;(try simp only[Aa]at *);omega) λq ih n o hI=>ti (λ_=>tg λ_=>tg λ_=>tj (ih _ _)) λ_=>ts
theorem mW(f a b g h m:Int)(hP:0<=m):T (PJ f a b g h m) (λr=>0<=r.2/\r.2<=99/\ -9223372036854775808<=r.1/\r.1<=9223372036854775807):=
 tb (Dc _ _ _ _ _) λ⟨_,_⟩ _=>ti (λ_=>ts) λ_=>tj (Axa _ _ _ _ _ _ _ Ap _ _)
theorem EH(b f g h k m o:Int)(a:LI)(y:Int)(aa:UInt8)(ab:Int)(hP:0<=y/\y<=1000/\0<=ab/\ab<=1000/\0<=b/\b<=99):T (LD b f g h k m o a y aa ab) (λr=>0<=r.2.2.2.2/\r.2.2.2.2<=99/\0<=r.1/\r.1<=99/\0<=r.2.2.1/\r.2.2.1<=1000/\ -9223372036854775808<=r.2.2.2.1/\r.2.2.2.1<=9223372036854775807):=
 tb (mW _ _ _ _ _ _) λ⟨_,_⟩ _=>ts
theorem UH(p n:LB)(a:LI)(b:Int)(u:UInt8)(f g h k m o:Int):∀(q:Nat) (v:Int),0<=v/\v<= (Aa a)/\ (Aa a)<v+q/\ (Aa a)<=17179869184/\Aa a<=1000/\0<=b/\b<=99->T (CM p n a b u f g h k m o q v) (λr=>0<=r.2.2.2.2/\r.2.2.2.2<=99/\0<=r.1/\r.1<=99/\0<=r.2.2.1/\r.2.2.1<=1000/\ -9223372036854775808<=r.2.2.2.1/\r.2.2.2.1<=9223372036854775807):=
 ind (λv hI=>by exfalso;(try simp only[Aa]at *);omega) λq ih v hI=>ti (λ_=>ti (λ_=>tj (EH _ _ _ _ _ _ _ _ _ _ _)) λ_=>tb (Zw _ _ _) λ⟨_,_⟩ _=>ti (λ_=>tj (EH _ _ _ _ _ _ _ _ _ _ _)) λ_=>tj (ih _)) λ_=>tj (EH _ _ _ _ _ _ _ _ _ _ _)
theorem nD(p n:LB)(hP:True):T (FI p n) (λr=>0<=r.2.2.2.2/\r.2.2.2.2<=99/\0<=r.1/\r.1<=99/\0<=r.2.2.1/\r.2.2.1<=1000/\ -9223372036854775808<=r.2.2.2.1/\r.2.2.2.1<=9223372036854775807):=
 ti (λ_=>ts) λ_=>tb (mP _ _) λ_ _=>tb (Iu _ _) λ⟨_,_,_,_,_,_,_,_⟩ _=>ti (λ_=>tb (Ae1 _ _ _) λ_ _=>ts) λ_=>ti (λ_=>(by unfold LA AX;exact tj (UH _ _ _ _ _ _ _ _ _ _ _ Ap _))) λ_=>(by unfold LA AX;exact tj (UH _ _ _ _ _ _ _ _ _ _ _ Ap _))
theorem Afj(a b:LB)(hP:True):T (sB a b) (λr=>0<=r.2.2.2.2.2.2.2.2.2.2.2/\r.2.2.2.2.2.2.2.2.2.2.2<=99/\ -9223372036854775808<=r.1/\r.1<=9223372036854775807/\ -9223372036854775808<=r.2.1/\r.2.1<=9223372036854775807/\ -9223372036854775808<=r.2.2.1/\r.2.2.1<=9223372036854775807/\ -9223372036854775808<=r.2.2.2.1/\r.2.2.2.1<=9223372036854775807/\ -9223372036854775808<=r.2.2.2.2.1/\r.2.2.2.2.1<=9223372036854775807/\ -9223372036854775808<=r.2.2.2.2.2.1/\r.2.2.2.2.2.1<=9223372036854775807/\ -9223372036854775808<=r.2.2.2.2.2.2.2.1/\r.2.2.2.2.2.2.2.1<=9223372036854775807/\ -9223372036854775808<=r.2.2.2.2.2.2.2.2.2.1/\r.2.2.2.2.2.2.2.2.2.1<=9223372036854775807/\ -9223372036854775808<=r.2.2.2.2.2.2.2.2.2.2.1/\r.2.2.2.2.2.2.2.2.2.2.1<=9223372036854775807/\Aa r.2.2.2.2.2.2.1<=1000/\Dp (Rg 5 100000) r.2.2.2.2.2.2.1):=
 tb (Iu _ _) λ⟨_,_,_,_,_,_,_,_⟩ _=>ti (λ_=>ts) λ_=>tb (nD _ _) λ⟨_,_,_,_,_⟩ _=>ti (λ_=>ts) λ_=>ts
theorem Adr(n o p u v k:Int)(m:LI)(a:Int)(h:UInt8)(b g:Int)(hP:True):T (PY n o p u v k m a h b g) (λr=>0<=r/\r<=99):=
 tb (Dc _ _ _ _ _) λ⟨_,_⟩ _=>ti (λ_=>ti (λ_=>ts) λ_=>ti (λ_=>ti (λ_=>ts) λ_=>ti (λ_=>ti (λ_=>ts) λ_=>ts) λ_=>ti (λ_=>ti (λ_=>ts) λ_=>ts) λ_=>ti (λ_=>ti (λ_=>ts) λ_=>ts) λ_=>ti (λ_=>ti (λ_=>ts) λ_=>ts) λ_=>ti (λ_=>ti (λ_=>ts) λ_=>ts) λ_=>ti (λ_=>ti (λ_=>ts) λ_=>ts) λ_=>ti (λ_=>ts) λ_=>ts) λ_=>ti (λ_=>ts) λ_=>ti (λ_=>ti (λ_=>ts) λ_=>ts) λ_=>ti (λ_=>ti (λ_=>ts) λ_=>ts) λ_=>ti (λ_=>ti (λ_=>ts) λ_=>ts) λ_=>ti (λ_=>ti (λ_=>ts) λ_=>ts) λ_=>ti (λ_=>ti (λ_=>ts) λ_=>ts) λ_=>ti (λ_=>ti (λ_=>ts) λ_=>ts) λ_=>ti (λ_=>ts) λ_=>ts) λ_=>tb (Vp _) λ_ _=>ti (λ_=>ti (λ_=>ts) λ_=>ti (λ_=>ti (λ_=>ts) λ_=>ti (λ_=>ti (λ_=>ts) λ_=>ts) λ_=>ti (λ_=>ti (λ_=>ts) λ_=>ts) λ_=>ti (λ_=>ti (λ_=>ts) λ_=>ts) λ_=>ti (λ_=>ti (λ_=>ts) λ_=>ts) λ_=>ti (λ_=>ti (λ_=>ts) λ_=>ts) λ_=>ti (λ_=>ti (λ_=>ts) λ_=>ts) λ_=>ti (λ_=>ts) λ_=>ts) λ_=>ti (λ_=>ts) λ_=>ti (λ_=>ti (λ_=>ts) λ_=>ts) λ_=>ti (λ_=>ti (λ_=>ts) λ_=>ts) λ_=>ti (λ_=>ti (λ_=>ts) λ_=>ts) λ_=>ti (λ_=>ti (λ_=>ts) λ_=>ts) λ_=>ti (λ_=>ti (λ_=>ts) λ_=>ts) λ_=>ti (λ_=>ti (λ_=>ts) λ_=>ts) λ_=>ti (λ_=>ts) λ_=>ts) λ_=>ti (λ_=>ts) λ_=>ti (λ_=>ti (λ_=>ts) λ_=>ti (λ_=>ti (λ_=>ts) λ_=>ts) λ_=>ti (λ_=>ti (λ_=>ts) λ_=>ts) λ_=>ti (λ_=>ti (λ_=>ts) λ_=>ts) λ_=>ti (λ_=>ti (λ_=>ts) λ_=>ts) λ_=>ti (λ_=>ti (λ_=>ts) λ_=>ts) λ_=>ti (λ_=>ti (λ_=>ts) λ_=>ts) λ_=>ti (λ_=>ts) λ_=>ts) λ_=>ti (λ_=>ts) λ_=>ti (λ_=>ti (λ_=>ts) λ_=>ts) λ_=>ti (λ_=>ti (λ_=>ts) λ_=>ts) λ_=>ti (λ_=>ti (λ_=>ts) λ_=>ts) λ_=>ti (λ_=>ti (λ_=>ts) λ_=>ts) λ_=>ti (λ_=>ti (λ_=>ts) λ_=>ts) λ_=>ti (λ_=>ti (λ_=>ts) λ_=>ts) λ_=>ti (λ_=>ts) λ_=>ts
theorem Ay7(a:Int)(b:UInt8)(f g:Int):∀(q:Nat) (w:Int) (v:LB),0<=w/\w<= (Aa ([a,(Al b:Int),f,g]:LI))/\ (Aa ([a,(Al b:Int),f,g]:LI))<w+q/\ (Aa ([a,(Al b:Int),f,g]:LI))<=17179869184/\ -9223372036854775808<=a/\a<=9223372036854775807/\ -9223372036854775808<=f/\f<=9223372036854775807/\ -9223372036854775808<=g/\g<=9223372036854775807/\ (b.toNat:Int)<=255/\Aa v<=120000+100*w->T (CE a b f g q w v) (λr=>0<=r.2/\r.2<=99/\Aa r.1<=130000):=
 ind (λw v hI=>by exfalso;(try simp only[Aa]at *);omega) λq ih w v hI=>ti (λ_=>th λ_ _=>th λ_ _=>tb (Bw _) λ_ _=>ta (ta (tj (ih _ _)))) λ_=>(by unfold NC fK;exact ta (tw (ts)))
theorem Ays(h:LI)(a:Int)(b:UInt8)(f g:Int):∀(q:Nat) (ak:Int) (y:LB),0<=ak/\ak<= (Aa h)/\ (Aa h)<ak+q/\ (Aa h)<=17179869184/\ -9223372036854775808<=a/\a<=9223372036854775807/\ -9223372036854775808<=f/\f<=9223372036854775807/\ -9223372036854775808<=g/\g<=9223372036854775807/\ (b.toNat:Int)<=255/\Aa h<=1000/\Dp (Rg 5 100000) h/\Aa y<=8000+100*ak->T (AB h a b f g q ak y) (λr=>0<=r.2/\r.2<=99/\Aa r.1<=130000):=
 ind (λak y hI=>by exfalso;(try simp only[Aa]at *);omega) λq ih ak y hI=>ti (λ_=>tA (p:=Rg 5 100000) λ_ _=>tb (Bw _) λ_ _=>ta (ta (tj (ih _ _)))) λ_=>(by unfold jF LJ;exact ta (tj (Ay7 _ _ _ _ Ap _ _)))
theorem Ayh(u k m n o p:Int)(h:LI)(a:Int)(b:UInt8)(f g:Int):∀(q:Nat) (ab:Int) (aa:LB),0<=ab/\ab<= (Aa ([u]:LI))/\ (Aa ([u]:LI))<ab+q/\ (Aa ([u]:LI))<=17179869184/\ -9223372036854775808<=k/\k<=9223372036854775807/\ -9223372036854775808<=m/\m<=9223372036854775807/\ -9223372036854775808<=n/\n<=9223372036854775807/\ -9223372036854775808<=o/\o<=9223372036854775807/\ -9223372036854775808<=p/\p<=9223372036854775807/\ -9223372036854775808<=u/\u<=9223372036854775807/\ -9223372036854775808<=a/\a<=9223372036854775807/\ -9223372036854775808<=f/\f<=9223372036854775807/\ -9223372036854775808<=g/\g<=9223372036854775807/\Aa h<=1000/\Dp (Rg 5 100000) h/\ (b.toNat:Int)<=255/\Aa aa<=6000+100*ab->T (Zv u k m n o p h a b f g q ab aa) (λr=>0<=r.2/\r.2<=99/\Aa r.1<=130000):=
 ind (λab aa hI=>by exfalso;(try simp only[Aa]at *);omega) λq ih ab aa hI=>ti (λ_=>th λ_ _=>th λ_ _=>tb (Bw _) λ_ _=>ta (ta (tj (ih _ _)))) λ_=>(by unfold fU KT;exact ta (tj (Ays _ _ _ _ _ Ap _ _)))
theorem Aze(p k m n o u:Int)(h:LI)(a:Int)(b:UInt8)(f g:Int):∀(q:Nat) (ad:Int) (ac:LB),0<=ad/\ad<= (Aa ([p]:LI))/\ (Aa ([p]:LI))<ad+q/\ (Aa ([p]:LI))<=17179869184/\ -9223372036854775808<=k/\k<=9223372036854775807/\ -9223372036854775808<=m/\m<=9223372036854775807/\ -9223372036854775808<=n/\n<=9223372036854775807/\ -9223372036854775808<=o/\o<=9223372036854775807/\ -9223372036854775808<=p/\p<=9223372036854775807/\ -9223372036854775808<=u/\u<=9223372036854775807/\ -9223372036854775808<=a/\a<=9223372036854775807/\ -9223372036854775808<=f/\f<=9223372036854775807/\ -9223372036854775808<=g/\g<=9223372036854775807/\Aa h<=1000/\Dp (Rg 5 100000) h/\ (b.toNat:Int)<=255/\Aa ac<=5000+100*ad->T (BT p k m n o u h a b f g q ad ac) (λr=>0<=r.2/\r.2<=99/\Aa r.1<=130000):=
 ind (λad ac hI=>by exfalso;(try simp only[Aa]at *);omega) λq ih ad ac hI=>ti (λ_=>th λ_ _=>th λ_ _=>tb (Bw _) λ_ _=>ta (ta (tj (ih _ _)))) λ_=>(by unfold gS LM;exact ta (tj (Ayh _ _ _ _ _ _ _ _ _ _ _ Ap _ _)))
theorem Ayi(o k m n p u:Int)(h:LI)(a:Int)(b:UInt8)(f g:Int):∀(q:Nat) (af:Int) (ae:LB),0<=af/\af<= (Aa ([o]:LI))/\ (Aa ([o]:LI))<af+q/\ (Aa ([o]:LI))<=17179869184/\ -9223372036854775808<=k/\k<=9223372036854775807/\ -9223372036854775808<=m/\m<=9223372036854775807/\ -9223372036854775808<=n/\n<=9223372036854775807/\ -9223372036854775808<=o/\o<=9223372036854775807/\ -9223372036854775808<=p/\p<=9223372036854775807/\ -9223372036854775808<=u/\u<=9223372036854775807/\ -9223372036854775808<=a/\a<=9223372036854775807/\ -9223372036854775808<=f/\f<=9223372036854775807/\ -9223372036854775808<=g/\g<=9223372036854775807/\Aa h<=1000/\Dp (Rg 5 100000) h/\ (b.toNat:Int)<=255/\Aa ae<=4000+100*af->T (BQ o k m n p u h a b f g q af ae) (λr=>0<=r.2/\r.2<=99/\Aa r.1<=130000):=
 ind (λaf ae hI=>by exfalso;(try simp only[Aa]at *);omega) λq ih af ae hI=>ti (λ_=>th λ_ _=>th λ_ _=>tb (Bw _) λ_ _=>ta (ta (tj (ih _ _)))) λ_=>(by unfold iQ LN;exact ta (tj (Aze _ _ _ _ _ _ _ _ _ _ _ Ap _ _)))
theorem Ayr(n k m o p u:Int)(h:LI)(a:Int)(b:UInt8)(f g:Int):∀(q:Nat) (ah:Int) (ag:LB),0<=ah/\ah<= (Aa ([n]:LI))/\ (Aa ([n]:LI))<ah+q/\ (Aa ([n]:LI))<=17179869184/\ -9223372036854775808<=k/\k<=9223372036854775807/\ -9223372036854775808<=m/\m<=9223372036854775807/\ -9223372036854775808<=n/\n<=9223372036854775807/\ -9223372036854775808<=o/\o<=9223372036854775807/\ -9223372036854775808<=p/\p<=9223372036854775807/\ -9223372036854775808<=u/\u<=9223372036854775807/\ -9223372036854775808<=a/\a<=9223372036854775807/\ -9223372036854775808<=f/\f<=9223372036854775807/\ -9223372036854775808<=g/\g<=9223372036854775807/\Aa h<=1000/\Dp (Rg 5 100000) h/\ (b.toNat:Int)<=255/\Aa ag<=3000+100*ah->T (Zf n k m o p u h a b f g q ah ag) (λr=>0<=r.2/\r.2<=99/\Aa r.1<=130000):=
 ind (λah ag hI=>by exfalso;(try simp only[Aa]at *);omega) λq ih ah ag hI=>ti (λ_=>th λ_ _=>th λ_ _=>tb (Bw _) λ_ _=>ta (ta (tj (ih _ _)))) λ_=>(by unfold fQ KR;exact ta (tj (Ayi _ _ _ _ _ _ _ _ _ _ _ Ap _ _)))
theorem Ayf(m k n o p u:Int)(h:LI)(a:Int)(b:UInt8)(f g:Int):∀(q:Nat) (aj:Int) (ai:LB),0<=aj/\aj<= (Aa ([m]:LI))/\ (Aa ([m]:LI))<aj+q/\ (Aa ([m]:LI))<=17179869184/\ -9223372036854775808<=k/\k<=9223372036854775807/\ -9223372036854775808<=m/\m<=9223372036854775807/\ -9223372036854775808<=n/\n<=9223372036854775807/\ -9223372036854775808<=o/\o<=9223372036854775807/\ -9223372036854775808<=p/\p<=9223372036854775807/\ -9223372036854775808<=u/\u<=9223372036854775807/\ -9223372036854775808<=a/\a<=9223372036854775807/\ -9223372036854775808<=f/\f<=9223372036854775807/\ -9223372036854775808<=g/\g<=9223372036854775807/\Aa h<=1000/\Dp (Rg 5 100000) h/\ (b.toNat:Int)<=255/\Aa ai<=2000+100*aj->T (Zt m k n o p u h a b f g q aj ai) (λr=>0<=r.2/\r.2<=99/\Aa r.1<=130000):=
 ind (λaj ai hI=>by exfalso;(try simp only[Aa]at *);omega) λq ih aj ai hI=>ti (λ_=>th λ_ _=>th λ_ _=>tb (Bw _) λ_ _=>ta (ta (tj (ih _ _)))) λ_=>(by unfold gX MP;exact ta (tj (Ayr _ _ _ _ _ _ _ _ _ _ _ Ap _ _)))
theorem Aya(k m n o p u:Int)(h:LI)(a:Int)(b:UInt8)(f g:Int):∀(q:Nat) (am:Int) (al:LB),0<=am/\am<= (Aa ([k]:LI))/\ (Aa ([k]:LI))<am+q/\ (Aa ([k]:LI))<=17179869184/\ -9223372036854775808<=k/\k<=9223372036854775807/\ -9223372036854775808<=m/\m<=9223372036854775807/\ -9223372036854775808<=n/\n<=9223372036854775807/\ -9223372036854775808<=o/\o<=9223372036854775807/\ -9223372036854775808<=p/\p<=9223372036854775807/\ -9223372036854775808<=u/\u<=9223372036854775807/\ -9223372036854775808<=a/\a<=9223372036854775807/\ -9223372036854775808<=f/\f<=9223372036854775807/\ -9223372036854775808<=g/\g<=9223372036854775807/\Aa h<=1000/\Dp (Rg 5 100000) h/\ (b.toNat:Int)<=255/\Aa al<=1000+100*am->T (BM k m n o p u h a b f g q am al) (λr=>0<=r.2/\r.2<=99/\Aa r.1<=130000):=
 ind (λam al hI=>by exfalso;(try simp only[Aa]at *);omega) λq ih am al hI=>ti (λ_=>th λ_ _=>th λ_ _=>tb (Bw _) λ_ _=>ta (ta (tj (ih _ _)))) λ_=>(by unfold fD LY;exact ta (tj (Ayf _ _ _ _ _ _ _ _ _ _ _ Ap _ _)))
theorem yT(k m n o p u:Int)(h:LI)(a:Int)(b:UInt8)(f g:Int)(hP: -9223372036854775808<=k/\k<=9223372036854775807/\ -9223372036854775808<=m/\m<=9223372036854775807/\ -9223372036854775808<=n/\n<=9223372036854775807/\ -9223372036854775808<=o/\o<=9223372036854775807/\ -9223372036854775808<=p/\p<=9223372036854775807/\ -9223372036854775808<=u/\u<=9223372036854775807/\ -9223372036854775808<=a/\a<=9223372036854775807/\ -9223372036854775808<=f/\f<=9223372036854775807/\ -9223372036854775808<=g/\g<=9223372036854775807/\Aa h<=1000/\Dp (Rg 5 100000) h):T (pO k m n o p u h a b f g) (λr=>0<=r.2/\r.2<=99/\Aa r.1<=130000):=
 tf (z8b b) λ_=>tb (Adr _ _ _ _ _ _ _ _ _ _ _) λ_ _=>ti (λ_=>ts) λ_=>(by unfold JM LH;exact ta (tj (Aya _ _ _ _ _ _ _ _ _ _ _ Ap _ _)))
theorem Aa2(a b:LB)(hP:Aa a<=17179869184):T (Cy a b) (λr=>r=true->Aa b<=Aa a):=
 ti (λ_=>tc λ_ _=>ts) λ_=>ts
theorem Akq(a b:LB)(hP:Aa a<=17179869184/\Aa b=1):T (Eo a b) (λr=>Aa r<=Aa a):=
 tb (Aa2 _ _) λ_ _=>ti (λ_=>tc λ_ _=>ts) λ_=>ts
theorem Am8(a b:LB)(hP:Aa a<=17179869184/\Aa b=1):T (Gc a b) (λr=>Aa r<=Aa a):=
 tb (Akq _ _) λ_ _=>ts
theorem Arp(s:LB)(c:UInt8)(h:0<s.count c):0<=Gb s c/\c∉s.take (Gb s c).toNat/\ (s.drop ((Gb s c).toNat+1)).count c+1=s.count c:=by
  induction s with
  |nil=>simp at h
  |cons b l ih=>
    simp only[Gb];by_cases hb:(b==c)=true
    · rw[B? hb]
      have:=eq_of_beq hb;subst this;exact⟨I? _,F7,F7⟩
    · rw[C' hb]
      have hbc:¬b=c:=λe=>hb (by simp[e]);have hc:(b::l).count c=l.count c:=by rw[List.count_cons,C' hb,RU]
      rw[hc]at h⊢;obtain⟨h1,h2,h3⟩:=ih h;have h4:¬(Gb l c== -1)=true:=by simp;omega
      rw[C' h4];have e:(Gb l c+1).toNat=(Gb l c).toNat+1:=F3
      refine⟨F3,?_,?_⟩
      · rw[e,List.take_succ_cons,E9,not_or];exact⟨λh=>hbc h.symm,h2⟩
      · rw[e,List.drop_succ_cons];exact h3
theorem Amv(a b:LB)(c:UInt8)(f:Int)(hb:c∉b/\Aa b<=3/\Aa a<=1000000):∀(q:Nat) (h m:Int) (n:LB),0<=h/\h<=Aa a/\0<=m/\m<=f/\f<m+q/\f<=1000000/\ ((a.drop h.toNat).count c:Int)=f-m/\c∉n/\Aa n<=4*h->T (Oy a [c] b f q h m n) (λr=>c∉r/\Aa r<=4*Aa a):=
 ind (λh m n hI=>by exfalso;omega) λq ih h m n hI=>by
  obtain⟨hb1,hb2,hb3⟩:=hb;obtain⟨i1,i2,i3,i4,i5,i6,i7,i8,i9⟩:=hI;have hl:(a.drop h.toNat).length=a.length-h.toNat:=E8;have c1:Bg a h (Aa a)=some (a.drop h.toNat):=by
    unfold Bg Aa at*
    rw[B? F3,I6,N2]
  refine ti (λh1=>?_) λh1=>?_
  · have hm:m<f:=by simp only[Qq,zi,H4]at h1;exact h1
    have k:=Arp (a.drop h.toNat) c F3;have kb:=Z_ (a.drop h.toNat) c;have e0:strings_Index (a.drop h.toNat) [c]=some (Gb (a.drop h.toNat) c):=rfl;rw[c1,CS,e0,CS];generalize Gb (a.drop h.toNat) c=i at*
    unfold Aa at kb i2 hb3 hb2 i9⊢;have e1:Ae h i=h+i:=Gt;have e2:Ae (h+i) ((([c]:LB).length:Nat):Int)=h+i+1:=Gt F6 F6;have e3:Ae m 1=m+1:=Gt;have c2:Bg a h (h+i)=some ((a.drop h.toNat).take i.toNat):=by
      unfold Bg;rw[B? F3,show(h+i).toNat=h.toNat+i.toNat by omega,List.drop_take,yD]
    have l2:((a.drop h.toNat).take i.toNat).length=i.toNat:=by rw[D_];omega
    rw[e1,e2,e3,c2,CS];refine ta ?_ M5;refine ta ?_ (by unfold Aa;rw[BP];omega);refine ih _ _ _ ⟨F3,by unfold Aa;omega,F3,F3,F3,F3,?_,?_,?_⟩
    · have:a.drop (h+i+1).toNat=(a.drop h.toNat).drop (i.toNat+1):=by rw[lP];congr 1;omega
      rw[this];omega
    · rw[WY,WY,not_or,not_or];exact⟨⟨i8,k.2.1⟩,hb1⟩
    · unfold Aa;rw[BP,BP];omega
  · have hm:m=f:=by simp only[Qq,zi,I']at h1;omega
    unfold Js HI;rw[c1,CS];unfold Aa at*
    refine ta (tw ⟨_,rfl,?_,?_⟩ (H8 (by rw[BP];omega))) M5
    · rw[WY,not_or]
      exact⟨i8,λhx=>by have:=List.count_pos_iff.2 hx;omega⟩
    · show Aa (n++_)<= _
      unfold Aa;rw[BP];omega
theorem Aw6(a b:LB)(c:UInt8)(hP:c∉b/\Aa b<=3/\Aa a<=1000000):T (GG a [c] b (-1)) (λr=>c∉r/\Aa r<=4*Aa a):=by
  have hl:Aa a=(a.length:Int):=rfl;have hc:a.count c<=a.length:=List.count_le_length;refine ti (λh=>?_) λh=>?_
  · rw[E5]at h
    rcases h with h|h
    · exact absurd (eq_of_beq h) (λe=>hP.1 (e▸List.mem_singleton.2 rfl))
    · exact absurd h F4
  · have e:strings_Count a [c]=some ((a.count c:Nat):Int):=rfl
    rw[e,CS];refine ti (λh=>⟨_,rfl,?_,by rw[hl];omega⟩) λh=>?_
    · simp only[Yy,zi,H4]at h
      exact λhx=>by have:=List.count_pos_iff.2 hx;omega
    · refine ti (λ_=>?_) λh2=>by rw[E4]at h2;exact absurd h2.1 F4
      have hg:Aa ([c]:LB)=1:=rfl;unfold KE Xi;have hb0:0<=Aa b:=by unfold Aa;omega
      have eb:As (Aa b) 1=Aa b-1:=DS;have hm: -1000000<= ((a.count c:Nat):Int)*(Aa b-1)/\ ((a.count c:Nat):Int)*(Aa b-1)<=2000000:=by
        have:Aa b=0\/Aa b=1\/Aa b=2\/Aa b=3:=F3
        rcases this with h|h|h|h<;>rw[h]<;>omega
      have hn: -((a.count c:Nat):Int)<= ((a.count c:Nat):Int)*(Aa b-1):=by
        have:Aa b=0\/Aa b=1\/Aa b=2\/Aa b=3:=F3
        rcases this with h|h|h|h<;>rw[h]<;>omega
      have em:Ch ((a.count c:Nat):Int) (Aa b-1)=((a.count c:Nat):Int)*(Aa b-1):=xT;have ea:Ae (Aa a) (((a.count c:Nat):Int)*(Aa b-1))=Aa a+((a.count c:Nat):Int)*(Aa b-1):=Gt;rw[hg,eb,em,ea];refine tw ?_ (H8 F3);refine ti (λ_=>?_) λh=>absurd h F4;exact Amv a b c _ hP Ap 0 0 [] ⟨I? _,F3,I? _,F3,by have:=Cu;omega,F3,by rw[lQ,List.drop_zero];omega,F7,by unfold Aa;simp⟩
theorem Amh(a f:LB)(c:UInt8)(hP:c=10/\Dp Nl f/\Aa f<=3/\Aa a<=1000000):T (Wz a [c] f) (λr=>Dp Nl r/\Aa r<=4000000):=
 tb (λh=>Aw6 a f c h) (λ_ h=>⟨_,rfl,λx hx e=>h.1 (by rw[hP.1,<-e];exact hx),by have:=h.2;omega⟩) ⟨λh=>hP.2.1 _ h hP.1,hP.2.2⟩
theorem Arw{b:List LB}(a:LB)(f:List LB):∀(q:Nat) (k:Int) (h:LB),0<=k/\k<= (Aa f)/\ (Aa f)<k+q/\ (Aa f)<=17179869184/\Dp (Ln zn) f/\Aa f<=40000000/\ (zn=21\/zn=50)/\Aa f+1=Aa b/\Aa a=1/\Dp Nl a/\ (zn=21/\Aa h<=21+22*k\/zn=50/\Aa h<=50+51*k)/\Dp Nl h->T (Tg a f q k h) (λr=>(zn=21/\Aa r<=22*Aa b\/zn=50/\Aa r<=51*Aa b)/\Dp Nl r):=
 ind (λk h hI=>by exfalso;(try simp only[Aa]at *);omega) λq ih k h hI=>ti (λ_=>tA (p:=Ln zn) λ_ _=>ta (ta (tj (ih _ _)))) λ_=>tw (ts)
theorem KF(b:List LB)(a:LB):∀(q:Nat) (g:Int) (m:Int),0<=m/\m<= (Aa b)/\ (Aa b)<m+q/\ (Aa b)<=17179869184/\Dp (Ln zn) b/\Aa b<=40000000/\ (zn=21\/zn=50)/\Aa a=1/\Dp Nl a/\2<=Aa b/\0<=g/\g<=40000000+50*m->T (Tw b a q g m) (λr=>(zn=21/\Aa r<=22*Aa b\/zn=50/\Aa r<=51*Aa b)/\Dp Nl r):=
 ind (λg m hI=>by exfalso;(try simp only[Aa]at *);omega) λq ih g m hI=>ti (λ_=>tA (p:=Ln zn) λ_ _=>ti (λ_=>tn) λ_=>tj (ih _ _)) λ_=>tw (tA (p:=Ln zn) λ_ _=>ta (tC (p:=Ln zn) λ_ _=>tj (Arw _ _ Ap _ _)))
theorem jR(b:List LB)(a:LB)(hP:Dp (Ln zn) b/\Aa b<=40000000/\ (zn=21\/zn=50)/\Aa a=1/\Dp Nl a):T (ID b a) (λr=>(zn=21/\Aa r<=22*Aa b\/zn=50/\Aa r<=51*Aa b)/\Dp Nl r):=
 tf (zqm (As (Aa b) 1)) λ_=>tf (zm1 (Aa a) (Aa b)) λ_=>ti (λ_=>ts) λ_=>ti (λ_=>tA (p:=Ln zn) λ_ _=>ts) λ_=>ti (λ_=>tw (ti (λ_=>tn) λ_=>tj (KF _ _ Ap _ _))) λ_=>tj (KF _ _ Ap _ _)
theorem Atd(a:LI):∀(q:Nat) (f:Int) (b:List LB),0<=f/\f<= (Aa a)/\ (Aa a)<f+q/\ (Aa a)<=17179869184/\Dp Gd a/\Aa a<=40000000/\Dp (Ln 21) b/\Aa b=f->T (Wc a q f b) (λr=>Aa r<=30+22*Aa a/\Dp Nl r):=
 ind (λf b hI=>by exfalso;(try simp only[Aa]at *);omega) λq ih f b hI=>ti (λ_=>tA (p:=Gd) λ_ _=>tb (Bw _) λ_ _=>ta (tj (ih _ _))) λ_=>tb (jR (zn:=21) _ _) λ_ _=>ts
theorem Ng(a:LI)(h:Int)(hP:0<=h/\h<=99/\Aa a<=40000000/\Dp Gd a):T (Ei a h) (λr=>Aa r<=30+22*Aa a/\Dp Nl r):=
 ti (λ_=>tb (Bf _) λ_ _=>ts) λ_=>tj (Atd _ Ap _ _)
end Go.Pl
set_option maxRecDepth 4000
set_option maxHeartbeats 400000
namespace Go.Pl
open Go Go.Lv
variable{go gz:LB}{XB:Nat}
theorem Vf(a:LB)(hP:True):T (Sg a) (λr=>0<=r.2.2.2.2.2.2.2.2.2.2.2.2/\r.2.2.2.2.2.2.2.2.2.2.2.2<=99/\PD r.1 r.2.1 r.2.2.1 r.2.2.2.1 r.2.2.2.2.1 r.2.2.2.2.2.1 r.2.2.2.2.2.2.1 r.2.2.2.2.2.2.2.1 r.2.2.2.2.2.2.2.2.1 r.2.2.2.2.2.2.2.2.2.1 r.2.2.2.2.2.2.2.2.2.2.1 r.2.2.2.2.2.2.2.2.2.2.2.1/\Aa r.2.1=0):=
 ti (λ_=>ts) λ_=>ts
theorem Vh(a:LB)(h:Aa a<=17179869184):Kk a=some a:=by
  unfold Kk Ax qF;unfold Aa at h;rw[B? F6];rfl
theorem Aiy(a:LI)(h:Aa a<=17179869184):Gl a=some a:=by
  unfold Gl Ax qF;unfold Aa at h;rw[B? F6];rfl
theorem Of(a b:LB)(f g h k m:Int)(n:LI)(o:Int)(p:LB)(u:Bool)(v:Int)(hP:Aa b<=100000/\Aa n<=1000/\Aa p<=12000000):Ek a b f g h k m n o p u v=some (a,b,f,g,h,k,m,n,o,p,u,v):=by
  unfold Ek;rw[Vh _ F3,CS,Vh _ F3,CS,Aiy _ F3,CS]
theorem DP(a f g h k:Int)(b:LB)(hP:True):T (Rw a f g h k b) (λr=>0<=r/\r<=99):=
 ti (λ_=>ts) λ_=>ts
theorem Au1(w:LI)(o p:LB)(h b f k m:Int)(g:LI)(a:Int)(n:LB)(u:Bool)(v:Int):∀(q:Nat) (y:Int) (aa:Int),0<=aa/\aa<= (Aa w)/\ (Aa w)<aa+q/\ (Aa w)<=17179869184/\Aa w<=1000->T (Wb w o p h b f k m g a n u v q y aa) (λ_=>True):=
 ind (λy aa hI=>by exfalso;(try simp only[Aa]at *);omega) λq ih y aa hI=>ti (λ_=>tg λ_=>tj (ih _ _)) λ_=>ts
theorem Ax7(o p:LB)(h b f k m:Int)(g:LI)(a:Int)(n:LB)(u:Bool)(v:Int)(hP:PD o p h b f k m g a n u v):T (HZ o p h b f k m g a n u v) (λ_=>True):=
 ti (λ_=>ts) λ_=>tb (Dc _ _ _ _ _) λ⟨_,_⟩ _=>ti (λ_=>ts) λ_=>tb (DP _ _ _ _ _ _) λ_ _=>ti (λ_=>ts) λ_=>ti (λ_=>ts) λ_=>tb (Vp _) λ_ _=>ti (λ_=>ts) λ_=>tc λ_ _=>tj (Au1 _ _ _ _ _ _ _ _ _ _ _ _ _ Ap _ _)
theorem Ba(a:Int)(hP:True):T (Ao a) (λr=>r.1=false/\r.2=a):=
 ts
theorem Ax2(a:LB):∀(q:Nat) (b:Int),0<=b/\b<=2/\2<b+q/\Aa a<=100000->T (Wi a q b) (λ_=>True):=
 ind (λb hI=>by exfalso;(try simp only[Aa]at *);omega) λq ih b hI=>ti (λ_=>tg λ_=>ti (λ_=>tb (HU _ _) λ_ _=>ti (λ_=>ts) λ_=>tj (ih _)) λ_=>tj (ih _)) λ_=>ts
theorem fX(a:LB)(hP:Aa a<=100000):T (Py a) (λ_=>True):=
 (by unfold Py GR bG;exact tj (Ax2 _ Ap _))
theorem aS(f a b g h:Int)(hP:True):T (EN f a b g h) (λ_=>True):=
 ts
theorem Ag8(a:LI)(b:Int):∀(q:Nat) (f:Int),0<=f/\f<= (Aa a)/\ (Aa a)<f+q/\ (Aa a)<=17179869184->T (Dt a b q f) (λ_=>True):=
 ind (λf hI=>by exfalso;(try simp only[Aa]at *);omega) λq ih f hI=>ti (λ_=>tg λ_=>ti (λ_=>ts) λ_=>tj (ih _)) λ_=>ts
theorem Ajv(a:LI)(b:Int)(hP:Aa a<=100):T (Em a b) (λ_=>True):=
 (by unfold Em Ft Ko;exact tj (Ag8 _ _ Ap _))
theorem Agp(a:LI)(b:Int)(hP:Aa a<=100):T (Fl a b) (λ_=>True):=
 tb (Ajv _ _) λ_ _=>ts
theorem Ab1(a:Int)(hP:True):T (Qs a) (λ_=>True):=
 tb (Agp _ _) λ_ _=>ts
theorem Cr(df:Bool)(hP:True):T (Ha df) (λr=>0<=r/\r<=99):=
 ti (λ_=>ts) λ_=>ts
theorem Hj(dg:Bool)(dh:Int)(hP:True):T (Rh dg dh) (λr=>0<=r/\r<=99):=
 tj (Cr _)
theorem Aq9(g ax:LB)(ay az ab ba af b:Int)(n:Bool)(o:Int)(f:LI)(k:LB)(hP:True):T (Zq g ax ay az ab ba af b n o f k) (λr=>0<=r/\r<=99):=
 tb (DP _ _ _ _ _ _) λ_ _=>tb (Ba _) λ⟨_,_⟩ _=>tj (Hj _ _)
theorem Fh(dk:Bool)(dl:Int)(hP:True):T (Mj dk dl) (λr=>0<=r/\r<=99):=
 tj (Cr _)
theorem HP(g a:LB)(h p m u v b:Int)(n:Bool)(o:Int)(f:LI)(k:LB)(de:Int)(hP:Aa a<=100000/\ (de=0\/de=8)/\de<=Aa a):T (Rs g a h p m u v b n o f k de) (λr=>0<=r/\r<=99):=
 tb (Dc _ _ _ _ _) λ⟨_,_⟩ _=>ti (λ_=>tb (Ba _) λ⟨_,_⟩ _=>tj (Fh _ _)) λ_=>tc λ_ _=>tb (BO _ _) λ⟨_,_⟩ _=>ti (λ_=>tj (Fh _ _)) λ_=>ti (λ_=>tb (Ba _) λ⟨_,_⟩ _=>tj (Fh _ _)) λ_=>tc λ_ _=>tj (Fh _ _)
theorem Hk(dt:Bool)(du:Int)(hP:True):T (Mi dt du) (λr=>0<=r/\r<=99):=
 tj (Cr _)
theorem Aq5(y:Int)(g a:LB)(h p m u v b:Int)(n:Bool)(o:Int)(bc:LX)(ag f:LI)(k:LB)(hP:Aa a<=100000/\0<=y/\y<=Aa a/\0<=b/\b<Aa ag/\Aa bc=16/\Aa k<=12000000):T (NR y g a h p m u v b n o bc ag f k) (λr=>0<=r/\r<=99):=
 tg λ_=>tc λ_ _=>tg λ_=>tb (aS _ _ _ _ _) λ⟨_,_⟩ _=>tb (Og _ _ _ _ _) λ⟨_,_⟩ _=>ti (λ_=>tb (Ba _) λ⟨_,_⟩ _=>tj (Hk _ _)) λ_=>tb (Qp _ _) λ⟨_,_⟩ _=>ti (λ_=>tb (Ba _) λ⟨_,_⟩ _=>tj (Hk _ _)) λ_=>ta (tc λ_ _=>tj (Hk _ _))
theorem GL(al am:LB)(an ao ap aq ar:Int)(au:LI)(ad:Int)(ae:LB)(aa:Bool)(w:Int)(hP:PD al am an ao ap aq ar au ad ae aa w):T (Qt al am an ao ap aq ar au ad ae aa w) (λr=>0<=r/\r<=99):=
 ti (λ_=>ts) λ_=>ti (λ_=>tQ (Of _ _ _ _ _ _ _ _ _ _ _ _) (tb (Ax7 _ _ _ _ _ _ _ _ _ _ _ _) λ_ _=>ti (λ_=>ti (λ_=>tb (Ql _) λ⟨_,_⟩ _=>ti (λ_=>tj (Hj _ _)) λ_=>ti (λ_=>tb (Ba _) λ⟨_,_⟩ _=>tj (Hj _ _)) λ_=>tc λ_ _=>tb (fX _) λ_ _=>ti (λ_=>tj (Hj _ _)) λ_=>tc λ_ _=>tb (Qk _) λ⟨_,_,_,_,_,_⟩ _=>ti (λ_=>tj (Hj _ _)) λ_=>ti (λ_=>tb (Ba _) λ⟨_,_⟩ _=>tj (Hj _ _)) λ_=>tc λ_ _=>tj (Aq9 _ _ _ _ _ _ _ _ _ _ _ _)) λ_=>ti (λ_=>ti (λ_=>ti (λ_=>tj (Fh _ _)) λ_=>tc λ_ _=>tb (BC _ _) λ⟨_,_⟩ _=>ti (λ_=>tb (Ba _) λ⟨_,_⟩ _=>tj (Fh _ _)) λ_=>ti (λ_=>tb (Ba _) λ⟨_,_⟩ _=>tj (Fh _ _)) λ_=>tj (HP _ _ _ _ _ _ _ _ _ _ _ _ _)) λ_=>tj (HP _ _ _ _ _ _ _ _ _ _ _ _ _)) λ_=>ti (λ_=>tA (p:=Rg 5 100000) λ_ _=>tA (p:=Rg 5 100000) λ_ _=>ti (λ_=>tj (Hk _ _)) λ_=>tb (Sp _) λ⟨_,_⟩ _=>ti (λ_=>tb (Ba _) λ⟨_,_⟩ _=>tj (Hk _ _)) λ_=>tb (Dc _ _ _ _ _) λ⟨_,_⟩ _=>ti (λ_=>tb (Ba _) λ⟨_,_⟩ _=>tj (Hk _ _)) λ_=>tj (Aq5 _ _ _ _ _ _ _ _ _ _ _ _ _ _ _)) λ_=>ti (λ_=>tb (Ba _) λ⟨_,_⟩ _=>tj (Cr _)) λ_=>(by unfold BI OX;exact tj (Cr _))) λ_=>tj (Cr _))) λ_=>ti (λ_=>ti (λ_=>ti (λ_=>tj (Cr _)) λ_=>ti (λ_=>tb (Ab1 _) λ_ _=>tj (Cr _)) λ_=>tj (Cr _)) λ_=>tj (Cr _)) λ_=>ti (λh=>absurd h F7) λ_=>tj (Cr _)
theorem aA(f g:LB)(h k m n o:Int)(p:LI)(u:Int)(v:LB)(b:Bool)(a:Int)(hP:PD f g h k m n o p u v b a):T (Qu f g h k m n o p u v b a) (λr=>0<=r.2.2.2.2.2.2.2.2.2.2.2.2/\r.2.2.2.2.2.2.2.2.2.2.2.2<=99/\PD r.1 r.2.1 r.2.2.1 r.2.2.2.1 r.2.2.2.2.1 r.2.2.2.2.2.1 r.2.2.2.2.2.2.1 r.2.2.2.2.2.2.2.1 r.2.2.2.2.2.2.2.2.1 r.2.2.2.2.2.2.2.2.2.1 r.2.2.2.2.2.2.2.2.2.2.1 r.2.2.2.2.2.2.2.2.2.2.2.1/\Aa r.2.1<=Aa g/\ (r.2.2.2.2.2.2.2.2.2.2.2.2=0->r.2.2.2.2.2.2.2.2.2.2.1=false/\r.2.2.2.2.2.2.2.2.2.2.2.1=0)):=
 tb (GL _ _ _ _ _ _ _ _ _ _ _ _) λ_ _=>ti (λ_=>ts) λ_=>ti (λ_=>tQ (Of _ _ _ _ _ _ _ _ _ _ _ _) (ts)) λ_=>ti (λ_=>tQ (Of _ _ _ _ _ _ _ _ _ _ _ _) (ts)) λ_=>tQ (Of _ _ _ _ _ _ _ _ _ _ _ _) (ts)
theorem iV(b g:LB)(h k m n o:Int)(p:LI)(u:Int)(f:LB)(v:Bool)(w a:Int)(hP:Aa b<=64/\Aa f<=12000000/\1<=a/\a<=99):T (IU b g h k m n o p u f v w a) (λr=>0<=r.2.2.2.2.2.2.2.2.2.2.2.2/\r.2.2.2.2.2.2.2.2.2.2.2.2<=99/\PD r.1 r.2.1 r.2.2.1 r.2.2.2.1 r.2.2.2.2.1 r.2.2.2.2.2.1 r.2.2.2.2.2.2.1 r.2.2.2.2.2.2.2.1 r.2.2.2.2.2.2.2.2.1 r.2.2.2.2.2.2.2.2.2.1 r.2.2.2.2.2.2.2.2.2.2.1 r.2.2.2.2.2.2.2.2.2.2.2.1/\Aa r.2.1=0):=
 ts
theorem Kz{Qc:LB->Int->Int->Int->Int->Int->Int->LI->LB->Ak}(a:LB)(b:Bool)(f:Int)(av:LB)(aw ax ay az ba bb:Int)(dy:Bool)(dk:Int)(bc:LI)(bd:LB)(hb:∀(g:LB) (m:Int) (o:Int) (n:Int) (p:Int) (u:Int) (h:Int) (k:LI) (v:LB),PD a g m o n p u k h v b f/\b=false/\f=0/\ (m=0-> (2500:Int)<XB)/\ (m≠0->Aa k=0-> (1500:Int)<XB)/\ (0:Int)<XB/\Aa k-h<XB/\Aa g<=Aa go+Aa gz->T (Qc g m o n p u h k v) (λr=>0<=r.2.2.2.2.2.2.2.2.2.2.2.2/\r.2.2.2.2.2.2.2.2.2.2.2.2<=99/\PD r.1 r.2.1 r.2.2.1 r.2.2.2.1 r.2.2.2.2.1 r.2.2.2.2.2.1 r.2.2.2.2.2.2.1 r.2.2.2.2.2.2.2.1 r.2.2.2.2.2.2.2.2.1 r.2.2.2.2.2.2.2.2.2.1 r.2.2.2.2.2.2.2.2.2.2.1 r.2.2.2.2.2.2.2.2.2.2.2.1/\Aa r.2.1<=Aa go+Aa gz))(hP:PD a av aw ax ay az ba bc bb bd b f/\b=false/\f=0/\Aa av<=Aa go+Aa gz/\0<=dk/\dk<=99/\ (dy=false->dk=0-> (aw=0-> (2500:Int)<XB)/\ (aw≠0->Aa bc=0-> (1500:Int)<XB)/\ (0:Int)<XB/\Aa bc-bb<XB)):T (Ie Qc a b f av aw ax ay az ba bb dy dk bc bd) (λr=>0<=r.2.2.2.2.2.2.2.2.2.2.2.2/\r.2.2.2.2.2.2.2.2.2.2.2.2<=99/\PD r.1 r.2.1 r.2.2.1 r.2.2.2.1 r.2.2.2.2.1 r.2.2.2.2.2.1 r.2.2.2.2.2.2.1 r.2.2.2.2.2.2.2.1 r.2.2.2.2.2.2.2.2.1 r.2.2.2.2.2.2.2.2.2.1 r.2.2.2.2.2.2.2.2.2.2.1 r.2.2.2.2.2.2.2.2.2.2.2.1/\Aa r.2.1<=Aa go+Aa gz):=
 ti (λ_=>tQ (Of _ _ _ _ _ _ _ _ _ _ _ _) (ts)) λ_=>ti (λ_=>tb (iV _ _ _ _ _ _ _ _ _ _ _ _ _) λ⟨_,_,_,_,_,_,_,_,_,_,_,_,_⟩ _=>ts) λ_=>tj (hb _ _ _ _ _ _ _ _ _)
theorem Hz{Qc:LB->Int->Int->Int->Int->Int->Int->LI->LB->Ak}(a:LB)(b:Bool)(f h:Int)(k:LI)(v:LB)(fv:Bool)(fw:Int)(fx:LB)(fy fz ga gb gc:Int)(hb:∀(g:LB) (m:Int) (o:Int) (n:Int) (p:Int) (u:Int) (h:Int) (k:LI) (v:LB),PD a g m o n p u k h v b f/\b=false/\f=0/\ (m=0-> (2500:Int)<XB)/\ (m≠0->Aa k=0-> (1500:Int)<XB)/\ (0:Int)<XB/\Aa k-h<XB/\Aa g<=Aa go+Aa gz->T (Qc g m o n p u h k v) (λr=>0<=r.2.2.2.2.2.2.2.2.2.2.2.2/\r.2.2.2.2.2.2.2.2.2.2.2.2<=99/\PD r.1 r.2.1 r.2.2.1 r.2.2.2.1 r.2.2.2.2.1 r.2.2.2.2.2.1 r.2.2.2.2.2.2.1 r.2.2.2.2.2.2.2.1 r.2.2.2.2.2.2.2.2.1 r.2.2.2.2.2.2.2.2.2.1 r.2.2.2.2.2.2.2.2.2.2.1 r.2.2.2.2.2.2.2.2.2.2.2.1/\Aa r.2.1<=Aa go+Aa gz))(hP:PD a fx fy fz ga gb gc k h v b f/\b=false/\f=0/\Aa fx<=Aa go+Aa gz/\0<=fw/\fw<=99/\ (fv=false->fw=0-> (fy=0-> (2500:Int)<XB)/\ (fy≠0->Aa k=0-> (1500:Int)<XB)/\ (0:Int)<XB/\Aa k-h<XB)):T (Tv Qc a b f h k v fv fw fx fy fz ga gb gc) (λr=>0<=r.2.2.2.2.2.2.2.2.2.2.2.2/\r.2.2.2.2.2.2.2.2.2.2.2.2<=99/\PD r.1 r.2.1 r.2.2.1 r.2.2.2.1 r.2.2.2.2.1 r.2.2.2.2.2.1 r.2.2.2.2.2.2.1 r.2.2.2.2.2.2.2.1 r.2.2.2.2.2.2.2.2.1 r.2.2.2.2.2.2.2.2.2.1 r.2.2.2.2.2.2.2.2.2.2.1 r.2.2.2.2.2.2.2.2.2.2.2.1/\Aa r.2.1<=Aa go+Aa gz):=
 tj (Kz _ _ _ _ _ _ _ _ _ _ _ _ _ _ hb)
theorem Ga{Qc:LB->Int->Int->Int->Int->Int->Int->LI->LB->Ak}(a:LB)(b:Bool)(f m o n p u h:Int)(v:LB)(bf:Bool)(bg:Int)(bh:LB)(bi:LI)(hb:∀(g:LB) (m:Int) (o:Int) (n:Int) (p:Int) (u:Int) (h:Int) (k:LI) (v:LB),PD a g m o n p u k h v b f/\b=false/\f=0/\ (m=0-> (2500:Int)<XB)/\ (m≠0->Aa k=0-> (1500:Int)<XB)/\ (0:Int)<XB/\Aa k-h<XB/\Aa g<=Aa go+Aa gz->T (Qc g m o n p u h k v) (λr=>0<=r.2.2.2.2.2.2.2.2.2.2.2.2/\r.2.2.2.2.2.2.2.2.2.2.2.2<=99/\PD r.1 r.2.1 r.2.2.1 r.2.2.2.1 r.2.2.2.2.1 r.2.2.2.2.2.1 r.2.2.2.2.2.2.1 r.2.2.2.2.2.2.2.1 r.2.2.2.2.2.2.2.2.1 r.2.2.2.2.2.2.2.2.2.1 r.2.2.2.2.2.2.2.2.2.2.1 r.2.2.2.2.2.2.2.2.2.2.2.1/\Aa r.2.1<=Aa go+Aa gz))(hP:PD a bh m o n p u bi h v b f/\b=false/\f=0/\Aa bh<=Aa go+Aa gz/\0<=bg/\bg<=99/\ (bf=false->bg=0-> (m=0-> (2500:Int)<XB)/\ (m≠0->Aa bi=0-> (1500:Int)<XB)/\ (0:Int)<XB/\Aa bi-h<XB)):T (Nx Qc a b f m o n p u h v bf bg bh bi) (λr=>0<=r.2.2.2.2.2.2.2.2.2.2.2.2/\r.2.2.2.2.2.2.2.2.2.2.2.2<=99/\PD r.1 r.2.1 r.2.2.1 r.2.2.2.1 r.2.2.2.2.1 r.2.2.2.2.2.1 r.2.2.2.2.2.2.1 r.2.2.2.2.2.2.2.1 r.2.2.2.2.2.2.2.2.1 r.2.2.2.2.2.2.2.2.2.1 r.2.2.2.2.2.2.2.2.2.2.1 r.2.2.2.2.2.2.2.2.2.2.2.1/\Aa r.2.1<=Aa go+Aa gz):=
 tj (Kz _ _ _ _ _ _ _ _ _ _ _ _ _ _ hb)
theorem MJ{Qc:LB->Int->Int->Int->Int->Int->Int->LI->LB->Ak}(a:LB)(b:Bool)(f:Int)(g:LB)(m o n p u h:Int)(k:LI)(v:LB)(dl:Int)(hb:∀(g:LB) (m:Int) (o:Int) (n:Int) (p:Int) (u:Int) (h:Int) (k:LI) (v:LB),PD a g m o n p u k h v b f/\b=false/\f=0/\ (m=0-> (2500:Int)<XB)/\ (m≠0->Aa k=0-> (1500:Int)<XB)/\ (0:Int)<XB/\Aa k-h<XB/\Aa g<=Aa go+Aa gz->T (Qc g m o n p u h k v) (λr=>0<=r.2.2.2.2.2.2.2.2.2.2.2.2/\r.2.2.2.2.2.2.2.2.2.2.2.2<=99/\PD r.1 r.2.1 r.2.2.1 r.2.2.2.1 r.2.2.2.2.1 r.2.2.2.2.2.1 r.2.2.2.2.2.2.1 r.2.2.2.2.2.2.2.1 r.2.2.2.2.2.2.2.2.1 r.2.2.2.2.2.2.2.2.2.1 r.2.2.2.2.2.2.2.2.2.2.1 r.2.2.2.2.2.2.2.2.2.2.2.1/\Aa r.2.1<=Aa go+Aa gz))(hP:PD a g m o n p u k h v b f/\b=false/\f=0/\Aa g<=Aa go+Aa gz/\m≠0/\Aa k=0/\ (dl=0\/dl=8)/\dl<=Aa g/\ (1500:Int)<=XB):T (EE Qc a b f g m o n p u h k v dl) (λr=>0<=r.2.2.2.2.2.2.2.2.2.2.2.2/\r.2.2.2.2.2.2.2.2.2.2.2.2<=99/\PD r.1 r.2.1 r.2.2.1 r.2.2.2.1 r.2.2.2.2.1 r.2.2.2.2.2.1 r.2.2.2.2.2.2.1 r.2.2.2.2.2.2.2.1 r.2.2.2.2.2.2.2.2.1 r.2.2.2.2.2.2.2.2.2.1 r.2.2.2.2.2.2.2.2.2.2.1 r.2.2.2.2.2.2.2.2.2.2.2.1/\Aa r.2.1<=Aa go+Aa gz):=
 tb (Dc _ _ _ _ _) λ⟨_,_⟩ _=>ti (λ_=>tb (Ba _) λ⟨_,_⟩ _=>tj (Ga _ _ _ _ _ _ _ _ _ _ _ _ _ _ hb)) λ_=>tc λ_ _=>tb (BO _ _) λ⟨_,_⟩ _=>ti (λ_=>tj (Ga _ _ _ _ _ _ _ _ _ _ _ _ _ _ hb)) λ_=>ti (λ_=>tb (Ba _) λ⟨_,_⟩ _=>tj (Ga _ _ _ _ _ _ _ _ _ _ _ _ _ _ hb)) λ_=>tc λ_ _=>tj (Ga _ _ _ _ _ _ _ _ _ _ _ _ _ _ hb)
theorem Ii{Qc:LB->Int->Int->Int->Int->Int->Int->LI->LB->Ak}(a:LB)(b:Bool)(f m o n p u:Int)(k:LI)(bl:Bool)(bm:Int)(bn:LB)(bp:Int)(bq:LB)(hb:∀(g:LB) (m:Int) (o:Int) (n:Int) (p:Int) (u:Int) (h:Int) (k:LI) (v:LB),PD a g m o n p u k h v b f/\b=false/\f=0/\ (m=0-> (2500:Int)<XB)/\ (m≠0->Aa k=0-> (1500:Int)<XB)/\ (0:Int)<XB/\Aa k-h<XB/\Aa g<=Aa go+Aa gz->T (Qc g m o n p u h k v) (λr=>0<=r.2.2.2.2.2.2.2.2.2.2.2.2/\r.2.2.2.2.2.2.2.2.2.2.2.2<=99/\PD r.1 r.2.1 r.2.2.1 r.2.2.2.1 r.2.2.2.2.1 r.2.2.2.2.2.1 r.2.2.2.2.2.2.1 r.2.2.2.2.2.2.2.1 r.2.2.2.2.2.2.2.2.1 r.2.2.2.2.2.2.2.2.2.1 r.2.2.2.2.2.2.2.2.2.2.1 r.2.2.2.2.2.2.2.2.2.2.2.1/\Aa r.2.1<=Aa go+Aa gz))(hP:PD a bn m o n p u k bp bq b f/\b=false/\f=0/\Aa bn<=Aa go+Aa gz/\0<=bm/\bm<=99/\ (bl=false->bm=0-> (m=0-> (2500:Int)<XB)/\ (m≠0->Aa k=0-> (1500:Int)<XB)/\ (0:Int)<XB/\Aa k-bp<XB)):T (Tu Qc a b f m o n p u k bl bm bn bp bq) (λr=>0<=r.2.2.2.2.2.2.2.2.2.2.2.2/\r.2.2.2.2.2.2.2.2.2.2.2.2<=99/\PD r.1 r.2.1 r.2.2.1 r.2.2.2.1 r.2.2.2.2.1 r.2.2.2.2.2.1 r.2.2.2.2.2.2.1 r.2.2.2.2.2.2.2.1 r.2.2.2.2.2.2.2.2.1 r.2.2.2.2.2.2.2.2.2.1 r.2.2.2.2.2.2.2.2.2.2.1 r.2.2.2.2.2.2.2.2.2.2.2.1/\Aa r.2.1<=Aa go+Aa gz):=
 tj (Kz _ _ _ _ _ _ _ _ _ _ _ _ _ _ hb)
theorem Are(a:LB)(b:Bool)(f:Int):∀(q:Nat) (g:LB) (m:Int) (o:Int) (n:Int) (p:Int) (u:Int) (h:Int) (k:LI) (v:LB),PD a g m o n p u k h v b f/\b=false/\f=0/\ (m=0-> (2500:Int)<q)/\ (m≠0->Aa k=0-> (1500:Int)<q)/\ (0:Int)<q/\Aa k-h<q/\Aa g<=Aa go+Aa gz->T (Dd a b f q g m o n p u h k v) (λr=>0<=r.2.2.2.2.2.2.2.2.2.2.2.2/\r.2.2.2.2.2.2.2.2.2.2.2.2<=99/\PD r.1 r.2.1 r.2.2.1 r.2.2.2.1 r.2.2.2.2.1 r.2.2.2.2.2.1 r.2.2.2.2.2.2.1 r.2.2.2.2.2.2.2.1 r.2.2.2.2.2.2.2.2.1 r.2.2.2.2.2.2.2.2.2.1 r.2.2.2.2.2.2.2.2.2.2.1 r.2.2.2.2.2.2.2.2.2.2.2.1/\Aa r.2.1<=Aa go+Aa gz):=
 ind (λg m o n p u h k v hI=>by exfalso;(try simp only[Aa]at *);omega) λq ih g m o n p u h k v hI=>ti (λ_=>tb (Ql _) λ⟨_,_⟩ _=>ti (λ_=>tj (Hz _ _ _ _ _ _ _ _ _ _ _ _ _ _ ih)) λ_=>ti (λ_=>tb (Ba _) λ⟨_,_⟩ _=>tj (Hz _ _ _ _ _ _ _ _ _ _ _ _ _ _ ih)) λ_=>tc λ_ _=>tb (fX _) λ_ _=>ti (λ_=>tj (Hz _ _ _ _ _ _ _ _ _ _ _ _ _ _ ih)) λ_=>tc λ_ _=>tb (Qk _) λ⟨_,_,_,_,_,_⟩ _=>ti (λ_=>tj (Hz _ _ _ _ _ _ _ _ _ _ _ _ _ _ ih)) λ_=>ti (λ_=>tb (Ba _) λ⟨_,_⟩ _=>tj (Hz _ _ _ _ _ _ _ _ _ _ _ _ _ _ ih)) λ_=>tc λ_ _=>tb (DP _ _ _ _ _ _) λ_ _=>tb (Ba _) λ⟨_,_⟩ _=>tj (Hz _ _ _ _ _ _ _ _ _ _ _ _ _ _ ih)) λ_=>ti (λ_=>ti (λ_=>ti (λ_=>tj (Ga _ _ _ _ _ _ _ _ _ _ _ _ _ _ ih)) λ_=>tc λ_ _=>tb (BC _ _) λ⟨_,_⟩ _=>ti (λ_=>tb (Ba _) λ⟨_,_⟩ _=>tj (Ga _ _ _ _ _ _ _ _ _ _ _ _ _ _ ih)) λ_=>ti (λ_=>tb (Ba _) λ⟨_,_⟩ _=>tj (Ga _ _ _ _ _ _ _ _ _ _ _ _ _ _ ih)) λ_=>tj (MJ _ _ _ _ _ _ _ _ _ _ _ _ _ ih)) λ_=>tj (MJ _ _ _ _ _ _ _ _ _ _ _ _ _ ih)) λ_=>ti (λ_=>tA (p:=Rg 5 100000) λ_ _=>tA (p:=Rg 5 100000) λ_ _=>ti (λ_=>tj (Ii _ _ _ _ _ _ _ _ _ _ _ _ _ _ ih)) λ_=>tb (Sp _) λ⟨_,_⟩ _=>ti (λ_=>tb (Ba _) λ⟨_,_⟩ _=>tj (Ii _ _ _ _ _ _ _ _ _ _ _ _ _ _ ih)) λ_=>tb (Dc _ _ _ _ _) λ⟨_,_⟩ _=>ti (λ_=>tb (Ba _) λ⟨_,_⟩ _=>tj (Ii _ _ _ _ _ _ _ _ _ _ _ _ _ _ ih)) λ_=>tg λ_=>tc λ_ _=>tg λ_=>tb (aS _ _ _ _ _) λ⟨_,_⟩ _=>tb (Og _ _ _ _ _) λ⟨_,_⟩ _=>ti (λ_=>tb (Ba _) λ⟨_,_⟩ _=>tj (Ii _ _ _ _ _ _ _ _ _ _ _ _ _ _ ih)) λ_=>tb (Qp _ _) λ⟨_,_⟩ _=>ti (λ_=>tb (Ba _) λ⟨_,_⟩ _=>tj (Ii _ _ _ _ _ _ _ _ _ _ _ _ _ _ ih)) λ_=>ta (tc λ_ _=>tj (Ii _ _ _ _ _ _ _ _ _ _ _ _ _ _ ih))) λ_=>ti (λ_=>tb (Ba _) λ⟨_,_⟩ _=>tj (Kz _ _ _ _ _ _ _ _ _ _ _ _ _ _ ih)) λ_=>(by unfold DV WI;exact tj (Kz _ _ _ _ _ _ _ _ _ _ _ _ _ _ ih))
theorem AD(gn go:LB)(gp gq gr gs gt:Int)(gu:LI)(gv:Int)(gw:LB)(gx:Bool)(gy:Int)(gz:LB)(hP:PD gn go gp gq gr gs gt gu gv gw gx gy/\Aa go+Aa gz<=100000):T (Hc gn go gp gq gr gs gt gu gv gw gx gy gz) (λr=>0<=r.2.2.2.2.2.2.2.2.2.2.2.2/\r.2.2.2.2.2.2.2.2.2.2.2.2<=99/\PD r.1 r.2.1 r.2.2.1 r.2.2.2.1 r.2.2.2.2.1 r.2.2.2.2.2.1 r.2.2.2.2.2.2.1 r.2.2.2.2.2.2.2.1 r.2.2.2.2.2.2.2.2.1 r.2.2.2.2.2.2.2.2.2.1 r.2.2.2.2.2.2.2.2.2.2.1 r.2.2.2.2.2.2.2.2.2.2.2.1/\Aa r.2.1<=Aa go+Aa gz):=
 tb (aA _ _ _ _ _ _ _ _ _ _ _ _) λ⟨_,_,_,_,_,_,_,_,_,_,_,_,_⟩ _=>ti (λ_=>ts) λ_=>ta (tj (Are _ _ _ Ap _ _ _ _ _ _ _ _ _))
theorem Axc(p a:LB)(g u v w y:Int)(b:LI)(h:Int)(aa:LB)(ab:Bool)(ac:Int)(hP:Aa a<=100000):T (JW p a g u v w y b h aa ab ac) (λr=>0<=r/\r<=99):=
 ti (λ_=>tb (Ql _) λ⟨_,_⟩ _=>ti (λ_=>ts) λ_=>tc λ_ _=>tb (Qk _) λ⟨_,_,_,_,_,_⟩ _=>ts) λ_=>ti (λ_=>ts) λ_=>tb (MG _) λ⟨_,_⟩ _=>ts
theorem Tp(aa ab:LB)(ac ad ae af ag:Int)(ah:LI)(ai:Int)(aj:LB)(ak:Bool)(al:Int)(hP:PD aa ab ac ad ae af ag ah ai aj ak al):T (Lf aa ab ac ad ae af ag ah ai aj ak al) (λr=>0<=r.2.2.2.2.2.2.2.2.2.2.2.2/\r.2.2.2.2.2.2.2.2.2.2.2.2<=99/\PD r.1 r.2.1 r.2.2.1 r.2.2.2.1 r.2.2.2.2.1 r.2.2.2.2.2.1 r.2.2.2.2.2.2.1 r.2.2.2.2.2.2.2.1 r.2.2.2.2.2.2.2.2.1 r.2.2.2.2.2.2.2.2.2.1 r.2.2.2.2.2.2.2.2.2.2.1 r.2.2.2.2.2.2.2.2.2.2.2.1/\Aa r.2.1<=Aa ab):=
 tb (aA _ _ _ _ _ _ _ _ _ _ _ _) λ⟨_,_,_,_,_,_,_,_,_,_,_,_,_⟩ _=>ti (λ_=>ts) λ_=>tb (Axc _ _ _ _ _ _ _ _ _ _ _ _) λ_ _=>ti (λ_=>tb (iV _ _ _ _ _ _ _ _ _ _ _ _ _) λ⟨_,_,_,_,_,_,_,_,_,_,_,_,_⟩ _=>ts) λ_=>ts
end Go.Pl
set_option maxRecDepth 4000
set_option maxHeartbeats 400000
namespace Go.Pl
open Go Go.Lv
theorem Apg{N16:Nat}{Fj:Int->LX->By}(a:Int)(b:LB)(f:Int)(g:LX)(hb:∀(f:Int) (g:LX),0<=f/\f<= (Aa b)/\ (Aa b)<f+N16/\ (Aa b)<=17179869184/\Aa b<=12000000/\Aa g<=f/\ (a=8\/a=16/\Aa b %2=0/\f %2=0\/a=24/\Aa b %3=0/\f %3=0)->T (Fj f g) (λr=>0<=r.2/\r.2<=99/\Aa r.1<=Aa b)):∀(q:Nat) (k:Int32) (h:Int),0<=h/\h<= (Ey a 8)/\ (Ey a 8)<h+q/\ (Ey a 8)<=17179869184/\0<=f/\f<= (Aa b)/\ (Aa b)<f+(N16+1)/\ (Aa b)<=17179869184/\Aa b<=12000000/\Aa g<=f/\ (a=8\/a=16/\Aa b %2=0/\f %2=0\/a=24/\Aa b %3=0/\f %3=0)/\f<(Aa b)->T (Rq Fj a b f g q k h) (λr=>0<=r.2/\r.2<=99/\Aa r.1<=Aa b):=
 ind (λk h hI=>by exfalso;(try simp only[Aa]at *);omega) λq ih k h hI=>ti (λ_=>tg λ_=>tw (tj (ih _ _))) λ_=>tw (tw (ta (tj (hb _ _))))
theorem Aol(a:Int)(b:LB):∀(q:Nat) (f:Int) (g:LX),0<=f/\f<= (Aa b)/\ (Aa b)<f+q/\ (Aa b)<=17179869184/\Aa b<=12000000/\Aa g<=f/\ (a=8\/a=16/\Aa b %2=0/\f %2=0\/a=24/\Aa b %3=0/\f %3=0)->T (Mn a b q f g) (λr=>0<=r.2/\r.2<=99/\Aa r.1<=Aa b):=
 ind (λf g hI=>by exfalso;(try simp only[Aa]at *);omega) λq ih f g hI=>ti (λ_=>ti (λ_=>tg λ_=>ta (tj (ih _ _))) λ_=>tj (Apg _ _ _ _ ih Ap _ _)) λ_=>ts
theorem Wn(a:Int)(b:LB)(hP:Aa b<=12000000):T (Qm a b) (λr=>0<=r.2/\r.2<=99/\Aa r.1<=Aa b):=
 tf (zws a (Aa b)) λ_=>tb (QC _) λ⟨_,_,_⟩ _=>ti (λ_=>ts) λ_=>tw (ti (λ_=>ts) λ_=>tw (ti (λ_=>ts) λ_=>tj (Aol _ _ Ap _ _)))
theorem UI(p u:LB)(hP:Aa p<=100000):T (Sk p u) (λr=>0<=r.2.2.2.2/\r.2.2.2.2<=99/\Aa r.2.2.2.1<=12000000):=
 tb (Vf _) λ⟨_,_,_,_,_,_,_,_,_,_,_,_,_⟩ _=>ti (λ_=>ts) λ_=>tb (AD _ _ _ _ _ _ _ _ _ _ _ _ _) λ⟨_,_,_,_,_,_,_,_,_,_,_,_,_⟩ _=>ti (λ_=>ts) λ_=>tb (Tp _ _ _ _ _ _ _ _ _ _ _ _) λ⟨_,_,_,_,_,_,_,_,_,_,_,_,_⟩ _=>ti (λ_=>ts) λ_=>ti (λ_=>ts) λ_=>tb (Wn _ _) λ⟨_,_⟩ _=>ti (λ_=>ts) λ_=>ts
theorem Ams(a:Int)(b:LX):∀(q:Nat) (g:Int) (f:LI),0<=g/\g<= (Aa b)/\ (Aa b)<g+q/\ (Aa b)<=17179869184/\0<=a/\a<=99/\Aa b<=40000000/\Aa f=g/\Dp Gd f->T (Pv a b q g f) (λr=>Aa r<=30+22*Aa b/\Dp Nl r):=
 ind (λg f hI=>by exfalso;(try simp only[Aa]at *);omega) λq ih g f hI=>ti (λ_=>tg λ_=>ta (tj (ih _ _))) λ_=>tb (Ng _ _) λ_ _=>ts
theorem AP(n o p:Int)(b:LX)(a:Int)(hP:0<=a/\a<=99/\Aa b<=40000000):T (Fy n o p b a) (λr=>Aa r<=30+22*Aa b/\Dp Nl r):=
 (by unfold Fy Xl MO;exact tj (Ams _ _ Ap _ _))
theorem Ua(ab:Int)(af:LI)(hP:0<=ab/\ab<=99/\Aa af<=1000/\Dp Gd af):T (Lg ab af) (λr=>0<=r.2/\r.2<=99/\Aa r.1<=1000/\Dp Gd r.1):=
 ti (λ_=>ts) λ_=>ts
theorem Azo(a b:LB)(g:LI)(h k f m n o:Int)(p:LI):∀(q:Nat) (u:Int) (v:LI),0<=u/\u<= (Aa g)/\ (Aa g)<u+q/\ (Aa g)<=17179869184/\Aa g<=1000/\Aa v<=u/\Dp Gd v->T (AH a b g h k f m n o p q u v) (λr=>0<=r.2/\r.2<=99/\Aa r.1<=1000/\Dp Gd r.1):=
 ind (λu v hI=>by exfalso;(try simp only[Aa]at *);omega) λq ih u v hI=>ti (λ_=>tg λ_=>tg λ_=>tb (Zw _ _ _) λ⟨_,_⟩ _=>ti (λ_=>tb (Wn _ _) λ⟨_,_⟩ _=>ti (λ_=>tj (Ua _ _)) λ_=>(by unfold CD KO;exact ti (λ_=>ta ((by unfold Sn Se;exact ti (λh=>absurd h F4) λ_=>(by unfold Sy Rt;exact tj (ih _ _))))) λ_=>(by unfold Sn Se;exact ti (λh=>absurd h F4) λ_=>(by unfold Sy Rt;exact tj (ih _ _))))) λ_=>(by unfold CD KO;exact ti (λ_=>ta ((by unfold Sn Se;exact ti (λh=>absurd h F4) λ_=>(by unfold Sy Rt;exact tj (ih _ _))))) λ_=>(by unfold Sn Se;exact ti (λh=>absurd h F4) λ_=>(by unfold Sy Rt;exact tj (ih _ _))))) λ_=>(by unfold LG gH;exact tj (Ua _ _))
theorem Ady (a b:LB)(hP:True):T (ZC a b) (λr=>0<=r.2/\r.2<=99/\Aa r.1<=1000/\Dp Gd r.1):=
 tb (Iu _ _) λ⟨_,_,_,_,_,_,_,_⟩ _=>ti (λ_=>tj (Ua _ _)) λ_=>tb (Dc _ _ _ _ _) λ⟨_,_⟩ _=>ti (λ_=>tj (Ua _ _)) λ_=>tj (Azo _ _ _ _ _ _ _ _ _ _ Ap _ _)
theorem Aae(a g b:Int)(hP:True):T (QF a g b) (λr=>0<=r/\r<=99/\ (r=0->1<=a/\a<=6/\1<=b/\b<=4000)):=
 tf (zq4 a) λ_=>tb (Qg _ _) λ_ _=>ti (λ_=>ts) λ_=>ti (λ_=>ts) λ_=>tw (ti (λ_=>ts) λ_=>ts)
theorem NL(a g b:Int)(hP:True):T (GM a g b) (λr=>0<=r.2/\r.2<=99/\Aa r.1<=24000):=
 tf (λ(_:True)=> @zfa b a) λ_=>tb (Aae _ _ _) λ_ _=>ti (λ_=>ts) λ_=>tk λ_ _=>tw (ts)
theorem Jt(a b f ah:Int)(ai:LI)(ag:LX)(hP:0<=ah/\ah<=99/\Aa ag<=36000000):T (Jg a b f ah ai ag) (λr=>0<=r.2.2.2.2.2/\r.2.2.2.2.2<=99/\Aa r.2.2.2.1<=36000000):=
 ti (λ_=>ts) λ_=>ti (λ_=>ts) λ_=>ts
theorem Ef{N21:Nat}{IW:Int->LI->LX->Ay}(g h:LB)(o:LI)(m k a b f p u n v w y:Int)(aa:LI)(ab ao:Int)(am:LI)(an:LX)(hb:∀(ab:Int) (ad:LI) (ac:LX),0<=ab/\ab<= (Aa o)/\ (Aa o)<ab+N21/\ (Aa o)<=17179869184/\Aa o<=1000/\Aa ad<=ab/\Aa ac<=36000*ab->T (IW ab ad ac) (λr=>0<=r.2.2.2.2.2/\r.2.2.2.2.2<=99/\Aa r.2.2.2.1<=36000000))(hP:0<=ab/\ab<Aa o/\Aa o<ab+(N21+1)/\Aa o<=1000/\Aa am<=ab+1/\Aa an<=36000*(ab+1)/\0<=ao/\ao<=99):T (Rk IW g h o m k a b f p u n v w y aa ab ao am an) (λr=>0<=r.2.2.2.2.2/\r.2.2.2.2.2<=99/\Aa r.2.2.2.1<=36000000):=
 ti (λ_=>tj (Jt _ _ _ _ _ _)) λ_=>(by unfold Mo OI;exact tj (hb _ _ _))
theorem Aoz(g h:LB)(o:LI)(m k a b f p u n v w y:Int)(aa:LI):∀(q:Nat) (ab:Int) (ad:LI) (ac:LX),0<=ab/\ab<= (Aa o)/\ (Aa o)<ab+q/\ (Aa o)<=17179869184/\Aa o<=1000/\Aa ad<=ab/\Aa ac<=36000*ab->T (Rp g h o m k a b f p u n v w y aa q ab ad ac) (λr=>0<=r.2.2.2.2.2/\r.2.2.2.2.2<=99/\Aa r.2.2.2.1<=36000000):=
 ind (λab ad ac hI=>by exfalso;(try simp only[Aa]at *);omega) λq ih ab ad ac hI=>ti (λ_=>tg λ_=>tg λ_=>tb (Zw _ _ _) λ⟨_,_⟩ _=>ti (λ_=>tb (Wn _ _) λ⟨_,_⟩ _=>ti (λ_=>tj (Jt _ _ _ _ _ _)) λ_=>ti (λ_=>ta (ti (λ_=>tb (NL _ _ _) λ⟨_,_⟩ _=>ti (λ_=>tj (Ef _ _ _ _ _ _ _ _ _ _ _ _ _ _ _ _ _ _ _ ih)) λ_=>ta (tj (Ef _ _ _ _ _ _ _ _ _ _ _ _ _ _ _ _ _ _ _ ih))) λ_=>ta (tj (Ef _ _ _ _ _ _ _ _ _ _ _ _ _ _ _ _ _ _ _ ih)))) λ_=>ta (tj (Ef _ _ _ _ _ _ _ _ _ _ _ _ _ _ _ _ _ _ _ ih))) λ_=>ti (λ_=>ta (ti (λ_=>tb (NL _ _ _) λ⟨_,_⟩ _=>ti (λ_=>tj (Ef _ _ _ _ _ _ _ _ _ _ _ _ _ _ _ _ _ _ _ ih)) λ_=>ta (tj (Ef _ _ _ _ _ _ _ _ _ _ _ _ _ _ _ _ _ _ _ ih))) λ_=>ta (tj (Ef _ _ _ _ _ _ _ _ _ _ _ _ _ _ _ _ _ _ _ ih)))) λ_=>ta (tj (Ef _ _ _ _ _ _ _ _ _ _ _ _ _ _ _ _ _ _ _ ih))) λ_=>(by unfold NP CQ;exact tj (Jt _ _ _ _ _ _))
theorem bF(g h:LB)(k:Int)(hP:True):T (Qv g h k) (λr=>0<=r.2.2.2.2.2/\r.2.2.2.2.2<=99/\Aa r.2.2.2.1<=36000000):=
 ti (λ_=>ts) λ_=>ti (λ_=>tb (rD _ _) λ⟨_,_,_,_,_⟩ _=>ts) λ_=>tb (Iu _ _) λ⟨_,_,_,_,_,_,_,_⟩ _=>ti (λ_=>ts) λ_=>tb (Iu _ _) λ⟨_,_,_,_,_,_,_,_⟩ _=>ti (λ_=>tj (Jt _ _ _ _ _ _)) λ_=>tb (Dc _ _ _ _ _) λ⟨_,_⟩ _=>ti (λ_=>tj (Jt _ _ _ _ _ _)) λ_=>tj (Aoz _ _ _ _ _ _ _ _ _ _ _ _ _ _ _ Ap _ _ _)
theorem yN(a b f:Int)(g:LX)(hP:True):T (nU a b f g) (λ_=>True):=
 ts
theorem yJ(a g f:Int)(h:LX)(b:Int)(hP:1<=a):T (vW a g f h b) (λr=>0<=r/\r<=99):=
 tb (yN _ _ _ _) λ⟨_,_⟩ _=>tb (Qg _ _) λ_ _=>ti (λ_=>ts) λ_=>tw (ti (λ_=>ts) λ_=>tb (Vy _ _) λ⟨_,_⟩ _=>ti (λ_=>ts) λ_=>ts)
theorem tK(a f h:Int)(b:LX)(hP:True):T (XT a f h b) (λr=>0<=r/\r<=99):=
 ti (λ_=>ts) λ_=>tw (ti (λ_=>ts) λ_=>tw (tb (yJ _ _ _ _ _) λ_ _=>ti (λ_=>ts) λ_=>tb (Vr _ _) λ_ _=>ti (λ_=>ts) λ_=>ts))
theorem Ayn(b a f:Int)(hP:True):T (MY b a f) (λr=>0<=r/\r<=99/\ (r=0->1<=b/\b<=6)):=
 ti (λ_=>ts) λ_=>ti (λ_=>ti (λ_=>ts) λ_=>ts) λ_=>ti (λ_=>ti (λ_=>ts) λ_=>ts) λ_=>ti (λ_=>ts) λ_=>ts
theorem Aas(a b g:Int)(hP:True):T (QV a b g) (λr=>0<=r.2/\r.2<=99/\ (r.2=0->1<=a/\a<=6)):=
 tb (Ayn _ _ _) λ_ _=>ti (λ_=>ts) λ_=>ts
theorem KK(a:Bool)(h:Int)(f:LQ):∀(q:Nat) (g:Int) (b:LB),0<=g/\g<=h/\h<g+q/\h<=17179869184/\h<=9/\Aa f=9/\Aa b<=8*g->T (Tq a h f q g b) (λr=>Aa r<=100):=
 ind (λg b hI=>by exfalso;(try simp only[Aa]at *);omega) λq ih g b hI=>ti (λ_=>tg λ_=>tg λ_=>tg λ_=>tb (Pz _ _) λ⟨_,_⟩ _=>ta (tj (ih _ _))) λ_=>ti (λ_=>tc λ_ _=>ta (ts)) λ_=>ts
theorem Acy(m k n:Int)(a:Bool)(o:UInt64)(hP:True):T (RB m k n a o) (λr=>Aa r<=100):=
 ti (λ_=>tg λ_=>te (λ_ _=>(by unfold EC Tz;exact tj (KK _ _ _ Ap _ _)))) λ_=>(by unfold EC Tz;exact tj (KK _ _ _ Ap _ _))
theorem Axn(a b f:Int)(hP:True):T (MZ a b f) (λr=>0<=r.2/\r.2<=99/\Aa r.1<=100):=
 tb (Aas _ _ _) λ⟨_,_⟩ _=>ti (λ_=>ts) λ_=>tw (tb (Acy _ _ _ _ _) λ_ _=>ts)
theorem Ay3(a:LB):∀(q:Nat) (b:Int),0<=b/\b<= (Aa a)/\ (Aa a)<b+q/\ (Aa a)<=17179869184->T (BS a q b) (λ_=>True):=
 ind (λb hI=>by exfalso;(try simp only[Aa]at *);omega) λq ih b hI=>ti (λ_=>tg λ_=>tg λ_=>ti (λ_=>ts) λ_=>tj (ih _)) λ_=>ts
theorem mC(a:LB)(hP:Aa a<=1000000):T (FM a) (λ_=>True):=
 (by unfold FM ML eX;exact tj (Ay3 _ Ap _))
theorem Atw(a:List (LB×LB×Unit)):∀(q:Nat) (b:Int) (f:Int),0<=f/\f<= (Aa a)/\ (Aa a)<f+q/\ (Aa a)<=17179869184->T (IB a q b f) (λ_=>True):=
 ind (λb f hI=>by exfalso;(try simp only[Aa]at *);omega) λq ih b f hI=>ti (λ_=>tg λ_=>tj (ih _ _)) λ_=>ts
theorem zU(a:List (LB×LB×Unit))(hP:Aa a<=20):T (DF a) (λ_=>True):=
 (by unfold DF YK qY;exact tj (Atw _ Ap _ _))
theorem At0(a f:LB)(hP:Aa a<=1000000):T (IG a f) (λ_=>True):=
 tb (mC _) λ_ _=>ts
def Nm(x:LB×LB×Unit):Prop:=Aa x.1<=1000000
theorem Ti(n:Bool):T (Sm n) (λr=>0<=r/\r<=99):=ti (λ_=>ts) λ_=>ts
theorem Axo(a:List (LB×LB×Unit))(hA:Dp Nm a):∀(q:Nat) (f:Int),0<=f/\f<=Aa a/\Aa a<f+q/\Aa a<=20->T (AR a q f) (λr=>0<=r/\r<=99):=
 ind (λf hI=>by exfalso;omega) λq ih f hI=>ti (λ_=>tA (p:=Nm) λx hx=>tb (λ_=>At0 _ _ hx) λ_ _=>(by unfold MH fM eF fO;exact ti (λ_=>(by unfold AO KN;exact Ti _)) λ_=>tj (ih _))) λ_=>(by unfold LZ eU AO KN;exact Ti _)
theorem yX(u:LB)(a:List (LB×LB×Unit))(hP:Aa u<=1000000/\Dp Nm a):T (Ru u a) (λr=>0<=r/\r<=99):=by
  unfold Ru EL;exact ti (λ_=>ts) λ_=>tb (mC _) λ_ _=>ti (λ_=>ti (λ_=>Ti _) λh=>absurd h F4) λ_=>tb (zU _) λ_ _=>ti (λ_=>Ti _) λ_=>tj (Axo _ hP.2 Ap _)
theorem dN(o id:LB)(n:Int)(hP:Aa o<=100000000/\Aa id<=1000):T (SY o id n) (λr=>Aa r<=Aa o+Aa id+8):=
 tb (Pz _ _) (λ⟨b,_⟩ h=>ta (tap (by have:=h.2.2;unfold Aa at *;rw[BP];simp only at this;omega) (by have:=h.2.2;unfold Aa at *;rw[BP,BP];simp only at this;omega)) F3) trivial
theorem zx(i k j m o:LB)(hP:Aa i<=1000/\Aa j<=1000/\Aa k<=1000000/\Aa m<=1000000/\Aa o<=1000000):T (FL [(i,k,()),(j,m,())] o) (λr=>Aa r<=4000000):=by
  have hz:∀x:Int,0<=Ed x 1/\Ed x 1<=1:=λx=>by
    have e:Ed x (1:Int)=wrap64 ((BitVec.ofInt 64 x&&&BitVec.ofInt 64 1).toNat:Int):=rfl;rw[e,TV];have:(BitVec.ofInt 64 x).toNat&&& (BitVec.ofInt 64 1).toNat<= (BitVec.ofInt 64 1).toNat:=Nat.and_le_right;have h1:(BitVec.ofInt 64 1).toNat=1:=F4
    rw[Db F3 F3];omega
  have z1:=hz (Aa k);have z2:=hz (Aa m);unfold FL;refine tb (dN _ _ _) (λp hp=>ta (tk (λz hz1=>ta ?_ ?_) ?_) ?_) ?_
  · unfold FL
    refine tb (dN _ _ _) (λp2 hp2=>ta (tk (λz2 hz2=>ta ?_ ?_) ?_) ?_) ?_
    · unfold FL
      refine⟨_,rfl,?_⟩;unfold Aa at *;simp only[BP]at *;omega
    all_goals (unfold Aa at *;simp only[BP]at *;omega)
  all_goals (unfold Aa at *;simp only[BP]at *;omega)
theorem Alj(a i k j m:LB)(hP:Aa a<=1000/\Aa i<=1000/\Aa j<=1000/\Aa k<=1000000/\Aa m<=1000000):T (MI a [(i,k,()),(j,m,())]) (λr=>0<=r.2/\r.2<=99/\Aa r.1<=4000000):=
 tb (λ_=>yX _ _ ⟨F3,λx hx=>by
  rcases List.mem_cons.1 hx with rfl|hx
  · show Aa i<=1000000;omega
  · rw[List.mem_singleton.1 hx];show Aa j<=1000000;omega⟩) (λ_ _=>ti (λ_=>ts) λ_=>tb (zU _) (λ_ _=>tb (dN _ _ _) λ_ _=>ta (tb (zx _ _ _ _ _) λ_ _=>ts)) (show(2:Int)<=20 by decide)) trivial
theorem yL(b a f:Int)(g:LX)(hP:True):T (yO b a f g) (λr=>0<=r.2/\r.2<=99/\Aa r.1<=4000000):=
 tb (tK _ _ _ _) λ_ _=>ti (λ_=>ts) λ_=>tb (Axn _ _ _) λ⟨_,_⟩ _=>tb (Qp _ _) λ⟨_,_⟩ _=>tb (Alj _ _ _ _ _) λ⟨_,_⟩ _=>ts
theorem MM(n:Int)(o:LB)(hP:0<=n/\n<=99/\Aa o<=4000000):T (DT n o) (λr=>0<=r.2/\r.2<=99/\Aa r.1<=4000000):=
 ts
theorem Ach(p u:LB)(hP:Aa p<=100000):T (FC p u) (λr=>0<=r.2/\r.2<=99/\Aa r.1<=4000000):=
 tb (UI _ _) λ⟨_,_,_,_,_⟩ _=>(by unfold VJ SO;exact ti (λ_=>tj (MM _ _)) λ_=>tb (yL _ _ _ _) λ⟨_,_⟩ _=>(by unfold VE WR;exact tj (MM _ _)))
end Go.Pl
set_option maxRecDepth 4000
set_option maxHeartbeats 400000
namespace Go.Pl
open Go Go.Lv
def Two(x:LB):Prop:=Aa x=2
theorem g_:∀(l:LB),l.length %2=0->Dp Two (CF l)/\ (CF l).length<=l.length
  |[],_=>⟨all_nil,G? _⟩
  |[a],h=>by simp at h
  |a::b::r,h=>by
    have k:=g_ r (by simp only[C_]at h;omega);rw[CF];exact⟨λx hx=>(List.mem_cons.1 hx).elim (λe=>e▸rfl) (k.1 x),by have:=k.2;simp only[C_];omega⟩
theorem OU:∀(xs:List LB) (a:LB),Dp Two xs/\Aa a+Aa xs<=1000000->T (Md xs a) (λr=>Aa r.1<=Aa a+Aa xs)
  |[],a,_=>⟨_,rfl,by unfold Aa;simp⟩
  |b::xs,a,h=>by
    have hb:Aa b=2:=h.1 b (I8 ..);have hx:Dp Two xs:=λx hx=>h.1 x (I5 _ hx);have hl:Aa (b::xs)=Aa xs+1:=by unfold Aa;simp
    have ha:0<=Aa a:=by unfold Aa;omega
    have hs:0<=Aa xs:=by unfold Aa;omega
    unfold Md;refine tg (λh=>tg (λk=>tb (Uq _ _) λ_ _=>tb (Uq _ _) λ_ _=>ti (λ_=>⟨_,rfl,by show(0:Int)<= _;omega⟩) λ_=>ta ?_ (by unfold Aa at *;simp only[J9];omega)) F3) F3;exact tm (OU xs _ ⟨hx,by unfold Aa at *;rw[BP,J9];omega⟩) λy hy=>by
      unfold Aa at *;rw[BP,J9]at hy;omega
theorem Ab5(n:LB)(hP:Aa n<=1000000):T (Qo n) (λr=>Aa r.1<=Aa n):=by
  unfold Qo;refine ti (λ_=>⟨_,rfl,by show(0:Int)<= _;unfold Aa;omega⟩) λh=>?_;refine ti (λh=>absurd h F4) λ_=>?_;have hm:n.length %2=0:=by
    simp only[Uh,zi,Fk,I',E6,Decidable.not_not]at h;rw[YB _ M5]at h;unfold Aa at h;omega
  have k:=g_ n hm;unfold A?;rw[Option.bind_assoc];refine tw ?_ (H8 F3);rw[CS];obtain⟨y,e,hy⟩:=OU (CF n) [] ⟨k.1,by unfold Aa at *;simp;omega⟩;exact⟨y,e,by unfold Aa at *;simp at hy;omega⟩
theorem Ant(N:Nat)(a:List LB)(h:Dp (Le N) a):a.flatten.length<=N*a.length:=by
  induction a with
  |nil=>simp
  |cons x l ih=>
    have h1:Aa x<=N:=h x (I8 ..);have h2:=ih λy hy=>h y (I5 _ hy);unfold Aa at h1;rw[X4,BP,C_,Nat.mul_add];omega
theorem tZ(a b:LB)(h:Aa a+Aa b<=1000000):T (Cd [a,b]) (λr=>Aa r=Aa a+Aa b):=⟨_,Av0 a b (by unfold Aa at h;omega),by unfold Aa;simp⟩
theorem Ad6(a:List LB)(hP:Dp (Le 200000) a/\Aa a<=2000):T (Cd a) (λr=>Aa r<=200000*Aa a):=by
  have h1:=Ant 200000 a hP.1;have h2:=hP.2;unfold Aa at h2;exact⟨_,rz a F3 F3,by unfold Aa;omega⟩
theorem RW(s:LB)(hP:Aa s<=100000):T (Hh s) (λr=>r.2=true-> -999999999<=r.1/\r.1<=999999999):=by
  unfold Hh;rw[B? (by unfold Aa at hP;omega)];cases e:Lib.atoiAll s with
  |ok n=>
    have hb:=Lib.atoiAll_bounds e;refine tb (Bw n) (λt _=>⟨_,rfl,λh=>?_⟩) F3;simp only[Yn,ED,zi,BD,H4]at h;exact h.2
  |range=>exact⟨_,rfl,λh=>by cases h⟩
  |_=>exact⟨_,rfl,λh=>by cases h⟩
theorem Arr(a:List LB):∀(q:Nat) (f:Int) (b:List (UInt8×Int×Unit)),0<=f/\f<= (Aa a)/\ (Aa a)<f+q/\ (Aa a)<=17179869184/\Dp (Wd 100000) a/\Aa a<=100000/\Dp Sr b/\Aa b=f->T (Tk a q f b) (λr=>Dp Sr r.1/\Aa r.1<=100000):=
 ind (λf b hI=>by exfalso;(try simp only[Aa]at *);omega) λq ih f b hI=>ti (λ_=>tA (p:=Wd 100000) λ_ _=>ti (λ_=>tg λ_=>tb (Uq _ _) λ_ _=>tc λ_ _=>tb (RW _) λ⟨_,_⟩ _=>ti (λ_=>ts) λ_=>ta (tj (ih _ _))) λ_=>ta (tj (ih _ _))) λ_=>ts
theorem Abj(a:List LB)(hP:Dp (Wd 100000) a/\Aa a<=100000):T (Vj a) (λr=>Dp Sr r.1/\Aa r.1<=100000):=
 (by unfold Vj DZ UF;exact tj (Arr _ Ap _ _))
theorem Agb(a:UInt8)(b:Int)(hP:True):T (YU a b) (λ_=>True):=
 ti (λ_=>ti (λ_=>ts) λ_=>ti (λ_=>ts) λ_=>ts) λ_=>ti (λ_=>ts) λ_=>ti (λ_=>ts) λ_=>ts
theorem Az6(a:UInt8)(b:Int)(hP:True):T (KW a b) (λ_=>True):=
 tb (Agb _ _) λ_ _=>ts
theorem Ar9{a:List (UInt8×Int×Unit)}(f:Bool)(hP:Aa a<=200):T (VR f) (λr=>0<=r/\r<=99/\ (r=0->Aa a<=200)):=
 ti (λ_=>ts) λ_=>(by unfold UX SJ;exact ts)
theorem JU{a:List (UInt8×Int×Unit)}(f:Bool)(hP:Aa a<=200):T (DN f) (λr=>0<=r/\r<=99/\ (r=0->Aa a<=200)):=
 tj (Ar9 _)
theorem Asx(a:List (UInt8×Int×Unit)):∀(q:Nat) (b:Int),0<=b/\b<= (Aa a)/\ (Aa a)<b+q/\ (Aa a)<=17179869184/\Aa a<=200->T (Tm a q b) (λr=>0<=r/\r<=99/\ (r=0->Aa a<=200)):=
 ind (λb hI=>by exfalso;(try simp only[Aa]at *);omega) λq ih b hI=>ti (λ_=>tg λ_=>tb (Az6 _ _) λ_ _=>(by unfold DE VI;exact ti (λ_=>tj (JU _)) λ_=>(by unfold WU TR;exact tj (ih _)))) λ_=>(by unfold DU TY;exact tj (JU _))
theorem Af6(a:List (UInt8×Int×Unit))(hP:True):T (YI a) (λr=>0<=r/\r<=99/\ (r=0->Aa a<=200)):=
 ti (λ_=>ts) λ_=>tj (Asx _ Ap _)
theorem ZV(f g:LB)(h k m n o:Int)(p:LI)(u:Int)(v:LB)(w:Bool)(y b:Int)(hP:PD f g h k m n o p u v w y):T (Vk f g h k m n o p u v w y b) (λr=>0<=r.2.2.2.2.2.2.2.2.2.2.2.2.2/\r.2.2.2.2.2.2.2.2.2.2.2.2.2<=99/\PD r.1 r.2.1 r.2.2.1 r.2.2.2.1 r.2.2.2.2.1 r.2.2.2.2.2.1 r.2.2.2.2.2.2.1 r.2.2.2.2.2.2.2.1 r.2.2.2.2.2.2.2.2.1 r.2.2.2.2.2.2.2.2.2.1 r.2.2.2.2.2.2.2.2.2.2.1 r.2.2.2.2.2.2.2.2.2.2.2.1/\Aa r.2.2.2.2.2.2.2.2.2.2.2.2.1<=12000000/\Aa r.2.1<=Aa g):=
 tb (GL _ _ _ _ _ _ _ _ _ _ _ _) λ_ _=>ti (λ_=>ts) λ_=>ti (λ_=>ts) λ_=>tQ (Of _ _ _ _ _ _ _ _ _ _ _ _) (tc λ_ _=>tQ (Vh _) (tc λ_ _=>ts))
theorem Aqx(b:List (UInt8×Int×Unit)):∀(q:Nat) (ab:Int) (f:LB) (g:Int) (h:Int) (k:Int) (m:Int) (n:Int) (o:Int) (p:LB) (u:Bool) (v:Int) (a:LB) (aa:List (Int×LB×Unit)) (w:LB) (y:LI),0<=ab/\ab<= (Aa b)/\ (Aa b)<ab+q/\ (Aa b)<=17179869184/\PD f w g h k m n y o p u v/\Aa w+Aa a<=100000/\Aa b<=200/\Aa aa<=ab/\Dp St aa/\Dp Sr b->T (Gv b q ab f g h k m n o p u v a aa w y) (λr=>0<=r.2.2.2.2.2.2.2.2.2.2.2.2.2/\r.2.2.2.2.2.2.2.2.2.2.2.2.2<=99/\Aa r.2.2.2.2.2.2.2.2.2.2.2.2.1<=200/\Dp St r.2.2.2.2.2.2.2.2.2.2.2.2.1/\ (r.2.2.2.2.2.2.2.2.2.2.2.2.2=0->Aa b<=200)):=
 ind (λab f g h k m n o p u v a aa w y hI=>by exfalso;(try simp only[Aa]at *);omega) λq ih ab f g h k m n o p u v a aa w y hI=>ti (λ_=>tA (p:=Sr) λ_ _=>ti (λ_=>tc λ_ _=>tb (AD _ _ _ _ _ _ _ _ _ _ _ _ _) λ⟨_,_,_,_,_,_,_,_,_,_,_,_,_⟩ _=>tc λ_ _=>ta (tj (ih _ _ _ _ _ _ _ _ _ _ _ _ _ _ _))) λ_=>ti (λ_=>tb (ZV _ _ _ _ _ _ _ _ _ _ _ _ _) λ⟨_,_,_,_,_,_,_,_,_,_,_,_,_,_⟩ _=>ta (tj (ih _ _ _ _ _ _ _ _ _ _ _ _ _ _ _))) λ_=>ti (λ_=>tb (Tp _ _ _ _ _ _ _ _ _ _ _ _) λ⟨_,_,_,_,_,_,_,_,_,_,_,_,_⟩ _=>ta (tj (ih _ _ _ _ _ _ _ _ _ _ _ _ _ _ _))) λ_=>tj (ih _ _ _ _ _ _ _ _ _ _ _ _ _ _ _)) λ_=>ts
theorem cE(fd fe:LB)(b:List (UInt8×Int×Unit))(hP:Dp Sr b/\Aa fe<=100000):T (Vl fd fe b) (λr=>0<=r.2.2.2.2.2.2.2.2.2.2.2.2.2/\r.2.2.2.2.2.2.2.2.2.2.2.2.2<=99/\Aa r.2.2.2.2.2.2.2.2.2.2.2.2.1<=200/\Dp St r.2.2.2.2.2.2.2.2.2.2.2.2.1/\ (r.2.2.2.2.2.2.2.2.2.2.2.2.2=0->Aa b<=200)):=
 tb (Af6 _) λ_ _=>ti (λ_=>ts) λ_=>tb (Vf _) λ⟨_,_,_,_,_,_,_,_,_,_,_,_,_⟩ _=>ti (λ_=>ts) λ_=>tj (Aqx _ Ap _ _ _ _ _ _ _ _ _ _ _ _ _ _ _)
theorem Tt(g a:LB)(h k m n o:Int)(b:LI)(p:Int)(u:LB)(v:Bool)(w:Int)(hP:PD g a h k m n o b p u v w):T (JI g a h k m n o b p u v w) (λr=>0<=r.2/\r.2<=99/\0<=r.1/\r.1<=200000):=
 tb (GL _ _ _ _ _ _ _ _ _ _ _ _) λ_ _=>ti (λ_=>ts) λ_=>ts
theorem Aza(a:List (UInt8×Int×Unit)):∀(q:Nat) (h:LB) (b:Int) (f:Int) (g:Int) (k:LB) (m:Int) (n:Int) (o:Int) (p:Int) (u:Int) (v:Int) (w:LB) (y:Bool) (aa:Int) (ab:LB) (ac:LI),0<=g/\g<= (Aa a)/\ (Aa a)<g+q/\ (Aa a)<=17179869184/\PD k ab m n o p u ac v w y aa/\Aa ab+Aa h<=100000/\Aa a<=200/\Dp Sr a/\0<=b/\b<=1000000/\0<=f/\f<=12000000->T (CO a q h b f g k m n o p u v w y aa ab ac) (λr=>0<=r.2.2/\r.2.2<=99/\0<=r.1/\r.1<=1000000/\0<=r.2.1/\r.2.1<=12000000):=
 ind (λh b f g k m n o p u v w y aa ab ac hI=>by exfalso;(try simp only[Aa]at *);omega) λq ih h b f g k m n o p u v w y aa ab ac hI=>ti (λ_=>tA (p:=Sr) λ_ _=>ti (λ_=>tc λ_ _=>tb (AD _ _ _ _ _ _ _ _ _ _ _ _ _) λ⟨_,_,_,_,_,_,_,_,_,_,_,_,_⟩ _=>tc λ_ _=>tb (Tt _ _ _ _ _ _ _ _ _ _ _ _) λ⟨_,_⟩ _=>ti (λ_=>ts) λ_=>tj (ih _ _ _ _ _ _ _ _ _ _ _ _ _ _ _ _)) λ_=>ti (λ_=>tb (ZV _ _ _ _ _ _ _ _ _ _ _ _ _) λ⟨_,_,_,_,_,_,_,_,_,_,_,_,_,_⟩ _=>tb (Tt _ _ _ _ _ _ _ _ _ _ _ _) λ⟨_,_⟩ _=>ti (λ_=>ts) λ_=>tj (ih _ _ _ _ _ _ _ _ _ _ _ _ _ _ _ _)) λ_=>ti (λ_=>tb (Tp _ _ _ _ _ _ _ _ _ _ _ _) λ⟨_,_,_,_,_,_,_,_,_,_,_,_,_⟩ _=>tb (Tt _ _ _ _ _ _ _ _ _ _ _ _) λ⟨_,_⟩ _=>ti (λ_=>ts) λ_=>tj (ih _ _ _ _ _ _ _ _ _ _ _ _ _ _ _ _)) λ_=>tb (Tt _ _ _ _ _ _ _ _ _ _ _ _) λ⟨_,_⟩ _=>ti (λ_=>ts) λ_=>tj (ih _ _ _ _ _ _ _ _ _ _ _ _ _ _ _ _)) λ_=>ts
theorem A_(ar au:LB)(a:List (UInt8×Int×Unit))(hP:Dp Sr a/\Aa au<=100000):T (OL ar au a) (λr=>0<=r.2.2/\r.2.2<=99/\0<=r.1/\r.1<=1000000/\0<=r.2.1/\r.2.1<=12000000):=
 tb (cE _ _ _) λ⟨_,_,_,_,_,_,_,_,_,_,_,_,_,_⟩ _=>ti (λ_=>ts) λ_=>tb (Vf _) λ⟨_,_,_,_,_,_,_,_,_,_,_,_,_⟩ _=>ti (λ_=>ts) λ_=>tj (Aza _ Ap _ _ _ _ _ _ _ _ _ _ _ _ _ _ _ _)
theorem yH{p:Prop}(h:p:=by unfold Aa at *;simp only at *;omega):p:=h
end Go.Pl
set_option maxRecDepth 4000
set_option maxHeartbeats 400000
namespace Go.Pl
open Go Go.Lv
variable{w n k x a b v g:Int}{l:LI}
theorem BN(a:LB)(m n o p u f g b:Int)(h:LI)(ae ad y:Int)(hP:0<=ae/\ae<=99):T (Mb a m n o p u f g b h ae ad y) (λr=>0<=r.2.2.2.2.2/\r.2.2.2.2.2<=99):=
 ti (λ_=>ts) λ_=>ti (λ_=>ts) λ_=>ts
theorem Ayo(k:LI)(a:LB)(m n o p u f g b:Int)(h:LI):∀(q:Nat) (w:Int) (v:Int),0<=w/\w<= (Aa k)/\ (Aa k)<w+q/\ (Aa k)<=17179869184/\Aa k<=1000->T (Zn k a m n o p u f g b h q w v) (λr=>0<=r.2.2.2.2.2/\r.2.2.2.2.2<=99):=
 ind (λw v hI=>by exfalso;(try simp only[Aa]at *);omega) λq ih w v hI=>ti (λ_=>tg λ_=>tg λ_=>tj (ih _ _)) λ_=>(by unfold GV aJ;exact tj (BN _ _ _ _ _ _ _ _ _ _ _ _ _))
theorem Amc(a:LB)(hP:True):T (jJ a) (λr=>0<=r.2.2.2.2.2/\r.2.2.2.2.2<=99):=
 tb (mO _) λ⟨_,_,_,_,_,_,_,_,_,_,_,_⟩ _=>ti (λ_=>ts) λ_=>ti (λ_=>tj (BN _ _ _ _ _ _ _ _ _ _ _ _ _)) λ_=>tc λ_ _=>tb (BO _ _) λ⟨_,_⟩ _=>ti (λ_=>tj (BN _ _ _ _ _ _ _ _ _ _ _ _ _)) λ_=>tj (Ayo _ _ _ _ _ _ _ _ _ _ _ Ap _ _)
theorem Au6(a:Int)(b:LI)(g h k m n o:Int):∀(q:Nat) (p:Int) (f:Int),0<=f/\f<= (Aa b)/\ (Aa b)<f+q/\ (Aa b)<=17179869184/\Aa b<=1000->T (Wr a b g h k m n o q p f) (λr=>0<=r.2.2.2.2/\r.2.2.2.2<=99/\0<=r.1/\r.1<=99/\0<=r.2.2.1/\r.2.2.1<=1000/\ -9223372036854775808<=r.2.2.2.1/\r.2.2.2.1<=9223372036854775807):=
 ind (λp f hI=>by exfalso;(try simp only[Aa]at *);omega) λq ih p f hI=>ti (λ_=>tg λ_=>tg λ_=>ti (λ_=>tb (mW _ _ _ _ _ _) λ⟨_,_⟩ _=>ts) λ_=>tj (ih _ _)) λ_=>ts
theorem Adt(u w:LB)(a:Int)(hP:True):T (Mm u w a) (λr=>0<=r.2.2.2.2/\r.2.2.2.2<=99/\0<=r.1/\r.1<=99/\0<=r.2.2.1/\r.2.2.1<=1000/\ -9223372036854775808<=r.2.2.2.1/\r.2.2.2.1<=9223372036854775807):=
 tb (mP _ _) λ_ _=>ti (λ_=>ts) λ_=>ti (λ_=>ts) λ_=>tb (Amc _) λ⟨_,_,_,_,_,_⟩ _=>ti (λ_=>ts) λ_=>tb (Iu _ _) λ⟨_,_,_,_,_,_,_,_⟩ _=>ti (λ_=>ts) λ_=>ti (λ_=>ts) λ_=>ti (λ_=>ts) λ_=>ti (λ_=>ts) λ_=>ti (λ_=>ts) λ_=>tj (Au6 _ _ _ _ _ _ _ _ Ap _ _)
theorem Av4(hk:Af l n=some k)(hx:Af l (Ae w 1)=some x)(h0:0<=w/\w<=1000000):w+1=n->x=k:=λe=>by
  rw[Gt,e,hk]at hx;exact(H9 hx).symm
theorem Av3{y z m:Int}(hx:Af l y=some x)(e:Af l w=some z)(_:True):w=y->Ch z m=Ch x m:=λh=>by
  rw[h,hx]at e;rw[H9 e]
theorem AL{N:Nat}{ZS:Int->LB->Be}(a:LB)(f:LI)(b k n m h o p:Int)(u:LX)(v g:LI)(y x:Int)(hb:∀(w:Int) (aa:LB),Aa f<=1000/\Aa a<=100000/\0<=b/\b<=110000/\Aa u=16/\Aa g=Aa f+1/\0<=w/\w<=Aa f/\Aa f<w+N/\Aa aa<=12000*w/\ (w=Aa f->0<=k/\b+k<=Aa a)/\y<=w/\y<Aa f/\ (w=y/\Aa aa=0\/BX m h x (Aa aa))->T (ZS w aa) (λr=>0<=r.2/\r.2<=99/\Aa r.1<=12000000/\ (r.2=0->BX m h x (Aa r.1))))(w:Int)(aa:LB)(ai:Int)(ar:LB)(hP:0<=ai/\ai<=99/\Aa f<=1000/\Aa a<=100000/\0<=b/\b<=110000/\Aa u=16/\Aa g=Aa f+1/\0<=w/\w<Aa f/\Aa f<w+(N+1)/\Aa aa<=12000*w/\Aa ar<=12000/\y<=w/\ (ai=0->w+1=Aa f->0<=k/\b+k<=Aa a)/\ (ai=0->BX m h x (Aa aa+Aa ar))):T (GN ZS a f b k n m h o p u v g w aa ai ar) (λr=>0<=r.2/\r.2<=99/\Aa r.1<=12000000/\ (r.2=0->BX m h x (Aa r.1))):=
 ti (λ_=>ts) λ_=>ta (tj (hb _ _))
theorem Avk(a:LB)(f:LI)(b k n m h o p:Int)(u:LX)(v g:LI)(y x:Int)(hM:Mon g)(hk:Af g (Aa f)=some k)(hx:Af f y=some x):∀(q:Nat) (w:Int) (aa:LB),Aa f<=1000/\Aa a<=100000/\0<=b/\b<=110000/\Aa u=16/\Aa g=Aa f+1/\0<=w/\w<=Aa f/\Aa f<w+q/\Aa aa<=12000*w/\ (w=Aa f->0<=k/\b+k<=Aa a)/\y<=w/\y<Aa f/\ (w=y/\Aa aa=0\/BX m h x (Aa aa))->T (Wg a f b k n m h o p u v g q w aa) (λr=>0<=r.2/\r.2<=99/\Aa r.1<=12000000/\ (r.2=0->BX m h x (Aa r.1))):=
 ind (λw aa hI=>by exfalso;(try simp only[Aa]at *);omega) λq ih w aa hI=>ti (λ_=>tg λ_=>tg λ_=>tE λ_ e3=>tE λ_ e4=>tf (λh0=>And.intro (qX hM h0 e3 e4) (Av4 hk e4 h0)) λ_=>(by unfold GK aY;exact ti (λ_=>tj (λhP=>AL _ _ _ _ _ _ _ _ _ _ _ _ _ _ ih _ _ _ _ hP)) λ_=>tg λ_=>tc λ_ _=>tE λ_ e5=>tf (Av3 (m:=m) hx e5) λ_=>tb (Og _ _ _ _ _) λ⟨_,_⟩ _=>(by unfold aO aM;exact ti (λ_=>tj (λhP=>AL _ _ _ _ _ _ _ _ _ _ _ _ _ _ ih _ _ _ _ hP)) λ_=>tb (Qp _ _) λ⟨_,_⟩ _=>tj (λhP=>AL _ _ _ _ _ _ _ _ _ _ _ _ _ _ ih _ _ _ _ hP)))) λ_=>(by unfold HC ZU;exact tc λ_ _=>tb (MG _) λ⟨_,_⟩ _=>ti (λ_=>ts) λ_=>ts)
theorem Au0(a:LB)(y:Int)(f:LI)(b k n m h o p:Int)(u:LX)(v g:LI)(hM:Mon g)(hk:Af g (Aa f)=some k)(hP:Aa f<=1000/\Aa a<=100000/\0<=b/\b<=110000/\Aa u=16/\Aa g=Aa f+1):T (GU a y f b k n m h o p u v g) (λr=>0<=r.2/\r.2<=99/\Aa r.1<=12000000/\ (r.2=0->∃x,Af f y=some x/\BX m h x (Aa r.1))):=by
  unfold GU HA;refine ti (λh=>absurd h F4) λ_=>ti (λ_=>⟨_,rfl,F4,F4,F4,λh=>absurd h F4⟩) λh1=>?_;simp only[Qq,Yn,zi,E4,I']at h1;have hy:y.toNat<f.length:=by unfold Aa at h1;omega
  have hx:Af f y=some f[y.toNat]:=by unfold Af;rw[B? F3,H' hy]
  refine tm (Avk a f b k n m h o p u v g y _ hM hk hx Ap y [] ⟨hP.1,hP.2.1,hP.2.2.1,hP.2.2.2.1,hP.2.2.2.2.1,hP.2.2.2.2.2,F3,F3,by have:=Cu;omega,by unfold Aa at *;simp only[D'];omega,F3,F3,F3, .inl ⟨rfl,rfl⟩⟩) λr hr=>⟨hr.1,hr.2.1,hr.2.2.1,λh0=>⟨_,hx,hr.2.2.2 h0⟩⟩
theorem Aux(a:LB)(y ah:Int)(hP:0<=ah/\ah<=99):T (GX a y ah) (λr=>1<=r.2/\r.2<=99/\Aa r.1<=12000000):=ti (λ_=>ts) λ_=>ti (λ_=>ts) λh=>by
  exfalso;simp only[Qq,Yn,zi,E4,I']at h;omega
theorem mY(a aj:LB)(y:Int)(hP:True):T (Xx a aj y) (λr=>0<=r.2/\r.2<=99/\Aa r.1<=12000000/\ (r.2=0->∃n m h o p b v f x,Gm a aj=some (n,m,h,o,p,b,v,0)/\Bn n m h o p=some (f,0)/\Af f y=some x/\BX m h x (Aa r.1))):=by
  have hE:∀ah,0<=ah/\ah<=99->T (GX a y ah) (λr=>0<=r.2/\r.2<=99/\Aa r.1<=12000000/\ (r.2=0->∃n m h o p b v f x,Gm a aj=some (n,m,h,o,p,b,v,0)/\Bn n m h o p=some (f,0)/\Af f y=some x/\BX m h x (Aa r.1))):=λah hh=>tm (Aux a y ah hh) λr hr=>⟨F3,hr.2.1,hr.2.2,λh0=>by omega⟩;have hz:∀{x:Int},Az x 0=false->x=0:=λh=>by simp only[Uh,zi,I',E6,Decidable.not_not]at h;exact h
  obtain⟨⟨n,m,h,o,p,b,v,ak⟩,e1,h1⟩:=Iu a aj trivial;unfold Xx JT;refine tQ (λ_:True=>e1) ?_ trivial;refine ti (λ_=>hE ak ⟨h1.1,h1.2.1⟩) λk1=>?_;obtain⟨⟨f,al⟩,e2,h2⟩:=Dc n m h o p trivial;refine tQ (λ_:True=>e2) ?_ trivial;refine ti (λ_=>hE al ⟨h2.2.1,h2.2.2.1⟩) λk2=>tb (bD _) (λ⟨g,am⟩ h3=>ti (λ_=>hE am ⟨h3.1,h3.2.1⟩) λk3=>tb (Sp _) (λ⟨u,an⟩ h4=>ti (λ_=>hE an ⟨h4.1,h4.2.1⟩) λ_=>?_) trivial) trivial;obtain⟨g1,g2⟩:=h3.2.2 (hz k3);have o1:=h1.2.2 (hz k1);have hcc:Aa f<=1000/\Aa a<=100000/\0<=b/\b<=110000/\Aa u=16/\Aa g=Aa f+1:=by simp only at *;omega
  refine tg (λ_=>tE (λk e=>tm (Au0 a y f b k n m h o p u v g g2 e hcc) λr hr=>⟨hr.1,hr.2.1,hr.2.2.1,λh0=>?_⟩) yH) yH;obtain⟨x,hx,hb⟩:=hr.2.2.2 h0;exact⟨n,m,h,o,p,b,v,f,x,by rw[e1,show ak=0 from hz k1],by rw[e2,show al=0 from hz k2],hx,hb⟩
theorem Aak{f:Int}(e:Kl a b=some (f,0))(ev:Ju a=some (v,0))(k:1<=f/\f<=1000/\1<=b/\b<=4000/\1<=v/\v<=1100000/\ (f-1)*v<b/\b<=f*v):∃m:Nat,f-1=m/\Ok a b=some (List.replicate m v++[b-m*v],0):=by
  obtain⟨k1,k2,k3,k4,v1,v2,w1,w2⟩:=k;have hm:0<= (f-1)*v:=lC F3 F3;obtain⟨m,hm'⟩:∃m:Nat,f-1=(m:Int):=⟨(f-1).toNat,F3⟩;refine⟨m,hm',?_⟩;unfold Ok;rw[e,CS];simp only;rw[C' F4,ev,CS];simp only;rw[DS,xT,DS,hm',N! _ _ F3,CS];unfold AW;rw[F! _ _ F6];rfl
theorem Aca(f g a:Int)(hP:True):T (EV f g a) (λr=>0<=r.2.2/\r.2.2<=99/\ (r.2.2=0->∃(m:Nat) (v:Int),Ok f g=some (List.replicate m v++[g-m*v],0)/\1<=v/\m<=1000/\1<=g/\g<=4000/\m*v<g/\g<= (m+1)*v/\0<=a/\a<g/\r.1=a/v/\r.2.1=a %v)):=by
  obtain⟨⟨k,h⟩,e,h1⟩:=Vy f g trivial;unfold EV;rw[e,CS];refine ti (λhh=>⟨_,rfl,h1.1,h1.2.1,λh0=>by simp only[Uh,zi,H4]at hh;exact absurd h0 hh⟩) λhh=>ti (λ_=>⟨_,rfl,F4,F4,λh=>absurd h F4⟩) λha=>?_;have hz:h=0:=by simp only[Uh,zi,I',E6,Decidable.not_not]at hh;exact hh
  obtain⟨k1,k2,k3,k4,v,ev,v1,v2,w1,w2⟩:=h1.2.2 hz;subst hz;simp only[Qq,Yn,zi,E4,I']at ha k1 k2 k3 k4 w1 w2;obtain⟨m,hm,hA⟩:=Aak e ev ⟨k1,k2,k3,k4,v1,v2,w1,w2⟩;rw[hm]at w1;rw[show k=m+1 by omega]at w2;rw[ev,CS];refine tw (tw ⟨_,rfl,I? _,(show(0:Int)<=99 by decide),λ_=>⟨m,v,hA,v1,F3,k3,k4,w1,w2,F3,F3,?_,?_⟩⟩ ?_) ?_
  · show Ey a v=a/v
    have h2:=RC (show 0<=a by omega) (show 0<=v by omega);have h3:=TU (b:=v) (show 0<=a by omega);rw[Gu,nN _ F3,Db F3 F3]
  · show Jl a v=a %v
    rw[Fk,YB _ F3]
  all_goals (rw[Uh];exact H8 (by show v≠0;omega))
theorem Ajj{h:Int}{f:LI}(e:Bn g h k a b=some (f,0)):Ok a b=some (f,0):=by
  unfold Bn at e;obtain⟨m,_,e⟩:=Option.bind_eq_some_iff.1 e;split at e
  · rename_i hm
    obtain⟨_,h2⟩:=Prod.mk.inj (H9 e);rw[h2]at hm;exact absurd hm F4
  · obtain⟨⟨f',n⟩,e1,e2⟩:=Option.bind_eq_some_iff.1 e
    obtain⟨rfl,rfl⟩:=Prod.mk.inj (H9 e2);exact e1
theorem Alh{m:Nat}(h:1<=v/\0<=a/\a<g/\g<=4000/\m*v<g/\g<= (m+1)*v)(e:Af (List.replicate m v++[g-m*v]) (a/v)=some x):0<=a %v/\a %v<x/\x<=4000:=by
  obtain⟨h1,h2,h3,h6,h4,h5⟩:=h;have q1:=RG a (show v≠0 by omega);have q2:=RN a (show 0<v by omega);have q3:=Int.emod_add_mul_ediv a v;have q4:=RC h2 (show 0<=v by omega);obtain⟨n,hn⟩:∃n:Nat,a/v=n:=⟨(a/v).toNat,F3⟩;unfold Af at e;rw[hn]at e q3;rw[B? F3,I6]at e;by_cases hm:n<m
  · rw[H5 (by simpa using hm),List.getElem?_replicate,B? hm]at e
    obtain rfl:=H9 e;have:=xZ (show(1:Int)<=m by omega) (show 0<=v by omega);omega
  · rw[I7 (by simpa using hm),E7]at e
    have hl:n-m=0:=by
      by_cases hz:n-m=0
      · exact hz
      · rw[L7 XN]at e;cases e
    rw[hl]at e;obtain rfl:=H9 (show some (g-m*v)=some x from e);have:n=m:=F3
    subst this;rw[U4 v]at q3;have:0<= (n:Int)*v:=lC F3 F3;omega
theorem Aud{o p:Int}(h:0<=w/\w<x/\x<=4000/\1<=o/\o<=6)(hb:BX o p x n):0<=Ey (Ch (Ch w o) p) 8/\Ey (Ch (Ch w o) p) 8<=n:=by
  have ho:o=1\/o=2\/o=3\/o=4\/o=5\/o=6:=F3
  unfold BX at hb;rw[xT (a:=x) (by rcases ho with rfl|rfl|rfl|rfl|rfl|rfl<;>omega) (by rcases ho with rfl|rfl|rfl|rfl|rfl|rfl<;>omega)]at hb;have hw:0<=w*o/\w*o<=24000/\w*o<=x*o:=by rcases ho with rfl|rfl|rfl|rfl|rfl|rfl<;>omega
  rw[xT (a:=w) (b:=o) F3 F3];generalize w*o=z at*
  generalize x*o=z2 at*
  have key:∀c:Int,0<=c/\c<=3->p=8*c->c*z2<=n->0<=c*z/\c*z<=c*z2->0<=Ey (Ch z p) 8/\Ey (Ch z p) 8<=n:=λc hc e h1 h2=>by
    have e2:z*p=8*(c*z):=by rw[e,U4 z,Int.mul_assoc]
    have h3:c*z<=72000:=by
      have:c=0\/c=1\/c=2\/c=3:=F3
      rcases this with rfl|rfl|rfl|rfl<;>omega
    rw[xT,Gu,nN _ F3,Db F3 F3];omega
  rcases hb with⟨rfl,hb⟩|⟨rfl,hb⟩|⟨rfl,hb⟩
  · exact key 1 F4 rfl F3 F3
  · exact key 2 F4 rfl F3 F3
  · exact key 3 F4 rfl F3 F3
theorem zm(f g:LB)(b:Int)(hP:True):T (WX f g b) (λr=>0<=r.2/\r.2<=99/\Aa r.1<=12000000):=by
  have hz:∀{x:Int},Az x 0=false->x=0:=λh=>by simp only[Uh,zi,I',E6,Decidable.not_not]at h;exact h
  obtain⟨⟨aa,o,p,u,h,ab,ac,k⟩,e,h1⟩:=Iu f g trivial;unfold WX;rw[e,CS];refine ti (λ_=>ts) λhk=>ti (λ_=>ts) λhb=>?_;obtain⟨⟨v,w,m⟩,e2,h2⟩:=Aca u h b trivial;rw[e2,CS];refine ti (λ_=>ts) λhm=>?_;obtain⟨⟨a,n⟩,e3,h3⟩:=mY f g v trivial;rw[e3,CS];refine ti (λ_=>ts) λhn=>?_;obtain⟨n',m',h',o',p',b',v',f',x,q1,q2,q3,q4⟩:=h3.2.2.2 (hz hn);rw[e]at q1;simp only[H0,J8]at q1;obtain⟨rfl,rfl,rfl,rfl,rfl,_⟩:=q1;obtain⟨mm,L,r1,r2,r3,r4,r5,r6,r7,r8,r9,r10,r11⟩:=h2.2.2 (hz hm);rw[Ajj q2]at r1;obtain⟨rfl,_⟩:=Prod.mk.inj (H9 r1);rw[show v=b/L from r10]at q3;have k1:=Alh ⟨r2,r8,r9,r5,r6,r7⟩ q3;rw[<-show w=b %L from r11]at k1;have o1:=h1.2.2 (hz hk);have k2:=Aud ⟨k1.1,k1.2.1,k1.2.2,o1.2.2.1,o1.2.2.2.1⟩ q4;exact tw (tc (λ_ _=>ts) ⟨k2.1,k2.2,I? _⟩) (H8 ⟨I? _,I? _⟩)
theorem Alp(f:LB)(a:Int)(g:UInt8)(hP:Aa f<=100000):T (eR f a g) (λr=>0<=r.2/\r.2<=99/\Aa r.1<=100000):=
 ti (λ_=>ts) λ_=>tQ (Vh _) (tg λ_=>tg λ_=>tg λ_=>te (λ_ _=>ts))
theorem Atf(a:Int)(g:UInt32):∀(q:Nat) (b:Int) (h:Bool) (f:LB),0<=b/\b<=32/\32<b+q/\0<=a/\a<=800000/\Aa f<=100000->T (Wa a g q b h f) (λr=>0<=r.2/\r.2<=99/\Aa r.1<=100000):=
 ind (λb h f hI=>by exfalso;(try simp only[Aa]at *);omega) λq ih b h f hI=>ti (λ_=>tw (ti (λ_=>ti (λ_=>tg λ_=>tw (tg λ_=>tg λ_=>te (λ_ _=>tj (ih _ _ _)))) λ_=>tj (ih _ _ _)) λ_=>tj (ih _ _ _))) λ_=>ti (λ_=>ts) λ_=>ts
theorem Ayu(k:LB)(a:Int)(g:UInt32)(hP:Aa k<=100000):T (II k a g) (λr=>0<=r.2/\r.2<=99/\Aa r.1<=100000):=
 ti (λ_=>ts) λ_=>tQ (Vh _) (tj (Atf _ _ Ap _ _ _))
theorem Asj(a:LI):∀(q:Nat) (b:LB) (f:Int) (g:LB) (h:Int) (k:Int) (m:Int) (n:Int) (o:Int) (p:Int) (u:LB) (v:Bool) (w:Int) (y:LB) (aa:LI),0<=f/\f<= (Aa a)/\ (Aa a)<f+q/\ (Aa a)<=17179869184/\PD g y h k m n o aa p u v w/\Aa y+Aa b<=100000/\Dp Nn a/\sm a f=Aa b/\Aa a<=100->T (Ud a q b f g h k m n o p u v w y aa) (λr=>0<=r.2/\r.2<=99/\Aa r.1<=12000000):=
 ind (λb f g h k m n o p u v w y aa hI=>by exfalso;(try simp only[Aa]at *);omega) λq ih b f g h k m n o p u v w y aa hI=>ti (λ_=>tE λ_ e=>tf (Art e) λ_=>tc λ_ _=>tb (AD _ _ _ _ _ _ _ _ _ _ _ _ _) λ⟨_,_,_,_,_,_,_,_,_,_,_,_,_⟩ _=>ti (λ_=>ts) λ_=>tc λ_ _=>tj (ih _ _ _ _ _ _ _ _ _ _ _ _ _ _)) λ_=>tb (Tp _ _ _ _ _ _ _ _ _ _ _ _) λ⟨_,_,_,_,_,_,_,_,_,_,_,_,_⟩ _=>ts
theorem cI(av aw:LB)(a:LI)(hP:Aa aw<=100000/\Dp Nn a/\sm a 0=Aa aw/\Aa a<=100):T (EK av aw a) (λr=>0<=r.2/\r.2<=99/\Aa r.1<=12000000):=
 tb (Vf _) λ⟨_,_,_,_,_,_,_,_,_,_,_,_,_⟩ _=>ti (λ_=>ts) λ_=>tj (Asj _ Ap _ _ _ _ _ _ _ _ _ _ _ _ _ _)
theorem Avh{N12:Nat}{Oh:Int->Int->Cv}(g b:LB)(f a:Int)(h:LB)(k n m:Int)(hb:∀(n:Int) (m:Int),0<=m/\m<= (Fi (1:Int) (GI.toZ a).toNat)/\ (Fi (1:Int) (GI.toZ a).toNat)<m+N12/\ (Fi (1:Int) (GI.toZ a).toNat)<=17179869184/\Aa b<=100000/\0<=a/\a<=8/\0<=f/\f+a<=Aa b/\0<=n/\n<=m/\0<=k/\k<=99/\Fi (1:Int) (GI.toZ a).toNat<=256->T (Oh n m) (λr=>0<=r.2/\r.2<=99/\0<=r.1/\r.1<=256)):∀(q:Nat) (p:Int) (o:Int) (u:LI),0<=o/\o<=a/\a<o+q/\a<=17179869184/\Aa b<=100000/\0<=a/\a<=8/\0<=f/\f+a<=Aa b/\0<=n/\n<=m/\0<=k/\k<=99/\Fi (1:Int) (GI.toZ a).toNat<=256/\0<=p/\p<=f+o/\Aa u<=o/\Dp Nn u/\sm u 0=p/\0<=m/\m<= (Fi (1:Int) (GI.toZ a).toNat)/\ (Fi (1:Int) (GI.toZ a).toNat)<m+(N12+1)/\ (Fi (1:Int) (GI.toZ a).toNat)<=17179869184/\Aa b<=100000/\0<=a/\a<=8/\0<=f/\f+a<=Aa b/\0<=n/\n<=m/\0<=k/\k<=99/\Fi (1:Int) (GI.toZ a).toNat<=256/\m<(Fi (1:Int) (GI.toZ a).toNat)->T (Vz Oh g b f a h k n m q p o u) (λr=>0<=r.2/\r.2<=99/\0<=r.1/\r.1<=256):=
 ind (λp o u hI=>by exfalso;(try simp only[Aa]at *);omega) λq ih p o u hI=>ti (λ_=>tw (ti (λ_=>ta (tj (ih _ _ _))) λ_=>tj (ih _ _ _))) λ_=>ta (tb (cI _ _ _) λ⟨_,_⟩ _=>ti (λ_=>tj (hb _ _)) λ_=>tb (Kh _ _) λ_ _=>ti (λ_=>tj (hb _ _)) λ_=>tj (hb _ _))
theorem Aua(g b:LB)(f a:Int)(h:LB)(k:Int):∀(q:Nat) (n:Int) (m:Int),0<=m/\m<= (Fi (1:Int) (GI.toZ a).toNat)/\ (Fi (1:Int) (GI.toZ a).toNat)<m+q/\ (Fi (1:Int) (GI.toZ a).toNat)<=17179869184/\Aa b<=100000/\0<=a/\a<=8/\0<=f/\f+a<=Aa b/\0<=n/\n<=m/\0<=k/\k<=99/\Fi (1:Int) (GI.toZ a).toNat<=256->T (Ws g b f a h k q n m) (λr=>0<=r.2/\r.2<=99/\0<=r.1/\r.1<=256):=
 ind (λn m hI=>by exfalso;(try simp only[Aa]at *);omega) λq ih n m hI=>ti (λ_=>tj (Avh _ _ _ _ _ _ _ _ ih Ap _ _ _)) λ_=>ts
theorem Azw(g b:LB)(f a:Int)(hP:True):T (PT g b f a) (λr=>0<=r.2/\r.2<=99/\0<=r.1/\r.1<=256):=
 tf (zp8 a) λ_=>ti (λ_=>ts) λ_=>tb (Vf _) λ⟨_,_,_,_,_,_,_,_,_,_,_,_,_⟩ _=>ti (λ_=>ts) λ_=>ti (λ_=>ts) λ_=>tb (cI _ _ _) λ⟨_,_⟩ _=>tw (tj (Aua _ _ _ _ _ _ Ap _ _))
end Go.Pl
set_option maxRecDepth 4000
set_option maxHeartbeats 400000
namespace Go.Pl
open Go Go.Lv
variable{y w:Int}
theorem bS(a b f:Int)(g:LB)(hP:True):T (EX a b f g) (λr=>r.2=true->1<=r.1/\r.1<=1100000/\1<=a/\a<=6/\8<=b/\b<=24/\b %8=0):=
 tb (KS _) λ⟨_,_⟩ _=>tb (Qg _ _) λ_ _=>ts
theorem Azz(a b f:Int)(g:LB)(hP:True):T (gN a b f g) (λr=>0<=r.2.2.2.2.2.2.2.2.2.2/\r.2.2.2.2.2.2.2.2.2.2<=99/\PE r.2.2.2.2.1 r.2.2.2.2.2.1 r.2.2.2.2.2.2.1 r.2.2.2.2.2.2.2.1 r.2.2.2.2.2.2.2.2.2.1):=
 tb (bS _ _ _ _) λ⟨_,_⟩ _=>ti (λ_=>ts) λ_=>ts
theorem US(a b:Int)(hP:1<=a/\a<=6/\8<=b/\b<=24):T (Zz a b) (λr=>1<=r/\r<=18):=by
  refine⟨_,rfl,?_⟩;have:a=1\/a=2\/a=3\/a=4\/a=5\/a=6:=F3
  rw[Ho];rcases this with rfl|rfl|rfl|rfl|rfl|rfl<;>rw[Db F3 F3,Gu,nN _ F3,Db F3 F3]<;>omega
theorem Wl(a h k:Int)(m n:LB)(b:LX)(f:List LB)(o:LB)(p:Bool)(u g:Int)(hP:1<=a):T (Va a h k m n b f o p u g) (λ_=>True):=
 tw (ts)
theorem JL(a g h:Int)(k m:LB)(n:LX)(o:List LB)(p:LB)(u:Bool)(v b f:Int)(hP:True):T (IS a g h k m n o p u v b f) (λ_=>True):=
 ts
theorem CZ{g:LX}{m:LB}(b:List LB)(f a:Int):∀(q:Nat) (h:Int),0<=h/\h<= (Aa b)/\ (Aa b)<h+q/\ (Aa b)<=17179869184/\Aa g<=4000/\Aa b<=1000/\Aa m<=18->T (Nc b f a q h) (λr=>r=true->Aa g<=4000/\Aa b<=1000/\Aa m<=18):=
 ind (λh hI=>by exfalso;(try simp only[Aa]at *);omega) λq ih h hI=>ti (λ_=>tg λ_=>ti (λ_=>ts) λ_=>tj (ih _)) λ_=>ts
theorem Alw(f a k o:Int)(p m:LB)(g:LX)(b:List LB)(n:LB)(u:Bool)(v:Int)(hP:1<=a/\Aa b<=1000/\Aa m<=18):T (Um f a k o p m g b n u v) (λr=>r=true->Aa g<=4000/\Aa b<=1000/\Aa m<=18):=
 tb (Vr _ _) λ_ _=>ti (λ_=>ts) λ_=>ti (λ_=>tb (Wl _ _ _ _ _ _ _ _ _ _ _) λ_ _=>tb (JL _ _ _ _ _ _ _ _ _ _ _ _) λ_ _=>ti (λ_=>ts) λ_=>tj (CZ _ _ _ Ap _)) λ_=>tb (Wl _ _ _ _ _ _ _ _ _ _ _) λ_ _=>tb (JL _ _ _ _ _ _ _ _ _ _ _ _) λ_ _=>ti (λ_=>ts) λ_=>tj (CZ _ _ _ Ap _)
theorem Auk(a k o:Int)(p m:LB)(g:LX)(b:List LB)(n:LB)(u:Bool)(v f:Int)(hP:1<=a/\a<=6/\8<=k/\k<=24):T (Wk a k o p m g b n u v f) (λr=>r=true->Aa g<=4000/\Aa b<=1000/\Aa m<=18):=by
  unfold Wk Wx;simp only[Bool.true_or,↓reduceIte];exact ti (λ_=>ts) λ_=>tb (US _ _) λ_ _=>ti (λ_=>ts) λ_=>tw (ti (λ_=>ts) λ_=>tw (ti (λ_=>ts) λ_=>tj (Alw _ _ _ _ _ _ _ _ _ _ _)))
theorem Ab4(m n o:Int)(p b:LB)(f:LX)(g:List LB)(h:LB)(k:Bool)(a:Int)(hP:PE b f g h a):T (QM m n o p b f g h k a) (λr=>0<=r/\r<=99/\ (r=0->1<=m/\m<=6/\8<=n/\n<=24/\n %8=0/\ (a=0->k=false->Aa f<=4000/\Aa g<=1000/\Aa b<=18))):=
 tb (bS _ _ _ _) λ⟨_,_⟩ _=>ti (λ_=>ts) λ_=>ti (λ_=>ti (λ_=>ts) λ_=>ts) λ_=>ti (λ_=>ti (λ_=>ts) λ_=>ts) λ_=>tb (Auk _ _ _ _ _ _ _ _ _ _ _) λ_ _=>ti (λ_=>ts) λ_=>ts
theorem v? (a:LB)(h:Aa a<=17179869184):Bk a=some a:=by
  unfold Bk Ax qF;unfold Aa at h;rw[B? F6];rfl
theorem Ahq(a:LX)(h:Aa a<=17179869184):Ci a=some a:=by
  unfold Ci Ax qF;unfold Aa at h;rw[B? F6];rfl
theorem Awu(w a:List LB)(b f g:Int)(h:LB)(k:Bool)(m:Int)(n:LB)(o:LX)(p:LB)(hw:w.length=a.length)(hA:Dp (Le 200000) a):∀(q:Nat) (v:Int),0<=v/\v<=Aa a/\Aa a<v+q/\Aa a<=200000->Qh w a b f g h k m n o p q v a=some (b,f,g,h,n,o,a,p,k,m):=
 ind (λv hI=>by exfalso;omega) λq ih v hI=>by
  have e:Cq w a=a:=by unfold Cq;rw[hw,N2,P' F3,HX]
  rw[Qh,HB,e];by_cases h1:v<Aa a
  · have hv:v.toNat<a.length:=by unfold Aa at h1;omega
    have g1:Af a v=some a[v.toNat]:=by unfold Af;rw[B? hI.1,H' hv]
    have g2:Aa a[v.toNat]<=200000:=hA _ (N3 _);have s1:Ml a v a[v.toNat]=some a:=by
      unfold Ml;rw[B? (by unfold Aa at h1;omega),List.set_getElem_self]
    rw[B? (by rw[Qq];exact H8 h1),g1,CS,CS,v? _ F3,CS,CS,s1,CS,Gt];exact ih _ ⟨F3,F3,F3,F3⟩
  · rw[C' (by rw[Qq];simp only[zi,H4];exact h1)]
    rfl
theorem KZ(b f g:Int)(h ac:LB)(ad:LX)(a:List LB)(ae:LB)(k:Bool)(m:Int)(hP:PE ac ad a ae m):IN b f g h ac ad a ae k m=some (b,f,g,h,ac,ad,a,ae,k,m):=by
  obtain⟨h1,h2,h3,h4,h5,h6,h7⟩:=hP;have h0:0<=Aa a:=by unfold Aa;omega
  unfold IN GB;rw[v? _ F3,CS,Ahq _ F3,CS,v? _ F3,CS];unfold bM GP mkI qF;rw[B? F3,CS,show Ex (geq (Aa a) (Aa a))=some () by unfold Ex;rw[B? (by rw[Yy];simp)],CS];have hw:(List.replicate (Aa a).toNat ([]:LB)).length=a.length:=by unfold Aa;simp
  have e:Cq (List.replicate (Aa a).toNat ([]:LB)) a=a:=by unfold Cq;rw[hw,N2,P' F3,HX]
  rw[e];exact Awu _ _ _ _ _ _ _ _ _ _ _ hw h4 Ap 0 ⟨I? _,h0,by have:=Cu;omega,F3⟩
theorem aN(g h b:Int)(k m:LB)(n:LX)(o:List LB)(p:LB)(f:Bool)(a:Int)(hP:PE m n o p a):T (FA g h b k m n o p f a) (λr=>0<=r.2.2.2.2.2.2.2.2.2.2.2/\r.2.2.2.2.2.2.2.2.2.2.2<=99/\PE r.2.2.2.2.1 r.2.2.2.2.2.1 r.2.2.2.2.2.2.1 r.2.2.2.2.2.2.2.1 r.2.2.2.2.2.2.2.2.2.1/\ (r.2.2.2.2.2.2.2.2.2.2.2=0->1<=r.1/\r.1<=6/\8<=r.2.1/\r.2.1<=24/\r.2.1 %8=0/\Aa r.2.2.2.2.2.1<=4000/\Aa r.2.2.2.2.2.2.1<=1000/\1<=r.2.2.2.2.2.2.2.2.2.2.1/\r.2.2.2.2.2.2.2.2.2.2.1<=1100000/\r.2.2.2.2.2.2.2.2.2.1=0)):=
 tb (Ab4 _ _ _ _ _ _ _ _ _ _) λ_ _=>ti (λ_=>ts) λ_=>tb (KS _) λ⟨_,_⟩ _=>ti (λ_=>tQ (KZ _ _ _ _ _ _ _ _ _ _) (ts)) λ_=>ti (λ_=>tQ (KZ _ _ _ _ _ _ _ _ _ _) (ts)) λ_=>tQ (KZ _ _ _ _ _ _ _ _ _ _) (ts)
theorem Aan(a f:Int)(b:LX)(hP:True):T (QJ a f b) (λr=>0<=r/\r<=99/\ (r=0->1<=a/\a<=6/\Aa b<=4000)):=
 tb (Qg _ _) λ_ _=>ti (λ_=>ts) λ_=>tb (Vr _ _) λ_ _=>ti (λ_=>ts) λ_=>ti (λ_=>ts) λ_=>tw (ti (λ_=>ts) λ_=>ts)
theorem Aa5{N12:Nat}{Oh:Int->LX->Gj}(b a:Int)(hb:∀(a:Int) (h:LX),1<=b/\b<=6/\Aa h<=4000/\0<=a/\a<=Aa h/\Aa h<a+N12/\Aa h %b=0/\a %b=0->T (Oh a h) (λr=>0<=r.2/\r.2<=99/\Aa r.1<=4000)):∀(q:Nat) (f:Int) (g:LX),1<=b/\b<=6/\Aa g<=4000/\0<=a/\a+b<=Aa g/\Aa g<a+(N12+1)/\Aa g %b=0/\a %b=0/\0<=f/\f<b/\b<f+q->T (OV Oh b a q f g) (λr=>0<=r.2/\r.2<=99/\Aa r.1<=4000):=
 ind (λf g hI=>by exfalso;(try simp only[Aa]at *);omega) λq ih f g hI=>by
  rcases(show b=1\/b=2\/b=3\/b=4\/b=5\/b=6 by omega)with rfl|rfl|rfl|rfl|rfl|rfl<;>exact ti (λ_=>tw (tw (tg λ_=>tg λ_=>tw (te (λ_ _=>tj (ih _ _)))))) λ_=>ti (λ_=>tw (tw (tg λ_=>tg λ_=>tw (te (λ_ _=>tj (hb _ _)))))) λ_=>tj (hb _ _)
theorem Acs(b:Int):∀(q:Nat) (a:Int) (h:LX),1<=b/\b<=6/\Aa h<=4000/\0<=a/\a<=Aa h/\Aa h<a+q/\Aa h %b=0/\a %b=0->T (PM b q a h) (λr=>0<=r.2/\r.2<=99/\Aa r.1<=4000):=
 ind (λa h hI=>by exfalso;(try simp only[Aa]at *);omega) λq ih a h hI=>by
  rcases(show b=1\/b=2\/b=3\/b=4\/b=5\/b=6 by omega)with rfl|rfl|rfl|rfl|rfl|rfl<;>exact ti (λ_=>tv (tj (Aa5 _ _ ih Ap _ _))) λ_=>ts
theorem Ah2(b:Int)(o:LX)(hP:True):T (Y4 b o) (λr=>0<=r.2/\r.2<=99/\Aa r.1<=4000):=
 tb (D9 _ _) λ_ _=>ti (λ_=>ts) λ_=>tb (Td _) λ_ _=>tj (Acs _ Ap _ _)
theorem Afs(b:Int)(f g:LX)(a:Int32)(hP:Aa f=16/\Aa g=16):T (PX b f g a) (λr=>0<=r.2.2.2.2/\r.2.2.2.2<=99/\Aa r.2.2.1=16/\Aa r.2.2.2.1=16):=
 tb (uC _ _ _) λ⟨_,_⟩ _=>ti (λ_=>ts) λ_=>tb (qT _ _ _ _ _) λ⟨_,_,_⟩ _=>ts
theorem Aci(a:Int)(b:Int32)(f:Int)(g h:LX)(k:Int32)(hP:Aa g=16/\Aa h=16):T (Ux a b f g h k) (λr=>0<=r.2.2.2.2.2.2/\r.2.2.2.2.2.2<=99/\Aa r.2.2.2.2.1=16/\Aa r.2.2.2.2.2.1=16):=
 tb (mE _ _ _ _ _) λ_ _=>ti (λ_=>ts) λ_=>tb (nA _ _) λ⟨_,_⟩ _=>tb (Afs _ _ _ _) λ⟨_,_,_,_,_⟩ _=>ts
theorem Adk(a:Int32)(hP:True):T (xD a) (λ_=>True):=
 ts
theorem Ami(b:LX)(a f:Int):∀(q:Nat) (g:Int) (k:List (Int×Int32×(Int×LX×LX×Unit)×Unit)) (h:LU),0<=g/\g<= (Aa b)/\ (Aa b)<g+q/\ (Aa b)<=17179869184/\1<=a/\a<=6/\Aa b<=4000/\Aa k=6/\Dp Ui k/\Aa h=g->T (Ph b a f q g k h) (λr=>0<=r.2/\r.2<=99/\Aa r.1<=4000/\ (r.2=0->1<=a/\a<=6)):=
 ind (λg k h hI=>by exfalso;(try simp only[Aa]at *);omega) λq ih g k h hI=>ti (λ_=>tg λ_=>tg λ_=>tw (tAr (p:=Ui) λ_ _=>tAr (p:=Ui) λ_ _=>tb (Aci _ _ _ _ _ _) λ⟨_,_,_,_,_,_,_⟩ _=>ti (λ_=>ts) λ_=>tSr (p:=Ui) (λ_ _=>tb (Adk _) λ_ _=>ta (tj (ih _ _ _))))) λ_=>ts
theorem Aq7(a f:Int)(n b:LX):∀(q:Nat) (o:Int) (m:List (Int×Int32×(Int×LX×LX×Unit)×Unit)),0<=o/\o<=6/\6<o+q/\1<=a/\a<=6/\Aa n=16/\Aa b<=4000/\Aa m=6/\Dp Ui m->T (Rn a f n b q o m) (λr=>0<=r.2/\r.2<=99/\Aa r.1<=4000/\ (r.2=0->1<=a/\a<=6)):=
 ind (λo m hI=>by exfalso;(try simp only[Aa]at *);omega) λq ih o m hI=>ti (λ_=>tb (C6 _ _) λ⟨_,_,_,_,_,_⟩ _=>tA (p:=Ui) λ_ _=>tS (p:=Ui) (λ_ _=>tj (ih _ _))) λ_=>tj (Ami _ _ _ Ap _ _ _)
theorem Azu(a f:Int)(n y:LX)(hP:Aa n=16):T (JZ a f n y) (λr=>0<=r.2/\r.2<=99/\Aa r.1<=4000/\ (r.2=0->1<=a/\a<=6)):=
 tb (Aan _ _ _) λ_ _=>ti (λ_=>ts) λ_=>tb (Ah2 _ _) λ⟨_,_⟩ _=>ti (λ_=>ts) λ_=>tj (Aq7 _ _ _ _ Ap _ _)
theorem Aq3:∀(q:Nat) (b:Int) (a:List (Int×Int×UInt64×UInt64×Unit)),0<=b/\b<=6/\6<b+q/\Aa a=6->T (Rc q b a) (λr=>Aa r=6):=
 ind (λb a hI=>by exfalso;(try simp only[Aa]at *);omega) λq ih b a hI=>ti (λ_=>tb (tJ) λ⟨_,_,_,_⟩ _=>tg λ_=>te (λ_ _=>tj (ih _ _))) λ_=>ts
theorem Axq(hP:True):T (BK) (λr=>Aa r=6):=
 (by unfold BK AE OY;exact tj (Aq3 Ap _ _))
theorem D1(a:LB)(b:Int)(h:Aa a<=42000):TK a b=some (a,b):=by
  unfold TK Bk Ax qF;unfold Aa at h;rw[B? F6];rfl
theorem Adx(b:UInt64)(a:Int):∀(q:Nat) (m:UInt64) (h:Int) (f:Int) (o:LB),0<=h/\h<=64/\h<q/\0<=f/\f+h<=330000/\Aa o=(f+7)/8/\f+h<=y+64->T (IA b a q m h f o) (λr=>0<=r.2.2/\r.2.2<=99/\Aa r.1=(r.2.1+7)/8/\0<=r.2.1/\r.2.1<=330000/\ (r.2.2=0->r.2.1<=y+64)):=
 ind (λm h f o hI=>by exfalso;(try simp only[Aa]at *);omega) λq ih m h f o hI=>ti (λ_=>ti (λ_=>ta (tg λ_=>tw (tw (tg λ_=>tg λ_=>te (λ_ _=>tw (tj (ih _ _ _ _))))))) λ_=>tg λ_=>tw (tw (tg λ_=>tg λ_=>te (λ_ _=>tw (tj (ih _ _ _ _)))))) λ_=>ts
theorem Ak6(b:UInt64)(a:Int):∀(q:Nat) (n:UInt64) (k:Int) (g:Int) (p:LB),0<=k/\k<=64/\k<q/\0<=g/\g+k<=330000/\Aa p=(g+7)/8/\g+k<=y+64->T (IH b a q n k g p) (λr=>0<=r.2.2/\r.2.2<=99/\Aa r.1=(r.2.1+7)/8/\0<=r.2.1/\r.2.1<=330000/\ (r.2.2=0->r.2.1<=y+64)):=
 ind (λn k g p hI=>by exfalso;(try simp only[Aa]at *);omega) λq ih n k g p hI=>ti (λ_=>ti (λ_=>ta (tg λ_=>tw (tw (tg λ_=>tg λ_=>te (λ_ _=>tw (tj (ih _ _ _ _))))))) λ_=>tg λ_=>tw (tw (tg λ_=>tg λ_=>te (λ_ _=>tw (tj (ih _ _ _ _)))))) λ_=>ts
theorem MN(ac:LB)(y:Int)(b:UInt64)(a:Int)(hP:True):T (UO ac y b a) (λr=>0<=r.2.2/\r.2.2<=99/\Aa r.1=(r.2.1+7)/8/\0<=r.2.1/\r.2.1<=330000/\ (r.2.2=0->r.2.1<=y+64)):=
 tb (Jy _ _) λ_ _=>ti (λ_=>ts) λ_=>ti (λ_=>ts) λ_=>ti (λ_=>tw (ti (λ_=>ts) λ_=>ti (λ_=>ts) λ_=>tQ (D1 _ _) (tj (Adx _ _ Ap _ _ _ _)))) λ_=>ti (λ_=>ts) λ_=>tQ (D1 _ _) (tj (Ak6 _ _ Ap _ _ _ _))
theorem Azg(a:Int)(hP:True):T (YY a) (λr=>0<=r.2/\r.2<=99/\ (r.2=0->0<=a/\a<=48)):=
 ti (λ_=>ts) λ_=>ts
theorem mJ(b:LB)(f a:Int)(hP:True):T (iF b f a) (λr=>0<=r.2.2/\r.2.2<=99/\Aa r.1=(r.2.1+7)/8/\0<=r.2.1/\r.2.1<=330000/\ (r.2.2=0->r.2.1<=f+64)):=
 tb (Jy _ _) λ_ _=>ti (λ_=>ts) λ_=>tb (Azg _) λ⟨_,_⟩ _=>ti (λ_=>ts) λ_=>tw (tb (MN _ _ _ _) λ⟨_,_,_⟩ _=>ts)
theorem Ae8 (b:LB)(f:Int)(g:UInt32)(a:Int)(hP:True):T (oF b f g a) (λr=>0<=r.2.2/\r.2.2<=99/\Aa r.1=(r.2.1+7)/8/\0<=r.2.1/\r.2.1<=330000/\ (r.2.2=0->r.2.1<=f+128)):=
 tb (Jy _ _) λ_ _=>ti (λ_=>ts) λ_=>ti (λ_=>ts) λ_=>tw (tw (tb (jL _ _) λ_ _=>ti (λ_=>tb (mJ _ _ _) λ⟨_,_,_⟩ _=>ti (λ_=>ts) λ_=>tb (MN _ _ _ _) λ⟨_,_,_⟩ _=>ts) λ_=>tb (mJ _ _ _) λ⟨_,_,_⟩ _=>ti (λ_=>ts) λ_=>tb (MN _ _ _ _) λ⟨_,_,_⟩ _=>ts))
theorem Hn(b:UInt32)(f:Int)(a:UInt64)(k:Int)(m:LB)(n:Int)(o:UInt64)(hP:0<=f/\f<=24/\Aa m=(k+7)/8/\0<=k/\k<=330000/\k<=w+200):T (QH b f a k m n o) (λr=>0<=r.2.2.2.2.2.2/\r.2.2.2.2.2.2<=99/\Aa r.1=(r.2.1+7)/8/\0<=r.2.1/\r.2.1<=330000/\ (r.2.2.2.2.2.2=0->r.2.1<=w+200)):=
 ti (λ_=>tw (ti (λ_=>ts) λ_=>ti (λ_=>tw (ti (λ_=>ts) λ_=>ts)) λ_=>ts)) λ_=>ti (λ_=>tw (ti (λ_=>ts) λ_=>ts)) λ_=>ts
theorem GZ(b:UInt32)(f h:Int)(a g:UInt64)(ac k:Int)(m:LB)(hP:0<=f/\f<=24/\0<=h/\h<=24/\0<=ac/\ac<=99/\Aa m=(k+7)/8/\0<=k/\k<=330000/\ (ac=0->k<=w+200)):T (mT b f h a g ac k m) (λr=>0<=r.2.2.2.2.2.2/\r.2.2.2.2.2.2<=99/\Aa r.1=(r.2.1+7)/8/\0<=r.2.1/\r.2.1<=330000/\ (r.2.2.2.2.2.2=0->r.2.1<=w+200)):=
 ti (λ_=>ts) λ_=>tb (XS _ _ _ _ _) λ⟨_,_⟩ _=>ti (λ_=>ti (λ_=>tw (ti (λ_=>tj (Hn _ _ _ _ _ _ _)) λ_=>ti (λ_=>tw (ti (λ_=>tj (Hn _ _ _ _ _ _ _)) λ_=>tj (Hn _ _ _ _ _ _ _))) λ_=>tj (Hn _ _ _ _ _ _ _))) λ_=>ti (λ_=>tw (ti (λ_=>tj (Hn _ _ _ _ _ _ _)) λ_=>tj (Hn _ _ _ _ _ _ _))) λ_=>tj (Hn _ _ _ _ _ _ _)) λ_=>tj (Hn _ _ _ _ _ _ _)
theorem Ar3(v:LB)(w f h:Int)(a g:UInt64)(b:UInt32)(hP:True):T (oC v w f h a g b) (λr=>0<=r.2.2.2.2.2.2/\r.2.2.2.2.2.2<=99/\Aa r.1=(r.2.1+7)/8/\0<=r.2.1/\r.2.1<=330000/\ (r.2.2.2.2.2.2=0->r.2.1<=w+200)):=
 tb (Jy _ _) λ_ _=>ti (λ_=>ts) λ_=>tb (rS _ _ _ _) λ_ _=>ti (λ_=>ts) λ_=>tb (XS _ _ _ _ _) λ⟨_,_⟩ _=>tb (MN _ _ _ _) λ⟨_,_,_⟩ _=>ti (λ_=>tb (MN _ _ _ _) λ⟨_,_,_⟩ _=>tj (GZ _ _ _ _ _ _ _ _)) λ_=>ti (λ_=>tb (Ae8 _ _ _ _) λ⟨_,_,_⟩ _=>tj (GZ _ _ _ _ _ _ _ _)) λ_=>tj (GZ _ _ _ _ _ _ _ _)
theorem Amb{N27:Nat}{Uu:Int-> (List (Int×Int×UInt64×UInt64×Unit))->Int->LB->Bj}(b:LU)(a g h f:Int)(n:List (Int×Int×UInt64×UInt64×Unit))(m:LB)(hb:∀(f:Int) (u:List (Int×Int×UInt64×UInt64×Unit)) (v:Int) (p:LB),0<=f/\f<= (Aa b)/\ (Aa b)<f+N27/\ (Aa b)<=17179869184/\Aa b<=4000/\1<=a/\a<=6/\Aa u=6/\0<=v/\v<=200*f/\Aa p=(v+7)/8->T (Uu f u v p) (λr=>0<=r.2/\r.2<=99/\Aa r.1<=200000)):∀(q:Nat) (o:Int) (k:Int) (w:LB),Aa b<=4000/\1<=a/\a<=6/\Aa n=6/\0<=f/\f<Aa b/\Aa b<f+(N27+1)/\0<=o/\o<=h/\h<o+q/\h<=200/\Aa m=(h+7)/8/\o<=k/\k<=200*f+o/\Aa w=(k+7)/8->T (Ps Uu b a g h f n m q o k w) (λr=>0<=r.2/\r.2<=99/\Aa r.1<=200000):=
 ind (λo k w hI=>by exfalso;(try simp only[Aa]at *);omega) λq ih o k w hI=>ti (λ_=>ti (λ_=>ta (tg λ_=>tg λ_=>tw (tg λ_=>tw (tg λ_=>tg λ_=>te (λ_ _=>tj (ih _ _ _)))))) λ_=>tg λ_=>tg λ_=>tw (tg λ_=>tw (tg λ_=>tg λ_=>te (λ_ _=>tj (ih _ _ _))))) λ_=>tj (hb _ _ _ _)
theorem Amj(b:LU)(a g:Int):∀(q:Nat) (f:Int) (u:List (Int×Int×UInt64×UInt64×Unit)) (v:Int) (p:LB),0<=f/\f<= (Aa b)/\ (Aa b)<f+q/\ (Aa b)<=17179869184/\Aa b<=4000/\1<=a/\a<=6/\Aa u=6/\0<=v/\v<=200*f/\Aa p=(v+7)/8->T (Pm b a g q f u v p) (λr=>0<=r.2/\r.2<=99/\Aa r.1<=200000):=
 ind (λf u v p hI=>by exfalso;(try simp only[Aa]at *);omega) λq ih f u v p hI=>ti (λ_=>tg λ_=>tg λ_=>tw (tr λ_=>tr λ_=>tb (Ar3 _ _ _ _ _ _ _) λ⟨_,_,_,_,_,_,_⟩ _=>ti (λ_=>ts) λ_=>tw (tr λ_=>tir (λ_ _=>tj (Amb _ _ _ _ _ _ _ ih Ap _ _ _))))) λ_=>tb (Yo _) λ⟨_,_⟩ _=>ti (λ_=>ts) λ_=>tb (Pz _ _) λ⟨_,_⟩ _=>ti (λ_=>ts) λ_=>tb (tZ _ _) λ_ _=>ts
theorem UP(a g:Int)(ap aq:LX)(hP:Aa ap=16):T (CG a g ap aq) (λr=>0<=r.2/\r.2<=99/\Aa r.1<=200000):=
 tb (Azu _ _ _ _) λ⟨_,_⟩ _=>ti (λ_=>ts) λ_=>tb (Axq) λ_ _=>tj (Amj _ _ _ Ap _ _ _ _)
theorem Zm(b f g:Int)(h k:LB)(m:LX)(n:List LB)(o:LB)(p:Bool)(u a:Int)(hP:0<=a/\a<=99):T (Ty b f g h k m n o p u a) (λr=>r.2.2.2.2.2.2.2.2.2.2=a/\PE r.2.2.2.2.1 r.2.2.2.2.2.1 r.2.2.2.2.2.2.1 r.2.2.2.2.2.2.2.1 r.2.2.2.2.2.2.2.2.2.1):=
 ts
theorem Ih{N14:Nat}{Za:Int->LB->LX->List LB->Bl}(p:Int)(n:LB)(a b g:Int)(f:LB)(h:Bool)(k o:Int)(m:LB)(u ad:Int)(ae:LB)(af:LX)(ag:List LB)(hb:∀(u:Int) (y:LB) (w:LX) (v:List LB),0<=u/\u<= (Aa n)/\ (Aa n)<u+N14/\ (Aa n)<=17179869184/\Aa n<=100000/\1<=a/\a<=6/\8<=b/\b<=24/\b %8=0/\p<=18/\Aa y<=18/\Aa w<=4000+20*u/\Aa v<=1000+u/\Dp (Le 200000) v/\Aa m<=17179869184/\k=0->T (Za u y w v) (λr=>0<=r.2.2.2.2.2.2.2.2.2.2/\r.2.2.2.2.2.2.2.2.2.2<=99/\PE r.2.2.2.2.1 r.2.2.2.2.2.1 r.2.2.2.2.2.2.1 r.2.2.2.2.2.2.2.1 r.2.2.2.2.2.2.2.2.2.1))(hP:0<=ad/\ad<=99/\ (ad=0->Aa ae<=18)/\Aa af<=4000+20*(u+1)/\Aa ag<=1000+u+1/\Dp (Le 200000) ag/\0<=u/\u<Aa n/\Aa n<u+(N14+1)/\Aa n<=100000/\1<=a/\a<=6/\8<=b/\b<=24/\b %8=0/\p<=18/\Aa m<=17179869184/\k=0):T (Ku Za p n a b g f h k o m u ad ae af ag) (λr=>0<=r.2.2.2.2.2.2.2.2.2.2/\r.2.2.2.2.2.2.2.2.2.2<=99/\PE r.2.2.2.2.1 r.2.2.2.2.2.1 r.2.2.2.2.2.2.1 r.2.2.2.2.2.2.2.1 r.2.2.2.2.2.2.2.2.2.1):=
 ti (λ_=>tb (Zm _ _ _ _ _ _ _ _ _ _ _) λ⟨_,_,_,_,_,_,_,_,_,_,_⟩ _=>ts) λ_=>(by unfold Nf DH;exact tj (hb _ _ _ _))
theorem Asw(p:Int)(n:LB)(a b g:Int)(f:LB)(h:Bool)(k o:Int)(m:LB):∀(q:Nat) (u:Int) (y:LB) (w:LX) (v:List LB),0<=u/\u<= (Aa n)/\ (Aa n)<u+q/\ (Aa n)<=17179869184/\Aa n<=100000/\1<=a/\a<=6/\8<=b/\b<=24/\b %8=0/\p<=18/\Aa y<=18/\Aa w<=4000+20*u/\Aa v<=1000+u/\Dp (Le 200000) v/\Aa m<=17179869184/\k=0->T (Ks p n a b g f h k o m q u y w v) (λr=>0<=r.2.2.2.2.2.2.2.2.2.2/\r.2.2.2.2.2.2.2.2.2.2<=99/\PE r.2.2.2.2.1 r.2.2.2.2.2.1 r.2.2.2.2.2.2.1 r.2.2.2.2.2.2.2.1 r.2.2.2.2.2.2.2.2.2.1):=
 ind (λu y w v hI=>by exfalso;(try simp only[Aa]at *);omega) λq ih u y w v hI=>ti (λ_=>tg λ_=>ta (ti (λ_=>(by unfold Nf DH;exact tj (ih _ _ _ _))) λ_=>tb (Wl _ _ _ _ _ _ _ _ _ _ _) λ_ _=>tb (JL _ _ _ _ _ _ _ _ _ _ _ _) λ_ _=>ti (λ_=>tj (Ih _ _ _ _ _ _ _ _ _ _ _ _ _ _ _ ih)) λ_=>tb (Wn _ _) λ⟨_,_⟩ _=>ti (λ_=>tj (Ih _ _ _ _ _ _ _ _ _ _ _ _ _ _ _ ih)) λ_=>ta (ti (λ_=>tj (Ih _ _ _ _ _ _ _ _ _ _ _ _ _ _ _ ih)) λ_=>tb (Sp _) λ⟨_,_⟩ _=>ti (λ_=>(by unfold DY DC;exact tj (Ih _ _ _ _ _ _ _ _ _ _ _ _ _ _ _ ih))) λ_=>tb (UP _ _ _ _) λ⟨_,_⟩ _=>ti (λ_=>(by unfold DY DC;exact tj (Ih _ _ _ _ _ _ _ _ _ _ _ _ _ _ _ ih))) λ_=>ta ((by unfold TA VQ;exact tj (Ih _ _ _ _ _ _ _ _ _ _ _ _ _ _ _ ih)))))) λ_=>ts
theorem Atu(bl bm bn:Int)(bp bq:LB)(br:LX)(bs:List LB)(bt:LB)(bu:Bool)(bv:Int)(n:LB)(hP:PE bq br bs bt bv/\Aa n<=100000):T (XM bl bm bn bp bq br bs bt bu bv n) (λr=>0<=r.2.2.2.2.2.2.2.2.2.2/\r.2.2.2.2.2.2.2.2.2.2<=99/\PE r.2.2.2.2.1 r.2.2.2.2.2.1 r.2.2.2.2.2.2.1 r.2.2.2.2.2.2.2.1 r.2.2.2.2.2.2.2.2.2.1):=
 tb (aN _ _ _ _ _ _ _ _ _ _) λ⟨_,_,_,_,_,_,_,_,_,_,_,_⟩ _=>ti (λ_=>ts) λ_=>tb (US _ _) λ_ _=>tj (Asw _ _ _ _ _ _ _ _ _ _ Ap _ _ _ _)
theorem Ac8(a:LB)(hP:True):T (RH a) (λr=>0<=r.2/\r.2<=99):=
 ti (λ_=>ts) λ_=>ti (λ_=>ts) λ_=>ts
theorem Avd(b f g h k:Int):∀(q:Nat) (m:Int) (a:LB),0<=m/\m<=5/\5<m+q/\Aa a<=4+8*m->T (Wf b f g h k q m a) (λr=>0<=r.2/\r.2<=99/\Aa r.1<=100):=
 ind (λm a hI=>by exfalso;(try simp only[Aa]at *);omega) λq ih m a hI=>ti (λ_=>th λ_ _=>th λ_ _=>tb (Pz _ _) λ⟨_,_⟩ _=>ta (tj (ih _ _))) λ_=>tb (Yo _) λ⟨_,_⟩ _=>tb (Pz _ _) λ⟨_,_⟩ _=>ta (ts)
theorem Aei(b f g h k:Int)(hP:True):T (YM b f g h k) (λr=>0<=r.2/\r.2<=99/\Aa r.1<=100):=
 tb (iA _ _ _ _ _) λ_ _=>ti (λ_=>ts) λ_=>tj (Avd _ _ _ _ _ Ap _ _)
theorem Azs(a:LI):∀(q:Nat) (f:Int) (b:LB),0<=f/\f<= (Aa a)/\ (Aa a)<f+q/\ (Aa a)<=17179869184/\Aa a<=1000/\Aa b<=8*f->T (Ze a q f b) (λr=>0<=r.2/\r.2<=99/\Aa r.1<=9000):=
 ind (λf b hI=>by exfalso;(try simp only[Aa]at *);omega) λq ih f b hI=>ti (λ_=>tg λ_=>tb (Pz _ _) λ⟨_,_⟩ _=>ta (tj (ih _ _))) λ_=>tb (Yo _) λ⟨_,_⟩ _=>tb (Pz _ _) λ⟨_,_⟩ _=>ta (ts)
theorem Bad(a:LI)(hP:True):T (PH a) (λr=>0<=r.2/\r.2<=99/\Aa r.1<=9000):=
 tb (Vp _) λ_ _=>ti (λ_=>ts) λ_=>tj (Azs _ Ap _ _)
theorem OB(a:List LB)(f g h:Int)(b k:LB)(m:LX)(n:LB)(o:Bool)(p:Int)(u:LB):∀(q:Nat) (w:Int) (v:LI),0<=w/\w<= (Aa a)/\ (Aa a)<w+q/\ (Aa a)<=17179869184/\Aa a<=1001/\Dp (Le 200000) a/\Aa v=w/\Aa u<=200->T (Wq a f g h b k m n o p u q w v) (λr=>0<=r.2/\r.2<=99/\Aa r.1<=1000000000):=
 ind (λw v hI=>by exfalso;(try simp only[Aa]at *);omega) λq ih w v hI=>ti (λ_=>tg λ_=>ta (tj (ih _ _))) λ_=>tb (Bad _) λ⟨_,_⟩ _=>ti (λ_=>ts) λ_=>ta (tb (Ad6 _) λ_ _=>ta (ts))
theorem Adj(f g h:Int)(b k:LB)(m:LX)(a:List LB)(n:LB)(o:Bool)(p ak:Int)(hP:Aa a<=1001/\Dp (Le 200000) a):T (ZJ f g h b k m a n o p ak) (λr=>0<=r.2/\r.2<=99/\Aa r.1<=1000000000):=
 tb (Ac8 _) λ⟨_,_⟩ _=>ti (λ_=>ts) λ_=>tb (Aei _ _ _ _ _) λ⟨_,_⟩ _=>ti (λ_=>ts) λ_=>ti (λ_=>tb (iP _) λ⟨_,_⟩ _=>ti (λ_=>ts) λ_=>ta (tj (OB _ _ _ _ _ _ _ _ _ _ _ Ap _ _))) λ_=>tj (OB _ _ _ _ _ _ _ _ _ _ _ Ap _ _)
theorem HT(o a b g:Int)(f:LB)(k:Bool)(m:Int)(h n:LB)(ab:LX)(ac:List LB)(hP:Aa ac<=1001/\Dp (Le 200000) ac):T (BL o a b g f k m h n ab ac) (λr=>0<=r.2.2.2.2.2.2.2.2.2.2/\r.2.2.2.2.2.2.2.2.2.2<=99/\Aa r.2.2.2.2.2.2.2.1<=17179869184):=
 tb (Adj _ _ _ _ _ _ _ _ _ _ _) λ⟨_,_⟩ _=>ti (λ_=>tb (Zm _ _ _ _ _ _ _ _ _ _ _) λ⟨_,_,_,_,_,_,_,_,_,_,_⟩ _=>ts) λ_=>ts
theorem Ur(o a b g:Int)(f:LB)(k:Bool)(m:Int)(h n:LB)(ad:Int)(ae:LX)(af:List LB)(hP:0<=ad/\ad<=99/\Aa af<=1001/\Dp (Le 200000) af):T (OK o a b g f k m h n ad ae af) (λr=>0<=r.2.2.2.2.2.2.2.2.2.2/\r.2.2.2.2.2.2.2.2.2.2<=99/\Aa r.2.2.2.2.2.2.2.1<=17179869184):=
 ti (λ_=>tb (Zm _ _ _ _ _ _ _ _ _ _ _) λ⟨_,_,_,_,_,_,_,_,_,_,_⟩ _=>ts) λ_=>tj (HT _ _ _ _ _ _ _ _ _ _ _)
theorem Axg(bb bc bd:Int)(be bf:LB)(bg:LX)(bh:List LB)(bi:LB)(bj:Bool)(bk:Int)(hP:PE bf bg bh bi bk):T (JN bb bc bd be bf bg bh bi bj bk) (λr=>0<=r.2.2.2.2.2.2.2.2.2.2/\r.2.2.2.2.2.2.2.2.2.2<=99/\Aa r.2.2.2.2.2.2.2.1<=17179869184):=
 tb (aN _ _ _ _ _ _ _ _ _ _) λ⟨_,_,_,_,_,_,_,_,_,_,_,_⟩ _=>ti (λ_=>ts) λ_=>tb (Wl _ _ _ _ _ _ _ _ _ _ _) λ_ _=>ti (λ_=>tb (Zm _ _ _ _ _ _ _ _ _ _ _) λ⟨_,_,_,_,_,_,_,_,_,_,_⟩ _=>ts) λ_=>ti (λ_=>tb (Sp _) λ⟨_,_⟩ _=>ti (λ_=>tj (Ur _ _ _ _ _ _ _ _ _ _ _ _)) λ_=>tb (UP _ _ _ _) λ⟨_,_⟩ _=>ti (λ_=>tj (Ur _ _ _ _ _ _ _ _ _ _ _ _)) λ_=>ta (tj (Ur _ _ _ _ _ _ _ _ _ _ _ _))) λ_=>tj (HT _ _ _ _ _ _ _ _ _ _ _)
theorem Axb(ax av ay:Int)(az:LX)(bd:LB)(hP:True):T (JJ ax av ay az bd) (λr=>0<=r.2/\r.2<=99/\Aa r.1<=17179869184):=
 tb (tK _ _ _ _) λ_ _=>ti (λ_=>ts) λ_=>tb (Qp _ _) λ⟨_,_⟩ _=>ti (λ_=>ts) λ_=>tb (Azz _ _ _ _) λ⟨_,_,_,_,_,_,_,_,_,_,_⟩ _=>ti (λ_=>ts) λ_=>tb (Atu _ _ _ _ _ _ _ _ _ _ _) λ⟨_,_,_,_,_,_,_,_,_,_,_⟩ _=>ti (λ_=>ti (λ_=>ts) λ_=>ts) λ_=>tb (Axg _ _ _ _ _ _ _ _ _ _) λ⟨_,_,_,_,_,_,_,_,_,_,_⟩ _=>ti (λ_=>ts) λ_=>ts
end Go.Pl
set_option maxRecDepth 4000
set_option maxHeartbeats 3000000
namespace Go.Pl
open Go Go.Lv
variable{zf zb h:LB}{i:Nat}{α:Type}
theorem Ass(a e:Int)(h:0<=e/\e<=99/\Gd a):T (Ei [a] e) (λr=>Aa r<=200/\Dp Nl r):=tm (Ng _ _ ⟨h.1,h.2.1,by simp[Aa],Bc h.2.2⟩) λr hr=>⟨Y' hr.1 (by simp[Aa]),hr.2⟩
theorem Arx(a b e:Int)(h:0<=e/\e<=99/\Gd a/\Gd b):T (Ei [a,b] e) (λr=>Aa r<=200/\Dp Nl r):=tm (Ng _ _ ⟨h.1,h.2.1,by simp[Aa],all_cons h.2.2.1 (Bc h.2.2.2)⟩) λr hr=>⟨Y' hr.1 (by simp[Aa]),hr.2⟩
theorem Aru(a:UInt8)(b c e:Int)(h:0<=e/\e<=99/\Gd b/\Gd c):T (Ei [(Al a:Int),b,c] e) (λr=>Aa r<=200/\Dp Nl r):=tm (Ng _ _ ⟨h.1,h.2.1,by simp[Aa],all_cons (Hx a) (all_cons h.2.2.1 (Bc h.2.2.2))⟩) λr hr=>⟨Y' hr.1 (by simp[Aa]),hr.2⟩
theorem Ar2(a:Int)(b:UInt8)(c d e:Int)(h:0<=e/\e<=99/\Gd a/\Gd c/\Gd d):T (Ei [a,(Al b:Int),c,d] e) (λr=>Aa r<=200/\Dp Nl r):=tm (Ng _ _ ⟨h.1,h.2.1,by simp[Aa],all_cons h.2.2.1 (all_cons (Hx b) (all_cons h.2.2.2.1 (Bc h.2.2.2.2)))⟩) λr hr=>⟨Y' hr.1 (by simp[Aa]),hr.2⟩
theorem Aee(g a:LB)(k:LI)(hP:Aa k=1/\Aa g<=100000/\Aa a<=64/\ (g=zf/\a=zb\/Mu h)/\Mu h/\ (∀x,Af k 0=some x->0<=x/\x<=Aa g)):T (Ot g a k) (λr=>Aa r.2.1<=100000/\Aa r.2.2<=64/\Aa r.1<=800000000/\Dp Nl r.1/\ (r.2.1=zf/\r.2.2=zb\/Mu h)):=
 by
  obtain⟨_,_,_,_,_,_⟩:=hP;exact tE λ_ _=>tE λ_ _=>tc λ_ _=>tb (Uw _) λ_ _=>ti (λh=>absurd h F4) λ_=>ti (λ_=>tb (Bf _) λ_ _=>ts) λ_=>tb (Bw _) λ_ _=>ts
theorem Adc(w:LI)(g a:LB)(p u v:Int):∀(q:Nat) (af:Int) (ac:LX),0<=af/\af<= (Aa w)/\ (Aa w)<af+q/\ (Aa w)<=17179869184/\Aa w<=100000/\Mu h/\Aa a<=64/\Aa g<=100000/\Aa ac=af->T (Jh w g a p u v q af ac) (λr=>Aa r.2.1<=100000/\Aa r.2.2<=64/\Aa r.1<=800000000/\Dp Nl r.1/\ (r.2.1=zf/\r.2.2=zb\/Mu h)):=
 ind (λaf ac hI=>by exfalso;(try simp only[Aa]at *);omega) λq ih af ac hI=>ti (λ_=>tg λ_=>ta (tj (ih _ _))) λ_=>tb (Axb _ _ _ _ _) λ⟨_,_⟩ _=>ti (λ_=>tb (Bf _) λ_ _=>ts) λ_=>ti (λ_=>tb (Bf _) λ_ _=>ts) λ_=>tb (Bw _) λ_ _=>ts
theorem Aec(h g a:LB)(k:LI)(hP:Aa k<=100000/\Aa g<=100000/\Aa a<=64/\ (g=zf/\a=zb\/Mu h)):T (Pr h g a k) (λr=>Aa r.2.1<=100000/\Aa r.2.2<=64/\Aa r.1<=800000000/\Dp Nl r.1/\ (r.2.1=zf/\r.2.2=zb\/Mu h)):=
 by
  obtain⟨_,_,_,_⟩:=hP;exact zh (λ_=>ti (λ_=>tE λ_ _=>tE λ_ _=>ti (λ_=>tb (Bf _) λ_ _=>ts) λ_=>tE λ_ _=>tE λ_ _=>ti (λ_=>tb (Bf _) λ_ _=>ts) λ_=>tj (Aee _ _ _)) λ_=>ts) (zh (λ_=>ti (λ_=>tE λ_ _=>tE λ_ _=>tb (Adt _ _ _) λ⟨_,_,_,_,_⟩ _=>tb (Aru _ _ _ _) λ_ _=>ts) λ_=>ts) (zh (λ_=>ti (λ_=>tE λ_ _=>tE λ_ _=>tb (Zw _ _ _) λ⟨_,_⟩ _=>tb (Vw _ _) λ_ _=>ts) λ_=>ts) (zh (λ_=>ti (λ_=>tE λ_ _=>tE λ_ _=>tb (mY _ _ _) λ⟨_,_⟩ _=>tb (Vw _ _) λ_ _=>ts) λ_=>ts) (zh (λ_=>ti (λ_=>tE λ_ _=>tE λ_ _=>tb (zm _ _ _) λ⟨_,_⟩ _=>tb (Vw _ _) λ_ _=>ts) λ_=>ts) (zh (λ_=>ti (λ_=>tE λ_ _=>tE λ_ _=>ti (λ_=>tb (Bf _) λ_ _=>ts) λ_=>tE λ_ _=>tE λ_ _=>ti (λ_=>tb (Bf _) λ_ _=>ts) λ_=>tE λ_ _=>tE λ_ _=>tE λ_ _=>tE λ_ _=>tb (Alp _ _ _) λ⟨_,_⟩ _=>ti (λ_=>tb (Bf _) λ_ _=>ts) λ_=>ti (λ_=>tb (Bf _) λ_ _=>ts) λ_=>tb (Bw _) λ_ _=>ts) λ_=>ts) (zh (λ_=>ti (λ_=>tE λ_ _=>tE λ_ _=>ti (λ_=>tb (Bf _) λ_ _=>ts) λ_=>tE λ_ _=>tE λ_ _=>tE λ_ _=>tE λ_ _=>tb (Ayu _ _ _) λ⟨_,_⟩ _=>ti (λ_=>tb (Bf _) λ_ _=>ts) λ_=>ti (λ_=>tb (Bf _) λ_ _=>ts) λ_=>tb (Bw _) λ_ _=>ts) λ_=>ts) (zh (λ_=>ti (λ_=>tE λ_ _=>tE λ_ _=>tE λ_ _=>tE λ_ _=>tb (Azw _ _ _ _) λ⟨_,_⟩ _=>tb (Ass _ _) λ_ _=>ts) λ_=>ts) (zh (λ_=>ti (λ_=>tE λ_ _=>tE λ_ _=>tE λ_ _=>tE λ_ _=>tE λ_ _=>tE λ_ _=>tc λ_ _=>tj (Adc _ _ _ _ _ _ Ap _ _)) λ_=>ts) (ti (λh=>absurd h F7) λ_=>ts)))))))))
theorem Aep(h:LB)(m:List LB)(g a:LB):∀(q:Nat) (y:Int) (k:LI),0<=y/\y<= (Aa m)/\ (Aa m)<y+q/\ (Aa m)<=17179869184/\Dp (Wd 100000) m/\Aa m<=100000/\Aa g<=100000/\Aa a<=64/\ (g=zf/\a=zb\/Mu h)/\Aa k=y->T (Ke h m g a q y k) (λr=>Aa r.2.1<=100000/\Aa r.2.2<=64/\Aa r.1<=800000000/\Dp Nl r.1/\ (r.2.1=zf/\r.2.2=zb\/Mu h)):=
 ind (λy k hI=>by exfalso;(try simp only[Aa]at *);omega) λq ih y k hI=>ti (λ_=>tB (p:=Wd 100000) λ_ _ _=>tb (RW _) λ⟨_,_⟩ _=>ti (λ_=>ts) λ_=>ta (tj (ih _ _))) λ_=>tj (Aec _ _ _ _)
theorem Bi(h:LB)(m:List LB)(kh:LB)(ki:Bool)(g a:LB)(hP:Dp (Wd 100000) m/\Aa m<=100000/\Aa g<=100000/\Aa a<=64/\ (g=zf/\a=zb\/Mu h)/\ (ki=true->Aa kh<=800000000/\Dp Nl kh)):T (De h m kh ki g a) (λr=>Aa r.2.1<=100000/\Aa r.2.2<=64/\Aa r.1<=800000000/\Dp Nl r.1/\ (r.2.1=zf/\r.2.2=zb\/Mu h)):=
 by
  obtain⟨_,_,_,_,_,_⟩:=hP;exact ti (λ_=>ts) λ_=>(by unfold Zr Cm;exact tj (Aep _ _ _ _ Ap _ _))
theorem Ad8(n:List (Int×LB×Unit))(h:LB)(m:List LB)(f b:LB):∀(q:Nat) (ae:Int) (ad:List LB),0<=ae/\ae<= (Aa n)/\ (Aa n)<ae+q/\ (Aa n)<=17179869184/\Dp St n/\Aa n<=1000/\Dp (Wd 100000) m/\Aa m<=100000/\Aa f<=100000/\Aa b<=64/\ (f=zf/\b=zb\/Mu h)/\Dp (Ln 50) ad/\Aa ad<=ae->T (Jf n h m f b q ae ad) (λr=>Aa r.2.1<=100000/\Aa r.2.2<=64/\Aa r.1<=800000000/\Dp Nl r.1/\ (r.2.1=zf/\r.2.2=zb\/Mu h)):=
 ind (λae ad hI=>by exfalso;(try simp only[Aa]at *);omega) λq ih ae ad hI=>ti (λh1=>tA (p:=St) λ_ _=>tA (p:=St) λ_ _=>tb (Bw _) λx r1=>ta (tb (Bw _) λz r2=>ta (ta (ih _ _ (by
  have h0:0<=Aa ad:=by unfold Aa;omega
  have e:Ae ae 1=ae+1:=Gt;simp only[Qq,zi,H4]at h1;rw[e];exact⟨F3,F3,F3,hI.2.2.2.1,hI.2.2.2.2.1,hI.2.2.2.2.2.1,hI.2.2.2.2.2.2.1,hI.2.2.2.2.2.2.2.1,hI.2.2.2.2.2.2.2.2.1,hI.2.2.2.2.2.2.2.2.2.1,hI.2.2.2.2.2.2.2.2.2.2.1,Ad hI.2.2.2.2.2.2.2.2.2.2.2.1 (Bc ⟨by have:=r1.1;have:=r2.1;unfold Aa at *;simp only[BP,J9];omega,Ad (Ad r1.2 (Cj F4)) r2.2⟩),by have:=hI.2.2.2.2.2.2.2.2.2.2.2.2;unfold Aa at *;simp only[BP,J9];omega⟩))))) λ_=>tb (jR (zn:=50) _ _) λ_ _=>(by unfold Je Gk;exact tj (Bi _ _ _ _ _ _))
theorem Aem(h:LB)(m:List LB)(f b:LB)(hP:Dp (Wd 100000) m/\Aa m<=100000/\Aa f<=100000/\Aa b<=64/\ (f=zf/\b=zb\/Mu h)):T (Pp h m f b) (λr=>Aa r.2.1<=100000/\Aa r.2.2<=64/\Aa r.1<=800000000/\Dp Nl r.1/\ (r.2.1=zf/\r.2.2=zb\/Mu h)):=
 by
  obtain⟨_,_,_,_,_⟩:=hP;exact ti (λ_=>tB (p:=Wd 100000) λ_ _ _=>ti (λ_=>tb (Bf _) λ_ _=>tj (Bi _ _ _ _ _ _)) λ_=>tB (p:=Wd 100000) λ_ _ _=>tj (Bi _ _ _ _ _ _)) λ_=>ti (λ_=>tB (p:=Wd 100000) λ_ _ _=>tb (Ab5 _) λ⟨_,_⟩ _=>ti (λ_=>tj (Bi _ _ _ _ _ _)) λ_=>zh (λ_=>tb (tZ _ _) λ_ _=>ti (λh=>absurd h F4) λ_=>ti (λ_=>tb (Bf _) λ_ _=>(by unfold CA Pu;exact tj (Bi _ _ _ _ _ _))) λ_=>tb (Bw _) λ_ _=>(by unfold AN Pd;exact tj (Bi _ _ _ _ _ _))) (ti (λh=>absurd h F4) λ_=>ti (λ_=>tb (Bf _) λ_ _=>(by unfold Yu Np;exact tj (Bi _ _ _ _ _ _))) λ_=>tb (Bw _) λ_ _=>(by unfold Xz Nj;exact tj (Bi _ _ _ _ _ _)))) λ_=>ti (λ_=>tb (Abj _) λ⟨_,_⟩ _=>ti (λ_=>tj (Bi _ _ _ _ _ _)) λ_=>zh (λ_=>tb (A_ _ _ _) λ⟨_,_,_⟩ _=>tb (Arx _ _ _) λ_ _=>tj (Bi _ _ _ _ _ _)) (tb (cE _ _ _) λ⟨_,_,_,_,_,_,_,_,_,_,_,_,_,_⟩ _=>ti (λ_=>tb (Bf _) λ_ _=>(by unfold Je Gk;exact tj (Bi _ _ _ _ _ _))) λ_=>tj (Ad8 _ _ _ _ _ Ap _ _))) λ_=>(by unfold Zy Pq;exact tj (Bi _ _ _ _ _ _))
theorem Aeb(h:LB)(m:List LB)(f b:LB)(hP:Dp (Wd 100000) m/\Aa m<=100000/\Aa f<=100000/\Aa b<=64/\ (f=zf/\b=zb\/Mu h)):T (Ox h m f b) (λr=>Aa r.2.1<=100000/\Aa r.2.2<=64/\Aa r.1<=800000000/\Dp Nl r.1/\ (r.2.1=zf/\r.2.2=zb\/Mu h)):=
 by
  obtain⟨_,_,_,_,_⟩:=hP;exact ti (λ_=>zh (λ_=>ts) (zh (λ_=>ti (λh=>absurd h F4) λ_=>ti (λh=>absurd h F4) λ_=>tb (Bw _) λ_ _=>ts) (zh (λ_=>tb (Vw _ _) λ_ _=>ts) (zh (λ_=>tb (Afj _ _) λ⟨_,_,_,_,_,_,_,_,_,_,_,_⟩ _=>ti (λ_=>tb (Bf _) λ_ _=>ts) λ_=>tb (yT _ _ _ _ _ _ _ _ _ _ _) λ⟨_,_⟩ _=>ti (λ_=>tb (Bf _) λ_ _=>ts) λ_=>tb (Am8 _ _) λ_ _=>tb (Amh _ _ _) λ_ _=>ts) (zh (λ_=>tb (nD _ _) λ⟨_,_,_,_,_⟩ _=>tb (Ar2 _ _ _ _ _) λ_ _=>ts) (zh (λ_=>tb (UI _ _) λ⟨_,_,_,_,_⟩ _=>tb (AP _ _ _ _ _) λ_ _=>ts) (zh (λ_=>tb (Ady _ _) λ⟨_,_⟩ _=>tb (Ng _ _) λ_ _=>ts) (zh (λ_=>tb (bF _ _ _) λ⟨_,_,_,_,_,_⟩ _=>tb (AP _ _ _ _ _) λ_ _=>ts) (zh (λ_=>tb (bF _ _ _) λ⟨_,_,_,_,_,_⟩ _=>tb (AP _ _ _ _ _) λ_ _=>ts) (zh (λ_=>tb (Ach _ _) λ⟨_,_⟩ _=>tb (Vw _ _) λ_ _=>ts) (ts))))))))))) λ_=>tj (Aem _ _ _ _)
theorem Amk(zf zb h:LB)(m:List LB)(hP:Dp (Wd 100000) m/\Aa m<=100000/\Aa zf<=100000/\Aa zb<=64):T (Kx zf zb (h::m)) (λr=>Aa r.2.1<=100000/\Aa r.2.2<=64/\Aa r.1<=800000000/\Dp Nl r.1/\ (r.2.1=zf/\r.2.2=zb\/Mu h)):=by
  unfold Kx Rb;have e1:Af (h::m) (0:Int)=some h:=rfl;have e2:Bg (h::m) 1 (Aa (h::m))=some m:=by
    unfold Bg Aa;rw[B? (by simp only[C_];omega),I6,N2];rfl
  rw[e1,CS,e2,CS];exact Aeb _ _ _ _ ⟨hP.1,hP.2.1,hP.2.2.1,hP.2.2.2, .inl ⟨rfl,rfl⟩⟩
theorem whl:Aa ([119,104,97,116]:LB)<=800000000:=by simp[Aa]
theorem wh:Dp Nl [119,104,97,116]:=Cj F4
theorem Avs(f b h:LB)(hf:Aa f<=100000/\Aa b<=64)(xs:List LB):∀m:List LB,Dp (Le 100000) xs->Dp (Wd 100000) (h::m)->Aa m+Aa xs<=99999->T (Jj f b xs (h::m)) (λr=>Aa r.2.1<=100000/\Aa r.2.2<=64/\Aa r.1<=800000000/\Dp Nl r.1/\ (r.2.1=f/\r.2.2=b\/Mu h)):=by
  induction xs with
  |nil=>exact λm _ h2 h3=>Amk f b h m ⟨λx hx=>h2 x (I5 _ hx),by unfold Aa at *;simp at h3;omega,hf.1,hf.2⟩
  |cons x xs ih=>
    intro m h1 h2 h3;unfold Jj;refine ti (λ_=>⟨_,rfl,hf.1,hf.2,whl,wh, .inl ⟨rfl,rfl⟩⟩) λhx=>ta ?_ (by unfold Aa at *;simp only[C_,D']at *;omega);have hx1:1<=Aa x:=by
      cases x with
      |nil=>cases hx
      |cons a l=>unfold Aa;simp only[C_];omega
    exact ih (m++[x]) (λy hy=>h1 y (I5 _ hy)) (Ad h2 (Bc ⟨hx1,h1 x (I8 ..)⟩)) (by unfold Aa at *;simp only[C_,BP,D']at *;omega)
theorem pR(c:UInt8):∀(q:Nat) (s:LB),s.length<q->Dp (Le (Aa s)) (Pw c q s)/\ (Pw c q s).length<=s.length+1
  |0,s,h=>absurd h (lN _)
  |q+1,s,h=>by
    unfold Pw;have hb:=Z_ s c;split
    · exact⟨Bc (I? _),F7⟩
    · rename_i h1
      simp only[Qq,zi,H4]at h1;unfold Aa at hb;have hd:(s.drop ((Gb s c).toNat+1)).length=s.length-((Gb s c).toNat+1):=E8;have k:=pR c q (s.drop ((Gb s c).toNat+1)) F3;refine⟨all_cons (by unfold Le Aa;rw[D_];omega) λx hx=>?_,by rw[C_];omega⟩;have:=k.1 x hx;unfold Le Aa at *;omega
theorem Ab0(f b dq:LB)(hP:Aa f<=100000/\Aa b<=64/\Aa dq<=50000):T (Fu f b dq) (λr=>Aa r.2.1<=100000/\Aa r.2.2<=64/\Aa r.1<=800000000/\Dp Nl r.1/\ (r.2.1=f/\r.2.2=b\/∃h,(Pw 32 (dq.length+1) dq).head? =some h/\Mu h)):=by
  have k:=pR 32 (dq.length+1) dq (X9 _);unfold Fu p!;rw[Option.bind_assoc];refine tw ?_ (H8 F3);rw[CS];cases hs:Pw 32 (dq.length+1) dq with
  |nil=>
    unfold Pw at hs;split at hs<;>cases hs
  |cons x xs=>
    rw[hs]at k;unfold Jj;refine ti (λ_=>⟨_,rfl,hP.1,hP.2.1,whl,wh, .inl ⟨rfl,rfl⟩⟩) λhx=>ta ?_ Y0;have hx1:1<=Aa x:=by
      cases x with
      |nil=>cases hx
      |cons a l=>unfold Aa;simp only[C_];omega
    have hle:∀y∈x::xs,Aa y<=100000:=λy hy=>by
      have:=k.1 y hy;unfold Le at this;omega
    refine tm (Avs f b x ⟨hP.1,hP.2.1⟩ xs [] (λy hy=>hle y (I5 _ hy)) (Bc ⟨hx1,hle x (I8 ..)⟩) (by have:=k.2;unfold Aa at *;simp only[C_,D']at *;omega)) λy hy=>⟨hy.1,hy.2.1,hy.2.2.1,hy.2.2.2.1,hy.2.2.2.2.imp id λhm=>⟨x,rfl,hm⟩⟩
def outs(f b:LB):List LB->List LB
 |[]=>[]
 |l::ls=>match Fu f b l with
  |some r=>r.1::outs r.2.1 r.2.2 ls
  |none=>[]
def held(f b:LB):List LB->LB×LB
 |[]=>(f,b)
 |l::ls=>match Fu f b l with
  |some r=>held r.2.1 r.2.2 ls
  |none=>(f,b)
def Qf:List LB->LB
 |[]=>[]
 |l::ls=>l++10::Qf ls
def Ok2(f b:LB):Prop:=Aa f<=100000/\Aa b<=64
def Ls(l:LB):Prop:=Dp Nl l/\Aa l<=3000
theorem ord{f b l:LB}(h:Ok2 f b)(hl:Aa l<=3000):∃r,Fu f b l=some r/\Ok2 r.2.1 r.2.2/\Aa r.1<=800000000/\Dp Nl r.1/\ (r.2.1=f/\r.2.2=b\/∃h,(Pw 32 (l.length+1) l).head? =some h/\Mu h):=by
 obtain⟨r,e,h1,h2,h3,h4,h5⟩:=Ab0 f b l ⟨h.1,h.2,F3⟩;exact⟨r,e,⟨h1,h2⟩,h3,h4,h5⟩
theorem su(l m:List LB):Qf (l++m)=Qf l++Qf m:=by
 induction l with
 |nil=>rfl
 |cons x l ih=>simp only[M0,Qf,ih,J2]
theorem trim(l:LB)(hl:Aa l<=3000):Gc (l++[10]) [10]=some l:=by
 have e1:Aa (l++[10])=Aa l+1:=by unfold Aa;simp
 have h0:0<=Aa l:=by unfold Aa;omega
 have e2:Aa ([10]:LB)=1:=rfl;have c1:Bg (l++[10]) (Aa l) (Aa l+1)=some [10]:=by
  unfold Bg Aa;rw[B? F6,show((l.length:Int)+1).toNat=(l++[10]).length by simp,N2];simp
 have c2:Bg (l++[10]) 0 (Aa l)=some l:=by
  unfold Bg Aa;rw[B? F6];simp
 have e3:As (Aa l+1) 1=Aa l:=by rw[DS];omega
 unfold Gc Eo Cy;rw[e1,e2,e3,B? (by rw[Yn];exact H8 (by show 1<=Aa l+1;omega)),c1,CS,CS,B? F4,c2];rfl
theorem At8(ls:List LB):∀(f b a:LB),Ok2 f b->Dp Ls ls->Aa a+800000001*Aa ls<=17179869184->Mr (ls.map (· ++[10])) f b a=some (a++Qf (outs f b ls),0):=by
 induction ls with
 |nil=>
  intro f b a _ _ ha;rw[P?,Mr,Ex,B? (H8 (by unfold Aa at *;simp at ha;omega))];simp[outs,Qf]
 |cons l ls ih=>
  intro f b a h hl ha;obtain⟨⟨m,n,o⟩,e,h1,h2,_⟩:=ord h (hl l (I8 ..)).2;simp only at h1 h2;have h3:Aa (l::ls)=Aa ls+1:=by unfold Aa;simp
  have h4:0<=Aa ls:=by unfold Aa;omega
  have h5:Aa (a++(m++[10]))=Aa a+Aa m+1:=by unfold Aa;simp;omega
  have h6:0<=Aa a:=by unfold Aa;omega
  have ih:=ih n o (a++(m++[10])) h1 (λx hx=>hl x (I5 _ hx)) F3;rw[I2,Mr,trim l (hl l (I8 ..)).2,CS,e,CS];unfold Aa at*
  simp only;rw[GW XN,CS,GW lg,CS,ih];simp[outs,e,Qf]
theorem uN:∀(l s:LB),Dp Nl l->Gb (l++10::s) 10=Aa l
 |[],s,_=>rfl
 |x::l,s,h=>by
  have hx:x≠10:=h x (I8 ..);have ih:=uN l s λy hy=>h y (I5 _ hy);rw[M0,Gb,C' (by simp[hx]),ih,C' Y0];unfold Aa;simp
theorem x_:∀(ls:List LB) (q:Nat),Dp Ls ls-> (Qf ls).length<q->Un q (Qf ls)=ls.map (· ++[10])
 |[],q,_,h=>by
  cases q with
  |zero=>omega
  |succ q=>rfl
 |l::ls,q,h,hq=>by
  cases q with
  |zero=>omega
  |succ q=>
   have hl:=h l (I8 ..);have i:=uN l (Qf ls) hl.1;have ih:=x_ ls q (λx hx=>h x (I5 _ hx)) (by rw[Qf]at hq;simp at hq;omega);have h0:0<=Aa l:=by unfold Aa;omega
   have e:Qf (l::ls)=l++10::Qf ls:=rfl;rw[e];cases hc:l++10::Qf ls with
   |nil=>cases l<;>cases hc
   |cons c s=>
    rw[hc]at i;rw[Un,i,C' (by rw[Qq];simp only[zi,H4];omega),<-hc];have e1:(Aa l).toNat+1=(l++[10]).length:=by unfold Aa;simp
    have e2:l++10::Qf ls=(l++[10])++Qf ls:=by simp
    rw[e1,e2,List.take_left,U2,ih,I2]
theorem j_:∀ls,Dp Ls ls-> (Qf ls).count 10=ls.length
 |[],_=>rfl
 |l::ls,h=>by
  have ih:=j_ ls λx hx=>h x (I5 _ hx);have:l.count 10=0:=List.count_eq_zero.2 λhm=>(h l (I8 ..)).1 10 hm rfl;rw[Qf,List.count_append,List.count_cons,this,ih,C_];simp
theorem Ae9(ls:List LB)(h:ls≠ [])(hl:Aa (Qf ls)<=3000):Rm (Qf ls) [10]=some true:=by
 have e:∃s,Qf ls=s++[10]:=by
  clear hl
  induction ls with
  |nil=>exact absurd rfl h
  |cons l ls ih=>
   cases ls with
   |nil=>exact⟨l,rfl⟩
   |cons m ls=>
    obtain⟨s,e⟩:=ih F7;exact⟨l++10::s,by rw[Qf,e];simp⟩
 obtain⟨s,e⟩:=e;rw[e]at hl⊢;have e1:Aa (s++[10])=Aa s+1:=by unfold Aa;simp
 have h0:0<=Aa s:=by unfold Aa;omega
 have e2:Aa ([10]:LB)=1:=rfl;have c1:Bg (s++[10]) (Aa s) (Aa s+1)=some [10]:=by
  unfold Bg Aa;rw[B? F6,show((s.length:Int)+1).toNat=(s++[10]).length by simp,N2];simp
 have e3:As (Aa s+1) 1=Aa s:=by rw[DS];omega
 unfold Rm Cy;rw[e1,e2,e3,B? (by rw[Yn];exact H8 (by show 1<=Aa s+1;omega)),c1,CS,CS];rfl
theorem Asq{ls:List LB}(h:ls≠ []):(Qf ls !=([]:LB))=true:=by
 cases ls with
 |nil=>exact absurd rfl h
 |cons l ls=>rw[Qf];cases l<;>rfl
theorem Ahv(ls:List LB)(h:Dp Ls ls)(hl:Aa (Qf ls)<=3000)(hn:ls.length<=40):Qj (Qf ls)=some 0:=by
 have hc:strings_Count (Qf ls) [10]=some (ls.length:Int):=by
  rw[<-j_ ls h];rfl
 unfold Qj WQ;rw[C' (by rw[Uf];simp only[zi,H4];omega),hc,CS,C' (by rw[Uf];simp only[zi,H4];omega)];unfold RQ VC;by_cases h0:ls=[]
 ·subst h0;rfl
 ·rw[B? (Asq h0),Ae9 ls h0 hl];rfl
theorem Anh(ls:List LB)(h:Dp Ls ls)(hl:Aa (Qf ls)<=3000)(hn:ls.length<=20):Ye (Qf ls)=some (Qf (outs [] [] ls),0):=by
 unfold Ye;rw[Ahv ls h hl F3,CS,C' F4];unfold L? Ex;rw[B? (H8 F3),CS,CS,x_ ls _ h (X9 _),At8 ls [] [] [] ⟨F4,F4⟩ h mh];rfl
theorem Z8:∀(ls:List LB) (f b:LB),Ok2 f b->Dp Ls ls-> (outs f b ls).length=ls.length/\Dp (Dp Nl) (outs f b ls)/\Ok2 (held f b ls).1 (held f b ls).2
 |[],f,b,h,_=>⟨rfl,all_nil,h⟩
 |l::ls,f,b,h,hl=>by
  obtain⟨r,e,h1,h2,h3,_⟩:=ord h (hl l (I8 ..)).2;have ih:=Z8 ls r.2.1 r.2.2 h1 λx hx=>hl x (I5 _ hx);simp only[outs,held,e];exact⟨by rw[C_,C_,ih.1],all_cons h3 ih.2.1,ih.2.2⟩
theorem F8{p:Prop}(h:p:=by simp only[zi];unfold Aa;omega):p:=h
theorem CJ{l:List α}(h:i<l.length):Af l (i:Int)=some l[i]:=by
  unfold Af;rw[B? F3,I6,H' h]
theorem sw{l:List α}(h:i<l.length):Bu (i:Int) (Aa l)=true:=by rw[Qq];exact H8 F8
theorem zI{l:List α}(h:¬i<l.length):¬Bu (i:Int) (Aa l)=true:=by rw[Qq];simp only[zi,H4];unfold Aa;omega
theorem eq8(x y:UInt8):(geq x y=true)=(x=y):=by
  rw[Yy,H4,z8,z8];exact propext ⟨λh=>UInt8.toNat_inj.1 F3,λh=>by rw[h]⟩
theorem Aev(a:LB)(ha:a.length<=9223372036854775807):∀(q i:Nat),i<=a.length/\a.length<i+q->Hy a q (((a.take i).count 10:Nat):Int) i=Lj a ((a.count 10:Nat):Int):=
 ind (λi hI=>by exfalso;omega) λq ih i hI=>by
  rw[Hy,Qz];by_cases h:i<a.length
  · have k:=ih (i+1) ⟨F3,F3⟩
    have hc:=List.count_le_length (a:=10) (l:=a.take i);rw[D_]at hc;rw[DI h,List.count_append,List.count_singleton]at k;have e1:Ae (i:Int) 1=((i+1:Nat):Int):=by rw[Gt];omega
    rw[B? (sw h),CJ h,CS,e1];by_cases hx:a[i]=10
    · rw[hx]at k
      rw[B? (by rw[eq8];exact hx),Gt];exact k
    · have hb:(a[i]==10)=false:=by simp[hx]
      rw[C' (by rw[eq8];exact hx)];rw[hb]at k;exact k
  · rw[C' (zI h),K1 F3]
    rfl
theorem Akl(a:LB)(ha:a.length<=9223372036854775807):Gf a=Lj a ((a.count 10:Nat):Int):=
  Aev a ha Ap 0 ⟨F3,by have:=Cu;omega⟩
theorem R5(a P l R:LB)(h:a=P++l++10::R)(hl:Dp Nl l)(ha:a.length<=17179869184)(f:List LB)(hf:f.length<=1000000):∀(n q:Nat),n<=l.length->Cf a (q+n+1) P.length ((P.length+l.length-n:Nat):Int) f=Cf a q ((P.length+l.length+1:Nat):Int) ((P.length+l.length+1:Nat):Int) (f++[l])
  |0,q,hn=>by
    have e1:a.length=P.length+l.length+1+R.length:=by rw[h];simp;omega
    have e2:a[P.length+l.length]' F3=10:=by
      simp only[h];rw[yA F7];simp
    have e3:Bg a (P.length:Int) ((P.length+l.length:Nat):Int)=some l:=by
      unfold Bg;rw[B? F3,I6,I6,h,kV F7,K1 F7,U2]
    show Cf a (q+1) _ _ f=_;rw[Cf,Hw,Xk,B? (sw F3),CJ F3,CS,e2,B? (by rw[eq8]),e3,CS,GW F6,CS,Gt];rfl
  |n+1,q,hn=>by
    have e1:a.length=P.length+l.length+1+R.length:=by rw[h];simp;omega
    have hi:P.length+l.length-(n+1)<a.length:=F3
    have e2:Nl a[P.length+l.length-(n+1)]:=by
      refine hl _ ?_;simp only[h];rw[List.getElem_append_left F6,yA F3];exact N3 _
    have ih:=R5 a P l R h hl ha f hf n q F3;have e4:Ae ((P.length+l.length-(n+1):Nat):Int) 1=((P.length+l.length-n:Nat):Int):=by rw[Gt];omega
    show Cf a ((q+n+1)+1) _ _ f=_;rw[Cf,Hw,B? (sw hi),CJ hi,CS,C' (by rw[eq8];exact e2),e4];exact ih
theorem qb(a:LB)(ha:a.length<=17179869184):∀(ls:List LB) (P:LB) (f:List LB) (q:Nat),a=P++Qf ls->Dp (Dp Nl) ls-> (Qf ls).length<q->f.length+ls.length<=1000000->Cf a q P.length P.length f=some (f++ls)
  |[],P,f,q,h,hl,hq,hf=>by
    cases q with
    |zero=>omega
    |succ q=>
      have e:a.length=P.length:=by rw[h];simp[Qf]
      rw[Cf,Hw,C' (zI F3)];simp[Ra,CV]
  |l::ls,P,f,q,h,hl,hq,hf=>by
    have e:(Qf (l::ls)).length=l.length+(Qf ls).length+1:=by rw[Qf];simp;omega
    have h2:a=P++l++10::Qf ls:=by rw[h,Qf];simp
    have h3:a=(P++l++[10])++Qf ls:=by rw[h2];simp
    simp only[C_]at hf;have k:=R5 a P l (Qf ls) h2 (hl l (I8 ..)) ha f F3 l.length (q-l.length-1) (G? _);have ih:=qb a ha ls (P++l++[10]) (f++[l]) (q-l.length-1) h3 (λx hx=>hl x (I5 _ hx)) F3 F6;rw[show q-l.length-1+l.length+1=q by omega,Nat.add_sub_cancel]at k;have e5:((P++l++[10]).length:Int)=((P.length+l.length+1:Nat):Int):=by simp;omega
    rw[e5]at ih;rw[k,ih];simp
theorem Y!(ls:List LB):ls.length<= (Qf ls).length:=by
  induction ls with
  |nil=>exact G? _
  |cons l ls ih=>rw[Qf,BP,C_,C_];omega
theorem wP(ls:List LB)(hl:Dp (Dp Nl) ls)(h:(Qf ls).length<=17179869184)(hn:ls.length<=1000000):Ij (Qf ls)=some ls:=
  qb (Qf ls) h ls [] [] Ap rfl hl (by have:=Cu;omega) F6
theorem uS:∀(n:Nat) (a:LB),a.length<=n-> (a=[]\/a.getLast? =some 10)->∃ls,Dp (Dp Nl) ls/\a=Qf ls
  |0,a,hn,_=>⟨[],all_nil,by cases a with|nil=>rfl|cons x l=>simp at hn⟩
  |n+1,a,hn,h=>by
    rcases h with rfl|h
    · exact⟨[],all_nil,rfl⟩
    · have h10:10∈a:=List.mem_of_getLast? h
      obtain⟨l,r,e,hl⟩:∃l r,a=l++10::r/\Dp Nl l:=by
        clear h hn
        induction a with
        |nil=>cases h10
        |cons x s ih=>
          by_cases hx:x=10
          · exact⟨[],s,by rw[hx];rfl,all_nil⟩
          · obtain⟨l,r,e,hl⟩:=ih ((List.mem_cons.1 h10).resolve_left λe=>hx e.symm)
            exact⟨x::l,r,by rw[e];rfl,all_cons hx hl⟩
      have hr:r=[]\/r.getLast? =some 10:=by
        cases r with
        |nil=>exact .inl rfl
        |cons x s=>
          refine .inr ?_;rw[e,List.getLast?_append,List.getLast?_cons_cons]at h;cases hs:(x::s).getLast? with
          |none=>simp at hs
          |some z=>rw[hs]at h;exact h
      obtain⟨ls,k1,k2⟩:=uS n r (by rw[e]at hn;simp at hn;omega) hr;exact⟨l::ls,all_cons hl k1,by rw[e,k2];rfl⟩
theorem Aje(a:LB)(ha:a.length<=9223372036854775807):Gf a=some 4\/Gf a=some 12\/ (Gf a=some 0/\ (a=[]\/a.getLast? =some 10)):=by
  rw[Akl a ha];unfold Lj;split
  · exact .inl rfl
  · cases a with
    |nil=>exact .inr (.inr ⟨rfl, .inl rfl⟩)
    |cons x s=>
      have hl:As (Aa (x::s)) 1=(s.length:Int):=by
        rw[show Aa (x::s)=(s.length:Int)+1 from by unfold Aa;simp,DS (by simp at ha;omega) (by simp at ha;omega)];omega
      have hg:Af (x::s) (s.length:Int)=some ((x::s).getLast F7):=by
        rw[CJ F7,List.getLast_eq_getElem];rfl
      rw[B? (by rw[Uf];exact H8 (by simp only[zi];unfold Aa;simp)),hl,hg,CS];split
      · exact .inr (.inl rfl)
      · rename_i h
        refine .inr (.inr ⟨rfl, .inr ?_⟩);have h2:(x::s).getLast F7=10:=by
          simp only[Uh,z8,H4,E6,Decidable.not_not]at h;exact UInt8.toNat_inj.1 F3
        rw[List.getLast?_eq_some_getLast F7,h2]
theorem Apa(a:LB)(ha:a.length<=9223372036854775807):Od a=some false\/ (Od a=some true/\∃ls,Dp Ls ls/\a=Qf ls/\ (Qf ls).length<=800/\ls.length<=15):=by
  unfold Od Xf;rcases Aje a ha with h|h|⟨h,hl⟩
  · rw[h];simp only[CS];left
    rw[B? F4];simp only[CS];split<;>rfl
  · rw[h];simp only[CS];left
    rw[B? F4];simp only[CS];split<;>rfl
  · rw[h];simp only[CS]
    rw[C' F4];by_cases h8:a.length<=800
    · obtain⟨ls,k1,rfl⟩:=uS a.length a (G? _) hl
      have hn:=Y! ls;rw[C' (by rw[Uf];simp only[zi,H4];unfold Aa;omega),wP ls k1 F3 F3,CS,CS];by_cases h15:ls.length<=15
      · right
        refine⟨?_,ls,λx hx=>⟨k1 x hx,?_⟩,rfl,h8,h15⟩
        · rw[show Dr (Aa ls) 15=false by rw[Uf];exact lL F8];rfl
        · have:∀m:List LB,x∈m->x.length<= (Qf m).length:=λm hm=>by
            induction m with
            |nil=>cases hm
            |cons y m ih=>
              rw[Qf,BP,C_];rcases List.mem_cons.1 hm with rfl|hm
              · omega
              · have:=ih hm;omega
          have:=this ls hx;unfold Aa;omega
      · left
        rw[show Dr (Aa ls) 15=true by rw[Uf];exact H8 F8];rfl
    · left
      rw[B? (by rw[Uf];exact H8 F8)];rfl
theorem rZ:∀(ls:List LB) (f b:LB),Ok2 f b->Dp Ls ls-> (Qf (outs f b ls)).length<=800000001*ls.length
  |[],f,b,h,_=>by simp[outs,Qf]
  |l::ls,f,b,h,hl=>by
    obtain⟨r,e,h1,h2,h3,_⟩:=ord h (hl l (I8 ..)).2;have ih:=rZ ls r.2.1 r.2.2 h1 λx hx=>hl x (I5 _ hx);simp only[outs,e,Qf];unfold Aa at h2;rw[BP,C_,C_];omega
theorem pD:∀ls:List LB,ls≠ []-> (Qf ls).getLast? =some 10
  |[],h=>absurd rfl h
  |[l],_=>by simp[Qf]
  |l::m::ls,_=>by
    have ih:=pD (m::ls) F7;rw[Qf,List.getLast?_append];have e:(10::Qf (m::ls)).getLast? =some 10:=by
      rw[List.getLast?_cons,ih];rfl
    rw[e];rfl
theorem ok0:Ok2 [] []:=⟨by simp[Aa],by simp[Aa]⟩
theorem nO(ls:List LB)(h:Dp Ls ls)(hl:(Qf ls).length<=3000)(hn:ls.length<=20):Ld (Qf ls)=some (outs [] [] ls,true):=by
  have k:=Z8 ls [] [] ok0 h;have kb:=rZ ls [] [] ok0 h;have hs:=wP (outs [] [] ls) k.2.1 F3 F3;unfold Ld;rw[Anh ls h M5 hn,CS];simp only;rw[C' F4];generalize outs [] [] ls=o at*
  by_cases h0:o=[]
  · subst h0;rfl
  · have hl2:=pD o h0
    cases ht:Qf o with
    |nil=>rw[ht]at hl2;cases hl2
    |cons x s=>
      rw[ht]at hl2 hs kb;rw[C_]at kb;have hl:As (Aa (x::s)) 1=(s.length:Int):=by
        rw[show Aa (x::s)=(s.length:Int)+1 from by unfold Aa;simp,DS];omega
      have hg:Af (x::s) (s.length:Int)=some 10:=by
        rw[CJ F7,<-hl2,List.getLast?_eq_getElem?,H' F7];simp
      rw[B? (by rw[Uf];exact H8 (by simp only[zi];unfold Aa;simp)),hl,hg,CS,C' F4,hs,CS]
theorem Adb(a:List LB)(ha:(Qf a).length<=1000000)(hn:a.length<=1000000):∀(q i:Nat),i<=a.length/\a.length<i+q->Gz a q (Qf (a.take i)) i=some (Qf a):=
 ind (λi hI=>by exfalso;omega) λq ih i hI=>by
  rw[Gz,Oq];by_cases h:i<a.length
  · have k:=ih (i+1) ⟨F3,F3⟩
    have e:Qf (a.take (i+1))=Qf (a.take i)++(a[i]++[10]):=by rw[DI h,su];rfl
    have hle:(Qf (a.take (i+1))).length<= (Qf a).length:=by
      have:Qf a=Qf (a.take (i+1))++Qf (a.drop (i+1)):=by rw[<-su,WN]
      rw[this,BP];omega
    rw[e,BP,BP,J9]at hle;rw[e]at k;rw[B? (sw h),CJ h,CS,GW XN,CS,GW lg,CS,Gt];exact k
  · rw[C' (zI h),K1 F3]
    rfl
theorem Ajn(a:List LB)(ha:(Qf a).length<=1000000):Ut a=some (Qf a):=
  Adb a ha (by have:=Y! a;omega) Ap 0 ⟨F3,by have:=Y! a;have:=Cu;omega⟩
theorem Ai5(a:List LB)(hn:a.length<=1000000):∀(q i:Nat),i<=a.length/\a.length<i+q->Jc a a q i=some true:=
 ind (λi hI=>by exfalso;omega) λq ih i hI=>by
  rw[Jc,So];by_cases h:i<a.length
  · have k:=ih (i+1) ⟨F3,F3⟩
    rw[B? (sw h),CJ h,CS,CS,C' F7,Gt];exact k
  · rw[C' (zI h)]
    rfl
theorem Ao0(a:List LB)(hn:a.length<=1000000):Rj a a=some true:=by
  unfold Rj Rv;rw[C' (by rw[Uh];simp)];exact Ai5 a hn Ap 0 ⟨F3,by have:=Cu;omega⟩
end Go.Pl
set_option maxRecDepth 100000
namespace Go.Pl
open Go Go.Lv
theorem Aom:Pk=some true:=by kernel_rfl
def bg(l w:LB):Bool:=decide (w.length<=l.length)&&(l.take w.length==w&&(decide (l.length=w.length)||l[w.length]? ==some 32))
theorem Adn(a:LB)(W:List LB)(ha:a.length<=1000000)(hW:W.length<=100/\Dp (Le 100) W):∀(q i:Nat),i<=W.length/\W.length<i+q->Hg a W q i=some ((W.drop i).any (bg a)):=
 ind (λi hI=>by exfalso;omega) λq ih i hI=>by
  rw[Hg,Pe];by_cases h:i<W.length
  · have k:=ih (i+1) ⟨F3,F3⟩
    have e1:Ae (i:Int) 1=((i+1:Nat):Int):=by rw[Gt];omega
    rw[B? (sw h),CJ h,CS,e1,k,TG h,List.any_cons];by_cases h1:W[i].length<=a.length
    · have hc:Bg a 0 (Aa W[i])=some (a.take W[i].length):=by
        unfold Bg Aa;rw[B? F3];simp
      rw[B? (by rw[Yn];exact H8 F8),hc,CS,CS];by_cases h2:a.take W[i].length=W[i]
      · rw[B? (by rw[h2];simp)]
        by_cases h3:a.length=W[i].length
        · rw[B? (by rw[Yy];exact H8 F8)]
          have:bg a W[i]=true:=by unfold bg;simp[h1,h2,h3]
          rw[this];rfl
        · have h4:W[i].length<a.length:=F3
          rw[C' (by rw[Yy];simp only[zi,H4];unfold Aa;omega),show Aa W[i]=((W[i].length:Nat):Int)from rfl,CJ h4,CS];by_cases h5:a[W[i].length]=32
          · rw[B? (by rw[eq8];exact h5)]
            have:bg a W[i]=true:=by unfold bg;rw[H' h4,h5];simp[h1,h2]
            rw[this];rfl
          · rw[C' (by rw[eq8];exact h5)]
            have:bg a W[i]=false:=by unfold bg;rw[H' h4];simp[h3,h5]
            rw[this];rfl
      · rw[C' (by simpa using h2)]
        have:bg a W[i]=false:=by unfold bg;simp[h2]
        rw[this];rfl
    · rw[C' (by rw[Yn];simp only[zi,H4];unfold Aa;omega),C' F4]
      have:bg a W[i]=false:=by unfold bg;simp[h1]
      rw[this];rfl
  · rw[C' (zI h),P' F3]
    rfl
theorem vD:∀(l s:LB),32∉l->Gb (l++32::s) 32=Aa l
  |[],s,_=>rfl
  |x::l,s,h=>by
    rw[E9,not_or]at h;have ih:=vD l s h.2;rw[M0,Gb,C' (by simp;exact λe=>h.1 e.symm),ih,C' Y0];unfold Aa;simp
theorem tW:∀(l:LB),32∉l->Gb l 32= -1
  |[],_=>rfl
  |x::l,h=>by
    rw[E9,not_or]at h;rw[Gb,C' (by simp;exact λe=>h.1 e.symm),tW l h.2];rfl
theorem Aew{l w:LB}(hw:32∉w)(h:bg l w=true)(q:Nat):(Pw 32 (q+1) l).head? =some w:=by
  unfold bg at h;simp only[BD,E5,H4,beq_iff_eq]at h;obtain⟨h1,h2,h3⟩:=h;rw[Pw];rcases h3 with h3|h3
  · have:l=w:=by rw[<-h3,N2]at h2;exact h2
    subst this;rw[tW l hw,B? F4];rfl
  · have h4:w.length<l.length:=by
      rcases JS w.length l.length with h|h
      · exact h
      · rw[L7 h]at h3;cases h3
    have e:l=w++32::l.drop (w.length+1):=by
      rw[H' h4]at h3;rw[<-H9 h3,<-TG h4]
      conv=>lhs;rw[<-WN w.length l,h2]
    have i:=vD w (l.drop (w.length+1)) hw;rw[<-e]at i;rw[i,C' xq,List.head?_cons];unfold Aa;rw[I6,h2]
def shW:List LB:=[[104,101,120],[114,101,112,111,114,116],[116,111,108,100],[112,108,97,99,101],[115,97,109,112,108,101,115],[98,97,100],[115,107,105,112],[115,105,108,101,110,116],[102,114,97,109,101],[102,114,111,109],[97,116],[119,97,118],[119,97,121,115],[115,99,114,105,112,116],[112,101,97,107]]
theorem Afa{f b l:LB}{r:LB×LB×LB}(h:Ok2 f b)(hl:Aa l<=3000)(e:Fu f b l=some r)(hs:shW.any (bg l)=true):r.2.1=f/\r.2.2=b:=by
  obtain⟨r2,e2,_,_,_,h3⟩:=ord h hl;rw[e]at e2;obtain rfl:=H9 e2;rcases h3 with h3|⟨x,hx,hm⟩
  · exact h3
  · exfalso
    obtain⟨w,hw,hb⟩:=List.any_eq_true.1 hs;have hw2:∀w∈shW,(32:UInt8)∉w/\ ¬Mu w:=by
      intro w hw;have:(shW.all λw=>!(w.contains 32)&& !(w==[112,97,115,115,119,111,114,100]||(w==[102,105,108,101]||(w==[97,100,100]||(w==[99,117,116]||(w==[102,108,105,112]||(w==[98,117,114,115,116]||w==[99,108,105,112])))))))=true:=F4
      have:=List.all_eq_true.1 this w hw;simp only[BD,E1,E4,List.contains_eq_mem,I']at this;refine⟨this.1,λhm=>?_⟩;unfold Mu at hm;simp only[this.2,E3,or_self]at hm
    rw[Aew (hw2 w hw).1 hb l.length]at hx;obtain rfl:=H9 hx;exact(hw2 w hw).2 hm
def kept(ls:List LB):List LB:=ls.filter λl=>!shW.any (bg l)
def uI(ls o:List LB):List LB:=((ls.zip o).filter λx=>!shW.any (bg x.1)).map (·.2)
theorem yB:∀(ls:List LB) (f b:LB),Ok2 f b->Dp Ls ls->outs f b (kept ls)=uI ls (outs f b ls)
  |[],f,b,_,_=>rfl
  |l::ls,f,b,h,hl=>by
    obtain⟨r,e,h1,h2,h3,_⟩:=ord h (hl l (I8 ..)).2;have hl2:Dp Ls ls:=λx hx=>hl x (I5 _ hx);unfold kept uI;simp only[outs,e,List.zip_cons_cons,Th];cases hs:shW.any (bg l)with
    |true=>
      obtain⟨q1,q2⟩:=Afa h (hl l (I8 ..)).2 e hs;have ih:=yB ls f b h hl2;rw[q1,q2];simp only[N6,E3,IM];exact ih
    |false=>
      have ih:=yB ls r.2.1 r.2.2 h1 hl2;simp only[XW,J_,outs,e,I2];exact congrArg _ ih
theorem Ahz{ls:List LB}{i:Nat}(h:i<ls.length):kept (ls.take (i+1))=kept (ls.take i)++(if shW.any (bg ls[i])=true then []else [ls[i]]):=by
  unfold kept;rw[DI h,List.filter_append];cases hs:shW.any (bg ls[i])<;>simp[Th,hs]
theorem Afh{ls o:List LB}{i:Nat}(h:i<ls.length)(ho:i<o.length):uI (ls.take (i+1)) (o.take (i+1))=uI (ls.take i) (o.take i)++(if shW.any (bg ls[i])=true then []else [o[i]]):=by
  unfold uI;rw[DI h,DI ho,List.zip_append F6,List.filter_append,N5];cases hs:shW.any (bg ls[i])<;>simp[Th,hs]
theorem oP(ls:List LB):(kept ls).length<=ls.length/\ (Qf (kept ls)).length<= (Qf ls).length:=by
  unfold kept;refine⟨List.length_filter_le _ _,?_⟩
  induction ls with
  |nil=>exact G? _
  |cons l ls ih=>
    rw[Th];split
    · simp only[Qf,BP,C_];omega
    · simp only[Qf,BP,C_];omega
theorem M!(ls o:List LB):(uI ls o).length<=ls.length:=by
  unfold uI;rw[List.length_map];refine RT (List.length_filter_le _ _) ?_;rw[List.length_zip];omega
theorem Aed(ls o:List LB)(ho:o.length=ls.length)(hn:ls.length<=1000)(hl:Dp Ls ls):∀(q i:Nat),i<=ls.length/\ls.length<i+q->Ea true ls o q i (kept (ls.take i)) (uI (ls.take i) (o.take i))=Jn true (kept ls) (uI ls o):=
 ind (λi hI=>by exfalso;omega) λq ih i hI=>by
  rw[Ea,Fw];by_cases h:i<ls.length
  · have k:=ih (i+1) ⟨F3,F3⟩
    have ho':i<o.length:=F3
    have e1:Ae (i:Int) 1=((i+1:Nat):Int):=by rw[Gt];omega
    have b1:Na ls[i] shW=some (shW.any (bg ls[i])):=Adn ls[i] shW (by have:=(hl _ (N3 h)).2;unfold Aa at this;omega) ⟨F4,λx hx=>by
      have:(shW.all λw=>decide (w.length<=100))=true:=F4
      have:=List.all_eq_true.1 this x hx;simp only[H4]at this;unfold Le Aa;omega⟩ Ap 0 ⟨F3,F4⟩
    have l1:=(oP (ls.take i)).1;have l2:=M! (ls.take i) (o.take i);rw[D_]at l1 l2;rw[Ahz h,Afh h ho']at k;rw[B? (sw h),CJ h,CS,CS];refine(congrArg (λz=>Option.bind z _) b1).trans ?_;simp only[CS];rw[e1];cases hs:shW.any (bg ls[i])with
    |true=>
      rw[hs]at k;rw[C' F4];simpa using k
    |false=>
      rw[hs]at k;rw[B? F4,CJ ho',CS,GW F6,CS,CS,GW F6,CS];exact k
  · rw[C' (zI h),K1 F3,K1 F3]
    rfl
theorem Amz(hA:Pk=some true)(a:LB)(ha:a.length<=9223372036854775807):Hu a=some true:=by
  unfold Hu Jq;rw[hA,CS];rcases Apa a ha with h|⟨h,ls,k1,rfl,k2,k3⟩
  · rw[h];rfl
  · have ko:=Z8 ls [] [] ok0 k1
    rw[h,CS,C' F4,wP ls (λx hx=>(k1 x hx).1) F3 F3,CS,nO ls k1 F3 F3,CS];simp only;rw[C' (by simp[Uh,zi,Aa,ko.1])];have k:=Aed ls (outs [] [] ls) ko.1 F3 k1 Ap 0 ⟨F3,by have:=Cu;omega⟩;have kk:=oP ls;have kl:Dp Ls (kept ls):=λx hx=>k1 x ((List.mem_filter.1 hx).1);refine Eq.trans k ?_;unfold Jn;rw[Ajn _ F3,CS,nO _ kl F3 F3,CS];simp only;rw[B? F4,yB ls [] [] ok0 k1,Ao0 _ (by have:=M! ls (outs [] [] ls);omega)];rfl
theorem law_ConsoleShows(a:LB)(ha:a.length<=9223372036854775807):Hu a=some true:=Amz Aom a ha
end Go.Pl
