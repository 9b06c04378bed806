/- A part of a proof (see the text that ends in Proof). No conditions. -/
import Derived.Test.YtniihmolajmfcaaGreatDoorChPA
import Derived.KernelRfl
set_option linter.unusedVariables false
set_option linter.unusedSimpArgs false
namespace Go.Lv
variable{a b:Int}{n:Nat}{α:Type}
theorem Ie(h: -9223372036854775808<=a+b:=by omega)(h':a+b<=9223372036854775807:=by omega):Af a b=a+b:=by rw[Arw,Db h h']
theorem AR(h: -9223372036854775808<=a-b:=by omega)(h':a-b<=9223372036854775807:=by omega):Ag a b=a-b:=by rw[Ar7,Db h h']
theorem xC(h: -9223372036854775808<=a*b:=by omega)(h':a*b<=9223372036854775807:=by omega):Ch a b=a*b:=by rw[Are,Db h h']
theorem Ahu(c:UInt8):(Am c:Int)=(c.toNat:Int):=by rw[Akw,Db]<;>have:=c.toNat_lt<;>omega
theorem Adh(c:UInt32):(Am c:Int)=(c.toNat:Int):=by rw[Ah3,Db]<;>have:=c.toNat_lt<;>omega
theorem Ai4(n:Nat):(Am (n:Int):UInt64)=UInt64.ofNat n:=by simp only[Am];exact EX n
theorem Ai5{c:UInt64}(h:c.toNat<9223372036854775808):(Am c:Int)=(c.toNat:Int):=by rw[Ahx,Db]<;>omega
theorem qG:pN=17179869184:=F4
theorem sD:36893488147419103231<As:=F4
theorem uf{l:List α}(h:n<l.length:=by omega):Ae l (n:Int)=some l[n]:=by simp[Ae,h]
theorem Qt{l m:List α}(h:l.length+m.length<=17179869184:=by omega):Ay l m=some (l++m):=by rw[Ay,qG,BA h]
theorem dF{n:Int}{z:α}(h:0<=n:=by omega)(h':n<=17179869184:=by omega):mkI n z=some (List.replicate n.toNat z):=by rw[mkI,qG,BA ⟨h,h'⟩]
theorem jw{b:Bool}(h:b=true):Es b=some ():=by rw[h];rfl
theorem Kr{β:Type}(a:α)(f:α->Option β):Option.bind (some a) f=f a:=rfl
theorem wB{l:List α}(h:n<l.length):l.take (n+1)=l.take n++[l[n]]:=by rw[List.take_add_one,E7 h];rfl
end Go.Lv
namespace Go.Pl
open Go Go.Lv
variable{c:Bool}{a i b:Int}{k:IntKind}{n:Nat}
theorem VT{p:Prop}(h:p:=by unfold Aa;simp;omega):p:=h
theorem WV{p:Prop}(h:p:=by unfold Aa;simp):p:=h
def Dv{α:Type}(p:α->Prop)(l:List α):Prop:=∀x∈l,p x
def Rg(a b x:Int):Prop:=a<=x/\x<=b
def Le{α:Type}(n:Int)(x:List α):Prop:=Aa x<=n
def Gf(x:Int):Prop:= -9223372036854775808<=x/\x<=9223372036854775807
def PD(a g:LB)(m o n p u:Int)(k:LI)(h:Int)(v:LB)(b:Bool)(f:Int):Prop:=Aa a<=64/\Aa g<=100000/\Aa k<=1000/\0<=h/\h<=Aa k/\Aa v<=12000000/\ (b=false->f=0->Aa v<=12000*h)/\0<=f/\f<=99/\ (m=0->Aa k=0)/\Dv (Rg 5 100000) k
def PE(m:LB)(n:LX)(o:List LB)(p:LB)(a:Int):Prop:=Aa m<=18/\Aa n<=3000000/\Aa o<=102000/\Dv (Le 200000) o/\Aa p<=17179869184/\0<=a/\a<=99
def Nl(x:UInt8):Prop:=x≠10
def Ln(n:Int)(x:LB):Prop:=Aa x<=n/\Dv Nl x
def Mu(h:LB):Prop:=(h==[112,97,115,115,119,111,114,100])=true\/ (h==[102,105,108,101])=true\/ (h==[97,100,100])=true\/ (h==[99,117,116])=true\/ (h==[102,108,105,112])=true\/ (h==[98,117,114,115,116])=true\/ (h==[99,108,105,112])=true
def BX(m h x n:Int):Prop:=h=8/\Ch x m<=n\/h=16/\2*Ch x m<=n\/h=24/\3*Ch x m<=n
def Sr(x:UInt8×Int×Unit):Prop:=0<=x.2.1/\x.2.1<=999999999
def St(x:Int×LB×Unit):Prop:=0<=x.1/\x.1<=99/\Aa x.2.1<=12000000
def Wd(n:Int)(x:LB):Prop:=1<=Aa x/\Aa x<=n
def Nn(x:Int):Prop:=0<=x
def sm(a:LI)(f:Int):Int:=(a.drop f.toNat).sum
theorem Ck:sm [] 0=0:=rfl
theorem Cl(x:Int):sm [x] 0=x:=by unfold sm;simp
theorem Cn(l m:LI):sm (l++m) 0=sm l 0+sm m 0:=by unfold sm;simp
theorem Ase(l:LI)(h:Dv Nn l):0<=l.sum:=by
 induction l with
 |nil=>exact H3 _
 |cons a l ih=>
  have h1:0<=a:=h a (H6 ..);have h2:=ih λx hx=>h x (H! _ hx);rw[List.sum_cons];omega
def Ty(x:Int×Int32×(Int×LX×LX×Unit)×Unit):Prop:=Aa x.2.2.1.2.1=16/\Aa x.2.2.1.2.2.1=16
theorem all_nil{α:Type}{p:α->Prop}:Dv p []:=λ_ h=>by cases h
theorem Ad{α:Type}{p:α->Prop}{l m:List α}(h:Dv p l)(k:Dv p m):Dv p (l++m):=λx hx=>(List.mem_append.1 hx).elim (h x) (k x)
theorem Ba{α:Type}{p:α->Prop}{a:α}(h:p a):Dv p [a]:=λx hx=>by rw[kJ]at hx;exact hx▸h
theorem all_cons{α:Type}{p:α->Prop}{a:α}{l:List α}(h:p a)(k:Dv p l):Dv p (a::l):=λx hx=>(List.mem_cons.1 hx).elim (λe=>e▸h) (k x)
theorem Cg{l:LB}(h:(l.all λx=>!(x==10))=true):Dv Nl l:=λx hx e=>by
 have:=List.all_eq_true.1 h x hx;rw[e]at this;exact absurd this F4
theorem Fb{α:Type}{p:α->Prop}{a:α}(h:p a):Dv p (List.replicate n a):=λx hx=>(List.mem_replicate.1 hx).2▸h
def T{α:Type}(o:Option α)(Q:α->Prop):Prop:=∃y,o=some y/\Q y
theorem Dy(a b:Int):Af a b=wrap64 (a+b):=rfl
theorem Du(a b:Int):Ag a b=wrap64 (a-b):=rfl
theorem Hn(a b:Int):Ch a b=wrap64 (a*b):=rfl
theorem Iu(a:Int):LW a=wrap64 (0-a):=rfl
theorem Bt(a:Int):wrap64 a=(a+9223372036854775808) %18446744073709551616-9223372036854775808:=by
 rw[A!];split<;>omega
theorem zw(h: -9223372036854775808<=a)(h':a<=9223372036854775807):wrap64 a=a:=Db h h'
theorem DZ{p:Prop}{i:Decidable p}:(@decide p i=true)=p:=by cases i<;>simp_all
theorem EG{p:Prop}{i:Decidable p}:(@decide p i=false)=¬p:=by cases i<;>simp_all
theorem DX(b:Bool):(b=true)=(b.toNat=1):=by cases b<;>simp
theorem EL(b:Bool):(b=false)=(b.toNat=0):=by cases b<;>simp
theorem Ph{T:Type} [GI T k](a b:T):Bw a b=decide (GI.toZ a<GI.toZ b):=rfl
theorem DM{T:Type} [GI T k](a b:T):TH a b=decide (GI.toZ a<=GI.toZ b):=rfl
theorem Sm{T:Type} [GI T k](a b:T):Dr a b=decide (GI.toZ b<GI.toZ a):=rfl
theorem Yp{T:Type} [GI T k](a b:T):Fu a b=decide (GI.toZ b<=GI.toZ a):=rfl
theorem BP{T:Type} [GI T k](a b:T):geq a b=decide (GI.toZ a=GI.toZ b):=rfl
theorem Ul{T:Type} [GI T k](a b:T):Bb a b=decide (GI.toZ a≠GI.toZ b):=by
 unfold Bb;cases h:(GI.toZ a !=GI.toZ b)<;>simp_all
theorem zi(a:Int):GI.toZ a=a:=rfl
theorem z8(a:UInt8):GI.toZ a=(a.toNat:Int):=rfl
theorem z32(a:UInt32):GI.toZ a=(a.toNat:Int):=rfl
theorem z64(a:UInt64):GI.toZ a=(a.toNat:Int):=rfl
theorem It(a b:Int):Gk a b=min a b:=by
 have e:Gk a b=if b<a then b else a:=rfl;rw[e];split<;>omega
theorem Ih(a b:Int):G4 a b=max a b:=by
 have e:G4 a b=if b>a then b else a:=rfl;rw[e];split<;>omega
theorem Gu(a b:Int):Ep a b=wrap64 (a.tdiv b):=rfl
theorem Fk(a b:Int):Jb a b=a.tmod b:=rfl
theorem lH(b:Int)(h:0<=a):a.tdiv b=a/b:=kE h
theorem WJ(b:Int)(h:0<=a):a.tmod b=a %b:=Int.tmod_eq_emod_of_nonneg h
theorem DP(a:Int):I' a (GI.toZ (3:UInt64)).toNat=a/8:=by
 have e:(GI.toZ (3:UInt64)).toNat=3:=rfl;rw[e];unfold I';exact S2 a F4
theorem Ik(a:Int):I' a (Int.toNat ((3:Nat):Int))=a/8:=DP a
theorem DG(a:UInt8):(Am a:Int)=(a.toNat:Int):=Ahu a
theorem Ij(a:UInt32):(Am a:Int)=(a.toNat:Int):=Adh a
theorem Iw(a:UInt64):(Am a:Int)=wrap64 (a.toNat:Int):=rfl
theorem Ip(a:Int):GI.toZ (Am a:UInt64)=a %18446744073709551616:=GI.toZ_ofZ a
theorem z15(a:UInt8):(Dq a 15).toNat<16:=by
 rw[Ank,UInt8.toNat_and];have:a.toNat&&& (15:UInt8).toNat<= (15:UInt8).toNat:=Nat.and_le_right;have:(15:UInt8).toNat=15:=rfl;omega
theorem zn4(a:UInt8):(Da a (GI.toZ (4:UInt64)).toNat).toNat<16:=by
 have e:(GI.toZ (4:UInt64)).toNat=4:=rfl;rw[e,Ap1];have:=a.toNat_lt;omega
theorem Av1(a:UInt64):(Da a (GI.toZ (58:UInt64)).toNat).toNat<64:=by
 have e:(GI.toZ (58:UInt64)).toNat=58:=rfl;rw[e,pZ];have:=a.toNat_lt;omega
theorem EC(a:Int):Dq a 7=a %8:=by
 have e:Dq a (7:Int)=wrap64 ((BitVec.ofInt 64 a&&&BitVec.ofInt 64 7).toNat:Int):=rfl;rw[e,SQ,K8,K8];have h2:((7:Int) %((2^64:Nat):Int)).toNat=2^3-1:=F4
 rw[h2,kG,Db F3 F3];omega
theorem EO{α:Type}(l m:List α)(a n:Int):(Om l a n m).length=min a.toNat l.length+(min n.toNat m.length+(l.length-(a.toNat+min n.toNat m.length))):=by
 unfold Om;rw[C!,C!,C5,C5,D'];
theorem zqm(n:Int)(_:True)(h:1<=n/\n<=40000000):1000<=Ep 9223372036854775807 n:=by
 have h1:=QJ (show(0:Int)<=9223372036854775807 by decide) (show 0<=n by omega);have h2:=SO (b:=n) (show(0:Int)<=9223372036854775807 by decide);have h3:1000<= (9223372036854775807:Int)/n:=Int.le_ediv_of_mul_le F3 F3;rw[Gu,kE F4,Db F3 F3];exact h3
theorem z8b(b:UInt8)(_:True):(b.toNat:Int)<=255:=by have:=b.toNat_lt;omega
theorem zm1(a b:Int)(_:True)(h:a=1):Ch a (Ag b 1)=Ag b 1:=by
 rw[h,Hn,Du,Int.one_mul,Bt,Bt];omega
theorem Hs{T:Type} [GI T k](a:T):Gf (Am a:Int):=by
 have e:(Am a:Int)=wrap64 (GI.toZ a):=rfl;unfold Gf;rw[e,Bt];omega
theorem zws(a n:Int)(_:True)(h:Jb n (Ep a 8)=0)(hn:0<=n)(ha:8<=a/\a<=24/\a %8=0):a=8\/a=16/\n %2=0\/a=24/\n %3=0:=by
 have:a=8\/a=16\/a=24:=F3
 rcases this with rfl|rfl|rfl
 ·exact .inl rfl
 ·rw[Fk,WJ _ hn,show Ep (16:Int) 8=2 by decide]at h;exact .inr (.inl ⟨rfl,h⟩)
 ·rw[Fk,WJ _ hn,show Ep (24:Int) 8=3 by decide]at h;exact .inr (.inr ⟨rfl,h⟩)
theorem tap{α:Type}{l m:List α}{Q:List α->Prop}(h:Aa l+Aa m<=17179869184)(q:Q (l++m)):T (Ay l m) Q:=⟨_,by unfold Ay pN;unfold Aa at h;rw[BA F3],q⟩
theorem Arl{a:LI}{f x:Int}(e:Ae a f=some x)(h:Dv Nn a/\0<=f/\f<=1000):0<=x/\sm a f=x+sm a (Af f 1)/\0<=sm a (Af f 1):=by
 unfold Ae at e;rw[BA h.2.1]at e;have hl:f.toNat<a.length:=(List.getElem?_eq_some_iff.1 e).1;have hx:a[f.toNat]=x:=(List.getElem?_eq_some_iff.1 e).2;rw[Ie];unfold sm;rw[show(f+1).toNat=f.toNat+1 by omega,UK hl,List.sum_cons,hx];exact⟨hx▸h.1 _ (L! _),rfl,Ase _ λy hy=>h.1 y (List.mem_of_mem_drop hy)⟩
theorem zp8(a:Int)(_:True)(h:0<=a/\a<=8):1<=Fc (1:Int) (GI.toZ a).toNat/\Fc (1:Int) (GI.toZ a).toNat<=256:=by
 have:a=0\/a=1\/a=2\/a=3\/a=4\/a=5\/a=6\/a=7\/a=8:=F3
 rcases this with rfl|rfl|rfl|rfl|rfl|rfl|rfl|rfl|rfl<;>decide
theorem zfa{f a:Int}(h:1<=a/\a<=6/\0<=f/\f<=4000):0<=Ch f a/\Ch f a<=24000:=by
 have:a=1\/a=2\/a=3\/a=4\/a=5\/a=6:=F3
 rw[Hn];rcases this with rfl|rfl|rfl|rfl|rfl|rfl<;>rw[Db F3 F3]<;>omega
theorem zq4(a:Int)(_:True)(h:1<=a):0<=Ep 4000 a/\Ep 4000 a<=4000:=by
 have h1:=QJ (show(0:Int)<=4000 by decide) (show 0<=a by omega);have h2:=SO (b:=a) (show(0:Int)<=4000 by decide);rw[Gu,kE F4,Db F3 F3];exact⟨h1,h2⟩
theorem Dc:(As:Int)=36893488147419103232:=rfl
section
variable {α β:Type} {o:Option α} {f:α->Option β} {P:α->Prop} {Q:β->Prop} {H:Prop}
theorem tj{o:Option β}{H:Prop}(c:H->T o Q)(h:H:=by first|exact True.intro|((try clear ih)<;>(try clear hb)<;>(try simp only[Dy,Du,Hn,Iu,Bt,Ph,DM,Sm,Yp,BP,Ul,zi,z8,z32,z64,It,Ih,Gu,Fk,DP,Ik,DG,Ij,Iw,Ip,EC,UInt8.reduceToNat,UInt32.reduceToNat,UInt64.reduceToNat,Dc,Rg,Le,Ln,PE,Mu,BX,Sr,St,Wd,Nn,Ck,Cl,Cn,PD,Ty,Gf,Aa,Cq,EO,Cr,C5,D',D1,Ej,C3,C2,C!,C_,C7,B_,↓DZ,↓EG,C8,D5,C6,D0,reduceCtorEq,D9,E!,D_,C9,D6,C?,D8,E0,CB,D7,D4,D2,D3,E1]at *)<;>(try simp only[DX,EL]at *)<;>omega)|((try clear ih)<;>(try clear hb)<;>(try simp only[Dy,Du,Hn,Iu,Ph,DM,Sm,Yp,BP,Ul,zi,z8,z32,z64,It,Ih,Gu,Fk,DP,Ik,DG,Ij,Iw,Ip,EC,UInt8.reduceToNat,UInt32.reduceToNat,UInt64.reduceToNat,Dc,Rg,Le,Ln,PE,Mu,BX,Sr,St,Wd,Nn,Ck,Cl,Cn,PD,Ty,Gf,Aa,Cq,EO,Cr,C5,D',D1,Ej,C3,C2,C!,C_,C7,B_,↓DZ,↓EG,C8,D5,C6,D0,reduceCtorEq,D9,E!,D_,C9,D6,C?,D8,E0,CB,D7,D4,D2,D3,E1]at *)<;>(try simp only[DX,EL]at *)<;>(try simp(disch:=omega)only[zw,lH,WJ]at *)<;>(try simp only[Bt]at *)<;>first|omega|(and_intros<;>first|omega|assumption|exact all_nil|exact Fb ⟨rfl,rfl⟩|exact Ba (by simp only[Nn,Aa]at *;omega)|exact Ad (by first|assumption|grind) (Ba (by first|assumption|exact Hs _|(simp only[Nn,Dy,Du,Bt,Gf,Rg,Le,Ln,St,Sr,Aa,C2]at *;omega)|simp_all))|grind|(simp_all;done)|(first|grind|exact Cg F4|(apply Ad<;>(first|grind|exact Cg F4))|(apply Ad<;>first|grind|exact Cg F4|(apply Ad<;>(first|grind|exact Cg F4))))|(repeat' first|exact all_nil|exact Hs _|apply all_cons|(simp only[Gf]at *;omega);done))|(intros;and_intros<;>first|omega|assumption|exact all_nil|grind|simp_all|(first|grind|exact Cg F4|(apply Ad<;>(first|grind|exact Cg F4))|(apply Ad<;>first|grind|exact Cg F4|(apply Ad<;>(first|grind|exact Cg F4))))))):T o Q:=c h
theorem ts{y:β}(h:Q y:=by first|exact True.intro|((try clear ih)<;>(try clear hb)<;>(try simp only[Dy,Du,Hn,Iu,Bt,Ph,DM,Sm,Yp,BP,Ul,zi,z8,z32,z64,It,Ih,Gu,Fk,DP,Ik,DG,Ij,Iw,Ip,EC,UInt8.reduceToNat,UInt32.reduceToNat,UInt64.reduceToNat,Dc,Rg,Le,Ln,PE,Mu,BX,Sr,St,Wd,Nn,Ck,Cl,Cn,PD,Ty,Gf,Aa,Cq,EO,Cr,C5,D',D1,Ej,C3,C2,C!,C_,C7,B_,↓DZ,↓EG,C8,D5,C6,D0,reduceCtorEq,D9,E!,D_,C9,D6,C?,D8,E0,CB,D7,D4,D2,D3,E1]at *)<;>(try simp only[DX,EL]at *)<;>omega)|((try clear ih)<;>(try clear hb)<;>(try simp only[Dy,Du,Hn,Iu,Ph,DM,Sm,Yp,BP,Ul,zi,z8,z32,z64,It,Ih,Gu,Fk,DP,Ik,DG,Ij,Iw,Ip,EC,UInt8.reduceToNat,UInt32.reduceToNat,UInt64.reduceToNat,Dc,Rg,Le,Ln,PE,Mu,BX,Sr,St,Wd,Nn,Ck,Cl,Cn,PD,Ty,Gf,Aa,Cq,EO,Cr,C5,D',D1,Ej,C3,C2,C!,C_,C7,B_,↓DZ,↓EG,C8,D5,C6,D0,reduceCtorEq,D9,E!,D_,C9,D6,C?,D8,E0,CB,D7,D4,D2,D3,E1]at *)<;>(try simp only[DX,EL]at *)<;>(try simp(disch:=omega)only[zw,lH,WJ]at *)<;>(try simp only[Bt]at *)<;>first|omega|(and_intros<;>first|omega|assumption|exact all_nil|exact Fb ⟨rfl,rfl⟩|exact Ba (by simp only[Nn,Aa]at *;omega)|exact Ad (by first|assumption|grind) (Ba (by first|assumption|exact Hs _|(simp only[Nn,Dy,Du,Bt,Gf,Rg,Le,Ln,St,Sr,Aa,C2]at *;omega)|simp_all))|grind|(simp_all;done)|(first|grind|exact Cg F4|(apply Ad<;>(first|grind|exact Cg F4))|(apply Ad<;>first|grind|exact Cg F4|(apply Ad<;>(first|grind|exact Cg F4))))|(repeat' first|exact all_nil|exact Hs _|apply all_cons|(simp only[Gf]at *;omega);done))|(intros;and_intros<;>first|omega|assumption|exact all_nil|grind|simp_all|(first|grind|exact Cg F4|(apply Ad<;>(first|grind|exact Cg F4))|(apply Ad<;>first|grind|exact Cg F4|(apply Ad<;>(first|grind|exact Cg F4))))))):T (some y) Q:=⟨y,rfl,h⟩
theorem tf{o:Option β}{H F:Prop}(hf:H->F)(k:F->T o Q)(h:H:=by first|exact True.intro|((try clear ih)<;>(try clear hb)<;>(try simp only[Dy,Du,Hn,Iu,Bt,Ph,DM,Sm,Yp,BP,Ul,zi,z8,z32,z64,It,Ih,Gu,Fk,DP,Ik,DG,Ij,Iw,Ip,EC,UInt8.reduceToNat,UInt32.reduceToNat,UInt64.reduceToNat,Dc,Rg,Le,Ln,PE,Mu,BX,Sr,St,Wd,Nn,Ck,Cl,Cn,PD,Ty,Gf,Aa,Cq,EO,Cr,C5,D',D1,Ej,C3,C2,C!,C_,C7,B_,↓DZ,↓EG,C8,D5,C6,D0,reduceCtorEq,D9,E!,D_,C9,D6,C?,D8,E0,CB,D7,D4,D2,D3,E1]at *)<;>(try simp only[DX,EL]at *)<;>omega)|((try clear ih)<;>(try clear hb)<;>(try simp only[Dy,Du,Hn,Iu,Ph,DM,Sm,Yp,BP,Ul,zi,z8,z32,z64,It,Ih,Gu,Fk,DP,Ik,DG,Ij,Iw,Ip,EC,UInt8.reduceToNat,UInt32.reduceToNat,UInt64.reduceToNat,Dc,Rg,Le,Ln,PE,Mu,BX,Sr,St,Wd,Nn,Ck,Cl,Cn,PD,Ty,Gf,Aa,Cq,EO,Cr,C5,D',D1,Ej,C3,C2,C!,C_,C7,B_,↓DZ,↓EG,C8,D5,C6,D0,reduceCtorEq,D9,E!,D_,C9,D6,C?,D8,E0,CB,D7,D4,D2,D3,E1]at *)<;>(try simp only[DX,EL]at *)<;>(try simp(disch:=omega)only[zw,lH,WJ]at *)<;>(try simp only[Bt]at *)<;>first|omega|(and_intros<;>first|omega|assumption|exact all_nil|exact Fb ⟨rfl,rfl⟩|exact Ba (by simp only[Nn,Aa]at *;omega)|exact Ad (by first|assumption|grind) (Ba (by first|assumption|exact Hs _|(simp only[Nn,Dy,Du,Bt,Gf,Rg,Le,Ln,St,Sr,Aa,C2]at *;omega)|simp_all))|grind|(simp_all;done)|(first|grind|exact Cg F4|(apply Ad<;>(first|grind|exact Cg F4))|(apply Ad<;>first|grind|exact Cg F4|(apply Ad<;>(first|grind|exact Cg F4))))|(repeat' first|exact all_nil|exact Hs _|apply all_cons|(simp only[Gf]at *;omega);done))|(intros;and_intros<;>first|omega|assumption|exact all_nil|grind|simp_all|(first|grind|exact Cg F4|(apply Ad<;>(first|grind|exact Cg F4))|(apply Ad<;>first|grind|exact Cg F4|(apply Ad<;>(first|grind|exact Cg F4))))))):T o Q:=k (hf h)
theorem tQ{y:α}(e:H->o=some y)(k:T (f y) Q)(h:H:=by first|exact True.intro|((try clear ih)<;>(try clear hb)<;>(try simp only[Dy,Du,Hn,Iu,Bt,Ph,DM,Sm,Yp,BP,Ul,zi,z8,z32,z64,It,Ih,Gu,Fk,DP,Ik,DG,Ij,Iw,Ip,EC,UInt8.reduceToNat,UInt32.reduceToNat,UInt64.reduceToNat,Dc,Rg,Le,Ln,PE,Mu,BX,Sr,St,Wd,Nn,Ck,Cl,Cn,PD,Ty,Gf,Aa,Cq,EO,Cr,C5,D',D1,Ej,C3,C2,C!,C_,C7,B_,↓DZ,↓EG,C8,D5,C6,D0,reduceCtorEq,D9,E!,D_,C9,D6,C?,D8,E0,CB,D7,D4,D2,D3,E1]at *)<;>(try simp only[DX,EL]at *)<;>omega)|((try clear ih)<;>(try clear hb)<;>(try simp only[Dy,Du,Hn,Iu,Ph,DM,Sm,Yp,BP,Ul,zi,z8,z32,z64,It,Ih,Gu,Fk,DP,Ik,DG,Ij,Iw,Ip,EC,UInt8.reduceToNat,UInt32.reduceToNat,UInt64.reduceToNat,Dc,Rg,Le,Ln,PE,Mu,BX,Sr,St,Wd,Nn,Ck,Cl,Cn,PD,Ty,Gf,Aa,Cq,EO,Cr,C5,D',D1,Ej,C3,C2,C!,C_,C7,B_,↓DZ,↓EG,C8,D5,C6,D0,reduceCtorEq,D9,E!,D_,C9,D6,C?,D8,E0,CB,D7,D4,D2,D3,E1]at *)<;>(try simp only[DX,EL]at *)<;>(try simp(disch:=omega)only[zw,lH,WJ]at *)<;>(try simp only[Bt]at *)<;>first|omega|(and_intros<;>first|omega|assumption|exact all_nil|exact Fb ⟨rfl,rfl⟩|exact Ba (by simp only[Nn,Aa]at *;omega)|exact Ad (by first|assumption|grind) (Ba (by first|assumption|exact Hs _|(simp only[Nn,Dy,Du,Bt,Gf,Rg,Le,Ln,St,Sr,Aa,C2]at *;omega)|simp_all))|grind|(simp_all;done)|(first|grind|exact Cg F4|(apply Ad<;>(first|grind|exact Cg F4))|(apply Ad<;>first|grind|exact Cg F4|(apply Ad<;>(first|grind|exact Cg F4))))|(repeat' first|exact all_nil|exact Hs _|apply all_cons|(simp only[Gf]at *;omega);done))|(intros;and_intros<;>first|omega|assumption|exact all_nil|grind|simp_all|(first|grind|exact Cg F4|(apply Ad<;>(first|grind|exact Cg F4))|(apply Ad<;>first|grind|exact Cg F4|(apply Ad<;>(first|grind|exact Cg F4))))))):T (o.bind f) Q:=by rw[e h];exact k
theorem tm{o:Option α}{P Q:α->Prop}(c:T o P)(h:∀y,P y->Q y):T o Q:=by
 obtain⟨y,e,hp⟩:=c;exact⟨y,e,h y hp⟩
theorem tn(h:False:=by first|exact True.intro|((try clear ih)<;>(try clear hb)<;>(try simp only[Dy,Du,Hn,Iu,Bt,Ph,DM,Sm,Yp,BP,Ul,zi,z8,z32,z64,It,Ih,Gu,Fk,DP,Ik,DG,Ij,Iw,Ip,EC,UInt8.reduceToNat,UInt32.reduceToNat,UInt64.reduceToNat,Dc,Rg,Le,Ln,PE,Mu,BX,Sr,St,Wd,Nn,Ck,Cl,Cn,PD,Ty,Gf,Aa,Cq,EO,Cr,C5,D',D1,Ej,C3,C2,C!,C_,C7,B_,↓DZ,↓EG,C8,D5,C6,D0,reduceCtorEq,D9,E!,D_,C9,D6,C?,D8,E0,CB,D7,D4,D2,D3,E1]at *)<;>(try simp only[DX,EL]at *)<;>omega)|((try clear ih)<;>(try clear hb)<;>(try simp only[Dy,Du,Hn,Iu,Ph,DM,Sm,Yp,BP,Ul,zi,z8,z32,z64,It,Ih,Gu,Fk,DP,Ik,DG,Ij,Iw,Ip,EC,UInt8.reduceToNat,UInt32.reduceToNat,UInt64.reduceToNat,Dc,Rg,Le,Ln,PE,Mu,BX,Sr,St,Wd,Nn,Ck,Cl,Cn,PD,Ty,Gf,Aa,Cq,EO,Cr,C5,D',D1,Ej,C3,C2,C!,C_,C7,B_,↓DZ,↓EG,C8,D5,C6,D0,reduceCtorEq,D9,E!,D_,C9,D6,C?,D8,E0,CB,D7,D4,D2,D3,E1]at *)<;>(try simp only[DX,EL]at *)<;>(try simp(disch:=omega)only[zw,lH,WJ]at *)<;>(try simp only[Bt]at *)<;>first|omega|(and_intros<;>first|omega|assumption|exact all_nil|exact Fb ⟨rfl,rfl⟩|exact Ba (by simp only[Nn,Aa]at *;omega)|exact Ad (by first|assumption|grind) (Ba (by first|assumption|exact Hs _|(simp only[Nn,Dy,Du,Bt,Gf,Rg,Le,Ln,St,Sr,Aa,C2]at *;omega)|simp_all))|grind|(simp_all;done)|(first|grind|exact Cg F4|(apply Ad<;>(first|grind|exact Cg F4))|(apply Ad<;>first|grind|exact Cg F4|(apply Ad<;>(first|grind|exact Cg F4))))|(repeat' first|exact all_nil|exact Hs _|apply all_cons|(simp only[Gf]at *;omega);done))|(intros;and_intros<;>first|omega|assumption|exact all_nil|grind|simp_all|(first|grind|exact Cg F4|(apply Ad<;>(first|grind|exact Cg F4))|(apply Ad<;>first|grind|exact Cg F4|(apply Ad<;>(first|grind|exact Cg F4))))))):T none Q:=h.elim
theorem tb(c:H->T o P)(k:∀y,P y->T (f y) Q)(h:H:=by first|exact True.intro|((try clear ih)<;>(try clear hb)<;>(try simp only[Dy,Du,Hn,Iu,Bt,Ph,DM,Sm,Yp,BP,Ul,zi,z8,z32,z64,It,Ih,Gu,Fk,DP,Ik,DG,Ij,Iw,Ip,EC,UInt8.reduceToNat,UInt32.reduceToNat,UInt64.reduceToNat,Dc,Rg,Le,Ln,PE,Mu,BX,Sr,St,Wd,Nn,Ck,Cl,Cn,PD,Ty,Gf,Aa,Cq,EO,Cr,C5,D',D1,Ej,C3,C2,C!,C_,C7,B_,↓DZ,↓EG,C8,D5,C6,D0,reduceCtorEq,D9,E!,D_,C9,D6,C?,D8,E0,CB,D7,D4,D2,D3,E1]at *)<;>(try simp only[DX,EL]at *)<;>omega)|((try clear ih)<;>(try clear hb)<;>(try simp only[Dy,Du,Hn,Iu,Ph,DM,Sm,Yp,BP,Ul,zi,z8,z32,z64,It,Ih,Gu,Fk,DP,Ik,DG,Ij,Iw,Ip,EC,UInt8.reduceToNat,UInt32.reduceToNat,UInt64.reduceToNat,Dc,Rg,Le,Ln,PE,Mu,BX,Sr,St,Wd,Nn,Ck,Cl,Cn,PD,Ty,Gf,Aa,Cq,EO,Cr,C5,D',D1,Ej,C3,C2,C!,C_,C7,B_,↓DZ,↓EG,C8,D5,C6,D0,reduceCtorEq,D9,E!,D_,C9,D6,C?,D8,E0,CB,D7,D4,D2,D3,E1]at *)<;>(try simp only[DX,EL]at *)<;>(try simp(disch:=omega)only[zw,lH,WJ]at *)<;>(try simp only[Bt]at *)<;>first|omega|(and_intros<;>first|omega|assumption|exact all_nil|exact Fb ⟨rfl,rfl⟩|exact Ba (by simp only[Nn,Aa]at *;omega)|exact Ad (by first|assumption|grind) (Ba (by first|assumption|exact Hs _|(simp only[Nn,Dy,Du,Bt,Gf,Rg,Le,Ln,St,Sr,Aa,C2]at *;omega)|simp_all))|grind|(simp_all;done)|(first|grind|exact Cg F4|(apply Ad<;>(first|grind|exact Cg F4))|(apply Ad<;>first|grind|exact Cg F4|(apply Ad<;>(first|grind|exact Cg F4))))|(repeat' first|exact all_nil|exact Hs _|apply all_cons|(simp only[Gf]at *;omega);done))|(intros;and_intros<;>first|omega|assumption|exact all_nil|grind|simp_all|(first|grind|exact Cg F4|(apply Ad<;>(first|grind|exact Cg F4))|(apply Ad<;>first|grind|exact Cg F4|(apply Ad<;>(first|grind|exact Cg F4))))))):T (o.bind f) Q:=by
 obtain⟨y,rfl,hp⟩:=c h;exact k y hp
theorem ti{a b:Option β}(h1:c=true->T a Q)(h2:c=false->T b Q):T (if c=true then a else b) Q:=by
 cases c
 ·exact h2 rfl
 ·exact h1 rfl
theorem wm{a b:Option β}(h1:c=true->T a Q)(h2:T b Q):T (if c=true then a else b) Q:=ti h1 λ_=>h2
theorem tg{l:List α}(k:∀x,T (f x) Q)(h:0<=i/\i<Aa l:=by first|exact True.intro|((try clear ih)<;>(try clear hb)<;>(try simp only[Dy,Du,Hn,Iu,Bt,Ph,DM,Sm,Yp,BP,Ul,zi,z8,z32,z64,It,Ih,Gu,Fk,DP,Ik,DG,Ij,Iw,Ip,EC,UInt8.reduceToNat,UInt32.reduceToNat,UInt64.reduceToNat,Dc,Rg,Le,Ln,PE,Mu,BX,Sr,St,Wd,Nn,Ck,Cl,Cn,PD,Ty,Gf,Aa,Cq,EO,Cr,C5,D',D1,Ej,C3,C2,C!,C_,C7,B_,↓DZ,↓EG,C8,D5,C6,D0,reduceCtorEq,D9,E!,D_,C9,D6,C?,D8,E0,CB,D7,D4,D2,D3,E1]at *)<;>(try simp only[DX,EL]at *)<;>omega)|((try clear ih)<;>(try clear hb)<;>(try simp only[Dy,Du,Hn,Iu,Ph,DM,Sm,Yp,BP,Ul,zi,z8,z32,z64,It,Ih,Gu,Fk,DP,Ik,DG,Ij,Iw,Ip,EC,UInt8.reduceToNat,UInt32.reduceToNat,UInt64.reduceToNat,Dc,Rg,Le,Ln,PE,Mu,BX,Sr,St,Wd,Nn,Ck,Cl,Cn,PD,Ty,Gf,Aa,Cq,EO,Cr,C5,D',D1,Ej,C3,C2,C!,C_,C7,B_,↓DZ,↓EG,C8,D5,C6,D0,reduceCtorEq,D9,E!,D_,C9,D6,C?,D8,E0,CB,D7,D4,D2,D3,E1]at *)<;>(try simp only[DX,EL]at *)<;>(try simp(disch:=omega)only[zw,lH,WJ]at *)<;>(try simp only[Bt]at *)<;>first|omega|(and_intros<;>first|omega|assumption|exact all_nil|exact Fb ⟨rfl,rfl⟩|exact Ba (by simp only[Nn,Aa]at *;omega)|exact Ad (by first|assumption|grind) (Ba (by first|assumption|exact Hs _|(simp only[Nn,Dy,Du,Bt,Gf,Rg,Le,Ln,St,Sr,Aa,C2]at *;omega)|simp_all))|grind|(simp_all;done)|(first|grind|exact Cg F4|(apply Ad<;>(first|grind|exact Cg F4))|(apply Ad<;>first|grind|exact Cg F4|(apply Ad<;>(first|grind|exact Cg F4))))|(repeat' first|exact all_nil|exact Hs _|apply all_cons|(simp only[Gf]at *;omega);done))|(intros;and_intros<;>first|omega|assumption|exact all_nil|grind|simp_all|(first|grind|exact Cg F4|(apply Ad<;>(first|grind|exact Cg F4))|(apply Ad<;>first|grind|exact Cg F4|(apply Ad<;>(first|grind|exact Cg F4))))))):T ((Ae l i).bind f) Q:=by
 unfold Ae;rw[BA h.1];have:i.toNat<l.length:=by have:=h.2;unfold Aa at this;omega
 rw[E7 this];exact k _
theorem th{l:List α}(k:∀x,x∈l->T (f x) Q)(h:0<=i/\i<Aa l:=by first|exact True.intro|((try clear ih)<;>(try clear hb)<;>(try simp only[Dy,Du,Hn,Iu,Bt,Ph,DM,Sm,Yp,BP,Ul,zi,z8,z32,z64,It,Ih,Gu,Fk,DP,Ik,DG,Ij,Iw,Ip,EC,UInt8.reduceToNat,UInt32.reduceToNat,UInt64.reduceToNat,Dc,Rg,Le,Ln,PE,Mu,BX,Sr,St,Wd,Nn,Ck,Cl,Cn,PD,Ty,Gf,Aa,Cq,EO,Cr,C5,D',D1,Ej,C3,C2,C!,C_,C7,B_,↓DZ,↓EG,C8,D5,C6,D0,reduceCtorEq,D9,E!,D_,C9,D6,C?,D8,E0,CB,D7,D4,D2,D3,E1]at *)<;>(try simp only[DX,EL]at *)<;>omega)|((try clear ih)<;>(try clear hb)<;>(try simp only[Dy,Du,Hn,Iu,Ph,DM,Sm,Yp,BP,Ul,zi,z8,z32,z64,It,Ih,Gu,Fk,DP,Ik,DG,Ij,Iw,Ip,EC,UInt8.reduceToNat,UInt32.reduceToNat,UInt64.reduceToNat,Dc,Rg,Le,Ln,PE,Mu,BX,Sr,St,Wd,Nn,Ck,Cl,Cn,PD,Ty,Gf,Aa,Cq,EO,Cr,C5,D',D1,Ej,C3,C2,C!,C_,C7,B_,↓DZ,↓EG,C8,D5,C6,D0,reduceCtorEq,D9,E!,D_,C9,D6,C?,D8,E0,CB,D7,D4,D2,D3,E1]at *)<;>(try simp only[DX,EL]at *)<;>(try simp(disch:=omega)only[zw,lH,WJ]at *)<;>(try simp only[Bt]at *)<;>first|omega|(and_intros<;>first|omega|assumption|exact all_nil|exact Fb ⟨rfl,rfl⟩|exact Ba (by simp only[Nn,Aa]at *;omega)|exact Ad (by first|assumption|grind) (Ba (by first|assumption|exact Hs _|(simp only[Nn,Dy,Du,Bt,Gf,Rg,Le,Ln,St,Sr,Aa,C2]at *;omega)|simp_all))|grind|(simp_all;done)|(first|grind|exact Cg F4|(apply Ad<;>(first|grind|exact Cg F4))|(apply Ad<;>first|grind|exact Cg F4|(apply Ad<;>(first|grind|exact Cg F4))))|(repeat' first|exact all_nil|exact Hs _|apply all_cons|(simp only[Gf]at *;omega);done))|(intros;and_intros<;>first|omega|assumption|exact all_nil|grind|simp_all|(first|grind|exact Cg F4|(apply Ad<;>(first|grind|exact Cg F4))|(apply Ad<;>first|grind|exact Cg F4|(apply Ad<;>(first|grind|exact Cg F4))))))):T ((Ae l i).bind f) Q:=by
 unfold Ae;rw[BA h.1];have:i.toNat<l.length:=by have:=h.2;unfold Aa at this;omega
 rw[E7 this];exact k _ (L! _)
theorem tq{l:List α}{x:UInt8}(k:∀y,T (f y) Q)(h:256<=Aa l:=by first|exact True.intro|((try clear ih)<;>(try clear hb)<;>(try simp only[Dy,Du,Hn,Iu,Bt,Ph,DM,Sm,Yp,BP,Ul,zi,z8,z32,z64,It,Ih,Gu,Fk,DP,Ik,DG,Ij,Iw,Ip,EC,UInt8.reduceToNat,UInt32.reduceToNat,UInt64.reduceToNat,Dc,Rg,Le,Ln,PE,Mu,BX,Sr,St,Wd,Nn,Ck,Cl,Cn,PD,Ty,Gf,Aa,Cq,EO,Cr,C5,D',D1,Ej,C3,C2,C!,C_,C7,B_,↓DZ,↓EG,C8,D5,C6,D0,reduceCtorEq,D9,E!,D_,C9,D6,C?,D8,E0,CB,D7,D4,D2,D3,E1]at *)<;>(try simp only[DX,EL]at *)<;>omega)|((try clear ih)<;>(try clear hb)<;>(try simp only[Dy,Du,Hn,Iu,Ph,DM,Sm,Yp,BP,Ul,zi,z8,z32,z64,It,Ih,Gu,Fk,DP,Ik,DG,Ij,Iw,Ip,EC,UInt8.reduceToNat,UInt32.reduceToNat,UInt64.reduceToNat,Dc,Rg,Le,Ln,PE,Mu,BX,Sr,St,Wd,Nn,Ck,Cl,Cn,PD,Ty,Gf,Aa,Cq,EO,Cr,C5,D',D1,Ej,C3,C2,C!,C_,C7,B_,↓DZ,↓EG,C8,D5,C6,D0,reduceCtorEq,D9,E!,D_,C9,D6,C?,D8,E0,CB,D7,D4,D2,D3,E1]at *)<;>(try simp only[DX,EL]at *)<;>(try simp(disch:=omega)only[zw,lH,WJ]at *)<;>(try simp only[Bt]at *)<;>first|omega|(and_intros<;>first|omega|assumption|exact all_nil|exact Fb ⟨rfl,rfl⟩|exact Ba (by simp only[Nn,Aa]at *;omega)|exact Ad (by first|assumption|grind) (Ba (by first|assumption|exact Hs _|(simp only[Nn,Dy,Du,Bt,Gf,Rg,Le,Ln,St,Sr,Aa,C2]at *;omega)|simp_all))|grind|(simp_all;done)|(first|grind|exact Cg F4|(apply Ad<;>(first|grind|exact Cg F4))|(apply Ad<;>first|grind|exact Cg F4|(apply Ad<;>(first|grind|exact Cg F4))))|(repeat' first|exact all_nil|exact Hs _|apply all_cons|(simp only[Gf]at *;omega);done))|(intros;and_intros<;>first|omega|assumption|exact all_nil|grind|simp_all|(first|grind|exact Cg F4|(apply Ad<;>(first|grind|exact Cg F4))|(apply Ad<;>first|grind|exact Cg F4|(apply Ad<;>(first|grind|exact Cg F4))))))):T ((Ae l (GI.toZ x)).bind f) Q:=
 tg k ⟨by rw[z8];omega,by rw[z8];have:=x.toNat_lt;omega⟩
theorem tz{l:List α}{x:UInt64}(hx:x.toNat<64)(k:∀y,T (f y) Q)(h:64<=Aa l:=by first|exact True.intro|((try clear ih)<;>(try clear hb)<;>(try simp only[Dy,Du,Hn,Iu,Bt,Ph,DM,Sm,Yp,BP,Ul,zi,z8,z32,z64,It,Ih,Gu,Fk,DP,Ik,DG,Ij,Iw,Ip,EC,UInt8.reduceToNat,UInt32.reduceToNat,UInt64.reduceToNat,Dc,Rg,Le,Ln,PE,Mu,BX,Sr,St,Wd,Nn,Ck,Cl,Cn,PD,Ty,Gf,Aa,Cq,EO,Cr,C5,D',D1,Ej,C3,C2,C!,C_,C7,B_,↓DZ,↓EG,C8,D5,C6,D0,reduceCtorEq,D9,E!,D_,C9,D6,C?,D8,E0,CB,D7,D4,D2,D3,E1]at *)<;>(try simp only[DX,EL]at *)<;>omega)|((try clear ih)<;>(try clear hb)<;>(try simp only[Dy,Du,Hn,Iu,Ph,DM,Sm,Yp,BP,Ul,zi,z8,z32,z64,It,Ih,Gu,Fk,DP,Ik,DG,Ij,Iw,Ip,EC,UInt8.reduceToNat,UInt32.reduceToNat,UInt64.reduceToNat,Dc,Rg,Le,Ln,PE,Mu,BX,Sr,St,Wd,Nn,Ck,Cl,Cn,PD,Ty,Gf,Aa,Cq,EO,Cr,C5,D',D1,Ej,C3,C2,C!,C_,C7,B_,↓DZ,↓EG,C8,D5,C6,D0,reduceCtorEq,D9,E!,D_,C9,D6,C?,D8,E0,CB,D7,D4,D2,D3,E1]at *)<;>(try simp only[DX,EL]at *)<;>(try simp(disch:=omega)only[zw,lH,WJ]at *)<;>(try simp only[Bt]at *)<;>first|omega|(and_intros<;>first|omega|assumption|exact all_nil|exact Fb ⟨rfl,rfl⟩|exact Ba (by simp only[Nn,Aa]at *;omega)|exact Ad (by first|assumption|grind) (Ba (by first|assumption|exact Hs _|(simp only[Nn,Dy,Du,Bt,Gf,Rg,Le,Ln,St,Sr,Aa,C2]at *;omega)|simp_all))|grind|(simp_all;done)|(first|grind|exact Cg F4|(apply Ad<;>(first|grind|exact Cg F4))|(apply Ad<;>first|grind|exact Cg F4|(apply Ad<;>(first|grind|exact Cg F4))))|(repeat' first|exact all_nil|exact Hs _|apply all_cons|(simp only[Gf]at *;omega);done))|(intros;and_intros<;>first|omega|assumption|exact all_nil|grind|simp_all|(first|grind|exact Cg F4|(apply Ad<;>(first|grind|exact Cg F4))|(apply Ad<;>first|grind|exact Cg F4|(apply Ad<;>(first|grind|exact Cg F4))))))):T ((Ae l (GI.toZ x)).bind f) Q:=tg k ⟨by rw[z64];omega,by rw[z64];omega⟩
theorem tr{l:List α}(k:∀y,T (f y) Q)(h:0<=a/\0<b/\b<=Aa l:=by first|exact True.intro|((try clear ih)<;>(try clear hb)<;>(try simp only[Dy,Du,Hn,Iu,Bt,Ph,DM,Sm,Yp,BP,Ul,zi,z8,z32,z64,It,Ih,Gu,Fk,DP,Ik,DG,Ij,Iw,Ip,EC,UInt8.reduceToNat,UInt32.reduceToNat,UInt64.reduceToNat,Dc,Rg,Le,Ln,PE,Mu,BX,Sr,St,Wd,Nn,Ck,Cl,Cn,PD,Ty,Gf,Aa,Cq,EO,Cr,C5,D',D1,Ej,C3,C2,C!,C_,C7,B_,↓DZ,↓EG,C8,D5,C6,D0,reduceCtorEq,D9,E!,D_,C9,D6,C?,D8,E0,CB,D7,D4,D2,D3,E1]at *)<;>(try simp only[DX,EL]at *)<;>omega)|((try clear ih)<;>(try clear hb)<;>(try simp only[Dy,Du,Hn,Iu,Ph,DM,Sm,Yp,BP,Ul,zi,z8,z32,z64,It,Ih,Gu,Fk,DP,Ik,DG,Ij,Iw,Ip,EC,UInt8.reduceToNat,UInt32.reduceToNat,UInt64.reduceToNat,Dc,Rg,Le,Ln,PE,Mu,BX,Sr,St,Wd,Nn,Ck,Cl,Cn,PD,Ty,Gf,Aa,Cq,EO,Cr,C5,D',D1,Ej,C3,C2,C!,C_,C7,B_,↓DZ,↓EG,C8,D5,C6,D0,reduceCtorEq,D9,E!,D_,C9,D6,C?,D8,E0,CB,D7,D4,D2,D3,E1]at *)<;>(try simp only[DX,EL]at *)<;>(try simp(disch:=omega)only[zw,lH,WJ]at *)<;>(try simp only[Bt]at *)<;>first|omega|(and_intros<;>first|omega|assumption|exact all_nil|exact Fb ⟨rfl,rfl⟩|exact Ba (by simp only[Nn,Aa]at *;omega)|exact Ad (by first|assumption|grind) (Ba (by first|assumption|exact Hs _|(simp only[Nn,Dy,Du,Bt,Gf,Rg,Le,Ln,St,Sr,Aa,C2]at *;omega)|simp_all))|grind|(simp_all;done)|(first|grind|exact Cg F4|(apply Ad<;>(first|grind|exact Cg F4))|(apply Ad<;>first|grind|exact Cg F4|(apply Ad<;>(first|grind|exact Cg F4))))|(repeat' first|exact all_nil|exact Hs _|apply all_cons|(simp only[Gf]at *;omega);done))|(intros;and_intros<;>first|omega|assumption|exact all_nil|grind|simp_all|(first|grind|exact Cg F4|(apply Ad<;>(first|grind|exact Cg F4))|(apply Ad<;>first|grind|exact Cg F4|(apply Ad<;>(first|grind|exact Cg F4))))))):T ((Ae l (Jb a b)).bind f) Q:=
 tg k ⟨by rw[Fk,WJ _ h.1];exact QO _ F3,by rw[Fk,WJ _ h.1];have:=QY a h.2.1;omega⟩
theorem tA{l:List α}{p:α->Prop}(k:∀x,p x->T (f x) Q)(hA:Dv p l:=by first|assumption|grind|(simp only[PD,PE]at *;grind))(h:0<=i/\i<Aa l:=by first|exact True.intro|((try clear ih)<;>(try clear hb)<;>(try simp only[Dy,Du,Hn,Iu,Bt,Ph,DM,Sm,Yp,BP,Ul,zi,z8,z32,z64,It,Ih,Gu,Fk,DP,Ik,DG,Ij,Iw,Ip,EC,UInt8.reduceToNat,UInt32.reduceToNat,UInt64.reduceToNat,Dc,Rg,Le,Ln,PE,Mu,BX,Sr,St,Wd,Nn,Ck,Cl,Cn,PD,Ty,Gf,Aa,Cq,EO,Cr,C5,D',D1,Ej,C3,C2,C!,C_,C7,B_,↓DZ,↓EG,C8,D5,C6,D0,reduceCtorEq,D9,E!,D_,C9,D6,C?,D8,E0,CB,D7,D4,D2,D3,E1]at *)<;>(try simp only[DX,EL]at *)<;>omega)|((try clear ih)<;>(try clear hb)<;>(try simp only[Dy,Du,Hn,Iu,Ph,DM,Sm,Yp,BP,Ul,zi,z8,z32,z64,It,Ih,Gu,Fk,DP,Ik,DG,Ij,Iw,Ip,EC,UInt8.reduceToNat,UInt32.reduceToNat,UInt64.reduceToNat,Dc,Rg,Le,Ln,PE,Mu,BX,Sr,St,Wd,Nn,Ck,Cl,Cn,PD,Ty,Gf,Aa,Cq,EO,Cr,C5,D',D1,Ej,C3,C2,C!,C_,C7,B_,↓DZ,↓EG,C8,D5,C6,D0,reduceCtorEq,D9,E!,D_,C9,D6,C?,D8,E0,CB,D7,D4,D2,D3,E1]at *)<;>(try simp only[DX,EL]at *)<;>(try simp(disch:=omega)only[zw,lH,WJ]at *)<;>(try simp only[Bt]at *)<;>first|omega|(and_intros<;>first|omega|assumption|exact all_nil|exact Fb ⟨rfl,rfl⟩|exact Ba (by simp only[Nn,Aa]at *;omega)|exact Ad (by first|assumption|grind) (Ba (by first|assumption|exact Hs _|(simp only[Nn,Dy,Du,Bt,Gf,Rg,Le,Ln,St,Sr,Aa,C2]at *;omega)|simp_all))|grind|(simp_all;done)|(first|grind|exact Cg F4|(apply Ad<;>(first|grind|exact Cg F4))|(apply Ad<;>first|grind|exact Cg F4|(apply Ad<;>(first|grind|exact Cg F4))))|(repeat' first|exact all_nil|exact Hs _|apply all_cons|(simp only[Gf]at *;omega);done))|(intros;and_intros<;>first|omega|assumption|exact all_nil|grind|simp_all|(first|grind|exact Cg F4|(apply Ad<;>(first|grind|exact Cg F4))|(apply Ad<;>first|grind|exact Cg F4|(apply Ad<;>(first|grind|exact Cg F4))))))):T ((Ae l i).bind f) Q:=
 th λx hx=>k x (hA x hx)
theorem tAr{l:List α}{p:α->Prop}(k:∀x,p x->T (f x) Q)(hA:Dv p l:=by first|assumption|grind|(simp only[PD,PE]at *;grind))(h:0<=a/\0<b/\b<=Aa l:=by first|exact True.intro|((try clear ih)<;>(try clear hb)<;>(try simp only[Dy,Du,Hn,Iu,Bt,Ph,DM,Sm,Yp,BP,Ul,zi,z8,z32,z64,It,Ih,Gu,Fk,DP,Ik,DG,Ij,Iw,Ip,EC,UInt8.reduceToNat,UInt32.reduceToNat,UInt64.reduceToNat,Dc,Rg,Le,Ln,PE,Mu,BX,Sr,St,Wd,Nn,Ck,Cl,Cn,PD,Ty,Gf,Aa,Cq,EO,Cr,C5,D',D1,Ej,C3,C2,C!,C_,C7,B_,↓DZ,↓EG,C8,D5,C6,D0,reduceCtorEq,D9,E!,D_,C9,D6,C?,D8,E0,CB,D7,D4,D2,D3,E1]at *)<;>(try simp only[DX,EL]at *)<;>omega)|((try clear ih)<;>(try clear hb)<;>(try simp only[Dy,Du,Hn,Iu,Ph,DM,Sm,Yp,BP,Ul,zi,z8,z32,z64,It,Ih,Gu,Fk,DP,Ik,DG,Ij,Iw,Ip,EC,UInt8.reduceToNat,UInt32.reduceToNat,UInt64.reduceToNat,Dc,Rg,Le,Ln,PE,Mu,BX,Sr,St,Wd,Nn,Ck,Cl,Cn,PD,Ty,Gf,Aa,Cq,EO,Cr,C5,D',D1,Ej,C3,C2,C!,C_,C7,B_,↓DZ,↓EG,C8,D5,C6,D0,reduceCtorEq,D9,E!,D_,C9,D6,C?,D8,E0,CB,D7,D4,D2,D3,E1]at *)<;>(try simp only[DX,EL]at *)<;>(try simp(disch:=omega)only[zw,lH,WJ]at *)<;>(try simp only[Bt]at *)<;>first|omega|(and_intros<;>first|omega|assumption|exact all_nil|exact Fb ⟨rfl,rfl⟩|exact Ba (by simp only[Nn,Aa]at *;omega)|exact Ad (by first|assumption|grind) (Ba (by first|assumption|exact Hs _|(simp only[Nn,Dy,Du,Bt,Gf,Rg,Le,Ln,St,Sr,Aa,C2]at *;omega)|simp_all))|grind|(simp_all;done)|(first|grind|exact Cg F4|(apply Ad<;>(first|grind|exact Cg F4))|(apply Ad<;>first|grind|exact Cg F4|(apply Ad<;>(first|grind|exact Cg F4))))|(repeat' first|exact all_nil|exact Hs _|apply all_cons|(simp only[Gf]at *;omega);done))|(intros;and_intros<;>first|omega|assumption|exact all_nil|grind|simp_all|(first|grind|exact Cg F4|(apply Ad<;>(first|grind|exact Cg F4))|(apply Ad<;>first|grind|exact Cg F4|(apply Ad<;>(first|grind|exact Cg F4))))))):T ((Ae l (Jb a b)).bind f) Q:=
 tA k hA ⟨by rw[Fk,WJ _ h.1];exact QO _ F3,by rw[Fk,WJ _ h.1];have:=QY a h.2.1;omega⟩
theorem tE{l:List α}(k:∀x,Ae l i=some x->T (f x) Q)(h:0<=i/\i<Aa l:=by first|exact True.intro|((try clear ih)<;>(try clear hb)<;>(try simp only[Dy,Du,Hn,Iu,Bt,Ph,DM,Sm,Yp,BP,Ul,zi,z8,z32,z64,It,Ih,Gu,Fk,DP,Ik,DG,Ij,Iw,Ip,EC,UInt8.reduceToNat,UInt32.reduceToNat,UInt64.reduceToNat,Dc,Rg,Le,Ln,PE,Mu,BX,Sr,St,Wd,Nn,Ck,Cl,Cn,PD,Ty,Gf,Aa,Cq,EO,Cr,C5,D',D1,Ej,C3,C2,C!,C_,C7,B_,↓DZ,↓EG,C8,D5,C6,D0,reduceCtorEq,D9,E!,D_,C9,D6,C?,D8,E0,CB,D7,D4,D2,D3,E1]at *)<;>(try simp only[DX,EL]at *)<;>omega)|((try clear ih)<;>(try clear hb)<;>(try simp only[Dy,Du,Hn,Iu,Ph,DM,Sm,Yp,BP,Ul,zi,z8,z32,z64,It,Ih,Gu,Fk,DP,Ik,DG,Ij,Iw,Ip,EC,UInt8.reduceToNat,UInt32.reduceToNat,UInt64.reduceToNat,Dc,Rg,Le,Ln,PE,Mu,BX,Sr,St,Wd,Nn,Ck,Cl,Cn,PD,Ty,Gf,Aa,Cq,EO,Cr,C5,D',D1,Ej,C3,C2,C!,C_,C7,B_,↓DZ,↓EG,C8,D5,C6,D0,reduceCtorEq,D9,E!,D_,C9,D6,C?,D8,E0,CB,D7,D4,D2,D3,E1]at *)<;>(try simp only[DX,EL]at *)<;>(try simp(disch:=omega)only[zw,lH,WJ]at *)<;>(try simp only[Bt]at *)<;>first|omega|(and_intros<;>first|omega|assumption|exact all_nil|exact Fb ⟨rfl,rfl⟩|exact Ba (by simp only[Nn,Aa]at *;omega)|exact Ad (by first|assumption|grind) (Ba (by first|assumption|exact Hs _|(simp only[Nn,Dy,Du,Bt,Gf,Rg,Le,Ln,St,Sr,Aa,C2]at *;omega)|simp_all))|grind|(simp_all;done)|(first|grind|exact Cg F4|(apply Ad<;>(first|grind|exact Cg F4))|(apply Ad<;>first|grind|exact Cg F4|(apply Ad<;>(first|grind|exact Cg F4))))|(repeat' first|exact all_nil|exact Hs _|apply all_cons|(simp only[Gf]at *;omega);done))|(intros;and_intros<;>first|omega|assumption|exact all_nil|grind|simp_all|(first|grind|exact Cg F4|(apply Ad<;>(first|grind|exact Cg F4))|(apply Ad<;>first|grind|exact Cg F4|(apply Ad<;>(first|grind|exact Cg F4))))))):T ((Ae l i).bind f) Q:=by
 have:i.toNat<l.length:=by have:=h.2;unfold Aa at this;omega
 have e:Ae l i=some l[i.toNat]:=by unfold Ae;rw[BA h.1,E7 this]
 rw[e,C'];exact k _ e
theorem tB{l:List α}{p:α->Prop}(k:∀x,Ae l i=some x->p x->T (f x) Q)(hA:Dv p l:=by first|assumption|grind|(simp only[PD,PE]at *;grind))(h:0<=i/\i<Aa l:=by first|exact True.intro|((try clear ih)<;>(try clear hb)<;>(try simp only[Dy,Du,Hn,Iu,Bt,Ph,DM,Sm,Yp,BP,Ul,zi,z8,z32,z64,It,Ih,Gu,Fk,DP,Ik,DG,Ij,Iw,Ip,EC,UInt8.reduceToNat,UInt32.reduceToNat,UInt64.reduceToNat,Dc,Rg,Le,Ln,PE,Mu,BX,Sr,St,Wd,Nn,Ck,Cl,Cn,PD,Ty,Gf,Aa,Cq,EO,Cr,C5,D',D1,Ej,C3,C2,C!,C_,C7,B_,↓DZ,↓EG,C8,D5,C6,D0,reduceCtorEq,D9,E!,D_,C9,D6,C?,D8,E0,CB,D7,D4,D2,D3,E1]at *)<;>(try simp only[DX,EL]at *)<;>omega)|((try clear ih)<;>(try clear hb)<;>(try simp only[Dy,Du,Hn,Iu,Ph,DM,Sm,Yp,BP,Ul,zi,z8,z32,z64,It,Ih,Gu,Fk,DP,Ik,DG,Ij,Iw,Ip,EC,UInt8.reduceToNat,UInt32.reduceToNat,UInt64.reduceToNat,Dc,Rg,Le,Ln,PE,Mu,BX,Sr,St,Wd,Nn,Ck,Cl,Cn,PD,Ty,Gf,Aa,Cq,EO,Cr,C5,D',D1,Ej,C3,C2,C!,C_,C7,B_,↓DZ,↓EG,C8,D5,C6,D0,reduceCtorEq,D9,E!,D_,C9,D6,C?,D8,E0,CB,D7,D4,D2,D3,E1]at *)<;>(try simp only[DX,EL]at *)<;>(try simp(disch:=omega)only[zw,lH,WJ]at *)<;>(try simp only[Bt]at *)<;>first|omega|(and_intros<;>first|omega|assumption|exact all_nil|exact Fb ⟨rfl,rfl⟩|exact Ba (by simp only[Nn,Aa]at *;omega)|exact Ad (by first|assumption|grind) (Ba (by first|assumption|exact Hs _|(simp only[Nn,Dy,Du,Bt,Gf,Rg,Le,Ln,St,Sr,Aa,C2]at *;omega)|simp_all))|grind|(simp_all;done)|(first|grind|exact Cg F4|(apply Ad<;>(first|grind|exact Cg F4))|(apply Ad<;>first|grind|exact Cg F4|(apply Ad<;>(first|grind|exact Cg F4))))|(repeat' first|exact all_nil|exact Hs _|apply all_cons|(simp only[Gf]at *;omega);done))|(intros;and_intros<;>first|omega|assumption|exact all_nil|grind|simp_all|(first|grind|exact Cg F4|(apply Ad<;>(first|grind|exact Cg F4))|(apply Ad<;>first|grind|exact Cg F4|(apply Ad<;>(first|grind|exact Cg F4))))))):T ((Ae l i).bind f) Q:=
 tE (λx e=>k x e (hA x (by unfold Ae at e;rw[BA h.1]at e;exact I! e))) h
variable {l m:List α} {g:List α->Option β}
theorem te{x:α}(k:∀y,Aa y=Aa l->T (g y) Q)(h:0<=i/\i<Aa l:=by first|exact True.intro|((try clear ih)<;>(try clear hb)<;>(try simp only[Dy,Du,Hn,Iu,Bt,Ph,DM,Sm,Yp,BP,Ul,zi,z8,z32,z64,It,Ih,Gu,Fk,DP,Ik,DG,Ij,Iw,Ip,EC,UInt8.reduceToNat,UInt32.reduceToNat,UInt64.reduceToNat,Dc,Rg,Le,Ln,PE,Mu,BX,Sr,St,Wd,Nn,Ck,Cl,Cn,PD,Ty,Gf,Aa,Cq,EO,Cr,C5,D',D1,Ej,C3,C2,C!,C_,C7,B_,↓DZ,↓EG,C8,D5,C6,D0,reduceCtorEq,D9,E!,D_,C9,D6,C?,D8,E0,CB,D7,D4,D2,D3,E1]at *)<;>(try simp only[DX,EL]at *)<;>omega)|((try clear ih)<;>(try clear hb)<;>(try simp only[Dy,Du,Hn,Iu,Ph,DM,Sm,Yp,BP,Ul,zi,z8,z32,z64,It,Ih,Gu,Fk,DP,Ik,DG,Ij,Iw,Ip,EC,UInt8.reduceToNat,UInt32.reduceToNat,UInt64.reduceToNat,Dc,Rg,Le,Ln,PE,Mu,BX,Sr,St,Wd,Nn,Ck,Cl,Cn,PD,Ty,Gf,Aa,Cq,EO,Cr,C5,D',D1,Ej,C3,C2,C!,C_,C7,B_,↓DZ,↓EG,C8,D5,C6,D0,reduceCtorEq,D9,E!,D_,C9,D6,C?,D8,E0,CB,D7,D4,D2,D3,E1]at *)<;>(try simp only[DX,EL]at *)<;>(try simp(disch:=omega)only[zw,lH,WJ]at *)<;>(try simp only[Bt]at *)<;>first|omega|(and_intros<;>first|omega|assumption|exact all_nil|exact Fb ⟨rfl,rfl⟩|exact Ba (by simp only[Nn,Aa]at *;omega)|exact Ad (by first|assumption|grind) (Ba (by first|assumption|exact Hs _|(simp only[Nn,Dy,Du,Bt,Gf,Rg,Le,Ln,St,Sr,Aa,C2]at *;omega)|simp_all))|grind|(simp_all;done)|(first|grind|exact Cg F4|(apply Ad<;>(first|grind|exact Cg F4))|(apply Ad<;>first|grind|exact Cg F4|(apply Ad<;>(first|grind|exact Cg F4))))|(repeat' first|exact all_nil|exact Hs _|apply all_cons|(simp only[Gf]at *;omega);done))|(intros;and_intros<;>first|omega|assumption|exact all_nil|grind|simp_all|(first|grind|exact Cg F4|(apply Ad<;>(first|grind|exact Cg F4))|(apply Ad<;>first|grind|exact Cg F4|(apply Ad<;>(first|grind|exact Cg F4))))))):T ((Mh l i x).bind g) Q:=by
 unfold Mh;rw[BA (by unfold Aa at h;exact h)];exact k _ WV
theorem tS{x:α}{p:α->Prop}(k:∀y,Aa y=Aa l/\Dv p y->T (g y) Q)(hA:Dv p l:=by first|assumption|grind|(simp only[PD,PE]at *;grind))(hx:p x:=by first|exact True.intro|((try clear ih)<;>(try clear hb)<;>(try simp only[Dy,Du,Hn,Iu,Bt,Ph,DM,Sm,Yp,BP,Ul,zi,z8,z32,z64,It,Ih,Gu,Fk,DP,Ik,DG,Ij,Iw,Ip,EC,UInt8.reduceToNat,UInt32.reduceToNat,UInt64.reduceToNat,Dc,Rg,Le,Ln,PE,Mu,BX,Sr,St,Wd,Nn,Ck,Cl,Cn,PD,Ty,Gf,Aa,Cq,EO,Cr,C5,D',D1,Ej,C3,C2,C!,C_,C7,B_,↓DZ,↓EG,C8,D5,C6,D0,reduceCtorEq,D9,E!,D_,C9,D6,C?,D8,E0,CB,D7,D4,D2,D3,E1]at *)<;>(try simp only[DX,EL]at *)<;>omega)|((try clear ih)<;>(try clear hb)<;>(try simp only[Dy,Du,Hn,Iu,Ph,DM,Sm,Yp,BP,Ul,zi,z8,z32,z64,It,Ih,Gu,Fk,DP,Ik,DG,Ij,Iw,Ip,EC,UInt8.reduceToNat,UInt32.reduceToNat,UInt64.reduceToNat,Dc,Rg,Le,Ln,PE,Mu,BX,Sr,St,Wd,Nn,Ck,Cl,Cn,PD,Ty,Gf,Aa,Cq,EO,Cr,C5,D',D1,Ej,C3,C2,C!,C_,C7,B_,↓DZ,↓EG,C8,D5,C6,D0,reduceCtorEq,D9,E!,D_,C9,D6,C?,D8,E0,CB,D7,D4,D2,D3,E1]at *)<;>(try simp only[DX,EL]at *)<;>(try simp(disch:=omega)only[zw,lH,WJ]at *)<;>(try simp only[Bt]at *)<;>first|omega|(and_intros<;>first|omega|assumption|exact all_nil|exact Fb ⟨rfl,rfl⟩|exact Ba (by simp only[Nn,Aa]at *;omega)|exact Ad (by first|assumption|grind) (Ba (by first|assumption|exact Hs _|(simp only[Nn,Dy,Du,Bt,Gf,Rg,Le,Ln,St,Sr,Aa,C2]at *;omega)|simp_all))|grind|(simp_all;done)|(first|grind|exact Cg F4|(apply Ad<;>(first|grind|exact Cg F4))|(apply Ad<;>first|grind|exact Cg F4|(apply Ad<;>(first|grind|exact Cg F4))))|(repeat' first|exact all_nil|exact Hs _|apply all_cons|(simp only[Gf]at *;omega);done))|(intros;and_intros<;>first|omega|assumption|exact all_nil|grind|simp_all|(first|grind|exact Cg F4|(apply Ad<;>(first|grind|exact Cg F4))|(apply Ad<;>first|grind|exact Cg F4|(apply Ad<;>(first|grind|exact Cg F4)))))))(h:0<=i/\i<Aa l:=by first|exact True.intro|((try clear ih)<;>(try clear hb)<;>(try simp only[Dy,Du,Hn,Iu,Bt,Ph,DM,Sm,Yp,BP,Ul,zi,z8,z32,z64,It,Ih,Gu,Fk,DP,Ik,DG,Ij,Iw,Ip,EC,UInt8.reduceToNat,UInt32.reduceToNat,UInt64.reduceToNat,Dc,Rg,Le,Ln,PE,Mu,BX,Sr,St,Wd,Nn,Ck,Cl,Cn,PD,Ty,Gf,Aa,Cq,EO,Cr,C5,D',D1,Ej,C3,C2,C!,C_,C7,B_,↓DZ,↓EG,C8,D5,C6,D0,reduceCtorEq,D9,E!,D_,C9,D6,C?,D8,E0,CB,D7,D4,D2,D3,E1]at *)<;>(try simp only[DX,EL]at *)<;>omega)|((try clear ih)<;>(try clear hb)<;>(try simp only[Dy,Du,Hn,Iu,Ph,DM,Sm,Yp,BP,Ul,zi,z8,z32,z64,It,Ih,Gu,Fk,DP,Ik,DG,Ij,Iw,Ip,EC,UInt8.reduceToNat,UInt32.reduceToNat,UInt64.reduceToNat,Dc,Rg,Le,Ln,PE,Mu,BX,Sr,St,Wd,Nn,Ck,Cl,Cn,PD,Ty,Gf,Aa,Cq,EO,Cr,C5,D',D1,Ej,C3,C2,C!,C_,C7,B_,↓DZ,↓EG,C8,D5,C6,D0,reduceCtorEq,D9,E!,D_,C9,D6,C?,D8,E0,CB,D7,D4,D2,D3,E1]at *)<;>(try simp only[DX,EL]at *)<;>(try simp(disch:=omega)only[zw,lH,WJ]at *)<;>(try simp only[Bt]at *)<;>first|omega|(and_intros<;>first|omega|assumption|exact all_nil|exact Fb ⟨rfl,rfl⟩|exact Ba (by simp only[Nn,Aa]at *;omega)|exact Ad (by first|assumption|grind) (Ba (by first|assumption|exact Hs _|(simp only[Nn,Dy,Du,Bt,Gf,Rg,Le,Ln,St,Sr,Aa,C2]at *;omega)|simp_all))|grind|(simp_all;done)|(first|grind|exact Cg F4|(apply Ad<;>(first|grind|exact Cg F4))|(apply Ad<;>first|grind|exact Cg F4|(apply Ad<;>(first|grind|exact Cg F4))))|(repeat' first|exact all_nil|exact Hs _|apply all_cons|(simp only[Gf]at *;omega);done))|(intros;and_intros<;>first|omega|assumption|exact all_nil|grind|simp_all|(first|grind|exact Cg F4|(apply Ad<;>(first|grind|exact Cg F4))|(apply Ad<;>first|grind|exact Cg F4|(apply Ad<;>(first|grind|exact Cg F4))))))):T ((Mh l i x).bind g) Q:=by
 unfold Mh;rw[BA (by unfold Aa at h;exact h)];exact k _ ⟨by unfold Aa;simp,λy hy=>(List.mem_or_eq_of_mem_set hy).elim (hA y) λe=>e▸hx⟩
theorem tir{x:α}(k:∀y,Aa y=Aa l->T (g y) Q)(h:0<=a/\0<b/\b<=Aa l:=by first|exact True.intro|((try clear ih)<;>(try clear hb)<;>(try simp only[Dy,Du,Hn,Iu,Bt,Ph,DM,Sm,Yp,BP,Ul,zi,z8,z32,z64,It,Ih,Gu,Fk,DP,Ik,DG,Ij,Iw,Ip,EC,UInt8.reduceToNat,UInt32.reduceToNat,UInt64.reduceToNat,Dc,Rg,Le,Ln,PE,Mu,BX,Sr,St,Wd,Nn,Ck,Cl,Cn,PD,Ty,Gf,Aa,Cq,EO,Cr,C5,D',D1,Ej,C3,C2,C!,C_,C7,B_,↓DZ,↓EG,C8,D5,C6,D0,reduceCtorEq,D9,E!,D_,C9,D6,C?,D8,E0,CB,D7,D4,D2,D3,E1]at *)<;>(try simp only[DX,EL]at *)<;>omega)|((try clear ih)<;>(try clear hb)<;>(try simp only[Dy,Du,Hn,Iu,Ph,DM,Sm,Yp,BP,Ul,zi,z8,z32,z64,It,Ih,Gu,Fk,DP,Ik,DG,Ij,Iw,Ip,EC,UInt8.reduceToNat,UInt32.reduceToNat,UInt64.reduceToNat,Dc,Rg,Le,Ln,PE,Mu,BX,Sr,St,Wd,Nn,Ck,Cl,Cn,PD,Ty,Gf,Aa,Cq,EO,Cr,C5,D',D1,Ej,C3,C2,C!,C_,C7,B_,↓DZ,↓EG,C8,D5,C6,D0,reduceCtorEq,D9,E!,D_,C9,D6,C?,D8,E0,CB,D7,D4,D2,D3,E1]at *)<;>(try simp only[DX,EL]at *)<;>(try simp(disch:=omega)only[zw,lH,WJ]at *)<;>(try simp only[Bt]at *)<;>first|omega|(and_intros<;>first|omega|assumption|exact all_nil|exact Fb ⟨rfl,rfl⟩|exact Ba (by simp only[Nn,Aa]at *;omega)|exact Ad (by first|assumption|grind) (Ba (by first|assumption|exact Hs _|(simp only[Nn,Dy,Du,Bt,Gf,Rg,Le,Ln,St,Sr,Aa,C2]at *;omega)|simp_all))|grind|(simp_all;done)|(first|grind|exact Cg F4|(apply Ad<;>(first|grind|exact Cg F4))|(apply Ad<;>first|grind|exact Cg F4|(apply Ad<;>(first|grind|exact Cg F4))))|(repeat' first|exact all_nil|exact Hs _|apply all_cons|(simp only[Gf]at *;omega);done))|(intros;and_intros<;>first|omega|assumption|exact all_nil|grind|simp_all|(first|grind|exact Cg F4|(apply Ad<;>(first|grind|exact Cg F4))|(apply Ad<;>first|grind|exact Cg F4|(apply Ad<;>(first|grind|exact Cg F4))))))):T ((Mh l (Jb a b) x).bind g) Q:=
 te k ⟨by rw[Fk,WJ _ h.1];exact QO _ F3,by rw[Fk,WJ _ h.1];have:=QY a h.2.1;omega⟩
theorem tSr{x:α}{p:α->Prop}(k:∀y,Aa y=Aa l/\Dv p y->T (g y) Q)(hA:Dv p l:=by first|assumption|grind|(simp only[PD,PE]at *;grind))(hx:p x:=by first|exact True.intro|((try clear ih)<;>(try clear hb)<;>(try simp only[Dy,Du,Hn,Iu,Bt,Ph,DM,Sm,Yp,BP,Ul,zi,z8,z32,z64,It,Ih,Gu,Fk,DP,Ik,DG,Ij,Iw,Ip,EC,UInt8.reduceToNat,UInt32.reduceToNat,UInt64.reduceToNat,Dc,Rg,Le,Ln,PE,Mu,BX,Sr,St,Wd,Nn,Ck,Cl,Cn,PD,Ty,Gf,Aa,Cq,EO,Cr,C5,D',D1,Ej,C3,C2,C!,C_,C7,B_,↓DZ,↓EG,C8,D5,C6,D0,reduceCtorEq,D9,E!,D_,C9,D6,C?,D8,E0,CB,D7,D4,D2,D3,E1]at *)<;>(try simp only[DX,EL]at *)<;>omega)|((try clear ih)<;>(try clear hb)<;>(try simp only[Dy,Du,Hn,Iu,Ph,DM,Sm,Yp,BP,Ul,zi,z8,z32,z64,It,Ih,Gu,Fk,DP,Ik,DG,Ij,Iw,Ip,EC,UInt8.reduceToNat,UInt32.reduceToNat,UInt64.reduceToNat,Dc,Rg,Le,Ln,PE,Mu,BX,Sr,St,Wd,Nn,Ck,Cl,Cn,PD,Ty,Gf,Aa,Cq,EO,Cr,C5,D',D1,Ej,C3,C2,C!,C_,C7,B_,↓DZ,↓EG,C8,D5,C6,D0,reduceCtorEq,D9,E!,D_,C9,D6,C?,D8,E0,CB,D7,D4,D2,D3,E1]at *)<;>(try simp only[DX,EL]at *)<;>(try simp(disch:=omega)only[zw,lH,WJ]at *)<;>(try simp only[Bt]at *)<;>first|omega|(and_intros<;>first|omega|assumption|exact all_nil|exact Fb ⟨rfl,rfl⟩|exact Ba (by simp only[Nn,Aa]at *;omega)|exact Ad (by first|assumption|grind) (Ba (by first|assumption|exact Hs _|(simp only[Nn,Dy,Du,Bt,Gf,Rg,Le,Ln,St,Sr,Aa,C2]at *;omega)|simp_all))|grind|(simp_all;done)|(first|grind|exact Cg F4|(apply Ad<;>(first|grind|exact Cg F4))|(apply Ad<;>first|grind|exact Cg F4|(apply Ad<;>(first|grind|exact Cg F4))))|(repeat' first|exact all_nil|exact Hs _|apply all_cons|(simp only[Gf]at *;omega);done))|(intros;and_intros<;>first|omega|assumption|exact all_nil|grind|simp_all|(first|grind|exact Cg F4|(apply Ad<;>(first|grind|exact Cg F4))|(apply Ad<;>first|grind|exact Cg F4|(apply Ad<;>(first|grind|exact Cg F4)))))))(h:0<=a/\0<b/\b<=Aa l:=by first|exact True.intro|((try clear ih)<;>(try clear hb)<;>(try simp only[Dy,Du,Hn,Iu,Bt,Ph,DM,Sm,Yp,BP,Ul,zi,z8,z32,z64,It,Ih,Gu,Fk,DP,Ik,DG,Ij,Iw,Ip,EC,UInt8.reduceToNat,UInt32.reduceToNat,UInt64.reduceToNat,Dc,Rg,Le,Ln,PE,Mu,BX,Sr,St,Wd,Nn,Ck,Cl,Cn,PD,Ty,Gf,Aa,Cq,EO,Cr,C5,D',D1,Ej,C3,C2,C!,C_,C7,B_,↓DZ,↓EG,C8,D5,C6,D0,reduceCtorEq,D9,E!,D_,C9,D6,C?,D8,E0,CB,D7,D4,D2,D3,E1]at *)<;>(try simp only[DX,EL]at *)<;>omega)|((try clear ih)<;>(try clear hb)<;>(try simp only[Dy,Du,Hn,Iu,Ph,DM,Sm,Yp,BP,Ul,zi,z8,z32,z64,It,Ih,Gu,Fk,DP,Ik,DG,Ij,Iw,Ip,EC,UInt8.reduceToNat,UInt32.reduceToNat,UInt64.reduceToNat,Dc,Rg,Le,Ln,PE,Mu,BX,Sr,St,Wd,Nn,Ck,Cl,Cn,PD,Ty,Gf,Aa,Cq,EO,Cr,C5,D',D1,Ej,C3,C2,C!,C_,C7,B_,↓DZ,↓EG,C8,D5,C6,D0,reduceCtorEq,D9,E!,D_,C9,D6,C?,D8,E0,CB,D7,D4,D2,D3,E1]at *)<;>(try simp only[DX,EL]at *)<;>(try simp(disch:=omega)only[zw,lH,WJ]at *)<;>(try simp only[Bt]at *)<;>first|omega|(and_intros<;>first|omega|assumption|exact all_nil|exact Fb ⟨rfl,rfl⟩|exact Ba (by simp only[Nn,Aa]at *;omega)|exact Ad (by first|assumption|grind) (Ba (by first|assumption|exact Hs _|(simp only[Nn,Dy,Du,Bt,Gf,Rg,Le,Ln,St,Sr,Aa,C2]at *;omega)|simp_all))|grind|(simp_all;done)|(first|grind|exact Cg F4|(apply Ad<;>(first|grind|exact Cg F4))|(apply Ad<;>first|grind|exact Cg F4|(apply Ad<;>(first|grind|exact Cg F4))))|(repeat' first|exact all_nil|exact Hs _|apply all_cons|(simp only[Gf]at *;omega);done))|(intros;and_intros<;>first|omega|assumption|exact all_nil|grind|simp_all|(first|grind|exact Cg F4|(apply Ad<;>(first|grind|exact Cg F4))|(apply Ad<;>first|grind|exact Cg F4|(apply Ad<;>(first|grind|exact Cg F4))))))):T ((Mh l (Jb a b) x).bind g) Q:=
 tS k hA hx ⟨by rw[Fk,WJ _ h.1];exact QO _ F3,by rw[Fk,WJ _ h.1];have:=QY a h.2.1;omega⟩
theorem tc(k:∀y,Aa y=b-a->T (g y) Q)(h:0<=a/\a<=b/\b<=Aa l:=by first|exact True.intro|((try clear ih)<;>(try clear hb)<;>(try simp only[Dy,Du,Hn,Iu,Bt,Ph,DM,Sm,Yp,BP,Ul,zi,z8,z32,z64,It,Ih,Gu,Fk,DP,Ik,DG,Ij,Iw,Ip,EC,UInt8.reduceToNat,UInt32.reduceToNat,UInt64.reduceToNat,Dc,Rg,Le,Ln,PE,Mu,BX,Sr,St,Wd,Nn,Ck,Cl,Cn,PD,Ty,Gf,Aa,Cq,EO,Cr,C5,D',D1,Ej,C3,C2,C!,C_,C7,B_,↓DZ,↓EG,C8,D5,C6,D0,reduceCtorEq,D9,E!,D_,C9,D6,C?,D8,E0,CB,D7,D4,D2,D3,E1]at *)<;>(try simp only[DX,EL]at *)<;>omega)|((try clear ih)<;>(try clear hb)<;>(try simp only[Dy,Du,Hn,Iu,Ph,DM,Sm,Yp,BP,Ul,zi,z8,z32,z64,It,Ih,Gu,Fk,DP,Ik,DG,Ij,Iw,Ip,EC,UInt8.reduceToNat,UInt32.reduceToNat,UInt64.reduceToNat,Dc,Rg,Le,Ln,PE,Mu,BX,Sr,St,Wd,Nn,Ck,Cl,Cn,PD,Ty,Gf,Aa,Cq,EO,Cr,C5,D',D1,Ej,C3,C2,C!,C_,C7,B_,↓DZ,↓EG,C8,D5,C6,D0,reduceCtorEq,D9,E!,D_,C9,D6,C?,D8,E0,CB,D7,D4,D2,D3,E1]at *)<;>(try simp only[DX,EL]at *)<;>(try simp(disch:=omega)only[zw,lH,WJ]at *)<;>(try simp only[Bt]at *)<;>first|omega|(and_intros<;>first|omega|assumption|exact all_nil|exact Fb ⟨rfl,rfl⟩|exact Ba (by simp only[Nn,Aa]at *;omega)|exact Ad (by first|assumption|grind) (Ba (by first|assumption|exact Hs _|(simp only[Nn,Dy,Du,Bt,Gf,Rg,Le,Ln,St,Sr,Aa,C2]at *;omega)|simp_all))|grind|(simp_all;done)|(first|grind|exact Cg F4|(apply Ad<;>(first|grind|exact Cg F4))|(apply Ad<;>first|grind|exact Cg F4|(apply Ad<;>(first|grind|exact Cg F4))))|(repeat' first|exact all_nil|exact Hs _|apply all_cons|(simp only[Gf]at *;omega);done))|(intros;and_intros<;>first|omega|assumption|exact all_nil|grind|simp_all|(first|grind|exact Cg F4|(apply Ad<;>(first|grind|exact Cg F4))|(apply Ad<;>first|grind|exact Cg F4|(apply Ad<;>(first|grind|exact Cg F4))))))):T ((Bi l a b).bind g) Q:=by
 unfold Bi;unfold Aa at h;rw[BA h];exact k _ VT
theorem tC{p:α->Prop}(k:∀y,Aa y=b-a/\Dv p y->T (g y) Q)(hA:Dv p l:=by first|assumption|grind|(simp only[PD,PE]at *;grind))(h:0<=a/\a<=b/\b<=Aa l:=by first|exact True.intro|((try clear ih)<;>(try clear hb)<;>(try simp only[Dy,Du,Hn,Iu,Bt,Ph,DM,Sm,Yp,BP,Ul,zi,z8,z32,z64,It,Ih,Gu,Fk,DP,Ik,DG,Ij,Iw,Ip,EC,UInt8.reduceToNat,UInt32.reduceToNat,UInt64.reduceToNat,Dc,Rg,Le,Ln,PE,Mu,BX,Sr,St,Wd,Nn,Ck,Cl,Cn,PD,Ty,Gf,Aa,Cq,EO,Cr,C5,D',D1,Ej,C3,C2,C!,C_,C7,B_,↓DZ,↓EG,C8,D5,C6,D0,reduceCtorEq,D9,E!,D_,C9,D6,C?,D8,E0,CB,D7,D4,D2,D3,E1]at *)<;>(try simp only[DX,EL]at *)<;>omega)|((try clear ih)<;>(try clear hb)<;>(try simp only[Dy,Du,Hn,Iu,Ph,DM,Sm,Yp,BP,Ul,zi,z8,z32,z64,It,Ih,Gu,Fk,DP,Ik,DG,Ij,Iw,Ip,EC,UInt8.reduceToNat,UInt32.reduceToNat,UInt64.reduceToNat,Dc,Rg,Le,Ln,PE,Mu,BX,Sr,St,Wd,Nn,Ck,Cl,Cn,PD,Ty,Gf,Aa,Cq,EO,Cr,C5,D',D1,Ej,C3,C2,C!,C_,C7,B_,↓DZ,↓EG,C8,D5,C6,D0,reduceCtorEq,D9,E!,D_,C9,D6,C?,D8,E0,CB,D7,D4,D2,D3,E1]at *)<;>(try simp only[DX,EL]at *)<;>(try simp(disch:=omega)only[zw,lH,WJ]at *)<;>(try simp only[Bt]at *)<;>first|omega|(and_intros<;>first|omega|assumption|exact all_nil|exact Fb ⟨rfl,rfl⟩|exact Ba (by simp only[Nn,Aa]at *;omega)|exact Ad (by first|assumption|grind) (Ba (by first|assumption|exact Hs _|(simp only[Nn,Dy,Du,Bt,Gf,Rg,Le,Ln,St,Sr,Aa,C2]at *;omega)|simp_all))|grind|(simp_all;done)|(first|grind|exact Cg F4|(apply Ad<;>(first|grind|exact Cg F4))|(apply Ad<;>first|grind|exact Cg F4|(apply Ad<;>(first|grind|exact Cg F4))))|(repeat' first|exact all_nil|exact Hs _|apply all_cons|(simp only[Gf]at *;omega);done))|(intros;and_intros<;>first|omega|assumption|exact all_nil|grind|simp_all|(first|grind|exact Cg F4|(apply Ad<;>(first|grind|exact Cg F4))|(apply Ad<;>first|grind|exact Cg F4|(apply Ad<;>(first|grind|exact Cg F4))))))):T ((Bi l a b).bind g) Q:=by
 have e:Bi l a b=some ((l.take b.toNat).drop a.toNat):=by unfold Bi;unfold Aa at h;rw[BA h]
 rw[e,C'];exact k _ ⟨by unfold Aa at *;simp;omega,λx hx=>hA x (List.mem_of_mem_take (List.mem_of_mem_drop hx))⟩
theorem ta(k:T (g (l++m)) Q)(h:Aa l+Aa m<=17179869184:=by first|exact True.intro|((try clear ih)<;>(try clear hb)<;>(try simp only[Dy,Du,Hn,Iu,Bt,Ph,DM,Sm,Yp,BP,Ul,zi,z8,z32,z64,It,Ih,Gu,Fk,DP,Ik,DG,Ij,Iw,Ip,EC,UInt8.reduceToNat,UInt32.reduceToNat,UInt64.reduceToNat,Dc,Rg,Le,Ln,PE,Mu,BX,Sr,St,Wd,Nn,Ck,Cl,Cn,PD,Ty,Gf,Aa,Cq,EO,Cr,C5,D',D1,Ej,C3,C2,C!,C_,C7,B_,↓DZ,↓EG,C8,D5,C6,D0,reduceCtorEq,D9,E!,D_,C9,D6,C?,D8,E0,CB,D7,D4,D2,D3,E1]at *)<;>(try simp only[DX,EL]at *)<;>omega)|((try clear ih)<;>(try clear hb)<;>(try simp only[Dy,Du,Hn,Iu,Ph,DM,Sm,Yp,BP,Ul,zi,z8,z32,z64,It,Ih,Gu,Fk,DP,Ik,DG,Ij,Iw,Ip,EC,UInt8.reduceToNat,UInt32.reduceToNat,UInt64.reduceToNat,Dc,Rg,Le,Ln,PE,Mu,BX,Sr,St,Wd,Nn,Ck,Cl,Cn,PD,Ty,Gf,Aa,Cq,EO,Cr,C5,D',D1,Ej,C3,C2,C!,C_,C7,B_,↓DZ,↓EG,C8,D5,C6,D0,reduceCtorEq,D9,E!,D_,C9,D6,C?,D8,E0,CB,D7,D4,D2,D3,E1]at *)<;>(try simp only[DX,EL]at *)<;>(try simp(disch:=omega)only[zw,lH,WJ]at *)<;>(try simp only[Bt]at *)<;>first|omega|(and_intros<;>first|omega|assumption|exact all_nil|exact Fb ⟨rfl,rfl⟩|exact Ba (by simp only[Nn,Aa]at *;omega)|exact Ad (by first|assumption|grind) (Ba (by first|assumption|exact Hs _|(simp only[Nn,Dy,Du,Bt,Gf,Rg,Le,Ln,St,Sr,Aa,C2]at *;omega)|simp_all))|grind|(simp_all;done)|(first|grind|exact Cg F4|(apply Ad<;>(first|grind|exact Cg F4))|(apply Ad<;>first|grind|exact Cg F4|(apply Ad<;>(first|grind|exact Cg F4))))|(repeat' first|exact all_nil|exact Hs _|apply all_cons|(simp only[Gf]at *;omega);done))|(intros;and_intros<;>first|omega|assumption|exact all_nil|grind|simp_all|(first|grind|exact Cg F4|(apply Ad<;>(first|grind|exact Cg F4))|(apply Ad<;>first|grind|exact Cg F4|(apply Ad<;>(first|grind|exact Cg F4))))))):T ((Ay l m).bind g) Q:=by
 unfold Ay pN;unfold Aa at h;rw[BA F3];exact k
theorem tk{n:Int}{z:α}(k:∀y,Aa y=n->T (g y) Q)(h:0<=n/\n<=17179869184:=by first|exact True.intro|((try clear ih)<;>(try clear hb)<;>(try simp only[Dy,Du,Hn,Iu,Bt,Ph,DM,Sm,Yp,BP,Ul,zi,z8,z32,z64,It,Ih,Gu,Fk,DP,Ik,DG,Ij,Iw,Ip,EC,UInt8.reduceToNat,UInt32.reduceToNat,UInt64.reduceToNat,Dc,Rg,Le,Ln,PE,Mu,BX,Sr,St,Wd,Nn,Ck,Cl,Cn,PD,Ty,Gf,Aa,Cq,EO,Cr,C5,D',D1,Ej,C3,C2,C!,C_,C7,B_,↓DZ,↓EG,C8,D5,C6,D0,reduceCtorEq,D9,E!,D_,C9,D6,C?,D8,E0,CB,D7,D4,D2,D3,E1]at *)<;>(try simp only[DX,EL]at *)<;>omega)|((try clear ih)<;>(try clear hb)<;>(try simp only[Dy,Du,Hn,Iu,Ph,DM,Sm,Yp,BP,Ul,zi,z8,z32,z64,It,Ih,Gu,Fk,DP,Ik,DG,Ij,Iw,Ip,EC,UInt8.reduceToNat,UInt32.reduceToNat,UInt64.reduceToNat,Dc,Rg,Le,Ln,PE,Mu,BX,Sr,St,Wd,Nn,Ck,Cl,Cn,PD,Ty,Gf,Aa,Cq,EO,Cr,C5,D',D1,Ej,C3,C2,C!,C_,C7,B_,↓DZ,↓EG,C8,D5,C6,D0,reduceCtorEq,D9,E!,D_,C9,D6,C?,D8,E0,CB,D7,D4,D2,D3,E1]at *)<;>(try simp only[DX,EL]at *)<;>(try simp(disch:=omega)only[zw,lH,WJ]at *)<;>(try simp only[Bt]at *)<;>first|omega|(and_intros<;>first|omega|assumption|exact all_nil|exact Fb ⟨rfl,rfl⟩|exact Ba (by simp only[Nn,Aa]at *;omega)|exact Ad (by first|assumption|grind) (Ba (by first|assumption|exact Hs _|(simp only[Nn,Dy,Du,Bt,Gf,Rg,Le,Ln,St,Sr,Aa,C2]at *;omega)|simp_all))|grind|(simp_all;done)|(first|grind|exact Cg F4|(apply Ad<;>(first|grind|exact Cg F4))|(apply Ad<;>first|grind|exact Cg F4|(apply Ad<;>(first|grind|exact Cg F4))))|(repeat' first|exact all_nil|exact Hs _|apply all_cons|(simp only[Gf]at *;omega);done))|(intros;and_intros<;>first|omega|assumption|exact all_nil|grind|simp_all|(first|grind|exact Cg F4|(apply Ad<;>(first|grind|exact Cg F4))|(apply Ad<;>first|grind|exact Cg F4|(apply Ad<;>(first|grind|exact Cg F4))))))):T ((mkI n z).bind g) Q:=by
 unfold mkI pN;rw[BA F3];exact k _ VT
theorem tw{b:Bool}{f:Unit->Option β}(k:T (f ()) Q)(h:b=true:=by first|exact True.intro|((try clear ih)<;>(try clear hb)<;>(try simp only[Dy,Du,Hn,Iu,Bt,Ph,DM,Sm,Yp,BP,Ul,zi,z8,z32,z64,It,Ih,Gu,Fk,DP,Ik,DG,Ij,Iw,Ip,EC,UInt8.reduceToNat,UInt32.reduceToNat,UInt64.reduceToNat,Dc,Rg,Le,Ln,PE,Mu,BX,Sr,St,Wd,Nn,Ck,Cl,Cn,PD,Ty,Gf,Aa,Cq,EO,Cr,C5,D',D1,Ej,C3,C2,C!,C_,C7,B_,↓DZ,↓EG,C8,D5,C6,D0,reduceCtorEq,D9,E!,D_,C9,D6,C?,D8,E0,CB,D7,D4,D2,D3,E1]at *)<;>(try simp only[DX,EL]at *)<;>omega)|((try clear ih)<;>(try clear hb)<;>(try simp only[Dy,Du,Hn,Iu,Ph,DM,Sm,Yp,BP,Ul,zi,z8,z32,z64,It,Ih,Gu,Fk,DP,Ik,DG,Ij,Iw,Ip,EC,UInt8.reduceToNat,UInt32.reduceToNat,UInt64.reduceToNat,Dc,Rg,Le,Ln,PE,Mu,BX,Sr,St,Wd,Nn,Ck,Cl,Cn,PD,Ty,Gf,Aa,Cq,EO,Cr,C5,D',D1,Ej,C3,C2,C!,C_,C7,B_,↓DZ,↓EG,C8,D5,C6,D0,reduceCtorEq,D9,E!,D_,C9,D6,C?,D8,E0,CB,D7,D4,D2,D3,E1]at *)<;>(try simp only[DX,EL]at *)<;>(try simp(disch:=omega)only[zw,lH,WJ]at *)<;>(try simp only[Bt]at *)<;>first|omega|(and_intros<;>first|omega|assumption|exact all_nil|exact Fb ⟨rfl,rfl⟩|exact Ba (by simp only[Nn,Aa]at *;omega)|exact Ad (by first|assumption|grind) (Ba (by first|assumption|exact Hs _|(simp only[Nn,Dy,Du,Bt,Gf,Rg,Le,Ln,St,Sr,Aa,C2]at *;omega)|simp_all))|grind|(simp_all;done)|(first|grind|exact Cg F4|(apply Ad<;>(first|grind|exact Cg F4))|(apply Ad<;>first|grind|exact Cg F4|(apply Ad<;>(first|grind|exact Cg F4))))|(repeat' first|exact all_nil|exact Hs _|apply all_cons|(simp only[Gf]at *;omega);done))|(intros;and_intros<;>first|omega|assumption|exact all_nil|grind|simp_all|(first|grind|exact Cg F4|(apply Ad<;>(first|grind|exact Cg F4))|(apply Ad<;>first|grind|exact Cg F4|(apply Ad<;>(first|grind|exact Cg F4))))))):T ((Es b).bind f) Q:=by
 unfold Es;rw[BA h];exact k
theorem tv{n:Int}{f:Unit->Option β}(k:T (f ()) Q)(h:0<=a/\a<=b/\b<=n:=by first|exact True.intro|((try clear ih)<;>(try clear hb)<;>(try simp only[Dy,Du,Hn,Iu,Bt,Ph,DM,Sm,Yp,BP,Ul,zi,z8,z32,z64,It,Ih,Gu,Fk,DP,Ik,DG,Ij,Iw,Ip,EC,UInt8.reduceToNat,UInt32.reduceToNat,UInt64.reduceToNat,Dc,Rg,Le,Ln,PE,Mu,BX,Sr,St,Wd,Nn,Ck,Cl,Cn,PD,Ty,Gf,Aa,Cq,EO,Cr,C5,D',D1,Ej,C3,C2,C!,C_,C7,B_,↓DZ,↓EG,C8,D5,C6,D0,reduceCtorEq,D9,E!,D_,C9,D6,C?,D8,E0,CB,D7,D4,D2,D3,E1]at *)<;>(try simp only[DX,EL]at *)<;>omega)|((try clear ih)<;>(try clear hb)<;>(try simp only[Dy,Du,Hn,Iu,Ph,DM,Sm,Yp,BP,Ul,zi,z8,z32,z64,It,Ih,Gu,Fk,DP,Ik,DG,Ij,Iw,Ip,EC,UInt8.reduceToNat,UInt32.reduceToNat,UInt64.reduceToNat,Dc,Rg,Le,Ln,PE,Mu,BX,Sr,St,Wd,Nn,Ck,Cl,Cn,PD,Ty,Gf,Aa,Cq,EO,Cr,C5,D',D1,Ej,C3,C2,C!,C_,C7,B_,↓DZ,↓EG,C8,D5,C6,D0,reduceCtorEq,D9,E!,D_,C9,D6,C?,D8,E0,CB,D7,D4,D2,D3,E1]at *)<;>(try simp only[DX,EL]at *)<;>(try simp(disch:=omega)only[zw,lH,WJ]at *)<;>(try simp only[Bt]at *)<;>first|omega|(and_intros<;>first|omega|assumption|exact all_nil|exact Fb ⟨rfl,rfl⟩|exact Ba (by simp only[Nn,Aa]at *;omega)|exact Ad (by first|assumption|grind) (Ba (by first|assumption|exact Hs _|(simp only[Nn,Dy,Du,Bt,Gf,Rg,Le,Ln,St,Sr,Aa,C2]at *;omega)|simp_all))|grind|(simp_all;done)|(first|grind|exact Cg F4|(apply Ad<;>(first|grind|exact Cg F4))|(apply Ad<;>first|grind|exact Cg F4|(apply Ad<;>(first|grind|exact Cg F4))))|(repeat' first|exact all_nil|exact Hs _|apply all_cons|(simp only[Gf]at *;omega);done))|(intros;and_intros<;>first|omega|assumption|exact all_nil|grind|simp_all|(first|grind|exact Cg F4|(apply Ad<;>(first|grind|exact Cg F4))|(apply Ad<;>first|grind|exact Cg F4|(apply Ad<;>(first|grind|exact Cg F4))))))):T ((jI n a b).bind f) Q:=by
 unfold jI;exact tw k (G0 h)
end
theorem ind{p:Nat->Prop}(h:p 0)(hs:∀q,p q->p (q+1)):∀q,p q:=λq=>Nat.rec h hs q
theorem VU{p:Prop}(h:p:=by rw[RV,Aa];simp;omega):p:=h
theorem F8{p:Prop}(h:p:=by unfold Aa;omega):p:=h
theorem mh{p:Prop}(h:p:=by have:=sD;omega):p:=h
theorem tF(h:n<18446744073709551616):(UInt64.ofNat n).toNat=n:=by rw[S6,N3 h]
theorem mul_one(m:Nat)(h:m<=100000):EJ (1:UInt64) (UInt64.ofNat m)=some (0,UInt64.ofNat m):=by
 have y1:(UInt64.ofNat m).toNat=m:=tF F3;have s1:Da (1:UInt64) (GI.toZ (32:UInt64)).toNat=0:=F4
 have s2:Da (UInt64.ofNat m) (GI.toZ (32:UInt64)).toNat=0:=by
  apply UInt64.toNat_inj.1;rw[pZ,y1];exact SZ (Nat.lt_of_le_of_lt h F4)
 have s0:Da (0:UInt64) (GI.toZ (32:UInt64)).toNat=0:=F4
 have a1:Dq (1:UInt64) (4294967295:UInt64)=1:=F4
 have a0:Dq (0:UInt64) (4294967295:UInt64)=0:=F4
 have a2:Dq (UInt64.ofNat m) (4294967295:UInt64)=UInt64.ofNat m:=by
  apply UInt64.toNat_inj.1;rw[Ale,UInt64.toNat_and,y1]
  show m&&& (2^32-1)=m;rw[kG,N3 F3]
 have m1:∀x:UInt64,Ch 1 x=x:=λx=>by rw[oq,UInt64.one_mul]
 have m0:∀x:UInt64,Ch 0 x=0:=λx=>by rw[oq,UInt64.zero_mul]
 have p0:∀x:UInt64,Af 0 x=x:=λx=>by rw[pC,UInt64.zero_add]
 have p1:∀x:UInt64,Af x 0=x:=λx=>by rw[pC,UInt64.add_zero]
 rw[EJ,FW];simp only[s1,s2,a1,a2,m1,m0,p0,p1,s0,a0,Kr]
theorem zK(v:Int)(m:Nat)(hm:m<=100000):∀(j n q:Nat),1<=n->n<=m->m-n<=j->j<q->Ef q (n:Int) (List.replicate n v++List.replicate (m-n) 0)=some (List.replicate m v)
 |j,n,q+1,hn,hnm,hj,hq=>by
  have hlen:Aa (List.replicate n v++List.replicate (m-n) 0)=(m:Int):=by simp[Aa];omega
  rw[Ef,Fv,hlen];by_cases h:n<m
  ·obtain⟨j,rfl⟩:∃k,j=k+1:=⟨j-1,F3⟩;rw[BA (by rw[RV];simp;omega)];have v1:jI (m:Int) (n:Int) (m:Int)=some ():=by rw[jI,jw];simp;omega
   have v2:jI (m:Int) (0:Int) (n:Int)=some ():=by rw[jI,jw];simp;omega
   have e1:Ej (List.replicate n v++List.replicate (m-n) 0) (0:Int) ((n:Int)-0)=List.replicate n v:=by
    simp[Ej]
   rw[v1,Kr,v2,Kr,e1];have e2:Cq ((m:Int)-(n:Int)) (List.replicate n v).length=((min n (m-n):Nat):Int):=by
    rw[Cq,C_];split<;>omega
   have e3:Om (List.replicate n v++List.replicate (m-n) 0) (n:Int) ((m:Int)-(n:Int)) (List.replicate n v)=List.replicate (n+min n (m-n)) v++List.replicate (m-(n+min n (m-n))) 0:=by
    have t1:((m:Int)-(n:Int)).toNat=m-n:=F3
    have t2:(List.replicate n v++List.replicate (m-n) (0:Int)).take n=List.replicate n v:=by simp
    rw[Om,t1,H',t2,List.take_replicate,C_,<-H?,List.replicate_append_replicate,kX,C_,Nat.min_comm (m-n) n];simp only[List.drop_replicate];rw[show n-(n+min n (m-n))=0 by omega,List.replicate_zero,J7,show m-n-(n+min n (m-n)-n)=m-(n+min n (m-n)) by omega]
   rw[e2,e3,Ie,show(n:Int)+((min n (m-n):Nat):Int)=((n+min n (m-n):Nat):Int) by omega];exact zK v m hm j (n+min n (m-n)) q F3 F3 F3 F3
  ·rw[C1 (by rw[RV];simp;omega)];obtain rfl:n=m:=F3
   simp[Hq,Lm]
theorem v_(v:Int)(m:Nat)(hm:m<=100000):Li [v] (m:Int)=some (List.replicate m v):=by
 have y1:(UInt64.ofNat m).toNat=m:=tF F3;have c1:(Am (Aa [v]):UInt64)=1:=by rfl
 have c2:(Am (m:Int):UInt64)=UInt64.ofNat m:=Ai4 m;have c3:(Am (UInt64.ofNat m):Int)=(m:Int):=by rw[Ai5 F3,y1]
 rw[Li,Mr,C1 (by rw[RV];simp),Vm,Ml,c1,c2,mul_one m hm,Kr];simp only;rw[C1 (by rw[rG,rG,y1];simp;show m<=9223372036854775807;omega),Vh,Mt,c3,dF,Kr,jw (by rw[Atx];simp),Kr,Vl,H'];by_cases h0:m=0
 ·subst h0;have hF:As=(As-1)+1:=by have:=sD;omega
  rw[hF,Ef,Fv];simp[Aa,Cr,Cq,RV,Hq,Lm]
 ·have:=zK v m hm m 1 As F3 F3 F3 mh;have e1:Cq (Aa (List.replicate m (0:Int))) [v].length=((1:Nat):Int):=by simp[Cq,Aa];omega
  have e2:Cr (List.replicate m (0:Int)) [v]=List.replicate 1 v++List.replicate (m-1) 0:=by
   obtain⟨k,rfl⟩:∃k,m=k+1:=⟨m-1,F3⟩;simp[Cr]
  rw[e1,e2,this]
theorem o_(l m:LI)(h:l.length+m.length<=1000000):Lf [l,m]=some (l++m):=by
 have hF:As=(As-3)+1+1+1:=by have:=sD;omega
 rw[Lf,Mp,Uu];have g0:Ae [l,m] (0:Int)=some l:=rfl;have g1:Ae [l,m] (1:Int)=some m:=rfl;have l2:Aa [l,m]=2:=rfl;have h3:Lt [l,m] []=some (l++m):=by
  rw[Lt,Lo,Lr,hF,Dz,Ff,l2,BA F4,g0,Kr,Qt F5,Kr,J7,show Af (0:Int) 1=1 by decide,
   Dz,Ff,l2,BA F4,g1,Kr,Qt,Kr,show Af (1:Int) 1=2 by decide,Dz,Ff,l2,C1 F4]
  rfl
 rw[hF,Ed,Fq,l2,BA F4,g0,Kr,Ie F8 F8,C1 (by rw[RV,Aa];simp),show Af (0:Int) 1=1 by decide,
  Ed,Fq,l2,BA F4,g1,Kr,Ie F8 F8,C1 (by rw[RV,Aa,Aa];simp;omega),show Af (1:Int) 1=2 by decide,
  Ed,Fq,l2,C1 F4,Tv,Lw,C1 (by rw[RV,Aa,Aa];simp;omega),Tx,Lp]
 have z:Ag (0:Int) 0=0:=F4
 have n0:(0:Int)+Aa l+Aa m=((l.length+m.length:Nat):Int):=by simp[Aa]
 rw[z,n0,AR,Int.sub_zero];by_cases hp:0<l.length+m.length
 ·rw[BA (by rw[T?];simp;omega),show jI (0:Int) 0 0=some ()from rfl,Kr,dF,Kr,Qt F5,Kr];rw[show jI (Aa ([]++List.replicate ((l.length+m.length:Nat):Int).toNat (0:Int))) 0 0=some () by rw[jI,jw];simp[Aa];omega,Kr];simp only[Ej,Int.sub_self,mV,O'];exact h3
 ·rw[C1 (by rw[T?];simp;omega)];exact h3
theorem mo(l:List LB)(hf:l.flatten.length<=4000000000)(hl:l.length<=4000000000)(v:LB)(hfin:Gt l (l.flatten.length:Int)=some v):∀(j i q:Nat),i+j=l.length->j<q->Dt l q (((l.take i).flatten.length:Nat):Int) (i:Int)=some v
 |j,i,0,_,h=>absurd h (lg _)
 |0,i,q+1,hi,_=>by
  rw[Dt,Hb,C1 VU,K6 F3];exact hfin
 |j+1,i,q+1,hi,hq=>by
  have ih:=mo l hf hl v hfin j (i+1) q F3 F3;have hi1:Af (i:Int) 1=((i+1:Nat):Int):=by rw[Ie];omega
  have hsn:(l.take (i+1)).flatten=(l.take i).flatten++l[i]:=by rw[wB F3,V7];simp
  have hsp:l.flatten=(l.take (i+1)).flatten++(l.drop (i+1)).flatten:=by rw[<-V7,kM]
  have hle:((l.take i).flatten).length+(l[i]).length<=4000000000:=by
   rw[hsp,C!,hsn,C!]at hf;omega
  have hadd:Af (((l.take i).flatten.length:Nat):Int) (Aa l[i])=(((l.take (i+1)).flatten.length:Nat):Int):=by
   rw[Aa,Ie,hsn,C!];omega
  rw[Dt,Hb,BA VU,uf,Kr,hadd,C1 (by rw[RV];simp only[E_];omega),hi1];exact ih
theorem Y0(l:List LB)(hf:l.flatten.length<=4000000000)(hl:l.length<=4000000000):∀(j i q:Nat),i+j=l.length->j<q->Dl l q (i:Int) (l.take i).flatten=some l.flatten
 |j,i,0,_,h=>absurd h (lg _)
 |0,i,q+1,hi,_=>by
  rw[Dl,Gs,C1 VU,K6 F3];rfl
 |j+1,i,q+1,hi,hq=>by
  have ih:=Y0 l hf hl j (i+1) q F3 F3;have hi1:Af (i:Int) 1=((i+1:Nat):Int):=by rw[Ie];omega
  have hsn:(l.take (i+1)).flatten=(l.take i).flatten++l[i]:=by rw[wB F3,V7];simp
  have hsp:l.flatten=(l.take (i+1)).flatten++(l.drop (i+1)).flatten:=by rw[<-V7,kM]
  have hle:((l.take i).flatten).length+(l[i]).length<=4000000000:=by
   rw[hsp,C!,hsn,C!]at hf;omega
  rw[Dl,Gs,BA VU,uf,Kr,Qt,Kr,hi1,<-hsn];exact ih
theorem oz(l:List LB)(hf:l.flatten.length<=4000000000)(hl:l.length<=4000000000):Ce l=some l.flatten:=by
 have h3:Jw l []=some l.flatten:=by
  rw[Jw,Jt,Jq];exact Y0 l hf hl l.length 0 As F3 mh
 have h11:Gt l (l.flatten.length:Int)=some l.flatten:=by
  have z:Ag (0:Int) 0=0:=F4
  rw[Gt,Ju,C1 (by rw[RV];simp only[E_];omega),Ri,Jy,z,AR,Int.sub_zero];by_cases hp:0<l.flatten.length
  ·rw[BA (by rw[T?];simp only[E_];omega),show jI (0:Int) 0 0=some ()from rfl,Kr,dF,Kr,Qt (by simp only[C2,C_];omega),Kr];rw[show jI (Aa ([]++List.replicate ((l.flatten.length:Nat):Int).toNat (0:UInt8))) 0 0=some () by rw[jI,jw];simp[Aa],Kr];simp only[Ej,Int.sub_self,mV,O'];exact h3
  ·rw[C1 (by rw[T?];simp only[E_];omega)];exact h3
 have:=mo l hf hl _ h11 l.length 0 As F3 mh;exact this
theorem Avv(l m:LB)(h:l.length+m.length<=1000000):Ce [l,m]=some (l++m):=by
 have:=oz [l,m] F5 F7;rw[this];simp
theorem kS{p:Prop}(h:p:=by rw[Ph];simp only[zi,E_];unfold Aa;omega):p:=h
theorem kT{p:Prop}(h:p:=by simp only[I2];omega):p:=h
end Go.Pl
set_option maxRecDepth 4000
set_option maxHeartbeats 400000
namespace Go.Pl
open Go Go.Lv
variable{y b:Int}{N16:Nat}
theorem XJ(s:LB)(c:UInt8): -1<=Fe s c/\Fe s c<Aa s:=by
  induction s with
  |nil=>simp[Fe,Aa]
  |cons b l ih=>
    simp only[Fe,Aa,C3]at*
    split<;>(try split)<;>omega
theorem Agc(s:LB)(c:UInt8)(h:True):T (stringslite_IndexByte s c) (λr=> -1<=r/\r<Aa s):=⟨_,rfl,XJ s c⟩
theorem Ug(a:LB)(b:UInt8)(hP:True):T (Df a b) (λr=> -1<=r/\r<Aa a):=
 tb (Agc _ _) λ_ _=>ts
theorem vR(q n:Nat)(a:LB)(h:Dv Nl a):(gN q n a).length<=a.length+q/\Dv Nl (gN q n a):=by
  have k:∀m,m<10->Nl (UInt8.ofNat (48+m)):=λm hm e=>by
    have:=congrArg UInt8.toNat e;rw[SA,show(10:UInt8).toNat=10 from rfl]at this;omega
  induction q generalizing n a with
  |zero=>exact⟨E3 _,h⟩
  |succ q ih=>
    unfold gN;split
    · rename_i hn
      exact⟨by rw[C3];omega,all_cons (k n hn) h⟩
    · have:=ih (n/10) (UInt8.ofNat (48+n %10)::a) (all_cons (k _ F3) h)
      rw[C3]at this;exact⟨F3,this.2⟩
theorem Bv(n:Int)(h: -9223372036854775808<=n/\n<=9223372036854775807):T (strconv_Itoa n) (λr=>Aa r<=21/\Dv Nl r):=by
  unfold strconv_Itoa;rw[BA (G0 h)];refine⟨_,rfl,?_⟩;have h1:=vR 20 n.natAbs [] all_nil;have h2:=vR 20 n.toNat [] all_nil;simp only[Aa,C2]at*
  split
  · exact⟨by simp only[C3];omega,all_cons (λe=>absurd e F4) h1.2⟩
  · exact⟨F3,h2.2⟩
theorem Bf(a:Int)(hP:0<=a/\a<=99):T (Ak a) (λr=>Aa r<=30/\Dv Nl r):=
 tb (Bv _) λ_ _=>ta (ts)
def hd(n:UInt8):UInt8:=([48,49,50,51,52,53,54,55,56,57,97,98,99,100,101,102]:LB).getD n.toNat 0
def Of:LB->LB
  |[]=>[]
  |b::r=>hd (Da b (GI.toZ (4:UInt64)).toNat)::hd (Dq b 15)::Of r
theorem Akm(a b:LB):Of (a++b)=Of a++Of b:=by
  induction a with
  |nil=>rfl
  |cons x l ih=>simp only[IP,Of,ih]
theorem VR(a:LB):(Of a).length=2*a.length:=by
  induction a with
  |nil=>rfl
  |cons x l ih=>simp only[Of,C3,ih];omega
theorem vT(n:UInt8)(h:n.toNat<16):Nl (hd n):=by
  have:Dv Nl [48,49,50,51,52,53,54,55,56,57,97,98,99,100,101,102]:=Cg F4;refine this _ ?_;unfold hd;rw[G3,E7 (by simpa using h)];exact L! _
theorem tG(a:LB):Dv Nl (Of a):=by
  induction a with
  |nil=>exact all_nil
  |cons x l ih=>exact all_cons (vT _ (zn4 _)) (all_cons (vT _ (z15 _)) ih)
theorem uO(n:UInt8)(h:n.toNat<16):Ae ([48,49,50,51,52,53,54,55,56,57,97,98,99,100,101,102]:LB) (GI.toZ n)=some (hd n):=by
  rw[z8];unfold Ae hd;rw[BA F3,H',G3,E7 (by simpa using h)];rfl
theorem Azb(a:LB)(ha:a.length<=12000000):∀(q i:Nat),i<=a.length/\a.length<i+q->Sk a q i (Of (a.take i))=some (Of a):=
 ind (λi hI=>by exfalso;omega) λq ih i hI=>by
  have hl:=VR (a.take i);have hl':=VR a;rw[C5]at hl;rw[Sk,KZ];by_cases h:i<a.length
  · have hsn:a.take (i+1)=a.take i++[a[i]]:=by rw[xR h]
    have g1:Ae a (i:Int)=some a[i]:=by unfold Ae;rw[BA F3,H',E7 h]
    have e:Of (a.take (i+1))=Of (a.take i)++[hd (Da a[i] (GI.toZ (4:UInt64)).toNat)]++[hd (Dq a[i] 15)]:=by
      rw[hsn,Akm,H?];rfl
    have k:=ih (i+1) ⟨F3,F3⟩;rw[e]at k;rw[BA (by rw[Ph];exact G0 (by show(i:Int)<Aa a;unfold Aa;omega)),g1,C',uO _ (zn4 _),C'];unfold Ay pN;rw[BA kT,C',uO _ (z15 _),C',BA (by simp only[C!,I2];omega),C',Ie];exact k
  · rw[C1 kS,K6 F3]
    unfold KS fF Es;rw[BA (G0 F8)];rfl
theorem mN(a:LB)(ha:a.length<=12000000):Ei a 0=some (Of a):=by
  unfold Ei Za;rw[C1 F4];exact Azb a ha As 0 ⟨F3,by have:=Dc;omega⟩
theorem Vn(a:LB)(h:Int)(hP:0<=h/\h<=99/\Aa a<=12000000):T (Ei a h) (λr=>Aa r<=24000030/\Dv Nl r):=by
  by_cases h0:h=0
  · subst h0
    have hl:=VR a;have:=hP.2.2;unfold Aa at this;exact⟨_,mN a F3,by unfold Aa;omega,tG a⟩
  · unfold Ei Za
    rw[BA (by rw[Ul];exact G0 h0)];exact tb (Bf _) λ_ _=>ts
theorem Jz(a b:LB)(hP:True):T (Mg a b) (λ_=>True):=
 ts
theorem Yw(b a:LB)(hP:Aa a<=17179869184):T (Ma b a) (λ_=>True):=
 ti (λ_=>tc λ_ _=>tb (Jz _ _) λ_ _=>ts) λ_=>ts
theorem TU{x:Int}(n:Nat)(hn:n<=62)(hx:0<=x/\x<2^n)(hy:0<=y/\y<2^n):0<=B? x y/\B? x y<2^n:=by
  have e:B? x y=wrap64 ((BitVec.ofInt 64 x|||BitVec.ofInt 64 y).toNat:Int):=rfl;have hp2:(2:Int)^n=((2^n:Nat):Int):=by push_cast;rfl
  have hp:2^n<=2^62:=kP F4 hn;have h1:(BitVec.ofInt 64 x).toNat=x.toNat:=by rw[K8];omega
  have h2:(BitVec.ofInt 64 y).toNat=y.toNat:=by rw[K8];omega
  have h3:x.toNat|||y.toNat<2^n:=Nat.or_lt_two_pow F3 F3;rw[e,BitVec.toNat_or,h1,h2,Db F3 F3];omega
theorem sh7(h:0<=b/\b<2097152):Fc b (GI.toZ (7:UInt64)).toNat=b*128:=by
  have e:Fc b (GI.toZ (7:UInt64)).toNat=wrap64 (b*128):=rfl;rw[e,Db F3 F3]
theorem Ar1(a:LB):∀(q:Nat) (b f:Int),0<=f/\f<=4/\4<f+q/\Aa a=4/\0<=b/\ (f=0->b<1)/\ (f=1->b<128)/\ (f=2->b<16384)/\ (f=3->b<2097152)/\b<268435456->T (Sy a q b f) (λr=>0<=r.2/\r.2<=99/\ (r.2=0->0<=r.1/\r.1<268435456)):=
 ind (λb f hI=>by exfalso;omega) λq ih b f hI=>ti (λh1=>tg λg=>ti (λ_=>ts) λh2=>by
  have hf:f<4:=by simp only[Ph,zi,E_]at h1;omega
  have hg:g.toNat<128:=by
    have e:(127:UInt8).toNat=127:=rfl;simp only[Sm,z8,e,G7]at h2;omega
  have hb:0<=b/\b<2097152:=F3
  have k7:=TU (x:=b*128) (y:=(g.toNat:Int)) 7 F4;have k14:=TU (x:=b*128) (y:=(g.toNat:Int)) 14 F4;have k21:=TU (x:=b*128) (y:=(g.toNat:Int)) 21 F4;have k28:=TU (x:=b*128) (y:=(g.toNat:Int)) 28 F4;rw[sh7 hb,DG,Ie];refine ih _ _ ?_;have:f=0\/f=1\/f=2\/f=3:=F3
  rcases this with h|h|h|h<;>omega) λ_=>ts
theorem Abx(a:LB)(hP:True):T (PX a) (λr=>0<=r.2/\r.2<=99/\ (r.2=0->0<=r.1/\r.1<268435456)):=
 ti (λ_=>ts) λ_=>tj (Ar1 _ As _ _)
theorem Md(a:LB)(g:Int)(b:UInt8)(m:Bool)(hP:Aa a<=100000/\10<=Aa a/\ (m=false->0<=g/\g<268435456)):T (FG a g b m) (λr=>0<=r.2/\r.2<=99/\ (r.2=0->10<=r.1/\r.1<=Aa a)):=
 ti (λ_=>ts) λ_=>ti (λ_=>ti (λ_=>ts) λ_=>ti (λ_=>ts) λ_=>ti (λ_=>tc λ_ _=>tc λ_ _=>ti (λ_=>ts) λ_=>tc λ_ _=>tc λ_ _=>tb (Jz _ _) λ_ _=>ti (λ_=>ts) λ_=>ts) λ_=>ts) λ_=>ti (λ_=>ts) λ_=>ti (λ_=>ts) λ_=>ti (λ_=>tc λ_ _=>tc λ_ _=>ti (λ_=>ts) λ_=>tc λ_ _=>tc λ_ _=>tb (Jz _ _) λ_ _=>ti (λ_=>ts) λ_=>ts) λ_=>ts
theorem Arb(a:LB)(hP:Aa a<=100000):T (WQ a) (λr=>0<=r.2/\r.2<=99/\ (r.2=0->10<=r.1/\r.1<=Aa a)):=
 tb (Yw _ _) λ_ _=>ti (λ_=>ts) λ_=>ti (λ_=>ts) λ_=>tg λ_=>tg λ_=>tc λ_ _=>tb (Abx _) λ⟨_,_⟩ _=>ti (λ_=>ti (λ_=>tj (Md _ _ _ _)) λh=>absurd h F7) λ_=>tg λ_=>ti (λ_=>tj (Md _ _ _ _)) λ_=>ti (λ_=>tj (Md _ _ _ _)) λ_=>ti (λ_=>tj (Md _ _ _ _)) λ_=>tj (Md _ _ _ _)
theorem Az1(a:LB):∀(q:Nat) (f:UInt64) (b:Int),0<=b/\b<= (Aa a)/\ (Aa a)<b+q/\ (Aa a)<=17179869184->T (MU a q f b) (λr=>0<=r.2/\r.2<=99):=
 ind (λf b hI=>by exfalso;(try simp only[Aa]at *);omega) λq ih f b hI=>ti (λ_=>tg λ_=>tw (tj (ih _ _))) λ_=>ts
theorem og(a:LB)(hP:True):T (qY a) (λr=>0<=r.2/\r.2<=99):=
 ti (λ_=>ts) λ_=>tj (Az1 _ As _ _)
theorem jH(f:LB)(a b:Int)(hP:Aa f<=100000):T (A9 f a b) (λr=>0<=r.2/\r.2<=99):=
 ti (λ_=>ts) λ_=>ti (λ_=>ts) λ_=>tc λ_ _=>tb (og _) λ⟨_,_⟩ _=>ts
theorem Ag3(b:UInt64)(a:Int)(hP:1<=a/\a<=8):T (W? b a) (λ_=>True):=
 ti (λ_=>ts) λ_=>tw (ts)
theorem Azw(f:UInt64)(g:LB):∀(q:Nat) (a:Int) (b:LB),0<=a/\a<= (Aa g)/\ (Aa g)<a+q/\ (Aa g)<=17179869184/\Aa b=Aa g/\Aa g<=8->T (OA f g q a b) (λr=>0<=r.2/\r.2<=99/\Aa r.1<=8):=
 ind (λa b hI=>by exfalso;(try simp only[Aa]at *);omega) λq ih a b hI=>ti (λ_=>tw (tg λ_=>te (λ_ _=>tj (ih _ _)))) λ_=>ts
theorem Pr(f:UInt64)(h:Int)(hP:True):T (Mc f h) (λr=>0<=r.2/\r.2<=99/\Aa r.1<=8):=
 ti (λ_=>ts) λ_=>tb (Ag3 _ _) λ_ _=>ti (λ_=>ts) λ_=>tk λ_ _=>tw (tj (Azw _ _ As _ _))
theorem Ack(a b:Int)(f:UInt64):∀(q:Nat) (h:Int) (g:LB),0<=h/\h<= (Aa ([(2000:UInt64),(Am (Af a 32):UInt64),(Am b:UInt64),f,(0:UInt64),(0:UInt64)]:LQ))/\ (Aa ([(2000:UInt64),(Am (Af a 32):UInt64),(Am b:UInt64),f,(0:UInt64),(0:UInt64)]:LQ))<h+q/\ (Aa ([(2000:UInt64),(Am (Af a 32):UInt64),(Am b:UInt64),f,(0:UInt64),(0:UInt64)]:LQ))<=17179869184/\Aa g<=8+8*h->T (YT a b f q h g) (λr=>Aa r<=100):=
 ind (λh g hI=>by exfalso;(try simp only[Aa]at *);omega) λq ih h g hI=>ti (λ_=>tg λ_=>tg λ_=>tb (Pr _ _) λ⟨_,_⟩ _=>ta (tj (ih _ _))) λ_=>ts
theorem uX(a b:Int)(f:UInt64)(hP:True):T (jF a b f) (λr=>Aa r<=100):=
 (by unfold jF oK R8;exact tj (Ack _ _ _ As _ _))
theorem fL(b:LB)(g:UInt64)(hP:Aa b<=100000):T (SJ b g) (λr=>r.2.2=true->0<=r.1/\r.1<=3000/\0<=r.2.1/\r.2.1<=1000):=
 tb (jH _ _ _) λ⟨_,_⟩ _=>tb (jH _ _ _) λ⟨_,_⟩ _=>ti (λ_=>ts) λ_=>tb (uX _ _ _) λ_ _=>tb (Jz _ _) λ_ _=>ts
theorem zo(a:LB)(hP:Aa a<=100000):T (xD a) (λr=>0<=r.2/\r.2<=99/\ (r.2=0->10<=r.1/\r.1<=Aa a)):=
 tb (Yw _ _) λ_ _=>ti (λ_=>ts) λ_=>ti (λ_=>ts) λ_=>tc λ_ _=>tb (fL _ _) λ⟨_,_,_⟩ _=>ti (λ_=>ts) λ_=>ti (λ_=>ts) λ_=>tc λ_ _=>tb (uX _ _ _) λ_ _=>tb (Jz _ _) λ_ _=>ti (λ_=>ts) λ_=>ts
theorem Al2 (a:LB)(hP:Aa a<=100000):T (Wp a) (λr=>0<=r.2/\r.2<=99/\ (r.2=0->10<=r.1/\r.1<=Aa a)):=
 tb (Arb _) λ⟨_,_⟩ _=>ti (λ_=>ts) λ_=>tb (zo _) λ⟨_,_⟩ _=>ts
theorem Ac4(b:LB):∀(q:Nat) (x:Int),0<=x/\x<=Aa b/\Aa b<x+q/\Aa b<=100000->T (Ve b q x) (λr=>0<=r.2/\r.2<=99/\ (r.2=0->0<=r.1/\r.1<=Aa b)):=
 ind (λx hI=>by exfalso;omega) λq ih x hI=>tc λ_ _=>tb (Al2 _) λ⟨_,_⟩ _=>ti (λ_=>ts) λ_=>ti (λ_=>ts) λ_=>ti (λ_=>ts) λ_=>tj (ih _)
theorem Qc(b:LB)(hP:Aa b<=100000):T (Gj b) (λr=>0<=r.2/\r.2<=99/\ (r.2=0->0<=r.1/\r.1<=Aa b)):=tj (Ac4 _ As _)
theorem AO(b a:LB)(hP:Aa a<=17179869184):T (Hx b a) (λ_=>True):=
 ti (λ_=>tc λ_ _=>ts) λ_=>ts
theorem HB(a b:LB)(hP:Aa b<=17179869184):T (Qv a b) (λ_=>True):=
 tb (AO _ _) λ_ _=>ts
theorem Ayu{Fl:Int->LU->Bp}(f:UInt32)(a:LB)(g:Int)(b:LU)(hb:∀(g:Int) (b:LU),0<=g/\g<=256/\256<g+N16/\Aa b=256/\Aa a<=100000->T (Fl g b) (λr=>0<=r.2/\r.2<=99)):∀(q:Nat) (k:UInt32) (n:Int),0<=n/\n<=8/\8<n+q/\0<=g/\g<=256/\256<g+(N16+1)/\Aa b=256/\Aa a<=100000/\g<256->T (Zd Fl f a g b q k n) (λr=>0<=r.2/\r.2<=99):=
 ind (λk n hI=>by exfalso;(try simp only[Aa]at *);omega) λq ih k n hI=>ti (λ_=>tj (ih _ _)) λ_=>tg λ_=>te (λ_ _=>tj (hb _ _))
theorem Awb(a:LB)(b:LU):∀(q:Nat) (h:UInt32) (m:Int),0<=m/\m<= (Aa a)/\ (Aa a)<m+q/\ (Aa a)<=17179869184/\Aa b=256->T (Zu a b q h m) (λr=>0<=r.2/\r.2<=99):=
 ind (λh m hI=>by exfalso;(try simp only[Aa]at *);omega) λq ih h m hI=>ti (λ_=>tg λ_=>tq λ_=>tq λ_=>tj (ih _ _)) λ_=>ts
theorem Axv(f:UInt32)(a:LB):∀(q:Nat) (g:Int) (b:LU),0<=g/\g<=256/\256<g+q/\Aa b=256/\Aa a<=100000->T (Yy f a q g b) (λr=>0<=r.2/\r.2<=99):=
 ind (λg b hI=>by exfalso;(try simp only[Aa]at *);omega) λq ih g b hI=>ti (λ_=>tj (Ayu _ _ _ _ ih As _ _)) λ_=>tj (Awb _ _ As _ _)
theorem Amp (f:UInt32)(a:LB)(hP:True):T (oV f a) (λr=>0<=r.2/\r.2<=99):=
 ti (λ_=>ts) λ_=>tj (Axv _ _ As _ _)
theorem Yf(b:LB)(hP:True):T (Xn b) (λr=>0<=r.2/\r.2<=99):=
 tb (Amp _ _) λ⟨_,_⟩ _=>ti (λ_=>ts) λ_=>ts
theorem aW(b f a g h:Int)(hP:True):T (DS b f a g h) (λr=>r=true->1<=b/\b<=2/\1<=f/\f<=6/\8<=a/\a<=24/\a %8=0/\1<=g/\g<=1048576/\1<=h):=
 ti (λ_=>ti (λ_=>ts) λ_=>ts) λ_=>ti (λ_=>ti (λ_=>ts) λ_=>ts) λ_=>ti (λ_=>ts) λ_=>ts
theorem JZ(a:Int)(hP:True):T (Jp a) (λr=>0<=r.2/\r.2<=99/\ (r.2=0->1<=r.1/\r.1<=1100000)):=
 ti (λ_=>ts) λ_=>ts
theorem zq{a:Int}(h:0<a)(hb:1<=b):1<= (b+a-1)/a/\ ((b+a-1)/a-1)*a<b/\b<= (b+a-1)/a*a:=by
  have h1:=Int.emod_add_mul_ediv (b+a-1) a;have h2:=QO (b+a-1) (show a≠0 by omega);have h3:=QY (b+a-1) h;have h4:1<= (b+a-1)/a:=by
    have:=Int.le_ediv_of_mul_le h (show 1*a<=b+a-1 by omega);exact this
  have e:((b+a-1)/a-1)*a=a*((b+a-1)/a)-a:=by rw[Int.sub_mul,SL,Int.one_mul]
  refine⟨h4,F3,?_⟩;rw[SL];omega
theorem Vp(g b:Int)(hP:True):T (Kg g b) (λr=>0<=r.2/\r.2<=99/\ (r.2=0->1<=r.1/\r.1<=1000/\1<=b/\b<=4000/\∃a,Jp g=some (a,0)/\1<=a/\a<=1100000/\ (r.1-1)*a<b/\b<=r.1*a)):=by
  obtain⟨⟨a,f⟩,e,h⟩:=JZ g trivial;unfold Kg;rw[e,C'];refine ti (λ_=>ts) λh1=>?_;refine ti (λ_=>ts) λh2=>?_;refine tw ?_;have h3:1<=a/\a<=1100000/\1<=b/\b<=4000/\f=0:=by
    simp only[Ph,Sm,Ul,zi,C8,G7]at*
    omega
  have e1:Ep (Ag (Af b a) 1) a=(b+a-1)/a:=by
    rw[Ie,AR,Gu,lH _ F3,Db]
    · have:=QJ (show 0<=b+a-1 by omega) (show 0<=a by omega);omega
    · have:=SO (b:=a) (show 0<=b+a-1 by omega);omega
  have hq:=zq (a:=a) (b:=b) F3 F3;rw[e1];refine ti (λ_=>ts) λh4=>⟨_,rfl,H3 _,(show(0:Int)<=99 by decide),λ_=>⟨hq.1,?_,F3,F3,a,?_,F3,F3,hq.2⟩⟩
  · simp only[Sm,zi,G7]at h4;omega
  · rw[show f=0 by omega]
theorem lK(k a m f b:Int)(hP:1<=a):T (OK k a m f b) (λr=>r=true->1<=b/\b<=4000):=
 tw (ti (λ_=>ts) λ_=>tb (Vp _ _) λ⟨_,_⟩ _=>ts)
theorem Axy(b:LB):∀(q:Nat) (g:Int) (f:Int) (a:LI),0<=f/\f<=5/\5<f+q/\Aa a=5/\22<=Aa b/\Aa b<=100000/\4<=g/\g<=4+4*f->T (Yx b q g f a) (λr=>0<=r.2.2.2.2.2/\r.2.2.2.2.2<=99/\ (r.2.2.2.2.2=0->1<=r.1/\r.1<=2/\1<=r.2.1/\r.2.1<=6/\8<=r.2.2.1/\r.2.2.1<=24/\r.2.2.1 %8=0/\1<=r.2.2.2.1/\r.2.2.2.1<=1048576/\1<=r.2.2.2.2.1/\r.2.2.2.2.1<=4000/\22<=Aa b)):=
 ind (λg f a hI=>by exfalso;(try simp only[Aa]at *);omega) λq ih g f a hI=>ti (λ_=>th λ_ _=>tb (jH _ _ _) λ⟨_,_⟩ _=>th λ_ _=>te (λ_ _=>tj (ih _ _ _))) λ_=>th λ_ _=>th λ_ _=>th λ_ _=>th λ_ _=>th λ_ _=>th λ_ _=>th λ_ _=>th λ_ _=>th λ_ _=>th λ_ _=>tb (aW _ _ _ _ _) λ_ _=>ti (λ_=>ts) λ_=>tb (lK _ _ _ _ _) λ_ _=>ti (λ_=>ts) λ_=>ts
theorem Qb(b:LB)(hP:Aa b<=100000):T (Ke b) (λr=>0<=r.2.2.2.2.2/\r.2.2.2.2.2<=99/\ (r.2.2.2.2.2=0->1<=r.1/\r.1<=2/\1<=r.2.1/\r.2.1<=6/\8<=r.2.2.1/\r.2.2.1<=24/\r.2.2.1 %8=0/\1<=r.2.2.2.1/\r.2.2.2.1<=1048576/\1<=r.2.2.2.2.1/\r.2.2.2.2.1<=4000/\22<=Aa b)):=
 tc λ_ _=>tb (HB _ _) λ_ _=>ti (λ_=>ts) λ_=>ti (λ_=>ts) λ_=>tb (jH _ _ _) λ⟨_,_⟩ _=>tc λ_ _=>tb (Yf _) λ⟨_,_⟩ _=>ti (λ_=>ts) λ_=>tj (Axy _ As _ _ _)
theorem Ax0{Fl:Int->LQ->Bq}(b:UInt64)(a:LB)(g:Int)(f:LQ)(hb:∀(g:Int) (f:LQ),0<=g/\g<=256/\256<g+N16/\Aa f=256/\Aa a<=100000->T (Fl g f) (λr=>0<=r.2/\r.2<=99)):∀(q:Nat) (k:UInt64) (n:Int),0<=n/\n<=8/\8<n+q/\0<=g/\g<=256/\256<g+(N16+1)/\Aa f=256/\Aa a<=100000/\g<256->T (AQ Fl b a g f q k n) (λr=>0<=r.2/\r.2<=99):=
 ind (λk n hI=>by exfalso;(try simp only[Aa]at *);omega) λq ih k n hI=>ti (λ_=>tj (ih _ _)) λ_=>tg λ_=>te (λ_ _=>tj (hb _ _))
theorem Azf(a:LB)(b:UInt64)(f:LQ):∀(q:Nat) (h:UInt64) (m:Int),0<=m/\m<= (Aa a)/\ (Aa a)<m+q/\ (Aa a)<=17179869184/\Aa f=256->T (Zn a b f q h m) (λr=>0<=r.2/\r.2<=99):=
 ind (λh m hI=>by exfalso;(try simp only[Aa]at *);omega) λq ih h m hI=>ti (λ_=>tg λ_=>tq λ_=>tq λ_=>tj (ih _ _)) λ_=>ts
theorem Axn(b:UInt64)(a:LB):∀(q:Nat) (g:Int) (f:LQ),0<=g/\g<=256/\256<g+q/\Aa f=256/\Aa a<=100000->T (BM b a q g f) (λr=>0<=r.2/\r.2<=99):=
 ind (λg f hI=>by exfalso;(try simp only[Aa]at *);omega) λq ih g f hI=>ti (λ_=>tj (Ax0 _ _ _ _ ih As _ _)) λ_=>tj (Azf _ _ _ As _ _)
theorem Aci (b:UInt64)(a:LB)(hP:True):T (oF b a) (λr=>0<=r.2/\r.2<=99):=
 ti (λ_=>ts) λ_=>tj (Axn _ _ As _ _)
theorem B9(a:LB)(hP:True):T (jG a) (λr=>0<=r.2/\r.2<=99):=
 tb (Aci _ _) λ⟨_,_⟩ _=>ts
theorem ze(a:LB)(hP:True):T (xG a) (λr=>0<=r.2/\r.2<=99):=
 ti (λ_=>ts) λ_=>tb (B9 _) λ⟨_,_⟩ _=>ts
theorem gZ(b:LB)(hP:True):T (HS b) (λr=>0<=r.2/\r.2<=99/\Aa r.1<=8):=
 tb (ze _) λ⟨_,_⟩ _=>ti (λ_=>ts) λ_=>tb (Pr _ _) λ⟨_,_⟩ _=>ts
theorem AN(a f:LB)(hP:True):T (Tn a f) (λr=>0<=r.2/\r.2<=99):=
 tb (gZ _) λ⟨_,_⟩ _=>ti (λ_=>ts) λ_=>tb (Jz _ _) λ_ _=>ts
theorem gJ(a b f g h:Int)(hP:True):T (HD a b f g h) (λr=>0<=r/\r<=99/\ (r=0->1<=a/\a<=2/\1<=b/\b<=6/\8<=f/\f<=24/\f %8=0/\1<=g/\g<=1048576/\1<=h/\h<=4000)):=
 tb (aW _ _ _ _ _) λ_ _=>ti (λ_=>ts) λ_=>tb (lK _ _ _ _ _) λ_ _=>ti (λ_=>ts) λ_=>ts
theorem Aag(a b:Int)(hP:True):T (Oh a b) (λr=>0<=r.2/\r.2<=99/\Aa r.1<=1000/\Dv (Rg 1 4000) r.1/\ (r.2=0->1<=Aa r.1)):=by
  obtain⟨⟨f,g⟩,e,h⟩:=Vp a b trivial;unfold Oh;rw[e,C'];refine ti (λ_=>ts) λh1=>?_;have hg:g=0:=by simp only[Ul,zi,G7,CB,Decidable.not_not]at h1;exact h1
  obtain⟨k1,k2,k3,k4,v,ev,v1,v2,w1,w2⟩:=h.2.2 hg;simp only at k1 k2 k3 k4 w1 w2;have hm:0<= (f-1)*v:=mW F3 F3;rw[ev,C'];simp only;obtain⟨m,hm'⟩:∃m:Nat,f-1=(m:Int):=⟨(f-1).toNat,F3⟩;rw[AR,xC,AR,hm',v_ _ _ F3,C'];unfold AI;rw[o_ _ _ F5];refine⟨_,rfl,H3 _,(show(0:Int)<=99 by decide),by unfold Aa;rw[C!,C_,I2];omega,λx hx=>?_,λ_=>by unfold Aa;rw[C!,C_,I2];omega⟩
  show 1<=x/\x<=4000;rcases List.mem_append.1 hx with hx|hx
  · obtain⟨n0,rfl⟩:=List.mem_replicate.1 hx
    have:=xT (show 1<=f-1 by omega) (show 0<=x by omega);omega
  · rw[kJ]at hx
    have:f*v=(f-1)*v+v:=by rw[Int.sub_mul];omega
    subst hx;rw[<-hm'];omega
theorem Ax2(g h k a b:Int):T (Bn g h k a b) (λr=>0<=r.2/\r.2<=99/\Aa r.1<=1000/\Dv (Rg 1 4000) r.1/\ (r.2=0->1<=Aa r.1/\1<=g/\g<=2/\1<=h/\h<=6/\8<=k/\k<=24/\k %8=0/\1<=a/\a<=1048576/\1<=b/\b<=4000)):=
 tb (gJ _ _ _ _ _) λ_ _=>ti (λ_=>ts) λ_=>tb (Aag _ _) λ⟨_,_⟩ _=>ts
def nF(g h k a b:Int):Int:=match Bn g h k a b with
  |some r=>Aa r.1
  |none=>0
theorem Dd(g h k a b:Int)(hP:True):T (Bn g h k a b) (λr=>Aa r.1=nF g h k a b/\0<=r.2/\r.2<=99/\Aa r.1<=1000/\Dv (Rg 1 4000) r.1/\ (r.2=0->1<=Aa r.1/\1<=g/\g<=2/\1<=h/\h<=6/\8<=k/\k<=24/\k %8=0/\1<=a/\a<=1048576/\1<=b/\b<=4000)):=by
  obtain⟨y,e,h⟩:=Ax2 g h k a b;exact⟨y,e,by unfold nF;rw[e],h⟩
theorem Ax3(a:LI):∀(q:Nat) (f b:Int),0<=b/\b<=Aa a/\Aa a<b+q/\Aa a<=1000/\ (∀k:Nat,(k:Int)<b->∀x,a[k]? =some x->5<=x/\x<=100000)/\f<=100000->T (Zw a q f b) (λr=>0<=r/\r<=99/\ (r=0->Aa a<=1000/\Dv (Rg 5 100000) a)):=
 ind (λf b hI=>by exfalso;omega) λq ih f b hI=>ti (λh1=>by
  have hb:b<Aa a:=by simp only[Ph,zi,E_]at h1;exact h1
  have hb':b.toNat<a.length:=by unfold Aa at hb;omega
  have e:Ae a b=some a[b.toNat]:=by unfold Ae;rw[BA hI.1,E7 hb']
  rw[e,C'];refine ti (λ_=>⟨_,rfl,F4,F4,λh=>absurd h F4⟩) λh2=>?_;have h3:5<=a[b.toNat]/\a[b.toNat]<=f:=by simp only[Ph,Sm,zi,C8,G7]at h2;omega
  have e2:Ag f a[b.toNat]=f-a[b.toNat]:=AR;have e3:Af b 1=b+1:=Ie;rw[e2,e3];refine ih _ _ ⟨F3,F3,F3,F3,λk hk x hx=>?_,F3⟩;by_cases hkb:(k:Int)<b
  · exact hI.2.2.2.2.1 k hkb x hx
  · have:k=b.toNat:=F3
    subst this;rw[E7 hb']at hx;obtain rfl:=G1 hx;omega) λh1=>⟨_,rfl,H3 _,F4,λ_=>⟨hI.2.2.2.1,λx hx=>by
  obtain⟨k,hk,rfl⟩:=List.getElem_of_mem hx;refine hI.2.2.2.2.1 k ?_ _ (E7 hk);simp only[Ph,zi,G7]at h1;unfold Aa at h1;omega⟩⟩
theorem Vg(a:LI)(hP:True):T (Se a) (λr=>0<=r/\r<=99/\ (r=0->Aa a<=1000/\Dv (Rg 5 100000) a)):=
 ti (λ_=>⟨_,rfl,F4,F4,λh=>absurd h F4⟩) λh=>(Ax3 _ As _ _) ⟨H3 _,by unfold Aa;omega,by unfold Aa at *;simp only[BP,Sm,zi,Aa,C8,G7]at h;have:=Dc;omega,by simp only[BP,Sm,zi,Aa,C8,G7]at *;omega,λk hk=>by omega,F4⟩
theorem Acr{h:Int}(a:LB)(f:LI):∀(q:Nat) (g:Int) (b:LI),0<=g/\g<= (Aa f)/\ (Aa f)<g+q/\ (Aa f)<=17179869184/\Aa b=Aa f/\Aa a<=100000/\Aa f=h/\4*h+4<=Aa a->T (EA a f q g b) (λr=>0<=r.2/\r.2<=99/\ (r.2=0->Aa r.1=h/\4*h+4<=Aa a/\Dv (Rg 5 100000) r.1)):=
 ind (λg b hI=>by exfalso;(try simp only[Aa]at *);omega) λq ih g b hI=>ti (λ_=>tb (jH _ _ _) λ⟨_,_⟩ _=>tg λ_=>te (λ_ _=>tj (ih _ _))) λ_=>tb (Vg _) λ_ _=>ti (λ_=>ts) λ_=>ts
theorem AZ(a:LB)(h:Int)(hP:Aa a<=100000):T (Ws a h) (λr=>0<=r.2/\r.2<=99/\ (r.2=0->Aa r.1=h/\4*h+4<=Aa a/\Dv (Rg 5 100000) r.1)):=
 ti (λ_=>ts) λ_=>ti (λ_=>ts) λ_=>tb (jH _ _ _) λ⟨_,_⟩ _=>tc λ_ _=>tb (Yf _) λ⟨_,_⟩ _=>ti (λ_=>ts) λ_=>tk λ_ _=>tw (tj (Acr _ _ As _ _))
theorem VY(a:LB)(b g h k m o:Int)(hP:0<=o/\o<=Aa a/\Aa a<=100000):T (eR a b g h k m o) (λr=>0<=r.2.2.2.2.2.2.2/\r.2.2.2.2.2.2.2<=99/\ (r.2.2.2.2.2.2.2=0->1<=r.1/\r.1<=2/\1<=r.2.1/\r.2.1<=6/\8<=r.2.2.1/\r.2.2.1<=24/\r.2.2.1 %8=0/\1<=r.2.2.2.1/\r.2.2.2.1<=1048576/\1<=r.2.2.2.2.1/\r.2.2.2.2.1<=4000/\1<=r.2.2.2.2.2.1/\r.2.2.2.2.2.1<=110000/\1<=Aa r.2.2.2.2.2.2.1/\Aa r.2.2.2.2.2.2.1<=1000/\Aa a<=100000/\Aa r.2.2.2.2.2.2.1=nF r.1 r.2.1 r.2.2.1 r.2.2.2.1 r.2.2.2.2.1/\Dv (Rg 5 100000) r.2.2.2.2.2.2.1)):=
 tb (Dd _ _ _ _ _) λ⟨_,_⟩ _=>ti (λ_=>ts) λ_=>tc λ_ _=>tb (AZ _ _) λ⟨_,_⟩ _=>ti (λ_=>ts) λ_=>ts
theorem Is(a n:LB)(hP:True):T (Gp a n) (λr=>0<=r.2.2.2.2.2.2.2/\r.2.2.2.2.2.2.2<=99/\ (r.2.2.2.2.2.2.2=0->1<=r.1/\r.1<=2/\1<=r.2.1/\r.2.1<=6/\8<=r.2.2.1/\r.2.2.1<=24/\r.2.2.1 %8=0/\1<=r.2.2.2.1/\r.2.2.2.1<=1048576/\1<=r.2.2.2.2.1/\r.2.2.2.2.1<=4000/\1<=r.2.2.2.2.2.1/\r.2.2.2.2.2.1<=110000/\1<=Aa r.2.2.2.2.2.2.1/\Aa r.2.2.2.2.2.2.1<=1000/\Aa a<=100000/\Aa r.2.2.2.2.2.2.1=nF r.1 r.2.1 r.2.2.1 r.2.2.2.1 r.2.2.2.2.1/\Dv (Rg 5 100000) r.2.2.2.2.2.2.1)):=
 ti (λ_=>ts) λ_=>ti (λ_=>ts) λ_=>tb (Qc _) λ⟨_,_⟩ _=>ti (λ_=>ts) λ_=>tc λ_ _=>tb (Qb _) λ⟨_,_,_,_,_,_⟩ _=>ti (λ_=>ts) λ_=>ti (λ_=>ts) λ_=>ti (λ_=>ti (λ_=>ts) λ_=>tc λ_ _=>tb (AN _ _) λ⟨_,_⟩ _=>ti (λ_=>ts) λ_=>ti (λ_=>ts) λ_=>tj (VY _ _ _ _ _ _ _)) λ_=>tj (VY _ _ _ _ _ _ _)
theorem lX(f:LB)(hP:True):T (MT f) (λr=>0<=r.2.2.2.2.2.2.2.2.2.2.2/\r.2.2.2.2.2.2.2.2.2.2.2<=99/\ (r.2.2.2.2.2.2.2.2.2.2.2=0->Aa f<=100000/\1<=r.1/\r.1<=2/\1<=r.2.1/\r.2.1<=6/\8<=r.2.2.1/\r.2.2.1<=24/\r.2.2.1 %8=0/\1<=r.2.2.2.1/\r.2.2.2.1<=1048576/\1<=r.2.2.2.2.1/\r.2.2.2.2.1<=4000/\0<=r.2.2.2.2.2.1/\r.2.2.2.2.2.1+22=r.2.2.2.2.2.2.1/\r.2.2.2.2.2.2.1<=r.2.2.2.2.2.2.2.1/\r.2.2.2.2.2.2.1<=Aa f/\r.2.2.2.2.2.2.2.1<=r.2.2.2.2.2.2.1+8/\r.2.2.2.2.2.2.2.2.1=0/\r.2.2.2.2.2.2.2.2.2.1=0/\Aa r.2.2.2.2.2.2.2.2.2.2.1<=1000/\Dv (Rg 1 4000) r.2.2.2.2.2.2.2.2.2.2.1)):=
 ti (λ_=>ts) λ_=>tb (Qc _) λ⟨_,_⟩ _=>ti (λ_=>ts) λ_=>tc λ_ _=>tb (Qb _) λ⟨_,_,_,_,_,_⟩ _=>ti (λ_=>ts) λ_=>tb (Dd _ _ _ _ _) λ⟨_,_⟩ _=>ti (λ_=>ts) λ_=>ts
theorem Azt(f:UInt64):∀(q:Nat) (a:Int) (b:LX),0<=a/\a<=8/\8<a+q/\Aa b=16->T (XT f q a b) (λr=>Aa r=16):=
 ind (λa b hI=>by exfalso;(try simp only[Aa]at *);omega) λq ih a b hI=>ti (λ_=>tw (tg λ_=>te (λ_ _=>tj (ih _ _)))) λ_=>ts
theorem Ai2(f:UInt64)(hP:True):T (M1 f) (λr=>Aa r=16):=
 (by unfold M1 oG ug;exact tj (Azt _ As _ _))
theorem Sa(a:LB)(hP:True):T (Nz a) (λr=>0<=r.2/\r.2<=99/\Aa r.1=16):=
 ti (λ_=>ts) λ_=>tb (B9 _) λ⟨_,_⟩ _=>ti (λ_=>ts) λ_=>tb (Ai2 _) λ_ _=>ts
theorem PG(a:Int)(hP:True):T (FD a) (λr=>0<=r.2.2/\r.2.2<=99/\ (r.2.2=0->8<=a/\a<=24/\a %8=0)):=
 ti (λ_=>ti (λ_=>tw (ts)) λ_=>ts) λ_=>ti (λ_=>ti (λ_=>tw (ts)) λ_=>ts) λ_=>ti (λ_=>tw (ts)) λ_=>ts
theorem Px(a b:Int)(hP:True):T (Mq a b) (λr=>0<=r/\r<=99/\ (r=0->1<=a/\a<=6/\8<=b/\b<=24/\b %8=0)):=
 tb (PG _) λ⟨_,_,_⟩ _=>ti (λ_=>ts) λ_=>ts
theorem Axu(a:LB)(hP:True):T (KC a) (λr=>0<=r.2/\r.2<=99/\Aa r.1<=41250):=
 ti (λ_=>ts) λ_=>ti (λ_=>ts) λ_=>tc λ_ _=>tb (Yf _) λ⟨_,_⟩ _=>ti (λ_=>ts) λ_=>tc λ_ _=>tb (og _) λ⟨_,_⟩ _=>ti (λ_=>ts) λ_=>tc λ_ _=>ts
theorem Un(a:LB)(hP:Aa a<=17179869184):T (Bk a) (λr=>Aa r=Aa a):=
 ta (ts)
theorem Ai7(a:LB)(hP:True):T (X? a) (λr=>0<=r.2.2/\r.2.2<=99/\Aa r.1<=41250/\ (r.2.2=0->r.2.1=8*Aa a/\Aa r.1=Aa a)):=
 ti (λ_=>ts) λ_=>tb (Un _) λ_ _=>ts
theorem sO(hP:True):T (YV) (λ_=>True):=
 ts
theorem Js(b:LB)(a:Int)(hP:True):T (Jl b a) (λr=>0<=r/\r<=99/\ (r=0->0<=a/\a<=330000/\Aa b=(a+7)/8)):=
 ti (λ_=>ts) λ_=>ti (λ_=>tg λ_=>tw (ti (λ_=>ts) λ_=>ts)) λ_=>ts
theorem Azl(b f:Int)(h:LB)(k:Int):∀(q:Nat) (g:UInt64) (a:Int),0<=a/\a<=f/\f<a+q/\f<=17179869184/\0<=b/\0<=f/\b+f<=k/\k<=330000/\Aa h=(k+7)/8->T (NU b f h k q g a) (λ_=>True):=
 ind (λg a hI=>by exfalso;(try simp only[Aa]at *);omega) λq ih g a hI=>ti (λ_=>tg λ_=>tw (tw (tw (tj (ih _ _))))) λ_=>ts
theorem Z5(h:LB)(k b f:Int)(hP:0<=b/\0<=f/\b+f<=k/\k<=330000/\Aa h=(k+7)/8):T (gV h k b f) (λ_=>True):=
 (by unfold gV cU zT;exact tj (Azl _ _ _ _ As _ _))
theorem Ara{N27:Nat}{Uk:Int->Int->LB->Ea}(a:Int)(g:LB)(b f:Int)(m:UInt64)(hb:∀(f:Int) (o:Int) (p:LB),0<=y/\y<=a/\a<=b/\b<=330000/\Aa g=(b+7)/8/\0<=f/\f<=a+64/\a+64<f+N27/\0<=o/\o<=f/\Aa p=(o+7)/8->T (Uk f o p) (λr=>0<=r.2.2/\r.2.2<=99/\ (r.2.2=0->0<=y/\y<=a/\a<=b/\b<=330000))):∀(q:Nat) (n:UInt64) (k:Int) (h:Int) (u:LB),0<=y/\y<=a/\a<=b/\b<=330000/\Aa g=(b+7)/8/\0<=f/\f<a/\a+64<f+(N27+1)/\0<=k/\k<=64/\k<q/\0<=h/\h+k<=f+64/\Aa u=(h+7)/8->T (HJ Uk a g b f m q n k h u) (λr=>0<=r.2.2/\r.2.2<=99/\ (r.2.2=0->0<=y/\y<=a/\a<=b/\b<=330000)):=
 ind (λn k h u hI=>by exfalso;(try simp only[Aa]at *);omega) λq ih n k h u hI=>ti (λ_=>ti (λ_=>ta (tg λ_=>tw (tw (tg λ_=>tg λ_=>te (λ_ _=>tw (tj (ih _ _ _ _))))))) λ_=>tg λ_=>tw (tw (tg λ_=>tg λ_=>te (λ_ _=>tw (tj (ih _ _ _ _)))))) λ_=>tj (hb _ _ _)
theorem Ajj(a:Int)(g:LB)(b:Int):∀(q:Nat) (f:Int) (o:Int) (p:LB),0<=y/\y<=a/\a<=b/\b<=330000/\Aa g=(b+7)/8/\0<=f/\f<=a+64/\a+64<f+q/\0<=o/\o<=f/\Aa p=(o+7)/8->T (HF a g b q f o p) (λr=>0<=r.2.2/\r.2.2<=99/\ (r.2.2=0->0<=y/\y<=a/\a<=b/\b<=330000)):=
 ind (λf o p hI=>by exfalso;(try simp only[Aa]at *);omega) λq ih f o p hI=>ti (λ_=>tb (Z5 _ _ _ _) λ_ _=>tj (Ara _ _ _ _ _ ih As _ _ _ _)) λ_=>ts
theorem Aee(g:LB)(b y a:Int)(hP:True):T (sC g b y a) (λr=>0<=r.2.2/\r.2.2<=99/\ (r.2.2=0->0<=y/\y<=a/\a<=b/\b<=330000)):=
 tb (Js _ _) λ_ _=>ti (λ_=>ts) λ_=>ti (λ_=>ts) λ_=>tj (Ajj _ _ _ As _ _ _)
theorem rB(a b:Int)(f g:UInt64)(hP:True):T (YD a b f g) (λr=>0<=r/\r<=99/\ (r=0->0<=a/\a<=24/\0<=b/\b<=24)):=
 ti (λ_=>ts) λ_=>ts
theorem IL(g:LB)(b f a:Int)(hP:True):T (EY g b f a) (λr=>0<=r.2/\r.2<=99/\ (r.2=0->0<=f/\f+a<=b)):=
 tb (Js _ _) λ_ _=>ti (λ_=>ts) λ_=>ti (λ_=>ts) λ_=>ti (λ_=>ts) λ_=>tb (Z5 _ _ _ _) λ_ _=>ts
theorem Abs(a:UInt64)(hP:True):T (Lk a) (λr=>0<=r):=
 ti (λ_=>ts) λ_=>tz (Av1 _) λ_=>ts
theorem Af5 (g:LB)(b a:Int)(hP:True):T (nQ g b a) (λr=>0<=r.2.2/\r.2.2<=99/\ (r.2.2=0->0<=r.1/\r.1<=48/\0<=r.2.1/\r.2.1<=400000)):=
 tb (Js _ _) λ_ _=>ti (λ_=>ts) λ_=>ti (λ_=>ts) λ_=>ti (λ_=>ts) λ_=>tb (IL _ _ _ _) λ⟨_,_⟩ _=>ti (λ_=>ts) λ_=>tb (Abs _) λ_ _=>ti (λ_=>ts) λ_=>ti (λ_=>ts) λ_=>ts
theorem iT(b:UInt32)(a:Int)(hP:0<=a):T (HW b a) (λ_=>True):=
 tw (ts)
theorem cR(a b f:Int)(g:LB)(h k:Int)(hP:0<=a/\a<=24/\0<=k/\k<=32/\0<=b/\b<=400000):T (tN a b f g h k) (λr=>0<=r.2.2/\r.2.2<=99/\ (r.2.2=0->0<=r.2.1/\r.2.1<=450000)):=
 tb (IL _ _ _ _) λ⟨_,_⟩ _=>ti (λ_=>ts) λ_=>ti (λ_=>tw (ts)) λ_=>tb (iT _ _) λ_ _=>ti (λ_=>ts) λ_=>ts
theorem xw(g:LB)(h v a:Int)(hP:True):T (xN g h v a) (λr=>0<=r.2.2/\r.2.2<=99/\ (r.2.2=0->0<=r.2.1/\r.2.1<=450000)):=
 tb (Js _ _) λ_ _=>ti (λ_=>ts) λ_=>ti (λ_=>ts) λ_=>tb (Af5 _ _ _) λ⟨_,_,_⟩ _=>ti (λ_=>ts) λ_=>ti (λ_=>tj (cR _ _ _ _ _ _)) λ_=>tj (cR _ _ _ _ _ _)
theorem WZ(a f:Int)(g h:UInt64)(b:UInt32)(hP:0<=a):T (KF a f g h b) (λr=>0<=r.1/\r.1<=1):=
 tw (ti (λ_=>ts) λ_=>tw (ts))
theorem Iy(f:UInt32)(k a:Int)(b:UInt64)(m:Int)(n:UInt64)(hP:0<=a/\a<=24/\0<=m/\m<=24/\0<=k/\k<=500000):T (YJ f k a b m n) (λr=>0<=r.2.2.2.2.2.2/\r.2.2.2.2.2.2<=99/\ (r.2.2.2.2.2.2=0->0<=r.2.1/\r.2.1<=500000/\0<=r.2.2.1/\r.2.2.1<=24/\0<=r.2.2.2.1/\r.2.2.2.1<=24)):=
 ti (λ_=>tw (ti (λ_=>ts) λ_=>ti (λ_=>tw (ti (λ_=>ts) λ_=>ts)) λ_=>ts)) λ_=>ti (λ_=>tw (ti (λ_=>ts) λ_=>ts)) λ_=>ts
theorem eK(a h:Int)(b g:UInt64)(f:UInt32)(k:Int)(hP:0<=a/\a<=24/\0<=h/\h<=24/\0<=k/\k<=500000):T (rC a h b g f k) (λr=>0<=r.2.2.2.2.2.2/\r.2.2.2.2.2.2<=99/\ (r.2.2.2.2.2.2=0->0<=r.2.1/\r.2.1<=500000/\0<=r.2.2.1/\r.2.2.1<=24/\0<=r.2.2.2.1/\r.2.2.2.1<=24)):=
 tb (WZ _ _ _ _ _) λ⟨_,_⟩ _=>ti (λ_=>ti (λ_=>tw (ti (λ_=>tj (Iy _ _ _ _ _ _)) λ_=>ti (λ_=>tw (ti (λ_=>tj (Iy _ _ _ _ _ _)) λ_=>tj (Iy _ _ _ _ _ _))) λ_=>tj (Iy _ _ _ _ _ _))) λ_=>ti (λ_=>tw (ti (λ_=>tj (Iy _ _ _ _ _ _)) λ_=>tj (Iy _ _ _ _ _ _))) λ_=>tj (Iy _ _ _ _ _ _)) λ_=>tj (Iy _ _ _ _ _ _)
theorem yx(u:LB)(v p a h:Int)(b g:UInt64)(hP:True):T (IB u v p a h b g) (λr=>0<=r.2.2.2.2.2.2/\r.2.2.2.2.2.2<=99/\ (r.2.2.2.2.2.2=0->0<=r.2.1/\r.2.1<=500000/\0<=r.2.2.1/\r.2.2.1<=24/\0<=r.2.2.2.1/\r.2.2.2.1<=24)):=
 tb (Js _ _) λ_ _=>ti (λ_=>ts) λ_=>tb (rB _ _ _ _) λ_ _=>ti (λ_=>ts) λ_=>tb (IL _ _ _ _) λ⟨_,_⟩ _=>ti (λ_=>ts) λ_=>ti (λ_=>tb (IL _ _ _ _) λ⟨_,_⟩ _=>ti (λ_=>ts) λ_=>tj (eK _ _ _ _ _ _)) λ_=>tb (xw _ _ _ _) λ⟨_,_,_⟩ _=>ti (λ_=>ts) λ_=>tw (ti (λ_=>ts) λ_=>tj (eK _ _ _ _ _ _))
end Go.Pl
set_option maxRecDepth 4000
set_option maxHeartbeats 400000
namespace Go.Pl
open Go Go.Lv
theorem Alk(a f:Int)(g:LB)(b:Int):∀(q:Nat) (k:Int) (h:Int) (m:List (Int×Int×UInt64×UInt64×Unit)) (n:LU),0<=h/\h<= (Ch f a)/\ (Ch f a)<h+q/\ (Ch f a)<=17179869184/\1<=a/\a<=6/\0<=Ch f a/\Ch f a<=24000/\Aa m=6/\Aa n=h/\0<=k/\k<=900000->T (Oj a f g b q k h m n) (λr=>0<=r.2.2/\r.2.2<=99/\Aa r.1<=24000/\ (r.2.2=0->Aa r.1=Ch f a)):=
 ind (λk h m n hI=>by exfalso;(try simp only[Aa]at *);omega) λq ih k h m n hI=>ti (λ_=>tb (Aee _ _ _ _) λ⟨_,_,_⟩ _=>ti (λ_=>ts) λ_=>tw (tr λ_=>tr λ_=>tb (yx _ _ _ _ _ _ _) λ⟨_,_,_,_,_,_,_⟩ _=>ti (λ_=>ts) λ_=>tw (tr λ_=>tir (λ_ _=>ta (tj (ih _ _ _ _)))))) λ_=>ts
theorem Alp(a f:Int)(g:LB)(b:Int):∀(q:Nat) (u:Int) (p:List (Int×Int×UInt64×UInt64×Unit)),0<=u/\u<=6/\6<u+q/\1<=a/\a<=6/\0<=Ch f a/\Ch f a<=24000/\Aa p=6->T (Ox a f g b q u p) (λr=>0<=r.2.2/\r.2.2<=99/\Aa r.1<=24000/\ (r.2.2=0->Aa r.1=Ch f a)):=
 ind (λu p hI=>by exfalso;(try simp only[Aa]at *);omega) λq ih u p hI=>ti (λ_=>tb (sO) λ⟨_,_,_,_⟩ _=>tg λ_=>te (λ_ _=>tj (ih _ _))) λ_=>tj (Alk _ _ _ _ As _ _ _ _)
theorem Az2(a f:Int)(g:LB)(b:Int)(hP:1<=a/\a<=6/\0<=f/\f<=4000):T (AF a f g b) (λr=>0<=r.2.2/\r.2.2<=99/\Aa r.1<=24000/\ (r.2.2=0->Aa r.1=Ch f a)):=
 (by unfold AF AD ME;exact tf (zfa (f:=f) (a:=a)) λ_=>tj (Alp _ _ _ _ As _ _))
theorem um(a:Int)(b:LX)(hP:Aa b=16):T (sQ a b) (λr=>0<=r.2.2.2/\r.2.2.2<=99/\Aa r.2.1=16/\Aa r.2.2.1=16/\ (r.2.2.2=0->9<=r.1/\r.1<=10)):=
 ti (λ_=>ti (λ_=>ts) λ_=>ti (λ_=>ts) λ_=>ts) λ_=>ti (λ_=>ts) λ_=>ti (λ_=>ts) λ_=>ts
theorem zZ(a:Int)(f:LX)(hP:Aa f=16):T (jX a f) (λr=>0<=r.2.2.2.2.2/\r.2.2.2.2.2<=99/\Aa r.2.2.2.1=16/\Aa r.2.2.2.2.1=16):=
 tb (um _ _) λ⟨_,_,_,_⟩ _=>ti (λ_=>ts) λ_=>ts
theorem xg(a:UInt32)(hP:True):T (Ye a) (λ_=>True):=
 ts
theorem lN(a:Int)(k:Int32)(b:Int)(f m:LX)(hP:Aa f=16):T (Xt a k b f m) (λr=>0<=r/\r<=99):=
 tb (um _ _) λ⟨_,_,_,_⟩ _=>ti (λ_=>ts) λ_=>ts
theorem Ayb(a:Int)(hP:True):T (eT a) (λr=>0<=r.2/\r.2<=99/\0<=r.1/\r.1<=5):=
 ti (λ_=>ts) λ_=>ti (λ_=>ti (λ_=>ts) λ_=>ts) λ_=>ti (λ_=>ts) λ_=>ts
theorem Azq(a:Int)(b:Int32)(hP:0<=a):T (cN a b) (λ_=>True):=
 tw (tw (ts))
theorem mJ(b:Int)(f:Int32)(hP:True):T (Xv b f) (λr=>0<=r.2/\r.2<=99):=
 tb (Ayb _) λ⟨_,_⟩ _=>ti (λ_=>ts) λ_=>tb (Azq _ _) λ_ _=>ts
theorem YM(a:Int)(b f:LX)(hP:True):T (CZ a b f) (λr=>0<=r/\r<=99/\ (r=0->9<=a/\a<=10)):=
 ti (λ_=>ts) λ_=>ts
theorem Ab6(b:LX)(a:Int)(f:LX):∀(q:Nat) (h:Int32) (g:Int),0<=g/\g<=16/\16<g+q/\9<=a/\a<=10/\Aa b=16/\Aa f=16->T (EH b a f q h g) (λr=>0<=r.2/\r.2<=99):=
 ind (λh g hI=>by exfalso;(try simp only[Aa]at *);omega) λq ih h g hI=>ti (λ_=>tg λ_=>tg λ_=>tg λ_=>tj (ih _ _)) λ_=>tw (ts)
theorem tJ(a:Int)(b f:LX)(hP:Aa b=16/\Aa f=16):T (XP a b f) (λr=>0<=r.2/\r.2<=99):=
 tb (YM _ _ _) λ_ _=>ti (λ_=>ts) λ_=>tw (tj (Ab6 _ _ _ As _ _))
theorem B3(a:Int)(hP:True):T (jD a) (λ_=>True):=
 ti (λ_=>ts) λ_=>ti (λ_=>ts) λ_=>ts
theorem Ach(h:Int32)(f:LX)(g:Int):∀(q:Nat) (a:Int) (b:LX),0<=a/\a<=16/\16<a+q/\Aa b=16/\Aa f=16->T (DY h f g q a b) (λr=>0<=r.2.2.2/\r.2.2.2<=99/\Aa r.2.1=16/\Aa r.2.2.1=16):=
 ind (λa b hI=>by exfalso;(try simp only[Aa]at *);omega) λq ih a b hI=>ti (λ_=>tg λ_=>ti (λ_=>tj (ih _ _)) λ_=>ti (λ_=>tg λ_=>tg λ_=>tb (B3 _) λ_ _=>tg λ_=>te (λ_ _=>tj (ih _ _))) λ_=>tg λ_=>tg λ_=>tb (B3 _) λ_ _=>tg λ_=>te (λ_ _=>tj (ih _ _))) λ_=>ts
theorem Acw(g:Int)(k f:LX)(h:Int32)(hP:Aa k=16/\Aa f=16):T (pE g k f h) (λr=>0<=r.2.2.2/\r.2.2.2<=99/\Aa r.2.1=16/\Aa r.2.2.1=16):=
 tb (YM _ _ _) λ_ _=>ti (λ_=>ts) λ_=>ti (λ_=>ts) λ_=>tj (Ach _ _ _ As _ _)
theorem yE(b:Int)(f a:LX)(g:Int32)(hP:Aa f=16/\Aa a=16):T (yN b f a g) (λr=>0<=r.2.2.2/\r.2.2.2<=99/\Aa r.2.1=16/\Aa r.2.2.1=16):=
 tb (YM _ _ _) λ_ _=>ti (λ_=>ts) λ_=>tv (tv (tg λ_=>te (λ_ _=>ts)))
theorem qC(a:Int)(b f:LX)(g h:Int32)(hP:Aa b=16/\Aa f=16):T (WY a b f g h) (λr=>Aa r.2.1=16/\Aa r.2.2=16):=
 tb (Acw _ _ _ _) λ⟨_,_,_,_⟩ _=>tb (yE _ _ _ _) λ⟨_,_,_,_⟩ _=>ts
theorem Adk(b:Int)(f g:LX)(a:Int32)(hP:Aa f=16/\Aa g=16):T (tY b f g a) (λr=>0<=r.2.2.2.2/\r.2.2.2.2<=99/\Aa r.2.2.1=16/\Aa r.2.2.2.1=16):=
 tb (tJ _ _ _) λ⟨_,_⟩ _=>ti (λ_=>ts) λ_=>tb (qC _ _ _ _ _) λ⟨_,_,_⟩ _=>ts
theorem Ajz(a:Int)(b:Int32)(f:Int)(g h:LX)(o:Int32)(hP:Aa g=16/\Aa h=16):T (Lb a b f g h o) (λr=>0<=r.2.2.2.2.2.2/\r.2.2.2.2.2.2<=99/\Aa r.2.2.2.2.1=16/\Aa r.2.2.2.2.2.1=16):=
 tb (lN _ _ _ _ _) λ_ _=>ti (λ_=>ts) λ_=>tb (mJ _ _) λ⟨_,_⟩ _=>tb (Adk _ _ _ _) λ⟨_,_,_,_,_⟩ _=>ts
theorem C0(a:Int)(b:LX)(hP:True):T (jN a b) (λr=>0<=r/\r<=99/\ (r=0->1<=a/\a<=6/\Aa b<=4000/\Jb (Aa b) a=0)):=
 ti (λ_=>ts) λ_=>ti (λ_=>ts) λ_=>tw (ti (λ_=>ts) λ_=>ts)
theorem Sg(a:LX)(hP:Aa a<=17179869184):T (Ci a) (λr=>Aa r=Aa a):=
 ta (ts)
theorem hU{N12:Nat}{k:LX}{Od:Int->LX->Ew}(b a:Int)(hb:∀(a:Int) (f:LX),1<=b/\b<=6/\Aa f<=4000/\0<=a/\a<=Aa f/\Aa f<a+N12/\Aa f %b=0/\a %b=0/\Aa f=Aa k->T (Od a f) (λr=>0<=r.2/\r.2<=99/\Aa r.1<=4000/\ (r.2=0->Aa r.1=Aa k))):∀(q:Nat) (g:Int) (h:LX),1<=b/\b<=6/\Aa h<=4000/\0<=a/\a+b<=Aa h/\Aa h<a+(N12+1)/\Aa h %b=0/\a %b=0/\g+1<b/\ -3<=g/\g+4<q/\Aa h=Aa k->T (HV Od b a q g h) (λr=>0<=r.2/\r.2<=99/\Aa r.1<=4000/\ (r.2=0->Aa r.1=Aa k)):=
 ind (λg h hI=>by exfalso;(try simp only[Aa]at *);omega) λq ih g h hI=>by
  rcases(show b=1\/b=2\/b=3\/b=4\/b=5\/b=6 by omega)with rfl|rfl|rfl|rfl|rfl|rfl<;>exact ti (λ_=>tw (tw (tg λ_=>tg λ_=>tw (te (λ_ _=>tj (ih _ _)))))) λ_=>tj (hb _ _)
theorem Akx{k:LX}(b:Int):∀(q:Nat) (a:Int) (f:LX),1<=b/\b<=6/\Aa f<=4000/\0<=a/\a<=Aa f/\Aa f<a+q/\Aa f %b=0/\a %b=0/\Aa f=Aa k->T (HR b q a f) (λr=>0<=r.2/\r.2<=99/\Aa r.1<=4000/\ (r.2=0->Aa r.1=Aa k)):=
 ind (λa f hI=>by exfalso;(try simp only[Aa]at *);omega) λq ih a f hI=>by
  rcases(show b=1\/b=2\/b=3\/b=4\/b=5\/b=6 by omega)with rfl|rfl|rfl|rfl|rfl|rfl<;>exact ti (λ_=>tv (ti (λ_=>tw (tw (tg λ_=>tg λ_=>tw (te (λ_ _=>tj (hU _ _ ih As _ _)))))) λ_=>tj (hU _ _ ih As _ _))) λ_=>ts
theorem Aes(b:Int)(k:LX)(hP:True):T (W7 b k) (λr=>0<=r.2/\r.2<=99/\Aa r.1<=4000/\ (r.2=0->Aa r.1=Aa k)):=
 tb (C0 _ _) λ_ _=>ti (λ_=>ts) λ_=>tb (Sg _) λ_ _=>tj (Akx _ As _ _)
theorem Ayw{m:Int}(b f:Int32)(a:LX):∀(q:Nat) (g:Int),0<=g/\g<= (Aa a)/\ (Aa a)<g+q/\ (Aa a)<=17179869184/\Aa a<=4000/\8<=m/\m<=24/\m %8=0->T (Zh b f a q g) (λr=>0<=r/\r<=99/\ (r=0->Aa a<=4000/\8<=m/\m<=24/\m %8=0)):=
 ind (λg hI=>by exfalso;(try simp only[Aa]at *);omega) λq ih g hI=>ti (λ_=>tg λ_=>ti (λ_=>ts) λ_=>tj (ih _)) λ_=>ts
theorem Vi(m:Int)(a:LX)(hP:True):T (Rn m a) (λr=>0<=r/\r<=99/\ (r=0->Aa a<=4000/\8<=m/\m<=24/\m %8=0)):=
 tb (PG _) λ⟨_,_,_⟩ _=>ti (λ_=>ts) λ_=>ti (λ_=>ts) λ_=>tj (Ayw _ _ _ As _)
theorem Ala(f:LU)(a b:Int):∀(q:Nat) (g:Int) (h:List (Int×Int32×(Int×LX×LX×Unit)×Unit)) (k:LX),0<=g/\g<= (Aa f)/\ (Aa f)<g+q/\ (Aa f)<=17179869184/\1<=a/\a<=6/\Aa f<=24000/\Aa h=6/\Dv Ty h/\Aa k=g->T (Mx f a b q g h k) (λr=>0<=r.2/\r.2<=99/\Aa r.1<=4000/\ (r.2=0->Aa r.1=Aa f)):=
 ind (λg h k hI=>by exfalso;(try simp only[Aa]at *);omega) λq ih g h k hI=>ti (λ_=>tg λ_=>tw (tAr (p:=Ty) λ_ _=>tAr (p:=Ty) λ_ _=>tb (xg _) λ_ _=>tb (Ajz _ _ _ _ _ _) λ⟨_,_,_,_,_,_,_⟩ _=>ti (λ_=>ts) λ_=>tSr (p:=Ty) (λ_ _=>ta (tj (ih _ _ _))))) λ_=>tb (Aes _ _) λ⟨_,_⟩ _=>ti (λ_=>ts) λ_=>tb (Vi _ _) λ_ _=>ti (λ_=>ts) λ_=>ts
theorem Al9(f:LU)(a b:Int)(o:LX):∀(q:Nat) (p:Int) (n:List (Int×Int32×(Int×LX×LX×Unit)×Unit)),0<=p/\p<=6/\6<p+q/\1<=a/\a<=6/\Aa o=16/\Aa f<=24000/\Aa n=6/\Dv Ty n->T (Mz f a b o q p n) (λr=>0<=r.2/\r.2<=99/\Aa r.1<=4000/\ (r.2=0->Aa r.1=Aa f)):=
 ind (λp n hI=>by exfalso;(try simp only[Aa]at *);omega) λq ih p n hI=>ti (λ_=>tb (zZ _ _) λ⟨_,_,_,_,_,_⟩ _=>tA (p:=Ty) λ_ _=>tS (p:=Ty) (λ_ _=>tj (ih _ _))) λ_=>tj (Ala _ _ _ As _ _ _)
theorem Asx(a b:Int)(o:LX)(f:LU)(hP:1<=a/\a<=6/\Aa o=16/\Aa f<=24000):T (Vz a b o f) (λr=>0<=r.2/\r.2<=99/\Aa r.1<=4000/\ (r.2=0->Aa r.1=Aa f)):=
 (by unfold Vz Wv GU;exact tj (Al9 _ _ _ _ As _ _))
theorem Oc(a h:Int)(u:LX)(f:Int)(v:LB)(hP:Aa u=16):T (Kq a h u f v) (λr=>0<=r.2/\r.2<=99/\Aa r.1<=4000/\ (r.2=0->Aa r.1=Ch f a/\1<=f/\f<=4000)):=
 tf (zq4 a) λ_=>tb (Px _ _) λ_ _=>ti (λ_=>ts) λ_=>ti (λ_=>ts) λ_=>tw (ti (λ_=>ts) λ_=>tb (Axu _) λ⟨_,_⟩ _=>ti (λ_=>ts) λ_=>tb (Ai7 _) λ⟨_,_,_⟩ _=>ti (λ_=>ts) λ_=>tb (Az2 _ _ _ _) λ⟨_,_,_⟩ _=>ti (λ_=>ts) λ_=>ti (λ_=>ts) λ_=>tb (IL _ _ _ _) λ⟨_,_⟩ _=>ti (λ_=>ts) λ_=>tb (Asx _ _ _ _) λ⟨_,_⟩ _=>ts)
theorem Aa1(a:LB)(hP:Aa a<=100000/\32<=Aa a):T (yX a) (λr=>0<=r.2/\r.2<=99/\0<=r.1/\r.1<=Aa a):=
 tc λ_ _=>tb (fL _ _) λ⟨_,_,_⟩ _=>ti (λ_=>ti (λ_=>ts) λ_=>ts) λ_=>tc λ_ _=>tb (fL _ _) λ⟨_,_,_⟩ _=>ti (λ_=>ts) λ_=>ti (λ_=>ts) λ_=>tc λ_ _=>tb (uX _ _ _) λ_ _=>tb (Jz _ _) λ_ _=>ti (λ_=>ts) λ_=>ts
theorem Ae4(a:LB)(hP:Aa a<=100000):T (T8 a) (λr=>0<=r.2/\r.2<=99/\0<=r.1/\r.1<=Aa a):=
 ti (λ_=>ts) λ_=>tc λ_ _=>tb (Yw _ _) λ_ _=>ti (λ_=>ts) λ_=>tj (Aa1 _)
theorem Asi:∀(q:Nat) (a:Int) (b:LB),Aa b<=4000/\0<=a/\a+Aa b<=4000/\Aa b<q->T (Vu q a b) (λr=>0<=r.2/\r.2<=99):=
 ind (λa b hI=>by exfalso;(try simp only[Aa]at *);omega) λq ih a b hI=>ti (λ_=>tb (Ae4 _) λ⟨_,_⟩ _=>ti (λ_=>ts) λ_=>tc λ_ _=>tj (ih _ _)) λ_=>ts
theorem LC(h:LB)(hP:True):T (Te h) (λr=>0<=r.2/\r.2<=99):=
 ti (λ_=>ts) λ_=>tj (Asi As _ _)
theorem Ax4(a:LB)(w:LI)(m f g h o p n b ab ae:Int)(ac:LX)(k:LI):∀(q:Nat) (y:Int) (aa:Int) (ad:LX),0<=aa/\aa<= (Aa w)/\ (Aa w)<aa+q/\ (Aa w)<=17179869184/\Aa a<=100000/\Aa w=Aa k/\Aa k<=1000/\Dv (Rg 5 100000) w/\0<=y/\y<=Aa a/\Aa ac=16/\Aa ad<=4000*aa->T (Zr a w m f g h o p n b ab ae ac k q y aa ad) (λr=>0<=r.2.2.2.2/\r.2.2.2.2<=99/\Aa r.2.2.2.1<=4000000):=
 ind (λy aa ad hI=>by exfalso;(try simp only[Aa]at *);omega) λq ih y aa ad hI=>ti (λ_=>tA (p:=Rg 5 100000) λ_ _=>tA (p:=Rg 5 100000) λ_ _=>ti (λ_=>ts) λ_=>tg λ_=>tc λ_ _=>tg λ_=>tb (Oc _ _ _ _ _) λ⟨_,_⟩ _=>ti (λ_=>ts) λ_=>ta (tj (ih _ _ _))) λ_=>tc λ_ _=>tb (LC _) λ⟨_,_⟩ _=>ti (λ_=>ts) λ_=>ts
theorem CS(a u:LB)(m f g h o p n b:Int)(k:LI)(ao ab ae:Int)(w:LI)(hP:Aa a<=100000/\0<=ao/\ao<=99/\Aa k<=1000/\ (ao=0->Aa w=Aa k/\0<=ab/\ab<=Aa a)/\Dv (Rg 5 100000) w):T (Zs a u m f g h o p n b k ao ab ae w) (λr=>0<=r.2.2.2.2/\r.2.2.2.2<=99/\Aa r.2.2.2.1<=4000000):=
 ti (λ_=>ts) λ_=>tb (Sa _) λ⟨_,_⟩ _=>tj (Ax4 _ _ _ _ _ _ _ _ _ _ _ _ _ _ As _ _ _)
theorem Ay9(v:LI)(a u:LB)(m f g h o p n b:Int)(k:LI):∀(q:Nat) (ag:Int) (af:Int),0<=ag/\ag<= (Aa v)/\ (Aa v)<ag+q/\ (Aa v)<=17179869184/\Aa a<=100000/\0<=b/\b+4*Aa v+4<=Aa a/\Aa v=Aa k/\Aa k<=1000/\Dv (Rg 5 100000) v->T (Yz v a u m f g h o p n b k q ag af) (λr=>0<=r.2.2.2.2/\r.2.2.2.2<=99/\Aa r.2.2.2.1<=4000000):=
 ind (λag af hI=>by exfalso;(try simp only[Aa]at *);omega) λq ih ag af hI=>ti (λ_=>tg λ_=>tg λ_=>tj (ih _ _)) λ_=>(by unfold dZ IX;exact tj (CS _ _ _ _ _ _ _ _ _ _ _ _ _ _ _))
theorem Ni(a u:LB)(m f g h o p n b ah ai:Int)(k:LI)(am:Int)(hP:Aa a<=100000/\0<=b/\b<=100030/\Aa k<=1000/\0<=am/\am<=99):T (JC a u m f g h o p n b ah ai k am) (λr=>0<=r.2.2.2.2/\r.2.2.2.2<=99/\Aa r.2.2.2.1<=4000000):=
 ti (λ_=>ts) λ_=>ti (λ_=>tj (CS _ _ _ _ _ _ _ _ _ _ _ _ _ _ _)) λ_=>tc λ_ _=>tb (AZ _ _) λ⟨_,_⟩ _=>ti (λ_=>tj (CS _ _ _ _ _ _ _ _ _ _ _ _ _ _ _)) λ_=>tj (Ay9 _ _ _ _ _ _ _ _ _ _ _ _ As _ _)
theorem qM(a u:LB)(hP:True):T (XY a u) (λr=>0<=r.2.2.2.2/\r.2.2.2.2<=99/\Aa r.2.2.2.1<=4000000):=
 ti (λ_=>ts) λ_=>tb (lX _) λ⟨_,_,_,_,_,_,_,_,_,_,_,_⟩ _=>ti (λ_=>ts) λ_=>ti (λ_=>tj (Ni _ _ _ _ _ _ _ _ _ _ _ _ _ _)) λ_=>ti (λ_=>tj (Ni _ _ _ _ _ _ _ _ _ _ _ _ _ _)) λ_=>ti (λ_=>tj (Ni _ _ _ _ _ _ _ _ _ _ _ _ _ _)) λ_=>tc λ_ _=>tb (AN _ _) λ⟨_,_⟩ _=>ti (λ_=>tj (Ni _ _ _ _ _ _ _ _ _ _ _ _ _ _)) λ_=>tj (Ni _ _ _ _ _ _ _ _ _ _ _ _ _ _)
theorem lY(a b:LB)(hP:True):T (OM a b) (λr=>0<=r/\r<=99):=
 tb (qM _ _) λ⟨_,_,_,_,_⟩ _=>ts
end Go.Pl
set_option maxRecDepth 4000
set_option maxHeartbeats 400000
namespace Go.Pl
open Go Go.Lv
variable{zn:Int}{l:LI}
theorem Adq(a n:LB)(b:Int)(hP:True):T (YX a n b) (λ_=>True):=
 ti (λ_=>ts) λ_=>tb (Qc _) λ⟨_,_⟩ _=>ti (λ_=>ts) λ_=>tc λ_ _=>tb (Qb _) λ⟨_,_,_,_,_,_⟩ _=>ti (λ_=>ts) λ_=>ti (λ_=>ti (λ_=>ts) λ_=>ts) λ_=>ti (λ_=>ts) λ_=>ts
def Mon(l:LI):Prop:=∀(i:Nat) (x y:Int),l[i]? =some x->l[i+1]? =some y->0<=x/\x<=y/\y<=100000000
theorem Aqf{g h:Int}{n:Nat}(hn:l.length=n+1)(hm:Mon l)(hl:l[n]? =some g)(h0:0<=g)(hh:0<=h)(hb:g+h<=100000000):Mon (l++[g+h])/\ (l++[g+h])[n+1]? =some (g+h):=by
  refine⟨λi x y hx hy=>?_,by rw[H0 F3,hn,Nat.sub_self];rfl⟩;by_cases hi:i+1<l.length
  · rw[F? F3]at hx hy
    exact hm i x y hx hy
  · have hi2:i+1<(l++[g+h]).length:=by
      rcases I4 (i+1) (l++[g+h]).length with hlt|hge
      · exact hlt
      · rw[J5 hge]at hy;cases hy
    rw[C!,I2]at hi2;have:i=n:=F3
    subst this;rw[F? F3,hl]at hx;rw[H0 F3,hn,Nat.sub_self]at hy;obtain rfl:=G1 hx;obtain rfl:=G1 (show some (g+h)=some y from hy);exact⟨h0,F3,hb⟩
theorem qd{a x y:Int}(hm:Mon l)(h0:0<=a/\a<=1000000)(hx:Ae l a=some x)(hy:Ae l (Af a 1)=some y):0<=x/\x<=y/\y<=100000000:=by
  rw[Ie]at hy;unfold Ae at hx hy;rw[BA h0.1]at hx;rw[BA F3,show(a+1).toNat=a.toNat+1 by omega]at hy;exact hm _ _ _ hx hy
theorem Aqw(a:LI)(hA:Dv (Rg 5 100000) a)(hl:Aa a<=1000):∀(q:Nat) (b g:Int) (f:LI),0<=b/\b<=Aa a/\Aa a<b+q/\Aa f=b+1/\Mon f/\f[b.toNat]? =some g/\0<=g/\g<=100000*b->T (Tt a q b g f) (λr=>0<=r.2/\r.2<=99/\ (r.2=0->Aa r.1=Aa a+1/\Mon r.1)):=
 ind (λb g f hI=>by exfalso;omega) λq ih b g f hI=>ti (λh1=>tA (λh hh=>ta (by
  have hh:5<=h/\h<=100000:=hh;have h2:b<Aa a:=by simp only[Ph,zi,E_]at h1;exact h1
  have hn:f.length=b.toNat+1:=by have:=hI.2.2.2.1;unfold Aa at this;omega
  have k:=Aqf (h:=h) hn hI.2.2.2.2.1 hI.2.2.2.2.2.1 F3 F3 F3;rw[Ie (show -9223372036854775808<=g+h by omega)];unfold DB TS;rw[Ie (show -9223372036854775808<=b+1 by omega),Ie (show -9223372036854775808<=g+h by omega)];refine ih _ _ _ ⟨F3,F3,F3,?_,k.1,?_,F3,F3⟩
  · unfold Aa;rw[C!,I2,hn];omega
  · rw[show(b+1).toNat=b.toNat+1 by omega];exact k.2)) hA) λh1=>⟨_,rfl,H3 _,(show(0:Int)<=99 by decide),λ_=>by
  have h2:¬b<Aa a:=by simp only[Ph,zi,G7]at h1;exact h1
  exact⟨by show Aa f=_;omega,hI.2.2.2.2.1⟩⟩
theorem aK(a:LI)(hP:True):T (EM a) (λr=>0<=r.2/\r.2<=99/\ (r.2=0->Aa r.1=Aa a+1/\Mon r.1)):=
 tb (Vg _) λm hm=>ti (λh=>⟨_,rfl,hm.1,hm.2.1,λh0=>by rw[show m=0 from h0]at h;exact absurd h F4⟩) λh=>by
  have h0:m=0:=by simp only[Ul,zi,G7,CB,Decidable.not_not]at h;exact h
  have k:=hm.2.2 h0;refine Aqw a k.2 k.1 As 0 0 [0] ⟨H3 _,by unfold Aa;omega,by have:=Dc;omega,rfl,λi x y hx hy=>?_,rfl,H3 _,F4⟩;cases hy
theorem OS{N16:Nat}{Fl:Int->LB->Cw}(b:Int)(a:LX)(k:Int32)(f:Int)(hb:∀(f:Int) (g:LB),0<=f/\f<= (Aa a)/\ (Aa a)<f+N16/\ (Aa a)<=17179869184/\Aa a<=4000/\ (b=8/\Aa g=f\/b=16/\Aa g=2*f\/b=24/\Aa g=3*f)->T (Fl f g) (λr=>0<=r.2/\r.2<=99/\Aa r.1<=12000/\ (r.2=0-> (b=8/\Aa r.1=Aa a\/b=16/\Aa r.1=2*Aa a\/b=24/\Aa r.1=3*Aa a)))):∀(q:Nat) (m:Int) (h:LB),0<=m/\3<m+q/\Aa a<=4000/\ (b=8/\Aa h=f+m/\m<=1\/b=16/\Aa h=2*f+m/\m<=2\/b=24/\Aa h=3*f+m/\m<=3)/\0<=f/\f<Aa a/\Aa a<f+(N16+1)->T (Wf Fl b a k f q m h) (λr=>0<=r.2/\r.2<=99/\Aa r.1<=12000/\ (r.2=0-> (b=8/\Aa r.1=Aa a\/b=16/\Aa r.1=2*Aa a\/b=24/\Aa r.1=3*Aa a))):=
 ind (λm h hI=>by exfalso;(try simp only[Aa]at *);omega) λq ih m h hI=>ti (λ_=>tw (ta (tj (ih _ _)))) λ_=>tj (hb _ _)
theorem Auc(b:Int)(a:LX):∀(q:Nat) (f:Int) (g:LB),0<=f/\f<= (Aa a)/\ (Aa a)<f+q/\ (Aa a)<=17179869184/\Aa a<=4000/\ (b=8/\Aa g=f\/b=16/\Aa g=2*f\/b=24/\Aa g=3*f)->T (Wg b a q f g) (λr=>0<=r.2/\r.2<=99/\Aa r.1<=12000/\ (r.2=0-> (b=8/\Aa r.1=Aa a\/b=16/\Aa r.1=2*Aa a\/b=24/\Aa r.1=3*Aa a))):=
 ind (λf g hI=>by exfalso;(try simp only[Aa]at *);omega) λq ih f g hI=>ti (λ_=>tg λ_=>ti (λ_=>tj (OS _ _ _ _ ih As _ _)) λ_=>tj (OS _ _ _ _ ih As _ _)) λ_=>ts
theorem Qf(b:Int)(a:LX)(hP:True):T (Ki b a) (λr=>0<=r.2/\r.2<=99/\Aa r.1<=12000/\ (r.2=0-> (b=8/\Aa r.1=Aa a\/b=16/\Aa r.1=2*Aa a\/b=24/\Aa r.1=3*Aa a))):=
 tb (Vi _ _) λ_ _=>ti (λ_=>ts) λ_=>tj (Auc _ _ As _ _)
theorem Aun(w a m g:Int)(aa:LX)(n o p h:Int)(k:LB)(u:LX)(v b f:LI)(hP:0<=w/\w<=99):T (ZS w a m g aa n o p h k u v b f) (λr=>0<=r.2/\r.2<=99/\Aa r.1<=12000):=
 ti (λ_=>ts) λ_=>tb (Qf _ _) λ⟨_,_⟩ _=>ts
theorem Avm(a:Int)(f:LI)(n m g o p h:Int)(k:LB)(u:LX)(v b:LI)(hP:Aa k<=100000/\0<=h/\h<=110000/\Aa u=16/\Aa b=Aa f+1/\Aa f<=1000)(hM:Mon b):T (ZP a f n m g o p h k u v b) (λr=>0<=r.2/\r.2<=99/\Aa r.1<=12000):=
 ti (λ_=>ts) λ_=>tg λ_=>tg λ_=>tE λ_ e3=>tE λ_ e4=>tf (λh0=>qd hM h0 e3 e4) λ_=>ti (λ_=>ts) λ_=>tg λ_=>tc λ_ _=>tg λ_=>tb (Oc _ _ _ _ _) λ⟨_,_⟩ _=>tj (Aun _ _ _ _ _ _ _ _ _ _ _ _ _ _)
theorem Qz(a ac:Int)(hP:0<=ac/\ac<=99):T (aY a ac) (λr=>0<=r.2/\r.2<=99/\Aa r.1<=12000):=ti (λ_=>ts) λ_=>ti (λ_=>ts) λ_=>tn
theorem Zj(k ad:LB)(a:Int)(hP:True):T (Pa k ad a) (λr=>0<=r.2/\r.2<=99/\Aa r.1<=12000):=
 tb (Is _ _) λ⟨n,m,g,o,p,h,v,ae⟩ h1=>ti (λ_=>tj (Qz _ _)) λ_=>tb (Dd _ _ _ _ _) λ⟨f,af⟩ h2=>ti (λ_=>tj (Qz _ _)) λ_=>tb (aK _) λ⟨b,ag⟩ h3=>ti (λ_=>tj (Qz _ _)) λh4=>tb (Sa _) λ⟨u,ah⟩ _=>ti (λ_=>tj (Qz _ _)) λ_=>tg λ_=>tg λ_=>tj (λhP=>Avm _ _ _ _ _ _ _ _ _ _ _ _ hP (h3.2.2 (by simp only[Ul,zi,G7,CB,Decidable.not_not]at h4;exact h4)).2)
theorem Aw3(m f a b g h:Int)(k:LI):∀(q:Nat) (n:Int) (o:Int),0<=o/\o<=m/\m<o+q/\m<=17179869184/\m<=Aa k/\Aa k<=1000->T (AK m f a b g h k q n o) (λr=>0<=r.2/\r.2<=99/\ -9223372036854775808<=r.1/\r.1<=9223372036854775807):=
 ind (λn o hI=>by exfalso;(try simp only[Aa]at *);omega) λq ih n o hI=>ti (λ_=>tg λ_=>tg λ_=>tj (ih _ _)) λ_=>ts
theorem mF(f a b g h m:Int)(hP:0<=m):T (OO f a b g h m) (λr=>0<=r.2/\r.2<=99/\ -9223372036854775808<=r.1/\r.1<=9223372036854775807):=
 tb (Dd _ _ _ _ _) λ⟨_,_⟩ _=>ti (λ_=>ts) λ_=>tj (Aw3 _ _ _ _ _ _ _ As _ _)
theorem DQ(b f g h k m o:Int)(a:LI)(y:Int)(aa:UInt8)(ab:Int)(hP:0<=y/\y<=1000/\0<=ab/\ab<=1000/\0<=b/\b<=99):T (KJ b f g h k m o a y aa ab) (λr=>0<=r.2.2.2.2/\r.2.2.2.2<=99/\0<=r.1/\r.1<=99/\0<=r.2.2.1/\r.2.2.1<=1000/\ -9223372036854775808<=r.2.2.2.1/\r.2.2.2.1<=9223372036854775807):=
 tb (mF _ _ _ _ _ _) λ⟨_,_⟩ _=>ts
theorem TO(p n:LB)(a:LI)(b:Int)(u:UInt8)(f g h k m o:Int):∀(q:Nat) (v:Int),0<=v/\v<= (Aa a)/\ (Aa a)<v+q/\ (Aa a)<=17179869184/\Aa a<=1000/\0<=b/\b<=99->T (BT p n a b u f g h k m o q v) (λr=>0<=r.2.2.2.2/\r.2.2.2.2<=99/\0<=r.1/\r.1<=99/\0<=r.2.2.1/\r.2.2.1<=1000/\ -9223372036854775808<=r.2.2.2.1/\r.2.2.2.1<=9223372036854775807):=
 ind (λv hI=>by exfalso;(try simp only[Aa]at *);omega) λq ih v hI=>ti (λ_=>ti (λ_=>tj (DQ _ _ _ _ _ _ _ _ _ _ _)) λ_=>tb (Zj _ _ _) λ⟨_,_⟩ _=>ti (λ_=>tj (DQ _ _ _ _ _ _ _ _ _ _ _)) λ_=>tj (ih _)) λ_=>tj (DQ _ _ _ _ _ _ _ _ _ _ _)
theorem mM(p n:LB)(hP:True):T (EP p n) (λr=>0<=r.2.2.2.2/\r.2.2.2.2<=99/\0<=r.1/\r.1<=99/\0<=r.2.2.1/\r.2.2.1<=1000/\ -9223372036854775808<=r.2.2.2.1/\r.2.2.2.1<=9223372036854775807):=
 ti (λ_=>ts) λ_=>tb (lY _ _) λ_ _=>tb (Is _ _) λ⟨_,_,_,_,_,_,_,_⟩ _=>ti (λ_=>tb (Adq _ _ _) λ_ _=>ts) λ_=>ti (λ_=>(by unfold KH AJ;exact tj (TO _ _ _ _ _ _ _ _ _ _ _ As _))) λ_=>(by unfold KH AJ;exact tj (TO _ _ _ _ _ _ _ _ _ _ _ As _))
theorem Aex(a b:LB)(hP:True):T (rK a b) (λr=>0<=r.2.2.2.2.2.2.2.2.2.2.2/\r.2.2.2.2.2.2.2.2.2.2.2<=99/\ -9223372036854775808<=r.1/\r.1<=9223372036854775807/\ -9223372036854775808<=r.2.1/\r.2.1<=9223372036854775807/\ -9223372036854775808<=r.2.2.1/\r.2.2.1<=9223372036854775807/\ -9223372036854775808<=r.2.2.2.1/\r.2.2.2.1<=9223372036854775807/\ -9223372036854775808<=r.2.2.2.2.1/\r.2.2.2.2.1<=9223372036854775807/\ -9223372036854775808<=r.2.2.2.2.2.1/\r.2.2.2.2.2.1<=9223372036854775807/\ -9223372036854775808<=r.2.2.2.2.2.2.2.1/\r.2.2.2.2.2.2.2.1<=9223372036854775807/\ -9223372036854775808<=r.2.2.2.2.2.2.2.2.2.1/\r.2.2.2.2.2.2.2.2.2.1<=9223372036854775807/\ -9223372036854775808<=r.2.2.2.2.2.2.2.2.2.2.1/\r.2.2.2.2.2.2.2.2.2.2.1<=9223372036854775807/\Aa r.2.2.2.2.2.2.1<=1000/\Dv (Rg 5 100000) r.2.2.2.2.2.2.1):=
 tb (Is _ _) λ⟨_,_,_,_,_,_,_,_⟩ _=>ti (λ_=>ts) λ_=>tb (mM _ _) λ⟨_,_,_,_,_⟩ _=>ti (λ_=>ts) λ_=>ts
theorem Ado(n o p u v k:Int)(m:LI)(a:Int)(h:UInt8)(b g:Int)(hP:True):T (PA n o p u v k m a h b g) (λr=>0<=r/\r<=99):=
 tb (Dd _ _ _ _ _) λ⟨_,_⟩ _=>ti (λ_=>ti (λ_=>ts) λ_=>ti (λ_=>ti (λ_=>ts) λ_=>ti (λ_=>ti (λ_=>ts) λ_=>ts) λ_=>ti (λ_=>ti (λ_=>ts) λ_=>ts) λ_=>ti (λ_=>ti (λ_=>ts) λ_=>ts) λ_=>ti (λ_=>ti (λ_=>ts) λ_=>ts) λ_=>ti (λ_=>ti (λ_=>ts) λ_=>ts) λ_=>ti (λ_=>ti (λ_=>ts) λ_=>ts) λ_=>ti (λ_=>ts) λ_=>ts) λ_=>ti (λ_=>ts) λ_=>ti (λ_=>ti (λ_=>ts) λ_=>ts) λ_=>ti (λ_=>ti (λ_=>ts) λ_=>ts) λ_=>ti (λ_=>ti (λ_=>ts) λ_=>ts) λ_=>ti (λ_=>ti (λ_=>ts) λ_=>ts) λ_=>ti (λ_=>ti (λ_=>ts) λ_=>ts) λ_=>ti (λ_=>ti (λ_=>ts) λ_=>ts) λ_=>ti (λ_=>ts) λ_=>ts) λ_=>tb (Vg _) λ_ _=>ti (λ_=>ti (λ_=>ts) λ_=>ti (λ_=>ti (λ_=>ts) λ_=>ti (λ_=>ti (λ_=>ts) λ_=>ts) λ_=>ti (λ_=>ti (λ_=>ts) λ_=>ts) λ_=>ti (λ_=>ti (λ_=>ts) λ_=>ts) λ_=>ti (λ_=>ti (λ_=>ts) λ_=>ts) λ_=>ti (λ_=>ti (λ_=>ts) λ_=>ts) λ_=>ti (λ_=>ti (λ_=>ts) λ_=>ts) λ_=>ti (λ_=>ts) λ_=>ts) λ_=>ti (λ_=>ts) λ_=>ti (λ_=>ti (λ_=>ts) λ_=>ts) λ_=>ti (λ_=>ti (λ_=>ts) λ_=>ts) λ_=>ti (λ_=>ti (λ_=>ts) λ_=>ts) λ_=>ti (λ_=>ti (λ_=>ts) λ_=>ts) λ_=>ti (λ_=>ti (λ_=>ts) λ_=>ts) λ_=>ti (λ_=>ti (λ_=>ts) λ_=>ts) λ_=>ti (λ_=>ts) λ_=>ts) λ_=>ti (λ_=>ts) λ_=>ti (λ_=>ti (λ_=>ts) λ_=>ti (λ_=>ti (λ_=>ts) λ_=>ts) λ_=>ti (λ_=>ti (λ_=>ts) λ_=>ts) λ_=>ti (λ_=>ti (λ_=>ts) λ_=>ts) λ_=>ti (λ_=>ti (λ_=>ts) λ_=>ts) λ_=>ti (λ_=>ti (λ_=>ts) λ_=>ts) λ_=>ti (λ_=>ti (λ_=>ts) λ_=>ts) λ_=>ti (λ_=>ts) λ_=>ts) λ_=>ti (λ_=>ts) λ_=>ti (λ_=>ti (λ_=>ts) λ_=>ts) λ_=>ti (λ_=>ti (λ_=>ts) λ_=>ts) λ_=>ti (λ_=>ti (λ_=>ts) λ_=>ts) λ_=>ti (λ_=>ti (λ_=>ts) λ_=>ts) λ_=>ti (λ_=>ti (λ_=>ts) λ_=>ts) λ_=>ti (λ_=>ti (λ_=>ts) λ_=>ts) λ_=>ti (λ_=>ts) λ_=>ts
theorem Axw(a:Int)(b:UInt8)(f g:Int):∀(q:Nat) (w:Int) (v:LB),0<=w/\w<= (Aa ([a,(Am b:Int),f,g]:LI))/\ (Aa ([a,(Am b:Int),f,g]:LI))<w+q/\ (Aa ([a,(Am b:Int),f,g]:LI))<=17179869184/\ -9223372036854775808<=a/\a<=9223372036854775807/\ -9223372036854775808<=f/\f<=9223372036854775807/\ -9223372036854775808<=g/\g<=9223372036854775807/\ (b.toNat:Int)<=255/\Aa v<=120000+100*w->T (BO a b f g q w v) (λr=>0<=r.2/\r.2<=99/\Aa r.1<=130000):=
 ind (λw v hI=>by exfalso;(try simp only[Aa]at *);omega) λq ih w v hI=>ti (λ_=>th λ_ _=>th λ_ _=>tb (Bv _) λ_ _=>ta (ta (tj (ih _ _)))) λ_=>(by unfold MJ eQ;exact ta (tw (ts)))
theorem Ayk(h:LI)(a:Int)(b:UInt8)(f g:Int):∀(q:Nat) (ak:Int) (y:LB),0<=ak/\ak<= (Aa h)/\ (Aa h)<ak+q/\ (Aa h)<=17179869184/\ -9223372036854775808<=a/\a<=9223372036854775807/\ -9223372036854775808<=f/\f<=9223372036854775807/\ -9223372036854775808<=g/\g<=9223372036854775807/\ (b.toNat:Int)<=255/\Aa h<=1000/\Dv (Rg 5 100000) h/\Aa y<=8000+100*ak->T (Zo h a b f g q ak y) (λr=>0<=r.2/\r.2<=99/\Aa r.1<=130000):=
 ind (λak y hI=>by exfalso;(try simp only[Aa]at *);omega) λq ih ak y hI=>ti (λ_=>tA (p:=Rg 5 100000) λ_ _=>tb (Bv _) λ_ _=>ta (ta (tj (ih _ _)))) λ_=>(by unfold iN KM;exact ta (tj (Axw _ _ _ _ As _ _)))
theorem Ay4(u k m n o p:Int)(h:LI)(a:Int)(b:UInt8)(f g:Int):∀(q:Nat) (ab:Int) (aa:LB),0<=ab/\ab<= (Aa ([u]:LI))/\ (Aa ([u]:LI))<ab+q/\ (Aa ([u]:LI))<=17179869184/\ -9223372036854775808<=k/\k<=9223372036854775807/\ -9223372036854775808<=m/\m<=9223372036854775807/\ -9223372036854775808<=n/\n<=9223372036854775807/\ -9223372036854775808<=o/\o<=9223372036854775807/\ -9223372036854775808<=p/\p<=9223372036854775807/\ -9223372036854775808<=u/\u<=9223372036854775807/\ -9223372036854775808<=a/\a<=9223372036854775807/\ -9223372036854775808<=f/\f<=9223372036854775807/\ -9223372036854775808<=g/\g<=9223372036854775807/\Aa h<=1000/\Dv (Rg 5 100000) h/\ (b.toNat:Int)<=255/\Aa aa<=6000+100*ab->T (Zi u k m n o p h a b f g q ab aa) (λr=>0<=r.2/\r.2<=99/\Aa r.1<=130000):=
 ind (λab aa hI=>by exfalso;(try simp only[Aa]at *);omega) λq ih ab aa hI=>ti (λ_=>th λ_ _=>th λ_ _=>tb (Bv _) λ_ _=>ta (ta (tj (ih _ _)))) λ_=>(by unfold fA KA;exact ta (tj (Ayk _ _ _ _ _ As _ _)))
theorem Az8(p k m n o u:Int)(h:LI)(a:Int)(b:UInt8)(f g:Int):∀(q:Nat) (ad:Int) (ac:LB),0<=ad/\ad<= (Aa ([p]:LI))/\ (Aa ([p]:LI))<ad+q/\ (Aa ([p]:LI))<=17179869184/\ -9223372036854775808<=k/\k<=9223372036854775807/\ -9223372036854775808<=m/\m<=9223372036854775807/\ -9223372036854775808<=n/\n<=9223372036854775807/\ -9223372036854775808<=o/\o<=9223372036854775807/\ -9223372036854775808<=p/\p<=9223372036854775807/\ -9223372036854775808<=u/\u<=9223372036854775807/\ -9223372036854775808<=a/\a<=9223372036854775807/\ -9223372036854775808<=f/\f<=9223372036854775807/\ -9223372036854775808<=g/\g<=9223372036854775807/\Aa h<=1000/\Dv (Rg 5 100000) h/\ (b.toNat:Int)<=255/\Aa ac<=5000+100*ad->T (BE p k m n o u h a b f g q ad ac) (λr=>0<=r.2/\r.2<=99/\Aa r.1<=130000):=
 ind (λad ac hI=>by exfalso;(try simp only[Aa]at *);omega) λq ih ad ac hI=>ti (λ_=>th λ_ _=>th λ_ _=>tb (Bv _) λ_ _=>ta (ta (tj (ih _ _)))) λ_=>(by unfold fZ KO;exact ta (tj (Ay4 _ _ _ _ _ _ _ _ _ _ _ As _ _)))
theorem Ay5(o k m n p u:Int)(h:LI)(a:Int)(b:UInt8)(f g:Int):∀(q:Nat) (af:Int) (ae:LB),0<=af/\af<= (Aa ([o]:LI))/\ (Aa ([o]:LI))<af+q/\ (Aa ([o]:LI))<=17179869184/\ -9223372036854775808<=k/\k<=9223372036854775807/\ -9223372036854775808<=m/\m<=9223372036854775807/\ -9223372036854775808<=n/\n<=9223372036854775807/\ -9223372036854775808<=o/\o<=9223372036854775807/\ -9223372036854775808<=p/\p<=9223372036854775807/\ -9223372036854775808<=u/\u<=9223372036854775807/\ -9223372036854775808<=a/\a<=9223372036854775807/\ -9223372036854775808<=f/\f<=9223372036854775807/\ -9223372036854775808<=g/\g<=9223372036854775807/\Aa h<=1000/\Dv (Rg 5 100000) h/\ (b.toNat:Int)<=255/\Aa ae<=4000+100*af->T (BB o k m n p u h a b f g q af ae) (λr=>0<=r.2/\r.2<=99/\Aa r.1<=130000):=
 ind (λaf ae hI=>by exfalso;(try simp only[Aa]at *);omega) λq ih af ae hI=>ti (λ_=>th λ_ _=>th λ_ _=>tb (Bv _) λ_ _=>ta (ta (tj (ih _ _)))) λ_=>(by unfold hH KP;exact ta (tj (Az8 _ _ _ _ _ _ _ _ _ _ _ As _ _)))
theorem Ayj(n k m o p u:Int)(h:LI)(a:Int)(b:UInt8)(f g:Int):∀(q:Nat) (ah:Int) (ag:LB),0<=ah/\ah<= (Aa ([n]:LI))/\ (Aa ([n]:LI))<ah+q/\ (Aa ([n]:LI))<=17179869184/\ -9223372036854775808<=k/\k<=9223372036854775807/\ -9223372036854775808<=m/\m<=9223372036854775807/\ -9223372036854775808<=n/\n<=9223372036854775807/\ -9223372036854775808<=o/\o<=9223372036854775807/\ -9223372036854775808<=p/\p<=9223372036854775807/\ -9223372036854775808<=u/\u<=9223372036854775807/\ -9223372036854775808<=a/\a<=9223372036854775807/\ -9223372036854775808<=f/\f<=9223372036854775807/\ -9223372036854775808<=g/\g<=9223372036854775807/\Aa h<=1000/\Dv (Rg 5 100000) h/\ (b.toNat:Int)<=255/\Aa ag<=3000+100*ah->T (Yu n k m o p u h a b f g q ah ag) (λr=>0<=r.2/\r.2<=99/\Aa r.1<=130000):=
 ind (λah ag hI=>by exfalso;(try simp only[Aa]at *);omega) λq ih ah ag hI=>ti (λ_=>th λ_ _=>th λ_ _=>tb (Bv _) λ_ _=>ta (ta (tj (ih _ _)))) λ_=>(by unfold eW JY;exact ta (tj (Ay5 _ _ _ _ _ _ _ _ _ _ _ As _ _)))
theorem Ay2(m k n o p u:Int)(h:LI)(a:Int)(b:UInt8)(f g:Int):∀(q:Nat) (aj:Int) (ai:LB),0<=aj/\aj<= (Aa ([m]:LI))/\ (Aa ([m]:LI))<aj+q/\ (Aa ([m]:LI))<=17179869184/\ -9223372036854775808<=k/\k<=9223372036854775807/\ -9223372036854775808<=m/\m<=9223372036854775807/\ -9223372036854775808<=n/\n<=9223372036854775807/\ -9223372036854775808<=o/\o<=9223372036854775807/\ -9223372036854775808<=p/\p<=9223372036854775807/\ -9223372036854775808<=u/\u<=9223372036854775807/\ -9223372036854775808<=a/\a<=9223372036854775807/\ -9223372036854775808<=f/\f<=9223372036854775807/\ -9223372036854775808<=g/\g<=9223372036854775807/\Aa h<=1000/\Dv (Rg 5 100000) h/\ (b.toNat:Int)<=255/\Aa ai<=2000+100*aj->T (Zg m k n o p u h a b f g q aj ai) (λr=>0<=r.2/\r.2<=99/\Aa r.1<=130000):=
 ind (λaj ai hI=>by exfalso;(try simp only[Aa]at *);omega) λq ih aj ai hI=>ti (λ_=>th λ_ _=>th λ_ _=>tb (Bv _) λ_ _=>ta (ta (tj (ih _ _)))) λ_=>(by unfold gE LR;exact ta (tj (Ayj _ _ _ _ _ _ _ _ _ _ _ As _ _)))
theorem Axz(k m n o p u:Int)(h:LI)(a:Int)(b:UInt8)(f g:Int):∀(q:Nat) (am:Int) (al:LB),0<=am/\am<= (Aa ([k]:LI))/\ (Aa ([k]:LI))<am+q/\ (Aa ([k]:LI))<=17179869184/\ -9223372036854775808<=k/\k<=9223372036854775807/\ -9223372036854775808<=m/\m<=9223372036854775807/\ -9223372036854775808<=n/\n<=9223372036854775807/\ -9223372036854775808<=o/\o<=9223372036854775807/\ -9223372036854775808<=p/\p<=9223372036854775807/\ -9223372036854775808<=u/\u<=9223372036854775807/\ -9223372036854775808<=a/\a<=9223372036854775807/\ -9223372036854775808<=f/\f<=9223372036854775807/\ -9223372036854775808<=g/\g<=9223372036854775807/\Aa h<=1000/\Dv (Rg 5 100000) h/\ (b.toNat:Int)<=255/\Aa al<=1000+100*am->T (AX k m n o p u h a b f g q am al) (λr=>0<=r.2/\r.2<=99/\Aa r.1<=130000):=
 ind (λam al hI=>by exfalso;(try simp only[Aa]at *);omega) λq ih am al hI=>ti (λ_=>th λ_ _=>th λ_ _=>tb (Bv _) λ_ _=>ta (ta (tj (ih _ _)))) λ_=>(by unfold eI KU;exact ta (tj (Ay2 _ _ _ _ _ _ _ _ _ _ _ As _ _)))
theorem At2 (k m n o p u:Int)(h:LI)(a:Int)(b:UInt8)(f g:Int)(hP: -9223372036854775808<=k/\k<=9223372036854775807/\ -9223372036854775808<=m/\m<=9223372036854775807/\ -9223372036854775808<=n/\n<=9223372036854775807/\ -9223372036854775808<=o/\o<=9223372036854775807/\ -9223372036854775808<=p/\p<=9223372036854775807/\ -9223372036854775808<=u/\u<=9223372036854775807/\ -9223372036854775808<=a/\a<=9223372036854775807/\ -9223372036854775808<=f/\f<=9223372036854775807/\ -9223372036854775808<=g/\g<=9223372036854775807/\Aa h<=1000/\Dv (Rg 5 100000) h):T (oX k m n o p u h a b f g) (λr=>0<=r.2/\r.2<=99/\Aa r.1<=130000):=
 tf (z8b b) λ_=>tb (Ado _ _ _ _ _ _ _ _ _ _ _) λ_ _=>ti (λ_=>ts) λ_=>(by unfold IS KL;exact ta (tj (Axz _ _ _ _ _ _ _ _ _ _ _ As _ _)))
theorem Aa0(a b:LB)(hP:Aa a<=17179869184):T (Cy a b) (λr=>r=true->Aa b<=Aa a):=
 ti (λ_=>tc λ_ _=>ts) λ_=>ts
theorem Akh(a b:LB)(hP:Aa a<=17179869184/\Aa b=1):T (Et a b) (λr=>Aa r<=Aa a):=
 tb (Aa0 _ _) λ_ _=>ti (λ_=>tc λ_ _=>ts) λ_=>ts
theorem Alj(a b:LB)(hP:Aa a<=17179869184/\Aa b=1):T (Ge a b) (λr=>Aa r<=Aa a):=
 tb (Akh _ _) λ_ _=>ts
theorem Arf(s:LB)(c:UInt8)(h:0<s.count c):0<=Fe s c/\c∉s.take (Fe s c).toNat/\ (s.drop ((Fe s c).toNat+1)).count c+1=s.count c:=by
  induction s with
  |nil=>simp at h
  |cons b l ih=>
    simp only[Fe];by_cases hb:(b==c)=true
    · rw[BA hb]
      have:=eq_of_beq hb;subst this;exact⟨H3 _,F7,F7⟩
    · rw[C1 hb]
      have hbc:¬b=c:=λe=>hb (by simp[e]);have hc:(b::l).count c=l.count c:=by rw[List.count_cons,C1 hb,R!]
      rw[hc]at h⊢;obtain⟨h1,h2,h3⟩:=ih h;have h4:¬(Fe l c== -1)=true:=by simp;omega
      rw[C1 h4];have e:(Fe l c+1).toNat=(Fe l c).toNat+1:=F3
      refine⟨F3,?_,?_⟩
      · rw[e,List.take_succ_cons,C?,L?];exact⟨λh=>hbc h.symm,h2⟩
      · rw[e,List.drop_succ_cons];exact h3
theorem Amk(a b:LB)(c:UInt8)(f:Int)(hb:c∉b/\Aa b<=3/\Aa a<=1000000):∀(q:Nat) (h m:Int) (n:LB),0<=h/\h<=Aa a/\0<=m/\m<=f/\f<m+q/\f<=1000000/\ ((a.drop h.toNat).count c:Int)=f-m/\c∉n/\Aa n<=4*h->T (Oo a [c] b f q h m n) (λr=>c∉r/\Aa r<=4*Aa a):=
 ind (λh m n hI=>by exfalso;omega) λq ih h m n hI=>by
  obtain⟨hb1,hb2,hb3⟩:=hb;obtain⟨i1,i2,i3,i4,i5,i6,i7,i8,i9⟩:=hI;have hl:(a.drop h.toNat).length=a.length-h.toNat:=D';have c1:Bi a h (Aa a)=some (a.drop h.toNat):=by
    unfold Bi Aa at*
    rw[BA F3,H',K9]
  refine ti (λh1=>?_) λh1=>?_
  · have hm:m<f:=by simp only[Ph,zi,E_]at h1;exact h1
    have k:=Arf (a.drop h.toNat) c F3;have kb:=XJ (a.drop h.toNat) c;have e0:strings_Index (a.drop h.toNat) [c]=some (Fe (a.drop h.toNat) c):=rfl;rw[c1,C',e0,C'];generalize Fe (a.drop h.toNat) c=i at*
    unfold Aa at kb i2 hb3 hb2 i9⊢;have e1:Af h i=h+i:=Ie;have e2:Af (h+i) ((([c]:LB).length:Nat):Int)=h+i+1:=Ie F5 F5;have e3:Af m 1=m+1:=Ie;have c2:Bi a h (h+i)=some ((a.drop h.toNat).take i.toNat):=by
      unfold Bi;rw[BA F3,show(h+i).toNat=h.toNat+i.toNat by omega,List.drop_take,xZ]
    have l2:((a.drop h.toNat).take i.toNat).length=i.toNat:=by rw[C5];omega
    rw[e1,e2,e3,c2,C'];refine ta ?_ F8;refine ta ?_ (by unfold Aa;rw[C!];omega);refine ih _ _ _ ⟨F3,by unfold Aa;omega,F3,F3,F3,F3,?_,?_,?_⟩
    · have:a.drop (h+i+1).toNat=(a.drop h.toNat).drop (i.toNat+1):=by rw[mT];congr 1;omega
      rw[this];omega
    · rw[UW,UW,L?,L?];exact⟨⟨i8,k.2.1⟩,hb1⟩
    · unfold Aa;rw[C!,C!];omega
  · have hm:m=f:=by simp only[Ph,zi,G7]at h1;omega
    unfold Jn GN;rw[c1,C'];unfold Aa at*
    refine ta (tw ⟨_,rfl,?_,?_⟩ (G0 (by rw[C!];omega))) F8
    · rw[UW,L?]
      exact⟨i8,λhx=>by have:=List.count_pos_iff.2 hx;omega⟩
    · show Aa (n++_)<= _
      unfold Aa;rw[C!];omega
theorem Avi(a b:LB)(c:UInt8)(hP:c∉b/\Aa b<=3/\Aa a<=1000000):T (FM a [c] b (-1)) (λr=>c∉r/\Aa r<=4*Aa a):=by
  have hl:Aa a=(a.length:Int):=rfl;have hc:a.count c<=a.length:=List.count_le_length;refine ti (λh=>?_) λh=>?_
  · rw[C7]at h
    rcases h with h|h
    · exact absurd (eq_of_beq h) (λe=>hP.1 (e▸List.mem_singleton.2 rfl))
    · exact absurd h F4
  · have e:strings_Count a [c]=some ((a.count c:Nat):Int):=rfl
    rw[e,C'];refine ti (λh=>⟨_,rfl,?_,by rw[hl];omega⟩) λh=>?_
    · simp only[BP,zi,E_]at h
      exact λhx=>by have:=List.count_pos_iff.2 hx;omega
    · refine ti (λ_=>?_) λh2=>by rw[C8]at h2;exact absurd h2.1 F4
      have hg:Aa ([c]:LB)=1:=rfl;unfold JL Wz;have hb0:0<=Aa b:=by unfold Aa;omega
      have eb:Ag (Aa b) 1=Aa b-1:=AR;have hm: -1000000<= ((a.count c:Nat):Int)*(Aa b-1)/\ ((a.count c:Nat):Int)*(Aa b-1)<=2000000:=by
        have:Aa b=0\/Aa b=1\/Aa b=2\/Aa b=3:=F3
        rcases this with h|h|h|h<;>rw[h]<;>omega
      have hn: -((a.count c:Nat):Int)<= ((a.count c:Nat):Int)*(Aa b-1):=by
        have:Aa b=0\/Aa b=1\/Aa b=2\/Aa b=3:=F3
        rcases this with h|h|h|h<;>rw[h]<;>omega
      have em:Ch ((a.count c:Nat):Int) (Aa b-1)=((a.count c:Nat):Int)*(Aa b-1):=xC;have ea:Af (Aa a) (((a.count c:Nat):Int)*(Aa b-1))=Aa a+((a.count c:Nat):Int)*(Aa b-1):=Ie;rw[hg,eb,em,ea];refine tw ?_ (G0 F3);refine ti (λ_=>?_) λh=>absurd h F4;exact Amk a b c _ hP As 0 0 [] ⟨H3 _,F3,H3 _,F3,by have:=Dc;omega,F3,by rw[mV,List.drop_zero];omega,F7,by unfold Aa;simp⟩
theorem Alv(a f:LB)(c:UInt8)(hP:c=10/\Dv Nl f/\Aa f<=3/\Aa a<=1000000):T (Wq a [c] f) (λr=>Dv Nl r/\Aa r<=4000000):=
 tb (λh=>Avi a f c h) (λ_ h=>⟨_,rfl,λx hx e=>h.1 (by rw[hP.1,<-e];exact hx),by have:=h.2;omega⟩) ⟨λh=>hP.2.1 _ h hP.1,hP.2.2⟩
theorem Aqz{b:List LB}(a:LB)(f:List LB):∀(q:Nat) (k:Int) (h:LB),0<=k/\k<= (Aa f)/\ (Aa f)<k+q/\ (Aa f)<=17179869184/\Dv (Ln zn) f/\Aa f<=40000000/\ (zn=21\/zn=50)/\Aa f+1=Aa b/\Aa a=1/\Dv Nl a/\ (zn=21/\Aa h<=21+22*k\/zn=50/\Aa h<=50+51*k)/\Dv Nl h->T (Sn a f q k h) (λr=>(zn=21/\Aa r<=22*Aa b\/zn=50/\Aa r<=51*Aa b)/\Dv Nl r):=
 ind (λk h hI=>by exfalso;(try simp only[Aa]at *);omega) λq ih k h hI=>ti (λ_=>tA (p:=Ln zn) λ_ _=>ta (ta (tj (ih _ _)))) λ_=>tw (ts)
theorem JM(b:List LB)(a:LB):∀(q:Nat) (g:Int) (m:Int),0<=m/\m<= (Aa b)/\ (Aa b)<m+q/\ (Aa b)<=17179869184/\Dv (Ln zn) b/\Aa b<=40000000/\ (zn=21\/zn=50)/\Aa a=1/\Dv Nl a/\2<=Aa b/\0<=g/\g<=40000000+50*m->T (Tm b a q g m) (λr=>(zn=21/\Aa r<=22*Aa b\/zn=50/\Aa r<=51*Aa b)/\Dv Nl r):=
 ind (λg m hI=>by exfalso;(try simp only[Aa]at *);omega) λq ih g m hI=>ti (λ_=>tA (p:=Ln zn) λ_ _=>ti (λ_=>tn) λ_=>tj (ih _ _)) λ_=>tw (tA (p:=Ln zn) λ_ _=>ta (tC (p:=Ln zn) λ_ _=>tj (Aqz _ _ As _ _)))
theorem iY(b:List LB)(a:LB)(hP:Dv (Ln zn) b/\Aa b<=40000000/\ (zn=21\/zn=50)/\Aa a=1/\Dv Nl a):T (HK b a) (λr=>(zn=21/\Aa r<=22*Aa b\/zn=50/\Aa r<=51*Aa b)/\Dv Nl r):=
 tf (zqm (Ag (Aa b) 1)) λ_=>tf (zm1 (Aa a) (Aa b)) λ_=>ti (λ_=>ts) λ_=>ti (λ_=>tA (p:=Ln zn) λ_ _=>ts) λ_=>ti (λ_=>tw (ti (λ_=>tn) λ_=>tj (JM _ _ As _ _))) λ_=>tj (JM _ _ As _ _)
theorem Asr(a:LI):∀(q:Nat) (f:Int) (b:List LB),0<=f/\f<= (Aa a)/\ (Aa a)<f+q/\ (Aa a)<=17179869184/\Dv Gf a/\Aa a<=40000000/\Dv (Ln 21) b/\Aa b=f->T (Vt a q f b) (λr=>Aa r<=30+22*Aa a/\Dv Nl r):=
 ind (λf b hI=>by exfalso;(try simp only[Aa]at *);omega) λq ih f b hI=>ti (λ_=>tA (p:=Gf) λ_ _=>tb (Bv _) λ_ _=>ta (tj (ih _ _))) λ_=>tb (iY (zn:=21) _ _) λ_ _=>ts
theorem Nb(a:LI)(h:Int)(hP:0<=h/\h<=99/\Aa a<=40000000/\Dv Gf a):T (Ek a h) (λr=>Aa r<=30+22*Aa a/\Dv Nl r):=
 ti (λ_=>tb (Bf _) λ_ _=>ts) λ_=>tj (Asr _ As _ _)
end Go.Pl
set_option maxRecDepth 4000
set_option maxHeartbeats 400000
namespace Go.Pl
open Go Go.Lv
variable{go gz:LB}{WI:Nat}
theorem Ut(a:LB)(hP:True):T (Rt a) (λr=>0<=r.2.2.2.2.2.2.2.2.2.2.2.2/\r.2.2.2.2.2.2.2.2.2.2.2.2<=99/\PD r.1 r.2.1 r.2.2.1 r.2.2.2.1 r.2.2.2.2.1 r.2.2.2.2.2.1 r.2.2.2.2.2.2.1 r.2.2.2.2.2.2.2.1 r.2.2.2.2.2.2.2.2.1 r.2.2.2.2.2.2.2.2.2.1 r.2.2.2.2.2.2.2.2.2.2.1 r.2.2.2.2.2.2.2.2.2.2.2.1/\Aa r.2.1=0):=
 ti (λ_=>ts) λ_=>ts
theorem Uv(a:LB)(h:Aa a<=17179869184):Kf a=some a:=by
  unfold Kf Ay pN;unfold Aa at h;rw[BA F5];rfl
theorem Ajc(a:LI)(h:Aa a<=17179869184):Gn a=some a:=by
  unfold Gn Ay pN;unfold Aa at h;rw[BA F5];rfl
theorem Oa(a b:LB)(f g h k m:Int)(n:LI)(o:Int)(p:LB)(u:Bool)(v:Int)(hP:Aa b<=100000/\Aa n<=1000/\Aa p<=12000000):Em a b f g h k m n o p u v=some (a,b,f,g,h,k,m,n,o,p,u,v):=by
  unfold Em;rw[Uv _ F3,C',Uv _ F3,C',Ajc _ F3,C']
theorem DA(a f g h k:Int)(b:LB)(hP:True):T (Rm a f g h k b) (λr=>0<=r/\r<=99):=
 ti (λ_=>ts) λ_=>ts
theorem Atc(w:LI)(o p:LB)(h b f k m:Int)(g:LI)(a:Int)(n:LB)(u:Bool)(v:Int):∀(q:Nat) (y:Int) (aa:Int),0<=aa/\aa<= (Aa w)/\ (Aa w)<aa+q/\ (Aa w)<=17179869184/\Aa w<=1000->T (Vs w o p h b f k m g a n u v q y aa) (λ_=>True):=
 ind (λy aa hI=>by exfalso;(try simp only[Aa]at *);omega) λq ih y aa hI=>ti (λ_=>tg λ_=>tj (ih _ _)) λ_=>ts
theorem Atr(o p:LB)(h b f k m:Int)(g:LI)(a:Int)(n:LB)(u:Bool)(v:Int)(hP:PD o p h b f k m g a n u v):T (HG o p h b f k m g a n u v) (λ_=>True):=
 ti (λ_=>ts) λ_=>tb (Dd _ _ _ _ _) λ⟨_,_⟩ _=>ti (λ_=>ts) λ_=>tb (DA _ _ _ _ _ _) λ_ _=>ti (λ_=>ts) λ_=>ti (λ_=>ts) λ_=>tb (Vg _) λ_ _=>ti (λ_=>ts) λ_=>tc λ_ _=>tj (Atc _ _ _ _ _ _ _ _ _ _ _ _ _ As _ _)
theorem Az(a:Int)(hP:True):T (Ap a) (λr=>r.1=false/\r.2=a):=
 ts
theorem Avu(a:LB):∀(q:Nat) (b:Int),0<=b/\b<=2/\2<b+q/\Aa a<=100000->T (Vy a q b) (λ_=>True):=
 ind (λb hI=>by exfalso;(try simp only[Aa]at *);omega) λq ih b hI=>ti (λ_=>tg λ_=>ti (λ_=>tb (HB _ _) λ_ _=>ti (λ_=>ts) λ_=>tj (ih _)) λ_=>tj (ih _)) λ_=>ts
theorem fE(a:LB)(hP:Aa a<=100000):T (Pq a) (λ_=>True):=
 (by unfold Pq FX aN;exact tj (Avu _ As _))
theorem ZZ(f a b g h:Int)(hP:True):T (DW f a b g h) (λ_=>True):=
 ts
theorem Afv(a:LI)(b:Int):∀(q:Nat) (f:Int),0<=f/\f<= (Aa a)/\ (Aa a)<f+q/\ (Aa a)<=17179869184->T (Dw a b q f) (λ_=>True):=
 ind (λf hI=>by exfalso;(try simp only[Aa]at *);omega) λq ih f hI=>ti (λ_=>tg λ_=>ti (λ_=>ts) λ_=>tj (ih _)) λ_=>ts
theorem Ajx(a:LI)(b:Int)(hP:Aa a<=100):T (Eo a b) (λ_=>True):=
 (by unfold Eo Fw Kj;exact tj (Afv _ _ As _))
theorem Agh(a:LI)(b:Int)(hP:Aa a<=100):T (Fo a b) (λ_=>True):=
 tb (Ajx _ _) λ_ _=>ts
theorem Aav(a:Int)(hP:True):T (Qh a) (λ_=>True):=
 tb (Agh _ _) λ_ _=>ts
theorem Cs(df:Bool)(hP:True):T (Ha df) (λr=>0<=r/\r<=99):=
 ti (λ_=>ts) λ_=>ts
theorem Hi(dg:Bool)(dh:Int)(hP:True):T (Qw dg dh) (λr=>0<=r/\r<=99):=
 tj (Cs _)
theorem Apt(g ax:LB)(ay az ab ba af b:Int)(n:Bool)(o:Int)(f:LI)(k:LB)(hP:True):T (Ze g ax ay az ab ba af b n o f k) (λr=>0<=r/\r<=99):=
 tb (DA _ _ _ _ _ _) λ_ _=>tb (Az _) λ⟨_,_⟩ _=>tj (Hi _ _)
theorem Fj(dk:Bool)(dl:Int)(hP:True):T (Mf dk dl) (λr=>0<=r/\r<=99):=
 tj (Cs _)
theorem GW(g a:LB)(h p m u v b:Int)(n:Bool)(o:Int)(f:LI)(k:LB)(de:Int)(hP:Aa a<=100000/\ (de=0\/de=8)/\de<=Aa a):T (Rj g a h p m u v b n o f k de) (λr=>0<=r/\r<=99):=
 tb (Dd _ _ _ _ _) λ⟨_,_⟩ _=>ti (λ_=>tb (Az _) λ⟨_,_⟩ _=>tj (Fj _ _)) λ_=>tc λ_ _=>tb (AZ _ _) λ⟨_,_⟩ _=>ti (λ_=>tj (Fj _ _)) λ_=>ti (λ_=>tb (Az _) λ⟨_,_⟩ _=>tj (Fj _ _)) λ_=>tc λ_ _=>tj (Fj _ _)
theorem Hj(dt:Bool)(du:Int)(hP:True):T (Me dt du) (λr=>0<=r/\r<=99):=
 tj (Cs _)
theorem Aoq(y:Int)(g a:LB)(h p m u v b:Int)(n:Bool)(o:Int)(bc:LX)(ag f:LI)(k:LB)(hP:Aa a<=100000/\0<=y/\y<=Aa a/\0<=b/\b<Aa ag/\Aa bc=16/\Aa k<=12000000):T (MX y g a h p m u v b n o bc ag f k) (λr=>0<=r/\r<=99):=
 tg λ_=>tc λ_ _=>tg λ_=>tb (ZZ _ _ _ _ _) λ⟨_,_⟩ _=>tb (Oc _ _ _ _ _) λ⟨_,_⟩ _=>ti (λ_=>tb (Az _) λ⟨_,_⟩ _=>tj (Hj _ _)) λ_=>tb (Qf _ _) λ⟨_,_⟩ _=>ti (λ_=>tb (Az _) λ⟨_,_⟩ _=>tj (Hj _ _)) λ_=>ta (tc λ_ _=>tj (Hj _ _))
theorem FQ(al am:LB)(an ao ap aq ar:Int)(au:LI)(ad:Int)(ae:LB)(aa:Bool)(w:Int)(hP:PD al am an ao ap aq ar au ad ae aa w):T (Qi al am an ao ap aq ar au ad ae aa w) (λr=>0<=r/\r<=99):=
 ti (λ_=>ts) λ_=>ti (λ_=>tQ (Oa _ _ _ _ _ _ _ _ _ _ _ _) (tb (Atr _ _ _ _ _ _ _ _ _ _ _ _) λ_ _=>ti (λ_=>ti (λ_=>tb (Qc _) λ⟨_,_⟩ _=>ti (λ_=>tj (Hi _ _)) λ_=>ti (λ_=>tb (Az _) λ⟨_,_⟩ _=>tj (Hi _ _)) λ_=>tc λ_ _=>tb (fE _) λ_ _=>ti (λ_=>tj (Hi _ _)) λ_=>tc λ_ _=>tb (Qb _) λ⟨_,_,_,_,_,_⟩ _=>ti (λ_=>tj (Hi _ _)) λ_=>ti (λ_=>tb (Az _) λ⟨_,_⟩ _=>tj (Hi _ _)) λ_=>tc λ_ _=>tj (Apt _ _ _ _ _ _ _ _ _ _ _ _)) λ_=>ti (λ_=>ti (λ_=>ti (λ_=>tj (Fj _ _)) λ_=>tc λ_ _=>tb (AN _ _) λ⟨_,_⟩ _=>ti (λ_=>tb (Az _) λ⟨_,_⟩ _=>tj (Fj _ _)) λ_=>ti (λ_=>tb (Az _) λ⟨_,_⟩ _=>tj (Fj _ _)) λ_=>tj (GW _ _ _ _ _ _ _ _ _ _ _ _ _)) λ_=>tj (GW _ _ _ _ _ _ _ _ _ _ _ _ _)) λ_=>ti (λ_=>tA (p:=Rg 5 100000) λ_ _=>tA (p:=Rg 5 100000) λ_ _=>ti (λ_=>tj (Hj _ _)) λ_=>tb (Sa _) λ⟨_,_⟩ _=>ti (λ_=>tb (Az _) λ⟨_,_⟩ _=>tj (Hj _ _)) λ_=>tb (Dd _ _ _ _ _) λ⟨_,_⟩ _=>ti (λ_=>tb (Az _) λ⟨_,_⟩ _=>tj (Hj _ _)) λ_=>tj (Aoq _ _ _ _ _ _ _ _ _ _ _ _ _ _ _)) λ_=>ti (λ_=>tb (Az _) λ⟨_,_⟩ _=>tj (Cs _)) λ_=>(by unfold AT OE;exact tj (Cs _))) λ_=>tj (Cs _))) λ_=>ti (λ_=>ti (λ_=>ti (λ_=>tj (Cs _)) λ_=>ti (λ_=>tb (Aav _) λ_ _=>tj (Cs _)) λ_=>tj (Cs _)) λ_=>tj (Cs _)) λ_=>ti (λh=>absurd h F7) λ_=>tj (Cs _)
theorem ZH(f g:LB)(h k m n o:Int)(p:LI)(u:Int)(v:LB)(b:Bool)(a:Int)(hP:PD f g h k m n o p u v b a):T (Qj f g h k m n o p u v b a) (λr=>0<=r.2.2.2.2.2.2.2.2.2.2.2.2/\r.2.2.2.2.2.2.2.2.2.2.2.2<=99/\PD r.1 r.2.1 r.2.2.1 r.2.2.2.1 r.2.2.2.2.1 r.2.2.2.2.2.1 r.2.2.2.2.2.2.1 r.2.2.2.2.2.2.2.1 r.2.2.2.2.2.2.2.2.1 r.2.2.2.2.2.2.2.2.2.1 r.2.2.2.2.2.2.2.2.2.2.1 r.2.2.2.2.2.2.2.2.2.2.2.1/\Aa r.2.1<=Aa g/\ (r.2.2.2.2.2.2.2.2.2.2.2.2=0->r.2.2.2.2.2.2.2.2.2.2.1=false/\r.2.2.2.2.2.2.2.2.2.2.2.1=0)):=
 tb (FQ _ _ _ _ _ _ _ _ _ _ _ _) λ_ _=>ti (λ_=>ts) λ_=>ti (λ_=>tQ (Oa _ _ _ _ _ _ _ _ _ _ _ _) (ts)) λ_=>ti (λ_=>tQ (Oa _ _ _ _ _ _ _ _ _ _ _ _) (ts)) λ_=>tQ (Oa _ _ _ _ _ _ _ _ _ _ _ _) (ts)
theorem iD(b g:LB)(h k m n o:Int)(p:LI)(u:Int)(f:LB)(v:Bool)(w a:Int)(hP:Aa b<=64/\Aa f<=12000000/\1<=a/\a<=99):T (HY b g h k m n o p u f v w a) (λr=>0<=r.2.2.2.2.2.2.2.2.2.2.2.2/\r.2.2.2.2.2.2.2.2.2.2.2.2<=99/\PD r.1 r.2.1 r.2.2.1 r.2.2.2.1 r.2.2.2.2.1 r.2.2.2.2.2.1 r.2.2.2.2.2.2.1 r.2.2.2.2.2.2.2.1 r.2.2.2.2.2.2.2.2.1 r.2.2.2.2.2.2.2.2.2.1 r.2.2.2.2.2.2.2.2.2.2.1 r.2.2.2.2.2.2.2.2.2.2.2.1/\Aa r.2.1=0):=
 ts
theorem Kt{Pv:LB->Int->Int->Int->Int->Int->Int->LI->LB->Al}(a:LB)(b:Bool)(f:Int)(av:LB)(aw ax ay az ba bb:Int)(dy:Bool)(dk:Int)(bc:LI)(bd:LB)(hb:∀(g:LB) (m:Int) (o:Int) (n:Int) (p:Int) (u:Int) (h:Int) (k:LI) (v:LB),PD a g m o n p u k h v b f/\b=false/\f=0/\ (m=0-> (2500:Int)<WI)/\ (m≠0->Aa k=0-> (1500:Int)<WI)/\ (0:Int)<WI/\Aa k-h<WI/\Aa g<=Aa go+Aa gz->T (Pv g m o n p u h k v) (λr=>0<=r.2.2.2.2.2.2.2.2.2.2.2.2/\r.2.2.2.2.2.2.2.2.2.2.2.2<=99/\PD r.1 r.2.1 r.2.2.1 r.2.2.2.1 r.2.2.2.2.1 r.2.2.2.2.2.1 r.2.2.2.2.2.2.1 r.2.2.2.2.2.2.2.1 r.2.2.2.2.2.2.2.2.1 r.2.2.2.2.2.2.2.2.2.1 r.2.2.2.2.2.2.2.2.2.2.1 r.2.2.2.2.2.2.2.2.2.2.2.1/\Aa r.2.1<=Aa go+Aa gz))(hP:PD a av aw ax ay az ba bc bb bd b f/\b=false/\f=0/\Aa av<=Aa go+Aa gz/\0<=dk/\dk<=99/\ (dy=false->dk=0-> (aw=0-> (2500:Int)<WI)/\ (aw≠0->Aa bc=0-> (1500:Int)<WI)/\ (0:Int)<WI/\Aa bc-bb<WI)):T (Hy Pv a b f av aw ax ay az ba bb dy dk bc bd) (λr=>0<=r.2.2.2.2.2.2.2.2.2.2.2.2/\r.2.2.2.2.2.2.2.2.2.2.2.2<=99/\PD r.1 r.2.1 r.2.2.1 r.2.2.2.1 r.2.2.2.2.1 r.2.2.2.2.2.1 r.2.2.2.2.2.2.1 r.2.2.2.2.2.2.2.1 r.2.2.2.2.2.2.2.2.1 r.2.2.2.2.2.2.2.2.2.1 r.2.2.2.2.2.2.2.2.2.2.1 r.2.2.2.2.2.2.2.2.2.2.2.1/\Aa r.2.1<=Aa go+Aa gz):=
 ti (λ_=>tQ (Oa _ _ _ _ _ _ _ _ _ _ _ _) (ts)) λ_=>ti (λ_=>tb (iD _ _ _ _ _ _ _ _ _ _ _ _ _) λ⟨_,_,_,_,_,_,_,_,_,_,_,_,_⟩ _=>ts) λ_=>tj (hb _ _ _ _ _ _ _ _ _)
theorem Hu{Pv:LB->Int->Int->Int->Int->Int->Int->LI->LB->Al}(a:LB)(b:Bool)(f h:Int)(k:LI)(v:LB)(fv:Bool)(fw:Int)(fx:LB)(fy fz ga gb gc:Int)(hb:∀(g:LB) (m:Int) (o:Int) (n:Int) (p:Int) (u:Int) (h:Int) (k:LI) (v:LB),PD a g m o n p u k h v b f/\b=false/\f=0/\ (m=0-> (2500:Int)<WI)/\ (m≠0->Aa k=0-> (1500:Int)<WI)/\ (0:Int)<WI/\Aa k-h<WI/\Aa g<=Aa go+Aa gz->T (Pv g m o n p u h k v) (λr=>0<=r.2.2.2.2.2.2.2.2.2.2.2.2/\r.2.2.2.2.2.2.2.2.2.2.2.2<=99/\PD r.1 r.2.1 r.2.2.1 r.2.2.2.1 r.2.2.2.2.1 r.2.2.2.2.2.1 r.2.2.2.2.2.2.1 r.2.2.2.2.2.2.2.1 r.2.2.2.2.2.2.2.2.1 r.2.2.2.2.2.2.2.2.2.1 r.2.2.2.2.2.2.2.2.2.2.1 r.2.2.2.2.2.2.2.2.2.2.2.1/\Aa r.2.1<=Aa go+Aa gz))(hP:PD a fx fy fz ga gb gc k h v b f/\b=false/\f=0/\Aa fx<=Aa go+Aa gz/\0<=fw/\fw<=99/\ (fv=false->fw=0-> (fy=0-> (2500:Int)<WI)/\ (fy≠0->Aa k=0-> (1500:Int)<WI)/\ (0:Int)<WI/\Aa k-h<WI)):T (Tl Pv a b f h k v fv fw fx fy fz ga gb gc) (λr=>0<=r.2.2.2.2.2.2.2.2.2.2.2.2/\r.2.2.2.2.2.2.2.2.2.2.2.2<=99/\PD r.1 r.2.1 r.2.2.1 r.2.2.2.1 r.2.2.2.2.1 r.2.2.2.2.2.1 r.2.2.2.2.2.2.1 r.2.2.2.2.2.2.2.1 r.2.2.2.2.2.2.2.2.1 r.2.2.2.2.2.2.2.2.2.1 r.2.2.2.2.2.2.2.2.2.2.1 r.2.2.2.2.2.2.2.2.2.2.2.1/\Aa r.2.1<=Aa go+Aa gz):=
 tj (Kt _ _ _ _ _ _ _ _ _ _ _ _ _ _ hb)
theorem Gd{Pv:LB->Int->Int->Int->Int->Int->Int->LI->LB->Al}(a:LB)(b:Bool)(f m o n p u h:Int)(v:LB)(bf:Bool)(bg:Int)(bh:LB)(bi:LI)(hb:∀(g:LB) (m:Int) (o:Int) (n:Int) (p:Int) (u:Int) (h:Int) (k:LI) (v:LB),PD a g m o n p u k h v b f/\b=false/\f=0/\ (m=0-> (2500:Int)<WI)/\ (m≠0->Aa k=0-> (1500:Int)<WI)/\ (0:Int)<WI/\Aa k-h<WI/\Aa g<=Aa go+Aa gz->T (Pv g m o n p u h k v) (λr=>0<=r.2.2.2.2.2.2.2.2.2.2.2.2/\r.2.2.2.2.2.2.2.2.2.2.2.2<=99/\PD r.1 r.2.1 r.2.2.1 r.2.2.2.1 r.2.2.2.2.1 r.2.2.2.2.2.1 r.2.2.2.2.2.2.1 r.2.2.2.2.2.2.2.1 r.2.2.2.2.2.2.2.2.1 r.2.2.2.2.2.2.2.2.2.1 r.2.2.2.2.2.2.2.2.2.2.1 r.2.2.2.2.2.2.2.2.2.2.2.1/\Aa r.2.1<=Aa go+Aa gz))(hP:PD a bh m o n p u bi h v b f/\b=false/\f=0/\Aa bh<=Aa go+Aa gz/\0<=bg/\bg<=99/\ (bf=false->bg=0-> (m=0-> (2500:Int)<WI)/\ (m≠0->Aa bi=0-> (1500:Int)<WI)/\ (0:Int)<WI/\Aa bi-h<WI)):T (Nt Pv a b f m o n p u h v bf bg bh bi) (λr=>0<=r.2.2.2.2.2.2.2.2.2.2.2.2/\r.2.2.2.2.2.2.2.2.2.2.2.2<=99/\PD r.1 r.2.1 r.2.2.1 r.2.2.2.1 r.2.2.2.2.1 r.2.2.2.2.2.1 r.2.2.2.2.2.2.1 r.2.2.2.2.2.2.2.1 r.2.2.2.2.2.2.2.2.1 r.2.2.2.2.2.2.2.2.2.1 r.2.2.2.2.2.2.2.2.2.2.1 r.2.2.2.2.2.2.2.2.2.2.2.1/\Aa r.2.1<=Aa go+Aa gz):=
 tj (Kt _ _ _ _ _ _ _ _ _ _ _ _ _ _ hb)
theorem LH{Pv:LB->Int->Int->Int->Int->Int->Int->LI->LB->Al}(a:LB)(b:Bool)(f:Int)(g:LB)(m o n p u h:Int)(k:LI)(v:LB)(dl:Int)(hb:∀(g:LB) (m:Int) (o:Int) (n:Int) (p:Int) (u:Int) (h:Int) (k:LI) (v:LB),PD a g m o n p u k h v b f/\b=false/\f=0/\ (m=0-> (2500:Int)<WI)/\ (m≠0->Aa k=0-> (1500:Int)<WI)/\ (0:Int)<WI/\Aa k-h<WI/\Aa g<=Aa go+Aa gz->T (Pv g m o n p u h k v) (λr=>0<=r.2.2.2.2.2.2.2.2.2.2.2.2/\r.2.2.2.2.2.2.2.2.2.2.2.2<=99/\PD r.1 r.2.1 r.2.2.1 r.2.2.2.1 r.2.2.2.2.1 r.2.2.2.2.2.1 r.2.2.2.2.2.2.1 r.2.2.2.2.2.2.2.1 r.2.2.2.2.2.2.2.2.1 r.2.2.2.2.2.2.2.2.2.1 r.2.2.2.2.2.2.2.2.2.2.1 r.2.2.2.2.2.2.2.2.2.2.2.1/\Aa r.2.1<=Aa go+Aa gz))(hP:PD a g m o n p u k h v b f/\b=false/\f=0/\Aa g<=Aa go+Aa gz/\m≠0/\Aa k=0/\ (dl=0\/dl=8)/\dl<=Aa g/\ (1500:Int)<=WI):T (DN Pv a b f g m o n p u h k v dl) (λr=>0<=r.2.2.2.2.2.2.2.2.2.2.2.2/\r.2.2.2.2.2.2.2.2.2.2.2.2<=99/\PD r.1 r.2.1 r.2.2.1 r.2.2.2.1 r.2.2.2.2.1 r.2.2.2.2.2.1 r.2.2.2.2.2.2.1 r.2.2.2.2.2.2.2.1 r.2.2.2.2.2.2.2.2.1 r.2.2.2.2.2.2.2.2.2.1 r.2.2.2.2.2.2.2.2.2.2.1 r.2.2.2.2.2.2.2.2.2.2.2.1/\Aa r.2.1<=Aa go+Aa gz):=
 tb (Dd _ _ _ _ _) λ⟨_,_⟩ _=>ti (λ_=>tb (Az _) λ⟨_,_⟩ _=>tj (Gd _ _ _ _ _ _ _ _ _ _ _ _ _ _ hb)) λ_=>tc λ_ _=>tb (AZ _ _) λ⟨_,_⟩ _=>ti (λ_=>tj (Gd _ _ _ _ _ _ _ _ _ _ _ _ _ _ hb)) λ_=>ti (λ_=>tb (Az _) λ⟨_,_⟩ _=>tj (Gd _ _ _ _ _ _ _ _ _ _ _ _ _ _ hb)) λ_=>tc λ_ _=>tj (Gd _ _ _ _ _ _ _ _ _ _ _ _ _ _ hb)
theorem Ic{Pv:LB->Int->Int->Int->Int->Int->Int->LI->LB->Al}(a:LB)(b:Bool)(f m o n p u:Int)(k:LI)(bl:Bool)(bm:Int)(bn:LB)(bp:Int)(bq:LB)(hb:∀(g:LB) (m:Int) (o:Int) (n:Int) (p:Int) (u:Int) (h:Int) (k:LI) (v:LB),PD a g m o n p u k h v b f/\b=false/\f=0/\ (m=0-> (2500:Int)<WI)/\ (m≠0->Aa k=0-> (1500:Int)<WI)/\ (0:Int)<WI/\Aa k-h<WI/\Aa g<=Aa go+Aa gz->T (Pv g m o n p u h k v) (λr=>0<=r.2.2.2.2.2.2.2.2.2.2.2.2/\r.2.2.2.2.2.2.2.2.2.2.2.2<=99/\PD r.1 r.2.1 r.2.2.1 r.2.2.2.1 r.2.2.2.2.1 r.2.2.2.2.2.1 r.2.2.2.2.2.2.1 r.2.2.2.2.2.2.2.1 r.2.2.2.2.2.2.2.2.1 r.2.2.2.2.2.2.2.2.2.1 r.2.2.2.2.2.2.2.2.2.2.1 r.2.2.2.2.2.2.2.2.2.2.2.1/\Aa r.2.1<=Aa go+Aa gz))(hP:PD a bn m o n p u k bp bq b f/\b=false/\f=0/\Aa bn<=Aa go+Aa gz/\0<=bm/\bm<=99/\ (bl=false->bm=0-> (m=0-> (2500:Int)<WI)/\ (m≠0->Aa k=0-> (1500:Int)<WI)/\ (0:Int)<WI/\Aa k-bp<WI)):T (Tk Pv a b f m o n p u k bl bm bn bp bq) (λr=>0<=r.2.2.2.2.2.2.2.2.2.2.2.2/\r.2.2.2.2.2.2.2.2.2.2.2.2<=99/\PD r.1 r.2.1 r.2.2.1 r.2.2.2.1 r.2.2.2.2.1 r.2.2.2.2.2.1 r.2.2.2.2.2.2.1 r.2.2.2.2.2.2.2.1 r.2.2.2.2.2.2.2.2.1 r.2.2.2.2.2.2.2.2.2.1 r.2.2.2.2.2.2.2.2.2.2.1 r.2.2.2.2.2.2.2.2.2.2.2.1/\Aa r.2.1<=Aa go+Aa gz):=
 tj (Kt _ _ _ _ _ _ _ _ _ _ _ _ _ _ hb)
theorem Aqt(a:LB)(b:Bool)(f:Int):∀(q:Nat) (g:LB) (m:Int) (o:Int) (n:Int) (p:Int) (u:Int) (h:Int) (k:LI) (v:LB),PD a g m o n p u k h v b f/\b=false/\f=0/\ (m=0-> (2500:Int)<q)/\ (m≠0->Aa k=0-> (1500:Int)<q)/\ (0:Int)<q/\Aa k-h<q/\Aa g<=Aa go+Aa gz->T (De a b f q g m o n p u h k v) (λr=>0<=r.2.2.2.2.2.2.2.2.2.2.2.2/\r.2.2.2.2.2.2.2.2.2.2.2.2<=99/\PD r.1 r.2.1 r.2.2.1 r.2.2.2.1 r.2.2.2.2.1 r.2.2.2.2.2.1 r.2.2.2.2.2.2.1 r.2.2.2.2.2.2.2.1 r.2.2.2.2.2.2.2.2.1 r.2.2.2.2.2.2.2.2.2.1 r.2.2.2.2.2.2.2.2.2.2.1 r.2.2.2.2.2.2.2.2.2.2.2.1/\Aa r.2.1<=Aa go+Aa gz):=
 ind (λg m o n p u h k v hI=>by exfalso;(try simp only[Aa]at *);omega) λq ih g m o n p u h k v hI=>ti (λ_=>tb (Qc _) λ⟨_,_⟩ _=>ti (λ_=>tj (Hu _ _ _ _ _ _ _ _ _ _ _ _ _ _ ih)) λ_=>ti (λ_=>tb (Az _) λ⟨_,_⟩ _=>tj (Hu _ _ _ _ _ _ _ _ _ _ _ _ _ _ ih)) λ_=>tc λ_ _=>tb (fE _) λ_ _=>ti (λ_=>tj (Hu _ _ _ _ _ _ _ _ _ _ _ _ _ _ ih)) λ_=>tc λ_ _=>tb (Qb _) λ⟨_,_,_,_,_,_⟩ _=>ti (λ_=>tj (Hu _ _ _ _ _ _ _ _ _ _ _ _ _ _ ih)) λ_=>ti (λ_=>tb (Az _) λ⟨_,_⟩ _=>tj (Hu _ _ _ _ _ _ _ _ _ _ _ _ _ _ ih)) λ_=>tc λ_ _=>tb (DA _ _ _ _ _ _) λ_ _=>tb (Az _) λ⟨_,_⟩ _=>tj (Hu _ _ _ _ _ _ _ _ _ _ _ _ _ _ ih)) λ_=>ti (λ_=>ti (λ_=>ti (λ_=>tj (Gd _ _ _ _ _ _ _ _ _ _ _ _ _ _ ih)) λ_=>tc λ_ _=>tb (AN _ _) λ⟨_,_⟩ _=>ti (λ_=>tb (Az _) λ⟨_,_⟩ _=>tj (Gd _ _ _ _ _ _ _ _ _ _ _ _ _ _ ih)) λ_=>ti (λ_=>tb (Az _) λ⟨_,_⟩ _=>tj (Gd _ _ _ _ _ _ _ _ _ _ _ _ _ _ ih)) λ_=>tj (LH _ _ _ _ _ _ _ _ _ _ _ _ _ ih)) λ_=>tj (LH _ _ _ _ _ _ _ _ _ _ _ _ _ ih)) λ_=>ti (λ_=>tA (p:=Rg 5 100000) λ_ _=>tA (p:=Rg 5 100000) λ_ _=>ti (λ_=>tj (Ic _ _ _ _ _ _ _ _ _ _ _ _ _ _ ih)) λ_=>tb (Sa _) λ⟨_,_⟩ _=>ti (λ_=>tb (Az _) λ⟨_,_⟩ _=>tj (Ic _ _ _ _ _ _ _ _ _ _ _ _ _ _ ih)) λ_=>tb (Dd _ _ _ _ _) λ⟨_,_⟩ _=>ti (λ_=>tb (Az _) λ⟨_,_⟩ _=>tj (Ic _ _ _ _ _ _ _ _ _ _ _ _ _ _ ih)) λ_=>tg λ_=>tc λ_ _=>tg λ_=>tb (ZZ _ _ _ _ _) λ⟨_,_⟩ _=>tb (Oc _ _ _ _ _) λ⟨_,_⟩ _=>ti (λ_=>tb (Az _) λ⟨_,_⟩ _=>tj (Ic _ _ _ _ _ _ _ _ _ _ _ _ _ _ ih)) λ_=>tb (Qf _ _) λ⟨_,_⟩ _=>ti (λ_=>tb (Az _) λ⟨_,_⟩ _=>tj (Ic _ _ _ _ _ _ _ _ _ _ _ _ _ _ ih)) λ_=>ta (tc λ_ _=>tj (Ic _ _ _ _ _ _ _ _ _ _ _ _ _ _ ih))) λ_=>ti (λ_=>tb (Az _) λ⟨_,_⟩ _=>tj (Kt _ _ _ _ _ _ _ _ _ _ _ _ _ _ ih)) λ_=>(by unfold DF VO;exact tj (Kt _ _ _ _ _ _ _ _ _ _ _ _ _ _ ih))
theorem Zp(gn go:LB)(gp gq gr gs gt:Int)(gu:LI)(gv:Int)(gw:LB)(gx:Bool)(gy:Int)(gz:LB)(hP:PD gn go gp gq gr gs gt gu gv gw gx gy/\Aa go+Aa gz<=100000):T (Hc gn go gp gq gr gs gt gu gv gw gx gy gz) (λr=>0<=r.2.2.2.2.2.2.2.2.2.2.2.2/\r.2.2.2.2.2.2.2.2.2.2.2.2<=99/\PD r.1 r.2.1 r.2.2.1 r.2.2.2.1 r.2.2.2.2.1 r.2.2.2.2.2.1 r.2.2.2.2.2.2.1 r.2.2.2.2.2.2.2.1 r.2.2.2.2.2.2.2.2.1 r.2.2.2.2.2.2.2.2.2.1 r.2.2.2.2.2.2.2.2.2.2.1 r.2.2.2.2.2.2.2.2.2.2.2.1/\Aa r.2.1<=Aa go+Aa gz):=
 tb (ZH _ _ _ _ _ _ _ _ _ _ _ _) λ⟨_,_,_,_,_,_,_,_,_,_,_,_,_⟩ _=>ti (λ_=>ts) λ_=>ta (tj (Aqt _ _ _ As _ _ _ _ _ _ _ _ _))
theorem Aw7(p a:LB)(g u v w y:Int)(b:LI)(h:Int)(aa:LB)(ab:Bool)(ac:Int)(hP:Aa a<=100000):T (JD p a g u v w y b h aa ab ac) (λr=>0<=r/\r<=99):=
 ti (λ_=>tb (Qc _) λ⟨_,_⟩ _=>ti (λ_=>ts) λ_=>tc λ_ _=>tb (Qb _) λ⟨_,_,_,_,_,_⟩ _=>ts) λ_=>ti (λ_=>ts) λ_=>tb (LC _) λ⟨_,_⟩ _=>ts
theorem Tg(aa ab:LB)(ac ad ae af ag:Int)(ah:LI)(ai:Int)(aj:LB)(ak:Bool)(al:Int)(hP:PD aa ab ac ad ae af ag ah ai aj ak al):T (Ky aa ab ac ad ae af ag ah ai aj ak al) (λr=>0<=r.2.2.2.2.2.2.2.2.2.2.2.2/\r.2.2.2.2.2.2.2.2.2.2.2.2<=99/\PD r.1 r.2.1 r.2.2.1 r.2.2.2.1 r.2.2.2.2.1 r.2.2.2.2.2.1 r.2.2.2.2.2.2.1 r.2.2.2.2.2.2.2.1 r.2.2.2.2.2.2.2.2.1 r.2.2.2.2.2.2.2.2.2.1 r.2.2.2.2.2.2.2.2.2.2.1 r.2.2.2.2.2.2.2.2.2.2.2.1/\Aa r.2.1<=Aa ab):=
 tb (ZH _ _ _ _ _ _ _ _ _ _ _ _) λ⟨_,_,_,_,_,_,_,_,_,_,_,_,_⟩ _=>ti (λ_=>ts) λ_=>tb (Aw7 _ _ _ _ _ _ _ _ _ _ _ _) λ_ _=>ti (λ_=>tb (iD _ _ _ _ _ _ _ _ _ _ _ _ _) λ⟨_,_,_,_,_,_,_,_,_,_,_,_,_⟩ _=>ts) λ_=>ts
end Go.Pl
set_option maxRecDepth 4000
set_option maxHeartbeats 400000
namespace Go.Pl
open Go Go.Lv
theorem Anz{N16:Nat}{Fl:Int->LX->By}(a:Int)(b:LB)(f:Int)(g:LX)(hb:∀(f:Int) (g:LX),0<=f/\f<= (Aa b)/\ (Aa b)<f+N16/\ (Aa b)<=17179869184/\Aa b<=12000000/\Aa g<=f/\ (a=8\/a=16/\Aa b %2=0/\f %2=0\/a=24/\Aa b %3=0/\f %3=0)->T (Fl f g) (λr=>0<=r.2/\r.2<=99/\Aa r.1<=Aa b)):∀(q:Nat) (k:Int32) (h:Int),0<=h/\h<= (Ep a 8)/\ (Ep a 8)<h+q/\ (Ep a 8)<=17179869184/\0<=f/\f<= (Aa b)/\ (Aa b)<f+(N16+1)/\ (Aa b)<=17179869184/\Aa b<=12000000/\Aa g<=f/\ (a=8\/a=16/\Aa b %2=0/\f %2=0\/a=24/\Aa b %3=0/\f %3=0)/\f<(Aa b)->T (Rh Fl a b f g q k h) (λr=>0<=r.2/\r.2<=99/\Aa r.1<=Aa b):=
 ind (λk h hI=>by exfalso;(try simp only[Aa]at *);omega) λq ih k h hI=>ti (λ_=>tg λ_=>tw (tj (ih _ _))) λ_=>tw (tw (ta (tj (hb _ _))))
theorem Amx(a:Int)(b:LB):∀(q:Nat) (f:Int) (g:LX),0<=f/\f<= (Aa b)/\ (Aa b)<f+q/\ (Aa b)<=17179869184/\Aa b<=12000000/\Aa g<=f/\ (a=8\/a=16/\Aa b %2=0/\f %2=0\/a=24/\Aa b %3=0/\f %3=0)->T (Mj a b q f g) (λr=>0<=r.2/\r.2<=99/\Aa r.1<=Aa b):=
 ind (λf g hI=>by exfalso;(try simp only[Aa]at *);omega) λq ih f g hI=>ti (λ_=>ti (λ_=>tg λ_=>ta (tj (ih _ _))) λ_=>tj (Anz _ _ _ _ ih As _ _)) λ_=>ts
theorem We(a:Int)(b:LB)(hP:Aa b<=12000000):T (Qd a b) (λr=>0<=r.2/\r.2<=99/\Aa r.1<=Aa b):=
 tf (zws a (Aa b)) λ_=>tb (PG _) λ⟨_,_,_⟩ _=>ti (λ_=>ts) λ_=>tw (ti (λ_=>ts) λ_=>tw (ti (λ_=>ts) λ_=>tj (Amx _ _ As _ _)))
theorem TP(p u:LB)(hP:Aa p<=100000):T (Rv p u) (λr=>0<=r.2.2.2.2/\r.2.2.2.2<=99/\Aa r.2.2.2.1<=12000000):=
 tb (Ut _) λ⟨_,_,_,_,_,_,_,_,_,_,_,_,_⟩ _=>ti (λ_=>ts) λ_=>tb (Zp _ _ _ _ _ _ _ _ _ _ _ _ _) λ⟨_,_,_,_,_,_,_,_,_,_,_,_,_⟩ _=>ti (λ_=>ts) λ_=>tb (Tg _ _ _ _ _ _ _ _ _ _ _ _) λ⟨_,_,_,_,_,_,_,_,_,_,_,_,_⟩ _=>ti (λ_=>ts) λ_=>ti (λ_=>ts) λ_=>tb (We _ _) λ⟨_,_⟩ _=>ti (λ_=>ts) λ_=>ts
theorem Ami(a:Int)(b:LX):∀(q:Nat) (g:Int) (f:LI),0<=g/\g<= (Aa b)/\ (Aa b)<g+q/\ (Aa b)<=17179869184/\0<=a/\a<=99/\Aa b<=40000000/\Aa f=g/\Dv Gf f->T (Po a b q g f) (λr=>Aa r<=30+22*Aa b/\Dv Nl r):=
 ind (λg f hI=>by exfalso;(try simp only[Aa]at *);omega) λq ih g f hI=>ti (λ_=>tg λ_=>ta (tj (ih _ _))) λ_=>tb (Nb _ _) λ_ _=>ts
theorem AB(n o p:Int)(b:LX)(a:Int)(hP:0<=a/\a<=99/\Aa b<=40000000):T (Gb n o p b a) (λr=>Aa r<=30+22*Aa b/\Dv Nl r):=
 (by unfold Gb Xc LO;exact tj (Ami _ _ As _ _))
theorem Tq(ab:Int)(af:LI)(hP:0<=ab/\ab<=99/\Aa af<=1000/\Dv Gf af):T (La ab af) (λr=>0<=r.2/\r.2<=99/\Aa r.1<=1000/\Dv Gf r.1):=
 ti (λ_=>ts) λ_=>ts
theorem Azd(a b:LB)(g:LI)(h k f m n o:Int)(p:LI):∀(q:Nat) (u:Int) (v:LI),0<=u/\u<= (Aa g)/\ (Aa g)<u+q/\ (Aa g)<=17179869184/\Aa g<=1000/\Aa v<=u/\Dv Gf v->T (Zt a b g h k f m n o p q u v) (λr=>0<=r.2/\r.2<=99/\Aa r.1<=1000/\Dv Gf r.1):=
 ind (λu v hI=>by exfalso;(try simp only[Aa]at *);omega) λq ih u v hI=>ti (λ_=>tg λ_=>tg λ_=>tb (Zj _ _ _) λ⟨_,_⟩ _=>ti (λ_=>tb (We _ _) λ⟨_,_⟩ _=>ti (λ_=>tj (Tq _ _)) λ_=>(by unfold BN JV;exact ti (λ_=>ta ((by unfold Rz Rr;exact ti (λh=>absurd h F4) λ_=>(by unfold Sd Rk;exact tj (ih _ _))))) λ_=>(by unfold Rz Rr;exact ti (λh=>absurd h F4) λ_=>(by unfold Sd Rk;exact tj (ih _ _))))) λ_=>(by unfold BN JV;exact ti (λ_=>ta ((by unfold Rz Rr;exact ti (λh=>absurd h F4) λ_=>(by unfold Sd Rk;exact tj (ih _ _))))) λ_=>(by unfold Rz Rr;exact ti (λh=>absurd h F4) λ_=>(by unfold Sd Rk;exact tj (ih _ _))))) λ_=>(by unfold KK fO;exact tj (Tq _ _))
theorem Axb(a b:LB)(hP:True):T (YK a b) (λr=>0<=r.2/\r.2<=99/\Aa r.1<=1000/\Dv Gf r.1):=
 tb (Is _ _) λ⟨_,_,_,_,_,_,_,_⟩ _=>ti (λ_=>tj (Tq _ _)) λ_=>tb (Dd _ _ _ _ _) λ⟨_,_⟩ _=>ti (λ_=>tj (Tq _ _)) λ_=>tj (Azd _ _ _ _ _ _ _ _ _ _ As _ _)
theorem Aaa(a g b:Int)(hP:True):T (PK a g b) (λr=>0<=r/\r<=99/\ (r=0->1<=a/\a<=6/\1<=b/\b<=4000)):=
 tf (zq4 a) λ_=>tb (Px _ _) λ_ _=>ti (λ_=>ts) λ_=>ti (λ_=>ts) λ_=>tw (ti (λ_=>ts) λ_=>ts)
theorem MR(a g b:Int)(hP:True):T (FR a g b) (λr=>0<=r.2/\r.2<=99/\Aa r.1<=24000):=
 tf (λ(_:True)=> @zfa b a) λ_=>tb (Aaa _ _ _) λ_ _=>ti (λ_=>ts) λ_=>tk λ_ _=>tw (ts)
theorem Jo(a b f ah:Int)(ai:LI)(ag:LX)(hP:0<=ah/\ah<=99/\Aa ag<=36000000):T (Jf a b f ah ai ag) (λr=>0<=r.2.2.2.2.2/\r.2.2.2.2.2<=99/\Aa r.2.2.2.1<=36000000):=
 ti (λ_=>ts) λ_=>ti (λ_=>ts) λ_=>ts
theorem Eg{N21:Nat}{IA:Int->LI->LX->Ax}(g h:LB)(o:LI)(m k a b f p u n v w y:Int)(aa:LI)(ab ao:Int)(am:LI)(an:LX)(hb:∀(ab:Int) (ad:LI) (ac:LX),0<=ab/\ab<= (Aa o)/\ (Aa o)<ab+N21/\ (Aa o)<=17179869184/\Aa o<=1000/\Aa ad<=ab/\Aa ac<=36000*ab->T (IA ab ad ac) (λr=>0<=r.2.2.2.2.2/\r.2.2.2.2.2<=99/\Aa r.2.2.2.1<=36000000))(hP:0<=ab/\ab<Aa o/\Aa o<ab+(N21+1)/\Aa o<=1000/\Aa am<=ab+1/\Aa an<=36000*(ab+1)/\0<=ao/\ao<=99):T (Qy IA g h o m k a b f p u n v w y aa ab ao am an) (λr=>0<=r.2.2.2.2.2/\r.2.2.2.2.2<=99/\Aa r.2.2.2.1<=36000000):=
 ti (λ_=>tj (Jo _ _ _ _ _ _)) λ_=>(by unfold Mk NP;exact tj (hb _ _ _))
theorem Amz(g h:LB)(o:LI)(m k a b f p u n v w y:Int)(aa:LI):∀(q:Nat) (ab:Int) (ad:LI) (ac:LX),0<=ab/\ab<= (Aa o)/\ (Aa o)<ab+q/\ (Aa o)<=17179869184/\Aa o<=1000/\Aa ad<=ab/\Aa ac<=36000*ab->T (Re g h o m k a b f p u n v w y aa q ab ad ac) (λr=>0<=r.2.2.2.2.2/\r.2.2.2.2.2<=99/\Aa r.2.2.2.1<=36000000):=
 ind (λab ad ac hI=>by exfalso;(try simp only[Aa]at *);omega) λq ih ab ad ac hI=>ti (λ_=>tg λ_=>tg λ_=>tb (Zj _ _ _) λ⟨_,_⟩ _=>ti (λ_=>tb (We _ _) λ⟨_,_⟩ _=>ti (λ_=>tj (Jo _ _ _ _ _ _)) λ_=>ti (λ_=>ta (ti (λ_=>tb (MR _ _ _) λ⟨_,_⟩ _=>ti (λ_=>tj (Eg _ _ _ _ _ _ _ _ _ _ _ _ _ _ _ _ _ _ _ ih)) λ_=>ta (tj (Eg _ _ _ _ _ _ _ _ _ _ _ _ _ _ _ _ _ _ _ ih))) λ_=>ta (tj (Eg _ _ _ _ _ _ _ _ _ _ _ _ _ _ _ _ _ _ _ ih)))) λ_=>ta (tj (Eg _ _ _ _ _ _ _ _ _ _ _ _ _ _ _ _ _ _ _ ih))) λ_=>ti (λ_=>ta (ti (λ_=>tb (MR _ _ _) λ⟨_,_⟩ _=>ti (λ_=>tj (Eg _ _ _ _ _ _ _ _ _ _ _ _ _ _ _ _ _ _ _ ih)) λ_=>ta (tj (Eg _ _ _ _ _ _ _ _ _ _ _ _ _ _ _ _ _ _ _ ih))) λ_=>ta (tj (Eg _ _ _ _ _ _ _ _ _ _ _ _ _ _ _ _ _ _ _ ih)))) λ_=>ta (tj (Eg _ _ _ _ _ _ _ _ _ _ _ _ _ _ _ _ _ _ _ ih))) λ_=>(by unfold MV BZ;exact tj (Jo _ _ _ _ _ _))
theorem aM(g h:LB)(k:Int)(hP:True):T (Qk g h k) (λr=>0<=r.2.2.2.2.2/\r.2.2.2.2.2<=99/\Aa r.2.2.2.1<=36000000):=
 ti (λ_=>ts) λ_=>ti (λ_=>tb (qM _ _) λ⟨_,_,_,_,_⟩ _=>ts) λ_=>tb (Is _ _) λ⟨_,_,_,_,_,_,_,_⟩ _=>ti (λ_=>ts) λ_=>tb (Is _ _) λ⟨_,_,_,_,_,_,_,_⟩ _=>ti (λ_=>tj (Jo _ _ _ _ _ _)) λ_=>tb (Dd _ _ _ _ _) λ⟨_,_⟩ _=>ti (λ_=>tj (Jo _ _ _ _ _ _)) λ_=>tj (Amz _ _ _ _ _ _ _ _ _ _ _ _ _ _ _ As _ _ _)
theorem Am0 (a b f:Int)(g:LX)(hP:True):T (nC a b f g) (λ_=>True):=
 ts
theorem yA(a g f:Int)(h:LX)(b:Int)(hP:1<=a):T (vF a g f h b) (λr=>0<=r/\r<=99):=
 tb (Am0 _ _ _ _) λ⟨_,_⟩ _=>tb (Px _ _) λ_ _=>ti (λ_=>ts) λ_=>tw (ti (λ_=>ts) λ_=>tb (Vp _ _) λ⟨_,_⟩ _=>ti (λ_=>ts) λ_=>ts)
theorem sP(a f h:Int)(b:LX)(hP:True):T (XA a f h b) (λr=>0<=r/\r<=99):=
 ti (λ_=>ts) λ_=>tw (ti (λ_=>ts) λ_=>tw (tb (yA _ _ _ _ _) λ_ _=>ti (λ_=>ts) λ_=>tb (Vi _ _) λ_ _=>ti (λ_=>ts) λ_=>ts))
theorem Aya(b a f:Int)(hP:True):T (MF b a f) (λr=>0<=r/\r<=99/\ (r=0->1<=b/\b<=6)):=
 ti (λ_=>ts) λ_=>ti (λ_=>ti (λ_=>ts) λ_=>ts) λ_=>ti (λ_=>ti (λ_=>ts) λ_=>ts) λ_=>ti (λ_=>ts) λ_=>ts
theorem Aao(a b g:Int)(hP:True):T (QC a b g) (λr=>0<=r.2/\r.2<=99/\ (r.2=0->1<=a/\a<=6)):=
 tb (Aya _ _ _) λ_ _=>ti (λ_=>ts) λ_=>ts
theorem JR(a:Bool)(h:Int)(f:LQ):∀(q:Nat) (g:Int) (b:LB),0<=g/\g<=h/\h<g+q/\h<=17179869184/\h<=9/\Aa f=9/\Aa b<=8*g->T (Th a h f q g b) (λr=>Aa r<=100):=
 ind (λg b hI=>by exfalso;(try simp only[Aa]at *);omega) λq ih g b hI=>ti (λ_=>tg λ_=>tg λ_=>tg λ_=>tb (Pr _ _) λ⟨_,_⟩ _=>ta (tj (ih _ _))) λ_=>ti (λ_=>tc λ_ _=>ta (ts)) λ_=>ts
theorem Acu(m k n:Int)(a:Bool)(o:UInt64)(hP:True):T (QI m k n a o) (λr=>Aa r<=100):=
 ti (λ_=>tg λ_=>te (λ_ _=>(by unfold DL Tp;exact tj (JR _ _ _ As _ _)))) λ_=>(by unfold DL Tp;exact tj (JR _ _ _ As _ _))
theorem Ax5(a b f:Int)(hP:True):T (MG a b f) (λr=>0<=r.2/\r.2<=99/\Aa r.1<=100):=
 tb (Aao _ _ _) λ⟨_,_⟩ _=>ti (λ_=>ts) λ_=>tw (tb (Acu _ _ _ _ _) λ_ _=>ts)
theorem Axo(a:LB):∀(q:Nat) (b:Int),0<=b/\b<= (Aa a)/\ (Aa a)<b+q/\ (Aa a)<=17179869184->T (BD a q b) (λ_=>True):=
 ind (λb hI=>by exfalso;(try simp only[Aa]at *);omega) λq ih b hI=>ti (λ_=>tg λ_=>tg λ_=>ti (λ_=>ts) λ_=>tj (ih _)) λ_=>ts
theorem lL(a:LB)(hP:Aa a<=1000000):T (EV a) (λ_=>True):=
 (by unfold EV LK eD;exact tj (Axo _ As _))
theorem As2(a:List (LB×LB×Unit)):∀(q:Nat) (b:Int) (f:Int),0<=f/\f<= (Aa a)/\ (Aa a)<f+q/\ (Aa a)<=17179869184->T (HI a q b f) (λ_=>True):=
 ind (λb f hI=>by exfalso;(try simp only[Aa]at *);omega) λq ih b f hI=>ti (λ_=>tg λ_=>tj (ih _ _)) λ_=>ts
theorem zB(a:List (LB×LB×Unit))(hP:Aa a<=20):T (CR a) (λ_=>True):=
 (by unfold CR XQ qH;exact tj (As2 _ As _ _))
theorem Aqi(a f:LB)(hP:Aa a<=1000000):T (HN a f) (λ_=>True):=
 tb (lL _) λ_ _=>ts
def Nm(x:LB×LB×Unit):Prop:=Aa x.1<=1000000
theorem Sp(n:Bool):T (Rw n) (λr=>0<=r/\r<=99):=ti (λ_=>ts) λ_=>ts
theorem Axc(a:List (LB×LB×Unit))(hA:Dv Nm a):∀(q:Nat) (f:Int),0<=f/\f<=Aa a/\Aa a<f+q/\Aa a<=20->T (AE a q f) (λr=>0<=r/\r<=99):=
 ind (λf hI=>by exfalso;omega) λq ih f hI=>ti (λ_=>tA (p:=Nm) λx hx=>tb (λ_=>Aqi _ _ hx) λ_ _=>(by unfold LD eS dL eU;exact ti (λ_=>(by unfold AA JU;exact Sp _)) λ_=>tj (ih _))) λ_=>(by unfold KV eA AA JU;exact Sp _)
theorem xu(u:LB)(a:List (LB×LB×Unit))(hP:Aa u<=1000000/\Dv Nm a):T (Rl u a) (λr=>0<=r/\r<=99):=by
  unfold Rl DU;exact ti (λ_=>ts) λ_=>tb (lL _) λ_ _=>ti (λ_=>ti (λ_=>Sp _) λh=>absurd h F4) λ_=>tb (zB _) λ_ _=>ti (λ_=>Sp _) λ_=>tj (Axc _ hP.2 As _)
theorem cT(o id:LB)(n:Int)(hP:Aa o<=100000000/\Aa id<=1000):T (SF o id n) (λr=>Aa r<=Aa o+Aa id+8):=
 tb (Pr _ _) (λ⟨b,_⟩ h=>ta (tap (by have:=h.2.2;unfold Aa at *;rw[C!];simp only at this;omega) (by have:=h.2.2;unfold Aa at *;rw[C!,C!];simp only at this;omega)) F3) trivial
theorem yw(i k j m o:LB)(hP:Aa i<=1000/\Aa j<=1000/\Aa k<=1000000/\Aa m<=1000000/\Aa o<=1000000):T (EU [(i,k,()),(j,m,())] o) (λr=>Aa r<=4000000):=by
  have hz:∀x:Int,0<=Dq x 1/\Dq x 1<=1:=λx=>by
    have e:Dq x (1:Int)=wrap64 ((BitVec.ofInt 64 x&&&BitVec.ofInt 64 1).toNat:Int):=rfl;rw[e,SQ];have:(BitVec.ofInt 64 x).toNat&&& (BitVec.ofInt 64 1).toNat<= (BitVec.ofInt 64 1).toNat:=Nat.and_le_right;have h1:(BitVec.ofInt 64 1).toNat=1:=F4
    rw[Db F3 F3];omega
  have z1:=hz (Aa k);have z2:=hz (Aa m);unfold EU;refine tb (cT _ _ _) (λp hp=>ta (tk (λz hz1=>ta ?_ ?_) ?_) ?_) ?_
  · unfold EU
    refine tb (cT _ _ _) (λp2 hp2=>ta (tk (λz2 hz2=>ta ?_ ?_) ?_) ?_) ?_
    · unfold EU
      refine⟨_,rfl,?_⟩;unfold Aa at *;simp only[C!]at *;omega
    all_goals (unfold Aa at *;simp only[C!]at *;omega)
  all_goals (unfold Aa at *;simp only[C!]at *;omega)
theorem Abv(a i k j m:LB)(hP:Aa a<=1000/\Aa i<=1000/\Aa j<=1000/\Aa k<=1000000/\Aa m<=1000000):T (LG a [(i,k,()),(j,m,())]) (λr=>0<=r.2/\r.2<=99/\Aa r.1<=4000000):=
 tb (λ_=>xu _ _ ⟨F3,λx hx=>by
  rcases List.mem_cons.1 hx with rfl|hx
  · show Aa i<=1000000;omega
  · rw[List.mem_singleton.1 hx];show Aa j<=1000000;omega⟩) (λ_ _=>ti (λ_=>ts) λ_=>tb (zB _) (λ_ _=>tb (cT _ _ _) λ_ _=>ta (tb (yw _ _ _ _ _) λ_ _=>ts)) (show(2:Int)<=20 by decide)) trivial
theorem yB(b a f:Int)(g:LX)(hP:True):T (xW b a f g) (λr=>0<=r.2/\r.2<=99/\Aa r.1<=4000000):=
 tb (sP _ _ _ _) λ_ _=>ti (λ_=>ts) λ_=>tb (Ax5 _ _ _) λ⟨_,_⟩ _=>tb (Qf _ _) λ⟨_,_⟩ _=>tb (Abv _ _ _ _ _) λ⟨_,_⟩ _=>ts
theorem LM(n:Int)(o:LB)(hP:0<=n/\n<=99/\Aa o<=4000000):T (DD n o) (λr=>0<=r.2/\r.2<=99/\Aa r.1<=4000000):=
 ts
theorem Ace(p u:LB)(hP:Aa p<=100000):T (EK p u) (λr=>0<=r.2/\r.2<=99/\Aa r.1<=4000000):=
 tb (TP _ _) λ⟨_,_,_,_,_⟩ _=>(by unfold UQ RW;exact ti (λ_=>tj (LM _ _)) λ_=>tb (yB _ _ _ _) λ⟨_,_⟩ _=>(by unfold UL VW;exact tj (LM _ _)))
end Go.Pl
set_option maxRecDepth 4000
set_option maxHeartbeats 400000
namespace Go.Pl
open Go Go.Lv
def Two(x:LB):Prop:=Aa x=2
theorem H_:∀(l:LB),l.length %2=0->Dv Two (Uj l)/\ (Uj l).length<=l.length
  |[],_=>⟨all_nil,E3 _⟩
  |[a],h=>by simp at h
  |a::b::r,h=>by
    have k:=H_ r (by simp only[C3]at h;omega);rw[Uj];exact⟨λx hx=>(List.mem_cons.1 hx).elim (λe=>e▸rfl) (k.1 x),by have:=k.2;simp only[C3];omega⟩
theorem OB:∀(xs:List LB) (a:LB),Dv Two xs/\Aa a+Aa xs<=1000000->T (Ga xs a) (λr=>Aa r.1<=Aa a+Aa xs)
  |[],a,_=>⟨_,rfl,by unfold Aa;simp⟩
  |b::xs,a,h=>by
    have hb:Aa b=2:=h.1 b (H6 ..);have hx:Dv Two xs:=λx hx=>h.1 x (H! _ hx);have hl:Aa (b::xs)=Aa xs+1:=by unfold Aa;simp
    have ha:0<=Aa a:=by unfold Aa;omega
    have hs:0<=Aa xs:=by unfold Aa;omega
    unfold Ga;refine tg (λh=>tg (λk=>tb (Ug _ _) λ_ _=>tb (Ug _ _) λ_ _=>ti (λ_=>⟨_,rfl,by show(0:Int)<= _;omega⟩) λ_=>ta ?_ (by unfold Aa at *;simp only[I2];omega)) F3) F3;exact tm (OB xs _ ⟨hx,by unfold Aa at *;rw[C!,I2];omega⟩) λy hy=>by
      unfold Aa at *;rw[C!,I2]at hy;omega
theorem Aaz(n:LB)(hP:Aa n<=1000000):T (Im n) (λr=>Aa r.1<=Aa n):=by
  unfold Im;refine ti (λ_=>⟨_,rfl,by show(0:Int)<= _;unfold Aa;omega⟩) λh=>?_;refine ti (λh=>absurd h F4) λ_=>?_;have hm:n.length %2=0:=by
    simp only[Ul,zi,Fk,G7,CB,Decidable.not_not]at h;rw[WJ _ F8]at h;unfold Aa at h;omega
  have k:=H_ n hm;unfold Y2;rw[Option.bind_assoc];refine tw ?_ (G0 F3);rw[C'];obtain⟨y,e,hy⟩:=OB (Uj n) [] ⟨k.1,by unfold Aa at *;simp;omega⟩;exact⟨y,e,by unfold Aa at *;simp at hy;omega⟩
theorem Ani(N:Nat)(a:List LB)(h:Dv (Le N) a):a.flatten.length<=N*a.length:=by
  induction a with
  |nil=>simp
  |cons x l ih=>
    have h1:Aa x<=N:=h x (H6 ..);have h2:=ih λy hy=>h y (H! _ hy);unfold Aa at h1;rw[VB,C!,C3,Nat.mul_add];omega
theorem tu(a b:LB)(h:Aa a+Aa b<=1000000):T (Ce [a,b]) (λr=>Aa r=Aa a+Aa b):=⟨_,Avv a b (by unfold Aa at h;omega),by unfold Aa;simp⟩
theorem Ad5(a:List LB)(hP:Dv (Le 200000) a/\Aa a<=2000):T (Ce a) (λr=>Aa r<=200000*Aa a):=by
  have h1:=Ani 200000 a hP.1;have h2:=hP.2;unfold Aa at h2;exact⟨_,oz a F3 F3,by unfold Aa;omega⟩
theorem RC(s:LB)(hP:Aa s<=100000):T (Hg s) (λr=>r.2=true-> -999999999<=r.1/\r.1<=999999999):=by
  unfold Hg;rw[BA (by unfold Aa at hP;omega)];cases e:Lib.atoiAll s with
  |ok n=>
    have hb:=Lib.atoiAll_bounds e;refine tb (Bv n) (λt _=>⟨_,rfl,λh=>?_⟩) F3;simp only[Yp,DM,zi,B_,E_]at h;exact h.2
  |range=>exact⟨_,rfl,λh=>by cases h⟩
  |_=>exact⟨_,rfl,λh=>by cases h⟩
theorem Aqy(a:List LB):∀(q:Nat) (f:Int) (b:List (UInt8×Int×Unit)),0<=f/\f<= (Aa a)/\ (Aa a)<f+q/\ (Aa a)<=17179869184/\Dv (Wd 100000) a/\Aa a<=100000/\Dv Sr b/\Aa b=f->T (Ta a q f b) (λr=>Dv Sr r.1/\Aa r.1<=100000):=
 ind (λf b hI=>by exfalso;(try simp only[Aa]at *);omega) λq ih f b hI=>ti (λ_=>tA (p:=Wd 100000) λ_ _=>ti (λ_=>tg λ_=>tb (Ug _ _) λ_ _=>tc λ_ _=>tb (RC _) λ⟨_,_⟩ _=>ti (λ_=>ts) λ_=>ta (tj (ih _ _))) λ_=>ta (tj (ih _ _))) λ_=>ts
theorem Abd(a:List LB)(hP:Dv (Wd 100000) a/\Aa a<=100000):T (Ux a) (λr=>Dv Sr r.1/\Aa r.1<=100000):=
 (by unfold Ux DJ TM;exact tj (Aqy _ As _ _))
theorem Af4(a:UInt8)(b:Int)(hP:True):T (YA a b) (λ_=>True):=
 ti (λ_=>ti (λ_=>ts) λ_=>ti (λ_=>ts) λ_=>ts) λ_=>ti (λ_=>ts) λ_=>ti (λ_=>ts) λ_=>ts
theorem Ayv(a:UInt8)(b:Int)(hP:True):T (KD a b) (λ_=>True):=
 tb (Af4 _ _) λ_ _=>ts
theorem Aql{a:List (UInt8×Int×Unit)}(f:Bool)(hP:Aa a<=200):T (UZ f) (λr=>0<=r/\r<=99/\ (r=0->Aa a<=200)):=
 ti (λ_=>ts) λ_=>(by unfold UE RQ;exact ts)
theorem JB{a:List (UInt8×Int×Unit)}(f:Bool)(hP:Aa a<=200):T (CY f) (λr=>0<=r/\r<=99/\ (r=0->Aa a<=200)):=
 tj (Aql _)
theorem As9(a:List (UInt8×Int×Unit)):∀(q:Nat) (b:Int),0<=b/\b<= (Aa a)/\ (Aa a)<b+q/\ (Aa a)<=17179869184/\Aa a<=200->T (Td a q b) (λr=>0<=r/\r<=99/\ (r=0->Aa a<=200)):=
 ind (λb hI=>by exfalso;(try simp only[Aa]at *);omega) λq ih b hI=>ti (λ_=>tg λ_=>tb (Ayv _ _) λ_ _=>(by unfold CQ UP;exact ti (λ_=>tj (JB _)) λ_=>(by unfold VZ SX;exact tj (ih _)))) λ_=>(by unfold DE TF;exact tj (JB _))
theorem Aec(a:List (UInt8×Int×Unit))(hP:True):T (XN a) (λr=>0<=r/\r<=99/\ (r=0->Aa a<=200)):=
 ti (λ_=>ts) λ_=>tj (As9 _ As _)
theorem ZC(f g:LB)(h k m n o:Int)(p:LI)(u:Int)(v:LB)(w:Bool)(y b:Int)(hP:PD f g h k m n o p u v w y):T (Uy f g h k m n o p u v w y b) (λr=>0<=r.2.2.2.2.2.2.2.2.2.2.2.2.2/\r.2.2.2.2.2.2.2.2.2.2.2.2.2<=99/\PD r.1 r.2.1 r.2.2.1 r.2.2.2.1 r.2.2.2.2.1 r.2.2.2.2.2.1 r.2.2.2.2.2.2.1 r.2.2.2.2.2.2.2.1 r.2.2.2.2.2.2.2.2.1 r.2.2.2.2.2.2.2.2.2.1 r.2.2.2.2.2.2.2.2.2.2.1 r.2.2.2.2.2.2.2.2.2.2.2.1/\Aa r.2.2.2.2.2.2.2.2.2.2.2.2.1<=12000000/\Aa r.2.1<=Aa g):=
 tb (FQ _ _ _ _ _ _ _ _ _ _ _ _) λ_ _=>ti (λ_=>ts) λ_=>ti (λ_=>ts) λ_=>tQ (Oa _ _ _ _ _ _ _ _ _ _ _ _) (tc λ_ _=>tQ (Uv _) (tc λ_ _=>ts))
theorem Aq7(b:List (UInt8×Int×Unit)):∀(q:Nat) (ab:Int) (f:LB) (g:Int) (h:Int) (k:Int) (m:Int) (n:Int) (o:Int) (p:LB) (u:Bool) (v:Int) (a:LB) (aa:List (Int×LB×Unit)) (w:LB) (y:LI),0<=ab/\ab<= (Aa b)/\ (Aa b)<ab+q/\ (Aa b)<=17179869184/\PD f w g h k m n y o p u v/\Aa w+Aa a<=100000/\Aa b<=200/\Aa aa<=ab/\Dv St aa/\Dv Sr b->T (Gw b q ab f g h k m n o p u v a aa w y) (λr=>0<=r.2.2.2.2.2.2.2.2.2.2.2.2.2/\r.2.2.2.2.2.2.2.2.2.2.2.2.2<=99/\Aa r.2.2.2.2.2.2.2.2.2.2.2.2.1<=200/\Dv St r.2.2.2.2.2.2.2.2.2.2.2.2.1/\ (r.2.2.2.2.2.2.2.2.2.2.2.2.2=0->Aa b<=200)):=
 ind (λab f g h k m n o p u v a aa w y hI=>by exfalso;(try simp only[Aa]at *);omega) λq ih ab f g h k m n o p u v a aa w y hI=>ti (λ_=>tA (p:=Sr) λ_ _=>ti (λ_=>tc λ_ _=>tb (Zp _ _ _ _ _ _ _ _ _ _ _ _ _) λ⟨_,_,_,_,_,_,_,_,_,_,_,_,_⟩ _=>tc λ_ _=>ta (tj (ih _ _ _ _ _ _ _ _ _ _ _ _ _ _ _))) λ_=>ti (λ_=>tb (ZC _ _ _ _ _ _ _ _ _ _ _ _ _) λ⟨_,_,_,_,_,_,_,_,_,_,_,_,_,_⟩ _=>ta (tj (ih _ _ _ _ _ _ _ _ _ _ _ _ _ _ _))) λ_=>ti (λ_=>tb (Tg _ _ _ _ _ _ _ _ _ _ _ _) λ⟨_,_,_,_,_,_,_,_,_,_,_,_,_⟩ _=>ta (tj (ih _ _ _ _ _ _ _ _ _ _ _ _ _ _ _))) λ_=>tj (ih _ _ _ _ _ _ _ _ _ _ _ _ _ _ _)) λ_=>ts
theorem bJ(fd fe:LB)(b:List (UInt8×Int×Unit))(hP:Dv Sr b/\Aa fe<=100000):T (Uz fd fe b) (λr=>0<=r.2.2.2.2.2.2.2.2.2.2.2.2.2/\r.2.2.2.2.2.2.2.2.2.2.2.2.2<=99/\Aa r.2.2.2.2.2.2.2.2.2.2.2.2.1<=200/\Dv St r.2.2.2.2.2.2.2.2.2.2.2.2.1/\ (r.2.2.2.2.2.2.2.2.2.2.2.2.2=0->Aa b<=200)):=
 tb (Aec _) λ_ _=>ti (λ_=>ts) λ_=>tb (Ut _) λ⟨_,_,_,_,_,_,_,_,_,_,_,_,_⟩ _=>ti (λ_=>ts) λ_=>tj (Aq7 _ As _ _ _ _ _ _ _ _ _ _ _ _ _ _ _)
theorem Tj(g a:LB)(h k m n o:Int)(b:LI)(p:Int)(u:LB)(v:Bool)(w:Int)(hP:PD g a h k m n o b p u v w):T (IM g a h k m n o b p u v w) (λr=>0<=r.2/\r.2<=99/\0<=r.1/\r.1<=200000):=
 tb (FQ _ _ _ _ _ _ _ _ _ _ _ _) λ_ _=>ti (λ_=>ts) λ_=>ts
theorem Az4(a:List (UInt8×Int×Unit)):∀(q:Nat) (h:LB) (b:Int) (f:Int) (g:Int) (k:LB) (m:Int) (n:Int) (o:Int) (p:Int) (u:Int) (v:Int) (w:LB) (y:Bool) (aa:Int) (ab:LB) (ac:LI),0<=g/\g<= (Aa a)/\ (Aa a)<g+q/\ (Aa a)<=17179869184/\PD k ab m n o p u ac v w y aa/\Aa ab+Aa h<=100000/\Aa a<=200/\Dv Sr a/\0<=b/\b<=1000000/\0<=f/\f<=12000000->T (BW a q h b f g k m n o p u v w y aa ab ac) (λr=>0<=r.2.2/\r.2.2<=99/\0<=r.1/\r.1<=1000000/\0<=r.2.1/\r.2.1<=12000000):=
 ind (λh b f g k m n o p u v w y aa ab ac hI=>by exfalso;(try simp only[Aa]at *);omega) λq ih h b f g k m n o p u v w y aa ab ac hI=>ti (λ_=>tA (p:=Sr) λ_ _=>ti (λ_=>tc λ_ _=>tb (Zp _ _ _ _ _ _ _ _ _ _ _ _ _) λ⟨_,_,_,_,_,_,_,_,_,_,_,_,_⟩ _=>tc λ_ _=>tb (Tj _ _ _ _ _ _ _ _ _ _ _ _) λ⟨_,_⟩ _=>ti (λ_=>ts) λ_=>tj (ih _ _ _ _ _ _ _ _ _ _ _ _ _ _ _ _)) λ_=>ti (λ_=>tb (ZC _ _ _ _ _ _ _ _ _ _ _ _ _) λ⟨_,_,_,_,_,_,_,_,_,_,_,_,_,_⟩ _=>tb (Tj _ _ _ _ _ _ _ _ _ _ _ _) λ⟨_,_⟩ _=>ti (λ_=>ts) λ_=>tj (ih _ _ _ _ _ _ _ _ _ _ _ _ _ _ _ _)) λ_=>ti (λ_=>tb (Tg _ _ _ _ _ _ _ _ _ _ _ _) λ⟨_,_,_,_,_,_,_,_,_,_,_,_,_⟩ _=>tb (Tj _ _ _ _ _ _ _ _ _ _ _ _) λ⟨_,_⟩ _=>ti (λ_=>ts) λ_=>tj (ih _ _ _ _ _ _ _ _ _ _ _ _ _ _ _ _)) λ_=>tb (Tj _ _ _ _ _ _ _ _ _ _ _ _) λ⟨_,_⟩ _=>ti (λ_=>ts) λ_=>tj (ih _ _ _ _ _ _ _ _ _ _ _ _ _ _ _ _)) λ_=>ts
theorem Azx(ar au:LB)(a:List (UInt8×Int×Unit))(hP:Dv Sr a/\Aa au<=100000):T (NS ar au a) (λr=>0<=r.2.2/\r.2.2<=99/\0<=r.1/\r.1<=1000000/\0<=r.2.1/\r.2.1<=12000000):=
 tb (bJ _ _ _) λ⟨_,_,_,_,_,_,_,_,_,_,_,_,_,_⟩ _=>ti (λ_=>ts) λ_=>tb (Ut _) λ⟨_,_,_,_,_,_,_,_,_,_,_,_,_⟩ _=>ti (λ_=>ts) λ_=>tj (Az4 _ As _ _ _ _ _ _ _ _ _ _ _ _ _ _ _ _)
theorem xX{p:Prop}(h:p:=by unfold Aa at *;simp only at *;omega):p:=h
end Go.Pl
set_option maxRecDepth 4000
set_option maxHeartbeats 400000
namespace Go.Pl
open Go Go.Lv
variable{w n k x a b v g:Int}{l:LI}
theorem AY(a:LB)(m n o p u f g b:Int)(h:LI)(ae ad y:Int)(hP:0<=ae/\ae<=99):T (Lz a m n o p u f g b h ae ad y) (λr=>0<=r.2.2.2.2.2/\r.2.2.2.2.2<=99):=
 ti (λ_=>ts) λ_=>ti (λ_=>ts) λ_=>ts
theorem Ayg(k:LI)(a:LB)(m n o p u f g b:Int)(h:LI):∀(q:Nat) (w:Int) (v:Int),0<=w/\w<= (Aa k)/\ (Aa k)<w+q/\ (Aa k)<=17179869184/\Aa k<=1000->T (Zc k a m n o p u f g b h q w v) (λr=>0<=r.2.2.2.2.2/\r.2.2.2.2.2<=99):=
 ind (λw v hI=>by exfalso;(try simp only[Aa]at *);omega) λq ih w v hI=>ti (λ_=>tg λ_=>tg λ_=>tj (ih _ _)) λ_=>(by unfold FZ ZQ;exact tj (AY _ _ _ _ _ _ _ _ _ _ _ _ _))
theorem Ab2(a:LB)(hP:True):T (iR a) (λr=>0<=r.2.2.2.2.2/\r.2.2.2.2.2<=99):=
 tb (lX _) λ⟨_,_,_,_,_,_,_,_,_,_,_,_⟩ _=>ti (λ_=>ts) λ_=>ti (λ_=>tj (AY _ _ _ _ _ _ _ _ _ _ _ _ _)) λ_=>tc λ_ _=>tb (AZ _ _) λ⟨_,_⟩ _=>ti (λ_=>tj (AY _ _ _ _ _ _ _ _ _ _ _ _ _)) λ_=>tj (Ayg _ _ _ _ _ _ _ _ _ _ _ As _ _)
theorem Atk(a:Int)(b:LI)(g h k m n o:Int):∀(q:Nat) (p:Int) (f:Int),0<=f/\f<= (Aa b)/\ (Aa b)<f+q/\ (Aa b)<=17179869184/\Aa b<=1000->T (Wi a b g h k m n o q p f) (λr=>0<=r.2.2.2.2/\r.2.2.2.2<=99/\0<=r.1/\r.1<=99/\0<=r.2.2.1/\r.2.2.1<=1000/\ -9223372036854775808<=r.2.2.2.1/\r.2.2.2.1<=9223372036854775807):=
 ind (λp f hI=>by exfalso;(try simp only[Aa]at *);omega) λq ih p f hI=>ti (λ_=>tg λ_=>tg λ_=>ti (λ_=>tb (mF _ _ _ _ _ _) λ⟨_,_⟩ _=>ts) λ_=>tj (ih _ _)) λ_=>ts
theorem Adc(u w:LB)(a:Int)(hP:True):T (Mi u w a) (λr=>0<=r.2.2.2.2/\r.2.2.2.2<=99/\0<=r.1/\r.1<=99/\0<=r.2.2.1/\r.2.2.1<=1000/\ -9223372036854775808<=r.2.2.2.1/\r.2.2.2.1<=9223372036854775807):=
 tb (lY _ _) λ_ _=>ti (λ_=>ts) λ_=>ti (λ_=>ts) λ_=>tb (Ab2 _) λ⟨_,_,_,_,_,_⟩ _=>ti (λ_=>ts) λ_=>tb (Is _ _) λ⟨_,_,_,_,_,_,_,_⟩ _=>ti (λ_=>ts) λ_=>ti (λ_=>ts) λ_=>ti (λ_=>ts) λ_=>ti (λ_=>ts) λ_=>ti (λ_=>ts) λ_=>tj (Atk _ _ _ _ _ _ _ _ As _ _)
theorem Avz(hk:Ae l n=some k)(hx:Ae l (Af w 1)=some x)(h0:0<=w/\w<=1000000):w+1=n->x=k:=λe=>by
  rw[Ie,e,hk]at hx;exact(G1 hx).symm
theorem Avy{y z m:Int}(hx:Ae l y=some x)(e:Ae l w=some z)(_:True):w=y->Ch z m=Ch x m:=λh=>by
  rw[h,hx]at e;rw[G1 e]
theorem Zx{N:Nat}{YZ:Int->LB->Be}(a:LB)(f:LI)(b k n m h o p:Int)(u:LX)(v g:LI)(y x:Int)(hb:∀(w:Int) (aa:LB),Aa f<=1000/\Aa a<=100000/\0<=b/\b<=110000/\Aa u=16/\Aa g=Aa f+1/\0<=w/\w<=Aa f/\Aa f<w+N/\Aa aa<=12000*w/\ (w=Aa f->0<=k/\b+k<=Aa a)/\y<=w/\y<Aa f/\ (w=y/\Aa aa=0\/BX m h x (Aa aa))->T (YZ w aa) (λr=>0<=r.2/\r.2<=99/\Aa r.1<=12000000/\ (r.2=0->BX m h x (Aa r.1))))(w:Int)(aa:LB)(ai:Int)(ar:LB)(hP:0<=ai/\ai<=99/\Aa f<=1000/\Aa a<=100000/\0<=b/\b<=110000/\Aa u=16/\Aa g=Aa f+1/\0<=w/\w<Aa f/\Aa f<w+(N+1)/\Aa aa<=12000*w/\Aa ar<=12000/\y<=w/\ (ai=0->w+1=Aa f->0<=k/\b+k<=Aa a)/\ (ai=0->BX m h x (Aa aa+Aa ar))):T (FT YZ a f b k n m h o p u v g w aa ai ar) (λr=>0<=r.2/\r.2<=99/\Aa r.1<=12000000/\ (r.2=0->BX m h x (Aa r.1))):=
 ti (λ_=>ts) λ_=>ta (tj (hb _ _))
theorem Auv(a:LB)(f:LI)(b k n m h o p:Int)(u:LX)(v g:LI)(y x:Int)(hM:Mon g)(hk:Ae g (Aa f)=some k)(hx:Ae f y=some x):∀(q:Nat) (w:Int) (aa:LB),Aa f<=1000/\Aa a<=100000/\0<=b/\b<=110000/\Aa u=16/\Aa g=Aa f+1/\0<=w/\w<=Aa f/\Aa f<w+q/\Aa aa<=12000*w/\ (w=Aa f->0<=k/\b+k<=Aa a)/\y<=w/\y<Aa f/\ (w=y/\Aa aa=0\/BX m h x (Aa aa))->T (Vw a f b k n m h o p u v g q w aa) (λr=>0<=r.2/\r.2<=99/\Aa r.1<=12000000/\ (r.2=0->BX m h x (Aa r.1))):=
 ind (λw aa hI=>by exfalso;(try simp only[Aa]at *);omega) λq ih w aa hI=>ti (λ_=>tg λ_=>tg λ_=>tE λ_ e3=>tE λ_ e4=>tf (λh0=>And.intro (qd hM h0 e3 e4) (Avz hk e4 h0)) λ_=>(by unfold FP aF;exact ti (λ_=>tj (λhP=>Zx _ _ _ _ _ _ _ _ _ _ _ _ _ _ ih _ _ _ _ hP)) λ_=>tg λ_=>tc λ_ _=>tE λ_ e5=>tf (Avy (m:=m) hx e5) λ_=>tb (Oc _ _ _ _ _) λ⟨_,_⟩ _=>(by unfold ZV ZT;exact ti (λ_=>tj (λhP=>Zx _ _ _ _ _ _ _ _ _ _ _ _ _ _ ih _ _ _ _ hP)) λ_=>tb (Qf _ _) λ⟨_,_⟩ _=>tj (λhP=>Zx _ _ _ _ _ _ _ _ _ _ _ _ _ _ ih _ _ _ _ hP)))) λ_=>(by unfold GG ZB;exact tc λ_ _=>tb (LC _) λ⟨_,_⟩ _=>ti (λ_=>ts) λ_=>ts)
theorem Atb(a:LB)(y:Int)(f:LI)(b k n m h o p:Int)(u:LX)(v g:LI)(hM:Mon g)(hk:Ae g (Aa f)=some k)(hP:Aa f<=1000/\Aa a<=100000/\0<=b/\b<=110000/\Aa u=16/\Aa g=Aa f+1):T (FY a y f b k n m h o p u v g) (λr=>0<=r.2/\r.2<=99/\Aa r.1<=12000000/\ (r.2=0->∃x,Ae f y=some x/\BX m h x (Aa r.1))):=by
  unfold FY GD;refine ti (λh=>absurd h F4) λ_=>ti (λ_=>⟨_,rfl,F4,F4,F4,λh=>absurd h F4⟩) λh1=>?_;simp only[Ph,Yp,zi,C8,G7]at h1;have hy:y.toNat<f.length:=by unfold Aa at h1;omega
  have hx:Ae f y=some f[y.toNat]:=by unfold Ae;rw[BA F3,E7 hy]
  refine tm (Auv a f b k n m h o p u v g y _ hM hk hx As y [] ⟨hP.1,hP.2.1,hP.2.2.1,hP.2.2.2.1,hP.2.2.2.2.1,hP.2.2.2.2.2,F3,F3,by have:=Dc;omega,by unfold Aa at *;simp only[C2];omega,F3,F3,F3, .inl ⟨rfl,rfl⟩⟩) λr hr=>⟨hr.1,hr.2.1,hr.2.2.1,λh0=>⟨_,hx,hr.2.2.2 h0⟩⟩
theorem Aub(a:LB)(y ah:Int)(hP:0<=ah/\ah<=99):T (GA a y ah) (λr=>1<=r.2/\r.2<=99/\Aa r.1<=12000000):=ti (λ_=>ts) λ_=>ti (λ_=>ts) λh=>by
  exfalso;simp only[Ph,Yp,zi,C8,G7]at h;omega
theorem mH(a aj:LB)(y:Int)(hP:True):T (Xp a aj y) (λr=>0<=r.2/\r.2<=99/\Aa r.1<=12000000/\ (r.2=0->∃n m h o p b v f x,Gp a aj=some (n,m,h,o,p,b,v,0)/\Bn n m h o p=some (f,0)/\Ae f y=some x/\BX m h x (Aa r.1))):=by
  have hE:∀ah,0<=ah/\ah<=99->T (GA a y ah) (λr=>0<=r.2/\r.2<=99/\Aa r.1<=12000000/\ (r.2=0->∃n m h o p b v f x,Gp a aj=some (n,m,h,o,p,b,v,0)/\Bn n m h o p=some (f,0)/\Ae f y=some x/\BX m h x (Aa r.1))):=λah hh=>tm (Aub a y ah hh) λr hr=>⟨F3,hr.2.1,hr.2.2,λh0=>by omega⟩;have hz:∀{x:Int},Bb x 0=false->x=0:=λh=>by simp only[Ul,zi,G7,CB,Decidable.not_not]at h;exact h
  obtain⟨⟨n,m,h,o,p,b,v,ak⟩,e1,h1⟩:=Is a aj trivial;unfold Xp JA;refine tQ (λ_:True=>e1) ?_ trivial;refine ti (λ_=>hE ak ⟨h1.1,h1.2.1⟩) λk1=>?_;obtain⟨⟨f,al⟩,e2,h2⟩:=Dd n m h o p trivial;refine tQ (λ_:True=>e2) ?_ trivial;refine ti (λ_=>hE al ⟨h2.2.1,h2.2.2.1⟩) λk2=>tb (aK _) (λ⟨g,am⟩ h3=>ti (λ_=>hE am ⟨h3.1,h3.2.1⟩) λk3=>tb (Sa _) (λ⟨u,an⟩ h4=>ti (λ_=>hE an ⟨h4.1,h4.2.1⟩) λ_=>?_) trivial) trivial;obtain⟨g1,g2⟩:=h3.2.2 (hz k3);have o1:=h1.2.2 (hz k1);have hcc:Aa f<=1000/\Aa a<=100000/\0<=b/\b<=110000/\Aa u=16/\Aa g=Aa f+1:=by simp only at *;omega
  refine tg (λ_=>tE (λk e=>tm (Atb a y f b k n m h o p u v g g2 e hcc) λr hr=>⟨hr.1,hr.2.1,hr.2.2.1,λh0=>?_⟩) xX) xX;obtain⟨x,hx,hb⟩:=hr.2.2.2 h0;exact⟨n,m,h,o,p,b,v,f,x,by rw[e1,show ak=0 from hz k1],by rw[e2,show al=0 from hz k2],hx,hb⟩
theorem Bab{f:Int}(e:Kg a b=some (f,0))(ev:Jp a=some (v,0))(k:1<=f/\f<=1000/\1<=b/\b<=4000/\1<=v/\v<=1100000/\ (f-1)*v<b/\b<=f*v):∃m:Nat,f-1=m/\Oh a b=some (List.replicate m v++[b-m*v],0):=by
  obtain⟨k1,k2,k3,k4,v1,v2,w1,w2⟩:=k;have hm:0<= (f-1)*v:=mW F3 F3;obtain⟨m,hm'⟩:∃m:Nat,f-1=(m:Int):=⟨(f-1).toNat,F3⟩;refine⟨m,hm',?_⟩;unfold Oh;rw[e,C'];simp only;rw[C1 F4,ev,C'];simp only;rw[AR,xC,AR,hm',v_ _ _ F3,C'];unfold AI;rw[o_ _ _ F5];rfl
theorem Ac5(f g a:Int)(hP:True):T (ED f g a) (λr=>0<=r.2.2/\r.2.2<=99/\ (r.2.2=0->∃(m:Nat) (v:Int),Oh f g=some (List.replicate m v++[g-m*v],0)/\1<=v/\m<=1000/\1<=g/\g<=4000/\m*v<g/\g<= (m+1)*v/\0<=a/\a<g/\r.1=a/v/\r.2.1=a %v)):=by
  obtain⟨⟨k,h⟩,e,h1⟩:=Vp f g trivial;unfold ED;rw[e,C'];refine ti (λhh=>⟨_,rfl,h1.1,h1.2.1,λh0=>by simp only[Ul,zi,E_]at hh;exact absurd h0 hh⟩) λhh=>ti (λ_=>⟨_,rfl,F4,F4,λh=>absurd h F4⟩) λha=>?_;have hz:h=0:=by simp only[Ul,zi,G7,CB,Decidable.not_not]at hh;exact hh
  obtain⟨k1,k2,k3,k4,v,ev,v1,v2,w1,w2⟩:=h1.2.2 hz;subst hz;simp only[Ph,Yp,zi,C8,G7]at ha k1 k2 k3 k4 w1 w2;obtain⟨m,hm,hA⟩:=Bab e ev ⟨k1,k2,k3,k4,v1,v2,w1,w2⟩;rw[hm]at w1;rw[show k=m+1 by omega]at w2;rw[ev,C'];refine tw (tw ⟨_,rfl,H3 _,(show(0:Int)<=99 by decide),λ_=>⟨m,v,hA,v1,F3,k3,k4,w1,w2,F3,F3,?_,?_⟩⟩ ?_) ?_
  · show Ep a v=a/v
    have h2:=QJ (show 0<=a by omega) (show 0<=v by omega);have h3:=SO (b:=v) (show 0<=a by omega);rw[Gu,lH _ F3,Db F3 F3]
  · show Jb a v=a %v
    rw[Fk,WJ _ F3]
  all_goals (rw[Ul];exact G0 (by show v≠0;omega))
theorem Ai1{h:Int}{f:LI}(e:Bn g h k a b=some (f,0)):Oh a b=some (f,0):=by
  unfold Bn at e;obtain⟨m,_,e⟩:=Option.bind_eq_some_iff.1 e;split at e
  · rename_i hm
    obtain⟨_,h2⟩:=Prod.mk.inj (G1 e);rw[h2]at hm;exact absurd hm F4
  · obtain⟨⟨f',n⟩,e1,e2⟩:=Option.bind_eq_some_iff.1 e
    obtain⟨rfl,rfl⟩:=Prod.mk.inj (G1 e2);exact e1
theorem Akz{m:Nat}(h:1<=v/\0<=a/\a<g/\g<=4000/\m*v<g/\g<= (m+1)*v)(e:Ae (List.replicate m v++[g-m*v]) (a/v)=some x):0<=a %v/\a %v<x/\x<=4000:=by
  obtain⟨h1,h2,h3,h6,h4,h5⟩:=h;have q1:=QO a (show v≠0 by omega);have q2:=QY a (show 0<v by omega);have q3:=Int.emod_add_mul_ediv a v;have q4:=QJ h2 (show 0<=v by omega);obtain⟨n,hn⟩:∃n:Nat,a/v=n:=⟨(a/v).toNat,F3⟩;unfold Ae at e;rw[hn]at e q3;rw[BA F3,H']at e;by_cases hm:n<m
  · rw[F? (by simpa using hm),List.getElem?_replicate,BA hm]at e
    obtain rfl:=G1 e;have:=xT (show(1:Int)<=m by omega) (show 0<=v by omega);omega
  · rw[H0 (by simpa using hm),C_]at e
    have hl:n-m=0:=by
      by_cases hz:n-m=0
      · exact hz
      · rw[J5 kT]at e;cases e
    rw[hl]at e;obtain rfl:=G1 (show some (g-m*v)=some x from e);have:n=m:=F3
    subst this;rw[SL v]at q3;have:0<= (n:Int)*v:=mW F3 F3;omega
theorem At5{o p:Int}(h:0<=w/\w<x/\x<=4000/\1<=o/\o<=6)(hb:BX o p x n):0<=Ep (Ch (Ch w o) p) 8/\Ep (Ch (Ch w o) p) 8<=n:=by
  have ho:o=1\/o=2\/o=3\/o=4\/o=5\/o=6:=F3
  unfold BX at hb;rw[xC (a:=x) (by rcases ho with rfl|rfl|rfl|rfl|rfl|rfl<;>omega) (by rcases ho with rfl|rfl|rfl|rfl|rfl|rfl<;>omega)]at hb;have hw:0<=w*o/\w*o<=24000/\w*o<=x*o:=by rcases ho with rfl|rfl|rfl|rfl|rfl|rfl<;>omega
  rw[xC (a:=w) (b:=o) F3 F3];generalize w*o=z at*
  generalize x*o=z2 at*
  have key:∀c:Int,0<=c/\c<=3->p=8*c->c*z2<=n->0<=c*z/\c*z<=c*z2->0<=Ep (Ch z p) 8/\Ep (Ch z p) 8<=n:=λc hc e h1 h2=>by
    have e2:z*p=8*(c*z):=by rw[e,SL z,Int.mul_assoc]
    have h3:c*z<=72000:=by
      have:c=0\/c=1\/c=2\/c=3:=F3
      rcases this with rfl|rfl|rfl|rfl<;>omega
    rw[xC,Gu,lH _ F3,Db F3 F3];omega
  rcases hb with⟨rfl,hb⟩|⟨rfl,hb⟩|⟨rfl,hb⟩
  · exact key 1 F4 rfl F3 F3
  · exact key 2 F4 rfl F3 F3
  · exact key 3 F4 rfl F3 F3
theorem yK(f g:LB)(b:Int)(hP:True):T (WC f g b) (λr=>0<=r.2/\r.2<=99/\Aa r.1<=12000000):=by
  have hz:∀{x:Int},Bb x 0=false->x=0:=λh=>by simp only[Ul,zi,G7,CB,Decidable.not_not]at h;exact h
  obtain⟨⟨aa,o,p,u,h,ab,ac,k⟩,e,h1⟩:=Is f g trivial;unfold WC;rw[e,C'];refine ti (λ_=>ts) λhk=>ti (λ_=>ts) λhb=>?_;obtain⟨⟨v,w,m⟩,e2,h2⟩:=Ac5 u h b trivial;rw[e2,C'];refine ti (λ_=>ts) λhm=>?_;obtain⟨⟨a,n⟩,e3,h3⟩:=mH f g v trivial;rw[e3,C'];refine ti (λ_=>ts) λhn=>?_;obtain⟨n',m',h',o',p',b',v',f',x,q1,q2,q3,q4⟩:=h3.2.2.2 (hz hn);rw[e]at q1;simp only[E6,I1]at q1;obtain⟨rfl,rfl,rfl,rfl,rfl,_⟩:=q1;obtain⟨mm,L,r1,r2,r3,r4,r5,r6,r7,r8,r9,r10,r11⟩:=h2.2.2 (hz hm);rw[Ai1 q2]at r1;obtain⟨rfl,_⟩:=Prod.mk.inj (G1 r1);rw[show v=b/L from r10]at q3;have k1:=Akz ⟨r2,r8,r9,r5,r6,r7⟩ q3;rw[<-show w=b %L from r11]at k1;have o1:=h1.2.2 (hz hk);have k2:=At5 ⟨k1.1,k1.2.1,k1.2.2,o1.2.2.1,o1.2.2.2.1⟩ q4;exact tw (tc (λ_ _=>ts) ⟨k2.1,k2.2,H3 _⟩) (G0 ⟨H3 _,H3 _⟩)
theorem Aaf(f:LB)(a:Int)(g:UInt8)(hP:Aa f<=100000):T (dX f a g) (λr=>0<=r.2/\r.2<=99/\Aa r.1<=100000):=
 ti (λ_=>ts) λ_=>tQ (Uv _) (tg λ_=>tg λ_=>tg λ_=>te (λ_ _=>ts))
theorem Asu(a:Int)(g:UInt32):∀(q:Nat) (b:Int) (h:Bool) (f:LB),0<=b/\b<=32/\32<b+q/\0<=a/\a<=800000/\Aa f<=100000->T (Vr a g q b h f) (λr=>0<=r.2/\r.2<=99/\Aa r.1<=100000):=
 ind (λb h f hI=>by exfalso;(try simp only[Aa]at *);omega) λq ih b h f hI=>ti (λ_=>tw (ti (λ_=>ti (λ_=>tg λ_=>tw (tg λ_=>tg λ_=>te (λ_ _=>tj (ih _ _ _)))) λ_=>tj (ih _ _ _)) λ_=>tj (ih _ _ _))) λ_=>ti (λ_=>ts) λ_=>ts
theorem Ax6(k:LB)(a:Int)(g:UInt32)(hP:Aa k<=100000):T (HP k a g) (λr=>0<=r.2/\r.2<=99/\Aa r.1<=100000):=
 ti (λ_=>ts) λ_=>tQ (Uv _) (tj (Asu _ _ As _ _ _))
theorem Aro(a:LI):∀(q:Nat) (b:LB) (f:Int) (g:LB) (h:Int) (k:Int) (m:Int) (n:Int) (o:Int) (p:Int) (u:LB) (v:Bool) (w:Int) (y:LB) (aa:LI),0<=f/\f<= (Aa a)/\ (Aa a)<f+q/\ (Aa a)<=17179869184/\PD g y h k m n o aa p u v w/\Aa y+Aa b<=100000/\Dv Nn a/\sm a f=Aa b/\Aa a<=100->T (Tu a q b f g h k m n o p u v w y aa) (λr=>0<=r.2/\r.2<=99/\Aa r.1<=12000000):=
 ind (λb f g h k m n o p u v w y aa hI=>by exfalso;(try simp only[Aa]at *);omega) λq ih b f g h k m n o p u v w y aa hI=>ti (λ_=>tE λ_ e=>tf (Arl e) λ_=>tc λ_ _=>tb (Zp _ _ _ _ _ _ _ _ _ _ _ _ _) λ⟨_,_,_,_,_,_,_,_,_,_,_,_,_⟩ _=>ti (λ_=>ts) λ_=>tc λ_ _=>tj (ih _ _ _ _ _ _ _ _ _ _ _ _ _ _)) λ_=>tb (Tg _ _ _ _ _ _ _ _ _ _ _ _) λ⟨_,_,_,_,_,_,_,_,_,_,_,_,_⟩ _=>ts
theorem bN(av aw:LB)(a:LI)(hP:Aa aw<=100000/\Dv Nn a/\sm a 0=Aa aw/\Aa a<=100):T (DT av aw a) (λr=>0<=r.2/\r.2<=99/\Aa r.1<=12000000):=
 tb (Ut _) λ⟨_,_,_,_,_,_,_,_,_,_,_,_,_⟩ _=>ti (λ_=>ts) λ_=>tj (Aro _ As _ _ _ _ _ _ _ _ _ _ _ _ _ _)
theorem Aut{N12:Nat}{Od:Int->Int->Cv}(g b:LB)(f a:Int)(h:LB)(k n m:Int)(hb:∀(n:Int) (m:Int),0<=m/\m<= (Fc (1:Int) (GI.toZ a).toNat)/\ (Fc (1:Int) (GI.toZ a).toNat)<m+N12/\ (Fc (1:Int) (GI.toZ a).toNat)<=17179869184/\Aa b<=100000/\0<=a/\a<=8/\0<=f/\f+a<=Aa b/\0<=n/\n<=m/\0<=k/\k<=99/\Fc (1:Int) (GI.toZ a).toNat<=256->T (Od n m) (λr=>0<=r.2/\r.2<=99/\0<=r.1/\r.1<=256)):∀(q:Nat) (p:Int) (o:Int) (u:LI),0<=o/\o<=a/\a<o+q/\a<=17179869184/\Aa b<=100000/\0<=a/\a<=8/\0<=f/\f+a<=Aa b/\0<=n/\n<=m/\0<=k/\k<=99/\Fc (1:Int) (GI.toZ a).toNat<=256/\0<=p/\p<=f+o/\Aa u<=o/\Dv Nn u/\sm u 0=p/\0<=m/\m<= (Fc (1:Int) (GI.toZ a).toNat)/\ (Fc (1:Int) (GI.toZ a).toNat)<m+(N12+1)/\ (Fc (1:Int) (GI.toZ a).toNat)<=17179869184/\Aa b<=100000/\0<=a/\a<=8/\0<=f/\f+a<=Aa b/\0<=n/\n<=m/\0<=k/\k<=99/\Fc (1:Int) (GI.toZ a).toNat<=256/\m<(Fc (1:Int) (GI.toZ a).toNat)->T (Vq Od g b f a h k n m q p o u) (λr=>0<=r.2/\r.2<=99/\0<=r.1/\r.1<=256):=
 ind (λp o u hI=>by exfalso;(try simp only[Aa]at *);omega) λq ih p o u hI=>ti (λ_=>tw (ti (λ_=>ta (tj (ih _ _ _))) λ_=>tj (ih _ _ _))) λ_=>ta (tb (bN _ _ _) λ⟨_,_⟩ _=>ti (λ_=>tj (hb _ _)) λ_=>tb (Jz _ _) λ_ _=>ti (λ_=>tj (hb _ _)) λ_=>tj (hb _ _))
theorem Atv(g b:LB)(f a:Int)(h:LB)(k:Int):∀(q:Nat) (n:Int) (m:Int),0<=m/\m<= (Fc (1:Int) (GI.toZ a).toNat)/\ (Fc (1:Int) (GI.toZ a).toNat)<m+q/\ (Fc (1:Int) (GI.toZ a).toNat)<=17179869184/\Aa b<=100000/\0<=a/\a<=8/\0<=f/\f+a<=Aa b/\0<=n/\n<=m/\0<=k/\k<=99/\Fc (1:Int) (GI.toZ a).toNat<=256->T (Wj g b f a h k q n m) (λr=>0<=r.2/\r.2<=99/\0<=r.1/\r.1<=256):=
 ind (λn m hI=>by exfalso;(try simp only[Aa]at *);omega) λq ih n m hI=>ti (λ_=>tj (Aut _ _ _ _ _ _ _ _ ih As _ _ _)) λ_=>ts
theorem Axr(g b:LB)(f a:Int)(hP:True):T (OW g b f a) (λr=>0<=r.2/\r.2<=99/\0<=r.1/\r.1<=256):=
 tf (zp8 a) λ_=>ti (λ_=>ts) λ_=>tb (Ut _) λ⟨_,_,_,_,_,_,_,_,_,_,_,_,_⟩ _=>ti (λ_=>ts) λ_=>ti (λ_=>ts) λ_=>tb (bN _ _ _) λ⟨_,_⟩ _=>tw (tj (Atv _ _ _ _ _ _ As _ _))
end Go.Pl
set_option maxRecDepth 4000
set_option maxHeartbeats 400000
namespace Go.Pl
open Go Go.Lv
variable{y w:Int}
theorem aZ(a b f:Int)(g:LB)(hP:True):T (EF a b f g) (λr=>r.2=true->1<=r.1/\r.1<=1100000/\1<=a/\a<=6/\8<=b/\b<=24/\b %8=0):=
 tb (JZ _) λ⟨_,_⟩ _=>tb (Px _ _) λ_ _=>ts
theorem Ayc(a b f:Int)(g:LB)(hP:True):T (fU a b f g) (λr=>0<=r.2.2.2.2.2.2.2.2.2.2/\r.2.2.2.2.2.2.2.2.2.2<=99/\PE r.2.2.2.2.1 r.2.2.2.2.2.1 r.2.2.2.2.2.2.1 r.2.2.2.2.2.2.2.1 r.2.2.2.2.2.2.2.2.2.1):=
 tb (aZ _ _ _ _) λ⟨_,_⟩ _=>ti (λ_=>ts) λ_=>ts
theorem UA(a b:Int)(hP:1<=a/\a<=6/\8<=b/\b<=24):T (Zm a b) (λr=>1<=r/\r<=18):=by
  refine⟨_,rfl,?_⟩;have:a=1\/a=2\/a=3\/a=4\/a=5\/a=6:=F3
  rw[Hn];rcases this with rfl|rfl|rfl|rfl|rfl|rfl<;>rw[Db F3 F3,Gu,lH _ F3,Db F3 F3]<;>omega
theorem Wb(a h k:Int)(m n:LB)(b:LX)(f:List LB)(o:LB)(p:Bool)(u g:Int)(hP:1<=a):T (Ur a h k m n b f o p u g) (λ_=>True):=
 tw (ts)
theorem IQ(a g h:Int)(k m:LB)(n:LX)(o:List LB)(p:LB)(u:Bool)(v b f:Int)(hP:True):T (HX a g h k m n o p u v b f) (λ_=>True):=
 ts
theorem CL{g:LX}{m:LB}(b:List LB)(f a:Int):∀(q:Nat) (h:Int),0<=h/\h<= (Aa b)/\ (Aa b)<h+q/\ (Aa b)<=17179869184/\Aa g<=4000/\Aa b<=1000/\Aa m<=18->T (My b f a q h) (λr=>r=true->Aa g<=4000/\Aa b<=1000/\Aa m<=18):=
 ind (λh hI=>by exfalso;(try simp only[Aa]at *);omega) λq ih h hI=>ti (λ_=>tg λ_=>ti (λ_=>ts) λ_=>tj (ih _)) λ_=>ts
theorem Al4(f a k o:Int)(p m:LB)(g:LX)(b:List LB)(n:LB)(u:Bool)(v:Int)(hP:1<=a/\Aa b<=1000/\Aa m<=18):T (Uc f a k o p m g b n u v) (λr=>r=true->Aa g<=4000/\Aa b<=1000/\Aa m<=18):=
 tb (Vi _ _) λ_ _=>ti (λ_=>ts) λ_=>ti (λ_=>tb (Wb _ _ _ _ _ _ _ _ _ _ _) λ_ _=>tb (IQ _ _ _ _ _ _ _ _ _ _ _ _) λ_ _=>ti (λ_=>ts) λ_=>tj (CL _ _ _ As _)) λ_=>tb (Wb _ _ _ _ _ _ _ _ _ _ _) λ_ _=>tb (IQ _ _ _ _ _ _ _ _ _ _ _ _) λ_ _=>ti (λ_=>ts) λ_=>tj (CL _ _ _ As _)
theorem Au5(a k o:Int)(p m:LB)(g:LX)(b:List LB)(n:LB)(u:Bool)(v f:Int)(hP:1<=a/\a<=6/\8<=k/\k<=24):T (Wa a k o p m g b n u v f) (λr=>r=true->Aa g<=4000/\Aa b<=1000/\Aa m<=18):=by
  unfold Wa Wo;simp only[Bool.true_or,↓reduceIte];exact ti (λ_=>ts) λ_=>tb (UA _ _) λ_ _=>ti (λ_=>ts) λ_=>tw (ti (λ_=>ts) λ_=>tw (ti (λ_=>ts) λ_=>tj (Al4 _ _ _ _ _ _ _ _ _ _ _)))
theorem Aay(m n o:Int)(p b:LB)(f:LX)(g:List LB)(h:LB)(k:Bool)(a:Int)(hP:PE b f g h a):T (PR m n o p b f g h k a) (λr=>0<=r/\r<=99/\ (r=0->1<=m/\m<=6/\8<=n/\n<=24/\n %8=0/\ (a=0->k=false->Aa f<=4000/\Aa g<=1000/\Aa b<=18))):=
 tb (aZ _ _ _ _) λ⟨_,_⟩ _=>ti (λ_=>ts) λ_=>ti (λ_=>ti (λ_=>ts) λ_=>ts) λ_=>ti (λ_=>ti (λ_=>ts) λ_=>ts) λ_=>tb (Au5 _ _ _ _ _ _ _ _ _ _ _) λ_ _=>ti (λ_=>ts) λ_=>ts
theorem Y? (a:LB)(h:Aa a<=17179869184):Bk a=some a:=by
  unfold Bk Ay pN;unfold Aa at h;rw[BA F5];rfl
theorem Ag7(a:LX)(h:Aa a<=17179869184):Ci a=some a:=by
  unfold Ci Ay pN;unfold Aa at h;rw[BA F5];rfl
theorem Avp(w a:List LB)(b f g:Int)(h:LB)(k:Bool)(m:Int)(n:LB)(o:LX)(p:LB)(hw:w.length=a.length)(hA:Dv (Le 200000) a):∀(q:Nat) (v:Int),0<=v/\v<=Aa a/\Aa a<v+q/\Aa a<=200000->Py w a b f g h k m n o p q v a=some (b,f,g,h,n,o,a,p,k,m):=
 ind (λv hI=>by exfalso;omega) λq ih v hI=>by
  have e:Cr w a=a:=by unfold Cr;rw[hw,K9,Q7 F3,G5]
  rw[Py,GF,e];by_cases h1:v<Aa a
  · have hv:v.toNat<a.length:=by unfold Aa at h1;omega
    have g1:Ae a v=some a[v.toNat]:=by unfold Ae;rw[BA hI.1,E7 hv]
    have g2:Aa a[v.toNat]<=200000:=hA _ (L! _);have s1:Mh a v a[v.toNat]=some a:=by
      unfold Mh;rw[BA (by unfold Aa at h1;omega),List.set_getElem_self]
    rw[BA (by rw[Ph];exact G0 h1),g1,C',C',Y? _ F3,C',C',s1,C',Ie];exact ih _ ⟨F3,F3,F3,F3⟩
  · rw[C1 (by rw[Ph];simp only[zi,E_];exact h1)]
    rfl
theorem KG(b f g:Int)(h ac:LB)(ad:LX)(a:List LB)(ae:LB)(k:Bool)(m:Int)(hP:PE ac ad a ae m):HU b f g h ac ad a ae k m=some (b,f,g,h,ac,ad,a,ae,k,m):=by
  obtain⟨h1,h2,h3,h4,h5,h6,h7⟩:=hP;have h0:0<=Aa a:=by unfold Aa;omega
  unfold HU FI;rw[Y? _ F3,C',Ag7 _ F3,C',Y? _ F3,C'];unfold aT FV mkI pN;rw[BA F3,C',show Es (geq (Aa a) (Aa a))=some () by unfold Es;rw[BA (by rw[BP];simp)],C'];have hw:(List.replicate (Aa a).toNat ([]:LB)).length=a.length:=by unfold Aa;simp
  have e:Cr (List.replicate (Aa a).toNat ([]:LB)) a=a:=by unfold Cr;rw[hw,K9,Q7 F3,G5]
  rw[e];exact Avp _ _ _ _ _ _ _ _ _ _ _ hw h4 As 0 ⟨H3 _,h0,by have:=Dc;omega,F3⟩
theorem ZU(g h b:Int)(k m:LB)(n:LX)(o:List LB)(p:LB)(f:Bool)(a:Int)(hP:PE m n o p a):T (EI g h b k m n o p f a) (λr=>0<=r.2.2.2.2.2.2.2.2.2.2.2/\r.2.2.2.2.2.2.2.2.2.2.2<=99/\PE r.2.2.2.2.1 r.2.2.2.2.2.1 r.2.2.2.2.2.2.1 r.2.2.2.2.2.2.2.1 r.2.2.2.2.2.2.2.2.2.1/\ (r.2.2.2.2.2.2.2.2.2.2.2=0->1<=r.1/\r.1<=6/\8<=r.2.1/\r.2.1<=24/\r.2.1 %8=0/\Aa r.2.2.2.2.2.1<=4000/\Aa r.2.2.2.2.2.2.1<=1000/\1<=r.2.2.2.2.2.2.2.2.2.2.1/\r.2.2.2.2.2.2.2.2.2.2.1<=1100000/\r.2.2.2.2.2.2.2.2.2.1=0)):=
 tb (Aay _ _ _ _ _ _ _ _ _ _) λ_ _=>ti (λ_=>ts) λ_=>tb (JZ _) λ⟨_,_⟩ _=>ti (λ_=>tQ (KG _ _ _ _ _ _ _ _ _ _) (ts)) λ_=>ti (λ_=>tQ (KG _ _ _ _ _ _ _ _ _ _) (ts)) λ_=>tQ (KG _ _ _ _ _ _ _ _ _ _) (ts)
theorem Aaj(a f:Int)(b:LX)(hP:True):T (PO a f b) (λr=>0<=r/\r<=99/\ (r=0->1<=a/\a<=6/\Aa b<=4000)):=
 tb (Px _ _) λ_ _=>ti (λ_=>ts) λ_=>tb (Vi _ _) λ_ _=>ti (λ_=>ts) λ_=>ti (λ_=>ts) λ_=>tw (ti (λ_=>ts) λ_=>ts)
theorem Azy{N12:Nat}{Od:Int->LX->Gl}(b a:Int)(hb:∀(a:Int) (h:LX),1<=b/\b<=6/\Aa h<=4000/\0<=a/\a<=Aa h/\Aa h<a+N12/\Aa h %b=0/\a %b=0->T (Od a h) (λr=>0<=r.2/\r.2<=99/\Aa r.1<=4000)):∀(q:Nat) (f:Int) (g:LX),1<=b/\b<=6/\Aa g<=4000/\0<=a/\a+b<=Aa g/\Aa g<a+(N12+1)/\Aa g %b=0/\a %b=0/\0<=f/\f<b/\b<f+q->T (OC Od b a q f g) (λr=>0<=r.2/\r.2<=99/\Aa r.1<=4000):=
 ind (λf g hI=>by exfalso;(try simp only[Aa]at *);omega) λq ih f g hI=>by
  rcases(show b=1\/b=2\/b=3\/b=4\/b=5\/b=6 by omega)with rfl|rfl|rfl|rfl|rfl|rfl<;>exact ti (λ_=>tw (tw (tg λ_=>tg λ_=>tw (te (λ_ _=>tj (ih _ _)))))) λ_=>ti (λ_=>tw (tw (tg λ_=>tg λ_=>tw (te (λ_ _=>tj (hb _ _)))))) λ_=>tj (hb _ _)
theorem Ac8(b:Int):∀(q:Nat) (a:Int) (h:LX),1<=b/\b<=6/\Aa h<=4000/\0<=a/\a<=Aa h/\Aa h<a+q/\Aa h %b=0/\a %b=0->T (OR b q a h) (λr=>0<=r.2/\r.2<=99/\Aa r.1<=4000):=
 ind (λa h hI=>by exfalso;(try simp only[Aa]at *);omega) λq ih a h hI=>by
  rcases(show b=1\/b=2\/b=3\/b=4\/b=5\/b=6 by omega)with rfl|rfl|rfl|rfl|rfl|rfl<;>exact ti (λ_=>tv (tj (Azy _ _ ih As _ _))) λ_=>ts
theorem Ahi(b:Int)(o:LX)(hP:True):T (X' b o) (λr=>0<=r.2/\r.2<=99/\Aa r.1<=4000):=
 tb (C0 _ _) λ_ _=>ti (λ_=>ts) λ_=>tb (Sg _) λ_ _=>tj (Ac8 _ As _ _)
theorem Aez(b:Int)(f g:LX)(a:Int32)(hP:Aa f=16/\Aa g=16):T (OZ b f g a) (λr=>0<=r.2.2.2.2/\r.2.2.2.2<=99/\Aa r.2.2.1=16/\Aa r.2.2.2.1=16):=
 tb (tJ _ _ _) λ⟨_,_⟩ _=>ti (λ_=>ts) λ_=>tb (qC _ _ _ _ _) λ⟨_,_,_⟩ _=>ts
theorem Acf(a:Int)(b:Int32)(f:Int)(g h:LX)(k:Int32)(hP:Aa g=16/\Aa h=16):T (Uo a b f g h k) (λr=>0<=r.2.2.2.2.2.2/\r.2.2.2.2.2.2<=99/\Aa r.2.2.2.2.1=16/\Aa r.2.2.2.2.2.1=16):=
 tb (lN _ _ _ _ _) λ_ _=>ti (λ_=>ts) λ_=>tb (mJ _ _) λ⟨_,_⟩ _=>tb (Aez _ _ _ _) λ⟨_,_,_,_,_⟩ _=>ts
theorem zu(a:Int32)(hP:True):T (wN a) (λ_=>True):=
 ts
theorem Alx(b:LX)(a f:Int):∀(q:Nat) (g:Int) (k:List (Int×Int32×(Int×LX×LX×Unit)×Unit)) (h:LU),0<=g/\g<= (Aa b)/\ (Aa b)<g+q/\ (Aa b)<=17179869184/\1<=a/\a<=6/\Aa b<=4000/\Aa k=6/\Dv Ty k/\Aa h=g->T (Pb b a f q g k h) (λr=>0<=r.2/\r.2<=99/\Aa r.1<=4000/\ (r.2=0->1<=a/\a<=6)):=
 ind (λg k h hI=>by exfalso;(try simp only[Aa]at *);omega) λq ih g k h hI=>ti (λ_=>tg λ_=>tg λ_=>tw (tAr (p:=Ty) λ_ _=>tAr (p:=Ty) λ_ _=>tb (Acf _ _ _ _ _ _) λ⟨_,_,_,_,_,_,_⟩ _=>ti (λ_=>ts) λ_=>tSr (p:=Ty) (λ_ _=>tb (zu _) λ_ _=>ta (tj (ih _ _ _))))) λ_=>ts
theorem Ap3(a f:Int)(n b:LX):∀(q:Nat) (o:Int) (m:List (Int×Int32×(Int×LX×LX×Unit)×Unit)),0<=o/\o<=6/\6<o+q/\1<=a/\a<=6/\Aa n=16/\Aa b<=4000/\Aa m=6/\Dv Ty m->T (Rb a f n b q o m) (λr=>0<=r.2/\r.2<=99/\Aa r.1<=4000/\ (r.2=0->1<=a/\a<=6)):=
 ind (λo m hI=>by exfalso;(try simp only[Aa]at *);omega) λq ih o m hI=>ti (λ_=>tb (zZ _ _) λ⟨_,_,_,_,_,_⟩ _=>tA (p:=Ty) λ_ _=>tS (p:=Ty) (λ_ _=>tj (ih _ _))) λ_=>tj (Alx _ _ _ As _ _ _)
theorem Azj(a f:Int)(n y:LX)(hP:Aa n=16):T (JG a f n y) (λr=>0<=r.2/\r.2<=99/\Aa r.1<=4000/\ (r.2=0->1<=a/\a<=6)):=
 tb (Aaj _ _ _) λ_ _=>ti (λ_=>ts) λ_=>tb (Ahi _ _) λ⟨_,_⟩ _=>ti (λ_=>ts) λ_=>tj (Ap3 _ _ _ _ As _ _)
theorem Aog:∀(q:Nat) (b:Int) (a:List (Int×Int×UInt64×UInt64×Unit)),0<=b/\b<=6/\6<b+q/\Aa a=6->T (Qu q b a) (λr=>Aa r=6):=
 ind (λb a hI=>by exfalso;(try simp only[Aa]at *);omega) λq ih b a hI=>ti (λ_=>tb (sO) λ⟨_,_,_,_⟩ _=>tg λ_=>te (λ_ _=>tj (ih _ _))) λ_=>ts
theorem Axe(hP:True):T (AV) (λr=>Aa r=6):=
 (by unfold AV Zq OG;exact tj (Aog As _ _))
theorem B2(a:LB)(b:Int)(h:Aa a<=42000):SP a b=some (a,b):=by
  unfold SP Bk Ay pN;unfold Aa at h;rw[BA F5];rfl
theorem Adn(b:UInt64)(a:Int):∀(q:Nat) (m:UInt64) (h:Int) (f:Int) (o:LB),0<=h/\h<=64/\h<q/\0<=f/\f+h<=330000/\Aa o=(f+7)/8/\f+h<=y+64->T (HH b a q m h f o) (λr=>0<=r.2.2/\r.2.2<=99/\Aa r.1=(r.2.1+7)/8/\0<=r.2.1/\r.2.1<=330000/\ (r.2.2=0->r.2.1<=y+64)):=
 ind (λm h f o hI=>by exfalso;(try simp only[Aa]at *);omega) λq ih m h f o hI=>ti (λ_=>ti (λ_=>ta (tg λ_=>tw (tw (tg λ_=>tg λ_=>te (λ_ _=>tw (tj (ih _ _ _ _))))))) λ_=>tg λ_=>tw (tw (tg λ_=>tg λ_=>te (λ_ _=>tw (tj (ih _ _ _ _)))))) λ_=>ts
theorem Agp(b:UInt64)(a:Int):∀(q:Nat) (n:UInt64) (k:Int) (g:Int) (p:LB),0<=k/\k<=64/\k<q/\0<=g/\g+k<=330000/\Aa p=(g+7)/8/\g+k<=y+64->T (HO b a q n k g p) (λr=>0<=r.2.2/\r.2.2<=99/\Aa r.1=(r.2.1+7)/8/\0<=r.2.1/\r.2.1<=330000/\ (r.2.2=0->r.2.1<=y+64)):=
 ind (λn k g p hI=>by exfalso;(try simp only[Aa]at *);omega) λq ih n k g p hI=>ti (λ_=>ti (λ_=>ta (tg λ_=>tw (tw (tg λ_=>tg λ_=>te (λ_ _=>tw (tj (ih _ _ _ _))))))) λ_=>tg λ_=>tw (tw (tg λ_=>tg λ_=>te (λ_ _=>tw (tj (ih _ _ _ _)))))) λ_=>ts
theorem LN(ac:LB)(y:Int)(b:UInt64)(a:Int)(hP:True):T (TW ac y b a) (λr=>0<=r.2.2/\r.2.2<=99/\Aa r.1=(r.2.1+7)/8/\0<=r.2.1/\r.2.1<=330000/\ (r.2.2=0->r.2.1<=y+64)):=
 tb (Js _ _) λ_ _=>ti (λ_=>ts) λ_=>ti (λ_=>ts) λ_=>ti (λ_=>tw (ti (λ_=>ts) λ_=>ti (λ_=>ts) λ_=>tQ (B2 _ _) (tj (Adn _ _ As _ _ _ _)))) λ_=>ti (λ_=>ts) λ_=>tQ (B2 _ _) (tj (Agp _ _ As _ _ _ _))
theorem Ax8(a:Int)(hP:True):T (YG a) (λr=>0<=r.2/\r.2<=99/\ (r.2=0->0<=a/\a<=48)):=
 ti (λ_=>ts) λ_=>ts
theorem lS(b:LB)(f a:Int)(hP:True):T (gP b f a) (λr=>0<=r.2.2/\r.2.2<=99/\Aa r.1=(r.2.1+7)/8/\0<=r.2.1/\r.2.1<=330000/\ (r.2.2=0->r.2.1<=f+64)):=
 tb (Js _ _) λ_ _=>ti (λ_=>ts) λ_=>tb (Ax8 _) λ⟨_,_⟩ _=>ti (λ_=>ts) λ_=>tw (tb (LN _ _ _ _) λ⟨_,_,_⟩ _=>ts)
theorem Axt(b:LB)(f:Int)(g:UInt32)(a:Int)(hP:True):T (nO b f g a) (λr=>0<=r.2.2/\r.2.2<=99/\Aa r.1=(r.2.1+7)/8/\0<=r.2.1/\r.2.1<=330000/\ (r.2.2=0->r.2.1<=f+128)):=
 tb (Js _ _) λ_ _=>ti (λ_=>ts) λ_=>ti (λ_=>ts) λ_=>tw (tw (tb (iT _ _) λ_ _=>ti (λ_=>tb (lS _ _ _) λ⟨_,_,_⟩ _=>ti (λ_=>ts) λ_=>tb (LN _ _ _ _) λ⟨_,_,_⟩ _=>ts) λ_=>tb (lS _ _ _) λ⟨_,_,_⟩ _=>ti (λ_=>ts) λ_=>tb (LN _ _ _ _) λ⟨_,_,_⟩ _=>ts))
theorem Hm(b:UInt32)(f:Int)(a:UInt64)(k:Int)(m:LB)(n:Int)(o:UInt64)(hP:0<=f/\f<=24/\Aa m=(k+7)/8/\0<=k/\k<=330000/\k<=w+200):T (PM b f a k m n o) (λr=>0<=r.2.2.2.2.2.2/\r.2.2.2.2.2.2<=99/\Aa r.1=(r.2.1+7)/8/\0<=r.2.1/\r.2.1<=330000/\ (r.2.2.2.2.2.2=0->r.2.1<=w+200)):=
 ti (λ_=>tw (ti (λ_=>ts) λ_=>ti (λ_=>tw (ti (λ_=>ts) λ_=>ts)) λ_=>ts)) λ_=>ti (λ_=>tw (ti (λ_=>ts) λ_=>ts)) λ_=>ts
theorem GC(b:UInt32)(f h:Int)(a g:UInt64)(ac k:Int)(m:LB)(hP:0<=f/\f<=24/\0<=h/\h<=24/\0<=ac/\ac<=99/\Aa m=(k+7)/8/\0<=k/\k<=330000/\ (ac=0->k<=w+200)):T (mC b f h a g ac k m) (λr=>0<=r.2.2.2.2.2.2/\r.2.2.2.2.2.2<=99/\Aa r.1=(r.2.1+7)/8/\0<=r.2.1/\r.2.1<=330000/\ (r.2.2.2.2.2.2=0->r.2.1<=w+200)):=
 ti (λ_=>ts) λ_=>tb (WZ _ _ _ _ _) λ⟨_,_⟩ _=>ti (λ_=>ti (λ_=>tw (ti (λ_=>tj (Hm _ _ _ _ _ _ _)) λ_=>ti (λ_=>tw (ti (λ_=>tj (Hm _ _ _ _ _ _ _)) λ_=>tj (Hm _ _ _ _ _ _ _))) λ_=>tj (Hm _ _ _ _ _ _ _))) λ_=>ti (λ_=>tw (ti (λ_=>tj (Hm _ _ _ _ _ _ _)) λ_=>tj (Hm _ _ _ _ _ _ _))) λ_=>tj (Hm _ _ _ _ _ _ _)) λ_=>tj (Hm _ _ _ _ _ _ _)
theorem Afw(v:LB)(w f h:Int)(a g:UInt64)(b:UInt32)(hP:True):T (nL v w f h a g b) (λr=>0<=r.2.2.2.2.2.2/\r.2.2.2.2.2.2<=99/\Aa r.1=(r.2.1+7)/8/\0<=r.2.1/\r.2.1<=330000/\ (r.2.2.2.2.2.2=0->r.2.1<=w+200)):=
 tb (Js _ _) λ_ _=>ti (λ_=>ts) λ_=>tb (rB _ _ _ _) λ_ _=>ti (λ_=>ts) λ_=>tb (WZ _ _ _ _ _) λ⟨_,_⟩ _=>tb (LN _ _ _ _) λ⟨_,_,_⟩ _=>ti (λ_=>tb (LN _ _ _ _) λ⟨_,_,_⟩ _=>tj (GC _ _ _ _ _ _ _ _)) λ_=>ti (λ_=>tb (Axt _ _ _ _) λ⟨_,_,_⟩ _=>tj (GC _ _ _ _ _ _ _ _)) λ_=>tj (GC _ _ _ _ _ _ _ _)
theorem Alm{N27:Nat}{Uk:Int-> (List (Int×Int×UInt64×UInt64×Unit))->Int->LB->Bj}(b:LU)(a g h f:Int)(n:List (Int×Int×UInt64×UInt64×Unit))(m:LB)(hb:∀(f:Int) (u:List (Int×Int×UInt64×UInt64×Unit)) (v:Int) (p:LB),0<=f/\f<= (Aa b)/\ (Aa b)<f+N27/\ (Aa b)<=17179869184/\Aa b<=4000/\1<=a/\a<=6/\Aa u=6/\0<=v/\v<=200*f/\Aa p=(v+7)/8->T (Uk f u v p) (λr=>0<=r.2/\r.2<=99/\Aa r.1<=200000)):∀(q:Nat) (o:Int) (k:Int) (w:LB),Aa b<=4000/\1<=a/\a<=6/\Aa n=6/\0<=f/\f<Aa b/\Aa b<f+(N27+1)/\0<=o/\o<=h/\h<o+q/\h<=200/\Aa m=(h+7)/8/\o<=k/\k<=200*f+o/\Aa w=(k+7)/8->T (Pm Uk b a g h f n m q o k w) (λr=>0<=r.2/\r.2<=99/\Aa r.1<=200000):=
 ind (λo k w hI=>by exfalso;(try simp only[Aa]at *);omega) λq ih o k w hI=>ti (λ_=>ti (λ_=>ta (tg λ_=>tg λ_=>tw (tg λ_=>tw (tg λ_=>tg λ_=>te (λ_ _=>tj (ih _ _ _)))))) λ_=>tg λ_=>tg λ_=>tw (tg λ_=>tw (tg λ_=>tg λ_=>te (λ_ _=>tj (ih _ _ _))))) λ_=>tj (hb _ _ _ _)
theorem Ama(b:LU)(a g:Int):∀(q:Nat) (f:Int) (u:List (Int×Int×UInt64×UInt64×Unit)) (v:Int) (p:LB),0<=f/\f<= (Aa b)/\ (Aa b)<f+q/\ (Aa b)<=17179869184/\Aa b<=4000/\1<=a/\a<=6/\Aa u=6/\0<=v/\v<=200*f/\Aa p=(v+7)/8->T (Pe b a g q f u v p) (λr=>0<=r.2/\r.2<=99/\Aa r.1<=200000):=
 ind (λf u v p hI=>by exfalso;(try simp only[Aa]at *);omega) λq ih f u v p hI=>ti (λ_=>tg λ_=>tg λ_=>tw (tr λ_=>tr λ_=>tb (Afw _ _ _ _ _ _ _) λ⟨_,_,_,_,_,_,_⟩ _=>ti (λ_=>ts) λ_=>tw (tr λ_=>tir (λ_ _=>tj (Alm _ _ _ _ _ _ _ ih As _ _ _))))) λ_=>tb (Yf _) λ⟨_,_⟩ _=>ti (λ_=>ts) λ_=>tb (Pr _ _) λ⟨_,_⟩ _=>ti (λ_=>ts) λ_=>tb (tu _ _) λ_ _=>ts
theorem TX(a g:Int)(ap aq:LX)(hP:Aa ap=16):T (BQ a g ap aq) (λr=>0<=r.2/\r.2<=99/\Aa r.1<=200000):=
 tb (Azj _ _ _ _) λ⟨_,_⟩ _=>ti (λ_=>ts) λ_=>tb (Axe) λ_ _=>tj (Ama _ _ _ As _ _ _ _)
theorem Zb(b f g:Int)(h k:LB)(m:LX)(n:List LB)(o:LB)(p:Bool)(u a:Int)(hP:0<=a/\a<=99):T (To b f g h k m n o p u a) (λr=>r.2.2.2.2.2.2.2.2.2.2=a/\PE r.2.2.2.2.1 r.2.2.2.2.2.1 r.2.2.2.2.2.2.1 r.2.2.2.2.2.2.2.1 r.2.2.2.2.2.2.2.2.2.1):=
 ts
theorem Ib{N14:Nat}{Yq:Int->LB->LX->List LB->Bl}(p:Int)(n:LB)(a b g:Int)(f:LB)(h:Bool)(k o:Int)(m:LB)(u ad:Int)(ae:LB)(af:LX)(ag:List LB)(hb:∀(u:Int) (y:LB) (w:LX) (v:List LB),0<=u/\u<= (Aa n)/\ (Aa n)<u+N14/\ (Aa n)<=17179869184/\Aa n<=100000/\1<=a/\a<=6/\8<=b/\b<=24/\b %8=0/\p<=18/\Aa y<=18/\Aa w<=4000+20*u/\Aa v<=1000+u/\Dv (Le 200000) v/\Aa m<=17179869184/\k=0->T (Yq u y w v) (λr=>0<=r.2.2.2.2.2.2.2.2.2.2/\r.2.2.2.2.2.2.2.2.2.2<=99/\PE r.2.2.2.2.1 r.2.2.2.2.2.1 r.2.2.2.2.2.2.1 r.2.2.2.2.2.2.2.1 r.2.2.2.2.2.2.2.2.2.1))(hP:0<=ad/\ad<=99/\ (ad=0->Aa ae<=18)/\Aa af<=4000+20*(u+1)/\Aa ag<=1000+u+1/\Dv (Le 200000) ag/\0<=u/\u<Aa n/\Aa n<u+(N14+1)/\Aa n<=100000/\1<=a/\a<=6/\8<=b/\b<=24/\b %8=0/\p<=18/\Aa m<=17179869184/\k=0):T (Ko Yq p n a b g f h k o m u ad ae af ag) (λr=>0<=r.2.2.2.2.2.2.2.2.2.2/\r.2.2.2.2.2.2.2.2.2.2<=99/\PE r.2.2.2.2.1 r.2.2.2.2.2.1 r.2.2.2.2.2.2.1 r.2.2.2.2.2.2.2.1 r.2.2.2.2.2.2.2.2.2.1):=
 ti (λ_=>tb (Zb _ _ _ _ _ _ _ _ _ _ _) λ⟨_,_,_,_,_,_,_,_,_,_,_⟩ _=>ts) λ_=>(by unfold Na CT;exact tj (hb _ _ _ _))
theorem As8(p:Int)(n:LB)(a b g:Int)(f:LB)(h:Bool)(k o:Int)(m:LB):∀(q:Nat) (u:Int) (y:LB) (w:LX) (v:List LB),0<=u/\u<= (Aa n)/\ (Aa n)<u+q/\ (Aa n)<=17179869184/\Aa n<=100000/\1<=a/\a<=6/\8<=b/\b<=24/\b %8=0/\p<=18/\Aa y<=18/\Aa w<=4000+20*u/\Aa v<=1000+u/\Dv (Le 200000) v/\Aa m<=17179869184/\k=0->T (Km p n a b g f h k o m q u y w v) (λr=>0<=r.2.2.2.2.2.2.2.2.2.2/\r.2.2.2.2.2.2.2.2.2.2<=99/\PE r.2.2.2.2.1 r.2.2.2.2.2.1 r.2.2.2.2.2.2.1 r.2.2.2.2.2.2.2.1 r.2.2.2.2.2.2.2.2.2.1):=
 ind (λu y w v hI=>by exfalso;(try simp only[Aa]at *);omega) λq ih u y w v hI=>ti (λ_=>tg λ_=>ta (ti (λ_=>(by unfold Na CT;exact tj (ih _ _ _ _))) λ_=>tb (Wb _ _ _ _ _ _ _ _ _ _ _) λ_ _=>tb (IQ _ _ _ _ _ _ _ _ _ _ _ _) λ_ _=>ti (λ_=>tj (Ib _ _ _ _ _ _ _ _ _ _ _ _ _ _ _ ih)) λ_=>tb (We _ _) λ⟨_,_⟩ _=>ti (λ_=>tj (Ib _ _ _ _ _ _ _ _ _ _ _ _ _ _ _ ih)) λ_=>ta (ti (λ_=>tj (Ib _ _ _ _ _ _ _ _ _ _ _ _ _ _ _ ih)) λ_=>tb (Sa _) λ⟨_,_⟩ _=>ti (λ_=>(by unfold DI CO;exact tj (Ib _ _ _ _ _ _ _ _ _ _ _ _ _ _ _ ih))) λ_=>tb (TX _ _ _ _) λ⟨_,_⟩ _=>ti (λ_=>(by unfold DI CO;exact tj (Ib _ _ _ _ _ _ _ _ _ _ _ _ _ _ _ ih))) λ_=>ta ((by unfold SH UY;exact tj (Ib _ _ _ _ _ _ _ _ _ _ _ _ _ _ _ ih)))))) λ_=>ts
theorem Arc(bl bm bn:Int)(bp bq:LB)(br:LX)(bs:List LB)(bt:LB)(bu:Bool)(bv:Int)(n:LB)(hP:PE bq br bs bt bv/\Aa n<=100000):T (WU bl bm bn bp bq br bs bt bu bv n) (λr=>0<=r.2.2.2.2.2.2.2.2.2.2/\r.2.2.2.2.2.2.2.2.2.2<=99/\PE r.2.2.2.2.1 r.2.2.2.2.2.1 r.2.2.2.2.2.2.1 r.2.2.2.2.2.2.2.1 r.2.2.2.2.2.2.2.2.2.1):=
 tb (ZU _ _ _ _ _ _ _ _ _ _) λ⟨_,_,_,_,_,_,_,_,_,_,_,_⟩ _=>ti (λ_=>ts) λ_=>tb (UA _ _) λ_ _=>tj (As8 _ _ _ _ _ _ _ _ _ _ As _ _ _ _)
theorem Ac3(a:LB)(hP:True):T (QP a) (λr=>0<=r.2/\r.2<=99):=
 ti (λ_=>ts) λ_=>ti (λ_=>ts) λ_=>ts
theorem Auo(b f g h k:Int):∀(q:Nat) (m:Int) (a:LB),0<=m/\m<=5/\5<m+q/\Aa a<=4+8*m->T (Vv b f g h k q m a) (λr=>0<=r.2/\r.2<=99/\Aa r.1<=100):=
 ind (λm a hI=>by exfalso;(try simp only[Aa]at *);omega) λq ih m a hI=>ti (λ_=>th λ_ _=>th λ_ _=>tb (Pr _ _) λ⟨_,_⟩ _=>ta (tj (ih _ _))) λ_=>tb (Yf _) λ⟨_,_⟩ _=>tb (Pr _ _) λ⟨_,_⟩ _=>ta (ts)
theorem Adv(b f g h k:Int)(hP:True):T (XS b f g h k) (λr=>0<=r.2/\r.2<=99/\Aa r.1<=100):=
 tb (gJ _ _ _ _ _) λ_ _=>ti (λ_=>ts) λ_=>tj (Auo _ _ _ _ _ As _ _)
theorem Azh(a:LI):∀(q:Nat) (f:Int) (b:LB),0<=f/\f<= (Aa a)/\ (Aa a)<f+q/\ (Aa a)<=17179869184/\Aa a<=1000/\Aa b<=8*f->T (Yt a q f b) (λr=>0<=r.2/\r.2<=99/\Aa r.1<=9000):=
 ind (λf b hI=>by exfalso;(try simp only[Aa]at *);omega) λq ih f b hI=>ti (λ_=>tg λ_=>tb (Pr _ _) λ⟨_,_⟩ _=>ta (tj (ih _ _))) λ_=>tb (Yf _) λ⟨_,_⟩ _=>tb (Pr _ _) λ⟨_,_⟩ _=>ta (ts)
theorem Ayz(a:LI)(hP:True):T (ON a) (λr=>0<=r.2/\r.2<=99/\Aa r.1<=9000):=
 tb (Vg _) λ_ _=>ti (λ_=>ts) λ_=>tj (Azh _ As _ _)
theorem NI(a:List LB)(f g h:Int)(b k:LB)(m:LX)(n:LB)(o:Bool)(p:Int)(u:LB):∀(q:Nat) (w:Int) (v:LI),0<=w/\w<= (Aa a)/\ (Aa a)<w+q/\ (Aa a)<=17179869184/\Aa a<=1001/\Dv (Le 200000) a/\Aa v=w/\Aa u<=200->T (Wh a f g h b k m n o p u q w v) (λr=>0<=r.2/\r.2<=99/\Aa r.1<=1000000000):=
 ind (λw v hI=>by exfalso;(try simp only[Aa]at *);omega) λq ih w v hI=>ti (λ_=>tg λ_=>ta (tj (ih _ _))) λ_=>tb (Ayz _) λ⟨_,_⟩ _=>ti (λ_=>ts) λ_=>ta (tb (Ad5 _) λ_ _=>ta (ts))
theorem Ad1(f g h:Int)(b k:LB)(m:LX)(a:List LB)(n:LB)(o:Bool)(p ak:Int)(hP:Aa a<=1001/\Dv (Le 200000) a):T (YQ f g h b k m a n o p ak) (λr=>0<=r.2/\r.2<=99/\Aa r.1<=1000000000):=
 tb (Ac3 _) λ⟨_,_⟩ _=>ti (λ_=>ts) λ_=>tb (Adv _ _ _ _ _) λ⟨_,_⟩ _=>ti (λ_=>ts) λ_=>ti (λ_=>tb (gZ _) λ⟨_,_⟩ _=>ti (λ_=>ts) λ_=>ta (tj (NI _ _ _ _ _ _ _ _ _ _ _ As _ _))) λ_=>tj (NI _ _ _ _ _ _ _ _ _ _ _ As _ _)
theorem HA(o a b g:Int)(f:LB)(k:Bool)(m:Int)(h n:LB)(ab:LX)(ac:List LB)(hP:Aa ac<=1001/\Dv (Le 200000) ac):T (AW o a b g f k m h n ab ac) (λr=>0<=r.2.2.2.2.2.2.2.2.2.2/\r.2.2.2.2.2.2.2.2.2.2<=99/\Aa r.2.2.2.2.2.2.2.1<=17179869184):=
 tb (Ad1 _ _ _ _ _ _ _ _ _ _ _) λ⟨_,_⟩ _=>ti (λ_=>tb (Zb _ _ _ _ _ _ _ _ _ _ _) λ⟨_,_,_,_,_,_,_,_,_,_,_⟩ _=>ts) λ_=>ts
theorem Uh(o a b g:Int)(f:LB)(k:Bool)(m:Int)(h n:LB)(ad:Int)(ae:LX)(af:List LB)(hP:0<=ad/\ad<=99/\Aa af<=1001/\Dv (Le 200000) af):T (NR o a b g f k m h n ad ae af) (λr=>0<=r.2.2.2.2.2.2.2.2.2.2/\r.2.2.2.2.2.2.2.2.2.2<=99/\Aa r.2.2.2.2.2.2.2.1<=17179869184):=
 ti (λ_=>tb (Zb _ _ _ _ _ _ _ _ _ _ _) λ⟨_,_,_,_,_,_,_,_,_,_,_⟩ _=>ts) λ_=>tj (HA _ _ _ _ _ _ _ _ _ _ _)
theorem Awk(bb bc bd:Int)(be bf:LB)(bg:LX)(bh:List LB)(bi:LB)(bj:Bool)(bk:Int)(hP:PE bf bg bh bi bk):T (IU bb bc bd be bf bg bh bi bj bk) (λr=>0<=r.2.2.2.2.2.2.2.2.2.2/\r.2.2.2.2.2.2.2.2.2.2<=99/\Aa r.2.2.2.2.2.2.2.1<=17179869184):=
 tb (ZU _ _ _ _ _ _ _ _ _ _) λ⟨_,_,_,_,_,_,_,_,_,_,_,_⟩ _=>ti (λ_=>ts) λ_=>tb (Wb _ _ _ _ _ _ _ _ _ _ _) λ_ _=>ti (λ_=>tb (Zb _ _ _ _ _ _ _ _ _ _ _) λ⟨_,_,_,_,_,_,_,_,_,_,_⟩ _=>ts) λ_=>ti (λ_=>tb (Sa _) λ⟨_,_⟩ _=>ti (λ_=>tj (Uh _ _ _ _ _ _ _ _ _ _ _ _)) λ_=>tb (TX _ _ _ _) λ⟨_,_⟩ _=>ti (λ_=>tj (Uh _ _ _ _ _ _ _ _ _ _ _ _)) λ_=>ta (tj (Uh _ _ _ _ _ _ _ _ _ _ _ _))) λ_=>tj (HA _ _ _ _ _ _ _ _ _ _ _)
theorem Aw6(ax av ay:Int)(az:LX)(bd:LB)(hP:True):T (IN ax av ay az bd) (λr=>0<=r.2/\r.2<=99/\Aa r.1<=17179869184):=
 tb (sP _ _ _ _) λ_ _=>ti (λ_=>ts) λ_=>tb (Qf _ _) λ⟨_,_⟩ _=>ti (λ_=>ts) λ_=>tb (Ayc _ _ _ _) λ⟨_,_,_,_,_,_,_,_,_,_,_⟩ _=>ti (λ_=>ts) λ_=>tb (Arc _ _ _ _ _ _ _ _ _ _ _) λ⟨_,_,_,_,_,_,_,_,_,_,_⟩ _=>ti (λ_=>ti (λ_=>ts) λ_=>ts) λ_=>tb (Awk _ _ _ _ _ _ _ _ _ _) λ⟨_,_,_,_,_,_,_,_,_,_,_⟩ _=>ti (λ_=>ts) λ_=>ts
end Go.Pl
set_option maxRecDepth 4000
set_option maxHeartbeats 3000000
namespace Go.Pl
open Go Go.Lv
variable{zf zb h:LB}{i:Nat}{p:Prop}{α:Type}
theorem Asj(a e:Int)(h:0<=e/\e<=99/\Gf a):T (Ek [a] e) (λr=>Aa r<=200/\Dv Nl r):=tm (Nb _ _ ⟨h.1,h.2.1,by simp[Aa],Ba h.2.2⟩) λr hr=>⟨WM hr.1 (by simp[Aa]),hr.2⟩
theorem Arp(a b e:Int)(h:0<=e/\e<=99/\Gf a/\Gf b):T (Ek [a,b] e) (λr=>Aa r<=200/\Dv Nl r):=tm (Nb _ _ ⟨h.1,h.2.1,by simp[Aa],all_cons h.2.2.1 (Ba h.2.2.2)⟩) λr hr=>⟨WM hr.1 (by simp[Aa]),hr.2⟩
theorem Arm(a:UInt8)(b c e:Int)(h:0<=e/\e<=99/\Gf b/\Gf c):T (Ek [(Am a:Int),b,c] e) (λr=>Aa r<=200/\Dv Nl r):=tm (Nb _ _ ⟨h.1,h.2.1,by simp[Aa],all_cons (Hs a) (all_cons h.2.2.1 (Ba h.2.2.2))⟩) λr hr=>⟨WM hr.1 (by simp[Aa]),hr.2⟩
theorem Aru(a:Int)(b:UInt8)(c d e:Int)(h:0<=e/\e<=99/\Gf a/\Gf c/\Gf d):T (Ek [a,(Am b:Int),c,d] e) (λr=>Aa r<=200/\Dv Nl r):=tm (Nb _ _ ⟨h.1,h.2.1,by simp[Aa],all_cons h.2.2.1 (all_cons (Hs b) (all_cons h.2.2.2.1 (Ba h.2.2.2.2)))⟩) λr hr=>⟨WM hr.1 (by simp[Aa]),hr.2⟩
theorem Ae2(g a:LB)(k:LI)(hP:Aa k=1/\Aa g<=100000/\Aa a<=64/\ (g=zf/\a=zb\/Mu h)/\Mu h/\ (∀x,Ae k 0=some x->0<=x/\x<=Aa g)):T (Ok g a k) (λr=>Aa r.2.1<=100000/\Aa r.2.2<=64/\Aa r.1<=800000000/\Dv Nl r.1/\ (r.2.1=zf/\r.2.2=zb\/Mu h)):=
 by
  obtain⟨_,_,_,_,_,_⟩:=hP;exact tE λ_ _=>tE λ_ _=>tc λ_ _=>tb (Un _) λ_ _=>ti (λh=>absurd h F4) λ_=>ti (λ_=>tb (Bf _) λ_ _=>ts) λ_=>tb (Bv _) λ_ _=>ts
theorem Ada(w:LI)(g a:LB)(p u v:Int):∀(q:Nat) (af:Int) (ac:LX),0<=af/\af<= (Aa w)/\ (Aa w)<af+q/\ (Aa w)<=17179869184/\Aa w<=100000/\Mu h/\Aa a<=64/\Aa g<=100000/\Aa ac=af->T (Jg w g a p u v q af ac) (λr=>Aa r.2.1<=100000/\Aa r.2.2<=64/\Aa r.1<=800000000/\Dv Nl r.1/\ (r.2.1=zf/\r.2.2=zb\/Mu h)):=
 ind (λaf ac hI=>by exfalso;(try simp only[Aa]at *);omega) λq ih af ac hI=>ti (λ_=>tg λ_=>ta (tj (ih _ _))) λ_=>tb (Aw6 _ _ _ _ _) λ⟨_,_⟩ _=>ti (λ_=>tb (Bf _) λ_ _=>ts) λ_=>ti (λ_=>tb (Bf _) λ_ _=>ts) λ_=>tb (Bv _) λ_ _=>ts
theorem Ae1(h g a:LB)(k:LI)(hP:Aa k<=100000/\Aa g<=100000/\Aa a<=64/\ (g=zf/\a=zb\/Mu h)):T (Pk h g a k) (λr=>Aa r.2.1<=100000/\Aa r.2.2<=64/\Aa r.1<=800000000/\Dv Nl r.1/\ (r.2.1=zf/\r.2.2=zb\/Mu h)):=
 by
  obtain⟨_,_,_,_⟩:=hP;exact wm (λ_=>ti (λ_=>tE λ_ _=>tE λ_ _=>ti (λ_=>tb (Bf _) λ_ _=>ts) λ_=>tE λ_ _=>tE λ_ _=>ti (λ_=>tb (Bf _) λ_ _=>ts) λ_=>tj (Ae2 _ _ _)) λ_=>ts) (wm (λ_=>ti (λ_=>tE λ_ _=>tE λ_ _=>tb (Adc _ _ _) λ⟨_,_,_,_,_⟩ _=>tb (Arm _ _ _ _) λ_ _=>ts) λ_=>ts) (wm (λ_=>ti (λ_=>tE λ_ _=>tE λ_ _=>tb (Zj _ _ _) λ⟨_,_⟩ _=>tb (Vn _ _) λ_ _=>ts) λ_=>ts) (wm (λ_=>ti (λ_=>tE λ_ _=>tE λ_ _=>tb (mH _ _ _) λ⟨_,_⟩ _=>tb (Vn _ _) λ_ _=>ts) λ_=>ts) (wm (λ_=>ti (λ_=>tE λ_ _=>tE λ_ _=>tb (yK _ _ _) λ⟨_,_⟩ _=>tb (Vn _ _) λ_ _=>ts) λ_=>ts) (wm (λ_=>ti (λ_=>tE λ_ _=>tE λ_ _=>ti (λ_=>tb (Bf _) λ_ _=>ts) λ_=>tE λ_ _=>tE λ_ _=>ti (λ_=>tb (Bf _) λ_ _=>ts) λ_=>tE λ_ _=>tE λ_ _=>tE λ_ _=>tE λ_ _=>tb (Aaf _ _ _) λ⟨_,_⟩ _=>ti (λ_=>tb (Bf _) λ_ _=>ts) λ_=>ti (λ_=>tb (Bf _) λ_ _=>ts) λ_=>tb (Bv _) λ_ _=>ts) λ_=>ts) (wm (λ_=>ti (λ_=>tE λ_ _=>tE λ_ _=>ti (λ_=>tb (Bf _) λ_ _=>ts) λ_=>tE λ_ _=>tE λ_ _=>tE λ_ _=>tE λ_ _=>tb (Ax6 _ _ _) λ⟨_,_⟩ _=>ti (λ_=>tb (Bf _) λ_ _=>ts) λ_=>ti (λ_=>tb (Bf _) λ_ _=>ts) λ_=>tb (Bv _) λ_ _=>ts) λ_=>ts) (wm (λ_=>ti (λ_=>tE λ_ _=>tE λ_ _=>tE λ_ _=>tE λ_ _=>tb (Axr _ _ _ _) λ⟨_,_⟩ _=>tb (Asj _ _) λ_ _=>ts) λ_=>ts) (wm (λ_=>ti (λ_=>tE λ_ _=>tE λ_ _=>tE λ_ _=>tE λ_ _=>tE λ_ _=>tE λ_ _=>tc λ_ _=>tj (Ada _ _ _ _ _ _ As _ _)) λ_=>ts) (ti (λh=>absurd h F7) λ_=>ts)))))))))
theorem Ael(h:LB)(m:List LB)(g a:LB):∀(q:Nat) (y:Int) (k:LI),0<=y/\y<= (Aa m)/\ (Aa m)<y+q/\ (Aa m)<=17179869184/\Dv (Wd 100000) m/\Aa m<=100000/\Aa g<=100000/\Aa a<=64/\ (g=zf/\a=zb\/Mu h)/\Aa k=y->T (Jv h m g a q y k) (λr=>Aa r.2.1<=100000/\Aa r.2.2<=64/\Aa r.1<=800000000/\Dv Nl r.1/\ (r.2.1=zf/\r.2.2=zb\/Mu h)):=
 ind (λy k hI=>by exfalso;(try simp only[Aa]at *);omega) λq ih y k hI=>ti (λ_=>tB (p:=Wd 100000) λ_ _ _=>tb (RC _) λ⟨_,_⟩ _=>ti (λ_=>ts) λ_=>ta (tj (ih _ _))) λ_=>tj (Ae1 _ _ _ _)
theorem Bh(h:LB)(m:List LB)(kh:LB)(ki:Bool)(g a:LB)(hP:Dv (Wd 100000) m/\Aa m<=100000/\Aa g<=100000/\Aa a<=64/\ (g=zf/\a=zb\/Mu h)/\ (ki=true->Aa kh<=800000000/\Dv Nl kh)):T (Dg h m kh ki g a) (λr=>Aa r.2.1<=100000/\Aa r.2.2<=64/\Aa r.1<=800000000/\Dv Nl r.1/\ (r.2.1=zf/\r.2.2=zb\/Mu h)):=
 by
  obtain⟨_,_,_,_,_,_⟩:=hP;exact ti (λ_=>ts) λ_=>(by unfold Zf Cm;exact tj (Ael _ _ _ _ As _ _))
theorem Ad6(n:List (Int×LB×Unit))(h:LB)(m:List LB)(f b:LB):∀(q:Nat) (ae:Int) (ad:List LB),0<=ae/\ae<= (Aa n)/\ (Aa n)<ae+q/\ (Aa n)<=17179869184/\Dv St n/\Aa n<=1000/\Dv (Wd 100000) m/\Aa m<=100000/\Aa f<=100000/\Aa b<=64/\ (f=zf/\b=zb\/Mu h)/\Dv (Ln 50) ad/\Aa ad<=ae->T (Jd n h m f b q ae ad) (λr=>Aa r.2.1<=100000/\Aa r.2.2<=64/\Aa r.1<=800000000/\Dv Nl r.1/\ (r.2.1=zf/\r.2.2=zb\/Mu h)):=
 ind (λae ad hI=>by exfalso;(try simp only[Aa]at *);omega) λq ih ae ad hI=>ti (λh1=>tA (p:=St) λ_ _=>tA (p:=St) λ_ _=>tb (Bv _) λx r1=>ta (tb (Bv _) λz r2=>ta (ta (ih _ _ (by
  have h0:0<=Aa ad:=by unfold Aa;omega
  have e:Af ae 1=ae+1:=Ie;simp only[Ph,zi,E_]at h1;rw[e];exact⟨F3,F3,F3,hI.2.2.2.1,hI.2.2.2.2.1,hI.2.2.2.2.2.1,hI.2.2.2.2.2.2.1,hI.2.2.2.2.2.2.2.1,hI.2.2.2.2.2.2.2.2.1,hI.2.2.2.2.2.2.2.2.2.1,hI.2.2.2.2.2.2.2.2.2.2.1,Ad hI.2.2.2.2.2.2.2.2.2.2.2.1 (Ba ⟨by have:=r1.1;have:=r2.1;unfold Aa at *;simp only[C!,I2];omega,Ad (Ad r1.2 (Cg F4)) r2.2⟩),by have:=hI.2.2.2.2.2.2.2.2.2.2.2.2;unfold Aa at *;simp only[C!,I2];omega⟩))))) λ_=>tb (iY (zn:=50) _ _) λ_ _=>(by unfold Jc Gm;exact tj (Bh _ _ _ _ _ _))
theorem Aef(h:LB)(m:List LB)(f b:LB)(hP:Dv (Wd 100000) m/\Aa m<=100000/\Aa f<=100000/\Aa b<=64/\ (f=zf/\b=zb\/Mu h)):T (Pg h m f b) (λr=>Aa r.2.1<=100000/\Aa r.2.2<=64/\Aa r.1<=800000000/\Dv Nl r.1/\ (r.2.1=zf/\r.2.2=zb\/Mu h)):=
 by
  obtain⟨_,_,_,_,_⟩:=hP;exact ti (λ_=>tB (p:=Wd 100000) λ_ _ _=>ti (λ_=>tb (Bf _) λ_ _=>tj (Bh _ _ _ _ _ _)) λ_=>tB (p:=Wd 100000) λ_ _ _=>tj (Bh _ _ _ _ _ _)) λ_=>ti (λ_=>tB (p:=Wd 100000) λ_ _ _=>tb (Aaz _) λ⟨_,_⟩ _=>ti (λ_=>tj (Bh _ _ _ _ _ _)) λ_=>wm (λ_=>tb (tu _ _) λ_ _=>ti (λh=>absurd h F4) λ_=>ti (λ_=>tb (Bf _) λ_ _=>(by unfold BK Pn;exact tj (Bh _ _ _ _ _ _))) λ_=>tb (Bv _) λ_ _=>(by unfold Zz Oy;exact tj (Bh _ _ _ _ _ _))) (ti (λh=>absurd h F4) λ_=>ti (λ_=>tb (Bf _) λ_ _=>(by unfold Yl Nh;exact tj (Bh _ _ _ _ _ _))) λ_=>tb (Bv _) λ_ _=>(by unfold Xr Nf;exact tj (Bh _ _ _ _ _ _)))) λ_=>ti (λ_=>tb (Abd _) λ⟨_,_⟩ _=>ti (λ_=>tj (Bh _ _ _ _ _ _)) λ_=>wm (λ_=>tb (Azx _ _ _) λ⟨_,_,_⟩ _=>tb (Arp _ _ _) λ_ _=>tj (Bh _ _ _ _ _ _)) (tb (bJ _ _ _) λ⟨_,_,_,_,_,_,_,_,_,_,_,_,_,_⟩ _=>ti (λ_=>tb (Bf _) λ_ _=>(by unfold Jc Gm;exact tj (Bh _ _ _ _ _ _))) λ_=>tj (Ad6 _ _ _ _ _ As _ _))) λ_=>(by unfold Zl Pj;exact tj (Bh _ _ _ _ _ _))
theorem Ae0(h:LB)(m:List LB)(f b:LB)(hP:Dv (Wd 100000) m/\Aa m<=100000/\Aa f<=100000/\Aa b<=64/\ (f=zf/\b=zb\/Mu h)):T (On h m f b) (λr=>Aa r.2.1<=100000/\Aa r.2.2<=64/\Aa r.1<=800000000/\Dv Nl r.1/\ (r.2.1=zf/\r.2.2=zb\/Mu h)):=
 by
  obtain⟨_,_,_,_,_⟩:=hP;exact ti (λ_=>wm (λ_=>ts) (wm (λ_=>ti (λh=>absurd h F4) λ_=>ti (λh=>absurd h F4) λ_=>tb (Bv _) λ_ _=>ts) (wm (λ_=>tb (Vn _ _) λ_ _=>ts) (wm (λ_=>tb (Aex _ _) λ⟨_,_,_,_,_,_,_,_,_,_,_,_⟩ _=>ti (λ_=>tb (Bf _) λ_ _=>ts) λ_=>tb (At2 _ _ _ _ _ _ _ _ _ _ _) λ⟨_,_⟩ _=>ti (λ_=>tb (Bf _) λ_ _=>ts) λ_=>tb (Alj _ _) λ_ _=>tb (Alv _ _ _) λ_ _=>ts) (wm (λ_=>tb (mM _ _) λ⟨_,_,_,_,_⟩ _=>tb (Aru _ _ _ _ _) λ_ _=>ts) (wm (λ_=>tb (TP _ _) λ⟨_,_,_,_,_⟩ _=>tb (AB _ _ _ _ _) λ_ _=>ts) (wm (λ_=>tb (Axb _ _) λ⟨_,_⟩ _=>tb (Nb _ _) λ_ _=>ts) (wm (λ_=>tb (aM _ _ _) λ⟨_,_,_,_,_,_⟩ _=>tb (AB _ _ _ _ _) λ_ _=>ts) (wm (λ_=>tb (aM _ _ _) λ⟨_,_,_,_,_,_⟩ _=>tb (AB _ _ _ _ _) λ_ _=>ts) (wm (λ_=>tb (Ace _ _) λ⟨_,_⟩ _=>tb (Vn _ _) λ_ _=>ts) (ts))))))))))) λ_=>tj (Aef _ _ _ _)
theorem Amb(zf zb h:LB)(m:List LB)(hP:Dv (Wd 100000) m/\Aa m<=100000/\Aa zf<=100000/\Aa zb<=64):T (Di zf zb (h::m)) (λr=>Aa r.2.1<=100000/\Aa r.2.2<=64/\Aa r.1<=800000000/\Dv Nl r.1/\ (r.2.1=zf/\r.2.2=zb\/Mu h)):=by
  unfold Di Qr;have e1:Ae (h::m) (0:Int)=some h:=rfl;have e2:Bi (h::m) 1 (Aa (h::m))=some m:=by
    unfold Bi Aa;rw[BA (by simp only[C3];omega),H',K9];rfl
  rw[e1,C',e2,C'];exact Ae0 _ _ _ _ ⟨hP.1,hP.2.1,hP.2.2.1,hP.2.2.2, .inl ⟨rfl,rfl⟩⟩
theorem whl:Aa ([119,104,97,116]:LB)<=800000000:=by simp[Aa]
theorem wh:Dv Nl [119,104,97,116]:=Cg F4
theorem Avc(f b h:LB)(hf:Aa f<=100000/\Aa b<=64)(xs:List LB):∀m:List LB,Dv (Le 100000) xs->Dv (Wd 100000) (h::m)->Aa m+Aa xs<=99999->T (Ez f b xs (h::m)) (λr=>Aa r.2.1<=100000/\Aa r.2.2<=64/\Aa r.1<=800000000/\Dv Nl r.1/\ (r.2.1=f/\r.2.2=b\/Mu h)):=by
  induction xs with
  |nil=>exact λm _ h2 h3=>Amb f b h m ⟨λx hx=>h2 x (H! _ hx),by unfold Aa at *;simp at h3;omega,hf.1,hf.2⟩
  |cons x xs ih=>
    intro m h1 h2 h3;unfold Ez;refine ti (λ_=>⟨_,rfl,hf.1,hf.2,whl,wh, .inl ⟨rfl,rfl⟩⟩) λhx=>ta ?_ (by unfold Aa at *;simp only[C3,C2]at *;omega);have hx1:1<=Aa x:=by
      cases x with
      |nil=>cases hx
      |cons a l=>unfold Aa;simp only[C3];omega
    exact ih (m++[x]) (λy hy=>h1 y (H! _ hy)) (Ad h2 (Ba ⟨hx1,h1 x (H6 ..)⟩)) (by unfold Aa at *;simp only[C3,C!,C2]at *;omega)
theorem nk(c:UInt8):∀(q:Nat) (s:LB),s.length<q->Dv (Le (Aa s)) (Lu c q s)/\ (Lu c q s).length<=s.length+1
  |0,s,h=>absurd h (lg _)
  |q+1,s,h=>by
    unfold Lu;have hb:=XJ s c;split
    · exact⟨Ba (H3 _),F7⟩
    · rename_i h1
      simp only[Ph,zi,E_]at h1;unfold Aa at hb;have hd:(s.drop ((Fe s c).toNat+1)).length=s.length-((Fe s c).toNat+1):=D';have k:=nk c q (s.drop ((Fe s c).toNat+1)) F3;refine⟨all_cons (by unfold Le Aa;rw[C5];omega) λx hx=>?_,by rw[C3];omega⟩;have:=k.1 x hx;unfold Le Aa at *;omega
theorem Aau(f b dq:LB)(hP:Aa f<=100000/\Aa b<=64/\Aa dq<=50000):T (Cd f b dq) (λr=>Aa r.2.1<=100000/\Aa r.2.2<=64/\Aa r.1<=800000000/\Dv Nl r.1/\ (r.2.1=f/\r.2.2=b\/∃h,(Lu 32 (dq.length+1) dq).head? =some h/\Mu h)):=by
  have k:=nk 32 (dq.length+1) dq (VG _);unfold Cd vX;rw[Option.bind_assoc];refine tw ?_ (G0 F3);rw[C'];cases hs:Lu 32 (dq.length+1) dq with
  |nil=>
    unfold Lu at hs;split at hs<;>cases hs
  |cons x xs=>
    rw[hs]at k;unfold Ez;refine ti (λ_=>⟨_,rfl,hP.1,hP.2.1,whl,wh, .inl ⟨rfl,rfl⟩⟩) λhx=>ta ?_ WV;have hx1:1<=Aa x:=by
      cases x with
      |nil=>cases hx
      |cons a l=>unfold Aa;simp only[C3];omega
    have hle:∀y∈x::xs,Aa y<=100000:=λy hy=>by
      have:=k.1 y hy;unfold Le at this;omega
    refine tm (Avc f b x ⟨hP.1,hP.2.1⟩ xs [] (λy hy=>hle y (H! _ hy)) (Ba ⟨hx1,hle x (H6 ..)⟩) (by have:=k.2;unfold Aa at *;simp only[C3,C2]at *;omega)) λy hy=>⟨hy.1,hy.2.1,hy.2.2.1,hy.2.2.2.1,hy.2.2.2.2.imp id λhm=>⟨x,rfl,hm⟩⟩
def outs(f b:LB):List LB->List LB
 |[]=>[]
 |l::ls=>match Cd f b l with
  |some r=>r.1::outs r.2.1 r.2.2 ls
  |none=>[]
def held(f b:LB):List LB->LB×LB
 |[]=>(f,b)
 |l::ls=>match Cd f b l with
  |some r=>held r.2.1 r.2.2 ls
  |none=>(f,b)
def Tw:List LB->LB
 |[]=>[]
 |l::ls=>l++10::Tw ls
def Ok2(f b:LB):Prop:=Aa f<=100000/\Aa b<=64
def Ls(l:LB):Prop:=Dv Nl l/\Aa l<=3000
theorem ord{f b l:LB}(h:Ok2 f b)(hl:Aa l<=3000):∃r,Cd f b l=some r/\Ok2 r.2.1 r.2.2/\Aa r.1<=800000000/\Dv Nl r.1/\ (r.2.1=f/\r.2.2=b\/∃h,(Lu 32 (l.length+1) l).head? =some h/\Mu h):=by
 obtain⟨r,e,h1,h2,h3,h4,h5⟩:=Aau f b l ⟨h.1,h.2,F3⟩;exact⟨r,e,⟨h1,h2⟩,h3,h4,h5⟩
theorem tI(l m:List LB):Tw (l++m)=Tw l++Tw m:=by
 induction l with
 |nil=>rfl
 |cons x l ih=>simp only[IP,Tw,ih,H?]
theorem trim(l:LB)(hl:Aa l<=3000):Ge (l++[10]) [10]=some l:=by
 have e1:Aa (l++[10])=Aa l+1:=by unfold Aa;simp
 have h0:0<=Aa l:=by unfold Aa;omega
 have e2:Aa ([10]:LB)=1:=rfl;have c1:Bi (l++[10]) (Aa l) (Aa l+1)=some [10]:=by
  unfold Bi Aa;rw[BA F5,show((l.length:Int)+1).toNat=(l++[10]).length by simp,K9];simp
 have c2:Bi (l++[10]) 0 (Aa l)=some l:=by
  unfold Bi Aa;rw[BA F5];simp
 have e3:Ag (Aa l+1) 1=Aa l:=by rw[AR];omega
 unfold Ge Et Cy;rw[e1,e2,e3,BA (by rw[Yp];exact G0 (by show 1<=Aa l+1;omega)),c1,C',C',BA F4,c2];rfl
theorem At0(ls:List LB):∀(f b a:LB),Ok2 f b->Dv Ls ls->Aa a+800000001*Aa ls<=17179869184->Mo (ls.map (· ++[10])) f b a=some (a++Tw (outs f b ls),0):=by
 induction ls with
 |nil=>
  intro f b a _ _ ha;rw[O0,Mo,Es,BA (G0 (by unfold Aa at *;simp at ha;omega))];simp[outs,Tw]
 |cons l ls ih=>
  intro f b a h hl ha;obtain⟨⟨m,n,o⟩,e,h1,h2,_⟩:=ord h (hl l (H6 ..)).2;simp only at h1 h2;have h3:Aa (l::ls)=Aa ls+1:=by unfold Aa;simp
  have h4:0<=Aa ls:=by unfold Aa;omega
  have h5:Aa (a++(m++[10]))=Aa a+Aa m+1:=by unfold Aa;simp;omega
  have h6:0<=Aa a:=by unfold Aa;omega
  have ih:=ih n o (a++(m++[10])) h1 (λx hx=>hl x (H! _ hx)) F3;rw[G9,Mo,trim l (hl l (H6 ..)).2,C',e,C'];unfold Aa at*
  simp only;rw[Qt kT,C',Qt (by simp only[C!,I2];omega),C',ih];simp[outs,e,Tw]
theorem uL:∀(l s:LB),Dv Nl l->Fe (l++10::s) 10=Aa l
 |[],s,_=>rfl
 |x::l,s,h=>by
  have hx:x≠10:=h x (H6 ..);have ih:=uL l s λy hy=>h y (H! _ hy);rw[IP,Fe,C1 (by simp[hx]),ih,C1 WV];unfold Aa;simp
theorem f_:∀(ls:List LB) (q:Nat),Dv Ls ls-> (Tw ls).length<q->Ud q (Tw ls)=ls.map (· ++[10])
 |[],q,_,h=>by
  cases q with
  |zero=>omega
  |succ q=>rfl
 |l::ls,q,h,hq=>by
  cases q with
  |zero=>omega
  |succ q=>
   have hl:=h l (H6 ..);have i:=uL l (Tw ls) hl.1;have ih:=f_ ls q (λx hx=>h x (H! _ hx)) (by rw[Tw]at hq;simp at hq;omega);have h0:0<=Aa l:=by unfold Aa;omega
   have e:Tw (l::ls)=l++10::Tw ls:=rfl;rw[e];cases hc:l++10::Tw ls with
   |nil=>cases l<;>cases hc
   |cons c s=>
    rw[hc]at i;rw[Ud,i,C1 (by rw[Ph];simp only[zi,E_];omega),<-hc];have e1:(Aa l).toNat+1=(l++[10]).length:=by unfold Aa;simp
    have e2:l++10::Tw ls=(l++[10])++Tw ls:=by simp
    rw[e1,e2,List.take_left,QU,ih,G9]
theorem M_:∀ls,Dv Ls ls-> (Tw ls).count 10=ls.length
 |[],_=>rfl
 |l::ls,h=>by
  have ih:=M_ ls λx hx=>h x (H! _ hx);have:l.count 10=0:=List.count_eq_zero.2 λhm=>(h l (H6 ..)).1 10 hm rfl;rw[Tw,List.count_append,List.count_cons,this,ih,C3];simp
theorem Aen(ls:List LB)(h:ls≠ [])(hl:Aa (Tw ls)<=3000):Ra (Tw ls) [10]=some true:=by
 have e:∃s,Tw ls=s++[10]:=by
  clear hl
  induction ls with
  |nil=>exact absurd rfl h
  |cons l ls ih=>
   cases ls with
   |nil=>exact⟨l,rfl⟩
   |cons m ls=>
    obtain⟨s,e⟩:=ih F7;exact⟨l++10::s,by rw[Tw,e];simp⟩
 obtain⟨s,e⟩:=e;rw[e]at hl⊢;have e1:Aa (s++[10])=Aa s+1:=by unfold Aa;simp
 have h0:0<=Aa s:=by unfold Aa;omega
 have e2:Aa ([10]:LB)=1:=rfl;have c1:Bi (s++[10]) (Aa s) (Aa s+1)=some [10]:=by
  unfold Bi Aa;rw[BA F5,show((s.length:Int)+1).toNat=(s++[10]).length by simp,K9];simp
 have e3:Ag (Aa s+1) 1=Aa s:=by rw[AR];omega
 unfold Ra Cy;rw[e1,e2,e3,BA (by rw[Yp];exact G0 (by show 1<=Aa s+1;omega)),c1,C',C'];rfl
theorem Ash{ls:List LB}(h:ls≠ []):(Tw ls !=([]:LB))=true:=by
 cases ls with
 |nil=>exact absurd rfl h
 |cons l ls=>rw[Tw];cases l<;>rfl
theorem Ahc(ls:List LB)(h:Dv Ls ls)(hl:Aa (Tw ls)<=3000)(hn:ls.length<=40):Qa (Tw ls)=some 0:=by
 have hc:strings_Count (Tw ls) [10]=some (ls.length:Int):=by
  rw[<-M_ ls h];rfl
 unfold Qa VV;rw[C1 (by rw[Sm];simp only[zi,E_];omega),hc,C',C1 (by rw[Sm];simp only[zi,E_];omega)];unfold QX UJ;by_cases h0:ls=[]
 ·subst h0;rfl
 ·rw[BA (Ash h0),Aen ls h0 hl];rfl
theorem Am3(ls:List LB)(h:Dv Ls ls)(hl:Aa (Tw ls)<=3000)(hn:ls.length<=20):Xw (Tw ls)=some (Tw (outs [] [] ls),0):=by
 unfold Xw;rw[Ahc ls h hl F3,C',C1 F4];unfold q! Es;rw[BA (G0 F3),C',C',f_ ls _ h (VG _),At0 ls [] [] [] ⟨F4,F4⟩ h VT];rfl
theorem X9:∀(ls:List LB) (f b:LB),Ok2 f b->Dv Ls ls-> (outs f b ls).length=ls.length/\Dv (Dv Nl) (outs f b ls)/\Ok2 (held f b ls).1 (held f b ls).2
 |[],f,b,h,_=>⟨rfl,all_nil,h⟩
 |l::ls,f,b,h,hl=>by
  obtain⟨r,e,h1,h2,h3,_⟩:=ord h (hl l (H6 ..)).2;have ih:=X9 ls r.2.1 r.2.2 h1 λx hx=>hl x (H! _ hx);simp only[outs,held,e];exact⟨by rw[C3,C3,ih.1],all_cons h3 ih.2.1,ih.2.2⟩
theorem pz:∀(ls ms:List LB) (f b:LB),Ok2 f b->Dv Ls ls->outs f b (ls++ms)=outs f b ls++outs (held f b ls).1 (held f b ls).2 ms
 |[],ms,f,b,h,_=>rfl
 |l::ls,ms,f,b,h,hl=>by
  obtain⟨r,e,h1,h2,h3,_⟩:=ord h (hl l (H6 ..)).2;have ih:=pz ls ms r.2.1 r.2.2 h1 λx hx=>hl x (H! _ hx);simp only[IP,outs,held,e,ih]
theorem VM(h:p:=by simp only[zi];unfold Aa;omega):p:=h
theorem jT{l:List α}(h:i<l.length):Ae l (i:Int)=some l[i]:=by
  unfold Ae;rw[BA F3,H',E7 h]
theorem dQ{l:List α}(h:i<l.length):Bw (i:Int) (Aa l)=true:=by rw[Ph];exact G0 VM
theorem uz{l:List α}(h:¬i<l.length):¬Bw (i:Int) (Aa l)=true:=by rw[Ph];simp only[zi,E_];unfold Aa;omega
theorem eq8(x y:UInt8):(geq x y=true)=(x=y):=by
  rw[BP,E_,z8,z8];exact propext ⟨λh=>UInt8.toNat_inj.1 F3,λh=>by rw[h]⟩
theorem Ad9(a:LB)(ha:a.length<=9223372036854775807):∀(q i:Nat),i<=a.length/\a.length<i+q->Ht a q (((a.take i).count 10:Nat):Int) i=Lh a ((a.count 10:Nat):Int):=
 ind (λi hI=>by exfalso;omega) λq ih i hI=>by
  rw[Ht,Qp];by_cases h:i<a.length
  · have k:=ih (i+1) ⟨F3,F3⟩
    have hc:=List.count_le_length (a:=10) (l:=a.take i);rw[C5]at hc;rw[wB h,List.count_append,List.count_singleton]at k;have e1:Af (i:Int) 1=((i+1:Nat):Int):=by rw[Ie];omega
    rw[BA (dQ h),jT h,C',e1];by_cases hx:a[i]=10
    · rw[hx]at k
      rw[BA (by rw[eq8];exact hx),Ie];exact k
    · have hb:(a[i]==10)=false:=by simp[hx]
      rw[C1 (by rw[eq8];exact hx)];rw[hb]at k;exact k
  · rw[C1 (uz h),K6 F3]
    rfl
theorem Aj2(a:LB)(ha:a.length<=9223372036854775807):Gh a=Lh a ((a.count 10:Nat):Int):=
  Ad9 a ha As 0 ⟨F3,by have:=Dc;omega⟩
theorem P3(a P l R:LB)(h:a=P++l++10::R)(hl:Dv Nl l)(ha:a.length<=17179869184)(f:List LB)(hf:f.length<=1000000):∀(n q:Nat),n<=l.length->Cf a (q+n+1) P.length ((P.length+l.length-n:Nat):Int) f=Cf a q ((P.length+l.length+1:Nat):Int) ((P.length+l.length+1:Nat):Int) (f++[l])
  |0,q,hn=>by
    have e1:a.length=P.length+l.length+1+R.length:=by rw[h];simp;omega
    have e2:a[P.length+l.length]' F3=10:=by
      simp only[h];rw[kK F7];simp
    have e3:Bi a (P.length:Int) ((P.length+l.length:Nat):Int)=some l:=by
      unfold Bi;rw[BA F3,H',H',h,kH F7,K6 F7,QU]
    show Cf a (q+1) _ _ f=_;rw[Cf,Hr,WG,BA (dQ F3),jT F3,C',e2,BA (by rw[eq8]),e3,C',Qt F5,C',Ie];rfl
  |n+1,q,hn=>by
    have e1:a.length=P.length+l.length+1+R.length:=by rw[h];simp;omega
    have hi:P.length+l.length-(n+1)<a.length:=F3
    have e2:Nl a[P.length+l.length-(n+1)]:=by
      refine hl _ ?_;simp only[h];rw[List.getElem_append_left F5,kK F3];exact L! _
    have ih:=P3 a P l R h hl ha f hf n q F3;have e4:Af ((P.length+l.length-(n+1):Nat):Int) 1=((P.length+l.length-n:Nat):Int):=by rw[Ie];omega
    show Cf a ((q+n+1)+1) _ _ f=_;rw[Cf,Hr,BA (dQ hi),jT hi,C',C1 (by rw[eq8];exact e2),e4];exact ih
theorem mg(a:LB)(ha:a.length<=17179869184):∀(ls:List LB) (P:LB) (f:List LB) (q:Nat),a=P++Tw ls->Dv (Dv Nl) ls-> (Tw ls).length<q->f.length+ls.length<=1000000->Cf a q P.length P.length f=some (f++ls)
  |[],P,f,q,h,hl,hq,hf=>by
    cases q with
    |zero=>omega
    |succ q=>
      have e:a.length=P.length:=by rw[h];simp[Tw]
      rw[Cf,Hr,C1 (uz F3)];simp[Qq,CF]
  |l::ls,P,f,q,h,hl,hq,hf=>by
    have e:(Tw (l::ls)).length=l.length+(Tw ls).length+1:=by rw[Tw];simp;omega
    have h2:a=P++l++10::Tw ls:=by rw[h,Tw];simp
    have h3:a=(P++l++[10])++Tw ls:=by rw[h2];simp
    simp only[C3]at hf;have k:=P3 a P l (Tw ls) h2 (hl l (H6 ..)) ha f F3 l.length (q-l.length-1) (E3 _);have ih:=mg a ha ls (P++l++[10]) (f++[l]) (q-l.length-1) h3 (λx hx=>hl x (H! _ hx)) F3 F5;rw[show q-l.length-1+l.length+1=q by omega,Nat.add_sub_cancel]at k;have e5:((P++l++[10]).length:Int)=((P.length+l.length+1:Nat):Int):=by simp;omega
    rw[e5]at ih;rw[k,ih];simp
theorem Am4(ls:List LB):ls.length<= (Tw ls).length:=by
  induction ls with
  |nil=>exact E3 _
  |cons l ls ih=>rw[Tw,C!,C3,C3];omega
theorem S_(ls:List LB)(hl:Dv (Dv Nl) ls)(h:(Tw ls).length<=17179869184)(hn:ls.length<=1000000):Ld (Tw ls)=some ls:=
  mg (Tw ls) h ls [] [] As rfl hl (by have:=Dc;omega) F5
theorem uZ:∀(n:Nat) (a:LB),a.length<=n-> (a=[]\/a.getLast? =some 10)->∃ls,Dv (Dv Nl) ls/\a=Tw ls
  |0,a,hn,_=>⟨[],all_nil,by cases a with|nil=>rfl|cons x l=>simp at hn⟩
  |n+1,a,hn,h=>by
    rcases h with rfl|h
    · exact⟨[],all_nil,rfl⟩
    · have h10:10∈a:=List.mem_of_getLast? h
      obtain⟨l,r,e,hl⟩:∃l r,a=l++10::r/\Dv Nl l:=by
        clear h hn
        induction a with
        |nil=>cases h10
        |cons x s ih=>
          by_cases hx:x=10
          · exact⟨[],s,by rw[hx];rfl,all_nil⟩
          · obtain⟨l,r,e,hl⟩:=ih ((List.mem_cons.1 h10).resolve_left λe=>hx e.symm)
            exact⟨x::l,r,by rw[e];rfl,all_cons hx hl⟩
      have hr:r=[]\/r.getLast? =some 10:=by
        cases r with
        |nil=>exact .inl rfl
        |cons x s=>
          refine .inr ?_;rw[e,List.getLast?_append,List.getLast?_cons_cons]at h;cases hs:(x::s).getLast? with
          |none=>simp at hs
          |some z=>rw[hs]at h;exact h
      obtain⟨ls,k1,k2⟩:=uZ n r (by rw[e]at hn;simp at hn;omega) hr;exact⟨l::ls,all_cons hl k1,by rw[e,k2];rfl⟩
theorem xV(h:p:=by rw[Sm];simp only[zi,E_];unfold Aa;omega):p:=h
theorem Aiw(a:LB)(ha:a.length<=9223372036854775807):Gh a=some 4\/Gh a=some 12\/ (Gh a=some 0/\ (a=[]\/a.getLast? =some 10)):=by
 rw[Aj2 a ha];unfold Lh;split
 ·exact .inl rfl
 ·cases a with
  |nil=>exact .inr (.inr ⟨rfl, .inl rfl⟩)
  |cons x s=>
   have hl:Ag (Aa (x::s)) 1=(s.length:Int):=by
    rw[show Aa (x::s)=(s.length:Int)+1 from by unfold Aa;simp,AR (by simp at ha;omega) (by simp at ha;omega)];omega
   have hg:Ae (x::s) (s.length:Int)=some ((x::s).getLast F7):=by
    rw[jT F7,List.getLast_eq_getElem];rfl
   rw[BA (by rw[Sm];exact G0 (by simp only[zi];unfold Aa;simp)),hl,hg,C'];split
   ·exact .inr (.inl rfl)
   ·rename_i h;refine .inr (.inr ⟨rfl, .inr ?_⟩);have h2:(x::s).getLast F7=10:=by
     simp only[Ul,z8,E_,CB,Decidable.not_not]at h;exact UInt8.toNat_inj.1 F3
    rw[List.getLast?_eq_some_getLast F7,h2]
theorem Aoz(a:LB)(ha:a.length<=9223372036854775807):Ny a=some false\/ (Ny a=some true/\∃ls,Dv Ls ls/\a=Tw ls/\ (Tw ls).length<=800/\ls.length<=15):=by
 unfold Ny Ww;rcases Aiw a ha with h|h|⟨h,hl⟩
 ·rw[h];simp only[C'];left;rw[BA F4];simp only[C'];split<;>rfl
 ·rw[h];simp only[C'];left;rw[BA F4];simp only[C'];split<;>rfl
 ·rw[h];simp only[C'];rw[C1 F4];by_cases h8:a.length<=800
  ·obtain⟨ls,k1,rfl⟩:=uZ a.length a (E3 _) hl;have hn:=Am4 ls;rw[C1 xV,S_ ls k1 F3 F3,C',C'];by_cases h15:ls.length<=15
   ·right;refine⟨?_,ls,λx hx=>⟨k1 x hx,?_⟩,rfl,h8,h15⟩
    ·rw[show Dr (Aa ls) 15=false by rw[Sm];exact l! VM];rfl
    ·have:∀m:List LB,x∈m->x.length<= (Tw m).length:=λm hm=>by
      induction m with
      |nil=>cases hm
      |cons y m ih=>
       rw[Tw,C!,C3];rcases List.mem_cons.1 hm with rfl|hm
       ·omega
       ·have:=ih hm;omega
     have:=this ls hx;unfold Aa;omega
   ·left;rw[show Dr (Aa ls) 15=true by rw[Sm];exact G0 VM];rfl
  ·left;rw[BA (by rw[Sm];exact G0 VM)];rfl
theorem qI:∀(ls:List LB) (f b:LB),Ok2 f b->Dv Ls ls-> (Tw (outs f b ls)).length<=800000001*ls.length
 |[],f,b,h,_=>by simp[outs,Tw]
 |l::ls,f,b,h,hl=>by
  obtain⟨r,e,h1,h2,h3,_⟩:=ord h (hl l (H6 ..)).2;have ih:=qI ls r.2.1 r.2.2 h1 λx hx=>hl x (H! _ hx);simp only[outs,e,Tw];unfold Aa at h2;rw[C!,C3,C3];omega
theorem pA:∀ls:List LB,ls≠ []-> (Tw ls).getLast? =some 10
 |[],h=>absurd rfl h
 |[l],_=>by simp[Tw]
 |l::m::ls,_=>by
  have ih:=pA (m::ls) F7;rw[Tw,List.getLast?_append];have e:(10::Tw (m::ls)).getLast? =some 10:=by
   rw[List.getLast?_cons,ih];rfl
  rw[e];rfl
theorem ok0:Ok2 [] []:=⟨by simp[Aa],by simp[Aa]⟩
theorem nU(ls:List LB)(h:Dv Ls ls)(hl:(Tw ls).length<=3000)(hn:ls.length<=20):Kx (Tw ls)=some (outs [] [] ls,true):=by
 have k:=X9 ls [] [] ok0 h;have kb:=qI ls [] [] ok0 h;have hs:=S_ (outs [] [] ls) k.2.1 F3 F3;unfold Kx;rw[Am3 ls h F8 hn,C'];simp only;rw[C1 F4];generalize outs [] [] ls=o at*
 by_cases h0:o=[]
 ·subst h0;rfl
 ·have hl2:=pA o h0;cases ht:Tw o with
  |nil=>rw[ht]at hl2;cases hl2
  |cons x s=>
   rw[ht]at hl2 hs kb;rw[C3]at kb;have hl:Ag (Aa (x::s)) 1=(s.length:Int):=by
    rw[show Aa (x::s)=(s.length:Int)+1 from by unfold Aa;simp,AR];omega
   have hg:Ae (x::s) (s.length:Int)=some 10:=by
    rw[jT F7,<-hl2,List.getLast?_eq_getElem?,E7 F7];simp
   rw[BA (by rw[Sm];exact G0 (by simp only[zi];unfold Aa;simp)),hl,hg,C',C1 F4,hs,C']
end Go.Pl
set_option maxRecDepth 100000
namespace Go.Pl
open Go Go.Lv
theorem Aoc:Pd=some true:=by kernel_rfl
def bg(l w:LB):Bool:=decide (w.length<=l.length)&&(l.take w.length==w&&(decide (l.length=w.length)||l[w.length]? ==some 32))
theorem Z?:∀(l s:LB),32∉l->Fe (l++32::s) 32=Aa l
 |[],s,_=>rfl
 |x::l,s,h=>by
  rw[C?,L?]at h;have ih:=Z? l s h.2;rw[IP,Fe,C1 (by simp;exact λe=>h.1 e.symm),ih,C1 WV];unfold Aa;simp
theorem G!:∀(l:LB),32∉l->Fe l 32= -1
 |[],_=>rfl
 |x::l,h=>by
  rw[C?,L?]at h;rw[Fe,C1 (by simp;exact λe=>h.1 e.symm),G! l h.2];rfl
theorem Aea{l w:LB}(hw:32∉w)(h:bg l w=true)(q:Nat):(Lu 32 (q+1) l).head? =some w:=by
 unfold bg at h;simp only[B_,C7,E_,beq_iff_eq]at h;obtain⟨h1,h2,h3⟩:=h;rw[Lu];rcases h3 with h3|h3
 ·have:l=w:=by rw[<-h3,K9]at h2;exact h2
  subst this;rw[G! l hw,BA F4];rfl
 ·have h4:w.length<l.length:=by
   rcases I4 w.length l.length with h|h
   ·exact h
   ·rw[J5 h]at h3;cases h3
  have e:l=w++32::l.drop (w.length+1):=by
   rw[E7 h4]at h3;rw[<-G1 h3,<-UK h4]
   conv=>lhs;rw[<-kM w.length l,h2]
  have i:=Z? w (l.drop (w.length+1)) hw;rw[<-e]at i;rw[i,C1 kS,List.head?_cons];unfold Aa;rw[H',h2]
def shW:List LB:=[[104,101,120],[114,101,112,111,114,116],[116,111,108,100],[112,108,97,99,101],[115,97,109,112,108,101,115],[98,97,100],[115,107,105,112],[115,105,108,101,110,116],[102,114,97,109,101],[102,114,111,109],[97,116],[119,97,118],[119,97,121,115],[115,99,114,105,112,116],[112,101,97,107]]
theorem Aep{f b l:LB}{r:LB×LB×LB}(h:Ok2 f b)(hl:Aa l<=3000)(e:Cd f b l=some r)(hs:shW.any (bg l)=true):r.2.1=f/\r.2.2=b:=by
 obtain⟨r2,e2,_,_,_,h3⟩:=ord h hl;rw[e]at e2;obtain rfl:=G1 e2;rcases h3 with h3|⟨x,hx,hm⟩
 ·exact h3
 ·exfalso;obtain⟨w,hw,hb⟩:=List.any_eq_true.1 hs;have hw2:∀w∈shW,(32:UInt8)∉w/\ ¬Mu w:=by
   intro w hw;have:(shW.all λw=>!(w.contains 32)&& !(w==[112,97,115,115,119,111,114,100]||(w==[102,105,108,101]||(w==[97,100,100]||(w==[99,117,116]||(w==[102,108,105,112]||(w==[98,117,114,115,116]||w==[99,108,105,112])))))))=true:=F4
   have:=List.all_eq_true.1 this w hw;simp only[B_,C6,C8,List.contains_eq_mem,G7]at this;refine⟨this.1,λhm=>?_⟩;unfold Mu at hm;simp only[this.2,C9,or_self]at hm
  rw[Aea (hw2 w hw).1 hb l.length]at hx;obtain rfl:=G1 hx;exact(hw2 w hw).2 hm
def kept(ls:List LB):List LB:=ls.filter λl=>!shW.any (bg l)
def X3:LB:=[48,49,50,51,52,53,54,55,56,57,97,98,99,100,101,102]
def vo(b:UInt8):Bool:=Fe X3 (hd (Da b (GI.toZ (4:UInt64)).toNat))==((Da b (GI.toZ (4:UInt64)).toNat).toNat:Int)&&(Fe X3 (hd (Dq b 15))==((Dq b 15).toNat:Int)&&(Am (B? (Fc ((Da b (GI.toZ (4:UInt64)).toNat).toNat:Int) (GI.toZ (4:UInt64)).toNat) ((Dq b 15).toNat:Int)):UInt8)==b)
theorem Aly:((List.range 256).all λn=>vo (UInt8.ofNat n))=true:=by kernel_rfl
theorem Ajt(b:UInt8):Fe X3 (hd (Da b (GI.toZ (4:UInt64)).toNat))=((Da b (GI.toZ (4:UInt64)).toNat).toNat:Int)/\Fe X3 (hd (Dq b 15))=((Dq b 15).toNat:Int)/\ (Am (B? (Fc ((Da b (GI.toZ (4:UInt64)).toNat).toNat:Int) (GI.toZ (4:UInt64)).toNat) ((Dq b 15).toNat:Int)):UInt8)=b:=by
 have h:=List.all_eq_true.1 Aly b.toNat (List.mem_range.2 b.toNat_lt);rw[UInt8.ofNat_toNat]at h;unfold vo at h;simp only[B_,beq_iff_eq]at h;exact h
theorem qZ:∀(f a:LB),a.length+f.length<=1000000->Ga (f.map λb=>[hd (Da b (GI.toZ (4:UInt64)).toNat),hd (Dq b 15)]) a=some (a++f,true)
 |[],a,_=>by simp[Ga]
 |b::f,a,h=>by
  rw[C3]at h;obtain⟨h1,h2,h3⟩:=Ajt b;have ih:=qZ f (a++[b]) F5;have i1:∀x:UInt8,Df [48,49,50,51,52,53,54,55,56,57,97,98,99,100,101,102] x=some (Fe X3 x):=λx=>rfl;rw[G9,Ga,show∀x y:UInt8,Ae [x,y] (0:Int)=some x from λ_ _=>rfl,C',show∀x y:UInt8,Ae [x,y] (1:Int)=some y from λ_ _=>rfl,C',i1,C',i1,C',h1,h2,C1 (by simp only[Ph,zi,C7,E_];omega),h3,Qt F5,C',ih];simp
theorem g_:∀f:LB,Uj (Of f)=f.map λb=>[hd (Da b (GI.toZ (4:UInt64)).toNat),hd (Dq b 15)]
 |[]=>rfl
 |b::f=>by rw[Of,Uj,g_ f];rfl
theorem Aii(f:LB)(h:f.length<=100000):Im (Of f)=some (f,true):=by
 have hl:=VR f;unfold Im;have e:Jb (Aa (Of f)) 2=0:=by rw[Fk,WJ _ F8];unfold Aa;omega
 rw[e,C1 F4,C1 F4];unfold Y2 Es;rw[BA (G0 F8),C',C',g_,qZ f [] F5];rfl
theorem vM(n:UInt8)(h:n.toNat<16):hd n≠32:=by
 have:∀x∈X3,x≠(32:UInt8):=F4
 refine this _ ?_;unfold hd X3;rw[G3,E7 (by simpa using h)];exact L! _
theorem Apx(f:LB):(32:UInt8)∉Of f:=by
 induction f with
 |nil=>simp[Of]
 |cons x l ih=>
  rw[Of,C?,C?,L?,L?];exact⟨λe=>vM _ (zn4 _) e.symm,λe=>vM _ (z15 _) e.symm,ih⟩
theorem rI(f b w:LB)(hw:w≠ [])(hs:(32:UInt8)∉w)(hl:w.length<=3000):Cd f b w=Di f b [w]:=by
 unfold Cd vX Es;rw[BA (G0 F8),C',C',Lu,G! w hs,BA F4,Ez,C1 (by simpa using hw),Qt F7,C'];rfl
theorem Ana(f b w x:LB)(hw:w≠ [])(hs:(32:UInt8)∉w)(hx:x≠ [])(ht:(32:UInt8)∉x)(hl:w.length+x.length<=3000):Cd f b (w++32::x)=Di f b [w,x]:=by
 unfold Cd vX Es;rw[BA (G0 VT),C',C',Lu,Z? w x hs,C1 kS];have e1:(w++32::x).take (Aa w).toNat=w:=by unfold Aa;simp
 have e2:(w++32::x).drop ((Aa w).toNat+1)=x:=by
  rw[show w++32::x=(w++[32])++x by simp,show(Aa w).toNat+1=(w++[32]).length by unfold Aa;simp,QU]
 have e3:(w++32::x).length=(w.length+x.length)+1:=by simp;omega
 rw[e1,e2,e3,Lu,G! x ht,BA F4,Ez,C1 (by simpa using hw),Qt F7,C',Ez,C1 (by simpa using hx),Qt F7,C'];rfl
set_option maxRecDepth 100000 in
theorem Alo(f b:LB):Di f b [[104,101,120]]=Option.bind (Ei f 0) λz=>some (z,f,b):=by kernel_rfl
set_option maxRecDepth 100000 in
theorem Ahv(f b:LB):Di f b [[102,105,108,101]]=some ([48],[],b):=by kernel_rfl
set_option maxRecDepth 100000 in
theorem Aif(f b x:LB):Di f b [[102,105,108,101],x]=Option.bind (Im x) λr=>if(!r.2)=true then some ([119,104,97,116],f,b)else if Dr (Aa r.1) 100000=true then Option.bind (Ak 4) λk=>some (k,f,b)else Option.bind (strconv_Itoa (Aa r.1)) λk=>some (k,r.1,b):=by kernel_rfl
theorem Aov(f b:LB)(h:Ok2 f b):Cd f b [104,101,120]=some (Of f,f,b):=by
 rw[rI f b _ F7 F4 F7,Alo,mN f (by have:=h.1;unfold Aa at this;omega)];rfl
theorem nZ(f b:LB):Cd f b [102,105,108,101]=some ([48],[],b):=by
 rw[rI f b _ F7 F4 F7,Ahv]
theorem Al7(g b f:LB)(h:f.length<=1450)(h0:f≠ []):Cd g b ([102,105,108,101]++32::Of f)=some (gN 20 f.length [],f,b):=by
 have hl:=VR f;have hn:Of f≠ []:=by
  cases f with
  |nil=>exact absurd rfl h0
  |cons x l=>simp[Of]
 rw[Ana g b _ _ F7 F4 hn (Apx f) F5,Aif,Aii f F3,C'];simp only;rw[C1 F4,C1 xV];unfold strconv_Itoa Aa;rw[BA (G0 F3),C',C1 F3];simp
end Go.Pl
namespace Go.Pl
open Go Go.Lv
theorem OF{l r:List LB}(k:Nat)(j:Int)(hj:j=k)(hk:1<=k/\k<=r.length)(hl:l.length+r.length<=1000000):Ae (l++r) (Ag (Aa (l++r)) j)=some (r[r.length-k]' F3):=by
 subst hj;have e:Ag (Aa (l++r)) (k:Int)=((l.length+(r.length-k):Nat):Int):=by
  unfold Aa;rw[C!,AR];omega
 rw[e,jT (by rw[C!];omega),kK F3];simp
theorem Y_{f b l:LB}(h:Ok2 f b)(hl:Aa l<=3000)(hs:shW.any (bg l)=true):∃x,Cd f b l=some (x,f,b):=by
 obtain⟨⟨x,g,c⟩,e,_⟩:=ord h hl;obtain⟨rfl,rfl⟩:=Aep h hl e hs;exact⟨x,e⟩
theorem T7{l:LB}(h:(l.all λx=>!(x==10))=true)(hl:l.length<=3000):Ls l:=⟨Cg h,by unfold Aa;omega⟩
theorem Arj(hA:Pd=some true)(a:LB)(ha:a.length<=9223372036854775807):Je a=some true:=by
 unfold Je Lc;rw[hA,C'];rcases Aoz a ha with h|⟨h,ls,k1,rfl,k2,k3⟩
 ·rw[h];rfl
 ·have ko:=X9 ls [] [] ok0 k1;have hst:=ko.2.2;generalize hf:(held [] [] ls).1=f at hst;generalize hb:(held [] [] ls).2=b at hst;have t1:Ls [116,111,108,100]:=T7 F4 F4;have t2:Ls [115,97,109,112,108,101,115]:=T7 F4 F4;have t3:Ls [104,101,120]:=T7 F4 F4;have t4:Ls [102,105,108,101]:=T7 F4 F4;obtain⟨x,ex⟩:=Y_ hst t1.2 F4;obtain⟨y,ey⟩:=Y_ hst t2.2 F4;have ez:=Aov f b hst;have hl:=VR f;have o1:outs [] [] (ls++[[116,111,108,100],[115,97,109,112,108,101,115],[104,101,120]])=outs [] [] ls++[x,y,Of f]:=by
   rw[pz ls _ [] [] ok0 k1,hf,hb];simp only[outs,ex,ey,ez]
  have s1:Tw (ls++[[116,111,108,100],[115,97,109,112,108,101,115],[104,101,120]])=Tw ls++[116,111,108,100,10,115,97,109,112,108,101,115,10,104,101,120,10]:=by rw[tI];rfl
  have n1:Dv Ls (ls++[[116,111,108,100],[115,97,109,112,108,101,115],[104,101,120]]):=Ad k1 (all_cons t1 (all_cons t2 (Ba t3)));have l1:=nU _ n1 (by rw[s1,C!];simp;omega) (by rw[C!];simp;omega);rw[s1,o1]at l1;rw[h,C',C1 F4,Qt F5,C',l1,C'];simp only;have g1:=OF (l:=outs [] [] ls) (r:=[x,y,Of f]) 1 1 rfl F7 (by rw[ko.1];simp;omega);have g2:=OF (l:=outs [] [] ls) (r:=[x,y,Of f]) 2 2 rfl F7 (by rw[ko.1];simp;omega);have g3:=OF (l:=outs [] [] ls) (r:=[x,y,Of f]) 3 3 rfl F7 (by rw[ko.1];simp;omega);simp only[C3,C2,Nat.reduceAdd,Nat.reduceSub,List.getElem_cons_succ,List.getElem_cons_zero]at g1 g2 g3;rw[C1 (by simp[Ph,zi,Aa];omega),g1,C',C'];split
  ·rfl
  ·rename_i hsz;have hsz:(Tw ls).length+2*f.length<=2900:=by
    simp only[Sm,zi,E_]at hsz;unfold Aa at hsz;have:=hst.1;unfold Aa at this;rw[Ie]at hsz;omega
   have fin:∀ag:LB,Ls ag->ag.length<=2*f.length+5->Cd [] b ag=some (gN 20 f.length [],f,b)->Kz (Tw ls) true (outs [] [] ls++[x,y,Of f]) (Of f) ag=some true:=λag n2 hag eag=>by
    have ef:=nZ f b;have o2:outs [] [] (ls++[[102,105,108,101],ag,[116,111,108,100],[115,97,109,112,108,101,115],[104,101,120]])=outs [] [] ls++[[48],gN 20 f.length [],x,y,Of f]:=by
     rw[pz ls _ [] [] ok0 k1,hf,hb];simp only[outs,ef,eag,ex,ey,ez]
    have s2:Tw (ls++[[102,105,108,101],ag,[116,111,108,100],[115,97,109,112,108,101,115],[104,101,120]])=Tw ls++[102,105,108,101,10]++ag++[10,116,111,108,100,10,115,97,109,112,108,101,115,10,104,101,120,10]:=by rw[tI];simp[Tw]
    have n3:Dv Ls (ls++[[102,105,108,101],ag,[116,111,108,100],[115,97,109,112,108,101,115],[104,101,120]]):=Ad k1 (all_cons t4 (all_cons n2 (all_cons t1 (all_cons t2 (Ba t3)))));have l2:=nU _ n3 (by rw[s2];simp;omega) (by rw[C!];simp;omega);rw[s2,o2]at l2;unfold Kz;rw[Qt F5,C',Qt F5,C',Qt F5,C',l2,C'];simp only;have q1:=OF (l:=outs [] [] ls) (r:=[[48],gN 20 f.length [],x,y,Of f]) 1 1 rfl F7 (by rw[ko.1];simp;omega);have q2:=OF (l:=outs [] [] ls) (r:=[[48],gN 20 f.length [],x,y,Of f]) 2 2 rfl F7 (by rw[ko.1];simp;omega);have q3:=OF (l:=outs [] [] ls) (r:=[[48],gN 20 f.length [],x,y,Of f]) 3 3 rfl F7 (by rw[ko.1];simp;omega);have q4:=OF (l:=outs [] [] ls) (r:=[[48],gN 20 f.length [],x,y,Of f]) 4 4 rfl F7 (by rw[ko.1];simp;omega);have q5:=OF (l:=outs [] [] ls) (r:=[[48],gN 20 f.length [],x,y,Of f]) 5 5 rfl F7 (by rw[ko.1];simp;omega);simp only[C3,C2,Nat.reduceAdd,Nat.reduceSub,List.getElem_cons_succ,List.getElem_cons_zero]at q1 q2 q3 q4 q5;have eN:Fi (Ep (Aa (Of f)) 2)=some (gN 20 f.length []):=by
     have e:Ep (Aa (Of f)) 2=(f.length:Int):=by
      unfold Aa;rw[hl,Gu,lH _ F3,Db F3 F3];omega
     rw[e];unfold Fi;rw[BA (G0 F3)];rfl
    rw[BA (by simp[Yp,zi,Aa];omega),q5,C',C',BA F4,q4,C',C',eN,C',BA F7,q3,C',g3,C',C',C',BA F7,q2,C',g2,C',C',C',BA F7,q1,C',C'];simp
   by_cases h0:f=[]
   ·subst h0;rw[C1 F4];exact fin [102,105,108,101] t4 F7 (nZ [] b)
   ·have hn:Of f≠ []:=by
     cases f with
     |nil=>exact absurd rfl h0
     |cons x l=>simp[Of]
    rw[BA (by simpa using hn),Qt F5,C',Qt F5,C'];exact fin _ ⟨Ad (Cg F4) (Ad (Cg F4) (tG f)),by unfold Aa;simp;omega⟩ F5 (Al7 [] b f F3 h0)
theorem law_ConsoleHex(a:LB)(ha:a.length<=9223372036854775807):Je a=some true:=Arj Aoc a ha
end Go.Pl
