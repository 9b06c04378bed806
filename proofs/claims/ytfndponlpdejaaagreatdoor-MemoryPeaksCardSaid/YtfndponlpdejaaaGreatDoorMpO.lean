/- A part of a proof (see the text that ends in Proof). No conditions. -/
import Derived.Test.YtfndponlpdejaaaGreatDoorMpHA
set_option linter.unusedVariables false
set_option linter.unusedSimpArgs false
set_option maxRecDepth 10000
namespace Go.Proofs.YtfndponlpdejaaaGreatDoor
open Go Go.Lv Go.Pl Go.Rx Go.Rx.PS
noncomputable section
def g0:List Value:=[.int .i64 2,.int .i64 2,.int .i64 2,.int .i64 4,.int .i64 4]
def g2:List Value:=[.bool true,.int .i64 0]
def g4:List Value:=[.bool false,.int .i64 0]
def g6:List Value:=[.int .u8 0,.int .u8 1,.int .u8 56,.int .u8 2,.int .u8 57,.int .u8 49,.int .u8 28,.int .u8 3,.int .u8 61,.int .u8 58,.int .u8 42,.int .u8 50,.int .u8 38,.int .u8 29,.int .u8 17,.int .u8 4,.int .u8 62,.int .u8 47,.int .u8 59,.int .u8 36,.int .u8 45,.int .u8 43,.int .u8 51,.int .u8 22,.int .u8 53,.int .u8 39,.int .u8 33,.int .u8 30,.int .u8 24,.int .u8 18,.int .u8 12,.int .u8 5,.int .u8 63,.int .u8 55,.int .u8 48,.int .u8 27,.int .u8 60,.int .u8 41,.int .u8 37,.int .u8 16,.int .u8 46,.int .u8 35,.int .u8 44,.int .u8 21,.int .u8 52,.int .u8 32,.int .u8 23,.int .u8 11,.int .u8 54,.int .u8 26,.int .u8 40,.int .u8 15,.int .u8 34,.int .u8 20,.int .u8 31,.int .u8 10,.int .u8 25,.int .u8 14,.int .u8 19,.int .u8 9,.int .u8 13,.int .u8 8,.int .u8 7,.int .u8 6]
def gl:List (Nat×List Value):=[(0,g0),(2,g2),(4,g4),(6,g6)]
theorem mixed:Tryz.prog.follows .mixedOrders=true:=F3
noncomputable abbrev P_:=Tryz.prog
noncomputable def kt(l:List (Kc P_ gl))(v:Bool)(c:Bool:=false):=Bd1 l v c
theorem co(H:Hd){f:Nat}{F:cZ (NC H.p)->Option (cZ (NC H.r))}(hf:P_.funcs[f]? =some H.f)(h:∀x,H.u P_ x=F x:=by intro x;kernel_rfl)(hT:tY P_ H.T:=by exact Aph _ _ _)(hb:okA P_ H=true:=by kernel_rfl):ConOk P_ H.T.gl f ⟨H.p,H.r,F⟩:=Hd.cn mixed H hf hT hb h
def kk_(f:Nat)(H:Hd)(F:cZ (NC H.p)->Option (cZ (NC H.r)))(hf:P_.funcs[f]? =some H.f)(h:∀x,H.u P_ x=F x:=by intro x;kernel_rfl)(hT:tY P_ H.T:=by exact Aph _ _ _)(hb:okA P_ H=true:=by kernel_rfl):Kc P_ H.T.gl:=⟨(f,⟨H.p,H.r,F⟩),Hd.cn mixed H hf hT hb h⟩
abbrev KC_:=Kc P_ gl
abbrev hd_(p r:List Sh)(a:An)(l:List KC_)(f:Func)(v:Bool:=false)(s:List (Nat×An):=[]):Hd:=⟨p,r,a,kt l v,s,f⟩
abbrev ZT_(R:Type):=Nat->S->Option R
theorem ent127:Ent Tryz.prog 127:=Ent.mk Tryz.func127 F3 rfl
abbrev u2{A B R:Type}(f:A->B->R)(x:A×B):=f x.1 x.2
abbrev u3{A B C R:Type}(f:A->B->C->R):=u2 λa=>u2 (f a)
abbrev u4{A B C D R:Type}(f:A->B->C->D->R):=u2 λa=>u3 (f a)
abbrev u5{A B C D E R:Type}(f:A->B->C->D->E->R):=u2 λa=>u4 (f a)
abbrev u6{A B C D E F R:Type}(f:A->B->C->D->E->F->R):=u2 λa=>u5 (f a)
abbrev u7{A B C D E F G R:Type}(f:A->B->C->D->E->F->G->R):=u2 λa=>u6 (f a)
abbrev u8{A B C D E F G H R:Type}(f:A->B->C->D->E->F->G->H->R):=u2 λa=>u7 (f a)
abbrev u9{A B C D E F G H I R:Type}(f:A->B->C->D->E->F->G->H->I->R):=u2 λa=>u8 (f a)
abbrev c!{A B C D E F G H I J R:Type}(f:A->B->C->D->E->F->G->H->I->J->R):=u2 λa=>u9 (f a)
abbrev u11{A B C D E F G H I J K R:Type}(f:A->B->C->D->E->F->G->H->I->J->K->R):=u2 λa=>c! (f a)
abbrev qz{A B C D E F G H I J K L R:Type}(f:A->B->C->D->E->F->G->H->I->J->K->L->R):=u2 λa=>u11 (f a)
abbrev u13{A B C D E F G H I J K L M R:Type}(f:A->B->C->D->E->F->G->H->I->J->K->L->M->R):=u2 λa=>qz (f a)
open Go.Proofs.Tryz
namespace F16
def H:=hd_ [.lf (.list (.cons (.int .u8) (.cons (.int .i64) .nil))) none] [Sz] .d [] f16
def k:KC_:=kk_ 16 H SI func16
end F16
namespace F171
abbrev R_:=Bool
def H:=hd_ [.agg [Sc,Si]] [Sz] (.seq .d (.seq (.seq .d (.blk (.cut [1,4,5] [] .d .d))) .d)) [] f171
def k:KC_:=kk_ 171 H (u2 eL) func171
end F171
namespace F170
def H:=hd_ [.agg [Sc,Si]] [Sz] .d [F171.k] f170
def k:KC_:=kk_ 170 H (u2 CQ) func170
end F170
namespace F93
abbrev R_:=Int
abbrev K_:=S->Option R_
def H:=hd_ [.lf (.list (.cons (.int .u8) (.cons (.int .i64) .nil))) none] [Si] (.seq .d (.seq .d (.cut [] [] (.cut [7] [] (.keep [7] true) .d) .d))) [F170.k] f93 false [(169,(.seq .d (.cut [4] [] (.keep [4,7,8] true) .d))),(238,(.seq .d (.cut [] [] (.seq .d (.blk (.loop [0,1,7,8] [] (.seq .d (.seq .d (.cut [0,1,7,8] [] (.blk (.seq .d (.cut [0,1,5,7,8,16] [] .d .d))) .d)))))) .d)))]
def t11(a:List (UInt8×Int×Unit))(b:Int):S:=⟨[(0,.val (.list (.cons (.int .u8) (.cons (.int .i64) .nil))) a),(1,.fn 170 []),(7,vi (Ac a)),(8,vi b)],[],[[(4,vt false)],[]]⟩
def z11:ZT_ R_:=H.i P_ [r,r,l,l,(call 1 169),r,l,(call 2 238),r,l,r,d]
theorem i11(a:List (UInt8×Int×Unit)):∀(q:Nat) (b:Int),z11 q (t11 a b)=Fc a q b:=
 ind (λ_=>by kernel_rfl) λq ih b=>Eq.trans (b:=Vp (KZ (λb=>(z11 q) (t11 a b)) a) Bas a b) F3 (by simp only[ih]<;>rfl)
def k:KC_:=kk_ 93 H Ri func93 (λx=>Eq.trans (b:=Xs (λa b=>z11 Bm (t11 a b)) x) F3 (by simp only[i11,Al]<;>rfl))
end F93
namespace F51
def H:=hd_ [Ss] [.agg [Ss,Ob 5,.agg [Si,Si,Si,Si,Si],Ol 3,Si,Ob 5,Sz,Si],Si] .d [] f51
def k:KC_:=kk_ 51 H RO func51
end F51
namespace F126
def bN(a:LB):Option (LB):=
G_ a (
some ([]:LB)) (
(Bt ([]:LB) a).bind λb=>
some b)
theorem Bi4: @bN= @Lg:=by
  unfold bN Lg
  repeat (refine funext λ_=>?_)
  repeat' first
    |with_reducible rfl
    |with_reducible refine El ?_ ?_
    |with_reducible refine Ej ?_ ?_ ?_
    |with_reducible refine Em ?_ ?_ ?_ ?_
    |((with_reducible refine Gs ?_ ?_);focus (intro h;first|(subst h;rfl)|(simp only[h];rfl)|(simp[Bt,Ac,h];done)))
    |with_reducible refine Gh λx=>?_
    |with_reducible refine Lw (λ_=>?_) (λ_=>?_)
    |(refine Cq (λh=>by simp only[h,Gm,Bw,Bu,ite_self]) (λx h=>?_);(try simp only[h,Bw]))
    |(refine Dr (λh=>?_) (λh=>?_)<;>simp only[h,if_true,if_false,Bool.false_eq_true])
def H:=hd_ [Sb] [Ob 5] .d [] f126
def k:KC_:=kk_ 126 H Lg func126 (λx=>Eq.trans (b:=bN x) F3 (by simp only[Bi4]<;>rfl))
end F126
namespace F200
def AE(a:LI):Option (LI):=
G_ a (
some ([]:LI)) (
(Bt ([]:LI) a).bind λb=>
some b)
theorem Bit: @AE= @Jm:=by
  unfold AE Jm
  repeat (refine funext λ_=>?_)
  repeat' first
    |with_reducible rfl
    |with_reducible refine El ?_ ?_
    |with_reducible refine Ej ?_ ?_ ?_
    |with_reducible refine Em ?_ ?_ ?_ ?_
    |((with_reducible refine Gs ?_ ?_);focus (intro h;first|(subst h;rfl)|(simp only[h];rfl)|(simp[Bt,Ac,h];done)))
    |with_reducible refine Gh λx=>?_
    |with_reducible refine Lw (λ_=>?_) (λ_=>?_)
    |(refine Cq (λh=>by simp only[h,Gm,Bw,Bu,ite_self]) (λx h=>?_);(try simp only[h,Bw]))
    |(refine Dr (λh=>?_) (λh=>?_)<;>simp only[h,if_true,if_false,Bool.false_eq_true])
def H:=hd_ [Sl] [Ol 3] .d [] f200
def k:KC_:=kk_ 200 H Jm func200 (λx=>Eq.trans (b:=AE x) F3 (by simp only[Bit]<;>rfl))
end F200
namespace F122
def H:=hd_ [.agg [Ss,Sb,.agg [Si,Si,Si,Si,Si],Sl,Si,Sb,Sz,Si]] [.agg [Ss,Ob 5,.agg [Si,Si,Si,Si,Si],Ol 3,Si,Ob 5,Sz,Si]] .d [F126.k,F200.k] f122
def k:KC_:=kk_ 122 H (qz Ew) func122
end F122
namespace F184
abbrev R_:=Bool
def H:=hd_ [.agg [Si,Si,Si,Si,Si]] [Sz] (.seq .d (.cut [1] [] .d .d)) [] f184
def k:KC_:=kk_ 184 H (u5 Zn) func184
end F184
namespace F188
def H:=hd_ [Si] [Si,Si] .d [] f188
def k:KC_:=kk_ 188 H Un func188
end F188
namespace F228
def H:=hd_ [Si,Si] [Si,Si] .d [F188.k] f228
def k:KC_:=kk_ 228 H (u2 NZ) func228
end F228
namespace F185
def H:=hd_ [.agg [Si,Si,Si,Si,Si]] [Sz] .d [F228.k] f185
def k:KC_:=kk_ 185 H (u5 aT) func185
end F185
namespace F100
def H:=hd_ [.agg [Si,Si,Si,Si,Si]] [Si] .d [F184.k,F185.k] f100
def k:KC_:=kk_ 100 H (u5 Um) func100
end F100
namespace F237
def H:=hd_ [Sq,Sq] [Sq,Sq] .d [] f237
def k:KC_:=kk_ 237 H (u2 cA) func237
end F237
namespace F168
def H:=hd_ [Sq,Sq] [Sq,Sq] .d [F237.k] f168
def k:KC_:=kk_ 168 H (u2 ZJ) func168
end F168
namespace F240
def Xl(j10:LI->Option (LI))(bk8:Int->LI->Option (LI))(b:Int)(a:LI):Option (LI):=
if(Cj b (Ac a))then
both (
(pE (Ac a) b (Ac a)).bind λ_=>
(pE (Ac a) 0 b).bind λ_=>
bk8 (Af b (iI ((Ac a)-b) (jS a 0 (b-(0:Int))).length)) (JI a b ((Ac a)-b) (jS a 0 (b-(0:Int))))) [
(pE (Ac a) 0 b).bind λ_=>
(pE (Ac a) b (Ac a)).bind λ_=>
bk8 (Af b (iI ((Ac a)-b) (jS a 0 (b-(0:Int))).length)) (JI a b ((Ac a)-b) (jS a 0 (b-(0:Int))))]
else
j10 a
theorem Biq: @Xl= @Ma:=by
  unfold Xl Ma
  repeat (refine funext λ_=>?_)
  repeat' first
    |with_reducible rfl
    |with_reducible refine El ?_ ?_
    |with_reducible refine Ej ?_ ?_ ?_
    |with_reducible refine Em ?_ ?_ ?_ ?_
    |((with_reducible refine Gs ?_ ?_);focus (intro h;first|(subst h;rfl)|(simp only[h];rfl)|(simp[Bt,Ac,h];done)))
    |with_reducible refine Gh λx=>?_
    |with_reducible refine Lw (λ_=>?_) (λ_=>?_)
    |(refine Cq (λh=>by simp only[h,Gm,Bw,Bu,ite_self]) (λx h=>?_);(try simp only[h,Bw]))
    |(refine Dr (λh=>?_) (λh=>?_)<;>simp only[h,if_true,if_false,Bool.false_eq_true])
abbrev R_:=LI
def H:=hd_ [Sl,Si] [Ol 3] (.seq .d (.cut [0,1] [] .d (.seq .d (.cut [0,6] [] .d (.seq .d (.seq .d (.cut [7] [] (.blk (.loop [7,8] [] (.seq .d (.blk (.mode false))))) .d))))))) [F168.k] f240 true
def t8(b:Int)(a:LI):S:=⟨[(7,.own 0),(8,vi b)],[Ai 3 a],[]⟩
def z8:ZT_ R_:=H.i P_ [r,r,r,r,r,r,l,d]
theorem i8:∀(q:Nat) (b:Int) (a:LI),z8 q (t8 b a)=Hq q b a:=
 ind (λ_ _=>by kernel_rfl) λq ih b a=>Eq.trans (b:=Xl Qe (λb a=>(z8 q) (t8 b a)) b a) F3 (by rw[Biq];simp only[ih]<;>rfl)
def k:KC_:=kk_ 240 H (u2 Wz) func240 (λx=>Eq.trans (b:=u2 (AD (Zq (AG (λb a=>z8 Bm (t8 b a))))) x) F3 (by simp only[i8,Al]<;>rfl))
end F240
namespace F298
abbrev R_:=LI
def H:=hd_ [.lf (.list (.list (.int .i64))) none] [Ol 3] (.seq .d (.seq .d (.cut [0,3] [] (.seq .d (.blk (.loop [0,3,9,10,11] [] .d))) (.cut [0,6] [⟨6,[],.own 3 (.int .i64)⟩] (.keep [0,3,6,23,24] true) (.cut [6] [] (.seq .d (.blk (.loop [6,25,26,27] [] .d))) .d))))) [] f298 true [(337,(.seq .d (.cut [0,1] [] .d .d)))]
def t14(a:List LI)(g:Int)(f:LI):S:=⟨[(6,.own 0),(25,.val (.list (.list (.int .i64))) a),(26,vi (Ac a)),(27,vi g)],[Ai 3 f],[]⟩
def z14:ZT_ R_:=H.i P_ [r,r,r,r,l,r,d]
def t9(a:List LI)(b h:Int):S:=⟨[(0,.val (.list (.list (.int .i64))) a),(3,vi b),(9,.val (.list (.list (.int .i64))) a),(10,vi (Ac a)),(11,vi h)],[],[]⟩
def z9:ZT_ R_:=H.i P_ [r,r,l,r,d]
def x14(a:List LI)(g:Int)(f:LI):Option R_:=H.e P_ [r,r,r,r,l,r,d] (t14 a g f)
theorem i14(a:List LI):∀(q:Nat) (g:Int) (f:LI),z14 q (t14 a g f)=Ha a q g f:=
 ind (λ_ _=>by kernel_rfl) λq ih g f=>Eq.trans (b:=Ks Abj (λg f=>(z14 q) (t14 a g f)) a g f) F3 (by simp only[ih]<;>rfl)
theorem e14:x14=Xi:=by funext a g f;exact Eq.trans F3 ((i14 a Bm g f).trans (by rw[Al];rfl))
theorem i9(a:List LI):∀(q:Nat) (b h:Int),z9 q (t9 a b h)=Hp a q b h:=
 ind (λ_ _=>by kernel_rfl) λq ih b h=>Eq.trans (b:=Ly (Xk (Xg (Xf x14))) (λb h=>(z9 q) (t9 a b h)) a b h) F3 (by simp only[e14,ih]<;>rfl)
def k:KC_:=kk_ 298 H Wj func298 (λx=>Eq.trans (b:=AA (λa b h=>z9 Bm (t9 a b h)) x) F3 (by simp only[i9,Al]<;>rfl))
end F298
namespace F241
def H:=hd_ [Sl,Sl] [Ol 3] .d [F298.k] f241
def k:KC_:=kk_ 241 H (u2 gR) func241
end F241
namespace F178
def H:=hd_ [Si,Si] [Ol 3,Si] .d [F188.k,F228.k,F240.k,F241.k] f178
def k:KC_:=kk_ 178 H (u2 kJ) func178
end F178
namespace F130
def H:=hd_ [.agg [Si,Si,Si,Si,Si]] [Ol 3,Si] .d [F100.k,F178.k] f130
def k:KC_:=kk_ 130 H (u5 Fk) func130
end F130
namespace F259
def H:=hd_ [.agg [Si,Si,Si,Si,Si],Ss] [Si] .d [] f259
def k:KC_:=kk_ 259 H (u6 Vv) func259
end F259
namespace F104
abbrev R_:=Int
def H:=hd_ [Sl] [Si] (.seq .d (.seq .d (.seq .d (.cut [] [] (.seq .d (.blk (.loop [3,14,15,16] [] .d))) .d)))) [] f104
def t4(a:LI)(f b:Int):S:=⟨[(3,vi f),(14,vl a),(15,vi (Ac a)),(16,vi b)],[],[]⟩
def z4:ZT_ R_:=H.i P_ [r,r,r,l,r,d]
theorem i4(a:LI):∀(q:Nat) (f b:Int),z4 q (t4 a f b)=CC a q f b:=
 ind (λ_ _=>by kernel_rfl) λq ih f b=>Eq.trans (b:=VR Bhk (λf b=>(z4 q) (t4 a f b)) a f b) F3 (by simp only[ih]<;>rfl)
def k:KC_:=kk_ 104 H Zi func104 (λx=>Eq.trans (b:=UU (λa f b=>z4 Bm (t4 a f b)) x) F3 (by simp only[i4,Al]<;>rfl))
end F104
namespace F201
abbrev R_:=Bool
def H:=hd_ [.agg [Ss,Sb,.agg [Si,Si,Si,Si,Si],Sl,Si,Sb,Sz,Si]] [Sz] (.seq .d (.seq .d (.seq .d (.cut [1,3] [] .d (.seq .d (.seq .d (.seq .d (.cut [1,5] [] (.seq .d (.blk (.loop [1,5,83,84,85] [] .d))) .d)))))))) [F104.k,F130.k,F259.k] f201
def t6(w:LI)(o p:LB)(h b f k m:Int)(g:LI)(a:Int)(n:LB)(u:Bool)(v y aa:Int):S:=⟨[(1,.ptr 0 []),(5,vi y),(83,vl w),(84,vi (Ac w)),(85,vi aa)],[.box 41 (.agg [vs o,vb p,.agg [vi h,vi b,vi f,vi k,vi m],vl g,vi a,vb n,vt u,vi v])],[]⟩
def z6:ZT_ R_:=H.i P_ [r,r,r,r,r,r,r,l,r,d]
theorem i6(w:LI)(o p:LB)(h b f k m:Int)(g:LI)(a:Int)(n:LB)(u:Bool)(v:Int):∀(q:Nat) (y aa:Int),z6 q (t6 w o p h b f k m g a n u v y aa)=Xn w o p h b f k m g a n u v q y aa:=
 ind (λ_ _=>by kernel_rfl) λq ih y aa=>Eq.trans (b:=OP cC (λy aa=>(z6 q) (t6 w o p h b f k m g a n u v y aa)) w o p h b f k m g a n u v y aa) F3 (by simp only[ih]<;>rfl)
def k:KC_:=kk_ 201 H (qz LC) func201 (λx=>Eq.trans (b:=qz (cH (cB (λw o p h b f k m g a n u v y aa=>z6 Bm (t6 w o p h b f k m g a n u v y aa)))) x) F3 (by simp only[i6,Al]<;>rfl))
end F201
namespace F157
def H:=hd_ [Sb,Sb] [Sz] .d [] f157
def k:KC_:=kk_ 157 H (u2 Qb) func157
end F157
namespace F271
def H:=hd_ [Sb,Sb] [Sz] .d [F157.k] f271
def k:KC_:=kk_ 271 H (u2 To) func271
end F271
namespace F343
abbrev R_:=(Int×Int)
def H:=hd_ [Sb] [Si,Si] (.seq .d (.seq .d (.seq .d (.cut [4] [] (.seq .d (.blk (.loop [4,10,11,12] [] .d))) .d)))) [] f343
def t4(a:LB)(b f:Int):S:=⟨[(4,vi b),(10,vb a),(11,vi (Ac a)),(12,vi f)],[],[]⟩
def z4:ZT_ R_:=H.i P_ [r,r,r,l,r,d]
theorem i4(a:LB):∀(q:Nat) (b f:Int),z4 q (t4 a b f)=Vl a q b f:=
 ind (λ_ _=>by kernel_rfl) λq ih b f=>Eq.trans (b:=LM Bb0 (λb f=>(z4 q) (t4 a b f)) a b f) F3 (by simp only[ih]<;>rfl)
def k:KC_:=kk_ 343 H ZC func343 (λx=>Eq.trans (b:=YP (λa b f=>z4 Bm (t4 a b f)) x) F3 (by simp only[i4,Al]<;>rfl))
end F343
namespace F312
def YE(j5:LB->UInt8->UInt8->Option (Int×Int))(a:LB):Option (Int×Int):=
(To a ([(73:UInt8),(68:UInt8),(51:UInt8)]:LB)).bind λn=>
if(!n)then
some (0,6)
else
if(Cj (Ac a) 10)then
some (0,24)
else
(Aj a 3).bind λf=>
(Aj a 5).bind λb=>
(λo:Option (Int×Int)=>
(λp:Option (Int×Int)=>
both (
both (
bo (
j5 a f b)) [
o,
o]) [
bo2 (
bo (
j5 a f b)),
p,
p]) (
both (
o) [
bo (
j5 a f b),
both (
bo (
j5 a f b)) [
j5 a f b]])) (
both (
j5 a f b) [
bo (
j5 a f b)])
theorem Bhm: @YE= @OR:=by
  unfold YE OR
  try simp only[Tl,Jv,Kk]
  all_goals
    repeat (refine funext λ_=>?_)
    repeat' first
      |with_reducible rfl
      |with_reducible refine El ?_ ?_
      |with_reducible refine Ej ?_ ?_ ?_
      |with_reducible refine Em ?_ ?_ ?_ ?_
      |((with_reducible refine Gs ?_ ?_);focus (intro h;first|(subst h;rfl)|(simp only[h];rfl)|(simp[Bt,Ac,h];done)))
      |with_reducible refine Gh λx=>?_
      |with_reducible refine Lw (λ_=>?_) (λ_=>?_)
      |(refine Cq (λh=>by simp only[h,Gm,Bw,Bu,ite_self]) (λx h=>?_);(try simp only[h,Bw]))
      |(refine Dr (λh=>?_) (λh=>?_)<;>simp only[h,if_true,if_false,Bool.false_eq_true])
abbrev R_:=(Int×Int)
def H:=hd_ [Sb] [Si,Si] (.seq .d (.seq .d (.seq .d (.cut [0,4,5] [] (.mode false) (.seq .d (.seq .d (.cut [0,5,6] [] (.cut [0,5,6,43] [] (.keep [0,5,6,7,8,31,32,33,34,35,36,37,38,39,40,41,42,43] true) .d) (.seq .d (.cut [0,5,6] [] .d .d))))))))) [F157.k,F271.k,F343.k] f312 false [(344,.d)]
def x6(a:LB)(g:Int)(b:UInt8)(m:Bool):Option R_:=H.e P_ [r,r,r,r,r,r,l,r] ⟨[(0,vb a),(5,.ptr 0 []),(6,vi g),(43,vt m)],[.box 5 (vc b)],[]⟩
def x5(a:LB)(f b:UInt8):Option R_:=H.e P_ [r,r,r,r] ⟨[(0,vb a),(4,.ptr 0 []),(5,.ptr 1 [])],[.box 5 (vc f),.box 5 (vc b)],[]⟩
theorem e6:x6=bH:=F3
theorem e5:x5=bS:=Eq.trans (b:=cJ x6) F3 (by simp only[e6]<;>rfl)
def k:KC_:=kk_ 312 H dS func312 (λx=>Eq.trans (b:=YE x5 x) F3 (by rw[Bhm];simp only[e5]<;>rfl))
end F312
namespace F229
abbrev R_:=(UInt64×Int)
def H:=hd_ [Sb] [Sq,Si] (.seq .d (.seq .d (.seq .d (.cut [4] [] (.seq .d (.blk (.loop [4,15,16,17] [] .d))) .d)))) [] f229
def t4(a:LB)(f:UInt64)(b:Int):S:=⟨[(4,vq f),(15,vb a),(16,vi (Ac a)),(17,vi b)],[],[]⟩
def z4:ZT_ R_:=H.i P_ [r,r,r,l,r,d]
theorem i4(a:LB):∀(q:Nat) (f:UInt64) (b:Int),z4 q (t4 a f b)=QU a q f b:=
 ind (λ_ _=>by kernel_rfl) λq ih f b=>Eq.trans (b:=kY Bcv (λf b=>(z4 q) (t4 a f b)) a f b) F3 (by simp only[ih]<;>rfl)
def k:KC_:=kk_ 229 H wS func229 (λx=>Eq.trans (b:=yY (λa f b=>z4 Bm (t4 a f b)) x) F3 (by simp only[i4,Al]<;>rfl))
end F229
namespace F152
def H:=hd_ [Sb,Si,Si] [Sq,Si] .d [F229.k] f152
def k:KC_:=kk_ 152 H (u3 pQ) func152
end F152
namespace F186
def H:=hd_ [Sq,Si] [Sz] .d [] f186
def k:KC_:=kk_ 186 H (u2 B_) func186
end F186
namespace F101
abbrev R_:=(LB×Int)
def H:=hd_ [Sq,Si] [Ob 5,Si] (.seq .d (.seq .d (.seq .d (.seq .d (.cut [6] [] (.seq .d (.blk (.loop [0,6,21,22] [] .d))) .d))))) [F186.k] f101
def t4(f:UInt64)(g:LB)(a:Int)(b:LB):S:=⟨[(0,vq f),(6,.own 0),(21,vi (Ac g)),(22,vi a)],[Ab 5 b],[]⟩
def z4:ZT_ R_:=H.i P_ [r,r,r,r,l,r,d]
theorem i4(f:UInt64)(g:LB):∀(q:Nat) (a:Int) (b:LB),z4 q (t4 f g a b)=RL f g q a b:=
 ind (λ_ _=>by kernel_rfl) λq ih a b=>Eq.trans (b:=kT wA (λa b=>(z4 q) (t4 f g a b)) f g a b) F3 (by simp only[ih]<;>rfl)
def k:KC_:=kk_ 101 H (u2 NP) func101 (λx=>Eq.trans (b:=u2 (xJ (λf g a b=>z4 Bm (t4 f g a b))) x) F3 (by simp only[i4,Al]<;>rfl))
end F101
namespace F273
abbrev R_:=LB
def H:=hd_ [Si,Si,Sq] [Ob 5] (.seq .d (.seq .d (.cut [7] [] (.seq .d (.blk (.loop [7,20,21,22] [] .d))) .d))) [F101.k] f273
def t4(a b:Int)(f:UInt64)(h:Int)(g:LB):S:=⟨[(7,.own 0),(20,.own 1),(21,vi (Ac ([(2000:UInt64),(Ae (Af a (32:Int)):UInt64),(Ae b:UInt64),f,(0:UInt64),(0:UInt64)]:LQ))),(22,vi h)],[Ab 5 g,.arr 26 (.int .u64) ([(2000:UInt64),(Ae (Af a (32:Int)):UInt64),(Ae b:UInt64),f,(0:UInt64),(0:UInt64)]:LQ)],[]⟩
def z4:ZT_ R_:=H.i P_ [r,r,l,r,d]
theorem i4(a b:Int)(f:UInt64):∀(q:Nat) (h:Int) (g:LB),z4 q (t4 a b f h g)=QO a b f q h g:=
 ind (λ_ _=>by kernel_rfl) λq ih h g=>Eq.trans (b:=rV J6 (λh g=>(z4 q) (t4 a b f h g)) a b f h g) F3 (by simp only[ih]<;>rfl)
def k:KC_:=kk_ 273 H (u3 zM) func273 (λx=>Eq.trans (b:=u3 (L5 (λa b f h g=>z4 Bm (t4 a b f h g))) x) F3 (by simp only[i4,Al]<;>rfl))
end F273
namespace F272
def H:=hd_ [Sb,Sq] [.agg [Si,Si],Sz] .d [F152.k,F157.k,F273.k] f272
def k:KC_:=kk_ 272 H (u2 eX) func272
end F272
namespace F313
def H:=hd_ [Sb] [Si,Si] .d [F157.k,F271.k,F272.k,F273.k] f313
def k:KC_:=kk_ 313 H zQ func313
end F313
namespace F263
def H:=hd_ [Sb] [Si,Si] .d [F312.k,F313.k] f263
def k:KC_:=kk_ 263 H JV func263
end F263
theorem iW:ConOk Tryz.prog gl 127 ON:=Bhz ent127 F263.k.2
namespace F199
def H:=hd_ [Si] [.agg [Sz,Si]] .d [] f199
def k:KC_:=kk_ 199 H Ao func199
end F199
namespace F264
def H:=hd_ [Ss,Ss] [Sz] .d [] f264
def k:KC_:=kk_ 264 H (u2 Kh) func264
end F264
namespace F204
def H:=hd_ [Ss,Ss] [Sz] .d [F264.k] f204
def k:KC_:=kk_ 204 H (u2 Oc) func204
end F204
namespace F258
abbrev R_:=Bool
def H:=hd_ [Sb] [Sz] (.seq .d (.cut [] [] (.seq .d (.blk (.loop [0,5,6] [] .d))) .d)) [F204.k] f258
def t4(a:LB)(b:Int):S:=⟨[(0,vb a),(5,.val (.vec 2 .str) ([([73,68,51]:LB),([65,80,69,84,65,71,69,88]:LB)]:List LB)),(6,vi b)],[],[]⟩
def z4:ZT_ R_:=H.i P_ [r,l,r,d]
theorem i4(a:LB):∀(q:Nat) (b:Int),z4 q (t4 a b)=Px a q b:=
 ind (λ_=>by kernel_rfl) λq ih b=>Eq.trans (b:=FK Bdj (λb=>(z4 q) (t4 a b)) a b) F3 (by simp only[ih]<;>rfl)
def k:KC_:=kk_ 258 H Zl func258 (λx=>Eq.trans (b:=cF (λa b=>z4 Bm (t4 a b)) x) F3 (by simp only[i4,Al]<;>rfl))
end F258
namespace F187
abbrev R_:=(UInt32×Int)
abbrev K_:=S->Option R_
def H:=hd_ [Su,Sb] [Su,Si] (.seq .d (.seq .d (.cut [0,1,6] [] (.keep [0,1,6,12] true) (.cut [0] [] (.seq .d (.blk (.loop [0,6,13,14,15] [] .d))) .d)))) [] f187 false [(255,(.seq .d (.seq .d (.cut [1] [] (.seq .d (.blk (.loop [1,5] [] (.seq .d (.seq .d (.cut [1,5] [] (.blk (.seq .d (.seq .d (.cut [1,2,3,5] [] (.seq .d (.blk (.loop [1,2,3,5,10] [] .d))) .d)))) .d)))))) .d))))]
def t28(a:LB)(b:LU)(h:UInt32)(m:Int):S:=⟨[(0,vu h),(6,.ptr 0 []),(13,vb a),(14,vi (Ac a)),(15,vi m)],[.box 406 (.val (.vec 256 (.int .u32)) b)],[]⟩
def z28:ZT_ R_:=H.i P_ [r,r,r,l,r,d]
def t21(f:UInt32)(a:LB)(g:Int)(b:LU)(k:UInt32)(n:Int):S:=⟨[(1,.ptr 0 []),(2,vi g),(3,vu k),(5,vi g),(10,vi n)],[.box 406 (.val (.vec 256 (.int .u32)) b)],[[(0,vu f),(1,vb a)]]⟩
def z21(Me:K_):ZT_ R_:=H.i P_ [r,r,l,(call 0 255),r,r,l,r,d,(lp Me),r,r,l,d,r,r,l,r,d]
def t16(f:UInt32)(a:LB)(g:Int)(b:LU):S:=⟨[(1,.ptr 0 []),(5,vi g)],[.box 406 (.val (.vec 256 (.int .u32)) b)],[[(0,vu f),(1,vb a)]]⟩
def z16:ZT_ R_:=H.i P_ [r,r,l,(call 0 255),r,r,l,r,d]
def x28(a:LB)(b:LU)(h:UInt32)(m:Int):Option R_:=H.e P_ [r,r,r,l,r,d] (t28 a b h m)
def x21(Me:K_)(f:UInt32)(a:LB)(g:Int)(b:LU)(k:UInt32)(n:Int):Option R_:=H.e P_ [r,r,l,(call 0 255),r,r,l,r,d,(lp Me),r,r,l,d,r,r,l,r,d] (t21 f a g b k n)
theorem i28(a:LB)(b:LU):∀(q:Nat) (h:UInt32) (m:Int),z28 q (t28 a b h m)=CA a b q h m:=
 ind (λ_ _=>by kernel_rfl) λq ih h m=>Eq.trans (b:=VB fX (λh m=>(z28 q) (t28 a b h m)) a b h m) F3 (by simp only[ih]<;>rfl)
theorem e28:x28=gQ:=by funext a b h m;exact Eq.trans F3 ((i28 a b Bm h m).trans (by rw[Al];rfl))
theorem i21(Me:K_)(f:UInt32)(a:LB)(g:Int)(b:LU):∀(q:Nat) (k:UInt32) (n:Int),z21 Me q (t21 f a g b k n)=BL (λg b=>Me (t16 f a g b)) f a g b q k n:=
 ind (λ_ _=>by kernel_rfl) λq ih k n=>Eq.trans (b:=TH (TP (λg b=>Me (t16 f a g b)) f a) (λk n=>(z21 Me q) (t21 f a g b k n)) f a g b k n) F3 (by simp only[ih]<;>rfl)
theorem e21(Me:K_)(f:UInt32)(a:LB):x21 Me f a=fJ (λg b=>Me (t16 f a g b)) f a:=by funext g b k n;exact Eq.trans F3 ((i21 Me f a g b Bm k n).trans (by rw[Al];rfl))
theorem i16(f:UInt32)(a:LB):∀(q:Nat) (g:Int) (b:LU),z16 q (t16 f a g b)=Vs f a q g b:=
 ind (λ_ _=>by kernel_rfl) λq ih g b=>Eq.trans (b:=VD (x21 (z16 q) f a) (gB (gI x28)) f a g b) F3 (by simp only[e21,e28,ih]<;>rfl)
def k:KC_:=kk_ 187 H (u2 tB) func187 (λx=>Eq.trans (b:=u2 (mT (λf a g b=>z16 Bm (t16 f a g b))) x) F3 (by simp only[i16,Al]<;>rfl))
end F187
namespace F102
def H:=hd_ [Sb] [Su,Si] .d [F187.k] f102
def k:KC_:=kk_ 102 H LG func102
end F102
namespace F128
abbrev R_:=(Int×Int×Int×Int×Int×Int)
def H:=hd_ [Sb] [.agg [Si,Si,Si,Si,Si],Si] (.seq .d (.seq .d (.seq .d (.seq .d (.seq .d (.seq .d (.seq .d (.cut [2,8] [] (.seq .d (.blk (.loop [0,2,8,9,44,45] [] .d))) .d)))))))) [F102.k,F152.k,F184.k,F185.k,F204.k] f128
def t4(b:LB)(g f:Int)(a:LI):S:=⟨[(0,vb b),(2,.ptr 0 []),(8,.ptr 1 []),(9,vi g),(44,.val (.vec 5 (.int .i64)) ([(2:Int),(2:Int),(2:Int),(4:Int),(4:Int)]:LI)),(45,vi f)],[.box 39 (.agg [vi 0,vi 0,vi 0,vi 0,vi 0]),.box 173 (.val (.vec 5 (.int .i64)) a)],[]⟩
def z4:ZT_ R_:=H.i P_ [r,r,r,r,r,r,r,l,r,d]
theorem i4(b:LB):∀(q:Nat) (g f:Int) (a:LI),z4 q (t4 b g f a)=Vr b q g f a:=
 ind (λ_ _ _=>by kernel_rfl) λq ih g f a=>Eq.trans (b:=TA SZ (λg f a=>(z4 q) (t4 b g f a)) b g f a) F3 (by simp only[ih]<;>rfl)
def k:KC_:=kk_ 128 H Yi func128 (λx=>Eq.trans (b:=iJ (λb g f a=>z4 Bm (t4 b g f a)) x) F3 (by simp only[i4,Al]<;>rfl))
end F128
namespace F239
abbrev R_:=(UInt64×Int)
abbrev K_:=S->Option R_
def H:=hd_ [Sq,Sb] [Sq,Si] (.seq .d (.seq .d (.cut [4,5] [] (.keep [0,1,4,5,9,10,11,12] true) .d))) [] f239 false [(296,(.seq .d (.cut [1] [] (.seq .d (.blk (.loop [0,1,9,10,11] [] .d))) .d))),(297,(.seq .d (.seq .d (.cut [1] [] (.seq .d (.blk (.loop [1,5] [] (.seq .d (.seq .d (.cut [1,5] [] (.blk (.seq .d (.seq .d (.cut [1,2,3,5] [] (.seq .d (.blk (.loop [1,2,3,5,11] [] .d))) .d)))) .d)))))) .d))))]
def t27(a:LB)(b:UInt64)(f:LQ)(h:UInt64)(m:Int):S:=⟨[(0,.ptr 0 []),(1,vq h),(9,vb a),(10,vi (Ac a)),(11,vi m)],[.box 431 (.val (.vec 256 (.int .u64)) f)],[[(0,vq b),(1,vb a),(4,vq 0),(5,vi 0),(9,.ptr 0 []),(10,vq b),(11,vb a)]]⟩
def z27:ZT_ R_:=H.i P_ [r,r,l,(call 3 296),r,l,r,d]
def t21(b:UInt64)(a:LB)(g:Int)(f:LQ)(k:UInt64)(n:Int):S:=⟨[(1,.ptr 0 []),(2,vi g),(3,vq k),(5,vi g),(11,vi n)],[.box 431 (.val (.vec 256 (.int .u64)) f)],[[(0,vq b),(1,vb a),(4,vq 0),(5,vi 0)]]⟩
def z21(Me:K_):ZT_ R_:=H.i P_ [r,r,l,(call 0 297),r,r,l,r,d,(lp Me),r,r,l,d,r,r,l,r,d]
def t16(b:UInt64)(a:LB)(g:Int)(f:LQ):S:=⟨[(1,.ptr 0 []),(5,vi g)],[.box 431 (.val (.vec 256 (.int .u64)) f)],[[(0,vq b),(1,vb a),(4,vq 0),(5,vi 0)]]⟩
def z16:ZT_ R_:=H.i P_ [r,r,l,(call 0 297),r,r,l,r,d]
def x27(a:LB)(b:UInt64)(f:LQ)(h:UInt64)(m:Int):Option R_:=H.e P_ [r,r,l,(call 3 296),r,l,r,d] (t27 a b f h m)
def x21(Me:K_)(b:UInt64)(a:LB)(g:Int)(f:LQ)(k:UInt64)(n:Int):Option R_:=H.e P_ [r,r,l,(call 0 297),r,r,l,r,d,(lp Me),r,r,l,d,r,r,l,r,d] (t21 b a g f k n)
theorem i27(a:LB)(b:UInt64)(f:LQ):∀(q:Nat) (h:UInt64) (m:Int),z27 q (t27 a b f h m)=BZ a b f q h m:=
 ind (λ_ _=>by kernel_rfl) λq ih h m=>Eq.trans (b:=TR hH (λh m=>(z27 q) (t27 a b f h m)) a b f h m) F3 (by simp only[ih]<;>rfl)
theorem e27:x27=fV:=by funext a b f h m;exact Eq.trans F3 ((i27 a b f Bm h m).trans (by rw[Al];rfl))
theorem i21(Me:K_)(b:UInt64)(a:LB)(g:Int)(f:LQ):∀(q:Nat) (k:UInt64) (n:Int),z21 Me q (t21 b a g f k n)=CM (λg f=>Me (t16 b a g f)) b a g f q k n:=
 ind (λ_ _=>by kernel_rfl) λq ih k n=>Eq.trans (b:=SJ (TI (λg f=>Me (t16 b a g f)) b a) (λk n=>(z21 Me q) (t21 b a g f k n)) b a g f k n) F3 (by simp only[ih]<;>rfl)
theorem e21(Me:K_)(b:UInt64)(a:LB):x21 Me b a=jE (λg f=>Me (t16 b a g f)) b a:=by funext g f k n;exact Eq.trans F3 ((i21 Me b a g f Bm k n).trans (by rw[Al];rfl))
theorem i16(b:UInt64)(a:LB):∀(q:Nat) (g:Int) (f:LQ),z16 q (t16 b a g f)=Wd b a q g f:=
 ind (λ_ _=>by kernel_rfl) λq ih g f=>Eq.trans (b:=TS (x21 (z16 q) b a) (fM x27) b a g f) F3 (by simp only[e21,e27,ih]<;>rfl)
def k:KC_:=kk_ 239 H (u2 sR) func239 (λx=>Eq.trans (b:=u2 (nF (λb a g f=>z16 Bm (t16 b a g f))) x) F3 (by simp only[i16,Al]<;>rfl))
end F239
namespace F175
def H:=hd_ [Sb] [Sq,Si] .d [F239.k] f175
def k:KC_:=kk_ 175 H oY func175
end F175
namespace F103
def H:=hd_ [Ss] [Sq,Si] .d [F175.k] f103
def k:KC_:=kk_ 103 H je func103
end F103
namespace F40
def H:=hd_ [Ss] [Ob 5,Si] .d [F101.k,F103.k] f40
def k:KC_:=kk_ 40 H UJ func40
end F40
namespace F129
def H:=hd_ [Sb,Ss] [Sz,Si] .d [F40.k,F157.k] f129
def k:KC_:=kk_ 129 H (u2 VF) func129
end F129
namespace F131
abbrev R_:=(LI×Int)
def H:=hd_ [Sb,Si] [Ol 3,Si] (.seq .d (.seq .d (.seq .d (.seq .d (.seq .d (.seq .d (.cut [10] [] (.seq .d (.blk (.loop [0,10,48,49] [] .d))) .d))))))) [F102.k,F104.k,F152.k] f131
def t4(a:LB)(f:LI)(g:Int)(b:LI):S:=⟨[(0,vb a),(10,.own 0),(48,vi (Ac f)),(49,vi g)],[Ai 3 b],[]⟩
def z4:ZT_ R_:=H.i P_ [r,r,r,r,r,r,l,r,d]
theorem i4(a:LB)(f:LI):∀(q:Nat) (g:Int) (b:LI),z4 q (t4 a f g b)=FX a f q g b:=
 ind (λ_ _=>by kernel_rfl) λq ih g b=>Eq.trans (b:=ZB YW (λg b=>(z4 q) (t4 a f g b)) a f g b) F3 (by simp only[ih]<;>rfl)
def k:KC_:=kk_ 131 H (u2 gT) func131 (λx=>Eq.trans (b:=u2 (nQ (λa f g b=>z4 Bm (t4 a f g b))) x) F3 (by simp only[i4,Al]<;>rfl))
end F131
namespace F176
abbrev R_:=LX
def H:=hd_ [Sq] [.lf (.vec 16 (.int .i32)) none] (.seq .d (.seq .d (.cut [2,3] [] (.seq .d (.blk (.loop [0,2,3,5] [] .d))) .d))) [] f176
def t4(f:UInt64)(a:Int)(b:LX):S:=⟨[(0,vq f),(2,.ptr 0 []),(3,.ptr 1 []),(5,vi a)],[.box 165 (.val (.vec 16 (.int .i32)) (List.replicate 16 (0:Int32))),.box 165 (.val (.vec 16 (.int .i32)) b)],[]⟩
def z4:ZT_ R_:=H.i P_ [r,r,l,r,d]
theorem i4(f:UInt64):∀(q:Nat) (a:Int) (b:LX),z4 q (t4 f a b)=YM f q a b:=
 ind (λ_ _=>by kernel_rfl) λq ih a b=>Eq.trans (b:=tL Bh4 (λa b=>(z4 q) (t4 f a b)) f a b) F3 (by simp only[ih]<;>rfl)
def k:KC_:=kk_ 176 H nG func176 (λx=>Eq.trans (b:=Ak8 (λf a b=>z4 Bm (t4 f a b)) x) F3 (by simp only[i4,Al]<;>rfl))
end F176
namespace F96
def H:=hd_ [Ss] [.lf (.vec 16 (.int .i32)) none,Si] .d [F175.k,F176.k] f96
def k:KC_:=kk_ 96 H GB func96
end F96
namespace F260
def H:=hd_ [.agg [Si,Si,Si,Si,Si]] [.agg [Si,Si]] .d [] f260
def k:KC_:=kk_ 260 H (u5 NT) func260
end F260
namespace F95
abbrev R_:=(Int32×Int32×Int)
def H:=hd_ [Si] [Sx,Sx,Si] (.seq .d (.seq (.seq .d (.blk (.cut [0,7] [] .d .d))) .d)) [] f95
def k:KC_:=kk_ 95 H Sd func95
end F95
namespace F189
def H:=hd_ [.agg [Si,Si]] [Si] .d [F95.k] f189
def k:KC_:=kk_ 189 H (u2 Nz) func189
end F189
namespace F266
def H:=hd_ [Sb] [Sb,Si] .d [F102.k,F229.k] f266
def k:KC_:=kk_ 266 H UC func266
end F266
namespace F117
def Vy(a:LB):Option (LB):=
G_ a (
some ([]:LB)) (
(Bt ([]:LB) a).bind λb=>
some b)
theorem Bip: @Vy= @By:=by
  unfold Vy By
  repeat (refine funext λ_=>?_)
  repeat' first
    |with_reducible rfl
    |with_reducible refine El ?_ ?_
    |with_reducible refine Ej ?_ ?_ ?_
    |with_reducible refine Em ?_ ?_ ?_ ?_
    |((with_reducible refine Gs ?_ ?_);focus (intro h;first|(subst h;rfl)|(simp only[h];rfl)|(simp[Bt,Ac,h];done)))
    |with_reducible refine Gh λx=>?_
    |with_reducible refine Lw (λ_=>?_) (λ_=>?_)
    |(refine Cq (λh=>by simp only[h,Gm,Bw,Bu,ite_self]) (λx h=>?_);(try simp only[h,Bw]))
    |(refine Dr (λh=>?_) (λh=>?_)<;>simp only[h,if_true,if_false,Bool.false_eq_true])
def H:=hd_ [Sb] [Ob 5] .d [] f117
def k:KC_:=kk_ 117 H By func117 (λx=>Eq.trans (b:=Vy x) F3 (by simp only[Bip]<;>rfl))
end F117
namespace F267
def H:=hd_ [Sb] [.agg [Ob 5,Si],Si] .d [F117.k] f267
def k:KC_:=kk_ 267 H oG func267
end F267
namespace F247
def H:=hd_ [] [.agg [Si,Si,Sq,Sq]] .d [] f247
def k:KC_:=kk_ 247 H (λ_=>M4) func247
end F247
namespace F248
def H:=hd_ [.agg [Sb,Si]] [Si] .d [] f248
def k:KC_:=kk_ 248 H (u2 Pc) func248
end F248
namespace F316
abbrev R_:=UInt64
def H:=hd_ [.agg [Sb,Si],Si,Si] [Sq] (.seq .d (.seq .d (.cut [7] [] (.blk (.loop [1,2,3,7,8] [] .d)) .d))) [] f316
def t4(b f:Int)(h:LB)(k:Int)(g:UInt64)(a:Int):S:=⟨[(1,vi b),(2,vi f),(3,.ptr 0 []),(7,vq g),(8,vi a)],[.box 272 (.agg [vb h,vi k])],[]⟩
def z4:ZT_ R_:=H.i P_ [r,r,l,d]
theorem i4(b f:Int)(h:LB)(k:Int):∀(q:Nat) (g:UInt64) (a:Int),z4 q (t4 b f h k g a)=aF b f h k q g a:=
 ind (λ_ _=>by kernel_rfl) λq ih g a=>Eq.trans (b:=xN Ber (λg a=>(z4 q) (t4 b f h k g a)) b f h k g a) F3 (by simp only[ih]<;>rfl)
def k:KC_:=kk_ 316 H (u4 U4) func316 (λx=>Eq.trans (b:=u4 (Ba3 (λb f h k g a=>z4 Bm (t4 b f h k g a))) x) F3 (by simp only[i4,Al]<;>rfl))
end F316
namespace F314
abbrev R_:=(LB×Int×Int)
abbrev K_:=S->Option R_
def H:=hd_ [.agg [Sb,Si],Si,Si] [.agg [Ob 5,Si],Si] (.seq .d (.seq .d (.seq .d (.seq .d (.cut [6,8] [] (.seq .d (.blk (.loop [2,3,6,8,9] [⟨8,[0],.own 5 (.int .u8)⟩] (.seq .d (.cut [2,3,6,8,9] [] (.blk (.seq .d (.keep [2,3,6,8,9,10,39,40,41,42,43] true))) .d))))) .d))))) [F248.k,F316.k] f314 false [(306,(.blk (.loop [0,1,2] [] (.seq .d (.blk (.cut [0,1,2] [] .d (.seq .d (.cut [0,1,2,7] [] .d .d))))))))]
def t44(a:Int)(g:LB)(b f:Int)(m n:UInt64)(k h:Int)(u:LB):S:=⟨[(0,.ptr 0 []),(1,vq n),(2,vi k)],[.box 272 (.agg [.own 3,vi h]),.box 272 (.agg [vb g,vi b]),.box 272 (.agg [.nils,vi 0]),Ab 5 u],[[(2,vi a),(3,.ptr 1 []),(6,.ptr 2 []),(8,.ptr 0 []),(9,vi f),(10,vi (Du (64:Int) (Ap a f))),(39,.agg [vb g,vi b]),(40,vi f),(41,vi (Du (64:Int) (Ap a f))),(42,vq m),(43,vi (Du (64:Int) (Ap a f)))]]⟩
def z44(cN:K_):ZT_ R_:=H.i P_ [r,r,r,r,l,r,d,(lp cN),r,l,d,r,(call 5 306),d]
def t27(a:Int)(g:LB)(b f o:Int)(p:LB):S:=⟨[(2,vi a),(3,.ptr 0 []),(6,.ptr 1 []),(8,.ptr 2 []),(9,vi f)],[.box 272 (.agg [vb g,vi b]),.box 272 (.agg [.nils,vi 0]),.box 272 (.agg [.own 3,vi o]),Ab 5 p],[]⟩
def z27:ZT_ R_:=H.i P_ [r,r,r,r,l,r,d]
def x44(cN:K_)(a:Int)(g:LB)(b f:Int)(m n:UInt64)(k h:Int)(u:LB):Option R_:=H.e P_ [r,r,r,r,l,r,d,(lp cN),r,l,d,r,(call 5 306),d] (t44 a g b f m n k h u)
theorem i44(cN:K_)(a:Int)(g:LB)(b f:Int)(m:UInt64):∀(q:Nat) (n:UInt64) (k h:Int) (u:LB),z44 cN q (t44 a g b f m n k h u)=Yj (λf o p=>cN (t27 a g b f o p)) a g b f m q n k h u:=
 ind (λ_ _ _ _=>by kernel_rfl) λq ih n k h u=>Eq.trans (b:=dZ (eC (λn k h u=>(z44 cN q) (t44 a g b f m n k h u)) a f g b m) (dQ (λf o p=>cN (t27 a g b f o p)) a g b) a g b f m n k h u) F3 (by simp only[ih]<;>rfl)
theorem e44(cN:K_)(a:Int)(g:LB)(b:Int):x44 cN a g b=sS (λf o p=>cN (t27 a g b f o p)) a g b:=by funext f m n k h u;exact Eq.trans F3 ((i44 cN a g b f m Bm n k h u).trans (by rw[Al];rfl))
theorem i27(a:Int)(g:LB)(b:Int):∀(q:Nat) (f o:Int) (p:LB),z27 q (t27 a g b f o p)=LA a g b q f o p:=
 ind (λ_ _ _=>by kernel_rfl) λq ih f o p=>Eq.trans (b:=sO (x44 (z27 q) a g b) rB a g b f o p) F3 (by simp only[e44,ih]<;>rfl)
def k:KC_:=kk_ 314 H (u4 xL) func314 (λx=>Eq.trans (b:=u4 (xS (λa g b f o p=>z27 Bm (t27 a g b f o p))) x) F3 (by simp only[i27,Al]<;>rfl))
end F314
namespace F249
def gC(j4:Int->Int->UInt64->UInt64->Option Int)(a b:Int)(f g:UInt64):Option Int:=
both (
bo (
j4 a b f g)) [
j4 a b f g]
theorem Bi9: @gC= @YX:=by
  unfold gC YX
  repeat (refine funext λ_=>?_)
  repeat' first
    |with_reducible rfl
    |with_reducible refine El ?_ ?_
    |with_reducible refine Ej ?_ ?_ ?_
    |with_reducible refine Em ?_ ?_ ?_ ?_
    |((with_reducible refine Gs ?_ ?_);focus (intro h;first|(subst h;rfl)|(simp only[h];rfl)|(simp[Bt,Ac,h];done)))
    |with_reducible refine Gh λx=>?_
    |with_reducible refine Lw (λ_=>?_) (λ_=>?_)
    |(refine Cq (λh=>by simp only[h,Gm,Bw,Bu,ite_self]) (λx h=>?_);(try simp only[h,Bw]))
    |(refine Dr (λh=>?_) (λh=>?_)<;>simp only[h,if_true,if_false,Bool.false_eq_true])
def fD(j3:Int->Int->UInt64->UInt64->Option Int)(a b:Int)(f g:UInt64):Option Int:=
both (
bo (
j3 a b f g)) [
j3 a b f g]
theorem Bic: @fD= @ZF:=by
  unfold fD ZF
  repeat (refine funext λ_=>?_)
  repeat' first
    |with_reducible rfl
    |with_reducible refine El ?_ ?_
    |with_reducible refine Ej ?_ ?_ ?_
    |with_reducible refine Em ?_ ?_ ?_ ?_
    |((with_reducible refine Gs ?_ ?_);focus (intro h;first|(subst h;rfl)|(simp only[h];rfl)|(simp[Bt,Ac,h];done)))
    |with_reducible refine Gh λx=>?_
    |with_reducible refine Lw (λ_=>?_) (λ_=>?_)
    |(refine Cq (λh=>by simp only[h,Gm,Bw,Bu,ite_self]) (λx h=>?_);(try simp only[h,Bw]))
    |(refine Dr (λh=>?_) (λh=>?_)<;>simp only[h,if_true,if_false,Bool.false_eq_true])
abbrev R_:=Int
def H:=hd_ [.agg [Si,Si,Sq,Sq]] [Si] (.seq .d (.seq .d (.cut [1,3] [] (.mode false) (.cut [1,3] [] (.mode false) .d)))) [] f249
def x3(a b:Int)(f g:UInt64):Option R_:=H.e P_ [r,r,r] ⟨[(1,.ptr 0 []),(3,.ptr 1 [])],[.box 268 (.agg [vi a,vi b,vq f,vq g]),.box 268 (.agg [vi (Du (jQ a (0:Int)) (24:Int)),vi (Du (jQ b (0:Int)) (24:Int)),vq f,vq g])],[]⟩
theorem e3:x3=nM:=Eq.trans (b:=gC mH) F3 (by rw[Bi9];rfl)
def k:KC_:=kk_ 249 H (u4 iN) func249 (λx=>Eq.trans (b:=u4 (fD x3) x) F3 (by rw[Bic];simp only[e3]<;>rfl))
end F249
namespace F269
def H:=hd_ [.agg [Sb,Si],Si,Si] [Sq,Si] .d [F248.k,F316.k] f269
def k:KC_:=kk_ 269 H (u4 US) func269
end F269
namespace F394
def H:=hd_ [Sq] [Si] .d [] f394
def k:KC_:=kk_ 394 H Kr func394
end F394
namespace F372
def jO(j6:Int->UInt64->Int->LB->Int->Option (Int×Int×Int))(g:LB)(b a:Int):Option (Int×Int×Int):=
(Pc g b).bind λm=>
if(Bj m 0)then
some (0,0,m)
else
if(Cj a 0)then
some (0,0,2)
else
if(Nw a b)then
some (0,0,24)
else
(λn:Option (Int×Int×Int)=>
(λo:Option (Int×Int×Int)=>
bo2 (
o)) (
bo (
n))) (
(US g b a (Du 48 (Ap b a))).bind λ(k,h)=>
j6 h k a g b)
theorem Bi6: @jO= @OI:=by
  unfold jO OI;simp only[Tl,Jv,Kk]
abbrev R_:=(Int×Int×Int)
def H:=hd_ [.agg [Sb,Si],Si] [Si,Si,Si] (.seq .d (.seq .d (.seq .d (.seq .d (.seq .d (.cut [3,5,6,8,9] [] (.keep [2,3,5,6,8,9,22,23,24,25,26,27,28,29] false) (.seq .d (.seq .d (.cut [] [] (.blk (.seq (.blk (.seq (.blk (.cut [] [] (.cut [3,4,5] [] (.cut [3,4,5,36] [] (.keep [3,4,5,8,36,37,38,39,40] true) .d) .d) .d)) .d)) .d)) .d))))))))) [F248.k,F269.k,F394.k] f372 false [(393,.d)]
def k:KC_:=kk_ 372 H (u3 YK) func372 (λx=>Eq.trans (b:=u3 (jO mO) x) F3 (by simp only[Bi6]<;>rfl))
end F372
namespace F307
def H:=hd_ [Su,Si] [Sz] .d [] f307
def k:KC_:=kk_ 307 H (u2 MF) func307
end F307
namespace F345
abbrev R_:=(UInt32×Int×Int)
def H:=hd_ [.agg [Sb,Si],Si,Si] [Su,Si,Si] (.seq .d (.seq .d (.seq .d (.seq .d (.seq .d (.seq .d (.cut [2,3,7,10,11] [] .d .d))))))) [F248.k,F269.k,F307.k,F372.k] f345
def k:KC_:=kk_ 345 H (u4 zY) func345
end F345
namespace F250
def H:=hd_ [.agg [Si,Si,Sq,Sq],Su] [Si,Su] .d [] f250
def k:KC_:=kk_ 250 H (u5 YN) func250
end F250
namespace F315
abbrev R_:=(UInt32×Int×Int×Int×UInt64×UInt64×Int)
def H:=hd_ [.agg [Sb,Si],Si,.agg [Si,Si,Sq,Sq]] [Su,Si,.agg [Si,Si,Sq,Sq],Si] (.seq .d (.cut [1,3,5,8] [] .d (.seq .d (.seq .d (.cut [5,6,7,8] [] .d (.cut [5,6,7,8] [] (.keep [5,6,7,8,81] true) .d)))))) [F248.k,F249.k,F250.k,F269.k,F345.k] f315 false [(253,(.seq .d (.seq .d (.seq .d (.blk (.cut [0,1,4] [] (.blk (.seq .d (.keep [0,1,4,6,18,19,20,21,22,23,24,25] true))) (.cut [] [] (.keep [0,1,4,27,28,29,30,31,32,33,34] true) .d))))))),(309,.d)]
def x8(f:UInt32)(k a:Int)(b:UInt64)(m:Int)(n:UInt64):Option R_:=H.e P_ [r,r,r,r,r,l,(call 1 253),r,r,r,d,r] ⟨[(0,.ptr 0 []),(1,vu f),(4,.fn 309 [])],[.box 268 (.agg [vi a,vi m,vq b,vq n]),.box 268 (.agg [vi 0,vi 0,vq 0,vq 0])],[[(5,.ptr 0 []),(6,vu f),(7,vi k),(8,.ptr 1 []),(81,vu f)]]⟩
theorem e8:x8=VJ:=F3
def k:KC_:=kk_ 315 H (u7 YF) func315 (λx=>Eq.trans (b:=u7 (tJ (rL (rC x8))) x) F3 (by simp only[e8]<;>rfl))
end F315
namespace F268
def MX(j21:Int->Int->Int->UInt32->Int-> (List (Int×Int×UInt64×UInt64×Unit))->LU->Int->Int->UInt64->UInt64->Option (LU×Int×Int))(j24:Int->LU->Option (LU×Int×Int))(a f:Int)(g:LB)(b k h:Int)(m:List (Int×Int×UInt64×UInt64×Unit))(n:LU):Option (LU×Int×Int):=
if(Cj h (Bn f a))then
(xL g b k (Du (Af k 81) b)).bind λ(ag,ae,af)=>
if(Bj af 0)then
some (([]:LU),0,af)
else
(Mt (Bj a 0)).bind λ_=>
(Aj m (Gx h a)).bind λ_=>
(λai:Option (LU×Int×Int)=>
both (
both (
(Aj m (Gx h a)).bind λo=>
(λao:Option (LU×Int×Int)=>
bo (
ao)) (
(YF ag ae 0 o.1 o.2.1 o.2.2.1 o.2.2.2.1).bind λ(w,v,aa,ab,ac,ad,y)=>
j21 k h y w v m n aa ab ac ad)) [
ai]) [
(Aj m (Gx h a)).bind λo=>
(λaj:Option (LU×Int×Int)=>
both (
bo (
aj)) [
aj]) (
(YF ag ae 0 o.1 o.2.1 o.2.2.1 o.2.2.2.1).bind λ(w,v,aa,ab,ac,ad,y)=>
j21 k h y w v m n aa ab ac ad),
bo (
ai)]) (
(Aj m (Gx h a)).bind λo=>
(YF ag ae 0 o.1 o.2.1 o.2.2.1 o.2.2.2.1).bind λ(w,v,aa,ab,ac,ad,y)=>
j21 k h y w v m n aa ab ac ad)
else
j24 k n
theorem Bkv: @MX= @FC:=by
  unfold MX FC
  try simp only[Tl,Jv,Kk]
  all_goals
    repeat (refine funext λ_=>?_)
    repeat' first
      |with_reducible rfl
      |with_reducible refine El ?_ ?_
      |with_reducible refine Ej ?_ ?_ ?_
      |with_reducible refine Em ?_ ?_ ?_ ?_
      |((with_reducible refine Gs ?_ ?_);focus (intro h;first|(subst h;rfl)|(simp only[h];rfl)|(simp[Bt,Ac,h];done)))
      |with_reducible refine Gh λx=>?_
      |with_reducible refine Lw (λ_=>?_) (λ_=>?_)
      |(refine Cq (λh=>by simp only[h,Gm,Bw,Bu,ite_self]) (λx h=>?_);(try simp only[h,Bw]))
      |(refine Dr (λh=>?_) (λh=>?_)<;>simp only[h,if_true,if_false,Bool.false_eq_true])
abbrev R_:=(LU×Int×Int)
abbrev K_:=S->Option R_
def H:=hd_ [Si,Si,.agg [Sb,Si]] [Ov 175,Si,Si] (.seq .d (.seq .d (.cut [0,1,5,9] [] (.seq .d (.blk (.loop [0,1,5,9,19] [] .d))) (.seq .d (.seq .d (.cut [11,12] [] (.seq .d (.blk (.loop [0,5,9,11,12,28,29] [⟨11,[],.own 175 (.int .u32)⟩] (.seq .d (.seq .d (.seq (.blk (.seq .d (.seq .d (.seq .d (.cut [0,5,9,11,12,13,15,16,17,18,28,29] [] (.mode false) (.seq .d (.cut [0,5,9,11,12,16,28,29] [] .d .d))))))) .d)))))) .d)))))) [F247.k,F314.k,F315.k] f268
def t16(a f:Int)(g:LB)(b k h:Int)(m:List (Int×Int×UInt64×UInt64×Unit))(n:LU):S:=⟨[(0,vi a),(5,.ptr 0 []),(9,.ptr 1 []),(11,.own 2),(12,vi k),(28,vi (Bn f a)),(29,vi h)],[.box 272 (.agg [vb g,vi b]),.box 269 (.val (.vec 6 (.cons (.int .i64) (.cons (.int .i64) (.cons (.int .u64) (.cons (.int .u64) .nil))))) m),Av 175 n],[]⟩
def z16:ZT_ R_:=H.i P_ [r,r,r,r,r,l,r,d]
def t13(a f:Int)(g:LB)(b u:Int)(p:List (Int×Int×UInt64×UInt64×Unit)):S:=⟨[(0,vi a),(1,vi f),(5,.ptr 0 []),(9,.ptr 1 []),(19,vi u)],[.box 272 (.agg [vb g,vi b]),.box 269 (.val (.vec 6 (.cons (.int .i64) (.cons (.int .i64) (.cons (.int .u64) (.cons (.int .u64) .nil))))) p)],[]⟩
def z13:ZT_ R_:=H.i P_ [r,r,l,r,d]
def x16(a f:Int)(g:LB)(b k h:Int)(m:List (Int×Int×UInt64×UInt64×Unit))(n:LU):Option R_:=H.e P_ [r,r,r,r,r,l,r,d] (t16 a f g b k h m n)
theorem i16(a f:Int)(g:LB)(b:Int):∀(q:Nat) (k h:Int) (m:List (Int×Int×UInt64×UInt64×Unit)) (n:LU),z16 q (t16 a f g b k h m n)=Vq a f g b q k h m n:=
 ind (λ_ _ _ _=>by kernel_rfl) λq ih k h m n=>Eq.trans (b:=MX (DY (λk h m n=>(z16 q) (t16 a f g b k h m n)) a f g b) Ar0 a f g b k h m n) F3 (by rw[Bkv];simp only[ih]<;>rfl)
theorem e16:x16=Ase:=by funext a f g b k h m n;exact Eq.trans F3 ((i16 a f g b Bm k h m n).trans (by rw[Al];rfl))
theorem i13(a f:Int)(g:LB)(b:Int):∀(q:Nat) (u:Int) (p:List (Int×Int×UInt64×UInt64×Unit)),z13 q (t13 a f g b u p)=PM a f g b q u p:=
 ind (λ_ _=>by kernel_rfl) λq ih u p=>Eq.trans (b:=Ape (Aok x16) (λu p=>(z13 q) (t13 a f g b u p)) a f g b u p) F3 (by simp only[e16,ih]<;>rfl)
def k:KC_:=kk_ 268 H (u4 TY) func268 (λx=>Eq.trans (b:=u4 (TX (λa f g b u p=>z13 Bm (t13 a f g b u p))) x) F3 (by simp only[i13,Al]<;>rfl))
end F268
namespace F301
abbrev R_:=(Int×LX×LX×Int)
def H:=hd_ [Si,.lf (.vec 16 (.int .i32)) none] [.agg [Si,.lf (.vec 16 (.int .i32)) none,.lf (.vec 16 (.int .i32)) none],Si] (.seq .d (.seq .d (.seq (.seq .d (.blk (.cut [4,6,9,11] [] .d .d))) .d))) [] f301
def k:KC_:=kk_ 301 H (u2 T2) func301
end F301
namespace F244
def H:=hd_ [Si,.lf (.vec 16 (.int .i32)) none] [.agg [Si,Sx,.agg [Si,.lf (.vec 16 (.int .i32)) none,.lf (.vec 16 (.int .i32)) none]],Si] .d [F301.k] f244
def k:KC_:=kk_ 244 H (u2 ng) func244
end F244
namespace F318
def H:=hd_ [Su] [Sx] .d [] f318
def k:KC_:=kk_ 318 H ME func318
end F318
namespace F302
def H:=hd_ [.agg [Si,Sx,.agg [Si,.lf (.vec 16 (.int .i32)) none,.lf (.vec 16 (.int .i32)) none]]] [Si] .d [F301.k] f302
def k:KC_:=kk_ 302 H (u5 JW) func302
end F302
namespace F338
def H:=hd_ [Si] [Si,Si] .d [] f338
def k:KC_:=kk_ 338 H xD func338
end F338
namespace F339
def H:=hd_ [Si,Sx] [Sx] .d [] f339
def k:KC_:=kk_ 339 H (u2 jZ) func339
end F339
namespace F303
def H:=hd_ [Si,Sx] [Sx,Si] .d [F338.k,F339.k] f303
def k:KC_:=kk_ 303 H (u2 JY) func303
end F303
namespace F369
def H:=hd_ [.agg [Si,.lf (.vec 16 (.int .i32)) none,.lf (.vec 16 (.int .i32)) none]] [Si] .d [] f369
def k:KC_:=kk_ 369 H (u3 YJ) func369
end F369
namespace F340
abbrev R_:=(Int32×Int)
def H:=hd_ [.agg [Si,.lf (.vec 16 (.int .i32)) none,.lf (.vec 16 (.int .i32)) none]] [Sx,Si] (.seq .d (.seq .d (.seq .d (.cut [1,5] [] (.seq .d (.blk (.loop [1,5,18,19] [] .d))) .d)))) [F369.k] f340
def t4(b:LX)(a:Int)(f:LX)(h:Int32)(g:Int):S:=⟨[(1,.ptr 0 []),(5,vx h),(18,.val (.vec 16 (.int .i32)) b),(19,vi g)],[.box 330 (.agg [vi a,.val (.vec 16 (.int .i32)) b,.val (.vec 16 (.int .i32)) f])],[]⟩
def z4:ZT_ R_:=H.i P_ [r,r,r,l,r,d]
theorem i4(b:LX)(a:Int)(f:LX):∀(q:Nat) (h:Int32) (g:Int),z4 q (t4 b a f h g)=GA b a f q h g:=
 ind (λ_ _=>by kernel_rfl) λq ih h g=>Eq.trans (b:=ZD mP (λh g=>(z4 q) (t4 b a f h g)) b a f h g) F3 (by simp only[ih]<;>rfl)
def k:KC_:=kk_ 340 H (u3 gW) func340 (λx=>Eq.trans (b:=u3 (mM (λb a f h g=>z4 Bm (t4 b a f h g))) x) F3 (by simp only[i4,Al]<;>rfl))
end F340
namespace F392
def H:=hd_ [Si] [Sx] .d [] f392
def k:KC_:=kk_ 392 H oN func392
end F392
namespace F370
abbrev R_:=(Int×LX×LX×Int)
def H:=hd_ [.agg [Si,.lf (.vec 16 (.int .i32)) none,.lf (.vec 16 (.int .i32)) none],Sx] [.agg [Si,.lf (.vec 16 (.int .i32)) none,.lf (.vec 16 (.int .i32)) none],Si] (.seq .d (.seq .d (.seq .d (.cut [2,4] [] (.seq .d (.blk (.loop [1,2,4,19,20] [] .d))) .d)))) [F369.k,F392.k] f370
def t4(h:Int32)(f:LX)(g a:Int)(b:LX):S:=⟨[(1,vx h),(2,.ptr 0 []),(4,.ptr 1 []),(19,.val (.vec 16 (.int .i32)) f),(20,vi a)],[.box 330 (.agg [vi g,.val (.vec 16 (.int .i32)) b,.val (.vec 16 (.int .i32)) f]),.box 330 (.agg [vi 0,.val (.vec 16 (.int .i32)) (List.replicate 16 (0:Int32)),.val (.vec 16 (.int .i32)) (List.replicate 16 (0:Int32))])],[]⟩
def z4:ZT_ R_:=H.i P_ [r,r,r,l,r,d]
theorem i4(h:Int32)(f:LX)(g:Int):∀(q:Nat) (a:Int) (b:LX),z4 q (t4 h f g a b)=FV h f g q a b:=
 ind (λ_ _=>by kernel_rfl) λq ih a b=>Eq.trans (b:=ZE Aap (λa b=>(z4 q) (t4 h f g a b)) h f g a b) F3 (by simp only[ih]<;>rfl)
def k:KC_:=kk_ 370 H (u4 tM) func370 (λx=>Eq.trans (b:=u4 (nC (λh f g a b=>z4 Bm (t4 h f g a b))) x) F3 (by simp only[i4,Al]<;>rfl))
end F370
namespace F371
def mF(j2:Int32->Int->LX->LX->Option (Int×LX×LX×Int))(b:Int)(f a:LX)(g:Int32):Option (Int×LX×LX×Int):=
(YJ b f a).bind λh=>
if(Bj h 0)then
some (0,(List.replicate 16 (0:Int32)),(List.replicate 16 (0:Int32)),h)
else
both (
(pE 16 1 16).bind λ_=>
(pE 16 0 16).bind λ_=>
j2 g b f a) [
(pE 16 0 16).bind λ_=>
(pE 16 1 16).bind λ_=>
j2 g b f a]
theorem Bjr: @mF= @eD:=by
  unfold mF eD
  repeat (refine funext λ_=>?_)
  repeat' first
    |with_reducible rfl
    |with_reducible refine El ?_ ?_
    |with_reducible refine Ej ?_ ?_ ?_
    |with_reducible refine Em ?_ ?_ ?_ ?_
    |((with_reducible refine Gs ?_ ?_);focus (intro h;first|(subst h;rfl)|(simp only[h];rfl)|(simp[Bt,Ac,h];done)))
    |with_reducible refine Gh λx=>?_
    |with_reducible refine Lw (λ_=>?_) (λ_=>?_)
    |(refine Cq (λh=>by simp only[h,Gm,Bw,Bu,ite_self]) (λx h=>?_);(try simp only[h,Bw]))
    |(refine Dr (λh=>?_) (λh=>?_)<;>simp only[h,if_true,if_false,Bool.false_eq_true])
abbrev R_:=(Int×LX×LX×Int)
def H:=hd_ [.agg [Si,.lf (.vec 16 (.int .i32)) none,.lf (.vec 16 (.int .i32)) none],Sx] [.agg [Si,.lf (.vec 16 (.int .i32)) none,.lf (.vec 16 (.int .i32)) none],Si] (.seq .d (.seq .d (.cut [1,2,4] [] .d .d))) [F369.k] f371
def k:KC_:=kk_ 371 H (u4 B0) func371 (λx=>Eq.trans (b:=u4 (mF sJ) x) F3 (by simp only[Bjr]<;>rfl))
end F371
namespace F341
def H:=hd_ [.agg [Si,.lf (.vec 16 (.int .i32)) none,.lf (.vec 16 (.int .i32)) none],Sx,Sx] [.agg [Si,.lf (.vec 16 (.int .i32)) none,.lf (.vec 16 (.int .i32)) none]] .d [F370.k,F371.k] f341
def k:KC_:=kk_ 341 H (u5 fO) func341
end F341
namespace F346
def H:=hd_ [.agg [Si,.lf (.vec 16 (.int .i32)) none,.lf (.vec 16 (.int .i32)) none],Sx] [Sx,.agg [Si,.lf (.vec 16 (.int .i32)) none,.lf (.vec 16 (.int .i32)) none],Si] .d [F340.k,F341.k] f346
def k:KC_:=kk_ 346 H (u4 yS) func346
end F346
namespace F317
def gM(a:Int)(b:Int32)(f:Int)(g h:LX)(o:Int32):Option (Int32×Int×Int32×Int×LX×LX×Int):=
(JW a b f g h).bind λk=>
if(Bj k 0)then
some (0,0,0,0,(List.replicate 16 (0:Int32)),(List.replicate 16 (0:Int32)),k)
else
(JY a b).bind λ(m,y)=>
(yS f g h o).bind λ(n,p,u,v,w)=>
(λaa:Option (Int32×Int×Int32×Int×LX×LX×Int)=>
bo (
aa)) (
some ((Af n m),a,(Af n m),p,u,v,w))
theorem Bib: @gM= @Tp:=by
  unfold gM Tp;simp only[Tl,Jv,Kk]
def H:=hd_ [.agg [Si,Sx,.agg [Si,.lf (.vec 16 (.int .i32)) none,.lf (.vec 16 (.int .i32)) none]],Sx] [Sx,.agg [Si,Sx,.agg [Si,.lf (.vec 16 (.int .i32)) none,.lf (.vec 16 (.int .i32)) none]],Si] (.seq .d (.seq .d (.seq .d (.seq .d (.seq (.mode false) .d))))) [F302.k,F303.k,F346.k] f317
def k:KC_:=kk_ 317 H (u6 Tp) func317 (λx=>Eq.trans (b:=u6 gM x) F3 (by simp only[Bib]<;>rfl))
end F317
namespace F299
def H:=hd_ [Si,Sw] [Si] .d [] f299
def k:KC_:=kk_ 299 H (u2 pN) func299
end F299
namespace F192
def Tm(a:LX):Option (LX):=
G_ a (
some ([]:LX)) (
(Bt ([]:LX) a).bind λb=>
some b)
theorem Bih: @Tm= @Dx:=by
  unfold Tm Dx
  repeat (refine funext λ_=>?_)
  repeat' first
    |with_reducible rfl
    |with_reducible refine El ?_ ?_
    |with_reducible refine Ej ?_ ?_ ?_
    |with_reducible refine Em ?_ ?_ ?_ ?_
    |((with_reducible refine Gs ?_ ?_);focus (intro h;first|(subst h;rfl)|(simp only[h];rfl)|(simp[Bt,Ac,h];done)))
    |with_reducible refine Gh λx=>?_
    |with_reducible refine Lw (λ_=>?_) (λ_=>?_)
    |(refine Cq (λh=>by simp only[h,Gm,Bw,Bu,ite_self]) (λx h=>?_);(try simp only[h,Bw]))
    |(refine Dr (λh=>?_) (λh=>?_)<;>simp only[h,if_true,if_false,Bool.false_eq_true])
def H:=hd_ [Sw] [Ow 21] .d [] f192
def k:KC_:=kk_ 192 H Dx func192 (λx=>Eq.trans (b:=Tm x) F3 (by simp only[Bih]<;>rfl))
end F192
namespace F319
abbrev R_:=(LX×Int)
abbrev K_:=S->Option R_
def H:=hd_ [Si,Sw] [Ow 21,Si] (.seq .d (.seq .d (.seq .d (.cut [7] [] (.seq .d (.blk (.loop [0,7,8] [] (.seq .d (.cut [0,7,8] [] (.blk (.keep [0,7,8,24,25,26,27,28,29] true)) .d))))) .d)))) [F192.k,F299.k] f319 true [(347,(.seq .d (.cut [0,2] [] .d (.seq .d (.blk (.loop [0,3] [] .d))))))]
def t18(b a g:Int)(h:LX):S:=⟨[(0,.view true 0 [] (.int .i32) a ((Af a b)-a)),(3,vi g)],[Aw 21 h],[[(0,vi b),(7,.own 0),(8,vi a),(24,.own 0),(25,vi a),(26,vi a),(27,vi b),(28,vi (Af a b)),(29,.view true 0 [] (.int .i32) a ((Af a b)-a))]]⟩
def z18(cO:K_):ZT_ R_:=H.i P_ [r,r,r,l,r,d,(lp cO),r,l,d,(call 6 347),r,r,r,d]
def t12(b a:Int)(f:LX):S:=⟨[(0,vi b),(7,.own 0),(8,vi a)],[Aw 21 f],[]⟩
def z12:ZT_ R_:=H.i P_ [r,r,r,l,r,d]
def x18(cO:K_)(b a g:Int)(h:LX):Option R_:=H.e P_ [r,r,r,l,r,d,(lp cO),r,l,d,(call 6 347),r,r,r,d] (t18 b a g h)
theorem i18(cO:K_)(b a:Int):∀(q:Nat) (g:Int) (h:LX),z18 cO q (t18 b a g h)=MA (λa f=>cO (t12 b a f)) b a q g h:=
 ind (λ_ _=>by kernel_rfl) λq ih g h=>Eq.trans (b:=dU (sG (λa f=>cO (t12 b a f)) b) (λg h=>(z18 cO q) (t18 b a g h)) b a g h) F3 (by simp only[ih]<;>rfl)
theorem e18(cO:K_)(b:Int):x18 cO b=rA (λa f=>cO (t12 b a f)) b:=by funext a g h;exact Eq.trans F3 ((i18 cO b a Bm g h).trans (by rw[Al];rfl))
theorem i12(b:Int):∀(q:Nat) (a:Int) (f:LX),z12 q (t12 b a f)=EF b q a f:=
 ind (λ_ _=>by kernel_rfl) λq ih a f=>Eq.trans (b:=qW (qQ (x18 (z12 q) b) b) Ac5 b a f) F3 (by simp only[e18,ih]<;>rfl)
def k:KC_:=kk_ 319 H (u2 Q4) func319 (λx=>Eq.trans (b:=u2 (yV (λb a f=>z12 Bm (t12 b a f))) x) F3 (by simp only[i12,Al]<;>rfl))
end F319
namespace F36
abbrev R_:=Int
def H:=hd_ [Si,Sw] [Si] (.seq .d (.seq .d (.seq .d (.seq .d (.cut [] [] (.seq .d (.blk (.loop [5,6,22,23,24] [] .d))) .d))))) [F95.k] f36
def t4(b f:Int32)(a:LX)(g:Int):S:=⟨[(5,vx b),(6,vx f),(22,vw a),(23,vi (Ac a)),(24,vi g)],[],[]⟩
def z4:ZT_ R_:=H.i P_ [r,r,r,r,l,r,d]
theorem i4(b f:Int32)(a:LX):∀(q:Nat) (g:Int),z4 q (t4 b f a g)=BP b f a q g:=
 ind (λ_=>by kernel_rfl) λq ih g=>Eq.trans (b:=SX Bh3 (λg=>(z4 q) (t4 b f a g)) b f a g) F3 (by simp only[ih]<;>rfl)
def k:KC_:=kk_ 36 H (u2 DI) func36 (λx=>Eq.trans (b:=u2 (iA (λb f a g=>z4 Bm (t4 b f a g))) x) F3 (by simp only[i4,Al]<;>rfl))
end F36
namespace F270
def KH(j16:Int->Int32->Int-> (List (Int×Int32×(Int×LX×LX×Unit)×Unit))->LX->Int->Int32->Int->LX->LX->Option (LX×Int))(j18:Int->Int->LX->Option (LX×Int))(f:LU)(a b g:Int)(h:List (Int×Int32×(Int×LX×LX×Unit)×Unit))(k:LX):Option (LX×Int):=
if(Cj g (Ac f))then
(Aj f g).bind λag=>
(Mt (Bj a 0)).bind λ_=>
(Aj h (Gx g a)).bind λ_=>
both (
(Aj h (Gx g a)).bind λm=>
both (
(ME ag).bind λae=>
(λao:Option (LX×Int)=>
bo (
ao)) (
(Tp m.1 m.2.1 m.2.2.1.1 m.2.2.1.2.1 m.2.2.1.2.2.1 ae).bind λ(y,aa,w,ab,ac,ad,v)=>
j16 g y v h k aa w ab ac ad)) [
(ME ag).bind λae=>
(Tp m.1 m.2.1 m.2.2.1.1 m.2.2.1.2.1 m.2.2.1.2.2.1 ae).bind λ(y,aa,w,ab,ac,ad,v)=>
j16 g y v h k aa w ab ac ad]) [
(ME ag).bind λaf=>
both (
(Aj h (Gx g a)).bind λu=>
(λap:Option (LX×Int)=>
bo (
ap)) (
(Tp u.1 u.2.1 u.2.2.1.1 u.2.2.1.2.1 u.2.2.1.2.2.1 af).bind λ(y,aa,w,ab,ac,ad,v)=>
j16 g y v h k aa w ab ac ad)) [
(Aj h (Gx g a)).bind λu=>
(Tp u.1 u.2.1 u.2.2.1.1 u.2.2.1.2.1 u.2.2.1.2.2.1 af).bind λ(y,aa,w,ab,ac,ad,v)=>
j16 g y v h k aa w ab ac ad],
both (
(Aj h (Gx g a)).bind λm=>
(ME ag).bind λae=>
(Tp m.1 m.2.1 m.2.2.1.1 m.2.2.1.2.1 m.2.2.1.2.2.1 ae).bind λ(y,aa,w,ab,ac,ad,v)=>
j16 g y v h k aa w ab ac ad) [
(ME ag).bind λaf=>
(Aj h (Gx g a)).bind λu=>
(Tp u.1 u.2.1 u.2.2.1.1 u.2.2.1.2.1 u.2.2.1.2.2.1 af).bind λ(y,aa,w,ab,ac,ad,v)=>
j16 g y v h k aa w ab ac ad]]
else
j18 a b k
theorem Bk0: @KH= @Tu:=by
  unfold KH Tu
  try simp only[Tl,Jv,Kk]
  all_goals
    repeat (refine funext λ_=>?_)
    repeat' first
      |with_reducible rfl
      |with_reducible refine El ?_ ?_
      |with_reducible refine Ej ?_ ?_ ?_
      |with_reducible refine Em ?_ ?_ ?_ ?_
      |((with_reducible refine Gs ?_ ?_);focus (intro h;first|(subst h;rfl)|(simp only[h];rfl)|(simp[Bt,Ac,h];done)))
      |with_reducible refine Gh λx=>?_
      |with_reducible refine Lw (λ_=>?_) (λ_=>?_)
      |(refine Cq (λh=>by simp only[h,Gm,Bw,Bu,ite_self]) (λx h=>?_);(try simp only[h,Bw]))
      |(refine Dr (λh=>?_) (λh=>?_)<;>simp only[h,if_true,if_false,Bool.false_eq_true])
abbrev R_:=(LX×Int)
abbrev K_:=S->Option R_
def H:=hd_ [.agg [Si,Si],.lf (.vec 16 (.int .i32)) none,Sv] [Ow 21,Si] (.seq .d (.seq .d (.cut [2,3,8] [] (.seq .d (.blk (.loop [2,3,4,8,20] [] .d))) (.seq .d (.cut [3,10] [] (.seq .d (.blk (.loop [3,8,10,33,34,35] [⟨10,[],.own 21 (.int .i32)⟩] (.seq .d (.seq .d (.seq (.blk (.seq .d (.seq .d (.cut [3,8,10,13,14,15,16,33,34,35] [] (.mode false) .d)))) .d)))))) .d))))) [F36.k,F244.k,F317.k,F318.k,F319.k] f270
def t13(f:LU)(a b g:Int)(h:List (Int×Int32×(Int×LX×LX×Unit)×Unit))(k:LX):S:=⟨[(3,.ptr 0 []),(8,.ptr 1 []),(10,.own 2),(33,vv f),(34,vi (Ac f)),(35,vi g)],[.box 30 (.agg [vi a,vi b]),.box 333 (.val (.vec 6 (.cons (.int .i64) (.cons (.int .i32) (.cons (.cons (.int .i64) (.cons (.vec 16 (.int .i32)) (.cons (.vec 16 (.int .i32)) .nil))) .nil)))) h),Aw 21 k],[]⟩
def z13:ZT_ R_:=H.i P_ [r,r,r,r,l,r,d]
def t10(f:LU)(a b:Int)(o:LX)(p:Int)(n:List (Int×Int32×(Int×LX×LX×Unit)×Unit)):S:=⟨[(2,vv f),(3,.ptr 0 []),(4,.ptr 1 []),(8,.ptr 2 []),(20,vi p)],[.box 30 (.agg [vi a,vi b]),.box 165 (.val (.vec 16 (.int .i32)) o),.box 333 (.val (.vec 6 (.cons (.int .i64) (.cons (.int .i32) (.cons (.cons (.int .i64) (.cons (.vec 16 (.int .i32)) (.cons (.vec 16 (.int .i32)) .nil))) .nil)))) n)],[]⟩
def z10:ZT_ R_:=H.i P_ [r,r,l,r,d]
def x13(f:LU)(a b g:Int)(h:List (Int×Int32×(Int×LX×LX×Unit)×Unit))(k:LX):Option R_:=H.e P_ [r,r,r,r,l,r,d] (t13 f a b g h k)
theorem i13(f:LU)(a b:Int):∀(q:Nat) (g:Int) (h:List (Int×Int32×(Int×LX×LX×Unit)×Unit)) (k:LX),z13 q (t13 f a b g h k)=Pk f a b q g h k:=
 ind (λ_ _ _=>by kernel_rfl) λq ih g h k=>Eq.trans (b:=KH (NA (λg h k=>(z13 q) (t13 f a b g h k)) a f b) Tv f a b g h k) F3 (by rw[Bk0];simp only[ih]<;>rfl)
theorem e13:x13=Anu:=by funext f a b g h k;exact Eq.trans F3 ((i13 f a b Bm g h k).trans (by rw[Al];rfl))
theorem i10(f:LU)(a b:Int)(o:LX):∀(q:Nat) (p:Int) (n:List (Int×Int32×(Int×LX×LX×Unit)×Unit)),z10 q (t10 f a b o p n)=NH f a b o q p n:=
 ind (λ_ _=>by kernel_rfl) λq ih p n=>Eq.trans (b:=An3 (Amu x13) (λp n=>(z10 q) (t10 f a b o p n)) f a b o p n) F3 (by simp only[e13,ih]<;>rfl)
def k:KC_:=kk_ 270 H (u4 FL) func270 (λx=>Eq.trans (b:=u4 (QF (λf a b o p n=>z10 Bm (t10 f a b o p n))) x) F3 (by simp only[i10,Al]<;>rfl))
end F270
namespace F207
def H:=hd_ [.agg [Si,Si],.lf (.vec 16 (.int .i32)) none,Si,Sb] [Ow 21,Si] .d [F189.k,F266.k,F267.k,F268.k,F269.k,F270.k] f207
def k:KC_:=kk_ 207 H (u5 BC) func207
end F207
namespace F8
abbrev R_:=(LB×Int)
abbrev K_:=S->Option R_
def H:=hd_ [Si,Sw] [Ob 5,Si] (.seq .d (.seq .d (.seq .d (.cut [7] [] (.seq .d (.blk (.loop [0,7,17,18,19] [⟨7,[],.own 5 (.int .u8)⟩] (.seq .d (.seq .d (.cut [0,7,17,18,19] [] (.blk (.seq .d (.cut [0,7,9,17,18,19] [] .d (.seq .d (.blk (.loop [0,7,9,17,18,19,28,29] [] .d)))))) .d)))))) .d)))) [F36.k] f8
def t26(b:Int)(a:LX)(k:Int32)(f m:Int)(h:LB):S:=⟨[(0,vi b),(7,.own 0),(9,vx k),(17,vw a),(18,vi (Ac a)),(19,vi f),(28,vi (Bs b (8:Int))),(29,vi m)],[Ab 5 h],[]⟩
def z26(Me:K_):ZT_ R_:=H.i P_ [r,r,r,l,r,d,(lp Me),r,r,l,d,r,r,r,d]
def t16(b:Int)(a:LX)(f:Int)(g:LB):S:=⟨[(0,vi b),(7,.own 0),(17,vw a),(18,vi (Ac a)),(19,vi f)],[Ab 5 g],[]⟩
def z16:ZT_ R_:=H.i P_ [r,r,r,l,r,d]
def x26(Me:K_)(b:Int)(a:LX)(k:Int32)(f m:Int)(h:LB):Option R_:=H.e P_ [r,r,r,l,r,d,(lp Me),r,r,l,d,r,r,r,d] (t26 b a k f m h)
theorem i26(Me:K_)(b:Int)(a:LX)(k:Int32)(f:Int):∀(q:Nat) (m:Int) (h:LB),z26 Me q (t26 b a k f m h)=Qa (λf g=>Me (t16 b a f g)) b a k f q m h:=
 ind (λ_ _=>by kernel_rfl) λq ih m h=>Eq.trans (b:=OQ (bW (λf g=>Me (t16 b a f g)) b a) (λm h=>(z26 Me q) (t26 b a k f m h)) b a k f m h) F3 (by simp only[ih]<;>rfl)
theorem e26(Me:K_)(b:Int)(a:LX):x26 Me b a=cM (λf g=>Me (t16 b a f g)) b a:=by funext k f m h;exact Eq.trans F3 ((i26 Me b a k f Bm m h).trans (by rw[Al];rfl))
theorem i16(b:Int)(a:LX):∀(q:Nat) (f:Int) (g:LB),z16 q (t16 b a f g)=Ju b a q f g:=
 ind (λ_ _=>by kernel_rfl) λq ih f g=>Eq.trans (b:=OX (bF (x26 (z16 q) b a) b a) Bdw b a f g) F3 (by simp only[e26,ih]<;>rfl)
def k:KC_:=kk_ 8 H (u2 DJ) func8 (λx=>Eq.trans (b:=u2 (iB (λb a f g=>z16 Bm (t16 b a f g))) x) F3 (by simp only[i16,Al]<;>rfl))
end F8
namespace F311
abbrev R_:=Int
def H:=hd_ [Sl,Si] [Si] (.seq .d (.cut [] [] (.seq .d (.blk (.loop [0,1,7,8] [] .d))) .d)) [] f311
def t4(a:LI)(b f:Int):S:=⟨[(0,vl a),(1,vi b),(7,vi (Ac a)),(8,vi f)],[],[]⟩
def z4:ZT_ R_:=H.i P_ [r,l,r,d]
theorem i4(a:LI)(b:Int):∀(q:Nat) (f:Int),z4 q (t4 a b f)=Cr a b q f:=
 ind (λ_=>by kernel_rfl) λq ih f=>Eq.trans (b:=Gq Afh (λf=>(z4 q) (t4 a b f)) a b f) F3 (by simp only[ih]<;>rfl)
def k:KC_:=kk_ 311 H (u2 Ok) func311 (λx=>Eq.trans (b:=u2 (Mb (λa b f=>z4 Bm (t4 a b f))) x) F3 (by simp only[i4,Al]<;>rfl))
end F311
namespace F261
def H:=hd_ [Sl,Si] [Sz] .d [F311.k] f261
def k:KC_:=kk_ 261 H (u2 Lu) func261
end F261
namespace F202
def H:=hd_ [Si] [Sz] .d [F261.k] f202
def k:KC_:=kk_ 202 H Zz func202
end F202
namespace F125
def PG(j28:Bool->Int->Option Int)(y ac:Int)(g a:LB)(h p m u v b:Int)(n:Bool)(o:Int)(ak:LX)(f:LI)(k:LB):Option Int:=
if(Bj ac 0)then
(Ao ac).bind λ(bi,bj)=>
j28 bi bj
else
(DJ m ak).bind λ(bk,bb)=>
if(Bj bb 0)then
(Ao bb).bind λ(bl,bm)=>
j28 bl bm
else
(Bt k bk).bind λdv=>
(λfa:Option Int=>
bo (
fa)) (
(Bo a y (Ac a)).bind λdw=>
j28 false 0)
theorem Blg: @PG= @IW:=by
  unfold PG IW;simp only[Tl,Jv,Kk]
def SH(j13:Bool->Int->Option Int)(j12:LB->LB->Int->Int->Int->Int->Int->Int->Bool->Int->LI->LB->Option Int)(j25:Bool->Int->Option Int)(j23:LB->LB->Int->Int->Int->Int->Int->Int->Bool->Int->LI->LB->Option Int)(j24:LB->LB->Int->Int->Int->Int->Int->Int->Bool->Int->LI->LB->Int->Option Int)(j28:Bool->Int->Option Int)(j26:Int->LB->LB->Int->Int->Int->Int->Int->Int->Bool->Int->LX->LI->LI->LB->Option Int)(j22:Bool->Option Int)(j21:Option Int)(al am:LB)(an ao ap aq ar:Int)(au:LI)(ad:Int)(ae:LB)(aa:Bool)(w:Int):Option Int:=
if(Ec (Ac al) 64)then
some 8
else
if((geq w 0)&&(!aa))then
(Ew al am an ao ap aq ar au ad ae aa w).bind λ(g,a,h,p,m,u,v,f,b,k,n,o)=>
(LC al am an ao ap aq ar au ad ae aa w).bind λbn=>
if bn then
if(geq h 0)then
(Rv a).bind λ(ah,av)=>
if(geq av 24)then
j13 true 0
else
if(Bj av 0)then
(Ao av).bind λ(bp,bq)=>
j13 bp bq
else
(Bo a ah (Ac a)).bind λbr=>
(Zl br).bind λaj=>
if aj then
j13 true 0
else
(Bo a ah (Ac a)).bind λbs=>
(Yi bs).bind λ(ay,az,ab,ba,af,aw)=>
if(geq aw 24)then
j13 true 0
else
if(Bj aw 0)then
(Ao aw).bind λ(bt,bu)=>
j13 bt bu
else
both (
(Bo a (Af ah 22) (Ac a)).bind λax=>
(λfb:Option Int=>
bo (
fb)) (
j12 g ax ay az ab ba af b n o f k)) [
(Bo a (Af ah 22) (Ac a)).bind λax=>
j12 g ax ay az ab ba af b n o f k]
else
if(geq (Ac f) 0)then
if(geq h 2)then
if(Cj (Ac a) 8)then
j25 true 0
else
j23 g a h p m u v b n o f k
else
j24 g a h p m u v b n o f k 0
else
if(Cj b (Ac f))then
(Aj f b).bind λ_=>
(Aj f b).bind λy=>
if(Cj (Ac a) y)then
j28 true 0
else
(GB g).bind λ(bc,ai)=>
if(Bj ai 0)then
(Ao ai).bind λ(bv,bw)=>
j28 bv bw
else
(Fk h p m u v).bind λ(ag,bx)=>
if((Bj bx 0)||(Nw b (Ac ag)))then
(Ao 8).bind λ(bz,da)=>
j28 bz da
else
j26 y g a h p m u v b n o bc ag f k
else
if(Ec (Ac a) 4000)then
(Ao 38).bind λ(db,bd)=>
j22 ((db==true)&&((geq bd 0)&&true))
else
j21
else
j22 false
else
if((geq (Ac am) 0)&&(geq (Ac au) 0))then
if((((geq an 0)&&((geq ao 0)&&((geq ap 0)&&((geq aq 0)&&((geq ar 0)&&true)))))&&(geq ad 0))&&(vA (Ac ae) 12000))then
if(geq w 0)then
j22 true
else
if(!aa)then
(Zz w).bind λdc=>
j22 dc
else
j22 false
else
j22 false
else
if((false&&(geq ad 0))&&(vA (Ac ae) 12000))then
if(geq w 0)then
j22 true
else
if(!aa)then
(Zz w).bind λdd=>
j22 dd
else
j22 false
else
j22 false
theorem Bmg: @SH= @CK:=by
  unfold SH CK
  try simp only[Tl,Jv,Kk]
  all_goals
    repeat (refine funext λ_=>?_)
    repeat' first
      |with_reducible rfl
      |with_reducible refine El ?_ ?_
      |with_reducible refine Ej ?_ ?_ ?_
      |with_reducible refine Em ?_ ?_ ?_ ?_
      |((with_reducible refine Gs ?_ ?_);focus (intro h;first|(subst h;rfl)|(simp only[h];rfl)|(simp[Bt,Ac,h];done)))
      |with_reducible refine Gh λx=>?_
      |with_reducible refine Lw (λ_=>?_) (λ_=>?_)
      |(refine Cq (λh=>by simp only[h,Gm,Bw,Bu,ite_self]) (λx h=>?_);(try simp only[h,Bw]))
      |(refine Dr (λh=>?_) (λh=>?_)<;>simp only[h,if_true,if_false,Bool.false_eq_true])
abbrev R_:=Int
def H:=hd_ [.agg [Ss,Sb,.agg [Si,Si,Si,Si,Si],Sl,Si,Sb,Sz,Si]] [Si] (.seq .d (.seq .d (.seq .d (.cut [3] [] (.seq .d (.cond (.seq .d (.keep [3,21,22,23,24,25] false)) .d)) .d)))) [F8.k,F96.k,F122.k,⟨(127,ON),iW⟩,F128.k,F129.k,F130.k,F131.k,F199.k,F201.k,F202.k,F207.k,F258.k,F259.k,F260.k] f125 false [(121,(.seq .d (.cut [2] [] (.blk (.seq .d (.cond (.cut [2] [] (.keep [2,11] true) .d) (.seq .d (.cond (.cut [2] [] (.keep [2,20] true) .d) (.seq .d (.cond (.cut [2] [] (.keep [2,33] true) .d) .d))))))) .d))),(196,(.seq .d (.seq .d (.seq .d (.seq .d (.seq .d (.cut [0,2,5] [] (.mode false) .d))))))),(197,(.seq .d (.seq .d (.cut [0,2,3] [⟨0,[1],.ro (.int .u8)⟩] (.seq .d (.cond (.seq .d (.cut [0,2,3] [⟨0,[1],.ro (.int .u8)⟩,⟨9,[1],.ro (.int .u8)⟩,⟨10,[1],.ro (.int .u8)⟩,⟨15,[1],.ro (.int .u8)⟩,⟨16,[1],.ro (.int .u8)⟩,⟨18,[],.ro (.int .u8)⟩] .d (.cut [0,2,3,4,5] [] .d .d))) .d)) .d)))),(198,(.seq .d (.seq .d (.seq .d (.seq .d (.seq .d (.seq .d (.cut [0,2,3,4,6] [⟨0,[1],.ro (.int .u8)⟩,⟨9,[1],.ro (.int .u8)⟩,⟨10,[1],.ro (.int .u8)⟩,⟨13,[1],.ro (.int .u8)⟩,⟨14,[1],.ro (.int .u8)⟩,⟨19,[1],.ro (.int .u8)⟩,⟨20,[1],.ro (.int .u8)⟩,⟨22,[],.ro (.int .u8)⟩,⟨28,[1],.ro (.int .u8)⟩,⟨29,[1],.ro (.int .u8)⟩,⟨40,[1],.ro (.int .u8)⟩,⟨41,[1],.ro (.int .u8)⟩] .d (.cut [0,2,3,5,7] [] .d (.seq .d (.seq .d (.seq .d (.seq .d (.seq (.mode false) .d))))))))))))))]
def x27(y ac:Int)(g a:LB)(h p m u v b:Int)(n:Bool)(o:Int)(ak:LX)(f:LI)(k:LB):Option R_:=H.e P_ [r,r,r,l,r,l,r,(dcall 3 121 3 #[true,true,true,true,true,true,true,true] #[true,true,true,true,true,false,false,false]),r,l,d,r,r,r,r,r,l,l,(call 1 198),r,r,r,r,r,r,r,r] ⟨[(0,.ptr 0 []),(2,.ptr 1 []),(3,vi y),(5,vi ac),(7,.own 2)],[.box 41 (.agg [vs g,vb a,.agg [vi h,vi p,vi m,vi u,vi v],.own 4,vi b,.own 5,vt n,vi o]),.box 199 (.agg [vt false,vi 0]),Aw 21 ak,.box 199 (.agg [vt false,vi 0]),Ai 3 f,Ab 5 k],[[(2,.ptr 3 [])],[(3,vt false),(21,.cst (.bool true)),(23,.agg [vt true,vi 0])]]⟩
theorem e27:x27=VX:=Eq.trans (b:=PG Ih) F3 (by rw[Blg];rfl)
def k:KC_:=kk_ 125 H (qz Fo) func125 (λx=>Eq.trans (b:=qz (SH Gi HW Om HT Pg Ih (UE x27) Ch II) x) F3 (by rw[Bmg];simp only[e27]<;>rfl))
end F125
namespace F120
def UI(f g:LB)(h k m n o:Int)(p:LI)(u:Int)(v:LB)(b:Bool)(a:Int):Option (LB×LB×Int×Int×Int×Int×Int×LI×Int×LB×Bool×Int×Int):=
(Fo f g h k m n o p u v b a).bind λw=>
if(Bj w 0)then
some (([]:LB),([]:LB),0,0,0,0,0,([]:LI),0,([]:LB),false,0,w)
else
if(Bj a 0)then
(λbl:Option (LB×LB×Int×Int×Int×Int×Int×LI×Int×LB×Bool×Int×Int)=>
both (
both (
(Ew f g h k m n o p u v b a).bind λ(y,aa,ab,ac,ad,ae,af,ag,ah,ai,aj,ak)=>
(λbm:Option (LB×LB×Int×Int×Int×Int×Int×LI×Int×LB×Bool×Int×Int)=>
bo (
bm)) (
some (y,aa,ab,ac,ad,ae,af,ag,ah,ai,aj,ak,a))) [
bl]) [
bl]) (
(Ew f g h k m n o p u v b a).bind λ(y,aa,ab,ac,ad,ae,af,ag,ah,ai,aj,ak)=>
some (y,aa,ab,ac,ad,ae,af,ag,ah,ai,aj,ak,a))
else
if b then
(Ew f g h k m n o p u v b a).bind λ(al,am,an,ao,ap,aq,ar,au,av,aw,ax,ay)=>
some (al,am,an,ao,ap,aq,ar,au,av,aw,ax,ay,36)
else
(Ew f g h k m n o p u v b a).bind λ(az,ba,bb,bc,bd,be,bf,bg,bh,bi,bj,bk)=>
some (az,ba,bb,bc,bd,be,bf,bg,bh,bi,bj,bk,0)
theorem Blx: @UI= @AI:=by
  unfold UI AI
  try simp only[Tl,Jv,Kk]
  all_goals
    repeat (refine funext λ_=>?_)
    repeat' first
      |with_reducible rfl
      |with_reducible refine El ?_ ?_
      |with_reducible refine Ej ?_ ?_ ?_
      |with_reducible refine Em ?_ ?_ ?_ ?_
      |((with_reducible refine Gs ?_ ?_);focus (intro h;first|(subst h;rfl)|(simp only[h];rfl)|(simp[Bt,Ac,h];done)))
      |with_reducible refine Gh λx=>?_
      |with_reducible refine Lw (λ_=>?_) (λ_=>?_)
      |(refine Cq (λh=>by simp only[h,Gm,Bw,Bu,ite_self]) (λx h=>?_);(try simp only[h,Bw]))
      |(refine Dr (λh=>?_) (λh=>?_)<;>simp only[h,if_true,if_false,Bool.false_eq_true])
def H:=hd_ [.agg [Ss,Sb,.agg [Si,Si,Si,Si,Si],Sl,Si,Sb,Sz,Si]] [.agg [Ss,Ob 5,.agg [Si,Si,Si,Si,Si],Ol 3,Si,Ob 5,Sz,Si],Si] (.seq .d (.seq .d (.seq (.blk (.seq .d (.cond (.seq (.mode false) .d) .d))) .d))) [F122.k,F125.k] f120
def k:KC_:=kk_ 120 H (qz AI) func120 (λx=>Eq.trans (b:=qz UI x) F3 (by simp only[Blx]<;>rfl))
end F120
namespace F123
def H:=hd_ [.agg [Ss,Sb,.agg [Si,Si,Si,Si,Si],Sl,Si,Sb,Sz,Si],Si] [.agg [Ss,Ob 5,.agg [Si,Si,Si,Si,Si],Ol 3,Si,Sb,Sz,Si],Si] .d [] f123
def k:KC_:=kk_ 123 H (u13 tC) func123
end F123
namespace F52
def VZ(j78:Int->Int->Int->Int->Int->LI->Bool->Int->LB->Int->LB->Option (LB×LB×Int×Int×Int×Int×Int×LI×Int×LB×Bool×Int×Int))(a:LB)(b:Bool)(f w ab:Int)(g:LB)(m o n p u h:Int)(am:LX)(k:LI)(v:LB):Option (LB×LB×Int×Int×Int×Int×Int×LI×Int×LB×Bool×Int×Int):=
if(Bj ab 0)then
(Ao ab).bind λ(br,bs)=>
j78 m o n p u k br bs g h v
else
(DJ n am).bind λ(bt,af)=>
if(Bj af 0)then
(Ao af).bind λ(bu,bv)=>
j78 m o n p u k bu bv g h v
else
(Bt v bt).bind λbw=>
(λhb:Option (LB×LB×Int×Int×Int×Int×Int×LI×Int×LB×Bool×Int×Int)=>
bo (
hb)) (
(Bo g w (Ac g)).bind λbx=>
j78 m o n p u k false 0 bx (Af h 1) bw)
theorem Blt: @VZ= @LW:=by
  unfold VZ LW;simp only[Tl,Jv,Kk]
def SF(j62:Int->LI->LB->Bool->Int->LB->Int->Int->Int->Int->Int->Option (LB×LB×Int×Int×Int×Int×Int×LI×Int×LB×Bool×Int×Int))(j61:LB->Int->Int->Int->Int->Int->Int->LI->LB->Option (LB×LB×Int×Int×Int×Int×Int×LI×Int×LB×Bool×Int×Int))(j75:Int->Int->Int->Int->Int->Int->LB->Bool->Int->LB->LI->Option (LB×LB×Int×Int×Int×Int×Int×LI×Int×LB×Bool×Int×Int))(j73:LB->Int->Int->Int->Int->Int->Int->LI->LB->Option (LB×LB×Int×Int×Int×Int×Int×LI×Int×LB×Bool×Int×Int))(j74:LB->Int->Int->Int->Int->Int->Int->LI->LB->Int->Option (LB×LB×Int×Int×Int×Int×Int×LI×Int×LB×Bool×Int×Int))(j78:Int->Int->Int->Int->Int->LI->Bool->Int->LB->Int->LB->Option (LB×LB×Int×Int×Int×Int×Int×LI×Int×LB×Bool×Int×Int))(j76:Int->LB->Int->Int->Int->Int->Int->Int->LX->LI->LI->LB->Option (LB×LB×Int×Int×Int×Int×Int×LI×Int×LB×Bool×Int×Int))(j71:LB->Int->Int->Int->Int->Int->Int->Bool->Int->LI->LB->Option (LB×LB×Int×Int×Int×Int×Int×LI×Int×LB×Bool×Int×Int))(j70:LB->Int->Int->Int->Int->Int->Int->LI->LB->Option (LB×LB×Int×Int×Int×Int×Int×LI×Int×LB×Bool×Int×Int))(a:LB)(b:Bool)(f:Int)(g:LB)(m o n p u h:Int)(k:LI)(v:LB):Option (LB×LB×Int×Int×Int×Int×Int×LI×Int×LB×Bool×Int×Int):=
if(geq m 0)then
(Rv g).bind λ(ad,an)=>
if(geq an 24)then
j62 h k v true 0 g m o n p u
else
if(Bj an 0)then
(Ao an).bind λ(bz,da)=>
j62 h k v bz da g m o n p u
else
(Bo g ad (Ac g)).bind λdb=>
(Zl db).bind λal=>
if al then
j62 h k v true 0 g m o n p u
else
(Bo g ad (Ac g)).bind λdc=>
(Yi dc).bind λ(ah,ai,y,aj,aa,ao)=>
if(geq ao 24)then
j62 h k v true 0 g m o n p u
else
if(Bj ao 0)then
(Ao ao).bind λ(dd,de)=>
j62 h k v dd de g m o n p u
else
both (
(Bo g (Af ad 22) (Ac g)).bind λag=>
bo (
j61 ag ah ai y aj aa h k v)) [
(Bo g (Af ad 22) (Ac g)).bind λag=>
j61 ag ah ai y aj aa h k v]
else
if(geq (Ac k) 0)then
if(geq m 2)then
if(Cj (Ac g) 8)then
j75 m o n p u h v true 0 g k
else
j73 g m o n p u h k v
else
j74 g m o n p u h k v 0
else
if(Cj h (Ac k))then
(Aj k h).bind λ_=>
(Aj k h).bind λw=>
if(Cj (Ac g) w)then
j78 m o n p u k true 0 g h v
else
(GB a).bind λ(aq,ak)=>
if(Bj ak 0)then
(Ao ak).bind λ(df,dg)=>
j78 m o n p u k df dg g h v
else
(Fk m o n p u).bind λ(ac,dh)=>
if((Bj dh 0)||(Nw h (Ac ac)))then
(Ao 8).bind λ(di,ap)=>
j78 m o n p u k di ap g h v
else
j76 w g m o n p u h aq ac k v
else
if(Ec (Ac g) 4000)then
(Ao 38).bind λ(dj,ae)=>
j71 g m o n p u h dj ae k v
else
j70 g m o n p u h k v
theorem Bme: @SF= @Jy:=by
  unfold SF Jy
  repeat (refine funext λ_=>?_)
  repeat' first
    |with_reducible rfl
    |with_reducible refine El ?_ ?_
    |with_reducible refine Ej ?_ ?_ ?_
    |with_reducible refine Em ?_ ?_ ?_ ?_
    |((with_reducible refine Gs ?_ ?_);focus (intro h;first|(subst h;rfl)|(simp only[h];rfl)|(simp[Bt,Ac,h];done)))
    |with_reducible refine Gh λx=>?_
    |with_reducible refine Lw (λ_=>?_) (λ_=>?_)
    |(refine Cq (λh=>by simp only[h,Gm,Bw,Bu,ite_self]) (λx h=>?_);(try simp only[h,Bw]))
    |(refine Dr (λh=>?_) (λh=>?_)<;>simp only[h,if_true,if_false,Bool.false_eq_true])
abbrev R_:=(LB×LB×Int×Int×Int×Int×Int×LI×Int×LB×Bool×Int×Int)
abbrev K_:=S->Option R_
def H:=hd_ [.agg [Ss,Sb,.agg [Si,Si,Si,Si,Si],Sl,Si,Sb,Sz,Si],Sb] [.agg [Ss,Ob 5,.agg [Si,Si,Si,Si,Si],Ol 3,Si,Sb,Sz,Si],Si] (.seq .d (.seq .d (.seq .d (.seq .d (.blk (.loop [2,4] [⟨2,[1],.ro (.int .u8)⟩] (.blk (.cut [2,4,7] [] (.keep [2,4,7,22] true) .d)))))))) [F8.k,F96.k,F120.k,F122.k,F123.k,⟨(127,ON),iW⟩,F128.k,F129.k,F130.k,F131.k,F199.k,F207.k,F258.k,F259.k,F260.k] f52 false [(121,(.seq .d (.cut [2] [] (.blk (.seq .d (.cond (.cut [2] [] (.keep [2,11] true) .d) (.seq .d (.cond (.cut [2] [] (.keep [2,20] true) .d) (.seq .d (.cond (.cut [2] [] (.keep [2,33] true) .d) .d))))))) .d))),(196,(.seq .d (.seq .d (.seq .d (.seq .d (.seq .d (.cut [0,2,5] [] (.mode false) .d))))))),(197,(.seq .d (.seq .d (.cut [0,2,3] [] (.seq .d (.cond (.seq .d (.cut [0,2,3] [⟨0,[1],.ro (.int .u8)⟩,⟨9,[1],.ro (.int .u8)⟩,⟨10,[1],.ro (.int .u8)⟩,⟨15,[1],.ro (.int .u8)⟩,⟨16,[1],.ro (.int .u8)⟩,⟨18,[],.ro (.int .u8)⟩] .d (.cut [0,2,3,4,5] [] .d .d))) .d)) .d)))),(198,(.seq .d (.seq .d (.seq .d (.seq .d (.seq .d (.seq .d (.cut [0,2,3,4,6] [⟨0,[1],.ro (.int .u8)⟩,⟨9,[1],.ro (.int .u8)⟩,⟨10,[1],.ro (.int .u8)⟩,⟨13,[1],.ro (.int .u8)⟩,⟨14,[1],.ro (.int .u8)⟩,⟨19,[1],.ro (.int .u8)⟩,⟨20,[1],.ro (.int .u8)⟩,⟨22,[],.ro (.int .u8)⟩,⟨28,[1],.ro (.int .u8)⟩,⟨29,[1],.ro (.int .u8)⟩,⟨40,[1],.ro (.int .u8)⟩,⟨41,[1],.ro (.int .u8)⟩] .d (.cut [0,2,3,5,7] [] .d (.seq .d (.seq .d (.seq .d (.seq .d (.seq (.mode false) .d))))))))))))))]
def t37(a:LB)(b:Bool)(f:Int)(g:LB)(m o n p u h:Int)(k:LI)(v:LB):S:=⟨[(2,.ptr 0 []),(4,.ptr 1 [])],[.box 41 (.agg [vs a,vb g,.agg [vi m,vi o,vi n,vi p,vi u],.own 2,vi h,.own 3,vt b,vi f]),.box 41 (.agg [vs ([]:LB),.nils,.agg [vi 0,vi 0,vi 0,vi 0,vi 0],.nils,vi 0,.nils,vt false,vi 0]),Ai 3 k,Ab 5 v],[]⟩
def z37:ZT_ R_:=H.i P_ [r,r,r,r,d]
def x75(M6:K_)(a:LB)(b:Bool)(f m o n p u h:Int)(v:LB)(bf:Bool)(bg:Int)(bh:LB)(bi:LI):Option R_:=H.e P_ [r,r,r,r,d,(lp M6),d,l,(call 0 121),r,l,d,r,r,r,l,r] ⟨[(2,.ptr 0 [])],[.box 199 (.agg [vt bf,vi bg]),.box 41 (.agg [vs a,vb bh,.agg [vi m,vi o,vi n,vi p,vi u],.own 3,vi h,.own 4,vt b,vi f]),.box 41 (.agg [vs ([]:LB),.nils,.agg [vi 0,vi 0,vi 0,vi 0,vi 0],.nils,vi 0,.nils,vt false,vi 0]),Ai 3 bi,Ab 5 v],[[(2,.ptr 1 []),(4,.ptr 2 [])]]⟩
def x78(M6:K_)(a:LB)(b:Bool)(f m o n p u:Int)(k:LI)(bl:Bool)(bm:Int)(bn:LB)(bp:Int)(bq:LB):Option R_:=H.e P_ [r,r,r,r,d,(lp M6),d,l,(call 0 121),r,l,d,r,r,r,r,r,l,r] ⟨[(2,.ptr 0 [])],[.box 199 (.agg [vt bl,vi bm]),.box 41 (.agg [vs a,vb bn,.agg [vi m,vi o,vi n,vi p,vi u],.own 3,vi bp,.own 4,vt b,vi f]),.box 41 (.agg [vs ([]:LB),.nils,.agg [vi 0,vi 0,vi 0,vi 0,vi 0],.nils,vi 0,.nils,vt false,vi 0]),Ai 3 k,Ab 5 bq],[[(2,.ptr 1 []),(4,.ptr 2 [])]]⟩
def x77(M6:K_)(a:LB)(b:Bool)(f w ab:Int)(g:LB)(m o n p u h:Int)(am:LX)(k:LI)(v:LB):Option R_:=H.e P_ [r,r,r,r,d,(lp M6),d,l,(call 0 121),r,l,d,r,r,r,r,r,l,l,(call 1 198),r,r,r,r,r,r,r,r] ⟨[(0,.ptr 0 []),(2,.ptr 1 []),(3,vi w),(5,vi ab),(7,.own 2)],[.box 41 (.agg [vs a,vb g,.agg [vi m,vi o,vi n,vi p,vi u],.own 5,vi h,.own 6,vt b,vi f]),.box 199 (.agg [vt false,vi 0]),Aw 21 am,.box 199 (.agg [vt false,vi 0]),.box 41 (.agg [vs ([]:LB),.nils,.agg [vi 0,vi 0,vi 0,vi 0,vi 0],.nils,vi 0,.nils,vt false,vi 0]),Ai 3 k,Ab 5 v],[[(2,.ptr 3 [])],[(2,.ptr 0 []),(4,.ptr 4 [])]]⟩
theorem e75(M6:K_)(a:LB)(b:Bool)(f:Int):x75 M6 a b f=Nj (λg m o n p u h k v=>M6 (t37 a b f g m o n p u h k v)) a b f:=F3
theorem e78(M6:K_)(a:LB)(b:Bool)(f:Int):x78 M6 a b f=Qt (λg m o n p u h k v=>M6 (t37 a b f g m o n p u h k v)) a b f:=F3
theorem e77(M6:K_)(a:LB)(b:Bool)(f:Int):x77 M6 a b f=YH (λg m o n p u h k v=>M6 (t37 a b f g m o n p u h k v)) a b f:=Eq.trans (b:=VZ (x78 M6 a b f) a b f) F3 (by rw[Blt];simp only[e78]<;>rfl)
theorem i37(a:LB)(b:Bool)(f:Int):∀(q:Nat) (g:LB) (m o n p u h:Int) (k:LI) (v:LB),z37 q (t37 a b f g m o n p u h k v)=Au a b f q g m o n p u h k v:=
 ind (λ_ _ _ _ _ _ _ _ _=>by kernel_rfl) λq ih g m o n p u h k v=>Eq.trans (b:=SF (Qw (λg m o n p u h k v=>(z37 q) (t37 a b f g m o n p u h k v)) a b f) (Vk (λg m o n p u h k v=>(z37 q) (t37 a b f g m o n p u h k v)) a b f) (x75 (z37 q) a b f) (XT (YS (x75 (z37 q) a b f) (MH (x75 (z37 q) a b f) a b f) a b f) a b f) (MH (x75 (z37 q) a b f) a b f) (x78 (z37 q) a b f) (XS (x77 (z37 q) a b f) a b f) (Cp (λg m o n p u h k v=>(z37 q) (t37 a b f g m o n p u h k v)) a b f) (CV (λg m o n p u h k v=>(z37 q) (t37 a b f g m o n p u h k v)) a b f) a b f g m o n p u h k v) F3 (by rw[Bme];simp only[e75,e78,e77,ih]<;>rfl)
def k:KC_:=kk_ 52 H (u13 Ds) func52 (λx=>Eq.trans (b:=u13 (Xt (λa b f g m o n p u h k v=>z37 Bm (t37 a b f g m o n p u h k v))) x) F3 (by simp only[i37,Al]<;>rfl))
end F52
namespace F54
def H:=hd_ [.agg [Ss,Sb,.agg [Si,Si,Si,Si,Si],Sl,Si,Sb,Sz,Si],Si] [.agg [Ss,Ob 5,.agg [Si,Si,Si,Si,Si],Ol 3,Si,Sb,Sz,Si],Ob 5,Si] .d [F122.k,F125.k,F126.k] f54
def k:KC_:=kk_ 54 H (u13 Ny) func54
end F54
namespace F209
abbrev R_:=(Int×Int)
def H:=hd_ [Sb] [Si,Si] (.seq .d (.seq .d (.cut [0,4] [] .d .d))) [F157.k,F271.k,F272.k,F273.k] f209
def k:KC_:=kk_ 209 H P9 func209
end F209
namespace F134
abbrev R_:=(Int×Int)
abbrev K_:=S->Option R_
def H:=hd_ [Sb] [Si,Si] (.seq .d (.seq .d (.seq .d (.seq .d (.cut [5] [] (.blk (.loop [1,4,5] [] (.seq .d (.cut [1,4,5] [] (.blk (.cut [1,4,5,6] [] (.keep [1,4,5,6,16,17] true) .d)) .d)))) .d))))) [F209.k] f134 false [(208,.d)]
def t8(a:Int)(b:LB):S:=⟨[(1,.ptr 0 []),(4,.fn 208 [.ptr 0 []]),(5,vi a)],[.box 31 (vb b)],[]⟩
def z8:ZT_ R_:=H.i P_ [r,r,r,r,l,d]
theorem i8:∀(q:Nat) (a:Int) (b:LB),z8 q (t8 a b)=FJ q a b:=
 ind (λ_ _=>by kernel_rfl) λq ih a b=>Eq.trans (b:=cI (YG (λa b=>(z8 q) (t8 a b))) Bbh a b) F3 (by simp only[ih]<;>rfl)
def k:KC_:=kk_ 134 H dX func134 (λx=>Eq.trans (b:=cD (λa b=>z8 Bm (t8 a b)) x) F3 (by simp only[i8,Al]<;>rfl))
end F134
namespace F124
def H:=hd_ [.agg [Ss,Sb,.agg [Si,Si,Si,Si,Si],Sl,Si,Sb,Sz,Si]] [Si] .d [⟨(127,ON),iW⟩,F128.k,F134.k] f124
def k:KC_:=kk_ 124 H (qz JS) func124
end F124
namespace F53
def H:=hd_ [.agg [Ss,Sb,.agg [Si,Si,Si,Si,Si],Sl,Si,Sb,Sz,Si]] [.agg [Ss,Ob 5,.agg [Si,Si,Si,Si,Si],Ol 3,Si,Sb,Sz,Si],Si] .d [F120.k,F123.k,F124.k] f53
def k:KC_:=kk_ 53 H (qz Fg) func53
end F53
namespace F34
def QC(j29:Int->LB->Int->Int->Int->Int->Int->Int->LB->Bool->Int->LB-> (List (Int×LB×Unit))->LB->LI->Option (LB×LB×Int×Int×Int×Int×Int×LI×Int×LB×Bool×Int×(List (Int×LB×Unit))×Int))(b:List (UInt8×Int×Unit))(ac:UInt8×Int×Unit)(a:LB)(ad ab:Int)(f w:LB)(g h k m n:Int)(y:LI)(o:Int)(p:LB)(u:Bool)(v:Int)(ae:LB)(af ag ah ai aj ak:Int)(al:LB)(am:Bool)(an:Int)(aa:List (Int×LB×Unit))(ao:LB)(ap:LI):Option (LB×LB×Int×Int×Int×Int×Int×LI×Int×LB×Bool×Int×(List (Int×LB×Unit))×Int):=
(λfs:Option (LB×LB×Int×Int×Int×Int×Int×LI×Int×LB×Bool×Int×(List (Int×LB×Unit))×Int)=>
bo (
fs)) (
(Bo a (Du ac.2.1 (Ac a)) (Ac a)).bind λbv=>
(Bt aa ([(ad,([]:LB),())]:List (Int×LB×Unit))).bind λar=>
j29 ab ae af ag ah ai aj ak al am an bv ar ao ap)
theorem Bl2: @QC= @IH:=by
  unfold QC IH;simp only[Tl,Jv,Kk]
def PH(j26:(UInt8×Int×Unit)->LB->Int->Int->LB->LB->Int->Int->Int->Int->Int->LI->Int->LB->Bool->Int->LB->Int->Int->Int->Int->Int->Int->LB->Bool->Int-> (List (Int×LB×Unit))->LB->LI->Option (LB×LB×Int×Int×Int×Int×Int×LI×Int×LB×Bool×Int×(List (Int×LB×Unit))×Int))(j33:Int->Int->LB->LB->Int->Int->Int->Int->Int->LI->Int->LB->Bool->Int->LB->LB->Int->Int->Int->Int->Int->Int->LB->Bool->Int->LB-> (List (Int×LB×Unit))->LB->LI->Option (LB×LB×Int×Int×Int×Int×Int×LI×Int×LB×Bool×Int×(List (Int×LB×Unit))×Int))(j34:Int->Int->LB->LB->Int->Int->Int->Int->Int->LI->Int->LB->Bool->Int->LB->LB->Int->Int->Int->Int->Int->Int->LB->Bool->Int-> (List (Int×LB×Unit))->LB->LI->Option (LB×LB×Int×Int×Int×Int×Int×LI×Int×LB×Bool×Int×(List (Int×LB×Unit))×Int))(j29:Int->LB->Int->Int->Int->Int->Int->Int->LB->Bool->Int->LB-> (List (Int×LB×Unit))->LB->LI->Option (LB×LB×Int×Int×Int×Int×Int×LI×Int×LB×Bool×Int×(List (Int×LB×Unit))×Int))(j31:(List (Int×LB×Unit))->LB->Int->Int->Int->Int->Int->Int->LB->Bool->Int->LB->LB->LI->Option (LB×LB×Int×Int×Int×Int×Int×LI×Int×LB×Bool×Int×(List (Int×LB×Unit))×Int))(b:List (UInt8×Int×Unit))(ab:Int)(f:LB)(g h k m n o:Int)(p:LB)(u:Bool)(v:Int)(a:LB)(aa:List (Int×LB×Unit))(w:LB)(y:LI):Option (LB×LB×Int×Int×Int×Int×Int×LI×Int×LB×Bool×Int×(List (Int×LB×Unit))×Int):=
if(Cj ab (Ac b))then
(Aj b ab).bind λac=>
if(geq ac.1 1)then
(λbw:Option (LB×LB×Int×Int×Int×Int×Int×LI×Int×LB×Bool×Int×(List (Int×LB×Unit))×Int)=>
(λda:Option (LB×LB×Int×Int×Int×Int×Int×LI×Int×LB×Bool×Int×(List (Int×LB×Unit))×Int)=>
(λdb:Option (LB×LB×Int×Int×Int×Int×Int×LI×Int×LB×Bool×Int×(List (Int×LB×Unit))×Int)=>
both (
da) [
da,
(Bo a 0 (Du ac.2.1 (Ac a))).bind λaq=>
(λdc:Option (LB×LB×Int×Int×Int×Int×Int×LI×Int×LB×Bool×Int×(List (Int×LB×Unit))×Int)=>
(λdd:Option (LB×LB×Int×Int×Int×Int×Int×LI×Int×LB×Bool×Int×(List (Int×LB×Unit))×Int)=>
(λde:Option (LB×LB×Int×Int×Int×Int×Int×LI×Int×LB×Bool×Int×(List (Int×LB×Unit))×Int)=>
both (
de) [
de,
dd]) (
both (
dd) [
dc])) (
bo (
dc))) (
(Ds f w g h k m n y o p u v aq).bind λ(ae,ao,af,ag,ah,ai,aj,ap,ak,al,am,an,ad)=>
j26 ac a ad ab f w g h k m n y o p u v ae af ag ah ai aj ak al am an aa ao ap),
both (
db) [
db,
(Bo a 0 (Du ac.2.1 (Ac a))).bind λaq=>
(λft:Option (LB×LB×Int×Int×Int×Int×Int×LI×Int×LB×Bool×Int×(List (Int×LB×Unit))×Int)=>
bo (
ft)) (
(Ds f w g h k m n y o p u v aq).bind λ(ae,ao,af,ag,ah,ai,aj,ap,ak,al,am,an,ad)=>
j26 ac a ad ab f w g h k m n y o p u v ae af ag ah ai aj ak al am an aa ao ap)]]) (
bo (
bw))) (
both (
both (
(Bo a 0 (Du ac.2.1 (Ac a))).bind λaq=>
(λfu:Option (LB×LB×Int×Int×Int×Int×Int×LI×Int×LB×Bool×Int×(List (Int×LB×Unit))×Int)=>
bo (
fu)) (
(Ds f w g h k m n y o p u v aq).bind λ(ae,ao,af,ag,ah,ai,aj,ap,ak,al,am,an,ad)=>
j26 ac a ad ab f w g h k m n y o p u v ae af ag ah ai aj ak al am an aa ao ap)) [
bw]) [
(Bo a 0 (Du ac.2.1 (Ac a))).bind λaq=>
(λdf:Option (LB×LB×Int×Int×Int×Int×Int×LI×Int×LB×Bool×Int×(List (Int×LB×Unit))×Int)=>
both (
bo (
df)) [
df]) (
(Ds f w g h k m n y o p u v aq).bind λ(ae,ao,af,ag,ah,ai,aj,ap,ak,al,am,an,ad)=>
j26 ac a ad ab f w g h k m n y o p u v ae af ag ah ai aj ak al am an aa ao ap),
bo (
bw)])) (
(Bo a 0 (Du ac.2.1 (Ac a))).bind λaq=>
(Ds f w g h k m n y o p u v aq).bind λ(ae,ao,af,ag,ah,ai,aj,ap,ak,al,am,an,ad)=>
j26 ac a ad ab f w g h k m n y o p u v ae af ag ah ai aj ak al am an aa ao ap)
else
if(geq ac.1 2)then
(λdg:Option (LB×LB×Int×Int×Int×Int×Int×LI×Int×LB×Bool×Int×(List (Int×LB×Unit))×Int)=>
(λdh:Option (LB×LB×Int×Int×Int×Int×Int×LI×Int×LB×Bool×Int×(List (Int×LB×Unit))×Int)=>
(λdi:Option (LB×LB×Int×Int×Int×Int×Int×LI×Int×LB×Bool×Int×(List (Int×LB×Unit))×Int)=>
both (
di) [
di,
dh]) (
both (
dh) [
dg])) (
bo (
dg))) (
(Ny f w g h k m n y o p u v ac.2.1).bind λ(av,ar,aw,ax,ay,az,ba,bg,bb,bc,bd,be,bf,au)=>
j33 au ab f w g h k m n y o p u v a av aw ax ay az ba bb bc bd be bf aa ar bg)
else
if(geq ac.1 3)then
(λdj:Option (LB×LB×Int×Int×Int×Int×Int×LI×Int×LB×Bool×Int×(List (Int×LB×Unit))×Int)=>
(λdk:Option (LB×LB×Int×Int×Int×Int×Int×LI×Int×LB×Bool×Int×(List (Int×LB×Unit))×Int)=>
(λdl:Option (LB×LB×Int×Int×Int×Int×Int×LI×Int×LB×Bool×Int×(List (Int×LB×Unit))×Int)=>
both (
dl) [
dl,
dk]) (
both (
dk) [
dj])) (
bo (
dj))) (
(Fg f w g h k m n y o p u v).bind λ(bi,bt,bj,bk,bl,bm,bn,bu,bp,bq,br,bs,bh)=>
j34 bh ab f w g h k m n y o p u v a bi bj bk bl bm bn bp bq br bs aa bt bu)
else
j29 ab f g h k m n o p u v a aa w y
else
j31 aa f g h k m n o p u v a w y
theorem Bkx: @PH= @Yu:=by
  unfold PH Yu
  try simp only[Tl,Jv,Kk]
  all_goals
    repeat (refine funext λ_=>?_)
    repeat' first
      |with_reducible rfl
      |with_reducible refine El ?_ ?_
      |with_reducible refine Ej ?_ ?_ ?_
      |with_reducible refine Em ?_ ?_ ?_ ?_
      |((with_reducible refine Gs ?_ ?_);focus (intro h;first|(subst h;rfl)|(simp only[h];rfl)|(simp[Bt,Ac,h];done)))
      |with_reducible refine Gh λx=>?_
      |with_reducible refine Lw (λ_=>?_) (λ_=>?_)
      |(refine Cq (λh=>by simp only[h,Gm,Bw,Bu,ite_self]) (λx h=>?_);(try simp only[h,Bw]))
      |(refine Dr (λh=>?_) (λh=>?_)<;>simp only[h,if_true,if_false,Bool.false_eq_true])
abbrev R_:=(LB×LB×Int×Int×Int×Int×Int×LI×Int×LB×Bool×Int×(List (Int×LB×Unit))×Int)
abbrev K_:=S->Option R_
def H:=hd_ [Ss,Sb,.lf (.list (.cons (.int .u8) (.cons (.int .i64) .nil))) none] [.agg [Ss,Ob 5,.agg [Si,Si,Si,Si,Si],Ol 3,Si,Sb,Sz,Si],.lf (.list (.cons (.int .i64) (.cons (.list (.int .u8)) .nil))) (some 162),Si] (.seq .d (.seq .d (.seq .d (.seq .d (.seq .d (.cut [6,12,13] [] (.keep [6,12,13,35] true) .d)))))) [F51.k,F52.k,F53.k,F54.k,F93.k] f34 false [(94,(.seq .d (.seq .d (.seq .d (.cut [6] [] (.seq .d (.blk (.loop [5,6,19,20,21] [⟨5,[0,0,5],.ro (.int .u8)⟩,⟨6,[],.own 162 (.cons (.int .i64) (.cons (.list (.int .u8)) .nil))⟩] (.seq .d (.seq .d (.cut [5,6,19,20,21] [] (.blk (.seq .d (.seq .d (.seq .d (.cond (.keep [5,6,19,20,21,33,37,38,39] true) .d))))) .d)))))) .d))))),(172,(.seq .d (.seq .d (.cut [0,1,4,5,6] [] (.mode false) (.seq (.mode false) .d))))),(173,(.seq .d (.cut [0,4,5,6,7] [] (.mode false) .d))),(174,(.seq .d (.cut [0,4,5,6] [] (.mode false) .d)))]
def t17(b:List (UInt8×Int×Unit))(ab:Int)(f:LB)(g h k m n o:Int)(p:LB)(u:Bool)(v:Int)(a:LB)(aa:List (Int×LB×Unit))(w:LB)(y:LI):S:=⟨[(5,.mp [1,2,3] [.bfn 172 [.ptr 0 []],.bfn 173 [.ptr 0 []],.bfn 174 [.ptr 0 []]]),(6,.own 1),(19,.val (.list (.cons (.int .u8) (.cons (.int .i64) .nil))) b),(20,vi (Ac b)),(21,vi ab)],[.box 159 (.agg [.agg [vs f,.own 3,.agg [vi g,vi h,vi k,vi m,vi n],.own 4,vi o,vb p,vt u,vi v],.fn 52 [],.fn 53 [],.fn 54 [],vb a]),.arr 162 (.cons (.int .i64) (.cons (.list (.int .u8)) .nil)) aa,.box 41 (.agg [vs ([]:LB),.nils,.agg [vi 0,vi 0,vi 0,vi 0,vi 0],.nils,vi 0,.nils,vt false,vi 0]),Ab 5 w,Ai 3 y],[[(6,.ptr 2 []),(12,.ptr 0 [])]]⟩
def z17:ZT_ R_:=H.i P_ [r,r,r,r,r,l,(call 2 94),r,r,r,l,r,d]
def x26(Q6:K_)(b:List (UInt8×Int×Unit))(ac:UInt8×Int×Unit)(a:LB)(ad ab:Int)(f w:LB)(g h k m n:Int)(y:LI)(o:Int)(p:LB)(u:Bool)(v:Int)(ae:LB)(af ag ah ai aj ak:Int)(al:LB)(am:Bool)(an:Int)(aa:List (Int×LB×Unit))(ao:LB)(ap:LI):Option R_:=H.e P_ [r,r,r,r,r,l,(call 2 94),r,r,r,l,r,d,(lp Q6),r,r,l,d,r,r,r,l,(call 4 172),r,r,r] ⟨[(0,.ptr 0 []),(1,vi (Du ac.2.1 (Ac a))),(4,.ptr 1 []),(5,.ptr 2 []),(6,vi ad)],[.box 159 (.agg [.agg [vs f,vb w,.agg [vi g,vi h,vi k,vi m,vi n],vl y,vi o,vb p,vt u,vi v],.fn 52 [],.fn 53 [],.fn 54 [],vb a]),.box 162 (.agg [vi 0,.nils]),.box 41 (.agg [vs ae,.own 5,.agg [vi af,vi ag,vi ah,vi ai,vi aj],.own 6,vi ak,vb al,vt am,vi an]),.arr 162 (.cons (.int .i64) (.cons (.list (.int .u8)) .nil)) aa,.box 41 (.agg [vs ([]:LB),.nils,.agg [vi 0,vi 0,vi 0,vi 0,vi 0],.nils,vi 0,.nils,vt false,vi 0]),Ab 5 ao,Ai 3 ap],[[(5,.mp [1,2,3] [.bfn 172 [.ptr 0 []],.bfn 173 [.ptr 0 []],.bfn 174 [.ptr 0 []]]),(6,.own 3),(19,.val (.list (.cons (.int .u8) (.cons (.int .i64) .nil))) b),(20,vi (Ac b)),(21,vi ab),(33,.own 3)],[(6,.ptr 4 []),(12,.ptr 0 [])]]⟩
theorem e26(Q6:K_)(b:List (UInt8×Int×Unit)):x26 Q6 b=VW (λab f g h k m n o p u v a aa w y=>Q6 (t17 b ab f g h k m n o p u v a aa w y)) b:=Eq.trans (b:=QC (Iq (λab f g h k m n o p u v a aa w y=>Q6 (t17 b ab f g h k m n o p u v a aa w y)) b) b) F3 (by rw[Bl2];rfl)
theorem i17(b:List (UInt8×Int×Unit)):∀(q:Nat) (ab:Int) (f:LB) (g h k m n o:Int) (p:LB) (u:Bool) (v:Int) (a:LB) (aa:List (Int×LB×Unit)) (w:LB) (y:LI),z17 q (t17 b ab f g h k m n o p u v a aa w y)=Ie b q ab f g h k m n o p u v a aa w y:=
 ind (λ_ _ _ _ _ _ _ _ _ _ _ _ _ _ _=>by kernel_rfl) λq ih ab f g h k m n o p u v a aa w y=>Eq.trans (b:=PH (x26 (z17 q) b) (SG (λab f g h k m n o p u v a aa w y=>(z17 q) (t17 b ab f g h k m n o p u v a aa w y)) b) (TJ (λab f g h k m n o p u v a aa w y=>(z17 q) (t17 b ab f g h k m n o p u v a aa w y)) b) (Iq (λab f g h k m n o p u v a aa w y=>(z17 q) (t17 b ab f g h k m n o p u v a aa w y)) b) SN b ab f g h k m n o p u v a aa w y) F3 (by rw[Bkx];simp only[e26,ih]<;>rfl)
def k:KC_:=kk_ 34 H (u3 Zw) func34 (λx=>Eq.trans (b:=u3 (CB (λb ab f g h k m n o p u v a aa w y=>z17 Bm (t17 b ab f g h k m n o p u v a aa w y))) x) F3 (by simp only[i17,Al]<;>rfl))
end F34
namespace F60
def H:=hd_ [.agg [Ss,Sb,.agg [Si,Si,Si,Si,Si],Sl,Si,Sb,Sz,Si]] [Si,Si] .d [F125.k] f60
def k:KC_:=kk_ 60 H (qz SL) func60
end F60
namespace F17
abbrev R_:=(Int×Int×Int)
abbrev K_:=S->Option R_
def H:=hd_ [Ss,Sb,.lf (.list (.cons (.int .u8) (.cons (.int .i64) .nil))) none] [Si,Si,Si] (.seq .d (.seq .d (.seq .d (.seq .d (.cut [6,7] [] (.seq .d (.blk (.loop [1,6,7,12,37,38,39] [⟨12,[5],.ro (.int .u8)⟩] (.seq .d (.seq .d (.seq (.blk (.seq .d (.cut [1,6,7,12,37,38,39] [] (.seq .d (.blk (.seq .d (.cond (.seq .d (.seq (.mode false) .d)) .d)))) .d))) .d)))))) .d))))) [F34.k,F51.k,F52.k,F53.k,F54.k,F60.k] f17
def t7(a:List (UInt8×Int×Unit))(h:LB)(b f g:Int)(k:LB)(m n o p u v:Int)(w:LB)(y:Bool)(aa:Int)(ab:LB)(ac:LI):S:=⟨[(1,vb h),(6,vi b),(7,vi f),(12,.ptr 0 []),(37,.val (.list (.cons (.int .u8) (.cons (.int .i64) .nil))) a),(38,vi (Ac a)),(39,vi g)],[.box 41 (.agg [vs k,.own 1,.agg [vi m,vi n,vi o,vi p,vi u],.own 2,vi v,vb w,vt y,vi aa]),Ab 5 ab,Ai 3 ac],[]⟩
def z7:ZT_ R_:=H.i P_ [r,r,r,r,l,r,d]
theorem i7(a:List (UInt8×Int×Unit)):∀(q:Nat) (h:LB) (b f g:Int) (k:LB) (m n o p u v:Int) (w:LB) (y:Bool) (aa:Int) (ab:LB) (ac:LI),z7 q (t7 a h b f g k m n o p u v w y aa ab ac)=Md a q h b f g k m n o p u v w y aa ab ac:=
 ind (λ_ _ _ _ _ _ _ _ _ _ _ _ _ _ _ _=>by kernel_rfl) λq ih h b f g k m n o p u v w y aa ab ac=>Eq.trans (b:=CF (OO (λh b f g k m n o p u v w y aa ab ac=>(z7 q) (t7 a h b f g k m n o p u v w y aa ab ac)) a) Bdc a h b f g k m n o p u v w y aa ab ac) F3 (by simp only[ih]<;>rfl)
def k:KC_:=kk_ 17 H (u3 RC) func17 (λx=>Eq.trans (b:=u3 (KI (λa h b f g k m n o p u v w y aa ab ac=>z7 Bm (t7 a h b f g k m n o p u v w y aa ab ac))) x) F3 (by simp only[i7,Al]<;>rfl))
end F17
namespace F135
abbrev R_:=Int
def H:=hd_ [.lf (.list (.cons (.int .u8) (.cons (.int .i64) .nil))) none] [Si] (.seq .d (.seq .d (.cut [] [] (.seq .d (.blk (.loop [0,3] [] .d))) .d))) [] f135
def t4(a:List (UInt8×Int×Unit))(b:Int):S:=⟨[(0,.val (.list (.cons (.int .u8) (.cons (.int .i64) .nil))) a),(3,vi b)],[],[]⟩
def z4:ZT_ R_:=H.i P_ [r,r,l,r,d]
theorem i4(a:List (UInt8×Int×Unit)):∀(q:Nat) (b:Int),z4 q (t4 a b)=Ex a q b:=
 ind (λ_=>by kernel_rfl) λq ih b=>Eq.trans (b:=Wk Afm (λb=>(z4 q) (t4 a b)) a b) F3 (by simp only[ih]<;>rfl)
def k:KC_:=kk_ 135 H Jq func135 (λx=>Eq.trans (b:=Qh (λa b=>z4 Bm (t4 a b)) x) F3 (by simp only[i4,Al]<;>rfl))
end F135
namespace F62
def H:=hd_ [Ss] [.agg [Ss,Ob 5,.agg [Si,Si,Si,Si,Si],Ol 3,Si,Ob 5,Sz,Si],Si] .d [] f62
def k:KC_:=kk_ 62 H Vo func62
end F62
namespace F136
def H:=hd_ [Sb,Si,Si] [Sb,Si] .d [] f136
def k:KC_:=kk_ 136 H (u3 Mk) func136
end F136
namespace F287
def H:=hd_ [.agg [Si,Si,Si,Si,Si]] [Sz] .d [] f287
def k:KC_:=kk_ 287 H (u5 Lc) func287
end F287
namespace F132
def H:=hd_ [Si] [Si] .d [] f132
def k:KC_:=kk_ 132 H Ys func132
end F132
namespace F57
abbrev R_:=LI
def H:=hd_ [Si,Si] [Ol 3] (.seq .d (.seq .d (.cut [5] [] (.seq .d (.blk (.loop [0,5,6] [⟨5,[],.own 3 (.int .i64)⟩] .d))) .d))) [F132.k] f57
def t4(a f:Int)(b:LI):S:=⟨[(0,vi a),(5,.own 0),(6,vi f)],[Ai 3 b],[]⟩
def z4:ZT_ R_:=H.i P_ [r,r,l,r,d]
theorem i4(a:Int):∀(q:Nat) (f:Int) (b:LI),z4 q (t4 a f b)=Fu a q f b:=
 ind (λ_ _=>by kernel_rfl) λq ih f b=>Eq.trans (b:=Lq Qm (λf b=>(z4 q) (t4 a f b)) a f b) F3 (by simp only[ih]<;>rfl)
def k:KC_:=kk_ 57 H (u2 Mm) func57 (λx=>Eq.trans (b:=u2 (HA (λa f b=>z4 Bm (t4 a f b))) x) F3 (by simp only[i4,Al]<;>rfl))
end F57
namespace F288
def GD(h a k f b:Int):Option Bool:=
(λm:Option Bool=>
(λn:Option Bool=>
bo (
n)) (
(Mt (Bj a 0)).bind λ_=>
bo (
m))) (
if(Ec b (Bs 4000 a))then
some true
else
(Mm f b).bind λg=>
some (Ec (Ac g) 1000))
theorem Bju: @GD= @Oz:=by
  unfold GD Oz;simp only[Tl,Jv,Kk]
def H:=hd_ [.agg [Si,Si,Si,Si,Si]] [Sz] (.seq .d (.seq (.mode false) .d)) [F57.k] f288
def k:KC_:=kk_ 288 H (u5 Oz) func288 (λx=>Eq.trans (b:=u5 GD x) F3 (by simp only[Bju]<;>rfl))
end F288
namespace F274
def H:=hd_ [.agg [Si,Si,Si,Si,Si]] [Si] .d [F287.k,F288.k] f274
def k:KC_:=kk_ 274 H (u5 Mr) func274
end F274
namespace F213
def H:=hd_ [.agg [Si,Si,Si,Si,Si],Ss] [Si] .d [] f213
def k:KC_:=kk_ 213 H (u6 Et) func213
end F213
namespace F275
abbrev R_:=Int
abbrev K_:=S->Option R_
def H:=hd_ [Sl] [Si] (.seq .d (.seq .d (.seq .d (.cut [3] [] (.seq .d (.blk (.loop [0,3,4] [] (.seq .d (.seq (.blk (.cut [0,3,4] [] .d .d)) .d))))) .d)))) [] f275
def t6(a:LI)(f b:Int):S:=⟨[(0,vl a),(3,vi f),(4,vi b)],[],[]⟩
def z6:ZT_ R_:=H.i P_ [r,r,r,l,r,d]
theorem i6(a:LI):∀(q:Nat) (f b:Int),z6 q (t6 a f b)=Ls a q f b:=
 ind (λ_ _=>by kernel_rfl) λq ih f b=>Eq.trans (b:=Wv (HE (λf b=>(z6 q) (t6 a f b)) a) EM a f b) F3 (by simp only[ih]<;>rfl)
def k:KC_:=kk_ 275 H Jc func275 (λx=>Eq.trans (b:=Wi (λa f b=>z6 Bm (t6 a f b)) x) F3 (by simp only[i6,Al]<;>rfl))
end F275
namespace F276
def H:=hd_ [.agg [Si,Si,Si,Si,Si]] [Ol 3] .d [F57.k] f276
def k:KC_:=kk_ 276 H (u5 Gy) func276
end F276
namespace F282
def H:=hd_ [.agg [Si,Si,Si,Si,Si]] [.agg [Si,Si]] .d [] f282
def k:KC_:=kk_ 282 H (u5 Jl) func282
end F282
namespace F58
def H:=hd_ [.agg [Si,Si]] [Si] .d [] f58
def k:KC_:=kk_ 58 H (u2 Gb) func58
end F58
namespace F277
abbrev R_:=Int
def H:=hd_ [.agg [Si,Si,Si,Si,Si],Si] [Si] (.seq .d (.seq .d (.seq .d (.cut [2,6] [] (.seq .d (.blk (.loop [1,2,5,6,7] [] .d))) .d)))) [F58.k,F276.k,F282.k] f277
def t4(n a b f g h:Int)(k:LI)(m o:Int):S:=⟨[(1,vi n),(2,.ptr 0 []),(5,.own 1),(6,vi m),(7,vi o)],[.box 39 (.agg [vi a,vi b,vi f,vi g,vi h]),Ai 3 k],[]⟩
def z4:ZT_ R_:=H.i P_ [r,r,r,l,r,d]
theorem i4(n a b f g h:Int)(k:LI):∀(q:Nat) (m o:Int),z4 q (t4 n a b f g h k m o)=Nh n a b f g h k q m o:=
 ind (λ_ _=>by kernel_rfl) λq ih m o=>Eq.trans (b:=Yh JE (λm o=>(z4 q) (t4 n a b f g h k m o)) n a b f g h k m o) F3 (by simp only[ih]<;>rfl)
def k:KC_:=kk_ 277 H (u6 Yx) func277 (λx=>Eq.trans (b:=u6 (KD (λn a b f g h k m o=>z4 Bm (t4 n a b f g h k m o))) x) F3 (by simp only[i4,Al]<;>rfl))
end F277
namespace F359
abbrev R_:=(Int×Int)
def H:=hd_ [Sb] [Si,Si] (.seq .d (.seq .d (.seq .d (.cut [4] [] (.seq .d (.blk (.loop [0,4,5] [] .d))) .d)))) [] f359
def t4(a:LB)(b f:Int):S:=⟨[(0,vb a),(4,vi b),(5,vi f)],[],[]⟩
def z4:ZT_ R_:=H.i P_ [r,r,r,l,r,d]
theorem i4(a:LB):∀(q:Nat) (b f:Int),z4 q (t4 a b f)=Lr a q b f:=
 ind (λ_ _=>by kernel_rfl) λq ih b f=>Eq.trans (b:=Wu Ak0 (λb f=>(z4 q) (t4 a b f)) a b f) F3 (by simp only[ih]<;>rfl)
def k:KC_:=kk_ 359 H ES func359 (λx=>Eq.trans (b:=HH (λa b f=>z4 Bm (t4 a b f)) x) F3 (by simp only[i4,Al]<;>rfl))
end F359
namespace F327
abbrev R_:=(Int×Int)
def H:=hd_ [Sb] [Si,Si] (.seq .d (.cut [0] [] .d (.seq .d (.seq .d (.cut [0,4] [] .d (.seq .d (.cut [0,6] [] .d .d))))))) [F359.k] f327
def x5(a:LB)(b:Int):Option R_:=H.e P_ [r,r,r,r,r] ⟨[(0,vb a),(4,vi b)],[],[]⟩
theorem e5:x5=Yd:=F3
def k:KC_:=kk_ 327 H HZ func327 (λx=>Eq.trans (b:=JO (JZ x5) x) F3 (by simp only[e5]<;>rfl))
end F327
namespace F285
abbrev R_:=UInt64
def H:=hd_ [Sb] [Sq] (.seq .d (.seq .d (.cut [3] [] (.seq .d (.blk (.loop [0,3,4] [] .d))) .d))) [] f285
def t4(a:LB)(b:UInt64)(f:Int):S:=⟨[(0,vb a),(3,vq b),(4,vi f)],[],[]⟩
def z4:ZT_ R_:=H.i P_ [r,r,l,r,d]
theorem i4(a:LB):∀(q:Nat) (b:UInt64) (f:Int),z4 q (t4 a b f)=Qx a q b f:=
 ind (λ_ _=>by kernel_rfl) λq ih b f=>Eq.trans (b:=FF PX (λb f=>(z4 q) (t4 a b f)) a b f) F3 (by simp only[ih]<;>rfl)
def k:KC_:=kk_ 285 H Bb func285 (λx=>Eq.trans (b:=PN (λa b f=>z4 Bm (t4 a b f)) x) F3 (by simp only[i4,Al]<;>rfl))
end F285
namespace F330
def H:=hd_ [Sb] [Si,Si,Sz] .d [F285.k] f330
def k:KC_:=kk_ 330 H Sk func330
end F330
namespace F291
abbrev R_:=LB
def H:=hd_ [Sq,Si] [Ob 5] (.seq .d (.seq .d (.cut [5] [] (.seq .d (.blk (.loop [0,1,5,6] [⟨5,[],.own 5 (.int .u8)⟩] .d))) .d))) [] f291
def t4(b:Int)(f:UInt64)(g:Int)(a:LB):S:=⟨[(0,vq f),(1,vi b),(5,.own 0),(6,vi g)],[Ab 5 a],[]⟩
def z4:ZT_ R_:=H.i P_ [r,r,l,r,d]
theorem i4(b:Int):∀(q:Nat) (f:UInt64) (g:Int) (a:LB),z4 q (t4 b f g a)=Iv b q f g a:=
 ind (λ_ _ _=>by kernel_rfl) λq ih f g a=>Eq.trans (b:=Tg BD (λf g a=>(z4 q) (t4 b f g a)) b f g a) F3 (by simp only[ih]<;>rfl)
def k:KC_:=kk_ 291 H (u2 Bf) func291 (λx=>Eq.trans (b:=u2 (CN (λb f g a=>z4 Bm (t4 b f g a))) x) F3 (by simp only[i4,Al]<;>rfl))
end F291
namespace F361
def H:=hd_ [Si,Si,Sq] [Ob 5] .d [F291.k] f361
def k:KC_:=kk_ 361 H (u3 Vm) func361
end F361
namespace F332
def H:=hd_ [Si,Si] [Ob 5] .d [F361.k] f332
def k:KC_:=kk_ 332 H (u2 Yl) func332
end F332
namespace F331
def H:=hd_ [Si,Si,Sz] [Ob 5] .d [F361.k] f331
def k:KC_:=kk_ 331 H (u3 Gu) func331
end F331
namespace F328
abbrev R_:=(Int×Int)
def H:=hd_ [Sb] [Si,Si] (.seq .d (.cut [0] [] .d (.seq .d (.seq .d (.cut [0,4,5] [] .d .d))))) [F330.k,F331.k,F332.k] f328
def k:KC_:=kk_ 328 H ED func328
end F328
namespace F284
abbrev R_:=(LI×Int)
abbrev K_:=S->Option R_
def H:=hd_ [Sb] [Ol 3,Si] (.seq .d (.seq .d (.seq .d (.blk (.loop [0,4,5] [⟨4,[],.own 3 (.int .i64)⟩] (.blk (.seq .d (.cut [0,4,5,6,7] [] .d .d)))))))) [F327.k,F328.k] f284
def t6(a:LB)(b:Int)(f:LI):S:=⟨[(0,vb a),(4,.own 0),(5,vi b)],[Ai 3 f],[]⟩
def z6:ZT_ R_:=H.i P_ [r,r,r,d]
theorem i6(a:LB):∀(q:Nat) (b:Int) (f:LI),z6 q (t6 a b f)=Qf a q b f:=
 ind (λ_ _=>by kernel_rfl) λq ih b f=>Eq.trans (b:=Wx (Qj (λb f=>(z6 q) (t6 a b f)) a) a b f) F3 (by simp only[ih]<;>rfl)
def k:KC_:=kk_ 284 H PL func284 (λx=>Eq.trans (b:=Afv (λa b f=>z6 Bm (t6 a b f)) x) F3 (by simp only[i6,Al]<;>rfl))
end F284
namespace F216
abbrev R_:=(Int×Int)
def H:=hd_ [Sb] [Si,Si] (.seq .d (.seq .d (.seq .d (.cut [5,6] [] (.seq .d (.blk (.loop [4,5,6,7] [] .d))) .d)))) [F284.k] f216
def t4(a:Int)(b:LI)(f g:Int):S:=⟨[(4,.own 0),(5,vi a),(6,vi f),(7,vi g)],[Ai 3 b],[]⟩
def z4:ZT_ R_:=H.i P_ [r,r,r,l,r,d]
theorem i4(a:Int)(b:LI):∀(q:Nat) (f g:Int),z4 q (t4 a b f g)=Ll a b q f g:=
 ind (λ_ _=>by kernel_rfl) λq ih f g=>Eq.trans (b:=Wh HR (λf g=>(z4 q) (t4 a b f g)) a b f g) F3 (by simp only[ih]<;>rfl)
def k:KC_:=kk_ 216 H Wg func216 (λx=>Eq.trans (b:=HB (λa b f g=>z4 Bm (t4 a b f g)) x) F3 (by simp only[i4,Al]<;>rfl))
end F216
namespace F278
def H:=hd_ [Sb,Ss] [Sz] .d [] f278
def k:KC_:=kk_ 278 H (u2 Ui) func278
end F278
namespace F384
abbrev R_:=UInt32
def H:=hd_ [Su,Si] [Su] (.seq .d (.seq .d (.cut [0,5] [] .d .d))) [] f384
def k:KC_:=kk_ 384 H (u2 IP) func384
end F384
namespace F360
abbrev R_:=UInt32
def H:=hd_ [Su,Sc] [Su] (.seq .d (.cut [0] [] (.seq .d (.blk (.loop [0,1,5] [] .d))) .d)) [F384.k] f360
def t4(a:UInt32)(b:UInt8)(f:Int):S:=⟨[(0,vu a),(1,vc b),(5,vi f)],[],[]⟩
def z4:ZT_ R_:=H.i P_ [r,l,r,d]
theorem i4:∀(q:Nat) (a:UInt32) (b:UInt8) (f:Int),z4 q (t4 a b f)=Nd q a b f:=
 ind (λ_ _ _=>by kernel_rfl) λq ih a b f=>Eq.trans (b:=Zg KW (λa b f=>(z4 q) (t4 a b f)) a b f) F3 (by simp only[ih]<;>rfl)
def k:KC_:=kk_ 360 H (u2 VA) func360 (λx=>Eq.trans (b:=u2 (Alu (λa b f=>z4 Bm (t4 a b f))) x) F3 (by simp only[i4,Al]<;>rfl))
end F360
namespace F329
abbrev R_:=UInt32
def H:=hd_ [Su,Sb] [Su] (.seq .d (.cut [0] [] (.seq .d (.blk (.loop [0,1,5] [] .d))) .d)) [F360.k] f329
def t4(a:LB)(b:UInt32)(f:Int):S:=⟨[(0,vu b),(1,vb a),(5,vi f)],[],[]⟩
def z4:ZT_ R_:=H.i P_ [r,l,r,d]
theorem i4(a:LB):∀(q:Nat) (b:UInt32) (f:Int),z4 q (t4 a b f)=Km a q b f:=
 ind (λ_ _=>by kernel_rfl) λq ih b f=>Eq.trans (b:=Up FH (λb f=>(z4 q) (t4 a b f)) a b f) F3 (by simp only[ih]<;>rfl)
def k:KC_:=kk_ 329 H (u2 MR) func329 (λx=>Eq.trans (b:=u2 (DW (λa b f=>z4 Bm (t4 a b f))) x) F3 (by simp only[i4,Al]<;>rfl))
end F329
namespace F286
def H:=hd_ [Sb] [Su] .d [F329.k] f286
def k:KC_:=kk_ 286 H Js func286
end F286
namespace F217
def HP(j6:UInt64->UInt64->UInt64->UInt64->UInt64->Option (Int×Int×Int×Int×Int×Int))(a:LB):Option (Int×Int×Int×Int×Int×Int):=
(Bo a 4 6).bind λu=>
(Bo a 6 8).bind λp=>
(Bo a 8 10).bind λo=>
(Bo a 10 14).bind λn=>
(Bo a 14 18).bind λm=>
both (
(Bb u).bind λk=>
both (
(Bb p).bind λh=>
both (
(Bb o).bind λg=>
both (
(Bb n).bind λf=>
both (
(Bb m).bind λb=>
bo (
j6 k h g f b)) [
(Bb m).bind λb=>
j6 k h g f b]) [
(Bb n).bind λf=>
(Bb m).bind λb=>
j6 k h g f b]) [
(Bb o).bind λg=>
(Bb n).bind λf=>
(Bb m).bind λb=>
j6 k h g f b]) [
(Bb p).bind λh=>
(Bb o).bind λg=>
(Bb n).bind λf=>
(Bb m).bind λb=>
j6 k h g f b]) [
(Bb u).bind λk=>
(Bb p).bind λh=>
(Bb o).bind λg=>
(Bb n).bind λf=>
(Bb m).bind λb=>
j6 k h g f b]
theorem Bjm: @HP= @Yv:=by
  unfold HP Yv
  repeat (refine funext λ_=>?_)
  repeat' first
    |with_reducible rfl
    |with_reducible refine El ?_ ?_
    |with_reducible refine Ej ?_ ?_ ?_
    |with_reducible refine Em ?_ ?_ ?_ ?_
    |((with_reducible refine Gs ?_ ?_);focus (intro h;first|(subst h;rfl)|(simp only[h];rfl)|(simp[Bt,Ac,h];done)))
    |with_reducible refine Gh λx=>?_
    |with_reducible refine Lw (λ_=>?_) (λ_=>?_)
    |(refine Cq (λh=>by simp only[h,Gm,Bw,Bu,ite_self]) (λx h=>?_);(try simp only[h,Bw]))
    |(refine Dr (λh=>?_) (λh=>?_)<;>simp only[h,if_true,if_false,Bool.false_eq_true])
abbrev R_:=(Int×Int×Int×Int×Int×Int)
def H:=hd_ [Sb] [.agg [Si,Si,Si,Si,Si],Si] (.seq .d (.seq .d (.cut [0,2] [] .d (.seq .d (.cut [0,2] [] .d (.cut [2,5] [] .d .d)))))) [F285.k,F286.k,F287.k,F288.k] f217
def x5(a:LB):Option R_:=H.e P_ [r,r,r,r,r] ⟨[(0,vb a),(2,.ptr 0 [])],[.box 39 (.agg [vi 0,vi 0,vi 0,vi 0,vi 0])],[]⟩
theorem e5:x5=KN:=Eq.trans (b:=HP KL) F3 (by rw[Bjm];rfl)
def k:KC_:=kk_ 217 H Yy func217 (λx=>Eq.trans (b:=JT (JX x5) x) F3 (by simp only[e5]<;>rfl))
end F217
namespace F212
abbrev R_:=(Int×Int×Int×Int×Int×Int×Int)
def H:=hd_ [Sb] [Si,.agg [Si,Si,Si,Si,Si],Si] (.seq .d (.seq .d (.seq .d (.seq .d (.seq .d (.cut [3,5,7] [] .d (.seq .d (.seq .d (.seq (.mode false) .d))))))))) [F216.k,F217.k,F278.k] f212
def k:KC_:=kk_ 212 H Rt func212
end F212
namespace F391
abbrev R_:=UInt64
def H:=hd_ [Sq,Si] [Sq] (.seq .d (.seq .d (.cut [0,5] [] .d .d))) [] f391
def k:KC_:=kk_ 391 H (u2 IQ) func391
end F391
namespace F368
abbrev R_:=UInt64
def H:=hd_ [Sq,Sc] [Sq] (.seq .d (.cut [0] [] (.seq .d (.blk (.loop [0,1,5] [] .d))) .d)) [F391.k] f368
def t4(b:UInt8)(a:UInt64)(f:Int):S:=⟨[(0,vq a),(1,vc b),(5,vi f)],[],[]⟩
def z4:ZT_ R_:=H.i P_ [r,l,r,d]
theorem i4(b:UInt8):∀(q:Nat) (a:UInt64) (f:Int),z4 q (t4 b a f)=Nf b q a f:=
 ind (λ_ _=>by kernel_rfl) λq ih a f=>Eq.trans (b:=Zm JD (λa f=>(z4 q) (t4 b a f)) b a f) F3 (by simp only[ih]<;>rfl)
def k:KC_:=kk_ 368 H (u2 SK) func368 (λx=>Eq.trans (b:=u2 (Ako (λb a f=>z4 Bm (t4 b a f))) x) F3 (by simp only[i4,Al]<;>rfl))
end F368
namespace F335
abbrev R_:=UInt64
def H:=hd_ [Sq,Sb] [Sq] (.seq .d (.cut [0] [] (.seq .d (.blk (.loop [0,1,5] [] .d))) .d)) [F368.k] f335
def t4(a:LB)(b:UInt64)(f:Int):S:=⟨[(0,vq b),(1,vb a),(5,vi f)],[],[]⟩
def z4:ZT_ R_:=H.i P_ [r,l,r,d]
theorem i4(a:LB):∀(q:Nat) (b:UInt64) (f:Int),z4 q (t4 a b f)=Kl a q b f:=
 ind (λ_ _=>by kernel_rfl) λq ih b f=>Eq.trans (b:=Ux EG (λb f=>(z4 q) (t4 a b f)) a b f) F3 (by simp only[ih]<;>rfl)
def k:KC_:=kk_ 335 H (u2 AP) func335 (λx=>Eq.trans (b:=u2 (Adv (λa b f=>z4 Bm (t4 a b f))) x) F3 (by simp only[i4,Al]<;>rfl))
end F335
namespace F292
def H:=hd_ [Ss] [Sq] .d [F335.k] f292
def k:KC_:=kk_ 292 H UH func292
end F292
namespace F226
def H:=hd_ [Ss] [Ob 5] .d [F291.k,F292.k] f226
def k:KC_:=kk_ 226 H Rw func226
end F226
namespace F279
abbrev R_:=(LI×Int)
def H:=hd_ [Sb,Si] [Ol 3,Si] (.seq .d (.seq .d (.seq .d (.cut [0,1] [] .d (.seq .d (.cut [6] [] (.seq .d (.blk (.loop [0,1,6,7] [⟨6,[],.own 3 (.int .i64)⟩] .d))) .d)))))) [F275.k,F285.k,F286.k] f279
def t6(b:LB)(a g:Int)(f:LI):S:=⟨[(0,vb b),(1,vi a),(6,.own 0),(7,vi g)],[Ai 3 f],[]⟩
def z6:ZT_ R_:=H.i P_ [r,r,r,r,r,l,r,d]
theorem i6(b:LB)(a:Int):∀(q:Nat) (g:Int) (f:LI),z6 q (t6 b a g f)=Nc b a q g f:=
 ind (λ_ _=>by kernel_rfl) λq ih g f=>Eq.trans (b:=Yk Yn (λg f=>(z6 q) (t6 b a g f)) b a g f) F3 (by simp only[ih]<;>rfl)
def k:KC_:=kk_ 279 H (u2 IU) func279 (λx=>Eq.trans (b:=u2 (JK (JH (λb a g f=>z6 Bm (t6 b a g f)))) x) F3 (by simp only[i6,Al]<;>rfl))
end F279
namespace F214
abbrev R_:=(Int×LI×Int)
def H:=hd_ [Sb,.agg [Si,Si,Si,Si,Si],Ss] [Si,Ol 3,Si] (.seq .d (.seq .d (.cut [0,4,9] [] .d (.cut [9,10,11] [] .d .d)))) [F226.k,F276.k,F279.k] f214
def k:KC_:=kk_ 214 H (u7 Ez) func214
end F214
namespace F348
def H:=hd_ [Sq,Sb] [Sq,Si] .d [F335.k] f348
def k:KC_:=kk_ 348 H (u2 UB) func348
end F348
namespace F320
def H:=hd_ [Sb] [Sq,Si] .d [F348.k] f320
def k:KC_:=kk_ 320 H YR func320
end F320
namespace F321
abbrev R_:=LX
abbrev K_:=S->Option R_
def H:=hd_ [Sq] [.lf (.vec 16 (.int .i32)) none] (.seq .d (.seq .d (.cut [2,3] [] (.seq .d (.blk (.loop [0,2,3,4] [] (.seq .d (.seq (.blk (.seq .d (.cut [0,2,3,4,5] [] .d .d))) .d))))) .d))) [] f321
def t6(b:UInt64)(f:Int)(a:LX):S:=⟨[(0,vq b),(2,.ptr 0 []),(3,.ptr 1 []),(4,vi f)],[.box 165 (.val (.vec 16 (.int .i32)) (List.replicate 16 (0:Int32))),.box 165 (.val (.vec 16 (.int .i32)) a)],[]⟩
def z6:ZT_ R_:=H.i P_ [r,r,l,r,d]
theorem i6:∀(q:Nat) (b:UInt64) (f:Int) (a:LX),z6 q (t6 b f a)=Ms q b f a:=
 ind (λ_ _ _=>by kernel_rfl) λq ih b f a=>Eq.trans (b:=DT (EJ (λb f a=>(z6 q) (t6 b f a))) Amh b f a) F3 (by simp only[ih]<;>rfl)
def k:KC_:=kk_ 321 H bU func321 (λx=>Eq.trans (b:=Asb (λb f a=>z6 Bm (t6 b f a)) x) F3 (by simp only[i6,Al]<;>rfl))
end F321
namespace F280
def H:=hd_ [Ss] [.lf (.vec 16 (.int .i32)) none,Si] .d [F320.k,F321.k] f280
def k:KC_:=kk_ 280 H Of func280
end F280
namespace F166
def H:=hd_ [Si] [Si] .d [] f166
def k:KC_:=kk_ 166 H Gt func166
end F166
namespace F88
def H:=hd_ [.agg [Si,Si]] [Si] .d [F166.k] f88
def k:KC_:=kk_ 88 H (u2 Cv) func88
end F88
namespace F90
def H:=hd_ [.agg [Si,Si],Si] [Si] .d [F88.k] f90
def k:KC_:=kk_ 90 H (u3 Qy) func90
end F90
namespace F349
def H:=hd_ [Sb] [Ob 5] .d [F286.k] f349
def k:KC_:=kk_ 349 H Tz func349
end F349
namespace F322
def H:=hd_ [Sb] [Si] .d [F349.k] f322
def k:KC_:=kk_ 322 H Ub func322
end F322
namespace F350
def H:=hd_ [] [.agg [Si,Si,Sq,Sq]] .d [] f350
def k:KC_:=kk_ 350 H (λ_=>Jf) func350
end F350
namespace F377
abbrev R_:=UInt64
def H:=hd_ [Si] [Sq] (.seq .d (.seq .d (.cut [3] [] (.seq .d (.blk (.loop [0,3,4] [] .d))) .d))) [] f377
def t4(b:Int)(a:UInt64)(f:Int):S:=⟨[(0,vi b),(3,vq a),(4,vi f)],[],[]⟩
def z4:ZT_ R_:=H.i P_ [r,r,l,r,d]
theorem i4(b:Int):∀(q:Nat) (a:UInt64) (f:Int),z4 q (t4 b a f)=Lj b q a f:=
 ind (λ_ _=>by kernel_rfl) λq ih a f=>Eq.trans (b:=Ww Afs (λa f=>(z4 q) (t4 b a f)) b a f) F3 (by simp only[ih]<;>rfl)
def k:KC_:=kk_ 377 H Fm func377 (λx=>Eq.trans (b:=Afn (λb a f=>z4 Bm (t4 b a f)) x) F3 (by simp only[i4,Al]<;>rfl))
end F377
namespace F385
def H:=hd_ [.agg [Si,Si,Sq,Sq],Su] [Sz] .d [F377.k] f385
def k:KC_:=kk_ 385 H (u5 Qs) func385
end F385
namespace F388
def H:=hd_ [.agg [Si,Si,Sq,Sq],Su] [Su] .d [F377.k] f388
def k:KC_:=kk_ 388 H (u5 Gk) func388
end F388
namespace F395
abbrev R_:=(Int×UInt64)
def H:=hd_ [Si,Sq,Sq] [Si,Sq] (.seq .d (.seq .d (.cut [0,1] [] .d .d))) [F377.k] f395
def k:KC_:=kk_ 395 H (u3 Og) func395
end F395
namespace F373
def BB(j2:UInt32->Int->Int->UInt64->UInt64->Int->UInt64->Option (Int×Int×UInt64×UInt64))(g a:Int)(h b:UInt64)(f:UInt32):Option (Int×Int×UInt64×UInt64):=
(Qs g a h b f).bind λo=>
if(!o)then
(λu:Option (Int×Int×UInt64×UInt64)=>
(λp:Option (Int×Int×UInt64×UInt64)=>
(λv:Option (Int×Int×UInt64×UInt64)=>
both (
v) [
v,
both (
p) [
p,
(Gk g a h b f).bind λk=>
(λac:Option (Int×Int×UInt64×UInt64)=>
bo (
ac)) (
(Og a b (Ae k:UInt64)).bind λ(m,n)=>
j2 f g a h b m n)]]) (
both (
u) [
p])) (
bo (
u))) (
(Gk g a h b f).bind λk=>
(Og a b (Ae k:UInt64)).bind λ(m,n)=>
j2 f g a h b m n)
else
j2 f g a h b a b
theorem Bj0: @BB= @Ur:=by
  unfold BB Ur
  try simp only[Tl,Jv,Kk]
  all_goals
    repeat (refine funext λ_=>?_)
    repeat' first
      |with_reducible rfl
      |with_reducible refine El ?_ ?_
      |with_reducible refine Ej ?_ ?_ ?_
      |with_reducible refine Em ?_ ?_ ?_ ?_
      |((with_reducible refine Gs ?_ ?_);focus (intro h;first|(subst h;rfl)|(simp only[h];rfl)|(simp[Bt,Ac,h];done)))
      |with_reducible refine Gh λx=>?_
      |with_reducible refine Lw (λ_=>?_) (λ_=>?_)
      |(refine Cq (λh=>by simp only[h,Gm,Bw,Bu,ite_self]) (λx h=>?_);(try simp only[h,Bw]))
      |(refine Dr (λh=>?_) (λh=>?_)<;>simp only[h,if_true,if_false,Bool.false_eq_true])
abbrev R_:=(Int×Int×UInt64×UInt64)
def H:=hd_ [.agg [Si,Si,Sq,Sq],Su] [.agg [Si,Si,Sq,Sq]] (.seq .d (.seq .d (.cut [1,2,4,5] [] (.seq .d (.cond (.mode false) .d)) .d))) [F385.k,F388.k,F395.k] f373
def k:KC_:=kk_ 373 H (u5 Tr) func373 (λx=>Eq.trans (b:=u5 (BB Us) x) F3 (by simp only[Bj0]<;>rfl))
end F373
namespace F351
abbrev R_:=(Int×Int×UInt64×UInt64)
def H:=hd_ [Si,Sv] [.agg [Si,Si,Sq,Sq]] (.seq .d (.seq .d (.cut [4,5] [] (.seq .d (.blk (.loop [0,1,4,5,6] [] .d))) .d))) [F350.k,F373.k] f351
def t4(a:Int)(b:LU)(m f g:Int)(h k:UInt64):S:=⟨[(0,vi a),(1,vv b),(4,.ptr 0 []),(5,.ptr 1 []),(6,vi m)],[.box 268 (.agg [vi 0,vi 0,vq 0,vq 0]),.box 268 (.agg [vi f,vi g,vq h,vq k])],[]⟩
def z4:ZT_ R_:=H.i P_ [r,r,l,r,d]
theorem i4(a:Int)(b:LU):∀(q:Nat) (m f g:Int) (h k:UInt64),z4 q (t4 a b m f g h k)=Oo a b q m f g h k:=
 ind (λ_ _ _ _ _=>by kernel_rfl) λq ih m f g h k=>Eq.trans (b:=EN Adu (λm f g h k=>(z4 q) (t4 a b m f g h k)) a b m f g h k) F3 (by simp only[ih]<;>rfl)
def k:KC_:=kk_ 351 H (u2 Ua) func351 (λx=>Eq.trans (b:=u2 (DV (λa b m f g h k=>z4 Bm (t4 a b m f g h k))) x) F3 (by simp only[i4,Al]<;>rfl))
end F351
namespace F354
abbrev R_:=Int
def H:=hd_ [.agg [Sb,Si],Si] [Si] (.seq .d (.seq .d (.cut [5] [] (.seq .d (.blk (.loop [1,5,6] [] .d))) .d))) [] f354
def t4(a b f:Int):S:=⟨[(1,vi a),(5,vi b),(6,vi f)],[],[]⟩
def z4:ZT_ R_:=H.i P_ [r,r,l,r,d]
theorem i4(a:Int):∀(q:Nat) (b f:Int),z4 q (t4 a b f)=Rb a q b f:=
 ind (λ_ _=>by kernel_rfl) λq ih b f=>Eq.trans (b:=EL QL (λb f=>(z4 q) (t4 a b f)) a b f) F3 (by simp only[ih]<;>rfl)
def k:KC_:=kk_ 354 H (u3 Pz) func354 (λx=>Eq.trans (b:=u3 (QE (λa b f=>z4 Bm (t4 a b f))) x) F3 (by simp only[i4,Al]<;>rfl))
end F354
namespace F374
abbrev R_:=(LB×Int)
def H:=hd_ [.agg [Ob 5,Si],Si] [.agg [Ob 5,Si]] (.seq .d (.cut [1,2,4] [] .d (.seq .d (.cut [1,2,4,5] [] (.seq .d (.blk (.loop [1,2,4,5,6] [] .d))) .d)))) [] f374
def t6(b a:Int)(f:LB)(g h:Int):S:=⟨[(1,vi b),(2,.ptr 0 []),(4,.ptr 1 []),(5,vi g),(6,vi h)],[.box 272 (.agg [.own 2,vi a]),.box 272 (.agg [.nils,vi 0]),Ab 5 f],[]⟩
def z6:ZT_ R_:=H.i P_ [r,r,r,l,r,d]
theorem i6(b a:Int)(f:LB):∀(q:Nat) (g h:Int),z6 q (t6 b a f g h)=Pv b a f q g h:=
 ind (λ_ _=>by kernel_rfl) λq ih g h=>Eq.trans (b:=BA AN (λg h=>(z6 q) (t6 b a f g h)) b a f g h) F3 (by simp only[ih]<;>rfl)
def k:KC_:=kk_ 374 H (u3 Dv) func374 (λx=>Eq.trans (b:=u3 (MW (NG (λb a f g h=>z6 Bm (t6 b a f g h)))) x) F3 (by simp only[i6,Al]<;>rfl))
end F374
namespace F352
abbrev R_:=(LB×Int)
def H:=hd_ [.agg [Sb,Si],Si,Si] [.agg [Ob 5,Si]] (.seq .d (.seq .d (.cut [6,7] [] (.seq .d (.blk (.loop [2,3,6,7,8] [⟨7,[0],.own 5 (.int .u8)⟩] .d))) .d))) [F354.k,F374.k] f352
def t4(f:Int)(g:LB)(h k a:Int)(b:LB):S:=⟨[(2,vi f),(3,.ptr 0 []),(6,.ptr 1 []),(7,.ptr 2 []),(8,vi k)],[.box 272 (.agg [vb g,vi h]),.box 272 (.agg [.nils,vi 0]),.box 272 (.agg [.own 3,vi a]),Ab 5 b],[]⟩
def z4:ZT_ R_:=H.i P_ [r,r,l,r,d]
theorem i4(f:Int)(g:LB)(h:Int):∀(q:Nat) (k a:Int) (b:LB),z4 q (t4 f g h k a b)=Ix f g h q k a b:=
 ind (λ_ _ _=>by kernel_rfl) λq ih k a b=>Eq.trans (b:=Tf Ad5 (λk a b=>(z4 q) (t4 f g h k a b)) f g h k a b) F3 (by simp only[ih]<;>rfl)
def k:KC_:=kk_ 352 H (u4 KG) func352 (λx=>Eq.trans (b:=u4 (Ada (λf g h k a b=>z4 Bm (t4 f g h k a b))) x) F3 (by simp only[i4,Al]<;>rfl))
end F352
namespace F375
abbrev R_:=UInt64
def H:=hd_ [.agg [Sb,Si],Si,Si] [Sq] (.seq .d (.seq .d (.cut [7] [] (.seq .d (.blk (.loop [1,3,7,8] [] .d))) .d))) [F354.k] f375
def t4(b:Int)(f:LB)(g:Int)(a:UInt64)(h:Int):S:=⟨[(1,vi b),(3,.ptr 0 []),(7,vq a),(8,vi h)],[.box 272 (.agg [vb f,vi g])],[]⟩
def z4:ZT_ R_:=H.i P_ [r,r,l,r,d]
theorem i4(b:Int)(f:LB)(g:Int):∀(q:Nat) (a:UInt64) (h:Int),z4 q (t4 b f g a h)=Lk b f g q a h:=
 ind (λ_ _=>by kernel_rfl) λq ih a h=>Eq.trans (b:=Ws Afy (λa h=>(z4 q) (t4 b f g a h)) b f g a h) F3 (by simp only[ih]<;>rfl)
def k:KC_:=kk_ 375 H (u4 Wb) func375 (λx=>Eq.trans (b:=u4 (HF (λb f g a h=>z4 Bm (t4 b f g a h))) x) F3 (by simp only[i4,Al]<;>rfl))
end F375
namespace F396
abbrev R_:=(Int×Int)
def H:=hd_ [.agg [Sb,Si],Si] [Si,Si] (.seq .d (.seq .d (.cut [1,2,6] [] (.blk (.loop [1,2,6] [] .d)) .d))) [F354.k] f396
def t4(b:Int)(g:LB)(f a:Int):S:=⟨[(1,vi b),(2,.ptr 0 []),(6,vi a)],[.box 272 (.agg [vb g,vi f])],[]⟩
def z4:ZT_ R_:=H.i P_ [r,r,l,d]
theorem i4(b:Int)(g:LB)(f:Int):∀(q:Nat) (a:Int),z4 q (t4 b g f a)=Ph b g f q a:=
 ind (λ_=>by kernel_rfl) λq ih a=>Eq.trans (b:=AV AZ (λa=>(z4 q) (t4 b g f a)) b g f a) F3 (by simp only[ih]<;>rfl)
def k:KC_:=kk_ 396 H (u3 XX) func396 (λx=>Eq.trans (b:=u3 (An2 (λb g f a=>z4 Bm (t4 b g f a))) x) F3 (by simp only[i4,Al]<;>rfl))
end F396
namespace F397
def H:=hd_ [Su,Si] [Si] .d [F377.k] f397
def k:KC_:=kk_ 397 H (u2 Yb) func397
end F397
namespace F376
abbrev R_:=(UInt32×Int×Int)
def H:=hd_ [.agg [Sb,Si],Si,Si] [Su,Si,Si] (.seq .d (.seq .d (.seq .d (.seq .d (.cut [2,3,9,10,11] [] .d .d))))) [F375.k,F377.k,F396.k,F397.k] f376
def k:KC_:=kk_ 376 H (u4 LY) func376
end F376
namespace F353
def H:=hd_ [.agg [Sb,Si],Si,.agg [Si,Si,Sq,Sq]] [Su,Si,Si] .d [F354.k,F375.k,F376.k,F377.k] f353
def k:KC_:=kk_ 353 H (u7 LV) func353
end F353
namespace F323
abbrev R_:=(LU×Int)
abbrev K_:=S->Option R_
def H:=hd_ [Si,Si,Sb] [Ov 175,Si] (.seq .d (.seq .d (.seq .d (.seq .d (.cut [8,9,10] [] (.seq .d (.blk (.loop [0,1,8,9,10,11] [⟨9,[],.own 175 (.int .u32)⟩] (.seq .d (.seq (.blk (.seq .d (.cut [0,1,8,9,10,11,12] [] .d .d))) .d))))) (.seq .d (.cut [9] [] (.blk (.loop [8,9,10] [] .d)) .d))))))) [F350.k,F351.k,F352.k,F353.k,F354.k] f323
def t16(a:LB)(b:LU)(m:Int):S:=⟨[(8,.ptr 0 []),(9,.own 1),(10,vi m)],[.box 272 (.agg [vb a,vi (Bn (8:Int) (Ac a))]),Av 175 b],[]⟩
def z16:ZT_ R_:=H.i P_ [r,r,r,r,r,r,l,d]
def t10(g h:Int)(a:LB)(f k:Int)(b:LU):S:=⟨[(0,vi g),(1,vi h),(8,.ptr 0 []),(9,.own 1),(10,vi f),(11,vi k)],[.box 272 (.agg [vb a,vi (Bn (8:Int) (Ac a))]),Av 175 b],[]⟩
def z10:ZT_ R_:=H.i P_ [r,r,r,r,l,r,d]
def x16(a:LB)(b:LU)(m:Int):Option R_:=H.e P_ [r,r,r,r,r,r,l,d] (t16 a b m)
theorem i16(a:LB)(b:LU):∀(q:Nat) (m:Int),z16 q (t16 a b m)=Ln a b q m:=
 ind (λ_=>by kernel_rfl) λq ih m=>Eq.trans (b:=Wp Agr (λm=>(z16 q) (t16 a b m)) a b m) F3 (by simp only[ih]<;>rfl)
theorem e16:x16=GX:=by funext a b m;exact Eq.trans F3 ((i16 a b Bm m).trans (by rw[Al];rfl))
theorem i10(g h:Int)(a:LB):∀(q:Nat) (f k:Int) (b:LU),z10 q (t10 g h a f k b)=Fv g h a q f k b:=
 ind (λ_ _ _=>by kernel_rfl) λq ih f k b=>Eq.trans (b:=HK (Lm (λf k b=>(z10 q) (t10 g h a f k b)) g h a) (GK x16) g h a f k b) F3 (by simp only[e16,ih]<;>rfl)
def k:KC_:=kk_ 323 H (u3 HS) func323 (λx=>Eq.trans (b:=u3 (KM (λg h a f k b=>z10 Bm (t10 g h a f k b))) x) F3 (by simp only[i10,Al]<;>rfl))
end F323
namespace F398
def H:=hd_ [Si] [Si,Si] .d [] f398
def k:KC_:=kk_ 398 H Asc func398
end F398
namespace F378
def H:=hd_ [Si,.lf (.vec 16 (.int .i32)) none] [.agg [Si,.lf (.vec 16 (.int .i32)) none,.lf (.vec 16 (.int .i32)) none],Si] .d [F398.k] f378
def k:KC_:=kk_ 378 H (u2 Ayj) func378
end F378
namespace F355
def H:=hd_ [Si,.lf (.vec 16 (.int .i32)) none] [.agg [Si,Sx,.agg [Si,.lf (.vec 16 (.int .i32)) none,.lf (.vec 16 (.int .i32)) none]],Si] .d [F378.k] f355
def k:KC_:=kk_ 355 H (u2 KX) func355
end F355
namespace F357
def H:=hd_ [Su] [Sx] .d [] f357
def k:KC_:=kk_ 357 H Sp func357
end F357
namespace F380
def H:=hd_ [Si] [Sx] .d [] f380
def k:KC_:=kk_ 380 H Cf func380
end F380
namespace F404
abbrev R_:=Int32
def H:=hd_ [.agg [Si,.lf (.vec 16 (.int .i32)) none,.lf (.vec 16 (.int .i32)) none]] [Sx] (.seq .d (.seq .d (.cut [3] [] (.seq .d (.blk (.loop [1,3,4] [] .d))) .d))) [F380.k] f404
def t4(h:Int)(b f:LX)(g a:Int):S:=⟨[(1,.ptr 0 []),(3,vi g),(4,vi a)],[.box 330 (.agg [vi h,.val (.vec 16 (.int .i32)) b,.val (.vec 16 (.int .i32)) f])],[]⟩
def z4:ZT_ R_:=H.i P_ [r,r,l,r,d]
theorem i4(h:Int)(b f:LX):∀(q:Nat) (g a:Int),z4 q (t4 h b f g a)=Pm h b f q g a:=
 ind (λ_ _=>by kernel_rfl) λq ih g a=>Eq.trans (b:=AJ MS (λg a=>(z4 q) (t4 h b f g a)) h b f g a) F3 (by simp only[ih]<;>rfl)
def k:KC_:=kk_ 404 H (u3 XQ) func404 (λx=>Eq.trans (b:=u3 (Amw (λh b f g a=>z4 Bm (t4 h b f g a))) x) F3 (by simp only[i4,Al]<;>rfl))
end F404
namespace F399
abbrev R_:=Int32
def H:=hd_ [.agg [Si,.lf (.vec 16 (.int .i32)) none,.lf (.vec 16 (.int .i32)) none]] [Sx] (.seq .d (.seq .d (.cut [1,3] [] .d .d))) [F380.k,F404.k] f399
def k:KC_:=kk_ 399 H (u3 Ym) func399
end F399
namespace F405
def H:=hd_ [Si] [Sx] .d [] f405
def k:KC_:=kk_ 405 H IX func405
end F405
namespace F406
def H:=hd_ [Sx] [Sx] .d [] f406
def k:KC_:=kk_ 406 H Ya func406
end F406
namespace F401
abbrev R_:=(Int×LX×LX)
def H:=hd_ [.agg [Si,.lf (.vec 16 (.int .i32)) none,.lf (.vec 16 (.int .i32)) none],Sx] [.agg [Si,.lf (.vec 16 (.int .i32)) none,.lf (.vec 16 (.int .i32)) none]] (.seq .d (.cut [2,4] [] (.seq .d (.blk (.loop [1,2,4,5] [] .d))) .d)) [F405.k,F406.k] f401
def t4(h:Int32)(g:Int)(b:LX)(a:Int)(f:LX):S:=⟨[(1,vx h),(2,.ptr 0 []),(4,.ptr 1 []),(5,vi a)],[.box 330 (.agg [vi g,.val (.vec 16 (.int .i32)) f,.val (.vec 16 (.int .i32)) b]),.box 330 (.agg [vi 0,.val (.vec 16 (.int .i32)) (List.replicate 16 (0:Int32)),.val (.vec 16 (.int .i32)) (List.replicate 16 (0:Int32))])],[]⟩
def z4:ZT_ R_:=H.i P_ [r,l,r,d]
theorem i4(h:Int32)(g:Int)(b:LX):∀(q:Nat) (a:Int) (f:LX),z4 q (t4 h g b a f)=Ja h g b q a f:=
 ind (λ_ _=>by kernel_rfl) λq ih a f=>Eq.trans (b:=Sm Ad7 (λa f=>(z4 q) (t4 h g b a f)) h g b a f) F3 (by simp only[ih]<;>rfl)
def k:KC_:=kk_ 401 H (u4 Yc) func401 (λx=>Eq.trans (b:=u4 (Acx (λh g b a f=>z4 Bm (t4 h g b a f))) x) F3 (by simp only[i4,Al]<;>rfl))
end F401
namespace F400
abbrev R_:=(Int×LX×LX)
def H:=hd_ [.agg [Si,.lf (.vec 16 (.int .i32)) none,.lf (.vec 16 (.int .i32)) none],Sx] [.agg [Si,.lf (.vec 16 (.int .i32)) none,.lf (.vec 16 (.int .i32)) none]] (.seq .d (.cut [1,2,4] [] (.seq .d (.blk (.loop [1,2,4,5] [] .d))) .d)) [] f400
def t4(b:Int32)(f:Int)(g:LX)(h:Int)(a:LX):S:=⟨[(1,vx b),(2,.ptr 0 []),(4,.ptr 1 []),(5,vi h)],[.box 330 (.agg [vi f,.val (.vec 16 (.int .i32)) g,.val (.vec 16 (.int .i32)) a]),.box 330 (.agg [vi 0,.val (.vec 16 (.int .i32)) (List.replicate 16 (0:Int32)),.val (.vec 16 (.int .i32)) (List.replicate 16 (0:Int32))])],[]⟩
def z4:ZT_ R_:=H.i P_ [r,l,r,d]
theorem i4(b:Int32)(f:Int)(g:LX):∀(q:Nat) (h:Int) (a:LX),z4 q (t4 b f g h a)=Ko b f g q h a:=
 ind (λ_ _=>by kernel_rfl) λq ih h a=>Eq.trans (b:=Vd DN (λh a=>(z4 q) (t4 b f g h a)) b f g h a) F3 (by simp only[ih]<;>rfl)
def k:KC_:=kk_ 400 H (u4 AL) func400 (λx=>Eq.trans (b:=u4 (Ae8 (λb f g h a=>z4 Bm (t4 b f g h a))) x) F3 (by simp only[i4,Al]<;>rfl))
end F400
namespace F379
def H:=hd_ [.agg [Si,.lf (.vec 16 (.int .i32)) none,.lf (.vec 16 (.int .i32)) none],Sx] [Sx,.agg [Si,.lf (.vec 16 (.int .i32)) none,.lf (.vec 16 (.int .i32)) none]] .d [F380.k,F399.k,F400.k,F401.k] f379
def k:KC_:=kk_ 379 H (u4 Ye) func379
end F379
namespace F402
abbrev R_:=Int32
def H:=hd_ [Si,Sx] [Sx] (.seq .d (.seq .d (.cut [1,5] [] .d .d))) [] f402
def k:KC_:=kk_ 402 H (u2 Uh) func402
end F402
namespace F381
def H:=hd_ [.agg [Si,Sx,.agg [Si,.lf (.vec 16 (.int .i32)) none,.lf (.vec 16 (.int .i32)) none]]] [Si] .d [F402.k] f381
def k:KC_:=kk_ 381 H (u5 Kz) func381
end F381
namespace F356
def H:=hd_ [.agg [Si,Sx,.agg [Si,.lf (.vec 16 (.int .i32)) none,.lf (.vec 16 (.int .i32)) none]],Sx] [Sx,.agg [Si,Sx,.agg [Si,.lf (.vec 16 (.int .i32)) none,.lf (.vec 16 (.int .i32)) none]]] .d [F379.k,F380.k,F381.k] f356
def k:KC_:=kk_ 356 H (u6 My) func356
end F356
namespace F382
def H:=hd_ [Si,Sw] [Si] .d [] f382
def k:KC_:=kk_ 382 H (u2 Mh) func382
end F382
namespace F383
abbrev R_:=LX
def H:=hd_ [Sw] [Ow 21] (.seq .d (.seq .d (.seq .d (.seq .d (.cut [0,3,4] [] .d (.cut [4] [] (.seq .d (.blk (.loop [0,4,5] [] .d))) .d)))))) [F380.k] f383
def t6(a:LX)(f:Int)(b:LX):S:=⟨[(0,vw a),(4,.own 0),(5,vi f)],[Aw 21 b],[]⟩
def z6:ZT_ R_:=H.i P_ [r,r,r,r,r,l,r,d]
theorem i6(a:LX):∀(q:Nat) (f:Int) (b:LX),z6 q (t6 a f b)=Iw a q f b:=
 ind (λ_ _=>by kernel_rfl) λq ih f b=>Eq.trans (b:=Ta Ad1 (λf b=>(z6 q) (t6 a f b)) a f b) F3 (by simp only[ih]<;>rfl)
def k:KC_:=kk_ 383 H Zc func383 (λx=>Eq.trans (b:=BK (DB (λa f b=>z6 Bm (t6 a f b))) x) F3 (by simp only[i6,Al]<;>rfl))
end F383
namespace F358
abbrev R_:=(LX×Int)
def H:=hd_ [Si,Sw] [Ow 21,Si] (.seq .d (.seq .d (.seq .d (.cut [6] [] (.seq .d (.blk (.loop [0,1,6,7] [⟨6,[],.own 21 (.int .i32)⟩] .d))) .d)))) [F382.k,F383.k] f358
def t4(a:Int)(b:LX)(g:Int)(f:LX):S:=⟨[(0,vi a),(1,vw b),(6,.own 0),(7,vi g)],[Aw 21 f],[]⟩
def z4:ZT_ R_:=H.i P_ [r,r,r,l,r,d]
theorem i4(a:Int)(b:LX):∀(q:Nat) (g:Int) (f:LX),z4 q (t4 a b g f)=Rs a b q g f:=
 ind (λ_ _=>by kernel_rfl) λq ih g f=>Eq.trans (b:=KT Aln (λg f=>(z4 q) (t4 a b g f)) a b g f) F3 (by simp only[ih]<;>rfl)
def k:KC_:=kk_ 358 H (u2 IB) func358 (λx=>Eq.trans (b:=u2 (JM (λa b g f=>z4 Bm (t4 a b g f))) x) F3 (by simp only[i4,Al]<;>rfl))
end F358
namespace F325
def Zx(j29:Int->Int32->LX->Int->Int32->Int->LX->LX->Int->Int32->Int->LX->LX->Option (LX))(j32:Int->LX->Option (LX))(a:LU)(b f:Int)(g:LX)(h k:Int)(m:LX)(n:Int)(o:Int32)(p:Int)(u v:LX):Option (LX):=
if(Cj k (Ac a))then
(Aj a k).bind λag=>
both (
(Sp ag).bind λaf=>
(λap:Option (LX)=>
bo (
ap)) (
(My n o p u v af).bind λ(ae,y,aa,ab,ac,ad)=>
j29 k ae m n o p u v y aa ab ac ad)) [
(Sp ag).bind λaf=>
(My n o p u v af).bind λ(ae,y,aa,ab,ac,ad)=>
j29 k ae m n o p u v y aa ab ac ad]
else
j32 h m
theorem Biu: @Zx= @Sr:=by
  unfold Zx Sr
  try simp only[Tl,Jv,Kk]
  all_goals
    repeat (refine funext λ_=>?_)
    repeat' first
      |with_reducible rfl
      |with_reducible refine El ?_ ?_
      |with_reducible refine Ej ?_ ?_ ?_
      |with_reducible refine Em ?_ ?_ ?_ ?_
      |((with_reducible refine Gs ?_ ?_);focus (intro h;first|(subst h;rfl)|(simp only[h];rfl)|(simp[Bt,Ac,h];done)))
      |with_reducible refine Gh λx=>?_
      |with_reducible refine Lw (λ_=>?_) (λ_=>?_)
      |(refine Cq (λh=>by simp only[h,Gm,Bw,Bu,ite_self]) (λx h=>?_);(try simp only[h,Bw]))
      |(refine Dr (λh=>?_) (λh=>?_)<;>simp only[h,if_true,if_false,Bool.false_eq_true])
abbrev R_:=LX
abbrev K_:=S->Option R_
def H:=hd_ [.agg [Si,Si],.lf (.vec 16 (.int .i32)) none,Sv] [Ow 21] (.seq .d (.seq .d (.cut [3,7] [] (.seq .d (.blk (.loop [2,3,4,7,8] [] (.seq .d (.cut [2,3,4,7,8] [] (.blk (.seq .d (.seq .d (.blk (.loop [2,3,4,7,8,9,11] [] (.seq .d (.cut [2,3,4,7,8,9,11] [] (.blk (.cut [2,3,4,7,8,9,11,12,13] [] .d .d)) .d))))))) .d))))) .d))) [F355.k,F356.k,F357.k,F358.k] f325
def t26(a:LU)(b f:Int)(g:LX)(h k:Int)(m:LX)(n:Int)(o:Int32)(p:Int)(u v:LX):S:=⟨[(2,vv a),(3,.ptr 0 []),(4,.ptr 1 []),(7,.own 2),(8,vi h),(9,.ptr 3 []),(11,vi k)],[.box 30 (.agg [vi b,vi f]),.box 165 (.val (.vec 16 (.int .i32)) g),Aw 21 m,.box 332 (.agg [vi n,vx o,.agg [vi p,.val (.vec 16 (.int .i32)) u,.val (.vec 16 (.int .i32)) v]])],[]⟩
def z26(zk:K_):ZT_ R_:=H.i P_ [r,r,l,r,d,(lp zk),r,l,d,r,r,d]
def t18(a:LU)(b f:Int)(g:LX)(h:Int)(w:LX):S:=⟨[(2,vv a),(3,.ptr 0 []),(4,.ptr 1 []),(7,.own 2),(8,vi h)],[.box 30 (.agg [vi b,vi f]),.box 165 (.val (.vec 16 (.int .i32)) g),Aw 21 w],[]⟩
def z18:ZT_ R_:=H.i P_ [r,r,l,r,d]
def x26(zk:K_)(a:LU)(b f:Int)(g:LX)(h k:Int)(m:LX)(n:Int)(o:Int32)(p:Int)(u v:LX):Option R_:=H.e P_ [r,r,l,r,d,(lp zk),r,l,d,r,r,d] (t26 a b f g h k m n o p u v)
theorem i26(zk:K_)(a:LU)(b f:Int)(g:LX)(h:Int):∀(q:Nat) (k:Int) (m:LX) (n:Int) (o:Int32) (p:Int) (u v:LX),z26 zk q (t26 a b f g h k m n o p u v)=Nk (λh w=>zk (t18 a b f g h w)) a b f g h q k m n o p u v:=
 ind (λ_ _ _ _ _ _ _=>by kernel_rfl) λq ih k m n o p u v=>Eq.trans (b:=Zx (CT (λk m n o p u v=>(z26 zk q) (t26 a b f g h k m n o p u v)) a h b f g) (BN (λh w=>zk (t18 a b f g h w)) a b f g) a b f g h k m n o p u v) F3 (by rw[Biu];simp only[ih]<;>rfl)
theorem e26(zk:K_)(a:LU)(b f:Int)(g:LX):x26 zk a b f g=CJ (λh w=>zk (t18 a b f g h w)) a b f g:=by funext h k m n o p u v;exact Eq.trans F3 ((i26 zk a b f g h Bm k m n o p u v).trans (by rw[Al];rfl))
theorem i18(a:LU)(b f:Int)(g:LX):∀(q:Nat) (h:Int) (w:LX),z18 q (t18 a b f g h w)=Gf a b f g q h w:=
 ind (λ_ _=>by kernel_rfl) λq ih h w=>Eq.trans (b:=So (x26 (z18 q) a b f g) Sn a b f g h w) F3 (by simp only[e26,ih]<;>rfl)
def k:KC_:=kk_ 325 H (u4 Pr) func325 (λx=>Eq.trans (b:=u4 (DS (λa b f g h w=>z18 Bm (t18 a b f g h w))) x) F3 (by simp only[i18,Al]<;>rfl))
end F325
namespace F89
abbrev R_:=Int
def H:=hd_ [Si,Sw] [Si] (.seq .d (.seq .d (.seq .d (.seq .d (.cut [] [] (.seq .d (.blk (.loop [1,5,6] [] .d))) .d))))) [F166.k] f89
def t4(a:LX)(b f:Int):S:=⟨[(1,vw a),(5,vi b),(6,vi f)],[],[]⟩
def z4:ZT_ R_:=H.i P_ [r,r,r,r,l,r,d]
theorem i4(a:LX)(b:Int):∀(q:Nat) (f:Int),z4 q (t4 a b f)=Bp a b q f:=
 ind (λ_=>by kernel_rfl) λq ih f=>Eq.trans (b:=Ee Afr (λf=>(z4 q) (t4 a b f)) a b f) F3 (by simp only[ih]<;>rfl)
def k:KC_:=kk_ 89 H (u2 Bd) func89 (λx=>Eq.trans (b:=u2 (Hy (λa b f=>z4 Bm (t4 a b f))) x) F3 (by simp only[i4,Al]<;>rfl))
end F89
namespace F324
def H:=hd_ [.agg [Si,Si],Sw] [Sw,Si] .d [F89.k] f324
def k:KC_:=kk_ 324 H (u3 Uk) func324
end F324
namespace F281
def CO(f a b:Int)(g:LX)(h:LU):Option (LX×Int):=
if(Bj f 0)then
some (([]:LX),f)
else
(λu:Option (LX×Int)=>
(λv:Option (LX×Int)=>
(λw:Option (LX×Int)=>
both (
v) [
w,
w]) (
both (
u) [
v])) (
bo (
u))) (
(Pr a b g h).bind λm=>
(Uk a b m).bind λ(n,o)=>
some (n,o))
theorem Bj4: @CO= @Hg:=by
  unfold CO Hg
  try simp only[Tl,Jv,Kk]
  all_goals
    repeat (refine funext λ_=>?_)
    repeat' first
      |with_reducible rfl
      |with_reducible refine El ?_ ?_
      |with_reducible refine Ej ?_ ?_ ?_
      |with_reducible refine Em ?_ ?_ ?_ ?_
      |((with_reducible refine Gs ?_ ?_);focus (intro h;first|(subst h;rfl)|(simp only[h];rfl)|(simp[Bt,Ac,h];done)))
      |with_reducible refine Gh λx=>?_
      |with_reducible refine Lw (λ_=>?_) (λ_=>?_)
      |(refine Cq (λh=>by simp only[h,Gm,Bw,Bu,ite_self]) (λx h=>?_);(try simp only[h,Bw]))
      |(refine Dr (λh=>?_) (λh=>?_)<;>simp only[h,if_true,if_false,Bool.false_eq_true])
abbrev R_:=(LX×Int)
def H:=hd_ [.agg [Si,Si],.lf (.vec 16 (.int .i32)) none,Si,Sb] [Sw,Si] (.seq .d (.seq .d (.seq .d (.cut [4,5,10,11] [] .d (.seq .d (.seq (.mode false) .d)))))) [F90.k,F322.k,F323.k,F324.k,F325.k] f281
def x2(f a b:Int)(g:LX)(h:LU):Option R_:=H.e P_ [r,r,r,r] ⟨[(4,.ptr 0 []),(5,.ptr 1 []),(10,.own 2),(11,vi f)],[.box 30 (.agg [vi a,vi b]),.box 165 (.val (.vec 16 (.int .i32)) g),Av 175 h],[]⟩
theorem e2:x2=Kb:=Eq.trans (b:=CO) F3 (by rw[Bj4];rfl)
def k:KC_:=kk_ 281 H (u5 Fz) func281 (λx=>Eq.trans (b:=u5 (Vf x2) x) F3 (by simp only[e2]<;>rfl))
end F281
namespace F326
abbrev R_:=LB
def H:=hd_ [Si,Sx] [Ob 5] (.seq .d (.seq .d (.seq .d (.cut [0,5] [] .d .d)))) [F166.k] f326
def k:KC_:=kk_ 326 H (u2 KY) func326
end F326
namespace F283
abbrev R_:=(LB×Int)
def H:=hd_ [Si,Sw] [Ob 5,Si] (.seq .d (.seq .d (.seq .d (.cut [6] [] (.seq .d (.blk (.loop [0,1,6,7] [⟨6,[],.own 5 (.int .u8)⟩] .d))) .d)))) [F89.k,F326.k] f283
def t4(b:Int)(a:LX)(g:Int)(f:LB):S:=⟨[(0,vi b),(1,vw a),(6,.own 0),(7,vi g)],[Ab 5 f],[]⟩
def z4:ZT_ R_:=H.i P_ [r,r,r,l,r,d]
theorem i4(b:Int)(a:LX):∀(q:Nat) (g:Int) (f:LB),z4 q (t4 b a g f)=Lo b a q g f:=
 ind (λ_ _=>by kernel_rfl) λq ih g f=>Eq.trans (b:=Wr Agx (λg f=>(z4 q) (t4 b a g f)) b a g f) F3 (by simp only[ih]<;>rfl)
def k:KC_:=kk_ 283 H (u2 Vt) func283 (λx=>Eq.trans (b:=u2 (HG (λb a g f=>z4 Bm (t4 b a g f))) x) F3 (by simp only[i4,Al]<;>rfl))
end F283
namespace F215
abbrev R_:=(LB×Int)
def H:=hd_ [.agg [Ss,Sb,.agg [Si,Si,Si,Si,Si],Sl,Si,Sb,Sz,Si]] [Ob 5,Si] (.seq .d (.seq .d (.seq .d (.seq .d (.cut [1,7,8] [] .d .d))))) [F276.k,F280.k,F281.k,F282.k,F283.k] f215
def k:KC_:=kk_ 215 H (qz Cw) func215
end F215
namespace F140
def HN(g a:LB)(m n o p u:Int)(b:LI)(f:Int)(v:LB)(h:Bool)(k:Int):Option (LB×LB×Int×Int×Int×Int×Int×LI×Int×LB×Bool×Int×Int):=
if(geq (Ac b) 0)then
(Ez a m n o p u g).bind λ(ac,ak,w)=>
if(Bj w 0)then
some (g,a,m,n,o,p,u,b,f,v,h,k,w)
else
(Bo a ac (Ac a)).bind λal=>
some (g,al,m,n,o,p,u,ak,f,v,h,k,0)
else
if(geq f (Ac b))then
if(Ec (Ac a) 4000)then
some (g,a,m,n,o,p,u,b,f,v,h,k,38)
else
some (g,a,m,n,o,p,u,b,f,v,h,k,(-1:Int))
else
(Cw g a m n o p u b f v h k).bind λ(am,y)=>
if(Bj y 0)then
some (g,a,m,n,o,p,u,b,f,v,h,k,y)
else
(Bt ([]:LB) v).bind λan=>
(Bt an am).bind λah=>
(λaj:Option (LB×LB×Int×Int×Int×Int×Int×LI×Int×LB×Bool×Int×Int)=>
(λap:Option (LB×LB×Int×Int×Int×Int×Int×LI×Int×LB×Bool×Int×Int)=>
(λao:Option (LB×LB×Int×Int×Int×Int×Int×LI×Int×LB×Bool×Int×Int)=>
(λaq:Option (LB×LB×Int×Int×Int×Int×Int×LI×Int×LB×Bool×Int×Int)=>
(λar:Option (LB×LB×Int×Int×Int×Int×Int×LI×Int×LB×Bool×Int×Int)=>
(λau:Option (LB×LB×Int×Int×Int×Int×Int×LI×Int×LB×Bool×Int×Int)=>
both (
both (
aq) [
aq,
au]) [
ap,
ap,
both (
au) [
ar,
ar]]) (
bo (
ao))) (
both (
ao) [
aj])) (
both (
aj) [
ao])) (
(Aj b f).bind λaa=>
(Bo a aa (Ac a)).bind λab=>
some (g,ab,m,n,o,p,u,b,(Af f 1),ah,h,k,0))) (
(λav:Option (LB×LB×Int×Int×Int×Int×Int×LI×Int×LB×Bool×Int×Int)=>
both (
both (
aj) [
av]) [
(Aj b f).bind λaa=>
(λax:Option (LB×LB×Int×Int×Int×Int×Int×LI×Int×LB×Bool×Int×Int)=>
(λay:Option (LB×LB×Int×Int×Int×Int×Int×LI×Int×LB×Bool×Int×Int)=>
bo2 (
ay)) (
bo (
ax))) (
(Bo a aa (Ac a)).bind λab=>
some (g,ab,m,n,o,p,u,b,(Af f 1),ah,h,k,0)),
both (
av) [
aj]]) (
(Aj b f).bind λaa=>
(Bo a aa (Ac a)).bind λab=>
some (g,ab,m,n,o,p,u,b,(Af f 1),ah,h,k,0)))) (
(Aj b f).bind λaa=>
(λaz:Option (LB×LB×Int×Int×Int×Int×Int×LI×Int×LB×Bool×Int×Int)=>
bo (
az)) (
(Bo a aa (Ac a)).bind λab=>
some (g,ab,m,n,o,p,u,b,(Af f 1),ah,h,k,0)))
theorem Bjo: @HN= @Be:=by
  unfold HN Be
  try simp only[Tl,Jv,Kk]
  all_goals
    repeat (refine funext λ_=>?_)
    repeat' first
      |with_reducible rfl
      |with_reducible refine El ?_ ?_
      |with_reducible refine Ej ?_ ?_ ?_
      |with_reducible refine Em ?_ ?_ ?_ ?_
      |((with_reducible refine Gs ?_ ?_);focus (intro h;first|(subst h;rfl)|(simp only[h];rfl)|(simp[Bt,Ac,h];done)))
      |with_reducible refine Gh λx=>?_
      |with_reducible refine Lw (λ_=>?_) (λ_=>?_)
      |(refine Cq (λh=>by simp only[h,Gm,Bw,Bu,ite_self]) (λx h=>?_);(try simp only[h,Bw]))
      |(refine Dr (λh=>?_) (λh=>?_)<;>simp only[h,if_true,if_false,Bool.false_eq_true])
def GC(j3:LB->LB->Int->Int->Int->Int->Int->LI->Int->LB->Bool->Int->Option (LB×LB×Int×Int×Int×Int×Int×LI×Int×LB×Bool×Int×Int))(j4:LB->LB->Int->Int->Int->Int->Int->LI->Int->LB->Bool->Int->Option (LB×LB×Int×Int×Int×Int×Int×LI×Int×LB×Bool×Int×Int))(g a:LB)(m n o p u:Int)(b:LI)(f:Int)(v:LB)(h:Bool)(k:Int):Option (LB×LB×Int×Int×Int×Int×Int×LI×Int×LB×Bool×Int×Int):=
if(geq m 0)then
(Rt a).bind λ(ac,ae,w,af,ag,y,ai)=>
if(Bj ai 0)then
some (g,a,m,n,o,p,u,b,f,v,h,k,ai)
else
both (
(Bo a ac (Ac a)).bind λad=>
bo (
j3 g ad ae w af ag y b f v h k)) [
(Bo a ac (Ac a)).bind λad=>
j3 g ad ae w af ag y b f v h k]
else
j4 g a m n o p u b f v h k
theorem Bjz: @GC= @Cb:=by
  unfold GC Cb
  repeat (refine funext λ_=>?_)
  repeat' first
    |with_reducible rfl
    |with_reducible refine El ?_ ?_
    |with_reducible refine Ej ?_ ?_ ?_
    |with_reducible refine Em ?_ ?_ ?_ ?_
    |((with_reducible refine Gs ?_ ?_);focus (intro h;first|(subst h;rfl)|(simp only[h];rfl)|(simp[Bt,Ac,h];done)))
    |with_reducible refine Gh λx=>?_
    |with_reducible refine Lw (λ_=>?_) (λ_=>?_)
    |(refine Cq (λh=>by simp only[h,Gm,Bw,Bu,ite_self]) (λx h=>?_);(try simp only[h,Bw]))
    |(refine Dr (λh=>?_) (λh=>?_)<;>simp only[h,if_true,if_false,Bool.false_eq_true])
abbrev R_:=(LB×LB×Int×Int×Int×Int×Int×LI×Int×LB×Bool×Int×Int)
def H:=hd_ [.agg [Ss,Sb,.agg [Si,Si,Si,Si,Si],Sl,Si,Sb,Sz,Si]] [.agg [Ss,Sb,.agg [Si,Si,Si,Si,Si],Sl,Si,Sb,Sz,Si],Si] (.seq .d (.cut [1,2] [] (.seq .d (.cond (.seq .d (.seq .d (.cut [1,2,5] [] (.mode false) .d))) .d)) (.seq .d (.seq .d (.seq .d (.seq .d (.seq .d (.seq (.mode false) .d)))))))) [F212.k,F213.k,F214.k,F215.k] f140
def x4(g a:LB)(m n o p u:Int)(b:LI)(f:Int)(v:LB)(h:Bool)(k:Int):Option R_:=H.e P_ [r,r] ⟨[(1,.ptr 0 []),(2,.ptr 1 [])],[.box 41 (.agg [vs g,vb a,.agg [vi m,vi n,vi o,vi p,vi u],vl b,vi f,vb v,vt h,vi k]),.box 41 (.agg [vs ([]:LB),.nils,.agg [vi 0,vi 0,vi 0,vi 0,vi 0],.nils,vi 0,.nils,vt false,vi 0])],[]⟩
theorem e4:x4=Cg:=Eq.trans (b:=HN) F3 (by rw[Bjo];rfl)
def k:KC_:=kk_ 140 H (qz Ah) func140 (λx=>Eq.trans (b:=qz (GC Gw x4) x) F3 (by rw[Bjz];simp only[e4]<;>rfl))
end F140
namespace F210
abbrev R_:=Bool
def H:=hd_ [.agg [Ss,Sb,.agg [Si,Si,Si,Si,Si],Sl,Si,Sb,Sz,Si]] [Sz] (.seq .d (.cut [1] [] (.seq .d (.cond .d (.cut [1] [] .d .d))) .d)) [F140.k,F213.k,F274.k,F275.k,F276.k,F277.k] f210
def k:KC_:=kk_ 210 H (qz Mq) func210
end F210
namespace F211
def H:=hd_ [Si] [Sz] .d [] f211
def k:KC_:=kk_ 211 H Yt func211
end F211
namespace F137
def H:=hd_ [.agg [Ss,Sb,.agg [Si,Si,Si,Si,Si],Sl,Si,Sb,Sz,Si]] [Si] .d [F210.k,F211.k] f137
def k:KC_:=kk_ 137 H (qz Cu) func137
end F137
namespace F138
def GU(j2:LB->Int->Int->Int->Int->Int->LI->Int->Bool->Int->LB->LB->Option (LB×LB×Int×Int×Int×Int×Int×LI×Int×LB×Bool×Int))(f w:LB)(g h k m n:Int)(o:LI)(p:Int)(y:LB)(u:Bool)(v:Int):Option (LB×LB×Int×Int×Int×Int×Int×LI×Int×LB×Bool×Int):=
(λac:Option (LB×LB×Int×Int×Int×Int×Int×LI×Int×LB×Bool×Int)=>
(λaa:Option (LB×LB×Int×Int×Int×Int×Int×LI×Int×LB×Bool×Int)=>
(λab:Option (LB×LB×Int×Int×Int×Int×Int×LI×Int×LB×Bool×Int)=>
(λad:Option (LB×LB×Int×Int×Int×Int×Int×LI×Int×LB×Bool×Int)=>
(λae:Option (LB×LB×Int×Int×Int×Int×Int×LI×Int×LB×Bool×Int)=>
both (
ad) [
ad,
ae,
ae]) (
both (
ab) [
ab,
aa])) (
both (
both (
(Bt ([]:LB) w).bind λa=>
(λag:Option (LB×LB×Int×Int×Int×Int×Int×LI×Int×LB×Bool×Int)=>
bo (
ag)) (
(Bt ([]:LB) y).bind λb=>
j2 f g h k m n o p u v a b)) [
aa,
aa]) [
ab,
ab])) (
both (
aa) [
ac])) (
bo (
ac))) (
(Bt ([]:LB) w).bind λa=>
(Bt ([]:LB) y).bind λb=>
j2 f g h k m n o p u v a b)
theorem Bjw: @GU= @Mu:=by
  unfold GU Mu
  try simp only[Tl,Jv,Kk]
  all_goals
    repeat (refine funext λ_=>?_)
    repeat' first
      |with_reducible rfl
      |with_reducible refine El ?_ ?_
      |with_reducible refine Ej ?_ ?_ ?_
      |with_reducible refine Em ?_ ?_ ?_ ?_
      |((with_reducible refine Gs ?_ ?_);focus (intro h;first|(subst h;rfl)|(simp only[h];rfl)|(simp[Bt,Ac,h];done)))
      |with_reducible refine Gh λx=>?_
      |with_reducible refine Lw (λ_=>?_) (λ_=>?_)
      |(refine Cq (λh=>by simp only[h,Gm,Bw,Bu,ite_self]) (λx h=>?_);(try simp only[h,Bw]))
      |(refine Dr (λh=>?_) (λh=>?_)<;>simp only[h,if_true,if_false,Bool.false_eq_true])
abbrev R_:=(LB×LB×Int×Int×Int×Int×Int×LI×Int×LB×Bool×Int)
def H:=hd_ [.agg [Ss,Sb,.agg [Si,Si,Si,Si,Si],Sl,Si,Sb,Sz,Si]] [.agg [Ss,Ob 5,.agg [Si,Si,Si,Si,Si],Ol 3,Si,Ob 5,Sz,Si]] (.seq .d (.cut [1,2] [] (.mode false) .d)) [] f138
def x2(f:LB)(g h k m n:Int)(o:LI)(p:Int)(u:Bool)(v:Int)(a b:LB):Option R_:=H.e P_ [r,r] ⟨[(1,.ptr 0 []),(2,.ptr 1 [])],[.box 41 (.agg [vs f,.own 2,.agg [vi g,vi h,vi k,vi m,vi n],vl o,vi p,.own 3,vt u,vi v]),.box 41 (.agg [vs ([]:LB),.nils,.agg [vi 0,vi 0,vi 0,vi 0,vi 0],.nils,vi 0,.nils,vt false,vi 0]),Ab 5 a,Ab 5 b],[]⟩
theorem e2:x2=Rp:=F3
def k:KC_:=kk_ 138 H (qz Ig) func138 (λx=>Eq.trans (b:=qz (GU x2) x) F3 (by rw[Bjw];simp only[e2]<;>rfl))
end F138
namespace F139
def H:=hd_ [.agg [Ss,Sb,.agg [Si,Si,Si,Si,Si],Sl,Si,Sb,Sz,Si]] [Si] .d [] f139
def k:KC_:=kk_ 139 H (qz Gz) func139
end F139
namespace F143
def GJ(a m:LB)(n o p u v:Int)(w:LI)(y:Int)(b:LB)(aa:Bool)(ab:Int):Option (LB×LB×Int×Int×Int×Int×Int×LI×Int×LB×Bool×Int):=
(λg:Option (LB×LB×Int×Int×Int×Int×Int×LI×Int×LB×Bool×Int)=>
(λh:Option (LB×LB×Int×Int×Int×Int×Int×LI×Int×LB×Bool×Int)=>
(λk:Option (LB×LB×Int×Int×Int×Int×Int×LI×Int×LB×Bool×Int)=>
both (
h) [
k,
k]) (
both (
g) [
h])) (
bo (
g))) (
(Bt ([]:LB) b).bind λf=>
some (a,([]:LB),0,0,0,0,0,([]:LI),0,f,false,0))
theorem Bjv: @GJ= @Ip:=by
  unfold GJ Ip
  try simp only[Tl,Jv,Kk]
  all_goals
    repeat (refine funext λ_=>?_)
    repeat' first
      |with_reducible rfl
      |with_reducible refine El ?_ ?_
      |with_reducible refine Ej ?_ ?_ ?_
      |with_reducible refine Em ?_ ?_ ?_ ?_
      |((with_reducible refine Gs ?_ ?_);focus (intro h;first|(subst h;rfl)|(simp only[h];rfl)|(simp[Bt,Ac,h];done)))
      |with_reducible refine Gh λx=>?_
      |with_reducible refine Lw (λ_=>?_) (λ_=>?_)
      |(refine Cq (λh=>by simp only[h,Gm,Bw,Bu,ite_self]) (λx h=>?_);(try simp only[h,Bw]))
      |(refine Dr (λh=>?_) (λh=>?_)<;>simp only[h,if_true,if_false,Bool.false_eq_true])
def H:=hd_ [.agg [Ss,Sb,.agg [Si,Si,Si,Si,Si],Sl,Si,Sb,Sz,Si]] [.agg [Ss,Ob 5,.agg [Si,Si,Si,Si,Si],Ol 3,Si,Ob 5,Sz,Si]] (.seq .d (.seq (.mode false) .d)) [] f143
def k:KC_:=kk_ 143 H (qz Ip) func143 (λx=>Eq.trans (b:=qz GJ x) F3 (by simp only[Bjv]<;>rfl))
end F143
namespace F141
def H:=hd_ [.agg [Ss,Sb,.agg [Si,Si,Si,Si,Si],Sl,Si,Sb,Sz,Si],Si] [.agg [Ss,Ob 5,.agg [Si,Si,Si,Si,Si],Ol 3,Si,Ob 5,Sz,Si],Si] .d [F143.k] f141
def k:KC_:=kk_ 141 H (u13 Lf) func141
end F141
namespace F63
abbrev R_:=(LB×LB×Int×Int×Int×Int×Int×LI×Int×LB×Bool×Int×Int)
def H:=hd_ [.agg [Ss,Sb,.agg [Si,Si,Si,Si,Si],Sl,Si,Sb,Sz,Si],Sb] [.agg [Ss,Ob 5,.agg [Si,Si,Si,Si,Si],Ol 3,Si,Ob 5,Sz,Si],Si] (.seq .d (.seq .d (.seq .d (.seq .d (.seq .d (.blk (.loop [2,4] [⟨2,[1],.ro (.int .u8)⟩,⟨2,[3],.ro (.int .i64)⟩,⟨2,[5],.ro (.int .u8)⟩] .d))))))) [F137.k,F138.k,F139.k,F140.k,F141.k] f63
def t3(a b:LB)(f g h k m:Int)(n:LI)(o:Int)(p:LB)(u:Bool)(v:Int):S:=⟨[(2,.ptr 0 []),(4,.ptr 1 [])],[.box 41 (.agg [vs a,vb b,.agg [vi f,vi g,vi h,vi k,vi m],vl n,vi o,vb p,vt u,vi v]),.box 41 (.agg [vs ([]:LB),.nils,.agg [vi 0,vi 0,vi 0,vi 0,vi 0],.nils,vi 0,.nils,vt false,vi 0])],[]⟩
def z3:ZT_ R_:=H.i P_ [r,r,r,r,r,d]
theorem i3:∀(q:Nat) (a b:LB) (f g h k m:Int) (n:LI) (o:Int) (p:LB) (u:Bool) (v:Int),z3 q (t3 a b f g h k m n o p u v)=Bc q a b f g h k m n o p u v:=
 ind (λ_ _ _ _ _ _ _ _ _ _ _ _=>by kernel_rfl) λq ih a b f g h k m n o p u v=>Eq.trans (b:=Cc (λa b f g h k m n o p u v=>(z3 q) (t3 a b f g h k m n o p u v)) a b f g h k m n o p u v) F3 (by simp only[ih]<;>rfl)
def k:KC_:=kk_ 63 H (u13 Dg) func63 (λx=>Eq.trans (b:=u13 (Ni (λa b f g h k m n o p u v=>z3 Bm (t3 a b f g h k m n o p u v))) x) F3 (by simp only[i3,Al]<;>rfl))
end F63
namespace F64
def H:=hd_ [.agg [Ss,Sb,.agg [Si,Si,Si,Si,Si],Sl,Si,Sb,Sz,Si],Si] [.agg [Ss,Ob 5,.agg [Si,Si,Si,Si,Si],Ol 3,Si,Sb,Sz,Si],Sb,Si] .d [F137.k,F138.k] f64
def k:KC_:=kk_ 64 H (u13 Jp) func64
end F64
namespace F289
def HL(j5:LB->Int->Int->LB->LB->Option (Int×Int))(a:LB):Option (Int×Int):=
(Bo a (Ap (Ac a) 32) (Ac a)).bind λb=>
(Sk b).bind λ(f,g,n)=>
if(!n)then
some (0,12)
else
(Gu f g true).bind λh=>
both (
if(!(b==h))then
(Gu f g false).bind λm=>
if(b !=m)then
some (0,12)
else
j5 a f g b h
else
j5 a f g b h) [
if(!(b==h))then
(Gu f g false).bind λm=>
(λv:Option (Int×Int)=>
bo (
v)) (
if(b !=m)then
some (0,12)
else
j5 a f g b h)
else
j5 a f g b h]
theorem Bjt: @HL= @Ze:=by
  unfold HL Ze
  try simp only[Tl,Jv,Kk]
  all_goals
    repeat (refine funext λ_=>?_)
    repeat' first
      |with_reducible rfl
      |with_reducible refine El ?_ ?_
      |with_reducible refine Ej ?_ ?_ ?_
      |with_reducible refine Em ?_ ?_ ?_ ?_
      |((with_reducible refine Gs ?_ ?_);focus (intro h;first|(subst h;rfl)|(simp only[h];rfl)|(simp[Bt,Ac,h];done)))
      |with_reducible refine Gh λx=>?_
      |with_reducible refine Lw (λ_=>?_) (λ_=>?_)
      |(refine Cq (λh=>by simp only[h,Gm,Bw,Bu,ite_self]) (λx h=>?_);(try simp only[h,Bw]))
      |(refine Dr (λh=>?_) (λh=>?_)<;>simp only[h,if_true,if_false,Bool.false_eq_true])
abbrev R_:=(Int×Int)
def H:=hd_ [Sb] [Si,Si] (.seq .d (.cut [0] [] .d (.seq .d (.seq .d (.seq .d (.seq .d (.cut [0,5,6,8] [] (.seq (.mode false) .d) (.seq .d (.cut [0,5,6,8,9] [] .d .d))))))))) [F330.k,F331.k,F332.k] f289
def x4(a:LB):Option R_:=H.e P_ [r,r] ⟨[(0,vb a)],[],[]⟩
theorem e4:x4=KO:=Eq.trans (b:=HL Yo) F3 (by rw[Bjt];rfl)
def k:KC_:=kk_ 289 H IA func289 (λx=>Eq.trans (b:=JC x4 x) F3 (by simp only[e4]<;>rfl))
end F289
namespace F218
abbrev R_:=(Int×Int)
def H:=hd_ [Sb] [Si,Si] (.seq .d (.seq .d (.seq .d (.cut [4] [] (.blk (.loop [0,4] [] .d)) .d)))) [F289.k] f218
def t4(b:LB)(a:Int):S:=⟨[(0,vb b),(4,vi a)],[],[]⟩
def z4:ZT_ R_:=H.i P_ [r,r,r,l,d]
theorem i4:∀(q:Nat) (b:LB) (a:Int),z4 q (t4 b a)=Pf q b a:=
 ind (λ_ _=>by kernel_rfl) λq ih b a=>Eq.trans (b:=FI Ads (λb a=>(z4 q) (t4 b a)) b a) F3 (by simp only[ih]<;>rfl)
def k:KC_:=kk_ 218 H AQ func218 (λx=>Eq.trans (b:=DP (λb a=>z4 Bm (t4 b a)) x) F3 (by simp only[i4,Al]<;>rfl))
end F218
namespace F142
def H:=hd_ [.agg [Ss,Sb,.agg [Si,Si,Si,Si,Si],Sl,Si,Sb,Sz,Si]] [Si] .d [F216.k,F217.k,F218.k] f142
def k:KC_:=kk_ 142 H (qz Po) func142
end F142
namespace F65
def H:=hd_ [.agg [Ss,Sb,.agg [Si,Si,Si,Si,Si],Sl,Si,Sb,Sz,Si]] [.agg [Ss,Ob 5,.agg [Si,Si,Si,Si,Si],Ol 3,Si,Ob 5,Sz,Si],Si] .d [F137.k,F138.k,F139.k,F141.k,F142.k,F143.k] f65
def k:KC_:=kk_ 65 H (qz Ht) func65
end F65
namespace F61
def DC(j10:Int-> (List (Int×LB×Unit))->Int->Int->LB->LB->Int->Int->Int->Int->Int->Int->LB->Bool->Int->LB->LI->Option (LB×LB×Int×Int×Int×Int×Int×LI×Int×LB×Bool×Int×(List (Int×LB×Unit))×Int))(j12:LB->Int->Int->Int->Int->Int->Int->LB->Bool->Int-> (List (Int×LB×Unit))->LB->LI->Option (LB×LB×Int×Int×Int×Int×Int×LI×Int×LB×Bool×Int×(List (Int×LB×Unit))×Int))(ab:LB)(b:List (UInt8×Int×Unit))(ac a:Int)(g:LB)(h k m n o p:Int)(u:LB)(v:Bool)(w:Int)(f:List (Int×LB×Unit))(y:LB)(aa:LI):Option (LB×LB×Int×Int×Int×Int×Int×LI×Int×LB×Bool×Int×(List (Int×LB×Unit))×Int):=
if(Cj a (Ac b))then
(Aj b a).bind λad=>
if(geq ad.1 1)then
(Aj b a).bind λae=>
(Mk ab ac ae.2.1).bind λ(af,ag)=>
(Dg g y h k m n o aa p u v w af).bind λ(ah,ai,aj,ak,al,am,an,ao,ap,aq,ar,au,av)=>
j10 a f ag av ([]:LB) ah aj ak al am an ap aq ar au ai ao
else
if(geq ad.1 2)then
(Aj b a).bind λaw=>
(λfg:Option (LB×LB×Int×Int×Int×Int×Int×LI×Int×LB×Bool×Int×(List (Int×LB×Unit))×Int)=>
bo (
fg)) (
(Jp g y h k m n o aa p u v w aw.2.1).bind λ(ax,ay,az,ba,bb,bc,bd,be,bf,bg,bh,bi,bj,bk)=>
j10 a f ac bk bj ax az ba bb bc bd bf bg bh bi ay be)
else
if(geq ad.1 3)then
(Ht g y h k m n o aa p u v w).bind λ(bl,bm,bn,bp,bq,br,bs,bt,bu,bv,bw,bx,bz)=>
j10 a f ac bz ([]:LB) bl bn bp bq br bs bu bv bw bx bm bt
else
j10 a f ac 0 ([]:LB) g h k m n o p u v w y aa
else
j12 g h k m n o p u v w f y aa
theorem Bj1: @DC= @Pb:=by
  unfold DC Pb;simp only[Tl,Jv,Kk]
abbrev R_:=(LB×LB×Int×Int×Int×Int×Int×LI×Int×LB×Bool×Int×(List (Int×LB×Unit))×Int)
abbrev K_:=S->Option R_
def H:=hd_ [Ss,Sb,.lf (.list (.cons (.int .u8) (.cons (.int .i64) .nil))) none] [.agg [Ss,Ob 5,.agg [Si,Si,Si,Si,Si],Ol 3,Si,Sb,Sz,Si],.lf (.list (.cons (.int .i64) (.cons (.list (.int .u8)) .nil))) (some 162),Si] (.seq .d (.seq .d (.seq .d (.seq .d (.seq .d (.seq .d (.cut [6,10,12] [] (.seq .d (.blk (.loop [1,2,6,10,12,13,14] [⟨10,[5],.ro (.int .u8)⟩,⟨12,[],.own 162 (.cons (.int .i64) (.cons (.list (.int .u8)) .nil))⟩] (.seq .d (.seq (.blk (.seq .d (.seq .d (.cut [1,2,6,10,12,13,14,15,16] [⟨10,[5],.ro (.int .u8)⟩,⟨16,[],.ro (.int .u8)⟩] (.seq .d (.blk (.seq .d (.cond .d (.seq .d (.cond (.mode false) .d)))))) .d)))) .d))))) .d))))))) [F62.k,F63.k,F64.k,F65.k,F135.k,F136.k] f61
def t7(ab:LB)(b:List (UInt8×Int×Unit))(ac a:Int)(g:LB)(h k m n o p:Int)(u:LB)(v:Bool)(w:Int)(f:List (Int×LB×Unit))(y:LB)(aa:LI):S:=⟨[(1,vb ab),(2,.val (.list (.cons (.int .u8) (.cons (.int .i64) .nil))) b),(6,.ptr 0 []),(10,.ptr 1 []),(12,.own 2),(13,vi ac),(14,vi a)],[.box 41 (.agg [vs ([]:LB),.nils,.agg [vi 0,vi 0,vi 0,vi 0,vi 0],.nils,vi 0,.nils,vt false,vi 0]),.box 41 (.agg [vs g,.own 3,.agg [vi h,vi k,vi m,vi n,vi o],.own 4,vi p,vb u,vt v,vi w]),.arr 162 (.cons (.int .i64) (.cons (.list (.int .u8)) .nil)) f,Ab 5 y,Ai 3 aa],[]⟩
def z7:ZT_ R_:=H.i P_ [r,r,r,r,r,r,l,r,d]
theorem i7(ab:LB)(b:List (UInt8×Int×Unit)):∀(q:Nat) (ac a:Int) (g:LB) (h k m n o p:Int) (u:LB) (v:Bool) (w:Int) (f:List (Int×LB×Unit)) (y:LB) (aa:LI),z7 q (t7 ab b ac a g h k m n o p u v w f y aa)=Ke ab b q ac a g h k m n o p u v w f y aa:=
 ind (λ_ _ _ _ _ _ _ _ _ _ _ _ _ _ _=>by kernel_rfl) λq ih ac a g h k m n o p u v w f y aa=>Eq.trans (b:=DC (Nl (λac a g h k m n o p u v w f y aa=>(z7 q) (t7 ab b ac a g h k m n o p u v w f y aa)) ab b) CG ab b ac a g h k m n o p u v w f y aa) F3 (by rw[Bj1];simp only[ih]<;>rfl)
def k:KC_:=kk_ 61 H (u3 Pn) func61 (λx=>Eq.trans (b:=u3 (On (λab b ac a g h k m n o p u v w f y aa=>z7 Bm (t7 ab b ac a g h k m n o p u v w f y aa))) x) F3 (by simp only[i7,Al]<;>rfl))
end F61
namespace F66
def H:=hd_ [.agg [Ss,Sb,.agg [Si,Si,Si,Si,Si],Sl,Si,Sb,Sz,Si]] [Si] .d [] f66
def k:KC_:=kk_ 66 H (qz Rk) func66
end F66
namespace F18
def HD(j10:Int->Int->Int->Int->LB->Int->Int->Int->Int->Int->Int->LB->Bool->Int->LB->LI->Option (Int×Int×Int))(j12:Int->Int->Option (Int×Int×Int))(k:LB)(f:List (UInt8×Int×Unit))(g h b a:Int)(m:LB)(n o p u v w:Int)(y:LB)(aa:Bool)(ab:Int)(ac:LB)(ad:LI):Option (Int×Int×Int):=
if(Cj a (Ac f))then
(Aj f a).bind λae=>
if(geq ae.1 1)then
(Aj f a).bind λaf=>
(Bo k b (Af b (Du af.2.1 (Ap (Ac k) b)))).bind λah=>
(Dg m ac n o p u v ad w y aa ab ah).bind λ(ai,aj,ak,al,am,an,ao,ap,aq,ar,au,av,dm)=>
j10 g h a (Af b (Du af.2.1 (Ap (Ac k) b))) ai ak al am an ao aq ar au av aj ap
else
if(geq ae.1 2)then
(Aj f a).bind λaw=>
(λfd:Option (Int×Int×Int)=>
bo (
fd)) (
(Jp m ac n o p u v ad w y aa ab aw.2.1).bind λ(ax,ay,az,ba,bb,bc,bd,be,bf,bg,bh,bi,dn,dp)=>
j10 g h a b ax az ba bb bc bd bf bg bh bi ay be)
else
if(geq ae.1 3)then
(Ht m ac n o p u v ad w y aa ab).bind λ(bj,bk,bl,bm,bn,bp,bq,br,bs,bt,bu,bv,dq)=>
j10 g h a b bj bl bm bn bp bq bs bt bu bv bk br
else
j10 g h a b m n o p u v w y aa ab ac ad
else
j12 g h
theorem Bjx: @HD= @Ji:=by
  unfold HD Ji;simp only[Tl,Jv,Kk]
abbrev R_:=(Int×Int×Int)
abbrev K_:=S->Option R_
def H:=hd_ [Ss,Sb,.lf (.list (.cons (.int .u8) (.cons (.int .i64) .nil))) none] [Si,Si,Si] (.seq .d (.seq .d (.seq .d (.seq .d (.seq .d (.cut [12,13] [] (.seq .d (.blk (.loop [1,2,12,13,14,16,17] [⟨14,[5],.ro (.int .u8)⟩] (.seq .d (.seq (.blk (.cut [1,2,12,13,14,16,17] [⟨14,[5],.ro (.int .u8)⟩] (.seq .d (.blk (.seq .d (.cond (.seq .d (.seq (.mode false) .d)) (.seq .d (.cond (.mode false) .d)))))) .d)) .d))))) .d)))))) [F61.k,F62.k,F63.k,F64.k,F65.k,F66.k] f18
def t7(k:LB)(f:List (UInt8×Int×Unit))(g h b a:Int)(m:LB)(n o p u v w:Int)(y:LB)(aa:Bool)(ab:Int)(ac:LB)(ad:LI):S:=⟨[(1,vb k),(2,.val (.list (.cons (.int .u8) (.cons (.int .i64) .nil))) f),(12,vi g),(13,vi h),(14,.ptr 0 []),(16,vi b),(17,vi a)],[.box 41 (.agg [vs m,.own 1,.agg [vi n,vi o,vi p,vi u,vi v],.own 2,vi w,vb y,vt aa,vi ab]),Ab 5 ac,Ai 3 ad],[]⟩
def z7:ZT_ R_:=H.i P_ [r,r,r,r,r,l,r,d]
theorem i7(k:LB)(f:List (UInt8×Int×Unit)):∀(q:Nat) (g h b a:Int) (m:LB) (n o p u v w:Int) (y:LB) (aa:Bool) (ab:Int) (ac:LB) (ad:LI),z7 q (t7 k f g h b a m n o p u v w y aa ab ac ad)=En k f q g h b a m n o p u v w y aa ab ac ad:=
 ind (λ_ _ _ _ _ _ _ _ _ _ _ _ _ _ _ _=>by kernel_rfl) λq ih g h b a m n o p u v w y aa ab ac ad=>Eq.trans (b:=HD (Wn (λg h b a m n o p u v w y aa ab ac ad=>(z7 q) (t7 k f g h b a m n o p u v w y aa ab ac ad)) k f) Ah4 k f g h b a m n o p u v w y aa ab ac ad) F3 (by rw[Bjx];simp only[ih]<;>rfl)
def k:KC_:=kk_ 18 H (u3 Td) func18 (λx=>Eq.trans (b:=u3 (Rr (λk f g h b a m n o p u v w y aa ab ac ad=>z7 Bm (t7 k f g h b a m n o p u v w y aa ab ac ad))) x) F3 (by simp only[i7,Al]<;>rfl))
end F18
namespace F106
def H:=hd_ [.agg [Si,Si],Si,Ss] [Si,Sz] .d [F188.k,F189.k] f106
def k:KC_:=kk_ 106 H (u4 Zy) func106
end F106
namespace F46
def H:=hd_ [.agg [Si,Si],Si,Ss] [.agg [.agg [Si,Si],Si,Ss,Ob 5,Ow 21,.lf (.list (.list (.int .u8))) (some 31),Ob 5,Sz,Si],Si] .d [F106.k] f46
def k:KC_:=kk_ 46 H (u4 KJ) func46
end F46
namespace F108
def H:=hd_ [.agg [Si,Si]] [Si] .d [] f108
def k:KC_:=kk_ 108 H (u2 BY) func108
end F108
namespace F111
def H:=hd_ [.agg [.agg [Si,Si],Si,Ss,Sb,Sw,.lf (.list (.list (.int .u8))) none,Sb,Sz,Si],Si] [Si] .d [] f111
def k:KC_:=kk_ 111 H (u11 Zr) func111
end F111
namespace F110
def H:=hd_ [.agg [.agg [Si,Si],Si,Ss,Sb,Sw,.lf (.list (.list (.int .u8))) none,Sb,Sz,Si],Si,Si] [Sz] .d [] f110
def k:KC_:=kk_ 110 H (qz Zj) func110
end F110
namespace F191
abbrev R_:=Bool
abbrev K_:=S->Option R_
def H:=hd_ [.agg [.agg [Si,Si],Si,Ss,Sb,Sw,.lf (.list (.list (.int .u8))) none,Sb,Sz,Si],Si] [Sz] (.seq .d (.seq .d (.cut [1,2,5] [] .d (.seq .d (.seq .d (.cut [1,2,5,6] [] .d (.cut [1,2,5] [] .d (.seq .d (.cut [4] [] (.keep [4,80,81] true) .d))))))))) [F36.k,F108.k,F110.k,F111.k] f191 false [(256,(.seq .d (.cut [4] [] (.keep [4,7,8] true) .d))),(257,.d),(310,(.seq .d (.cut [] [] (.seq .d (.blk (.loop [0,1,7,8] [] (.seq .d (.seq .d (.cut [0,1,7,8] [] (.blk (.seq .d (.cut [0,1,5,7,8,16] [] (.keep [0,1,5,7,8,16] true) .d))) .d)))))) .d)))]
def t16(b:List LB)(f a h:Int):S:=⟨[(0,.val (.list (.list (.int .u8))) b),(1,.fn 257 [.ptr 0 []]),(7,vi (Ac b)),(8,vi h)],[.box 3 (vi (Af (Bs (Af (Bn (Bn (81:Int) f) a) (7:Int)) (8:Int)) (4:Int)))],[[(4,vt false)],[]]⟩
def z16:ZT_ R_:=H.i P_ [r,r,r,r,r,r,r,r,l,(call 3 256),r,l,(call 2 310),r,l,r,d]
def x13(f a k o:Int)(p m:LB)(g:LX)(b:List LB)(n:LB)(u:Bool)(v:Int):Option R_:=H.e P_ [r,r,r] ⟨[(1,vi f),(2,.ptr 0 []),(5,vi a)],[.box 90 (.agg [.agg [vi a,vi k],vi o,vs p,vb m,vw g,.val (.list (.list (.int .u8))) b,vb n,vt u,vi v])],[]⟩
theorem i16(b:List LB)(f a:Int):∀(q:Nat) (h:Int),z16 q (t16 b f a h)=Gc b f a q h:=
 ind (λ_=>by kernel_rfl) λq ih h=>Eq.trans (b:=Pq (AK (λh=>(z16 q) (t16 b f a h)) b f a) Ame b f a h) F3 (by simp only[ih]<;>rfl)
theorem e13:x13=AO:=Eq.trans (b:=AS (Tw (Tt (λb f a h=>z16 Bm (t16 b f a h))))) F3 (by simp only[i16,Al]<;>rfl)
def k:KC_:=kk_ 191 H (u11 Xr) func191 (λx=>Eq.trans (b:=u11 (DR x13) x) F3 (by simp only[e13]<;>rfl))
end F191
namespace F115
def H:=hd_ [.agg [.agg [Si,Si],Si,Ss,Sb,Sw,.lf (.list (.list (.int .u8))) none,Sb,Sz,Si]] [Si] .d [F106.k,F191.k] f115
def k:KC_:=kk_ 115 H (c! Nx) func115
end F115
namespace F116
abbrev R_:=(Int×Int×Int×LB×LB×LX×(List LB)×LB×Bool×Int)
def H:=hd_ [.agg [.agg [Si,Si],Si,Ss,Sb,Sw,.lf (.list (.list (.int .u8))) none,Sb,Sz,Si]] [.agg [.agg [Si,Si],Si,Ss,Ob 5,Ow 21,.lf (.list (.list (.int .u8))) (some 31),Ob 5,Sz,Si]] (.seq .d (.cut [1,2] [] .d (.seq .d (.seq .d (.cut [1,2,3] [] (.seq .d (.blk (.loop [1,2,3,26,27] [] .d))) .d))))) [F117.k,F192.k] f116
def t6(w a:List LB)(b f g:Int)(h:LB)(k:Bool)(m:Int)(n:LB)(o:LX)(p:LB)(v:Int)(u:List LB):S:=⟨[(1,.ptr 0 []),(2,.ptr 1 []),(3,.own 2),(26,vi (Ac (dJ w a))),(27,vi v)],[.box 90 (.agg [.agg [vi b,vi f],vi g,vs h,.own 3,.own 4,.val (.list (.list (.int .u8))) a,.own 5,vt k,vi m]),.box 90 (.agg [.agg [vi 0,vi 0],vi 0,vs ([]:LB),.nils,.nils,.nils,.nils,vt false,vi 0]),.arr 31 (.list (.int .u8)) u,Ab 5 n,Aw 21 o,Ab 5 p],[]⟩
def z6:ZT_ R_:=H.i P_ [r,r,r,r,l,r,d]
theorem i6(w a:List LB)(b f g:Int)(h:LB)(k:Bool)(m:Int)(n:LB)(o:LX)(p:LB):∀(q:Nat) (v:Int) (u:List LB),z6 q (t6 w a b f g h k m n o p v u)=Xw w a b f g h k m n o p q v u:=
 ind (λ_ _=>by kernel_rfl) λq ih v u=>Eq.trans (b:=PC Bdo (λv u=>(z6 q) (t6 w a b f g h k m n o p v u)) w a b f g h k m n o p v u) F3 (by simp only[ih]<;>rfl)
def k:KC_:=kk_ 116 H (c! UM) func116 (λx=>Eq.trans (b:=c! (bM (bZ (λw a b f g h k m n o p v u=>z6 Bm (t6 w a b f g h k m n o p v u)))) x) F3 (by simp only[i6,Al]<;>rfl))
end F116
namespace F107
abbrev R_:=(Int×Int×Int×LB×LB×LX×(List LB)×LB×Bool×Int×Int×Int)
def H:=hd_ [.agg [.agg [Si,Si],Si,Ss,Sb,Sw,.lf (.list (.list (.int .u8))) none,Sb,Sz,Si]] [.agg [.agg [Si,Si],Si,Ss,Ob 5,Ow 21,.lf (.list (.list (.int .u8))) (some 31),Ob 5,Sz,Si],Si,Si] (.seq .d (.seq .d (.seq .d (.cut [1,2,6,7] [] .d .d)))) [F115.k,F116.k,F188.k] f107
def k:KC_:=kk_ 107 H (c! AB) func107
end F107
namespace F78
abbrev R_:=(LX×Int)
abbrev K_:=S->Option R_
def H:=hd_ [Si,Sb] [Ow 21,Si] (.seq .d (.seq .d (.seq .d (.seq .d (.seq .d (.seq .d (.cut [10] [] (.seq .d (.blk (.loop [0,1,9,10,11] [⟨10,[],.own 21 (.int .i32)⟩] (.seq .d (.cut [0,1,9,10,11] [] (.blk (.seq .d (.seq .d (.cut [0,1,9,10,11,12] [] (.seq .d (.blk (.loop [0,1,9,10,11,12,53,54] [] .d))) .d)))) .d))))) .d))))))) [F95.k] f78
def t25(a:Int)(b:LB)(f:Int)(g:LX)(k:Int32)(h:Int):S:=⟨[(0,vi a),(1,vb b),(9,vi (Bs a (8:Int))),(10,.own 0),(11,vi f),(12,vx k),(53,vi (Bs a (8:Int))),(54,vi h)],[Aw 21 g],[]⟩
def z25(Me:K_):ZT_ R_:=H.i P_ [r,r,r,r,r,r,l,r,d,(lp Me),r,l,d,r,r,l,r,d]
def t16(a:Int)(b:LB)(f:Int)(g:LX):S:=⟨[(0,vi a),(1,vb b),(9,vi (Bs a (8:Int))),(10,.own 0),(11,vi f)],[Aw 21 g],[]⟩
def z16:ZT_ R_:=H.i P_ [r,r,r,r,r,r,l,r,d]
def x25(Me:K_)(a:Int)(b:LB)(f:Int)(g:LX)(k:Int32)(h:Int):Option R_:=H.e P_ [r,r,r,r,r,r,l,r,d,(lp Me),r,l,d,r,r,l,r,d] (t25 a b f g k h)
theorem i25(Me:K_)(a:Int)(b:LB)(f:Int)(g:LX):∀(q:Nat) (k:Int32) (h:Int),z25 Me q (t25 a b f g k h)=Gp (λf g=>Me (t16 a b f g)) a b f g q k h:=
 ind (λ_ _=>by kernel_rfl) λq ih k h=>Eq.trans (b:=Ii (IG (λf g=>Me (t16 a b f g)) a b) (λk h=>(z25 Me q) (t25 a b f g k h)) a b f g k h) F3 (by simp only[ih]<;>rfl)
theorem e25(Me:K_)(a:Int)(b:LB):x25 Me a b=Tj (λf g=>Me (t16 a b f g)) a b:=by funext f g k h;exact Eq.trans F3 ((i25 Me a b f g Bm k h).trans (by rw[Al];rfl))
theorem i16(a:Int)(b:LB):∀(q:Nat) (f:Int) (g:LX),z16 q (t16 a b f g)=Fi a b q f g:=
 ind (λ_ _=>by kernel_rfl) λq ih f g=>Eq.trans (b:=Is (Oh (λf g=>(z16 q) (t16 a b f g)) a b) (x25 (z16 q) a b) Avm a b f g) F3 (by simp only[e25,ih]<;>rfl)
def k:KC_:=kk_ 78 H (u2 ZA) func78 (λx=>Eq.trans (b:=u2 (YL (λa b f g=>z16 Bm (t16 a b f g))) x) F3 (by simp only[i16,Al]<;>rfl))
end F78
namespace F242
def H:=hd_ [.agg [Si,Si],Sw] [Si] .d [F36.k,F189.k] f242
def k:KC_:=kk_ 242 H (u3 YY) func242
end F242
namespace F243
abbrev R_:=(LX×Int)
abbrev K_:=S->Option R_
def H:=hd_ [Si,Sw] [Ow 21,Si] (.seq .d (.seq .d (.seq .d (.cut [7] [] (.seq .d (.blk (.loop [0,7,8] [] (.seq .d (.cut [0,7,8] [] (.blk (.keep [0,7,8,24,25,26,27,28,29] true)) .d))))) .d)))) [F192.k,F299.k] f243 true [(300,(.seq .d (.cut [0,2] [] (.seq .d (.blk (.loop [0,2,7,8] [] .d))) .d)))]
def t17(b a f:Int)(g:LX):S:=⟨[(0,.view true 0 [] (.int .i32) a ((Af a b)-a)),(2,vi (Ap ((Af a b)-a) (1:Int))),(7,vi (Ap ((Af a b)-a) (1:Int))),(8,vi f)],[Aw 21 g],[[(0,vi b),(7,.own 0),(8,vi a),(24,.own 0),(25,vi a),(26,vi a),(27,vi b),(28,vi (Af a b)),(29,.view true 0 [] (.int .i32) a ((Af a b)-a))]]⟩
def z17(cO:K_):ZT_ R_:=H.i P_ [r,r,r,l,r,d,(lp cO),r,l,d,(call 6 300),r,l,r,d]
def t12(b a:Int)(h:LX):S:=⟨[(0,vi b),(7,.own 0),(8,vi a)],[Aw 21 h],[]⟩
def z12:ZT_ R_:=H.i P_ [r,r,r,l,r,d]
def x17(cO:K_)(b a f:Int)(g:LX):Option R_:=H.e P_ [r,r,r,l,r,d,(lp cO),r,l,d,(call 6 300),r,l,r,d] (t17 b a f g)
theorem i17(cO:K_)(b a:Int):∀(q:Nat) (f:Int) (g:LX),z17 cO q (t17 b a f g)=RN (λa h=>cO (t12 b a h)) b a q f g:=
 ind (λ_ _=>by kernel_rfl) λq ih f g=>Eq.trans (b:=jY (vV (λa h=>cO (t12 b a h)) b) (λf g=>(z17 cO q) (t17 b a f g)) b a f g) F3 (by simp only[ih]<;>rfl)
theorem e17(cO:K_)(b:Int):x17 cO b=Bcd (λa h=>cO (t12 b a h)) b:=by funext a f g;exact Eq.trans F3 ((i17 cO b a Bm f g).trans (by rw[Al];rfl))
theorem i12(b:Int):∀(q:Nat) (a:Int) (h:LX),z12 q (t12 b a h)=RV b q a h:=
 ind (λ_ _=>by kernel_rfl) λq ih a h=>Eq.trans (b:=wC (x17 (z12 q) b) Azu b a h) F3 (by simp only[e17,ih]<;>rfl)
def k:KC_:=kk_ 243 H (u2 E_) func243 (λx=>Eq.trans (b:=u2 (J8 (λb a h=>z12 Bm (t12 b a h))) x) F3 (by simp only[i12,Al]<;>rfl))
end F243
namespace F304
def H:=hd_ [.agg [Si,.lf (.vec 16 (.int .i32)) none,.lf (.vec 16 (.int .i32)) none],Sx] [Sx,.agg [Si,.lf (.vec 16 (.int .i32)) none,.lf (.vec 16 (.int .i32)) none],Si] .d [F340.k,F341.k] f304
def k:KC_:=kk_ 304 H (u4 mD) func304
end F304
namespace F245
def VK(a:Int)(b:Int32)(f:Int)(g h:LX)(k:Int32):Option (Int32×Int×Int32×Int×LX×LX×Int):=
(JW a b f g h).bind λm=>
if(Bj m 0)then
some (0,0,0,0,(List.replicate 16 (0:Int32)),(List.replicate 16 (0:Int32)),m)
else
(JY a b).bind λ(n,y)=>
(mD f g h (Ap k n)).bind λ(o,p,u,v,w)=>
bo (
some (o,a,k,p,u,v,w))
theorem Bmb: @VK= @FU:=by
  unfold VK FU;simp only[Tl,Jv,Kk]
def H:=hd_ [.agg [Si,Sx,.agg [Si,.lf (.vec 16 (.int .i32)) none,.lf (.vec 16 (.int .i32)) none]],Sx] [Sx,.agg [Si,Sx,.agg [Si,.lf (.vec 16 (.int .i32)) none,.lf (.vec 16 (.int .i32)) none]],Si] (.seq .d (.seq .d (.seq .d (.seq .d (.seq (.mode false) .d))))) [F302.k,F303.k,F304.k] f245
def k:KC_:=kk_ 245 H (u6 FU) func245 (λx=>Eq.trans (b:=u6 VK x) F3 (by simp only[Bmb]<;>rfl))
end F245
namespace F246
def H:=hd_ [Sx] [Su] .d [] f246
def k:KC_:=kk_ 246 H zJ func246
end F246
namespace F179
abbrev R_:=(LU×Int)
def H:=hd_ [.agg [Si,Si],.lf (.vec 16 (.int .i32)) none,Sw] [Ov 175,Si] (.seq .d (.seq .d (.seq .d (.seq .d (.seq .d (.cut [3,9,11] [] (.seq .d (.blk (.loop [3,4,9,11,36] [] .d))) (.seq .d (.cut [13] [] (.seq .d (.blk (.loop [3,11,13,49,50,51] [⟨13,[],.own 175 (.int .u32)⟩] .d))) .d)))))))) [F242.k,F243.k,F244.k,F245.k,F246.k] f179
def t10(b:LX)(a f g:Int)(k:List (Int×Int32×(Int×LX×LX×Unit)×Unit))(h:LU):S:=⟨[(3,.ptr 0 []),(11,.ptr 1 []),(13,.own 2),(49,.own 3),(50,vi (Ac b)),(51,vi g)],[.box 30 (.agg [vi a,vi f]),.box 333 (.val (.vec 6 (.cons (.int .i64) (.cons (.int .i32) (.cons (.cons (.int .i64) (.cons (.vec 16 (.int .i32)) (.cons (.vec 16 (.int .i32)) .nil))) .nil)))) k),Av 175 h,Aw 21 b],[]⟩
def z10:ZT_ R_:=H.i P_ [r,r,r,r,r,r,r,l,r,d]
def t7(a f:Int)(n b:LX)(o:Int)(m:List (Int×Int32×(Int×LX×LX×Unit)×Unit)):S:=⟨[(3,.ptr 0 []),(4,.ptr 1 []),(9,.own 2),(11,.ptr 3 []),(36,vi o)],[.box 30 (.agg [vi a,vi f]),.box 165 (.val (.vec 16 (.int .i32)) n),Aw 21 b,.box 333 (.val (.vec 6 (.cons (.int .i64) (.cons (.int .i32) (.cons (.cons (.int .i64) (.cons (.vec 16 (.int .i32)) (.cons (.vec 16 (.int .i32)) .nil))) .nil)))) m)],[]⟩
def z7:ZT_ R_:=H.i P_ [r,r,r,r,r,l,r,d]
def x10(b:LX)(a f g:Int)(k:List (Int×Int32×(Int×LX×LX×Unit)×Unit))(h:LU):Option R_:=H.e P_ [r,r,r,r,r,r,r,l,r,d] (t10 b a f g k h)
theorem i10(b:LX)(a f:Int):∀(q:Nat) (g:Int) (k:List (Int×Int32×(Int×LX×LX×Unit)×Unit)) (h:LU),z10 q (t10 b a f g k h)=Qv b a f q g k h:=
 ind (λ_ _ _=>by kernel_rfl) λq ih g k h=>Eq.trans (b:=EZ Asp (λg k h=>(z10 q) (t10 b a f g k h)) b a f g k h) F3 (by simp only[ih]<;>rfl)
theorem e10:x10=Apd:=by funext b a f g k h;exact Eq.trans F3 ((i10 b a f Bm g k h).trans (by rw[Al];rfl))
theorem i7(a f:Int)(n b:LX):∀(q:Nat) (o:Int) (m:List (Int×Int32×(Int×LX×LX×Unit)×Unit)),z7 q (t7 a f n b o m)=TU a f n b q o m:=
 ind (λ_ _=>by kernel_rfl) λq ih o m=>Eq.trans (b:=Ata (Asw x10) (λo m=>(z7 q) (t7 a f n b o m)) a f n b o m) F3 (by simp only[e10,ih]<;>rfl)
def k:KC_:=kk_ 179 H (u4 TK) func179 (λx=>Eq.trans (b:=u4 (TL (λa f n b o m=>z7 Bm (t7 a f n b o m))) x) F3 (by simp only[i7,Al]<;>rfl))
end F179
namespace F180
abbrev R_:=((List (Int×Int×UInt64×UInt64×Unit)))
def H:=hd_ [] [.lf (.vec 6 (.cons (.int .i64) (.cons (.int .i64) (.cons (.int .u64) (.cons (.int .u64) .nil))))) none] (.seq .d (.seq .d (.cut [0,1] [] (.seq .d (.blk (.loop [0,1,3] [] .d))) .d))) [F247.k] f180
def t4(b:Int)(a:List (Int×Int×UInt64×UInt64×Unit)):S:=⟨[(0,.ptr 0 []),(1,.ptr 1 []),(3,vi b)],[.box 269 (.val (.vec 6 (.cons (.int .i64) (.cons (.int .i64) (.cons (.int .u64) (.cons (.int .u64) .nil))))) (List.replicate 6 ((0:Int),(0:Int),(0:UInt64),(0:UInt64),()))),.box 269 (.val (.vec 6 (.cons (.int .i64) (.cons (.int .i64) (.cons (.int .u64) (.cons (.int .u64) .nil))))) a)],[]⟩
def z4:ZT_ R_:=H.i P_ [r,r,l,r,d]
theorem i4:∀(q:Nat) (b:Int) (a:List (Int×Int×UInt64×UInt64×Unit)),z4 q (t4 b a)=SB q b a:=
 ind (λ_ _=>by kernel_rfl) λq ih b a=>Eq.trans (b:=Awt Aw0 (λb a=>(z4 q) (t4 b a)) b a) F3 (by simp only[ih]<;>rfl)
def k:KC_:=kk_ 180 H (λ_=>UL) func180 (λx=>Eq.trans (b:=TG (λb a=>z4 Bm (t4 b a))) F3 (by simp only[i4,Al]<;>rfl))
end F180
namespace F305
def H:=hd_ [.agg [Sb,Si]] [.agg [Ob 5,Si]] .d [F117.k] f305
def k:KC_:=kk_ 305 H (u2 oW) func305
end F305
namespace F251
abbrev R_:=(LB×Int×Int)
abbrev K_:=S->Option R_
def H:=hd_ [.agg [Sb,Si],Sq,Si] [.agg [Ob 5,Si],Si] (.seq .d (.seq .d (.seq .d (.cut [3,6] [] (.keep [1,2,3,6,40,41] true) .d)))) [F248.k,F305.k] f251 false [(306,(.blk (.loop [0,1,2] [] (.seq .d (.blk (.cut [0,1,2] [] .d (.seq .d (.cut [0,1,2,7] [] .d .d))))))))]
def t15(b:UInt64)(a:Int)(m:UInt64)(h f:Int)(o:LB):S:=⟨[(0,.ptr 0 []),(1,vq m),(2,vi h)],[.box 272 (.agg [.own 2,vi f]),.box 272 (.agg [.nils,vi 0]),Ab 5 o],[[(1,vq b),(2,vi a),(3,.ptr 0 []),(6,.ptr 1 []),(40,vq b),(41,vi a)]]⟩
def z15:ZT_ R_:=H.i P_ [r,r,r,l,(call 2 306),d]
def t22(b:UInt64)(a:Int)(n:UInt64)(k g:Int)(p:LB):S:=⟨[(0,.ptr 0 []),(1,vq n),(2,vi k)],[.box 272 (.agg [.own 2,vi g]),.box 272 (.agg [.nils,vi 0]),Ab 5 p],[[(1,vq b),(2,vi a),(3,.ptr 0 []),(6,.ptr 1 []),(40,vq b),(41,vi a)]]⟩
def z22:ZT_ R_:=H.i P_ [r,r,r,l,(call 2 306),d]
theorem i15(b:UInt64)(a:Int):∀(q:Nat) (m:UInt64) (h f:Int) (o:LB),z15 q (t15 b a m h f o)=Yf b a q m h f o:=
 ind (λ_ _ _ _=>by kernel_rfl) λq ih m h f o=>Eq.trans (b:=eB (eA (λm h f o=>(z15 q) (t15 b a m h f o)) b a) qZ b a m h f o) F3 (by simp only[ih]<;>rfl)
theorem i22(b:UInt64)(a:Int):∀(q:Nat) (n:UInt64) (k g:Int) (p:LB),z22 q (t22 b a n k g p)=rT b a q n k g p:=
 ind (λ_ _ _ _=>by kernel_rfl) λq ih n k g p=>Eq.trans (b:=Abm (Adc (λn k g p=>(z22 q) (t22 b a n k g p)) b a) Aey b a n k g p) F3 (by simp only[ih]<;>rfl)
def k:KC_:=kk_ 251 H (u4 iE) func251 (λx=>Eq.trans (b:=u4 (wH (λb a m h f o=>z15 Bm (t15 b a m h f o)) (λb a n k g p=>z22 Bm (t22 b a n k g p))) x) F3 (by simp only[i15,i22,Al]<;>rfl))
end F251
namespace F342
def H:=hd_ [Si] [Si,Si] .d [] f342
def k:KC_:=kk_ 342 H sU func342
end F342
namespace F308
def H:=hd_ [.agg [Sb,Si],Si] [.agg [Ob 5,Si],Si] .d [F248.k,F251.k,F342.k] f308
def k:KC_:=kk_ 308 H (u3 lI) func308
end F308
namespace F252
abbrev R_:=(LB×Int×Int)
def H:=hd_ [.agg [Sb,Si],Su,Si] [.agg [Ob 5,Si],Si] (.seq .d (.seq .d (.seq .d (.seq .d (.cut [3,6,9,10,11] [] .d .d))))) [F248.k,F251.k,F307.k,F308.k] f252
def k:KC_:=kk_ 252 H (u4 rX) func252
end F252
namespace F181
def cG(k u n:Int)(a:UInt64)(b:UInt32)(o:UInt64)(m:LB):Option (LB×Int×Int×Int×UInt64×UInt64×Int):=
(λaf:Option (LB×Int×Int×Int×UInt64×UInt64×Int)=>
both (
bo (
af)) [
af]) (
some (m,k,u,n,(Af a (Ap (Ae b:UInt64) (Cx a (GI.toZ (4:UInt64)).toNat))),o,0))
theorem Bi1: @cG= @VV:=by
  unfold cG VV
  try simp only[Tl,Jv,Kk]
  all_goals
    repeat (refine funext λ_=>?_)
    repeat' first
      |with_reducible rfl
      |with_reducible refine El ?_ ?_
      |with_reducible refine Ej ?_ ?_ ?_
      |with_reducible refine Em ?_ ?_ ?_ ?_
      |((with_reducible refine Gs ?_ ?_);focus (intro h;first|(subst h;rfl)|(simp only[h];rfl)|(simp[Bt,Ac,h];done)))
      |with_reducible refine Gh λx=>?_
      |with_reducible refine Lw (λ_=>?_) (λ_=>?_)
      |(refine Cq (λh=>by simp only[h,Gm,Bw,Bu,ite_self]) (λx h=>?_);(try simp only[h,Bw]))
      |(refine Dr (λh=>?_) (λh=>?_)<;>simp only[h,if_true,if_false,Bool.false_eq_true])
abbrev R_:=(LB×Int×Int×Int×UInt64×UInt64×Int)
def H:=hd_ [.agg [Sb,Si],.agg [Si,Si,Sq,Sq],Su] [.agg [Ob 5,Si],.agg [Si,Si,Sq,Sq],Si] (.seq .d (.cut [2,3,4,6,7] [] .d (.seq .d (.seq .d (.cut [2,3,4,6,7,11] [] .d (.seq .d (.cut [3,4,6,7] [] (.keep [2,3,4,6,7,65] true) (.seq (.mode false) .d)))))))) [F248.k,F249.k,F250.k,F251.k,F252.k] f181 false [(253,(.seq .d (.seq .d (.seq .d (.blk (.cut [0,1,4] [] (.blk (.seq .d (.keep [0,1,4,6,18,19,20,21,22,23,24,25] true))) (.cut [] [] (.keep [0,1,4,27,28,29,30,31,32,33,34] true) .d))))))),(309,.d)]
def x10(k u n:Int)(a:UInt64)(b:UInt32)(o:UInt64)(m:LB):Option R_:=H.e P_ [r,r,r,r,r,r,r] ⟨[(3,.ptr 0 []),(4,.ptr 1 []),(6,.ptr 2 []),(7,.ptr 3 [])],[.box 272 (.agg [.own 4,vi k]),.box 268 (.agg [vi u,vi n,vq (Af a (Ap (Ae b:UInt64) (Cx a (GI.toZ (4:UInt64)).toNat))),vq o]),.box 272 (.agg [.nils,vi 0]),.box 268 (.agg [vi 0,vi 0,vq 0,vq 0]),Ab 5 m],[]⟩
def x8(b:UInt32)(f:Int)(a:UInt64)(k:Int)(m:LB)(n:Int)(o:UInt64):Option R_:=H.e P_ [r,r,r,r,r,r,l,(call 1 253),r,r,r,d,r] ⟨[(0,.ptr 0 []),(1,vu b),(4,.fn 309 [])],[.box 268 (.agg [vi f,vi n,vq a,vq o]),.box 272 (.agg [.own 4,vi k]),.box 272 (.agg [.nils,vi 0]),.box 268 (.agg [vi 0,vi 0,vq 0,vq 0]),Ab 5 m],[[(2,vu b),(3,.ptr 1 []),(4,.ptr 0 []),(6,.ptr 2 []),(7,.ptr 3 []),(65,vu b)]]⟩
theorem e10:x10=jF:=Eq.trans (b:=cG) F3 (by rw[Bi1];rfl)
theorem e8:x8=NS:=Eq.trans (b:=mJ (mX x10)) F3 (by simp only[e10]<;>rfl)
def k:KC_:=kk_ 181 H (u7 rM) func181 (λx=>Eq.trans (b:=u7 (nR (nL (mI x8))) x) F3 (by simp only[e8]<;>rfl))
end F181
namespace F183
abbrev R_:=LB
def H:=hd_ [.lf (.list (.list (.int .u8))) none] [Ob 5] (.seq .d (.seq .d (.cut [0,3] [] (.seq .d (.blk (.loop [0,3,9,10,11] [] .d))) (.cut [0,6] [⟨6,[],.own 5 (.int .u8)⟩] (.keep [0,3,6,23,24] true) (.cut [6] [] (.seq .d (.blk (.loop [6,25,26,27] [] .d))) .d))))) [] f183 true [(254,(.seq .d (.cut [0,1] [] .d .d)))]
def t14(a:List LB)(g:Int)(f:LB):S:=⟨[(6,.own 0),(25,.val (.list (.list (.int .u8))) a),(26,vi (Ac a)),(27,vi g)],[Ab 5 f],[]⟩
def z14:ZT_ R_:=H.i P_ [r,r,r,r,l,r,d]
def t9(a:List LB)(b h:Int):S:=⟨[(0,.val (.list (.list (.int .u8))) a),(3,vi b),(9,.val (.list (.list (.int .u8))) a),(10,vi (Ac a)),(11,vi h)],[],[]⟩
def z9:ZT_ R_:=H.i P_ [r,r,l,r,d]
def x14(a:List LB)(g:Int)(f:LB):Option R_:=H.e P_ [r,r,r,r,l,r,d] (t14 a g f)
theorem i14(a:List LB):∀(q:Nat) (g:Int) (f:LB),z14 q (t14 a g f)=Da a q g f:=
 ind (λ_ _=>by kernel_rfl) λq ih g f=>Eq.trans (b:=Ei Ab6 (λg f=>(z14 q) (t14 a g f)) a g f) F3 (by simp only[ih]<;>rfl)
theorem e14:x14=Nq:=by funext a g f;exact Eq.trans F3 ((i14 a Bm g f).trans (by rw[Al];rfl))
theorem i9(a:List LB):∀(q:Nat) (b h:Int),z9 q (t9 a b h)=Dh a q b h:=
 ind (λ_ _=>by kernel_rfl) λq ih b h=>Eq.trans (b:=Es (Nt (Nu (Ns x14))) (λb h=>(z9 q) (t9 a b h)) a b h) F3 (by simp only[e14,ih]<;>rfl)
def k:KC_:=kk_ 183 H Gg func183 (λx=>Eq.trans (b:=Wf (λa b h=>z9 Bm (t9 a b h)) x) F3 (by simp only[i9,Al]<;>rfl))
end F183
namespace F98
abbrev R_:=(LB×Int)
abbrev K_:=S->Option R_
def H:=hd_ [.agg [Si,Si],.lf (.vec 16 (.int .i32)) none,Sw] [Ob 5,Si] (.seq .d (.seq .d (.seq .d (.seq .d (.seq .d (.cut [11] [] (.seq .d (.blk (.loop [3,10,11,30,31,32] [⟨11,[0],.own 5 (.int .u8)⟩] (.seq .d (.seq .d (.cut [3,10,11,30,31,32] [] (.blk (.seq .d (.seq .d (.seq .d (.seq .d (.keep [3,10,11,14,30,31,32,59] true)))))) .d)))))) .d)))))) [F101.k,F102.k,F179.k,F180.k,F181.k,F183.k] f98 false [(182,(.seq .d (.seq .d (.blk (.loop [0,3,7,8] [] (.seq .d (.seq .d (.seq (.blk (.seq .d (.cut [0,3,4,7,8] [] .d (.seq .d (.cut [0,3,7,8] [] .d .d))))) .d))))))))]
def t44(b:LU)(a g h f:Int)(n:List (Int×Int×UInt64×UInt64×Unit))(m:LB)(o k:Int)(w:LB):S:=⟨[(0,.ptr 0 []),(3,.ptr 1 []),(7,vi h),(8,vi o)],[.box 272 (.agg [.own 7,vi k]),.box 272 (.agg [.own 6,vi h]),.box 30 (.agg [vi a,vi g]),.box 269 (.val (.vec 6 (.cons (.int .i64) (.cons (.int .i64) (.cons (.int .u64) (.cons (.int .u64) .nil))))) n),.box 272 (.agg [.own 6,vi h]),Av 175 b,Ab 5 m,Ab 5 w],[[(3,.ptr 2 []),(10,.ptr 3 []),(11,.ptr 0 []),(14,.ptr 4 []),(30,.own 5),(31,vi (Ac b)),(32,vi f),(59,.agg [.own 6,vi h])]]⟩
def z44(cN:K_):ZT_ R_:=H.i P_ [r,r,r,r,r,l,r,d,(lp cN),r,r,l,d,r,r,r,r,(call 1 182),r,r,d]
def t27(b:LU)(a g f:Int)(u:List (Int×Int×UInt64×UInt64×Unit))(v:Int)(p:LB):S:=⟨[(3,.ptr 0 []),(10,.ptr 1 []),(11,.ptr 2 []),(30,.own 3),(31,vi (Ac b)),(32,vi f)],[.box 30 (.agg [vi a,vi g]),.box 269 (.val (.vec 6 (.cons (.int .i64) (.cons (.int .i64) (.cons (.int .u64) (.cons (.int .u64) .nil))))) u),.box 272 (.agg [.own 4,vi v]),Av 175 b,Ab 5 p],[]⟩
def z27:ZT_ R_:=H.i P_ [r,r,r,r,r,l,r,d]
def x44(cN:K_)(b:LU)(a g h f:Int)(n:List (Int×Int×UInt64×UInt64×Unit))(m:LB)(o k:Int)(w:LB):Option R_:=H.e P_ [r,r,r,r,r,l,r,d,(lp cN),r,r,l,d,r,r,r,r,(call 1 182),r,r,d] (t44 b a g h f n m o k w)
theorem i44(cN:K_)(b:LU)(a g h f:Int)(n:List (Int×Int×UInt64×UInt64×Unit))(m:LB):∀(q:Nat) (o k:Int) (w:LB),z44 cN q (t44 b a g h f n m o k w)=Jn (λf u v p=>cN (t27 b a g f u v p)) b a g h f n m q o k w:=
 ind (λ_ _ _=>by kernel_rfl) λq ih o k w=>Eq.trans (b:=FB (DU (λo k w=>(z44 cN q) (t44 b a g h f n m o k w)) h b f a g n m) (QG (λf u v p=>cN (t27 b a g f u v p)) b a g) b a g h f n m o k w) F3 (by simp only[ih]<;>rfl)
theorem e44(cN:K_)(b:LU)(a g:Int):x44 cN b a g=Apo (λf u v p=>cN (t27 b a g f u v p)) b a g:=by funext h f n m o k w;exact Eq.trans F3 ((i44 cN b a g h f n m Bm o k w).trans (by rw[Al];rfl))
theorem i27(b:LU)(a g:Int):∀(q:Nat) (f:Int) (u:List (Int×Int×UInt64×UInt64×Unit)) (v:Int) (p:LB),z27 q (t27 b a g f u v p)=Mn b a g q f u v p:=
 ind (λ_ _ _ _=>by kernel_rfl) λq ih f u v p=>Eq.trans (b:=EI (x44 (z27 q) b a g) PU b a g f u v p) F3 (by simp only[e44,ih]<;>rfl)
def k:KC_:=kk_ 98 H (u4 KS) func98 (λx=>Eq.trans (b:=u4 (TB (λb a g f u v p=>z27 Bm (t27 b a g f u v p))) x) F3 (by simp only[i27,Al]<;>rfl))
end F98
namespace F113
def H:=hd_ [.agg [.agg [Si,Si],Si,Ss,Sb,Sw,.lf (.list (.list (.int .u8))) none,Sb,Sz,Si],Si] [.agg [.agg [Si,Si],Si,Ss,Ob 5,Ow 21,.lf (.list (.list (.int .u8))) (some 31),Ob 5,Sz,Si],Si] .d [] f113
def k:KC_:=kk_ 113 H (u11 EX) func113
end F113
namespace F47
abbrev R_:=(Int×Int×Int×LB×LB×LX×(List LB)×LB×Bool×Int×Int)
abbrev K_:=S->Option R_
def H:=hd_ [.agg [.agg [Si,Si],Si,Ss,Sb,Sw,.lf (.list (.list (.int .u8))) none,Sb,Sz,Si],Sb] [.agg [.agg [Si,Si],Si,Ss,Ob 5,Ow 21,.lf (.list (.list (.int .u8))) (some 31),Ob 5,Sz,Si],Si] (.seq .d (.seq .d (.seq .d (.seq .d (.seq .d (.cut [2,4] [] (.seq .d (.blk (.loop [2,4,8,9,27,28,29] [] (.seq .d (.seq .d (.cut [2,4,8,9,27,28,29] [] (.blk (.seq .d (.seq .d (.seq .d (.cut [2,4,8,9,12,27,28,29] [⟨2,[3],.own 5 (.int .u8)⟩,⟨2,[4],.own 21 (.int .i32)⟩,⟨9,[0,3],.own 5 (.int .u8)⟩,⟨9,[0,4],.own 21 (.int .i32)⟩] (.keep [2,4,8,9,12,27,28,29,45] true) .d))))) .d)))))) .d)))))) [F78.k,F96.k,F98.k,F107.k,F108.k,F110.k,F111.k,F113.k] f47 false [(109,(.seq .d (.cut [0,1] [] .d (.seq .d (.seq .d (.seq .d (.seq .d (.cut [2] [] (.keep [2,43] true) .d)))))))),(112,.d)]
def t14(p:Int)(n:LB)(a b g:Int)(f:LB)(h:Bool)(k o:Int)(m:LB)(u:Int)(y:LB)(w:LX)(v:List LB):S:=⟨[(2,.ptr 0 []),(4,.ptr 1 []),(8,vi p),(9,.fn 109 [.ptr 0 [],.ptr 2 []]),(27,vb n),(28,vi (Ac n)),(29,vi u)],[.box 90 (.agg [.agg [vi a,vi b],vi g,vs f,.own 3,.own 4,.own 5,.own 6,vt h,vi k]),.box 90 (.agg [.agg [vi 0,vi 0],vi 0,vs ([]:LB),.nils,.nils,.nils,.nils,vt false,vi 0]),.box 3 (vi o),Ab 5 y,Aw 21 w,.arr 31 (.list (.int .u8)) v,Ab 5 m],[]⟩
def z14:ZT_ R_:=H.i P_ [r,r,r,r,r,l,r,d]
theorem i14(p:Int)(n:LB)(a b g:Int)(f:LB)(h:Bool)(k o:Int)(m:LB):∀(q:Nat) (u:Int) (y:LB) (w:LX) (v:List LB),z14 q (t14 p n a b g f h k o m u y w v)=Mz p n a b g f h k o m q u y w v:=
 ind (λ_ _ _ _=>by kernel_rfl) λq ih u y w v=>Eq.trans (b:=MC (Vi (λu y w v=>(z14 q) (t14 p n a b g f h k o m u y w v)) p n a b g f h k o m) (Np (λu y w v=>(z14 q) (t14 p n a b g f h k o m u y w v)) p n a b g f h k o m) (XY (λu y w v=>(z14 q) (t14 p n a b g f h k o m u y w v)) p n a b g f h k o m) YT p n a b g f h k o m u y w v) F3 (by simp only[ih]<;>rfl)
def k:KC_:=kk_ 47 H (u11 Fx) func47 (λx=>Eq.trans (b:=u11 (PF (λp n a b g f h k o m u y w v=>z14 Bm (t14 p n a b g f h k o m u y w v))) x) F3 (by simp only[i14,Al]<;>rfl))
end F47
namespace F49
def H:=hd_ [.agg [.agg [Si,Si],Si,Ss,Sb,Sw,.lf (.list (.list (.int .u8))) none,Sb,Sz,Si],Si] [.agg [.agg [Si,Si],Si,Ss,Ob 5,Ow 21,.lf (.list (.list (.int .u8))) (some 31),Sb,Sz,Si],Ob 5,Si] .d [F115.k,F116.k,F117.k] f49
def k:KC_:=kk_ 49 H (u11 Zt) func49
end F49
namespace F190
def H:=hd_ [Ss] [Si,Si] .d [] f190
def k:KC_:=kk_ 190 H ZK func190
end F190
namespace F39
abbrev R_:=(LB×Int)
def H:=hd_ [.agg [Si,Si,Si,Si,Si]] [Ob 5,Si] (.seq .d (.seq .d (.seq .d (.cut [5] [] (.seq .d (.blk (.loop [5,31,32] [] .d))) .d)))) [F100.k,F101.k,F102.k] f39
def t4(b f g h k m:Int)(a:LB):S:=⟨[(5,.own 0),(31,.val (.vec 5 (.int .i64)) ([b,f,g,h,k]:LI)),(32,vi m)],[Ab 5 a],[]⟩
def z4:ZT_ R_:=H.i P_ [r,r,r,l,r,d]
theorem i4(b f g h k:Int):∀(q:Nat) (m:Int) (a:LB),z4 q (t4 b f g h k m a)=Tn b f g h k q m a:=
 ind (λ_ _=>by kernel_rfl) λq ih m a=>Eq.trans (b:=OZ PB (λm a=>(z4 q) (t4 b f g h k m a)) b f g h k m a) F3 (by simp only[ih]<;>rfl)
def k:KC_:=kk_ 39 H (u5 eJ) func39 (λx=>Eq.trans (b:=u5 (cL (λb f g h k m a=>z4 Bm (t4 b f g h k m a))) x) F3 (by simp only[i4,Al]<;>rfl))
end F39
namespace F41
abbrev R_:=(LB×Int)
abbrev K_:=S->Option R_
def H:=hd_ [Sl] [Ob 5,Si] (.seq .d (.seq .d (.seq .d (.seq .d (.cut [5,6] [] (.seq .d (.blk (.loop [5,6,17,18,19] [⟨5,[],.own 5 (.int .u8)⟩,⟨6,[0],.own 5 (.int .u8)⟩] (.seq .d (.seq .d (.cut [5,6,17,18,19] [] (.blk (.seq .d (.keep [5,6,8,17,18,19,23,24,25] true))) .d)))))) (.seq .d (.cut [5] [] (.keep [5,6,9,33,34,35] true) .d))))))) [F101.k,F102.k,F104.k] f41 false [(105,.d)]
def t8(a:LI)(f:Int)(b:LB):S:=⟨[(5,.ptr 0 []),(6,.fn 105 [.ptr 0 []]),(17,vl a),(18,vi (Ac a)),(19,vi f)],[.box 31 (.own 1),Ab 5 b],[]⟩
def z8:ZT_ R_:=H.i P_ [r,r,r,r,l,r,d]
theorem i8(a:LI):∀(q:Nat) (f:Int) (b:LB),z8 q (t8 a f b)=BE a q f b:=
 ind (λ_ _=>by kernel_rfl) λq ih f b=>Eq.trans (b:=VQ (bT (λf b=>(z8 q) (t8 a f b)) a) bL a f b) F3 (by simp only[ih]<;>rfl)
def k:KC_:=kk_ 41 H aZ func41 (λx=>Eq.trans (b:=gA (λa f b=>z8 Bm (t8 a f b)) x) F3 (by simp only[i8,Al]<;>rfl))
end F41
namespace F114
def XP(f g h:Int)(b k:LB)(m:LX)(a:List LB)(n:LB)(o:Bool)(p:Int)(u:LB)(v:LI):Option (LB×Int):=
(aZ v).bind λ(aa,y)=>
if(Bj y 0)then
some (([]:LB),y)
else
(λao:Option (LB×Int)=>
bo (
ao)) (
(Bt u aa).bind λab=>
(Gg a).bind λac=>
(Bt ab ac).bind λad=>
some (ad,0))
theorem Bhu: @XP= @OS:=by
  unfold XP OS;simp only[Tl,Jv,Kk]
abbrev R_:=(LB×Int)
def H:=hd_ [.agg [.agg [Si,Si],Si,Ss,Sb,Sw,.lf (.list (.list (.int .u8))) none,Sb,Sz,Si],Si] [Ob 5,Si] (.seq .d (.seq .d (.seq .d (.seq .d (.seq .d (.cut [2,8] [] .d (.seq .d (.cut [2,8,11] [] (.seq .d (.blk (.loop [2,8,11,58,59,60] [⟨11,[],.own 3 (.int .i64)⟩] .d))) (.seq .d (.seq .d (.seq (.mode false) .d))))))))))) [F39.k,F40.k,F41.k,F183.k,F190.k] f114
def t6(a:List LB)(f g h:Int)(b k:LB)(m:LX)(n:LB)(o:Bool)(p:Int)(u:LB)(w:Int)(v:LI):S:=⟨[(2,.ptr 0 []),(8,.own 1),(11,.own 2),(58,.val (.list (.list (.int .u8))) a),(59,vi (Ac a)),(60,vi w)],[.box 90 (.agg [.agg [vi f,vi g],vi h,vs b,vb k,vw m,.val (.list (.list (.int .u8))) a,vb n,vt o,vi p]),Ab 5 u,Ai 3 v],[]⟩
def z6:ZT_ R_:=H.i P_ [r,r,r,r,r,r,r,l,r,d]
def x8(f g h:Int)(b k:LB)(m:LX)(a:List LB)(n:LB)(o:Bool)(p:Int)(u:LB)(v:LI):Option R_:=H.e P_ [r,r,r,r,r,r,r,r] ⟨[(2,.ptr 0 []),(8,.own 1),(11,.own 2)],[.box 90 (.agg [.agg [vi f,vi g],vi h,vs b,vb k,vw m,.val (.list (.list (.int .u8))) a,vb n,vt o,vi p]),Ab 5 u,Ai 3 v],[]⟩
theorem e8:x8=FM:=Eq.trans (b:=XP) F3 (by rw[Bhu];rfl)
theorem i6(a:List LB)(f g h:Int)(b k:LB)(m:LX)(n:LB)(o:Bool)(p:Int)(u:LB):∀(q:Nat) (w:Int) (v:LI),z6 q (t6 a f g h b k m n o p u w v)=Xu a f g h b k m n o p u q w v:=
 ind (λ_ _=>by kernel_rfl) λq ih w v=>Eq.trans (b:=OT x8 (λw v=>(z6 q) (t6 a f g h b k m n o p u w v)) a f g h b k m n o p u w v) F3 (by simp only[e8,ih]<;>rfl)
def k:KC_:=kk_ 114 H (u11 eN) func114 (λx=>Eq.trans (b:=u11 (bG (PD (λa f g h b k m n o p u w v=>z6 Bm (t6 a f g h b k m n o p u w v)))) x) F3 (by simp only[i6,Al]<;>rfl))
end F114
namespace F48
abbrev R_:=(Int×Int×Int×LB×LB×LX×(List LB)×LB×Bool×Int×Int)
def H:=hd_ [.agg [.agg [Si,Si],Si,Ss,Sb,Sw,.lf (.list (.list (.int .u8))) none,Sb,Sz,Si]] [.agg [.agg [Si,Si],Si,Ss,Ob 5,Ow 21,.lf (.list (.list (.int .u8))) (some 31),Ob 5,Sz,Si],Si] (.seq .d (.seq .d (.seq .d (.seq .d (.seq .d (.cut [1,2,6] [] (.seq .d (.cond (.cut [1,2,6,7] [⟨1,[4],.own 21 (.int .i32)⟩] (.keep [1,2,6,7,38] true) .d) .d)) .d)))))) [F96.k,F98.k,F107.k,F111.k,F113.k,F114.k] f48 false [(112,.d)]
def k:KC_:=kk_ 48 H (c! Hm) func48
end F48
namespace F67
def QA(j29:Int->Int->Int->Int->LB->LB->Bool->Int->LB-> (List (Int×LB×Unit))->LB->LX-> (List LB)->Option (Int×Int×Int×LB×LB×LX×(List LB)×LB×Bool×Int×(List (Int×LB×Unit))×Int))(b:List (UInt8×Int×Unit))(aa:UInt8×Int×Unit)(a:LB)(ab y f g h:Int)(k p:LB)(u:LX)(v:List LB)(m:LB)(n:Bool)(o ac ad ae:Int)(af:LB)(ag:Bool)(ah:Int)(w:List (Int×LB×Unit))(ai:LB)(aj:LX)(ak:List LB)(al:LB):Option (Int×Int×Int×LB×LB×LX×(List LB)×LB×Bool×Int×(List (Int×LB×Unit))×Int):=
(λfj:Option (Int×Int×Int×LB×LB×LX×(List LB)×LB×Bool×Int×(List (Int×LB×Unit))×Int)=>
bo (
fj)) (
(Bo a (Du aa.2.1 (Ac a)) (Ac a)).bind λbm=>
(Bt w ([(ab,([]:LB),())]:List (Int×LB×Unit))).bind λbn=>
j29 y ac ad ae af al ag ah bm bn ai aj ak)
theorem Blf: @QA= @ID:=by
  unfold QA ID;simp only[Tl,Jv,Kk]
def PZ(j26:(UInt8×Int×Unit)->LB->Int->Int->Int->Int->Int->LB->LB->LX-> (List LB)->LB->Bool->Int->Int->Int->Int->LB->Bool->Int-> (List (Int×LB×Unit))->LB->LX-> (List LB)->LB->Option (Int×Int×Int×LB×LB×LX×(List LB)×LB×Bool×Int×(List (Int×LB×Unit))×Int))(j33:Int->Int->Int->Int->Int->LB->LB->LX-> (List LB)->LB->Bool->Int->LB->Int->Int->Int->LB->LB->Bool->Int->LB-> (List (Int×LB×Unit))->LB->LX-> (List LB)->Option (Int×Int×Int×LB×LB×LX×(List LB)×LB×Bool×Int×(List (Int×LB×Unit))×Int))(j34:Int->Int->Int->Int->Int->LB->LB->LX-> (List LB)->LB->Bool->Int->LB->Int->Int->Int->LB->Bool->Int-> (List (Int×LB×Unit))->LB->LX-> (List LB)->LB->Option (Int×Int×Int×LB×LB×LX×(List LB)×LB×Bool×Int×(List (Int×LB×Unit))×Int))(j29:Int->Int->Int->Int->LB->LB->Bool->Int->LB-> (List (Int×LB×Unit))->LB->LX-> (List LB)->Option (Int×Int×Int×LB×LB×LX×(List LB)×LB×Bool×Int×(List (Int×LB×Unit))×Int))(j31:(List (Int×LB×Unit))->Int->Int->Int->LB->LB->Bool->Int->LB->LB->LX-> (List LB)->Option (Int×Int×Int×LB×LB×LX×(List LB)×LB×Bool×Int×(List (Int×LB×Unit))×Int))(b:List (UInt8×Int×Unit))(y f g h:Int)(k m:LB)(n:Bool)(o:Int)(a:LB)(w:List (Int×LB×Unit))(p:LB)(u:LX)(v:List LB):Option (Int×Int×Int×LB×LB×LX×(List LB)×LB×Bool×Int×(List (Int×LB×Unit))×Int):=
if(Cj y (Ac b))then
(Aj b y).bind λaa=>
if(geq aa.1 1)then
(λbp:Option (Int×Int×Int×LB×LB×LX×(List LB)×LB×Bool×Int×(List (Int×LB×Unit))×Int)=>
(λbs:Option (Int×Int×Int×LB×LB×LX×(List LB)×LB×Bool×Int×(List (Int×LB×Unit))×Int)=>
(λbt:Option (Int×Int×Int×LB×LB×LX×(List LB)×LB×Bool×Int×(List (Int×LB×Unit))×Int)=>
both (
bs) [
bs,
(Bo a 0 (Du aa.2.1 (Ac a))).bind λam=>
(λbu:Option (Int×Int×Int×LB×LB×LX×(List LB)×LB×Bool×Int×(List (Int×LB×Unit))×Int)=>
(λbv:Option (Int×Int×Int×LB×LB×LX×(List LB)×LB×Bool×Int×(List (Int×LB×Unit))×Int)=>
(λbw:Option (Int×Int×Int×LB×LB×LX×(List LB)×LB×Bool×Int×(List (Int×LB×Unit))×Int)=>
both (
bw) [
bw,
bv]) (
both (
bv) [
bu])) (
bo (
bu))) (
(Fx f g h k p u v m n o am).bind λ(ac,ad,ae,af,ai,aj,ak,al,ag,ah,ab)=>
j26 aa a ab y f g h k p u v m n o ac ad ae af ag ah w ai aj ak al),
both (
bt) [
bt,
(Bo a 0 (Du aa.2.1 (Ac a))).bind λam=>
(λfk:Option (Int×Int×Int×LB×LB×LX×(List LB)×LB×Bool×Int×(List (Int×LB×Unit))×Int)=>
bo (
fk)) (
(Fx f g h k p u v m n o am).bind λ(ac,ad,ae,af,ai,aj,ak,al,ag,ah,ab)=>
j26 aa a ab y f g h k p u v m n o ac ad ae af ag ah w ai aj ak al)]]) (
bo (
bp))) (
both (
both (
(Bo a 0 (Du aa.2.1 (Ac a))).bind λam=>
(λfl:Option (Int×Int×Int×LB×LB×LX×(List LB)×LB×Bool×Int×(List (Int×LB×Unit))×Int)=>
bo (
fl)) (
(Fx f g h k p u v m n o am).bind λ(ac,ad,ae,af,ai,aj,ak,al,ag,ah,ab)=>
j26 aa a ab y f g h k p u v m n o ac ad ae af ag ah w ai aj ak al)) [
bp]) [
(Bo a 0 (Du aa.2.1 (Ac a))).bind λam=>
(λbx:Option (Int×Int×Int×LB×LB×LX×(List LB)×LB×Bool×Int×(List (Int×LB×Unit))×Int)=>
both (
bo (
bx)) [
bx]) (
(Fx f g h k p u v m n o am).bind λ(ac,ad,ae,af,ai,aj,ak,al,ag,ah,ab)=>
j26 aa a ab y f g h k p u v m n o ac ad ae af ag ah w ai aj ak al),
bo (
bp)])) (
(Bo a 0 (Du aa.2.1 (Ac a))).bind λam=>
(Fx f g h k p u v m n o am).bind λ(ac,ad,ae,af,ai,aj,ak,al,ag,ah,ab)=>
j26 aa a ab y f g h k p u v m n o ac ad ae af ag ah w ai aj ak al)
else
if(geq aa.1 2)then
(λbz:Option (Int×Int×Int×LB×LB×LX×(List LB)×LB×Bool×Int×(List (Int×LB×Unit))×Int)=>
(λda:Option (Int×Int×Int×LB×LB×LX×(List LB)×LB×Bool×Int×(List (Int×LB×Unit))×Int)=>
(λdb:Option (Int×Int×Int×LB×LB×LX×(List LB)×LB×Bool×Int×(List (Int×LB×Unit))×Int)=>
both (
db) [
db,
da]) (
both (
da) [
bz])) (
bo (
bz))) (
(Zt f g h k p u v m n o aa.2.1).bind λ(ao,ap,aq,ar,ay,az,ba,au,av,aw,ax,an)=>
j33 an y f g h k p u v m n o a ao ap aq ar au av aw ax w ay az ba)
else
if(geq aa.1 3)then
(λdc:Option (Int×Int×Int×LB×LB×LX×(List LB)×LB×Bool×Int×(List (Int×LB×Unit))×Int)=>
(λdd:Option (Int×Int×Int×LB×LB×LX×(List LB)×LB×Bool×Int×(List (Int×LB×Unit))×Int)=>
(λde:Option (Int×Int×Int×LB×LB×LX×(List LB)×LB×Bool×Int×(List (Int×LB×Unit))×Int)=>
both (
de) [
de,
dd]) (
both (
dd) [
dc])) (
bo (
dc))) (
(Hm f g h k p u v m n o).bind λ(bc,bd,be,bf,bi,bj,bk,bl,bg,bh,bb)=>
j34 bb y f g h k p u v m n o a bc bd be bf bg bh w bi bj bk bl)
else
j29 y f g h k m n o a w p u v
else
j31 w f g h k m n o a p u v
theorem Blb: @PZ= @Yp:=by
  unfold PZ Yp
  try simp only[Tl,Jv,Kk]
  all_goals
    repeat (refine funext λ_=>?_)
    repeat' first
      |with_reducible rfl
      |with_reducible refine El ?_ ?_
      |with_reducible refine Ej ?_ ?_ ?_
      |with_reducible refine Em ?_ ?_ ?_ ?_
      |((with_reducible refine Gs ?_ ?_);focus (intro h;first|(subst h;rfl)|(simp only[h];rfl)|(simp[Bt,Ac,h];done)))
      |with_reducible refine Gh λx=>?_
      |with_reducible refine Lw (λ_=>?_) (λ_=>?_)
      |(refine Cq (λh=>by simp only[h,Gm,Bw,Bu,ite_self]) (λx h=>?_);(try simp only[h,Bw]))
      |(refine Dr (λh=>?_) (λh=>?_)<;>simp only[h,if_true,if_false,Bool.false_eq_true])
abbrev R_:=(Int×Int×Int×LB×LB×LX×(List LB)×LB×Bool×Int×(List (Int×LB×Unit))×Int)
abbrev K_:=S->Option R_
def H:=hd_ [.agg [Si,Si],Si,Ss,Sb,.lf (.list (.cons (.int .u8) (.cons (.int .i64) .nil))) none] [.agg [.agg [Si,Si],Si,Ss,Ob 5,Ow 21,.lf (.list (.list (.int .u8))) (some 31),Sb,Sz,Si],.lf (.list (.cons (.int .i64) (.cons (.list (.int .u8)) .nil))) (some 162),Si] (.seq .d (.seq .d (.seq .d (.seq .d (.seq .d (.cut [10,16,17] [] (.keep [10,16,17,41] true) .d)))))) [F46.k,F47.k,F48.k,F49.k,F93.k] f67 false [(144,(.seq .d (.seq .d (.seq .d (.cut [6] [] (.seq .d (.blk (.loop [5,6,19,20,21] [⟨5,[0,0,6],.ro (.int .u8)⟩,⟨6,[],.own 162 (.cons (.int .i64) (.cons (.list (.int .u8)) .nil))⟩] (.seq .d (.seq .d (.cut [5,6,19,20,21] [⟨5,[0,0,6],.ro (.int .u8)⟩] (.blk (.seq .d (.seq .d (.seq .d (.cond (.keep [5,6,19,20,21,33,37,38,39] true) .d))))) .d)))))) .d))))),(219,(.seq .d (.seq .d (.cut [0,1,4,5,6] [] (.mode false) (.seq (.mode false) .d))))),(220,(.seq .d (.cut [0,4,5,6,7] [] (.mode false) .d))),(221,(.seq .d (.cut [0,4,5,6] [] (.mode false) .d)))]
def t17(b:List (UInt8×Int×Unit))(y f g h:Int)(k m:LB)(n:Bool)(o:Int)(a:LB)(w:List (Int×LB×Unit))(p:LB)(u:LX)(v:List LB):S:=⟨[(5,.mp [1,2,3] [.bfn 219 [.ptr 0 []],.bfn 220 [.ptr 0 []],.bfn 221 [.ptr 0 []]]),(6,.own 1),(19,.val (.list (.cons (.int .u8) (.cons (.int .i64) .nil))) b),(20,vi (Ac b)),(21,vi y)],[.box 221 (.agg [.agg [.agg [vi f,vi g],vi h,vs k,.own 3,.own 4,.own 5,vb m,vt n,vi o],.fn 47 [],.fn 48 [],.fn 49 [],vb a]),.arr 162 (.cons (.int .i64) (.cons (.list (.int .u8)) .nil)) w,.box 90 (.agg [.agg [vi 0,vi 0],vi 0,vs ([]:LB),.nils,.nils,.nils,.nils,vt false,vi 0]),Ab 5 p,Aw 21 u,.arr 31 (.list (.int .u8)) v],[[(10,.ptr 2 []),(16,.ptr 0 [])]]⟩
def z17:ZT_ R_:=H.i P_ [r,r,r,r,r,l,(call 2 144),r,r,r,l,r,d]
def x26(Q6:K_)(b:List (UInt8×Int×Unit))(aa:UInt8×Int×Unit)(a:LB)(ab y f g h:Int)(k p:LB)(u:LX)(v:List LB)(m:LB)(n:Bool)(o ac ad ae:Int)(af:LB)(ag:Bool)(ah:Int)(w:List (Int×LB×Unit))(ai:LB)(aj:LX)(ak:List LB)(al:LB):Option R_:=H.e P_ [r,r,r,r,r,l,(call 2 144),r,r,r,l,r,d,(lp Q6),r,r,l,d,r,r,r,l,(call 4 219),r,r,r] ⟨[(0,.ptr 0 []),(1,vi (Du aa.2.1 (Ac a))),(4,.ptr 1 []),(5,.ptr 2 []),(6,vi ab)],[.box 221 (.agg [.agg [.agg [vi f,vi g],vi h,vs k,vb p,vw u,.val (.list (.list (.int .u8))) v,vb m,vt n,vi o],.fn 47 [],.fn 48 [],.fn 49 [],vb a]),.box 162 (.agg [vi 0,.nils]),.box 90 (.agg [.agg [vi ac,vi ad],vi ae,vs af,.own 5,.own 6,.own 7,.own 8,vt ag,vi ah]),.arr 162 (.cons (.int .i64) (.cons (.list (.int .u8)) .nil)) w,.box 90 (.agg [.agg [vi 0,vi 0],vi 0,vs ([]:LB),.nils,.nils,.nils,.nils,vt false,vi 0]),Ab 5 ai,Aw 21 aj,.arr 31 (.list (.int .u8)) ak,Ab 5 al],[[(5,.mp [1,2,3] [.bfn 219 [.ptr 0 []],.bfn 220 [.ptr 0 []],.bfn 221 [.ptr 0 []]]),(6,.own 3),(19,.val (.list (.cons (.int .u8) (.cons (.int .i64) .nil))) b),(20,vi (Ac b)),(21,vi y),(33,.own 3)],[(10,.ptr 4 []),(16,.ptr 0 [])]]⟩
theorem e26(Q6:K_)(b:List (UInt8×Int×Unit)):x26 Q6 b=TQ (λy f g h k m n o a w p u v=>Q6 (t17 b y f g h k m n o a w p u v)) b:=Eq.trans (b:=QA (Ik (λy f g h k m n o a w p u v=>Q6 (t17 b y f g h k m n o a w p u v)) b) b) F3 (by rw[Blf];rfl)
theorem i17(b:List (UInt8×Int×Unit)):∀(q:Nat) (y f g h:Int) (k m:LB) (n:Bool) (o:Int) (a:LB) (w:List (Int×LB×Unit)) (p:LB) (u:LX) (v:List LB),z17 q (t17 b y f g h k m n o a w p u v)=Il b q y f g h k m n o a w p u v:=
 ind (λ_ _ _ _ _ _ _ _ _ _ _ _ _=>by kernel_rfl) λq ih y f g h k m n o a w p u v=>Eq.trans (b:=PZ (x26 (z17 q) b) (VM (λy f g h k m n o a w p u v=>(z17 q) (t17 b y f g h k m n o a w p u v)) b) (UR (λy f g h k m n o a w p u v=>(z17 q) (t17 b y f g h k m n o a w p u v)) b) (Ik (λy f g h k m n o a w p u v=>(z17 q) (t17 b y f g h k m n o a w p u v)) b) VN b y f g h k m n o a w p u v) F3 (by rw[Blb];simp only[e26,ih]<;>rfl)
def k:KC_:=kk_ 67 H (u6 FT) func67 (λx=>Eq.trans (b:=u6 (CX (λb y f g h k m n o a w p u v=>z17 Bm (t17 b y f g h k m n o a w p u v))) x) F3 (by simp only[i17,Al]<;>rfl))
end F67
namespace F68
abbrev R_:=Int
def H:=hd_ [.agg [.agg [Si,Si],Si,Ss,Sb,Sw,.lf (.list (.list (.int .u8))) none,Sb,Sz,Si]] [Si] (.seq .d (.seq .d (.cut [3] [] (.seq .d (.blk (.loop [3,19,20,21] [] .d))) .d))) [] f68
def t4(a:List LB)(b f:Int):S:=⟨[(3,vi b),(19,.val (.list (.list (.int .u8))) a),(20,vi (Ac a)),(21,vi f)],[],[]⟩
def z4:ZT_ R_:=H.i P_ [r,r,l,r,d]
theorem i4(a:List LB):∀(q:Nat) (b f:Int),z4 q (t4 a b f)=Xp a q b f:=
 ind (λ_ _=>by kernel_rfl) λq ih b f=>Eq.trans (b:=OY Bdd (λb f=>(z4 q) (t4 a b f)) a b f) F3 (by simp only[ih]<;>rfl)
def k:KC_:=kk_ 68 H (c! dR) func68 (λx=>Eq.trans (b:=c! (bX (λa b f=>z4 Bm (t4 a b f))) x) F3 (by simp only[i4,Al]<;>rfl))
end F68
namespace F19
abbrev R_:=(Int×Int)
abbrev K_:=S->Option R_
def H:=hd_ [.agg [Si,Si],Si,Ss,Sb,.lf (.list (.cons (.int .u8) (.cons (.int .i64) .nil))) none] [Si,Si] (.seq .d (.seq .d (.seq .d (.seq .d (.seq .d (.cut [17] [] (.seq .d (.blk (.loop [3,15,17,44,45,46] [⟨15,[6],.ro (.int .u8)⟩] (.seq .d (.seq .d (.seq (.blk (.seq .d (.cut [3,15,17,44,45,46] [⟨15,[6],.ro (.int .u8)⟩] (.seq .d (.blk (.seq .d (.cond (.seq .d (.seq (.mode false) .d)) .d)))) .d))) .d)))))) .d)))))) [F46.k,F47.k,F48.k,F49.k,F67.k,F68.k] f19
def t7(a:List (UInt8×Int×Unit))(g:LB)(b f h k m:Int)(n o:LB)(p:Bool)(u:Int)(v:LB)(w:LX)(y:List LB):S:=⟨[(3,vb g),(15,.ptr 0 []),(17,vi b),(44,.val (.list (.cons (.int .u8) (.cons (.int .i64) .nil))) a),(45,vi (Ac a)),(46,vi f)],[.box 90 (.agg [.agg [vi h,vi k],vi m,vs n,.own 1,.own 2,.own 3,vb o,vt p,vi u]),Ab 5 v,Aw 21 w,.arr 31 (.list (.int .u8)) y],[]⟩
def z7:ZT_ R_:=H.i P_ [r,r,r,r,r,l,r,d]
theorem i7(a:List (UInt8×Int×Unit)):∀(q:Nat) (g:LB) (b f h k m:Int) (n o:LB) (p:Bool) (u:Int) (v:LB) (w:LX) (y:List LB),z7 q (t7 a g b f h k m n o p u v w y)=Jt a q g b f h k m n o p u v w y:=
 ind (λ_ _ _ _ _ _ _ _ _ _ _ _ _=>by kernel_rfl) λq ih g b f h k m n o p u v w y=>Eq.trans (b:=Xo (MB (λg b f h k m n o p u v w y=>(z7 q) (t7 a g b f h k m n o p u v w y)) a) Axf a g b f h k m n o p u v w y) F3 (by simp only[ih]<;>rfl)
def k:KC_:=kk_ 19 H (u6 LN) func19 (λx=>Eq.trans (b:=u6 (FQ (λa g b f h k m n o p u v w y=>z7 Bm (t7 a g b f h k m n o p u v w y))) x) F3 (by simp only[i7,Al]<;>rfl))
end F19
namespace F193
def H:=hd_ [Si] [Si,Si] .d [] f193
def k:KC_:=kk_ 193 H Fe func193
end F193
namespace F118
def H:=hd_ [.agg [Si,Si],Si,Ss] [Si] .d [F88.k,F193.k] f118
def k:KC_:=kk_ 118 H (u4 Dw) func118
end F118
namespace F70
def H:=hd_ [.agg [Si,Si],Si,Ss] [.agg [.agg [Si,Si],Si,Ss,Ob 5,Ow 21,.lf (.list (.list (.int .u8))) (some 31),Ob 5,Sz,Si],Si] .d [F118.k] f70
def k:KC_:=kk_ 70 H (u4 Qo) func70
end F70
namespace F194
def H:=hd_ [.agg [.agg [Si,Si],Si,Ss,Sb,Sw,.lf (.list (.list (.int .u8))) none,Sb,Sz,Si]] [Si] .d [F193.k] f194
def k:KC_:=kk_ 194 H (c! Lh) func194
end F194
namespace F148
def H:=hd_ [.agg [.agg [Si,Si],Si,Ss,Sb,Sw,.lf (.list (.list (.int .u8))) none,Sb,Sz,Si]] [Si] .d [F194.k] f148
def k:KC_:=kk_ 148 H (c! Eu) func148
end F148
namespace F195
def H:=hd_ [.agg [.agg [Si,Si],Si,Ss,Sb,Sw,.lf (.list (.list (.int .u8))) none,Sb,Sz,Si],Si,Si] [Sz] .d [] f195
def k:KC_:=kk_ 195 H (qz Ti) func195
end F195
namespace F119
abbrev R_:=Bool
def H:=hd_ [.agg [.agg [Si,Si],Si,Ss,Sb,Sw,.lf (.list (.list (.int .u8))) none,Sb,Sz,Si]] [Sz] (.seq .d (.seq .d (.cut [1,3] [] .d (.seq .d (.cut [1,3,4] [] .d (.cut [1,3] [] .d (.cut [] [] (.seq .d (.blk (.loop [1,3,5] [] .d))) .d))))))) [F58.k,F89.k,F148.k,F194.k,F195.k] f119
def t10(h f g n:Int)(o k:LB)(b:LX)(a:List LB)(m:LB)(p:Bool)(u v:Int):S:=⟨[(1,.ptr 0 []),(3,vi h),(5,vi v)],[.box 90 (.agg [.agg [vi f,vi g],vi n,vs o,vb k,vw b,.val (.list (.list (.int .u8))) a,vb m,vt p,vi u])],[]⟩
def z10:ZT_ R_:=H.i P_ [r,r,r,r,r,r,l,r,d]
def x7(h f g n:Int)(o k:LB)(b:LX)(a:List LB)(m:LB)(p:Bool)(u:Int):Option R_:=H.e P_ [r,r,r] ⟨[(1,.ptr 0 []),(3,vi h)],[.box 90 (.agg [.agg [vi f,vi g],vi n,vs o,vb k,vw b,.val (.list (.list (.int .u8))) a,vb m,vt p,vi u])],[]⟩
theorem i10(h f g n:Int)(o k:LB)(b:LX)(a:List LB)(m:LB)(p:Bool)(u:Int):∀(q:Nat) (v:Int),z10 q (t10 h f g n o k b a m p u v)=Hn h f g n o k b a m p u q v:=
 ind (λ_=>by kernel_rfl) λq ih v=>Eq.trans (b:=Rm Ac3 (λv=>(z10 q) (t10 h f g n o k b a m p u v)) h f g n o k b a m p u v) F3 (by simp only[ih]<;>rfl)
theorem e7:x7=BM:=Eq.trans (b:=BJ (BS (CI (λh f g n o k b a m p u v=>z10 Bm (t10 h f g n o k b a m p u v))))) F3 (by simp only[i10,Al]<;>rfl)
def k:KC_:=kk_ 119 H (c! Xz) func119 (λx=>Eq.trans (b:=c! (CR x7) x) F3 (by simp only[e7]<;>rfl))
end F119
namespace F50
def H:=hd_ [.agg [.agg [Si,Si],Si,Ss,Sb,Sw,.lf (.list (.list (.int .u8))) none,Sb,Sz,Si]] [Si] .d [F118.k,F119.k] f50
def k:KC_:=kk_ 50 H (c! Hc) func50
end F50
namespace F145
abbrev R_:=(Int×Int×Int×LB×LB×LX×(List LB)×LB×Bool×Int)
def H:=hd_ [.agg [.agg [Si,Si],Si,Ss,Sb,Sw,.lf (.list (.list (.int .u8))) none,Sb,Sz,Si]] [.agg [.agg [Si,Si],Si,Ss,Ob 5,Ow 21,.lf (.list (.list (.int .u8))) (some 31),Ob 5,Sz,Si]] (.seq .d (.seq .d (.seq .d (.seq .d (.seq .d (.cut [1,2,3] [] (.seq .d (.blk (.loop [1,2,3,4] [⟨3,[],.own 31 (.list (.int .u8))⟩] .d))) .d)))))) [] f145
def t4(b f g:Int)(h:LB)(a:List LB)(k:Bool)(m:Int)(n:LB)(o:LX)(p:LB)(v:Int)(u:List LB):S:=⟨[(1,.ptr 0 []),(2,.ptr 1 []),(3,.own 2),(4,vi v)],[.box 90 (.agg [.agg [vi b,vi f],vi g,vs h,.own 3,.own 4,.val (.list (.list (.int .u8))) a,.own 5,vt k,vi m]),.box 90 (.agg [.agg [vi 0,vi 0],vi 0,vs ([]:LB),.nils,.nils,.nils,.nils,vt false,vi 0]),.arr 31 (.list (.int .u8)) u,Ab 5 n,Aw 21 o,Ab 5 p],[]⟩
def z4:ZT_ R_:=H.i P_ [r,r,r,r,r,l,r,d]
theorem i4(b f g:Int)(h:LB)(a:List LB)(k:Bool)(m:Int)(n:LB)(o:LX)(p:LB):∀(q:Nat) (v:Int) (u:List LB),z4 q (t4 b f g h a k m n o p v u)=Na b f g h a k m n o p q v u:=
 ind (λ_ _=>by kernel_rfl) λq ih v u=>Eq.trans (b:=Zb Al4 (λv u=>(z4 q) (t4 b f g h a k m n o p v u)) b f g h a k m n o p v u) F3 (by simp only[ih]<;>rfl)
def k:KC_:=kk_ 145 H (c! Sf) func145 (λx=>Eq.trans (b:=c! (JR (λb f g h a k m n o p v u=>z4 Bm (t4 b f g h a k m n o p v u))) x) F3 (by simp only[i4,Al]<;>rfl))
end F145
namespace F146
def H:=hd_ [.agg [.agg [Si,Si],Si,Ss,Sb,Sw,.lf (.list (.list (.int .u8))) none,Sb,Sz,Si]] [Si] .d [] f146
def k:KC_:=kk_ 146 H (c! Jk) func146
end F146
namespace F149
def H:=hd_ [.agg [.agg [Si,Si],Si,Ss,Sb,Sw,.lf (.list (.list (.int .u8))) none,Sb,Sz,Si],Si] [.agg [.agg [Si,Si],Si,Ss,Ob 5,Ow 21,.lf (.list (.list (.int .u8))) (some 31),Ob 5,Sz,Si]] .d [] f149
def k:KC_:=kk_ 149 H (u11 Kw) func149
end F149
namespace F222
abbrev R_:=(LX×Int)
abbrev K_:=S->Option R_
def H:=hd_ [Si,Sb] [Ow 21,Si] (.seq .d (.seq .d (.seq .d (.seq .d (.seq .d (.seq .d (.seq .d (.cut [8] [] (.seq .d (.blk (.loop [0,1,6,7,8,9] [⟨8,[],.own 21 (.int .i32)⟩] (.seq .d (.cut [0,1,6,7,8,9] [] (.blk (.seq .d (.cut [0,1,6,7,8,9,10] [] (.seq .d (.blk (.loop [0,1,6,7,8,9,10,11] [] .d))) .d))) .d))))) .d)))))))) [F166.k] f222
def t25(a:Int)(b:LB)(f g:Int)(h:LX)(k m:Int):S:=⟨[(0,vi a),(1,vb b),(6,vi f),(7,vi (Bs a (8:Int))),(8,.own 0),(9,vi g),(10,vi k),(11,vi m)],[Aw 21 h],[]⟩
def z25(Me:K_):ZT_ R_:=H.i P_ [r,r,r,r,r,r,r,l,r,d,(lp Me),r,l,d,r,l,r,d]
def t16(a:Int)(b:LB)(f g:Int)(h:LX):S:=⟨[(0,vi a),(1,vb b),(6,vi f),(7,vi (Bs a (8:Int))),(8,.own 0),(9,vi g)],[Aw 21 h],[]⟩
def z16:ZT_ R_:=H.i P_ [r,r,r,r,r,r,r,l,r,d]
def x25(Me:K_)(a:Int)(b:LB)(f g:Int)(h:LX)(k m:Int):Option R_:=H.e P_ [r,r,r,r,r,r,r,l,r,d,(lp Me),r,l,d,r,l,r,d] (t25 a b f g h k m)
theorem i25(Me:K_)(a:Int)(b:LB)(f g:Int)(h:LX):∀(q:Nat) (k m:Int),z25 Me q (t25 a b f g h k m)=Ek (λg h=>Me (t16 a b f g h)) a b f g h q k m:=
 ind (λ_ _=>by kernel_rfl) λq ih k m=>Eq.trans (b:=Rl (Mc (λg h=>Me (t16 a b f g h)) a b f) (λk m=>(z25 Me q) (t25 a b f g h k m)) a b f g h k m) F3 (by simp only[ih]<;>rfl)
theorem e25(Me:K_)(a:Int)(b:LB)(f:Int):x25 Me a b f=Zu (λg h=>Me (t16 a b f g h)) a b f:=by funext g h k m;exact Eq.trans F3 ((i25 Me a b f g h Bm k m).trans (by rw[Al];rfl))
theorem i16(a:Int)(b:LB)(f:Int):∀(q:Nat) (g:Int) (h:LX),z16 q (t16 a b f g h)=Dy a b f q g h:=
 ind (λ_ _=>by kernel_rfl) λq ih g h=>Eq.trans (b:=Rg (x25 (z16 q) a b f) Abt a b f g h) F3 (by simp only[e25,ih]<;>rfl)
def k:KC_:=kk_ 222 H (u2 Zh) func222 (λx=>Eq.trans (b:=u2 (BH (λa b f g h=>z16 Bm (t16 a b f g h))) x) F3 (by simp only[i16,Al]<;>rfl))
end F222
namespace F30
def H:=hd_ [.agg [Si,Si],Sw] [Si] .d [F88.k,F89.k] f30
def k:KC_:=kk_ 30 H (u3 Wc) func30
end F30
namespace F389
abbrev R_:=LX
def H:=hd_ [Sw] [Ow 21] (.seq .d (.seq .d (.seq .d (.cut [3] [] (.seq .d (.blk (.loop [0,3,4,5] [⟨3,[],.own 21 (.int .i32)⟩] .d))) .d)))) [F380.k] f389
def t4(a:LX)(b:Int)(f:LX):S:=⟨[(0,vw a),(3,.own 0),(4,vi (Ac a)),(5,vi b)],[Aw 21 f],[]⟩
def z4:ZT_ R_:=H.i P_ [r,r,r,l,r,d]
theorem i4(a:LX):∀(q:Nat) (b:Int) (f:LX),z4 q (t4 a b f)=Lp a q b f:=
 ind (λ_ _=>by kernel_rfl) λq ih b f=>Eq.trans (b:=Xa Aju (λb f=>(z4 q) (t4 a b f)) a b f) F3 (by simp only[ih]<;>rfl)
def k:KC_:=kk_ 389 H PR func389 (λx=>Eq.trans (b:=Afz (λa b f=>z4 Bm (t4 a b f)) x) F3 (by simp only[i4,Al]<;>rfl))
end F389
namespace F364
abbrev R_:=(LX×Int)
def H:=hd_ [Si,Sw] [Ow 21,Si] (.seq .d (.seq .d (.seq .d (.cut [6] [] (.seq .d (.blk (.loop [0,1,6,7] [⟨6,[],.own 21 (.int .i32)⟩] .d))) .d)))) [F382.k,F389.k] f364
def t4(a:Int)(b:LX)(g:Int)(f:LX):S:=⟨[(0,vi a),(1,vw b),(6,.own 0),(7,vi g)],[Aw 21 f],[]⟩
def z4:ZT_ R_:=H.i P_ [r,r,r,l,r,d]
theorem i4(a:Int)(b:LX):∀(q:Nat) (g:Int) (f:LX),z4 q (t4 a b g f)=Uf a b q g f:=
 ind (λ_ _=>by kernel_rfl) λq ih g f=>Eq.trans (b:=NL Amz (λg f=>(z4 q) (t4 a b g f)) a b g f) F3 (by simp only[ih]<;>rfl)
def k:KC_:=kk_ 364 H (u2 LZ) func364 (λx=>Eq.trans (b:=u2 (MQ (λa b g f=>z4 Bm (t4 a b g f))) x) F3 (by simp only[i4,Al]<;>rfl))
end F364
namespace F365
abbrev R_:=LX
def H:=hd_ [Sw,Si,Si] [Ow 21] (.seq .d (.seq .d (.cut [7] [] (.seq .d (.blk (.loop [0,2,7,8] [⟨7,[],.own 21 (.int .i32)⟩] .d))) .d))) [] f365
def t4(a:LX)(f g:Int)(b:LX):S:=⟨[(0,vw a),(2,vi f),(7,.own 0),(8,vi g)],[Aw 21 b],[]⟩
def z4:ZT_ R_:=H.i P_ [r,r,l,r,d]
theorem i4(a:LX)(f:Int):∀(q:Nat) (g:Int) (b:LX),z4 q (t4 a f g b)=Iy a f q g b:=
 ind (λ_ _=>by kernel_rfl) λq ih g b=>Eq.trans (b:=Sj Aci (λg b=>(z4 q) (t4 a f g b)) a f g b) F3 (by simp only[ih]<;>rfl)
def k:KC_:=kk_ 365 H (u3 Yq) func365 (λx=>Eq.trans (b:=u3 (CP (λa f g b=>z4 Bm (t4 a f g b))) x) F3 (by simp only[i4,Al]<;>rfl))
end F365
namespace F390
def H:=hd_ [.agg [Si,.lf (.vec 16 (.int .i32)) none,.lf (.vec 16 (.int .i32)) none],Sx] [Sx,.agg [Si,.lf (.vec 16 (.int .i32)) none,.lf (.vec 16 (.int .i32)) none]] .d [F380.k,F399.k,F400.k,F401.k] f390
def k:KC_:=kk_ 390 H (u4 IM) func390
end F390
namespace F366
def H:=hd_ [.agg [Si,Sx,.agg [Si,.lf (.vec 16 (.int .i32)) none,.lf (.vec 16 (.int .i32)) none]],Sx] [Sx,.agg [Si,Sx,.agg [Si,.lf (.vec 16 (.int .i32)) none,.lf (.vec 16 (.int .i32)) none]]] .d [F380.k,F381.k,F390.k] f366
def k:KC_:=kk_ 366 H (u6 Zf) func366
end F366
namespace F367
def H:=hd_ [Sx] [Su] .d [] f367
def k:KC_:=kk_ 367 H IY func367
end F367
namespace F334
def CW(j22:Int->Int32->LU->Int->Int32->Int->LX->LX->Int->Int32->Int->LX->LX->Option (LU))(j24:Int->LU->Option (LU))(a b:Int)(f g:LX)(h:Int)(k:LX)(m:Int)(n:LU)(p:Int)(u:Int32)(v:Int)(w y:LX):Option (LU):=
if(Cj m (Ac k))then
(Aj k m).bind λ_=>
(Aj k m).bind λah=>
(λaq:Option (LU)=>
bo (
aq)) (
(Zf p u v w y ah).bind λ(aa,ab,ac,ad,ae,af)=>
j22 m aa n p u v w y ab ac ad ae af)
else
j24 h n
theorem Bix: @CW= @Pd:=by
  unfold CW Pd;simp only[Tl,Jv,Kk]
abbrev R_:=LU
abbrev K_:=S->Option R_
def H:=hd_ [.agg [Si,Si],.lf (.vec 16 (.int .i32)) none,Sw] [Ov 175] (.seq .d (.seq .d (.seq .d (.cut [9] [] (.seq .d (.blk (.loop [3,4,7,9,10] [] (.seq .d (.cut [3,4,7,9,10] [] (.blk (.seq .d (.seq .d (.seq .d (.blk (.loop [3,4,7,9,10,11,13,14] [] (.seq .d (.seq (.blk (.cut [3,4,7,9,10,11,13,14,15,16] [] .d .d)) .d)))))))) .d))))) .d)))) [F355.k,F364.k,F365.k,F366.k,F367.k] f334
def t20(a b:Int)(f g:LX)(h:Int)(k:LX)(m:Int)(n:LU)(p:Int)(u:Int32)(v:Int)(w y:LX):S:=⟨[(3,.ptr 0 []),(4,.ptr 1 []),(7,.own 2),(9,.own 3),(10,vi h),(11,.ptr 4 []),(13,.own 5),(14,vi m)],[.box 30 (.agg [vi a,vi b]),.box 165 (.val (.vec 16 (.int .i32)) f),Aw 21 g,Av 175 n,.box 332 (.agg [vi p,vx u,.agg [vi v,.val (.vec 16 (.int .i32)) w,.val (.vec 16 (.int .i32)) y]]),Aw 21 k],[]⟩
def z20(zl:K_):ZT_ R_:=H.i P_ [r,r,r,l,r,d,(lp zl),r,l,d,r,r,r,d]
def t14(a b:Int)(f g:LX)(h:Int)(o:LU):S:=⟨[(3,.ptr 0 []),(4,.ptr 1 []),(7,.own 2),(9,.own 3),(10,vi h)],[.box 30 (.agg [vi a,vi b]),.box 165 (.val (.vec 16 (.int .i32)) f),Aw 21 g,Av 175 o],[]⟩
def z14:ZT_ R_:=H.i P_ [r,r,r,l,r,d]
def x20(zl:K_)(a b:Int)(f g:LX)(h:Int)(k:LX)(m:Int)(n:LU)(p:Int)(u:Int32)(v:Int)(w y:LX):Option R_:=H.e P_ [r,r,r,l,r,d,(lp zl),r,l,d,r,r,r,d] (t20 a b f g h k m n p u v w y)
theorem i20(zl:K_)(a b:Int)(f g:LX)(h:Int)(k:LX):∀(q:Nat) (m:Int) (n:LU) (p:Int) (u:Int32) (v:Int) (w y:LX),z20 zl q (t20 a b f g h k m n p u v w y)=Kf (λh o=>zl (t14 a b f g h o)) a b f g h k q m n p u v w y:=
 ind (λ_ _ _ _ _ _ _=>by kernel_rfl) λq ih m n p u v w y=>Eq.trans (b:=CW (EB (λm n p u v w y=>(z20 zl q) (t20 a b f g h k m n p u v w y)) h a b f g k) (EE (λh o=>zl (t14 a b f g h o)) a b f g) a b f g h k m n p u v w y) F3 (by rw[Bix];simp only[ih]<;>rfl)
theorem e20(zl:K_)(a b:Int)(f g:LX):x20 zl a b f g=EO (λh o=>zl (t14 a b f g h o)) a b f g:=by funext h k m n p u v w y;exact Eq.trans F3 ((i20 zl a b f g h k Bm m n p u v w y).trans (by rw[Al];rfl))
theorem i14(a b:Int)(f g:LX):∀(q:Nat) (h:Int) (o:LU),z14 q (t14 a b f g h o)=Hj a b f g q h o:=
 ind (λ_ _=>by kernel_rfl) λq ih h o=>Eq.trans (b:=Ut (x20 (z14 q) a b f g) Aeb a b f g h o) F3 (by simp only[e20,ih]<;>rfl)
def k:KC_:=kk_ 334 H (u4 EP) func334 (λx=>Eq.trans (b:=u4 (HJ (λa b f g h o=>z14 Bm (t14 a b f g h o))) x) F3 (by simp only[i14,Al]<;>rfl))
end F334
namespace F362
abbrev R_:=((List (Int×Int×UInt64×UInt64×Unit)))
def H:=hd_ [Si,Sv] [.lf (.list (.cons (.int .i64) (.cons (.int .i64) (.cons (.int .u64) (.cons (.int .u64) .nil))))) (some 268)] (.seq .d (.seq .d (.cut [5] [] (.seq .d (.blk (.loop [0,1,5,6] [⟨5,[],.own 268 (.cons (.int .i64) (.cons (.int .i64) (.cons (.int .u64) (.cons (.int .u64) .nil))))⟩] .d))) .d))) [F350.k,F373.k] f362
def t4(b:Int)(g:LU)(f:Int)(a:List (Int×Int×UInt64×UInt64×Unit)):S:=⟨[(0,vi b),(1,vv g),(5,.own 0),(6,vi f)],[.arr 268 (.cons (.int .i64) (.cons (.int .i64) (.cons (.int .u64) (.cons (.int .u64) .nil)))) a],[]⟩
def z4:ZT_ R_:=H.i P_ [r,r,l,r,d]
theorem i4(b:Int)(g:LU):∀(q:Nat) (f:Int) (a:List (Int×Int×UInt64×UInt64×Unit)),z4 q (t4 b g f a)=Ki b g q f a:=
 ind (λ_ _=>by kernel_rfl) λq ih f a=>Eq.trans (b:=Vb Aew (λf a=>(z4 q) (t4 b g f a)) b g f a) F3 (by simp only[ih]<;>rfl)
def k:KC_:=kk_ 362 H (u2 AT) func362 (λx=>Eq.trans (b:=u2 (FA (λb g f a=>z4 Bm (t4 b g f a))) x) F3 (by simp only[i4,Al]<;>rfl))
end F362
namespace F386
abbrev R_:=(LB×Int)
def H:=hd_ [.agg [Ob 5,Si],Sq,Si] [.agg [Ob 5,Si]] (.seq .d (.cut [3,6] [] (.seq .d (.blk (.loop [1,2,3,6,7] [] .d))) .d)) [F374.k] f386
def t4(f:Int)(g:UInt64)(h a:Int)(b:LB):S:=⟨[(1,vq g),(2,vi f),(3,.ptr 0 []),(6,.ptr 1 []),(7,vi h)],[.box 272 (.agg [.own 2,vi a]),.box 272 (.agg [.nils,vi 0]),Ab 5 b],[]⟩
def z4:ZT_ R_:=H.i P_ [r,l,r,d]
theorem i4(f:Int):∀(q:Nat) (g:UInt64) (h a:Int) (b:LB),z4 q (t4 f g h a b)=Kj f q g h a b:=
 ind (λ_ _ _ _=>by kernel_rfl) λq ih g h a b=>Eq.trans (b:=Uz Aem (λg h a b=>(z4 q) (t4 f g h a b)) f g h a b) F3 (by simp only[ih]<;>rfl)
def k:KC_:=kk_ 386 H (u4 Pp) func386 (λx=>Eq.trans (b:=u4 (Afc (λf g h a b=>z4 Bm (t4 f g h a b))) x) F3 (by simp only[i4,Al]<;>rfl))
end F386
namespace F403
abbrev R_:=(LB×Int)
def H:=hd_ [.agg [Ob 5,Si],Si] [.agg [Ob 5,Si]] (.seq .d (.cut [1,2,4] [] (.seq .d (.blk (.loop [1,2,4,5] [] .d))) .d)) [F374.k] f403
def t4(a g b:Int)(f:LB):S:=⟨[(1,vi a),(2,.ptr 0 []),(4,.ptr 1 []),(5,vi g)],[.box 272 (.agg [.own 2,vi b]),.box 272 (.agg [.nils,vi 0]),Ab 5 f],[]⟩
def z4:ZT_ R_:=H.i P_ [r,l,r,d]
theorem i4(a:Int):∀(q:Nat) (g b:Int) (f:LB),z4 q (t4 a g b f)=Pj a q g b f:=
 ind (λ_ _ _=>by kernel_rfl) λq ih g b f=>Eq.trans (b:=AR NN (λg b f=>(z4 q) (t4 a g b f)) a g b f) F3 (by simp only[ih]<;>rfl)
def k:KC_:=kk_ 403 H (u3 XV) func403 (λx=>Eq.trans (b:=u3 (Ane (λa g b f=>z4 Bm (t4 a g b f))) x) F3 (by simp only[i4,Al]<;>rfl))
end F403
namespace F387
def H:=hd_ [.agg [Ob 5,Si],Su,Si] [.agg [Ob 5,Si]] .d [F377.k,F386.k,F397.k,F403.k] f387
def k:KC_:=kk_ 387 H (u4 Qz) func387
end F387
namespace F363
def JQ(b:UInt32)(g f a:Int)(h k:UInt64)(m:LB):Option (LB×Int):=
(λw:Option (LB×Int)=>
(λac:Option (LB×Int)=>
(λad:Option (LB×Int)=>
both (
both (
(Dv m g 1).bind λ(n,o)=>
(λae:Option (LB×Int)=>
both (
bo (
ae)) [
ae]) (
(Gk f a h k b).bind λp=>
(Qz n o p a).bind λ(u,v)=>
some (u,v))) [
ac,
ad]) [
both (
ac) [
w],
both (
ad) [
w]]) (
bo (
w))) (
both (
(Dv m g 1).bind λ(n,o)=>
(λag:Option (LB×Int)=>
bo (
ag)) (
(Gk f a h k b).bind λp=>
(Qz n o p a).bind λ(u,v)=>
some (u,v))) [
w])) (
(Dv m g 1).bind λ(n,o)=>
(Gk f a h k b).bind λp=>
(Qz n o p a).bind λ(u,v)=>
some (u,v))
theorem Bk4: @JQ= @AX:=by
  unfold JQ AX
  try simp only[Tl,Jv,Kk]
  all_goals
    repeat (refine funext λ_=>?_)
    repeat' first
      |with_reducible rfl
      |with_reducible refine El ?_ ?_
      |with_reducible refine Ej ?_ ?_ ?_
      |with_reducible refine Em ?_ ?_ ?_ ?_
      |((with_reducible refine Gs ?_ ?_);focus (intro h;first|(subst h;rfl)|(simp only[h];rfl)|(simp[Bt,Ac,h];done)))
      |with_reducible refine Gh λx=>?_
      |with_reducible refine Lw (λ_=>?_) (λ_=>?_)
      |(refine Cq (λh=>by simp only[h,Gm,Bw,Bu,ite_self]) (λx h=>?_);(try simp only[h,Bw]))
      |(refine Dr (λh=>?_) (λh=>?_)<;>simp only[h,if_true,if_false,Bool.false_eq_true])
def KA(j2:UInt32->Int->Int->Int->UInt64->UInt64->LB->Option (LB×Int))(m:LB)(g f a:Int)(h k:UInt64)(b:UInt32):Option (LB×Int):=
(Qs f a h k b).bind λy=>
if y then
(λaf:Option (LB×Int)=>
both (
bo (
af)) [
af]) (
(Dv m g 0).bind λ(n,o)=>
(Pp n o (Ae b:UInt64) f).bind λ(aa,ab)=>
some (aa,ab))
else
j2 b g f a h k m
theorem Bk6: @KA= @AU:=by
  unfold KA AU
  try simp only[Tl,Jv,Kk]
  all_goals
    repeat (refine funext λ_=>?_)
    repeat' first
      |with_reducible rfl
      |with_reducible refine El ?_ ?_
      |with_reducible refine Ej ?_ ?_ ?_
      |with_reducible refine Em ?_ ?_ ?_ ?_
      |((with_reducible refine Gs ?_ ?_);focus (intro h;first|(subst h;rfl)|(simp only[h];rfl)|(simp[Bt,Ac,h];done)))
      |with_reducible refine Gh λx=>?_
      |with_reducible refine Lw (λ_=>?_) (λ_=>?_)
      |(refine Cq (λh=>by simp only[h,Gm,Bw,Bu,ite_self]) (λx h=>?_);(try simp only[h,Bw]))
      |(refine Dr (λh=>?_) (λh=>?_)<;>simp only[h,if_true,if_false,Bool.false_eq_true])
abbrev R_:=(LB×Int)
def H:=hd_ [.agg [Ob 5,Si],.agg [Si,Si,Sq,Sq],Su] [.agg [Ob 5,Si]] (.seq .d (.cut [2,3,4,6] [] (.seq .d (.cond (.seq (.mode false) .d) .d)) (.seq (.mode false) .d))) [F374.k,F385.k,F386.k,F387.k,F388.k] f363
def x2(b:UInt32)(g f a:Int)(h k:UInt64)(m:LB):Option R_:=H.e P_ [r,r] ⟨[(2,vu b),(3,.ptr 0 []),(4,.ptr 1 []),(6,.ptr 2 [])],[.box 272 (.agg [.own 3,vi g]),.box 268 (.agg [vi f,vi a,vq h,vq k]),.box 272 (.agg [.nils,vi 0]),Ab 5 m],[]⟩
theorem e2:x2=MV:=Eq.trans (b:=JQ) F3 (by rw[Bk4];rfl)
def k:KC_:=kk_ 363 H (u7 Jw) func363 (λx=>Eq.trans (b:=u7 (KA x2) x) F3 (by rw[Bk6];simp only[e2]<;>rfl))
end F363
namespace F333
def CZ(j37:Int->Int->LB->Int->LB->Option (LB))(j44:LB->Option (LB))(f:LU)(b:List (Int×Int×UInt64×UInt64×Unit))(n a:Int)(k:LB):Option (LB):=
if(Cj a (Ac f))then
(Aj b a).bind λ_=>
(Aj f a).bind λv=>
(λaa:Option (LB)=>
(λy:Option (LB)=>
(λab:Option (LB)=>
(λac:Option (LB)=>
(λad:Option (LB)=>
both (
both (
ad) [
ac,
y]) [
(Aj b a).bind λp=>
(λae:Option (LB)=>
(λaf:Option (LB)=>
(λag:Option (LB)=>
both (
ag) [
ag,
af]) (
both (
af) [
ae])) (
bo (
ae))) (
(Jw ([]:LB) 0 p.1 p.2.1 p.2.2.1 p.2.2.2.1 v).bind λ(g,h)=>
j37 n a k h g),
both (
ac) [
ad,
y],
both (
y) [
ab,
y]]) (
(Aj b a).bind λp=>
(λah:Option (LB)=>
both (
bo (
ah)) [
ah]) (
(Jw ([]:LB) 0 p.1 p.2.1 p.2.2.1 p.2.2.2.1 v).bind λ(g,h)=>
j37 n a k h g))) (
both (
ab) [
aa])) (
(Aj b a).bind λp=>
(λao:Option (LB)=>
bo (
ao)) (
(Jw ([]:LB) 0 p.1 p.2.1 p.2.2.1 p.2.2.2.1 v).bind λ(g,h)=>
j37 n a k h g))) (
bo (
aa))) (
(Aj b a).bind λp=>
(Jw ([]:LB) 0 p.1 p.2.1 p.2.2.1 p.2.2.2.1 v).bind λ(g,h)=>
j37 n a k h g)
else
j44 k
theorem Biz: @CZ= @Oj:=by
  unfold CZ Oj
  try simp only[Tl,Jv,Kk]
  all_goals
    repeat (refine funext λ_=>?_)
    repeat' first
      |with_reducible rfl
      |with_reducible refine El ?_ ?_
      |with_reducible refine Ej ?_ ?_ ?_
      |with_reducible refine Em ?_ ?_ ?_ ?_
      |((with_reducible refine Gs ?_ ?_);focus (intro h;first|(subst h;rfl)|(simp only[h];rfl)|(simp[Bt,Ac,h];done)))
      |with_reducible refine Gh λx=>?_
      |with_reducible refine Lw (λ_=>?_) (λ_=>?_)
      |(refine Cq (λh=>by simp only[h,Gm,Bw,Bu,ite_self]) (λx h=>?_);(try simp only[h,Bw]))
      |(refine Dr (λh=>?_) (λh=>?_)<;>simp only[h,if_true,if_false,Bool.false_eq_true])
abbrev R_:=LB
abbrev K_:=S->Option R_
def H:=hd_ [Si,Sv] [Ob 5] (.seq .d (.seq .d (.seq .d (.seq .d (.cut [5] [] (.seq .d (.blk (.loop [1,5,6,7,8] [⟨5,[],.own 5 (.int .u8)⟩] (.seq .d (.cut [1,5,6,7,8] [] (.blk (.cut [1,5,6,7,8,9] [] (.mode false) (.seq .d (.blk (.loop [1,5,6,7,8,9,10] [] (.seq .d (.seq (.blk (.cut [1,5,6,7,8,9,10] [] .d .d)) .d))))))) .d))))) .d))))) [F349.k,F362.k,F363.k] f333
def t38(f:LU)(b:List (Int×Int×UInt64×UInt64×Unit))(a h:Int)(g:LB)(m o:Int)(u:LB):S:=⟨[(1,vv f),(5,.own 0),(6,vi m),(7,.own 1),(8,vi a),(9,.ptr 2 []),(10,vi o)],[Ab 5 u,.arr 268 (.cons (.int .i64) (.cons (.int .i64) (.cons (.int .u64) (.cons (.int .u64) .nil)))) b,.box 272 (.agg [.own 3,vi h]),Ab 5 g],[]⟩
def z38(zm:K_):ZT_ R_:=H.i P_ [r,r,r,r,l,r,d,(lp zm),r,l,d,r,r,d]
def t23(f:LU)(b:List (Int×Int×UInt64×UInt64×Unit))(n a:Int)(k:LB):S:=⟨[(1,vv f),(5,.own 0),(6,vi n),(7,.own 1),(8,vi a)],[Ab 5 k,.arr 268 (.cons (.int .i64) (.cons (.int .i64) (.cons (.int .u64) (.cons (.int .u64) .nil)))) b],[]⟩
def z23:ZT_ R_:=H.i P_ [r,r,r,r,l,r,d]
def x38(zm:K_)(f:LU)(b:List (Int×Int×UInt64×UInt64×Unit))(a h:Int)(g:LB)(m o:Int)(u:LB):Option R_:=H.e P_ [r,r,r,r,l,r,d,(lp zm),r,l,d,r,r,d] (t38 f b a h g m o u)
theorem i38(zm:K_)(f:LU)(b:List (Int×Int×UInt64×UInt64×Unit))(a h:Int)(g:LB):∀(q:Nat) (m o:Int) (u:LB),z38 zm q (t38 f b a h g m o u)=Fh (λn a k=>zm (t23 f b n a k)) f b a h g q m o u:=
 ind (λ_ _ _=>by kernel_rfl) λq ih m o u=>Eq.trans (b:=Uw (Uu (λm o u=>(z38 zm q) (t38 f b a h g m o u)) f a b h g) (DQ (λn a k=>zm (t23 f b n a k)) f b) f b a h g m o u) F3 (by simp only[ih]<;>rfl)
theorem e38(zm:K_)(f:LU)(b:List (Int×Int×UInt64×UInt64×Unit)):x38 zm f b=EH (λn a k=>zm (t23 f b n a k)) f b:=by funext a h g m o u;exact Eq.trans F3 ((i38 zm f b a h g Bm m o u).trans (by rw[Al];rfl))
theorem i23(f:LU)(b:List (Int×Int×UInt64×UInt64×Unit)):∀(q:Nat) (n a:Int) (k:LB),z23 q (t23 f b n a k)=He f b q n a k:=
 ind (λ_ _ _=>by kernel_rfl) λq ih n a k=>Eq.trans (b:=CZ (FD (x38 (z23 q) f b) f b) DX f b n a k) F3 (by rw[Biz];simp only[e38,ih]<;>rfl)
def k:KC_:=kk_ 333 H (u2 PO) func333 (λx=>Eq.trans (b:=u2 (GO (λf b n a k=>z23 Bm (t23 f b n a k))) x) F3 (by simp only[i23,Al]<;>rfl))
end F333
namespace F290
def H:=hd_ [.agg [Si,Si],.lf (.vec 16 (.int .i32)) none,Sw] [Ob 5,Si] .d [F30.k,F333.k,F334.k] f290
def k:KC_:=kk_ 290 H (u4 Ul) func290
end F290
namespace F223
def H:=hd_ [.agg [.agg [Si,Si],Si,Ss,Ob 5,Ow 21,.lf (.list (.list (.int .u8))) (some 31),Ob 5,Sz,Si]] [.agg [.agg [Si,Si],Si,Ss,Ob 5,Ow 21,.lf (.list (.list (.int .u8))) (some 31),Ob 5,Sz,Si]] .d [F280.k,F290.k] f223
def k:KC_:=kk_ 223 H (c! QB) func223
end F223
namespace F147
abbrev R_:=(Int×Int×Int×LB×LB×LX×(List LB)×LB×Bool×Int×Int)
def H:=hd_ [.agg [.agg [Si,Si],Si,Ss,Ob 5,Ow 21,.lf (.list (.list (.int .u8))) (some 31),Ob 5,Sz,Si],Sc] [.agg [.agg [Si,Si],Si,Ss,Ob 5,Ow 21,.lf (.list (.list (.int .u8))) (some 31),Ob 5,Sz,Si],Si] (.seq .d (.seq .d (.seq .d (.cut [2,4] [] .d .d)))) [F58.k,F148.k,F149.k,F194.k,F195.k,F222.k,F223.k] f147
def k:KC_:=kk_ 147 H (u11 Sa) func147
end F147
namespace F71
def GP(j8:Int->Int->Int->Int->Int->LB->Bool->Int->Int->Int->Int->LB->Bool->Int->LB->LX-> (List LB)->LB->Option (Int×Int×Int×LB×LB×LX×(List LB)×LB×Bool×Int×Int))(j10:Int->Int->Int->LB->Bool->Int->LB->LX-> (List LB)->LB->Option (Int×Int×Int×LB×LB×LX×(List LB)×LB×Bool×Int×Int))(a:LB)(n b f g:Int)(h:LB)(k:Bool)(m:Int)(o:LB)(p:LX)(u:List LB)(v:LB):Option (Int×Int×Int×LB×LB×LX×(List LB)×LB×Bool×Int×Int):=
if(Cj n (Ac a))then
(Aj a n).bind λaj=>
(λbi:Option (Int×Int×Int×LB×LB×LX×(List LB)×LB×Bool×Int×Int)=>
(λbj:Option (Int×Int×Int×LB×LB×LX×(List LB)×LB×Bool×Int×Int)=>
(λbk:Option (Int×Int×Int×LB×LB×LX×(List LB)×LB×Bool×Int×Int)=>
both (
bk) [
bk,
bj]) (
both (
bj) [
bi])) (
bo (
bi))) (
(Sa b f g h o p u v k m aj).bind λ(y,aa,ab,ac,af,ag,ah,ai,ad,ae,w)=>
j8 n w b f g h k m y aa ab ac ad ae af ag ah ai)
else
j10 b f g h k m o p u v
theorem Bjq: @GP= @Ro:=by
  unfold GP Ro
  try simp only[Tl,Jv,Kk]
  all_goals
    repeat (refine funext λ_=>?_)
    repeat' first
      |with_reducible rfl
      |with_reducible refine El ?_ ?_
      |with_reducible refine Ej ?_ ?_ ?_
      |with_reducible refine Em ?_ ?_ ?_ ?_
      |((with_reducible refine Gs ?_ ?_);focus (intro h;first|(subst h;rfl)|(simp only[h];rfl)|(simp[Bt,Ac,h];done)))
      |with_reducible refine Gh λx=>?_
      |with_reducible refine Lw (λ_=>?_) (λ_=>?_)
      |(refine Cq (λh=>by simp only[h,Gm,Bw,Bu,ite_self]) (λx h=>?_);(try simp only[h,Bw]))
      |(refine Dr (λh=>?_) (λh=>?_)<;>simp only[h,if_true,if_false,Bool.false_eq_true])
abbrev R_:=(Int×Int×Int×LB×LB×LX×(List LB)×LB×Bool×Int×Int)
abbrev K_:=S->Option R_
def H:=hd_ [.agg [.agg [Si,Si],Si,Ss,Sb,Sw,.lf (.list (.list (.int .u8))) none,Sb,Sz,Si],Sb] [.agg [.agg [Si,Si],Si,Ss,Ob 5,Ow 21,.lf (.list (.list (.int .u8))) (some 31),Ob 5,Sz,Si],Si] (.seq .d (.seq .d (.seq .d (.seq .d (.cut [2,4] [] (.seq .d (.blk (.loop [1,2,4,8] [] (.seq .d (.seq (.blk (.cut [1,2,4,8,9,10] [] (.mode false) .d)) .d))))) .d))))) [F50.k,F145.k,F146.k,F147.k] f71
def t6(a:LB)(n b f g:Int)(h:LB)(k:Bool)(m:Int)(o:LB)(p:LX)(u:List LB)(v:LB):S:=⟨[(1,vb a),(2,.ptr 0 []),(4,.ptr 1 []),(8,vi n)],[.box 90 (.agg [.agg [vi b,vi f],vi g,vs h,.own 2,.own 3,.own 4,.own 5,vt k,vi m]),.box 90 (.agg [.agg [vi 0,vi 0],vi 0,vs ([]:LB),.nils,.nils,.nils,.nils,vt false,vi 0]),Ab 5 o,Aw 21 p,.arr 31 (.list (.int .u8)) u,Ab 5 v],[]⟩
def z6:ZT_ R_:=H.i P_ [r,r,r,r,l,r,d]
theorem i6(a:LB):∀(q:Nat) (n b f g:Int) (h:LB) (k:Bool) (m:Int) (o:LB) (p:LX) (u:List LB) (v:LB),z6 q (t6 a n b f g h k m o p u v)=Nb a q n b f g h k m o p u v:=
 ind (λ_ _ _ _ _ _ _ _ _ _ _=>by kernel_rfl) λq ih n b f g h k m o p u v=>Eq.trans (b:=GP (Zk (λn b f g h k m o p u v=>(z6 q) (t6 a n b f g h k m o p u v)) a) HI a n b f g h k m o p u v) F3 (by rw[Bjq];simp only[ih]<;>rfl)
def k:KC_:=kk_ 71 H (u11 Gl) func71 (λx=>Eq.trans (b:=u11 (Yr (λa n b f g h k m o p u v=>z6 Bm (t6 a n b f g h k m o p u v))) x) F3 (by simp only[i6,Al]<;>rfl))
end F71
namespace F72
def H:=hd_ [.agg [.agg [Si,Si],Si,Ss,Sb,Sw,.lf (.list (.list (.int .u8))) none,Sb,Sz,Si],Si] [.agg [.agg [Si,Si],Si,Ss,Ob 5,Ow 21,.lf (.list (.list (.int .u8))) (some 31),Sb,Sz,Si],Sb,Si] .d [F50.k,F145.k] f72
def k:KC_:=kk_ 72 H (u11 Mo) func72
end F72
namespace F224
def H:=hd_ [Ss] [Si] .d [] f224
def k:KC_:=kk_ 224 H Ps func224
end F224
namespace F225
def H:=hd_ [.agg [Si,Si,Si,Si,Si]] [Ob 5] .d [F286.k,F291.k] f225
def k:KC_:=kk_ 225 H (u5 EY) func225
end F225
namespace F227
abbrev R_:=LB
def H:=hd_ [Sl] [Ob 5] (.seq .d (.seq .d (.cut [3] [] (.seq .d (.blk (.loop [0,3,4] [⟨3,[],.own 5 (.int .u8)⟩] .d))) .d))) [F286.k,F291.k] f227
def t4(b:LI)(f:Int)(a:LB):S:=⟨[(0,vl b),(3,.own 0),(4,vi f)],[Ab 5 a],[]⟩
def z4:ZT_ R_:=H.i P_ [r,r,l,r,d]
theorem i4(b:LI):∀(q:Nat) (f:Int) (a:LB),z4 q (t4 b f a)=Lt b q f a:=
 ind (λ_ _=>by kernel_rfl) λq ih f a=>Eq.trans (b:=Wy HM (λf a=>(z4 q) (t4 b f a)) b f a) F3 (by simp only[ih]<;>rfl)
def k:KC_:=kk_ 227 H QM func227 (λx=>Eq.trans (b:=Aj7 (λb f a=>z4 Bm (t4 b f a)) x) F3 (by simp only[i4,Al]<;>rfl))
end F227
namespace F150
def GZ(j7:Int->Int->Int->LB->LB->LX->LB->Bool->Int->Int->Int-> (List LB)->Option (LB))(b f g:Int)(a h:LB)(ab:LX)(ac:List LB)(k:LB)(m:Bool)(n:Int):Option (LB):=
both (
(Ps a).bind λp=>
both (
(Eu b f g a h ab ac k m n).bind λo=>
bo (
j7 b f g a h ab k m n p o ac)) [
(Eu b f g a h ab ac k m n).bind λo=>
j7 b f g a h ab k m n p o ac]) [
(Ps a).bind λp=>
(Eu b f g a h ab ac k m n).bind λo=>
j7 b f g a h ab k m n p o ac]
theorem Bjp: @GZ= @Xy:=by
  unfold GZ Xy
  repeat (refine funext λ_=>?_)
  repeat' first
    |with_reducible rfl
    |with_reducible refine El ?_ ?_
    |with_reducible refine Ej ?_ ?_ ?_
    |with_reducible refine Em ?_ ?_ ?_ ?_
    |((with_reducible refine Gs ?_ ?_);focus (intro h;first|(subst h;rfl)|(simp only[h];rfl)|(simp[Bt,Ac,h];done)))
    |with_reducible refine Gh λx=>?_
    |with_reducible refine Lw (λ_=>?_) (λ_=>?_)
    |(refine Cq (λh=>by simp only[h,Gm,Bw,Bu,ite_self]) (λx h=>?_);(try simp only[h,Bw]))
    |(refine Dr (λh=>?_) (λh=>?_)<;>simp only[h,if_true,if_false,Bool.false_eq_true])
abbrev R_:=LB
def H:=hd_ [.agg [.agg [Si,Si],Si,Ss,Sb,Sw,.lf (.list (.list (.int .u8))) (some 31),Sb,Sz,Si]] [Ob 5] (.seq .d (.cut [1,3] [] .d (.cut [1,3] [⟨1,[4],.ro (.int .i32)⟩] (.seq .d (.cond (.keep [1,3,27] true) .d)) (.seq .d (.seq .d (.cut [1,3,4,5] [] (.seq .d (.blk (.loop [1,3,4,5,6] [⟨4,[],.own 3 (.int .i64)⟩,⟨5,[],.own 5 (.int .u8)⟩] .d))) (.seq .d (.cut [4,5,7] [] .d .d)))))))) [F148.k,F224.k,F225.k,F226.k,F227.k,F280.k,F290.k] f150 false [(223,.d)]
def t9(b f g:Int)(a h:LB)(aa:LX)(k:LB)(m:Bool)(n p o:Int)(u:List LB)(y:Int)(v:LI)(w:LB):S:=⟨[(1,.ptr 0 []),(3,.ptr 1 []),(4,.own 2),(5,.own 3),(6,vi y)],[.box 90 (.agg [.agg [vi b,vi f],vi g,vs a,vb h,vw aa,.own 4,vb k,vt m,vi n]),.box 39 (.agg [vi p,vi b,vi f,vi g,vi o]),Ai 3 v,Ab 5 w,.arr 31 (.list (.int .u8)) u],[]⟩
def z9:ZT_ R_:=H.i P_ [r,r,r,r,r,l,r,d]
theorem i9(b f g:Int)(a h:LB)(aa:LX)(k:LB)(m:Bool)(n p o:Int)(u:List LB):∀(q:Nat) (y:Int) (v:LI) (w:LB),z9 q (t9 b f g a h aa k m n p o u y v w)=Nn b f g a h aa k m n p o u q y v w:=
 ind (λ_ _ _=>by kernel_rfl) λq ih y v w=>Eq.trans (b:=Yz Xb (λy v w=>(z9 q) (t9 b f g a h aa k m n p o u y v w)) b f g a h aa k m n p o u y v w) F3 (by simp only[ih]<;>rfl)
def k:KC_:=kk_ 150 H (c! Tk) func150 (λx=>Eq.trans (b:=c! (GZ (JP (Akk (λb f g a h aa k m n p o u y v w=>z9 Bm (t9 b f g a h aa k m n p o u y v w))))) x) F3 (by rw[Bjp];simp only[i9,Al]<;>rfl))
end F150
namespace F73
def BU(a b f:Int)(g:LB)(k:Bool)(m:Int)(h:LB)(n:LX)(o:List LB)(p:LB):Option (Int×Int×Int×LB×LB×LX×(List LB)×LB×Bool×Int×Int):=
(λam:Option (Int×Int×Int×LB×LB×LX×(List LB)×LB×Bool×Int×Int)=>
(λw:Option (Int×Int×Int×LB×LB×LX×(List LB)×LB×Bool×Int×Int)=>
(λv:Option (Int×Int×Int×LB×LB×LX×(List LB)×LB×Bool×Int×Int)=>
(λy:Option (Int×Int×Int×LB×LB×LX×(List LB)×LB×Bool×Int×Int)=>
both (
y) [
y,
y,
both (
v) [
v,
v,
(Tk a b f g h n o p k m).bind λu=>
(λbl:Option (Int×Int×Int×LB×LB×LX×(List LB)×LB×Bool×Int×Int)=>
(λbm:Option (Int×Int×Int×LB×LB×LX×(List LB)×LB×Bool×Int×Int)=>
bo2 (
bm)) (
bo (
bl))) (
some (a,b,f,g,([]:LB),([]:LX),([]:List LB),u,true,0,0))]]) (
(λan:Option (Int×Int×Int×LB×LB×LX×(List LB)×LB×Bool×Int×Int)=>
both (
an) [
an,
v]) (
both (
am) [
w]))) (
both (
w) [
w,
(Tk a b f g h n o p k m).bind λu=>
(λbn:Option (Int×Int×Int×LB×LB×LX×(List LB)×LB×Bool×Int×Int)=>
bo (
bn)) (
some (a,b,f,g,([]:LB),([]:LX),([]:List LB),u,true,0,0))])) (
bo (
am))) (
(Tk a b f g h n o p k m).bind λu=>
some (a,b,f,g,([]:LB),([]:LX),([]:List LB),u,true,0,0))
theorem Biy: @BU= @Ve:=by
  unfold BU Ve
  try simp only[Tl,Jv,Kk]
  all_goals
    repeat (refine funext λ_=>?_)
    repeat' first
      |with_reducible rfl
      |with_reducible refine El ?_ ?_
      |with_reducible refine Ej ?_ ?_ ?_
      |with_reducible refine Em ?_ ?_ ?_ ?_
      |((with_reducible refine Gs ?_ ?_);focus (intro h;first|(subst h;rfl)|(simp only[h];rfl)|(simp[Bt,Ac,h];done)))
      |with_reducible refine Gh λx=>?_
      |with_reducible refine Lw (λ_=>?_) (λ_=>?_)
      |(refine Cq (λh=>by simp only[h,Gm,Bw,Bu,ite_self]) (λx h=>?_);(try simp only[h,Bw]))
      |(refine Dr (λh=>?_) (λh=>?_)<;>simp only[h,if_true,if_false,Bool.false_eq_true])
abbrev R_:=(Int×Int×Int×LB×LB×LX×(List LB)×LB×Bool×Int×Int)
def H:=hd_ [.agg [.agg [Si,Si],Si,Ss,Sb,Sw,.lf (.list (.list (.int .u8))) none,Sb,Sz,Si]] [.agg [.agg [Si,Si],Si,Ss,Ob 5,Ow 21,.lf (.list (.list (.int .u8))) (some 31),Ob 5,Sz,Si],Si] (.seq .d (.seq .d (.seq .d (.seq .d (.cut [1,2] [] .d (.seq (.mode false) .d)))))) [F50.k,F145.k,F146.k,F148.k,F149.k,F150.k] f73
def x2(a b f:Int)(g:LB)(k:Bool)(m:Int)(h:LB)(n:LX)(o:List LB)(p:LB):Option R_:=H.e P_ [r,r,r,r,r] ⟨[(1,.ptr 0 []),(2,.ptr 1 [])],[.box 90 (.agg [.agg [vi a,vi b],vi f,vs g,.own 2,.own 3,.own 4,.own 5,vt k,vi m]),.box 90 (.agg [.agg [vi 0,vi 0],vi 0,vs ([]:LB),.nils,.nils,.nils,.nils,vt false,vi 0]),Ab 5 h,Aw 21 n,.arr 31 (.list (.int .u8)) o,Ab 5 p],[]⟩
theorem e2:x2=EV:=Eq.trans (b:=BU) F3 (by rw[Biy];rfl)
def k:KC_:=kk_ 73 H (c! Fa) func73 (λx=>Eq.trans (b:=c! (Uv x2) x) F3 (by simp only[e2]<;>rfl))
end F73
namespace F69
def BF(j10:Int-> (List (Int×LB×Unit))->Int->Int->LB->Int->Int->Int->LB->LB->Bool->Int->LB->LX-> (List LB)->Option (Int×Int×Int×LB×LB×LX×(List LB)×LB×Bool×Int×(List (Int×LB×Unit))×Int))(j12:Int->Int->Int->LB->LB->Bool->Int-> (List (Int×LB×Unit))->LB->LX-> (List LB)->Option (Int×Int×Int×LB×LB×LX×(List LB)×LB×Bool×Int×(List (Int×LB×Unit))×Int))(y:LB)(b:List (UInt8×Int×Unit))(aa a g h k:Int)(m n:LB)(o:Bool)(p:Int)(f:List (Int×LB×Unit))(u:LB)(v:LX)(w:List LB):Option (Int×Int×Int×LB×LB×LX×(List LB)×LB×Bool×Int×(List (Int×LB×Unit))×Int):=
if(Cj a (Ac b))then
(Aj b a).bind λab=>
if(geq ab.1 1)then
(Aj b a).bind λac=>
(Mk y aa ac.2.1).bind λ(ad,ae)=>
(Gl g h k m u v w n o p ad).bind λ(af,ag,ah,ai,aj,ak,al,am,an,ao,ap)=>
j10 a f ae ap ([]:LB) af ag ah ai am an ao aj ak al
else
if(geq ab.1 2)then
(Aj b a).bind λaq=>
(λdx:Option (Int×Int×Int×LB×LB×LX×(List LB)×LB×Bool×Int×(List (Int×LB×Unit))×Int)=>
bo (
dx)) (
(Mo g h k m u v w n o p aq.2.1).bind λ(ar,au,av,aw,ax,ay,az,ba,bb,bc,bd,be)=>
j10 a f aa be bd ar au av aw ba bb bc ax ay az)
else
if(geq ab.1 3)then
(Fa g h k m u v w n o p).bind λ(bf,bg,bh,bi,bj,bk,bl,bm,bn,bp,bq)=>
j10 a f aa bq ([]:LB) bf bg bh bi bm bn bp bj bk bl
else
j10 a f aa 0 ([]:LB) g h k m n o p u v w
else
j12 g h k m n o p f u v w
theorem Biw: @BF= @Oq:=by
  unfold BF Oq;simp only[Tl,Jv,Kk]
abbrev R_:=(Int×Int×Int×LB×LB×LX×(List LB)×LB×Bool×Int×(List (Int×LB×Unit))×Int)
abbrev K_:=S->Option R_
def H:=hd_ [.agg [Si,Si],Si,Ss,Sb,.lf (.list (.cons (.int .u8) (.cons (.int .i64) .nil))) none] [.agg [.agg [Si,Si],Si,Ss,Ob 5,Ow 21,.lf (.list (.list (.int .u8))) (some 31),Sb,Sz,Si],.lf (.list (.cons (.int .i64) (.cons (.list (.int .u8)) .nil))) (some 162),Si] (.seq .d (.seq .d (.seq .d (.seq .d (.seq .d (.seq .d (.cut [10,14,16] [] (.seq .d (.blk (.loop [3,4,10,14,16,17,18] [⟨14,[6],.ro (.int .u8)⟩,⟨16,[],.own 162 (.cons (.int .i64) (.cons (.list (.int .u8)) .nil))⟩] (.seq .d (.seq (.blk (.seq .d (.seq .d (.cut [3,4,10,14,16,17,18,19,20] [⟨14,[6],.ro (.int .u8)⟩,⟨20,[],.ro (.int .u8)⟩] (.seq .d (.blk (.seq .d (.cond .d (.seq .d (.cond (.mode false) .d)))))) .d)))) .d))))) .d))))))) [F70.k,F71.k,F72.k,F73.k,F135.k,F136.k] f69
def t7(y:LB)(b:List (UInt8×Int×Unit))(aa a g h k:Int)(m n:LB)(o:Bool)(p:Int)(f:List (Int×LB×Unit))(u:LB)(v:LX)(w:List LB):S:=⟨[(3,vb y),(4,.val (.list (.cons (.int .u8) (.cons (.int .i64) .nil))) b),(10,.ptr 0 []),(14,.ptr 1 []),(16,.own 2),(17,vi aa),(18,vi a)],[.box 90 (.agg [.agg [vi 0,vi 0],vi 0,vs ([]:LB),.nils,.nils,.nils,.nils,vt false,vi 0]),.box 90 (.agg [.agg [vi g,vi h],vi k,vs m,.own 3,.own 4,.own 5,vb n,vt o,vi p]),.arr 162 (.cons (.int .i64) (.cons (.list (.int .u8)) .nil)) f,Ab 5 u,Aw 21 v,.arr 31 (.list (.int .u8)) w],[]⟩
def z7:ZT_ R_:=H.i P_ [r,r,r,r,r,r,l,r,d]
theorem i7(y:LB)(b:List (UInt8×Int×Unit)):∀(q:Nat) (aa a g h k:Int) (m n:LB) (o:Bool) (p:Int) (f:List (Int×LB×Unit)) (u:LB) (v:LX) (w:List LB),z7 q (t7 y b aa a g h k m n o p f u v w)=Kg y b q aa a g h k m n o p f u v w:=
 ind (λ_ _ _ _ _ _ _ _ _ _ _ _ _=>by kernel_rfl) λq ih aa a g h k m n o p f u v w=>Eq.trans (b:=BF (Mw (λaa a g h k m n o p f u v w=>(z7 q) (t7 y b aa a g h k m n o p f u v w)) y b) BT y b aa a g h k m n o p f u v w) F3 (by rw[Biw];simp only[ih]<;>rfl)
def k:KC_:=kk_ 69 H (u6 Pw) func69 (λx=>Eq.trans (b:=u6 (Ou (λy b aa a g h k m n o p f u v w=>z7 Bm (t7 y b aa a g h k m n o p f u v w))) x) F3 (by simp only[i7,Al]<;>rfl))
end F69
namespace F74
abbrev R_:=Int
def H:=hd_ [.agg [.agg [Si,Si],Si,Ss,Sb,Sw,.lf (.list (.list (.int .u8))) none,Sb,Sz,Si]] [Si] (.seq .d (.seq .d (.cut [3] [] (.seq .d (.blk (.loop [1,3,4] [] .d))) .d))) [] f74
def t4(k m n:Int)(o f:LB)(g:LX)(a:List LB)(h:LB)(p:Bool)(u b v:Int):S:=⟨[(1,.ptr 0 []),(3,vi b),(4,vi v)],[.box 90 (.agg [.agg [vi k,vi m],vi n,vs o,vb f,vw g,.val (.list (.list (.int .u8))) a,vb h,vt p,vi u])],[]⟩
def z4:ZT_ R_:=H.i P_ [r,r,l,r,d]
theorem i4(k m n:Int)(o f:LB)(g:LX)(a:List LB)(h:LB)(p:Bool)(u:Int):∀(q:Nat) (b v:Int),z4 q (t4 k m n o f g a h p u b v)=Fp k m n o f g a h p u q b v:=
 ind (λ_ _=>by kernel_rfl) λq ih b v=>Eq.trans (b:=Nr Ab8 (λb v=>(z4 q) (t4 k m n o f g a h p u b v)) k m n o f g a h p u b v) F3 (by simp only[ih]<;>rfl)
def k:KC_:=kk_ 74 H (c! Rh) func74 (λx=>Eq.trans (b:=c! (Va (λk m n o f g a h p u b v=>z4 Bm (t4 k m n o f g a h p u b v))) x) F3 (by simp only[i4,Al]<;>rfl))
end F74
namespace F20
def DO(j10:Int->Int->Int->Int->Int->Int->LB->LB->Bool->Int->LB->LX-> (List LB)->Option (Int×Int))(j12:Int->Option (Int×Int))(h:LB)(f:List (UInt8×Int×Unit))(g b a k m n:Int)(o p:LB)(u:Bool)(v:Int)(w:LB)(y:LX)(aa:List LB):Option (Int×Int):=
if(Cj a (Ac f))then
(Aj f a).bind λab=>
if(geq ab.1 1)then
(Aj f a).bind λac=>
(Bo h b (Af b (Du ac.2.1 (Ap (Ac h) b)))).bind λad=>
(Gl k m n o w y aa p u v ad).bind λ(ae,af,ag,ah,ai,aj,ak,al,am,an,de)=>
j10 g a (Af b (Du ac.2.1 (Ap (Ac h) b))) ae af ag ah al am an ai aj ak
else
if(geq ab.1 2)then
(Aj f a).bind λao=>
(λdt:Option (Int×Int)=>
bo (
dt)) (
(Mo k m n o w y aa p u v ao.2.1).bind λ(ap,aq,ar,au,av,aw,ax,ay,az,ba,df,dg)=>
j10 g a b ap aq ar au ay az ba av aw ax)
else
if(geq ab.1 3)then
(Fa k m n o w y aa p u v).bind λ(bb,bc,bd,be,bf,bg,bh,bi,bj,bk,dh)=>
j10 g a b bb bc bd be bi bj bk bf bg bh
else
j10 g a b k m n o p u v w y aa
else
j12 g
theorem Bj7: @DO= @Ib:=by
  unfold DO Ib;simp only[Tl,Jv,Kk]
abbrev R_:=(Int×Int)
abbrev K_:=S->Option R_
def H:=hd_ [.agg [Si,Si],Si,Ss,Sb,.lf (.list (.cons (.int .u8) (.cons (.int .i64) .nil))) none] [Si,Si] (.seq .d (.seq .d (.seq .d (.seq .d (.seq .d (.cut [15] [] (.seq .d (.blk (.loop [3,4,15,16,18,19] [⟨16,[6],.ro (.int .u8)⟩] (.seq .d (.seq (.blk (.cut [3,4,15,16,18,19] [⟨16,[6],.ro (.int .u8)⟩] (.seq .d (.blk (.seq .d (.cond (.seq .d (.seq (.mode false) .d)) (.seq .d (.cond (.mode false) .d)))))) .d)) .d))))) .d)))))) [F69.k,F70.k,F71.k,F72.k,F73.k,F74.k] f20
def t7(h:LB)(f:List (UInt8×Int×Unit))(g b a k m n:Int)(o p:LB)(u:Bool)(v:Int)(w:LB)(y:LX)(aa:List LB):S:=⟨[(3,vb h),(4,.val (.list (.cons (.int .u8) (.cons (.int .i64) .nil))) f),(15,vi g),(16,.ptr 0 []),(18,vi b),(19,vi a)],[.box 90 (.agg [.agg [vi k,vi m],vi n,vs o,.own 1,.own 2,.own 3,vb p,vt u,vi v]),Ab 5 w,Aw 21 y,.arr 31 (.list (.int .u8)) aa],[]⟩
def z7:ZT_ R_:=H.i P_ [r,r,r,r,r,l,r,d]
theorem i7(h:LB)(f:List (UInt8×Int×Unit)):∀(q:Nat) (g b a k m n:Int) (o p:LB) (u:Bool) (v:Int) (w:LB) (y:LX) (aa:List LB),z7 q (t7 h f g b a k m n o p u v w y aa)=Ef h f q g b a k m n o p u v w y aa:=
 ind (λ_ _ _ _ _ _ _ _ _ _ _ _ _=>by kernel_rfl) λq ih g b a k m n o p u v w y aa=>Eq.trans (b:=DO (Uy (λg b a k m n o p u v w y aa=>(z7 q) (t7 h f g b a k m n o p u v w y aa)) h f) Adt h f g b a k m n o p u v w y aa) F3 (by rw[Bj7];simp only[ih]<;>rfl)
def k:KC_:=kk_ 20 H (u6 Qr) func20 (λx=>Eq.trans (b:=u6 (Qn (λh f g b a k m n o p u v w y aa=>z7 Bm (t7 h f g b a k m n o p u v w y aa))) x) F3 (by simp only[i7,Al]<;>rfl))
end F20
namespace F4
abbrev R_:=Bool
def H:=hd_ [.agg [Si,Si],Si,Ss,Sb,.lf (.list (.cons (.int .u8) (.cons (.int .i64) .nil))) none] [Sz] (.seq .d (.cut [1,2,3,4,5] [] .d .d)) [F16.k,F17.k,F18.k,F19.k,F20.k] f4
def k:KC_:=kk_ 4 H (u6 Zs) func4
end F4
end
end Go.Proofs.YtfndponlpdejaaaGreatDoor
