/- A part of a proof (see the text that ends in Proof). No conditions. -/
import Derived.Test.YtehlnpncgkmoaaaGreatDoorMcHA
set_option linter.unusedVariables false
set_option linter.unusedSimpArgs false
set_option maxRecDepth 10000
namespace Go.Proofs.YtehlnpncgkmoaaaGreatDoor
open Go Go.Lv Go.Pl Go.Rx Go.Rx.PS
noncomputable section
def g0:List Value:=[.int .i64 2,.int .i64 2,.int .i64 2,.int .i64 4,.int .i64 4]
def g2:List Value:=[.bool true,.int .i64 0]
def g4:List Value:=[.bool false,.int .i64 0]
def g5:List Value:=[.int .u8 0,.int .u8 1,.int .u8 56,.int .u8 2,.int .u8 57,.int .u8 49,.int .u8 28,.int .u8 3,.int .u8 61,.int .u8 58,.int .u8 42,.int .u8 50,.int .u8 38,.int .u8 29,.int .u8 17,.int .u8 4,.int .u8 62,.int .u8 47,.int .u8 59,.int .u8 36,.int .u8 45,.int .u8 43,.int .u8 51,.int .u8 22,.int .u8 53,.int .u8 39,.int .u8 33,.int .u8 30,.int .u8 24,.int .u8 18,.int .u8 12,.int .u8 5,.int .u8 63,.int .u8 55,.int .u8 48,.int .u8 27,.int .u8 60,.int .u8 41,.int .u8 37,.int .u8 16,.int .u8 46,.int .u8 35,.int .u8 44,.int .u8 21,.int .u8 52,.int .u8 32,.int .u8 23,.int .u8 11,.int .u8 54,.int .u8 26,.int .u8 40,.int .u8 15,.int .u8 34,.int .u8 20,.int .u8 31,.int .u8 10,.int .u8 25,.int .u8 14,.int .u8 19,.int .u8 9,.int .u8 13,.int .u8 8,.int .u8 7,.int .u8 6]
def gl:List (Nat×List Value):=[(0,g0),(2,g2),(4,g4),(5,g5)]
theorem mixed:Tryz.prog.follows .mixedOrders=true:=F2
noncomputable abbrev P_:=Tryz.prog
noncomputable def kt(l:List (Kc P_ gl))(v:Bool)(c:Bool:=false):=Awv l v c
theorem co(H:Hd){f:Nat}{F:CM (Re H.p)->Option (CM (Re H.r))}(hf:P_.funcs[f]? =some H.f)(h:∀x,H.u P_ x=F x:=by intro x;kernel_rfl)(hT:EO P_ H.T:=by exact Ah7 _ _ _)(hb:okA P_ H=true:=by kernel_rfl):ConOk P_ H.T.gl f ⟨H.p,H.r,F⟩:=Hd.cn mixed H hf hT hb h
theorem ent224:Ent Tryz.prog 224:=Ent.mk Tryz.func224 F2 rfl
abbrev u2{A B R:Type}(f:A->B->R)(x:A×B):=f x.1 x.2
abbrev u3{A B C R:Type}(f:A->B->C->R):=u2 λa=>u2 (f a)
abbrev u4{A B C D R:Type}(f:A->B->C->D->R):=u2 λa=>u3 (f a)
abbrev u5{A B C D E R:Type}(f:A->B->C->D->E->R):=u2 λa=>u4 (f a)
abbrev u6{A B C D E F R:Type}(f:A->B->C->D->E->F->R):=u2 λa=>u5 (f a)
abbrev u7{A B C D E F G R:Type}(f:A->B->C->D->E->F->G->R):=u2 λa=>u6 (f a)
abbrev u8{A B C D E F G H R:Type}(f:A->B->C->D->E->F->G->H->R):=u2 λa=>u7 (f a)
abbrev u9{A B C D E F G H I R:Type}(f:A->B->C->D->E->F->G->H->I->R):=u2 λa=>u8 (f a)
abbrev u10{A B C D E F G H I J R:Type}(f:A->B->C->D->E->F->G->H->I->J->R):=u2 λa=>u9 (f a)
abbrev u11{A B C D E F G H I J K R:Type}(f:A->B->C->D->E->F->G->H->I->J->K->R):=u2 λa=>u10 (f a)
abbrev u12{A B C D E F G H I J K L R:Type}(f:A->B->C->D->E->F->G->H->I->J->K->L->R):=u2 λa=>u11 (f a)
abbrev u13{A B C D E F G H I J K L M R:Type}(f:A->B->C->D->E->F->G->H->I->J->K->L->M->R):=u2 λa=>u12 (f a)
open Go.Proofs.Tryz
namespace F137
def H:Hd:=⟨[.agg [Si,Si,Si,Sw]],[.agg [Si,Si]],.d,kt [] false,[],f137⟩
def k:Kc P_ gl:=⟨(137,⟨H.p,H.r,u4 nC⟩),co H func137⟩
end F137
namespace F81
abbrev R_:=(Int32×Int32×Int)
def H:Hd:=⟨[Si],[Sx,Sx,Si],(.seq .d (.seq (.seq .d (.blk (.cut [0,7] [] .d .d))) .d)),kt [] false,[],f81⟩
def k:Kc P_ gl:=⟨(81,⟨H.p,H.r,Mu⟩),co H func81⟩
end F81
namespace F80
def H:Hd:=⟨[.agg [Si,Si]],[Si],.d,kt [F81.k] false,[],f80⟩
def k:Kc P_ gl:=⟨(80,⟨H.p,H.r,u2 Jf⟩),co H func80⟩
end F80
namespace F79
def H:Hd:=⟨[Si],[Si,Si],.d,kt [] false,[],f79⟩
def k:Kc P_ gl:=⟨(79,⟨H.p,H.r,Pn⟩),co H func79⟩
end F79
namespace F153
def H:Hd:=⟨[Si,Si],[Si,Si],.d,kt [F79.k] false,[],f153⟩
def k:Kc P_ gl:=⟨(153,⟨H.p,H.r,u2 Rc⟩),co H func153⟩
end F153
namespace F106
def H:Hd:=⟨[.agg [Si,Si,Si,Sw],Si],[Si],.d,kt [F80.k,F137.k,F153.k] false,[],f106⟩
def k:Kc P_ gl:=⟨(106,⟨H.p,H.r,u5 S1⟩),co H func106⟩
end F106
namespace F107
abbrev R_:=Int
def H:Hd:=⟨[Si,Sw],[Si],(.seq .d (.seq .d (.seq .d (.seq .d (.cut [] [] (.seq .d (.blk (.loop [5,6,22,23,24] [] .d))) .d))))),kt [F81.k] false,[],f107⟩
def t4(b f:Int32)(a:LX)(g:Int):S:=⟨[(5,vx b),(6,vx f),(22,vw a),(23,vi (Ac a)),(24,vi g)],[],[]⟩
def z4:Nat->S->Option R_:=H.i P_ [r,r,r,r,l,r,d]
theorem i4(b f:Int32)(a:LX):∀(q:Nat) (g:Int),z4 q (t4 b f a g)=Oc b f a q g:=
 ind (λ_=>by kernel_rfl) λq ih g=>Eq.trans (b:=BF gP (λg=>(z4 q) (t4 b f a g)) b f a g) F2 (by simp only[ih]<;>rfl)
def k:Kc P_ gl:=⟨(107,⟨H.p,H.r,u2 Mn⟩),co H func107 (λx=>Eq.trans (b:=u2 (PH (λb f a g=>z4 Cu (t4 b f a g))) x) F2 (by simp only[i4,Au]<;>rfl))⟩
end F107
namespace F59
def H:Hd:=⟨[.agg [Si,Si,Si,Sw]],[Si],.d,kt [F106.k,F107.k] false,[],f59⟩
def k:Kc P_ gl:=⟨(59,⟨H.p,H.r,u4 FQ⟩),co H func59⟩
end F59
namespace F89
def KP(j2:LB->Int->Int->Int->LX->Option (Int×Int×Int×Int×Int×Int))(a b f:Int)(g:LX)(h:LB):Option (Int×Int×Int×Int×Int×Int):=
(FQ a b f g).bind λk=>
if(Bc k 0)then
some (0,0,0,0,0,k)
else
if(Eg (Ac h) 64)then
some (0,0,0,0,0,2)
else
(Gu (Bc a 0)).bind λ_=>
bo (
j2 h a b f g)
theorem nH: @KP= @NP:=by
  unfold KP NP;simp only[QJ,Ya,Yt]
abbrev R_:=(Int×Int×Int×Int×Int×Int)
def H:Hd:=⟨[.agg [Si,Si,Si,Sw],Ss],[.agg [Si,Si,Si,Si,Si],Si],(.seq .d (.seq .d (.seq .d (.cut [1,4,7] [] .d .d)))),kt [F59.k] false,[],f89⟩
def k:Kc P_ gl:=⟨(89,⟨H.p,H.r,u5 wU⟩),co H func89 (λx=>Eq.trans (b:=u5 (KP fX) x) F2 (by simp only[nH]<;>rfl))⟩
end F89
namespace F170
abbrev R_:=(UInt64×Int)
abbrev K_:=S->Option R_
def H:Hd:=⟨[Sq,Sb],[Sq,Si],(.seq .d (.seq .d (.cut [4,5] [] (.keep [0,1,4,5,9,10,11,12] true) .d))),kt [] false,[(208,(.seq .d (.cut [1] [] (.seq .d (.blk (.loop [0,1,9,10,11] [] .d))) .d))),(209,(.seq .d (.seq .d (.cut [1] [] (.seq .d (.blk (.loop [1,5] [] (.seq .d (.seq .d (.cut [1,5] [] (.blk (.seq .d (.seq .d (.cut [1,2,3,5] [] (.seq .d (.blk (.loop [1,2,3,5,11] [] .d))) .d)))) .d)))))) .d))))],f170⟩
def t27(a:LB)(b:UInt64)(f:LQ)(h:UInt64)(m:Int):S:=⟨[(0,.ptr 0 []),(1,vq h),(9,vb a),(10,vi (Ac a)),(11,vi m)],[.box 336 (.val (.vec 256 (.int .u64)) f)],[[(0,vq b),(1,vb a),(4,vq 0),(5,vi 0),(9,.ptr 0 []),(10,vq b),(11,vb a)]]⟩
def z27:Nat->S->Option R_:=H.i P_ [r,r,l,(call 3 208),r,l,r,d]
def t21(b:UInt64)(a:LB)(g:Int)(f:LQ)(k:UInt64)(n:Int):S:=⟨[(1,.ptr 0 []),(2,vi g),(3,vq k),(5,vi g),(11,vi n)],[.box 336 (.val (.vec 256 (.int .u64)) f)],[[(0,vq b),(1,vb a),(4,vq 0),(5,vi 0)]]⟩
def z21(Jy:K_):Nat->S->Option R_:=H.i P_ [r,r,l,(call 0 209),r,r,l,r,d,(lp Jy),r,r,l,d,r,r,l,r,d]
def t16(b:UInt64)(a:LB)(g:Int)(f:LQ):S:=⟨[(1,.ptr 0 []),(5,vi g)],[.box 336 (.val (.vec 256 (.int .u64)) f)],[[(0,vq b),(1,vb a),(4,vq 0),(5,vi 0)]]⟩
def z16:Nat->S->Option R_:=H.i P_ [r,r,l,(call 0 209),r,r,l,r,d]
def x27(a:LB)(b:UInt64)(f:LQ)(h:UInt64)(m:Int):Option R_:=H.e P_ [r,r,l,(call 3 208),r,l,r,d] (t27 a b f h m)
def x21(Jy:K_)(b:UInt64)(a:LB)(g:Int)(f:LQ)(k:UInt64)(n:Int):Option R_:=H.e P_ [r,r,l,(call 0 209),r,r,l,r,d,(lp Jy),r,r,l,d,r,r,l,r,d] (t21 b a g f k n)
theorem i27(a:LB)(b:UInt64)(f:LQ):∀(q:Nat) (h:UInt64) (m:Int),z27 q (t27 a b f h m)=Oh a b f q h m:=
 ind (λ_ _=>by kernel_rfl) λq ih h m=>Eq.trans (b:=CE PG (λh m=>(z27 q) (t27 a b f h m)) a b f h m) F2 (by simp only[ih]<;>rfl)
theorem e27:x27=OH:=by funext a b f h m;exact Eq.trans F2 ((i27 a b f Cu h m).trans (by rw[Au];rfl))
theorem i21(Jy:K_)(b:UInt64)(a:LB)(g:Int)(f:LQ):∀(q:Nat) (k:UInt64) (n:Int),z21 Jy q (t21 b a g f k n)=Ou (λg f=>Jy (t16 b a g f)) b a g f q k n:=
 ind (λ_ _=>by kernel_rfl) λq ih k n=>Eq.trans (b:=AW (BP (λg f=>Jy (t16 b a g f)) b a) (λk n=>(z21 Jy q) (t21 b a g f k n)) b a g f k n) F2 (by simp only[ih]<;>rfl)
theorem e21(Jy:K_)(b:UInt64)(a:LB):x21 Jy b a=QH (λg f=>Jy (t16 b a g f)) b a:=by funext g f k n;exact Eq.trans F2 ((i21 Jy b a g f Cu k n).trans (by rw[Au];rfl))
theorem i16(b:UInt64)(a:LB):∀(q:Nat) (g:Int) (f:LQ),z16 q (t16 b a g f)=Ln b a q g f:=
 ind (λ_ _=>by kernel_rfl) λq ih g f=>Eq.trans (b:=CG (x21 (z16 q) b a) (NX x27) b a g f) F2 (by simp only[e21,e27,ih]<;>rfl)
def k:Kc P_ gl:=⟨(170,⟨H.p,H.r,u2 ZR⟩),co H func170 (λx=>Eq.trans (b:=u2 (UB (λb a g f=>z16 Cu (t16 b a g f))) x) F2 (by simp only[i16,Au]<;>rfl))⟩
end F170
namespace F123
def H:Hd:=⟨[Sb],[Sq,Si],.d,kt [F170.k] false,[],f123⟩
def k:Kc P_ gl:=⟨(123,⟨H.p,H.r,VR⟩),co H func123⟩
end F123
namespace F124
abbrev R_:=LX
def H:Hd:=⟨[Sq],[.lf (.vec 16 (.int .i32)) none],(.seq .d (.seq .d (.cut [2,3] [] (.seq .d (.blk (.loop [0,2,3,5] [] .d))) .d))),kt [] false,[],f124⟩
def t4(f:UInt64)(a:Int)(b:LX):S:=⟨[(0,vq f),(2,.ptr 0 []),(3,.ptr 1 []),(5,vi a)],[.box 132 (.val (.vec 16 (.int .i32)) (List.replicate 16 (0:Int32))),.box 132 (.val (.vec 16 (.int .i32)) b)],[]⟩
def z4:Nat->S->Option R_:=H.i P_ [r,r,l,r,d]
theorem i4(f:UInt64):∀(q:Nat) (a:Int) (b:LX),z4 q (t4 f a b)=GO f q a b:=
 ind (λ_ _=>by kernel_rfl) λq ih a b=>Eq.trans (b:=aQ C7 (λa b=>(z4 q) (t4 f a b)) f a b) F2 (by simp only[ih]<;>rfl)
def k:Kc P_ gl:=⟨(124,⟨H.p,H.r,iw⟩),co H func124 (λx=>Eq.trans (b:=M1 (λf a b=>z4 Cu (t4 f a b)) x) F2 (by simp only[i4,Au]<;>rfl))⟩
end F124
namespace F82
def H:Hd:=⟨[Ss],[.lf (.vec 16 (.int .i32)) none,Si],.d,kt [F123.k,F124.k] false,[],f82⟩
def k:Kc P_ gl:=⟨(82,⟨H.p,H.r,Mh⟩),co H func82⟩
end F82
namespace F169
def H:Hd:=⟨[Sq,Sq],[Sq,Sq],.d,kt [] false,[],f169⟩
def k:Kc P_ gl:=⟨(169,⟨H.p,H.r,u2 KU⟩),co H func169⟩
end F169
namespace F120
def H:Hd:=⟨[Sq,Sq],[Sq,Sq],.d,kt [F169.k] false,[],f120⟩
def k:Kc P_ gl:=⟨(120,⟨H.p,H.r,u2 HH⟩),co H func120⟩
end F120
namespace F222
def Md(j10:LI->Option (LI))(bk8:Int->LI->Option (LI))(b:Int)(a:LI):Option (LI):=
if(Cg b (Ac a))then
both (
(jS (Ac a) b (Ac a)).bind λ_=>
(jS (Ac a) 0 b).bind λ_=>
bk8 (Ad b (mH ((Ac a)-b) (ZI a 0 (b-(0:Int))).length)) (Yc a b ((Ac a)-b) (ZI a 0 (b-(0:Int))))) [
(jS (Ac a) 0 b).bind λ_=>
(jS (Ac a) b (Ac a)).bind λ_=>
bk8 (Ad b (mH ((Ac a)-b) (ZI a 0 (b-(0:Int))).length)) (Yc a b ((Ac a)-b) (ZI a 0 (b-(0:Int))))]
else
j10 a
theorem KG: @Md= @Mw:=by
  unfold Md Mw
  repeat (refine funext λ_=>?_)
  repeat' first
    |with_reducible rfl
    |with_reducible refine Kj ?_ ?_
    |with_reducible refine Ke ?_ ?_ ?_
    |with_reducible refine Kl ?_ ?_ ?_ ?_
    |((with_reducible refine Nt ?_ ?_);focus (intro h;first|(subst h;rfl)|(simp only[h];rfl)|(simp[Cm,Ac,h];done)))
    |with_reducible refine Nh λx=>?_
    |with_reducible refine Vo (λ_=>?_) (λ_=>?_)
    |(refine Fs (λh=>by simp only[h,Np,Dp,Dj,ite_self]) (λx h=>?_);(try simp only[h,Dp]))
    |(refine Hv (λh=>?_) (λh=>?_)<;>simp only[h,if_true,if_false,Bool.false_eq_true])
abbrev R_:=LI
def H:Hd:=⟨[Sl,Si],[Ol 3],(.seq .d (.cut [0,1] [] .d (.seq .d (.cut [0,6] [] .d (.seq .d (.seq .d (.cut [7] [] (.blk (.loop [7,8] [] (.seq .d (.blk (.mode false))))) .d))))))),kt [F120.k] true,[],f222⟩
def t8(b:Int)(a:LI):S:=⟨[(7,.own 0),(8,vi b)],[Ai 3 a],[]⟩
def z8:Nat->S->Option R_:=H.i P_ [r,r,r,r,r,r,l,d]
theorem i8:∀(q:Nat) (b:Int) (a:LI),z8 q (t8 b a)=Na q b a:=
 ind (λ_ _=>by kernel_rfl) λq ih b a=>Eq.trans (b:=Md Ut (λb a=>(z8 q) (t8 b a)) b a) F2 (by rw[KG];simp only[ih]<;>rfl)
def k:Kc P_ gl:=⟨(222,⟨H.p,H.r,u2 FD⟩),co H func222 (λx=>Eq.trans (b:=u2 (Xf (Wq (Xg (λb a=>z8 Cu (t8 b a))))) x) F2 (by simp only[i8,Au]<;>rfl))⟩
end F222
namespace F245
abbrev R_:=LI
def H:Hd:=⟨[.lf (.list (.list (.int .i64))) none],[Ol 3],(.seq .d (.seq .d (.cut [0,3] [] (.seq .d (.blk (.loop [0,3,9,10,11] [] .d))) (.cut [0,6] [⟨6,[],.own 3 (.int .i64)⟩] (.keep [0,3,6,23,24] true) (.cut [6] [] (.seq .d (.blk (.loop [6,25,26,27] [] .d))) .d))))),kt [] true,[(268,(.seq .d (.cut [0,1] [] .d .d)))],f245⟩
def t14(a:List LI)(g:Int)(f:LI):S:=⟨[(6,.own 0),(25,.val (.list (.list (.int .i64))) a),(26,vi (Ac a)),(27,vi g)],[Ai 3 f],[]⟩
def z14:Nat->S->Option R_:=H.i P_ [r,r,r,r,l,r,d]
def t9(a:List LI)(b h:Int):S:=⟨[(0,.val (.list (.list (.int .i64))) a),(3,vi b),(9,.val (.list (.list (.int .i64))) a),(10,vi (Ac a)),(11,vi h)],[],[]⟩
def z9:Nat->S->Option R_:=H.i P_ [r,r,l,r,d]
def x14(a:List LI)(g:Int)(f:LI):Option R_:=H.e P_ [r,r,r,r,l,r,d] (t14 a g f)
theorem i14(a:List LI):∀(q:Nat) (g:Int) (f:LI),z14 q (t14 a g f)=Mc a q g f:=
 ind (λ_ _=>by kernel_rfl) λq ih g f=>Eq.trans (b:=Uu Vf (λg f=>(z14 q) (t14 a g f)) a g f) F2 (by simp only[ih]<;>rfl)
theorem e14:x14=Uy:=by funext a g f;exact Eq.trans F2 ((i14 a Cu g f).trans (by rw[Au];rfl))
theorem i9(a:List LI):∀(q:Nat) (b h:Int),z9 q (t9 a b h)=Mx a q b h:=
 ind (λ_ _=>by kernel_rfl) λq ih b h=>Eq.trans (b:=Ws (Vg (Uw (Uv x14))) (λb h=>(z9 q) (t9 a b h)) a b h) F2 (by simp only[e14,ih]<;>rfl)
def k:Kc P_ gl:=⟨(245,⟨H.p,H.r,EI⟩),co H func245 (λx=>Eq.trans (b:=Xb (λa b h=>z9 Cu (t9 a b h)) x) F2 (by simp only[i9,Au]<;>rfl))⟩
end F245
namespace F223
def H:Hd:=⟨[Sl,Sl],[Ol 3],.d,kt [F245.k] false,[],f223⟩
def k:Kc P_ gl:=⟨(223,⟨H.p,H.r,u2 gA⟩),co H func223⟩
end F223
namespace F188
def H:Hd:=⟨[Si,Si],[Ol 3,Si],.d,kt [F79.k,F153.k,F222.k,F223.k] false,[],f188⟩
def k:Kc P_ gl:=⟨(188,⟨H.p,H.r,u2 HY⟩),co H func188⟩
end F188
namespace F171
def H:Hd:=⟨[.agg [Si,Si],Sw],[Si],.d,kt [F80.k,F107.k] false,[],f171⟩
def k:Kc P_ gl:=⟨(171,⟨H.p,H.r,u3 GZ⟩),co H func171⟩
end F171
namespace F210
def H:Hd:=⟨[Si,Sw],[Si],.d,kt [] false,[],f210⟩
def k:Kc P_ gl:=⟨(210,⟨H.p,H.r,u2 WG⟩),co H func210⟩
end F210
namespace F122
def Jr(a:LX):Option (LX):=
zC a (
some ([]:LX)) (
(Cm ([]:LX) a).bind λb=>
some b)
theorem EH: @Jr= @Ci:=by
  unfold Jr Ci
  repeat (refine funext λ_=>?_)
  repeat' first
    |with_reducible rfl
    |with_reducible refine Kj ?_ ?_
    |with_reducible refine Ke ?_ ?_ ?_
    |with_reducible refine Kl ?_ ?_ ?_ ?_
    |((with_reducible refine Nt ?_ ?_);focus (intro h;first|(subst h;rfl)|(simp only[h];rfl)|(simp[Cm,Ac,h];done)))
    |with_reducible refine Nh λx=>?_
    |with_reducible refine Vo (λ_=>?_) (λ_=>?_)
    |(refine Fs (λh=>by simp only[h,Np,Dp,Dj,ite_self]) (λx h=>?_);(try simp only[h,Dp]))
    |(refine Hv (λh=>?_) (λh=>?_)<;>simp only[h,if_true,if_false,Bool.false_eq_true])
def H:Hd:=⟨[Sw],[Ow 21],.d,kt [] false,[],f122⟩
def k:Kc P_ gl:=⟨(122,⟨H.p,H.r,Ci⟩),co H func122 (λx=>Eq.trans (b:=Jr x) F2 (by simp only[EH]<;>rfl))⟩
end F122
namespace F172
abbrev R_:=(LX×Int)
abbrev K_:=S->Option R_
def H:Hd:=⟨[Si,Sw],[Ow 21,Si],(.seq .d (.seq .d (.seq .d (.cut [7] [] (.seq .d (.blk (.loop [0,7,8] [] (.seq .d (.cut [0,7,8] [] (.blk (.keep [0,7,8,24,25,26,27,28,29] true)) .d))))) .d)))),kt [F122.k,F210.k] true,[(211,(.seq .d (.cut [0,2] [] (.seq .d (.blk (.loop [0,2,7,8] [] .d))) .d)))],f172⟩
def t17(b a f:Int)(g:LX):S:=⟨[(0,.view true 0 [] (.int .i32) a ((Ad a b)-a)),(2,vi (Ah ((Ad a b)-a) (1:Int))),(7,vi (Ah ((Ad a b)-a) (1:Int))),(8,vi f)],[Aw 21 g],[[(0,vi b),(7,.own 0),(8,vi a),(24,.own 0),(25,vi a),(26,vi a),(27,vi b),(28,vi (Ad a b)),(29,.view true 0 [] (.int .i32) a ((Ad a b)-a))]]⟩
def z17(LC:K_):Nat->S->Option R_:=H.i P_ [r,r,r,l,r,d,(lp LC),r,l,d,(call 6 211),r,l,r,d]
def t12(b a:Int)(h:LX):S:=⟨[(0,vi b),(7,.own 0),(8,vi a)],[Aw 21 h],[]⟩
def z12:Nat->S->Option R_:=H.i P_ [r,r,r,l,r,d]
def x17(LC:K_)(b a f:Int)(g:LX):Option R_:=H.e P_ [r,r,r,l,r,d,(lp LC),r,l,d,(call 6 211),r,l,r,d] (t17 b a f g)
theorem i17(LC:K_)(b a:Int):∀(q:Nat) (f:Int) (g:LX),z17 LC q (t17 b a f g)=AG (λa h=>LC (t12 b a h)) b a q f g:=
 ind (λ_ _=>by kernel_rfl) λq ih f g=>Eq.trans (b:=RF (dX (λa h=>LC (t12 b a h)) b) (λf g=>(z17 LC q) (t17 b a f g)) b a f g) F2 (by simp only[ih]<;>rfl)
theorem e17(LC:K_)(b:Int):x17 LC b=vU (λa h=>LC (t12 b a h)) b:=by funext a f g;exact Eq.trans F2 ((i17 LC b a Cu f g).trans (by rw[Au];rfl))
theorem i12(b:Int):∀(q:Nat) (a:Int) (h:LX),z12 q (t12 b a h)=AJ b q a h:=
 ind (λ_ _=>by kernel_rfl) λq ih a h=>Eq.trans (b:=eF (x17 (z12 q) b) vH b a h) F2 (by simp only[e17,ih]<;>rfl)
def k:Kc P_ gl:=⟨(172,⟨H.p,H.r,u2 yZ⟩),co H func172 (λx=>Eq.trans (b:=u2 (nN (λb a h=>z12 Cu (t12 b a h))) x) F2 (by simp only[i12,Au]<;>rfl))⟩
end F172
namespace F212
abbrev R_:=(Int×LX×LX×Int)
def H:Hd:=⟨[Si,.lf (.vec 16 (.int .i32)) none],[.agg [Si,.lf (.vec 16 (.int .i32)) none,.lf (.vec 16 (.int .i32)) none],Si],(.seq .d (.seq .d (.seq (.seq .d (.blk (.cut [4,6,9,11] [] .d .d))) .d))),kt [] false,[],f212⟩
def k:Kc P_ gl:=⟨(212,⟨H.p,H.r,u2 qY⟩),co H func212⟩
end F212
namespace F173
def H:Hd:=⟨[Si,.lf (.vec 16 (.int .i32)) none],[.agg [Si,Sx,.agg [Si,.lf (.vec 16 (.int .i32)) none,.lf (.vec 16 (.int .i32)) none]],Si],.d,kt [F212.k] false,[],f173⟩
def k:Kc P_ gl:=⟨(173,⟨H.p,H.r,u2 vB⟩),co H func173⟩
end F173
namespace F213
def H:Hd:=⟨[.agg [Si,Sx,.agg [Si,.lf (.vec 16 (.int .i32)) none,.lf (.vec 16 (.int .i32)) none]]],[Si],.d,kt [F212.k] false,[],f213⟩
def k:Kc P_ gl:=⟨(213,⟨H.p,H.r,u5 Th⟩),co H func213⟩
end F213
namespace F240
def H:Hd:=⟨[Si],[Si,Si],.d,kt [] false,[],f240⟩
def k:Kc P_ gl:=⟨(240,⟨H.p,H.r,fU⟩),co H func240⟩
end F240
namespace F241
def H:Hd:=⟨[Si,Sx],[Sx],.d,kt [] false,[],f241⟩
def k:Kc P_ gl:=⟨(241,⟨H.p,H.r,u2 RI⟩),co H func241⟩
end F241
namespace F214
def H:Hd:=⟨[Si,Sx],[Sx,Si],.d,kt [F240.k,F241.k] false,[],f214⟩
def k:Kc P_ gl:=⟨(214,⟨H.p,H.r,u2 Ti⟩),co H func214⟩
end F214
namespace F265
def H:Hd:=⟨[.agg [Si,.lf (.vec 16 (.int .i32)) none,.lf (.vec 16 (.int .i32)) none]],[Si],.d,kt [] false,[],f265⟩
def k:Kc P_ gl:=⟨(265,⟨H.p,H.r,u3 GH⟩),co H func265⟩
end F265
namespace F242
abbrev R_:=(Int32×Int)
def H:Hd:=⟨[.agg [Si,.lf (.vec 16 (.int .i32)) none,.lf (.vec 16 (.int .i32)) none]],[Sx,Si],(.seq .d (.seq .d (.seq .d (.cut [1,5] [] (.seq .d (.blk (.loop [1,5,18,19] [] .d))) .d)))),kt [F265.k] false,[],f242⟩
def t4(b:LX)(a:Int)(f:LX)(h:Int32)(g:Int):S:=⟨[(1,.ptr 0 []),(5,vx h),(18,.val (.vec 16 (.int .i32)) b),(19,vi g)],[.box 257 (.agg [vi a,.val (.vec 16 (.int .i32)) b,.val (.vec 16 (.int .i32)) f])],[]⟩
def z4:Nat->S->Option R_:=H.i P_ [r,r,r,l,r,d]
theorem i4(b:LX)(a:Int)(f:LX):∀(q:Nat) (h:Int32) (g:Int),z4 q (t4 b a f h g)=Rf b a f q h g:=
 ind (λ_ _=>by kernel_rfl) λq ih h g=>Eq.trans (b:=HB TO (λh g=>(z4 q) (t4 b a f h g)) b a f h g) F2 (by simp only[ih]<;>rfl)
def k:Kc P_ gl:=⟨(242,⟨H.p,H.r,u3 PB⟩),co H func242 (λx=>Eq.trans (b:=u3 (TJ (λb a f h g=>z4 Cu (t4 b a f h g))) x) F2 (by simp only[i4,Au]<;>rfl))⟩
end F242
namespace F293
def H:Hd:=⟨[Si],[Sx],.d,kt [] false,[],f293⟩
def k:Kc P_ gl:=⟨(293,⟨H.p,H.r,VH⟩),co H func293⟩
end F293
namespace F266
abbrev R_:=(Int×LX×LX×Int)
def H:Hd:=⟨[.agg [Si,.lf (.vec 16 (.int .i32)) none,.lf (.vec 16 (.int .i32)) none],Sx],[.agg [Si,.lf (.vec 16 (.int .i32)) none,.lf (.vec 16 (.int .i32)) none],Si],(.seq .d (.seq .d (.seq .d (.cut [2,4] [] (.seq .d (.blk (.loop [1,2,4,19,20] [] .d))) .d)))),kt [F265.k,F293.k] false,[],f266⟩
def t4(h:Int32)(f:LX)(g a:Int)(b:LX):S:=⟨[(1,vx h),(2,.ptr 0 []),(4,.ptr 1 []),(19,.val (.vec 16 (.int .i32)) f),(20,vi a)],[.box 257 (.agg [vi g,.val (.vec 16 (.int .i32)) b,.val (.vec 16 (.int .i32)) f]),.box 257 (.agg [vi 0,.val (.vec 16 (.int .i32)) (List.replicate 16 (0:Int32)),.val (.vec 16 (.int .i32)) (List.replicate 16 (0:Int32))])],[]⟩
def z4:Nat->S->Option R_:=H.i P_ [r,r,r,l,r,d]
theorem i4(h:Int32)(f:LX)(g:Int):∀(q:Nat) (a:Int) (b:LX),z4 q (t4 h f g a b)=Qw h f g q a b:=
 ind (λ_ _=>by kernel_rfl) λq ih a b=>Eq.trans (b:=HC mD (λa b=>(z4 q) (t4 h f g a b)) h f g a b) F2 (by simp only[ih]<;>rfl)
def k:Kc P_ gl:=⟨(266,⟨H.p,H.r,u4 aR⟩),co H func266 (λx=>Eq.trans (b:=u4 (TZ (λh f g a b=>z4 Cu (t4 h f g a b))) x) F2 (by simp only[i4,Au]<;>rfl))⟩
end F266
namespace F267
def TB(j2:Int32->Int->LX->LX->Option (Int×LX×LX×Int))(b:Int)(f a:LX)(g:Int32):Option (Int×LX×LX×Int):=
(GH b f a).bind λh=>
if(Bc h 0)then
some (0,(List.replicate 16 (0:Int32)),(List.replicate 16 (0:Int32)),h)
else
both (
(jS 16 1 16).bind λ_=>
(jS 16 0 16).bind λ_=>
j2 g b f a) [
(jS 16 0 16).bind λ_=>
(jS 16 1 16).bind λ_=>
j2 g b f a]
theorem uU: @TB= @MY:=by
  unfold TB MY
  repeat (refine funext λ_=>?_)
  repeat' first
    |with_reducible rfl
    |with_reducible refine Kj ?_ ?_
    |with_reducible refine Ke ?_ ?_ ?_
    |with_reducible refine Kl ?_ ?_ ?_ ?_
    |((with_reducible refine Nt ?_ ?_);focus (intro h;first|(subst h;rfl)|(simp only[h];rfl)|(simp[Cm,Ac,h];done)))
    |with_reducible refine Nh λx=>?_
    |with_reducible refine Vo (λ_=>?_) (λ_=>?_)
    |(refine Fs (λh=>by simp only[h,Np,Dp,Dj,ite_self]) (λx h=>?_);(try simp only[h,Dp]))
    |(refine Hv (λh=>?_) (λh=>?_)<;>simp only[h,if_true,if_false,Bool.false_eq_true])
abbrev R_:=(Int×LX×LX×Int)
def H:Hd:=⟨[.agg [Si,.lf (.vec 16 (.int .i32)) none,.lf (.vec 16 (.int .i32)) none],Sx],[.agg [Si,.lf (.vec 16 (.int .i32)) none,.lf (.vec 16 (.int .i32)) none],Si],(.seq .d (.seq .d (.cut [1,2,4] [] .d .d))),kt [F265.k] false,[],f267⟩
def k:Kc P_ gl:=⟨(267,⟨H.p,H.r,u4 kK⟩),co H func267 (λx=>Eq.trans (b:=u4 (TB ZH) x) F2 (by simp only[uU]<;>rfl))⟩
end F267
namespace F243
def H:Hd:=⟨[.agg [Si,.lf (.vec 16 (.int .i32)) none,.lf (.vec 16 (.int .i32)) none],Sx,Sx],[.agg [Si,.lf (.vec 16 (.int .i32)) none,.lf (.vec 16 (.int .i32)) none]],.d,kt [F266.k,F267.k] false,[],f243⟩
def k:Kc P_ gl:=⟨(243,⟨H.p,H.r,u5 NZ⟩),co H func243⟩
end F243
namespace F215
def H:Hd:=⟨[.agg [Si,.lf (.vec 16 (.int .i32)) none,.lf (.vec 16 (.int .i32)) none],Sx],[Sx,.agg [Si,.lf (.vec 16 (.int .i32)) none,.lf (.vec 16 (.int .i32)) none],Si],.d,kt [F242.k,F243.k] false,[],f215⟩
def k:Kc P_ gl:=⟨(215,⟨H.p,H.r,u4 SZ⟩),co H func215⟩
end F215
namespace F174
def DR(a:Int)(b:Int32)(f:Int)(g h:LX)(k:Int32):Option (Int32×Int×Int32×Int×LX×LX×Int):=
(Th a b f g h).bind λm=>
if(Bc m 0)then
some (0,0,0,0,(List.replicate 16 (0:Int32)),(List.replicate 16 (0:Int32)),m)
else
(Ti a b).bind λ(n,y)=>
(SZ f g h (Ah k n)).bind λ(o,p,u,v,w)=>
bo (
some (o,a,k,p,u,v,w))
theorem iB: @DR= @Qv:=by
  unfold DR Qv;simp only[QJ,Ya,Yt]
def H:Hd:=⟨[.agg [Si,Sx,.agg [Si,.lf (.vec 16 (.int .i32)) none,.lf (.vec 16 (.int .i32)) none]],Sx],[Sx,.agg [Si,Sx,.agg [Si,.lf (.vec 16 (.int .i32)) none,.lf (.vec 16 (.int .i32)) none]],Si],(.seq .d (.seq .d (.seq .d (.seq .d (.seq (.mode false) .d))))),kt [F213.k,F214.k,F215.k] false,[],f174⟩
def k:Kc P_ gl:=⟨(174,⟨H.p,H.r,u6 Qv⟩),co H func174 (λx=>Eq.trans (b:=u6 DR x) F2 (by simp only[iB]<;>rfl))⟩
end F174
namespace F175
def H:Hd:=⟨[Sx],[Su],.d,kt [] false,[],f175⟩
def k:Kc P_ gl:=⟨(175,⟨H.p,H.r,jN⟩),co H func175⟩
end F175
namespace F125
abbrev R_:=(LU×Int)
def H:Hd:=⟨[.agg [Si,Si],.lf (.vec 16 (.int .i32)) none,Sw],[Ov 201,Si],(.seq .d (.seq .d (.seq .d (.seq .d (.seq .d (.cut [3,9,11] [] (.seq .d (.blk (.loop [3,4,9,11,36] [] .d))) (.seq .d (.cut [13] [] (.seq .d (.blk (.loop [3,11,13,49,50,51] [⟨13,[],.own 201 (.int .u32)⟩] .d))) .d)))))))),kt [F171.k,F172.k,F173.k,F174.k,F175.k] false,[],f125⟩
def t10(b:LX)(a f g:Int)(k:List (Int×Int32×(Int×LX×LX×Unit)×Unit))(h:LU):S:=⟨[(3,.ptr 0 []),(11,.ptr 1 []),(13,.own 2),(49,.own 3),(50,vi (Ac b)),(51,vi g)],[.box 23 (.agg [vi a,vi f]),.box 260 (.val (.vec 6 (.cons (.int .i64) (.cons (.int .i32) (.cons (.cons (.int .i64) (.cons (.vec 16 (.int .i32)) (.cons (.vec 16 (.int .i32)) .nil))) .nil)))) k),Av 201 h,Aw 21 b],[]⟩
def z10:Nat->S->Option R_:=H.i P_ [r,r,r,r,r,r,r,l,r,d]
def t7(a f:Int)(n b:LX)(o:Int)(m:List (Int×Int32×(Int×LX×LX×Unit)×Unit)):S:=⟨[(3,.ptr 0 []),(4,.ptr 1 []),(9,.own 2),(11,.ptr 3 []),(36,vi o)],[.box 23 (.agg [vi a,vi f]),.box 132 (.val (.vec 16 (.int .i32)) n),Aw 21 b,.box 260 (.val (.vec 6 (.cons (.int .i64) (.cons (.int .i32) (.cons (.cons (.int .i64) (.cons (.vec 16 (.int .i32)) (.cons (.vec 16 (.int .i32)) .nil))) .nil)))) m)],[]⟩
def z7:Nat->S->Option R_:=H.i P_ [r,r,r,r,r,l,r,d]
def x10(b:LX)(a f g:Int)(k:List (Int×Int32×(Int×LX×LX×Unit)×Unit))(h:LU):Option R_:=H.e P_ [r,r,r,r,r,r,r,l,r,d] (t10 b a f g k h)
theorem i10(b:LX)(a f:Int):∀(q:Nat) (g:Int) (k:List (Int×Int32×(Int×LX×LX×Unit)×Unit)) (h:LU),z10 q (t10 b a f g k h)=Iu b a f q g k h:=
 ind (λ_ _ _=>by kernel_rfl) λq ih g k h=>Eq.trans (b:=Qj QS (λg k h=>(z10 q) (t10 b a f g k h)) b a f g k h) F2 (by simp only[ih]<;>rfl)
theorem e10:x10=OB:=by funext b a f g k h;exact Eq.trans F2 ((i10 b a f Cu g k h).trans (by rw[Au];rfl))
theorem i7(a f:Int)(n b:LX):∀(q:Nat) (o:Int) (m:List (Int×Int32×(Int×LX×LX×Unit)×Unit)),z7 q (t7 a f n b o m)=CH a f n b q o m:=
 ind (λ_ _=>by kernel_rfl) λq ih o m=>Eq.trans (b:=RJ (RB x10) (λo m=>(z7 q) (t7 a f n b o m)) a f n b o m) F2 (by simp only[e10,ih]<;>rfl)
def k:Kc P_ gl:=⟨(125,⟨H.p,H.r,u4 BS⟩),co H func125 (λx=>Eq.trans (b:=u4 (BT (λa f n b o m=>z7 Cu (t7 a f n b o m))) x) F2 (by simp only[i7,Au]<;>rfl))⟩
end F125
namespace F176
def H:Hd:=⟨[],[.agg [Si,Si,Sq,Sq]],.d,kt [] false,[],f176⟩
def k:Kc P_ gl:=⟨(176,⟨H.p,H.r,λ_=>oO⟩),co H func176⟩
end F176
namespace F126
abbrev R_:=((List (Int×Int×UInt64×UInt64×Unit)))
def H:Hd:=⟨[],[.lf (.vec 6 (.cons (.int .i64) (.cons (.int .i64) (.cons (.int .u64) (.cons (.int .u64) .nil))))) none],(.seq .d (.seq .d (.cut [0,1] [] (.seq .d (.blk (.loop [0,1,3] [] .d))) .d))),kt [F176.k] false,[],f126⟩
def t4(b:Int)(a:List (Int×Int×UInt64×UInt64×Unit)):S:=⟨[(0,.ptr 0 []),(1,.ptr 1 []),(3,vi b)],[.box 197 (.val (.vec 6 (.cons (.int .i64) (.cons (.int .i64) (.cons (.int .u64) (.cons (.int .u64) .nil))))) (List.replicate 6 ((0:Int),(0:Int),(0:UInt64),(0:UInt64),()))),.box 197 (.val (.vec 6 (.cons (.int .i64) (.cons (.int .i64) (.cons (.int .u64) (.cons (.int .u64) .nil))))) a)],[]⟩
def z4:Nat->S->Option R_:=H.i P_ [r,r,l,r,d]
theorem i4:∀(q:Nat) (b:Int) (a:List (Int×Int×UInt64×UInt64×Unit)),z4 q (t4 b a)=AQ q b a:=
 ind (λ_ _=>by kernel_rfl) λq ih b a=>Eq.trans (b:=SU SQ (λb a=>(z4 q) (t4 b a)) b a) F2 (by simp only[ih]<;>rfl)
def k:Kc P_ gl:=⟨(126,⟨H.p,H.r,λ_=>CU⟩),co H func126 (λx=>Eq.trans (b:=BM (λb a=>z4 Cu (t4 b a))) F2 (by simp only[i4,Au]<;>rfl))⟩
end F126
namespace F177
def H:Hd:=⟨[.agg [Sb,Si]],[Si],.d,kt [] false,[],f177⟩
def k:Kc P_ gl:=⟨(177,⟨H.p,H.r,u2 Hp⟩),co H func177⟩
end F177
namespace F178
def OM(j4:Int->Int->UInt64->UInt64->Option Int)(a b:Int)(f g:UInt64):Option Int:=
both (
bo (
j4 a b f g)) [
j4 a b f g]
theorem pV: @OM= @GY:=by
  unfold OM GY
  repeat (refine funext λ_=>?_)
  repeat' first
    |with_reducible rfl
    |with_reducible refine Kj ?_ ?_
    |with_reducible refine Ke ?_ ?_ ?_
    |with_reducible refine Kl ?_ ?_ ?_ ?_
    |((with_reducible refine Nt ?_ ?_);focus (intro h;first|(subst h;rfl)|(simp only[h];rfl)|(simp[Cm,Ac,h];done)))
    |with_reducible refine Nh λx=>?_
    |with_reducible refine Vo (λ_=>?_) (λ_=>?_)
    |(refine Fs (λh=>by simp only[h,Np,Dp,Dj,ite_self]) (λx h=>?_);(try simp only[h,Dp]))
    |(refine Hv (λh=>?_) (λh=>?_)<;>simp only[h,if_true,if_false,Bool.false_eq_true])
def NN(j3:Int->Int->UInt64->UInt64->Option Int)(a b:Int)(f g:UInt64):Option Int:=
both (
bo (
j3 a b f g)) [
j3 a b f g]
theorem qM: @NN= @HD:=by
  unfold NN HD
  repeat (refine funext λ_=>?_)
  repeat' first
    |with_reducible rfl
    |with_reducible refine Kj ?_ ?_
    |with_reducible refine Ke ?_ ?_ ?_
    |with_reducible refine Kl ?_ ?_ ?_ ?_
    |((with_reducible refine Nt ?_ ?_);focus (intro h;first|(subst h;rfl)|(simp only[h];rfl)|(simp[Cm,Ac,h];done)))
    |with_reducible refine Nh λx=>?_
    |with_reducible refine Vo (λ_=>?_) (λ_=>?_)
    |(refine Fs (λh=>by simp only[h,Np,Dp,Dj,ite_self]) (λx h=>?_);(try simp only[h,Dp]))
    |(refine Hv (λh=>?_) (λh=>?_)<;>simp only[h,if_true,if_false,Bool.false_eq_true])
abbrev R_:=Int
def H:Hd:=⟨[.agg [Si,Si,Sq,Sq]],[Si],(.seq .d (.seq .d (.cut [1,3] [] (.mode false) (.cut [1,3] [] (.mode false) .d)))),kt [] false,[],f178⟩
def x3(a b:Int)(f g:UInt64):Option R_:=H.e P_ [r,r,r] ⟨[(1,.ptr 0 []),(3,.ptr 1 [])],[.box 196 (.agg [vi a,vi b,vq f,vq g]),.box 196 (.agg [vi (Dt (fP a (0:Int)) (24:Int)),vi (Dt (fP b (0:Int)) (24:Int)),vq f,vq g])],[]⟩
theorem e3:x3=UH:=Eq.trans (b:=OM TD) F2 (by rw[pV];rfl)
def k:Kc P_ gl:=⟨(178,⟨H.p,H.r,u4 PW⟩),co H func178 (λx=>Eq.trans (b:=u4 (NN x3) x) F2 (by rw[qM];simp only[e3]<;>rfl))⟩
end F178
namespace F179
def H:Hd:=⟨[.agg [Si,Si,Sq,Sq],Su],[Si,Su],.d,kt [] false,[],f179⟩
def k:Kc P_ gl:=⟨(179,⟨H.p,H.r,u5 GQ⟩),co H func179⟩
end F179
namespace F75
def Lk(a:LB):Option (LB):=
zC a (
some ([]:LB)) (
(Cm ([]:LB) a).bind λb=>
some b)
theorem JZ: @Lk= @Bb:=by
  unfold Lk Bb
  repeat (refine funext λ_=>?_)
  repeat' first
    |with_reducible rfl
    |with_reducible refine Kj ?_ ?_
    |with_reducible refine Ke ?_ ?_ ?_
    |with_reducible refine Kl ?_ ?_ ?_ ?_
    |((with_reducible refine Nt ?_ ?_);focus (intro h;first|(subst h;rfl)|(simp only[h];rfl)|(simp[Cm,Ac,h];done)))
    |with_reducible refine Nh λx=>?_
    |with_reducible refine Vo (λ_=>?_) (λ_=>?_)
    |(refine Fs (λh=>by simp only[h,Np,Dp,Dj,ite_self]) (λx h=>?_);(try simp only[h,Dp]))
    |(refine Hv (λh=>?_) (λh=>?_)<;>simp only[h,if_true,if_false,Bool.false_eq_true])
def H:Hd:=⟨[Sb],[Ob 5],.d,kt [] false,[],f75⟩
def k:Kc P_ gl:=⟨(75,⟨H.p,H.r,Bb⟩),co H func75 (λx=>Eq.trans (b:=Lk x) F2 (by simp only[JZ]<;>rfl))⟩
end F75
namespace F216
def H:Hd:=⟨[.agg [Sb,Si]],[.agg [Ob 5,Si]],.d,kt [F75.k] false,[],f216⟩
def k:Kc P_ gl:=⟨(216,⟨H.p,H.r,u2 VO⟩),co H func216⟩
end F216
namespace F180
abbrev R_:=(LB×Int×Int)
abbrev K_:=S->Option R_
def H:Hd:=⟨[.agg [Sb,Si],Sq,Si],[.agg [Ob 5,Si],Si],(.seq .d (.seq .d (.seq .d (.cut [3,6] [] (.keep [1,2,3,6,40,41] true) .d)))),kt [F177.k,F216.k] false,[(217,(.blk (.loop [0,1,2] [] (.seq .d (.blk (.cut [0,1,2] [] .d (.seq .d (.cut [0,1,2,7] [] .d .d))))))))],f180⟩
def t15(b:UInt64)(a:Int)(m:UInt64)(h f:Int)(o:LB):S:=⟨[(0,.ptr 0 []),(1,vq m),(2,vi h)],[.box 200 (.agg [.own 2,vi f]),.box 200 (.agg [.nils,vi 0]),Ab 5 o],[[(1,vq b),(2,vi a),(3,.ptr 0 []),(6,.ptr 1 []),(40,vq b),(41,vi a)]]⟩
def z15:Nat->S->Option R_:=H.i P_ [r,r,r,l,(call 2 217),d]
def t22(b:UInt64)(a:Int)(n:UInt64)(k g:Int)(p:LB):S:=⟨[(0,.ptr 0 []),(1,vq n),(2,vi k)],[.box 200 (.agg [.own 2,vi g]),.box 200 (.agg [.nils,vi 0]),Ab 5 p],[[(1,vq b),(2,vi a),(3,.ptr 0 []),(6,.ptr 1 []),(40,vq b),(41,vi a)]]⟩
def z22:Nat->S->Option R_:=H.i P_ [r,r,r,l,(call 2 217),d]
theorem i15(b:UInt64)(a:Int):∀(q:Nat) (m:UInt64) (h f:Int) (o:LB),z15 q (t15 b a m h f o)=Ml b a q m h f o:=
 ind (λ_ _ _ _=>by kernel_rfl) λq ih m h f o=>Eq.trans (b:=MW (MU (λm h f o=>(z15 q) (t15 b a m h f o)) b a) YF b a m h f o) F2 (by simp only[ih]<;>rfl)
theorem i22(b:UInt64)(a:Int):∀(q:Nat) (n:UInt64) (k g:Int) (p:LB),z22 q (t22 b a n k g p)=YV b a q n k g p:=
 ind (λ_ _ _ _=>by kernel_rfl) λq ih n k g p=>Eq.trans (b:=oW (qP (λn k g p=>(z22 q) (t22 b a n k g p)) b a) rU b a n k g p) F2 (by simp only[ih]<;>rfl)
def k:Kc P_ gl:=⟨(180,⟨H.p,H.r,u4 PN⟩),co H func180 (λx=>Eq.trans (b:=u4 (eP (λb a m h f o=>z15 Cu (t15 b a m h f o)) (λb a n k g p=>z22 Cu (t22 b a n k g p))) x) F2 (by simp only[i15,i22,Au]<;>rfl))⟩
end F180
namespace F218
def H:Hd:=⟨[Su,Si],[Sz],.d,kt [] false,[],f218⟩
def k:Kc P_ gl:=⟨(218,⟨H.p,H.r,u2 Ur⟩),co H func218⟩
end F218
namespace F244
def H:Hd:=⟨[Si],[Si,Si],.d,kt [] false,[],f244⟩
def k:Kc P_ gl:=⟨(244,⟨H.p,H.r,ZV⟩),co H func244⟩
end F244
namespace F219
def H:Hd:=⟨[.agg [Sb,Si],Si],[.agg [Ob 5,Si],Si],.d,kt [F177.k,F180.k,F244.k] false,[],f219⟩
def k:Kc P_ gl:=⟨(219,⟨H.p,H.r,u3 SM⟩),co H func219⟩
end F219
namespace F181
abbrev R_:=(LB×Int×Int)
def H:Hd:=⟨[.agg [Sb,Si],Su,Si],[.agg [Ob 5,Si],Si],(.seq .d (.seq .d (.seq .d (.seq .d (.cut [3,6,9,10,11] [] .d .d))))),kt [F177.k,F180.k,F218.k,F219.k] false,[],f181⟩
def k:Kc P_ gl:=⟨(181,⟨H.p,H.r,u4 ZA⟩),co H func181⟩
end F181
namespace F127
def KY(k u n:Int)(a:UInt64)(b:UInt32)(o:UInt64)(m:LB):Option (LB×Int×Int×Int×UInt64×UInt64×Int):=
(λaf:Option (LB×Int×Int×Int×UInt64×UInt64×Int)=>
both (
bo (
af)) [
af]) (
some (m,k,u,n,(Ad a (Ah (Ae b:UInt64) (Bv a (GI.toZ (4:UInt64)).toNat))),o,0))
theorem nT: @KY= @EC:=by
  unfold KY EC
  try simp only[QJ,Ya,Yt]
  all_goals
    repeat (refine funext λ_=>?_)
    repeat' first
      |with_reducible rfl
      |with_reducible refine Kj ?_ ?_
      |with_reducible refine Ke ?_ ?_ ?_
      |with_reducible refine Kl ?_ ?_ ?_ ?_
      |((with_reducible refine Nt ?_ ?_);focus (intro h;first|(subst h;rfl)|(simp only[h];rfl)|(simp[Cm,Ac,h];done)))
      |with_reducible refine Nh λx=>?_
      |with_reducible refine Vo (λ_=>?_) (λ_=>?_)
      |(refine Fs (λh=>by simp only[h,Np,Dp,Dj,ite_self]) (λx h=>?_);(try simp only[h,Dp]))
      |(refine Hv (λh=>?_) (λh=>?_)<;>simp only[h,if_true,if_false,Bool.false_eq_true])
abbrev R_:=(LB×Int×Int×Int×UInt64×UInt64×Int)
def H:Hd:=⟨[.agg [Sb,Si],.agg [Si,Si,Sq,Sq],Su],[.agg [Ob 5,Si],.agg [Si,Si,Sq,Sq],Si],(.seq .d (.cut [2,3,4,6,7] [] .d (.seq .d (.seq .d (.cut [2,3,4,6,7,11] [] .d (.seq .d (.cut [3,4,6,7] [] (.keep [2,3,4,6,7,65] true) (.seq (.mode false) .d)))))))),kt [F177.k,F178.k,F179.k,F180.k,F181.k] false,[(182,(.seq .d (.seq .d (.seq .d (.blk (.cut [0,1,4] [] (.blk (.seq .d (.keep [0,1,4,6,18,19,20,21,22,23,24,25] true))) (.cut [] [] (.keep [0,1,4,27,28,29,30,31,32,33,34] true) .d))))))),(220,.d)],f127⟩
def x10(k u n:Int)(a:UInt64)(b:UInt32)(o:UInt64)(m:LB):Option R_:=H.e P_ [r,r,r,r,r,r,r] ⟨[(3,.ptr 0 []),(4,.ptr 1 []),(6,.ptr 2 []),(7,.ptr 3 [])],[.box 200 (.agg [.own 4,vi k]),.box 196 (.agg [vi u,vi n,vq (Ad a (Ah (Ae b:UInt64) (Bv a (GI.toZ (4:UInt64)).toNat))),vq o]),.box 200 (.agg [.nils,vi 0]),.box 196 (.agg [vi 0,vi 0,vq 0,vq 0]),Ab 5 m],[]⟩
def x8(b:UInt32)(f:Int)(a:UInt64)(k:Int)(m:LB)(n:Int)(o:UInt64):Option R_:=H.e P_ [r,r,r,r,r,r,l,(call 1 182),r,r,r,d,r] ⟨[(0,.ptr 0 []),(1,vu b),(4,.fn 220 [])],[.box 196 (.agg [vi f,vi n,vq a,vq o]),.box 200 (.agg [.own 4,vi k]),.box 200 (.agg [.nils,vi 0]),.box 196 (.agg [vi 0,vi 0,vq 0,vq 0]),Ab 5 m],[[(2,vu b),(3,.ptr 1 []),(4,.ptr 0 []),(6,.ptr 2 []),(7,.ptr 3 []),(65,vu b)]]⟩
theorem e10:x10=QI:=Eq.trans (b:=KY) F2 (by rw[nT];rfl)
theorem e8:x8=Wo:=Eq.trans (b:=TG (TU x10)) F2 (by simp only[e10]<;>rfl)
def k:Kc P_ gl:=⟨(127,⟨H.p,H.r,u7 YS⟩),co H func127 (λx=>Eq.trans (b:=u7 (UM (UE (TE x8))) x) F2 (by simp only[e8]<;>rfl))⟩
end F127
namespace F183
abbrev R_:=(UInt32×Int)
abbrev K_:=S->Option R_
def H:Hd:=⟨[Su,Sb],[Su,Si],(.seq .d (.seq .d (.cut [0,1,6] [] (.keep [0,1,6,12] true) (.cut [0] [] (.seq .d (.blk (.loop [0,6,13,14,15] [] .d))) .d)))),kt [] false,[(221,(.seq .d (.seq .d (.cut [1] [] (.seq .d (.blk (.loop [1,5] [] (.seq .d (.seq .d (.cut [1,5] [] (.blk (.seq .d (.seq .d (.cut [1,2,3,5] [] (.seq .d (.blk (.loop [1,2,3,5,10] [] .d))) .d)))) .d)))))) .d))))],f183⟩
def t28(a:LB)(b:LU)(h:UInt32)(m:Int):S:=⟨[(0,vu h),(6,.ptr 0 []),(13,vb a),(14,vi (Ac a)),(15,vi m)],[.box 340 (.val (.vec 256 (.int .u32)) b)],[]⟩
def z28:Nat->S->Option R_:=H.i P_ [r,r,r,l,r,d]
def t21(f:UInt32)(a:LB)(g:Int)(b:LU)(k:UInt32)(n:Int):S:=⟨[(1,.ptr 0 []),(2,vi g),(3,vu k),(5,vi g),(10,vi n)],[.box 340 (.val (.vec 256 (.int .u32)) b)],[[(0,vu f),(1,vb a)]]⟩
def z21(Jy:K_):Nat->S->Option R_:=H.i P_ [r,r,l,(call 0 221),r,r,l,r,d,(lp Jy),r,r,l,d,r,r,l,r,d]
def t16(f:UInt32)(a:LB)(g:Int)(b:LU):S:=⟨[(1,.ptr 0 []),(5,vi g)],[.box 340 (.val (.vec 256 (.int .u32)) b)],[[(0,vu f),(1,vb a)]]⟩
def z16:Nat->S->Option R_:=H.i P_ [r,r,l,(call 0 221),r,r,l,r,d]
def x28(a:LB)(b:LU)(h:UInt32)(m:Int):Option R_:=H.e P_ [r,r,r,l,r,d] (t28 a b h m)
def x21(Jy:K_)(f:UInt32)(a:LB)(g:Int)(b:LU)(k:UInt32)(n:Int):Option R_:=H.e P_ [r,r,l,(call 0 221),r,r,l,r,d,(lp Jy),r,r,l,d,r,r,l,r,d] (t21 f a g b k n)
theorem i28(a:LB)(b:LU):∀(q:Nat) (h:UInt32) (m:Int),z28 q (t28 a b h m)=Oi a b q h m:=
 ind (λ_ _=>by kernel_rfl) λq ih h m=>Eq.trans (b:=DH OJ (λh m=>(z28 q) (t28 a b h m)) a b h m) F2 (by simp only[ih]<;>rfl)
theorem e28:x28=OX:=by funext a b h m;exact Eq.trans F2 ((i28 a b Cu h m).trans (by rw[Au];rfl))
theorem i21(Jy:K_)(f:UInt32)(a:LB)(g:Int)(b:LU):∀(q:Nat) (k:UInt32) (n:Int),z21 Jy q (t21 f a g b k n)=Ny (λg b=>Jy (t16 f a g b)) f a g b q k n:=
 ind (λ_ _=>by kernel_rfl) λq ih k n=>Eq.trans (b:=BO (CB (λg b=>Jy (t16 f a g b)) f a) (λk n=>(z21 Jy q) (t21 f a g b k n)) f a g b k n) F2 (by simp only[ih]<;>rfl)
theorem e21(Jy:K_)(f:UInt32)(a:LB):x21 Jy f a=NT (λg b=>Jy (t16 f a g b)) f a:=by funext g b k n;exact Eq.trans F2 ((i21 Jy f a g b Cu k n).trans (by rw[Au];rfl))
theorem i16(f:UInt32)(a:LB):∀(q:Nat) (g:Int) (b:LU),z16 q (t16 f a g b)=Le f a q g b:=
 ind (λ_ _=>by kernel_rfl) λq ih g b=>Eq.trans (b:=DJ (x21 (z16 q) f a) (OL (OR x28)) f a g b) F2 (by simp only[e21,e28,ih]<;>rfl)
def k:Kc P_ gl:=⟨(183,⟨H.p,H.r,u2 aF⟩),co H func183 (λx=>Eq.trans (b:=u2 (TR (λf a g b=>z16 Cu (t16 f a g b))) x) F2 (by simp only[i16,Au]<;>rfl))⟩
end F183
namespace F129
def H:Hd:=⟨[Sb],[Su,Si],.d,kt [F183.k] false,[],f129⟩
def k:Kc P_ gl:=⟨(129,⟨H.p,H.r,Ub⟩),co H func129⟩
end F129
namespace F184
def H:Hd:=⟨[Sq,Si],[Sz],.d,kt [] false,[],f184⟩
def k:Kc P_ gl:=⟨(184,⟨H.p,H.r,u2 yY⟩),co H func184⟩
end F184
namespace F130
abbrev R_:=(LB×Int)
def H:Hd:=⟨[Sq,Si],[Ob 5,Si],(.seq .d (.seq .d (.seq .d (.seq .d (.cut [6] [] (.seq .d (.blk (.loop [0,6,21,22] [] .d))) .d))))),kt [F184.k] false,[],f130⟩
def t4(f:UInt64)(g:LB)(a:Int)(b:LB):S:=⟨[(0,vq f),(6,.own 0),(21,vi (Ac g)),(22,vi a)],[Ab 5 b],[]⟩
def z4:Nat->S->Option R_:=H.i P_ [r,r,r,r,l,r,d]
theorem i4(f:UInt64)(g:LB):∀(q:Nat) (a:Int) (b:LB),z4 q (t4 f g a b)=AF f g q a b:=
 ind (λ_ _=>by kernel_rfl) λq ih a b=>Eq.trans (b:=RW eE (λa b=>(z4 q) (t4 f g a b)) f g a b) F2 (by simp only[ih]<;>rfl)
def k:Kc P_ gl:=⟨(130,⟨H.p,H.r,u2 Wm⟩),co H func130 (λx=>Eq.trans (b:=u2 (gC (λf g a b=>z4 Cu (t4 f g a b))) x) F2 (by simp only[i4,Au]<;>rfl))⟩
end F130
namespace F88
abbrev R_:=LB
def H:Hd:=⟨[.lf (.list (.list (.int .u8))) none],[Ob 5],(.seq .d (.seq .d (.cut [0,3] [] (.seq .d (.blk (.loop [0,3,9,10,11] [] .d))) (.cut [0,6] [⟨6,[],.own 5 (.int .u8)⟩] (.keep [0,3,6,23,24] true) (.cut [6] [] (.seq .d (.blk (.loop [6,25,26,27] [] .d))) .d))))),kt [] true,[(135,(.seq .d (.cut [0,1] [] .d .d)))],f88⟩
def t14(a:List LB)(g:Int)(f:LB):S:=⟨[(6,.own 0),(25,.val (.list (.list (.int .u8))) a),(26,vi (Ac a)),(27,vi g)],[Ab 5 f],[]⟩
def z14:Nat->S->Option R_:=H.i P_ [r,r,r,r,l,r,d]
def t9(a:List LB)(b h:Int):S:=⟨[(0,.val (.list (.list (.int .u8))) a),(3,vi b),(9,.val (.list (.list (.int .u8))) a),(10,vi (Ac a)),(11,vi h)],[],[]⟩
def z9:Nat->S->Option R_:=H.i P_ [r,r,l,r,d]
def x14(a:List LB)(g:Int)(f:LB):Option R_:=H.e P_ [r,r,r,r,l,r,d] (t14 a g f)
theorem i14(a:List LB):∀(q:Nat) (g:Int) (f:LB),z14 q (t14 a g f)=Bt a q g f:=
 ind (λ_ _=>by kernel_rfl) λq ih g f=>Eq.trans (b:=Cq Ry (λg f=>(z14 q) (t14 a g f)) a g f) F2 (by simp only[ih]<;>rfl)
theorem e14:x14=Gt:=by funext a g f;exact Eq.trans F2 ((i14 a Cu g f).trans (by rw[Au];rfl))
theorem i9(a:List LB):∀(q:Nat) (b h:Int),z9 q (t9 a b h)=Cb a q b h:=
 ind (λ_ _=>by kernel_rfl) λq ih b h=>Eq.trans (b:=Cw (Gw (Gx (Gv x14))) (λb h=>(z9 q) (t9 a b h)) a b h) F2 (by simp only[e14,ih]<;>rfl)
def k:Kc P_ gl:=⟨(88,⟨H.p,H.r,Dm⟩),co H func88 (λx=>Eq.trans (b:=Lo (λa b h=>z9 Cu (t9 a b h)) x) F2 (by simp only[i9,Au]<;>rfl))⟩
end F88
namespace F83
abbrev R_:=(LB×Int)
abbrev K_:=S->Option R_
def H:Hd:=⟨[.agg [Si,Si],.lf (.vec 16 (.int .i32)) none,Sw],[Ob 5,Si],(.seq .d (.seq .d (.seq .d (.seq .d (.seq .d (.cut [11] [] (.seq .d (.blk (.loop [3,10,11,30,31,32] [⟨11,[0],.own 5 (.int .u8)⟩] (.seq .d (.seq .d (.cut [3,10,11,30,31,32] [] (.blk (.seq .d (.seq .d (.seq .d (.seq .d (.keep [3,10,11,14,30,31,32,59] true)))))) .d)))))) .d)))))),kt [F88.k,F125.k,F126.k,F127.k,F129.k,F130.k] false,[(128,(.seq .d (.seq .d (.blk (.loop [0,3,7,8] [] (.seq .d (.seq .d (.seq (.blk (.seq .d (.cut [0,3,4,7,8] [] .d (.seq .d (.cut [0,3,7,8] [] .d .d))))) .d))))))))],f83⟩
def t44(b:LU)(a g h f:Int)(n:List (Int×Int×UInt64×UInt64×Unit))(m:LB)(o k:Int)(w:LB):S:=⟨[(0,.ptr 0 []),(3,.ptr 1 []),(7,vi h),(8,vi o)],[.box 200 (.agg [.own 7,vi k]),.box 200 (.agg [.own 6,vi h]),.box 23 (.agg [vi a,vi g]),.box 197 (.val (.vec 6 (.cons (.int .i64) (.cons (.int .i64) (.cons (.int .u64) (.cons (.int .u64) .nil))))) n),.box 200 (.agg [.own 6,vi h]),Av 201 b,Ab 5 m,Ab 5 w],[[(3,.ptr 2 []),(10,.ptr 3 []),(11,.ptr 0 []),(14,.ptr 4 []),(30,.own 5),(31,vi (Ac b)),(32,vi f),(59,.agg [.own 6,vi h])]]⟩
def z44(LD:K_):Nat->S->Option R_:=H.i P_ [r,r,r,r,r,l,r,d,(lp LD),r,r,l,d,r,r,r,r,(call 1 128),r,r,d]
def t27(b:LU)(a g f:Int)(u:List (Int×Int×UInt64×UInt64×Unit))(v:Int)(p:LB):S:=⟨[(3,.ptr 0 []),(10,.ptr 1 []),(11,.ptr 2 []),(30,.own 3),(31,vi (Ac b)),(32,vi f)],[.box 23 (.agg [vi a,vi g]),.box 197 (.val (.vec 6 (.cons (.int .i64) (.cons (.int .i64) (.cons (.int .u64) (.cons (.int .u64) .nil))))) u),.box 200 (.agg [.own 4,vi v]),Av 201 b,Ab 5 p],[]⟩
def z27:Nat->S->Option R_:=H.i P_ [r,r,r,r,r,l,r,d]
def x44(LD:K_)(b:LU)(a g h f:Int)(n:List (Int×Int×UInt64×UInt64×Unit))(m:LB)(o k:Int)(w:LB):Option R_:=H.e P_ [r,r,r,r,r,l,r,d,(lp LD),r,r,l,d,r,r,r,r,(call 1 128),r,r,d] (t44 b a g h f n m o k w)
theorem i44(LD:K_)(b:LU)(a g h f:Int)(n:List (Int×Int×UInt64×UInt64×Unit))(m:LB):∀(q:Nat) (o k:Int) (w:LB),z44 LD q (t44 b a g h f n m o k w)=Fb (λf u v p=>LD (t27 b a g f u v p)) b a g h f n m q o k w:=
 ind (λ_ _ _=>by kernel_rfl) λq ih o k w=>Eq.trans (b:=Ql (Pr (λo k w=>(z44 LD q) (t44 b a g h f n m o k w)) h b f a g n m) (Yx (λf u v p=>LD (t27 b a g f u v p)) b a g) b a g h f n m o k w) F2 (by simp only[ih]<;>rfl)
theorem e44(LD:K_)(b:LU)(a g:Int):x44 LD b a g=OY (λf u v p=>LD (t27 b a g f u v p)) b a g:=by funext h f n m o k w;exact Eq.trans F2 ((i44 LD b a g h f n m Cu o k w).trans (by rw[Au];rfl))
theorem i27(b:LU)(a g:Int):∀(q:Nat) (f:Int) (u:List (Int×Int×UInt64×UInt64×Unit)) (v:Int) (p:LB),z27 q (t27 b a g f u v p)=Gi b a g q f u v p:=
 ind (λ_ _ _ _=>by kernel_rfl) λq ih f u v p=>Eq.trans (b:=Qb (x44 (z27 q) b a g) Yk b a g f u v p) F2 (by simp only[e44,ih]<;>rfl)
def k:Kc P_ gl:=⟨(83,⟨H.p,H.r,u4 Jl⟩),co H func83 (λx=>Eq.trans (b:=u4 (BJ (λb a g f u v p=>z27 Cu (t27 b a g f u v p))) x) F2 (by simp only[i27,Au]<;>rfl))⟩
end F83
theorem zB:ConOk Tryz.prog gl 90 TN:=G6 F59.k.2 F82.k.2 F188.k.2 F83.k.2 F137.k.2
namespace F185
abbrev R_:=Bool
def H:Hd:=⟨[.agg [Si,Si,Si,Si,Si]],[Sz],(.seq .d (.cut [1] [] .d .d)),kt [] false,[],f185⟩
def k:Kc P_ gl:=⟨(185,⟨H.p,H.r,u5 Wl⟩),co H func185⟩
end F185
namespace F186
def H:Hd:=⟨[.agg [Si,Si,Si,Si,Si]],[Sz],.d,kt [F153.k] false,[],f186⟩
def k:Kc P_ gl:=⟨(186,⟨H.p,H.r,u5 JR⟩),co H func186⟩
end F186
namespace F131
def H:Hd:=⟨[.agg [Si,Si,Si,Si,Si]],[Si],.d,kt [F185.k,F186.k] false,[],f131⟩
def k:Kc P_ gl:=⟨(131,⟨H.p,H.r,u5 AP⟩),co H func131⟩
end F131
namespace F85
abbrev R_:=(LB×Int)
def H:Hd:=⟨[.agg [Si,Si,Si,Si,Si]],[Ob 5,Si],(.seq .d (.seq .d (.seq .d (.cut [5] [] (.seq .d (.blk (.loop [5,31,32] [] .d))) .d)))),kt [F129.k,F130.k,F131.k] false,[],f85⟩
def t4(b f g h k m:Int)(a:LB):S:=⟨[(5,.own 0),(31,.val (.vec 5 (.int .i64)) ([b,f,g,h,k]:LI)),(32,vi m)],[Ab 5 a],[]⟩
def z4:Nat->S->Option R_:=H.i P_ [r,r,r,l,r,d]
theorem i4(b f g h k:Int):∀(q:Nat) (m:Int) (a:LB),z4 q (t4 b f g h k m a)=Js b f g h k q m a:=
 ind (λ_ _=>by kernel_rfl) λq ih m a=>Eq.trans (b:=Xt Xv (λm a=>(z4 q) (t4 b f g h k m a)) b f g h k m a) F2 (by simp only[ih]<;>rfl)
def k:Kc P_ gl:=⟨(85,⟨H.p,H.r,u5 CR⟩),co H func85 (λx=>Eq.trans (b:=u5 (KZ (λb f g h k m a=>z4 Cu (t4 b f g h k m a))) x) F2 (by simp only[i4,Au]<;>rfl))⟩
end F85
namespace F132
def H:Hd:=⟨[Ss],[Sq,Si],.d,kt [F123.k] false,[],f132⟩
def k:Kc P_ gl:=⟨(132,⟨H.p,H.r,uD⟩),co H func132⟩
end F132
namespace F86
def H:Hd:=⟨[Ss],[Ob 5,Si],.d,kt [F130.k,F132.k] false,[],f86⟩
def k:Kc P_ gl:=⟨(86,⟨H.p,H.r,Um⟩),co H func86⟩
end F86
namespace F133
abbrev R_:=Int
def H:Hd:=⟨[Sl],[Si],(.seq .d (.seq .d (.seq .d (.cut [] [] (.seq .d (.blk (.loop [3,14,15,16] [] .d))) .d)))),kt [] false,[],f133⟩
def t4(a:LI)(f b:Int):S:=⟨[(3,vi f),(14,vl a),(15,vi (Ac a)),(16,vi b)],[],[]⟩
def z4:Nat->S->Option R_:=H.i P_ [r,r,r,l,r,d]
theorem i4(a:LI):∀(q:Nat) (f b:Int),z4 q (t4 a f b)=Oj a q f b:=
 ind (λ_ _=>by kernel_rfl) λq ih f b=>Eq.trans (b:=DX iZ (λf b=>(z4 q) (t4 a f b)) a f b) F2 (by simp only[ih]<;>rfl)
def k:Kc P_ gl:=⟨(133,⟨H.p,H.r,Pj⟩),co H func133 (λx=>Eq.trans (b:=DC (λa f b=>z4 Cu (t4 a f b)) x) F2 (by simp only[i4,Au]<;>rfl))⟩
end F133
namespace F87
abbrev R_:=(LB×Int)
abbrev K_:=S->Option R_
def H:Hd:=⟨[Sl],[Ob 5,Si],(.seq .d (.seq .d (.seq .d (.seq .d (.cut [5,6] [] (.seq .d (.blk (.loop [5,6,17,18,19] [⟨5,[],.own 5 (.int .u8)⟩,⟨6,[0],.own 5 (.int .u8)⟩] (.seq .d (.seq .d (.cut [5,6,17,18,19] [] (.blk (.seq .d (.keep [5,6,8,17,18,19,23,24,25] true))) .d)))))) (.seq .d (.cut [5] [] (.keep [5,6,9,33,34,35] true) .d))))))),kt [F129.k,F130.k,F133.k] false,[(134,.d)],f87⟩
def t8(a:LI)(f:Int)(b:LB):S:=⟨[(5,.ptr 0 []),(6,.fn 134 [.ptr 0 []]),(17,vl a),(18,vi (Ac a)),(19,vi f)],[.box 24 (.own 1),Ab 5 b],[]⟩
def z8:Nat->S->Option R_:=H.i P_ [r,r,r,r,l,r,d]
theorem i8(a:LI):∀(q:Nat) (f:Int) (b:LB),z8 q (t8 a f b)=Nw a q f b:=
 ind (λ_ _=>by kernel_rfl) λq ih f b=>Eq.trans (b:=DW (KO (λf b=>(z8 q) (t8 a f b)) a) KH a f b) F2 (by simp only[ih]<;>rfl)
def k:Kc P_ gl:=⟨(87,⟨H.p,H.r,AI⟩),co H func87 (λx=>Eq.trans (b:=OK (λa f b=>z8 Cu (t8 a f b)) x) F2 (by simp only[i8,Au]<;>rfl))⟩
end F87
namespace F92
def H:Hd:=⟨[Sb],[Si],.d,kt [] false,[],f92⟩
def k:Kc P_ gl:=⟨(92,⟨H.p,H.r,lR⟩),co H func92⟩
end F92
namespace F93
abbrev R_:=LB
def H:Hd:=⟨[.lf (.list (.list (.int .u8))) none],[Ob 5],(.seq .d (.seq .d (.cut [3] [] (.seq .d (.blk (.loop [3,6,7,8] [⟨3,[],.own 5 (.int .u8)⟩] .d))) .d))),kt [] false,[],f93⟩
def t4(a:List LB)(f:Int)(b:LB):S:=⟨[(3,.own 0),(6,.val (.list (.list (.int .u8))) a),(7,vi (Ac a)),(8,vi f)],[Ab 5 b],[]⟩
def z4:Nat->S->Option R_:=H.i P_ [r,r,l,r,d]
theorem i4(a:List LB):∀(q:Nat) (f:Int) (b:LB),z4 q (t4 a f b)=QG a q f b:=
 ind (λ_ _=>by kernel_rfl) λq ih f b=>Eq.trans (b:=gM iK (λf b=>(z4 q) (t4 a f b)) a f b) F2 (by simp only[ih]<;>rfl)
def k:Kc P_ gl:=⟨(93,⟨H.p,H.r,xD⟩),co H func93 (λx=>Eq.trans (b:=fA (λa f b=>z4 Cu (t4 a f b)) x) F2 (by simp only[i4,Au]<;>rfl))⟩
end F93
namespace F50
abbrev R_:=(LB×Int)
abbrev K_:=S->Option R_
def H:Hd:=⟨[.agg [Si,Si,Si,Sw],Ss],[Ob 5,Si],(.seq .d (.seq .d (.seq .d (.seq .d (.seq .d (.seq .d (.seq .d (.seq .d (.cut [8,9,10] [⟨10,[],.own 5 (.int .u8)⟩] .d (.cut [7,8,9,10,11] [] (.keep [7,8,9,10,11,46,48,49,50,51] true) .d)))))))))),kt [F85.k,F86.k,F87.k,F89.k,⟨(90,TN),zB⟩,F92.k,F93.k] false,[(91,(.seq .d (.seq .d (.cut [5] [] (.seq .d (.blk (.loop [1,5,11,12,13] [] (.seq .d (.seq .d (.cut [1,5,11,12,13] [] .d .d)))))) .d))))],f50⟩
def t9(a:List LB)(b f:LB)(g:Int)(h:LI):S:=⟨[(1,.fn 92 []),(5,.own 0),(11,.own 1),(12,vi (Ac a)),(13,vi g)],[Ai 3 h,.arr 24 (.list (.int .u8)) a,Ab 5 b,Ab 5 f],[[(8,.own 1),(9,.own 2),(10,.own 3)]]⟩
def z9:Nat->S->Option R_:=H.i P_ [r,r,r,r,r,r,r,r,r,l,(call 1 91),r,r,l,r,d]
theorem i9(a:List LB)(b f:LB):∀(q:Nat) (g:Int) (h:LI),z9 q (t9 a b f g h)=PX a b f q g h:=
 ind (λ_ _=>by kernel_rfl) λq ih g h=>Eq.trans (b:=gH (bF (λg h=>(z9 q) (t9 a b f g h)) a b f) bY a b f g h) F2 (by simp only[ih]<;>rfl)
def k:Kc P_ gl:=⟨(50,⟨H.p,H.r,u5 wZ⟩),co H func50 (λx=>Eq.trans (b:=u5 (eU (dZ (λa b f g h=>z9 Cu (t9 a b f g h)))) x) F2 (by simp only[i9,Au]<;>rfl))⟩
end F50
namespace F51
def H:Hd:=⟨[Si],[Si,Si],.d,kt [] false,[],f51⟩
def k:Kc P_ gl:=⟨(51,⟨H.p,H.r,rG⟩),co H func51⟩
end F51
namespace F94
def H:Hd:=⟨[Ss],[.agg [Ss,Ob 5,.agg [Si,Si,Si,Si,Si],Ol 3,Si,Ob 5,Sz,Si],Si],.d,kt [] false,[],f94⟩
def k:Kc P_ gl:=⟨(94,⟨H.p,H.r,wR⟩),co H func94⟩
end F94
namespace F193
def KK(a:LB):Option (LB):=
zC a (
some ([]:LB)) (
(Cm ([]:LB) a).bind λb=>
some b)
theorem oH: @KK= @JB:=by
  unfold KK JB
  repeat (refine funext λ_=>?_)
  repeat' first
    |with_reducible rfl
    |with_reducible refine Kj ?_ ?_
    |with_reducible refine Ke ?_ ?_ ?_
    |with_reducible refine Kl ?_ ?_ ?_ ?_
    |((with_reducible refine Nt ?_ ?_);focus (intro h;first|(subst h;rfl)|(simp only[h];rfl)|(simp[Cm,Ac,h];done)))
    |with_reducible refine Nh λx=>?_
    |with_reducible refine Vo (λ_=>?_) (λ_=>?_)
    |(refine Fs (λh=>by simp only[h,Np,Dp,Dj,ite_self]) (λx h=>?_);(try simp only[h,Dp]))
    |(refine Hv (λh=>?_) (λh=>?_)<;>simp only[h,if_true,if_false,Bool.false_eq_true])
def H:Hd:=⟨[Sb],[Ob 5],.d,kt [] false,[],f193⟩
def k:Kc P_ gl:=⟨(193,⟨H.p,H.r,JB⟩),co H func193 (λx=>Eq.trans (b:=KK x) F2 (by simp only[oH]<;>rfl))⟩
end F193
namespace F194
def Mz(a:LI):Option (LI):=
zC a (
some ([]:LI)) (
(Cm ([]:LI) a).bind λb=>
some b)
theorem NB: @Mz= @Ms:=by
  unfold Mz Ms
  repeat (refine funext λ_=>?_)
  repeat' first
    |with_reducible rfl
    |with_reducible refine Kj ?_ ?_
    |with_reducible refine Ke ?_ ?_ ?_
    |with_reducible refine Kl ?_ ?_ ?_ ?_
    |((with_reducible refine Nt ?_ ?_);focus (intro h;first|(subst h;rfl)|(simp only[h];rfl)|(simp[Cm,Ac,h];done)))
    |with_reducible refine Nh λx=>?_
    |with_reducible refine Vo (λ_=>?_) (λ_=>?_)
    |(refine Fs (λh=>by simp only[h,Np,Dp,Dj,ite_self]) (λx h=>?_);(try simp only[h,Dp]))
    |(refine Hv (λh=>?_) (λh=>?_)<;>simp only[h,if_true,if_false,Bool.false_eq_true])
def H:Hd:=⟨[Sl],[Ol 3],.d,kt [] false,[],f194⟩
def k:Kc P_ gl:=⟨(194,⟨H.p,H.r,Ms⟩),co H func194 (λx=>Eq.trans (b:=Mz x) F2 (by simp only[NB]<;>rfl))⟩
end F194
namespace F140
def H:Hd:=⟨[.agg [Ss,Sb,.agg [Si,Si,Si,Si,Si],Sl,Si,Sb,Sz,Si]],[.agg [Ss,Ob 5,.agg [Si,Si,Si,Si,Si],Ol 3,Si,Ob 5,Sz,Si]],.d,kt [F193.k,F194.k] false,[],f140⟩
def k:Kc P_ gl:=⟨(140,⟨H.p,H.r,u12 Hj⟩),co H func140⟩
end F140
namespace F229
def H:Hd:=⟨[.agg [Si,Si,Si,Si,Si]],[Ol 3,Si],.d,kt [F131.k,F188.k] false,[],f229⟩
def k:Kc P_ gl:=⟨(229,⟨H.p,H.r,u5 Ja⟩),co H func229⟩
end F229
namespace F227
def H:Hd:=⟨[.agg [Si,Si,Si,Si,Si],Ss],[Si],.d,kt [] false,[],f227⟩
def k:Kc P_ gl:=⟨(227,⟨H.p,H.r,u6 CA⟩),co H func227⟩
end F227
namespace F195
abbrev R_:=Bool
def H:Hd:=⟨[.agg [Ss,Sb,.agg [Si,Si,Si,Si,Si],Sl,Si,Sb,Sz,Si]],[Sz],(.seq .d (.seq .d (.seq .d (.cut [1,3] [] .d (.seq .d (.seq .d (.seq .d (.cut [1,5] [] (.seq .d (.blk (.loop [1,5,83,84,85] [] .d))) .d)))))))),kt [F133.k,F227.k,F229.k] false,[],f195⟩
def t6(w:LI)(o p:LB)(h b f k m:Int)(g:LI)(a:Int)(n:LB)(u:Bool)(v y aa:Int):S:=⟨[(1,.ptr 0 []),(5,vi y),(83,vl w),(84,vi (Ac w)),(85,vi aa)],[.box 149 (.agg [vs o,vb p,.agg [vi h,vi b,vi f,vi k,vi m],vl g,vi a,vb n,vt u,vi v])],[]⟩
def z6:Nat->S->Option R_:=H.i P_ [r,r,r,r,r,r,r,l,r,d]
theorem i6(w:LI)(o p:LB)(h b f k m:Int)(g:LI)(a:Int)(n:LB)(u:Bool)(v:Int):∀(q:Nat) (y aa:Int),z6 q (t6 w o p h b f k m g a n u v y aa)=KD w o p h b f k m g a n u v q y aa:=
 ind (λ_ _=>by kernel_rfl) λq ih y aa=>Eq.trans (b:=aW bR (λy aa=>(z6 q) (t6 w o p h b f k m g a n u v y aa)) w o p h b f k m g a n u v y aa) F2 (by simp only[ih]<;>rfl)
def k:Kc P_ gl:=⟨(195,⟨H.p,H.r,u12 YD⟩),co H func195 (λx=>Eq.trans (b:=u12 (bW (bQ (λw o p h b f k m g a n u v y aa=>z6 Cu (t6 w o p h b f k m g a n u v y aa)))) x) F2 (by simp only[i6,Au]<;>rfl))⟩
end F195
namespace F161
def H:Hd:=⟨[Sb,Sb],[Sz],.d,kt [] false,[],f161⟩
def k:Kc P_ gl:=⟨(161,⟨H.p,H.r,u2 Mt⟩),co H func161⟩
end F161
namespace F308
def H:Hd:=⟨[Sb,Sb],[Sz],.d,kt [F161.k] false,[],f308⟩
def k:Kc P_ gl:=⟨(308,⟨H.p,H.r,u2 Jt⟩),co H func308⟩
end F308
namespace F309
abbrev R_:=(Int×Int)
def H:Hd:=⟨[Sb],[Si,Si],(.seq .d (.seq .d (.seq .d (.cut [4] [] (.seq .d (.blk (.loop [4,10,11,12] [] .d))) .d)))),kt [] false,[],f309⟩
def t4(a:LB)(b f:Int):S:=⟨[(4,vi b),(10,vb a),(11,vi (Ac a)),(12,vi f)],[],[]⟩
def z4:Nat->S->Option R_:=H.i P_ [r,r,r,l,r,d]
theorem i4(a:LB):∀(q:Nat) (b f:Int),z4 q (t4 a b f)=FR a q b f:=
 ind (λ_ _=>by kernel_rfl) λq ih b f=>Eq.trans (b:=VK WS (λb f=>(z4 q) (t4 a b f)) a b f) F2 (by simp only[ih]<;>rfl)
def k:Kc P_ gl:=⟨(309,⟨H.p,H.r,mA⟩),co H func309 (λx=>Eq.trans (b:=WK (λa b f=>z4 Cu (t4 a b f)) x) F2 (by simp only[i4,Au]<;>rfl))⟩
end F309
namespace F294
def GA(j5:LB->UInt8->UInt8->Option (Int×Int))(a:LB):Option (Int×Int):=
(Jt a ([(73:UInt8),(68:UInt8),(51:UInt8)]:LB)).bind λn=>
if(!n)then
some (0,6)
else
if(Cg (Ac a) 10)then
some (0,24)
else
(Aj a 3).bind λf=>
(Aj a 5).bind λb=>
(λo:Option (Int×Int)=>
(λp:Option (Int×Int)=>
both (
both (
bo (
j5 a f b)) [
o,
o]) [
bo2 (
bo (
j5 a f b)),
p,
p]) (
both (
o) [
bo (
j5 a f b),
both (
bo (
j5 a f b)) [
j5 a f b]])) (
both (
j5 a f b) [
bo (
j5 a f b)])
theorem kQ: @GA= @KL:=by
  unfold GA KL
  try simp only[QJ,Ya,Yt]
  all_goals
    repeat (refine funext λ_=>?_)
    repeat' first
      |with_reducible rfl
      |with_reducible refine Kj ?_ ?_
      |with_reducible refine Ke ?_ ?_ ?_
      |with_reducible refine Kl ?_ ?_ ?_ ?_
      |((with_reducible refine Nt ?_ ?_);focus (intro h;first|(subst h;rfl)|(simp only[h];rfl)|(simp[Cm,Ac,h];done)))
      |with_reducible refine Nh λx=>?_
      |with_reducible refine Vo (λ_=>?_) (λ_=>?_)
      |(refine Fs (λh=>by simp only[h,Np,Dp,Dj,ite_self]) (λx h=>?_);(try simp only[h,Dp]))
      |(refine Hv (λh=>?_) (λh=>?_)<;>simp only[h,if_true,if_false,Bool.false_eq_true])
abbrev R_:=(Int×Int)
def H:Hd:=⟨[Sb],[Si,Si],(.seq .d (.seq .d (.seq .d (.cut [0,4,5] [] (.mode false) (.seq .d (.seq .d (.cut [0,5,6] [] (.cut [0,5,6,43] [] (.keep [0,5,6,7,8,31,32,33,34,35,36,37,38,39,40,41,42,43] true) .d) (.seq .d (.cut [0,5,6] [] .d .d))))))))),kt [F161.k,F308.k,F309.k] false,[(310,.d)],f294⟩
def x6(a:LB)(g:Int)(b:UInt8)(m:Bool):Option R_:=H.e P_ [r,r,r,r,r,r,l,r] ⟨[(0,vb a),(5,.ptr 0 []),(6,vi g),(43,vt m)],[.box 5 (vc b)],[]⟩
def x5(a:LB)(f b:UInt8):Option R_:=H.e P_ [r,r,r,r] ⟨[(0,vb a),(4,.ptr 0 []),(5,.ptr 1 [])],[.box 5 (vc f),.box 5 (vc b)],[]⟩
theorem e6:x6=aT:=F2
theorem e5:x5=bD:=Eq.trans (b:=bZ x6) F2 (by simp only[e6]<;>rfl)
def k:Kc P_ gl:=⟨(294,⟨H.p,H.r,oZ⟩),co H func294 (λx=>Eq.trans (b:=GA x5 x) F2 (by rw[kQ];simp only[e5]<;>rfl))⟩
end F294
namespace F204
abbrev R_:=(UInt64×Int)
def H:Hd:=⟨[Sb],[Sq,Si],(.seq .d (.seq .d (.seq .d (.cut [4] [] (.seq .d (.blk (.loop [4,15,16,17] [] .d))) .d)))),kt [] false,[],f204⟩
def t4(a:LB)(f:UInt64)(b:Int):S:=⟨[(4,vq f),(15,vb a),(16,vi (Ac a)),(17,vi b)],[],[]⟩
def z4:Nat->S->Option R_:=H.i P_ [r,r,r,l,r,d]
theorem i4(a:LB):∀(q:Nat) (f:UInt64) (b:Int),z4 q (t4 a f b)=Zi a q f b:=
 ind (λ_ _=>by kernel_rfl) λq ih f b=>Eq.trans (b:=SA wA (λf b=>(z4 q) (t4 a f b)) a f b) F2 (by simp only[ih]<;>rfl)
def k:Kc P_ gl:=⟨(204,⟨H.p,H.r,fG⟩),co H func204 (λx=>Eq.trans (b:=iX (λa f b=>z4 Cu (t4 a f b)) x) F2 (by simp only[i4,Au]<;>rfl))⟩
end F204
namespace F156
def H:Hd:=⟨[Sb,Si,Si],[Sq,Si],.d,kt [F204.k] false,[],f156⟩
def k:Kc P_ gl:=⟨(156,⟨H.p,H.r,u3 iC⟩),co H func156⟩
end F156
namespace F312
abbrev R_:=LB
def H:Hd:=⟨[Si,Si,Sq],[Ob 5],(.seq .d (.seq .d (.cut [7] [] (.seq .d (.blk (.loop [7,20,21,22] [] .d))) .d))),kt [F130.k] false,[],f312⟩
def t4(a b:Int)(f:UInt64)(h:Int)(g:LB):S:=⟨[(7,.own 0),(20,.own 1),(21,vi (Ac ([(2000:UInt64),(Ae (Ad a (32:Int)):UInt64),(Ae b:UInt64),f,(0:UInt64),(0:UInt64)]:LQ))),(22,vi h)],[Ab 5 g,.arr 55 (.int .u64) ([(2000:UInt64),(Ae (Ad a (32:Int)):UInt64),(Ae b:UInt64),f,(0:UInt64),(0:UInt64)]:LQ)],[]⟩
def z4:Nat->S->Option R_:=H.i P_ [r,r,l,r,d]
theorem i4(a b:Int)(f:UInt64):∀(q:Nat) (h:Int) (g:LB),z4 q (t4 a b f h g)=Zc a b f q h g:=
 ind (λ_ _=>by kernel_rfl) λq ih h g=>Eq.trans (b:=YY nM (λh g=>(z4 q) (t4 a b f h g)) a b f h g) F2 (by simp only[ih]<;>rfl)
def k:Kc P_ gl:=⟨(312,⟨H.p,H.r,u3 jP⟩),co H func312 (λx=>Eq.trans (b:=u3 (oE (λa b f h g=>z4 Cu (t4 a b f h g))) x) F2 (by simp only[i4,Au]<;>rfl))⟩
end F312
namespace F311
def H:Hd:=⟨[Sb,Sq],[.agg [Si,Si],Sz],.d,kt [F156.k,F161.k,F312.k] false,[],f311⟩
def k:Kc P_ gl:=⟨(311,⟨H.p,H.r,u2 NJ⟩),co H func311⟩
end F311
namespace F295
def H:Hd:=⟨[Sb],[Si,Si],.d,kt [F161.k,F308.k,F311.k,F312.k] false,[],f295⟩
def k:Kc P_ gl:=⟨(295,⟨H.p,H.r,U6⟩),co H func295⟩
end F295
namespace F270
def H:Hd:=⟨[Sb],[Si,Si],.d,kt [F294.k,F295.k] false,[],f270⟩
def k:Kc P_ gl:=⟨(270,⟨H.p,H.r,FY⟩),co H func270⟩
end F270
theorem iI:ConOk Tryz.prog gl 224 HM:=K0 ent224 F270.k.2
namespace F192
def H:Hd:=⟨[Si],[.agg [Sz,Si]],.d,kt [] false,[],f192⟩
def k:Kc P_ gl:=⟨(192,⟨H.p,H.r,Am⟩),co H func192⟩
end F192
namespace F271
def H:Hd:=⟨[Ss,Ss],[Sz],.d,kt [] false,[],f271⟩
def k:Kc P_ gl:=⟨(271,⟨H.p,H.r,u2 Oq⟩),co H func271⟩
end F271
namespace F247
def H:Hd:=⟨[Ss,Ss],[Sz],.d,kt [F271.k] false,[],f247⟩
def k:Kc P_ gl:=⟨(247,⟨H.p,H.r,u2 AY⟩),co H func247⟩
end F247
namespace F225
abbrev R_:=Bool
def H:Hd:=⟨[Sb],[Sz],(.seq .d (.cut [] [] (.seq .d (.blk (.loop [0,5,6] [] .d))) .d)),kt [F247.k] false,[],f225⟩
def t4(a:LB)(b:Int):S:=⟨[(0,vb a),(5,.val (.vec 2 .str) ([([73,68,51]:LB),([65,80,69,84,65,71,69,88]:LB)]:List LB)),(6,vi b)],[],[]⟩
def z4:Nat->S->Option R_:=H.i P_ [r,l,r,d]
theorem i4(a:LB):∀(q:Nat) (b:Int),z4 q (t4 a b)=KN a q b:=
 ind (λ_=>by kernel_rfl) λq ih b=>Eq.trans (b:=aY bC (λb=>(z4 q) (t4 a b)) a b) F2 (by simp only[ih]<;>rfl)
def k:Kc P_ gl:=⟨(225,⟨H.p,H.r,DZ⟩),co H func225 (λx=>Eq.trans (b:=bT (λa b=>z4 Cu (t4 a b)) x) F2 (by simp only[i4,Au]<;>rfl))⟩
end F225
namespace F226
abbrev R_:=(Int×Int×Int×Int×Int×Int)
def H:Hd:=⟨[Sb],[.agg [Si,Si,Si,Si,Si],Si],(.seq .d (.seq .d (.seq .d (.seq .d (.seq .d (.seq .d (.seq .d (.cut [2,8] [] (.seq .d (.blk (.loop [0,2,8,9,44,45] [] .d))) .d)))))))),kt [F129.k,F156.k,F185.k,F186.k,F247.k] false,[],f226⟩
def t4(b:LB)(g f:Int)(a:LI):S:=⟨[(0,vb b),(2,.ptr 0 []),(8,.ptr 1 []),(9,vi g),(44,.val (.vec 5 (.int .i64)) ([(2:Int),(2:Int),(2:Int),(4:Int),(4:Int)]:LI)),(45,vi f)],[.box 139 (.agg [vi 0,vi 0,vi 0,vi 0,vi 0]),.box 210 (.val (.vec 5 (.int .i64)) a)],[]⟩
def z4:Nat->S->Option R_:=H.i P_ [r,r,r,r,r,r,r,l,r,d]
theorem i4(b:LB):∀(q:Nat) (g f:Int) (a:LI),z4 q (t4 b g f a)=NV b q g f a:=
 ind (λ_ _ _=>by kernel_rfl) λq ih g f a=>Eq.trans (b:=eK eJ (λg f a=>(z4 q) (t4 b g f a)) b g f a) F2 (by simp only[ih]<;>rfl)
def k:Kc P_ gl:=⟨(226,⟨H.p,H.r,Zt⟩),co H func226 (λx=>Eq.trans (b:=gU (λb g f a=>z4 Cu (t4 b g f a)) x) F2 (by simp only[i4,Au]<;>rfl))⟩
end F226
namespace F228
def H:Hd:=⟨[Sb,Ss],[Sz,Si],.d,kt [F86.k,F161.k] false,[],f228⟩
def k:Kc P_ gl:=⟨(228,⟨H.p,H.r,u2 NC⟩),co H func228⟩
end F228
namespace F230
abbrev R_:=(LI×Int)
def H:Hd:=⟨[Sb,Si],[Ol 3,Si],(.seq .d (.seq .d (.seq .d (.seq .d (.seq .d (.seq .d (.cut [10] [] (.seq .d (.blk (.loop [0,10,48,49] [] .d))) .d))))))),kt [F129.k,F133.k,F156.k] false,[],f230⟩
def t4(a:LB)(f:LI)(g:Int)(b:LI):S:=⟨[(0,vb a),(10,.own 0),(48,vi (Ac f)),(49,vi g)],[Ai 3 b],[]⟩
def z4:Nat->S->Option R_:=H.i P_ [r,r,r,r,r,r,l,r,d]
theorem i4(a:LB)(f:LI):∀(q:Nat) (g:Int) (b:LI),z4 q (t4 a f g b)=TS a f q g b:=
 ind (λ_ _=>by kernel_rfl) λq ih g b=>Eq.trans (b:=lZ lJ (λg b=>(z4 q) (t4 a f g b)) a f g b) F2 (by simp only[ih]<;>rfl)
def k:Kc P_ gl:=⟨(230,⟨H.p,H.r,u2 YW⟩),co H func230 (λx=>Eq.trans (b:=u2 (mR (λa f g b=>z4 Cu (t4 a f g b))) x) F2 (by simp only[i4,Au]<;>rfl))⟩
end F230
namespace F232
def H:Hd:=⟨[.agg [Si,Si,Si,Si,Si]],[.agg [Si,Si]],.d,kt [] false,[],f232⟩
def k:Kc P_ gl:=⟨(232,⟨H.p,H.r,u5 TK⟩),co H func232⟩
end F232
namespace F248
def H:Hd:=⟨[Sb],[Sb,Si],.d,kt [F129.k,F204.k] false,[],f248⟩
def k:Kc P_ gl:=⟨(248,⟨H.p,H.r,CN⟩),co H func248⟩
end F248
namespace F249
def H:Hd:=⟨[Sb],[.agg [Ob 5,Si],Si],.d,kt [F75.k] false,[],f249⟩
def k:Kc P_ gl:=⟨(249,⟨H.p,H.r,su⟩),co H func249⟩
end F249
namespace F274
abbrev R_:=UInt64
def H:Hd:=⟨[.agg [Sb,Si],Si,Si],[Sq],(.seq .d (.seq .d (.cut [7] [] (.blk (.loop [1,2,3,7,8] [] .d)) .d))),kt [] false,[],f274⟩
def t4(b f:Int)(h:LB)(k:Int)(g:UInt64)(a:Int):S:=⟨[(1,vi b),(2,vi f),(3,.ptr 0 []),(7,vq g),(8,vi a)],[.box 200 (.agg [vb h,vi k])],[]⟩
def z4:Nat->S->Option R_:=H.i P_ [r,r,l,d]
theorem i4(b f:Int)(h:LB)(k:Int):∀(q:Nat) (g:UInt64) (a:Int),z4 q (t4 b f h k g a)=IU b f h k q g a:=
 ind (λ_ _=>by kernel_rfl) λq ih g a=>Eq.trans (b:=gJ wS (λg a=>(z4 q) (t4 b f h k g a)) b f h k g a) F2 (by simp only[ih]<;>rfl)
def k:Kc P_ gl:=⟨(274,⟨H.p,H.r,u4 rJ⟩),co H func274 (λx=>Eq.trans (b:=u4 (vK (λb f h k g a=>z4 Cu (t4 b f h k g a))) x) F2 (by simp only[i4,Au]<;>rfl))⟩
end F274
namespace F272
abbrev R_:=(LB×Int×Int)
abbrev K_:=S->Option R_
def H:Hd:=⟨[.agg [Sb,Si],Si,Si],[.agg [Ob 5,Si],Si],(.seq .d (.seq .d (.seq .d (.seq .d (.cut [6,8] [] (.seq .d (.blk (.loop [2,3,6,8,9] [⟨8,[0],.own 5 (.int .u8)⟩] (.seq .d (.cut [2,3,6,8,9] [] (.blk (.seq .d (.keep [2,3,6,8,9,10,39,40,41,42,43] true))) .d))))) .d))))),kt [F177.k,F274.k] false,[(217,(.blk (.loop [0,1,2] [] (.seq .d (.blk (.cut [0,1,2] [] .d (.seq .d (.cut [0,1,2,7] [] .d .d))))))))],f272⟩
def t44(a:Int)(g:LB)(b f:Int)(m n:UInt64)(k h:Int)(u:LB):S:=⟨[(0,.ptr 0 []),(1,vq n),(2,vi k)],[.box 200 (.agg [.own 3,vi h]),.box 200 (.agg [vb g,vi b]),.box 200 (.agg [.nils,vi 0]),Ab 5 u],[[(2,vi a),(3,.ptr 1 []),(6,.ptr 2 []),(8,.ptr 0 []),(9,vi f),(10,vi (Dt (64:Int) (Ah a f))),(39,.agg [vb g,vi b]),(40,vi f),(41,vi (Dt (64:Int) (Ah a f))),(42,vq m),(43,vi (Dt (64:Int) (Ah a f)))]]⟩
def z44(LD:K_):Nat->S->Option R_:=H.i P_ [r,r,r,r,l,r,d,(lp LD),r,l,d,r,(call 5 217),d]
def t27(a:Int)(g:LB)(b f o:Int)(p:LB):S:=⟨[(2,vi a),(3,.ptr 0 []),(6,.ptr 1 []),(8,.ptr 2 []),(9,vi f)],[.box 200 (.agg [vb g,vi b]),.box 200 (.agg [.nils,vi 0]),.box 200 (.agg [.own 3,vi o]),Ab 5 p],[]⟩
def z27:Nat->S->Option R_:=H.i P_ [r,r,r,r,l,r,d]
def x44(LD:K_)(a:Int)(g:LB)(b f:Int)(m n:UInt64)(k h:Int)(u:LB):Option R_:=H.e P_ [r,r,r,r,l,r,d,(lp LD),r,l,d,r,(call 5 217),d] (t44 a g b f m n k h u)
theorem i44(LD:K_)(a:Int)(g:LB)(b f:Int)(m:UInt64):∀(q:Nat) (n:UInt64) (k h:Int) (u:LB),z44 LD q (t44 a g b f m n k h u)=Mm (λf o p=>LD (t27 a g b f o p)) a g b f m q n k h u:=
 ind (λ_ _ _ _=>by kernel_rfl) λq ih n k h u=>Eq.trans (b:=MT (MX (λn k h u=>(z44 LD q) (t44 a g b f m n k h u)) a f g b m) (MP (λf o p=>LD (t27 a g b f o p)) a g b) a g b f m n k h u) F2 (by simp only[ih]<;>rfl)
theorem e44(LD:K_)(a:Int)(g:LB)(b:Int):x44 LD a g b=ZS (λf o p=>LD (t27 a g b f o p)) a g b:=by funext f m n k h u;exact Eq.trans F2 ((i44 LD a g b f m Cu n k h u).trans (by rw[Au];rfl))
theorem i27(a:Int)(g:LB)(b:Int):∀(q:Nat) (f o:Int) (p:LB),z27 q (t27 a g b f o p)=Tz a g b q f o p:=
 ind (λ_ _ _=>by kernel_rfl) λq ih f o p=>Eq.trans (b:=ZP (x44 (z27 q) a g b) YH a g b f o p) F2 (by simp only[e44,ih]<;>rfl)
def k:Kc P_ gl:=⟨(272,⟨H.p,H.r,u4 gG⟩),co H func272 (λx=>Eq.trans (b:=u4 (gO (λa g b f o p=>z27 Cu (t27 a g b f o p))) x) F2 (by simp only[i27,Au]<;>rfl))⟩
end F272
namespace F251
def H:Hd:=⟨[.agg [Sb,Si],Si,Si],[Sq,Si],.d,kt [F177.k,F274.k] false,[],f251⟩
def k:Kc P_ gl:=⟨(251,⟨H.p,H.r,u4 DA⟩),co H func251⟩
end F251
namespace F318
def H:Hd:=⟨[Sq],[Si],.d,kt [] false,[],f318⟩
def k:Kc P_ gl:=⟨(318,⟨H.p,H.r,Fm⟩),co H func318⟩
end F318
namespace F313
def QT(j6:Int->UInt64->Int->LB->Int->Option (Int×Int×Int))(g:LB)(b a:Int):Option (Int×Int×Int):=
(Hp g b).bind λm=>
if(Bc m 0)then
some (0,0,m)
else
if(Cg a 0)then
some (0,0,2)
else
if(Je a b)then
some (0,0,24)
else
(λn:Option (Int×Int×Int)=>
(λo:Option (Int×Int×Int)=>
bo2 (
o)) (
bo (
n))) (
(DA g b a (Dt 48 (Ah b a))).bind λ(k,h)=>
j6 h k a g b)
theorem pC: @QT= @Xe:=by
  unfold QT Xe;simp only[QJ,Ya,Yt]
abbrev R_:=(Int×Int×Int)
def H:Hd:=⟨[.agg [Sb,Si],Si],[Si,Si,Si],(.seq .d (.seq .d (.seq .d (.seq .d (.seq .d (.cut [3,5,6,8,9] [] (.keep [2,3,5,6,8,9,22,23,24,25,26,27,28,29] false) (.seq .d (.seq .d (.cut [] [] (.blk (.seq (.blk (.seq (.blk (.cut [] [] (.cut [3,4,5] [] (.cut [3,4,5,36] [] (.keep [3,4,5,8,36,37,38,39,40] true) .d) .d) .d)) .d)) .d)) .d))))))))),kt [F177.k,F251.k,F318.k] false,[(317,.d)],f313⟩
def k:Kc P_ gl:=⟨(313,⟨H.p,H.r,u3 GM⟩),co H func313 (λx=>Eq.trans (b:=u3 (QT TM) x) F2 (by simp only[pC]<;>rfl))⟩
end F313
namespace F296
abbrev R_:=(UInt32×Int×Int)
def H:Hd:=⟨[.agg [Sb,Si],Si,Si],[Su,Si,Si],(.seq .d (.seq .d (.seq .d (.seq .d (.seq .d (.seq .d (.cut [2,3,7,10,11] [] .d .d))))))),kt [F177.k,F218.k,F251.k,F313.k] false,[],f296⟩
def k:Kc P_ gl:=⟨(296,⟨H.p,H.r,u4 jY⟩),co H func296⟩
end F296
namespace F273
abbrev R_:=(UInt32×Int×Int×Int×UInt64×UInt64×Int)
def H:Hd:=⟨[.agg [Sb,Si],Si,.agg [Si,Si,Sq,Sq]],[Su,Si,.agg [Si,Si,Sq,Sq],Si],(.seq .d (.cut [1,3,5,8] [] .d (.seq .d (.seq .d (.cut [5,6,7,8] [] .d (.cut [5,6,7,8] [] (.keep [5,6,7,8,81] true) .d)))))),kt [F177.k,F178.k,F179.k,F251.k,F296.k] false,[(182,(.seq .d (.seq .d (.seq .d (.blk (.cut [0,1,4] [] (.blk (.seq .d (.keep [0,1,4,6,18,19,20,21,22,23,24,25] true))) (.cut [] [] (.keep [0,1,4,27,28,29,30,31,32,33,34] true) .d))))))),(220,.d)],f273⟩
def x8(f:UInt32)(k a:Int)(b:UInt64)(m:Int)(n:UInt64):Option R_:=H.e P_ [r,r,r,r,r,l,(call 1 182),r,r,r,d,r] ⟨[(0,.ptr 0 []),(1,vu f),(4,.fn 220 [])],[.box 196 (.agg [vi a,vi m,vq b,vq n]),.box 196 (.agg [vi 0,vi 0,vq 0,vq 0])],[[(5,.ptr 0 []),(6,vu f),(7,vi k),(8,.ptr 1 []),(81,vu f)]]⟩
theorem e8:x8=DQ:=F2
def k:Kc P_ gl:=⟨(273,⟨H.p,H.r,u7 GB⟩),co H func273 (λx=>Eq.trans (b:=u7 (aO (YR (YI x8))) x) F2 (by simp only[e8]<;>rfl))⟩
end F273
namespace F250
def Vt(j21:Int->Int->Int->UInt32->Int-> (List (Int×Int×UInt64×UInt64×Unit))->LU->Int->Int->UInt64->UInt64->Option (LU×Int×Int))(j24:Int->LU->Option (LU×Int×Int))(a f:Int)(g:LB)(b k h:Int)(m:List (Int×Int×UInt64×UInt64×Unit))(n:LU):Option (LU×Int×Int):=
if(Cg h (Az f a))then
(gG g b k (Dt (Ad k 81) b)).bind λ(ag,ae,af)=>
if(Bc af 0)then
some (([]:LU),0,af)
else
(Gu (Bc a 0)).bind λ_=>
(Aj m (Fi h a)).bind λ_=>
(λai:Option (LU×Int×Int)=>
both (
both (
(Aj m (Fi h a)).bind λo=>
(λao:Option (LU×Int×Int)=>
bo (
ao)) (
(GB ag ae 0 o.1 o.2.1 o.2.2.1 o.2.2.2.1).bind λ(w,v,aa,ab,ac,ad,y)=>
j21 k h y w v m n aa ab ac ad)) [
ai]) [
(Aj m (Fi h a)).bind λo=>
(λaj:Option (LU×Int×Int)=>
both (
bo (
aj)) [
aj]) (
(GB ag ae 0 o.1 o.2.1 o.2.2.1 o.2.2.2.1).bind λ(w,v,aa,ab,ac,ad,y)=>
j21 k h y w v m n aa ab ac ad),
bo (
ai)]) (
(Aj m (Fi h a)).bind λo=>
(GB ag ae 0 o.1 o.2.1 o.2.2.1 o.2.2.2.1).bind λ(w,v,aa,ab,ac,ad,y)=>
j21 k h y w v m n aa ab ac ad)
else
j24 k n
theorem aG: @Vt= @Qn:=by
  unfold Vt Qn
  try simp only[QJ,Ya,Yt]
  all_goals
    repeat (refine funext λ_=>?_)
    repeat' first
      |with_reducible rfl
      |with_reducible refine Kj ?_ ?_
      |with_reducible refine Ke ?_ ?_ ?_
      |with_reducible refine Kl ?_ ?_ ?_ ?_
      |((with_reducible refine Nt ?_ ?_);focus (intro h;first|(subst h;rfl)|(simp only[h];rfl)|(simp[Cm,Ac,h];done)))
      |with_reducible refine Nh λx=>?_
      |with_reducible refine Vo (λ_=>?_) (λ_=>?_)
      |(refine Fs (λh=>by simp only[h,Np,Dp,Dj,ite_self]) (λx h=>?_);(try simp only[h,Dp]))
      |(refine Hv (λh=>?_) (λh=>?_)<;>simp only[h,if_true,if_false,Bool.false_eq_true])
abbrev R_:=(LU×Int×Int)
abbrev K_:=S->Option R_
def H:Hd:=⟨[Si,Si,.agg [Sb,Si]],[Ov 201,Si,Si],(.seq .d (.seq .d (.cut [0,1,5,9] [] (.seq .d (.blk (.loop [0,1,5,9,19] [] .d))) (.seq .d (.seq .d (.cut [11,12] [] (.seq .d (.blk (.loop [0,5,9,11,12,28,29] [⟨11,[],.own 201 (.int .u32)⟩] (.seq .d (.seq .d (.seq (.blk (.seq .d (.seq .d (.seq .d (.cut [0,5,9,11,12,13,15,16,17,18,28,29] [] (.mode false) (.seq .d (.cut [0,5,9,11,12,16,28,29] [] .d .d))))))) .d)))))) .d)))))),kt [F176.k,F272.k,F273.k] false,[],f250⟩
def t16(a f:Int)(g:LB)(b k h:Int)(m:List (Int×Int×UInt64×UInt64×Unit))(n:LU):S:=⟨[(0,vi a),(5,.ptr 0 []),(9,.ptr 1 []),(11,.own 2),(12,vi k),(28,vi (Az f a)),(29,vi h)],[.box 200 (.agg [vb g,vi b]),.box 197 (.val (.vec 6 (.cons (.int .i64) (.cons (.int .i64) (.cons (.int .u64) (.cons (.int .u64) .nil))))) m),Av 201 n],[]⟩
def z16:Nat->S->Option R_:=H.i P_ [r,r,r,r,r,l,r,d]
def t13(a f:Int)(g:LB)(b u:Int)(p:List (Int×Int×UInt64×UInt64×Unit)):S:=⟨[(0,vi a),(1,vi f),(5,.ptr 0 []),(9,.ptr 1 []),(19,vi u)],[.box 200 (.agg [vb g,vi b]),.box 197 (.val (.vec 6 (.cons (.int .i64) (.cons (.int .i64) (.cons (.int .u64) (.cons (.int .u64) .nil))))) p)],[]⟩
def z13:Nat->S->Option R_:=H.i P_ [r,r,l,r,d]
def x16(a f:Int)(g:LB)(b k h:Int)(m:List (Int×Int×UInt64×UInt64×Unit))(n:LU):Option R_:=H.e P_ [r,r,r,r,r,l,r,d] (t16 a f g b k h m n)
theorem i16(a f:Int)(g:LB)(b:Int):∀(q:Nat) (k h:Int) (m:List (Int×Int×UInt64×UInt64×Unit)) (n:LU),z16 q (t16 a f g b k h m n)=Ld a f g b q k h m n:=
 ind (λ_ _ _ _=>by kernel_rfl) λq ih k h m n=>Eq.trans (b:=Vt (Pw (λk h m n=>(z16 q) (t16 a f g b k h m n)) a f g b) PY a f g b k h m n) F2 (by rw[aG];simp only[ih]<;>rfl)
theorem e16:x16=QM:=by funext a f g b k h m n;exact Eq.trans F2 ((i16 a f g b Cu k h m n).trans (by rw[Au];rfl))
theorem i13(a f:Int)(g:LB)(b:Int):∀(q:Nat) (u:Int) (p:List (Int×Int×UInt64×UInt64×Unit)),z13 q (t13 a f g b u p)=Yf a f g b q u p:=
 ind (λ_ _=>by kernel_rfl) λq ih u p=>Eq.trans (b:=OC (NS x16) (λu p=>(z13 q) (t13 a f g b u p)) a f g b u p) F2 (by simp only[e16,ih]<;>rfl)
def k:Kc P_ gl:=⟨(250,⟨H.p,H.r,u4 CK⟩),co H func250 (λx=>Eq.trans (b:=u4 (CJ (λa f g b u p=>z13 Cu (t13 a f g b u p))) x) F2 (by simp only[i13,Au]<;>rfl))⟩
end F250
namespace F276
def H:Hd:=⟨[Su],[Sx],.d,kt [] false,[],f276⟩
def k:Kc P_ gl:=⟨(276,⟨H.p,H.r,Uq⟩),co H func276⟩
end F276
namespace F297
def H:Hd:=⟨[.agg [Si,.lf (.vec 16 (.int .i32)) none,.lf (.vec 16 (.int .i32)) none],Sx],[Sx,.agg [Si,.lf (.vec 16 (.int .i32)) none,.lf (.vec 16 (.int .i32)) none],Si],.d,kt [F242.k,F243.k] false,[],f297⟩
def k:Kc P_ gl:=⟨(297,⟨H.p,H.r,u4 iR⟩),co H func297⟩
end F297
namespace F275
def OU(a:Int)(b:Int32)(f:Int)(g h:LX)(o:Int32):Option (Int32×Int×Int32×Int×LX×LX×Int):=
(Th a b f g h).bind λk=>
if(Bc k 0)then
some (0,0,0,0,(List.replicate 16 (0:Int32)),(List.replicate 16 (0:Int32)),k)
else
(Ti a b).bind λ(m,y)=>
(iR f g h o).bind λ(n,p,u,v,w)=>
(λaa:Option (Int32×Int×Int32×Int×LX×LX×Int)=>
bo (
aa)) (
some ((Ad n m),a,(Ad n m),p,u,v,w))
theorem pY: @OU= @Jv:=by
  unfold OU Jv;simp only[QJ,Ya,Yt]
def H:Hd:=⟨[.agg [Si,Sx,.agg [Si,.lf (.vec 16 (.int .i32)) none,.lf (.vec 16 (.int .i32)) none]],Sx],[Sx,.agg [Si,Sx,.agg [Si,.lf (.vec 16 (.int .i32)) none,.lf (.vec 16 (.int .i32)) none]],Si],(.seq .d (.seq .d (.seq .d (.seq .d (.seq (.mode false) .d))))),kt [F213.k,F214.k,F297.k] false,[],f275⟩
def k:Kc P_ gl:=⟨(275,⟨H.p,H.r,u6 Jv⟩),co H func275 (λx=>Eq.trans (b:=u6 OU x) F2 (by simp only[pY]<;>rfl))⟩
end F275
namespace F277
abbrev R_:=(LX×Int)
abbrev K_:=S->Option R_
def H:Hd:=⟨[Si,Sw],[Ow 21,Si],(.seq .d (.seq .d (.seq .d (.cut [7] [] (.seq .d (.blk (.loop [0,7,8] [] (.seq .d (.cut [0,7,8] [] (.blk (.keep [0,7,8,24,25,26,27,28,29] true)) .d))))) .d)))),kt [F122.k,F210.k] true,[(298,(.seq .d (.cut [0,2] [] .d (.seq .d (.blk (.loop [0,3] [] .d))))))],f277⟩
def t18(b a g:Int)(h:LX):S:=⟨[(0,.view true 0 [] (.int .i32) a ((Ad a b)-a)),(3,vi g)],[Aw 21 h],[[(0,vi b),(7,.own 0),(8,vi a),(24,.own 0),(25,vi a),(26,vi a),(27,vi b),(28,vi (Ad a b)),(29,.view true 0 [] (.int .i32) a ((Ad a b)-a))]]⟩
def z18(LC:K_):Nat->S->Option R_:=H.i P_ [r,r,r,l,r,d,(lp LC),r,l,d,(call 6 298),r,r,r,d]
def t12(b a:Int)(f:LX):S:=⟨[(0,vi b),(7,.own 0),(8,vi a)],[Aw 21 f],[]⟩
def z12:Nat->S->Option R_:=H.i P_ [r,r,r,l,r,d]
def x18(LC:K_)(b a g:Int)(h:LX):Option R_:=H.e P_ [r,r,r,l,r,d,(lp LC),r,l,d,(call 6 298),r,r,r,d] (t18 b a g h)
theorem i18(LC:K_)(b a:Int):∀(q:Nat) (g:Int) (h:LX),z18 LC q (t18 b a g h)=Un (λa f=>LC (t12 b a f)) b a q g h:=
 ind (λ_ _=>by kernel_rfl) λq ih g h=>Eq.trans (b:=MR (ZE (λa f=>LC (t12 b a f)) b) (λg h=>(z18 LC q) (t18 b a g h)) b a g h) F2 (by simp only[ih]<;>rfl)
theorem e18(LC:K_)(b:Int):x18 LC b=YG (λa f=>LC (t12 b a f)) b:=by funext a g h;exact Eq.trans F2 ((i18 LC b a Cu g h).trans (by rw[Au];rfl))
theorem i12(b:Int):∀(q:Nat) (a:Int) (f:LX),z12 q (t12 b a f)=Pz b q a f:=
 ind (λ_ _=>by kernel_rfl) λq ih a f=>Eq.trans (b:=YB (XR (x18 (z12 q) b) b) pR b a f) F2 (by simp only[e18,ih]<;>rfl)
def k:Kc P_ gl:=⟨(277,⟨H.p,H.r,u2 qA⟩),co H func277 (λx=>Eq.trans (b:=u2 (iU (λb a f=>z12 Cu (t12 b a f))) x) F2 (by simp only[i12,Au]<;>rfl))⟩
end F277
namespace F252
def Tn(j16:Int->Int32->Int-> (List (Int×Int32×(Int×LX×LX×Unit)×Unit))->LX->Int->Int32->Int->LX->LX->Option (LX×Int))(j18:Int->Int->LX->Option (LX×Int))(f:LU)(a b g:Int)(h:List (Int×Int32×(Int×LX×LX×Unit)×Unit))(k:LX):Option (LX×Int):=
if(Cg g (Ac f))then
(Aj f g).bind λag=>
(Gu (Bc a 0)).bind λ_=>
(Aj h (Fi g a)).bind λ_=>
both (
(Aj h (Fi g a)).bind λm=>
both (
(Uq ag).bind λae=>
(λao:Option (LX×Int)=>
bo (
ao)) (
(Jv m.1 m.2.1 m.2.2.1.1 m.2.2.1.2.1 m.2.2.1.2.2.1 ae).bind λ(y,aa,w,ab,ac,ad,v)=>
j16 g y v h k aa w ab ac ad)) [
(Uq ag).bind λae=>
(Jv m.1 m.2.1 m.2.2.1.1 m.2.2.1.2.1 m.2.2.1.2.2.1 ae).bind λ(y,aa,w,ab,ac,ad,v)=>
j16 g y v h k aa w ab ac ad]) [
(Uq ag).bind λaf=>
both (
(Aj h (Fi g a)).bind λu=>
(λap:Option (LX×Int)=>
bo (
ap)) (
(Jv u.1 u.2.1 u.2.2.1.1 u.2.2.1.2.1 u.2.2.1.2.2.1 af).bind λ(y,aa,w,ab,ac,ad,v)=>
j16 g y v h k aa w ab ac ad)) [
(Aj h (Fi g a)).bind λu=>
(Jv u.1 u.2.1 u.2.2.1.1 u.2.2.1.2.1 u.2.2.1.2.2.1 af).bind λ(y,aa,w,ab,ac,ad,v)=>
j16 g y v h k aa w ab ac ad],
both (
(Aj h (Fi g a)).bind λm=>
(Uq ag).bind λae=>
(Jv m.1 m.2.1 m.2.2.1.1 m.2.2.1.2.1 m.2.2.1.2.2.1 ae).bind λ(y,aa,w,ab,ac,ad,v)=>
j16 g y v h k aa w ab ac ad) [
(Uq ag).bind λaf=>
(Aj h (Fi g a)).bind λu=>
(Jv u.1 u.2.1 u.2.2.1.1 u.2.2.1.2.1 u.2.2.1.2.2.1 af).bind λ(y,aa,w,ab,ac,ad,v)=>
j16 g y v h k aa w ab ac ad]]
else
j18 a b k
theorem UR: @Tn= @Kb:=by
  unfold Tn Kb
  try simp only[QJ,Ya,Yt]
  all_goals
    repeat (refine funext λ_=>?_)
    repeat' first
      |with_reducible rfl
      |with_reducible refine Kj ?_ ?_
      |with_reducible refine Ke ?_ ?_ ?_
      |with_reducible refine Kl ?_ ?_ ?_ ?_
      |((with_reducible refine Nt ?_ ?_);focus (intro h;first|(subst h;rfl)|(simp only[h];rfl)|(simp[Cm,Ac,h];done)))
      |with_reducible refine Nh λx=>?_
      |with_reducible refine Vo (λ_=>?_) (λ_=>?_)
      |(refine Fs (λh=>by simp only[h,Np,Dp,Dj,ite_self]) (λx h=>?_);(try simp only[h,Dp]))
      |(refine Hv (λh=>?_) (λh=>?_)<;>simp only[h,if_true,if_false,Bool.false_eq_true])
abbrev R_:=(LX×Int)
abbrev K_:=S->Option R_
def H:Hd:=⟨[.agg [Si,Si],.lf (.vec 16 (.int .i32)) none,Sv],[Ow 21,Si],(.seq .d (.seq .d (.cut [2,3,8] [] (.seq .d (.blk (.loop [2,3,4,8,20] [] .d))) (.seq .d (.cut [3,10] [] (.seq .d (.blk (.loop [3,8,10,33,34,35] [⟨10,[],.own 21 (.int .i32)⟩] (.seq .d (.seq .d (.seq (.blk (.seq .d (.seq .d (.cut [3,8,10,13,14,15,16,33,34,35] [] (.mode false) .d)))) .d)))))) .d))))),kt [F107.k,F173.k,F275.k,F276.k,F277.k] false,[],f252⟩
def t13(f:LU)(a b g:Int)(h:List (Int×Int32×(Int×LX×LX×Unit)×Unit))(k:LX):S:=⟨[(3,.ptr 0 []),(8,.ptr 1 []),(10,.own 2),(33,vv f),(34,vi (Ac f)),(35,vi g)],[.box 23 (.agg [vi a,vi b]),.box 260 (.val (.vec 6 (.cons (.int .i64) (.cons (.int .i32) (.cons (.cons (.int .i64) (.cons (.vec 16 (.int .i32)) (.cons (.vec 16 (.int .i32)) .nil))) .nil)))) h),Aw 21 k],[]⟩
def z13:Nat->S->Option R_:=H.i P_ [r,r,r,r,l,r,d]
def t10(f:LU)(a b:Int)(o:LX)(p:Int)(n:List (Int×Int32×(Int×LX×LX×Unit)×Unit)):S:=⟨[(2,vv f),(3,.ptr 0 []),(4,.ptr 1 []),(8,.ptr 2 []),(20,vi p)],[.box 23 (.agg [vi a,vi b]),.box 132 (.val (.vec 16 (.int .i32)) o),.box 260 (.val (.vec 6 (.cons (.int .i64) (.cons (.int .i32) (.cons (.cons (.int .i64) (.cons (.vec 16 (.int .i32)) (.cons (.vec 16 (.int .i32)) .nil))) .nil)))) n)],[]⟩
def z10:Nat->S->Option R_:=H.i P_ [r,r,l,r,d]
def x13(f:LU)(a b g:Int)(h:List (Int×Int32×(Int×LX×LX×Unit)×Unit))(k:LX):Option R_:=H.e P_ [r,r,r,r,l,r,d] (t13 f a b g h k)
theorem i13(f:LU)(a b:Int):∀(q:Nat) (g:Int) (h:List (Int×Int32×(Int×LX×LX×Unit)×Unit)) (k:LX),z13 q (t13 f a b g h k)=Hs f a b q g h k:=
 ind (λ_ _ _=>by kernel_rfl) λq ih g h k=>Eq.trans (b:=Tn (Vx (λg h k=>(z13 q) (t13 f a b g h k)) a f b) Kf f a b g h k) F2 (by rw[UR];simp only[ih]<;>rfl)
theorem e13:x13=MO:=by funext f a b g h k;exact Eq.trans F2 ((i13 f a b Cu g h k).trans (by rw[Au];rfl))
theorem i10(f:LU)(a b:Int)(o:LX):∀(q:Nat) (p:Int) (n:List (Int×Int32×(Int×LX×LX×Unit)×Unit)),z10 q (t10 f a b o p n)=Wf f a b o q p n:=
 ind (λ_ _=>by kernel_rfl) λq ih p n=>Eq.trans (b:=ML (MH x13) (λp n=>(z10 q) (t10 f a b o p n)) f a b o p n) F2 (by simp only[e13,ih]<;>rfl)
def k:Kc P_ gl:=⟨(252,⟨H.p,H.r,u4 Qr⟩),co H func252 (λx=>Eq.trans (b:=u4 (Yw (λf a b o p n=>z10 Cu (t10 f a b o p n))) x) F2 (by simp only[i10,Au]<;>rfl))⟩
end F252
namespace F231
def H:Hd:=⟨[.agg [Si,Si],.lf (.vec 16 (.int .i32)) none,Si,Sb],[Ow 21,Si],.d,kt [F80.k,F248.k,F249.k,F250.k,F251.k,F252.k] false,[],f231⟩
def k:Kc P_ gl:=⟨(231,⟨H.p,H.r,u5 Lc⟩),co H func231⟩
end F231
namespace F60
abbrev R_:=(LB×Int)
abbrev K_:=S->Option R_
def H:Hd:=⟨[Si,Sw],[Ob 5,Si],(.seq .d (.seq .d (.seq .d (.cut [7] [] (.seq .d (.blk (.loop [0,7,17,18,19] [⟨7,[],.own 5 (.int .u8)⟩] (.seq .d (.seq .d (.cut [0,7,17,18,19] [] (.blk (.seq .d (.cut [0,7,9,17,18,19] [] .d (.seq .d (.blk (.loop [0,7,9,17,18,19,28,29] [] .d)))))) .d)))))) .d)))),kt [F107.k] false,[],f60⟩
def t26(b:Int)(a:LX)(k:Int32)(f m:Int)(h:LB):S:=⟨[(0,vi b),(7,.own 0),(9,vx k),(17,vw a),(18,vi (Ac a)),(19,vi f),(28,vi (Bf b (8:Int))),(29,vi m)],[Ab 5 h],[]⟩
def z26(Jy:K_):Nat->S->Option R_:=H.i P_ [r,r,r,l,r,d,(lp Jy),r,r,l,d,r,r,r,d]
def t16(b:Int)(a:LX)(f:Int)(g:LB):S:=⟨[(0,vi b),(7,.own 0),(17,vw a),(18,vi (Ac a)),(19,vi f)],[Ab 5 g],[]⟩
def z16:Nat->S->Option R_:=H.i P_ [r,r,r,l,r,d]
def x26(Jy:K_)(b:Int)(a:LX)(k:Int32)(f m:Int)(h:LB):Option R_:=H.e P_ [r,r,r,l,r,d,(lp Jy),r,r,l,d,r,r,r,d] (t26 b a k f m h)
theorem i26(Jy:K_)(b:Int)(a:LX)(k:Int32)(f:Int):∀(q:Nat) (m:Int) (h:LB),z26 Jy q (t26 b a k f m h)=Hy (λf g=>Jy (t16 b a f g)) b a k f q m h:=
 ind (λ_ _=>by kernel_rfl) λq ih m h=>Eq.trans (b:=Xk (KQ (λf g=>Jy (t16 b a f g)) b a) (λm h=>(z26 Jy q) (t26 b a k f m h)) b a k f m h) F2 (by simp only[ih]<;>rfl)
theorem e26(Jy:K_)(b:Int)(a:LX):x26 Jy b a=LA (λf g=>Jy (t16 b a f g)) b a:=by funext k f m h;exact Eq.trans F2 ((i26 Jy b a k f Cu m h).trans (by rw[Au];rfl))
theorem i16(b:Int)(a:LX):∀(q:Nat) (f:Int) (g:LB),z16 q (t16 b a f g)=Ff b a q f g:=
 ind (λ_ _=>by kernel_rfl) λq ih f g=>Eq.trans (b:=Xr (KC (x26 (z16 q) b a) b a) cC b a f g) F2 (by simp only[e26,ih]<;>rfl)
def k:Kc P_ gl:=⟨(60,⟨H.p,H.r,u2 Ph⟩),co H func60 (λx=>Eq.trans (b:=u2 (PJ (λb a f g=>z16 Cu (t16 b a f g))) x) F2 (by simp only[i16,Au]<;>rfl))⟩
end F60
namespace F253
abbrev R_:=Int
def H:Hd:=⟨[Sl,Si],[Si],(.seq .d (.cut [] [] (.seq .d (.blk (.loop [0,1,7,8] [] .d))) .d)),kt [] false,[],f253⟩
def t4(a:LI)(b f:Int):S:=⟨[(0,vl a),(1,vi b),(7,vi (Ac a)),(8,vi f)],[],[]⟩
def z4:Nat->S->Option R_:=H.i P_ [r,l,r,d]
theorem i4(a:LI)(b:Int):∀(q:Nat) (f:Int),z4 q (t4 a b f)=Fy a b q f:=
 ind (λ_=>by kernel_rfl) λq ih f=>Eq.trans (b:=Kx Ku (λf=>(z4 q) (t4 a b f)) a b f) F2 (by simp only[ih]<;>rfl)
def k:Kc P_ gl:=⟨(253,⟨H.p,H.r,u2 Mq⟩),co H func253 (λx=>Eq.trans (b:=u2 (Kw (λa b f=>z4 Cu (t4 a b f))) x) F2 (by simp only[i4,Au]<;>rfl))⟩
end F253
namespace F233
def H:Hd:=⟨[Sl,Si],[Sz],.d,kt [F253.k] false,[],f233⟩
def k:Kc P_ gl:=⟨(233,⟨H.p,H.r,u2 Kv⟩),co H func233⟩
end F233
namespace F196
def H:Hd:=⟨[Si],[Sz],.d,kt [F233.k] false,[],f196⟩
def k:Kc P_ gl:=⟨(196,⟨H.p,H.r,Xa⟩),co H func196⟩
end F196
namespace F142
def Xz(j28:Bool->Int->Option Int)(y ac:Int)(g a:LB)(h p m u v b:Int)(n:Bool)(o:Int)(ak:LX)(f:LI)(k:LB):Option Int:=
if(Bc ac 0)then
(Am ac).bind λ(bi,bj)=>
j28 bi bj
else
(Ph m ak).bind λ(bk,bb)=>
if(Bc bb 0)then
(Am bb).bind λ(bl,bm)=>
j28 bl bm
else
(Cm k bk).bind λdv=>
(λfa:Option Int=>
bo (
fa)) (
(Bg a y (Ac a)).bind λdw=>
j28 false 0)
theorem dG: @Xz= @DN:=by
  unfold Xz DN;simp only[QJ,Ya,Yt]
def AV(j13:Bool->Int->Option Int)(j12:LB->LB->Int->Int->Int->Int->Int->Int->Bool->Int->LI->LB->Option Int)(j25:Bool->Int->Option Int)(j23:LB->LB->Int->Int->Int->Int->Int->Int->Bool->Int->LI->LB->Option Int)(j24:LB->LB->Int->Int->Int->Int->Int->Int->Bool->Int->LI->LB->Int->Option Int)(j28:Bool->Int->Option Int)(j26:Int->LB->LB->Int->Int->Int->Int->Int->Int->Bool->Int->LX->LI->LI->LB->Option Int)(j22:Bool->Option Int)(j21:Option Int)(al am:LB)(an ao ap aq ar:Int)(au:LI)(ad:Int)(ae:LB)(aa:Bool)(w:Int):Option Int:=
if(Eg (Ac al) 64)then
some 8
else
if((geq w 0)&&(!aa))then
(Hj al am an ao ap aq ar au ad ae aa w).bind λ(g,a,h,p,m,u,v,f,b,k,n,o)=>
(YD al am an ao ap aq ar au ad ae aa w).bind λbn=>
if bn then
if(geq h 0)then
(Mr a).bind λ(ah,av)=>
if(geq av 24)then
j13 true 0
else
if(Bc av 0)then
(Am av).bind λ(bp,bq)=>
j13 bp bq
else
(Bg a ah (Ac a)).bind λbr=>
(DZ br).bind λaj=>
if aj then
j13 true 0
else
(Bg a ah (Ac a)).bind λbs=>
(Zt bs).bind λ(ay,az,ab,ba,af,aw)=>
if(geq aw 24)then
j13 true 0
else
if(Bc aw 0)then
(Am aw).bind λ(bt,bu)=>
j13 bt bu
else
both (
(Bg a (Ad ah 22) (Ac a)).bind λax=>
(λfb:Option Int=>
bo (
fb)) (
j12 g ax ay az ab ba af b n o f k)) [
(Bg a (Ad ah 22) (Ac a)).bind λax=>
j12 g ax ay az ab ba af b n o f k]
else
if(geq (Ac f) 0)then
if(geq h 2)then
if(Cg (Ac a) 8)then
j25 true 0
else
j23 g a h p m u v b n o f k
else
j24 g a h p m u v b n o f k 0
else
if(Cg b (Ac f))then
(Aj f b).bind λ_=>
(Aj f b).bind λy=>
if(Cg (Ac a) y)then
j28 true 0
else
(Mh g).bind λ(bc,ai)=>
if(Bc ai 0)then
(Am ai).bind λ(bv,bw)=>
j28 bv bw
else
(Ja h p m u v).bind λ(ag,bx)=>
if((Bc bx 0)||(Je b (Ac ag)))then
(Am 8).bind λ(bz,da)=>
j28 bz da
else
j26 y g a h p m u v b n o bc ag f k
else
if(Eg (Ac a) 4000)then
(Am 38).bind λ(db,bd)=>
j22 ((db==true)&&((geq bd 0)&&true))
else
j21
else
j22 false
else
if((geq (Ac am) 0)&&(geq (Ac au) 0))then
if((((geq an 0)&&((geq ao 0)&&((geq ap 0)&&((geq aq 0)&&((geq ar 0)&&true)))))&&(geq ad 0))&&(xU (Ac ae) 12000))then
if(geq w 0)then
j22 true
else
if(!aa)then
(Xa w).bind λdc=>
j22 dc
else
j22 false
else
j22 false
else
if((false&&(geq ad 0))&&(xU (Ac ae) 12000))then
if(geq w 0)then
j22 true
else
if(!aa)then
(Xa w).bind λdd=>
j22 dd
else
j22 false
else
j22 false
theorem iS: @AV= @GL:=by
  unfold AV GL
  try simp only[QJ,Ya,Yt]
  all_goals
    repeat (refine funext λ_=>?_)
    repeat' first
      |with_reducible rfl
      |with_reducible refine Kj ?_ ?_
      |with_reducible refine Ke ?_ ?_ ?_
      |with_reducible refine Kl ?_ ?_ ?_ ?_
      |((with_reducible refine Nt ?_ ?_);focus (intro h;first|(subst h;rfl)|(simp only[h];rfl)|(simp[Cm,Ac,h];done)))
      |with_reducible refine Nh λx=>?_
      |with_reducible refine Vo (λ_=>?_) (λ_=>?_)
      |(refine Fs (λh=>by simp only[h,Np,Dp,Dj,ite_self]) (λx h=>?_);(try simp only[h,Dp]))
      |(refine Hv (λh=>?_) (λh=>?_)<;>simp only[h,if_true,if_false,Bool.false_eq_true])
abbrev R_:=Int
def H:Hd:=⟨[.agg [Ss,Sb,.agg [Si,Si,Si,Si,Si],Sl,Si,Sb,Sz,Si]],[Si],(.seq .d (.seq .d (.seq .d (.cut [3] [] (.seq .d (.cond (.seq .d (.keep [3,21,22,23,24,25] false)) .d)) .d)))),kt [F60.k,F82.k,F140.k,F192.k,F195.k,F196.k,⟨(224,HM),iI⟩,F225.k,F226.k,F227.k,F228.k,F229.k,F230.k,F231.k,F232.k] false,[(139,(.seq .d (.cut [2] [] (.blk (.seq .d (.cond (.cut [2] [] (.keep [2,11] true) .d) (.seq .d (.cond (.cut [2] [] (.keep [2,20] true) .d) (.seq .d (.cond (.cut [2] [] (.keep [2,33] true) .d) .d))))))) .d))),(189,(.seq .d (.seq .d (.seq .d (.seq .d (.seq .d (.cut [0,2,5] [] (.mode false) .d))))))),(190,(.seq .d (.seq .d (.cut [0,2,3] [⟨0,[1],.ro (.int .u8)⟩] (.seq .d (.cond (.seq .d (.cut [0,2,3] [⟨0,[1],.ro (.int .u8)⟩,⟨9,[1],.ro (.int .u8)⟩,⟨10,[1],.ro (.int .u8)⟩,⟨15,[1],.ro (.int .u8)⟩,⟨16,[1],.ro (.int .u8)⟩,⟨18,[],.ro (.int .u8)⟩] .d (.cut [0,2,3,4,5] [] .d .d))) .d)) .d)))),(191,(.seq .d (.seq .d (.seq .d (.seq .d (.seq .d (.seq .d (.cut [0,2,3,4,6] [⟨0,[1],.ro (.int .u8)⟩,⟨9,[1],.ro (.int .u8)⟩,⟨10,[1],.ro (.int .u8)⟩,⟨13,[1],.ro (.int .u8)⟩,⟨14,[1],.ro (.int .u8)⟩,⟨19,[1],.ro (.int .u8)⟩,⟨20,[1],.ro (.int .u8)⟩,⟨22,[],.ro (.int .u8)⟩,⟨28,[1],.ro (.int .u8)⟩,⟨29,[1],.ro (.int .u8)⟩,⟨40,[1],.ro (.int .u8)⟩,⟨41,[1],.ro (.int .u8)⟩] .d (.cut [0,2,3,5,7] [] .d (.seq .d (.seq .d (.seq .d (.seq .d (.seq (.mode false) .d))))))))))))))],f142⟩
def x27(y ac:Int)(g a:LB)(h p m u v b:Int)(n:Bool)(o:Int)(ak:LX)(f:LI)(k:LB):Option R_:=H.e P_ [r,r,r,l,r,l,r,(dcall 3 139 3 #[true,true,true,true,true,true,true,true] #[true,true,true,true,true,false,false,false]),r,l,d,r,r,r,r,r,l,l,(call 1 191),r,r,r,r,r,r,r,r] ⟨[(0,.ptr 0 []),(2,.ptr 1 []),(3,vi y),(5,vi ac),(7,.own 2)],[.box 149 (.agg [vs g,vb a,.agg [vi h,vi p,vi m,vi u,vi v],.own 4,vi b,.own 5,vt n,vi o]),.box 220 (.agg [vt false,vi 0]),Aw 21 ak,.box 220 (.agg [vt false,vi 0]),Ai 3 f,Ab 5 k],[[(2,.ptr 3 [])],[(3,vt false),(21,.cst (.bool true)),(23,.agg [vt true,vi 0])]]⟩
theorem e27:x27=SY:=Eq.trans (b:=Xz Se) F2 (by rw[dG];rfl)
def k:Kc P_ gl:=⟨(142,⟨H.p,H.r,u12 HJ⟩),co H func142 (λx=>Eq.trans (b:=u12 (AV BA RL Sn RK EA Se (SG x27) Jn SI) x) F2 (by rw[iS];simp only[e27]<;>rfl))⟩
end F142
namespace F138
def CQ(f g:LB)(h k m n o:Int)(p:LI)(u:Int)(v:LB)(b:Bool)(a:Int):Option (LB×LB×Int×Int×Int×Int×Int×LI×Int×LB×Bool×Int×Int):=
(HJ f g h k m n o p u v b a).bind λw=>
if(Bc w 0)then
some (([]:LB),([]:LB),0,0,0,0,0,([]:LI),0,([]:LB),false,0,w)
else
if(Bc a 0)then
(λbl:Option (LB×LB×Int×Int×Int×Int×Int×LI×Int×LB×Bool×Int×Int)=>
both (
both (
(Hj f g h k m n o p u v b a).bind λ(y,aa,ab,ac,ad,ae,af,ag,ah,ai,aj,ak)=>
(λbm:Option (LB×LB×Int×Int×Int×Int×Int×LI×Int×LB×Bool×Int×Int)=>
bo (
bm)) (
some (y,aa,ab,ac,ad,ae,af,ag,ah,ai,aj,ak,a))) [
bl]) [
bl]) (
(Hj f g h k m n o p u v b a).bind λ(y,aa,ab,ac,ad,ae,af,ag,ah,ai,aj,ak)=>
some (y,aa,ab,ac,ad,ae,af,ag,ah,ai,aj,ak,a))
else
if b then
(Hj f g h k m n o p u v b a).bind λ(al,am,an,ao,ap,aq,ar,au,av,aw,ax,ay)=>
some (al,am,an,ao,ap,aq,ar,au,av,aw,ax,ay,36)
else
(Hj f g h k m n o p u v b a).bind λ(az,ba,bb,bc,bd,be,bf,bg,bh,bi,bj,bk)=>
some (az,ba,bb,bc,bd,be,bf,bg,bh,bi,bj,bk,0)
theorem gW: @CQ= @HK:=by
  unfold CQ HK
  try simp only[QJ,Ya,Yt]
  all_goals
    repeat (refine funext λ_=>?_)
    repeat' first
      |with_reducible rfl
      |with_reducible refine Kj ?_ ?_
      |with_reducible refine Ke ?_ ?_ ?_
      |with_reducible refine Kl ?_ ?_ ?_ ?_
      |((with_reducible refine Nt ?_ ?_);focus (intro h;first|(subst h;rfl)|(simp only[h];rfl)|(simp[Cm,Ac,h];done)))
      |with_reducible refine Nh λx=>?_
      |with_reducible refine Vo (λ_=>?_) (λ_=>?_)
      |(refine Fs (λh=>by simp only[h,Np,Dp,Dj,ite_self]) (λx h=>?_);(try simp only[h,Dp]))
      |(refine Hv (λh=>?_) (λh=>?_)<;>simp only[h,if_true,if_false,Bool.false_eq_true])
def H:Hd:=⟨[.agg [Ss,Sb,.agg [Si,Si,Si,Si,Si],Sl,Si,Sb,Sz,Si]],[.agg [Ss,Ob 5,.agg [Si,Si,Si,Si,Si],Ol 3,Si,Ob 5,Sz,Si],Si],(.seq .d (.seq .d (.seq (.blk (.seq .d (.cond (.seq (.mode false) .d) .d))) .d))),kt [F140.k,F142.k] false,[],f138⟩
def k:Kc P_ gl:=⟨(138,⟨H.p,H.r,u12 HK⟩),co H func138 (λx=>Eq.trans (b:=u12 CQ x) F2 (by simp only[gW]<;>rfl))⟩
end F138
namespace F141
def H:Hd:=⟨[.agg [Ss,Sb,.agg [Si,Si,Si,Si,Si],Sl,Si,Sb,Sz,Si],Si],[.agg [Ss,Ob 5,.agg [Si,Si,Si,Si,Si],Ol 3,Si,Sb,Sz,Si],Si],.d,kt [] false,[],f141⟩
def k:Kc P_ gl:=⟨(141,⟨H.p,H.r,u13 sD⟩),co H func141⟩
end F141
namespace F95
def EG(j78:Int->Int->Int->Int->Int->LI->Bool->Int->LB->Int->LB->Option (LB×LB×Int×Int×Int×Int×Int×LI×Int×LB×Bool×Int×Int))(a:LB)(b:Bool)(f w ab:Int)(g:LB)(m o n p u h:Int)(am:LX)(k:LI)(v:LB):Option (LB×LB×Int×Int×Int×Int×Int×LI×Int×LB×Bool×Int×Int):=
if(Bc ab 0)then
(Am ab).bind λ(br,bs)=>
j78 m o n p u k br bs g h v
else
(Ph n am).bind λ(bt,af)=>
if(Bc af 0)then
(Am af).bind λ(bu,bv)=>
j78 m o n p u k bu bv g h v
else
(Cm v bt).bind λbw=>
(λhb:Option (LB×LB×Int×Int×Int×Int×Int×LI×Int×LB×Bool×Int×Int)=>
bo (
hb)) (
(Bg g w (Ac g)).bind λbx=>
j78 m o n p u k false 0 bx (Ad h 1) bw)
theorem eZ: @EG= @GD:=by
  unfold EG GD;simp only[QJ,Ya,Yt]
def AT(j62:Int->LI->LB->Bool->Int->LB->Int->Int->Int->Int->Int->Option (LB×LB×Int×Int×Int×Int×Int×LI×Int×LB×Bool×Int×Int))(j61:LB->Int->Int->Int->Int->Int->Int->LI->LB->Option (LB×LB×Int×Int×Int×Int×Int×LI×Int×LB×Bool×Int×Int))(j75:Int->Int->Int->Int->Int->Int->LB->Bool->Int->LB->LI->Option (LB×LB×Int×Int×Int×Int×Int×LI×Int×LB×Bool×Int×Int))(j73:LB->Int->Int->Int->Int->Int->Int->LI->LB->Option (LB×LB×Int×Int×Int×Int×Int×LI×Int×LB×Bool×Int×Int))(j74:LB->Int->Int->Int->Int->Int->Int->LI->LB->Int->Option (LB×LB×Int×Int×Int×Int×Int×LI×Int×LB×Bool×Int×Int))(j78:Int->Int->Int->Int->Int->LI->Bool->Int->LB->Int->LB->Option (LB×LB×Int×Int×Int×Int×Int×LI×Int×LB×Bool×Int×Int))(j76:Int->LB->Int->Int->Int->Int->Int->Int->LX->LI->LI->LB->Option (LB×LB×Int×Int×Int×Int×Int×LI×Int×LB×Bool×Int×Int))(j71:LB->Int->Int->Int->Int->Int->Int->Bool->Int->LI->LB->Option (LB×LB×Int×Int×Int×Int×Int×LI×Int×LB×Bool×Int×Int))(j70:LB->Int->Int->Int->Int->Int->Int->LI->LB->Option (LB×LB×Int×Int×Int×Int×Int×LI×Int×LB×Bool×Int×Int))(a:LB)(b:Bool)(f:Int)(g:LB)(m o n p u h:Int)(k:LI)(v:LB):Option (LB×LB×Int×Int×Int×Int×Int×LI×Int×LB×Bool×Int×Int):=
if(geq m 0)then
(Mr g).bind λ(ad,an)=>
if(geq an 24)then
j62 h k v true 0 g m o n p u
else
if(Bc an 0)then
(Am an).bind λ(bz,da)=>
j62 h k v bz da g m o n p u
else
(Bg g ad (Ac g)).bind λdb=>
(DZ db).bind λal=>
if al then
j62 h k v true 0 g m o n p u
else
(Bg g ad (Ac g)).bind λdc=>
(Zt dc).bind λ(ah,ai,y,aj,aa,ao)=>
if(geq ao 24)then
j62 h k v true 0 g m o n p u
else
if(Bc ao 0)then
(Am ao).bind λ(dd,de)=>
j62 h k v dd de g m o n p u
else
both (
(Bg g (Ad ad 22) (Ac g)).bind λag=>
bo (
j61 ag ah ai y aj aa h k v)) [
(Bg g (Ad ad 22) (Ac g)).bind λag=>
j61 ag ah ai y aj aa h k v]
else
if(geq (Ac k) 0)then
if(geq m 2)then
if(Cg (Ac g) 8)then
j75 m o n p u h v true 0 g k
else
j73 g m o n p u h k v
else
j74 g m o n p u h k v 0
else
if(Cg h (Ac k))then
(Aj k h).bind λ_=>
(Aj k h).bind λw=>
if(Cg (Ac g) w)then
j78 m o n p u k true 0 g h v
else
(Mh a).bind λ(aq,ak)=>
if(Bc ak 0)then
(Am ak).bind λ(df,dg)=>
j78 m o n p u k df dg g h v
else
(Ja m o n p u).bind λ(ac,dh)=>
if((Bc dh 0)||(Je h (Ac ac)))then
(Am 8).bind λ(di,ap)=>
j78 m o n p u k di ap g h v
else
j76 w g m o n p u h aq ac k v
else
if(Eg (Ac g) 4000)then
(Am 38).bind λ(dj,ae)=>
j71 g m o n p u h dj ae k v
else
j70 g m o n p u h k v
theorem iJ: @AT= @FK:=by
  unfold AT FK
  repeat (refine funext λ_=>?_)
  repeat' first
    |with_reducible rfl
    |with_reducible refine Kj ?_ ?_
    |with_reducible refine Ke ?_ ?_ ?_
    |with_reducible refine Kl ?_ ?_ ?_ ?_
    |((with_reducible refine Nt ?_ ?_);focus (intro h;first|(subst h;rfl)|(simp only[h];rfl)|(simp[Cm,Ac,h];done)))
    |with_reducible refine Nh λx=>?_
    |with_reducible refine Vo (λ_=>?_) (λ_=>?_)
    |(refine Fs (λh=>by simp only[h,Np,Dp,Dj,ite_self]) (λx h=>?_);(try simp only[h,Dp]))
    |(refine Hv (λh=>?_) (λh=>?_)<;>simp only[h,if_true,if_false,Bool.false_eq_true])
abbrev R_:=(LB×LB×Int×Int×Int×Int×Int×LI×Int×LB×Bool×Int×Int)
abbrev K_:=S->Option R_
def H:Hd:=⟨[.agg [Ss,Sb,.agg [Si,Si,Si,Si,Si],Sl,Si,Sb,Sz,Si],Sb],[.agg [Ss,Ob 5,.agg [Si,Si,Si,Si,Si],Ol 3,Si,Sb,Sz,Si],Si],(.seq .d (.seq .d (.seq .d (.seq .d (.blk (.loop [2,4] [⟨2,[1],.ro (.int .u8)⟩] (.blk (.cut [2,4,7] [] (.keep [2,4,7,22] true) .d)))))))),kt [F60.k,F82.k,F138.k,F140.k,F141.k,F192.k,⟨(224,HM),iI⟩,F225.k,F226.k,F227.k,F228.k,F229.k,F230.k,F231.k,F232.k] false,[(139,(.seq .d (.cut [2] [] (.blk (.seq .d (.cond (.cut [2] [] (.keep [2,11] true) .d) (.seq .d (.cond (.cut [2] [] (.keep [2,20] true) .d) (.seq .d (.cond (.cut [2] [] (.keep [2,33] true) .d) .d))))))) .d))),(189,(.seq .d (.seq .d (.seq .d (.seq .d (.seq .d (.cut [0,2,5] [] (.mode false) .d))))))),(190,(.seq .d (.seq .d (.cut [0,2,3] [] (.seq .d (.cond (.seq .d (.cut [0,2,3] [⟨0,[1],.ro (.int .u8)⟩,⟨9,[1],.ro (.int .u8)⟩,⟨10,[1],.ro (.int .u8)⟩,⟨15,[1],.ro (.int .u8)⟩,⟨16,[1],.ro (.int .u8)⟩,⟨18,[],.ro (.int .u8)⟩] .d (.cut [0,2,3,4,5] [] .d .d))) .d)) .d)))),(191,(.seq .d (.seq .d (.seq .d (.seq .d (.seq .d (.seq .d (.cut [0,2,3,4,6] [⟨0,[1],.ro (.int .u8)⟩,⟨9,[1],.ro (.int .u8)⟩,⟨10,[1],.ro (.int .u8)⟩,⟨13,[1],.ro (.int .u8)⟩,⟨14,[1],.ro (.int .u8)⟩,⟨19,[1],.ro (.int .u8)⟩,⟨20,[1],.ro (.int .u8)⟩,⟨22,[],.ro (.int .u8)⟩,⟨28,[1],.ro (.int .u8)⟩,⟨29,[1],.ro (.int .u8)⟩,⟨40,[1],.ro (.int .u8)⟩,⟨41,[1],.ro (.int .u8)⟩] .d (.cut [0,2,3,5,7] [] .d (.seq .d (.seq .d (.seq .d (.seq .d (.seq (.mode false) .d))))))))))))))],f95⟩
def t37(a:LB)(b:Bool)(f:Int)(g:LB)(m o n p u h:Int)(k:LI)(v:LB):S:=⟨[(2,.ptr 0 []),(4,.ptr 1 [])],[.box 149 (.agg [vs a,vb g,.agg [vi m,vi o,vi n,vi p,vi u],.own 2,vi h,.own 3,vt b,vi f]),.box 149 (.agg [vs ([]:LB),.nils,.agg [vi 0,vi 0,vi 0,vi 0,vi 0],.nils,vi 0,.nils,vt false,vi 0]),Ai 3 k,Ab 5 v],[]⟩
def z37:Nat->S->Option R_:=H.i P_ [r,r,r,r,d]
def x75(oP:K_)(a:LB)(b:Bool)(f m o n p u h:Int)(v:LB)(bf:Bool)(bg:Int)(bh:LB)(bi:LI):Option R_:=H.e P_ [r,r,r,r,d,(lp oP),d,l,(call 0 139),r,l,d,r,r,r,l,r] ⟨[(2,.ptr 0 [])],[.box 220 (.agg [vt bf,vi bg]),.box 149 (.agg [vs a,vb bh,.agg [vi m,vi o,vi n,vi p,vi u],.own 3,vi h,.own 4,vt b,vi f]),.box 149 (.agg [vs ([]:LB),.nils,.agg [vi 0,vi 0,vi 0,vi 0,vi 0],.nils,vi 0,.nils,vt false,vi 0]),Ai 3 bi,Ab 5 v],[[(2,.ptr 1 []),(4,.ptr 2 [])]]⟩
def x78(oP:K_)(a:LB)(b:Bool)(f m o n p u:Int)(k:LI)(bl:Bool)(bm:Int)(bn:LB)(bp:Int)(bq:LB):Option R_:=H.e P_ [r,r,r,r,d,(lp oP),d,l,(call 0 139),r,l,d,r,r,r,r,r,l,r] ⟨[(2,.ptr 0 [])],[.box 220 (.agg [vt bl,vi bm]),.box 149 (.agg [vs a,vb bn,.agg [vi m,vi o,vi n,vi p,vi u],.own 3,vi bp,.own 4,vt b,vi f]),.box 149 (.agg [vs ([]:LB),.nils,.agg [vi 0,vi 0,vi 0,vi 0,vi 0],.nils,vi 0,.nils,vt false,vi 0]),Ai 3 k,Ab 5 bq],[[(2,.ptr 1 []),(4,.ptr 2 [])]]⟩
def x77(oP:K_)(a:LB)(b:Bool)(f w ab:Int)(g:LB)(m o n p u h:Int)(am:LX)(k:LI)(v:LB):Option R_:=H.e P_ [r,r,r,r,d,(lp oP),d,l,(call 0 139),r,l,d,r,r,r,r,r,l,l,(call 1 191),r,r,r,r,r,r,r,r] ⟨[(0,.ptr 0 []),(2,.ptr 1 []),(3,vi w),(5,vi ab),(7,.own 2)],[.box 149 (.agg [vs a,vb g,.agg [vi m,vi o,vi n,vi p,vi u],.own 5,vi h,.own 6,vt b,vi f]),.box 220 (.agg [vt false,vi 0]),Aw 21 am,.box 220 (.agg [vt false,vi 0]),.box 149 (.agg [vs ([]:LB),.nils,.agg [vi 0,vi 0,vi 0,vi 0,vi 0],.nils,vi 0,.nils,vt false,vi 0]),Ai 3 k,Ab 5 v],[[(2,.ptr 3 [])],[(2,.ptr 0 []),(4,.ptr 4 [])]]⟩
theorem e75(oP:K_)(a:LB)(b:Bool)(f:Int):x75 oP a b f=Pb (λg m o n p u h k v=>oP (t37 a b f g m o n p u h k v)) a b f:=F2
theorem e78(oP:K_)(a:LB)(b:Bool)(f:Int):x78 oP a b f=GK (λg m o n p u h k v=>oP (t37 a b f g m o n p u h k v)) a b f:=F2
theorem e77(oP:K_)(a:LB)(b:Bool)(f:Int):x77 oP a b f=VQ (λg m o n p u h k v=>oP (t37 a b f g m o n p u h k v)) a b f:=Eq.trans (b:=EG (x78 oP a b f) a b f) F2 (by rw[eZ];simp only[e78]<;>rfl)
theorem i37(a:LB)(b:Bool)(f:Int):∀(q:Nat) (g:LB) (m o n p u h:Int) (k:LI) (v:LB),z37 q (t37 a b f g m o n p u h k v)=Dl a b f q g m o n p u h k v:=
 ind (λ_ _ _ _ _ _ _ _ _=>by kernel_rfl) λq ih g m o n p u h k v=>Eq.trans (b:=AT (GP (λg m o n p u h k v=>(z37 q) (t37 a b f g m o n p u h k v)) a b f) (UY (λg m o n p u h k v=>(z37 q) (t37 a b f g m o n p u h k v)) a b f) (x75 (z37 q) a b f) (VA (WT (x75 (z37 q) a b f) (GW (x75 (z37 q) a b f) a b f) a b f) a b f) (GW (x75 (z37 q) a b f) a b f) (x78 (z37 q) a b f) (UZ (x77 (z37 q) a b f) a b f) (Ir (λg m o n p u h k v=>(z37 q) (t37 a b f g m o n p u h k v)) a b f) (WE (λg m o n p u h k v=>(z37 q) (t37 a b f g m o n p u h k v)) a b f) a b f g m o n p u h k v) F2 (by rw[iJ];simp only[e75,e78,e77,ih]<;>rfl)
def k:Kc P_ gl:=⟨(95,⟨H.p,H.r,u13 qH⟩),co H func95 (λx=>Eq.trans (b:=u13 (bU (λa b f g m o n p u h k v=>z37 Cu (t37 a b f g m o n p u h k v))) x) F2 (by simp only[i37,Au]<;>rfl))⟩
end F95
namespace F96
def H:Hd:=⟨[.agg [Ss,Sb,.agg [Si,Si,Si,Si,Si],Sl,Si,Sb,Sz,Si]],[Si,Si],.d,kt [F142.k] false,[],f96⟩
def k:Kc P_ gl:=⟨(96,⟨H.p,H.r,u12 dW⟩),co H func96⟩
end F96
namespace F52
def H:Hd:=⟨[Sb],[Si],.d,kt [F94.k,F95.k,F96.k] false,[],f52⟩
def k:Kc P_ gl:=⟨(52,⟨H.p,H.r,Ye⟩),co H func52⟩
end F52
namespace F17
def H:Hd:=⟨[],[Sz],.d,kt [F50.k,F51.k,F52.k] false,[],f17⟩
def k:Kc P_ gl:=⟨(17,⟨H.p,H.r,λ_=>Pm⟩),co H func17⟩
end F17
namespace F19
def H:Hd:=⟨[Si],[Si,Si],.d,kt [] false,[],f19⟩
def k:Kc P_ gl:=⟨(19,⟨H.p,H.r,Fw⟩),co H func19⟩
end F19
namespace F70
def H:Hd:=⟨[Si],[Si],.d,kt [] false,[],f70⟩
def k:Kc P_ gl:=⟨(70,⟨H.p,H.r,Hr⟩),co H func70⟩
end F70
namespace F34
def H:Hd:=⟨[.agg [Si,Si]],[Si],.d,kt [F70.k] false,[],f34⟩
def k:Kc P_ gl:=⟨(34,⟨H.p,H.r,u2 Dx⟩),co H func34⟩
end F34
namespace F8
def H:Hd:=⟨[.agg [Si,Si],Si,Ss],[Si],.d,kt [F19.k,F34.k] false,[],f8⟩
def k:Kc P_ gl:=⟨(8,⟨H.p,H.r,u4 Gh⟩),co H func8⟩
end F8
namespace F40
def H:Hd:=⟨[.agg [Si,Si],Si,Ss],[Si,Sz],.d,kt [F79.k,F80.k] false,[],f40⟩
def k:Kc P_ gl:=⟨(40,⟨H.p,H.r,u4 Wz⟩),co H func40⟩
end F40
namespace F11
def H:Hd:=⟨[.agg [Si,Si],Si,Ss],[.agg [.agg [Si,Si],Si,Ss,Ob 5,Ow 21,.lf (.list (.list (.int .u8))) (some 24),Ob 5,Sz,Si],Si],.d,kt [F40.k] false,[],f11⟩
def k:Kc P_ gl:=⟨(11,⟨H.p,H.r,u4 AD⟩),co H func11⟩
end F11
namespace F42
def H:Hd:=⟨[.agg [Si,Si]],[Si],.d,kt [] false,[],f42⟩
def k:Kc P_ gl:=⟨(42,⟨H.p,H.r,u2 BK⟩),co H func42⟩
end F42
namespace F45
def H:Hd:=⟨[.agg [.agg [Si,Si],Si,Ss,Sb,Sw,.lf (.list (.list (.int .u8))) none,Sb,Sz,Si],Si],[Si],.d,kt [] false,[],f45⟩
def k:Kc P_ gl:=⟨(45,⟨H.p,H.r,u11 Qx⟩),co H func45⟩
end F45
namespace F44
def H:Hd:=⟨[.agg [.agg [Si,Si],Si,Ss,Sb,Sw,.lf (.list (.list (.int .u8))) none,Sb,Sz,Si],Si,Si],[Sz],.d,kt [] false,[],f44⟩
def k:Kc P_ gl:=⟨(44,⟨H.p,H.r,u12 Qm⟩),co H func44⟩
end F44
namespace F97
abbrev R_:=Bool
abbrev K_:=S->Option R_
def H:Hd:=⟨[.agg [.agg [Si,Si],Si,Ss,Sb,Sw,.lf (.list (.list (.int .u8))) none,Sb,Sz,Si],Si],[Sz],(.seq .d (.seq .d (.cut [1,2,5] [] .d (.seq .d (.seq .d (.cut [1,2,5,6] [] .d (.cut [1,2,5] [] .d (.seq .d (.cut [4] [] (.keep [4,80,81] true) .d))))))))),kt [F42.k,F44.k,F45.k,F107.k] false,[(143,(.seq .d (.cut [4] [] (.keep [4,7,8] true) .d))),(144,.d),(197,(.seq .d (.cut [] [] (.seq .d (.blk (.loop [0,1,7,8] [] (.seq .d (.seq .d (.cut [0,1,7,8] [] (.blk (.seq .d (.cut [0,1,5,7,8,16] [] (.keep [0,1,5,7,8,16] true) .d))) .d)))))) .d)))],f97⟩
def t16(b:List LB)(f a h:Int):S:=⟨[(0,.val (.list (.list (.int .u8))) b),(1,.fn 144 [.ptr 0 []]),(7,vi (Ac b)),(8,vi h)],[.box 3 (vi (Ad (Bf (Ad (Az (Az (81:Int) f) a) (7:Int)) (8:Int)) (4:Int)))],[[(4,vt false)],[]]⟩
def z16:Nat->S->Option R_:=H.i P_ [r,r,r,r,r,r,r,r,l,(call 3 143),r,l,(call 2 197),r,l,r,d]
def x13(f a k o:Int)(p m:LB)(g:LX)(b:List LB)(n:LB)(u:Bool)(v:Int):Option R_:=H.e P_ [r,r,r] ⟨[(1,vi f),(2,.ptr 0 []),(5,vi a)],[.box 33 (.agg [.agg [vi a,vi k],vi o,vs p,vb m,vw g,.val (.list (.list (.int .u8))) b,vb n,vt u,vi v])],[]⟩
theorem i16(b:List LB)(f a:Int):∀(q:Nat) (h:Int),z16 q (t16 b f a h)=Ht b f a q h:=
 ind (λ_=>by kernel_rfl) λq ih h=>Eq.trans (b:=Nk (Vj (λh=>(z16 q) (t16 b f a h)) b f a) LV b f a h) F2 (by simp only[ih]<;>rfl)
theorem e13:x13=Vn:=Eq.trans (b:=Vv (Ni (Ng (λb f a h=>z16 Cu (t16 b f a h))))) F2 (by simp only[i16,Au]<;>rfl)
def k:Kc P_ gl:=⟨(97,⟨H.p,H.r,u11 Xo⟩),co H func97 (λx=>Eq.trans (b:=u11 (Yg x13) x) F2 (by simp only[e13]<;>rfl))⟩
end F97
namespace F53
def H:Hd:=⟨[.agg [.agg [Si,Si],Si,Ss,Sb,Sw,.lf (.list (.list (.int .u8))) none,Sb,Sz,Si]],[Si],.d,kt [F40.k,F97.k] false,[],f53⟩
def k:Kc P_ gl:=⟨(53,⟨H.p,H.r,u10 Jb⟩),co H func53⟩
end F53
namespace F74
abbrev R_:=(Int×Int×Int×LB×LB×LX×(List LB)×LB×Bool×Int)
def H:Hd:=⟨[.agg [.agg [Si,Si],Si,Ss,Sb,Sw,.lf (.list (.list (.int .u8))) none,Sb,Sz,Si]],[.agg [.agg [Si,Si],Si,Ss,Ob 5,Ow 21,.lf (.list (.list (.int .u8))) (some 24),Ob 5,Sz,Si]],(.seq .d (.cut [1,2] [] .d (.seq .d (.seq .d (.cut [1,2,3] [] (.seq .d (.blk (.loop [1,2,3,26,27] [] .d))) .d))))),kt [F75.k,F122.k] false,[],f74⟩
def t6(w a:List LB)(b f g:Int)(h:LB)(k:Bool)(m:Int)(n:LB)(o:LX)(p:LB)(v:Int)(u:List LB):S:=⟨[(1,.ptr 0 []),(2,.ptr 1 []),(3,.own 2),(26,vi (Ac (XH w a))),(27,vi v)],[.box 33 (.agg [.agg [vi b,vi f],vi g,vs h,.own 3,.own 4,.val (.list (.list (.int .u8))) a,.own 5,vt k,vi m]),.box 33 (.agg [.agg [vi 0,vi 0],vi 0,vs ([]:LB),.nils,.nils,.nils,.nils,vt false,vi 0]),.arr 24 (.list (.int .u8)) u,Ab 5 n,Aw 21 o,Ab 5 p],[]⟩
def z6:Nat->S->Option R_:=H.i P_ [r,r,r,r,l,r,d]
theorem i6(w a:List LB)(b f g:Int)(h:LB)(k:Bool)(m:Int)(n:LB)(o:LX)(p:LB):∀(q:Nat) (v:Int) (u:List LB),z6 q (t6 w a b f g h k m n o p v u)=Mj w a b f g h k m n o p q v u:=
 ind (λ_ _=>by kernel_rfl) λq ih v u=>Eq.trans (b:=Xw bK (λv u=>(z6 q) (t6 w a b f g h k m n o p v u)) w a b f g h k m n o p v u) F2 (by simp only[ih]<;>rfl)
def k:Kc P_ gl:=⟨(74,⟨H.p,H.r,u10 CW⟩),co H func74 (λx=>Eq.trans (b:=u10 (KI (KT (λw a b f g h k m n o p v u=>z6 Cu (t6 w a b f g h k m n o p v u)))) x) F2 (by simp only[i6,Au]<;>rfl))⟩
end F74
namespace F41
abbrev R_:=(Int×Int×Int×LB×LB×LX×(List LB)×LB×Bool×Int×Int×Int)
def H:Hd:=⟨[.agg [.agg [Si,Si],Si,Ss,Sb,Sw,.lf (.list (.list (.int .u8))) none,Sb,Sz,Si]],[.agg [.agg [Si,Si],Si,Ss,Ob 5,Ow 21,.lf (.list (.list (.int .u8))) (some 24),Ob 5,Sz,Si],Si,Si],(.seq .d (.seq .d (.seq .d (.cut [1,2,6,7] [] .d .d)))),kt [F53.k,F74.k,F79.k] false,[],f41⟩
def k:Kc P_ gl:=⟨(41,⟨H.p,H.r,u10 My⟩),co H func41⟩
end F41
namespace F46
abbrev R_:=(LX×Int)
abbrev K_:=S->Option R_
def H:Hd:=⟨[Si,Sb],[Ow 21,Si],(.seq .d (.seq .d (.seq .d (.seq .d (.seq .d (.seq .d (.cut [10] [] (.seq .d (.blk (.loop [0,1,9,10,11] [⟨10,[],.own 21 (.int .i32)⟩] (.seq .d (.cut [0,1,9,10,11] [] (.blk (.seq .d (.seq .d (.cut [0,1,9,10,11,12] [] (.seq .d (.blk (.loop [0,1,9,10,11,12,53,54] [] .d))) .d)))) .d))))) .d))))))),kt [F81.k] false,[],f46⟩
def t25(a:Int)(b:LB)(f:Int)(g:LX)(k:Int32)(h:Int):S:=⟨[(0,vi a),(1,vb b),(9,vi (Bf a (8:Int))),(10,.own 0),(11,vi f),(12,vx k),(53,vi (Bf a (8:Int))),(54,vi h)],[Aw 21 g],[]⟩
def z25(Jy:K_):Nat->S->Option R_:=H.i P_ [r,r,r,r,r,r,l,r,d,(lp Jy),r,l,d,r,r,l,r,d]
def t16(a:Int)(b:LB)(f:Int)(g:LX):S:=⟨[(0,vi a),(1,vb b),(9,vi (Bf a (8:Int))),(10,.own 0),(11,vi f)],[Aw 21 g],[]⟩
def z16:Nat->S->Option R_:=H.i P_ [r,r,r,r,r,r,l,r,d]
def x25(Jy:K_)(a:Int)(b:LB)(f:Int)(g:LX)(k:Int32)(h:Int):Option R_:=H.e P_ [r,r,r,r,r,r,l,r,d,(lp Jy),r,l,d,r,r,l,r,d] (t25 a b f g k h)
theorem i25(Jy:K_)(a:Int)(b:LB)(f:Int)(g:LX):∀(q:Nat) (k:Int32) (h:Int),z25 Jy q (t25 a b f g k h)=Dq (λf g=>Jy (t16 a b f g)) a b f g q k h:=
 ind (λ_ _=>by kernel_rfl) λq ih k h=>Eq.trans (b:=Ek (Sm (λf g=>Jy (t16 a b f g)) a b) (λk h=>(z25 Jy q) (t25 a b f g k h)) a b f g k h) F2 (by simp only[ih]<;>rfl)
theorem e25(Jy:K_)(a:Int)(b:LB):x25 Jy a b=Jq (λf g=>Jy (t16 a b f g)) a b:=by funext f g k h;exact Eq.trans F2 ((i25 Jy a b f g Cu k h).trans (by rw[Au];rfl))
theorem i16(a:Int)(b:LB):∀(q:Nat) (f:Int) (g:LX),z16 q (t16 a b f g)=Db a b q f g:=
 ind (λ_ _=>by kernel_rfl) λq ih f g=>Eq.trans (b:=Es (Hh (λf g=>(z16 q) (t16 a b f g)) a b) (x25 (z16 q) a b) SH a b f g) F2 (by simp only[e25,ih]<;>rfl)
def k:Kc P_ gl:=⟨(46,⟨H.p,H.r,u2 HA⟩),co H func46 (λx=>Eq.trans (b:=u2 (GN (λa b f g=>z16 Cu (t16 a b f g))) x) F2 (by simp only[i16,Au]<;>rfl))⟩
end F46
namespace F48
def H:Hd:=⟨[.agg [.agg [Si,Si],Si,Ss,Sb,Sw,.lf (.list (.list (.int .u8))) none,Sb,Sz,Si],Si],[.agg [.agg [Si,Si],Si,Ss,Ob 5,Ow 21,.lf (.list (.list (.int .u8))) (some 24),Ob 5,Sz,Si],Si],.d,kt [] false,[],f48⟩
def k:Kc P_ gl:=⟨(48,⟨H.p,H.r,u11 Qh⟩),co H func48⟩
end F48
namespace F13
abbrev R_:=(Int×Int×Int×LB×LB×LX×(List LB)×LB×Bool×Int×Int)
abbrev K_:=S->Option R_
def H:Hd:=⟨[.agg [.agg [Si,Si],Si,Ss,Sb,Sw,.lf (.list (.list (.int .u8))) none,Sb,Sz,Si],Sb],[.agg [.agg [Si,Si],Si,Ss,Ob 5,Ow 21,.lf (.list (.list (.int .u8))) (some 24),Ob 5,Sz,Si],Si],(.seq .d (.seq .d (.seq .d (.seq .d (.seq .d (.cut [2,4] [] (.seq .d (.blk (.loop [2,4,8,9,27,28,29] [] (.seq .d (.seq .d (.cut [2,4,8,9,27,28,29] [] (.blk (.seq .d (.seq .d (.seq .d (.cut [2,4,8,9,12,27,28,29] [⟨2,[3],.own 5 (.int .u8)⟩,⟨2,[4],.own 21 (.int .i32)⟩,⟨9,[0,3],.own 5 (.int .u8)⟩,⟨9,[0,4],.own 21 (.int .i32)⟩] (.keep [2,4,8,9,12,27,28,29,45] true) .d))))) .d)))))) .d)))))),kt [F41.k,F42.k,F44.k,F45.k,F46.k,F48.k,F82.k,F83.k] false,[(43,(.seq .d (.cut [0,1] [] .d (.seq .d (.seq .d (.seq .d (.seq .d (.cut [2] [] (.keep [2,43] true) .d)))))))),(47,.d)],f13⟩
def t14(p:Int)(n:LB)(a b g:Int)(f:LB)(h:Bool)(k o:Int)(m:LB)(u:Int)(y:LB)(w:LX)(v:List LB):S:=⟨[(2,.ptr 0 []),(4,.ptr 1 []),(8,vi p),(9,.fn 43 [.ptr 0 [],.ptr 2 []]),(27,vb n),(28,vi (Ac n)),(29,vi u)],[.box 33 (.agg [.agg [vi a,vi b],vi g,vs f,.own 3,.own 4,.own 5,.own 6,vt h,vi k]),.box 33 (.agg [.agg [vi 0,vi 0],vi 0,vs ([]:LB),.nils,.nils,.nils,.nils,vt false,vi 0]),.box 3 (vi o),Ab 5 y,Aw 21 w,.arr 24 (.list (.int .u8)) v,Ab 5 m],[]⟩
def z14:Nat->S->Option R_:=H.i P_ [r,r,r,r,r,l,r,d]
theorem i14(p:Int)(n:LB)(a b g:Int)(f:LB)(h:Bool)(k o:Int)(m:LB):∀(q:Nat) (u:Int) (y:LB) (w:LX) (v:List LB),z14 q (t14 p n a b g f h k o m u y w v)=Gj p n a b g f h k o m q u y w v:=
 ind (λ_ _ _ _=>by kernel_rfl) λq ih u y w v=>Eq.trans (b:=Up (Ky (λu y w v=>(z14 q) (t14 p n a b g f h k o m u y w v)) p n a b g f h k o m) (Gq (λu y w v=>(z14 q) (t14 p n a b g f h k o m u y w v)) p n a b g f h k o m) (FT (λu y w v=>(z14 q) (t14 p n a b g f h k o m u y w v)) p n a b g f h k o m) GV p n a b g f h k o m u y w v) F2 (by simp only[ih]<;>rfl)
def k:Kc P_ gl:=⟨(13,⟨H.p,H.r,u11 Dg⟩),co H func13 (λx=>Eq.trans (b:=u11 (Xy (λp n a b g f h k o m u y w v=>z14 Cu (t14 p n a b g f h k o m u y w v))) x) F2 (by simp only[i14,Au]<;>rfl))⟩
end F13
namespace F54
abbrev R_:=Int
def H:Hd:=⟨[.agg [.agg [Si,Si],Si,Ss,Sb,Sw,.lf (.list (.list (.int .u8))) none,Sb,Sz,Si]],[Si],(.seq .d (.seq .d (.cut [3] [] (.seq .d (.blk (.loop [3,19,20,21] [] .d))) .d))),kt [] false,[],f54⟩
def t4(a:List LB)(b f:Int):S:=⟨[(3,vi b),(19,.val (.list (.list (.int .u8))) a),(20,vi (Ac a)),(21,vi f)],[],[]⟩
def z4:Nat->S->Option R_:=H.i P_ [r,r,l,r,d]
theorem i4(a:List LB):∀(q:Nat) (b f:Int),z4 q (t4 a b f)=Me a q b f:=
 ind (λ_ _=>by kernel_rfl) λq ih b f=>Eq.trans (b:=Xs aU (λb f=>(z4 q) (t4 a b f)) a b f) F2 (by simp only[ih]<;>rfl)
def k:Kc P_ gl:=⟨(54,⟨H.p,H.r,u10 AU⟩),co H func54 (λx=>Eq.trans (b:=u10 (KR (λa b f=>z4 Cu (t4 a b f))) x) F2 (by simp only[i4,Au]<;>rfl))⟩
end F54
namespace F18
def H:Hd:=⟨[.agg [.agg [Si,Si],Si,Ss,Sb,Sw,.lf (.list (.list (.int .u8))) none,Sb,Sz,Si]],[Si,Si],.d,kt [F53.k,F54.k] false,[],f18⟩
def k:Kc P_ gl:=⟨(18,⟨H.p,H.r,u10 Ok⟩),co H func18⟩
end F18
namespace F20
def H:Hd:=⟨[.agg [Si,Si]],[Si],.d,kt [] false,[],f20⟩
def k:Kc P_ gl:=⟨(20,⟨H.p,H.r,u2 Ns⟩),co H func20⟩
end F20
namespace F84
def H:Hd:=⟨[Ss],[Si,Si],.d,kt [] false,[],f84⟩
def k:Kc P_ gl:=⟨(84,⟨H.p,H.r,HL⟩),co H func84⟩
end F84
namespace F49
def FN(f g h:Int)(b k:LB)(m:LX)(a:List LB)(n:LB)(o:Bool)(p:Int)(u:LB)(v:LI):Option (LB×Int):=
(AI v).bind λ(aa,y)=>
if(Bc y 0)then
some (([]:LB),y)
else
(λao:Option (LB×Int)=>
bo (
ao)) (
(Cm u aa).bind λab=>
(Dm a).bind λac=>
(Cm ab ac).bind λad=>
some (ad,0))
theorem kY: @FN= @Xl:=by
  unfold FN Xl;simp only[QJ,Ya,Yt]
abbrev R_:=(LB×Int)
def H:Hd:=⟨[.agg [.agg [Si,Si],Si,Ss,Sb,Sw,.lf (.list (.list (.int .u8))) none,Sb,Sz,Si],Si],[Ob 5,Si],(.seq .d (.seq .d (.seq .d (.seq .d (.seq .d (.cut [2,8] [] .d (.seq .d (.cut [2,8,11] [] (.seq .d (.blk (.loop [2,8,11,58,59,60] [⟨11,[],.own 3 (.int .i64)⟩] .d))) (.seq .d (.seq .d (.seq (.mode false) .d))))))))))),kt [F84.k,F85.k,F86.k,F87.k,F88.k] false,[],f49⟩
def t6(a:List LB)(f g h:Int)(b k:LB)(m:LX)(n:LB)(o:Bool)(p:Int)(u:LB)(w:Int)(v:LI):S:=⟨[(2,.ptr 0 []),(8,.own 1),(11,.own 2),(58,.val (.list (.list (.int .u8))) a),(59,vi (Ac a)),(60,vi w)],[.box 33 (.agg [.agg [vi f,vi g],vi h,vs b,vb k,vw m,.val (.list (.list (.int .u8))) a,vb n,vt o,vi p]),Ab 5 u,Ai 3 v],[]⟩
def z6:Nat->S->Option R_:=H.i P_ [r,r,r,r,r,r,r,l,r,d]
def x8(f g h:Int)(b k:LB)(m:LX)(a:List LB)(n:LB)(o:Bool)(p:Int)(u:LB)(v:LI):Option R_:=H.e P_ [r,r,r,r,r,r,r,r] ⟨[(2,.ptr 0 []),(8,.own 1),(11,.own 2)],[.box 33 (.agg [.agg [vi f,vi g],vi h,vs b,vb k,vw m,.val (.list (.list (.int .u8))) a,vb n,vt o,vi p]),Ab 5 u,Ai 3 v],[]⟩
theorem e8:x8=Qs:=Eq.trans (b:=FN) F2 (by rw[kY];rfl)
theorem i6(a:List LB)(f g h:Int)(b k:LB)(m:LX)(n:LB)(o:Bool)(p:Int)(u:LB):∀(q:Nat) (w:Int) (v:LI),z6 q (t6 a f g h b k m n o p u w v)=Mi a f g h b k m n o p u q w v:=
 ind (λ_ _=>by kernel_rfl) λq ih w v=>Eq.trans (b:=Xm x8 (λw v=>(z6 q) (t6 a f g h b k m n o p u w v)) a f g h b k m n o p u w v) F2 (by simp only[e8,ih]<;>rfl)
def k:Kc P_ gl:=⟨(49,⟨H.p,H.r,u11 ND⟩),co H func49 (λx=>Eq.trans (b:=u11 (KE (Xx (λa f g h b k m n o p u w v=>z6 Cu (t6 a f g h b k m n o p u w v)))) x) F2 (by simp only[i6,Au]<;>rfl))⟩
end F49
namespace F14
abbrev R_:=(Int×Int×Int×LB×LB×LX×(List LB)×LB×Bool×Int×Int)
def H:Hd:=⟨[.agg [.agg [Si,Si],Si,Ss,Sb,Sw,.lf (.list (.list (.int .u8))) none,Sb,Sz,Si]],[.agg [.agg [Si,Si],Si,Ss,Ob 5,Ow 21,.lf (.list (.list (.int .u8))) (some 24),Ob 5,Sz,Si],Si],(.seq .d (.seq .d (.seq .d (.seq .d (.seq .d (.cut [1,2,6] [] (.seq .d (.cond (.cut [1,2,6,7] [⟨1,[4],.own 21 (.int .i32)⟩] (.keep [1,2,6,7,38] true) .d) .d)) .d)))))),kt [F41.k,F45.k,F48.k,F49.k,F82.k,F83.k] false,[(47,.d)],f14⟩
def k:Kc P_ gl:=⟨(14,⟨H.p,H.r,u10 Dk⟩),co H func14⟩
end F14
namespace F73
abbrev R_:=Bool
def H:Hd:=⟨[.agg [Sc,Si]],[Sz],(.seq .d (.seq (.seq .d (.blk (.cut [1,4,5] [] .d .d))) .d)),kt [] false,[],f73⟩
def k:Kc P_ gl:=⟨(73,⟨H.p,H.r,u2 ZO⟩),co H func73⟩
end F73
namespace F72
def H:Hd:=⟨[.agg [Sc,Si]],[Sz],.d,kt [F73.k] false,[],f72⟩
def k:Kc P_ gl:=⟨(72,⟨H.p,H.r,u2 CV⟩),co H func72⟩
end F72
namespace F37
abbrev R_:=Int
abbrev K_:=S->Option R_
def H:Hd:=⟨[.lf (.list (.cons (.int .u8) (.cons (.int .i64) .nil))) none],[Si],(.seq .d (.seq .d (.cut [] [] (.cut [7] [] (.keep [7] true) .d) .d))),kt [F72.k] false,[(71,(.seq .d (.cut [4] [] (.keep [4,7,8] true) .d))),(121,(.seq .d (.cut [] [] (.seq .d (.blk (.loop [0,1,7,8] [] (.seq .d (.seq .d (.cut [0,1,7,8] [] (.blk (.seq .d (.cut [0,1,5,7,8,16] [] .d .d))) .d)))))) .d)))],f37⟩
def t11(a:List (UInt8×Int×Unit))(b:Int):S:=⟨[(0,.val (.list (.cons (.int .u8) (.cons (.int .i64) .nil))) a),(1,.fn 72 []),(7,vi (Ac a)),(8,vi b)],[],[[(4,vt false)],[]]⟩
def z11:Nat->S->Option R_:=H.i P_ [r,r,l,l,(call 1 71),r,l,(call 2 121),r,l,r,d]
theorem i11(a:List (UInt8×Int×Unit)):∀(q:Nat) (b:Int),z11 q (t11 a b)=La a q b:=
 ind (λ_=>by kernel_rfl) λq ih b=>Eq.trans (b:=Ul (FO (λb=>(z11 q) (t11 a b)) a) VZ a b) F2 (by simp only[ih]<;>rfl)
def k:Kc P_ gl:=⟨(37,⟨H.p,H.r,MZ⟩),co H func37 (λx=>Eq.trans (b:=KV (λa b=>z11 Cu (t11 a b)) x) F2 (by simp only[i11,Au]<;>rfl))⟩
end F37
namespace F38
def H:Hd:=⟨[.agg [.agg [Si,Si],Si,Ss,Sb,Sw,.lf (.list (.list (.int .u8))) none,Sb,Sz,Si],Si],[.agg [.agg [Si,Si],Si,Ss,Ob 5,Ow 21,.lf (.list (.list (.int .u8))) (some 24),Sb,Sz,Si],Ob 5,Si],.d,kt [F53.k,F74.k,F75.k] false,[],f38⟩
def k:Kc P_ gl:=⟨(38,⟨H.p,H.r,u11 Rb⟩),co H func38⟩
end F38
namespace F10
def Yr(j29:Int->Int->Int->Int->LB->LB->Bool->Int->LB-> (List (Int×LB×Unit))->LB->LX-> (List LB)->Option (Int×Int×Int×LB×LB×LX×(List LB)×LB×Bool×Int×(List (Int×LB×Unit))×Int))(b:List (UInt8×Int×Unit))(aa:UInt8×Int×Unit)(a:LB)(ab y f g h:Int)(k p:LB)(u:LX)(v:List LB)(m:LB)(n:Bool)(o ac ad ae:Int)(af:LB)(ag:Bool)(ah:Int)(w:List (Int×LB×Unit))(ai:LB)(aj:LX)(ak:List LB)(al:LB):Option (Int×Int×Int×LB×LB×LX×(List LB)×LB×Bool×Int×(List (Int×LB×Unit))×Int):=
(λfj:Option (Int×Int×Int×LB×LB×LX×(List LB)×LB×Bool×Int×(List (Int×LB×Unit))×Int)=>
bo (
fj)) (
(Bg a (Dt aa.2.1 (Ac a)) (Ac a)).bind λbm=>
(Cm w ([(ab,([]:LB),())]:List (Int×LB×Unit))).bind λbn=>
j29 y ac ad ae af al ag ah bm bn ai aj ak)
theorem dF: @Yr= @Sf:=by
  unfold Yr Sf;simp only[QJ,Ya,Yt]
def Yq(j26:(UInt8×Int×Unit)->LB->Int->Int->Int->Int->Int->LB->LB->LX-> (List LB)->LB->Bool->Int->Int->Int->Int->LB->Bool->Int-> (List (Int×LB×Unit))->LB->LX-> (List LB)->LB->Option (Int×Int×Int×LB×LB×LX×(List LB)×LB×Bool×Int×(List (Int×LB×Unit))×Int))(j33:Int->Int->Int->Int->Int->LB->LB->LX-> (List LB)->LB->Bool->Int->LB->Int->Int->Int->LB->LB->Bool->Int->LB-> (List (Int×LB×Unit))->LB->LX-> (List LB)->Option (Int×Int×Int×LB×LB×LX×(List LB)×LB×Bool×Int×(List (Int×LB×Unit))×Int))(j34:Int->Int->Int->Int->Int->LB->LB->LX-> (List LB)->LB->Bool->Int->LB->Int->Int->Int->LB->Bool->Int-> (List (Int×LB×Unit))->LB->LX-> (List LB)->LB->Option (Int×Int×Int×LB×LB×LX×(List LB)×LB×Bool×Int×(List (Int×LB×Unit))×Int))(j29:Int->Int->Int->Int->LB->LB->Bool->Int->LB-> (List (Int×LB×Unit))->LB->LX-> (List LB)->Option (Int×Int×Int×LB×LB×LX×(List LB)×LB×Bool×Int×(List (Int×LB×Unit))×Int))(j31:(List (Int×LB×Unit))->Int->Int->Int->LB->LB->Bool->Int->LB->LB->LX-> (List LB)->Option (Int×Int×Int×LB×LB×LX×(List LB)×LB×Bool×Int×(List (Int×LB×Unit))×Int))(b:List (UInt8×Int×Unit))(y f g h:Int)(k m:LB)(n:Bool)(o:Int)(a:LB)(w:List (Int×LB×Unit))(p:LB)(u:LX)(v:List LB):Option (Int×Int×Int×LB×LB×LX×(List LB)×LB×Bool×Int×(List (Int×LB×Unit))×Int):=
if(Cg y (Ac b))then
(Aj b y).bind λaa=>
if(geq aa.1 1)then
(λbp:Option (Int×Int×Int×LB×LB×LX×(List LB)×LB×Bool×Int×(List (Int×LB×Unit))×Int)=>
(λbs:Option (Int×Int×Int×LB×LB×LX×(List LB)×LB×Bool×Int×(List (Int×LB×Unit))×Int)=>
(λbt:Option (Int×Int×Int×LB×LB×LX×(List LB)×LB×Bool×Int×(List (Int×LB×Unit))×Int)=>
both (
bs) [
bs,
(Bg a 0 (Dt aa.2.1 (Ac a))).bind λam=>
(λbu:Option (Int×Int×Int×LB×LB×LX×(List LB)×LB×Bool×Int×(List (Int×LB×Unit))×Int)=>
(λbv:Option (Int×Int×Int×LB×LB×LX×(List LB)×LB×Bool×Int×(List (Int×LB×Unit))×Int)=>
(λbw:Option (Int×Int×Int×LB×LB×LX×(List LB)×LB×Bool×Int×(List (Int×LB×Unit))×Int)=>
both (
bw) [
bw,
bv]) (
both (
bv) [
bu])) (
bo (
bu))) (
(Dg f g h k p u v m n o am).bind λ(ac,ad,ae,af,ai,aj,ak,al,ag,ah,ab)=>
j26 aa a ab y f g h k p u v m n o ac ad ae af ag ah w ai aj ak al),
both (
bt) [
bt,
(Bg a 0 (Dt aa.2.1 (Ac a))).bind λam=>
(λfk:Option (Int×Int×Int×LB×LB×LX×(List LB)×LB×Bool×Int×(List (Int×LB×Unit))×Int)=>
bo (
fk)) (
(Dg f g h k p u v m n o am).bind λ(ac,ad,ae,af,ai,aj,ak,al,ag,ah,ab)=>
j26 aa a ab y f g h k p u v m n o ac ad ae af ag ah w ai aj ak al)]]) (
bo (
bp))) (
both (
both (
(Bg a 0 (Dt aa.2.1 (Ac a))).bind λam=>
(λfl:Option (Int×Int×Int×LB×LB×LX×(List LB)×LB×Bool×Int×(List (Int×LB×Unit))×Int)=>
bo (
fl)) (
(Dg f g h k p u v m n o am).bind λ(ac,ad,ae,af,ai,aj,ak,al,ag,ah,ab)=>
j26 aa a ab y f g h k p u v m n o ac ad ae af ag ah w ai aj ak al)) [
bp]) [
(Bg a 0 (Dt aa.2.1 (Ac a))).bind λam=>
(λbx:Option (Int×Int×Int×LB×LB×LX×(List LB)×LB×Bool×Int×(List (Int×LB×Unit))×Int)=>
both (
bo (
bx)) [
bx]) (
(Dg f g h k p u v m n o am).bind λ(ac,ad,ae,af,ai,aj,ak,al,ag,ah,ab)=>
j26 aa a ab y f g h k p u v m n o ac ad ae af ag ah w ai aj ak al),
bo (
bp)])) (
(Bg a 0 (Dt aa.2.1 (Ac a))).bind λam=>
(Dg f g h k p u v m n o am).bind λ(ac,ad,ae,af,ai,aj,ak,al,ag,ah,ab)=>
j26 aa a ab y f g h k p u v m n o ac ad ae af ag ah w ai aj ak al)
else
if(geq aa.1 2)then
(λbz:Option (Int×Int×Int×LB×LB×LX×(List LB)×LB×Bool×Int×(List (Int×LB×Unit))×Int)=>
(λda:Option (Int×Int×Int×LB×LB×LX×(List LB)×LB×Bool×Int×(List (Int×LB×Unit))×Int)=>
(λdb:Option (Int×Int×Int×LB×LB×LX×(List LB)×LB×Bool×Int×(List (Int×LB×Unit))×Int)=>
both (
db) [
db,
da]) (
both (
da) [
bz])) (
bo (
bz))) (
(Rb f g h k p u v m n o aa.2.1).bind λ(ao,ap,aq,ar,ay,az,ba,au,av,aw,ax,an)=>
j33 an y f g h k p u v m n o a ao ap aq ar au av aw ax w ay az ba)
else
if(geq aa.1 3)then
(λdc:Option (Int×Int×Int×LB×LB×LX×(List LB)×LB×Bool×Int×(List (Int×LB×Unit))×Int)=>
(λdd:Option (Int×Int×Int×LB×LB×LX×(List LB)×LB×Bool×Int×(List (Int×LB×Unit))×Int)=>
(λde:Option (Int×Int×Int×LB×LB×LX×(List LB)×LB×Bool×Int×(List (Int×LB×Unit))×Int)=>
both (
de) [
de,
dd]) (
both (
dd) [
dc])) (
bo (
dc))) (
(Dk f g h k p u v m n o).bind λ(bc,bd,be,bf,bi,bj,bk,bl,bg,bh,bb)=>
j34 bb y f g h k p u v m n o a bc bd be bf bg bh w bi bj bk bl)
else
j29 y f g h k m n o a w p u v
else
j31 w f g h k m n o a p u v
theorem dA: @Yq= @Mo:=by
  unfold Yq Mo
  try simp only[QJ,Ya,Yt]
  all_goals
    repeat (refine funext λ_=>?_)
    repeat' first
      |with_reducible rfl
      |with_reducible refine Kj ?_ ?_
      |with_reducible refine Ke ?_ ?_ ?_
      |with_reducible refine Kl ?_ ?_ ?_ ?_
      |((with_reducible refine Nt ?_ ?_);focus (intro h;first|(subst h;rfl)|(simp only[h];rfl)|(simp[Cm,Ac,h];done)))
      |with_reducible refine Nh λx=>?_
      |with_reducible refine Vo (λ_=>?_) (λ_=>?_)
      |(refine Fs (λh=>by simp only[h,Np,Dp,Dj,ite_self]) (λx h=>?_);(try simp only[h,Dp]))
      |(refine Hv (λh=>?_) (λh=>?_)<;>simp only[h,if_true,if_false,Bool.false_eq_true])
abbrev R_:=(Int×Int×Int×LB×LB×LX×(List LB)×LB×Bool×Int×(List (Int×LB×Unit))×Int)
abbrev K_:=S->Option R_
def H:Hd:=⟨[.agg [Si,Si],Si,Ss,Sb,.lf (.list (.cons (.int .u8) (.cons (.int .i64) .nil))) none],[.agg [.agg [Si,Si],Si,Ss,Ob 5,Ow 21,.lf (.list (.list (.int .u8))) (some 24),Sb,Sz,Si],.lf (.list (.cons (.int .i64) (.cons (.list (.int .u8)) .nil))) (some 79),Si],(.seq .d (.seq .d (.seq .d (.seq .d (.seq .d (.cut [10,16,17] [] (.keep [10,16,17,41] true) .d)))))),kt [F11.k,F13.k,F14.k,F37.k,F38.k] false,[(39,(.seq .d (.seq .d (.seq .d (.cut [6] [] (.seq .d (.blk (.loop [5,6,19,20,21] [⟨5,[0,0,6],.ro (.int .u8)⟩,⟨6,[],.own 79 (.cons (.int .i64) (.cons (.list (.int .u8)) .nil))⟩] (.seq .d (.seq .d (.cut [5,6,19,20,21] [⟨5,[0,0,6],.ro (.int .u8)⟩] (.blk (.seq .d (.seq .d (.seq .d (.cond (.keep [5,6,19,20,21,33,37,38,39] true) .d))))) .d)))))) .d))))),(76,(.seq .d (.seq .d (.cut [0,1,4,5,6] [] (.mode false) (.seq (.mode false) .d))))),(77,(.seq .d (.cut [0,4,5,6,7] [] (.mode false) .d))),(78,(.seq .d (.cut [0,4,5,6] [] (.mode false) .d)))],f10⟩
def t17(b:List (UInt8×Int×Unit))(y f g h:Int)(k m:LB)(n:Bool)(o:Int)(a:LB)(w:List (Int×LB×Unit))(p:LB)(u:LX)(v:List LB):S:=⟨[(5,.mp [1,2,3] [.bfn 76 [.ptr 0 []],.bfn 77 [.ptr 0 []],.bfn 78 [.ptr 0 []]]),(6,.own 1),(19,.val (.list (.cons (.int .u8) (.cons (.int .i64) .nil))) b),(20,vi (Ac b)),(21,vi y)],[.box 85 (.agg [.agg [.agg [vi f,vi g],vi h,vs k,.own 3,.own 4,.own 5,vb m,vt n,vi o],.fn 13 [],.fn 14 [],.fn 38 [],vb a]),.arr 79 (.cons (.int .i64) (.cons (.list (.int .u8)) .nil)) w,.box 33 (.agg [.agg [vi 0,vi 0],vi 0,vs ([]:LB),.nils,.nils,.nils,.nils,vt false,vi 0]),Ab 5 p,Aw 21 u,.arr 24 (.list (.int .u8)) v],[[(10,.ptr 2 []),(16,.ptr 0 [])]]⟩
def z17:Nat->S->Option R_:=H.i P_ [r,r,r,r,r,l,(call 2 39),r,r,r,l,r,d]
def x26(Apj:K_)(b:List (UInt8×Int×Unit))(aa:UInt8×Int×Unit)(a:LB)(ab y f g h:Int)(k p:LB)(u:LX)(v:List LB)(m:LB)(n:Bool)(o ac ad ae:Int)(af:LB)(ag:Bool)(ah:Int)(w:List (Int×LB×Unit))(ai:LB)(aj:LX)(ak:List LB)(al:LB):Option R_:=H.e P_ [r,r,r,r,r,l,(call 2 39),r,r,r,l,r,d,(lp Apj),r,r,l,d,r,r,r,l,(call 4 76),r,r,r] ⟨[(0,.ptr 0 []),(1,vi (Dt aa.2.1 (Ac a))),(4,.ptr 1 []),(5,.ptr 2 []),(6,vi ab)],[.box 85 (.agg [.agg [.agg [vi f,vi g],vi h,vs k,vb p,vw u,.val (.list (.list (.int .u8))) v,vb m,vt n,vi o],.fn 13 [],.fn 14 [],.fn 38 [],vb a]),.box 79 (.agg [vi 0,.nils]),.box 33 (.agg [.agg [vi ac,vi ad],vi ae,vs af,.own 5,.own 6,.own 7,.own 8,vt ag,vi ah]),.arr 79 (.cons (.int .i64) (.cons (.list (.int .u8)) .nil)) w,.box 33 (.agg [.agg [vi 0,vi 0],vi 0,vs ([]:LB),.nils,.nils,.nils,.nils,vt false,vi 0]),Ab 5 ai,Aw 21 aj,.arr 24 (.list (.int .u8)) ak,Ab 5 al],[[(5,.mp [1,2,3] [.bfn 76 [.ptr 0 []],.bfn 77 [.ptr 0 []],.bfn 78 [.ptr 0 []]]),(6,.own 3),(19,.val (.list (.cons (.int .u8) (.cons (.int .i64) .nil))) b),(20,vi (Ac b)),(21,vi y),(33,.own 3)],[(10,.ptr 4 []),(16,.ptr 0 [])]]⟩
theorem e26(Apj:K_)(b:List (UInt8×Int×Unit)):x26 Apj b=CC (λy f g h k m n o a w p u v=>Apj (t17 b y f g h k m n o a w p u v)) b:=Eq.trans (b:=Yr (Em (λy f g h k m n o a w p u v=>Apj (t17 b y f g h k m n o a w p u v)) b) b) F2 (by rw[dF];rfl)
theorem i17(b:List (UInt8×Int×Unit)):∀(q:Nat) (y f g h:Int) (k m:LB) (n:Bool) (o:Int) (a:LB) (w:List (Int×LB×Unit)) (p:LB) (u:LX) (v:List LB),z17 q (t17 b y f g h k m n o a w p u v)=En b q y f g h k m n o a w p u v:=
 ind (λ_ _ _ _ _ _ _ _ _ _ _ _ _=>by kernel_rfl) λq ih y f g h k m n o a w p u v=>Eq.trans (b:=Yq (x26 (z17 q) b) (DT (λy f g h k m n o a w p u v=>(z17 q) (t17 b y f g h k m n o a w p u v)) b) (CZ (λy f g h k m n o a w p u v=>(z17 q) (t17 b y f g h k m n o a w p u v)) b) (Em (λy f g h k m n o a w p u v=>(z17 q) (t17 b y f g h k m n o a w p u v)) b) DU b y f g h k m n o a w p u v) F2 (by rw[dA];simp only[e26,ih]<;>rfl)
def k:Kc P_ gl:=⟨(10,⟨H.p,H.r,u6 GX⟩),co H func10 (λx=>Eq.trans (b:=u6 (GU (λb y f g h k m n o a w p u v=>z17 Cu (t17 b y f g h k m n o a w p u v))) x) F2 (by simp only[i17,Au]<;>rfl))⟩
end F10
namespace F21
abbrev R_:=(Int×Int)
abbrev K_:=S->Option R_
def H:Hd:=⟨[.agg [Si,Si],Si,Ss,Sb,.lf (.list (.cons (.int .u8) (.cons (.int .i64) .nil))) none],[Si,Si],(.seq .d (.seq .d (.seq .d (.seq .d (.seq .d (.cut [17] [] (.seq .d (.blk (.loop [3,15,17,44,45,46] [⟨15,[6],.ro (.int .u8)⟩] (.seq .d (.seq .d (.seq (.blk (.seq .d (.cut [3,15,17,44,45,46] [⟨15,[6],.ro (.int .u8)⟩] (.seq .d (.blk (.seq .d (.cond (.seq .d (.seq (.mode false) .d)) .d)))) .d))) .d)))))) .d)))))),kt [F10.k,F11.k,F13.k,F14.k,F38.k,F54.k] false,[],f21⟩
def t7(a:List (UInt8×Int×Unit))(g:LB)(b f h k m:Int)(n o:LB)(p:Bool)(u:Int)(v:LB)(w:LX)(y:List LB):S:=⟨[(3,vb g),(15,.ptr 0 []),(17,vi b),(44,.val (.list (.cons (.int .u8) (.cons (.int .i64) .nil))) a),(45,vi (Ac a)),(46,vi f)],[.box 33 (.agg [.agg [vi h,vi k],vi m,vs n,.own 1,.own 2,.own 3,vb o,vt p,vi u]),Ab 5 v,Aw 21 w,.arr 24 (.list (.int .u8)) y],[]⟩
def z7:Nat->S->Option R_:=H.i P_ [r,r,r,r,r,l,r,d]
theorem i7(a:List (UInt8×Int×Unit)):∀(q:Nat) (g:LB) (b f h k m:Int) (n o:LB) (p:Bool) (u:Int) (v:LB) (w:LX) (y:List LB),z7 q (t7 a g b f h k m n o p u v w y)=Mg a q g b f h k m n o p u v w y:=
 ind (λ_ _ _ _ _ _ _ _ _ _ _ _ _=>by kernel_rfl) λq ih g b f h k m n o p u v w y=>Eq.trans (b:=Qq (Uo (λg b f h k m n o p u v w y=>(z7 q) (t7 a g b f h k m n o p u v w y)) a) FJ a g b f h k m n o p u v w y) F2 (by simp only[ih]<;>rfl)
def k:Kc P_ gl:=⟨(21,⟨H.p,H.r,u6 MS⟩),co H func21 (λx=>Eq.trans (b:=u6 (KX (λa g b f h k m n o p u v w y=>z7 Cu (t7 a g b f h k m n o p u v w y))) x) F2 (by simp only[i7,Au]<;>rfl))⟩
end F21
namespace F4
abbrev R_:=Bool
def H:Hd:=⟨[.agg [Si,Si],Si,Ss,Sb],[Sz],(.seq .d (.seq .d (.seq .d (.seq .d (.seq .d (.seq .d (.seq .d (.seq .d (.seq .d (.seq .d (.cut [1,2,3,4,9,10,13,15,17] [] (.seq .d (.blk (.loop [1,2,3,4,9,10,13,15,17,18] [] .d))) .d))))))))))),kt [F8.k,F11.k,F13.k,F14.k,F17.k,F18.k,F19.k,F20.k,F21.k] false,[],f4⟩
def t4(g:Int)(m n:LB)(a:Bool)(h ad b k o p u:Int)(v:LB)(w:Bool)(y:Int)(aa:LB)(ab:LX)(f:List LB)(ac:LB)(ae af:Int):S:=⟨[(1,vi g),(2,vs m),(3,vb n),(4,.ptr 0 []),(9,vt a),(10,.ptr 1 []),(13,vi h),(15,vi ad),(17,vi ae),(18,vi af)],[.box 23 (.agg [vi b,vi k]),.box 33 (.agg [.agg [vi o,vi p],vi u,vs v,.own 2,.own 3,.own 4,.own 5,vt w,vi y]),Ab 5 aa,Aw 21 ab,.arr 24 (.list (.int .u8)) f,Ab 5 ac],[]⟩
def z4:Nat->S->Option R_:=H.i P_ [r,r,r,r,r,r,r,r,r,r,l,r,d]
theorem i4(g:Int)(m n:LB)(a:Bool)(h ad b k o p u:Int)(v:LB)(w:Bool)(y:Int)(aa:LB)(ab:LX)(f:List LB)(ac:LB):∀(q:Nat) (ae af:Int),z4 q (t4 g m n a h ad b k o p u v w y aa ab f ac ae af)=Dd g m n a h ad b k o p u v w y aa ab f ac q ae af:=
 ind (λ_ _=>by kernel_rfl) λq ih ae af=>Eq.trans (b:=Gy Gs (λae af=>(z4 q) (t4 g m n a h ad b k o p u v w y aa ab f ac ae af)) g m n a h ad b k o p u v w y aa ab f ac ae af) F2 (by simp only[ih]<;>rfl)
def k:Kc P_ gl:=⟨(4,⟨H.p,H.r,u5 Jc⟩),co H func4 (λx=>Eq.trans (b:=u5 (Kr (λg m n a h ad b k o p u v w y aa ab f ac ae af=>z4 Cu (t4 g m n a h ad b k o p u v w y aa ab f ac ae af))) x) F2 (by simp only[i4,Au]<;>rfl))⟩
end F4
end
end Go.Proofs.YtehlnpncgkmoaaaGreatDoor
