/- A part of a proof (see the text that ends in Proof). No conditions. -/
import Derived.Test.YtcpaogkdpmlgkaaGreatDoorSdHA
set_option linter.unusedVariables false
set_option linter.unusedSimpArgs false
set_option maxRecDepth 10000
namespace Go.Proofs.YtcpaogkdpmlgkaaGreatDoor
open Go Go.Lv Go.Pl Go.Rx Go.Rx.PS
noncomputable section
def g0:List Value:=[.bool true,.int .i64 0]
def g1:List Value:=[.bool false,.int .i64 0]
def g2:List Value:=[.int .i64 2,.int .i64 2,.int .i64 2,.int .i64 4,.int .i64 4]
def g3:List Value:=[.int .u8 0,.int .u8 1,.int .u8 56,.int .u8 2,.int .u8 57,.int .u8 49,.int .u8 28,.int .u8 3,.int .u8 61,.int .u8 58,.int .u8 42,.int .u8 50,.int .u8 38,.int .u8 29,.int .u8 17,.int .u8 4,.int .u8 62,.int .u8 47,.int .u8 59,.int .u8 36,.int .u8 45,.int .u8 43,.int .u8 51,.int .u8 22,.int .u8 53,.int .u8 39,.int .u8 33,.int .u8 30,.int .u8 24,.int .u8 18,.int .u8 12,.int .u8 5,.int .u8 63,.int .u8 55,.int .u8 48,.int .u8 27,.int .u8 60,.int .u8 41,.int .u8 37,.int .u8 16,.int .u8 46,.int .u8 35,.int .u8 44,.int .u8 21,.int .u8 52,.int .u8 32,.int .u8 23,.int .u8 11,.int .u8 54,.int .u8 26,.int .u8 40,.int .u8 15,.int .u8 34,.int .u8 20,.int .u8 31,.int .u8 10,.int .u8 25,.int .u8 14,.int .u8 19,.int .u8 9,.int .u8 13,.int .u8 8,.int .u8 7,.int .u8 6]
def gl:List (Nat×List Value):=[(0,g0),(1,g1),(2,g2),(3,g3)]
theorem mixed:Tryz.prog.follows .mixedOrders=true:=F3
noncomputable abbrev P_:=Tryz.prog
noncomputable def kt(l:List (Kc P_ gl))(v:Bool)(c:Bool:=false):=Asd l v c
theorem co(H:Hd){f:Nat}{F:NT (Yl H.p)->Option (NT (Yl H.r))}(hf:P_.funcs[f]? =some H.f)(h:∀x,H.u P_ x=F x:=by intro x;kernel_rfl)(hT:bM P_ H.T:=by exact Ae0 _ _ _)(hb:okA P_ H=true:=by kernel_rfl):ConOk P_ H.T.gl f ⟨H.p,H.r,F⟩:=Hd.cn mixed H hf hT hb h
theorem ent48:Ent Tryz.prog 48:=Ent.mk Tryz.func48 F3 rfl
abbrev u2{A B R:Type}(f:A->B->R)(x:A×B):=f x.1 x.2
abbrev u3{A B C R:Type}(f:A->B->C->R):=u2 λa=>u2 (f a)
abbrev u4{A B C D R:Type}(f:A->B->C->D->R):=u2 λa=>u3 (f a)
abbrev u5{A B C D E R:Type}(f:A->B->C->D->E->R):=u2 λa=>u4 (f a)
abbrev u6{A B C D E F R:Type}(f:A->B->C->D->E->F->R):=u2 λa=>u5 (f a)
abbrev u7{A B C D E F G R:Type}(f:A->B->C->D->E->F->G->R):=u2 λa=>u6 (f a)
abbrev u8{A B C D E F G H R:Type}(f:A->B->C->D->E->F->G->H->R):=u2 λa=>u7 (f a)
abbrev u9{A B C D E F G H I R:Type}(f:A->B->C->D->E->F->G->H->I->R):=u2 λa=>u8 (f a)
abbrev u10{A B C D E F G H I J R:Type}(f:A->B->C->D->E->F->G->H->I->J->R):=u2 λa=>u9 (f a)
abbrev u11{A B C D E F G H I J K R:Type}(f:A->B->C->D->E->F->G->H->I->J->K->R):=u2 λa=>u10 (f a)
abbrev u12{A B C D E F G H I J K L R:Type}(f:A->B->C->D->E->F->G->H->I->J->K->L->R):=u2 λa=>u11 (f a)
abbrev u13{A B C D E F G H I J K L M R:Type}(f:A->B->C->D->E->F->G->H->I->J->K->L->M->R):=u2 λa=>u12 (f a)
open Go.Proofs.Tryz
namespace F16
def H:Hd:=⟨[],[.agg [Si,Si]],.d,kt [] false,[],f16⟩
def k:Kc P_ gl:=⟨(16,⟨H.p,H.r,λ_=>TF⟩),co H func16⟩
end F16
namespace F37
abbrev R_:=Bool
def H:Hd:=⟨[.agg [Sc,Si]],[Sz],(.seq .d (.seq (.seq .d (.blk (.cut [1,4,5] [] .d .d))) .d)),kt [] false,[],f37⟩
def k:Kc P_ gl:=⟨(37,⟨H.p,H.r,u2 aH⟩),co H func37⟩
end F37
namespace F36
def H:Hd:=⟨[.agg [Sc,Si]],[Sz],.d,kt [F37.k] false,[],f36⟩
def k:Kc P_ gl:=⟨(36,⟨H.p,H.r,u2 ES⟩),co H func36⟩
end F36
namespace F20
abbrev R_:=Int
abbrev K_:=S->Option R_
def H:Hd:=⟨[.lf (.list (.cons (.int .u8) (.cons (.int .i64) .nil))) none],[Si],(.seq .d (.seq .d (.cut [] [] (.cut [7] [] (.keep [7] true) .d) .d))),kt [F36.k] false,[(35,(.seq .d (.cut [4] [] (.keep [4,7,8] true) .d))),(68,(.seq .d (.cut [] [] (.seq .d (.blk (.loop [0,1,7,8] [] (.seq .d (.seq .d (.cut [0,1,7,8] [] (.blk (.seq .d (.cut [0,1,5,7,8,16] [] .d .d))) .d)))))) .d)))],f20⟩
def t11(a:List (UInt8×Int×Unit))(b:Int):S:=⟨[(0,.val (.list (.cons (.int .u8) (.cons (.int .i64) .nil))) a),(1,.fn 36 []),(7,vi (Ac a)),(8,vi b)],[],[[(4,vt false)],[]]⟩
def z11:Nat->S->Option R_:=H.i P_ [r,r,l,l,(call 1 35),r,l,(call 2 68),r,l,r,d]
theorem i11(a:List (UInt8×Int×Unit)):∀(q:Nat) (b:Int),z11 q (t11 a b)=Mx a q b:=
 ind (λ_=>by kernel_rfl) λq ih b=>Eq.trans (b:=Xj (HS (λb=>(z11 q) (t11 a b)) a) XF a b) F3 (by simp only[ih]<;>rfl)
def k:Kc P_ gl:=⟨(20,⟨H.p,H.r,EM⟩),co H func20 (λx=>Eq.trans (b:=MP (λa b=>z11 Dg (t11 a b)) x) F3 (by simp only[i11,Bc]<;>rfl))⟩
end F20
namespace F88
def H:Hd:=⟨[Si],[Si,Si],.d,kt [] false,[],f88⟩
def k:Kc P_ gl:=⟨(88,⟨H.p,H.r,Rs⟩),co H func88⟩
end F88
namespace F90
abbrev R_:=(Int32×Int32×Int)
def H:Hd:=⟨[Si],[Sx,Sx,Si],(.seq .d (.seq (.seq .d (.blk (.cut [0,7] [] .d .d))) .d)),kt [] false,[],f90⟩
def k:Kc P_ gl:=⟨(90,⟨H.p,H.r,CN⟩),co H func90⟩
end F90
namespace F89
def H:Hd:=⟨[.agg [Si,Si]],[Si],.d,kt [F90.k] false,[],f89⟩
def k:Kc P_ gl:=⟨(89,⟨H.p,H.r,u2 Tr⟩),co H func89⟩
end F89
namespace F51
def H:Hd:=⟨[.agg [Si,Si],Si,Ss],[Si,Sz],.d,kt [F88.k,F89.k] false,[],f51⟩
def k:Kc P_ gl:=⟨(51,⟨H.p,H.r,u4 VO⟩),co H func51⟩
end F51
namespace F29
def H:Hd:=⟨[.agg [Si,Si],Si,Ss],[.agg [.agg [Si,Si],Si,Ss,Ob 5,Ow 21,.lf (.list (.list (.int .u8))) (some 22),Ob 5,Sz,Si],Si],.d,kt [F51.k] false,[],f29⟩
def k:Kc P_ gl:=⟨(29,⟨H.p,H.r,u4 uV⟩),co H func29⟩
end F29
namespace F53
def H:Hd:=⟨[.agg [Si,Si]],[Si],.d,kt [] false,[],f53⟩
def k:Kc P_ gl:=⟨(53,⟨H.p,H.r,u2 QE⟩),co H func53⟩
end F53
namespace F113
abbrev R_:=Int
def H:Hd:=⟨[Si,Sw],[Si],(.seq .d (.seq .d (.seq .d (.seq .d (.cut [] [] (.seq .d (.blk (.loop [5,6,22,23,24] [] .d))) .d))))),kt [F90.k] false,[],f113⟩
def t4(b f:Int32)(a:LX)(g:Int):S:=⟨[(5,vx b),(6,vx f),(22,vw a),(23,vi (Ac a)),(24,vi g)],[],[]⟩
def z4:Nat->S->Option R_:=H.i P_ [r,r,r,r,l,r,d]
theorem i4(b f:Int32)(a:LX):∀(q:Nat) (g:Int),z4 q (t4 b f a g)=Qs b f a q g:=
 ind (λ_=>by kernel_rfl) λq ih g=>Eq.trans (b:=DG fX (λg=>(z4 q) (t4 b f a g)) b f a g) F3 (by simp only[ih]<;>rfl)
def k:Kc P_ gl:=⟨(113,⟨H.p,H.r,u2 Wd⟩),co H func113 (λx=>Eq.trans (b:=u2 (RJ (λb f a g=>z4 Dg (t4 b f a g))) x) F3 (by simp only[i4,Bc]<;>rfl))⟩
end F113
namespace F56
def H:Hd:=⟨[.agg [.agg [Si,Si],Si,Ss,Sb,Sw,.lf (.list (.list (.int .u8))) none,Sb,Sz,Si],Si],[Si],.d,kt [] false,[],f56⟩
def k:Kc P_ gl:=⟨(56,⟨H.p,H.r,u11 JA⟩),co H func56⟩
end F56
namespace F55
def H:Hd:=⟨[.agg [.agg [Si,Si],Si,Ss,Sb,Sw,.lf (.list (.list (.int .u8))) none,Sb,Sz,Si],Si,Si],[Sz],.d,kt [] false,[],f55⟩
def k:Kc P_ gl:=⟨(55,⟨H.p,H.r,u12 aS⟩),co H func55⟩
end F55
namespace F97
abbrev R_:=Bool
abbrev K_:=S->Option R_
def H:Hd:=⟨[.agg [.agg [Si,Si],Si,Ss,Sb,Sw,.lf (.list (.list (.int .u8))) none,Sb,Sz,Si],Si],[Sz],(.seq .d (.seq .d (.cut [1,2,5] [] .d (.seq .d (.seq .d (.cut [1,2,5,6] [] .d (.cut [1,2,5] [] .d (.seq .d (.cut [4] [] (.keep [4,80,81] true) .d))))))))),kt [F53.k,F55.k,F56.k,F113.k] false,[(131,(.seq .d (.cut [4] [] (.keep [4,7,8] true) .d))),(132,.d),(159,(.seq .d (.cut [] [] (.seq .d (.blk (.loop [0,1,7,8] [] (.seq .d (.seq .d (.cut [0,1,7,8] [] (.blk (.seq .d (.cut [0,1,5,7,8,16] [] (.keep [0,1,5,7,8,16] true) .d))) .d)))))) .d)))],f97⟩
def t16(b:List LB)(f a h:Int):S:=⟨[(0,.val (.list (.list (.int .u8))) b),(1,.fn 132 [.ptr 0 []]),(7,vi (Ac b)),(8,vi h)],[.box 3 (vi (Ae (Cq (Ae (Ce (Ce (81:Int) f) a) (7:Int)) (8:Int)) (4:Int)))],[[(4,vt false)],[]]⟩
def z16:Nat->S->Option R_:=H.i P_ [r,r,r,r,r,r,r,r,l,(call 3 131),r,l,(call 2 159),r,l,r,d]
def x13(f a k o:Int)(p m:LB)(g:LX)(b:List LB)(n:LB)(u:Bool)(v:Int):Option R_:=H.e P_ [r,r,r] ⟨[(1,vi f),(2,.ptr 0 []),(5,vi a)],[.box 55 (.agg [.agg [vi a,vi k],vi o,vs p,vb m,vw g,.val (.list (.list (.int .u8))) b,vb n,vt u,vi v])],[]⟩
theorem i16(b:List LB)(f a:Int):∀(q:Nat) (h:Int),z16 q (t16 b f a h)=Yo b f a q h:=
 ind (λ_=>by kernel_rfl) λq ih h=>Eq.trans (b:=NU (NH (λh=>(z16 q) (t16 b f a h)) b f a) NR b f a h) F3 (by simp only[ih]<;>rfl)
theorem e13:x13=NP:=Eq.trans (b:=NW (NM (NG (λb f a h=>z16 Dg (t16 b f a h))))) F3 (by simp only[i16,Bc]<;>rfl)
def k:Kc P_ gl:=⟨(97,⟨H.p,H.r,u11 bQ⟩),co H func97 (λx=>Eq.trans (b:=u11 (QF x13) x) F3 (by simp only[e13]<;>rfl))⟩
end F97
namespace F61
def H:Hd:=⟨[.agg [.agg [Si,Si],Si,Ss,Sb,Sw,.lf (.list (.list (.int .u8))) none,Sb,Sz,Si]],[Si],.d,kt [F51.k,F97.k] false,[],f61⟩
def k:Kc P_ gl:=⟨(61,⟨H.p,H.r,u10 VE⟩),co H func61⟩
end F61
namespace F63
def Nn(a:LB):Option (LB):=
wU a (
some ([]:LB)) (
(Cj ([]:LB) a).bind λb=>
some b)
theorem LY: @Nn= @Cw:=by
  unfold Nn Cw
  repeat (refine funext λ_=>?_)
  repeat' first
    |with_reducible rfl
    |with_reducible refine Ip ?_ ?_
    |with_reducible refine If ?_ ?_ ?_
    |with_reducible refine Iq ?_ ?_ ?_ ?_
    |((with_reducible refine Mq ?_ ?_);focus (intro h;first|(subst h;rfl)|(simp only[h];rfl)|(simp[Cj,Ac,h];done)))
    |with_reducible refine Ml λx=>?_
    |with_reducible refine Sd (λ_=>?_) (λ_=>?_)
    |(refine Eo (λh=>by simp only[h,Mo,Dn,Dj,ite_self]) (λx h=>?_);(try simp only[h,Dn]))
    |(refine Gm (λh=>?_) (λh=>?_)<;>simp only[h,if_true,if_false,Bool.false_eq_true])
def H:Hd:=⟨[Sb],[Ob 5],.d,kt [] false,[],f63⟩
def k:Kc P_ gl:=⟨(63,⟨H.p,H.r,Cw⟩),co H func63 (λx=>Eq.trans (b:=Nn x) F3 (by simp only[LY]<;>rfl))⟩
end F63
namespace F98
def Lq(a:LX):Option (LX):=
wU a (
some ([]:LX)) (
(Cj ([]:LX) a).bind λb=>
some b)
theorem GK: @Lq= @Dy:=by
  unfold Lq Dy
  repeat (refine funext λ_=>?_)
  repeat' first
    |with_reducible rfl
    |with_reducible refine Ip ?_ ?_
    |with_reducible refine If ?_ ?_ ?_
    |with_reducible refine Iq ?_ ?_ ?_ ?_
    |((with_reducible refine Mq ?_ ?_);focus (intro h;first|(subst h;rfl)|(simp only[h];rfl)|(simp[Cj,Ac,h];done)))
    |with_reducible refine Ml λx=>?_
    |with_reducible refine Sd (λ_=>?_) (λ_=>?_)
    |(refine Eo (λh=>by simp only[h,Mo,Dn,Dj,ite_self]) (λx h=>?_);(try simp only[h,Dn]))
    |(refine Gm (λh=>?_) (λh=>?_)<;>simp only[h,if_true,if_false,Bool.false_eq_true])
def H:Hd:=⟨[Sw],[Ow 21],.d,kt [] false,[],f98⟩
def k:Kc P_ gl:=⟨(98,⟨H.p,H.r,Dy⟩),co H func98 (λx=>Eq.trans (b:=Lq x) F3 (by simp only[GK]<;>rfl))⟩
end F98
namespace F62
abbrev R_:=(Int×Int×Int×LB×LB×LX×(List LB)×LB×Bool×Int)
def H:Hd:=⟨[.agg [.agg [Si,Si],Si,Ss,Sb,Sw,.lf (.list (.list (.int .u8))) none,Sb,Sz,Si]],[.agg [.agg [Si,Si],Si,Ss,Ob 5,Ow 21,.lf (.list (.list (.int .u8))) (some 22),Ob 5,Sz,Si]],(.seq .d (.cut [1,2] [] .d (.seq .d (.seq .d (.cut [1,2,3] [] (.seq .d (.blk (.loop [1,2,3,26,27] [] .d))) .d))))),kt [F63.k,F98.k] false,[],f62⟩
def t6(w a:List LB)(b f g:Int)(h:LB)(k:Bool)(m:Int)(n:LB)(o:LX)(p:LB)(v:Int)(u:List LB):S:=⟨[(1,.ptr 0 []),(2,.ptr 1 []),(3,.own 2),(26,vi (Ac (gR w a))),(27,vi v)],[.box 55 (.agg [.agg [vi b,vi f],vi g,vs h,.own 3,.own 4,.val (.list (.list (.int .u8))) a,.own 5,vt k,vi m]),.box 55 (.agg [.agg [vi 0,vi 0],vi 0,vs ([]:LB),.nils,.nils,.nils,.nils,vt false,vi 0]),.arr 22 (.list (.int .u8)) u,Ab 5 n,Aw 21 o,Ab 5 p],[]⟩
def z6:Nat->S->Option R_:=H.i P_ [r,r,r,r,l,r,d]
theorem i6(w a:List LB)(b f g:Int)(h:LB)(k:Bool)(m:Int)(n:LB)(o:LX)(p:LB):∀(q:Nat) (v:Int) (u:List LB),z6 q (t6 w a b f g h k m n o p v u)=NC w a b f g h k m n o p q v u:=
 ind (λ_ _=>by kernel_rfl) λq ih v u=>Eq.trans (b:=cF bY (λv u=>(z6 q) (t6 w a b f g h k m n o p v u)) w a b f g h k m n o p v u) F3 (by simp only[ih]<;>rfl)
def k:Kc P_ gl:=⟨(62,⟨H.p,H.r,u10 aD⟩),co H func62 (λx=>Eq.trans (b:=u10 (bK (cA (λw a b f g h k m n o p v u=>z6 Dg (t6 w a b f g h k m n o p v u)))) x) F3 (by simp only[i6,Bc]<;>rfl))⟩
end F62
namespace F52
abbrev R_:=(Int×Int×Int×LB×LB×LX×(List LB)×LB×Bool×Int×Int×Int)
def H:Hd:=⟨[.agg [.agg [Si,Si],Si,Ss,Sb,Sw,.lf (.list (.list (.int .u8))) none,Sb,Sz,Si]],[.agg [.agg [Si,Si],Si,Ss,Ob 5,Ow 21,.lf (.list (.list (.int .u8))) (some 22),Ob 5,Sz,Si],Si,Si],(.seq .d (.seq .d (.seq .d (.cut [1,2,6,7] [] .d .d)))),kt [F61.k,F62.k,F88.k] false,[],f52⟩
def k:Kc P_ gl:=⟨(52,⟨H.p,H.r,u10 VR⟩),co H func52⟩
end F52
namespace F57
abbrev R_:=(LX×Int)
abbrev K_:=S->Option R_
def H:Hd:=⟨[Si,Sb],[Ow 21,Si],(.seq .d (.seq .d (.seq .d (.seq .d (.seq .d (.seq .d (.cut [10] [] (.seq .d (.blk (.loop [0,1,9,10,11] [⟨10,[],.own 21 (.int .i32)⟩] (.seq .d (.cut [0,1,9,10,11] [] (.blk (.seq .d (.seq .d (.cut [0,1,9,10,11,12] [] (.seq .d (.blk (.loop [0,1,9,10,11,12,53,54] [] .d))) .d)))) .d))))) .d))))))),kt [F90.k] false,[],f57⟩
def t25(a:Int)(b:LB)(f:Int)(g:LX)(k:Int32)(h:Int):S:=⟨[(0,vi a),(1,vb b),(9,vi (Cq a (8:Int))),(10,.own 0),(11,vi f),(12,vx k),(53,vi (Cq a (8:Int))),(54,vi h)],[Aw 21 g],[]⟩
def z25(Ly:K_):Nat->S->Option R_:=H.i P_ [r,r,r,r,r,r,l,r,d,(lp Ly),r,l,d,r,r,l,r,d]
def t16(a:Int)(b:LB)(f:Int)(g:LX):S:=⟨[(0,vi a),(1,vb b),(9,vi (Cq a (8:Int))),(10,.own 0),(11,vi f)],[Aw 21 g],[]⟩
def z16:Nat->S->Option R_:=H.i P_ [r,r,r,r,r,r,l,r,d]
def x25(Ly:K_)(a:Int)(b:LB)(f:Int)(g:LX)(k:Int32)(h:Int):Option R_:=H.e P_ [r,r,r,r,r,r,l,r,d,(lp Ly),r,l,d,r,r,l,r,d] (t25 a b f g k h)
theorem i25(Ly:K_)(a:Int)(b:LB)(f:Int)(g:LX):∀(q:Nat) (k:Int32) (h:Int),z25 Ly q (t25 a b f g k h)=FJ (λf g=>Ly (t16 a b f g)) a b f g q k h:=
 ind (λ_ _=>by kernel_rfl) λq ih k h=>Eq.trans (b:=TP (TV (λf g=>Ly (t16 a b f g)) a b) (λk h=>(z25 Ly q) (t25 a b f g k h)) a b f g k h) F3 (by simp only[ih]<;>rfl)
theorem e25(Ly:K_)(a:Int)(b:LB):x25 Ly a b=UK (λf g=>Ly (t16 a b f g)) a b:=by funext f g k h;exact Eq.trans F3 ((i25 Ly a b f g Dg k h).trans (by rw[Bc];rfl))
theorem i16(a:Int)(b:LB):∀(q:Nat) (f:Int) (g:LX),z16 q (t16 a b f g)=Vo a b q f g:=
 ind (λ_ _=>by kernel_rfl) λq ih f g=>Eq.trans (b:=UT (DT (λf g=>(z16 q) (t16 a b f g)) a b) (x25 (z16 q) a b) TW a b f g) F3 (by simp only[e25,ih]<;>rfl)
def k:Kc P_ gl:=⟨(57,⟨H.p,H.r,u2 kJ⟩),co H func57 (λx=>Eq.trans (b:=u2 (XC (λa b f g=>z16 Dg (t16 a b f g))) x) F3 (by simp only[i16,Bc]<;>rfl))⟩
end F57
namespace F136
abbrev R_:=(UInt64×Int)
abbrev K_:=S->Option R_
def H:Hd:=⟨[Sq,Sb],[Sq,Si],(.seq .d (.seq .d (.cut [4,5] [] (.keep [0,1,4,5,9,10,11,12] true) .d))),kt [] false,[(161,(.seq .d (.cut [1] [] (.seq .d (.blk (.loop [0,1,9,10,11] [] .d))) .d))),(162,(.seq .d (.seq .d (.cut [1] [] (.seq .d (.blk (.loop [1,5] [] (.seq .d (.seq .d (.cut [1,5] [] (.blk (.seq .d (.seq .d (.cut [1,2,3,5] [] (.seq .d (.blk (.loop [1,2,3,5,11] [] .d))) .d)))) .d)))))) .d))))],f136⟩
def t27(a:LB)(b:UInt64)(f:LQ)(h:UInt64)(m:Int):S:=⟨[(0,.ptr 0 []),(1,vq h),(9,vb a),(10,vi (Ac a)),(11,vi m)],[.box 265 (.val (.vec 256 (.int .u64)) f)],[[(0,vq b),(1,vb a),(4,vq 0),(5,vi 0),(9,.ptr 0 []),(10,vq b),(11,vb a)]]⟩
def z27:Nat->S->Option R_:=H.i P_ [r,r,l,(call 3 161),r,l,r,d]
def t21(b:UInt64)(a:LB)(g:Int)(f:LQ)(k:UInt64)(n:Int):S:=⟨[(1,.ptr 0 []),(2,vi g),(3,vq k),(5,vi g),(11,vi n)],[.box 265 (.val (.vec 256 (.int .u64)) f)],[[(0,vq b),(1,vb a),(4,vq 0),(5,vi 0)]]⟩
def z21(Ly:K_):Nat->S->Option R_:=H.i P_ [r,r,l,(call 0 162),r,r,l,r,d,(lp Ly),r,r,l,d,r,r,l,r,d]
def t16(b:UInt64)(a:LB)(g:Int)(f:LQ):S:=⟨[(1,.ptr 0 []),(5,vi g)],[.box 265 (.val (.vec 256 (.int .u64)) f)],[[(0,vq b),(1,vb a),(4,vq 0),(5,vi 0)]]⟩
def z16:Nat->S->Option R_:=H.i P_ [r,r,l,(call 0 162),r,r,l,r,d]
def x27(a:LB)(b:UInt64)(f:LQ)(h:UInt64)(m:Int):Option R_:=H.e P_ [r,r,l,(call 3 161),r,l,r,d] (t27 a b f h m)
def x21(Ly:K_)(b:UInt64)(a:LB)(g:Int)(f:LQ)(k:UInt64)(n:Int):Option R_:=H.e P_ [r,r,l,(call 0 162),r,r,l,r,d,(lp Ly),r,r,l,d,r,r,l,r,d] (t21 b a g f k n)
theorem i27(a:LB)(b:UInt64)(f:LQ):∀(q:Nat) (h:UInt64) (m:Int),z27 q (t27 a b f h m)=Qx a b f q h m:=
 ind (λ_ _=>by kernel_rfl) λq ih h m=>Eq.trans (b:=DZ RI (λh m=>(z27 q) (t27 a b f h m)) a b f h m) F3 (by simp only[ih]<;>rfl)
theorem e27:x27=QG:=by funext a b f h m;exact Eq.trans F3 ((i27 a b f Dg h m).trans (by rw[Bc];rfl))
theorem i21(Ly:K_)(b:UInt64)(a:LB)(g:Int)(f:LQ):∀(q:Nat) (k:UInt64) (n:Int),z21 Ly q (t21 b a g f k n)=Rf (λg f=>Ly (t16 b a g f)) b a g f q k n:=
 ind (λ_ _=>by kernel_rfl) λq ih k n=>Eq.trans (b:=CZ (DN (λg f=>Ly (t16 b a g f)) b a) (λk n=>(z21 Ly q) (t21 b a g f k n)) b a g f k n) F3 (by simp only[ih]<;>rfl)
theorem e21(Ly:K_)(b:UInt64)(a:LB):x21 Ly b a=SC (λg f=>Ly (t16 b a g f)) b a:=by funext g f k n;exact Eq.trans F3 ((i21 Ly b a g f Dg k n).trans (by rw[Bc];rfl))
theorem i16(b:UInt64)(a:LB):∀(q:Nat) (g:Int) (f:LQ),z16 q (t16 b a g f)=Nu b a q g f:=
 ind (λ_ _=>by kernel_rfl) λq ih g f=>Eq.trans (b:=EC (x21 (z16 q) b a) (PW x27) b a g f) F3 (by simp only[e21,e27,ih]<;>rfl)
def k:Kc P_ gl:=⟨(136,⟨H.p,H.r,u2 aM⟩),co H func136 (λx=>Eq.trans (b:=u2 (VQ (λb a g f=>z16 Dg (t16 b a g f))) x) F3 (by simp only[i16,Bc]<;>rfl))⟩
end F136
namespace F106
def H:Hd:=⟨[Sb],[Sq,Si],.d,kt [F136.k] false,[],f106⟩
def k:Kc P_ gl:=⟨(106,⟨H.p,H.r,WW⟩),co H func106⟩
end F106
namespace F107
abbrev R_:=LX
def H:Hd:=⟨[Sq],[.lf (.vec 16 (.int .i32)) none],(.seq .d (.seq .d (.cut [2,3] [] (.seq .d (.blk (.loop [0,2,3,5] [] .d))) .d))),kt [] false,[],f107⟩
def t4(f:UInt64)(a:Int)(b:LX):S:=⟨[(0,vq f),(2,.ptr 0 []),(3,.ptr 1 []),(5,vi a)],[.box 127 (.val (.vec 16 (.int .i32)) (List.replicate 16 (0:Int32))),.box 127 (.val (.vec 16 (.int .i32)) b)],[]⟩
def z4:Nat->S->Option R_:=H.i P_ [r,r,l,r,d]
theorem i4(f:UInt64):∀(q:Nat) (a:Int) (b:LX),z4 q (t4 f a b)=IM f q a b:=
 ind (λ_ _=>by kernel_rfl) λq ih a b=>Eq.trans (b:=bA yG (λa b=>(z4 q) (t4 f a b)) f a b) F3 (by simp only[ih]<;>rfl)
def k:Kc P_ gl:=⟨(107,⟨H.p,H.r,S3⟩),co H func107 (λx=>Eq.trans (b:=D0 (λf a b=>z4 Dg (t4 f a b)) x) F3 (by simp only[i4,Bc]<;>rfl))⟩
end F107
namespace F76
def H:Hd:=⟨[Ss],[.lf (.vec 16 (.int .i32)) none,Si],.d,kt [F106.k,F107.k] false,[],f76⟩
def k:Kc P_ gl:=⟨(76,⟨H.p,H.r,Tt⟩),co H func76⟩
end F76
namespace F149
def H:Hd:=⟨[.agg [Si,Si],Sw],[Si],.d,kt [F89.k,F113.k] false,[],f149⟩
def k:Kc P_ gl:=⟨(149,⟨H.p,H.r,u3 kH⟩),co H func149⟩
end F149
namespace F169
def H:Hd:=⟨[Si,Sw],[Si],.d,kt [] false,[],f169⟩
def k:Kc P_ gl:=⟨(169,⟨H.p,H.r,u2 XN⟩),co H func169⟩
end F169
namespace F150
abbrev R_:=(LX×Int)
abbrev K_:=S->Option R_
def H:Hd:=⟨[Si,Sw],[Ow 21,Si],(.seq .d (.seq .d (.seq .d (.cut [7] [] (.seq .d (.blk (.loop [0,7,8] [] (.seq .d (.cut [0,7,8] [] (.blk (.keep [0,7,8,24,25,26,27,28,29] true)) .d))))) .d)))),kt [F98.k,F169.k] true,[(173,(.seq .d (.cut [0,2] [] (.seq .d (.blk (.loop [0,2,7,8] [] .d))) .d)))],f150⟩
def t17(b a f:Int)(g:LX):S:=⟨[(0,.view true 0 [] (.int .i32) a ((Ae a b)-a)),(2,vi (Al ((Ae a b)-a) (1:Int))),(7,vi (Al ((Ae a b)-a) (1:Int))),(8,vi f)],[Aw 21 g],[[(0,vi b),(7,.own 0),(8,vi a),(24,.own 0),(25,vi a),(26,vi a),(27,vi b),(28,vi (Ae a b)),(29,.view true 0 [] (.int .i32) a ((Ae a b)-a))]]⟩
def z17(BI:K_):Nat->S->Option R_:=H.i P_ [r,r,r,l,r,d,(lp BI),r,l,d,(call 6 173),r,l,r,d]
def t12(b a:Int)(h:LX):S:=⟨[(0,vi b),(7,.own 0),(8,vi a)],[Aw 21 h],[]⟩
def z12:Nat->S->Option R_:=H.i P_ [r,r,r,l,r,d]
def x17(BI:K_)(b a f:Int)(g:LX):Option R_:=H.e P_ [r,r,r,l,r,d,(lp BI),r,l,d,(call 6 173),r,l,r,d] (t17 b a f g)
theorem i17(BI:K_)(b a:Int):∀(q:Nat) (f:Int) (g:LX),z17 BI q (t17 b a f g)=fW (λa h=>BI (t12 b a h)) b a q f g:=
 ind (λ_ _=>by kernel_rfl) λq ih f g=>Eq.trans (b:=tS (tV (λa h=>BI (t12 b a h)) b) (λf g=>(z17 BI q) (t17 b a f g)) b a f g) F3 (by simp only[ih]<;>rfl)
theorem e17(BI:K_)(b:Int):x17 BI b=uG (λa h=>BI (t12 b a h)) b:=by funext a f g;exact Eq.trans F3 ((i17 BI b a Dg f g).trans (by rw[Bc];rfl))
theorem i12(b:Int):∀(q:Nat) (a:Int) (h:LX),z12 q (t12 b a h)=gT b q a h:=
 ind (λ_ _=>by kernel_rfl) λq ih a h=>Eq.trans (b:=uA (x17 (z12 q) b) tT b a h) F3 (by simp only[e17,ih]<;>rfl)
def k:Kc P_ gl:=⟨(150,⟨H.p,H.r,u2 Ae2⟩),co H func150 (λx=>Eq.trans (b:=u2 (zF (λb a h=>z12 Dg (t12 b a h))) x) F3 (by simp only[i12,Bc]<;>rfl))⟩
end F150
namespace F165
abbrev R_:=(Int×LX×LX×Int)
def H:Hd:=⟨[Si,.lf (.vec 16 (.int .i32)) none],[.agg [Si,.lf (.vec 16 (.int .i32)) none,.lf (.vec 16 (.int .i32)) none],Si],(.seq .d (.seq .d (.seq (.seq .d (.blk (.cut [4,6,9,11] [] .d .d))) .d))),kt [] false,[],f165⟩
def k:Kc P_ gl:=⟨(165,⟨H.p,H.r,u2 pM⟩),co H func165⟩
end F165
namespace F142
def H:Hd:=⟨[Si,.lf (.vec 16 (.int .i32)) none],[.agg [Si,Sx,.agg [Si,.lf (.vec 16 (.int .i32)) none,.lf (.vec 16 (.int .i32)) none]],Si],.d,kt [F165.k] false,[],f142⟩
def k:Kc P_ gl:=⟨(142,⟨H.p,H.r,u2 tM⟩),co H func142⟩
end F142
namespace F166
def H:Hd:=⟨[.agg [Si,Sx,.agg [Si,.lf (.vec 16 (.int .i32)) none,.lf (.vec 16 (.int .i32)) none]]],[Si],.d,kt [F165.k] false,[],f166⟩
def k:Kc P_ gl:=⟨(166,⟨H.p,H.r,u5 Wc⟩),co H func166⟩
end F166
namespace F181
def H:Hd:=⟨[Si],[Si,Si],.d,kt [] false,[],f181⟩
def k:Kc P_ gl:=⟨(181,⟨H.p,H.r,fF⟩),co H func181⟩
end F181
namespace F182
def H:Hd:=⟨[Si,Sx],[Sx],.d,kt [] false,[],f182⟩
def k:Kc P_ gl:=⟨(182,⟨H.p,H.r,u2 SS⟩),co H func182⟩
end F182
namespace F167
def H:Hd:=⟨[Si,Sx],[Sx,Si],.d,kt [F181.k,F182.k] false,[],f167⟩
def k:Kc P_ gl:=⟨(167,⟨H.p,H.r,u2 We⟩),co H func167⟩
end F167
namespace F188
def H:Hd:=⟨[.agg [Si,.lf (.vec 16 (.int .i32)) none,.lf (.vec 16 (.int .i32)) none]],[Si],.d,kt [] false,[],f188⟩
def k:Kc P_ gl:=⟨(188,⟨H.p,H.r,u3 IJ⟩),co H func188⟩
end F188
namespace F183
abbrev R_:=(Int32×Int)
def H:Hd:=⟨[.agg [Si,.lf (.vec 16 (.int .i32)) none,.lf (.vec 16 (.int .i32)) none]],[Sx,Si],(.seq .d (.seq .d (.seq .d (.cut [1,5] [] (.seq .d (.blk (.loop [1,5,18,19] [] .d))) .d)))),kt [F188.k] false,[],f183⟩
def t4(b:LX)(a:Int)(f:LX)(h:Int32)(g:Int):S:=⟨[(1,.ptr 0 []),(5,vx h),(18,.val (.vec 16 (.int .i32)) b),(19,vi g)],[.box 217 (.agg [vi a,.val (.vec 16 (.int .i32)) b,.val (.vec 16 (.int .i32)) f])],[]⟩
def z4:Nat->S->Option R_:=H.i P_ [r,r,r,l,r,d]
theorem i4(b:LX)(a:Int)(f:LX):∀(q:Nat) (h:Int32) (g:Int),z4 q (t4 b a f h g)=Ts b a f q h g:=
 ind (λ_ _=>by kernel_rfl) λq ih h g=>Eq.trans (b:=JD VG (λh g=>(z4 q) (t4 b a f h g)) b a f h g) F3 (by simp only[ih]<;>rfl)
def k:Kc P_ gl:=⟨(183,⟨H.p,H.r,u3 RE⟩),co H func183 (λx=>Eq.trans (b:=u3 (VD (λb a f h g=>z4 Dg (t4 b a f h g))) x) F3 (by simp only[i4,Bc]<;>rfl))⟩
end F183
namespace F191
def H:Hd:=⟨[Si],[Sx],.d,kt [] false,[],f191⟩
def k:Kc P_ gl:=⟨(191,⟨H.p,H.r,WR⟩),co H func191⟩
end F191
namespace F189
abbrev R_:=(Int×LX×LX×Int)
def H:Hd:=⟨[.agg [Si,.lf (.vec 16 (.int .i32)) none,.lf (.vec 16 (.int .i32)) none],Sx],[.agg [Si,.lf (.vec 16 (.int .i32)) none,.lf (.vec 16 (.int .i32)) none],Si],(.seq .d (.seq .d (.seq .d (.cut [2,4] [] (.seq .d (.blk (.loop [1,2,4,19,20] [] .d))) .d)))),kt [F188.k,F191.k] false,[],f189⟩
def t4(h:Int32)(f:LX)(g a:Int)(b:LX):S:=⟨[(1,vx h),(2,.ptr 0 []),(4,.ptr 1 []),(19,.val (.vec 16 (.int .i32)) f),(20,vi a)],[.box 217 (.agg [vi g,.val (.vec 16 (.int .i32)) b,.val (.vec 16 (.int .i32)) f]),.box 217 (.agg [vi 0,.val (.vec 16 (.int .i32)) (List.replicate 16 (0:Int32)),.val (.vec 16 (.int .i32)) (List.replicate 16 (0:Int32))])],[]⟩
def z4:Nat->S->Option R_:=H.i P_ [r,r,r,l,r,d]
theorem i4(h:Int32)(f:LX)(g:Int):∀(q:Nat) (a:Int) (b:LX),z4 q (t4 h f g a b)=Tm h f g q a b:=
 ind (λ_ _=>by kernel_rfl) λq ih a b=>Eq.trans (b:=JE kU (λa b=>(z4 q) (t4 h f g a b)) h f g a b) F3 (by simp only[ih]<;>rfl)
def k:Kc P_ gl:=⟨(189,⟨H.p,H.r,u4 bB⟩),co H func189 (λx=>Eq.trans (b:=u4 (VN (λh f g a b=>z4 Dg (t4 h f g a b))) x) F3 (by simp only[i4,Bc]<;>rfl))⟩
end F189
namespace F190
def UZ(j2:Int32->Int->LX->LX->Option (Int×LX×LX×Int))(b:Int)(f a:LX)(g:Int32):Option (Int×LX×LX×Int):=
(IJ b f a).bind λh=>
if(Bi h 0)then
some (0,(List.replicate 16 (0:Int32)),(List.replicate 16 (0:Int32)),h)
else
both (
(aB 16 1 16).bind λ_=>
(aB 16 0 16).bind λ_=>
j2 g b f a) [
(aB 16 0 16).bind λ_=>
(aB 16 1 16).bind λ_=>
j2 g b f a]
theorem tH: @UZ= @OR:=by
  unfold UZ OR
  repeat (refine funext λ_=>?_)
  repeat' first
    |with_reducible rfl
    |with_reducible refine Ip ?_ ?_
    |with_reducible refine If ?_ ?_ ?_
    |with_reducible refine Iq ?_ ?_ ?_ ?_
    |((with_reducible refine Mq ?_ ?_);focus (intro h;first|(subst h;rfl)|(simp only[h];rfl)|(simp[Cj,Ac,h];done)))
    |with_reducible refine Ml λx=>?_
    |with_reducible refine Sd (λ_=>?_) (λ_=>?_)
    |(refine Eo (λh=>by simp only[h,Mo,Dn,Dj,ite_self]) (λx h=>?_);(try simp only[h,Dn]))
    |(refine Gm (λh=>?_) (λh=>?_)<;>simp only[h,if_true,if_false,Bool.false_eq_true])
abbrev R_:=(Int×LX×LX×Int)
def H:Hd:=⟨[.agg [Si,.lf (.vec 16 (.int .i32)) none,.lf (.vec 16 (.int .i32)) none],Sx],[.agg [Si,.lf (.vec 16 (.int .i32)) none,.lf (.vec 16 (.int .i32)) none],Si],(.seq .d (.seq .d (.cut [1,2,4] [] .d .d))),kt [F188.k] false,[],f190⟩
def k:Kc P_ gl:=⟨(190,⟨H.p,H.r,u4 iY⟩),co H func190 (λx=>Eq.trans (b:=u4 (UZ aF) x) F3 (by simp only[tH]<;>rfl))⟩
end F190
namespace F184
def H:Hd:=⟨[.agg [Si,.lf (.vec 16 (.int .i32)) none,.lf (.vec 16 (.int .i32)) none],Sx,Sx],[.agg [Si,.lf (.vec 16 (.int .i32)) none,.lf (.vec 16 (.int .i32)) none]],.d,kt [F189.k,F190.k] false,[],f184⟩
def k:Kc P_ gl:=⟨(184,⟨H.p,H.r,u5 YZ⟩),co H func184⟩
end F184
namespace F174
def H:Hd:=⟨[.agg [Si,.lf (.vec 16 (.int .i32)) none,.lf (.vec 16 (.int .i32)) none],Sx],[Sx,.agg [Si,.lf (.vec 16 (.int .i32)) none,.lf (.vec 16 (.int .i32)) none],Si],.d,kt [F183.k,F184.k] false,[],f174⟩
def k:Kc P_ gl:=⟨(174,⟨H.p,H.r,u4 iB⟩),co H func174⟩
end F174
namespace F151
def FV(a:Int)(b:Int32)(f:Int)(g h:LX)(k:Int32):Option (Int32×Int×Int32×Int×LX×LX×Int):=
(Wc a b f g h).bind λm=>
if(Bi m 0)then
some (0,0,0,0,(List.replicate 16 (0:Int32)),(List.replicate 16 (0:Int32)),m)
else
(We a b).bind λ(n,y)=>
(iB f g h (Al k n)).bind λ(o,p,u,v,w)=>
bo (
some (o,a,k,p,u,v,w))
theorem gG: @FV= @IY:=by
  unfold FV IY;simp only[LV,Vp,Wp]
def H:Hd:=⟨[.agg [Si,Sx,.agg [Si,.lf (.vec 16 (.int .i32)) none,.lf (.vec 16 (.int .i32)) none]],Sx],[Sx,.agg [Si,Sx,.agg [Si,.lf (.vec 16 (.int .i32)) none,.lf (.vec 16 (.int .i32)) none]],Si],(.seq .d (.seq .d (.seq .d (.seq .d (.seq (.mode false) .d))))),kt [F166.k,F167.k,F174.k] false,[],f151⟩
def k:Kc P_ gl:=⟨(151,⟨H.p,H.r,u6 IY⟩),co H func151 (λx=>Eq.trans (b:=u6 FV x) F3 (by simp only[gG]<;>rfl))⟩
end F151
namespace F152
def H:Hd:=⟨[Sx],[Su],.d,kt [] false,[],f152⟩
def k:Kc P_ gl:=⟨(152,⟨H.p,H.r,M9⟩),co H func152⟩
end F152
namespace F123
abbrev R_:=(LU×Int)
def H:Hd:=⟨[.agg [Si,Si],.lf (.vec 16 (.int .i32)) none,Sw],[Ov 140,Si],(.seq .d (.seq .d (.seq .d (.seq .d (.seq .d (.cut [3,9,11] [] (.seq .d (.blk (.loop [3,4,9,11,36] [] .d))) (.seq .d (.cut [13] [] (.seq .d (.blk (.loop [3,11,13,49,50,51] [⟨13,[],.own 140 (.int .u32)⟩] .d))) .d)))))))),kt [F142.k,F149.k,F150.k,F151.k,F152.k] false,[],f123⟩
def t10(b:LX)(a f g:Int)(k:List (Int×Int32×(Int×LX×LX×Unit)×Unit))(h:LU):S:=⟨[(3,.ptr 0 []),(11,.ptr 1 []),(13,.own 2),(49,.own 3),(50,vi (Ac b)),(51,vi g)],[.box 51 (.agg [vi a,vi f]),.box 220 (.val (.vec 6 (.cons (.int .i64) (.cons (.int .i32) (.cons (.cons (.int .i64) (.cons (.vec 16 (.int .i32)) (.cons (.vec 16 (.int .i32)) .nil))) .nil)))) k),Av 140 h,Aw 21 b],[]⟩
def z10:Nat->S->Option R_:=H.i P_ [r,r,r,r,r,r,r,l,r,d]
def t7(a f:Int)(n b:LX)(o:Int)(m:List (Int×Int32×(Int×LX×LX×Unit)×Unit)):S:=⟨[(3,.ptr 0 []),(4,.ptr 1 []),(9,.own 2),(11,.ptr 3 []),(36,vi o)],[.box 51 (.agg [vi a,vi f]),.box 127 (.val (.vec 16 (.int .i32)) n),Aw 21 b,.box 220 (.val (.vec 6 (.cons (.int .i64) (.cons (.int .i32) (.cons (.cons (.int .i64) (.cons (.vec 16 (.int .i32)) (.cons (.vec 16 (.int .i32)) .nil))) .nil)))) m)],[]⟩
def z7:Nat->S->Option R_:=H.i P_ [r,r,r,r,r,l,r,d]
def x10(b:LX)(a f g:Int)(k:List (Int×Int32×(Int×LX×LX×Unit)×Unit))(h:LU):Option R_:=H.e P_ [r,r,r,r,r,r,r,l,r,d] (t10 b a f g k h)
theorem i10(b:LX)(a f:Int):∀(q:Nat) (g:Int) (k:List (Int×Int32×(Int×LX×LX×Unit)×Unit)) (h:LU),z10 q (t10 b a f g k h)=AN b a f q g k h:=
 ind (λ_ _ _=>by kernel_rfl) λq ih g k h=>Eq.trans (b:=SB SJ (λg k h=>(z10 q) (t10 b a f g k h)) b a f g k h) F3 (by simp only[ih]<;>rfl)
theorem e10:x10=QA:=by funext b a f g k h;exact Eq.trans F3 ((i10 b a f Dg g k h).trans (by rw[Bc];rfl))
theorem i7(a f:Int)(n b:LX):∀(q:Nat) (o:Int) (m:List (Int×Int32×(Int×LX×LX×Unit)×Unit)),z7 q (t7 a f n b o m)=ED a f n b q o m:=
 ind (λ_ _=>by kernel_rfl) λq ih o m=>Eq.trans (b:=SW (SP x10) (λo m=>(z7 q) (t7 a f n b o m)) a f n b o m) F3 (by simp only[e10,ih]<;>rfl)
def k:Kc P_ gl:=⟨(123,⟨H.p,H.r,u4 eN⟩),co H func123 (λx=>Eq.trans (b:=u4 (TI (λa f n b o m=>z7 Dg (t7 a f n b o m))) x) F3 (by simp only[i7,Bc]<;>rfl))⟩
end F123
namespace F137
def H:Hd:=⟨[],[.agg [Si,Si,Sq,Sq]],.d,kt [] false,[],f137⟩
def k:Kc P_ gl:=⟨(137,⟨H.p,H.r,λ_=>nD⟩),co H func137⟩
end F137
namespace F124
abbrev R_:=((List (Int×Int×UInt64×UInt64×Unit)))
def H:Hd:=⟨[],[.lf (.vec 6 (.cons (.int .i64) (.cons (.int .i64) (.cons (.int .u64) (.cons (.int .u64) .nil))))) none],(.seq .d (.seq .d (.cut [0,1] [] (.seq .d (.blk (.loop [0,1,3] [] .d))) .d))),kt [F137.k] false,[],f124⟩
def t4(b:Int)(a:List (Int×Int×UInt64×UInt64×Unit)):S:=⟨[(0,.ptr 0 []),(1,.ptr 1 []),(3,vi b)],[.box 194 (.val (.vec 6 (.cons (.int .i64) (.cons (.int .i64) (.cons (.int .u64) (.cons (.int .u64) .nil))))) (List.replicate 6 ((0:Int),(0:Int),(0:UInt64),(0:UInt64),()))),.box 194 (.val (.vec 6 (.cons (.int .i64) (.cons (.int .i64) (.cons (.int .u64) (.cons (.int .u64) .nil))))) a)],[]⟩
def z4:Nat->S->Option R_:=H.i P_ [r,r,l,r,d]
theorem i4:∀(q:Nat) (b:Int) (a:List (Int×Int×UInt64×UInt64×Unit)),z4 q (t4 b a)=CU q b a:=
 ind (λ_ _=>by kernel_rfl) λq ih b a=>Eq.trans (b:=UQ UH (λb a=>(z4 q) (t4 b a)) b a) F3 (by simp only[ih]<;>rfl)
def k:Kc P_ gl:=⟨(124,⟨H.p,H.r,λ_=>fT⟩),co H func124 (λx=>Eq.trans (b:=TG (λb a=>z4 Dg (t4 b a))) F3 (by simp only[i4,Bc]<;>rfl))⟩
end F124
namespace F140
def H:Hd:=⟨[.agg [Sb,Si]],[Si],.d,kt [] false,[],f140⟩
def k:Kc P_ gl:=⟨(140,⟨H.p,H.r,u2 Km⟩),co H func140⟩
end F140
namespace F153
def QN(j4:Int->Int->UInt64->UInt64->Option Int)(a b:Int)(f g:UInt64):Option Int:=
both (
bo (
j4 a b f g)) [
j4 a b f g]
theorem oG: @QN= @IZ:=by
  unfold QN IZ
  repeat (refine funext λ_=>?_)
  repeat' first
    |with_reducible rfl
    |with_reducible refine Ip ?_ ?_
    |with_reducible refine If ?_ ?_ ?_
    |with_reducible refine Iq ?_ ?_ ?_ ?_
    |((with_reducible refine Mq ?_ ?_);focus (intro h;first|(subst h;rfl)|(simp only[h];rfl)|(simp[Cj,Ac,h];done)))
    |with_reducible refine Ml λx=>?_
    |with_reducible refine Sd (λ_=>?_) (λ_=>?_)
    |(refine Eo (λh=>by simp only[h,Mo,Dn,Dj,ite_self]) (λx h=>?_);(try simp only[h,Dn]))
    |(refine Gm (λh=>?_) (λh=>?_)<;>simp only[h,if_true,if_false,Bool.false_eq_true])
def PM(j3:Int->Int->UInt64->UInt64->Option Int)(a b:Int)(f g:UInt64):Option Int:=
both (
bo (
j3 a b f g)) [
j3 a b f g]
theorem pF: @PM= @JF:=by
  unfold PM JF
  repeat (refine funext λ_=>?_)
  repeat' first
    |with_reducible rfl
    |with_reducible refine Ip ?_ ?_
    |with_reducible refine If ?_ ?_ ?_
    |with_reducible refine Iq ?_ ?_ ?_ ?_
    |((with_reducible refine Mq ?_ ?_);focus (intro h;first|(subst h;rfl)|(simp only[h];rfl)|(simp[Cj,Ac,h];done)))
    |with_reducible refine Ml λx=>?_
    |with_reducible refine Sd (λ_=>?_) (λ_=>?_)
    |(refine Eo (λh=>by simp only[h,Mo,Dn,Dj,ite_self]) (λx h=>?_);(try simp only[h,Dn]))
    |(refine Gm (λh=>?_) (λh=>?_)<;>simp only[h,if_true,if_false,Bool.false_eq_true])
abbrev R_:=Int
def H:Hd:=⟨[.agg [Si,Si,Sq,Sq]],[Si],(.seq .d (.seq .d (.cut [1,3] [] (.mode false) (.cut [1,3] [] (.mode false) .d)))),kt [] false,[],f153⟩
def x3(a b:Int)(f g:UInt64):Option R_:=H.e P_ [r,r,r] ⟨[(1,.ptr 0 []),(3,.ptr 1 [])],[.box 193 (.agg [vi a,vi b,vq f,vq g]),.box 193 (.agg [vi (Ee (oK a (0:Int)) (24:Int)),vi (Ee (oK b (0:Int)) (24:Int)),vq f,vq g])],[]⟩
theorem e3:x3=VU:=Eq.trans (b:=QN VB) F3 (by rw[oG];rfl)
def k:Kc P_ gl:=⟨(153,⟨H.p,H.r,u4 RQ⟩),co H func153 (λx=>Eq.trans (b:=u4 (PM x3) x) F3 (by rw[pF];simp only[e3]<;>rfl))⟩
end F153
namespace F154
def H:Hd:=⟨[.agg [Si,Si,Sq,Sq],Su],[Si,Su],.d,kt [] false,[],f154⟩
def k:Kc P_ gl:=⟨(154,⟨H.p,H.r,u5 IP⟩),co H func154⟩
end F154
namespace F175
def H:Hd:=⟨[.agg [Sb,Si]],[.agg [Ob 5,Si]],.d,kt [F63.k] false,[],f175⟩
def k:Kc P_ gl:=⟨(175,⟨H.p,H.r,u2 rY⟩),co H func175⟩
end F175
namespace F155
abbrev R_:=(LB×Int×Int)
abbrev K_:=S->Option R_
def H:Hd:=⟨[.agg [Sb,Si],Sq,Si],[.agg [Ob 5,Si],Si],(.seq .d (.seq .d (.seq .d (.cut [3,6] [] (.keep [1,2,3,6,40,41] true) .d)))),kt [F140.k,F175.k] false,[(163,(.blk (.loop [0,1,2] [] (.seq .d (.blk (.cut [0,1,2] [] .d (.seq .d (.cut [0,1,2,7] [] .d .d))))))))],f155⟩
def t15(b:UInt64)(a:Int)(m:UInt64)(h f:Int)(o:LB):S:=⟨[(0,.ptr 0 []),(1,vq m),(2,vi h)],[.box 173 (.agg [.own 2,vi f]),.box 173 (.agg [.nils,vi 0]),Ab 5 o],[[(1,vq b),(2,vi a),(3,.ptr 0 []),(6,.ptr 1 []),(40,vq b),(41,vi a)]]⟩
def z15:Nat->S->Option R_:=H.i P_ [r,r,r,l,(call 2 163),d]
def t22(b:UInt64)(a:Int)(n:UInt64)(k g:Int)(p:LB):S:=⟨[(0,.ptr 0 []),(1,vq n),(2,vi k)],[.box 173 (.agg [.own 2,vi g]),.box 173 (.agg [.nils,vi 0]),Ab 5 p],[[(1,vq b),(2,vi a),(3,.ptr 0 []),(6,.ptr 1 []),(40,vq b),(41,vi a)]]⟩
def z22:Nat->S->Option R_:=H.i P_ [r,r,r,l,(call 2 163),d]
theorem i15(b:UInt64)(a:Int):∀(q:Nat) (m:UInt64) (h f:Int) (o:LB),z15 q (t15 b a m h f o)=ZD b a q m h f o:=
 ind (λ_ _ _ _=>by kernel_rfl) λq ih m h f o=>Eq.trans (b:=oS (oM (λm h f o=>(z15 q) (t15 b a m h f o)) b a) oA b a m h f o) F3 (by simp only[ih]<;>rfl)
theorem i22(b:UInt64)(a:Int):∀(q:Nat) (n:UInt64) (k g:Int) (p:LB),z22 q (t22 b a n k g p)=ZS b a q n k g p:=
 ind (λ_ _ _ _=>by kernel_rfl) λq ih n k g p=>Eq.trans (b:=nI (pH (λn k g p=>(z22 q) (t22 b a n k g p)) b a) qI b a n k g p) F3 (by simp only[ih]<;>rfl)
def k:Kc P_ gl:=⟨(155,⟨H.p,H.r,u4 fZ⟩),co H func155 (λx=>Eq.trans (b:=u4 (uF (λb a m h f o=>z15 Dg (t15 b a m h f o)) (λb a n k g p=>z22 Dg (t22 b a n k g p))) x) F3 (by simp only[i15,i22,Bc]<;>rfl))⟩
end F155
namespace F176
def H:Hd:=⟨[Su,Si],[Sz],.d,kt [] false,[],f176⟩
def k:Kc P_ gl:=⟨(176,⟨H.p,H.r,u2 OW⟩),co H func176⟩
end F176
namespace F185
def H:Hd:=⟨[Si],[Si,Si],.d,kt [] false,[],f185⟩
def k:Kc P_ gl:=⟨(185,⟨H.p,H.r,pZ⟩),co H func185⟩
end F185
namespace F177
def H:Hd:=⟨[.agg [Sb,Si],Si],[.agg [Ob 5,Si],Si],.d,kt [F140.k,F155.k,F185.k] false,[],f177⟩
def k:Kc P_ gl:=⟨(177,⟨H.p,H.r,u3 vD⟩),co H func177⟩
end F177
namespace F156
abbrev R_:=(LB×Int×Int)
def H:Hd:=⟨[.agg [Sb,Si],Su,Si],[.agg [Ob 5,Si],Si],(.seq .d (.seq .d (.seq .d (.seq .d (.cut [3,6,9,10,11] [] .d .d))))),kt [F140.k,F155.k,F176.k,F177.k] false,[],f156⟩
def k:Kc P_ gl:=⟨(156,⟨H.p,H.r,u4 zP⟩),co H func156⟩
end F156
namespace F125
def MV(k u n:Int)(a:UInt64)(b:UInt32)(o:UInt64)(m:LB):Option (LB×Int×Int×Int×UInt64×UInt64×Int):=
(λaf:Option (LB×Int×Int×Int×UInt64×UInt64×Int)=>
both (
bo (
af)) [
af]) (
some (m,k,u,n,(Ae a (Al (Ad b:UInt64) (Ct a (GI.toZ (4:UInt64)).toNat))),o,0))
theorem mJ: @MV= @SK:=by
  unfold MV SK
  try simp only[LV,Vp,Wp]
  all_goals
    repeat (refine funext λ_=>?_)
    repeat' first
      |with_reducible rfl
      |with_reducible refine Ip ?_ ?_
      |with_reducible refine If ?_ ?_ ?_
      |with_reducible refine Iq ?_ ?_ ?_ ?_
      |((with_reducible refine Mq ?_ ?_);focus (intro h;first|(subst h;rfl)|(simp only[h];rfl)|(simp[Cj,Ac,h];done)))
      |with_reducible refine Ml λx=>?_
      |with_reducible refine Sd (λ_=>?_) (λ_=>?_)
      |(refine Eo (λh=>by simp only[h,Mo,Dn,Dj,ite_self]) (λx h=>?_);(try simp only[h,Dn]))
      |(refine Gm (λh=>?_) (λh=>?_)<;>simp only[h,if_true,if_false,Bool.false_eq_true])
abbrev R_:=(LB×Int×Int×Int×UInt64×UInt64×Int)
def H:Hd:=⟨[.agg [Sb,Si],.agg [Si,Si,Sq,Sq],Su],[.agg [Ob 5,Si],.agg [Si,Si,Sq,Sq],Si],(.seq .d (.cut [2,3,4,6,7] [] .d (.seq .d (.seq .d (.cut [2,3,4,6,7,11] [] .d (.seq .d (.cut [3,4,6,7] [] (.keep [2,3,4,6,7,65] true) (.seq (.mode false) .d)))))))),kt [F140.k,F153.k,F154.k,F155.k,F156.k] false,[(157,(.seq .d (.seq .d (.seq .d (.blk (.cut [0,1,4] [] (.blk (.seq .d (.keep [0,1,4,6,18,19,20,21,22,23,24,25] true))) (.cut [] [] (.keep [0,1,4,27,28,29,30,31,32,33,34] true) .d))))))),(178,.d)],f125⟩
def x10(k u n:Int)(a:UInt64)(b:UInt32)(o:UInt64)(m:LB):Option R_:=H.e P_ [r,r,r,r,r,r,r] ⟨[(3,.ptr 0 []),(4,.ptr 1 []),(6,.ptr 2 []),(7,.ptr 3 [])],[.box 173 (.agg [.own 4,vi k]),.box 193 (.agg [vi u,vi n,vq (Ae a (Al (Ad b:UInt64) (Ct a (GI.toZ (4:UInt64)).toNat))),vq o]),.box 173 (.agg [.nils,vi 0]),.box 193 (.agg [vi 0,vi 0,vq 0,vq 0]),Ab 5 m],[]⟩
def x8(b:UInt32)(f:Int)(a:UInt64)(k:Int)(m:LB)(n:Int)(o:UInt64):Option R_:=H.e P_ [r,r,r,r,r,r,l,(call 1 157),r,r,r,d,r] ⟨[(0,.ptr 0 []),(1,vu b),(4,.fn 178 [])],[.box 193 (.agg [vi f,vi n,vq a,vq o]),.box 173 (.agg [.own 4,vi k]),.box 173 (.agg [.nils,vi 0]),.box 193 (.agg [vi 0,vi 0,vq 0,vq 0]),Ab 5 m],[[(2,vu b),(3,.ptr 1 []),(4,.ptr 0 []),(6,.ptr 2 []),(7,.ptr 3 []),(65,vu b)]]⟩
theorem e10:x10=gO:=Eq.trans (b:=MV) F3 (by rw[mJ];rfl)
theorem e8:x8=kG:=Eq.trans (b:=kD (kZ x10)) F3 (by simp only[e10]<;>rfl)
def k:Kc P_ gl:=⟨(125,⟨H.p,H.r,u7 zB⟩),co H func125 (λx=>Eq.trans (b:=u7 (lH (lF (kB x8))) x) F3 (by simp only[e8]<;>rfl))⟩
end F125
namespace F118
abbrev R_:=(UInt32×Int)
abbrev K_:=S->Option R_
def H:Hd:=⟨[Su,Sb],[Su,Si],(.seq .d (.seq .d (.cut [0,1,6] [] (.keep [0,1,6,12] true) (.cut [0] [] (.seq .d (.blk (.loop [0,6,13,14,15] [] .d))) .d)))),kt [] false,[(148,(.seq .d (.seq .d (.cut [1] [] (.seq .d (.blk (.loop [1,5] [] (.seq .d (.seq .d (.cut [1,5] [] (.blk (.seq .d (.seq .d (.cut [1,2,3,5] [] (.seq .d (.blk (.loop [1,2,3,5,10] [] .d))) .d)))) .d)))))) .d))))],f118⟩
def t28(a:LB)(b:LU)(h:UInt32)(m:Int):S:=⟨[(0,vu h),(6,.ptr 0 []),(13,vb a),(14,vi (Ac a)),(15,vi m)],[.box 257 (.val (.vec 256 (.int .u32)) b)],[]⟩
def z28:Nat->S->Option R_:=H.i P_ [r,r,r,l,r,d]
def t21(f:UInt32)(a:LB)(g:Int)(b:LU)(k:UInt32)(n:Int):S:=⟨[(1,.ptr 0 []),(2,vi g),(3,vu k),(5,vi g),(10,vi n)],[.box 257 (.val (.vec 256 (.int .u32)) b)],[[(0,vu f),(1,vb a)]]⟩
def z21(Ly:K_):Nat->S->Option R_:=H.i P_ [r,r,l,(call 0 148),r,r,l,r,d,(lp Ly),r,r,l,d,r,r,l,r,d]
def t16(f:UInt32)(a:LB)(g:Int)(b:LU):S:=⟨[(1,.ptr 0 []),(5,vi g)],[.box 257 (.val (.vec 256 (.int .u32)) b)],[[(0,vu f),(1,vb a)]]⟩
def z16:Nat->S->Option R_:=H.i P_ [r,r,l,(call 0 148),r,r,l,r,d]
def x28(a:LB)(b:LU)(h:UInt32)(m:Int):Option R_:=H.e P_ [r,r,r,l,r,d] (t28 a b h m)
def x21(Ly:K_)(f:UInt32)(a:LB)(g:Int)(b:LU)(k:UInt32)(n:Int):Option R_:=H.e P_ [r,r,l,(call 0 148),r,r,l,r,d,(lp Ly),r,r,l,d,r,r,l,r,d] (t21 f a g b k n)
theorem i28(a:LB)(b:LU):∀(q:Nat) (h:UInt32) (m:Int),z28 q (t28 a b h m)=Qy a b q h m:=
 ind (λ_ _=>by kernel_rfl) λq ih h m=>Eq.trans (b:=FI QI (λh m=>(z28 q) (t28 a b h m)) a b h m) F3 (by simp only[ih]<;>rfl)
theorem e28:x28=QZ:=by funext a b h m;exact Eq.trans F3 ((i28 a b Dg h m).trans (by rw[Bc];rfl))
theorem i21(Ly:K_)(f:UInt32)(a:LB)(g:Int)(b:LU):∀(q:Nat) (k:UInt32) (n:Int),z21 Ly q (t21 f a g b k n)=Qp (λg b=>Ly (t16 f a g b)) f a g b q k n:=
 ind (λ_ _=>by kernel_rfl) λq ih k n=>Eq.trans (b:=DM (DX (λg b=>Ly (t16 f a g b)) f a) (λk n=>(z21 Ly q) (t21 f a g b k n)) f a g b k n) F3 (by simp only[ih]<;>rfl)
theorem e21(Ly:K_)(f:UInt32)(a:LB):x21 Ly f a=PT (λg b=>Ly (t16 f a g b)) f a:=by funext g b k n;exact Eq.trans F3 ((i21 Ly f a g b Dg k n).trans (by rw[Bc];rfl))
theorem i16(f:UInt32)(a:LB):∀(q:Nat) (g:Int) (b:LU),z16 q (t16 f a g b)=Nf f a q g b:=
 ind (λ_ _=>by kernel_rfl) λq ih g b=>Eq.trans (b:=FK (x21 (z16 q) f a) (QM (QS x28)) f a g b) F3 (by simp only[e21,e28,ih]<;>rfl)
def k:Kc P_ gl:=⟨(118,⟨H.p,H.r,u2 aT⟩),co H func118 (λx=>Eq.trans (b:=u2 (VK (λf a g b=>z16 Dg (t16 f a g b))) x) F3 (by simp only[i16,Bc]<;>rfl))⟩
end F118
namespace F83
def H:Hd:=⟨[Sb],[Su,Si],.d,kt [F118.k] false,[],f83⟩
def k:Kc P_ gl:=⟨(83,⟨H.p,H.r,Xd⟩),co H func83⟩
end F83
namespace F158
def H:Hd:=⟨[Sq,Si],[Sz],.d,kt [] false,[],f158⟩
def k:Kc P_ gl:=⟨(158,⟨H.p,H.r,u2 wT⟩),co H func158⟩
end F158
namespace F127
abbrev R_:=(LB×Int)
def H:Hd:=⟨[Sq,Si],[Ob 5,Si],(.seq .d (.seq .d (.seq .d (.seq .d (.cut [6] [] (.seq .d (.blk (.loop [0,6,21,22] [] .d))) .d))))),kt [F158.k] false,[],f127⟩
def t4(f:UInt64)(g:LB)(a:Int)(b:LB):S:=⟨[(0,vq f),(6,.own 0),(21,vi (Ac g)),(22,vi a)],[Ab 5 b],[]⟩
def z4:Nat->S->Option R_:=H.i P_ [r,r,r,r,l,r,d]
theorem i4(f:UInt64)(g:LB):∀(q:Nat) (a:Int) (b:LB),z4 q (t4 f g a b)=CJ f g q a b:=
 ind (λ_ _=>by kernel_rfl) λq ih a b=>Eq.trans (b:=TL dX (λa b=>(z4 q) (t4 f g a b)) f g a b) F3 (by simp only[ih]<;>rfl)
def k:Kc P_ gl:=⟨(127,⟨H.p,H.r,u2 Yy⟩),co H func127 (λx=>Eq.trans (b:=u2 (fM (λf g a b=>z4 Dg (t4 f g a b))) x) F3 (by simp only[i4,Bc]<;>rfl))⟩
end F127
namespace F96
abbrev R_:=LB
def H:Hd:=⟨[.lf (.list (.list (.int .u8))) none],[Ob 5],(.seq .d (.seq .d (.cut [0,3] [] (.seq .d (.blk (.loop [0,3,9,10,11] [] .d))) (.cut [0,6] [⟨6,[],.own 5 (.int .u8)⟩] (.keep [0,3,6,23,24] true) (.cut [6] [] (.seq .d (.blk (.loop [6,25,26,27] [] .d))) .d))))),kt [] true,[(130,(.seq .d (.cut [0,1] [] .d .d)))],f96⟩
def t14(a:List LB)(g:Int)(f:LB):S:=⟨[(6,.own 0),(25,.val (.list (.list (.int .u8))) a),(26,vi (Ac a)),(27,vi g)],[Ab 5 f],[]⟩
def z14:Nat->S->Option R_:=H.i P_ [r,r,r,r,l,r,d]
def t9(a:List LB)(b h:Int):S:=⟨[(0,.val (.list (.list (.int .u8))) a),(3,vi b),(9,.val (.list (.list (.int .u8))) a),(10,vi (Ac a)),(11,vi h)],[],[]⟩
def z9:Nat->S->Option R_:=H.i P_ [r,r,l,r,d]
def x14(a:List LB)(g:Int)(f:LB):Option R_:=H.e P_ [r,r,r,r,l,r,d] (t14 a g f)
theorem i14(a:List LB):∀(q:Nat) (g:Int) (f:LB),z14 q (t14 a g f)=Mn a q g f:=
 ind (λ_ _=>by kernel_rfl) λq ih g f=>Eq.trans (b:=Va Uu (λg f=>(z14 q) (t14 a g f)) a g f) F3 (by simp only[ih]<;>rfl)
theorem e14:x14=Uq:=by funext a g f;exact Eq.trans F3 ((i14 a Dg g f).trans (by rw[Bc];rfl))
theorem i9(a:List LB):∀(q:Nat) (b h:Int),z9 q (t9 a b h)=Ns a q b h:=
 ind (λ_ _=>by kernel_rfl) λq ih b h=>Eq.trans (b:=Wi (Vc (Vm (Vb x14))) (λb h=>(z9 q) (t9 a b h)) a b h) F3 (by simp only[e14,ih]<;>rfl)
def k:Kc P_ gl:=⟨(96,⟨H.p,H.r,Lo⟩),co H func96 (λx=>Eq.trans (b:=Wv (λa b h=>z9 Dg (t9 a b h)) x) F3 (by simp only[i9,Bc]<;>rfl))⟩
end F96
namespace F91
abbrev R_:=(LB×Int)
abbrev K_:=S->Option R_
def H:Hd:=⟨[.agg [Si,Si],.lf (.vec 16 (.int .i32)) none,Sw],[Ob 5,Si],(.seq .d (.seq .d (.seq .d (.seq .d (.seq .d (.cut [11] [] (.seq .d (.blk (.loop [3,10,11,30,31,32] [⟨11,[0],.own 5 (.int .u8)⟩] (.seq .d (.seq .d (.cut [3,10,11,30,31,32] [] (.blk (.seq .d (.seq .d (.seq .d (.seq .d (.keep [3,10,11,14,30,31,32,59] true)))))) .d)))))) .d)))))),kt [F83.k,F96.k,F123.k,F124.k,F125.k,F127.k] false,[(126,(.seq .d (.seq .d (.blk (.loop [0,3,7,8] [] (.seq .d (.seq .d (.seq (.blk (.seq .d (.cut [0,3,4,7,8] [] .d (.seq .d (.cut [0,3,7,8] [] .d .d))))) .d))))))))],f91⟩
def t44(b:LU)(a g h f:Int)(n:List (Int×Int×UInt64×UInt64×Unit))(m:LB)(o k:Int)(w:LB):S:=⟨[(0,.ptr 0 []),(3,.ptr 1 []),(7,vi h),(8,vi o)],[.box 173 (.agg [.own 7,vi k]),.box 173 (.agg [.own 6,vi h]),.box 51 (.agg [vi a,vi g]),.box 194 (.val (.vec 6 (.cons (.int .i64) (.cons (.int .i64) (.cons (.int .u64) (.cons (.int .u64) .nil))))) n),.box 173 (.agg [.own 6,vi h]),Av 140 b,Ab 5 m,Ab 5 w],[[(3,.ptr 2 []),(10,.ptr 3 []),(11,.ptr 0 []),(14,.ptr 4 []),(30,.own 5),(31,vi (Ac b)),(32,vi f),(59,.agg [.own 6,vi h])]]⟩
def z44(NF:K_):Nat->S->Option R_:=H.i P_ [r,r,r,r,r,l,r,d,(lp NF),r,r,l,d,r,r,r,r,(call 1 126),r,r,d]
def t27(b:LU)(a g f:Int)(u:List (Int×Int×UInt64×UInt64×Unit))(v:Int)(p:LB):S:=⟨[(3,.ptr 0 []),(10,.ptr 1 []),(11,.ptr 2 []),(30,.own 3),(31,vi (Ac b)),(32,vi f)],[.box 51 (.agg [vi a,vi g]),.box 194 (.val (.vec 6 (.cons (.int .i64) (.cons (.int .i64) (.cons (.int .u64) (.cons (.int .u64) .nil))))) u),.box 173 (.agg [.own 4,vi v]),Av 140 b,Ab 5 p],[]⟩
def z27:Nat->S->Option R_:=H.i P_ [r,r,r,r,r,l,r,d]
def x44(NF:K_)(b:LU)(a g h f:Int)(n:List (Int×Int×UInt64×UInt64×Unit))(m:LB)(o k:Int)(w:LB):Option R_:=H.e P_ [r,r,r,r,r,l,r,d,(lp NF),r,r,l,d,r,r,r,r,(call 1 126),r,r,d] (t44 b a g h f n m o k w)
theorem i44(NF:K_)(b:LU)(a g h f:Int)(n:List (Int×Int×UInt64×UInt64×Unit))(m:LB):∀(q:Nat) (o k:Int) (w:LB),z44 NF q (t44 b a g h f n m o k w)=AY (λf u v p=>NF (t27 b a g f u v p)) b a g h f n m q o k w:=
 ind (λ_ _ _=>by kernel_rfl) λq ih o k w=>Eq.trans (b:=SD (QJ (λo k w=>(z44 NF q) (t44 b a g h f n m o k w)) h b f a g n m) (SF (λf u v p=>NF (t27 b a g f u v p)) b a g) b a g h f n m o k w) F3 (by simp only[ih]<;>rfl)
theorem e44(NF:K_)(b:LU)(a g:Int):x44 NF b a g=RB (λf u v p=>NF (t27 b a g f u v p)) b a g:=by funext h f n m o k w;exact Eq.trans F3 ((i44 NF b a g h f n m Dg o k w).trans (by rw[Bc];rfl))
theorem i27(b:LU)(a g:Int):∀(q:Nat) (f:Int) (u:List (Int×Int×UInt64×UInt64×Unit)) (v:Int) (p:LB),z27 q (t27 b a g f u v p)=AU b a g q f u v p:=
 ind (λ_ _ _ _=>by kernel_rfl) λq ih f u v p=>Eq.trans (b:=RH (x44 (z27 q) b a g) QX b a g f u v p) F3 (by simp only[e44,ih]<;>rfl)
def k:Kc P_ gl:=⟨(91,⟨H.p,H.r,u4 SA⟩),co H func91 (λx=>Eq.trans (b:=u4 (SZ (λb a g f u v p=>z27 Dg (t27 b a g f u v p))) x) F3 (by simp only[i27,Bc]<;>rfl))⟩
end F91
namespace F59
def H:Hd:=⟨[.agg [.agg [Si,Si],Si,Ss,Sb,Sw,.lf (.list (.list (.int .u8))) none,Sb,Sz,Si],Si],[.agg [.agg [Si,Si],Si,Ss,Ob 5,Ow 21,.lf (.list (.list (.int .u8))) (some 22),Ob 5,Sz,Si],Si],.d,kt [] false,[],f59⟩
def k:Kc P_ gl:=⟨(59,⟨H.p,H.r,u11 FQ⟩),co H func59⟩
end F59
namespace F30
abbrev R_:=(Int×Int×Int×LB×LB×LX×(List LB)×LB×Bool×Int×Int)
abbrev K_:=S->Option R_
def H:Hd:=⟨[.agg [.agg [Si,Si],Si,Ss,Sb,Sw,.lf (.list (.list (.int .u8))) none,Sb,Sz,Si],Sb],[.agg [.agg [Si,Si],Si,Ss,Ob 5,Ow 21,.lf (.list (.list (.int .u8))) (some 22),Ob 5,Sz,Si],Si],(.seq .d (.seq .d (.seq .d (.seq .d (.seq .d (.cut [2,4] [] (.seq .d (.blk (.loop [2,4,8,9,27,28,29] [] (.seq .d (.seq .d (.cut [2,4,8,9,27,28,29] [] (.blk (.seq .d (.seq .d (.seq .d (.cut [2,4,8,9,12,27,28,29] [⟨2,[3],.own 5 (.int .u8)⟩,⟨2,[4],.own 21 (.int .i32)⟩,⟨9,[0,3],.own 5 (.int .u8)⟩,⟨9,[0,4],.own 21 (.int .i32)⟩] (.keep [2,4,8,9,12,27,28,29,45] true) .d))))) .d)))))) .d)))))),kt [F52.k,F53.k,F55.k,F56.k,F57.k,F59.k,F76.k,F91.k] false,[(54,(.seq .d (.cut [0,1] [] .d (.seq .d (.seq .d (.seq .d (.seq .d (.cut [2] [] (.keep [2,43] true) .d)))))))),(58,.d)],f30⟩
def t14(p:Int)(n:LB)(a b g:Int)(f:LB)(h:Bool)(k o:Int)(m:LB)(u:Int)(y:LB)(w:LX)(v:List LB):S:=⟨[(2,.ptr 0 []),(4,.ptr 1 []),(8,vi p),(9,.fn 54 [.ptr 0 [],.ptr 2 []]),(27,vb n),(28,vi (Ac n)),(29,vi u)],[.box 55 (.agg [.agg [vi a,vi b],vi g,vs f,.own 3,.own 4,.own 5,.own 6,vt h,vi k]),.box 55 (.agg [.agg [vi 0,vi 0],vi 0,vs ([]:LB),.nils,.nils,.nils,.nils,vt false,vi 0]),.box 3 (vi o),Ab 5 y,Aw 21 w,.arr 22 (.list (.int .u8)) v,Ab 5 m],[]⟩
def z14:Nat->S->Option R_:=H.i P_ [r,r,r,r,r,l,r,d]
theorem i14(p:Int)(n:LB)(a b g:Int)(f:LB)(h:Bool)(k o:Int)(m:LB):∀(q:Nat) (u:Int) (y:LB) (w:LX) (v:List LB),z14 q (t14 p n a b g f h k o m u y w v)=Qr p n a b g f h k o m q u y w v:=
 ind (λ_ _ _ _=>by kernel_rfl) λq ih u y w v=>Eq.trans (b:=XM (HO (λu y w v=>(z14 q) (t14 p n a b g f h k o m u y w v)) p n a b g f h k o m) (Rj (λu y w v=>(z14 q) (t14 p n a b g f h k o m u y w v)) p n a b g f h k o m) (WO (λu y w v=>(z14 q) (t14 p n a b g f h k o m u y w v)) p n a b g f h k o m) YK p n a b g f h k o m u y w v) F3 (by simp only[ih]<;>rfl)
def k:Kc P_ gl:=⟨(30,⟨H.p,H.r,u11 Rw⟩),co H func30 (λx=>Eq.trans (b:=u11 (cI (λp n a b g f h k o m u y w v=>z14 Dg (t14 p n a b g f h k o m u y w v))) x) F3 (by simp only[i14,Bc]<;>rfl))⟩
end F30
namespace F32
def H:Hd:=⟨[.agg [.agg [Si,Si],Si,Ss,Sb,Sw,.lf (.list (.list (.int .u8))) none,Sb,Sz,Si],Si],[.agg [.agg [Si,Si],Si,Ss,Ob 5,Ow 21,.lf (.list (.list (.int .u8))) (some 22),Sb,Sz,Si],Ob 5,Si],.d,kt [F61.k,F62.k,F63.k] false,[],f32⟩
def k:Kc P_ gl:=⟨(32,⟨H.p,H.r,u11 VL⟩),co H func32⟩
end F32
namespace F92
def H:Hd:=⟨[Ss],[Si,Si],.d,kt [] false,[],f92⟩
def k:Kc P_ gl:=⟨(92,⟨H.p,H.r,lI⟩),co H func92⟩
end F92
namespace F84
abbrev R_:=Bool
def H:Hd:=⟨[.agg [Si,Si,Si,Si,Si]],[Sz],(.seq .d (.cut [1] [] .d .d)),kt [] false,[],f84⟩
def k:Kc P_ gl:=⟨(84,⟨H.p,H.r,u5 Pv⟩),co H func84⟩
end F84
namespace F119
def H:Hd:=⟨[Si,Si],[Si,Si],.d,kt [F88.k] false,[],f119⟩
def k:Kc P_ gl:=⟨(119,⟨H.p,H.r,u2 Ze⟩),co H func119⟩
end F119
namespace F85
def H:Hd:=⟨[.agg [Si,Si,Si,Si,Si]],[Sz],.d,kt [F119.k] false,[],f85⟩
def k:Kc P_ gl:=⟨(85,⟨H.p,H.r,u5 LH⟩),co H func85⟩
end F85
namespace F104
def H:Hd:=⟨[.agg [Si,Si,Si,Si,Si]],[Si],.d,kt [F84.k,F85.k] false,[],f104⟩
def k:Kc P_ gl:=⟨(104,⟨H.p,H.r,u5 Rq⟩),co H func104⟩
end F104
namespace F93
abbrev R_:=(LB×Int)
def H:Hd:=⟨[.agg [Si,Si,Si,Si,Si]],[Ob 5,Si],(.seq .d (.seq .d (.seq .d (.cut [5] [] (.seq .d (.blk (.loop [5,31,32] [] .d))) .d)))),kt [F83.k,F104.k,F127.k] false,[],f93⟩
def t4(b f g h k m:Int)(a:LB):S:=⟨[(5,.own 0),(31,.val (.vec 5 (.int .i64)) ([b,f,g,h,k]:LI)),(32,vi m)],[Ab 5 a],[]⟩
def z4:Nat->S->Option R_:=H.i P_ [r,r,r,l,r,d]
theorem i4(b f g h k:Int):∀(q:Nat) (m:Int) (a:LB),z4 q (t4 b f g h k m a)=Pa b f g h k q m a:=
 ind (λ_ _=>by kernel_rfl) λq ih m a=>Eq.trans (b:=MY cE (λm a=>(z4 q) (t4 b f g h k m a)) b f g h k m a) F3 (by simp only[ih]<;>rfl)
def k:Kc P_ gl:=⟨(93,⟨H.p,H.r,u5 pD⟩),co H func93 (λx=>Eq.trans (b:=u5 (cJ (λb f g h k m a=>z4 Dg (t4 b f g h k m a))) x) F3 (by simp only[i4,Bc]<;>rfl))⟩
end F93
namespace F128
def H:Hd:=⟨[Ss],[Sq,Si],.d,kt [F106.k] false,[],f128⟩
def k:Kc P_ gl:=⟨(128,⟨H.p,H.r,sO⟩),co H func128⟩
end F128
namespace F94
def H:Hd:=⟨[Ss],[Ob 5,Si],.d,kt [F127.k,F128.k] false,[],f94⟩
def k:Kc P_ gl:=⟨(94,⟨H.p,H.r,EP⟩),co H func94⟩
end F94
namespace F101
abbrev R_:=Int
def H:Hd:=⟨[Sl],[Si],(.seq .d (.seq .d (.seq .d (.cut [] [] (.seq .d (.blk (.loop [3,14,15,16] [] .d))) .d)))),kt [] false,[],f101⟩
def t4(a:LI)(f b:Int):S:=⟨[(3,vi f),(14,vl a),(15,vi (Ac a)),(16,vi b)],[],[]⟩
def z4:Nat->S->Option R_:=H.i P_ [r,r,r,l,r,d]
theorem i4(a:LI):∀(q:Nat) (f b:Int),z4 q (t4 a f b)=Qz a q f b:=
 ind (λ_ _=>by kernel_rfl) λq ih f b=>Eq.trans (b:=FX iC (λf b=>(z4 q) (t4 a f b)) a f b) F3 (by simp only[ih]<;>rfl)
def k:Kc P_ gl:=⟨(101,⟨H.p,H.r,Ps⟩),co H func101 (λx=>Eq.trans (b:=FA (λa f b=>z4 Dg (t4 a f b)) x) F3 (by simp only[i4,Bc]<;>rfl))⟩
end F101
namespace F95
abbrev R_:=(LB×Int)
abbrev K_:=S->Option R_
def H:Hd:=⟨[Sl],[Ob 5,Si],(.seq .d (.seq .d (.seq .d (.seq .d (.cut [5,6] [] (.seq .d (.blk (.loop [5,6,17,18,19] [⟨5,[],.own 5 (.int .u8)⟩,⟨6,[0],.own 5 (.int .u8)⟩] (.seq .d (.seq .d (.cut [5,6,17,18,19] [] (.blk (.seq .d (.keep [5,6,8,17,18,19,23,24,25] true))) .d)))))) (.seq .d (.cut [5] [] (.keep [5,6,9,33,34,35] true) .d))))))),kt [F83.k,F101.k,F127.k] false,[(129,.d)],f95⟩
def t8(a:LI)(f:Int)(b:LB):S:=⟨[(5,.ptr 0 []),(6,.fn 129 [.ptr 0 []]),(17,vl a),(18,vi (Ac a)),(19,vi f)],[.box 22 (.own 1),Ab 5 b],[]⟩
def z8:Nat->S->Option R_:=H.i P_ [r,r,r,r,l,r,d]
theorem i8(a:LI):∀(q:Nat) (f:Int) (b:LB),z8 q (t8 a f b)=PO a q f b:=
 ind (λ_ _=>by kernel_rfl) λq ih f b=>Eq.trans (b:=gV (bT (λf b=>(z8 q) (t8 a f b)) a) bJ a f b) F3 (by simp only[ih]<;>rfl)
def k:Kc P_ gl:=⟨(95,⟨H.p,H.r,gN⟩),co H func95 (λx=>Eq.trans (b:=eO (λa f b=>z8 Dg (t8 a f b)) x) F3 (by simp only[i8,Bc]<;>rfl))⟩
end F95
namespace F60
def HR(f g h:Int)(b k:LB)(m:LX)(a:List LB)(n:LB)(o:Bool)(p:Int)(u:LB)(v:LI):Option (LB×Int):=
(gN v).bind λ(aa,y)=>
if(Bi y 0)then
some (([]:LB),y)
else
(λao:Option (LB×Int)=>
bo (
ao)) (
(Cj u aa).bind λab=>
(Lo a).bind λac=>
(Cj ab ac).bind λad=>
some (ad,0))
theorem jS: @HR= @MK:=by
  unfold HR MK;simp only[LV,Vp,Wp]
abbrev R_:=(LB×Int)
def H:Hd:=⟨[.agg [.agg [Si,Si],Si,Ss,Sb,Sw,.lf (.list (.list (.int .u8))) none,Sb,Sz,Si],Si],[Ob 5,Si],(.seq .d (.seq .d (.seq .d (.seq .d (.seq .d (.cut [2,8] [] .d (.seq .d (.cut [2,8,11] [] (.seq .d (.blk (.loop [2,8,11,58,59,60] [⟨11,[],.own 3 (.int .i64)⟩] .d))) (.seq .d (.seq .d (.seq (.mode false) .d))))))))))),kt [F92.k,F93.k,F94.k,F95.k,F96.k] false,[],f60⟩
def t6(a:List LB)(f g h:Int)(b k:LB)(m:LX)(n:LB)(o:Bool)(p:Int)(u:LB)(w:Int)(v:LI):S:=⟨[(2,.ptr 0 []),(8,.own 1),(11,.own 2),(58,.val (.list (.list (.int .u8))) a),(59,vi (Ac a)),(60,vi w)],[.box 55 (.agg [.agg [vi f,vi g],vi h,vs b,vb k,vw m,.val (.list (.list (.int .u8))) a,vb n,vt o,vi p]),Ab 5 u,Ai 3 v],[]⟩
def z6:Nat->S->Option R_:=H.i P_ [r,r,r,r,r,r,r,l,r,d]
def x8(f g h:Int)(b k:LB)(m:LX)(a:List LB)(n:LB)(o:Bool)(p:Int)(u:LB)(v:LI):Option R_:=H.e P_ [r,r,r,r,r,r,r,r] ⟨[(2,.ptr 0 []),(8,.own 1),(11,.own 2)],[.box 55 (.agg [.agg [vi f,vi g],vi h,vs b,vb k,vw m,.val (.list (.list (.int .u8))) a,vb n,vt o,vi p]),Ab 5 u,Ai 3 v],[]⟩
theorem e8:x8=bS:=Eq.trans (b:=HR) F3 (by rw[jS];rfl)
theorem i6(a:List LB)(f g h:Int)(b k:LB)(m:LX)(n:LB)(o:Bool)(p:Int)(u:LB):∀(q:Nat) (w:Int) (v:LI),z6 q (t6 a f g h b k m n o p u w v)=MX a f g h b k m n o p u q w v:=
 ind (λ_ _=>by kernel_rfl) λq ih w v=>Eq.trans (b:=bN x8 (λw v=>(z6 q) (t6 a f g h b k m n o p u w v)) a f g h b k m n o p u w v) F3 (by simp only[e8,ih]<;>rfl)
def k:Kc P_ gl:=⟨(60,⟨H.p,H.r,u11 qT⟩),co H func60 (λx=>Eq.trans (b:=u11 (bD (cG (λa f g h b k m n o p u w v=>z6 Dg (t6 a f g h b k m n o p u w v)))) x) F3 (by simp only[i6,Bc]<;>rfl))⟩
end F60
namespace F31
abbrev R_:=(Int×Int×Int×LB×LB×LX×(List LB)×LB×Bool×Int×Int)
def H:Hd:=⟨[.agg [.agg [Si,Si],Si,Ss,Sb,Sw,.lf (.list (.list (.int .u8))) none,Sb,Sz,Si]],[.agg [.agg [Si,Si],Si,Ss,Ob 5,Ow 21,.lf (.list (.list (.int .u8))) (some 22),Ob 5,Sz,Si],Si],(.seq .d (.seq .d (.seq .d (.seq .d (.seq .d (.cut [1,2,6] [] (.seq .d (.cond (.cut [1,2,6,7] [⟨1,[4],.own 21 (.int .i32)⟩] (.keep [1,2,6,7,38] true) .d) .d)) .d)))))),kt [F52.k,F56.k,F59.k,F60.k,F76.k,F91.k] false,[(58,.d)],f31⟩
def k:Kc P_ gl:=⟨(31,⟨H.p,H.r,u10 PY⟩),co H func31⟩
end F31
namespace F15
def AR(j29:Int->Int->Int->Int->LB->LB->Bool->Int->LB-> (List (Int×LB×Unit))->LB->LX-> (List LB)->Option (Int×Int×Int×LB×LB×LX×(List LB)×LB×Bool×Int×(List (Int×LB×Unit))×Int))(b:List (UInt8×Int×Unit))(aa:UInt8×Int×Unit)(a:LB)(ab y f g h:Int)(k p:LB)(u:LX)(v:List LB)(m:LB)(n:Bool)(o ac ad ae:Int)(af:LB)(ag:Bool)(ah:Int)(w:List (Int×LB×Unit))(ai:LB)(aj:LX)(ak:List LB)(al:LB):Option (Int×Int×Int×LB×LB×LX×(List LB)×LB×Bool×Int×(List (Int×LB×Unit))×Int):=
(λfj:Option (Int×Int×Int×LB×LB×LX×(List LB)×LB×Bool×Int×(List (Int×LB×Unit))×Int)=>
bo (
fj)) (
(Bl a (Ee aa.2.1 (Ac a)) (Ac a)).bind λbm=>
(Cj w ([(ab,([]:LB),())]:List (Int×LB×Unit))).bind λbn=>
j29 y ac ad ae af al ag ah bm bn ai aj ak)
theorem dG: @AR= @EA:=by
  unfold AR EA;simp only[LV,Vp,Wp]
def AQ(j26:(UInt8×Int×Unit)->LB->Int->Int->Int->Int->Int->LB->LB->LX-> (List LB)->LB->Bool->Int->Int->Int->Int->LB->Bool->Int-> (List (Int×LB×Unit))->LB->LX-> (List LB)->LB->Option (Int×Int×Int×LB×LB×LX×(List LB)×LB×Bool×Int×(List (Int×LB×Unit))×Int))(j33:Int->Int->Int->Int->Int->LB->LB->LX-> (List LB)->LB->Bool->Int->LB->Int->Int->Int->LB->LB->Bool->Int->LB-> (List (Int×LB×Unit))->LB->LX-> (List LB)->Option (Int×Int×Int×LB×LB×LX×(List LB)×LB×Bool×Int×(List (Int×LB×Unit))×Int))(j34:Int->Int->Int->Int->Int->LB->LB->LX-> (List LB)->LB->Bool->Int->LB->Int->Int->Int->LB->Bool->Int-> (List (Int×LB×Unit))->LB->LX-> (List LB)->LB->Option (Int×Int×Int×LB×LB×LX×(List LB)×LB×Bool×Int×(List (Int×LB×Unit))×Int))(j29:Int->Int->Int->Int->LB->LB->Bool->Int->LB-> (List (Int×LB×Unit))->LB->LX-> (List LB)->Option (Int×Int×Int×LB×LB×LX×(List LB)×LB×Bool×Int×(List (Int×LB×Unit))×Int))(j31:(List (Int×LB×Unit))->Int->Int->Int->LB->LB->Bool->Int->LB->LB->LX-> (List LB)->Option (Int×Int×Int×LB×LB×LX×(List LB)×LB×Bool×Int×(List (Int×LB×Unit))×Int))(b:List (UInt8×Int×Unit))(y f g h:Int)(k m:LB)(n:Bool)(o:Int)(a:LB)(w:List (Int×LB×Unit))(p:LB)(u:LX)(v:List LB):Option (Int×Int×Int×LB×LB×LX×(List LB)×LB×Bool×Int×(List (Int×LB×Unit))×Int):=
if(Ck y (Ac b))then
(Ah b y).bind λaa=>
if(geq aa.1 1)then
(λbp:Option (Int×Int×Int×LB×LB×LX×(List LB)×LB×Bool×Int×(List (Int×LB×Unit))×Int)=>
(λbs:Option (Int×Int×Int×LB×LB×LX×(List LB)×LB×Bool×Int×(List (Int×LB×Unit))×Int)=>
(λbt:Option (Int×Int×Int×LB×LB×LX×(List LB)×LB×Bool×Int×(List (Int×LB×Unit))×Int)=>
both (
bs) [
bs,
(Bl a 0 (Ee aa.2.1 (Ac a))).bind λam=>
(λbu:Option (Int×Int×Int×LB×LB×LX×(List LB)×LB×Bool×Int×(List (Int×LB×Unit))×Int)=>
(λbv:Option (Int×Int×Int×LB×LB×LX×(List LB)×LB×Bool×Int×(List (Int×LB×Unit))×Int)=>
(λbw:Option (Int×Int×Int×LB×LB×LX×(List LB)×LB×Bool×Int×(List (Int×LB×Unit))×Int)=>
both (
bw) [
bw,
bv]) (
both (
bv) [
bu])) (
bo (
bu))) (
(Rw f g h k p u v m n o am).bind λ(ac,ad,ae,af,ai,aj,ak,al,ag,ah,ab)=>
j26 aa a ab y f g h k p u v m n o ac ad ae af ag ah w ai aj ak al),
both (
bt) [
bt,
(Bl a 0 (Ee aa.2.1 (Ac a))).bind λam=>
(λfk:Option (Int×Int×Int×LB×LB×LX×(List LB)×LB×Bool×Int×(List (Int×LB×Unit))×Int)=>
bo (
fk)) (
(Rw f g h k p u v m n o am).bind λ(ac,ad,ae,af,ai,aj,ak,al,ag,ah,ab)=>
j26 aa a ab y f g h k p u v m n o ac ad ae af ag ah w ai aj ak al)]]) (
bo (
bp))) (
both (
both (
(Bl a 0 (Ee aa.2.1 (Ac a))).bind λam=>
(λfl:Option (Int×Int×Int×LB×LB×LX×(List LB)×LB×Bool×Int×(List (Int×LB×Unit))×Int)=>
bo (
fl)) (
(Rw f g h k p u v m n o am).bind λ(ac,ad,ae,af,ai,aj,ak,al,ag,ah,ab)=>
j26 aa a ab y f g h k p u v m n o ac ad ae af ag ah w ai aj ak al)) [
bp]) [
(Bl a 0 (Ee aa.2.1 (Ac a))).bind λam=>
(λbx:Option (Int×Int×Int×LB×LB×LX×(List LB)×LB×Bool×Int×(List (Int×LB×Unit))×Int)=>
both (
bo (
bx)) [
bx]) (
(Rw f g h k p u v m n o am).bind λ(ac,ad,ae,af,ai,aj,ak,al,ag,ah,ab)=>
j26 aa a ab y f g h k p u v m n o ac ad ae af ag ah w ai aj ak al),
bo (
bp)])) (
(Bl a 0 (Ee aa.2.1 (Ac a))).bind λam=>
(Rw f g h k p u v m n o am).bind λ(ac,ad,ae,af,ai,aj,ak,al,ag,ah,ab)=>
j26 aa a ab y f g h k p u v m n o ac ad ae af ag ah w ai aj ak al)
else
if(geq aa.1 2)then
(λbz:Option (Int×Int×Int×LB×LB×LX×(List LB)×LB×Bool×Int×(List (Int×LB×Unit))×Int)=>
(λda:Option (Int×Int×Int×LB×LB×LX×(List LB)×LB×Bool×Int×(List (Int×LB×Unit))×Int)=>
(λdb:Option (Int×Int×Int×LB×LB×LX×(List LB)×LB×Bool×Int×(List (Int×LB×Unit))×Int)=>
both (
db) [
db,
da]) (
both (
da) [
bz])) (
bo (
bz))) (
(VL f g h k p u v m n o aa.2.1).bind λ(ao,ap,aq,ar,ay,az,ba,au,av,aw,ax,an)=>
j33 an y f g h k p u v m n o a ao ap aq ar au av aw ax w ay az ba)
else
if(geq aa.1 3)then
(λdc:Option (Int×Int×Int×LB×LB×LX×(List LB)×LB×Bool×Int×(List (Int×LB×Unit))×Int)=>
(λdd:Option (Int×Int×Int×LB×LB×LX×(List LB)×LB×Bool×Int×(List (Int×LB×Unit))×Int)=>
(λde:Option (Int×Int×Int×LB×LB×LX×(List LB)×LB×Bool×Int×(List (Int×LB×Unit))×Int)=>
both (
de) [
de,
dd]) (
both (
dd) [
dc])) (
bo (
dc))) (
(PY f g h k p u v m n o).bind λ(bc,bd,be,bf,bi,bj,bk,bl,bg,bh,bb)=>
j34 bb y f g h k p u v m n o a bc bd be bf bg bh w bi bj bk bl)
else
j29 y f g h k m n o a w p u v
else
j31 w f g h k m n o a p u v
theorem dE: @AQ= @EI:=by
  unfold AQ EI
  try simp only[LV,Vp,Wp]
  all_goals
    repeat (refine funext λ_=>?_)
    repeat' first
      |with_reducible rfl
      |with_reducible refine Ip ?_ ?_
      |with_reducible refine If ?_ ?_ ?_
      |with_reducible refine Iq ?_ ?_ ?_ ?_
      |((with_reducible refine Mq ?_ ?_);focus (intro h;first|(subst h;rfl)|(simp only[h];rfl)|(simp[Cj,Ac,h];done)))
      |with_reducible refine Ml λx=>?_
      |with_reducible refine Sd (λ_=>?_) (λ_=>?_)
      |(refine Eo (λh=>by simp only[h,Mo,Dn,Dj,ite_self]) (λx h=>?_);(try simp only[h,Dn]))
      |(refine Gm (λh=>?_) (λh=>?_)<;>simp only[h,if_true,if_false,Bool.false_eq_true])
abbrev R_:=(Int×Int×Int×LB×LB×LX×(List LB)×LB×Bool×Int×(List (Int×LB×Unit))×Int)
abbrev K_:=S->Option R_
def H:Hd:=⟨[.agg [Si,Si],Si,Ss,Sb,.lf (.list (.cons (.int .u8) (.cons (.int .i64) .nil))) none],[.agg [.agg [Si,Si],Si,Ss,Ob 5,Ow 21,.lf (.list (.list (.int .u8))) (some 22),Sb,Sz,Si],.lf (.list (.cons (.int .i64) (.cons (.list (.int .u8)) .nil))) (some 49),Si],(.seq .d (.seq .d (.seq .d (.seq .d (.seq .d (.cut [10,16,17] [] (.keep [10,16,17,41] true) .d)))))),kt [F20.k,F29.k,F30.k,F31.k,F32.k] false,[(33,(.seq .d (.seq .d (.seq .d (.cut [6] [] (.seq .d (.blk (.loop [5,6,19,20,21] [⟨5,[0,0,6],.ro (.int .u8)⟩,⟨6,[],.own 49 (.cons (.int .i64) (.cons (.list (.int .u8)) .nil))⟩] (.seq .d (.seq .d (.cut [5,6,19,20,21] [⟨5,[0,0,6],.ro (.int .u8)⟩] (.blk (.seq .d (.seq .d (.seq .d (.cond (.keep [5,6,19,20,21,33,37,38,39] true) .d))))) .d)))))) .d))))),(64,(.seq .d (.seq .d (.cut [0,1,4,5,6] [] (.mode false) (.seq (.mode false) .d))))),(65,(.seq .d (.cut [0,4,5,6,7] [] (.mode false) .d))),(66,(.seq .d (.cut [0,4,5,6] [] (.mode false) .d)))],f15⟩
def t17(b:List (UInt8×Int×Unit))(y f g h:Int)(k m:LB)(n:Bool)(o:Int)(a:LB)(w:List (Int×LB×Unit))(p:LB)(u:LX)(v:List LB):S:=⟨[(5,.mp [1,2,3] [.bfn 64 [.ptr 0 []],.bfn 65 [.ptr 0 []],.bfn 66 [.ptr 0 []]]),(6,.own 1),(19,.val (.list (.cons (.int .u8) (.cons (.int .i64) .nil))) b),(20,vi (Ac b)),(21,vi y)],[.box 83 (.agg [.agg [.agg [vi f,vi g],vi h,vs k,.own 3,.own 4,.own 5,vb m,vt n,vi o],.fn 30 [],.fn 31 [],.fn 32 [],vb a]),.arr 49 (.cons (.int .i64) (.cons (.list (.int .u8)) .nil)) w,.box 55 (.agg [.agg [vi 0,vi 0],vi 0,vs ([]:LB),.nils,.nils,.nils,.nils,vt false,vi 0]),Ab 5 p,Aw 21 u,.arr 22 (.list (.int .u8)) v],[[(10,.ptr 2 []),(16,.ptr 0 [])]]⟩
def z17:Nat->S->Option R_:=H.i P_ [r,r,r,r,r,l,(call 2 33),r,r,r,l,r,d]
def x26(H4:K_)(b:List (UInt8×Int×Unit))(aa:UInt8×Int×Unit)(a:LB)(ab y f g h:Int)(k p:LB)(u:LX)(v:List LB)(m:LB)(n:Bool)(o ac ad ae:Int)(af:LB)(ag:Bool)(ah:Int)(w:List (Int×LB×Unit))(ai:LB)(aj:LX)(ak:List LB)(al:LB):Option R_:=H.e P_ [r,r,r,r,r,l,(call 2 33),r,r,r,l,r,d,(lp H4),r,r,l,d,r,r,r,l,(call 4 64),r,r,r] ⟨[(0,.ptr 0 []),(1,vi (Ee aa.2.1 (Ac a))),(4,.ptr 1 []),(5,.ptr 2 []),(6,vi ab)],[.box 83 (.agg [.agg [.agg [vi f,vi g],vi h,vs k,vb p,vw u,.val (.list (.list (.int .u8))) v,vb m,vt n,vi o],.fn 30 [],.fn 31 [],.fn 32 [],vb a]),.box 49 (.agg [vi 0,.nils]),.box 55 (.agg [.agg [vi ac,vi ad],vi ae,vs af,.own 5,.own 6,.own 7,.own 8,vt ag,vi ah]),.arr 49 (.cons (.int .i64) (.cons (.list (.int .u8)) .nil)) w,.box 55 (.agg [.agg [vi 0,vi 0],vi 0,vs ([]:LB),.nils,.nils,.nils,.nils,vt false,vi 0]),Ab 5 ai,Aw 21 aj,.arr 22 (.list (.int .u8)) ak,Ab 5 al],[[(5,.mp [1,2,3] [.bfn 64 [.ptr 0 []],.bfn 65 [.ptr 0 []],.bfn 66 [.ptr 0 []]]),(6,.own 3),(19,.val (.list (.cons (.int .u8) (.cons (.int .i64) .nil))) b),(20,vi (Ac b)),(21,vi y),(33,.own 3)],[(10,.ptr 4 []),(16,.ptr 0 [])]]⟩
theorem e26(H4:K_)(b:List (UInt8×Int×Unit)):x26 H4 b=TM (λy f g h k m n o a w p u v=>H4 (t17 b y f g h k m n o a w p u v)) b:=Eq.trans (b:=AR (Lk (λy f g h k m n o a w p u v=>H4 (t17 b y f g h k m n o a w p u v)) b) b) F3 (by rw[dG];rfl)
theorem i17(b:List (UInt8×Int×Unit)):∀(q:Nat) (y f g h:Int) (k m:LB) (n:Bool) (o:Int) (a:LB) (w:List (Int×LB×Unit)) (p:LB) (u:LX) (v:List LB),z17 q (t17 b y f g h k m n o a w p u v)=Ll b q y f g h k m n o a w p u v:=
 ind (λ_ _ _ _ _ _ _ _ _ _ _ _ _=>by kernel_rfl) λq ih y f g h k m n o a w p u v=>Eq.trans (b:=AQ (x26 (z17 q) b) (UL (λy f g h k m n o a w p u v=>(z17 q) (t17 b y f g h k m n o a w p u v)) b) (TZ (λy f g h k m n o a w p u v=>(z17 q) (t17 b y f g h k m n o a w p u v)) b) (Lk (λy f g h k m n o a w p u v=>(z17 q) (t17 b y f g h k m n o a w p u v)) b) UN b y f g h k m n o a w p u v) F3 (by rw[dE];simp only[e26,ih]<;>rfl)
def k:Kc P_ gl:=⟨(15,⟨H.p,H.r,u6 kC⟩),co H func15 (λx=>Eq.trans (b:=u6 (XS (λb y f g h k m n o a w p u v=>z17 Dg (t17 b y f g h k m n o a w p u v))) x) F3 (by simp only[i17,Bc]<;>rfl))⟩
end F15
namespace F100
def H:Hd:=⟨[Sq,Sq],[Sq,Sq],.d,kt [] false,[],f100⟩
def k:Kc P_ gl:=⟨(100,⟨H.p,H.r,u2 MO⟩),co H func100⟩
end F100
namespace F67
def H:Hd:=⟨[Sq,Sq],[Sq,Sq],.d,kt [F100.k] false,[],f67⟩
def k:Kc P_ gl:=⟨(67,⟨H.p,H.r,u2 Zm⟩),co H func67⟩
end F67
namespace F34
def Hf(j10:(List (UInt8×Int×Unit))->Option ((List (UInt8×Int×Unit))))(Z3:Int-> (List (UInt8×Int×Unit))->Option ((List (UInt8×Int×Unit))))(b:Int)(a:List (UInt8×Int×Unit)):Option ((List (UInt8×Int×Unit))):=
if(Ck b (Ac a))then
both (
(aB (Ac a) b (Ac a)).bind λ_=>
(aB (Ac a) 0 b).bind λ_=>
Z3 (Ae b (FC ((Ac a)-b) (KT a 0 (b-(0:Int))).length)) (Qo a b ((Ac a)-b) (KT a 0 (b-(0:Int))))) [
(aB (Ac a) 0 b).bind λ_=>
(aB (Ac a) b (Ac a)).bind λ_=>
Z3 (Ae b (FC ((Ac a)-b) (KT a 0 (b-(0:Int))).length)) (Qo a b ((Ac a)-b) (KT a 0 (b-(0:Int))))]
else
j10 a
theorem Wy: @Hf= @Hu:=by
  unfold Hf Hu
  repeat (refine funext λ_=>?_)
  repeat' first
    |with_reducible rfl
    |with_reducible refine Ip ?_ ?_
    |with_reducible refine If ?_ ?_ ?_
    |with_reducible refine Iq ?_ ?_ ?_ ?_
    |((with_reducible refine Mq ?_ ?_);focus (intro h;first|(subst h;rfl)|(simp only[h];rfl)|(simp[Cj,Ac,h];done)))
    |with_reducible refine Ml λx=>?_
    |with_reducible refine Sd (λ_=>?_) (λ_=>?_)
    |(refine Eo (λh=>by simp only[h,Mo,Dn,Dj,ite_self]) (λx h=>?_);(try simp only[h,Dn]))
    |(refine Gm (λh=>?_) (λh=>?_)<;>simp only[h,if_true,if_false,Bool.false_eq_true])
abbrev R_:=((List (UInt8×Int×Unit)))
def H:Hd:=⟨[.lf (.list (.cons (.int .u8) (.cons (.int .i64) .nil))) none,Si],[.lf (.list (.cons (.int .u8) (.cons (.int .i64) .nil))) (some 47)],(.seq .d (.cut [0,1] [] .d (.seq .d (.cut [0,6] [] .d (.seq .d (.seq .d (.cut [7] [] (.blk (.loop [7,8] [] (.seq .d (.blk (.mode false))))) .d))))))),kt [F67.k] true,[],f34⟩
def t8(b:Int)(a:List (UInt8×Int×Unit)):S:=⟨[(7,.own 0),(8,vi b)],[.arr 47 (.cons (.int .u8) (.cons (.int .i64) .nil)) a],[]⟩
def z8:Nat->S->Option R_:=H.i P_ [r,r,r,r,r,r,l,d]
theorem i8:∀(q:Nat) (b:Int) (a:List (UInt8×Int×Unit)),z8 q (t8 b a)=Hv q b a:=
 ind (λ_ _=>by kernel_rfl) λq ih b a=>Eq.trans (b:=Hf Mt (λb a=>(z8 q) (t8 b a)) b a) F3 (by rw[Wy];simp only[ih]<;>rfl)
def k:Kc P_ gl:=⟨(34,⟨H.p,H.r,u2 Qe⟩),co H func34 (λx=>Eq.trans (b:=u2 (Ng (Nq (Ni (λb a=>z8 Dg (t8 b a))))) x) F3 (by simp only[i8,Bc]<;>rfl))⟩
end F34
namespace F17
def H:Hd:=⟨[Si,Si,Si],[.lf (.list (.cons (.int .u8) (.cons (.int .i64) .nil))) (some 47),Si],.d,kt [F34.k] false,[],f17⟩
def k:Kc P_ gl:=⟨(17,⟨H.p,H.r,u3 uK⟩),co H func17⟩
end F17
namespace F13
abbrev R_:=LB
def H:Hd:=⟨[.lf (.list (.cons (.int .i64) (.cons (.list (.int .u8)) .nil))) none],[Ob 5],(.seq .d (.seq .d (.cut [3] [] (.seq .d (.blk (.loop [3,6,7,8] [⟨3,[],.own 5 (.int .u8)⟩] .d))) .d))),kt [] false,[],f13⟩
def t4(a:List (Int×LB×Unit))(f:Int)(b:LB):S:=⟨[(3,.own 0),(6,.val (.list (.cons (.int .i64) (.cons (.list (.int .u8)) .nil))) a),(7,vi (Ac a)),(8,vi f)],[Ab 5 b],[]⟩
def z4:Nat->S->Option R_:=H.i P_ [r,r,l,r,d]
theorem i4(a:List (Int×LB×Unit)):∀(q:Nat) (f:Int) (b:LB),z4 q (t4 a f b)=IC a q f b:=
 ind (λ_ _=>by kernel_rfl) λq ih f b=>Eq.trans (b:=XL WB (λf b=>(z4 q) (t4 a f b)) a f b) F3 (by simp only[ih]<;>rfl)
def k:Kc P_ gl:=⟨(13,⟨H.p,H.r,Bf⟩),co H func13 (λx=>Eq.trans (b:=WA (λa f b=>z4 Dg (t4 a f b)) x) F3 (by simp only[i4,Bc]<;>rfl))⟩
end F13
namespace F5
def H:Hd:=⟨[],[Sz],.d,kt [F13.k,F15.k,F16.k,F17.k] false,[],f5⟩
def k:Kc P_ gl:=⟨(5,⟨H.p,H.r,λ_=>Sr⟩),co H func5⟩
end F5
namespace F6
def H:Hd:=⟨[Sb],[Sz],.d,kt [] false,[],f6⟩
def k:Kc P_ gl:=⟨(6,⟨H.p,H.r,FG⟩),co H func6⟩
end F6
namespace F18
def H:Hd:=⟨[.lf (.list (.cons (.int .u8) (.cons (.int .i64) .nil))) none],[Sz],.d,kt [] false,[],f18⟩
def k:Kc P_ gl:=⟨(18,⟨H.p,H.r,Pe⟩),co H func18⟩
end F18
namespace F19
abbrev R_:=Int
def H:Hd:=⟨[.lf (.list (.cons (.int .u8) (.cons (.int .i64) .nil))) none],[Si],(.seq .d (.seq .d (.cut [] [] (.seq .d (.blk (.loop [0,3] [] .d))) .d))),kt [] false,[],f19⟩
def t4(a:List (UInt8×Int×Unit))(b:Int):S:=⟨[(0,.val (.list (.cons (.int .u8) (.cons (.int .i64) .nil))) a),(3,vi b)],[],[]⟩
def z4:Nat->S->Option R_:=H.i P_ [r,r,l,r,d]
theorem i4(a:List (UInt8×Int×Unit)):∀(q:Nat) (b:Int),z4 q (t4 a b)=Ef a q b:=
 ind (λ_=>by kernel_rfl) λq ih b=>Eq.trans (b:=Jq GL (λb=>(z4 q) (t4 a b)) a b) F3 (by simp only[ih]<;>rfl)
def k:Kc P_ gl:=⟨(19,⟨H.p,H.r,Td⟩),co H func19 (λx=>Eq.trans (b:=Oe (λa b=>z4 Dg (t4 a b)) x) F3 (by simp only[i4,Bc]<;>rfl))⟩
end F19
namespace F7
def H:Hd:=⟨[.lf (.list (.cons (.int .u8) (.cons (.int .i64) .nil))) none],[Sz],.d,kt [F18.k,F19.k] false,[],f7⟩
def k:Kc P_ gl:=⟨(7,⟨H.p,H.r,Ev⟩),co H func7⟩
end F7
namespace F9
def H:Hd:=⟨[Ss],[.agg [Ss,Ob 5,.agg [Si,Si,Si,Si,Si],Ol 3,Si,Ob 5,Sz,Si],Si],.d,kt [] false,[],f9⟩
def k:Kc P_ gl:=⟨(9,⟨H.p,H.r,fY⟩),co H func9⟩
end F9
namespace F39
def MH(a:LB):Option (LB):=
wU a (
some ([]:LB)) (
(Cj ([]:LB) a).bind λb=>
some b)
theorem mU: @MH= @Ib:=by
  unfold MH Ib
  repeat (refine funext λ_=>?_)
  repeat' first
    |with_reducible rfl
    |with_reducible refine Ip ?_ ?_
    |with_reducible refine If ?_ ?_ ?_
    |with_reducible refine Iq ?_ ?_ ?_ ?_
    |((with_reducible refine Mq ?_ ?_);focus (intro h;first|(subst h;rfl)|(simp only[h];rfl)|(simp[Cj,Ac,h];done)))
    |with_reducible refine Ml λx=>?_
    |with_reducible refine Sd (λ_=>?_) (λ_=>?_)
    |(refine Eo (λh=>by simp only[h,Mo,Dn,Dj,ite_self]) (λx h=>?_);(try simp only[h,Dn]))
    |(refine Gm (λh=>?_) (λh=>?_)<;>simp only[h,if_true,if_false,Bool.false_eq_true])
def H:Hd:=⟨[Sb],[Ob 5],.d,kt [] false,[],f39⟩
def k:Kc P_ gl:=⟨(39,⟨H.p,H.r,Ib⟩),co H func39 (λx=>Eq.trans (b:=MH x) F3 (by simp only[mU]<;>rfl))⟩
end F39
namespace F47
def Qa(a:LI):Option (LI):=
wU a (
some ([]:LI)) (
(Cj ([]:LI) a).bind λb=>
some b)
theorem OS: @Qa= @Gf:=by
  unfold Qa Gf
  repeat (refine funext λ_=>?_)
  repeat' first
    |with_reducible rfl
    |with_reducible refine Ip ?_ ?_
    |with_reducible refine If ?_ ?_ ?_
    |with_reducible refine Iq ?_ ?_ ?_ ?_
    |((with_reducible refine Mq ?_ ?_);focus (intro h;first|(subst h;rfl)|(simp only[h];rfl)|(simp[Cj,Ac,h];done)))
    |with_reducible refine Ml λx=>?_
    |with_reducible refine Sd (λ_=>?_) (λ_=>?_)
    |(refine Eo (λh=>by simp only[h,Mo,Dn,Dj,ite_self]) (λx h=>?_);(try simp only[h,Dn]))
    |(refine Gm (λh=>?_) (λh=>?_)<;>simp only[h,if_true,if_false,Bool.false_eq_true])
def H:Hd:=⟨[Sl],[Ol 3],.d,kt [] false,[],f47⟩
def k:Kc P_ gl:=⟨(47,⟨H.p,H.r,Gf⟩),co H func47 (λx=>Eq.trans (b:=Qa x) F3 (by simp only[OS]<;>rfl))⟩
end F47
namespace F25
def H:Hd:=⟨[.agg [Ss,Sb,.agg [Si,Si,Si,Si,Si],Sl,Si,Sb,Sz,Si]],[.agg [Ss,Ob 5,.agg [Si,Si,Si,Si,Si],Ol 3,Si,Ob 5,Sz,Si]],.d,kt [F39.k,F47.k] false,[],f25⟩
def k:Kc P_ gl:=⟨(25,⟨H.p,H.r,u12 Dq⟩),co H func25⟩
end F25
namespace F134
def Ox(j10:LI->Option (LI))(Z3:Int->LI->Option (LI))(b:Int)(a:LI):Option (LI):=
if(Ck b (Ac a))then
both (
(aB (Ac a) b (Ac a)).bind λ_=>
(aB (Ac a) 0 b).bind λ_=>
Z3 (Ae b (FC ((Ac a)-b) (KT a 0 (b-(0:Int))).length)) (Qo a b ((Ac a)-b) (KT a 0 (b-(0:Int))))) [
(aB (Ac a) 0 b).bind λ_=>
(aB (Ac a) b (Ac a)).bind λ_=>
Z3 (Ae b (FC ((Ac a)-b) (KT a 0 (b-(0:Int))).length)) (Qo a b ((Ac a)-b) (KT a 0 (b-(0:Int))))]
else
j10 a
theorem MF: @Ox= @Hj:=by
  unfold Ox Hj
  repeat (refine funext λ_=>?_)
  repeat' first
    |with_reducible rfl
    |with_reducible refine Ip ?_ ?_
    |with_reducible refine If ?_ ?_ ?_
    |with_reducible refine Iq ?_ ?_ ?_ ?_
    |((with_reducible refine Mq ?_ ?_);focus (intro h;first|(subst h;rfl)|(simp only[h];rfl)|(simp[Cj,Ac,h];done)))
    |with_reducible refine Ml λx=>?_
    |with_reducible refine Sd (λ_=>?_) (λ_=>?_)
    |(refine Eo (λh=>by simp only[h,Mo,Dn,Dj,ite_self]) (λx h=>?_);(try simp only[h,Dn]))
    |(refine Gm (λh=>?_) (λh=>?_)<;>simp only[h,if_true,if_false,Bool.false_eq_true])
abbrev R_:=LI
def H:Hd:=⟨[Sl,Si],[Ol 3],(.seq .d (.cut [0,1] [] .d (.seq .d (.cut [0,6] [] .d (.seq .d (.seq .d (.cut [7] [] (.blk (.loop [7,8] [] (.seq .d (.blk (.mode false))))) .d))))))),kt [F67.k] true,[],f134⟩
def t8(b:Int)(a:LI):S:=⟨[(7,.own 0),(8,vi b)],[Ai 3 a],[]⟩
def z8:Nat->S->Option R_:=H.i P_ [r,r,r,r,r,r,l,d]
theorem i8:∀(q:Nat) (b:Int) (a:LI),z8 q (t8 b a)=Ey q b a:=
 ind (λ_ _=>by kernel_rfl) λq ih b a=>Eq.trans (b:=Ox Jm (λb a=>(z8 q) (t8 b a)) b a) F3 (by rw[MF];simp only[ih]<;>rfl)
def k:Kc P_ gl:=⟨(134,⟨H.p,H.r,u2 Og⟩),co H func134 (λx=>Eq.trans (b:=u2 (Pz (Pw (Qb (λb a=>z8 Dg (t8 b a))))) x) F3 (by simp only[i8,Bc]<;>rfl))⟩
end F134
namespace F160
abbrev R_:=LI
def H:Hd:=⟨[.lf (.list (.list (.int .i64))) none],[Ol 3],(.seq .d (.seq .d (.cut [0,3] [] (.seq .d (.blk (.loop [0,3,9,10,11] [] .d))) (.cut [0,6] [⟨6,[],.own 3 (.int .i64)⟩] (.keep [0,3,6,23,24] true) (.cut [6] [] (.seq .d (.blk (.loop [6,25,26,27] [] .d))) .d))))),kt [] true,[(179,(.seq .d (.cut [0,1] [] .d .d)))],f160⟩
def t14(a:List LI)(g:Int)(f:LI):S:=⟨[(6,.own 0),(25,.val (.list (.list (.int .i64))) a),(26,vi (Ac a)),(27,vi g)],[Ai 3 f],[]⟩
def z14:Nat->S->Option R_:=H.i P_ [r,r,r,r,l,r,d]
def t9(a:List LI)(b h:Int):S:=⟨[(0,.val (.list (.list (.int .i64))) a),(3,vi b),(9,.val (.list (.list (.int .i64))) a),(10,vi (Ac a)),(11,vi h)],[],[]⟩
def z9:Nat->S->Option R_:=H.i P_ [r,r,l,r,d]
def x14(a:List LI)(g:Int)(f:LI):Option R_:=H.e P_ [r,r,r,r,l,r,d] (t14 a g f)
theorem i14(a:List LI):∀(q:Nat) (g:Int) (f:LI),z14 q (t14 a g f)=En a q g f:=
 ind (λ_ _=>by kernel_rfl) λq ih g f=>Eq.trans (b:=Gs Xx (λg f=>(z14 q) (t14 a g f)) a g f) F3 (by simp only[ih]<;>rfl)
theorem e14:x14=Oq:=by funext a g f;exact Eq.trans F3 ((i14 a Dg g f).trans (by rw[Bc];rfl))
theorem i9(a:List LI):∀(q:Nat) (b h:Int),z9 q (t9 a b h)=Ew a q b h:=
 ind (λ_ _=>by kernel_rfl) λq ih b h=>Eq.trans (b:=Hh (Ou (On (Om x14))) (λb h=>(z9 q) (t9 a b h)) a b h) F3 (by simp only[e14,ih]<;>rfl)
def k:Kc P_ gl:=⟨(160,⟨H.p,H.r,Nz⟩),co H func160 (λx=>Eq.trans (b:=Py (λa b h=>z9 Dg (t9 a b h)) x) F3 (by simp only[i9,Bc]<;>rfl))⟩
end F160
namespace F135
def H:Hd:=⟨[Sl,Sl],[Ol 3],.d,kt [F160.k] false,[],f135⟩
def k:Kc P_ gl:=⟨(135,⟨H.p,H.r,u2 RA⟩),co H func135⟩
end F135
namespace F105
def H:Hd:=⟨[Si,Si],[Ol 3,Si],.d,kt [F88.k,F119.k,F134.k,F135.k] false,[],f105⟩
def k:Kc P_ gl:=⟨(105,⟨H.p,H.r,u2 TC⟩),co H func105⟩
end F105
namespace F74
def H:Hd:=⟨[.agg [Si,Si,Si,Si,Si]],[Ol 3,Si],.d,kt [F104.k,F105.k] false,[],f74⟩
def k:Kc P_ gl:=⟨(74,⟨H.p,H.r,u5 Dz⟩),co H func74⟩
end F74
namespace F72
def H:Hd:=⟨[.agg [Si,Si,Si,Si,Si],Ss],[Si],.d,kt [] false,[],f72⟩
def k:Kc P_ gl:=⟨(72,⟨H.p,H.r,u6 Nk⟩),co H func72⟩
end F72
namespace F69
abbrev R_:=Bool
def H:Hd:=⟨[.agg [Ss,Sb,.agg [Si,Si,Si,Si,Si],Sl,Si,Sb,Sz,Si]],[Sz],(.seq .d (.seq .d (.seq .d (.cut [1,3] [] .d (.seq .d (.seq .d (.seq .d (.cut [1,5] [] (.seq .d (.blk (.loop [1,5,83,84,85] [] .d))) .d)))))))),kt [F72.k,F74.k,F101.k] false,[],f69⟩
def t6(w:LI)(o p:LB)(h b f k m:Int)(g:LI)(a:Int)(n:LB)(u:Bool)(v y aa:Int):S:=⟨[(1,.ptr 0 []),(5,vi y),(83,vl w),(84,vi (Ac w)),(85,vi aa)],[.box 32 (.agg [vs o,vb p,.agg [vi h,vi b,vi f,vi k,vi m],vl g,vi a,vb n,vt u,vi v])],[]⟩
def z6:Nat->S->Option R_:=H.i P_ [r,r,r,r,r,r,r,l,r,d]
theorem i6(w:LI)(o p:LB)(h b f k m:Int)(g:LI)(a:Int)(n:LB)(u:Bool)(v:Int):∀(q:Nat) (y aa:Int),z6 q (t6 w o p h b f k m g a n u v y aa)=Oz w o p h b f k m g a n u v q y aa:=
 ind (λ_ _=>by kernel_rfl) λq ih y aa=>Eq.trans (b:=Zs MR (λy aa=>(z6 q) (t6 w o p h b f k m g a n u v y aa)) w o p h b f k m g a n u v y aa) F3 (by simp only[ih]<;>rfl)
def k:Kc P_ gl:=⟨(69,⟨H.p,H.r,u12 Xc⟩),co H func69 (λx=>Eq.trans (b:=u12 (MW (MQ (λw o p h b f k m g a n u v y aa=>z6 Dg (t6 w o p h b f k m g a n u v y aa)))) x) F3 (by simp only[i6,Bc]<;>rfl))⟩
end F69
namespace F103
def H:Hd:=⟨[Sb,Sb],[Sz],.d,kt [] false,[],f103⟩
def k:Kc P_ gl:=⟨(103,⟨H.p,H.r,u2 Ji⟩),co H func103⟩
end F103
namespace F120
def H:Hd:=⟨[Sb,Sb],[Sz],.d,kt [F103.k] false,[],f120⟩
def k:Kc P_ gl:=⟨(120,⟨H.p,H.r,u2 Lr⟩),co H func120⟩
end F120
namespace F171
abbrev R_:=(Int×Int)
def H:Hd:=⟨[Sb],[Si,Si],(.seq .d (.seq .d (.seq .d (.cut [4] [] (.seq .d (.blk (.loop [4,10,11,12] [] .d))) .d)))),kt [] false,[],f171⟩
def t4(a:LB)(b f:Int):S:=⟨[(4,vi b),(10,vb a),(11,vi (Ac a)),(12,vi f)],[],[]⟩
def z4:Nat->S->Option R_:=H.i P_ [r,r,r,l,r,d]
theorem i4(a:LB):∀(q:Nat) (b f:Int),z4 q (t4 a b f)=Mw a q b f:=
 ind (λ_ _=>by kernel_rfl) λq ih b f=>Eq.trans (b:=Xg XW (λb f=>(z4 q) (t4 a b f)) a b f) F3 (by simp only[ih]<;>rfl)
def k:Kc P_ gl:=⟨(171,⟨H.p,H.r,JC⟩),co H func171 (λx=>Eq.trans (b:=IU (λa b f=>z4 Dg (t4 a b f)) x) F3 (by simp only[i4,Bc]<;>rfl))⟩
end F171
namespace F146
def ID(j5:LB->UInt8->UInt8->Option (Int×Int))(a:LB):Option (Int×Int):=
(Lr a ([(73:UInt8),(68:UInt8),(51:UInt8)]:LB)).bind λn=>
if(!n)then
some (0,6)
else
if(Ck (Ac a) 10)then
some (0,24)
else
(Ah a 3).bind λf=>
(Ah a 5).bind λb=>
(λo:Option (Int×Int)=>
(λp:Option (Int×Int)=>
both (
both (
bo (
j5 a f b)) [
o,
o]) [
bo2 (
bo (
j5 a f b)),
p,
p]) (
both (
o) [
bo (
j5 a f b),
both (
bo (
j5 a f b)) [
j5 a f b]])) (
both (
j5 a f b) [
bo (
j5 a f b)])
theorem jF: @ID= @Zu:=by
  unfold ID Zu
  try simp only[LV,Vp,Wp]
  all_goals
    repeat (refine funext λ_=>?_)
    repeat' first
      |with_reducible rfl
      |with_reducible refine Ip ?_ ?_
      |with_reducible refine If ?_ ?_ ?_
      |with_reducible refine Iq ?_ ?_ ?_ ?_
      |((with_reducible refine Mq ?_ ?_);focus (intro h;first|(subst h;rfl)|(simp only[h];rfl)|(simp[Cj,Ac,h];done)))
      |with_reducible refine Ml λx=>?_
      |with_reducible refine Sd (λ_=>?_) (λ_=>?_)
      |(refine Eo (λh=>by simp only[h,Mo,Dn,Dj,ite_self]) (λx h=>?_);(try simp only[h,Dn]))
      |(refine Gm (λh=>?_) (λh=>?_)<;>simp only[h,if_true,if_false,Bool.false_eq_true])
abbrev R_:=(Int×Int)
def H:Hd:=⟨[Sb],[Si,Si],(.seq .d (.seq .d (.seq .d (.cut [0,4,5] [] (.mode false) (.seq .d (.seq .d (.cut [0,5,6] [] (.cut [0,5,6,43] [] (.keep [0,5,6,7,8,31,32,33,34,35,36,37,38,39,40,41,42,43] true) .d) (.seq .d (.cut [0,5,6] [] .d .d))))))))),kt [F103.k,F120.k,F171.k] false,[(172,.d)],f146⟩
def x6(a:LB)(g:Int)(b:UInt8)(m:Bool):Option R_:=H.e P_ [r,r,r,r,r,r,l,r] ⟨[(0,vb a),(5,.ptr 0 []),(6,vi g),(43,vt m)],[.box 5 (vc b)],[]⟩
def x5(a:LB)(f b:UInt8):Option R_:=H.e P_ [r,r,r,r] ⟨[(0,vb a),(4,.ptr 0 []),(5,.ptr 1 [])],[.box 5 (vc f),.box 5 (vc b)],[]⟩
theorem e6:x6=MB:=F3
theorem e5:x5=ML:=Eq.trans (b:=NA x6) F3 (by simp only[e6]<;>rfl)
def k:Kc P_ gl:=⟨(146,⟨H.p,H.r,OK⟩),co H func146 (λx=>Eq.trans (b:=ID x5 x) F3 (by rw[jF];simp only[e5]<;>rfl))⟩
end F146
namespace F117
abbrev R_:=(UInt64×Int)
def H:Hd:=⟨[Sb],[Sq,Si],(.seq .d (.seq .d (.seq .d (.cut [4] [] (.seq .d (.blk (.loop [4,15,16,17] [] .d))) .d)))),kt [] false,[],f117⟩
def t4(a:LB)(f:UInt64)(b:Int):S:=⟨[(4,vq f),(15,vb a),(16,vi (Ac a)),(17,vi b)],[],[]⟩
def z4:Nat->S->Option R_:=H.i P_ [r,r,r,l,r,d]
theorem i4(a:LB):∀(q:Nat) (f:UInt64) (b:Int),z4 q (t4 a f b)=BO a q f b:=
 ind (λ_ _=>by kernel_rfl) λq ih f b=>Eq.trans (b:=TR uL (λf b=>(z4 q) (t4 a f b)) a f b) F3 (by simp only[ih]<;>rfl)
def k:Kc P_ gl:=⟨(117,⟨H.p,H.r,eT⟩),co H func117 (λx=>Eq.trans (b:=hH (λa f b=>z4 Dg (t4 a f b)) x) F3 (by simp only[i4,Bc]<;>rfl))⟩
end F117
namespace F82
def H:Hd:=⟨[Sb,Si,Si],[Sq,Si],.d,kt [F117.k] false,[],f82⟩
def k:Kc P_ gl:=⟨(82,⟨H.p,H.r,u3 XQ⟩),co H func82⟩
end F82
namespace F122
abbrev R_:=LB
def H:Hd:=⟨[Si,Si,Sq],[Ob 5],(.seq .d (.seq .d (.cut [7] [] (.seq .d (.blk (.loop [7,20,21,22] [] .d))) .d))),kt [F127.k] false,[],f122⟩
def t4(a b:Int)(f:UInt64)(h:Int)(g:LB):S:=⟨[(7,.own 0),(20,.own 1),(21,vi (Ac ([(2000:UInt64),(Ad (Ae a (32:Int)):UInt64),(Ad b:UInt64),f,(0:UInt64),(0:UInt64)]:LQ))),(22,vi h)],[Ab 5 g,.arr 137 (.int .u64) ([(2000:UInt64),(Ad (Ae a (32:Int)):UInt64),(Ad b:UInt64),f,(0:UInt64),(0:UInt64)]:LQ)],[]⟩
def z4:Nat->S->Option R_:=H.i P_ [r,r,l,r,d]
theorem i4(a b:Int)(f:UInt64):∀(q:Nat) (h:Int) (g:LB),z4 q (t4 a b f h g)=BH a b f q h g:=
 ind (λ_ _=>by kernel_rfl) λq ih h g=>Eq.trans (b:=ZU mE (λh g=>(z4 q) (t4 a b f h g)) a b f h g) F3 (by simp only[ih]<;>rfl)
def k:Kc P_ gl:=⟨(122,⟨H.p,H.r,u3 iJ⟩),co H func122 (λx=>Eq.trans (b:=u3 (mR (λa b f h g=>z4 Dg (t4 a b f h g))) x) F3 (by simp only[i4,Bc]<;>rfl))⟩
end F122
namespace F121
def H:Hd:=⟨[Sb,Sq],[.agg [Si,Si],Sz],.d,kt [F82.k,F103.k,F122.k] false,[],f121⟩
def k:Kc P_ gl:=⟨(121,⟨H.p,H.r,u2 PG⟩),co H func121⟩
end F121
namespace F147
def H:Hd:=⟨[Sb],[Si,Si],.d,kt [F103.k,F120.k,F121.k,F122.k] false,[],f147⟩
def k:Kc P_ gl:=⟨(147,⟨H.p,H.r,iM⟩),co H func147⟩
end F147
namespace F115
def H:Hd:=⟨[Sb],[Si,Si],.d,kt [F146.k,F147.k] false,[],f115⟩
def k:Kc P_ gl:=⟨(115,⟨H.p,H.r,Wb⟩),co H func115⟩
end F115
theorem RW:ConOk Tryz.prog gl 48 Zq:=B6 ent48 F115.k.2
namespace F46
def H:Hd:=⟨[Si],[.agg [Sz,Si]],.d,kt [] false,[],f46⟩
def k:Kc P_ gl:=⟨(46,⟨H.p,H.r,Aj⟩),co H func46⟩
end F46
namespace F116
def H:Hd:=⟨[Ss,Ss],[Sz],.d,kt [] false,[],f116⟩
def k:Kc P_ gl:=⟨(116,⟨H.p,H.r,u2 Gl⟩),co H func116⟩
end F116
namespace F81
def H:Hd:=⟨[Ss,Ss],[Sz],.d,kt [F116.k] false,[],f81⟩
def k:Kc P_ gl:=⟨(81,⟨H.p,H.r,u2 Ig⟩),co H func81⟩
end F81
namespace F71
abbrev R_:=Bool
def H:Hd:=⟨[Sb],[Sz],(.seq .d (.cut [] [] (.seq .d (.blk (.loop [0,5,6] [] .d))) .d)),kt [F81.k] false,[],f71⟩
def t4(a:LB)(b:Int):S:=⟨[(0,vb a),(5,.val (.vec 2 .str) ([([73,68,51]:LB),([65,80,69,84,65,71,69,88]:LB)]:List LB)),(6,vi b)],[],[]⟩
def z4:Nat->S->Option R_:=H.i P_ [r,l,r,d]
theorem i4(a:LB):∀(q:Nat) (b:Int),z4 q (t4 a b)=Je a q b:=
 ind (λ_=>by kernel_rfl) λq ih b=>Eq.trans (b:=Th bO (λb=>(z4 q) (t4 a b)) a b) F3 (by simp only[ih]<;>rfl)
def k:Kc P_ gl:=⟨(71,⟨H.p,H.r,Pu⟩),co H func71 (λx=>Eq.trans (b:=MU (λa b=>z4 Dg (t4 a b)) x) F3 (by simp only[i4,Bc]<;>rfl))⟩
end F71
namespace F49
abbrev R_:=(Int×Int×Int×Int×Int×Int)
def H:Hd:=⟨[Sb],[.agg [Si,Si,Si,Si,Si],Si],(.seq .d (.seq .d (.seq .d (.seq .d (.seq .d (.seq .d (.seq .d (.cut [2,8] [] (.seq .d (.blk (.loop [0,2,8,9,44,45] [] .d))) .d)))))))),kt [F81.k,F82.k,F83.k,F84.k,F85.k] false,[],f49⟩
def t4(b:LB)(g f:Int)(a:LI):S:=⟨[(0,vb b),(2,.ptr 0 []),(8,.ptr 1 []),(9,vi g),(44,.val (.vec 5 (.int .i64)) ([(2:Int),(2:Int),(2:Int),(4:Int),(4:Int)]:LI)),(45,vi f)],[.box 28 (.agg [vi 0,vi 0,vi 0,vi 0,vi 0]),.box 143 (.val (.vec 5 (.int .i64)) a)],[]⟩
def z4:Nat->S->Option R_:=H.i P_ [r,r,r,r,r,r,r,l,r,d]
theorem i4(b:LB):∀(q:Nat) (g f:Int) (a:LI),z4 q (t4 b g f a)=Nd b q g f a:=
 ind (λ_ _ _=>by kernel_rfl) λq ih g f a=>Eq.trans (b:=DK DJ (λg f a=>(z4 q) (t4 b g f a)) b g f a) F3 (by simp only[ih]<;>rfl)
def k:Kc P_ gl:=⟨(49,⟨H.p,H.r,Ph⟩),co H func49 (λx=>Eq.trans (b:=RO (λb g f a=>z4 Dg (t4 b g f a)) x) F3 (by simp only[i4,Bc]<;>rfl))⟩
end F49
namespace F73
def H:Hd:=⟨[Sb,Ss],[Sz,Si],.d,kt [F94.k,F103.k] false,[],f73⟩
def k:Kc P_ gl:=⟨(73,⟨H.p,H.r,u2 FN⟩),co H func73⟩
end F73
namespace F75
abbrev R_:=(LI×Int)
def H:Hd:=⟨[Sb,Si],[Ol 3,Si],(.seq .d (.seq .d (.seq .d (.seq .d (.seq .d (.seq .d (.cut [10] [] (.seq .d (.blk (.loop [0,10,48,49] [] .d))) .d))))))),kt [F82.k,F83.k,F101.k] false,[],f75⟩
def t4(a:LB)(f:LI)(g:Int)(b:LI):S:=⟨[(0,vb a),(10,.own 0),(48,vi (Ac f)),(49,vi g)],[Ai 3 b],[]⟩
def z4:Nat->S->Option R_:=H.i P_ [r,r,r,r,r,r,l,r,d]
theorem i4(a:LB)(f:LI):∀(q:Nat) (g:Int) (b:LI),z4 q (t4 a f g b)=Tn a f q g b:=
 ind (λ_ _=>by kernel_rfl) λq ih g b=>Eq.trans (b:=JB IX (λg b=>(z4 q) (t4 a f g b)) a f g b) F3 (by simp only[ih]<;>rfl)
def k:Kc P_ gl:=⟨(75,⟨H.p,H.r,u2 RC⟩),co H func75 (λx=>Eq.trans (b:=u2 (VW (λa f g b=>z4 Dg (t4 a f g b))) x) F3 (by simp only[i4,Bc]<;>rfl))⟩
end F75
namespace F78
def H:Hd:=⟨[.agg [Si,Si,Si,Si,Si]],[.agg [Si,Si]],.d,kt [] false,[],f78⟩
def k:Kc P_ gl:=⟨(78,⟨H.p,H.r,u5 Za⟩),co H func78⟩
end F78
namespace F108
def H:Hd:=⟨[Sb],[Sb,Si],.d,kt [F83.k,F117.k] false,[],f108⟩
def k:Kc P_ gl:=⟨(108,⟨H.p,H.r,EJ⟩),co H func108⟩
end F108
namespace F109
def H:Hd:=⟨[Sb],[.agg [Ob 5,Si],Si],.d,kt [F63.k] false,[],f109⟩
def k:Kc P_ gl:=⟨(109,⟨H.p,H.r,X4⟩),co H func109⟩
end F109
namespace F141
abbrev R_:=UInt64
def H:Hd:=⟨[.agg [Sb,Si],Si,Si],[Sq],(.seq .d (.seq .d (.cut [7] [] (.blk (.loop [1,2,3,7,8] [] .d)) .d))),kt [] false,[],f141⟩
def t4(b f:Int)(h:LB)(k:Int)(g:UInt64)(a:Int):S:=⟨[(1,vi b),(2,vi f),(3,.ptr 0 []),(7,vq g),(8,vi a)],[.box 173 (.agg [vb h,vi k])],[]⟩
def z4:Nat->S->Option R_:=H.i P_ [r,r,l,d]
theorem i4(b f:Int)(h:LB)(k:Int):∀(q:Nat) (g:UInt64) (a:Int),z4 q (t4 b f h k g a)=KI b f h k q g a:=
 ind (λ_ _=>by kernel_rfl) λq ih g a=>Eq.trans (b:=fR uZ (λg a=>(z4 q) (t4 b f h k g a)) b f h k g a) F3 (by simp only[ih]<;>rfl)
def k:Kc P_ gl:=⟨(141,⟨H.p,H.r,u4 pY⟩),co H func141 (λx=>Eq.trans (b:=u4 (tW (λb f h k g a=>z4 Dg (t4 b f h k g a))) x) F3 (by simp only[i4,Bc]<;>rfl))⟩
end F141
namespace F138
abbrev R_:=(LB×Int×Int)
abbrev K_:=S->Option R_
def H:Hd:=⟨[.agg [Sb,Si],Si,Si],[.agg [Ob 5,Si],Si],(.seq .d (.seq .d (.seq .d (.seq .d (.cut [6,8] [] (.seq .d (.blk (.loop [2,3,6,8,9] [⟨8,[0],.own 5 (.int .u8)⟩] (.seq .d (.cut [2,3,6,8,9] [] (.blk (.seq .d (.keep [2,3,6,8,9,10,39,40,41,42,43] true))) .d))))) .d))))),kt [F140.k,F141.k] false,[(163,(.blk (.loop [0,1,2] [] (.seq .d (.blk (.cut [0,1,2] [] .d (.seq .d (.cut [0,1,2,7] [] .d .d))))))))],f138⟩
def t44(a:Int)(g:LB)(b f:Int)(m n:UInt64)(k h:Int)(u:LB):S:=⟨[(0,.ptr 0 []),(1,vq n),(2,vi k)],[.box 173 (.agg [.own 3,vi h]),.box 173 (.agg [vb g,vi b]),.box 173 (.agg [.nils,vi 0]),Ab 5 u],[[(2,vi a),(3,.ptr 1 []),(6,.ptr 2 []),(8,.ptr 0 []),(9,vi f),(10,vi (Ee (64:Int) (Al a f))),(39,.agg [vb g,vi b]),(40,vi f),(41,vi (Ee (64:Int) (Al a f))),(42,vq m),(43,vi (Ee (64:Int) (Al a f)))]]⟩
def z44(NF:K_):Nat->S->Option R_:=H.i P_ [r,r,r,r,l,r,d,(lp NF),r,l,d,r,(call 5 163),d]
def t27(a:Int)(g:LB)(b f o:Int)(p:LB):S:=⟨[(2,vi a),(3,.ptr 0 []),(6,.ptr 1 []),(8,.ptr 2 []),(9,vi f)],[.box 173 (.agg [vb g,vi b]),.box 173 (.agg [.nils,vi 0]),.box 173 (.agg [.own 3,vi o]),Ab 5 p],[]⟩
def z27:Nat->S->Option R_:=H.i P_ [r,r,r,r,l,r,d]
def x44(NF:K_)(a:Int)(g:LB)(b f:Int)(m n:UInt64)(k h:Int)(u:LB):Option R_:=H.e P_ [r,r,r,r,l,r,d,(lp NF),r,l,d,r,(call 5 163),d] (t44 a g b f m n k h u)
theorem i44(NF:K_)(a:Int)(g:LB)(b f:Int)(m:UInt64):∀(q:Nat) (n:UInt64) (k h:Int) (u:LB),z44 NF q (t44 a g b f m n k h u)=Pj (λf o p=>NF (t27 a g b f o p)) a g b f m q n k h u:=
 ind (λ_ _ _ _=>by kernel_rfl) λq ih n k h u=>Eq.trans (b:=OP (OQ (λn k h u=>(z44 NF q) (t44 a g b f m n k h u)) a f g b m) (OJ (λf o p=>NF (t27 a g b f o p)) a g b) a g b f m n k h u) F3 (by simp only[ih]<;>rfl)
theorem e44(NF:K_)(a:Int)(g:LB)(b:Int):x44 NF a g b=aN (λf o p=>NF (t27 a g b f o p)) a g b:=by funext f m n k h u;exact Eq.trans F3 ((i44 NF a g b f m Dg n k h u).trans (by rw[Bc];rfl))
theorem i27(a:Int)(g:LB)(b:Int):∀(q:Nat) (f o:Int) (p:LB),z27 q (t27 a g b f o p)=Xb a g b q f o p:=
 ind (λ_ _ _=>by kernel_rfl) λq ih f o p=>Eq.trans (b:=aI (x44 (z27 q) a g b) ZG a g b f o p) F3 (by simp only[e44,ih]<;>rfl)
def k:Kc P_ gl:=⟨(138,⟨H.p,H.r,u4 fO⟩),co H func138 (λx=>Eq.trans (b:=u4 (fV (λa g b f o p=>z27 Dg (t27 a g b f o p))) x) F3 (by simp only[i27,Bc]<;>rfl))⟩
end F138
namespace F111
def H:Hd:=⟨[.agg [Sb,Si],Si,Si],[Sq,Si],.d,kt [F140.k,F141.k] false,[],f111⟩
def k:Kc P_ gl:=⟨(111,⟨H.p,H.r,u4 EX⟩),co H func111⟩
end F111
namespace F187
def H:Hd:=⟨[Sq],[Si],.d,kt [] false,[],f187⟩
def k:Kc P_ gl:=⟨(187,⟨H.p,H.r,Gq⟩),co H func187⟩
end F187
namespace F180
def SL(j6:Int->UInt64->Int->LB->Int->Option (Int×Int×Int))(g:LB)(b a:Int):Option (Int×Int×Int):=
(Km g b).bind λm=>
if(Bi m 0)then
some (0,0,m)
else
if(Ck a 0)then
some (0,0,2)
else
if(Ks a b)then
some (0,0,24)
else
(λn:Option (Int×Int×Int)=>
(λo:Option (Int×Int×Int)=>
bo2 (
o)) (
bo (
n))) (
(EX g b a (Ee 48 (Al b a))).bind λ(k,h)=>
j6 h k a g b)
theorem nO: @SL= @Zl:=by
  unfold SL Zl;simp only[LV,Vp,Wp]
abbrev R_:=(Int×Int×Int)
def H:Hd:=⟨[.agg [Sb,Si],Si],[Si,Si,Si],(.seq .d (.seq .d (.seq .d (.seq .d (.seq .d (.cut [3,5,6,8,9] [] (.keep [2,3,5,6,8,9,22,23,24,25,26,27,28,29] false) (.seq .d (.seq .d (.cut [] [] (.blk (.seq (.blk (.seq (.blk (.cut [] [] (.cut [3,4,5] [] (.cut [3,4,5,36] [] (.keep [3,4,5,8,36,37,38,39,40] true) .d) .d) .d)) .d)) .d)) .d))))))))),kt [F111.k,F140.k,F187.k] false,[(186,.d)],f180⟩
def k:Kc P_ gl:=⟨(180,⟨H.p,H.r,u3 IK⟩),co H func180 (λx=>Eq.trans (b:=u3 (SL VF) x) F3 (by simp only[nO]<;>rfl))⟩
end F180
namespace F164
abbrev R_:=(UInt32×Int×Int)
def H:Hd:=⟨[.agg [Sb,Si],Si,Si],[Su,Si,Si],(.seq .d (.seq .d (.seq .d (.seq .d (.seq .d (.seq .d (.cut [2,3,7,10,11] [] .d .d))))))),kt [F111.k,F140.k,F176.k,F180.k] false,[],f164⟩
def k:Kc P_ gl:=⟨(164,⟨H.p,H.r,u4 iS⟩),co H func164⟩
end F164
namespace F139
abbrev R_:=(UInt32×Int×Int×Int×UInt64×UInt64×Int)
def H:Hd:=⟨[.agg [Sb,Si],Si,.agg [Si,Si,Sq,Sq]],[Su,Si,.agg [Si,Si,Sq,Sq],Si],(.seq .d (.cut [1,3,5,8] [] .d (.seq .d (.seq .d (.cut [5,6,7,8] [] .d (.cut [5,6,7,8] [] (.keep [5,6,7,8,81] true) .d)))))),kt [F111.k,F140.k,F153.k,F154.k,F164.k] false,[(157,(.seq .d (.seq .d (.seq .d (.blk (.cut [0,1,4] [] (.blk (.seq .d (.keep [0,1,4,6,18,19,20,21,22,23,24,25] true))) (.cut [] [] (.keep [0,1,4,27,28,29,30,31,32,33,34] true) .d))))))),(178,.d)],f139⟩
def x8(f:UInt32)(k a:Int)(b:UInt64)(m:Int)(n:UInt64):Option R_:=H.e P_ [r,r,r,r,r,l,(call 1 157),r,r,r,d,r] ⟨[(0,.ptr 0 []),(1,vu f),(4,.fn 178 [])],[.box 193 (.agg [vi a,vi m,vq b,vq n]),.box 193 (.agg [vi 0,vi 0,vq 0,vq 0])],[[(5,.ptr 0 []),(6,vu f),(7,vi k),(8,.ptr 1 []),(81,vu f)]]⟩
theorem e8:x8=FU:=F3
def k:Kc P_ gl:=⟨(139,⟨H.p,H.r,u7 IE⟩),co H func139 (λx=>Eq.trans (b:=u7 (aY (ZO (ZH x8))) x) F3 (by simp only[e8]<;>rfl))⟩
end F139
namespace F110
def Yg(j21:Int->Int->Int->UInt32->Int-> (List (Int×Int×UInt64×UInt64×Unit))->LU->Int->Int->UInt64->UInt64->Option (LU×Int×Int))(j24:Int->LU->Option (LU×Int×Int))(a f:Int)(g:LB)(b k h:Int)(m:List (Int×Int×UInt64×UInt64×Unit))(n:LU):Option (LU×Int×Int):=
if(Ck h (Ce f a))then
(fO g b k (Ee (Ae k 81) b)).bind λ(ag,ae,af)=>
if(Bi af 0)then
some (([]:LU),0,af)
else
(Jd (Bi a 0)).bind λ_=>
(Ah m (Ho h a)).bind λ_=>
(λai:Option (LU×Int×Int)=>
both (
both (
(Ah m (Ho h a)).bind λo=>
(λao:Option (LU×Int×Int)=>
bo (
ao)) (
(IE ag ae 0 o.1 o.2.1 o.2.2.1 o.2.2.2.1).bind λ(w,v,aa,ab,ac,ad,y)=>
j21 k h y w v m n aa ab ac ad)) [
ai]) [
(Ah m (Ho h a)).bind λo=>
(λaj:Option (LU×Int×Int)=>
both (
bo (
aj)) [
aj]) (
(IE ag ae 0 o.1 o.2.1 o.2.2.1 o.2.2.2.1).bind λ(w,v,aa,ab,ac,ad,y)=>
j21 k h y w v m n aa ab ac ad),
bo (
ai)]) (
(Ah m (Ho h a)).bind λo=>
(IE ag ae 0 o.1 o.2.1 o.2.2.1 o.2.2.2.1).bind λ(w,v,aa,ab,ac,ad,y)=>
j21 k h y w v m n aa ab ac ad)
else
j24 k n
theorem aV: @Yg= @Ta:=by
  unfold Yg Ta
  try simp only[LV,Vp,Wp]
  all_goals
    repeat (refine funext λ_=>?_)
    repeat' first
      |with_reducible rfl
      |with_reducible refine Ip ?_ ?_
      |with_reducible refine If ?_ ?_ ?_
      |with_reducible refine Iq ?_ ?_ ?_ ?_
      |((with_reducible refine Mq ?_ ?_);focus (intro h;first|(subst h;rfl)|(simp only[h];rfl)|(simp[Cj,Ac,h];done)))
      |with_reducible refine Ml λx=>?_
      |with_reducible refine Sd (λ_=>?_) (λ_=>?_)
      |(refine Eo (λh=>by simp only[h,Mo,Dn,Dj,ite_self]) (λx h=>?_);(try simp only[h,Dn]))
      |(refine Gm (λh=>?_) (λh=>?_)<;>simp only[h,if_true,if_false,Bool.false_eq_true])
abbrev R_:=(LU×Int×Int)
abbrev K_:=S->Option R_
def H:Hd:=⟨[Si,Si,.agg [Sb,Si]],[Ov 140,Si,Si],(.seq .d (.seq .d (.cut [0,1,5,9] [] (.seq .d (.blk (.loop [0,1,5,9,19] [] .d))) (.seq .d (.seq .d (.cut [11,12] [] (.seq .d (.blk (.loop [0,5,9,11,12,28,29] [⟨11,[],.own 140 (.int .u32)⟩] (.seq .d (.seq .d (.seq (.blk (.seq .d (.seq .d (.seq .d (.cut [0,5,9,11,12,13,15,16,17,18,28,29] [] (.mode false) (.seq .d (.cut [0,5,9,11,12,16,28,29] [] .d .d))))))) .d)))))) .d)))))),kt [F137.k,F138.k,F139.k] false,[],f110⟩
def t16(a f:Int)(g:LB)(b k h:Int)(m:List (Int×Int×UInt64×UInt64×Unit))(n:LU):S:=⟨[(0,vi a),(5,.ptr 0 []),(9,.ptr 1 []),(11,.own 2),(12,vi k),(28,vi (Ce f a)),(29,vi h)],[.box 173 (.agg [vb g,vi b]),.box 194 (.val (.vec 6 (.cons (.int .i64) (.cons (.int .i64) (.cons (.int .u64) (.cons (.int .u64) .nil))))) m),Av 140 n],[]⟩
def z16:Nat->S->Option R_:=H.i P_ [r,r,r,r,r,l,r,d]
def t13(a f:Int)(g:LB)(b u:Int)(p:List (Int×Int×UInt64×UInt64×Unit)):S:=⟨[(0,vi a),(1,vi f),(5,.ptr 0 []),(9,.ptr 1 []),(19,vi u)],[.box 173 (.agg [vb g,vi b]),.box 194 (.val (.vec 6 (.cons (.int .i64) (.cons (.int .i64) (.cons (.int .u64) (.cons (.int .u64) .nil))))) p)],[]⟩
def z13:Nat->S->Option R_:=H.i P_ [r,r,l,r,d]
def x16(a f:Int)(g:LB)(b k h:Int)(m:List (Int×Int×UInt64×UInt64×Unit))(n:LU):Option R_:=H.e P_ [r,r,r,r,r,l,r,d] (t16 a f g b k h m n)
theorem i16(a f:Int)(g:LB)(b:Int):∀(q:Nat) (k h:Int) (m:List (Int×Int×UInt64×UInt64×Unit)) (n:LU),z16 q (t16 a f g b k h m n)=Nc a f g b q k h m n:=
 ind (λ_ _ _ _=>by kernel_rfl) λq ih k h m n=>Eq.trans (b:=Yg (Sf (λk h m n=>(z16 q) (t16 a f g b k h m n)) a f g b) RR a f g b k h m n) F3 (by rw[aV];simp only[ih]<;>rfl)
theorem e16:x16=SE:=by funext a f g b k h m n;exact Eq.trans F3 ((i16 a f g b Dg k h m n).trans (by rw[Bc];rfl))
theorem i13(a f:Int)(g:LB)(b:Int):∀(q:Nat) (u:Int) (p:List (Int×Int×UInt64×UInt64×Unit)),z13 q (t13 a f g b u p)=AF a f g b q u p:=
 ind (λ_ _=>by kernel_rfl) λq ih u p=>Eq.trans (b:=QB (PR x16) (λu p=>(z13 q) (t13 a f g b u p)) a f g b u p) F3 (by simp only[e16,ih]<;>rfl)
def k:Kc P_ gl:=⟨(110,⟨H.p,H.r,u4 EG⟩),co H func110 (λx=>Eq.trans (b:=u4 (EF (λa f g b u p=>z13 Dg (t13 a f g b u p))) x) F3 (by simp only[i13,Bc]<;>rfl))⟩
end F110
namespace F144
def H:Hd:=⟨[Su],[Sx],.d,kt [] false,[],f144⟩
def k:Kc P_ gl:=⟨(144,⟨H.p,H.r,Xn⟩),co H func144⟩
end F144
namespace F168
def H:Hd:=⟨[.agg [Si,.lf (.vec 16 (.int .i32)) none,.lf (.vec 16 (.int .i32)) none],Sx],[Sx,.agg [Si,.lf (.vec 16 (.int .i32)) none,.lf (.vec 16 (.int .i32)) none],Si],.d,kt [F183.k,F184.k] false,[],f168⟩
def k:Kc P_ gl:=⟨(168,⟨H.p,H.r,u4 gS⟩),co H func168⟩
end F168
namespace F143
def QV(a:Int)(b:Int32)(f:Int)(g h:LX)(o:Int32):Option (Int32×Int×Int32×Int×LX×LX×Int):=
(Wc a b f g h).bind λk=>
if(Bi k 0)then
some (0,0,0,0,(List.replicate 16 (0:Int32)),(List.replicate 16 (0:Int32)),k)
else
(We a b).bind λ(m,y)=>
(gS f g h o).bind λ(n,p,u,v,w)=>
(λaa:Option (Int32×Int×Int32×Int×LX×LX×Int)=>
bo (
aa)) (
some ((Ae n m),a,(Ae n m),p,u,v,w))
theorem oL: @QV= @Lt:=by
  unfold QV Lt;simp only[LV,Vp,Wp]
def H:Hd:=⟨[.agg [Si,Sx,.agg [Si,.lf (.vec 16 (.int .i32)) none,.lf (.vec 16 (.int .i32)) none]],Sx],[Sx,.agg [Si,Sx,.agg [Si,.lf (.vec 16 (.int .i32)) none,.lf (.vec 16 (.int .i32)) none]],Si],(.seq .d (.seq .d (.seq .d (.seq .d (.seq (.mode false) .d))))),kt [F166.k,F167.k,F168.k] false,[],f143⟩
def k:Kc P_ gl:=⟨(143,⟨H.p,H.r,u6 Lt⟩),co H func143 (λx=>Eq.trans (b:=u6 QV x) F3 (by simp only[oL]<;>rfl))⟩
end F143
namespace F145
abbrev R_:=(LX×Int)
abbrev K_:=S->Option R_
def H:Hd:=⟨[Si,Sw],[Ow 21,Si],(.seq .d (.seq .d (.seq .d (.cut [7] [] (.seq .d (.blk (.loop [0,7,8] [] (.seq .d (.cut [0,7,8] [] (.blk (.keep [0,7,8,24,25,26,27,28,29] true)) .d))))) .d)))),kt [F98.k,F169.k] true,[(170,(.seq .d (.cut [0,2] [] .d (.seq .d (.blk (.loop [0,3] [] .d))))))],f145⟩
def t18(b a g:Int)(h:LX):S:=⟨[(0,.view true 0 [] (.int .i32) a ((Ae a b)-a)),(3,vi g)],[Aw 21 h],[[(0,vi b),(7,.own 0),(8,vi a),(24,.own 0),(25,vi a),(26,vi a),(27,vi b),(28,vi (Ae a b)),(29,.view true 0 [] (.int .i32) a ((Ae a b)-a))]]⟩
def z18(BI:K_):Nat->S->Option R_:=H.i P_ [r,r,r,l,r,d,(lp BI),r,l,d,(call 6 170),r,r,r,d]
def t12(b a:Int)(f:LX):S:=⟨[(0,vi b),(7,.own 0),(8,vi a)],[Aw 21 f],[]⟩
def z12:Nat->S->Option R_:=H.i P_ [r,r,r,l,r,d]
def x18(BI:K_)(b a g:Int)(h:LX):Option R_:=H.e P_ [r,r,r,l,r,d,(lp BI),r,l,d,(call 6 170),r,r,r,d] (t18 b a g h)
theorem i18(BI:K_)(b a:Int):∀(q:Nat) (g:Int) (h:LX),z18 BI q (t18 b a g h)=Xl (λa f=>BI (t12 b a f)) b a q g h:=
 ind (λ_ _=>by kernel_rfl) λq ih g h=>Eq.trans (b:=OM (aC (λa f=>BI (t12 b a f)) b) (λg h=>(z18 BI q) (t18 b a g h)) b a g h) F3 (by simp only[ih]<;>rfl)
theorem e18(BI:K_)(b:Int):x18 BI b=ZF (λa f=>BI (t12 b a f)) b:=by funext a g h;exact Eq.trans F3 ((i18 BI b a Dg g h).trans (by rw[Bc];rfl))
theorem i12(b:Int):∀(q:Nat) (a:Int) (f:LX),z12 q (t12 b a f)=Sk b q a f:=
 ind (λ_ _=>by kernel_rfl) λq ih a f=>Eq.trans (b:=ZB (YV (x18 (z12 q) b) b) oE b a f) F3 (by simp only[e18,ih]<;>rfl)
def k:Kc P_ gl:=⟨(145,⟨H.p,H.r,u2 oR⟩),co H func145 (λx=>Eq.trans (b:=u2 (gX (λb a f=>z12 Dg (t12 b a f))) x) F3 (by simp only[i12,Bc]<;>rfl))⟩
end F145
namespace F112
def Wm(j16:Int->Int32->Int-> (List (Int×Int32×(Int×LX×LX×Unit)×Unit))->LX->Int->Int32->Int->LX->LX->Option (LX×Int))(j18:Int->Int->LX->Option (LX×Int))(f:LU)(a b g:Int)(h:List (Int×Int32×(Int×LX×LX×Unit)×Unit))(k:LX):Option (LX×Int):=
if(Ck g (Ac f))then
(Ah f g).bind λag=>
(Jd (Bi a 0)).bind λ_=>
(Ah h (Ho g a)).bind λ_=>
both (
(Ah h (Ho g a)).bind λm=>
both (
(Xn ag).bind λae=>
(λao:Option (LX×Int)=>
bo (
ao)) (
(Lt m.1 m.2.1 m.2.2.1.1 m.2.2.1.2.1 m.2.2.1.2.2.1 ae).bind λ(y,aa,w,ab,ac,ad,v)=>
j16 g y v h k aa w ab ac ad)) [
(Xn ag).bind λae=>
(Lt m.1 m.2.1 m.2.2.1.1 m.2.2.1.2.1 m.2.2.1.2.2.1 ae).bind λ(y,aa,w,ab,ac,ad,v)=>
j16 g y v h k aa w ab ac ad]) [
(Xn ag).bind λaf=>
both (
(Ah h (Ho g a)).bind λu=>
(λap:Option (LX×Int)=>
bo (
ap)) (
(Lt u.1 u.2.1 u.2.2.1.1 u.2.2.1.2.1 u.2.2.1.2.2.1 af).bind λ(y,aa,w,ab,ac,ad,v)=>
j16 g y v h k aa w ab ac ad)) [
(Ah h (Ho g a)).bind λu=>
(Lt u.1 u.2.1 u.2.2.1.1 u.2.2.1.2.1 u.2.2.1.2.2.1 af).bind λ(y,aa,w,ab,ac,ad,v)=>
j16 g y v h k aa w ab ac ad],
both (
(Ah h (Ho g a)).bind λm=>
(Xn ag).bind λae=>
(Lt m.1 m.2.1 m.2.2.1.1 m.2.2.1.2.1 m.2.2.1.2.2.1 ae).bind λ(y,aa,w,ab,ac,ad,v)=>
j16 g y v h k aa w ab ac ad) [
(Xn ag).bind λaf=>
(Ah h (Ho g a)).bind λu=>
(Lt u.1 u.2.1 u.2.2.1.1 u.2.2.1.2.1 u.2.2.1.2.2.1 af).bind λ(y,aa,w,ab,ac,ad,v)=>
j16 g y v h k aa w ab ac ad]]
else
j18 a b k
theorem WE: @Wm= @Mb:=by
  unfold Wm Mb
  try simp only[LV,Vp,Wp]
  all_goals
    repeat (refine funext λ_=>?_)
    repeat' first
      |with_reducible rfl
      |with_reducible refine Ip ?_ ?_
      |with_reducible refine If ?_ ?_ ?_
      |with_reducible refine Iq ?_ ?_ ?_ ?_
      |((with_reducible refine Mq ?_ ?_);focus (intro h;first|(subst h;rfl)|(simp only[h];rfl)|(simp[Cj,Ac,h];done)))
      |with_reducible refine Ml λx=>?_
      |with_reducible refine Sd (λ_=>?_) (λ_=>?_)
      |(refine Eo (λh=>by simp only[h,Mo,Dn,Dj,ite_self]) (λx h=>?_);(try simp only[h,Dn]))
      |(refine Gm (λh=>?_) (λh=>?_)<;>simp only[h,if_true,if_false,Bool.false_eq_true])
abbrev R_:=(LX×Int)
abbrev K_:=S->Option R_
def H:Hd:=⟨[.agg [Si,Si],.lf (.vec 16 (.int .i32)) none,Sv],[Ow 21,Si],(.seq .d (.seq .d (.cut [2,3,8] [] (.seq .d (.blk (.loop [2,3,4,8,20] [] .d))) (.seq .d (.cut [3,10] [] (.seq .d (.blk (.loop [3,8,10,33,34,35] [⟨10,[],.own 21 (.int .i32)⟩] (.seq .d (.seq .d (.seq (.blk (.seq .d (.seq .d (.cut [3,8,10,13,14,15,16,33,34,35] [] (.mode false) .d)))) .d)))))) .d))))),kt [F113.k,F142.k,F143.k,F144.k,F145.k] false,[],f112⟩
def t13(f:LU)(a b g:Int)(h:List (Int×Int32×(Int×LX×LX×Unit)×Unit))(k:LX):S:=⟨[(3,.ptr 0 []),(8,.ptr 1 []),(10,.own 2),(33,vv f),(34,vi (Ac f)),(35,vi g)],[.box 51 (.agg [vi a,vi b]),.box 220 (.val (.vec 6 (.cons (.int .i64) (.cons (.int .i32) (.cons (.cons (.int .i64) (.cons (.vec 16 (.int .i32)) (.cons (.vec 16 (.int .i32)) .nil))) .nil)))) h),Aw 21 k],[]⟩
def z13:Nat->S->Option R_:=H.i P_ [r,r,r,r,l,r,d]
def t10(f:LU)(a b:Int)(o:LX)(p:Int)(n:List (Int×Int32×(Int×LX×LX×Unit)×Unit)):S:=⟨[(2,vv f),(3,.ptr 0 []),(4,.ptr 1 []),(8,.ptr 2 []),(20,vi p)],[.box 51 (.agg [vi a,vi b]),.box 127 (.val (.vec 16 (.int .i32)) o),.box 220 (.val (.vec 6 (.cons (.int .i64) (.cons (.int .i32) (.cons (.cons (.int .i64) (.cons (.vec 16 (.int .i32)) (.cons (.vec 16 (.int .i32)) .nil))) .nil)))) n)],[]⟩
def z10:Nat->S->Option R_:=H.i P_ [r,r,l,r,d]
def x13(f:LU)(a b g:Int)(h:List (Int×Int32×(Int×LX×LX×Unit)×Unit))(k:LX):Option R_:=H.e P_ [r,r,r,r,l,r,d] (t13 f a b g h k)
theorem i13(f:LU)(a b:Int):∀(q:Nat) (g:Int) (h:List (Int×Int32×(Int×LX×LX×Unit)×Unit)) (k:LX),z13 q (t13 f a b g h k)=Ja f a b q g h k:=
 ind (λ_ _ _=>by kernel_rfl) λq ih g h k=>Eq.trans (b:=Wm (Yi (λg h k=>(z13 q) (t13 f a b g h k)) a f b) Mc f a b g h k) F3 (by rw[WE];simp only[ih]<;>rfl)
theorem e13:x13=OI:=by funext f a b g h k;exact Eq.trans F3 ((i13 f a b Dg g h k).trans (by rw[Bc];rfl))
theorem i10(f:LU)(a b:Int)(o:LX):∀(q:Nat) (p:Int) (n:List (Int×Int32×(Int×LX×LX×Unit)×Unit)),z10 q (t10 f a b o p n)=Ys f a b o q p n:=
 ind (λ_ _=>by kernel_rfl) λq ih p n=>Eq.trans (b:=OD (OA x13) (λp n=>(z10 q) (t10 f a b o p n)) f a b o p n) F3 (by simp only[e13,ih]<;>rfl)
def k:Kc P_ gl:=⟨(112,⟨H.p,H.r,u4 Ti⟩),co H func112 (λx=>Eq.trans (b:=u4 (BA (λf a b o p n=>z10 Dg (t10 f a b o p n))) x) F3 (by simp only[i10,Bc]<;>rfl))⟩
end F112
namespace F77
def H:Hd:=⟨[.agg [Si,Si],.lf (.vec 16 (.int .i32)) none,Si,Sb],[Ow 21,Si],.d,kt [F89.k,F108.k,F109.k,F110.k,F111.k,F112.k] false,[],f77⟩
def k:Kc P_ gl:=⟨(77,⟨H.p,H.r,u5 Qn⟩),co H func77⟩
end F77
namespace F79
abbrev R_:=(LB×Int)
abbrev K_:=S->Option R_
def H:Hd:=⟨[Si,Sw],[Ob 5,Si],(.seq .d (.seq .d (.seq .d (.cut [7] [] (.seq .d (.blk (.loop [0,7,17,18,19] [⟨7,[],.own 5 (.int .u8)⟩] (.seq .d (.seq .d (.cut [0,7,17,18,19] [] (.blk (.seq .d (.cut [0,7,9,17,18,19] [] .d (.seq .d (.blk (.loop [0,7,9,17,18,19,28,29] [] .d)))))) .d)))))) .d)))),kt [F113.k] false,[],f79⟩
def t26(b:Int)(a:LX)(k:Int32)(f m:Int)(h:LB):S:=⟨[(0,vi b),(7,.own 0),(9,vx k),(17,vw a),(18,vi (Ac a)),(19,vi f),(28,vi (Cq b (8:Int))),(29,vi m)],[Ab 5 h],[]⟩
def z26(Ly:K_):Nat->S->Option R_:=H.i P_ [r,r,r,l,r,d,(lp Ly),r,r,l,d,r,r,r,d]
def t16(b:Int)(a:LX)(f:Int)(g:LB):S:=⟨[(0,vi b),(7,.own 0),(17,vw a),(18,vi (Ac a)),(19,vi f)],[Ab 5 g],[]⟩
def z16:Nat->S->Option R_:=H.i P_ [r,r,r,l,r,d]
def x26(Ly:K_)(b:Int)(a:LX)(k:Int32)(f m:Int)(h:LB):Option R_:=H.e P_ [r,r,r,l,r,d,(lp Ly),r,r,l,d,r,r,r,d] (t26 b a k f m h)
theorem i26(Ly:K_)(b:Int)(a:LX)(k:Int32)(f:Int):∀(q:Nat) (m:Int) (h:LB),z26 Ly q (t26 b a k f m h)=Jh (λf g=>Ly (t16 b a f g)) b a k f q m h:=
 ind (λ_ _=>by kernel_rfl) λq ih m h=>Eq.trans (b:=Zt (MM (λf g=>Ly (t16 b a f g)) b a) (λm h=>(z26 Ly q) (t26 b a k f m h)) b a k f m h) F3 (by simp only[ih]<;>rfl)
theorem e26(Ly:K_)(b:Int)(a:LX):x26 Ly b a=ND (λf g=>Ly (t16 b a f g)) b a:=by funext k f m h;exact Eq.trans F3 ((i26 Ly b a k f Dg m h).trans (by rw[Bc];rfl))
theorem i16(b:Int)(a:LX):∀(q:Nat) (f:Int) (g:LB),z16 q (t16 b a f g)=Gi b a q f g:=
 ind (λ_ _=>by kernel_rfl) λq ih f g=>Eq.trans (b:=Zx (MA (x26 (z16 q) b a) b a) cH b a f g) F3 (by simp only[e26,ih]<;>rfl)
def k:Kc P_ gl:=⟨(79,⟨H.p,H.r,u2 Rp⟩),co H func79 (λx=>Eq.trans (b:=u2 (RK (λb a f g=>z16 Dg (t16 b a f g))) x) F3 (by simp only[i16,Bc]<;>rfl))⟩
end F79
namespace F133
abbrev R_:=Int
def H:Hd:=⟨[Sl,Si],[Si],(.seq .d (.cut [] [] (.seq .d (.blk (.loop [0,1,7,8] [] .d))) .d)),kt [] false,[],f133⟩
def t4(a:LI)(b f:Int):S:=⟨[(0,vl a),(1,vi b),(7,vi (Ac a)),(8,vi f)],[],[]⟩
def z4:Nat->S->Option R_:=H.i P_ [r,l,r,d]
theorem i4(a:LI)(b:Int):∀(q:Nat) (f:Int),z4 q (t4 a b f)=Bw a b q f:=
 ind (λ_=>by kernel_rfl) λq ih f=>Eq.trans (b:=Ek Ms (λf=>(z4 q) (t4 a b f)) a b f) F3 (by simp only[ih]<;>rfl)
def k:Kc P_ gl:=⟨(133,⟨H.p,H.r,u2 Im⟩),co H func133 (λx=>Eq.trans (b:=u2 (Hk (λa b f=>z4 Dg (t4 a b f))) x) F3 (by simp only[i4,Bc]<;>rfl))⟩
end F133
namespace F102
def H:Hd:=⟨[Sl,Si],[Sz],.d,kt [F133.k] false,[],f102⟩
def k:Kc P_ gl:=⟨(102,⟨H.p,H.r,u2 Hg⟩),co H func102⟩
end F102
namespace F70
def H:Hd:=⟨[Si],[Sz],.d,kt [F102.k] false,[],f70⟩
def k:Kc P_ gl:=⟨(70,⟨H.p,H.r,Px⟩),co H func70⟩
end F70
namespace F38
def Zz(j28:Bool->Int->Option Int)(y ac:Int)(g a:LB)(h p m u v b:Int)(n:Bool)(o:Int)(ak:LX)(f:LI)(k:LB):Option Int:=
if(Bi ac 0)then
(Aj ac).bind λ(bi,bj)=>
j28 bi bj
else
(Rp m ak).bind λ(bk,bb)=>
if(Bi bb 0)then
(Aj bb).bind λ(bl,bm)=>
j28 bl bm
else
(Cj k bk).bind λdv=>
(λfa:Option Int=>
bo (
fa)) (
(Bl a y (Ac a)).bind λdw=>
j28 false 0)
theorem dH: @Zz= @Vj:=by
  unfold Zz Vj;simp only[LV,Vp,Wp]
def CY(j13:Bool->Int->Option Int)(j12:LB->LB->Int->Int->Int->Int->Int->Int->Bool->Int->LI->LB->Option Int)(j25:Bool->Int->Option Int)(j23:LB->LB->Int->Int->Int->Int->Int->Int->Bool->Int->LI->LB->Option Int)(j24:LB->LB->Int->Int->Int->Int->Int->Int->Bool->Int->LI->LB->Int->Option Int)(j28:Bool->Int->Option Int)(j26:Int->LB->LB->Int->Int->Int->Int->Int->Int->Bool->Int->LX->LI->LI->LB->Option Int)(j22:Bool->Option Int)(j21:Option Int)(al am:LB)(an ao ap aq ar:Int)(au:LI)(ad:Int)(ae:LB)(aa:Bool)(w:Int):Option Int:=
if(Du (Ac al) 64)then
some 8
else
if((geq w 0)&&(!aa))then
(Dq al am an ao ap aq ar au ad ae aa w).bind λ(g,a,h,p,m,u,v,f,b,k,n,o)=>
(Xc al am an ao ap aq ar au ad ae aa w).bind λbn=>
if bn then
if(geq h 0)then
(Lf a).bind λ(ah,av)=>
if(geq av 24)then
j13 true 0
else
if(Bi av 0)then
(Aj av).bind λ(bp,bq)=>
j13 bp bq
else
(Bl a ah (Ac a)).bind λbr=>
(Pu br).bind λaj=>
if aj then
j13 true 0
else
(Bl a ah (Ac a)).bind λbs=>
(Ph bs).bind λ(ay,az,ab,ba,af,aw)=>
if(geq aw 24)then
j13 true 0
else
if(Bi aw 0)then
(Aj aw).bind λ(bt,bu)=>
j13 bt bu
else
both (
(Bl a (Ae ah 22) (Ac a)).bind λax=>
(λfb:Option Int=>
bo (
fb)) (
j12 g ax ay az ab ba af b n o f k)) [
(Bl a (Ae ah 22) (Ac a)).bind λax=>
j12 g ax ay az ab ba af b n o f k]
else
if(geq (Ac f) 0)then
if(geq h 2)then
if(Ck (Ac a) 8)then
j25 true 0
else
j23 g a h p m u v b n o f k
else
j24 g a h p m u v b n o f k 0
else
if(Ck b (Ac f))then
(Ah f b).bind λ_=>
(Ah f b).bind λy=>
if(Ck (Ac a) y)then
j28 true 0
else
(Tt g).bind λ(bc,ai)=>
if(Bi ai 0)then
(Aj ai).bind λ(bv,bw)=>
j28 bv bw
else
(Dz h p m u v).bind λ(ag,bx)=>
if((Bi bx 0)||(Ks b (Ac ag)))then
(Aj 8).bind λ(bz,da)=>
j28 bz da
else
j26 y g a h p m u v b n o bc ag f k
else
if(Du (Ac a) 4000)then
(Aj 38).bind λ(db,bd)=>
j22 ((db==true)&&((geq bd 0)&&true))
else
j21
else
j22 false
else
if((geq (Ac am) 0)&&(geq (Ac au) 0))then
if((((geq an 0)&&((geq ao 0)&&((geq ap 0)&&((geq aq 0)&&((geq ar 0)&&true)))))&&(geq ad 0))&&(pB (Ac ae) 12000))then
if(geq w 0)then
j22 true
else
if(!aa)then
(Px w).bind λdc=>
j22 dc
else
j22 false
else
j22 false
else
if((false&&(geq ad 0))&&(pB (Ac ae) 12000))then
if(geq w 0)then
j22 true
else
if(!aa)then
(Px w).bind λdd=>
j22 dd
else
j22 false
else
j22 false
theorem gU: @CY= @Xk:=by
  unfold CY Xk
  try simp only[LV,Vp,Wp]
  all_goals
    repeat (refine funext λ_=>?_)
    repeat' first
      |with_reducible rfl
      |with_reducible refine Ip ?_ ?_
      |with_reducible refine If ?_ ?_ ?_
      |with_reducible refine Iq ?_ ?_ ?_ ?_
      |((with_reducible refine Mq ?_ ?_);focus (intro h;first|(subst h;rfl)|(simp only[h];rfl)|(simp[Cj,Ac,h];done)))
      |with_reducible refine Ml λx=>?_
      |with_reducible refine Sd (λ_=>?_) (λ_=>?_)
      |(refine Eo (λh=>by simp only[h,Mo,Dn,Dj,ite_self]) (λx h=>?_);(try simp only[h,Dn]))
      |(refine Gm (λh=>?_) (λh=>?_)<;>simp only[h,if_true,if_false,Bool.false_eq_true])
abbrev R_:=Int
def H:Hd:=⟨[.agg [Ss,Sb,.agg [Si,Si,Si,Si,Si],Sl,Si,Sb,Sz,Si]],[Si],(.seq .d (.seq .d (.seq .d (.cut [3] [] (.seq .d (.cond (.seq .d (.keep [3,21,22,23,24,25] false)) .d)) .d)))),kt [F25.k,F46.k,⟨(48,Zq),RW⟩,F49.k,F69.k,F70.k,F71.k,F72.k,F73.k,F74.k,F75.k,F76.k,F77.k,F78.k,F79.k] false,[(24,(.seq .d (.cut [2] [] (.blk (.seq .d (.cond (.cut [2] [] (.keep [2,11] true) .d) (.seq .d (.cond (.cut [2] [] (.keep [2,20] true) .d) (.seq .d (.cond (.cut [2] [] (.keep [2,33] true) .d) .d))))))) .d))),(43,(.seq .d (.seq .d (.seq .d (.seq .d (.seq .d (.cut [0,2,5] [] (.mode false) .d))))))),(44,(.seq .d (.seq .d (.cut [0,2,3] [⟨0,[1],.ro (.int .u8)⟩] (.seq .d (.cond (.seq .d (.cut [0,2,3] [⟨0,[1],.ro (.int .u8)⟩,⟨9,[1],.ro (.int .u8)⟩,⟨10,[1],.ro (.int .u8)⟩,⟨15,[1],.ro (.int .u8)⟩,⟨16,[1],.ro (.int .u8)⟩,⟨18,[],.ro (.int .u8)⟩] .d (.cut [0,2,3,4,5] [] .d .d))) .d)) .d)))),(45,(.seq .d (.seq .d (.seq .d (.seq .d (.seq .d (.seq .d (.cut [0,2,3,4,6] [⟨0,[1],.ro (.int .u8)⟩,⟨9,[1],.ro (.int .u8)⟩,⟨10,[1],.ro (.int .u8)⟩,⟨13,[1],.ro (.int .u8)⟩,⟨14,[1],.ro (.int .u8)⟩,⟨19,[1],.ro (.int .u8)⟩,⟨20,[1],.ro (.int .u8)⟩,⟨22,[],.ro (.int .u8)⟩,⟨28,[1],.ro (.int .u8)⟩,⟨29,[1],.ro (.int .u8)⟩,⟨40,[1],.ro (.int .u8)⟩,⟨41,[1],.ro (.int .u8)⟩] .d (.cut [0,2,3,5,7] [] .d (.seq .d (.seq .d (.seq .d (.seq .d (.seq (.mode false) .d))))))))))))))],f38⟩
def x27(y ac:Int)(g a:LB)(h p m u v b:Int)(n:Bool)(o:Int)(ak:LX)(f:LI)(k:LB):Option R_:=H.e P_ [r,r,r,l,r,l,r,(dcall 3 24 3 #[true,true,true,true,true,true,true,true] #[true,true,true,true,true,false,false,false]),r,l,d,r,r,r,r,r,l,l,(call 1 45),r,r,r,r,r,r,r,r] ⟨[(0,.ptr 0 []),(2,.ptr 1 []),(3,vi y),(5,vi ac),(7,.own 2)],[.box 32 (.agg [vs g,vb a,.agg [vi h,vi p,vi m,vi u,vi v],.own 4,vi b,.own 5,vt n,vi o]),.box 69 (.agg [vt false,vi 0]),Aw 21 ak,.box 69 (.agg [vt false,vi 0]),Ai 3 f,Ab 5 k],[[(2,.ptr 3 [])],[(3,vt false),(21,.cst (.bool true)),(23,.agg [vt true,vi 0])]]⟩
theorem e27:x27=GF:=Eq.trans (b:=Zz Fm) F3 (by rw[dH];rfl)
def k:Kc P_ gl:=⟨(38,⟨H.p,H.r,u12 Hm⟩),co H func38 (λx=>Eq.trans (b:=u12 (CY Ei Uv Io Ut Iz Fm (EL x27) Bm Vf) x) F3 (by rw[gU];simp only[e27]<;>rfl))⟩
end F38
namespace F23
def EO(f g:LB)(h k m n o:Int)(p:LI)(u:Int)(v:LB)(b:Bool)(a:Int):Option (LB×LB×Int×Int×Int×Int×Int×LI×Int×LB×Bool×Int×Int):=
(Hm f g h k m n o p u v b a).bind λw=>
if(Bi w 0)then
some (([]:LB),([]:LB),0,0,0,0,0,([]:LI),0,([]:LB),false,0,w)
else
if(Bi a 0)then
(λbl:Option (LB×LB×Int×Int×Int×Int×Int×LI×Int×LB×Bool×Int×Int)=>
both (
both (
(Dq f g h k m n o p u v b a).bind λ(y,aa,ab,ac,ad,ae,af,ag,ah,ai,aj,ak)=>
(λbm:Option (LB×LB×Int×Int×Int×Int×Int×LI×Int×LB×Bool×Int×Int)=>
bo (
bm)) (
some (y,aa,ab,ac,ad,ae,af,ag,ah,ai,aj,ak,a))) [
bl]) [
bl]) (
(Dq f g h k m n o p u v b a).bind λ(y,aa,ab,ac,ad,ae,af,ag,ah,ai,aj,ak)=>
some (y,aa,ab,ac,ad,ae,af,ag,ah,ai,aj,ak,a))
else
if b then
(Dq f g h k m n o p u v b a).bind λ(al,am,an,ao,ap,aq,ar,au,av,aw,ax,ay)=>
some (al,am,an,ao,ap,aq,ar,au,av,aw,ax,ay,36)
else
(Dq f g h k m n o p u v b a).bind λ(az,ba,bb,bc,bd,be,bf,bg,bh,bi,bj,bk)=>
some (az,ba,bb,bc,bd,be,bf,bg,bh,bi,bj,bk,0)
theorem gD: @EO= @Qd:=by
  unfold EO Qd
  try simp only[LV,Vp,Wp]
  all_goals
    repeat (refine funext λ_=>?_)
    repeat' first
      |with_reducible rfl
      |with_reducible refine Ip ?_ ?_
      |with_reducible refine If ?_ ?_ ?_
      |with_reducible refine Iq ?_ ?_ ?_ ?_
      |((with_reducible refine Mq ?_ ?_);focus (intro h;first|(subst h;rfl)|(simp only[h];rfl)|(simp[Cj,Ac,h];done)))
      |with_reducible refine Ml λx=>?_
      |with_reducible refine Sd (λ_=>?_) (λ_=>?_)
      |(refine Eo (λh=>by simp only[h,Mo,Dn,Dj,ite_self]) (λx h=>?_);(try simp only[h,Dn]))
      |(refine Gm (λh=>?_) (λh=>?_)<;>simp only[h,if_true,if_false,Bool.false_eq_true])
def H:Hd:=⟨[.agg [Ss,Sb,.agg [Si,Si,Si,Si,Si],Sl,Si,Sb,Sz,Si]],[.agg [Ss,Ob 5,.agg [Si,Si,Si,Si,Si],Ol 3,Si,Ob 5,Sz,Si],Si],(.seq .d (.seq .d (.seq (.blk (.seq .d (.cond (.seq (.mode false) .d) .d))) .d))),kt [F25.k,F38.k] false,[],f23⟩
def k:Kc P_ gl:=⟨(23,⟨H.p,H.r,u12 Qd⟩),co H func23 (λx=>Eq.trans (b:=u12 EO x) F3 (by simp only[gD]<;>rfl))⟩
end F23
namespace F26
def H:Hd:=⟨[.agg [Ss,Sb,.agg [Si,Si,Si,Si,Si],Sl,Si,Sb,Sz,Si],Si],[.agg [Ss,Ob 5,.agg [Si,Si,Si,Si,Si],Ol 3,Si,Sb,Sz,Si],Si],.d,kt [] false,[],f26⟩
def k:Kc P_ gl:=⟨(26,⟨H.p,H.r,u13 aU⟩),co H func26⟩
end F26
namespace F11
def GH(j78:Int->Int->Int->Int->Int->LI->Bool->Int->LB->Int->LB->Option (LB×LB×Int×Int×Int×Int×Int×LI×Int×LB×Bool×Int×Int))(a:LB)(b:Bool)(f w ab:Int)(g:LB)(m o n p u h:Int)(am:LX)(k:LI)(v:LB):Option (LB×LB×Int×Int×Int×Int×Int×LI×Int×LB×Bool×Int×Int):=
if(Bi ab 0)then
(Aj ab).bind λ(br,bs)=>
j78 m o n p u k br bs g h v
else
(Rp n am).bind λ(bt,af)=>
if(Bi af 0)then
(Aj af).bind λ(bu,bv)=>
j78 m o n p u k bu bv g h v
else
(Cj v bt).bind λbw=>
(λhb:Option (LB×LB×Int×Int×Int×Int×Int×LI×Int×LB×Bool×Int×Int)=>
bo (
hb)) (
(Bl g w (Ac g)).bind λbx=>
j78 m o n p u k false 0 bx (Ae h 1) bw)
theorem eL: @GH= @Xi:=by
  unfold GH Xi;simp only[LV,Vp,Wp]
def CW(j62:Int->LI->LB->Bool->Int->LB->Int->Int->Int->Int->Int->Option (LB×LB×Int×Int×Int×Int×Int×LI×Int×LB×Bool×Int×Int))(j61:LB->Int->Int->Int->Int->Int->Int->LI->LB->Option (LB×LB×Int×Int×Int×Int×Int×LI×Int×LB×Bool×Int×Int))(j75:Int->Int->Int->Int->Int->Int->LB->Bool->Int->LB->LI->Option (LB×LB×Int×Int×Int×Int×Int×LI×Int×LB×Bool×Int×Int))(j73:LB->Int->Int->Int->Int->Int->Int->LI->LB->Option (LB×LB×Int×Int×Int×Int×Int×LI×Int×LB×Bool×Int×Int))(j74:LB->Int->Int->Int->Int->Int->Int->LI->LB->Int->Option (LB×LB×Int×Int×Int×Int×Int×LI×Int×LB×Bool×Int×Int))(j78:Int->Int->Int->Int->Int->LI->Bool->Int->LB->Int->LB->Option (LB×LB×Int×Int×Int×Int×Int×LI×Int×LB×Bool×Int×Int))(j76:Int->LB->Int->Int->Int->Int->Int->Int->LX->LI->LI->LB->Option (LB×LB×Int×Int×Int×Int×Int×LI×Int×LB×Bool×Int×Int))(j71:LB->Int->Int->Int->Int->Int->Int->Bool->Int->LI->LB->Option (LB×LB×Int×Int×Int×Int×Int×LI×Int×LB×Bool×Int×Int))(j70:LB->Int->Int->Int->Int->Int->Int->LI->LB->Option (LB×LB×Int×Int×Int×Int×Int×LI×Int×LB×Bool×Int×Int))(a:LB)(b:Bool)(f:Int)(g:LB)(m o n p u h:Int)(k:LI)(v:LB):Option (LB×LB×Int×Int×Int×Int×Int×LI×Int×LB×Bool×Int×Int):=
if(geq m 0)then
(Lf g).bind λ(ad,an)=>
if(geq an 24)then
j62 h k v true 0 g m o n p u
else
if(Bi an 0)then
(Aj an).bind λ(bz,da)=>
j62 h k v bz da g m o n p u
else
(Bl g ad (Ac g)).bind λdb=>
(Pu db).bind λal=>
if al then
j62 h k v true 0 g m o n p u
else
(Bl g ad (Ac g)).bind λdc=>
(Ph dc).bind λ(ah,ai,y,aj,aa,ao)=>
if(geq ao 24)then
j62 h k v true 0 g m o n p u
else
if(Bi ao 0)then
(Aj ao).bind λ(dd,de)=>
j62 h k v dd de g m o n p u
else
both (
(Bl g (Ae ad 22) (Ac g)).bind λag=>
bo (
j61 ag ah ai y aj aa h k v)) [
(Bl g (Ae ad 22) (Ac g)).bind λag=>
j61 ag ah ai y aj aa h k v]
else
if(geq (Ac k) 0)then
if(geq m 2)then
if(Ck (Ac g) 8)then
j75 m o n p u h v true 0 g k
else
j73 g m o n p u h k v
else
j74 g m o n p u h k v 0
else
if(Ck h (Ac k))then
(Ah k h).bind λ_=>
(Ah k h).bind λw=>
if(Ck (Ac g) w)then
j78 m o n p u k true 0 g h v
else
(Tt a).bind λ(aq,ak)=>
if(Bi ak 0)then
(Aj ak).bind λ(df,dg)=>
j78 m o n p u k df dg g h v
else
(Dz m o n p u).bind λ(ac,dh)=>
if((Bi dh 0)||(Ks h (Ac ac)))then
(Aj 8).bind λ(di,ap)=>
j78 m o n p u k di ap g h v
else
j76 w g m o n p u h aq ac k v
else
if(Du (Ac g) 4000)then
(Aj 38).bind λ(dj,ae)=>
j71 g m o n p u h dj ae k v
else
j70 g m o n p u h k v
theorem gK: @CW= @Hw:=by
  unfold CW Hw
  repeat (refine funext λ_=>?_)
  repeat' first
    |with_reducible rfl
    |with_reducible refine Ip ?_ ?_
    |with_reducible refine If ?_ ?_ ?_
    |with_reducible refine Iq ?_ ?_ ?_ ?_
    |((with_reducible refine Mq ?_ ?_);focus (intro h;first|(subst h;rfl)|(simp only[h];rfl)|(simp[Cj,Ac,h];done)))
    |with_reducible refine Ml λx=>?_
    |with_reducible refine Sd (λ_=>?_) (λ_=>?_)
    |(refine Eo (λh=>by simp only[h,Mo,Dn,Dj,ite_self]) (λx h=>?_);(try simp only[h,Dn]))
    |(refine Gm (λh=>?_) (λh=>?_)<;>simp only[h,if_true,if_false,Bool.false_eq_true])
abbrev R_:=(LB×LB×Int×Int×Int×Int×Int×LI×Int×LB×Bool×Int×Int)
abbrev K_:=S->Option R_
def H:Hd:=⟨[.agg [Ss,Sb,.agg [Si,Si,Si,Si,Si],Sl,Si,Sb,Sz,Si],Sb],[.agg [Ss,Ob 5,.agg [Si,Si,Si,Si,Si],Ol 3,Si,Sb,Sz,Si],Si],(.seq .d (.seq .d (.seq .d (.seq .d (.blk (.loop [2,4] [⟨2,[1],.ro (.int .u8)⟩] (.blk (.cut [2,4,7] [] (.keep [2,4,7,22] true) .d)))))))),kt [F23.k,F25.k,F26.k,F46.k,⟨(48,Zq),RW⟩,F49.k,F71.k,F72.k,F73.k,F74.k,F75.k,F76.k,F77.k,F78.k,F79.k] false,[(24,(.seq .d (.cut [2] [] (.blk (.seq .d (.cond (.cut [2] [] (.keep [2,11] true) .d) (.seq .d (.cond (.cut [2] [] (.keep [2,20] true) .d) (.seq .d (.cond (.cut [2] [] (.keep [2,33] true) .d) .d))))))) .d))),(43,(.seq .d (.seq .d (.seq .d (.seq .d (.seq .d (.cut [0,2,5] [] (.mode false) .d))))))),(44,(.seq .d (.seq .d (.cut [0,2,3] [] (.seq .d (.cond (.seq .d (.cut [0,2,3] [⟨0,[1],.ro (.int .u8)⟩,⟨9,[1],.ro (.int .u8)⟩,⟨10,[1],.ro (.int .u8)⟩,⟨15,[1],.ro (.int .u8)⟩,⟨16,[1],.ro (.int .u8)⟩,⟨18,[],.ro (.int .u8)⟩] .d (.cut [0,2,3,4,5] [] .d .d))) .d)) .d)))),(45,(.seq .d (.seq .d (.seq .d (.seq .d (.seq .d (.seq .d (.cut [0,2,3,4,6] [⟨0,[1],.ro (.int .u8)⟩,⟨9,[1],.ro (.int .u8)⟩,⟨10,[1],.ro (.int .u8)⟩,⟨13,[1],.ro (.int .u8)⟩,⟨14,[1],.ro (.int .u8)⟩,⟨19,[1],.ro (.int .u8)⟩,⟨20,[1],.ro (.int .u8)⟩,⟨22,[],.ro (.int .u8)⟩,⟨28,[1],.ro (.int .u8)⟩,⟨29,[1],.ro (.int .u8)⟩,⟨40,[1],.ro (.int .u8)⟩,⟨41,[1],.ro (.int .u8)⟩] .d (.cut [0,2,3,5,7] [] .d (.seq .d (.seq .d (.seq .d (.seq .d (.seq (.mode false) .d))))))))))))))],f11⟩
def t37(a:LB)(b:Bool)(f:Int)(g:LB)(m o n p u h:Int)(k:LI)(v:LB):S:=⟨[(2,.ptr 0 []),(4,.ptr 1 [])],[.box 32 (.agg [vs a,vb g,.agg [vi m,vi o,vi n,vi p,vi u],.own 2,vi h,.own 3,vt b,vi f]),.box 32 (.agg [vs ([]:LB),.nils,.agg [vi 0,vi 0,vi 0,vi 0,vi 0],.nils,vi 0,.nils,vt false,vi 0]),Ai 3 k,Ab 5 v],[]⟩
def z37:Nat->S->Option R_:=H.i P_ [r,r,r,r,d]
def x75(nE:K_)(a:LB)(b:Bool)(f m o n p u h:Int)(v:LB)(bf:Bool)(bg:Int)(bh:LB)(bi:LI):Option R_:=H.e P_ [r,r,r,r,d,(lp nE),d,l,(call 0 24),r,l,d,r,r,r,l,r] ⟨[(2,.ptr 0 [])],[.box 69 (.agg [vt bf,vi bg]),.box 32 (.agg [vs a,vb bh,.agg [vi m,vi o,vi n,vi p,vi u],.own 3,vi h,.own 4,vt b,vi f]),.box 32 (.agg [vs ([]:LB),.nils,.agg [vi 0,vi 0,vi 0,vi 0,vi 0],.nils,vi 0,.nils,vt false,vi 0]),Ai 3 bi,Ab 5 v],[[(2,.ptr 1 []),(4,.ptr 2 [])]]⟩
def x78(nE:K_)(a:LB)(b:Bool)(f m o n p u:Int)(k:LI)(bl:Bool)(bm:Int)(bn:LB)(bp:Int)(bq:LB):Option R_:=H.e P_ [r,r,r,r,d,(lp nE),d,l,(call 0 24),r,l,d,r,r,r,r,r,l,r] ⟨[(2,.ptr 0 [])],[.box 69 (.agg [vt bl,vi bm]),.box 32 (.agg [vs a,vb bn,.agg [vi m,vi o,vi n,vi p,vi u],.own 3,vi bp,.own 4,vt b,vi f]),.box 32 (.agg [vs ([]:LB),.nils,.agg [vi 0,vi 0,vi 0,vi 0,vi 0],.nils,vi 0,.nils,vt false,vi 0]),Ai 3 k,Ab 5 bq],[[(2,.ptr 1 []),(4,.ptr 2 [])]]⟩
def x77(nE:K_)(a:LB)(b:Bool)(f w ab:Int)(g:LB)(m o n p u h:Int)(am:LX)(k:LI)(v:LB):Option R_:=H.e P_ [r,r,r,r,d,(lp nE),d,l,(call 0 24),r,l,d,r,r,r,r,r,l,l,(call 1 45),r,r,r,r,r,r,r,r] ⟨[(0,.ptr 0 []),(2,.ptr 1 []),(3,vi w),(5,vi ab),(7,.own 2)],[.box 32 (.agg [vs a,vb g,.agg [vi m,vi o,vi n,vi p,vi u],.own 5,vi h,.own 6,vt b,vi f]),.box 69 (.agg [vt false,vi 0]),Aw 21 am,.box 69 (.agg [vt false,vi 0]),.box 32 (.agg [vs ([]:LB),.nils,.agg [vi 0,vi 0,vi 0,vi 0,vi 0],.nils,vi 0,.nils,vt false,vi 0]),Ai 3 k,Ab 5 v],[[(2,.ptr 3 [])],[(2,.ptr 0 []),(4,.ptr 4 [])]]⟩
theorem e75(nE:K_)(a:LB)(b:Bool)(f:Int):x75 nE a b f=Kk (λg m o n p u h k v=>nE (t37 a b f g m o n p u h k v)) a b f:=F3
theorem e78(nE:K_)(a:LB)(b:Bool)(f:Int):x78 nE a b f=Mz (λg m o n p u h k v=>nE (t37 a b f g m o n p u h k v)) a b f:=F3
theorem e77(nE:K_)(a:LB)(b:Bool)(f:Int):x77 nE a b f=IH (λg m o n p u h k v=>nE (t37 a b f g m o n p u h k v)) a b f:=Eq.trans (b:=GH (x78 nE a b f) a b f) F3 (by rw[eL];simp only[e78]<;>rfl)
theorem i37(a:LB)(b:Bool)(f:Int):∀(q:Nat) (g:LB) (m o n p u h:Int) (k:LI) (v:LB),z37 q (t37 a b f g m o n p u h k v)=Bd a b f q g m o n p u h k v:=
 ind (λ_ _ _ _ _ _ _ _ _=>by kernel_rfl) λq ih g m o n p u h k v=>Eq.trans (b:=CW (Na (λg m o n p u h k v=>(z37 q) (t37 a b f g m o n p u h k v)) a b f) (Qq (λg m o n p u h k v=>(z37 q) (t37 a b f g m o n p u h k v)) a b f) (x75 (z37 q) a b f) (HW (IV (x75 (z37 q) a b f) (Xs (x75 (z37 q) a b f) a b f) a b f) a b f) (Xs (x75 (z37 q) a b f) a b f) (x78 (z37 q) a b f) (HV (x77 (z37 q) a b f) a b f) (Cb (λg m o n p u h k v=>(z37 q) (t37 a b f g m o n p u h k v)) a b f) (Xm (λg m o n p u h k v=>(z37 q) (t37 a b f g m o n p u h k v)) a b f) a b f g m o n p u h k v) F3 (by rw[gK];simp only[e75,e78,e77,ih]<;>rfl)
def k:Kc P_ gl:=⟨(11,⟨H.p,H.r,u13 Dr⟩),co H func11 (λx=>Eq.trans (b:=u13 (Tk (λa b f g m o n p u h k v=>z37 Dg (t37 a b f g m o n p u h k v))) x) F3 (by simp only[i37,Bc]<;>rfl))⟩
end F11
namespace F21
def H:Hd:=⟨[.agg [Ss,Sb,.agg [Si,Si,Si,Si,Si],Sl,Si,Sb,Sz,Si],Si],[.agg [Ss,Ob 5,.agg [Si,Si,Si,Si,Si],Ol 3,Si,Sb,Sz,Si],Ob 5,Si],.d,kt [F25.k,F38.k,F39.k] false,[],f21⟩
def k:Kc P_ gl:=⟨(21,⟨H.p,H.r,u13 Tp⟩),co H func21⟩
end F21
namespace F87
abbrev R_:=(Int×Int)
def H:Hd:=⟨[Sb],[Si,Si],(.seq .d (.seq .d (.cut [0,4] [] .d .d))),kt [F103.k,F120.k,F121.k,F122.k] false,[],f87⟩
def k:Kc P_ gl:=⟨(87,⟨H.p,H.r,oH⟩),co H func87⟩
end F87
namespace F50
abbrev R_:=(Int×Int)
abbrev K_:=S->Option R_
def H:Hd:=⟨[Sb],[Si,Si],(.seq .d (.seq .d (.seq .d (.seq .d (.cut [5] [] (.blk (.loop [1,4,5] [] (.seq .d (.cut [1,4,5] [] (.blk (.cut [1,4,5,6] [] (.keep [1,4,5,6,16,17] true) .d)) .d)))) .d))))),kt [F87.k] false,[(86,.d)],f50⟩
def t8(a:Int)(b:LB):S:=⟨[(1,.ptr 0 []),(4,.fn 86 [.ptr 0 []]),(5,vi a)],[.box 22 (vb b)],[]⟩
def z8:Nat->S->Option R_:=H.i P_ [r,r,r,r,l,d]
theorem i8:∀(q:Nat) (a:Int) (b:LB),z8 q (t8 a b)=Tg q a b:=
 ind (λ_ _=>by kernel_rfl) λq ih a b=>Eq.trans (b:=MZ (IG (λa b=>(z8 q) (t8 a b))) YD a b) F3 (by simp only[ih]<;>rfl)
def k:Kc P_ gl:=⟨(50,⟨H.p,H.r,OO⟩),co H func50 (λx=>Eq.trans (b:=MS (λa b=>z8 Dg (t8 a b)) x) F3 (by simp only[i8,Bc]<;>rfl))⟩
end F50
namespace F27
def H:Hd:=⟨[.agg [Ss,Sb,.agg [Si,Si,Si,Si,Si],Sl,Si,Sb,Sz,Si]],[Si],.d,kt [⟨(48,Zq),RW⟩,F49.k,F50.k] false,[],f27⟩
def k:Kc P_ gl:=⟨(27,⟨H.p,H.r,u12 Vz⟩),co H func27⟩
end F27
namespace F12
def H:Hd:=⟨[.agg [Ss,Sb,.agg [Si,Si,Si,Si,Si],Sl,Si,Sb,Sz,Si]],[.agg [Ss,Ob 5,.agg [Si,Si,Si,Si,Si],Ol 3,Si,Sb,Sz,Si],Si],.d,kt [F23.k,F26.k,F27.k] false,[],f12⟩
def k:Kc P_ gl:=⟨(12,⟨H.p,H.r,u12 Hl⟩),co H func12⟩
end F12
namespace F8
def AW(j29:Int->LB->Int->Int->Int->Int->Int->Int->LB->Bool->Int->LB-> (List (Int×LB×Unit))->LB->LI->Option (LB×LB×Int×Int×Int×Int×Int×LI×Int×LB×Bool×Int×(List (Int×LB×Unit))×Int))(b:List (UInt8×Int×Unit))(ac:UInt8×Int×Unit)(a:LB)(ad ab:Int)(f w:LB)(g h k m n:Int)(y:LI)(o:Int)(p:LB)(u:Bool)(v:Int)(ae:LB)(af ag ah ai aj ak:Int)(al:LB)(am:Bool)(an:Int)(aa:List (Int×LB×Unit))(ao:LB)(ap:LI):Option (LB×LB×Int×Int×Int×Int×Int×LI×Int×LB×Bool×Int×(List (Int×LB×Unit))×Int):=
(λfs:Option (LB×LB×Int×Int×Int×Int×Int×LI×Int×LB×Bool×Int×(List (Int×LB×Unit))×Int)=>
bo (
fs)) (
(Bl a (Ee ac.2.1 (Ac a)) (Ac a)).bind λbv=>
(Cj aa ([(ad,([]:LB),())]:List (Int×LB×Unit))).bind λar=>
j29 ab ae af ag ah ai aj ak al am an bv ar ao ap)
theorem cS: @AW= @Ve:=by
  unfold AW Ve;simp only[LV,Vp,Wp]
def AA(j26:(UInt8×Int×Unit)->LB->Int->Int->LB->LB->Int->Int->Int->Int->Int->LI->Int->LB->Bool->Int->LB->Int->Int->Int->Int->Int->Int->LB->Bool->Int-> (List (Int×LB×Unit))->LB->LI->Option (LB×LB×Int×Int×Int×Int×Int×LI×Int×LB×Bool×Int×(List (Int×LB×Unit))×Int))(j33:Int->Int->LB->LB->Int->Int->Int->Int->Int->LI->Int->LB->Bool->Int->LB->LB->Int->Int->Int->Int->Int->Int->LB->Bool->Int->LB-> (List (Int×LB×Unit))->LB->LI->Option (LB×LB×Int×Int×Int×Int×Int×LI×Int×LB×Bool×Int×(List (Int×LB×Unit))×Int))(j34:Int->Int->LB->LB->Int->Int->Int->Int->Int->LI->Int->LB->Bool->Int->LB->LB->Int->Int->Int->Int->Int->Int->LB->Bool->Int-> (List (Int×LB×Unit))->LB->LI->Option (LB×LB×Int×Int×Int×Int×Int×LI×Int×LB×Bool×Int×(List (Int×LB×Unit))×Int))(j29:Int->LB->Int->Int->Int->Int->Int->Int->LB->Bool->Int->LB-> (List (Int×LB×Unit))->LB->LI->Option (LB×LB×Int×Int×Int×Int×Int×LI×Int×LB×Bool×Int×(List (Int×LB×Unit))×Int))(j31:(List (Int×LB×Unit))->LB->Int->Int->Int->Int->Int->Int->LB->Bool->Int->LB->LB->LI->Option (LB×LB×Int×Int×Int×Int×Int×LI×Int×LB×Bool×Int×(List (Int×LB×Unit))×Int))(b:List (UInt8×Int×Unit))(ab:Int)(f:LB)(g h k m n o:Int)(p:LB)(u:Bool)(v:Int)(a:LB)(aa:List (Int×LB×Unit))(w:LB)(y:LI):Option (LB×LB×Int×Int×Int×Int×Int×LI×Int×LB×Bool×Int×(List (Int×LB×Unit))×Int):=
if(Ck ab (Ac b))then
(Ah b ab).bind λac=>
if(geq ac.1 1)then
(λbw:Option (LB×LB×Int×Int×Int×Int×Int×LI×Int×LB×Bool×Int×(List (Int×LB×Unit))×Int)=>
(λda:Option (LB×LB×Int×Int×Int×Int×Int×LI×Int×LB×Bool×Int×(List (Int×LB×Unit))×Int)=>
(λdb:Option (LB×LB×Int×Int×Int×Int×Int×LI×Int×LB×Bool×Int×(List (Int×LB×Unit))×Int)=>
both (
da) [
da,
(Bl a 0 (Ee ac.2.1 (Ac a))).bind λaq=>
(λdc:Option (LB×LB×Int×Int×Int×Int×Int×LI×Int×LB×Bool×Int×(List (Int×LB×Unit))×Int)=>
(λdd:Option (LB×LB×Int×Int×Int×Int×Int×LI×Int×LB×Bool×Int×(List (Int×LB×Unit))×Int)=>
(λde:Option (LB×LB×Int×Int×Int×Int×Int×LI×Int×LB×Bool×Int×(List (Int×LB×Unit))×Int)=>
both (
de) [
de,
dd]) (
both (
dd) [
dc])) (
bo (
dc))) (
(Dr f w g h k m n y o p u v aq).bind λ(ae,ao,af,ag,ah,ai,aj,ap,ak,al,am,an,ad)=>
j26 ac a ad ab f w g h k m n y o p u v ae af ag ah ai aj ak al am an aa ao ap),
both (
db) [
db,
(Bl a 0 (Ee ac.2.1 (Ac a))).bind λaq=>
(λft:Option (LB×LB×Int×Int×Int×Int×Int×LI×Int×LB×Bool×Int×(List (Int×LB×Unit))×Int)=>
bo (
ft)) (
(Dr f w g h k m n y o p u v aq).bind λ(ae,ao,af,ag,ah,ai,aj,ap,ak,al,am,an,ad)=>
j26 ac a ad ab f w g h k m n y o p u v ae af ag ah ai aj ak al am an aa ao ap)]]) (
bo (
bw))) (
both (
both (
(Bl a 0 (Ee ac.2.1 (Ac a))).bind λaq=>
(λfu:Option (LB×LB×Int×Int×Int×Int×Int×LI×Int×LB×Bool×Int×(List (Int×LB×Unit))×Int)=>
bo (
fu)) (
(Dr f w g h k m n y o p u v aq).bind λ(ae,ao,af,ag,ah,ai,aj,ap,ak,al,am,an,ad)=>
j26 ac a ad ab f w g h k m n y o p u v ae af ag ah ai aj ak al am an aa ao ap)) [
bw]) [
(Bl a 0 (Ee ac.2.1 (Ac a))).bind λaq=>
(λdf:Option (LB×LB×Int×Int×Int×Int×Int×LI×Int×LB×Bool×Int×(List (Int×LB×Unit))×Int)=>
both (
bo (
df)) [
df]) (
(Dr f w g h k m n y o p u v aq).bind λ(ae,ao,af,ag,ah,ai,aj,ap,ak,al,am,an,ad)=>
j26 ac a ad ab f w g h k m n y o p u v ae af ag ah ai aj ak al am an aa ao ap),
bo (
bw)])) (
(Bl a 0 (Ee ac.2.1 (Ac a))).bind λaq=>
(Dr f w g h k m n y o p u v aq).bind λ(ae,ao,af,ag,ah,ai,aj,ap,ak,al,am,an,ad)=>
j26 ac a ad ab f w g h k m n y o p u v ae af ag ah ai aj ak al am an aa ao ap)
else
if(geq ac.1 2)then
(λdg:Option (LB×LB×Int×Int×Int×Int×Int×LI×Int×LB×Bool×Int×(List (Int×LB×Unit))×Int)=>
(λdh:Option (LB×LB×Int×Int×Int×Int×Int×LI×Int×LB×Bool×Int×(List (Int×LB×Unit))×Int)=>
(λdi:Option (LB×LB×Int×Int×Int×Int×Int×LI×Int×LB×Bool×Int×(List (Int×LB×Unit))×Int)=>
both (
di) [
di,
dh]) (
both (
dh) [
dg])) (
bo (
dg))) (
(Tp f w g h k m n y o p u v ac.2.1).bind λ(av,ar,aw,ax,ay,az,ba,bg,bb,bc,bd,be,bf,au)=>
j33 au ab f w g h k m n y o p u v a av aw ax ay az ba bb bc bd be bf aa ar bg)
else
if(geq ac.1 3)then
(λdj:Option (LB×LB×Int×Int×Int×Int×Int×LI×Int×LB×Bool×Int×(List (Int×LB×Unit))×Int)=>
(λdk:Option (LB×LB×Int×Int×Int×Int×Int×LI×Int×LB×Bool×Int×(List (Int×LB×Unit))×Int)=>
(λdl:Option (LB×LB×Int×Int×Int×Int×Int×LI×Int×LB×Bool×Int×(List (Int×LB×Unit))×Int)=>
both (
dl) [
dl,
dk]) (
both (
dk) [
dj])) (
bo (
dj))) (
(Hl f w g h k m n y o p u v).bind λ(bi,bt,bj,bk,bl,bm,bn,bu,bp,bq,br,bs,bh)=>
j34 bh ab f w g h k m n y o p u v a bi bj bk bl bm bn bp bq br bs aa bt bu)
else
j29 ab f g h k m n o p u v a aa w y
else
j31 aa f g h k m n o p u v a w y
theorem cK: @AA= @Pm:=by
  unfold AA Pm
  try simp only[LV,Vp,Wp]
  all_goals
    repeat (refine funext λ_=>?_)
    repeat' first
      |with_reducible rfl
      |with_reducible refine Ip ?_ ?_
      |with_reducible refine If ?_ ?_ ?_
      |with_reducible refine Iq ?_ ?_ ?_ ?_
      |((with_reducible refine Mq ?_ ?_);focus (intro h;first|(subst h;rfl)|(simp only[h];rfl)|(simp[Cj,Ac,h];done)))
      |with_reducible refine Ml λx=>?_
      |with_reducible refine Sd (λ_=>?_) (λ_=>?_)
      |(refine Eo (λh=>by simp only[h,Mo,Dn,Dj,ite_self]) (λx h=>?_);(try simp only[h,Dn]))
      |(refine Gm (λh=>?_) (λh=>?_)<;>simp only[h,if_true,if_false,Bool.false_eq_true])
abbrev R_:=(LB×LB×Int×Int×Int×Int×Int×LI×Int×LB×Bool×Int×(List (Int×LB×Unit))×Int)
abbrev K_:=S->Option R_
def H:Hd:=⟨[Ss,Sb,.lf (.list (.cons (.int .u8) (.cons (.int .i64) .nil))) none],[.agg [Ss,Ob 5,.agg [Si,Si,Si,Si,Si],Ol 3,Si,Sb,Sz,Si],.lf (.list (.cons (.int .i64) (.cons (.list (.int .u8)) .nil))) (some 49),Si],(.seq .d (.seq .d (.seq .d (.seq .d (.seq .d (.cut [6,12,13] [] (.keep [6,12,13,35] true) .d)))))),kt [F9.k,F11.k,F12.k,F20.k,F21.k] false,[(22,(.seq .d (.seq .d (.seq .d (.cut [6] [] (.seq .d (.blk (.loop [5,6,19,20,21] [⟨5,[0,0,5],.ro (.int .u8)⟩,⟨6,[],.own 49 (.cons (.int .i64) (.cons (.list (.int .u8)) .nil))⟩] (.seq .d (.seq .d (.cut [5,6,19,20,21] [] (.blk (.seq .d (.seq .d (.seq .d (.cond (.keep [5,6,19,20,21,33,37,38,39] true) .d))))) .d)))))) .d))))),(40,(.seq .d (.seq .d (.cut [0,1,4,5,6] [] (.mode false) (.seq (.mode false) .d))))),(41,(.seq .d (.cut [0,4,5,6,7] [] (.mode false) .d))),(42,(.seq .d (.cut [0,4,5,6] [] (.mode false) .d)))],f8⟩
def t17(b:List (UInt8×Int×Unit))(ab:Int)(f:LB)(g h k m n o:Int)(p:LB)(u:Bool)(v:Int)(a:LB)(aa:List (Int×LB×Unit))(w:LB)(y:LI):S:=⟨[(5,.mp [1,2,3] [.bfn 40 [.ptr 0 []],.bfn 41 [.ptr 0 []],.bfn 42 [.ptr 0 []]]),(6,.own 1),(19,.val (.list (.cons (.int .u8) (.cons (.int .i64) .nil))) b),(20,vi (Ac b)),(21,vi ab)],[.box 66 (.agg [.agg [vs f,.own 3,.agg [vi g,vi h,vi k,vi m,vi n],.own 4,vi o,vb p,vt u,vi v],.fn 11 [],.fn 12 [],.fn 21 [],vb a]),.arr 49 (.cons (.int .i64) (.cons (.list (.int .u8)) .nil)) aa,.box 32 (.agg [vs ([]:LB),.nils,.agg [vi 0,vi 0,vi 0,vi 0,vi 0],.nils,vi 0,.nils,vt false,vi 0]),Ab 5 w,Ai 3 y],[[(6,.ptr 2 []),(12,.ptr 0 [])]]⟩
def z17:Nat->S->Option R_:=H.i P_ [r,r,r,r,r,l,(call 2 22),r,r,r,l,r,d]
def x26(H4:K_)(b:List (UInt8×Int×Unit))(ac:UInt8×Int×Unit)(a:LB)(ad ab:Int)(f w:LB)(g h k m n:Int)(y:LI)(o:Int)(p:LB)(u:Bool)(v:Int)(ae:LB)(af ag ah ai aj ak:Int)(al:LB)(am:Bool)(an:Int)(aa:List (Int×LB×Unit))(ao:LB)(ap:LI):Option R_:=H.e P_ [r,r,r,r,r,l,(call 2 22),r,r,r,l,r,d,(lp H4),r,r,l,d,r,r,r,l,(call 4 40),r,r,r] ⟨[(0,.ptr 0 []),(1,vi (Ee ac.2.1 (Ac a))),(4,.ptr 1 []),(5,.ptr 2 []),(6,vi ad)],[.box 66 (.agg [.agg [vs f,vb w,.agg [vi g,vi h,vi k,vi m,vi n],vl y,vi o,vb p,vt u,vi v],.fn 11 [],.fn 12 [],.fn 21 [],vb a]),.box 49 (.agg [vi 0,.nils]),.box 32 (.agg [vs ae,.own 5,.agg [vi af,vi ag,vi ah,vi ai,vi aj],.own 6,vi ak,vb al,vt am,vi an]),.arr 49 (.cons (.int .i64) (.cons (.list (.int .u8)) .nil)) aa,.box 32 (.agg [vs ([]:LB),.nils,.agg [vi 0,vi 0,vi 0,vi 0,vi 0],.nils,vi 0,.nils,vt false,vi 0]),Ab 5 ao,Ai 3 ap],[[(5,.mp [1,2,3] [.bfn 40 [.ptr 0 []],.bfn 41 [.ptr 0 []],.bfn 42 [.ptr 0 []]]),(6,.own 3),(19,.val (.list (.cons (.int .u8) (.cons (.int .i64) .nil))) b),(20,vi (Ac b)),(21,vi ab),(33,.own 3)],[(6,.ptr 4 []),(12,.ptr 0 [])]]⟩
theorem e26(H4:K_)(b:List (UInt8×Int×Unit)):x26 H4 b=GD (λab f g h k m n o p u v a aa w y=>H4 (t17 b ab f g h k m n o p u v a aa w y)) b:=Eq.trans (b:=AW (Fq (λab f g h k m n o p u v a aa w y=>H4 (t17 b ab f g h k m n o p u v a aa w y)) b) b) F3 (by rw[cS];rfl)
theorem i17(b:List (UInt8×Int×Unit)):∀(q:Nat) (ab:Int) (f:LB) (g h k m n o:Int) (p:LB) (u:Bool) (v:Int) (a:LB) (aa:List (Int×LB×Unit)) (w:LB) (y:LI),z17 q (t17 b ab f g h k m n o p u v a aa w y)=Fl b q ab f g h k m n o p u v a aa w y:=
 ind (λ_ _ _ _ _ _ _ _ _ _ _ _ _ _ _=>by kernel_rfl) λq ih ab f g h k m n o p u v a aa w y=>Eq.trans (b:=AA (x26 (z17 q) b) (CX (λab f g h k m n o p u v a aa w y=>(z17 q) (t17 b ab f g h k m n o p u v a aa w y)) b) (DQ (λab f g h k m n o p u v a aa w y=>(z17 q) (t17 b ab f g h k m n o p u v a aa w y)) b) (Fq (λab f g h k m n o p u v a aa w y=>(z17 q) (t17 b ab f g h k m n o p u v a aa w y)) b) DB b ab f g h k m n o p u v a aa w y) F3 (by rw[cK];simp only[e26,ih]<;>rfl)
def k:Kc P_ gl:=⟨(8,⟨H.p,H.r,u3 Zg⟩),co H func8 (λx=>Eq.trans (b:=u3 (HY (λb ab f g h k m n o p u v a aa w y=>z17 Dg (t17 b ab f g h k m n o p u v a aa w y))) x) F3 (by simp only[i17,Bc]<;>rfl))⟩
end F8
namespace F4
def Ki(Zr:Int-> (List (UInt8×Int×Unit))->LI->Option Bool)(k m:LB)(h:List (UInt8×Int×Unit))(a:Bool)(g:List (Int×LB×Unit))(f:Int)(n:List (UInt8×Int×Unit))(b:LI):Option Bool:=
(Ah g f).bind λ_=>
(Ah g f).bind λy=>
if(Du (Ac y.2.1) 0)then
some false
else
(Ah h f).bind λu=>
(Ah g f).bind λ_=>
both (
both (
both (
(Cj n ([(u.1,u.2.1,())]:List (UInt8×Int×Unit))).bind λab=>
(Ah g f).bind λac=>
(Cj b ([ac.1]:LI)).bind λv=>
Zr (Ae f 1) ab v) [
(Ah g f).bind λw=>
(λan:Option Bool=>
bo (
an)) (
(Cj n ([(u.1,u.2.1,())]:List (UInt8×Int×Unit))).bind λaa=>
(Cj b ([w.1]:LI)).bind λv=>
Zr (Ae f 1) aa v)]) [
(Ah g f).bind λw=>
(λae:Option Bool=>
both (
bo (
ae)) [
ae]) (
(Cj n ([(u.1,u.2.1,())]:List (UInt8×Int×Unit))).bind λaa=>
(Cj b ([w.1]:LI)).bind λv=>
Zr (Ae f 1) aa v)]) [
(Ah g f).bind λw=>
(λad:Option Bool=>
both (
both (
bo (
ad)) [
ad]) [
ad]) (
(Cj n ([(u.1,u.2.1,())]:List (UInt8×Int×Unit))).bind λaa=>
(Cj b ([w.1]:LI)).bind λv=>
Zr (Ae f 1) aa v)]
theorem CR: @Ki= @Hc:=by
  unfold Ki Hc
  try simp only[LV,Vp,Wp]
  all_goals
    repeat (refine funext λ_=>?_)
    repeat' first
      |with_reducible rfl
      |with_reducible refine Ip ?_ ?_
      |with_reducible refine If ?_ ?_ ?_
      |with_reducible refine Iq ?_ ?_ ?_ ?_
      |((with_reducible refine Mq ?_ ?_);focus (intro h;first|(subst h;rfl)|(simp only[h];rfl)|(simp[Cj,Ac,h];done)))
      |with_reducible refine Ml λx=>?_
      |with_reducible refine Sd (λ_=>?_) (λ_=>?_)
      |(refine Eo (λh=>by simp only[h,Mo,Dn,Dj,ite_self]) (λx h=>?_);(try simp only[h,Dn]))
      |(refine Gm (λh=>?_) (λh=>?_)<;>simp only[h,if_true,if_false,Bool.false_eq_true])
abbrev R_:=Bool
abbrev K_:=S->Option R_
def H:Hd:=⟨[Ss,Sb,.lf (.list (.cons (.int .u8) (.cons (.int .i64) .nil))) none],[Sz],(.seq .d (.seq .d (.cut [0,1,2,7] [] .d (.seq .d (.seq .d (.seq .d (.seq .d (.cut [0,1,7,11,12] [] (.seq .d (.blk (.loop [0,1,2,7,9,11,12,13] [⟨11,[],.own 47 (.cons (.int .u8) (.cons (.int .i64) .nil))⟩,⟨12,[],.own 30 (.int .i64)⟩] (.seq .d (.seq (.blk (.cut [0,1,2,7,9,11,12,13] [] .d (.seq .d (.mode false)))) .d))))) (.seq .d (.seq .d (.cut [7] [] (.seq .d (.blk (.loop [7,12,15,17] [] .d))) .d))))))))))),kt [F5.k,F6.k,F7.k,F8.k] false,[],f4⟩
def t18(a:Bool)(b:LI)(o:List (Int×LB×Unit))(p:Int):S:=⟨[(7,vt a),(12,.own 0),(15,.own 1),(17,vi p)],[Ai 30 b,.arr 49 (.cons (.int .i64) (.cons (.list (.int .u8)) .nil)) o],[]⟩
def z18:Nat->S->Option R_:=H.i P_ [r,r,r,r,r,r,r,r,r,r,l,r,d]
def t12(k m:LB)(h:List (UInt8×Int×Unit))(a:Bool)(g:List (Int×LB×Unit))(f:Int)(n:List (UInt8×Int×Unit))(b:LI):S:=⟨[(0,vs k),(1,vb m),(2,.val (.list (.cons (.int .u8) (.cons (.int .i64) .nil))) h),(7,vt a),(9,.own 0),(11,.own 1),(12,.own 2),(13,vi f)],[.arr 49 (.cons (.int .i64) (.cons (.list (.int .u8)) .nil)) g,.arr 47 (.cons (.int .u8) (.cons (.int .i64) .nil)) n,Ai 30 b],[]⟩
def z12:Nat->S->Option R_:=H.i P_ [r,r,r,r,r,r,r,l,r,d]
def x18(a:Bool)(b:LI)(o:List (Int×LB×Unit))(p:Int):Option R_:=H.e P_ [r,r,r,r,r,r,r,r,r,r,l,r,d] (t18 a b o p)
def x15(BI:K_)(k m:LB)(h:List (UInt8×Int×Unit))(a:Bool)(g:List (Int×LB×Unit))(f:Int)(n:List (UInt8×Int×Unit))(b:LI):Option R_:=H.e P_ [r,r,r,r,r,r,r,l,r,d,(lp BI),r,l,d,r] ⟨[(0,vs k),(1,vb m),(2,.val (.list (.cons (.int .u8) (.cons (.int .i64) .nil))) h),(7,vt a),(9,.own 0),(11,.own 1),(12,.own 2),(13,vi f)],[.arr 49 (.cons (.int .i64) (.cons (.list (.int .u8)) .nil)) g,.arr 47 (.cons (.int .u8) (.cons (.int .i64) .nil)) n,Ai 30 b],[]⟩
theorem i18(a:Bool)(b:LI)(o:List (Int×LB×Unit)):∀(q:Nat) (p:Int),z18 q (t18 a b o p)=Ds a b o q p:=
 ind (λ_=>by kernel_rfl) λq ih p=>Eq.trans (b:=Hb Ro (λp=>(z18 q) (t18 a b o p)) a b o p) F3 (by simp only[ih]<;>rfl)
theorem e18:x18=Rn:=by funext a b o p;exact Eq.trans F3 ((i18 a b o Dg p).trans (by rw[Bc];rfl))
theorem e15(BI:K_)(k m:LB)(h:List (UInt8×Int×Unit))(a:Bool)(g:List (Int×LB×Unit)):x15 BI k m h a g=Kv (λf n b=>BI (t12 k m h a g f n b)) k m h a g:=Eq.trans (b:=Ki (λf n b=>BI (t12 k m h a g f n b)) k m h a g) F3 (by rw[CR];rfl)
theorem i12(k m:LB)(h:List (UInt8×Int×Unit))(a:Bool)(g:List (Int×LB×Unit)):∀(q:Nat) (f:Int) (n:List (UInt8×Int×Unit)) (b:LI),z12 q (t12 k m h a g f n b)=Da k m h a g q f n b:=
 ind (λ_ _ _=>by kernel_rfl) λq ih f n b=>Eq.trans (b:=Ha (x15 (z12 q) k m h a g) (Kw x18) (λf n b=>(z12 q) (t12 k m h a g f n b)) k m h a g f n b) F3 (by simp only[e15,e18,ih]<;>rfl)
def k:Kc P_ gl:=⟨(4,⟨H.p,H.r,u3 Jo⟩),co H func4 (λx=>Eq.trans (b:=u3 (Lw (La (λk m h a g f n b=>z12 Dg (t12 k m h a g f n b)))) x) F3 (by simp only[i12,Bc]<;>rfl))⟩
end F4
end
end Go.Proofs.YtcpaogkdpmlgkaaGreatDoor
