/- A part of a proof (see the text that ends in Proof). No conditions. -/
import Derived.Test.YtheamkpclkijmaaGreatDoorSsHA
set_option linter.unusedVariables false
set_option linter.unusedSimpArgs false
set_option maxRecDepth 10000
namespace Go.Proofs.YtheamkpclkijmaaGreatDoor
open Go Go.Lv Go.Pl Go.Rx Go.Rx.PS
noncomputable section
def g0:List Value:=[.bool true,.int .i64 0]
def g1:List Value:=[.bool false,.int .i64 0]
def g2:List Value:=[.int .i64 2,.int .i64 2,.int .i64 2,.int .i64 4,.int .i64 4]
def g3:List Value:=[.int .u8 0,.int .u8 1,.int .u8 56,.int .u8 2,.int .u8 57,.int .u8 49,.int .u8 28,.int .u8 3,.int .u8 61,.int .u8 58,.int .u8 42,.int .u8 50,.int .u8 38,.int .u8 29,.int .u8 17,.int .u8 4,.int .u8 62,.int .u8 47,.int .u8 59,.int .u8 36,.int .u8 45,.int .u8 43,.int .u8 51,.int .u8 22,.int .u8 53,.int .u8 39,.int .u8 33,.int .u8 30,.int .u8 24,.int .u8 18,.int .u8 12,.int .u8 5,.int .u8 63,.int .u8 55,.int .u8 48,.int .u8 27,.int .u8 60,.int .u8 41,.int .u8 37,.int .u8 16,.int .u8 46,.int .u8 35,.int .u8 44,.int .u8 21,.int .u8 52,.int .u8 32,.int .u8 23,.int .u8 11,.int .u8 54,.int .u8 26,.int .u8 40,.int .u8 15,.int .u8 34,.int .u8 20,.int .u8 31,.int .u8 10,.int .u8 25,.int .u8 14,.int .u8 19,.int .u8 9,.int .u8 13,.int .u8 8,.int .u8 7,.int .u8 6]
def gl:List (Nat×List Value):=[(0,g0),(1,g1),(2,g2),(3,g3)]
theorem mixed:Tryz.prog.follows .mixedOrders=true:=F4
noncomputable abbrev P_:=Tryz.prog
noncomputable def kt(l:List (Kc P_ gl))(v:Bool)(c:Bool:=false):=Ast l v c
theorem co(H:Hd){f:Nat}{F:NZ (Yr H.p)->Option (NZ (Yr H.r))}(hf:P_.funcs[f]? =some H.f)(h:∀x,H.u P_ x=F x:=by intro x;kernel_rfl)(hT:bW P_ H.T:=by exact Afd _ _ _)(hb:okA P_ H=true:=by kernel_rfl):ConOk P_ H.T.gl f ⟨H.p,H.r,F⟩:=Hd.cn mixed H hf hT hb h
theorem ent66:Ent Tryz.prog 66:=Ent.mk Tryz.func66 F4 rfl
abbrev u2{A B R:Type}(f:A->B->R)(x:A×B):=f x.1 x.2
abbrev u3{A B C R:Type}(f:A->B->C->R):=u2 λa=>u2 (f a)
abbrev u4{A B C D R:Type}(f:A->B->C->D->R):=u2 λa=>u3 (f a)
abbrev u5{A B C D E R:Type}(f:A->B->C->D->E->R):=u2 λa=>u4 (f a)
abbrev u6{A B C D E F R:Type}(f:A->B->C->D->E->F->R):=u2 λa=>u5 (f a)
abbrev u7{A B C D E F G R:Type}(f:A->B->C->D->E->F->G->R):=u2 λa=>u6 (f a)
abbrev u8{A B C D E F G H R:Type}(f:A->B->C->D->E->F->G->H->R):=u2 λa=>u7 (f a)
abbrev u9{A B C D E F G H I R:Type}(f:A->B->C->D->E->F->G->H->I->R):=u2 λa=>u8 (f a)
abbrev u10{A B C D E F G H I J R:Type}(f:A->B->C->D->E->F->G->H->I->J->R):=u2 λa=>u9 (f a)
abbrev u11{A B C D E F G H I J K R:Type}(f:A->B->C->D->E->F->G->H->I->J->K->R):=u2 λa=>u10 (f a)
abbrev u12{A B C D E F G H I J K L R:Type}(f:A->B->C->D->E->F->G->H->I->J->K->L->R):=u2 λa=>u11 (f a)
abbrev u13{A B C D E F G H I J K L M R:Type}(f:A->B->C->D->E->F->G->H->I->J->K->L->M->R):=u2 λa=>u12 (f a)
open Go.Proofs.Tryz
namespace F25
def H:Hd:=⟨[],[.agg [Si,Si]],.d,kt [] false,[],f25⟩
def k:Kc P_ gl:=⟨(25,⟨H.p,H.r,λ_=>TN⟩),co H func25⟩
end F25
namespace F56
abbrev R_:=Bool
def H:Hd:=⟨[.agg [Sc,Si]],[Sz],(.seq .d (.seq (.seq .d (.blk (.cut [1,4,5] [] .d .d))) .d)),kt [] false,[],f56⟩
def k:Kc P_ gl:=⟨(56,⟨H.p,H.r,u2 aQ⟩),co H func56⟩
end F56
namespace F55
def H:Hd:=⟨[.agg [Sc,Si]],[Sz],.d,kt [F56.k] false,[],f55⟩
def k:Kc P_ gl:=⟨(55,⟨H.p,H.r,u2 EX⟩),co H func55⟩
end F55
namespace F29
abbrev R_:=Int
abbrev K_:=S->Option R_
def H:Hd:=⟨[.lf (.list (.cons (.int .u8) (.cons (.int .i64) .nil))) none],[Si],(.seq .d (.seq .d (.cut [] [] (.cut [7] [] (.keep [7] true) .d) .d))),kt [F55.k] false,[(54,(.seq .d (.cut [4] [] (.keep [4,7,8] true) .d))),(93,(.seq .d (.cut [] [] (.seq .d (.blk (.loop [0,1,7,8] [] (.seq .d (.seq .d (.cut [0,1,7,8] [] (.blk (.seq .d (.cut [0,1,5,7,8,16] [] .d .d))) .d)))))) .d)))],f29⟩
def t11(a:List (UInt8×Int×Unit))(b:Int):S:=⟨[(0,.val (.list (.cons (.int .u8) (.cons (.int .i64) .nil))) a),(1,.fn 55 []),(7,vi (Ac a)),(8,vi b)],[],[[(4,vt false)],[]]⟩
def z11:Nat->S->Option R_:=H.i P_ [r,r,l,l,(call 1 54),r,l,(call 2 93),r,l,r,d]
theorem i11(a:List (UInt8×Int×Unit)):∀(q:Nat) (b:Int),z11 q (t11 a b)=Ms a q b:=
 ind (λ_=>by kernel_rfl) λq ih b=>Eq.trans (b:=Xl (HX (λb=>(z11 q) (t11 a b)) a) XR a b) F4 (by simp only[ih]<;>rfl)
def k:Kc P_ gl:=⟨(29,⟨H.p,H.r,ER⟩),co H func29 (λx=>Eq.trans (b:=MU (λa b=>z11 Dg (t11 a b)) x) F4 (by simp only[i11,Bd]<;>rfl))⟩
end F29
namespace F86
def H:Hd:=⟨[Si],[Si,Si],.d,kt [] false,[],f86⟩
def k:Kc P_ gl:=⟨(86,⟨H.p,H.r,Rt⟩),co H func86⟩
end F86
namespace F88
abbrev R_:=(Int32×Int32×Int)
def H:Hd:=⟨[Si],[Sx,Sx,Si],(.seq .d (.seq (.seq .d (.blk (.cut [0,7] [] .d .d))) .d)),kt [] false,[],f88⟩
def k:Kc P_ gl:=⟨(88,⟨H.p,H.r,CT⟩),co H func88⟩
end F88
namespace F87
def H:Hd:=⟨[.agg [Si,Si]],[Si],.d,kt [F88.k] false,[],f87⟩
def k:Kc P_ gl:=⟨(87,⟨H.p,H.r,u2 Tt⟩),co H func87⟩
end F87
namespace F44
def H:Hd:=⟨[.agg [Si,Si],Si,Ss],[Si,Sz],.d,kt [F86.k,F87.k] false,[],f44⟩
def k:Kc P_ gl:=⟨(44,⟨H.p,H.r,u4 VZ⟩),co H func44⟩
end F44
namespace F26
def H:Hd:=⟨[.agg [Si,Si],Si,Ss],[.agg [.agg [Si,Si],Si,Ss,Ob 5,Ow 21,.lf (.list (.list (.int .u8))) (some 22),Ob 5,Sz,Si],Si],.d,kt [F44.k] false,[],f26⟩
def k:Kc P_ gl:=⟨(26,⟨H.p,H.r,u4 vK⟩),co H func26⟩
end F26
namespace F46
def H:Hd:=⟨[.agg [Si,Si]],[Si],.d,kt [] false,[],f46⟩
def k:Kc P_ gl:=⟨(46,⟨H.p,H.r,u2 QN⟩),co H func46⟩
end F46
namespace F137
abbrev R_:=Int
def H:Hd:=⟨[Si,Sw],[Si],(.seq .d (.seq .d (.seq .d (.seq .d (.cut [] [] (.seq .d (.blk (.loop [5,6,22,23,24] [] .d))) .d))))),kt [F88.k] false,[],f137⟩
def t4(b f:Int32)(a:LX)(g:Int):S:=⟨[(5,vx b),(6,vx f),(22,vw a),(23,vi (Ac a)),(24,vi g)],[],[]⟩
def z4:Nat->S->Option R_:=H.i P_ [r,r,r,r,l,r,d]
theorem i4(b f:Int32)(a:LX):∀(q:Nat) (g:Int),z4 q (t4 b f a g)=Qv b f a q g:=
 ind (λ_=>by kernel_rfl) λq ih g=>Eq.trans (b:=DK gI (λg=>(z4 q) (t4 b f a g)) b f a g) F4 (by simp only[ih]<;>rfl)
def k:Kc P_ gl:=⟨(137,⟨H.p,H.r,u2 Wf⟩),co H func137 (λx=>Eq.trans (b:=u2 (RS (λb f a g=>z4 Dg (t4 b f a g))) x) F4 (by simp only[i4,Bd]<;>rfl))⟩
end F137
namespace F49
def H:Hd:=⟨[.agg [.agg [Si,Si],Si,Ss,Sb,Sw,.lf (.list (.list (.int .u8))) none,Sb,Sz,Si],Si],[Si],.d,kt [] false,[],f49⟩
def k:Kc P_ gl:=⟨(49,⟨H.p,H.r,u11 JG⟩),co H func49⟩
end F49
namespace F48
def H:Hd:=⟨[.agg [.agg [Si,Si],Si,Ss,Sb,Sw,.lf (.list (.list (.int .u8))) none,Sb,Sz,Si],Si,Si],[Sz],.d,kt [] false,[],f48⟩
def k:Kc P_ gl:=⟨(48,⟨H.p,H.r,u12 bB⟩),co H func48⟩
end F48
namespace F121
abbrev R_:=Bool
abbrev K_:=S->Option R_
def H:Hd:=⟨[.agg [.agg [Si,Si],Si,Ss,Sb,Sw,.lf (.list (.list (.int .u8))) none,Sb,Sz,Si],Si],[Sz],(.seq .d (.seq .d (.cut [1,2,5] [] .d (.seq .d (.seq .d (.cut [1,2,5,6] [] .d (.cut [1,2,5] [] .d (.seq .d (.cut [4] [] (.keep [4,80,81] true) .d))))))))),kt [F46.k,F48.k,F49.k,F137.k] false,[(151,(.seq .d (.cut [4] [] (.keep [4,7,8] true) .d))),(152,.d),(177,(.seq .d (.cut [] [] (.seq .d (.blk (.loop [0,1,7,8] [] (.seq .d (.seq .d (.cut [0,1,7,8] [] (.blk (.seq .d (.cut [0,1,5,7,8,16] [] (.keep [0,1,5,7,8,16] true) .d))) .d)))))) .d)))],f121⟩
def t16(b:List LB)(f a h:Int):S:=⟨[(0,.val (.list (.list (.int .u8))) b),(1,.fn 152 [.ptr 0 []]),(7,vi (Ac b)),(8,vi h)],[.box 3 (vi (Ae (Cq (Ae (Ce (Ce (81:Int) f) a) (7:Int)) (8:Int)) (4:Int)))],[[(4,vt false)],[]]⟩
def z16:Nat->S->Option R_:=H.i P_ [r,r,r,r,r,r,r,r,l,(call 3 151),r,l,(call 2 177),r,l,r,d]
def x13(f a k o:Int)(p m:LB)(g:LX)(b:List LB)(n:LB)(u:Bool)(v:Int):Option R_:=H.e P_ [r,r,r] ⟨[(1,vi f),(2,.ptr 0 []),(5,vi a)],[.box 61 (.agg [.agg [vi a,vi k],vi o,vs p,vb m,vw g,.val (.list (.list (.int .u8))) b,vb n,vt u,vi v])],[]⟩
theorem i16(b:List LB)(f a:Int):∀(q:Nat) (h:Int),z16 q (t16 b f a h)=Yu b f a q h:=
 ind (λ_=>by kernel_rfl) λq ih h=>Eq.trans (b:=OA (NN (λh=>(z16 q) (t16 b f a h)) b f a) NX b f a h) F4 (by simp only[ih]<;>rfl)
theorem e13:x13=NV:=Eq.trans (b:=OC (NS (NM (λb f a h=>z16 Dg (t16 b f a h))))) F4 (by simp only[i16,Bd]<;>rfl)
def k:Kc P_ gl:=⟨(121,⟨H.p,H.r,u11 cA⟩),co H func121 (λx=>Eq.trans (b:=u11 (QO x13) x) F4 (by simp only[e13]<;>rfl))⟩
end F121
namespace F80
def H:Hd:=⟨[.agg [.agg [Si,Si],Si,Ss,Sb,Sw,.lf (.list (.list (.int .u8))) none,Sb,Sz,Si]],[Si],.d,kt [F44.k,F121.k] false,[],f80⟩
def k:Kc P_ gl:=⟨(80,⟨H.p,H.r,u10 VN⟩),co H func80⟩
end F80
namespace F82
def Nj(a:LB):Option (LB):=
xJ a (
some ([]:LB)) (
(Ck ([]:LB) a).bind λb=>
some b)
theorem MF: @Nj= @Cw:=by
  unfold Nj Cw
  repeat (refine funext λ_=>?_)
  repeat' first
    |with_reducible rfl
    |with_reducible refine Il ?_ ?_
    |with_reducible refine Ib ?_ ?_ ?_
    |with_reducible refine Io ?_ ?_ ?_ ?_
    |((with_reducible refine Ml ?_ ?_);focus (intro h;first|(subst h;rfl)|(simp only[h];rfl)|(simp[Ck,Ac,h];done)))
    |with_reducible refine Mf λx=>?_
    |with_reducible refine Se (λ_=>?_) (λ_=>?_)
    |(refine En (λh=>by simp only[h,Mj,Dn,Dj,ite_self]) (λx h=>?_);(try simp only[h,Dn]))
    |(refine Gm (λh=>?_) (λh=>?_)<;>simp only[h,if_true,if_false,Bool.false_eq_true])
def H:Hd:=⟨[Sb],[Ob 5],.d,kt [] false,[],f82⟩
def k:Kc P_ gl:=⟨(82,⟨H.p,H.r,Cw⟩),co H func82 (λx=>Eq.trans (b:=Nj x) F4 (by simp only[MF]<;>rfl))⟩
end F82
namespace F122
def Ll(a:LX):Option (LX):=
xJ a (
some ([]:LX)) (
(Ck ([]:LX) a).bind λb=>
some b)
theorem GN: @Ll= @Dy:=by
  unfold Ll Dy
  repeat (refine funext λ_=>?_)
  repeat' first
    |with_reducible rfl
    |with_reducible refine Il ?_ ?_
    |with_reducible refine Ib ?_ ?_ ?_
    |with_reducible refine Io ?_ ?_ ?_ ?_
    |((with_reducible refine Ml ?_ ?_);focus (intro h;first|(subst h;rfl)|(simp only[h];rfl)|(simp[Ck,Ac,h];done)))
    |with_reducible refine Mf λx=>?_
    |with_reducible refine Se (λ_=>?_) (λ_=>?_)
    |(refine En (λh=>by simp only[h,Mj,Dn,Dj,ite_self]) (λx h=>?_);(try simp only[h,Dn]))
    |(refine Gm (λh=>?_) (λh=>?_)<;>simp only[h,if_true,if_false,Bool.false_eq_true])
def H:Hd:=⟨[Sw],[Ow 21],.d,kt [] false,[],f122⟩
def k:Kc P_ gl:=⟨(122,⟨H.p,H.r,Dy⟩),co H func122 (λx=>Eq.trans (b:=Ll x) F4 (by simp only[GN]<;>rfl))⟩
end F122
namespace F81
abbrev R_:=(Int×Int×Int×LB×LB×LX×(List LB)×LB×Bool×Int)
def H:Hd:=⟨[.agg [.agg [Si,Si],Si,Ss,Sb,Sw,.lf (.list (.list (.int .u8))) none,Sb,Sz,Si]],[.agg [.agg [Si,Si],Si,Ss,Ob 5,Ow 21,.lf (.list (.list (.int .u8))) (some 22),Ob 5,Sz,Si]],(.seq .d (.cut [1,2] [] .d (.seq .d (.seq .d (.cut [1,2,3] [] (.seq .d (.blk (.loop [1,2,3,26,27] [] .d))) .d))))),kt [F82.k,F122.k] false,[],f81⟩
def t6(w a:List LB)(b f g:Int)(h:LB)(k:Bool)(m:Int)(n:LB)(o:LX)(p:LB)(v:Int)(u:List LB):S:=⟨[(1,.ptr 0 []),(2,.ptr 1 []),(3,.own 2),(26,vi (Ac (hH w a))),(27,vi v)],[.box 61 (.agg [.agg [vi b,vi f],vi g,vs h,.own 3,.own 4,.val (.list (.list (.int .u8))) a,.own 5,vt k,vi m]),.box 61 (.agg [.agg [vi 0,vi 0],vi 0,vs ([]:LB),.nils,.nils,.nils,.nils,vt false,vi 0]),.arr 22 (.list (.int .u8)) u,Ab 5 n,Aw 21 o,Ab 5 p],[]⟩
def z6:Nat->S->Option R_:=H.i P_ [r,r,r,r,l,r,d]
theorem i6(w a:List LB)(b f g:Int)(h:LB)(k:Bool)(m:Int)(n:LB)(o:LX)(p:LB):∀(q:Nat) (v:Int) (u:List LB),z6 q (t6 w a b f g h k m n o p v u)=NI w a b f g h k m n o p q v u:=
 ind (λ_ _=>by kernel_rfl) λq ih v u=>Eq.trans (b:=cP cI (λv u=>(z6 q) (t6 w a b f g h k m n o p v u)) w a b f g h k m n o p v u) F4 (by simp only[ih]<;>rfl)
def k:Kc P_ gl:=⟨(81,⟨H.p,H.r,u10 aM⟩),co H func81 (λx=>Eq.trans (b:=u10 (bU (cK (λw a b f g h k m n o p v u=>z6 Dg (t6 w a b f g h k m n o p v u)))) x) F4 (by simp only[i6,Bd]<;>rfl))⟩
end F81
namespace F45
abbrev R_:=(Int×Int×Int×LB×LB×LX×(List LB)×LB×Bool×Int×Int×Int)
def H:Hd:=⟨[.agg [.agg [Si,Si],Si,Ss,Sb,Sw,.lf (.list (.list (.int .u8))) none,Sb,Sz,Si]],[.agg [.agg [Si,Si],Si,Ss,Ob 5,Ow 21,.lf (.list (.list (.int .u8))) (some 22),Ob 5,Sz,Si],Si,Si],(.seq .d (.seq .d (.seq .d (.cut [1,2,6,7] [] .d .d)))),kt [F80.k,F81.k,F86.k] false,[],f45⟩
def k:Kc P_ gl:=⟨(45,⟨H.p,H.r,u10 WC⟩),co H func45⟩
end F45
namespace F50
abbrev R_:=(LX×Int)
abbrev K_:=S->Option R_
def H:Hd:=⟨[Si,Sb],[Ow 21,Si],(.seq .d (.seq .d (.seq .d (.seq .d (.seq .d (.seq .d (.cut [10] [] (.seq .d (.blk (.loop [0,1,9,10,11] [⟨10,[],.own 21 (.int .i32)⟩] (.seq .d (.cut [0,1,9,10,11] [] (.blk (.seq .d (.seq .d (.cut [0,1,9,10,11,12] [] (.seq .d (.blk (.loop [0,1,9,10,11,12,53,54] [] .d))) .d)))) .d))))) .d))))))),kt [F88.k] false,[],f50⟩
def t25(a:Int)(b:LB)(f:Int)(g:LX)(k:Int32)(h:Int):S:=⟨[(0,vi a),(1,vb b),(9,vi (Cq a (8:Int))),(10,.own 0),(11,vi f),(12,vx k),(53,vi (Cq a (8:Int))),(54,vi h)],[Aw 21 g],[]⟩
def z25(Lq:K_):Nat->S->Option R_:=H.i P_ [r,r,r,r,r,r,l,r,d,(lp Lq),r,l,d,r,r,l,r,d]
def t16(a:Int)(b:LB)(f:Int)(g:LX):S:=⟨[(0,vi a),(1,vb b),(9,vi (Cq a (8:Int))),(10,.own 0),(11,vi f)],[Aw 21 g],[]⟩
def z16:Nat->S->Option R_:=H.i P_ [r,r,r,r,r,r,l,r,d]
def x25(Lq:K_)(a:Int)(b:LB)(f:Int)(g:LX)(k:Int32)(h:Int):Option R_:=H.e P_ [r,r,r,r,r,r,l,r,d,(lp Lq),r,l,d,r,r,l,r,d] (t25 a b f g k h)
theorem i25(Lq:K_)(a:Int)(b:LB)(f:Int)(g:LX):∀(q:Nat) (k:Int32) (h:Int),z25 Lq q (t25 a b f g k h)=FN (λf g=>Lq (t16 a b f g)) a b f g q k h:=
 ind (λ_ _=>by kernel_rfl) λq ih k h=>Eq.trans (b:=TY (UE (λf g=>Lq (t16 a b f g)) a b) (λk h=>(z25 Lq q) (t25 a b f g k h)) a b f g k h) F4 (by simp only[ih]<;>rfl)
theorem e25(Lq:K_)(a:Int)(b:LB):x25 Lq a b=US (λf g=>Lq (t16 a b f g)) a b:=by funext f g k h;exact Eq.trans F4 ((i25 Lq a b f g Dg k h).trans (by rw[Bd];rfl))
theorem i16(a:Int)(b:LB):∀(q:Nat) (f:Int) (g:LX),z16 q (t16 a b f g)=Vp a b q f g:=
 ind (λ_ _=>by kernel_rfl) λq ih f g=>Eq.trans (b:=VC (DX (λf g=>(z16 q) (t16 a b f g)) a b) (x25 (z16 q) a b) UF a b f g) F4 (by simp only[e25,ih]<;>rfl)
def k:Kc P_ gl:=⟨(50,⟨H.p,H.r,u2 kW⟩),co H func50 (λx=>Eq.trans (b:=u2 (XN (λa b f g=>z16 Dg (t16 a b f g))) x) F4 (by simp only[i16,Bd]<;>rfl))⟩
end F50
namespace F153
abbrev R_:=(UInt64×Int)
abbrev K_:=S->Option R_
def H:Hd:=⟨[Sq,Sb],[Sq,Si],(.seq .d (.seq .d (.cut [4,5] [] (.keep [0,1,4,5,9,10,11,12] true) .d))),kt [] false,[(178,(.seq .d (.cut [1] [] (.seq .d (.blk (.loop [0,1,9,10,11] [] .d))) .d))),(179,(.seq .d (.seq .d (.cut [1] [] (.seq .d (.blk (.loop [1,5] [] (.seq .d (.seq .d (.cut [1,5] [] (.blk (.seq .d (.seq .d (.cut [1,2,3,5] [] (.seq .d (.blk (.loop [1,2,3,5,11] [] .d))) .d)))) .d)))))) .d))))],f153⟩
def t27(a:LB)(b:UInt64)(f:LQ)(h:UInt64)(m:Int):S:=⟨[(0,.ptr 0 []),(1,vq h),(9,vb a),(10,vi (Ac a)),(11,vi m)],[.box 284 (.val (.vec 256 (.int .u64)) f)],[[(0,vq b),(1,vb a),(4,vq 0),(5,vi 0),(9,.ptr 0 []),(10,vq b),(11,vb a)]]⟩
def z27:Nat->S->Option R_:=H.i P_ [r,r,l,(call 3 178),r,l,r,d]
def t21(b:UInt64)(a:LB)(g:Int)(f:LQ)(k:UInt64)(n:Int):S:=⟨[(1,.ptr 0 []),(2,vi g),(3,vq k),(5,vi g),(11,vi n)],[.box 284 (.val (.vec 256 (.int .u64)) f)],[[(0,vq b),(1,vb a),(4,vq 0),(5,vi 0)]]⟩
def z21(Lq:K_):Nat->S->Option R_:=H.i P_ [r,r,l,(call 0 179),r,r,l,r,d,(lp Lq),r,r,l,d,r,r,l,r,d]
def t16(b:UInt64)(a:LB)(g:Int)(f:LQ):S:=⟨[(1,.ptr 0 []),(5,vi g)],[.box 284 (.val (.vec 256 (.int .u64)) f)],[[(0,vq b),(1,vb a),(4,vq 0),(5,vi 0)]]⟩
def z16:Nat->S->Option R_:=H.i P_ [r,r,l,(call 0 179),r,r,l,r,d]
def x27(a:LB)(b:UInt64)(f:LQ)(h:UInt64)(m:Int):Option R_:=H.e P_ [r,r,l,(call 3 178),r,l,r,d] (t27 a b f h m)
def x21(Lq:K_)(b:UInt64)(a:LB)(g:Int)(f:LQ)(k:UInt64)(n:Int):Option R_:=H.e P_ [r,r,l,(call 0 179),r,r,l,r,d,(lp Lq),r,r,l,d,r,r,l,r,d] (t21 b a g f k n)
theorem i27(a:LB)(b:UInt64)(f:LQ):∀(q:Nat) (h:UInt64) (m:Int),z27 q (t27 a b f h m)=Ra a b f q h m:=
 ind (λ_ _=>by kernel_rfl) λq ih h m=>Eq.trans (b:=ED RR (λh m=>(z27 q) (t27 a b f h m)) a b f h m) F4 (by simp only[ih]<;>rfl)
theorem e27:x27=QP:=by funext a b f h m;exact Eq.trans F4 ((i27 a b f Dg h m).trans (by rw[Bd];rfl))
theorem i21(Lq:K_)(b:UInt64)(a:LB)(g:Int)(f:LQ):∀(q:Nat) (k:UInt64) (n:Int),z21 Lq q (t21 b a g f k n)=Ri (λg f=>Lq (t16 b a g f)) b a g f q k n:=
 ind (λ_ _=>by kernel_rfl) λq ih k n=>Eq.trans (b:=DD (DR (λg f=>Lq (t16 b a g f)) b a) (λk n=>(z21 Lq q) (t21 b a g f k n)) b a g f k n) F4 (by simp only[ih]<;>rfl)
theorem e21(Lq:K_)(b:UInt64)(a:LB):x21 Lq b a=SL (λg f=>Lq (t16 b a g f)) b a:=by funext g f k n;exact Eq.trans F4 ((i21 Lq b a g f Dg k n).trans (by rw[Bd];rfl))
theorem i16(b:UInt64)(a:LB):∀(q:Nat) (g:Int) (f:LQ),z16 q (t16 b a g f)=Nt b a q g f:=
 ind (λ_ _=>by kernel_rfl) λq ih g f=>Eq.trans (b:=EG (x21 (z16 q) b a) (QE x27) b a g f) F4 (by simp only[e21,e27,ih]<;>rfl)
def k:Kc P_ gl:=⟨(153,⟨H.p,H.r,u2 aV⟩),co H func153 (λx=>Eq.trans (b:=u2 (WB (λb a g f=>z16 Dg (t16 b a g f))) x) F4 (by simp only[i16,Bd]<;>rfl))⟩
end F153
namespace F123
def H:Hd:=⟨[Sb],[Sq,Si],.d,kt [F153.k] false,[],f123⟩
def k:Kc P_ gl:=⟨(123,⟨H.p,H.r,XH⟩),co H func123⟩
end F123
namespace F124
abbrev R_:=LX
def H:Hd:=⟨[Sq],[.lf (.vec 16 (.int .i32)) none],(.seq .d (.seq .d (.cut [2,3] [] (.seq .d (.blk (.loop [0,2,3,5] [] .d))) .d))),kt [] false,[],f124⟩
def t4(f:UInt64)(a:Int)(b:LX):S:=⟨[(0,vq f),(2,.ptr 0 []),(3,.ptr 1 []),(5,vi a)],[.box 140 (.val (.vec 16 (.int .i32)) (List.replicate 16 (0:Int32))),.box 140 (.val (.vec 16 (.int .i32)) b)],[]⟩
def z4:Nat->S->Option R_:=H.i P_ [r,r,l,r,d]
theorem i4(f:UInt64):∀(q:Nat) (a:Int) (b:LX),z4 q (t4 f a b)=IX f q a b:=
 ind (λ_ _=>by kernel_rfl) λq ih a b=>Eq.trans (b:=bK yV (λa b=>(z4 q) (t4 f a b)) f a b) F4 (by simp only[ih]<;>rfl)
def k:Kc P_ gl:=⟨(124,⟨H.p,H.r,U4⟩),co H func124 (λx=>Eq.trans (b:=E8 (λf a b=>z4 Dg (t4 f a b)) x) F4 (by simp only[i4,Bd]<;>rfl))⟩
end F124
namespace F89
def H:Hd:=⟨[Ss],[.lf (.vec 16 (.int .i32)) none,Si],.d,kt [F123.k,F124.k] false,[],f89⟩
def k:Kc P_ gl:=⟨(89,⟨H.p,H.r,Tv⟩),co H func89⟩
end F89
namespace F154
def H:Hd:=⟨[.agg [Si,Si],Sw],[Si],.d,kt [F87.k,F137.k] false,[],f154⟩
def k:Kc P_ gl:=⟨(154,⟨H.p,H.r,u3 kU⟩),co H func154⟩
end F154
namespace F180
def H:Hd:=⟨[Si,Sw],[Si],.d,kt [] false,[],f180⟩
def k:Kc P_ gl:=⟨(180,⟨H.p,H.r,u2 XY⟩),co H func180⟩
end F180
namespace F155
abbrev R_:=(LX×Int)
abbrev K_:=S->Option R_
def H:Hd:=⟨[Si,Sw],[Ow 21,Si],(.seq .d (.seq .d (.seq .d (.cut [7] [] (.seq .d (.blk (.loop [0,7,8] [] (.seq .d (.cut [0,7,8] [] (.blk (.keep [0,7,8,24,25,26,27,28,29] true)) .d))))) .d)))),kt [F122.k,F180.k] true,[(181,(.seq .d (.cut [0,2] [] (.seq .d (.blk (.loop [0,2,7,8] [] .d))) .d)))],f155⟩
def t17(b a f:Int)(g:LX):S:=⟨[(0,.view true 0 [] (.int .i32) a ((Ae a b)-a)),(2,vi (Al ((Ae a b)-a) (1:Int))),(7,vi (Al ((Ae a b)-a) (1:Int))),(8,vi f)],[Aw 21 g],[[(0,vi b),(7,.own 0),(8,vi a),(24,.own 0),(25,vi a),(26,vi a),(27,vi b),(28,vi (Ae a b)),(29,.view true 0 [] (.int .i32) a ((Ae a b)-a))]]⟩
def z17(NK:K_):Nat->S->Option R_:=H.i P_ [r,r,r,l,r,d,(lp NK),r,l,d,(call 6 181),r,l,r,d]
def t12(b a:Int)(h:LX):S:=⟨[(0,vi b),(7,.own 0),(8,vi a)],[Aw 21 h],[]⟩
def z12:Nat->S->Option R_:=H.i P_ [r,r,r,l,r,d]
def x17(NK:K_)(b a f:Int)(g:LX):Option R_:=H.e P_ [r,r,r,l,r,d,(lp NK),r,l,d,(call 6 181),r,l,r,d] (t17 b a f g)
theorem i17(NK:K_)(b a:Int):∀(q:Nat) (f:Int) (g:LX),z17 NK q (t17 b a f g)=gH (λa h=>NK (t12 b a h)) b a q f g:=
 ind (λ_ _=>by kernel_rfl) λq ih f g=>Eq.trans (b:=uE (uI (λa h=>NK (t12 b a h)) b) (λf g=>(z17 NK q) (t17 b a f g)) b a f g) F4 (by simp only[ih]<;>rfl)
theorem e17(NK:K_)(b:Int):x17 NK b=uT (λa h=>NK (t12 b a h)) b:=by funext a f g;exact Eq.trans F4 ((i17 NK b a Dg f g).trans (by rw[Bd];rfl))
theorem i12(b:Int):∀(q:Nat) (a:Int) (h:LX),z12 q (t12 b a h)=iB b q a h:=
 ind (λ_ _=>by kernel_rfl) λq ih a h=>Eq.trans (b:=uN (x17 (z12 q) b) uF b a h) F4 (by simp only[e17,ih]<;>rfl)
def k:Kc P_ gl:=⟨(155,⟨H.p,H.r,u2 Aff⟩),co H func155 (λx=>Eq.trans (b:=u2 (zU (λb a h=>z12 Dg (t12 b a h))) x) F4 (by simp only[i12,Bd]<;>rfl))⟩
end F155
namespace F182
abbrev R_:=(Int×LX×LX×Int)
def H:Hd:=⟨[Si,.lf (.vec 16 (.int .i32)) none],[.agg [Si,.lf (.vec 16 (.int .i32)) none,.lf (.vec 16 (.int .i32)) none],Si],(.seq .d (.seq .d (.seq (.seq .d (.blk (.cut [4,6,9,11] [] .d .d))) .d))),kt [] false,[],f182⟩
def k:Kc P_ gl:=⟨(182,⟨H.p,H.r,u2 qA⟩),co H func182⟩
end F182
namespace F156
def H:Hd:=⟨[Si,.lf (.vec 16 (.int .i32)) none],[.agg [Si,Sx,.agg [Si,.lf (.vec 16 (.int .i32)) none,.lf (.vec 16 (.int .i32)) none]],Si],.d,kt [F182.k] false,[],f156⟩
def k:Kc P_ gl:=⟨(156,⟨H.p,H.r,u2 tY⟩),co H func156⟩
end F156
namespace F183
def H:Hd:=⟨[.agg [Si,Sx,.agg [Si,.lf (.vec 16 (.int .i32)) none,.lf (.vec 16 (.int .i32)) none]]],[Si],.d,kt [F182.k] false,[],f183⟩
def k:Kc P_ gl:=⟨(183,⟨H.p,H.r,u5 Wd⟩),co H func183⟩
end F183
namespace F197
def H:Hd:=⟨[Si],[Si,Si],.d,kt [] false,[],f197⟩
def k:Kc P_ gl:=⟨(197,⟨H.p,H.r,fP⟩),co H func197⟩
end F197
namespace F198
def H:Hd:=⟨[Si,Sx],[Sx],.d,kt [] false,[],f198⟩
def k:Kc P_ gl:=⟨(198,⟨H.p,H.r,u2 TC⟩),co H func198⟩
end F198
namespace F184
def H:Hd:=⟨[Si,Sx],[Sx,Si],.d,kt [F197.k,F198.k] false,[],f184⟩
def k:Kc P_ gl:=⟨(184,⟨H.p,H.r,u2 Wg⟩),co H func184⟩
end F184
namespace F204
def H:Hd:=⟨[.agg [Si,.lf (.vec 16 (.int .i32)) none,.lf (.vec 16 (.int .i32)) none]],[Si],.d,kt [] false,[],f204⟩
def k:Kc P_ gl:=⟨(204,⟨H.p,H.r,u3 IU⟩),co H func204⟩
end F204
namespace F199
abbrev R_:=(Int32×Int)
def H:Hd:=⟨[.agg [Si,.lf (.vec 16 (.int .i32)) none,.lf (.vec 16 (.int .i32)) none]],[Sx,Si],(.seq .d (.seq .d (.seq .d (.cut [1,5] [] (.seq .d (.blk (.loop [1,5,18,19] [] .d))) .d)))),kt [F204.k] false,[],f199⟩
def t4(b:LX)(a:Int)(f:LX)(h:Int32)(g:Int):S:=⟨[(1,.ptr 0 []),(5,vx h),(18,.val (.vec 16 (.int .i32)) b),(19,vi g)],[.box 232 (.agg [vi a,.val (.vec 16 (.int .i32)) b,.val (.vec 16 (.int .i32)) f])],[]⟩
def z4:Nat->S->Option R_:=H.i P_ [r,r,r,l,r,d]
theorem i4(b:LX)(a:Int)(f:LX):∀(q:Nat) (h:Int32) (g:Int),z4 q (t4 b a f h g)=Tu b a f q h g:=
 ind (λ_ _=>by kernel_rfl) λq ih h g=>Eq.trans (b:=JJ VQ (λh g=>(z4 q) (t4 b a f h g)) b a f h g) F4 (by simp only[ih]<;>rfl)
def k:Kc P_ gl:=⟨(199,⟨H.p,H.r,u3 RN⟩),co H func199 (λx=>Eq.trans (b:=u3 (VM (λb a f h g=>z4 Dg (t4 b a f h g))) x) F4 (by simp only[i4,Bd]<;>rfl))⟩
end F199
namespace F209
def H:Hd:=⟨[Si],[Sx],.d,kt [] false,[],f209⟩
def k:Kc P_ gl:=⟨(209,⟨H.p,H.r,XB⟩),co H func209⟩
end F209
namespace F205
abbrev R_:=(Int×LX×LX×Int)
def H:Hd:=⟨[.agg [Si,.lf (.vec 16 (.int .i32)) none,.lf (.vec 16 (.int .i32)) none],Sx],[.agg [Si,.lf (.vec 16 (.int .i32)) none,.lf (.vec 16 (.int .i32)) none],Si],(.seq .d (.seq .d (.seq .d (.cut [2,4] [] (.seq .d (.blk (.loop [1,2,4,19,20] [] .d))) .d)))),kt [F204.k,F209.k] false,[],f205⟩
def t4(h:Int32)(f:LX)(g a:Int)(b:LX):S:=⟨[(1,vx h),(2,.ptr 0 []),(4,.ptr 1 []),(19,.val (.vec 16 (.int .i32)) f),(20,vi a)],[.box 232 (.agg [vi g,.val (.vec 16 (.int .i32)) b,.val (.vec 16 (.int .i32)) f]),.box 232 (.agg [vi 0,.val (.vec 16 (.int .i32)) (List.replicate 16 (0:Int32)),.val (.vec 16 (.int .i32)) (List.replicate 16 (0:Int32))])],[]⟩
def z4:Nat->S->Option R_:=H.i P_ [r,r,r,l,r,d]
theorem i4(h:Int32)(f:LX)(g:Int):∀(q:Nat) (a:Int) (b:LX),z4 q (t4 h f g a b)=To h f g q a b:=
 ind (λ_ _=>by kernel_rfl) λq ih a b=>Eq.trans (b:=JK lG (λa b=>(z4 q) (t4 h f g a b)) h f g a b) F4 (by simp only[ih]<;>rfl)
def k:Kc P_ gl:=⟨(205,⟨H.p,H.r,u4 bL⟩),co H func205 (λx=>Eq.trans (b:=u4 (VY (λh f g a b=>z4 Dg (t4 h f g a b))) x) F4 (by simp only[i4,Bd]<;>rfl))⟩
end F205
namespace F206
def VH(j2:Int32->Int->LX->LX->Option (Int×LX×LX×Int))(b:Int)(f a:LX)(g:Int32):Option (Int×LX×LX×Int):=
(IU b f a).bind λh=>
if(Bi h 0)then
some (0,(List.replicate 16 (0:Int32)),(List.replicate 16 (0:Int32)),h)
else
both (
(aK 16 1 16).bind λ_=>
(aK 16 0 16).bind λ_=>
j2 g b f a) [
(aK 16 0 16).bind λ_=>
(aK 16 1 16).bind λ_=>
j2 g b f a]
theorem tT: @VH= @OZ:=by
  unfold VH OZ
  repeat (refine funext λ_=>?_)
  repeat' first
    |with_reducible rfl
    |with_reducible refine Il ?_ ?_
    |with_reducible refine Ib ?_ ?_ ?_
    |with_reducible refine Io ?_ ?_ ?_ ?_
    |((with_reducible refine Ml ?_ ?_);focus (intro h;first|(subst h;rfl)|(simp only[h];rfl)|(simp[Ck,Ac,h];done)))
    |with_reducible refine Mf λx=>?_
    |with_reducible refine Se (λ_=>?_) (λ_=>?_)
    |(refine En (λh=>by simp only[h,Mj,Dn,Dj,ite_self]) (λx h=>?_);(try simp only[h,Dn]))
    |(refine Gm (λh=>?_) (λh=>?_)<;>simp only[h,if_true,if_false,Bool.false_eq_true])
abbrev R_:=(Int×LX×LX×Int)
def H:Hd:=⟨[.agg [Si,.lf (.vec 16 (.int .i32)) none,.lf (.vec 16 (.int .i32)) none],Sx],[.agg [Si,.lf (.vec 16 (.int .i32)) none,.lf (.vec 16 (.int .i32)) none],Si],(.seq .d (.seq .d (.cut [1,2,4] [] .d .d))),kt [F204.k] false,[],f206⟩
def k:Kc P_ gl:=⟨(206,⟨H.p,H.r,u4 jI⟩),co H func206 (λx=>Eq.trans (b:=u4 (VH aO) x) F4 (by simp only[tT]<;>rfl))⟩
end F206
namespace F200
def H:Hd:=⟨[.agg [Si,.lf (.vec 16 (.int .i32)) none,.lf (.vec 16 (.int .i32)) none],Sx,Sx],[.agg [Si,.lf (.vec 16 (.int .i32)) none,.lf (.vec 16 (.int .i32)) none]],.d,kt [F205.k,F206.k] false,[],f200⟩
def k:Kc P_ gl:=⟨(200,⟨H.p,H.r,u5 ZI⟩),co H func200⟩
end F200
namespace F185
def H:Hd:=⟨[.agg [Si,.lf (.vec 16 (.int .i32)) none,.lf (.vec 16 (.int .i32)) none],Sx],[Sx,.agg [Si,.lf (.vec 16 (.int .i32)) none,.lf (.vec 16 (.int .i32)) none],Si],.d,kt [F199.k,F200.k] false,[],f185⟩
def k:Kc P_ gl:=⟨(185,⟨H.p,H.r,u4 iL⟩),co H func185⟩
end F185
namespace F157
def FZ(a:Int)(b:Int32)(f:Int)(g h:LX)(k:Int32):Option (Int32×Int×Int32×Int×LX×LX×Int):=
(Wd a b f g h).bind λm=>
if(Bi m 0)then
some (0,0,0,0,(List.replicate 16 (0:Int32)),(List.replicate 16 (0:Int32)),m)
else
(Wg a b).bind λ(n,y)=>
(iL f g h (Al k n)).bind λ(o,p,u,v,w)=>
bo (
some (o,a,k,p,u,v,w))
theorem gP: @FZ= @JE:=by
  unfold FZ JE;simp only[MC,Vq,Wr]
def H:Hd:=⟨[.agg [Si,Sx,.agg [Si,.lf (.vec 16 (.int .i32)) none,.lf (.vec 16 (.int .i32)) none]],Sx],[Sx,.agg [Si,Sx,.agg [Si,.lf (.vec 16 (.int .i32)) none,.lf (.vec 16 (.int .i32)) none]],Si],(.seq .d (.seq .d (.seq .d (.seq .d (.seq (.mode false) .d))))),kt [F183.k,F184.k,F185.k] false,[],f157⟩
def k:Kc P_ gl:=⟨(157,⟨H.p,H.r,u6 JE⟩),co H func157 (λx=>Eq.trans (b:=u6 FZ x) F4 (by simp only[gP]<;>rfl))⟩
end F157
namespace F158
def H:Hd:=⟨[Sx],[Su],.d,kt [] false,[],f158⟩
def k:Kc P_ gl:=⟨(158,⟨H.p,H.r,O5⟩),co H func158⟩
end F158
namespace F125
abbrev R_:=(LU×Int)
def H:Hd:=⟨[.agg [Si,Si],.lf (.vec 16 (.int .i32)) none,Sw],[Ov 162,Si],(.seq .d (.seq .d (.seq .d (.seq .d (.seq .d (.cut [3,9,11] [] (.seq .d (.blk (.loop [3,4,9,11,36] [] .d))) (.seq .d (.cut [13] [] (.seq .d (.blk (.loop [3,11,13,49,50,51] [⟨13,[],.own 162 (.int .u32)⟩] .d))) .d)))))))),kt [F154.k,F155.k,F156.k,F157.k,F158.k] false,[],f125⟩
def t10(b:LX)(a f g:Int)(k:List (Int×Int32×(Int×LX×LX×Unit)×Unit))(h:LU):S:=⟨[(3,.ptr 0 []),(11,.ptr 1 []),(13,.own 2),(49,.own 3),(50,vi (Ac b)),(51,vi g)],[.box 57 (.agg [vi a,vi f]),.box 235 (.val (.vec 6 (.cons (.int .i64) (.cons (.int .i32) (.cons (.cons (.int .i64) (.cons (.vec 16 (.int .i32)) (.cons (.vec 16 (.int .i32)) .nil))) .nil)))) k),Av 162 h,Aw 21 b],[]⟩
def z10:Nat->S->Option R_:=H.i P_ [r,r,r,r,r,r,r,l,r,d]
def t7(a f:Int)(n b:LX)(o:Int)(m:List (Int×Int32×(Int×LX×LX×Unit)×Unit)):S:=⟨[(3,.ptr 0 []),(4,.ptr 1 []),(9,.own 2),(11,.ptr 3 []),(36,vi o)],[.box 57 (.agg [vi a,vi f]),.box 140 (.val (.vec 16 (.int .i32)) n),Aw 21 b,.box 235 (.val (.vec 6 (.cons (.int .i64) (.cons (.int .i32) (.cons (.cons (.int .i64) (.cons (.vec 16 (.int .i32)) (.cons (.vec 16 (.int .i32)) .nil))) .nil)))) m)],[]⟩
def z7:Nat->S->Option R_:=H.i P_ [r,r,r,r,r,l,r,d]
def x10(b:LX)(a f g:Int)(k:List (Int×Int32×(Int×LX×LX×Unit)×Unit))(h:LU):Option R_:=H.e P_ [r,r,r,r,r,r,r,l,r,d] (t10 b a f g k h)
theorem i10(b:LX)(a f:Int):∀(q:Nat) (g:Int) (k:List (Int×Int32×(Int×LX×LX×Unit)×Unit)) (h:LU),z10 q (t10 b a f g k h)=AT b a f q g k h:=
 ind (λ_ _ _=>by kernel_rfl) λq ih g k h=>Eq.trans (b:=SK SU (λg k h=>(z10 q) (t10 b a f g k h)) b a f g k h) F4 (by simp only[ih]<;>rfl)
theorem e10:x10=QI:=by funext b a f g k h;exact Eq.trans F4 ((i10 b a f Dg g k h).trans (by rw[Bd];rfl))
theorem i7(a f:Int)(n b:LX):∀(q:Nat) (o:Int) (m:List (Int×Int32×(Int×LX×LX×Unit)×Unit)),z7 q (t7 a f n b o m)=EH a f n b q o m:=
 ind (λ_ _=>by kernel_rfl) λq ih o m=>Eq.trans (b:=TE (TA x10) (λo m=>(z7 q) (t7 a f n b o m)) a f n b o m) F4 (by simp only[e10,ih]<;>rfl)
def k:Kc P_ gl:=⟨(125,⟨H.p,H.r,u4 eY⟩),co H func125 (λx=>Eq.trans (b:=u4 (TQ (λa f n b o m=>z7 Dg (t7 a f n b o m))) x) F4 (by simp only[i7,Bd]<;>rfl))⟩
end F125
namespace F159
def H:Hd:=⟨[],[.agg [Si,Si,Sq,Sq]],.d,kt [] false,[],f159⟩
def k:Kc P_ gl:=⟨(159,⟨H.p,H.r,λ_=>nR⟩),co H func159⟩
end F159
namespace F126
abbrev R_:=((List (Int×Int×UInt64×UInt64×Unit)))
def H:Hd:=⟨[],[.lf (.vec 6 (.cons (.int .i64) (.cons (.int .i64) (.cons (.int .u64) (.cons (.int .u64) .nil))))) none],(.seq .d (.seq .d (.cut [0,1] [] (.seq .d (.blk (.loop [0,1,3] [] .d))) .d))),kt [F159.k] false,[],f126⟩
def t4(b:Int)(a:List (Int×Int×UInt64×UInt64×Unit)):S:=⟨[(0,.ptr 0 []),(1,.ptr 1 []),(3,vi b)],[.box 194 (.val (.vec 6 (.cons (.int .i64) (.cons (.int .i64) (.cons (.int .u64) (.cons (.int .u64) .nil))))) (List.replicate 6 ((0:Int),(0:Int),(0:UInt64),(0:UInt64),()))),.box 194 (.val (.vec 6 (.cons (.int .i64) (.cons (.int .i64) (.cons (.int .u64) (.cons (.int .u64) .nil))))) a)],[]⟩
def z4:Nat->S->Option R_:=H.i P_ [r,r,l,r,d]
theorem i4:∀(q:Nat) (b:Int) (a:List (Int×Int×UInt64×UInt64×Unit)),z4 q (t4 b a)=CY q b a:=
 ind (λ_ _=>by kernel_rfl) λq ih b a=>Eq.trans (b:=UZ UP (λb a=>(z4 q) (t4 b a)) b a) F4 (by simp only[ih]<;>rfl)
def k:Kc P_ gl:=⟨(126,⟨H.p,H.r,λ_=>gD⟩),co H func126 (λx=>Eq.trans (b:=TO (λb a=>z4 Dg (t4 b a))) F4 (by simp only[i4,Bd]<;>rfl))⟩
end F126
namespace F160
def H:Hd:=⟨[.agg [Sb,Si]],[Si],.d,kt [] false,[],f160⟩
def k:Kc P_ gl:=⟨(160,⟨H.p,H.r,u2 Kk⟩),co H func160⟩
end F160
namespace F161
def QV(j4:Int->Int->UInt64->UInt64->Option Int)(a b:Int)(f g:UInt64):Option Int:=
both (
bo (
j4 a b f g)) [
j4 a b f g]
theorem oV: @QV= @JF:=by
  unfold QV JF
  repeat (refine funext λ_=>?_)
  repeat' first
    |with_reducible rfl
    |with_reducible refine Il ?_ ?_
    |with_reducible refine Ib ?_ ?_ ?_
    |with_reducible refine Io ?_ ?_ ?_ ?_
    |((with_reducible refine Ml ?_ ?_);focus (intro h;first|(subst h;rfl)|(simp only[h];rfl)|(simp[Ck,Ac,h];done)))
    |with_reducible refine Mf λx=>?_
    |with_reducible refine Se (λ_=>?_) (λ_=>?_)
    |(refine En (λh=>by simp only[h,Mj,Dn,Dj,ite_self]) (λx h=>?_);(try simp only[h,Dn]))
    |(refine Gm (λh=>?_) (λh=>?_)<;>simp only[h,if_true,if_false,Bool.false_eq_true])
def PX(j3:Int->Int->UInt64->UInt64->Option Int)(a b:Int)(f g:UInt64):Option Int:=
both (
bo (
j3 a b f g)) [
j3 a b f g]
theorem pT: @PX= @JL:=by
  unfold PX JL
  repeat (refine funext λ_=>?_)
  repeat' first
    |with_reducible rfl
    |with_reducible refine Il ?_ ?_
    |with_reducible refine Ib ?_ ?_ ?_
    |with_reducible refine Io ?_ ?_ ?_ ?_
    |((with_reducible refine Ml ?_ ?_);focus (intro h;first|(subst h;rfl)|(simp only[h];rfl)|(simp[Ck,Ac,h];done)))
    |with_reducible refine Mf λx=>?_
    |with_reducible refine Se (λ_=>?_) (λ_=>?_)
    |(refine En (λh=>by simp only[h,Mj,Dn,Dj,ite_self]) (λx h=>?_);(try simp only[h,Dn]))
    |(refine Gm (λh=>?_) (λh=>?_)<;>simp only[h,if_true,if_false,Bool.false_eq_true])
abbrev R_:=Int
def H:Hd:=⟨[.agg [Si,Si,Sq,Sq]],[Si],(.seq .d (.seq .d (.cut [1,3] [] (.mode false) (.cut [1,3] [] (.mode false) .d)))),kt [] false,[],f161⟩
def x3(a b:Int)(f g:UInt64):Option R_:=H.e P_ [r,r,r] ⟨[(1,.ptr 0 []),(3,.ptr 1 [])],[.box 193 (.agg [vi a,vi b,vq f,vq g]),.box 193 (.agg [vi (Dx (oZ a (0:Int)) (24:Int)),vi (Dx (oZ b (0:Int)) (24:Int)),vq f,vq g])],[]⟩
theorem e3:x3=WG:=Eq.trans (b:=QV VJ) F4 (by rw[oV];rfl)
def k:Kc P_ gl:=⟨(161,⟨H.p,H.r,u4 RZ⟩),co H func161 (λx=>Eq.trans (b:=u4 (PX x3) x) F4 (by rw[pT];simp only[e3]<;>rfl))⟩
end F161
namespace F162
def H:Hd:=⟨[.agg [Si,Si,Sq,Sq],Su],[Si,Su],.d,kt [] false,[],f162⟩
def k:Kc P_ gl:=⟨(162,⟨H.p,H.r,u5 IY⟩),co H func162⟩
end F162
namespace F186
def H:Hd:=⟨[.agg [Sb,Si]],[.agg [Ob 5,Si]],.d,kt [F82.k] false,[],f186⟩
def k:Kc P_ gl:=⟨(186,⟨H.p,H.r,u2 sN⟩),co H func186⟩
end F186
namespace F163
abbrev R_:=(LB×Int×Int)
abbrev K_:=S->Option R_
def H:Hd:=⟨[.agg [Sb,Si],Sq,Si],[.agg [Ob 5,Si],Si],(.seq .d (.seq .d (.seq .d (.cut [3,6] [] (.keep [1,2,3,6,40,41] true) .d)))),kt [F160.k,F186.k] false,[(187,(.blk (.loop [0,1,2] [] (.seq .d (.blk (.cut [0,1,2] [] .d (.seq .d (.cut [0,1,2,7] [] .d .d))))))))],f163⟩
def t15(b:UInt64)(a:Int)(m:UInt64)(h f:Int)(o:LB):S:=⟨[(0,.ptr 0 []),(1,vq m),(2,vi h)],[.box 197 (.agg [.own 2,vi f]),.box 197 (.agg [.nils,vi 0]),Ab 5 o],[[(1,vq b),(2,vi a),(3,.ptr 0 []),(6,.ptr 1 []),(40,vq b),(41,vi a)]]⟩
def z15:Nat->S->Option R_:=H.i P_ [r,r,r,l,(call 2 187),d]
def t22(b:UInt64)(a:Int)(n:UInt64)(k g:Int)(p:LB):S:=⟨[(0,.ptr 0 []),(1,vq n),(2,vi k)],[.box 197 (.agg [.own 2,vi g]),.box 197 (.agg [.nils,vi 0]),Ab 5 p],[[(1,vq b),(2,vi a),(3,.ptr 0 []),(6,.ptr 1 []),(40,vq b),(41,vi a)]]⟩
def z22:Nat->S->Option R_:=H.i P_ [r,r,r,l,(call 2 187),d]
theorem i15(b:UInt64)(a:Int):∀(q:Nat) (m:UInt64) (h f:Int) (o:LB),z15 q (t15 b a m h f o)=ZM b a q m h f o:=
 ind (λ_ _ _ _=>by kernel_rfl) λq ih m h f o=>Eq.trans (b:=pG (pB (λm h f o=>(z15 q) (t15 b a m h f o)) b a) oP b a m h f o) F4 (by simp only[ih]<;>rfl)
theorem i22(b:UInt64)(a:Int):∀(q:Nat) (n:UInt64) (k g:Int) (p:LB),z22 q (t22 b a n k g p)=aB b a q n k g p:=
 ind (λ_ _ _ _=>by kernel_rfl) λq ih n k g p=>Eq.trans (b:=nX (pV (λn k g p=>(z22 q) (t22 b a n k g p)) b a) qW b a n k g p) F4 (by simp only[ih]<;>rfl)
def k:Kc P_ gl:=⟨(163,⟨H.p,H.r,u4 gJ⟩),co H func163 (λx=>Eq.trans (b:=u4 (uS (λb a m h f o=>z15 Dg (t15 b a m h f o)) (λb a n k g p=>z22 Dg (t22 b a n k g p))) x) F4 (by simp only[i15,i22,Bd]<;>rfl))⟩
end F163
namespace F188
def H:Hd:=⟨[Su,Si],[Sz],.d,kt [] false,[],f188⟩
def k:Kc P_ gl:=⟨(188,⟨H.p,H.r,u2 PF⟩),co H func188⟩
end F188
namespace F201
def H:Hd:=⟨[Si],[Si,Si],.d,kt [] false,[],f201⟩
def k:Kc P_ gl:=⟨(201,⟨H.p,H.r,qN⟩),co H func201⟩
end F201
namespace F189
def H:Hd:=⟨[.agg [Sb,Si],Si],[.agg [Ob 5,Si],Si],.d,kt [F160.k,F163.k,F201.k] false,[],f189⟩
def k:Kc P_ gl:=⟨(189,⟨H.p,H.r,u3 vS⟩),co H func189⟩
end F189
namespace F164
abbrev R_:=(LB×Int×Int)
def H:Hd:=⟨[.agg [Sb,Si],Su,Si],[.agg [Ob 5,Si],Si],(.seq .d (.seq .d (.seq .d (.seq .d (.cut [3,6,9,10,11] [] .d .d))))),kt [F160.k,F163.k,F188.k,F189.k] false,[],f164⟩
def k:Kc P_ gl:=⟨(164,⟨H.p,H.r,u4 A7⟩),co H func164⟩
end F164
namespace F127
def NA(k u n:Int)(a:UInt64)(b:UInt32)(o:UInt64)(m:LB):Option (LB×Int×Int×Int×UInt64×UInt64×Int):=
(λaf:Option (LB×Int×Int×Int×UInt64×UInt64×Int)=>
both (
bo (
af)) [
af]) (
some (m,k,u,n,(Ae a (Al (Ad b:UInt64) (Cs a (GI.toZ (4:UInt64)).toNat))),o,0))
theorem mW: @NA= @SV:=by
  unfold NA SV
  try simp only[MC,Vq,Wr]
  all_goals
    repeat (refine funext λ_=>?_)
    repeat' first
      |with_reducible rfl
      |with_reducible refine Il ?_ ?_
      |with_reducible refine Ib ?_ ?_ ?_
      |with_reducible refine Io ?_ ?_ ?_ ?_
      |((with_reducible refine Ml ?_ ?_);focus (intro h;first|(subst h;rfl)|(simp only[h];rfl)|(simp[Ck,Ac,h];done)))
      |with_reducible refine Mf λx=>?_
      |with_reducible refine Se (λ_=>?_) (λ_=>?_)
      |(refine En (λh=>by simp only[h,Mj,Dn,Dj,ite_self]) (λx h=>?_);(try simp only[h,Dn]))
      |(refine Gm (λh=>?_) (λh=>?_)<;>simp only[h,if_true,if_false,Bool.false_eq_true])
abbrev R_:=(LB×Int×Int×Int×UInt64×UInt64×Int)
def H:Hd:=⟨[.agg [Sb,Si],.agg [Si,Si,Sq,Sq],Su],[.agg [Ob 5,Si],.agg [Si,Si,Sq,Sq],Si],(.seq .d (.cut [2,3,4,6,7] [] .d (.seq .d (.seq .d (.cut [2,3,4,6,7,11] [] .d (.seq .d (.cut [3,4,6,7] [] (.keep [2,3,4,6,7,65] true) (.seq (.mode false) .d)))))))),kt [F160.k,F161.k,F162.k,F163.k,F164.k] false,[(165,(.seq .d (.seq .d (.seq .d (.blk (.cut [0,1,4] [] (.blk (.seq .d (.keep [0,1,4,6,18,19,20,21,22,23,24,25] true))) (.cut [] [] (.keep [0,1,4,27,28,29,30,31,32,33,34] true) .d))))))),(190,.d)],f127⟩
def x10(k u n:Int)(a:UInt64)(b:UInt32)(o:UInt64)(m:LB):Option R_:=H.e P_ [r,r,r,r,r,r,r] ⟨[(3,.ptr 0 []),(4,.ptr 1 []),(6,.ptr 2 []),(7,.ptr 3 [])],[.box 197 (.agg [.own 4,vi k]),.box 193 (.agg [vi u,vi n,vq (Ae a (Al (Ad b:UInt64) (Cs a (GI.toZ (4:UInt64)).toNat))),vq o]),.box 197 (.agg [.nils,vi 0]),.box 193 (.agg [vi 0,vi 0,vq 0,vq 0]),Ab 5 m],[]⟩
def x8(b:UInt32)(f:Int)(a:UInt64)(k:Int)(m:LB)(n:Int)(o:UInt64):Option R_:=H.e P_ [r,r,r,r,r,r,l,(call 1 165),r,r,r,d,r] ⟨[(0,.ptr 0 []),(1,vu b),(4,.fn 190 [])],[.box 193 (.agg [vi f,vi n,vq a,vq o]),.box 197 (.agg [.own 4,vi k]),.box 197 (.agg [.nils,vi 0]),.box 193 (.agg [vi 0,vi 0,vq 0,vq 0]),Ab 5 m],[[(2,vu b),(3,.ptr 1 []),(4,.ptr 0 []),(6,.ptr 2 []),(7,.ptr 3 []),(65,vu b)]]⟩
theorem e10:x10=gX:=Eq.trans (b:=NA) F4 (by rw[mW];rfl)
theorem e8:x8=kT:=Eq.trans (b:=kO (lM x10)) F4 (by simp only[e10]<;>rfl)
def k:Kc P_ gl:=⟨(127,⟨H.p,H.r,u7 zQ⟩),co H func127 (λx=>Eq.trans (b:=u7 (lV (lS (kM x8))) x) F4 (by simp only[e8]<;>rfl))⟩
end F127
namespace F142
abbrev R_:=(UInt32×Int)
abbrev K_:=S->Option R_
def H:Hd:=⟨[Su,Sb],[Su,Si],(.seq .d (.seq .d (.cut [0,1,6] [] (.keep [0,1,6,12] true) (.cut [0] [] (.seq .d (.blk (.loop [0,6,13,14,15] [] .d))) .d)))),kt [] false,[(176,(.seq .d (.seq .d (.cut [1] [] (.seq .d (.blk (.loop [1,5] [] (.seq .d (.seq .d (.cut [1,5] [] (.blk (.seq .d (.seq .d (.cut [1,2,3,5] [] (.seq .d (.blk (.loop [1,2,3,5,10] [] .d))) .d)))) .d)))))) .d))))],f142⟩
def t28(a:LB)(b:LU)(h:UInt32)(m:Int):S:=⟨[(0,vu h),(6,.ptr 0 []),(13,vb a),(14,vi (Ac a)),(15,vi m)],[.box 283 (.val (.vec 256 (.int .u32)) b)],[]⟩
def z28:Nat->S->Option R_:=H.i P_ [r,r,r,l,r,d]
def t21(f:UInt32)(a:LB)(g:Int)(b:LU)(k:UInt32)(n:Int):S:=⟨[(1,.ptr 0 []),(2,vi g),(3,vu k),(5,vi g),(10,vi n)],[.box 283 (.val (.vec 256 (.int .u32)) b)],[[(0,vu f),(1,vb a)]]⟩
def z21(Lq:K_):Nat->S->Option R_:=H.i P_ [r,r,l,(call 0 176),r,r,l,r,d,(lp Lq),r,r,l,d,r,r,l,r,d]
def t16(f:UInt32)(a:LB)(g:Int)(b:LU):S:=⟨[(1,.ptr 0 []),(5,vi g)],[.box 283 (.val (.vec 256 (.int .u32)) b)],[[(0,vu f),(1,vb a)]]⟩
def z16:Nat->S->Option R_:=H.i P_ [r,r,l,(call 0 176),r,r,l,r,d]
def x28(a:LB)(b:LU)(h:UInt32)(m:Int):Option R_:=H.e P_ [r,r,r,l,r,d] (t28 a b h m)
def x21(Lq:K_)(f:UInt32)(a:LB)(g:Int)(b:LU)(k:UInt32)(n:Int):Option R_:=H.e P_ [r,r,l,(call 0 176),r,r,l,r,d,(lp Lq),r,r,l,d,r,r,l,r,d] (t21 f a g b k n)
theorem i28(a:LB)(b:LU):∀(q:Nat) (h:UInt32) (m:Int),z28 q (t28 a b h m)=Rb a b q h m:=
 ind (λ_ _=>by kernel_rfl) λq ih h m=>Eq.trans (b:=FM QR (λh m=>(z28 q) (t28 a b h m)) a b h m) F4 (by simp only[ih]<;>rfl)
theorem e28:x28=RI:=by funext a b h m;exact Eq.trans F4 ((i28 a b Dg h m).trans (by rw[Bd];rfl))
theorem i21(Lq:K_)(f:UInt32)(a:LB)(g:Int)(b:LU):∀(q:Nat) (k:UInt32) (n:Int),z21 Lq q (t21 f a g b k n)=Qs (λg b=>Lq (t16 f a g b)) f a g b q k n:=
 ind (λ_ _=>by kernel_rfl) λq ih k n=>Eq.trans (b:=DQ (EB (λg b=>Lq (t16 f a g b)) f a) (λk n=>(z21 Lq q) (t21 f a g b k n)) f a g b k n) F4 (by simp only[ih]<;>rfl)
theorem e21(Lq:K_)(f:UInt32)(a:LB):x21 Lq f a=QC (λg b=>Lq (t16 f a g b)) f a:=by funext g b k n;exact Eq.trans F4 ((i21 Lq f a g b Dg k n).trans (by rw[Bd];rfl))
theorem i16(f:UInt32)(a:LB):∀(q:Nat) (g:Int) (b:LU),z16 q (t16 f a g b)=Na f a q g b:=
 ind (λ_ _=>by kernel_rfl) λq ih g b=>Eq.trans (b:=FO (x21 (z16 q) f a) (QU (RA x28)) f a g b) F4 (by simp only[e21,e28,ih]<;>rfl)
def k:Kc P_ gl:=⟨(142,⟨H.p,H.r,u2 bC⟩),co H func142 (λx=>Eq.trans (b:=u2 (VV (λf a g b=>z16 Dg (t16 f a g b))) x) F4 (by simp only[i16,Bd]<;>rfl))⟩
end F142
namespace F105
def H:Hd:=⟨[Sb],[Su,Si],.d,kt [F142.k] false,[],f105⟩
def k:Kc P_ gl:=⟨(105,⟨H.p,H.r,Xf⟩),co H func105⟩
end F105
namespace F149
def H:Hd:=⟨[Sq,Si],[Sz],.d,kt [] false,[],f149⟩
def k:Kc P_ gl:=⟨(149,⟨H.p,H.r,u2 xI⟩),co H func149⟩
end F149
namespace F114
abbrev R_:=(LB×Int)
def H:Hd:=⟨[Sq,Si],[Ob 5,Si],(.seq .d (.seq .d (.seq .d (.seq .d (.cut [6] [] (.seq .d (.blk (.loop [0,6,21,22] [] .d))) .d))))),kt [F149.k] false,[],f114⟩
def t4(f:UInt64)(g:LB)(a:Int)(b:LB):S:=⟨[(0,vq f),(6,.own 0),(21,vi (Ac g)),(22,vi a)],[Ab 5 b],[]⟩
def z4:Nat->S->Option R_:=H.i P_ [r,r,r,r,l,r,d]
theorem i4(f:UInt64)(g:LB):∀(q:Nat) (a:Int) (b:LB),z4 q (t4 f g a b)=CP f g q a b:=
 ind (λ_ _=>by kernel_rfl) λq ih a b=>Eq.trans (b:=TU eK (λa b=>(z4 q) (t4 f g a b)) f g a b) F4 (by simp only[ih]<;>rfl)
def k:Kc P_ gl:=⟨(114,⟨H.p,H.r,u2 Zd⟩),co H func114 (λx=>Eq.trans (b:=u2 (fW (λf g a b=>z4 Dg (t4 f g a b))) x) F4 (by simp only[i4,Bd]<;>rfl))⟩
end F114
namespace F92
abbrev R_:=LB
def H:Hd:=⟨[.lf (.list (.list (.int .u8))) none],[Ob 5],(.seq .d (.seq .d (.cut [0,3] [] (.seq .d (.blk (.loop [0,3,9,10,11] [] .d))) (.cut [0,6] [⟨6,[],.own 5 (.int .u8)⟩] (.keep [0,3,6,23,24] true) (.cut [6] [] (.seq .d (.blk (.loop [6,25,26,27] [] .d))) .d))))),kt [] true,[(129,(.seq .d (.cut [0,1] [] .d .d)))],f92⟩
def t14(a:List LB)(g:Int)(f:LB):S:=⟨[(6,.own 0),(25,.val (.list (.list (.int .u8))) a),(26,vi (Ac a)),(27,vi g)],[Ab 5 f],[]⟩
def z14:Nat->S->Option R_:=H.i P_ [r,r,r,r,l,r,d]
def t9(a:List LB)(b h:Int):S:=⟨[(0,.val (.list (.list (.int .u8))) a),(3,vi b),(9,.val (.list (.list (.int .u8))) a),(10,vi (Ac a)),(11,vi h)],[],[]⟩
def z9:Nat->S->Option R_:=H.i P_ [r,r,l,r,d]
def x14(a:List LB)(g:Int)(f:LB):Option R_:=H.e P_ [r,r,r,r,l,r,d] (t14 a g f)
theorem i14(a:List LB):∀(q:Nat) (g:Int) (f:LB),z14 q (t14 a g f)=Mh a q g f:=
 ind (λ_ _=>by kernel_rfl) λq ih g f=>Eq.trans (b:=Va Uu (λg f=>(z14 q) (t14 a g f)) a g f) F4 (by simp only[ih]<;>rfl)
theorem e14:x14=Uq:=by funext a g f;exact Eq.trans F4 ((i14 a Dg g f).trans (by rw[Bd];rfl))
theorem i9(a:List LB):∀(q:Nat) (b h:Int),z9 q (t9 a b h)=Nr a q b h:=
 ind (λ_ _=>by kernel_rfl) λq ih b h=>Eq.trans (b:=Wk (Vc (Vn (Vb x14))) (λb h=>(z9 q) (t9 a b h)) a b h) F4 (by simp only[e14,ih]<;>rfl)
def k:Kc P_ gl:=⟨(92,⟨H.p,H.r,Lj⟩),co H func92 (λx=>Eq.trans (b:=Wx (λa b h=>z9 Dg (t9 a b h)) x) F4 (by simp only[i9,Bd]<;>rfl))⟩
end F92
namespace F90
abbrev R_:=(LB×Int)
abbrev K_:=S->Option R_
def H:Hd:=⟨[.agg [Si,Si],.lf (.vec 16 (.int .i32)) none,Sw],[Ob 5,Si],(.seq .d (.seq .d (.seq .d (.seq .d (.seq .d (.cut [11] [] (.seq .d (.blk (.loop [3,10,11,30,31,32] [⟨11,[0],.own 5 (.int .u8)⟩] (.seq .d (.seq .d (.cut [3,10,11,30,31,32] [] (.blk (.seq .d (.seq .d (.seq .d (.seq .d (.keep [3,10,11,14,30,31,32,59] true)))))) .d)))))) .d)))))),kt [F92.k,F105.k,F114.k,F125.k,F126.k,F127.k] false,[(128,(.seq .d (.seq .d (.blk (.loop [0,3,7,8] [] (.seq .d (.seq .d (.seq (.blk (.seq .d (.cut [0,3,4,7,8] [] .d (.seq .d (.cut [0,3,7,8] [] .d .d))))) .d))))))))],f90⟩
def t44(b:LU)(a g h f:Int)(n:List (Int×Int×UInt64×UInt64×Unit))(m:LB)(o k:Int)(w:LB):S:=⟨[(0,.ptr 0 []),(3,.ptr 1 []),(7,vi h),(8,vi o)],[.box 197 (.agg [.own 7,vi k]),.box 197 (.agg [.own 6,vi h]),.box 57 (.agg [vi a,vi g]),.box 194 (.val (.vec 6 (.cons (.int .i64) (.cons (.int .i64) (.cons (.int .u64) (.cons (.int .u64) .nil))))) n),.box 197 (.agg [.own 6,vi h]),Av 162 b,Ab 5 m,Ab 5 w],[[(3,.ptr 2 []),(10,.ptr 3 []),(11,.ptr 0 []),(14,.ptr 4 []),(30,.own 5),(31,vi (Ac b)),(32,vi f),(59,.agg [.own 6,vi h])]]⟩
def z44(NL:K_):Nat->S->Option R_:=H.i P_ [r,r,r,r,r,l,r,d,(lp NL),r,r,l,d,r,r,r,r,(call 1 128),r,r,d]
def t27(b:LU)(a g f:Int)(u:List (Int×Int×UInt64×UInt64×Unit))(v:Int)(p:LB):S:=⟨[(3,.ptr 0 []),(10,.ptr 1 []),(11,.ptr 2 []),(30,.own 3),(31,vi (Ac b)),(32,vi f)],[.box 57 (.agg [vi a,vi g]),.box 194 (.val (.vec 6 (.cons (.int .i64) (.cons (.int .i64) (.cons (.int .u64) (.cons (.int .u64) .nil))))) u),.box 197 (.agg [.own 4,vi v]),Av 162 b,Ab 5 p],[]⟩
def z27:Nat->S->Option R_:=H.i P_ [r,r,r,r,r,l,r,d]
def x44(NL:K_)(b:LU)(a g h f:Int)(n:List (Int×Int×UInt64×UInt64×Unit))(m:LB)(o k:Int)(w:LB):Option R_:=H.e P_ [r,r,r,r,r,l,r,d,(lp NL),r,r,l,d,r,r,r,r,(call 1 128),r,r,d] (t44 b a g h f n m o k w)
theorem i44(NL:K_)(b:LU)(a g h f:Int)(n:List (Int×Int×UInt64×UInt64×Unit))(m:LB):∀(q:Nat) (o k:Int) (w:LB),z44 NL q (t44 b a g h f n m o k w)=BE (λf u v p=>NL (t27 b a g f u v p)) b a g h f n m q o k w:=
 ind (λ_ _ _=>by kernel_rfl) λq ih o k w=>Eq.trans (b:=SM (QS (λo k w=>(z44 NL q) (t44 b a g h f n m o k w)) h b f a g n m) (SO (λf u v p=>NL (t27 b a g f u v p)) b a g) b a g h f n m o k w) F4 (by simp only[ih]<;>rfl)
theorem e44(NL:K_)(b:LU)(a g:Int):x44 NL b a g=RK (λf u v p=>NL (t27 b a g f u v p)) b a g:=by funext h f n m o k w;exact Eq.trans F4 ((i44 NL b a g h f n m Dg o k w).trans (by rw[Bd];rfl))
theorem i27(b:LU)(a g:Int):∀(q:Nat) (f:Int) (u:List (Int×Int×UInt64×UInt64×Unit)) (v:Int) (p:LB),z27 q (t27 b a g f u v p)=BA b a g q f u v p:=
 ind (λ_ _ _ _=>by kernel_rfl) λq ih f u v p=>Eq.trans (b:=RQ (x44 (z27 q) b a g) RG b a g f u v p) F4 (by simp only[e44,ih]<;>rfl)
def k:Kc P_ gl:=⟨(90,⟨H.p,H.r,u4 SJ⟩),co H func90 (λx=>Eq.trans (b:=u4 (TH (λb a g f u v p=>z27 Dg (t27 b a g f u v p))) x) F4 (by simp only[i27,Bd]<;>rfl))⟩
end F90
namespace F52
def H:Hd:=⟨[.agg [.agg [Si,Si],Si,Ss,Sb,Sw,.lf (.list (.list (.int .u8))) none,Sb,Sz,Si],Si],[.agg [.agg [Si,Si],Si,Ss,Ob 5,Ow 21,.lf (.list (.list (.int .u8))) (some 22),Ob 5,Sz,Si],Si],.d,kt [] false,[],f52⟩
def k:Kc P_ gl:=⟨(52,⟨H.p,H.r,u11 FV⟩),co H func52⟩
end F52
namespace F27
abbrev R_:=(Int×Int×Int×LB×LB×LX×(List LB)×LB×Bool×Int×Int)
abbrev K_:=S->Option R_
def H:Hd:=⟨[.agg [.agg [Si,Si],Si,Ss,Sb,Sw,.lf (.list (.list (.int .u8))) none,Sb,Sz,Si],Sb],[.agg [.agg [Si,Si],Si,Ss,Ob 5,Ow 21,.lf (.list (.list (.int .u8))) (some 22),Ob 5,Sz,Si],Si],(.seq .d (.seq .d (.seq .d (.seq .d (.seq .d (.cut [2,4] [] (.seq .d (.blk (.loop [2,4,8,9,27,28,29] [] (.seq .d (.seq .d (.cut [2,4,8,9,27,28,29] [] (.blk (.seq .d (.seq .d (.seq .d (.cut [2,4,8,9,12,27,28,29] [⟨2,[3],.own 5 (.int .u8)⟩,⟨2,[4],.own 21 (.int .i32)⟩,⟨9,[0,3],.own 5 (.int .u8)⟩,⟨9,[0,4],.own 21 (.int .i32)⟩] (.keep [2,4,8,9,12,27,28,29,45] true) .d))))) .d)))))) .d)))))),kt [F45.k,F46.k,F48.k,F49.k,F50.k,F52.k,F89.k,F90.k] false,[(47,(.seq .d (.cut [0,1] [] .d (.seq .d (.seq .d (.seq .d (.seq .d (.cut [2] [] (.keep [2,43] true) .d)))))))),(51,.d)],f27⟩
def t14(p:Int)(n:LB)(a b g:Int)(f:LB)(h:Bool)(k o:Int)(m:LB)(u:Int)(y:LB)(w:LX)(v:List LB):S:=⟨[(2,.ptr 0 []),(4,.ptr 1 []),(8,vi p),(9,.fn 47 [.ptr 0 [],.ptr 2 []]),(27,vb n),(28,vi (Ac n)),(29,vi u)],[.box 61 (.agg [.agg [vi a,vi b],vi g,vs f,.own 3,.own 4,.own 5,.own 6,vt h,vi k]),.box 61 (.agg [.agg [vi 0,vi 0],vi 0,vs ([]:LB),.nils,.nils,.nils,.nils,vt false,vi 0]),.box 3 (vi o),Ab 5 y,Aw 21 w,.arr 22 (.list (.int .u8)) v,Ab 5 m],[]⟩
def z14:Nat->S->Option R_:=H.i P_ [r,r,r,r,r,l,r,d]
theorem i14(p:Int)(n:LB)(a b g:Int)(f:LB)(h:Bool)(k o:Int)(m:LB):∀(q:Nat) (u:Int) (y:LB) (w:LX) (v:List LB),z14 q (t14 p n a b g f h k o m u y w v)=Qu p n a b g f h k o m q u y w v:=
 ind (λ_ _ _ _=>by kernel_rfl) λq ih u y w v=>Eq.trans (b:=XX (HR (λu y w v=>(z14 q) (t14 p n a b g f h k o m u y w v)) p n a b g f h k o m) (Rn (λu y w v=>(z14 q) (t14 p n a b g f h k o m u y w v)) p n a b g f h k o m) (WZ (λu y w v=>(z14 q) (t14 p n a b g f h k o m u y w v)) p n a b g f h k o m) YU p n a b g f h k o m u y w v) F4 (by simp only[ih]<;>rfl)
def k:Kc P_ gl:=⟨(27,⟨H.p,H.r,u11 Ry⟩),co H func27 (λx=>Eq.trans (b:=u11 (cS (λp n a b g f h k o m u y w v=>z14 Dg (t14 p n a b g f h k o m u y w v))) x) F4 (by simp only[i14,Bd]<;>rfl))⟩
end F27
namespace F42
def H:Hd:=⟨[.agg [.agg [Si,Si],Si,Ss,Sb,Sw,.lf (.list (.list (.int .u8))) none,Sb,Sz,Si],Si],[.agg [.agg [Si,Si],Si,Ss,Ob 5,Ow 21,.lf (.list (.list (.int .u8))) (some 22),Sb,Sz,Si],Ob 5,Si],.d,kt [F80.k,F81.k,F82.k] false,[],f42⟩
def k:Kc P_ gl:=⟨(42,⟨H.p,H.r,u11 VW⟩),co H func42⟩
end F42
namespace F91
def H:Hd:=⟨[Ss],[Si,Si],.d,kt [] false,[],f91⟩
def k:Kc P_ gl:=⟨(91,⟨H.p,H.r,lW⟩),co H func91⟩
end F91
namespace F106
abbrev R_:=Bool
def H:Hd:=⟨[.agg [Si,Si,Si,Si,Si]],[Sz],(.seq .d (.cut [1] [] .d .d)),kt [] false,[],f106⟩
def k:Kc P_ gl:=⟨(106,⟨H.p,H.r,u5 Px⟩),co H func106⟩
end F106
namespace F143
def H:Hd:=⟨[Si,Si],[Si,Si],.d,kt [F86.k] false,[],f143⟩
def k:Kc P_ gl:=⟨(143,⟨H.p,H.r,u2 Zk⟩),co H func143⟩
end F143
namespace F107
def H:Hd:=⟨[.agg [Si,Si,Si,Si,Si]],[Sz],.d,kt [F143.k] false,[],f107⟩
def k:Kc P_ gl:=⟨(107,⟨H.p,H.r,u5 LR⟩),co H func107⟩
end F107
namespace F113
def H:Hd:=⟨[.agg [Si,Si,Si,Si,Si]],[Si],.d,kt [F106.k,F107.k] false,[],f113⟩
def k:Kc P_ gl:=⟨(113,⟨H.p,H.r,u5 Rr⟩),co H func113⟩
end F113
namespace F71
abbrev R_:=(LB×Int)
def H:Hd:=⟨[.agg [Si,Si,Si,Si,Si]],[Ob 5,Si],(.seq .d (.seq .d (.seq .d (.cut [5] [] (.seq .d (.blk (.loop [5,31,32] [] .d))) .d)))),kt [F105.k,F113.k,F114.k] false,[],f71⟩
def t4(b f g h k m:Int)(a:LB):S:=⟨[(5,.own 0),(31,.val (.vec 5 (.int .i64)) ([b,f,g,h,k]:LI)),(32,vi m)],[Ab 5 a],[]⟩
def z4:Nat->S->Option R_:=H.i P_ [r,r,r,l,r,d]
theorem i4(b f g h k:Int):∀(q:Nat) (m:Int) (a:LB),z4 q (t4 b f g h k m a)=Pc b f g h k q m a:=
 ind (λ_ _=>by kernel_rfl) λq ih m a=>Eq.trans (b:=ND cO (λm a=>(z4 q) (t4 b f g h k m a)) b f g h k m a) F4 (by simp only[ih]<;>rfl)
def k:Kc P_ gl:=⟨(71,⟨H.p,H.r,u5 pR⟩),co H func71 (λx=>Eq.trans (b:=u5 (cT (λb f g h k m a=>z4 Dg (t4 b f g h k m a))) x) F4 (by simp only[i4,Bd]<;>rfl))⟩
end F71
namespace F115
def H:Hd:=⟨[Ss],[Sq,Si],.d,kt [F123.k] false,[],f115⟩
def k:Kc P_ gl:=⟨(115,⟨H.p,H.r,tB⟩),co H func115⟩
end F115
namespace F72
def H:Hd:=⟨[Ss],[Ob 5,Si],.d,kt [F114.k,F115.k] false,[],f72⟩
def k:Kc P_ gl:=⟨(72,⟨H.p,H.r,EV⟩),co H func72⟩
end F72
namespace F116
abbrev R_:=Int
def H:Hd:=⟨[Sl],[Si],(.seq .d (.seq .d (.seq .d (.cut [] [] (.seq .d (.blk (.loop [3,14,15,16] [] .d))) .d)))),kt [] false,[],f116⟩
def t4(a:LI)(f b:Int):S:=⟨[(3,vi f),(14,vl a),(15,vi (Ac a)),(16,vi b)],[],[]⟩
def z4:Nat->S->Option R_:=H.i P_ [r,r,r,l,r,d]
theorem i4(a:LI):∀(q:Nat) (f b:Int),z4 q (t4 a f b)=Rc a q f b:=
 ind (λ_ _=>by kernel_rfl) λq ih f b=>Eq.trans (b:=GB iM (λf b=>(z4 q) (t4 a f b)) a f b) F4 (by simp only[ih]<;>rfl)
def k:Kc P_ gl:=⟨(116,⟨H.p,H.r,Pv⟩),co H func116 (λx=>Eq.trans (b:=FE (λa f b=>z4 Dg (t4 a f b)) x) F4 (by simp only[i4,Bd]<;>rfl))⟩
end F116
namespace F73
abbrev R_:=(LB×Int)
abbrev K_:=S->Option R_
def H:Hd:=⟨[Sl],[Ob 5,Si],(.seq .d (.seq .d (.seq .d (.seq .d (.cut [5,6] [] (.seq .d (.blk (.loop [5,6,17,18,19] [⟨5,[],.own 5 (.int .u8)⟩,⟨6,[0],.own 5 (.int .u8)⟩] (.seq .d (.seq .d (.cut [5,6,17,18,19] [] (.blk (.seq .d (.keep [5,6,8,17,18,19,23,24,25] true))) .d)))))) (.seq .d (.cut [5] [] (.keep [5,6,9,33,34,35] true) .d))))))),kt [F105.k,F114.k,F116.k] false,[(117,.d)],f73⟩
def t8(a:LI)(f:Int)(b:LB):S:=⟨[(5,.ptr 0 []),(6,.fn 117 [.ptr 0 []]),(17,vl a),(18,vi (Ac a)),(19,vi f)],[.box 22 (.own 1),Ab 5 b],[]⟩
def z8:Nat->S->Option R_:=H.i P_ [r,r,r,r,l,r,d]
theorem i8(a:LI):∀(q:Nat) (f:Int) (b:LB),z8 q (t8 a f b)=PZ a q f b:=
 ind (λ_ _=>by kernel_rfl) λq ih f b=>Eq.trans (b:=iD (cD (λf b=>(z8 q) (t8 a f b)) a) bT a f b) F4 (by simp only[ih]<;>rfl)
def k:Kc P_ gl:=⟨(73,⟨H.p,H.r,gW⟩),co H func73 (λx=>Eq.trans (b:=eZ (λa f b=>z8 Dg (t8 a f b)) x) F4 (by simp only[i8,Bd]<;>rfl))⟩
end F73
namespace F53
def HW(f g h:Int)(b k:LB)(m:LX)(a:List LB)(n:LB)(o:Bool)(p:Int)(u:LB)(v:LI):Option (LB×Int):=
(gW v).bind λ(aa,y)=>
if(Bi y 0)then
some (([]:LB),y)
else
(λao:Option (LB×Int)=>
bo (
ao)) (
(Ck u aa).bind λab=>
(Lj a).bind λac=>
(Ck ab ac).bind λad=>
some (ad,0))
theorem kD: @HW= @MP:=by
  unfold HW MP;simp only[MC,Vq,Wr]
abbrev R_:=(LB×Int)
def H:Hd:=⟨[.agg [.agg [Si,Si],Si,Ss,Sb,Sw,.lf (.list (.list (.int .u8))) none,Sb,Sz,Si],Si],[Ob 5,Si],(.seq .d (.seq .d (.seq .d (.seq .d (.seq .d (.cut [2,8] [] .d (.seq .d (.cut [2,8,11] [] (.seq .d (.blk (.loop [2,8,11,58,59,60] [⟨11,[],.own 3 (.int .i64)⟩] .d))) (.seq .d (.seq .d (.seq (.mode false) .d))))))))))),kt [F71.k,F72.k,F73.k,F91.k,F92.k] false,[],f53⟩
def t6(a:List LB)(f g h:Int)(b k:LB)(m:LX)(n:LB)(o:Bool)(p:Int)(u:LB)(w:Int)(v:LI):S:=⟨[(2,.ptr 0 []),(8,.own 1),(11,.own 2),(58,.val (.list (.list (.int .u8))) a),(59,vi (Ac a)),(60,vi w)],[.box 61 (.agg [.agg [vi f,vi g],vi h,vs b,vb k,vw m,.val (.list (.list (.int .u8))) a,vb n,vt o,vi p]),Ab 5 u,Ai 3 v],[]⟩
def z6:Nat->S->Option R_:=H.i P_ [r,r,r,r,r,r,r,l,r,d]
def x8(f g h:Int)(b k:LB)(m:LX)(a:List LB)(n:LB)(o:Bool)(p:Int)(u:LB)(v:LI):Option R_:=H.e P_ [r,r,r,r,r,r,r,r] ⟨[(2,.ptr 0 []),(8,.own 1),(11,.own 2)],[.box 61 (.agg [.agg [vi f,vi g],vi h,vs b,vb k,vw m,.val (.list (.list (.int .u8))) a,vb n,vt o,vi p]),Ab 5 u,Ai 3 v],[]⟩
theorem e8:x8=cC:=Eq.trans (b:=HW) F4 (by rw[kD];rfl)
theorem i6(a:List LB)(f g h:Int)(b k:LB)(m:LX)(n:LB)(o:Bool)(p:Int)(u:LB):∀(q:Nat) (w:Int) (v:LI),z6 q (t6 a f g h b k m n o p u w v)=NC a f g h b k m n o p u q w v:=
 ind (λ_ _=>by kernel_rfl) λq ih w v=>Eq.trans (b:=bX x8 (λw v=>(z6 q) (t6 a f g h b k m n o p u w v)) a f g h b k m n o p u w v) F4 (by simp only[e8,ih]<;>rfl)
def k:Kc P_ gl:=⟨(53,⟨H.p,H.r,u11 rG⟩),co H func53 (λx=>Eq.trans (b:=u11 (bN (cQ (λa f g h b k m n o p u w v=>z6 Dg (t6 a f g h b k m n o p u w v)))) x) F4 (by simp only[i6,Bd]<;>rfl))⟩
end F53
namespace F28
abbrev R_:=(Int×Int×Int×LB×LB×LX×(List LB)×LB×Bool×Int×Int)
def H:Hd:=⟨[.agg [.agg [Si,Si],Si,Ss,Sb,Sw,.lf (.list (.list (.int .u8))) none,Sb,Sz,Si]],[.agg [.agg [Si,Si],Si,Ss,Ob 5,Ow 21,.lf (.list (.list (.int .u8))) (some 22),Ob 5,Sz,Si],Si],(.seq .d (.seq .d (.seq .d (.seq .d (.seq .d (.cut [1,2,6] [] (.seq .d (.cond (.cut [1,2,6,7] [⟨1,[4],.own 21 (.int .i32)⟩] (.keep [1,2,6,7,38] true) .d) .d)) .d)))))),kt [F45.k,F49.k,F52.k,F53.k,F89.k,F90.k] false,[(51,.d)],f28⟩
def k:Kc P_ gl:=⟨(28,⟨H.p,H.r,u10 QG⟩),co H func28⟩
end F28
namespace F24
def AX(j29:Int->Int->Int->Int->LB->LB->Bool->Int->LB-> (List (Int×LB×Unit))->LB->LX-> (List LB)->Option (Int×Int×Int×LB×LB×LX×(List LB)×LB×Bool×Int×(List (Int×LB×Unit))×Int))(b:List (UInt8×Int×Unit))(aa:UInt8×Int×Unit)(a:LB)(ab y f g h:Int)(k p:LB)(u:LX)(v:List LB)(m:LB)(n:Bool)(o ac ad ae:Int)(af:LB)(ag:Bool)(ah:Int)(w:List (Int×LB×Unit))(ai:LB)(aj:LX)(ak:List LB)(al:LB):Option (Int×Int×Int×LB×LB×LX×(List LB)×LB×Bool×Int×(List (Int×LB×Unit))×Int):=
(λfj:Option (Int×Int×Int×LB×LB×LX×(List LB)×LB×Bool×Int×(List (Int×LB×Unit))×Int)=>
bo (
fj)) (
(Bk a (Dx aa.2.1 (Ac a)) (Ac a)).bind λbm=>
(Ck w ([(ab,([]:LB),())]:List (Int×LB×Unit))).bind λbn=>
j29 y ac ad ae af al ag ah bm bn ai aj ak)
theorem dQ: @AX= @EE:=by
  unfold AX EE;simp only[MC,Vq,Wr]
def AW(j26:(UInt8×Int×Unit)->LB->Int->Int->Int->Int->Int->LB->LB->LX-> (List LB)->LB->Bool->Int->Int->Int->Int->LB->Bool->Int-> (List (Int×LB×Unit))->LB->LX-> (List LB)->LB->Option (Int×Int×Int×LB×LB×LX×(List LB)×LB×Bool×Int×(List (Int×LB×Unit))×Int))(j33:Int->Int->Int->Int->Int->LB->LB->LX-> (List LB)->LB->Bool->Int->LB->Int->Int->Int->LB->LB->Bool->Int->LB-> (List (Int×LB×Unit))->LB->LX-> (List LB)->Option (Int×Int×Int×LB×LB×LX×(List LB)×LB×Bool×Int×(List (Int×LB×Unit))×Int))(j34:Int->Int->Int->Int->Int->LB->LB->LX-> (List LB)->LB->Bool->Int->LB->Int->Int->Int->LB->Bool->Int-> (List (Int×LB×Unit))->LB->LX-> (List LB)->LB->Option (Int×Int×Int×LB×LB×LX×(List LB)×LB×Bool×Int×(List (Int×LB×Unit))×Int))(j29:Int->Int->Int->Int->LB->LB->Bool->Int->LB-> (List (Int×LB×Unit))->LB->LX-> (List LB)->Option (Int×Int×Int×LB×LB×LX×(List LB)×LB×Bool×Int×(List (Int×LB×Unit))×Int))(j31:(List (Int×LB×Unit))->Int->Int->Int->LB->LB->Bool->Int->LB->LB->LX-> (List LB)->Option (Int×Int×Int×LB×LB×LX×(List LB)×LB×Bool×Int×(List (Int×LB×Unit))×Int))(b:List (UInt8×Int×Unit))(y f g h:Int)(k m:LB)(n:Bool)(o:Int)(a:LB)(w:List (Int×LB×Unit))(p:LB)(u:LX)(v:List LB):Option (Int×Int×Int×LB×LB×LX×(List LB)×LB×Bool×Int×(List (Int×LB×Unit))×Int):=
if(Cj y (Ac b))then
(Ah b y).bind λaa=>
if(geq aa.1 1)then
(λbp:Option (Int×Int×Int×LB×LB×LX×(List LB)×LB×Bool×Int×(List (Int×LB×Unit))×Int)=>
(λbs:Option (Int×Int×Int×LB×LB×LX×(List LB)×LB×Bool×Int×(List (Int×LB×Unit))×Int)=>
(λbt:Option (Int×Int×Int×LB×LB×LX×(List LB)×LB×Bool×Int×(List (Int×LB×Unit))×Int)=>
both (
bs) [
bs,
(Bk a 0 (Dx aa.2.1 (Ac a))).bind λam=>
(λbu:Option (Int×Int×Int×LB×LB×LX×(List LB)×LB×Bool×Int×(List (Int×LB×Unit))×Int)=>
(λbv:Option (Int×Int×Int×LB×LB×LX×(List LB)×LB×Bool×Int×(List (Int×LB×Unit))×Int)=>
(λbw:Option (Int×Int×Int×LB×LB×LX×(List LB)×LB×Bool×Int×(List (Int×LB×Unit))×Int)=>
both (
bw) [
bw,
bv]) (
both (
bv) [
bu])) (
bo (
bu))) (
(Ry f g h k p u v m n o am).bind λ(ac,ad,ae,af,ai,aj,ak,al,ag,ah,ab)=>
j26 aa a ab y f g h k p u v m n o ac ad ae af ag ah w ai aj ak al),
both (
bt) [
bt,
(Bk a 0 (Dx aa.2.1 (Ac a))).bind λam=>
(λfk:Option (Int×Int×Int×LB×LB×LX×(List LB)×LB×Bool×Int×(List (Int×LB×Unit))×Int)=>
bo (
fk)) (
(Ry f g h k p u v m n o am).bind λ(ac,ad,ae,af,ai,aj,ak,al,ag,ah,ab)=>
j26 aa a ab y f g h k p u v m n o ac ad ae af ag ah w ai aj ak al)]]) (
bo (
bp))) (
both (
both (
(Bk a 0 (Dx aa.2.1 (Ac a))).bind λam=>
(λfl:Option (Int×Int×Int×LB×LB×LX×(List LB)×LB×Bool×Int×(List (Int×LB×Unit))×Int)=>
bo (
fl)) (
(Ry f g h k p u v m n o am).bind λ(ac,ad,ae,af,ai,aj,ak,al,ag,ah,ab)=>
j26 aa a ab y f g h k p u v m n o ac ad ae af ag ah w ai aj ak al)) [
bp]) [
(Bk a 0 (Dx aa.2.1 (Ac a))).bind λam=>
(λbx:Option (Int×Int×Int×LB×LB×LX×(List LB)×LB×Bool×Int×(List (Int×LB×Unit))×Int)=>
both (
bo (
bx)) [
bx]) (
(Ry f g h k p u v m n o am).bind λ(ac,ad,ae,af,ai,aj,ak,al,ag,ah,ab)=>
j26 aa a ab y f g h k p u v m n o ac ad ae af ag ah w ai aj ak al),
bo (
bp)])) (
(Bk a 0 (Dx aa.2.1 (Ac a))).bind λam=>
(Ry f g h k p u v m n o am).bind λ(ac,ad,ae,af,ai,aj,ak,al,ag,ah,ab)=>
j26 aa a ab y f g h k p u v m n o ac ad ae af ag ah w ai aj ak al)
else
if(geq aa.1 2)then
(λbz:Option (Int×Int×Int×LB×LB×LX×(List LB)×LB×Bool×Int×(List (Int×LB×Unit))×Int)=>
(λda:Option (Int×Int×Int×LB×LB×LX×(List LB)×LB×Bool×Int×(List (Int×LB×Unit))×Int)=>
(λdb:Option (Int×Int×Int×LB×LB×LX×(List LB)×LB×Bool×Int×(List (Int×LB×Unit))×Int)=>
both (
db) [
db,
da]) (
both (
da) [
bz])) (
bo (
bz))) (
(VW f g h k p u v m n o aa.2.1).bind λ(ao,ap,aq,ar,ay,az,ba,au,av,aw,ax,an)=>
j33 an y f g h k p u v m n o a ao ap aq ar au av aw ax w ay az ba)
else
if(geq aa.1 3)then
(λdc:Option (Int×Int×Int×LB×LB×LX×(List LB)×LB×Bool×Int×(List (Int×LB×Unit))×Int)=>
(λdd:Option (Int×Int×Int×LB×LB×LX×(List LB)×LB×Bool×Int×(List (Int×LB×Unit))×Int)=>
(λde:Option (Int×Int×Int×LB×LB×LX×(List LB)×LB×Bool×Int×(List (Int×LB×Unit))×Int)=>
both (
de) [
de,
dd]) (
both (
dd) [
dc])) (
bo (
dc))) (
(QG f g h k p u v m n o).bind λ(bc,bd,be,bf,bi,bj,bk,bl,bg,bh,bb)=>
j34 bb y f g h k p u v m n o a bc bd be bf bg bh w bi bj bk bl)
else
j29 y f g h k m n o a w p u v
else
j31 w f g h k m n o a p u v
theorem dO: @AW= @EM:=by
  unfold AW EM
  try simp only[MC,Vq,Wr]
  all_goals
    repeat (refine funext λ_=>?_)
    repeat' first
      |with_reducible rfl
      |with_reducible refine Il ?_ ?_
      |with_reducible refine Ib ?_ ?_ ?_
      |with_reducible refine Io ?_ ?_ ?_ ?_
      |((with_reducible refine Ml ?_ ?_);focus (intro h;first|(subst h;rfl)|(simp only[h];rfl)|(simp[Ck,Ac,h];done)))
      |with_reducible refine Mf λx=>?_
      |with_reducible refine Se (λ_=>?_) (λ_=>?_)
      |(refine En (λh=>by simp only[h,Mj,Dn,Dj,ite_self]) (λx h=>?_);(try simp only[h,Dn]))
      |(refine Gm (λh=>?_) (λh=>?_)<;>simp only[h,if_true,if_false,Bool.false_eq_true])
abbrev R_:=(Int×Int×Int×LB×LB×LX×(List LB)×LB×Bool×Int×(List (Int×LB×Unit))×Int)
abbrev K_:=S->Option R_
def H:Hd:=⟨[.agg [Si,Si],Si,Ss,Sb,.lf (.list (.cons (.int .u8) (.cons (.int .i64) .nil))) none],[.agg [.agg [Si,Si],Si,Ss,Ob 5,Ow 21,.lf (.list (.list (.int .u8))) (some 22),Sb,Sz,Si],.lf (.list (.cons (.int .i64) (.cons (.list (.int .u8)) .nil))) (some 72),Si],(.seq .d (.seq .d (.seq .d (.seq .d (.seq .d (.cut [10,16,17] [] (.keep [10,16,17,41] true) .d)))))),kt [F26.k,F27.k,F28.k,F29.k,F42.k] false,[(43,(.seq .d (.seq .d (.seq .d (.cut [6] [] (.seq .d (.blk (.loop [5,6,19,20,21] [⟨5,[0,0,6],.ro (.int .u8)⟩,⟨6,[],.own 72 (.cons (.int .i64) (.cons (.list (.int .u8)) .nil))⟩] (.seq .d (.seq .d (.cut [5,6,19,20,21] [⟨5,[0,0,6],.ro (.int .u8)⟩] (.blk (.seq .d (.seq .d (.seq .d (.cond (.keep [5,6,19,20,21,33,37,38,39] true) .d))))) .d)))))) .d))))),(83,(.seq .d (.seq .d (.cut [0,1,4,5,6] [] (.mode false) (.seq (.mode false) .d))))),(84,(.seq .d (.cut [0,4,5,6,7] [] (.mode false) .d))),(85,(.seq .d (.cut [0,4,5,6] [] (.mode false) .d)))],f24⟩
def t17(b:List (UInt8×Int×Unit))(y f g h:Int)(k m:LB)(n:Bool)(o:Int)(a:LB)(w:List (Int×LB×Unit))(p:LB)(u:LX)(v:List LB):S:=⟨[(5,.mp [1,2,3] [.bfn 83 [.ptr 0 []],.bfn 84 [.ptr 0 []],.bfn 85 [.ptr 0 []]]),(6,.own 1),(19,.val (.list (.cons (.int .u8) (.cons (.int .i64) .nil))) b),(20,vi (Ac b)),(21,vi y)],[.box 96 (.agg [.agg [.agg [vi f,vi g],vi h,vs k,.own 3,.own 4,.own 5,vb m,vt n,vi o],.fn 27 [],.fn 28 [],.fn 42 [],vb a]),.arr 72 (.cons (.int .i64) (.cons (.list (.int .u8)) .nil)) w,.box 61 (.agg [.agg [vi 0,vi 0],vi 0,vs ([]:LB),.nils,.nils,.nils,.nils,vt false,vi 0]),Ab 5 p,Aw 21 u,.arr 22 (.list (.int .u8)) v],[[(10,.ptr 2 []),(16,.ptr 0 [])]]⟩
def z17:Nat->S->Option R_:=H.i P_ [r,r,r,r,r,l,(call 2 43),r,r,r,l,r,d]
def x26(J1:K_)(b:List (UInt8×Int×Unit))(aa:UInt8×Int×Unit)(a:LB)(ab y f g h:Int)(k p:LB)(u:LX)(v:List LB)(m:LB)(n:Bool)(o ac ad ae:Int)(af:LB)(ag:Bool)(ah:Int)(w:List (Int×LB×Unit))(ai:LB)(aj:LX)(ak:List LB)(al:LB):Option R_:=H.e P_ [r,r,r,r,r,l,(call 2 43),r,r,r,l,r,d,(lp J1),r,r,l,d,r,r,r,l,(call 4 83),r,r,r] ⟨[(0,.ptr 0 []),(1,vi (Dx aa.2.1 (Ac a))),(4,.ptr 1 []),(5,.ptr 2 []),(6,vi ab)],[.box 96 (.agg [.agg [.agg [vi f,vi g],vi h,vs k,vb p,vw u,.val (.list (.list (.int .u8))) v,vb m,vt n,vi o],.fn 27 [],.fn 28 [],.fn 42 [],vb a]),.box 72 (.agg [vi 0,.nils]),.box 61 (.agg [.agg [vi ac,vi ad],vi ae,vs af,.own 5,.own 6,.own 7,.own 8,vt ag,vi ah]),.arr 72 (.cons (.int .i64) (.cons (.list (.int .u8)) .nil)) w,.box 61 (.agg [.agg [vi 0,vi 0],vi 0,vs ([]:LB),.nils,.nils,.nils,.nils,vt false,vi 0]),Ab 5 ai,Aw 21 aj,.arr 22 (.list (.int .u8)) ak,Ab 5 al],[[(5,.mp [1,2,3] [.bfn 83 [.ptr 0 []],.bfn 84 [.ptr 0 []],.bfn 85 [.ptr 0 []]]),(6,.own 3),(19,.val (.list (.cons (.int .u8) (.cons (.int .i64) .nil))) b),(20,vi (Ac b)),(21,vi y),(33,.own 3)],[(10,.ptr 4 []),(16,.ptr 0 [])]]⟩
theorem e26(J1:K_)(b:List (UInt8×Int×Unit)):x26 J1 b=TV (λy f g h k m n o a w p u v=>J1 (t17 b y f g h k m n o a w p u v)) b:=Eq.trans (b:=AX (Lf (λy f g h k m n o a w p u v=>J1 (t17 b y f g h k m n o a w p u v)) b) b) F4 (by rw[dQ];rfl)
theorem i17(b:List (UInt8×Int×Unit)):∀(q:Nat) (y f g h:Int) (k m:LB) (n:Bool) (o:Int) (a:LB) (w:List (Int×LB×Unit)) (p:LB) (u:LX) (v:List LB),z17 q (t17 b y f g h k m n o a w p u v)=Lg b q y f g h k m n o a w p u v:=
 ind (λ_ _ _ _ _ _ _ _ _ _ _ _ _=>by kernel_rfl) λq ih y f g h k m n o a w p u v=>Eq.trans (b:=AW (x26 (z17 q) b) (UT (λy f g h k m n o a w p u v=>(z17 q) (t17 b y f g h k m n o a w p u v)) b) (UI (λy f g h k m n o a w p u v=>(z17 q) (t17 b y f g h k m n o a w p u v)) b) (Lf (λy f g h k m n o a w p u v=>(z17 q) (t17 b y f g h k m n o a w p u v)) b) UW b y f g h k m n o a w p u v) F4 (by rw[dO];simp only[e26,ih]<;>rfl)
def k:Kc P_ gl:=⟨(24,⟨H.p,H.r,u6 kN⟩),co H func24 (λx=>Eq.trans (b:=u6 (YC (λb y f g h k m n o a w p u v=>z17 Dg (t17 b y f g h k m n o a w p u v))) x) F4 (by simp only[i17,Bd]<;>rfl))⟩
end F24
namespace F120
def H:Hd:=⟨[Sq,Sq],[Sq,Sq],.d,kt [] false,[],f120⟩
def k:Kc P_ gl:=⟨(120,⟨H.p,H.r,u2 MT⟩),co H func120⟩
end F120
namespace F79
def H:Hd:=⟨[Sq,Sq],[Sq,Sq],.d,kt [F120.k] false,[],f79⟩
def k:Kc P_ gl:=⟨(79,⟨H.p,H.r,u2 Zs⟩),co H func79⟩
end F79
namespace F41
def Hb(j10:(List (UInt8×Int×Unit))->Option ((List (UInt8×Int×Unit))))(jh:Int-> (List (UInt8×Int×Unit))->Option ((List (UInt8×Int×Unit))))(b:Int)(a:List (UInt8×Int×Unit)):Option ((List (UInt8×Int×Unit))):=
if(Cj b (Ac a))then
both (
(aK (Ac a) b (Ac a)).bind λ_=>
(aK (Ac a) 0 b).bind λ_=>
jh (Ae b (FG ((Ac a)-b) (KY a 0 (b-(0:Int))).length)) (Qr a b ((Ac a)-b) (KY a 0 (b-(0:Int))))) [
(aK (Ac a) 0 b).bind λ_=>
(aK (Ac a) b (Ac a)).bind λ_=>
jh (Ae b (FG ((Ac a)-b) (KY a 0 (b-(0:Int))).length)) (Qr a b ((Ac a)-b) (KY a 0 (b-(0:Int))))]
else
j10 a
theorem Xa: @Hb= @Hq:=by
  unfold Hb Hq
  repeat (refine funext λ_=>?_)
  repeat' first
    |with_reducible rfl
    |with_reducible refine Il ?_ ?_
    |with_reducible refine Ib ?_ ?_ ?_
    |with_reducible refine Io ?_ ?_ ?_ ?_
    |((with_reducible refine Ml ?_ ?_);focus (intro h;first|(subst h;rfl)|(simp only[h];rfl)|(simp[Ck,Ac,h];done)))
    |with_reducible refine Mf λx=>?_
    |with_reducible refine Se (λ_=>?_) (λ_=>?_)
    |(refine En (λh=>by simp only[h,Mj,Dn,Dj,ite_self]) (λx h=>?_);(try simp only[h,Dn]))
    |(refine Gm (λh=>?_) (λh=>?_)<;>simp only[h,if_true,if_false,Bool.false_eq_true])
abbrev R_:=((List (UInt8×Int×Unit)))
def H:Hd:=⟨[.lf (.list (.cons (.int .u8) (.cons (.int .i64) .nil))) none,Si],[.lf (.list (.cons (.int .u8) (.cons (.int .i64) .nil))) (some 49)],(.seq .d (.cut [0,1] [] .d (.seq .d (.cut [0,6] [] .d (.seq .d (.seq .d (.cut [7] [] (.blk (.loop [7,8] [] (.seq .d (.blk (.mode false))))) .d))))))),kt [F79.k] true,[],f41⟩
def t8(b:Int)(a:List (UInt8×Int×Unit)):S:=⟨[(7,.own 0),(8,vi b)],[.arr 49 (.cons (.int .u8) (.cons (.int .i64) .nil)) a],[]⟩
def z8:Nat->S->Option R_:=H.i P_ [r,r,r,r,r,r,l,d]
theorem i8:∀(q:Nat) (b:Int) (a:List (UInt8×Int×Unit)),z8 q (t8 b a)=Hr q b a:=
 ind (λ_ _=>by kernel_rfl) λq ih b a=>Eq.trans (b:=Hb Mo (λb a=>(z8 q) (t8 b a)) b a) F4 (by rw[Xa];simp only[ih]<;>rfl)
def k:Kc P_ gl:=⟨(41,⟨H.p,H.r,u2 Qh⟩),co H func41 (λx=>Eq.trans (b:=u2 (Nb (Nn (Nd (λb a=>z8 Dg (t8 b a))))) x) F4 (by simp only[i8,Bd]<;>rfl))⟩
end F41
namespace F23
def H:Hd:=⟨[Si,Si,Si],[.lf (.list (.cons (.int .u8) (.cons (.int .i64) .nil))) (some 49),Si],.d,kt [F41.k] false,[],f23⟩
def k:Kc P_ gl:=⟨(23,⟨H.p,H.r,u3 uY⟩),co H func23⟩
end F23
namespace F15
abbrev R_:=LB
def H:Hd:=⟨[.lf (.list (.cons (.int .i64) (.cons (.list (.int .u8)) .nil))) none],[Ob 5],(.seq .d (.seq .d (.cut [3] [] (.seq .d (.blk (.loop [3,6,7,8] [⟨3,[],.own 5 (.int .u8)⟩] .d))) .d))),kt [] false,[],f15⟩
def t4(a:List (Int×LB×Unit))(f:Int)(b:LB):S:=⟨[(3,.own 0),(6,.val (.list (.cons (.int .i64) (.cons (.list (.int .u8)) .nil))) a),(7,vi (Ac a)),(8,vi f)],[Ab 5 b],[]⟩
def z4:Nat->S->Option R_:=H.i P_ [r,r,l,r,d]
theorem i4(a:List (Int×LB×Unit)):∀(q:Nat) (f:Int) (b:LB),z4 q (t4 a f b)=Mt a q f b:=
 ind (λ_ _=>by kernel_rfl) λq ih f b=>Eq.trans (b:=Xp HS (λf b=>(z4 q) (t4 a f b)) a f b) F4 (by simp only[ih]<;>rfl)
def k:Kc P_ gl:=⟨(15,⟨H.p,H.r,Aq⟩),co H func15 (λx=>Eq.trans (b:=WO (λa f b=>z4 Dg (t4 a f b)) x) F4 (by simp only[i4,Bd]<;>rfl))⟩
end F15
namespace F7
def H:Hd:=⟨[],[Sz],.d,kt [F15.k,F23.k,F24.k,F25.k] false,[],f7⟩
def k:Kc P_ gl:=⟨(7,⟨H.p,H.r,λ_=>Sy⟩),co H func7⟩
end F7
namespace F8
def H:Hd:=⟨[Sb],[Sz],.d,kt [] false,[],f8⟩
def k:Kc P_ gl:=⟨(8,⟨H.p,H.r,FK⟩),co H func8⟩
end F8
namespace F18
def H:Hd:=⟨[.lf (.list (.cons (.int .u8) (.cons (.int .i64) .nil))) none],[Sz],.d,kt [] false,[],f18⟩
def k:Kc P_ gl:=⟨(18,⟨H.p,H.r,Pg⟩),co H func18⟩
end F18
namespace F19
abbrev R_:=Int
def H:Hd:=⟨[.lf (.list (.cons (.int .u8) (.cons (.int .i64) .nil))) none],[Si],(.seq .d (.seq .d (.cut [] [] (.seq .d (.blk (.loop [0,3] [] .d))) .d))),kt [] false,[],f19⟩
def t4(a:List (UInt8×Int×Unit))(b:Int):S:=⟨[(0,.val (.list (.cons (.int .u8) (.cons (.int .i64) .nil))) a),(3,vi b)],[],[]⟩
def z4:Nat->S->Option R_:=H.i P_ [r,r,l,r,d]
theorem i4(a:List (UInt8×Int×Unit)):∀(q:Nat) (b:Int),z4 q (t4 a b)=Ee a q b:=
 ind (λ_=>by kernel_rfl) λq ih b=>Eq.trans (b:=Jp GO (λb=>(z4 q) (t4 a b)) a b) F4 (by simp only[ih]<;>rfl)
def k:Kc P_ gl:=⟨(19,⟨H.p,H.r,Te⟩),co H func19 (λx=>Eq.trans (b:=Of (λa b=>z4 Dg (t4 a b)) x) F4 (by simp only[i4,Bd]<;>rfl))⟩
end F19
namespace F9
def H:Hd:=⟨[.lf (.list (.cons (.int .u8) (.cons (.int .i64) .nil))) none],[Sz],.d,kt [F18.k,F19.k] false,[],f9⟩
def k:Kc P_ gl:=⟨(9,⟨H.p,H.r,Eu⟩),co H func9⟩
end F9
namespace F11
def H:Hd:=⟨[Ss],[.agg [Ss,Ob 5,.agg [Si,Si,Si,Si,Si],Ol 3,Si,Ob 5,Sz,Si],Si],.d,kt [] false,[],f11⟩
def k:Kc P_ gl:=⟨(11,⟨H.p,H.r,KZ⟩),co H func11⟩
end F11
namespace F57
def MM(a:LB):Option (LB):=
xJ a (
some ([]:LB)) (
(Ck ([]:LB) a).bind λb=>
some b)
theorem nI: @MM= @Hy:=by
  unfold MM Hy
  repeat (refine funext λ_=>?_)
  repeat' first
    |with_reducible rfl
    |with_reducible refine Il ?_ ?_
    |with_reducible refine Ib ?_ ?_ ?_
    |with_reducible refine Io ?_ ?_ ?_ ?_
    |((with_reducible refine Ml ?_ ?_);focus (intro h;first|(subst h;rfl)|(simp only[h];rfl)|(simp[Ck,Ac,h];done)))
    |with_reducible refine Mf λx=>?_
    |with_reducible refine Se (λ_=>?_) (λ_=>?_)
    |(refine En (λh=>by simp only[h,Mj,Dn,Dj,ite_self]) (λx h=>?_);(try simp only[h,Dn]))
    |(refine Gm (λh=>?_) (λh=>?_)<;>simp only[h,if_true,if_false,Bool.false_eq_true])
def H:Hd:=⟨[Sb],[Ob 5],.d,kt [] false,[],f57⟩
def k:Kc P_ gl:=⟨(57,⟨H.p,H.r,Hy⟩),co H func57 (λx=>Eq.trans (b:=MM x) F4 (by simp only[nI]<;>rfl))⟩
end F57
namespace F65
def Qd(a:LI):Option (LI):=
xJ a (
some ([]:LI)) (
(Ck ([]:LI) a).bind λb=>
some b)
theorem PA: @Qd= @Gf:=by
  unfold Qd Gf
  repeat (refine funext λ_=>?_)
  repeat' first
    |with_reducible rfl
    |with_reducible refine Il ?_ ?_
    |with_reducible refine Ib ?_ ?_ ?_
    |with_reducible refine Io ?_ ?_ ?_ ?_
    |((with_reducible refine Ml ?_ ?_);focus (intro h;first|(subst h;rfl)|(simp only[h];rfl)|(simp[Ck,Ac,h];done)))
    |with_reducible refine Mf λx=>?_
    |with_reducible refine Se (λ_=>?_) (λ_=>?_)
    |(refine En (λh=>by simp only[h,Mj,Dn,Dj,ite_self]) (λx h=>?_);(try simp only[h,Dn]))
    |(refine Gm (λh=>?_) (λh=>?_)<;>simp only[h,if_true,if_false,Bool.false_eq_true])
def H:Hd:=⟨[Sl],[Ol 3],.d,kt [] false,[],f65⟩
def k:Kc P_ gl:=⟨(65,⟨H.p,H.r,Gf⟩),co H func65 (λx=>Eq.trans (b:=Qd x) F4 (by simp only[PA]<;>rfl))⟩
end F65
namespace F34
def H:Hd:=⟨[.agg [Ss,Sb,.agg [Si,Si,Si,Si,Si],Sl,Si,Sb,Sz,Si]],[.agg [Ss,Ob 5,.agg [Si,Si,Si,Si,Si],Ol 3,Si,Ob 5,Sz,Si]],.d,kt [F57.k,F65.k] false,[],f34⟩
def k:Kc P_ gl:=⟨(34,⟨H.p,H.r,u12 Dr⟩),co H func34⟩
end F34
namespace F166
def Oy(j10:LI->Option (LI))(jh:Int->LI->Option (LI))(b:Int)(a:LI):Option (LI):=
if(Cj b (Ac a))then
both (
(aK (Ac a) b (Ac a)).bind λ_=>
(aK (Ac a) 0 b).bind λ_=>
jh (Ae b (FG ((Ac a)-b) (KY a 0 (b-(0:Int))).length)) (Qr a b ((Ac a)-b) (KY a 0 (b-(0:Int))))) [
(aK (Ac a) 0 b).bind λ_=>
(aK (Ac a) b (Ac a)).bind λ_=>
jh (Ae b (FG ((Ac a)-b) (KY a 0 (b-(0:Int))).length)) (Qr a b ((Ac a)-b) (KY a 0 (b-(0:Int))))]
else
j10 a
theorem MK: @Oy= @Hg:=by
  unfold Oy Hg
  repeat (refine funext λ_=>?_)
  repeat' first
    |with_reducible rfl
    |with_reducible refine Il ?_ ?_
    |with_reducible refine Ib ?_ ?_ ?_
    |with_reducible refine Io ?_ ?_ ?_ ?_
    |((with_reducible refine Ml ?_ ?_);focus (intro h;first|(subst h;rfl)|(simp only[h];rfl)|(simp[Ck,Ac,h];done)))
    |with_reducible refine Mf λx=>?_
    |with_reducible refine Se (λ_=>?_) (λ_=>?_)
    |(refine En (λh=>by simp only[h,Mj,Dn,Dj,ite_self]) (λx h=>?_);(try simp only[h,Dn]))
    |(refine Gm (λh=>?_) (λh=>?_)<;>simp only[h,if_true,if_false,Bool.false_eq_true])
abbrev R_:=LI
def H:Hd:=⟨[Sl,Si],[Ol 3],(.seq .d (.cut [0,1] [] .d (.seq .d (.cut [0,6] [] .d (.seq .d (.seq .d (.cut [7] [] (.blk (.loop [7,8] [] (.seq .d (.blk (.mode false))))) .d))))))),kt [F79.k] true,[],f166⟩
def t8(b:Int)(a:LI):S:=⟨[(7,.own 0),(8,vi b)],[Ai 3 a],[]⟩
def z8:Nat->S->Option R_:=H.i P_ [r,r,r,r,r,r,l,d]
theorem i8:∀(q:Nat) (b:Int) (a:LI),z8 q (t8 b a)=Ey q b a:=
 ind (λ_ _=>by kernel_rfl) λq ih b a=>Eq.trans (b:=Oy Jm (λb a=>(z8 q) (t8 b a)) b a) F4 (by rw[MK];simp only[ih]<;>rfl)
def k:Kc P_ gl:=⟨(166,⟨H.p,H.r,u2 Oh⟩),co H func166 (λx=>Eq.trans (b:=u2 (Qc (Py (Qe (λb a=>z8 Dg (t8 b a))))) x) F4 (by simp only[i8,Bd]<;>rfl))⟩
end F166
namespace F191
abbrev R_:=LI
def H:Hd:=⟨[.lf (.list (.list (.int .i64))) none],[Ol 3],(.seq .d (.seq .d (.cut [0,3] [] (.seq .d (.blk (.loop [0,3,9,10,11] [] .d))) (.cut [0,6] [⟨6,[],.own 3 (.int .i64)⟩] (.keep [0,3,6,23,24] true) (.cut [6] [] (.seq .d (.blk (.loop [6,25,26,27] [] .d))) .d))))),kt [] true,[(202,(.seq .d (.cut [0,1] [] .d .d)))],f191⟩
def t14(a:List LI)(g:Int)(f:LI):S:=⟨[(6,.own 0),(25,.val (.list (.list (.int .i64))) a),(26,vi (Ac a)),(27,vi g)],[Ai 3 f],[]⟩
def z14:Nat->S->Option R_:=H.i P_ [r,r,r,r,l,r,d]
def t9(a:List LI)(b h:Int):S:=⟨[(0,.val (.list (.list (.int .i64))) a),(3,vi b),(9,.val (.list (.list (.int .i64))) a),(10,vi (Ac a)),(11,vi h)],[],[]⟩
def z9:Nat->S->Option R_:=H.i P_ [r,r,l,r,d]
def x14(a:List LI)(g:Int)(f:LI):Option R_:=H.e P_ [r,r,r,r,l,r,d] (t14 a g f)
theorem i14(a:List LI):∀(q:Nat) (g:Int) (f:LI),z14 q (t14 a g f)=Em a q g f:=
 ind (λ_ _=>by kernel_rfl) λq ih g f=>Eq.trans (b:=Gs Yc (λg f=>(z14 q) (t14 a g f)) a g f) F4 (by simp only[ih]<;>rfl)
theorem e14:x14=Ot:=by funext a g f;exact Eq.trans F4 ((i14 a Dg g f).trans (by rw[Bd];rfl))
theorem i9(a:List LI):∀(q:Nat) (b h:Int),z9 q (t9 a b h)=Ew a q b h:=
 ind (λ_ _=>by kernel_rfl) λq ih b h=>Eq.trans (b:=He (Ox (Oo (On x14))) (λb h=>(z9 q) (t9 a b h)) a b h) F4 (by simp only[e14,ih]<;>rfl)
def k:Kc P_ gl:=⟨(191,⟨H.p,H.r,Nz⟩),co H func191 (λx=>Eq.trans (b:=Qb (λa b h=>z9 Dg (t9 a b h)) x) F4 (by simp only[i9,Bd]<;>rfl))⟩
end F191
namespace F167
def H:Hd:=⟨[Sl,Sl],[Ol 3],.d,kt [F191.k] false,[],f167⟩
def k:Kc P_ gl:=⟨(167,⟨H.p,H.r,u2 RJ⟩),co H func167⟩
end F167
namespace F131
def H:Hd:=⟨[Si,Si],[Ol 3,Si],.d,kt [F86.k,F143.k,F166.k,F167.k] false,[],f131⟩
def k:Kc P_ gl:=⟨(131,⟨H.p,H.r,u2 TK⟩),co H func131⟩
end F131
namespace F97
def H:Hd:=⟨[.agg [Si,Si,Si,Si,Si]],[Ol 3,Si],.d,kt [F113.k,F131.k] false,[],f97⟩
def k:Kc P_ gl:=⟨(97,⟨H.p,H.r,u5 Dz⟩),co H func97⟩
end F97
namespace F95
def H:Hd:=⟨[.agg [Si,Si,Si,Si,Si],Ss],[Si],.d,kt [] false,[],f95⟩
def k:Kc P_ gl:=⟨(95,⟨H.p,H.r,u6 Nh⟩),co H func95⟩
end F95
namespace F77
abbrev R_:=Bool
def H:Hd:=⟨[.agg [Ss,Sb,.agg [Si,Si,Si,Si,Si],Sl,Si,Sb,Sz,Si]],[Sz],(.seq .d (.seq .d (.seq .d (.cut [1,3] [] .d (.seq .d (.seq .d (.seq .d (.cut [1,5] [] (.seq .d (.blk (.loop [1,5,83,84,85] [] .d))) .d)))))))),kt [F95.k,F97.k,F116.k] false,[],f77⟩
def t6(w:LI)(o p:LB)(h b f k m:Int)(g:LI)(a:Int)(n:LB)(u:Bool)(v y aa:Int):S:=⟨[(1,.ptr 0 []),(5,vi y),(83,vl w),(84,vi (Ac w)),(85,vi aa)],[.box 32 (.agg [vs o,vb p,.agg [vi h,vi b,vi f,vi k,vi m],vl g,vi a,vb n,vt u,vi v])],[]⟩
def z6:Nat->S->Option R_:=H.i P_ [r,r,r,r,r,r,r,l,r,d]
theorem i6(w:LI)(o p:LB)(h b f k m:Int)(g:LI)(a:Int)(n:LB)(u:Bool)(v:Int):∀(q:Nat) (y aa:Int),z6 q (t6 w o p h b f k m g a n u v y aa)=Pb w o p h b f k m g a n u v q y aa:=
 ind (λ_ _=>by kernel_rfl) λq ih y aa=>Eq.trans (b:=Zy MW (λy aa=>(z6 q) (t6 w o p h b f k m g a n u v y aa)) w o p h b f k m g a n u v y aa) F4 (by simp only[ih]<;>rfl)
def k:Kc P_ gl:=⟨(77,⟨H.p,H.r,u12 Xe⟩),co H func77 (λx=>Eq.trans (b:=u12 (NB (MV (λw o p h b f k m g a n u v y aa=>z6 Dg (t6 w o p h b f k m g a n u v y aa)))) x) F4 (by simp only[i6,Bd]<;>rfl))⟩
end F77
namespace F130
def H:Hd:=⟨[Sb,Sb],[Sz],.d,kt [] false,[],f130⟩
def k:Kc P_ gl:=⟨(130,⟨H.p,H.r,u2 Ji⟩),co H func130⟩
end F130
namespace F144
def H:Hd:=⟨[Sb,Sb],[Sz],.d,kt [F130.k] false,[],f144⟩
def k:Kc P_ gl:=⟨(144,⟨H.p,H.r,u2 Lm⟩),co H func144⟩
end F144
namespace F195
abbrev R_:=(Int×Int)
def H:Hd:=⟨[Sb],[Si,Si],(.seq .d (.seq .d (.seq .d (.cut [4] [] (.seq .d (.blk (.loop [4,10,11,12] [] .d))) .d)))),kt [] false,[],f195⟩
def t4(a:LB)(b f:Int):S:=⟨[(4,vi b),(10,vb a),(11,vi (Ac a)),(12,vi f)],[],[]⟩
def z4:Nat->S->Option R_:=H.i P_ [r,r,r,l,r,d]
theorem i4(a:LB):∀(q:Nat) (b f:Int),z4 q (t4 a b f)=Mr a q b f:=
 ind (λ_ _=>by kernel_rfl) λq ih b f=>Eq.trans (b:=Xi YG (λb f=>(z4 q) (t4 a b f)) a b f) F4 (by simp only[ih]<;>rfl)
def k:Kc P_ gl:=⟨(195,⟨H.p,H.r,JI⟩),co H func195 (λx=>Eq.trans (b:=JA (λa b f=>z4 Dg (t4 a b f)) x) F4 (by simp only[i4,Bd]<;>rfl))⟩
end F195
namespace F174
def IJ(j5:LB->UInt8->UInt8->Option (Int×Int))(a:LB):Option (Int×Int):=
(Lm a ([(73:UInt8),(68:UInt8),(51:UInt8)]:LB)).bind λn=>
if(!n)then
some (0,6)
else
if(Cj (Ac a) 10)then
some (0,24)
else
(Ah a 3).bind λf=>
(Ah a 5).bind λb=>
(λo:Option (Int×Int)=>
(λp:Option (Int×Int)=>
both (
both (
bo (
j5 a f b)) [
o,
o]) [
bo2 (
bo (
j5 a f b)),
p,
p]) (
both (
o) [
bo (
j5 a f b),
both (
bo (
j5 a f b)) [
j5 a f b]])) (
both (
j5 a f b) [
bo (
j5 a f b)])
theorem jP: @IJ= @AA:=by
  unfold IJ AA
  try simp only[MC,Vq,Wr]
  all_goals
    repeat (refine funext λ_=>?_)
    repeat' first
      |with_reducible rfl
      |with_reducible refine Il ?_ ?_
      |with_reducible refine Ib ?_ ?_ ?_
      |with_reducible refine Io ?_ ?_ ?_ ?_
      |((with_reducible refine Ml ?_ ?_);focus (intro h;first|(subst h;rfl)|(simp only[h];rfl)|(simp[Ck,Ac,h];done)))
      |with_reducible refine Mf λx=>?_
      |with_reducible refine Se (λ_=>?_) (λ_=>?_)
      |(refine En (λh=>by simp only[h,Mj,Dn,Dj,ite_self]) (λx h=>?_);(try simp only[h,Dn]))
      |(refine Gm (λh=>?_) (λh=>?_)<;>simp only[h,if_true,if_false,Bool.false_eq_true])
abbrev R_:=(Int×Int)
def H:Hd:=⟨[Sb],[Si,Si],(.seq .d (.seq .d (.seq .d (.cut [0,4,5] [] (.mode false) (.seq .d (.seq .d (.cut [0,5,6] [] (.cut [0,5,6,43] [] (.keep [0,5,6,7,8,31,32,33,34,35,36,37,38,39,40,41,42,43] true) .d) (.seq .d (.cut [0,5,6] [] .d .d))))))))),kt [F130.k,F144.k,F195.k] false,[(196,.d)],f174⟩
def x6(a:LB)(g:Int)(b:UInt8)(m:Bool):Option R_:=H.e P_ [r,r,r,r,r,r,l,r] ⟨[(0,vb a),(5,.ptr 0 []),(6,vi g),(43,vt m)],[.box 5 (vc b)],[]⟩
def x5(a:LB)(f b:UInt8):Option R_:=H.e P_ [r,r,r,r] ⟨[(0,vb a),(4,.ptr 0 []),(5,.ptr 1 [])],[.box 5 (vc f),.box 5 (vc b)],[]⟩
theorem e6:x6=MI:=F4
theorem e5:x5=MQ:=Eq.trans (b:=NG x6) F4 (by simp only[e6]<;>rfl)
def k:Kc P_ gl:=⟨(174,⟨H.p,H.r,OS⟩),co H func174 (λx=>Eq.trans (b:=IJ x5 x) F4 (by rw[jP];simp only[e5]<;>rfl))⟩
end F174
namespace F141
abbrev R_:=(UInt64×Int)
def H:Hd:=⟨[Sb],[Sq,Si],(.seq .d (.seq .d (.seq .d (.cut [4] [] (.seq .d (.blk (.loop [4,15,16,17] [] .d))) .d)))),kt [] false,[],f141⟩
def t4(a:LB)(f:UInt64)(b:Int):S:=⟨[(4,vq f),(15,vb a),(16,vi (Ac a)),(17,vi b)],[],[]⟩
def z4:Nat->S->Option R_:=H.i P_ [r,r,r,l,r,d]
theorem i4(a:LB):∀(q:Nat) (f:UInt64) (b:Int),z4 q (t4 a f b)=BT a q f b:=
 ind (λ_ _=>by kernel_rfl) λq ih f b=>Eq.trans (b:=UA uZ (λf b=>(z4 q) (t4 a f b)) a f b) F4 (by simp only[ih]<;>rfl)
def k:Kc P_ gl:=⟨(141,⟨H.p,H.r,fD⟩),co H func141 (λx=>Eq.trans (b:=iJ (λa f b=>z4 Dg (t4 a f b)) x) F4 (by simp only[i4,Bd]<;>rfl))⟩
end F141
namespace F104
def H:Hd:=⟨[Sb,Si,Si],[Sq,Si],.d,kt [F141.k] false,[],f104⟩
def k:Kc P_ gl:=⟨(104,⟨H.p,H.r,u3 YA⟩),co H func104⟩
end F104
namespace F146
abbrev R_:=LB
def H:Hd:=⟨[Si,Si,Sq],[Ob 5],(.seq .d (.seq .d (.cut [7] [] (.seq .d (.blk (.loop [7,20,21,22] [] .d))) .d))),kt [F114.k] false,[],f146⟩
def t4(a b:Int)(f:UInt64)(h:Int)(g:LB):S:=⟨[(7,.own 0),(20,.own 1),(21,vi (Ac ([(2000:UInt64),(Ad (Ae a (32:Int)):UInt64),(Ad b:UInt64),f,(0:UInt64),(0:UInt64)]:LQ))),(22,vi h)],[Ab 5 g,.arr 159 (.int .u64) ([(2000:UInt64),(Ad (Ae a (32:Int)):UInt64),(Ad b:UInt64),f,(0:UInt64),(0:UInt64)]:LQ)],[]⟩
def z4:Nat->S->Option R_:=H.i P_ [r,r,l,r,d]
theorem i4(a b:Int)(f:UInt64):∀(q:Nat) (h:Int) (g:LB),z4 q (t4 a b f h g)=BN a b f q h g:=
 ind (λ_ _=>by kernel_rfl) λq ih h g=>Eq.trans (b:=aD mR (λh g=>(z4 q) (t4 a b f h g)) a b f h g) F4 (by simp only[ih]<;>rfl)
def k:Kc P_ gl:=⟨(146,⟨H.p,H.r,u3 iT⟩),co H func146 (λx=>Eq.trans (b:=u3 (nF (λa b f h g=>z4 Dg (t4 a b f h g))) x) F4 (by simp only[i4,Bd]<;>rfl))⟩
end F146
namespace F145
def H:Hd:=⟨[Sb,Sq],[.agg [Si,Si],Sz],.d,kt [F104.k,F130.k,F146.k] false,[],f145⟩
def k:Kc P_ gl:=⟨(145,⟨H.p,H.r,u2 PQ⟩),co H func145⟩
end F145
namespace F175
def H:Hd:=⟨[Sb],[Si,Si],.d,kt [F130.k,F144.k,F145.k,F146.k] false,[],f175⟩
def k:Kc P_ gl:=⟨(175,⟨H.p,H.r,iW⟩),co H func175⟩
end F175
namespace F139
def H:Hd:=⟨[Sb],[Si,Si],.d,kt [F174.k,F175.k] false,[],f139⟩
def k:Kc P_ gl:=⟨(139,⟨H.p,H.r,Wc⟩),co H func139⟩
end F139
theorem SF:ConOk Tryz.prog gl 66 Zx:=D2 ent66 F139.k.2
namespace F64
def H:Hd:=⟨[Si],[.agg [Sz,Si]],.d,kt [] false,[],f64⟩
def k:Kc P_ gl:=⟨(64,⟨H.p,H.r,Aj⟩),co H func64⟩
end F64
namespace F140
def H:Hd:=⟨[Ss,Ss],[Sz],.d,kt [] false,[],f140⟩
def k:Kc P_ gl:=⟨(140,⟨H.p,H.r,u2 Gl⟩),co H func140⟩
end F140
namespace F103
def H:Hd:=⟨[Ss,Ss],[Sz],.d,kt [F140.k] false,[],f103⟩
def k:Kc P_ gl:=⟨(103,⟨H.p,H.r,u2 Ic⟩),co H func103⟩
end F103
namespace F94
abbrev R_:=Bool
def H:Hd:=⟨[Sb],[Sz],(.seq .d (.cut [] [] (.seq .d (.blk (.loop [0,5,6] [] .d))) .d)),kt [F103.k] false,[],f94⟩
def t4(a:LB)(b:Int):S:=⟨[(0,vb a),(5,.val (.vec 2 .str) ([([73,68,51]:LB),([65,80,69,84,65,71,69,88]:LB)]:List LB)),(6,vi b)],[],[]⟩
def z4:Nat->S->Option R_:=H.i P_ [r,l,r,d]
theorem i4(a:LB):∀(q:Nat) (b:Int),z4 q (t4 a b)=Je a q b:=
 ind (λ_=>by kernel_rfl) λq ih b=>Eq.trans (b:=Tj bY (λb=>(z4 q) (t4 a b)) a b) F4 (by simp only[ih]<;>rfl)
def k:Kc P_ gl:=⟨(94,⟨H.p,H.r,Pw⟩),co H func94 (λx=>Eq.trans (b:=MZ (λa b=>z4 Dg (t4 a b)) x) F4 (by simp only[i4,Bd]<;>rfl))⟩
end F94
namespace F67
abbrev R_:=(Int×Int×Int×Int×Int×Int)
def H:Hd:=⟨[Sb],[.agg [Si,Si,Si,Si,Si],Si],(.seq .d (.seq .d (.seq .d (.seq .d (.seq .d (.seq .d (.seq .d (.cut [2,8] [] (.seq .d (.blk (.loop [0,2,8,9,44,45] [] .d))) .d)))))))),kt [F103.k,F104.k,F105.k,F106.k,F107.k] false,[],f67⟩
def t4(b:LB)(g f:Int)(a:LI):S:=⟨[(0,vb b),(2,.ptr 0 []),(8,.ptr 1 []),(9,vi g),(44,.val (.vec 5 (.int .i64)) ([(2:Int),(2:Int),(2:Int),(4:Int),(4:Int)]:LI)),(45,vi f)],[.box 28 (.agg [vi 0,vi 0,vi 0,vi 0,vi 0]),.box 165 (.val (.vec 5 (.int .i64)) a)],[]⟩
def z4:Nat->S->Option R_:=H.i P_ [r,r,r,r,r,r,r,l,r,d]
theorem i4(b:LB):∀(q:Nat) (g f:Int) (a:LI),z4 q (t4 b g f a)=Mz b q g f a:=
 ind (λ_ _ _=>by kernel_rfl) λq ih g f a=>Eq.trans (b:=DO DN (λg f a=>(z4 q) (t4 b g f a)) b g f a) F4 (by simp only[ih]<;>rfl)
def k:Kc P_ gl:=⟨(67,⟨H.p,H.r,Pk⟩),co H func67 (λx=>Eq.trans (b:=RX (λb g f a=>z4 Dg (t4 b g f a)) x) F4 (by simp only[i4,Bd]<;>rfl))⟩
end F67
namespace F96
def H:Hd:=⟨[Sb,Ss],[Sz,Si],.d,kt [F72.k,F130.k] false,[],f96⟩
def k:Kc P_ gl:=⟨(96,⟨H.p,H.r,u2 FR⟩),co H func96⟩
end F96
namespace F98
abbrev R_:=(LI×Int)
def H:Hd:=⟨[Sb,Si],[Ol 3,Si],(.seq .d (.seq .d (.seq .d (.seq .d (.seq .d (.seq .d (.cut [10] [] (.seq .d (.blk (.loop [0,10,48,49] [] .d))) .d))))))),kt [F104.k,F105.k,F116.k] false,[],f98⟩
def t4(a:LB)(f:LI)(g:Int)(b:LI):S:=⟨[(0,vb a),(10,.own 0),(48,vi (Ac f)),(49,vi g)],[Ai 3 b],[]⟩
def z4:Nat->S->Option R_:=H.i P_ [r,r,r,r,r,r,l,r,d]
theorem i4(a:LB)(f:LI):∀(q:Nat) (g:Int) (b:LI),z4 q (t4 a f g b)=Tp a f q g b:=
 ind (λ_ _=>by kernel_rfl) λq ih g b=>Eq.trans (b:=JH JD (λg b=>(z4 q) (t4 a f g b)) a f g b) F4 (by simp only[ih]<;>rfl)
def k:Kc P_ gl:=⟨(98,⟨H.p,H.r,u2 RL⟩),co H func98 (λx=>Eq.trans (b:=u2 (WI (λa f g b=>z4 Dg (t4 a f g b))) x) F4 (by simp only[i4,Bd]<;>rfl))⟩
end F98
namespace F100
def H:Hd:=⟨[.agg [Si,Si,Si,Si,Si]],[.agg [Si,Si]],.d,kt [] false,[],f100⟩
def k:Kc P_ gl:=⟨(100,⟨H.p,H.r,u5 Zg⟩),co H func100⟩
end F100
namespace F132
def H:Hd:=⟨[Sb],[Sb,Si],.d,kt [F105.k,F141.k] false,[],f132⟩
def k:Kc P_ gl:=⟨(132,⟨H.p,H.r,EN⟩),co H func132⟩
end F132
namespace F133
def H:Hd:=⟨[Sb],[.agg [Ob 5,Si],Si],.d,kt [F82.k] false,[],f133⟩
def k:Kc P_ gl:=⟨(133,⟨H.p,H.r,Z2⟩),co H func133⟩
end F133
namespace F170
abbrev R_:=UInt64
def H:Hd:=⟨[.agg [Sb,Si],Si,Si],[Sq],(.seq .d (.seq .d (.cut [7] [] (.blk (.loop [1,2,3,7,8] [] .d)) .d))),kt [] false,[],f170⟩
def t4(b f:Int)(h:LB)(k:Int)(g:UInt64)(a:Int):S:=⟨[(1,vi b),(2,vi f),(3,.ptr 0 []),(7,vq g),(8,vi a)],[.box 197 (.agg [vb h,vi k])],[]⟩
def z4:Nat->S->Option R_:=H.i P_ [r,r,l,d]
theorem i4(b f:Int)(h:LB)(k:Int):∀(q:Nat) (g:UInt64) (a:Int),z4 q (t4 b f h k g a)=KN b f h k q g a:=
 ind (λ_ _=>by kernel_rfl) λq ih g a=>Eq.trans (b:=gB vO (λg a=>(z4 q) (t4 b f h k g a)) b f h k g a) F4 (by simp only[ih]<;>rfl)
def k:Kc P_ gl:=⟨(170,⟨H.p,H.r,u4 qM⟩),co H func170 (λx=>Eq.trans (b:=u4 (uJ (λb f h k g a=>z4 Dg (t4 b f h k g a))) x) F4 (by simp only[i4,Bd]<;>rfl))⟩
end F170
namespace F168
abbrev R_:=(LB×Int×Int)
abbrev K_:=S->Option R_
def H:Hd:=⟨[.agg [Sb,Si],Si,Si],[.agg [Ob 5,Si],Si],(.seq .d (.seq .d (.seq .d (.seq .d (.cut [6,8] [] (.seq .d (.blk (.loop [2,3,6,8,9] [⟨8,[0],.own 5 (.int .u8)⟩] (.seq .d (.cut [2,3,6,8,9] [] (.blk (.seq .d (.keep [2,3,6,8,9,10,39,40,41,42,43] true))) .d))))) .d))))),kt [F160.k,F170.k] false,[(187,(.blk (.loop [0,1,2] [] (.seq .d (.blk (.cut [0,1,2] [] .d (.seq .d (.cut [0,1,2,7] [] .d .d))))))))],f168⟩
def t44(a:Int)(g:LB)(b f:Int)(m n:UInt64)(k h:Int)(u:LB):S:=⟨[(0,.ptr 0 []),(1,vq n),(2,vi k)],[.box 197 (.agg [.own 3,vi h]),.box 197 (.agg [vb g,vi b]),.box 197 (.agg [.nils,vi 0]),Ab 5 u],[[(2,vi a),(3,.ptr 1 []),(6,.ptr 2 []),(8,.ptr 0 []),(9,vi f),(10,vi (Dx (64:Int) (Al a f))),(39,.agg [vb g,vi b]),(40,vi f),(41,vi (Dx (64:Int) (Al a f))),(42,vq m),(43,vi (Dx (64:Int) (Al a f)))]]⟩
def z44(NL:K_):Nat->S->Option R_:=H.i P_ [r,r,r,r,l,r,d,(lp NL),r,l,d,r,(call 5 187),d]
def t27(a:Int)(g:LB)(b f o:Int)(p:LB):S:=⟨[(2,vi a),(3,.ptr 0 []),(6,.ptr 1 []),(8,.ptr 2 []),(9,vi f)],[.box 197 (.agg [vb g,vi b]),.box 197 (.agg [.nils,vi 0]),.box 197 (.agg [.own 3,vi o]),Ab 5 p],[]⟩
def z27:Nat->S->Option R_:=H.i P_ [r,r,r,r,l,r,d]
def x44(NL:K_)(a:Int)(g:LB)(b f:Int)(m n:UInt64)(k h:Int)(u:LB):Option R_:=H.e P_ [r,r,r,r,l,r,d,(lp NL),r,l,d,r,(call 5 187),d] (t44 a g b f m n k h u)
theorem i44(NL:K_)(a:Int)(g:LB)(b f:Int)(m:UInt64):∀(q:Nat) (n:UInt64) (k h:Int) (u:LB),z44 NL q (t44 a g b f m n k h u)=Pm (λf o p=>NL (t27 a g b f o p)) a g b f m q n k h u:=
 ind (λ_ _ _ _=>by kernel_rfl) λq ih n k h u=>Eq.trans (b:=OX (OY (λn k h u=>(z44 NL q) (t44 a g b f m n k h u)) a f g b m) (OR (λf o p=>NL (t27 a g b f o p)) a g b) a g b f m n k h u) F4 (by simp only[ih]<;>rfl)
theorem e44(NL:K_)(a:Int)(g:LB)(b:Int):x44 NL a g b=aW (λf o p=>NL (t27 a g b f o p)) a g b:=by funext f m n k h u;exact Eq.trans F4 ((i44 NL a g b f m Dg n k h u).trans (by rw[Bd];rfl))
theorem i27(a:Int)(g:LB)(b:Int):∀(q:Nat) (f o:Int) (p:LB),z27 q (t27 a g b f o p)=Xd a g b q f o p:=
 ind (λ_ _ _=>by kernel_rfl) λq ih f o p=>Eq.trans (b:=aR (x44 (z27 q) a g b) ZP a g b f o p) F4 (by simp only[e44,ih]<;>rfl)
def k:Kc P_ gl:=⟨(168,⟨H.p,H.r,u4 fY⟩),co H func168 (λx=>Eq.trans (b:=u4 (gG (λa g b f o p=>z27 Dg (t27 a g b f o p))) x) F4 (by simp only[i27,Bd]<;>rfl))⟩
end F168
namespace F135
def H:Hd:=⟨[.agg [Sb,Si],Si,Si],[Sq,Si],.d,kt [F160.k,F170.k] false,[],f135⟩
def k:Kc P_ gl:=⟨(135,⟨H.p,H.r,u4 FB⟩),co H func135⟩
end F135
namespace F208
def H:Hd:=⟨[Sq],[Si],.d,kt [] false,[],f208⟩
def k:Kc P_ gl:=⟨(208,⟨H.p,H.r,Gq⟩),co H func208⟩
end F208
namespace F203
def SW(j6:Int->UInt64->Int->LB->Int->Option (Int×Int×Int))(g:LB)(b a:Int):Option (Int×Int×Int):=
(Kk g b).bind λm=>
if(Bi m 0)then
some (0,0,m)
else
if(Cj a 0)then
some (0,0,2)
else
if(Kq a b)then
some (0,0,24)
else
(λn:Option (Int×Int×Int)=>
(λo:Option (Int×Int×Int)=>
bo2 (
o)) (
bo (
n))) (
(FB g b a (Dx 48 (Al b a))).bind λ(k,h)=>
j6 h k a g b)
theorem oD: @SW= @Zr:=by
  unfold SW Zr;simp only[MC,Vq,Wr]
abbrev R_:=(Int×Int×Int)
def H:Hd:=⟨[.agg [Sb,Si],Si],[Si,Si,Si],(.seq .d (.seq .d (.seq .d (.seq .d (.seq .d (.cut [3,5,6,8,9] [] (.keep [2,3,5,6,8,9,22,23,24,25,26,27,28,29] false) (.seq .d (.seq .d (.cut [] [] (.blk (.seq (.blk (.seq (.blk (.cut [] [] (.cut [3,4,5] [] (.cut [3,4,5,36] [] (.keep [3,4,5,8,36,37,38,39,40] true) .d) .d) .d)) .d)) .d)) .d))))))))),kt [F135.k,F160.k,F208.k] false,[(207,.d)],f203⟩
def k:Kc P_ gl:=⟨(203,⟨H.p,H.r,u3 IV⟩),co H func203 (λx=>Eq.trans (b:=u3 (SW VO) x) F4 (by simp only[oD]<;>rfl))⟩
end F203
namespace F192
abbrev R_:=(UInt32×Int×Int)
def H:Hd:=⟨[.agg [Sb,Si],Si,Si],[Su,Si,Si],(.seq .d (.seq .d (.seq .d (.seq .d (.seq .d (.seq .d (.cut [2,3,7,10,11] [] .d .d))))))),kt [F135.k,F160.k,F188.k,F203.k] false,[],f192⟩
def k:Kc P_ gl:=⟨(192,⟨H.p,H.r,u4 jC⟩),co H func192⟩
end F192
namespace F169
abbrev R_:=(UInt32×Int×Int×Int×UInt64×UInt64×Int)
def H:Hd:=⟨[.agg [Sb,Si],Si,.agg [Si,Si,Sq,Sq]],[Su,Si,.agg [Si,Si,Sq,Sq],Si],(.seq .d (.cut [1,3,5,8] [] .d (.seq .d (.seq .d (.cut [5,6,7,8] [] .d (.cut [5,6,7,8] [] (.keep [5,6,7,8,81] true) .d)))))),kt [F135.k,F160.k,F161.k,F162.k,F192.k] false,[(165,(.seq .d (.seq .d (.seq .d (.blk (.cut [0,1,4] [] (.blk (.seq .d (.keep [0,1,4,6,18,19,20,21,22,23,24,25] true))) (.cut [] [] (.keep [0,1,4,27,28,29,30,31,32,33,34] true) .d))))))),(190,.d)],f169⟩
def x8(f:UInt32)(k a:Int)(b:UInt64)(m:Int)(n:UInt64):Option R_:=H.e P_ [r,r,r,r,r,l,(call 1 165),r,r,r,d,r] ⟨[(0,.ptr 0 []),(1,vu f),(4,.fn 190 [])],[.box 193 (.agg [vi a,vi m,vq b,vq n]),.box 193 (.agg [vi 0,vi 0,vq 0,vq 0])],[[(5,.ptr 0 []),(6,vu f),(7,vi k),(8,.ptr 1 []),(81,vu f)]]⟩
theorem e8:x8=FY:=F4
def k:Kc P_ gl:=⟨(169,⟨H.p,H.r,u7 IK⟩),co H func169 (λx=>Eq.trans (b:=u7 (bI (ZX (ZQ x8))) x) F4 (by simp only[e8]<;>rfl))⟩
end F169
namespace F134
def Ym(j21:Int->Int->Int->UInt32->Int-> (List (Int×Int×UInt64×UInt64×Unit))->LU->Int->Int->UInt64->UInt64->Option (LU×Int×Int))(j24:Int->LU->Option (LU×Int×Int))(a f:Int)(g:LB)(b k h:Int)(m:List (Int×Int×UInt64×UInt64×Unit))(n:LU):Option (LU×Int×Int):=
if(Cj h (Ce f a))then
(fY g b k (Dx (Ae k 81) b)).bind λ(ag,ae,af)=>
if(Bi af 0)then
some (([]:LU),0,af)
else
(Jd (Bi a 0)).bind λ_=>
(Ah m (Hk h a)).bind λ_=>
(λai:Option (LU×Int×Int)=>
both (
both (
(Ah m (Hk h a)).bind λo=>
(λao:Option (LU×Int×Int)=>
bo (
ao)) (
(IK ag ae 0 o.1 o.2.1 o.2.2.1 o.2.2.2.1).bind λ(w,v,aa,ab,ac,ad,y)=>
j21 k h y w v m n aa ab ac ad)) [
ai]) [
(Ah m (Hk h a)).bind λo=>
(λaj:Option (LU×Int×Int)=>
both (
bo (
aj)) [
aj]) (
(IK ag ae 0 o.1 o.2.1 o.2.2.1 o.2.2.2.1).bind λ(w,v,aa,ab,ac,ad,y)=>
j21 k h y w v m n aa ab ac ad),
bo (
ai)]) (
(Ah m (Hk h a)).bind λo=>
(IK ag ae 0 o.1 o.2.1 o.2.2.1 o.2.2.2.1).bind λ(w,v,aa,ab,ac,ad,y)=>
j21 k h y w v m n aa ab ac ad)
else
j24 k n
theorem bE: @Ym= @Tc:=by
  unfold Ym Tc
  try simp only[MC,Vq,Wr]
  all_goals
    repeat (refine funext λ_=>?_)
    repeat' first
      |with_reducible rfl
      |with_reducible refine Il ?_ ?_
      |with_reducible refine Ib ?_ ?_ ?_
      |with_reducible refine Io ?_ ?_ ?_ ?_
      |((with_reducible refine Ml ?_ ?_);focus (intro h;first|(subst h;rfl)|(simp only[h];rfl)|(simp[Ck,Ac,h];done)))
      |with_reducible refine Mf λx=>?_
      |with_reducible refine Se (λ_=>?_) (λ_=>?_)
      |(refine En (λh=>by simp only[h,Mj,Dn,Dj,ite_self]) (λx h=>?_);(try simp only[h,Dn]))
      |(refine Gm (λh=>?_) (λh=>?_)<;>simp only[h,if_true,if_false,Bool.false_eq_true])
abbrev R_:=(LU×Int×Int)
abbrev K_:=S->Option R_
def H:Hd:=⟨[Si,Si,.agg [Sb,Si]],[Ov 162,Si,Si],(.seq .d (.seq .d (.cut [0,1,5,9] [] (.seq .d (.blk (.loop [0,1,5,9,19] [] .d))) (.seq .d (.seq .d (.cut [11,12] [] (.seq .d (.blk (.loop [0,5,9,11,12,28,29] [⟨11,[],.own 162 (.int .u32)⟩] (.seq .d (.seq .d (.seq (.blk (.seq .d (.seq .d (.seq .d (.cut [0,5,9,11,12,13,15,16,17,18,28,29] [] (.mode false) (.seq .d (.cut [0,5,9,11,12,16,28,29] [] .d .d))))))) .d)))))) .d)))))),kt [F159.k,F168.k,F169.k] false,[],f134⟩
def t16(a f:Int)(g:LB)(b k h:Int)(m:List (Int×Int×UInt64×UInt64×Unit))(n:LU):S:=⟨[(0,vi a),(5,.ptr 0 []),(9,.ptr 1 []),(11,.own 2),(12,vi k),(28,vi (Ce f a)),(29,vi h)],[.box 197 (.agg [vb g,vi b]),.box 194 (.val (.vec 6 (.cons (.int .i64) (.cons (.int .i64) (.cons (.int .u64) (.cons (.int .u64) .nil))))) m),Av 162 n],[]⟩
def z16:Nat->S->Option R_:=H.i P_ [r,r,r,r,r,l,r,d]
def t13(a f:Int)(g:LB)(b u:Int)(p:List (Int×Int×UInt64×UInt64×Unit)):S:=⟨[(0,vi a),(1,vi f),(5,.ptr 0 []),(9,.ptr 1 []),(19,vi u)],[.box 197 (.agg [vb g,vi b]),.box 194 (.val (.vec 6 (.cons (.int .i64) (.cons (.int .i64) (.cons (.int .u64) (.cons (.int .u64) .nil))))) p)],[]⟩
def z13:Nat->S->Option R_:=H.i P_ [r,r,l,r,d]
def x16(a f:Int)(g:LB)(b k h:Int)(m:List (Int×Int×UInt64×UInt64×Unit))(n:LU):Option R_:=H.e P_ [r,r,r,r,r,l,r,d] (t16 a f g b k h m n)
theorem i16(a f:Int)(g:LB)(b:Int):∀(q:Nat) (k h:Int) (m:List (Int×Int×UInt64×UInt64×Unit)) (n:LU),z16 q (t16 a f g b k h m n)=My a f g b q k h m n:=
 ind (λ_ _ _ _=>by kernel_rfl) λq ih k h m n=>Eq.trans (b:=Ym (Sg (λk h m n=>(z16 q) (t16 a f g b k h m n)) a f g b) SA a f g b k h m n) F4 (by rw[bE];simp only[ih]<;>rfl)
theorem e16:x16=SN:=by funext a f g b k h m n;exact Eq.trans F4 ((i16 a f g b Dg k h m n).trans (by rw[Bd];rfl))
theorem i13(a f:Int)(g:LB)(b:Int):∀(q:Nat) (u:Int) (p:List (Int×Int×UInt64×UInt64×Unit)),z13 q (t13 a f g b u p)=AL a f g b q u p:=
 ind (λ_ _=>by kernel_rfl) λq ih u p=>Eq.trans (b:=QJ (QB x16) (λu p=>(z13 q) (t13 a f g b u p)) a f g b u p) F4 (by simp only[e16,ih]<;>rfl)
def k:Kc P_ gl:=⟨(134,⟨H.p,H.r,u4 EK⟩),co H func134 (λx=>Eq.trans (b:=u4 (EJ (λa f g b u p=>z13 Dg (t13 a f g b u p))) x) F4 (by simp only[i13,Bd]<;>rfl))⟩
end F134
namespace F172
def H:Hd:=⟨[Su],[Sx],.d,kt [] false,[],f172⟩
def k:Kc P_ gl:=⟨(172,⟨H.p,H.r,Xq⟩),co H func172⟩
end F172
namespace F193
def H:Hd:=⟨[.agg [Si,.lf (.vec 16 (.int .i32)) none,.lf (.vec 16 (.int .i32)) none],Sx],[Sx,.agg [Si,.lf (.vec 16 (.int .i32)) none,.lf (.vec 16 (.int .i32)) none],Si],.d,kt [F199.k,F200.k] false,[],f193⟩
def k:Kc P_ gl:=⟨(193,⟨H.p,H.r,u4 iA⟩),co H func193⟩
end F193
namespace F171
def RD(a:Int)(b:Int32)(f:Int)(g h:LX)(o:Int32):Option (Int32×Int×Int32×Int×LX×LX×Int):=
(Wd a b f g h).bind λk=>
if(Bi k 0)then
some (0,0,0,0,(List.replicate 16 (0:Int32)),(List.replicate 16 (0:Int32)),k)
else
(Wg a b).bind λ(m,y)=>
(iA f g h o).bind λ(n,p,u,v,w)=>
(λaa:Option (Int32×Int×Int32×Int×LX×LX×Int)=>
bo (
aa)) (
some ((Ae n m),a,(Ae n m),p,u,v,w))
theorem pA: @RD= @Lo:=by
  unfold RD Lo;simp only[MC,Vq,Wr]
def H:Hd:=⟨[.agg [Si,Sx,.agg [Si,.lf (.vec 16 (.int .i32)) none,.lf (.vec 16 (.int .i32)) none]],Sx],[Sx,.agg [Si,Sx,.agg [Si,.lf (.vec 16 (.int .i32)) none,.lf (.vec 16 (.int .i32)) none]],Si],(.seq .d (.seq .d (.seq .d (.seq .d (.seq (.mode false) .d))))),kt [F183.k,F184.k,F193.k] false,[],f171⟩
def k:Kc P_ gl:=⟨(171,⟨H.p,H.r,u6 Lo⟩),co H func171 (λx=>Eq.trans (b:=u6 RD x) F4 (by simp only[pA]<;>rfl))⟩
end F171
namespace F173
abbrev R_:=(LX×Int)
abbrev K_:=S->Option R_
def H:Hd:=⟨[Si,Sw],[Ow 21,Si],(.seq .d (.seq .d (.seq .d (.cut [7] [] (.seq .d (.blk (.loop [0,7,8] [] (.seq .d (.cut [0,7,8] [] (.blk (.keep [0,7,8,24,25,26,27,28,29] true)) .d))))) .d)))),kt [F122.k,F180.k] true,[(194,(.seq .d (.cut [0,2] [] .d (.seq .d (.blk (.loop [0,3] [] .d))))))],f173⟩
def t18(b a g:Int)(h:LX):S:=⟨[(0,.view true 0 [] (.int .i32) a ((Ae a b)-a)),(3,vi g)],[Aw 21 h],[[(0,vi b),(7,.own 0),(8,vi a),(24,.own 0),(25,vi a),(26,vi a),(27,vi b),(28,vi (Ae a b)),(29,.view true 0 [] (.int .i32) a ((Ae a b)-a))]]⟩
def z18(NK:K_):Nat->S->Option R_:=H.i P_ [r,r,r,l,r,d,(lp NK),r,l,d,(call 6 194),r,r,r,d]
def t12(b a:Int)(f:LX):S:=⟨[(0,vi b),(7,.own 0),(8,vi a)],[Aw 21 f],[]⟩
def z12:Nat->S->Option R_:=H.i P_ [r,r,r,l,r,d]
def x18(NK:K_)(b a g:Int)(h:LX):Option R_:=H.e P_ [r,r,r,l,r,d,(lp NK),r,l,d,(call 6 194),r,r,r,d] (t18 b a g h)
theorem i18(NK:K_)(b a:Int):∀(q:Nat) (g:Int) (h:LX),z18 NK q (t18 b a g h)=Xn (λa f=>NK (t12 b a f)) b a q g h:=
 ind (λ_ _=>by kernel_rfl) λq ih g h=>Eq.trans (b:=OU (aL (λa f=>NK (t12 b a f)) b) (λg h=>(z18 NK q) (t18 b a g h)) b a g h) F4 (by simp only[ih]<;>rfl)
theorem e18(NK:K_)(b:Int):x18 NK b=ZO (λa f=>NK (t12 b a f)) b:=by funext a g h;exact Eq.trans F4 ((i18 NK b a Dg g h).trans (by rw[Bd];rfl))
theorem i12(b:Int):∀(q:Nat) (a:Int) (f:LX),z12 q (t12 b a f)=Sm b q a f:=
 ind (λ_ _=>by kernel_rfl) λq ih a f=>Eq.trans (b:=ZK (ZE (x18 (z12 q) b) b) oT b a f) F4 (by simp only[e18,ih]<;>rfl)
def k:Kc P_ gl:=⟨(173,⟨H.p,H.r,u2 pF⟩),co H func173 (λx=>Eq.trans (b:=u2 (iG (λb a f=>z12 Dg (t12 b a f))) x) F4 (by simp only[i12,Bd]<;>rfl))⟩
end F173
namespace F136
def Wo(j16:Int->Int32->Int-> (List (Int×Int32×(Int×LX×LX×Unit)×Unit))->LX->Int->Int32->Int->LX->LX->Option (LX×Int))(j18:Int->Int->LX->Option (LX×Int))(f:LU)(a b g:Int)(h:List (Int×Int32×(Int×LX×LX×Unit)×Unit))(k:LX):Option (LX×Int):=
if(Cj g (Ac f))then
(Ah f g).bind λag=>
(Jd (Bi a 0)).bind λ_=>
(Ah h (Hk g a)).bind λ_=>
both (
(Ah h (Hk g a)).bind λm=>
both (
(Xq ag).bind λae=>
(λao:Option (LX×Int)=>
bo (
ao)) (
(Lo m.1 m.2.1 m.2.2.1.1 m.2.2.1.2.1 m.2.2.1.2.2.1 ae).bind λ(y,aa,w,ab,ac,ad,v)=>
j16 g y v h k aa w ab ac ad)) [
(Xq ag).bind λae=>
(Lo m.1 m.2.1 m.2.2.1.1 m.2.2.1.2.1 m.2.2.1.2.2.1 ae).bind λ(y,aa,w,ab,ac,ad,v)=>
j16 g y v h k aa w ab ac ad]) [
(Xq ag).bind λaf=>
both (
(Ah h (Hk g a)).bind λu=>
(λap:Option (LX×Int)=>
bo (
ap)) (
(Lo u.1 u.2.1 u.2.2.1.1 u.2.2.1.2.1 u.2.2.1.2.2.1 af).bind λ(y,aa,w,ab,ac,ad,v)=>
j16 g y v h k aa w ab ac ad)) [
(Ah h (Hk g a)).bind λu=>
(Lo u.1 u.2.1 u.2.2.1.1 u.2.2.1.2.1 u.2.2.1.2.2.1 af).bind λ(y,aa,w,ab,ac,ad,v)=>
j16 g y v h k aa w ab ac ad],
both (
(Ah h (Hk g a)).bind λm=>
(Xq ag).bind λae=>
(Lo m.1 m.2.1 m.2.2.1.1 m.2.2.1.2.1 m.2.2.1.2.2.1 ae).bind λ(y,aa,w,ab,ac,ad,v)=>
j16 g y v h k aa w ab ac ad) [
(Xq ag).bind λaf=>
(Ah h (Hk g a)).bind λu=>
(Lo u.1 u.2.1 u.2.2.1.1 u.2.2.1.2.1 u.2.2.1.2.2.1 af).bind λ(y,aa,w,ab,ac,ad,v)=>
j16 g y v h k aa w ab ac ad]]
else
j18 a b k
theorem WR: @Wo= @Lt:=by
  unfold Wo Lt
  try simp only[MC,Vq,Wr]
  all_goals
    repeat (refine funext λ_=>?_)
    repeat' first
      |with_reducible rfl
      |with_reducible refine Il ?_ ?_
      |with_reducible refine Ib ?_ ?_ ?_
      |with_reducible refine Io ?_ ?_ ?_ ?_
      |((with_reducible refine Ml ?_ ?_);focus (intro h;first|(subst h;rfl)|(simp only[h];rfl)|(simp[Ck,Ac,h];done)))
      |with_reducible refine Mf λx=>?_
      |with_reducible refine Se (λ_=>?_) (λ_=>?_)
      |(refine En (λh=>by simp only[h,Mj,Dn,Dj,ite_self]) (λx h=>?_);(try simp only[h,Dn]))
      |(refine Gm (λh=>?_) (λh=>?_)<;>simp only[h,if_true,if_false,Bool.false_eq_true])
abbrev R_:=(LX×Int)
abbrev K_:=S->Option R_
def H:Hd:=⟨[.agg [Si,Si],.lf (.vec 16 (.int .i32)) none,Sv],[Ow 21,Si],(.seq .d (.seq .d (.cut [2,3,8] [] (.seq .d (.blk (.loop [2,3,4,8,20] [] .d))) (.seq .d (.cut [3,10] [] (.seq .d (.blk (.loop [3,8,10,33,34,35] [⟨10,[],.own 21 (.int .i32)⟩] (.seq .d (.seq .d (.seq (.blk (.seq .d (.seq .d (.cut [3,8,10,13,14,15,16,33,34,35] [] (.mode false) .d)))) .d)))))) .d))))),kt [F137.k,F156.k,F171.k,F172.k,F173.k] false,[],f136⟩
def t13(f:LU)(a b g:Int)(h:List (Int×Int32×(Int×LX×LX×Unit)×Unit))(k:LX):S:=⟨[(3,.ptr 0 []),(8,.ptr 1 []),(10,.own 2),(33,vv f),(34,vi (Ac f)),(35,vi g)],[.box 57 (.agg [vi a,vi b]),.box 235 (.val (.vec 6 (.cons (.int .i64) (.cons (.int .i32) (.cons (.cons (.int .i64) (.cons (.vec 16 (.int .i32)) (.cons (.vec 16 (.int .i32)) .nil))) .nil)))) h),Aw 21 k],[]⟩
def z13:Nat->S->Option R_:=H.i P_ [r,r,r,r,l,r,d]
def t10(f:LU)(a b:Int)(o:LX)(p:Int)(n:List (Int×Int32×(Int×LX×LX×Unit)×Unit)):S:=⟨[(2,vv f),(3,.ptr 0 []),(4,.ptr 1 []),(8,.ptr 2 []),(20,vi p)],[.box 57 (.agg [vi a,vi b]),.box 140 (.val (.vec 16 (.int .i32)) o),.box 235 (.val (.vec 6 (.cons (.int .i64) (.cons (.int .i32) (.cons (.cons (.int .i64) (.cons (.vec 16 (.int .i32)) (.cons (.vec 16 (.int .i32)) .nil))) .nil)))) n)],[]⟩
def z10:Nat->S->Option R_:=H.i P_ [r,r,l,r,d]
def x13(f:LU)(a b g:Int)(h:List (Int×Int32×(Int×LX×LX×Unit)×Unit))(k:LX):Option R_:=H.e P_ [r,r,r,r,l,r,d] (t13 f a b g h k)
theorem i13(f:LU)(a b:Int):∀(q:Nat) (g:Int) (h:List (Int×Int32×(Int×LX×LX×Unit)×Unit)) (k:LX),z13 q (t13 f a b g h k)=Ja f a b q g h k:=
 ind (λ_ _ _=>by kernel_rfl) λq ih g h k=>Eq.trans (b:=Wo (Yo (λg h k=>(z13 q) (t13 f a b g h k)) a f b) Lu f a b g h k) F4 (by rw[WR];simp only[ih]<;>rfl)
theorem e13:x13=OQ:=by funext f a b g h k;exact Eq.trans F4 ((i13 f a b Dg g h k).trans (by rw[Bd];rfl))
theorem i10(f:LU)(a b:Int)(o:LX):∀(q:Nat) (p:Int) (n:List (Int×Int32×(Int×LX×LX×Unit)×Unit)),z10 q (t10 f a b o p n)=Yy f a b o q p n:=
 ind (λ_ _=>by kernel_rfl) λq ih p n=>Eq.trans (b:=OM (OI x13) (λp n=>(z10 q) (t10 f a b o p n)) f a b o p n) F4 (by simp only[e13,ih]<;>rfl)
def k:Kc P_ gl:=⟨(136,⟨H.p,H.r,u4 Tk⟩),co H func136 (λx=>Eq.trans (b:=u4 (BH (λf a b o p n=>z10 Dg (t10 f a b o p n))) x) F4 (by simp only[i10,Bd]<;>rfl))⟩
end F136
namespace F99
def H:Hd:=⟨[.agg [Si,Si],.lf (.vec 16 (.int .i32)) none,Si,Sb],[Ow 21,Si],.d,kt [F87.k,F132.k,F133.k,F134.k,F135.k,F136.k] false,[],f99⟩
def k:Kc P_ gl:=⟨(99,⟨H.p,H.r,u5 Qq⟩),co H func99⟩
end F99
namespace F101
abbrev R_:=(LB×Int)
abbrev K_:=S->Option R_
def H:Hd:=⟨[Si,Sw],[Ob 5,Si],(.seq .d (.seq .d (.seq .d (.cut [7] [] (.seq .d (.blk (.loop [0,7,17,18,19] [⟨7,[],.own 5 (.int .u8)⟩] (.seq .d (.seq .d (.cut [0,7,17,18,19] [] (.blk (.seq .d (.cut [0,7,9,17,18,19] [] .d (.seq .d (.blk (.loop [0,7,9,17,18,19,28,29] [] .d)))))) .d)))))) .d)))),kt [F137.k] false,[],f101⟩
def t26(b:Int)(a:LX)(k:Int32)(f m:Int)(h:LB):S:=⟨[(0,vi b),(7,.own 0),(9,vx k),(17,vw a),(18,vi (Ac a)),(19,vi f),(28,vi (Cq b (8:Int))),(29,vi m)],[Ab 5 h],[]⟩
def z26(Lq:K_):Nat->S->Option R_:=H.i P_ [r,r,r,l,r,d,(lp Lq),r,r,l,d,r,r,r,d]
def t16(b:Int)(a:LX)(f:Int)(g:LB):S:=⟨[(0,vi b),(7,.own 0),(17,vw a),(18,vi (Ac a)),(19,vi f)],[Ab 5 g],[]⟩
def z16:Nat->S->Option R_:=H.i P_ [r,r,r,l,r,d]
def x26(Lq:K_)(b:Int)(a:LX)(k:Int32)(f m:Int)(h:LB):Option R_:=H.e P_ [r,r,r,l,r,d,(lp Lq),r,r,l,d,r,r,r,d] (t26 b a k f m h)
theorem i26(Lq:K_)(b:Int)(a:LX)(k:Int32)(f:Int):∀(q:Nat) (m:Int) (h:LB),z26 Lq q (t26 b a k f m h)=Jh (λf g=>Lq (t16 b a f g)) b a k f q m h:=
 ind (λ_ _=>by kernel_rfl) λq ih m h=>Eq.trans (b:=Zz (MR (λf g=>Lq (t16 b a f g)) b a) (λm h=>(z26 Lq q) (t26 b a k f m h)) b a k f m h) F4 (by simp only[ih]<;>rfl)
theorem e26(Lq:K_)(b:Int)(a:LX):x26 Lq b a=NJ (λf g=>Lq (t16 b a f g)) b a:=by funext k f m h;exact Eq.trans F4 ((i26 Lq b a k f Dg m h).trans (by rw[Bd];rfl))
theorem i16(b:Int)(a:LX):∀(q:Nat) (f:Int) (g:LB),z16 q (t16 b a f g)=Gi b a q f g:=
 ind (λ_ _=>by kernel_rfl) λq ih f g=>Eq.trans (b:=AE (MH (x26 (z16 q) b a) b a) cR b a f g) F4 (by simp only[e26,ih]<;>rfl)
def k:Kc P_ gl:=⟨(101,⟨H.p,H.r,u2 Rq⟩),co H func101 (λx=>Eq.trans (b:=u2 (RT (λb a f g=>z16 Dg (t16 b a f g))) x) F4 (by simp only[i16,Bd]<;>rfl))⟩
end F101
namespace F150
abbrev R_:=Int
def H:Hd:=⟨[Sl,Si],[Si],(.seq .d (.cut [] [] (.seq .d (.blk (.loop [0,1,7,8] [] .d))) .d)),kt [] false,[],f150⟩
def t4(a:LI)(b f:Int):S:=⟨[(0,vl a),(1,vi b),(7,vi (Ac a)),(8,vi f)],[],[]⟩
def z4:Nat->S->Option R_:=H.i P_ [r,l,r,d]
theorem i4(a:LI)(b:Int):∀(q:Nat) (f:Int),z4 q (t4 a b f)=Bw a b q f:=
 ind (λ_=>by kernel_rfl) λq ih f=>Eq.trans (b:=Ej Mn (λf=>(z4 q) (t4 a b f)) a b f) F4 (by simp only[ih]<;>rfl)
def k:Kc P_ gl:=⟨(150,⟨H.p,H.r,u2 Ij⟩),co H func150 (λx=>Eq.trans (b:=u2 (Hh (λa b f=>z4 Dg (t4 a b f))) x) F4 (by simp only[i4,Bd]<;>rfl))⟩
end F150
namespace F118
def H:Hd:=⟨[Sl,Si],[Sz],.d,kt [F150.k] false,[],f118⟩
def k:Kc P_ gl:=⟨(118,⟨H.p,H.r,u2 Hc⟩),co H func118⟩
end F118
namespace F78
def H:Hd:=⟨[Si],[Sz],.d,kt [F118.k] false,[],f78⟩
def k:Kc P_ gl:=⟨(78,⟨H.p,H.r,Qa⟩),co H func78⟩
end F78
namespace F40
def AG(j28:Bool->Int->Option Int)(y ac:Int)(g a:LB)(h p m u v b:Int)(n:Bool)(o:Int)(ak:LX)(f:LI)(k:LB):Option Int:=
if(Bi ac 0)then
(Aj ac).bind λ(bi,bj)=>
j28 bi bj
else
(Rq m ak).bind λ(bk,bb)=>
if(Bi bb 0)then
(Aj bb).bind λ(bl,bm)=>
j28 bl bm
else
(Ck k bk).bind λdv=>
(λfa:Option Int=>
bo (
fa)) (
(Bk a y (Ac a)).bind λdw=>
j28 false 0)
theorem dR: @AG= @Vk:=by
  unfold AG Vk;simp only[MC,Vq,Wr]
def DC(j13:Bool->Int->Option Int)(j12:LB->LB->Int->Int->Int->Int->Int->Int->Bool->Int->LI->LB->Option Int)(j25:Bool->Int->Option Int)(j23:LB->LB->Int->Int->Int->Int->Int->Int->Bool->Int->LI->LB->Option Int)(j24:LB->LB->Int->Int->Int->Int->Int->Int->Bool->Int->LI->LB->Int->Option Int)(j28:Bool->Int->Option Int)(j26:Int->LB->LB->Int->Int->Int->Int->Int->Int->Bool->Int->LX->LI->LI->LB->Option Int)(j22:Bool->Option Int)(j21:Option Int)(al am:LB)(an ao ap aq ar:Int)(au:LI)(ad:Int)(ae:LB)(aa:Bool)(w:Int):Option Int:=
if(Dv (Ac al) 64)then
some 8
else
if((geq w 0)&&(!aa))then
(Dr al am an ao ap aq ar au ad ae aa w).bind λ(g,a,h,p,m,u,v,f,b,k,n,o)=>
(Xe al am an ao ap aq ar au ad ae aa w).bind λbn=>
if bn then
if(geq h 0)then
(Kz a).bind λ(ah,av)=>
if(geq av 24)then
j13 true 0
else
if(Bi av 0)then
(Aj av).bind λ(bp,bq)=>
j13 bp bq
else
(Bk a ah (Ac a)).bind λbr=>
(Pw br).bind λaj=>
if aj then
j13 true 0
else
(Bk a ah (Ac a)).bind λbs=>
(Pk bs).bind λ(ay,az,ab,ba,af,aw)=>
if(geq aw 24)then
j13 true 0
else
if(Bi aw 0)then
(Aj aw).bind λ(bt,bu)=>
j13 bt bu
else
both (
(Bk a (Ae ah 22) (Ac a)).bind λax=>
(λfb:Option Int=>
bo (
fb)) (
j12 g ax ay az ab ba af b n o f k)) [
(Bk a (Ae ah 22) (Ac a)).bind λax=>
j12 g ax ay az ab ba af b n o f k]
else
if(geq (Ac f) 0)then
if(geq h 2)then
if(Cj (Ac a) 8)then
j25 true 0
else
j23 g a h p m u v b n o f k
else
j24 g a h p m u v b n o f k 0
else
if(Cj b (Ac f))then
(Ah f b).bind λ_=>
(Ah f b).bind λy=>
if(Cj (Ac a) y)then
j28 true 0
else
(Tv g).bind λ(bc,ai)=>
if(Bi ai 0)then
(Aj ai).bind λ(bv,bw)=>
j28 bv bw
else
(Dz h p m u v).bind λ(ag,bx)=>
if((Bi bx 0)||(Kq b (Ac ag)))then
(Aj 8).bind λ(bz,da)=>
j28 bz da
else
j26 y g a h p m u v b n o bc ag f k
else
if(Dv (Ac a) 4000)then
(Aj 38).bind λ(db,bd)=>
j22 ((db==true)&&((geq bd 0)&&true))
else
j21
else
j22 false
else
if((geq (Ac am) 0)&&(geq (Ac au) 0))then
if((((geq an 0)&&((geq ao 0)&&((geq ap 0)&&((geq aq 0)&&((geq ar 0)&&true)))))&&(geq ad 0))&&(pP (Ac ae) 12000))then
if(geq w 0)then
j22 true
else
if(!aa)then
(Qa w).bind λdc=>
j22 dc
else
j22 false
else
j22 false
else
if((false&&(geq ad 0))&&(pP (Ac ae) 12000))then
if(geq w 0)then
j22 true
else
if(!aa)then
(Qa w).bind λdd=>
j22 dd
else
j22 false
else
j22 false
theorem iC: @DC= @Xm:=by
  unfold DC Xm
  try simp only[MC,Vq,Wr]
  all_goals
    repeat (refine funext λ_=>?_)
    repeat' first
      |with_reducible rfl
      |with_reducible refine Il ?_ ?_
      |with_reducible refine Ib ?_ ?_ ?_
      |with_reducible refine Io ?_ ?_ ?_ ?_
      |((with_reducible refine Ml ?_ ?_);focus (intro h;first|(subst h;rfl)|(simp only[h];rfl)|(simp[Ck,Ac,h];done)))
      |with_reducible refine Mf λx=>?_
      |with_reducible refine Se (λ_=>?_) (λ_=>?_)
      |(refine En (λh=>by simp only[h,Mj,Dn,Dj,ite_self]) (λx h=>?_);(try simp only[h,Dn]))
      |(refine Gm (λh=>?_) (λh=>?_)<;>simp only[h,if_true,if_false,Bool.false_eq_true])
abbrev R_:=Int
def H:Hd:=⟨[.agg [Ss,Sb,.agg [Si,Si,Si,Si,Si],Sl,Si,Sb,Sz,Si]],[Si],(.seq .d (.seq .d (.seq .d (.cut [3] [] (.seq .d (.cond (.seq .d (.keep [3,21,22,23,24,25] false)) .d)) .d)))),kt [F34.k,F64.k,⟨(66,Zx),SF⟩,F67.k,F77.k,F78.k,F89.k,F94.k,F95.k,F96.k,F97.k,F98.k,F99.k,F100.k,F101.k] false,[(33,(.seq .d (.cut [2] [] (.blk (.seq .d (.cond (.cut [2] [] (.keep [2,11] true) .d) (.seq .d (.cond (.cut [2] [] (.keep [2,20] true) .d) (.seq .d (.cond (.cut [2] [] (.keep [2,33] true) .d) .d))))))) .d))),(61,(.seq .d (.seq .d (.seq .d (.seq .d (.seq .d (.cut [0,2,5] [] (.mode false) .d))))))),(62,(.seq .d (.seq .d (.cut [0,2,3] [⟨0,[1],.ro (.int .u8)⟩] (.seq .d (.cond (.seq .d (.cut [0,2,3] [⟨0,[1],.ro (.int .u8)⟩,⟨9,[1],.ro (.int .u8)⟩,⟨10,[1],.ro (.int .u8)⟩,⟨15,[1],.ro (.int .u8)⟩,⟨16,[1],.ro (.int .u8)⟩,⟨18,[],.ro (.int .u8)⟩] .d (.cut [0,2,3,4,5] [] .d .d))) .d)) .d)))),(63,(.seq .d (.seq .d (.seq .d (.seq .d (.seq .d (.seq .d (.cut [0,2,3,4,6] [⟨0,[1],.ro (.int .u8)⟩,⟨9,[1],.ro (.int .u8)⟩,⟨10,[1],.ro (.int .u8)⟩,⟨13,[1],.ro (.int .u8)⟩,⟨14,[1],.ro (.int .u8)⟩,⟨19,[1],.ro (.int .u8)⟩,⟨20,[1],.ro (.int .u8)⟩,⟨22,[],.ro (.int .u8)⟩,⟨28,[1],.ro (.int .u8)⟩,⟨29,[1],.ro (.int .u8)⟩,⟨40,[1],.ro (.int .u8)⟩,⟨41,[1],.ro (.int .u8)⟩] .d (.cut [0,2,3,5,7] [] .d (.seq .d (.seq .d (.seq .d (.seq .d (.seq (.mode false) .d))))))))))))))],f40⟩
def x27(y ac:Int)(g a:LB)(h p m u v b:Int)(n:Bool)(o:Int)(ak:LX)(f:LI)(k:LB):Option R_:=H.e P_ [r,r,r,l,r,l,r,(dcall 3 33 3 #[true,true,true,true,true,true,true,true] #[true,true,true,true,true,false,false,false]),r,l,d,r,r,r,r,r,l,l,(call 1 63),r,r,r,r,r,r,r,r] ⟨[(0,.ptr 0 []),(2,.ptr 1 []),(3,vi y),(5,vi ac),(7,.own 2)],[.box 32 (.agg [vs g,vb a,.agg [vi h,vi p,vi m,vi u,vi v],.own 4,vi b,.own 5,vt n,vi o]),.box 79 (.agg [vt false,vi 0]),Aw 21 ak,.box 79 (.agg [vt false,vi 0]),Ai 3 f,Ab 5 k],[[(2,.ptr 3 [])],[(3,vt false),(21,.cst (.bool true)),(23,.agg [vt true,vi 0])]]⟩
theorem e27:x27=GJ:=Eq.trans (b:=AG Fm) F4 (by rw[dR];rfl)
def k:Kc P_ gl:=⟨(40,⟨H.p,H.r,u12 Hi⟩),co H func40 (λx=>Eq.trans (b:=u12 (DC Eh Uv Ik Ut Iy Fm (EP x27) Bm Vf) x) F4 (by rw[iC];simp only[e27]<;>rfl))⟩
end F40
namespace F32
def EU(f g:LB)(h k m n o:Int)(p:LI)(u:Int)(v:LB)(b:Bool)(a:Int):Option (LB×LB×Int×Int×Int×Int×Int×LI×Int×LB×Bool×Int×Int):=
(Hi f g h k m n o p u v b a).bind λw=>
if(Bi w 0)then
some (([]:LB),([]:LB),0,0,0,0,0,([]:LI),0,([]:LB),false,0,w)
else
if(Bi a 0)then
(λbl:Option (LB×LB×Int×Int×Int×Int×Int×LI×Int×LB×Bool×Int×Int)=>
both (
both (
(Dr f g h k m n o p u v b a).bind λ(y,aa,ab,ac,ad,ae,af,ag,ah,ai,aj,ak)=>
(λbm:Option (LB×LB×Int×Int×Int×Int×Int×LI×Int×LB×Bool×Int×Int)=>
bo (
bm)) (
some (y,aa,ab,ac,ad,ae,af,ag,ah,ai,aj,ak,a))) [
bl]) [
bl]) (
(Dr f g h k m n o p u v b a).bind λ(y,aa,ab,ac,ad,ae,af,ag,ah,ai,aj,ak)=>
some (y,aa,ab,ac,ad,ae,af,ag,ah,ai,aj,ak,a))
else
if b then
(Dr f g h k m n o p u v b a).bind λ(al,am,an,ao,ap,aq,ar,au,av,aw,ax,ay)=>
some (al,am,an,ao,ap,aq,ar,au,av,aw,ax,ay,36)
else
(Dr f g h k m n o p u v b a).bind λ(az,ba,bb,bc,bd,be,bf,bg,bh,bi,bj,bk)=>
some (az,ba,bb,bc,bd,be,bf,bg,bh,bi,bj,bk,0)
theorem gN: @EU= @Qg:=by
  unfold EU Qg
  try simp only[MC,Vq,Wr]
  all_goals
    repeat (refine funext λ_=>?_)
    repeat' first
      |with_reducible rfl
      |with_reducible refine Il ?_ ?_
      |with_reducible refine Ib ?_ ?_ ?_
      |with_reducible refine Io ?_ ?_ ?_ ?_
      |((with_reducible refine Ml ?_ ?_);focus (intro h;first|(subst h;rfl)|(simp only[h];rfl)|(simp[Ck,Ac,h];done)))
      |with_reducible refine Mf λx=>?_
      |with_reducible refine Se (λ_=>?_) (λ_=>?_)
      |(refine En (λh=>by simp only[h,Mj,Dn,Dj,ite_self]) (λx h=>?_);(try simp only[h,Dn]))
      |(refine Gm (λh=>?_) (λh=>?_)<;>simp only[h,if_true,if_false,Bool.false_eq_true])
def H:Hd:=⟨[.agg [Ss,Sb,.agg [Si,Si,Si,Si,Si],Sl,Si,Sb,Sz,Si]],[.agg [Ss,Ob 5,.agg [Si,Si,Si,Si,Si],Ol 3,Si,Ob 5,Sz,Si],Si],(.seq .d (.seq .d (.seq (.blk (.seq .d (.cond (.seq (.mode false) .d) .d))) .d))),kt [F34.k,F40.k] false,[],f32⟩
def k:Kc P_ gl:=⟨(32,⟨H.p,H.r,u12 Qg⟩),co H func32 (λx=>Eq.trans (b:=u12 EU x) F4 (by simp only[gN]<;>rfl))⟩
end F32
namespace F35
def H:Hd:=⟨[.agg [Ss,Sb,.agg [Si,Si,Si,Si,Si],Sl,Si,Sb,Sz,Si],Si],[.agg [Ss,Ob 5,.agg [Si,Si,Si,Si,Si],Ol 3,Si,Sb,Sz,Si],Si],.d,kt [] false,[],f35⟩
def k:Kc P_ gl:=⟨(35,⟨H.p,H.r,u13 bD⟩),co H func35⟩
end F35
namespace F13
def GL(j78:Int->Int->Int->Int->Int->LI->Bool->Int->LB->Int->LB->Option (LB×LB×Int×Int×Int×Int×Int×LI×Int×LB×Bool×Int×Int))(a:LB)(b:Bool)(f w ab:Int)(g:LB)(m o n p u h:Int)(am:LX)(k:LI)(v:LB):Option (LB×LB×Int×Int×Int×Int×Int×LI×Int×LB×Bool×Int×Int):=
if(Bi ab 0)then
(Aj ab).bind λ(br,bs)=>
j78 m o n p u k br bs g h v
else
(Rq n am).bind λ(bt,af)=>
if(Bi af 0)then
(Aj af).bind λ(bu,bv)=>
j78 m o n p u k bu bv g h v
else
(Ck v bt).bind λbw=>
(λhb:Option (LB×LB×Int×Int×Int×Int×Int×LI×Int×LB×Bool×Int×Int)=>
bo (
hb)) (
(Bk g w (Ac g)).bind λbx=>
j78 m o n p u k false 0 bx (Ae h 1) bw)
theorem eX: @GL= @Xk:=by
  unfold GL Xk;simp only[MC,Vq,Wr]
def DA(j62:Int->LI->LB->Bool->Int->LB->Int->Int->Int->Int->Int->Option (LB×LB×Int×Int×Int×Int×Int×LI×Int×LB×Bool×Int×Int))(j61:LB->Int->Int->Int->Int->Int->Int->LI->LB->Option (LB×LB×Int×Int×Int×Int×Int×LI×Int×LB×Bool×Int×Int))(j75:Int->Int->Int->Int->Int->Int->LB->Bool->Int->LB->LI->Option (LB×LB×Int×Int×Int×Int×Int×LI×Int×LB×Bool×Int×Int))(j73:LB->Int->Int->Int->Int->Int->Int->LI->LB->Option (LB×LB×Int×Int×Int×Int×Int×LI×Int×LB×Bool×Int×Int))(j74:LB->Int->Int->Int->Int->Int->Int->LI->LB->Int->Option (LB×LB×Int×Int×Int×Int×Int×LI×Int×LB×Bool×Int×Int))(j78:Int->Int->Int->Int->Int->LI->Bool->Int->LB->Int->LB->Option (LB×LB×Int×Int×Int×Int×Int×LI×Int×LB×Bool×Int×Int))(j76:Int->LB->Int->Int->Int->Int->Int->Int->LX->LI->LI->LB->Option (LB×LB×Int×Int×Int×Int×Int×LI×Int×LB×Bool×Int×Int))(j71:LB->Int->Int->Int->Int->Int->Int->Bool->Int->LI->LB->Option (LB×LB×Int×Int×Int×Int×Int×LI×Int×LB×Bool×Int×Int))(j70:LB->Int->Int->Int->Int->Int->Int->LI->LB->Option (LB×LB×Int×Int×Int×Int×Int×LI×Int×LB×Bool×Int×Int))(a:LB)(b:Bool)(f:Int)(g:LB)(m o n p u h:Int)(k:LI)(v:LB):Option (LB×LB×Int×Int×Int×Int×Int×LI×Int×LB×Bool×Int×Int):=
if(geq m 0)then
(Kz g).bind λ(ad,an)=>
if(geq an 24)then
j62 h k v true 0 g m o n p u
else
if(Bi an 0)then
(Aj an).bind λ(bz,da)=>
j62 h k v bz da g m o n p u
else
(Bk g ad (Ac g)).bind λdb=>
(Pw db).bind λal=>
if al then
j62 h k v true 0 g m o n p u
else
(Bk g ad (Ac g)).bind λdc=>
(Pk dc).bind λ(ah,ai,y,aj,aa,ao)=>
if(geq ao 24)then
j62 h k v true 0 g m o n p u
else
if(Bi ao 0)then
(Aj ao).bind λ(dd,de)=>
j62 h k v dd de g m o n p u
else
both (
(Bk g (Ae ad 22) (Ac g)).bind λag=>
bo (
j61 ag ah ai y aj aa h k v)) [
(Bk g (Ae ad 22) (Ac g)).bind λag=>
j61 ag ah ai y aj aa h k v]
else
if(geq (Ac k) 0)then
if(geq m 2)then
if(Cj (Ac g) 8)then
j75 m o n p u h v true 0 g k
else
j73 g m o n p u h k v
else
j74 g m o n p u h k v 0
else
if(Cj h (Ac k))then
(Ah k h).bind λ_=>
(Ah k h).bind λw=>
if(Cj (Ac g) w)then
j78 m o n p u k true 0 g h v
else
(Tv a).bind λ(aq,ak)=>
if(Bi ak 0)then
(Aj ak).bind λ(df,dg)=>
j78 m o n p u k df dg g h v
else
(Dz m o n p u).bind λ(ac,dh)=>
if((Bi dh 0)||(Kq h (Ac ac)))then
(Aj 8).bind λ(di,ap)=>
j78 m o n p u k di ap g h v
else
j76 w g m o n p u h aq ac k v
else
if(Dv (Ac g) 4000)then
(Aj 38).bind λ(dj,ae)=>
j71 g m o n p u h dj ae k v
else
j70 g m o n p u h k v
theorem gT: @DA= @Ht:=by
  unfold DA Ht
  repeat (refine funext λ_=>?_)
  repeat' first
    |with_reducible rfl
    |with_reducible refine Il ?_ ?_
    |with_reducible refine Ib ?_ ?_ ?_
    |with_reducible refine Io ?_ ?_ ?_ ?_
    |((with_reducible refine Ml ?_ ?_);focus (intro h;first|(subst h;rfl)|(simp only[h];rfl)|(simp[Ck,Ac,h];done)))
    |with_reducible refine Mf λx=>?_
    |with_reducible refine Se (λ_=>?_) (λ_=>?_)
    |(refine En (λh=>by simp only[h,Mj,Dn,Dj,ite_self]) (λx h=>?_);(try simp only[h,Dn]))
    |(refine Gm (λh=>?_) (λh=>?_)<;>simp only[h,if_true,if_false,Bool.false_eq_true])
abbrev R_:=(LB×LB×Int×Int×Int×Int×Int×LI×Int×LB×Bool×Int×Int)
abbrev K_:=S->Option R_
def H:Hd:=⟨[.agg [Ss,Sb,.agg [Si,Si,Si,Si,Si],Sl,Si,Sb,Sz,Si],Sb],[.agg [Ss,Ob 5,.agg [Si,Si,Si,Si,Si],Ol 3,Si,Sb,Sz,Si],Si],(.seq .d (.seq .d (.seq .d (.seq .d (.blk (.loop [2,4] [⟨2,[1],.ro (.int .u8)⟩] (.blk (.cut [2,4,7] [] (.keep [2,4,7,22] true) .d)))))))),kt [F32.k,F34.k,F35.k,F64.k,⟨(66,Zx),SF⟩,F67.k,F89.k,F94.k,F95.k,F96.k,F97.k,F98.k,F99.k,F100.k,F101.k] false,[(33,(.seq .d (.cut [2] [] (.blk (.seq .d (.cond (.cut [2] [] (.keep [2,11] true) .d) (.seq .d (.cond (.cut [2] [] (.keep [2,20] true) .d) (.seq .d (.cond (.cut [2] [] (.keep [2,33] true) .d) .d))))))) .d))),(61,(.seq .d (.seq .d (.seq .d (.seq .d (.seq .d (.cut [0,2,5] [] (.mode false) .d))))))),(62,(.seq .d (.seq .d (.cut [0,2,3] [] (.seq .d (.cond (.seq .d (.cut [0,2,3] [⟨0,[1],.ro (.int .u8)⟩,⟨9,[1],.ro (.int .u8)⟩,⟨10,[1],.ro (.int .u8)⟩,⟨15,[1],.ro (.int .u8)⟩,⟨16,[1],.ro (.int .u8)⟩,⟨18,[],.ro (.int .u8)⟩] .d (.cut [0,2,3,4,5] [] .d .d))) .d)) .d)))),(63,(.seq .d (.seq .d (.seq .d (.seq .d (.seq .d (.seq .d (.cut [0,2,3,4,6] [⟨0,[1],.ro (.int .u8)⟩,⟨9,[1],.ro (.int .u8)⟩,⟨10,[1],.ro (.int .u8)⟩,⟨13,[1],.ro (.int .u8)⟩,⟨14,[1],.ro (.int .u8)⟩,⟨19,[1],.ro (.int .u8)⟩,⟨20,[1],.ro (.int .u8)⟩,⟨22,[],.ro (.int .u8)⟩,⟨28,[1],.ro (.int .u8)⟩,⟨29,[1],.ro (.int .u8)⟩,⟨40,[1],.ro (.int .u8)⟩,⟨41,[1],.ro (.int .u8)⟩] .d (.cut [0,2,3,5,7] [] .d (.seq .d (.seq .d (.seq .d (.seq .d (.seq (.mode false) .d))))))))))))))],f13⟩
def t37(a:LB)(b:Bool)(f:Int)(g:LB)(m o n p u h:Int)(k:LI)(v:LB):S:=⟨[(2,.ptr 0 []),(4,.ptr 1 [])],[.box 32 (.agg [vs a,vb g,.agg [vi m,vi o,vi n,vi p,vi u],.own 2,vi h,.own 3,vt b,vi f]),.box 32 (.agg [vs ([]:LB),.nils,.agg [vi 0,vi 0,vi 0,vi 0,vi 0],.nils,vi 0,.nils,vt false,vi 0]),Ai 3 k,Ab 5 v],[]⟩
def z37:Nat->S->Option R_:=H.i P_ [r,r,r,r,d]
def x75(nS:K_)(a:LB)(b:Bool)(f m o n p u h:Int)(v:LB)(bf:Bool)(bg:Int)(bh:LB)(bi:LI):Option R_:=H.e P_ [r,r,r,r,d,(lp nS),d,l,(call 0 33),r,l,d,r,r,r,l,r] ⟨[(2,.ptr 0 [])],[.box 79 (.agg [vt bf,vi bg]),.box 32 (.agg [vs a,vb bh,.agg [vi m,vi o,vi n,vi p,vi u],.own 3,vi h,.own 4,vt b,vi f]),.box 32 (.agg [vs ([]:LB),.nils,.agg [vi 0,vi 0,vi 0,vi 0,vi 0],.nils,vi 0,.nils,vt false,vi 0]),Ai 3 bi,Ab 5 v],[[(2,.ptr 1 []),(4,.ptr 2 [])]]⟩
def x78(nS:K_)(a:LB)(b:Bool)(f m o n p u:Int)(k:LI)(bl:Bool)(bm:Int)(bn:LB)(bp:Int)(bq:LB):Option R_:=H.e P_ [r,r,r,r,d,(lp nS),d,l,(call 0 33),r,l,d,r,r,r,r,r,l,r] ⟨[(2,.ptr 0 [])],[.box 79 (.agg [vt bl,vi bm]),.box 32 (.agg [vs a,vb bn,.agg [vi m,vi o,vi n,vi p,vi u],.own 3,vi bp,.own 4,vt b,vi f]),.box 32 (.agg [vs ([]:LB),.nils,.agg [vi 0,vi 0,vi 0,vi 0,vi 0],.nils,vi 0,.nils,vt false,vi 0]),Ai 3 k,Ab 5 bq],[[(2,.ptr 1 []),(4,.ptr 2 [])]]⟩
def x77(nS:K_)(a:LB)(b:Bool)(f w ab:Int)(g:LB)(m o n p u h:Int)(am:LX)(k:LI)(v:LB):Option R_:=H.e P_ [r,r,r,r,d,(lp nS),d,l,(call 0 33),r,l,d,r,r,r,r,r,l,l,(call 1 63),r,r,r,r,r,r,r,r] ⟨[(0,.ptr 0 []),(2,.ptr 1 []),(3,vi w),(5,vi ab),(7,.own 2)],[.box 32 (.agg [vs a,vb g,.agg [vi m,vi o,vi n,vi p,vi u],.own 5,vi h,.own 6,vt b,vi f]),.box 79 (.agg [vt false,vi 0]),Aw 21 am,.box 79 (.agg [vt false,vi 0]),.box 32 (.agg [vs ([]:LB),.nils,.agg [vi 0,vi 0,vi 0,vi 0,vi 0],.nils,vi 0,.nils,vt false,vi 0]),Ai 3 k,Ab 5 v],[[(2,.ptr 3 [])],[(2,.ptr 0 []),(4,.ptr 4 [])]]⟩
theorem e75(nS:K_)(a:LB)(b:Bool)(f:Int):x75 nS a b f=Ki (λg m o n p u h k v=>nS (t37 a b f g m o n p u h k v)) a b f:=F4
theorem e78(nS:K_)(a:LB)(b:Bool)(f:Int):x78 nS a b f=Mv (λg m o n p u h k v=>nS (t37 a b f g m o n p u h k v)) a b f:=F4
theorem e77(nS:K_)(a:LB)(b:Bool)(f:Int):x77 nS a b f=IP (λg m o n p u h k v=>nS (t37 a b f g m o n p u h k v)) a b f:=Eq.trans (b:=GL (x78 nS a b f) a b f) F4 (by rw[eX];simp only[e78]<;>rfl)
theorem i37(a:LB)(b:Bool)(f:Int):∀(q:Nat) (g:LB) (m o n p u h:Int) (k:LI) (v:LB),z37 q (t37 a b f g m o n p u h k v)=Be a b f q g m o n p u h k v:=
 ind (λ_ _ _ _ _ _ _ _ _=>by kernel_rfl) λq ih g m o n p u h k v=>Eq.trans (b:=DA (Mw (λg m o n p u h k v=>(z37 q) (t37 a b f g m o n p u h k v)) a b f) (Qt (λg m o n p u h k v=>(z37 q) (t37 a b f g m o n p u h k v)) a b f) (x75 (z37 q) a b f) (IC (JB (x75 (z37 q) a b f) (Xv (x75 (z37 q) a b f) a b f) a b f) a b f) (Xv (x75 (z37 q) a b f) a b f) (x78 (z37 q) a b f) (IB (x77 (z37 q) a b f) a b f) (Cb (λg m o n p u h k v=>(z37 q) (t37 a b f g m o n p u h k v)) a b f) (Xo (λg m o n p u h k v=>(z37 q) (t37 a b f g m o n p u h k v)) a b f) a b f g m o n p u h k v) F4 (by rw[gT];simp only[e75,e78,e77,ih]<;>rfl)
def k:Kc P_ gl:=⟨(13,⟨H.p,H.r,u13 Di⟩),co H func13 (λx=>Eq.trans (b:=u13 (Tm (λa b f g m o n p u h k v=>z37 Dg (t37 a b f g m o n p u h k v))) x) F4 (by simp only[i37,Bd]<;>rfl))⟩
end F13
namespace F30
def H:Hd:=⟨[.agg [Ss,Sb,.agg [Si,Si,Si,Si,Si],Sl,Si,Sb,Sz,Si],Si],[.agg [Ss,Ob 5,.agg [Si,Si,Si,Si,Si],Ol 3,Si,Sb,Sz,Si],Ob 5,Si],.d,kt [F34.k,F40.k,F57.k] false,[],f30⟩
def k:Kc P_ gl:=⟨(30,⟨H.p,H.r,u13 Tr⟩),co H func30⟩
end F30
namespace F109
abbrev R_:=(Int×Int)
def H:Hd:=⟨[Sb],[Si,Si],(.seq .d (.seq .d (.cut [0,4] [] .d .d))),kt [F130.k,F144.k,F145.k,F146.k] false,[],f109⟩
def k:Kc P_ gl:=⟨(109,⟨H.p,H.r,oW⟩),co H func109⟩
end F109
namespace F68
abbrev R_:=(Int×Int)
abbrev K_:=S->Option R_
def H:Hd:=⟨[Sb],[Si,Si],(.seq .d (.seq .d (.seq .d (.seq .d (.cut [5] [] (.blk (.loop [1,4,5] [] (.seq .d (.cut [1,4,5] [] (.blk (.cut [1,4,5,6] [] (.keep [1,4,5,6,16,17] true) .d)) .d)))) .d))))),kt [F109.k] false,[(108,.d)],f68⟩
def t8(a:Int)(b:LB):S:=⟨[(1,.ptr 0 []),(4,.fn 108 [.ptr 0 []]),(5,vi a)],[.box 22 (vb b)],[]⟩
def z8:Nat->S->Option R_:=H.i P_ [r,r,r,r,l,d]
theorem i8:∀(q:Nat) (a:Int) (b:LB),z8 q (t8 a b)=Th q a b:=
 ind (λ_ _=>by kernel_rfl) λq ih a b=>Eq.trans (b:=NF (IM (λa b=>(z8 q) (t8 a b))) YN a b) F4 (by simp only[ih]<;>rfl)
def k:Kc P_ gl:=⟨(68,⟨H.p,H.r,OW⟩),co H func68 (λx=>Eq.trans (b:=MX (λa b=>z8 Dg (t8 a b)) x) F4 (by simp only[i8,Bd]<;>rfl))⟩
end F68
namespace F36
def H:Hd:=⟨[.agg [Ss,Sb,.agg [Si,Si,Si,Si,Si],Sl,Si,Sb,Sz,Si]],[Si],.d,kt [⟨(66,Zx),SF⟩,F67.k,F68.k] false,[],f36⟩
def k:Kc P_ gl:=⟨(36,⟨H.p,H.r,u12 Wa⟩),co H func36⟩
end F36
namespace F14
def H:Hd:=⟨[.agg [Ss,Sb,.agg [Si,Si,Si,Si,Si],Sl,Si,Sb,Sz,Si]],[.agg [Ss,Ob 5,.agg [Si,Si,Si,Si,Si],Ol 3,Si,Sb,Sz,Si],Si],.d,kt [F32.k,F35.k,F36.k] false,[],f14⟩
def k:Kc P_ gl:=⟨(14,⟨H.p,H.r,u12 Dq⟩),co H func14⟩
end F14
namespace F10
def BC(j29:Int->LB->Int->Int->Int->Int->Int->Int->LB->Bool->Int->LB-> (List (Int×LB×Unit))->LB->LI->Option (LB×LB×Int×Int×Int×Int×Int×LI×Int×LB×Bool×Int×(List (Int×LB×Unit))×Int))(b:List (UInt8×Int×Unit))(ac:UInt8×Int×Unit)(a:LB)(ad ab:Int)(f w:LB)(g h k m n:Int)(y:LI)(o:Int)(p:LB)(u:Bool)(v:Int)(ae:LB)(af ag ah ai aj ak:Int)(al:LB)(am:Bool)(an:Int)(aa:List (Int×LB×Unit))(ao:LB)(ap:LI):Option (LB×LB×Int×Int×Int×Int×Int×LI×Int×LB×Bool×Int×(List (Int×LB×Unit))×Int):=
(λfs:Option (LB×LB×Int×Int×Int×Int×Int×LI×Int×LB×Bool×Int×(List (Int×LB×Unit))×Int)=>
bo (
fs)) (
(Bk a (Dx ac.2.1 (Ac a)) (Ac a)).bind λbv=>
(Ck aa ([(ad,([]:LB),())]:List (Int×LB×Unit))).bind λar=>
j29 ab ae af ag ah ai aj ak al am an bv ar ao ap)
theorem dC: @BC= @Ve:=by
  unfold BC Ve;simp only[MC,Vq,Wr]
def AH(j26:(UInt8×Int×Unit)->LB->Int->Int->LB->LB->Int->Int->Int->Int->Int->LI->Int->LB->Bool->Int->LB->Int->Int->Int->Int->Int->Int->LB->Bool->Int-> (List (Int×LB×Unit))->LB->LI->Option (LB×LB×Int×Int×Int×Int×Int×LI×Int×LB×Bool×Int×(List (Int×LB×Unit))×Int))(j33:Int->Int->LB->LB->Int->Int->Int->Int->Int->LI->Int->LB->Bool->Int->LB->LB->Int->Int->Int->Int->Int->Int->LB->Bool->Int->LB-> (List (Int×LB×Unit))->LB->LI->Option (LB×LB×Int×Int×Int×Int×Int×LI×Int×LB×Bool×Int×(List (Int×LB×Unit))×Int))(j34:Int->Int->LB->LB->Int->Int->Int->Int->Int->LI->Int->LB->Bool->Int->LB->LB->Int->Int->Int->Int->Int->Int->LB->Bool->Int-> (List (Int×LB×Unit))->LB->LI->Option (LB×LB×Int×Int×Int×Int×Int×LI×Int×LB×Bool×Int×(List (Int×LB×Unit))×Int))(j29:Int->LB->Int->Int->Int->Int->Int->Int->LB->Bool->Int->LB-> (List (Int×LB×Unit))->LB->LI->Option (LB×LB×Int×Int×Int×Int×Int×LI×Int×LB×Bool×Int×(List (Int×LB×Unit))×Int))(j31:(List (Int×LB×Unit))->LB->Int->Int->Int->Int->Int->Int->LB->Bool->Int->LB->LB->LI->Option (LB×LB×Int×Int×Int×Int×Int×LI×Int×LB×Bool×Int×(List (Int×LB×Unit))×Int))(b:List (UInt8×Int×Unit))(ab:Int)(f:LB)(g h k m n o:Int)(p:LB)(u:Bool)(v:Int)(a:LB)(aa:List (Int×LB×Unit))(w:LB)(y:LI):Option (LB×LB×Int×Int×Int×Int×Int×LI×Int×LB×Bool×Int×(List (Int×LB×Unit))×Int):=
if(Cj ab (Ac b))then
(Ah b ab).bind λac=>
if(geq ac.1 1)then
(λbw:Option (LB×LB×Int×Int×Int×Int×Int×LI×Int×LB×Bool×Int×(List (Int×LB×Unit))×Int)=>
(λda:Option (LB×LB×Int×Int×Int×Int×Int×LI×Int×LB×Bool×Int×(List (Int×LB×Unit))×Int)=>
(λdb:Option (LB×LB×Int×Int×Int×Int×Int×LI×Int×LB×Bool×Int×(List (Int×LB×Unit))×Int)=>
both (
da) [
da,
(Bk a 0 (Dx ac.2.1 (Ac a))).bind λaq=>
(λdc:Option (LB×LB×Int×Int×Int×Int×Int×LI×Int×LB×Bool×Int×(List (Int×LB×Unit))×Int)=>
(λdd:Option (LB×LB×Int×Int×Int×Int×Int×LI×Int×LB×Bool×Int×(List (Int×LB×Unit))×Int)=>
(λde:Option (LB×LB×Int×Int×Int×Int×Int×LI×Int×LB×Bool×Int×(List (Int×LB×Unit))×Int)=>
both (
de) [
de,
dd]) (
both (
dd) [
dc])) (
bo (
dc))) (
(Di f w g h k m n y o p u v aq).bind λ(ae,ao,af,ag,ah,ai,aj,ap,ak,al,am,an,ad)=>
j26 ac a ad ab f w g h k m n y o p u v ae af ag ah ai aj ak al am an aa ao ap),
both (
db) [
db,
(Bk a 0 (Dx ac.2.1 (Ac a))).bind λaq=>
(λft:Option (LB×LB×Int×Int×Int×Int×Int×LI×Int×LB×Bool×Int×(List (Int×LB×Unit))×Int)=>
bo (
ft)) (
(Di f w g h k m n y o p u v aq).bind λ(ae,ao,af,ag,ah,ai,aj,ap,ak,al,am,an,ad)=>
j26 ac a ad ab f w g h k m n y o p u v ae af ag ah ai aj ak al am an aa ao ap)]]) (
bo (
bw))) (
both (
both (
(Bk a 0 (Dx ac.2.1 (Ac a))).bind λaq=>
(λfu:Option (LB×LB×Int×Int×Int×Int×Int×LI×Int×LB×Bool×Int×(List (Int×LB×Unit))×Int)=>
bo (
fu)) (
(Di f w g h k m n y o p u v aq).bind λ(ae,ao,af,ag,ah,ai,aj,ap,ak,al,am,an,ad)=>
j26 ac a ad ab f w g h k m n y o p u v ae af ag ah ai aj ak al am an aa ao ap)) [
bw]) [
(Bk a 0 (Dx ac.2.1 (Ac a))).bind λaq=>
(λdf:Option (LB×LB×Int×Int×Int×Int×Int×LI×Int×LB×Bool×Int×(List (Int×LB×Unit))×Int)=>
both (
bo (
df)) [
df]) (
(Di f w g h k m n y o p u v aq).bind λ(ae,ao,af,ag,ah,ai,aj,ap,ak,al,am,an,ad)=>
j26 ac a ad ab f w g h k m n y o p u v ae af ag ah ai aj ak al am an aa ao ap),
bo (
bw)])) (
(Bk a 0 (Dx ac.2.1 (Ac a))).bind λaq=>
(Di f w g h k m n y o p u v aq).bind λ(ae,ao,af,ag,ah,ai,aj,ap,ak,al,am,an,ad)=>
j26 ac a ad ab f w g h k m n y o p u v ae af ag ah ai aj ak al am an aa ao ap)
else
if(geq ac.1 2)then
(λdg:Option (LB×LB×Int×Int×Int×Int×Int×LI×Int×LB×Bool×Int×(List (Int×LB×Unit))×Int)=>
(λdh:Option (LB×LB×Int×Int×Int×Int×Int×LI×Int×LB×Bool×Int×(List (Int×LB×Unit))×Int)=>
(λdi:Option (LB×LB×Int×Int×Int×Int×Int×LI×Int×LB×Bool×Int×(List (Int×LB×Unit))×Int)=>
both (
di) [
di,
dh]) (
both (
dh) [
dg])) (
bo (
dg))) (
(Tr f w g h k m n y o p u v ac.2.1).bind λ(av,ar,aw,ax,ay,az,ba,bg,bb,bc,bd,be,bf,au)=>
j33 au ab f w g h k m n y o p u v a av aw ax ay az ba bb bc bd be bf aa ar bg)
else
if(geq ac.1 3)then
(λdj:Option (LB×LB×Int×Int×Int×Int×Int×LI×Int×LB×Bool×Int×(List (Int×LB×Unit))×Int)=>
(λdk:Option (LB×LB×Int×Int×Int×Int×Int×LI×Int×LB×Bool×Int×(List (Int×LB×Unit))×Int)=>
(λdl:Option (LB×LB×Int×Int×Int×Int×Int×LI×Int×LB×Bool×Int×(List (Int×LB×Unit))×Int)=>
both (
dl) [
dl,
dk]) (
both (
dk) [
dj])) (
bo (
dj))) (
(Dq f w g h k m n y o p u v).bind λ(bi,bt,bj,bk,bl,bm,bn,bu,bp,bq,br,bs,bh)=>
j34 bh ab f w g h k m n y o p u v a bi bj bk bl bm bn bp bq br bs aa bt bu)
else
j29 ab f g h k m n o p u v a aa w y
else
j31 aa f g h k m n o p u v a w y
theorem cU: @AH= @Po:=by
  unfold AH Po
  try simp only[MC,Vq,Wr]
  all_goals
    repeat (refine funext λ_=>?_)
    repeat' first
      |with_reducible rfl
      |with_reducible refine Il ?_ ?_
      |with_reducible refine Ib ?_ ?_ ?_
      |with_reducible refine Io ?_ ?_ ?_ ?_
      |((with_reducible refine Ml ?_ ?_);focus (intro h;first|(subst h;rfl)|(simp only[h];rfl)|(simp[Ck,Ac,h];done)))
      |with_reducible refine Mf λx=>?_
      |with_reducible refine Se (λ_=>?_) (λ_=>?_)
      |(refine En (λh=>by simp only[h,Mj,Dn,Dj,ite_self]) (λx h=>?_);(try simp only[h,Dn]))
      |(refine Gm (λh=>?_) (λh=>?_)<;>simp only[h,if_true,if_false,Bool.false_eq_true])
abbrev R_:=(LB×LB×Int×Int×Int×Int×Int×LI×Int×LB×Bool×Int×(List (Int×LB×Unit))×Int)
abbrev K_:=S->Option R_
def H:Hd:=⟨[Ss,Sb,.lf (.list (.cons (.int .u8) (.cons (.int .i64) .nil))) none],[.agg [Ss,Ob 5,.agg [Si,Si,Si,Si,Si],Ol 3,Si,Sb,Sz,Si],.lf (.list (.cons (.int .i64) (.cons (.list (.int .u8)) .nil))) (some 72),Si],(.seq .d (.seq .d (.seq .d (.seq .d (.seq .d (.cut [6,12,13] [] (.keep [6,12,13,35] true) .d)))))),kt [F11.k,F13.k,F14.k,F29.k,F30.k] false,[(31,(.seq .d (.seq .d (.seq .d (.cut [6] [] (.seq .d (.blk (.loop [5,6,19,20,21] [⟨5,[0,0,5],.ro (.int .u8)⟩,⟨6,[],.own 72 (.cons (.int .i64) (.cons (.list (.int .u8)) .nil))⟩] (.seq .d (.seq .d (.cut [5,6,19,20,21] [] (.blk (.seq .d (.seq .d (.seq .d (.cond (.keep [5,6,19,20,21,33,37,38,39] true) .d))))) .d)))))) .d))))),(58,(.seq .d (.seq .d (.cut [0,1,4,5,6] [] (.mode false) (.seq (.mode false) .d))))),(59,(.seq .d (.cut [0,4,5,6,7] [] (.mode false) .d))),(60,(.seq .d (.cut [0,4,5,6] [] (.mode false) .d)))],f10⟩
def t17(b:List (UInt8×Int×Unit))(ab:Int)(f:LB)(g h k m n o:Int)(p:LB)(u:Bool)(v:Int)(a:LB)(aa:List (Int×LB×Unit))(w:LB)(y:LI):S:=⟨[(5,.mp [1,2,3] [.bfn 58 [.ptr 0 []],.bfn 59 [.ptr 0 []],.bfn 60 [.ptr 0 []]]),(6,.own 1),(19,.val (.list (.cons (.int .u8) (.cons (.int .i64) .nil))) b),(20,vi (Ac b)),(21,vi ab)],[.box 76 (.agg [.agg [vs f,.own 3,.agg [vi g,vi h,vi k,vi m,vi n],.own 4,vi o,vb p,vt u,vi v],.fn 13 [],.fn 14 [],.fn 30 [],vb a]),.arr 72 (.cons (.int .i64) (.cons (.list (.int .u8)) .nil)) aa,.box 32 (.agg [vs ([]:LB),.nils,.agg [vi 0,vi 0,vi 0,vi 0,vi 0],.nils,vi 0,.nils,vt false,vi 0]),Ab 5 w,Ai 3 y],[[(6,.ptr 2 []),(12,.ptr 0 [])]]⟩
def z17:Nat->S->Option R_:=H.i P_ [r,r,r,r,r,l,(call 2 31),r,r,r,l,r,d]
def x26(J1:K_)(b:List (UInt8×Int×Unit))(ac:UInt8×Int×Unit)(a:LB)(ad ab:Int)(f w:LB)(g h k m n:Int)(y:LI)(o:Int)(p:LB)(u:Bool)(v:Int)(ae:LB)(af ag ah ai aj ak:Int)(al:LB)(am:Bool)(an:Int)(aa:List (Int×LB×Unit))(ao:LB)(ap:LI):Option R_:=H.e P_ [r,r,r,r,r,l,(call 2 31),r,r,r,l,r,d,(lp J1),r,r,l,d,r,r,r,l,(call 4 58),r,r,r] ⟨[(0,.ptr 0 []),(1,vi (Dx ac.2.1 (Ac a))),(4,.ptr 1 []),(5,.ptr 2 []),(6,vi ad)],[.box 76 (.agg [.agg [vs f,vb w,.agg [vi g,vi h,vi k,vi m,vi n],vl y,vi o,vb p,vt u,vi v],.fn 13 [],.fn 14 [],.fn 30 [],vb a]),.box 72 (.agg [vi 0,.nils]),.box 32 (.agg [vs ae,.own 5,.agg [vi af,vi ag,vi ah,vi ai,vi aj],.own 6,vi ak,vb al,vt am,vi an]),.arr 72 (.cons (.int .i64) (.cons (.list (.int .u8)) .nil)) aa,.box 32 (.agg [vs ([]:LB),.nils,.agg [vi 0,vi 0,vi 0,vi 0,vi 0],.nils,vi 0,.nils,vt false,vi 0]),Ab 5 ao,Ai 3 ap],[[(5,.mp [1,2,3] [.bfn 58 [.ptr 0 []],.bfn 59 [.ptr 0 []],.bfn 60 [.ptr 0 []]]),(6,.own 3),(19,.val (.list (.cons (.int .u8) (.cons (.int .i64) .nil))) b),(20,vi (Ac b)),(21,vi ab),(33,.own 3)],[(6,.ptr 4 []),(12,.ptr 0 [])]]⟩
theorem e26(J1:K_)(b:List (UInt8×Int×Unit)):x26 J1 b=GH (λab f g h k m n o p u v a aa w y=>J1 (t17 b ab f g h k m n o p u v a aa w y)) b:=Eq.trans (b:=BC (Fq (λab f g h k m n o p u v a aa w y=>J1 (t17 b ab f g h k m n o p u v a aa w y)) b) b) F4 (by rw[dC];rfl)
theorem i17(b:List (UInt8×Int×Unit)):∀(q:Nat) (ab:Int) (f:LB) (g h k m n o:Int) (p:LB) (u:Bool) (v:Int) (a:LB) (aa:List (Int×LB×Unit)) (w:LB) (y:LI),z17 q (t17 b ab f g h k m n o p u v a aa w y)=Fl b q ab f g h k m n o p u v a aa w y:=
 ind (λ_ _ _ _ _ _ _ _ _ _ _ _ _ _ _=>by kernel_rfl) λq ih ab f g h k m n o p u v a aa w y=>Eq.trans (b:=AH (x26 (z17 q) b) (DB (λab f g h k m n o p u v a aa w y=>(z17 q) (t17 b ab f g h k m n o p u v a aa w y)) b) (DU (λab f g h k m n o p u v a aa w y=>(z17 q) (t17 b ab f g h k m n o p u v a aa w y)) b) (Fq (λab f g h k m n o p u v a aa w y=>(z17 q) (t17 b ab f g h k m n o p u v a aa w y)) b) DF b ab f g h k m n o p u v a aa w y) F4 (by rw[cU];simp only[e26,ih]<;>rfl)
def k:Kc P_ gl:=⟨(10,⟨H.p,H.r,u3 Zm⟩),co H func10 (λx=>Eq.trans (b:=u3 (IF (λb ab f g h k m n o p u v a aa w y=>z17 Dg (t17 b ab f g h k m n o p u v a aa w y))) x) F4 (by simp only[i17,Bd]<;>rfl))⟩
end F10
namespace F12
abbrev R_:=(LB×Bool)
def H:Hd:=⟨[Sb,.lf (.list (.cons (.int .u8) (.cons (.int .i64) .nil))) none],[Sb,Sz],(.seq .d (.seq .d (.cut [0,6] [] (.seq .d (.blk (.loop [0,1,6,7] [] .d))) .d))),kt [] false,[],f12⟩
def t4(a:LB)(f:List (UInt8×Int×Unit))(b g:Int):S:=⟨[(0,vb a),(1,.val (.list (.cons (.int .u8) (.cons (.int .i64) .nil))) f),(6,vi b),(7,vi g)],[],[]⟩
def z4:Nat->S->Option R_:=H.i P_ [r,r,l,r,d]
theorem i4(a:LB)(f:List (UInt8×Int×Unit)):∀(q:Nat) (b g:Int),z4 q (t4 a f b g)=Iz a f q b g:=
 ind (λ_ _=>by kernel_rfl) λq ih b g=>Eq.trans (b:=Qi Yf (λb g=>(z4 q) (t4 a f b g)) a f b g) F4 (by simp only[ih]<;>rfl)
def k:Kc P_ gl:=⟨(12,⟨H.p,H.r,u2 HV⟩),co H func12 (λx=>Eq.trans (b:=u2 (OK (λa f b g=>z4 Dg (t4 a f b g))) x) F4 (by simp only[i4,Bd]<;>rfl))⟩
end F12
namespace F37
abbrev R_:=Bool
def H:Hd:=⟨[Sl,Sl],[Sz],(.seq .d (.seq .d (.cut [] [] (.seq .d (.blk (.loop [0,1,5] [] .d))) .d))),kt [] false,[],f37⟩
def t4(a b:LI)(f:Int):S:=⟨[(0,vl a),(1,vl b),(5,vi f)],[],[]⟩
def z4:Nat->S->Option R_:=H.i P_ [r,r,l,r,d]
theorem i4(a b:LI):∀(q:Nat) (f:Int),z4 q (t4 a b f)=Ev a b q f:=
 ind (λ_=>by kernel_rfl) λq ih f=>Eq.trans (b:=Kr Ze (λf=>(z4 q) (t4 a b f)) a b f) F4 (by simp only[ih]<;>rfl)
def k:Kc P_ gl:=⟨(37,⟨H.p,H.r,u2 Oe⟩),co H func37 (λx=>Eq.trans (b:=u2 (Pz (λa b f=>z4 Dg (t4 a b f))) x) F4 (by simp only[i4,Bd]<;>rfl))⟩
end F37
namespace F16
def H:Hd:=⟨[.agg [Ss,Sb,.agg [Si,Si,Si,Si,Si],Sl,Si,Sb,Sz,Si],.agg [Ss,Sb,.agg [Si,Si,Si,Si,Si],Sl,Si,Sb,Sz,Si]],[Sz],.d,kt [F37.k] false,[],f16⟩
def k:Kc P_ gl:=⟨(16,⟨H.p,H.r,λ(x:LB×LB×Int×Int×Int×Int×Int×LI×Int×LB×Bool×Int×LB×LB×Int×Int×Int×Int×Int×LI×Int×LB×Bool×Int)=>Vj x.1 x.2.1 x.2.2.1 x.2.2.2.1 x.2.2.2.2.1 x.2.2.2.2.2.1 x.2.2.2.2.2.2.1 x.2.2.2.2.2.2.2.1 x.2.2.2.2.2.2.2.2.1 x.2.2.2.2.2.2.2.2.2.1 x.2.2.2.2.2.2.2.2.2.2.1 x.2.2.2.2.2.2.2.2.2.2.2.1 x.2.2.2.2.2.2.2.2.2.2.2.2.1 x.2.2.2.2.2.2.2.2.2.2.2.2.2.1 x.2.2.2.2.2.2.2.2.2.2.2.2.2.2.1 x.2.2.2.2.2.2.2.2.2.2.2.2.2.2.2.1 x.2.2.2.2.2.2.2.2.2.2.2.2.2.2.2.2.1 x.2.2.2.2.2.2.2.2.2.2.2.2.2.2.2.2.2.1 x.2.2.2.2.2.2.2.2.2.2.2.2.2.2.2.2.2.2.1 x.2.2.2.2.2.2.2.2.2.2.2.2.2.2.2.2.2.2.2.1 x.2.2.2.2.2.2.2.2.2.2.2.2.2.2.2.2.2.2.2.2.1 x.2.2.2.2.2.2.2.2.2.2.2.2.2.2.2.2.2.2.2.2.2.1 x.2.2.2.2.2.2.2.2.2.2.2.2.2.2.2.2.2.2.2.2.2.2.1 x.2.2.2.2.2.2.2.2.2.2.2.2.2.2.2.2.2.2.2.2.2.2.2⟩),co H func16⟩
end F16
namespace F3
def Mi(j6:(List (UInt8×Int×Unit))->Bool->Int->Int->LB->Int->Int->Int->Int->Int->Int->LB->Bool->Int-> (List (Int×LB×Unit))->LB->Int->Int->Int->Int->Int->Int->LB->Bool->Int->LB->LB->LI->LB->LI->Option Bool)(b:List (UInt8×Int×Unit))(a:Bool)(h k:Int)(m:LB)(n o p u v w:Int)(g:LB)(y:Bool)(aa:Int)(f:List (Int×LB×Unit))(ab:LB)(ac:LI)(ae:LB)(af ag ah ai aj ak:Int)(ad:LB)(al:Bool)(am:Int)(ao:LB)(ap:LI):Option Bool:=
(λbi:Option Bool=>
both (
both (
(Aq f).bind λau=>
(λdr:Option Bool=>
bo (
dr)) (
(Ck ([]:LB) au).bind λav=>
(Ck av g).bind λan=>
j6 b a h k m n o p u v w g y aa f ae af ag ah ai aj ak ad al am an ab ac ao ap)) [
bi]) [
(Aq f).bind λau=>
(λbj:Option Bool=>
both (
bo (
bj)) [
bj]) (
(Ck ([]:LB) au).bind λav=>
(Ck av g).bind λan=>
j6 b a h k m n o p u v w g y aa f ae af ag ah ai aj ak ad al am an ab ac ao ap),
bo (
bi)]) (
(Aq f).bind λau=>
(Ck ([]:LB) au).bind λav=>
(Ck av g).bind λan=>
j6 b a h k m n o p u v w g y aa f ae af ag ah ai aj ak ad al am an ab ac ao ap)
theorem ID: @Mi= @Iw:=by
  unfold Mi Iw
  try simp only[MC,Vq,Wr]
  all_goals
    repeat (refine funext λ_=>?_)
    repeat' first
      |with_reducible rfl
      |with_reducible refine Il ?_ ?_
      |with_reducible refine Ib ?_ ?_ ?_
      |with_reducible refine Io ?_ ?_ ?_ ?_
      |((with_reducible refine Ml ?_ ?_);focus (intro h;first|(subst h;rfl)|(simp only[h];rfl)|(simp[Ck,Ac,h];done)))
      |with_reducible refine Mf λx=>?_
      |with_reducible refine Se (λ_=>?_) (λ_=>?_)
      |(refine En (λh=>by simp only[h,Mj,Dn,Dj,ite_self]) (λx h=>?_);(try simp only[h,Dn]))
      |(refine Gm (λh=>?_) (λh=>?_)<;>simp only[h,if_true,if_false,Bool.false_eq_true])
abbrev R_:=Bool
def H:Hd:=⟨[Ss,Sb,.lf (.list (.cons (.int .u8) (.cons (.int .i64) .nil))) none],[Sz],(.seq .d (.seq .d (.cut [0,1,2,7] [] .d (.seq .d (.seq .d (.seq .d (.seq .d (.cut [2,7,8,9,10,11,12] [] .d (.cut [2,7,8,9,10,11,12,15] [] (.mode false) .d))))))))),kt [F7.k,F8.k,F9.k,F10.k,F11.k,F12.k,F13.k,F14.k,F15.k,F16.k] false,[],f3⟩
def x5(b:List (UInt8×Int×Unit))(a:Bool)(h k:Int)(m:LB)(n o p u v w:Int)(g:LB)(y:Bool)(aa:Int)(f:List (Int×LB×Unit))(ab:LB)(ac:LI)(ae:LB)(af ag ah ai aj ak:Int)(ad:LB)(al:Bool)(am:Int)(ao:LB)(ap:LI):Option R_:=H.e P_ [r,r,r,r,r,r,r,r] ⟨[(2,.val (.list (.cons (.int .u8) (.cons (.int .i64) .nil))) b),(7,vt a),(8,.ptr 0 []),(9,.own 1),(10,vi h),(11,.ptr 2 []),(12,vi k)],[.box 32 (.agg [vs m,.own 3,.agg [vi n,vi o,vi p,vi u,vi v],.own 4,vi w,vb g,vt y,vi aa]),.arr 72 (.cons (.int .i64) (.cons (.list (.int .u8)) .nil)) f,.box 32 (.agg [vs ae,.own 5,.agg [vi af,vi ag,vi ah,vi ai,vi aj],.own 6,vi ak,vb ad,vt al,vi am]),Ab 5 ab,Ai 3 ac,Ab 5 ao,Ai 3 ap],[]⟩
theorem e5:x5=Im:=Eq.trans (b:=Mi Np) F4 (by rw[ID];rfl)
def k:Kc P_ gl:=⟨(3,⟨H.p,H.r,u3 Le⟩),co H func3 (λx=>Eq.trans (b:=u3 (Ng (Nk x5)) x) F4 (by simp only[e5]<;>rfl))⟩
end F3
end
end Go.Proofs.YtheamkpclkijmaaGreatDoor
