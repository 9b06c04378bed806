/- A part of a proof (see the text that ends in Proof). No conditions. -/
import Derived.Test.YtehlnpncgkmoaaaGreatDoorSfBB
import Derived.Test.YtehlnpncgkmoaaaGreatDoorSfPA
import Derived.Test.YtehlnpncgkmoaaaGreatDoorProg
import Derived.KernelRfl
namespace Go
theorem F5{p:Prop}(h:p:=by kernel_rfl):p:=h
end Go
set_option linter.unusedVariables false
set_option linter.unusedSimpArgs false
set_option maxRecDepth 10000
namespace Go.Proofs.YtehlnpncgkmoaaaGreatDoor
open Go Go.Lv Go.Pl Go.Rx Go.Rx.PS
noncomputable section
def g0:List Value:=[.int .i64 2,.int .i64 2,.int .i64 2,.int .i64 4,.int .i64 4]
def gl:List (Nat×List Value):=[(0,g0)]
theorem mixed:Tryz.prog.follows .mixedOrders=true:=F5
noncomputable abbrev P_:=Tryz.prog
noncomputable def kt(l:List (Kc P_ gl))(v:Bool)(c:Bool:=false):=Afa l v c
theorem co(H:Hd){f:Nat}{F:Zk (Ou H.p)->Option (Zk (Ou H.r))}(hf:P_.funcs[f]? =some H.f)(h:∀x,H.u P_ x=F x:=by intro x;kernel_rfl)(hT:LZ P_ H.T:=by exact M1 _ _ _)(hb:okA P_ H=true:=by kernel_rfl):ConOk P_ H.T.gl f ⟨H.p,H.r,F⟩:=Hd.cn mixed H hf hT hb h
abbrev u2{A B R:Type}(f:A->B->R)(x:A×B):=f x.1 x.2
abbrev u3{A B C R:Type}(f:A->B->C->R):=u2 λa=>u2 (f a)
abbrev u4{A B C D R:Type}(f:A->B->C->D->R):=u2 λa=>u3 (f a)
abbrev u5{A B C D E R:Type}(f:A->B->C->D->E->R):=u2 λa=>u4 (f a)
abbrev u6{A B C D E F R:Type}(f:A->B->C->D->E->F->R):=u2 λa=>u5 (f a)
abbrev u7{A B C D E F G R:Type}(f:A->B->C->D->E->F->G->R):=u2 λa=>u6 (f a)
abbrev u8{A B C D E F G H R:Type}(f:A->B->C->D->E->F->G->H->R):=u2 λa=>u7 (f a)
abbrev u9{A B C D E F G H I R:Type}(f:A->B->C->D->E->F->G->H->I->R):=u2 λa=>u8 (f a)
abbrev u10{A B C D E F G H I J R:Type}(f:A->B->C->D->E->F->G->H->I->J->R):=u2 λa=>u9 (f a)
abbrev wu{A B C D E F G H I J K R:Type}(f:A->B->C->D->E->F->G->H->I->J->K->R):=u2 λa=>u10 (f a)
abbrev u12{A B C D E F G H I J K L R:Type}(f:A->B->C->D->E->F->G->H->I->J->K->L->R):=u2 λa=>wu (f a)
open Go.Proofs.Tryz
namespace F32
def H:Hd:=⟨[],[.agg [Si,Si]],.d,kt [] false,[],f32⟩
def k:Kc P_ gl:=⟨(32,⟨H.p,H.r,λ_=>DF⟩),co H func32⟩
end F32
namespace F73
abbrev R_:=Bool
def H:Hd:=⟨[.agg [Sc,Si]],[Sz],(.seq .d (.seq (.seq .d (.blk (.cut [1,4,5] [] .d .d))) .d)),kt [] false,[],f73⟩
def k:Kc P_ gl:=⟨(73,⟨H.p,H.r,u2 KH⟩),co H func73⟩
end F73
namespace F72
def H:Hd:=⟨[.agg [Sc,Si]],[Sz],.d,kt [F73.k] false,[],f72⟩
def k:Kc P_ gl:=⟨(72,⟨H.p,H.r,u2 Tm⟩),co H func72⟩
end F72
namespace F37
abbrev R_:=Int
abbrev K_:=S->Option R_
def H:Hd:=⟨[.lf (.list (.cons (.int .u8) (.cons (.int .i64) .nil))) none],[Si],(.seq .d (.seq .d (.cut [] [] (.cut [7] [] (.keep [7] true) .d) .d))),kt [F72.k] false,[(71,(.seq .d (.cut [4] [] (.keep [4,7,8] true) .d))),(121,(.seq .d (.cut [] [] (.seq .d (.blk (.loop [0,1,7,8] [] (.seq .d (.seq .d (.cut [0,1,7,8] [] (.blk (.seq .d (.cut [0,1,5,7,8,16] [] .d .d))) .d)))))) .d)))],f37⟩
def t11(a:List (UInt8×Int×Unit))(b:Int):S:=⟨[(0,.val (.list (.cons (.int .u8) (.cons (.int .i64) .nil))) a),(1,.fn 72 []),(7,vi (Ac a)),(8,vi b)],[],[[(4,vt false)],[]]⟩
def z11:Nat->S->Option R_:=H.i P_ [r,r,l,l,(call 1 71),r,l,(call 2 121),r,l,r,d]
theorem i11(a:List (UInt8×Int×Unit)):∀(q:Nat) (b:Int),z11 q (t11 a b)=Ih a q b:=
 ind (λ_=>by kernel_rfl) λq ih b=>Eq.trans (b:=Oa (Vw (λb=>(z11 q) (t11 a b)) a) HE a b) F5 (by simp only[ih]<;>rfl)
def k:Kc P_ gl:=⟨(37,⟨H.p,H.r,AA⟩),co H func37 (λx=>Eq.trans (b:=Yy (λa b=>z11 Ey (t11 a b)) x) F5 (by simp only[i11,Bn]<;>rfl))⟩
end F37
namespace F79
def H:Hd:=⟨[Si],[Si,Si],.d,kt [] false,[],f79⟩
def k:Kc P_ gl:=⟨(79,⟨H.p,H.r,Nv⟩),co H func79⟩
end F79
namespace F81
abbrev R_:=(Int32×Int32×Int)
def H:Hd:=⟨[Si],[Sx,Sx,Si],(.seq .d (.seq (.seq .d (.blk (.cut [0,7] [] .d .d))) .d)),kt [] false,[],f81⟩
def k:Kc P_ gl:=⟨(81,⟨H.p,H.r,Kx⟩),co H func81⟩
end F81
namespace F80
def H:Hd:=⟨[.agg [Si,Si]],[Si],.d,kt [F81.k] false,[],f80⟩
def k:Kc P_ gl:=⟨(80,⟨H.p,H.r,u2 Mc⟩),co H func80⟩
end F80
namespace F40
def H:Hd:=⟨[.agg [Si,Si],Si,Ss],[Si,Sz],.d,kt [F79.k,F80.k] false,[],f40⟩
def k:Kc P_ gl:=⟨(40,⟨H.p,H.r,u4 Pj⟩),co H func40⟩
end F40
namespace F11
def H:Hd:=⟨[.agg [Si,Si],Si,Ss],[.agg [.agg [Si,Si],Si,Ss,Ob 5,Ow 21,.lf (.list (.list (.int .u8))) (some 24),Ob 5,Sz,Si],Si],.d,kt [F40.k] false,[],f11⟩
def k:Kc P_ gl:=⟨(11,⟨H.p,H.r,u4 Yc⟩),co H func11⟩
end F11
namespace F42
def H:Hd:=⟨[.agg [Si,Si]],[Si],.d,kt [] false,[],f42⟩
def k:Kc P_ gl:=⟨(42,⟨H.p,H.r,u2 Sg⟩),co H func42⟩
end F42
namespace F107
abbrev R_:=Int
def H:Hd:=⟨[Si,Sw],[Si],(.seq .d (.seq .d (.seq .d (.seq .d (.cut [] [] (.seq .d (.blk (.loop [5,6,22,23,24] [] .d))) .d))))),kt [F81.k] false,[],f107⟩
def t4(b f:Int32)(a:LX)(g:Int):S:=⟨[(5,vx b),(6,vx f),(22,vw a),(23,vi (Ac a)),(24,vi g)],[],[]⟩
def z4:Nat->S->Option R_:=H.i P_ [r,r,r,r,l,r,d]
theorem i4(b f:Int32)(a:LX):∀(q:Nat) (g:Int),z4 q (t4 b f a g)=Kg b f a q g:=
 ind (λ_=>by kernel_rfl) λq ih g=>Eq.trans (b:=Sa RB (λg=>(z4 q) (t4 b f a g)) b f a g) F5 (by simp only[ih]<;>rfl)
def k:Kc P_ gl:=⟨(107,⟨H.p,H.r,u2 Kw⟩),co H func107 (λx=>Eq.trans (b:=u2 (BZ (λb f a g=>z4 Ey (t4 b f a g))) x) F5 (by simp only[i4,Bn]<;>rfl))⟩
end F107
namespace F45
def H:Hd:=⟨[.agg [.agg [Si,Si],Si,Ss,Sb,Sw,.lf (.list (.list (.int .u8))) none,Sb,Sz,Si],Si],[Si],.d,kt [] false,[],f45⟩
def k:Kc P_ gl:=⟨(45,⟨H.p,H.r,wu Ma⟩),co H func45⟩
end F45
namespace F44
def H:Hd:=⟨[.agg [.agg [Si,Si],Si,Ss,Sb,Sw,.lf (.list (.list (.int .u8))) none,Sb,Sz,Si],Si,Si],[Sz],.d,kt [] false,[],f44⟩
def k:Kc P_ gl:=⟨(44,⟨H.p,H.r,u12 Lo⟩),co H func44⟩
end F44
namespace F97
abbrev R_:=Bool
abbrev K_:=S->Option R_
def H:Hd:=⟨[.agg [.agg [Si,Si],Si,Ss,Sb,Sw,.lf (.list (.list (.int .u8))) none,Sb,Sz,Si],Si],[Sz],(.seq .d (.seq .d (.cut [1,2,5] [] .d (.seq .d (.seq .d (.cut [1,2,5,6] [] .d (.cut [1,2,5] [] .d (.seq .d (.cut [4] [] (.keep [4,80,81] true) .d))))))))),kt [F42.k,F44.k,F45.k,F107.k] false,[(143,(.seq .d (.cut [4] [] (.keep [4,7,8] true) .d))),(144,.d),(197,(.seq .d (.cut [] [] (.seq .d (.blk (.loop [0,1,7,8] [] (.seq .d (.seq .d (.cut [0,1,7,8] [] (.blk (.seq .d (.cut [0,1,5,7,8,16] [] (.keep [0,1,5,7,8,16] true) .d))) .d)))))) .d)))],f97⟩
def t16(b:List LB)(f a h:Int):S:=⟨[(0,.val (.list (.list (.int .u8))) b),(1,.fn 144 [.ptr 0 []]),(7,vi (Ac b)),(8,vi h)],[.box 3 (vi (Ad (Bs (Ad (Bq (Bq (81:Int) f) a) (7:Int)) (8:Int)) (4:Int)))],[[(4,vt false)],[]]⟩
def z16:Nat->S->Option R_:=H.i P_ [r,r,r,r,r,r,r,r,l,(call 3 143),r,l,(call 2 197),r,l,r,d]
def x13(f a k o:Int)(p m:LB)(g:LX)(b:List LB)(n:LB)(u:Bool)(v:Int):Option R_:=H.e P_ [r,r,r] ⟨[(1,vi f),(2,.ptr 0 []),(5,vi a)],[.box 33 (.agg [.agg [vi a,vi k],vi o,vs p,vb m,vw g,.val (.list (.list (.int .u8))) b,vb n,vt u,vi v])],[]⟩
theorem i16(b:List LB)(f a:Int):∀(q:Nat) (h:Int),z16 q (t16 b f a h)=Gi b f a q h:=
 ind (λ_=>by kernel_rfl) λq ih h=>Eq.trans (b:=Jx (Oi (λh=>(z16 q) (t16 b f a h)) b f a) Zh b f a h) F5 (by simp only[ih]<;>rfl)
theorem e13:x13=Om:=Eq.trans (b:=Oq (Jw (Jv (λb f a h=>z16 Ey (t16 b f a h))))) F5 (by simp only[i16,Bn]<;>rfl)
def k:Kc P_ gl:=⟨(97,⟨H.p,H.r,wu Pu⟩),co H func97 (λx=>Eq.trans (b:=wu (Qe x13) x) F5 (by simp only[e13]<;>rfl))⟩
end F97
namespace F53
def H:Hd:=⟨[.agg [.agg [Si,Si],Si,Ss,Sb,Sw,.lf (.list (.list (.int .u8))) none,Sb,Sz,Si]],[Si],.d,kt [F40.k,F97.k] false,[],f53⟩
def k:Kc P_ gl:=⟨(53,⟨H.p,H.r,u10 Ic⟩),co H func53⟩
end F53
namespace F75
def Ir(a:LB):Option (LB):=
pS a (
some ([]:LB)) (
(Ch ([]:LB) a).bind λb=>
some b)
theorem Yn: @Ir= @Ax:=by
  unfold Ir Ax
  repeat (refine funext λ_=>?_)
  repeat' first
    |with_reducible rfl
    |with_reducible refine Tk ?_ ?_
    |with_reducible refine Ry ?_ ?_ ?_
    |with_reducible refine Tu ?_ ?_ ?_ ?_
    |((with_reducible refine AF ?_ ?_);focus (intro h;first|(subst h;rfl)|(simp only[h];rfl)|(simp[Ch,Ac,h];done)))
    |with_reducible refine Zv λx=>?_
    |with_reducible refine JI (λ_=>?_) (λ_=>?_)
    |(refine Kz (λh=>by simp only[h,AE,Jb,Hx,ite_self]) (λx h=>?_);(try simp only[h,Jb]))
    |(refine Oe (λh=>?_) (λh=>?_)<;>simp only[h,if_true,if_false,Bool.false_eq_true])
def H:Hd:=⟨[Sb],[Ob 5],.d,kt [] false,[],f75⟩
def k:Kc P_ gl:=⟨(75,⟨H.p,H.r,Ax⟩),co H func75 (λx=>Eq.trans (b:=Ir x) F5 (by simp only[Yn]<;>rfl))⟩
end F75
namespace F122
def Hp(a:LX):Option (LX):=
pS a (
some ([]:LX)) (
(Ch ([]:LX) a).bind λb=>
some b)
theorem Ut: @Hp= @By:=by
  unfold Hp By
  repeat (refine funext λ_=>?_)
  repeat' first
    |with_reducible rfl
    |with_reducible refine Tk ?_ ?_
    |with_reducible refine Ry ?_ ?_ ?_
    |with_reducible refine Tu ?_ ?_ ?_ ?_
    |((with_reducible refine AF ?_ ?_);focus (intro h;first|(subst h;rfl)|(simp only[h];rfl)|(simp[Ch,Ac,h];done)))
    |with_reducible refine Zv λx=>?_
    |with_reducible refine JI (λ_=>?_) (λ_=>?_)
    |(refine Kz (λh=>by simp only[h,AE,Jb,Hx,ite_self]) (λx h=>?_);(try simp only[h,Jb]))
    |(refine Oe (λh=>?_) (λh=>?_)<;>simp only[h,if_true,if_false,Bool.false_eq_true])
def H:Hd:=⟨[Sw],[Ow 21],.d,kt [] false,[],f122⟩
def k:Kc P_ gl:=⟨(122,⟨H.p,H.r,By⟩),co H func122 (λx=>Eq.trans (b:=Hp x) F5 (by simp only[Ut]<;>rfl))⟩
end F122
namespace F74
abbrev R_:=(Int×Int×Int×LB×LB×LX×(List LB)×LB×Bool×Int)
def H:Hd:=⟨[.agg [.agg [Si,Si],Si,Ss,Sb,Sw,.lf (.list (.list (.int .u8))) none,Sb,Sz,Si]],[.agg [.agg [Si,Si],Si,Ss,Ob 5,Ow 21,.lf (.list (.list (.int .u8))) (some 24),Ob 5,Sz,Si]],(.seq .d (.cut [1,2] [] .d (.seq .d (.seq .d (.cut [1,2,3] [] (.seq .d (.blk (.loop [1,2,3,26,27] [] .d))) .d))))),kt [F75.k,F122.k] false,[],f74⟩
def t6(w a:List LB)(b f g:Int)(h:LB)(k:Bool)(m:Int)(n:LB)(o:LX)(p:LB)(v:Int)(u:List LB):S:=⟨[(1,.ptr 0 []),(2,.ptr 1 []),(3,.own 2),(26,vi (Ac (IB w a))),(27,vi v)],[.box 33 (.agg [.agg [vi b,vi f],vi g,vs h,.own 3,.own 4,.val (.list (.list (.int .u8))) a,.own 5,vt k,vi m]),.box 33 (.agg [.agg [vi 0,vi 0],vi 0,vs ([]:LB),.nils,.nils,.nils,.nils,vt false,vi 0]),.arr 24 (.list (.int .u8)) u,Ab 5 n,Aw 21 o,Ab 5 p],[]⟩
def z6:Nat->S->Option R_:=H.i P_ [r,r,r,r,l,r,d]
theorem i6(w a:List LB)(b f g:Int)(h:LB)(k:Bool)(m:Int)(n:LB)(o:LX)(p:LB):∀(q:Nat) (v:Int) (u:List LB),z6 q (t6 w a b f g h k m n o p v u)=Jk w a b f g h k m n o p q v u:=
 ind (λ_ _=>by kernel_rfl) λq ih v u=>Eq.trans (b:=Py MC (λv u=>(z6 q) (t6 w a b f g h k m n o p v u)) w a b f g h k m n o p v u) F5 (by simp only[ih]<;>rfl)
def k:Kc P_ gl:=⟨(74,⟨H.p,H.r,u10 Tn⟩),co H func74 (λx=>Eq.trans (b:=u10 (Ys (Yw (λw a b f g h k m n o p v u=>z6 Ey (t6 w a b f g h k m n o p v u)))) x) F5 (by simp only[i6,Bn]<;>rfl))⟩
end F74
namespace F41
abbrev R_:=(Int×Int×Int×LB×LB×LX×(List LB)×LB×Bool×Int×Int×Int)
def H:Hd:=⟨[.agg [.agg [Si,Si],Si,Ss,Sb,Sw,.lf (.list (.list (.int .u8))) none,Sb,Sz,Si]],[.agg [.agg [Si,Si],Si,Ss,Ob 5,Ow 21,.lf (.list (.list (.int .u8))) (some 24),Ob 5,Sz,Si],Si,Si],(.seq .d (.seq .d (.seq .d (.cut [1,2,6,7] [] .d .d)))),kt [F53.k,F74.k,F79.k] false,[],f41⟩
def k:Kc P_ gl:=⟨(41,⟨H.p,H.r,u10 Jr⟩),co H func41⟩
end F41
namespace F46
abbrev R_:=(LX×Int)
abbrev K_:=S->Option R_
def H:Hd:=⟨[Si,Sb],[Ow 21,Si],(.seq .d (.seq .d (.seq .d (.seq .d (.seq .d (.seq .d (.cut [10] [] (.seq .d (.blk (.loop [0,1,9,10,11] [⟨10,[],.own 21 (.int .i32)⟩] (.seq .d (.cut [0,1,9,10,11] [] (.blk (.seq .d (.seq .d (.cut [0,1,9,10,11,12] [] (.seq .d (.blk (.loop [0,1,9,10,11,12,53,54] [] .d))) .d)))) .d))))) .d))))))),kt [F81.k] false,[],f46⟩
def t25(a:Int)(b:LB)(f:Int)(g:LX)(k:Int32)(h:Int):S:=⟨[(0,vi a),(1,vb b),(9,vi (Bs a (8:Int))),(10,.own 0),(11,vi f),(12,vx k),(53,vi (Bs a (8:Int))),(54,vi h)],[Aw 21 g],[]⟩
def z25(Lw:K_):Nat->S->Option R_:=H.i P_ [r,r,r,r,r,r,l,r,d,(lp Lw),r,l,d,r,r,l,r,d]
def t16(a:Int)(b:LB)(f:Int)(g:LX):S:=⟨[(0,vi a),(1,vb b),(9,vi (Bs a (8:Int))),(10,.own 0),(11,vi f)],[Aw 21 g],[]⟩
def z16:Nat->S->Option R_:=H.i P_ [r,r,r,r,r,r,l,r,d]
def x25(Lw:K_)(a:Int)(b:LB)(f:Int)(g:LX)(k:Int32)(h:Int):Option R_:=H.e P_ [r,r,r,r,r,r,l,r,d,(lp Lw),r,l,d,r,r,l,r,d] (t25 a b f g k h)
theorem i25(Lw:K_)(a:Int)(b:LB)(f:Int)(g:LX):∀(q:Nat) (k:Int32) (h:Int),z25 Lw q (t25 a b f g k h)=Ct (λf g=>Lw (t16 a b f g)) a b f g q k h:=
 ind (λ_ _=>by kernel_rfl) λq ih k h=>Eq.trans (b:=Di (Mx (λf g=>Lw (t16 a b f g)) a b) (λk h=>(z25 Lw q) (t25 a b f g k h)) a b f g k h) F5 (by simp only[ih]<;>rfl)
theorem e25(Lw:K_)(a:Int)(b:LB):x25 Lw a b=Ho (λf g=>Lw (t16 a b f g)) a b:=by funext f g k h;exact Eq.trans F5 ((i25 Lw a b f g Ey k h).trans (by rw[Bn];rfl))
theorem i16(a:Int)(b:LB):∀(q:Nat) (f:Int) (g:LX),z16 q (t16 a b f g)=Cg a b q f g:=
 ind (λ_ _=>by kernel_rfl) λq ih f g=>Eq.trans (b:=Ds (Fy (λf g=>(z16 q) (t16 a b f g)) a b) (x25 (z16 q) a b) DS a b f g) F5 (by simp only[e25,ih]<;>rfl)
def k:Kc P_ gl:=⟨(46,⟨H.p,H.r,u2 Wr⟩),co H func46 (λx=>Eq.trans (b:=u2 (Wg (λa b f g=>z16 Ey (t16 a b f g))) x) F5 (by simp only[i16,Bn]<;>rfl))⟩
end F46
namespace F170
abbrev R_:=(UInt64×Int)
abbrev K_:=S->Option R_
def H:Hd:=⟨[Sq,Sb],[Sq,Si],(.seq .d (.seq .d (.cut [4,5] [] (.keep [0,1,4,5,9,10,11,12] true) .d))),kt [] false,[(208,(.seq .d (.cut [1] [] (.seq .d (.blk (.loop [0,1,9,10,11] [] .d))) .d))),(209,(.seq .d (.seq .d (.cut [1] [] (.seq .d (.blk (.loop [1,5] [] (.seq .d (.seq .d (.cut [1,5] [] (.blk (.seq .d (.seq .d (.cut [1,2,3,5] [] (.seq .d (.blk (.loop [1,2,3,5,11] [] .d))) .d)))) .d)))))) .d))))],f170⟩
def t27(a:LB)(b:UInt64)(f:LQ)(h:UInt64)(m:Int):S:=⟨[(0,.ptr 0 []),(1,vq h),(9,vb a),(10,vi (Ac a)),(11,vi m)],[.box 336 (.val (.vec 256 (.int .u64)) f)],[[(0,vq b),(1,vb a),(4,vq 0),(5,vi 0),(9,.ptr 0 []),(10,vq b),(11,vb a)]]⟩
def z27:Nat->S->Option R_:=H.i P_ [r,r,l,(call 3 208),r,l,r,d]
def t21(b:UInt64)(a:LB)(g:Int)(f:LQ)(k:UInt64)(n:Int):S:=⟨[(1,.ptr 0 []),(2,vi g),(3,vq k),(5,vi g),(11,vi n)],[.box 336 (.val (.vec 256 (.int .u64)) f)],[[(0,vq b),(1,vb a),(4,vq 0),(5,vi 0)]]⟩
def z21(Lw:K_):Nat->S->Option R_:=H.i P_ [r,r,l,(call 0 209),r,r,l,r,d,(lp Lw),r,r,l,d,r,r,l,r,d]
def t16(b:UInt64)(a:LB)(g:Int)(f:LQ):S:=⟨[(1,.ptr 0 []),(5,vi g)],[.box 336 (.val (.vec 256 (.int .u64)) f)],[[(0,vq b),(1,vb a),(4,vq 0),(5,vi 0)]]⟩
def z16:Nat->S->Option R_:=H.i P_ [r,r,l,(call 0 209),r,r,l,r,d]
def x27(a:LB)(b:UInt64)(f:LQ)(h:UInt64)(m:Int):Option R_:=H.e P_ [r,r,l,(call 3 208),r,l,r,d] (t27 a b f h m)
def x21(Lw:K_)(b:UInt64)(a:LB)(g:Int)(f:LQ)(k:UInt64)(n:Int):Option R_:=H.e P_ [r,r,l,(call 0 209),r,r,l,r,d,(lp Lw),r,r,l,d,r,r,l,r,d] (t21 b a g f k n)
theorem i27(a:LB)(b:UInt64)(f:LQ):∀(q:Nat) (h:UInt64) (m:Int),z27 q (t27 a b f h m)=Kh a b f q h m:=
 ind (λ_ _=>by kernel_rfl) λq ih h m=>Eq.trans (b:=Td BY (λh m=>(z27 q) (t27 a b f h m)) a b f h m) F5 (by simp only[ih]<;>rfl)
theorem e27:x27=AZ:=by funext a b f h m;exact Eq.trans F5 ((i27 a b f Ey h m).trans (by rw[Bn];rfl))
theorem i21(Lw:K_)(b:UInt64)(a:LB)(g:Int)(f:LQ):∀(q:Nat) (k:UInt64) (n:Int),z21 Lw q (t21 b a g f k n)=Kl (λg f=>Lw (t16 b a g f)) b a g f q k n:=
 ind (λ_ _=>by kernel_rfl) λq ih k n=>Eq.trans (b:=Rw (Sn (λg f=>Lw (t16 b a g f)) b a) (λk n=>(z21 Lw q) (t21 b a g f k n)) b a g f k n) F5 (by simp only[ih]<;>rfl)
theorem e21(Lw:K_)(b:UInt64)(a:LB):x21 Lw b a=CM (λg f=>Lw (t16 b a g f)) b a:=by funext g f k n;exact Eq.trans F5 ((i21 Lw b a g f Ey k n).trans (by rw[Bn];rfl))
theorem i16(b:UInt64)(a:LB):∀(q:Nat) (g:Int) (f:LQ),z16 q (t16 b a g f)=Iw b a q g f:=
 ind (λ_ _=>by kernel_rfl) λq ih g f=>Eq.trans (b:=Te (x21 (z16 q) b a) (AR x27) b a g f) F5 (by simp only[e21,e27,ih]<;>rfl)
def k:Kc P_ gl:=⟨(170,⟨H.p,H.r,u2 KJ⟩),co H func170 (λx=>Eq.trans (b:=u2 (FB (λb a g f=>z16 Ey (t16 b a g f))) x) F5 (by simp only[i16,Bn]<;>rfl))⟩
end F170
namespace F123
def H:Hd:=⟨[Sb],[Sq,Si],.d,kt [F170.k] false,[],f123⟩
def k:Kc P_ gl:=⟨(123,⟨H.p,H.r,GP⟩),co H func123⟩
end F123
namespace F124
abbrev R_:=LX
def H:Hd:=⟨[Sq],[.lf (.vec 16 (.int .i32)) none],(.seq .d (.seq .d (.cut [2,3] [] (.seq .d (.blk (.loop [0,2,3,5] [] .d))) .d))),kt [] false,[],f124⟩
def t4(f:UInt64)(a:Int)(b:LX):S:=⟨[(0,vq f),(2,.ptr 0 []),(3,.ptr 1 []),(5,vi a)],[.box 132 (.val (.vec 16 (.int .i32)) (List.replicate 16 (0:Int32))),.box 132 (.val (.vec 16 (.int .i32)) b)],[]⟩
def z4:Nat->S->Option R_:=H.i P_ [r,r,l,r,d]
theorem i4(f:UInt64):∀(q:Nat) (a:Int) (b:LX),z4 q (t4 f a b)=Wh f q a b:=
 ind (λ_ _=>by kernel_rfl) λq ih a b=>Eq.trans (b:=LK jI (λa b=>(z4 q) (t4 f a b)) f a b) F5 (by simp only[ih]<;>rfl)
def k:Kc P_ gl:=⟨(124,⟨H.p,H.r,qC⟩),co H func124 (λx=>Eq.trans (b:=lL (λf a b=>z4 Ey (t4 f a b)) x) F5 (by simp only[i4,Bn]<;>rfl))⟩
end F124
namespace F82
def H:Hd:=⟨[Ss],[.lf (.vec 16 (.int .i32)) none,Si],.d,kt [F123.k,F124.k] false,[],f82⟩
def k:Kc P_ gl:=⟨(82,⟨H.p,H.r,HV⟩),co H func82⟩
end F82
namespace F171
def H:Hd:=⟨[.agg [Si,Si],Sw],[Si],.d,kt [F80.k,F107.k] false,[],f171⟩
def k:Kc P_ gl:=⟨(171,⟨H.p,H.r,u3 Wq⟩),co H func171⟩
end F171
namespace F210
def H:Hd:=⟨[Si,Sw],[Si],.d,kt [] false,[],f210⟩
def k:Kc P_ gl:=⟨(210,⟨H.p,H.r,u2 HK⟩),co H func210⟩
end F210
namespace F172
abbrev R_:=(LX×Int)
abbrev K_:=S->Option R_
def H:Hd:=⟨[Si,Sw],[Ow 21,Si],(.seq .d (.seq .d (.seq .d (.cut [7] [] (.seq .d (.blk (.loop [0,7,8] [] (.seq .d (.cut [0,7,8] [] (.blk (.keep [0,7,8,24,25,26,27,28,29] true)) .d))))) .d)))),kt [F122.k,F210.k] true,[(211,(.seq .d (.cut [0,2] [] (.seq .d (.blk (.loop [0,2,7,8] [] .d))) .d)))],f172⟩
def t17(b a f:Int)(g:LX):S:=⟨[(0,.view true 0 [] (.int .i32) a ((Ad a b)-a)),(2,vi (Ag ((Ad a b)-a) (1:Int))),(7,vi (Ag ((Ad a b)-a) (1:Int))),(8,vi f)],[Aw 21 g],[[(0,vi b),(7,.own 0),(8,vi a),(24,.own 0),(25,vi a),(26,vi a),(27,vi b),(28,vi (Ad a b)),(29,.view true 0 [] (.int .i32) a ((Ad a b)-a))]]⟩
def z17(gN:K_):Nat->S->Option R_:=H.i P_ [r,r,r,l,r,d,(lp gN),r,l,d,(call 6 211),r,l,r,d]
def t12(b a:Int)(h:LX):S:=⟨[(0,vi b),(7,.own 0),(8,vi a)],[Aw 21 h],[]⟩
def z12:Nat->S->Option R_:=H.i P_ [r,r,r,l,r,d]
def x17(gN:K_)(b a f:Int)(g:LX):Option R_:=H.e P_ [r,r,r,l,r,d,(lp gN),r,l,d,(call 6 211),r,l,r,d] (t17 b a f g)
theorem i17(gN:K_)(b a:Int):∀(q:Nat) (f:Int) (g:LX),z17 gN q (t17 b a f g)=Rl (λa h=>gN (t12 b a h)) b a q f g:=
 ind (λ_ _=>by kernel_rfl) λq ih f g=>Eq.trans (b:=CZ (OP (λa h=>gN (t12 b a h)) b) (λf g=>(z17 gN q) (t17 b a f g)) b a f g) F5 (by simp only[ih]<;>rfl)
theorem e17(gN:K_)(b:Int):x17 gN b=eR (λa h=>gN (t12 b a h)) b:=by funext a f g;exact Eq.trans F5 ((i17 gN b a Ey f g).trans (by rw[Bn];rfl))
theorem i12(b:Int):∀(q:Nat) (a:Int) (h:LX),z12 q (t12 b a h)=Rr b q a h:=
 ind (λ_ _=>by kernel_rfl) λq ih a h=>Eq.trans (b:=OY (x17 (z12 q) b) eH b a h) F5 (by simp only[e17,ih]<;>rfl)
def k:Kc P_ gl:=⟨(172,⟨H.p,H.r,u2 hJ⟩),co H func172 (λx=>Eq.trans (b:=u2 (XT (λb a h=>z12 Ey (t12 b a h))) x) F5 (by simp only[i12,Bn]<;>rfl))⟩
end F172
namespace F212
abbrev R_:=(Int×LX×LX×Int)
def H:Hd:=⟨[Si,.lf (.vec 16 (.int .i32)) none],[.agg [Si,.lf (.vec 16 (.int .i32)) none,.lf (.vec 16 (.int .i32)) none],Si],(.seq .d (.seq .d (.seq (.seq .d (.blk (.cut [4,6,9,11] [] .d .d))) .d))),kt [] false,[],f212⟩
def k:Kc P_ gl:=⟨(212,⟨H.p,H.r,u2 aV⟩),co H func212⟩
end F212
namespace F173
def H:Hd:=⟨[Si,.lf (.vec 16 (.int .i32)) none],[.agg [Si,Sx,.agg [Si,.lf (.vec 16 (.int .i32)) none,.lf (.vec 16 (.int .i32)) none]],Si],.d,kt [F212.k] false,[],f173⟩
def k:Kc P_ gl:=⟨(173,⟨H.p,H.r,u2 eC⟩),co H func173⟩
end F173
namespace F213
def H:Hd:=⟨[.agg [Si,Sx,.agg [Si,.lf (.vec 16 (.int .i32)) none,.lf (.vec 16 (.int .i32)) none]]],[Si],.d,kt [F212.k] false,[],f213⟩
def k:Kc P_ gl:=⟨(213,⟨H.p,H.r,u5 Rf⟩),co H func213⟩
end F213
namespace F240
def H:Hd:=⟨[Si],[Si,Si],.d,kt [] false,[],f240⟩
def k:Kc P_ gl:=⟨(240,⟨H.p,H.r,QJ⟩),co H func240⟩
end F240
namespace F241
def H:Hd:=⟨[Si,Sx],[Sx],.d,kt [] false,[],f241⟩
def k:Kc P_ gl:=⟨(241,⟨H.p,H.r,u2 DA⟩),co H func241⟩
end F241
namespace F214
def H:Hd:=⟨[Si,Sx],[Sx,Si],.d,kt [F240.k,F241.k] false,[],f214⟩
def k:Kc P_ gl:=⟨(214,⟨H.p,H.r,u2 Rh⟩),co H func214⟩
end F214
namespace F265
def H:Hd:=⟨[.agg [Si,.lf (.vec 16 (.int .i32)) none,.lf (.vec 16 (.int .i32)) none]],[Si],.d,kt [] false,[],f265⟩
def k:Kc P_ gl:=⟨(265,⟨H.p,H.r,u3 Wf⟩),co H func265⟩
end F265
namespace F242
abbrev R_:=(Int32×Int)
def H:Hd:=⟨[.agg [Si,.lf (.vec 16 (.int .i32)) none,.lf (.vec 16 (.int .i32)) none]],[Sx,Si],(.seq .d (.seq .d (.seq .d (.cut [1,5] [] (.seq .d (.blk (.loop [1,5,18,19] [] .d))) .d)))),kt [F265.k] false,[],f242⟩
def t4(b:LX)(a:Int)(f:LX)(h:Int32)(g:Int):S:=⟨[(1,.ptr 0 []),(5,vx h),(18,.val (.vec 16 (.int .i32)) b),(19,vi g)],[.box 257 (.agg [vi a,.val (.vec 16 (.int .i32)) b,.val (.vec 16 (.int .i32)) f])],[]⟩
def z4:Nat->S->Option R_:=H.i P_ [r,r,r,l,r,d]
theorem i4(b:LX)(a:Int)(f:LX):∀(q:Nat) (h:Int32) (g:Int),z4 q (t4 b a f h g)=Md b a f q h g:=
 ind (λ_ _=>by kernel_rfl) λq ih h g=>Eq.trans (b:=Wu ER (λh g=>(z4 q) (t4 b a f h g)) b a f h g) F5 (by simp only[ih]<;>rfl)
def k:Kc P_ gl:=⟨(242,⟨H.p,H.r,u3 BU⟩),co H func242 (λx=>Eq.trans (b:=u3 (EP (λb a f h g=>z4 Ey (t4 b a f h g))) x) F5 (by simp only[i4,Bn]<;>rfl))⟩
end F242
namespace F293
def H:Hd:=⟨[Si],[Sx],.d,kt [] false,[],f293⟩
def k:Kc P_ gl:=⟨(293,⟨H.p,H.r,GF⟩),co H func293⟩
end F293
namespace F266
abbrev R_:=(Int×LX×LX×Int)
def H:Hd:=⟨[.agg [Si,.lf (.vec 16 (.int .i32)) none,.lf (.vec 16 (.int .i32)) none],Sx],[.agg [Si,.lf (.vec 16 (.int .i32)) none,.lf (.vec 16 (.int .i32)) none],Si],(.seq .d (.seq .d (.seq .d (.cut [2,4] [] (.seq .d (.blk (.loop [1,2,4,19,20] [] .d))) .d)))),kt [F265.k,F293.k] false,[],f266⟩
def t4(h:Int32)(f:LX)(g a:Int)(b:LX):S:=⟨[(1,vx h),(2,.ptr 0 []),(4,.ptr 1 []),(19,.val (.vec 16 (.int .i32)) f),(20,vi a)],[.box 257 (.agg [vi g,.val (.vec 16 (.int .i32)) b,.val (.vec 16 (.int .i32)) f]),.box 257 (.agg [vi 0,.val (.vec 16 (.int .i32)) (List.replicate 16 (0:Int32)),.val (.vec 16 (.int .i32)) (List.replicate 16 (0:Int32))])],[]⟩
def z4:Nat->S->Option R_:=H.i P_ [r,r,r,l,r,d]
theorem i4(h:Int32)(f:LX)(g:Int):∀(q:Nat) (a:Int) (b:LX),z4 q (t4 h f g a b)=Lz h f g q a b:=
 ind (λ_ _=>by kernel_rfl) λq ih a b=>Eq.trans (b:=Wv WK (λa b=>(z4 q) (t4 h f g a b)) h f g a b) F5 (by simp only[ih]<;>rfl)
def k:Kc P_ gl:=⟨(266,⟨H.p,H.r,u4 LM⟩),co H func266 (λx=>Eq.trans (b:=u4 (EZ (λh f g a b=>z4 Ey (t4 h f g a b))) x) F5 (by simp only[i4,Bn]<;>rfl))⟩
end F266
namespace F267
def EJ(j2:Int32->Int->LX->LX->Option (Int×LX×LX×Int))(b:Int)(f a:LX)(g:Int32):Option (Int×LX×LX×Int):=
(Wf b f a).bind λh=>
if(Bp h 0)then
some (0,(List.replicate 16 (0:Int32)),(List.replicate 16 (0:Int32)),h)
else
both (
(ZD 16 1 16).bind λ_=>
(ZD 16 0 16).bind λ_=>
j2 g b f a) [
(ZD 16 0 16).bind λ_=>
(ZD 16 1 16).bind λ_=>
j2 g b f a]
theorem dY: @EJ= @Zz:=by
  unfold EJ Zz
  repeat (refine funext λ_=>?_)
  repeat' first
    |with_reducible rfl
    |with_reducible refine Tk ?_ ?_
    |with_reducible refine Ry ?_ ?_ ?_
    |with_reducible refine Tu ?_ ?_ ?_ ?_
    |((with_reducible refine AF ?_ ?_);focus (intro h;first|(subst h;rfl)|(simp only[h];rfl)|(simp[Ch,Ac,h];done)))
    |with_reducible refine Zv λx=>?_
    |with_reducible refine JI (λ_=>?_) (λ_=>?_)
    |(refine Kz (λh=>by simp only[h,AE,Jb,Hx,ite_self]) (λx h=>?_);(try simp only[h,Jb]))
    |(refine Oe (λh=>?_) (λh=>?_)<;>simp only[h,if_true,if_false,Bool.false_eq_true])
abbrev R_:=(Int×LX×LX×Int)
def H:Hd:=⟨[.agg [Si,.lf (.vec 16 (.int .i32)) none,.lf (.vec 16 (.int .i32)) none],Sx],[.agg [Si,.lf (.vec 16 (.int .i32)) none,.lf (.vec 16 (.int .i32)) none],Si],(.seq .d (.seq .d (.cut [1,2,4] [] .d .d))),kt [F265.k] false,[],f267⟩
def k:Kc P_ gl:=⟨(267,⟨H.p,H.r,u4 TK⟩),co H func267 (λx=>Eq.trans (b:=u4 (EJ KA) x) F5 (by simp only[dY]<;>rfl))⟩
end F267
namespace F243
def H:Hd:=⟨[.agg [Si,.lf (.vec 16 (.int .i32)) none,.lf (.vec 16 (.int .i32)) none],Sx,Sx],[.agg [Si,.lf (.vec 16 (.int .i32)) none,.lf (.vec 16 (.int .i32)) none]],.d,kt [F266.k,F267.k] false,[],f243⟩
def k:Kc P_ gl:=⟨(243,⟨H.p,H.r,u5 IZ⟩),co H func243⟩
end F243
namespace F215
def H:Hd:=⟨[.agg [Si,.lf (.vec 16 (.int .i32)) none,.lf (.vec 16 (.int .i32)) none],Sx],[Sx,.agg [Si,.lf (.vec 16 (.int .i32)) none,.lf (.vec 16 (.int .i32)) none],Si],.d,kt [F242.k,F243.k] false,[],f215⟩
def k:Kc P_ gl:=⟨(215,⟨H.p,H.r,u4 EH⟩),co H func215⟩
end F215
namespace F174
def Uc(a:Int)(b:Int32)(f:Int)(g h:LX)(k:Int32):Option (Int32×Int×Int32×Int×LX×LX×Int):=
(Rf a b f g h).bind λm=>
if(Bp m 0)then
some (0,0,0,0,(List.replicate 16 (0:Int32)),(List.replicate 16 (0:Int32)),m)
else
(Rh a b).bind λ(n,y)=>
(EH f g h (Ag k n)).bind λ(o,p,u,v,w)=>
bo (
some (o,a,k,p,u,v,w))
theorem RM: @Uc= @Ly:=by
  unfold Uc Ly;simp only[pF,bQ,dP]
def H:Hd:=⟨[.agg [Si,Sx,.agg [Si,.lf (.vec 16 (.int .i32)) none,.lf (.vec 16 (.int .i32)) none]],Sx],[Sx,.agg [Si,Sx,.agg [Si,.lf (.vec 16 (.int .i32)) none,.lf (.vec 16 (.int .i32)) none]],Si],(.seq .d (.seq .d (.seq .d (.seq .d (.seq (.mode false) .d))))),kt [F213.k,F214.k,F215.k] false,[],f174⟩
def k:Kc P_ gl:=⟨(174,⟨H.p,H.r,u6 Ly⟩),co H func174 (λx=>Eq.trans (b:=u6 Uc x) F5 (by simp only[RM]<;>rfl))⟩
end F174
namespace F175
def H:Hd:=⟨[Sx],[Su],.d,kt [] false,[],f175⟩
def k:Kc P_ gl:=⟨(175,⟨H.p,H.r,SW⟩),co H func175⟩
end F175
namespace F125
abbrev R_:=(LU×Int)
def H:Hd:=⟨[.agg [Si,Si],.lf (.vec 16 (.int .i32)) none,Sw],[Ov 201,Si],(.seq .d (.seq .d (.seq .d (.seq .d (.seq .d (.cut [3,9,11] [] (.seq .d (.blk (.loop [3,4,9,11,36] [] .d))) (.seq .d (.cut [13] [] (.seq .d (.blk (.loop [3,11,13,49,50,51] [⟨13,[],.own 201 (.int .u32)⟩] .d))) .d)))))))),kt [F171.k,F172.k,F173.k,F174.k,F175.k] false,[],f125⟩
def t10(b:LX)(a f g:Int)(k:List (Int×Int32×(Int×LX×LX×Unit)×Unit))(h:LU):S:=⟨[(3,.ptr 0 []),(11,.ptr 1 []),(13,.own 2),(49,.own 3),(50,vi (Ac b)),(51,vi g)],[.box 23 (.agg [vi a,vi f]),.box 260 (.val (.vec 6 (.cons (.int .i64) (.cons (.int .i32) (.cons (.cons (.int .i64) (.cons (.vec 16 (.int .i32)) (.cons (.vec 16 (.int .i32)) .nil))) .nil)))) k),Av 201 h,Aw 21 b],[]⟩
def z10:Nat->S->Option R_:=H.i P_ [r,r,r,r,r,r,r,l,r,d]
def t7(a f:Int)(n b:LX)(o:Int)(m:List (Int×Int32×(Int×LX×LX×Unit)×Unit)):S:=⟨[(3,.ptr 0 []),(4,.ptr 1 []),(9,.own 2),(11,.ptr 3 []),(36,vi o)],[.box 23 (.agg [vi a,vi f]),.box 132 (.val (.vec 16 (.int .i32)) n),Aw 21 b,.box 260 (.val (.vec 6 (.cons (.int .i64) (.cons (.int .i32) (.cons (.cons (.int .i64) (.cons (.vec 16 (.int .i32)) (.cons (.vec 16 (.int .i32)) .nil))) .nil)))) m)],[]⟩
def z7:Nat->S->Option R_:=H.i P_ [r,r,r,r,r,l,r,d]
def x10(b:LX)(a f g:Int)(k:List (Int×Int32×(Int×LX×LX×Unit)×Unit))(h:LU):Option R_:=H.e P_ [r,r,r,r,r,r,r,l,r,d] (t10 b a f g k h)
theorem i10(b:LX)(a f:Int):∀(q:Nat) (g:Int) (k:List (Int×Int32×(Int×LX×LX×Unit)×Unit)) (h:LU),z10 q (t10 b a f g k h)=Gy b a f q g k h:=
 ind (λ_ _ _=>by kernel_rfl) λq ih g k h=>Eq.trans (b:=Lm CT (λg k h=>(z10 q) (t10 b a f g k h)) b a f g k h) F5 (by simp only[ih]<;>rfl)
theorem e10:x10=AU:=by funext b a f g k h;exact Eq.trans F5 ((i10 b a f Ey g k h).trans (by rw[Bn];rfl))
theorem i7(a f:Int)(n b:LX):∀(q:Nat) (o:Int) (m:List (Int×Int32×(Int×LX×LX×Unit)×Unit)),z7 q (t7 a f n b o m)=Tf a f n b q o m:=
 ind (λ_ _=>by kernel_rfl) λq ih o m=>Eq.trans (b:=DC (CX x10) (λo m=>(z7 q) (t7 a f n b o m)) a f n b o m) F5 (by simp only[e10,ih]<;>rfl)
def k:Kc P_ gl:=⟨(125,⟨H.p,H.r,u4 Sp⟩),co H func125 (λx=>Eq.trans (b:=u4 (Sr (λa f n b o m=>z7 Ey (t7 a f n b o m))) x) F5 (by simp only[i7,Bn]<;>rfl))⟩
end F125
namespace F176
def H:Hd:=⟨[],[.agg [Si,Si,Sq,Sq]],.d,kt [] false,[],f176⟩
def k:Kc P_ gl:=⟨(176,⟨H.p,H.r,λ_=>ZA⟩),co H func176⟩
end F176
namespace F126
abbrev R_:=((List (Int×Int×UInt64×UInt64×Unit)))
def H:Hd:=⟨[],[.lf (.vec 6 (.cons (.int .i64) (.cons (.int .i64) (.cons (.int .u64) (.cons (.int .u64) .nil))))) none],(.seq .d (.seq .d (.cut [0,1] [] (.seq .d (.blk (.loop [0,1,3] [] .d))) .d))),kt [F176.k] false,[],f126⟩
def t4(b:Int)(a:List (Int×Int×UInt64×UInt64×Unit)):S:=⟨[(0,.ptr 0 []),(1,.ptr 1 []),(3,vi b)],[.box 197 (.val (.vec 6 (.cons (.int .i64) (.cons (.int .i64) (.cons (.int .u64) (.cons (.int .u64) .nil))))) (List.replicate 6 ((0:Int),(0:Int),(0:UInt64),(0:UInt64),()))),.box 197 (.val (.vec 6 (.cons (.int .i64) (.cons (.int .i64) (.cons (.int .u64) (.cons (.int .u64) .nil))))) a)],[]⟩
def z4:Nat->S->Option R_:=H.i P_ [r,r,l,r,d]
theorem i4:∀(q:Nat) (b:Int) (a:List (Int×Int×UInt64×UInt64×Unit)),z4 q (t4 b a)=Rs q b a:=
 ind (λ_ _=>by kernel_rfl) λq ih b a=>Eq.trans (b:=EC DZ (λb a=>(z4 q) (t4 b a)) b a) F5 (by simp only[ih]<;>rfl)
def k:Kc P_ gl:=⟨(126,⟨H.p,H.r,λ_=>Tl⟩),co H func126 (λx=>Eq.trans (b:=Sk (λb a=>z4 Ey (t4 b a))) F5 (by simp only[i4,Bn]<;>rfl))⟩
end F126
namespace F177
def H:Hd:=⟨[.agg [Sb,Si]],[Si],.d,kt [] false,[],f177⟩
def k:Kc P_ gl:=⟨(177,⟨H.p,H.r,u2 Gz⟩),co H func177⟩
end F177
namespace F178
def BF(j4:Int->Int->UInt64->UInt64->Option Int)(a b:Int)(f g:UInt64):Option Int:=
both (
bo (
j4 a b f g)) [
j4 a b f g]
theorem ZY: @BF= @Wp:=by
  unfold BF Wp
  repeat (refine funext λ_=>?_)
  repeat' first
    |with_reducible rfl
    |with_reducible refine Tk ?_ ?_
    |with_reducible refine Ry ?_ ?_ ?_
    |with_reducible refine Tu ?_ ?_ ?_ ?_
    |((with_reducible refine AF ?_ ?_);focus (intro h;first|(subst h;rfl)|(simp only[h];rfl)|(simp[Ch,Ac,h];done)))
    |with_reducible refine Zv λx=>?_
    |with_reducible refine JI (λ_=>?_) (λ_=>?_)
    |(refine Kz (λh=>by simp only[h,AE,Jb,Hx,ite_self]) (λx h=>?_);(try simp only[h,Jb]))
    |(refine Oe (λh=>?_) (λh=>?_)<;>simp only[h,if_true,if_false,Bool.false_eq_true])
def AL(j3:Int->Int->UInt64->UInt64->Option Int)(a b:Int)(f g:UInt64):Option Int:=
both (
bo (
j3 a b f g)) [
j3 a b f g]
theorem aO: @AL= @Wx:=by
  unfold AL Wx
  repeat (refine funext λ_=>?_)
  repeat' first
    |with_reducible rfl
    |with_reducible refine Tk ?_ ?_
    |with_reducible refine Ry ?_ ?_ ?_
    |with_reducible refine Tu ?_ ?_ ?_ ?_
    |((with_reducible refine AF ?_ ?_);focus (intro h;first|(subst h;rfl)|(simp only[h];rfl)|(simp[Ch,Ac,h];done)))
    |with_reducible refine Zv λx=>?_
    |with_reducible refine JI (λ_=>?_) (λ_=>?_)
    |(refine Kz (λh=>by simp only[h,AE,Jb,Hx,ite_self]) (λx h=>?_);(try simp only[h,Jb]))
    |(refine Oe (λh=>?_) (λh=>?_)<;>simp only[h,if_true,if_false,Bool.false_eq_true])
abbrev R_:=Int
def H:Hd:=⟨[.agg [Si,Si,Sq,Sq]],[Si],(.seq .d (.seq .d (.cut [1,3] [] (.mode false) (.cut [1,3] [] (.mode false) .d)))),kt [] false,[],f178⟩
def x3(a b:Int)(f g:UInt64):Option R_:=H.e P_ [r,r,r] ⟨[(1,.ptr 0 []),(3,.ptr 1 [])],[.box 196 (.agg [vi a,vi b,vq f,vq g]),.box 196 (.agg [vi (Er (aA a (0:Int)) (24:Int)),vi (Er (aA b (0:Int)) (24:Int)),vq f,vq g])],[]⟩
theorem e3:x3=FG:=Eq.trans (b:=BF EL) F5 (by rw[ZY];rfl)
def k:Kc P_ gl:=⟨(178,⟨H.p,H.r,u4 CF⟩),co H func178 (λx=>Eq.trans (b:=u4 (AL x3) x) F5 (by rw[aO];simp only[e3]<;>rfl))⟩
end F178
namespace F179
def H:Hd:=⟨[.agg [Si,Si,Sq,Sq],Su],[Si,Su],.d,kt [] false,[],f179⟩
def k:Kc P_ gl:=⟨(179,⟨H.p,H.r,u5 Wi⟩),co H func179⟩
end F179
namespace F216
def H:Hd:=⟨[.agg [Sb,Si]],[.agg [Ob 5,Si]],.d,kt [F75.k] false,[],f216⟩
def k:Kc P_ gl:=⟨(216,⟨H.p,H.r,u2 GM⟩),co H func216⟩
end F216
namespace F180
abbrev R_:=(LB×Int×Int)
abbrev K_:=S->Option R_
def H:Hd:=⟨[.agg [Sb,Si],Sq,Si],[.agg [Ob 5,Si],Si],(.seq .d (.seq .d (.seq .d (.cut [3,6] [] (.keep [1,2,3,6,40,41] true) .d)))),kt [F177.k,F216.k] false,[(217,(.blk (.loop [0,1,2] [] (.seq .d (.blk (.cut [0,1,2] [] .d (.seq .d (.cut [0,1,2,7] [] .d .d))))))))],f180⟩
def t15(b:UInt64)(a:Int)(m:UInt64)(h f:Int)(o:LB):S:=⟨[(0,.ptr 0 []),(1,vq m),(2,vi h)],[.box 200 (.agg [.own 2,vi f]),.box 200 (.agg [.nils,vi 0]),Ab 5 o],[[(1,vq b),(2,vi a),(3,.ptr 0 []),(6,.ptr 1 []),(40,vq b),(41,vi a)]]⟩
def z15:Nat->S->Option R_:=H.i P_ [r,r,r,l,(call 2 217),d]
def t22(b:UInt64)(a:Int)(n:UInt64)(k g:Int)(p:LB):S:=⟨[(0,.ptr 0 []),(1,vq n),(2,vi k)],[.box 200 (.agg [.own 2,vi g]),.box 200 (.agg [.nils,vi 0]),Ab 5 p],[[(1,vq b),(2,vi a),(3,.ptr 0 []),(6,.ptr 1 []),(40,vq b),(41,vi a)]]⟩
def z22:Nat->S->Option R_:=H.i P_ [r,r,r,l,(call 2 217),d]
theorem i15(b:UInt64)(a:Int):∀(q:Nat) (m:UInt64) (h f:Int) (o:LB),z15 q (t15 b a m h f o)=Jn b a q m h f o:=
 ind (λ_ _ _ _=>by kernel_rfl) λq ih m h f o=>Eq.trans (b:=Zy (Zx (λm h f o=>(z15 q) (t15 b a m h f o)) b a) JE b a m h f o) F5 (by simp only[ih]<;>rfl)
theorem i22(b:UInt64)(a:Int):∀(q:Nat) (n:UInt64) (k g:Int) (p:LB),z22 q (t22 b a n k g p)=JP b a q n k g p:=
 ind (λ_ _ _ _=>by kernel_rfl) λq ih n k g p=>Eq.trans (b:=ZG (aP (λn k g p=>(z22 q) (t22 b a n k g p)) b a) bL b a n k g p) F5 (by simp only[ih]<;>rfl)
def k:Kc P_ gl:=⟨(180,⟨H.p,H.r,u4 CC⟩),co H func180 (λx=>Eq.trans (b:=u4 (PH (λb a m h f o=>z15 Ey (t15 b a m h f o)) (λb a n k g p=>z22 Ey (t22 b a n k g p))) x) F5 (by simp only[i15,i22,Bn]<;>rfl))⟩
end F180
namespace F218
def H:Hd:=⟨[Su,Si],[Sz],.d,kt [] false,[],f218⟩
def k:Kc P_ gl:=⟨(218,⟨H.p,H.r,u2 Uk⟩),co H func218⟩
end F218
namespace F244
def H:Hd:=⟨[Si],[Si,Si],.d,kt [] false,[],f244⟩
def k:Kc P_ gl:=⟨(244,⟨H.p,H.r,KO⟩),co H func244⟩
end F244
namespace F219
def H:Hd:=⟨[.agg [Sb,Si],Si],[.agg [Ob 5,Si],Si],.d,kt [F177.k,F180.k,F244.k] false,[],f219⟩
def k:Kc P_ gl:=⟨(219,⟨H.p,H.r,u3 DW⟩),co H func219⟩
end F219
namespace F181
abbrev R_:=(LB×Int×Int)
def H:Hd:=⟨[.agg [Sb,Si],Su,Si],[.agg [Ob 5,Si],Si],(.seq .d (.seq .d (.seq .d (.seq .d (.cut [3,6,9,10,11] [] .d .d))))),kt [F177.k,F180.k,F218.k,F219.k] false,[],f181⟩
def k:Kc P_ gl:=⟨(181,⟨H.p,H.r,u4 JT⟩),co H func181⟩
end F181
namespace F127
def Yz(k u n:Int)(a:UInt64)(b:UInt32)(o:UInt64)(m:LB):Option (LB×Int×Int×Int×UInt64×UInt64×Int):=
(λaf:Option (LB×Int×Int×Int×UInt64×UInt64×Int)=>
both (
bo (
af)) [
af]) (
some (m,k,u,n,(Ad a (Ag (Ae b:UInt64) (Bo a (GI.toZ (4:UInt64)).toNat))),o,0))
theorem XY: @Yz= @Up:=by
  unfold Yz Up
  try simp only[pF,bQ,dP]
  all_goals
    repeat (refine funext λ_=>?_)
    repeat' first
      |with_reducible rfl
      |with_reducible refine Tk ?_ ?_
      |with_reducible refine Ry ?_ ?_ ?_
      |with_reducible refine Tu ?_ ?_ ?_ ?_
      |((with_reducible refine AF ?_ ?_);focus (intro h;first|(subst h;rfl)|(simp only[h];rfl)|(simp[Ch,Ac,h];done)))
      |with_reducible refine Zv λx=>?_
      |with_reducible refine JI (λ_=>?_) (λ_=>?_)
      |(refine Kz (λh=>by simp only[h,AE,Jb,Hx,ite_self]) (λx h=>?_);(try simp only[h,Jb]))
      |(refine Oe (λh=>?_) (λh=>?_)<;>simp only[h,if_true,if_false,Bool.false_eq_true])
abbrev R_:=(LB×Int×Int×Int×UInt64×UInt64×Int)
def H:Hd:=⟨[.agg [Sb,Si],.agg [Si,Si,Sq,Sq],Su],[.agg [Ob 5,Si],.agg [Si,Si,Sq,Sq],Si],(.seq .d (.cut [2,3,4,6,7] [] .d (.seq .d (.seq .d (.cut [2,3,4,6,7,11] [] .d (.seq .d (.cut [3,4,6,7] [] (.keep [2,3,4,6,7,65] true) (.seq (.mode false) .d)))))))),kt [F177.k,F178.k,F179.k,F180.k,F181.k] false,[(182,(.seq .d (.seq .d (.seq .d (.blk (.cut [0,1,4] [] (.blk (.seq .d (.keep [0,1,4,6,18,19,20,21,22,23,24,25] true))) (.cut [] [] (.keep [0,1,4,27,28,29,30,31,32,33,34] true) .d))))))),(220,.d)],f127⟩
def x10(k u n:Int)(a:UInt64)(b:UInt32)(o:UInt64)(m:LB):Option R_:=H.e P_ [r,r,r,r,r,r,r] ⟨[(3,.ptr 0 []),(4,.ptr 1 []),(6,.ptr 2 []),(7,.ptr 3 [])],[.box 200 (.agg [.own 4,vi k]),.box 196 (.agg [vi u,vi n,vq (Ad a (Ag (Ae b:UInt64) (Bo a (GI.toZ (4:UInt64)).toNat))),vq o]),.box 200 (.agg [.nils,vi 0]),.box 196 (.agg [vi 0,vi 0,vq 0,vq 0]),Ab 5 m],[]⟩
def x8(b:UInt32)(f:Int)(a:UInt64)(k:Int)(m:LB)(n:Int)(o:UInt64):Option R_:=H.e P_ [r,r,r,r,r,r,l,(call 1 182),r,r,r,d,r] ⟨[(0,.ptr 0 []),(1,vu b),(4,.fn 220 [])],[.box 196 (.agg [vi f,vi n,vq a,vq o]),.box 200 (.agg [.own 4,vi k]),.box 200 (.agg [.nils,vi 0]),.box 196 (.agg [vi 0,vi 0,vq 0,vq 0]),Ab 5 m],[[(2,vu b),(3,.ptr 1 []),(4,.ptr 0 []),(6,.ptr 2 []),(7,.ptr 3 []),(65,vu b)]]⟩
theorem e10:x10=CN:=Eq.trans (b:=Yz) F5 (by rw[XY];rfl)
theorem e8:x8=Pc:=Eq.trans (b:=EN (EV x10)) F5 (by simp only[e10]<;>rfl)
def k:Kc P_ gl:=⟨(127,⟨H.p,H.r,u7 JN⟩),co H func127 (λx=>Eq.trans (b:=u7 (FJ (FD (EM x8))) x) F5 (by simp only[e8]<;>rfl))⟩
end F127
namespace F183
abbrev R_:=(UInt32×Int)
abbrev K_:=S->Option R_
def H:Hd:=⟨[Su,Sb],[Su,Si],(.seq .d (.seq .d (.cut [0,1,6] [] (.keep [0,1,6,12] true) (.cut [0] [] (.seq .d (.blk (.loop [0,6,13,14,15] [] .d))) .d)))),kt [] false,[(221,(.seq .d (.seq .d (.cut [1] [] (.seq .d (.blk (.loop [1,5] [] (.seq .d (.seq .d (.cut [1,5] [] (.blk (.seq .d (.seq .d (.cut [1,2,3,5] [] (.seq .d (.blk (.loop [1,2,3,5,10] [] .d))) .d)))) .d)))))) .d))))],f183⟩
def t28(a:LB)(b:LU)(h:UInt32)(m:Int):S:=⟨[(0,vu h),(6,.ptr 0 []),(13,vb a),(14,vi (Ac a)),(15,vi m)],[.box 340 (.val (.vec 256 (.int .u32)) b)],[]⟩
def z28:Nat->S->Option R_:=H.i P_ [r,r,r,l,r,d]
def t21(f:UInt32)(a:LB)(g:Int)(b:LU)(k:UInt32)(n:Int):S:=⟨[(1,.ptr 0 []),(2,vi g),(3,vu k),(5,vi g),(10,vi n)],[.box 340 (.val (.vec 256 (.int .u32)) b)],[[(0,vu f),(1,vb a)]]⟩
def z21(Lw:K_):Nat->S->Option R_:=H.i P_ [r,r,l,(call 0 221),r,r,l,r,d,(lp Lw),r,r,l,d,r,r,l,r,d]
def t16(f:UInt32)(a:LB)(g:Int)(b:LU):S:=⟨[(1,.ptr 0 []),(5,vi g)],[.box 340 (.val (.vec 256 (.int .u32)) b)],[[(0,vu f),(1,vb a)]]⟩
def z16:Nat->S->Option R_:=H.i P_ [r,r,l,(call 0 221),r,r,l,r,d]
def x28(a:LB)(b:LU)(h:UInt32)(m:Int):Option R_:=H.e P_ [r,r,r,l,r,d] (t28 a b h m)
def x21(Lw:K_)(f:UInt32)(a:LB)(g:Int)(b:LU)(k:UInt32)(n:Int):Option R_:=H.e P_ [r,r,l,(call 0 221),r,r,l,r,d,(lp Lw),r,r,l,d,r,r,l,r,d] (t21 f a g b k n)
theorem i28(a:LB)(b:LU):∀(q:Nat) (h:UInt32) (m:Int),z28 q (t28 a b h m)=Ki a b q h m:=
 ind (λ_ _=>by kernel_rfl) λq ih h m=>Eq.trans (b:=Tv BB (λh m=>(z28 q) (t28 a b h m)) a b h m) F5 (by simp only[ih]<;>rfl)
theorem e28:x28=BP:=by funext a b h m;exact Eq.trans F5 ((i28 a b Ey h m).trans (by rw[Bn];rfl))
theorem i21(Lw:K_)(f:UInt32)(a:LB)(g:Int)(b:LU):∀(q:Nat) (k:UInt32) (n:Int),z21 Lw q (t21 f a g b k n)=Ke (λg b=>Lw (t16 f a g b)) f a g b q k n:=
 ind (λ_ _=>by kernel_rfl) λq ih k n=>Eq.trans (b:=Sm (Sv (λg b=>Lw (t16 f a g b)) f a) (λk n=>(z21 Lw q) (t21 f a g b k n)) f a g b k n) F5 (by simp only[ih]<;>rfl)
theorem e21(Lw:K_)(f:UInt32)(a:LB):x21 Lw f a=AO (λg b=>Lw (t16 f a g b)) f a:=by funext g b k n;exact Eq.trans F5 ((i21 Lw f a g b Ey k n).trans (by rw[Bn];rfl))
theorem i16(f:UInt32)(a:LB):∀(q:Nat) (g:Int) (b:LU),z16 q (t16 f a g b)=Ik f a q g b:=
 ind (λ_ _=>by kernel_rfl) λq ih g b=>Eq.trans (b:=Tw (x21 (z16 q) f a) (BD (BL x28)) f a g b) F5 (by simp only[e21,e28,ih]<;>rfl)
def k:Kc P_ gl:=⟨(183,⟨H.p,H.r,u2 KX⟩),co H func183 (λx=>Eq.trans (b:=u2 (ES (λf a g b=>z16 Ey (t16 f a g b))) x) F5 (by simp only[i16,Bn]<;>rfl))⟩
end F183
namespace F129
def H:Hd:=⟨[Sb],[Su,Si],.d,kt [F183.k] false,[],f129⟩
def k:Kc P_ gl:=⟨(129,⟨H.p,H.r,Vz⟩),co H func129⟩
end F129
namespace F184
def H:Hd:=⟨[Sq,Si],[Sz],.d,kt [] false,[],f184⟩
def k:Kc P_ gl:=⟨(184,⟨H.p,H.r,u2 gZ⟩),co H func184⟩
end F184
namespace F130
abbrev R_:=(LB×Int)
def H:Hd:=⟨[Sq,Si],[Ob 5,Si],(.seq .d (.seq .d (.seq .d (.seq .d (.cut [6] [] (.seq .d (.blk (.loop [0,6,21,22] [] .d))) .d))))),kt [F184.k] false,[],f130⟩
def t4(f:UInt64)(g:LB)(a:Int)(b:LB):S:=⟨[(0,vq f),(6,.own 0),(21,vi (Ac g)),(22,vi a)],[Ab 5 b],[]⟩
def z4:Nat->S->Option R_:=H.i P_ [r,r,r,r,l,r,d]
theorem i4(f:UInt64)(g:LB):∀(q:Nat) (a:Int) (b:LB),z4 q (t4 f g a b)=Rk f g q a b:=
 ind (λ_ _=>by kernel_rfl) λq ih a b=>Eq.trans (b:=DM OW (λa b=>(z4 q) (t4 f g a b)) f g a b) F5 (by simp only[ih]<;>rfl)
def k:Kc P_ gl:=⟨(130,⟨H.p,H.r,u2 Ru⟩),co H func130 (λx=>Eq.trans (b:=u2 (QS (λf g a b=>z4 Ey (t4 f g a b))) x) F5 (by simp only[i4,Bn]<;>rfl))⟩
end F130
namespace F88
abbrev R_:=LB
def H:Hd:=⟨[.lf (.list (.list (.int .u8))) none],[Ob 5],(.seq .d (.seq .d (.cut [0,3] [] (.seq .d (.blk (.loop [0,3,9,10,11] [] .d))) (.cut [0,6] [⟨6,[],.own 5 (.int .u8)⟩] (.keep [0,3,6,23,24] true) (.cut [6] [] (.seq .d (.blk (.loop [6,25,26,27] [] .d))) .d))))),kt [] true,[(135,(.seq .d (.cut [0,1] [] .d .d)))],f88⟩
def t14(a:List LB)(g:Int)(f:LB):S:=⟨[(6,.own 0),(25,.val (.list (.list (.int .u8))) a),(26,vi (Ac a)),(27,vi g)],[Ab 5 f],[]⟩
def z14:Nat->S->Option R_:=H.i P_ [r,r,r,r,l,r,d]
def t9(a:List LB)(b h:Int):S:=⟨[(0,.val (.list (.list (.int .u8))) a),(3,vi b),(9,.val (.list (.list (.int .u8))) a),(10,vi (Ac a)),(11,vi h)],[],[]⟩
def z9:Nat->S->Option R_:=H.i P_ [r,r,l,r,d]
def x14(a:List LB)(g:Int)(f:LB):Option R_:=H.e P_ [r,r,r,r,l,r,d] (t14 a g f)
theorem i14(a:List LB):∀(q:Nat) (g:Int) (f:LB),z14 q (t14 a g f)=Bg a q g f:=
 ind (λ_ _=>by kernel_rfl) λq ih g f=>Eq.trans (b:=Bx Mq (λg f=>(z14 q) (t14 a g f)) a g f) F5 (by simp only[ih]<;>rfl)
theorem e14:x14=Fp:=by funext a g f;exact Eq.trans F5 ((i14 a Ey g f).trans (by rw[Bn];rfl))
theorem i9(a:List LB):∀(q:Nat) (b h:Int),z9 q (t9 a b h)=Bk a q b h:=
 ind (λ_ _=>by kernel_rfl) λq ih b h=>Eq.trans (b:=Cc (Fs (Fv (Fq x14))) (λb h=>(z9 q) (t9 a b h)) a b h) F5 (by simp only[e14,ih]<;>rfl)
def k:Kc P_ gl:=⟨(88,⟨H.p,H.r,Cq⟩),co H func88 (λx=>Eq.trans (b:=Ix (λa b h=>z9 Ey (t9 a b h)) x) F5 (by simp only[i9,Bn]<;>rfl))⟩
end F88
namespace F83
abbrev R_:=(LB×Int)
abbrev K_:=S->Option R_
def H:Hd:=⟨[.agg [Si,Si],.lf (.vec 16 (.int .i32)) none,Sw],[Ob 5,Si],(.seq .d (.seq .d (.seq .d (.seq .d (.seq .d (.cut [11] [] (.seq .d (.blk (.loop [3,10,11,30,31,32] [⟨11,[0],.own 5 (.int .u8)⟩] (.seq .d (.seq .d (.cut [3,10,11,30,31,32] [] (.blk (.seq .d (.seq .d (.seq .d (.seq .d (.keep [3,10,11,14,30,31,32,59] true)))))) .d)))))) .d)))))),kt [F88.k,F125.k,F126.k,F127.k,F129.k,F130.k] false,[(128,(.seq .d (.seq .d (.blk (.loop [0,3,7,8] [] (.seq .d (.seq .d (.seq (.blk (.seq .d (.cut [0,3,4,7,8] [] .d (.seq .d (.cut [0,3,7,8] [] .d .d))))) .d))))))))],f83⟩
def t44(b:LU)(a g h f:Int)(n:List (Int×Int×UInt64×UInt64×Unit))(m:LB)(o k:Int)(w:LB):S:=⟨[(0,.ptr 0 []),(3,.ptr 1 []),(7,vi h),(8,vi o)],[.box 200 (.agg [.own 7,vi k]),.box 200 (.agg [.own 6,vi h]),.box 23 (.agg [vi a,vi g]),.box 197 (.val (.vec 6 (.cons (.int .i64) (.cons (.int .i64) (.cons (.int .u64) (.cons (.int .u64) .nil))))) n),.box 200 (.agg [.own 6,vi h]),Av 201 b,Ab 5 m,Ab 5 w],[[(3,.ptr 2 []),(10,.ptr 3 []),(11,.ptr 0 []),(14,.ptr 4 []),(30,.own 5),(31,vi (Ac b)),(32,vi f),(59,.agg [.own 6,vi h])]]⟩
def z44(gO:K_):Nat->S->Option R_:=H.i P_ [r,r,r,r,r,l,r,d,(lp gO),r,r,l,d,r,r,r,r,(call 1 128),r,r,d]
def t27(b:LU)(a g f:Int)(u:List (Int×Int×UInt64×UInt64×Unit))(v:Int)(p:LB):S:=⟨[(3,.ptr 0 []),(10,.ptr 1 []),(11,.ptr 2 []),(30,.own 3),(31,vi (Ac b)),(32,vi f)],[.box 23 (.agg [vi a,vi g]),.box 197 (.val (.vec 6 (.cons (.int .i64) (.cons (.int .i64) (.cons (.int .u64) (.cons (.int .u64) .nil))))) u),.box 200 (.agg [.own 4,vi v]),Av 201 b,Ab 5 p],[]⟩
def z27:Nat->S->Option R_:=H.i P_ [r,r,r,r,r,l,r,d]
def x44(gO:K_)(b:LU)(a g h f:Int)(n:List (Int×Int×UInt64×UInt64×Unit))(m:LB)(o k:Int)(w:LB):Option R_:=H.e P_ [r,r,r,r,r,l,r,d,(lp gO),r,r,l,d,r,r,r,r,(call 1 128),r,r,d] (t44 b a g h f n m o k w)
theorem i44(gO:K_)(b:LU)(a g h f:Int)(n:List (Int×Int×UInt64×UInt64×Unit))(m:LB):∀(q:Nat) (o k:Int) (w:LB),z44 gO q (t44 b a g h f n m o k w)=Ea (λf u v p=>gO (t27 b a g f u v p)) b a g h f n m q o k w:=
 ind (λ_ _ _=>by kernel_rfl) λq ih o k w=>Eq.trans (b:=Ln (Le (λo k w=>(z44 gO q) (t44 b a g h f n m o k w)) h b f a g n m) (Qp (λf u v p=>gO (t27 b a g f u v p)) b a g) b a g h f n m o k w) F5 (by simp only[ih]<;>rfl)
theorem e44(gO:K_)(b:LU)(a g:Int):x44 gO b a g=BQ (λf u v p=>gO (t27 b a g f u v p)) b a g:=by funext h f n m o k w;exact Eq.trans F5 ((i44 gO b a g h f n m Ey o k w).trans (by rw[Bn];rfl))
theorem i27(b:LU)(a g:Int):∀(q:Nat) (f:Int) (u:List (Int×Int×UInt64×UInt64×Unit)) (v:Int) (p:LB),z27 q (t27 b a g f u v p)=Fg b a g q f u v p:=
 ind (λ_ _ _ _=>by kernel_rfl) λq ih f u v p=>Eq.trans (b:=Lh (x44 (z27 q) b a g) Qh b a g f u v p) F5 (by simp only[e44,ih]<;>rfl)
def k:Kc P_ gl:=⟨(83,⟨H.p,H.r,u4 Ns⟩),co H func83 (λx=>Eq.trans (b:=u4 (Se (λb a g f u v p=>z27 Ey (t27 b a g f u v p))) x) F5 (by simp only[i27,Bn]<;>rfl))⟩
end F83
namespace F48
def H:Hd:=⟨[.agg [.agg [Si,Si],Si,Ss,Sb,Sw,.lf (.list (.list (.int .u8))) none,Sb,Sz,Si],Si],[.agg [.agg [Si,Si],Si,Ss,Ob 5,Ow 21,.lf (.list (.list (.int .u8))) (some 24),Ob 5,Sz,Si],Si],.d,kt [] false,[],f48⟩
def k:Kc P_ gl:=⟨(48,⟨H.p,H.r,wu Lk⟩),co H func48⟩
end F48
namespace F13
abbrev R_:=(Int×Int×Int×LB×LB×LX×(List LB)×LB×Bool×Int×Int)
abbrev K_:=S->Option R_
def H:Hd:=⟨[.agg [.agg [Si,Si],Si,Ss,Sb,Sw,.lf (.list (.list (.int .u8))) none,Sb,Sz,Si],Sb],[.agg [.agg [Si,Si],Si,Ss,Ob 5,Ow 21,.lf (.list (.list (.int .u8))) (some 24),Ob 5,Sz,Si],Si],(.seq .d (.seq .d (.seq .d (.seq .d (.seq .d (.cut [2,4] [] (.seq .d (.blk (.loop [2,4,8,9,27,28,29] [] (.seq .d (.seq .d (.cut [2,4,8,9,27,28,29] [] (.blk (.seq .d (.seq .d (.seq .d (.cut [2,4,8,9,12,27,28,29] [⟨2,[3],.own 5 (.int .u8)⟩,⟨2,[4],.own 21 (.int .i32)⟩,⟨9,[0,3],.own 5 (.int .u8)⟩,⟨9,[0,4],.own 21 (.int .i32)⟩] (.keep [2,4,8,9,12,27,28,29,45] true) .d))))) .d)))))) .d)))))),kt [F41.k,F42.k,F44.k,F45.k,F46.k,F48.k,F82.k,F83.k] false,[(43,(.seq .d (.cut [0,1] [] .d (.seq .d (.seq .d (.seq .d (.seq .d (.cut [2] [] (.keep [2,43] true) .d)))))))),(47,.d)],f13⟩
def t14(p:Int)(n:LB)(a b g:Int)(f:LB)(h:Bool)(k o:Int)(m:LB)(u:Int)(y:LB)(w:LX)(v:List LB):S:=⟨[(2,.ptr 0 []),(4,.ptr 1 []),(8,vi p),(9,.fn 43 [.ptr 0 [],.ptr 2 []]),(27,vb n),(28,vi (Ac n)),(29,vi u)],[.box 33 (.agg [.agg [vi a,vi b],vi g,vs f,.own 3,.own 4,.own 5,.own 6,vt h,vi k]),.box 33 (.agg [.agg [vi 0,vi 0],vi 0,vs ([]:LB),.nils,.nils,.nils,.nils,vt false,vi 0]),.box 3 (vi o),Ab 5 y,Aw 21 w,.arr 24 (.list (.int .u8)) v,Ab 5 m],[]⟩
def z14:Nat->S->Option R_:=H.i P_ [r,r,r,r,r,l,r,d]
theorem i14(p:Int)(n:LB)(a b g:Int)(f:LB)(h:Bool)(k o:Int)(m:LB):∀(q:Nat) (u:Int) (y:LB) (w:LX) (v:List LB),z14 q (t14 p n a b g f h k o m u y w v)=Fl p n a b g f h k o m q u y w v:=
 ind (λ_ _ _ _=>by kernel_rfl) λq ih u y w v=>Eq.trans (b:=Od (If (λu y w v=>(z14 q) (t14 p n a b g f h k o m u y w v)) p n a b g f h k o m) (Fo (λu y w v=>(z14 q) (t14 p n a b g f h k o m u y w v)) p n a b g f h k o m) (Vy (λu y w v=>(z14 q) (t14 p n a b g f h k o m u y w v)) p n a b g f h k o m) Wm p n a b g f h k o m u y w v) F5 (by simp only[ih]<;>rfl)
def k:Kc P_ gl:=⟨(13,⟨H.p,H.r,wu Cw⟩),co H func13 (λx=>Eq.trans (b:=wu (Qa (λp n a b g f h k o m u y w v=>z14 Ey (t14 p n a b g f h k o m u y w v))) x) F5 (by simp only[i14,Bn]<;>rfl))⟩
end F13
namespace F38
def H:Hd:=⟨[.agg [.agg [Si,Si],Si,Ss,Sb,Sw,.lf (.list (.list (.int .u8))) none,Sb,Sz,Si],Si],[.agg [.agg [Si,Si],Si,Ss,Ob 5,Ow 21,.lf (.list (.list (.int .u8))) (some 24),Sb,Sz,Si],Ob 5,Si],.d,kt [F53.k,F74.k,F75.k] false,[],f38⟩
def k:Kc P_ gl:=⟨(38,⟨H.p,H.r,wu Pf⟩),co H func38⟩
end F38
namespace F84
def H:Hd:=⟨[Ss],[Si,Si],.d,kt [] false,[],f84⟩
def k:Kc P_ gl:=⟨(84,⟨H.p,H.r,Xa⟩),co H func84⟩
end F84
namespace F185
abbrev R_:=Bool
def H:Hd:=⟨[.agg [Si,Si,Si,Si,Si]],[Sz],(.seq .d (.cut [1] [] .d .d)),kt [] false,[],f185⟩
def k:Kc P_ gl:=⟨(185,⟨H.p,H.r,u5 Wo⟩),co H func185⟩
end F185
namespace F153
def H:Hd:=⟨[Si,Si],[Si,Si],.d,kt [F79.k] false,[],f153⟩
def k:Kc P_ gl:=⟨(153,⟨H.p,H.r,u2 Ww⟩),co H func153⟩
end F153
namespace F186
def H:Hd:=⟨[.agg [Si,Si,Si,Si,Si]],[Sz],.d,kt [F153.k] false,[],f186⟩
def k:Kc P_ gl:=⟨(186,⟨H.p,H.r,u5 EA⟩),co H func186⟩
end F186
namespace F131
def H:Hd:=⟨[.agg [Si,Si,Si,Si,Si]],[Si],.d,kt [F185.k,F186.k] false,[],f131⟩
def k:Kc P_ gl:=⟨(131,⟨H.p,H.r,u5 Zu⟩),co H func131⟩
end F131
namespace F85
abbrev R_:=(LB×Int)
def H:Hd:=⟨[.agg [Si,Si,Si,Si,Si]],[Ob 5,Si],(.seq .d (.seq .d (.seq .d (.cut [5] [] (.seq .d (.blk (.loop [5,31,32] [] .d))) .d)))),kt [F129.k,F130.k,F131.k] false,[],f85⟩
def t4(b f g h k m:Int)(a:LB):S:=⟨[(5,.own 0),(31,.val (.vec 5 (.int .i64)) ([b,f,g,h,k]:LI)),(32,vi m)],[Ab 5 a],[]⟩
def z4:Nat->S->Option R_:=H.i P_ [r,r,r,l,r,d]
theorem i4(b f g h k:Int):∀(q:Nat) (m:Int) (a:LB),z4 q (t4 b f g h k m a)=Hq b f g h k q m a:=
 ind (λ_ _=>by kernel_rfl) λq ih m a=>Eq.trans (b:=Pw Px (λm a=>(z4 q) (t4 b f g h k m a)) b f g h k m a) F5 (by simp only[ih]<;>rfl)
def k:Kc P_ gl:=⟨(85,⟨H.p,H.r,u5 AD⟩),co H func85 (λx=>Eq.trans (b:=u5 (Za (λb f g h k m a=>z4 Ey (t4 b f g h k m a))) x) F5 (by simp only[i4,Bn]<;>rfl))⟩
end F85
namespace F132
def H:Hd:=⟨[Ss],[Sq,Si],.d,kt [F123.k] false,[],f132⟩
def k:Kc P_ gl:=⟨(132,⟨H.p,H.r,dH⟩),co H func132⟩
end F132
namespace F86
def H:Hd:=⟨[Ss],[Ob 5,Si],.d,kt [F130.k,F132.k] false,[],f86⟩
def k:Kc P_ gl:=⟨(86,⟨H.p,H.r,AB⟩),co H func86⟩
end F86
namespace F133
abbrev R_:=Int
def H:Hd:=⟨[Sl],[Si],(.seq .d (.seq .d (.seq .d (.cut [] [] (.seq .d (.blk (.loop [3,14,15,16] [] .d))) .d)))),kt [] false,[],f133⟩
def t4(a:LI)(f b:Int):S:=⟨[(3,vi f),(14,vl a),(15,vi (Ac a)),(16,vi b)],[],[]⟩
def z4:Nat->S->Option R_:=H.i P_ [r,r,r,l,r,d]
theorem i4(a:LI):∀(q:Nat) (f b:Int),z4 q (t4 a f b)=Kj a q f b:=
 ind (λ_ _=>by kernel_rfl) λq ih f b=>Eq.trans (b:=Um SM (λf b=>(z4 q) (t4 a f b)) a f b) F5 (by simp only[ih]<;>rfl)
def k:Kc P_ gl:=⟨(133,⟨H.p,H.r,Rq⟩),co H func133 (λx=>Eq.trans (b:=Tr (λa f b=>z4 Ey (t4 a f b)) x) F5 (by simp only[i4,Bn]<;>rfl))⟩
end F133
namespace F87
abbrev R_:=(LB×Int)
abbrev K_:=S->Option R_
def H:Hd:=⟨[Sl],[Ob 5,Si],(.seq .d (.seq .d (.seq .d (.seq .d (.cut [5,6] [] (.seq .d (.blk (.loop [5,6,17,18,19] [⟨5,[],.own 5 (.int .u8)⟩,⟨6,[0],.own 5 (.int .u8)⟩] (.seq .d (.seq .d (.cut [5,6,17,18,19] [] (.blk (.seq .d (.keep [5,6,8,17,18,19,23,24,25] true))) .d)))))) (.seq .d (.cut [5] [] (.keep [5,6,9,33,34,35] true) .d))))))),kt [F129.k,F130.k,F133.k] false,[(134,.d)],f87⟩
def t8(a:LI)(f:Int)(b:LB):S:=⟨[(5,.ptr 0 []),(6,.fn 134 [.ptr 0 []]),(17,vl a),(18,vi (Ac a)),(19,vi f)],[.box 24 (.own 1),Ab 5 b],[]⟩
def z8:Nat->S->Option R_:=H.i P_ [r,r,r,r,l,r,d]
theorem i8(a:LI):∀(q:Nat) (f:Int) (b:LB),z8 q (t8 a f b)=Kb a q f b:=
 ind (λ_ _=>by kernel_rfl) λq ih f b=>Eq.trans (b:=Ul (Yu (λf b=>(z8 q) (t8 a f b)) a) Yr a f b) F5 (by simp only[ih]<;>rfl)
def k:Kc P_ gl:=⟨(87,⟨H.p,H.r,Yl⟩),co H func87 (λx=>Eq.trans (b:=BC (λa f b=>z8 Ey (t8 a f b)) x) F5 (by simp only[i8,Bn]<;>rfl))⟩
end F87
namespace F49
def Vv(f g h:Int)(b k:LB)(m:LX)(a:List LB)(n:LB)(o:Bool)(p:Int)(u:LB)(v:LI):Option (LB×Int):=
(Yl v).bind λ(aa,y)=>
if(Bp y 0)then
some (([]:LB),y)
else
(λao:Option (LB×Int)=>
bo (
ao)) (
(Ch u aa).bind λab=>
(Cq a).bind λac=>
(Ch ab ac).bind λad=>
some (ad,0))
theorem VB: @Vv= @Pq:=by
  unfold Vv Pq;simp only[pF,bQ,dP]
abbrev R_:=(LB×Int)
def H:Hd:=⟨[.agg [.agg [Si,Si],Si,Ss,Sb,Sw,.lf (.list (.list (.int .u8))) none,Sb,Sz,Si],Si],[Ob 5,Si],(.seq .d (.seq .d (.seq .d (.seq .d (.seq .d (.cut [2,8] [] .d (.seq .d (.cut [2,8,11] [] (.seq .d (.blk (.loop [2,8,11,58,59,60] [⟨11,[],.own 3 (.int .i64)⟩] .d))) (.seq .d (.seq .d (.seq (.mode false) .d))))))))))),kt [F84.k,F85.k,F86.k,F87.k,F88.k] false,[],f49⟩
def t6(a:List LB)(f g h:Int)(b k:LB)(m:LX)(n:LB)(o:Bool)(p:Int)(u:LB)(w:Int)(v:LI):S:=⟨[(2,.ptr 0 []),(8,.own 1),(11,.own 2),(58,.val (.list (.list (.int .u8))) a),(59,vi (Ac a)),(60,vi w)],[.box 33 (.agg [.agg [vi f,vi g],vi h,vs b,vb k,vw m,.val (.list (.list (.int .u8))) a,vb n,vt o,vi p]),Ab 5 u,Ai 3 v],[]⟩
def z6:Nat->S->Option R_:=H.i P_ [r,r,r,r,r,r,r,l,r,d]
def x8(f g h:Int)(b k:LB)(m:LX)(a:List LB)(n:LB)(o:Bool)(p:Int)(u:LB)(v:LI):Option R_:=H.e P_ [r,r,r,r,r,r,r,r] ⟨[(2,.ptr 0 []),(8,.own 1),(11,.own 2)],[.box 33 (.agg [.agg [vi f,vi g],vi h,vs b,vb k,vw m,.val (.list (.list (.int .u8))) a,vb n,vt o,vi p]),Ab 5 u,Ai 3 v],[]⟩
theorem e8:x8=Lr:=Eq.trans (b:=Vv) F5 (by rw[VB];rfl)
theorem i6(a:List LB)(f g h:Int)(b k:LB)(m:LX)(n:LB)(o:Bool)(p:Int)(u:LB):∀(q:Nat) (w:Int) (v:LI),z6 q (t6 a f g h b k m n o p u w v)=Jj a f g h b k m n o p u q w v:=
 ind (λ_ _=>by kernel_rfl) λq ih w v=>Eq.trans (b:=Pr x8 (λw v=>(z6 q) (t6 a f g h b k m n o p u w v)) a f g h b k m n o p u w v) F5 (by simp only[e8,ih]<;>rfl)
def k:Kc P_ gl:=⟨(49,⟨H.p,H.r,wu AH⟩),co H func49 (λx=>Eq.trans (b:=wu (Yq (Pz (λa f g h b k m n o p u w v=>z6 Ey (t6 a f g h b k m n o p u w v)))) x) F5 (by simp only[i6,Bn]<;>rfl))⟩
end F49
namespace F14
abbrev R_:=(Int×Int×Int×LB×LB×LX×(List LB)×LB×Bool×Int×Int)
def H:Hd:=⟨[.agg [.agg [Si,Si],Si,Ss,Sb,Sw,.lf (.list (.list (.int .u8))) none,Sb,Sz,Si]],[.agg [.agg [Si,Si],Si,Ss,Ob 5,Ow 21,.lf (.list (.list (.int .u8))) (some 24),Ob 5,Sz,Si],Si],(.seq .d (.seq .d (.seq .d (.seq .d (.seq .d (.cut [1,2,6] [] (.seq .d (.cond (.cut [1,2,6,7] [⟨1,[4],.own 21 (.int .i32)⟩] (.keep [1,2,6,7,38] true) .d) .d)) .d)))))),kt [F41.k,F45.k,F48.k,F49.k,F82.k,F83.k] false,[(47,.d)],f14⟩
def k:Kc P_ gl:=⟨(14,⟨H.p,H.r,u10 Dx⟩),co H func14⟩
end F14
namespace F10
def Ql(j29:Int->Int->Int->Int->LB->LB->Bool->Int->LB-> (List (Int×LB×Unit))->LB->LX-> (List LB)->Option (Int×Int×Int×LB×LB×LX×(List LB)×LB×Bool×Int×(List (Int×LB×Unit))×Int))(b:List (UInt8×Int×Unit))(aa:UInt8×Int×Unit)(a:LB)(ab y f g h:Int)(k p:LB)(u:LX)(v:List LB)(m:LB)(n:Bool)(o ac ad ae:Int)(af:LB)(ag:Bool)(ah:Int)(w:List (Int×LB×Unit))(ai:LB)(aj:LX)(ak:List LB)(al:LB):Option (Int×Int×Int×LB×LB×LX×(List LB)×LB×Bool×Int×(List (Int×LB×Unit))×Int):=
(λfj:Option (Int×Int×Int×LB×LB×LX×(List LB)×LB×Bool×Int×(List (Int×LB×Unit))×Int)=>
bo (
fj)) (
(Df a (Er aa.2.1 (Ac a)) (Ac a)).bind λbm=>
(Ch w ([(ab,([]:LB),())]:List (Int×LB×Unit))).bind λbn=>
j29 y ac ad ae af al ag ah bm bn ai aj ak)
theorem NT: @Ql= @Ms:=by
  unfold Ql Ms;simp only[pF,bQ,dP]
def Qk(j26:(UInt8×Int×Unit)->LB->Int->Int->Int->Int->Int->LB->LB->LX-> (List LB)->LB->Bool->Int->Int->Int->Int->LB->Bool->Int-> (List (Int×LB×Unit))->LB->LX-> (List LB)->LB->Option (Int×Int×Int×LB×LB×LX×(List LB)×LB×Bool×Int×(List (Int×LB×Unit))×Int))(j33:Int->Int->Int->Int->Int->LB->LB->LX-> (List LB)->LB->Bool->Int->LB->Int->Int->Int->LB->LB->Bool->Int->LB-> (List (Int×LB×Unit))->LB->LX-> (List LB)->Option (Int×Int×Int×LB×LB×LX×(List LB)×LB×Bool×Int×(List (Int×LB×Unit))×Int))(j34:Int->Int->Int->Int->Int->LB->LB->LX-> (List LB)->LB->Bool->Int->LB->Int->Int->Int->LB->Bool->Int-> (List (Int×LB×Unit))->LB->LX-> (List LB)->LB->Option (Int×Int×Int×LB×LB×LX×(List LB)×LB×Bool×Int×(List (Int×LB×Unit))×Int))(j29:Int->Int->Int->Int->LB->LB->Bool->Int->LB-> (List (Int×LB×Unit))->LB->LX-> (List LB)->Option (Int×Int×Int×LB×LB×LX×(List LB)×LB×Bool×Int×(List (Int×LB×Unit))×Int))(j31:(List (Int×LB×Unit))->Int->Int->Int->LB->LB->Bool->Int->LB->LB->LX-> (List LB)->Option (Int×Int×Int×LB×LB×LX×(List LB)×LB×Bool×Int×(List (Int×LB×Unit))×Int))(b:List (UInt8×Int×Unit))(y f g h:Int)(k m:LB)(n:Bool)(o:Int)(a:LB)(w:List (Int×LB×Unit))(p:LB)(u:LX)(v:List LB):Option (Int×Int×Int×LB×LB×LX×(List LB)×LB×Bool×Int×(List (Int×LB×Unit))×Int):=
if(Ci y (Ac b))then
(Af b y).bind λaa=>
if(geq aa.1 1)then
(λbp:Option (Int×Int×Int×LB×LB×LX×(List LB)×LB×Bool×Int×(List (Int×LB×Unit))×Int)=>
(λbs:Option (Int×Int×Int×LB×LB×LX×(List LB)×LB×Bool×Int×(List (Int×LB×Unit))×Int)=>
(λbt:Option (Int×Int×Int×LB×LB×LX×(List LB)×LB×Bool×Int×(List (Int×LB×Unit))×Int)=>
both (
bs) [
bs,
(Df a 0 (Er aa.2.1 (Ac a))).bind λam=>
(λbu:Option (Int×Int×Int×LB×LB×LX×(List LB)×LB×Bool×Int×(List (Int×LB×Unit))×Int)=>
(λbv:Option (Int×Int×Int×LB×LB×LX×(List LB)×LB×Bool×Int×(List (Int×LB×Unit))×Int)=>
(λbw:Option (Int×Int×Int×LB×LB×LX×(List LB)×LB×Bool×Int×(List (Int×LB×Unit))×Int)=>
both (
bw) [
bw,
bv]) (
both (
bv) [
bu])) (
bo (
bu))) (
(Cw f g h k p u v m n o am).bind λ(ac,ad,ae,af,ai,aj,ak,al,ag,ah,ab)=>
j26 aa a ab y f g h k p u v m n o ac ad ae af ag ah w ai aj ak al),
both (
bt) [
bt,
(Df a 0 (Er aa.2.1 (Ac a))).bind λam=>
(λfk:Option (Int×Int×Int×LB×LB×LX×(List LB)×LB×Bool×Int×(List (Int×LB×Unit))×Int)=>
bo (
fk)) (
(Cw f g h k p u v m n o am).bind λ(ac,ad,ae,af,ai,aj,ak,al,ag,ah,ab)=>
j26 aa a ab y f g h k p u v m n o ac ad ae af ag ah w ai aj ak al)]]) (
bo (
bp))) (
both (
both (
(Df a 0 (Er aa.2.1 (Ac a))).bind λam=>
(λfl:Option (Int×Int×Int×LB×LB×LX×(List LB)×LB×Bool×Int×(List (Int×LB×Unit))×Int)=>
bo (
fl)) (
(Cw f g h k p u v m n o am).bind λ(ac,ad,ae,af,ai,aj,ak,al,ag,ah,ab)=>
j26 aa a ab y f g h k p u v m n o ac ad ae af ag ah w ai aj ak al)) [
bp]) [
(Df a 0 (Er aa.2.1 (Ac a))).bind λam=>
(λbx:Option (Int×Int×Int×LB×LB×LX×(List LB)×LB×Bool×Int×(List (Int×LB×Unit))×Int)=>
both (
bo (
bx)) [
bx]) (
(Cw f g h k p u v m n o am).bind λ(ac,ad,ae,af,ai,aj,ak,al,ag,ah,ab)=>
j26 aa a ab y f g h k p u v m n o ac ad ae af ag ah w ai aj ak al),
bo (
bp)])) (
(Df a 0 (Er aa.2.1 (Ac a))).bind λam=>
(Cw f g h k p u v m n o am).bind λ(ac,ad,ae,af,ai,aj,ak,al,ag,ah,ab)=>
j26 aa a ab y f g h k p u v m n o ac ad ae af ag ah w ai aj ak al)
else
if(geq aa.1 2)then
(λbz:Option (Int×Int×Int×LB×LB×LX×(List LB)×LB×Bool×Int×(List (Int×LB×Unit))×Int)=>
(λda:Option (Int×Int×Int×LB×LB×LX×(List LB)×LB×Bool×Int×(List (Int×LB×Unit))×Int)=>
(λdb:Option (Int×Int×Int×LB×LB×LX×(List LB)×LB×Bool×Int×(List (Int×LB×Unit))×Int)=>
both (
db) [
db,
da]) (
both (
da) [
bz])) (
bo (
bz))) (
(Pf f g h k p u v m n o aa.2.1).bind λ(ao,ap,aq,ar,ay,az,ba,au,av,aw,ax,an)=>
j33 an y f g h k p u v m n o a ao ap aq ar au av aw ax w ay az ba)
else
if(geq aa.1 3)then
(λdc:Option (Int×Int×Int×LB×LB×LX×(List LB)×LB×Bool×Int×(List (Int×LB×Unit))×Int)=>
(λdd:Option (Int×Int×Int×LB×LB×LX×(List LB)×LB×Bool×Int×(List (Int×LB×Unit))×Int)=>
(λde:Option (Int×Int×Int×LB×LB×LX×(List LB)×LB×Bool×Int×(List (Int×LB×Unit))×Int)=>
both (
de) [
de,
dd]) (
both (
dd) [
dc])) (
bo (
dc))) (
(Dx f g h k p u v m n o).bind λ(bc,bd,be,bf,bi,bj,bk,bl,bg,bh,bb)=>
j34 bb y f g h k p u v m n o a bc bd be bf bg bh w bi bj bk bl)
else
j29 y f g h k m n o a w p u v
else
j31 w f g h k m n o a p u v
theorem NM: @Qk= @Jo:=by
  unfold Qk Jo
  try simp only[pF,bQ,dP]
  all_goals
    repeat (refine funext λ_=>?_)
    repeat' first
      |with_reducible rfl
      |with_reducible refine Tk ?_ ?_
      |with_reducible refine Ry ?_ ?_ ?_
      |with_reducible refine Tu ?_ ?_ ?_ ?_
      |((with_reducible refine AF ?_ ?_);focus (intro h;first|(subst h;rfl)|(simp only[h];rfl)|(simp[Ch,Ac,h];done)))
      |with_reducible refine Zv λx=>?_
      |with_reducible refine JI (λ_=>?_) (λ_=>?_)
      |(refine Kz (λh=>by simp only[h,AE,Jb,Hx,ite_self]) (λx h=>?_);(try simp only[h,Jb]))
      |(refine Oe (λh=>?_) (λh=>?_)<;>simp only[h,if_true,if_false,Bool.false_eq_true])
abbrev R_:=(Int×Int×Int×LB×LB×LX×(List LB)×LB×Bool×Int×(List (Int×LB×Unit))×Int)
abbrev K_:=S->Option R_
def H:Hd:=⟨[.agg [Si,Si],Si,Ss,Sb,.lf (.list (.cons (.int .u8) (.cons (.int .i64) .nil))) none],[.agg [.agg [Si,Si],Si,Ss,Ob 5,Ow 21,.lf (.list (.list (.int .u8))) (some 24),Sb,Sz,Si],.lf (.list (.cons (.int .i64) (.cons (.list (.int .u8)) .nil))) (some 79),Si],(.seq .d (.seq .d (.seq .d (.seq .d (.seq .d (.cut [10,16,17] [] (.keep [10,16,17,41] true) .d)))))),kt [F11.k,F13.k,F14.k,F37.k,F38.k] false,[(39,(.seq .d (.seq .d (.seq .d (.cut [6] [] (.seq .d (.blk (.loop [5,6,19,20,21] [⟨5,[0,0,6],.ro (.int .u8)⟩,⟨6,[],.own 79 (.cons (.int .i64) (.cons (.list (.int .u8)) .nil))⟩] (.seq .d (.seq .d (.cut [5,6,19,20,21] [⟨5,[0,0,6],.ro (.int .u8)⟩] (.blk (.seq .d (.seq .d (.seq .d (.cond (.keep [5,6,19,20,21,33,37,38,39] true) .d))))) .d)))))) .d))))),(76,(.seq .d (.seq .d (.cut [0,1,4,5,6] [] (.mode false) (.seq (.mode false) .d))))),(77,(.seq .d (.cut [0,4,5,6,7] [] (.mode false) .d))),(78,(.seq .d (.cut [0,4,5,6] [] (.mode false) .d)))],f10⟩
def t17(b:List (UInt8×Int×Unit))(y f g h:Int)(k m:LB)(n:Bool)(o:Int)(a:LB)(w:List (Int×LB×Unit))(p:LB)(u:LX)(v:List LB):S:=⟨[(5,.mp [1,2,3] [.bfn 76 [.ptr 0 []],.bfn 77 [.ptr 0 []],.bfn 78 [.ptr 0 []]]),(6,.own 1),(19,.val (.list (.cons (.int .u8) (.cons (.int .i64) .nil))) b),(20,vi (Ac b)),(21,vi y)],[.box 85 (.agg [.agg [.agg [vi f,vi g],vi h,vs k,.own 3,.own 4,.own 5,vb m,vt n,vi o],.fn 13 [],.fn 14 [],.fn 38 [],vb a]),.arr 79 (.cons (.int .i64) (.cons (.list (.int .u8)) .nil)) w,.box 33 (.agg [.agg [vi 0,vi 0],vi 0,vs ([]:LB),.nils,.nils,.nils,.nils,vt false,vi 0]),Ab 5 p,Aw 21 u,.arr 24 (.list (.int .u8)) v],[[(10,.ptr 2 []),(16,.ptr 0 [])]]⟩
def z17:Nat->S->Option R_:=H.i P_ [r,r,r,r,r,l,(call 2 39),r,r,r,l,r,d]
def x26(wm:K_)(b:List (UInt8×Int×Unit))(aa:UInt8×Int×Unit)(a:LB)(ab y f g h:Int)(k p:LB)(u:LX)(v:List LB)(m:LB)(n:Bool)(o ac ad ae:Int)(af:LB)(ag:Bool)(ah:Int)(w:List (Int×LB×Unit))(ai:LB)(aj:LX)(ak:List LB)(al:LB):Option R_:=H.e P_ [r,r,r,r,r,l,(call 2 39),r,r,r,l,r,d,(lp wm),r,r,l,d,r,r,r,l,(call 4 76),r,r,r] ⟨[(0,.ptr 0 []),(1,vi (Er aa.2.1 (Ac a))),(4,.ptr 1 []),(5,.ptr 2 []),(6,vi ab)],[.box 85 (.agg [.agg [.agg [vi f,vi g],vi h,vs k,vb p,vw u,.val (.list (.list (.int .u8))) v,vb m,vt n,vi o],.fn 13 [],.fn 14 [],.fn 38 [],vb a]),.box 79 (.agg [vi 0,.nils]),.box 33 (.agg [.agg [vi ac,vi ad],vi ae,vs af,.own 5,.own 6,.own 7,.own 8,vt ag,vi ah]),.arr 79 (.cons (.int .i64) (.cons (.list (.int .u8)) .nil)) w,.box 33 (.agg [.agg [vi 0,vi 0],vi 0,vs ([]:LB),.nils,.nils,.nils,.nils,vt false,vi 0]),Ab 5 ai,Aw 21 aj,.arr 24 (.list (.int .u8)) ak,Ab 5 al],[[(5,.mp [1,2,3] [.bfn 76 [.ptr 0 []],.bfn 77 [.ptr 0 []],.bfn 78 [.ptr 0 []]]),(6,.own 3),(19,.val (.list (.cons (.int .u8) (.cons (.int .i64) .nil))) b),(20,vi (Ac b)),(21,vi y),(33,.own 3)],[(10,.ptr 4 []),(16,.ptr 0 [])]]⟩
theorem e26(wm:K_)(b:List (UInt8×Int×Unit)):x26 wm b=Sy (λy f g h k m n o a w p u v=>wm (t17 b y f g h k m n o a w p u v)) b:=Eq.trans (b:=Ql (Dk (λy f g h k m n o a w p u v=>wm (t17 b y f g h k m n o a w p u v)) b) b) F5 (by rw[NT];rfl)
theorem i17(b:List (UInt8×Int×Unit)):∀(q:Nat) (y f g h:Int) (k m:LB) (n:Bool) (o:Int) (a:LB) (w:List (Int×LB×Unit)) (p:LB) (u:LX) (v:List LB),z17 q (t17 b y f g h k m n o a w p u v)=Dl b q y f g h k m n o a w p u v:=
 ind (λ_ _ _ _ _ _ _ _ _ _ _ _ _=>by kernel_rfl) λq ih y f g h k m n o a w p u v=>Eq.trans (b:=Qk (x26 (z17 q) b) (Ug (λy f g h k m n o a w p u v=>(z17 q) (t17 b y f g h k m n o a w p u v)) b) (Tp (λy f g h k m n o a w p u v=>(z17 q) (t17 b y f g h k m n o a w p u v)) b) (Dk (λy f g h k m n o a w p u v=>(z17 q) (t17 b y f g h k m n o a w p u v)) b) Uh b y f g h k m n o a w p u v) F5 (by rw[NM];simp only[e26,ih]<;>rfl)
def k:Kc P_ gl:=⟨(10,⟨H.p,H.r,u6 Pa⟩),co H func10 (λx=>Eq.trans (b:=u6 (Wk (λb y f g h k m n o a w p u v=>z17 Ey (t17 b y f g h k m n o a w p u v))) x) F5 (by simp only[i17,Bn]<;>rfl))⟩
end F10
namespace F169
def H:Hd:=⟨[Sq,Sq],[Sq,Sq],.d,kt [] false,[],f169⟩
def k:Kc P_ gl:=⟨(169,⟨H.p,H.r,u2 Yx⟩),co H func169⟩
end F169
namespace F120
def H:Hd:=⟨[Sq,Sq],[Sq,Sq],.d,kt [F169.k] false,[],f120⟩
def k:Kc P_ gl:=⟨(120,⟨H.p,H.r,u2 Wz⟩),co H func120⟩
end F120
namespace F69
def Eu(j10:(List (UInt8×Int×Unit))->Option ((List (UInt8×Int×Unit))))(bk8:Int-> (List (UInt8×Int×Unit))->Option ((List (UInt8×Int×Unit))))(b:Int)(a:List (UInt8×Int×Unit)):Option ((List (UInt8×Int×Unit))):=
if(Ci b (Ac a))then
both (
(ZD (Ac a) b (Ac a)).bind λ_=>
(ZD (Ac a) 0 b).bind λ_=>
bk8 (Ad b (WN ((Ac a)-b) (NR a 0 (b-(0:Int))).length)) (Qc a b ((Ac a)-b) (NR a 0 (b-(0:Int))))) [
(ZD (Ac a) 0 b).bind λ_=>
(ZD (Ac a) b (Ac a)).bind λ_=>
bk8 (Ad b (WN ((Ac a)-b) (NR a 0 (b-(0:Int))).length)) (Qc a b ((Ac a)-b) (NR a 0 (b-(0:Int))))]
else
j10 a
theorem Nt: @Eu= @Fh:=by
  unfold Eu Fh
  repeat (refine funext λ_=>?_)
  repeat' first
    |with_reducible rfl
    |with_reducible refine Tk ?_ ?_
    |with_reducible refine Ry ?_ ?_ ?_
    |with_reducible refine Tu ?_ ?_ ?_ ?_
    |((with_reducible refine AF ?_ ?_);focus (intro h;first|(subst h;rfl)|(simp only[h];rfl)|(simp[Ch,Ac,h];done)))
    |with_reducible refine Zv λx=>?_
    |with_reducible refine JI (λ_=>?_) (λ_=>?_)
    |(refine Kz (λh=>by simp only[h,AE,Jb,Hx,ite_self]) (λx h=>?_);(try simp only[h,Jb]))
    |(refine Oe (λh=>?_) (λh=>?_)<;>simp only[h,if_true,if_false,Bool.false_eq_true])
abbrev R_:=((List (UInt8×Int×Unit)))
def H:Hd:=⟨[.lf (.list (.cons (.int .u8) (.cons (.int .i64) .nil))) none,Si],[.lf (.list (.cons (.int .u8) (.cons (.int .i64) .nil))) (some 53)],(.seq .d (.cut [0,1] [] .d (.seq .d (.cut [0,6] [] .d (.seq .d (.seq .d (.cut [7] [] (.blk (.loop [7,8] [] (.seq .d (.blk (.mode false))))) .d))))))),kt [F120.k] true,[],f69⟩
def t8(b:Int)(a:List (UInt8×Int×Unit)):S:=⟨[(7,.own 0),(8,vi b)],[.arr 53 (.cons (.int .u8) (.cons (.int .i64) .nil)) a],[]⟩
def z8:Nat->S->Option R_:=H.i P_ [r,r,r,r,r,r,l,d]
theorem i8:∀(q:Nat) (b:Int) (a:List (UInt8×Int×Unit)),z8 q (t8 b a)=Fi q b a:=
 ind (λ_ _=>by kernel_rfl) λq ih b a=>Eq.trans (b:=Eu Ib (λb a=>(z8 q) (t8 b a)) b a) F5 (by rw[Nt];simp only[ih]<;>rfl)
def k:Kc P_ gl:=⟨(69,⟨H.p,H.r,u2 Js⟩),co H func69 (λx=>Eq.trans (b:=u2 (Il (It (Im (λb a=>z8 Ey (t8 b a))))) x) F5 (by simp only[i8,Bn]<;>rfl))⟩
end F69
namespace F33
def H:Hd:=⟨[Si,Si,Si],[.lf (.list (.cons (.int .u8) (.cons (.int .i64) .nil))) (some 53),Si],.d,kt [F69.k] false,[],f33⟩
def k:Kc P_ gl:=⟨(33,⟨H.p,H.r,u3 eW⟩),co H func33⟩
end F33
namespace F15
abbrev R_:=LB
def H:Hd:=⟨[.lf (.list (.cons (.int .i64) (.cons (.list (.int .u8)) .nil))) none],[Ob 5],(.seq .d (.seq .d (.cut [3] [] (.seq .d (.blk (.loop [3,6,7,8] [⟨3,[],.own 5 (.int .u8)⟩] .d))) .d))),kt [] false,[],f15⟩
def t4(a:List (Int×LB×Unit))(f:Int)(b:LB):S:=⟨[(3,.own 0),(6,.val (.list (.cons (.int .i64) (.cons (.list (.int .u8)) .nil))) a),(7,vi (Ac a)),(8,vi f)],[Ab 5 b],[]⟩
def z4:Nat->S->Option R_:=H.i P_ [r,r,l,r,d]
theorem i4(a:List (Int×LB×Unit)):∀(q:Nat) (f:Int) (b:LB),z4 q (t4 a f b)=Ii a q f b:=
 ind (λ_ _=>by kernel_rfl) λq ih f b=>Eq.trans (b:=Oc Vs (λf b=>(z4 q) (t4 a f b)) a f b) F5 (by simp only[ih]<;>rfl)
def k:Kc P_ gl:=⟨(15,⟨H.p,H.r,Ah⟩),co H func15 (λx=>Eq.trans (b:=FM (λa f b=>z4 Ey (t4 a f b)) x) F5 (by simp only[i4,Bn]<;>rfl))⟩
end F15
namespace F7
def H:Hd:=⟨[],[Sz],.d,kt [F10.k,F15.k,F32.k,F33.k] false,[],f7⟩
def k:Kc P_ gl:=⟨(7,⟨H.p,H.r,λ_=>Ll⟩),co H func7⟩
end F7
namespace F19
def H:Hd:=⟨[Si],[Si,Si],.d,kt [] false,[],f19⟩
def k:Kc P_ gl:=⟨(19,⟨H.p,H.r,Ga⟩),co H func19⟩
end F19
namespace F70
def H:Hd:=⟨[Si],[Si],.d,kt [] false,[],f70⟩
def k:Kc P_ gl:=⟨(70,⟨H.p,H.r,Gf⟩),co H func70⟩
end F70
namespace F34
def H:Hd:=⟨[.agg [Si,Si]],[Si],.d,kt [F70.k] false,[],f34⟩
def k:Kc P_ gl:=⟨(34,⟨H.p,H.r,u2 Eb⟩),co H func34⟩
end F34
namespace F8
def H:Hd:=⟨[.agg [Si,Si],Si,Ss],[Si],.d,kt [F19.k,F34.k] false,[],f8⟩
def k:Kc P_ gl:=⟨(8,⟨H.p,H.r,u4 Ff⟩),co H func8⟩
end F8
namespace F35
def H:Hd:=⟨[.lf (.list (.cons (.int .u8) (.cons (.int .i64) .nil))) none],[Sz],.d,kt [] false,[],f35⟩
def k:Kc P_ gl:=⟨(35,⟨H.p,H.r,Jl⟩),co H func35⟩
end F35
namespace F36
abbrev R_:=Int
def H:Hd:=⟨[.lf (.list (.cons (.int .u8) (.cons (.int .i64) .nil))) none],[Si],(.seq .d (.seq .d (.cut [] [] (.seq .d (.blk (.loop [0,3] [] .d))) .d))),kt [] false,[],f36⟩
def t4(a:List (UInt8×Int×Unit))(b:Int):S:=⟨[(0,.val (.list (.cons (.int .u8) (.cons (.int .i64) .nil))) a),(3,vi b)],[],[]⟩
def z4:Nat->S->Option R_:=H.i P_ [r,r,l,r,d]
theorem i4(a:List (UInt8×Int×Unit)):∀(q:Nat) (b:Int),z4 q (t4 a b)=Cm a q b:=
 ind (λ_=>by kernel_rfl) λq ih b=>Eq.trans (b:=Gk Uu (λb=>(z4 q) (t4 a b)) a b) F5 (by simp only[ih]<;>rfl)
def k:Kc P_ gl:=⟨(36,⟨H.p,H.r,Lp⟩),co H func36 (λx=>Eq.trans (b:=Jc (λa b=>z4 Ey (t4 a b)) x) F5 (by simp only[i4,Bn]<;>rfl))⟩
end F36
namespace F9
def H:Hd:=⟨[.lf (.list (.cons (.int .u8) (.cons (.int .i64) .nil))) none],[Sz],.d,kt [F35.k,F36.k] false,[],f9⟩
def k:Kc P_ gl:=⟨(9,⟨H.p,H.r,Ef⟩),co H func9⟩
end F9
namespace F12
abbrev R_:=(LB×Bool)
def H:Hd:=⟨[Sb,.lf (.list (.cons (.int .u8) (.cons (.int .i64) .nil))) none],[Sb,Sz],(.seq .d (.seq .d (.cut [0,6] [] (.seq .d (.blk (.loop [0,1,6,7] [] .d))) .d))),kt [] false,[],f12⟩
def t4(a:LB)(f:List (UInt8×Int×Unit))(b g:Int):S:=⟨[(0,vb a),(1,.val (.list (.cons (.int .u8) (.cons (.int .i64) .nil))) f),(6,vi b),(7,vi g)],[],[]⟩
def z4:Nat->S->Option R_:=H.i P_ [r,r,l,r,d]
theorem i4(a:LB)(f:List (UInt8×Int×Unit)):∀(q:Nat) (b g:Int),z4 q (t4 a f b g)=Gg a f q b g:=
 ind (λ_ _=>by kernel_rfl) λq ih b g=>Eq.trans (b:=Ju Oj (λb g=>(z4 q) (t4 a f b g)) a f b g) F5 (by simp only[ih]<;>rfl)
def k:Kc P_ gl:=⟨(12,⟨H.p,H.r,u2 Vu⟩),co H func12 (λx=>Eq.trans (b:=u2 (Zp (λa f b g=>z4 Ey (t4 a f b g))) x) F5 (by simp only[i4,Bn]<;>rfl))⟩
end F12
namespace F16
abbrev R_:=Bool
def H:Hd:=⟨[.agg [.agg [Si,Si],Si,Ss,Sb,Sw,.lf (.list (.list (.int .u8))) none,Sb,Sz,Si],.agg [.agg [Si,Si],Si,Ss,Sb,Sw,.lf (.list (.list (.int .u8))) none,Sb,Sz,Si]],[Sz],(.seq .d (.seq .d (.cut [2,3] [] (.seq .d (.blk (.loop [2,3,5] [] .d))) (.cut [] [] (.seq .d (.blk (.loop [2,3,6] [] .d))) .d)))),kt [] false,[],f16⟩
def t10(h k m:Int)(n o:LB)(a:LX)(b:List LB)(p:LB)(u:Bool)(v w y aa:Int)(ab ac:LB)(f:LX)(g:List LB)(ad:LB)(ae:Bool)(af ag:Int):S:=⟨[(2,.ptr 0 []),(3,.ptr 1 []),(6,vi ag)],[.box 33 (.agg [.agg [vi h,vi k],vi m,vs n,vb o,vw a,.val (.list (.list (.int .u8))) b,vb p,vt u,vi v]),.box 33 (.agg [.agg [vi w,vi y],vi aa,vs ab,vb ac,vw f,.val (.list (.list (.int .u8))) g,vb ad,vt ae,vi af])],[]⟩
def z10:Nat->S->Option R_:=H.i P_ [r,r,r,l,r,d]
def t7(h k m:Int)(n o:LB)(a:LX)(b:List LB)(p:LB)(u:Bool)(v w y aa:Int)(ab ac:LB)(f:LX)(g:List LB)(ad:LB)(ae:Bool)(af ah:Int):S:=⟨[(2,.ptr 0 []),(3,.ptr 1 []),(5,vi ah)],[.box 33 (.agg [.agg [vi h,vi k],vi m,vs n,vb o,vw a,.val (.list (.list (.int .u8))) b,vb p,vt u,vi v]),.box 33 (.agg [.agg [vi w,vi y],vi aa,vs ab,vb ac,vw f,.val (.list (.list (.int .u8))) g,vb ad,vt ae,vi af])],[]⟩
def z7:Nat->S->Option R_:=H.i P_ [r,r,l,r,d]
def x10(h k m:Int)(n o:LB)(a:LX)(b:List LB)(p:LB)(u:Bool)(v w y aa:Int)(ab ac:LB)(f:LX)(g:List LB)(ad:LB)(ae:Bool)(af ag:Int):Option R_:=H.e P_ [r,r,r,l,r,d] (t10 h k m n o a b p u v w y aa ab ac f g ad ae af ag)
theorem i10(h k m:Int)(n o:LB)(a:LX)(b:List LB)(p:LB)(u:Bool)(v w y aa:Int)(ab ac:LB)(f:LX)(g:List LB)(ad:LB)(ae:Bool)(af:Int):∀(q:Nat) (ag:Int),z10 q (t10 h k m n o a b p u v w y aa ab ac f g ad ae af ag)=Es h k m n o a b p u v w y aa ab ac f g ad ae af q ag:=
 ind (λ_=>by kernel_rfl) λq ih ag=>Eq.trans (b:=Je Vb (λag=>(z10 q) (t10 h k m n o a b p u v w y aa ab ac f g ad ae af ag)) h k m n o a b p u v w y aa ab ac f g ad ae af ag) F5 (by simp only[ih]<;>rfl)
theorem e10:x10=Vm:=by funext h k m n o a b p u v w y aa ab ac f g ad ae af ag;exact Eq.trans F5 ((i10 h k m n o a b p u v w y aa ab ac f g ad ae af Ey ag).trans (by rw[Bn];rfl))
theorem i7(h k m:Int)(n o:LB)(a:LX)(b:List LB)(p:LB)(u:Bool)(v w y aa:Int)(ab ac:LB)(f:LX)(g:List LB)(ad:LB)(ae:Bool)(af:Int):∀(q:Nat) (ah:Int),z7 q (t7 h k m n o a b p u v w y aa ab ac f g ad ae af ah)=Fk h k m n o a b p u v w y aa ab ac f g ad ae af q ah:=
 ind (λ_=>by kernel_rfl) λq ih ah=>Eq.trans (b:=Jp (Xp x10) (λah=>(z7 q) (t7 h k m n o a b p u v w y aa ab ac f g ad ae af ah)) h k m n o a b p u v w y aa ab ac f g ad ae af ah) F5 (by simp only[e10,ih]<;>rfl)
def k:Kc P_ gl:=⟨(16,⟨H.p,H.r,λ(x:Int×Int×Int×LB×LB×LX×List LB×LB×Bool×Int×Int×Int×Int×LB×LB×LX×List LB×LB×Bool×Int)=>Mp x.1 x.2.1 x.2.2.1 x.2.2.2.1 x.2.2.2.2.1 x.2.2.2.2.2.1 x.2.2.2.2.2.2.1 x.2.2.2.2.2.2.2.1 x.2.2.2.2.2.2.2.2.1 x.2.2.2.2.2.2.2.2.2.1 x.2.2.2.2.2.2.2.2.2.2.1 x.2.2.2.2.2.2.2.2.2.2.2.1 x.2.2.2.2.2.2.2.2.2.2.2.2.1 x.2.2.2.2.2.2.2.2.2.2.2.2.2.1 x.2.2.2.2.2.2.2.2.2.2.2.2.2.2.1 x.2.2.2.2.2.2.2.2.2.2.2.2.2.2.2.1 x.2.2.2.2.2.2.2.2.2.2.2.2.2.2.2.2.1 x.2.2.2.2.2.2.2.2.2.2.2.2.2.2.2.2.2.1 x.2.2.2.2.2.2.2.2.2.2.2.2.2.2.2.2.2.2.1 x.2.2.2.2.2.2.2.2.2.2.2.2.2.2.2.2.2.2.2⟩),co H func16 (λ(x:Int×Int×Int×LB×LB×LX×List LB×LB×Bool×Int×Int×Int×Int×LB×LB×LX×List LB×LB×Bool×Int)=>Eq.trans (b:=Nn (λh k m n o a b p u v w y aa ab ac f g ad ae af ah=>z7 Ey (t7 h k m n o a b p u v w y aa ab ac f g ad ae af ah)) x.1 x.2.1 x.2.2.1 x.2.2.2.1 x.2.2.2.2.1 x.2.2.2.2.2.1 x.2.2.2.2.2.2.1 x.2.2.2.2.2.2.2.1 x.2.2.2.2.2.2.2.2.1 x.2.2.2.2.2.2.2.2.2.1 x.2.2.2.2.2.2.2.2.2.2.1 x.2.2.2.2.2.2.2.2.2.2.2.1 x.2.2.2.2.2.2.2.2.2.2.2.2.1 x.2.2.2.2.2.2.2.2.2.2.2.2.2.1 x.2.2.2.2.2.2.2.2.2.2.2.2.2.2.1 x.2.2.2.2.2.2.2.2.2.2.2.2.2.2.2.1 x.2.2.2.2.2.2.2.2.2.2.2.2.2.2.2.2.1 x.2.2.2.2.2.2.2.2.2.2.2.2.2.2.2.2.2.1 x.2.2.2.2.2.2.2.2.2.2.2.2.2.2.2.2.2.2.1 x.2.2.2.2.2.2.2.2.2.2.2.2.2.2.2.2.2.2.2) F5 (by simp only[i7,Bn]<;>rfl))⟩
end F16
namespace F3
def Hr(j6:(List (UInt8×Int×Unit))->Bool->Int->Int->Int->Int->Int->LB->LB->Bool->Int-> (List (Int×LB×Unit))->Int->Int->Int->LB->Bool->Int->LB->LB->LX-> (List LB)->LB->LX-> (List LB)->LB->Option Bool)(b:List (UInt8×Int×Unit))(a:Bool)(h k m n o:Int)(p g:LB)(u:Bool)(v:Int)(f:List (Int×LB×Unit))(w:LB)(y:LX)(aa:List LB)(ac ad ae:Int)(af:LB)(ag:Bool)(ah:Int)(aj:LB)(ak:LX)(al:List LB)(ab:LB):Option Bool:=
(λbf:Option Bool=>
both (
both (
(Ah f).bind λam=>
(λdi:Option Bool=>
bo (
di)) (
(Ch ([]:LB) am).bind λan=>
(Ch an g).bind λai=>
j6 b a h k m n o p g u v f ac ad ae af ag ah ai w y aa aj ak al ab)) [
bf]) [
(Ah f).bind λam=>
(λbg:Option Bool=>
both (
bo (
bg)) [
bg]) (
(Ch ([]:LB) am).bind λan=>
(Ch an g).bind λai=>
j6 b a h k m n o p g u v f ac ad ae af ag ah ai w y aa aj ak al ab),
bo (
bf)]) (
(Ah f).bind λam=>
(Ch ([]:LB) am).bind λan=>
(Ch an g).bind λai=>
j6 b a h k m n o p g u v f ac ad ae af ag ah ai w y aa aj ak al ab)
theorem Us: @Hr= @Ft:=by
  unfold Hr Ft
  try simp only[pF,bQ,dP]
  all_goals
    repeat (refine funext λ_=>?_)
    repeat' first
      |with_reducible rfl
      |with_reducible refine Tk ?_ ?_
      |with_reducible refine Ry ?_ ?_ ?_
      |with_reducible refine Tu ?_ ?_ ?_ ?_
      |((with_reducible refine AF ?_ ?_);focus (intro h;first|(subst h;rfl)|(simp only[h];rfl)|(simp[Ch,Ac,h];done)))
      |with_reducible refine Zv λx=>?_
      |with_reducible refine JI (λ_=>?_) (λ_=>?_)
      |(refine Kz (λh=>by simp only[h,AE,Jb,Hx,ite_self]) (λx h=>?_);(try simp only[h,Jb]))
      |(refine Oe (λh=>?_) (λh=>?_)<;>simp only[h,if_true,if_false,Bool.false_eq_true])
abbrev R_:=Bool
def H:Hd:=⟨[.agg [Si,Si],Si,Ss,Sb,.lf (.list (.cons (.int .u8) (.cons (.int .i64) .nil))) none],[Sz],(.seq .d (.seq .d (.cut [1,2,3,4,5,11] [] .d (.seq .d (.seq .d (.seq .d (.seq .d (.cut [4,11,12,13,14,15,16] [] .d (.cut [4,11,12,13,14,15,16,19] [] (.mode false) .d))))))))),kt [F7.k,F8.k,F9.k,F10.k,F11.k,F12.k,F13.k,F14.k,F15.k,F16.k] false,[],f3⟩
def x5(b:List (UInt8×Int×Unit))(a:Bool)(h k m n o:Int)(p g:LB)(u:Bool)(v:Int)(f:List (Int×LB×Unit))(w:LB)(y:LX)(aa:List LB)(ac ad ae:Int)(af:LB)(ag:Bool)(ah:Int)(aj:LB)(ak:LX)(al:List LB)(ab:LB):Option R_:=H.e P_ [r,r,r,r,r,r,r,r] ⟨[(4,.val (.list (.cons (.int .u8) (.cons (.int .i64) .nil))) b),(11,vt a),(12,.ptr 0 []),(13,.own 1),(14,vi h),(15,.ptr 2 []),(16,vi k)],[.box 33 (.agg [.agg [vi m,vi n],vi o,vs p,.own 3,.own 4,.own 5,vb g,vt u,vi v]),.arr 79 (.cons (.int .i64) (.cons (.list (.int .u8)) .nil)) f,.box 33 (.agg [.agg [vi ac,vi ad],vi ae,vs af,.own 6,.own 7,.own 8,.own 9,vt ag,vi ah]),Ab 5 w,Aw 21 y,.arr 24 (.list (.int .u8)) aa,Ab 5 aj,Aw 21 ak,.arr 24 (.list (.int .u8)) al,Ab 5 ab],[]⟩
theorem e5:x5=Fu:=Eq.trans (b:=Hr Hu) F5 (by rw[Us];rfl)
def k:Kc P_ gl:=⟨(3,⟨H.p,H.r,u6 Hb⟩),co H func3 (λx=>Eq.trans (b:=u6 (Hw (Ia x5)) x) F5 (by simp only[e5]<;>rfl))⟩
end F3
end
end Go.Proofs.YtehlnpncgkmoaaaGreatDoor
