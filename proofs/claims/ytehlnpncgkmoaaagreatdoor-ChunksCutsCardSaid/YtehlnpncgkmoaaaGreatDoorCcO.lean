/- A part of a proof (see the text that ends in Proof). No conditions. -/
import Derived.Test.YtehlnpncgkmoaaaGreatDoorCcBB
import Derived.Test.YtehlnpncgkmoaaaGreatDoorCcPA
import Derived.Test.YtehlnpncgkmoaaaGreatDoorProg
import Derived.KernelRfl
namespace Go
theorem F2{p:Prop}(h:p:=by kernel_rfl):p:=h
end Go
set_option linter.unusedVariables false
set_option linter.unusedSimpArgs false
set_option maxRecDepth 10000
namespace Go.Proofs.YtehlnpncgkmoaaaGreatDoor
open Go Go.Lv Go.Pl Go.Rx Go.Rx.PS
noncomputable section
def g0:List Value:=[.int .i64 2,.int .i64 2,.int .i64 2,.int .i64 4,.int .i64 4]
def gl:List (Nat×List Value):=[(0,g0)]
theorem mixed:Tryz.prog.follows .mixedOrders=true:=F2
noncomputable abbrev P_:=Tryz.prog
noncomputable def kt(l:List (Kc P_ gl))(v:Bool)(c:Bool:=false):=Alz l v c
theorem co(H:Hd){f:Nat}{F:IP (Ws H.p)->Option (IP (Ws H.r))}(hf:P_.funcs[f]? =some H.f)(h:∀x,H.u P_ x=F x:=by intro x;kernel_rfl)(hT:VR P_ H.T:=by exact yc _ _ _)(hb:okA P_ H=true:=by kernel_rfl):ConOk P_ H.T.gl f ⟨H.p,H.r,F⟩:=Hd.cn mixed H hf hT hb h
abbrev u2{A B R:Type}(f:A->B->R)(x:A×B):=f x.1 x.2
abbrev u3{A B C R:Type}(f:A->B->C->R):=u2 λa=>u2 (f a)
abbrev u4{A B C D R:Type}(f:A->B->C->D->R):=u2 λa=>u3 (f a)
abbrev u5{A B C D E R:Type}(f:A->B->C->D->E->R):=u2 λa=>u4 (f a)
abbrev u6{A B C D E F R:Type}(f:A->B->C->D->E->F->R):=u2 λa=>u5 (f a)
abbrev u7{A B C D E F G R:Type}(f:A->B->C->D->E->F->G->R):=u2 λa=>u6 (f a)
abbrev u8{A B C D E F G H R:Type}(f:A->B->C->D->E->F->G->H->R):=u2 λa=>u7 (f a)
abbrev u9{A B C D E F G H I R:Type}(f:A->B->C->D->E->F->G->H->I->R):=u2 λa=>u8 (f a)
abbrev zP{A B C D E F G H I J R:Type}(f:A->B->C->D->E->F->G->H->I->J->R):=u2 λa=>u9 (f a)
abbrev og{A B C D E F G H I J K R:Type}(f:A->B->C->D->E->F->G->H->I->J->K->R):=u2 λa=>zP (f a)
abbrev u12{A B C D E F G H I J K L R:Type}(f:A->B->C->D->E->F->G->H->I->J->K->L->R):=u2 λa=>og (f a)
open Go.Proofs.Tryz
namespace F22
def H:Hd:=⟨[Sb],[Sz],.d,kt [] false,[],f22⟩
def k:Kc P_ gl:=⟨(22,⟨H.p,H.r,AZ⟩),co H func22⟩
end F22
namespace F23
abbrev R_:=(LI×Int)
def H:Hd:=⟨[Si,Sq],[Ol 3,Si],(.seq .d (.seq .d (.seq .d (.seq .d (.cut [6] [] (.seq .d (.blk (.loop [0,1,6,7,15,16] [⟨6,[],.own 3 (.int .i64)⟩] .d))) .d))))),kt [] false,[],f23⟩
def t4(b:Int)(g:UInt64)(h a:Int)(f:LI):S:=⟨[(0,vi b),(1,vq g),(6,.own 0),(7,vi h),(15,vi b),(16,vi a)],[Ai 3 f],[]⟩
def z4:Nat->S->Option R_:=H.i P_ [r,r,r,r,l,r,d]
theorem i4(b:Int)(g:UInt64):∀(q:Nat) (h a:Int) (f:LI),z4 q (t4 b g h a f)=Mb b g q h a f:=
 ind (λ_ _ _=>by kernel_rfl) λq ih h a f=>Eq.trans (b:=Vz QT (λh a f=>(z4 q) (t4 b g h a f)) b g h a f) F2 (by simp only[ih]<;>rfl)
def k:Kc P_ gl:=⟨(23,⟨H.p,H.r,u2 Lt⟩),co H func23 (λx=>Eq.trans (b:=u2 (Vn (λb g h a f=>z4 Cg (t4 b g h a f))) x) F2 (by simp only[i4,Am]<;>rfl))⟩
end F23
namespace F98
abbrev R_:=Bool
def H:Hd:=⟨[Sq,Si],[Sz],(.seq .d (.cut [0] [] (.seq .d (.blk (.loop [0,1,5] [] .d))) .d)),kt [] false,[],f98⟩
def t4(b:Int)(a:UInt64)(f:Int):S:=⟨[(0,vq a),(1,vi b),(5,vi f)],[],[]⟩
def z4:Nat->S->Option R_:=H.i P_ [r,l,r,d]
theorem i4(b:Int):∀(q:Nat) (a:UInt64) (f:Int),z4 q (t4 b a f)=Kv b q a f:=
 ind (λ_ _=>by kernel_rfl) λq ih a f=>Eq.trans (b:=Wk Wi (λa f=>(z4 q) (t4 b a f)) b a f) F2 (by simp only[ih]<;>rfl)
def k:Kc P_ gl:=⟨(98,⟨H.p,H.r,u2 EM⟩),co H func98 (λx=>Eq.trans (b:=u2 (IZ (λb a f=>z4 Cg (t4 b a f))) x) F2 (by simp only[i4,Am]<;>rfl))⟩
end F98
namespace F55
abbrev R_:=LI
abbrev K_:=S->Option R_
def H:Hd:=⟨[Si,Sq],[Ol 3],(.seq .d (.seq .d (.seq .d (.cut [5] [] (.seq .d (.blk (.loop [0,1,5,6,7] [⟨5,[],.own 3 (.int .i64)⟩] (.seq .d (.seq (.blk (.cut [0,1,5,6,7,21] [] .d .d)) .d))))) .d)))),kt [F98.k] false,[],f55⟩
def t7(f:Int)(g:UInt64)(h a:Int)(b:LI):S:=⟨[(0,vi f),(1,vq g),(5,.own 0),(6,vi h),(7,vi a)],[Ai 3 b],[]⟩
def z7:Nat->S->Option R_:=H.i P_ [r,r,r,l,r,d]
theorem i7(f:Int)(g:UInt64):∀(q:Nat) (h a:Int) (b:LI),z7 q (t7 f g h a b)=Gc f g q h a b:=
 ind (λ_ _ _=>by kernel_rfl) λq ih h a b=>Eq.trans (b:=Ph (Nw (λh a b=>(z7 q) (t7 f g h a b)) f g) FX f g h a b) F2 (by simp only[ih]<;>rfl)
def k:Kc P_ gl:=⟨(55,⟨H.p,H.r,u2 Ql⟩),co H func55 (λx=>Eq.trans (b:=u2 (Wp (λf g h a b=>z7 Cg (t7 f g h a b))) x) F2 (by simp only[i7,Am]<;>rfl))⟩
end F55
namespace F24
def H:Hd:=⟨[Si,Sq],[Ol 3,Si],.d,kt [F55.k] false,[],f24⟩
def k:Kc P_ gl:=⟨(24,⟨H.p,H.r,u2 Kx⟩),co H func24⟩
end F24
namespace F79
def H:Hd:=⟨[Si],[Si,Si],.d,kt [] false,[],f79⟩
def k:Kc P_ gl:=⟨(79,⟨H.p,H.r,Nn⟩),co H func79⟩
end F79
namespace F81
abbrev R_:=(Int32×Int32×Int)
def H:Hd:=⟨[Si],[Sx,Sx,Si],(.seq .d (.seq (.seq .d (.blk (.cut [0,7] [] .d .d))) .d)),kt [] false,[],f81⟩
def k:Kc P_ gl:=⟨(81,⟨H.p,H.r,Lw⟩),co H func81⟩
end F81
namespace F80
def H:Hd:=⟨[.agg [Si,Si]],[Si],.d,kt [F81.k] false,[],f80⟩
def k:Kc P_ gl:=⟨(80,⟨H.p,H.r,u2 Lu⟩),co H func80⟩
end F80
namespace F40
def H:Hd:=⟨[.agg [Si,Si],Si,Ss],[Si,Sz],.d,kt [F79.k,F80.k] false,[],f40⟩
def k:Kc P_ gl:=⟨(40,⟨H.p,H.r,u4 Oq⟩),co H func40⟩
end F40
namespace F11
def H:Hd:=⟨[.agg [Si,Si],Si,Ss],[.agg [.agg [Si,Si],Si,Ss,Ob 5,Ow 21,.lf (.list (.list (.int .u8))) (some 24),Ob 5,Sz,Si],Si],.d,kt [F40.k] false,[],f11⟩
def k:Kc P_ gl:=⟨(11,⟨H.p,H.r,u4 Zl⟩),co H func11⟩
end F11
namespace F42
def H:Hd:=⟨[.agg [Si,Si]],[Si],.d,kt [] false,[],f42⟩
def k:Kc P_ gl:=⟨(42,⟨H.p,H.r,u2 Qf⟩),co H func42⟩
end F42
namespace F107
abbrev R_:=Int
def H:Hd:=⟨[Si,Sw],[Si],(.seq .d (.seq .d (.seq .d (.seq .d (.cut [] [] (.seq .d (.blk (.loop [5,6,22,23,24] [] .d))) .d))))),kt [F81.k] false,[],f107⟩
def t4(b f:Int32)(a:LX)(g:Int):S:=⟨[(5,vx b),(6,vx f),(22,vw a),(23,vi (Ac a)),(24,vi g)],[],[]⟩
def z4:Nat->S->Option R_:=H.i P_ [r,r,r,r,l,r,d]
theorem i4(b f:Int32)(a:LX):∀(q:Nat) (g:Int),z4 q (t4 b f a g)=Qb b f a q g:=
 ind (λ_=>by kernel_rfl) λq ih g=>Eq.trans (b:=AK aJ (λg=>(z4 q) (t4 b f a g)) b f a g) F2 (by simp only[ih]<;>rfl)
def k:Kc P_ gl:=⟨(107,⟨H.p,H.r,u2 Rc⟩),co H func107 (λx=>Eq.trans (b:=u2 (LV (λb f a g=>z4 Cg (t4 b f a g))) x) F2 (by simp only[i4,Am]<;>rfl))⟩
end F107
namespace F45
def H:Hd:=⟨[.agg [.agg [Si,Si],Si,Ss,Sb,Sw,.lf (.list (.list (.int .u8))) none,Sb,Sz,Si],Si],[Si],.d,kt [] false,[],f45⟩
def k:Kc P_ gl:=⟨(45,⟨H.p,H.r,og Om⟩),co H func45⟩
end F45
namespace F44
def H:Hd:=⟨[.agg [.agg [Si,Si],Si,Ss,Sb,Sw,.lf (.list (.list (.int .u8))) none,Sb,Sz,Si],Si,Si],[Sz],.d,kt [] false,[],f44⟩
def k:Kc P_ gl:=⟨(44,⟨H.p,H.r,u12 Og⟩),co H func44⟩
end F44
namespace F97
abbrev R_:=Bool
abbrev K_:=S->Option R_
def H:Hd:=⟨[.agg [.agg [Si,Si],Si,Ss,Sb,Sw,.lf (.list (.list (.int .u8))) none,Sb,Sz,Si],Si],[Sz],(.seq .d (.seq .d (.cut [1,2,5] [] .d (.seq .d (.seq .d (.cut [1,2,5,6] [] .d (.cut [1,2,5] [] .d (.seq .d (.cut [4] [] (.keep [4,80,81] true) .d))))))))),kt [F42.k,F44.k,F45.k,F107.k] false,[(143,(.seq .d (.cut [4] [] (.keep [4,7,8] true) .d))),(144,.d),(197,(.seq .d (.cut [] [] (.seq .d (.blk (.loop [0,1,7,8] [] (.seq .d (.seq .d (.cut [0,1,7,8] [] (.blk (.seq .d (.cut [0,1,5,7,8,16] [] (.keep [0,1,5,7,8,16] true) .d))) .d)))))) .d)))],f97⟩
def t16(b:List LB)(f a h:Int):S:=⟨[(0,.val (.list (.list (.int .u8))) b),(1,.fn 144 [.ptr 0 []]),(7,vi (Ac b)),(8,vi h)],[.box 3 (vi (Ae (Ba (Ae (Bf (Bf (81:Int) f) a) (7:Int)) (8:Int)) (4:Int)))],[[(4,vt false)],[]]⟩
def z16:Nat->S->Option R_:=H.i P_ [r,r,r,r,r,r,r,r,l,(call 3 143),r,l,(call 2 197),r,l,r,d]
def x13(f a k o:Int)(p m:LB)(g:LX)(b:List LB)(n:LB)(u:Bool)(v:Int):Option R_:=H.e P_ [r,r,r] ⟨[(1,vi f),(2,.ptr 0 []),(5,vi a)],[.box 33 (.agg [.agg [vi a,vi k],vi o,vs p,vb m,vw g,.val (.list (.list (.int .u8))) b,vb n,vt u,vi v])],[]⟩
theorem i16(b:List LB)(f a:Int):∀(q:Nat) (h:Int),z16 q (t16 b f a h)=Dl b f a q h:=
 ind (λ_=>by kernel_rfl) λq ih h=>Eq.trans (b:=Il (Ox (λh=>(z16 q) (t16 b f a h)) b f a) IL b f a h) F2 (by simp only[ih]<;>rfl)
theorem e13:x13=Pb:=Eq.trans (b:=Pe (Ku (Ks (λb f a h=>z16 Cg (t16 b f a h))))) F2 (by simp only[i16,Am]<;>rfl)
def k:Kc P_ gl:=⟨(97,⟨H.p,H.r,og Ni⟩),co H func97 (λx=>Eq.trans (b:=og (Rk x13) x) F2 (by simp only[e13]<;>rfl))⟩
end F97
namespace F53
def H:Hd:=⟨[.agg [.agg [Si,Si],Si,Ss,Sb,Sw,.lf (.list (.list (.int .u8))) none,Sb,Sz,Si]],[Si],.d,kt [F40.k,F97.k] false,[],f53⟩
def k:Kc P_ gl:=⟨(53,⟨H.p,H.r,zP Jk⟩),co H func53⟩
end F53
namespace F75
def Ml(a:LB):Option (LB):=
xZ a (
some ([]:LB)) (
(Bx ([]:LB) a).bind λb=>
some b)
theorem HO: @Ml= @Bd:=by
  unfold Ml Bd
  repeat (refine funext λ_=>?_)
  repeat' first
    |with_reducible rfl
    |with_reducible refine Qs ?_ ?_
    |with_reducible refine Pv ?_ ?_ ?_
    |with_reducible refine Qw ?_ ?_ ?_ ?_
    |((with_reducible refine Vy ?_ ?_);focus (intro h;first|(subst h;rfl)|(simp only[h];rfl)|(simp[Bx,Ac,h];done)))
    |with_reducible refine Vp λx=>?_
    |with_reducible refine EK (λ_=>?_) (λ_=>?_)
    |(refine Iy (λh=>by simp only[h,Vv,Gj,Fq,ite_self]) (λx h=>?_);(try simp only[h,Gj]))
    |(refine Me (λh=>?_) (λh=>?_)<;>simp only[h,if_true,if_false,Bool.false_eq_true])
def H:Hd:=⟨[Sb],[Ob 5],.d,kt [] false,[],f75⟩
def k:Kc P_ gl:=⟨(75,⟨H.p,H.r,Bd⟩),co H func75 (λx=>Eq.trans (b:=Ml x) F2 (by simp only[HO]<;>rfl))⟩
end F75
namespace F122
def Km(a:LX):Option (LX):=
xZ a (
some ([]:LX)) (
(Bx ([]:LX) a).bind λb=>
some b)
theorem DA: @Km= @Cn:=by
  unfold Km Cn
  repeat (refine funext λ_=>?_)
  repeat' first
    |with_reducible rfl
    |with_reducible refine Qs ?_ ?_
    |with_reducible refine Pv ?_ ?_ ?_
    |with_reducible refine Qw ?_ ?_ ?_ ?_
    |((with_reducible refine Vy ?_ ?_);focus (intro h;first|(subst h;rfl)|(simp only[h];rfl)|(simp[Bx,Ac,h];done)))
    |with_reducible refine Vp λx=>?_
    |with_reducible refine EK (λ_=>?_) (λ_=>?_)
    |(refine Iy (λh=>by simp only[h,Vv,Gj,Fq,ite_self]) (λx h=>?_);(try simp only[h,Gj]))
    |(refine Me (λh=>?_) (λh=>?_)<;>simp only[h,if_true,if_false,Bool.false_eq_true])
def H:Hd:=⟨[Sw],[Ow 21],.d,kt [] false,[],f122⟩
def k:Kc P_ gl:=⟨(122,⟨H.p,H.r,Cn⟩),co H func122 (λx=>Eq.trans (b:=Km x) F2 (by simp only[DA]<;>rfl))⟩
end F122
namespace F74
abbrev R_:=(Int×Int×Int×LB×LB×LX×(List LB)×LB×Bool×Int)
def H:Hd:=⟨[.agg [.agg [Si,Si],Si,Ss,Sb,Sw,.lf (.list (.list (.int .u8))) none,Sb,Sz,Si]],[.agg [.agg [Si,Si],Si,Ss,Ob 5,Ow 21,.lf (.list (.list (.int .u8))) (some 24),Ob 5,Sz,Si]],(.seq .d (.cut [1,2] [] .d (.seq .d (.seq .d (.cut [1,2,3] [] (.seq .d (.blk (.loop [1,2,3,26,27] [] .d))) .d))))),kt [F75.k,F122.k] false,[],f74⟩
def t6(w a:List LB)(b f g:Int)(h:LB)(k:Bool)(m:Int)(n:LB)(o:LX)(p:LB)(v:Int)(u:List LB):S:=⟨[(1,.ptr 0 []),(2,.ptr 1 []),(3,.own 2),(26,vi (Ac (VZ w a))),(27,vi v)],[.box 33 (.agg [.agg [vi b,vi f],vi g,vs h,.own 3,.own 4,.val (.list (.list (.int .u8))) a,.own 5,vt k,vi m]),.box 33 (.agg [.agg [vi 0,vi 0],vi 0,vs ([]:LB),.nils,.nils,.nils,.nils,vt false,vi 0]),.arr 24 (.list (.int .u8)) u,Ab 5 n,Aw 21 o,Ab 5 p],[]⟩
def z6:Nat->S->Option R_:=H.i P_ [r,r,r,r,l,r,d]
theorem i6(w a:List LB)(b f g:Int)(h:LB)(k:Bool)(m:Int)(n:LB)(o:LX)(p:LB):∀(q:Nat) (v:Int) (u:List LB),z6 q (t6 w a b f g h k m n o p v u)=Nk w a b f g h k m n o p q v u:=
 ind (λ_ _=>by kernel_rfl) λq ih v u=>Eq.trans (b:=Yb VT (λv u=>(z6 q) (t6 w a b f g h k m n o p v u)) w a b f g h k m n o p v u) F2 (by simp only[ih]<;>rfl)
def k:Kc P_ gl:=⟨(74,⟨H.p,H.r,zP BT⟩),co H func74 (λx=>Eq.trans (b:=zP (HU (HZ (λw a b f g h k m n o p v u=>z6 Cg (t6 w a b f g h k m n o p v u)))) x) F2 (by simp only[i6,Am]<;>rfl))⟩
end F74
namespace F41
abbrev R_:=(Int×Int×Int×LB×LB×LX×(List LB)×LB×Bool×Int×Int×Int)
def H:Hd:=⟨[.agg [.agg [Si,Si],Si,Ss,Sb,Sw,.lf (.list (.list (.int .u8))) none,Sb,Sz,Si]],[.agg [.agg [Si,Si],Si,Ss,Ob 5,Ow 21,.lf (.list (.list (.int .u8))) (some 24),Ob 5,Sz,Si],Si,Si],(.seq .d (.seq .d (.seq .d (.cut [1,2,6,7] [] .d .d)))),kt [F53.k,F74.k,F79.k] false,[],f41⟩
def k:Kc P_ gl:=⟨(41,⟨H.p,H.r,zP Xr⟩),co H func41⟩
end F41
namespace F46
abbrev R_:=(LX×Int)
abbrev K_:=S->Option R_
def H:Hd:=⟨[Si,Sb],[Ow 21,Si],(.seq .d (.seq .d (.seq .d (.seq .d (.seq .d (.seq .d (.cut [10] [] (.seq .d (.blk (.loop [0,1,9,10,11] [⟨10,[],.own 21 (.int .i32)⟩] (.seq .d (.cut [0,1,9,10,11] [] (.blk (.seq .d (.seq .d (.cut [0,1,9,10,11,12] [] (.seq .d (.blk (.loop [0,1,9,10,11,12,53,54] [] .d))) .d)))) .d))))) .d))))))),kt [F81.k] false,[],f46⟩
def t25(a:Int)(b:LB)(f:Int)(g:LX)(k:Int32)(h:Int):S:=⟨[(0,vi a),(1,vb b),(9,vi (Ba a (8:Int))),(10,.own 0),(11,vi f),(12,vx k),(53,vi (Ba a (8:Int))),(54,vi h)],[Aw 21 g],[]⟩
def z25(Kp:K_):Nat->S->Option R_:=H.i P_ [r,r,r,r,r,r,l,r,d,(lp Kp),r,l,d,r,r,l,r,d]
def t16(a:Int)(b:LB)(f:Int)(g:LX):S:=⟨[(0,vi a),(1,vb b),(9,vi (Ba a (8:Int))),(10,.own 0),(11,vi f)],[Aw 21 g],[]⟩
def z16:Nat->S->Option R_:=H.i P_ [r,r,r,r,r,r,l,r,d]
def x25(Kp:K_)(a:Int)(b:LB)(f:Int)(g:LX)(k:Int32)(h:Int):Option R_:=H.e P_ [r,r,r,r,r,r,l,r,d,(lp Kp),r,l,d,r,r,l,r,d] (t25 a b f g k h)
theorem i25(Kp:K_)(a:Int)(b:LB)(f:Int)(g:LX):∀(q:Nat) (k:Int32) (h:Int),z25 Kp q (t25 a b f g k h)=Ds (λf g=>Kp (t16 a b f g)) a b f g q k h:=
 ind (λ_ _=>by kernel_rfl) λq ih k h=>Eq.trans (b:=En (Ui (λf g=>Kp (t16 a b f g)) a b) (λk h=>(z25 Kp q) (t25 a b f g k h)) a b f g k h) F2 (by simp only[ih]<;>rfl)
theorem e25(Kp:K_)(a:Int)(b:LB):x25 Kp a b=Kj (λf g=>Kp (t16 a b f g)) a b:=by funext f g k h;exact Eq.trans F2 ((i25 Kp a b f g Cg k h).trans (by rw[Am];rfl))
theorem i16(a:Int)(b:LB):∀(q:Nat) (f:Int) (g:LX),z16 q (t16 a b f g)=Dd a b q f g:=
 ind (λ_ _=>by kernel_rfl) λq ih f g=>Eq.trans (b:=Et (Hx (λf g=>(z16 q) (t16 a b f g)) a b) (x25 (z16 q) a b) NO a b f g) F2 (by simp only[e25,ih]<;>rfl)
def k:Kc P_ gl:=⟨(46,⟨H.p,H.r,u2 FF⟩),co H func46 (λx=>Eq.trans (b:=u2 (ER (λa b f g=>z16 Cg (t16 a b f g))) x) F2 (by simp only[i16,Am]<;>rfl))⟩
end F46
namespace F170
abbrev R_:=(UInt64×Int)
abbrev K_:=S->Option R_
def H:Hd:=⟨[Sq,Sb],[Sq,Si],(.seq .d (.seq .d (.cut [4,5] [] (.keep [0,1,4,5,9,10,11,12] true) .d))),kt [] false,[(208,(.seq .d (.cut [1] [] (.seq .d (.blk (.loop [0,1,9,10,11] [] .d))) .d))),(209,(.seq .d (.seq .d (.cut [1] [] (.seq .d (.blk (.loop [1,5] [] (.seq .d (.seq .d (.cut [1,5] [] (.blk (.seq .d (.seq .d (.cut [1,2,3,5] [] (.seq .d (.blk (.loop [1,2,3,5,11] [] .d))) .d)))) .d)))))) .d))))],f170⟩
def t27(a:LB)(b:UInt64)(f:LQ)(h:UInt64)(m:Int):S:=⟨[(0,.ptr 0 []),(1,vq h),(9,vb a),(10,vi (Ac a)),(11,vi m)],[.box 336 (.val (.vec 256 (.int .u64)) f)],[[(0,vq b),(1,vb a),(4,vq 0),(5,vi 0),(9,.ptr 0 []),(10,vq b),(11,vb a)]]⟩
def z27:Nat->S->Option R_:=H.i P_ [r,r,l,(call 3 208),r,l,r,d]
def t21(b:UInt64)(a:LB)(g:Int)(f:LQ)(k:UInt64)(n:Int):S:=⟨[(1,.ptr 0 []),(2,vi g),(3,vq k),(5,vi g),(11,vi n)],[.box 336 (.val (.vec 256 (.int .u64)) f)],[[(0,vq b),(1,vb a),(4,vq 0),(5,vi 0)]]⟩
def z21(Kp:K_):Nat->S->Option R_:=H.i P_ [r,r,l,(call 0 209),r,r,l,r,d,(lp Kp),r,r,l,d,r,r,l,r,d]
def t16(b:UInt64)(a:LB)(g:Int)(f:LQ):S:=⟨[(1,.ptr 0 []),(5,vi g)],[.box 336 (.val (.vec 256 (.int .u64)) f)],[[(0,vq b),(1,vb a),(4,vq 0),(5,vi 0)]]⟩
def z16:Nat->S->Option R_:=H.i P_ [r,r,l,(call 0 209),r,r,l,r,d]
def x27(a:LB)(b:UInt64)(f:LQ)(h:UInt64)(m:Int):Option R_:=H.e P_ [r,r,l,(call 3 208),r,l,r,d] (t27 a b f h m)
def x21(Kp:K_)(b:UInt64)(a:LB)(g:Int)(f:LQ)(k:UInt64)(n:Int):Option R_:=H.e P_ [r,r,l,(call 0 209),r,r,l,r,d,(lp Kp),r,r,l,d,r,r,l,r,d] (t21 b a g f k n)
theorem i27(a:LB)(b:UInt64)(f:LQ):∀(q:Nat) (h:UInt64) (m:Int),z27 q (t27 a b f h m)=Qg a b f q h m:=
 ind (λ_ _=>by kernel_rfl) λq ih h m=>Eq.trans (b:=BD LR (λh m=>(z27 q) (t27 a b f h m)) a b f h m) F2 (by simp only[ih]<;>rfl)
theorem e27:x27=KK:=by funext a b f h m;exact Eq.trans F2 ((i27 a b f Cg h m).trans (by rw[Am];rfl))
theorem i21(Kp:K_)(b:UInt64)(a:LB)(g:Int)(f:LQ):∀(q:Nat) (k:UInt64) (n:Int),z21 Kp q (t21 b a g f k n)=Qp (λg f=>Kp (t16 b a g f)) b a g f q k n:=
 ind (λ_ _=>by kernel_rfl) λq ih k n=>Eq.trans (b:=AB (AT (λg f=>Kp (t16 b a g f)) b a) (λk n=>(z21 Kp q) (t21 b a g f k n)) b a g f k n) F2 (by simp only[ih]<;>rfl)
theorem e21(Kp:K_)(b:UInt64)(a:LB):x21 Kp b a=MP (λg f=>Kp (t16 b a g f)) b a:=by funext g f k n;exact Eq.trans F2 ((i21 Kp b a g f Cg k n).trans (by rw[Am];rfl))
theorem i16(b:UInt64)(a:LB):∀(q:Nat) (g:Int) (f:LQ),z16 q (t16 b a g f)=Mq b a q g f:=
 ind (λ_ _=>by kernel_rfl) λq ih g f=>Eq.trans (b:=BE (x21 (z16 q) b a) (KA x27) b a g f) F2 (by simp only[e21,e27,ih]<;>rfl)
def k:Kc P_ gl:=⟨(170,⟨H.p,H.r,u2 UN⟩),co H func170 (λx=>Eq.trans (b:=u2 (OZ (λb a g f=>z16 Cg (t16 b a g f))) x) F2 (by simp only[i16,Am]<;>rfl))⟩
end F170
namespace F123
def H:Hd:=⟨[Sb],[Sq,Si],.d,kt [F170.k] false,[],f123⟩
def k:Kc P_ gl:=⟨(123,⟨H.p,H.r,QW⟩),co H func123⟩
end F123
namespace F124
abbrev R_:=LX
def H:Hd:=⟨[Sq],[.lf (.vec 16 (.int .i32)) none],(.seq .d (.seq .d (.cut [2,3] [] (.seq .d (.blk (.loop [0,2,3,5] [] .d))) .d))),kt [] false,[],f124⟩
def t4(f:UInt64)(a:Int)(b:LX):S:=⟨[(0,vq f),(2,.ptr 0 []),(3,.ptr 1 []),(5,vi a)],[.box 132 (.val (.vec 16 (.int .i32)) (List.replicate 16 (0:Int32))),.box 132 (.val (.vec 16 (.int .i32)) b)],[]⟩
def z4:Nat->S->Option R_:=H.i P_ [r,r,l,r,d]
theorem i4(f:UInt64):∀(q:Nat) (a:Int) (b:LX),z4 q (t4 f a b)=ES f q a b:=
 ind (λ_ _=>by kernel_rfl) λq ih a b=>Eq.trans (b:=VK rG (λa b=>(z4 q) (t4 f a b)) f a b) F2 (by simp only[ih]<;>rfl)
def k:Kc P_ gl:=⟨(124,⟨H.p,H.r,yI⟩),co H func124 (λx=>Eq.trans (b:=tO (λf a b=>z4 Cg (t4 f a b)) x) F2 (by simp only[i4,Am]<;>rfl))⟩
end F124
namespace F82
def H:Hd:=⟨[Ss],[.lf (.vec 16 (.int .i32)) none,Si],.d,kt [F123.k,F124.k] false,[],f82⟩
def k:Kc P_ gl:=⟨(82,⟨H.p,H.r,SK⟩),co H func82⟩
end F82
namespace F171
def H:Hd:=⟨[.agg [Si,Si],Sw],[Si],.d,kt [F80.k,F107.k] false,[],f171⟩
def k:Kc P_ gl:=⟨(171,⟨H.p,H.r,u3 FD⟩),co H func171⟩
end F171
namespace F210
def H:Hd:=⟨[Si,Sw],[Si],.d,kt [] false,[],f210⟩
def k:Kc P_ gl:=⟨(210,⟨H.p,H.r,u2 RT⟩),co H func210⟩
end F210
namespace F172
abbrev R_:=(LX×Int)
abbrev K_:=S->Option R_
def H:Hd:=⟨[Si,Sw],[Ow 21,Si],(.seq .d (.seq .d (.seq .d (.cut [7] [] (.seq .d (.blk (.loop [0,7,8] [] (.seq .d (.cut [0,7,8] [] (.blk (.keep [0,7,8,24,25,26,27,28,29] true)) .d))))) .d)))),kt [F122.k,F210.k] true,[(211,(.seq .d (.cut [0,2] [] (.seq .d (.blk (.loop [0,2,7,8] [] .d))) .d)))],f172⟩
def t17(b a f:Int)(g:LX):S:=⟨[(0,.view true 0 [] (.int .i32) a ((Ae a b)-a)),(2,vi (Ag ((Ae a b)-a) (1:Int))),(7,vi (Ag ((Ae a b)-a) (1:Int))),(8,vi f)],[Aw 21 g],[[(0,vi b),(7,.own 0),(8,vi a),(24,.own 0),(25,vi a),(26,vi a),(27,vi b),(28,vi (Ae a b)),(29,.view true 0 [] (.int .i32) a ((Ae a b)-a))]]⟩
def z17(oT:K_):Nat->S->Option R_:=H.i P_ [r,r,r,l,r,d,(lp oT),r,l,d,(call 6 211),r,l,r,d]
def t12(b a:Int)(h:LX):S:=⟨[(0,vi b),(7,.own 0),(8,vi a)],[Aw 21 h],[]⟩
def z12:Nat->S->Option R_:=H.i P_ [r,r,r,l,r,d]
def x17(oT:K_)(b a f:Int)(g:LX):Option R_:=H.e P_ [r,r,r,l,r,d,(lp oT),r,l,d,(call 6 211),r,l,r,d] (t17 b a f g)
theorem i17(oT:K_)(b a:Int):∀(q:Nat) (f:Int) (g:LX),z17 oT q (t17 b a f g)=Zo (λa h=>oT (t12 b a h)) b a q f g:=
 ind (λ_ _=>by kernel_rfl) λq ih f g=>Eq.trans (b:=NA (YB (λa h=>oT (t12 b a h)) b) (λf g=>(z17 oT q) (t17 b a f g)) b a f g) F2 (by simp only[ih]<;>rfl)
theorem e17(oT:K_)(b:Int):x17 oT b=mX (λa h=>oT (t12 b a h)) b:=by funext a f g;exact Eq.trans F2 ((i17 oT b a Cg f g).trans (by rw[Am];rfl))
theorem i12(b:Int):∀(q:Nat) (a:Int) (h:LX),z12 q (t12 b a h)=Zu b q a h:=
 ind (λ_ _=>by kernel_rfl) λq ih a h=>Eq.trans (b:=YG (x17 (z12 q) b) mM b a h) F2 (by simp only[e17,ih]<;>rfl)
def k:Kc P_ gl:=⟨(172,⟨H.p,H.r,u2 pP⟩),co H func172 (λx=>Eq.trans (b:=u2 (fM (λb a h=>z12 Cg (t12 b a h))) x) F2 (by simp only[i12,Am]<;>rfl))⟩
end F172
namespace F212
abbrev R_:=(Int×LX×LX×Int)
def H:Hd:=⟨[Si,.lf (.vec 16 (.int .i32)) none],[.agg [Si,.lf (.vec 16 (.int .i32)) none,.lf (.vec 16 (.int .i32)) none],Si],(.seq .d (.seq .d (.seq (.seq .d (.blk (.cut [4,6,9,11] [] .d .d))) .d))),kt [] false,[],f212⟩
def k:Kc P_ gl:=⟨(212,⟨H.p,H.r,u2 jE⟩),co H func212⟩
end F212
namespace F173
def H:Hd:=⟨[Si,.lf (.vec 16 (.int .i32)) none],[.agg [Si,Sx,.agg [Si,.lf (.vec 16 (.int .i32)) none,.lf (.vec 16 (.int .i32)) none]],Si],.d,kt [F212.k] false,[],f173⟩
def k:Kc P_ gl:=⟨(173,⟨H.p,H.r,u2 mG⟩),co H func173⟩
end F173
namespace F213
def H:Hd:=⟨[.agg [Si,Sx,.agg [Si,.lf (.vec 16 (.int .i32)) none,.lf (.vec 16 (.int .i32)) none]]],[Si],.d,kt [F212.k] false,[],f213⟩
def k:Kc P_ gl:=⟨(213,⟨H.p,H.r,u5 Zf⟩),co H func213⟩
end F213
namespace F240
def H:Hd:=⟨[Si],[Si,Si],.d,kt [] false,[],f240⟩
def k:Kc P_ gl:=⟨(240,⟨H.p,H.r,ZN⟩),co H func240⟩
end F240
namespace F241
def H:Hd:=⟨[Si,Sx],[Sx],.d,kt [] false,[],f241⟩
def k:Kc P_ gl:=⟨(241,⟨H.p,H.r,u2 NB⟩),co H func241⟩
end F241
namespace F214
def H:Hd:=⟨[Si,Sx],[Sx,Si],.d,kt [F240.k,F241.k] false,[],f214⟩
def k:Kc P_ gl:=⟨(214,⟨H.p,H.r,u2 Zh⟩),co H func214⟩
end F214
namespace F265
def H:Hd:=⟨[.agg [Si,.lf (.vec 16 (.int .i32)) none,.lf (.vec 16 (.int .i32)) none]],[Si],.d,kt [] false,[],f265⟩
def k:Kc P_ gl:=⟨(265,⟨H.p,H.r,u3 EP⟩),co H func265⟩
end F265
namespace F242
abbrev R_:=(Int32×Int)
def H:Hd:=⟨[.agg [Si,.lf (.vec 16 (.int .i32)) none,.lf (.vec 16 (.int .i32)) none]],[Sx,Si],(.seq .d (.seq .d (.seq .d (.cut [1,5] [] (.seq .d (.blk (.loop [1,5,18,19] [] .d))) .d)))),kt [F265.k] false,[],f242⟩
def t4(b:LX)(a:Int)(f:LX)(h:Int32)(g:Int):S:=⟨[(1,.ptr 0 []),(5,vx h),(18,.val (.vec 16 (.int .i32)) b),(19,vi g)],[.box 257 (.agg [vi a,.val (.vec 16 (.int .i32)) b,.val (.vec 16 (.int .i32)) f])],[]⟩
def z4:Nat->S->Option R_:=H.i P_ [r,r,r,l,r,d]
theorem i4(b:LX)(a:Int)(f:LX):∀(q:Nat) (h:Int32) (g:Int),z4 q (t4 b a f h g)=Tj b a f q h g:=
 ind (λ_ _=>by kernel_rfl) λq ih h g=>Eq.trans (b:=FH OO (λh g=>(z4 q) (t4 b a f h g)) b a f h g) F2 (by simp only[ih]<;>rfl)
def k:Kc P_ gl:=⟨(242,⟨H.p,H.r,u3 LK⟩),co H func242 (λx=>Eq.trans (b:=u3 (OM (λb a f h g=>z4 Cg (t4 b a f h g))) x) F2 (by simp only[i4,Am]<;>rfl))⟩
end F242
namespace F293
def H:Hd:=⟨[Si],[Sx],.d,kt [] false,[],f293⟩
def k:Kc P_ gl:=⟨(293,⟨H.p,H.r,QL⟩),co H func293⟩
end F293
namespace F266
abbrev R_:=(Int×LX×LX×Int)
def H:Hd:=⟨[.agg [Si,.lf (.vec 16 (.int .i32)) none,.lf (.vec 16 (.int .i32)) none],Sx],[.agg [Si,.lf (.vec 16 (.int .i32)) none,.lf (.vec 16 (.int .i32)) none],Si],(.seq .d (.seq .d (.seq .d (.cut [2,4] [] (.seq .d (.blk (.loop [1,2,4,19,20] [] .d))) .d)))),kt [F265.k,F293.k] false,[],f266⟩
def t4(h:Int32)(f:LX)(g a:Int)(b:LX):S:=⟨[(1,vx h),(2,.ptr 0 []),(4,.ptr 1 []),(19,.val (.vec 16 (.int .i32)) f),(20,vi a)],[.box 257 (.agg [vi g,.val (.vec 16 (.int .i32)) b,.val (.vec 16 (.int .i32)) f]),.box 257 (.agg [vi 0,.val (.vec 16 (.int .i32)) (List.replicate 16 (0:Int32)),.val (.vec 16 (.int .i32)) (List.replicate 16 (0:Int32))])],[]⟩
def z4:Nat->S->Option R_:=H.i P_ [r,r,r,l,r,d]
theorem i4(h:Int32)(f:LX)(g:Int):∀(q:Nat) (a:Int) (b:LX),z4 q (t4 h f g a b)=Th h f g q a b:=
 ind (λ_ _=>by kernel_rfl) λq ih a b=>Eq.trans (b:=FI eF (λa b=>(z4 q) (t4 h f g a b)) h f g a b) F2 (by simp only[ih]<;>rfl)
def k:Kc P_ gl:=⟨(266,⟨H.p,H.r,u4 VL⟩),co H func266 (λx=>Eq.trans (b:=u4 (OX (λh f g a b=>z4 Cg (t4 h f g a b))) x) F2 (by simp only[i4,Am]<;>rfl))⟩
end F266
namespace F267
def OG(j2:Int32->Int->LX->LX->Option (Int×LX×LX×Int))(b:Int)(f a:LX)(g:Int32):Option (Int×LX×LX×Int):=
(EP b f a).bind λh=>
if(Br h 0)then
some (0,(List.replicate 16 (0:Int32)),(List.replicate 16 (0:Int32)),h)
else
both (
(pD 16 1 16).bind λ_=>
(pD 16 0 16).bind λ_=>
j2 g b f a) [
(pD 16 0 16).bind λ_=>
(pD 16 1 16).bind λ_=>
j2 g b f a]
theorem mC: @OG= @JK:=by
  unfold OG JK
  repeat (refine funext λ_=>?_)
  repeat' first
    |with_reducible rfl
    |with_reducible refine Qs ?_ ?_
    |with_reducible refine Pv ?_ ?_ ?_
    |with_reducible refine Qw ?_ ?_ ?_ ?_
    |((with_reducible refine Vy ?_ ?_);focus (intro h;first|(subst h;rfl)|(simp only[h];rfl)|(simp[Bx,Ac,h];done)))
    |with_reducible refine Vp λx=>?_
    |with_reducible refine EK (λ_=>?_) (λ_=>?_)
    |(refine Iy (λh=>by simp only[h,Vv,Gj,Fq,ite_self]) (λx h=>?_);(try simp only[h,Gj]))
    |(refine Me (λh=>?_) (λh=>?_)<;>simp only[h,if_true,if_false,Bool.false_eq_true])
abbrev R_:=(Int×LX×LX×Int)
def H:Hd:=⟨[.agg [Si,.lf (.vec 16 (.int .i32)) none,.lf (.vec 16 (.int .i32)) none],Sx],[.agg [Si,.lf (.vec 16 (.int .i32)) none,.lf (.vec 16 (.int .i32)) none],Si],(.seq .d (.seq .d (.cut [1,2,4] [] .d .d))),kt [F265.k] false,[],f267⟩
def k:Kc P_ gl:=⟨(267,⟨H.p,H.r,u4 cD⟩),co H func267 (λx=>Eq.trans (b:=u4 (OG UG) x) F2 (by simp only[mC]<;>rfl))⟩
end F267
namespace F243
def H:Hd:=⟨[.agg [Si,.lf (.vec 16 (.int .i32)) none,.lf (.vec 16 (.int .i32)) none],Sx,Sx],[.agg [Si,.lf (.vec 16 (.int .i32)) none,.lf (.vec 16 (.int .i32)) none]],.d,kt [F266.k,F267.k] false,[],f243⟩
def k:Kc P_ gl:=⟨(243,⟨H.p,H.r,u5 TF⟩),co H func243⟩
end F243
namespace F215
def H:Hd:=⟨[.agg [Si,.lf (.vec 16 (.int .i32)) none,.lf (.vec 16 (.int .i32)) none],Sx],[Sx,.agg [Si,.lf (.vec 16 (.int .i32)) none,.lf (.vec 16 (.int .i32)) none],Si],.d,kt [F242.k,F243.k] false,[],f215⟩
def k:Kc P_ gl:=⟨(215,⟨H.p,H.r,u4 OE⟩),co H func215⟩
end F215
namespace F174
def CP(a:Int)(b:Int32)(f:Int)(g h:LX)(k:Int32):Option (Int32×Int×Int32×Int×LX×LX×Int):=
(Zf a b f g h).bind λm=>
if(Br m 0)then
some (0,0,0,0,(List.replicate 16 (0:Int32)),(List.replicate 16 (0:Int32)),m)
else
(Zh a b).bind λ(n,y)=>
(OE f g h (Ag k n)).bind λ(o,p,u,v,w)=>
bo (
some (o,a,k,p,u,v,w))
theorem aR: @CP= @Tg:=by
  unfold CP Tg;simp only[bH,JT,ME]
def H:Hd:=⟨[.agg [Si,Sx,.agg [Si,.lf (.vec 16 (.int .i32)) none,.lf (.vec 16 (.int .i32)) none]],Sx],[Sx,.agg [Si,Sx,.agg [Si,.lf (.vec 16 (.int .i32)) none,.lf (.vec 16 (.int .i32)) none]],Si],(.seq .d (.seq .d (.seq .d (.seq .d (.seq (.mode false) .d))))),kt [F213.k,F214.k,F215.k] false,[],f174⟩
def k:Kc P_ gl:=⟨(174,⟨H.p,H.r,u6 Tg⟩),co H func174 (λx=>Eq.trans (b:=u6 CP x) F2 (by simp only[aR]<;>rfl))⟩
end F174
namespace F175
def H:Hd:=⟨[Sx],[Su],.d,kt [] false,[],f175⟩
def k:Kc P_ gl:=⟨(175,⟨H.p,H.r,bR⟩),co H func175⟩
end F175
namespace F125
abbrev R_:=(LU×Int)
def H:Hd:=⟨[.agg [Si,Si],.lf (.vec 16 (.int .i32)) none,Sw],[Ov 201,Si],(.seq .d (.seq .d (.seq .d (.seq .d (.seq .d (.cut [3,9,11] [] (.seq .d (.blk (.loop [3,4,9,11,36] [] .d))) (.seq .d (.cut [13] [] (.seq .d (.blk (.loop [3,11,13,49,50,51] [⟨13,[],.own 201 (.int .u32)⟩] .d))) .d)))))))),kt [F171.k,F172.k,F173.k,F174.k,F175.k] false,[],f125⟩
def t10(b:LX)(a f g:Int)(k:List (Int×Int32×(Int×LX×LX×Unit)×Unit))(h:LU):S:=⟨[(3,.ptr 0 []),(11,.ptr 1 []),(13,.own 2),(49,.own 3),(50,vi (Ac b)),(51,vi g)],[.box 23 (.agg [vi a,vi f]),.box 260 (.val (.vec 6 (.cons (.int .i64) (.cons (.int .i32) (.cons (.cons (.int .i64) (.cons (.vec 16 (.int .i32)) (.cons (.vec 16 (.int .i32)) .nil))) .nil)))) k),Av 201 h,Aw 21 b],[]⟩
def z10:Nat->S->Option R_:=H.i P_ [r,r,r,r,r,r,r,l,r,d]
def t7(a f:Int)(n b:LX)(o:Int)(m:List (Int×Int32×(Int×LX×LX×Unit)×Unit)):S:=⟨[(3,.ptr 0 []),(4,.ptr 1 []),(9,.own 2),(11,.ptr 3 []),(36,vi o)],[.box 23 (.agg [vi a,vi f]),.box 132 (.val (.vec 16 (.int .i32)) n),Aw 21 b,.box 260 (.val (.vec 6 (.cons (.int .i64) (.cons (.int .i32) (.cons (.cons (.int .i64) (.cons (.vec 16 (.int .i32)) (.cons (.vec 16 (.int .i32)) .nil))) .nil)))) m)],[]⟩
def z7:Nat->S->Option R_:=H.i P_ [r,r,r,r,r,l,r,d]
def x10(b:LX)(a f g:Int)(k:List (Int×Int32×(Int×LX×LX×Unit)×Unit))(h:LU):Option R_:=H.e P_ [r,r,r,r,r,r,r,l,r,d] (t10 b a f g k h)
theorem i10(b:LX)(a f:Int):∀(q:Nat) (g:Int) (k:List (Int×Int32×(Int×LX×LX×Unit)×Unit)) (h:LU),z10 q (t10 b a f g k h)=Je b a f q g k h:=
 ind (λ_ _ _=>by kernel_rfl) λq ih g k h=>Eq.trans (b:=Sn MV (λg k h=>(z10 q) (t10 b a f g k h)) b a f g k h) F2 (by simp only[ih]<;>rfl)
theorem e10:x10=KE:=by funext b a f g k h;exact Eq.trans F2 ((i10 b a f Cg g k h).trans (by rw[Am];rfl))
theorem i7(a f:Int)(n b:LX):∀(q:Nat) (o:Int) (m:List (Int×Int32×(Int×LX×LX×Unit)×Unit)),z7 q (t7 a f n b o m)=BF a f n b q o m:=
 ind (λ_ _=>by kernel_rfl) λq ih o m=>Eq.trans (b:=NC (MY x10) (λo m=>(z7 q) (t7 a f n b o m)) a f n b o m) F2 (by simp only[e10,ih]<;>rfl)
def k:Kc P_ gl:=⟨(125,⟨H.p,H.r,u4 AV⟩),co H func125 (λx=>Eq.trans (b:=u4 (AW (λa f n b o m=>z7 Cg (t7 a f n b o m))) x) F2 (by simp only[i7,Am]<;>rfl))⟩
end F125
namespace F176
def H:Hd:=⟨[],[.agg [Si,Si,Sq,Sq]],.d,kt [] false,[],f176⟩
def k:Kc P_ gl:=⟨(176,⟨H.p,H.r,λ_=>gU⟩),co H func176⟩
end F176
namespace F126
abbrev R_:=((List (Int×Int×UInt64×UInt64×Unit)))
def H:Hd:=⟨[],[.lf (.vec 6 (.cons (.int .i64) (.cons (.int .i64) (.cons (.int .u64) (.cons (.int .u64) .nil))))) none],(.seq .d (.seq .d (.cut [0,1] [] (.seq .d (.blk (.loop [0,1,3] [] .d))) .d))),kt [F176.k] false,[],f126⟩
def t4(b:Int)(a:List (Int×Int×UInt64×UInt64×Unit)):S:=⟨[(0,.ptr 0 []),(1,.ptr 1 []),(3,vi b)],[.box 197 (.val (.vec 6 (.cons (.int .i64) (.cons (.int .i64) (.cons (.int .u64) (.cons (.int .u64) .nil))))) (List.replicate 6 ((0:Int),(0:Int),(0:UInt64),(0:UInt64),()))),.box 197 (.val (.vec 6 (.cons (.int .i64) (.cons (.int .i64) (.cons (.int .u64) (.cons (.int .u64) .nil))))) a)],[]⟩
def z4:Nat->S->Option R_:=H.i P_ [r,r,l,r,d]
theorem i4:∀(q:Nat) (b:Int) (a:List (Int×Int×UInt64×UInt64×Unit)),z4 q (t4 b a)=Zx q b a:=
 ind (λ_ _=>by kernel_rfl) λq ih b a=>Eq.trans (b:=OA NW (λb a=>(z4 q) (t4 b a)) b a) F2 (by simp only[ih]<;>rfl)
def k:Kc P_ gl:=⟨(126,⟨H.p,H.r,λ_=>BS⟩),co H func126 (λx=>Eq.trans (b:=AR (λb a=>z4 Cg (t4 b a))) F2 (by simp only[i4,Am]<;>rfl))⟩
end F126
namespace F177
def H:Hd:=⟨[.agg [Sb,Si]],[Si],.d,kt [] false,[],f177⟩
def k:Kc P_ gl:=⟨(177,⟨H.p,H.r,u2 Jh⟩),co H func177⟩
end F177
namespace F178
def KQ(j4:Int->Int->UInt64->UInt64->Option Int)(a b:Int)(f g:UInt64):Option Int:=
both (
bo (
j4 a b f g)) [
j4 a b f g]
theorem iP: @KQ= @FC:=by
  unfold KQ FC
  repeat (refine funext λ_=>?_)
  repeat' first
    |with_reducible rfl
    |with_reducible refine Qs ?_ ?_
    |with_reducible refine Pv ?_ ?_ ?_
    |with_reducible refine Qw ?_ ?_ ?_ ?_
    |((with_reducible refine Vy ?_ ?_);focus (intro h;first|(subst h;rfl)|(simp only[h];rfl)|(simp[Bx,Ac,h];done)))
    |with_reducible refine Vp λx=>?_
    |with_reducible refine EK (λ_=>?_) (λ_=>?_)
    |(refine Iy (λh=>by simp only[h,Vv,Gj,Fq,ite_self]) (λx h=>?_);(try simp only[h,Gj]))
    |(refine Me (λh=>?_) (λh=>?_)<;>simp only[h,if_true,if_false,Bool.false_eq_true])
def JU(j3:Int->Int->UInt64->UInt64->Option Int)(a b:Int)(f g:UInt64):Option Int:=
both (
bo (
j3 a b f g)) [
j3 a b f g]
theorem iY: @JU= @FL:=by
  unfold JU FL
  repeat (refine funext λ_=>?_)
  repeat' first
    |with_reducible rfl
    |with_reducible refine Qs ?_ ?_
    |with_reducible refine Pv ?_ ?_ ?_
    |with_reducible refine Qw ?_ ?_ ?_ ?_
    |((with_reducible refine Vy ?_ ?_);focus (intro h;first|(subst h;rfl)|(simp only[h];rfl)|(simp[Bx,Ac,h];done)))
    |with_reducible refine Vp λx=>?_
    |with_reducible refine EK (λ_=>?_) (λ_=>?_)
    |(refine Iy (λh=>by simp only[h,Vv,Gj,Fq,ite_self]) (λx h=>?_);(try simp only[h,Gj]))
    |(refine Me (λh=>?_) (λh=>?_)<;>simp only[h,if_true,if_false,Bool.false_eq_true])
abbrev R_:=Int
def H:Hd:=⟨[.agg [Si,Si,Sq,Sq]],[Si],(.seq .d (.seq .d (.cut [1,3] [] (.mode false) (.cut [1,3] [] (.mode false) .d)))),kt [] false,[],f178⟩
def x3(a b:Int)(f g:UInt64):Option R_:=H.e P_ [r,r,r] ⟨[(1,.ptr 0 []),(3,.ptr 1 [])],[.box 196 (.agg [vi a,vi b,vq f,vq g]),.box 196 (.agg [vi (Jf (iQ a (0:Int)) (24:Int)),vi (Jf (iQ b (0:Int)) (24:Int)),vq f,vq g])],[]⟩
theorem e3:x3=PD:=Eq.trans (b:=KQ OI) F2 (by rw[iP];rfl)
def k:Kc P_ gl:=⟨(178,⟨H.p,H.r,u4 MC⟩),co H func178 (λx=>Eq.trans (b:=u4 (JU x3) x) F2 (by rw[iY];simp only[e3]<;>rfl))⟩
end F178
namespace F179
def H:Hd:=⟨[.agg [Si,Si,Sq,Sq],Su],[Si,Su],.d,kt [] false,[],f179⟩
def k:Kc P_ gl:=⟨(179,⟨H.p,H.r,u5 EU⟩),co H func179⟩
end F179
namespace F216
def H:Hd:=⟨[.agg [Sb,Si]],[.agg [Ob 5,Si]],.d,kt [F75.k] false,[],f216⟩
def k:Kc P_ gl:=⟨(216,⟨H.p,H.r,u2 QS⟩),co H func216⟩
end F216
namespace F180
abbrev R_:=(LB×Int×Int)
abbrev K_:=S->Option R_
def H:Hd:=⟨[.agg [Sb,Si],Sq,Si],[.agg [Ob 5,Si],Si],(.seq .d (.seq .d (.seq .d (.cut [3,6] [] (.keep [1,2,3,6,40,41] true) .d)))),kt [F177.k,F216.k] false,[(217,(.blk (.loop [0,1,2] [] (.seq .d (.blk (.cut [0,1,2] [] .d (.seq .d (.cut [0,1,2,7] [] .d .d))))))))],f180⟩
def t15(b:UInt64)(a:Int)(m:UInt64)(h f:Int)(o:LB):S:=⟨[(0,.ptr 0 []),(1,vq m),(2,vi h)],[.box 200 (.agg [.own 2,vi f]),.box 200 (.agg [.nils,vi 0]),Ab 5 o],[[(1,vq b),(2,vi a),(3,.ptr 0 []),(6,.ptr 1 []),(40,vq b),(41,vi a)]]⟩
def z15:Nat->S->Option R_:=H.i P_ [r,r,r,l,(call 2 217),d]
def t22(b:UInt64)(a:Int)(n:UInt64)(k g:Int)(p:LB):S:=⟨[(0,.ptr 0 []),(1,vq n),(2,vi k)],[.box 200 (.agg [.own 2,vi g]),.box 200 (.agg [.nils,vi 0]),Ab 5 p],[[(1,vq b),(2,vi a),(3,.ptr 0 []),(6,.ptr 1 []),(40,vq b),(41,vi a)]]⟩
def z22:Nat->S->Option R_:=H.i P_ [r,r,r,l,(call 2 217),d]
theorem i15(b:UInt64)(a:Int):∀(q:Nat) (m:UInt64) (h f:Int) (o:LB),z15 q (t15 b a m h f o)=Nu b a q m h f o:=
 ind (λ_ _ _ _=>by kernel_rfl) λq ih m h f o=>Eq.trans (b:=JJ (JI (λm h f o=>(z15 q) (t15 b a m h f o)) b a) TL b a m h f o) F2 (by simp only[ih]<;>rfl)
theorem i22(b:UInt64)(a:Int):∀(q:Nat) (n:UInt64) (k g:Int) (p:LB),z22 q (t22 b a n k g p)=TW b a q n k g p:=
 ind (λ_ _ _ _=>by kernel_rfl) λq ih n k g p=>Eq.trans (b:=hD (iZ (λn k g p=>(z22 q) (t22 b a n k g p)) b a) jS b a n k g p) F2 (by simp only[ih]<;>rfl)
def k:Kc P_ gl:=⟨(180,⟨H.p,H.r,u4 LZ⟩),co H func180 (λx=>Eq.trans (b:=u4 (YN (λb a m h f o=>z15 Cg (t15 b a m h f o)) (λb a n k g p=>z22 Cg (t22 b a n k g p))) x) F2 (by simp only[i15,i22,Am]<;>rfl))⟩
end F180
namespace F218
def H:Hd:=⟨[Su,Si],[Sz],.d,kt [] false,[],f218⟩
def k:Kc P_ gl:=⟨(218,⟨H.p,H.r,u2 CR⟩),co H func218⟩
end F218
namespace F244
def H:Hd:=⟨[Si],[Si,Si],.d,kt [] false,[],f244⟩
def k:Kc P_ gl:=⟨(244,⟨H.p,H.r,UQ⟩),co H func244⟩
end F244
namespace F219
def H:Hd:=⟨[.agg [Sb,Si],Si],[.agg [Ob 5,Si],Si],.d,kt [F177.k,F180.k,F244.k] false,[],f219⟩
def k:Kc P_ gl:=⟨(219,⟨H.p,H.r,u3 NV⟩),co H func219⟩
end F219
namespace F181
abbrev R_:=(LB×Int×Int)
def H:Hd:=⟨[.agg [Sb,Si],Su,Si],[.agg [Ob 5,Si],Si],(.seq .d (.seq .d (.seq .d (.seq .d (.cut [3,6,9,10,11] [] .d .d))))),kt [F177.k,F180.k,F218.k,F219.k] false,[],f181⟩
def k:Kc P_ gl:=⟨(181,⟨H.p,H.r,u4 UA⟩),co H func181⟩
end F181
namespace F127
def IB(k u n:Int)(a:UInt64)(b:UInt32)(o:UInt64)(m:LB):Option (LB×Int×Int×Int×UInt64×UInt64×Int):=
(λaf:Option (LB×Int×Int×Int×UInt64×UInt64×Int)=>
both (
bo (
af)) [
af]) (
some (m,k,u,n,(Ae a (Ag (Ad b:UInt64) (Bu a (GI.toZ (4:UInt64)).toNat))),o,0))
theorem fR: @IB= @CX:=by
  unfold IB CX
  try simp only[bH,JT,ME]
  all_goals
    repeat (refine funext λ_=>?_)
    repeat' first
      |with_reducible rfl
      |with_reducible refine Qs ?_ ?_
      |with_reducible refine Pv ?_ ?_ ?_
      |with_reducible refine Qw ?_ ?_ ?_ ?_
      |((with_reducible refine Vy ?_ ?_);focus (intro h;first|(subst h;rfl)|(simp only[h];rfl)|(simp[Bx,Ac,h];done)))
      |with_reducible refine Vp λx=>?_
      |with_reducible refine EK (λ_=>?_) (λ_=>?_)
      |(refine Iy (λh=>by simp only[h,Vv,Gj,Fq,ite_self]) (λx h=>?_);(try simp only[h,Gj]))
      |(refine Me (λh=>?_) (λh=>?_)<;>simp only[h,if_true,if_false,Bool.false_eq_true])
abbrev R_:=(LB×Int×Int×Int×UInt64×UInt64×Int)
def H:Hd:=⟨[.agg [Sb,Si],.agg [Si,Si,Sq,Sq],Su],[.agg [Ob 5,Si],.agg [Si,Si,Sq,Sq],Si],(.seq .d (.cut [2,3,4,6,7] [] .d (.seq .d (.seq .d (.cut [2,3,4,6,7,11] [] .d (.seq .d (.cut [3,4,6,7] [] (.keep [2,3,4,6,7,65] true) (.seq (.mode false) .d)))))))),kt [F177.k,F178.k,F179.k,F180.k,F181.k] false,[(182,(.seq .d (.seq .d (.seq .d (.blk (.cut [0,1,4] [] (.blk (.seq .d (.keep [0,1,4,6,18,19,20,21,22,23,24,25] true))) (.cut [] [] (.keep [0,1,4,27,28,29,30,31,32,33,34] true) .d))))))),(220,.d)],f127⟩
def x10(k u n:Int)(a:UInt64)(b:UInt32)(o:UInt64)(m:LB):Option R_:=H.e P_ [r,r,r,r,r,r,r] ⟨[(3,.ptr 0 []),(4,.ptr 1 []),(6,.ptr 2 []),(7,.ptr 3 [])],[.box 200 (.agg [.own 4,vi k]),.box 196 (.agg [vi u,vi n,vq (Ae a (Ag (Ad b:UInt64) (Bu a (GI.toZ (4:UInt64)).toNat))),vq o]),.box 200 (.agg [.nils,vi 0]),.box 196 (.agg [vi 0,vi 0,vq 0,vq 0]),Ab 5 m],[]⟩
def x8(b:UInt32)(f:Int)(a:UInt64)(k:Int)(m:LB)(n:Int)(o:UInt64):Option R_:=H.e P_ [r,r,r,r,r,r,l,(call 1 182),r,r,r,d,r] ⟨[(0,.ptr 0 []),(1,vu b),(4,.fn 220 [])],[.box 196 (.agg [vi f,vi n,vq a,vq o]),.box 200 (.agg [.own 4,vi k]),.box 200 (.agg [.nils,vi 0]),.box 196 (.agg [vi 0,vi 0,vq 0,vq 0]),Ab 5 m],[[(2,vu b),(3,.ptr 1 []),(4,.ptr 0 []),(6,.ptr 2 []),(7,.ptr 3 []),(65,vu b)]]⟩
theorem e10:x10=MQ:=Eq.trans (b:=IB) F2 (by rw[fR];rfl)
theorem e8:x8=Xf:=Eq.trans (b:=OK (OS x10)) F2 (by simp only[e10]<;>rfl)
def k:Kc P_ gl:=⟨(127,⟨H.p,H.r,u7 TU⟩),co H func127 (λx=>Eq.trans (b:=u7 (PJ (PC (OJ x8))) x) F2 (by simp only[e8]<;>rfl))⟩
end F127
namespace F183
abbrev R_:=(UInt32×Int)
abbrev K_:=S->Option R_
def H:Hd:=⟨[Su,Sb],[Su,Si],(.seq .d (.seq .d (.cut [0,1,6] [] (.keep [0,1,6,12] true) (.cut [0] [] (.seq .d (.blk (.loop [0,6,13,14,15] [] .d))) .d)))),kt [] false,[(221,(.seq .d (.seq .d (.cut [1] [] (.seq .d (.blk (.loop [1,5] [] (.seq .d (.seq .d (.cut [1,5] [] (.blk (.seq .d (.seq .d (.cut [1,2,3,5] [] (.seq .d (.blk (.loop [1,2,3,5,10] [] .d))) .d)))) .d)))))) .d))))],f183⟩
def t28(a:LB)(b:LU)(h:UInt32)(m:Int):S:=⟨[(0,vu h),(6,.ptr 0 []),(13,vb a),(14,vi (Ac a)),(15,vi m)],[.box 340 (.val (.vec 256 (.int .u32)) b)],[]⟩
def z28:Nat->S->Option R_:=H.i P_ [r,r,r,l,r,d]
def t21(f:UInt32)(a:LB)(g:Int)(b:LU)(k:UInt32)(n:Int):S:=⟨[(1,.ptr 0 []),(2,vi g),(3,vu k),(5,vi g),(10,vi n)],[.box 340 (.val (.vec 256 (.int .u32)) b)],[[(0,vu f),(1,vb a)]]⟩
def z21(Kp:K_):Nat->S->Option R_:=H.i P_ [r,r,l,(call 0 221),r,r,l,r,d,(lp Kp),r,r,l,d,r,r,l,r,d]
def t16(f:UInt32)(a:LB)(g:Int)(b:LU):S:=⟨[(1,.ptr 0 []),(5,vi g)],[.box 340 (.val (.vec 256 (.int .u32)) b)],[[(0,vu f),(1,vb a)]]⟩
def z16:Nat->S->Option R_:=H.i P_ [r,r,l,(call 0 221),r,r,l,r,d]
def x28(a:LB)(b:LU)(h:UInt32)(m:Int):Option R_:=H.e P_ [r,r,r,l,r,d] (t28 a b h m)
def x21(Kp:K_)(f:UInt32)(a:LB)(g:Int)(b:LU)(k:UInt32)(n:Int):Option R_:=H.e P_ [r,r,l,(call 0 221),r,r,l,r,d,(lp Kp),r,r,l,d,r,r,l,r,d] (t21 f a g b k n)
theorem i28(a:LB)(b:LU):∀(q:Nat) (h:UInt32) (m:Int),z28 q (t28 a b h m)=Qi a b q h m:=
 ind (λ_ _=>by kernel_rfl) λq ih h m=>Eq.trans (b:=CH KM (λh m=>(z28 q) (t28 a b h m)) a b h m) F2 (by simp only[ih]<;>rfl)
theorem e28:x28=LD:=by funext a b h m;exact Eq.trans F2 ((i28 a b Cg h m).trans (by rw[Am];rfl))
theorem i21(Kp:K_)(f:UInt32)(a:LB)(g:Int)(b:LU):∀(q:Nat) (k:UInt32) (n:Int),z21 Kp q (t21 f a g b k n)=Pz (λg b=>Kp (t16 f a g b)) f a g b q k n:=
 ind (λ_ _=>by kernel_rfl) λq ih k n=>Eq.trans (b:=AS (BB (λg b=>Kp (t16 f a g b)) f a) (λk n=>(z21 Kp q) (t21 f a g b k n)) f a g b k n) F2 (by simp only[ih]<;>rfl)
theorem e21(Kp:K_)(f:UInt32)(a:LB):x21 Kp f a=JY (λg b=>Kp (t16 f a g b)) f a:=by funext g b k n;exact Eq.trans F2 ((i21 Kp f a g b Cg k n).trans (by rw[Am];rfl))
theorem i16(f:UInt32)(a:LB):∀(q:Nat) (g:Int) (b:LU),z16 q (t16 f a g b)=Mf f a q g b:=
 ind (λ_ _=>by kernel_rfl) λq ih g b=>Eq.trans (b:=CI (x21 (z16 q) f a) (KP (KW x28)) f a g b) F2 (by simp only[e21,e28,ih]<;>rfl)
def k:Kc P_ gl:=⟨(183,⟨H.p,H.r,u2 VB⟩),co H func183 (λx=>Eq.trans (b:=u2 (OP (λf a g b=>z16 Cg (t16 f a g b))) x) F2 (by simp only[i16,Am]<;>rfl))⟩
end F183
namespace F129
def H:Hd:=⟨[Sb],[Su,Si],.d,kt [F183.k] false,[],f129⟩
def k:Kc P_ gl:=⟨(129,⟨H.p,H.r,EI⟩),co H func129⟩
end F129
namespace F184
def H:Hd:=⟨[Sq,Si],[Sz],.d,kt [] false,[],f184⟩
def k:Kc P_ gl:=⟨(184,⟨H.p,H.r,u2 pM⟩),co H func184⟩
end F184
namespace F130
abbrev R_:=(LB×Int)
def H:Hd:=⟨[Sq,Si],[Ob 5,Si],(.seq .d (.seq .d (.seq .d (.seq .d (.cut [6] [] (.seq .d (.blk (.loop [0,6,21,22] [] .d))) .d))))),kt [F184.k] false,[],f130⟩
def t4(f:UInt64)(g:LB)(a:Int)(b:LB):S:=⟨[(0,vq f),(6,.own 0),(21,vi (Ac g)),(22,vi a)],[Ab 5 b],[]⟩
def z4:Nat->S->Option R_:=H.i P_ [r,r,r,r,l,r,d]
theorem i4(f:UInt64)(g:LB):∀(q:Nat) (a:Int) (b:LB),z4 q (t4 f g a b)=Zm f g q a b:=
 ind (λ_ _=>by kernel_rfl) λq ih a b=>Eq.trans (b:=NJ YF (λa b=>(z4 q) (t4 f g a b)) f g a b) F2 (by simp only[ih]<;>rfl)
def k:Kc P_ gl:=⟨(130,⟨H.p,H.r,u2 Zz⟩),co H func130 (λx=>Eq.trans (b:=u2 (ZV (λf g a b=>z4 Cg (t4 f g a b))) x) F2 (by simp only[i4,Am]<;>rfl))⟩
end F130
namespace F88
abbrev R_:=LB
def H:Hd:=⟨[.lf (.list (.list (.int .u8))) none],[Ob 5],(.seq .d (.seq .d (.cut [0,3] [] (.seq .d (.blk (.loop [0,3,9,10,11] [] .d))) (.cut [0,6] [⟨6,[],.own 5 (.int .u8)⟩] (.keep [0,3,6,23,24] true) (.cut [6] [] (.seq .d (.blk (.loop [6,25,26,27] [] .d))) .d))))),kt [] true,[(135,(.seq .d (.cut [0,1] [] .d .d)))],f88⟩
def t14(a:List LB)(g:Int)(f:LB):S:=⟨[(6,.own 0),(25,.val (.list (.list (.int .u8))) a),(26,vi (Ac a)),(27,vi g)],[Ab 5 f],[]⟩
def z14:Nat->S->Option R_:=H.i P_ [r,r,r,r,l,r,d]
def t9(a:List LB)(b h:Int):S:=⟨[(0,.val (.list (.list (.int .u8))) a),(3,vi b),(9,.val (.list (.list (.int .u8))) a),(10,vi (Ac a)),(11,vi h)],[],[]⟩
def z9:Nat->S->Option R_:=H.i P_ [r,r,l,r,d]
def x14(a:List LB)(g:Int)(f:LB):Option R_:=H.e P_ [r,r,r,r,l,r,d] (t14 a g f)
theorem i14(a:List LB):∀(q:Nat) (g:Int) (f:LB),z14 q (t14 a g f)=Bo a q g f:=
 ind (λ_ _=>by kernel_rfl) λq ih g f=>Eq.trans (b:=Cl Ue (λg f=>(z14 q) (t14 a g f)) a g f) F2 (by simp only[ih]<;>rfl)
theorem e14:x14=Hm:=by funext a g f;exact Eq.trans F2 ((i14 a Cg g f).trans (by rw[Am];rfl))
theorem i9(a:List LB):∀(q:Nat) (b h:Int),z9 q (t9 a b h)=Bt a q b h:=
 ind (λ_ _=>by kernel_rfl) λq ih b h=>Eq.trans (b:=Ct (Ho (Hp (Hn x14))) (λb h=>(z9 q) (t9 a b h)) a b h) F2 (by simp only[e14,ih]<;>rfl)
def k:Kc P_ gl:=⟨(88,⟨H.p,H.r,Dn⟩),co H func88 (λx=>Eq.trans (b:=Mr (λa b h=>z9 Cg (t9 a b h)) x) F2 (by simp only[i9,Am]<;>rfl))⟩
end F88
namespace F83
abbrev R_:=(LB×Int)
abbrev K_:=S->Option R_
def H:Hd:=⟨[.agg [Si,Si],.lf (.vec 16 (.int .i32)) none,Sw],[Ob 5,Si],(.seq .d (.seq .d (.seq .d (.seq .d (.seq .d (.cut [11] [] (.seq .d (.blk (.loop [3,10,11,30,31,32] [⟨11,[0],.own 5 (.int .u8)⟩] (.seq .d (.seq .d (.cut [3,10,11,30,31,32] [] (.blk (.seq .d (.seq .d (.seq .d (.seq .d (.keep [3,10,11,14,30,31,32,59] true)))))) .d)))))) .d)))))),kt [F88.k,F125.k,F126.k,F127.k,F129.k,F130.k] false,[(128,(.seq .d (.seq .d (.blk (.loop [0,3,7,8] [] (.seq .d (.seq .d (.seq (.blk (.seq .d (.cut [0,3,4,7,8] [] .d (.seq .d (.cut [0,3,7,8] [] .d .d))))) .d))))))))],f83⟩
def t44(b:LU)(a g h f:Int)(n:List (Int×Int×UInt64×UInt64×Unit))(m:LB)(o k:Int)(w:LB):S:=⟨[(0,.ptr 0 []),(3,.ptr 1 []),(7,vi h),(8,vi o)],[.box 200 (.agg [.own 7,vi k]),.box 200 (.agg [.own 6,vi h]),.box 23 (.agg [vi a,vi g]),.box 197 (.val (.vec 6 (.cons (.int .i64) (.cons (.int .i64) (.cons (.int .u64) (.cons (.int .u64) .nil))))) n),.box 200 (.agg [.own 6,vi h]),Av 201 b,Ab 5 m,Ab 5 w],[[(3,.ptr 2 []),(10,.ptr 3 []),(11,.ptr 0 []),(14,.ptr 4 []),(30,.own 5),(31,vi (Ac b)),(32,vi f),(59,.agg [.own 6,vi h])]]⟩
def z44(oU:K_):Nat->S->Option R_:=H.i P_ [r,r,r,r,r,l,r,d,(lp oU),r,r,l,d,r,r,r,r,(call 1 128),r,r,d]
def t27(b:LU)(a g f:Int)(u:List (Int×Int×UInt64×UInt64×Unit))(v:Int)(p:LB):S:=⟨[(3,.ptr 0 []),(10,.ptr 1 []),(11,.ptr 2 []),(30,.own 3),(31,vi (Ac b)),(32,vi f)],[.box 23 (.agg [vi a,vi g]),.box 197 (.val (.vec 6 (.cons (.int .i64) (.cons (.int .i64) (.cons (.int .u64) (.cons (.int .u64) .nil))))) u),.box 200 (.agg [.own 4,vi v]),Av 201 b,Ab 5 p],[]⟩
def z27:Nat->S->Option R_:=H.i P_ [r,r,r,r,r,l,r,d]
def x44(oU:K_)(b:LU)(a g h f:Int)(n:List (Int×Int×UInt64×UInt64×Unit))(m:LB)(o k:Int)(w:LB):Option R_:=H.e P_ [r,r,r,r,r,l,r,d,(lp oU),r,r,l,d,r,r,r,r,(call 1 128),r,r,d] (t44 b a g h f n m o k w)
theorem i44(oU:K_)(b:LU)(a g h f:Int)(n:List (Int×Int×UInt64×UInt64×Unit))(m:LB):∀(q:Nat) (o k:Int) (w:LB),z44 oU q (t44 b a g h f n m o k w)=Fh (λf u v p=>oU (t27 b a g f u v p)) b a g h f n m q o k w:=
 ind (λ_ _ _=>by kernel_rfl) λq ih o k w=>Eq.trans (b:=Sp (Rm (λo k w=>(z44 oU q) (t44 b a g h f n m o k w)) h b f a g n m) (Yn (λf u v p=>oU (t27 b a g f u v p)) b a g) b a g h f n m o k w) F2 (by simp only[ih]<;>rfl)
theorem e44(oU:K_)(b:LU)(a g:Int):x44 oU b a g=LG (λf u v p=>oU (t27 b a g f u v p)) b a g:=by funext h f n m o k w;exact Eq.trans F2 ((i44 oU b a g h f n m Cg o k w).trans (by rw[Am];rfl))
theorem i27(b:LU)(a g:Int):∀(q:Nat) (f:Int) (u:List (Int×Int×UInt64×UInt64×Unit)) (v:Int) (p:LB),z27 q (t27 b a g f u v p)=Ha b a g q f u v p:=
 ind (λ_ _ _ _=>by kernel_rfl) λq ih f u v p=>Eq.trans (b:=Ry (x44 (z27 q) b a g) Yh b a g f u v p) F2 (by simp only[e44,ih]<;>rfl)
def k:Kc P_ gl:=⟨(83,⟨H.p,H.r,u4 Vj⟩),co H func83 (λx=>Eq.trans (b:=u4 (AN (λb a g f u v p=>z27 Cg (t27 b a g f u v p))) x) F2 (by simp only[i27,Am]<;>rfl))⟩
end F83
namespace F48
def H:Hd:=⟨[.agg [.agg [Si,Si],Si,Ss,Sb,Sw,.lf (.list (.list (.int .u8))) none,Sb,Sz,Si],Si],[.agg [.agg [Si,Si],Si,Ss,Ob 5,Ow 21,.lf (.list (.list (.int .u8))) (some 24),Ob 5,Sz,Si],Si],.d,kt [] false,[],f48⟩
def k:Kc P_ gl:=⟨(48,⟨H.p,H.r,og Sk⟩),co H func48⟩
end F48
namespace F13
abbrev R_:=(Int×Int×Int×LB×LB×LX×(List LB)×LB×Bool×Int×Int)
abbrev K_:=S->Option R_
def H:Hd:=⟨[.agg [.agg [Si,Si],Si,Ss,Sb,Sw,.lf (.list (.list (.int .u8))) none,Sb,Sz,Si],Sb],[.agg [.agg [Si,Si],Si,Ss,Ob 5,Ow 21,.lf (.list (.list (.int .u8))) (some 24),Ob 5,Sz,Si],Si],(.seq .d (.seq .d (.seq .d (.seq .d (.seq .d (.cut [2,4] [] (.seq .d (.blk (.loop [2,4,8,9,27,28,29] [] (.seq .d (.seq .d (.cut [2,4,8,9,27,28,29] [] (.blk (.seq .d (.seq .d (.seq .d (.cut [2,4,8,9,12,27,28,29] [⟨2,[3],.own 5 (.int .u8)⟩,⟨2,[4],.own 21 (.int .i32)⟩,⟨9,[0,3],.own 5 (.int .u8)⟩,⟨9,[0,4],.own 21 (.int .i32)⟩] (.keep [2,4,8,9,12,27,28,29,45] true) .d))))) .d)))))) .d)))))),kt [F41.k,F42.k,F44.k,F45.k,F46.k,F48.k,F82.k,F83.k] false,[(43,(.seq .d (.cut [0,1] [] .d (.seq .d (.seq .d (.seq .d (.seq .d (.cut [2] [] (.keep [2,43] true) .d)))))))),(47,.d)],f13⟩
def t14(p:Int)(n:LB)(a b g:Int)(f:LB)(h:Bool)(k o:Int)(m:LB)(u:Int)(y:LB)(w:LX)(v:List LB):S:=⟨[(2,.ptr 0 []),(4,.ptr 1 []),(8,vi p),(9,.fn 43 [.ptr 0 [],.ptr 2 []]),(27,vb n),(28,vi (Ac n)),(29,vi u)],[.box 33 (.agg [.agg [vi a,vi b],vi g,vs f,.own 3,.own 4,.own 5,.own 6,vt h,vi k]),.box 33 (.agg [.agg [vi 0,vi 0],vi 0,vs ([]:LB),.nils,.nils,.nils,.nils,vt false,vi 0]),.box 3 (vi o),Ab 5 y,Aw 21 w,.arr 24 (.list (.int .u8)) v,Ab 5 m],[]⟩
def z14:Nat->S->Option R_:=H.i P_ [r,r,r,r,r,l,r,d]
theorem i14(p:Int)(n:LB)(a b g:Int)(f:LB)(h:Bool)(k o:Int)(m:LB):∀(q:Nat) (u:Int) (y:LB) (w:LX) (v:List LB),z14 q (t14 p n a b g f h k o m u y w v)=He p n a b g f h k o m q u y w v:=
 ind (λ_ _ _ _=>by kernel_rfl) λq ih u y w v=>Eq.trans (b:=Vx (Ly (λu y w v=>(z14 q) (t14 p n a b g f h k o m u y w v)) p n a b g f h k o m) (Hl (λu y w v=>(z14 q) (t14 p n a b g f h k o m u y w v)) p n a b g f h k o m) (EH (λu y w v=>(z14 q) (t14 p n a b g f h k o m u y w v)) p n a b g f h k o m) EZ p n a b g f h k o m u y w v) F2 (by simp only[ih]<;>rfl)
def k:Kc P_ gl:=⟨(13,⟨H.p,H.r,og JF⟩),co H func13 (λx=>Eq.trans (b:=og (IC (λp n a b g f h k o m u y w v=>z14 Cg (t14 p n a b g f h k o m u y w v))) x) F2 (by simp only[i14,Am]<;>rfl))⟩
end F13
namespace F84
def H:Hd:=⟨[Ss],[Si,Si],.d,kt [] false,[],f84⟩
def k:Kc P_ gl:=⟨(84,⟨H.p,H.r,FO⟩),co H func84⟩
end F84
namespace F185
abbrev R_:=Bool
def H:Hd:=⟨[.agg [Si,Si,Si,Si,Si]],[Sz],(.seq .d (.cut [1] [] .d .d)),kt [] false,[],f185⟩
def k:Kc P_ gl:=⟨(185,⟨H.p,H.r,u5 FB⟩),co H func185⟩
end F185
namespace F153
def H:Hd:=⟨[Si,Si],[Si,Si],.d,kt [F79.k] false,[],f153⟩
def k:Kc P_ gl:=⟨(153,⟨H.p,H.r,u2 FK⟩),co H func153⟩
end F153
namespace F186
def H:Hd:=⟨[.agg [Si,Si,Si,Si,Si]],[Sz],.d,kt [F153.k] false,[],f186⟩
def k:Kc P_ gl:=⟨(186,⟨H.p,H.r,u5 NX⟩),co H func186⟩
end F186
namespace F131
def H:Hd:=⟨[.agg [Si,Si,Si,Si,Si]],[Si],.d,kt [F185.k,F186.k] false,[],f131⟩
def k:Kc P_ gl:=⟨(131,⟨H.p,H.r,u5 JD⟩),co H func131⟩
end F131
namespace F85
abbrev R_:=(LB×Int)
def H:Hd:=⟨[.agg [Si,Si,Si,Si,Si]],[Ob 5,Si],(.seq .d (.seq .d (.seq .d (.cut [5] [] (.seq .d (.blk (.loop [5,31,32] [] .d))) .d)))),kt [F129.k,F130.k,F131.k] false,[],f85⟩
def t4(b f g h k m:Int)(a:LB):S:=⟨[(5,.own 0),(31,.val (.vec 5 (.int .i64)) ([b,f,g,h,k]:LI)),(32,vi m)],[Ab 5 a],[]⟩
def z4:Nat->S->Option R_:=H.i P_ [r,r,r,l,r,d]
theorem i4(b f g h k:Int):∀(q:Nat) (m:Int) (a:LB),z4 q (t4 b f g h k m a)=Kn b f g h k q m a:=
 ind (λ_ _=>by kernel_rfl) λq ih m a=>Eq.trans (b:=Xy Ya (λm a=>(z4 q) (t4 b f g h k m a)) b f g h k m a) F2 (by simp only[ih]<;>rfl)
def k:Kc P_ gl:=⟨(85,⟨H.p,H.r,u5 JN⟩),co H func85 (λx=>Eq.trans (b:=u5 (ID (λb f g h k m a=>z4 Cg (t4 b f g h k m a))) x) F2 (by simp only[i4,Am]<;>rfl))⟩
end F85
namespace F132
def H:Hd:=⟨[Ss],[Sq,Si],.d,kt [F123.k] false,[],f132⟩
def k:Kc P_ gl:=⟨(132,⟨H.p,H.r,lM⟩),co H func132⟩
end F132
namespace F86
def H:Hd:=⟨[Ss],[Ob 5,Si],.d,kt [F130.k,F132.k] false,[],f86⟩
def k:Kc P_ gl:=⟨(86,⟨H.p,H.r,JM⟩),co H func86⟩
end F86
namespace F133
abbrev R_:=Int
def H:Hd:=⟨[Sl],[Si],(.seq .d (.seq .d (.seq .d (.cut [] [] (.seq .d (.blk (.loop [3,14,15,16] [] .d))) .d)))),kt [] false,[],f133⟩
def t4(a:LI)(f b:Int):S:=⟨[(3,vi f),(14,vl a),(15,vi (Ac a)),(16,vi b)],[],[]⟩
def z4:Nat->S->Option R_:=H.i P_ [r,r,r,l,r,d]
theorem i4(a:LI):∀(q:Nat) (f b:Int),z4 q (t4 a f b)=Qj a q f b:=
 ind (λ_ _=>by kernel_rfl) λq ih f b=>Eq.trans (b:=CU bL (λf b=>(z4 q) (t4 a f b)) a f b) F2 (by simp only[ih]<;>rfl)
def k:Kc P_ gl:=⟨(133,⟨H.p,H.r,Zs⟩),co H func133 (λx=>Eq.trans (b:=CA (λa f b=>z4 Cg (t4 a f b)) x) F2 (by simp only[i4,Am]<;>rfl))⟩
end F133
namespace F87
abbrev R_:=(LB×Int)
abbrev K_:=S->Option R_
def H:Hd:=⟨[Sl],[Ob 5,Si],(.seq .d (.seq .d (.seq .d (.seq .d (.cut [5,6] [] (.seq .d (.blk (.loop [5,6,17,18,19] [⟨5,[],.own 5 (.int .u8)⟩,⟨6,[0],.own 5 (.int .u8)⟩] (.seq .d (.seq .d (.cut [5,6,17,18,19] [] (.blk (.seq .d (.keep [5,6,8,17,18,19,23,24,25] true))) .d)))))) (.seq .d (.cut [5] [] (.keep [5,6,9,33,34,35] true) .d))))))),kt [F129.k,F130.k,F133.k] false,[(134,.d)],f87⟩
def t8(a:LI)(f:Int)(b:LB):S:=⟨[(5,.ptr 0 []),(6,.fn 134 [.ptr 0 []]),(17,vl a),(18,vi (Ac a)),(19,vi f)],[.box 24 (.own 1),Ab 5 b],[]⟩
def z8:Nat->S->Option R_:=H.i P_ [r,r,r,r,l,r,d]
theorem i8(a:LI):∀(q:Nat) (f:Int) (b:LB),z8 q (t8 a f b)=Ps a q f b:=
 ind (λ_ _=>by kernel_rfl) λq ih f b=>Eq.trans (b:=CT (HW (λf b=>(z8 q) (t8 a f b)) a) HT a f b) F2 (by simp only[ih]<;>rfl)
def k:Kc P_ gl:=⟨(87,⟨H.p,H.r,HL⟩),co H func87 (λx=>Eq.trans (b:=KO (λa f b=>z8 Cg (t8 a f b)) x) F2 (by simp only[i8,Am]<;>rfl))⟩
end F87
namespace F49
def ED(f g h:Int)(b k:LB)(m:LX)(a:List LB)(n:LB)(o:Bool)(p:Int)(u:LB)(v:LI):Option (LB×Int):=
(HL v).bind λ(aa,y)=>
if(Br y 0)then
some (([]:LB),y)
else
(λao:Option (LB×Int)=>
bo (
ao)) (
(Bx u aa).bind λab=>
(Dn a).bind λac=>
(Bx ab ac).bind λad=>
some (ad,0))
theorem dG: @ED= @Xv:=by
  unfold ED Xv;simp only[bH,JT,ME]
abbrev R_:=(LB×Int)
def H:Hd:=⟨[.agg [.agg [Si,Si],Si,Ss,Sb,Sw,.lf (.list (.list (.int .u8))) none,Sb,Sz,Si],Si],[Ob 5,Si],(.seq .d (.seq .d (.seq .d (.seq .d (.seq .d (.cut [2,8] [] .d (.seq .d (.cut [2,8,11] [] (.seq .d (.blk (.loop [2,8,11,58,59,60] [⟨11,[],.own 3 (.int .i64)⟩] .d))) (.seq .d (.seq .d (.seq (.mode false) .d))))))))))),kt [F84.k,F85.k,F86.k,F87.k,F88.k] false,[],f49⟩
def t6(a:List LB)(f g h:Int)(b k:LB)(m:LX)(n:LB)(o:Bool)(p:Int)(u:LB)(w:Int)(v:LI):S:=⟨[(2,.ptr 0 []),(8,.own 1),(11,.own 2),(58,.val (.list (.list (.int .u8))) a),(59,vi (Ac a)),(60,vi w)],[.box 33 (.agg [.agg [vi f,vi g],vi h,vs b,vb k,vw m,.val (.list (.list (.int .u8))) a,vb n,vt o,vi p]),Ab 5 u,Ai 3 v],[]⟩
def z6:Nat->S->Option R_:=H.i P_ [r,r,r,r,r,r,r,l,r,d]
def x8(f g h:Int)(b k:LB)(m:LX)(a:List LB)(n:LB)(o:Bool)(p:Int)(u:LB)(v:LI):Option R_:=H.e P_ [r,r,r,r,r,r,r,r] ⟨[(2,.ptr 0 []),(8,.own 1),(11,.own 2)],[.box 33 (.agg [.agg [vi f,vi g],vi h,vs b,vb k,vw m,.val (.list (.list (.int .u8))) a,vb n,vt o,vi p]),Ab 5 u,Ai 3 v],[]⟩
theorem e8:x8=Tc:=Eq.trans (b:=ED) F2 (by rw[dG];rfl)
theorem i6(a:List LB)(f g h:Int)(b k:LB)(m:LX)(n:LB)(o:Bool)(p:Int)(u:LB):∀(q:Nat) (w:Int) (v:LI),z6 q (t6 a f g h b k m n o p u w v)=Nj a f g h b k m n o p u q w v:=
 ind (λ_ _=>by kernel_rfl) λq ih w v=>Eq.trans (b:=Xw x8 (λw v=>(z6 q) (t6 a f g h b k m n o p u w v)) a f g h b k m n o p u w v) F2 (by simp only[e8,ih]<;>rfl)
def k:Kc P_ gl:=⟨(49,⟨H.p,H.r,og JO⟩),co H func49 (λx=>Eq.trans (b:=og (HQ (Yc (λa f g h b k m n o p u w v=>z6 Cg (t6 a f g h b k m n o p u w v)))) x) F2 (by simp only[i6,Am]<;>rfl))⟩
end F49
namespace F14
abbrev R_:=(Int×Int×Int×LB×LB×LX×(List LB)×LB×Bool×Int×Int)
def H:Hd:=⟨[.agg [.agg [Si,Si],Si,Ss,Sb,Sw,.lf (.list (.list (.int .u8))) none,Sb,Sz,Si]],[.agg [.agg [Si,Si],Si,Ss,Ob 5,Ow 21,.lf (.list (.list (.int .u8))) (some 24),Ob 5,Sz,Si],Si],(.seq .d (.seq .d (.seq .d (.seq .d (.seq .d (.cut [1,2,6] [] (.seq .d (.cond (.cut [1,2,6,7] [⟨1,[4],.own 21 (.int .i32)⟩] (.keep [1,2,6,7,38] true) .d) .d)) .d)))))),kt [F41.k,F45.k,F48.k,F49.k,F82.k,F83.k] false,[(47,.d)],f14⟩
def k:Kc P_ gl:=⟨(14,⟨H.p,H.r,zP AL⟩),co H func14⟩
end F14
namespace F38
def H:Hd:=⟨[.agg [.agg [Si,Si],Si,Ss,Sb,Sw,.lf (.list (.list (.int .u8))) none,Sb,Sz,Si],Si],[.agg [.agg [Si,Si],Si,Ss,Ob 5,Ow 21,.lf (.list (.list (.int .u8))) (some 24),Sb,Sz,Si],Ob 5,Si],.d,kt [F53.k,F74.k,F75.k] false,[],f38⟩
def k:Kc P_ gl:=⟨(38,⟨H.p,H.r,og FJ⟩),co H func38⟩
end F38
namespace F25
abbrev R_:=(LB×Int)
abbrev K_:=S->Option R_
def H:Hd:=⟨[.agg [Si,Si],Si,Ss,Sb,Sq],[Ob 5,Si],(.seq .d (.seq .d (.seq .d (.seq .d (.seq .d (.cut [14] [] (.seq .d (.blk (.loop [3,14,39,40,41] [] (.seq .d (.seq .d (.seq (.blk (.seq .d (.seq (.cut [3,13,14,16,39,40,41] [] (.mode false) .d) .d))) .d)))))) .d)))))),kt [F11.k,F13.k,F14.k,F23.k,F38.k] false,[],f25⟩
def t6(a:LI)(f:LB)(b g h k:Int)(m:LB)(n:Bool)(o:Int)(p:LB)(u:LX)(v:List LB)(w:LB):S:=⟨[(3,vb f),(14,.ptr 0 []),(39,.own 1),(40,vi (Ac a)),(41,vi b)],[.box 33 (.agg [.agg [vi g,vi h],vi k,vs m,.own 2,.own 3,.own 4,.own 5,vt n,vi o]),Ai 3 a,Ab 5 p,Aw 21 u,.arr 24 (.list (.int .u8)) v,Ab 5 w],[]⟩
def z6:Nat->S->Option R_:=H.i P_ [r,r,r,r,r,l,r,d]
theorem i6(a:LI):∀(q:Nat) (f:LB) (b g h k:Int) (m:LB) (n:Bool) (o:Int) (p:LB) (u:LX) (v:List LB) (w:LB),z6 q (t6 a f b g h k m n o p u v w)=Md a q f b g h k m n o p u v w:=
 ind (λ_ _ _ _ _ _ _ _ _ _ _ _=>by kernel_rfl) λq ih f b g h k m n o p u v w=>Eq.trans (b:=Vq (Vo (λf b g h k m n o p u v w=>(z6 q) (t6 a f b g h k m n o p u v w)) a) BQ a f b g h k m n o p u v w) F2 (by simp only[ih]<;>rfl)
def k:Kc P_ gl:=⟨(25,⟨H.p,H.r,u6 Ot⟩),co H func25 (λx=>Eq.trans (b:=u6 (Pw (λa f b g h k m n o p u v w=>z6 Cg (t6 a f b g h k m n o p u v w))) x) F2 (by simp only[i6,Am]<;>rfl))⟩
end F25
namespace F19
def H:Hd:=⟨[Si],[Si,Si],.d,kt [] false,[],f19⟩
def k:Kc P_ gl:=⟨(19,⟨H.p,H.r,Da⟩),co H func19⟩
end F19
namespace F70
def H:Hd:=⟨[Si],[Si],.d,kt [] false,[],f70⟩
def k:Kc P_ gl:=⟨(70,⟨H.p,H.r,Dt⟩),co H func70⟩
end F70
namespace F34
def H:Hd:=⟨[.agg [Si,Si]],[Si],.d,kt [F70.k] false,[],f34⟩
def k:Kc P_ gl:=⟨(34,⟨H.p,H.r,u2 Ca⟩),co H func34⟩
end F34
namespace F8
def H:Hd:=⟨[.agg [Si,Si],Si,Ss],[Si],.d,kt [F19.k,F34.k] false,[],f8⟩
def k:Kc P_ gl:=⟨(8,⟨H.p,H.r,u4 Bz⟩),co H func8⟩
end F8
namespace F56
def H:Hd:=⟨[.agg [Si,Si],Si,Ss],[.agg [.agg [Si,Si],Si,Ss,Ob 5,Ow 21,.lf (.list (.list (.int .u8))) (some 24),Ob 5,Sz,Si],Si],.d,kt [F8.k] false,[],f56⟩
def k:Kc P_ gl:=⟨(56,⟨H.p,H.r,u4 Ma⟩),co H func56⟩
end F56
namespace F147
def H:Hd:=⟨[.agg [.agg [Si,Si],Si,Ss,Sb,Sw,.lf (.list (.list (.int .u8))) none,Sb,Sz,Si]],[Si],.d,kt [F19.k] false,[],f147⟩
def k:Kc P_ gl:=⟨(147,⟨H.p,H.r,zP Gk⟩),co H func147⟩
end F147
namespace F20
def H:Hd:=⟨[.agg [Si,Si]],[Si],.d,kt [] false,[],f20⟩
def k:Kc P_ gl:=⟨(20,⟨H.p,H.r,u2 Gg⟩),co H func20⟩
end F20
namespace F111
abbrev R_:=Int
def H:Hd:=⟨[Si,Sw],[Si],(.seq .d (.seq .d (.seq .d (.seq .d (.cut [] [] (.seq .d (.blk (.loop [1,5,6] [] .d))) .d))))),kt [F70.k] false,[],f111⟩
def t4(a:LX)(b f:Int):S:=⟨[(1,vw a),(5,vi b),(6,vi f)],[],[]⟩
def z4:Nat->S->Option R_:=H.i P_ [r,r,r,r,l,r,d]
theorem i4(a:LX)(b:Int):∀(q:Nat) (f:Int),z4 q (t4 a b f)=Bq a b q f:=
 ind (λ_=>by kernel_rfl) λq ih f=>Eq.trans (b:=Dj DF (λf=>(z4 q) (t4 a b f)) a b f) F2 (by simp only[ih]<;>rfl)
def k:Kc P_ gl:=⟨(111,⟨H.p,H.r,u2 Bc⟩),co H func111 (λx=>Eq.trans (b:=u2 (Ir (λa b f=>z4 Cg (t4 a b f))) x) F2 (by simp only[i4,Am]<;>rfl))⟩
end F111
namespace F103
def H:Hd:=⟨[.agg [.agg [Si,Si],Si,Ss,Sb,Sw,.lf (.list (.list (.int .u8))) none,Sb,Sz,Si]],[Si],.d,kt [F147.k] false,[],f103⟩
def k:Kc P_ gl:=⟨(103,⟨H.p,H.r,zP Cv⟩),co H func103⟩
end F103
namespace F146
def H:Hd:=⟨[.agg [.agg [Si,Si],Si,Ss,Sb,Sw,.lf (.list (.list (.int .u8))) none,Sb,Sz,Si],Si,Si],[Sz],.d,kt [] false,[],f146⟩
def k:Kc P_ gl:=⟨(146,⟨H.p,H.r,u12 Kh⟩),co H func146⟩
end F146
namespace F145
abbrev R_:=Bool
def H:Hd:=⟨[.agg [.agg [Si,Si],Si,Ss,Sb,Sw,.lf (.list (.list (.int .u8))) none,Sb,Sz,Si]],[Sz],(.seq .d (.seq .d (.cut [1,3] [] .d (.seq .d (.cut [1,3,4] [] .d (.cut [1,3] [] .d (.cut [] [] (.seq .d (.blk (.loop [1,3,5] [] .d))) .d))))))),kt [F20.k,F103.k,F111.k,F146.k,F147.k] false,[],f145⟩
def t10(h f g n:Int)(o k:LB)(b:LX)(a:List LB)(m:LB)(p:Bool)(u v:Int):S:=⟨[(1,.ptr 0 []),(3,vi h),(5,vi v)],[.box 33 (.agg [.agg [vi f,vi g],vi n,vs o,vb k,vw b,.val (.list (.list (.int .u8))) a,vb m,vt p,vi u])],[]⟩
def z10:Nat->S->Option R_:=H.i P_ [r,r,r,r,r,r,l,r,d]
def x7(h f g n:Int)(o k:LB)(b:LX)(a:List LB)(m:LB)(p:Bool)(u:Int):Option R_:=H.e P_ [r,r,r] ⟨[(1,.ptr 0 []),(3,vi h)],[.box 33 (.agg [.agg [vi f,vi g],vi n,vs o,vb k,vw b,.val (.list (.list (.int .u8))) a,vb m,vt p,vi u])],[]⟩
theorem i10(h f g n:Int)(o k:LB)(b:LX)(a:List LB)(m:LB)(p:Bool)(u:Int):∀(q:Nat) (v:Int),z10 q (t10 h f g n o k b a m p u v)=Ec h f g n o k b a m p u q v:=
 ind (λ_=>by kernel_rfl) λq ih v=>Eq.trans (b:=Jn Xt (λv=>(z10 q) (t10 h f g n o k b a m p u v)) h f g n o k b a m p u v) F2 (by simp only[ih]<;>rfl)
theorem e7:x7=Qa:=Eq.trans (b:=Py (Qc (Qn (λh f g n o k b a m p u v=>z10 Cg (t10 h f g n o k b a m p u v))))) F2 (by simp only[i10,Am]<;>rfl)
def k:Kc P_ gl:=⟨(145,⟨H.p,H.r,zP Np⟩),co H func145 (λx=>Eq.trans (b:=zP (Qt x7) x) F2 (by simp only[e7]<;>rfl))⟩
end F145
namespace F99
def H:Hd:=⟨[.agg [.agg [Si,Si],Si,Ss,Sb,Sw,.lf (.list (.list (.int .u8))) none,Sb,Sz,Si]],[Si],.d,kt [F8.k,F145.k] false,[],f99⟩
def k:Kc P_ gl:=⟨(99,⟨H.p,H.r,zP Ix⟩),co H func99⟩
end F99
namespace F100
abbrev R_:=(Int×Int×Int×LB×LB×LX×(List LB)×LB×Bool×Int)
def H:Hd:=⟨[.agg [.agg [Si,Si],Si,Ss,Sb,Sw,.lf (.list (.list (.int .u8))) none,Sb,Sz,Si]],[.agg [.agg [Si,Si],Si,Ss,Ob 5,Ow 21,.lf (.list (.list (.int .u8))) (some 24),Ob 5,Sz,Si]],(.seq .d (.seq .d (.seq .d (.seq .d (.seq .d (.cut [1,2,3] [] (.seq .d (.blk (.loop [1,2,3,4] [⟨3,[],.own 24 (.list (.int .u8))⟩] .d))) .d)))))),kt [] false,[],f100⟩
def t4(b f g:Int)(h:LB)(a:List LB)(k:Bool)(m:Int)(n:LB)(o:LX)(p:LB)(v:Int)(u:List LB):S:=⟨[(1,.ptr 0 []),(2,.ptr 1 []),(3,.own 2),(4,vi v)],[.box 33 (.agg [.agg [vi b,vi f],vi g,vs h,.own 3,.own 4,.val (.list (.list (.int .u8))) a,.own 5,vt k,vi m]),.box 33 (.agg [.agg [vi 0,vi 0],vi 0,vs ([]:LB),.nils,.nils,.nils,.nils,vt false,vi 0]),.arr 24 (.list (.int .u8)) u,Ab 5 n,Aw 21 o,Ab 5 p],[]⟩
def z4:Nat->S->Option R_:=H.i P_ [r,r,r,r,r,l,r,d]
theorem i4(b f g:Int)(h:LB)(a:List LB)(k:Bool)(m:Int)(n:LB)(o:LX)(p:LB):∀(q:Nat) (v:Int) (u:List LB),z4 q (t4 b f g h a k m n o p v u)=Hf b f g h a k m n o p q v u:=
 ind (λ_ _=>by kernel_rfl) λq ih v u=>Eq.trans (b:=Oc GZ (λv u=>(z4 q) (t4 b f g h a k m n o p v u)) b f g h a k m n o p v u) F2 (by simp only[ih]<;>rfl)
def k:Kc P_ gl:=⟨(100,⟨H.p,H.r,zP Nq⟩),co H func100 (λx=>Eq.trans (b:=zP (Uy (λb f g h a k m n o p v u=>z4 Cg (t4 b f g h a k m n o p v u))) x) F2 (by simp only[i4,Am]<;>rfl))⟩
end F100
namespace F101
def H:Hd:=⟨[.agg [.agg [Si,Si],Si,Ss,Sb,Sw,.lf (.list (.list (.int .u8))) none,Sb,Sz,Si]],[Si],.d,kt [] false,[],f101⟩
def k:Kc P_ gl:=⟨(101,⟨H.p,H.r,zP Jv⟩),co H func101⟩
end F101
namespace F104
def H:Hd:=⟨[.agg [.agg [Si,Si],Si,Ss,Sb,Sw,.lf (.list (.list (.int .u8))) none,Sb,Sz,Si],Si],[.agg [.agg [Si,Si],Si,Ss,Ob 5,Ow 21,.lf (.list (.list (.int .u8))) (some 24),Ob 5,Sz,Si]],.d,kt [] false,[],f104⟩
def k:Kc P_ gl:=⟨(104,⟨H.p,H.r,og Fz⟩),co H func104⟩
end F104
namespace F119
abbrev R_:=(LX×Int)
abbrev K_:=S->Option R_
def H:Hd:=⟨[Si,Sb],[Ow 21,Si],(.seq .d (.seq .d (.seq .d (.seq .d (.seq .d (.seq .d (.seq .d (.cut [8] [] (.seq .d (.blk (.loop [0,1,6,7,8,9] [⟨8,[],.own 21 (.int .i32)⟩] (.seq .d (.cut [0,1,6,7,8,9] [] (.blk (.seq .d (.cut [0,1,6,7,8,9,10] [] (.seq .d (.blk (.loop [0,1,6,7,8,9,10,11] [] .d))) .d))) .d))))) .d)))))))),kt [F70.k] false,[],f119⟩
def t25(a:Int)(b:LB)(f g:Int)(h:LX)(k m:Int):S:=⟨[(0,vi a),(1,vb b),(6,vi f),(7,vi (Ba a (8:Int))),(8,.own 0),(9,vi g),(10,vi k),(11,vi m)],[Aw 21 h],[]⟩
def z25(Kp:K_):Nat->S->Option R_:=H.i P_ [r,r,r,r,r,r,r,l,r,d,(lp Kp),r,l,d,r,l,r,d]
def t16(a:Int)(b:LB)(f g:Int)(h:LX):S:=⟨[(0,vi a),(1,vb b),(6,vi f),(7,vi (Ba a (8:Int))),(8,.own 0),(9,vi g)],[Aw 21 h],[]⟩
def z16:Nat->S->Option R_:=H.i P_ [r,r,r,r,r,r,r,l,r,d]
def x25(Kp:K_)(a:Int)(b:LB)(f g:Int)(h:LX)(k m:Int):Option R_:=H.e P_ [r,r,r,r,r,r,r,l,r,d,(lp Kp),r,l,d,r,l,r,d] (t25 a b f g h k m)
theorem i25(Kp:K_)(a:Int)(b:LB)(f g:Int)(h:LX):∀(q:Nat) (k m:Int),z25 Kp q (t25 a b f g h k m)=Cm (λg h=>Kp (t16 a b f g h)) a b f g h q k m:=
 ind (λ_ _=>by kernel_rfl) λq ih k m=>Eq.trans (b:=Jm (Gq (λg h=>Kp (t16 a b f g h)) a b f) (λk m=>(z25 Kp q) (t25 a b f g h k m)) a b f g h k m) F2 (by simp only[ih]<;>rfl)
theorem e25(Kp:K_)(a:Int)(b:LB)(f:Int):x25 Kp a b f=Oo (λg h=>Kp (t16 a b f g h)) a b f:=by funext g h k m;exact Eq.trans F2 ((i25 Kp a b f g h Cg k m).trans (by rw[Am];rfl))
theorem i16(a:Int)(b:LB)(f:Int):∀(q:Nat) (g:Int) (h:LX),z16 q (t16 a b f g h)=Cb a b f q g h:=
 ind (λ_ _=>by kernel_rfl) λq ih g h=>Eq.trans (b:=Jl (x25 (z16 q) a b f) Xi a b f g h) F2 (by simp only[e25,ih]<;>rfl)
def k:Kc P_ gl:=⟨(119,⟨H.p,H.r,u2 Of⟩),co H func119 (λx=>Eq.trans (b:=u2 (Pu (λa b f g h=>z16 Cg (t16 a b f g h))) x) F2 (by simp only[i16,Am]<;>rfl))⟩
end F119
namespace F292
abbrev R_:=UInt64
def H:Hd:=⟨[Sq,Si],[Sq],(.seq .d (.seq .d (.cut [0,5] [] .d .d))),kt [] false,[],f292⟩
def k:Kc P_ gl:=⟨(292,⟨H.p,H.r,u2 Um⟩),co H func292⟩
end F292
namespace F264
abbrev R_:=UInt64
def H:Hd:=⟨[Sq,Sc],[Sq],(.seq .d (.cut [0] [] (.seq .d (.blk (.loop [0,1,5] [] .d))) .d)),kt [F292.k] false,[],f264⟩
def t4(b:UInt8)(a:UInt64)(f:Int):S:=⟨[(0,vq a),(1,vc b),(5,vi f)],[],[]⟩
def z4:Nat->S->Option R_:=H.i P_ [r,l,r,d]
theorem i4(b:UInt8):∀(q:Nat) (a:UInt64) (f:Int),z4 q (t4 b a f)=Hi b q a f:=
 ind (λ_ _=>by kernel_rfl) λq ih a f=>Eq.trans (b:=Oi Up (λa f=>(z4 q) (t4 b a f)) b a f) F2 (by simp only[ih]<;>rfl)
def k:Kc P_ gl:=⟨(264,⟨H.p,H.r,u2 AD⟩),co H func264 (λx=>Eq.trans (b:=u2 (GF (λb a f=>z4 Cg (t4 b a f))) x) F2 (by simp only[i4,Am]<;>rfl))⟩
end F264
namespace F239
abbrev R_:=UInt64
def H:Hd:=⟨[Sq,Sb],[Sq],(.seq .d (.cut [0] [] (.seq .d (.blk (.loop [0,1,5] [] .d))) .d)),kt [F264.k] false,[],f239⟩
def t4(a:LB)(b:UInt64)(f:Int):S:=⟨[(0,vq b),(1,vb a),(5,vi f)],[],[]⟩
def z4:Nat->S->Option R_:=H.i P_ [r,l,r,d]
theorem i4(a:LB):∀(q:Nat) (b:UInt64) (f:Int),z4 q (t4 a b f)=Fu a q b f:=
 ind (λ_ _=>by kernel_rfl) λq ih b f=>Eq.trans (b:=Lm Rv (λb f=>(z4 q) (t4 a b f)) a b f) F2 (by simp only[ih]<;>rfl)
def k:Kc P_ gl:=⟨(239,⟨H.p,H.r,u2 Pc⟩),co H func239 (λx=>Eq.trans (b:=u2 (AE (λa b f=>z4 Cg (t4 a b f))) x) F2 (by simp only[i4,Am]<;>rfl))⟩
end F239
namespace F254
def H:Hd:=⟨[Sq,Sb],[Sq,Si],.d,kt [F239.k] false,[],f254⟩
def k:Kc P_ gl:=⟨(254,⟨H.p,H.r,u2 BK⟩),co H func254⟩
end F254
namespace F234
def H:Hd:=⟨[Sb],[Sq,Si],.d,kt [F254.k] false,[],f234⟩
def k:Kc P_ gl:=⟨(234,⟨H.p,H.r,EX⟩),co H func234⟩
end F234
namespace F235
abbrev R_:=LX
abbrev K_:=S->Option R_
def H:Hd:=⟨[Sq],[.lf (.vec 16 (.int .i32)) none],(.seq .d (.seq .d (.cut [2,3] [] (.seq .d (.blk (.loop [0,2,3,4] [] (.seq .d (.seq (.blk (.seq .d (.cut [0,2,3,4,5] [] .d .d))) .d))))) .d))),kt [] false,[],f235⟩
def t6(b:UInt64)(f:Int)(a:LX):S:=⟨[(0,vq b),(2,.ptr 0 []),(3,.ptr 1 []),(4,vi f)],[.box 132 (.val (.vec 16 (.int .i32)) (List.replicate 16 (0:Int32))),.box 132 (.val (.vec 16 (.int .i32)) a)],[]⟩
def z6:Nat->S->Option R_:=H.i P_ [r,r,l,r,d]
theorem i6:∀(q:Nat) (b:UInt64) (f:Int) (a:LX),z6 q (t6 b f a)=Hc q b f a:=
 ind (λ_ _ _=>by kernel_rfl) λq ih b f a=>Eq.trans (b:=Rl (Rz (λb f a=>(z6 q) (t6 b f a))) IM b f a) F2 (by simp only[ih]<;>rfl)
def k:Kc P_ gl:=⟨(235,⟨H.p,H.r,HX⟩),co H func235 (λx=>Eq.trans (b:=MM (λb f a=>z6 Cg (t6 b f a)) x) F2 (by simp only[i6,Am]<;>rfl))⟩
end F235
namespace F198
def H:Hd:=⟨[Ss],[.lf (.vec 16 (.int .i32)) none,Si],.d,kt [F234.k,F235.k] false,[],f198⟩
def k:Kc P_ gl:=⟨(198,⟨H.p,H.r,Hv⟩),co H func198⟩
end F198
namespace F108
def H:Hd:=⟨[.agg [Si,Si],Sw],[Si],.d,kt [F34.k,F111.k] false,[],f108⟩
def k:Kc P_ gl:=⟨(108,⟨H.p,H.r,u3 Mp⟩),co H func108⟩
end F108
namespace F285
def H:Hd:=⟨[Si,Sw],[Si],.d,kt [] false,[],f285⟩
def k:Kc P_ gl:=⟨(285,⟨H.p,H.r,u2 Gw⟩),co H func285⟩
end F285
namespace F288
def H:Hd:=⟨[Si],[Sx],.d,kt [] false,[],f288⟩
def k:Kc P_ gl:=⟨(288,⟨H.p,H.r,Be⟩),co H func288⟩
end F288
namespace F286
abbrev R_:=LX
def H:Hd:=⟨[Sw],[Ow 21],(.seq .d (.seq .d (.seq .d (.cut [3] [] (.seq .d (.blk (.loop [0,3,4,5] [⟨3,[],.own 21 (.int .i32)⟩] .d))) .d)))),kt [F288.k] false,[],f286⟩
def t4(a:LX)(b:Int)(f:LX):S:=⟨[(0,vw a),(3,.own 0),(4,vi (Ac a)),(5,vi b)],[Aw 21 f],[]⟩
def z4:Nat->S->Option R_:=H.i P_ [r,r,r,l,r,d]
theorem i4(a:LX):∀(q:Nat) (b:Int) (f:LX),z4 q (t4 a b f)=Gm a q b f:=
 ind (λ_ _=>by kernel_rfl) λq ih b f=>Eq.trans (b:=Nb EA (λb f=>(z4 q) (t4 a b f)) a b f) F2 (by simp only[ih]<;>rfl)
def k:Kc P_ gl:=⟨(286,⟨H.p,H.r,Yf⟩),co H func286 (λx=>Eq.trans (b:=DK (λa b f=>z4 Cg (t4 a b f)) x) F2 (by simp only[i4,Am]<;>rfl))⟩
end F286
namespace F258
abbrev R_:=(LX×Int)
def H:Hd:=⟨[Si,Sw],[Ow 21,Si],(.seq .d (.seq .d (.seq .d (.cut [6] [] (.seq .d (.blk (.loop [0,1,6,7] [⟨6,[],.own 21 (.int .i32)⟩] .d))) .d)))),kt [F285.k,F286.k] false,[],f258⟩
def t4(a:Int)(b:LX)(g:Int)(f:LX):S:=⟨[(0,vi a),(1,vw b),(6,.own 0),(7,vi g)],[Aw 21 f],[]⟩
def z4:Nat->S->Option R_:=H.i P_ [r,r,r,l,r,d]
theorem i4(a:Int)(b:LX):∀(q:Nat) (g:Int) (f:LX),z4 q (t4 a b g f)=Kz a b q g f:=
 ind (λ_ _=>by kernel_rfl) λq ih g f=>Eq.trans (b:=Wz IX (λg f=>(z4 q) (t4 a b g f)) a b g f) F2 (by simp only[ih]<;>rfl)
def k:Kc P_ gl:=⟨(258,⟨H.p,H.r,u2 Vw⟩),co H func258 (λx=>Eq.trans (b:=u2 (Wd (λa b g f=>z4 Cg (t4 a b g f))) x) F2 (by simp only[i4,Am]<;>rfl))⟩
end F258
namespace F303
def H:Hd:=⟨[Si],[Si,Si],.d,kt [] false,[],f303⟩
def k:Kc P_ gl:=⟨(303,⟨H.p,H.r,MN⟩),co H func303⟩
end F303
namespace F287
def H:Hd:=⟨[Si,.lf (.vec 16 (.int .i32)) none],[.agg [Si,.lf (.vec 16 (.int .i32)) none,.lf (.vec 16 (.int .i32)) none],Si],.d,kt [F303.k] false,[],f287⟩
def k:Kc P_ gl:=⟨(287,⟨H.p,H.r,u2 PO⟩),co H func287⟩
end F287
namespace F259
def H:Hd:=⟨[Si,.lf (.vec 16 (.int .i32)) none],[.agg [Si,Sx,.agg [Si,.lf (.vec 16 (.int .i32)) none,.lf (.vec 16 (.int .i32)) none]],Si],.d,kt [F287.k] false,[],f259⟩
def k:Kc P_ gl:=⟨(259,⟨H.p,H.r,u2 Vm⟩),co H func259⟩
end F259
namespace F260
abbrev R_:=LX
def H:Hd:=⟨[Sw,Si,Si],[Ow 21],(.seq .d (.seq .d (.cut [7] [] (.seq .d (.blk (.loop [0,2,7,8] [⟨7,[],.own 21 (.int .i32)⟩] .d))) .d))),kt [] false,[],f260⟩
def t4(a:LX)(f g:Int)(b:LX):S:=⟨[(0,vw a),(2,vi f),(7,.own 0),(8,vi g)],[Aw 21 b],[]⟩
def z4:Nat->S->Option R_:=H.i P_ [r,r,l,r,d]
theorem i4(a:LX)(f:Int):∀(q:Nat) (g:Int) (b:LX),z4 q (t4 a f g b)=Ex a f q g b:=
 ind (λ_ _=>by kernel_rfl) λq ih g b=>Eq.trans (b:=Kb Yy (λg b=>(z4 q) (t4 a f g b)) a f g b) F2 (by simp only[ih]<;>rfl)
def k:Kc P_ gl:=⟨(260,⟨H.p,H.r,u3 Ny⟩),co H func260 (λx=>Eq.trans (b:=u3 (Qr (λa f g b=>z4 Cg (t4 a f g b))) x) F2 (by simp only[i4,Am]<;>rfl))⟩
end F260
namespace F304
abbrev R_:=Int32
def H:Hd:=⟨[Si,Sx],[Sx],(.seq .d (.seq .d (.cut [1,5] [] .d .d))),kt [] false,[],f304⟩
def k:Kc P_ gl:=⟨(304,⟨H.p,H.r,u2 La⟩),co H func304⟩
end F304
namespace F289
def H:Hd:=⟨[.agg [Si,Sx,.agg [Si,.lf (.vec 16 (.int .i32)) none,.lf (.vec 16 (.int .i32)) none]]],[Si],.d,kt [F304.k] false,[],f289⟩
def k:Kc P_ gl:=⟨(289,⟨H.p,H.r,u5 Lb⟩),co H func289⟩
end F289
namespace F314
abbrev R_:=Int32
def H:Hd:=⟨[.agg [Si,.lf (.vec 16 (.int .i32)) none,.lf (.vec 16 (.int .i32)) none]],[Sx],(.seq .d (.seq .d (.cut [3] [] (.seq .d (.blk (.loop [1,3,4] [] .d))) .d))),kt [F288.k] false,[],f314⟩
def t4(h:Int)(b f:LX)(g a:Int):S:=⟨[(1,.ptr 0 []),(3,vi g),(4,vi a)],[.box 257 (.agg [vi h,.val (.vec 16 (.int .i32)) b,.val (.vec 16 (.int .i32)) f])],[]⟩
def z4:Nat->S->Option R_:=H.i P_ [r,r,l,r,d]
theorem i4(h:Int)(b f:LX):∀(q:Nat) (g a:Int),z4 q (t4 h b f g a)=Ij h b f q g a:=
 ind (λ_ _=>by kernel_rfl) λq ih g a=>Eq.trans (b:=Ou Wf (λg a=>(z4 q) (t4 h b f g a)) h b f g a) F2 (by simp only[ih]<;>rfl)
def k:Kc P_ gl:=⟨(314,⟨H.p,H.r,u3 EE⟩),co H func314 (λx=>Eq.trans (b:=u3 (IW (λh b f g a=>z4 Cg (t4 h b f g a))) x) F2 (by simp only[i4,Am]<;>rfl))⟩
end F314
namespace F305
abbrev R_:=Int32
def H:Hd:=⟨[.agg [Si,.lf (.vec 16 (.int .i32)) none,.lf (.vec 16 (.int .i32)) none]],[Sx],(.seq .d (.seq .d (.cut [1,3] [] .d .d))),kt [F288.k,F314.k] false,[],f305⟩
def k:Kc P_ gl:=⟨(305,⟨H.p,H.r,u3 Nx⟩),co H func305⟩
end F305
namespace F315
def H:Hd:=⟨[Si],[Sx],.d,kt [] false,[],f315⟩
def k:Kc P_ gl:=⟨(315,⟨H.p,H.r,Un⟩),co H func315⟩
end F315
namespace F316
def H:Hd:=⟨[Sx],[Sx],.d,kt [] false,[],f316⟩
def k:Kc P_ gl:=⟨(316,⟨H.p,H.r,Nr⟩),co H func316⟩
end F316
namespace F307
abbrev R_:=(Int×LX×LX)
def H:Hd:=⟨[.agg [Si,.lf (.vec 16 (.int .i32)) none,.lf (.vec 16 (.int .i32)) none],Sx],[.agg [Si,.lf (.vec 16 (.int .i32)) none,.lf (.vec 16 (.int .i32)) none]],(.seq .d (.cut [2,4] [] (.seq .d (.blk (.loop [1,2,4,5] [] .d))) .d)),kt [F315.k,F316.k] false,[],f307⟩
def t4(h:Int32)(g:Int)(b:LX)(a:Int)(f:LX):S:=⟨[(1,vx h),(2,.ptr 0 []),(4,.ptr 1 []),(5,vi a)],[.box 257 (.agg [vi g,.val (.vec 16 (.int .i32)) f,.val (.vec 16 (.int .i32)) b]),.box 257 (.agg [vi 0,.val (.vec 16 (.int .i32)) (List.replicate 16 (0:Int32)),.val (.vec 16 (.int .i32)) (List.replicate 16 (0:Int32))])],[]⟩
def z4:Nat->S->Option R_:=H.i P_ [r,l,r,d]
theorem i4(h:Int32)(g:Int)(b:LX):∀(q:Nat) (a:Int) (f:LX),z4 q (t4 h g b a f)=Ez h g b q a f:=
 ind (λ_ _=>by kernel_rfl) λq ih a f=>Eq.trans (b:=Ke Zt (λa f=>(z4 q) (t4 h g b a f)) h g b a f) F2 (by simp only[ih]<;>rfl)
def k:Kc P_ gl:=⟨(307,⟨H.p,H.r,u4 Nt⟩),co H func307 (λx=>Eq.trans (b:=u4 (Zk (λh g b a f=>z4 Cg (t4 h g b a f))) x) F2 (by simp only[i4,Am]<;>rfl))⟩
end F307
namespace F306
abbrev R_:=(Int×LX×LX)
def H:Hd:=⟨[.agg [Si,.lf (.vec 16 (.int .i32)) none,.lf (.vec 16 (.int .i32)) none],Sx],[.agg [Si,.lf (.vec 16 (.int .i32)) none,.lf (.vec 16 (.int .i32)) none]],(.seq .d (.cut [1,2,4] [] (.seq .d (.blk (.loop [1,2,4,5] [] .d))) .d)),kt [] false,[],f306⟩
def t4(b:Int32)(f:Int)(g:LX)(h:Int)(a:LX):S:=⟨[(1,vx b),(2,.ptr 0 []),(4,.ptr 1 []),(5,vi h)],[.box 257 (.agg [vi f,.val (.vec 16 (.int .i32)) g,.val (.vec 16 (.int .i32)) a]),.box 257 (.agg [vi 0,.val (.vec 16 (.int .i32)) (List.replicate 16 (0:Int32)),.val (.vec 16 (.int .i32)) (List.replicate 16 (0:Int32))])],[]⟩
def z4:Nat->S->Option R_:=H.i P_ [r,l,r,d]
theorem i4(b:Int32)(f:Int)(g:LX):∀(q:Nat) (h:Int) (a:LX),z4 q (t4 b f g h a)=Fw b f g q h a:=
 ind (λ_ _=>by kernel_rfl) λq ih h a=>Eq.trans (b:=Lq Ri (λh a=>(z4 q) (t4 b f g h a)) b f g h a) F2 (by simp only[ih]<;>rfl)
def k:Kc P_ gl:=⟨(306,⟨H.p,H.r,u4 Oy⟩),co H func306 (λx=>Eq.trans (b:=u4 (AY (λb f g h a=>z4 Cg (t4 b f g h a))) x) F2 (by simp only[i4,Am]<;>rfl))⟩
end F306
namespace F290
def H:Hd:=⟨[.agg [Si,.lf (.vec 16 (.int .i32)) none,.lf (.vec 16 (.int .i32)) none],Sx],[Sx,.agg [Si,.lf (.vec 16 (.int .i32)) none,.lf (.vec 16 (.int .i32)) none]],.d,kt [F288.k,F305.k,F306.k,F307.k] false,[],f290⟩
def k:Kc P_ gl:=⟨(290,⟨H.p,H.r,u4 Uk⟩),co H func290⟩
end F290
namespace F261
def H:Hd:=⟨[.agg [Si,Sx,.agg [Si,.lf (.vec 16 (.int .i32)) none,.lf (.vec 16 (.int .i32)) none]],Sx],[Sx,.agg [Si,Sx,.agg [Si,.lf (.vec 16 (.int .i32)) none,.lf (.vec 16 (.int .i32)) none]]],.d,kt [F288.k,F289.k,F290.k] false,[],f261⟩
def k:Kc P_ gl:=⟨(261,⟨H.p,H.r,u6 Od⟩),co H func261⟩
end F261
namespace F262
def H:Hd:=⟨[Sx],[Su],.d,kt [] false,[],f262⟩
def k:Kc P_ gl:=⟨(262,⟨H.p,H.r,Uo⟩),co H func262⟩
end F262
namespace F237
def Qv(j22:Int->Int32->LU->Int->Int32->Int->LX->LX->Int->Int32->Int->LX->LX->Option (LU))(j24:Int->LU->Option (LU))(a b:Int)(f g:LX)(h:Int)(k:LX)(m:Int)(n:LU)(p:Int)(u:Int32)(v:Int)(w y:LX):Option (LU):=
if(Cj m (Ac k))then
(Ah k m).bind λ_=>
(Ah k m).bind λah=>
(λaq:Option (LU)=>
bo (
aq)) (
(Od p u v w y ah).bind λ(aa,ab,ac,ad,ae,af)=>
j22 m aa n p u v w y ab ac ad ae af)
else
j24 h n
theorem LC: @Qv= @If:=by
  unfold Qv If;simp only[bH,JT,ME]
abbrev R_:=LU
abbrev K_:=S->Option R_
def H:Hd:=⟨[.agg [Si,Si],.lf (.vec 16 (.int .i32)) none,Sw],[Ov 201],(.seq .d (.seq .d (.seq .d (.cut [9] [] (.seq .d (.blk (.loop [3,4,7,9,10] [] (.seq .d (.cut [3,4,7,9,10] [] (.blk (.seq .d (.seq .d (.seq .d (.blk (.loop [3,4,7,9,10,11,13,14] [] (.seq .d (.seq (.blk (.cut [3,4,7,9,10,11,13,14,15,16] [] .d .d)) .d)))))))) .d))))) .d)))),kt [F258.k,F259.k,F260.k,F261.k,F262.k] false,[],f237⟩
def t20(a b:Int)(f g:LX)(h:Int)(k:LX)(m:Int)(n:LU)(p:Int)(u:Int32)(v:Int)(w y:LX):S:=⟨[(3,.ptr 0 []),(4,.ptr 1 []),(7,.own 2),(9,.own 3),(10,vi h),(11,.ptr 4 []),(13,.own 5),(14,vi m)],[.box 23 (.agg [vi a,vi b]),.box 132 (.val (.vec 16 (.int .i32)) f),Aw 21 g,Av 201 n,.box 259 (.agg [vi p,vx u,.agg [vi v,.val (.vec 16 (.int .i32)) w,.val (.vec 16 (.int .i32)) y]]),Aw 21 k],[]⟩
def z20(oV:K_):Nat->S->Option R_:=H.i P_ [r,r,r,l,r,d,(lp oV),r,l,d,r,r,r,d]
def t14(a b:Int)(f g:LX)(h:Int)(o:LU):S:=⟨[(3,.ptr 0 []),(4,.ptr 1 []),(7,.own 2),(9,.own 3),(10,vi h)],[.box 23 (.agg [vi a,vi b]),.box 132 (.val (.vec 16 (.int .i32)) f),Aw 21 g,Av 201 o],[]⟩
def z14:Nat->S->Option R_:=H.i P_ [r,r,r,l,r,d]
def x20(oV:K_)(a b:Int)(f g:LX)(h:Int)(k:LX)(m:Int)(n:LU)(p:Int)(u:Int32)(v:Int)(w y:LX):Option R_:=H.e P_ [r,r,r,l,r,d,(lp oV),r,l,d,r,r,r,d] (t20 a b f g h k m n p u v w y)
theorem i20(oV:K_)(a b:Int)(f g:LX)(h:Int)(k:LX):∀(q:Nat) (m:Int) (n:LU) (p:Int) (u:Int32) (v:Int) (w y:LX),z20 oV q (t20 a b f g h k m n p u v w y)=Fp (λh o=>oV (t14 a b f g h o)) a b f g h k q m n p u v w y:=
 ind (λ_ _ _ _ _ _ _=>by kernel_rfl) λq ih m n p u v w y=>Eq.trans (b:=Qv (Rr (λm n p u v w y=>(z20 oV q) (t20 a b f g h k m n p u v w y)) h a b f g k) (Rt (λh o=>oV (t14 a b f g h o)) a b f g) a b f g h k m n p u v w y) F2 (by rw[LC];simp only[ih]<;>rfl)
theorem e20(oV:K_)(a b:Int)(f g:LX):x20 oV a b f g=Sa (λh o=>oV (t14 a b f g h o)) a b f g:=by funext h k m n p u v w y;exact Eq.trans F2 ((i20 oV a b f g h k Cg m n p u v w y).trans (by rw[Am];rfl))
theorem i14(a b:Int)(f g:LX):∀(q:Nat) (h:Int) (o:LU),z14 q (t14 a b f g h o)=Dz a b f g q h o:=
 ind (λ_ _=>by kernel_rfl) λq ih h o=>Eq.trans (b:=Lj (x20 (z14 q) a b f g) BI a b f g h o) F2 (by simp only[e20,ih]<;>rfl)
def k:Kc P_ gl:=⟨(237,⟨H.p,H.r,u4 Sd⟩),co H func237 (λx=>Eq.trans (b:=u4 (Ua (λa b f g h o=>z14 Cg (t14 a b f g h o))) x) F2 (by simp only[i14,Am]<;>rfl))⟩
end F237
namespace F278
def H:Hd:=⟨[],[.agg [Si,Si,Sq,Sq]],.d,kt [] false,[],f278⟩
def k:Kc P_ gl:=⟨(278,⟨H.p,H.r,λ_=>Mi⟩),co H func278⟩
end F278
namespace F300
abbrev R_:=UInt64
def H:Hd:=⟨[Si],[Sq],(.seq .d (.seq .d (.cut [3] [] (.seq .d (.blk (.loop [0,3,4] [] .d))) .d))),kt [] false,[],f300⟩
def t4(b:Int)(a:UInt64)(f:Int):S:=⟨[(0,vi b),(3,vq a),(4,vi f)],[],[]⟩
def z4:Nat->S->Option R_:=H.i P_ [r,r,l,r,d]
theorem i4(b:Int):∀(q:Nat) (a:UInt64) (f:Int),z4 q (t4 b a f)=Gl b q a f:=
 ind (λ_ _=>by kernel_rfl) λq ih a f=>Eq.trans (b:=Mw DG (λa f=>(z4 q) (t4 b a f)) b a f) F2 (by simp only[ih]<;>rfl)
def k:Kc P_ gl:=⟨(300,⟨H.p,H.r,Dg⟩),co H func300 (λx=>Eq.trans (b:=DB (λb a f=>z4 Cg (t4 b a f)) x) F2 (by simp only[i4,Am]<;>rfl))⟩
end F300
namespace F280
def H:Hd:=⟨[.agg [Si,Si,Sq,Sq],Su],[Sz],.d,kt [F300.k] false,[],f280⟩
def k:Kc P_ gl:=⟨(280,⟨H.p,H.r,u5 Jc⟩),co H func280⟩
end F280
namespace F284
def H:Hd:=⟨[.agg [Si,Si,Sq,Sq],Su],[Su],.d,kt [F300.k] false,[],f284⟩
def k:Kc P_ gl:=⟨(284,⟨H.p,H.r,u5 Dq⟩),co H func284⟩
end F284
namespace F299
abbrev R_:=(Int×UInt64)
def H:Hd:=⟨[Si,Sq,Sq],[Si,Sq],(.seq .d (.seq .d (.cut [0,1] [] .d .d))),kt [F300.k] false,[],f299⟩
def k:Kc P_ gl:=⟨(299,⟨H.p,H.r,u3 Hw⟩),co H func299⟩
end F299
namespace F279
def Pq(j2:UInt32->Int->Int->UInt64->UInt64->Int->UInt64->Option (Int×Int×UInt64×UInt64))(g a:Int)(h b:UInt64)(f:UInt32):Option (Int×Int×UInt64×UInt64):=
(Jc g a h b f).bind λo=>
if(!o)then
(λu:Option (Int×Int×UInt64×UInt64)=>
(λp:Option (Int×Int×UInt64×UInt64)=>
(λv:Option (Int×Int×UInt64×UInt64)=>
both (
v) [
v,
both (
p) [
p,
(Dq g a h b f).bind λk=>
(λac:Option (Int×Int×UInt64×UInt64)=>
bo (
ac)) (
(Hw a b (Ad k:UInt64)).bind λ(m,n)=>
j2 f g a h b m n)]]) (
both (
u) [
p])) (
bo (
u))) (
(Dq g a h b f).bind λk=>
(Hw a b (Ad k:UInt64)).bind λ(m,n)=>
j2 f g a h b m n)
else
j2 f g a h b a b
theorem MJ: @Pq= @Lh:=by
  unfold Pq Lh
  try simp only[bH,JT,ME]
  all_goals
    repeat (refine funext λ_=>?_)
    repeat' first
      |with_reducible rfl
      |with_reducible refine Qs ?_ ?_
      |with_reducible refine Pv ?_ ?_ ?_
      |with_reducible refine Qw ?_ ?_ ?_ ?_
      |((with_reducible refine Vy ?_ ?_);focus (intro h;first|(subst h;rfl)|(simp only[h];rfl)|(simp[Bx,Ac,h];done)))
      |with_reducible refine Vp λx=>?_
      |with_reducible refine EK (λ_=>?_) (λ_=>?_)
      |(refine Iy (λh=>by simp only[h,Vv,Gj,Fq,ite_self]) (λx h=>?_);(try simp only[h,Gj]))
      |(refine Me (λh=>?_) (λh=>?_)<;>simp only[h,if_true,if_false,Bool.false_eq_true])
abbrev R_:=(Int×Int×UInt64×UInt64)
def H:Hd:=⟨[.agg [Si,Si,Sq,Sq],Su],[.agg [Si,Si,Sq,Sq]],(.seq .d (.seq .d (.cut [1,2,4,5] [] (.seq .d (.cond (.mode false) .d)) .d))),kt [F280.k,F284.k,F299.k] false,[],f279⟩
def k:Kc P_ gl:=⟨(279,⟨H.p,H.r,u5 Kq⟩),co H func279 (λx=>Eq.trans (b:=u5 (Pq Li) x) F2 (by simp only[MJ]<;>rfl))⟩
end F279
namespace F255
abbrev R_:=((List (Int×Int×UInt64×UInt64×Unit)))
def H:Hd:=⟨[Si,Sv],[.lf (.list (.cons (.int .i64) (.cons (.int .i64) (.cons (.int .u64) (.cons (.int .u64) .nil))))) (some 196)],(.seq .d (.seq .d (.cut [5] [] (.seq .d (.blk (.loop [0,1,5,6] [⟨5,[],.own 196 (.cons (.int .i64) (.cons (.int .i64) (.cons (.int .u64) (.cons (.int .u64) .nil))))⟩] .d))) .d))),kt [F278.k,F279.k] false,[],f255⟩
def t4(b:Int)(g:LU)(f:Int)(a:List (Int×Int×UInt64×UInt64×Unit)):S:=⟨[(0,vi b),(1,vv g),(5,.own 0),(6,vi f)],[.arr 196 (.cons (.int .i64) (.cons (.int .i64) (.cons (.int .u64) (.cons (.int .u64) .nil)))) a],[]⟩
def z4:Nat->S->Option R_:=H.i P_ [r,r,l,r,d]
theorem i4(b:Int)(g:LU):∀(q:Nat) (f:Int) (a:List (Int×Int×UInt64×UInt64×Unit)),z4 q (t4 b g f a)=Fs b g q f a:=
 ind (λ_ _=>by kernel_rfl) λq ih f a=>Eq.trans (b:=Lo CD (λf a=>(z4 q) (t4 b g f a)) b g f a) F2 (by simp only[ih]<;>rfl)
def k:Kc P_ gl:=⟨(255,⟨H.p,H.r,u2 Pf⟩),co H func255 (λx=>Eq.trans (b:=u2 (So (λb g f a=>z4 Cg (t4 b g f a))) x) F2 (by simp only[i4,Am]<;>rfl))⟩
end F255
namespace F282
abbrev R_:=(LB×Int)
def H:Hd:=⟨[.agg [Ob 5,Si],Si],[.agg [Ob 5,Si]],(.seq .d (.cut [1,2,4] [] .d (.seq .d (.cut [1,2,4,5] [] (.seq .d (.blk (.loop [1,2,4,5,6] [] .d))) .d)))),kt [] false,[],f282⟩
def t6(b a:Int)(f:LB)(g h:Int):S:=⟨[(1,vi b),(2,.ptr 0 []),(4,.ptr 1 []),(5,vi g),(6,vi h)],[.box 200 (.agg [.own 2,vi a]),.box 200 (.agg [.nils,vi 0]),Ab 5 f],[]⟩
def z6:Nat->S->Option R_:=H.i P_ [r,r,r,l,r,d]
theorem i6(b a:Int)(f:LB):∀(q:Nat) (g h:Int),z6 q (t6 b a f g h)=Ip b a f q g h:=
 ind (λ_ _=>by kernel_rfl) λq ih g h=>Eq.trans (b:=Pp Pa (λg h=>(z6 q) (t6 b a f g h)) b a f g h) F2 (by simp only[ih]<;>rfl)
def k:Kc P_ gl:=⟨(282,⟨H.p,H.r,u3 By⟩),co H func282 (λx=>Eq.trans (b:=u3 (Wl (Wv (λb a f g h=>z6 Cg (t6 b a f g h)))) x) F2 (by simp only[i6,Am]<;>rfl))⟩
end F282
namespace F281
abbrev R_:=(LB×Int)
def H:Hd:=⟨[.agg [Ob 5,Si],Sq,Si],[.agg [Ob 5,Si]],(.seq .d (.cut [3,6] [] (.seq .d (.blk (.loop [1,2,3,6,7] [] .d))) .d)),kt [F282.k] false,[],f281⟩
def t4(f:Int)(g:UInt64)(h a:Int)(b:LB):S:=⟨[(1,vq g),(2,vi f),(3,.ptr 0 []),(6,.ptr 1 []),(7,vi h)],[.box 200 (.agg [.own 2,vi a]),.box 200 (.agg [.nils,vi 0]),Ab 5 b],[]⟩
def z4:Nat->S->Option R_:=H.i P_ [r,l,r,d]
theorem i4(f:Int):∀(q:Nat) (g:UInt64) (h a:Int) (b:LB),z4 q (t4 f g h a b)=Ft f q g h a b:=
 ind (λ_ _ _ _=>by kernel_rfl) λq ih g h a b=>Eq.trans (b:=Ln BO (λg h a b=>(z4 q) (t4 f g h a b)) f g h a b) F2 (by simp only[ih]<;>rfl)
def k:Kc P_ gl:=⟨(281,⟨H.p,H.r,u4 Ik⟩),co H func281 (λx=>Eq.trans (b:=u4 (CQ (λf g h a b=>z4 Cg (t4 f g h a b))) x) F2 (by simp only[i4,Am]<;>rfl))⟩
end F281
namespace F301
def H:Hd:=⟨[Su,Si],[Si],.d,kt [F300.k] false,[],f301⟩
def k:Kc P_ gl:=⟨(301,⟨H.p,H.r,u2 Ns⟩),co H func301⟩
end F301
namespace F302
abbrev R_:=(LB×Int)
def H:Hd:=⟨[.agg [Ob 5,Si],Si],[.agg [Ob 5,Si]],(.seq .d (.cut [1,2,4] [] (.seq .d (.blk (.loop [1,2,4,5] [] .d))) .d)),kt [F282.k] false,[],f302⟩
def t4(a g b:Int)(f:LB):S:=⟨[(1,vi a),(2,.ptr 0 []),(4,.ptr 1 []),(5,vi g)],[.box 200 (.agg [.own 2,vi b]),.box 200 (.agg [.nils,vi 0]),Ab 5 f],[]⟩
def z4:Nat->S->Option R_:=H.i P_ [r,l,r,d]
theorem i4(a:Int):∀(q:Nat) (g b:Int) (f:LB),z4 q (t4 a g b f)=Ii a q g b f:=
 ind (λ_ _ _=>by kernel_rfl) λq ih g b f=>Eq.trans (b:=Pd Xb (λg b f=>(z4 q) (t4 a g b f)) a g b f) F2 (by simp only[ih]<;>rfl)
def k:Kc P_ gl:=⟨(302,⟨H.p,H.r,u3 EG⟩),co H func302 (λx=>Eq.trans (b:=u3 (JA (λa g b f=>z4 Cg (t4 a g b f))) x) F2 (by simp only[i4,Am]<;>rfl))⟩
end F302
namespace F283
def H:Hd:=⟨[.agg [Ob 5,Si],Su,Si],[.agg [Ob 5,Si]],.d,kt [F281.k,F300.k,F301.k,F302.k] false,[],f283⟩
def k:Kc P_ gl:=⟨(283,⟨H.p,H.r,u4 Jg⟩),co H func283⟩
end F283
namespace F256
def Ux(b:UInt32)(g f a:Int)(h k:UInt64)(m:LB):Option (LB×Int):=
(λw:Option (LB×Int)=>
(λac:Option (LB×Int)=>
(λad:Option (LB×Int)=>
both (
both (
(By m g 1).bind λ(n,o)=>
(λae:Option (LB×Int)=>
both (
bo (
ae)) [
ae]) (
(Dq f a h k b).bind λp=>
(Jg n o p a).bind λ(u,v)=>
some (u,v))) [
ac,
ad]) [
both (
ac) [
w],
both (
ad) [
w]]) (
bo (
w))) (
both (
(By m g 1).bind λ(n,o)=>
(λag:Option (LB×Int)=>
bo (
ag)) (
(Dq f a h k b).bind λp=>
(Jg n o p a).bind λ(u,v)=>
some (u,v))) [
w])) (
(By m g 1).bind λ(n,o)=>
(Dq f a h k b).bind λp=>
(Jg n o p a).bind λ(u,v)=>
some (u,v))
theorem RY: @Ux= @Pn:=by
  unfold Ux Pn
  try simp only[bH,JT,ME]
  all_goals
    repeat (refine funext λ_=>?_)
    repeat' first
      |with_reducible rfl
      |with_reducible refine Qs ?_ ?_
      |with_reducible refine Pv ?_ ?_ ?_
      |with_reducible refine Qw ?_ ?_ ?_ ?_
      |((with_reducible refine Vy ?_ ?_);focus (intro h;first|(subst h;rfl)|(simp only[h];rfl)|(simp[Bx,Ac,h];done)))
      |with_reducible refine Vp λx=>?_
      |with_reducible refine EK (λ_=>?_) (λ_=>?_)
      |(refine Iy (λh=>by simp only[h,Vv,Gj,Fq,ite_self]) (λx h=>?_);(try simp only[h,Gj]))
      |(refine Me (λh=>?_) (λh=>?_)<;>simp only[h,if_true,if_false,Bool.false_eq_true])
def Vb(j2:UInt32->Int->Int->Int->UInt64->UInt64->LB->Option (LB×Int))(m:LB)(g f a:Int)(h k:UInt64)(b:UInt32):Option (LB×Int):=
(Jc f a h k b).bind λy=>
if y then
(λaf:Option (LB×Int)=>
both (
bo (
af)) [
af]) (
(By m g 0).bind λ(n,o)=>
(Ik n o (Ad b:UInt64) f).bind λ(aa,ab)=>
some (aa,ab))
else
j2 b g f a h k m
theorem SB: @Vb= @Pj:=by
  unfold Vb Pj
  try simp only[bH,JT,ME]
  all_goals
    repeat (refine funext λ_=>?_)
    repeat' first
      |with_reducible rfl
      |with_reducible refine Qs ?_ ?_
      |with_reducible refine Pv ?_ ?_ ?_
      |with_reducible refine Qw ?_ ?_ ?_ ?_
      |((with_reducible refine Vy ?_ ?_);focus (intro h;first|(subst h;rfl)|(simp only[h];rfl)|(simp[Bx,Ac,h];done)))
      |with_reducible refine Vp λx=>?_
      |with_reducible refine EK (λ_=>?_) (λ_=>?_)
      |(refine Iy (λh=>by simp only[h,Vv,Gj,Fq,ite_self]) (λx h=>?_);(try simp only[h,Gj]))
      |(refine Me (λh=>?_) (λh=>?_)<;>simp only[h,if_true,if_false,Bool.false_eq_true])
abbrev R_:=(LB×Int)
def H:Hd:=⟨[.agg [Ob 5,Si],.agg [Si,Si,Sq,Sq],Su],[.agg [Ob 5,Si]],(.seq .d (.cut [2,3,4,6] [] (.seq .d (.cond (.seq (.mode false) .d) .d)) (.seq (.mode false) .d))),kt [F280.k,F281.k,F282.k,F283.k,F284.k] false,[],f256⟩
def x2(b:UInt32)(g f a:Int)(h k:UInt64)(m:LB):Option R_:=H.e P_ [r,r] ⟨[(2,vu b),(3,.ptr 0 []),(4,.ptr 1 []),(6,.ptr 2 [])],[.box 200 (.agg [.own 3,vi g]),.box 196 (.agg [vi f,vi a,vq h,vq k]),.box 200 (.agg [.nils,vi 0]),Ab 5 m],[]⟩
theorem e2:x2=Wj:=Eq.trans (b:=Ux) F2 (by rw[RY];rfl)
def k:Kc P_ gl:=⟨(256,⟨H.p,H.r,u7 Fl⟩),co H func256 (λx=>Eq.trans (b:=u7 (Vb x2) x) F2 (by rw[SB];simp only[e2]<;>rfl))⟩
end F256
namespace F291
abbrev R_:=UInt32
def H:Hd:=⟨[Su,Si],[Su],(.seq .d (.seq .d (.cut [0,5] [] .d .d))),kt [] false,[],f291⟩
def k:Kc P_ gl:=⟨(291,⟨H.p,H.r,u2 Ul⟩),co H func291⟩
end F291
namespace F263
abbrev R_:=UInt32
def H:Hd:=⟨[Su,Sc],[Su],(.seq .d (.cut [0] [] (.seq .d (.blk (.loop [0,1,5] [] .d))) .d)),kt [F291.k] false,[],f263⟩
def t4(a:UInt32)(b:UInt8)(f:Int):S:=⟨[(0,vu a),(1,vc b),(5,vi f)],[],[]⟩
def z4:Nat->S->Option R_:=H.i P_ [r,l,r,d]
theorem i4:∀(q:Nat) (a:UInt32) (b:UInt8) (f:Int),z4 q (t4 a b f)=Hh q a b f:=
 ind (λ_ _ _=>by kernel_rfl) λq ih a b f=>Eq.trans (b:=Oe Vl (λa b f=>(z4 q) (t4 a b f)) a b f) F2 (by simp only[ih]<;>rfl)
def k:Kc P_ gl:=⟨(263,⟨H.p,H.r,u2 CG⟩),co H func263 (λx=>Eq.trans (b:=u2 (HN (λa b f=>z4 Cg (t4 a b f))) x) F2 (by simp only[i4,Am]<;>rfl))⟩
end F263
namespace F238
abbrev R_:=UInt32
def H:Hd:=⟨[Su,Sb],[Su],(.seq .d (.cut [0] [] (.seq .d (.blk (.loop [0,1,5] [] .d))) .d)),kt [F263.k] false,[],f238⟩
def t4(a:LB)(b:UInt32)(f:Int):S:=⟨[(0,vu b),(1,vb a),(5,vi f)],[],[]⟩
def z4:Nat->S->Option R_:=H.i P_ [r,l,r,d]
theorem i4(a:LB):∀(q:Nat) (b:UInt32) (f:Int),z4 q (t4 a b f)=Fv a q b f:=
 ind (λ_ _=>by kernel_rfl) λq ih b f=>Eq.trans (b:=Lg Ta (λb f=>(z4 q) (t4 a b f)) a b f) F2 (by simp only[ih]<;>rfl)
def k:Kc P_ gl:=⟨(238,⟨H.p,H.r,u2 We⟩),co H func238 (λx=>Eq.trans (b:=u2 (Rn (λa b f=>z4 Cg (t4 a b f))) x) F2 (by simp only[i4,Am]<;>rfl))⟩
end F238
namespace F201
def H:Hd:=⟨[Sb],[Su],.d,kt [F238.k] false,[],f201⟩
def k:Kc P_ gl:=⟨(201,⟨H.p,H.r,Fk⟩),co H func201⟩
end F201
namespace F257
def H:Hd:=⟨[Sb],[Ob 5],.d,kt [F201.k] false,[],f257⟩
def k:Kc P_ gl:=⟨(257,⟨H.p,H.r,Ky⟩),co H func257⟩
end F257
namespace F236
def Qz(j37:Int->Int->LB->Int->LB->Option (LB))(j44:LB->Option (LB))(f:LU)(b:List (Int×Int×UInt64×UInt64×Unit))(n a:Int)(k:LB):Option (LB):=
if(Cj a (Ac f))then
(Ah b a).bind λ_=>
(Ah f a).bind λv=>
(λaa:Option (LB)=>
(λy:Option (LB)=>
(λab:Option (LB)=>
(λac:Option (LB)=>
(λad:Option (LB)=>
both (
both (
ad) [
ac,
y]) [
(Ah b a).bind λp=>
(λae:Option (LB)=>
(λaf:Option (LB)=>
(λag:Option (LB)=>
both (
ag) [
ag,
af]) (
both (
af) [
ae])) (
bo (
ae))) (
(Fl ([]:LB) 0 p.1 p.2.1 p.2.2.1 p.2.2.2.1 v).bind λ(g,h)=>
j37 n a k h g),
both (
ac) [
ad,
y],
both (
y) [
ab,
y]]) (
(Ah b a).bind λp=>
(λah:Option (LB)=>
both (
bo (
ah)) [
ah]) (
(Fl ([]:LB) 0 p.1 p.2.1 p.2.2.1 p.2.2.2.1 v).bind λ(g,h)=>
j37 n a k h g))) (
both (
ab) [
aa])) (
(Ah b a).bind λp=>
(λao:Option (LB)=>
bo (
ao)) (
(Fl ([]:LB) 0 p.1 p.2.1 p.2.2.1 p.2.2.2.1 v).bind λ(g,h)=>
j37 n a k h g))) (
bo (
aa))) (
(Ah b a).bind λp=>
(Fl ([]:LB) 0 p.1 p.2.1 p.2.2.1 p.2.2.2.1 v).bind λ(g,h)=>
j37 n a k h g)
else
j44 k
theorem MI: @Qz= @Hz:=by
  unfold Qz Hz
  try simp only[bH,JT,ME]
  all_goals
    repeat (refine funext λ_=>?_)
    repeat' first
      |with_reducible rfl
      |with_reducible refine Qs ?_ ?_
      |with_reducible refine Pv ?_ ?_ ?_
      |with_reducible refine Qw ?_ ?_ ?_ ?_
      |((with_reducible refine Vy ?_ ?_);focus (intro h;first|(subst h;rfl)|(simp only[h];rfl)|(simp[Bx,Ac,h];done)))
      |with_reducible refine Vp λx=>?_
      |with_reducible refine EK (λ_=>?_) (λ_=>?_)
      |(refine Iy (λh=>by simp only[h,Vv,Gj,Fq,ite_self]) (λx h=>?_);(try simp only[h,Gj]))
      |(refine Me (λh=>?_) (λh=>?_)<;>simp only[h,if_true,if_false,Bool.false_eq_true])
abbrev R_:=LB
abbrev K_:=S->Option R_
def H:Hd:=⟨[Si,Sv],[Ob 5],(.seq .d (.seq .d (.seq .d (.seq .d (.cut [5] [] (.seq .d (.blk (.loop [1,5,6,7,8] [⟨5,[],.own 5 (.int .u8)⟩] (.seq .d (.cut [1,5,6,7,8] [] (.blk (.cut [1,5,6,7,8,9] [] (.mode false) (.seq .d (.blk (.loop [1,5,6,7,8,9,10] [] (.seq .d (.seq (.blk (.cut [1,5,6,7,8,9,10] [] .d .d)) .d))))))) .d))))) .d))))),kt [F255.k,F256.k,F257.k] false,[],f236⟩
def t38(f:LU)(b:List (Int×Int×UInt64×UInt64×Unit))(a h:Int)(g:LB)(m o:Int)(u:LB):S:=⟨[(1,vv f),(5,.own 0),(6,vi m),(7,.own 1),(8,vi a),(9,.ptr 2 []),(10,vi o)],[Ab 5 u,.arr 196 (.cons (.int .i64) (.cons (.int .i64) (.cons (.int .u64) (.cons (.int .u64) .nil)))) b,.box 200 (.agg [.own 3,vi h]),Ab 5 g],[]⟩
def z38(oW:K_):Nat->S->Option R_:=H.i P_ [r,r,r,r,l,r,d,(lp oW),r,l,d,r,r,d]
def t23(f:LU)(b:List (Int×Int×UInt64×UInt64×Unit))(n a:Int)(k:LB):S:=⟨[(1,vv f),(5,.own 0),(6,vi n),(7,.own 1),(8,vi a)],[Ab 5 k,.arr 196 (.cons (.int .i64) (.cons (.int .i64) (.cons (.int .u64) (.cons (.int .u64) .nil)))) b],[]⟩
def z23:Nat->S->Option R_:=H.i P_ [r,r,r,r,l,r,d]
def x38(oW:K_)(f:LU)(b:List (Int×Int×UInt64×UInt64×Unit))(a h:Int)(g:LB)(m o:Int)(u:LB):Option R_:=H.e P_ [r,r,r,r,l,r,d,(lp oW),r,l,d,r,r,d] (t38 f b a h g m o u)
theorem i38(oW:K_)(f:LU)(b:List (Int×Int×UInt64×UInt64×Unit))(a h:Int)(g:LB):∀(q:Nat) (m o:Int) (u:LB),z38 oW q (t38 f b a h g m o u)=Dc (λn a k=>oW (t23 f b n a k)) f b a h g q m o u:=
 ind (λ_ _ _=>by kernel_rfl) λq ih m o u=>Eq.trans (b:=Ll (Lk (λm o u=>(z38 oW q) (t38 f b a h g m o u)) f a b h g) (Rj (λn a k=>oW (t23 f b n a k)) f b) f b a h g m o u) F2 (by simp only[ih]<;>rfl)
theorem e38(oW:K_)(f:LU)(b:List (Int×Int×UInt64×UInt64×Unit)):x38 oW f b=Rw (λn a k=>oW (t23 f b n a k)) f b:=by funext a h g m o u;exact Eq.trans F2 ((i38 oW f b a h g Cg m o u).trans (by rw[Am];rfl))
theorem i23(f:LU)(b:List (Int×Int×UInt64×UInt64×Unit)):∀(q:Nat) (n a:Int) (k:LB),z23 q (t23 f b n a k)=Dv f b q n a k:=
 ind (λ_ _ _=>by kernel_rfl) λq ih n a k=>Eq.trans (b:=Qz (Sr (x38 (z23 q) f b) f b) Ro f b n a k) F2 (by rw[MI];simp only[e38,ih]<;>rfl)
def k:Kc P_ gl:=⟨(236,⟨H.p,H.r,u2 Ye⟩),co H func236 (λx=>Eq.trans (b:=u2 (Tr (λf b n a k=>z23 Cg (t23 f b n a k))) x) F2 (by simp only[i23,Am]<;>rfl))⟩
end F236
namespace F199
def H:Hd:=⟨[.agg [Si,Si],.lf (.vec 16 (.int .i32)) none,Sw],[Ob 5,Si],.d,kt [F108.k,F236.k,F237.k] false,[],f199⟩
def k:Kc P_ gl:=⟨(199,⟨H.p,H.r,u4 Ld⟩),co H func199⟩
end F199
namespace F148
def H:Hd:=⟨[.agg [.agg [Si,Si],Si,Ss,Ob 5,Ow 21,.lf (.list (.list (.int .u8))) (some 24),Ob 5,Sz,Si]],[.agg [.agg [Si,Si],Si,Ss,Ob 5,Ow 21,.lf (.list (.list (.int .u8))) (some 24),Ob 5,Sz,Si]],.d,kt [F198.k,F199.k] false,[],f148⟩
def k:Kc P_ gl:=⟨(148,⟨H.p,H.r,zP Yl⟩),co H func148⟩
end F148
namespace F102
abbrev R_:=(Int×Int×Int×LB×LB×LX×(List LB)×LB×Bool×Int×Int)
def H:Hd:=⟨[.agg [.agg [Si,Si],Si,Ss,Ob 5,Ow 21,.lf (.list (.list (.int .u8))) (some 24),Ob 5,Sz,Si],Sc],[.agg [.agg [Si,Si],Si,Ss,Ob 5,Ow 21,.lf (.list (.list (.int .u8))) (some 24),Ob 5,Sz,Si],Si],(.seq .d (.seq .d (.seq .d (.cut [2,4] [] .d .d)))),kt [F20.k,F103.k,F104.k,F119.k,F146.k,F147.k,F148.k] false,[],f102⟩
def k:Kc P_ gl:=⟨(102,⟨H.p,H.r,og Jy⟩),co H func102⟩
end F102
namespace F57
def Ts(j8:Int->Int->Int->Int->Int->LB->Bool->Int->Int->Int->Int->LB->Bool->Int->LB->LX-> (List LB)->LB->Option (Int×Int×Int×LB×LB×LX×(List LB)×LB×Bool×Int×Int))(j10:Int->Int->Int->LB->Bool->Int->LB->LX-> (List LB)->LB->Option (Int×Int×Int×LB×LB×LX×(List LB)×LB×Bool×Int×Int))(a:LB)(n b f g:Int)(h:LB)(k:Bool)(m:Int)(o:LB)(p:LX)(u:List LB)(v:LB):Option (Int×Int×Int×LB×LB×LX×(List LB)×LB×Bool×Int×Int):=
if(Cj n (Ac a))then
(Ah a n).bind λaj=>
(λbi:Option (Int×Int×Int×LB×LB×LX×(List LB)×LB×Bool×Int×Int)=>
(λbj:Option (Int×Int×Int×LB×LB×LX×(List LB)×LB×Bool×Int×Int)=>
(λbk:Option (Int×Int×Int×LB×LB×LX×(List LB)×LB×Bool×Int×Int)=>
both (
bk) [
bk,
bj]) (
both (
bj) [
bi])) (
bo (
bi))) (
(Jy b f g h o p u v k m aj).bind λ(y,aa,ab,ac,af,ag,ah,ai,ad,ae,w)=>
j8 n w b f g h k m y aa ab ac ad ae af ag ah ai)
else
j10 b f g h k m o p u v
theorem OR: @Ts= @Jo:=by
  unfold Ts Jo
  try simp only[bH,JT,ME]
  all_goals
    repeat (refine funext λ_=>?_)
    repeat' first
      |with_reducible rfl
      |with_reducible refine Qs ?_ ?_
      |with_reducible refine Pv ?_ ?_ ?_
      |with_reducible refine Qw ?_ ?_ ?_ ?_
      |((with_reducible refine Vy ?_ ?_);focus (intro h;first|(subst h;rfl)|(simp only[h];rfl)|(simp[Bx,Ac,h];done)))
      |with_reducible refine Vp λx=>?_
      |with_reducible refine EK (λ_=>?_) (λ_=>?_)
      |(refine Iy (λh=>by simp only[h,Vv,Gj,Fq,ite_self]) (λx h=>?_);(try simp only[h,Gj]))
      |(refine Me (λh=>?_) (λh=>?_)<;>simp only[h,if_true,if_false,Bool.false_eq_true])
abbrev R_:=(Int×Int×Int×LB×LB×LX×(List LB)×LB×Bool×Int×Int)
abbrev K_:=S->Option R_
def H:Hd:=⟨[.agg [.agg [Si,Si],Si,Ss,Sb,Sw,.lf (.list (.list (.int .u8))) none,Sb,Sz,Si],Sb],[.agg [.agg [Si,Si],Si,Ss,Ob 5,Ow 21,.lf (.list (.list (.int .u8))) (some 24),Ob 5,Sz,Si],Si],(.seq .d (.seq .d (.seq .d (.seq .d (.cut [2,4] [] (.seq .d (.blk (.loop [1,2,4,8] [] (.seq .d (.seq (.blk (.cut [1,2,4,8,9,10] [] (.mode false) .d)) .d))))) .d))))),kt [F99.k,F100.k,F101.k,F102.k] false,[],f57⟩
def t6(a:LB)(n b f g:Int)(h:LB)(k:Bool)(m:Int)(o:LB)(p:LX)(u:List LB)(v:LB):S:=⟨[(1,vb a),(2,.ptr 0 []),(4,.ptr 1 []),(8,vi n)],[.box 33 (.agg [.agg [vi b,vi f],vi g,vs h,.own 2,.own 3,.own 4,.own 5,vt k,vi m]),.box 33 (.agg [.agg [vi 0,vi 0],vi 0,vs ([]:LB),.nils,.nils,.nils,.nils,vt false,vi 0]),Ab 5 o,Aw 21 p,.arr 24 (.list (.int .u8)) u,Ab 5 v],[]⟩
def z6:Nat->S->Option R_:=H.i P_ [r,r,r,r,l,r,d]
theorem i6(a:LB):∀(q:Nat) (n b f g:Int) (h:LB) (k:Bool) (m:Int) (o:LB) (p:LX) (u:List LB) (v:LB),z6 q (t6 a n b f g h k m o p u v)=Hg a q n b f g h k m o p u v:=
 ind (λ_ _ _ _ _ _ _ _ _ _ _=>by kernel_rfl) λq ih n b f g h k m o p u v=>Eq.trans (b:=Ts (Oh (λn b f g h k m o p u v=>(z6 q) (t6 a n b f g h k m o p u v)) a) Tz a n b f g h k m o p u v) F2 (by rw[OR];simp only[ih]<;>rfl)
def k:Kc P_ gl:=⟨(57,⟨H.p,H.r,og Nz⟩),co H func57 (λx=>Eq.trans (b:=og (Vd (λa n b f g h k m o p u v=>z6 Cg (t6 a n b f g h k m o p u v))) x) F2 (by simp only[i6,Am]<;>rfl))⟩
end F57
namespace F149
def H:Hd:=⟨[Ss],[Si],.d,kt [] false,[],f149⟩
def k:Kc P_ gl:=⟨(149,⟨H.p,H.r,Im⟩),co H func149⟩
end F149
namespace F200
abbrev R_:=LB
def H:Hd:=⟨[Sq,Si],[Ob 5],(.seq .d (.seq .d (.cut [5] [] (.seq .d (.blk (.loop [0,1,5,6] [⟨5,[],.own 5 (.int .u8)⟩] .d))) .d))),kt [] false,[],f200⟩
def t4(b:Int)(f:UInt64)(g:Int)(a:LB):S:=⟨[(0,vq f),(1,vi b),(5,.own 0),(6,vi g)],[Ab 5 a],[]⟩
def z4:Nat->S->Option R_:=H.i P_ [r,r,l,r,d]
theorem i4(b:Int):∀(q:Nat) (f:UInt64) (g:Int) (a:LB),z4 q (t4 b f g a)=Ew b q f g a:=
 ind (λ_ _ _=>by kernel_rfl) λq ih f g a=>Eq.trans (b:=Kg Pr (λf g a=>(z4 q) (t4 b f g a)) b f g a) F2 (by simp only[ih]<;>rfl)
def k:Kc P_ gl:=⟨(200,⟨H.p,H.r,u2 Al⟩),co H func200 (λx=>Eq.trans (b:=u2 (Qq (λb f g a=>z4 Cg (t4 b f g a))) x) F2 (by simp only[i4,Am]<;>rfl))⟩
end F200
namespace F150
def H:Hd:=⟨[.agg [Si,Si,Si,Si,Si]],[Ob 5],.d,kt [F200.k,F201.k] false,[],f150⟩
def k:Kc P_ gl:=⟨(150,⟨H.p,H.r,u5 Sm⟩),co H func150⟩
end F150
namespace F202
def H:Hd:=⟨[Ss],[Sq],.d,kt [F239.k] false,[],f202⟩
def k:Kc P_ gl:=⟨(202,⟨H.p,H.r,BP⟩),co H func202⟩
end F202
namespace F151
def H:Hd:=⟨[Ss],[Ob 5],.d,kt [F200.k,F202.k] false,[],f151⟩
def k:Kc P_ gl:=⟨(151,⟨H.p,H.r,Jt⟩),co H func151⟩
end F151
namespace F152
abbrev R_:=LB
def H:Hd:=⟨[Sl],[Ob 5],(.seq .d (.seq .d (.cut [3] [] (.seq .d (.blk (.loop [0,3,4] [⟨3,[],.own 5 (.int .u8)⟩] .d))) .d))),kt [F200.k,F201.k] false,[],f152⟩
def t4(b:LI)(f:Int)(a:LB):S:=⟨[(0,vl b),(3,.own 0),(4,vi f)],[Ab 5 a],[]⟩
def z4:Nat->S->Option R_:=H.i P_ [r,r,l,r,d]
theorem i4(b:LI):∀(q:Nat) (f:Int) (a:LB),z4 q (t4 b f a)=Gn b q f a:=
 ind (λ_ _=>by kernel_rfl) λq ih f a=>Eq.trans (b:=My Uc (λf a=>(z4 q) (t4 b f a)) b f a) F2 (by simp only[ih]<;>rfl)
def k:Kc P_ gl:=⟨(152,⟨H.p,H.r,Ys⟩),co H func152 (λx=>Eq.trans (b:=DX (λb f a=>z4 Cg (t4 b f a)) x) F2 (by simp only[i4,Am]<;>rfl))⟩
end F152
namespace F105
def Tx(j7:Int->Int->Int->LB->LB->LX->LB->Bool->Int->Int->Int-> (List LB)->Option (LB))(b f g:Int)(a h:LB)(ab:LX)(ac:List LB)(k:LB)(m:Bool)(n:Int):Option (LB):=
both (
(Im a).bind λp=>
both (
(Cv b f g a h ab ac k m n).bind λo=>
bo (
j7 b f g a h ab k m n p o ac)) [
(Cv b f g a h ab ac k m n).bind λo=>
j7 b f g a h ab k m n p o ac]) [
(Im a).bind λp=>
(Cv b f g a h ab ac k m n).bind λo=>
j7 b f g a h ab k m n p o ac]
theorem OQ: @Tx= @Nl:=by
  unfold Tx Nl
  repeat (refine funext λ_=>?_)
  repeat' first
    |with_reducible rfl
    |with_reducible refine Qs ?_ ?_
    |with_reducible refine Pv ?_ ?_ ?_
    |with_reducible refine Qw ?_ ?_ ?_ ?_
    |((with_reducible refine Vy ?_ ?_);focus (intro h;first|(subst h;rfl)|(simp only[h];rfl)|(simp[Bx,Ac,h];done)))
    |with_reducible refine Vp λx=>?_
    |with_reducible refine EK (λ_=>?_) (λ_=>?_)
    |(refine Iy (λh=>by simp only[h,Vv,Gj,Fq,ite_self]) (λx h=>?_);(try simp only[h,Gj]))
    |(refine Me (λh=>?_) (λh=>?_)<;>simp only[h,if_true,if_false,Bool.false_eq_true])
abbrev R_:=LB
def H:Hd:=⟨[.agg [.agg [Si,Si],Si,Ss,Sb,Sw,.lf (.list (.list (.int .u8))) (some 24),Sb,Sz,Si]],[Ob 5],(.seq .d (.cut [1,3] [] .d (.cut [1,3] [⟨1,[4],.ro (.int .i32)⟩] (.seq .d (.cond (.keep [1,3,27] true) .d)) (.seq .d (.seq .d (.cut [1,3,4,5] [] (.seq .d (.blk (.loop [1,3,4,5,6] [⟨4,[],.own 3 (.int .i64)⟩,⟨5,[],.own 5 (.int .u8)⟩] .d))) (.seq .d (.cut [4,5,7] [] .d .d)))))))),kt [F103.k,F149.k,F150.k,F151.k,F152.k,F198.k,F199.k] false,[(148,.d)],f105⟩
def t9(b f g:Int)(a h:LB)(aa:LX)(k:LB)(m:Bool)(n p o:Int)(u:List LB)(y:Int)(v:LI)(w:LB):S:=⟨[(1,.ptr 0 []),(3,.ptr 1 []),(4,.own 2),(5,.own 3),(6,vi y)],[.box 33 (.agg [.agg [vi b,vi f],vi g,vs a,vb h,vw aa,.own 4,vb k,vt m,vi n]),.box 139 (.agg [vi p,vi b,vi f,vi g,vi o]),Ai 3 v,Ab 5 w,.arr 24 (.list (.int .u8)) u],[]⟩
def z9:Nat->S->Option R_:=H.i P_ [r,r,r,r,r,l,r,d]
theorem i9(b f g:Int)(a h:LB)(aa:LX)(k:LB)(m:Bool)(n p o:Int)(u:List LB):∀(q:Nat) (y:Int) (v:LI) (w:LB),z9 q (t9 b f g a h aa k m n p o u y v w)=Hk b f g a h aa k m n p o u q y v w:=
 ind (λ_ _ _=>by kernel_rfl) λq ih y v w=>Eq.trans (b:=Oa Nc (λy v w=>(z9 q) (t9 b f g a h aa k m n p o u y v w)) b f g a h aa k m n p o u y v w) F2 (by simp only[ih]<;>rfl)
def k:Kc P_ gl:=⟨(105,⟨H.p,H.r,zP Kk⟩),co H func105 (λx=>Eq.trans (b:=zP (Tx (Uw (GB (λb f g a h aa k m n p o u y v w=>z9 Cg (t9 b f g a h aa k m n p o u y v w))))) x) F2 (by rw[OQ];simp only[i9,Am]<;>rfl))⟩
end F105
namespace F58
def Qd(a b f:Int)(g:LB)(k:Bool)(m:Int)(h:LB)(n:LX)(o:List LB)(p:LB):Option (Int×Int×Int×LB×LB×LX×(List LB)×LB×Bool×Int×Int):=
(λam:Option (Int×Int×Int×LB×LB×LX×(List LB)×LB×Bool×Int×Int)=>
(λw:Option (Int×Int×Int×LB×LB×LX×(List LB)×LB×Bool×Int×Int)=>
(λv:Option (Int×Int×Int×LB×LB×LX×(List LB)×LB×Bool×Int×Int)=>
(λy:Option (Int×Int×Int×LB×LB×LX×(List LB)×LB×Bool×Int×Int)=>
both (
y) [
y,
y,
both (
v) [
v,
v,
(Kk a b f g h n o p k m).bind λu=>
(λbl:Option (Int×Int×Int×LB×LB×LX×(List LB)×LB×Bool×Int×Int)=>
(λbm:Option (Int×Int×Int×LB×LB×LX×(List LB)×LB×Bool×Int×Int)=>
bo2 (
bm)) (
bo (
bl))) (
some (a,b,f,g,([]:LB),([]:LX),([]:List LB),u,true,0,0))]]) (
(λan:Option (Int×Int×Int×LB×LB×LX×(List LB)×LB×Bool×Int×Int)=>
both (
an) [
an,
v]) (
both (
am) [
w]))) (
both (
w) [
w,
(Kk a b f g h n o p k m).bind λu=>
(λbn:Option (Int×Int×Int×LB×LB×LX×(List LB)×LB×Bool×Int×Int)=>
bo (
bn)) (
some (a,b,f,g,([]:LB),([]:LX),([]:List LB),u,true,0,0))])) (
bo (
am))) (
(Kk a b f g h n o p k m).bind λu=>
some (a,b,f,g,([]:LB),([]:LX),([]:List LB),u,true,0,0))
theorem LO: @Qd= @Lr:=by
  unfold Qd Lr
  try simp only[bH,JT,ME]
  all_goals
    repeat (refine funext λ_=>?_)
    repeat' first
      |with_reducible rfl
      |with_reducible refine Qs ?_ ?_
      |with_reducible refine Pv ?_ ?_ ?_
      |with_reducible refine Qw ?_ ?_ ?_ ?_
      |((with_reducible refine Vy ?_ ?_);focus (intro h;first|(subst h;rfl)|(simp only[h];rfl)|(simp[Bx,Ac,h];done)))
      |with_reducible refine Vp λx=>?_
      |with_reducible refine EK (λ_=>?_) (λ_=>?_)
      |(refine Iy (λh=>by simp only[h,Vv,Gj,Fq,ite_self]) (λx h=>?_);(try simp only[h,Gj]))
      |(refine Me (λh=>?_) (λh=>?_)<;>simp only[h,if_true,if_false,Bool.false_eq_true])
abbrev R_:=(Int×Int×Int×LB×LB×LX×(List LB)×LB×Bool×Int×Int)
def H:Hd:=⟨[.agg [.agg [Si,Si],Si,Ss,Sb,Sw,.lf (.list (.list (.int .u8))) none,Sb,Sz,Si]],[.agg [.agg [Si,Si],Si,Ss,Ob 5,Ow 21,.lf (.list (.list (.int .u8))) (some 24),Ob 5,Sz,Si],Si],(.seq .d (.seq .d (.seq .d (.seq .d (.cut [1,2] [] .d (.seq (.mode false) .d)))))),kt [F99.k,F100.k,F101.k,F103.k,F104.k,F105.k] false,[],f58⟩
def x2(a b f:Int)(g:LB)(k:Bool)(m:Int)(h:LB)(n:LX)(o:List LB)(p:LB):Option R_:=H.e P_ [r,r,r,r,r] ⟨[(1,.ptr 0 []),(2,.ptr 1 [])],[.box 33 (.agg [.agg [vi a,vi b],vi f,vs g,.own 2,.own 3,.own 4,.own 5,vt k,vi m]),.box 33 (.agg [.agg [vi 0,vi 0],vi 0,vs ([]:LB),.nils,.nils,.nils,.nils,vt false,vi 0]),Ab 5 h,Aw 21 n,.arr 24 (.list (.int .u8)) o,Ab 5 p],[]⟩
theorem e2:x2=Sj:=Eq.trans (b:=Qd) F2 (by rw[LO];rfl)
def k:Kc P_ gl:=⟨(58,⟨H.p,H.r,zP Pk⟩),co H func58 (λx=>Eq.trans (b:=zP (Rp x2) x) F2 (by simp only[e2]<;>rfl))⟩
end F58
namespace F26
def Qo(j8:Int->Int->Int->Int->Int->Int->LB->Bool->Int->LB->LX-> (List LB)->LB->Option (LB×Int))(j10:Int->Int->Int->LB->Bool->Int->LB->LX-> (List LB)->LB->Option (LB×Int))(f:LB)(a:LI)(g b h k m:Int)(n:LB)(o:Bool)(p:Int)(u:LB)(v:LX)(w:List LB)(y:LB):Option (LB×Int):=
if(Cj b (Ac a))then
(Ah a b).bind λ_=>
(λbh:Option (LB×Int)=>
bo (
bh)) (
(Ah a b).bind λal=>
(Ff f g (Ae g al)).bind λam=>
(Nz h k m n u v w y o p am).bind λ(ab,ae,af,ag,ac,aa,aj,ak,ah,ai,ad)=>
j8 ad g b ab ae af ag ah ai ac aa aj ak)
else
j10 h k m n o p u v w y
theorem KS: @Qo= @Ih:=by
  unfold Qo Ih;simp only[bH,JT,ME]
abbrev R_:=(LB×Int)
abbrev K_:=S->Option R_
def H:Hd:=⟨[.agg [Si,Si],Si,Ss,Sb,Sq],[Ob 5,Si],(.seq .d (.seq .d (.seq .d (.seq .d (.seq .d (.seq .d (.cut [12] [] (.seq .d (.blk (.loop [3,12,14,15,16] [] (.seq .d (.seq (.blk (.cut [3,12,13,14,15,16] [] (.mode false) .d)) .d))))) .d))))))),kt [F55.k,F56.k,F57.k,F58.k] false,[],f26⟩
def t6(f:LB)(a:LI)(g b h k m:Int)(n:LB)(o:Bool)(p:Int)(u:LB)(v:LX)(w:List LB)(y:LB):S:=⟨[(3,vb f),(12,.ptr 0 []),(14,.own 1),(15,vi g),(16,vi b)],[.box 33 (.agg [.agg [vi h,vi k],vi m,vs n,.own 2,.own 3,.own 4,.own 5,vt o,vi p]),Ai 3 a,Ab 5 u,Aw 21 v,.arr 24 (.list (.int .u8)) w,Ab 5 y],[]⟩
def z6:Nat->S->Option R_:=H.i P_ [r,r,r,r,r,r,l,r,d]
theorem i6(f:LB)(a:LI):∀(q:Nat) (g b h k m:Int) (n:LB) (o:Bool) (p:Int) (u:LB) (v:LX) (w:List LB) (y:LB),z6 q (t6 f a g b h k m n o p u v w y)=Fo f a q g b h k m n o p u v w y:=
 ind (λ_ _ _ _ _ _ _ _ _ _ _ _=>by kernel_rfl) λq ih g b h k m n o p u v w y=>Eq.trans (b:=Qo (Ls (λg b h k m n o p u v w y=>(z6 q) (t6 f a g b h k m n o p u v w y)) f a) Qx f a g b h k m n o p u v w y) F2 (by rw[KS];simp only[ih]<;>rfl)
def k:Kc P_ gl:=⟨(26,⟨H.p,H.r,u6 Gd⟩),co H func26 (λx=>Eq.trans (b:=u6 (Ic (λf a g b h k m n o p u v w y=>z6 Cg (t6 f a g b h k m n o p u v w y))) x) F2 (by simp only[i6,Am]<;>rfl))⟩
end F26
namespace F27
abbrev R_:=Bool
def H:Hd:=⟨[Sl,Sl],[Sz],(.seq .d (.seq .d (.cut [] [] (.seq .d (.blk (.loop [0,1,5] [] .d))) .d))),kt [] false,[],f27⟩
def t4(a b:LI)(f:Int):S:=⟨[(0,vl a),(1,vl b),(5,vi f)],[],[]⟩
def z4:Nat->S->Option R_:=H.i P_ [r,r,l,r,d]
theorem i4(a b:LI):∀(q:Nat) (f:Int),z4 q (t4 a b f)=Ee a b q f:=
 ind (λ_=>by kernel_rfl) λq ih f=>Eq.trans (b:=Jj Xk (λf=>(z4 q) (t4 a b f)) a b f) F2 (by simp only[ih]<;>rfl)
def k:Kc P_ gl:=⟨(27,⟨H.p,H.r,u2 Mx⟩),co H func27 (λx=>Eq.trans (b:=u2 (On (λa b f=>z4 Cg (t4 a b f))) x) F2 (by simp only[i4,Am]<;>rfl))⟩
end F27
namespace F5
def H:Hd:=⟨[Si,Sq,.agg [Si,Si],Si,Ss,Sb],[Sz],.d,kt [F22.k,F23.k,F24.k,F25.k,F26.k,F27.k] false,[],f5⟩
def k:Kc P_ gl:=⟨(5,⟨H.p,H.r,u7 Qh⟩),co H func5⟩
end F5
end
end Go.Proofs.YtehlnpncgkmoaaaGreatDoor
