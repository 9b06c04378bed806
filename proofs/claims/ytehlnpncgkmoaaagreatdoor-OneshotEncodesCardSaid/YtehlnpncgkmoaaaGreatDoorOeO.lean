/- A part of a proof (see the text that ends in Proof). No conditions. -/
import Derived.Test.YtehlnpncgkmoaaaGreatDoorOeBB
import Derived.Test.YtehlnpncgkmoaaaGreatDoorOePA
import Derived.Test.YtehlnpncgkmoaaaGreatDoorProg
import Derived.KernelRfl
namespace Go
theorem F4{p:Prop}(h:p:=by kernel_rfl):p:=h
end Go
set_option linter.unusedVariables false
set_option linter.unusedSimpArgs false
set_option maxRecDepth 10000
namespace Go.Proofs.YtehlnpncgkmoaaaGreatDoor
open Go Go.Lv Go.Pl Go.Rx Go.Rx.PS
noncomputable section
def g0:List Value:=[.int .i64 2,.int .i64 2,.int .i64 2,.int .i64 4,.int .i64 4]
def g1:List Value:=[.int .i64 2,.int .i64 2,.int .i64 4,.int .i64 4,.int .i64 2,.int .i64 2,.int .i64 2,.int .i64 2,.int .i64 4]
def g3:List Value:=[.int .u8 1,.int .u8 0,.int .u8 0,.int .u8 0,.int .u8 0,.int .u8 0,.int .u8 16,.int .u8 0,.int .u8 128,.int .u8 0,.int .u8 0,.int .u8 170,.int .u8 0,.int .u8 56,.int .u8 155,.int .u8 113]
def gl:List (Nat×List Value):=[(0,g0),(1,g1),(3,g3)]
theorem mixed:Tryz.prog.follows .mixedOrders=true:=F4
noncomputable abbrev P_:=Tryz.prog
noncomputable def kt(l:List (Kc P_ gl))(v:Bool)(c:Bool:=false):=Aqp l v c
theorem co(H:Hd){f:Nat}{F:MT (Zg H.p)->Option (MT (Zg H.r))}(hf:P_.funcs[f]? =some H.f)(h:∀x,H.u P_ x=F x:=by intro x;kernel_rfl)(hT:aJ P_ H.T:=by exact Adr _ _ _)(hb:okA P_ H=true:=by kernel_rfl):ConOk P_ H.T.gl f ⟨H.p,H.r,F⟩:=Hd.cn mixed H hf hT hb h
abbrev u2{A B R:Type}(f:A->B->R)(x:A×B):=f x.1 x.2
abbrev u3{A B C R:Type}(f:A->B->C->R):=u2 λa=>u2 (f a)
abbrev u4{A B C D R:Type}(f:A->B->C->D->R):=u2 λa=>u3 (f a)
abbrev u5{A B C D E R:Type}(f:A->B->C->D->E->R):=u2 λa=>u4 (f a)
abbrev u6{A B C D E F R:Type}(f:A->B->C->D->E->F->R):=u2 λa=>u5 (f a)
abbrev u7{A B C D E F G R:Type}(f:A->B->C->D->E->F->G->R):=u2 λa=>u6 (f a)
abbrev u8{A B C D E F G H R:Type}(f:A->B->C->D->E->F->G->H->R):=u2 λa=>u7 (f a)
abbrev u9{A B C D E F G H I R:Type}(f:A->B->C->D->E->F->G->H->I->R):=u2 λa=>u8 (f a)
abbrev P1{A B C D E F G H I J R:Type}(f:A->B->C->D->E->F->G->H->I->J->R):=u2 λa=>u9 (f a)
abbrev u11{A B C D E F G H I J K R:Type}(f:A->B->C->D->E->F->G->H->I->J->K->R):=u2 λa=>P1 (f a)
abbrev u12{A B C D E F G H I J K L R:Type}(f:A->B->C->D->E->F->G->H->I->J->K->L->R):=u2 λa=>u11 (f a)
open Go.Proofs.Tryz
namespace F137
def H:Hd:=⟨[.agg [Si,Si,Si,Sw]],[.agg [Si,Si]],.d,kt [] false,[],f137⟩
def k:Kc P_ gl:=⟨(137,⟨H.p,H.r,u4 OY⟩),co H func137⟩
end F137
namespace F81
abbrev R_:=(Int32×Int32×Int)
def H:Hd:=⟨[Si],[Sx,Sx,Si],(.seq .d (.seq (.seq .d (.blk (.cut [0,7] [] .d .d))) .d)),kt [] false,[],f81⟩
def k:Kc P_ gl:=⟨(81,⟨H.p,H.r,Nd⟩),co H func81⟩
end F81
namespace F80
def H:Hd:=⟨[.agg [Si,Si]],[Si],.d,kt [F81.k] false,[],f80⟩
def k:Kc P_ gl:=⟨(80,⟨H.p,H.r,u2 Ep⟩),co H func80⟩
end F80
namespace F79
def H:Hd:=⟨[Si],[Si,Si],.d,kt [] false,[],f79⟩
def k:Kc P_ gl:=⟨(79,⟨H.p,H.r,Ko⟩),co H func79⟩
end F79
namespace F153
def H:Hd:=⟨[Si,Si],[Si,Si],.d,kt [F79.k] false,[],f153⟩
def k:Kc P_ gl:=⟨(153,⟨H.p,H.r,u2 Kq⟩),co H func153⟩
end F153
namespace F106
def H:Hd:=⟨[.agg [Si,Si,Si,Sw],Si],[Si],.d,kt [F80.k,F137.k,F153.k] false,[],f106⟩
def k:Kc P_ gl:=⟨(106,⟨H.p,H.r,u5 HV⟩),co H func106⟩
end F106
namespace F107
abbrev R_:=Int
def H:Hd:=⟨[Si,Sw],[Si],(.seq .d (.seq .d (.seq .d (.seq .d (.cut [] [] (.seq .d (.blk (.loop [5,6,22,23,24] [] .d))) .d))))),kt [F81.k] false,[],f107⟩
def t4(b f:Int32)(a:LX)(g:Int):S:=⟨[(5,vx b),(6,vx f),(22,vw a),(23,vi (Ac a)),(24,vi g)],[],[]⟩
def z4:Nat->S->Option R_:=H.i P_ [r,r,r,r,l,r,d]
theorem i4(b f:Int32)(a:LX):∀(q:Nat) (g:Int),z4 q (t4 b f a g)=Ro b f a q g:=
 ind (λ_=>by kernel_rfl) λq ih g=>Eq.trans (b:=DM eY (λg=>(z4 q) (t4 b f a g)) b f a g) F4 (by simp only[ih]<;>rfl)
def k:Kc P_ gl:=⟨(107,⟨H.p,H.r,u2 Po⟩),co H func107 (λx=>Eq.trans (b:=u2 (QB (λb f a g=>z4 Ch (t4 b f a g))) x) F4 (by simp only[i4,Ao]<;>rfl))⟩
end F107
namespace F59
def H:Hd:=⟨[.agg [Si,Si,Si,Sw]],[Si],.d,kt [F106.k,F107.k] false,[],f59⟩
def k:Kc P_ gl:=⟨(59,⟨H.p,H.r,u4 Hu⟩),co H func59⟩
end F59
namespace F60
abbrev R_:=(LB×Int)
abbrev K_:=S->Option R_
def H:Hd:=⟨[Si,Sw],[Ob 5,Si],(.seq .d (.seq .d (.seq .d (.cut [7] [] (.seq .d (.blk (.loop [0,7,17,18,19] [⟨7,[],.own 5 (.int .u8)⟩] (.seq .d (.seq .d (.cut [0,7,17,18,19] [] (.blk (.seq .d (.cut [0,7,9,17,18,19] [] .d (.seq .d (.blk (.loop [0,7,9,17,18,19,28,29] [] .d)))))) .d)))))) .d)))),kt [F107.k] false,[],f60⟩
def t26(b:Int)(a:LX)(k:Int32)(f m:Int)(h:LB):S:=⟨[(0,vi b),(7,.own 0),(9,vx k),(17,vw a),(18,vi (Ac a)),(19,vi f),(28,vi (Ay b (8:Int))),(29,vi m)],[Ab 5 h],[]⟩
def z26(Hp:K_):Nat->S->Option R_:=H.i P_ [r,r,r,l,r,d,(lp Hp),r,r,l,d,r,r,r,d]
def t16(b:Int)(a:LX)(f:Int)(g:LB):S:=⟨[(0,vi b),(7,.own 0),(17,vw a),(18,vi (Ac a)),(19,vi f)],[Ab 5 g],[]⟩
def z16:Nat->S->Option R_:=H.i P_ [r,r,r,l,r,d]
def x26(Hp:K_)(b:Int)(a:LX)(k:Int32)(f m:Int)(h:LB):Option R_:=H.e P_ [r,r,r,l,r,d,(lp Hp),r,r,l,d,r,r,r,d] (t26 b a k f m h)
theorem i26(Hp:K_)(b:Int)(a:LX)(k:Int32)(f:Int):∀(q:Nat) (m:Int) (h:LB),z26 Hp q (t26 b a k f m h)=Jo (λf g=>Hp (t16 b a f g)) b a k f q m h:=
 ind (λ_ _=>by kernel_rfl) λq ih m h=>Eq.trans (b:=AK (MB (λf g=>Hp (t16 b a f g)) b a) (λm h=>(z26 Hp q) (t26 b a k f m h)) b a k f m h) F4 (by simp only[ih]<;>rfl)
theorem e26(Hp:K_)(b:Int)(a:LX):x26 Hp b a=MJ (λf g=>Hp (t16 b a f g)) b a:=by funext k f m h;exact Eq.trans F4 ((i26 Hp b a k f Ch m h).trans (by rw[Ao];rfl))
theorem i16(b:Int)(a:LX):∀(q:Nat) (f:Int) (g:LB),z16 q (t16 b a f g)=Gb b a q f g:=
 ind (λ_ _=>by kernel_rfl) λq ih f g=>Eq.trans (b:=AO (LJ (x26 (z16 q) b a) b a) aT b a f g) F4 (by simp only[e26,ih]<;>rfl)
def k:Kc P_ gl:=⟨(60,⟨H.p,H.r,u2 CU⟩),co H func60 (λx=>Eq.trans (b:=u2 (QD (λb a f g=>z16 Ch (t16 b a f g))) x) F4 (by simp only[i16,Ao]<;>rfl))⟩
end F60
namespace F40
def H:Hd:=⟨[.agg [Si,Si],Si,Ss],[Si,Sz],.d,kt [F79.k,F80.k] false,[],f40⟩
def k:Kc P_ gl:=⟨(40,⟨H.p,H.r,u4 Qg⟩),co H func40⟩
end F40
namespace F11
def H:Hd:=⟨[.agg [Si,Si],Si,Ss],[.agg [.agg [Si,Si],Si,Ss,Ob 5,Ow 21,.lf (.list (.list (.int .u8))) (some 24),Ob 5,Sz,Si],Si],.d,kt [F40.k] false,[],f11⟩
def k:Kc P_ gl:=⟨(11,⟨H.p,H.r,u4 CM⟩),co H func11⟩
end F11
namespace F42
def H:Hd:=⟨[.agg [Si,Si]],[Si],.d,kt [] false,[],f42⟩
def k:Kc P_ gl:=⟨(42,⟨H.p,H.r,u2 Rt⟩),co H func42⟩
end F42
namespace F45
def H:Hd:=⟨[.agg [.agg [Si,Si],Si,Ss,Sb,Sw,.lf (.list (.list (.int .u8))) none,Sb,Sz,Si],Si],[Si],.d,kt [] false,[],f45⟩
def k:Kc P_ gl:=⟨(45,⟨H.p,H.r,u11 Qe⟩),co H func45⟩
end F45
namespace F44
def H:Hd:=⟨[.agg [.agg [Si,Si],Si,Ss,Sb,Sw,.lf (.list (.list (.int .u8))) none,Sb,Sz,Si],Si,Si],[Sz],.d,kt [] false,[],f44⟩
def k:Kc P_ gl:=⟨(44,⟨H.p,H.r,u12 Py⟩),co H func44⟩
end F44
namespace F97
abbrev R_:=Bool
abbrev K_:=S->Option R_
def H:Hd:=⟨[.agg [.agg [Si,Si],Si,Ss,Sb,Sw,.lf (.list (.list (.int .u8))) none,Sb,Sz,Si],Si],[Sz],(.seq .d (.seq .d (.cut [1,2,5] [] .d (.seq .d (.seq .d (.cut [1,2,5,6] [] .d (.cut [1,2,5] [] .d (.seq .d (.cut [4] [] (.keep [4,80,81] true) .d))))))))),kt [F42.k,F44.k,F45.k,F107.k] false,[(143,(.seq .d (.cut [4] [] (.keep [4,7,8] true) .d))),(144,.d),(197,(.seq .d (.cut [] [] (.seq .d (.blk (.loop [0,1,7,8] [] (.seq .d (.seq .d (.cut [0,1,7,8] [] (.blk (.seq .d (.cut [0,1,5,7,8,16] [] (.keep [0,1,5,7,8,16] true) .d))) .d)))))) .d)))],f97⟩
def t16(b:List LB)(f a h:Int):S:=⟨[(0,.val (.list (.list (.int .u8))) b),(1,.fn 144 [.ptr 0 []]),(7,vi (Ac b)),(8,vi h)],[.box 3 (vi (Ae (Ay (Ae (Bc (Bc (81:Int) f) a) (7:Int)) (8:Int)) (4:Int)))],[[(4,vt false)],[]]⟩
def z16:Nat->S->Option R_:=H.i P_ [r,r,r,r,r,r,r,r,l,(call 3 143),r,l,(call 2 197),r,l,r,d]
def x13(f a k o:Int)(p m:LB)(g:LX)(b:List LB)(n:LB)(u:Bool)(v:Int):Option R_:=H.e P_ [r,r,r] ⟨[(1,vi f),(2,.ptr 0 []),(5,vi a)],[.box 33 (.agg [.agg [vi a,vi k],vi o,vs p,vb m,vw g,.val (.list (.list (.int .u8))) b,vb n,vt u,vi v])],[]⟩
theorem i16(b:List LB)(f a:Int):∀(q:Nat) (h:Int),z16 q (t16 b f a h)=Du b f a q h:=
 ind (λ_=>by kernel_rfl) λq ih h=>Eq.trans (b:=Jh (Qi (λh=>(z16 q) (t16 b f a h)) b f a) MR b f a h) F4 (by simp only[ih]<;>rfl)
theorem e13:x13=Qn:=Eq.trans (b:=Qr (Mb (Ly (λb f a h=>z16 Ch (t16 b f a h))))) F4 (by simp only[i16,Ao]<;>rfl)
def k:Kc P_ gl:=⟨(97,⟨H.p,H.r,u11 Oz⟩),co H func97 (λx=>Eq.trans (b:=u11 (Th x13) x) F4 (by simp only[e13]<;>rfl))⟩
end F97
namespace F53
def H:Hd:=⟨[.agg [.agg [Si,Si],Si,Ss,Sb,Sw,.lf (.list (.list (.int .u8))) none,Sb,Sz,Si]],[Si],.d,kt [F40.k,F97.k] false,[],f53⟩
def k:Kc P_ gl:=⟨(53,⟨H.p,H.r,P1 Uu⟩),co H func53⟩
end F53
namespace F75
def Nq(a:LB):Option (LB):=
zZ a (
some ([]:LB)) (
(Br ([]:LB) a).bind λb=>
some b)
theorem LG: @Nq= @Bv:=by
  unfold Nq Bv
  repeat (refine funext λ_=>?_)
  repeat' first
    |with_reducible rfl
    |with_reducible refine Mh ?_ ?_
    |with_reducible refine Lz ?_ ?_ ?_
    |with_reducible refine Mk ?_ ?_ ?_ ?_
    |((with_reducible refine Qz ?_ ?_);focus (intro h;first|(subst h;rfl)|(simp only[h];rfl)|(simp[Br,Ac,h];done)))
    |with_reducible refine Qj λx=>?_
    |with_reducible refine Yw (λ_=>?_) (λ_=>?_)
    |(refine Gn (λh=>by simp only[h,Qt,Dz,Dt,ite_self]) (λx h=>?_);(try simp only[h,Dz]))
    |(refine Jk (λh=>?_) (λh=>?_)<;>simp only[h,if_true,if_false,Bool.false_eq_true])
def H:Hd:=⟨[Sb],[Ob 5],.d,kt [] false,[],f75⟩
def k:Kc P_ gl:=⟨(75,⟨H.p,H.r,Bv⟩),co H func75 (λx=>Eq.trans (b:=Nq x) F4 (by simp only[LG]<;>rfl))⟩
end F75
namespace F122
def Lq(a:LX):Option (LX):=
zZ a (
some ([]:LX)) (
(Br ([]:LX) a).bind λb=>
some b)
theorem GC: @Lq= @Cx:=by
  unfold Lq Cx
  repeat (refine funext λ_=>?_)
  repeat' first
    |with_reducible rfl
    |with_reducible refine Mh ?_ ?_
    |with_reducible refine Lz ?_ ?_ ?_
    |with_reducible refine Mk ?_ ?_ ?_ ?_
    |((with_reducible refine Qz ?_ ?_);focus (intro h;first|(subst h;rfl)|(simp only[h];rfl)|(simp[Br,Ac,h];done)))
    |with_reducible refine Qj λx=>?_
    |with_reducible refine Yw (λ_=>?_) (λ_=>?_)
    |(refine Gn (λh=>by simp only[h,Qt,Dz,Dt,ite_self]) (λx h=>?_);(try simp only[h,Dz]))
    |(refine Jk (λh=>?_) (λh=>?_)<;>simp only[h,if_true,if_false,Bool.false_eq_true])
def H:Hd:=⟨[Sw],[Ow 21],.d,kt [] false,[],f122⟩
def k:Kc P_ gl:=⟨(122,⟨H.p,H.r,Cx⟩),co H func122 (λx=>Eq.trans (b:=Lq x) F4 (by simp only[GC]<;>rfl))⟩
end F122
namespace F74
abbrev R_:=(Int×Int×Int×LB×LB×LX×(List LB)×LB×Bool×Int)
def H:Hd:=⟨[.agg [.agg [Si,Si],Si,Ss,Sb,Sw,.lf (.list (.list (.int .u8))) none,Sb,Sz,Si]],[.agg [.agg [Si,Si],Si,Ss,Ob 5,Ow 21,.lf (.list (.list (.int .u8))) (some 24),Ob 5,Sz,Si]],(.seq .d (.cut [1,2] [] .d (.seq .d (.seq .d (.cut [1,2,3] [] (.seq .d (.blk (.loop [1,2,3,26,27] [] .d))) .d))))),kt [F75.k,F122.k] false,[],f74⟩
def t6(w a:List LB)(b f g:Int)(h:LB)(k:Bool)(m:Int)(n:LB)(o:LX)(p:LB)(v:Int)(u:List LB):S:=⟨[(1,.ptr 0 []),(2,.ptr 1 []),(3,.own 2),(26,vi (Ac (aS w a))),(27,vi v)],[.box 33 (.agg [.agg [vi b,vi f],vi g,vs h,.own 3,.own 4,.val (.list (.list (.int .u8))) a,.own 5,vt k,vi m]),.box 33 (.agg [.agg [vi 0,vi 0],vi 0,vs ([]:LB),.nils,.nils,.nils,.nils,vt false,vi 0]),.arr 24 (.list (.int .u8)) u,Ab 5 n,Aw 21 o,Ab 5 p],[]⟩
def z6:Nat->S->Option R_:=H.i P_ [r,r,r,r,l,r,d]
theorem i6(w a:List LB)(b f g:Int)(h:LB)(k:Bool)(m:Int)(n:LB)(o:LX)(p:LB):∀(q:Nat) (v:Int) (u:List LB),z6 q (t6 w a b f g h k m n o p v u)=Pb w a b f g h k m n o p q v u:=
 ind (λ_ _=>by kernel_rfl) λq ih v u=>Eq.trans (b:=AS aM (λv u=>(z6 q) (t6 w a b f g h k m n o p v u)) w a b f g h k m n o p v u) F4 (by simp only[ih]<;>rfl)
def k:Kc P_ gl:=⟨(74,⟨H.p,H.r,P1 NT⟩),co H func74 (λx=>Eq.trans (b:=P1 (LV (ME (λw a b f g h k m n o p v u=>z6 Ch (t6 w a b f g h k m n o p v u)))) x) F4 (by simp only[i6,Ao]<;>rfl))⟩
end F74
namespace F41
abbrev R_:=(Int×Int×Int×LB×LB×LX×(List LB)×LB×Bool×Int×Int×Int)
def H:Hd:=⟨[.agg [.agg [Si,Si],Si,Ss,Sb,Sw,.lf (.list (.list (.int .u8))) none,Sb,Sz,Si]],[.agg [.agg [Si,Si],Si,Ss,Ob 5,Ow 21,.lf (.list (.list (.int .u8))) (some 24),Ob 5,Sz,Si],Si,Si],(.seq .d (.seq .d (.seq .d (.cut [1,2,6,7] [] .d .d)))),kt [F53.k,F74.k,F79.k] false,[],f41⟩
def k:Kc P_ gl:=⟨(41,⟨H.p,H.r,P1 AH⟩),co H func41⟩
end F41
namespace F46
abbrev R_:=(LX×Int)
abbrev K_:=S->Option R_
def H:Hd:=⟨[Si,Sb],[Ow 21,Si],(.seq .d (.seq .d (.seq .d (.seq .d (.seq .d (.seq .d (.cut [10] [] (.seq .d (.blk (.loop [0,1,9,10,11] [⟨10,[],.own 21 (.int .i32)⟩] (.seq .d (.cut [0,1,9,10,11] [] (.blk (.seq .d (.seq .d (.cut [0,1,9,10,11,12] [] (.seq .d (.blk (.loop [0,1,9,10,11,12,53,54] [] .d))) .d)))) .d))))) .d))))))),kt [F81.k] false,[],f46⟩
def t25(a:Int)(b:LB)(f:Int)(g:LX)(k:Int32)(h:Int):S:=⟨[(0,vi a),(1,vb b),(9,vi (Ay a (8:Int))),(10,.own 0),(11,vi f),(12,vx k),(53,vi (Ay a (8:Int))),(54,vi h)],[Aw 21 g],[]⟩
def z25(Hp:K_):Nat->S->Option R_:=H.i P_ [r,r,r,r,r,r,l,r,d,(lp Hp),r,l,d,r,r,l,r,d]
def t16(a:Int)(b:LB)(f:Int)(g:LX):S:=⟨[(0,vi a),(1,vb b),(9,vi (Ay a (8:Int))),(10,.own 0),(11,vi f)],[Aw 21 g],[]⟩
def z16:Nat->S->Option R_:=H.i P_ [r,r,r,r,r,r,l,r,d]
def x25(Hp:K_)(a:Int)(b:LB)(f:Int)(g:LX)(k:Int32)(h:Int):Option R_:=H.e P_ [r,r,r,r,r,r,l,r,d,(lp Hp),r,l,d,r,r,l,r,d] (t25 a b f g k h)
theorem i25(Hp:K_)(a:Int)(b:LB)(f:Int)(g:LX):∀(q:Nat) (k:Int32) (h:Int),z25 Hp q (t25 a b f g k h)=Ee (λf g=>Hp (t16 a b f g)) a b f g q k h:=
 ind (λ_ _=>by kernel_rfl) λq ih k h=>Eq.trans (b:=Ey (Wh (λf g=>Hp (t16 a b f g)) a b) (λk h=>(z25 Hp q) (t25 a b f g k h)) a b f g k h) F4 (by simp only[ih]<;>rfl)
theorem e25(Hp:K_)(a:Int)(b:LB):x25 Hp a b=Lo (λf g=>Hp (t16 a b f g)) a b:=by funext f g k h;exact Eq.trans F4 ((i25 Hp a b f g Ch k h).trans (by rw[Ao];rfl))
theorem i16(a:Int)(b:LB):∀(q:Nat) (f:Int) (g:LX),z16 q (t16 a b f g)=Dm a b q f g:=
 ind (λ_ _=>by kernel_rfl) λq ih f g=>Eq.trans (b:=Ff (Iy (λf g=>(z16 q) (t16 a b f g)) a b) (x25 (z16 q) a b) SG a b f g) F4 (by simp only[e25,ih]<;>rfl)
def k:Kc P_ gl:=⟨(46,⟨H.p,H.r,u2 Zw⟩),co H func46 (λx=>Eq.trans (b:=u2 (IF (λa b f g=>z16 Ch (t16 a b f g))) x) F4 (by simp only[i16,Ao]<;>rfl))⟩
end F46
namespace F170
abbrev R_:=(UInt64×Int)
abbrev K_:=S->Option R_
def H:Hd:=⟨[Sq,Sb],[Sq,Si],(.seq .d (.seq .d (.cut [4,5] [] (.keep [0,1,4,5,9,10,11,12] true) .d))),kt [] false,[(208,(.seq .d (.cut [1] [] (.seq .d (.blk (.loop [0,1,9,10,11] [] .d))) .d))),(209,(.seq .d (.seq .d (.cut [1] [] (.seq .d (.blk (.loop [1,5] [] (.seq .d (.seq .d (.cut [1,5] [] (.blk (.seq .d (.seq .d (.cut [1,2,3,5] [] (.seq .d (.blk (.loop [1,2,3,5,11] [] .d))) .d)))) .d)))))) .d))))],f170⟩
def t27(a:LB)(b:UInt64)(f:LQ)(h:UInt64)(m:Int):S:=⟨[(0,.ptr 0 []),(1,vq h),(9,vb a),(10,vi (Ac a)),(11,vi m)],[.box 336 (.val (.vec 256 (.int .u64)) f)],[[(0,vq b),(1,vb a),(4,vq 0),(5,vi 0),(9,.ptr 0 []),(10,vq b),(11,vb a)]]⟩
def z27:Nat->S->Option R_:=H.i P_ [r,r,l,(call 3 208),r,l,r,d]
def t21(b:UInt64)(a:LB)(g:Int)(f:LQ)(k:UInt64)(n:Int):S:=⟨[(1,.ptr 0 []),(2,vi g),(3,vq k),(5,vi g),(11,vi n)],[.box 336 (.val (.vec 256 (.int .u64)) f)],[[(0,vq b),(1,vb a),(4,vq 0),(5,vi 0)]]⟩
def z21(Hp:K_):Nat->S->Option R_:=H.i P_ [r,r,l,(call 0 209),r,r,l,r,d,(lp Hp),r,r,l,d,r,r,l,r,d]
def t16(b:UInt64)(a:LB)(g:Int)(f:LQ):S:=⟨[(1,.ptr 0 []),(5,vi g)],[.box 336 (.val (.vec 256 (.int .u64)) f)],[[(0,vq b),(1,vb a),(4,vq 0),(5,vi 0)]]⟩
def z16:Nat->S->Option R_:=H.i P_ [r,r,l,(call 0 209),r,r,l,r,d]
def x27(a:LB)(b:UInt64)(f:LQ)(h:UInt64)(m:Int):Option R_:=H.e P_ [r,r,l,(call 3 208),r,l,r,d] (t27 a b f h m)
def x21(Hp:K_)(b:UInt64)(a:LB)(g:Int)(f:LQ)(k:UInt64)(n:Int):Option R_:=H.e P_ [r,r,l,(call 0 209),r,r,l,r,d,(lp Hp),r,r,l,d,r,r,l,r,d] (t21 b a g f k n)
theorem i27(a:LB)(b:UInt64)(f:LQ):∀(q:Nat) (h:UInt64) (m:Int),z27 q (t27 a b f h m)=Ru a b f q h m:=
 ind (λ_ _=>by kernel_rfl) λq ih h m=>Eq.trans (b:=EE QA (λh m=>(z27 q) (t27 a b f h m)) a b f h m) F4 (by simp only[ih]<;>rfl)
theorem e27:x27=OX:=by funext a b f h m;exact Eq.trans F4 ((i27 a b f Ch h m).trans (by rw[Ao];rfl))
theorem i21(Hp:K_)(b:UInt64)(a:LB)(g:Int)(f:LQ):∀(q:Nat) (k:UInt64) (n:Int),z21 Hp q (t21 b a g f k n)=Sd (λg f=>Hp (t16 b a g f)) b a g f q k n:=
 ind (λ_ _=>by kernel_rfl) λq ih k n=>Eq.trans (b:=DE (DV (λg f=>Hp (t16 b a g f)) b a) (λk n=>(z21 Hp q) (t21 b a g f k n)) b a g f k n) F4 (by simp only[ih]<;>rfl)
theorem e21(Hp:K_)(b:UInt64)(a:LB):x21 Hp b a=QZ (λg f=>Hp (t16 b a g f)) b a:=by funext g f k n;exact Eq.trans F4 ((i21 Hp b a g f Ch k n).trans (by rw[Ao];rfl))
theorem i16(b:UInt64)(a:LB):∀(q:Nat) (g:Int) (f:LQ),z16 q (t16 b a g f)=Nt b a q g f:=
 ind (λ_ _=>by kernel_rfl) λq ih g f=>Eq.trans (b:=EF (x21 (z16 q) b a) (OO x27) b a g f) F4 (by simp only[e21,e27,ih]<;>rfl)
def k:Kc P_ gl:=⟨(170,⟨H.p,H.r,u2 ZF⟩),co H func170 (λx=>Eq.trans (b:=u2 (TV (λb a g f=>z16 Ch (t16 b a g f))) x) F4 (by simp only[i16,Ao]<;>rfl))⟩
end F170
namespace F123
def H:Hd:=⟨[Sb],[Sq,Si],.d,kt [F170.k] false,[],f123⟩
def k:Kc P_ gl:=⟨(123,⟨H.p,H.r,VQ⟩),co H func123⟩
end F123
namespace F124
abbrev R_:=LX
def H:Hd:=⟨[Sq],[.lf (.vec 16 (.int .i32)) none],(.seq .d (.seq .d (.cut [2,3] [] (.seq .d (.blk (.loop [0,2,3,5] [] .d))) .d))),kt [] false,[],f124⟩
def t4(f:UInt64)(a:Int)(b:LX):S:=⟨[(0,vq f),(2,.ptr 0 []),(3,.ptr 1 []),(5,vi a)],[.box 132 (.val (.vec 16 (.int .i32)) (List.replicate 16 (0:Int32))),.box 132 (.val (.vec 16 (.int .i32)) b)],[]⟩
def z4:Nat->S->Option R_:=H.i P_ [r,r,l,r,d]
theorem i4(f:UInt64):∀(q:Nat) (a:Int) (b:LX),z4 q (t4 f a b)=IG f q a b:=
 ind (λ_ _=>by kernel_rfl) λq ih a b=>Eq.trans (b:=aC wI (λa b=>(z4 q) (t4 f a b)) f a b) F4 (by simp only[ih]<;>rfl)
def k:Kc P_ gl:=⟨(124,⟨H.p,H.r,L8⟩),co H func124 (λx=>Eq.trans (b:=yT (λf a b=>z4 Ch (t4 f a b)) x) F4 (by simp only[i4,Ao]<;>rfl))⟩
end F124
namespace F82
def H:Hd:=⟨[Ss],[.lf (.vec 16 (.int .i32)) none,Si],.d,kt [F123.k,F124.k] false,[],f82⟩
def k:Kc P_ gl:=⟨(82,⟨H.p,H.r,XD⟩),co H func82⟩
end F82
namespace F171
def H:Hd:=⟨[.agg [Si,Si],Sw],[Si],.d,kt [F80.k,F107.k] false,[],f171⟩
def k:Kc P_ gl:=⟨(171,⟨H.p,H.r,u3 IX⟩),co H func171⟩
end F171
namespace F210
def H:Hd:=⟨[Si,Sw],[Si],.d,kt [] false,[],f210⟩
def k:Kc P_ gl:=⟨(210,⟨H.p,H.r,u2 WM⟩),co H func210⟩
end F210
namespace F172
abbrev R_:=(LX×Int)
abbrev K_:=S->Option R_
def H:Hd:=⟨[Si,Sw],[Ow 21,Si],(.seq .d (.seq .d (.seq .d (.cut [7] [] (.seq .d (.blk (.loop [0,7,8] [] (.seq .d (.cut [0,7,8] [] (.blk (.keep [0,7,8,24,25,26,27,28,29] true)) .d))))) .d)))),kt [F122.k,F210.k] true,[(211,(.seq .d (.cut [0,2] [] (.seq .d (.blk (.loop [0,2,7,8] [] .d))) .d)))],f172⟩
def t17(b a f:Int)(g:LX):S:=⟨[(0,.view true 0 [] (.int .i32) a ((Ae a b)-a)),(2,vi (Ak ((Ae a b)-a) (1:Int))),(7,vi (Ak ((Ae a b)-a) (1:Int))),(8,vi f)],[Aw 21 g],[[(0,vi b),(7,.own 0),(8,vi a),(24,.own 0),(25,vi a),(26,vi a),(27,vi b),(28,vi (Ae a b)),(29,.view true 0 [] (.int .i32) a ((Ae a b)-a))]]⟩
def z17(tV:K_):Nat->S->Option R_:=H.i P_ [r,r,r,l,r,d,(lp tV),r,l,d,(call 6 211),r,l,r,d]
def t12(b a:Int)(h:LX):S:=⟨[(0,vi b),(7,.own 0),(8,vi a)],[Aw 21 h],[]⟩
def z12:Nat->S->Option R_:=H.i P_ [r,r,r,l,r,d]
def x17(tV:K_)(b a f:Int)(g:LX):Option R_:=H.e P_ [r,r,r,l,r,d,(lp tV),r,l,d,(call 6 211),r,l,r,d] (t17 b a f g)
theorem i17(tV:K_)(b a:Int):∀(q:Nat) (f:Int) (g:LX),z17 tV q (t17 b a f g)=CP (λa h=>tV (t12 b a h)) b a q f g:=
 ind (λ_ _=>by kernel_rfl) λq ih f g=>Eq.trans (b:=RO (cP (λa h=>tV (t12 b a h)) b) (λf g=>(z17 tV q) (t17 b a f g)) b a f g) F4 (by simp only[ih]<;>rfl)
theorem e17(tV:K_)(b:Int):x17 tV b=sF (λa h=>tV (t12 b a h)) b:=by funext a f g;exact Eq.trans F4 ((i17 tV b a Ch f g).trans (by rw[Ao];rfl))
theorem i12(b:Int):∀(q:Nat) (a:Int) (h:LX),z12 q (t12 b a h)=CY b q a h:=
 ind (λ_ _=>by kernel_rfl) λq ih a h=>Eq.trans (b:=cV (x17 (z12 q) b) rU b a h) F4 (by simp only[e17,ih]<;>rfl)
def k:Kc P_ gl:=⟨(172,⟨H.p,H.r,u2 uP⟩),co H func172 (λx=>Eq.trans (b:=u2 (lR (λb a h=>z12 Ch (t12 b a h))) x) F4 (by simp only[i12,Ao]<;>rfl))⟩
end F172
namespace F212
abbrev R_:=(Int×LX×LX×Int)
def H:Hd:=⟨[Si,.lf (.vec 16 (.int .i32)) none],[.agg [Si,.lf (.vec 16 (.int .i32)) none,.lf (.vec 16 (.int .i32)) none],Si],(.seq .d (.seq .d (.seq (.seq .d (.blk (.cut [4,6,9,11] [] .d .d))) .d))),kt [] false,[],f212⟩
def k:Kc P_ gl:=⟨(212,⟨H.p,H.r,u2 oQ⟩),co H func212⟩
end F212
namespace F173
def H:Hd:=⟨[Si,.lf (.vec 16 (.int .i32)) none],[.agg [Si,Sx,.agg [Si,.lf (.vec 16 (.int .i32)) none,.lf (.vec 16 (.int .i32)) none]],Si],.d,kt [F212.k] false,[],f173⟩
def k:Kc P_ gl:=⟨(173,⟨H.p,H.r,u2 rM⟩),co H func173⟩
end F173
namespace F213
def H:Hd:=⟨[.agg [Si,Sx,.agg [Si,.lf (.vec 16 (.int .i32)) none,.lf (.vec 16 (.int .i32)) none]]],[Si],.d,kt [F212.k] false,[],f213⟩
def k:Kc P_ gl:=⟨(213,⟨H.p,H.r,u5 CF⟩),co H func213⟩
end F213
namespace F240
def H:Hd:=⟨[Si],[Si,Si],.d,kt [] false,[],f240⟩
def k:Kc P_ gl:=⟨(240,⟨H.p,H.r,eE⟩),co H func240⟩
end F240
namespace F241
def H:Hd:=⟨[Si,Sx],[Sx],.d,kt [] false,[],f241⟩
def k:Kc P_ gl:=⟨(241,⟨H.p,H.r,u2 RP⟩),co H func241⟩
end F241
namespace F214
def H:Hd:=⟨[Si,Sx],[Sx,Si],.d,kt [F240.k,F241.k] false,[],f214⟩
def k:Kc P_ gl:=⟨(214,⟨H.p,H.r,u2 CH⟩),co H func214⟩
end F214
namespace F265
def H:Hd:=⟨[.agg [Si,.lf (.vec 16 (.int .i32)) none,.lf (.vec 16 (.int .i32)) none]],[Si],.d,kt [] false,[],f265⟩
def k:Kc P_ gl:=⟨(265,⟨H.p,H.r,u3 IE⟩),co H func265⟩
end F265
namespace F242
abbrev R_:=(Int32×Int)
def H:Hd:=⟨[.agg [Si,.lf (.vec 16 (.int .i32)) none,.lf (.vec 16 (.int .i32)) none]],[Sx,Si],(.seq .d (.seq .d (.seq .d (.cut [1,5] [] (.seq .d (.blk (.loop [1,5,18,19] [] .d))) .d)))),kt [F265.k] false,[],f242⟩
def t4(b:LX)(a:Int)(f:LX)(h:Int32)(g:Int):S:=⟨[(1,.ptr 0 []),(5,vx h),(18,.val (.vec 16 (.int .i32)) b),(19,vi g)],[.box 257 (.agg [vi a,.val (.vec 16 (.int .i32)) b,.val (.vec 16 (.int .i32)) f])],[]⟩
def z4:Nat->S->Option R_:=H.i P_ [r,r,r,l,r,d]
theorem i4(b:LX)(a:Int)(f:LX):∀(q:Nat) (h:Int32) (g:Int),z4 q (t4 b a f h g)=Uw b a f q h g:=
 ind (λ_ _=>by kernel_rfl) λq ih h g=>Eq.trans (b:=JA TJ (λh g=>(z4 q) (t4 b a f h g)) b a f h g) F4 (by simp only[ih]<;>rfl)
def k:Kc P_ gl:=⟨(242,⟨H.p,H.r,u3 PX⟩),co H func242 (λx=>Eq.trans (b:=u3 (TG (λb a f h g=>z4 Ch (t4 b a f h g))) x) F4 (by simp only[i4,Ao]<;>rfl))⟩
end F242
namespace F293
def H:Hd:=⟨[Si],[Sx],.d,kt [] false,[],f293⟩
def k:Kc P_ gl:=⟨(293,⟨H.p,H.r,VG⟩),co H func293⟩
end F293
namespace F266
abbrev R_:=(Int×LX×LX×Int)
def H:Hd:=⟨[.agg [Si,.lf (.vec 16 (.int .i32)) none,.lf (.vec 16 (.int .i32)) none],Sx],[.agg [Si,.lf (.vec 16 (.int .i32)) none,.lf (.vec 16 (.int .i32)) none],Si],(.seq .d (.seq .d (.seq .d (.cut [2,4] [] (.seq .d (.blk (.loop [1,2,4,19,20] [] .d))) .d)))),kt [F265.k,F293.k] false,[],f266⟩
def t4(h:Int32)(f:LX)(g a:Int)(b:LX):S:=⟨[(1,vx h),(2,.ptr 0 []),(4,.ptr 1 []),(19,.val (.vec 16 (.int .i32)) f),(20,vi a)],[.box 257 (.agg [vi g,.val (.vec 16 (.int .i32)) b,.val (.vec 16 (.int .i32)) f]),.box 257 (.agg [vi 0,.val (.vec 16 (.int .i32)) (List.replicate 16 (0:Int32)),.val (.vec 16 (.int .i32)) (List.replicate 16 (0:Int32))])],[]⟩
def z4:Nat->S->Option R_:=H.i P_ [r,r,r,l,r,d]
theorem i4(h:Int32)(f:LX)(g:Int):∀(q:Nat) (a:Int) (b:LX),z4 q (t4 h f g a b)=Ut h f g q a b:=
 ind (λ_ _=>by kernel_rfl) λq ih a b=>Eq.trans (b:=JB kB (λa b=>(z4 q) (t4 h f g a b)) h f g a b) F4 (by simp only[ih]<;>rfl)
def k:Kc P_ gl:=⟨(266,⟨H.p,H.r,u4 aD⟩),co H func266 (λx=>Eq.trans (b:=u4 (TS (λh f g a b=>z4 Ch (t4 h f g a b))) x) F4 (by simp only[i4,Ao]<;>rfl))⟩
end F266
namespace F267
def SZ(j2:Int32->Int->LX->LX->Option (Int×LX×LX×Int))(b:Int)(f a:LX)(g:Int32):Option (Int×LX×LX×Int):=
(IE b f a).bind λh=>
if(Bm h 0)then
some (0,(List.replicate 16 (0:Int32)),(List.replicate 16 (0:Int32)),h)
else
both (
(uG 16 1 16).bind λ_=>
(uG 16 0 16).bind λ_=>
j2 g b f a) [
(uG 16 0 16).bind λ_=>
(uG 16 1 16).bind λ_=>
j2 g b f a]
theorem rI: @SZ= @NQ:=by
  unfold SZ NQ
  repeat (refine funext λ_=>?_)
  repeat' first
    |with_reducible rfl
    |with_reducible refine Mh ?_ ?_
    |with_reducible refine Lz ?_ ?_ ?_
    |with_reducible refine Mk ?_ ?_ ?_ ?_
    |((with_reducible refine Qz ?_ ?_);focus (intro h;first|(subst h;rfl)|(simp only[h];rfl)|(simp[Br,Ac,h];done)))
    |with_reducible refine Qj λx=>?_
    |with_reducible refine Yw (λ_=>?_) (λ_=>?_)
    |(refine Gn (λh=>by simp only[h,Qt,Dz,Dt,ite_self]) (λx h=>?_);(try simp only[h,Dz]))
    |(refine Jk (λh=>?_) (λh=>?_)<;>simp only[h,if_true,if_false,Bool.false_eq_true])
abbrev R_:=(Int×LX×LX×Int)
def H:Hd:=⟨[.agg [Si,.lf (.vec 16 (.int .i32)) none,.lf (.vec 16 (.int .i32)) none],Sx],[.agg [Si,.lf (.vec 16 (.int .i32)) none,.lf (.vec 16 (.int .i32)) none],Si],(.seq .d (.seq .d (.cut [1,2,4] [] .d .d))),kt [F265.k] false,[],f267⟩
def k:Kc P_ gl:=⟨(267,⟨H.p,H.r,u4 iA⟩),co H func267 (λx=>Eq.trans (b:=u4 (SZ YX) x) F4 (by simp only[rI]<;>rfl))⟩
end F267
namespace F243
def H:Hd:=⟨[.agg [Si,.lf (.vec 16 (.int .i32)) none,.lf (.vec 16 (.int .i32)) none],Sx,Sx],[.agg [Si,.lf (.vec 16 (.int .i32)) none,.lf (.vec 16 (.int .i32)) none]],.d,kt [F266.k,F267.k] false,[],f243⟩
def k:Kc P_ gl:=⟨(243,⟨H.p,H.r,u5 XZ⟩),co H func243⟩
end F243
namespace F215
def H:Hd:=⟨[.agg [Si,.lf (.vec 16 (.int .i32)) none,.lf (.vec 16 (.int .i32)) none],Sx],[Sx,.agg [Si,.lf (.vec 16 (.int .i32)) none,.lf (.vec 16 (.int .i32)) none],Si],.d,kt [F242.k,F243.k] false,[],f215⟩
def k:Kc P_ gl:=⟨(215,⟨H.p,H.r,u4 SY⟩),co H func215⟩
end F215
namespace F174
def FP(a:Int)(b:Int32)(f:Int)(g h:LX)(k:Int32):Option (Int32×Int×Int32×Int×LX×LX×Int):=
(CF a b f g h).bind λm=>
if(Bm m 0)then
some (0,0,0,0,(List.replicate 16 (0:Int32)),(List.replicate 16 (0:Int32)),m)
else
(CH a b).bind λ(n,y)=>
(SY f g h (Ak k n)).bind λ(o,p,u,v,w)=>
bo (
some (o,a,k,p,u,v,w))
theorem fH: @FP= @Us:=by
  unfold FP Us;simp only[gC,OG,QO]
def H:Hd:=⟨[.agg [Si,Sx,.agg [Si,.lf (.vec 16 (.int .i32)) none,.lf (.vec 16 (.int .i32)) none]],Sx],[Sx,.agg [Si,Sx,.agg [Si,.lf (.vec 16 (.int .i32)) none,.lf (.vec 16 (.int .i32)) none]],Si],(.seq .d (.seq .d (.seq .d (.seq .d (.seq (.mode false) .d))))),kt [F213.k,F214.k,F215.k] false,[],f174⟩
def k:Kc P_ gl:=⟨(174,⟨H.p,H.r,u6 Us⟩),co H func174 (λx=>Eq.trans (b:=u6 FP x) F4 (by simp only[fH]<;>rfl))⟩
end F174
namespace F175
def H:Hd:=⟨[Sx],[Su],.d,kt [] false,[],f175⟩
def k:Kc P_ gl:=⟨(175,⟨H.p,H.r,gP⟩),co H func175⟩
end F175
namespace F125
abbrev R_:=(LU×Int)
def H:Hd:=⟨[.agg [Si,Si],.lf (.vec 16 (.int .i32)) none,Sw],[Ov 201,Si],(.seq .d (.seq .d (.seq .d (.seq .d (.seq .d (.cut [3,9,11] [] (.seq .d (.blk (.loop [3,4,9,11,36] [] .d))) (.seq .d (.cut [13] [] (.seq .d (.blk (.loop [3,11,13,49,50,51] [⟨13,[],.own 201 (.int .u32)⟩] .d))) .d)))))))),kt [F171.k,F172.k,F173.k,F174.k,F175.k] false,[],f125⟩
def t10(b:LX)(a f g:Int)(k:List (Int×Int32×(Int×LX×LX×Unit)×Unit))(h:LU):S:=⟨[(3,.ptr 0 []),(11,.ptr 1 []),(13,.own 2),(49,.own 3),(50,vi (Ac b)),(51,vi g)],[.box 23 (.agg [vi a,vi f]),.box 260 (.val (.vec 6 (.cons (.int .i64) (.cons (.int .i32) (.cons (.cons (.int .i64) (.cons (.vec 16 (.int .i32)) (.cons (.vec 16 (.int .i32)) .nil))) .nil)))) k),Av 201 h,Aw 21 b],[]⟩
def z10:Nat->S->Option R_:=H.i P_ [r,r,r,r,r,r,r,l,r,d]
def t7(a f:Int)(n b:LX)(o:Int)(m:List (Int×Int32×(Int×LX×LX×Unit)×Unit)):S:=⟨[(3,.ptr 0 []),(4,.ptr 1 []),(9,.own 2),(11,.ptr 3 []),(36,vi o)],[.box 23 (.agg [vi a,vi f]),.box 132 (.val (.vec 16 (.int .i32)) n),Aw 21 b,.box 260 (.val (.vec 6 (.cons (.int .i64) (.cons (.int .i32) (.cons (.cons (.int .i64) (.cons (.vec 16 (.int .i32)) (.cons (.vec 16 (.int .i32)) .nil))) .nil)))) m)],[]⟩
def z7:Nat->S->Option R_:=H.i P_ [r,r,r,r,r,l,r,d]
def x10(b:LX)(a f g:Int)(k:List (Int×Int32×(Int×LX×LX×Unit)×Unit))(h:LU):Option R_:=H.e P_ [r,r,r,r,r,r,r,l,r,d] (t10 b a f g k h)
theorem i10(b:LX)(a f:Int):∀(q:Nat) (g:Int) (k:List (Int×Int32×(Int×LX×LX×Unit)×Unit)) (h:LU),z10 q (t10 b a f g k h)=Kh b a f q g k h:=
 ind (λ_ _ _=>by kernel_rfl) λq ih g k h=>Eq.trans (b:=Ug RH (λg k h=>(z10 q) (t10 b a f g k h)) b a f g k h) F4 (by simp only[ih]<;>rfl)
theorem e10:x10=OQ:=by funext b a f g k h;exact Eq.trans F4 ((i10 b a f Ch g k h).trans (by rw[Ao];rfl))
theorem i7(a f:Int)(n b:LX):∀(q:Nat) (o:Int) (m:List (Int×Int32×(Int×LX×LX×Unit)×Unit)),z7 q (t7 a f n b o m)=EG a f n b q o m:=
 ind (λ_ _=>by kernel_rfl) λq ih o m=>Eq.trans (b:=RQ (RL x10) (λo m=>(z7 q) (t7 a f n b o m)) a f n b o m) F4 (by simp only[e10,ih]<;>rfl)
def k:Kc P_ gl:=⟨(125,⟨H.p,H.r,u4 DX⟩),co H func125 (λx=>Eq.trans (b:=u4 (DY (λa f n b o m=>z7 Ch (t7 a f n b o m))) x) F4 (by simp only[i7,Ao]<;>rfl))⟩
end F125
namespace F176
def H:Hd:=⟨[],[.agg [Si,Si,Sq,Sq]],.d,kt [] false,[],f176⟩
def k:Kc P_ gl:=⟨(176,⟨H.p,H.r,λ_=>mY⟩),co H func176⟩
end F176
namespace F126
abbrev R_:=((List (Int×Int×UInt64×UInt64×Unit)))
def H:Hd:=⟨[],[.lf (.vec 6 (.cons (.int .i64) (.cons (.int .i64) (.cons (.int .u64) (.cons (.int .u64) .nil))))) none],(.seq .d (.seq .d (.cut [0,1] [] (.seq .d (.blk (.loop [0,1,3] [] .d))) .d))),kt [F176.k] false,[],f126⟩
def t4(b:Int)(a:List (Int×Int×UInt64×UInt64×Unit)):S:=⟨[(0,.ptr 0 []),(1,.ptr 1 []),(3,vi b)],[.box 197 (.val (.vec 6 (.cons (.int .i64) (.cons (.int .i64) (.cons (.int .u64) (.cons (.int .u64) .nil))))) (List.replicate 6 ((0:Int),(0:Int),(0:UInt64),(0:UInt64),()))),.box 197 (.val (.vec 6 (.cons (.int .i64) (.cons (.int .i64) (.cons (.int .u64) (.cons (.int .u64) .nil))))) a)],[]⟩
def z4:Nat->S->Option R_:=H.i P_ [r,r,l,r,d]
theorem i4:∀(q:Nat) (b:Int) (a:List (Int×Int×UInt64×UInt64×Unit)),z4 q (t4 b a)=DA q b a:=
 ind (λ_ _=>by kernel_rfl) λq ih b a=>Eq.trans (b:=SU SO (λb a=>(z4 q) (t4 b a)) b a) F4 (by simp only[ih]<;>rfl)
def k:Kc P_ gl:=⟨(126,⟨H.p,H.r,λ_=>EU⟩),co H func126 (λx=>Eq.trans (b:=DT (λb a=>z4 Ch (t4 b a))) F4 (by simp only[i4,Ao]<;>rfl))⟩
end F126
namespace F177
def H:Hd:=⟨[.agg [Sb,Si]],[Si],.d,kt [] false,[],f177⟩
def k:Kc P_ gl:=⟨(177,⟨H.p,H.r,u2 Kl⟩),co H func177⟩
end F177
namespace F178
def PF(j4:Int->Int->UInt64->UInt64->Option Int)(a b:Int)(f g:UInt64):Option Int:=
both (
bo (
j4 a b f g)) [
j4 a b f g]
theorem nY: @PF= @IW:=by
  unfold PF IW
  repeat (refine funext λ_=>?_)
  repeat' first
    |with_reducible rfl
    |with_reducible refine Mh ?_ ?_
    |with_reducible refine Lz ?_ ?_ ?_
    |with_reducible refine Mk ?_ ?_ ?_ ?_
    |((with_reducible refine Qz ?_ ?_);focus (intro h;first|(subst h;rfl)|(simp only[h];rfl)|(simp[Br,Ac,h];done)))
    |with_reducible refine Qj λx=>?_
    |with_reducible refine Yw (λ_=>?_) (λ_=>?_)
    |(refine Gn (λh=>by simp only[h,Qt,Dz,Dt,ite_self]) (λx h=>?_);(try simp only[h,Dz]))
    |(refine Jk (λh=>?_) (λh=>?_)<;>simp only[h,if_true,if_false,Bool.false_eq_true])
def OH(j3:Int->Int->UInt64->UInt64->Option Int)(a b:Int)(f g:UInt64):Option Int:=
both (
bo (
j3 a b f g)) [
j3 a b f g]
theorem oI: @OH= @JC:=by
  unfold OH JC
  repeat (refine funext λ_=>?_)
  repeat' first
    |with_reducible rfl
    |with_reducible refine Mh ?_ ?_
    |with_reducible refine Lz ?_ ?_ ?_
    |with_reducible refine Mk ?_ ?_ ?_ ?_
    |((with_reducible refine Qz ?_ ?_);focus (intro h;first|(subst h;rfl)|(simp only[h];rfl)|(simp[Br,Ac,h];done)))
    |with_reducible refine Qj λx=>?_
    |with_reducible refine Yw (λ_=>?_) (λ_=>?_)
    |(refine Gn (λh=>by simp only[h,Qt,Dz,Dt,ite_self]) (λx h=>?_);(try simp only[h,Dz]))
    |(refine Jk (λh=>?_) (λh=>?_)<;>simp only[h,if_true,if_false,Bool.false_eq_true])
abbrev R_:=Int
def H:Hd:=⟨[.agg [Si,Si,Sq,Sq]],[Si],(.seq .d (.seq .d (.cut [1,3] [] (.mode false) (.cut [1,3] [] (.mode false) .d)))),kt [] false,[],f178⟩
def x3(a b:Int)(f g:UInt64):Option R_:=H.e P_ [r,r,r] ⟨[(1,.ptr 0 []),(3,.ptr 1 [])],[.box 196 (.agg [vi a,vi b,vq f,vq g]),.box 196 (.agg [vi (Kt (nZ a (0:Int)) (24:Int)),vi (Kt (nZ b (0:Int)) (24:Int)),vq f,vq g])],[]⟩
theorem e3:x3=TY:=Eq.trans (b:=PF TB) F4 (by rw[nY];rfl)
def k:Kc P_ gl:=⟨(178,⟨H.p,H.r,u4 QN⟩),co H func178 (λx=>Eq.trans (b:=u4 (OH x3) x) F4 (by rw[oI];simp only[e3]<;>rfl))⟩
end F178
namespace F179
def H:Hd:=⟨[.agg [Si,Si,Sq,Sq],Su],[Si,Su],.d,kt [] false,[],f179⟩
def k:Kc P_ gl:=⟨(179,⟨H.p,H.r,u5 IH⟩),co H func179⟩
end F179
namespace F216
def H:Hd:=⟨[.agg [Sb,Si]],[.agg [Ob 5,Si]],.d,kt [F75.k] false,[],f216⟩
def k:Kc P_ gl:=⟨(216,⟨H.p,H.r,u2 VN⟩),co H func216⟩
end F216
namespace F180
abbrev R_:=(LB×Int×Int)
abbrev K_:=S->Option R_
def H:Hd:=⟨[.agg [Sb,Si],Sq,Si],[.agg [Ob 5,Si],Si],(.seq .d (.seq .d (.seq .d (.cut [3,6] [] (.keep [1,2,3,6,40,41] true) .d)))),kt [F177.k,F216.k] false,[(217,(.blk (.loop [0,1,2] [] (.seq .d (.blk (.cut [0,1,2] [] .d (.seq .d (.cut [0,1,2,7] [] .d .d))))))))],f180⟩
def t15(b:UInt64)(a:Int)(m:UInt64)(h f:Int)(o:LB):S:=⟨[(0,.ptr 0 []),(1,vq m),(2,vi h)],[.box 200 (.agg [.own 2,vi f]),.box 200 (.agg [.nils,vi 0]),Ab 5 o],[[(1,vq b),(2,vi a),(3,.ptr 0 []),(6,.ptr 1 []),(40,vq b),(41,vi a)]]⟩
def z15:Nat->S->Option R_:=H.i P_ [r,r,r,l,(call 2 217),d]
def t22(b:UInt64)(a:Int)(n:UInt64)(k g:Int)(p:LB):S:=⟨[(0,.ptr 0 []),(1,vq n),(2,vi k)],[.box 200 (.agg [.own 2,vi g]),.box 200 (.agg [.nils,vi 0]),Ab 5 p],[[(1,vq b),(2,vi a),(3,.ptr 0 []),(6,.ptr 1 []),(40,vq b),(41,vi a)]]⟩
def z22:Nat->S->Option R_:=H.i P_ [r,r,r,l,(call 2 217),d]
theorem i15(b:UInt64)(a:Int):∀(q:Nat) (m:UInt64) (h f:Int) (o:LB),z15 q (t15 b a m h f o)=Pm b a q m h f o:=
 ind (λ_ _ _ _=>by kernel_rfl) λq ih m h f o=>Eq.trans (b:=NO (NN (λm h f o=>(z15 q) (t15 b a m h f o)) b a) YE b a m h f o) F4 (by simp only[ih]<;>rfl)
theorem i22(b:UInt64)(a:Int):∀(q:Nat) (n:UInt64) (k g:Int) (p:LB),z22 q (t22 b a n k g p)=YP b a q n k g p:=
 ind (λ_ _ _ _=>by kernel_rfl) λq ih n k g p=>Eq.trans (b:=nD (oK (λn k g p=>(z22 q) (t22 b a n k g p)) b a) pF b a n k g p) F4 (by simp only[ih]<;>rfl)
def k:Kc P_ gl:=⟨(180,⟨H.p,H.r,u4 QG⟩),co H func180 (λx=>Eq.trans (b:=u4 (dD (λb a m h f o=>z15 Ch (t15 b a m h f o)) (λb a n k g p=>z22 Ch (t22 b a n k g p))) x) F4 (by simp only[i15,i22,Ao]<;>rfl))⟩
end F180
namespace F218
def H:Hd:=⟨[Su,Si],[Sz],.d,kt [] false,[],f218⟩
def k:Kc P_ gl:=⟨(218,⟨H.p,H.r,u2 FT⟩),co H func218⟩
end F218
namespace F244
def H:Hd:=⟨[Si],[Si,Si],.d,kt [] false,[],f244⟩
def k:Kc P_ gl:=⟨(244,⟨H.p,H.r,ZI⟩),co H func244⟩
end F244
namespace F219
def H:Hd:=⟨[.agg [Sb,Si],Si],[.agg [Ob 5,Si],Si],.d,kt [F177.k,F180.k,F244.k] false,[],f219⟩
def k:Kc P_ gl:=⟨(219,⟨H.p,H.r,u3 SM⟩),co H func219⟩
end F219
namespace F181
abbrev R_:=(LB×Int×Int)
def H:Hd:=⟨[.agg [Sb,Si],Su,Si],[.agg [Ob 5,Si],Si],(.seq .d (.seq .d (.seq .d (.seq .d (.cut [3,6,9,10,11] [] .d .d))))),kt [F177.k,F180.k,F218.k,F219.k] false,[],f181⟩
def k:Kc P_ gl:=⟨(181,⟨H.p,H.r,u4 YS⟩),co H func181⟩
end F181
namespace F127
def MG(k u n:Int)(a:UInt64)(b:UInt32)(o:UInt64)(m:LB):Option (LB×Int×Int×Int×UInt64×UInt64×Int):=
(λaf:Option (LB×Int×Int×Int×UInt64×UInt64×Int)=>
both (
bo (
af)) [
af]) (
some (m,k,u,n,(Ae a (Ak (Ad b:UInt64) (Ce a (GI.toZ (4:UInt64)).toNat))),o,0))
theorem lX: @MG= @FY:=by
  unfold MG FY
  try simp only[gC,OG,QO]
  all_goals
    repeat (refine funext λ_=>?_)
    repeat' first
      |with_reducible rfl
      |with_reducible refine Mh ?_ ?_
      |with_reducible refine Lz ?_ ?_ ?_
      |with_reducible refine Mk ?_ ?_ ?_ ?_
      |((with_reducible refine Qz ?_ ?_);focus (intro h;first|(subst h;rfl)|(simp only[h];rfl)|(simp[Br,Ac,h];done)))
      |with_reducible refine Qj λx=>?_
      |with_reducible refine Yw (λ_=>?_) (λ_=>?_)
      |(refine Gn (λh=>by simp only[h,Qt,Dz,Dt,ite_self]) (λx h=>?_);(try simp only[h,Dz]))
      |(refine Jk (λh=>?_) (λh=>?_)<;>simp only[h,if_true,if_false,Bool.false_eq_true])
abbrev R_:=(LB×Int×Int×Int×UInt64×UInt64×Int)
def H:Hd:=⟨[.agg [Sb,Si],.agg [Si,Si,Sq,Sq],Su],[.agg [Ob 5,Si],.agg [Si,Si,Sq,Sq],Si],(.seq .d (.cut [2,3,4,6,7] [] .d (.seq .d (.seq .d (.cut [2,3,4,6,7,11] [] .d (.seq .d (.cut [3,4,6,7] [] (.keep [2,3,4,6,7,65] true) (.seq (.mode false) .d)))))))),kt [F177.k,F178.k,F179.k,F180.k,F181.k] false,[(182,(.seq .d (.seq .d (.seq .d (.blk (.cut [0,1,4] [] (.blk (.seq .d (.keep [0,1,4,6,18,19,20,21,22,23,24,25] true))) (.cut [] [] (.keep [0,1,4,27,28,29,30,31,32,33,34] true) .d))))))),(220,.d)],f127⟩
def x10(k u n:Int)(a:UInt64)(b:UInt32)(o:UInt64)(m:LB):Option R_:=H.e P_ [r,r,r,r,r,r,r] ⟨[(3,.ptr 0 []),(4,.ptr 1 []),(6,.ptr 2 []),(7,.ptr 3 [])],[.box 200 (.agg [.own 4,vi k]),.box 196 (.agg [vi u,vi n,vq (Ae a (Ak (Ad b:UInt64) (Ce a (GI.toZ (4:UInt64)).toNat))),vq o]),.box 200 (.agg [.nils,vi 0]),.box 196 (.agg [vi 0,vi 0,vq 0,vq 0]),Ab 5 m],[]⟩
def x8(b:UInt32)(f:Int)(a:UInt64)(k:Int)(m:LB)(n:Int)(o:UInt64):Option R_:=H.e P_ [r,r,r,r,r,r,l,(call 1 182),r,r,r,d,r] ⟨[(0,.ptr 0 []),(1,vu b),(4,.fn 220 [])],[.box 196 (.agg [vi f,vi n,vq a,vq o]),.box 200 (.agg [.own 4,vi k]),.box 200 (.agg [.nils,vi 0]),.box 196 (.agg [vi 0,vi 0,vq 0,vq 0]),Ab 5 m],[[(2,vu b),(3,.ptr 1 []),(4,.ptr 0 []),(6,.ptr 2 []),(7,.ptr 3 []),(65,vu b)]]⟩
theorem e10:x10=RA:=Eq.trans (b:=MG) F4 (by rw[lX];rfl)
theorem e8:x8=Zu:=Eq.trans (b:=TE (TO x10)) F4 (by simp only[e10]<;>rfl)
def k:Kc P_ gl:=⟨(127,⟨H.p,H.r,u7 YN⟩),co H func127 (λx=>Eq.trans (b:=u7 (UE (TX (TC x8))) x) F4 (by simp only[e8]<;>rfl))⟩
end F127
namespace F183
abbrev R_:=(UInt32×Int)
abbrev K_:=S->Option R_
def H:Hd:=⟨[Su,Sb],[Su,Si],(.seq .d (.seq .d (.cut [0,1,6] [] (.keep [0,1,6,12] true) (.cut [0] [] (.seq .d (.blk (.loop [0,6,13,14,15] [] .d))) .d)))),kt [] false,[(221,(.seq .d (.seq .d (.cut [1] [] (.seq .d (.blk (.loop [1,5] [] (.seq .d (.seq .d (.cut [1,5] [] (.blk (.seq .d (.seq .d (.cut [1,2,3,5] [] (.seq .d (.blk (.loop [1,2,3,5,10] [] .d))) .d)))) .d)))))) .d))))],f183⟩
def t28(a:LB)(b:LU)(h:UInt32)(m:Int):S:=⟨[(0,vu h),(6,.ptr 0 []),(13,vb a),(14,vi (Ac a)),(15,vi m)],[.box 340 (.val (.vec 256 (.int .u32)) b)],[]⟩
def z28:Nat->S->Option R_:=H.i P_ [r,r,r,l,r,d]
def t21(f:UInt32)(a:LB)(g:Int)(b:LU)(k:UInt32)(n:Int):S:=⟨[(1,.ptr 0 []),(2,vi g),(3,vu k),(5,vi g),(10,vi n)],[.box 340 (.val (.vec 256 (.int .u32)) b)],[[(0,vu f),(1,vb a)]]⟩
def z21(Hp:K_):Nat->S->Option R_:=H.i P_ [r,r,l,(call 0 221),r,r,l,r,d,(lp Hp),r,r,l,d,r,r,l,r,d]
def t16(f:UInt32)(a:LB)(g:Int)(b:LU):S:=⟨[(1,.ptr 0 []),(5,vi g)],[.box 340 (.val (.vec 256 (.int .u32)) b)],[[(0,vu f),(1,vb a)]]⟩
def z16:Nat->S->Option R_:=H.i P_ [r,r,l,(call 0 221),r,r,l,r,d]
def x28(a:LB)(b:LU)(h:UInt32)(m:Int):Option R_:=H.e P_ [r,r,r,l,r,d] (t28 a b h m)
def x21(Hp:K_)(f:UInt32)(a:LB)(g:Int)(b:LU)(k:UInt32)(n:Int):Option R_:=H.e P_ [r,r,l,(call 0 221),r,r,l,r,d,(lp Hp),r,r,l,d,r,r,l,r,d] (t21 f a g b k n)
theorem i28(a:LB)(b:LU):∀(q:Nat) (h:UInt32) (m:Int),z28 q (t28 a b h m)=Rv a b q h m:=
 ind (λ_ _=>by kernel_rfl) λq ih h m=>Eq.trans (b:=FI PA (λh m=>(z28 q) (t28 a b h m)) a b h m) F4 (by simp only[ih]<;>rfl)
theorem e28:x28=PR:=by funext a b h m;exact Eq.trans F4 ((i28 a b Ch h m).trans (by rw[Ao];rfl))
theorem i21(Hp:K_)(f:UInt32)(a:LB)(g:Int)(b:LU):∀(q:Nat) (k:UInt32) (n:Int),z21 Hp q (t21 f a g b k n)=Rm (λg b=>Hp (t16 f a g b)) f a g b q k n:=
 ind (λ_ _=>by kernel_rfl) λq ih k n=>Eq.trans (b:=DU (EC (λg b=>Hp (t16 f a g b)) f a) (λk n=>(z21 Hp q) (t21 f a g b k n)) f a g b k n) F4 (by simp only[ih]<;>rfl)
theorem e21(Hp:K_)(f:UInt32)(a:LB):x21 Hp f a=OM (λg b=>Hp (t16 f a g b)) f a:=by funext g b k n;exact Eq.trans F4 ((i21 Hp f a g b Ch k n).trans (by rw[Ao];rfl))
theorem i16(f:UInt32)(a:LB):∀(q:Nat) (g:Int) (b:LU),z16 q (t16 f a g b)=Nj f a q g b:=
 ind (λ_ _=>by kernel_rfl) λq ih g b=>Eq.trans (b:=FJ (x21 (z16 q) f a) (PD (PK x28)) f a g b) F4 (by simp only[e21,e28,ih]<;>rfl)
def k:Kc P_ gl:=⟨(183,⟨H.p,H.r,u2 ZS⟩),co H func183 (λx=>Eq.trans (b:=u2 (TL (λf a g b=>z16 Ch (t16 f a g b))) x) F4 (by simp only[i16,Ao]<;>rfl))⟩
end F183
namespace F129
def H:Hd:=⟨[Sb],[Su,Si],.d,kt [F183.k] false,[],f129⟩
def k:Kc P_ gl:=⟨(129,⟨H.p,H.r,HY⟩),co H func129⟩
end F129
namespace F184
def H:Hd:=⟨[Sq,Si],[Sz],.d,kt [] false,[],f184⟩
def k:Kc P_ gl:=⟨(184,⟨H.p,H.r,u2 uN⟩),co H func184⟩
end F184
namespace F130
abbrev R_:=(LB×Int)
def H:Hd:=⟨[Sq,Si],[Ob 5,Si],(.seq .d (.seq .d (.seq .d (.seq .d (.cut [6] [] (.seq .d (.blk (.loop [0,6,21,22] [] .d))) .d))))),kt [F184.k] false,[],f130⟩
def t4(f:UInt64)(g:LB)(a:Int)(b:LB):S:=⟨[(0,vq f),(6,.own 0),(21,vi (Ac g)),(22,vi a)],[Ab 5 b],[]⟩
def z4:Nat->S->Option R_:=H.i P_ [r,r,r,r,l,r,d]
theorem i4(f:UInt64)(g:LB):∀(q:Nat) (a:Int) (b:LB),z4 q (t4 f g a b)=CN f g q a b:=
 ind (λ_ _=>by kernel_rfl) λq ih a b=>Eq.trans (b:=RX cU (λa b=>(z4 q) (t4 f g a b)) f g a b) F4 (by simp only[ih]<;>rfl)
def k:Kc P_ gl:=⟨(130,⟨H.p,H.r,u2 Zr⟩),co H func130 (λx=>Eq.trans (b:=u2 (eL (λf g a b=>z4 Ch (t4 f g a b))) x) F4 (by simp only[i4,Ao]<;>rfl))⟩
end F130
namespace F88
abbrev R_:=LB
def H:Hd:=⟨[.lf (.list (.list (.int .u8))) none],[Ob 5],(.seq .d (.seq .d (.cut [0,3] [] (.seq .d (.blk (.loop [0,3,9,10,11] [] .d))) (.cut [0,6] [⟨6,[],.own 5 (.int .u8)⟩] (.keep [0,3,6,23,24] true) (.cut [6] [] (.seq .d (.blk (.loop [6,25,26,27] [] .d))) .d))))),kt [] true,[(135,(.seq .d (.cut [0,1] [] .d .d)))],f88⟩
def t14(a:List LB)(g:Int)(f:LB):S:=⟨[(6,.own 0),(25,.val (.list (.list (.int .u8))) a),(26,vi (Ac a)),(27,vi g)],[Ab 5 f],[]⟩
def z14:Nat->S->Option R_:=H.i P_ [r,r,r,r,l,r,d]
def t9(a:List LB)(b h:Int):S:=⟨[(0,.val (.list (.list (.int .u8))) a),(3,vi b),(9,.val (.list (.list (.int .u8))) a),(10,vi (Ac a)),(11,vi h)],[],[]⟩
def z9:Nat->S->Option R_:=H.i P_ [r,r,l,r,d]
def x14(a:List LB)(g:Int)(f:LB):Option R_:=H.e P_ [r,r,r,r,l,r,d] (t14 a g f)
theorem i14(a:List LB):∀(q:Nat) (g:Int) (f:LB),z14 q (t14 a g f)=By a q g f:=
 ind (λ_ _=>by kernel_rfl) λq ih g f=>Eq.trans (b:=Cv Wc (λg f=>(z14 q) (t14 a g f)) a g f) F4 (by simp only[ih]<;>rfl)
theorem e14:x14=Ip:=by funext a g f;exact Eq.trans F4 ((i14 a Ch g f).trans (by rw[Ao];rfl))
theorem i9(a:List LB):∀(q:Nat) (b h:Int),z9 q (t9 a b h)=Cc a q b h:=
 ind (λ_ _=>by kernel_rfl) λq ih b h=>Eq.trans (b:=Db (Ir (Is (Iq x14))) (λb h=>(z9 q) (t9 a b h)) a b h) F4 (by simp only[e14,ih]<;>rfl)
def k:Kc P_ gl:=⟨(88,⟨H.p,H.r,Dy⟩),co H func88 (λx=>Eq.trans (b:=Nw (λa b h=>z9 Ch (t9 a b h)) x) F4 (by simp only[i9,Ao]<;>rfl))⟩
end F88
namespace F83
abbrev R_:=(LB×Int)
abbrev K_:=S->Option R_
def H:Hd:=⟨[.agg [Si,Si],.lf (.vec 16 (.int .i32)) none,Sw],[Ob 5,Si],(.seq .d (.seq .d (.seq .d (.seq .d (.seq .d (.cut [11] [] (.seq .d (.blk (.loop [3,10,11,30,31,32] [⟨11,[0],.own 5 (.int .u8)⟩] (.seq .d (.seq .d (.cut [3,10,11,30,31,32] [] (.blk (.seq .d (.seq .d (.seq .d (.seq .d (.keep [3,10,11,14,30,31,32,59] true)))))) .d)))))) .d)))))),kt [F88.k,F125.k,F126.k,F127.k,F129.k,F130.k] false,[(128,(.seq .d (.seq .d (.blk (.loop [0,3,7,8] [] (.seq .d (.seq .d (.seq (.blk (.seq .d (.cut [0,3,4,7,8] [] .d (.seq .d (.cut [0,3,7,8] [] .d .d))))) .d))))))))],f83⟩
def t44(b:LU)(a g h f:Int)(n:List (Int×Int×UInt64×UInt64×Unit))(m:LB)(o k:Int)(w:LB):S:=⟨[(0,.ptr 0 []),(3,.ptr 1 []),(7,vi h),(8,vi o)],[.box 200 (.agg [.own 7,vi k]),.box 200 (.agg [.own 6,vi h]),.box 23 (.agg [vi a,vi g]),.box 197 (.val (.vec 6 (.cons (.int .i64) (.cons (.int .i64) (.cons (.int .u64) (.cons (.int .u64) .nil))))) n),.box 200 (.agg [.own 6,vi h]),Av 201 b,Ab 5 m,Ab 5 w],[[(3,.ptr 2 []),(10,.ptr 3 []),(11,.ptr 0 []),(14,.ptr 4 []),(30,.own 5),(31,vi (Ac b)),(32,vi f),(59,.agg [.own 6,vi h])]]⟩
def z44(tW:K_):Nat->S->Option R_:=H.i P_ [r,r,r,r,r,l,r,d,(lp tW),r,r,l,d,r,r,r,r,(call 1 128),r,r,d]
def t27(b:LU)(a g f:Int)(u:List (Int×Int×UInt64×UInt64×Unit))(v:Int)(p:LB):S:=⟨[(3,.ptr 0 []),(10,.ptr 1 []),(11,.ptr 2 []),(30,.own 3),(31,vi (Ac b)),(32,vi f)],[.box 23 (.agg [vi a,vi g]),.box 197 (.val (.vec 6 (.cons (.int .i64) (.cons (.int .i64) (.cons (.int .u64) (.cons (.int .u64) .nil))))) u),.box 200 (.agg [.own 4,vi v]),Av 201 b,Ab 5 p],[]⟩
def z27:Nat->S->Option R_:=H.i P_ [r,r,r,r,r,l,r,d]
def x44(tW:K_)(b:LU)(a g h f:Int)(n:List (Int×Int×UInt64×UInt64×Unit))(m:LB)(o k:Int)(w:LB):Option R_:=H.e P_ [r,r,r,r,r,l,r,d,(lp tW),r,r,l,d,r,r,r,r,(call 1 128),r,r,d] (t44 b a g h f n m o k w)
theorem i44(tW:K_)(b:LU)(a g h f:Int)(n:List (Int×Int×UInt64×UInt64×Unit))(m:LB):∀(q:Nat) (o k:Int) (w:LB),z44 tW q (t44 b a g h f n m o k w)=Fx (λf u v p=>tW (t27 b a g f u v p)) b a g h f n m q o k w:=
 ind (λ_ _ _=>by kernel_rfl) λq ih o k w=>Eq.trans (b:=Ui (Tj (λo k w=>(z44 tW q) (t44 b a g h f n m o k w)) h b f a g n m) (BL (λf u v p=>tW (t27 b a g f u v p)) b a g) b a g h f n m o k w) F4 (by simp only[ih]<;>rfl)
theorem e44(tW:K_)(b:LU)(a g:Int):x44 tW b a g=PT (λf u v p=>tW (t27 b a g f u v p)) b a g:=by funext h f n m o k w;exact Eq.trans F4 ((i44 tW b a g h f n m Ch o k w).trans (by rw[Ao];rfl))
theorem i27(b:LU)(a g:Int):∀(q:Nat) (f:Int) (u:List (Int×Int×UInt64×UInt64×Unit)) (v:Int) (p:LB),z27 q (t27 b a g f u v p)=Ia b a g q f u v p:=
 ind (λ_ _ _ _=>by kernel_rfl) λq ih f u v p=>Eq.trans (b:=Tx (x44 (z27 q) b a g) BA b a g f u v p) F4 (by simp only[e44,ih]<;>rfl)
def k:Kc P_ gl:=⟨(83,⟨H.p,H.r,u4 Xs⟩),co H func83 (λx=>Eq.trans (b:=u4 (DP (λb a g f u v p=>z27 Ch (t27 b a g f u v p))) x) F4 (by simp only[i27,Ao]<;>rfl))⟩
end F83
namespace F48
def H:Hd:=⟨[.agg [.agg [Si,Si],Si,Ss,Sb,Sw,.lf (.list (.list (.int .u8))) none,Sb,Sz,Si],Si],[.agg [.agg [Si,Si],Si,Ss,Ob 5,Ow 21,.lf (.list (.list (.int .u8))) (some 24),Ob 5,Sz,Si],Si],.d,kt [] false,[],f48⟩
def k:Kc P_ gl:=⟨(48,⟨H.p,H.r,u11 Ue⟩),co H func48⟩
end F48
namespace F13
abbrev R_:=(Int×Int×Int×LB×LB×LX×(List LB)×LB×Bool×Int×Int)
abbrev K_:=S->Option R_
def H:Hd:=⟨[.agg [.agg [Si,Si],Si,Ss,Sb,Sw,.lf (.list (.list (.int .u8))) none,Sb,Sz,Si],Sb],[.agg [.agg [Si,Si],Si,Ss,Ob 5,Ow 21,.lf (.list (.list (.int .u8))) (some 24),Ob 5,Sz,Si],Si],(.seq .d (.seq .d (.seq .d (.seq .d (.seq .d (.cut [2,4] [] (.seq .d (.blk (.loop [2,4,8,9,27,28,29] [] (.seq .d (.seq .d (.cut [2,4,8,9,27,28,29] [] (.blk (.seq .d (.seq .d (.seq .d (.cut [2,4,8,9,12,27,28,29] [⟨2,[3],.own 5 (.int .u8)⟩,⟨2,[4],.own 21 (.int .i32)⟩,⟨9,[0,3],.own 5 (.int .u8)⟩,⟨9,[0,4],.own 21 (.int .i32)⟩] (.keep [2,4,8,9,12,27,28,29,45] true) .d))))) .d)))))) .d)))))),kt [F41.k,F42.k,F44.k,F45.k,F46.k,F48.k,F82.k,F83.k] false,[(43,(.seq .d (.cut [0,1] [] .d (.seq .d (.seq .d (.seq .d (.seq .d (.cut [2] [] (.keep [2,43] true) .d)))))))),(47,.d)],f13⟩
def t14(p:Int)(n:LB)(a b g:Int)(f:LB)(h:Bool)(k o:Int)(m:LB)(u:Int)(y:LB)(w:LX)(v:List LB):S:=⟨[(2,.ptr 0 []),(4,.ptr 1 []),(8,vi p),(9,.fn 43 [.ptr 0 [],.ptr 2 []]),(27,vb n),(28,vi (Ac n)),(29,vi u)],[.box 33 (.agg [.agg [vi a,vi b],vi g,vs f,.own 3,.own 4,.own 5,.own 6,vt h,vi k]),.box 33 (.agg [.agg [vi 0,vi 0],vi 0,vs ([]:LB),.nils,.nils,.nils,.nils,vt false,vi 0]),.box 3 (vi o),Ab 5 y,Aw 21 w,.arr 24 (.list (.int .u8)) v,Ab 5 m],[]⟩
def z14:Nat->S->Option R_:=H.i P_ [r,r,r,r,r,l,r,d]
theorem i14(p:Int)(n:LB)(a b g:Int)(f:LB)(h:Bool)(k o:Int)(m:LB):∀(q:Nat) (u:Int) (y:LB) (w:LX) (v:List LB),z14 q (t14 p n a b g f h k o m u y w v)=If p n a b g f h k o m q u y w v:=
 ind (λ_ _ _ _=>by kernel_rfl) λq ih u y w v=>Eq.trans (b:=Yh (Nf (λu y w v=>(z14 q) (t14 p n a b g f h k o m u y w v)) p n a b g f h k o m) (Io (λu y w v=>(z14 q) (t14 p n a b g f h k o m u y w v)) p n a b g f h k o m) (HX (λu y w v=>(z14 q) (t14 p n a b g f h k o m u y w v)) p n a b g f h k o m) IM p n a b g f h k o m u y w v) F4 (by simp only[ih]<;>rfl)
def k:Kc P_ gl:=⟨(13,⟨H.p,H.r,u11 NI⟩),co H func13 (λx=>Eq.trans (b:=u11 (MH (λp n a b g f h k o m u y w v=>z14 Ch (t14 p n a b g f h k o m u y w v))) x) F4 (by simp only[i14,Ao]<;>rfl))⟩
end F13
namespace F84
def H:Hd:=⟨[Ss],[Si,Si],.d,kt [] false,[],f84⟩
def k:Kc P_ gl:=⟨(84,⟨H.p,H.r,JF⟩),co H func84⟩
end F84
namespace F185
abbrev R_:=Bool
def H:Hd:=⟨[.agg [Si,Si,Si,Si,Si]],[Sz],(.seq .d (.cut [1] [] .d .d)),kt [] false,[],f185⟩
def k:Kc P_ gl:=⟨(185,⟨H.p,H.r,u5 IU⟩),co H func185⟩
end F185
namespace F186
def H:Hd:=⟨[.agg [Si,Si,Si,Si,Si]],[Sz],.d,kt [F153.k] false,[],f186⟩
def k:Kc P_ gl:=⟨(186,⟨H.p,H.r,u5 SP⟩),co H func186⟩
end F186
namespace F131
def H:Hd:=⟨[.agg [Si,Si,Si,Si,Si]],[Si],.d,kt [F185.k,F186.k] false,[],f131⟩
def k:Kc P_ gl:=⟨(131,⟨H.p,H.r,u5 NG⟩),co H func131⟩
end F131
namespace F85
abbrev R_:=(LB×Int)
def H:Hd:=⟨[.agg [Si,Si,Si,Si,Si]],[Ob 5,Si],(.seq .d (.seq .d (.seq .d (.cut [5] [] (.seq .d (.blk (.loop [5,31,32] [] .d))) .d)))),kt [F129.k,F130.k,F131.k] false,[],f85⟩
def t4(b f g h k m:Int)(a:LB):S:=⟨[(5,.own 0),(31,.val (.vec 5 (.int .i64)) ([b,f,g,h,k]:LI)),(32,vi m)],[Ab 5 a],[]⟩
def z4:Nat->S->Option R_:=H.i P_ [r,r,r,l,r,d]
theorem i4(b f g h k:Int):∀(q:Nat) (m:Int) (a:LB),z4 q (t4 b f g h k m a)=Lr b f g h k q m a:=
 ind (λ_ _=>by kernel_rfl) λq ih m a=>Eq.trans (b:=AP AR (λm a=>(z4 q) (t4 b f g h k m a)) b f g h k m a) F4 (by simp only[ih]<;>rfl)
def k:Kc P_ gl:=⟨(85,⟨H.p,H.r,u5 NS⟩),co H func85 (λx=>Eq.trans (b:=u5 (MI (λb f g h k m a=>z4 Ch (t4 b f g h k m a))) x) F4 (by simp only[i4,Ao]<;>rfl))⟩
end F85
namespace F132
def H:Hd:=⟨[Ss],[Sq,Si],.d,kt [F123.k] false,[],f132⟩
def k:Kc P_ gl:=⟨(132,⟨H.p,H.r,qW⟩),co H func132⟩
end F132
namespace F86
def H:Hd:=⟨[Ss],[Ob 5,Si],.d,kt [F130.k,F132.k] false,[],f86⟩
def k:Kc P_ gl:=⟨(86,⟨H.p,H.r,NR⟩),co H func86⟩
end F86
namespace F133
abbrev R_:=Int
def H:Hd:=⟨[Sl],[Si],(.seq .d (.seq .d (.seq .d (.cut [] [] (.seq .d (.blk (.loop [3,14,15,16] [] .d))) .d)))),kt [] false,[],f133⟩
def t4(a:LI)(f b:Int):S:=⟨[(3,vi f),(14,vl a),(15,vi (Ac a)),(16,vi b)],[],[]⟩
def z4:Nat->S->Option R_:=H.i P_ [r,r,r,l,r,d]
theorem i4(a:LI):∀(q:Nat) (f b:Int),z4 q (t4 a f b)=Rw a q f b:=
 ind (λ_ _=>by kernel_rfl) λq ih f b=>Eq.trans (b:=FV gJ (λf b=>(z4 q) (t4 a f b)) a f b) F4 (by simp only[ih]<;>rfl)
def k:Kc P_ gl:=⟨(133,⟨H.p,H.r,CV⟩),co H func133 (λx=>Eq.trans (b:=EZ (λa f b=>z4 Ch (t4 a f b)) x) F4 (by simp only[i4,Ao]<;>rfl))⟩
end F133
namespace F87
abbrev R_:=(LB×Int)
abbrev K_:=S->Option R_
def H:Hd:=⟨[Sl],[Ob 5,Si],(.seq .d (.seq .d (.seq .d (.seq .d (.cut [5,6] [] (.seq .d (.blk (.loop [5,6,17,18,19] [⟨5,[],.own 5 (.int .u8)⟩,⟨6,[0],.own 5 (.int .u8)⟩] (.seq .d (.seq .d (.cut [5,6,17,18,19] [] (.blk (.seq .d (.keep [5,6,8,17,18,19,23,24,25] true))) .d)))))) (.seq .d (.cut [5] [] (.keep [5,6,9,33,34,35] true) .d))))))),kt [F129.k,F130.k,F133.k] false,[(134,.d)],f87⟩
def t8(a:LI)(f:Int)(b:LB):S:=⟨[(5,.ptr 0 []),(6,.fn 134 [.ptr 0 []]),(17,vl a),(18,vi (Ac a)),(19,vi f)],[.box 24 (.own 1),Ab 5 b],[]⟩
def z8:Nat->S->Option R_:=H.i P_ [r,r,r,r,l,r,d]
theorem i8(a:LI):∀(q:Nat) (f:Int) (b:LB),z8 q (t8 a f b)=Ri a q f b:=
 ind (λ_ _=>by kernel_rfl) λq ih f b=>Eq.trans (b:=FU (LZ (λf b=>(z8 q) (t8 a f b)) a) LR a f b) F4 (by simp only[ih]<;>rfl)
def k:Kc P_ gl:=⟨(87,⟨H.p,H.r,LA⟩),co H func87 (λx=>Eq.trans (b:=PC (λa f b=>z8 Ch (t8 a f b)) x) F4 (by simp only[i8,Ao]<;>rfl))⟩
end F87
namespace F49
def HT(f g h:Int)(b k:LB)(m:LX)(a:List LB)(n:LB)(o:Bool)(p:Int)(u:LB)(v:LI):Option (LB×Int):=
(LA v).bind λ(aa,y)=>
if(Bm y 0)then
some (([]:LB),y)
else
(λao:Option (LB×Int)=>
bo (
ao)) (
(Br u aa).bind λab=>
(Dy a).bind λac=>
(Br ab ac).bind λad=>
some (ad,0))
theorem jA: @HT= @AL:=by
  unfold HT AL;simp only[gC,OG,QO]
abbrev R_:=(LB×Int)
def H:Hd:=⟨[.agg [.agg [Si,Si],Si,Ss,Sb,Sw,.lf (.list (.list (.int .u8))) none,Sb,Sz,Si],Si],[Ob 5,Si],(.seq .d (.seq .d (.seq .d (.seq .d (.seq .d (.cut [2,8] [] .d (.seq .d (.cut [2,8,11] [] (.seq .d (.blk (.loop [2,8,11,58,59,60] [⟨11,[],.own 3 (.int .i64)⟩] .d))) (.seq .d (.seq .d (.seq (.mode false) .d))))))))))),kt [F84.k,F85.k,F86.k,F87.k,F88.k] false,[],f49⟩
def t6(a:List LB)(f g h:Int)(b k:LB)(m:LX)(n:LB)(o:Bool)(p:Int)(u:LB)(w:Int)(v:LI):S:=⟨[(2,.ptr 0 []),(8,.own 1),(11,.own 2),(58,.val (.list (.list (.int .u8))) a),(59,vi (Ac a)),(60,vi w)],[.box 33 (.agg [.agg [vi f,vi g],vi h,vs b,vb k,vw m,.val (.list (.list (.int .u8))) a,vb n,vt o,vi p]),Ab 5 u,Ai 3 v],[]⟩
def z6:Nat->S->Option R_:=H.i P_ [r,r,r,r,r,r,r,l,r,d]
def x8(f g h:Int)(b k:LB)(m:LX)(a:List LB)(n:LB)(o:Bool)(p:Int)(u:LB)(v:LI):Option R_:=H.e P_ [r,r,r,r,r,r,r,r] ⟨[(2,.ptr 0 []),(8,.own 1),(11,.own 2)],[.box 33 (.agg [.agg [vi f,vi g],vi h,vs b,vb k,vw m,.val (.list (.list (.int .u8))) a,vb n,vt o,vi p]),Ab 5 u,Ai 3 v],[]⟩
theorem e8:x8=Up:=Eq.trans (b:=HT) F4 (by rw[jA];rfl)
theorem i6(a:List LB)(f g h:Int)(b k:LB)(m:LX)(n:LB)(o:Bool)(p:Int)(u:LB):∀(q:Nat) (w:Int) (v:LI),z6 q (t6 a f g h b k m n o p u w v)=Pa a f g h b k m n o p u q w v:=
 ind (λ_ _=>by kernel_rfl) λq ih w v=>Eq.trans (b:=AM x8 (λw v=>(z6 q) (t6 a f g h b k m n o p u w v)) a f g h b k m n o p u w v) F4 (by simp only[e8,ih]<;>rfl)
def k:Kc P_ gl:=⟨(49,⟨H.p,H.r,u11 NY⟩),co H func49 (λx=>Eq.trans (b:=u11 (LK (AT (λa f g h b k m n o p u w v=>z6 Ch (t6 a f g h b k m n o p u w v)))) x) F4 (by simp only[i6,Ao]<;>rfl))⟩
end F49
namespace F14
abbrev R_:=(Int×Int×Int×LB×LB×LX×(List LB)×LB×Bool×Int×Int)
def H:Hd:=⟨[.agg [.agg [Si,Si],Si,Ss,Sb,Sw,.lf (.list (.list (.int .u8))) none,Sb,Sz,Si]],[.agg [.agg [Si,Si],Si,Ss,Ob 5,Ow 21,.lf (.list (.list (.int .u8))) (some 24),Ob 5,Sz,Si],Si],(.seq .d (.seq .d (.seq .d (.seq .d (.seq .d (.cut [1,2,6] [] (.seq .d (.cond (.cut [1,2,6,7] [⟨1,[4],.own 21 (.int .i32)⟩] (.keep [1,2,6,7,38] true) .d) .d)) .d)))))),kt [F41.k,F45.k,F48.k,F49.k,F82.k,F83.k] false,[(47,.d)],f14⟩
def k:Kc P_ gl:=⟨(14,⟨H.p,H.r,P1 DN⟩),co H func14⟩
end F14
namespace F28
abbrev R_:=(LB×Int)
def H:Hd:=⟨[.agg [Si,Si,Si,Sw],Ss],[Ob 5,Si],(.seq .d (.seq .d (.seq .d (.seq .d (.seq .d (.seq .d (.seq .d (.cut [8,9] [⟨9,[3],.own 5 (.int .u8)⟩,⟨9,[4],.own 21 (.int .i32)⟩,⟨9,[5],.own 24 (.list (.int .u8))⟩,⟨9,[6],.own 5 (.int .u8)⟩] (.keep [8,9,43,46,47,48] true) .d)))))))),kt [F11.k,F13.k,F14.k,F59.k,F60.k] false,[(61,.d),(62,(.seq .d (.cut [2,6,8,9] [] (.keep [2,6,8,9,11,14,15,16] true) (.seq .d (.cut [6,7] [] .d .d)))))],f28⟩
def k:Kc P_ gl:=⟨(28,⟨H.p,H.r,u5 Kw⟩),co H func28⟩
end F28
namespace F109
def H:Hd:=⟨[.agg [Si,Si,Si,Sw]],[.agg [Si,Si]],.d,kt [] false,[],f109⟩
def k:Kc P_ gl:=⟨(109,⟨H.p,H.r,u4 Hy⟩),co H func109⟩
end F109
namespace F70
def H:Hd:=⟨[Si],[Si],.d,kt [] false,[],f70⟩
def k:Kc P_ gl:=⟨(70,⟨H.p,H.r,Ef⟩),co H func70⟩
end F70
namespace F34
def H:Hd:=⟨[.agg [Si,Si]],[Si],.d,kt [F70.k] false,[],f34⟩
def k:Kc P_ gl:=⟨(34,⟨H.p,H.r,u2 Cg⟩),co H func34⟩
end F34
namespace F111
abbrev R_:=Int
def H:Hd:=⟨[Si,Sw],[Si],(.seq .d (.seq .d (.seq .d (.seq .d (.cut [] [] (.seq .d (.blk (.loop [1,5,6] [] .d))) .d))))),kt [F70.k] false,[],f111⟩
def t4(a:LX)(b f:Int):S:=⟨[(1,vw a),(5,vi b),(6,vi f)],[],[]⟩
def z4:Nat->S->Option R_:=H.i P_ [r,r,r,r,l,r,d]
theorem i4(a:LX)(b:Int):∀(q:Nat) (f:Int),z4 q (t4 a b f)=Bb a b q f:=
 ind (λ_=>by kernel_rfl) λq ih f=>Eq.trans (b:=Cj GK (λf=>(z4 q) (t4 a b f)) a b f) F4 (by simp only[ih]<;>rfl)
def k:Kc P_ gl:=⟨(111,⟨H.p,H.r,u2 Al⟩),co H func111 (λx=>Eq.trans (b:=u2 (Dd (λa b f=>z4 Ch (t4 a b f))) x) F4 (by simp only[i4,Ao]<;>rfl))⟩
end F111
namespace F108
def H:Hd:=⟨[.agg [Si,Si],Sw],[Si],.d,kt [F34.k,F111.k] false,[],f108⟩
def k:Kc P_ gl:=⟨(108,⟨H.p,H.r,u3 Bk⟩),co H func108⟩
end F108
namespace F154
def H:Hd:=⟨[.agg [Si,Si],Si],[Si],.d,kt [F34.k] false,[],f154⟩
def k:Kc P_ gl:=⟨(154,⟨H.p,H.r,u3 Nv⟩),co H func154⟩
end F154
namespace F19
def H:Hd:=⟨[Si],[Si,Si],.d,kt [] false,[],f19⟩
def k:Kc P_ gl:=⟨(19,⟨H.p,H.r,Ec⟩),co H func19⟩
end F19
namespace F203
abbrev R_:=(LI×Int)
def H:Hd:=⟨[Si,Si],[Ol 3,Si],(.seq .d (.seq .d (.seq .d (.seq .d (.cut [8] [] (.blk (.loop [1,6,8] [⟨8,[],.own 3 (.int .i64)⟩] .d)) .d))))),kt [F19.k] false,[],f203⟩
def t4(b f:Int)(a:LI):S:=⟨[(1,vi f),(6,vi b),(8,.own 0)],[Ai 3 a],[]⟩
def z4:Nat->S->Option R_:=H.i P_ [r,r,r,r,l,d]
theorem i4(b:Int):∀(q:Nat) (f:Int) (a:LI),z4 q (t4 b f a)=Jl b q f a:=
 ind (λ_ _=>by kernel_rfl) λq ih f a=>Eq.trans (b:=Qv Zb (λf a=>(z4 q) (t4 b f a)) b f a) F4 (by simp only[ih]<;>rfl)
def k:Kc P_ gl:=⟨(203,⟨H.p,H.r,u2 Yl⟩),co H func203 (λx=>Eq.trans (b:=u2 (Qy (λb f a=>z4 Ch (t4 b f a))) x) F4 (by simp only[i4,Ao]<;>rfl))⟩
end F203
namespace F155
def H:Hd:=⟨[Si,Si],[Si,Si],.d,kt [F203.k] false,[],f155⟩
def k:Kc P_ gl:=⟨(155,⟨H.p,H.r,u2 Jy⟩),co H func155⟩
end F155
namespace F110
def H:Hd:=⟨[.agg [Si,Si,Si,Sw],Si],[Sz],.d,kt [F109.k,F154.k,F155.k] false,[],f110⟩
def k:Kc P_ gl:=⟨(110,⟨H.p,H.r,u5 GB⟩),co H func110⟩
end F110
namespace F63
def H:Hd:=⟨[.agg [Si,Si,Si,Sw]],[Si],.d,kt [F108.k,F109.k,F110.k] false,[],f63⟩
def k:Kc P_ gl:=⟨(63,⟨H.p,H.r,u4 Cl⟩),co H func63⟩
end F63
namespace F8
def H:Hd:=⟨[.agg [Si,Si],Si,Ss],[Si],.d,kt [F19.k,F34.k] false,[],f8⟩
def k:Kc P_ gl:=⟨(8,⟨H.p,H.r,u4 Kg⟩),co H func8⟩
end F8
namespace F56
def H:Hd:=⟨[.agg [Si,Si],Si,Ss],[.agg [.agg [Si,Si],Si,Ss,Ob 5,Ow 21,.lf (.list (.list (.int .u8))) (some 24),Ob 5,Sz,Si],Si],.d,kt [F8.k] false,[],f56⟩
def k:Kc P_ gl:=⟨(56,⟨H.p,H.r,u4 Xx⟩),co H func56⟩
end F56
namespace F112
abbrev R_:=LB
def H:Hd:=⟨[Si,Sx],[Ob 5],(.seq .d (.seq .d (.seq .d (.cut [0,5] [] .d .d)))),kt [F70.k] false,[],f112⟩
def k:Kc P_ gl:=⟨(112,⟨H.p,H.r,u2 Xw⟩),co H func112⟩
end F112
namespace F64
abbrev R_:=(LB×Int)
def H:Hd:=⟨[Si,Sw],[Ob 5,Si],(.seq .d (.seq .d (.seq .d (.cut [6] [] (.seq .d (.blk (.loop [0,1,6,7] [⟨6,[],.own 5 (.int .u8)⟩] .d))) .d)))),kt [F111.k,F112.k] false,[],f64⟩
def t4(b:Int)(a:LX)(g:Int)(f:LB):S:=⟨[(0,vi b),(1,vw a),(6,.own 0),(7,vi g)],[Ab 5 f],[]⟩
def z4:Nat->S->Option R_:=H.i P_ [r,r,r,l,r,d]
theorem i4(b:Int)(a:LX):∀(q:Nat) (g:Int) (f:LB),z4 q (t4 b a g f)=Hi b a q g f:=
 ind (λ_ _=>by kernel_rfl) λq ih g f=>Eq.trans (b:=Od GW (λg f=>(z4 q) (t4 b a g f)) b a g f) F4 (by simp only[ih]<;>rfl)
def k:Kc P_ gl:=⟨(64,⟨H.p,H.r,u2 Jx⟩),co H func64 (λx=>Eq.trans (b:=u2 (Vr (λb a g f=>z4 Ch (t4 b a g f))) x) F4 (by simp only[i4,Ao]<;>rfl))⟩
end F64
namespace F147
def H:Hd:=⟨[.agg [.agg [Si,Si],Si,Ss,Sb,Sw,.lf (.list (.list (.int .u8))) none,Sb,Sz,Si]],[Si],.d,kt [F19.k] false,[],f147⟩
def k:Kc P_ gl:=⟨(147,⟨H.p,H.r,P1 He⟩),co H func147⟩
end F147
namespace F20
def H:Hd:=⟨[.agg [Si,Si]],[Si],.d,kt [] false,[],f20⟩
def k:Kc P_ gl:=⟨(20,⟨H.p,H.r,u2 Gx⟩),co H func20⟩
end F20
namespace F103
def H:Hd:=⟨[.agg [.agg [Si,Si],Si,Ss,Sb,Sw,.lf (.list (.list (.int .u8))) none,Sb,Sz,Si]],[Si],.d,kt [F147.k] false,[],f103⟩
def k:Kc P_ gl:=⟨(103,⟨H.p,H.r,P1 Dc⟩),co H func103⟩
end F103
namespace F146
def H:Hd:=⟨[.agg [.agg [Si,Si],Si,Ss,Sb,Sw,.lf (.list (.list (.int .u8))) none,Sb,Sz,Si],Si,Si],[Sz],.d,kt [] false,[],f146⟩
def k:Kc P_ gl:=⟨(146,⟨H.p,H.r,u12 Ln⟩),co H func146⟩
end F146
namespace F145
abbrev R_:=Bool
def H:Hd:=⟨[.agg [.agg [Si,Si],Si,Ss,Sb,Sw,.lf (.list (.list (.int .u8))) none,Sb,Sz,Si]],[Sz],(.seq .d (.seq .d (.cut [1,3] [] .d (.seq .d (.cut [1,3,4] [] .d (.cut [1,3] [] .d (.cut [] [] (.seq .d (.blk (.loop [1,3,5] [] .d))) .d))))))),kt [F20.k,F103.k,F111.k,F146.k,F147.k] false,[],f145⟩
def t10(h f g n:Int)(o k:LB)(b:LX)(a:List LB)(m:LB)(p:Bool)(u v:Int):S:=⟨[(1,.ptr 0 []),(3,vi h),(5,vi v)],[.box 33 (.agg [.agg [vi f,vi g],vi n,vs o,vb k,vw b,.val (.list (.list (.int .u8))) a,vb m,vt p,vi u])],[]⟩
def z10:Nat->S->Option R_:=H.i P_ [r,r,r,r,r,r,l,r,d]
def x7(h f g n:Int)(o k:LB)(b:LX)(a:List LB)(m:LB)(p:Bool)(u:Int):Option R_:=H.e P_ [r,r,r] ⟨[(1,.ptr 0 []),(3,vi h)],[.box 33 (.agg [.agg [vi f,vi g],vi n,vs o,vb k,vw b,.val (.list (.list (.int .u8))) a,vb m,vt p,vi u])],[]⟩
theorem i10(h f g n:Int)(o k:LB)(b:LX)(a:List LB)(m:LB)(p:Bool)(u:Int):∀(q:Nat) (v:Int),z10 q (t10 h f g n o k b a m p u v)=Eo h f g n o k b a m p u q v:=
 ind (λ_=>by kernel_rfl) λq ih v=>Eq.trans (b:=Ks AI (λv=>(z10 q) (t10 h f g n o k b a m p u v)) h f g n o k b a m p u v) F4 (by simp only[ih]<;>rfl)
theorem e7:x7=Rn:=Eq.trans (b:=Rl (Rq (Sa (λh f g n o k b a m p u v=>z10 Ch (t10 h f g n o k b a m p u v))))) F4 (by simp only[i10,Ao]<;>rfl)
def k:Kc P_ gl:=⟨(145,⟨H.p,H.r,P1 Pe⟩),co H func145 (λx=>Eq.trans (b:=P1 (Sj x7) x) F4 (by simp only[e7]<;>rfl))⟩
end F145
namespace F99
def H:Hd:=⟨[.agg [.agg [Si,Si],Si,Ss,Sb,Sw,.lf (.list (.list (.int .u8))) none,Sb,Sz,Si]],[Si],.d,kt [F8.k,F145.k] false,[],f99⟩
def k:Kc P_ gl:=⟨(99,⟨H.p,H.r,P1 Jw⟩),co H func99⟩
end F99
namespace F100
abbrev R_:=(Int×Int×Int×LB×LB×LX×(List LB)×LB×Bool×Int)
def H:Hd:=⟨[.agg [.agg [Si,Si],Si,Ss,Sb,Sw,.lf (.list (.list (.int .u8))) none,Sb,Sz,Si]],[.agg [.agg [Si,Si],Si,Ss,Ob 5,Ow 21,.lf (.list (.list (.int .u8))) (some 24),Ob 5,Sz,Si]],(.seq .d (.seq .d (.seq .d (.seq .d (.seq .d (.cut [1,2,3] [] (.seq .d (.blk (.loop [1,2,3,4] [⟨3,[],.own 24 (.list (.int .u8))⟩] .d))) .d)))))),kt [] false,[],f100⟩
def t4(b f g:Int)(h:LB)(a:List LB)(k:Bool)(m:Int)(n:LB)(o:LX)(p:LB)(v:Int)(u:List LB):S:=⟨[(1,.ptr 0 []),(2,.ptr 1 []),(3,.own 2),(4,vi v)],[.box 33 (.agg [.agg [vi b,vi f],vi g,vs h,.own 3,.own 4,.val (.list (.list (.int .u8))) a,.own 5,vt k,vi m]),.box 33 (.agg [.agg [vi 0,vi 0],vi 0,vs ([]:LB),.nils,.nils,.nils,.nils,vt false,vi 0]),.arr 24 (.list (.int .u8)) u,Ab 5 n,Aw 21 o,Ab 5 p],[]⟩
def z4:Nat->S->Option R_:=H.i P_ [r,r,r,r,r,l,r,d]
theorem i4(b f g:Int)(h:LB)(a:List LB)(k:Bool)(m:Int)(n:LB)(o:LX)(p:LB):∀(q:Nat) (v:Int) (u:List LB),z4 q (t4 b f g h a k m n o p v u)=Ig b f g h a k m n o p q v u:=
 ind (λ_ _=>by kernel_rfl) λq ih v u=>Eq.trans (b:=Pu KN (λv u=>(z4 q) (t4 b f g h a k m n o p v u)) b f g h a k m n o p v u) F4 (by simp only[ih]<;>rfl)
def k:Kc P_ gl:=⟨(100,⟨H.p,H.r,P1 Pf⟩),co H func100 (λx=>Eq.trans (b:=P1 (Xd (λb f g h a k m n o p v u=>z4 Ch (t4 b f g h a k m n o p v u))) x) F4 (by simp only[i4,Ao]<;>rfl))⟩
end F100
namespace F101
def H:Hd:=⟨[.agg [.agg [Si,Si],Si,Ss,Sb,Sw,.lf (.list (.list (.int .u8))) none,Sb,Sz,Si]],[Si],.d,kt [] false,[],f101⟩
def k:Kc P_ gl:=⟨(101,⟨H.p,H.r,P1 Lb⟩),co H func101⟩
end F101
namespace F104
def H:Hd:=⟨[.agg [.agg [Si,Si],Si,Ss,Sb,Sw,.lf (.list (.list (.int .u8))) none,Sb,Sz,Si],Si],[.agg [.agg [Si,Si],Si,Ss,Ob 5,Ow 21,.lf (.list (.list (.int .u8))) (some 24),Ob 5,Sz,Si]],.d,kt [] false,[],f104⟩
def k:Kc P_ gl:=⟨(104,⟨H.p,H.r,u11 Gp⟩),co H func104⟩
end F104
namespace F119
abbrev R_:=(LX×Int)
abbrev K_:=S->Option R_
def H:Hd:=⟨[Si,Sb],[Ow 21,Si],(.seq .d (.seq .d (.seq .d (.seq .d (.seq .d (.seq .d (.seq .d (.cut [8] [] (.seq .d (.blk (.loop [0,1,6,7,8,9] [⟨8,[],.own 21 (.int .i32)⟩] (.seq .d (.cut [0,1,6,7,8,9] [] (.blk (.seq .d (.cut [0,1,6,7,8,9,10] [] (.seq .d (.blk (.loop [0,1,6,7,8,9,10,11] [] .d))) .d))) .d))))) .d)))))))),kt [F70.k] false,[],f119⟩
def t25(a:Int)(b:LB)(f g:Int)(h:LX)(k m:Int):S:=⟨[(0,vi a),(1,vb b),(6,vi f),(7,vi (Ay a (8:Int))),(8,.own 0),(9,vi g),(10,vi k),(11,vi m)],[Aw 21 h],[]⟩
def z25(Hp:K_):Nat->S->Option R_:=H.i P_ [r,r,r,r,r,r,r,l,r,d,(lp Hp),r,l,d,r,l,r,d]
def t16(a:Int)(b:LB)(f g:Int)(h:LX):S:=⟨[(0,vi a),(1,vb b),(6,vi f),(7,vi (Ay a (8:Int))),(8,.own 0),(9,vi g)],[Aw 21 h],[]⟩
def z16:Nat->S->Option R_:=H.i P_ [r,r,r,r,r,r,r,l,r,d]
def x25(Hp:K_)(a:Int)(b:LB)(f g:Int)(h:LX)(k m:Int):Option R_:=H.e P_ [r,r,r,r,r,r,r,l,r,d,(lp Hp),r,l,d,r,l,r,d] (t25 a b f g h k m)
theorem i25(Hp:K_)(a:Int)(b:LB)(f g:Int)(h:LX):∀(q:Nat) (k m:Int),z25 Hp q (t25 a b f g h k m)=Cw (λg h=>Hp (t16 a b f g h)) a b f g h q k m:=
 ind (λ_ _=>by kernel_rfl) λq ih k m=>Eq.trans (b:=Kr (Hn (λg h=>Hp (t16 a b f g h)) a b f) (λk m=>(z25 Hp q) (t25 a b f g h k m)) a b f g h k m) F4 (by simp only[ih]<;>rfl)
theorem e25(Hp:K_)(a:Int)(b:LB)(f:Int):x25 Hp a b f=Qf (λg h=>Hp (t16 a b f g h)) a b f:=by funext g h k m;exact Eq.trans F4 ((i25 Hp a b f g h Ch k m).trans (by rw[Ao];rfl))
theorem i16(a:Int)(b:LB)(f:Int):∀(q:Nat) (g:Int) (h:LX),z16 q (t16 a b f g h)=Cn a b f q g h:=
 ind (λ_ _=>by kernel_rfl) λq ih g h=>Eq.trans (b:=Kp (x25 (z16 q) a b f) Zy a b f g h) F4 (by simp only[e25,ih]<;>rfl)
def k:Kc P_ gl:=⟨(119,⟨H.p,H.r,u2 Lf⟩),co H func119 (λx=>Eq.trans (b:=u2 (Rj (λa b f g h=>z16 Ch (t16 a b f g h))) x) F4 (by simp only[i16,Ao]<;>rfl))⟩
end F119
namespace F292
abbrev R_:=UInt64
def H:Hd:=⟨[Sq,Si],[Sq],(.seq .d (.seq .d (.cut [0,5] [] .d .d))),kt [] false,[],f292⟩
def k:Kc P_ gl:=⟨(292,⟨H.p,H.r,u2 Wn⟩),co H func292⟩
end F292
namespace F264
abbrev R_:=UInt64
def H:Hd:=⟨[Sq,Sc],[Sq],(.seq .d (.cut [0] [] (.seq .d (.blk (.loop [0,1,5] [] .d))) .d)),kt [F292.k] false,[],f264⟩
def t4(b:UInt8)(a:UInt64)(f:Int):S:=⟨[(0,vq a),(1,vc b),(5,vi f)],[],[]⟩
def z4:Nat->S->Option R_:=H.i P_ [r,l,r,d]
theorem i4(b:UInt8):∀(q:Nat) (a:UInt64) (f:Int),z4 q (t4 b a f)=Ik b q a f:=
 ind (λ_ _=>by kernel_rfl) λq ih a f=>Eq.trans (b:=Qb Wr (λa f=>(z4 q) (t4 b a f)) b a f) F4 (by simp only[ih]<;>rfl)
def k:Kc P_ gl:=⟨(264,⟨H.p,H.r,u2 DF⟩),co H func264 (λx=>Eq.trans (b:=u2 (JV (λb a f=>z4 Ch (t4 b a f))) x) F4 (by simp only[i4,Ao]<;>rfl))⟩
end F264
namespace F239
abbrev R_:=UInt64
def H:Hd:=⟨[Sq,Sb],[Sq],(.seq .d (.cut [0] [] (.seq .d (.blk (.loop [0,1,5] [] .d))) .d)),kt [F264.k] false,[],f239⟩
def t4(a:LB)(b:UInt64)(f:Int):S:=⟨[(0,vq b),(1,vb a),(5,vi f)],[],[]⟩
def z4:Nat->S->Option R_:=H.i P_ [r,l,r,d]
theorem i4(a:LB):∀(q:Nat) (b:UInt64) (f:Int),z4 q (t4 a b f)=Gi a q b f:=
 ind (λ_ _=>by kernel_rfl) λq ih b f=>Eq.trans (b:=Mw Tv (λb f=>(z4 q) (t4 a b f)) a b f) F4 (by simp only[ih]<;>rfl)
def k:Kc P_ gl:=⟨(239,⟨H.p,H.r,u2 Qo⟩),co H func239 (λx=>Eq.trans (b:=u2 (DG (λa b f=>z4 Ch (t4 a b f))) x) F4 (by simp only[i4,Ao]<;>rfl))⟩
end F239
namespace F254
def H:Hd:=⟨[Sq,Sb],[Sq,Si],.d,kt [F239.k] false,[],f254⟩
def k:Kc P_ gl:=⟨(254,⟨H.p,H.r,u2 EK⟩),co H func254⟩
end F254
namespace F234
def H:Hd:=⟨[Sb],[Sq,Si],.d,kt [F254.k] false,[],f234⟩
def k:Kc P_ gl:=⟨(234,⟨H.p,H.r,IK⟩),co H func234⟩
end F234
namespace F235
abbrev R_:=LX
abbrev K_:=S->Option R_
def H:Hd:=⟨[Sq],[.lf (.vec 16 (.int .i32)) none],(.seq .d (.seq .d (.cut [2,3] [] (.seq .d (.blk (.loop [0,2,3,4] [] (.seq .d (.seq (.blk (.seq .d (.cut [0,2,3,4,5] [] .d .d))) .d))))) .d))),kt [] false,[],f235⟩
def t6(b:UInt64)(f:Int)(a:LX):S:=⟨[(0,vq b),(2,.ptr 0 []),(3,.ptr 1 []),(4,vi f)],[.box 132 (.val (.vec 16 (.int .i32)) (List.replicate 16 (0:Int32))),.box 132 (.val (.vec 16 (.int .i32)) a)],[]⟩
def z6:Nat->S->Option R_:=H.i P_ [r,r,l,r,d]
theorem i6:∀(q:Nat) (b:UInt64) (f:Int) (a:LX),z6 q (t6 b f a)=Ie q b f a:=
 ind (λ_ _ _=>by kernel_rfl) λq ih b f a=>Eq.trans (b:=Ti (Ty (λb f a=>(z6 q) (t6 b f a))) MS b f a) F4 (by simp only[ih]<;>rfl)
def k:Kc P_ gl:=⟨(235,⟨H.p,H.r,MA⟩),co H func235 (λx=>Eq.trans (b:=QW (λb f a=>z6 Ch (t6 b f a)) x) F4 (by simp only[i6,Ao]<;>rfl))⟩
end F235
namespace F198
def H:Hd:=⟨[Ss],[.lf (.vec 16 (.int .i32)) none,Si],.d,kt [F234.k,F235.k] false,[],f198⟩
def k:Kc P_ gl:=⟨(198,⟨H.p,H.r,Iw⟩),co H func198⟩
end F198
namespace F285
def H:Hd:=⟨[Si,Sw],[Si],.d,kt [] false,[],f285⟩
def k:Kc P_ gl:=⟨(285,⟨H.p,H.r,u2 Hv⟩),co H func285⟩
end F285
namespace F288
def H:Hd:=⟨[Si],[Sx],.d,kt [] false,[],f288⟩
def k:Kc P_ gl:=⟨(288,⟨H.p,H.r,Bn⟩),co H func288⟩
end F288
namespace F286
abbrev R_:=LX
def H:Hd:=⟨[Sw],[Ow 21],(.seq .d (.seq .d (.seq .d (.cut [3] [] (.seq .d (.blk (.loop [0,3,4,5] [⟨3,[],.own 21 (.int .i32)⟩] .d))) .d)))),kt [F288.k] false,[],f286⟩
def t4(a:LX)(b:Int)(f:LX):S:=⟨[(0,vw a),(3,.own 0),(4,vi (Ac a)),(5,vi b)],[Aw 21 f],[]⟩
def z4:Nat->S->Option R_:=H.i P_ [r,r,r,l,r,d]
theorem i4(a:LX):∀(q:Nat) (b:Int) (f:LX),z4 q (t4 a b f)=Hj a q b f:=
 ind (λ_ _=>by kernel_rfl) λq ih b f=>Eq.trans (b:=Om HN (λb f=>(z4 q) (t4 a b f)) a b f) F4 (by simp only[ih]<;>rfl)
def k:Kc P_ gl:=⟨(286,⟨H.p,H.r,AY⟩),co H func286 (λx=>Eq.trans (b:=GU (λa b f=>z4 Ch (t4 a b f)) x) F4 (by simp only[i4,Ao]<;>rfl))⟩
end F286
namespace F258
abbrev R_:=(LX×Int)
def H:Hd:=⟨[Si,Sw],[Ow 21,Si],(.seq .d (.seq .d (.seq .d (.cut [6] [] (.seq .d (.blk (.loop [0,1,6,7] [⟨6,[],.own 21 (.int .i32)⟩] .d))) .d)))),kt [F285.k,F286.k] false,[],f258⟩
def t4(a:Int)(b:LX)(g:Int)(f:LX):S:=⟨[(0,vi a),(1,vw b),(6,.own 0),(7,vi g)],[Aw 21 f],[]⟩
def z4:Nat->S->Option R_:=H.i P_ [r,r,r,l,r,d]
theorem i4(a:Int)(b:LX):∀(q:Nat) (g:Int) (f:LX),z4 q (t4 a b g f)=Mg a b q g f:=
 ind (λ_ _=>by kernel_rfl) λq ih g f=>Eq.trans (b:=Zn NB (λg f=>(z4 q) (t4 a b g f)) a b g f) F4 (by simp only[ih]<;>rfl)
def k:Kc P_ gl:=⟨(258,⟨H.p,H.r,u2 Yg⟩),co H func258 (λx=>Eq.trans (b:=u2 (Ys (λa b g f=>z4 Ch (t4 a b g f))) x) F4 (by simp only[i4,Ao]<;>rfl))⟩
end F258
namespace F303
def H:Hd:=⟨[Si],[Si,Si],.d,kt [] false,[],f303⟩
def k:Kc P_ gl:=⟨(303,⟨H.p,H.r,QX⟩),co H func303⟩
end F303
namespace F287
def H:Hd:=⟨[Si,.lf (.vec 16 (.int .i32)) none],[.agg [Si,.lf (.vec 16 (.int .i32)) none,.lf (.vec 16 (.int .i32)) none],Si],.d,kt [F303.k] false,[],f287⟩
def k:Kc P_ gl:=⟨(287,⟨H.p,H.r,u2 UL⟩),co H func287⟩
end F287
namespace F259
def H:Hd:=⟨[Si,.lf (.vec 16 (.int .i32)) none],[.agg [Si,Sx,.agg [Si,.lf (.vec 16 (.int .i32)) none,.lf (.vec 16 (.int .i32)) none]],Si],.d,kt [F287.k] false,[],f259⟩
def k:Kc P_ gl:=⟨(259,⟨H.p,H.r,u2 Xv⟩),co H func259⟩
end F259
namespace F260
abbrev R_:=LX
def H:Hd:=⟨[Sw,Si,Si],[Ow 21],(.seq .d (.seq .d (.cut [7] [] (.seq .d (.blk (.loop [0,2,7,8] [⟨7,[],.own 21 (.int .i32)⟩] .d))) .d))),kt [] false,[],f260⟩
def t4(a:LX)(f g:Int)(b:LX):S:=⟨[(0,vw a),(2,vi f),(7,.own 0),(8,vi g)],[Aw 21 b],[]⟩
def z4:Nat->S->Option R_:=H.i P_ [r,r,l,r,d]
theorem i4(a:LX)(f:Int):∀(q:Nat) (g:Int) (b:LX),z4 q (t4 a f g b)=Fj a f q g b:=
 ind (λ_ _=>by kernel_rfl) λq ih g b=>Eq.trans (b:=Lj BZ (λg b=>(z4 q) (t4 a f g b)) a f g b) F4 (by simp only[ih]<;>rfl)
def k:Kc P_ gl:=⟨(260,⟨H.p,H.r,u3 Pq⟩),co H func260 (λx=>Eq.trans (b:=u3 (Sg (λa f g b=>z4 Ch (t4 a f g b))) x) F4 (by simp only[i4,Ao]<;>rfl))⟩
end F260
namespace F304
abbrev R_:=Int32
def H:Hd:=⟨[Si,Sx],[Sx],(.seq .d (.seq .d (.cut [1,5] [] .d .d))),kt [] false,[],f304⟩
def k:Kc P_ gl:=⟨(304,⟨H.p,H.r,u2 Mi⟩),co H func304⟩
end F304
namespace F289
def H:Hd:=⟨[.agg [Si,Sx,.agg [Si,.lf (.vec 16 (.int .i32)) none,.lf (.vec 16 (.int .i32)) none]]],[Si],.d,kt [F304.k] false,[],f289⟩
def k:Kc P_ gl:=⟨(289,⟨H.p,H.r,u5 Mj⟩),co H func289⟩
end F289
namespace F314
abbrev R_:=Int32
def H:Hd:=⟨[.agg [Si,.lf (.vec 16 (.int .i32)) none,.lf (.vec 16 (.int .i32)) none]],[Sx],(.seq .d (.seq .d (.cut [3] [] (.seq .d (.blk (.loop [1,3,4] [] .d))) .d))),kt [F288.k] false,[],f314⟩
def t4(h:Int)(b f:LX)(g a:Int):S:=⟨[(1,.ptr 0 []),(3,vi g),(4,vi a)],[.box 257 (.agg [vi h,.val (.vec 16 (.int .i32)) b,.val (.vec 16 (.int .i32)) f])],[]⟩
def z4:Nat->S->Option R_:=H.i P_ [r,r,l,r,d]
theorem i4(h:Int)(b f:LX):∀(q:Nat) (g a:Int),z4 q (t4 h b f g a)=Jf h b f q g a:=
 ind (λ_ _=>by kernel_rfl) λq ih g a=>Eq.trans (b:=Qh Yu (λg a=>(z4 q) (t4 h b f g a)) h b f g a) F4 (by simp only[ih]<;>rfl)
def k:Kc P_ gl:=⟨(314,⟨H.p,H.r,u3 HU⟩),co H func314 (λx=>Eq.trans (b:=u3 (MZ (λh b f g a=>z4 Ch (t4 h b f g a))) x) F4 (by simp only[i4,Ao]<;>rfl))⟩
end F314
namespace F305
abbrev R_:=Int32
def H:Hd:=⟨[.agg [Si,.lf (.vec 16 (.int .i32)) none,.lf (.vec 16 (.int .i32)) none]],[Sx],(.seq .d (.seq .d (.cut [1,3] [] .d .d))),kt [F288.k,F314.k] false,[],f305⟩
def k:Kc P_ gl:=⟨(305,⟨H.p,H.r,u3 Pp⟩),co H func305⟩
end F305
namespace F315
def H:Hd:=⟨[Si],[Sx],.d,kt [] false,[],f315⟩
def k:Kc P_ gl:=⟨(315,⟨H.p,H.r,Wo⟩),co H func315⟩
end F315
namespace F316
def H:Hd:=⟨[Sx],[Sx],.d,kt [] false,[],f316⟩
def k:Kc P_ gl:=⟨(316,⟨H.p,H.r,Pg⟩),co H func316⟩
end F316
namespace F307
abbrev R_:=(Int×LX×LX)
def H:Hd:=⟨[.agg [Si,.lf (.vec 16 (.int .i32)) none,.lf (.vec 16 (.int .i32)) none],Sx],[.agg [Si,.lf (.vec 16 (.int .i32)) none,.lf (.vec 16 (.int .i32)) none]],(.seq .d (.cut [2,4] [] (.seq .d (.blk (.loop [1,2,4,5] [] .d))) .d)),kt [F315.k,F316.k] false,[],f307⟩
def t4(h:Int32)(g:Int)(b:LX)(a:Int)(f:LX):S:=⟨[(1,vx h),(2,.ptr 0 []),(4,.ptr 1 []),(5,vi a)],[.box 257 (.agg [vi g,.val (.vec 16 (.int .i32)) f,.val (.vec 16 (.int .i32)) b]),.box 257 (.agg [vi 0,.val (.vec 16 (.int .i32)) (List.replicate 16 (0:Int32)),.val (.vec 16 (.int .i32)) (List.replicate 16 (0:Int32))])],[]⟩
def z4:Nat->S->Option R_:=H.i P_ [r,l,r,d]
theorem i4(h:Int32)(g:Int)(b:LX):∀(q:Nat) (a:Int) (f:LX),z4 q (t4 h g b a f)=Fl h g b q a f:=
 ind (λ_ _=>by kernel_rfl) λq ih a f=>Eq.trans (b:=Lk CX (λa f=>(z4 q) (t4 h g b a f)) h g b a f) F4 (by simp only[ih]<;>rfl)
def k:Kc P_ gl:=⟨(307,⟨H.p,H.r,u4 Pk⟩),co H func307 (λx=>Eq.trans (b:=u4 (CK (λh g b a f=>z4 Ch (t4 h g b a f))) x) F4 (by simp only[i4,Ao]<;>rfl))⟩
end F307
namespace F306
abbrev R_:=(Int×LX×LX)
def H:Hd:=⟨[.agg [Si,.lf (.vec 16 (.int .i32)) none,.lf (.vec 16 (.int .i32)) none],Sx],[.agg [Si,.lf (.vec 16 (.int .i32)) none,.lf (.vec 16 (.int .i32)) none]],(.seq .d (.cut [1,2,4] [] (.seq .d (.blk (.loop [1,2,4,5] [] .d))) .d)),kt [] false,[],f306⟩
def t4(b:Int32)(f:Int)(g:LX)(h:Int)(a:LX):S:=⟨[(1,vx b),(2,.ptr 0 []),(4,.ptr 1 []),(5,vi h)],[.box 257 (.agg [vi f,.val (.vec 16 (.int .i32)) g,.val (.vec 16 (.int .i32)) a]),.box 257 (.agg [vi 0,.val (.vec 16 (.int .i32)) (List.replicate 16 (0:Int32)),.val (.vec 16 (.int .i32)) (List.replicate 16 (0:Int32))])],[]⟩
def z4:Nat->S->Option R_:=H.i P_ [r,l,r,d]
theorem i4(b:Int32)(f:Int)(g:LX):∀(q:Nat) (h:Int) (a:LX),z4 q (t4 b f g h a)=Gk b f g q h a:=
 ind (λ_ _=>by kernel_rfl) λq ih h a=>Eq.trans (b:=Na Tf (λh a=>(z4 q) (t4 b f g h a)) b f g h a) F4 (by simp only[ih]<;>rfl)
def k:Kc P_ gl:=⟨(306,⟨H.p,H.r,u4 Qk⟩),co H func306 (λx=>Eq.trans (b:=u4 (EA (λb f g h a=>z4 Ch (t4 b f g h a))) x) F4 (by simp only[i4,Ao]<;>rfl))⟩
end F306
namespace F290
def H:Hd:=⟨[.agg [Si,.lf (.vec 16 (.int .i32)) none,.lf (.vec 16 (.int .i32)) none],Sx],[Sx,.agg [Si,.lf (.vec 16 (.int .i32)) none,.lf (.vec 16 (.int .i32)) none]],.d,kt [F288.k,F305.k,F306.k,F307.k] false,[],f290⟩
def k:Kc P_ gl:=⟨(290,⟨H.p,H.r,u4 Wl⟩),co H func290⟩
end F290
namespace F261
def H:Hd:=⟨[.agg [Si,Sx,.agg [Si,.lf (.vec 16 (.int .i32)) none,.lf (.vec 16 (.int .i32)) none]],Sx],[Sx,.agg [Si,Sx,.agg [Si,.lf (.vec 16 (.int .i32)) none,.lf (.vec 16 (.int .i32)) none]]],.d,kt [F288.k,F289.k,F290.k] false,[],f261⟩
def k:Kc P_ gl:=⟨(261,⟨H.p,H.r,u6 Pw⟩),co H func261⟩
end F261
namespace F262
def H:Hd:=⟨[Sx],[Su],.d,kt [] false,[],f262⟩
def k:Kc P_ gl:=⟨(262,⟨H.p,H.r,Wq⟩),co H func262⟩
end F262
namespace F237
def Sn(j22:Int->Int32->LU->Int->Int32->Int->LX->LX->Int->Int32->Int->LX->LX->Option (LU))(j24:Int->LU->Option (LU))(a b:Int)(f g:LX)(h:Int)(k:LX)(m:Int)(n:LU)(p:Int)(u:Int32)(v:Int)(w y:LX):Option (LU):=
if(Cm m (Ac k))then
(Aj k m).bind λ_=>
(Aj k m).bind λah=>
(λaq:Option (LU)=>
bo (
aq)) (
(Pw p u v w y ah).bind λ(aa,ab,ac,ad,ae,af)=>
j22 m aa n p u v w y ab ac ad ae af)
else
j24 h n
theorem PQ: @Sn= @Jc:=by
  unfold Sn Jc;simp only[gC,OG,QO]
abbrev R_:=LU
abbrev K_:=S->Option R_
def H:Hd:=⟨[.agg [Si,Si],.lf (.vec 16 (.int .i32)) none,Sw],[Ov 201],(.seq .d (.seq .d (.seq .d (.cut [9] [] (.seq .d (.blk (.loop [3,4,7,9,10] [] (.seq .d (.cut [3,4,7,9,10] [] (.blk (.seq .d (.seq .d (.seq .d (.blk (.loop [3,4,7,9,10,11,13,14] [] (.seq .d (.seq (.blk (.cut [3,4,7,9,10,11,13,14,15,16] [] .d .d)) .d)))))))) .d))))) .d)))),kt [F258.k,F259.k,F260.k,F261.k,F262.k] false,[],f237⟩
def t20(a b:Int)(f g:LX)(h:Int)(k:LX)(m:Int)(n:LU)(p:Int)(u:Int32)(v:Int)(w y:LX):S:=⟨[(3,.ptr 0 []),(4,.ptr 1 []),(7,.own 2),(9,.own 3),(10,vi h),(11,.ptr 4 []),(13,.own 5),(14,vi m)],[.box 23 (.agg [vi a,vi b]),.box 132 (.val (.vec 16 (.int .i32)) f),Aw 21 g,Av 201 n,.box 259 (.agg [vi p,vx u,.agg [vi v,.val (.vec 16 (.int .i32)) w,.val (.vec 16 (.int .i32)) y]]),Aw 21 k],[]⟩
def z20(tX:K_):Nat->S->Option R_:=H.i P_ [r,r,r,l,r,d,(lp tX),r,l,d,r,r,r,d]
def t14(a b:Int)(f g:LX)(h:Int)(o:LU):S:=⟨[(3,.ptr 0 []),(4,.ptr 1 []),(7,.own 2),(9,.own 3),(10,vi h)],[.box 23 (.agg [vi a,vi b]),.box 132 (.val (.vec 16 (.int .i32)) f),Aw 21 g,Av 201 o],[]⟩
def z14:Nat->S->Option R_:=H.i P_ [r,r,r,l,r,d]
def x20(tX:K_)(a b:Int)(f g:LX)(h:Int)(k:LX)(m:Int)(n:LU)(p:Int)(u:Int32)(v:Int)(w y:LX):Option R_:=H.e P_ [r,r,r,l,r,d,(lp tX),r,l,d,r,r,r,d] (t20 a b f g h k m n p u v w y)
theorem i20(tX:K_)(a b:Int)(f g:LX)(h:Int)(k:LX):∀(q:Nat) (m:Int) (n:LU) (p:Int) (u:Int32) (v:Int) (w y:LX),z20 tX q (t20 a b f g h k m n p u v w y)=Ge (λh o=>tX (t14 a b f g h o)) a b f g h k q m n p u v w y:=
 ind (λ_ _ _ _ _ _ _=>by kernel_rfl) λq ih m n p u v w y=>Eq.trans (b:=Sn (Tq (λm n p u v w y=>(z20 tX q) (t20 a b f g h k m n p u v w y)) h a b f g k) (Ts (λh o=>tX (t14 a b f g h o)) a b f g) a b f g h k m n p u v w y) F4 (by rw[PQ];simp only[ih]<;>rfl)
theorem e20(tX:K_)(a b:Int)(f g:LX):x20 tX a b f g=Tz (λh o=>tX (t14 a b f g h o)) a b f g:=by funext h k m n p u v w y;exact Eq.trans F4 ((i20 tX a b f g h k Ch m n p u v w y).trans (by rw[Ao];rfl))
theorem i14(a b:Int)(f g:LX):∀(q:Nat) (h:Int) (o:LU),z14 q (t14 a b f g h o)=Em a b f g q h o:=
 ind (λ_ _=>by kernel_rfl) λq ih h o=>Eq.trans (b:=Mt (x20 (z14 q) a b f g) EI a b f g h o) F4 (by simp only[e20,ih]<;>rfl)
def k:Kc P_ gl:=⟨(237,⟨H.p,H.r,u4 Ua⟩),co H func237 (λx=>Eq.trans (b:=u4 (Vt (λa b f g h o=>z14 Ch (t14 a b f g h o))) x) F4 (by simp only[i14,Ao]<;>rfl))⟩
end F237
namespace F278
def H:Hd:=⟨[],[.agg [Si,Si,Sq,Sq]],.d,kt [] false,[],f278⟩
def k:Kc P_ gl:=⟨(278,⟨H.p,H.r,λ_=>Nl⟩),co H func278⟩
end F278
namespace F300
abbrev R_:=UInt64
def H:Hd:=⟨[Si],[Sq],(.seq .d (.seq .d (.cut [3] [] (.seq .d (.blk (.loop [0,3,4] [] .d))) .d))),kt [] false,[],f300⟩
def t4(b:Int)(a:UInt64)(f:Int):S:=⟨[(0,vi b),(3,vq a),(4,vi f)],[],[]⟩
def z4:Nat->S->Option R_:=H.i P_ [r,r,l,r,d]
theorem i4(b:Int):∀(q:Nat) (a:UInt64) (f:Int),z4 q (t4 b a f)=Hf b q a f:=
 ind (λ_ _=>by kernel_rfl) λq ih a f=>Eq.trans (b:=Oe GM (λa f=>(z4 q) (t4 b a f)) b a f) F4 (by simp only[ih]<;>rfl)
def k:Kc P_ gl:=⟨(300,⟨H.p,H.r,Dp⟩),co H func300 (λx=>Eq.trans (b:=GD (λb a f=>z4 Ch (t4 b a f)) x) F4 (by simp only[i4,Ao]<;>rfl))⟩
end F300
namespace F280
def H:Hd:=⟨[.agg [Si,Si,Sq,Sq],Su],[Sz],.d,kt [F300.k] false,[],f280⟩
def k:Kc P_ gl:=⟨(280,⟨H.p,H.r,u5 Ke⟩),co H func280⟩
end F280
namespace F284
def H:Hd:=⟨[.agg [Si,Si,Sq,Sq],Su],[Su],.d,kt [F300.k] false,[],f284⟩
def k:Kc P_ gl:=⟨(284,⟨H.p,H.r,u5 Eb⟩),co H func284⟩
end F284
namespace F299
abbrev R_:=(Int×UInt64)
def H:Hd:=⟨[Si,Sq,Sq],[Si,Sq],(.seq .d (.seq .d (.cut [0,1] [] .d .d))),kt [F300.k] false,[],f299⟩
def k:Kc P_ gl:=⟨(299,⟨H.p,H.r,u3 Ix⟩),co H func299⟩
end F299
namespace F279
def Rf(j2:UInt32->Int->Int->UInt64->UInt64->Int->UInt64->Option (Int×Int×UInt64×UInt64))(g a:Int)(h b:UInt64)(f:UInt32):Option (Int×Int×UInt64×UInt64):=
(Ke g a h b f).bind λo=>
if(!o)then
(λu:Option (Int×Int×UInt64×UInt64)=>
(λp:Option (Int×Int×UInt64×UInt64)=>
(λv:Option (Int×Int×UInt64×UInt64)=>
both (
v) [
v,
both (
p) [
p,
(Eb g a h b f).bind λk=>
(λac:Option (Int×Int×UInt64×UInt64)=>
bo (
ac)) (
(Ix a b (Ad k:UInt64)).bind λ(m,n)=>
j2 f g a h b m n)]]) (
both (
u) [
p])) (
bo (
u))) (
(Eb g a h b f).bind λk=>
(Ix a b (Ad k:UInt64)).bind λ(m,n)=>
j2 f g a h b m n)
else
j2 f g a h b a b
theorem QT: @Rf= @Mq:=by
  unfold Rf Mq
  try simp only[gC,OG,QO]
  all_goals
    repeat (refine funext λ_=>?_)
    repeat' first
      |with_reducible rfl
      |with_reducible refine Mh ?_ ?_
      |with_reducible refine Lz ?_ ?_ ?_
      |with_reducible refine Mk ?_ ?_ ?_ ?_
      |((with_reducible refine Qz ?_ ?_);focus (intro h;first|(subst h;rfl)|(simp only[h];rfl)|(simp[Br,Ac,h];done)))
      |with_reducible refine Qj λx=>?_
      |with_reducible refine Yw (λ_=>?_) (λ_=>?_)
      |(refine Gn (λh=>by simp only[h,Qt,Dz,Dt,ite_self]) (λx h=>?_);(try simp only[h,Dz]))
      |(refine Jk (λh=>?_) (λh=>?_)<;>simp only[h,if_true,if_false,Bool.false_eq_true])
abbrev R_:=(Int×Int×UInt64×UInt64)
def H:Hd:=⟨[.agg [Si,Si,Sq,Sq],Su],[.agg [Si,Si,Sq,Sq]],(.seq .d (.seq .d (.cut [1,2,4,5] [] (.seq .d (.cond (.mode false) .d)) .d))),kt [F280.k,F284.k,F299.k] false,[],f279⟩
def k:Kc P_ gl:=⟨(279,⟨H.p,H.r,u5 Lu⟩),co H func279 (λx=>Eq.trans (b:=u5 (Rf Ms) x) F4 (by simp only[QT]<;>rfl))⟩
end F279
namespace F255
abbrev R_:=((List (Int×Int×UInt64×UInt64×Unit)))
def H:Hd:=⟨[Si,Sv],[.lf (.list (.cons (.int .i64) (.cons (.int .i64) (.cons (.int .u64) (.cons (.int .u64) .nil))))) (some 196)],(.seq .d (.seq .d (.cut [5] [] (.seq .d (.blk (.loop [0,1,5,6] [⟨5,[],.own 196 (.cons (.int .i64) (.cons (.int .i64) (.cons (.int .u64) (.cons (.int .u64) .nil))))⟩] .d))) .d))),kt [F278.k,F279.k] false,[],f255⟩
def t4(b:Int)(g:LU)(f:Int)(a:List (Int×Int×UInt64×UInt64×Unit)):S:=⟨[(0,vi b),(1,vv g),(5,.own 0),(6,vi f)],[.arr 196 (.cons (.int .i64) (.cons (.int .i64) (.cons (.int .u64) (.cons (.int .u64) .nil)))) a],[]⟩
def z4:Nat->S->Option R_:=H.i P_ [r,r,l,r,d]
theorem i4(b:Int)(g:LU):∀(q:Nat) (f:Int) (a:List (Int×Int×UInt64×UInt64×Unit)),z4 q (t4 b g f a)=Gg b g q f a:=
 ind (λ_ _=>by kernel_rfl) λq ih f a=>Eq.trans (b:=My FC (λf a=>(z4 q) (t4 b g f a)) b g f a) F4 (by simp only[ih]<;>rfl)
def k:Kc P_ gl:=⟨(255,⟨H.p,H.r,u2 Qs⟩),co H func255 (λx=>Eq.trans (b:=u2 (Uh (λb g f a=>z4 Ch (t4 b g f a))) x) F4 (by simp only[i4,Ao]<;>rfl))⟩
end F255
namespace F282
abbrev R_:=(LB×Int)
def H:Hd:=⟨[.agg [Ob 5,Si],Si],[.agg [Ob 5,Si]],(.seq .d (.cut [1,2,4] [] .d (.seq .d (.cut [1,2,4,5] [] (.seq .d (.blk (.loop [1,2,4,5,6] [] .d))) .d)))),kt [] false,[],f282⟩
def t6(b a:Int)(f:LB)(g h:Int):S:=⟨[(1,vi b),(2,.ptr 0 []),(4,.ptr 1 []),(5,vi g),(6,vi h)],[.box 200 (.agg [.own 2,vi a]),.box 200 (.agg [.nils,vi 0]),Ab 5 f],[]⟩
def z6:Nat->S->Option R_:=H.i P_ [r,r,r,l,r,d]
theorem i6(b a:Int)(f:LB):∀(q:Nat) (g h:Int),z6 q (t6 b a f g h)=Jm b a f q g h:=
 ind (λ_ _=>by kernel_rfl) λq ih g h=>Eq.trans (b:=Re Qm (λg h=>(z6 q) (t6 b a f g h)) b a f g h) F4 (by simp only[ih]<;>rfl)
def k:Kc P_ gl:=⟨(282,⟨H.p,H.r,u3 Ck⟩),co H func282 (λx=>Eq.trans (b:=u3 (Yz (Zj (λb a f g h=>z6 Ch (t6 b a f g h)))) x) F4 (by simp only[i6,Ao]<;>rfl))⟩
end F282
namespace F281
abbrev R_:=(LB×Int)
def H:Hd:=⟨[.agg [Ob 5,Si],Sq,Si],[.agg [Ob 5,Si]],(.seq .d (.cut [3,6] [] (.seq .d (.blk (.loop [1,2,3,6,7] [] .d))) .d)),kt [F282.k] false,[],f281⟩
def t4(f:Int)(g:UInt64)(h a:Int)(b:LB):S:=⟨[(1,vq g),(2,vi f),(3,.ptr 0 []),(6,.ptr 1 []),(7,vi h)],[.box 200 (.agg [.own 2,vi a]),.box 200 (.agg [.nils,vi 0]),Ab 5 b],[]⟩
def z4:Nat->S->Option R_:=H.i P_ [r,l,r,d]
theorem i4(f:Int):∀(q:Nat) (g:UInt64) (h a:Int) (b:LB),z4 q (t4 f g h a b)=Gh f q g h a b:=
 ind (λ_ _ _ _=>by kernel_rfl) λq ih g h a b=>Eq.trans (b:=Mx EO (λg h a b=>(z4 q) (t4 f g h a b)) f g h a b) F4 (by simp only[ih]<;>rfl)
def k:Kc P_ gl:=⟨(281,⟨H.p,H.r,u4 Jg⟩),co H func281 (λx=>Eq.trans (b:=u4 (FQ (λf g h a b=>z4 Ch (t4 f g h a b))) x) F4 (by simp only[i4,Ao]<;>rfl))⟩
end F281
namespace F301
def H:Hd:=⟨[Su,Si],[Si],.d,kt [F300.k] false,[],f301⟩
def k:Kc P_ gl:=⟨(301,⟨H.p,H.r,u2 Ph⟩),co H func301⟩
end F301
namespace F302
abbrev R_:=(LB×Int)
def H:Hd:=⟨[.agg [Ob 5,Si],Si],[.agg [Ob 5,Si]],(.seq .d (.cut [1,2,4] [] (.seq .d (.blk (.loop [1,2,4,5] [] .d))) .d)),kt [F282.k] false,[],f302⟩
def t4(a g b:Int)(f:LB):S:=⟨[(1,vi a),(2,.ptr 0 []),(4,.ptr 1 []),(5,vi g)],[.box 200 (.agg [.own 2,vi b]),.box 200 (.agg [.nils,vi 0]),Ab 5 f],[]⟩
def z4:Nat->S->Option R_:=H.i P_ [r,l,r,d]
theorem i4(a:Int):∀(q:Nat) (g b:Int) (f:LB),z4 q (t4 a g b f)=Je a q g b f:=
 ind (λ_ _ _=>by kernel_rfl) λq ih g b f=>Eq.trans (b:=Qq Zp (λg b f=>(z4 q) (t4 a g b f)) a g b f) F4 (by simp only[ih]<;>rfl)
def k:Kc P_ gl:=⟨(302,⟨H.p,H.r,u3 HW⟩),co H func302 (λx=>Eq.trans (b:=u3 (ND (λa g b f=>z4 Ch (t4 a g b f))) x) F4 (by simp only[i4,Ao]<;>rfl))⟩
end F302
namespace F283
def H:Hd:=⟨[.agg [Ob 5,Si],Su,Si],[.agg [Ob 5,Si]],.d,kt [F281.k,F300.k,F301.k,F302.k] false,[],f283⟩
def k:Kc P_ gl:=⟨(283,⟨H.p,H.r,u4 Kk⟩),co H func283⟩
end F283
namespace F256
def Xc(b:UInt32)(g f a:Int)(h k:UInt64)(m:LB):Option (LB×Int):=
(λw:Option (LB×Int)=>
(λac:Option (LB×Int)=>
(λad:Option (LB×Int)=>
both (
both (
(Ck m g 1).bind λ(n,o)=>
(λae:Option (LB×Int)=>
both (
bo (
ae)) [
ae]) (
(Eb f a h k b).bind λp=>
(Kk n o p a).bind λ(u,v)=>
some (u,v))) [
ac,
ad]) [
both (
ac) [
w],
both (
ad) [
w]]) (
bo (
w))) (
both (
(Ck m g 1).bind λ(n,o)=>
(λag:Option (LB×Int)=>
bo (
ag)) (
(Eb f a h k b).bind λp=>
(Kk n o p a).bind λ(u,v)=>
some (u,v))) [
w])) (
(Ck m g 1).bind λ(n,o)=>
(Eb f a h k b).bind λp=>
(Kk n o p a).bind λ(u,v)=>
some (u,v))
theorem WS: @Xc= @Rb:=by
  unfold Xc Rb
  try simp only[gC,OG,QO]
  all_goals
    repeat (refine funext λ_=>?_)
    repeat' first
      |with_reducible rfl
      |with_reducible refine Mh ?_ ?_
      |with_reducible refine Lz ?_ ?_ ?_
      |with_reducible refine Mk ?_ ?_ ?_ ?_
      |((with_reducible refine Qz ?_ ?_);focus (intro h;first|(subst h;rfl)|(simp only[h];rfl)|(simp[Br,Ac,h];done)))
      |with_reducible refine Qj λx=>?_
      |with_reducible refine Yw (λ_=>?_) (λ_=>?_)
      |(refine Gn (λh=>by simp only[h,Qt,Dz,Dt,ite_self]) (λx h=>?_);(try simp only[h,Dz]))
      |(refine Jk (λh=>?_) (λh=>?_)<;>simp only[h,if_true,if_false,Bool.false_eq_true])
def Xi(j2:UInt32->Int->Int->Int->UInt64->UInt64->LB->Option (LB×Int))(m:LB)(g f a:Int)(h k:UInt64)(b:UInt32):Option (LB×Int):=
(Ke f a h k b).bind λy=>
if y then
(λaf:Option (LB×Int)=>
both (
bo (
af)) [
af]) (
(Ck m g 0).bind λ(n,o)=>
(Jg n o (Ad b:UInt64) f).bind λ(aa,ab)=>
some (aa,ab))
else
j2 b g f a h k m
theorem WV: @Xi= @Qw:=by
  unfold Xi Qw
  try simp only[gC,OG,QO]
  all_goals
    repeat (refine funext λ_=>?_)
    repeat' first
      |with_reducible rfl
      |with_reducible refine Mh ?_ ?_
      |with_reducible refine Lz ?_ ?_ ?_
      |with_reducible refine Mk ?_ ?_ ?_ ?_
      |((with_reducible refine Qz ?_ ?_);focus (intro h;first|(subst h;rfl)|(simp only[h];rfl)|(simp[Br,Ac,h];done)))
      |with_reducible refine Qj λx=>?_
      |with_reducible refine Yw (λ_=>?_) (λ_=>?_)
      |(refine Gn (λh=>by simp only[h,Qt,Dz,Dt,ite_self]) (λx h=>?_);(try simp only[h,Dz]))
      |(refine Jk (λh=>?_) (λh=>?_)<;>simp only[h,if_true,if_false,Bool.false_eq_true])
abbrev R_:=(LB×Int)
def H:Hd:=⟨[.agg [Ob 5,Si],.agg [Si,Si,Sq,Sq],Su],[.agg [Ob 5,Si]],(.seq .d (.cut [2,3,4,6] [] (.seq .d (.cond (.seq (.mode false) .d) .d)) (.seq (.mode false) .d))),kt [F280.k,F281.k,F282.k,F283.k,F284.k] false,[],f256⟩
def x2(b:UInt32)(g f a:Int)(h k:UInt64)(m:LB):Option R_:=H.e P_ [r,r] ⟨[(2,vu b),(3,.ptr 0 []),(4,.ptr 1 []),(6,.ptr 2 [])],[.box 200 (.agg [.own 3,vi g]),.box 196 (.agg [vi f,vi a,vq h,vq k]),.box 200 (.agg [.nils,vi 0]),Ab 5 m],[]⟩
theorem e2:x2=Yy:=Eq.trans (b:=Xc) F4 (by rw[WS];rfl)
def k:Kc P_ gl:=⟨(256,⟨H.p,H.r,u7 Gc⟩),co H func256 (λx=>Eq.trans (b:=u7 (Xi x2) x) F4 (by rw[WV];simp only[e2]<;>rfl))⟩
end F256
namespace F291
abbrev R_:=UInt32
def H:Hd:=⟨[Su,Si],[Su],(.seq .d (.seq .d (.cut [0,5] [] .d .d))),kt [] false,[],f291⟩
def k:Kc P_ gl:=⟨(291,⟨H.p,H.r,u2 Wm⟩),co H func291⟩
end F291
namespace F263
abbrev R_:=UInt32
def H:Hd:=⟨[Su,Sc],[Su],(.seq .d (.cut [0] [] (.seq .d (.blk (.loop [0,1,5] [] .d))) .d)),kt [F291.k] false,[],f263⟩
def t4(a:UInt32)(b:UInt8)(f:Int):S:=⟨[(0,vu a),(1,vc b),(5,vi f)],[],[]⟩
def z4:Nat->S->Option R_:=H.i P_ [r,l,r,d]
theorem i4:∀(q:Nat) (a:UInt32) (b:UInt8) (f:Int),z4 q (t4 a b f)=Ij q a b f:=
 ind (λ_ _ _=>by kernel_rfl) λq ih a b f=>Eq.trans (b:=Px Xu (λa b f=>(z4 q) (t4 a b f)) a b f) F4 (by simp only[ih]<;>rfl)
def k:Kc P_ gl:=⟨(263,⟨H.p,H.r,u2 FH⟩),co H func263 (λx=>Eq.trans (b:=u2 (LD (λa b f=>z4 Ch (t4 a b f))) x) F4 (by simp only[i4,Ao]<;>rfl))⟩
end F263
namespace F238
abbrev R_:=UInt32
def H:Hd:=⟨[Su,Sb],[Su],(.seq .d (.cut [0] [] (.seq .d (.blk (.loop [0,1,5] [] .d))) .d)),kt [F263.k] false,[],f238⟩
def t4(a:LB)(b:UInt32)(f:Int):S:=⟨[(0,vu b),(1,vb a),(5,vi f)],[],[]⟩
def z4:Nat->S->Option R_:=H.i P_ [r,l,r,d]
theorem i4(a:LB):∀(q:Nat) (b:UInt32) (f:Int),z4 q (t4 a b f)=Gj a q b f:=
 ind (λ_ _=>by kernel_rfl) λq ih b f=>Eq.trans (b:=Mp Um (λb f=>(z4 q) (t4 a b f)) a b f) F4 (by simp only[ih]<;>rfl)
def k:Kc P_ gl:=⟨(238,⟨H.p,H.r,u2 Yt⟩),co H func238 (λx=>Eq.trans (b:=u2 (Tl (λa b f=>z4 Ch (t4 a b f))) x) F4 (by simp only[i4,Ao]<;>rfl))⟩
end F238
namespace F201
def H:Hd:=⟨[Sb],[Su],.d,kt [F238.k] false,[],f201⟩
def k:Kc P_ gl:=⟨(201,⟨H.p,H.r,Ga⟩),co H func201⟩
end F201
namespace F257
def H:Hd:=⟨[Sb],[Ob 5],.d,kt [F201.k] false,[],f257⟩
def k:Kc P_ gl:=⟨(257,⟨H.p,H.r,Me⟩),co H func257⟩
end F257
namespace F236
def So(j37:Int->Int->LB->Int->LB->Option (LB))(j44:LB->Option (LB))(f:LU)(b:List (Int×Int×UInt64×UInt64×Unit))(n a:Int)(k:LB):Option (LB):=
if(Cm a (Ac f))then
(Aj b a).bind λ_=>
(Aj f a).bind λv=>
(λaa:Option (LB)=>
(λy:Option (LB)=>
(λab:Option (LB)=>
(λac:Option (LB)=>
(λad:Option (LB)=>
both (
both (
ad) [
ac,
y]) [
(Aj b a).bind λp=>
(λae:Option (LB)=>
(λaf:Option (LB)=>
(λag:Option (LB)=>
both (
ag) [
ag,
af]) (
both (
af) [
ae])) (
bo (
ae))) (
(Gc ([]:LB) 0 p.1 p.2.1 p.2.2.1 p.2.2.2.1 v).bind λ(g,h)=>
j37 n a k h g),
both (
ac) [
ad,
y],
both (
y) [
ab,
y]]) (
(Aj b a).bind λp=>
(λah:Option (LB)=>
both (
bo (
ah)) [
ah]) (
(Gc ([]:LB) 0 p.1 p.2.1 p.2.2.1 p.2.2.2.1 v).bind λ(g,h)=>
j37 n a k h g))) (
both (
ab) [
aa])) (
(Aj b a).bind λp=>
(λao:Option (LB)=>
bo (
ao)) (
(Gc ([]:LB) 0 p.1 p.2.1 p.2.2.1 p.2.2.2.1 v).bind λ(g,h)=>
j37 n a k h g))) (
bo (
aa))) (
(Aj b a).bind λp=>
(Gc ([]:LB) 0 p.1 p.2.1 p.2.2.1 p.2.2.2.1 v).bind λ(g,h)=>
j37 n a k h g)
else
j44 k
theorem QS: @So= @Ja:=by
  unfold So Ja
  try simp only[gC,OG,QO]
  all_goals
    repeat (refine funext λ_=>?_)
    repeat' first
      |with_reducible rfl
      |with_reducible refine Mh ?_ ?_
      |with_reducible refine Lz ?_ ?_ ?_
      |with_reducible refine Mk ?_ ?_ ?_ ?_
      |((with_reducible refine Qz ?_ ?_);focus (intro h;first|(subst h;rfl)|(simp only[h];rfl)|(simp[Br,Ac,h];done)))
      |with_reducible refine Qj λx=>?_
      |with_reducible refine Yw (λ_=>?_) (λ_=>?_)
      |(refine Gn (λh=>by simp only[h,Qt,Dz,Dt,ite_self]) (λx h=>?_);(try simp only[h,Dz]))
      |(refine Jk (λh=>?_) (λh=>?_)<;>simp only[h,if_true,if_false,Bool.false_eq_true])
abbrev R_:=LB
abbrev K_:=S->Option R_
def H:Hd:=⟨[Si,Sv],[Ob 5],(.seq .d (.seq .d (.seq .d (.seq .d (.cut [5] [] (.seq .d (.blk (.loop [1,5,6,7,8] [⟨5,[],.own 5 (.int .u8)⟩] (.seq .d (.cut [1,5,6,7,8] [] (.blk (.cut [1,5,6,7,8,9] [] (.mode false) (.seq .d (.blk (.loop [1,5,6,7,8,9,10] [] (.seq .d (.seq (.blk (.cut [1,5,6,7,8,9,10] [] .d .d)) .d))))))) .d))))) .d))))),kt [F255.k,F256.k,F257.k] false,[],f236⟩
def t38(f:LU)(b:List (Int×Int×UInt64×UInt64×Unit))(a h:Int)(g:LB)(m o:Int)(u:LB):S:=⟨[(1,vv f),(5,.own 0),(6,vi m),(7,.own 1),(8,vi a),(9,.ptr 2 []),(10,vi o)],[Ab 5 u,.arr 196 (.cons (.int .i64) (.cons (.int .i64) (.cons (.int .u64) (.cons (.int .u64) .nil)))) b,.box 200 (.agg [.own 3,vi h]),Ab 5 g],[]⟩
def z38(tY:K_):Nat->S->Option R_:=H.i P_ [r,r,r,r,l,r,d,(lp tY),r,l,d,r,r,d]
def t23(f:LU)(b:List (Int×Int×UInt64×UInt64×Unit))(n a:Int)(k:LB):S:=⟨[(1,vv f),(5,.own 0),(6,vi n),(7,.own 1),(8,vi a)],[Ab 5 k,.arr 196 (.cons (.int .i64) (.cons (.int .i64) (.cons (.int .u64) (.cons (.int .u64) .nil)))) b],[]⟩
def z23:Nat->S->Option R_:=H.i P_ [r,r,r,r,l,r,d]
def x38(tY:K_)(f:LU)(b:List (Int×Int×UInt64×UInt64×Unit))(a h:Int)(g:LB)(m o:Int)(u:LB):Option R_:=H.e P_ [r,r,r,r,l,r,d,(lp tY),r,l,d,r,r,d] (t38 f b a h g m o u)
theorem i38(tY:K_)(f:LU)(b:List (Int×Int×UInt64×UInt64×Unit))(a h:Int)(g:LB):∀(q:Nat) (m o:Int) (u:LB),z38 tY q (t38 f b a h g m o u)=Dk (λn a k=>tY (t23 f b n a k)) f b a h g q m o u:=
 ind (λ_ _ _=>by kernel_rfl) λq ih m o u=>Eq.trans (b:=Mv (Mu (λm o u=>(z38 tY q) (t38 f b a h g m o u)) f a b h g) (Tg (λn a k=>tY (t23 f b n a k)) f b) f b a h g m o u) F4 (by simp only[ih]<;>rfl)
theorem e38(tY:K_)(f:LU)(b:List (Int×Int×UInt64×UInt64×Unit)):x38 tY f b=Tw (λn a k=>tY (t23 f b n a k)) f b:=by funext a h g m o u;exact Eq.trans F4 ((i38 tY f b a h g Ch m o u).trans (by rw[Ao];rfl))
theorem i23(f:LU)(b:List (Int×Int×UInt64×UInt64×Unit)):∀(q:Nat) (n a:Int) (k:LB),z23 q (t23 f b n a k)=Ei f b q n a k:=
 ind (λ_ _ _=>by kernel_rfl) λq ih n a k=>Eq.trans (b:=So (Uj (x38 (z23 q) f b) f b) Tm f b n a k) F4 (by rw[QS];simp only[e38,ih]<;>rfl)
def k:Kc P_ gl:=⟨(236,⟨H.p,H.r,u2 AX⟩),co H func236 (λx=>Eq.trans (b:=u2 (Vi (λf b n a k=>z23 Ch (t23 f b n a k))) x) F4 (by simp only[i23,Ao]<;>rfl))⟩
end F236
namespace F199
def H:Hd:=⟨[.agg [Si,Si],.lf (.vec 16 (.int .i32)) none,Sw],[Ob 5,Si],.d,kt [F108.k,F236.k,F237.k] false,[],f199⟩
def k:Kc P_ gl:=⟨(199,⟨H.p,H.r,u4 Mm⟩),co H func199⟩
end F199
namespace F148
def H:Hd:=⟨[.agg [.agg [Si,Si],Si,Ss,Ob 5,Ow 21,.lf (.list (.list (.int .u8))) (some 24),Ob 5,Sz,Si]],[.agg [.agg [Si,Si],Si,Ss,Ob 5,Ow 21,.lf (.list (.list (.int .u8))) (some 24),Ob 5,Sz,Si]],.d,kt [F198.k,F199.k] false,[],f148⟩
def k:Kc P_ gl:=⟨(148,⟨H.p,H.r,P1 BI⟩),co H func148⟩
end F148
namespace F102
abbrev R_:=(Int×Int×Int×LB×LB×LX×(List LB)×LB×Bool×Int×Int)
def H:Hd:=⟨[.agg [.agg [Si,Si],Si,Ss,Ob 5,Ow 21,.lf (.list (.list (.int .u8))) (some 24),Ob 5,Sz,Si],Sc],[.agg [.agg [Si,Si],Si,Ss,Ob 5,Ow 21,.lf (.list (.list (.int .u8))) (some 24),Ob 5,Sz,Si],Si],(.seq .d (.seq .d (.seq .d (.cut [2,4] [] .d .d)))),kt [F20.k,F103.k,F104.k,F119.k,F146.k,F147.k,F148.k] false,[],f102⟩
def k:Kc P_ gl:=⟨(102,⟨H.p,H.r,u11 Lg⟩),co H func102⟩
end F102
namespace F57
def Vk(j8:Int->Int->Int->Int->Int->LB->Bool->Int->Int->Int->Int->LB->Bool->Int->LB->LX-> (List LB)->LB->Option (Int×Int×Int×LB×LB×LX×(List LB)×LB×Bool×Int×Int))(j10:Int->Int->Int->LB->Bool->Int->LB->LX-> (List LB)->LB->Option (Int×Int×Int×LB×LB×LX×(List LB)×LB×Bool×Int×Int))(a:LB)(n b f g:Int)(h:LB)(k:Bool)(m:Int)(o:LB)(p:LX)(u:List LB)(v:LB):Option (Int×Int×Int×LB×LB×LX×(List LB)×LB×Bool×Int×Int):=
if(Cm n (Ac a))then
(Aj a n).bind λaj=>
(λbi:Option (Int×Int×Int×LB×LB×LX×(List LB)×LB×Bool×Int×Int)=>
(λbj:Option (Int×Int×Int×LB×LB×LX×(List LB)×LB×Bool×Int×Int)=>
(λbk:Option (Int×Int×Int×LB×LB×LX×(List LB)×LB×Bool×Int×Int)=>
both (
bk) [
bk,
bj]) (
both (
bj) [
bi])) (
bo (
bi))) (
(Lg b f g h o p u v k m aj).bind λ(y,aa,ab,ac,af,ag,ah,ai,ad,ae,w)=>
j8 n w b f g h k m y aa ab ac ad ae af ag ah ai)
else
j10 b f g h k m o p u v
theorem TN: @Vk= @Kv:=by
  unfold Vk Kv
  try simp only[gC,OG,QO]
  all_goals
    repeat (refine funext λ_=>?_)
    repeat' first
      |with_reducible rfl
      |with_reducible refine Mh ?_ ?_
      |with_reducible refine Lz ?_ ?_ ?_
      |with_reducible refine Mk ?_ ?_ ?_ ?_
      |((with_reducible refine Qz ?_ ?_);focus (intro h;first|(subst h;rfl)|(simp only[h];rfl)|(simp[Br,Ac,h];done)))
      |with_reducible refine Qj λx=>?_
      |with_reducible refine Yw (λ_=>?_) (λ_=>?_)
      |(refine Gn (λh=>by simp only[h,Qt,Dz,Dt,ite_self]) (λx h=>?_);(try simp only[h,Dz]))
      |(refine Jk (λh=>?_) (λh=>?_)<;>simp only[h,if_true,if_false,Bool.false_eq_true])
abbrev R_:=(Int×Int×Int×LB×LB×LX×(List LB)×LB×Bool×Int×Int)
abbrev K_:=S->Option R_
def H:Hd:=⟨[.agg [.agg [Si,Si],Si,Ss,Sb,Sw,.lf (.list (.list (.int .u8))) none,Sb,Sz,Si],Sb],[.agg [.agg [Si,Si],Si,Ss,Ob 5,Ow 21,.lf (.list (.list (.int .u8))) (some 24),Ob 5,Sz,Si],Si],(.seq .d (.seq .d (.seq .d (.seq .d (.cut [2,4] [] (.seq .d (.blk (.loop [1,2,4,8] [] (.seq .d (.seq (.blk (.cut [1,2,4,8,9,10] [] (.mode false) .d)) .d))))) .d))))),kt [F99.k,F100.k,F101.k,F102.k] false,[],f57⟩
def t6(a:LB)(n b f g:Int)(h:LB)(k:Bool)(m:Int)(o:LB)(p:LX)(u:List LB)(v:LB):S:=⟨[(1,vb a),(2,.ptr 0 []),(4,.ptr 1 []),(8,vi n)],[.box 33 (.agg [.agg [vi b,vi f],vi g,vs h,.own 2,.own 3,.own 4,.own 5,vt k,vi m]),.box 33 (.agg [.agg [vi 0,vi 0],vi 0,vs ([]:LB),.nils,.nils,.nils,.nils,vt false,vi 0]),Ab 5 o,Aw 21 p,.arr 24 (.list (.int .u8)) u,Ab 5 v],[]⟩
def z6:Nat->S->Option R_:=H.i P_ [r,r,r,r,l,r,d]
theorem i6(a:LB):∀(q:Nat) (n b f g:Int) (h:LB) (k:Bool) (m:Int) (o:LB) (p:LX) (u:List LB) (v:LB),z6 q (t6 a n b f g h k m o p u v)=Ih a q n b f g h k m o p u v:=
 ind (λ_ _ _ _ _ _ _ _ _ _ _=>by kernel_rfl) λq ih n b f g h k m o p u v=>Eq.trans (b:=Vk (Pz (λn b f g h k m o p u v=>(z6 q) (t6 a n b f g h k m o p u v)) a) Vs a n b f g h k m o p u v) F4 (by rw[TN];simp only[ih]<;>rfl)
def k:Kc P_ gl:=⟨(57,⟨H.p,H.r,u11 Wj⟩),co H func57 (λx=>Eq.trans (b:=u11 (Xk (λa n b f g h k m o p u v=>z6 Ch (t6 a n b f g h k m o p u v))) x) F4 (by simp only[i6,Ao]<;>rfl))⟩
end F57
namespace F149
def H:Hd:=⟨[Ss],[Si],.d,kt [] false,[],f149⟩
def k:Kc P_ gl:=⟨(149,⟨H.p,H.r,Ji⟩),co H func149⟩
end F149
namespace F200
abbrev R_:=LB
def H:Hd:=⟨[Sq,Si],[Ob 5],(.seq .d (.seq .d (.cut [5] [] (.seq .d (.blk (.loop [0,1,5,6] [⟨5,[],.own 5 (.int .u8)⟩] .d))) .d))),kt [] false,[],f200⟩
def t4(b:Int)(f:UInt64)(g:Int)(a:LB):S:=⟨[(0,vq f),(1,vi b),(5,.own 0),(6,vi g)],[Ab 5 a],[]⟩
def z4:Nat->S->Option R_:=H.i P_ [r,r,l,r,d]
theorem i4(b:Int):∀(q:Nat) (f:UInt64) (g:Int) (a:LB),z4 q (t4 b f g a)=Fi b q f g a:=
 ind (λ_ _ _=>by kernel_rfl) λq ih f g a=>Eq.trans (b:=Lm Rg (λf g a=>(z4 q) (t4 b f g a)) b f g a) F4 (by simp only[ih]<;>rfl)
def k:Kc P_ gl:=⟨(200,⟨H.p,H.r,u2 Ah⟩),co H func200 (λx=>Eq.trans (b:=u2 (Sf (λb f g a=>z4 Ch (t4 b f g a))) x) F4 (by simp only[i4,Ao]<;>rfl))⟩
end F200
namespace F150
def H:Hd:=⟨[.agg [Si,Si,Si,Si,Si]],[Ob 5],.d,kt [F200.k,F201.k] false,[],f150⟩
def k:Kc P_ gl:=⟨(150,⟨H.p,H.r,u5 Uf⟩),co H func150⟩
end F150
namespace F202
def H:Hd:=⟨[Ss],[Sq],.d,kt [F239.k] false,[],f202⟩
def k:Kc P_ gl:=⟨(202,⟨H.p,H.r,EP⟩),co H func202⟩
end F202
namespace F151
def H:Hd:=⟨[Ss],[Ob 5],.d,kt [F200.k,F202.k] false,[],f151⟩
def k:Kc P_ gl:=⟨(151,⟨H.p,H.r,Kz⟩),co H func151⟩
end F151
namespace F152
abbrev R_:=LB
def H:Hd:=⟨[Sl],[Ob 5],(.seq .d (.seq .d (.cut [3] [] (.seq .d (.blk (.loop [0,3,4] [⟨3,[],.own 5 (.int .u8)⟩] .d))) .d))),kt [F200.k,F201.k] false,[],f152⟩
def t4(b:LI)(f:Int)(a:LB):S:=⟨[(0,vl b),(3,.own 0),(4,vi f)],[Ab 5 a],[]⟩
def z4:Nat->S->Option R_:=H.i P_ [r,r,l,r,d]
theorem i4(b:LI):∀(q:Nat) (f:Int) (a:LB),z4 q (t4 b f a)=Hk b q f a:=
 ind (λ_ _=>by kernel_rfl) λq ih f a=>Eq.trans (b:=Oi Vx (λf a=>(z4 q) (t4 b f a)) b f a) F4 (by simp only[ih]<;>rfl)
def k:Kc P_ gl:=⟨(152,⟨H.p,H.r,BP⟩),co H func152 (λx=>Eq.trans (b:=HJ (λb f a=>z4 Ch (t4 b f a)) x) F4 (by simp only[i4,Ao]<;>rfl))⟩
end F152
namespace F105
def Vp(j7:Int->Int->Int->LB->LB->LX->LB->Bool->Int->Int->Int-> (List LB)->Option (LB))(b f g:Int)(a h:LB)(ab:LX)(ac:List LB)(k:LB)(m:Bool)(n:Int):Option (LB):=
both (
(Ji a).bind λp=>
both (
(Dc b f g a h ab ac k m n).bind λo=>
bo (
j7 b f g a h ab k m n p o ac)) [
(Dc b f g a h ab ac k m n).bind λo=>
j7 b f g a h ab k m n p o ac]) [
(Ji a).bind λp=>
(Dc b f g a h ab ac k m n).bind λo=>
j7 b f g a h ab k m n p o ac]
theorem TM: @Vp= @Pd:=by
  unfold Vp Pd
  repeat (refine funext λ_=>?_)
  repeat' first
    |with_reducible rfl
    |with_reducible refine Mh ?_ ?_
    |with_reducible refine Lz ?_ ?_ ?_
    |with_reducible refine Mk ?_ ?_ ?_ ?_
    |((with_reducible refine Qz ?_ ?_);focus (intro h;first|(subst h;rfl)|(simp only[h];rfl)|(simp[Br,Ac,h];done)))
    |with_reducible refine Qj λx=>?_
    |with_reducible refine Yw (λ_=>?_) (λ_=>?_)
    |(refine Gn (λh=>by simp only[h,Qt,Dz,Dt,ite_self]) (λx h=>?_);(try simp only[h,Dz]))
    |(refine Jk (λh=>?_) (λh=>?_)<;>simp only[h,if_true,if_false,Bool.false_eq_true])
abbrev R_:=LB
def H:Hd:=⟨[.agg [.agg [Si,Si],Si,Ss,Sb,Sw,.lf (.list (.list (.int .u8))) (some 24),Sb,Sz,Si]],[Ob 5],(.seq .d (.cut [1,3] [] .d (.cut [1,3] [⟨1,[4],.ro (.int .i32)⟩] (.seq .d (.cond (.keep [1,3,27] true) .d)) (.seq .d (.seq .d (.cut [1,3,4,5] [] (.seq .d (.blk (.loop [1,3,4,5,6] [⟨4,[],.own 3 (.int .i64)⟩,⟨5,[],.own 5 (.int .u8)⟩] .d))) (.seq .d (.cut [4,5,7] [] .d .d)))))))),kt [F103.k,F149.k,F150.k,F151.k,F152.k,F198.k,F199.k] false,[(148,.d)],f105⟩
def t9(b f g:Int)(a h:LB)(aa:LX)(k:LB)(m:Bool)(n p o:Int)(u:List LB)(y:Int)(v:LI)(w:LB):S:=⟨[(1,.ptr 0 []),(3,.ptr 1 []),(4,.own 2),(5,.own 3),(6,vi y)],[.box 33 (.agg [.agg [vi b,vi f],vi g,vs a,vb h,vw aa,.own 4,vb k,vt m,vi n]),.box 139 (.agg [vi p,vi b,vi f,vi g,vi o]),Ai 3 v,Ab 5 w,.arr 24 (.list (.int .u8)) u],[]⟩
def z9:Nat->S->Option R_:=H.i P_ [r,r,r,r,r,l,r,d]
theorem i9(b f g:Int)(a h:LB)(aa:LX)(k:LB)(m:Bool)(n p o:Int)(u:List LB):∀(q:Nat) (y:Int) (v:LI) (w:LB),z9 q (t9 b f g a h aa k m n p o u y v w)=Im b f g a h aa k m n p o u q y v w:=
 ind (λ_ _ _=>by kernel_rfl) λq ih y v w=>Eq.trans (b:=Ps Oo (λy v w=>(z9 q) (t9 b f g a h aa k m n p o u y v w)) b f g a h aa k m n p o u y v w) F4 (by simp only[ih]<;>rfl)
def k:Kc P_ gl:=⟨(105,⟨H.p,H.r,P1 Lp⟩),co H func105 (λx=>Eq.trans (b:=P1 (Vp (Xb (JR (λb f g a h aa k m n p o u y v w=>z9 Ch (t9 b f g a h aa k m n p o u y v w))))) x) F4 (by rw[TM];simp only[i9,Ao]<;>rfl))⟩
end F105
namespace F58
def Rr(a b f:Int)(g:LB)(k:Bool)(m:Int)(h:LB)(n:LX)(o:List LB)(p:LB):Option (Int×Int×Int×LB×LB×LX×(List LB)×LB×Bool×Int×Int):=
(λam:Option (Int×Int×Int×LB×LB×LX×(List LB)×LB×Bool×Int×Int)=>
(λw:Option (Int×Int×Int×LB×LB×LX×(List LB)×LB×Bool×Int×Int)=>
(λv:Option (Int×Int×Int×LB×LB×LX×(List LB)×LB×Bool×Int×Int)=>
(λy:Option (Int×Int×Int×LB×LB×LX×(List LB)×LB×Bool×Int×Int)=>
both (
y) [
y,
y,
both (
v) [
v,
v,
(Lp a b f g h n o p k m).bind λu=>
(λbl:Option (Int×Int×Int×LB×LB×LX×(List LB)×LB×Bool×Int×Int)=>
(λbm:Option (Int×Int×Int×LB×LB×LX×(List LB)×LB×Bool×Int×Int)=>
bo2 (
bm)) (
bo (
bl))) (
some (a,b,f,g,([]:LB),([]:LX),([]:List LB),u,true,0,0))]]) (
(λan:Option (Int×Int×Int×LB×LB×LX×(List LB)×LB×Bool×Int×Int)=>
both (
an) [
an,
v]) (
both (
am) [
w]))) (
both (
w) [
w,
(Lp a b f g h n o p k m).bind λu=>
(λbn:Option (Int×Int×Int×LB×LB×LX×(List LB)×LB×Bool×Int×Int)=>
bo (
bn)) (
some (a,b,f,g,([]:LB),([]:LX),([]:List LB),u,true,0,0))])) (
bo (
am))) (
(Lp a b f g h n o p k m).bind λu=>
some (a,b,f,g,([]:LB),([]:LX),([]:List LB),u,true,0,0))
theorem PZ: @Rr= @Nb:=by
  unfold Rr Nb
  try simp only[gC,OG,QO]
  all_goals
    repeat (refine funext λ_=>?_)
    repeat' first
      |with_reducible rfl
      |with_reducible refine Mh ?_ ?_
      |with_reducible refine Lz ?_ ?_ ?_
      |with_reducible refine Mk ?_ ?_ ?_ ?_
      |((with_reducible refine Qz ?_ ?_);focus (intro h;first|(subst h;rfl)|(simp only[h];rfl)|(simp[Br,Ac,h];done)))
      |with_reducible refine Qj λx=>?_
      |with_reducible refine Yw (λ_=>?_) (λ_=>?_)
      |(refine Gn (λh=>by simp only[h,Qt,Dz,Dt,ite_self]) (λx h=>?_);(try simp only[h,Dz]))
      |(refine Jk (λh=>?_) (λh=>?_)<;>simp only[h,if_true,if_false,Bool.false_eq_true])
abbrev R_:=(Int×Int×Int×LB×LB×LX×(List LB)×LB×Bool×Int×Int)
def H:Hd:=⟨[.agg [.agg [Si,Si],Si,Ss,Sb,Sw,.lf (.list (.list (.int .u8))) none,Sb,Sz,Si]],[.agg [.agg [Si,Si],Si,Ss,Ob 5,Ow 21,.lf (.list (.list (.int .u8))) (some 24),Ob 5,Sz,Si],Si],(.seq .d (.seq .d (.seq .d (.seq .d (.cut [1,2] [] .d (.seq (.mode false) .d)))))),kt [F99.k,F100.k,F101.k,F103.k,F104.k,F105.k] false,[],f58⟩
def x2(a b f:Int)(g:LB)(k:Bool)(m:Int)(h:LB)(n:LX)(o:List LB)(p:LB):Option R_:=H.e P_ [r,r,r,r,r] ⟨[(1,.ptr 0 []),(2,.ptr 1 [])],[.box 33 (.agg [.agg [vi a,vi b],vi f,vs g,.own 2,.own 3,.own 4,.own 5,vt k,vi m]),.box 33 (.agg [.agg [vi 0,vi 0],vi 0,vs ([]:LB),.nils,.nils,.nils,.nils,vt false,vi 0]),Ab 5 h,Aw 21 n,.arr 24 (.list (.int .u8)) o,Ab 5 p],[]⟩
theorem e2:x2=Ud:=Eq.trans (b:=Rr) F4 (by rw[PZ];rfl)
def k:Kc P_ gl:=⟨(58,⟨H.p,H.r,P1 Qx⟩),co H func58 (λx=>Eq.trans (b:=P1 (To x2) x) F4 (by simp only[e2]<;>rfl))⟩
end F58
namespace F29
def H:Hd:=⟨[.agg [Si,Si,Si,Sw],Ss],[Ob 5,Si],.d,kt [F56.k,F57.k,F58.k,F63.k,F64.k] false,[],f29⟩
def k:Kc P_ gl:=⟨(29,⟨H.p,H.r,u5 Gs⟩),co H func29⟩
end F29
namespace F204
abbrev R_:=(UInt64×Int)
def H:Hd:=⟨[Sb],[Sq,Si],(.seq .d (.seq .d (.seq .d (.cut [4] [] (.seq .d (.blk (.loop [4,15,16,17] [] .d))) .d)))),kt [] false,[],f204⟩
def t4(a:LB)(f:UInt64)(b:Int):S:=⟨[(4,vq f),(15,vb a),(16,vi (Ac a)),(17,vi b)],[],[]⟩
def z4:Nat->S->Option R_:=H.i P_ [r,r,r,l,r,d]
theorem i4(a:LB):∀(q:Nat) (f:UInt64) (b:Int),z4 q (t4 a f b)=BW a q f b:=
 ind (λ_ _=>by kernel_rfl) λq ih f b=>Eq.trans (b:=SB sJ (λf b=>(z4 q) (t4 a f b)) a f b) F4 (by simp only[ih]<;>rfl)
def k:Kc P_ gl:=⟨(204,⟨H.p,H.r,dQ⟩),co H func204 (λx=>Eq.trans (b:=gG (λa f b=>z4 Ch (t4 a f b)) x) F4 (by simp only[i4,Ao]<;>rfl))⟩
end F204
namespace F156
def H:Hd:=⟨[Sb,Si,Si],[Sq,Si],.d,kt [F204.k] false,[],f156⟩
def k:Kc P_ gl:=⟨(156,⟨H.p,H.r,u3 kH⟩),co H func156⟩
end F156
namespace F157
abbrev R_:=Bool
def H:Hd:=⟨[Ss],[Sz],(.seq .d (.cut [0] [] (.seq .d (.blk (.loop [0,6,7,8] [] .d))) .d)),kt [] false,[],f157⟩
def t4(a:LB)(b:Int):S:=⟨[(0,vs a),(6,.own 0),(7,vi (Ac a)),(8,vi b)],[Ab 5 a],[]⟩
def z4:Nat->S->Option R_:=H.i P_ [r,l,r,d]
theorem i4(a:LB):∀(q:Nat) (b:Int),z4 q (t4 a b)=Fw a q b:=
 ind (λ_=>by kernel_rfl) λq ih b=>Eq.trans (b:=Se fK (λb=>(z4 q) (t4 a b)) a b) F4 (by simp only[ih]<;>rfl)
def k:Kc P_ gl:=⟨(157,⟨H.p,H.r,Xa⟩),co H func157 (λx=>Eq.trans (b:=fW (λa b=>z4 Ch (t4 a b)) x) F4 (by simp only[i4,Ao]<;>rfl))⟩
end F157
namespace F193
def LW(a:LB):Option (LB):=
zZ a (
some ([]:LB)) (
(Br ([]:LB) a).bind λb=>
some b)
theorem mP: @LW= @Ta:=by
  unfold LW Ta
  repeat (refine funext λ_=>?_)
  repeat' first
    |with_reducible rfl
    |with_reducible refine Mh ?_ ?_
    |with_reducible refine Lz ?_ ?_ ?_
    |with_reducible refine Mk ?_ ?_ ?_ ?_
    |((with_reducible refine Qz ?_ ?_);focus (intro h;first|(subst h;rfl)|(simp only[h];rfl)|(simp[Br,Ac,h];done)))
    |with_reducible refine Qj λx=>?_
    |with_reducible refine Yw (λ_=>?_) (λ_=>?_)
    |(refine Gn (λh=>by simp only[h,Qt,Dz,Dt,ite_self]) (λx h=>?_);(try simp only[h,Dz]))
    |(refine Jk (λh=>?_) (λh=>?_)<;>simp only[h,if_true,if_false,Bool.false_eq_true])
def H:Hd:=⟨[Sb],[Ob 5],.d,kt [] false,[],f193⟩
def k:Kc P_ gl:=⟨(193,⟨H.p,H.r,Ta⟩),co H func193 (λx=>Eq.trans (b:=LW x) F4 (by simp only[mP]<;>rfl))⟩
end F193
namespace F158
abbrev R_:=(LB×LB×LB×Bool)
def H:Hd:=⟨[Sb],[.agg [Ss,Ob 5],Sb,Sz],(.seq .d (.cut [0,2] [] .d (.seq .d (.cut [0,2,5,7] [] .d .d)))),kt [F156.k,F157.k,F193.k] false,[],f158⟩
def k:Kc P_ gl:=⟨(158,⟨H.p,H.r,OC⟩),co H func158⟩
end F158
namespace F113
abbrev R_:=(LB×(List (LB×LB×Unit))×Int)
def H:Hd:=⟨[Sb],[Ss,.lf (.list (.cons .str (.cons (.list (.int .u8)) .nil))) (some 176),Si],(.seq .d (.seq .d (.seq .d (.seq .d (.cut [0,5,7] [] (.blk (.cut [0,5,7,24] [] .d .d)) (.seq .d (.cut [0,5,7,8] [] (.seq .d (.blk (.loop [0,5,7,8,9] [⟨8,[],.own 176 (.cons .str (.cons (.list (.int .u8)) .nil))⟩] .d))) .d))))))),kt [F156.k,F157.k,F158.k] false,[],f113⟩
def t8(a:LB)(b:UInt64)(f h:LB)(g:List (LB×LB×Unit)):S:=⟨[(0,vb a),(5,vq b),(7,vs f),(8,.own 0),(9,vb h)],[.arr 176 (.cons .str (.cons (.list (.int .u8)) .nil)) g],[]⟩
def z8:Nat->S->Option R_:=H.i P_ [r,r,r,r,r,r,l,r,d]
theorem i8(a:LB)(b:UInt64)(f:LB):∀(q:Nat) (h:LB) (g:List (LB×LB×Unit)),z8 q (t8 a b f h g)=Un a b f q h g:=
 ind (λ_ _=>by kernel_rfl) λq ih h g=>Eq.trans (b:=NU IV (λh g=>(z8 q) (t8 a b f h g)) a b f h g) F4 (by simp only[ih]<;>rfl)
def k:Kc P_ gl:=⟨(113,⟨H.p,H.r,OD⟩),co H func113 (λx=>Eq.trans (b:=NV (FD (NL (λa b f h g=>z8 Ch (t8 a b f h g)))) x) F4 (by simp only[i8,Ao]<;>rfl))⟩
end F113
namespace F159
abbrev R_:=(Int×Int)
abbrev K_:=S->Option R_
def H:Hd:=⟨[.lf (.list (.cons .str (.cons (.list (.int .u8)) .nil))) none,Ss],[Si,Si],(.seq .d (.cut [6] [] (.keep [6,9] true) .d)),kt [] false,[(205,(.seq .d (.cut [] [] (.seq .d (.blk (.loop [0,1,7,8] [] (.seq .d (.seq .d (.cut [0,1,7,8] [] (.blk (.seq .d (.cut [0,1,5,7,8,16] [] (.keep [0,1,5,7,8,16] true) .d))) .d)))))) .d))),(206,.d)],f159⟩
def t9(a:List (LB×LB×Unit))(b:LB)(f:Int):S:=⟨[(0,.val (.list (.cons .str (.cons (.list (.int .u8)) .nil))) a),(1,.fn 206 [.ptr 0 []]),(7,vi (Ac a)),(8,vi f)],[.box 9 (vs b)],[[]]⟩
def z9:Nat->S->Option R_:=H.i P_ [r,l,(call 2 205),r,l,r,d]
theorem i9(a:List (LB×LB×Unit))(b:LB):∀(q:Nat) (f:Int),z9 q (t9 a b f)=Ye a b q f:=
 ind (λ_=>by kernel_rfl) λq ih f=>Eq.trans (b:=NW (TD (λf=>(z9 q) (t9 a b f)) a b) TZ a b f) F4 (by simp only[ih]<;>rfl)
def k:Kc P_ gl:=⟨(159,⟨H.p,H.r,u2 gZ⟩),co H func159 (λx=>Eq.trans (b:=u2 (oM (λa b f=>z9 Ch (t9 a b f))) x) F4 (by simp only[i9,Ao]<;>rfl))⟩
end F159
namespace F114
def H:Hd:=⟨[.lf (.list (.cons .str (.cons (.list (.int .u8)) .nil))) none,Ss],[Si,Si],.d,kt [F159.k] false,[],f114⟩
def k:Kc P_ gl:=⟨(114,⟨H.p,H.r,u2 OT⟩),co H func114⟩
end F114
namespace F160
def H:Hd:=⟨[.agg [Si,Si,Si]],[Si],.d,kt [] false,[],f160⟩
def k:Kc P_ gl:=⟨(160,⟨H.p,H.r,u3 Lh⟩),co H func160⟩
end F160
namespace F162
abbrev R_:=LB
def H:Hd:=⟨[.agg [Si,Si,Si],Sz,Sq],[Ob 5],(.seq .d (.seq .d (.seq .d (.seq .d (.cut [1,8,9] [] .d (.seq .d (.cut [1,10] [] (.seq .d (.blk (.loop [1,8,10,44,45] [⟨10,[],.own 5 (.int .u8)⟩] .d))) .d))))))),kt [F130.k] false,[],f162⟩
def t6(a:Bool)(h:Int)(f:LQ)(g:Int)(b:LB):S:=⟨[(1,vt a),(8,.ptr 0 []),(10,.own 1),(44,vi h),(45,vi g)],[.box 239 (.val (.vec 9 (.int .u64)) f),Ab 5 b],[]⟩
def z6:Nat->S->Option R_:=H.i P_ [r,r,r,r,r,r,l,r,d]
theorem i6(a:Bool)(h:Int)(f:LQ):∀(q:Nat) (g:Int) (b:LB),z6 q (t6 a h f g b)=Dw a h f q g b:=
 ind (λ_ _=>by kernel_rfl) λq ih g b=>Eq.trans (b:=Rh Yi (λg b=>(z6 q) (t6 a h f g b)) a h f g b) F4 (by simp only[ih]<;>rfl)
def k:Kc P_ gl:=⟨(162,⟨H.p,H.r,u5 Nc⟩),co H func162 (λx=>Eq.trans (b:=u5 (Xy (Yj (λa h f g b=>z6 Ch (t6 a h f g b)))) x) F4 (by simp only[i6,Ao]<;>rfl))⟩
end F162
namespace F161
def H:Hd:=⟨[Sb,Sb],[Sz],.d,kt [] false,[],f161⟩
def k:Kc P_ gl:=⟨(161,⟨H.p,H.r,u2 CW⟩),co H func161⟩
end F161
namespace F115
abbrev R_:=(Int×Int×Int×Int)
def H:Hd:=⟨[Sb],[.agg [Si,Si,Si],Si],(.seq .d (.seq .d (.cut [0,2,5] [] (.seq .d (.blk (.loop [0,2,4,5,10,11] [] .d))) .d))),kt [F156.k,F160.k,F161.k,F162.k] false,[],f115⟩
def t4(b:LB)(g f:Int)(a:LQ):S:=⟨[(0,vb b),(2,.ptr 0 []),(4,vi g),(5,.ptr 1 []),(10,.val (.vec 9 (.int .i64)) ([(2:Int),(2:Int),(4:Int),(4:Int),(2:Int),(2:Int),(2:Int),(2:Int),(4:Int)]:LI)),(11,vi f)],[.box 172 (.agg [vi 0,vi 0,vi 0]),.box 239 (.val (.vec 9 (.int .u64)) a)],[]⟩
def z4:Nat->S->Option R_:=H.i P_ [r,r,l,r,d]
theorem i4(b:LB):∀(q:Nat) (g f:Int) (a:LQ),z4 q (t4 b g f a)=Ki b q g f a:=
 ind (λ_ _ _=>by kernel_rfl) λq ih g f a=>Eq.trans (b:=Yf XQ (λg f a=>(z4 q) (t4 b g f a)) b g f a) F4 (by simp only[ih]<;>rfl)
def k:Kc P_ gl:=⟨(115,⟨H.p,H.r,Ux⟩),co H func115 (λx=>Eq.trans (b:=HR (λb g f a=>z4 Ch (t4 b g f a)) x) F4 (by simp only[i4,Ao]<;>rfl))⟩
end F115
namespace F66
def H:Hd:=⟨[Sb],[.agg [Si,Si,Si,Ow 21],Si],.d,kt [F46.k,F59.k,F113.k,F114.k,F115.k] false,[],f66⟩
def k:Kc P_ gl:=⟨(66,⟨H.p,H.r,pK⟩),co H func66⟩
end F66
namespace F30
abbrev R_:=(LB×Int)
def H:Hd:=⟨[Sb,Ss],[Ob 5,Si],(.seq .d (.cut [4,5] [⟨4,[],.own 5 (.int .u8)⟩] (.keep [4,5,8,9,10] true) .d)),kt [F28.k,F66.k] false,[(65,(.seq .d (.cut [2,8,9] [] .d (.seq .d (.cut [6,7] [] (.keep [6,7,23,24,25] true) .d))))),(67,.d)],f30⟩
def k:Kc P_ gl:=⟨(30,⟨H.p,H.r,u2 Uo⟩),co H func30⟩
end F30
namespace F163
abbrev R_:=UInt64
def H:Hd:=⟨[Sb],[Sq],(.seq .d (.seq .d (.cut [3] [] (.seq .d (.blk (.loop [0,3,4] [] .d))) .d))),kt [] false,[],f163⟩
def t4(a:LB)(b:UInt64)(f:Int):S:=⟨[(0,vb a),(3,vq b),(4,vi f)],[],[]⟩
def z4:Nat->S->Option R_:=H.i P_ [r,r,l,r,d]
theorem i4(a:LB):∀(q:Nat) (b:UInt64) (f:Int),z4 q (t4 a b f)=Kj a q b f:=
 ind (λ_ _=>by kernel_rfl) λq ih b f=>Eq.trans (b:=Uk BD (λb f=>(z4 q) (t4 a b f)) a b f) F4 (by simp only[ih]<;>rfl)
def k:Kc P_ gl:=⟨(163,⟨H.p,H.r,Ax⟩),co H func163 (λx=>Eq.trans (b:=AW (λa b f=>z4 Ch (t4 a b f)) x) F4 (by simp only[i4,Ao]<;>rfl))⟩
end F163
namespace F164
abbrev R_:=Bool
def H:Hd:=⟨[Ss],[Sz],(.seq .d (.cut [0] [] (.seq .d (.blk (.loop [0,3] [] .d))) .d)),kt [] false,[],f164⟩
def t4(a:LB)(b:Int):S:=⟨[(0,vs a),(3,vi b)],[],[]⟩
def z4:Nat->S->Option R_:=H.i P_ [r,l,r,d]
theorem i4(a:LB):∀(q:Nat) (b:Int),z4 q (t4 a b)=Eg a q b:=
 ind (λ_=>by kernel_rfl) λq ih b=>Eq.trans (b:=Qc KW (λb=>(z4 q) (t4 a b)) a b) F4 (by simp only[ih]<;>rfl)
def k:Kc P_ gl:=⟨(164,⟨H.p,H.r,Wk⟩),co H func164 (λx=>Eq.trans (b:=JX (λa b=>z4 Ch (t4 a b)) x) F4 (by simp only[i4,Ao]<;>rfl))⟩
end F164
namespace F116
def Tk(j24:Int->UInt64-> (List (LB×LB×Unit))->Option (LB×(List (LB×LB×Unit))×Int))(a f:LB)(b:UInt64)(g:Int)(k:UInt64)(h:List (LB×LB×Unit)):Option (LB×(List (LB×LB×Unit))×Int):=
(Cr a g (Ae g 4)).bind λn=>
(Cr a (Ae g 8) (Ae (Ae g 8) (Ad k:Int))).bind λo=>
(λu:Option (LB×(List (LB×LB×Unit))×Int)=>
both (
u) [
bo (
u)]) (
(Br ([]:LB) o).bind λp=>
(Br h ([(n,p,())]:List (LB×LB×Unit))).bind λm=>
j24 g k m)
theorem RJ: @Tk= @Oc:=by
  unfold Tk Oc
  try simp only[gC,OG,QO]
  all_goals
    repeat (refine funext λ_=>?_)
    repeat' first
      |with_reducible rfl
      |with_reducible refine Mh ?_ ?_
      |with_reducible refine Lz ?_ ?_ ?_
      |with_reducible refine Mk ?_ ?_ ?_ ?_
      |((with_reducible refine Qz ?_ ?_);focus (intro h;first|(subst h;rfl)|(simp only[h];rfl)|(simp[Br,Ac,h];done)))
      |with_reducible refine Qj λx=>?_
      |with_reducible refine Yw (λ_=>?_) (λ_=>?_)
      |(refine Gn (λh=>by simp only[h,Qt,Dz,Dt,ite_self]) (λx h=>?_);(try simp only[h,Dz]))
      |(refine Jk (λh=>?_) (λh=>?_)<;>simp only[h,if_true,if_false,Bool.false_eq_true])
abbrev R_:=(LB×(List (LB×LB×Unit))×Int)
abbrev K_:=S->Option R_
def H:Hd:=⟨[Sb],[Ss,.lf (.list (.cons .str (.cons (.list (.int .u8)) .nil))) (some 176),Si],(.seq .d (.seq .d (.seq .d (.seq .d (.cut [0,5,6] [] .d (.seq .d (.seq .d (.seq .d (.seq .d (.cut [0,5,7,8] [] (.seq .d (.blk (.loop [0,5,7,8,9] [⟨8,[],.own 176 (.cons .str (.cons (.list (.int .u8)) .nil))⟩] (.seq .d (.blk (.seq .d (.cut [0,5,7,8,9] [] .d (.seq .d (.seq .d (.cut [0,5,7,8,9,10,11] [] .d (.cut [0,5,7,8,9,11] [] (.mode false) .d))))))))))) .d)))))))))),kt [F163.k,F164.k] false,[],f116⟩
def t15(a f:LB)(b:UInt64)(g:Int)(h:List (LB×LB×Unit)):S:=⟨[(0,vb a),(5,vs f),(7,vi (Ae (Ad b:Int) (8:Int))),(8,.own 0),(9,vi g)],[.arr 176 (.cons .str (.cons (.list (.int .u8)) .nil)) h],[]⟩
def z15:Nat->S->Option R_:=H.i P_ [r,r,r,r,r,r,r,r,r,l,r,d]
def x23(Aj6:K_)(a f:LB)(b:UInt64)(g:Int)(k:UInt64)(h:List (LB×LB×Unit)):Option R_:=H.e P_ [r,r,r,r,r,r,r,r,r,l,r,d,(lp Aj6),r,d,r,r,r,r,r] ⟨[(0,vb a),(5,vs f),(7,vi (Ae (Ad b:Int) (8:Int))),(8,.own 0),(9,vi g),(10,vq k),(11,vq (Ae k (Oq k (2:UInt64))))],[.arr 176 (.cons .str (.cons (.list (.int .u8)) .nil)) h],[]⟩
theorem e23(Aj6:K_)(a f:LB)(b:UInt64):x23 Aj6 a f b=On (λg h=>Aj6 (t15 a f b g h)) a f b:=Eq.trans (b:=Tk (Vj (λg h=>Aj6 (t15 a f b g h)) a f b) a f b) F4 (by rw[RJ];rfl)
theorem i15(a f:LB)(b:UInt64):∀(q:Nat) (g:Int) (h:List (LB×LB×Unit)),z15 q (t15 a f b g h)=Cs a f b q g h:=
 ind (λ_ _=>by kernel_rfl) λq ih g h=>Eq.trans (b:=Of (Vy (x23 (z15 q) a f b) a f b) Vw a f b g h) F4 (by simp only[e23,ih]<;>rfl)
def k:Kc P_ gl:=⟨(116,⟨H.p,H.r,Wp⟩),co H func116 (λx=>Eq.trans (b:=Wz (Vb (λa f b g h=>z15 Ch (t15 a f b g h))) x) F4 (by simp only[i15,Ao]<;>rfl))⟩
end F116
namespace F117
abbrev R_:=(Int×Int)
def H:Hd:=⟨[.lf (.list (.cons .str (.cons (.list (.int .u8)) .nil))) none,Ss],[Si,Si],(.seq .d (.seq .d (.cut [6,7] [] (.seq .d (.blk (.loop [0,1,6,7,8] [] .d))) .d))),kt [] false,[],f117⟩
def t4(b:List (LB×LB×Unit))(h:LB)(a g f:Int):S:=⟨[(0,.val (.list (.cons .str (.cons (.list (.int .u8)) .nil))) b),(1,vs h),(6,vi a),(7,vi g),(8,vi f)],[],[]⟩
def z4:Nat->S->Option R_:=H.i P_ [r,r,l,r,d]
theorem i4(b:List (LB×LB×Unit))(h:LB):∀(q:Nat) (a g f:Int),z4 q (t4 b h a g f)=Hg b h q a g f:=
 ind (λ_ _ _=>by kernel_rfl) λq ih a g f=>Eq.trans (b:=Oh GJ (λa g f=>(z4 q) (t4 b h a g f)) b h a g f) F4 (by simp only[ih]<;>rfl)
def k:Kc P_ gl:=⟨(117,⟨H.p,H.r,u2 Tn⟩),co H func117 (λx=>Eq.trans (b:=u2 (GL (λb h a g f=>z4 Ch (t4 b h a g f))) x) F4 (by simp only[i4,Ao]<;>rfl))⟩
end F117
namespace F165
def H:Hd:=⟨[.agg [Si,Si,Si]],[Si],.d,kt [] false,[],f165⟩
def k:Kc P_ gl:=⟨(165,⟨H.p,H.r,u3 Kb⟩),co H func165⟩
end F165
namespace F207
def H:Hd:=⟨[.agg [Si,Si,Si],Sq],[Ob 5],.d,kt [F200.k] false,[],f207⟩
def k:Kc P_ gl:=⟨(207,⟨H.p,H.r,u4 Nu⟩),co H func207⟩
end F207
namespace F166
def H:Hd:=⟨[.agg [Si,Si,Si]],[Ob 5],.d,kt [F207.k] false,[],f166⟩
def k:Kc P_ gl:=⟨(166,⟨H.p,H.r,u3 BK⟩),co H func166⟩
end F166
namespace F167
def H:Hd:=⟨[.agg [Si,Si,Si],Su],[Ob 5],.d,kt [F200.k,F207.k] false,[],f167⟩
def k:Kc P_ gl:=⟨(167,⟨H.p,H.r,u4 Zd⟩),co H func167⟩
end F167
namespace F118
def Vv(j3:LB->UInt64->UInt64->UInt64->Option (Int×Int×Int×Int))(a:LB):Option (Int×Int×Int×Int):=
if((Bm (Ac a) 16)&&(Bm (Ac a) 40))then
some (0,0,0,12)
else
(Cr a 2 4).bind λm=>
(Cr a 4 8).bind λk=>
(Cr a 14 16).bind λh=>
both (
(Ax m).bind λg=>
both (
(Ax k).bind λf=>
both (
(Ax h).bind λb=>
bo (
j3 a g b f)) [
(Ax h).bind λb=>
j3 a g b f]) [
(Ax k).bind λf=>
(Ax h).bind λb=>
j3 a g b f]) [
(Ax m).bind λg=>
(Ax k).bind λf=>
(Ax h).bind λb=>
j3 a g b f]
theorem UF: @Vv= @Pj:=by
  unfold Vv Pj
  repeat (refine funext λ_=>?_)
  repeat' first
    |with_reducible rfl
    |with_reducible refine Mh ?_ ?_
    |with_reducible refine Lz ?_ ?_ ?_
    |with_reducible refine Mk ?_ ?_ ?_ ?_
    |((with_reducible refine Qz ?_ ?_);focus (intro h;first|(subst h;rfl)|(simp only[h];rfl)|(simp[Br,Ac,h];done)))
    |with_reducible refine Qj λx=>?_
    |with_reducible refine Yw (λ_=>?_) (λ_=>?_)
    |(refine Gn (λh=>by simp only[h,Qt,Dz,Dt,ite_self]) (λx h=>?_);(try simp only[h,Dz]))
    |(refine Jk (λh=>?_) (λh=>?_)<;>simp only[h,if_true,if_false,Bool.false_eq_true])
abbrev R_:=(Int×Int×Int×Int)
def H:Hd:=⟨[Sb],[.agg [Si,Si,Si],Si],(.seq .d (.seq .d (.cut [0,2,4] [] .d (.seq .d (.seq .d (.cut [0,2,4,5] [] .d .d)))))),kt [F163.k,F165.k,F166.k,F167.k] false,[],f118⟩
def k:Kc P_ gl:=⟨(118,⟨H.p,H.r,Qa⟩),co H func118 (λx=>Eq.trans (b:=Vv Fv x) F4 (by simp only[UF]<;>rfl))⟩
end F118
namespace F68
abbrev R_:=(Int×Int×Int×LX×Int)
abbrev K_:=S->Option R_
def H:Hd:=⟨[Sb],[.agg [Si,Si,Si,Ow 21],Si],(.seq .d (.seq .d (.seq .d (.seq .d (.seq .d (.seq .d (.seq .d (.seq .d (.seq .d (.seq .d (.seq .d (.seq .d (.seq .d (.seq .d (.seq .d (.cut [2,13] [] (.seq .d (.blk (.loop [2,11,12,13,14,15] [⟨13,[3],.own 21 (.int .i32)⟩] (.seq .d (.seq (.blk (.cut [2,11,12,13,14,15,16] [] .d .d)) .d))))) .d)))))))))))))))),kt [F63.k,F116.k,F117.k,F118.k,F119.k] false,[],f68⟩
def t7(g:LB×LB×Unit)(a b f k:Int)(h:LX):S:=⟨[(2,.ptr 0 []),(11,.ptr 1 []),(12,vb g.2.1),(13,.ptr 2 []),(14,vi (Ay a (8:Int))),(15,vi k)],[.box 69 (.agg [vi 0,vi 0,vi 0,.nils]),.box 172 (.agg [vi b,vi a,vi f]),.box 69 (.agg [vi b,vi a,vi f,.own 3]),Aw 21 h],[]⟩
def z7:Nat->S->Option R_:=H.i P_ [r,r,r,r,r,r,r,r,r,r,r,r,r,r,r,l,r,d]
theorem i7(g:LB×LB×Unit)(a b f:Int):∀(q:Nat) (k:Int) (h:LX),z7 q (t7 g a b f k h)=Ft g a b f q k h:=
 ind (λ_ _=>by kernel_rfl) λq ih k h=>Eq.trans (b:=Pv (Wa (λk h=>(z7 q) (t7 g a b f k h)) g a b f) Jv g a b f k h) F4 (by simp only[ih]<;>rfl)
def k:Kc P_ gl:=⟨(68,⟨H.p,H.r,Wb⟩),co H func68 (λx=>Eq.trans (b:=Xh (λg a b f k h=>z7 Ch (t7 g a b f k h)) x) F4 (by simp only[i7,Ao]<;>rfl))⟩
end F68
namespace F31
def H:Hd:=⟨[Sb,Ss],[Ob 5,Si],.d,kt [F29.k,F68.k] false,[],f31⟩
def k:Kc P_ gl:=⟨(31,⟨H.p,H.r,u2 Kx⟩),co H func31⟩
end F31
namespace F6
def H:Hd:=⟨[.agg [Si,Si,Si,Sw],Ss,Sb],[Sz],.d,kt [F28.k,F29.k,F30.k,F31.k] false,[],f6⟩
def k:Kc P_ gl:=⟨(6,⟨H.p,H.r,u6 Mr⟩),co H func6⟩
end F6
end
end Go.Proofs.YtehlnpncgkmoaaaGreatDoor
