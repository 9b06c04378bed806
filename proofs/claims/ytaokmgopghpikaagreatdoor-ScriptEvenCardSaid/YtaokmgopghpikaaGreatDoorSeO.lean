/- A part of a proof (see the text that ends in Proof). No conditions. -/
import Derived.Test.YtaokmgopghpikaaGreatDoorSeHA
set_option linter.unusedVariables false
set_option linter.unusedSimpArgs false
set_option maxRecDepth 10000
namespace Go.Proofs.YtaokmgopghpikaaGreatDoor
open Go Go.Lv Go.Pl Go.Rx Go.Rx.PS
noncomputable section
def g0:List Value:=[.bool true,.int .i64 0]
def g1:List Value:=[.int .i64 2,.int .i64 2,.int .i64 2,.int .i64 4,.int .i64 4]
def g2:List Value:=[.bool false,.int .i64 0]
def g7:List Value:=[.int .u8 0,.int .u8 1,.int .u8 56,.int .u8 2,.int .u8 57,.int .u8 49,.int .u8 28,.int .u8 3,.int .u8 61,.int .u8 58,.int .u8 42,.int .u8 50,.int .u8 38,.int .u8 29,.int .u8 17,.int .u8 4,.int .u8 62,.int .u8 47,.int .u8 59,.int .u8 36,.int .u8 45,.int .u8 43,.int .u8 51,.int .u8 22,.int .u8 53,.int .u8 39,.int .u8 33,.int .u8 30,.int .u8 24,.int .u8 18,.int .u8 12,.int .u8 5,.int .u8 63,.int .u8 55,.int .u8 48,.int .u8 27,.int .u8 60,.int .u8 41,.int .u8 37,.int .u8 16,.int .u8 46,.int .u8 35,.int .u8 44,.int .u8 21,.int .u8 52,.int .u8 32,.int .u8 23,.int .u8 11,.int .u8 54,.int .u8 26,.int .u8 40,.int .u8 15,.int .u8 34,.int .u8 20,.int .u8 31,.int .u8 10,.int .u8 25,.int .u8 14,.int .u8 19,.int .u8 9,.int .u8 13,.int .u8 8,.int .u8 7,.int .u8 6]
def gl:List (Nat×List Value):=[(0,g0),(1,g1),(2,g2),(7,g7)]
theorem mixed:Tryz.prog.follows .mixedOrders=true:=F5
noncomputable abbrev P_:=Tryz.prog
noncomputable def kt(l:List (Kc P_ gl))(v:Bool)(c:Bool:=false):=yL l v c
theorem co(H:Hd){f:Nat}{F:RP (AZ H.p)->Option (RP (AZ H.r))}(hf:P_.funcs[f]? =some H.f)(h:∀x,H.u P_ x=F x:=by intro x;kernel_rfl)(hT:gE P_ H.T:=by exact tO _ _ _)(hb:okA P_ H=true:=by kernel_rfl):ConOk P_ H.T.gl f ⟨H.p,H.r,F⟩:=Hd.cn mixed H hf hT hb h
def kk_(f:Nat)(H:Hd)(F:RP (AZ H.p)->Option (RP (AZ H.r)))(hf:P_.funcs[f]? =some H.f)(h:∀x,H.u P_ x=F x:=by intro x;kernel_rfl)(hT:gE P_ H.T:=by exact tO _ _ _)(hb:okA P_ H=true:=by kernel_rfl):Kc P_ H.T.gl:=⟨(f,⟨H.p,H.r,F⟩),Hd.cn mixed H hf hT hb h⟩
abbrev KC_:=Kc P_ gl
abbrev hd_(p r:List Sh)(a:An)(l:List KC_)(f:Func)(v:Bool:=false)(s:List (Nat×An):=[]):Hd:=⟨p,r,a,kt l v,s,f⟩
abbrev ZT_(R:Type):=Nat->S->Option R
theorem ent98:Ent Tryz.prog 98:=Ent.mk Tryz.func98 F5 rfl
abbrev u2{A B R:Type}(f:A->B->R)(x:A×B):=f x.1 x.2
abbrev u3{A B C R:Type}(f:A->B->C->R):=u2 λa=>u2 (f a)
abbrev u4{A B C D R:Type}(f:A->B->C->D->R):=u2 λa=>u3 (f a)
abbrev u5{A B C D E R:Type}(f:A->B->C->D->E->R):=u2 λa=>u4 (f a)
abbrev u6{A B C D E F R:Type}(f:A->B->C->D->E->F->R):=u2 λa=>u5 (f a)
abbrev u7{A B C D E F G R:Type}(f:A->B->C->D->E->F->G->R):=u2 λa=>u6 (f a)
abbrev u8{A B C D E F G H R:Type}(f:A->B->C->D->E->F->G->H->R):=u2 λa=>u7 (f a)
abbrev u9{A B C D E F G H I R:Type}(f:A->B->C->D->E->F->G->H->I->R):=u2 λa=>u8 (f a)
abbrev u10{A B C D E F G H I J R:Type}(f:A->B->C->D->E->F->G->H->I->J->R):=u2 λa=>u9 (f a)
abbrev u11{A B C D E F G H I J K R:Type}(f:A->B->C->D->E->F->G->H->I->J->K->R):=u2 λa=>u10 (f a)
abbrev u12{A B C D E F G H I J K L R:Type}(f:A->B->C->D->E->F->G->H->I->J->K->L->R):=u2 λa=>u11 (f a)
abbrev u13{A B C D E F G H I J K L M R:Type}(f:A->B->C->D->E->F->G->H->I->J->K->L->M->R):=u2 λa=>u12 (f a)
open Go.Proofs.Tryz
namespace F21
def H:=hd_ [] [.agg [Si,Si]] .d [] f21
def k:KC_:=kk_ 21 H (λ_=>Qg) func21
end F21
namespace F67
abbrev R_:=Bool
def H:=hd_ [.agg [Sc,Si]] [Sz] (.q (.seq (.q (.blk (.cut [1,4,5] [] .d .d))) .d)) [] f67
def k:KC_:=kk_ 67 H (u2 eY) func67
end F67
namespace F66
def H:=hd_ [.agg [Sc,Si]] [Sz] .d [F67.k] f66
def k:KC_:=kk_ 66 H (u2 HY) func66
end F66
namespace F25
abbrev R_:=Int
abbrev K_:=S->Option R_
def H:=hd_ [.lf (.list (.cons (.int .u8) (.cons (.int .i64) .nil))) none] [Si] (.q (.q (.cut [] [] (.cut [7] [] (.keep [7] true) .d) .d))) [F66.k] f25 false [(65,(.q (.cut [4] [] (.keep [4,7,8] true) .d))),(118,(.q (.cut [] [] (.q (.blk (.loop [0,1,7,8] [] (.q (.q (.cut [0,1,7,8] [] (.blk (.q (.cut [0,1,5,7,8,16] [] .d .d))) .d)))))) .d)))]
def t11(a:List (UInt8×Int×Unit))(b:Int):S:=⟨[(0,.val (.list (.cons (.int .u8) (.cons (.int .i64) .nil))) a),(1,.fn 66 []),(7,vi (Ac a)),(8,vi b)],[],[[(4,vt false)],[]]⟩
def z11:ZT_ R_:=H.i P_ [r,r,l,l,(call 1 65),r,l,(call 2 118),r,l,r,d]
theorem i11(a:List (UInt8×Int×Unit)):∀(q:Nat) (b:Int),z11 q (t11 a b)=Nr a q b:=
 ind (λ_=>by kernel_rfl) λq ih b=>Eq.trans (b:=Zl (LD (λb=>(z11 q) (t11 a b)) a) Ahr a b) F5 (by simp only[ih]<;>rfl)
def k:KC_:=kk_ 25 H Zm func25 (λx=>Eq.trans (b:=QO (λa b=>z11 Du (t11 a b)) x) F5 (by simp only[i11,Bg]<;>rfl))
end F25
namespace F113
def H:=hd_ [Si] [Si,Si] .d [] f113
def k:KC_:=kk_ 113 H Tq func113
end F113
namespace F115
abbrev R_:=(Int32×Int32×Int)
def H:=hd_ [Si] [Sx,Sx,Si] (.q (.seq (.q (.blk (.cut [0,7] [] .d .d))) .d)) [] f115
def k:KC_:=kk_ 115 H Yt func115
end F115
namespace F114
def H:=hd_ [.agg [Si,Si]] [Si] .d [F115.k] f114
def k:KC_:=kk_ 114 H (u2 Nk) func114
end F114
namespace F55
def H:=hd_ [.agg [Si,Si],Si,Ss] [Si,Sz] .d [F113.k,F114.k] f55
def k:KC_:=kk_ 55 H (u4 CA) func55
end F55
namespace F22
def H:=hd_ [.agg [Si,Si],Si,Ss] [.agg [.agg [Si,Si],Si,Ss,Ob 5,Ow 21,.lf (.list (.list (.int .u8))) (some 22),Ob 5,Sz,Si],Si] .d [F55.k] f22
def k:KC_:=kk_ 22 H (u4 FF) func22
end F22
namespace F57
def H:=hd_ [.agg [Si,Si]] [Si] .d [] f57
def k:KC_:=kk_ 57 H (u2 GN) func57
end F57
namespace F139
abbrev R_:=Int
def H:=hd_ [Si,Sw] [Si] (.q (.q (.q (.q (.cut [] [] (.q (.blk (.loop [5,6,22,23,24] [] .d))) .d))))) [F115.k] f139
def t4(b f:Int32)(a:LX)(g:Int):S:=⟨[(5,vx b),(6,vx f),(22,vw a),(23,vi (Ac a)),(24,vi g)],[],[]⟩
def z4:ZT_ R_:=H.i P_ [r,r,r,r,l,r,d]
theorem i4(b f:Int32)(a:LX):∀(q:Nat) (g:Int),z4 q (t4 b f a g)=Sa b f a q g:=
 ind (λ_=>by kernel_rfl) λq ih g=>Eq.trans (b:=GF Ap7 (λg=>(z4 q) (t4 b f a g)) b f a g) F5 (by simp only[ih]<;>rfl)
def k:KC_:=kk_ 139 H (u2 Tn) func139 (λx=>Eq.trans (b:=u2 (VE (λb f a g=>z4 Du (t4 b f a g))) x) F5 (by simp only[i4,Bg]<;>rfl))
end F139
namespace F60
def H:=hd_ [.agg [.agg [Si,Si],Si,Ss,Sb,Sw,.lf (.list (.list (.int .u8))) none,Sb,Sz,Si],Si] [Si] .d [] f60
def k:KC_:=kk_ 60 H (u11 Vf) func60
end F60
namespace F59
def H:=hd_ [.agg [.agg [Si,Si],Si,Ss,Sb,Sw,.lf (.list (.list (.int .u8))) none,Sb,Sz,Si],Si,Si] [Sz] .d [] f59
def k:KC_:=kk_ 59 H (u12 Uq) func59
end F59
namespace F159
abbrev R_:=Bool
abbrev K_:=S->Option R_
def H:=hd_ [.agg [.agg [Si,Si],Si,Ss,Sb,Sw,.lf (.list (.list (.int .u8))) none,Sb,Sz,Si],Si] [Sz] (.q (.q (.cut [1,2,5] [] .d (.q (.q (.cut [1,2,5,6] [] .d (.cut [1,2,5] [] .d (.q (.cut [4] [] (.keep [4,80,81] true) .d))))))))) [F57.k,F59.k,F60.k,F139.k] f159 false [(195,(.q (.cut [4] [] (.keep [4,7,8] true) .d))),(196,.d),(219,(.q (.cut [] [] (.q (.blk (.loop [0,1,7,8] [] (.q (.q (.cut [0,1,7,8] [] (.blk (.q (.cut [0,1,5,7,8,16] [] (.keep [0,1,5,7,8,16] true) .d))) .d)))))) .d)))]
def t16(b:List LB)(f a h:Int):S:=⟨[(0,.val (.list (.list (.int .u8))) b),(1,.fn 196 [.ptr 0 []]),(7,vi (Ac b)),(8,vi h)],[.box 3 (vi (Ae (Ci (Ae (Br (Br (81:Int) f) a) (7:Int)) (8:Int)) (4:Int)))],[[(4,vt false)],[]]⟩
def z16:ZT_ R_:=H.i P_ [r,r,r,r,r,r,r,r,l,(call 3 195),r,l,(call 2 219),r,l,r,d]
def x13(f a k o:Int)(p m:LB)(g:LX)(b:List LB)(n:LB)(u:Bool)(v:Int):Option R_:=H.e P_ [r,r,r] ⟨[(1,vi f),(2,.ptr 0 []),(5,vi a)],[.box 60 (.agg [.agg [vi a,vi k],vi o,vs p,vb m,vw g,.val (.list (.list (.int .u8))) b,vb n,vt u,vi v])],[]⟩
theorem i16(b:List LB)(f a:Int):∀(q:Nat) (h:Int),z16 q (t16 b f a h)=Ka b f a q h:=
 ind (λ_=>by kernel_rfl) λq ih h=>Eq.trans (b:=Rl (AJ (λh=>(z16 q) (t16 b f a h)) b f a) Aaq b f a h) F5 (by simp only[ih]<;>rfl)
theorem e13:x13=AO:=Eq.trans (b:=AW (Ri (Rh (λb f a h=>z16 Du (t16 b f a h))))) F5 (by simp only[i16,Bg]<;>rfl)
def k:KC_:=kk_ 159 H (u11 CT) func159 (λx=>Eq.trans (b:=u11 (DJ x13) x) F5 (by simp only[e13]<;>rfl))
end F159
namespace F107
def H:=hd_ [.agg [.agg [Si,Si],Si,Ss,Sb,Sw,.lf (.list (.list (.int .u8))) none,Sb,Sz,Si]] [Si] .d [F55.k,F159.k] f107
def k:KC_:=kk_ 107 H (u10 Nj) func107
end F107
namespace F109
def Oi(a:LB):Option (LB):=
C5 a (
some ([]:LB)) (
(Da ([]:LB) a).bind λb=>
some b)
theorem Ax5: @Oi= @Bm:=by
  unfold Oi Bm
  repeat (refine funext λ_=>?_)
  repeat' first
    |with_reducible rfl
    |with_reducible refine Ky ?_ ?_
    |with_reducible refine Kr ?_ ?_ ?_
    |with_reducible refine La ?_ ?_ ?_ ?_
    |((with_reducible refine Pj ?_ ?_);focus (intro h;first|(subst h;rfl)|(simp only[h];rfl)|(simp[Da,Ac,h];done)))
    |with_reducible refine Pa λx=>?_
    |with_reducible refine Vt (λ_=>?_) (λ_=>?_)
    |(refine Fq (λh=>by simp only[h,Pg,Ec,Ea,ite_self]) (λx h=>?_);(try simp only[h,Ec]))
    |(refine Hv (λh=>?_) (λh=>?_)<;>simp only[h,if_true,if_false,Bool.false_eq_true])
def H:=hd_ [Sb] [Ob 5] .d [] f109
def k:KC_:=kk_ 109 H Bm func109 (λx=>Eq.trans (b:=Oi x) F5 (by simp only[Ax5]<;>rfl))
end F109
namespace F160
def Mg(a:LX):Option (LX):=
C5 a (
some ([]:LX)) (
(Da ([]:LX) a).bind λb=>
some b)
theorem Awy: @Mg= @Dd:=by
  unfold Mg Dd
  repeat (refine funext λ_=>?_)
  repeat' first
    |with_reducible rfl
    |with_reducible refine Ky ?_ ?_
    |with_reducible refine Kr ?_ ?_ ?_
    |with_reducible refine La ?_ ?_ ?_ ?_
    |((with_reducible refine Pj ?_ ?_);focus (intro h;first|(subst h;rfl)|(simp only[h];rfl)|(simp[Da,Ac,h];done)))
    |with_reducible refine Pa λx=>?_
    |with_reducible refine Vt (λ_=>?_) (λ_=>?_)
    |(refine Fq (λh=>by simp only[h,Pg,Ec,Ea,ite_self]) (λx h=>?_);(try simp only[h,Ec]))
    |(refine Hv (λh=>?_) (λh=>?_)<;>simp only[h,if_true,if_false,Bool.false_eq_true])
def H:=hd_ [Sw] [Ow 21] .d [] f160
def k:KC_:=kk_ 160 H Dd func160 (λx=>Eq.trans (b:=Mg x) F5 (by simp only[Awy]<;>rfl))
end F160
namespace F108
abbrev R_:=(Int×Int×Int×LB×LB×LX×(List LB)×LB×Bool×Int)
def H:=hd_ [.agg [.agg [Si,Si],Si,Ss,Sb,Sw,.lf (.list (.list (.int .u8))) none,Sb,Sz,Si]] [.agg [.agg [Si,Si],Si,Ss,Ob 5,Ow 21,.lf (.list (.list (.int .u8))) (some 22),Ob 5,Sz,Si]] (.q (.cut [1,2] [] .d (.q (.q (.cut [1,2,3] [] (.q (.blk (.loop [1,2,3,26,27] [] .d))) .d))))) [F109.k,F160.k] f108
def t6(w a:List LB)(b f g:Int)(h:LB)(k:Bool)(m:Int)(n:LB)(o:LX)(p:LB)(v:Int)(u:List LB):S:=⟨[(1,.ptr 0 []),(2,.ptr 1 []),(3,.own 2),(26,vi (Ac (PM w a))),(27,vi v)],[.box 60 (.agg [.agg [vi b,vi f],vi g,vs h,.own 3,.own 4,.val (.list (.list (.int .u8))) a,.own 5,vt k,vi m]),.box 60 (.agg [.agg [vi 0,vi 0],vi 0,vs ([]:LB),.nils,.nils,.nils,.nils,vt false,vi 0]),.arr 22 (.list (.int .u8)) u,Ab 5 n,Aw 21 o,Ab 5 p],[]⟩
def z6:ZT_ R_:=H.i P_ [r,r,r,r,l,r,d]
theorem i6(w a:List LB)(b f g:Int)(h:LB)(k:Bool)(m:Int)(n:LB)(o:LX)(p:LB):∀(q:Nat) (v:Int) (u:List LB),z6 q (t6 w a b f g h k m n o p v u)=Qb w a b f g h k m n o p q v u:=
 ind (λ_ _=>by kernel_rfl) λq ih v u=>Eq.trans (b:=DA Aju (λv u=>(z6 q) (t6 w a b f g h k m n o p v u)) w a b f g h k m n o p v u) F5 (by simp only[ih]<;>rfl)
def k:KC_:=kk_ 108 H (u10 HZ) func108 (λx=>Eq.trans (b:=u10 (QB (QM (λw a b f g h k m n o p v u=>z6 Du (t6 w a b f g h k m n o p v u)))) x) F5 (by simp only[i6,Bg]<;>rfl))
end F108
namespace F56
abbrev R_:=(Int×Int×Int×LB×LB×LX×(List LB)×LB×Bool×Int×Int×Int)
def H:=hd_ [.agg [.agg [Si,Si],Si,Ss,Sb,Sw,.lf (.list (.list (.int .u8))) none,Sb,Sz,Si]] [.agg [.agg [Si,Si],Si,Ss,Ob 5,Ow 21,.lf (.list (.list (.int .u8))) (some 22),Ob 5,Sz,Si],Si,Si] (.q (.q (.q (.cut [1,2,6,7] [] .d .d)))) [F107.k,F108.k,F113.k] f56
def k:KC_:=kk_ 56 H (u10 Qz) func56
end F56
namespace F61
abbrev R_:=(LX×Int)
abbrev K_:=S->Option R_
def H:=hd_ [Si,Sb] [Ow 21,Si] (.q (.q (.q (.q (.q (.q (.cut [10] [] (.q (.blk (.loop [0,1,9,10,11] [⟨10,[],.own 21 (.int .i32)⟩] (.q (.cut [0,1,9,10,11] [] (.blk (.q (.q (.cut [0,1,9,10,11,12] [] (.q (.blk (.loop [0,1,9,10,11,12,53,54] [] .d))) .d)))) .d))))) .d))))))) [F115.k] f61
def t25(a:Int)(b:LB)(f:Int)(g:LX)(k:Int32)(h:Int):S:=⟨[(0,vi a),(1,vb b),(9,vi (Ci a (8:Int))),(10,.own 0),(11,vi f),(12,vx k),(53,vi (Ci a (8:Int))),(54,vi h)],[Aw 21 g],[]⟩
def z25(Mn:K_):ZT_ R_:=H.i P_ [r,r,r,r,r,r,l,r,d,(lp Mn),r,l,d,r,r,l,r,d]
def t16(a:Int)(b:LB)(f:Int)(g:LX):S:=⟨[(0,vi a),(1,vb b),(9,vi (Ci a (8:Int))),(10,.own 0),(11,vi f)],[Aw 21 g],[]⟩
def z16:ZT_ R_:=H.i P_ [r,r,r,r,r,r,l,r,d]
def x25(Mn:K_)(a:Int)(b:LB)(f:Int)(g:LX)(k:Int32)(h:Int):Option R_:=H.e P_ [r,r,r,r,r,r,l,r,d,(lp Mn),r,l,d,r,r,l,r,d] (t25 a b f g k h)
theorem i25(Mn:K_)(a:Int)(b:LB)(f:Int)(g:LX):∀(q:Nat) (k:Int32) (h:Int),z25 Mn q (t25 a b f g k h)=Et (λf g=>Mn (t16 a b f g)) a b f g q k h:=
 ind (λ_ _=>by kernel_rfl) λq ih k h=>Eq.trans (b:=Fz (Ww (λf g=>Mn (t16 a b f g)) a b) (λk h=>(z25 Mn q) (t25 a b f g k h)) a b f g k h) F5 (by simp only[ih]<;>rfl)
theorem e25(Mn:K_)(a:Int)(b:LB):x25 Mn a b=Me (λf g=>Mn (t16 a b f g)) a b:=by funext f g k h;exact Eq.trans F5 ((i25 Mn a b f g Du k h).trans (by rw[Bg];rfl))
theorem i16(a:Int)(b:LB):∀(q:Nat) (f:Int) (g:LX),z16 q (t16 a b f g)=Eh a b q f g:=
 ind (λ_ _=>by kernel_rfl) λq ih f g=>Eq.trans (b:=Gh (Ji (λf g=>(z16 q) (t16 a b f g)) a b) (x25 (z16 q) a b) Aec a b f g) F5 (by simp only[e25,ih]<;>rfl)
def k:KC_:=kk_ 61 H (u2 MU) func61 (λx=>Eq.trans (b:=u2 (MI (λa b f g=>z16 Du (t16 a b f g))) x) F5 (by simp only[i16,Bg]<;>rfl))
end F61
namespace F166
abbrev R_:=(UInt64×Int)
abbrev K_:=S->Option R_
def H:=hd_ [Sq,Sb] [Sq,Si] (.q (.q (.cut [4,5] [] (.keep [0,1,4,5,9,10,11,12] true) .d))) [] f166 false [(200,(.q (.cut [1] [] (.q (.blk (.loop [0,1,9,10,11] [] .d))) .d))),(201,(.q (.q (.cut [1] [] (.q (.blk (.loop [1,5] [] (.q (.q (.cut [1,5] [] (.blk (.q (.q (.cut [1,2,3,5] [] (.q (.blk (.loop [1,2,3,5,11] [] .d))) .d)))) .d)))))) .d))))]
def t27(a:LB)(b:UInt64)(f:LQ)(h:UInt64)(m:Int):S:=⟨[(0,.ptr 0 []),(1,vq h),(9,vb a),(10,vi (Ac a)),(11,vi m)],[.box 340 (.val (.vec 256 (.int .u64)) f)],[[(0,vq b),(1,vb a),(4,vq 0),(5,vi 0),(9,.ptr 0 []),(10,vq b),(11,vb a)]]⟩
def z27:ZT_ R_:=H.i P_ [r,r,l,(call 3 200),r,l,r,d]
def t21(b:UInt64)(a:LB)(g:Int)(f:LQ)(k:UInt64)(n:Int):S:=⟨[(1,.ptr 0 []),(2,vi g),(3,vq k),(5,vi g),(11,vi n)],[.box 340 (.val (.vec 256 (.int .u64)) f)],[[(0,vq b),(1,vb a),(4,vq 0),(5,vi 0)]]⟩
def z21(Mn:K_):ZT_ R_:=H.i P_ [r,r,l,(call 0 201),r,r,l,r,d,(lp Mn),r,r,l,d,r,r,l,r,d]
def t16(b:UInt64)(a:LB)(g:Int)(f:LQ):S:=⟨[(1,.ptr 0 []),(5,vi g)],[.box 340 (.val (.vec 256 (.int .u64)) f)],[[(0,vq b),(1,vb a),(4,vq 0),(5,vi 0)]]⟩
def z16:ZT_ R_:=H.i P_ [r,r,l,(call 0 201),r,r,l,r,d]
def x27(a:LB)(b:UInt64)(f:LQ)(h:UInt64)(m:Int):Option R_:=H.e P_ [r,r,l,(call 3 200),r,l,r,d] (t27 a b f h m)
def x21(Mn:K_)(b:UInt64)(a:LB)(g:Int)(f:LQ)(k:UInt64)(n:Int):Option R_:=H.e P_ [r,r,l,(call 0 201),r,r,l,r,d,(lp Mn),r,r,l,d,r,r,l,r,d] (t21 b a g f k n)
theorem i27(a:LB)(b:UInt64)(f:LQ):∀(q:Nat) (h:UInt64) (m:Int),z27 q (t27 a b f h m)=Sj a b f q h m:=
 ind (λ_ _=>by kernel_rfl) λq ih h m=>Eq.trans (b:=HH VD (λh m=>(z27 q) (t27 a b f h m)) a b f h m) F5 (by simp only[ih]<;>rfl)
theorem e27:x27=UB:=by funext a b f h m;exact Eq.trans F5 ((i27 a b f Du h m).trans (by rw[Bg];rfl))
theorem i21(Mn:K_)(b:UInt64)(a:LB)(g:Int)(f:LQ):∀(q:Nat) (k:UInt64) (n:Int),z21 Mn q (t21 b a g f k n)=Ta (λg f=>Mn (t16 b a g f)) b a g f q k n:=
 ind (λ_ _=>by kernel_rfl) λq ih k n=>Eq.trans (b:=FX (GR (λg f=>Mn (t16 b a g f)) b a) (λk n=>(z21 Mn q) (t21 b a g f k n)) b a g f k n) F5 (by simp only[ih]<;>rfl)
theorem e21(Mn:K_)(b:UInt64)(a:LB):x21 Mn b a=WB (λg f=>Mn (t16 b a g f)) b a:=by funext g f k n;exact Eq.trans F5 ((i21 Mn b a g f Du k n).trans (by rw[Bg];rfl))
theorem i16(b:UInt64)(a:LB):∀(q:Nat) (g:Int) (f:LQ),z16 q (t16 b a g f)=Oo b a q g f:=
 ind (λ_ _=>by kernel_rfl) λq ih g f=>Eq.trans (b:=HJ (x21 (z16 q) b a) (TS x27) b a g f) F5 (by simp only[e21,e27,ih]<;>rfl)
def k:KC_:=kk_ 166 H (u2 fB) func166 (λx=>Eq.trans (b:=u2 (ZX (λb a g f=>z16 Du (t16 b a g f))) x) F5 (by simp only[i16,Bg]<;>rfl))
end F166
namespace F129
def H:=hd_ [Sb] [Sq,Si] .d [F166.k] f129
def k:KC_:=kk_ 129 H bI func129
end F129
namespace F130
abbrev R_:=LX
def H:=hd_ [Sq] [.lf (.vec 16 (.int .i32)) none] (.q (.q (.cut [2,3] [] (.q (.blk (.loop [0,2,3,5] [] .d))) .d))) [] f130
def t4(f:UInt64)(a:Int)(b:LX):S:=⟨[(0,vq f),(2,.ptr 0 []),(3,.ptr 1 []),(5,vi a)],[.box 149 (.val (.vec 16 (.int .i32)) (List.replicate 16 (0:Int32))),.box 149 (.val (.vec 16 (.int .i32)) b)],[]⟩
def z4:ZT_ R_:=H.i P_ [r,r,l,r,d]
theorem i4(f:UInt64):∀(q:Nat) (a:Int) (b:LX),z4 q (t4 f a b)=MJ f q a b:=
 ind (λ_ _=>by kernel_rfl) λq ih a b=>Eq.trans (b:=fT I0 (λa b=>(z4 q) (t4 f a b)) f a b) F5 (by simp only[ih]<;>rfl)
def k:KC_:=kk_ 130 H qj func130 (λx=>Eq.trans (b:=P6 (λf a b=>z4 Du (t4 f a b)) x) F5 (by simp only[i4,Bg]<;>rfl))
end F130
namespace F80
def H:=hd_ [Ss] [.lf (.vec 16 (.int .i32)) none,Si] .d [F129.k,F130.k] f80
def k:KC_:=kk_ 80 H Vm func80
end F80
namespace F182
def H:=hd_ [.agg [Si,Si],Sw] [Si] .d [F114.k,F139.k] f182
def k:KC_:=kk_ 182 H (u3 MT) func182
end F182
namespace F208
def H:=hd_ [Si,Sw] [Si] .d [] f208
def k:KC_:=kk_ 208 H (u2 bX) func208
end F208
namespace F183
abbrev R_:=(LX×Int)
abbrev K_:=S->Option R_
def H:=hd_ [Si,Sw] [Ow 21,Si] (.q (.q (.q (.cut [7] [] (.q (.blk (.loop [0,7,8] [] (.q (.cut [0,7,8] [] (.blk (.keep [0,7,8,24,25,26,27,28,29] true)) .d))))) .d)))) [F160.k,F208.k] f183 true [(211,(.q (.cut [0,2] [] (.q (.blk (.loop [0,2,7,8] [] .d))) .d)))]
def t17(b a f:Int)(g:LX):S:=⟨[(0,.view true 0 [] (.int .i32) a ((Ae a b)-a)),(2,vi (Am ((Ae a b)-a) (1:Int))),(7,vi (Am ((Ae a b)-a) (1:Int))),(8,vi f)],[Aw 21 g],[[(0,vi b),(7,.own 0),(8,vi a),(24,.own 0),(25,vi a),(26,vi a),(27,vi b),(28,vi (Ae a b)),(29,.view true 0 [] (.int .i32) a ((Ae a b)-a))]]⟩
def z17(RB:K_):ZT_ R_:=H.i P_ [r,r,r,l,r,d,(lp RB),r,l,d,(call 6 211),r,l,r,d]
def t12(b a:Int)(h:LX):S:=⟨[(0,vi b),(7,.own 0),(8,vi a)],[Aw 21 h],[]⟩
def z12:ZT_ R_:=H.i P_ [r,r,r,l,r,d]
def x17(RB:K_)(b a f:Int)(g:LX):Option R_:=H.e P_ [r,r,r,l,r,d,(lp RB),r,l,d,(call 6 211),r,l,r,d] (t17 b a f g)
theorem i17(RB:K_)(b a:Int):∀(q:Nat) (f:Int) (g:LX),z17 RB q (t17 b a f g)=FI (λa h=>RB (t12 b a h)) b a q f g:=
 ind (λ_ _=>by kernel_rfl) λq ih f g=>Eq.trans (b:=WW (jG (λa h=>RB (t12 b a h)) b) (λf g=>(z17 RB q) (t17 b a f g)) b a f g) F5 (by simp only[ih]<;>rfl)
theorem e17(RB:K_)(b:Int):x17 RB b=Av4 (λa h=>RB (t12 b a h)) b:=by funext a f g;exact Eq.trans F5 ((i17 RB b a Du f g).trans (by rw[Bg];rfl))
theorem i12(b:Int):∀(q:Nat) (a:Int) (h:LX),z12 q (t12 b a h)=FL b q a h:=
 ind (λ_ _=>by kernel_rfl) λq ih a h=>Eq.trans (b:=jN (x17 (z12 q) b) Aul b a h) F5 (by simp only[e17,ih]<;>rfl)
def k:KC_:=kk_ 183 H (u2 C4) func183 (λx=>Eq.trans (b:=u2 (qV (λb a h=>z12 Du (t12 b a h))) x) F5 (by simp only[i12,Bg]<;>rfl))
end F183
namespace F204
abbrev R_:=(Int×LX×LX×Int)
def H:=hd_ [Si,.lf (.vec 16 (.int .i32)) none] [.agg [Si,.lf (.vec 16 (.int .i32)) none,.lf (.vec 16 (.int .i32)) none],Si] (.q (.q (.seq (.q (.blk (.cut [4,6,9,11] [] .d .d))) .d))) [] f204
def k:KC_:=kk_ 204 H (u2 tY) func204
end F204
namespace F173
def H:=hd_ [Si,.lf (.vec 16 (.int .i32)) none] [.agg [Si,Sx,.agg [Si,.lf (.vec 16 (.int .i32)) none,.lf (.vec 16 (.int .i32)) none]],Si] .d [F204.k] f173
def k:KC_:=kk_ 173 H (u2 xP) func173
end F173
namespace F205
def H:=hd_ [.agg [Si,Sx,.agg [Si,.lf (.vec 16 (.int .i32)) none,.lf (.vec 16 (.int .i32)) none]]] [Si] .d [F204.k] f205
def k:KC_:=kk_ 205 H (u5 Xx) func205
end F205
namespace F229
def H:=hd_ [Si] [Si,Si] .d [] f229
def k:KC_:=kk_ 229 H kU func229
end F229
namespace F230
def H:=hd_ [Si,Sx] [Sx] .d [] f230
def k:KC_:=kk_ 230 H (u2 WZ) func230
end F230
namespace F206
def H:=hd_ [Si,Sx] [Sx,Si] .d [F229.k,F230.k] f206
def k:KC_:=kk_ 206 H (u2 Xz) func206
end F206
namespace F245
def H:=hd_ [.agg [Si,.lf (.vec 16 (.int .i32)) none,.lf (.vec 16 (.int .i32)) none]] [Si] .d [] f245
def k:KC_:=kk_ 245 H (u3 MG) func245
end F245
namespace F231
abbrev R_:=(Int32×Int)
def H:=hd_ [.agg [Si,.lf (.vec 16 (.int .i32)) none,.lf (.vec 16 (.int .i32)) none]] [Sx,Si] (.q (.q (.q (.cut [1,5] [] (.q (.blk (.loop [1,5,18,19] [] .d))) .d)))) [F245.k] f231
def t4(b:LX)(a:Int)(f:LX)(h:Int32)(g:Int):S:=⟨[(1,.ptr 0 []),(5,vx h),(18,.val (.vec 16 (.int .i32)) b),(19,vi g)],[.box 263 (.agg [vi a,.val (.vec 16 (.int .i32)) b,.val (.vec 16 (.int .i32)) f])],[]⟩
def z4:ZT_ R_:=H.i P_ [r,r,r,l,r,d]
theorem i4(b:LX)(a:Int)(f:LX):∀(q:Nat) (h:Int32) (g:Int),z4 q (t4 b a f h g)=Vl b a f q h g:=
 ind (λ_ _=>by kernel_rfl) λq ih h g=>Eq.trans (b:=MX ZN (λh g=>(z4 q) (t4 b a f h g)) b a f h g) F5 (by simp only[ih]<;>rfl)
def k:KC_:=kk_ 231 H (u3 UZ) func231 (λx=>Eq.trans (b:=u3 (ZK (λb a f h g=>z4 Du (t4 b a f h g))) x) F5 (by simp only[i4,Bg]<;>rfl))
end F231
namespace F252
def H:=hd_ [Si] [Sx] .d [] f252
def k:KC_:=kk_ 252 H bA func252
end F252
namespace F246
abbrev R_:=(Int×LX×LX×Int)
def H:=hd_ [.agg [Si,.lf (.vec 16 (.int .i32)) none,.lf (.vec 16 (.int .i32)) none],Sx] [.agg [Si,.lf (.vec 16 (.int .i32)) none,.lf (.vec 16 (.int .i32)) none],Si] (.q (.q (.q (.cut [2,4] [] (.q (.blk (.loop [1,2,4,19,20] [] .d))) .d)))) [F245.k,F252.k] f246
def t4(h:Int32)(f:LX)(g a:Int)(b:LX):S:=⟨[(1,vx h),(2,.ptr 0 []),(4,.ptr 1 []),(19,.val (.vec 16 (.int .i32)) f),(20,vi a)],[.box 263 (.agg [vi g,.val (.vec 16 (.int .i32)) b,.val (.vec 16 (.int .i32)) f]),.box 263 (.agg [vi 0,.val (.vec 16 (.int .i32)) (List.replicate 16 (0:Int32)),.val (.vec 16 (.int .i32)) (List.replicate 16 (0:Int32))])],[]⟩
def z4:ZT_ R_:=H.i P_ [r,r,r,l,r,d]
theorem i4(h:Int32)(f:LX)(g:Int):∀(q:Nat) (a:Int) (b:LX),z4 q (t4 h f g a b)=Ve h f g q a b:=
 ind (λ_ _=>by kernel_rfl) λq ih a b=>Eq.trans (b:=MY Arm (λa b=>(z4 q) (t4 h f g a b)) h f g a b) F5 (by simp only[ih]<;>rfl)
def k:KC_:=kk_ 246 H (u4 fU) func246 (λx=>Eq.trans (b:=u4 (ZV (λh f g a b=>z4 Du (t4 h f g a b))) x) F5 (by simp only[i4,Bg]<;>rfl))
end F246
namespace F247
def ZE(j2:Int32->Int->LX->LX->Option (Int×LX×LX×Int))(b:Int)(f a:LX)(g:Int32):Option (Int×LX×LX×Int):=
(MG b f a).bind λh=>
if(Bj h 0)then
some (0,(List.replicate 16 (0:Int32)),(List.replicate 16 (0:Int32)),h)
else
both (
(VA 16 1 16).bind λ_=>
(VA 16 0 16).bind λ_=>
j2 g b f a) [
(VA 16 0 16).bind λ_=>
(VA 16 1 16).bind λ_=>
j2 g b f a]
theorem Bbp: @ZE= @SS:=by
  unfold ZE SS
  repeat (refine funext λ_=>?_)
  repeat' first
    |with_reducible rfl
    |with_reducible refine Ky ?_ ?_
    |with_reducible refine Kr ?_ ?_ ?_
    |with_reducible refine La ?_ ?_ ?_ ?_
    |((with_reducible refine Pj ?_ ?_);focus (intro h;first|(subst h;rfl)|(simp only[h];rfl)|(simp[Da,Ac,h];done)))
    |with_reducible refine Pa λx=>?_
    |with_reducible refine Vt (λ_=>?_) (λ_=>?_)
    |(refine Fq (λh=>by simp only[h,Pg,Ec,Ea,ite_self]) (λx h=>?_);(try simp only[h,Ec]))
    |(refine Hv (λh=>?_) (λh=>?_)<;>simp only[h,if_true,if_false,Bool.false_eq_true])
abbrev R_:=(Int×LX×LX×Int)
def H:=hd_ [.agg [Si,.lf (.vec 16 (.int .i32)) none,.lf (.vec 16 (.int .i32)) none],Sx] [.agg [Si,.lf (.vec 16 (.int .i32)) none,.lf (.vec 16 (.int .i32)) none],Si] (.q (.q (.cut [1,2,4] [] .d .d))) [F245.k] f247
def k:KC_:=kk_ 247 H (u4 nY) func247 (λx=>Eq.trans (b:=u4 (ZE eV) x) F5 (by simp only[Bbp]<;>rfl))
end F247
namespace F232
def H:=hd_ [.agg [Si,.lf (.vec 16 (.int .i32)) none,.lf (.vec 16 (.int .i32)) none],Sx,Sx] [.agg [Si,.lf (.vec 16 (.int .i32)) none,.lf (.vec 16 (.int .i32)) none]] .d [F246.k,F247.k] f232
def k:KC_:=kk_ 232 H (u5 TV) func232
end F232
namespace F212
def H:=hd_ [.agg [Si,.lf (.vec 16 (.int .i32)) none,.lf (.vec 16 (.int .i32)) none],Sx] [Sx,.agg [Si,.lf (.vec 16 (.int .i32)) none,.lf (.vec 16 (.int .i32)) none],Si] .d [F231.k,F232.k] f212
def k:KC_:=kk_ 212 H (u4 ZC) func212
end F212
namespace F184
def JF(a:Int)(b:Int32)(f:Int)(g h:LX)(k:Int32):Option (Int32×Int×Int32×Int×LX×LX×Int):=
(Xx a b f g h).bind λm=>
if(Bj m 0)then
some (0,0,0,0,(List.replicate 16 (0:Int32)),(List.replicate 16 (0:Int32)),m)
else
(Xz a b).bind λ(n,y)=>
(ZC f g h (Am k n)).bind λ(o,p,u,v,w)=>
bo (
some (o,a,k,p,u,v,w))
theorem Azt: @JF= @Vd:=by
  unfold JF Vd;simp only[RZ,AH,BB]
def H:=hd_ [.agg [Si,Sx,.agg [Si,.lf (.vec 16 (.int .i32)) none,.lf (.vec 16 (.int .i32)) none]],Sx] [Sx,.agg [Si,Sx,.agg [Si,.lf (.vec 16 (.int .i32)) none,.lf (.vec 16 (.int .i32)) none]],Si] (.q (.q (.q (.q (.seq (.mode false) .d))))) [F205.k,F206.k,F212.k] f184
def k:KC_:=kk_ 184 H (u6 Vd) func184 (λx=>Eq.trans (b:=u6 JF x) F5 (by simp only[Azt]<;>rfl))
end F184
namespace F185
def H:=hd_ [Sx] [Su] .d [] f185
def k:KC_:=kk_ 185 H mX func185
end F185
namespace F142
abbrev R_:=(LU×Int)
def H:=hd_ [.agg [Si,Si],.lf (.vec 16 (.int .i32)) none,Sw] [Ov 163,Si] (.q (.q (.q (.q (.q (.cut [3,9,11] [] (.q (.blk (.loop [3,4,9,11,36] [] .d))) (.q (.cut [13] [] (.q (.blk (.loop [3,11,13,49,50,51] [⟨13,[],.own 163 (.int .u32)⟩] .d))) .d)))))))) [F173.k,F182.k,F183.k,F184.k,F185.k] f142
def t10(b:LX)(a f g:Int)(k:List (Int×Int32×(Int×LX×LX×Unit)×Unit))(h:LU):S:=⟨[(3,.ptr 0 []),(11,.ptr 1 []),(13,.own 2),(49,.own 3),(50,vi (Ac b)),(51,vi g)],[.box 57 (.agg [vi a,vi f]),.box 266 (.val (.vec 6 (.cons (.int .i64) (.cons (.int .i32) (.cons (.cons (.int .i64) (.cons (.vec 16 (.int .i32)) (.cons (.vec 16 (.int .i32)) .nil))) .nil)))) k),Av 163 h,Aw 21 b],[]⟩
def z10:ZT_ R_:=H.i P_ [r,r,r,r,r,r,r,l,r,d]
def t7(a f:Int)(n b:LX)(o:Int)(m:List (Int×Int32×(Int×LX×LX×Unit)×Unit)):S:=⟨[(3,.ptr 0 []),(4,.ptr 1 []),(9,.own 2),(11,.ptr 3 []),(36,vi o)],[.box 57 (.agg [vi a,vi f]),.box 149 (.val (.vec 16 (.int .i32)) n),Aw 21 b,.box 266 (.val (.vec 6 (.cons (.int .i64) (.cons (.int .i32) (.cons (.cons (.int .i64) (.cons (.vec 16 (.int .i32)) (.cons (.vec 16 (.int .i32)) .nil))) .nil)))) m)],[]⟩
def z7:ZT_ R_:=H.i P_ [r,r,r,r,r,l,r,d]
def x10(b:LX)(a f g:Int)(k:List (Int×Int32×(Int×LX×LX×Unit)×Unit))(h:LU):Option R_:=H.e P_ [r,r,r,r,r,r,r,l,r,d] (t10 b a f g k h)
theorem i10(b:LX)(a f:Int):∀(q:Nat) (g:Int) (k:List (Int×Int32×(Int×LX×LX×Unit)×Unit)) (h:LU),z10 q (t10 b a f g k h)=Li b a f q g k h:=
 ind (λ_ _ _=>by kernel_rfl) λq ih g k h=>Eq.trans (b:=Un Ad6 (λg k h=>(z10 q) (t10 b a f g k h)) b a f g k h) F5 (by simp only[ih]<;>rfl)
theorem e10:x10=Ac1:=by funext b a f g k h;exact Eq.trans F5 ((i10 b a f Du g k h).trans (by rw[Bg];rfl))
theorem i7(a f:Int)(n b:LX):∀(q:Nat) (o:Int) (m:List (Int×Int32×(Int×LX×LX×Unit)×Unit)),z7 q (t7 a f n b o m)=HK a f n b q o m:=
 ind (λ_ _=>by kernel_rfl) λq ih o m=>Eq.trans (b:=Adk (Ad8 x10) (λo m=>(z7 q) (t7 a f n b o m)) a f n b o m) F5 (by simp only[e10,ih]<;>rfl)
def k:KC_:=kk_ 142 H (u4 GX) func142 (λx=>Eq.trans (b:=u4 (GY (λa f n b o m=>z7 Du (t7 a f n b o m))) x) F5 (by simp only[i7,Bg]<;>rfl))
end F142
namespace F168
def H:=hd_ [] [.agg [Si,Si,Sq,Sq]] .d [] f168
def k:KC_:=kk_ 168 H (λ_=>rV) func168
end F168
namespace F143
abbrev R_:=((List (Int×Int×UInt64×UInt64×Unit)))
def H:=hd_ [] [.lf (.vec 6 (.cons (.int .i64) (.cons (.int .i64) (.cons (.int .u64) (.cons (.int .u64) .nil))))) none] (.q (.q (.cut [0,1] [] (.q (.blk (.loop [0,1,3] [] .d))) .d))) [F168.k] f143
def t4(b:Int)(a:List (Int×Int×UInt64×UInt64×Unit)):S:=⟨[(0,.ptr 0 []),(1,.ptr 1 []),(3,vi b)],[.box 223 (.val (.vec 6 (.cons (.int .i64) (.cons (.int .i64) (.cons (.int .u64) (.cons (.int .u64) .nil))))) (List.replicate 6 ((0:Int),(0:Int),(0:UInt64),(0:UInt64),()))),.box 223 (.val (.vec 6 (.cons (.int .i64) (.cons (.int .i64) (.cons (.int .u64) (.cons (.int .u64) .nil))))) a)],[]⟩
def z4:ZT_ R_:=H.i P_ [r,r,l,r,d]
theorem i4:∀(q:Nat) (b:Int) (a:List (Int×Int×UInt64×UInt64×Unit)),z4 q (t4 b a)=FQ q b a:=
 ind (λ_ _=>by kernel_rfl) λq ih b a=>Eq.trans (b:=Aeq Aek (λb a=>(z4 q) (t4 b a)) b a) F5 (by simp only[ih]<;>rfl)
def k:KC_:=kk_ 143 H (λ_=>HX) func143 (λx=>Eq.trans (b:=GP (λb a=>z4 Du (t4 b a))) F5 (by simp only[i4,Bg]<;>rfl))
end F143
namespace F171
def H:=hd_ [.agg [Sb,Si]] [Si] .d [] f171
def k:KC_:=kk_ 171 H (u2 Ju) func171
end F171
namespace F186
def UH(j4:Int->Int->UInt64->UInt64->Option Int)(a b:Int)(f g:UInt64):Option Int:=
both (
bo (
j4 a b f g)) [
j4 a b f g]
theorem Bat: @UH= @MS:=by
  unfold UH MS
  repeat (refine funext λ_=>?_)
  repeat' first
    |with_reducible rfl
    |with_reducible refine Ky ?_ ?_
    |with_reducible refine Kr ?_ ?_ ?_
    |with_reducible refine La ?_ ?_ ?_ ?_
    |((with_reducible refine Pj ?_ ?_);focus (intro h;first|(subst h;rfl)|(simp only[h];rfl)|(simp[Da,Ac,h];done)))
    |with_reducible refine Pa λx=>?_
    |with_reducible refine Vt (λ_=>?_) (λ_=>?_)
    |(refine Fq (λh=>by simp only[h,Pg,Ec,Ea,ite_self]) (λx h=>?_);(try simp only[h,Ec]))
    |(refine Hv (λh=>?_) (λh=>?_)<;>simp only[h,if_true,if_false,Bool.false_eq_true])
def TI(j3:Int->Int->UInt64->UInt64->Option Int)(a b:Int)(f g:UInt64):Option Int:=
both (
bo (
j3 a b f g)) [
j3 a b f g]
theorem Bax: @TI= @MZ:=by
  unfold TI MZ
  repeat (refine funext λ_=>?_)
  repeat' first
    |with_reducible rfl
    |with_reducible refine Ky ?_ ?_
    |with_reducible refine Kr ?_ ?_ ?_
    |with_reducible refine La ?_ ?_ ?_ ?_
    |((with_reducible refine Pj ?_ ?_);focus (intro h;first|(subst h;rfl)|(simp only[h];rfl)|(simp[Da,Ac,h];done)))
    |with_reducible refine Pa λx=>?_
    |with_reducible refine Vt (λ_=>?_) (λ_=>?_)
    |(refine Fq (λh=>by simp only[h,Pg,Ec,Ea,ite_self]) (λx h=>?_);(try simp only[h,Ec]))
    |(refine Hv (λh=>?_) (λh=>?_)<;>simp only[h,if_true,if_false,Bool.false_eq_true])
abbrev R_:=Int
def H:=hd_ [.agg [Si,Si,Sq,Sq]] [Si] (.q (.q (.cut [1,3] [] (.mode false) (.cut [1,3] [] (.mode false) .d)))) [] f186
def x3(a b:Int)(f g:UInt64):Option R_:=H.e P_ [r,r,r] ⟨[(1,.ptr 0 []),(3,.ptr 1 [])],[.box 222 (.agg [vi a,vi b,vq f,vq g]),.box 222 (.agg [vi (Ee (tA a (0:Int)) (24:Int)),vi (Ee (tA b (0:Int)) (24:Int)),vq f,vq g])],[]⟩
theorem e3:x3=aA:=Eq.trans (b:=UH ZG) F5 (by rw[Bat];rfl)
def k:KC_:=kk_ 186 H (u4 VP) func186 (λx=>Eq.trans (b:=u4 (TI x3) x) F5 (by rw[Bax];simp only[e3]<;>rfl))
end F186
namespace F187
def H:=hd_ [.agg [Si,Si,Sq,Sq],Su] [Si,Su] .d [] f187
def k:KC_:=kk_ 187 H (u5 MK) func187
end F187
namespace F213
def H:=hd_ [.agg [Sb,Si]] [.agg [Ob 5,Si]] .d [F109.k] f213
def k:KC_:=kk_ 213 H (u2 bH) func213
end F213
namespace F188
abbrev R_:=(LB×Int×Int)
abbrev K_:=S->Option R_
def H:=hd_ [.agg [Sb,Si],Sq,Si] [.agg [Ob 5,Si],Si] (.q (.q (.q (.cut [3,6] [] (.keep [1,2,3,6,40,41] true) .d)))) [F171.k,F213.k] f188 false [(202,(.blk (.loop [0,1,2] [] (.q (.blk (.cut [0,1,2] [] .d (.q (.cut [0,1,2,7] [] .d .d))))))))]
def t15(b:UInt64)(a:Int)(m:UInt64)(h f:Int)(o:LB):S:=⟨[(0,.ptr 0 []),(1,vq m),(2,vi h)],[.box 206 (.agg [.own 2,vi f]),.box 206 (.agg [.nils,vi 0]),Ab 5 o],[[(1,vq b),(2,vi a),(3,.ptr 0 []),(6,.ptr 1 []),(40,vq b),(41,vi a)]]⟩
def z15:ZT_ R_:=H.i P_ [r,r,r,l,(call 2 202),d]
def t22(b:UInt64)(a:Int)(n:UInt64)(k g:Int)(p:LB):S:=⟨[(0,.ptr 0 []),(1,vq n),(2,vi k)],[.box 206 (.agg [.own 2,vi g]),.box 206 (.agg [.nils,vi 0]),Ab 5 p],[[(1,vq b),(2,vi a),(3,.ptr 0 []),(6,.ptr 1 []),(40,vq b),(41,vi a)]]⟩
def z22:ZT_ R_:=H.i P_ [r,r,r,l,(call 2 202),d]
theorem i15(b:UInt64)(a:Int):∀(q:Nat) (m:UInt64) (h f:Int) (o:LB),z15 q (t15 b a m h f o)=Qe b a q m h f o:=
 ind (λ_ _ _ _=>by kernel_rfl) λq ih m h f o=>Eq.trans (b:=SP (SN (λm h f o=>(z15 q) (t15 b a m h f o)) b a) dN b a m h f o) F5 (by simp only[ih]<;>rfl)
theorem i22(b:UInt64)(a:Int):∀(q:Nat) (n:UInt64) (k g:Int) (p:LB),z22 q (t22 b a n k g p)=eE b a q n k g p:=
 ind (λ_ _ _ _=>by kernel_rfl) λq ih n k g p=>Eq.trans (b:=Asg (At4 (λn k g p=>(z22 q) (t22 b a n k g p)) b a) Atu b a n k g p) F5 (by simp only[ih]<;>rfl)
def k:KC_:=kk_ 188 H (u4 VI) func188 (λx=>Eq.trans (b:=u4 (jS (λb a m h f o=>z15 Du (t15 b a m h f o)) (λb a n k g p=>z22 Du (t22 b a n k g p))) x) F5 (by simp only[i15,i22,Bg]<;>rfl))
end F188
namespace F214
def H:=hd_ [Su,Si] [Sz] .d [] f214
def k:KC_:=kk_ 214 H (u2 Zt) func214
end F214
namespace F234
def H:=hd_ [Si] [Si,Si] .d [] f234
def k:KC_:=kk_ 234 H fE func234
end F234
namespace F215
def H:=hd_ [.agg [Sb,Si],Si] [.agg [Ob 5,Si],Si] .d [F171.k,F188.k,F234.k] f215
def k:KC_:=kk_ 215 H (u3 YJ) func215
end F215
namespace F189
abbrev R_:=(LB×Int×Int)
def H:=hd_ [.agg [Sb,Si],Su,Si] [.agg [Ob 5,Si],Si] (.q (.q (.q (.q (.cut [3,6,9,10,11] [] .d .d))))) [F171.k,F188.k,F214.k,F215.k] f189
def k:KC_:=kk_ 189 H (u4 eL) func189
end F189
namespace F144
def QU(k u n:Int)(a:UInt64)(b:UInt32)(o:UInt64)(m:LB):Option (LB×Int×Int×Int×UInt64×UInt64×Int):=
(λaf:Option (LB×Int×Int×Int×UInt64×UInt64×Int)=>
both (
bo (
af)) [
af]) (
some (m,k,u,n,(Ae a (Am (Ad b:UInt64) (Cq a (GI.toZ (4:UInt64)).toNat))),o,0))
theorem Baj: @QU= @JP:=by
  unfold QU JP
  try simp only[RZ,AH,BB]
  all_goals
    repeat (refine funext λ_=>?_)
    repeat' first
      |with_reducible rfl
      |with_reducible refine Ky ?_ ?_
      |with_reducible refine Kr ?_ ?_ ?_
      |with_reducible refine La ?_ ?_ ?_ ?_
      |((with_reducible refine Pj ?_ ?_);focus (intro h;first|(subst h;rfl)|(simp only[h];rfl)|(simp[Da,Ac,h];done)))
      |with_reducible refine Pa λx=>?_
      |with_reducible refine Vt (λ_=>?_) (λ_=>?_)
      |(refine Fq (λh=>by simp only[h,Pg,Ec,Ea,ite_self]) (λx h=>?_);(try simp only[h,Ec]))
      |(refine Hv (λh=>?_) (λh=>?_)<;>simp only[h,if_true,if_false,Bool.false_eq_true])
abbrev R_:=(LB×Int×Int×Int×UInt64×UInt64×Int)
def H:=hd_ [.agg [Sb,Si],.agg [Si,Si,Sq,Sq],Su] [.agg [Ob 5,Si],.agg [Si,Si,Sq,Sq],Si] (.q (.cut [2,3,4,6,7] [] .d (.q (.q (.cut [2,3,4,6,7,11] [] .d (.q (.cut [3,4,6,7] [] (.keep [2,3,4,6,7,65] true) (.seq (.mode false) .d)))))))) [F171.k,F186.k,F187.k,F188.k,F189.k] f144 false [(190,(.q (.q (.q (.blk (.cut [0,1,4] [] (.blk (.q (.keep [0,1,4,6,18,19,20,21,22,23,24,25] true))) (.cut [] [] (.keep [0,1,4,27,28,29,30,31,32,33,34] true) .d))))))),(216,.d)]
def x10(k u n:Int)(a:UInt64)(b:UInt32)(o:UInt64)(m:LB):Option R_:=H.e P_ [r,r,r,r,r,r,r] ⟨[(3,.ptr 0 []),(4,.ptr 1 []),(6,.ptr 2 []),(7,.ptr 3 [])],[.box 206 (.agg [.own 4,vi k]),.box 222 (.agg [vi u,vi n,vq (Ae a (Am (Ad b:UInt64) (Cq a (GI.toZ (4:UInt64)).toNat))),vq o]),.box 206 (.agg [.nils,vi 0]),.box 222 (.agg [vi 0,vi 0,vq 0,vq 0]),Ab 5 m],[]⟩
def x8(b:UInt32)(f:Int)(a:UInt64)(k:Int)(m:LB)(n:Int)(o:UInt64):Option R_:=H.e P_ [r,r,r,r,r,r,l,(call 1 190),r,r,r,d,r] ⟨[(0,.ptr 0 []),(1,vu b),(4,.fn 216 [])],[.box 222 (.agg [vi f,vi n,vq a,vq o]),.box 206 (.agg [.own 4,vi k]),.box 206 (.agg [.nils,vi 0]),.box 222 (.agg [vi 0,vi 0,vq 0,vq 0]),Ab 5 m],[[(2,vu b),(3,.ptr 1 []),(4,.ptr 0 []),(6,.ptr 2 []),(7,.ptr 3 []),(65,vu b)]]⟩
theorem e10:x10=WC:=Eq.trans (b:=QU) F5 (by rw[Baj];rfl)
theorem e8:x8=BQ:=Eq.trans (b:=ZI (ZR x10)) F5 (by simp only[e10]<;>rfl)
def k:KC_:=kk_ 144 H (u7 dY) func144 (λx=>Eq.trans (b:=u7 (aE (ZZ (ZH x8))) x) F5 (by simp only[e8]<;>rfl))
end F144
namespace F149
abbrev R_:=(UInt32×Int)
abbrev K_:=S->Option R_
def H:=hd_ [Su,Sb] [Su,Si] (.q (.q (.cut [0,1,6] [] (.keep [0,1,6,12] true) (.cut [0] [] (.q (.blk (.loop [0,6,13,14,15] [] .d))) .d)))) [] f149 false [(191,(.q (.q (.cut [1] [] (.q (.blk (.loop [1,5] [] (.q (.q (.cut [1,5] [] (.blk (.q (.q (.cut [1,2,3,5] [] (.q (.blk (.loop [1,2,3,5,10] [] .d))) .d)))) .d)))))) .d))))]
def t28(a:LB)(b:LU)(h:UInt32)(m:Int):S:=⟨[(0,vu h),(6,.ptr 0 []),(13,vb a),(14,vi (Ac a)),(15,vi m)],[.box 324 (.val (.vec 256 (.int .u32)) b)],[]⟩
def z28:ZT_ R_:=H.i P_ [r,r,r,l,r,d]
def t21(f:UInt32)(a:LB)(g:Int)(b:LU)(k:UInt32)(n:Int):S:=⟨[(1,.ptr 0 []),(2,vi g),(3,vu k),(5,vi g),(10,vi n)],[.box 324 (.val (.vec 256 (.int .u32)) b)],[[(0,vu f),(1,vb a)]]⟩
def z21(Mn:K_):ZT_ R_:=H.i P_ [r,r,l,(call 0 191),r,r,l,r,d,(lp Mn),r,r,l,d,r,r,l,r,d]
def t16(f:UInt32)(a:LB)(g:Int)(b:LU):S:=⟨[(1,.ptr 0 []),(5,vi g)],[.box 324 (.val (.vec 256 (.int .u32)) b)],[[(0,vu f),(1,vb a)]]⟩
def z16:ZT_ R_:=H.i P_ [r,r,l,(call 0 191),r,r,l,r,d]
def x28(a:LB)(b:LU)(h:UInt32)(m:Int):Option R_:=H.e P_ [r,r,r,l,r,d] (t28 a b h m)
def x21(Mn:K_)(f:UInt32)(a:LB)(g:Int)(b:LU)(k:UInt32)(n:Int):Option R_:=H.e P_ [r,r,l,(call 0 191),r,r,l,r,d,(lp Mn),r,r,l,d,r,r,l,r,d] (t21 f a g b k n)
theorem i28(a:LB)(b:LU):∀(q:Nat) (h:UInt32) (m:Int),z28 q (t28 a b h m)=Sk a b q h m:=
 ind (λ_ _=>by kernel_rfl) λq ih h m=>Eq.trans (b:=IU UD (λh m=>(z28 q) (t28 a b h m)) a b h m) F5 (by simp only[ih]<;>rfl)
theorem e28:x28=UT:=by funext a b h m;exact Eq.trans F5 ((i28 a b Du h m).trans (by rw[Bg];rfl))
theorem i21(Mn:K_)(f:UInt32)(a:LB)(g:Int)(b:LU):∀(q:Nat) (k:UInt32) (n:Int),z21 Mn q (t21 f a g b k n)=Rw (λg b=>Mn (t16 f a g b)) f a g b q k n:=
 ind (λ_ _=>by kernel_rfl) λq ih k n=>Eq.trans (b:=GQ (HE (λg b=>Mn (t16 f a g b)) f a) (λk n=>(z21 Mn q) (t21 f a g b k n)) f a g b k n) F5 (by simp only[ih]<;>rfl)
theorem e21(Mn:K_)(f:UInt32)(a:LB):x21 Mn f a=TN (λg b=>Mn (t16 f a g b)) f a:=by funext g b k n;exact Eq.trans F5 ((i21 Mn f a g b Du k n).trans (by rw[Bg];rfl))
theorem i16(f:UInt32)(a:LB):∀(q:Nat) (g:Int) (b:LU),z16 q (t16 f a g b)=Nz f a q g b:=
 ind (λ_ _=>by kernel_rfl) λq ih g b=>Eq.trans (b:=IW (x21 (z16 q) f a) (UG (UN x28)) f a g b) F5 (by simp only[e21,e28,ih]<;>rfl)
def k:KC_:=kk_ 149 H (u2 fK) func149 (λx=>Eq.trans (b:=u2 (ZQ (λf a g b=>z16 Du (t16 f a g b))) x) F5 (by simp only[i16,Bg]<;>rfl))
end F149
namespace F89
def H:=hd_ [Sb] [Su,Si] .d [F149.k] f89
def k:KC_:=kk_ 89 H Zb func89
end F89
namespace F148
def H:=hd_ [Sq,Si] [Sz] .d [] f148
def k:KC_:=kk_ 148 H (u2 C3) func148
end F148
namespace F88
abbrev R_:=(LB×Int)
def H:=hd_ [Sq,Si] [Ob 5,Si] (.q (.q (.q (.q (.cut [6] [] (.q (.blk (.loop [0,6,21,22] [] .d))) .d))))) [F148.k] f88
def t4(f:UInt64)(g:LB)(a:Int)(b:LB):S:=⟨[(0,vq f),(6,.own 0),(21,vi (Ac g)),(22,vi a)],[Ab 5 b],[]⟩
def z4:ZT_ R_:=H.i P_ [r,r,r,r,l,r,d]
theorem i4(f:UInt64)(g:LB):∀(q:Nat) (a:Int) (b:LB),z4 q (t4 f g a b)=FH f g q a b:=
 ind (λ_ _=>by kernel_rfl) λq ih a b=>Eq.trans (b:=XT jM (λa b=>(z4 q) (t4 f g a b)) f g a b) F5 (by simp only[ih]<;>rfl)
def k:KC_:=kk_ 88 H (u2 BN) func88 (λx=>Eq.trans (b:=u2 (lB (λf g a b=>z4 Du (t4 f g a b))) x) F5 (by simp only[i4,Bg]<;>rfl))
end F88
namespace F117
abbrev R_:=LB
def H:=hd_ [.lf (.list (.list (.int .u8))) none] [Ob 5] (.q (.q (.cut [0,3] [] (.q (.blk (.loop [0,3,9,10,11] [] .d))) (.cut [0,6] [⟨6,[],.own 5 (.int .u8)⟩] (.keep [0,3,6,23,24] true) (.cut [6] [] (.q (.blk (.loop [6,25,26,27] [] .d))) .d))))) [] f117 true [(161,(.q (.cut [0,1] [] .d .d)))]
def t14(a:List LB)(g:Int)(f:LB):S:=⟨[(6,.own 0),(25,.val (.list (.list (.int .u8))) a),(26,vi (Ac a)),(27,vi g)],[Ab 5 f],[]⟩
def z14:ZT_ R_:=H.i P_ [r,r,r,r,l,r,d]
def t9(a:List LB)(b h:Int):S:=⟨[(0,.val (.list (.list (.int .u8))) a),(3,vi b),(9,.val (.list (.list (.int .u8))) a),(10,vi (Ac a)),(11,vi h)],[],[]⟩
def z9:ZT_ R_:=H.i P_ [r,r,l,r,d]
def x14(a:List LB)(g:Int)(f:LB):Option R_:=H.e P_ [r,r,r,r,l,r,d] (t14 a g f)
theorem i14(a:List LB):∀(q:Nat) (g:Int) (f:LB),z14 q (t14 a g f)=Cm a q g f:=
 ind (λ_ _=>by kernel_rfl) λq ih g f=>Eq.trans (b:=Dn Adb (λg f=>(z14 q) (t14 a g f)) a g f) F5 (by simp only[ih]<;>rfl)
theorem e14:x14=Iy:=by funext a g f;exact Eq.trans F5 ((i14 a Du g f).trans (by rw[Bg];rfl))
theorem i9(a:List LB):∀(q:Nat) (b h:Int),z9 q (t9 a b h)=Ct a q b h:=
 ind (λ_ _=>by kernel_rfl) λq ih b h=>Eq.trans (b:=Dw (Ja (Jb (Iz x14))) (λb h=>(z9 q) (t9 a b h)) a b h) F5 (by simp only[e14,ih]<;>rfl)
def k:KC_:=kk_ 117 H Ep func117 (λx=>Eq.trans (b:=Ou (λa b h=>z9 Du (t9 a b h)) x) F5 (by simp only[i9,Bg]<;>rfl))
end F117
namespace F85
abbrev R_:=(LB×Int)
abbrev K_:=S->Option R_
def H:=hd_ [.agg [Si,Si],.lf (.vec 16 (.int .i32)) none,Sw] [Ob 5,Si] (.q (.q (.q (.q (.q (.cut [11] [] (.q (.blk (.loop [3,10,11,30,31,32] [⟨11,[0],.own 5 (.int .u8)⟩] (.q (.q (.cut [3,10,11,30,31,32] [] (.blk (.q (.q (.q (.q (.keep [3,10,11,14,30,31,32,59] true)))))) .d)))))) .d)))))) [F88.k,F89.k,F117.k,F142.k,F143.k,F144.k] f85 false [(145,(.q (.q (.blk (.loop [0,3,7,8] [] (.q (.q (.seq (.blk (.q (.cut [0,3,4,7,8] [] .d (.q (.cut [0,3,7,8] [] .d .d))))) .d))))))))]
def t44(b:LU)(a g h f:Int)(n:List (Int×Int×UInt64×UInt64×Unit))(m:LB)(o k:Int)(w:LB):S:=⟨[(0,.ptr 0 []),(3,.ptr 1 []),(7,vi h),(8,vi o)],[.box 206 (.agg [.own 7,vi k]),.box 206 (.agg [.own 6,vi h]),.box 57 (.agg [vi a,vi g]),.box 223 (.val (.vec 6 (.cons (.int .i64) (.cons (.int .i64) (.cons (.int .u64) (.cons (.int .u64) .nil))))) n),.box 206 (.agg [.own 6,vi h]),Av 163 b,Ab 5 m,Ab 5 w],[[(3,.ptr 2 []),(10,.ptr 3 []),(11,.ptr 0 []),(14,.ptr 4 []),(30,.own 5),(31,vi (Ac b)),(32,vi f),(59,.agg [.own 6,vi h])]]⟩
def z44(RC:K_):ZT_ R_:=H.i P_ [r,r,r,r,r,l,r,d,(lp RC),r,r,l,d,r,r,r,r,(call 1 145),r,r,d]
def t27(b:LU)(a g f:Int)(u:List (Int×Int×UInt64×UInt64×Unit))(v:Int)(p:LB):S:=⟨[(3,.ptr 0 []),(10,.ptr 1 []),(11,.ptr 2 []),(30,.own 3),(31,vi (Ac b)),(32,vi f)],[.box 57 (.agg [vi a,vi g]),.box 223 (.val (.vec 6 (.cons (.int .i64) (.cons (.int .i64) (.cons (.int .u64) (.cons (.int .u64) .nil))))) u),.box 206 (.agg [.own 4,vi v]),Av 163 b,Ab 5 p],[]⟩
def z27:ZT_ R_:=H.i P_ [r,r,r,r,r,l,r,d]
def x44(RC:K_)(b:LU)(a g h f:Int)(n:List (Int×Int×UInt64×UInt64×Unit))(m:LB)(o k:Int)(w:LB):Option R_:=H.e P_ [r,r,r,r,r,l,r,d,(lp RC),r,r,l,d,r,r,r,r,(call 1 145),r,r,d] (t44 b a g h f n m o k w)
theorem i44(RC:K_)(b:LU)(a g h f:Int)(n:List (Int×Int×UInt64×UInt64×Unit))(m:LB):∀(q:Nat) (o k:Int) (w:LB),z44 RC q (t44 b a g h f n m o k w)=Gy (λf u v p=>RC (t27 b a g f u v p)) b a g h f n m q o k w:=
 ind (λ_ _ _=>by kernel_rfl) λq ih o k w=>Eq.trans (b:=Up (Tv (λo k w=>(z44 RC q) (t44 b a g h f n m o k w)) h b f a g n m) (EB (λf u v p=>RC (t27 b a g f u v p)) b a g) b a g h f n m o k w) F5 (by simp only[ih]<;>rfl)
theorem e44(RC:K_)(b:LU)(a g:Int):x44 RC b a g=Acf (λf u v p=>RC (t27 b a g f u v p)) b a g:=by funext h f n m o k w;exact Eq.trans F5 ((i44 RC b a g h f n m Du o k w).trans (by rw[Bg];rfl))
theorem i27(b:LU)(a g:Int):∀(q:Nat) (f:Int) (u:List (Int×Int×UInt64×UInt64×Unit)) (v:Int) (p:LB),z27 q (t27 b a g f u v p)=Ij b a g q f u v p:=
 ind (λ_ _ _ _=>by kernel_rfl) λq ih f u v p=>Eq.trans (b:=Uf (x44 (z27 q) b a g) DO b a g f u v p) F5 (by simp only[e44,ih]<;>rfl)
def k:KC_:=kk_ 85 H (u4 Yp) func85 (λx=>Eq.trans (b:=u4 (GL (λb a g f u v p=>z27 Du (t27 b a g f u v p))) x) F5 (by simp only[i27,Bg]<;>rfl))
end F85
namespace F63
def H:=hd_ [.agg [.agg [Si,Si],Si,Ss,Sb,Sw,.lf (.list (.list (.int .u8))) none,Sb,Sz,Si],Si] [.agg [.agg [Si,Si],Si,Ss,Ob 5,Ow 21,.lf (.list (.list (.int .u8))) (some 22),Ob 5,Sz,Si],Si] .d [] f63
def k:KC_:=kk_ 63 H (u11 Ul) func63
end F63
namespace F23
abbrev R_:=(Int×Int×Int×LB×LB×LX×(List LB)×LB×Bool×Int×Int)
abbrev K_:=S->Option R_
def H:=hd_ [.agg [.agg [Si,Si],Si,Ss,Sb,Sw,.lf (.list (.list (.int .u8))) none,Sb,Sz,Si],Sb] [.agg [.agg [Si,Si],Si,Ss,Ob 5,Ow 21,.lf (.list (.list (.int .u8))) (some 22),Ob 5,Sz,Si],Si] (.q (.q (.q (.q (.q (.cut [2,4] [] (.q (.blk (.loop [2,4,8,9,27,28,29] [] (.q (.q (.cut [2,4,8,9,27,28,29] [] (.blk (.q (.q (.q (.cut [2,4,8,9,12,27,28,29] [⟨2,[3],.own 5 (.int .u8)⟩,⟨2,[4],.own 21 (.int .i32)⟩,⟨9,[0,3],.own 5 (.int .u8)⟩,⟨9,[0,4],.own 21 (.int .i32)⟩] (.keep [2,4,8,9,12,27,28,29,45] true) .d))))) .d)))))) .d)))))) [F56.k,F57.k,F59.k,F60.k,F61.k,F63.k,F80.k,F85.k] f23 false [(58,(.q (.cut [0,1] [] .d (.q (.q (.q (.q (.cut [2] [] (.keep [2,43] true) .d)))))))),(62,.d)]
def t14(p:Int)(n:LB)(a b g:Int)(f:LB)(h:Bool)(k o:Int)(m:LB)(u:Int)(y:LB)(w:LX)(v:List LB):S:=⟨[(2,.ptr 0 []),(4,.ptr 1 []),(8,vi p),(9,.fn 58 [.ptr 0 [],.ptr 2 []]),(27,vb n),(28,vi (Ac n)),(29,vi u)],[.box 60 (.agg [.agg [vi a,vi b],vi g,vs f,.own 3,.own 4,.own 5,.own 6,vt h,vi k]),.box 60 (.agg [.agg [vi 0,vi 0],vi 0,vs ([]:LB),.nils,.nils,.nils,.nils,vt false,vi 0]),.box 3 (vi o),Ab 5 y,Aw 21 w,.arr 22 (.list (.int .u8)) v,Ab 5 m],[]⟩
def z14:ZT_ R_:=H.i P_ [r,r,r,r,r,l,r,d]
theorem i14(p:Int)(n:LB)(a b g:Int)(f:LB)(h:Bool)(k o:Int)(m:LB):∀(q:Nat) (u:Int) (y:LB) (w:LX) (v:List LB),z14 q (t14 p n a b g f h k o m u y w v)=Ip p n a b g f h k o m q u y w v:=
 ind (λ_ _ _ _=>by kernel_rfl) λq ih u y w v=>Eq.trans (b:=Zr (Nn (λu y w v=>(z14 q) (t14 p n a b g f h k o m u y w v)) p n a b g f h k o m) (Ix (λu y w v=>(z14 q) (t14 p n a b g f h k o m u y w v)) p n a b g f h k o m) (LN (λu y w v=>(z14 q) (t14 p n a b g f h k o m u y w v)) p n a b g f h k o m) MP p n a b g f h k o m u y w v) F5 (by simp only[ih]<;>rfl)
def k:KC_:=kk_ 23 H (u11 Ey) func23 (λx=>Eq.trans (b:=u11 (DC (λp n a b g f h k o m u y w v=>z14 Du (t14 p n a b g f h k o m u y w v))) x) F5 (by simp only[i14,Bg]<;>rfl))
end F23
namespace F53
def H:=hd_ [.agg [.agg [Si,Si],Si,Ss,Sb,Sw,.lf (.list (.list (.int .u8))) none,Sb,Sz,Si],Si] [.agg [.agg [Si,Si],Si,Ss,Ob 5,Ow 21,.lf (.list (.list (.int .u8))) (some 22),Sb,Sz,Si],Ob 5,Si] .d [F107.k,F108.k,F109.k] f53
def k:KC_:=kk_ 53 H (u11 BU) func53
end F53
namespace F116
def H:=hd_ [Ss] [Si,Si] .d [] f116
def k:KC_:=kk_ 116 H NF func116
end F116
namespace F146
abbrev R_:=Bool
def H:=hd_ [.agg [Si,Si,Si,Si,Si]] [Sz] (.q (.cut [1] [] .d .d)) [] f146
def k:KC_:=kk_ 146 H (u5 Qt) func146
end F146
namespace F179
def H:=hd_ [Si,Si] [Si,Si] .d [F113.k] f179
def k:KC_:=kk_ 179 H (u2 BW) func179
end F179
namespace F147
def H:=hd_ [.agg [Si,Si,Si,Si,Si]] [Sz] .d [F179.k] f147
def k:KC_:=kk_ 147 H (u5 PD) func147
end F147
namespace F87
def H:=hd_ [.agg [Si,Si,Si,Si,Si]] [Si] .d [F146.k,F147.k] f87
def k:KC_:=kk_ 87 H (u5 Mz) func87
end F87
namespace F37
abbrev R_:=(LB×Int)
def H:=hd_ [.agg [Si,Si,Si,Si,Si]] [Ob 5,Si] (.q (.q (.q (.cut [5] [] (.q (.blk (.loop [5,31,32] [] .d))) .d)))) [F87.k,F88.k,F89.k] f37
def t4(b f g h k m:Int)(a:LB):S:=⟨[(5,.own 0),(31,.val (.vec 5 (.int .i64)) ([b,f,g,h,k]:LI)),(32,vi m)],[Ab 5 a],[]⟩
def z4:ZT_ R_:=H.i P_ [r,r,r,l,r,d]
theorem i4(b f g h k:Int):∀(q:Nat) (m:Int) (a:LB),z4 q (t4 b f g h k m a)=Mh b f g h k q m a:=
 ind (λ_ _=>by kernel_rfl) λq ih m a=>Eq.trans (b:=CX CZ (λm a=>(z4 q) (t4 b f g h k m a)) b f g h k m a) F5 (by simp only[ih]<;>rfl)
def k:KC_:=kk_ 37 H (u5 SV) func37 (λx=>Eq.trans (b:=u5 (QZ (λb f g h k m a=>z4 Du (t4 b f g h k m a))) x) F5 (by simp only[i4,Bg]<;>rfl))
end F37
namespace F90
def H:=hd_ [Ss] [Sq,Si] .d [F129.k] f90
def k:KC_:=kk_ 90 H wT func90
end F90
namespace F38
def H:=hd_ [Ss] [Ob 5,Si] .d [F88.k,F90.k] f38
def k:KC_:=kk_ 38 H HV func38
end F38
namespace F91
abbrev R_:=Int
def H:=hd_ [Sl] [Si] (.q (.q (.q (.cut [] [] (.q (.blk (.loop [3,14,15,16] [] .d))) .d)))) [] f91
def t4(a:LI)(f b:Int):S:=⟨[(3,vi f),(14,vl a),(15,vi (Ac a)),(16,vi b)],[],[]⟩
def z4:ZT_ R_:=H.i P_ [r,r,r,l,r,d]
theorem i4(a:LI):∀(q:Nat) (f b:Int),z4 q (t4 a f b)=Sm a q f b:=
 ind (λ_ _=>by kernel_rfl) λq ih f b=>Eq.trans (b:=JL Apk (λf b=>(z4 q) (t4 a f b)) a f b) F5 (by simp only[ih]<;>rfl)
def k:KC_:=kk_ 91 H Qr func91 (λx=>Eq.trans (b:=II (λa f b=>z4 Du (t4 a f b)) x) F5 (by simp only[i4,Bg]<;>rfl))
end F91
namespace F39
abbrev R_:=(LB×Int)
abbrev K_:=S->Option R_
def H:=hd_ [Sl] [Ob 5,Si] (.q (.q (.q (.q (.cut [5,6] [] (.q (.blk (.loop [5,6,17,18,19] [⟨5,[],.own 5 (.int .u8)⟩,⟨6,[0],.own 5 (.int .u8)⟩] (.q (.q (.cut [5,6,17,18,19] [] (.blk (.q (.keep [5,6,8,17,18,19,23,24,25] true))) .d)))))) (.q (.cut [5] [] (.keep [5,6,9,33,34,35] true) .d))))))) [F88.k,F89.k,F91.k] f39 false [(92,.d)]
def t8(a:LI)(f:Int)(b:LB):S:=⟨[(5,.ptr 0 []),(6,.fn 92 [.ptr 0 []]),(17,vl a),(18,vi (Ac a)),(19,vi f)],[.box 22 (.own 1),Ab 5 b],[]⟩
def z8:ZT_ R_:=H.i P_ [r,r,r,r,l,r,d]
theorem i8(a:LI):∀(q:Nat) (f:Int) (b:LB),z8 q (t8 a f b)=Ru a q f b:=
 ind (λ_ _=>by kernel_rfl) λq ih f b=>Eq.trans (b:=JK (QI (λf b=>(z8 q) (t8 a f b)) a) QA a f b) F5 (by simp only[ih]<;>rfl)
def k:KC_:=kk_ 39 H PL func39 (λx=>Eq.trans (b:=UF (λa f b=>z8 Du (t8 a f b)) x) F5 (by simp only[i8,Bg]<;>rfl))
end F39
namespace F64
def LC(f g h:Int)(b k:LB)(m:LX)(a:List LB)(n:LB)(o:Bool)(p:Int)(u:LB)(v:LI):Option (LB×Int):=
(PL v).bind λ(aa,y)=>
if(Bj y 0)then
some (([]:LB),y)
else
(λao:Option (LB×Int)=>
bo (
ao)) (
(Da u aa).bind λab=>
(Ep a).bind λac=>
(Da ab ac).bind λad=>
some (ad,0))
theorem Ba9: @LC= @CP:=by
  unfold LC CP;simp only[RZ,AH,BB]
abbrev R_:=(LB×Int)
def H:=hd_ [.agg [.agg [Si,Si],Si,Ss,Sb,Sw,.lf (.list (.list (.int .u8))) none,Sb,Sz,Si],Si] [Ob 5,Si] (.q (.q (.q (.q (.q (.cut [2,8] [] .d (.q (.cut [2,8,11] [] (.q (.blk (.loop [2,8,11,58,59,60] [⟨11,[],.own 3 (.int .i64)⟩] .d))) (.q (.q (.seq (.mode false) .d))))))))))) [F37.k,F38.k,F39.k,F116.k,F117.k] f64
def t6(a:List LB)(f g h:Int)(b k:LB)(m:LX)(n:LB)(o:Bool)(p:Int)(u:LB)(w:Int)(v:LI):S:=⟨[(2,.ptr 0 []),(8,.own 1),(11,.own 2),(58,.val (.list (.list (.int .u8))) a),(59,vi (Ac a)),(60,vi w)],[.box 60 (.agg [.agg [vi f,vi g],vi h,vs b,vb k,vw m,.val (.list (.list (.int .u8))) a,vb n,vt o,vi p]),Ab 5 u,Ai 3 v],[]⟩
def z6:ZT_ R_:=H.i P_ [r,r,r,r,r,r,r,l,r,d]
def x8(f g h:Int)(b k:LB)(m:LX)(a:List LB)(n:LB)(o:Bool)(p:Int)(u:LB)(v:LI):Option R_:=H.e P_ [r,r,r,r,r,r,r,r] ⟨[(2,.ptr 0 []),(8,.own 1),(11,.own 2)],[.box 60 (.agg [.agg [vi f,vi g],vi h,vs b,vb k,vw m,.val (.list (.list (.int .u8))) a,vb n,vt o,vi p]),Ab 5 u,Ai 3 v],[]⟩
theorem e8:x8=Uy:=Eq.trans (b:=LC) F5 (by rw[Ba9];rfl)
theorem i6(a:List LB)(f g h:Int)(b k:LB)(m:LX)(n:LB)(o:Bool)(p:Int)(u:LB):∀(q:Nat) (w:Int) (v:LI),z6 q (t6 a f g h b k m n o p u w v)=Qa a f g h b k m n o p u q w v:=
 ind (λ_ _=>by kernel_rfl) λq ih w v=>Eq.trans (b:=CQ x8 (λw v=>(z6 q) (t6 a f g h b k m n o p u w v)) a f g h b k m n o p u w v) F5 (by simp only[e8,ih]<;>rfl)
def k:KC_:=kk_ 64 H (u11 SW) func64 (λx=>Eq.trans (b:=u11 (PU (DB (λa f g h b k m n o p u w v=>z6 Du (t6 a f g h b k m n o p u w v)))) x) F5 (by simp only[i6,Bg]<;>rfl))
end F64
namespace F24
abbrev R_:=(Int×Int×Int×LB×LB×LX×(List LB)×LB×Bool×Int×Int)
def H:=hd_ [.agg [.agg [Si,Si],Si,Ss,Sb,Sw,.lf (.list (.list (.int .u8))) none,Sb,Sz,Si]] [.agg [.agg [Si,Si],Si,Ss,Ob 5,Ow 21,.lf (.list (.list (.int .u8))) (some 22),Ob 5,Sz,Si],Si] (.q (.q (.q (.q (.q (.cut [1,2,6] [] (.q (.cond (.cut [1,2,6,7] [⟨1,[4],.own 21 (.int .i32)⟩] (.keep [1,2,6,7,38] true) .d) .d)) .d)))))) [F56.k,F60.k,F63.k,F64.k,F80.k,F85.k] f24 false [(62,.d)]
def k:KC_:=kk_ 24 H (u10 Gp) func24
end F24
namespace F20
def DU(j29:Int->Int->Int->Int->LB->LB->Bool->Int->LB-> (List (Int×LB×Unit))->LB->LX-> (List LB)->Option (Int×Int×Int×LB×LB×LX×(List LB)×LB×Bool×Int×(List (Int×LB×Unit))×Int))(b:List (UInt8×Int×Unit))(aa:UInt8×Int×Unit)(a:LB)(ab y f g h:Int)(k p:LB)(u:LX)(v:List LB)(m:LB)(n:Bool)(o ac ad ae:Int)(af:LB)(ag:Bool)(ah:Int)(w:List (Int×LB×Unit))(ai:LB)(aj:LX)(ak:List LB)(al:LB):Option (Int×Int×Int×LB×LB×LX×(List LB)×LB×Bool×Int×(List (Int×LB×Unit))×Int):=
(λfj:Option (Int×Int×Int×LB×LB×LX×(List LB)×LB×Bool×Int×(List (Int×LB×Unit))×Int)=>
bo (
fj)) (
(Bp a (Ee aa.2.1 (Ac a)) (Ac a)).bind λbm=>
(Da w ([(ab,([]:LB),())]:List (Int×LB×Unit))).bind λbn=>
j29 y ac ad ae af al ag ah bm bn ai aj ak)
theorem Azb: @DU= @Ws:=by
  unfold DU Ws;simp only[RZ,AH,BB]
def DT(j26:(UInt8×Int×Unit)->LB->Int->Int->Int->Int->Int->LB->LB->LX-> (List LB)->LB->Bool->Int->Int->Int->Int->LB->Bool->Int-> (List (Int×LB×Unit))->LB->LX-> (List LB)->LB->Option (Int×Int×Int×LB×LB×LX×(List LB)×LB×Bool×Int×(List (Int×LB×Unit))×Int))(j33:Int->Int->Int->Int->Int->LB->LB->LX-> (List LB)->LB->Bool->Int->LB->Int->Int->Int->LB->LB->Bool->Int->LB-> (List (Int×LB×Unit))->LB->LX-> (List LB)->Option (Int×Int×Int×LB×LB×LX×(List LB)×LB×Bool×Int×(List (Int×LB×Unit))×Int))(j34:Int->Int->Int->Int->Int->LB->LB->LX-> (List LB)->LB->Bool->Int->LB->Int->Int->Int->LB->Bool->Int-> (List (Int×LB×Unit))->LB->LX-> (List LB)->LB->Option (Int×Int×Int×LB×LB×LX×(List LB)×LB×Bool×Int×(List (Int×LB×Unit))×Int))(j29:Int->Int->Int->Int->LB->LB->Bool->Int->LB-> (List (Int×LB×Unit))->LB->LX-> (List LB)->Option (Int×Int×Int×LB×LB×LX×(List LB)×LB×Bool×Int×(List (Int×LB×Unit))×Int))(j31:(List (Int×LB×Unit))->Int->Int->Int->LB->LB->Bool->Int->LB->LB->LX-> (List LB)->Option (Int×Int×Int×LB×LB×LX×(List LB)×LB×Bool×Int×(List (Int×LB×Unit))×Int))(b:List (UInt8×Int×Unit))(y f g h:Int)(k m:LB)(n:Bool)(o:Int)(a:LB)(w:List (Int×LB×Unit))(p:LB)(u:LX)(v:List LB):Option (Int×Int×Int×LB×LB×LX×(List LB)×LB×Bool×Int×(List (Int×LB×Unit))×Int):=
if(Cw y (Ac b))then
(Aj b y).bind λaa=>
if(geq aa.1 1)then
(λbp:Option (Int×Int×Int×LB×LB×LX×(List LB)×LB×Bool×Int×(List (Int×LB×Unit))×Int)=>
(λbs:Option (Int×Int×Int×LB×LB×LX×(List LB)×LB×Bool×Int×(List (Int×LB×Unit))×Int)=>
(λbt:Option (Int×Int×Int×LB×LB×LX×(List LB)×LB×Bool×Int×(List (Int×LB×Unit))×Int)=>
both (
bs) [
bs,
(Bp a 0 (Ee aa.2.1 (Ac a))).bind λam=>
(λbu:Option (Int×Int×Int×LB×LB×LX×(List LB)×LB×Bool×Int×(List (Int×LB×Unit))×Int)=>
(λbv:Option (Int×Int×Int×LB×LB×LX×(List LB)×LB×Bool×Int×(List (Int×LB×Unit))×Int)=>
(λbw:Option (Int×Int×Int×LB×LB×LX×(List LB)×LB×Bool×Int×(List (Int×LB×Unit))×Int)=>
both (
bw) [
bw,
bv]) (
both (
bv) [
bu])) (
bo (
bu))) (
(Ey f g h k p u v m n o am).bind λ(ac,ad,ae,af,ai,aj,ak,al,ag,ah,ab)=>
j26 aa a ab y f g h k p u v m n o ac ad ae af ag ah w ai aj ak al),
both (
bt) [
bt,
(Bp a 0 (Ee aa.2.1 (Ac a))).bind λam=>
(λfk:Option (Int×Int×Int×LB×LB×LX×(List LB)×LB×Bool×Int×(List (Int×LB×Unit))×Int)=>
bo (
fk)) (
(Ey f g h k p u v m n o am).bind λ(ac,ad,ae,af,ai,aj,ak,al,ag,ah,ab)=>
j26 aa a ab y f g h k p u v m n o ac ad ae af ag ah w ai aj ak al)]]) (
bo (
bp))) (
both (
both (
(Bp a 0 (Ee aa.2.1 (Ac a))).bind λam=>
(λfl:Option (Int×Int×Int×LB×LB×LX×(List LB)×LB×Bool×Int×(List (Int×LB×Unit))×Int)=>
bo (
fl)) (
(Ey f g h k p u v m n o am).bind λ(ac,ad,ae,af,ai,aj,ak,al,ag,ah,ab)=>
j26 aa a ab y f g h k p u v m n o ac ad ae af ag ah w ai aj ak al)) [
bp]) [
(Bp a 0 (Ee aa.2.1 (Ac a))).bind λam=>
(λbx:Option (Int×Int×Int×LB×LB×LX×(List LB)×LB×Bool×Int×(List (Int×LB×Unit))×Int)=>
both (
bo (
bx)) [
bx]) (
(Ey f g h k p u v m n o am).bind λ(ac,ad,ae,af,ai,aj,ak,al,ag,ah,ab)=>
j26 aa a ab y f g h k p u v m n o ac ad ae af ag ah w ai aj ak al),
bo (
bp)])) (
(Bp a 0 (Ee aa.2.1 (Ac a))).bind λam=>
(Ey f g h k p u v m n o am).bind λ(ac,ad,ae,af,ai,aj,ak,al,ag,ah,ab)=>
j26 aa a ab y f g h k p u v m n o ac ad ae af ag ah w ai aj ak al)
else
if(geq aa.1 2)then
(λbz:Option (Int×Int×Int×LB×LB×LX×(List LB)×LB×Bool×Int×(List (Int×LB×Unit))×Int)=>
(λda:Option (Int×Int×Int×LB×LB×LX×(List LB)×LB×Bool×Int×(List (Int×LB×Unit))×Int)=>
(λdb:Option (Int×Int×Int×LB×LB×LX×(List LB)×LB×Bool×Int×(List (Int×LB×Unit))×Int)=>
both (
db) [
db,
da]) (
both (
da) [
bz])) (
bo (
bz))) (
(BU f g h k p u v m n o aa.2.1).bind λ(ao,ap,aq,ar,ay,az,ba,au,av,aw,ax,an)=>
j33 an y f g h k p u v m n o a ao ap aq ar au av aw ax w ay az ba)
else
if(geq aa.1 3)then
(λdc:Option (Int×Int×Int×LB×LB×LX×(List LB)×LB×Bool×Int×(List (Int×LB×Unit))×Int)=>
(λdd:Option (Int×Int×Int×LB×LB×LX×(List LB)×LB×Bool×Int×(List (Int×LB×Unit))×Int)=>
(λde:Option (Int×Int×Int×LB×LB×LX×(List LB)×LB×Bool×Int×(List (Int×LB×Unit))×Int)=>
both (
de) [
de,
dd]) (
both (
dd) [
dc])) (
bo (
dc))) (
(Gp f g h k p u v m n o).bind λ(bc,bd,be,bf,bi,bj,bk,bl,bg,bh,bb)=>
j34 bb y f g h k p u v m n o a bc bd be bf bg bh w bi bj bk bl)
else
j29 y f g h k m n o a w p u v
else
j31 w f g h k m n o a p u v
theorem Az9: @DT= @Qk:=by
  unfold DT Qk
  try simp only[RZ,AH,BB]
  all_goals
    repeat (refine funext λ_=>?_)
    repeat' first
      |with_reducible rfl
      |with_reducible refine Ky ?_ ?_
      |with_reducible refine Kr ?_ ?_ ?_
      |with_reducible refine La ?_ ?_ ?_ ?_
      |((with_reducible refine Pj ?_ ?_);focus (intro h;first|(subst h;rfl)|(simp only[h];rfl)|(simp[Da,Ac,h];done)))
      |with_reducible refine Pa λx=>?_
      |with_reducible refine Vt (λ_=>?_) (λ_=>?_)
      |(refine Fq (λh=>by simp only[h,Pg,Ec,Ea,ite_self]) (λx h=>?_);(try simp only[h,Ec]))
      |(refine Hv (λh=>?_) (λh=>?_)<;>simp only[h,if_true,if_false,Bool.false_eq_true])
abbrev R_:=(Int×Int×Int×LB×LB×LX×(List LB)×LB×Bool×Int×(List (Int×LB×Unit))×Int)
abbrev K_:=S->Option R_
def H:=hd_ [.agg [Si,Si],Si,Ss,Sb,.lf (.list (.cons (.int .u8) (.cons (.int .i64) .nil))) none] [.agg [.agg [Si,Si],Si,Ss,Ob 5,Ow 21,.lf (.list (.list (.int .u8))) (some 22),Sb,Sz,Si],.lf (.list (.cons (.int .i64) (.cons (.list (.int .u8)) .nil))) (some 106),Si] (.q (.q (.q (.q (.q (.cut [10,16,17] [] (.keep [10,16,17,41] true) .d)))))) [F22.k,F23.k,F24.k,F25.k,F53.k] f20 false [(54,(.q (.q (.q (.cut [6] [] (.q (.blk (.loop [5,6,19,20,21] [⟨5,[0,0,6],.ro (.int .u8)⟩,⟨6,[],.own 106 (.cons (.int .i64) (.cons (.list (.int .u8)) .nil))⟩] (.q (.q (.cut [5,6,19,20,21] [⟨5,[0,0,6],.ro (.int .u8)⟩] (.blk (.q (.q (.q (.cond (.keep [5,6,19,20,21,33,37,38,39] true) .d))))) .d)))))) .d))))),(110,(.q (.q (.cut [0,1,4,5,6] [] (.mode false) (.seq (.mode false) .d))))),(111,(.q (.cut [0,4,5,6,7] [] (.mode false) .d))),(112,(.q (.cut [0,4,5,6] [] (.mode false) .d)))]
def t17(b:List (UInt8×Int×Unit))(y f g h:Int)(k m:LB)(n:Bool)(o:Int)(a:LB)(w:List (Int×LB×Unit))(p:LB)(u:LX)(v:List LB):S:=⟨[(5,.mp [1,2,3] [.bfn 110 [.ptr 0 []],.bfn 111 [.ptr 0 []],.bfn 112 [.ptr 0 []]]),(6,.own 1),(19,.val (.list (.cons (.int .u8) (.cons (.int .i64) .nil))) b),(20,vi (Ac b)),(21,vi y)],[.box 115 (.agg [.agg [.agg [vi f,vi g],vi h,vs k,.own 3,.own 4,.own 5,vb m,vt n,vi o],.fn 23 [],.fn 24 [],.fn 53 [],vb a]),.arr 106 (.cons (.int .i64) (.cons (.list (.int .u8)) .nil)) w,.box 60 (.agg [.agg [vi 0,vi 0],vi 0,vs ([]:LB),.nils,.nils,.nils,.nils,vt false,vi 0]),Ab 5 p,Aw 21 u,.arr 22 (.list (.int .u8)) v],[[(10,.ptr 2 []),(16,.ptr 0 [])]]⟩
def z17:ZT_ R_:=H.i P_ [r,r,r,r,r,l,(call 2 54),r,r,r,l,r,d]
def x26(T2:K_)(b:List (UInt8×Int×Unit))(aa:UInt8×Int×Unit)(a:LB)(ab y f g h:Int)(k p:LB)(u:LX)(v:List LB)(m:LB)(n:Bool)(o ac ad ae:Int)(af:LB)(ag:Bool)(ah:Int)(w:List (Int×LB×Unit))(ai:LB)(aj:LX)(ak:List LB)(al:LB):Option R_:=H.e P_ [r,r,r,r,r,l,(call 2 54),r,r,r,l,r,d,(lp T2),r,r,l,d,r,r,r,l,(call 4 110),r,r,r] ⟨[(0,.ptr 0 []),(1,vi (Ee aa.2.1 (Ac a))),(4,.ptr 1 []),(5,.ptr 2 []),(6,vi ab)],[.box 115 (.agg [.agg [.agg [vi f,vi g],vi h,vs k,vb p,vw u,.val (.list (.list (.int .u8))) v,vb m,vt n,vi o],.fn 23 [],.fn 24 [],.fn 53 [],vb a]),.box 106 (.agg [vi 0,.nils]),.box 60 (.agg [.agg [vi ac,vi ad],vi ae,vs af,.own 5,.own 6,.own 7,.own 8,vt ag,vi ah]),.arr 106 (.cons (.int .i64) (.cons (.list (.int .u8)) .nil)) w,.box 60 (.agg [.agg [vi 0,vi 0],vi 0,vs ([]:LB),.nils,.nils,.nils,.nils,vt false,vi 0]),Ab 5 ai,Aw 21 aj,.arr 22 (.list (.int .u8)) ak,Ab 5 al],[[(5,.mp [1,2,3] [.bfn 110 [.ptr 0 []],.bfn 111 [.ptr 0 []],.bfn 112 [.ptr 0 []]]),(6,.own 3),(19,.val (.list (.cons (.int .u8) (.cons (.int .i64) .nil))) b),(20,vi (Ac b)),(21,vi y),(33,.own 3)],[(10,.ptr 4 []),(16,.ptr 0 [])]]⟩
theorem e26(T2:K_)(b:List (UInt8×Int×Unit)):x26 T2 b=HF (λy f g h k m n o a w p u v=>T2 (t17 b y f g h k m n o a w p u v)) b:=Eq.trans (b:=DU (Gb (λy f g h k m n o a w p u v=>T2 (t17 b y f g h k m n o a w p u v)) b) b) F5 (by rw[Azb];rfl)
theorem i17(b:List (UInt8×Int×Unit)):∀(q:Nat) (y f g h:Int) (k m:LB) (n:Bool) (o:Int) (a:LB) (w:List (Int×LB×Unit)) (p:LB) (u:LX) (v:List LB),z17 q (t17 b y f g h k m n o a w p u v)=Gc b q y f g h k m n o a w p u v:=
 ind (λ_ _ _ _ _ _ _ _ _ _ _ _ _=>by kernel_rfl) λq ih y f g h k m n o a w p u v=>Eq.trans (b:=DT (x26 (z17 q) b) (JH (λy f g h k m n o a w p u v=>(z17 q) (t17 b y f g h k m n o a w p u v)) b) (IE (λy f g h k m n o a w p u v=>(z17 q) (t17 b y f g h k m n o a w p u v)) b) (Gb (λy f g h k m n o a w p u v=>(z17 q) (t17 b y f g h k m n o a w p u v)) b) JI b y f g h k m n o a w p u v) F5 (by rw[Az9];simp only[e26,ih]<;>rfl)
def k:KC_:=kk_ 20 H (u6 Vc) func20 (λx=>Eq.trans (b:=u6 (MM (λb y f g h k m n o a w p u v=>z17 Du (t17 b y f g h k m n o a w p u v))) x) F5 (by simp only[i17,Bg]<;>rfl))
end F20
namespace F158
def H:=hd_ [Sq,Sq] [Sq,Sq] .d [] f158
def k:KC_:=kk_ 158 H (u2 QN) func158
end F158
namespace F103
def H:=hd_ [Sq,Sq] [Sq,Sq] .d [F158.k] f103
def k:KC_:=kk_ 103 H (u2 CF) func103
end F103
namespace F51
def Hw(j10:(List (UInt8×Int×Unit))->Option ((List (UInt8×Int×Unit))))(Z':Int-> (List (UInt8×Int×Unit))->Option ((List (UInt8×Int×Unit))))(b:Int)(a:List (UInt8×Int×Unit)):Option ((List (UInt8×Int×Unit))):=
if(Cw b (Ac a))then
both (
(VA (Ac a) b (Ac a)).bind λ_=>
(VA (Ac a) 0 b).bind λ_=>
Z' (Ae b (IK ((Ac a)-b) (JV a 0 (b-(0:Int))).length)) (Rv a b ((Ac a)-b) (JV a 0 (b-(0:Int))))) [
(VA (Ac a) 0 b).bind λ_=>
(VA (Ac a) b (Ac a)).bind λ_=>
Z' (Ae b (IK ((Ac a)-b) (JV a 0 (b-(0:Int))).length)) (Rv a b ((Ac a)-b) (JV a 0 (b-(0:Int))))]
else
j10 a
theorem Axv: @Hw= @Il:=by
  unfold Hw Il
  repeat (refine funext λ_=>?_)
  repeat' first
    |with_reducible rfl
    |with_reducible refine Ky ?_ ?_
    |with_reducible refine Kr ?_ ?_ ?_
    |with_reducible refine La ?_ ?_ ?_ ?_
    |((with_reducible refine Pj ?_ ?_);focus (intro h;first|(subst h;rfl)|(simp only[h];rfl)|(simp[Da,Ac,h];done)))
    |with_reducible refine Pa λx=>?_
    |with_reducible refine Vt (λ_=>?_) (λ_=>?_)
    |(refine Fq (λh=>by simp only[h,Pg,Ec,Ea,ite_self]) (λx h=>?_);(try simp only[h,Ec]))
    |(refine Hv (λh=>?_) (λh=>?_)<;>simp only[h,if_true,if_false,Bool.false_eq_true])
abbrev R_:=((List (UInt8×Int×Unit)))
def H:=hd_ [.lf (.list (.cons (.int .u8) (.cons (.int .i64) .nil))) none,Si] [.lf (.list (.cons (.int .u8) (.cons (.int .i64) .nil))) (some 104)] (.q (.cut [0,1] [] .d (.q (.cut [0,6] [] .d (.q (.q (.cut [7] [] (.blk (.loop [7,8] [] (.q (.blk (.mode false))))) .d))))))) [F103.k] f51 true
def t8(b:Int)(a:List (UInt8×Int×Unit)):S:=⟨[(7,.own 0),(8,vi b)],[.arr 104 (.cons (.int .u8) (.cons (.int .i64) .nil)) a],[]⟩
def z8:ZT_ R_:=H.i P_ [r,r,r,r,r,r,l,d]
theorem i8:∀(q:Nat) (b:Int) (a:List (UInt8×Int×Unit)),z8 q (t8 b a)=Im q b a:=
 ind (λ_ _=>by kernel_rfl) λq ih b a=>Eq.trans (b:=Hw Ni (λb a=>(z8 q) (t8 b a)) b a) F5 (by rw[Axv];simp only[ih]<;>rfl)
def k:KC_:=kk_ 51 H (u2 Kk) func51 (λx=>Eq.trans (b:=u2 (Oa (Ok (Od (λb a=>z8 Du (t8 b a))))) x) F5 (by simp only[i8,Bg]<;>rfl))
end F51
namespace F18
def H:=hd_ [Si,Si,Si] [.lf (.list (.cons (.int .u8) (.cons (.int .i64) .nil))) (some 104),Si] .d [F51.k] f18
def k:KC_:=kk_ 18 H (u3 Xu) func18
end F18
namespace F26
abbrev R_:=LB
def H:=hd_ [.lf (.list (.cons (.int .i64) (.cons (.list (.int .u8)) .nil))) none] [Ob 5] (.q (.q (.cut [3] [] (.q (.blk (.loop [3,6,7,8] [⟨3,[],.own 5 (.int .u8)⟩] .d))) .d))) [] f26
def t4(a:List (Int×LB×Unit))(f:Int)(b:LB):S:=⟨[(3,.own 0),(6,.val (.list (.cons (.int .i64) (.cons (.list (.int .u8)) .nil))) a),(7,vi (Ac a)),(8,vi f)],[Ab 5 b],[]⟩
def z4:ZT_ R_:=H.i P_ [r,r,l,r,d]
theorem i4(a:List (Int×LB×Unit)):∀(q:Nat) (f:Int) (b:LB),z4 q (t4 a f b)=Nt a q f b:=
 ind (λ_ _=>by kernel_rfl) λq ih f b=>Eq.trans (b:=Zq KX (λf b=>(z4 q) (t4 a f b)) a f b) F5 (by simp only[ih]<;>rfl)
def k:KC_:=kk_ 26 H Ay func26 (λx=>Eq.trans (b:=Ah0 (λa f b=>z4 Du (t4 a f b)) x) F5 (by simp only[i4,Bg]<;>rfl))
end F26
namespace F17
def H:=hd_ [] [Sz] .d [F18.k,F20.k,F21.k,F26.k] f17
def k:KC_:=kk_ 17 H (λ_=>Um) func17
end F17
namespace F6
def H:=hd_ [Ss] [.agg [Ss,Ob 5,.agg [Si,Si,Si,Si,Si],Ol 3,Si,Ob 5,Sz,Si],Si] .d [] f6
def k:KC_:=kk_ 6 H OS func6
end F6
namespace F48
def QD(a:LB):Option (LB):=
C5 a (
some ([]:LB)) (
(Da ([]:LB) a).bind λb=>
some b)
theorem Bao: @QD= @Iu:=by
  unfold QD Iu
  repeat (refine funext λ_=>?_)
  repeat' first
    |with_reducible rfl
    |with_reducible refine Ky ?_ ?_
    |with_reducible refine Kr ?_ ?_ ?_
    |with_reducible refine La ?_ ?_ ?_ ?_
    |((with_reducible refine Pj ?_ ?_);focus (intro h;first|(subst h;rfl)|(simp only[h];rfl)|(simp[Da,Ac,h];done)))
    |with_reducible refine Pa λx=>?_
    |with_reducible refine Vt (λ_=>?_) (λ_=>?_)
    |(refine Fq (λh=>by simp only[h,Pg,Ec,Ea,ite_self]) (λx h=>?_);(try simp only[h,Ec]))
    |(refine Hv (λh=>?_) (λh=>?_)<;>simp only[h,if_true,if_false,Bool.false_eq_true])
def H:=hd_ [Sb] [Ob 5] .d [] f48
def k:KC_:=kk_ 48 H Iu func48 (λx=>Eq.trans (b:=QD x) F5 (by simp only[Bao]<;>rfl))
end F48
namespace F97
def Rb(a:LI):Option (LI):=
C5 a (
some ([]:LI)) (
(Da ([]:LI) a).bind λb=>
some b)
theorem Axd: @Rb= @Gx:=by
  unfold Rb Gx
  repeat (refine funext λ_=>?_)
  repeat' first
    |with_reducible rfl
    |with_reducible refine Ky ?_ ?_
    |with_reducible refine Kr ?_ ?_ ?_
    |with_reducible refine La ?_ ?_ ?_ ?_
    |((with_reducible refine Pj ?_ ?_);focus (intro h;first|(subst h;rfl)|(simp only[h];rfl)|(simp[Da,Ac,h];done)))
    |with_reducible refine Pa λx=>?_
    |with_reducible refine Vt (λ_=>?_) (λ_=>?_)
    |(refine Fq (λh=>by simp only[h,Pg,Ec,Ea,ite_self]) (λx h=>?_);(try simp only[h,Ec]))
    |(refine Hv (λh=>?_) (λh=>?_)<;>simp only[h,if_true,if_false,Bool.false_eq_true])
def H:=hd_ [Sl] [Ol 3] .d [] f97
def k:KC_:=kk_ 97 H Gx func97 (λx=>Eq.trans (b:=Rb x) F5 (by simp only[Axd]<;>rfl))
end F97
namespace F45
def H:=hd_ [.agg [Ss,Sb,.agg [Si,Si,Si,Si,Si],Sl,Si,Sb,Sz,Si]] [.agg [Ss,Ob 5,.agg [Si,Si,Si,Si,Si],Ol 3,Si,Ob 5,Sz,Si]] .d [F48.k,F97.k] f45
def k:KC_:=kk_ 45 H (u12 Dz) func45
end F45
namespace F180
def Px(j10:LI->Option (LI))(Z':Int->LI->Option (LI))(b:Int)(a:LI):Option (LI):=
if(Cw b (Ac a))then
both (
(VA (Ac a) b (Ac a)).bind λ_=>
(VA (Ac a) 0 b).bind λ_=>
Z' (Ae b (IK ((Ac a)-b) (JV a 0 (b-(0:Int))).length)) (Rv a b ((Ac a)-b) (JV a 0 (b-(0:Int))))) [
(VA (Ac a) 0 b).bind λ_=>
(VA (Ac a) b (Ac a)).bind λ_=>
Z' (Ae b (IK ((Ac a)-b) (JV a 0 (b-(0:Int))).length)) (Rv a b ((Ac a)-b) (JV a 0 (b-(0:Int))))]
else
j10 a
theorem Ax7: @Px= @Ib:=by
  unfold Px Ib
  repeat (refine funext λ_=>?_)
  repeat' first
    |with_reducible rfl
    |with_reducible refine Ky ?_ ?_
    |with_reducible refine Kr ?_ ?_ ?_
    |with_reducible refine La ?_ ?_ ?_ ?_
    |((with_reducible refine Pj ?_ ?_);focus (intro h;first|(subst h;rfl)|(simp only[h];rfl)|(simp[Da,Ac,h];done)))
    |with_reducible refine Pa λx=>?_
    |with_reducible refine Vt (λ_=>?_) (λ_=>?_)
    |(refine Fq (λh=>by simp only[h,Pg,Ec,Ea,ite_self]) (λx h=>?_);(try simp only[h,Ec]))
    |(refine Hv (λh=>?_) (λh=>?_)<;>simp only[h,if_true,if_false,Bool.false_eq_true])
abbrev R_:=LI
def H:=hd_ [Sl,Si] [Ol 3] (.q (.cut [0,1] [] .d (.q (.cut [0,6] [] .d (.q (.q (.cut [7] [] (.blk (.loop [7,8] [] (.q (.blk (.mode false))))) .d))))))) [F103.k] f180 true
def t8(b:Int)(a:LI):S:=⟨[(7,.own 0),(8,vi b)],[Ai 3 a],[]⟩
def z8:ZT_ R_:=H.i P_ [r,r,r,r,r,r,l,d]
theorem i8:∀(q:Nat) (b:Int) (a:LI),z8 q (t8 b a)=Fi q b a:=
 ind (λ_ _=>by kernel_rfl) λq ih b a=>Eq.trans (b:=Px Kn (λb a=>(z8 q) (t8 b a)) b a) F5 (by rw[Ax7];simp only[ih]<;>rfl)
def k:KC_:=kk_ 180 H (u2 Ph) func180 (λx=>Eq.trans (b:=u2 (Ra (Qv (Rc (λb a=>z8 Du (t8 b a))))) x) F5 (by simp only[i8,Bg]<;>rfl))
end F180
namespace F210
abbrev R_:=LI
def H:=hd_ [.lf (.list (.list (.int .i64))) none] [Ol 3] (.q (.q (.cut [0,3] [] (.q (.blk (.loop [0,3,9,10,11] [] .d))) (.cut [0,6] [⟨6,[],.own 3 (.int .i64)⟩] (.keep [0,3,6,23,24] true) (.cut [6] [] (.q (.blk (.loop [6,25,26,27] [] .d))) .d))))) [] f210 true [(233,(.q (.cut [0,1] [] .d .d)))]
def t14(a:List LI)(g:Int)(f:LI):S:=⟨[(6,.own 0),(25,.val (.list (.list (.int .i64))) a),(26,vi (Ac a)),(27,vi g)],[Ai 3 f],[]⟩
def z14:ZT_ R_:=H.i P_ [r,r,r,r,l,r,d]
def t9(a:List LI)(b h:Int):S:=⟨[(0,.val (.list (.list (.int .i64))) a),(3,vi b),(9,.val (.list (.list (.int .i64))) a),(10,vi (Ac a)),(11,vi h)],[],[]⟩
def z9:ZT_ R_:=H.i P_ [r,r,l,r,d]
def x14(a:List LI)(g:Int)(f:LI):Option R_:=H.e P_ [r,r,r,r,l,r,d] (t14 a g f)
theorem i14(a:List LI):∀(q:Nat) (g:Int) (f:LI),z14 q (t14 a g f)=Ex a q g f:=
 ind (λ_ _=>by kernel_rfl) λq ih g f=>Eq.trans (b:=Hj AF (λg f=>(z14 q) (t14 a g f)) a g f) F5 (by simp only[ih]<;>rfl)
theorem e14:x14=Pu:=by funext a g f;exact Eq.trans F5 ((i14 a Du g f).trans (by rw[Bg];rfl))
theorem i9(a:List LI):∀(q:Nat) (b h:Int),z9 q (t9 a b h)=Fh a q b h:=
 ind (λ_ _=>by kernel_rfl) λq ih b h=>Eq.trans (b:=Hy (Pw (Pr (Pq x14))) (λb h=>(z9 q) (t9 a b h)) a b h) F5 (by simp only[e14,ih]<;>rfl)
def k:KC_:=kk_ 210 H Oz func210 (λx=>Eq.trans (b:=Qy (λa b h=>z9 Du (t9 a b h)) x) F5 (by simp only[i9,Bg]<;>rfl))
end F210
namespace F181
def H:=hd_ [Sl,Sl] [Ol 3] .d [F210.k] f181
def k:KC_:=kk_ 181 H (u2 UU) func181
end F181
namespace F141
def H:=hd_ [Si,Si] [Ol 3,Si] .d [F113.k,F179.k,F180.k,F181.k] f141
def k:KC_:=kk_ 141 H (u2 XI) func141
end F141
namespace F100
def H:=hd_ [.agg [Si,Si,Si,Si,Si]] [Ol 3,Si] .d [F87.k,F141.k] f100
def k:KC_:=kk_ 100 H (u5 Ei) func100
end F100
namespace F101
def H:=hd_ [.agg [Si,Si,Si,Si,Si],Ss] [Si] .d [] f101
def k:KC_:=kk_ 101 H (u6 Og) func101
end F101
namespace F49
abbrev R_:=Bool
def H:=hd_ [.agg [Ss,Sb,.agg [Si,Si,Si,Si,Si],Sl,Si,Sb,Sz,Si]] [Sz] (.q (.q (.q (.cut [1,3] [] .d (.q (.q (.q (.cut [1,5] [] (.q (.blk (.loop [1,5,83,84,85] [] .d))) .d)))))))) [F91.k,F100.k,F101.k] f49
def t6(w:LI)(o p:LB)(h b f k m:Int)(g:LI)(a:Int)(n:LB)(u:Bool)(v y aa:Int):S:=⟨[(1,.ptr 0 []),(5,vi y),(83,vl w),(84,vi (Ac w)),(85,vi aa)],[.box 28 (.agg [vs o,vb p,.agg [vi h,vi b,vi f,vi k,vi m],vl g,vi a,vb n,vt u,vi v])],[]⟩
def z6:ZT_ R_:=H.i P_ [r,r,r,r,r,r,r,l,r,d]
theorem i6(w:LI)(o p:LB)(h b f k m:Int)(g:LI)(a:Int)(n:LB)(u:Bool)(v:Int):∀(q:Nat) (y aa:Int),z6 q (t6 w o p h b f k m g a n u v y aa)=Pz w o p h b f k m g a n u v q y aa:=
 ind (λ_ _=>by kernel_rfl) λq ih y aa=>Eq.trans (b:=CM QQ (λy aa=>(z6 q) (t6 w o p h b f k m g a n u v y aa)) w o p h b f k m g a n u v y aa) F5 (by simp only[ih]<;>rfl)
def k:KC_:=kk_ 49 H (u12 Za) func49 (λx=>Eq.trans (b:=u12 (QV (QP (λw o p h b f k m g a n u v y aa=>z6 Du (t6 w o p h b f k m g a n u v y aa)))) x) F5 (by simp only[i6,Bg]<;>rfl))
end F49
namespace F165
def H:=hd_ [Sb,Sb] [Sz] .d [] f165
def k:KC_:=kk_ 165 H (u2 Ki) func165
end F165
namespace F177
def H:=hd_ [Sb,Sb] [Sz] .d [F165.k] f177
def k:KC_:=kk_ 177 H (u2 Mi) func177
end F177
namespace F235
abbrev R_:=(Int×Int)
def H:=hd_ [Sb] [Si,Si] (.q (.q (.q (.cut [4] [] (.q (.blk (.loop [4,10,11,12] [] .d))) .d)))) [] f235
def t4(a:LB)(b f:Int):S:=⟨[(4,vi b),(10,vb a),(11,vi (Ac a)),(12,vi f)],[],[]⟩
def z4:ZT_ R_:=H.i P_ [r,r,r,l,r,d]
theorem i4(a:LB):∀(q:Nat) (b f:Int),z4 q (t4 a b f)=Nq a q b f:=
 ind (λ_ _=>by kernel_rfl) λq ih b f=>Eq.trans (b:=Zg Ai0 (λb f=>(z4 q) (t4 a b f)) a b f) F5 (by simp only[ih]<;>rfl)
def k:KC_:=kk_ 235 H MW func235 (λx=>Eq.trans (b:=MN (λa b f=>z4 Du (t4 a b f)) x) F5 (by simp only[i4,Bg]<;>rfl))
end F235
namespace F217
def LZ(j5:LB->UInt8->UInt8->Option (Int×Int))(a:LB):Option (Int×Int):=
(Mi a ([(73:UInt8),(68:UInt8),(51:UInt8)]:LB)).bind λn=>
if(!n)then
some (0,6)
else
if(Cw (Ac a) 10)then
some (0,24)
else
(Aj a 3).bind λf=>
(Aj a 5).bind λb=>
(λo:Option (Int×Int)=>
(λp:Option (Int×Int)=>
both (
both (
bo (
j5 a f b)) [
o,
o]) [
bo2 (
bo (
j5 a f b)),
p,
p]) (
both (
o) [
bo (
j5 a f b),
both (
bo (
j5 a f b)) [
j5 a f b]])) (
both (
j5 a f b) [
bo (
j5 a f b)])
theorem Ba2: @LZ= @CO:=by
  unfold LZ CO
  try simp only[RZ,AH,BB]
  all_goals
    repeat (refine funext λ_=>?_)
    repeat' first
      |with_reducible rfl
      |with_reducible refine Ky ?_ ?_
      |with_reducible refine Kr ?_ ?_ ?_
      |with_reducible refine La ?_ ?_ ?_ ?_
      |((with_reducible refine Pj ?_ ?_);focus (intro h;first|(subst h;rfl)|(simp only[h];rfl)|(simp[Da,Ac,h];done)))
      |with_reducible refine Pa λx=>?_
      |with_reducible refine Vt (λ_=>?_) (λ_=>?_)
      |(refine Fq (λh=>by simp only[h,Pg,Ec,Ea,ite_self]) (λx h=>?_);(try simp only[h,Ec]))
      |(refine Hv (λh=>?_) (λh=>?_)<;>simp only[h,if_true,if_false,Bool.false_eq_true])
abbrev R_:=(Int×Int)
def H:=hd_ [Sb] [Si,Si] (.q (.q (.q (.cut [0,4,5] [] (.mode false) (.q (.q (.cut [0,5,6] [] (.cut [0,5,6,43] [] (.keep [0,5,6,7,8,31,32,33,34,35,36,37,38,39,40,41,42,43] true) .d) (.q (.cut [0,5,6] [] .d .d))))))))) [F165.k,F177.k,F235.k] f217 false [(236,.d)]
def x6(a:LB)(g:Int)(b:UInt8)(m:Bool):Option R_:=H.e P_ [r,r,r,r,r,r,l,r] ⟨[(0,vb a),(5,.ptr 0 []),(6,vi g),(43,vt m)],[.box 5 (vc b)],[]⟩
def x5(a:LB)(f b:UInt8):Option R_:=H.e P_ [r,r,r,r] ⟨[(0,vb a),(4,.ptr 0 []),(5,.ptr 1 [])],[.box 5 (vc f),.box 5 (vc b)],[]⟩
theorem e6:x6=PW:=F5
theorem e5:x5=QH:=Eq.trans (b:=QX x6) F5 (by simp only[e6]<;>rfl)
def k:KC_:=kk_ 217 H SH func217 (λx=>Eq.trans (b:=LZ x5 x) F5 (by rw[Ba2];simp only[e5]<;>rfl))
end F217
namespace F167
abbrev R_:=(UInt64×Int)
def H:=hd_ [Sb] [Sq,Si] (.q (.q (.q (.cut [4] [] (.q (.blk (.loop [4,15,16,17] [] .d))) .d)))) [] f167
def t4(a:LB)(f:UInt64)(b:Int):S:=⟨[(4,vq f),(15,vb a),(16,vi (Ac a)),(17,vi b)],[],[]⟩
def z4:ZT_ R_:=H.i P_ [r,r,r,l,r,d]
theorem i4(a:LB):∀(q:Nat) (f:UInt64) (b:Int),z4 q (t4 a f b)=EM a q f b:=
 ind (λ_ _=>by kernel_rfl) λq ih f b=>Eq.trans (b:=XZ Avf (λf b=>(z4 q) (t4 a f b)) a f b) F5 (by simp only[ih]<;>rfl)
def k:KC_:=kk_ 167 H kG func167 (λx=>Eq.trans (b:=mL (λa f b=>z4 Du (t4 a f b)) x) F5 (by simp only[i4,Bg]<;>rfl))
end F167
namespace F155
def H:=hd_ [Sb,Si,Si] [Sq,Si] .d [F167.k] f155
def k:KC_:=kk_ 155 H (u3 cA) func155
end F155
namespace F76
abbrev R_:=LB
def H:=hd_ [Si,Si,Sq] [Ob 5] (.q (.q (.cut [7] [] (.q (.blk (.loop [7,20,21,22] [] .d))) .d))) [F88.k] f76
def t4(a b:Int)(f:UInt64)(h:Int)(g:LB):S:=⟨[(7,.own 0),(20,.own 1),(21,vi (Ac ([(2000:UInt64),(Ad (Ae a (32:Int)):UInt64),(Ad b:UInt64),f,(0:UInt64),(0:UInt64)]:LQ))),(22,vi h)],[Ab 5 g,.arr 140 (.int .u64) ([(2000:UInt64),(Ad (Ae a (32:Int)):UInt64),(Ad b:UInt64),f,(0:UInt64),(0:UInt64)]:LQ)],[]⟩
def z4:ZT_ R_:=H.i P_ [r,r,l,r,d]
theorem i4(a b:Int)(f:UInt64):∀(q:Nat) (h:Int) (g:LB),z4 q (t4 a b f h g)=EH a b f q h g:=
 ind (λ_ _=>by kernel_rfl) λq ih h g=>Eq.trans (b:=eJ qT (λh g=>(z4 q) (t4 a b f h g)) a b f h g) F5 (by simp only[ih]<;>rfl)
def k:KC_:=kk_ 76 H (u3 nB) func76 (λx=>Eq.trans (b:=u3 (rJ (λa b f h g=>z4 Du (t4 a b f h g))) x) F5 (by simp only[i4,Bg]<;>rfl))
end F76
namespace F178
def H:=hd_ [Sb,Sq] [.agg [Si,Si],Sz] .d [F76.k,F155.k,F165.k] f178
def k:KC_:=kk_ 178 H (u2 TE) func178
end F178
namespace F218
def H:=hd_ [Sb] [Si,Si] .d [F76.k,F165.k,F177.k,F178.k] f218
def k:KC_:=kk_ 218 H nG func218
end F218
namespace F193
def H:=hd_ [Sb] [Si,Si] .d [F217.k,F218.k] f193
def k:KC_:=kk_ 193 H Xw func193
end F193
theorem VW:ConOk Tryz.prog gl 98 CK:=Ax2 ent98 F193.k.2
namespace F96
def H:=hd_ [Si] [.agg [Sz,Si]] .d [] f96
def k:KC_:=kk_ 96 H Ak func96
end F96
namespace F194
def H:=hd_ [Ss,Ss] [Sz] .d [] f194
def k:KC_:=kk_ 194 H (u2 Hf) func194
end F194
namespace F154
def H:=hd_ [Ss,Ss] [Sz] .d [F194.k] f154
def k:KC_:=kk_ 154 H (u2 Je) func154
end F154
namespace F150
abbrev R_:=Bool
def H:=hd_ [Sb] [Sz] (.q (.cut [] [] (.q (.blk (.loop [0,5,6] [] .d))) .d)) [F154.k] f150
def t4(a:LB)(b:Int):S:=⟨[(0,vb a),(5,.val (.vec 2 .str) ([([73,68,51]:LB),([65,80,69,84,65,71,69,88]:LB)]:List LB)),(6,vi b)],[],[]⟩
def z4:ZT_ R_:=H.i P_ [r,l,r,d]
theorem i4(a:LB):∀(q:Nat) (b:Int),z4 q (t4 a b)=Kf a q b:=
 ind (λ_=>by kernel_rfl) λq ih b=>Eq.trans (b:=Uw Aji (λb=>(z4 q) (t4 a b)) a b) F5 (by simp only[ih]<;>rfl)
def k:KC_:=kk_ 150 H Qs func150 (λx=>Eq.trans (b:=QT (λa b=>z4 Du (t4 a b)) x) F5 (by simp only[i4,Bg]<;>rfl))
end F150
namespace F99
abbrev R_:=(Int×Int×Int×Int×Int×Int)
def H:=hd_ [Sb] [.agg [Si,Si,Si,Si,Si],Si] (.q (.q (.q (.q (.q (.q (.q (.cut [2,8] [] (.q (.blk (.loop [0,2,8,9,44,45] [] .d))) .d)))))))) [F89.k,F146.k,F147.k,F154.k,F155.k] f99
def t4(b:LB)(g f:Int)(a:LI):S:=⟨[(0,vb b),(2,.ptr 0 []),(8,.ptr 1 []),(9,vi g),(44,.val (.vec 5 (.int .i64)) ([(2:Int),(2:Int),(2:Int),(4:Int),(4:Int)]:LI)),(45,vi f)],[.box 24 (.agg [vi 0,vi 0,vi 0,vi 0,vi 0]),.box 161 (.val (.vec 5 (.int .i64)) a)],[]⟩
def z4:ZT_ R_:=H.i P_ [r,r,r,r,r,r,r,l,r,d]
theorem i4(b:LB):∀(q:Nat) (g f:Int) (a:LI),z4 q (t4 b g f a)=Ny b q g f a:=
 ind (λ_ _ _=>by kernel_rfl) λq ih g f a=>Eq.trans (b:=GK GJ (λg f a=>(z4 q) (t4 b g f a)) b g f a) F5 (by simp only[ih]<;>rfl)
def k:KC_:=kk_ 99 H Qi func99 (λx=>Eq.trans (b:=VL (λb g f a=>z4 Du (t4 b g f a)) x) F5 (by simp only[i4,Bg]<;>rfl))
end F99
namespace F127
def H:=hd_ [Sb,Ss] [Sz,Si] .d [F38.k,F165.k] f127
def k:KC_:=kk_ 127 H (u2 IY) func127
end F127
namespace F128
abbrev R_:=(LI×Int)
def H:=hd_ [Sb,Si] [Ol 3,Si] (.q (.q (.q (.q (.q (.q (.cut [10] [] (.q (.blk (.loop [0,10,48,49] [] .d))) .d))))))) [F89.k,F91.k,F155.k] f128
def t4(a:LB)(f:LI)(g:Int)(b:LI):S:=⟨[(0,vb a),(10,.own 0),(48,vi (Ac f)),(49,vi g)],[Ai 3 b],[]⟩
def z4:ZT_ R_:=H.i P_ [r,r,r,r,r,r,l,r,d]
theorem i4(a:LB)(f:LI):∀(q:Nat) (g:Int) (b:LI),z4 q (t4 a f g b)=Vh a f q g b:=
 ind (λ_ _=>by kernel_rfl) λq ih g b=>Eq.trans (b:=MV MR (λg b=>(z4 q) (t4 a f g b)) a f g b) F5 (by simp only[ih]<;>rfl)
def k:KC_:=kk_ 128 H (u2 UX) func128 (λx=>Eq.trans (b:=u2 (aD (λa f g b=>z4 Du (t4 a f g b))) x) F5 (by simp only[i4,Bg]<;>rfl))
end F128
namespace F151
def H:=hd_ [.agg [Si,Si,Si,Si,Si]] [.agg [Si,Si]] .d [] f151
def k:KC_:=kk_ 151 H (u5 BR) func151
end F151
namespace F131
def H:=hd_ [Sb] [Sb,Si] .d [F89.k,F167.k] f131
def k:KC_:=kk_ 131 H HQ func131
end F131
namespace F132
def H:=hd_ [Sb] [.agg [Ob 5,Si],Si] .d [F109.k] f132
def k:KC_:=kk_ 132 H za func132
end F132
namespace F172
abbrev R_:=UInt64
def H:=hd_ [.agg [Sb,Si],Si,Si] [Sq] (.q (.q (.cut [7] [] (.blk (.loop [1,2,3,7,8] [] .d)) .d))) [] f172
def t4(b f:Int)(h:LB)(k:Int)(g:UInt64)(a:Int):S:=⟨[(1,vi b),(2,vi f),(3,.ptr 0 []),(7,vq g),(8,vi a)],[.box 206 (.agg [vb h,vi k])],[]⟩
def z4:ZT_ R_:=H.i P_ [r,r,l,d]
theorem i4(b f:Int)(h:LB)(k:Int):∀(q:Nat) (g:UInt64) (a:Int),z4 q (t4 b f h k g a)=OH b f h k q g a:=
 ind (λ_ _=>by kernel_rfl) λq ih g a=>Eq.trans (b:=lF Aw6 (λg a=>(z4 q) (t4 b f h k g a)) b f h k g a) F5 (by simp only[ih]<;>rfl)
def k:KC_:=kk_ 172 H (u4 uI) func172 (λx=>Eq.trans (b:=u4 (Aun (λb f h k g a=>z4 Du (t4 b f h k g a))) x) F5 (by simp only[i4,Bg]<;>rfl))
end F172
namespace F169
abbrev R_:=(LB×Int×Int)
abbrev K_:=S->Option R_
def H:=hd_ [.agg [Sb,Si],Si,Si] [.agg [Ob 5,Si],Si] (.q (.q (.q (.q (.cut [6,8] [] (.q (.blk (.loop [2,3,6,8,9] [⟨8,[0],.own 5 (.int .u8)⟩] (.q (.cut [2,3,6,8,9] [] (.blk (.q (.keep [2,3,6,8,9,10,39,40,41,42,43] true))) .d))))) .d))))) [F171.k,F172.k] f169 false [(202,(.blk (.loop [0,1,2] [] (.q (.blk (.cut [0,1,2] [] .d (.q (.cut [0,1,2,7] [] .d .d))))))))]
def t44(a:Int)(g:LB)(b f:Int)(m n:UInt64)(k h:Int)(u:LB):S:=⟨[(0,.ptr 0 []),(1,vq n),(2,vi k)],[.box 206 (.agg [.own 3,vi h]),.box 206 (.agg [vb g,vi b]),.box 206 (.agg [.nils,vi 0]),Ab 5 u],[[(2,vi a),(3,.ptr 1 []),(6,.ptr 2 []),(8,.ptr 0 []),(9,vi f),(10,vi (Ee (64:Int) (Am a f))),(39,.agg [vb g,vi b]),(40,vi f),(41,vi (Ee (64:Int) (Am a f))),(42,vq m),(43,vi (Ee (64:Int) (Am a f)))]]⟩
def z44(RC:K_):ZT_ R_:=H.i P_ [r,r,r,r,l,r,d,(lp RC),r,l,d,r,(call 5 202),d]
def t27(a:Int)(g:LB)(b f o:Int)(p:LB):S:=⟨[(2,vi a),(3,.ptr 0 []),(6,.ptr 1 []),(8,.ptr 2 []),(9,vi f)],[.box 206 (.agg [vb g,vi b]),.box 206 (.agg [.nils,vi 0]),.box 206 (.agg [.own 3,vi o]),Ab 5 p],[]⟩
def z27:ZT_ R_:=H.i P_ [r,r,r,r,l,r,d]
def x44(RC:K_)(a:Int)(g:LB)(b f:Int)(m n:UInt64)(k h:Int)(u:LB):Option R_:=H.e P_ [r,r,r,r,l,r,d,(lp RC),r,l,d,r,(call 5 202),d] (t44 a g b f m n k h u)
theorem i44(RC:K_)(a:Int)(g:LB)(b f:Int)(m:UInt64):∀(q:Nat) (n:UInt64) (k h:Int) (u:LB),z44 RC q (t44 a g b f m n k h u)=Qj (λf o p=>RC (t27 a g b f o p)) a g b f m q n k h u:=
 ind (λ_ _ _ _=>by kernel_rfl) λq ih n k h u=>Eq.trans (b:=SM (SQ (λn k h u=>(z44 RC q) (t44 a g b f m n k h u)) a f g b m) (SG (λf o p=>RC (t27 a g b f o p)) a g b) a g b f m n k h u) F5 (by simp only[ih]<;>rfl)
theorem e44(RC:K_)(a:Int)(g:LB)(b:Int):x44 RC a g b=fC (λf o p=>RC (t27 a g b f o p)) a g b:=by funext f m n k h u;exact Eq.trans F5 ((i44 RC a g b f m Du n k h u).trans (by rw[Bg];rfl))
theorem i27(a:Int)(g:LB)(b:Int):∀(q:Nat) (f o:Int) (p:LB),z27 q (t27 a g b f o p)=Yy a g b q f o p:=
 ind (λ_ _ _=>by kernel_rfl) λq ih f o p=>Eq.trans (b:=eZ (x44 (z27 q) a g b) dP a g b f o p) F5 (by simp only[e44,ih]<;>rfl)
def k:KC_:=kk_ 169 H (u4 lD) func169 (λx=>Eq.trans (b:=u4 (lI (λa g b f o p=>z27 Du (t27 a g b f o p))) x) F5 (by simp only[i27,Bg]<;>rfl))
end F169
namespace F134
def H:=hd_ [.agg [Sb,Si],Si,Si] [Sq,Si] .d [F171.k,F172.k] f134
def k:KC_:=kk_ 134 H (u4 IF) func134
end F134
namespace F244
def H:=hd_ [Sq] [Si] .d [] f244
def k:KC_:=kk_ 244 H Hi func244
end F244
namespace F228
def WO(j6:Int->UInt64->Int->LB->Int->Option (Int×Int×Int))(g:LB)(b a:Int):Option (Int×Int×Int):=
(Ju g b).bind λm=>
if(Bj m 0)then
some (0,0,m)
else
if(Cw a 0)then
some (0,0,2)
else
if(Lo a b)then
some (0,0,24)
else
(λn:Option (Int×Int×Int)=>
(λo:Option (Int×Int×Int)=>
bo2 (
o)) (
bo (
n))) (
(IF g b a (Ee 48 (Am b a))).bind λ(k,h)=>
j6 h k a g b)
theorem Bas: @WO= @CE:=by
  unfold WO CE;simp only[RZ,AH,BB]
abbrev R_:=(Int×Int×Int)
def H:=hd_ [.agg [Sb,Si],Si] [Si,Si,Si] (.q (.q (.q (.q (.q (.cut [3,5,6,8,9] [] (.keep [2,3,5,6,8,9,22,23,24,25,26,27,28,29] false) (.q (.q (.cut [] [] (.blk (.seq (.blk (.seq (.blk (.cut [] [] (.cut [3,4,5] [] (.cut [3,4,5,36] [] (.keep [3,4,5,8,36,37,38,39,40] true) .d) .d) .d)) .d)) .d)) .d))))))))) [F134.k,F171.k,F244.k] f228 false [(243,.d)]
def k:KC_:=kk_ 228 H (u3 MH) func228 (λx=>Eq.trans (b:=u3 (WO ZL) x) F5 (by simp only[Bas]<;>rfl))
end F228
namespace F203
abbrev R_:=(UInt32×Int×Int)
def H:=hd_ [.agg [Sb,Si],Si,Si] [Su,Si,Si] (.q (.q (.q (.q (.q (.q (.cut [2,3,7,10,11] [] .d .d))))))) [F134.k,F171.k,F214.k,F228.k] f203
def k:KC_:=kk_ 203 H (u4 nO) func203
end F203
namespace F170
abbrev R_:=(UInt32×Int×Int×Int×UInt64×UInt64×Int)
def H:=hd_ [.agg [Sb,Si],Si,.agg [Si,Si,Sq,Sq]] [Su,Si,.agg [Si,Si,Sq,Sq],Si] (.q (.cut [1,3,5,8] [] .d (.q (.q (.cut [5,6,7,8] [] .d (.cut [5,6,7,8] [] (.keep [5,6,7,8,81] true) .d)))))) [F134.k,F171.k,F186.k,F187.k,F203.k] f170 false [(190,(.q (.q (.q (.blk (.cut [0,1,4] [] (.blk (.q (.keep [0,1,4,6,18,19,20,21,22,23,24,25] true))) (.cut [] [] (.keep [0,1,4,27,28,29,30,31,32,33,34] true) .d))))))),(216,.d)]
def x8(f:UInt32)(k a:Int)(b:UInt64)(m:Int)(n:UInt64):Option R_:=H.e P_ [r,r,r,r,r,l,(call 1 190),r,r,r,d,r] ⟨[(0,.ptr 0 []),(1,vu f),(4,.fn 216 [])],[.box 222 (.agg [vi a,vi m,vq b,vq n]),.box 222 (.agg [vi 0,vi 0,vq 0,vq 0])],[[(5,.ptr 0 []),(6,vu f),(7,vi k),(8,.ptr 1 []),(81,vu f)]]⟩
theorem e8:x8=JE:=F5
def k:KC_:=kk_ 170 H (u7 MA) func170 (λx=>Eq.trans (b:=u7 (fR (dX (dQ x8))) x) F5 (by simp only[e8]<;>rfl))
end F170
namespace F133
def AU(j21:Int->Int->Int->UInt32->Int-> (List (Int×Int×UInt64×UInt64×Unit))->LU->Int->Int->UInt64->UInt64->Option (LU×Int×Int))(j24:Int->LU->Option (LU×Int×Int))(a f:Int)(g:LB)(b k h:Int)(m:List (Int×Int×UInt64×UInt64×Unit))(n:LU):Option (LU×Int×Int):=
if(Cw h (Br f a))then
(lD g b k (Ee (Ae k 81) b)).bind λ(ag,ae,af)=>
if(Bj af 0)then
some (([]:LU),0,af)
else
(Ke (Bj a 0)).bind λ_=>
(Aj m (Hl h a)).bind λ_=>
(λai:Option (LU×Int×Int)=>
both (
both (
(Aj m (Hl h a)).bind λo=>
(λao:Option (LU×Int×Int)=>
bo (
ao)) (
(MA ag ae 0 o.1 o.2.1 o.2.2.1 o.2.2.2.1).bind λ(w,v,aa,ab,ac,ad,y)=>
j21 k h y w v m n aa ab ac ad)) [
ai]) [
(Aj m (Hl h a)).bind λo=>
(λaj:Option (LU×Int×Int)=>
both (
bo (
aj)) [
aj]) (
(MA ag ae 0 o.1 o.2.1 o.2.2.1 o.2.2.2.1).bind λ(w,v,aa,ab,ac,ad,y)=>
j21 k h y w v m n aa ab ac ad),
bo (
ai)]) (
(Aj m (Hl h a)).bind λo=>
(MA ag ae 0 o.1 o.2.1 o.2.2.1 o.2.2.2.1).bind λ(w,v,aa,ab,ac,ad,y)=>
j21 k h y w v m n aa ab ac ad)
else
j24 k n
theorem Ayo: @AU= @Ur:=by
  unfold AU Ur
  try simp only[RZ,AH,BB]
  all_goals
    repeat (refine funext λ_=>?_)
    repeat' first
      |with_reducible rfl
      |with_reducible refine Ky ?_ ?_
      |with_reducible refine Kr ?_ ?_ ?_
      |with_reducible refine La ?_ ?_ ?_ ?_
      |((with_reducible refine Pj ?_ ?_);focus (intro h;first|(subst h;rfl)|(simp only[h];rfl)|(simp[Da,Ac,h];done)))
      |with_reducible refine Pa λx=>?_
      |with_reducible refine Vt (λ_=>?_) (λ_=>?_)
      |(refine Fq (λh=>by simp only[h,Pg,Ec,Ea,ite_self]) (λx h=>?_);(try simp only[h,Ec]))
      |(refine Hv (λh=>?_) (λh=>?_)<;>simp only[h,if_true,if_false,Bool.false_eq_true])
abbrev R_:=(LU×Int×Int)
abbrev K_:=S->Option R_
def H:=hd_ [Si,Si,.agg [Sb,Si]] [Ov 163,Si,Si] (.q (.q (.cut [0,1,5,9] [] (.q (.blk (.loop [0,1,5,9,19] [] .d))) (.q (.q (.cut [11,12] [] (.q (.blk (.loop [0,5,9,11,12,28,29] [⟨11,[],.own 163 (.int .u32)⟩] (.q (.q (.seq (.blk (.q (.q (.q (.cut [0,5,9,11,12,13,15,16,17,18,28,29] [] (.mode false) (.q (.cut [0,5,9,11,12,16,28,29] [] .d .d))))))) .d)))))) .d)))))) [F168.k,F169.k,F170.k] f133
def t16(a f:Int)(g:LB)(b k h:Int)(m:List (Int×Int×UInt64×UInt64×Unit))(n:LU):S:=⟨[(0,vi a),(5,.ptr 0 []),(9,.ptr 1 []),(11,.own 2),(12,vi k),(28,vi (Br f a)),(29,vi h)],[.box 206 (.agg [vb g,vi b]),.box 223 (.val (.vec 6 (.cons (.int .i64) (.cons (.int .i64) (.cons (.int .u64) (.cons (.int .u64) .nil))))) m),Av 163 n],[]⟩
def z16:ZT_ R_:=H.i P_ [r,r,r,r,r,l,r,d]
def t13(a f:Int)(g:LB)(b u:Int)(p:List (Int×Int×UInt64×UInt64×Unit)):S:=⟨[(0,vi a),(1,vi f),(5,.ptr 0 []),(9,.ptr 1 []),(19,vi u)],[.box 206 (.agg [vb g,vi b]),.box 223 (.val (.vec 6 (.cons (.int .i64) (.cons (.int .i64) (.cons (.int .u64) (.cons (.int .u64) .nil))))) p)],[]⟩
def z13:ZT_ R_:=H.i P_ [r,r,l,r,d]
def x16(a f:Int)(g:LB)(b k h:Int)(m:List (Int×Int×UInt64×UInt64×Unit))(n:LU):Option R_:=H.e P_ [r,r,r,r,r,l,r,d] (t16 a f g b k h m n)
theorem i16(a f:Int)(g:LB)(b:Int):∀(q:Nat) (k h:Int) (m:List (Int×Int×UInt64×UInt64×Unit)) (n:LU),z16 q (t16 a f g b k h m n)=Nx a f g b q k h m n:=
 ind (λ_ _ _ _=>by kernel_rfl) λq ih k h m n=>Eq.trans (b:=AU (Ty (λk h m n=>(z16 q) (t16 a f g b k h m n)) a f g b) Acr a f g b k h m n) F5 (by rw[Ayo];simp only[ih]<;>rfl)
theorem e16:x16=Ad4:=by funext a f g b k h m n;exact Eq.trans F5 ((i16 a f g b Du k h m n).trans (by rw[Bg];rfl))
theorem i13(a f:Int)(g:LB)(b:Int):∀(q:Nat) (u:Int) (p:List (Int×Int×UInt64×UInt64×Unit)),z13 q (t13 a f g b u p)=DI a f g b q u p:=
 ind (λ_ _=>by kernel_rfl) λq ih u p=>Eq.trans (b:=Ac2 (Abu x16) (λu p=>(z13 q) (t13 a f g b u p)) a f g b u p) F5 (by simp only[e16,ih]<;>rfl)
def k:KC_:=kk_ 133 H (u4 HN) func133 (λx=>Eq.trans (b:=u4 (HM (λa f g b u p=>z13 Du (t13 a f g b u p))) x) F5 (by simp only[i13,Bg]<;>rfl))
end F133
namespace F175
def H:=hd_ [Su] [Sx] .d [] f175
def k:KC_:=kk_ 175 H Zs func175
end F175
namespace F207
def H:=hd_ [.agg [Si,.lf (.vec 16 (.int .i32)) none,.lf (.vec 16 (.int .i32)) none],Sx] [Sx,.agg [Si,.lf (.vec 16 (.int .i32)) none,.lf (.vec 16 (.int .i32)) none],Si] .d [F231.k,F232.k] f207
def k:KC_:=kk_ 207 H (u4 mE) func207
end F207
namespace F174
def UQ(a:Int)(b:Int32)(f:Int)(g h:LX)(o:Int32):Option (Int32×Int×Int32×Int×LX×LX×Int):=
(Xx a b f g h).bind λk=>
if(Bj k 0)then
some (0,0,0,0,(List.replicate 16 (0:Int32)),(List.replicate 16 (0:Int32)),k)
else
(Xz a b).bind λ(m,y)=>
(mE f g h o).bind λ(n,p,u,v,w)=>
(λaa:Option (Int32×Int×Int32×Int×LX×LX×Int)=>
bo (
aa)) (
some ((Ae n m),a,(Ae n m),p,u,v,w))
theorem Baw: @UQ= @Mk:=by
  unfold UQ Mk;simp only[RZ,AH,BB]
def H:=hd_ [.agg [Si,Sx,.agg [Si,.lf (.vec 16 (.int .i32)) none,.lf (.vec 16 (.int .i32)) none]],Sx] [Sx,.agg [Si,Sx,.agg [Si,.lf (.vec 16 (.int .i32)) none,.lf (.vec 16 (.int .i32)) none]],Si] (.q (.q (.q (.q (.seq (.mode false) .d))))) [F205.k,F206.k,F207.k] f174
def k:KC_:=kk_ 174 H (u6 Mk) func174 (λx=>Eq.trans (b:=u6 UQ x) F5 (by simp only[Baw]<;>rfl))
end F174
namespace F176
abbrev R_:=(LX×Int)
abbrev K_:=S->Option R_
def H:=hd_ [Si,Sw] [Ow 21,Si] (.q (.q (.q (.cut [7] [] (.q (.blk (.loop [0,7,8] [] (.q (.cut [0,7,8] [] (.blk (.keep [0,7,8,24,25,26,27,28,29] true)) .d))))) .d)))) [F160.k,F208.k] f176 true [(209,(.q (.cut [0,2] [] .d (.q (.blk (.loop [0,3] [] .d))))))]
def t18(b a g:Int)(h:LX):S:=⟨[(0,.view true 0 [] (.int .i32) a ((Ae a b)-a)),(3,vi g)],[Aw 21 h],[[(0,vi b),(7,.own 0),(8,vi a),(24,.own 0),(25,vi a),(26,vi a),(27,vi b),(28,vi (Ae a b)),(29,.view true 0 [] (.int .i32) a ((Ae a b)-a))]]⟩
def z18(RB:K_):ZT_ R_:=H.i P_ [r,r,r,l,r,d,(lp RB),r,l,d,(call 6 209),r,r,r,d]
def t12(b a:Int)(f:LX):S:=⟨[(0,vi b),(7,.own 0),(8,vi a)],[Aw 21 f],[]⟩
def z12:ZT_ R_:=H.i P_ [r,r,r,l,r,d]
def x18(RB:K_)(b a g:Int)(h:LX):Option R_:=H.e P_ [r,r,r,l,r,d,(lp RB),r,l,d,(call 6 209),r,r,r,d] (t18 b a g h)
theorem i18(RB:K_)(b a:Int):∀(q:Nat) (g:Int) (h:LX),z18 RB q (t18 b a g h)=Zo (λa f=>RB (t12 b a f)) b a q g h:=
 ind (λ_ _=>by kernel_rfl) λq ih g h=>Eq.trans (b:=SJ (eT (λa f=>RB (t12 b a f)) b) (λg h=>(z18 RB q) (t18 b a g h)) b a g h) F5 (by simp only[ih]<;>rfl)
theorem e18(RB:K_)(b:Int):x18 RB b=dO (λa f=>RB (t12 b a f)) b:=by funext a g h;exact Eq.trans F5 ((i18 RB b a Du g h).trans (by rw[Bg];rfl))
theorem i12(b:Int):∀(q:Nat) (a:Int) (f:LX),z12 q (t12 b a f)=Uc b q a f:=
 ind (λ_ _=>by kernel_rfl) λq ih a f=>Eq.trans (b:=dK (dE (x18 (z12 q) b) b) Aso b a f) F5 (by simp only[e18,ih]<;>rfl)
def k:KC_:=kk_ 176 H (u2 tD) func176 (λx=>Eq.trans (b:=u2 (mH (λb a f=>z12 Du (t12 b a f))) x) F5 (by simp only[i12,Bg]<;>rfl))
end F176
namespace F135
def Yg(j16:Int->Int32->Int-> (List (Int×Int32×(Int×LX×LX×Unit)×Unit))->LX->Int->Int32->Int->LX->LX->Option (LX×Int))(j18:Int->Int->LX->Option (LX×Int))(f:LU)(a b g:Int)(h:List (Int×Int32×(Int×LX×LX×Unit)×Unit))(k:LX):Option (LX×Int):=
if(Cw g (Ac f))then
(Aj f g).bind λag=>
(Ke (Bj a 0)).bind λ_=>
(Aj h (Hl g a)).bind λ_=>
both (
(Aj h (Hl g a)).bind λm=>
both (
(Zs ag).bind λae=>
(λao:Option (LX×Int)=>
bo (
ao)) (
(Mk m.1 m.2.1 m.2.2.1.1 m.2.2.1.2.1 m.2.2.1.2.2.1 ae).bind λ(y,aa,w,ab,ac,ad,v)=>
j16 g y v h k aa w ab ac ad)) [
(Zs ag).bind λae=>
(Mk m.1 m.2.1 m.2.2.1.1 m.2.2.1.2.1 m.2.2.1.2.2.1 ae).bind λ(y,aa,w,ab,ac,ad,v)=>
j16 g y v h k aa w ab ac ad]) [
(Zs ag).bind λaf=>
both (
(Aj h (Hl g a)).bind λu=>
(λap:Option (LX×Int)=>
bo (
ap)) (
(Mk u.1 u.2.1 u.2.2.1.1 u.2.2.1.2.1 u.2.2.1.2.2.1 af).bind λ(y,aa,w,ab,ac,ad,v)=>
j16 g y v h k aa w ab ac ad)) [
(Aj h (Hl g a)).bind λu=>
(Mk u.1 u.2.1 u.2.2.1.1 u.2.2.1.2.1 u.2.2.1.2.2.1 af).bind λ(y,aa,w,ab,ac,ad,v)=>
j16 g y v h k aa w ab ac ad],
both (
(Aj h (Hl g a)).bind λm=>
(Zs ag).bind λae=>
(Mk m.1 m.2.1 m.2.2.1.1 m.2.2.1.2.1 m.2.2.1.2.2.1 ae).bind λ(y,aa,w,ab,ac,ad,v)=>
j16 g y v h k aa w ab ac ad) [
(Zs ag).bind λaf=>
(Aj h (Hl g a)).bind λu=>
(Mk u.1 u.2.1 u.2.2.1.1 u.2.2.1.2.1 u.2.2.1.2.2.1 af).bind λ(y,aa,w,ab,ac,ad,v)=>
j16 g y v h k aa w ab ac ad]]
else
j18 a b k
theorem Axy: @Yg= @Mq:=by
  unfold Yg Mq
  try simp only[RZ,AH,BB]
  all_goals
    repeat (refine funext λ_=>?_)
    repeat' first
      |with_reducible rfl
      |with_reducible refine Ky ?_ ?_
      |with_reducible refine Kr ?_ ?_ ?_
      |with_reducible refine La ?_ ?_ ?_ ?_
      |((with_reducible refine Pj ?_ ?_);focus (intro h;first|(subst h;rfl)|(simp only[h];rfl)|(simp[Da,Ac,h];done)))
      |with_reducible refine Pa λx=>?_
      |with_reducible refine Vt (λ_=>?_) (λ_=>?_)
      |(refine Fq (λh=>by simp only[h,Pg,Ec,Ea,ite_self]) (λx h=>?_);(try simp only[h,Ec]))
      |(refine Hv (λh=>?_) (λh=>?_)<;>simp only[h,if_true,if_false,Bool.false_eq_true])
abbrev R_:=(LX×Int)
abbrev K_:=S->Option R_
def H:=hd_ [.agg [Si,Si],.lf (.vec 16 (.int .i32)) none,Sv] [Ow 21,Si] (.q (.q (.cut [2,3,8] [] (.q (.blk (.loop [2,3,4,8,20] [] .d))) (.q (.cut [3,10] [] (.q (.blk (.loop [3,8,10,33,34,35] [⟨10,[],.own 21 (.int .i32)⟩] (.q (.q (.seq (.blk (.q (.q (.cut [3,8,10,13,14,15,16,33,34,35] [] (.mode false) .d)))) .d)))))) .d))))) [F139.k,F173.k,F174.k,F175.k,F176.k] f135
def t13(f:LU)(a b g:Int)(h:List (Int×Int32×(Int×LX×LX×Unit)×Unit))(k:LX):S:=⟨[(3,.ptr 0 []),(8,.ptr 1 []),(10,.own 2),(33,vv f),(34,vi (Ac f)),(35,vi g)],[.box 57 (.agg [vi a,vi b]),.box 266 (.val (.vec 6 (.cons (.int .i64) (.cons (.int .i32) (.cons (.cons (.int .i64) (.cons (.vec 16 (.int .i32)) (.cons (.vec 16 (.int .i32)) .nil))) .nil)))) h),Aw 21 k],[]⟩
def z13:ZT_ R_:=H.i P_ [r,r,r,r,l,r,d]
def t10(f:LU)(a b:Int)(o:LX)(p:Int)(n:List (Int×Int32×(Int×LX×LX×Unit)×Unit)):S:=⟨[(2,vv f),(3,.ptr 0 []),(4,.ptr 1 []),(8,.ptr 2 []),(20,vi p)],[.box 57 (.agg [vi a,vi b]),.box 149 (.val (.vec 16 (.int .i32)) o),.box 266 (.val (.vec 6 (.cons (.int .i64) (.cons (.int .i32) (.cons (.cons (.int .i64) (.cons (.vec 16 (.int .i32)) (.cons (.vec 16 (.int .i32)) .nil))) .nil)))) n)],[]⟩
def z10:ZT_ R_:=H.i P_ [r,r,l,r,d]
def x13(f:LU)(a b g:Int)(h:List (Int×Int32×(Int×LX×LX×Unit)×Unit))(k:LX):Option R_:=H.e P_ [r,r,r,r,l,r,d] (t13 f a b g h k)
theorem i13(f:LU)(a b:Int):∀(q:Nat) (g:Int) (h:List (Int×Int32×(Int×LX×LX×Unit)×Unit)) (k:LX),z13 q (t13 f a b g h k)=Jy f a b q g h k:=
 ind (λ_ _ _=>by kernel_rfl) λq ih g h k=>Eq.trans (b:=Yg (AX (λg h k=>(z13 q) (t13 f a b g h k)) a f b) Mr f a b g h k) F5 (by rw[Axy];simp only[ih]<;>rfl)
theorem e13:x13=Abn:=by funext f a b g h k;exact Eq.trans F5 ((i13 f a b Du g h k).trans (by rw[Bg];rfl))
theorem i10(f:LU)(a b:Int)(o:LX):∀(q:Nat) (p:Int) (n:List (Int×Int32×(Int×LX×LX×Unit)×Unit)),z10 q (t10 f a b o p n)=BH f a b o q p n:=
 ind (λ_ _=>by kernel_rfl) λq ih p n=>Eq.trans (b:=Abh (Ab5 x13) (λp n=>(z10 q) (t10 f a b o p n)) f a b o p n) F5 (by simp only[e13,ih]<;>rfl)
def k:KC_:=kk_ 135 H (u4 Ux) func135 (λx=>Eq.trans (b:=u4 (EA (λf a b o p n=>z10 Du (t10 f a b o p n))) x) F5 (by simp only[i10,Bg]<;>rfl))
end F135
namespace F81
def H:=hd_ [.agg [Si,Si],.lf (.vec 16 (.int .i32)) none,Si,Sb] [Ow 21,Si] .d [F114.k,F131.k,F132.k,F133.k,F134.k,F135.k] f81
def k:KC_:=kk_ 81 H (u5 Rt) func81
end F81
namespace F152
abbrev R_:=(LB×Int)
abbrev K_:=S->Option R_
def H:=hd_ [Si,Sw] [Ob 5,Si] (.q (.q (.q (.cut [7] [] (.q (.blk (.loop [0,7,17,18,19] [⟨7,[],.own 5 (.int .u8)⟩] (.q (.q (.cut [0,7,17,18,19] [] (.blk (.q (.cut [0,7,9,17,18,19] [] .d (.q (.blk (.loop [0,7,9,17,18,19,28,29] [] .d)))))) .d)))))) .d)))) [F139.k] f152
def t26(b:Int)(a:LX)(k:Int32)(f m:Int)(h:LB):S:=⟨[(0,vi b),(7,.own 0),(9,vx k),(17,vw a),(18,vi (Ac a)),(19,vi f),(28,vi (Ci b (8:Int))),(29,vi m)],[Ab 5 h],[]⟩
def z26(Mn:K_):ZT_ R_:=H.i P_ [r,r,r,l,r,d,(lp Mn),r,r,l,d,r,r,r,d]
def t16(b:Int)(a:LX)(f:Int)(g:LB):S:=⟨[(0,vi b),(7,.own 0),(17,vw a),(18,vi (Ac a)),(19,vi f)],[Ab 5 g],[]⟩
def z16:ZT_ R_:=H.i P_ [r,r,r,l,r,d]
def x26(Mn:K_)(b:Int)(a:LX)(k:Int32)(f m:Int)(h:LB):Option R_:=H.e P_ [r,r,r,l,r,d,(lp Mn),r,r,l,d,r,r,r,d] (t26 b a k f m h)
theorem i26(Mn:K_)(b:Int)(a:LX)(k:Int32)(f:Int):∀(q:Nat) (m:Int) (h:LB),z26 Mn q (t26 b a k f m h)=Kh (λf g=>Mn (t16 b a f g)) b a k f q m h:=
 ind (λ_ _=>by kernel_rfl) λq ih m h=>Eq.trans (b:=CN (QJ (λf g=>Mn (t16 b a f g)) b a) (λm h=>(z26 Mn q) (t26 b a k f m h)) b a k f m h) F5 (by simp only[ih]<;>rfl)
theorem e26(Mn:K_)(b:Int)(a:LX):x26 Mn b a=RA (λf g=>Mn (t16 b a f g)) b a:=by funext k f m h;exact Eq.trans F5 ((i26 Mn b a k f Du m h).trans (by rw[Bg];rfl))
theorem i16(b:Int)(a:LX):∀(q:Nat) (f:Int) (g:LB),z16 q (t16 b a f g)=Hb b a q f g:=
 ind (λ_ _=>by kernel_rfl) λq ih f g=>Eq.trans (b:=CW (PT (x26 (z16 q) b a) b a) Akf b a f g) F5 (by simp only[e26,ih]<;>rfl)
def k:KC_:=kk_ 152 H (u2 To) func152 (λx=>Eq.trans (b:=u2 (VF (λb a f g=>z16 Du (t16 b a f g))) x) F5 (by simp only[i16,Bg]<;>rfl))
end F152
namespace F156
abbrev R_:=Int
def H:=hd_ [Sl,Si] [Si] (.q (.cut [] [] (.q (.blk (.loop [0,1,7,8] [] .d))) .d)) [] f156
def t4(a:LI)(b f:Int):S:=⟨[(0,vl a),(1,vi b),(7,vi (Ac a)),(8,vi f)],[],[]⟩
def z4:ZT_ R_:=H.i P_ [r,l,r,d]
theorem i4(a:LI)(b:Int):∀(q:Nat) (f:Int),z4 q (t4 a b f)=Ce a b q f:=
 ind (λ_=>by kernel_rfl) λq ih f=>Eq.trans (b:=Eu Nh (λf=>(z4 q) (t4 a b f)) a b f) F5 (by simp only[ih]<;>rfl)
def k:KC_:=kk_ 156 H (u2 Jl) func156 (λx=>Eq.trans (b:=u2 (Ic (λa b f=>z4 Du (t4 a b f))) x) F5 (by simp only[i4,Bg]<;>rfl))
end F156
namespace F102
def H:=hd_ [Sl,Si] [Sz] .d [F156.k] f102
def k:KC_:=kk_ 102 H (u2 Hx) func102
end F102
namespace F50
def H:=hd_ [Si] [Sz] .d [F102.k] f50
def k:KC_:=kk_ 50 H Qx func50
end F50
namespace F15
def DD(j28:Bool->Int->Option Int)(y ac:Int)(g a:LB)(h p m u v b:Int)(n:Bool)(o:Int)(ak:LX)(f:LI)(k:LB):Option Int:=
if(Bj ac 0)then
(Ak ac).bind λ(bi,bj)=>
j28 bi bj
else
(To m ak).bind λ(bk,bb)=>
if(Bj bb 0)then
(Ak bb).bind λ(bl,bm)=>
j28 bl bm
else
(Da k bk).bind λdv=>
(λfa:Option Int=>
bo (
fa)) (
(Bp a y (Ac a)).bind λdw=>
j28 false 0)
theorem Azc: @DD= @Xd:=by
  unfold DD Xd;simp only[RZ,AH,BB]
def FW(j13:Bool->Int->Option Int)(j12:LB->LB->Int->Int->Int->Int->Int->Int->Bool->Int->LI->LB->Option Int)(j25:Bool->Int->Option Int)(j23:LB->LB->Int->Int->Int->Int->Int->Int->Bool->Int->LI->LB->Option Int)(j24:LB->LB->Int->Int->Int->Int->Int->Int->Bool->Int->LI->LB->Int->Option Int)(j28:Bool->Int->Option Int)(j26:Int->LB->LB->Int->Int->Int->Int->Int->Int->Bool->Int->LX->LI->LI->LB->Option Int)(j22:Bool->Option Int)(j21:Option Int)(al am:LB)(an ao ap aq ar:Int)(au:LI)(ad:Int)(ae:LB)(aa:Bool)(w:Int):Option Int:=
if(Ef (Ac al) 64)then
some 8
else
if((geq w 0)&&(!aa))then
(Dz al am an ao ap aq ar au ad ae aa w).bind λ(g,a,h,p,m,u,v,f,b,k,n,o)=>
(Za al am an ao ap aq ar au ad ae aa w).bind λbn=>
if bn then
if(geq h 0)then
(Lw a).bind λ(ah,av)=>
if(geq av 24)then
j13 true 0
else
if(Bj av 0)then
(Ak av).bind λ(bp,bq)=>
j13 bp bq
else
(Bp a ah (Ac a)).bind λbr=>
(Qs br).bind λaj=>
if aj then
j13 true 0
else
(Bp a ah (Ac a)).bind λbs=>
(Qi bs).bind λ(ay,az,ab,ba,af,aw)=>
if(geq aw 24)then
j13 true 0
else
if(Bj aw 0)then
(Ak aw).bind λ(bt,bu)=>
j13 bt bu
else
both (
(Bp a (Ae ah 22) (Ac a)).bind λax=>
(λfb:Option Int=>
bo (
fb)) (
j12 g ax ay az ab ba af b n o f k)) [
(Bp a (Ae ah 22) (Ac a)).bind λax=>
j12 g ax ay az ab ba af b n o f k]
else
if(geq (Ac f) 0)then
if(geq h 2)then
if(Cw (Ac a) 8)then
j25 true 0
else
j23 g a h p m u v b n o f k
else
j24 g a h p m u v b n o f k 0
else
if(Cw b (Ac f))then
(Aj f b).bind λ_=>
(Aj f b).bind λy=>
if(Cw (Ac a) y)then
j28 true 0
else
(Vm g).bind λ(bc,ai)=>
if(Bj ai 0)then
(Ak ai).bind λ(bv,bw)=>
j28 bv bw
else
(Ei h p m u v).bind λ(ag,bx)=>
if((Bj bx 0)||(Lo b (Ac ag)))then
(Ak 8).bind λ(bz,da)=>
j28 bz da
else
j26 y g a h p m u v b n o bc ag f k
else
if(Ef (Ac a) 4000)then
(Ak 38).bind λ(db,bd)=>
j22 ((db==true)&&((geq bd 0)&&true))
else
j21
else
j22 false
else
if((geq (Ac am) 0)&&(geq (Ac au) 0))then
if((((geq an 0)&&((geq ao 0)&&((geq ap 0)&&((geq aq 0)&&((geq ar 0)&&true)))))&&(geq ad 0))&&(tM (Ac ae) 12000))then
if(geq w 0)then
j22 true
else
if(!aa)then
(Qx w).bind λdc=>
j22 dc
else
j22 false
else
j22 false
else
if((false&&(geq ad 0))&&(tM (Ac ae) 12000))then
if(geq w 0)then
j22 true
else
if(!aa)then
(Qx w).bind λdd=>
j22 dd
else
j22 false
else
j22 false
theorem Azx: @FW= @Zn:=by
  unfold FW Zn
  try simp only[RZ,AH,BB]
  all_goals
    repeat (refine funext λ_=>?_)
    repeat' first
      |with_reducible rfl
      |with_reducible refine Ky ?_ ?_
      |with_reducible refine Kr ?_ ?_ ?_
      |with_reducible refine La ?_ ?_ ?_ ?_
      |((with_reducible refine Pj ?_ ?_);focus (intro h;first|(subst h;rfl)|(simp only[h];rfl)|(simp[Da,Ac,h];done)))
      |with_reducible refine Pa λx=>?_
      |with_reducible refine Vt (λ_=>?_) (λ_=>?_)
      |(refine Fq (λh=>by simp only[h,Pg,Ec,Ea,ite_self]) (λx h=>?_);(try simp only[h,Ec]))
      |(refine Hv (λh=>?_) (λh=>?_)<;>simp only[h,if_true,if_false,Bool.false_eq_true])
abbrev R_:=Int
def H:=hd_ [.agg [Ss,Sb,.agg [Si,Si,Si,Si,Si],Sl,Si,Sb,Sz,Si]] [Si] (.q (.q (.q (.cut [3] [] (.q (.cond (.q (.keep [3,21,22,23,24,25] false)) .d)) .d)))) [F45.k,F49.k,F50.k,F80.k,F81.k,F96.k,⟨(98,CK),VW⟩,F99.k,F100.k,F101.k,F127.k,F128.k,F150.k,F151.k,F152.k] f15 false [(44,(.q (.cut [2] [] (.blk (.q (.cond (.cut [2] [] (.keep [2,11] true) .d) (.q (.cond (.cut [2] [] (.keep [2,20] true) .d) (.q (.cond (.cut [2] [] (.keep [2,33] true) .d) .d))))))) .d))),(93,(.q (.q (.q (.q (.q (.cut [0,2,5] [] (.mode false) .d))))))),(94,(.q (.q (.cut [0,2,3] [⟨0,[1],.ro (.int .u8)⟩] (.q (.cond (.q (.cut [0,2,3] [⟨0,[1],.ro (.int .u8)⟩,⟨9,[1],.ro (.int .u8)⟩,⟨10,[1],.ro (.int .u8)⟩,⟨15,[1],.ro (.int .u8)⟩,⟨16,[1],.ro (.int .u8)⟩,⟨18,[],.ro (.int .u8)⟩] .d (.cut [0,2,3,4,5] [] .d .d))) .d)) .d)))),(95,(.q (.q (.q (.q (.q (.q (.cut [0,2,3,4,6] [⟨0,[1],.ro (.int .u8)⟩,⟨9,[1],.ro (.int .u8)⟩,⟨10,[1],.ro (.int .u8)⟩,⟨13,[1],.ro (.int .u8)⟩,⟨14,[1],.ro (.int .u8)⟩,⟨19,[1],.ro (.int .u8)⟩,⟨20,[1],.ro (.int .u8)⟩,⟨22,[],.ro (.int .u8)⟩,⟨28,[1],.ro (.int .u8)⟩,⟨29,[1],.ro (.int .u8)⟩,⟨40,[1],.ro (.int .u8)⟩,⟨41,[1],.ro (.int .u8)⟩] .d (.cut [0,2,3,5,7] [] .d (.q (.q (.q (.q (.seq (.mode false) .d))))))))))))))]
def x27(y ac:Int)(g a:LB)(h p m u v b:Int)(n:Bool)(o:Int)(ak:LX)(f:LI)(k:LB):Option R_:=H.e P_ [r,r,r,l,r,l,r,(dcall 3 44 3 #[true,true,true,true,true,true,true,true] #[true,true,true,true,true,false,false,false]),r,l,d,r,r,r,r,r,l,l,(call 1 95),r,r,r,r,r,r,r,r] ⟨[(0,.ptr 0 []),(2,.ptr 1 []),(3,vi y),(5,vi ac),(7,.own 2)],[.box 28 (.agg [vs g,vb a,.agg [vi h,vi p,vi m,vi u,vi v],.own 4,vi b,.own 5,vt n,vi o]),.box 96 (.agg [vt false,vi 0]),Aw 21 ak,.box 96 (.agg [vt false,vi 0]),Ai 3 f,Ab 5 k],[[(2,.ptr 3 [])],[(3,vt false),(21,.cst (.bool true)),(23,.agg [vt true,vi 0])]]⟩
theorem e27:x27=JR:=Eq.trans (b:=DD Fy) F5 (by rw[Azc];rfl)
def k:KC_:=kk_ 15 H (u12 Ie) func15 (λx=>Eq.trans (b:=u12 (FW Er Wm Jm Wk Jw Fy (HS x27) Bs Wy) x) F5 (by rw[Azx];simp only[e27]<;>rfl))
end F15
namespace F43
def HU(f g:LB)(h k m n o:Int)(p:LI)(u:Int)(v:LB)(b:Bool)(a:Int):Option (LB×LB×Int×Int×Int×Int×Int×LI×Int×LB×Bool×Int×Int):=
(Ie f g h k m n o p u v b a).bind λw=>
if(Bj w 0)then
some (([]:LB),([]:LB),0,0,0,0,0,([]:LI),0,([]:LB),false,0,w)
else
if(Bj a 0)then
(λbl:Option (LB×LB×Int×Int×Int×Int×Int×LI×Int×LB×Bool×Int×Int)=>
both (
both (
(Dz f g h k m n o p u v b a).bind λ(y,aa,ab,ac,ad,ae,af,ag,ah,ai,aj,ak)=>
(λbm:Option (LB×LB×Int×Int×Int×Int×Int×LI×Int×LB×Bool×Int×Int)=>
bo (
bm)) (
some (y,aa,ab,ac,ad,ae,af,ag,ah,ai,aj,ak,a))) [
bl]) [
bl]) (
(Dz f g h k m n o p u v b a).bind λ(y,aa,ab,ac,ad,ae,af,ag,ah,ai,aj,ak)=>
some (y,aa,ab,ac,ad,ae,af,ag,ah,ai,aj,ak,a))
else
if b then
(Dz f g h k m n o p u v b a).bind λ(al,am,an,ao,ap,aq,ar,au,av,aw,ax,ay)=>
some (al,am,an,ao,ap,aq,ar,au,av,aw,ax,ay,36)
else
(Dz f g h k m n o p u v b a).bind λ(az,ba,bb,bc,bd,be,bf,bg,bh,bi,bj,bk)=>
some (az,ba,bb,bc,bd,be,bf,bg,bh,bi,bj,bk,0)
theorem Azr: @HU= @Rf:=by
  unfold HU Rf
  try simp only[RZ,AH,BB]
  all_goals
    repeat (refine funext λ_=>?_)
    repeat' first
      |with_reducible rfl
      |with_reducible refine Ky ?_ ?_
      |with_reducible refine Kr ?_ ?_ ?_
      |with_reducible refine La ?_ ?_ ?_ ?_
      |((with_reducible refine Pj ?_ ?_);focus (intro h;first|(subst h;rfl)|(simp only[h];rfl)|(simp[Da,Ac,h];done)))
      |with_reducible refine Pa λx=>?_
      |with_reducible refine Vt (λ_=>?_) (λ_=>?_)
      |(refine Fq (λh=>by simp only[h,Pg,Ec,Ea,ite_self]) (λx h=>?_);(try simp only[h,Ec]))
      |(refine Hv (λh=>?_) (λh=>?_)<;>simp only[h,if_true,if_false,Bool.false_eq_true])
def H:=hd_ [.agg [Ss,Sb,.agg [Si,Si,Si,Si,Si],Sl,Si,Sb,Sz,Si]] [.agg [Ss,Ob 5,.agg [Si,Si,Si,Si,Si],Ol 3,Si,Ob 5,Sz,Si],Si] (.q (.q (.seq (.blk (.q (.cond (.seq (.mode false) .d) .d))) .d))) [F15.k,F45.k] f43
def k:KC_:=kk_ 43 H (u12 Rf) func43 (λx=>Eq.trans (b:=u12 HU x) F5 (by simp only[Azr]<;>rfl))
end F43
namespace F46
def H:=hd_ [.agg [Ss,Sb,.agg [Si,Si,Si,Si,Si],Sl,Si,Sb,Sz,Si],Si] [.agg [Ss,Ob 5,.agg [Si,Si,Si,Si,Si],Ol 3,Si,Sb,Sz,Si],Si] .d [] f46
def k:KC_:=kk_ 46 H (u13 fL) func46
end F46
namespace F12
def JU(j78:Int->Int->Int->Int->Int->LI->Bool->Int->LB->Int->LB->Option (LB×LB×Int×Int×Int×Int×Int×LI×Int×LB×Bool×Int×Int))(a:LB)(b:Bool)(f w ab:Int)(g:LB)(m o n p u h:Int)(am:LX)(k:LI)(v:LB):Option (LB×LB×Int×Int×Int×Int×Int×LI×Int×LB×Bool×Int×Int):=
if(Bj ab 0)then
(Ak ab).bind λ(br,bs)=>
j78 m o n p u k br bs g h v
else
(To n am).bind λ(bt,af)=>
if(Bj af 0)then
(Ak af).bind λ(bu,bv)=>
j78 m o n p u k bu bv g h v
else
(Da v bt).bind λbw=>
(λhb:Option (LB×LB×Int×Int×Int×Int×Int×LI×Int×LB×Bool×Int×Int)=>
bo (
hb)) (
(Bp g w (Ac g)).bind λbx=>
j78 m o n p u k false 0 bx (Ae h 1) bw)
theorem Azn: @JU= @Zj:=by
  unfold JU Zj;simp only[RZ,AH,BB]
def FU(j62:Int->LI->LB->Bool->Int->LB->Int->Int->Int->Int->Int->Option (LB×LB×Int×Int×Int×Int×Int×LI×Int×LB×Bool×Int×Int))(j61:LB->Int->Int->Int->Int->Int->Int->LI->LB->Option (LB×LB×Int×Int×Int×Int×Int×LI×Int×LB×Bool×Int×Int))(j75:Int->Int->Int->Int->Int->Int->LB->Bool->Int->LB->LI->Option (LB×LB×Int×Int×Int×Int×Int×LI×Int×LB×Bool×Int×Int))(j73:LB->Int->Int->Int->Int->Int->Int->LI->LB->Option (LB×LB×Int×Int×Int×Int×Int×LI×Int×LB×Bool×Int×Int))(j74:LB->Int->Int->Int->Int->Int->Int->LI->LB->Int->Option (LB×LB×Int×Int×Int×Int×Int×LI×Int×LB×Bool×Int×Int))(j78:Int->Int->Int->Int->Int->LI->Bool->Int->LB->Int->LB->Option (LB×LB×Int×Int×Int×Int×Int×LI×Int×LB×Bool×Int×Int))(j76:Int->LB->Int->Int->Int->Int->Int->Int->LX->LI->LI->LB->Option (LB×LB×Int×Int×Int×Int×Int×LI×Int×LB×Bool×Int×Int))(j71:LB->Int->Int->Int->Int->Int->Int->Bool->Int->LI->LB->Option (LB×LB×Int×Int×Int×Int×Int×LI×Int×LB×Bool×Int×Int))(j70:LB->Int->Int->Int->Int->Int->Int->LI->LB->Option (LB×LB×Int×Int×Int×Int×Int×LI×Int×LB×Bool×Int×Int))(a:LB)(b:Bool)(f:Int)(g:LB)(m o n p u h:Int)(k:LI)(v:LB):Option (LB×LB×Int×Int×Int×Int×Int×LI×Int×LB×Bool×Int×Int):=
if(geq m 0)then
(Lw g).bind λ(ad,an)=>
if(geq an 24)then
j62 h k v true 0 g m o n p u
else
if(Bj an 0)then
(Ak an).bind λ(bz,da)=>
j62 h k v bz da g m o n p u
else
(Bp g ad (Ac g)).bind λdb=>
(Qs db).bind λal=>
if al then
j62 h k v true 0 g m o n p u
else
(Bp g ad (Ac g)).bind λdc=>
(Qi dc).bind λ(ah,ai,y,aj,aa,ao)=>
if(geq ao 24)then
j62 h k v true 0 g m o n p u
else
if(Bj ao 0)then
(Ak ao).bind λ(dd,de)=>
j62 h k v dd de g m o n p u
else
both (
(Bp g (Ae ad 22) (Ac g)).bind λag=>
bo (
j61 ag ah ai y aj aa h k v)) [
(Bp g (Ae ad 22) (Ac g)).bind λag=>
j61 ag ah ai y aj aa h k v]
else
if(geq (Ac k) 0)then
if(geq m 2)then
if(Cw (Ac g) 8)then
j75 m o n p u h v true 0 g k
else
j73 g m o n p u h k v
else
j74 g m o n p u h k v 0
else
if(Cw h (Ac k))then
(Aj k h).bind λ_=>
(Aj k h).bind λw=>
if(Cw (Ac g) w)then
j78 m o n p u k true 0 g h v
else
(Vm a).bind λ(aq,ak)=>
if(Bj ak 0)then
(Ak ak).bind λ(df,dg)=>
j78 m o n p u k df dg g h v
else
(Ei m o n p u).bind λ(ac,dh)=>
if((Bj dh 0)||(Lo h (Ac ac)))then
(Ak 8).bind λ(di,ap)=>
j78 m o n p u k di ap g h v
else
j76 w g m o n p u h aq ac k v
else
if(Ef (Ac g) 4000)then
(Ak 38).bind λ(dj,ae)=>
j71 g m o n p u h dj ae k v
else
j70 g m o n p u h k v
theorem Azu: @FU= @Io:=by
  unfold FU Io
  repeat (refine funext λ_=>?_)
  repeat' first
    |with_reducible rfl
    |with_reducible refine Ky ?_ ?_
    |with_reducible refine Kr ?_ ?_ ?_
    |with_reducible refine La ?_ ?_ ?_ ?_
    |((with_reducible refine Pj ?_ ?_);focus (intro h;first|(subst h;rfl)|(simp only[h];rfl)|(simp[Da,Ac,h];done)))
    |with_reducible refine Pa λx=>?_
    |with_reducible refine Vt (λ_=>?_) (λ_=>?_)
    |(refine Fq (λh=>by simp only[h,Pg,Ec,Ea,ite_self]) (λx h=>?_);(try simp only[h,Ec]))
    |(refine Hv (λh=>?_) (λh=>?_)<;>simp only[h,if_true,if_false,Bool.false_eq_true])
abbrev R_:=(LB×LB×Int×Int×Int×Int×Int×LI×Int×LB×Bool×Int×Int)
abbrev K_:=S->Option R_
def H:=hd_ [.agg [Ss,Sb,.agg [Si,Si,Si,Si,Si],Sl,Si,Sb,Sz,Si],Sb] [.agg [Ss,Ob 5,.agg [Si,Si,Si,Si,Si],Ol 3,Si,Sb,Sz,Si],Si] (.q (.q (.q (.q (.blk (.loop [2,4] [⟨2,[1],.ro (.int .u8)⟩] (.blk (.cut [2,4,7] [] (.keep [2,4,7,22] true) .d)))))))) [F43.k,F45.k,F46.k,F80.k,F81.k,F96.k,⟨(98,CK),VW⟩,F99.k,F100.k,F101.k,F127.k,F128.k,F150.k,F151.k,F152.k] f12 false [(44,(.q (.cut [2] [] (.blk (.q (.cond (.cut [2] [] (.keep [2,11] true) .d) (.q (.cond (.cut [2] [] (.keep [2,20] true) .d) (.q (.cond (.cut [2] [] (.keep [2,33] true) .d) .d))))))) .d))),(93,(.q (.q (.q (.q (.q (.cut [0,2,5] [] (.mode false) .d))))))),(94,(.q (.q (.cut [0,2,3] [] (.q (.cond (.q (.cut [0,2,3] [⟨0,[1],.ro (.int .u8)⟩,⟨9,[1],.ro (.int .u8)⟩,⟨10,[1],.ro (.int .u8)⟩,⟨15,[1],.ro (.int .u8)⟩,⟨16,[1],.ro (.int .u8)⟩,⟨18,[],.ro (.int .u8)⟩] .d (.cut [0,2,3,4,5] [] .d .d))) .d)) .d)))),(95,(.q (.q (.q (.q (.q (.q (.cut [0,2,3,4,6] [⟨0,[1],.ro (.int .u8)⟩,⟨9,[1],.ro (.int .u8)⟩,⟨10,[1],.ro (.int .u8)⟩,⟨13,[1],.ro (.int .u8)⟩,⟨14,[1],.ro (.int .u8)⟩,⟨19,[1],.ro (.int .u8)⟩,⟨20,[1],.ro (.int .u8)⟩,⟨22,[],.ro (.int .u8)⟩,⟨28,[1],.ro (.int .u8)⟩,⟨29,[1],.ro (.int .u8)⟩,⟨40,[1],.ro (.int .u8)⟩,⟨41,[1],.ro (.int .u8)⟩] .d (.cut [0,2,3,5,7] [] .d (.q (.q (.q (.q (.seq (.mode false) .d))))))))))))))]
def t37(a:LB)(b:Bool)(f:Int)(g:LB)(m o n p u h:Int)(k:LI)(v:LB):S:=⟨[(2,.ptr 0 []),(4,.ptr 1 [])],[.box 28 (.agg [vs a,vb g,.agg [vi m,vi o,vi n,vi p,vi u],.own 2,vi h,.own 3,vt b,vi f]),.box 28 (.agg [vs ([]:LB),.nils,.agg [vi 0,vi 0,vi 0,vi 0,vi 0],.nils,vi 0,.nils,vt false,vi 0]),Ai 3 k,Ab 5 v],[]⟩
def z37:ZT_ R_:=H.i P_ [r,r,r,r,d]
def x75(rW:K_)(a:LB)(b:Bool)(f m o n p u h:Int)(v:LB)(bf:Bool)(bg:Int)(bh:LB)(bi:LI):Option R_:=H.e P_ [r,r,r,r,d,(lp rW),d,l,(call 0 44),r,l,d,r,r,r,l,r] ⟨[(2,.ptr 0 [])],[.box 96 (.agg [vt bf,vi bg]),.box 28 (.agg [vs a,vb bh,.agg [vi m,vi o,vi n,vi p,vi u],.own 3,vi h,.own 4,vt b,vi f]),.box 28 (.agg [vs ([]:LB),.nils,.agg [vi 0,vi 0,vi 0,vi 0,vi 0],.nils,vi 0,.nils,vt false,vi 0]),Ai 3 bi,Ab 5 v],[[(2,.ptr 1 []),(4,.ptr 2 [])]]⟩
def x78(rW:K_)(a:LB)(b:Bool)(f m o n p u:Int)(k:LI)(bl:Bool)(bm:Int)(bn:LB)(bp:Int)(bq:LB):Option R_:=H.e P_ [r,r,r,r,d,(lp rW),d,l,(call 0 44),r,l,d,r,r,r,r,r,l,r] ⟨[(2,.ptr 0 [])],[.box 96 (.agg [vt bl,vi bm]),.box 28 (.agg [vs a,vb bn,.agg [vi m,vi o,vi n,vi p,vi u],.own 3,vi bp,.own 4,vt b,vi f]),.box 28 (.agg [vs ([]:LB),.nils,.agg [vi 0,vi 0,vi 0,vi 0,vi 0],.nils,vi 0,.nils,vt false,vi 0]),Ai 3 k,Ab 5 bq],[[(2,.ptr 1 []),(4,.ptr 2 [])]]⟩
def x77(rW:K_)(a:LB)(b:Bool)(f w ab:Int)(g:LB)(m o n p u h:Int)(am:LX)(k:LI)(v:LB):Option R_:=H.e P_ [r,r,r,r,d,(lp rW),d,l,(call 0 44),r,l,d,r,r,r,r,r,l,l,(call 1 95),r,r,r,r,r,r,r,r] ⟨[(0,.ptr 0 []),(2,.ptr 1 []),(3,vi w),(5,vi ab),(7,.own 2)],[.box 28 (.agg [vs a,vb g,.agg [vi m,vi o,vi n,vi p,vi u],.own 5,vi h,.own 6,vt b,vi f]),.box 96 (.agg [vt false,vi 0]),Aw 21 am,.box 96 (.agg [vt false,vi 0]),.box 28 (.agg [vs ([]:LB),.nils,.agg [vi 0,vi 0,vi 0,vi 0,vi 0],.nils,vi 0,.nils,vt false,vi 0]),Ai 3 k,Ab 5 v],[[(2,.ptr 3 [])],[(2,.ptr 0 []),(4,.ptr 4 [])]]⟩
theorem e75(rW:K_)(a:LB)(b:Bool)(f:Int):x75 rW a b f=Lj (λg m o n p u h k v=>rW (t37 a b f g m o n p u h k v)) a b f:=F5
theorem e78(rW:K_)(a:LB)(b:Bool)(f:Int):x78 rW a b f=Sr (λg m o n p u h k v=>rW (t37 a b f g m o n p u h k v)) a b f:=F5
theorem e77(rW:K_)(a:LB)(b:Bool)(f:Int):x77 rW a b f=ME (λg m o n p u h k v=>rW (t37 a b f g m o n p u h k v)) a b f:=Eq.trans (b:=JU (x78 rW a b f) a b f) F5 (by rw[Azn];simp only[e78]<;>rfl)
theorem i37(a:LB)(b:Bool)(f:Int):∀(q:Nat) (g:LB) (m o n p u h:Int) (k:LI) (v:LB),z37 q (t37 a b f g m o n p u h k v)=Bd a b f q g m o n p u h k v:=
 ind (λ_ _ _ _ _ _ _ _ _=>by kernel_rfl) λq ih g m o n p u h k v=>Eq.trans (b:=FU (Nv (λg m o n p u h k v=>(z37 q) (t37 a b f g m o n p u h k v)) a b f) (Rz (λg m o n p u h k v=>(z37 q) (t37 a b f g m o n p u h k v)) a b f) (x75 (z37 q) a b f) (LK (MO (x75 (z37 q) a b f) (Zw (x75 (z37 q) a b f) a b f) a b f) a b f) (Zw (x75 (z37 q) a b f) a b f) (x78 (z37 q) a b f) (LJ (x77 (z37 q) a b f) a b f) (Cv (λg m o n p u h k v=>(z37 q) (t37 a b f g m o n p u h k v)) a b f) (Zp (λg m o n p u h k v=>(z37 q) (t37 a b f g m o n p u h k v)) a b f) a b f g m o n p u h k v) F5 (by rw[Azu];simp only[e75,e78,e77,ih]<;>rfl)
def k:KC_:=kk_ 12 H (u13 Dp) func12 (λx=>Eq.trans (b:=u13 (Va (λa b f g m o n p u h k v=>z37 Du (t37 a b f g m o n p u h k v))) x) F5 (by simp only[i37,Bg]<;>rfl))
end F12
namespace F14
def H:=hd_ [.agg [Ss,Sb,.agg [Si,Si,Si,Si,Si],Sl,Si,Sb,Sz,Si],Si] [.agg [Ss,Ob 5,.agg [Si,Si,Si,Si,Si],Ol 3,Si,Sb,Sz,Si],Ob 5,Si] .d [F15.k,F45.k,F48.k] f14
def k:KC_:=kk_ 14 H (u13 Vj) func14
end F14
namespace F137
abbrev R_:=(Int×Int)
def H:=hd_ [Sb] [Si,Si] (.q (.q (.cut [0,4] [] .d .d))) [F76.k,F165.k,F177.k,F178.k] f137
def k:KC_:=kk_ 137 H sW func137
end F137
namespace F82
abbrev R_:=(Int×Int)
abbrev K_:=S->Option R_
def H:=hd_ [Sb] [Si,Si] (.q (.q (.q (.q (.cut [5] [] (.blk (.loop [1,4,5] [] (.q (.cut [1,4,5] [] (.blk (.cut [1,4,5,6] [] (.keep [1,4,5,6,16,17] true) .d)) .d)))) .d))))) [F137.k] f82 false [(136,.d)]
def t8(a:Int)(b:LB):S:=⟨[(1,.ptr 0 []),(4,.fn 136 [.ptr 0 []]),(5,vi a)],[.box 22 (vb b)],[]⟩
def z8:ZT_ R_:=H.i P_ [r,r,r,r,l,d]
theorem i8:∀(q:Nat) (a:Int) (b:LB),z8 q (t8 a b)=Uv q a b:=
 ind (λ_ _=>by kernel_rfl) λq ih a b=>Eq.trans (b:=QW (MC (λa b=>(z8 q) (t8 a b))) Aic a b) F5 (by simp only[ih]<;>rfl)
def k:KC_:=kk_ 82 H SL func82 (λx=>Eq.trans (b:=QR (λa b=>z8 Du (t8 a b)) x) F5 (by simp only[i8,Bg]<;>rfl))
end F82
namespace F47
def H:=hd_ [.agg [Ss,Sb,.agg [Si,Si,Si,Si,Si],Sl,Si,Sb,Sz,Si]] [Si] .d [F82.k,⟨(98,CK),VW⟩,F99.k] f47
def k:KC_:=kk_ 47 H (u12 Xt) func47
end F47
namespace F13
def H:=hd_ [.agg [Ss,Sb,.agg [Si,Si,Si,Si,Si],Sl,Si,Sb,Sz,Si]] [.agg [Ss,Ob 5,.agg [Si,Si,Si,Si,Si],Ol 3,Si,Sb,Sz,Si],Si] .d [F43.k,F46.k,F47.k] f13
def k:KC_:=kk_ 13 H (u12 Dx) func13
end F13
namespace F19
def DX(j29:Int->LB->Int->Int->Int->Int->Int->Int->LB->Bool->Int->LB-> (List (Int×LB×Unit))->LB->LI->Option (LB×LB×Int×Int×Int×Int×Int×LI×Int×LB×Bool×Int×(List (Int×LB×Unit))×Int))(b:List (UInt8×Int×Unit))(ac:UInt8×Int×Unit)(a:LB)(ad ab:Int)(f w:LB)(g h k m n:Int)(y:LI)(o:Int)(p:LB)(u:Bool)(v:Int)(ae:LB)(af ag ah ai aj ak:Int)(al:LB)(am:Bool)(an:Int)(aa:List (Int×LB×Unit))(ao:LB)(ap:LI):Option (LB×LB×Int×Int×Int×Int×Int×LI×Int×LB×Bool×Int×(List (Int×LB×Unit))×Int):=
(λfs:Option (LB×LB×Int×Int×Int×Int×Int×LI×Int×LB×Bool×Int×(List (Int×LB×Unit))×Int)=>
bo (
fs)) (
(Bp a (Ee ac.2.1 (Ac a)) (Ac a)).bind λbv=>
(Da aa ([(ad,([]:LB),())]:List (Int×LB×Unit))).bind λar=>
j29 ab ae af ag ah ai aj ak al am an bv ar ao ap)
theorem Ayx: @DX= @Wx:=by
  unfold DX Wx;simp only[RZ,AH,BB]
def DE(j26:(UInt8×Int×Unit)->LB->Int->Int->LB->LB->Int->Int->Int->Int->Int->LI->Int->LB->Bool->Int->LB->Int->Int->Int->Int->Int->Int->LB->Bool->Int-> (List (Int×LB×Unit))->LB->LI->Option (LB×LB×Int×Int×Int×Int×Int×LI×Int×LB×Bool×Int×(List (Int×LB×Unit))×Int))(j33:Int->Int->LB->LB->Int->Int->Int->Int->Int->LI->Int->LB->Bool->Int->LB->LB->Int->Int->Int->Int->Int->Int->LB->Bool->Int->LB-> (List (Int×LB×Unit))->LB->LI->Option (LB×LB×Int×Int×Int×Int×Int×LI×Int×LB×Bool×Int×(List (Int×LB×Unit))×Int))(j34:Int->Int->LB->LB->Int->Int->Int->Int->Int->LI->Int->LB->Bool->Int->LB->LB->Int->Int->Int->Int->Int->Int->LB->Bool->Int-> (List (Int×LB×Unit))->LB->LI->Option (LB×LB×Int×Int×Int×Int×Int×LI×Int×LB×Bool×Int×(List (Int×LB×Unit))×Int))(j29:Int->LB->Int->Int->Int->Int->Int->Int->LB->Bool->Int->LB-> (List (Int×LB×Unit))->LB->LI->Option (LB×LB×Int×Int×Int×Int×Int×LI×Int×LB×Bool×Int×(List (Int×LB×Unit))×Int))(j31:(List (Int×LB×Unit))->LB->Int->Int->Int->Int->Int->Int->LB->Bool->Int->LB->LB->LI->Option (LB×LB×Int×Int×Int×Int×Int×LI×Int×LB×Bool×Int×(List (Int×LB×Unit))×Int))(b:List (UInt8×Int×Unit))(ab:Int)(f:LB)(g h k m n o:Int)(p:LB)(u:Bool)(v:Int)(a:LB)(aa:List (Int×LB×Unit))(w:LB)(y:LI):Option (LB×LB×Int×Int×Int×Int×Int×LI×Int×LB×Bool×Int×(List (Int×LB×Unit))×Int):=
if(Cw ab (Ac b))then
(Aj b ab).bind λac=>
if(geq ac.1 1)then
(λbw:Option (LB×LB×Int×Int×Int×Int×Int×LI×Int×LB×Bool×Int×(List (Int×LB×Unit))×Int)=>
(λda:Option (LB×LB×Int×Int×Int×Int×Int×LI×Int×LB×Bool×Int×(List (Int×LB×Unit))×Int)=>
(λdb:Option (LB×LB×Int×Int×Int×Int×Int×LI×Int×LB×Bool×Int×(List (Int×LB×Unit))×Int)=>
both (
da) [
da,
(Bp a 0 (Ee ac.2.1 (Ac a))).bind λaq=>
(λdc:Option (LB×LB×Int×Int×Int×Int×Int×LI×Int×LB×Bool×Int×(List (Int×LB×Unit))×Int)=>
(λdd:Option (LB×LB×Int×Int×Int×Int×Int×LI×Int×LB×Bool×Int×(List (Int×LB×Unit))×Int)=>
(λde:Option (LB×LB×Int×Int×Int×Int×Int×LI×Int×LB×Bool×Int×(List (Int×LB×Unit))×Int)=>
both (
de) [
de,
dd]) (
both (
dd) [
dc])) (
bo (
dc))) (
(Dp f w g h k m n y o p u v aq).bind λ(ae,ao,af,ag,ah,ai,aj,ap,ak,al,am,an,ad)=>
j26 ac a ad ab f w g h k m n y o p u v ae af ag ah ai aj ak al am an aa ao ap),
both (
db) [
db,
(Bp a 0 (Ee ac.2.1 (Ac a))).bind λaq=>
(λft:Option (LB×LB×Int×Int×Int×Int×Int×LI×Int×LB×Bool×Int×(List (Int×LB×Unit))×Int)=>
bo (
ft)) (
(Dp f w g h k m n y o p u v aq).bind λ(ae,ao,af,ag,ah,ai,aj,ap,ak,al,am,an,ad)=>
j26 ac a ad ab f w g h k m n y o p u v ae af ag ah ai aj ak al am an aa ao ap)]]) (
bo (
bw))) (
both (
both (
(Bp a 0 (Ee ac.2.1 (Ac a))).bind λaq=>
(λfu:Option (LB×LB×Int×Int×Int×Int×Int×LI×Int×LB×Bool×Int×(List (Int×LB×Unit))×Int)=>
bo (
fu)) (
(Dp f w g h k m n y o p u v aq).bind λ(ae,ao,af,ag,ah,ai,aj,ap,ak,al,am,an,ad)=>
j26 ac a ad ab f w g h k m n y o p u v ae af ag ah ai aj ak al am an aa ao ap)) [
bw]) [
(Bp a 0 (Ee ac.2.1 (Ac a))).bind λaq=>
(λdf:Option (LB×LB×Int×Int×Int×Int×Int×LI×Int×LB×Bool×Int×(List (Int×LB×Unit))×Int)=>
both (
bo (
df)) [
df]) (
(Dp f w g h k m n y o p u v aq).bind λ(ae,ao,af,ag,ah,ai,aj,ap,ak,al,am,an,ad)=>
j26 ac a ad ab f w g h k m n y o p u v ae af ag ah ai aj ak al am an aa ao ap),
bo (
bw)])) (
(Bp a 0 (Ee ac.2.1 (Ac a))).bind λaq=>
(Dp f w g h k m n y o p u v aq).bind λ(ae,ao,af,ag,ah,ai,aj,ap,ak,al,am,an,ad)=>
j26 ac a ad ab f w g h k m n y o p u v ae af ag ah ai aj ak al am an aa ao ap)
else
if(geq ac.1 2)then
(λdg:Option (LB×LB×Int×Int×Int×Int×Int×LI×Int×LB×Bool×Int×(List (Int×LB×Unit))×Int)=>
(λdh:Option (LB×LB×Int×Int×Int×Int×Int×LI×Int×LB×Bool×Int×(List (Int×LB×Unit))×Int)=>
(λdi:Option (LB×LB×Int×Int×Int×Int×Int×LI×Int×LB×Bool×Int×(List (Int×LB×Unit))×Int)=>
both (
di) [
di,
dh]) (
both (
dh) [
dg])) (
bo (
dg))) (
(Vj f w g h k m n y o p u v ac.2.1).bind λ(av,ar,aw,ax,ay,az,ba,bg,bb,bc,bd,be,bf,au)=>
j33 au ab f w g h k m n y o p u v a av aw ax ay az ba bb bc bd be bf aa ar bg)
else
if(geq ac.1 3)then
(λdj:Option (LB×LB×Int×Int×Int×Int×Int×LI×Int×LB×Bool×Int×(List (Int×LB×Unit))×Int)=>
(λdk:Option (LB×LB×Int×Int×Int×Int×Int×LI×Int×LB×Bool×Int×(List (Int×LB×Unit))×Int)=>
(λdl:Option (LB×LB×Int×Int×Int×Int×Int×LI×Int×LB×Bool×Int×(List (Int×LB×Unit))×Int)=>
both (
dl) [
dl,
dk]) (
both (
dk) [
dj])) (
bo (
dj))) (
(Dx f w g h k m n y o p u v).bind λ(bi,bt,bj,bk,bl,bm,bn,bu,bp,bq,br,bs,bh)=>
j34 bh ab f w g h k m n y o p u v a bi bj bk bl bm bn bp bq br bs aa bt bu)
else
j29 ab f g h k m n o p u v a aa w y
else
j31 aa f g h k m n o p u v a w y
theorem Ayq: @DE= @Ql:=by
  unfold DE Ql
  try simp only[RZ,AH,BB]
  all_goals
    repeat (refine funext λ_=>?_)
    repeat' first
      |with_reducible rfl
      |with_reducible refine Ky ?_ ?_
      |with_reducible refine Kr ?_ ?_ ?_
      |with_reducible refine La ?_ ?_ ?_ ?_
      |((with_reducible refine Pj ?_ ?_);focus (intro h;first|(subst h;rfl)|(simp only[h];rfl)|(simp[Da,Ac,h];done)))
      |with_reducible refine Pa λx=>?_
      |with_reducible refine Vt (λ_=>?_) (λ_=>?_)
      |(refine Fq (λh=>by simp only[h,Pg,Ec,Ea,ite_self]) (λx h=>?_);(try simp only[h,Ec]))
      |(refine Hv (λh=>?_) (λh=>?_)<;>simp only[h,if_true,if_false,Bool.false_eq_true])
abbrev R_:=(LB×LB×Int×Int×Int×Int×Int×LI×Int×LB×Bool×Int×(List (Int×LB×Unit))×Int)
abbrev K_:=S->Option R_
def H:=hd_ [Ss,Sb,.lf (.list (.cons (.int .u8) (.cons (.int .i64) .nil))) none] [.agg [Ss,Ob 5,.agg [Si,Si,Si,Si,Si],Ol 3,Si,Sb,Sz,Si],.lf (.list (.cons (.int .i64) (.cons (.list (.int .u8)) .nil))) (some 106),Si] (.q (.q (.q (.q (.q (.cut [6,12,13] [] (.keep [6,12,13,35] true) .d)))))) [F6.k,F12.k,F13.k,F14.k,F25.k] f19 false [(52,(.q (.q (.q (.cut [6] [] (.q (.blk (.loop [5,6,19,20,21] [⟨5,[0,0,5],.ro (.int .u8)⟩,⟨6,[],.own 106 (.cons (.int .i64) (.cons (.list (.int .u8)) .nil))⟩] (.q (.q (.cut [5,6,19,20,21] [] (.blk (.q (.q (.q (.cond (.keep [5,6,19,20,21,33,37,38,39] true) .d))))) .d)))))) .d))))),(104,(.q (.q (.cut [0,1,4,5,6] [] (.mode false) (.seq (.mode false) .d))))),(105,(.q (.cut [0,4,5,6,7] [] (.mode false) .d))),(106,(.q (.cut [0,4,5,6] [] (.mode false) .d)))]
def t17(b:List (UInt8×Int×Unit))(ab:Int)(f:LB)(g h k m n o:Int)(p:LB)(u:Bool)(v:Int)(a:LB)(aa:List (Int×LB×Unit))(w:LB)(y:LI):S:=⟨[(5,.mp [1,2,3] [.bfn 104 [.ptr 0 []],.bfn 105 [.ptr 0 []],.bfn 106 [.ptr 0 []]]),(6,.own 1),(19,.val (.list (.cons (.int .u8) (.cons (.int .i64) .nil))) b),(20,vi (Ac b)),(21,vi ab)],[.box 110 (.agg [.agg [vs f,.own 3,.agg [vi g,vi h,vi k,vi m,vi n],.own 4,vi o,vb p,vt u,vi v],.fn 12 [],.fn 13 [],.fn 14 [],vb a]),.arr 106 (.cons (.int .i64) (.cons (.list (.int .u8)) .nil)) aa,.box 28 (.agg [vs ([]:LB),.nils,.agg [vi 0,vi 0,vi 0,vi 0,vi 0],.nils,vi 0,.nils,vt false,vi 0]),Ab 5 w,Ai 3 y],[[(6,.ptr 2 []),(12,.ptr 0 [])]]⟩
def z17:ZT_ R_:=H.i P_ [r,r,r,r,r,l,(call 2 52),r,r,r,l,r,d]
def x26(T2:K_)(b:List (UInt8×Int×Unit))(ac:UInt8×Int×Unit)(a:LB)(ad ab:Int)(f w:LB)(g h k m n:Int)(y:LI)(o:Int)(p:LB)(u:Bool)(v:Int)(ae:LB)(af ag ah ai aj ak:Int)(al:LB)(am:Bool)(an:Int)(aa:List (Int×LB×Unit))(ao:LB)(ap:LI):Option R_:=H.e P_ [r,r,r,r,r,l,(call 2 52),r,r,r,l,r,d,(lp T2),r,r,l,d,r,r,r,l,(call 4 104),r,r,r] ⟨[(0,.ptr 0 []),(1,vi (Ee ac.2.1 (Ac a))),(4,.ptr 1 []),(5,.ptr 2 []),(6,vi ad)],[.box 110 (.agg [.agg [vs f,vb w,.agg [vi g,vi h,vi k,vi m,vi n],vl y,vi o,vb p,vt u,vi v],.fn 12 [],.fn 13 [],.fn 14 [],vb a]),.box 106 (.agg [vi 0,.nils]),.box 28 (.agg [vs ae,.own 5,.agg [vi af,vi ag,vi ah,vi ai,vi aj],.own 6,vi ak,vb al,vt am,vi an]),.arr 106 (.cons (.int .i64) (.cons (.list (.int .u8)) .nil)) aa,.box 28 (.agg [vs ([]:LB),.nils,.agg [vi 0,vi 0,vi 0,vi 0,vi 0],.nils,vi 0,.nils,vt false,vi 0]),Ab 5 ao,Ai 3 ap],[[(5,.mp [1,2,3] [.bfn 104 [.ptr 0 []],.bfn 105 [.ptr 0 []],.bfn 106 [.ptr 0 []]]),(6,.own 3),(19,.val (.list (.cons (.int .u8) (.cons (.int .i64) .nil))) b),(20,vi (Ac b)),(21,vi ab),(33,.own 3)],[(6,.ptr 4 []),(12,.ptr 0 [])]]⟩
theorem e26(T2:K_)(b:List (UInt8×Int×Unit)):x26 T2 b=JQ (λab f g h k m n o p u v a aa w y=>T2 (t17 b ab f g h k m n o p u v a aa w y)) b:=Eq.trans (b:=DX (Gf (λab f g h k m n o p u v a aa w y=>T2 (t17 b ab f g h k m n o p u v a aa w y)) b) b) F5 (by rw[Ayx];rfl)
theorem i17(b:List (UInt8×Int×Unit)):∀(q:Nat) (ab:Int) (f:LB) (g h k m n o:Int) (p:LB) (u:Bool) (v:Int) (a:LB) (aa:List (Int×LB×Unit)) (w:LB) (y:LI),z17 q (t17 b ab f g h k m n o p u v a aa w y)=Fx b q ab f g h k m n o p u v a aa w y:=
 ind (λ_ _ _ _ _ _ _ _ _ _ _ _ _ _ _=>by kernel_rfl) λq ih ab f g h k m n o p u v a aa w y=>Eq.trans (b:=DE (x26 (z17 q) b) (FV (λab f g h k m n o p u v a aa w y=>(z17 q) (t17 b ab f g h k m n o p u v a aa w y)) b) (GW (λab f g h k m n o p u v a aa w y=>(z17 q) (t17 b ab f g h k m n o p u v a aa w y)) b) (Gf (λab f g h k m n o p u v a aa w y=>(z17 q) (t17 b ab f g h k m n o p u v a aa w y)) b) FZ b ab f g h k m n o p u v a aa w y) F5 (by rw[Ayq];simp only[e26,ih]<;>rfl)
def k:KC_:=kk_ 19 H (u3 NA) func19 (λx=>Eq.trans (b:=u3 (LO (λb ab f g h k m n o p u v a aa w y=>z17 Du (t17 b ab f g h k m n o p u v a aa w y))) x) F5 (by simp only[i17,Bg]<;>rfl))
end F19
namespace F4
abbrev R_:=Bool
def H:=hd_ [Ss,Sb,Si,Si] [Sz] (.q (.q (.q (.q (.q (.q (.q (.q (.q (.q (.q (.q (.q (.cut [9,12,13,15,17,18,20] [] .d .d)))))))))))))) [F6.k,F12.k,F13.k,F17.k,F18.k,F19.k,F20.k,F21.k,F22.k,F23.k,F24.k,F25.k,F26.k] f4
def k:KC_:=kk_ 4 H (u4 Mb) func4
end F4
end
end Go.Proofs.YtaokmgopghpikaaGreatDoor
