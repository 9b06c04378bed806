/- A part of a proof (see the text that ends in Proof). No conditions. -/
import Derived.Test.YtjjpijoihenabaaGreatDoorOnHA
set_option linter.unusedVariables false
set_option linter.unusedSimpArgs false
set_option maxRecDepth 10000
namespace Go.Proofs.YtjjpijoihenabaaGreatDoor
open Go Go.Lv Go.Pl Go.Rx Go.Rx.PS
noncomputable section
def g0:List Value:=[.int .i64 2,.int .i64 2,.int .i64 2,.int .i64 4,.int .i64 4]
def g1:List Value:=[.int .i64 2,.int .i64 2,.int .i64 4,.int .i64 4,.int .i64 2,.int .i64 2,.int .i64 2,.int .i64 2,.int .i64 4]
def g2:List Value:=[.bool true,.int .i64 0]
def g3:List Value:=[.int .u8 1,.int .u8 0,.int .u8 0,.int .u8 0,.int .u8 0,.int .u8 0,.int .u8 16,.int .u8 0,.int .u8 128,.int .u8 0,.int .u8 0,.int .u8 170,.int .u8 0,.int .u8 56,.int .u8 155,.int .u8 113]
def g4:List Value:=[.bool false,.int .i64 0]
def g6:List Value:=[.int .u8 0,.int .u8 1,.int .u8 56,.int .u8 2,.int .u8 57,.int .u8 49,.int .u8 28,.int .u8 3,.int .u8 61,.int .u8 58,.int .u8 42,.int .u8 50,.int .u8 38,.int .u8 29,.int .u8 17,.int .u8 4,.int .u8 62,.int .u8 47,.int .u8 59,.int .u8 36,.int .u8 45,.int .u8 43,.int .u8 51,.int .u8 22,.int .u8 53,.int .u8 39,.int .u8 33,.int .u8 30,.int .u8 24,.int .u8 18,.int .u8 12,.int .u8 5,.int .u8 63,.int .u8 55,.int .u8 48,.int .u8 27,.int .u8 60,.int .u8 41,.int .u8 37,.int .u8 16,.int .u8 46,.int .u8 35,.int .u8 44,.int .u8 21,.int .u8 52,.int .u8 32,.int .u8 23,.int .u8 11,.int .u8 54,.int .u8 26,.int .u8 40,.int .u8 15,.int .u8 34,.int .u8 20,.int .u8 31,.int .u8 10,.int .u8 25,.int .u8 14,.int .u8 19,.int .u8 9,.int .u8 13,.int .u8 8,.int .u8 7,.int .u8 6]
def gl:List (Nat×List Value):=[(0,g0),(1,g1),(2,g2),(3,g3),(4,g4),(6,g6)]
theorem mixed:Tryz.prog.follows .mixedOrders=true:=B3
noncomputable abbrev P_:=Tryz.prog
noncomputable def kt(l:List (Kc P_ gl))(v:Bool)(c:Bool:=false):=Bf1 l v c
theorem co(H:Hd){f:Nat}{F:KP (Ya H.p)->Option (KP (Ya H.r))}(hf:P_.funcs[f]? =some H.f)(h:∀x,H.u P_ x=F x:=by intro x;kernel_rfl)(hT:NK P_ H.T:=by exact Ao4 _ _ _)(hb:okA P_ H=true:=by kernel_rfl):ConOk P_ H.T.gl f ⟨H.p,H.r,F⟩:=Hd.cn mixed H hf hT hb h
def kk_(f:Nat)(H:Hd)(F:KP (Ya H.p)->Option (KP (Ya H.r)))(hf:P_.funcs[f]? =some H.f)(h:∀x,H.u P_ x=F x:=by intro x;kernel_rfl)(hT:NK P_ H.T:=by exact Ao4 _ _ _)(hb:okA P_ H=true:=by kernel_rfl):Kc P_ H.T.gl:=⟨(f,⟨H.p,H.r,F⟩),Hd.cn mixed H hf hT hb h⟩
abbrev KC_:=Kc P_ gl
abbrev hd_(p r:List Sh)(a:An)(l:List KC_)(f:Func)(v:Bool:=false)(s:List (Nat×An):=[]):Hd:=⟨p,r,a,kt l v,s,f⟩
abbrev ZT_(R:Type):=Nat->S->Option R
theorem ent40:Ent Tryz.prog 40:=Ent.mk Tryz.func40 B3 rfl
theorem ent117:Ent Tryz.prog 117:=Ent.mk Tryz.func117 B3 rfl
abbrev u2{A B R:Type}(f:A->B->R)(x:A×B):=f x.1 x.2
abbrev u3{A B C R:Type}(f:A->B->C->R):=u2 λa=>u2 (f a)
abbrev u4{A B C D R:Type}(f:A->B->C->D->R):=u2 λa=>u3 (f a)
abbrev u5{A B C D E R:Type}(f:A->B->C->D->E->R):=u2 λa=>u4 (f a)
abbrev u6{A B C D E F R:Type}(f:A->B->C->D->E->F->R):=u2 λa=>u5 (f a)
abbrev u7{A B C D E F G R:Type}(f:A->B->C->D->E->F->G->R):=u2 λa=>u6 (f a)
abbrev u8{A B C D E F G H R:Type}(f:A->B->C->D->E->F->G->H->R):=u2 λa=>u7 (f a)
abbrev u9{A B C D E F G H I R:Type}(f:A->B->C->D->E->F->G->H->I->R):=u2 λa=>u8 (f a)
abbrev u10{A B C D E F G H I J R:Type}(f:A->B->C->D->E->F->G->H->I->J->R):=u2 λa=>u9 (f a)
abbrev u11{A B C D E F G H I J K R:Type}(f:A->B->C->D->E->F->G->H->I->J->K->R):=u2 λa=>u10 (f a)
abbrev u12{A B C D E F G H I J K L R:Type}(f:A->B->C->D->E->F->G->H->I->J->K->L->R):=u2 λa=>u11 (f a)
abbrev u13{A B C D E F G H I J K L M R:Type}(f:A->B->C->D->E->F->G->H->I->J->K->L->M->R):=u2 λa=>u12 (f a)
open Go.Proofs.Tryz
namespace F4
def H:=hd_ [] [.agg [Si,Si,Si,Ow 21]] .d [] f4
def k:KC_:=kk_ 4 H (λ_=>Fm) func4
end F4
namespace F60
def H:=hd_ [.agg [Si,Si,Si,Sw]] [.agg [Si,Si]] .d [] f60
def k:KC_:=kk_ 60 H (u4 OT) func60
end F60
namespace F72
abbrev R_:=(Int32×Int32×Int)
def H:=hd_ [Si] [Sx,Sx,Si] (.q (.seq (.q (.blk (.cut [0,7] [] .d .d))) .d)) [] f72
def x2(a:Int)(b:Bool):Option R_:=H.e P_ [r,l,r,d,r] ⟨[(0,vi a),(7,vt b)],[],[]⟩
theorem e2:x2=cD:=B3
def k:KC_:=kk_ 72 H Tk func72 (λx=>Eq.trans (b:=aK x2 x) B3 (by simp only[e2]<;>rfl))
end F72
namespace F91
def H:=hd_ [.agg [Si,Si]] [Si] .d [F72.k] f91
def k:KC_:=kk_ 91 H (u2 Gk) func91
end F91
namespace F93
def H:=hd_ [Si] [Si,Si] .d [] f93
def k:KC_:=kk_ 93 H Pk func93
end F93
namespace F92
def H:=hd_ [Si,Si] [Si,Si] .d [F93.k] f92
def k:KC_:=kk_ 92 H (u2 Kk) func92
end F92
namespace F46
def H:=hd_ [.agg [Si,Si,Si,Sw],Si] [Si] .d [F60.k,F91.k,F92.k] f46
def k:KC_:=kk_ 46 H (u5 OO) func46
end F46
namespace F47
abbrev R_:=Int
def H:=hd_ [Si,Sw] [Si] (.q (.q (.q (.q (.cut [] [] (.q (.blk (.loop [5,6,22,23,24] [] .d))) .d))))) [F72.k] f47
def t4(b f:Int32)(a:LX)(g:Int):S:=⟨[(5,vx b),(6,vx f),(22,vw a),(23,vi (Ac a)),(24,vi g)],[],[]⟩
def z4:ZT_ R_:=H.i P_ [r,r,r,r,l,r,d]
def x6:Option R_:=H.e P_ [r,r,r,r,r] ⟨[],[],[]⟩
theorem e6:x6=Bjv:=B3
theorem i4(b f:Int32)(a:LX):∀(q:Nat) (g:Int),z4 q (t4 b f a g)=Ur b f a q g:=
 ind (λ_=>by kernel_rfl) λq ih g=>Eq.trans (b:=IW x6 (λg=>(z4 q) (t4 b f a g)) b f a g) B3 (by simp only[e6,ih]<;>rfl)
def k:KC_:=kk_ 47 H (u2 Sr) func47 (λx=>Eq.trans (b:=u2 (aV (λb f a g=>z4 Dt (t4 b f a g))) x) B3 (by simp only[i4,Bb]<;>rfl))
end F47
namespace F15
def H:=hd_ [.agg [Si,Si,Si,Sw]] [Si] .d [F46.k,F47.k] f15
def k:KC_:=kk_ 15 H (u4 En) func15
end F15
namespace F16
abbrev R_:=(LB×Int)
abbrev K_:=S->Option R_
def H:=hd_ [Si,Sw] [Ob 5,Si] (.q (.q (.q (.cut [7] [] (.q (.blk (.loop [0,7,17,18,19] [⟨7,[],.own 5 (.int .u8)⟩] (.q (.q (.cut [0,7,17,18,19] [] (.blk (.q (.cut [0,7,9,17,18,19] [] .d (.q (.blk (.loop [0,7,9,17,18,19,28,29] [] .d)))))) .d)))))) .d)))) [F47.k] f16
def t26(b:Int)(a:LX)(k:Int32)(f m:Int)(h:LB):S:=⟨[(0,vi b),(7,.own 0),(9,vx k),(17,vw a),(18,vi (Ac a)),(19,vi f),(28,vi (Bo b (8:Int))),(29,vi m)],[Ab 5 h],[]⟩
def z26(Dn:K_):ZT_ R_:=H.i P_ [r,r,r,l,r,d,(lp Dn),r,r,l,d,r,r,r,d]
def t16(b:Int)(a:LX)(f:Int)(g:LB):S:=⟨[(0,vi b),(7,.own 0),(17,vw a),(18,vi (Ac a)),(19,vi f)],[Ab 5 g],[]⟩
def z16:ZT_ R_:=H.i P_ [r,r,r,l,r,d]
def x30(g:LB):Option R_:=H.e P_ [r,r,r,r] ⟨[(7,.own 0)],[Ab 5 g],[]⟩
def x28(Dn:K_)(b:Int)(a:LX)(f:Int)(h:LB):Option R_:=H.e P_ [r,r,r,l,r,d,(lp Dn),r,r,r] ⟨[(0,vi b),(7,.own 0),(17,vw a),(18,vi (Ac a)),(19,vi f)],[Ab 5 h],[]⟩
def x25(Dn:K_)(b:Int)(a:LX)(f:Int)(g:LB)(k:Int32):Option R_:=H.e P_ [r,r,r,l,r,d,(lp Dn),r,r,l,d,r,r] ⟨[(0,vi b),(7,.own 0),(9,vx k),(17,vw a),(18,vi (Ac a)),(19,vi f)],[Ab 5 g],[]⟩
theorem e30:x30=Bgd:=B3
theorem e28(Dn:K_)(b:Int)(a:LX):x28 Dn b a=VE (λf g=>Dn (t16 b a f g)) b a:=B3
theorem i26(Dn:K_)(b:Int)(a:LX)(k:Int32)(f:Int):∀(q:Nat) (m:Int) (h:LB),z26 Dn q (t26 b a k f m h)=Ls (λf g=>Dn (t16 b a f g)) b a k f q m h:=
 ind (λ_ _=>by kernel_rfl) λq ih m h=>Eq.trans (b:=EV (x28 Dn b a) (λm h=>(z26 Dn q) (t26 b a k f m h)) b a k f m h) B3 (by simp only[e28,ih]<;>rfl)
theorem e25(Dn:K_)(b:Int)(a:LX):x25 Dn b a=Ou (λf g=>Dn (t16 b a f g)) b a:=Eq.trans (b:=UL (λk f m h=>z26 Dn Dt (t26 b a k f m h)) b a) B3 (by simp only[i26,Bb]<;>rfl)
theorem i16(b:Int)(a:LX):∀(q:Nat) (f:Int) (g:LB),z16 q (t16 b a f g)=Hw b a q f g:=
 ind (λ_ _=>by kernel_rfl) λq ih f g=>Eq.trans (b:=FH (x25 (z16 q) b a) x30 b a f g) B3 (by simp only[e25,e30,ih]<;>rfl)
def k:KC_:=kk_ 16 H (u2 Jy) func16 (λx=>Eq.trans (b:=u2 (aX (λb a f g=>z16 Dt (t16 b a f g))) x) B3 (by simp only[i16,Bb]<;>rfl))
end F16
namespace F48
def H:=hd_ [.agg [Si,Si],Si,Ss] [Si,Sz] .d [F91.k,F93.k] f48
def k:KC_:=kk_ 48 H (u4 EI) func48
end F48
namespace F17
def H:=hd_ [.agg [Si,Si],Si,Ss] [.agg [.agg [Si,Si],Si,Ss,Ob 5,Ow 21,.lf (.list (.list (.int .u8))) (some 22),Ob 5,Sz,Si],Si] .d [F48.k] f17
def k:KC_:=kk_ 17 H (u4 eB) func17
end F17
namespace F50
def H:=hd_ [.agg [Si,Si]] [Si] .d [] f50
def k:KC_:=kk_ 50 H (u2 JI) func50
end F50
namespace F53
def H:=hd_ [.agg [.agg [Si,Si],Si,Ss,Sb,Sw,.lf (.list (.list (.int .u8))) none,Sb,Sz,Si],Si] [Si] .d [] f53
def k:KC_:=kk_ 53 H (u11 Xv) func53
end F53
namespace F52
def H:=hd_ [.agg [.agg [Si,Si],Si,Ss,Sb,Sw,.lf (.list (.list (.int .u8))) none,Sb,Sz,Si],Si,Si] [Sz] .d [] f52
def k:KC_:=kk_ 52 H (u12 Xf) func52
end F52
namespace F129
abbrev R_:=Bool
abbrev K_:=S->Option R_
def H:=hd_ [.agg [.agg [Si,Si],Si,Ss,Sb,Sw,.lf (.list (.list (.int .u8))) none,Sb,Sz,Si],Si] [Sz] (.q (.q (.cut [1,2,5] [] .d (.q (.q (.cut [1,2,5,6] [] .d (.cut [1,2,5] [] .d (.q (.cut [4] [] (.keep [4,80,81] true) .d))))))))) [F47.k,F50.k,F52.k,F53.k] f129 false [(166,(.q (.cut [4] [] (.keep [4,7,8] true) .d))),(167,.d),(196,(.q (.cut [] [] (.q (.blk (.loop [0,1,7,8] [] (.q (.q (.cut [0,1,7,8] [] (.blk (.q (.cut [0,1,5,7,8,16] [] (.keep [0,1,5,7,8,16] true) .d))) .d)))))) .d)))]
def t16(b:List LB)(f a h:Int):S:=⟨[(0,.val (.list (.list (.int .u8))) b),(1,.fn 167 [.ptr 0 []]),(7,vi (Ac b)),(8,vi h)],[.box 3 (vi (Ad (Bo (Ad (Bg (Bg (81:Int) f) a) (7:Int)) (8:Int)) (4:Int)))],[[(4,vt false)],[]]⟩
def z16:ZT_ R_:=H.i P_ [r,r,r,r,r,r,r,r,l,(call 3 166),r,l,(call 2 196),r,l,r,d]
def x24(w:Bool):Option R_:=H.e P_ [r,r,r,r,r,r,r,r,r] ⟨[(4,vt (!w))],[],[]⟩
def x23(w:Bool):Option R_:=H.e P_ [r,r,r,r,r,r,r,r,l,(call 3 166),r,r] ⟨[(4,vt w)],[],[[]]⟩
def x22:Option R_:=H.e P_ [r,r,r,r,r,r,r,r,l,(call 3 166),r,l,(call 2 196),r,r] ⟨[],[],[[(4,vt false)],[]]⟩
def x20(Dn:K_)(b:List LB)(f a h:Int):Option R_:=H.e P_ [r,r,r,r,r,r,r,r,l,(call 3 166),r,l,(call 2 196),r,l,r,d,(lp Dn),r,r,r] ⟨[(0,.val (.list (.list (.int .u8))) b),(1,.fn 167 [.ptr 0 []]),(7,vi (Ac b)),(8,vi h)],[.box 3 (vi (Ad (Bo (Ad (Bg (Bg (81:Int) f) a) (7:Int)) (8:Int)) (4:Int)))],[[(4,vt false)],[]]⟩
def x19(Dn:K_)(b:List LB)(f a h:Int)(y:LB):Option R_:=H.e P_ [r,r,r,r,r,r,r,r,l,(call 3 166),r,l,(call 2 196),r,l,r,d,(lp Dn),r,r,l,d,r,r] ⟨[(0,.val (.list (.list (.int .u8))) b),(1,.fn 167 [.ptr 0 []]),(5,vi h),(7,vi (Ac b)),(8,vi h),(16,vt ((Ck (Ac y) (5:Int))||(Ei (Ac y) (Ad (Bo (Ad (Bg (Bg (81:Int) f) a) (7:Int)) (8:Int)) (4:Int)))))],[.box 3 (vi (Ad (Bo (Ad (Bg (Bg (81:Int) f) a) (7:Int)) (8:Int)) (4:Int)))],[[(4,vt false)],[]]⟩
def x15(f a k o:Int)(p m:LB)(g:LX)(b:List LB)(n:LB)(u:Bool)(v:Int):Option R_:=H.e P_ [r,r,r,r,r,r,r] ⟨[(1,vi f),(2,.ptr 0 []),(5,vi a)],[.box 44 (.agg [.agg [vi a,vi k],vi o,vs p,vb m,vw g,.val (.list (.list (.int .u8))) b,vb n,vt u,vi v])],[]⟩
def x14(f a k o:Int)(p m:LB)(g:LX)(b:List LB)(n:LB)(u:Bool)(v aa:Int):Option R_:=H.e P_ [r,r,r,r,r,r] ⟨[(1,vi f),(2,.ptr 0 []),(5,vi a),(6,vi aa)],[.box 44 (.agg [.agg [vi a,vi k],vi o,vs p,vb m,vw g,.val (.list (.list (.int .u8))) b,vb n,vt u,vi v])],[]⟩
def x13(f a k o:Int)(p m:LB)(g:LX)(b:List LB)(n:LB)(u:Bool)(v:Int):Option R_:=H.e P_ [r,r,r] ⟨[(1,vi f),(2,.ptr 0 []),(5,vi a)],[.box 44 (.agg [.agg [vi a,vi k],vi o,vs p,vb m,vw g,.val (.list (.list (.int .u8))) b,vb n,vt u,vi v])],[]⟩
theorem e24:x24=Ali:=B3
theorem e23:x23=DT:=Eq.trans (b:=Akq x24) B3 (by simp only[e24]<;>rfl)
theorem e22:x22=Akz:=Eq.trans (b:=Al9 x23) B3 (by simp only[e23]<;>rfl)
theorem e20(Dn:K_)(b:List LB)(f a:Int):x20 Dn b f a=DF (λh=>Dn (t16 b f a h)) b f a:=B3
theorem e19(Dn:K_)(b:List LB)(f a:Int):x19 Dn b f a=CW (λh=>Dn (t16 b f a h)) b f a:=Eq.trans (b:=DS x23 (x20 Dn b f a) b f a) B3 (by simp only[e23,e20]<;>rfl)
theorem i16(b:List LB)(f a:Int):∀(q:Nat) (h:Int),z16 q (t16 b f a h)=Ll b f a q h:=
 ind (λ_=>by kernel_rfl) λq ih h=>Eq.trans (b:=Uf (x19 (z16 q) b f a) x22 b f a h) B3 (by simp only[e19,e22,ih]<;>rfl)
theorem e15:x15=Um:=Eq.trans (b:=Ua (λb f a h=>z16 Dt (t16 b f a h))) B3 (by simp only[i16,Bb]<;>rfl)
theorem e14:x14=Uc:=Eq.trans (b:=Ub x15) B3 (by simp only[e15]<;>rfl)
theorem e13:x13=DA:=Eq.trans (b:=DI x14) B3 (by simp only[e14]<;>rfl)
def k:KC_:=kk_ 129 H (u11 FA) func129 (λx=>Eq.trans (b:=u11 (FV x13) x) B3 (by simp only[e13]<;>rfl))
end F129
namespace F94
def H:=hd_ [.agg [.agg [Si,Si],Si,Ss,Sb,Sw,.lf (.list (.list (.int .u8))) none,Sb,Sz,Si]] [Si] .d [F48.k,F129.k] f94
def k:KC_:=kk_ 94 H (u10 QR) func94
end F94
namespace F130
def Qv(a:LB):Option (LB):=
wh a (
some ([]:LB)) (
(Ds ([]:LB) a).bind λb=>
some b)
theorem Bn1: @Qv= @Ca:=by
  unfold Qv Ca
  repeat (refine funext λ_=>?_)
  repeat' first
    |with_reducible rfl
    |with_reducible refine Qx ?_ ?_
    |with_reducible refine Qj ?_ ?_ ?_
    |with_reducible refine Qz ?_ ?_ ?_ ?_
    |((with_reducible refine Xc ?_ ?_);focus (intro h;first|(subst h;rfl)|(simp only[h];rfl)|(simp[Ds,Ac,h];done)))
    |with_reducible refine We λx=>?_
    |with_reducible refine FY (λ_=>?_) (λ_=>?_)
    |(refine Jg (λh=>by simp only[h,Wu,Gg,Gb,ite_self]) (λx h=>?_);(try simp only[h,Gg]))
    |(refine My (λh=>?_) (λh=>?_)<;>simp only[h,if_true,if_false,Bool.false_eq_true])
def H:=hd_ [Sb] [Ob 5] .d [] f130
def k:KC_:=kk_ 130 H Ca func130 (λx=>Eq.trans (b:=Qv x) B3 (by simp only[Bn1]<;>rfl))
end F130
namespace F131
def Oi(a:LX):Option (LX):=
wh a (
some ([]:LX)) (
(Ds ([]:LX) a).bind λb=>
some b)
theorem Bmp: @Oi= @Dr:=by
  unfold Oi Dr
  repeat (refine funext λ_=>?_)
  repeat' first
    |with_reducible rfl
    |with_reducible refine Qx ?_ ?_
    |with_reducible refine Qj ?_ ?_ ?_
    |with_reducible refine Qz ?_ ?_ ?_ ?_
    |((with_reducible refine Xc ?_ ?_);focus (intro h;first|(subst h;rfl)|(simp only[h];rfl)|(simp[Ds,Ac,h];done)))
    |with_reducible refine We λx=>?_
    |with_reducible refine FY (λ_=>?_) (λ_=>?_)
    |(refine Jg (λh=>by simp only[h,Wu,Gg,Gb,ite_self]) (λx h=>?_);(try simp only[h,Gg]))
    |(refine My (λh=>?_) (λh=>?_)<;>simp only[h,if_true,if_false,Bool.false_eq_true])
def H:=hd_ [Sw] [Ow 21] .d [] f131
def k:KC_:=kk_ 131 H Dr func131 (λx=>Eq.trans (b:=Oi x) B3 (by simp only[Bmp]<;>rfl))
end F131
namespace F95
abbrev R_:=(Int×Int×Int×LB×LB×LX×(List LB)×LB×Bool×Int)
def H:=hd_ [.agg [.agg [Si,Si],Si,Ss,Sb,Sw,.lf (.list (.list (.int .u8))) none,Sb,Sz,Si]] [.agg [.agg [Si,Si],Si,Ss,Ob 5,Ow 21,.lf (.list (.list (.int .u8))) (some 22),Ob 5,Sz,Si]] (.q (.cut [1,2] [] .d (.q (.q (.cut [1,2,3] [] (.q (.blk (.loop [1,2,3,26,27] [] .d))) .d))))) [F130.k,F131.k] f95
def t6(w a:List LB)(b f g:Int)(h:LB)(k:Bool)(m:Int)(n:LB)(o:LX)(p:LB)(v:Int)(u:List LB):S:=⟨[(1,.ptr 0 []),(2,.ptr 1 []),(3,.own 2),(26,vi (Ac (XF w a))),(27,vi v)],[.box 44 (.agg [.agg [vi b,vi f],vi g,vs h,.own 3,.own 4,.val (.list (.list (.int .u8))) a,.own 5,vt k,vi m]),.box 44 (.agg [.agg [vi 0,vi 0],vi 0,vs ([]:LB),.nils,.nils,.nils,.nils,vt false,vi 0]),.arr 22 (.list (.int .u8)) u,Ab 5 n,Aw 21 o,Ab 5 p],[]⟩
def z6:ZT_ R_:=H.i P_ [r,r,r,r,l,r,d]
def x8(b f g:Int)(h:LB)(a:List LB)(k:Bool)(m:Int)(u:List LB)(n:LB)(o:LX)(p:LB):Option R_:=H.e P_ [r,r,r,r,r] ⟨[(1,.ptr 0 []),(2,.ptr 1 []),(3,.own 2)],[.box 44 (.agg [.agg [vi b,vi f],vi g,vs h,.own 3,.own 4,.val (.list (.list (.int .u8))) a,.own 5,vt k,vi m]),.box 44 (.agg [.agg [vi 0,vi 0],vi 0,vs ([]:LB),.nils,.nils,.nils,.nils,vt false,vi 0]),.arr 22 (.list (.int .u8)) u,Ab 5 n,Aw 21 o,Ab 5 p],[]⟩
def x5(b f g:Int)(h:LB)(a:List LB)(k:Bool)(m:Int)(n:LB)(o:LX)(p:LB):Option R_:=H.e P_ [r,r] ⟨[(1,.ptr 0 []),(2,.ptr 1 [])],[.box 44 (.agg [.agg [vi b,vi f],vi g,vs h,.own 2,.own 3,.val (.list (.list (.int .u8))) a,.own 4,vt k,vi m]),.box 44 (.agg [.agg [vi 0,vi 0],vi 0,vs ([]:LB),.nils,.nils,.nils,.nils,vt false,vi 0]),Ab 5 n,Aw 21 o,Ab 5 p],[]⟩
theorem e8:x8=Bfl:=B3
theorem i6(w a:List LB)(b f g:Int)(h:LB)(k:Bool)(m:Int)(n:LB)(o:LX)(p:LB):∀(q:Nat) (v:Int) (u:List LB),z6 q (t6 w a b f g h k m n o p v u)=Sk w a b f g h k m n o p q v u:=
 ind (λ_ _=>by kernel_rfl) λq ih v u=>Eq.trans (b:=FM x8 (λv u=>(z6 q) (t6 w a b f g h k m n o p v u)) w a b f g h k m n o p v u) B3 (by simp only[e8,ih]<;>rfl)
theorem e5:x5=VC:=Eq.trans (b:=VI (λw a b f g h k m n o p v u=>z6 Dt (t6 w a b f g h k m n o p v u))) B3 (by simp only[i6,Bb]<;>rfl)
def k:KC_:=kk_ 95 H (u10 XZ) func95 (λx=>Eq.trans (b:=u10 (US x5) x) B3 (by simp only[e5]<;>rfl))
end F95
namespace F49
abbrev R_:=(Int×Int×Int×LB×LB×LX×(List LB)×LB×Bool×Int×Int×Int)
def H:=hd_ [.agg [.agg [Si,Si],Si,Ss,Sb,Sw,.lf (.list (.list (.int .u8))) none,Sb,Sz,Si]] [.agg [.agg [Si,Si],Si,Ss,Ob 5,Ow 21,.lf (.list (.list (.int .u8))) (some 22),Ob 5,Sz,Si],Si,Si] (.q (.q (.q (.cut [1,2,6,7] [] .d .d)))) [F93.k,F94.k,F95.k] f49
def x2(u g h b:Int)(k m:LB)(n:LX)(o:List LB)(p:LB)(f:Bool)(a v:Int):Option R_:=H.e P_ [r,r,r,r] ⟨[(1,.ptr 0 []),(2,.ptr 1 []),(6,vi u),(7,vi v)],[.box 44 (.agg [.agg [vi g,vi h],vi b,vs k,vb m,vw n,.val (.list (.list (.int .u8))) o,vb p,vt f,vi a]),.box 44 (.agg [.agg [vi 0,vi 0],vi 0,vs ([]:LB),.nils,.nils,.nils,.nils,vt false,vi 0])],[]⟩
theorem e2:x2=QN:=B3
def k:KC_:=kk_ 49 H (u10 EM) func49 (λx=>Eq.trans (b:=u10 (OJ x2) x) B3 (by simp only[e2]<;>rfl))
end F49
namespace F33
abbrev R_:=(LX×Int)
abbrev K_:=S->Option R_
def H:=hd_ [Si,Sb] [Ow 21,Si] (.q (.q (.q (.q (.q (.q (.cut [10] [] (.q (.blk (.loop [0,1,9,10,11] [⟨10,[],.own 21 (.int .i32)⟩] (.q (.cut [0,1,9,10,11] [] (.blk (.q (.q (.cut [0,1,9,10,11,12] [] (.q (.blk (.loop [0,1,9,10,11,12,53,54] [] .d))) .d)))) .d))))) .d))))))) [F72.k] f33
def t25(a:Int)(b:LB)(f:Int)(g:LX)(h:Int32)(k:Int):S:=⟨[(0,vi a),(1,vb b),(9,vi (Bo a (8:Int))),(10,.own 0),(11,vi f),(12,vx h),(53,vi (Bo a (8:Int))),(54,vi k)],[Aw 21 g],[]⟩
def z25(Dn:K_):ZT_ R_:=H.i P_ [r,r,r,r,r,r,l,r,d,(lp Dn),r,l,d,r,r,l,r,d]
def t16(a:Int)(b:LB)(f:Int)(g:LX):S:=⟨[(0,vi a),(1,vb b),(9,vi (Bo a (8:Int))),(10,.own 0),(11,vi f)],[Aw 21 g],[]⟩
def z16:ZT_ R_:=H.i P_ [r,r,r,r,r,r,l,r,d]
def x30(g:LX):Option R_:=H.e P_ [r,r,r,r,r,r,r] ⟨[(10,.own 0)],[Aw 21 g],[]⟩
def x28(Dn:K_)(a:Int)(b:LB)(f:Int)(m:LX):Option R_:=H.e P_ [r,r,r,r,r,r,l,r,d,(lp Dn),r,r] ⟨[(0,vi a),(1,vb b),(9,vi (Bo a (8:Int))),(10,.own 0),(11,vi f)],[Aw 21 m],[]⟩
def x27(Dn:K_)(a:Int)(b:LB)(f:Int)(h:Int32)(g:LX):Option R_:=H.e P_ [r,r,r,r,r,r,l,r,d,(lp Dn),r,l,d,r,r,r] ⟨[(0,vi a),(1,vb b),(9,vi (Bo a (8:Int))),(10,.own 0),(11,vi f),(12,vx h)],[Aw 21 g],[]⟩
def x25(Dn:K_)(a:Int)(b:LB)(f:Int)(g:LX)(h:Int32)(k:Int):Option R_:=H.e P_ [r,r,r,r,r,r,l,r,d,(lp Dn),r,l,d,r,r,l,r,d] (t25 a b f g h k)
theorem e30:x30=Auf:=B3
theorem e28(Dn:K_)(a:Int)(b:LB):x28 Dn a b=Ks (λf g=>Dn (t16 a b f g)) a b:=B3
theorem e27(Dn:K_)(a:Int)(b:LB):x27 Dn a b=Zn (λf g=>Dn (t16 a b f g)) a b:=Eq.trans (b:=Yz (x28 Dn a b) a b) B3 (by simp only[e28]<;>rfl)
theorem i25(Dn:K_)(a:Int)(b:LB)(f:Int)(g:LX):∀(q:Nat) (h:Int32) (k:Int),z25 Dn q (t25 a b f g h k)=Ft (λf g=>Dn (t16 a b f g)) a b f g q h k:=
 ind (λ_ _=>by kernel_rfl) λq ih h k=>Eq.trans (b:=Gx (x27 Dn a b) (λh k=>(z25 Dn q) (t25 a b f g h k)) a b f g h k) B3 (by simp only[e27,ih]<;>rfl)
theorem e25(Dn:K_)(a:Int)(b:LB):x25 Dn a b=Od (λf g=>Dn (t16 a b f g)) a b:=by funext f g h k;exact Eq.trans B3 ((i25 Dn a b f g Dt h k).trans (by rw[Bb];rfl))
theorem i16(a:Int)(b:LB):∀(q:Nat) (f:Int) (g:LX),z16 q (t16 a b f g)=Ey a b q f g:=
 ind (λ_ _=>by kernel_rfl) λq ih f g=>Eq.trans (b:=Hb (x28 (z16 q) a b) (x25 (z16 q) a b) x30 a b f g) B3 (by simp only[e28,e25,e30,ih]<;>rfl)
def k:KC_:=kk_ 33 H (u2 Tp) func33 (λx=>Eq.trans (b:=u2 (PT (λa b f g=>z16 Dt (t16 a b f g))) x) B3 (by simp only[i16,Bb]<;>rfl))
end F33
namespace F133
abbrev R_:=(UInt64×Int)
abbrev K_:=S->Option R_
def H:=hd_ [Sq,Sb] [Sq,Si] (.q (.q (.cut [4,5] [] (.keep [0,1,4,5,9,10,11,12] true) .d))) [] f133 false [(168,(.q (.cut [1] [] (.q (.blk (.loop [0,1,9,10,11] [] .d))) .d))),(169,(.q (.q (.cut [1] [] (.q (.blk (.loop [1,5] [] (.q (.q (.cut [1,5] [] (.blk (.q (.q (.cut [1,2,3,5] [] (.q (.blk (.loop [1,2,3,5,11] [] .d))) .d)))) .d)))))) .d))))]
def t27(a:LB)(b:UInt64)(f:LQ)(h:UInt64)(n:Int):S:=⟨[(0,.ptr 0 []),(1,vq h),(9,vb a),(10,vi (Ac a)),(11,vi n)],[.box 286 (.val (.vec 256 (.int .u64)) f)],[[(0,vq b),(1,vb a),(4,vq 0),(5,vi 0),(9,.ptr 0 []),(10,vq b),(11,vb a)]]⟩
def z27:ZT_ R_:=H.i P_ [r,r,l,(call 3 168),r,l,r,d]
def t21(b:UInt64)(a:LB)(g:Int)(f:LQ)(k:UInt64)(m:Int):S:=⟨[(1,.ptr 0 []),(2,vi g),(3,vq k),(5,vi g),(11,vi m)],[.box 286 (.val (.vec 256 (.int .u64)) f)],[[(0,vq b),(1,vb a),(4,vq 0),(5,vi 0)]]⟩
def z21(Dn:K_):ZT_ R_:=H.i P_ [r,r,l,(call 0 169),r,r,l,r,d,(lp Dn),r,r,l,d,r,r,l,r,d]
def t16(b:UInt64)(a:LB)(g:Int)(f:LQ):S:=⟨[(1,.ptr 0 []),(5,vi g)],[.box 286 (.val (.vec 256 (.int .u64)) f)],[[(0,vq b),(1,vb a),(4,vq 0),(5,vi 0)]]⟩
def z16:ZT_ R_:=H.i P_ [r,r,l,(call 0 169),r,r,l,r,d]
def x30(h:UInt64):Option R_:=H.e P_ [r,r,r] ⟨[(4,vq h),(5,vi 0)],[],[]⟩
def x29(h b:UInt64)(a:LB)(f:LQ):Option R_:=H.e P_ [r,r,l,(call 3 168),r,r] ⟨[(1,vq h)],[.box 286 (.val (.vec 256 (.int .u64)) f)],[[(0,vq b),(1,vb a),(4,vq 0),(5,vi 0),(9,.ptr 0 []),(10,vq b),(11,vb a)]]⟩
def x26(b:UInt64)(a:LB)(f:LQ):Option R_:=H.e P_ [r,r,l,(call 0 169),r,r,r] ⟨[(1,.ptr 0 [])],[.box 286 (.val (.vec 256 (.int .u64)) f)],[[(0,vq b),(1,vb a),(4,vq 0),(5,vi 0)]]⟩
def x24(Dn:K_)(b:UInt64)(a:LB)(g:Int)(o:LQ):Option R_:=H.e P_ [r,r,l,(call 0 169),r,r,l,r,d,(lp Dn),r,r,r] ⟨[(1,.ptr 0 []),(5,vi g)],[.box 286 (.val (.vec 256 (.int .u64)) o)],[[(0,vq b),(1,vb a),(4,vq 0),(5,vi 0)]]⟩
def x23(Dn:K_)(b:UInt64)(a:LB)(g:Int)(k:UInt64)(f:LQ):Option R_:=H.e P_ [r,r,l,(call 0 169),r,r,l,r,d,(lp Dn),r,r,l,d,r,r,r] ⟨[(1,.ptr 0 []),(2,vi g),(3,vq k),(5,vi g)],[.box 286 (.val (.vec 256 (.int .u64)) f)],[[(0,vq b),(1,vb a),(4,vq 0),(5,vi 0)]]⟩
def x21(Dn:K_)(b:UInt64)(a:LB)(g:Int)(f:LQ)(k:UInt64)(m:Int):Option R_:=H.e P_ [r,r,l,(call 0 169),r,r,l,r,d,(lp Dn),r,r,l,d,r,r,l,r,d] (t21 b a g f k m)
theorem e30:x30=aJ:=B3
theorem e29:x29=aU:=Eq.trans (b:=ZB x30) B3 (by simp only[e30]<;>rfl)
theorem i27(a:LB)(b:UInt64)(f:LQ):∀(q:Nat) (h:UInt64) (n:Int),z27 q (t27 a b f h n)=Uz a b f q h n:=
 ind (λ_ _=>by kernel_rfl) λq ih h n=>Eq.trans (b:=KF x29 (λh n=>(z27 q) (t27 a b f h n)) a b f h n) B3 (by simp only[e29,ih]<;>rfl)
theorem e26:x26=KT:=Eq.trans (b:=YY (λa b f h n=>z27 Dt (t27 a b f h n))) B3 (by simp only[i27,Bb]<;>rfl)
theorem e24(Dn:K_)(b:UInt64)(a:LB):x24 Dn b a=ZN (λg f=>Dn (t16 b a g f)) b a:=B3
theorem e23(Dn:K_)(b:UInt64)(a:LB):x23 Dn b a=JO (λg f=>Dn (t16 b a g f)) b a:=Eq.trans (b:=ZG (x24 Dn b a) b a) B3 (by simp only[e24]<;>rfl)
theorem i21(Dn:K_)(b:UInt64)(a:LB)(g:Int)(f:LQ):∀(q:Nat) (k:UInt64) (m:Int),z21 Dn q (t21 b a g f k m)=Vo (λg f=>Dn (t16 b a g f)) b a g f q k m:=
 ind (λ_ _=>by kernel_rfl) λq ih k m=>Eq.trans (b:=IN (x23 Dn b a) (λk m=>(z21 Dn q) (t21 b a g f k m)) b a g f k m) B3 (by simp only[e23,ih]<;>rfl)
theorem e21(Dn:K_)(b:UInt64)(a:LB):x21 Dn b a=cE (λg f=>Dn (t16 b a g f)) b a:=by funext g f k m;exact Eq.trans B3 ((i21 Dn b a g f Dt k m).trans (by rw[Bb];rfl))
theorem i16(b:UInt64)(a:LB):∀(q:Nat) (g:Int) (f:LQ),z16 q (t16 b a g f)=Rb b a q g f:=
 ind (λ_ _=>by kernel_rfl) λq ih g f=>Eq.trans (b:=KI (x21 (z16 q) b a) x26 b a g f) B3 (by simp only[e21,e26,ih]<;>rfl)
def k:KC_:=kk_ 133 H (u2 nB) func133 (λx=>Eq.trans (b:=u2 (gH (λb a g f=>z16 Dt (t16 b a g f))) x) B3 (by simp only[i16,Bb]<;>rfl))
end F133
namespace F98
def H:=hd_ [Sb] [Sq,Si] .d [F133.k] f98
def k:KC_:=kk_ 98 H iV func98
end F98
namespace F99
abbrev R_:=LX
def H:=hd_ [Sq] [.lf (.vec 16 (.int .i32)) none] (.q (.q (.cut [2,3] [] (.q (.blk (.loop [0,2,3,5] [] .d))) .d))) [] f99
def t4(f:UInt64)(b:Int)(a:LX):S:=⟨[(0,vq f),(2,.ptr 0 []),(3,.ptr 1 []),(5,vi b)],[.box 103 (.val (.vec 16 (.int .i32)) (List.replicate 16 (0:Int32))),.box 103 (.val (.vec 16 (.int .i32)) a)],[]⟩
def z4:ZT_ R_:=H.i P_ [r,r,l,r,d]
def x6(a:LX):Option R_:=H.e P_ [r,r,r] ⟨[(2,.ptr 0 []),(3,.ptr 1 [])],[.box 103 (.val (.vec 16 (.int .i32)) (List.replicate 16 (0:Int32))),.box 103 (.val (.vec 16 (.int .i32)) a)],[]⟩
theorem e6:x6=Ans:=B3
theorem i4(f:UInt64):∀(q:Nat) (b:Int) (a:LX),z4 q (t4 f b a)=PW f q b a:=
 ind (λ_ _=>by kernel_rfl) λq ih b a=>Eq.trans (b:=oB x6 (λb a=>(z4 q) (t4 f b a)) f b a) B3 (by simp only[e6,ih]<;>rfl)
def k:KC_:=kk_ 99 H nQ func99 (λx=>Eq.trans (b:=Bkq (λf b a=>z4 Dt (t4 f b a)) x) B3 (by simp only[i4,Bb]<;>rfl))
end F99
namespace F57
def H:=hd_ [Ss] [.lf (.vec 16 (.int .i32)) none,Si] .d [F98.k,F99.k] f57
def k:KC_:=kk_ 57 H Oe func57
end F57
namespace F136
def H:=hd_ [.agg [Si,Si],Sw] [Si] .d [F47.k,F91.k] f136
def k:KC_:=kk_ 136 H (u3 QQ) func136
end F136
namespace F172
def H:=hd_ [Si,Sw] [Si] .d [] f172
def k:KC_:=kk_ 172 H (u2 jM) func172
end F172
namespace F137
abbrev R_:=(LX×Int)
abbrev K_:=S->Option R_
def H:=hd_ [Si,Sw] [Ow 21,Si] (.q (.q (.q (.cut [7] [] (.q (.blk (.loop [0,7,8] [] (.q (.cut [0,7,8] [] (.blk (.keep [0,7,8,24,25,26,27,28,29] true)) .d))))) .d)))) [F131.k,F172.k] f137 true [(173,(.q (.cut [0,2] [] (.q (.blk (.loop [0,2,7,8] [] .d))) .d)))]
def t17(b a h:Int)(g:LX):S:=⟨[(0,.view true 0 [] (.int .i32) a ((Ad a b)-a)),(2,vi (Ap ((Ad a b)-a) (1:Int))),(7,vi (Ap ((Ad a b)-a) (1:Int))),(8,vi h)],[Aw 21 g],[[(0,vi b),(7,.own 0),(8,vi a),(24,.own 0),(25,vi a),(26,vi a),(27,vi b),(28,vi (Ad a b)),(29,.view true 0 [] (.int .i32) a ((Ad a b)-a))]]⟩
def z17(Vw:K_):ZT_ R_:=H.i P_ [r,r,r,l,r,d,(lp Vw),r,l,d,(call 6 173),r,l,r,d]
def t12(b a:Int)(f:LX):S:=⟨[(0,vi b),(7,.own 0),(8,vi a)],[Aw 21 f],[]⟩
def z12:ZT_ R_:=H.i P_ [r,r,r,l,r,d]
def x22(f:LX):Option R_:=H.e P_ [r,r,r,r] ⟨[(7,.own 0)],[Aw 21 f],[]⟩
def x20(Vw:K_)(b a:Int)(k:LX):Option R_:=H.e P_ [r,r,r,l,r,d,(lp Vw),r,r] ⟨[(0,vi b),(7,.own 0),(8,vi a)],[Aw 21 k],[]⟩
def x19(Vw:K_)(b a:Int)(g:LX):Option R_:=H.e P_ [r,r,r,l,r,d,(lp Vw),r,l,d,(call 6 173),r,r] ⟨[(0,.view true 0 [] (.int .i32) a ((Ad a b)-a)),(2,vi (Ap ((Ad a b)-a) (1:Int)))],[Aw 21 g],[[(0,vi b),(7,.own 0),(8,vi a),(24,.own 0),(25,vi a),(26,vi a),(27,vi b),(28,vi (Ad a b)),(29,.view true 0 [] (.int .i32) a ((Ad a b)-a))]]⟩
def x17(Vw:K_)(b a h:Int)(g:LX):Option R_:=H.e P_ [r,r,r,l,r,d,(lp Vw),r,l,d,(call 6 173),r,l,r,d] (t17 b a h g)
theorem e22:x22=An2:=B3
theorem e20(Vw:K_)(b:Int):x20 Vw b=eG (λa f=>Vw (t12 b a f)) b:=B3
theorem e19(Vw:K_)(b:Int):x19 Vw b=qM (λa f=>Vw (t12 b a f)) b:=Eq.trans (b:=uR (x20 Vw b) b) B3 (by simp only[e20]<;>rfl)
theorem i17(Vw:K_)(b a:Int):∀(q:Nat) (h:Int) (g:LX),z17 Vw q (t17 b a h g)=HX (λa f=>Vw (t12 b a f)) b a q h g:=
 ind (λ_ _=>by kernel_rfl) λq ih h g=>Eq.trans (b:=cZ (x19 Vw b) (λh g=>(z17 Vw q) (t17 b a h g)) b a h g) B3 (by simp only[e19,ih]<;>rfl)
theorem e17(Vw:K_)(b:Int):x17 Vw b=Axf (λa f=>Vw (t12 b a f)) b:=by funext a h g;exact Eq.trans B3 ((i17 Vw b a Dt h g).trans (by rw[Bb];rfl))
theorem i12(b:Int):∀(q:Nat) (a:Int) (f:LX),z12 q (t12 b a f)=IB b q a f:=
 ind (λ_ _=>by kernel_rfl) λq ih a f=>Eq.trans (b:=qS (x17 (z12 q) b) x22 b a f) B3 (by simp only[e17,e22,ih]<;>rfl)
def k:KC_:=kk_ 137 H (u2 vg) func137 (λx=>Eq.trans (b:=u2 (zM (λb a f=>z12 Dt (t12 b a f))) x) B3 (by simp only[i12,Bb]<;>rfl))
end F137
namespace F174
abbrev R_:=(Int×LX×LX×Int)
def H:=hd_ [Si,.lf (.vec 16 (.int .i32)) none] [.agg [Si,.lf (.vec 16 (.int .i32)) none,.lf (.vec 16 (.int .i32)) none],Si] (.q (.q (.seq (.q (.blk (.cut [4,6,9,11] [] .d .d))) .d))) [] f174
def x2(a:Int)(b:LX)(f:Bool):Option R_:=H.e P_ [r,r,l,r,d,r] ⟨[(4,.ptr 0 []),(6,.ptr 1 []),(9,vi a),(11,vt f)],[.box 209 (.agg [vi 0,.val (.vec 16 (.int .i32)) (List.replicate 16 (0:Int32)),.val (.vec 16 (.int .i32)) (List.replicate 16 (0:Int32))]),.box 209 (.agg [vi 10,.val (.vec 16 (.int .i32)) b,.val (.vec 16 (.int .i32)) (List.replicate 16 (0:Int32))])],[]⟩
theorem e2:x2=Bc4:=B3
def k:KC_:=kk_ 174 H (u2 L6) func174 (λx=>Eq.trans (b:=u2 (Be6 x2) x) B3 (by simp only[e2]<;>rfl))
end F174
namespace F138
def H:=hd_ [Si,.lf (.vec 16 (.int .i32)) none] [.agg [Si,Sx,.agg [Si,.lf (.vec 16 (.int .i32)) none,.lf (.vec 16 (.int .i32)) none]],Si] .d [F174.k] f138
def k:KC_:=kk_ 138 H (u2 Y0) func138
end F138
namespace F175
def H:=hd_ [.agg [Si,Sx,.agg [Si,.lf (.vec 16 (.int .i32)) none,.lf (.vec 16 (.int .i32)) none]]] [Si] .d [F174.k] f175
def k:KC_:=kk_ 175 H (u5 AO) func175
end F175
namespace F200
def H:=hd_ [Si] [Si,Si] .d [] f200
def k:KC_:=kk_ 200 H sL func200
end F200
namespace F201
def H:=hd_ [Si,Sx] [Sx] .d [] f201
def k:KC_:=kk_ 201 H (u2 dE) func201
end F201
namespace F176
def H:=hd_ [Si,Sx] [Sx,Si] .d [F200.k,F201.k] f176
def k:KC_:=kk_ 176 H (u2 AP) func176
end F176
namespace F214
def H:=hd_ [.agg [Si,.lf (.vec 16 (.int .i32)) none,.lf (.vec 16 (.int .i32)) none]] [Si] .d [] f214
def k:KC_:=kk_ 214 H (u3 PN) func214
end F214
namespace F202
abbrev R_:=(Int32×Int)
def H:=hd_ [.agg [Si,.lf (.vec 16 (.int .i32)) none,.lf (.vec 16 (.int .i32)) none]] [Sx,Si] (.q (.q (.q (.cut [1,5] [] (.q (.blk (.loop [1,5,18,19] [] .d))) .d)))) [F214.k] f202
def t4(b:LX)(a:Int)(f:LX)(g:Int32)(h:Int):S:=⟨[(1,.ptr 0 []),(5,vx g),(18,.val (.vec 16 (.int .i32)) b),(19,vi h)],[.box 209 (.agg [vi a,.val (.vec 16 (.int .i32)) b,.val (.vec 16 (.int .i32)) f])],[]⟩
def z4:ZT_ R_:=H.i P_ [r,r,r,l,r,d]
def x6(g:Int32)(a:Int)(b f:LX):Option R_:=H.e P_ [r,r,r,r] ⟨[(1,.ptr 0 []),(5,vx g)],[.box 209 (.agg [vi a,.val (.vec 16 (.int .i32)) b,.val (.vec 16 (.int .i32)) f])],[]⟩
theorem e6:x6=fR:=B3
theorem i4(b:LX)(a:Int)(f:LX):∀(q:Nat) (g:Int32) (h:Int),z4 q (t4 b a f g h)=Yd b a f q g h:=
 ind (λ_ _=>by kernel_rfl) λq ih g h=>Eq.trans (b:=QU x6 (λg h=>(z4 q) (t4 b a f g h)) b a f g h) B3 (by simp only[e6,ih]<;>rfl)
def k:KC_:=kk_ 202 H (u3 aO) func202 (λx=>Eq.trans (b:=u3 (fN (λb a f g h=>z4 Dt (t4 b a f g h))) x) B3 (by simp only[i4,Bb]<;>rfl))
end F202
namespace F222
def H:=hd_ [Si] [Sx] .d [] f222
def k:KC_:=kk_ 222 H iQ func222
end F222
namespace F215
abbrev R_:=(Int×LX×LX×Int)
def H:=hd_ [.agg [Si,.lf (.vec 16 (.int .i32)) none,.lf (.vec 16 (.int .i32)) none],Sx] [.agg [Si,.lf (.vec 16 (.int .i32)) none,.lf (.vec 16 (.int .i32)) none],Si] (.q (.q (.q (.cut [2,4] [] (.q (.blk (.loop [1,2,4,19,20] [] .d))) .d)))) [F214.k,F222.k] f215
def t4(h:Int32)(f:LX)(g a:Int)(b:LX):S:=⟨[(1,vx h),(2,.ptr 0 []),(4,.ptr 1 []),(19,.val (.vec 16 (.int .i32)) f),(20,vi a)],[.box 209 (.agg [vi g,.val (.vec 16 (.int .i32)) b,.val (.vec 16 (.int .i32)) f]),.box 209 (.agg [vi 0,.val (.vec 16 (.int .i32)) (List.replicate 16 (0:Int32)),.val (.vec 16 (.int .i32)) (List.replicate 16 (0:Int32))])],[]⟩
def z4:ZT_ R_:=H.i P_ [r,r,r,l,r,d]
def x6(g:Int)(b f:LX):Option R_:=H.e P_ [r,r,r,r] ⟨[(2,.ptr 0 []),(4,.ptr 1 [])],[.box 209 (.agg [vi g,.val (.vec 16 (.int .i32)) b,.val (.vec 16 (.int .i32)) f]),.box 209 (.agg [vi 0,.val (.vec 16 (.int .i32)) (List.replicate 16 (0:Int32)),.val (.vec 16 (.int .i32)) (List.replicate 16 (0:Int32))])],[]⟩
theorem e6:x6=Bld:=B3
theorem i4(h:Int32)(f:LX)(g:Int):∀(q:Nat) (a:Int) (b:LX),z4 q (t4 h f g a b)=Xu h f g q a b:=
 ind (λ_ _=>by kernel_rfl) λq ih a b=>Eq.trans (b:=QV x6 (λa b=>(z4 q) (t4 h f g a b)) h f g a b) B3 (by simp only[e6,ih]<;>rfl)
def k:KC_:=kk_ 215 H (u4 oC) func215 (λx=>Eq.trans (b:=u4 (gD (λh f g a b=>z4 Dt (t4 h f g a b))) x) B3 (by simp only[i4,Bb]<;>rfl))
end F215
namespace F216
def fA(j2:Int32->Int->LX->LX->Option (Int×LX×LX×Int))(b:Int)(f a:LX)(g:Int32):Option (Int×LX×LX×Int):=
(PN b f a).bind λh=>
if(Bd h 0)then
some (0,(List.replicate 16 (0:Int32)),(List.replicate 16 (0:Int32)),h)
else
both (
(jB 16 1 16).bind λ_=>
(jB 16 0 16).bind λ_=>
j2 g b f a) [
(jB 16 0 16).bind λ_=>
(jB 16 1 16).bind λ_=>
j2 g b f a]
theorem Bn6: @fA= @XW:=by
  unfold fA XW
  repeat (refine funext λ_=>?_)
  repeat' first
    |with_reducible rfl
    |with_reducible refine Qx ?_ ?_
    |with_reducible refine Qj ?_ ?_ ?_
    |with_reducible refine Qz ?_ ?_ ?_ ?_
    |((with_reducible refine Xc ?_ ?_);focus (intro h;first|(subst h;rfl)|(simp only[h];rfl)|(simp[Ds,Ac,h];done)))
    |with_reducible refine We λx=>?_
    |with_reducible refine FY (λ_=>?_) (λ_=>?_)
    |(refine Jg (λh=>by simp only[h,Wu,Gg,Gb,ite_self]) (λx h=>?_);(try simp only[h,Gg]))
    |(refine My (λh=>?_) (λh=>?_)<;>simp only[h,if_true,if_false,Bool.false_eq_true])
abbrev R_:=(Int×LX×LX×Int)
def H:=hd_ [.agg [Si,.lf (.vec 16 (.int .i32)) none,.lf (.vec 16 (.int .i32)) none],Sx] [.agg [Si,.lf (.vec 16 (.int .i32)) none,.lf (.vec 16 (.int .i32)) none],Si] (.q (.q (.cut [1,2,4] [] .d .d))) [F214.k] f216
def x2(g:Int32)(b:Int)(f a:LX):Option R_:=H.e P_ [r,r,r] ⟨[(1,vx g),(2,.ptr 0 []),(4,.ptr 1 [])],[.box 209 (.agg [vi b,.val (.vec 16 (.int .i32)) f,.val (.vec 16 (.int .i32)) (Yh a (1:Int) ((16:Int)-(1:Int)) (aW a (0:Int) ((16:Int)-(0:Int))))]),.box 209 (.agg [vi 0,.val (.vec 16 (.int .i32)) (List.replicate 16 (0:Int32)),.val (.vec 16 (.int .i32)) (List.replicate 16 (0:Int32))])],[]⟩
theorem e2:x2=mU:=B3
def k:KC_:=kk_ 216 H (u4 wP) func216 (λx=>Eq.trans (b:=u4 (fA x2) x) B3 (by rw[Bn6];simp only[e2]<;>rfl))
end F216
namespace F203
def H:=hd_ [.agg [Si,.lf (.vec 16 (.int .i32)) none,.lf (.vec 16 (.int .i32)) none],Sx,Sx] [.agg [Si,.lf (.vec 16 (.int .i32)) none,.lf (.vec 16 (.int .i32)) none]] .d [F215.k,F216.k] f203
def k:KC_:=kk_ 203 H (u5 ZA) func203
end F203
namespace F177
def H:=hd_ [.agg [Si,.lf (.vec 16 (.int .i32)) none,.lf (.vec 16 (.int .i32)) none],Sx] [Sx,.agg [Si,.lf (.vec 16 (.int .i32)) none,.lf (.vec 16 (.int .i32)) none],Si] .d [F202.k,F203.k] f177
def k:KC_:=kk_ 177 H (u4 eZ) func177
end F177
namespace F139
def MJ(a:Int)(b:Int32)(f:Int)(g h:LX)(k:Int32):Option (Int32×Int×Int32×Int×LX×LX×Int):=
(AO a b f g h).bind λm=>
if(Bd m 0)then
some (0,0,0,0,(List.replicate 16 (0:Int32)),(List.replicate 16 (0:Int32)),m)
else
(AP a b).bind λ(n,y)=>
(eZ f g h (Ap k n)).bind λ(o,p,u,v,w)=>
bo (
some (o,a,k,p,u,v,w))
theorem Bpy: @MJ= @Xt:=by
  unfold MJ Xt;simp only[kP,OH,QB]
def H:=hd_ [.agg [Si,Sx,.agg [Si,.lf (.vec 16 (.int .i32)) none,.lf (.vec 16 (.int .i32)) none]],Sx] [Sx,.agg [Si,Sx,.agg [Si,.lf (.vec 16 (.int .i32)) none,.lf (.vec 16 (.int .i32)) none]],Si] (.q (.q (.q (.q (.seq (.mode false) .d))))) [F175.k,F176.k,F177.k] f139
def k:KC_:=kk_ 139 H (u6 Xt) func139 (λx=>Eq.trans (b:=u6 MJ x) B3 (by simp only[Bpy]<;>rfl))
end F139
namespace F140
def H:=hd_ [Sx] [Su] .d [] f140
def k:KC_:=kk_ 140 H vR func140
end F140
namespace F102
abbrev R_:=(LU×Int)
def H:=hd_ [.agg [Si,Si],.lf (.vec 16 (.int .i32)) none,Sw] [Ov 114,Si] (.q (.q (.q (.q (.q (.cut [3,9,11] [] (.q (.blk (.loop [3,4,9,11,36] [] .d))) (.q (.cut [13] [] (.q (.blk (.loop [3,11,13,49,50,51] [⟨13,[],.own 114 (.int .u32)⟩] .d))) .d)))))))) [F136.k,F137.k,F138.k,F139.k,F140.k] f102
def t10(b:LX)(a f g:Int)(o:List (Int×Int32×(Int×LX×LX×Unit)×Unit))(k:LU):S:=⟨[(3,.ptr 0 []),(11,.ptr 1 []),(13,.own 2),(49,.own 3),(50,vi (Ac b)),(51,vi g)],[.box 41 (.agg [vi a,vi f]),.box 212 (.val (.vec 6 (.cons (.int .i64) (.cons (.int .i32) (.cons (.cons (.int .i64) (.cons (.vec 16 (.int .i32)) (.cons (.vec 16 (.int .i32)) .nil))) .nil)))) o),Av 114 k,Aw 21 b],[]⟩
def z10:ZT_ R_:=H.i P_ [r,r,r,r,r,r,r,l,r,d]
def t7(a f:Int)(m b:LX)(n:Int)(h:List (Int×Int32×(Int×LX×LX×Unit)×Unit)):S:=⟨[(3,.ptr 0 []),(4,.ptr 1 []),(9,.own 2),(11,.ptr 3 []),(36,vi n)],[.box 41 (.agg [vi a,vi f]),.box 103 (.val (.vec 16 (.int .i32)) m),Aw 21 b,.box 212 (.val (.vec 6 (.cons (.int .i64) (.cons (.int .i32) (.cons (.cons (.int .i64) (.cons (.vec 16 (.int .i32)) (.cons (.vec 16 (.int .i32)) .nil))) .nil)))) h)],[]⟩
def z7:ZT_ R_:=H.i P_ [r,r,r,r,r,l,r,d]
def x12(k:LU):Option R_:=H.e P_ [r,r,r,r,r,r,r,r] ⟨[(13,.own 0)],[Av 114 k],[]⟩
def x9(a f:Int)(b:LX)(h:List (Int×Int32×(Int×LX×LX×Unit)×Unit)):Option R_:=H.e P_ [r,r,r,r,r,r] ⟨[(3,.ptr 0 []),(9,.own 1),(11,.ptr 2 [])],[.box 41 (.agg [vi a,vi f]),Aw 21 b,.box 212 (.val (.vec 6 (.cons (.int .i64) (.cons (.int .i32) (.cons (.cons (.int .i64) (.cons (.vec 16 (.int .i32)) (.cons (.vec 16 (.int .i32)) .nil))) .nil)))) h)],[]⟩
theorem e12:x12=Ast:=B3
theorem i10(b:LX)(a f:Int):∀(q:Nat) (g:Int) (o:List (Int×Int32×(Int×LX×LX×Unit)×Unit)) (k:LU),z10 q (t10 b a f g o k)=Mw b a f q g o k:=
 ind (λ_ _ _=>by kernel_rfl) λq ih g o k=>Eq.trans (b:=Xb x12 (λg o k=>(z10 q) (t10 b a f g o k)) b a f g o k) B3 (by simp only[e12,ih]<;>rfl)
theorem e9:x9=IM:=Eq.trans (b:=Ate (λb a f g o k=>z10 Dt (t10 b a f g o k))) B3 (by simp only[i10,Bb]<;>rfl)
theorem i7(a f:Int)(m b:LX):∀(q:Nat) (n:Int) (h:List (Int×Int32×(Int×LX×LX×Unit)×Unit)),z7 q (t7 a f m b n h)=KK a f m b q n h:=
 ind (λ_ _=>by kernel_rfl) λq ih n h=>Eq.trans (b:=Aty x9 (λn h=>(z7 q) (t7 a f m b n h)) a f m b n h) B3 (by simp only[e9,ih]<;>rfl)
def k:KC_:=kk_ 102 H (u4 JT) func102 (λx=>Eq.trans (b:=u4 (JU (λa f m b n h=>z7 Dt (t7 a f m b n h))) x) B3 (by simp only[i7,Bb]<;>rfl))
end F102
namespace F141
def H:=hd_ [] [.agg [Si,Si,Sq,Sq]] .d [] f141
def k:KC_:=kk_ 141 H (λ_=>C7) func141
end F141
namespace F103
abbrev R_:=((List (Int×Int×UInt64×UInt64×Unit)))
def H:=hd_ [] [.lf (.vec 6 (.cons (.int .i64) (.cons (.int .i64) (.cons (.int .u64) (.cons (.int .u64) .nil))))) none] (.q (.q (.cut [0,1] [] (.q (.blk (.loop [0,1,3] [] .d))) .d))) [F141.k] f103
def t4(b:Int)(a:List (Int×Int×UInt64×UInt64×Unit)):S:=⟨[(0,.ptr 0 []),(1,.ptr 1 []),(3,vi b)],[.box 174 (.val (.vec 6 (.cons (.int .i64) (.cons (.int .i64) (.cons (.int .u64) (.cons (.int .u64) .nil))))) (List.replicate 6 ((0:Int),(0:Int),(0:UInt64),(0:UInt64),()))),.box 174 (.val (.vec 6 (.cons (.int .i64) (.cons (.int .i64) (.cons (.int .u64) (.cons (.int .u64) .nil))))) a)],[]⟩
def z4:ZT_ R_:=H.i P_ [r,r,l,r,d]
def x6(a:List (Int×Int×UInt64×UInt64×Unit)):Option R_:=H.e P_ [r,r,r] ⟨[(0,.ptr 0 []),(1,.ptr 1 [])],[.box 174 (.val (.vec 6 (.cons (.int .i64) (.cons (.int .i64) (.cons (.int .u64) (.cons (.int .u64) .nil))))) (List.replicate 6 ((0:Int),(0:Int),(0:UInt64),(0:UInt64),()))),.box 174 (.val (.vec 6 (.cons (.int .i64) (.cons (.int .i64) (.cons (.int .u64) (.cons (.int .u64) .nil))))) a)],[]⟩
theorem e6:x6=Aw4:=B3
theorem i4:∀(q:Nat) (b:Int) (a:List (Int×Int×UInt64×UInt64×Unit)),z4 q (t4 b a)=IH q b a:=
 ind (λ_ _=>by kernel_rfl) λq ih b a=>Eq.trans (b:=Awr x6 (λb a=>(z4 q) (t4 b a)) b a) B3 (by simp only[e6,ih]<;>rfl)
def k:KC_:=kk_ 103 H (λ_=>LA) func103 (λx=>Eq.trans (b:=JM (λb a=>z4 Dt (t4 b a))) B3 (by simp only[i4,Bb]<;>rfl))
end F103
namespace F142
def H:=hd_ [.agg [Sb,Si]] [Si] .d [] f142
def k:KC_:=kk_ 142 H (u2 Le) func142
end F142
namespace F143
def ZQ(j4:Int->Int->UInt64->UInt64->Option Int)(a b:Int)(f g:UInt64):Option Int:=
both (
bo (
j4 a b f g)) [
j4 a b f g]
theorem Bmi: @ZQ= @QP:=by
  unfold ZQ QP
  repeat (refine funext λ_=>?_)
  repeat' first
    |with_reducible rfl
    |with_reducible refine Qx ?_ ?_
    |with_reducible refine Qj ?_ ?_ ?_
    |with_reducible refine Qz ?_ ?_ ?_ ?_
    |((with_reducible refine Xc ?_ ?_);focus (intro h;first|(subst h;rfl)|(simp only[h];rfl)|(simp[Ds,Ac,h];done)))
    |with_reducible refine We λx=>?_
    |with_reducible refine FY (λ_=>?_) (λ_=>?_)
    |(refine Jg (λh=>by simp only[h,Wu,Gg,Gb,ite_self]) (λx h=>?_);(try simp only[h,Gg]))
    |(refine My (λh=>?_) (λh=>?_)<;>simp only[h,if_true,if_false,Bool.false_eq_true])
def YP(j3:Int->Int->UInt64->UInt64->Option Int)(a b:Int)(f g:UInt64):Option Int:=
both (
bo (
j3 a b f g)) [
j3 a b f g]
theorem Bml: @YP= @QW:=by
  unfold YP QW
  repeat (refine funext λ_=>?_)
  repeat' first
    |with_reducible rfl
    |with_reducible refine Qx ?_ ?_
    |with_reducible refine Qj ?_ ?_ ?_
    |with_reducible refine Qz ?_ ?_ ?_ ?_
    |((with_reducible refine Xc ?_ ?_);focus (intro h;first|(subst h;rfl)|(simp only[h];rfl)|(simp[Ds,Ac,h];done)))
    |with_reducible refine We λx=>?_
    |with_reducible refine FY (λ_=>?_) (λ_=>?_)
    |(refine Jg (λh=>by simp only[h,Wu,Gg,Gb,ite_self]) (λx h=>?_);(try simp only[h,Gg]))
    |(refine My (λh=>?_) (λh=>?_)<;>simp only[h,if_true,if_false,Bool.false_eq_true])
abbrev R_:=Int
def H:=hd_ [.agg [Si,Si,Sq,Sq]] [Si] (.q (.q (.cut [1,3] [] (.mode false) (.cut [1,3] [] (.mode false) .d)))) [] f143
def x4(a b:Int)(f g:UInt64):Option R_:=H.e P_ [r,r,r,r] ⟨[(1,.ptr 0 []),(3,.ptr 1 [])],[.box 173 (.agg [vi a,vi b,vq f,vq g]),.box 173 (.agg [vi (Fq (wY a (0:Int)) (24:Int)),vi (Fq (wY b (0:Int)) (24:Int)),vq (Fq f (68719476735:UInt64)),vq (Fq g (68719476735:UInt64))])],[]⟩
def x3(a b:Int)(f g:UInt64):Option R_:=H.e P_ [r,r,r] ⟨[(1,.ptr 0 []),(3,.ptr 1 [])],[.box 173 (.agg [vi a,vi b,vq f,vq g]),.box 173 (.agg [vi (Fq (wY a (0:Int)) (24:Int)),vi (Fq (wY b (0:Int)) (24:Int)),vq f,vq g])],[]⟩
theorem e4:x4=fD:=B3
theorem e3:x3=gN:=Eq.trans (b:=ZQ x4) B3 (by rw[Bmi];simp only[e4]<;>rfl)
def k:KC_:=kk_ 143 H (u4 bN) func143 (λx=>Eq.trans (b:=u4 (YP x3) x) B3 (by rw[Bml];simp only[e3]<;>rfl))
end F143
namespace F144
def H:=hd_ [.agg [Si,Si,Sq,Sq],Su] [Si,Su] .d [] f144
def k:KC_:=kk_ 144 H (u5 PX) func144
end F144
namespace F178
def H:=hd_ [.agg [Sb,Si]] [.agg [Ob 5,Si]] .d [F130.k] f178
def k:KC_:=kk_ 178 H (u2 iU) func178
end F178
namespace F145
abbrev R_:=(LB×Int×Int)
abbrev K_:=S->Option R_
def H:=hd_ [.agg [Sb,Si],Sq,Si] [.agg [Ob 5,Si],Si] (.q (.q (.q (.cut [3,6] [] (.keep [1,2,3,6,40,41] true) .d)))) [F142.k,F178.k] f145 false [(179,(.blk (.loop [0,1,2] [] (.q (.blk (.cut [0,1,2] [] .d (.q (.cut [0,1,2,7] [] .d .d))))))))]
def t15(b:UInt64)(a:Int)(m:UInt64)(h f:Int)(o:LB):S:=⟨[(0,.ptr 0 []),(1,vq m),(2,vi h)],[.box 177 (.agg [.own 2,vi f]),.box 177 (.agg [.nils,vi 0]),Ab 5 o],[[(1,vq b),(2,vi a),(3,.ptr 0 []),(6,.ptr 1 []),(40,vq b),(41,vi a)]]⟩
def z15:ZT_ R_:=H.i P_ [r,r,r,l,(call 2 179),d]
def t22(b:UInt64)(a:Int)(n:UInt64)(k g:Int)(p:LB):S:=⟨[(0,.ptr 0 []),(1,vq n),(2,vi k)],[.box 177 (.agg [.own 2,vi g]),.box 177 (.agg [.nils,vi 0]),Ab 5 p],[[(1,vq b),(2,vi a),(3,.ptr 0 []),(6,.ptr 1 []),(40,vq b),(41,vi a)]]⟩
def z22:ZT_ R_:=H.i P_ [r,r,r,l,(call 2 179),d]
def x21(f:Int)(o:LB):Option R_:=H.e P_ [r,r,r,r] ⟨[(3,.ptr 0 []),(6,.ptr 1 [])],[.box 177 (.agg [.own 2,vi f]),.box 177 (.agg [.nils,vi 0]),Ab 5 o],[]⟩
def x19(NJ:K_)(b:UInt64)(a:Int)(m:UInt64)(h f:Int)(w:LB):Option R_:=H.e P_ [r,r,r,l,(call 2 179),d,(lp NJ),r,d,r,r,r] ⟨[(0,.ptr 0 []),(1,vq m),(2,vi h),(7,vi (Fq h (Ap (8:Int) (Fb f (7:Int)))))],[.box 177 (.agg [.own 2,vi f]),.box 177 (.agg [.nils,vi 0]),Ab 5 w],[[(1,vq b),(2,vi a),(3,.ptr 0 []),(6,.ptr 1 []),(40,vq b),(41,vi a)]]⟩
def x18(NJ:K_)(b:UInt64)(a:Int)(m:UInt64)(h f:Int)(u:LB):Option R_:=H.e P_ [r,r,r,l,(call 2 179),d,(lp NJ),r,d,r] ⟨[(0,.ptr 0 []),(1,vq m),(2,vi h)],[.box 177 (.agg [.own 2,vi f]),.box 177 (.agg [.nils,vi 0]),Ab 5 u],[[(1,vq b),(2,vi a),(3,.ptr 0 []),(6,.ptr 1 []),(40,vq b),(41,vi a)]]⟩
def x28(g:Int)(p:LB):Option R_:=H.e P_ [r,r,r,r] ⟨[(3,.ptr 0 []),(6,.ptr 1 [])],[.box 177 (.agg [.own 2,vi g]),.box 177 (.agg [.nils,vi 0]),Ab 5 p],[]⟩
def x26(NL:K_)(b:UInt64)(a:Int)(n:UInt64)(k g:Int)(y:LB):Option R_:=H.e P_ [r,r,r,l,(call 2 179),d,(lp NL),r,d,r,r,r] ⟨[(0,.ptr 0 []),(1,vq n),(2,vi k),(7,vi (Fq k (Ap (8:Int) (Fb g (7:Int)))))],[.box 177 (.agg [.own 2,vi g]),.box 177 (.agg [.nils,vi 0]),Ab 5 y],[[(1,vq b),(2,vi a),(3,.ptr 0 []),(6,.ptr 1 []),(40,vq b),(41,vi a)]]⟩
def x25(NL:K_)(b:UInt64)(a:Int)(n:UInt64)(k g:Int)(v:LB):Option R_:=H.e P_ [r,r,r,l,(call 2 179),d,(lp NL),r,d,r] ⟨[(0,.ptr 0 []),(1,vq n),(2,vi k)],[.box 177 (.agg [.own 2,vi g]),.box 177 (.agg [.nils,vi 0]),Ab 5 v],[[(1,vq b),(2,vi a),(3,.ptr 0 []),(6,.ptr 1 []),(40,vq b),(41,vi a)]]⟩
theorem e21:x21=lN:=B3
theorem e19(NJ:K_)(b:UInt64)(a:Int):x19 NJ b a=nS (λm h f o=>NJ (t15 b a m h f o)) b a:=B3
theorem e18(NJ:K_)(b:UInt64)(a:Int):x18 NJ b a=XS (λm h f o=>NJ (t15 b a m h f o)) b a:=Eq.trans (b:=mV (x19 NJ b a) b a) B3 (by simp only[e19]<;>rfl)
theorem i15(b:UInt64)(a:Int):∀(q:Nat) (m:UInt64) (h f:Int) (o:LB),z15 q (t15 b a m h f o)=So b a q m h f o:=
 ind (λ_ _ _ _=>by kernel_rfl) λq ih m h f o=>Eq.trans (b:=XU (x18 (z15 q) b a) x21 b a m h f o) B3 (by simp only[e18,e21,ih]<;>rfl)
theorem e28:x28=Adg:=B3
theorem e26(NL:K_)(b:UInt64)(a:Int):x26 NL b a=Aba (λn k g p=>NL (t22 b a n k g p)) b a:=B3
theorem e25(NL:K_)(b:UInt64)(a:Int):x25 NL b a=Abz (λn k g p=>NL (t22 b a n k g p)) b a:=Eq.trans (b:=Aan (x26 NL b a) b a) B3 (by simp only[e26]<;>rfl)
theorem i22(b:UInt64)(a:Int):∀(q:Nat) (n:UInt64) (k g:Int) (p:LB),z22 q (t22 b a n k g p)=mF b a q n k g p:=
 ind (λ_ _ _ _=>by kernel_rfl) λq ih n k g p=>Eq.trans (b:=Aa8 (x25 (z22 q) b a) x28 b a n k g p) B3 (by simp only[e25,e28,ih]<;>rfl)
def k:KC_:=kk_ 145 H (u4 bB) func145 (λx=>Eq.trans (b:=u4 (qX (λb a m h f o=>z15 Dt (t15 b a m h f o)) (λb a n k g p=>z22 Dt (t22 b a n k g p))) x) B3 (by simp only[i15,i22,Bb]<;>rfl))
end F145
namespace F180
def H:=hd_ [Su,Si] [Sz] .d [] f180
def k:KC_:=kk_ 180 H (u2 CO) func180
end F180
namespace F204
def H:=hd_ [Si] [Si,Si] .d [] f204
def k:KC_:=kk_ 204 H nG func204
end F204
namespace F181
def H:=hd_ [.agg [Sb,Si],Si] [.agg [Ob 5,Si],Si] .d [F142.k,F145.k,F204.k] f181
def k:KC_:=kk_ 181 H (u3 eL) func181
end F181
namespace F146
abbrev R_:=(LB×Int×Int)
def H:=hd_ [.agg [Sb,Si],Su,Si] [.agg [Ob 5,Si],Si] (.q (.q (.q (.q (.cut [3,6,9,10,11] [] .d .d))))) [F142.k,F145.k,F180.k,F181.k] f146
def x2(b:LB)(f h:Int)(k:UInt32)(m:Int):Option R_:=H.e P_ [r,r,r,r,r] ⟨[(3,.ptr 0 []),(6,.ptr 1 []),(9,vi h),(10,vu k),(11,vi m)],[.box 177 (.agg [vb b,vi f]),.box 177 (.agg [.nils,vi 0])],[]⟩
theorem e2:x2=QZ:=B3
def k:KC_:=kk_ 146 H (u4 mJ) func146 (λx=>Eq.trans (b:=u4 (fJ x2) x) B3 (by simp only[e2]<;>rfl))
end F146
namespace F104
def VR(k u n:Int)(a:UInt64)(b:UInt32)(o:UInt64)(m:LB):Option (LB×Int×Int×Int×UInt64×UInt64×Int):=
(λaf:Option (LB×Int×Int×Int×UInt64×UInt64×Int)=>
both (
bo (
af)) [
af]) (
some (m,k,u,n,(Ad a (Ap (Ae b:UInt64) (Cn a (GI.toZ (4:UInt64)).toNat))),o,0))
theorem Bqx: @VR= @MU:=by
  unfold VR MU
  try simp only[kP,OH,QB]
  all_goals
    repeat (refine funext λ_=>?_)
    repeat' first
      |with_reducible rfl
      |with_reducible refine Qx ?_ ?_
      |with_reducible refine Qj ?_ ?_ ?_
      |with_reducible refine Qz ?_ ?_ ?_ ?_
      |((with_reducible refine Xc ?_ ?_);focus (intro h;first|(subst h;rfl)|(simp only[h];rfl)|(simp[Ds,Ac,h];done)))
      |with_reducible refine We λx=>?_
      |with_reducible refine FY (λ_=>?_) (λ_=>?_)
      |(refine Jg (λh=>by simp only[h,Wu,Gg,Gb,ite_self]) (λx h=>?_);(try simp only[h,Gg]))
      |(refine My (λh=>?_) (λh=>?_)<;>simp only[h,if_true,if_false,Bool.false_eq_true])
abbrev R_:=(LB×Int×Int×Int×UInt64×UInt64×Int)
def H:=hd_ [.agg [Sb,Si],.agg [Si,Si,Sq,Sq],Su] [.agg [Ob 5,Si],.agg [Si,Si,Sq,Sq],Si] (.q (.cut [2,3,4,6,7] [] .d (.q (.q (.cut [2,3,4,6,7,11] [] .d (.q (.cut [3,4,6,7] [] (.keep [2,3,4,6,7,65] true) (.seq (.mode false) .d)))))))) [F142.k,F143.k,F144.k,F145.k,F146.k] f104 false [(147,(.q (.q (.q (.blk (.cut [0,1,4] [] (.blk (.q (.keep [0,1,4,6,18,19,20,21,22,23,24,25] true))) (.cut [] [] (.keep [0,1,4,27,28,29,30,31,32,33,34] true) .d))))))),(182,.d)]
def x10(k u n:Int)(a:UInt64)(b:UInt32)(o:UInt64)(m:LB):Option R_:=H.e P_ [r,r,r,r,r,r,r] ⟨[(3,.ptr 0 []),(4,.ptr 1 []),(6,.ptr 2 []),(7,.ptr 3 [])],[.box 177 (.agg [.own 4,vi k]),.box 173 (.agg [vi u,vi n,vq (Ad a (Ap (Ae b:UInt64) (Cn a (GI.toZ (4:UInt64)).toNat))),vq o]),.box 177 (.agg [.nils,vi 0]),.box 173 (.agg [vi 0,vi 0,vq 0,vq 0]),Ab 5 m],[]⟩
def x9(b:UInt32)(k n:Int)(a o:UInt64)(m:LB)(u:Int):Option R_:=H.e P_ [r,r,r,r,r,r,l,(call 1 147),r,r,r,d,r,r] ⟨[],[.box 177 (.agg [.own 4,vi k]),.box 173 (.agg [vi u,vi n,vq (Ad a (Ap (Ae b:UInt64) (Cn a (GI.toZ (4:UInt64)).toNat))),vq o]),.box 177 (.agg [.nils,vi 0]),.box 173 (.agg [vi 0,vi 0,vq 0,vq 0]),Ab 5 m],[[(2,vu b),(3,.ptr 0 []),(4,.ptr 1 []),(6,.ptr 2 []),(7,.ptr 3 []),(65,vu b)]]⟩
def x8(b:UInt32)(f:Int)(a:UInt64)(k:Int)(m:LB)(n:Int)(o:UInt64):Option R_:=H.e P_ [r,r,r,r,r,r,l,(call 1 147),r,r,r,d,r] ⟨[(0,.ptr 0 []),(1,vu b),(4,.fn 182 [])],[.box 173 (.agg [vi f,vi n,vq a,vq o]),.box 177 (.agg [.own 4,vi k]),.box 177 (.agg [.nils,vi 0]),.box 173 (.agg [vi 0,vi 0,vq 0,vq 0]),Ab 5 m],[[(2,vu b),(3,.ptr 1 []),(4,.ptr 0 []),(6,.ptr 2 []),(7,.ptr 3 []),(65,vu b)]]⟩
def x7(b:UInt32)(f h:Int)(a g:UInt64)(y k:Int)(m:LB):Option R_:=H.e P_ [r,r,r,r,r] ⟨[(2,vu b),(3,.ptr 0 []),(4,.ptr 1 []),(6,.ptr 2 []),(7,.ptr 3 []),(11,vi y)],[.box 177 (.agg [.own 4,vi k]),.box 173 (.agg [vi f,vi h,vq a,vq g]),.box 177 (.agg [.nils,vi 0]),.box 173 (.agg [vi 0,vi 0,vq 0,vq 0]),Ab 5 m],[]⟩
def x6(b:UInt32)(v:LB)(w f h:Int)(a g:UInt64):Option R_:=H.e P_ [r,r] ⟨[(2,vu b),(3,.ptr 0 []),(4,.ptr 1 []),(6,.ptr 2 []),(7,.ptr 3 [])],[.box 177 (.agg [vb v,vi w]),.box 173 (.agg [vi f,vi h,vq a,vq g]),.box 177 (.agg [.nils,vi 0]),.box 173 (.agg [vi 0,vi 0,vq 0,vq 0])],[]⟩
theorem e10:x10=cF:=Eq.trans (b:=VR) B3 (by rw[Bqx];rfl)
theorem e9:x9=gI:=Eq.trans (b:=fZ x10) B3 (by simp only[e10]<;>rfl)
theorem e8:x8=EA:=Eq.trans (b:=fK x9) B3 (by simp only[e9]<;>rfl)
theorem e7:x7=QY:=Eq.trans (b:=fF x8) B3 (by simp only[e8]<;>rfl)
theorem e6:x6=fM:=Eq.trans (b:=gK x7) B3 (by simp only[e7]<;>rfl)
def k:KC_:=kk_ 104 H (u7 lX) func104 (λx=>Eq.trans (b:=u7 (gR x6) x) B3 (by simp only[e6]<;>rfl))
end F104
namespace F109
abbrev R_:=(UInt32×Int)
abbrev K_:=S->Option R_
def H:=hd_ [Su,Sb] [Su,Si] (.q (.q (.cut [0,1,6] [] (.keep [0,1,6,12] true) (.cut [0] [] (.q (.blk (.loop [0,6,13,14,15] [] .d))) .d)))) [] f109 false [(148,(.q (.q (.cut [1] [] (.q (.blk (.loop [1,5] [] (.q (.q (.cut [1,5] [] (.blk (.q (.q (.cut [1,2,3,5] [] (.q (.blk (.loop [1,2,3,5,10] [] .d))) .d)))) .d)))))) .d))))]
def t28(a:LB)(b:LU)(k:UInt32)(n:Int):S:=⟨[(0,vu k),(6,.ptr 0 []),(13,vb a),(14,vi (Ac a)),(15,vi n)],[.box 269 (.val (.vec 256 (.int .u32)) b)],[]⟩
def z28:ZT_ R_:=H.i P_ [r,r,r,l,r,d]
def t21(f:UInt32)(a:LB)(g:Int)(b:LU)(h:UInt32)(m:Int):S:=⟨[(1,.ptr 0 []),(2,vi g),(3,vu h),(5,vi g),(10,vi m)],[.box 269 (.val (.vec 256 (.int .u32)) b)],[[(0,vu f),(1,vb a)]]⟩
def z21(Dn:K_):ZT_ R_:=H.i P_ [r,r,l,(call 0 148),r,r,l,r,d,(lp Dn),r,r,l,d,r,r,l,r,d]
def t16(f:UInt32)(a:LB)(g:Int)(b:LU):S:=⟨[(1,.ptr 0 []),(5,vi g)],[.box 269 (.val (.vec 256 (.int .u32)) b)],[[(0,vu f),(1,vb a)]]⟩
def z16:ZT_ R_:=H.i P_ [r,r,l,(call 0 148),r,r,l,r,d]
def x30(k:UInt32):Option R_:=H.e P_ [r,r,r,r] ⟨[(0,vu k)],[],[]⟩
def x27(f:UInt32)(a:LB)(b:LU):Option R_:=H.e P_ [r,r,r] ⟨[(0,vu f),(1,vb a),(6,.ptr 0 [])],[.box 269 (.val (.vec 256 (.int .u32)) b)],[]⟩
def x26(f:UInt32)(a:LB)(b:LU):Option R_:=H.e P_ [r,r,l,(call 0 148),r,r,r] ⟨[(1,.ptr 0 [])],[.box 269 (.val (.vec 256 (.int .u32)) b)],[[(0,vu f),(1,vb a)]]⟩
def x24(Dn:K_)(f:UInt32)(a:LB)(g:Int)(o:LU):Option R_:=H.e P_ [r,r,l,(call 0 148),r,r,l,r,d,(lp Dn),r,r,r] ⟨[(1,.ptr 0 []),(5,vi g)],[.box 269 (.val (.vec 256 (.int .u32)) o)],[[(0,vu f),(1,vb a)]]⟩
def x23(Dn:K_)(f:UInt32)(a:LB)(g:Int)(h:UInt32)(b:LU):Option R_:=H.e P_ [r,r,l,(call 0 148),r,r,l,r,d,(lp Dn),r,r,l,d,r,r,r] ⟨[(1,.ptr 0 []),(2,vi g),(3,vu h),(5,vi g)],[.box 269 (.val (.vec 256 (.int .u32)) b)],[[(0,vu f),(1,vb a)]]⟩
def x21(Dn:K_)(f:UInt32)(a:LB)(g:Int)(b:LU)(h:UInt32)(m:Int):Option R_:=H.e P_ [r,r,l,(call 0 148),r,r,l,r,d,(lp Dn),r,r,l,d,r,r,l,r,d] (t21 f a g b h m)
theorem e30:x30=ZI:=B3
theorem i28(a:LB)(b:LU):∀(q:Nat) (k:UInt32) (n:Int),z28 q (t28 a b k n)=Vg a b q k n:=
 ind (λ_ _=>by kernel_rfl) λq ih k n=>Eq.trans (b:=LZ x30 (λk n=>(z28 q) (t28 a b k n)) a b k n) B3 (by simp only[e30,ih]<;>rfl)
theorem e27:x27=ZO:=Eq.trans (b:=ZX (λa b k n=>z28 Dt (t28 a b k n))) B3 (by simp only[i28,Bb]<;>rfl)
theorem e26:x26=KG:=Eq.trans (b:=ZM x27) B3 (by simp only[e27]<;>rfl)
theorem e24(Dn:K_)(f:UInt32)(a:LB):x24 Dn f a=bU (λg b=>Dn (t16 f a g b)) f a:=B3
theorem e23(Dn:K_)(f:UInt32)(a:LB):x23 Dn f a=KD (λg b=>Dn (t16 f a g b)) f a:=Eq.trans (b:=aG (x24 Dn f a) f a) B3 (by simp only[e24]<;>rfl)
theorem i21(Dn:K_)(f:UInt32)(a:LB)(g:Int)(b:LU):∀(q:Nat) (h:UInt32) (m:Int),z21 Dn q (t21 f a g b h m)=Up (λg b=>Dn (t16 f a g b)) f a g b q h m:=
 ind (λ_ _=>by kernel_rfl) λq ih h m=>Eq.trans (b:=JN (x23 Dn f a) (λh m=>(z21 Dn q) (t21 f a g b h m)) f a g b h m) B3 (by simp only[e23,ih]<;>rfl)
theorem e21(Dn:K_)(f:UInt32)(a:LB):x21 Dn f a=YW (λg b=>Dn (t16 f a g b)) f a:=by funext g b h m;exact Eq.trans B3 ((i21 Dn f a g b Dt h m).trans (by rw[Bb];rfl))
theorem i16(f:UInt32)(a:LB):∀(q:Nat) (g:Int) (b:LU),z16 q (t16 f a g b)=Qn f a q g b:=
 ind (λ_ _=>by kernel_rfl) λq ih g b=>Eq.trans (b:=MA (x21 (z16 q) f a) x26 f a g b) B3 (by simp only[e21,e26,ih]<;>rfl)
def k:KC_:=kk_ 109 H (u2 nO) func109 (λx=>Eq.trans (b:=u2 (fW (λf a g b=>z16 Dt (t16 f a g b))) x) B3 (by simp only[i16,Bb]<;>rfl))
end F109
namespace F63
def H:=hd_ [Sb] [Su,Si] .d [F109.k] f63
def k:KC_:=kk_ 63 H BU func63
end F63
namespace F108
def H:=hd_ [Sq,Si] [Sz] .d [] f108
def k:KC_:=kk_ 108 H (u2 uy) func108
end F108
namespace F62
abbrev R_:=(LB×Int)
def H:=hd_ [Sq,Si] [Ob 5,Si] (.q (.q (.q (.q (.cut [6] [] (.q (.blk (.loop [0,6,21,22] [] .d))) .d))))) [F108.k] f62
def t4(f:UInt64)(g:LB)(b:Int)(a:LB):S:=⟨[(0,vq f),(6,.own 0),(21,vi (Ac g)),(22,vi b)],[Ab 5 a],[]⟩
def z4:ZT_ R_:=H.i P_ [r,r,r,r,l,r,d]
def x6(a:LB):Option R_:=H.e P_ [r,r,r,r,r] ⟨[(6,.own 0)],[Ab 5 a],[]⟩
theorem e6:x6=qR:=B3
theorem i4(f:UInt64)(g:LB):∀(q:Nat) (b:Int) (a:LB),z4 q (t4 f g b a)=HW f g q b a:=
 ind (λ_ _=>by kernel_rfl) λq ih b a=>Eq.trans (b:=dQ x6 (λb a=>(z4 q) (t4 f g b a)) f g b a) B3 (by simp only[e6,ih]<;>rfl)
def k:KC_:=kk_ 62 H (u2 Qi) func62 (λx=>Eq.trans (b:=u2 (sU (λf g b a=>z4 Dt (t4 f g b a))) x) B3 (by simp only[i4,Bb]<;>rfl))
end F62
namespace F97
abbrev R_:=LB
def H:=hd_ [.lf (.list (.list (.int .u8))) none] [Ob 5] (.q (.q (.cut [0,3] [] (.q (.blk (.loop [0,3,9,10,11] [] .d))) (.cut [0,6] [⟨6,[],.own 5 (.int .u8)⟩] (.keep [0,3,6,23,24] true) (.cut [6] [] (.q (.blk (.loop [6,25,26,27] [] .d))) .d))))) [] f97 true [(132,(.q (.cut [0,1] [] .d .d)))]
def t14(a:List LB)(g:Int)(f:LB):S:=⟨[(6,.own 0),(25,.val (.list (.list (.int .u8))) a),(26,vi (Ac a)),(27,vi g)],[Ab 5 f],[]⟩
def z14:ZT_ R_:=H.i P_ [r,r,r,r,l,r,d]
def t9(a:List LB)(b h:Int):S:=⟨[(0,.val (.list (.list (.int .u8))) a),(3,vi b),(9,.val (.list (.list (.int .u8))) a),(10,vi (Ac a)),(11,vi h)],[],[]⟩
def z9:ZT_ R_:=H.i P_ [r,r,l,r,d]
def x16(f:LB):Option R_:=H.e P_ [r,r,r,r,r] ⟨[(6,.own 0)],[Ab 5 f],[]⟩
def x13(a:List LB)(k:LB):Option R_:=H.e P_ [r,r,r,r] ⟨[(0,.val (.list (.list (.int .u8))) a),(6,.own 0)],[Ab 5 k],[]⟩
def x12(b:Int)(a:List LB):Option R_:=H.e P_ [r,r,r,l,(call 1 132),r,r] ⟨[(0,.nils),(1,vi b)],[],[[(0,.val (.list (.list (.int .u8))) a),(3,vi b),(23,vi b)]]⟩
def x11(a:List LB)(b:Int):Option R_:=H.e P_ [r,r,r] ⟨[(0,.val (.list (.list (.int .u8))) a),(3,vi b)],[],[]⟩
theorem e16:x16=Aq5:=B3
theorem i14(a:List LB):∀(q:Nat) (g:Int) (f:LB),z14 q (t14 a g f)=Cu a q g f:=
 ind (λ_ _=>by kernel_rfl) λq ih g f=>Eq.trans (b:=Eb x16 (λg f=>(z14 q) (t14 a g f)) a g f) B3 (by simp only[e16,ih]<;>rfl)
theorem e13:x13=Fc:=Eq.trans (b:=Ka (λa g f=>z14 Dt (t14 a g f))) B3 (by simp only[i14,Bb]<;>rfl)
theorem e12:x12=Kf:=Eq.trans (b:=Ke x13) B3 (by simp only[e13]<;>rfl)
theorem e11:x11=Fe:=Eq.trans (b:=Kb x12) B3 (by simp only[e12]<;>rfl)
theorem i9(a:List LB):∀(q:Nat) (b h:Int),z9 q (t9 a b h)=Cz a q b h:=
 ind (λ_ _=>by kernel_rfl) λq ih b h=>Eq.trans (b:=Ej x11 (λb h=>(z9 q) (t9 a b h)) a b h) B3 (by simp only[e11,ih]<;>rfl)
def k:KC_:=kk_ 97 H Fp func97 (λx=>Eq.trans (b:=Rc (λa b h=>z9 Dt (t9 a b h)) x) B3 (by simp only[i9,Bb]<;>rfl))
end F97
namespace F59
abbrev R_:=(LB×Int)
abbrev K_:=S->Option R_
def H:=hd_ [.agg [Si,Si],.lf (.vec 16 (.int .i32)) none,Sw] [Ob 5,Si] (.q (.q (.q (.q (.q (.cut [11] [] (.q (.blk (.loop [3,10,11,30,31,32] [⟨11,[0],.own 5 (.int .u8)⟩] (.q (.q (.cut [3,10,11,30,31,32] [] (.blk (.q (.q (.q (.q (.keep [3,10,11,14,30,31,32,59] true)))))) .d)))))) .d)))))) [F62.k,F63.k,F97.k,F102.k,F103.k,F104.k] f59 false [(105,(.q (.q (.blk (.loop [0,3,7,8] [] (.q (.q (.seq (.blk (.q (.cut [0,3,4,7,8] [] .d (.q (.cut [0,3,7,8] [] .d .d))))) .d))))))))]
def t44(a:LU)(b f h g:Int)(k:List (Int×Int×UInt64×UInt64×Unit))(m:LB)(o n:Int)(u:LB):S:=⟨[(0,.ptr 0 []),(3,.ptr 1 []),(7,vi h),(8,vi o)],[.box 177 (.agg [.own 7,vi n]),.box 177 (.agg [.own 6,vi h]),.box 41 (.agg [vi b,vi f]),.box 174 (.val (.vec 6 (.cons (.int .i64) (.cons (.int .i64) (.cons (.int .u64) (.cons (.int .u64) .nil))))) k),.box 177 (.agg [.own 6,vi h]),Av 114 a,Ab 5 m,Ab 5 u],[[(3,.ptr 2 []),(10,.ptr 3 []),(11,.ptr 0 []),(14,.ptr 4 []),(30,.own 5),(31,vi (Ac a)),(32,vi g),(59,.agg [.own 6,vi h])]]⟩
def z44(Iw:K_):ZT_ R_:=H.i P_ [r,r,r,r,r,l,r,d,(lp Iw),r,r,l,d,r,r,r,r,(call 1 105),r,r,d]
def t27(a:LU)(b f g:Int)(w:List (Int×Int×UInt64×UInt64×Unit))(v:Int)(p:LB):S:=⟨[(3,.ptr 0 []),(10,.ptr 1 []),(11,.ptr 2 []),(30,.own 3),(31,vi (Ac a)),(32,vi g)],[.box 41 (.agg [vi b,vi f]),.box 174 (.val (.vec 6 (.cons (.int .i64) (.cons (.int .i64) (.cons (.int .u64) (.cons (.int .u64) .nil))))) w),.box 177 (.agg [.own 4,vi v]),Av 114 a,Ab 5 p],[]⟩
def z27:ZT_ R_:=H.i P_ [r,r,r,r,r,l,r,d]
def x52(v:Int)(p:LB):Option R_:=H.e P_ [r,r,r,r,r,r] ⟨[(11,.ptr 0 [])],[.box 177 (.agg [.own 1,vi v]),Ab 5 p],[]⟩
def x50(Iw:K_)(a:LU)(b f g:Int)(k:List (Int×Int×UInt64×UInt64×Unit))(n:Int)(u:LB):Option R_:=H.e P_ [r,r,r,r,r,l,r,d,(lp Iw),r,r,r] ⟨[(3,.ptr 0 []),(10,.ptr 1 []),(11,.ptr 2 []),(30,.own 3),(31,vi (Ac a)),(32,vi g)],[.box 41 (.agg [vi b,vi f]),.box 174 (.val (.vec 6 (.cons (.int .i64) (.cons (.int .i64) (.cons (.int .u64) (.cons (.int .u64) .nil))))) k),.box 177 (.agg [.own 4,vi n]),Av 114 a,Ab 5 u],[]⟩
def x48(Iw gT:K_)(h:Int)(a:LU)(g b f:Int)(k:List (Int×Int×UInt64×UInt64×Unit))(m:LB)(o n:Int)(aa:LB):Option R_:=H.e P_ [r,r,r,r,r,l,r,d,(lp Iw),r,r,l,d,r,r,r,r,(call 1 105),r,r,d,(lp gT),r,r,l,d,r,r,r,r] ⟨[(0,.ptr 0 []),(3,.ptr 1 []),(7,vi h),(8,vi o)],[.box 177 (.agg [.own 7,vi n]),.box 177 (.agg [.own 6,vi h]),.box 41 (.agg [vi b,vi f]),.box 174 (.val (.vec 6 (.cons (.int .i64) (.cons (.int .i64) (.cons (.int .u64) (.cons (.int .u64) .nil))))) k),.box 177 (.agg [.own 6,vi h]),Av 114 a,Ab 5 m,Ab 5 aa],[[(3,.ptr 2 []),(10,.ptr 3 []),(11,.ptr 0 []),(14,.ptr 4 []),(30,.own 5),(31,vi (Ac a)),(32,vi g),(59,.agg [.own 6,vi h])]]⟩
def x47(Iw gT:K_)(h:Int)(a:LU)(g b f:Int)(k:List (Int×Int×UInt64×UInt64×Unit))(m:LB)(o n:Int)(y:LB):Option R_:=H.e P_ [r,r,r,r,r,l,r,d,(lp Iw),r,r,l,d,r,r,r,r,(call 1 105),r,r,d,(lp gT),r,r,l,d,r,r] ⟨[(0,.ptr 0 []),(3,.ptr 1 []),(4,vi o),(7,vi h),(8,vi o)],[.box 177 (.agg [.own 7,vi n]),.box 177 (.agg [.own 6,vi h]),.box 41 (.agg [vi b,vi f]),.box 174 (.val (.vec 6 (.cons (.int .i64) (.cons (.int .i64) (.cons (.int .u64) (.cons (.int .u64) .nil))))) k),.box 177 (.agg [.own 6,vi h]),Av 114 a,Ab 5 m,Ab 5 y],[[(3,.ptr 2 []),(10,.ptr 3 []),(11,.ptr 0 []),(14,.ptr 4 []),(30,.own 5),(31,vi (Ac a)),(32,vi g),(59,.agg [.own 6,vi h])]]⟩
def x44(Iw:K_)(a:LU)(b f h g:Int)(k:List (Int×Int×UInt64×UInt64×Unit))(m:LB)(o n:Int)(u:LB):Option R_:=H.e P_ [r,r,r,r,r,l,r,d,(lp Iw),r,r,l,d,r,r,r,r,(call 1 105),r,r,d] (t44 a b f h g k m o n u)
theorem e52:x52=GC:=B3
theorem e50(Iw:K_)(a:LU)(b f:Int):x50 Iw a b f=GP (λg w v p=>Iw (t27 a b f g w v p)) a b f:=B3
theorem e48(Iw gT:K_)(a:LU)(b f h g:Int)(k:List (Int×Int×UInt64×UInt64×Unit))(m:LB):x48 Iw gT h a g b f k m=FZ (λo n u=>gT (t44 a b f h g k m o n u)) h a g b f k m:=B3
theorem e47(Iw gT:K_)(a:LU)(b f h g:Int)(k:List (Int×Int×UInt64×UInt64×Unit))(m:LB):x47 Iw gT h a g b f k m=Wj (λo n u=>gT (t44 a b f h g k m o n u)) h a g b f k m:=Eq.trans (b:=FT (x48 Iw gT h a g b f k m) h a g b f k m) B3 (by simp only[e48]<;>rfl)
theorem i44(Iw:K_)(a:LU)(b f h g:Int)(k:List (Int×Int×UInt64×UInt64×Unit))(m:LB):∀(q:Nat) (o n:Int) (u:LB),z44 Iw q (t44 a b f h g k m o n u)=Hs (λg w v p=>Iw (t27 a b f g w v p)) a b f h g k m q o n u:=
 ind (λ_ _ _=>by kernel_rfl) λq ih o n u=>Eq.trans (b:=Xe (x47 Iw (z44 Iw q) h a g b f k m) (x50 Iw a b f) a b f h g k m o n u) B3 (by simp only[e47,e50,ih]<;>rfl)
theorem e44(Iw:K_)(a:LU)(b f:Int):x44 Iw a b f=Aqf (λg w v p=>Iw (t27 a b f g w v p)) a b f:=by funext h g k m o n u;exact Eq.trans B3 ((i44 Iw a b f h g k m Dt o n u).trans (by rw[Bb];rfl))
theorem i27(a:LU)(b f:Int):∀(q:Nat) (g:Int) (w:List (Int×Int×UInt64×UInt64×Unit)) (v:Int) (p:LB),z27 q (t27 a b f g w v p)=Jm a b f q g w v p:=
 ind (λ_ _ _ _=>by kernel_rfl) λq ih g w v p=>Eq.trans (b:=Ws (x44 (z27 q) a b f) x52 a b f g w v p) B3 (by simp only[e44,e52,ih]<;>rfl)
def k:KC_:=kk_ 59 H (u4 Nx) func59 (λx=>Eq.trans (b:=u4 (JF (λa b f g w v p=>z27 Dt (t27 a b f g w v p))) x) B3 (by simp only[i27,Bb]<;>rfl))
end F59
namespace F55
def H:=hd_ [.agg [.agg [Si,Si],Si,Ss,Sb,Sw,.lf (.list (.list (.int .u8))) none,Sb,Sz,Si],Si] [.agg [.agg [Si,Si],Si,Ss,Ob 5,Ow 21,.lf (.list (.list (.int .u8))) (some 22),Ob 5,Sz,Si],Si] .d [] f55
def k:KC_:=kk_ 55 H (u11 Xa) func55
end F55
namespace F19
abbrev R_:=(Int×Int×Int×LB×LB×LX×(List LB)×LB×Bool×Int×Int)
abbrev K_:=S->Option R_
def H:=hd_ [.agg [.agg [Si,Si],Si,Ss,Sb,Sw,.lf (.list (.list (.int .u8))) none,Sb,Sz,Si],Sb] [.agg [.agg [Si,Si],Si,Ss,Ob 5,Ow 21,.lf (.list (.list (.int .u8))) (some 22),Ob 5,Sz,Si],Si] (.q (.q (.q (.q (.q (.cut [2,4] [] (.q (.blk (.loop [2,4,8,9,27,28,29] [] (.q (.q (.cut [2,4,8,9,27,28,29] [] (.blk (.q (.q (.q (.cut [2,4,8,9,12,27,28,29] [⟨2,[3],.own 5 (.int .u8)⟩,⟨2,[4],.own 21 (.int .i32)⟩,⟨9,[0,3],.own 5 (.int .u8)⟩,⟨9,[0,4],.own 21 (.int .i32)⟩] (.keep [2,4,8,9,12,27,28,29,45] true) .d))))) .d)))))) .d)))))) [F33.k,F49.k,F50.k,F52.k,F53.k,F55.k,F57.k,F59.k] f19 false [(51,(.q (.cut [0,1] [] .d (.q (.q (.q (.q (.cut [2] [] (.keep [2,43] true) .d)))))))),(54,.d)]
def t14(p:Int)(n:LB)(a b g:Int)(f:LB)(h:Bool)(k o:Int)(m:LB)(u:Int)(y:LB)(w:LX)(v:List LB):S:=⟨[(2,.ptr 0 []),(4,.ptr 1 []),(8,vi p),(9,.fn 51 [.ptr 0 [],.ptr 2 []]),(27,vb n),(28,vi (Ac n)),(29,vi u)],[.box 44 (.agg [.agg [vi a,vi b],vi g,vs f,.own 3,.own 4,.own 5,.own 6,vt h,vi k]),.box 44 (.agg [.agg [vi 0,vi 0],vi 0,vs ([]:LB),.nils,.nils,.nils,.nils,vt false,vi 0]),.box 3 (vi o),Ab 5 y,Aw 21 w,.arr 22 (.list (.int .u8)) v,Ab 5 m],[]⟩
def z14:ZT_ R_:=H.i P_ [r,r,r,r,r,l,r,d]
def x26(a b g:Int)(f:LB)(h:Bool)(k:Int)(y:LB)(w:LX)(v:List LB)(m:LB):Option R_:=H.e P_ [r,r,r,r,r,r] ⟨[(2,.ptr 0 []),(4,.ptr 1 [])],[.box 44 (.agg [.agg [vi a,vi b],vi g,vs f,.own 2,.own 3,.own 4,.own 5,vt h,vi k]),.box 44 (.agg [.agg [vi 0,vi 0],vi 0,vs ([]:LB),.nils,.nils,.nils,.nils,vt false,vi 0]),Ab 5 y,Aw 21 w,.arr 22 (.list (.int .u8)) v,Ab 5 m],[]⟩
def x24(IF:K_)(p:Int)(n:LB)(a b g:Int)(f:LB)(h:Bool)(k o:Int)(m:LB)(u:Int)(ah:LB)(ai:LX)(aj:List LB):Option R_:=H.e P_ [r,r,r,r,r,l,r,d,(lp IF),r,r,r] ⟨[(2,.ptr 0 []),(4,.ptr 1 []),(8,vi p),(9,.fn 51 [.ptr 0 [],.ptr 2 []]),(27,vb n),(28,vi (Ac n)),(29,vi u)],[.box 44 (.agg [.agg [vi a,vi b],vi g,vs f,.own 3,.own 4,.own 5,.own 6,vt h,vi k]),.box 44 (.agg [.agg [vi 0,vi 0],vi 0,vs ([]:LB),.nils,.nils,.nils,.nils,vt false,vi 0]),.box 3 (vi o),Ab 5 ah,Aw 21 ai,.arr 22 (.list (.int .u8)) aj,Ab 5 m],[]⟩
def x23(IF:K_)(p:Int)(n:LB)(a b g:Int)(f:LB)(h:Bool)(k o:Int)(m:LB)(u ad:Int)(ae:LB)(af:LX)(ag:List LB):Option R_:=H.e P_ [r,r,r,r,r,l,r,d,(lp IF),r,r,l,d,r,r,r,r] ⟨[(2,.ptr 0 []),(4,.ptr 1 []),(8,vi p),(9,.fn 51 [.ptr 0 [],.ptr 2 []]),(12,vi ad),(27,vb n),(28,vi (Ac n)),(29,vi u)],[.box 44 (.agg [.agg [vi a,vi b],vi g,vs f,.own 3,.own 4,.own 5,.own 6,vt h,vi k]),.box 44 (.agg [.agg [vi 0,vi 0],vi 0,vs ([]:LB),.nils,.nils,.nils,.nils,vt false,vi 0]),.box 3 (vi o),Ab 5 ae,Aw 21 af,.arr 22 (.list (.int .u8)) ag,Ab 5 m],[]⟩
def x21(IF:K_)(p:Int)(n:LB)(a b g:Int)(f:LB)(h:Bool)(k o:Int)(m:LB)(u:Int)(ab:LX)(v:List LB)(ak:Int):Option R_:=H.e P_ [r,r,r,r,r,l,r,d,(lp IF),r,r,l,d,r,r,r,l,(call 1 51),r,r,r,r,r,r,r] ⟨[(2,vi ak)],[.box 44 (.agg [.agg [vi a,vi b],vi g,vs f,.nils,.own 3,.own 4,.own 5,vt h,vi k]),.box 44 (.agg [.agg [vi 0,vi 0],vi 0,vs ([]:LB),.nils,.nils,.nils,.nils,vt false,vi 0]),.box 3 (vi o),Aw 21 ab,.arr 22 (.list (.int .u8)) v,Ab 5 m],[[(2,.ptr 0 []),(4,.ptr 1 []),(8,vi p),(9,.fn 51 [.ptr 0 [],.ptr 2 []]),(27,vb n),(28,vi (Ac n)),(29,vi u)]]⟩
def x22(IF:K_)(p:Int)(n:LB)(a b g:Int)(f:LB)(h:Bool)(k o:Int)(m:LB)(u:Int)(ac:List LB):Option R_:=H.e P_ [r,r,r,r,r,l,r,d,(lp IF),r,r,l,d,r,r,r,l,(call 1 51),r,r,r,r,r,r,r] ⟨[(2,vi 0)],[.box 44 (.agg [.agg [vi a,vi b],vi g,vs f,.nils,.nils,.own 3,.own 4,vt h,vi k]),.box 44 (.agg [.agg [vi 0,vi 0],vi 0,vs ([]:LB),.nils,.nils,.nils,.nils,vt false,vi 0]),.box 3 (vi o),.arr 22 (.list (.int .u8)) ac,Ab 5 m],[[(2,.ptr 0 []),(4,.ptr 1 []),(8,vi p),(9,.fn 51 [.ptr 0 [],.ptr 2 []]),(27,vb n),(28,vi (Ac n)),(29,vi u)]]⟩
def x20(IF:K_)(p:Int)(n:LB)(a b g:Int)(f:LB)(h:Bool)(k o:Int)(m:LB)(u:Int)(aa:LB)(w:LX)(v:List LB):Option R_:=H.e P_ [r,r,r,r,r,l,r,d,(lp IF),r,r,l,d,r,r,r,l,(call 1 51),r,r] ⟨[(0,.ptr 0 []),(1,.ptr 1 [])],[.box 44 (.agg [.agg [vi a,vi b],vi g,vs f,.own 3,.own 4,.own 5,.own 6,vt h,vi k]),.box 3 (vi o),.box 44 (.agg [.agg [vi 0,vi 0],vi 0,vs ([]:LB),.nils,.nils,.nils,.nils,vt false,vi 0]),Ab 5 aa,Aw 21 w,.arr 22 (.list (.int .u8)) v,Ab 5 m],[[(2,.ptr 0 []),(4,.ptr 2 []),(8,vi p),(9,.fn 51 [.ptr 0 [],.ptr 1 []]),(27,vb n),(28,vi (Ac n)),(29,vi u)]]⟩
theorem e26:x26=QL:=B3
theorem e24(IF:K_)(p:Int)(n:LB)(a b g:Int)(f:LB)(h:Bool)(k o:Int)(m:LB):x24 IF p n a b g f h k o m=Qb (λu y w v=>IF (t14 p n a b g f h k o m u y w v)) p n a b g f h k o m:=B3
theorem e23(IF:K_)(p:Int)(n:LB)(a b g:Int)(f:LB)(h:Bool)(k o:Int)(m:LB):x23 IF p n a b g f h k o m=Jz (λu y w v=>IF (t14 p n a b g f h k o m u y w v)) p n a b g f h k o m:=Eq.trans (b:=Vf (x24 IF p n a b g f h k o m) p n a b g f h k o m) B3 (by simp only[e24]<;>rfl)
theorem e21(IF:K_)(p:Int)(n:LB)(a b g:Int)(f:LB)(h:Bool)(k o:Int)(m:LB):x21 IF p n a b g f h k o m=Bbs (λu y w v=>IF (t14 p n a b g f h k o m u y w v)) p n a b g f h k o m:=Eq.trans (b:=Axu (x23 IF p n a b g f h k o m) p n a b g f h k o m) B3 (by simp only[e23]<;>rfl)
theorem e22(IF:K_)(p:Int)(n:LB)(a b g:Int)(f:LB)(h:Bool)(k o:Int)(m:LB):x22 IF p n a b g f h k o m=PC (λu y w v=>IF (t14 p n a b g f h k o m u y w v)) p n a b g f h k o m:=Eq.trans (b:=QE (x23 IF p n a b g f h k o m) p n a b g f h k o m) B3 (by simp only[e23]<;>rfl)
theorem e20(IF:K_)(p:Int)(n:LB)(a b g:Int)(f:LB)(h:Bool)(k o:Int)(m:LB):x20 IF p n a b g f h k o m=OS (λu y w v=>IF (t14 p n a b g f h k o m u y w v)) p n a b g f h k o m:=Eq.trans (b:=OR (x23 IF p n a b g f h k o m) (x21 IF p n a b g f h k o m) (x22 IF p n a b g f h k o m) p n a b g f h k o m) B3 (by simp only[e23,e21,e22]<;>rfl)
theorem i14(p:Int)(n:LB)(a b g:Int)(f:LB)(h:Bool)(k o:Int)(m:LB):∀(q:Nat) (u:Int) (y:LB) (w:LX) (v:List LB),z14 q (t14 p n a b g f h k o m u y w v)=Jp p n a b g f h k o m q u y w v:=
 ind (λ_ _ _ _=>by kernel_rfl) λq ih u y w v=>Eq.trans (b:=CM (x24 (z14 q) p n a b g f h k o m) (x23 (z14 q) p n a b g f h k o m) (x20 (z14 q) p n a b g f h k o m) x26 p n a b g f h k o m u y w v) B3 (by simp only[e24,e23,e20,e26,ih]<;>rfl)
def k:KC_:=kk_ 19 H (u11 XK) func19 (λx=>Eq.trans (b:=u11 (VV (λp n a b g f h k o m u y w v=>z14 Dt (t14 p n a b g f h k o m u y w v))) x) B3 (by simp only[i14,Bb]<;>rfl))
end F19
namespace F96
def H:=hd_ [Ss] [Si,Si] .d [] f96
def k:KC_:=kk_ 96 H RG func96
end F96
namespace F106
abbrev R_:=Bool
def H:=hd_ [.agg [Si,Si,Si,Si,Si]] [Sz] (.q (.cut [1] [] .d .d)) [] f106
def x2(b f a g h:Int):Option R_:=H.e P_ [r,r] ⟨[(1,.ptr 0 [])],[.box 51 (.agg [vi b,vi f,vi a,vi g,vi h])],[]⟩
theorem e2:x2=Qf:=B3
def k:KC_:=kk_ 106 H (u5 Tn) func106 (λx=>Eq.trans (b:=u5 (BT x2) x) B3 (by simp only[e2]<;>rfl))
end F106
namespace F107
def H:=hd_ [.agg [Si,Si,Si,Si,Si]] [Sz] .d [F92.k] f107
def k:KC_:=kk_ 107 H (u5 TY) func107
end F107
namespace F61
def H:=hd_ [.agg [Si,Si,Si,Si,Si]] [Si] .d [F106.k,F107.k] f61
def k:KC_:=kk_ 61 H (u5 Pj) func61
end F61
namespace F24
abbrev R_:=(LB×Int)
def H:=hd_ [.agg [Si,Si,Si,Si,Si]] [Ob 5,Si] (.q (.q (.q (.cut [5] [] (.q (.blk (.loop [5,31,32] [] .d))) .d)))) [F61.k,F62.k,F63.k] f24
def t4(b f g h k m:Int)(a:LB):S:=⟨[(5,.own 0),(31,.val (.vec 5 (.int .i64)) ([b,f,g,h,k]:LI)),(32,vi m)],[Ab 5 a],[]⟩
def z4:ZT_ R_:=H.i P_ [r,r,r,l,r,d]
def x6(a:LB):Option R_:=H.e P_ [r,r,r,r] ⟨[(5,.own 0)],[Ab 5 a],[]⟩
theorem e6:x6=FK:=B3
theorem i4(b f g h k:Int):∀(q:Nat) (m:Int) (a:LB),z4 q (t4 b f g h k m a)=Oj b f g h k q m a:=
 ind (λ_ _=>by kernel_rfl) λq ih m a=>Eq.trans (b:=FI x6 (λm a=>(z4 q) (t4 b f g h k m a)) b f g h k m a) B3 (by simp only[e6,ih]<;>rfl)
def k:KC_:=kk_ 24 H (u5 KY) func24 (λx=>Eq.trans (b:=u5 (VW (λb f g h k m a=>z4 Dt (t4 b f g h k m a))) x) B3 (by simp only[i4,Bb]<;>rfl))
end F24
namespace F64
def H:=hd_ [Ss] [Sq,Si] .d [F98.k] f64
def k:KC_:=kk_ 64 H U4 func64
end F64
namespace F25
def H:=hd_ [Ss] [Ob 5,Si] .d [F62.k,F64.k] f25
def k:KC_:=kk_ 25 H CI func25
end F25
namespace F65
abbrev R_:=Int
def H:=hd_ [Sl] [Si] (.q (.q (.q (.cut [] [] (.q (.blk (.loop [3,14,15,16] [] .d))) .d)))) [] f65
def t4(a:LI)(f b:Int):S:=⟨[(3,vi f),(14,vl a),(15,vi (Ac a)),(16,vi b)],[],[]⟩
def z4:ZT_ R_:=H.i P_ [r,r,r,l,r,d]
def x6:Option R_:=H.e P_ [r,r,r,r] ⟨[],[],[]⟩
theorem e6:x6=Bks:=B3
theorem i4(a:LI):∀(q:Nat) (f b:Int),z4 q (t4 a f b)=Vh a q f b:=
 ind (λ_ _=>by kernel_rfl) λq ih f b=>Eq.trans (b:=MQ x6 (λf b=>(z4 q) (t4 a f b)) a f b) B3 (by simp only[e6,ih]<;>rfl)
def k:KC_:=kk_ 65 H Tj func65 (λx=>Eq.trans (b:=LM (λa f b=>z4 Dt (t4 a f b)) x) B3 (by simp only[i4,Bb]<;>rfl))
end F65
namespace F26
abbrev R_:=(LB×Int)
abbrev K_:=S->Option R_
def H:=hd_ [Sl] [Ob 5,Si] (.q (.q (.q (.q (.cut [5,6] [] (.q (.blk (.loop [5,6,17,18,19] [⟨5,[],.own 5 (.int .u8)⟩,⟨6,[0],.own 5 (.int .u8)⟩] (.q (.q (.cut [5,6,17,18,19] [] (.blk (.q (.keep [5,6,8,17,18,19,23,24,25] true))) .d)))))) (.q (.cut [5] [] (.keep [5,6,9,33,34,35] true) .d))))))) [F62.k,F63.k,F65.k] f26 false [(66,.d)]
def t8(a:LI)(f:Int)(b:LB):S:=⟨[(5,.ptr 0 []),(6,.fn 66 [.ptr 0 []]),(17,vl a),(18,vi (Ac a)),(19,vi f)],[.box 22 (.own 1),Ab 5 b],[]⟩
def z8:ZT_ R_:=H.i P_ [r,r,r,r,l,r,d]
def x14(g:LB):Option R_:=H.e P_ [r,r,r,r,r,r,r] ⟨[(5,.ptr 0 [])],[.box 22 (.own 1),Ab 5 g],[]⟩
def x13(b:LB):Option R_:=H.e P_ [r,r,r,r,r] ⟨[(5,.ptr 0 []),(6,.fn 66 [.ptr 0 []])],[.box 22 (.own 1),Ab 5 b],[]⟩
def x11(kn8:K_)(a:LI)(f:Int)(h:LB):Option R_:=H.e P_ [r,r,r,r,l,r,d,(lp kn8),r,r,r] ⟨[(5,.ptr 0 []),(6,.fn 66 [.ptr 0 []]),(17,vl a),(18,vi (Ac a)),(19,vi f)],[.box 22 (.own 1),Ab 5 h],[]⟩
theorem e14:x14=Bfn:=B3
theorem e13:x13=UR:=Eq.trans (b:=UW x14) B3 (by simp only[e14]<;>rfl)
theorem e11(kn8:K_)(a:LI):x11 kn8 a=VA (λf b=>kn8 (t8 a f b)) a:=B3
theorem i8(a:LI):∀(q:Nat) (f:Int) (b:LB),z8 q (t8 a f b)=Un a q f b:=
 ind (λ_ _=>by kernel_rfl) λq ih f b=>Eq.trans (b:=MO (x11 (z8 q) a) x13 a f b) B3 (by simp only[e11,e13,ih]<;>rfl)
def k:KC_:=kk_ 26 H HZ func26 (λx=>Eq.trans (b:=ZL (λa f b=>z8 Dt (t8 a f b)) x) B3 (by simp only[i8,Bb]<;>rfl))
end F26
namespace F56
def OM(f g h:Int)(b k:LB)(m:LX)(a:List LB)(n:LB)(o:Bool)(p:Int)(u:LB)(v:LI):Option (LB×Int):=
(HZ v).bind λ(aa,y)=>
if(Bd y 0)then
some (([]:LB),y)
else
(λao:Option (LB×Int)=>
bo (
ao)) (
(Ds u aa).bind λab=>
(Fp a).bind λac=>
(Ds ab ac).bind λad=>
some (ad,0))
theorem Bqn: @OM= @EY:=by
  unfold OM EY;simp only[kP,OH,QB]
abbrev R_:=(LB×Int)
def H:=hd_ [.agg [.agg [Si,Si],Si,Ss,Sb,Sw,.lf (.list (.list (.int .u8))) none,Sb,Sz,Si],Si] [Ob 5,Si] (.q (.q (.q (.q (.q (.cut [2,8] [] .d (.q (.cut [2,8,11] [] (.q (.blk (.loop [2,8,11,58,59,60] [⟨11,[],.own 3 (.int .i64)⟩] .d))) (.q (.q (.seq (.mode false) .d))))))))))) [F24.k,F25.k,F26.k,F96.k,F97.k] f56
def t6(a:List LB)(f g h:Int)(b k:LB)(m:LX)(n:LB)(o:Bool)(p:Int)(u:LB)(w:Int)(v:LI):S:=⟨[(2,.ptr 0 []),(8,.own 1),(11,.own 2),(58,.val (.list (.list (.int .u8))) a),(59,vi (Ac a)),(60,vi w)],[.box 44 (.agg [.agg [vi f,vi g],vi h,vs b,vb k,vw m,.val (.list (.list (.int .u8))) a,vb n,vt o,vi p]),Ab 5 u,Ai 3 v],[]⟩
def z6:ZT_ R_:=H.i P_ [r,r,r,r,r,r,r,l,r,d]
def x8(f g h:Int)(b k:LB)(m:LX)(a:List LB)(n:LB)(o:Bool)(p:Int)(u:LB)(v:LI):Option R_:=H.e P_ [r,r,r,r,r,r,r,r] ⟨[(2,.ptr 0 []),(8,.own 1),(11,.own 2)],[.box 44 (.agg [.agg [vi f,vi g],vi h,vs b,vb k,vw m,.val (.list (.list (.int .u8))) a,vb n,vt o,vi p]),Ab 5 u,Ai 3 v],[]⟩
def x5(f g h:Int)(b k:LB)(m:LX)(a:List LB)(n:LB)(o:Bool)(p:Int)(u:LB):Option R_:=H.e P_ [r,r,r,r,r,r] ⟨[(2,.ptr 0 []),(8,.own 1)],[.box 44 (.agg [.agg [vi f,vi g],vi h,vs b,vb k,vw m,.val (.list (.list (.int .u8))) a,vb n,vt o,vi p]),Ab 5 u],[]⟩
theorem e8:x8=Xo:=Eq.trans (b:=OM) B3 (by rw[Bqn];rfl)
theorem i6(a:List LB)(f g h:Int)(b k:LB)(m:LX)(n:LB)(o:Bool)(p:Int)(u:LB):∀(q:Nat) (w:Int) (v:LI),z6 q (t6 a f g h b k m n o p u w v)=Sj a f g h b k m n o p u q w v:=
 ind (λ_ _=>by kernel_rfl) λq ih w v=>Eq.trans (b:=EZ x8 (λw v=>(z6 q) (t6 a f g h b k m n o p u w v)) a f g h b k m n o p u w v) B3 (by simp only[e8,ih]<;>rfl)
theorem e5:x5=ES:=Eq.trans (b:=FN (λa f g h b k m n o p u w v=>z6 Dt (t6 a f g h b k m n o p u w v))) B3 (by simp only[i6,Bb]<;>rfl)
def k:KC_:=kk_ 56 H (u11 YD) func56 (λx=>Eq.trans (b:=u11 (UM x5) x) B3 (by simp only[e5]<;>rfl))
end F56
namespace F21
abbrev R_:=(Int×Int×Int×LB×LB×LX×(List LB)×LB×Bool×Int×Int)
def H:=hd_ [.agg [.agg [Si,Si],Si,Ss,Sb,Sw,.lf (.list (.list (.int .u8))) none,Sb,Sz,Si]] [.agg [.agg [Si,Si],Si,Ss,Ob 5,Ow 21,.lf (.list (.list (.int .u8))) (some 22),Ob 5,Sz,Si],Si] (.q (.q (.q (.q (.q (.cut [1,2,6] [] (.q (.cond (.cut [1,2,6,7] [⟨1,[4],.own 21 (.int .i32)⟩] (.keep [1,2,6,7,38] true) .d) .d)) .d)))))) [F49.k,F53.k,F55.k,F56.k,F57.k,F59.k] f21 false [(54,.d)]
def x4(o a b g:Int)(f:LB)(k:Bool)(m:Int)(h n:LB)(v:LX)(w:List LB):Option R_:=H.e P_ [r,r,r,r,r,r] ⟨[(1,.ptr 0 []),(2,.ptr 1 []),(6,vi o)],[.box 44 (.agg [.agg [vi a,vi b],vi g,vs f,.own 2,.own 3,.own 4,.own 5,vt k,vi m]),.box 44 (.agg [.agg [vi 0,vi 0],vi 0,vs ([]:LB),.nils,.nils,.nils,.nils,vt false,vi 0]),Ab 5 h,Aw 21 v,.arr 22 (.list (.int .u8)) w,Ab 5 n],[]⟩
def x3(o a b g:Int)(f:LB)(k:Bool)(m:Int)(h n:LB)(aa:Int)(ab:LX)(ac:List LB):Option R_:=H.e P_ [r,r,r,r,r,l,r,l,r] ⟨[(1,.ptr 0 []),(2,.ptr 1 []),(6,vi o),(7,vi aa)],[.box 44 (.agg [.agg [vi a,vi b],vi g,vs f,.own 2,.own 3,.own 4,.own 5,vt k,vi m]),.box 44 (.agg [.agg [vi 0,vi 0],vi 0,vs ([]:LB),.nils,.nils,.nils,.nils,vt false,vi 0]),Ab 5 h,Aw 21 ab,.arr 22 (.list (.int .u8)) ac,Ab 5 n],[]⟩
theorem e4:x4=Td:=B3
theorem e3:x3=KJ:=Eq.trans (b:=JR x4) B3 (by simp only[e4]<;>rfl)
def k:KC_:=kk_ 21 H (u10 JC) func21 (λx=>Eq.trans (b:=u10 (MK x3 x4) x) B3 (by simp only[e3,e4]<;>rfl))
end F21
namespace F5
abbrev R_:=(LB×Int)
def H:=hd_ [.agg [Si,Si,Si,Sw],Ss] [Ob 5,Si] (.q (.q (.q (.q (.q (.q (.q (.cut [8,9] [⟨9,[3],.own 5 (.int .u8)⟩,⟨9,[4],.own 21 (.int .i32)⟩,⟨9,[5],.own 22 (.list (.int .u8))⟩,⟨9,[6],.own 5 (.int .u8)⟩] (.keep [8,9,43,46,47,48] true) .d)))))))) [F15.k,F16.k,F17.k,F19.k,F21.k] f5 false [(18,.d),(20,(.q (.cut [2,6,8,9] [] (.keep [2,6,8,9,11,14,15,16] true) (.q (.cut [6,7] [] .d .d)))))]
def x6(av ay az ba:Int)(bb:LB)(bc:Bool)(bd:Int)(be:LB)(bf:LX)(bg:List LB)(aw:LB):Option R_:=H.e P_ [r,r,r,r,r,r,r,r] ⟨[(8,vi av),(9,.ptr 0 [])],[.box 44 (.agg [.agg [vi ay,vi az],vi ba,vs bb,.own 1,.own 2,.own 3,.own 4,vt bc,vi bd]),Ab 5 be,Aw 21 bf,.arr 22 (.list (.int .u8)) bg,Ab 5 aw],[]⟩
def x5(w a y aa ab:Int)(ac:LB)(ad:Bool)(ae b f g:Int)(h k:LB)(m:LX)(n:List LB)(o:LB)(p:Bool)(u:Int)(af:LB)(ag:LX)(ah:List LB)(ai:LB):Option R_:=H.e P_ [r,r,r,r,r,r,r,l,(call 2 20),r,r,r,r] ⟨[(6,.ptr 0 []),(7,vi w)],[.box 44 (.agg [.agg [vi y,vi aa],vi ab,vs ac,.own 2,.own 3,.own 4,.own 5,vt ad,vi ae]),.box 44 (.agg [.agg [vi b,vi f],vi g,vs h,vb k,vw m,.val (.list (.list (.int .u8))) n,vb o,vt p,vi u]),Ab 5 af,Aw 21 ag,.arr 22 (.list (.int .u8)) ah,Ab 5 ai],[[(8,vi a),(9,.ptr 1 [])]]⟩
def x4(v a aj ak al:Int)(am:LB)(an:Bool)(ao b f g:Int)(h k:LB)(m:LX)(n:List LB)(o:LB)(p:Bool)(u:Int)(ap:LB)(aq:LX)(ar:List LB)(au:LB):Option R_:=H.e P_ [r,r,r,r,r,r,r,l,(call 2 20),r,r] ⟨[(2,.fn 21 []),(6,.ptr 0 []),(8,.ptr 1 []),(9,vi v)],[.box 44 (.agg [.agg [vi 0,vi 0],vi 0,vs ([]:LB),.nils,.nils,.nils,.nils,vt false,vi 0]),.box 44 (.agg [.agg [vi aj,vi ak],vi al,vs am,.own 3,.own 4,.own 5,.own 6,vt an,vi ao]),.box 44 (.agg [.agg [vi b,vi f],vi g,vs h,vb k,vw m,.val (.list (.list (.int .u8))) n,vb o,vt p,vi u]),Ab 5 ap,Aw 21 aq,.arr 22 (.list (.int .u8)) ar,Ab 5 au],[[(8,vi a),(9,.ptr 2 [])]]⟩
theorem e6:x6=Zq:=B3
theorem e5:x5=KQ:=Eq.trans (b:=MN x6) B3 (by simp only[e6]<;>rfl)
theorem e4:x4=LY:=Eq.trans (b:=II x6 x5) B3 (by simp only[e6,e5]<;>rfl)
def k:KC_:=kk_ 5 H (u5 Cy) func5 (λx=>Eq.trans (b:=u5 (Zl x4) x) B3 (by simp only[e4]<;>rfl))
end F5
namespace F22
def VD(j2:LB->Int->Int->Int->LX->Option (Int×Int×Int×Int×Int×Int))(a b f:Int)(g:LX)(h:LB):Option (Int×Int×Int×Int×Int×Int):=
(En a b f g).bind λk=>
if(Bd k 0)then
some (0,0,0,0,0,k)
else
if(Ei (Ac h) 64)then
some (0,0,0,0,0,2)
else
(Is (Bd a 0)).bind λ_=>
bo (
j2 h a b f g)
theorem Bqv: @VD= @YQ:=by
  unfold VD YQ;simp only[kP,OH,QB]
abbrev R_:=(Int×Int×Int×Int×Int×Int)
def H:=hd_ [.agg [Si,Si,Si,Sw],Ss] [.agg [Si,Si,Si,Si,Si],Si] (.q (.q (.q (.cut [1,4,7] [] .d .d)))) [F15.k] f22
def x2(h:LB)(a b f:Int)(g:LX):Option R_:=H.e P_ [r,r,r,r] ⟨[(1,vs h),(4,.ptr 0 []),(7,.ptr 1 [])],[.box 51 (.agg [vi 0,vi 0,vi 0,vi 0,vi 0]),.box 51 (.agg [vi 1,vi a,vi b,vi f,vi (Bo (Ac g) a)])],[]⟩
theorem e2:x2=Bix:=B3
def k:KC_:=kk_ 22 H (u5 Be7) func22 (λx=>Eq.trans (b:=u5 (VD x2) x) B3 (by rw[Bqv];simp only[e2]<;>rfl))
end F22
namespace F198
def H:=hd_ [Sq,Sq] [Sq,Sq] .d [] f198
def k:KC_:=kk_ 198 H (u2 VJ) func198
end F198
namespace F170
def H:=hd_ [Sq,Sq] [Sq,Sq] .d [F198.k] f170
def k:KC_:=kk_ 170 H (u2 RC) func170
end F170
namespace F134
def Sd(j10:LI->Option (LI))(bk8:Int->LI->Option (LI))(b:Int)(a:LI):Option (LI):=
if(Ck b (Ac a))then
both (
(jB (Ac a) b (Ac a)).bind λ_=>
(jB (Ac a) 0 b).bind λ_=>
bk8 (Ad b (bE ((Ac a)-b) (aW a 0 (b-(0:Int))).length)) (Yh a b ((Ac a)-b) (aW a 0 (b-(0:Int))))) [
(jB (Ac a) 0 b).bind λ_=>
(jB (Ac a) b (Ac a)).bind λ_=>
bk8 (Ad b (bE ((Ac a)-b) (aW a 0 (b-(0:Int))).length)) (Yh a b ((Ac a)-b) (aW a 0 (b-(0:Int))))]
else
j10 a
theorem Bn2: @Sd= @Jc:=by
  unfold Sd Jc
  repeat (refine funext λ_=>?_)
  repeat' first
    |with_reducible rfl
    |with_reducible refine Qx ?_ ?_
    |with_reducible refine Qj ?_ ?_ ?_
    |with_reducible refine Qz ?_ ?_ ?_ ?_
    |((with_reducible refine Xc ?_ ?_);focus (intro h;first|(subst h;rfl)|(simp only[h];rfl)|(simp[Ds,Ac,h];done)))
    |with_reducible refine We λx=>?_
    |with_reducible refine FY (λ_=>?_) (λ_=>?_)
    |(refine Jg (λh=>by simp only[h,Wu,Gg,Gb,ite_self]) (λx h=>?_);(try simp only[h,Gg]))
    |(refine My (λh=>?_) (λh=>?_)<;>simp only[h,if_true,if_false,Bool.false_eq_true])
abbrev R_:=LI
def H:=hd_ [Sl,Si] [Ol 3] (.q (.cut [0,1] [] .d (.q (.cut [0,6] [] .d (.q (.q (.cut [7] [] (.blk (.loop [7,8] [] (.q (.blk (.mode false))))) .d))))))) [F170.k] f134 true
def t8(b:Int)(a:LI):S:=⟨[(7,.own 0),(8,vi b)],[Ai 3 a],[]⟩
def z8:ZT_ R_:=H.i P_ [r,r,r,r,r,r,l,d]
def x10(a:LI):Option R_:=H.e P_ [r,r,r,r,r,r,r] ⟨[(7,.own 0)],[Ai 3 a],[]⟩
def x7(f:LI)(g:UInt64):Option R_:=H.e P_ [r,r,r,r] ⟨[(0,vl f),(6,vq g)],[],[]⟩
def x6(f:LI)(h:Int):Option R_:=H.e P_ [r,r] ⟨[(0,vl f),(1,vi h)],[],[]⟩
theorem e10:x10=Ly:=B3
theorem i8:∀(q:Nat) (b:Int) (a:LI),z8 q (t8 b a)=Gl q b a:=
 ind (λ_ _=>by kernel_rfl) λq ih b a=>Eq.trans (b:=Sd x10 (λb a=>(z8 q) (t8 b a)) b a) B3 (by rw[Bn2];simp only[e10,ih]<;>rfl)
theorem e7:x7=Tq:=Eq.trans (b:=Tv (λb a=>z8 Dt (t8 b a))) B3 (by simp only[i8,Bb]<;>rfl)
theorem e6:x6=Tw:=Eq.trans (b:=To x7) B3 (by simp only[e7]<;>rfl)
def k:KC_:=kk_ 134 H (u2 Rn) func134 (λx=>Eq.trans (b:=u2 (Tt x6) x) B3 (by simp only[e6]<;>rfl))
end F134
namespace F171
abbrev R_:=LI
def H:=hd_ [.lf (.list (.list (.int .i64))) none] [Ol 3] (.q (.q (.cut [0,3] [] (.q (.blk (.loop [0,3,9,10,11] [] .d))) (.cut [0,6] [⟨6,[],.own 3 (.int .i64)⟩] (.keep [0,3,6,23,24] true) (.cut [6] [] (.q (.blk (.loop [6,25,26,27] [] .d))) .d))))) [] f171 true [(199,(.q (.cut [0,1] [] .d .d)))]
def t14(a:List LI)(g:Int)(f:LI):S:=⟨[(6,.own 0),(25,.val (.list (.list (.int .i64))) a),(26,vi (Ac a)),(27,vi g)],[Ai 3 f],[]⟩
def z14:ZT_ R_:=H.i P_ [r,r,r,r,l,r,d]
def t9(a:List LI)(b h:Int):S:=⟨[(0,.val (.list (.list (.int .i64))) a),(3,vi b),(9,.val (.list (.list (.int .i64))) a),(10,vi (Ac a)),(11,vi h)],[],[]⟩
def z9:ZT_ R_:=H.i P_ [r,r,l,r,d]
def x16(f:LI):Option R_:=H.e P_ [r,r,r,r,r] ⟨[(6,.own 0)],[Ai 3 f],[]⟩
def x13(a:List LI)(k:LI):Option R_:=H.e P_ [r,r,r,r] ⟨[(0,.val (.list (.list (.int .i64))) a),(6,.own 0)],[Ai 3 k],[]⟩
def x12(b:Int)(a:List LI):Option R_:=H.e P_ [r,r,r,l,(call 1 199),r,r] ⟨[(0,.nils),(1,vi b)],[],[[(0,.val (.list (.list (.int .i64))) a),(3,vi b),(23,vi b)]]⟩
def x11(a:List LI)(b:Int):Option R_:=H.e P_ [r,r,r] ⟨[(0,.val (.list (.list (.int .i64))) a),(3,vi b)],[],[]⟩
theorem e16:x16=Aa2:=B3
theorem i14(a:List LI):∀(q:Nat) (g:Int) (f:LI),z14 q (t14 a g f)=Fw a q g f:=
 ind (λ_ _=>by kernel_rfl) λq ih g f=>Eq.trans (b:=Ii x16 (λg f=>(z14 q) (t14 a g f)) a g f) B3 (by simp only[e16,ih]<;>rfl)
theorem e13:x13=Ma:=Eq.trans (b:=Rw (λa g f=>z14 Dt (t14 a g f))) B3 (by simp only[i14,Bb]<;>rfl)
theorem e12:x12=Sa:=Eq.trans (b:=Ry x13) B3 (by simp only[e13]<;>rfl)
theorem e11:x11=Rt:=Eq.trans (b:=Sc x12) B3 (by simp only[e12]<;>rfl)
theorem i9(a:List LI):∀(q:Nat) (b h:Int),z9 q (t9 a b h)=Gj a q b h:=
 ind (λ_ _=>by kernel_rfl) λq ih b h=>Eq.trans (b:=Ja x11 (λb h=>(z9 q) (t9 a b h)) a b h) B3 (by simp only[e11,ih]<;>rfl)
def k:KC_:=kk_ 171 H Ri func171 (λx=>Eq.trans (b:=Ts (λa b h=>z9 Dt (t9 a b h)) x) B3 (by simp only[i9,Bb]<;>rfl))
end F171
namespace F135
def H:=hd_ [Sl,Sl] [Ol 3] .d [F171.k] f135
def k:KC_:=kk_ 135 H (u2 aH) func135
end F135
namespace F101
def H:=hd_ [Si,Si] [Ol 3,Si] .d [F92.k,F93.k,F134.k,F135.k] f101
def k:KC_:=kk_ 101 H (u2 AH) func101
end F101
theorem Bqf:ConOk Tryz.prog gl 23 fP:=Bo8 F15.k.2 F57.k.2 F101.k.2 F59.k.2 F60.k.2
namespace F28
def H:=hd_ [Sb] [Si] .d [] f28
def k:KC_:=kk_ 28 H Bl7 func28
end F28
namespace F29
abbrev R_:=LB
def H:=hd_ [.lf (.list (.list (.int .u8))) none] [Ob 5] (.q (.q (.cut [3] [] (.q (.blk (.loop [3,6,7,8] [⟨3,[],.own 5 (.int .u8)⟩] .d))) .d))) [] f29
def t4(b:List LB)(f:Int)(a:LB):S:=⟨[(3,.own 0),(6,.val (.list (.list (.int .u8))) b),(7,vi (Ac b)),(8,vi f)],[Ab 5 a],[]⟩
def z4:ZT_ R_:=H.i P_ [r,r,l,r,d]
def x6(a:LB):Option R_:=H.e P_ [r,r,r] ⟨[(3,.own 0)],[Ab 5 a],[]⟩
theorem e6:x6=Bk8:=B3
theorem i4(b:List LB):∀(q:Nat) (f:Int) (a:LB),z4 q (t4 b f a)=cC b q f a:=
 ind (λ_ _=>by kernel_rfl) λq ih f a=>Eq.trans (b:=Bjr x6 (λf a=>(z4 q) (t4 b f a)) b f a) B3 (by simp only[e6,ih]<;>rfl)
def k:KC_:=kk_ 29 H Bft func29 (λx=>Eq.trans (b:=Bib (λb f a=>z4 Dt (t4 b f a)) x) B3 (by simp only[i4,Bb]<;>rfl))
end F29
namespace F6
abbrev R_:=(LB×Int)
abbrev K_:=S->Option R_
def H:=hd_ [.agg [Si,Si,Si,Sw],Ss] [Ob 5,Si] (.q (.q (.q (.q (.q (.q (.q (.q (.cut [8,9,10] [⟨10,[],.own 5 (.int .u8)⟩] .d (.cut [7,8,9,10,11] [] (.keep [7,8,9,10,11,46,48,49,50,51] true) .d)))))))))) [F22.k,⟨(23,fP),Bqf⟩,F24.k,F25.k,F26.k,F28.k,F29.k] f6 false [(27,(.q (.q (.cut [5] [] (.q (.blk (.loop [1,5,11,12,13] [] (.q (.q (.cut [1,5,11,12,13] [] .d .d)))))) .d))))]
def t9(a:List LB)(b f:LB)(g:Int)(h:LI):S:=⟨[(1,.fn 28 []),(5,.own 0),(11,.own 1),(12,vi (Ac a)),(13,vi g)],[Ai 3 h,.arr 22 (.list (.int .u8)) a,Ab 5 b,Ab 5 f],[[(8,.own 1),(9,.own 2),(10,.own 3)]]⟩
def z9:ZT_ R_:=H.i P_ [r,r,r,r,r,r,r,r,r,l,(call 1 27),r,r,l,r,d]
def x14(k:Int)(a:List LB)(b f n:LB):Option R_:=H.e P_ [r,r,r,r,r,r,r,r,r,r] ⟨[(7,vi k),(8,.own 0),(9,.own 1),(10,.own 2),(11,.own 3)],[.arr 22 (.list (.int .u8)) a,Ab 5 b,Ab 5 f,Ab 5 n],[]⟩
def x13(h:LI)(a:List LB)(b f:LB):Option R_:=H.e P_ [r,r,r,r,r,r,r,r,r,l,(call 1 27),r,r,r] ⟨[(5,.own 0)],[Ai 3 h,.arr 22 (.list (.int .u8)) a,Ab 5 b,Ab 5 f],[[(8,.own 1),(9,.own 2),(10,.own 3)]]⟩
def x11(kn9:K_)(a:List LB)(b f:LB)(g:Int)(m:LI):Option R_:=H.e P_ [r,r,r,r,r,r,r,r,r,l,(call 1 27),r,r,l,r,d,(lp kn9),r,r,r] ⟨[(1,.fn 28 []),(5,.own 0),(11,.own 1),(12,vi (Ac a)),(13,vi g)],[Ai 3 m,.arr 22 (.list (.int .u8)) a,Ab 5 b,Ab 5 f],[[(8,.own 1),(9,.own 2),(10,.own 3)]]⟩
def x8(a:List LB)(b f:LB):Option R_:=H.e P_ [r,r,r,r,r,r,r,r,r] ⟨[(8,.own 0),(9,.own 1),(10,.own 2)],[.arr 22 (.list (.int .u8)) a,Ab 5 b,Ab 5 f],[]⟩
theorem e14:x14=Bg8:=B3
theorem e13:x13=Bgb:=Eq.trans (b:=Bfa x14) B3 (by simp only[e14]<;>rfl)
theorem e11(kn9:K_)(a:List LB)(b f:LB):x11 kn9 a b f=Bfi (λg h=>kn9 (t9 a b f g h)) a b f:=B3
theorem i9(a:List LB)(b f:LB):∀(q:Nat) (g:Int) (h:LI),z9 q (t9 a b f g h)=bO a b f q g h:=
 ind (λ_ _=>by kernel_rfl) λq ih g h=>Eq.trans (b:=Bja (x11 (z9 q) a b f) x13 a b f g h) B3 (by simp only[e11,e13,ih]<;>rfl)
theorem e8:x8=Bih:=Eq.trans (b:=Bh4 (λa b f g h=>z9 Dt (t9 a b f g h))) B3 (by simp only[i9,Bb]<;>rfl)
def k:KC_:=kk_ 6 H (u5 eS) func6 (λx=>Eq.trans (b:=u5 (Bhu x8) x) B3 (by simp only[e8]<;>rfl))
end F6
namespace F30
def H:=hd_ [Ss] [.agg [Ss,Ob 5,.agg [Si,Si,Si,Si,Si],Ol 3,Si,Ob 5,Sz,Si],Si] .d [] f30
def k:KC_:=kk_ 30 H eC func30
end F30
namespace F115
def UU(a:LB):Option (LB):=
wh a (
some ([]:LB)) (
(Ds ([]:LB) a).bind λb=>
some b)
theorem Bma: @UU= @Lr:=by
  unfold UU Lr
  repeat (refine funext λ_=>?_)
  repeat' first
    |with_reducible rfl
    |with_reducible refine Qx ?_ ?_
    |with_reducible refine Qj ?_ ?_ ?_
    |with_reducible refine Qz ?_ ?_ ?_ ?_
    |((with_reducible refine Xc ?_ ?_);focus (intro h;first|(subst h;rfl)|(simp only[h];rfl)|(simp[Ds,Ac,h];done)))
    |with_reducible refine We λx=>?_
    |with_reducible refine FY (λ_=>?_) (λ_=>?_)
    |(refine Jg (λh=>by simp only[h,Wu,Gg,Gb,ite_self]) (λx h=>?_);(try simp only[h,Gg]))
    |(refine My (λh=>?_) (λh=>?_)<;>simp only[h,if_true,if_false,Bool.false_eq_true])
def H:=hd_ [Sb] [Ob 5] .d [] f115
def k:KC_:=kk_ 115 H Lr func115 (λx=>Eq.trans (b:=UU x) B3 (by simp only[Bma]<;>rfl))
end F115
namespace F116
def Tu(a:LI):Option (LI):=
wh a (
some ([]:LI)) (
(Ds ([]:LI) a).bind λb=>
some b)
theorem Bn8: @Tu= @Hr:=by
  unfold Tu Hr
  repeat (refine funext λ_=>?_)
  repeat' first
    |with_reducible rfl
    |with_reducible refine Qx ?_ ?_
    |with_reducible refine Qj ?_ ?_ ?_
    |with_reducible refine Qz ?_ ?_ ?_ ?_
    |((with_reducible refine Xc ?_ ?_);focus (intro h;first|(subst h;rfl)|(simp only[h];rfl)|(simp[Ds,Ac,h];done)))
    |with_reducible refine We λx=>?_
    |with_reducible refine FY (λ_=>?_) (λ_=>?_)
    |(refine Jg (λh=>by simp only[h,Wu,Gg,Gb,ite_self]) (λx h=>?_);(try simp only[h,Gg]))
    |(refine My (λh=>?_) (λh=>?_)<;>simp only[h,if_true,if_false,Bool.false_eq_true])
def H:=hd_ [Sl] [Ol 3] .d [] f116
def k:KC_:=kk_ 116 H Hr func116 (λx=>Eq.trans (b:=Tu x) B3 (by simp only[Bn8]<;>rfl))
end F116
namespace F69
def H:=hd_ [.agg [Ss,Sb,.agg [Si,Si,Si,Si,Si],Sl,Si,Sb,Sz,Si]] [.agg [Ss,Ob 5,.agg [Si,Si,Si,Si,Si],Ol 3,Si,Ob 5,Sz,Si]] .d [F115.k,F116.k] f69
def k:KC_:=kk_ 69 H (u12 Eu) func69
end F69
namespace F154
def H:=hd_ [.agg [Si,Si,Si,Si,Si]] [Ol 3,Si] .d [F61.k,F101.k] f154
def k:KC_:=kk_ 154 H (u5 Ee) func154
end F154
namespace F152
def H:=hd_ [.agg [Si,Si,Si,Si,Si],Ss] [Si] .d [] f152
def k:KC_:=kk_ 152 H (u6 Qs) func152
end F152
namespace F149
abbrev R_:=Bool
def H:=hd_ [.agg [Ss,Sb,.agg [Si,Si,Si,Si,Si],Sl,Si,Sb,Sz,Si]] [Sz] (.q (.q (.q (.cut [1,3] [] .d (.q (.q (.q (.cut [1,5] [] (.q (.blk (.loop [1,5,83,84,85] [] .d))) .d)))))))) [F65.k,F152.k,F154.k] f149
def t6(y:LI)(o p:LB)(h b f k m:Int)(g:LI)(a:Int)(n:LB)(u:Bool)(v w aa:Int):S:=⟨[(1,.ptr 0 []),(5,vi w),(83,vl y),(84,vi (Ac y)),(85,vi aa)],[.box 64 (.agg [vs o,vb p,.agg [vi h,vi b,vi f,vi k,vi m],vl g,vi a,vb n,vt u,vi v])],[]⟩
def z6:ZT_ R_:=H.i P_ [r,r,r,r,r,r,r,l,r,d]
def x8(w:Int)(o p:LB)(h b f k m:Int)(g:LI)(a:Int)(n:LB)(u:Bool)(v:Int):Option R_:=H.e P_ [r,r,r,r,r,r,r,r] ⟨[(1,.ptr 0 []),(5,vi w)],[.box 64 (.agg [vs o,vb p,.agg [vi h,vi b,vi f,vi k,vi m],vl g,vi a,vb n,vt u,vi v])],[]⟩
def x5(o p:LB)(h b f k m:Int)(g:LI)(a:Int)(n:LB)(u:Bool)(v:Int)(ab:LI):Option R_:=H.e P_ [r,r,r,r] ⟨[(1,.ptr 0 []),(3,.own 1)],[.box 64 (.agg [vs o,vb p,.agg [vi h,vi b,vi f,vi k,vi m],vl g,vi a,vb n,vt u,vi v]),Ai 3 ab],[]⟩
theorem e8:x8=VM:=B3
theorem i6(y:LI)(o p:LB)(h b f k m:Int)(g:LI)(a:Int)(n:LB)(u:Bool)(v:Int):∀(q:Nat) (w aa:Int),z6 q (t6 y o p h b f k m g a n u v w aa)=Sf y o p h b f k m g a n u v q w aa:=
 ind (λ_ _=>by kernel_rfl) λq ih w aa=>Eq.trans (b:=EU x8 (λw aa=>(z6 q) (t6 y o p h b f k m g a n u v w aa)) y o p h b f k m g a n u v w aa) B3 (by simp only[e8,ih]<;>rfl)
theorem e5:x5=VK:=Eq.trans (b:=VL (λy o p h b f k m g a n u v w aa=>z6 Dt (t6 y o p h b f k m g a n u v w aa))) B3 (by simp only[i6,Bb]<;>rfl)
def k:KC_:=kk_ 149 H (u12 BS) func149 (λx=>Eq.trans (b:=u12 (VS x5) x) B3 (by simp only[e5]<;>rfl))
end F149
namespace F78
def H:=hd_ [Sb,Sb] [Sz] .d [] f78
def k:KC_:=kk_ 78 H (u2 Hu) func78
end F78
namespace F192
def H:=hd_ [Sb,Sb] [Sz] .d [F78.k] f192
def k:KC_:=kk_ 192 H (u2 Ok) func192
end F192
namespace F220
abbrev R_:=(Int×Int)
def H:=hd_ [Sb] [Si,Si] (.q (.q (.q (.cut [4] [] (.q (.blk (.loop [4,10,11,12] [] .d))) .d)))) [] f220
def t4(a:LB)(b f:Int):S:=⟨[(4,vi b),(10,vb a),(11,vi (Ac a)),(12,vi f)],[],[]⟩
def z4:ZT_ R_:=H.i P_ [r,r,r,l,r,d]
def x6(b:Int):Option R_:=H.e P_ [r,r,r,r] ⟨[(4,vi b)],[],[]⟩
theorem e6:x6=Bcp:=B3
theorem i4(a:LB):∀(q:Nat) (b f:Int),z4 q (t4 a b f)=Qd a q b f:=
 ind (λ_ _=>by kernel_rfl) λq ih b f=>Eq.trans (b:=CA x6 (λb f=>(z4 q) (t4 a b f)) a b f) B3 (by simp only[e6,ih]<;>rfl)
def k:KC_:=kk_ 220 H QT func220 (λx=>Eq.trans (b:=QD (λa b f=>z4 Dt (t4 a b f)) x) B3 (by simp only[i4,Bb]<;>rfl))
end F220
namespace F212
def PG(j5:LB->UInt8->UInt8->Option (Int×Int))(a:LB):Option (Int×Int):=
(Ok a ([(73:UInt8),(68:UInt8),(51:UInt8)]:LB)).bind λn=>
if(!n)then
some (0,6)
else
if(Ck (Ac a) 10)then
some (0,24)
else
(Am a 3).bind λf=>
(Am a 5).bind λb=>
(λo:Option (Int×Int)=>
(λp:Option (Int×Int)=>
both (
both (
bo (
j5 a f b)) [
o,
o]) [
bo2 (
bo (
j5 a f b)),
p,
p]) (
both (
o) [
bo (
j5 a f b),
both (
bo (
j5 a f b)) [
j5 a f b]])) (
both (
j5 a f b) [
bo (
j5 a f b)])
theorem Bqi: @PG= @EX:=by
  unfold PG EX
  try simp only[kP,OH,QB]
  all_goals
    repeat (refine funext λ_=>?_)
    repeat' first
      |with_reducible rfl
      |with_reducible refine Qx ?_ ?_
      |with_reducible refine Qj ?_ ?_ ?_
      |with_reducible refine Qz ?_ ?_ ?_ ?_
      |((with_reducible refine Xc ?_ ?_);focus (intro h;first|(subst h;rfl)|(simp only[h];rfl)|(simp[Ds,Ac,h];done)))
      |with_reducible refine We λx=>?_
      |with_reducible refine FY (λ_=>?_) (λ_=>?_)
      |(refine Jg (λh=>by simp only[h,Wu,Gg,Gb,ite_self]) (λx h=>?_);(try simp only[h,Gg]))
      |(refine My (λh=>?_) (λh=>?_)<;>simp only[h,if_true,if_false,Bool.false_eq_true])
abbrev R_:=(Int×Int)
def H:=hd_ [Sb] [Si,Si] (.q (.q (.q (.cut [0,4,5] [] (.mode false) (.q (.q (.cut [0,5,6] [] (.cut [0,5,6,43] [] (.keep [0,5,6,7,8,31,32,33,34,35,36,37,38,39,40,41,42,43] true) .d) (.q (.cut [0,5,6] [] .d .d))))))))) [F78.k,F192.k,F220.k] f212 false [(221,.d)]
def x8(a:LB)(b:UInt8)(h:Int):Option R_:=H.e P_ [r,r,r,r,r,r,r,r,r] ⟨[(0,vb a),(5,.ptr 0 []),(6,vi h)],[.box 5 (vc b)],[]⟩
def x7(a:LB)(g:Int)(b:UInt8):Option R_:=H.e P_ [r,r,r,r,r,r,r] ⟨[(0,vb a),(5,.ptr 0 []),(6,vi g)],[.box 5 (vc b)],[]⟩
def x6(a:LB)(g:Int)(b:UInt8)(m:Bool):Option R_:=H.e P_ [r,r,r,r,r,r,l,r] ⟨[(0,vb a),(5,.ptr 0 []),(6,vi g),(43,vt m)],[.box 5 (vc b)],[]⟩
def x5(a:LB)(f b:UInt8):Option R_:=H.e P_ [r,r,r,r] ⟨[(0,vb a),(4,.ptr 0 []),(5,.ptr 1 [])],[.box 5 (vc f),.box 5 (vc b)],[]⟩
theorem e8:x8=EW:=B3
theorem e7:x7=FL:=Eq.trans (b:=VG x8) B3 (by simp only[e8]<;>rfl)
theorem e6:x6=UO:=Eq.trans (b:=UN x7) B3 (by simp only[e7]<;>rfl)
theorem e5:x5=UY:=Eq.trans (b:=VU x6) B3 (by simp only[e6]<;>rfl)
def k:KC_:=kk_ 212 H XJ func212 (λx=>Eq.trans (b:=PG x5 x) B3 (by rw[Bqi];simp only[e5]<;>rfl))
end F212
namespace F120
abbrev R_:=(UInt64×Int)
def H:=hd_ [Sb] [Sq,Si] (.q (.q (.q (.cut [4] [] (.q (.blk (.loop [4,15,16,17] [] .d))) .d)))) [] f120
def t4(a:LB)(b:UInt64)(f:Int):S:=⟨[(4,vq b),(15,vb a),(16,vi (Ac a)),(17,vi f)],[],[]⟩
def z4:ZT_ R_:=H.i P_ [r,r,r,l,r,d]
def x6(b:UInt64):Option R_:=H.e P_ [r,r,r,r] ⟨[(4,vq b)],[],[]⟩
theorem e6:x6=Ba4:=B3
theorem i4(a:LB):∀(q:Nat) (b:UInt64) (f:Int),z4 q (t4 a b f)=HC a q b f:=
 ind (λ_ _=>by kernel_rfl) λq ih b f=>Eq.trans (b:=dV x6 (λb f=>(z4 q) (t4 a b f)) a b f) B3 (by simp only[e6,ih]<;>rfl)
def k:KC_:=kk_ 120 H rO func120 (λx=>Eq.trans (b:=uX (λa b f=>z4 Dt (t4 a b f)) x) B3 (by simp only[i4,Bb]<;>rfl))
end F120
namespace F73
def H:=hd_ [Sb,Si,Si] [Sq,Si] .d [F120.k] f73
def k:KC_:=kk_ 73 H (u3 WZ) func73
end F73
namespace F194
abbrev R_:=LB
def H:=hd_ [Si,Si,Sq] [Ob 5] (.q (.q (.cut [7] [] (.q (.blk (.loop [7,20,21,22] [] .d))) .d))) [F62.k] f194
def t4(a b:Int)(f:UInt64)(h:Int)(g:LB):S:=⟨[(7,.own 0),(20,.own 1),(21,vi (Ac ([(2000:UInt64),(Ae (Ad a (32:Int)):UInt64),(Ae b:UInt64),f,(0:UInt64),(0:UInt64)]:LQ))),(22,vi h)],[Ab 5 g,.arr 113 (.int .u64) ([(2000:UInt64),(Ae (Ad a (32:Int)):UInt64),(Ae b:UInt64),f,(0:UInt64),(0:UInt64)]:LQ)],[]⟩
def z4:ZT_ R_:=H.i P_ [r,r,l,r,d]
def x6(g:LB):Option R_:=H.e P_ [r,r,r] ⟨[(7,.own 0)],[Ab 5 g],[]⟩
theorem e6:x6=zL:=B3
theorem i4(a b:Int)(f:UInt64):∀(q:Nat) (h:Int) (g:LB),z4 q (t4 a b f h g)=GX a b f q h g:=
 ind (λ_ _=>by kernel_rfl) λq ih h g=>Eq.trans (b:=mH x6 (λh g=>(z4 q) (t4 a b f h g)) a b f h g) B3 (by simp only[e6,ih]<;>rfl)
def k:KC_:=kk_ 194 H (u3 vV) func194 (λx=>Eq.trans (b:=u3 (B2 (λa b f h g=>z4 Dt (t4 a b f h g))) x) B3 (by simp only[i4,Bb]<;>rfl))
end F194
namespace F193
def H:=hd_ [Sb,Sq] [.agg [Si,Si],Sz] .d [F73.k,F78.k,F194.k] f193
def k:KC_:=kk_ 193 H (u2 YJ) func193
end F193
namespace F213
def H:=hd_ [Sb] [Si,Si] .d [F78.k,F192.k,F193.k,F194.k] f213
def k:KC_:=kk_ 213 H vY func213
end F213
namespace F190
def H:=hd_ [Sb] [Si,Si] .d [F212.k,F213.k] f190
def k:KC_:=kk_ 190 H AN func190
end F190
theorem bW:ConOk Tryz.prog gl 117 EP:=Bnf ent117 F190.k.2
namespace F114
def H:=hd_ [Si] [.agg [Sz,Si]] .d [] f114
def k:KC_:=kk_ 114 H Ao func114
end F114
namespace F191
def H:=hd_ [Ss,Ss] [Sz] .d [] f191
def k:KC_:=kk_ 191 H (u2 Ic) func191
end F191
namespace F159
def H:=hd_ [Ss,Ss] [Sz] .d [F191.k] f159
def k:KC_:=kk_ 159 H (u2 Kn) func159
end F159
namespace F151
abbrev R_:=Bool
def H:=hd_ [Sb] [Sz] (.q (.cut [] [] (.q (.blk (.loop [0,5,6] [] .d))) .d)) [F159.k] f151
def t4(a:LB)(b:Int):S:=⟨[(0,vb a),(5,.val (.vec 2 .str) ([([73,68,51]:LB),([65,80,69,84,65,71,69,88]:LB)]:List LB)),(6,vi b)],[],[]⟩
def z4:ZT_ R_:=H.i P_ [r,l,r,d]
def x6:Option R_:=H.e P_ [r,r] ⟨[],[],[]⟩
theorem e6:x6=Bff:=B3
theorem i4(a:LB):∀(q:Nat) (b:Int),z4 q (t4 a b)=Lq a q b:=
 ind (λ_=>by kernel_rfl) λq ih b=>Eq.trans (b:=Xk x6 (λb=>(z4 q) (t4 a b)) a b) B3 (by simp only[e6,ih]<;>rfl)
def k:KC_:=kk_ 151 H Tl func151 (λx=>Eq.trans (b:=VP (λa b=>z4 Dt (t4 a b)) x) B3 (by simp only[i4,Bb]<;>rfl))
end F151
namespace F118
abbrev R_:=(Int×Int×Int×Int×Int×Int)
def H:=hd_ [Sb] [.agg [Si,Si,Si,Si,Si],Si] (.q (.q (.q (.q (.q (.q (.q (.cut [2,8] [] (.q (.blk (.loop [0,2,8,9,44,45] [] .d))) .d)))))))) [F63.k,F73.k,F106.k,F107.k,F159.k] f118
def t4(b:LB)(g f:Int)(a:LI):S:=⟨[(0,vb b),(2,.ptr 0 []),(8,.ptr 1 []),(9,vi g),(44,.val (.vec 5 (.int .i64)) ([(2:Int),(2:Int),(2:Int),(4:Int),(4:Int)]:LI)),(45,vi f)],[.box 51 (.agg [vi 0,vi 0,vi 0,vi 0,vi 0]),.box 111 (.val (.vec 5 (.int .i64)) a)],[]⟩
def z4:ZT_ R_:=H.i P_ [r,r,r,r,r,r,r,l,r,d]
def x6(a:LI):Option R_:=H.e P_ [r,r,r,r,r,r,r,r] ⟨[(2,.ptr 0 []),(8,.ptr 1 [])],[.box 51 (.agg [vi 0,vi 0,vi 0,vi 0,vi 0]),.box 111 (.val (.vec 5 (.int .i64)) a)],[]⟩
theorem e6:x6=JD:=B3
theorem i4(b:LB):∀(q:Nat) (g f:Int) (a:LI),z4 q (t4 b g f a)=Qm b q g f a:=
 ind (λ_ _ _=>by kernel_rfl) λq ih g f a=>Eq.trans (b:=JE x6 (λg f a=>(z4 q) (t4 b g f a)) b g f a) B3 (by simp only[e6,ih]<;>rfl)
def k:KC_:=kk_ 118 H Nn func118 (λx=>Eq.trans (b:=bI (λb g f a=>z4 Dt (t4 b g f a)) x) B3 (by simp only[i4,Bb]<;>rfl))
end F118
namespace F153
def H:=hd_ [Sb,Ss] [Sz,Si] .d [F25.k,F78.k] f153
def k:KC_:=kk_ 153 H (u2 Pr) func153
end F153
namespace F155
abbrev R_:=(LI×Int)
def H:=hd_ [Sb,Si] [Ol 3,Si] (.q (.q (.q (.q (.q (.q (.cut [10] [] (.q (.blk (.loop [0,10,48,49] [] .d))) .d))))))) [F63.k,F65.k,F73.k] f155
def t4(b:LB)(f:LI)(g:Int)(a:LI):S:=⟨[(0,vb b),(10,.own 0),(48,vi (Ac f)),(49,vi g)],[Ai 3 a],[]⟩
def z4:ZT_ R_:=H.i P_ [r,r,r,r,r,r,l,r,d]
def x6(a:LI):Option R_:=H.e P_ [r,r,r,r,r,r,r] ⟨[(10,.own 0)],[Ai 3 a],[]⟩
theorem e6:x6=QO:=B3
theorem i4(b:LB)(f:LI):∀(q:Nat) (g:Int) (a:LI),z4 q (t4 b f g a)=Xx b f q g a:=
 ind (λ_ _=>by kernel_rfl) λq ih g a=>Eq.trans (b:=QS x6 (λg a=>(z4 q) (t4 b f g a)) b f g a) B3 (by simp only[e6,ih]<;>rfl)
def k:KC_:=kk_ 155 H (u2 GD) func155 (λx=>Eq.trans (b:=u2 (gQ (λb f g a=>z4 Dt (t4 b f g a))) x) B3 (by simp only[i4,Bb]<;>rfl))
end F155
namespace F157
def H:=hd_ [.agg [Si,Si,Si,Si,Si]] [.agg [Si,Si]] .d [] f157
def k:KC_:=kk_ 157 H (u5 EC) func157
end F157
namespace F184
def H:=hd_ [Sb] [Sb,Si] .d [F63.k,F120.k] f184
def k:KC_:=kk_ 184 H KR func184
end F184
namespace F185
def H:=hd_ [Sb] [.agg [Ob 5,Si],Si] .d [F130.k] f185
def k:KC_:=kk_ 185 H pE func185
end F185
namespace F208
abbrev R_:=UInt64
def H:=hd_ [.agg [Sb,Si],Si,Si] [Sq] (.q (.q (.cut [7] [] (.blk (.loop [1,2,3,7,8] [] .d)) .d))) [] f208
def t4(b f:Int)(h:LB)(k:Int)(g:UInt64)(a:Int):S:=⟨[(1,vi b),(2,vi f),(3,.ptr 0 []),(7,vq g),(8,vi a)],[.box 177 (.agg [vb h,vi k])],[]⟩
def z4:ZT_ R_:=H.i P_ [r,r,l,d]
def x6(g:UInt64):Option R_:=H.e P_ [r,r,r] ⟨[(7,vq g)],[],[]⟩
theorem e6:x6=Bdw:=B3
theorem i4(b f:Int)(h:LB)(k:Int):∀(q:Nat) (g:UInt64) (a:Int),z4 q (t4 b f h k g a)=SW b f h k q g a:=
 ind (λ_ _=>by kernel_rfl) λq ih g a=>Eq.trans (b:=tB x6 (λg a=>(z4 q) (t4 b f h k g a)) b f h k g a) B3 (by simp only[e6,ih]<;>rfl)
def k:KC_:=kk_ 208 H (u4 M7) func208 (λx=>Eq.trans (b:=u4 (Anw (λb f h k g a=>z4 Dt (t4 b f h k g a))) x) B3 (by simp only[i4,Bb]<;>rfl))
end F208
namespace F206
abbrev R_:=(LB×Int×Int)
abbrev K_:=S->Option R_
def H:=hd_ [.agg [Sb,Si],Si,Si] [.agg [Ob 5,Si],Si] (.q (.q (.q (.q (.cut [6,8] [] (.q (.blk (.loop [2,3,6,8,9] [⟨8,[0],.own 5 (.int .u8)⟩] (.q (.cut [2,3,6,8,9] [] (.blk (.q (.keep [2,3,6,8,9,10,39,40,41,42,43] true))) .d))))) .d))))) [F142.k,F208.k] f206 false [(179,(.blk (.loop [0,1,2] [] (.q (.blk (.cut [0,1,2] [] .d (.q (.cut [0,1,2,7] [] .d .d))))))))]
def t44(a:Int)(g:LB)(f b:Int)(k n:UInt64)(m h:Int)(o:LB):S:=⟨[(0,.ptr 0 []),(1,vq n),(2,vi m)],[.box 177 (.agg [.own 3,vi h]),.box 177 (.agg [vb g,vi f]),.box 177 (.agg [.nils,vi 0]),Ab 5 o],[[(2,vi a),(3,.ptr 1 []),(6,.ptr 2 []),(8,.ptr 0 []),(9,vi b),(10,vi (Fq (64:Int) (Ap a b))),(39,.agg [vb g,vi f]),(40,vi b),(41,vi (Fq (64:Int) (Ap a b))),(42,vq k),(43,vi (Fq (64:Int) (Ap a b)))]]⟩
def z44(Iw:K_):ZT_ R_:=H.i P_ [r,r,r,r,l,r,d,(lp Iw),r,l,d,r,(call 5 179),d]
def t27(a:Int)(g:LB)(f b p:Int)(u:LB):S:=⟨[(2,vi a),(3,.ptr 0 []),(6,.ptr 1 []),(8,.ptr 2 []),(9,vi b)],[.box 177 (.agg [vb g,vi f]),.box 177 (.agg [.nils,vi 0]),.box 177 (.agg [.own 3,vi p]),Ab 5 u],[]⟩
def z27:ZT_ R_:=H.i P_ [r,r,r,r,l,r,d]
def x52(p:Int)(u:LB):Option R_:=H.e P_ [r,r,r,r,r] ⟨[(6,.ptr 0 []),(8,.ptr 1 [])],[.box 177 (.agg [.nils,vi 0]),.box 177 (.agg [.own 2,vi p]),Ab 5 u],[]⟩
def x50(Iw:K_)(a:Int)(g:LB)(f b h:Int)(o:LB):Option R_:=H.e P_ [r,r,r,r,l,r,d,(lp Iw),r,r] ⟨[(2,vi a),(3,.ptr 0 []),(6,.ptr 1 []),(8,.ptr 2 []),(9,vi b)],[.box 177 (.agg [vb g,vi f]),.box 177 (.agg [.nils,vi 0]),.box 177 (.agg [.own 3,vi h]),Ab 5 o],[]⟩
def x48(Iw gT:K_)(a b:Int)(g:LB)(f:Int)(k n:UInt64)(m h:Int)(w:LB):Option R_:=H.e P_ [r,r,r,r,l,r,d,(lp Iw),r,l,d,r,(call 5 179),d,(lp gT),r,d,r,r,r] ⟨[(0,.ptr 0 []),(1,vq n),(2,vi m),(7,vi (Fq m (Ap (8:Int) (Fb h (7:Int)))))],[.box 177 (.agg [.own 3,vi h]),.box 177 (.agg [vb g,vi f]),.box 177 (.agg [.nils,vi 0]),Ab 5 w],[[(2,vi a),(3,.ptr 1 []),(6,.ptr 2 []),(8,.ptr 0 []),(9,vi b),(10,vi (Fq (64:Int) (Ap a b))),(39,.agg [vb g,vi f]),(40,vi b),(41,vi (Fq (64:Int) (Ap a b))),(42,vq k),(43,vi (Fq (64:Int) (Ap a b)))]]⟩
def x47(Iw gT:K_)(a b:Int)(g:LB)(f:Int)(k n:UInt64)(m h:Int)(v:LB):Option R_:=H.e P_ [r,r,r,r,l,r,d,(lp Iw),r,l,d,r,(call 5 179),d,(lp gT),r,d,r] ⟨[(0,.ptr 0 []),(1,vq n),(2,vi m)],[.box 177 (.agg [.own 3,vi h]),.box 177 (.agg [vb g,vi f]),.box 177 (.agg [.nils,vi 0]),Ab 5 v],[[(2,vi a),(3,.ptr 1 []),(6,.ptr 2 []),(8,.ptr 0 []),(9,vi b),(10,vi (Fq (64:Int) (Ap a b))),(39,.agg [vb g,vi f]),(40,vi b),(41,vi (Fq (64:Int) (Ap a b))),(42,vq k),(43,vi (Fq (64:Int) (Ap a b)))]]⟩
def x44(Iw:K_)(a:Int)(g:LB)(f b:Int)(k n:UInt64)(m h:Int)(o:LB):Option R_:=H.e P_ [r,r,r,r,l,r,d,(lp Iw),r,l,d,r,(call 5 179),d] (t44 a g f b k n m h o)
theorem e52:x52=lO:=B3
theorem e50(Iw:K_)(a:Int)(g:LB)(f:Int):x50 Iw a g f=XI (λb p u=>Iw (t27 a g f b p u)) a g f:=B3
theorem e48(Iw gT:K_)(a:Int)(g:LB)(f b:Int)(k:UInt64):x48 Iw gT a b g f k=mZ (λn m h o=>gT (t44 a g f b k n m h o)) a b g f k:=B3
theorem e47(Iw gT:K_)(a:Int)(g:LB)(f b:Int)(k:UInt64):x47 Iw gT a b g f k=XV (λn m h o=>gT (t44 a g f b k n m h o)) a b g f k:=Eq.trans (b:=nW (x48 Iw gT a b g f k) a b g f k) B3 (by simp only[e48]<;>rfl)
theorem i44(Iw:K_)(a:Int)(g:LB)(f b:Int)(k:UInt64):∀(q:Nat) (n:UInt64) (m h:Int) (o:LB),z44 Iw q (t44 a g f b k n m h o)=Sp (λb p u=>Iw (t27 a g f b p u)) a g f b k q n m h o:=
 ind (λ_ _ _ _=>by kernel_rfl) λq ih n m h o=>Eq.trans (b:=XR (x47 Iw (z44 Iw q) a b g f k) (x50 Iw a g f) a g f b k n m h o) B3 (by simp only[e47,e50,ih]<;>rfl)
theorem e44(Iw:K_)(a:Int)(g:LB)(f:Int):x44 Iw a g f=nC (λb p u=>Iw (t27 a g f b p u)) a g f:=by funext b k n m h o;exact Eq.trans B3 ((i44 Iw a g f b k Dt n m h o).trans (by rw[Bb];rfl))
theorem i27(a:Int)(g:LB)(f:Int):∀(q:Nat) (b p:Int) (u:LB),z27 q (t27 a g f b p u)=BR a g f q b p u:=
 ind (λ_ _ _=>by kernel_rfl) λq ih b p u=>Eq.trans (b:=nA (x44 (z27 q) a g f) x52 a g f b p u) B3 (by simp only[e44,e52,ih]<;>rfl)
def k:KC_:=kk_ 206 H (u4 sV) func206 (λx=>Eq.trans (b:=u4 (tG (λa g f b p u=>z27 Dt (t27 a g f b p u))) x) B3 (by simp only[i27,Bb]<;>rfl))
end F206
namespace F187
def H:=hd_ [.agg [Sb,Si],Si,Si] [Sq,Si] .d [F142.k,F208.k] f187
def k:KC_:=kk_ 187 H (u4 LH) func187
end F187
namespace F225
def H:=hd_ [Sq] [Si] .d [] f225
def k:KC_:=kk_ 225 H Ih func225
end F225
namespace F223
def cS(j6:Int->UInt64->Int->LB->Int->Option (Int×Int×Int))(g:LB)(b a:Int):Option (Int×Int×Int):=
(Le g b).bind λm=>
if(Bd m 0)then
some (0,0,m)
else
if(Ck a 0)then
some (0,0,2)
else
if(Mv a b)then
some (0,0,24)
else
(λn:Option (Int×Int×Int)=>
(λo:Option (Int×Int×Int)=>
bo2 (
o)) (
bo (
n))) (
(LH g b a (Fq 48 (Ap b a))).bind λ(k,h)=>
j6 h k a g b)
theorem Bme: @cS= @EL:=by
  unfold cS EL;simp only[kP,OH,QB]
abbrev R_:=(Int×Int×Int)
def H:=hd_ [.agg [Sb,Si],Si] [Si,Si,Si] (.q (.q (.q (.q (.q (.cut [3,5,6,8,9] [] (.keep [2,3,5,6,8,9,22,23,24,25,26,27,28,29] false) (.q (.q (.cut [] [] (.blk (.seq (.blk (.seq (.blk (.cut [] [] (.cut [3,4,5] [] (.cut [3,4,5,36] [] (.keep [3,4,5,8,36,37,38,39,40] true) .d) .d) .d)) .d)) .d)) .d))))))))) [F142.k,F187.k,F225.k] f223 false [(224,.d)]
def x10:Option R_:=H.e P_ [r,r,r,r,r,r,r,r,r] ⟨[],[],[]⟩
def x9:Option R_:=H.e P_ [r,r,r,r,r,r,r,r,l,d,l,d,l,d,r] ⟨[],[],[]⟩
def x8(f a:Int):Option R_:=H.e P_ [r,r,r,r,r,r,r,r,l,d,l,d,l,d,l,r] ⟨[(3,.ptr 0 []),(4,vi f),(5,vi 0)],[.box 3 (vi a)],[]⟩
def x7(f b a:Int):Option R_:=H.e P_ [r,r,r,r,r,r,r,r,l,d,l,d,l,d,l,l,r] ⟨[(3,.ptr 0 []),(4,vi f),(5,vi 0),(36,vt (Ck f (Fq (48:Int) (Ap b a))))],[.box 3 (vi a)],[]⟩
def x6(h:Int)(k:UInt64)(a:Int)(g:LB)(b:Int):Option R_:=H.e P_ [r,r,r,r,r,r] ⟨[(3,.ptr 0 []),(5,vi 0),(6,vi h),(8,.fn 224 [.ptr 1 [],.ptr 0 []]),(9,vq k)],[.box 3 (vi a),.box 177 (.agg [vb g,vi b])],[]⟩
theorem e10:x10=Bij:=B3
theorem e9:x9=Bl5:=Eq.trans (b:=Blp x10) B3 (by simp only[e10]<;>rfl)
theorem e8:x8=fY:=Eq.trans (b:=fS x9) B3 (by simp only[e9]<;>rfl)
theorem e7:x7=gE:=Eq.trans (b:=fX x8) B3 (by simp only[e8]<;>rfl)
theorem e6:x6=fO:=Eq.trans (b:=gB x7) B3 (by simp only[e7]<;>rfl)
def k:KC_:=kk_ 223 H (u3 PR) func223 (λx=>Eq.trans (b:=u3 (cS x6) x) B3 (by rw[Bme];simp only[e6]<;>rfl))
end F223
namespace F217
abbrev R_:=(UInt32×Int×Int)
def H:=hd_ [.agg [Sb,Si],Si,Si] [Su,Si,Si] (.q (.q (.q (.q (.q (.q (.cut [2,3,7,10,11] [] .d .d))))))) [F142.k,F180.k,F187.k,F223.k] f217
def x2(a b f:Int)(g:LB)(h k:Int):Option R_:=H.e P_ [r,r,r,r,r,r,r] ⟨[(2,vi a),(3,.ptr 0 []),(7,vi b),(10,vi f),(11,vi k)],[.box 177 (.agg [vb g,vi h])],[]⟩
theorem e2:x2=YB:=B3
def k:KC_:=kk_ 217 H (u4 wE) func217 (λx=>Eq.trans (b:=u4 (mS x2) x) B3 (by simp only[e2]<;>rfl))
end F217
namespace F207
abbrev R_:=(UInt32×Int×Int×Int×UInt64×UInt64×Int)
def H:=hd_ [.agg [Sb,Si],Si,.agg [Si,Si,Sq,Sq]] [Su,Si,.agg [Si,Si,Sq,Sq],Si] (.q (.cut [1,3,5,8] [] .d (.q (.q (.cut [5,6,7,8] [] .d (.cut [5,6,7,8] [] (.keep [5,6,7,8,81] true) .d)))))) [F142.k,F143.k,F144.k,F187.k,F217.k] f207 false [(147,(.q (.q (.q (.blk (.cut [0,1,4] [] (.blk (.q (.keep [0,1,4,6,18,19,20,21,22,23,24,25] true))) (.cut [] [] (.keep [0,1,4,27,28,29,30,31,32,33,34] true) .d))))))),(182,.d)]
def x10(f:UInt32)(k w m:Int)(a n:UInt64):Option R_:=H.e P_ [r,r,r,r,r,r] ⟨[(5,.ptr 0 []),(6,vu f),(7,vi k),(8,.ptr 1 [])],[.box 173 (.agg [vi w,vi m,vq (Ad a (Ap (Ae f:UInt64) (Cn a (GI.toZ (4:UInt64)).toNat))),vq n]),.box 173 (.agg [vi 0,vi 0,vq 0,vq 0])],[]⟩
def x9(f:UInt32)(k m:Int)(a n:UInt64)(w:Int):Option R_:=H.e P_ [r,r,r,r,r,l,(call 1 147),r,r,r,d,r,r] ⟨[],[.box 173 (.agg [vi w,vi m,vq (Ad a (Ap (Ae f:UInt64) (Cn a (GI.toZ (4:UInt64)).toNat))),vq n]),.box 173 (.agg [vi 0,vi 0,vq 0,vq 0])],[[(5,.ptr 0 []),(6,vu f),(7,vi k),(8,.ptr 1 []),(81,vu f)]]⟩
def x8(f:UInt32)(k b:Int)(a:UInt64)(m:Int)(n:UInt64):Option R_:=H.e P_ [r,r,r,r,r,l,(call 1 147),r,r,r,d,r] ⟨[(0,.ptr 0 []),(1,vu f),(4,.fn 182 [])],[.box 173 (.agg [vi b,vi m,vq a,vq n]),.box 173 (.agg [vi 0,vi 0,vq 0,vq 0])],[[(5,.ptr 0 []),(6,vu f),(7,vi k),(8,.ptr 1 []),(81,vu f)]]⟩
def x7(b h:Int)(a g:UInt64)(f:UInt32)(k:Int):Option R_:=H.e P_ [r,r,r,r,r] ⟨[(5,.ptr 0 []),(6,vu f),(7,vi k),(8,.ptr 1 [])],[.box 173 (.agg [vi b,vi h,vq a,vq g]),.box 173 (.agg [vi 0,vi 0,vq 0,vq 0])],[]⟩
def x6(p:Int)(u:LB)(v b h:Int)(a g:UInt64):Option R_:=H.e P_ [r,r] ⟨[(1,vi p),(3,.ptr 0 []),(5,.ptr 1 []),(8,.ptr 2 [])],[.box 177 (.agg [vb u,vi v]),.box 173 (.agg [vi b,vi h,vq a,vq g]),.box 173 (.agg [vi 0,vi 0,vq 0,vq 0])],[]⟩
theorem e10:x10=fV:=B3
theorem e9:x9=lC:=Eq.trans (b:=nF x10) B3 (by simp only[e10]<;>rfl)
theorem e8:x8=MI:=Eq.trans (b:=nP x9) B3 (by simp only[e9]<;>rfl)
theorem e7:x7=XQ:=Eq.trans (b:=lP x8) B3 (by simp only[e8]<;>rfl)
theorem e6:x6=nV:=Eq.trans (b:=lW x7) B3 (by simp only[e7]<;>rfl)
def k:KC_:=kk_ 207 H (u7 PH) func207 (λx=>Eq.trans (b:=u7 (nZ x6) x) B3 (by simp only[e6]<;>rfl))
end F207
namespace F186
def DE(j21:Int->Int->Int->UInt32->Int-> (List (Int×Int×UInt64×UInt64×Unit))->LU->Int->Int->UInt64->UInt64->Option (LU×Int×Int))(j24:Int->LU->Option (LU×Int×Int))(a f:Int)(g:LB)(b k h:Int)(n:List (Int×Int×UInt64×UInt64×Unit))(m:LU):Option (LU×Int×Int):=
if(Ck h (Bg f a))then
(sV g b k (Fq (Ad k 81) b)).bind λ(ah,ae,af)=>
if(Bd af 0)then
some (([]:LU),0,af)
else
(Is (Bd a 0)).bind λ_=>
(Am n (Gz h a)).bind λ_=>
(λai:Option (LU×Int×Int)=>
both (
both (
(Am n (Gz h a)).bind λp=>
(λao:Option (LU×Int×Int)=>
bo (
ao)) (
(PH ah ae 0 p.1 p.2.1 p.2.2.1 p.2.2.2.1).bind λ(w,v,aa,ab,ac,ad,y)=>
j21 k h y w v n m aa ab ac ad)) [
ai]) [
(Am n (Gz h a)).bind λp=>
(λaj:Option (LU×Int×Int)=>
both (
bo (
aj)) [
aj]) (
(PH ah ae 0 p.1 p.2.1 p.2.2.1 p.2.2.2.1).bind λ(w,v,aa,ab,ac,ad,y)=>
j21 k h y w v n m aa ab ac ad),
bo (
ai)]) (
(Am n (Gz h a)).bind λp=>
(PH ah ae 0 p.1 p.2.1 p.2.2.1 p.2.2.2.1).bind λ(w,v,aa,ab,ac,ad,y)=>
j21 k h y w v n m aa ab ac ad)
else
j24 k m
theorem Bof: @DE= @Xg:=by
  unfold DE Xg
  try simp only[kP,OH,QB]
  all_goals
    repeat (refine funext λ_=>?_)
    repeat' first
      |with_reducible rfl
      |with_reducible refine Qx ?_ ?_
      |with_reducible refine Qj ?_ ?_ ?_
      |with_reducible refine Qz ?_ ?_ ?_ ?_
      |((with_reducible refine Xc ?_ ?_);focus (intro h;first|(subst h;rfl)|(simp only[h];rfl)|(simp[Ds,Ac,h];done)))
      |with_reducible refine We λx=>?_
      |with_reducible refine FY (λ_=>?_) (λ_=>?_)
      |(refine Jg (λh=>by simp only[h,Wu,Gg,Gb,ite_self]) (λx h=>?_);(try simp only[h,Gg]))
      |(refine My (λh=>?_) (λh=>?_)<;>simp only[h,if_true,if_false,Bool.false_eq_true])
abbrev R_:=(LU×Int×Int)
abbrev K_:=S->Option R_
def H:=hd_ [Si,Si,.agg [Sb,Si]] [Ov 114,Si,Si] (.q (.q (.cut [0,1,5,9] [] (.q (.blk (.loop [0,1,5,9,19] [] .d))) (.q (.q (.cut [11,12] [] (.q (.blk (.loop [0,5,9,11,12,28,29] [⟨11,[],.own 114 (.int .u32)⟩] (.q (.q (.seq (.blk (.q (.q (.q (.cut [0,5,9,11,12,13,15,16,17,18,28,29] [] (.mode false) (.q (.cut [0,5,9,11,12,16,28,29] [] .d .d))))))) .d)))))) .d)))))) [F141.k,F206.k,F207.k] f186
def t16(a f:Int)(g:LB)(b k h:Int)(n:List (Int×Int×UInt64×UInt64×Unit))(m:LU):S:=⟨[(0,vi a),(5,.ptr 0 []),(9,.ptr 1 []),(11,.own 2),(12,vi k),(28,vi (Bg f a)),(29,vi h)],[.box 177 (.agg [vb g,vi b]),.box 174 (.val (.vec 6 (.cons (.int .i64) (.cons (.int .i64) (.cons (.int .u64) (.cons (.int .u64) .nil))))) n),Av 114 m],[]⟩
def z16:ZT_ R_:=H.i P_ [r,r,r,r,r,l,r,d]
def t13(a f:Int)(g:LB)(b u:Int)(o:List (Int×Int×UInt64×UInt64×Unit)):S:=⟨[(0,vi a),(1,vi f),(5,.ptr 0 []),(9,.ptr 1 []),(19,vi u)],[.box 177 (.agg [vb g,vi b]),.box 174 (.val (.vec 6 (.cons (.int .i64) (.cons (.int .i64) (.cons (.int .u64) (.cons (.int .u64) .nil))))) o)],[]⟩
def z13:ZT_ R_:=H.i P_ [r,r,l,r,d]
def x24(k:Int)(m:LU):Option R_:=H.e P_ [r,r,r,r,r,r] ⟨[(11,.own 0),(12,vi k)],[Av 114 m],[]⟩
def x22(Dn:K_)(a f:Int)(g:LB)(b k v:Int)(w:UInt32)(h:Int)(ag:List (Int×Int×UInt64×UInt64×Unit))(m:LU):Option R_:=H.e P_ [r,r,r,r,r,l,r,d,(lp Dn),r,r,l,d,r,r,r,r,r,r] ⟨[(0,vi a),(5,.ptr 0 []),(9,.ptr 1 []),(11,.own 2),(12,vi (Ad k v)),(16,vu w),(28,vi (Bg f a)),(29,vi h)],[.box 177 (.agg [vb g,vi b]),.box 174 (.val (.vec 6 (.cons (.int .i64) (.cons (.int .i64) (.cons (.int .u64) (.cons (.int .u64) .nil))))) ag),Av 114 m],[]⟩
def x21(Dn:K_)(a f:Int)(g:LB)(b k h y:Int)(w:UInt32)(v:Int)(n:List (Int×Int×UInt64×UInt64×Unit))(m:LU)(aa ab:Int)(ac ad:UInt64):Option R_:=H.e P_ [r,r,r,r,r,l,r,d,(lp Dn),r,r,l,d,r,r,r,r] ⟨[(0,vi a),(5,.ptr 0 []),(9,.ptr 1 []),(11,.own 2),(12,vi k),(13,vi h),(15,vi y),(16,vu w),(17,vi v),(18,.ptr 3 []),(28,vi (Bg f a)),(29,vi h)],[.box 177 (.agg [vb g,vi b]),.box 174 (.val (.vec 6 (.cons (.int .i64) (.cons (.int .i64) (.cons (.int .u64) (.cons (.int .u64) .nil))))) n),Av 114 m,.box 173 (.agg [vi aa,vi ab,vq ac,vq ad])],[]⟩
def x15(a f:Int)(g:LB)(b:Int)(o:List (Int×Int×UInt64×UInt64×Unit)):Option R_:=H.e P_ [r,r,r] ⟨[(0,vi a),(1,vi f),(5,.ptr 0 []),(9,.ptr 1 [])],[.box 177 (.agg [vb g,vi b]),.box 174 (.val (.vec 6 (.cons (.int .i64) (.cons (.int .i64) (.cons (.int .u64) (.cons (.int .u64) .nil))))) o)],[]⟩
theorem e24:x24=Asj:=B3
theorem e22(Dn:K_)(a f:Int)(g:LB)(b:Int):x22 Dn a f g b=FR (λk h n m=>Dn (t16 a f g b k h n m)) a f g b:=B3
theorem e21(Dn:K_)(a f:Int)(g:LB)(b:Int):x21 Dn a f g b=Wn (λk h n m=>Dn (t16 a f g b k h n m)) a f g b:=Eq.trans (b:=Wm (x22 Dn a f g b) a f g b) B3 (by simp only[e22]<;>rfl)
theorem i16(a f:Int)(g:LB)(b:Int):∀(q:Nat) (k h:Int) (n:List (Int×Int×UInt64×UInt64×Unit)) (m:LU),z16 q (t16 a f g b k h n m)=Qk a f g b q k h n m:=
 ind (λ_ _ _ _=>by kernel_rfl) λq ih k h n m=>Eq.trans (b:=DE (x21 (z16 q) a f g b) x24 a f g b k h n m) B3 (by rw[Bof];simp only[e21,e24,ih]<;>rfl)
theorem e15:x15=FP:=Eq.trans (b:=Anf (λa f g b k h n m=>z16 Dt (t16 a f g b k h n m))) B3 (by simp only[i16,Bb]<;>rfl)
theorem i13(a f:Int)(g:LB)(b:Int):∀(q:Nat) (u:Int) (o:List (Int×Int×UInt64×UInt64×Unit)),z13 q (t13 a f g b u o)=FU a f g b q u o:=
 ind (λ_ _=>by kernel_rfl) λq ih u o=>Eq.trans (b:=Apc x15 (λu o=>(z13 q) (t13 a f g b u o)) a f g b u o) B3 (by simp only[e15,ih]<;>rfl)
def k:KC_:=kk_ 186 H (u4 KN) func186 (λx=>Eq.trans (b:=u4 (KM (λa f g b u o=>z13 Dt (t13 a f g b u o))) x) B3 (by simp only[i13,Bb]<;>rfl))
end F186
namespace F210
def H:=hd_ [Su] [Sx] .d [] f210
def k:KC_:=kk_ 210 H CN func210
end F210
namespace F218
def H:=hd_ [.agg [Si,.lf (.vec 16 (.int .i32)) none,.lf (.vec 16 (.int .i32)) none],Sx] [Sx,.agg [Si,.lf (.vec 16 (.int .i32)) none,.lf (.vec 16 (.int .i32)) none],Si] .d [F202.k,F203.k] f218
def k:KC_:=kk_ 218 H (u4 uL) func218
end F218
namespace F209
def aB(a:Int)(b:Int32)(f:Int)(g h:LX)(o:Int32):Option (Int32×Int×Int32×Int×LX×LX×Int):=
(AO a b f g h).bind λk=>
if(Bd k 0)then
some (0,0,0,0,(List.replicate 16 (0:Int32)),(List.replicate 16 (0:Int32)),k)
else
(AP a b).bind λ(m,y)=>
(uL f g h o).bind λ(n,p,u,v,w)=>
(λaa:Option (Int32×Int×Int32×Int×LX×LX×Int)=>
bo (
aa)) (
some ((Ad n m),a,(Ad n m),p,u,v,w))
theorem Bmj: @aB= @Oq:=by
  unfold aB Oq;simp only[kP,OH,QB]
def H:=hd_ [.agg [Si,Sx,.agg [Si,.lf (.vec 16 (.int .i32)) none,.lf (.vec 16 (.int .i32)) none]],Sx] [Sx,.agg [Si,Sx,.agg [Si,.lf (.vec 16 (.int .i32)) none,.lf (.vec 16 (.int .i32)) none]],Si] (.q (.q (.q (.q (.seq (.mode false) .d))))) [F175.k,F176.k,F218.k] f209
def k:KC_:=kk_ 209 H (u6 Oq) func209 (λx=>Eq.trans (b:=u6 aB x) B3 (by simp only[Bmj]<;>rfl))
end F209
namespace F211
abbrev R_:=(LX×Int)
abbrev K_:=S->Option R_
def H:=hd_ [Si,Sw] [Ow 21,Si] (.q (.q (.q (.cut [7] [] (.q (.blk (.loop [0,7,8] [] (.q (.cut [0,7,8] [] (.blk (.keep [0,7,8,24,25,26,27,28,29] true)) .d))))) .d)))) [F131.k,F172.k] f211 true [(219,(.q (.cut [0,2] [] .d (.q (.blk (.loop [0,3] [] .d))))))]
def t18(b a g:Int)(h:LX):S:=⟨[(0,.view true 0 [] (.int .i32) a ((Ad a b)-a)),(3,vi g)],[Aw 21 h],[[(0,vi b),(7,.own 0),(8,vi a),(24,.own 0),(25,vi a),(26,vi a),(27,vi b),(28,vi (Ad a b)),(29,.view true 0 [] (.int .i32) a ((Ad a b)-a))]]⟩
def z18(Vw:K_):ZT_ R_:=H.i P_ [r,r,r,l,r,d,(lp Vw),r,l,d,(call 6 219),r,r,r,d]
def t12(b a:Int)(f:LX):S:=⟨[(0,vi b),(7,.own 0),(8,vi a)],[Aw 21 f],[]⟩
def z12:ZT_ R_:=H.i P_ [r,r,r,l,r,d]
def x22(f:LX):Option R_:=H.e P_ [r,r,r,r] ⟨[(7,.own 0)],[Aw 21 f],[]⟩
def x20(Vw:K_)(b a:Int)(h:LX):Option R_:=H.e P_ [r,r,r,l,r,d,(lp Vw),r,r] ⟨[(0,vi b),(7,.own 0),(8,vi a)],[Aw 21 h],[]⟩
def x17(Vw:K_)(b a:Int)(k:LX):Option R_:=H.e P_ [r,r,r,l,r,d,(lp Vw),r,l,d,(call 6 219),r,r] ⟨[(0,.view true 0 [] (.int .i32) a ((Ad a b)-a)),(2,vi (Ap ((Ad a b)-a) (1:Int)))],[Aw 21 k],[[(0,vi b),(7,.own 0),(8,vi a),(24,.own 0),(25,vi a),(26,vi a),(27,vi b),(28,vi (Ad a b)),(29,.view true 0 [] (.int .i32) a ((Ad a b)-a))]]⟩
theorem e22:x22=Aaq:=B3
theorem e20(Vw:K_)(b:Int):x20 Vw b=mQ (λa f=>Vw (t12 b a f)) b:=B3
theorem i18(Vw:K_)(b a:Int):∀(q:Nat) (g:Int) (h:LX),z18 Vw q (t18 b a g h)=CJ (λa f=>Vw (t12 b a f)) b a q g h:=
 ind (λ_ _=>by kernel_rfl) λq ih g h=>Eq.trans (b:=XM (x20 Vw b) (λg h=>(z18 Vw q) (t18 b a g h)) b a g h) B3 (by simp only[e20,ih]<;>rfl)
theorem e17(Vw:K_)(b:Int):x17 Vw b=YA (λa f=>Vw (t12 b a f)) b:=Eq.trans (b:=lB (λa g h=>z18 Vw Dt (t18 b a g h)) b) B3 (by simp only[i18,Bb]<;>rfl)
theorem i12(b:Int):∀(q:Nat) (a:Int) (f:LX),z12 q (t12 b a f)=Wr b q a f:=
 ind (λ_ _=>by kernel_rfl) λq ih a f=>Eq.trans (b:=lI (x17 (z12 q) b) x22 b a f) B3 (by simp only[e17,e22,ih]<;>rfl)
def k:KC_:=kk_ 211 H (u2 I3) func211 (λx=>Eq.trans (b:=u2 (uQ (λb a f=>z12 Dt (t12 b a f))) x) B3 (by simp only[i12,Bb]<;>rfl))
end F211
namespace F188
def AZ(j16:Int->Int32->Int-> (List (Int×Int32×(Int×LX×LX×Unit)×Unit))->LX->Int->Int32->Int->LX->LX->Option (LX×Int))(j18:Int->Int->LX->Option (LX×Int))(f:LU)(a b g:Int)(h:List (Int×Int32×(Int×LX×LX×Unit)×Unit))(k:LX):Option (LX×Int):=
if(Ck g (Ac f))then
(Am f g).bind λag=>
(Is (Bd a 0)).bind λ_=>
(Am h (Gz g a)).bind λ_=>
both (
(Am h (Gz g a)).bind λm=>
both (
(CN ag).bind λae=>
(λao:Option (LX×Int)=>
bo (
ao)) (
(Oq m.1 m.2.1 m.2.2.1.1 m.2.2.1.2.1 m.2.2.1.2.2.1 ae).bind λ(u,v,p,w,y,aa,o)=>
j16 g u o h k v p w y aa)) [
(CN ag).bind λae=>
(Oq m.1 m.2.1 m.2.2.1.1 m.2.2.1.2.1 m.2.2.1.2.2.1 ae).bind λ(u,v,p,w,y,aa,o)=>
j16 g u o h k v p w y aa]) [
(CN ag).bind λaf=>
both (
(Am h (Gz g a)).bind λad=>
(λap:Option (LX×Int)=>
bo (
ap)) (
(Oq ad.1 ad.2.1 ad.2.2.1.1 ad.2.2.1.2.1 ad.2.2.1.2.2.1 af).bind λ(u,v,p,w,y,aa,o)=>
j16 g u o h k v p w y aa)) [
(Am h (Gz g a)).bind λad=>
(Oq ad.1 ad.2.1 ad.2.2.1.1 ad.2.2.1.2.1 ad.2.2.1.2.2.1 af).bind λ(u,v,p,w,y,aa,o)=>
j16 g u o h k v p w y aa],
both (
(Am h (Gz g a)).bind λm=>
(CN ag).bind λae=>
(Oq m.1 m.2.1 m.2.2.1.1 m.2.2.1.2.1 m.2.2.1.2.2.1 ae).bind λ(u,v,p,w,y,aa,o)=>
j16 g u o h k v p w y aa) [
(CN ag).bind λaf=>
(Am h (Gz g a)).bind λad=>
(Oq ad.1 ad.2.1 ad.2.2.1.1 ad.2.2.1.2.1 ad.2.2.1.2.2.1 af).bind λ(u,v,p,w,y,aa,o)=>
j16 g u o h k v p w y aa]]
else
j18 a b k
theorem Bnl: @AZ= @Oz:=by
  unfold AZ Oz
  try simp only[kP,OH,QB]
  all_goals
    repeat (refine funext λ_=>?_)
    repeat' first
      |with_reducible rfl
      |with_reducible refine Qx ?_ ?_
      |with_reducible refine Qj ?_ ?_ ?_
      |with_reducible refine Qz ?_ ?_ ?_ ?_
      |((with_reducible refine Xc ?_ ?_);focus (intro h;first|(subst h;rfl)|(simp only[h];rfl)|(simp[Ds,Ac,h];done)))
      |with_reducible refine We λx=>?_
      |with_reducible refine FY (λ_=>?_) (λ_=>?_)
      |(refine Jg (λh=>by simp only[h,Wu,Gg,Gb,ite_self]) (λx h=>?_);(try simp only[h,Gg]))
      |(refine My (λh=>?_) (λh=>?_)<;>simp only[h,if_true,if_false,Bool.false_eq_true])
abbrev R_:=(LX×Int)
abbrev K_:=S->Option R_
def H:=hd_ [.agg [Si,Si],.lf (.vec 16 (.int .i32)) none,Sv] [Ow 21,Si] (.q (.q (.cut [2,3,8] [] (.q (.blk (.loop [2,3,4,8,20] [] .d))) (.q (.cut [3,10] [] (.q (.blk (.loop [3,8,10,33,34,35] [⟨10,[],.own 21 (.int .i32)⟩] (.q (.q (.seq (.blk (.q (.q (.cut [3,8,10,13,14,15,16,33,34,35] [] (.mode false) .d)))) .d)))))) .d))))) [F47.k,F138.k,F209.k,F210.k,F211.k] f188
def t13(f:LU)(a b g:Int)(h:List (Int×Int32×(Int×LX×LX×Unit)×Unit))(k:LX):S:=⟨[(3,.ptr 0 []),(8,.ptr 1 []),(10,.own 2),(33,vv f),(34,vi (Ac f)),(35,vi g)],[.box 41 (.agg [vi a,vi b]),.box 212 (.val (.vec 6 (.cons (.int .i64) (.cons (.int .i32) (.cons (.cons (.int .i64) (.cons (.vec 16 (.int .i32)) (.cons (.vec 16 (.int .i32)) .nil))) .nil)))) h),Aw 21 k],[]⟩
def z13:ZT_ R_:=H.i P_ [r,r,r,r,l,r,d]
def t10(f:LU)(a b:Int)(ab:LX)(ac:Int)(n:List (Int×Int32×(Int×LX×LX×Unit)×Unit)):S:=⟨[(2,vv f),(3,.ptr 0 []),(4,.ptr 1 []),(8,.ptr 2 []),(20,vi ac)],[.box 41 (.agg [vi a,vi b]),.box 103 (.val (.vec 16 (.int .i32)) ab),.box 212 (.val (.vec 6 (.cons (.int .i64) (.cons (.int .i32) (.cons (.cons (.int .i64) (.cons (.vec 16 (.int .i32)) (.cons (.vec 16 (.int .i32)) .nil))) .nil)))) n)],[]⟩
def z10:ZT_ R_:=H.i P_ [r,r,l,r,d]
def x18(a b:Int)(k:LX):Option R_:=H.e P_ [r,r,r,r,r] ⟨[(3,.ptr 0 []),(10,.own 1)],[.box 41 (.agg [vi a,vi b]),Aw 21 k],[]⟩
def x16(jQ:K_)(a:Int)(f:LU)(b g:Int)(u:Int32)(o:Int)(h:List (Int×Int32×(Int×LX×LX×Unit)×Unit))(k:LX)(v:Int)(p:Int32)(w:Int)(y aa:LX):Option R_:=H.e P_ [r,r,r,r,l,r,d,(lp jQ),r,r,l,d,r,r,r] ⟨[(3,.ptr 0 []),(8,.ptr 1 []),(10,.own 2),(13,.ptr 1 [.idx (Gz g a) 35]),(14,vx u),(15,.ptr 3 []),(16,vi o),(33,vv f),(34,vi (Ac f)),(35,vi g)],[.box 41 (.agg [vi a,vi b]),.box 212 (.val (.vec 6 (.cons (.int .i64) (.cons (.int .i32) (.cons (.cons (.int .i64) (.cons (.vec 16 (.int .i32)) (.cons (.vec 16 (.int .i32)) .nil))) .nil)))) h),Aw 21 k,.box 211 (.agg [vi v,vx p,.agg [vi w,.val (.vec 16 (.int .i32)) y,.val (.vec 16 (.int .i32)) aa]])],[]⟩
def x12(f:LU)(a b:Int)(n:List (Int×Int32×(Int×LX×LX×Unit)×Unit)):Option R_:=H.e P_ [r,r,r] ⟨[(2,vv f),(3,.ptr 0 []),(8,.ptr 1 [])],[.box 41 (.agg [vi a,vi b]),.box 212 (.val (.vec 6 (.cons (.int .i64) (.cons (.int .i32) (.cons (.cons (.int .i64) (.cons (.vec 16 (.int .i32)) (.cons (.vec 16 (.int .i32)) .nil))) .nil)))) n)],[]⟩
theorem e18:x18=Pa:=B3
theorem e16(jQ:K_)(f:LU)(a b:Int):x16 jQ a f b=DJ (λg h k=>jQ (t13 f a b g h k)) a f b:=B3
theorem i13(f:LU)(a b:Int):∀(q:Nat) (g:Int) (h:List (Int×Int32×(Int×LX×LX×Unit)×Unit)) (k:LX),z13 q (t13 f a b g h k)=Lj f a b q g h k:=
 ind (λ_ _ _=>by kernel_rfl) λq ih g h k=>Eq.trans (b:=AZ (x16 (z13 q) a f b) x18 f a b g h k) B3 (by rw[Bnl];simp only[e16,e18,ih]<;>rfl)
theorem e12:x12=DV:=Eq.trans (b:=Alr (λf a b g h k=>z13 Dt (t13 f a b g h k))) B3 (by simp only[i13,Bb]<;>rfl)
theorem i10(f:LU)(a b:Int)(ab:LX):∀(q:Nat) (ac:Int) (n:List (Int×Int32×(Int×LX×LX×Unit)×Unit)),z10 q (t10 f a b ab ac n)=DQ f a b ab q ac n:=
 ind (λ_ _=>by kernel_rfl) λq ih ac n=>Eq.trans (b:=Ama x12 (λac n=>(z10 q) (t10 f a b ab ac n)) f a b ab ac n) B3 (by simp only[e12,ih]<;>rfl)
def k:KC_:=kk_ 188 H (u4 Xm) func188 (λx=>Eq.trans (b:=u4 (GN (λf a b ab ac n=>z10 Dt (t10 f a b ab ac n))) x) B3 (by simp only[i10,Bb]<;>rfl))
end F188
namespace F156
def H:=hd_ [.agg [Si,Si],.lf (.vec 16 (.int .i32)) none,Si,Sb] [Ow 21,Si] .d [F91.k,F184.k,F185.k,F186.k,F187.k,F188.k] f156
def k:KC_:=kk_ 156 H (u5 Kl) func156
end F156
namespace F205
abbrev R_:=Int
def H:=hd_ [Sl,Si] [Si] (.q (.cut [] [] (.q (.blk (.loop [0,1,7,8] [] .d))) .d)) [] f205
def t4(a:LI)(b f:Int):S:=⟨[(0,vl a),(1,vi b),(7,vi (Ac a)),(8,vi f)],[],[]⟩
def z4:ZT_ R_:=H.i P_ [r,l,r,d]
def x6:Option R_:=H.e P_ [r,r] ⟨[],[],[]⟩
theorem e6:x6=Aer:=B3
theorem i4(a:LI)(b:Int):∀(q:Nat) (f:Int),z4 q (t4 a b f)=Ch a b q f:=
 ind (λ_=>by kernel_rfl) λq ih f=>Eq.trans (b:=Fu x6 (λf=>(z4 q) (t4 a b f)) a b f) B3 (by simp only[e6,ih]<;>rfl)
def k:KC_:=kk_ 205 H (u2 Kw) func205 (λx=>Eq.trans (b:=u2 (Jd (λa b f=>z4 Dt (t4 a b f))) x) B3 (by simp only[i4,Bb]<;>rfl))
end F205
namespace F183
def H:=hd_ [Sl,Si] [Sz] .d [F205.k] f183
def k:KC_:=kk_ 183 H (u2 Iz) func183
end F183
namespace F150
def H:=hd_ [Si] [Sz] .d [F183.k] f150
def k:KC_:=kk_ 150 H Tr func150
end F150
namespace F110
def FO(j28:Bool->Int->Option Int)(w ah:Int)(g a:LB)(k p o u v b:Int)(m:Bool)(n:Int)(ao:LX)(f:LI)(h:LB):Option Int:=
if(Bd ah 0)then
(Ao ah).bind λ(br,bs)=>
j28 br bs
else
(Jy o ao).bind λ(bt,be)=>
if(Bd be 0)then
(Ao be).bind λ(bu,bv)=>
j28 bu bv
else
(Ds h bt).bind λdv=>
(λfa:Option Int=>
bo (
fa)) (
(Bm a w (Ac a)).bind λdw=>
j28 false 0)
theorem Bp4: @FO= @Zr:=by
  unfold FO Zr;simp only[kP,OH,QB]
def IL(j13:Bool->Int->Option Int)(j12:LB->LB->Int->Int->Int->Int->Int->Int->Bool->Int->LI->LB->Option Int)(j25:Bool->Int->Option Int)(j23:LB->LB->Int->Int->Int->Int->Int->Int->Bool->Int->LI->LB->Option Int)(j24:LB->LB->Int->Int->Int->Int->Int->Int->Bool->Int->LI->LB->Int->Option Int)(j28:Bool->Int->Option Int)(j26:Int->LB->LB->Int->Int->Int->Int->Int->Int->Bool->Int->LX->LI->LI->LB->Option Int)(j22:Bool->Option Int)(j21:Option Int)(aq ar:LB)(au av aw ax ay:Int)(az:LI)(ai:Int)(aj:LB)(ac:Bool)(y:Int):Option Int:=
if(Ei (Ac aq) 64)then
some 8
else
if((geq y 0)&&(!ac))then
(Eu aq ar au av aw ax ay az ai aj ac y).bind λ(g,a,k,p,o,u,v,f,b,h,m,n)=>
(BS aq ar au av aw ax ay az ai aj ac y).bind λbw=>
if bw then
if(geq k 0)then
(Jv a).bind λ(al,ba)=>
if(geq ba 24)then
j13 true 0
else
if(Bd ba 0)then
(Ao ba).bind λ(bx,bz)=>
j13 bx bz
else
(Bm a al (Ac a)).bind λda=>
(Tl da).bind λan=>
if an then
j13 true 0
else
(Bm a al (Ac a)).bind λdb=>
(Nn db).bind λ(ae,af,aa,ag,ab,bb)=>
if(geq bb 24)then
j13 true 0
else
if(Bd bb 0)then
(Ao bb).bind λ(dc,dd)=>
j13 dc dd
else
both (
(Bm a (Ad al 22) (Ac a)).bind λak=>
(λfb:Option Int=>
bo (
fb)) (
j12 g ak ae af aa ag ab b m n f h)) [
(Bm a (Ad al 22) (Ac a)).bind λak=>
j12 g ak ae af aa ag ab b m n f h]
else
if(geq (Ac f) 0)then
if(geq k 2)then
if(Ck (Ac a) 8)then
j25 true 0
else
j23 g a k p o u v b m n f h
else
j24 g a k p o u v b m n f h 0
else
if(Ck b (Ac f))then
(Am f b).bind λ_=>
(Am f b).bind λw=>
if(Ck (Ac a) w)then
j28 true 0
else
(Oe g).bind λ(ap,am)=>
if(Bd am 0)then
(Ao am).bind λ(de,df)=>
j28 de df
else
(Ee k p o u v).bind λ(ad,dg)=>
if((Bd dg 0)||(Mv b (Ac ad)))then
(Ao 8).bind λ(dh,di)=>
j28 dh di
else
j26 w g a k p o u v b m n ap ad f h
else
if(Ei (Ac a) 4000)then
(Ao 38).bind λ(dj,bf)=>
j22 ((dj==true)&&((geq bf 0)&&true))
else
j21
else
j22 false
else
if((geq (Ac ar) 0)&&(geq (Ac az) 0))then
if((((geq au 0)&&((geq av 0)&&((geq aw 0)&&((geq ax 0)&&((geq ay 0)&&true)))))&&(geq ai 0))&&(T9 (Ac aj) 12000))then
if(geq y 0)then
j22 true
else
if(!ac)then
(Tr y).bind λdk=>
j22 dk
else
j22 false
else
j22 false
else
if((false&&(geq ai 0))&&(T9 (Ac aj) 12000))then
if(geq y 0)then
j22 true
else
if(!ac)then
(Tr y).bind λdl=>
j22 dl
else
j22 false
else
j22 false
theorem Bqc: @IL= @CG:=by
  unfold IL CG
  try simp only[kP,OH,QB]
  all_goals
    repeat (refine funext λ_=>?_)
    repeat' first
      |with_reducible rfl
      |with_reducible refine Qx ?_ ?_
      |with_reducible refine Qj ?_ ?_ ?_
      |with_reducible refine Qz ?_ ?_ ?_ ?_
      |((with_reducible refine Xc ?_ ?_);focus (intro h;first|(subst h;rfl)|(simp only[h];rfl)|(simp[Ds,Ac,h];done)))
      |with_reducible refine We λx=>?_
      |with_reducible refine FY (λ_=>?_) (λ_=>?_)
      |(refine Jg (λh=>by simp only[h,Wu,Gg,Gb,ite_self]) (λx h=>?_);(try simp only[h,Gg]))
      |(refine My (λh=>?_) (λh=>?_)<;>simp only[h,if_true,if_false,Bool.false_eq_true])
abbrev R_:=Int
def H:=hd_ [.agg [Ss,Sb,.agg [Si,Si,Si,Si,Si],Sl,Si,Sb,Sz,Si]] [Si] (.q (.q (.q (.cut [3] [] (.q (.cond (.q (.keep [3,21,22,23,24,25] false)) .d)) .d)))) [F16.k,F57.k,F69.k,F114.k,⟨(117,EP),bW⟩,F118.k,F149.k,F150.k,F151.k,F152.k,F153.k,F154.k,F155.k,F156.k,F157.k] f110 false [(68,(.q (.cut [2] [] (.blk (.q (.cond (.cut [2] [] (.keep [2,11] true) .d) (.q (.cond (.cut [2] [] (.keep [2,20] true) .d) (.q (.cond (.cut [2] [] (.keep [2,33] true) .d) .d))))))) .d))),(111,(.q (.q (.q (.q (.q (.cut [0,2,5] [] (.mode false) .d))))))),(112,(.q (.q (.cut [0,2,3] [⟨0,[1],.ro (.int .u8)⟩] (.q (.cond (.q (.cut [0,2,3] [⟨0,[1],.ro (.int .u8)⟩,⟨9,[1],.ro (.int .u8)⟩,⟨10,[1],.ro (.int .u8)⟩,⟨15,[1],.ro (.int .u8)⟩,⟨16,[1],.ro (.int .u8)⟩,⟨18,[],.ro (.int .u8)⟩] .d (.cut [0,2,3,4,5] [] .d .d))) .d)) .d)))),(113,(.q (.q (.q (.q (.q (.q (.cut [0,2,3,4,6] [⟨0,[1],.ro (.int .u8)⟩,⟨9,[1],.ro (.int .u8)⟩,⟨10,[1],.ro (.int .u8)⟩,⟨13,[1],.ro (.int .u8)⟩,⟨14,[1],.ro (.int .u8)⟩,⟨19,[1],.ro (.int .u8)⟩,⟨20,[1],.ro (.int .u8)⟩,⟨22,[],.ro (.int .u8)⟩,⟨28,[1],.ro (.int .u8)⟩,⟨29,[1],.ro (.int .u8)⟩,⟨40,[1],.ro (.int .u8)⟩,⟨41,[1],.ro (.int .u8)⟩] .d (.cut [0,2,3,5,7] [] .d (.q (.q (.q (.q (.seq (.mode false) .d))))))))))))))]
def x22(bi:Bool):Option R_:=H.e P_ [r,r,r,r] ⟨[(3,vt bi)],[],[]⟩
def x21:Option R_:=H.e P_ [r,r,r,l,r,l,r,(dcall 3 68 3 #[true,true,true,true,true,true,true,true] #[true,true,true,true,true,false,false,false]),r,r] ⟨[(2,.ptr 0 [])],[.box 122 (.agg [vt false,vi 0])],[[(3,vt false),(21,.cst (.bool true)),(23,.agg [vt true,vi 0])]]⟩
def x13(bj:Bool)(bk:Int):Option R_:=H.e P_ [r,r,r,l,r,l,r,(dcall 3 68 3 #[true,true,true,true,true,true,true,true] #[true,true,true,true,true,false,false,false]),r,l,d,r,l,r] ⟨[(2,.ptr 0 [])],[.box 122 (.agg [vt bj,vi bk])],[[(3,vt false),(21,.cst (.bool true)),(23,.agg [vt true,vi 0])]]⟩
def x12(g ak:LB)(ae af aa ag ab b:Int)(m:Bool)(n:Int)(f:LI)(h:LB):Option R_:=H.e P_ [r,r,r,l,r,l,r,(dcall 3 68 3 #[true,true,true,true,true,true,true,true] #[true,true,true,true,true,false,false,false]),r,l,d,r,l,l,(call 1 111),r,r,r,r,r,r] ⟨[(0,.ptr 0 []),(2,.ptr 1 []),(5,.ptr 2 [])],[.box 64 (.agg [vs g,vb ak,.agg [vi ae,vi af,vi aa,vi ag,vi ab],.own 4,vi b,.own 5,vt m,vi n]),.box 122 (.agg [vt false,vi 0]),.box 51 (.agg [vi ae,vi af,vi aa,vi ag,vi ab]),.box 122 (.agg [vt false,vi 0]),Ai 3 f,Ab 5 h],[[(2,.ptr 3 [])],[(3,vt false),(21,.cst (.bool true)),(23,.agg [vt true,vi 0])]]⟩
def x25(bl:Bool)(bm:Int):Option R_:=H.e P_ [r,r,r,l,r,l,r,(dcall 3 68 3 #[true,true,true,true,true,true,true,true] #[true,true,true,true,true,false,false,false]),r,l,d,r,r,r,l,r] ⟨[(2,.ptr 0 [])],[.box 122 (.agg [vt bl,vi bm])],[[(3,vt false),(21,.cst (.bool true)),(23,.agg [vt true,vi 0])]]⟩
def x24(g a:LB)(k p o u v b:Int)(m:Bool)(n:Int)(f:LI)(h:LB)(bg:Int):Option R_:=H.e P_ [r,r,r,l,r,l,r,(dcall 3 68 3 #[true,true,true,true,true,true,true,true] #[true,true,true,true,true,false,false,false]),r,l,d,r,r,r,l,l,(call 1 112),r,r,r] ⟨[(0,.ptr 0 []),(2,.ptr 1 []),(3,vi bg)],[.box 64 (.agg [vs g,vb a,.agg [vi k,vi p,vi o,vi u,vi v],.own 3,vi b,.own 4,vt m,vi n]),.box 122 (.agg [vt false,vi 0]),.box 122 (.agg [vt false,vi 0]),Ai 3 f,Ab 5 h],[[(2,.ptr 2 [])],[(3,vt false),(21,.cst (.bool true)),(23,.agg [vt true,vi 0])]]⟩
def x15(bd:Bool)(bc:Int)(g a:LB)(k p o u v b:Int)(m:Bool)(n:Int)(f:LI)(h:LB):Option R_:=H.e P_ [r,r,r,l,r,l,r,(dcall 3 68 3 #[true,true,true,true,true,true,true,true] #[true,true,true,true,true,false,false,false]),r,l,d,r,r,r,l,l,(call 1 112),r,r,l,r,l,r,r,r] ⟨[(0,.ptr 0 []),(2,.ptr 1 []),(3,vi 8),(4,vt bd),(5,vi bc)],[.box 64 (.agg [vs g,vb a,.agg [vi k,vi p,vi o,vi u,vi v],.own 3,vi b,.own 4,vt m,vi n]),.box 122 (.agg [vt false,vi 0]),.box 122 (.agg [vt false,vi 0]),Ai 3 f,Ab 5 h],[[(2,.ptr 2 [])],[(3,vt false),(21,.cst (.bool true)),(23,.agg [vt true,vi 0])]]⟩
def x23(g a:LB)(k p o u v b:Int)(m:Bool)(n:Int)(f:LI)(h:LB):Option R_:=H.e P_ [r,r,r,l,r,l,r,(dcall 3 68 3 #[true,true,true,true,true,true,true,true] #[true,true,true,true,true,false,false,false]),r,l,d,r,r,r,l,l,(call 1 112),r,r,l,r,l,r,r] ⟨[(0,.ptr 0 []),(2,.ptr 1 []),(3,vi 8)],[.box 64 (.agg [vs g,vb a,.agg [vi k,vi p,vi o,vi u,vi v],.own 3,vi b,.own 4,vt m,vi n]),.box 122 (.agg [vt false,vi 0]),.box 122 (.agg [vt false,vi 0]),Ai 3 f,Ab 5 h],[[(2,.ptr 2 [])],[(3,vt false),(21,.cst (.bool true)),(23,.agg [vt true,vi 0])]]⟩
def x28(bp:Bool)(bq:Int):Option R_:=H.e P_ [r,r,r,l,r,l,r,(dcall 3 68 3 #[true,true,true,true,true,true,true,true] #[true,true,true,true,true,false,false,false]),r,l,d,r,r,r,r,r,l,r] ⟨[(2,.ptr 0 [])],[.box 122 (.agg [vt bp,vi bq])],[[(3,vt false),(21,.cst (.bool true)),(23,.agg [vt true,vi 0])]]⟩
def x27(w ah:Int)(g a:LB)(k p o u v b:Int)(m:Bool)(n:Int)(ao:LX)(f:LI)(h:LB):Option R_:=H.e P_ [r,r,r,l,r,l,r,(dcall 3 68 3 #[true,true,true,true,true,true,true,true] #[true,true,true,true,true,false,false,false]),r,l,d,r,r,r,r,r,l,l,(call 1 113),r,r,r,r,r,r,r,r] ⟨[(0,.ptr 0 []),(2,.ptr 1 []),(3,vi w),(5,vi ah),(7,.own 2)],[.box 64 (.agg [vs g,vb a,.agg [vi k,vi p,vi o,vi u,vi v],.own 4,vi b,.own 5,vt m,vi n]),.box 122 (.agg [vt false,vi 0]),Aw 21 ao,.box 122 (.agg [vt false,vi 0]),Ai 3 f,Ab 5 h],[[(2,.ptr 3 [])],[(3,vt false),(21,.cst (.bool true)),(23,.agg [vt true,vi 0])]]⟩
def x26(w:Int)(g a:LB)(k p o u v b:Int)(m:Bool)(n:Int)(ap:LX)(ad f:LI)(h:LB):Option R_:=H.e P_ [r,r,r,l,r,l,r,(dcall 3 68 3 #[true,true,true,true,true,true,true,true] #[true,true,true,true,true,false,false,false]),r,l,d,r,r,r,r,r,l,l,(call 1 113),r,r,r,r,r,r,r] ⟨[(0,.ptr 0 []),(2,.ptr 1 []),(3,vi w),(4,.ptr 2 []),(6,.own 3)],[.box 64 (.agg [vs g,vb a,.agg [vi k,vi p,vi o,vi u,vi v],.own 5,vi b,.own 6,vt m,vi n]),.box 122 (.agg [vt false,vi 0]),.box 103 (.val (.vec 16 (.int .i32)) ap),Ai 3 ad,.box 122 (.agg [vt false,vi 0]),Ai 3 f,Ab 5 h],[[(2,.ptr 4 [])],[(3,vt false),(21,.cst (.bool true)),(23,.agg [vt true,vi 0])]]⟩
theorem e22:x22=By:=B3
theorem e21:x21=Zo:=Eq.trans (b:=LO x22) B3 (by simp only[e22]<;>rfl)
theorem e13:x13=Fs:=Eq.trans (b:=IG x22) B3 (by simp only[e22]<;>rfl)
theorem e12:x12=Zg:=Eq.trans (b:=MP x13) B3 (by simp only[e13]<;>rfl)
theorem e25:x25=Kx:=Eq.trans (b:=JX x22) B3 (by simp only[e22]<;>rfl)
theorem e24:x24=Li:=Eq.trans (b:=IZ x25) B3 (by simp only[e25]<;>rfl)
theorem e15:x15=MB:=Eq.trans (b:=JJ x25 x24) B3 (by simp only[e25,e24]<;>rfl)
theorem e23:x23=Zd:=Eq.trans (b:=ML x15) B3 (by simp only[e15]<;>rfl)
theorem e28:x28=Iu:=Eq.trans (b:=IY x22) B3 (by simp only[e22]<;>rfl)
theorem e27:x27=MV:=Eq.trans (b:=FO x28) B3 (by rw[Bp4];simp only[e28]<;>rfl)
theorem e26:x26=Zb:=Eq.trans (b:=KU x27) B3 (by simp only[e27]<;>rfl)
def k:KC_:=kk_ 110 H (u12 Pz) func110 (λx=>Eq.trans (b:=u12 (IL x13 x12 x25 x23 x24 x28 x26 x22 x21) x) B3 (by rw[Bqc];simp only[e13,e12,e25,e23,e24,e28,e26,e22,e21]<;>rfl))
end F110
namespace F67
def KW(f g:LB)(h k m n o:Int)(p:LI)(u:Int)(v:LB)(b:Bool)(a:Int):Option (LB×LB×Int×Int×Int×Int×Int×LI×Int×LB×Bool×Int×Int):=
(Pz f g h k m n o p u v b a).bind λw=>
if(Bd w 0)then
some (([]:LB),([]:LB),0,0,0,0,0,([]:LI),0,([]:LB),false,0,w)
else
if(Bd a 0)then
(λbl:Option (LB×LB×Int×Int×Int×Int×Int×LI×Int×LB×Bool×Int×Int)=>
both (
both (
(Eu f g h k m n o p u v b a).bind λ(y,aa,ab,ac,ad,ae,af,ag,ah,ai,aj,ak)=>
(λbm:Option (LB×LB×Int×Int×Int×Int×Int×LI×Int×LB×Bool×Int×Int)=>
bo (
bm)) (
some (y,aa,ab,ac,ad,ae,af,ag,ah,ai,aj,ak,a))) [
bl]) [
bl]) (
(Eu f g h k m n o p u v b a).bind λ(y,aa,ab,ac,ad,ae,af,ag,ah,ai,aj,ak)=>
some (y,aa,ab,ac,ad,ae,af,ag,ah,ai,aj,ak,a))
else
if b then
(Eu f g h k m n o p u v b a).bind λ(al,am,an,ao,ap,aq,ar,au,av,aw,ax,ay)=>
some (al,am,an,ao,ap,aq,ar,au,av,aw,ax,ay,36)
else
(Eu f g h k m n o p u v b a).bind λ(az,ba,bb,bc,bd,be,bf,bg,bh,bi,bj,bk)=>
some (az,ba,bb,bc,bd,be,bf,bg,bh,bi,bj,bk,0)
theorem Bpw: @KW= @Ty:=by
  unfold KW Ty
  try simp only[kP,OH,QB]
  all_goals
    repeat (refine funext λ_=>?_)
    repeat' first
      |with_reducible rfl
      |with_reducible refine Qx ?_ ?_
      |with_reducible refine Qj ?_ ?_ ?_
      |with_reducible refine Qz ?_ ?_ ?_ ?_
      |((with_reducible refine Xc ?_ ?_);focus (intro h;first|(subst h;rfl)|(simp only[h];rfl)|(simp[Ds,Ac,h];done)))
      |with_reducible refine We λx=>?_
      |with_reducible refine FY (λ_=>?_) (λ_=>?_)
      |(refine Jg (λh=>by simp only[h,Wu,Gg,Gb,ite_self]) (λx h=>?_);(try simp only[h,Gg]))
      |(refine My (λh=>?_) (λh=>?_)<;>simp only[h,if_true,if_false,Bool.false_eq_true])
def H:=hd_ [.agg [Ss,Sb,.agg [Si,Si,Si,Si,Si],Sl,Si,Sb,Sz,Si]] [.agg [Ss,Ob 5,.agg [Si,Si,Si,Si,Si],Ol 3,Si,Ob 5,Sz,Si],Si] (.q (.q (.seq (.blk (.q (.cond (.seq (.mode false) .d) .d))) .d))) [F69.k,F110.k] f67
def k:KC_:=kk_ 67 H (u12 Ty) func67 (λx=>Eq.trans (b:=u12 KW x) B3 (by simp only[Bpw]<;>rfl))
end F67
namespace F70
def H:=hd_ [.agg [Ss,Sb,.agg [Si,Si,Si,Si,Si],Sl,Si,Sb,Sz,Si],Si] [.agg [Ss,Ob 5,.agg [Si,Si,Si,Si,Si],Ol 3,Si,Sb,Sz,Si],Si] .d [] f70
def k:KC_:=kk_ 70 H (u13 YC) func70
end F70
namespace F31
def MY(j78:Int->Int->Int->Int->Int->LI->Bool->Int->LB->Int->LB->Option (LB×LB×Int×Int×Int×Int×Int×LI×Int×LB×Bool×Int×Int))(a:LB)(b:Bool)(f w ag:Int)(g:LB)(m p o u v h:Int)(am:LX)(k:LI)(n:LB):Option (LB×LB×Int×Int×Int×Int×Int×LI×Int×LB×Bool×Int×Int):=
if(Bd ag 0)then
(Ao ag).bind λ(dd,de)=>
j78 m p o u v k dd de g h n
else
(Jy o am).bind λ(df,aj)=>
if(Bd aj 0)then
(Ao aj).bind λ(dg,dh)=>
j78 m p o u v k dg dh g h n
else
(Ds n df).bind λdi=>
(λhb:Option (LB×LB×Int×Int×Int×Int×Int×LI×Int×LB×Bool×Int×Int)=>
bo (
hb)) (
(Bm g w (Ac g)).bind λdj=>
j78 m p o u v k false 0 dj (Ad h 1) di)
theorem Bpo: @MY= @CE:=by
  unfold MY CE;simp only[kP,OH,QB]
def IK(j62:Int->LI->LB->Bool->Int->LB->Int->Int->Int->Int->Int->Option (LB×LB×Int×Int×Int×Int×Int×LI×Int×LB×Bool×Int×Int))(j61:LB->Int->Int->Int->Int->Int->Int->LI->LB->Option (LB×LB×Int×Int×Int×Int×Int×LI×Int×LB×Bool×Int×Int))(j75:Int->Int->Int->Int->Int->Int->LB->Bool->Int->LB->LI->Option (LB×LB×Int×Int×Int×Int×Int×LI×Int×LB×Bool×Int×Int))(j73:LB->Int->Int->Int->Int->Int->Int->LI->LB->Option (LB×LB×Int×Int×Int×Int×Int×LI×Int×LB×Bool×Int×Int))(j74:LB->Int->Int->Int->Int->Int->Int->LI->LB->Int->Option (LB×LB×Int×Int×Int×Int×Int×LI×Int×LB×Bool×Int×Int))(j78:Int->Int->Int->Int->Int->LI->Bool->Int->LB->Int->LB->Option (LB×LB×Int×Int×Int×Int×Int×LI×Int×LB×Bool×Int×Int))(j76:Int->LB->Int->Int->Int->Int->Int->Int->LX->LI->LI->LB->Option (LB×LB×Int×Int×Int×Int×Int×LI×Int×LB×Bool×Int×Int))(j71:LB->Int->Int->Int->Int->Int->Int->Bool->Int->LI->LB->Option (LB×LB×Int×Int×Int×Int×Int×LI×Int×LB×Bool×Int×Int))(j70:LB->Int->Int->Int->Int->Int->Int->LI->LB->Option (LB×LB×Int×Int×Int×Int×Int×LI×Int×LB×Bool×Int×Int))(a:LB)(b:Bool)(f:Int)(g:LB)(m p o u v h:Int)(k:LI)(n:LB):Option (LB×LB×Int×Int×Int×Int×Int×LI×Int×LB×Bool×Int×Int):=
if(geq m 0)then
(Jv g).bind λ(ah,ao)=>
if(geq ao 24)then
j62 h k n true 0 g m p o u v
else
if(Bd ao 0)then
(Ao ao).bind λ(dk,dl)=>
j62 h k n dk dl g m p o u v
else
(Bm g ah (Ac g)).bind λdm=>
(Tl dm).bind λal=>
if al then
j62 h k n true 0 g m p o u v
else
(Bm g ah (Ac g)).bind λdn=>
(Nn dn).bind λ(ab,ac,y,ad,aa,ap)=>
if(geq ap 24)then
j62 h k n true 0 g m p o u v
else
if(Bd ap 0)then
(Ao ap).bind λ(dp,dq)=>
j62 h k n dp dq g m p o u v
else
both (
(Bm g (Ad ah 22) (Ac g)).bind λaf=>
bo (
j61 af ab ac y ad aa h k n)) [
(Bm g (Ad ah 22) (Ac g)).bind λaf=>
j61 af ab ac y ad aa h k n]
else
if(geq (Ac k) 0)then
if(geq m 2)then
if(Ck (Ac g) 8)then
j75 m p o u v h n true 0 g k
else
j73 g m p o u v h k n
else
j74 g m p o u v h k n 0
else
if(Ck h (Ac k))then
(Am k h).bind λ_=>
(Am k h).bind λw=>
if(Ck (Ac g) w)then
j78 m p o u v k true 0 g h n
else
(Oe a).bind λ(an,ak)=>
if(Bd ak 0)then
(Ao ak).bind λ(dr,ds)=>
j78 m p o u v k dr ds g h n
else
(Ee m p o u v).bind λ(ae,dt)=>
if((Bd dt 0)||(Mv h (Ac ae)))then
(Ao 8).bind λ(du,bc)=>
j78 m p o u v k du bc g h n
else
j76 w g m p o u v h an ae k n
else
if(Ei (Ac g) 4000)then
(Ao 38).bind λ(dv,ai)=>
j71 g m p o u v h dv ai k n
else
j70 g m p o u v h k n
theorem Bqa: @IK= @Jo:=by
  unfold IK Jo
  repeat (refine funext λ_=>?_)
  repeat' first
    |with_reducible rfl
    |with_reducible refine Qx ?_ ?_
    |with_reducible refine Qj ?_ ?_ ?_
    |with_reducible refine Qz ?_ ?_ ?_ ?_
    |((with_reducible refine Xc ?_ ?_);focus (intro h;first|(subst h;rfl)|(simp only[h];rfl)|(simp[Ds,Ac,h];done)))
    |with_reducible refine We λx=>?_
    |with_reducible refine FY (λ_=>?_) (λ_=>?_)
    |(refine Jg (λh=>by simp only[h,Wu,Gg,Gb,ite_self]) (λx h=>?_);(try simp only[h,Gg]))
    |(refine My (λh=>?_) (λh=>?_)<;>simp only[h,if_true,if_false,Bool.false_eq_true])
abbrev R_:=(LB×LB×Int×Int×Int×Int×Int×LI×Int×LB×Bool×Int×Int)
abbrev K_:=S->Option R_
def H:=hd_ [.agg [Ss,Sb,.agg [Si,Si,Si,Si,Si],Sl,Si,Sb,Sz,Si],Sb] [.agg [Ss,Ob 5,.agg [Si,Si,Si,Si,Si],Ol 3,Si,Sb,Sz,Si],Si] (.q (.q (.q (.q (.blk (.loop [2,4] [⟨2,[1],.ro (.int .u8)⟩] (.blk (.cut [2,4,7] [] (.keep [2,4,7,22] true) .d)))))))) [F16.k,F57.k,F67.k,F69.k,F70.k,F114.k,⟨(117,EP),bW⟩,F118.k,F151.k,F152.k,F153.k,F154.k,F155.k,F156.k,F157.k] f31 false [(68,(.q (.cut [2] [] (.blk (.q (.cond (.cut [2] [] (.keep [2,11] true) .d) (.q (.cond (.cut [2] [] (.keep [2,20] true) .d) (.q (.cond (.cut [2] [] (.keep [2,33] true) .d) .d))))))) .d))),(111,(.q (.q (.q (.q (.q (.cut [0,2,5] [] (.mode false) .d))))))),(112,(.q (.q (.cut [0,2,3] [] (.q (.cond (.q (.cut [0,2,3] [⟨0,[1],.ro (.int .u8)⟩,⟨9,[1],.ro (.int .u8)⟩,⟨10,[1],.ro (.int .u8)⟩,⟨15,[1],.ro (.int .u8)⟩,⟨16,[1],.ro (.int .u8)⟩,⟨18,[],.ro (.int .u8)⟩] .d (.cut [0,2,3,4,5] [] .d .d))) .d)) .d)))),(113,(.q (.q (.q (.q (.q (.q (.cut [0,2,3,4,6] [⟨0,[1],.ro (.int .u8)⟩,⟨9,[1],.ro (.int .u8)⟩,⟨10,[1],.ro (.int .u8)⟩,⟨13,[1],.ro (.int .u8)⟩,⟨14,[1],.ro (.int .u8)⟩,⟨19,[1],.ro (.int .u8)⟩,⟨20,[1],.ro (.int .u8)⟩,⟨22,[],.ro (.int .u8)⟩,⟨28,[1],.ro (.int .u8)⟩,⟨29,[1],.ro (.int .u8)⟩,⟨40,[1],.ro (.int .u8)⟩,⟨41,[1],.ro (.int .u8)⟩] .d (.cut [0,2,3,5,7] [] .d (.q (.q (.q (.q (.seq (.mode false) .d))))))))))))))]
def t37(a:LB)(b:Bool)(f:Int)(g:LB)(m p o u v h:Int)(k:LI)(n:LB):S:=⟨[(2,.ptr 0 []),(4,.ptr 1 [])],[.box 64 (.agg [vs a,vb g,.agg [vi m,vi p,vi o,vi u,vi v],.own 2,vi h,.own 3,vt b,vi f]),.box 64 (.agg [vs ([]:LB),.nils,.agg [vi 0,vi 0,vi 0,vi 0,vi 0],.nils,vi 0,.nils,vt false,vi 0]),Ai 3 k,Ab 5 n],[]⟩
def z37:ZT_ R_:=H.i P_ [r,r,r,r,d]
def x71(Jf:K_)(a:LB)(b:Bool)(f:Int)(ar:LB)(au av aw ax ay az:Int)(bh:Bool)(be:Int)(ba:LI)(bb:LB):Option R_:=H.e P_ [r,r,r,r,d,(lp Jf),d,r] ⟨[(2,.ptr 0 []),(4,.ptr 1 []),(7,.ptr 2 [])],[.box 64 (.agg [vs a,vb ar,.agg [vi au,vi av,vi aw,vi ax,vi ay],.own 3,vi az,.own 4,vt b,vi f]),.box 64 (.agg [vs ([]:LB),.nils,.agg [vi 0,vi 0,vi 0,vi 0,vi 0],.nils,vi 0,.nils,vt false,vi 0]),.box 122 (.agg [vt bh,vi be]),Ai 3 ba,Ab 5 bb],[]⟩
def x70(Jf:K_)(a:LB)(b:Bool)(f:Int)(g:LB)(m p o u v h:Int)(k:LI)(n:LB):Option R_:=H.e P_ [r,r,r,r,d,(lp Jf),d,l,(call 0 68),r,r] ⟨[(2,.ptr 0 [])],[.box 122 (.agg [vt false,vi 0]),.box 64 (.agg [vs a,vb g,.agg [vi m,vi p,vi o,vi u,vi v],.own 3,vi h,.own 4,vt b,vi f]),.box 64 (.agg [vs ([]:LB),.nils,.agg [vi 0,vi 0,vi 0,vi 0,vi 0],.nils,vi 0,.nils,vt false,vi 0]),Ai 3 k,Ab 5 n],[[(2,.ptr 1 []),(4,.ptr 2 [])]]⟩
def x62(Jf:K_)(a:LB)(b:Bool)(f h:Int)(k:LI)(n:LB)(bj:Bool)(bk:Int)(bl:LB)(bm bn bp bq br:Int):Option R_:=H.e P_ [r,r,r,r,d,(lp Jf),d,l,(call 0 68),r,l,d,r,l,r] ⟨[(2,.ptr 0 [])],[.box 122 (.agg [vt bj,vi bk]),.box 64 (.agg [vs a,vb bl,.agg [vi bm,vi bn,vi bp,vi bq,vi br],.own 3,vi h,.own 4,vt b,vi f]),.box 64 (.agg [vs ([]:LB),.nils,.agg [vi 0,vi 0,vi 0,vi 0,vi 0],.nils,vi 0,.nils,vt false,vi 0]),Ai 3 k,Ab 5 n],[[(2,.ptr 1 []),(4,.ptr 2 [])]]⟩
def x61(Jf:K_)(a:LB)(b:Bool)(f:Int)(af:LB)(ab ac y ad aa h:Int)(k:LI)(n:LB):Option R_:=H.e P_ [r,r,r,r,d,(lp Jf),d,l,(call 0 68),r,l,d,r,l,l,(call 1 111),r,r,r,r,r,r] ⟨[(0,.ptr 0 []),(2,.ptr 1 []),(5,.ptr 2 [])],[.box 64 (.agg [vs a,vb af,.agg [vi ab,vi ac,vi y,vi ad,vi aa],.own 5,vi h,.own 6,vt b,vi f]),.box 122 (.agg [vt false,vi 0]),.box 51 (.agg [vi ab,vi ac,vi y,vi ad,vi aa]),.box 122 (.agg [vt false,vi 0]),.box 64 (.agg [vs ([]:LB),.nils,.agg [vi 0,vi 0,vi 0,vi 0,vi 0],.nils,vi 0,.nils,vt false,vi 0]),Ai 3 k,Ab 5 n],[[(2,.ptr 3 [])],[(2,.ptr 0 []),(4,.ptr 4 [])]]⟩
def x75(Jf:K_)(a:LB)(b:Bool)(f m p o u v h:Int)(n:LB)(bs:Bool)(bt:Int)(bu:LB)(bv:LI):Option R_:=H.e P_ [r,r,r,r,d,(lp Jf),d,l,(call 0 68),r,l,d,r,r,r,l,r] ⟨[(2,.ptr 0 [])],[.box 122 (.agg [vt bs,vi bt]),.box 64 (.agg [vs a,vb bu,.agg [vi m,vi p,vi o,vi u,vi v],.own 3,vi h,.own 4,vt b,vi f]),.box 64 (.agg [vs ([]:LB),.nils,.agg [vi 0,vi 0,vi 0,vi 0,vi 0],.nils,vi 0,.nils,vt false,vi 0]),Ai 3 bv,Ab 5 n],[[(2,.ptr 1 []),(4,.ptr 2 [])]]⟩
def x74(Jf:K_)(a:LB)(b:Bool)(f:Int)(g:LB)(m p o u v h:Int)(k:LI)(n:LB)(bf:Int):Option R_:=H.e P_ [r,r,r,r,d,(lp Jf),d,l,(call 0 68),r,l,d,r,r,r,l,l,(call 1 112),r,r,r] ⟨[(0,.ptr 0 []),(2,.ptr 1 []),(3,vi bf)],[.box 64 (.agg [vs a,vb g,.agg [vi m,vi p,vi o,vi u,vi v],.own 4,vi h,.own 5,vt b,vi f]),.box 122 (.agg [vt false,vi 0]),.box 122 (.agg [vt false,vi 0]),.box 64 (.agg [vs ([]:LB),.nils,.agg [vi 0,vi 0,vi 0,vi 0,vi 0],.nils,vi 0,.nils,vt false,vi 0]),Ai 3 k,Ab 5 n],[[(2,.ptr 2 [])],[(2,.ptr 0 []),(4,.ptr 3 [])]]⟩
def x64(Jf:K_)(a:LB)(b:Bool)(f:Int)(bd:Bool)(aq:Int)(g:LB)(m p o u v h:Int)(k:LI)(n:LB):Option R_:=H.e P_ [r,r,r,r,d,(lp Jf),d,l,(call 0 68),r,l,d,r,r,r,l,l,(call 1 112),r,r,l,r,l,r,r,r] ⟨[(0,.ptr 0 []),(2,.ptr 1 []),(3,vi 8),(4,vt bd),(5,vi aq)],[.box 64 (.agg [vs a,vb g,.agg [vi m,vi p,vi o,vi u,vi v],.own 4,vi h,.own 5,vt b,vi f]),.box 122 (.agg [vt false,vi 0]),.box 122 (.agg [vt false,vi 0]),.box 64 (.agg [vs ([]:LB),.nils,.agg [vi 0,vi 0,vi 0,vi 0,vi 0],.nils,vi 0,.nils,vt false,vi 0]),Ai 3 k,Ab 5 n],[[(2,.ptr 2 [])],[(2,.ptr 0 []),(4,.ptr 3 [])]]⟩
def x73(Jf:K_)(a:LB)(b:Bool)(f:Int)(g:LB)(m p o u v h:Int)(k:LI)(n:LB):Option R_:=H.e P_ [r,r,r,r,d,(lp Jf),d,l,(call 0 68),r,l,d,r,r,r,l,l,(call 1 112),r,r,l,r,l,r,r] ⟨[(0,.ptr 0 []),(2,.ptr 1 []),(3,vi 8)],[.box 64 (.agg [vs a,vb g,.agg [vi m,vi p,vi o,vi u,vi v],.own 4,vi h,.own 5,vt b,vi f]),.box 122 (.agg [vt false,vi 0]),.box 122 (.agg [vt false,vi 0]),.box 64 (.agg [vs ([]:LB),.nils,.agg [vi 0,vi 0,vi 0,vi 0,vi 0],.nils,vi 0,.nils,vt false,vi 0]),Ai 3 k,Ab 5 n],[[(2,.ptr 2 [])],[(2,.ptr 0 []),(4,.ptr 3 [])]]⟩
def x78(Jf:K_)(a:LB)(b:Bool)(f m p o u v:Int)(k:LI)(bx:Bool)(bz:Int)(da:LB)(db:Int)(dc:LB):Option R_:=H.e P_ [r,r,r,r,d,(lp Jf),d,l,(call 0 68),r,l,d,r,r,r,r,r,l,r] ⟨[(2,.ptr 0 [])],[.box 122 (.agg [vt bx,vi bz]),.box 64 (.agg [vs a,vb da,.agg [vi m,vi p,vi o,vi u,vi v],.own 3,vi db,.own 4,vt b,vi f]),.box 64 (.agg [vs ([]:LB),.nils,.agg [vi 0,vi 0,vi 0,vi 0,vi 0],.nils,vi 0,.nils,vt false,vi 0]),Ai 3 k,Ab 5 dc],[[(2,.ptr 1 []),(4,.ptr 2 [])]]⟩
def x77(Jf:K_)(a:LB)(b:Bool)(f w ag:Int)(g:LB)(m p o u v h:Int)(am:LX)(k:LI)(n:LB):Option R_:=H.e P_ [r,r,r,r,d,(lp Jf),d,l,(call 0 68),r,l,d,r,r,r,r,r,l,l,(call 1 113),r,r,r,r,r,r,r,r] ⟨[(0,.ptr 0 []),(2,.ptr 1 []),(3,vi w),(5,vi ag),(7,.own 2)],[.box 64 (.agg [vs a,vb g,.agg [vi m,vi p,vi o,vi u,vi v],.own 5,vi h,.own 6,vt b,vi f]),.box 122 (.agg [vt false,vi 0]),Aw 21 am,.box 122 (.agg [vt false,vi 0]),.box 64 (.agg [vs ([]:LB),.nils,.agg [vi 0,vi 0,vi 0,vi 0,vi 0],.nils,vi 0,.nils,vt false,vi 0]),Ai 3 k,Ab 5 n],[[(2,.ptr 3 [])],[(2,.ptr 0 []),(4,.ptr 4 [])]]⟩
def x76(Jf:K_)(a:LB)(b:Bool)(f w:Int)(g:LB)(m p o u v h:Int)(an:LX)(ae k:LI)(n:LB):Option R_:=H.e P_ [r,r,r,r,d,(lp Jf),d,l,(call 0 68),r,l,d,r,r,r,r,r,l,l,(call 1 113),r,r,r,r,r,r,r] ⟨[(0,.ptr 0 []),(2,.ptr 1 []),(3,vi w),(4,.ptr 2 []),(6,.own 3)],[.box 64 (.agg [vs a,vb g,.agg [vi m,vi p,vi o,vi u,vi v],.own 6,vi h,.own 7,vt b,vi f]),.box 122 (.agg [vt false,vi 0]),.box 103 (.val (.vec 16 (.int .i32)) an),Ai 3 ae,.box 122 (.agg [vt false,vi 0]),.box 64 (.agg [vs ([]:LB),.nils,.agg [vi 0,vi 0,vi 0,vi 0,vi 0],.nils,vi 0,.nils,vt false,vi 0]),Ai 3 k,Ab 5 n],[[(2,.ptr 4 [])],[(2,.ptr 0 []),(4,.ptr 5 [])]]⟩
theorem e71(Jf:K_)(a:LB)(b:Bool)(f:Int):x71 Jf a b f=Cs (λg m p o u v h k n=>Jf (t37 a b f g m p o u v h k n)) a b f:=B3
theorem e70(Jf:K_)(a:LB)(b:Bool)(f:Int):x70 Jf a b f=CK (λg m p o u v h k n=>Jf (t37 a b f g m p o u v h k n)) a b f:=Eq.trans (b:=Bd9 (x71 Jf a b f) a b f) B3 (by simp only[e71]<;>rfl)
theorem e62(Jf:K_)(a:LB)(b:Bool)(f:Int):x62 Jf a b f=Qh (λg m p o u v h k n=>Jf (t37 a b f g m p o u v h k n)) a b f:=Eq.trans (b:=Bb0 (x71 Jf a b f) a b f) B3 (by simp only[e71]<;>rfl)
theorem e61(Jf:K_)(a:LB)(b:Bool)(f:Int):x61 Jf a b f=Uq (λg m p o u v h k n=>Jf (t37 a b f g m p o u v h k n)) a b f:=Eq.trans (b:=QG (x62 Jf a b f) a b f) B3 (by simp only[e62]<;>rfl)
theorem e75(Jf:K_)(a:LB)(b:Bool)(f:Int):x75 Jf a b f=Mx (λg m p o u v h k n=>Jf (t37 a b f g m p o u v h k n)) a b f:=Eq.trans (b:=Ba9 (x71 Jf a b f) a b f) B3 (by simp only[e71]<;>rfl)
theorem e74(Jf:K_)(a:LB)(b:Bool)(f:Int):x74 Jf a b f=Nd (λg m p o u v h k n=>Jf (t37 a b f g m p o u v h k n)) a b f:=Eq.trans (b:=QM (x75 Jf a b f) a b f) B3 (by simp only[e75]<;>rfl)
theorem e64(Jf:K_)(a:LB)(b:Bool)(f:Int):x64 Jf a b f=OI (λg m p o u v h k n=>Jf (t37 a b f g m p o u v h k n)) a b f:=Eq.trans (b:=QF (x75 Jf a b f) (x74 Jf a b f) a b f) B3 (by simp only[e75,e74]<;>rfl)
theorem e73(Jf:K_)(a:LB)(b:Bool)(f:Int):x73 Jf a b f=Us (λg m p o u v h k n=>Jf (t37 a b f g m p o u v h k n)) a b f:=Eq.trans (b:=OQ (x64 Jf a b f) a b f) B3 (by simp only[e64]<;>rfl)
theorem e78(Jf:K_)(a:LB)(b:Bool)(f:Int):x78 Jf a b f=Qg (λg m p o u v h k n=>Jf (t37 a b f g m p o u v h k n)) a b f:=Eq.trans (b:=Ayl (x71 Jf a b f) a b f) B3 (by simp only[e71]<;>rfl)
theorem e77(Jf:K_)(a:LB)(b:Bool)(f:Int):x77 Jf a b f=PL (λg m p o u v h k n=>Jf (t37 a b f g m p o u v h k n)) a b f:=Eq.trans (b:=MY (x78 Jf a b f) a b f) B3 (by rw[Bpo];simp only[e78]<;>rfl)
theorem e76(Jf:K_)(a:LB)(b:Bool)(f:Int):x76 Jf a b f=Vv (λg m p o u v h k n=>Jf (t37 a b f g m p o u v h k n)) a b f:=Eq.trans (b:=OP (x77 Jf a b f) a b f) B3 (by simp only[e77]<;>rfl)
theorem i37(a:LB)(b:Bool)(f:Int):∀(q:Nat) (g:LB) (m p o u v h:Int) (k:LI) (n:LB),z37 q (t37 a b f g m p o u v h k n)=Bf a b f q g m p o u v h k n:=
 ind (λ_ _ _ _ _ _ _ _ _=>by kernel_rfl) λq ih g m p o u v h k n=>Eq.trans (b:=IK (x62 (z37 q) a b f) (x61 (z37 q) a b f) (x75 (z37 q) a b f) (x73 (z37 q) a b f) (x74 (z37 q) a b f) (x78 (z37 q) a b f) (x76 (z37 q) a b f) (x71 (z37 q) a b f) (x70 (z37 q) a b f) a b f g m p o u v h k n) B3 (by rw[Bqa];simp only[e62,e61,e75,e73,e74,e78,e76,e71,e70,ih]<;>rfl)
def k:KC_:=kk_ 31 H (u13 Kv) func31 (λx=>Eq.trans (b:=u13 (Xq (λa b f g m p o u v h k n=>z37 Dt (t37 a b f g m p o u v h k n))) x) B3 (by simp only[i37,Bb]<;>rfl))
end F31
namespace F161
abbrev R_:=(Int×Int)
def H:=hd_ [Sb] [Si,Si] (.q (.q (.cut [0,4] [] .d .d))) [F78.k,F192.k,F193.k,F194.k] f161
def x2(a:LB):Option R_:=H.e P_ [r,r,r] ⟨[(0,vb a),(4,vi (Ap (Ac a) (32:Int)))],[],[]⟩
theorem e2:x2=qF:=B3
def k:KC_:=kk_ 161 H H5 func161 (λx=>Eq.trans (b:=sW x2 x) B3 (by simp only[e2]<;>rfl))
end F161
namespace F119
abbrev R_:=(Int×Int)
abbrev K_:=S->Option R_
def H:=hd_ [Sb] [Si,Si] (.q (.q (.q (.q (.cut [5] [] (.blk (.loop [1,4,5] [] (.q (.cut [1,4,5] [] (.blk (.cut [1,4,5,6] [] (.keep [1,4,5,6,16,17] true) .d)) .d)))) .d))))) [F161.k] f119 false [(160,.d)]
def t8(a:Int)(b:LB):S:=⟨[(1,.ptr 0 []),(4,.fn 160 [.ptr 0 []]),(5,vi a)],[.box 22 (vb b)],[]⟩
def z8:ZT_ R_:=H.i P_ [r,r,r,r,l,d]
def x14(a:Int):Option R_:=H.e P_ [r,r,r,r,r] ⟨[(5,vi a)],[],[]⟩
def x12(kn8:K_)(a:Int)(g:LB):Option R_:=H.e P_ [r,r,r,r,l,d,(lp kn8),r,r] ⟨[(1,.ptr 0 []),(4,.fn 160 [.ptr 0 []]),(5,vi a)],[.box 22 (vb g)],[]⟩
def x11(kn8:K_)(a f:Int)(b:LB):Option R_:=H.e P_ [r,r,r,r,l,d,(lp kn8),r,l,d,r] ⟨[(1,.ptr 0 []),(4,.fn 160 [.ptr 0 []]),(5,vi a),(6,vi f)],[.box 22 (vb b)],[]⟩
theorem e14:x14=Bcr:=B3
theorem e12(kn8:K_):x12 kn8=QI (λa b=>kn8 (t8 a b)):=B3
theorem e11(kn8:K_):x11 kn8=PK (λa b=>kn8 (t8 a b)):=Eq.trans (b:=QH (x12 kn8)) B3 (by simp only[e12]<;>rfl)
theorem i8:∀(q:Nat) (a:Int) (b:LB),z8 q (t8 a b)=Xj q a b:=
 ind (λ_ _=>by kernel_rfl) λq ih a b=>Eq.trans (b:=VT (x11 (z8 q)) x14 a b) B3 (by simp only[e11,e14,ih]<;>rfl)
def k:KC_:=kk_ 119 H KC func119 (λx=>Eq.trans (b:=VN (λa b=>z8 Dt (t8 a b)) x) B3 (by simp only[i8,Bb]<;>rfl))
end F119
namespace F71
def H:=hd_ [.agg [Ss,Sb,.agg [Si,Si,Si,Si,Si],Sl,Si,Sb,Sz,Si]] [Si] .d [⟨(117,EP),bW⟩,F118.k,F119.k] f71
def k:KC_:=kk_ 71 H (u12 JQ) func71
end F71
namespace F32
def H:=hd_ [.agg [Ss,Sb,.agg [Si,Si,Si,Si,Si],Sl,Si,Sb,Sz,Si]] [.agg [Ss,Ob 5,.agg [Si,Si,Si,Si,Si],Ol 3,Si,Sb,Sz,Si],Si] .d [F67.k,F70.k,F71.k] f32
def k:KC_:=kk_ 32 H (u12 Hq) func32
end F32
namespace F7
def H:=hd_ [Sb,Ss] [.agg [Si,Si,Si,Ow 21],Si] .d [F30.k,F31.k,F32.k,F33.k] f7
def k:KC_:=kk_ 7 H (u2 Da) func7
end F7
namespace F74
abbrev R_:=Bool
def H:=hd_ [Ss] [Sz] (.q (.cut [0] [] (.q (.blk (.loop [0,6,7,8] [] .d))) .d)) [] f74
def t4(a:LB)(b:Int):S:=⟨[(0,vs a),(6,.own 0),(7,vi (Ac a)),(8,vi b)],[Ab 5 a],[]⟩
def z4:ZT_ R_:=H.i P_ [r,l,r,d]
def x6(a:LB):Option R_:=H.e P_ [r,r] ⟨[(0,vs a)],[],[]⟩
theorem e6:x6=Bk2:=B3
theorem i4(a:LB):∀(q:Nat) (b:Int),z4 q (t4 a b)=bL a q b:=
 ind (λ_=>by kernel_rfl) λq ih b=>Eq.trans (b:=Bjl x6 (λb=>(z4 q) (t4 a b)) a b) B3 (by simp only[e6,ih]<;>rfl)
def k:KC_:=kk_ 74 H SA func74 (λx=>Eq.trans (b:=Bkb (λa b=>z4 Dt (t4 a b)) x) B3 (by simp only[i4,Bb]<;>rfl))
end F74
namespace F75
abbrev R_:=(LB×LB×LB×Bool)
def H:=hd_ [Sb] [.agg [Ss,Ob 5],Sb,Sz] (.q (.cut [0,2] [] .d (.q (.cut [0,2,5,7] [] .d .d)))) [F73.k,F74.k,F115.k] f75
def x4(b:LB)(f:UInt64)(g:LB):Option R_:=H.e P_ [r,r,r,r] ⟨[(0,vb b),(2,.ptr 0 []),(5,vq f),(7,vs g)],[.box 82 (.agg [vs ([]:LB),.nils])],[]⟩
def x3(a:LB):Option R_:=H.e P_ [r,r] ⟨[(0,vb a),(2,.ptr 0 [])],[.box 82 (.agg [vs ([]:LB),.nils])],[]⟩
theorem e4:x4=Aau:=B3
theorem e3:x3=Aa7:=Eq.trans (b:=Abb x4) B3 (by simp only[e4]<;>rfl)
def k:KC_:=kk_ 75 H xR func75 (λx=>Eq.trans (b:=Aeo x3 x) B3 (by simp only[e3]<;>rfl))
end F75
namespace F36
abbrev R_:=(LB×(List (LB×LB×Unit))×Int)
def H:=hd_ [Sb] [Ss,.lf (.list (.cons .str (.cons (.list (.int .u8)) .nil))) (some 82),Si] (.q (.q (.q (.q (.cut [0,5,7] [] (.blk (.cut [0,5,7,24] [] .d .d)) (.q (.cut [0,5,7,8] [] (.q (.blk (.loop [0,5,7,8,9] [⟨8,[],.own 82 (.cons .str (.cons (.list (.int .u8)) .nil))⟩] .d))) .d))))))) [F73.k,F74.k,F75.k] f36
def t8(a:LB)(b:UInt64)(f h:LB)(g:List (LB×LB×Unit)):S:=⟨[(0,vb a),(5,vq b),(7,vs f),(8,.own 0),(9,vb h)],[.arr 82 (.cons .str (.cons (.list (.int .u8)) .nil)) g],[]⟩
def z8:ZT_ R_:=H.i P_ [r,r,r,r,r,r,l,r,d]
def x10(a:LB)(b:UInt64)(f:LB)(g:List (LB×LB×Unit)):Option R_:=H.e P_ [r,r,r,r,r,r,r] ⟨[(0,vb a),(5,vq b),(7,vs f),(8,.own 0)],[.arr 82 (.cons .str (.cons (.list (.int .u8)) .nil)) g],[]⟩
def x7(a:LB)(b:UInt64)(f:LB):Option R_:=H.e P_ [r,r,r,r,r] ⟨[(0,vb a),(5,vq b),(7,vs f)],[],[]⟩
def x6(a:LB)(b:UInt64)(f:LB)(k:Bool):Option R_:=H.e P_ [r,r,r,r,l,d,r] ⟨[(0,vb a),(5,vq b),(7,vs f),(24,vt k)],[],[]⟩
theorem e10:x10=Bl1:=B3
theorem i8(a:LB)(b:UInt64)(f:LB):∀(q:Nat) (h:LB) (g:List (LB×LB×Unit)),z8 q (t8 a b f h g)=nX a b f q h g:=
 ind (λ_ _=>by kernel_rfl) λq ih h g=>Eq.trans (b:=Ac0 x10 (λh g=>(z8 q) (t8 a b f h g)) a b f h g) B3 (by simp only[e10,ih]<;>rfl)
theorem e7:x7=Aed:=Eq.trans (b:=Aao (λa b f h g=>z8 Dt (t8 a b f h g))) B3 (by simp only[i8,Bb]<;>rfl)
theorem e6:x6=Abq:=Eq.trans (b:=Ad1 x7) B3 (by simp only[e7]<;>rfl)
def k:KC_:=kk_ 36 H xq func36 (λx=>Eq.trans (b:=Acz x6 x) B3 (by simp only[e6]<;>rfl))
end F36
namespace F76
abbrev R_:=(Int×Int)
abbrev K_:=S->Option R_
def H:=hd_ [.lf (.list (.cons .str (.cons (.list (.int .u8)) .nil))) none,Ss] [Si,Si] (.q (.cut [6] [] (.keep [6,9] true) .d)) [] f76 false [(121,(.q (.cut [] [] (.q (.blk (.loop [0,1,7,8] [] (.q (.q (.cut [0,1,7,8] [] (.blk (.q (.cut [0,1,5,7,8,16] [] (.keep [0,1,5,7,8,16] true) .d))) .d)))))) .d))),(122,.d)]
def t9(a:List (LB×LB×Unit))(b:LB)(f:Int):S:=⟨[(0,.val (.list (.cons .str (.cons (.list (.int .u8)) .nil))) a),(1,.fn 122 [.ptr 0 []]),(7,vi (Ac a)),(8,vi f)],[.box 9 (vs b)],[[]]⟩
def z9:ZT_ R_:=H.i P_ [r,l,(call 2 121),r,l,r,d]
def x16(h:Int):Option R_:=H.e P_ [r,r] ⟨[(6,vi h)],[],[]⟩
def x15:Option R_:=H.e P_ [r,l,(call 2 121),r,r] ⟨[],[],[[]]⟩
def x13(kn9:K_)(a:List (LB×LB×Unit))(b:LB)(f:Int):Option R_:=H.e P_ [r,l,(call 2 121),r,l,r,d,(lp kn9),r,r,r] ⟨[(0,.val (.list (.cons .str (.cons (.list (.int .u8)) .nil))) a),(1,.fn 122 [.ptr 0 []]),(7,vi (Ac a)),(8,vi f)],[.box 9 (vs b)],[[]]⟩
def x12(kn9:K_)(a:List (LB×LB×Unit))(b:LB)(f:Int)(g:LB×LB×Unit):Option R_:=H.e P_ [r,l,(call 2 121),r,l,r,d,(lp kn9),r,r,l,d,r,r] ⟨[(0,.val (.list (.cons .str (.cons (.list (.int .u8)) .nil))) a),(1,.fn 122 [.ptr 0 []]),(5,vi f),(7,vi (Ac a)),(8,vi f),(16,vt (g.1==b))],[.box 9 (vs b)],[[]]⟩
theorem e16:x16=fQ:=B3
theorem e15:x15=Blu:=Eq.trans (b:=Bky x16) B3 (by simp only[e16]<;>rfl)
theorem e13(kn9:K_)(a:List (LB×LB×Unit))(b:LB):x13 kn9 a b=Blr (λf=>kn9 (t9 a b f)) a b:=B3
theorem e12(kn9:K_)(a:List (LB×LB×Unit))(b:LB):x12 kn9 a b=Bkx (λf=>kn9 (t9 a b f)) a b:=Eq.trans (b:=Bkz x16 (x13 kn9 a b) a b) B3 (by simp only[e16,e13]<;>rfl)
theorem i9(a:List (LB×LB×Unit))(b:LB):∀(q:Nat) (f:Int),z9 q (t9 a b f)=lR a b q f:=
 ind (λ_=>by kernel_rfl) λq ih f=>Eq.trans (b:=Ade (x12 (z9 q) a b) x15 a b f) B3 (by simp only[e12,e15,ih]<;>rfl)
def k:KC_:=kk_ 76 H (u2 X1) func76 (λx=>Eq.trans (b:=u2 (Ac1 (λa b f=>z9 Dt (t9 a b f))) x) B3 (by simp only[i9,Bb]<;>rfl))
end F76
namespace F37
def H:=hd_ [.lf (.list (.cons .str (.cons (.list (.int .u8)) .nil))) none,Ss] [Si,Si] .d [F76.k] f37
def k:KC_:=kk_ 37 H (u2 J') func37
end F37
namespace F77
def H:=hd_ [.agg [Si,Si,Si]] [Si] .d [] f77
def k:KC_:=kk_ 77 H (u3 cP) func77
end F77
namespace F79
abbrev R_:=LB
def H:=hd_ [.agg [Si,Si,Si],Sz,Sq] [Ob 5] (.q (.q (.q (.q (.cut [1,8,9] [] .d (.q (.cut [1,10] [] (.q (.blk (.loop [1,8,10,44,45] [⟨10,[],.own 5 (.int .u8)⟩] .d))) .d))))))) [F62.k] f79
def t6(a:Bool)(g:Int)(f:LQ)(h:Int)(b:LB):S:=⟨[(1,vt a),(8,.ptr 0 []),(10,.own 1),(44,vi g),(45,vi h)],[.box 134 (.val (.vec 9 (.int .u64)) f),Ab 5 b],[]⟩
def z6:ZT_ R_:=H.i P_ [r,r,r,r,r,r,l,r,d]
def x8(a:Bool)(b:LB):Option R_:=H.e P_ [r,r,r,r,r,r,r] ⟨[(1,vt a),(10,.own 0)],[Ab 5 b],[]⟩
def x5(a:Bool)(g:Int)(f:LQ):Option R_:=H.e P_ [r,r,r,r,r] ⟨[(1,vt a),(8,.ptr 0 []),(9,vi g)],[.box 134 (.val (.vec 9 (.int .u64)) f)],[]⟩
theorem e8:x8=Bbr:=B3
theorem i6(a:Bool)(g:Int)(f:LQ):∀(q:Nat) (h:Int) (b:LB),z6 q (t6 a g f h b)=PD a g f q h b:=
 ind (λ_ _=>by kernel_rfl) λq ih h b=>Eq.trans (b:=Axr x8 (λh b=>(z6 q) (t6 a g f h b)) a g f h b) B3 (by simp only[e8,ih]<;>rfl)
theorem e5:x5=Bd2:=Eq.trans (b:=Bbu (λa g f h b=>z6 Dt (t6 a g f h b))) B3 (by simp only[i6,Bb]<;>rfl)
def k:KC_:=kk_ 79 H (u5 gL) func79 (λx=>Eq.trans (b:=u5 (Axz x5) x) B3 (by simp only[e5]<;>rfl))
end F79
namespace F38
abbrev R_:=(Int×Int×Int×Int)
def H:=hd_ [Sb] [.agg [Si,Si,Si],Si] (.q (.q (.cut [0,2,5] [] (.q (.blk (.loop [0,2,4,5,10,11] [] .d))) .d))) [F73.k,F77.k,F78.k,F79.k] f38
def t4(b:LB)(g f:Int)(a:LQ):S:=⟨[(0,vb b),(2,.ptr 0 []),(4,vi g),(5,.ptr 1 []),(10,.val (.vec 9 (.int .i64)) ([(2:Int),(2:Int),(4:Int),(4:Int),(2:Int),(2:Int),(2:Int),(2:Int),(4:Int)]:LI)),(11,vi f)],[.box 78 (.agg [vi 0,vi 0,vi 0]),.box 134 (.val (.vec 9 (.int .u64)) a)],[]⟩
def z4:ZT_ R_:=H.i P_ [r,r,l,r,d]
def x6(b:LB)(a:LQ):Option R_:=H.e P_ [r,r,r] ⟨[(0,vb b),(2,.ptr 0 []),(5,.ptr 1 [])],[.box 78 (.agg [vi 0,vi 0,vi 0]),.box 134 (.val (.vec 9 (.int .u64)) a)],[]⟩
theorem e6:x6=Bdc:=B3
theorem i4(b:LB):∀(q:Nat) (g f:Int) (a:LQ),z4 q (t4 b g f a)=QA b q g f a:=
 ind (λ_ _ _=>by kernel_rfl) λq ih g f a=>Eq.trans (b:=Ays x6 (λg f a=>(z4 q) (t4 b g f a)) b g f a) B3 (by simp only[e6,ih]<;>rfl)
def k:KC_:=kk_ 38 H Bls func38 (λx=>Eq.trans (b:=Axp (λb g f a=>z4 Dt (t4 b g f a)) x) B3 (by simp only[i4,Bb]<;>rfl))
end F38
namespace F9
def H:=hd_ [Sb] [.agg [Si,Si,Si,Ow 21],Si] .d [F15.k,F33.k,F36.k,F37.k,F38.k] f9
def k:KC_:=kk_ 9 H uN func9
end F9
namespace F8
abbrev R_:=(LB×Int)
def H:=hd_ [Sb,Ss] [Ob 5,Si] (.q (.cut [4,5] [⟨4,[],.own 5 (.int .u8)⟩] (.keep [4,5,8,9,10] true) .d)) [F5.k,F9.k] f8 false [(34,(.q (.cut [2,8,9] [] .d (.q (.cut [6,7] [] (.keep [6,7,23,24,25] true) .d))))),(35,.d)]
def x6(o:Int)(p:LB):Option R_:=H.e P_ [r,r] ⟨[(4,.own 0),(5,vi o)],[Ab 5 p],[]⟩
def x5(b:Int)(f:LB):Option R_:=H.e P_ [r,l,(call 2 34),r,r,r,r] ⟨[(6,.own 0),(7,vi b)],[Ab 5 f],[[(4,.nils),(5,vi 0)]]⟩
def x4(a:Int)(g:LB)(h k m:Int)(n:LX):Option R_:=H.e P_ [r,l,(call 2 34),r,r] ⟨[(2,.fn 35 [.ptr 0 []]),(8,.ptr 1 []),(9,vi a)],[.box 9 (vs g),.box 25 (.agg [vi h,vi k,vi m,.own 2]),Aw 21 n],[[(4,.nils),(5,vi 0)]]⟩
theorem e6:x6=GK:=B3
theorem e5:x5=Aq8:=Eq.trans (b:=Atc x6) B3 (by simp only[e6]<;>rfl)
theorem e4:x4=Aqu:=Eq.trans (b:=As3 x6 x5) B3 (by simp only[e6,e5]<;>rfl)
def k:KC_:=kk_ 8 H (u2 Lo) func8 (λx=>Eq.trans (b:=u2 (Asu x4) x) B3 (by simp only[e4]<;>rfl))
end F8
namespace F80
def H:=hd_ [.agg [Si,Si,Si]] [Sz,Si] .d [F77.k] f80
def k:KC_:=kk_ 80 H (u3 Bln) func80
end F80
namespace F39
def H:=hd_ [.agg [Si,Si,Si]] [Ob 5,Si] .d [F79.k,F80.k] f39
def k:KC_:=kk_ 39 H (u3 Bko) func39
end F39
namespace F85
abbrev R_:=Int
def H:=hd_ [.lf (.list (.cons .str (.cons (.list (.int .u8)) .nil))) none] [Si] (.q (.q (.cut [3] [] (.q (.blk (.loop [3,6,7,8] [] .d))) .d))) [] f85
def t4(b:List (LB×LB×Unit))(a f:Int):S:=⟨[(3,vi a),(6,.val (.list (.cons .str (.cons (.list (.int .u8)) .nil))) b),(7,vi (Ac b)),(8,vi f)],[],[]⟩
def z4:ZT_ R_:=H.i P_ [r,r,l,r,d]
def x6(a:Int):Option R_:=H.e P_ [r,r,r] ⟨[(3,vi a)],[],[]⟩
theorem e6:x6=Abc:=B3
theorem i4(b:List (LB×LB×Unit)):∀(q:Nat) (a f:Int),z4 q (t4 b a f)=lL b q a f:=
 ind (λ_ _=>by kernel_rfl) λq ih a f=>Eq.trans (b:=Abo x6 (λa f=>(z4 q) (t4 b a f)) b a f) B3 (by simp only[e6,ih]<;>rfl)
def k:KC_:=kk_ 85 H iM func85 (λx=>Eq.trans (b:=Abs (λb a f=>z4 Dt (t4 b a f)) x) B3 (by simp only[i4,Bb]<;>rfl))
end F85
namespace F124
def H:=hd_ [.agg [Ss,Sb]] [Sz] .d [F74.k] f124
def k:KC_:=kk_ 124 H (u2 mE) func124
end F124
namespace F81
abbrev R_:=Int
abbrev K_:=S->Option R_
def H:=hd_ [Ss,.lf (.list (.cons .str (.cons (.list (.int .u8)) .nil))) none] [Si] (.q (.q (.cut [] [] (.cut [20] [] (.keep [17,19,20] true) .d) .d))) [F74.k,F85.k,F124.k] f81 false [(121,(.q (.cut [] [] (.q (.blk (.loop [0,1,7,8] [] (.q (.q (.cut [0,1,7,8] [] (.blk (.q (.cut [0,1,5,7,8,16] [] .d .d))) .d)))))) .d))),(123,(.q (.cut [4] [] (.keep [4,7,8] true) .d)))]
def t19(a:List (LB×LB×Unit))(b:Int):S:=⟨[(0,.val (.list (.cons .str (.cons (.list (.int .u8)) .nil))) a),(1,.fn 124 []),(7,vi (Ac a)),(8,vi b)],[],[[(4,vt false)],[(17,.cst (.bool false))]]⟩
def z19:ZT_ R_:=H.i P_ [r,r,l,l,(call 11 123),r,l,(call 2 121),r,l,r,d]
def t27(a:List (LB×LB×Unit))(f:Int):S:=⟨[(0,.val (.list (.cons .str (.cons (.list (.int .u8)) .nil))) a),(1,.fn 124 []),(7,vi (Ac a)),(8,vi f)],[],[[(4,vt false)],[(17,.cst (.bool false))]]⟩
def z27:ZT_ R_:=H.i P_ [r,r,l,l,(call 11 123),r,l,(call 2 121),r,l,r,d]
def x36:Option R_:=H.e P_ [r,r,r] ⟨[],[],[]⟩
def x35(k:Bool):Option R_:=H.e P_ [r,r,l,r] ⟨[(20,vt k)],[],[]⟩
def x26(m:Bool):Option R_:=H.e P_ [r,r,l,l,(call 11 123),r,r] ⟨[(4,vt m)],[],[[(17,.cst (.bool false))]]⟩
def x25:Option R_:=H.e P_ [r,r,l,l,(call 11 123),r,l,(call 2 121),r,r] ⟨[],[],[[(4,vt false)],[(17,.cst (.bool false))]]⟩
def x23(NM:K_)(a:List (LB×LB×Unit))(b:Int):Option R_:=H.e P_ [r,r,l,l,(call 11 123),r,l,(call 2 121),r,l,r,d,(lp NM),r,r,r] ⟨[(0,.val (.list (.cons .str (.cons (.list (.int .u8)) .nil))) a),(1,.fn 124 []),(7,vi (Ac a)),(8,vi b)],[],[[(4,vt false)],[(17,.cst (.bool false))]]⟩
def x22(NM:K_)(a:List (LB×LB×Unit))(b:Int)(g:Bool):Option R_:=H.e P_ [r,r,l,l,(call 11 123),r,l,(call 2 121),r,l,r,d,(lp NM),r,r,l,d,r,r] ⟨[(0,.val (.list (.cons .str (.cons (.list (.int .u8)) .nil))) a),(1,.fn 124 []),(5,vi b),(7,vi (Ac a)),(8,vi b),(16,vt g)],[],[[(4,vt false)],[(17,.cst (.bool false))]]⟩
def x34(n:Bool):Option R_:=H.e P_ [r,r,l,l,(call 11 123),r,r] ⟨[(4,vt n)],[],[[(17,.cst (.bool false))]]⟩
def x33:Option R_:=H.e P_ [r,r,l,l,(call 11 123),r,l,(call 2 121),r,r] ⟨[],[],[[(4,vt false)],[(17,.cst (.bool false))]]⟩
def x31(Iw:K_)(a:List (LB×LB×Unit))(f:Int):Option R_:=H.e P_ [r,r,l,l,(call 11 123),r,l,(call 2 121),r,l,r,d,(lp Iw),r,r,r] ⟨[(0,.val (.list (.cons .str (.cons (.list (.int .u8)) .nil))) a),(1,.fn 124 []),(7,vi (Ac a)),(8,vi f)],[],[[(4,vt false)],[(17,.cst (.bool false))]]⟩
def x30(Iw:K_)(a:List (LB×LB×Unit))(f:Int)(h:Bool):Option R_:=H.e P_ [r,r,l,l,(call 11 123),r,l,(call 2 121),r,l,r,d,(lp Iw),r,r,l,d,r,r] ⟨[(0,.val (.list (.cons .str (.cons (.list (.int .u8)) .nil))) a),(1,.fn 124 []),(5,vi f),(7,vi (Ac a)),(8,vi f),(16,vt h)],[],[[(4,vt false)],[(17,.cst (.bool false))]]⟩
theorem e36:x36=Bkr:=B3
theorem e35:x35=ME:=Eq.trans (b:=Bk0 x36) B3 (by simp only[e36]<;>rfl)
theorem e26:x26=aN:=Eq.trans (b:=Bid x35) B3 (by simp only[e35]<;>rfl)
theorem e25:x25=Bkl:=Eq.trans (b:=Biw x26) B3 (by simp only[e26]<;>rfl)
theorem e23(NM:K_)(a:List (LB×LB×Unit)):x23 NM a=Bhv (λb=>NM (t19 a b)) a:=B3
theorem e22(NM:K_)(a:List (LB×LB×Unit)):x22 NM a=Bkh (λb=>NM (t19 a b)) a:=Eq.trans (b:=Bkp x26 (x23 NM a) a) B3 (by simp only[e26,e23]<;>rfl)
theorem i19(a:List (LB×LB×Unit)):∀(q:Nat) (b:Int),z19 q (t19 a b)=aD a q b:=
 ind (λ_=>by kernel_rfl) λq ih b=>Eq.trans (b:=Bk4 (x22 (z19 q) a) x25 a b) B3 (by simp only[e22,e25,ih]<;>rfl)
theorem e34:x34=aC:=Eq.trans (b:=Bit x35) B3 (by simp only[e35]<;>rfl)
theorem e33:x33=Bk3:=Eq.trans (b:=Bie x34) B3 (by simp only[e34]<;>rfl)
theorem e31(Iw:K_)(a:List (LB×LB×Unit)):x31 Iw a=Bhz (λf=>Iw (t27 a f)) a:=B3
theorem e30(Iw:K_)(a:List (LB×LB×Unit)):x30 Iw a=Bk9 (λf=>Iw (t27 a f)) a:=Eq.trans (b:=Biv x34 (x31 Iw a) a) B3 (by simp only[e34,e31]<;>rfl)
theorem i27(a:List (LB×LB×Unit)):∀(q:Nat) (f:Int),z27 q (t27 a f)=aF a q f:=
 ind (λ_=>by kernel_rfl) λq ih f=>Eq.trans (b:=Bk5 (x30 (z27 q) a) x33 a f) B3 (by simp only[e30,e33,ih]<;>rfl)
def k:KC_:=kk_ 81 H (u2 OX) func81 (λx=>Eq.trans (b:=u2 (fH x35 (λa b=>z19 Dt (t19 a b)) (λa f=>z27 Dt (t27 a f))) x) B3 (by simp only[e35,i19,i27,Bb]<;>rfl))
end F81
theorem Bql :ConOk Tryz.prog gl 40 mP:=Aaa ent40 F81.k.2 F85.k.2 F62.k.2
namespace F10
def H:=hd_ [.agg [Si,Si,Si,Sw]] [Ob 5,Si] .d [F15.k,F16.k,F39.k,⟨(40,mP),Bql⟩] f10
def k:KC_:=kk_ 10 H (u4 jT) func10
end F10
namespace F11
abbrev R_:=(LB×Int)
def H:=hd_ [Sb,Ss] [Ob 5,Si] (.q (.cut [4,5] [⟨4,[],.own 5 (.int .u8)⟩] (.keep [4,5,8,9,10] true) .d)) [F7.k,F10.k] f11 false [(34,(.q (.cut [2,8,9] [] (.keep [2,8,9,11,14,15,16] true) (.q (.cut [6,7] [] .d .d))))),(41,.d)]
def x6(n:Int)(o:LB):Option R_:=H.e P_ [r,r] ⟨[(4,.own 0),(5,vi n)],[Ab 5 o],[]⟩
def x5(b:Int)(f:LB):Option R_:=H.e P_ [r,l,(call 2 34),r,r,r,r] ⟨[(6,.own 0),(7,vi b)],[Ab 5 f],[[(4,.nils),(5,vi 0)]]⟩
def x4(a g h k:Int)(m:LX):Option R_:=H.e P_ [r,l,(call 2 34),r,r] ⟨[(2,.fn 10 []),(8,.ptr 0 []),(9,vi a)],[.box 25 (.agg [vi g,vi h,vi k,.own 1]),Aw 21 m],[[(4,.nils),(5,vi 0)]]⟩
theorem e6:x6=PU:=B3
theorem e5:x5=Bbq:=Eq.trans (b:=Bdb x6) B3 (by simp only[e6]<;>rfl)
theorem e4:x4=Bc0:=Eq.trans (b:=Ayk x6 x5) B3 (by simp only[e6,e5]<;>rfl)
def k:KC_:=kk_ 11 H (u2 Py) func11 (λx=>Eq.trans (b:=u2 (Bba x4) x) B3 (by simp only[e4]<;>rfl))
end F11
namespace F42
abbrev R_:=Bool
def H:=hd_ [Sw,Sw] [Sz] (.q (.q (.cut [] [] (.q (.blk (.loop [0,1,5] [] .d))) .d))) [] f42
def t4(a b:LX)(f:Int):S:=⟨[(0,vw a),(1,vw b),(5,vi f)],[],[]⟩
def z4:ZT_ R_:=H.i P_ [r,r,l,r,d]
def x6:Option R_:=H.e P_ [r,r,r] ⟨[],[],[]⟩
theorem e6:x6=Ak4:=B3
theorem i4(a b:LX):∀(q:Nat) (f:Int),z4 q (t4 a b f)=AQ a b q f:=
 ind (λ_=>by kernel_rfl) λq ih f=>Eq.trans (b:=Ai7 x6 (λf=>(z4 q) (t4 a b f)) a b f) B3 (by simp only[e6,ih]<;>rfl)
def k:KC_:=kk_ 42 H (u2 Au3) func42 (λx=>Eq.trans (b:=u2 (Afd (λa b f=>z4 Dt (t4 a b f))) x) B3 (by simp only[i4,Bb]<;>rfl))
end F42
namespace F12
def H:=hd_ [.agg [Si,Si,Si,Sw],.agg [Si,Si,Si,Sw]] [Sz] .d [F42.k] f12
def k:KC_:=kk_ 12 H (u8 Tg) func12
end F12
namespace F44
def H:=hd_ [.agg [Si,Si,Si,Sw]] [.agg [Si,Si]] .d [] f44
def k:KC_:=kk_ 44 H (u4 Fy) func44
end F44
namespace F127
def H:=hd_ [Si] [Si] .d [] f127
def k:KC_:=kk_ 127 H Lg func127
end F127
namespace F87
def H:=hd_ [.agg [Si,Si]] [Si] .d [F127.k] f87
def k:KC_:=kk_ 87 H (u2 Dc) func87
end F87
namespace F88
abbrev R_:=Int
def H:=hd_ [Si,Sw] [Si] (.q (.q (.q (.q (.cut [] [] (.q (.blk (.loop [1,5,6] [] .d))) .d))))) [F127.k] f88
def t4(a:LX)(b f:Int):S:=⟨[(1,vw a),(5,vi b),(6,vi f)],[],[]⟩
def z4:ZT_ R_:=H.i P_ [r,r,r,r,l,r,d]
def x6:Option R_:=H.e P_ [r,r,r,r,r] ⟨[],[],[]⟩
theorem e6:x6=Adj:=B3
theorem i4(a:LX)(b:Int):∀(q:Nat) (f:Int),z4 q (t4 a b f)=Ba a b q f:=
 ind (λ_=>by kernel_rfl) λq ih f=>Eq.trans (b:=Cx x6 (λf=>(z4 q) (t4 a b f)) a b f) B3 (by simp only[e6,ih]<;>rfl)
def k:KC_:=kk_ 88 H (u2 Ay) func88 (λx=>Eq.trans (b:=u2 (Dx (λa b f=>z4 Dt (t4 a b f))) x) B3 (by simp only[i4,Bb]<;>rfl))
end F88
namespace F43
def H:=hd_ [.agg [Si,Si],Sw] [Si] .d [F87.k,F88.k] f43
def k:KC_:=kk_ 43 H (u3 Ce) func43
end F43
namespace F89
def H:=hd_ [.agg [Si,Si],Si] [Si] .d [F87.k] f89
def k:KC_:=kk_ 89 H (u3 Dm) func89
end F89
namespace F165
def H:=hd_ [Si] [Si,Si] .d [] f165
def k:KC_:=kk_ 165 H Tc func165
end F165
namespace F128
abbrev R_:=(LI×Int)
def H:=hd_ [Si,Si] [Ol 3,Si] (.q (.q (.q (.q (.cut [8] [] (.blk (.loop [1,6,8] [⟨8,[],.own 3 (.int .i64)⟩] .d)) .d))))) [F165.k] f128
def t4(b f:Int)(a:LI):S:=⟨[(1,vi f),(6,vi b),(8,.own 0)],[Ai 3 a],[]⟩
def z4:ZT_ R_:=H.i P_ [r,r,r,r,l,d]
def x6(a:LI):Option R_:=H.e P_ [r,r,r,r,r] ⟨[(8,.own 0)],[Ai 3 a],[]⟩
theorem e6:x6=Pd:=B3
theorem i4(b:Int):∀(q:Nat) (f:Int) (a:LI),z4 q (t4 b f a)=El b q f a:=
 ind (λ_ _=>by kernel_rfl) λq ih f a=>Eq.trans (b:=Iq x6 (λf a=>(z4 q) (t4 b f a)) b f a) B3 (by simp only[e6,ih]<;>rfl)
def k:KC_:=kk_ 128 H (u2 Vt) func128 (λx=>Eq.trans (b:=u2 (Pg (λb f a=>z4 Dt (t4 b f a))) x) B3 (by simp only[i4,Bb]<;>rfl))
end F128
namespace F90
def H:=hd_ [Si,Si] [Si,Si] .d [F128.k] f90
def k:KC_:=kk_ 90 H (u2 Hk) func90
end F90
namespace F45
def H:=hd_ [.agg [Si,Si,Si,Sw],Si] [Sz] .d [F44.k,F89.k,F90.k] f45
def k:KC_:=kk_ 45 H (u5 Zu) func45
end F45
namespace F13
def H:=hd_ [.agg [Si,Si,Si,Sw]] [Si] .d [F43.k,F44.k,F45.k] f13
def k:KC_:=kk_ 13 H (u4 Br) func13
end F13
namespace F14
def H:=hd_ [] [Sz] .d [F4.k,F5.k,F7.k,F12.k] f14
def k:KC_:=kk_ 14 H (λ_=>Jj) func14
end F14
end
end Go.Proofs.YtjjpijoihenabaaGreatDoor
