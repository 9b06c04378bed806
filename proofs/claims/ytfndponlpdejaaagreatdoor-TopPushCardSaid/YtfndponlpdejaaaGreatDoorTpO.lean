/- A part of a proof (see the text that ends in Proof). No conditions. -/
import Derived.Test.YtfndponlpdejaaaGreatDoorTpHA
set_option linter.unusedVariables false
set_option linter.unusedSimpArgs false
set_option maxRecDepth 10000
namespace Go.Proofs.YtfndponlpdejaaaGreatDoor
open Go Go.Lv Go.Pl Go.Rx Go.Rx.PS
noncomputable section
def g0:List Value:=[.int .i64 2,.int .i64 2,.int .i64 2,.int .i64 4,.int .i64 4]
def g2:List Value:=[.bool true,.int .i64 0]
def g4:List Value:=[.bool false,.int .i64 0]
def g6:List Value:=[.int .u8 0,.int .u8 1,.int .u8 56,.int .u8 2,.int .u8 57,.int .u8 49,.int .u8 28,.int .u8 3,.int .u8 61,.int .u8 58,.int .u8 42,.int .u8 50,.int .u8 38,.int .u8 29,.int .u8 17,.int .u8 4,.int .u8 62,.int .u8 47,.int .u8 59,.int .u8 36,.int .u8 45,.int .u8 43,.int .u8 51,.int .u8 22,.int .u8 53,.int .u8 39,.int .u8 33,.int .u8 30,.int .u8 24,.int .u8 18,.int .u8 12,.int .u8 5,.int .u8 63,.int .u8 55,.int .u8 48,.int .u8 27,.int .u8 60,.int .u8 41,.int .u8 37,.int .u8 16,.int .u8 46,.int .u8 35,.int .u8 44,.int .u8 21,.int .u8 52,.int .u8 32,.int .u8 23,.int .u8 11,.int .u8 54,.int .u8 26,.int .u8 40,.int .u8 15,.int .u8 34,.int .u8 20,.int .u8 31,.int .u8 10,.int .u8 25,.int .u8 14,.int .u8 19,.int .u8 9,.int .u8 13,.int .u8 8,.int .u8 7,.int .u8 6]
def gl:List (Nat×List Value):=[(0,g0),(2,g2),(4,g4),(6,g6)]
theorem mixed:Tryz.prog.follows .mixedOrders=true:=F5
noncomputable abbrev P_:=Tryz.prog
noncomputable def kt(l:List (Kc P_ gl))(v:Bool)(c:Bool:=false):=Bh6 l v c
theorem co(H:Hd){f:Nat}{F:OO (AM H.p)->Option (OO (AM H.r))}(hf:P_.funcs[f]? =some H.f)(h:∀x,H.u P_ x=F x:=by intro x;kernel_rfl)(hT:RK P_ H.T:=by exact Arp _ _ _)(hb:okA P_ H=true:=by kernel_rfl):ConOk P_ H.T.gl f ⟨H.p,H.r,F⟩:=Hd.cn mixed H hf hT hb h
def kk_(f:Nat)(H:Hd)(F:OO (AM H.p)->Option (OO (AM H.r)))(hf:P_.funcs[f]? =some H.f)(h:∀x,H.u P_ x=F x:=by intro x;kernel_rfl)(hT:RK P_ H.T:=by exact Arp _ _ _)(hb:okA P_ H=true:=by kernel_rfl):Kc P_ H.T.gl:=⟨(f,⟨H.p,H.r,F⟩),Hd.cn mixed H hf hT hb h⟩
abbrev KC_:=Kc P_ gl
abbrev hd_(p r:List Sh)(a:An)(l:List KC_)(f:Func)(v:Bool:=false)(s:List (Nat×An):=[]):Hd:=⟨p,r,a,kt l v,s,f⟩
abbrev ZT_(R:Type):=Nat->S->Option R
theorem ent127:Ent Tryz.prog 127:=Ent.mk Tryz.func127 F5 rfl
abbrev u2{A B R:Type}(f:A->B->R)(x:A×B):=f x.1 x.2
abbrev u3{A B C R:Type}(f:A->B->C->R):=u2 λa=>u2 (f a)
abbrev u4{A B C D R:Type}(f:A->B->C->D->R):=u2 λa=>u3 (f a)
abbrev u5{A B C D E R:Type}(f:A->B->C->D->E->R):=u2 λa=>u4 (f a)
abbrev u6{A B C D E F R:Type}(f:A->B->C->D->E->F->R):=u2 λa=>u5 (f a)
abbrev u7{A B C D E F G R:Type}(f:A->B->C->D->E->F->G->R):=u2 λa=>u6 (f a)
abbrev u8{A B C D E F G H R:Type}(f:A->B->C->D->E->F->G->H->R):=u2 λa=>u7 (f a)
abbrev u9{A B C D E F G H I R:Type}(f:A->B->C->D->E->F->G->H->I->R):=u2 λa=>u8 (f a)
abbrev u10{A B C D E F G H I J R:Type}(f:A->B->C->D->E->F->G->H->I->J->R):=u2 λa=>u9 (f a)
abbrev u11{A B C D E F G H I J K R:Type}(f:A->B->C->D->E->F->G->H->I->J->K->R):=u2 λa=>u10 (f a)
abbrev u12{A B C D E F G H I J K L R:Type}(f:A->B->C->D->E->F->G->H->I->J->K->L->R):=u2 λa=>u11 (f a)
abbrev u13{A B C D E F G H I J K L M R:Type}(f:A->B->C->D->E->F->G->H->I->J->K->L->M->R):=u2 λa=>u12 (f a)
open Go.Proofs.Tryz
namespace F31
def H:=hd_ [.agg [Si,Si,Si,Sw]] [.agg [Si,Si]] .d [] f31
def k:KC_:=kk_ 31 H (u4 Kf) func31
end F31
namespace F166
def H:=hd_ [Si] [Si] .d [] f166
def k:KC_:=kk_ 166 H Hs func166
end F166
namespace F88
def H:=hd_ [.agg [Si,Si]] [Si] .d [F166.k] f88
def k:KC_:=kk_ 88 H (u2 Cv) func88
end F88
namespace F89
abbrev R_:=Int
def H:=hd_ [Si,Sw] [Si] (.q (.q (.q (.q (.cut [] [] (.q (.blk (.loop [1,5,6] [] .d))) .d))))) [F166.k] f89
def t4(a:LX)(b f:Int):S:=⟨[(1,vw a),(5,vi b),(6,vi f)],[],[]⟩
def z4:ZT_ R_:=H.i P_ [r,r,r,r,l,r,d]
theorem i4(a:LX)(b:Int):∀(q:Nat) (f:Int),z4 q (t4 a b f)=Be a b q f:=
 ind (λ_=>by kernel_rfl) λq ih f=>Eq.trans (b:=Df Afz (λf=>(z4 q) (t4 a b f)) a b f) F5 (by simp only[ih]<;>rfl)
def k:KC_:=kk_ 89 H (u2 Au) func89 (λx=>Eq.trans (b:=u2 (Ed (λa b f=>z4 Dr (t4 a b f))) x) F5 (by simp only[i4,Bc]<;>rfl))
end F89
namespace F30
def H:=hd_ [.agg [Si,Si],Sw] [Si] .d [F88.k,F89.k] f30
def k:KC_:=kk_ 30 H (u3 Dk) func30
end F30
namespace F90
def H:=hd_ [.agg [Si,Si],Si] [Si] .d [F88.k] f90
def k:KC_:=kk_ 90 H (u3 Eu) func90
end F90
namespace F193
def H:=hd_ [Si] [Si,Si] .d [] f193
def k:KC_:=kk_ 193 H Gg func193
end F193
namespace F167
abbrev R_:=(LI×Int)
def H:=hd_ [Si,Si] [Ol 3,Si] (.q (.q (.q (.q (.cut [8] [] (.blk (.loop [1,6,8] [⟨8,[],.own 3 (.int .i64)⟩] .d)) .d))))) [F193.k] f167
def t4(b f:Int)(a:LI):S:=⟨[(1,vi f),(6,vi b),(8,.own 0)],[Ai 3 a],[]⟩
def z4:ZT_ R_:=H.i P_ [r,r,r,r,l,d]
theorem i4(b:Int):∀(q:Nat) (f:Int) (a:LI),z4 q (t4 b f a)=Mk b q f a:=
 ind (λ_ _=>by kernel_rfl) λq ih f a=>Eq.trans (b:=Wo GK (λf a=>(z4 q) (t4 b f a)) b f a) F5 (by simp only[ih]<;>rfl)
def k:KC_:=kk_ 167 H (u2 FN) func167 (λx=>Eq.trans (b:=u2 (Wp (λb f a=>z4 Dr (t4 b f a))) x) F5 (by simp only[i4,Bc]<;>rfl))
end F167
namespace F91
def H:=hd_ [Si,Si] [Si,Si] .d [F167.k] f91
def k:KC_:=kk_ 91 H (u2 Nk) func91
end F91
namespace F32
def H:=hd_ [.agg [Si,Si,Si,Sw],Si] [Sz] .d [F31.k,F90.k,F91.k] f32
def k:KC_:=kk_ 32 H (u5 QV) func32
end F32
namespace F6
def H:=hd_ [.agg [Si,Si,Si,Sw]] [Si] .d [F30.k,F31.k,F32.k] f6
def k:KC_:=kk_ 6 H (u4 Ee) func6
end F6
namespace F45
abbrev R_:=(LI×Int)
def H:=hd_ [Si,Sq] [Ol 3,Si] (.q (.q (.q (.q (.cut [6] [] (.q (.blk (.loop [0,1,6,7,15,16] [⟨6,[],.own 3 (.int .i64)⟩] .d))) .d))))) [] f45
def t4(b:Int)(g:UInt64)(h a:Int)(f:LI):S:=⟨[(0,vi b),(1,vq g),(6,.own 0),(7,vi h),(15,vi b),(16,vi a)],[Ai 3 f],[]⟩
def z4:ZT_ R_:=H.i P_ [r,r,r,r,l,r,d]
theorem i4(b:Int)(g:UInt64):∀(q:Nat) (h a:Int) (f:LI),z4 q (t4 b g h a f)=Rh b g q h a f:=
 ind (λ_ _ _=>by kernel_rfl) λq ih h a f=>Eq.trans (b:=FP Bd8 (λh a f=>(z4 q) (t4 b g h a f)) b g h a f) F5 (by simp only[ih]<;>rfl)
def k:KC_:=kk_ 45 H (u2 HD) func45 (λx=>Eq.trans (b:=u2 (SL (λb g h a f=>z4 Dr (t4 b g h a f))) x) F5 (by simp only[i4,Bc]<;>rfl))
end F45
namespace F188
def H:=hd_ [Si] [Si,Si] .d [] f188
def k:KC_:=kk_ 188 H Li func188
end F188
namespace F95
abbrev R_:=(Int32×Int32×Int)
def H:=hd_ [Si] [Sx,Sx,Si] (.q (.seq (.q (.blk (.cut [0,7] [] .d .d))) .d)) [] f95
def k:KC_:=kk_ 95 H Pb func95
end F95
namespace F189
def H:=hd_ [.agg [Si,Si]] [Si] .d [F95.k] f189
def k:KC_:=kk_ 189 H (u2 Fl) func189
end F189
namespace F106
def H:=hd_ [.agg [Si,Si],Si,Ss] [Si,Sz] .d [F188.k,F189.k] f106
def k:KC_:=kk_ 106 H (u4 AO) func106
end F106
namespace F46
def H:=hd_ [.agg [Si,Si],Si,Ss] [.agg [.agg [Si,Si],Si,Ss,Ob 5,Ow 21,.lf (.list (.list (.int .u8))) (some 31),Ob 5,Sz,Si],Si] .d [F106.k] f46
def k:KC_:=kk_ 46 H (u4 WR) func46
end F46
namespace F108
def H:=hd_ [.agg [Si,Si]] [Si] .d [] f108
def k:KC_:=kk_ 108 H (u2 Xj) func108
end F108
namespace F36
abbrev R_:=Int
def H:=hd_ [Si,Sw] [Si] (.q (.q (.q (.q (.cut [] [] (.q (.blk (.loop [5,6,22,23,24] [] .d))) .d))))) [F95.k] f36
def t4(b f:Int32)(a:LX)(g:Int):S:=⟨[(5,vx b),(6,vx f),(22,vw a),(23,vi (Ac a)),(24,vi g)],[],[]⟩
def z4:ZT_ R_:=H.i P_ [r,r,r,r,l,r,d]
theorem i4(b f:Int32)(a:LX):∀(q:Nat) (g:Int),z4 q (t4 b f a g)=Xd b f a q g:=
 ind (λ_=>by kernel_rfl) λq ih g=>Eq.trans (b:=NC Bl7 (λg=>(z4 q) (t4 b f a g)) b f a g) F5 (by simp only[ih]<;>rfl)
def k:KC_:=kk_ 36 H (u2 Uq) func36 (λx=>Eq.trans (b:=u2 (eE (λb f a g=>z4 Dr (t4 b f a g))) x) F5 (by simp only[i4,Bc]<;>rfl))
end F36
namespace F111
def H:=hd_ [.agg [.agg [Si,Si],Si,Ss,Sb,Sw,.lf (.list (.list (.int .u8))) none,Sb,Sz,Si],Si] [Si] .d [] f111
def k:KC_:=kk_ 111 H (u11 Vj) func111
end F111
namespace F110
def H:=hd_ [.agg [.agg [Si,Si],Si,Ss,Sb,Sw,.lf (.list (.list (.int .u8))) none,Sb,Sz,Si],Si,Si] [Sz] .d [] f110
def k:KC_:=kk_ 110 H (u12 Vf) func110
end F110
namespace F191
abbrev R_:=Bool
abbrev K_:=S->Option R_
def H:=hd_ [.agg [.agg [Si,Si],Si,Ss,Sb,Sw,.lf (.list (.list (.int .u8))) none,Sb,Sz,Si],Si] [Sz] (.q (.q (.cut [1,2,5] [] .d (.q (.q (.cut [1,2,5,6] [] .d (.cut [1,2,5] [] .d (.q (.cut [4] [] (.keep [4,80,81] true) .d))))))))) [F36.k,F108.k,F110.k,F111.k] f191 false [(256,(.q (.cut [4] [] (.keep [4,7,8] true) .d))),(257,.d),(310,(.q (.cut [] [] (.q (.blk (.loop [0,1,7,8] [] (.q (.q (.cut [0,1,7,8] [] (.blk (.q (.cut [0,1,5,7,8,16] [] (.keep [0,1,5,7,8,16] true) .d))) .d)))))) .d)))]
def t16(b:List LB)(f a h:Int):S:=⟨[(0,.val (.list (.list (.int .u8))) b),(1,.fn 257 [.ptr 0 []]),(7,vi (Ac b)),(8,vi h)],[.box 3 (vi (Ae (Ca (Ae (Bm (Bm (81:Int) f) a) (7:Int)) (8:Int)) (4:Int)))],[[(4,vt false)],[]]⟩
def z16:ZT_ R_:=H.i P_ [r,r,r,r,r,r,r,r,l,(call 3 256),r,l,(call 2 310),r,l,r,d]
def x13(f a k o:Int)(p m:LB)(g:LX)(b:List LB)(n:LB)(u:Bool)(v:Int):Option R_:=H.e P_ [r,r,r] ⟨[(1,vi f),(2,.ptr 0 []),(5,vi a)],[.box 90 (.agg [.agg [vi a,vi k],vi o,vs p,vb m,vw g,.val (.list (.list (.int .u8))) b,vb n,vt u,vi v])],[]⟩
theorem i16(b:List LB)(f a:Int):∀(q:Nat) (h:Int),z16 q (t16 b f a h)=Fx b f a q h:=
 ind (λ_=>by kernel_rfl) λq ih h=>Eq.trans (b:=Mh (Wc (λh=>(z16 q) (t16 b f a h)) b f a) Aof b f a h) F5 (by simp only[ih]<;>rfl)
theorem e13:x13=Wf:=Eq.trans (b:=Wk (Qb (Py (λb f a h=>z16 Dr (t16 b f a h))))) F5 (by simp only[i16,Bc]<;>rfl)
def k:KC_:=kk_ 191 H (u11 Uf) func191 (λx=>Eq.trans (b:=u11 (Yw x13) x) F5 (by simp only[e13]<;>rfl))
end F191
namespace F115
def H:=hd_ [.agg [.agg [Si,Si],Si,Ss,Sb,Sw,.lf (.list (.list (.int .u8))) none,Sb,Sz,Si]] [Si] .d [F106.k,F191.k] f115
def k:KC_:=kk_ 115 H (u10 Ij) func115
end F115
namespace F117
def Sg(a:LB):Option (LB):=
t_ a (
some ([]:LB)) (
(Dm ([]:LB) a).bind λb=>
some b)
theorem Bo5: @Sg= @Bz:=by
  unfold Sg Bz
  repeat (refine funext λ_=>?_)
  repeat' first
    |with_reducible rfl
    |with_reducible refine Nc ?_ ?_
    |with_reducible refine Mu ?_ ?_ ?_
    |with_reducible refine Nf ?_ ?_ ?_ ?_
    |((with_reducible refine Tk ?_ ?_);focus (intro h;first|(subst h;rfl)|(simp only[h];rfl)|(simp[Dm,Ac,h];done)))
    |with_reducible refine Tc λx=>?_
    |with_reducible refine AY (λ_=>?_) (λ_=>?_)
    |(refine Hg (λh=>by simp only[h,Ti,Fa,Ew,ite_self]) (λx h=>?_);(try simp only[h,Fa]))
    |(refine Jm (λh=>?_) (λh=>?_)<;>simp only[h,if_true,if_false,Bool.false_eq_true])
def H:=hd_ [Sb] [Ob 5] .d [] f117
def k:KC_:=kk_ 117 H Bz func117 (λx=>Eq.trans (b:=Sg x) F5 (by simp only[Bo5]<;>rfl))
end F117
namespace F192
def Pn(a:LX):Option (LX):=
t_ a (
some ([]:LX)) (
(Dm ([]:LX) a).bind λb=>
some b)
theorem Bnv: @Pn= @Dy:=by
  unfold Pn Dy
  repeat (refine funext λ_=>?_)
  repeat' first
    |with_reducible rfl
    |with_reducible refine Nc ?_ ?_
    |with_reducible refine Mu ?_ ?_ ?_
    |with_reducible refine Nf ?_ ?_ ?_ ?_
    |((with_reducible refine Tk ?_ ?_);focus (intro h;first|(subst h;rfl)|(simp only[h];rfl)|(simp[Dm,Ac,h];done)))
    |with_reducible refine Tc λx=>?_
    |with_reducible refine AY (λ_=>?_) (λ_=>?_)
    |(refine Hg (λh=>by simp only[h,Ti,Fa,Ew,ite_self]) (λx h=>?_);(try simp only[h,Fa]))
    |(refine Jm (λh=>?_) (λh=>?_)<;>simp only[h,if_true,if_false,Bool.false_eq_true])
def H:=hd_ [Sw] [Ow 21] .d [] f192
def k:KC_:=kk_ 192 H Dy func192 (λx=>Eq.trans (b:=Pn x) F5 (by simp only[Bnv]<;>rfl))
end F192
namespace F116
abbrev R_:=(Int×Int×Int×LB×LB×LX×(List LB)×LB×Bool×Int)
def H:=hd_ [.agg [.agg [Si,Si],Si,Ss,Sb,Sw,.lf (.list (.list (.int .u8))) none,Sb,Sz,Si]] [.agg [.agg [Si,Si],Si,Ss,Ob 5,Ow 21,.lf (.list (.list (.int .u8))) (some 31),Ob 5,Sz,Si]] (.q (.cut [1,2] [] .d (.q (.q (.cut [1,2,3] [] (.q (.blk (.loop [1,2,3,26,27] [] .d))) .d))))) [F117.k,F192.k] f116
def t6(w a:List LB)(b f g:Int)(h:LB)(k:Bool)(m:Int)(n:LB)(o:LX)(p:LB)(v:Int)(u:List LB):S:=⟨[(1,.ptr 0 []),(2,.ptr 1 []),(3,.own 2),(26,vi (Ac (XS w a))),(27,vi v)],[.box 90 (.agg [.agg [vi b,vi f],vi g,vs h,.own 3,.own 4,.val (.list (.list (.int .u8))) a,.own 5,vt k,vi m]),.box 90 (.agg [.agg [vi 0,vi 0],vi 0,vs ([]:LB),.nils,.nils,.nils,.nils,vt false,vi 0]),.arr 31 (.list (.int .u8)) u,Ab 5 n,Aw 21 o,Ab 5 p],[]⟩
def z6:ZT_ R_:=H.i P_ [r,r,r,r,l,r,d]
theorem i6(w a:List LB)(b f g:Int)(h:LB)(k:Bool)(m:Int)(n:LB)(o:LX)(p:LB):∀(q:Nat) (v:Int) (u:List LB),z6 q (t6 w a b f g h k m n o p v u)=Uh w a b f g h k m n o p q v u:=
 ind (λ_ _=>by kernel_rfl) λq ih v u=>Eq.trans (b:=JD Bhf (λv u=>(z6 q) (t6 w a b f g h k m n o p v u)) w a b f g h k m n o p v u) F5 (by simp only[ih]<;>rfl)
def k:KC_:=kk_ 116 H (u10 PC) func116 (λx=>Eq.trans (b:=u10 (YE (YQ (λw a b f g h k m n o p v u=>z6 Dr (t6 w a b f g h k m n o p v u)))) x) F5 (by simp only[i6,Bc]<;>rfl))
end F116
namespace F107
abbrev R_:=(Int×Int×Int×LB×LB×LX×(List LB)×LB×Bool×Int×Int×Int)
def H:=hd_ [.agg [.agg [Si,Si],Si,Ss,Sb,Sw,.lf (.list (.list (.int .u8))) none,Sb,Sz,Si]] [.agg [.agg [Si,Si],Si,Ss,Ob 5,Ow 21,.lf (.list (.list (.int .u8))) (some 31),Ob 5,Sz,Si],Si,Si] (.q (.q (.q (.cut [1,2,6,7] [] .d .d)))) [F115.k,F116.k,F188.k] f107
def k:KC_:=kk_ 107 H (u10 HY) func107
end F107
namespace F78
abbrev R_:=(LX×Int)
abbrev K_:=S->Option R_
def H:=hd_ [Si,Sb] [Ow 21,Si] (.q (.q (.q (.q (.q (.q (.cut [10] [] (.q (.blk (.loop [0,1,9,10,11] [⟨10,[],.own 21 (.int .i32)⟩] (.q (.cut [0,1,9,10,11] [] (.blk (.q (.q (.cut [0,1,9,10,11,12] [] (.q (.blk (.loop [0,1,9,10,11,12,53,54] [] .d))) .d)))) .d))))) .d))))))) [F95.k] f78
def t25(a:Int)(b:LB)(f:Int)(g:LX)(k:Int32)(h:Int):S:=⟨[(0,vi a),(1,vb b),(9,vi (Ca a (8:Int))),(10,.own 0),(11,vi f),(12,vx k),(53,vi (Ca a (8:Int))),(54,vi h)],[Aw 21 g],[]⟩
def z25(Pv:K_):ZT_ R_:=H.i P_ [r,r,r,r,r,r,l,r,d,(lp Pv),r,l,d,r,r,l,r,d]
def t16(a:Int)(b:LB)(f:Int)(g:LX):S:=⟨[(0,vi a),(1,vb b),(9,vi (Ca a (8:Int))),(10,.own 0),(11,vi f)],[Aw 21 g],[]⟩
def z16:ZT_ R_:=H.i P_ [r,r,r,r,r,r,l,r,d]
def x25(Pv:K_)(a:Int)(b:LB)(f:Int)(g:LX)(k:Int32)(h:Int):Option R_:=H.e P_ [r,r,r,r,r,r,l,r,d,(lp Pv),r,l,d,r,r,l,r,d] (t25 a b f g k h)
theorem i25(Pv:K_)(a:Int)(b:LB)(f:Int)(g:LX):∀(q:Nat) (k:Int32) (h:Int),z25 Pv q (t25 a b f g k h)=Gh (λf g=>Pv (t16 a b f g)) a b f g q k h:=
 ind (λ_ _=>by kernel_rfl) λq ih k h=>Eq.trans (b:=Hn (BZ (λf g=>Pv (t16 a b f g)) a b) (λk h=>(z25 Pv q) (t25 a b f g k h)) a b f g k h) F5 (by simp only[ih]<;>rfl)
theorem e25(Pv:K_)(a:Int)(b:LB):x25 Pv a b=Pj (λf g=>Pv (t16 a b f g)) a b:=by funext f g k h;exact Eq.trans F5 ((i25 Pv a b f g Dr k h).trans (by rw[Bc];rfl))
theorem i16(a:Int)(b:LB):∀(q:Nat) (f:Int) (g:LX),z16 q (t16 a b f g)=Fh a b q f g:=
 ind (λ_ _=>by kernel_rfl) λq ih f g=>Eq.trans (b:=Hu (Lp (λf g=>(z16 q) (t16 a b f g)) a b) (x25 (z16 q) a b) Ayg a b f g) F5 (by simp only[e25,ih]<;>rfl)
def k:KC_:=kk_ 78 H (u2 UO) func78 (λx=>Eq.trans (b:=u2 (TV (λa b f g=>z16 Dr (t16 a b f g))) x) F5 (by simp only[i16,Bc]<;>rfl))
end F78
namespace F239
abbrev R_:=(UInt64×Int)
abbrev K_:=S->Option R_
def H:=hd_ [Sq,Sb] [Sq,Si] (.q (.q (.cut [4,5] [] (.keep [0,1,4,5,9,10,11,12] true) .d))) [] f239 false [(296,(.q (.cut [1] [] (.q (.blk (.loop [0,1,9,10,11] [] .d))) .d))),(297,(.q (.q (.cut [1] [] (.q (.blk (.loop [1,5] [] (.q (.q (.cut [1,5] [] (.blk (.q (.q (.cut [1,2,3,5] [] (.q (.blk (.loop [1,2,3,5,11] [] .d))) .d)))) .d)))))) .d))))]
def t27(a:LB)(b:UInt64)(f:LQ)(h:UInt64)(m:Int):S:=⟨[(0,.ptr 0 []),(1,vq h),(9,vb a),(10,vi (Ac a)),(11,vi m)],[.box 431 (.val (.vec 256 (.int .u64)) f)],[[(0,vq b),(1,vb a),(4,vq 0),(5,vi 0),(9,.ptr 0 []),(10,vq b),(11,vb a)]]⟩
def z27:ZT_ R_:=H.i P_ [r,r,l,(call 3 296),r,l,r,d]
def t21(b:UInt64)(a:LB)(g:Int)(f:LQ)(k:UInt64)(n:Int):S:=⟨[(1,.ptr 0 []),(2,vi g),(3,vq k),(5,vi g),(11,vi n)],[.box 431 (.val (.vec 256 (.int .u64)) f)],[[(0,vq b),(1,vb a),(4,vq 0),(5,vi 0)]]⟩
def z21(Pv:K_):ZT_ R_:=H.i P_ [r,r,l,(call 0 297),r,r,l,r,d,(lp Pv),r,r,l,d,r,r,l,r,d]
def t16(b:UInt64)(a:LB)(g:Int)(f:LQ):S:=⟨[(1,.ptr 0 []),(5,vi g)],[.box 431 (.val (.vec 256 (.int .u64)) f)],[[(0,vq b),(1,vb a),(4,vq 0),(5,vi 0)]]⟩
def z16:ZT_ R_:=H.i P_ [r,r,l,(call 0 297),r,r,l,r,d]
def x27(a:LB)(b:UInt64)(f:LQ)(h:UInt64)(m:Int):Option R_:=H.e P_ [r,r,l,(call 3 296),r,l,r,d] (t27 a b f h m)
def x21(Pv:K_)(b:UInt64)(a:LB)(g:Int)(f:LQ)(k:UInt64)(n:Int):Option R_:=H.e P_ [r,r,l,(call 0 297),r,r,l,r,d,(lp Pv),r,r,l,d,r,r,l,r,d] (t21 b a g f k n)
theorem i27(a:LB)(b:UInt64)(f:LQ):∀(q:Nat) (h:UInt64) (m:Int),z27 q (t27 a b f h m)=Xk a b f q h m:=
 ind (λ_ _=>by kernel_rfl) λq ih h m=>Eq.trans (b:=OH eD (λh m=>(z27 q) (t27 a b f h m)) a b f h m) F5 (by simp only[ih]<;>rfl)
theorem e27:x27=cR:=by funext a b f h m;exact Eq.trans F5 ((i27 a b f Dr h m).trans (by rw[Bc];rfl))
theorem i21(Pv:K_)(b:UInt64)(a:LB)(g:Int)(f:LQ):∀(q:Nat) (k:UInt64) (n:Int),z21 Pv q (t21 b a g f k n)=Xw (λg f=>Pv (t16 b a g f)) b a g f q k n:=
 ind (λ_ _=>by kernel_rfl) λq ih k n=>Eq.trans (b:=MU (NQ (λg f=>Pv (t16 b a g f)) b a) (λk n=>(z21 Pv q) (t21 b a g f k n)) b a g f k n) F5 (by simp only[ih]<;>rfl)
theorem e21(Pv:K_)(b:UInt64)(a:LB):x21 Pv b a=fJ (λg f=>Pv (t16 b a g f)) b a:=by funext g f k n;exact Eq.trans F5 ((i21 Pv b a g f Dr k n).trans (by rw[Bc];rfl))
theorem i16(b:UInt64)(a:LB):∀(q:Nat) (g:Int) (f:LQ),z16 q (t16 b a g f)=So b a q g f:=
 ind (λ_ _=>by kernel_rfl) λq ih g f=>Eq.trans (b:=OJ (x21 (z16 q) b a) (cC x27) b a g f) F5 (by simp only[e21,e27,ih]<;>rfl)
def k:KC_:=kk_ 239 H (u2 qT) func239 (λx=>Eq.trans (b:=u2 (kM (λb a g f=>z16 Dr (t16 b a g f))) x) F5 (by simp only[i16,Bc]<;>rfl))
end F239
namespace F175
def H:=hd_ [Sb] [Sq,Si] .d [F239.k] f175
def k:KC_:=kk_ 175 H mN func175
end F175
namespace F176
abbrev R_:=LX
def H:=hd_ [Sq] [.lf (.vec 16 (.int .i32)) none] (.q (.q (.cut [2,3] [] (.q (.blk (.loop [0,2,3,5] [] .d))) .d))) [] f176
def t4(f:UInt64)(a:Int)(b:LX):S:=⟨[(0,vq f),(2,.ptr 0 []),(3,.ptr 1 []),(5,vi a)],[.box 165 (.val (.vec 16 (.int .i32)) (List.replicate 16 (0:Int32))),.box 165 (.val (.vec 16 (.int .i32)) b)],[]⟩
def z4:ZT_ R_:=H.i P_ [r,r,l,r,d]
theorem i4(f:UInt64):∀(q:Nat) (a:Int) (b:LX),z4 q (t4 f a b)=TW f q a b:=
 ind (λ_ _=>by kernel_rfl) λq ih a b=>Eq.trans (b:=rL Bex (λa b=>(z4 q) (t4 f a b)) f a b) F5 (by simp only[ih]<;>rfl)
def k:KC_:=kk_ 176 H pC func176 (λx=>Eq.trans (b:=wu (λf a b=>z4 Dr (t4 f a b)) x) F5 (by simp only[i4,Bc]<;>rfl))
end F176
namespace F96
def H:=hd_ [Ss] [.lf (.vec 16 (.int .i32)) none,Si] .d [F175.k,F176.k] f96
def k:KC_:=kk_ 96 H Nu func96
end F96
namespace F242
def H:=hd_ [.agg [Si,Si],Sw] [Si] .d [F36.k,F189.k] f242
def k:KC_:=kk_ 242 H (u3 UN) func242
end F242
namespace F299
def H:=hd_ [Si,Sw] [Si] .d [] f299
def k:KC_:=kk_ 299 H (u2 nB) func299
end F299
namespace F243
abbrev R_:=(LX×Int)
abbrev K_:=S->Option R_
def H:=hd_ [Si,Sw] [Ow 21,Si] (.q (.q (.q (.cut [7] [] (.q (.blk (.loop [0,7,8] [] (.q (.cut [0,7,8] [] (.blk (.keep [0,7,8,24,25,26,27,28,29] true)) .d))))) .d)))) [F192.k,F299.k] f243 true [(300,(.q (.cut [0,2] [] (.q (.blk (.loop [0,2,7,8] [] .d))) .d)))]
def t17(b a f:Int)(g:LX):S:=⟨[(0,.view true 0 [] (.int .i32) a ((Ae a b)-a)),(2,vi (Aq ((Ae a b)-a) (1:Int))),(7,vi (Aq ((Ae a b)-a) (1:Int))),(8,vi f)],[Aw 21 g],[[(0,vi b),(7,.own 0),(8,vi a),(24,.own 0),(25,vi a),(26,vi a),(27,vi b),(28,vi (Ae a b)),(29,.view true 0 [] (.int .i32) a ((Ae a b)-a))]]⟩
def z17(ZJ:K_):ZT_ R_:=H.i P_ [r,r,r,l,r,d,(lp ZJ),r,l,d,(call 6 300),r,l,r,d]
def t12(b a:Int)(h:LX):S:=⟨[(0,vi b),(7,.own 0),(8,vi a)],[Aw 21 h],[]⟩
def z12:ZT_ R_:=H.i P_ [r,r,r,l,r,d]
def x17(ZJ:K_)(b a f:Int)(g:LX):Option R_:=H.e P_ [r,r,r,l,r,d,(lp ZJ),r,l,d,(call 6 300),r,l,r,d] (t17 b a f g)
theorem i17(ZJ:K_)(b a:Int):∀(q:Nat) (f:Int) (g:LX),z17 ZJ q (t17 b a f g)=MA (λa h=>ZJ (t12 b a h)) b a q f g:=
 ind (λ_ _=>by kernel_rfl) λq ih f g=>Eq.trans (b:=gC (uS (λa h=>ZJ (t12 b a h)) b) (λf g=>(z17 ZJ q) (t17 b a f g)) b a f g) F5 (by simp only[ih]<;>rfl)
theorem e17(ZJ:K_)(b:Int):x17 ZJ b=Bm5 (λa h=>ZJ (t12 b a h)) b:=by funext a f g;exact Eq.trans F5 ((i17 ZJ b a Dr f g).trans (by rw[Bc];rfl))
theorem i12(b:Int):∀(q:Nat) (a:Int) (h:LX),z12 q (t12 b a h)=MI b q a h:=
 ind (λ_ _=>by kernel_rfl) λq ih a h=>Eq.trans (b:=uX (x17 (z12 q) b) Bj6 b a h) F5 (by simp only[e17,ih]<;>rfl)
def k:KC_:=kk_ 243 H (u2 q_) func243 (λx=>Eq.trans (b:=u2 (I1 (λb a h=>z12 Dr (t12 b a h))) x) F5 (by simp only[i12,Bc]<;>rfl))
end F243
namespace F301
abbrev R_:=(Int×LX×LX×Int)
def H:=hd_ [Si,.lf (.vec 16 (.int .i32)) none] [.agg [Si,.lf (.vec 16 (.int .i32)) none,.lf (.vec 16 (.int .i32)) none],Si] (.q (.q (.seq (.q (.blk (.cut [4,6,9,11] [] .d .d))) .d))) [] f301
def k:KC_:=kk_ 301 H (u2 S5) func301
end F301
namespace F244
def H:=hd_ [Si,.lf (.vec 16 (.int .i32)) none] [.agg [Si,Sx,.agg [Si,.lf (.vec 16 (.int .i32)) none,.lf (.vec 16 (.int .i32)) none]],Si] .d [F301.k] f244
def k:KC_:=kk_ 244 H (u2 rz) func244
end F244
namespace F302
def H:=hd_ [.agg [Si,Sx,.agg [Si,.lf (.vec 16 (.int .i32)) none,.lf (.vec 16 (.int .i32)) none]]] [Si] .d [F301.k] f302
def k:KC_:=kk_ 302 H (u5 DI) func302
end F302
namespace F338
def H:=hd_ [Si] [Si,Si] .d [] f338
def k:KC_:=kk_ 338 H wH func338
end F338
namespace F339
def H:=hd_ [Si,Sx] [Sx] .d [] f339
def k:KC_:=kk_ 339 H (u2 gG) func339
end F339
namespace F303
def H:=hd_ [Si,Sx] [Sx,Si] .d [F338.k,F339.k] f303
def k:KC_:=kk_ 303 H (u2 DJ) func303
end F303
namespace F369
def H:=hd_ [.agg [Si,.lf (.vec 16 (.int .i32)) none,.lf (.vec 16 (.int .i32)) none]] [Si] .d [] f369
def k:KC_:=kk_ 369 H (u3 TP) func369
end F369
namespace F340
abbrev R_:=(Int32×Int)
def H:=hd_ [.agg [Si,.lf (.vec 16 (.int .i32)) none,.lf (.vec 16 (.int .i32)) none]] [Sx,Si] (.q (.q (.q (.cut [1,5] [] (.q (.blk (.loop [1,5,18,19] [] .d))) .d)))) [F369.k] f340
def t4(b:LX)(a:Int)(f:LX)(h:Int32)(g:Int):S:=⟨[(1,.ptr 0 []),(5,vx h),(18,.val (.vec 16 (.int .i32)) b),(19,vi g)],[.box 330 (.agg [vi a,.val (.vec 16 (.int .i32)) b,.val (.vec 16 (.int .i32)) f])],[]⟩
def z4:ZT_ R_:=H.i P_ [r,r,r,l,r,d]
theorem i4(b:LX)(a:Int)(f:LX):∀(q:Nat) (h:Int32) (g:Int),z4 q (t4 b a f h g)=AP b a f q h g:=
 ind (λ_ _=>by kernel_rfl) λq ih h g=>Eq.trans (b:=UR jX (λh g=>(z4 q) (t4 b a f h g)) b a f h g) F5 (by simp only[ih]<;>rfl)
def k:KC_:=kk_ 340 H (u3 dW) func340 (λx=>Eq.trans (b:=u3 (jT (λb a f h g=>z4 Dr (t4 b a f h g))) x) F5 (by simp only[i4,Bc]<;>rfl))
end F340
namespace F392
def H:=hd_ [Si] [Sx] .d [] f392
def k:KC_:=kk_ 392 H mD func392
end F392
namespace F370
abbrev R_:=(Int×LX×LX×Int)
def H:=hd_ [.agg [Si,.lf (.vec 16 (.int .i32)) none,.lf (.vec 16 (.int .i32)) none],Sx] [.agg [Si,.lf (.vec 16 (.int .i32)) none,.lf (.vec 16 (.int .i32)) none],Si] (.q (.q (.q (.cut [2,4] [] (.q (.blk (.loop [1,2,4,19,20] [] .d))) .d)))) [F369.k,F392.k] f370
def t4(h:Int32)(f:LX)(g a:Int)(b:LX):S:=⟨[(1,vx h),(2,.ptr 0 []),(4,.ptr 1 []),(19,.val (.vec 16 (.int .i32)) f),(20,vi a)],[.box 330 (.agg [vi g,.val (.vec 16 (.int .i32)) b,.val (.vec 16 (.int .i32)) f]),.box 330 (.agg [vi 0,.val (.vec 16 (.int .i32)) (List.replicate 16 (0:Int32)),.val (.vec 16 (.int .i32)) (List.replicate 16 (0:Int32))])],[]⟩
def z4:ZT_ R_:=H.i P_ [r,r,r,l,r,d]
theorem i4(h:Int32)(f:LX)(g:Int):∀(q:Nat) (a:Int) (b:LX),z4 q (t4 h f g a b)=AE h f g q a b:=
 ind (λ_ _=>by kernel_rfl) λq ih a b=>Eq.trans (b:=US Aal (λa b=>(z4 q) (t4 h f g a b)) h f g a b) F5 (by simp only[ih]<;>rfl)
def k:KC_:=kk_ 370 H (u4 rM) func370 (λx=>Eq.trans (b:=u4 (kK (λh f g a b=>z4 Dr (t4 h f g a b))) x) F5 (by simp only[i4,Bc]<;>rfl))
end F370
namespace F371
def jM(j2:Int32->Int->LX->LX->Option (Int×LX×LX×Int))(b:Int)(f a:LX)(g:Int32):Option (Int×LX×LX×Int):=
(TP b f a).bind λh=>
if(Bd h 0)then
some (0,(List.replicate 16 (0:Int32)),(List.replicate 16 (0:Int32)),h)
else
both (
(dZ 16 1 16).bind λ_=>
(dZ 16 0 16).bind λ_=>
j2 g b f a) [
(dZ 16 0 16).bind λ_=>
(dZ 16 1 16).bind λ_=>
j2 g b f a]
theorem Bpt: @jM= @aY:=by
  unfold jM aY
  repeat (refine funext λ_=>?_)
  repeat' first
    |with_reducible rfl
    |with_reducible refine Nc ?_ ?_
    |with_reducible refine Mu ?_ ?_ ?_
    |with_reducible refine Nf ?_ ?_ ?_ ?_
    |((with_reducible refine Tk ?_ ?_);focus (intro h;first|(subst h;rfl)|(simp only[h];rfl)|(simp[Dm,Ac,h];done)))
    |with_reducible refine Tc λx=>?_
    |with_reducible refine AY (λ_=>?_) (λ_=>?_)
    |(refine Hg (λh=>by simp only[h,Ti,Fa,Ew,ite_self]) (λx h=>?_);(try simp only[h,Fa]))
    |(refine Jm (λh=>?_) (λh=>?_)<;>simp only[h,if_true,if_false,Bool.false_eq_true])
abbrev R_:=(Int×LX×LX×Int)
def H:=hd_ [.agg [Si,.lf (.vec 16 (.int .i32)) none,.lf (.vec 16 (.int .i32)) none],Sx] [.agg [Si,.lf (.vec 16 (.int .i32)) none,.lf (.vec 16 (.int .i32)) none],Si] (.q (.q (.cut [1,2,4] [] .d .d))) [F369.k] f371
def k:KC_:=kk_ 371 H (u4 zK) func371 (λx=>Eq.trans (b:=u4 (jM qL) x) F5 (by simp only[Bpt]<;>rfl))
end F371
namespace F341
def H:=hd_ [.agg [Si,.lf (.vec 16 (.int .i32)) none,.lf (.vec 16 (.int .i32)) none],Sx,Sx] [.agg [Si,.lf (.vec 16 (.int .i32)) none,.lf (.vec 16 (.int .i32)) none]] .d [F370.k,F371.k] f341
def k:KC_:=kk_ 341 H (u5 cE) func341
end F341
namespace F304
def H:=hd_ [.agg [Si,.lf (.vec 16 (.int .i32)) none,.lf (.vec 16 (.int .i32)) none],Sx] [Sx,.agg [Si,.lf (.vec 16 (.int .i32)) none,.lf (.vec 16 (.int .i32)) none],Si] .d [F340.k,F341.k] f304
def k:KC_:=kk_ 304 H (u4 jL) func304
end F304
namespace F245
def QG(a:Int)(b:Int32)(f:Int)(g h:LX)(k:Int32):Option (Int32×Int×Int32×Int×LX×LX×Int):=
(DI a b f g h).bind λm=>
if(Bd m 0)then
some (0,0,0,0,(List.replicate 16 (0:Int32)),(List.replicate 16 (0:Int32)),m)
else
(DJ a b).bind λ(n,y)=>
(jL f g h (Aq k n)).bind λ(o,p,u,v,w)=>
bo (
some (o,a,k,p,u,v,w))
theorem Bqy: @QG= @AB:=by
  unfold QG AB;simp only[fL,JH,KA]
def H:=hd_ [.agg [Si,Sx,.agg [Si,.lf (.vec 16 (.int .i32)) none,.lf (.vec 16 (.int .i32)) none]],Sx] [Sx,.agg [Si,Sx,.agg [Si,.lf (.vec 16 (.int .i32)) none,.lf (.vec 16 (.int .i32)) none]],Si] (.q (.q (.q (.q (.seq (.mode false) .d))))) [F302.k,F303.k,F304.k] f245
def k:KC_:=kk_ 245 H (u6 AB) func245 (λx=>Eq.trans (b:=u6 QG x) F5 (by simp only[Bqy]<;>rfl))
end F245
namespace F246
def H:=hd_ [Sx] [Su] .d [] f246
def k:KC_:=kk_ 246 H yN func246
end F246
namespace F179
abbrev R_:=(LU×Int)
def H:=hd_ [.agg [Si,Si],.lf (.vec 16 (.int .i32)) none,Sw] [Ov 175,Si] (.q (.q (.q (.q (.q (.cut [3,9,11] [] (.q (.blk (.loop [3,4,9,11,36] [] .d))) (.q (.cut [13] [] (.q (.blk (.loop [3,11,13,49,50,51] [⟨13,[],.own 175 (.int .u32)⟩] .d))) .d)))))))) [F242.k,F243.k,F244.k,F245.k,F246.k] f179
def t10(b:LX)(a f g:Int)(k:List (Int×Int32×(Int×LX×LX×Unit)×Unit))(h:LU):S:=⟨[(3,.ptr 0 []),(11,.ptr 1 []),(13,.own 2),(49,.own 3),(50,vi (Ac b)),(51,vi g)],[.box 30 (.agg [vi a,vi f]),.box 333 (.val (.vec 6 (.cons (.int .i64) (.cons (.int .i32) (.cons (.cons (.int .i64) (.cons (.vec 16 (.int .i32)) (.cons (.vec 16 (.int .i32)) .nil))) .nil)))) k),Av 175 h,Aw 21 b],[]⟩
def z10:ZT_ R_:=H.i P_ [r,r,r,r,r,r,r,l,r,d]
def t7(a f:Int)(n b:LX)(o:Int)(m:List (Int×Int32×(Int×LX×LX×Unit)×Unit)):S:=⟨[(3,.ptr 0 []),(4,.ptr 1 []),(9,.own 2),(11,.ptr 3 []),(36,vi o)],[.box 30 (.agg [vi a,vi f]),.box 165 (.val (.vec 16 (.int .i32)) n),Aw 21 b,.box 333 (.val (.vec 6 (.cons (.int .i64) (.cons (.int .i32) (.cons (.cons (.int .i64) (.cons (.vec 16 (.int .i32)) (.cons (.vec 16 (.int .i32)) .nil))) .nil)))) m)],[]⟩
def z7:ZT_ R_:=H.i P_ [r,r,r,r,r,l,r,d]
def x10(b:LX)(a f g:Int)(k:List (Int×Int32×(Int×LX×LX×Unit)×Unit))(h:LU):Option R_:=H.e P_ [r,r,r,r,r,r,r,l,r,d] (t10 b a f g k h)
theorem i10(b:LX)(a f:Int):∀(q:Nat) (g:Int) (k:List (Int×Int32×(Int×LX×LX×Unit)×Unit)) (h:LU),z10 q (t10 b a f g k h)=Nr b a f q g k h:=
 ind (λ_ _ _=>by kernel_rfl) λq ih g k h=>Eq.trans (b:=Zl Avb (λg k h=>(z10 q) (t10 b a f g k h)) b a f g k h) F5 (by simp only[ih]<;>rfl)
theorem e10:x10=Arw:=by funext b a f g k h;exact Eq.trans F5 ((i10 b a f Dr g k h).trans (by rw[Bc];rfl))
theorem i7(a f:Int)(n b:LX):∀(q:Nat) (o:Int) (m:List (Int×Int32×(Int×LX×LX×Unit)×Unit)),z7 q (t7 a f n b o m)=OK a f n b q o m:=
 ind (λ_ _=>by kernel_rfl) λq ih o m=>Eq.trans (b:=Avz (Avd x10) (λo m=>(z7 q) (t7 a f n b o m)) a f n b o m) F5 (by simp only[e10,ih]<;>rfl)
def k:KC_:=kk_ 179 H (u4 NU) func179 (λx=>Eq.trans (b:=u4 (NV (λa f n b o m=>z7 Dr (t7 a f n b o m))) x) F5 (by simp only[i7,Bc]<;>rfl))
end F179
namespace F247
def H:=hd_ [] [.agg [Si,Si,Sq,Sq]] .d [] f247
def k:KC_:=kk_ 247 H (λ_=>L8) func247
end F247
namespace F180
abbrev R_:=((List (Int×Int×UInt64×UInt64×Unit)))
def H:=hd_ [] [.lf (.vec 6 (.cons (.int .i64) (.cons (.int .i64) (.cons (.int .u64) (.cons (.int .u64) .nil))))) none] (.q (.q (.cut [0,1] [] (.q (.blk (.loop [0,1,3] [] .d))) .d))) [F247.k] f180
def t4(b:Int)(a:List (Int×Int×UInt64×UInt64×Unit)):S:=⟨[(0,.ptr 0 []),(1,.ptr 1 []),(3,vi b)],[.box 269 (.val (.vec 6 (.cons (.int .i64) (.cons (.int .i64) (.cons (.int .u64) (.cons (.int .u64) .nil))))) (List.replicate 6 ((0:Int),(0:Int),(0:UInt64),(0:UInt64),()))),.box 269 (.val (.vec 6 (.cons (.int .i64) (.cons (.int .i64) (.cons (.int .u64) (.cons (.int .u64) .nil))))) a)],[]⟩
def z4:ZT_ R_:=H.i P_ [r,r,l,r,d]
theorem i4:∀(q:Nat) (b:Int) (a:List (Int×Int×UInt64×UInt64×Unit)),z4 q (t4 b a)=MN q b a:=
 ind (λ_ _=>by kernel_rfl) λq ih b a=>Eq.trans (b:=Bab Az7 (λb a=>(z4 q) (t4 b a)) b a) F5 (by simp only[ih]<;>rfl)
def k:KC_:=kk_ 180 H (λ_=>PA) func180 (λx=>Eq.trans (b:=NO (λb a=>z4 Dr (t4 b a))) F5 (by simp only[i4,Bc]<;>rfl))
end F180
namespace F248
def H:=hd_ [.agg [Sb,Si]] [Si] .d [] f248
def k:KC_:=kk_ 248 H (u2 Mc) func248
end F248
namespace F249
def cY(j4:Int->Int->UInt64->UInt64->Option Int)(a b:Int)(f g:UInt64):Option Int:=
both (
bo (
j4 a b f g)) [
j4 a b f g]
theorem Bns: @cY= @UM:=by
  unfold cY UM
  repeat (refine funext λ_=>?_)
  repeat' first
    |with_reducible rfl
    |with_reducible refine Nc ?_ ?_
    |with_reducible refine Mu ?_ ?_ ?_
    |with_reducible refine Nf ?_ ?_ ?_ ?_
    |((with_reducible refine Tk ?_ ?_);focus (intro h;first|(subst h;rfl)|(simp only[h];rfl)|(simp[Dm,Ac,h];done)))
    |with_reducible refine Tc λx=>?_
    |with_reducible refine AY (λ_=>?_) (λ_=>?_)
    |(refine Hg (λh=>by simp only[h,Ti,Fa,Ew,ite_self]) (λx h=>?_);(try simp only[h,Fa]))
    |(refine Jm (λh=>?_) (λh=>?_)<;>simp only[h,if_true,if_false,Bool.false_eq_true])
def bP(j3:Int->Int->UInt64->UInt64->Option Int)(a b:Int)(f g:UInt64):Option Int:=
both (
bo (
j3 a b f g)) [
j3 a b f g]
theorem Bnw: @bP= @UT:=by
  unfold bP UT
  repeat (refine funext λ_=>?_)
  repeat' first
    |with_reducible rfl
    |with_reducible refine Nc ?_ ?_
    |with_reducible refine Mu ?_ ?_ ?_
    |with_reducible refine Nf ?_ ?_ ?_ ?_
    |((with_reducible refine Tk ?_ ?_);focus (intro h;first|(subst h;rfl)|(simp only[h];rfl)|(simp[Dm,Ac,h];done)))
    |with_reducible refine Tc λx=>?_
    |with_reducible refine AY (λ_=>?_) (λ_=>?_)
    |(refine Hg (λh=>by simp only[h,Ti,Fa,Ew,ite_self]) (λx h=>?_);(try simp only[h,Fa]))
    |(refine Jm (λh=>?_) (λh=>?_)<;>simp only[h,if_true,if_false,Bool.false_eq_true])
abbrev R_:=Int
def H:=hd_ [.agg [Si,Si,Sq,Sq]] [Si] (.q (.q (.cut [1,3] [] (.mode false) (.cut [1,3] [] (.mode false) .d)))) [] f249
def x3(a b:Int)(f g:UInt64):Option R_:=H.e P_ [r,r,r] ⟨[(1,.ptr 0 []),(3,.ptr 1 [])],[.box 268 (.agg [vi a,vi b,vq f,vq g]),.box 268 (.agg [vi (Fq (pJ a (0:Int)) (24:Int)),vi (Fq (pJ b (0:Int)) (24:Int)),vq f,vq g])],[]⟩
theorem e3:x3=kQ:=Eq.trans (b:=cY jO) F5 (by rw[Bns];rfl)
def k:KC_:=kk_ 249 H (u4 eY) func249 (λx=>Eq.trans (b:=u4 (bP x3) x) F5 (by rw[Bnw];simp only[e3]<;>rfl))
end F249
namespace F250
def H:=hd_ [.agg [Si,Si,Sq,Sq],Su] [Si,Su] .d [] f250
def k:KC_:=kk_ 250 H (u5 TY) func250
end F250
namespace F305
def H:=hd_ [.agg [Sb,Si]] [.agg [Ob 5,Si]] .d [F117.k] f305
def k:KC_:=kk_ 305 H (u2 mK) func305
end F305
namespace F251
abbrev R_:=(LB×Int×Int)
abbrev K_:=S->Option R_
def H:=hd_ [.agg [Sb,Si],Sq,Si] [.agg [Ob 5,Si],Si] (.q (.q (.q (.cut [3,6] [] (.keep [1,2,3,6,40,41] true) .d)))) [F248.k,F305.k] f251 false [(306,(.blk (.loop [0,1,2] [] (.q (.blk (.cut [0,1,2] [] .d (.q (.cut [0,1,2,7] [] .d .d))))))))]
def t15(b:UInt64)(a:Int)(m:UInt64)(h f:Int)(o:LB):S:=⟨[(0,.ptr 0 []),(1,vq m),(2,vi h)],[.box 272 (.agg [.own 2,vi f]),.box 272 (.agg [.nils,vi 0]),Ab 5 o],[[(1,vq b),(2,vi a),(3,.ptr 0 []),(6,.ptr 1 []),(40,vq b),(41,vi a)]]⟩
def z15:ZT_ R_:=H.i P_ [r,r,r,l,(call 2 306),d]
def t22(b:UInt64)(a:Int)(n:UInt64)(k g:Int)(p:LB):S:=⟨[(0,.ptr 0 []),(1,vq n),(2,vi k)],[.box 272 (.agg [.own 2,vi g]),.box 272 (.agg [.nils,vi 0]),Ab 5 p],[[(1,vq b),(2,vi a),(3,.ptr 0 []),(6,.ptr 1 []),(40,vq b),(41,vi a)]]⟩
def z22:ZT_ R_:=H.i P_ [r,r,r,l,(call 2 306),d]
theorem i15(b:UInt64)(a:Int):∀(q:Nat) (m:UInt64) (h f:Int) (o:LB),z15 q (t15 b a m h f o)=Um b a q m h f o:=
 ind (λ_ _ _ _=>by kernel_rfl) λq ih m h f o=>Eq.trans (b:=aV (aU (λm h f o=>(z15 q) (t15 b a m h f o)) b a) pD b a m h f o) F5 (by simp only[ih]<;>rfl)
theorem i22(b:UInt64)(a:Int):∀(q:Nat) (n:UInt64) (k g:Int) (p:LB),z22 q (t22 b a n k g p)=pX b a q n k g p:=
 ind (λ_ _ _ _=>by kernel_rfl) λq ih n k g p=>Eq.trans (b:=Ac8 (Afq (λn k g p=>(z22 q) (t22 b a n k g p)) b a) Ahm b a n k g p) F5 (by simp only[ih]<;>rfl)
def k:KC_:=kk_ 251 H (u4 eN) func251 (λx=>Eq.trans (b:=u4 (vD (λb a m h f o=>z15 Dr (t15 b a m h f o)) (λb a n k g p=>z22 Dr (t22 b a n k g p))) x) F5 (by simp only[i15,i22,Bc]<;>rfl))
end F251
namespace F307
def H:=hd_ [Su,Si] [Sz] .d [] f307
def k:KC_:=kk_ 307 H (u2 FO) func307
end F307
namespace F342
def H:=hd_ [Si] [Si,Si] .d [] f342
def k:KC_:=kk_ 342 H qW func342
end F342
namespace F308
def H:=hd_ [.agg [Sb,Si],Si] [.agg [Ob 5,Si],Si] .d [F248.k,F251.k,F342.k] f308
def k:KC_:=kk_ 308 H (u3 iU) func308
end F308
namespace F252
abbrev R_:=(LB×Int×Int)
def H:=hd_ [.agg [Sb,Si],Su,Si] [.agg [Ob 5,Si],Si] (.q (.q (.q (.q (.cut [3,6,9,10,11] [] .d .d))))) [F248.k,F251.k,F307.k,F308.k] f252
def k:KC_:=kk_ 252 H (u4 qC) func252
end F252
namespace F181
def YZ(k u n:Int)(a:UInt64)(b:UInt32)(o:UInt64)(m:LB):Option (LB×Int×Int×Int×UInt64×UInt64×Int):=
(λaf:Option (LB×Int×Int×Int×UInt64×UInt64×Int)=>
both (
bo (
af)) [
af]) (
some (m,k,u,n,(Ae a (Aq (Ag b:UInt64) (Cy a (GI.toZ (4:UInt64)).toNat))),o,0))
theorem Bna: @YZ= @QQ:=by
  unfold YZ QQ
  try simp only[fL,JH,KA]
  all_goals
    repeat (refine funext λ_=>?_)
    repeat' first
      |with_reducible rfl
      |with_reducible refine Nc ?_ ?_
      |with_reducible refine Mu ?_ ?_ ?_
      |with_reducible refine Nf ?_ ?_ ?_ ?_
      |((with_reducible refine Tk ?_ ?_);focus (intro h;first|(subst h;rfl)|(simp only[h];rfl)|(simp[Dm,Ac,h];done)))
      |with_reducible refine Tc λx=>?_
      |with_reducible refine AY (λ_=>?_) (λ_=>?_)
      |(refine Hg (λh=>by simp only[h,Ti,Fa,Ew,ite_self]) (λx h=>?_);(try simp only[h,Fa]))
      |(refine Jm (λh=>?_) (λh=>?_)<;>simp only[h,if_true,if_false,Bool.false_eq_true])
abbrev R_:=(LB×Int×Int×Int×UInt64×UInt64×Int)
def H:=hd_ [.agg [Sb,Si],.agg [Si,Si,Sq,Sq],Su] [.agg [Ob 5,Si],.agg [Si,Si,Sq,Sq],Si] (.q (.cut [2,3,4,6,7] [] .d (.q (.q (.cut [2,3,4,6,7,11] [] .d (.q (.cut [3,4,6,7] [] (.keep [2,3,4,6,7,65] true) (.seq (.mode false) .d)))))))) [F248.k,F249.k,F250.k,F251.k,F252.k] f181 false [(253,(.q (.q (.q (.blk (.cut [0,1,4] [] (.blk (.q (.keep [0,1,4,6,18,19,20,21,22,23,24,25] true))) (.cut [] [] (.keep [0,1,4,27,28,29,30,31,32,33,34] true) .d))))))),(309,.d)]
def x10(k u n:Int)(a:UInt64)(b:UInt32)(o:UInt64)(m:LB):Option R_:=H.e P_ [r,r,r,r,r,r,r] ⟨[(3,.ptr 0 []),(4,.ptr 1 []),(6,.ptr 2 []),(7,.ptr 3 [])],[.box 272 (.agg [.own 4,vi k]),.box 268 (.agg [vi u,vi n,vq (Ae a (Aq (Ag b:UInt64) (Cy a (GI.toZ (4:UInt64)).toNat))),vq o]),.box 272 (.agg [.nils,vi 0]),.box 268 (.agg [vi 0,vi 0,vq 0,vq 0]),Ab 5 m],[]⟩
def x8(b:UInt32)(f:Int)(a:UInt64)(k:Int)(m:LB)(n:Int)(o:UInt64):Option R_:=H.e P_ [r,r,r,r,r,r,l,(call 1 253),r,r,r,d,r] ⟨[(0,.ptr 0 []),(1,vu b),(4,.fn 309 [])],[.box 268 (.agg [vi f,vi n,vq a,vq o]),.box 272 (.agg [.own 4,vi k]),.box 272 (.agg [.nils,vi 0]),.box 268 (.agg [vi 0,vi 0,vq 0,vq 0]),Ab 5 m],[[(2,vu b),(3,.ptr 1 []),(4,.ptr 0 []),(6,.ptr 2 []),(7,.ptr 3 []),(65,vu b)]]⟩
theorem e10:x10=fK:=Eq.trans (b:=YZ) F5 (by rw[Bna];rfl)
theorem e8:x8=HI:=Eq.trans (b:=jR (kD x10)) F5 (by simp only[e10]<;>rfl)
def k:KC_:=kk_ 181 H (u7 pQ) func181 (λx=>Eq.trans (b:=u7 (kW (kO (jP x8))) x) F5 (by simp only[e8]<;>rfl))
end F181
namespace F187
abbrev R_:=(UInt32×Int)
abbrev K_:=S->Option R_
def H:=hd_ [Su,Sb] [Su,Si] (.q (.q (.cut [0,1,6] [] (.keep [0,1,6,12] true) (.cut [0] [] (.q (.blk (.loop [0,6,13,14,15] [] .d))) .d)))) [] f187 false [(255,(.q (.q (.cut [1] [] (.q (.blk (.loop [1,5] [] (.q (.q (.cut [1,5] [] (.blk (.q (.q (.cut [1,2,3,5] [] (.q (.blk (.loop [1,2,3,5,10] [] .d))) .d)))) .d)))))) .d))))]
def t28(a:LB)(b:LU)(h:UInt32)(m:Int):S:=⟨[(0,vu h),(6,.ptr 0 []),(13,vb a),(14,vi (Ac a)),(15,vi m)],[.box 406 (.val (.vec 256 (.int .u32)) b)],[]⟩
def z28:ZT_ R_:=H.i P_ [r,r,r,l,r,d]
def t21(f:UInt32)(a:LB)(g:Int)(b:LU)(k:UInt32)(n:Int):S:=⟨[(1,.ptr 0 []),(2,vi g),(3,vu k),(5,vi g),(10,vi n)],[.box 406 (.val (.vec 256 (.int .u32)) b)],[[(0,vu f),(1,vb a)]]⟩
def z21(Pv:K_):ZT_ R_:=H.i P_ [r,r,l,(call 0 255),r,r,l,r,d,(lp Pv),r,r,l,d,r,r,l,r,d]
def t16(f:UInt32)(a:LB)(g:Int)(b:LU):S:=⟨[(1,.ptr 0 []),(5,vi g)],[.box 406 (.val (.vec 256 (.int .u32)) b)],[[(0,vu f),(1,vb a)]]⟩
def z16:ZT_ R_:=H.i P_ [r,r,l,(call 0 255),r,r,l,r,d]
def x28(a:LB)(b:LU)(h:UInt32)(m:Int):Option R_:=H.e P_ [r,r,r,l,r,d] (t28 a b h m)
def x21(Pv:K_)(f:UInt32)(a:LB)(g:Int)(b:LU)(k:UInt32)(n:Int):Option R_:=H.e P_ [r,r,l,(call 0 255),r,r,l,r,d,(lp Pv),r,r,l,d,r,r,l,r,d] (t21 f a g b k n)
theorem i28(a:LB)(b:LU):∀(q:Nat) (h:UInt32) (m:Int),z28 q (t28 a b h m)=Xm a b q h m:=
 ind (λ_ _=>by kernel_rfl) λq ih h m=>Eq.trans (b:=PX cT (λh m=>(z28 q) (t28 a b h m)) a b h m) F5 (by simp only[ih]<;>rfl)
theorem e28:x28=dP:=by funext a b h m;exact Eq.trans F5 ((i28 a b Dr h m).trans (by rw[Bc];rfl))
theorem i21(Pv:K_)(f:UInt32)(a:LB)(g:Int)(b:LU):∀(q:Nat) (k:UInt32) (n:Int),z21 Pv q (t21 f a g b k n)=Wz (λg b=>Pv (t16 f a g b)) f a g b q k n:=
 ind (λ_ _=>by kernel_rfl) λq ih k n=>Eq.trans (b:=NP (OE (λg b=>Pv (t16 f a g b)) f a) (λk n=>(z21 Pv q) (t21 f a g b k n)) f a g b k n) F5 (by simp only[ih]<;>rfl)
theorem e21(Pv:K_)(f:UInt32)(a:LB):x21 Pv f a=bW (λg b=>Pv (t16 f a g b)) f a:=by funext g b k n;exact Eq.trans F5 ((i21 Pv f a g b Dr k n).trans (by rw[Bc];rfl))
theorem i16(f:UInt32)(a:LB):∀(q:Nat) (g:Int) (b:LU),z16 q (t16 f a g b)=Ru f a q g b:=
 ind (λ_ _=>by kernel_rfl) λq ih g b=>Eq.trans (b:=PZ (x21 (z16 q) f a) (cX (dG x28)) f a g b) F5 (by simp only[e21,e28,ih]<;>rfl)
def k:KC_:=kk_ 187 H (u2 rC) func187 (λx=>Eq.trans (b:=u2 (kA (λf a g b=>z16 Dr (t16 f a g b))) x) F5 (by simp only[i16,Bc]<;>rfl))
end F187
namespace F102
def H:=hd_ [Sb] [Su,Si] .d [F187.k] f102
def k:KC_:=kk_ 102 H EN func102
end F102
namespace F186
def H:=hd_ [Sq,Si] [Sz] .d [] f186
def k:KC_:=kk_ 186 H (u2 p_) func186
end F186
namespace F101
abbrev R_:=(LB×Int)
def H:=hd_ [Sq,Si] [Ob 5,Si] (.q (.q (.q (.q (.cut [6] [] (.q (.blk (.loop [0,6,21,22] [] .d))) .d))))) [F186.k] f101
def t4(f:UInt64)(g:LB)(a:Int)(b:LB):S:=⟨[(0,vq f),(6,.own 0),(21,vi (Ac g)),(22,vi a)],[Ab 5 b],[]⟩
def z4:ZT_ R_:=H.i P_ [r,r,r,r,l,r,d]
theorem i4(f:UInt64)(g:LB):∀(q:Nat) (a:Int) (b:LB),z4 q (t4 f g a b)=LZ f g q a b:=
 ind (λ_ _=>by kernel_rfl) λq ih a b=>Eq.trans (b:=gZ uW (λa b=>(z4 q) (t4 f g a b)) f g a b) F5 (by simp only[ih]<;>rfl)
def k:KC_:=kk_ 101 H (u2 HF) func101 (λx=>Eq.trans (b:=u2 (wN (λf g a b=>z4 Dr (t4 f g a b))) x) F5 (by simp only[i4,Bc]<;>rfl))
end F101
namespace F183
abbrev R_:=LB
def H:=hd_ [.lf (.list (.list (.int .u8))) none] [Ob 5] (.q (.q (.cut [0,3] [] (.q (.blk (.loop [0,3,9,10,11] [] .d))) (.cut [0,6] [⟨6,[],.own 5 (.int .u8)⟩] (.keep [0,3,6,23,24] true) (.cut [6] [] (.q (.blk (.loop [6,25,26,27] [] .d))) .d))))) [] f183 true [(254,(.q (.cut [0,1] [] .d .d)))]
def t14(a:List LB)(g:Int)(f:LB):S:=⟨[(6,.own 0),(25,.val (.list (.list (.int .u8))) a),(26,vi (Ac a)),(27,vi g)],[Ab 5 f],[]⟩
def z14:ZT_ R_:=H.i P_ [r,r,r,r,l,r,d]
def t9(a:List LB)(b h:Int):S:=⟨[(0,.val (.list (.list (.int .u8))) a),(3,vi b),(9,.val (.list (.list (.int .u8))) a),(10,vi (Ac a)),(11,vi h)],[],[]⟩
def z9:ZT_ R_:=H.i P_ [r,r,l,r,d]
def x14(a:List LB)(g:Int)(f:LB):Option R_:=H.e P_ [r,r,r,r,l,r,d] (t14 a g f)
theorem i14(a:List LB):∀(q:Nat) (g:Int) (f:LB),z14 q (t14 a g f)=Dc a q g f:=
 ind (λ_ _=>by kernel_rfl) λq ih g f=>Eq.trans (b:=Ek Aa6 (λg f=>(z14 q) (t14 a g f)) a g f) F5 (by simp only[ih]<;>rfl)
theorem e14:x14=Ky:=by funext a g f;exact Eq.trans F5 ((i14 a Dr g f).trans (by rw[Bc];rfl))
theorem i9(a:List LB):∀(q:Nat) (b h:Int),z9 q (t9 a b h)=Dj a q b h:=
 ind (λ_ _=>by kernel_rfl) λq ih b h=>Eq.trans (b:=Er (La (Lb (Kz x14))) (λb h=>(z9 q) (t9 a b h)) a b h) F5 (by simp only[e14,ih]<;>rfl)
def k:KC_:=kk_ 183 H Gd func183 (λx=>Eq.trans (b:=Sp (λa b h=>z9 Dr (t9 a b h)) x) F5 (by simp only[i9,Bc]<;>rfl))
end F183
namespace F98
abbrev R_:=(LB×Int)
abbrev K_:=S->Option R_
def H:=hd_ [.agg [Si,Si],.lf (.vec 16 (.int .i32)) none,Sw] [Ob 5,Si] (.q (.q (.q (.q (.q (.cut [11] [] (.q (.blk (.loop [3,10,11,30,31,32] [⟨11,[0],.own 5 (.int .u8)⟩] (.q (.q (.cut [3,10,11,30,31,32] [] (.blk (.q (.q (.q (.q (.keep [3,10,11,14,30,31,32,59] true)))))) .d)))))) .d)))))) [F101.k,F102.k,F179.k,F180.k,F181.k,F183.k] f98 false [(182,(.q (.q (.blk (.loop [0,3,7,8] [] (.q (.q (.seq (.blk (.q (.cut [0,3,4,7,8] [] .d (.q (.cut [0,3,7,8] [] .d .d))))) .d))))))))]
def t44(b:LU)(a g h f:Int)(n:List (Int×Int×UInt64×UInt64×Unit))(m:LB)(o k:Int)(w:LB):S:=⟨[(0,.ptr 0 []),(3,.ptr 1 []),(7,vi h),(8,vi o)],[.box 272 (.agg [.own 7,vi k]),.box 272 (.agg [.own 6,vi h]),.box 30 (.agg [vi a,vi g]),.box 269 (.val (.vec 6 (.cons (.int .i64) (.cons (.int .i64) (.cons (.int .u64) (.cons (.int .u64) .nil))))) n),.box 272 (.agg [.own 6,vi h]),Av 175 b,Ab 5 m,Ab 5 w],[[(3,.ptr 2 []),(10,.ptr 3 []),(11,.ptr 0 []),(14,.ptr 4 []),(30,.own 5),(31,vi (Ac b)),(32,vi f),(59,.agg [.own 6,vi h])]]⟩
def z44(ZK:K_):ZT_ R_:=H.i P_ [r,r,r,r,r,l,r,d,(lp ZK),r,r,l,d,r,r,r,r,(call 1 182),r,r,d]
def t27(b:LU)(a g f:Int)(u:List (Int×Int×UInt64×UInt64×Unit))(v:Int)(p:LB):S:=⟨[(3,.ptr 0 []),(10,.ptr 1 []),(11,.ptr 2 []),(30,.own 3),(31,vi (Ac b)),(32,vi f)],[.box 30 (.agg [vi a,vi g]),.box 269 (.val (.vec 6 (.cons (.int .i64) (.cons (.int .i64) (.cons (.int .u64) (.cons (.int .u64) .nil))))) u),.box 272 (.agg [.own 4,vi v]),Av 175 b,Ab 5 p],[]⟩
def z27:ZT_ R_:=H.i P_ [r,r,r,r,r,l,r,d]
def x44(ZK:K_)(b:LU)(a g h f:Int)(n:List (Int×Int×UInt64×UInt64×Unit))(m:LB)(o k:Int)(w:LB):Option R_:=H.e P_ [r,r,r,r,r,l,r,d,(lp ZK),r,r,l,d,r,r,r,r,(call 1 182),r,r,d] (t44 b a g h f n m o k w)
theorem i44(ZK:K_)(b:LU)(a g h f:Int)(n:List (Int×Int×UInt64×UInt64×Unit))(m:LB):∀(q:Nat) (o k:Int) (w:LB),z44 ZK q (t44 b a g h f n m o k w)=Ih (λf u v p=>ZK (t27 b a g f u v p)) b a g h f n m q o k w:=
 ind (λ_ _ _=>by kernel_rfl) λq ih o k w=>Eq.trans (b:=Zn (Yx (λo k w=>(z44 ZK q) (t44 b a g h f n m o k w)) h b f a g n m) (KF (λf u v p=>ZK (t27 b a g f u v p)) b a g) b a g h f n m o k w) F5 (by simp only[ih]<;>rfl)
theorem e44(ZK:K_)(b:LU)(a g:Int):x44 ZK b a g=Atg (λf u v p=>ZK (t27 b a g f u v p)) b a g:=by funext h f n m o k w;exact Eq.trans F5 ((i44 ZK b a g h f n m Dr o k w).trans (by rw[Bc];rfl))
theorem i27(b:LU)(a g:Int):∀(q:Nat) (f:Int) (u:List (Int×Int×UInt64×UInt64×Unit)) (v:Int) (p:LB),z27 q (t27 b a g f u v p)=Kh b a g q f u v p:=
 ind (λ_ _ _ _=>by kernel_rfl) λq ih f u v p=>Eq.trans (b:=Zf (x44 (z27 q) b a g) JR b a g f u v p) F5 (by simp only[e44,ih]<;>rfl)
def k:KC_:=kk_ 98 H (u4 Oz) func98 (λx=>Eq.trans (b:=u4 (NI (λb a g f u v p=>z27 Dr (t27 b a g f u v p))) x) F5 (by simp only[i27,Bc]<;>rfl))
end F98
namespace F113
def H:=hd_ [.agg [.agg [Si,Si],Si,Ss,Sb,Sw,.lf (.list (.list (.int .u8))) none,Sb,Sz,Si],Si] [.agg [.agg [Si,Si],Si,Ss,Ob 5,Ow 21,.lf (.list (.list (.int .u8))) (some 31),Ob 5,Sz,Si],Si] .d [] f113
def k:KC_:=kk_ 113 H (u11 Zk) func113
end F113
namespace F47
abbrev R_:=(Int×Int×Int×LB×LB×LX×(List LB)×LB×Bool×Int×Int)
abbrev K_:=S->Option R_
def H:=hd_ [.agg [.agg [Si,Si],Si,Ss,Sb,Sw,.lf (.list (.list (.int .u8))) none,Sb,Sz,Si],Sb] [.agg [.agg [Si,Si],Si,Ss,Ob 5,Ow 21,.lf (.list (.list (.int .u8))) (some 31),Ob 5,Sz,Si],Si] (.q (.q (.q (.q (.q (.cut [2,4] [] (.q (.blk (.loop [2,4,8,9,27,28,29] [] (.q (.q (.cut [2,4,8,9,27,28,29] [] (.blk (.q (.q (.q (.cut [2,4,8,9,12,27,28,29] [⟨2,[3],.own 5 (.int .u8)⟩,⟨2,[4],.own 21 (.int .i32)⟩,⟨9,[0,3],.own 5 (.int .u8)⟩,⟨9,[0,4],.own 21 (.int .i32)⟩] (.keep [2,4,8,9,12,27,28,29,45] true) .d))))) .d)))))) .d)))))) [F78.k,F96.k,F98.k,F107.k,F108.k,F110.k,F111.k,F113.k] f47 false [(109,(.q (.cut [0,1] [] .d (.q (.q (.q (.q (.cut [2] [] (.keep [2,43] true) .d)))))))),(112,.d)]
def t14(p:Int)(n:LB)(a b g:Int)(f:LB)(h:Bool)(k o:Int)(m:LB)(u:Int)(y:LB)(w:LX)(v:List LB):S:=⟨[(2,.ptr 0 []),(4,.ptr 1 []),(8,vi p),(9,.fn 109 [.ptr 0 [],.ptr 2 []]),(27,vb n),(28,vi (Ac n)),(29,vi u)],[.box 90 (.agg [.agg [vi a,vi b],vi g,vs f,.own 3,.own 4,.own 5,.own 6,vt h,vi k]),.box 90 (.agg [.agg [vi 0,vi 0],vi 0,vs ([]:LB),.nils,.nils,.nils,.nils,vt false,vi 0]),.box 3 (vi o),Ab 5 y,Aw 21 w,.arr 31 (.list (.int .u8)) v,Ab 5 m],[]⟩
def z14:ZT_ R_:=H.i P_ [r,r,r,r,r,l,r,d]
theorem i14(p:Int)(n:LB)(a b g:Int)(f:LB)(h:Bool)(k o:Int)(m:LB):∀(q:Nat) (u:Int) (y:LB) (w:LX) (v:List LB),z14 q (t14 p n a b g f h k o m u y w v)=Km p n a b g f h k o m q u y w v:=
 ind (λ_ _ _ _=>by kernel_rfl) λq ih u y w v=>Eq.trans (b:=FL (Re (λu y w v=>(z14 q) (t14 p n a b g f h k o m u y w v)) p n a b g f h k o m) (Kx (λu y w v=>(z14 q) (t14 p n a b g f h k o m u y w v)) p n a b g f h k o m) (SZ (λu y w v=>(z14 q) (t14 p n a b g f h k o m u y w v)) p n a b g f h k o m) UJ p n a b g f h k o m u y w v) F5 (by simp only[ih]<;>rfl)
def k:KC_:=kk_ 47 H (u11 MZ) func47 (λx=>Eq.trans (b:=u11 (ZF (λp n a b g f h k o m u y w v=>z14 Dr (t14 p n a b g f h k o m u y w v))) x) F5 (by simp only[i14,Bc]<;>rfl))
end F47
namespace F190
def H:=hd_ [Ss] [Si,Si] .d [] f190
def k:KC_:=kk_ 190 H UZ func190
end F190
namespace F184
abbrev R_:=Bool
def H:=hd_ [.agg [Si,Si,Si,Si,Si]] [Sz] (.q (.cut [1] [] .d .d)) [] f184
def k:KC_:=kk_ 184 H (u5 Vh) func184
end F184
namespace F228
def H:=hd_ [Si,Si] [Si,Si] .d [F188.k] f228
def k:KC_:=kk_ 228 H (u2 Lh) func228
end F228
namespace F185
def H:=hd_ [.agg [Si,Si,Si,Si,Si]] [Sz] .d [F228.k] f185
def k:KC_:=kk_ 185 H (u5 XK) func185
end F185
namespace F100
def H:=hd_ [.agg [Si,Si,Si,Si,Si]] [Si] .d [F184.k,F185.k] f100
def k:KC_:=kk_ 100 H (u5 Qk) func100
end F100
namespace F39
abbrev R_:=(LB×Int)
def H:=hd_ [.agg [Si,Si,Si,Si,Si]] [Ob 5,Si] (.q (.q (.q (.cut [5] [] (.q (.blk (.loop [5,31,32] [] .d))) .d)))) [F100.k,F101.k,F102.k] f39
def t4(b f g h k m:Int)(a:LB):S:=⟨[(5,.own 0),(31,.val (.vec 5 (.int .i64)) ([b,f,g,h,k]:LI)),(32,vi m)],[Ab 5 a],[]⟩
def z4:ZT_ R_:=H.i P_ [r,r,r,l,r,d]
theorem i4(b f g h k:Int):∀(q:Nat) (m:Int) (a:LB),z4 q (t4 b f g h k m a)=Po b f g h k q m a:=
 ind (λ_ _=>by kernel_rfl) λq ih m a=>Eq.trans (b:=JA JC (λm a=>(z4 q) (t4 b f g h k m a)) b f g h k m a) F5 (by simp only[ih]<;>rfl)
def k:KC_:=kk_ 39 H (u5 OY) func39 (λx=>Eq.trans (b:=u5 (ZG (λb f g h k m a=>z4 Dr (t4 b f g h k m a))) x) F5 (by simp only[i4,Bc]<;>rfl))
end F39
namespace F103
def H:=hd_ [Ss] [Sq,Si] .d [F175.k] f103
def k:KC_:=kk_ 103 H nu func103
end F103
namespace F40
def H:=hd_ [Ss] [Ob 5,Si] .d [F101.k,F103.k] f40
def k:KC_:=kk_ 40 H FF func40
end F40
namespace F104
abbrev R_:=Int
def H:=hd_ [Sl] [Si] (.q (.q (.q (.cut [] [] (.q (.blk (.loop [3,14,15,16] [] .d))) .d)))) [] f104
def t4(a:LI)(f b:Int):S:=⟨[(3,vi f),(14,vl a),(15,vi (Ac a)),(16,vi b)],[],[]⟩
def z4:ZT_ R_:=H.i P_ [r,r,r,l,r,d]
theorem i4(a:LI):∀(q:Nat) (f b:Int),z4 q (t4 a f b)=Xn a q f b:=
 ind (λ_ _=>by kernel_rfl) λq ih f b=>Eq.trans (b:=QL Bma (λf b=>(z4 q) (t4 a f b)) a f b) F5 (by simp only[ih]<;>rfl)
def k:KC_:=kk_ 104 H Ra func104 (λx=>Eq.trans (b:=PM (λa f b=>z4 Dr (t4 a f b)) x) F5 (by simp only[i4,Bc]<;>rfl))
end F104
namespace F41
abbrev R_:=(LB×Int)
abbrev K_:=S->Option R_
def H:=hd_ [Sl] [Ob 5,Si] (.q (.q (.q (.q (.cut [5,6] [] (.q (.blk (.loop [5,6,17,18,19] [⟨5,[],.own 5 (.int .u8)⟩,⟨6,[0],.own 5 (.int .u8)⟩] (.q (.q (.cut [5,6,17,18,19] [] (.blk (.q (.keep [5,6,8,17,18,19,23,24,25] true))) .d)))))) (.q (.cut [5] [] (.keep [5,6,9,33,34,35] true) .d))))))) [F101.k,F102.k,F104.k] f41 false [(105,.d)]
def t8(a:LI)(f:Int)(b:LB):S:=⟨[(5,.ptr 0 []),(6,.fn 105 [.ptr 0 []]),(17,vl a),(18,vi (Ac a)),(19,vi f)],[.box 31 (.own 1),Ab 5 b],[]⟩
def z8:ZT_ R_:=H.i P_ [r,r,r,r,l,r,d]
theorem i8(a:LI):∀(q:Nat) (f:Int) (b:LB),z8 q (t8 a f b)=Wu a q f b:=
 ind (λ_ _=>by kernel_rfl) λq ih f b=>Eq.trans (b:=QJ (YM (λf b=>(z8 q) (t8 a f b)) a) YD a f b) F5 (by simp only[ih]<;>rfl)
def k:KC_:=kk_ 41 H MG func41 (λx=>Eq.trans (b:=cW (λa f b=>z8 Dr (t8 a f b)) x) F5 (by simp only[i8,Bc]<;>rfl))
end F41
namespace F114
def SQ(f g h:Int)(b k:LB)(m:LX)(a:List LB)(n:LB)(o:Bool)(p:Int)(u:LB)(v:LI):Option (LB×Int):=
(MG v).bind λ(aa,y)=>
if(Bd y 0)then
some (([]:LB),y)
else
(λao:Option (LB×Int)=>
bo (
ao)) (
(Dm u aa).bind λab=>
(Gd a).bind λac=>
(Dm ab ac).bind λad=>
some (ad,0))
theorem Bri: @SQ= @IM:=by
  unfold SQ IM;simp only[fL,JH,KA]
abbrev R_:=(LB×Int)
def H:=hd_ [.agg [.agg [Si,Si],Si,Ss,Sb,Sw,.lf (.list (.list (.int .u8))) none,Sb,Sz,Si],Si] [Ob 5,Si] (.q (.q (.q (.q (.q (.cut [2,8] [] .d (.q (.cut [2,8,11] [] (.q (.blk (.loop [2,8,11,58,59,60] [⟨11,[],.own 3 (.int .i64)⟩] .d))) (.q (.q (.seq (.mode false) .d))))))))))) [F39.k,F40.k,F41.k,F183.k,F190.k] f114
def t6(a:List LB)(f g h:Int)(b k:LB)(m:LX)(n:LB)(o:Bool)(p:Int)(u:LB)(w:Int)(v:LI):S:=⟨[(2,.ptr 0 []),(8,.own 1),(11,.own 2),(58,.val (.list (.list (.int .u8))) a),(59,vi (Ac a)),(60,vi w)],[.box 90 (.agg [.agg [vi f,vi g],vi h,vs b,vb k,vw m,.val (.list (.list (.int .u8))) a,vb n,vt o,vi p]),Ab 5 u,Ai 3 v],[]⟩
def z6:ZT_ R_:=H.i P_ [r,r,r,r,r,r,r,l,r,d]
def x8(f g h:Int)(b k:LB)(m:LX)(a:List LB)(n:LB)(o:Bool)(p:Int)(u:LB)(v:LI):Option R_:=H.e P_ [r,r,r,r,r,r,r,r] ⟨[(2,.ptr 0 []),(8,.own 1),(11,.own 2)],[.box 90 (.agg [.agg [vi f,vi g],vi h,vs b,vb k,vw m,.val (.list (.list (.int .u8))) a,vb n,vt o,vi p]),Ab 5 u,Ai 3 v],[]⟩
theorem e8:x8=Zv:=Eq.trans (b:=SQ) F5 (by rw[Bri];rfl)
theorem i6(a:List LB)(f g h:Int)(b k:LB)(m:LX)(n:LB)(o:Bool)(p:Int)(u:LB):∀(q:Nat) (w:Int) (v:LI),z6 q (t6 a f g h b k m n o p u w v)=Ug a f g h b k m n o p u q w v:=
 ind (λ_ _=>by kernel_rfl) λq ih w v=>Eq.trans (b:=IP x8 (λw v=>(z6 q) (t6 a f g h b k m n o p u w v)) a f g h b k m n o p u w v) F5 (by simp only[e8,ih]<;>rfl)
def k:KC_:=kk_ 114 H (u11 bE) func114 (λx=>Eq.trans (b:=u11 (YA (JE (λa f g h b k m n o p u w v=>z6 Dr (t6 a f g h b k m n o p u w v)))) x) F5 (by simp only[i6,Bc]<;>rfl))
end F114
namespace F48
abbrev R_:=(Int×Int×Int×LB×LB×LX×(List LB)×LB×Bool×Int×Int)
def H:=hd_ [.agg [.agg [Si,Si],Si,Ss,Sb,Sw,.lf (.list (.list (.int .u8))) none,Sb,Sz,Si]] [.agg [.agg [Si,Si],Si,Ss,Ob 5,Ow 21,.lf (.list (.list (.int .u8))) (some 31),Ob 5,Sz,Si],Si] (.q (.q (.q (.q (.q (.cut [1,2,6] [] (.q (.cond (.cut [1,2,6,7] [⟨1,[4],.own 21 (.int .i32)⟩] (.keep [1,2,6,7,38] true) .d) .d)) .d)))))) [F96.k,F98.k,F107.k,F111.k,F113.k,F114.k] f48 false [(112,.d)]
def k:KC_:=kk_ 48 H (u10 CR) func48
end F48
namespace F49
def H:=hd_ [.agg [.agg [Si,Si],Si,Ss,Sb,Sw,.lf (.list (.list (.int .u8))) none,Sb,Sz,Si],Si] [.agg [.agg [Si,Si],Si,Ss,Ob 5,Ow 21,.lf (.list (.list (.int .u8))) (some 31),Sb,Sz,Si],Ob 5,Si] .d [F115.k,F116.k,F117.k] f49
def k:KC_:=kk_ 49 H (u11 HN) func49
end F49
namespace F10
abbrev R_:=(LB×Int)
abbrev K_:=S->Option R_
def H:=hd_ [.agg [Si,Si],Si,Ss,Sb,Sq] [Ob 5,Si] (.q (.q (.q (.q (.q (.cut [14] [] (.q (.blk (.loop [3,14,39,40,41] [] (.q (.q (.seq (.blk (.q (.seq (.cut [3,13,14,16,39,40,41] [] (.mode false) .d) .d))) .d)))))) .d)))))) [F45.k,F46.k,F47.k,F48.k,F49.k] f10
def t6(a:LI)(f:LB)(b g h k:Int)(m:LB)(n:Bool)(o:Int)(p:LB)(u:LX)(v:List LB)(w:LB):S:=⟨[(3,vb f),(14,.ptr 0 []),(39,.own 1),(40,vi (Ac a)),(41,vi b)],[.box 90 (.agg [.agg [vi g,vi h],vi k,vs m,.own 2,.own 3,.own 4,.own 5,vt n,vi o]),Ai 3 a,Ab 5 p,Aw 21 u,.arr 31 (.list (.int .u8)) v,Ab 5 w],[]⟩
def z6:ZT_ R_:=H.i P_ [r,r,r,r,r,l,r,d]
theorem i6(a:LI):∀(q:Nat) (f:LB) (b g h k:Int) (m:LB) (n:Bool) (o:Int) (p:LB) (u:LX) (v:List LB) (w:LB),z6 q (t6 a f b g h k m n o p u v w)=Ro a q f b g h k m n o p u v w:=
 ind (λ_ _ _ _ _ _ _ _ _ _ _ _=>by kernel_rfl) λq ih f b g h k m n o p u v w=>Eq.trans (b:=EH (EG (λf b g h k m n o p u v w=>(z6 q) (t6 a f b g h k m n o p u v w)) a) OW a f b g h k m n o p u v w) F5 (by simp only[ih]<;>rfl)
def k:KC_:=kk_ 10 H (u6 IF) func10 (λx=>Eq.trans (b:=u6 (SU (λa f b g h k m n o p u v w=>z6 Dr (t6 a f b g h k m n o p u v w))) x) F5 (by simp only[i6,Bc]<;>rfl))
end F10
namespace F237
def H:=hd_ [Sq,Sq] [Sq,Sq] .d [] f237
def k:KC_:=kk_ 237 H (u2 YR) func237
end F237
namespace F168
def H:=hd_ [Sq,Sq] [Sq,Sq] .d [F237.k] f168
def k:KC_:=kk_ 168 H (u2 IA) func168
end F168
namespace F92
def Jo(j10:(List (UInt8×Int×Unit))->Option ((List (UInt8×Int×Unit))))(bk8:Int-> (List (UInt8×Int×Unit))->Option ((List (UInt8×Int×Unit))))(b:Int)(a:List (UInt8×Int×Unit)):Option ((List (UInt8×Int×Unit))):=
if(Cj b (Ac a))then
both (
(dZ (Ac a) b (Ac a)).bind λ_=>
(dZ (Ac a) 0 b).bind λ_=>
bk8 (Ae b (PO ((Ac a)-b) (QY a 0 (b-(0:Int))).length)) (Ww a b ((Ac a)-b) (QY a 0 (b-(0:Int))))) [
(dZ (Ac a) 0 b).bind λ_=>
(dZ (Ac a) b (Ac a)).bind λ_=>
bk8 (Ae b (PO ((Ac a)-b) (QY a 0 (b-(0:Int))).length)) (Ww a b ((Ac a)-b) (QY a 0 (b-(0:Int))))]
else
j10 a
theorem Bmy: @Jo= @Kj:=by
  unfold Jo Kj
  repeat (refine funext λ_=>?_)
  repeat' first
    |with_reducible rfl
    |with_reducible refine Nc ?_ ?_
    |with_reducible refine Mu ?_ ?_ ?_
    |with_reducible refine Nf ?_ ?_ ?_ ?_
    |((with_reducible refine Tk ?_ ?_);focus (intro h;first|(subst h;rfl)|(simp only[h];rfl)|(simp[Dm,Ac,h];done)))
    |with_reducible refine Tc λx=>?_
    |with_reducible refine AY (λ_=>?_) (λ_=>?_)
    |(refine Hg (λh=>by simp only[h,Ti,Fa,Ew,ite_self]) (λx h=>?_);(try simp only[h,Fa]))
    |(refine Jm (λh=>?_) (λh=>?_)<;>simp only[h,if_true,if_false,Bool.false_eq_true])
abbrev R_:=((List (UInt8×Int×Unit)))
def H:=hd_ [.lf (.list (.cons (.int .u8) (.cons (.int .i64) .nil))) none,Si] [.lf (.list (.cons (.int .u8) (.cons (.int .i64) .nil))) (some 113)] (.q (.cut [0,1] [] .d (.q (.cut [0,6] [] .d (.q (.q (.cut [7] [] (.blk (.loop [7,8] [] (.q (.blk (.mode false))))) .d))))))) [F168.k] f92 true
def t8(b:Int)(a:List (UInt8×Int×Unit)):S:=⟨[(7,.own 0),(8,vi b)],[.arr 113 (.cons (.int .u8) (.cons (.int .i64) .nil)) a],[]⟩
def z8:ZT_ R_:=H.i P_ [r,r,r,r,r,r,l,d]
theorem i8:∀(q:Nat) (b:Int) (a:List (UInt8×Int×Unit)),z8 q (t8 b a)=Kk q b a:=
 ind (λ_ _=>by kernel_rfl) λq ih b a=>Eq.trans (b:=Jo Afo (λb a=>(z8 q) (t8 b a)) b a) F5 (by rw[Bmy];simp only[ih]<;>rfl)
def k:KC_:=kk_ 92 H (u2 Mn) func92 (λx=>Eq.trans (b:=u2 (Ago (Ahe (Agp (λb a=>z8 Dr (t8 b a))))) x) F5 (by simp only[i8,Bc]<;>rfl))
end F92
namespace F33
def H:=hd_ [Si,Si,Si] [.lf (.list (.cons (.int .u8) (.cons (.int .i64) .nil))) (some 113),Si] .d [F92.k] f33
def k:KC_:=kk_ 33 H (u3 LC) func33
end F33
namespace F171
abbrev R_:=Bool
def H:=hd_ [.agg [Sc,Si]] [Sz] (.q (.seq (.q (.blk (.cut [1,4,5] [] .d .d))) .d)) [] f171
def k:KC_:=kk_ 171 H (u2 qQ) func171
end F171
namespace F170
def H:=hd_ [.agg [Sc,Si]] [Sz] .d [F171.k] f170
def k:KC_:=kk_ 170 H (u2 PB) func170
end F170
namespace F93
abbrev R_:=Int
abbrev K_:=S->Option R_
def H:=hd_ [.lf (.list (.cons (.int .u8) (.cons (.int .i64) .nil))) none] [Si] (.q (.q (.cut [] [] (.cut [7] [] (.keep [7] true) .d) .d))) [F170.k] f93 false [(169,(.q (.cut [4] [] (.keep [4,7,8] true) .d))),(238,(.q (.cut [] [] (.q (.blk (.loop [0,1,7,8] [] (.q (.q (.cut [0,1,7,8] [] (.blk (.q (.cut [0,1,5,7,8,16] [] .d .d))) .d)))))) .d)))]
def t11(a:List (UInt8×Int×Unit))(b:Int):S:=⟨[(0,.val (.list (.cons (.int .u8) (.cons (.int .i64) .nil))) a),(1,.fn 170 []),(7,vi (Ac a)),(8,vi b)],[],[[(4,vt false)],[]]⟩
def z11:ZT_ R_:=H.i P_ [r,r,l,l,(call 1 169),r,l,(call 2 238),r,l,r,d]
theorem i11(a:List (UInt8×Int×Unit)):∀(q:Nat) (b:Int),z11 q (t11 a b)=Rj a q b:=
 ind (λ_=>by kernel_rfl) λq ih b=>Eq.trans (b:=FC (SS (λb=>(z11 q) (t11 a b)) a) Bdr a b) F5 (by simp only[ih]<;>rfl)
def k:KC_:=kk_ 93 H aZ func93 (λx=>Eq.trans (b:=YS (λa b=>z11 Dr (t11 a b)) x) F5 (by simp only[i11,Bc]<;>rfl))
end F93
namespace F51
def H:=hd_ [Ss] [.agg [Ss,Ob 5,.agg [Si,Si,Si,Si,Si],Ol 3,Si,Ob 5,Sz,Si],Si] .d [] f51
def k:KC_:=kk_ 51 H Uw func51
end F51
namespace F126
def YH(a:LB):Option (LB):=
t_ a (
some ([]:LB)) (
(Dm ([]:LB) a).bind λb=>
some b)
theorem Bnj: @YH= @Ks:=by
  unfold YH Ks
  repeat (refine funext λ_=>?_)
  repeat' first
    |with_reducible rfl
    |with_reducible refine Nc ?_ ?_
    |with_reducible refine Mu ?_ ?_ ?_
    |with_reducible refine Nf ?_ ?_ ?_ ?_
    |((with_reducible refine Tk ?_ ?_);focus (intro h;first|(subst h;rfl)|(simp only[h];rfl)|(simp[Dm,Ac,h];done)))
    |with_reducible refine Tc λx=>?_
    |with_reducible refine AY (λ_=>?_) (λ_=>?_)
    |(refine Hg (λh=>by simp only[h,Ti,Fa,Ew,ite_self]) (λx h=>?_);(try simp only[h,Fa]))
    |(refine Jm (λh=>?_) (λh=>?_)<;>simp only[h,if_true,if_false,Bool.false_eq_true])
def H:=hd_ [Sb] [Ob 5] .d [] f126
def k:KC_:=kk_ 126 H Ks func126 (λx=>Eq.trans (b:=YH x) F5 (by simp only[Bnj]<;>rfl))
end F126
namespace F200
def Vr(a:LI):Option (LI):=
t_ a (
some ([]:LI)) (
(Dm ([]:LI) a).bind λb=>
some b)
theorem Boe: @Vr= @Ig:=by
  unfold Vr Ig
  repeat (refine funext λ_=>?_)
  repeat' first
    |with_reducible rfl
    |with_reducible refine Nc ?_ ?_
    |with_reducible refine Mu ?_ ?_ ?_
    |with_reducible refine Nf ?_ ?_ ?_ ?_
    |((with_reducible refine Tk ?_ ?_);focus (intro h;first|(subst h;rfl)|(simp only[h];rfl)|(simp[Dm,Ac,h];done)))
    |with_reducible refine Tc λx=>?_
    |with_reducible refine AY (λ_=>?_) (λ_=>?_)
    |(refine Hg (λh=>by simp only[h,Ti,Fa,Ew,ite_self]) (λx h=>?_);(try simp only[h,Fa]))
    |(refine Jm (λh=>?_) (λh=>?_)<;>simp only[h,if_true,if_false,Bool.false_eq_true])
def H:=hd_ [Sl] [Ol 3] .d [] f200
def k:KC_:=kk_ 200 H Ig func200 (λx=>Eq.trans (b:=Vr x) F5 (by simp only[Boe]<;>rfl))
end F200
namespace F122
def H:=hd_ [.agg [Ss,Sb,.agg [Si,Si,Si,Si,Si],Sl,Si,Sb,Sz,Si]] [.agg [Ss,Ob 5,.agg [Si,Si,Si,Si,Si],Ol 3,Si,Ob 5,Sz,Si]] .d [F126.k,F200.k] f122
def k:KC_:=kk_ 122 H (u12 Ev) func122
end F122
namespace F240
def Tx(j10:LI->Option (LI))(bk8:Int->LI->Option (LI))(b:Int)(a:LI):Option (LI):=
if(Cj b (Ac a))then
both (
(dZ (Ac a) b (Ac a)).bind λ_=>
(dZ (Ac a) 0 b).bind λ_=>
bk8 (Ae b (PO ((Ac a)-b) (QY a 0 (b-(0:Int))).length)) (Ww a b ((Ac a)-b) (QY a 0 (b-(0:Int))))) [
(dZ (Ac a) 0 b).bind λ_=>
(dZ (Ac a) b (Ac a)).bind λ_=>
bk8 (Ae b (PO ((Ac a)-b) (QY a 0 (b-(0:Int))).length)) (Ww a b ((Ac a)-b) (QY a 0 (b-(0:Int))))]
else
j10 a
theorem Boa: @Tx= @Jt:=by
  unfold Tx Jt
  repeat (refine funext λ_=>?_)
  repeat' first
    |with_reducible rfl
    |with_reducible refine Nc ?_ ?_
    |with_reducible refine Mu ?_ ?_ ?_
    |with_reducible refine Nf ?_ ?_ ?_ ?_
    |((with_reducible refine Tk ?_ ?_);focus (intro h;first|(subst h;rfl)|(simp only[h];rfl)|(simp[Dm,Ac,h];done)))
    |with_reducible refine Tc λx=>?_
    |with_reducible refine AY (λ_=>?_) (λ_=>?_)
    |(refine Hg (λh=>by simp only[h,Ti,Fa,Ew,ite_self]) (λx h=>?_);(try simp only[h,Fa]))
    |(refine Jm (λh=>?_) (λh=>?_)<;>simp only[h,if_true,if_false,Bool.false_eq_true])
abbrev R_:=LI
def H:=hd_ [Sl,Si] [Ol 3] (.q (.cut [0,1] [] .d (.q (.cut [0,6] [] .d (.q (.q (.cut [7] [] (.blk (.loop [7,8] [] (.q (.blk (.mode false))))) .d))))))) [F168.k] f240 true
def t8(b:Int)(a:LI):S:=⟨[(7,.own 0),(8,vi b)],[Ai 3 a],[]⟩
def z8:ZT_ R_:=H.i P_ [r,r,r,r,r,r,l,d]
theorem i8:∀(q:Nat) (b:Int) (a:LI),z8 q (t8 b a)=Hb q b a:=
 ind (λ_ _=>by kernel_rfl) λq ih b a=>Eq.trans (b:=Tx Mq (λb a=>(z8 q) (t8 b a)) b a) F5 (by rw[Boa];simp only[ih]<;>rfl)
def k:KC_:=kk_ 240 H (u2 Tj) func240 (λx=>Eq.trans (b:=u2 (Vq (Vi (Vt (λb a=>z8 Dr (t8 b a))))) x) F5 (by simp only[i8,Bc]<;>rfl))
end F240
namespace F298
abbrev R_:=LI
def H:=hd_ [.lf (.list (.list (.int .i64))) none] [Ol 3] (.q (.q (.cut [0,3] [] (.q (.blk (.loop [0,3,9,10,11] [] .d))) (.cut [0,6] [⟨6,[],.own 3 (.int .i64)⟩] (.keep [0,3,6,23,24] true) (.cut [6] [] (.q (.blk (.loop [6,25,26,27] [] .d))) .d))))) [] f298 true [(337,(.q (.cut [0,1] [] .d .d)))]
def t14(a:List LI)(g:Int)(f:LI):S:=⟨[(6,.own 0),(25,.val (.list (.list (.int .i64))) a),(26,vi (Ac a)),(27,vi g)],[Ai 3 f],[]⟩
def z14:ZT_ R_:=H.i P_ [r,r,r,r,l,r,d]
def t9(a:List LI)(b h:Int):S:=⟨[(0,.val (.list (.list (.int .i64))) a),(3,vi b),(9,.val (.list (.list (.int .i64))) a),(10,vi (Ac a)),(11,vi h)],[],[]⟩
def z9:ZT_ R_:=H.i P_ [r,r,l,r,d]
def x14(a:List LI)(g:Int)(f:LI):Option R_:=H.e P_ [r,r,r,r,l,r,d] (t14 a g f)
theorem i14(a:List LI):∀(q:Nat) (g:Int) (f:LI),z14 q (t14 a g f)=Gm a q g f:=
 ind (λ_ _=>by kernel_rfl) λq ih g f=>Eq.trans (b:=Jc Ab2 (λg f=>(z14 q) (t14 a g f)) a g f) F5 (by simp only[ih]<;>rfl)
theorem e14:x14=Tt:=by funext a g f;exact Eq.trans F5 ((i14 a Dr g f).trans (by rw[Bc];rfl))
theorem i9(a:List LI):∀(q:Nat) (b h:Int),z9 q (t9 a b h)=Ha a q b h:=
 ind (λ_ _=>by kernel_rfl) λq ih b h=>Eq.trans (b:=Jr (Tw (Tr (Tq x14))) (λb h=>(z9 q) (t9 a b h)) a b h) F5 (by simp only[e14,ih]<;>rfl)
def k:KC_:=kk_ 298 H Ta func298 (λx=>Eq.trans (b:=Vo (λa b h=>z9 Dr (t9 a b h)) x) F5 (by simp only[i9,Bc]<;>rfl))
end F298
namespace F241
def H:=hd_ [Sl,Sl] [Ol 3] .d [F298.k] f241
def k:KC_:=kk_ 241 H (u2 dQ) func241
end F241
namespace F178
def H:=hd_ [Si,Si] [Ol 3,Si] .d [F188.k,F228.k,F240.k,F241.k] f178
def k:KC_:=kk_ 178 H (u2 CZ) func178
end F178
namespace F130
def H:=hd_ [.agg [Si,Si,Si,Si,Si]] [Ol 3,Si] .d [F100.k,F178.k] f130
def k:KC_:=kk_ 130 H (u5 Ec) func130
end F130
namespace F259
def H:=hd_ [.agg [Si,Si,Si,Si,Si],Ss] [Si] .d [] f259
def k:KC_:=kk_ 259 H (u6 Se) func259
end F259
namespace F201
abbrev R_:=Bool
def H:=hd_ [.agg [Ss,Sb,.agg [Si,Si,Si,Si,Si],Sl,Si,Sb,Sz,Si]] [Sz] (.q (.q (.q (.cut [1,3] [] .d (.q (.q (.q (.cut [1,5] [] (.q (.blk (.loop [1,5,83,84,85] [] .d))) .d)))))))) [F104.k,F130.k,F259.k] f201
def t6(w:LI)(o p:LB)(h b f k m:Int)(g:LI)(a:Int)(n:LB)(u:Bool)(v y aa:Int):S:=⟨[(1,.ptr 0 []),(5,vi y),(83,vl w),(84,vi (Ac w)),(85,vi aa)],[.box 41 (.agg [vs o,vb p,.agg [vi h,vi b,vi f,vi k,vi m],vl g,vi a,vb n,vt u,vi v])],[]⟩
def z6:ZT_ R_:=H.i P_ [r,r,r,r,r,r,r,l,r,d]
theorem i6(w:LI)(o p:LB)(h b f k m:Int)(g:LI)(a:Int)(n:LB)(u:Bool)(v:Int):∀(q:Nat) (y aa:Int),z6 q (t6 w o p h b f k m g a n u v y aa)=Tz w o p h b f k m g a n u v q y aa:=
 ind (λ_ _=>by kernel_rfl) λq ih y aa=>Eq.trans (b:=II YU (λy aa=>(z6 q) (t6 w o p h b f k m g a n u v y aa)) w o p h b f k m g a n u v y aa) F5 (by simp only[ih]<;>rfl)
def k:KC_:=kk_ 201 H (u12 EM) func201 (λx=>Eq.trans (b:=u12 (ZA (YT (λw o p h b f k m g a n u v y aa=>z6 Dr (t6 w o p h b f k m g a n u v y aa)))) x) F5 (by simp only[i6,Bc]<;>rfl))
end F201
namespace F157
def H:=hd_ [Sb,Sb] [Sz] .d [] f157
def k:KC_:=kk_ 157 H (u2 Jj) func157
end F157
namespace F271
def H:=hd_ [Sb,Sb] [Sz] .d [F157.k] f271
def k:KC_:=kk_ 271 H (u2 Pp) func271
end F271
namespace F343
abbrev R_:=(Int×Int)
def H:=hd_ [Sb] [Si,Si] (.q (.q (.q (.cut [4] [] (.q (.blk (.loop [4,10,11,12] [] .d))) .d)))) [] f343
def t4(a:LB)(b f:Int):S:=⟨[(4,vi b),(10,vb a),(11,vi (Ac a)),(12,vi f)],[],[]⟩
def z4:ZT_ R_:=H.i P_ [r,r,r,l,r,d]
theorem i4(a:LB):∀(q:Nat) (b f:Int),z4 q (t4 a b f)=Ri a q b f:=
 ind (λ_ _=>by kernel_rfl) λq ih b f=>Eq.trans (b:=EU Bel (λb f=>(z4 q) (t4 a b f)) a b f) F5 (by simp only[ih]<;>rfl)
def k:KC_:=kk_ 343 H UQ func343 (λx=>Eq.trans (b:=UF (λa b f=>z4 Dr (t4 a b f)) x) F5 (by simp only[i4,Bc]<;>rfl))
end F343
namespace F312
def TJ(j5:LB->UInt8->UInt8->Option (Int×Int))(a:LB):Option (Int×Int):=
(Pp a ([(73:UInt8),(68:UInt8),(51:UInt8)]:LB)).bind λn=>
if(!n)then
some (0,6)
else
if(Cj (Ac a) 10)then
some (0,24)
else
(Ao a 3).bind λf=>
(Ao a 5).bind λb=>
(λo:Option (Int×Int)=>
(λp:Option (Int×Int)=>
both (
both (
bo (
j5 a f b)) [
o,
o]) [
bo2 (
bo (
j5 a f b)),
p,
p]) (
both (
o) [
bo (
j5 a f b),
both (
bo (
j5 a f b)) [
j5 a f b]])) (
both (
j5 a f b) [
bo (
j5 a f b)])
theorem Bre: @TJ= @IL:=by
  unfold TJ IL
  try simp only[fL,JH,KA]
  all_goals
    repeat (refine funext λ_=>?_)
    repeat' first
      |with_reducible rfl
      |with_reducible refine Nc ?_ ?_
      |with_reducible refine Mu ?_ ?_ ?_
      |with_reducible refine Nf ?_ ?_ ?_ ?_
      |((with_reducible refine Tk ?_ ?_);focus (intro h;first|(subst h;rfl)|(simp only[h];rfl)|(simp[Dm,Ac,h];done)))
      |with_reducible refine Tc λx=>?_
      |with_reducible refine AY (λ_=>?_) (λ_=>?_)
      |(refine Hg (λh=>by simp only[h,Ti,Fa,Ew,ite_self]) (λx h=>?_);(try simp only[h,Fa]))
      |(refine Jm (λh=>?_) (λh=>?_)<;>simp only[h,if_true,if_false,Bool.false_eq_true])
abbrev R_:=(Int×Int)
def H:=hd_ [Sb] [Si,Si] (.q (.q (.q (.cut [0,4,5] [] (.mode false) (.q (.q (.cut [0,5,6] [] (.cut [0,5,6,43] [] (.keep [0,5,6,7,8,31,32,33,34,35,36,37,38,39,40,41,42,43] true) .d) (.q (.cut [0,5,6] [] .d .d))))))))) [F157.k,F271.k,F343.k] f312 false [(344,.d)]
def x6(a:LB)(g:Int)(b:UInt8)(m:Bool):Option R_:=H.e P_ [r,r,r,r,r,r,l,r] ⟨[(0,vb a),(5,.ptr 0 []),(6,vi g),(43,vt m)],[.box 5 (vc b)],[]⟩
def x5(a:LB)(f b:UInt8):Option R_:=H.e P_ [r,r,r,r] ⟨[(0,vb a),(4,.ptr 0 []),(5,.ptr 1 [])],[.box 5 (vc f),.box 5 (vc b)],[]⟩
theorem e6:x6=YB:=F5
theorem e5:x5=YK:=Eq.trans (b:=ZC x6) F5 (by simp only[e6]<;>rfl)
def k:KC_:=kk_ 312 H aP func312 (λx=>Eq.trans (b:=TJ x5 x) F5 (by rw[Bre];simp only[e5]<;>rfl))
end F312
namespace F229
abbrev R_:=(UInt64×Int)
def H:=hd_ [Sb] [Sq,Si] (.q (.q (.q (.cut [4] [] (.q (.blk (.loop [4,15,16,17] [] .d))) .d)))) [] f229
def t4(a:LB)(f:UInt64)(b:Int):S:=⟨[(4,vq f),(15,vb a),(16,vi (Ac a)),(17,vi b)],[],[]⟩
def z4:ZT_ R_:=H.i P_ [r,r,r,l,r,d]
theorem i4(a:LB):∀(q:Nat) (f:UInt64) (b:Int),z4 q (t4 a f b)=KR a q f b:=
 ind (λ_ _=>by kernel_rfl) λq ih f b=>Eq.trans (b:=iD Bm8 (λf b=>(z4 q) (t4 a f b)) a f b) F5 (by simp only[ih]<;>rfl)
def k:KC_:=kk_ 229 H vQ func229 (λx=>Eq.trans (b:=yB (λa f b=>z4 Dr (t4 a f b)) x) F5 (by simp only[i4,Bc]<;>rfl))
end F229
namespace F152
def H:=hd_ [Sb,Si,Si] [Sq,Si] .d [F229.k] f152
def k:KC_:=kk_ 152 H (u3 nH) func152
end F152
namespace F273
abbrev R_:=LB
def H:=hd_ [Si,Si,Sq] [Ob 5] (.q (.q (.cut [7] [] (.q (.blk (.loop [7,20,21,22] [] .d))) .d))) [F101.k] f273
def t4(a b:Int)(f:UInt64)(h:Int)(g:LB):S:=⟨[(7,.own 0),(20,.own 1),(21,vi (Ac ([(2000:UInt64),(Ag (Ae a (32:Int)):UInt64),(Ag b:UInt64),f,(0:UInt64),(0:UInt64)]:LQ))),(22,vi h)],[Ab 5 g,.arr 26 (.int .u64) ([(2000:UInt64),(Ag (Ae a (32:Int)):UInt64),(Ag b:UInt64),f,(0:UInt64),(0:UInt64)]:LQ)],[]⟩
def z4:ZT_ R_:=H.i P_ [r,r,l,r,d]
theorem i4(a b:Int)(f:UInt64):∀(q:Nat) (h:Int) (g:LB),z4 q (t4 a b f h g)=KL a b f q h g:=
 ind (λ_ _=>by kernel_rfl) λq ih h g=>Eq.trans (b:=qA H9 (λh g=>(z4 q) (t4 a b f h g)) a b f h g) F5 (by simp only[ih]<;>rfl)
def k:KC_:=kk_ 273 H (u3 yS) func273 (λx=>Eq.trans (b:=u3 (J8 (λa b f h g=>z4 Dr (t4 a b f h g))) x) F5 (by simp only[i4,Bc]<;>rfl))
end F273
namespace F272
def H:=hd_ [Sb,Sq] [.agg [Si,Si],Sz] .d [F152.k,F157.k,F273.k] f272
def k:KC_:=kk_ 272 H (u2 bK) func272
end F272
namespace F313
def H:=hd_ [Sb] [Si,Si] .d [F157.k,F271.k,F272.k,F273.k] f313
def k:KC_:=kk_ 313 H yV func313
end F313
namespace F263
def H:=hd_ [Sb] [Si,Si] .d [F312.k,F313.k] f263
def k:KC_:=kk_ 263 H DH func263
end F263
theorem QH:ConOk Tryz.prog gl 127 AS:=Aaf ent127 F263.k.2
namespace F199
def H:=hd_ [Si] [.agg [Sz,Si]] .d [] f199
def k:KC_:=kk_ 199 H Am func199
end F199
namespace F264
def H:=hd_ [Ss,Ss] [Sz] .d [] f264
def k:KC_:=kk_ 264 H (u2 Iu) func264
end F264
namespace F204
def H:=hd_ [Ss,Ss] [Sz] .d [F264.k] f204
def k:KC_:=kk_ 204 H (u2 Lk) func204
end F204
namespace F258
abbrev R_:=Bool
def H:=hd_ [Sb] [Sz] (.q (.cut [] [] (.q (.blk (.loop [0,5,6] [] .d))) .d)) [F204.k] f258
def t4(a:LB)(b:Int):S:=⟨[(0,vb a),(5,.val (.vec 2 .str) ([([73,68,51]:LB),([65,80,69,84,65,71,69,88]:LB)]:List LB)),(6,vi b)],[],[]⟩
def z4:ZT_ R_:=H.i P_ [r,l,r,d]
theorem i4(a:LB):∀(q:Nat) (b:Int),z4 q (t4 a b)=Ml a q b:=
 ind (λ_=>by kernel_rfl) λq ih b=>Eq.trans (b:=Zt Bgy (λb=>(z4 q) (t4 a b)) a b) F5 (by simp only[ih]<;>rfl)
def k:KC_:=kk_ 258 H Vg func258 (λx=>Eq.trans (b:=YY (λa b=>z4 Dr (t4 a b)) x) F5 (by simp only[i4,Bc]<;>rfl))
end F258
namespace F128
abbrev R_:=(Int×Int×Int×Int×Int×Int)
def H:=hd_ [Sb] [.agg [Si,Si,Si,Si,Si],Si] (.q (.q (.q (.q (.q (.q (.q (.cut [2,8] [] (.q (.blk (.loop [0,2,8,9,44,45] [] .d))) .d)))))))) [F102.k,F152.k,F184.k,F185.k,F204.k] f128
def t4(b:LB)(g f:Int)(a:LI):S:=⟨[(0,vb b),(2,.ptr 0 []),(8,.ptr 1 []),(9,vi g),(44,.val (.vec 5 (.int .i64)) ([(2:Int),(2:Int),(2:Int),(4:Int),(4:Int)]:LI)),(45,vi f)],[.box 39 (.agg [vi 0,vi 0,vi 0,vi 0,vi 0]),.box 173 (.val (.vec 5 (.int .i64)) a)],[]⟩
def z4:ZT_ R_:=H.i P_ [r,r,r,r,r,r,r,l,r,d]
theorem i4(b:LB):∀(q:Nat) (g f:Int) (a:LI),z4 q (t4 b g f a)=Rt b q g f a:=
 ind (λ_ _ _=>by kernel_rfl) λq ih g f a=>Eq.trans (b:=NH NG (λg f a=>(z4 q) (t4 b g f a)) b g f a) F5 (by simp only[ih]<;>rfl)
def k:KC_:=kk_ 128 H Ok func128 (λx=>Eq.trans (b:=eS (λb g f a=>z4 Dr (t4 b g f a)) x) F5 (by simp only[i4,Bc]<;>rfl))
end F128
namespace F129
def H:=hd_ [Sb,Ss] [Sz,Si] .d [F40.k,F157.k] f129
def k:KC_:=kk_ 129 H (u2 Qt) func129
end F129
namespace F131
abbrev R_:=(LI×Int)
def H:=hd_ [Sb,Si] [Ol 3,Si] (.q (.q (.q (.q (.q (.q (.cut [10] [] (.q (.blk (.loop [0,10,48,49] [] .d))) .d))))))) [F102.k,F104.k,F152.k] f131
def t4(a:LB)(f:LI)(g:Int)(b:LI):S:=⟨[(0,vb a),(10,.own 0),(48,vi (Ac f)),(49,vi g)],[Ai 3 b],[]⟩
def z4:ZT_ R_:=H.i P_ [r,r,r,r,r,r,l,r,d]
theorem i4(a:LB)(f:LI):∀(q:Nat) (g:Int) (b:LI),z4 q (t4 a f g b)=AI a f q g b:=
 ind (λ_ _=>by kernel_rfl) λq ih g b=>Eq.trans (b:=UP UL (λg b=>(z4 q) (t4 a f g b)) a f g b) F5 (by simp only[ih]<;>rfl)
def k:KC_:=kk_ 131 H (u2 JT) func131 (λx=>Eq.trans (b:=u2 (kV (λa f g b=>z4 Dr (t4 a f g b))) x) F5 (by simp only[i4,Bc]<;>rfl))
end F131
namespace F260
def H:=hd_ [.agg [Si,Si,Si,Si,Si]] [.agg [Si,Si]] .d [] f260
def k:KC_:=kk_ 260 H (u5 HK) func260
end F260
namespace F266
def H:=hd_ [Sb] [Sb,Si] .d [F102.k,F229.k] f266
def k:KC_:=kk_ 266 H OP func266
end F266
namespace F267
def H:=hd_ [Sb] [.agg [Ob 5,Si],Si] .d [F117.k] f267
def k:KC_:=kk_ 267 H rS func267
end F267
namespace F316
abbrev R_:=UInt64
def H:=hd_ [.agg [Sb,Si],Si,Si] [Sq] (.q (.q (.cut [7] [] (.blk (.loop [1,2,3,7,8] [] .d)) .d))) [] f316
def t4(b f:Int)(h:LB)(k:Int)(g:UInt64)(a:Int):S:=⟨[(1,vi b),(2,vi f),(3,.ptr 0 []),(7,vq g),(8,vi a)],[.box 272 (.agg [vb h,vi k])],[]⟩
def z4:ZT_ R_:=H.i P_ [r,r,l,d]
theorem i4(b f:Int)(h:LB)(k:Int):∀(q:Nat) (g:UInt64) (a:Int),z4 q (t4 b f h k g a)=WI b f h k q g a:=
 ind (λ_ _=>by kernel_rfl) λq ih g a=>Eq.trans (b:=wS Bmn (λg a=>(z4 q) (t4 b f h k g a)) b f h k g a) F5 (by simp only[ih]<;>rfl)
def k:KC_:=kk_ 316 H (u4 T5) func316 (λx=>Eq.trans (b:=u4 (Bja (λb f h k g a=>z4 Dr (t4 b f h k g a))) x) F5 (by simp only[i4,Bc]<;>rfl))
end F316
namespace F314
abbrev R_:=(LB×Int×Int)
abbrev K_:=S->Option R_
def H:=hd_ [.agg [Sb,Si],Si,Si] [.agg [Ob 5,Si],Si] (.q (.q (.q (.q (.cut [6,8] [] (.q (.blk (.loop [2,3,6,8,9] [⟨8,[0],.own 5 (.int .u8)⟩] (.q (.cut [2,3,6,8,9] [] (.blk (.q (.keep [2,3,6,8,9,10,39,40,41,42,43] true))) .d))))) .d))))) [F248.k,F316.k] f314 false [(306,(.blk (.loop [0,1,2] [] (.q (.blk (.cut [0,1,2] [] .d (.q (.cut [0,1,2,7] [] .d .d))))))))]
def t44(a:Int)(g:LB)(b f:Int)(m n:UInt64)(k h:Int)(u:LB):S:=⟨[(0,.ptr 0 []),(1,vq n),(2,vi k)],[.box 272 (.agg [.own 3,vi h]),.box 272 (.agg [vb g,vi b]),.box 272 (.agg [.nils,vi 0]),Ab 5 u],[[(2,vi a),(3,.ptr 1 []),(6,.ptr 2 []),(8,.ptr 0 []),(9,vi f),(10,vi (Fq (64:Int) (Aq a f))),(39,.agg [vb g,vi b]),(40,vi f),(41,vi (Fq (64:Int) (Aq a f))),(42,vq m),(43,vi (Fq (64:Int) (Aq a f)))]]⟩
def z44(ZK:K_):ZT_ R_:=H.i P_ [r,r,r,r,l,r,d,(lp ZK),r,l,d,r,(call 5 306),d]
def t27(a:Int)(g:LB)(b f o:Int)(p:LB):S:=⟨[(2,vi a),(3,.ptr 0 []),(6,.ptr 1 []),(8,.ptr 2 []),(9,vi f)],[.box 272 (.agg [vb g,vi b]),.box 272 (.agg [.nils,vi 0]),.box 272 (.agg [.own 3,vi o]),Ab 5 p],[]⟩
def z27:ZT_ R_:=H.i P_ [r,r,r,r,l,r,d]
def x44(ZK:K_)(a:Int)(g:LB)(b f:Int)(m n:UInt64)(k h:Int)(u:LB):Option R_:=H.e P_ [r,r,r,r,l,r,d,(lp ZK),r,l,d,r,(call 5 306),d] (t44 a g b f m n k h u)
theorem i44(ZK:K_)(a:Int)(g:LB)(b f:Int)(m:UInt64):∀(q:Nat) (n:UInt64) (k h:Int) (u:LB),z44 ZK q (t44 a g b f m n k h u)=Up (λf o p=>ZK (t27 a g b f o p)) a g b f m q n k h u:=
 ind (λ_ _ _ _=>by kernel_rfl) λq ih n k h u=>Eq.trans (b:=aT (aW (λn k h u=>(z44 ZK q) (t44 a g b f m n k h u)) a f g b m) (aO (λf o p=>ZK (t27 a g b f o p)) a g b) a g b f m n k h u) F5 (by simp only[ih]<;>rfl)
theorem e44(ZK:K_)(a:Int)(g:LB)(b:Int):x44 ZK a g b=qU (λf o p=>ZK (t27 a g b f o p)) a g b:=by funext f m n k h u;exact Eq.trans F5 ((i44 ZK a g b f m Dr n k h u).trans (by rw[Bc];rfl))
theorem i27(a:Int)(g:LB)(b:Int):∀(q:Nat) (f o:Int) (p:LB),z27 q (t27 a g b f o p)=EL a g b q f o p:=
 ind (λ_ _ _=>by kernel_rfl) λq ih f o p=>Eq.trans (b:=qR (x44 (z27 q) a g b) pF a g b f o p) F5 (by simp only[e44,ih]<;>rfl)
def k:KC_:=kk_ 314 H (u4 wP) func314 (λx=>Eq.trans (b:=u4 (wV (λa g b f o p=>z27 Dr (t27 a g b f o p))) x) F5 (by simp only[i27,Bc]<;>rfl))
end F314
namespace F269
def H:=hd_ [.agg [Sb,Si],Si,Si] [Sq,Si] .d [F248.k,F316.k] f269
def k:KC_:=kk_ 269 H (u4 PJ) func269
end F269
namespace F394
def H:=hd_ [Sq] [Si] .d [] f394
def k:KC_:=kk_ 394 H Ja func394
end F394
namespace F372
def fU(j6:Int->UInt64->Int->LB->Int->Option (Int×Int×Int))(g:LB)(b a:Int):Option (Int×Int×Int):=
(Mc g b).bind λm=>
if(Bd m 0)then
some (0,0,m)
else
if(Cj a 0)then
some (0,0,2)
else
if(Le a b)then
some (0,0,24)
else
(λn:Option (Int×Int×Int)=>
(λo:Option (Int×Int×Int)=>
bo2 (
o)) (
bo (
n))) (
(PJ g b a (Fq 48 (Aq b a))).bind λ(k,h)=>
j6 h k a g b)
theorem Bnp: @fU= @HX:=by
  unfold fU HX;simp only[fL,JH,KA]
abbrev R_:=(Int×Int×Int)
def H:=hd_ [.agg [Sb,Si],Si] [Si,Si,Si] (.q (.q (.q (.q (.q (.cut [3,5,6,8,9] [] (.keep [2,3,5,6,8,9,22,23,24,25,26,27,28,29] false) (.q (.q (.cut [] [] (.blk (.seq (.blk (.seq (.blk (.cut [] [] (.cut [3,4,5] [] (.cut [3,4,5,36] [] (.keep [3,4,5,8,36,37,38,39,40] true) .d) .d) .d)) .d)) .d)) .d))))))))) [F248.k,F269.k,F394.k] f372 false [(393,.d)]
def k:KC_:=kk_ 372 H (u3 TU) func372 (λx=>Eq.trans (b:=u3 (fU jV) x) F5 (by simp only[Bnp]<;>rfl))
end F372
namespace F345
abbrev R_:=(UInt32×Int×Int)
def H:=hd_ [.agg [Sb,Si],Si,Si] [Su,Si,Si] (.q (.q (.q (.q (.q (.q (.cut [2,3,7,10,11] [] .d .d))))))) [F248.k,F269.k,F307.k,F372.k] f345
def k:KC_:=kk_ 345 H (u4 zA) func345
end F345
namespace F315
abbrev R_:=(UInt32×Int×Int×Int×UInt64×UInt64×Int)
def H:=hd_ [.agg [Sb,Si],Si,.agg [Si,Si,Sq,Sq]] [Su,Si,.agg [Si,Si,Sq,Sq],Si] (.q (.cut [1,3,5,8] [] .d (.q (.q (.cut [5,6,7,8] [] .d (.cut [5,6,7,8] [] (.keep [5,6,7,8,81] true) .d)))))) [F248.k,F249.k,F250.k,F269.k,F345.k] f315 false [(253,(.q (.q (.q (.blk (.cut [0,1,4] [] (.blk (.q (.keep [0,1,4,6,18,19,20,21,22,23,24,25] true))) (.cut [] [] (.keep [0,1,4,27,28,29,30,31,32,33,34] true) .d))))))),(309,.d)]
def x8(f:UInt32)(k a:Int)(b:UInt64)(m:Int)(n:UInt64):Option R_:=H.e P_ [r,r,r,r,r,l,(call 1 253),r,r,r,d,r] ⟨[(0,.ptr 0 []),(1,vu f),(4,.fn 309 [])],[.box 268 (.agg [vi a,vi m,vq b,vq n]),.box 268 (.agg [vi 0,vi 0,vq 0,vq 0])],[[(5,.ptr 0 []),(6,vu f),(7,vi k),(8,.ptr 1 []),(81,vu f)]]⟩
theorem e8:x8=QF:=F5
def k:KC_:=kk_ 315 H (u7 TK) func315 (λx=>Eq.trans (b:=u7 (rJ (pP (pG x8))) x) F5 (by simp only[e8]<;>rfl))
end F315
namespace F268
def GH(j21:Int->Int->Int->UInt32->Int-> (List (Int×Int×UInt64×UInt64×Unit))->LU->Int->Int->UInt64->UInt64->Option (LU×Int×Int))(j24:Int->LU->Option (LU×Int×Int))(a f:Int)(g:LB)(b k h:Int)(m:List (Int×Int×UInt64×UInt64×Unit))(n:LU):Option (LU×Int×Int):=
if(Cj h (Bm f a))then
(wP g b k (Fq (Ae k 81) b)).bind λ(ag,ae,af)=>
if(Bd af 0)then
some (([]:LU),0,af)
else
(Jb (Bd a 0)).bind λ_=>
(Ao m (Ge h a)).bind λ_=>
(λai:Option (LU×Int×Int)=>
both (
both (
(Ao m (Ge h a)).bind λo=>
(λao:Option (LU×Int×Int)=>
bo (
ao)) (
(TK ag ae 0 o.1 o.2.1 o.2.2.1 o.2.2.2.1).bind λ(w,v,aa,ab,ac,ad,y)=>
j21 k h y w v m n aa ab ac ad)) [
ai]) [
(Ao m (Ge h a)).bind λo=>
(λaj:Option (LU×Int×Int)=>
both (
bo (
aj)) [
aj]) (
(TK ag ae 0 o.1 o.2.1 o.2.2.1 o.2.2.2.1).bind λ(w,v,aa,ab,ac,ad,y)=>
j21 k h y w v m n aa ab ac ad),
bo (
ai)]) (
(Ao m (Ge h a)).bind λo=>
(TK ag ae 0 o.1 o.2.1 o.2.2.1 o.2.2.2.1).bind λ(w,v,aa,ab,ac,ad,y)=>
j21 k h y w v m n aa ab ac ad)
else
j24 k n
theorem Bpv: @GH= @Zo:=by
  unfold GH Zo
  try simp only[fL,JH,KA]
  all_goals
    repeat (refine funext λ_=>?_)
    repeat' first
      |with_reducible rfl
      |with_reducible refine Nc ?_ ?_
      |with_reducible refine Mu ?_ ?_ ?_
      |with_reducible refine Nf ?_ ?_ ?_ ?_
      |((with_reducible refine Tk ?_ ?_);focus (intro h;first|(subst h;rfl)|(simp only[h];rfl)|(simp[Dm,Ac,h];done)))
      |with_reducible refine Tc λx=>?_
      |with_reducible refine AY (λ_=>?_) (λ_=>?_)
      |(refine Hg (λh=>by simp only[h,Ti,Fa,Ew,ite_self]) (λx h=>?_);(try simp only[h,Fa]))
      |(refine Jm (λh=>?_) (λh=>?_)<;>simp only[h,if_true,if_false,Bool.false_eq_true])
abbrev R_:=(LU×Int×Int)
abbrev K_:=S->Option R_
def H:=hd_ [Si,Si,.agg [Sb,Si]] [Ov 175,Si,Si] (.q (.q (.cut [0,1,5,9] [] (.q (.blk (.loop [0,1,5,9,19] [] .d))) (.q (.q (.cut [11,12] [] (.q (.blk (.loop [0,5,9,11,12,28,29] [⟨11,[],.own 175 (.int .u32)⟩] (.q (.q (.seq (.blk (.q (.q (.q (.cut [0,5,9,11,12,13,15,16,17,18,28,29] [] (.mode false) (.q (.cut [0,5,9,11,12,16,28,29] [] .d .d))))))) .d)))))) .d)))))) [F247.k,F314.k,F315.k] f268
def t16(a f:Int)(g:LB)(b k h:Int)(m:List (Int×Int×UInt64×UInt64×Unit))(n:LU):S:=⟨[(0,vi a),(5,.ptr 0 []),(9,.ptr 1 []),(11,.own 2),(12,vi k),(28,vi (Bm f a)),(29,vi h)],[.box 272 (.agg [vb g,vi b]),.box 269 (.val (.vec 6 (.cons (.int .i64) (.cons (.int .i64) (.cons (.int .u64) (.cons (.int .u64) .nil))))) m),Av 175 n],[]⟩
def z16:ZT_ R_:=H.i P_ [r,r,r,r,r,l,r,d]
def t13(a f:Int)(g:LB)(b u:Int)(p:List (Int×Int×UInt64×UInt64×Unit)):S:=⟨[(0,vi a),(1,vi f),(5,.ptr 0 []),(9,.ptr 1 []),(19,vi u)],[.box 272 (.agg [vb g,vi b]),.box 269 (.val (.vec 6 (.cons (.int .i64) (.cons (.int .i64) (.cons (.int .u64) (.cons (.int .u64) .nil))))) p)],[]⟩
def z13:ZT_ R_:=H.i P_ [r,r,l,r,d]
def x16(a f:Int)(g:LB)(b k h:Int)(m:List (Int×Int×UInt64×UInt64×Unit))(n:LU):Option R_:=H.e P_ [r,r,r,r,r,l,r,d] (t16 a f g b k h m n)
theorem i16(a f:Int)(g:LB)(b:Int):∀(q:Nat) (k h:Int) (m:List (Int×Int×UInt64×UInt64×Unit)) (n:LU),z16 q (t16 a f g b k h m n)=Rs a f g b q k h m n:=
 ind (λ_ _ _ _=>by kernel_rfl) λq ih k h m n=>Eq.trans (b:=GH (Zb (λk h m n=>(z16 q) (t16 a f g b k h m n)) a f g b) Au5 a f g b k h m n) F5 (by rw[Bpv];simp only[ih]<;>rfl)
theorem e16:x16=Auu:=by funext a f g b k h m n;exact Eq.trans F5 ((i16 a f g b Dr k h m n).trans (by rw[Bc];rfl))
theorem i13(a f:Int)(g:LB)(b:Int):∀(q:Nat) (u:Int) (p:List (Int×Int×UInt64×UInt64×Unit)),z13 q (t13 a f g b u p)=JL a f g b q u p:=
 ind (λ_ _=>by kernel_rfl) λq ih u p=>Eq.trans (b:=Arx (Aqq x16) (λu p=>(z13 q) (t13 a f g b u p)) a f g b u p) F5 (by simp only[e16,ih]<;>rfl)
def k:KC_:=kk_ 268 H (u4 ON) func268 (λx=>Eq.trans (b:=u4 (OM (λa f g b u p=>z13 Dr (t13 a f g b u p))) x) F5 (by simp only[i13,Bc]<;>rfl))
end F268
namespace F318
def H:=hd_ [Su] [Sx] .d [] f318
def k:KC_:=kk_ 318 H FM func318
end F318
namespace F346
def H:=hd_ [.agg [Si,.lf (.vec 16 (.int .i32)) none,.lf (.vec 16 (.int .i32)) none],Sx] [Sx,.agg [Si,.lf (.vec 16 (.int .i32)) none,.lf (.vec 16 (.int .i32)) none],Si] .d [F340.k,F341.k] f346
def k:KC_:=kk_ 346 H (u4 xV) func346
end F346
namespace F317
def dL(a:Int)(b:Int32)(f:Int)(g h:LX)(o:Int32):Option (Int32×Int×Int32×Int×LX×LX×Int):=
(DI a b f g h).bind λk=>
if(Bd k 0)then
some (0,0,0,0,(List.replicate 16 (0:Int32)),(List.replicate 16 (0:Int32)),k)
else
(DJ a b).bind λ(m,y)=>
(xV f g h o).bind λ(n,p,u,v,w)=>
(λaa:Option (Int32×Int×Int32×Int×LX×LX×Int)=>
bo (
aa)) (
some ((Ae n m),a,(Ae n m),p,u,v,w))
theorem Bnt: @dL= @Ps:=by
  unfold dL Ps;simp only[fL,JH,KA]
def H:=hd_ [.agg [Si,Sx,.agg [Si,.lf (.vec 16 (.int .i32)) none,.lf (.vec 16 (.int .i32)) none]],Sx] [Sx,.agg [Si,Sx,.agg [Si,.lf (.vec 16 (.int .i32)) none,.lf (.vec 16 (.int .i32)) none]],Si] (.q (.q (.q (.q (.seq (.mode false) .d))))) [F302.k,F303.k,F346.k] f317
def k:KC_:=kk_ 317 H (u6 Ps) func317 (λx=>Eq.trans (b:=u6 dL x) F5 (by simp only[Bnt]<;>rfl))
end F317
namespace F319
abbrev R_:=(LX×Int)
abbrev K_:=S->Option R_
def H:=hd_ [Si,Sw] [Ow 21,Si] (.q (.q (.q (.cut [7] [] (.q (.blk (.loop [0,7,8] [] (.q (.cut [0,7,8] [] (.blk (.keep [0,7,8,24,25,26,27,28,29] true)) .d))))) .d)))) [F192.k,F299.k] f319 true [(347,(.q (.cut [0,2] [] .d (.q (.blk (.loop [0,3] [] .d))))))]
def t18(b a g:Int)(h:LX):S:=⟨[(0,.view true 0 [] (.int .i32) a ((Ae a b)-a)),(3,vi g)],[Aw 21 h],[[(0,vi b),(7,.own 0),(8,vi a),(24,.own 0),(25,vi a),(26,vi a),(27,vi b),(28,vi (Ae a b)),(29,.view true 0 [] (.int .i32) a ((Ae a b)-a))]]⟩
def z18(ZJ:K_):ZT_ R_:=H.i P_ [r,r,r,l,r,d,(lp ZJ),r,l,d,(call 6 347),r,r,r,d]
def t12(b a:Int)(f:LX):S:=⟨[(0,vi b),(7,.own 0),(8,vi a)],[Aw 21 f],[]⟩
def z12:ZT_ R_:=H.i P_ [r,r,r,l,r,d]
def x18(ZJ:K_)(b a g:Int)(h:LX):Option R_:=H.e P_ [r,r,r,l,r,d,(lp ZJ),r,l,d,(call 6 347),r,r,r,d] (t18 b a g h)
theorem i18(ZJ:K_)(b a:Int):∀(q:Nat) (g:Int) (h:LX),z18 ZJ q (t18 b a g h)=FH (λa f=>ZJ (t12 b a f)) b a q g h:=
 ind (λ_ _=>by kernel_rfl) λq ih g h=>Eq.trans (b:=aR (qI (λa f=>ZJ (t12 b a f)) b) (λg h=>(z18 ZJ q) (t18 b a g h)) b a g h) F5 (by simp only[ih]<;>rfl)
theorem e18(ZJ:K_)(b:Int):x18 ZJ b=pE (λa f=>ZJ (t12 b a f)) b:=by funext a g h;exact Eq.trans F5 ((i18 ZJ b a Dr g h).trans (by rw[Bc];rfl))
theorem i12(b:Int):∀(q:Nat) (a:Int) (f:LX),z12 q (t12 b a f)=Ze b q a f:=
 ind (λ_ _=>by kernel_rfl) λq ih a f=>Eq.trans (b:=oZ (oS (x18 (z12 q) b) b) Ad2 b a f) F5 (by simp only[e18,ih]<;>rfl)
def k:KC_:=kk_ 319 H (u2 P6) func319 (λx=>Eq.trans (b:=u2 (xY (λb a f=>z12 Dr (t12 b a f))) x) F5 (by simp only[i12,Bc]<;>rfl))
end F319
namespace F270
def DS(j16:Int->Int32->Int-> (List (Int×Int32×(Int×LX×LX×Unit)×Unit))->LX->Int->Int32->Int->LX->LX->Option (LX×Int))(j18:Int->Int->LX->Option (LX×Int))(f:LU)(a b g:Int)(h:List (Int×Int32×(Int×LX×LX×Unit)×Unit))(k:LX):Option (LX×Int):=
if(Cj g (Ac f))then
(Ao f g).bind λag=>
(Jb (Bd a 0)).bind λ_=>
(Ao h (Ge g a)).bind λ_=>
both (
(Ao h (Ge g a)).bind λm=>
both (
(FM ag).bind λae=>
(λao:Option (LX×Int)=>
bo (
ao)) (
(Ps m.1 m.2.1 m.2.2.1.1 m.2.2.1.2.1 m.2.2.1.2.2.1 ae).bind λ(y,aa,w,ab,ac,ad,v)=>
j16 g y v h k aa w ab ac ad)) [
(FM ag).bind λae=>
(Ps m.1 m.2.1 m.2.2.1.1 m.2.2.1.2.1 m.2.2.1.2.2.1 ae).bind λ(y,aa,w,ab,ac,ad,v)=>
j16 g y v h k aa w ab ac ad]) [
(FM ag).bind λaf=>
both (
(Ao h (Ge g a)).bind λu=>
(λap:Option (LX×Int)=>
bo (
ap)) (
(Ps u.1 u.2.1 u.2.2.1.1 u.2.2.1.2.1 u.2.2.1.2.2.1 af).bind λ(y,aa,w,ab,ac,ad,v)=>
j16 g y v h k aa w ab ac ad)) [
(Ao h (Ge g a)).bind λu=>
(Ps u.1 u.2.1 u.2.2.1.1 u.2.2.1.2.1 u.2.2.1.2.2.1 af).bind λ(y,aa,w,ab,ac,ad,v)=>
j16 g y v h k aa w ab ac ad],
both (
(Ao h (Ge g a)).bind λm=>
(FM ag).bind λae=>
(Ps m.1 m.2.1 m.2.2.1.1 m.2.2.1.2.1 m.2.2.1.2.2.1 ae).bind λ(y,aa,w,ab,ac,ad,v)=>
j16 g y v h k aa w ab ac ad) [
(FM ag).bind λaf=>
(Ao h (Ge g a)).bind λu=>
(Ps u.1 u.2.1 u.2.2.1.1 u.2.2.1.2.1 u.2.2.1.2.2.1 af).bind λ(y,aa,w,ab,ac,ad,v)=>
j16 g y v h k aa w ab ac ad]]
else
j18 a b k
theorem Bop: @DS= @Pz:=by
  unfold DS Pz
  try simp only[fL,JH,KA]
  all_goals
    repeat (refine funext λ_=>?_)
    repeat' first
      |with_reducible rfl
      |with_reducible refine Nc ?_ ?_
      |with_reducible refine Mu ?_ ?_ ?_
      |with_reducible refine Nf ?_ ?_ ?_ ?_
      |((with_reducible refine Tk ?_ ?_);focus (intro h;first|(subst h;rfl)|(simp only[h];rfl)|(simp[Dm,Ac,h];done)))
      |with_reducible refine Tc λx=>?_
      |with_reducible refine AY (λ_=>?_) (λ_=>?_)
      |(refine Hg (λh=>by simp only[h,Ti,Fa,Ew,ite_self]) (λx h=>?_);(try simp only[h,Fa]))
      |(refine Jm (λh=>?_) (λh=>?_)<;>simp only[h,if_true,if_false,Bool.false_eq_true])
abbrev R_:=(LX×Int)
abbrev K_:=S->Option R_
def H:=hd_ [.agg [Si,Si],.lf (.vec 16 (.int .i32)) none,Sv] [Ow 21,Si] (.q (.q (.cut [2,3,8] [] (.q (.blk (.loop [2,3,4,8,20] [] .d))) (.q (.cut [3,10] [] (.q (.blk (.loop [3,8,10,33,34,35] [⟨10,[],.own 21 (.int .i32)⟩] (.q (.q (.seq (.blk (.q (.q (.cut [3,8,10,13,14,15,16,33,34,35] [] (.mode false) .d)))) .d)))))) .d))))) [F36.k,F244.k,F317.k,F318.k,F319.k] f270
def t13(f:LU)(a b g:Int)(h:List (Int×Int32×(Int×LX×LX×Unit)×Unit))(k:LX):S:=⟨[(3,.ptr 0 []),(8,.ptr 1 []),(10,.own 2),(33,vv f),(34,vi (Ac f)),(35,vi g)],[.box 30 (.agg [vi a,vi b]),.box 333 (.val (.vec 6 (.cons (.int .i64) (.cons (.int .i32) (.cons (.cons (.int .i64) (.cons (.vec 16 (.int .i32)) (.cons (.vec 16 (.int .i32)) .nil))) .nil)))) h),Aw 21 k],[]⟩
def z13:ZT_ R_:=H.i P_ [r,r,r,r,l,r,d]
def t10(f:LU)(a b:Int)(o:LX)(p:Int)(n:List (Int×Int32×(Int×LX×LX×Unit)×Unit)):S:=⟨[(2,vv f),(3,.ptr 0 []),(4,.ptr 1 []),(8,.ptr 2 []),(20,vi p)],[.box 30 (.agg [vi a,vi b]),.box 165 (.val (.vec 16 (.int .i32)) o),.box 333 (.val (.vec 6 (.cons (.int .i64) (.cons (.int .i32) (.cons (.cons (.int .i64) (.cons (.vec 16 (.int .i32)) (.cons (.vec 16 (.int .i32)) .nil))) .nil)))) n)],[]⟩
def z10:ZT_ R_:=H.i P_ [r,r,l,r,d]
def x13(f:LU)(a b g:Int)(h:List (Int×Int32×(Int×LX×LX×Unit)×Unit))(k:LX):Option R_:=H.e P_ [r,r,r,r,l,r,d] (t13 f a b g h k)
theorem i13(f:LU)(a b:Int):∀(q:Nat) (g:Int) (h:List (Int×Int32×(Int×LX×LX×Unit)×Unit)) (k:LX),z13 q (t13 f a b g h k)=Mg f a b q g h k:=
 ind (λ_ _ _=>by kernel_rfl) λq ih g h k=>Eq.trans (b:=DS (GM (λg h k=>(z13 q) (t13 f a b g h k)) a f b) Qa f a b g h k) F5 (by rw[Bop];simp only[ih]<;>rfl)
theorem e13:x13=Aqd:=by funext f a b g h k;exact Eq.trans F5 ((i13 f a b Dr g h k).trans (by rw[Bc];rfl))
theorem i10(f:LU)(a b:Int)(o:LX):∀(q:Nat) (p:Int) (n:List (Int×Int32×(Int×LX×LX×Unit)×Unit)),z10 q (t10 f a b o p n)=GW f a b o q p n:=
 ind (λ_ _=>by kernel_rfl) λq ih p n=>Eq.trans (b:=Apy (Ap5 x13) (λp n=>(z10 q) (t10 f a b o p n)) f a b o p n) F5 (by simp only[e13,ih]<;>rfl)
def k:KC_:=kk_ 270 H (u4 Zu) func270 (λx=>Eq.trans (b:=u4 (KE (λf a b o p n=>z10 Dr (t10 f a b o p n))) x) F5 (by simp only[i10,Bc]<;>rfl))
end F270
namespace F207
def H:=hd_ [.agg [Si,Si],.lf (.vec 16 (.int .i32)) none,Si,Sb] [Ow 21,Si] .d [F189.k,F266.k,F267.k,F268.k,F269.k,F270.k] f207
def k:KC_:=kk_ 207 H (u5 Jn) func207
end F207
namespace F8
abbrev R_:=(LB×Int)
abbrev K_:=S->Option R_
def H:=hd_ [Si,Sw] [Ob 5,Si] (.q (.q (.q (.cut [7] [] (.q (.blk (.loop [0,7,17,18,19] [⟨7,[],.own 5 (.int .u8)⟩] (.q (.q (.cut [0,7,17,18,19] [] (.blk (.q (.cut [0,7,9,17,18,19] [] .d (.q (.blk (.loop [0,7,9,17,18,19,28,29] [] .d)))))) .d)))))) .d)))) [F36.k] f8
def t26(b:Int)(a:LX)(k:Int32)(f m:Int)(h:LB):S:=⟨[(0,vi b),(7,.own 0),(9,vx k),(17,vw a),(18,vi (Ac a)),(19,vi f),(28,vi (Ca b (8:Int))),(29,vi m)],[Ab 5 h],[]⟩
def z26(Pv:K_):ZT_ R_:=H.i P_ [r,r,r,l,r,d,(lp Pv),r,r,l,d,r,r,r,d]
def t16(b:Int)(a:LX)(f:Int)(g:LB):S:=⟨[(0,vi b),(7,.own 0),(17,vw a),(18,vi (Ac a)),(19,vi f)],[Ab 5 g],[]⟩
def z16:ZT_ R_:=H.i P_ [r,r,r,l,r,d]
def x26(Pv:K_)(b:Int)(a:LX)(k:Int32)(f m:Int)(h:LB):Option R_:=H.e P_ [r,r,r,l,r,d,(lp Pv),r,r,l,d,r,r,r,d] (t26 b a k f m h)
theorem i26(Pv:K_)(b:Int)(a:LX)(k:Int32)(f:Int):∀(q:Nat) (m:Int) (h:LB),z26 Pv q (t26 b a k f m h)=Mm (λf g=>Pv (t16 b a f g)) b a k f q m h:=
 ind (λ_ _=>by kernel_rfl) λq ih m h=>Eq.trans (b:=IK (YO (λf g=>Pv (t16 b a f g)) b a) (λm h=>(z26 Pv q) (t26 b a k f m h)) b a k f m h) F5 (by simp only[ih]<;>rfl)
theorem e26(Pv:K_)(b:Int)(a:LX):x26 Pv b a=ZH (λf g=>Pv (t16 b a f g)) b a:=by funext k f m h;exact Eq.trans F5 ((i26 Pv b a k f Dr m h).trans (by rw[Bc];rfl))
theorem i16(b:Int)(a:LX):∀(q:Nat) (f:Int) (g:LB),z16 q (t16 b a f g)=Il b a q f g:=
 ind (λ_ _=>by kernel_rfl) λq ih f g=>Eq.trans (b:=IZ (XZ (x26 (z16 q) b a) b a) Bhu b a f g) F5 (by simp only[e26,ih]<;>rfl)
def k:KC_:=kk_ 8 H (u2 Kw) func8 (λx=>Eq.trans (b:=u2 (eG (λb a f g=>z16 Dr (t16 b a f g))) x) F5 (by simp only[i16,Bc]<;>rfl))
end F8
namespace F311
abbrev R_:=Int
def H:=hd_ [Sl,Si] [Si] (.q (.cut [] [] (.q (.blk (.loop [0,1,7,8] [] .d))) .d)) [] f311
def t4(a:LI)(b f:Int):S:=⟨[(0,vl a),(1,vi b),(7,vi (Ac a)),(8,vi f)],[],[]⟩
def z4:ZT_ R_:=H.i P_ [r,l,r,d]
theorem i4(a:LI)(b:Int):∀(q:Nat) (f:Int),z4 q (t4 a b f)=Cq a b q f:=
 ind (λ_=>by kernel_rfl) λq ih f=>Eq.trans (b:=Gi Afl (λf=>(z4 q) (t4 a b f)) a b f) F5 (by simp only[ih]<;>rfl)
def k:KC_:=kk_ 311 H (u2 Ls) func311 (λx=>Eq.trans (b:=u2 (Ju (λa b f=>z4 Dr (t4 a b f))) x) F5 (by simp only[i4,Bc]<;>rfl))
end F311
namespace F261
def H:=hd_ [Sl,Si] [Sz] .d [F311.k] f261
def k:KC_:=kk_ 261 H (u2 Jp) func261
end F261
namespace F202
def H:=hd_ [Si] [Sz] .d [F261.k] f202
def k:KC_:=kk_ 202 H Vn func202
end F202
namespace F125
def JF(j28:Bool->Int->Option Int)(y ac:Int)(g a:LB)(h p m u v b:Int)(n:Bool)(o:Int)(ak:LX)(f:LI)(k:LB):Option Int:=
if(Bd ac 0)then
(Am ac).bind λ(bi,bj)=>
j28 bi bj
else
(Kw m ak).bind λ(bk,bb)=>
if(Bd bb 0)then
(Am bb).bind λ(bl,bm)=>
j28 bl bm
else
(Dm k bk).bind λdv=>
(λfa:Option Int=>
bo (
fa)) (
(Bp a y (Ac a)).bind λdw=>
j28 false 0)
theorem Bqi: @JF= @CF:=by
  unfold JF CF;simp only[fL,JH,KA]
def MT(j13:Bool->Int->Option Int)(j12:LB->LB->Int->Int->Int->Int->Int->Int->Bool->Int->LI->LB->Option Int)(j25:Bool->Int->Option Int)(j23:LB->LB->Int->Int->Int->Int->Int->Int->Bool->Int->LI->LB->Option Int)(j24:LB->LB->Int->Int->Int->Int->Int->Int->Bool->Int->LI->LB->Int->Option Int)(j28:Bool->Int->Option Int)(j26:Int->LB->LB->Int->Int->Int->Int->Int->Int->Bool->Int->LX->LI->LI->LB->Option Int)(j22:Bool->Option Int)(j21:Option Int)(al am:LB)(an ao ap aq ar:Int)(au:LI)(ad:Int)(ae:LB)(aa:Bool)(w:Int):Option Int:=
if(Dz (Ac al) 64)then
some 8
else
if((geq w 0)&&(!aa))then
(Ev al am an ao ap aq ar au ad ae aa w).bind λ(g,a,h,p,m,u,v,f,b,k,n,o)=>
(EM al am an ao ap aq ar au ad ae aa w).bind λbn=>
if bn then
if(geq h 0)then
(Ku a).bind λ(ah,av)=>
if(geq av 24)then
j13 true 0
else
if(Bd av 0)then
(Am av).bind λ(bp,bq)=>
j13 bp bq
else
(Bp a ah (Ac a)).bind λbr=>
(Vg br).bind λaj=>
if aj then
j13 true 0
else
(Bp a ah (Ac a)).bind λbs=>
(Ok bs).bind λ(ay,az,ab,ba,af,aw)=>
if(geq aw 24)then
j13 true 0
else
if(Bd aw 0)then
(Am aw).bind λ(bt,bu)=>
j13 bt bu
else
both (
(Bp a (Ae ah 22) (Ac a)).bind λax=>
(λfb:Option Int=>
bo (
fb)) (
j12 g ax ay az ab ba af b n o f k)) [
(Bp a (Ae ah 22) (Ac a)).bind λax=>
j12 g ax ay az ab ba af b n o f k]
else
if(geq (Ac f) 0)then
if(geq h 2)then
if(Cj (Ac a) 8)then
j25 true 0
else
j23 g a h p m u v b n o f k
else
j24 g a h p m u v b n o f k 0
else
if(Cj b (Ac f))then
(Ao f b).bind λ_=>
(Ao f b).bind λy=>
if(Cj (Ac a) y)then
j28 true 0
else
(Nu g).bind λ(bc,ai)=>
if(Bd ai 0)then
(Am ai).bind λ(bv,bw)=>
j28 bv bw
else
(Ec h p m u v).bind λ(ag,bx)=>
if((Bd bx 0)||(Le b (Ac ag)))then
(Am 8).bind λ(bz,da)=>
j28 bz da
else
j26 y g a h p m u v b n o bc ag f k
else
if(Dz (Ac a) 4000)then
(Am 38).bind λ(db,bd)=>
j22 ((db==true)&&((geq bd 0)&&true))
else
j21
else
j22 false
else
if((geq (Ac am) 0)&&(geq (Ac au) 0))then
if((((geq an 0)&&((geq ao 0)&&((geq ap 0)&&((geq aq 0)&&((geq ar 0)&&true)))))&&(geq ad 0))&&(tZ (Ac ae) 12000))then
if(geq w 0)then
j22 true
else
if(!aa)then
(Vn w).bind λdc=>
j22 dc
else
j22 false
else
j22 false
else
if((false&&(geq ad 0))&&(tZ (Ac ae) 12000))then
if(geq w 0)then
j22 true
else
if(!aa)then
(Vn w).bind λdd=>
j22 dd
else
j22 false
else
j22 false
theorem Brb: @MT= @FD:=by
  unfold MT FD
  try simp only[fL,JH,KA]
  all_goals
    repeat (refine funext λ_=>?_)
    repeat' first
      |with_reducible rfl
      |with_reducible refine Nc ?_ ?_
      |with_reducible refine Mu ?_ ?_ ?_
      |with_reducible refine Nf ?_ ?_ ?_ ?_
      |((with_reducible refine Tk ?_ ?_);focus (intro h;first|(subst h;rfl)|(simp only[h];rfl)|(simp[Dm,Ac,h];done)))
      |with_reducible refine Tc λx=>?_
      |with_reducible refine AY (λ_=>?_) (λ_=>?_)
      |(refine Hg (λh=>by simp only[h,Ti,Fa,Ew,ite_self]) (λx h=>?_);(try simp only[h,Fa]))
      |(refine Jm (λh=>?_) (λh=>?_)<;>simp only[h,if_true,if_false,Bool.false_eq_true])
abbrev R_:=Int
def H:=hd_ [.agg [Ss,Sb,.agg [Si,Si,Si,Si,Si],Sl,Si,Sb,Sz,Si]] [Si] (.q (.q (.q (.cut [3] [] (.q (.cond (.q (.keep [3,21,22,23,24,25] false)) .d)) .d)))) [F8.k,F96.k,F122.k,⟨(127,AS),QH⟩,F128.k,F129.k,F130.k,F131.k,F199.k,F201.k,F202.k,F207.k,F258.k,F259.k,F260.k] f125 false [(121,(.q (.cut [2] [] (.blk (.q (.cond (.cut [2] [] (.keep [2,11] true) .d) (.q (.cond (.cut [2] [] (.keep [2,20] true) .d) (.q (.cond (.cut [2] [] (.keep [2,33] true) .d) .d))))))) .d))),(196,(.q (.q (.q (.q (.q (.cut [0,2,5] [] (.mode false) .d))))))),(197,(.q (.q (.cut [0,2,3] [⟨0,[1],.ro (.int .u8)⟩] (.q (.cond (.q (.cut [0,2,3] [⟨0,[1],.ro (.int .u8)⟩,⟨9,[1],.ro (.int .u8)⟩,⟨10,[1],.ro (.int .u8)⟩,⟨15,[1],.ro (.int .u8)⟩,⟨16,[1],.ro (.int .u8)⟩,⟨18,[],.ro (.int .u8)⟩] .d (.cut [0,2,3,4,5] [] .d .d))) .d)) .d)))),(198,(.q (.q (.q (.q (.q (.q (.cut [0,2,3,4,6] [⟨0,[1],.ro (.int .u8)⟩,⟨9,[1],.ro (.int .u8)⟩,⟨10,[1],.ro (.int .u8)⟩,⟨13,[1],.ro (.int .u8)⟩,⟨14,[1],.ro (.int .u8)⟩,⟨19,[1],.ro (.int .u8)⟩,⟨20,[1],.ro (.int .u8)⟩,⟨22,[],.ro (.int .u8)⟩,⟨28,[1],.ro (.int .u8)⟩,⟨29,[1],.ro (.int .u8)⟩,⟨40,[1],.ro (.int .u8)⟩,⟨41,[1],.ro (.int .u8)⟩] .d (.cut [0,2,3,5,7] [] .d (.q (.q (.q (.q (.seq (.mode false) .d))))))))))))))]
def x27(y ac:Int)(g a:LB)(h p m u v b:Int)(n:Bool)(o:Int)(ak:LX)(f:LI)(k:LB):Option R_:=H.e P_ [r,r,r,l,r,l,r,(dcall 3 121 3 #[true,true,true,true,true,true,true,true] #[true,true,true,true,true,false,false,false]),r,l,d,r,r,r,r,r,l,l,(call 1 198),r,r,r,r,r,r,r,r] ⟨[(0,.ptr 0 []),(2,.ptr 1 []),(3,vi y),(5,vi ac),(7,.own 2)],[.box 41 (.agg [vs g,vb a,.agg [vi h,vi p,vi m,vi u,vi v],.own 4,vi b,.own 5,vt n,vi o]),.box 199 (.agg [vt false,vi 0]),Aw 21 ak,.box 199 (.agg [vt false,vi 0]),Ai 3 f,Ab 5 k],[[(2,.ptr 3 [])],[(3,vt false),(21,.cst (.bool true)),(23,.agg [vt true,vi 0])]]⟩
theorem e27:x27=QS:=Eq.trans (b:=JF Hm) F5 (by rw[Bqi];rfl)
def k:KC_:=kk_ 125 H (u12 Jv) func125 (λx=>Eq.trans (b:=u12 (MT Gf BT Lt BR Mf Hm (OS x27) Ch CB) x) F5 (by rw[Brb];simp only[e27]<;>rfl))
end F125
namespace F120
def OV(f g:LB)(h k m n o:Int)(p:LI)(u:Int)(v:LB)(b:Bool)(a:Int):Option (LB×LB×Int×Int×Int×Int×Int×LI×Int×LB×Bool×Int×Int):=
(Jv f g h k m n o p u v b a).bind λw=>
if(Bd w 0)then
some (([]:LB),([]:LB),0,0,0,0,0,([]:LI),0,([]:LB),false,0,w)
else
if(Bd a 0)then
(λbl:Option (LB×LB×Int×Int×Int×Int×Int×LI×Int×LB×Bool×Int×Int)=>
both (
both (
(Ev f g h k m n o p u v b a).bind λ(y,aa,ab,ac,ad,ae,af,ag,ah,ai,aj,ak)=>
(λbm:Option (LB×LB×Int×Int×Int×Int×Int×LI×Int×LB×Bool×Int×Int)=>
bo (
bm)) (
some (y,aa,ab,ac,ad,ae,af,ag,ah,ai,aj,ak,a))) [
bl]) [
bl]) (
(Ev f g h k m n o p u v b a).bind λ(y,aa,ab,ac,ad,ae,af,ag,ah,ai,aj,ak)=>
some (y,aa,ab,ac,ad,ae,af,ag,ah,ai,aj,ak,a))
else
if b then
(Ev f g h k m n o p u v b a).bind λ(al,am,an,ao,ap,aq,ar,au,av,aw,ax,ay)=>
some (al,am,an,ao,ap,aq,ar,au,av,aw,ax,ay,36)
else
(Ev f g h k m n o p u v b a).bind λ(az,ba,bb,bc,bd,be,bf,bg,bh,bi,bj,bk)=>
some (az,ba,bb,bc,bd,be,bf,bg,bh,bi,bj,bk,0)
theorem Bqw: @OV= @Vw:=by
  unfold OV Vw
  try simp only[fL,JH,KA]
  all_goals
    repeat (refine funext λ_=>?_)
    repeat' first
      |with_reducible rfl
      |with_reducible refine Nc ?_ ?_
      |with_reducible refine Mu ?_ ?_ ?_
      |with_reducible refine Nf ?_ ?_ ?_ ?_
      |((with_reducible refine Tk ?_ ?_);focus (intro h;first|(subst h;rfl)|(simp only[h];rfl)|(simp[Dm,Ac,h];done)))
      |with_reducible refine Tc λx=>?_
      |with_reducible refine AY (λ_=>?_) (λ_=>?_)
      |(refine Hg (λh=>by simp only[h,Ti,Fa,Ew,ite_self]) (λx h=>?_);(try simp only[h,Fa]))
      |(refine Jm (λh=>?_) (λh=>?_)<;>simp only[h,if_true,if_false,Bool.false_eq_true])
def H:=hd_ [.agg [Ss,Sb,.agg [Si,Si,Si,Si,Si],Sl,Si,Sb,Sz,Si]] [.agg [Ss,Ob 5,.agg [Si,Si,Si,Si,Si],Ol 3,Si,Ob 5,Sz,Si],Si] (.q (.q (.seq (.blk (.q (.cond (.seq (.mode false) .d) .d))) .d))) [F122.k,F125.k] f120
def k:KC_:=kk_ 120 H (u12 Vw) func120 (λx=>Eq.trans (b:=u12 OV x) F5 (by simp only[Bqw]<;>rfl))
end F120
namespace F123
def H:=hd_ [.agg [Ss,Sb,.agg [Si,Si,Si,Si,Si],Sl,Si,Sb,Sz,Si],Si] [.agg [Ss,Ob 5,.agg [Si,Si,Si,Si,Si],Ol 3,Si,Sb,Sz,Si],Si] .d [] f123
def k:KC_:=kk_ 123 H (u13 bC) func123
end F123
namespace F52
def QW(j78:Int->Int->Int->Int->Int->LI->Bool->Int->LB->Int->LB->Option (LB×LB×Int×Int×Int×Int×Int×LI×Int×LB×Bool×Int×Int))(a:LB)(b:Bool)(f w ab:Int)(g:LB)(m o n p u h:Int)(am:LX)(k:LI)(v:LB):Option (LB×LB×Int×Int×Int×Int×Int×LI×Int×LB×Bool×Int×Int):=
if(Bd ab 0)then
(Am ab).bind λ(br,bs)=>
j78 m o n p u k br bs g h v
else
(Kw n am).bind λ(bt,af)=>
if(Bd af 0)then
(Am af).bind λ(bu,bv)=>
j78 m o n p u k bu bv g h v
else
(Dm v bt).bind λbw=>
(λhb:Option (LB×LB×Int×Int×Int×Int×Int×LI×Int×LB×Bool×Int×Int)=>
bo (
hb)) (
(Bp g w (Ac g)).bind λbx=>
j78 m o n p u k false 0 bx (Ae h 1) bw)
theorem Bqs: @QW= @FB:=by
  unfold QW FB;simp only[fL,JH,KA]
def MR(j62:Int->LI->LB->Bool->Int->LB->Int->Int->Int->Int->Int->Option (LB×LB×Int×Int×Int×Int×Int×LI×Int×LB×Bool×Int×Int))(j61:LB->Int->Int->Int->Int->Int->Int->LI->LB->Option (LB×LB×Int×Int×Int×Int×Int×LI×Int×LB×Bool×Int×Int))(j75:Int->Int->Int->Int->Int->Int->LB->Bool->Int->LB->LI->Option (LB×LB×Int×Int×Int×Int×Int×LI×Int×LB×Bool×Int×Int))(j73:LB->Int->Int->Int->Int->Int->Int->LI->LB->Option (LB×LB×Int×Int×Int×Int×Int×LI×Int×LB×Bool×Int×Int))(j74:LB->Int->Int->Int->Int->Int->Int->LI->LB->Int->Option (LB×LB×Int×Int×Int×Int×Int×LI×Int×LB×Bool×Int×Int))(j78:Int->Int->Int->Int->Int->LI->Bool->Int->LB->Int->LB->Option (LB×LB×Int×Int×Int×Int×Int×LI×Int×LB×Bool×Int×Int))(j76:Int->LB->Int->Int->Int->Int->Int->Int->LX->LI->LI->LB->Option (LB×LB×Int×Int×Int×Int×Int×LI×Int×LB×Bool×Int×Int))(j71:LB->Int->Int->Int->Int->Int->Int->Bool->Int->LI->LB->Option (LB×LB×Int×Int×Int×Int×Int×LI×Int×LB×Bool×Int×Int))(j70:LB->Int->Int->Int->Int->Int->Int->LI->LB->Option (LB×LB×Int×Int×Int×Int×Int×LI×Int×LB×Bool×Int×Int))(a:LB)(b:Bool)(f:Int)(g:LB)(m o n p u h:Int)(k:LI)(v:LB):Option (LB×LB×Int×Int×Int×Int×Int×LI×Int×LB×Bool×Int×Int):=
if(geq m 0)then
(Ku g).bind λ(ad,an)=>
if(geq an 24)then
j62 h k v true 0 g m o n p u
else
if(Bd an 0)then
(Am an).bind λ(bz,da)=>
j62 h k v bz da g m o n p u
else
(Bp g ad (Ac g)).bind λdb=>
(Vg db).bind λal=>
if al then
j62 h k v true 0 g m o n p u
else
(Bp g ad (Ac g)).bind λdc=>
(Ok dc).bind λ(ah,ai,y,aj,aa,ao)=>
if(geq ao 24)then
j62 h k v true 0 g m o n p u
else
if(Bd ao 0)then
(Am ao).bind λ(dd,de)=>
j62 h k v dd de g m o n p u
else
both (
(Bp g (Ae ad 22) (Ac g)).bind λag=>
bo (
j61 ag ah ai y aj aa h k v)) [
(Bp g (Ae ad 22) (Ac g)).bind λag=>
j61 ag ah ai y aj aa h k v]
else
if(geq (Ac k) 0)then
if(geq m 2)then
if(Cj (Ac g) 8)then
j75 m o n p u h v true 0 g k
else
j73 g m o n p u h k v
else
j74 g m o n p u h k v 0
else
if(Cj h (Ac k))then
(Ao k h).bind λ_=>
(Ao k h).bind λw=>
if(Cj (Ac g) w)then
j78 m o n p u k true 0 g h v
else
(Nu a).bind λ(aq,ak)=>
if(Bd ak 0)then
(Am ak).bind λ(df,dg)=>
j78 m o n p u k df dg g h v
else
(Ec m o n p u).bind λ(ac,dh)=>
if((Bd dh 0)||(Le h (Ac ac)))then
(Am 8).bind λ(di,ap)=>
j78 m o n p u k di ap g h v
else
j76 w g m o n p u h aq ac k v
else
if(Dz (Ac g) 4000)then
(Am 38).bind λ(dj,ae)=>
j71 g m o n p u h dj ae k v
else
j70 g m o n p u h k v
theorem Bqz: @MR= @Kl:=by
  unfold MR Kl
  repeat (refine funext λ_=>?_)
  repeat' first
    |with_reducible rfl
    |with_reducible refine Nc ?_ ?_
    |with_reducible refine Mu ?_ ?_ ?_
    |with_reducible refine Nf ?_ ?_ ?_ ?_
    |((with_reducible refine Tk ?_ ?_);focus (intro h;first|(subst h;rfl)|(simp only[h];rfl)|(simp[Dm,Ac,h];done)))
    |with_reducible refine Tc λx=>?_
    |with_reducible refine AY (λ_=>?_) (λ_=>?_)
    |(refine Hg (λh=>by simp only[h,Ti,Fa,Ew,ite_self]) (λx h=>?_);(try simp only[h,Fa]))
    |(refine Jm (λh=>?_) (λh=>?_)<;>simp only[h,if_true,if_false,Bool.false_eq_true])
abbrev R_:=(LB×LB×Int×Int×Int×Int×Int×LI×Int×LB×Bool×Int×Int)
abbrev K_:=S->Option R_
def H:=hd_ [.agg [Ss,Sb,.agg [Si,Si,Si,Si,Si],Sl,Si,Sb,Sz,Si],Sb] [.agg [Ss,Ob 5,.agg [Si,Si,Si,Si,Si],Ol 3,Si,Sb,Sz,Si],Si] (.q (.q (.q (.q (.blk (.loop [2,4] [⟨2,[1],.ro (.int .u8)⟩] (.blk (.cut [2,4,7] [] (.keep [2,4,7,22] true) .d)))))))) [F8.k,F96.k,F120.k,F122.k,F123.k,⟨(127,AS),QH⟩,F128.k,F129.k,F130.k,F131.k,F199.k,F207.k,F258.k,F259.k,F260.k] f52 false [(121,(.q (.cut [2] [] (.blk (.q (.cond (.cut [2] [] (.keep [2,11] true) .d) (.q (.cond (.cut [2] [] (.keep [2,20] true) .d) (.q (.cond (.cut [2] [] (.keep [2,33] true) .d) .d))))))) .d))),(196,(.q (.q (.q (.q (.q (.cut [0,2,5] [] (.mode false) .d))))))),(197,(.q (.q (.cut [0,2,3] [] (.q (.cond (.q (.cut [0,2,3] [⟨0,[1],.ro (.int .u8)⟩,⟨9,[1],.ro (.int .u8)⟩,⟨10,[1],.ro (.int .u8)⟩,⟨15,[1],.ro (.int .u8)⟩,⟨16,[1],.ro (.int .u8)⟩,⟨18,[],.ro (.int .u8)⟩] .d (.cut [0,2,3,4,5] [] .d .d))) .d)) .d)))),(198,(.q (.q (.q (.q (.q (.q (.cut [0,2,3,4,6] [⟨0,[1],.ro (.int .u8)⟩,⟨9,[1],.ro (.int .u8)⟩,⟨10,[1],.ro (.int .u8)⟩,⟨13,[1],.ro (.int .u8)⟩,⟨14,[1],.ro (.int .u8)⟩,⟨19,[1],.ro (.int .u8)⟩,⟨20,[1],.ro (.int .u8)⟩,⟨22,[],.ro (.int .u8)⟩,⟨28,[1],.ro (.int .u8)⟩,⟨29,[1],.ro (.int .u8)⟩,⟨40,[1],.ro (.int .u8)⟩,⟨41,[1],.ro (.int .u8)⟩] .d (.cut [0,2,3,5,7] [] .d (.q (.q (.q (.q (.seq (.mode false) .d))))))))))))))]
def t37(a:LB)(b:Bool)(f:Int)(g:LB)(m o n p u h:Int)(k:LI)(v:LB):S:=⟨[(2,.ptr 0 []),(4,.ptr 1 [])],[.box 41 (.agg [vs a,vb g,.agg [vi m,vi o,vi n,vi p,vi u],.own 2,vi h,.own 3,vt b,vi f]),.box 41 (.agg [vs ([]:LB),.nils,.agg [vi 0,vi 0,vi 0,vi 0,vi 0],.nils,vi 0,.nils,vt false,vi 0]),Ai 3 k,Ab 5 v],[]⟩
def z37:ZT_ R_:=H.i P_ [r,r,r,r,d]
def x75(M1:K_)(a:LB)(b:Bool)(f m o n p u h:Int)(v:LB)(bf:Bool)(bg:Int)(bh:LB)(bi:LI):Option R_:=H.e P_ [r,r,r,r,d,(lp M1),d,l,(call 0 121),r,l,d,r,r,r,l,r] ⟨[(2,.ptr 0 [])],[.box 199 (.agg [vt bf,vi bg]),.box 41 (.agg [vs a,vb bh,.agg [vi m,vi o,vi n,vi p,vi u],.own 3,vi h,.own 4,vt b,vi f]),.box 41 (.agg [vs ([]:LB),.nils,.agg [vi 0,vi 0,vi 0,vi 0,vi 0],.nils,vi 0,.nils,vt false,vi 0]),Ai 3 bi,Ab 5 v],[[(2,.ptr 1 []),(4,.ptr 2 [])]]⟩
def x78(M1:K_)(a:LB)(b:Bool)(f m o n p u:Int)(k:LI)(bl:Bool)(bm:Int)(bn:LB)(bp:Int)(bq:LB):Option R_:=H.e P_ [r,r,r,r,d,(lp M1),d,l,(call 0 121),r,l,d,r,r,r,r,r,l,r] ⟨[(2,.ptr 0 [])],[.box 199 (.agg [vt bl,vi bm]),.box 41 (.agg [vs a,vb bn,.agg [vi m,vi o,vi n,vi p,vi u],.own 3,vi bp,.own 4,vt b,vi f]),.box 41 (.agg [vs ([]:LB),.nils,.agg [vi 0,vi 0,vi 0,vi 0,vi 0],.nils,vi 0,.nils,vt false,vi 0]),Ai 3 k,Ab 5 bq],[[(2,.ptr 1 []),(4,.ptr 2 [])]]⟩
def x77(M1:K_)(a:LB)(b:Bool)(f w ab:Int)(g:LB)(m o n p u h:Int)(am:LX)(k:LI)(v:LB):Option R_:=H.e P_ [r,r,r,r,d,(lp M1),d,l,(call 0 121),r,l,d,r,r,r,r,r,l,l,(call 1 198),r,r,r,r,r,r,r,r] ⟨[(0,.ptr 0 []),(2,.ptr 1 []),(3,vi w),(5,vi ab),(7,.own 2)],[.box 41 (.agg [vs a,vb g,.agg [vi m,vi o,vi n,vi p,vi u],.own 5,vi h,.own 6,vt b,vi f]),.box 199 (.agg [vt false,vi 0]),Aw 21 am,.box 199 (.agg [vt false,vi 0]),.box 41 (.agg [vs ([]:LB),.nils,.agg [vi 0,vi 0,vi 0,vi 0,vi 0],.nils,vi 0,.nils,vt false,vi 0]),Ai 3 k,Ab 5 v],[[(2,.ptr 3 [])],[(2,.ptr 0 []),(4,.ptr 4 [])]]⟩
theorem e75(M1:K_)(a:LB)(b:Bool)(f:Int):x75 M1 a b f=Ns (λg m o n p u h k v=>M1 (t37 a b f g m o n p u h k v)) a b f:=F5
theorem e78(M1:K_)(a:LB)(b:Bool)(f:Int):x78 M1 a b f=Rn (λg m o n p u h k v=>M1 (t37 a b f g m o n p u h k v)) a b f:=F5
theorem e77(M1:K_)(a:LB)(b:Bool)(f:Int):x77 M1 a b f=TN (λg m o n p u h k v=>M1 (t37 a b f g m o n p u h k v)) a b f:=Eq.trans (b:=QW (x78 M1 a b f) a b f) F5 (by rw[Bqs];simp only[e78]<;>rfl)
theorem i37(a:LB)(b:Bool)(f:Int):∀(q:Nat) (g:LB) (m o n p u h:Int) (k:LI) (v:LB),z37 q (t37 a b f g m o n p u h k v)=Bj a b f q g m o n p u h k v:=
 ind (λ_ _ _ _ _ _ _ _ _=>by kernel_rfl) λq ih g m o n p u h k v=>Eq.trans (b:=MR (Rp (λg m o n p u h k v=>(z37 q) (t37 a b f g m o n p u h k v)) a b f) (Xc (λg m o n p u h k v=>(z37 q) (t37 a b f g m o n p u h k v)) a b f) (x75 (z37 q) a b f) (SX (UH (x75 (z37 q) a b f) (FR (x75 (z37 q) a b f) a b f) a b f) a b f) (FR (x75 (z37 q) a b f) a b f) (x78 (z37 q) a b f) (SW (x77 (z37 q) a b f) a b f) (Da (λg m o n p u h k v=>(z37 q) (t37 a b f g m o n p u h k v)) a b f) (FJ (λg m o n p u h k v=>(z37 q) (t37 a b f g m o n p u h k v)) a b f) a b f g m o n p u h k v) F5 (by rw[Bqz];simp only[e75,e78,e77,ih]<;>rfl)
def k:KC_:=kk_ 52 H (u13 Di) func52 (λx=>Eq.trans (b:=u13 (Zx (λa b f g m o n p u h k v=>z37 Dr (t37 a b f g m o n p u h k v))) x) F5 (by simp only[i37,Bc]<;>rfl))
end F52
namespace F54
def H:=hd_ [.agg [Ss,Sb,.agg [Si,Si,Si,Si,Si],Sl,Si,Sb,Sz,Si],Si] [.agg [Ss,Ob 5,.agg [Si,Si,Si,Si,Si],Ol 3,Si,Sb,Sz,Si],Ob 5,Si] .d [F122.k,F125.k,F126.k] f54
def k:KC_:=kk_ 54 H (u13 Vk) func54
end F54
namespace F209
abbrev R_:=(Int×Int)
def H:=hd_ [Sb] [Si,Si] (.q (.q (.cut [0,4] [] .d .d))) [F157.k,F271.k,F272.k,F273.k] f209
def k:KC_:=kk_ 209 H P2 func209
end F209
namespace F134
abbrev R_:=(Int×Int)
abbrev K_:=S->Option R_
def H:=hd_ [Sb] [Si,Si] (.q (.q (.q (.q (.cut [5] [] (.blk (.loop [1,4,5] [] (.q (.cut [1,4,5] [] (.blk (.cut [1,4,5,6] [] (.keep [1,4,5,6,16,17] true) .d)) .d)))) .d))))) [F209.k] f134 false [(208,.d)]
def t8(a:Int)(b:LB):S:=⟨[(1,.ptr 0 []),(4,.fn 208 [.ptr 0 []]),(5,vi a)],[.box 31 (vb b)],[]⟩
def z8:ZT_ R_:=H.i P_ [r,r,r,r,l,d]
theorem i8:∀(q:Nat) (a:Int) (b:LB),z8 q (t8 a b)=Zs q a b:=
 ind (λ_ _=>by kernel_rfl) λq ih a b=>Eq.trans (b:=ZB (TM (λa b=>(z8 q) (t8 a b))) Bev a b) F5 (by simp only[ih]<;>rfl)
def k:KC_:=kk_ 134 H Za func134 (λx=>Eq.trans (b:=YW (λa b=>z8 Dr (t8 a b)) x) F5 (by simp only[i8,Bc]<;>rfl))
end F134
namespace F124
def H:=hd_ [.agg [Ss,Sb,.agg [Si,Si,Si,Si,Si],Sl,Si,Sb,Sz,Si]] [Si] .d [⟨(127,AS),QH⟩,F128.k,F134.k] f124
def k:KC_:=kk_ 124 H (u12 DD) func124
end F124
namespace F53
def H:=hd_ [.agg [Ss,Sb,.agg [Si,Si,Si,Si,Si],Sl,Si,Sb,Sz,Si]] [.agg [Ss,Ob 5,.agg [Si,Si,Si,Si,Si],Ol 3,Si,Sb,Sz,Si],Si] .d [F120.k,F123.k,F124.k] f53
def k:KC_:=kk_ 53 H (u12 Cg) func53
end F53
namespace F34
def KB(j29:Int->LB->Int->Int->Int->Int->Int->Int->LB->Bool->Int->LB-> (List (Int×LB×Unit))->LB->LI->Option (LB×LB×Int×Int×Int×Int×Int×LI×Int×LB×Bool×Int×(List (Int×LB×Unit))×Int))(b:List (UInt8×Int×Unit))(ac:UInt8×Int×Unit)(a:LB)(ad ab:Int)(f w:LB)(g h k m n:Int)(y:LI)(o:Int)(p:LB)(u:Bool)(v:Int)(ae:LB)(af ag ah ai aj ak:Int)(al:LB)(am:Bool)(an:Int)(aa:List (Int×LB×Unit))(ao:LB)(ap:LI):Option (LB×LB×Int×Int×Int×Int×Int×LI×Int×LB×Bool×Int×(List (Int×LB×Unit))×Int):=
(λfs:Option (LB×LB×Int×Int×Int×Int×Int×LI×Int×LB×Bool×Int×(List (Int×LB×Unit))×Int)=>
bo (
fs)) (
(Bp a (Fq ac.2.1 (Ac a)) (Ac a)).bind λbv=>
(Dm aa ([(ad,([]:LB),())]:List (Int×LB×Unit))).bind λar=>
j29 ab ae af ag ah ai aj ak al am an bv ar ao ap)
theorem Bq5: @KB= @CA:=by
  unfold KB CA;simp only[fL,JH,KA]
def JG(j26:(UInt8×Int×Unit)->LB->Int->Int->LB->LB->Int->Int->Int->Int->Int->LI->Int->LB->Bool->Int->LB->Int->Int->Int->Int->Int->Int->LB->Bool->Int-> (List (Int×LB×Unit))->LB->LI->Option (LB×LB×Int×Int×Int×Int×Int×LI×Int×LB×Bool×Int×(List (Int×LB×Unit))×Int))(j33:Int->Int->LB->LB->Int->Int->Int->Int->Int->LI->Int->LB->Bool->Int->LB->LB->Int->Int->Int->Int->Int->Int->LB->Bool->Int->LB-> (List (Int×LB×Unit))->LB->LI->Option (LB×LB×Int×Int×Int×Int×Int×LI×Int×LB×Bool×Int×(List (Int×LB×Unit))×Int))(j34:Int->Int->LB->LB->Int->Int->Int->Int->Int->LI->Int->LB->Bool->Int->LB->LB->Int->Int->Int->Int->Int->Int->LB->Bool->Int-> (List (Int×LB×Unit))->LB->LI->Option (LB×LB×Int×Int×Int×Int×Int×LI×Int×LB×Bool×Int×(List (Int×LB×Unit))×Int))(j29:Int->LB->Int->Int->Int->Int->Int->Int->LB->Bool->Int->LB-> (List (Int×LB×Unit))->LB->LI->Option (LB×LB×Int×Int×Int×Int×Int×LI×Int×LB×Bool×Int×(List (Int×LB×Unit))×Int))(j31:(List (Int×LB×Unit))->LB->Int->Int->Int->Int->Int->Int->LB->Bool->Int->LB->LB->LI->Option (LB×LB×Int×Int×Int×Int×Int×LI×Int×LB×Bool×Int×(List (Int×LB×Unit))×Int))(b:List (UInt8×Int×Unit))(ab:Int)(f:LB)(g h k m n o:Int)(p:LB)(u:Bool)(v:Int)(a:LB)(aa:List (Int×LB×Unit))(w:LB)(y:LI):Option (LB×LB×Int×Int×Int×Int×Int×LI×Int×LB×Bool×Int×(List (Int×LB×Unit))×Int):=
if(Cj ab (Ac b))then
(Ao b ab).bind λac=>
if(geq ac.1 1)then
(λbw:Option (LB×LB×Int×Int×Int×Int×Int×LI×Int×LB×Bool×Int×(List (Int×LB×Unit))×Int)=>
(λda:Option (LB×LB×Int×Int×Int×Int×Int×LI×Int×LB×Bool×Int×(List (Int×LB×Unit))×Int)=>
(λdb:Option (LB×LB×Int×Int×Int×Int×Int×LI×Int×LB×Bool×Int×(List (Int×LB×Unit))×Int)=>
both (
da) [
da,
(Bp a 0 (Fq ac.2.1 (Ac a))).bind λaq=>
(λdc:Option (LB×LB×Int×Int×Int×Int×Int×LI×Int×LB×Bool×Int×(List (Int×LB×Unit))×Int)=>
(λdd:Option (LB×LB×Int×Int×Int×Int×Int×LI×Int×LB×Bool×Int×(List (Int×LB×Unit))×Int)=>
(λde:Option (LB×LB×Int×Int×Int×Int×Int×LI×Int×LB×Bool×Int×(List (Int×LB×Unit))×Int)=>
both (
de) [
de,
dd]) (
both (
dd) [
dc])) (
bo (
dc))) (
(Di f w g h k m n y o p u v aq).bind λ(ae,ao,af,ag,ah,ai,aj,ap,ak,al,am,an,ad)=>
j26 ac a ad ab f w g h k m n y o p u v ae af ag ah ai aj ak al am an aa ao ap),
both (
db) [
db,
(Bp a 0 (Fq ac.2.1 (Ac a))).bind λaq=>
(λft:Option (LB×LB×Int×Int×Int×Int×Int×LI×Int×LB×Bool×Int×(List (Int×LB×Unit))×Int)=>
bo (
ft)) (
(Di f w g h k m n y o p u v aq).bind λ(ae,ao,af,ag,ah,ai,aj,ap,ak,al,am,an,ad)=>
j26 ac a ad ab f w g h k m n y o p u v ae af ag ah ai aj ak al am an aa ao ap)]]) (
bo (
bw))) (
both (
both (
(Bp a 0 (Fq ac.2.1 (Ac a))).bind λaq=>
(λfu:Option (LB×LB×Int×Int×Int×Int×Int×LI×Int×LB×Bool×Int×(List (Int×LB×Unit))×Int)=>
bo (
fu)) (
(Di f w g h k m n y o p u v aq).bind λ(ae,ao,af,ag,ah,ai,aj,ap,ak,al,am,an,ad)=>
j26 ac a ad ab f w g h k m n y o p u v ae af ag ah ai aj ak al am an aa ao ap)) [
bw]) [
(Bp a 0 (Fq ac.2.1 (Ac a))).bind λaq=>
(λdf:Option (LB×LB×Int×Int×Int×Int×Int×LI×Int×LB×Bool×Int×(List (Int×LB×Unit))×Int)=>
both (
bo (
df)) [
df]) (
(Di f w g h k m n y o p u v aq).bind λ(ae,ao,af,ag,ah,ai,aj,ap,ak,al,am,an,ad)=>
j26 ac a ad ab f w g h k m n y o p u v ae af ag ah ai aj ak al am an aa ao ap),
bo (
bw)])) (
(Bp a 0 (Fq ac.2.1 (Ac a))).bind λaq=>
(Di f w g h k m n y o p u v aq).bind λ(ae,ao,af,ag,ah,ai,aj,ap,ak,al,am,an,ad)=>
j26 ac a ad ab f w g h k m n y o p u v ae af ag ah ai aj ak al am an aa ao ap)
else
if(geq ac.1 2)then
(λdg:Option (LB×LB×Int×Int×Int×Int×Int×LI×Int×LB×Bool×Int×(List (Int×LB×Unit))×Int)=>
(λdh:Option (LB×LB×Int×Int×Int×Int×Int×LI×Int×LB×Bool×Int×(List (Int×LB×Unit))×Int)=>
(λdi:Option (LB×LB×Int×Int×Int×Int×Int×LI×Int×LB×Bool×Int×(List (Int×LB×Unit))×Int)=>
both (
di) [
di,
dh]) (
both (
dh) [
dg])) (
bo (
dg))) (
(Vk f w g h k m n y o p u v ac.2.1).bind λ(av,ar,aw,ax,ay,az,ba,bg,bb,bc,bd,be,bf,au)=>
j33 au ab f w g h k m n y o p u v a av aw ax ay az ba bb bc bd be bf aa ar bg)
else
if(geq ac.1 3)then
(λdj:Option (LB×LB×Int×Int×Int×Int×Int×LI×Int×LB×Bool×Int×(List (Int×LB×Unit))×Int)=>
(λdk:Option (LB×LB×Int×Int×Int×Int×Int×LI×Int×LB×Bool×Int×(List (Int×LB×Unit))×Int)=>
(λdl:Option (LB×LB×Int×Int×Int×Int×Int×LI×Int×LB×Bool×Int×(List (Int×LB×Unit))×Int)=>
both (
dl) [
dl,
dk]) (
both (
dk) [
dj])) (
bo (
dj))) (
(Cg f w g h k m n y o p u v).bind λ(bi,bt,bj,bk,bl,bm,bn,bu,bp,bq,br,bs,bh)=>
j34 bh ab f w g h k m n y o p u v a bi bj bk bl bm bn bp bq br bs aa bt bu)
else
j29 ab f g h k m n o p u v a aa w y
else
j31 aa f g h k m n o p u v a w y
theorem Bpz: @JG= @Us:=by
  unfold JG Us
  try simp only[fL,JH,KA]
  all_goals
    repeat (refine funext λ_=>?_)
    repeat' first
      |with_reducible rfl
      |with_reducible refine Nc ?_ ?_
      |with_reducible refine Mu ?_ ?_ ?_
      |with_reducible refine Nf ?_ ?_ ?_ ?_
      |((with_reducible refine Tk ?_ ?_);focus (intro h;first|(subst h;rfl)|(simp only[h];rfl)|(simp[Dm,Ac,h];done)))
      |with_reducible refine Tc λx=>?_
      |with_reducible refine AY (λ_=>?_) (λ_=>?_)
      |(refine Hg (λh=>by simp only[h,Ti,Fa,Ew,ite_self]) (λx h=>?_);(try simp only[h,Fa]))
      |(refine Jm (λh=>?_) (λh=>?_)<;>simp only[h,if_true,if_false,Bool.false_eq_true])
abbrev R_:=(LB×LB×Int×Int×Int×Int×Int×LI×Int×LB×Bool×Int×(List (Int×LB×Unit))×Int)
abbrev K_:=S->Option R_
def H:=hd_ [Ss,Sb,.lf (.list (.cons (.int .u8) (.cons (.int .i64) .nil))) none] [.agg [Ss,Ob 5,.agg [Si,Si,Si,Si,Si],Ol 3,Si,Sb,Sz,Si],.lf (.list (.cons (.int .i64) (.cons (.list (.int .u8)) .nil))) (some 162),Si] (.q (.q (.q (.q (.q (.cut [6,12,13] [] (.keep [6,12,13,35] true) .d)))))) [F51.k,F52.k,F53.k,F54.k,F93.k] f34 false [(94,(.q (.q (.q (.cut [6] [] (.q (.blk (.loop [5,6,19,20,21] [⟨5,[0,0,5],.ro (.int .u8)⟩,⟨6,[],.own 162 (.cons (.int .i64) (.cons (.list (.int .u8)) .nil))⟩] (.q (.q (.cut [5,6,19,20,21] [] (.blk (.q (.q (.q (.cond (.keep [5,6,19,20,21,33,37,38,39] true) .d))))) .d)))))) .d))))),(172,(.q (.q (.cut [0,1,4,5,6] [] (.mode false) (.seq (.mode false) .d))))),(173,(.q (.cut [0,4,5,6,7] [] (.mode false) .d))),(174,(.q (.cut [0,4,5,6] [] (.mode false) .d)))]
def t17(b:List (UInt8×Int×Unit))(ab:Int)(f:LB)(g h k m n o:Int)(p:LB)(u:Bool)(v:Int)(a:LB)(aa:List (Int×LB×Unit))(w:LB)(y:LI):S:=⟨[(5,.mp [1,2,3] [.bfn 172 [.ptr 0 []],.bfn 173 [.ptr 0 []],.bfn 174 [.ptr 0 []]]),(6,.own 1),(19,.val (.list (.cons (.int .u8) (.cons (.int .i64) .nil))) b),(20,vi (Ac b)),(21,vi ab)],[.box 159 (.agg [.agg [vs f,.own 3,.agg [vi g,vi h,vi k,vi m,vi n],.own 4,vi o,vb p,vt u,vi v],.fn 52 [],.fn 53 [],.fn 54 [],vb a]),.arr 162 (.cons (.int .i64) (.cons (.list (.int .u8)) .nil)) aa,.box 41 (.agg [vs ([]:LB),.nils,.agg [vi 0,vi 0,vi 0,vi 0,vi 0],.nils,vi 0,.nils,vt false,vi 0]),Ab 5 w,Ai 3 y],[[(6,.ptr 2 []),(12,.ptr 0 [])]]⟩
def z17:ZT_ R_:=H.i P_ [r,r,r,r,r,l,(call 2 94),r,r,r,l,r,d]
def x26(a!:K_)(b:List (UInt8×Int×Unit))(ac:UInt8×Int×Unit)(a:LB)(ad ab:Int)(f w:LB)(g h k m n:Int)(y:LI)(o:Int)(p:LB)(u:Bool)(v:Int)(ae:LB)(af ag ah ai aj ak:Int)(al:LB)(am:Bool)(an:Int)(aa:List (Int×LB×Unit))(ao:LB)(ap:LI):Option R_:=H.e P_ [r,r,r,r,r,l,(call 2 94),r,r,r,l,r,d,(lp a!),r,r,l,d,r,r,r,l,(call 4 172),r,r,r] ⟨[(0,.ptr 0 []),(1,vi (Fq ac.2.1 (Ac a))),(4,.ptr 1 []),(5,.ptr 2 []),(6,vi ad)],[.box 159 (.agg [.agg [vs f,vb w,.agg [vi g,vi h,vi k,vi m,vi n],vl y,vi o,vb p,vt u,vi v],.fn 52 [],.fn 53 [],.fn 54 [],vb a]),.box 162 (.agg [vi 0,.nils]),.box 41 (.agg [vs ae,.own 5,.agg [vi af,vi ag,vi ah,vi ai,vi aj],.own 6,vi ak,vb al,vt am,vi an]),.arr 162 (.cons (.int .i64) (.cons (.list (.int .u8)) .nil)) aa,.box 41 (.agg [vs ([]:LB),.nils,.agg [vi 0,vi 0,vi 0,vi 0,vi 0],.nils,vi 0,.nils,vt false,vi 0]),Ab 5 ao,Ai 3 ap],[[(5,.mp [1,2,3] [.bfn 172 [.ptr 0 []],.bfn 173 [.ptr 0 []],.bfn 174 [.ptr 0 []]]),(6,.own 3),(19,.val (.list (.cons (.int .u8) (.cons (.int .i64) .nil))) b),(20,vi (Ac b)),(21,vi ab),(33,.own 3)],[(6,.ptr 4 []),(12,.ptr 0 [])]]⟩
theorem e26(a!:K_)(b:List (UInt8×Int×Unit)):x26 a! b=QR (λab f g h k m n o p u v a aa w y=>a! (t17 b ab f g h k m n o p u v a aa w y)) b:=Eq.trans (b:=KB (Hr (λab f g h k m n o p u v a aa w y=>a! (t17 b ab f g h k m n o p u v a aa w y)) b) b) F5 (by rw[Bq5];rfl)
theorem i17(b:List (UInt8×Int×Unit)):∀(q:Nat) (ab:Int) (f:LB) (g h k m n o:Int) (p:LB) (u:Bool) (v:Int) (a:LB) (aa:List (Int×LB×Unit)) (w:LB) (y:LI),z17 q (t17 b ab f g h k m n o p u v a aa w y)=Hl b q ab f g h k m n o p u v a aa w y:=
 ind (λ_ _ _ _ _ _ _ _ _ _ _ _ _ _ _=>by kernel_rfl) λq ih ab f g h k m n o p u v a aa w y=>Eq.trans (b:=JG (x26 (z17 q) b) (MS (λab f g h k m n o p u v a aa w y=>(z17 q) (t17 b ab f g h k m n o p u v a aa w y)) b) (NT (λab f g h k m n o p u v a aa w y=>(z17 q) (t17 b ab f g h k m n o p u v a aa w y)) b) (Hr (λab f g h k m n o p u v a aa w y=>(z17 q) (t17 b ab f g h k m n o p u v a aa w y)) b) MW b ab f g h k m n o p u v a aa w y) F5 (by rw[Bpz];simp only[e26,ih]<;>rfl)
def k:KC_:=kk_ 34 H (u3 AL) func34 (λx=>Eq.trans (b:=u3 (TD (λb ab f g h k m n o p u v a aa w y=>z17 Dr (t17 b ab f g h k m n o p u v a aa w y))) x) F5 (by simp only[i17,Bc]<;>rfl))
end F34
namespace F35
abbrev R_:=LB
def H:=hd_ [.lf (.list (.cons (.int .i64) (.cons (.list (.int .u8)) .nil))) none] [Ob 5] (.q (.q (.cut [3] [] (.q (.blk (.loop [3,6,7,8] [⟨3,[],.own 5 (.int .u8)⟩] .d))) .d))) [] f35
def t4(a:List (Int×LB×Unit))(f:Int)(b:LB):S:=⟨[(3,.own 0),(6,.val (.list (.cons (.int .i64) (.cons (.list (.int .u8)) .nil))) a),(7,vi (Ac a)),(8,vi f)],[Ab 5 b],[]⟩
def z4:ZT_ R_:=H.i P_ [r,r,l,r,d]
theorem i4(a:List (Int×LB×Unit)):∀(q:Nat) (f:Int) (b:LB),z4 q (t4 a f b)=Rk a q f b:=
 ind (λ_ _=>by kernel_rfl) λq ih f b=>Eq.trans (b:=FK SM (λf b=>(z4 q) (t4 a f b)) a f b) F5 (by simp only[ih]<;>rfl)
def k:KC_:=kk_ 35 H AR func35 (λx=>Eq.trans (b:=Bah (λa f b=>z4 Dr (t4 a f b)) x) F5 (by simp only[i4,Bc]<;>rfl))
end F35
namespace F7
def H:=hd_ [] [Sz] .d [F10.k,F33.k,F34.k,F35.k] f7
def k:KC_:=kk_ 7 H (λ_=>Yu) func7
end F7
namespace F99
def H:=hd_ [.agg [Si,Si,Si,Sw]] [.agg [Si,Si]] .d [] f99
def k:KC_:=kk_ 99 H (u4 TA) func99
end F99
namespace F151
def H:=hd_ [.agg [Si,Si,Si,Sw],Si] [Si] .d [F99.k,F189.k,F228.k] f151
def k:KC_:=kk_ 151 H (u5 SV) func151
end F151
namespace F75
def H:=hd_ [.agg [Si,Si,Si,Sw]] [Si] .d [F36.k,F151.k] f75
def k:KC_:=kk_ 75 H (u4 Ga) func75
end F75
namespace F37
def YN(j2:LB->Int->Int->Int->LX->Option (Int×Int×Int×Int×Int×Int))(a b f:Int)(g:LX)(h:LB):Option (Int×Int×Int×Int×Int×Int):=
(Ga a b f g).bind λk=>
if(Bd k 0)then
some (0,0,0,0,0,k)
else
if(Dz (Ac h) 64)then
some (0,0,0,0,0,2)
else
(Jb (Bd a 0)).bind λ_=>
bo (
j2 h a b f g)
theorem Bn5: @YN= @MP:=by
  unfold YN MP;simp only[fL,JH,KA]
abbrev R_:=(Int×Int×Int×Int×Int×Int)
def H:=hd_ [.agg [Si,Si,Si,Sw],Ss] [.agg [Si,Si,Si,Si,Si],Si] (.q (.q (.q (.cut [1,4,7] [] .d .d)))) [F75.k] f37
def k:KC_:=kk_ 37 H (u5 iQ) func37 (λx=>Eq.trans (b:=u5 (YN dO) x) F5 (by simp only[Bn5]<;>rfl))
end F37
theorem Bpy:ConOk Tryz.prog gl 38 jW:=Bnu F75.k.2 F96.k.2 F178.k.2 F98.k.2 F99.k.2
namespace F43
def H:=hd_ [Sb] [Si] .d [] f43
def k:KC_:=kk_ 43 H jU func43
end F43
namespace F44
abbrev R_:=LB
def H:=hd_ [.lf (.list (.list (.int .u8))) none] [Ob 5] (.q (.q (.cut [3] [] (.q (.blk (.loop [3,6,7,8] [⟨3,[],.own 5 (.int .u8)⟩] .d))) .d))) [] f44
def t4(a:List LB)(f:Int)(b:LB):S:=⟨[(3,.own 0),(6,.val (.list (.list (.int .u8))) a),(7,vi (Ac a)),(8,vi f)],[Ab 5 b],[]⟩
def z4:ZT_ R_:=H.i P_ [r,r,l,r,d]
theorem i4(a:List LB):∀(q:Nat) (f:Int) (b:LB),z4 q (t4 a f b)=Ye a q f b:=
 ind (λ_ _=>by kernel_rfl) λq ih f b=>Eq.trans (b:=PH Bm1 (λf b=>(z4 q) (t4 a f b)) a f b) F5 (by simp only[ih]<;>rfl)
def k:KC_:=kk_ 44 H xU func44 (λx=>Eq.trans (b:=Bk5 (λa f b=>z4 Dr (t4 a f b)) x) F5 (by simp only[i4,Bc]<;>rfl))
end F44
namespace F9
abbrev R_:=(LB×Int)
abbrev K_:=S->Option R_
def H:=hd_ [.agg [Si,Si,Si,Sw],Ss] [Ob 5,Si] (.q (.q (.q (.q (.q (.q (.q (.q (.cut [8,9,10] [⟨10,[],.own 5 (.int .u8)⟩] .d (.cut [7,8,9,10,11] [] (.keep [7,8,9,10,11,46,48,49,50,51] true) .d)))))))))) [F37.k,⟨(38,jW),Bpy⟩,F39.k,F40.k,F41.k,F43.k,F44.k] f9 false [(42,(.q (.q (.cut [5] [] (.q (.blk (.loop [1,5,11,12,13] [] (.q (.q (.cut [1,5,11,12,13] [] .d .d)))))) .d))))]
def t9(a:List LB)(b f:LB)(g:Int)(h:LI):S:=⟨[(1,.fn 43 []),(5,.own 0),(11,.own 1),(12,vi (Ac a)),(13,vi g)],[Ai 3 h,.arr 31 (.list (.int .u8)) a,Ab 5 b,Ab 5 f],[[(8,.own 1),(9,.own 2),(10,.own 3)]]⟩
def z9:ZT_ R_:=H.i P_ [r,r,r,r,r,r,r,r,r,l,(call 1 42),r,r,l,r,d]
theorem i9(a:List LB)(b f:LB):∀(q:Nat) (g:Int) (h:LI),z9 q (t9 a b f g h)=Yd a b f q g h:=
 ind (λ_ _=>by kernel_rfl) λq ih g h=>Eq.trans (b:=OT (YL (λg h=>(z9 q) (t9 a b f g h)) a b f) Zz a b f g h) F5 (by simp only[ih]<;>rfl)
def k:KC_:=kk_ 9 H (u5 jC) func9 (λx=>Eq.trans (b:=u5 (cP (bX (λa b f g h=>z9 Dr (t9 a b f g h)))) x) F5 (by simp only[i9,Bc]<;>rfl))
end F9
namespace F118
def H:=hd_ [.agg [Si,Si],Si,Ss] [Si] .d [F88.k,F193.k] f118
def k:KC_:=kk_ 118 H (u4 JV) func118
end F118
namespace F194
def H:=hd_ [.agg [.agg [Si,Si],Si,Ss,Sb,Sw,.lf (.list (.list (.int .u8))) none,Sb,Sz,Si]] [Si] .d [F193.k] f194
def k:KC_:=kk_ 194 H (u10 Va) func194
end F194
namespace F58
def H:=hd_ [.agg [Si,Si]] [Si] .d [] f58
def k:KC_:=kk_ 58 H (u2 Fw) func58
end F58
namespace F148
def H:=hd_ [.agg [.agg [Si,Si],Si,Ss,Sb,Sw,.lf (.list (.list (.int .u8))) none,Sb,Sz,Si]] [Si] .d [F194.k] f148
def k:KC_:=kk_ 148 H (u10 KD) func148
end F148
namespace F195
def H:=hd_ [.agg [.agg [Si,Si],Si,Ss,Sb,Sw,.lf (.list (.list (.int .u8))) none,Sb,Sz,Si],Si,Si] [Sz] .d [] f195
def k:KC_:=kk_ 195 H (u12 PT) func195
end F195
namespace F119
abbrev R_:=Bool
def H:=hd_ [.agg [.agg [Si,Si],Si,Ss,Sb,Sw,.lf (.list (.list (.int .u8))) none,Sb,Sz,Si]] [Sz] (.q (.q (.cut [1,3] [] .d (.q (.cut [1,3,4] [] .d (.cut [1,3] [] .d (.cut [] [] (.q (.blk (.loop [1,3,5] [] .d))) .d))))))) [F58.k,F89.k,F148.k,F194.k,F195.k] f119
def t10(h f g n:Int)(o k:LB)(b:LX)(a:List LB)(m:LB)(p:Bool)(u v:Int):S:=⟨[(1,.ptr 0 []),(3,vi h),(5,vi v)],[.box 90 (.agg [.agg [vi f,vi g],vi n,vs o,vb k,vw b,.val (.list (.list (.int .u8))) a,vb m,vt p,vi u])],[]⟩
def z10:ZT_ R_:=H.i P_ [r,r,r,r,r,r,l,r,d]
def x7(h f g n:Int)(o k:LB)(b:LX)(a:List LB)(m:LB)(p:Bool)(u:Int):Option R_:=H.e P_ [r,r,r] ⟨[(1,.ptr 0 []),(3,vi h)],[.box 90 (.agg [.agg [vi f,vi g],vi n,vs o,vb k,vw b,.val (.list (.list (.int .u8))) a,vb m,vt p,vi u])],[]⟩
theorem i10(h f g n:Int)(o k:LB)(b:LX)(a:List LB)(m:LB)(p:Bool)(u:Int):∀(q:Nat) (v:Int),z10 q (t10 h f g n o k b a m p u v)=Gx h f g n o k b a m p u q v:=
 ind (λ_=>by kernel_rfl) λq ih v=>Eq.trans (b:=Oe Abg (λv=>(z10 q) (t10 h f g n o k b a m p u v)) h f g n o k b a m p u v) F5 (by simp only[ih]<;>rfl)
theorem e7:x7=Xa:=Eq.trans (b:=Wy (Xi (Xt (λh f g n o k b a m p u v=>z10 Dr (t10 h f g n o k b a m p u v))))) F5 (by simp only[i10,Bc]<;>rfl)
def k:KC_:=kk_ 119 H (u10 Uk) func119 (λx=>Eq.trans (b:=u10 (Xx x7) x) F5 (by simp only[e7]<;>rfl))
end F119
namespace F50
def H:=hd_ [.agg [.agg [Si,Si],Si,Ss,Sb,Sw,.lf (.list (.list (.int .u8))) none,Sb,Sz,Si]] [Si] .d [F118.k,F119.k] f50
def k:KC_:=kk_ 50 H (u10 Yn) func50
end F50
namespace F11
abbrev R_:=Bool
abbrev K_:=S->Option R_
def H:=hd_ [.agg [Si,Si],Si,Ss,Sb,Sb,Sl] [Sz] (.q (.q (.q (.cut [4,13,14] [] (.q (.blk (.loop [3,4,5,13,14,15,16] [] (.q (.seq (.blk (.q (.cut [3,4,5,13,15,16,17] [] .d (.seq (.mode false) .d)))) .d))))) (.cut [4,13] [] .d .d))))) [F46.k,F47.k,F48.k,F49.k,F50.k] f11
def t7(v a:LB)(w:LI)(ab y aa b f g:Int)(h:LB)(k:Bool)(m:Int)(n:LB)(o:LX)(p:List LB)(u:LB):S:=⟨[(3,vb v),(4,vb a),(5,vl w),(13,.ptr 0 []),(14,vi ab),(15,vi y),(16,vi aa)],[.box 90 (.agg [.agg [vi b,vi f],vi g,vs h,.own 1,.own 2,.own 3,.own 4,vt k,vi m]),Ab 5 n,Aw 21 o,.arr 31 (.list (.int .u8)) p,Ab 5 u],[]⟩
def z7:ZT_ R_:=H.i P_ [r,r,r,l,r,d]
theorem i7(v a:LB)(w:LI):∀(q:Nat) (ab y aa b f g:Int) (h:LB) (k:Bool) (m:Int) (n:LB) (o:LX) (p:List LB) (u:LB),z7 q (t7 v a w ab y aa b f g h k m n o p u)=Gs v a w q ab y aa b f g h k m n o p u:=
 ind (λ_ _ _ _ _ _ _ _ _ _ _ _ _=>by kernel_rfl) λq ih ab y aa b f g h k m n o p u=>Eq.trans (b:=Qo (Ql (λab y aa b f g h k m n o p u=>(z7 q) (t7 v a w ab y aa b f g h k m n o p u)) v a w) Yf v a w ab y aa b f g h k m n o p u) F5 (by simp only[ih]<;>rfl)
def k:KC_:=kk_ 11 H (u7 We) func11 (λx=>Eq.trans (b:=u7 (Zr (λv a w ab y aa b f g h k m n o p u=>z7 Dr (t7 v a w ab y aa b f g h k m n o p u))) x) F5 (by simp only[i7,Bc]<;>rfl))
end F11
namespace F12
abbrev R_:=(LB×LB×Int×Int×Int×Int×Int×LI×Int×LB×Bool×Int×LB)
abbrev K_:=S->Option R_
def H:=hd_ [Ss,Sb,Sl] [.agg [Ss,Sb,.agg [Si,Si,Si,Si,Si],Sl,Si,Sb,Sz,Si],Ob 5] (.q (.q (.q (.cut [6,8] [] (.q (.blk (.loop [1,2,6,8,10,11] [⟨8,[5],.ro (.int .u8)⟩] (.q (.seq (.blk (.q (.cut [1,2,6,8,10,11,12] [] .d (.seq (.mode false) .d)))) .d))))) .d)))) [F51.k,F52.k,F53.k,F54.k] f12
def t7(a:LB)(b:LI)(f ab:Int)(g:LB)(h k m n o p:Int)(u:LB)(v:Bool)(w:Int)(y:LB)(aa:LI):S:=⟨[(1,vb a),(2,vl b),(6,.ptr 0 []),(8,.ptr 1 []),(10,vi f),(11,vi ab)],[.box 41 (.agg [vs ([]:LB),.nils,.agg [vi 0,vi 0,vi 0,vi 0,vi 0],.nils,vi 0,.nils,vt false,vi 0]),.box 41 (.agg [vs g,.own 2,.agg [vi h,vi k,vi m,vi n,vi o],.own 3,vi p,vb u,vt v,vi w]),Ab 5 y,Ai 3 aa],[]⟩
def z7:ZT_ R_:=H.i P_ [r,r,r,l,r,d]
theorem i7(a:LB)(b:LI):∀(q:Nat) (f ab:Int) (g:LB) (h k m n o p:Int) (u:LB) (v:Bool) (w:Int) (y:LB) (aa:LI),z7 q (t7 a b f ab g h k m n o p u v w y aa)=Gc a b q f ab g h k m n o p u v w y aa:=
 ind (λ_ _ _ _ _ _ _ _ _ _ _ _ _ _=>by kernel_rfl) λq ih f ab g h k m n o p u v w y aa=>Eq.trans (b:=Pg (Oc (λf ab g h k m n o p u v w y aa=>(z7 q) (t7 a b f ab g h k m n o p u v w y aa)) a b) Vl a b f ab g h k m n o p u v w y aa) F5 (by simp only[ih]<;>rfl)
def k:KC_:=kk_ 12 H (u3 Pa) func12 (λx=>Eq.trans (b:=u3 (Xb (λa b f ab g h k m n o p u v w y aa=>z7 Dr (t7 a b f ab g h k m n o p u v w y aa))) x) F5 (by simp only[i7,Bc]<;>rfl))
end F12
namespace F55
abbrev R_:=(LB×Int)
abbrev K_:=S->Option R_
def H:=hd_ [Ss,Sb,Sl] [Sb,Si] (.q (.q (.q (.cut [8] [] (.q (.blk (.loop [1,8,20,21,22] [⟨8,[5],.ro (.int .u8)⟩] (.q (.q (.seq (.blk (.q (.seq (.cut [1,8,9,11,20,21,22] [] (.mode false) .d) .d))) .d)))))) .d)))) [F51.k,F52.k,F53.k] f55
def t7(a:LI)(b:LB)(f:Int)(g:LB)(h k m n o p:Int)(u:LB)(v:Bool)(w:Int)(y:LB)(aa:LI):S:=⟨[(1,vb b),(8,.ptr 0 []),(20,vl a),(21,vi (Ac a)),(22,vi f)],[.box 41 (.agg [vs g,.own 1,.agg [vi h,vi k,vi m,vi n,vi o],.own 2,vi p,vb u,vt v,vi w]),Ab 5 y,Ai 3 aa],[]⟩
def z7:ZT_ R_:=H.i P_ [r,r,r,l,r,d]
theorem i7(a:LI):∀(q:Nat) (b:LB) (f:Int) (g:LB) (h k m n o p:Int) (u:LB) (v:Bool) (w:Int) (y:LB) (aa:LI),z7 q (t7 a b f g h k m n o p u v w y aa)=Yh a q b f g h k m n o p u v w y aa:=
 ind (λ_ _ _ _ _ _ _ _ _ _ _ _ _ _=>by kernel_rfl) λq ih b f g h k m n o p u v w y aa=>Eq.trans (b:=UD (QN (λb f g h k m n o p u v w y aa=>(z7 q) (t7 a b f g h k m n o p u v w y aa)) a) NM a b f g h k m n o p u v w y aa) F5 (by simp only[ih]<;>rfl)
def k:KC_:=kk_ 55 H (u3 UK) func55 (λx=>Eq.trans (b:=u3 (UI (λa b f g h k m n o p u v w y aa=>z7 Dr (t7 a b f g h k m n o p u v w y aa))) x) F5 (by simp only[i7,Bc]<;>rfl))
end F55
namespace F13
def H:=hd_ [Ss,Sb,Sq] [Sb,Si] .d [F45.k,F55.k] f13
def k:KC_:=kk_ 13 H (u3 HS) func13
end F13
namespace F56
abbrev R_:=(Int×Int×Int×Int×Int×Int×LI×Int)
def H:=hd_ [Sb,Ss] [.agg [.agg [Si,Si,Si,Si,Si],Si,Ol 3],Si] (.q (.q (.q (.q (.q (.q (.q (.q (.q (.cut [0,4,6,8] [] .d .d)))))))))) [⟨(127,AS),QH⟩,F128.k,F129.k,F130.k,F131.k] f56
def k:KC_:=kk_ 56 H (u2 Cf) func56
end F56
namespace F132
def H:=hd_ [Si] [Si] .d [] f132
def k:KC_:=kk_ 132 H Ur func132
end F132
namespace F57
abbrev R_:=LI
def H:=hd_ [Si,Si] [Ol 3] (.q (.q (.cut [5] [] (.q (.blk (.loop [0,5,6] [⟨5,[],.own 3 (.int .i64)⟩] .d))) .d))) [F132.k] f57
def t4(a f:Int)(b:LI):S:=⟨[(0,vi a),(5,.own 0),(6,vi f)],[Ai 3 b],[]⟩
def z4:ZT_ R_:=H.i P_ [r,r,l,r,d]
theorem i4(a:Int):∀(q:Nat) (f:Int) (b:LI),z4 q (t4 a f b)=Fs a q f b:=
 ind (λ_ _=>by kernel_rfl) λq ih f b=>Eq.trans (b:=Jk Nj (λf b=>(z4 q) (t4 a f b)) a f b) F5 (by simp only[ih]<;>rfl)
def k:KC_:=kk_ 57 H (u2 Et) func57 (λx=>Eq.trans (b:=u2 (BI (λa f b=>z4 Dr (t4 a f b))) x) F5 (by simp only[i4,Bc]<;>rfl))
end F57
namespace F205
abbrev R_:=(LI×Int)
abbrev K_:=S->Option R_
def H:=hd_ [Sl] [Ol 3,Si] (.q (.q (.q (.q (.q (.cut [7] [] (.q (.blk (.loop [6,7,17,18,19] [] (.q (.q (.cut [6,7,17,18,19] [] (.blk (.q (.keep [6,7,9,17,18,19,23,24,25,26,27,28] true))) .d)))))) .d)))))) [F104.k] f205 false [(265,.d)]
def t6(a:LI)(b g:Int)(f:LI):S:=⟨[(6,.fn 265 [.ptr 0 []]),(7,.own 1),(17,vl a),(18,vi (Ac a)),(19,vi b)],[.box 3 (vi g),Ai 3 f],[]⟩
def z6:ZT_ R_:=H.i P_ [r,r,r,r,r,l,r,d]
theorem i6(a:LI):∀(q:Nat) (b g:Int) (f:LI),z6 q (t6 a b g f)=Rr a q b g f:=
 ind (λ_ _ _=>by kernel_rfl) λq ih b g f=>Eq.trans (b:=EW (TS (λb g f=>(z6 q) (t6 a b g f)) a) Awg a b g f) F5 (by simp only[ih]<;>rfl)
def k:KC_:=kk_ 205 H UY func205 (λx=>Eq.trans (b:=TX (λa b g f=>z6 Dr (t6 a b g f)) x) F5 (by simp only[i6,Bc]<;>rfl))
end F205
namespace F59
abbrev R_:=(LB×Int)
abbrev K_:=S->Option R_
def H:=hd_ [Sb,Ss,Si] [Ob 5,Si] (.q (.cut [0,2,8,9,10,11] [] (.keep [0,1,2,8,9,10,11,18,19,20,21,22,23,24,25] true) (.q (.q (.q (.cut [0,10,12] [] (.q (.blk (.loop [0,8,9,10,12,13] [⟨12,[],.own 5 (.int .u8)⟩] (.q (.cut [0,8,9,10,12,13] [] (.blk (.cut [0,8,9,10,12,13,14,15] [⟨14,[],.own 5 (.int .u8)⟩] (.keep [0,8,9,10,12,13,14,15,42,43,44,45,46,47] true) .d)) .d))))) .d)))))) [F8.k,F56.k,F96.k,F130.k,F134.k,F205.k,F207.k] f59 false [(133,.d),(206,(.q (.cut [0,3,4,5,6,10,11] [] .d (.q (.cut [4,12,13] [] .d .d)))))]
def t19(a:LB)(y:Int):S:=⟨[(0,vb a),(8,.cst .nilFunc),(9,vi 0),(10,vi 0),(12,.own 0),(13,vi y)],[Ab 5 ([]:LB)],[]⟩
def z19:ZT_ R_:=H.i P_ [r,r,r,r,r,l,r,d]
def t22(a:LB)(f:LI)(b k n m h o p:Int)(u:LX)(v g:LI)(w:Int)(aa:LB):S:=⟨[(0,vb a),(8,.fn 206 [.ptr 0 [],.ptr 1 [],.ptr 2 [],.ptr 3 [],.ptr 4 [],.ptr 5 []]),(9,vi (Ac f)),(10,vi (Ae b k)),(12,.own 6),(13,vi w)],[.box 106 (.agg [.agg [vi n,vi m,vi h,vi o,vi p],vi b,.own 7]),.box 25 (.own 8),.box 31 (vb a),.box 30 (.agg [vi m,vi h]),.box 165 (.val (.vec 16 (.int .i32)) u),.box 25 (.own 9),Ab 5 aa,Ai 3 v,Ai 3 g,Ai 3 f],[]⟩
def z22:ZT_ R_:=H.i P_ [r,r,r,r,r,l,r,d]
theorem i19(a:LB)(y:Int):∀(q:Nat),z19 q (t19 a y)=Bge a y q:=
 ind F5 λq ih=>Eq.trans (b:=Bfw Bhi a y) F5 rfl
theorem i22(a:LB)(f:LI)(b k n m h o p:Int)(u:LX)(v g:LI):∀(q:Nat) (w:Int) (aa:LB),z22 q (t22 a f b k n m h o p u v g w aa)=Ub a f b k n m h o p u v g q w aa:=
 ind (λ_ _=>by kernel_rfl) λq ih w aa=>Eq.trans (b:=IJ (IU (λw aa=>(z22 q) (t22 a f b k n m h o p u v g w aa)) b a f k m h u n o p v g) ZI a f b k n m h o p u v g w aa) F5 (by simp only[ih]<;>rfl)
def k:KC_:=kk_ 59 H (u3 VU) func59 (λx=>Eq.trans (b:=u3 (cL (Bhv (λa y=>z19 Dr (t19 a y))) (ZD (λa f b k n m h o p u v g w aa=>z22 Dr (t22 a f b k n m h o p u v g w aa)))) x) F5 (by simp only[i19,i22,Bc]<;>rfl))
end F59
namespace F14
abbrev R_:=Bool
def H:=hd_ [.agg [Si,Si,Si,Sw],Ss,Sb,Sb,Si] [Sz] (.q (.q (.q (.q (.q (.q (.cut [1,2,3,4,14,15] [] (.q (.blk (.loop [1,2,3,4,5,11,13,14,15,16] [] .d))) (.q (.q (.cut [1,2,3,4,15,17,18,19] [] (.mode false) .d)))))))))) [F51.k,F52.k,F56.k,F57.k,F58.k,F59.k] f14
def t5(g b a:LB)(f m v w:Int)(y:LX)(aa ab ac ad ae u:Int)(k n:LI)(p h o:Int):S:=⟨[(1,vs g),(2,vb b),(3,vb a),(4,vi f),(5,.ptr 0 []),(11,.ptr 1 []),(13,.own 2),(14,vi p),(15,vi h),(16,vi o)],[.box 24 (.agg [vi m,vi v,vi w,vw y]),.box 106 (.agg [.agg [vi aa,vi ab,vi ac,vi ad,vi ae],vi u,.own 3]),Ai 3 k,Ai 3 n],[]⟩
def z5:ZT_ R_:=H.i P_ [r,r,r,r,r,r,l,r,d]
theorem i5(g b a:LB)(f m v w:Int)(y:LX)(aa ab ac ad ae u:Int)(k n:LI):∀(q:Nat) (p h o:Int),z5 q (t5 g b a f m v w y aa ab ac ad ae u k n p h o)=Io g b a f m v w y aa ab ac ad ae u k n q p h o:=
 ind (λ_ _ _=>by kernel_rfl) λq ih p h o=>Eq.trans (b:=Qp Qq (λp h o=>(z5 q) (t5 g b a f m v w y aa ab ac ad ae u k n p h o)) g b a f m v w y aa ab ac ad ae u k n p h o) F5 (by simp only[ih]<;>rfl)
def k:KC_:=kk_ 14 H (u8 Wb) func14 (λx=>Eq.trans (b:=u8 (Ys (λg b a f m v w y aa ab ac ad ae u k n p h o=>z5 Dr (t5 g b a f m v w y aa ab ac ad ae u k n p h o))) x) F5 (by simp only[i5,Bc]<;>rfl))
end F14
namespace F15
def DO(f a b:LB):Option Bool:=
(LC (Ac a) (Ae 1 (Ca (Ac a) 50)) 3).bind λ(o,h)=>
(AL f a o).bind λ(u,v,w,y,aa,ab,ac,ad,ae,af,ag,k,m,n)=>
both (
if(((geq h 0)&&(geq n 0))&&(geq k 24))then
(AR m).bind λg=>
bo (
some (g==b))
else
some false) [
if(((geq h 0)&&(geq n 0))&&(geq k 24))then
(AR m).bind λg=>
some (g==b)
else
some false]
theorem Bot: @DO= @Wl:=by
  unfold DO Wl
  repeat (refine funext λ_=>?_)
  repeat' first
    |with_reducible rfl
    |with_reducible refine Nc ?_ ?_
    |with_reducible refine Mu ?_ ?_ ?_
    |with_reducible refine Nf ?_ ?_ ?_ ?_
    |((with_reducible refine Tk ?_ ?_);focus (intro h;first|(subst h;rfl)|(simp only[h];rfl)|(simp[Dm,Ac,h];done)))
    |with_reducible refine Tc λx=>?_
    |with_reducible refine AY (λ_=>?_) (λ_=>?_)
    |(refine Hg (λh=>by simp only[h,Ti,Fa,Ew,ite_self]) (λx h=>?_);(try simp only[h,Fa]))
    |(refine Jm (λh=>?_) (λh=>?_)<;>simp only[h,if_true,if_false,Bool.false_eq_true])
abbrev R_:=Bool
def H:=hd_ [Ss,Sb,Sb,Sl,Sq] [Sz] (.q (.q (.q (.cut [0,1,12] [] .d (.q (.q (.seq (.mode false) .d))))))) [F12.k,F13.k,F33.k,F34.k,F35.k] f15
def x2(f a b:LB):Option R_:=H.e P_ [r,r,r,r] ⟨[(0,vs f),(1,vb a),(12,.own 0)],[Ab 5 b],[]⟩
theorem e2:x2=GU:=Eq.trans (b:=DO) F5 (by rw[Bot];rfl)
def k:KC_:=kk_ 15 H (u5 EZ) func15 (λx=>Eq.trans (b:=u5 (GA x2) x) F5 (by simp only[e2]<;>rfl))
end F15
namespace F3
abbrev R_:=Bool
def H:=hd_ [.agg [Si,Si,Si,Sw],Ss,Sl,Sq,Si,Si] [Sz] (.q (.q (.q (.q (.q (.q (.q (.cut [1,2,3,4,5,6,14,16] [] .d (.q (.q (.cut [1,2,3,5,14,16] [] .d .d))))))))))) [F6.k,F7.k,F8.k,F9.k,F10.k,F11.k,F12.k,F13.k,F14.k,F15.k] f3
def k:KC_:=kk_ 3 H (u9 Yv) func3
end F3
end
end Go.Proofs.YtfndponlpdejaaaGreatDoor
