/- A part of a proof (see the text that ends in Proof). No conditions. -/
import Derived.Test.YtmnpghdjdepelaaGreatDoorScHA
set_option linter.unusedVariables false
set_option linter.unusedSimpArgs false
set_option maxRecDepth 10000
namespace Go.Proofs.YtmnpghdjdepelaaGreatDoor
open Go Go.Lv Go.Pl Go.Rx Go.Rx.PS
noncomputable section
def g0:List Value:=[.bool true,.int .i64 0]
def g1:List Value:=[.int .i64 2,.int .i64 2,.int .i64 2,.int .i64 4,.int .i64 4]
def g3:List Value:=[.bool false,.int .i64 0]
def g6:List Value:=[.int .u8 0,.int .u8 1,.int .u8 56,.int .u8 2,.int .u8 57,.int .u8 49,.int .u8 28,.int .u8 3,.int .u8 61,.int .u8 58,.int .u8 42,.int .u8 50,.int .u8 38,.int .u8 29,.int .u8 17,.int .u8 4,.int .u8 62,.int .u8 47,.int .u8 59,.int .u8 36,.int .u8 45,.int .u8 43,.int .u8 51,.int .u8 22,.int .u8 53,.int .u8 39,.int .u8 33,.int .u8 30,.int .u8 24,.int .u8 18,.int .u8 12,.int .u8 5,.int .u8 63,.int .u8 55,.int .u8 48,.int .u8 27,.int .u8 60,.int .u8 41,.int .u8 37,.int .u8 16,.int .u8 46,.int .u8 35,.int .u8 44,.int .u8 21,.int .u8 52,.int .u8 32,.int .u8 23,.int .u8 11,.int .u8 54,.int .u8 26,.int .u8 40,.int .u8 15,.int .u8 34,.int .u8 20,.int .u8 31,.int .u8 10,.int .u8 25,.int .u8 14,.int .u8 19,.int .u8 9,.int .u8 13,.int .u8 8,.int .u8 7,.int .u8 6]
def gl:List (Nat×List Value):=[(0,g0),(1,g1),(3,g3),(6,g6)]
theorem mixed:Tryz.prog.follows .mixedOrders=true:=A3
noncomputable abbrev P_:=Tryz.prog
noncomputable def kt(l:List (Kc P_ gl))(v:Bool)(c:Bool:=false):=pC l v c
theorem co(H:Hd){f:Nat}{F:Pd (Jb H.p)->Option (Pd (Jb H.r))}(hf:P_.funcs[f]? =some H.f)(h:∀x,H.u P_ x=F x:=by intro x;kernel_rfl)(hT:Yp P_ H.T:=by exact fR _ _ _)(hb:qY P_ H=true:=by kernel_rfl):ConOk P_ H.T.gl f ⟨H.p,H.r,F⟩:=Hd.cn mixed H hf hT hb h
theorem ent116:Ent Tryz.prog 116:=Ent.mk Tryz.func116 A3 rfl
abbrev u2{A B R:Type}(f:A->B->R)(x:A×B):=f x.1 x.2
abbrev u3{A B C R:Type}(f:A->B->C->R):=u2 λa=>u2 (f a)
abbrev u4{A B C D R:Type}(f:A->B->C->D->R):=u2 λa=>u3 (f a)
abbrev u5{A B C D E R:Type}(f:A->B->C->D->E->R):=u2 λa=>u4 (f a)
abbrev u6{A B C D E F R:Type}(f:A->B->C->D->E->F->R):=u2 λa=>u5 (f a)
abbrev u7{A B C D E F G R:Type}(f:A->B->C->D->E->F->G->R):=u2 λa=>u6 (f a)
abbrev u8{A B C D E F G H R:Type}(f:A->B->C->D->E->F->G->H->R):=u2 λa=>u7 (f a)
abbrev u9{A B C D E F G H I R:Type}(f:A->B->C->D->E->F->G->H->I->R):=u2 λa=>u8 (f a)
abbrev oX{A B C D E F G H I J R:Type}(f:A->B->C->D->E->F->G->H->I->J->R):=u2 λa=>u9 (f a)
abbrev kP{A B C D E F G H I J K R:Type}(f:A->B->C->D->E->F->G->H->I->J->K->R):=u2 λa=>oX (f a)
abbrev iV{A B C D E F G H I J K L R:Type}(f:A->B->C->D->E->F->G->H->I->J->K->L->R):=u2 λa=>kP (f a)
abbrev qU{A B C D E F G H I J K L M R:Type}(f:A->B->C->D->E->F->G->H->I->J->K->L->M->R):=u2 λa=>iV (f a)
open Go.Proofs.Tryz
namespace F80
abbrev R_:=Bool
def H:Hd:=⟨[.agg [Sc,Si]],[Sz],(.seq .d (.seq (.seq .d (.blk (.cut [1,4,5] [] .d .d))) .d)),kt [] false,[],f80⟩
def k:Kc P_ gl:=⟨(80,⟨H.p,H.r,u2 JM⟩),co H func80⟩
end F80
namespace F79
def H:Hd:=⟨[.agg [Sc,Si]],[Sz],.d,kt [F80.k] false,[],f79⟩
def k:Kc P_ gl:=⟨(79,⟨H.p,H.r,u2 BP⟩),co H func79⟩
end F79
namespace F30
abbrev R_:=Int
abbrev K_:=S->Option R_
def H:Hd:=⟨[.lf (.list (.cons (.int .u8) (.cons (.int .i64) .nil))) none],[Si],(.seq .d (.seq .d (.cut [] [] (.cut [7] [] (.keep [7] true) .d) .d))),kt [F79.k] false,[(78,(.seq .d (.cut [4] [] (.keep [4,7,8] true) .d))),(148,(.seq .d (.cut [] [] (.seq .d (.blk (.loop [0,1,7,8] [] (.seq .d (.seq .d (.cut [0,1,7,8] [] (.blk (.seq .d (.cut [0,1,5,7,8,16] [] .d .d))) .d)))))) .d)))],f30⟩
def t11(a:List (UInt8×Int×Unit))(b:Int):S:=⟨[(0,.val (.list (.cons (.int .u8) (.cons (.int .i64) .nil))) a),(1,.fn 79 []),(7,vi (Aa a)),(8,vi b)],[],[[(4,vt false)],[]]⟩
def z11:Nat->S->Option R_:=H.i P_ [r,r,l,l,(call 1 78),r,l,(call 2 148),r,l,r,d]
theorem i11(a:List (UInt8×Int×Unit)):∀(q:Nat) (b:Int),z11 q (t11 a b)=Mm a q b:=
 ind (λ_=>by kernel_rfl) λq ih b=>Eq.trans (b:=Wc (Vm (λb=>(z11 q) (t11 a b)) a) Wf a b) A3 (by simp only[ih]<;>rfl)
def k:Kc P_ gl:=⟨(30,⟨H.p,H.r,Il⟩),co H func30 (λx=>Eq.trans (b:=Zc (λa b=>z11 Bl (t11 a b)) x) A3 (by simp only[i11,Am]<;>rfl))⟩
end F30
namespace F198
def H:Hd:=⟨[Si],[Si,Si],.d,kt [] false,[],f198⟩
def k:Kc P_ gl:=⟨(198,⟨H.p,H.r,La⟩),co H func198⟩
end F198
namespace F152
abbrev R_:=(Int32×Int32×Int)
def H:Hd:=⟨[Si],[Sx,Sx,Si],(.seq .d (.seq (.seq .d (.blk (.cut [0,7] [] .d .d))) .d)),kt [] false,[],f152⟩
def k:Kc P_ gl:=⟨(152,⟨H.p,H.r,Ub⟩),co H func152⟩
end F152
namespace F191
def H:Hd:=⟨[.agg [Si,Si]],[Si],.d,kt [F152.k] false,[],f191⟩
def k:Kc P_ gl:=⟨(191,⟨H.p,H.r,u2 Ng⟩),co H func191⟩
end F191
namespace F130
def H:Hd:=⟨[.agg [Si,Si],Si,Ss],[Si,Sz],.d,kt [F191.k,F198.k] false,[],f130⟩
def k:Kc P_ gl:=⟨(130,⟨H.p,H.r,u4 Uw⟩),co H func130⟩
end F130
namespace F71
def H:Hd:=⟨[.agg [Si,Si],Si,Ss],[.agg [.agg [Si,Si],Si,Ss,Ob 5,Ow 21,.lf (.list (.list (.int .u8))) (some 22),Ob 5,Sz,Si],Si],.d,kt [F130.k] false,[],f71⟩
def k:Kc P_ gl:=⟨(71,⟨H.p,H.r,u4 OT⟩),co H func71⟩
end F71
namespace F132
def H:Hd:=⟨[.agg [Si,Si]],[Si],.d,kt [] false,[],f132⟩
def k:Kc P_ gl:=⟨(132,⟨H.p,H.r,u2 Qm⟩),co H func132⟩
end F132
namespace F151
abbrev R_:=Int
def H:Hd:=⟨[Si,Sw],[Si],(.seq .d (.seq .d (.seq .d (.seq .d (.cut [] [] (.seq .d (.blk (.loop [5,6,22,23,24] [] .d))) .d))))),kt [F152.k] false,[],f151⟩
def t4(b f:Int32)(a:LX)(g:Int):S:=⟨[(5,vx b),(6,vx f),(22,vw a),(23,vi (Aa a)),(24,vi g)],[],[]⟩
def z4:Nat->S->Option R_:=H.i P_ [r,r,r,r,l,r,d]
theorem i4(b f:Int32)(a:LX):∀(q:Nat) (g:Int),z4 q (t4 b f a g)=Qk b f a q g:=
 ind (λ_=>by kernel_rfl) λq ih g=>Eq.trans (b:=AJ BW (λg=>(z4 q) (t4 b f a g)) b f a g) A3 (by simp only[ih]<;>rfl)
def k:Kc P_ gl:=⟨(151,⟨H.p,H.r,u2 Nl⟩),co H func151 (λx=>Eq.trans (b:=u2 (BS (λb f a g=>z4 Bl (t4 b f a g))) x) A3 (by simp only[i4,Am]<;>rfl))⟩
end F151
namespace F135
def H:Hd:=⟨[.agg [.agg [Si,Si],Si,Ss,Sb,Sw,.lf (.list (.list (.int .u8))) none,Sb,Sz,Si],Si],[Si],.d,kt [] false,[],f135⟩
def k:Kc P_ gl:=⟨(135,⟨H.p,H.r,kP Nb⟩),co H func135⟩
end F135
namespace F134
def H:Hd:=⟨[.agg [.agg [Si,Si],Si,Ss,Sb,Sw,.lf (.list (.list (.int .u8))) none,Sb,Sz,Si],Si,Si],[Sz],.d,kt [] false,[],f134⟩
def k:Kc P_ gl:=⟨(134,⟨H.p,H.r,iV Xz⟩),co H func134⟩
end F134
namespace F149
abbrev R_:=Bool
abbrev K_:=S->Option R_
def H:Hd:=⟨[.agg [.agg [Si,Si],Si,Ss,Sb,Sw,.lf (.list (.list (.int .u8))) none,Sb,Sz,Si],Si],[Sz],(.seq .d (.seq .d (.cut [1,2,5] [] .d (.seq .d (.seq .d (.cut [1,2,5,6] [] .d (.cut [1,2,5] [] .d (.seq .d (.cut [4] [] (.keep [4,80,81] true) .d))))))))),kt [F132.k,F134.k,F135.k,F151.k] false,[(203,(.seq .d (.cut [4] [] (.keep [4,7,8] true) .d))),(204,.d),(246,(.seq .d (.cut [] [] (.seq .d (.blk (.loop [0,1,7,8] [] (.seq .d (.seq .d (.cut [0,1,7,8] [] (.blk (.seq .d (.cut [0,1,5,7,8,16] [] (.keep [0,1,5,7,8,16] true) .d))) .d)))))) .d)))],f149⟩
def t16(b:List LB)(f a h:Int):S:=⟨[(0,.val (.list (.list (.int .u8))) b),(1,.fn 204 [.ptr 0 []]),(7,vi (Aa b)),(8,vi h)],[.box 3 (vi (Ac (Gx (Ac (Ep (Ep (81:Int) f) a) (7:Int)) (8:Int)) (4:Int)))],[[(4,vt false)],[]]⟩
def z16:Nat->S->Option R_:=H.i P_ [r,r,r,r,r,r,r,r,l,(call 3 203),r,l,(call 2 246),r,l,r,d]
def x13(f a k o:Int)(p m:LB)(g:LX)(b:List LB)(n:LB)(u:Bool)(v:Int):Option R_:=H.e P_ [r,r,r] ⟨[(1,vi f),(2,.ptr 0 []),(5,vi a)],[.box 64 (.agg [.agg [vi a,vi k],vi o,vs p,vb m,vw g,.val (.list (.list (.int .u8))) b,vb n,vt u,vi v])],[]⟩
theorem i16(b:List LB)(f a:Int):∀(q:Nat) (h:Int),z16 q (t16 b f a h)=Jd b f a q h:=
 ind (λ_=>by kernel_rfl) λq ih h=>Eq.trans (b:=Pe (Oy (λh=>(z16 q) (t16 b f a h)) b f a) Pc b f a h) A3 (by simp only[ih]<;>rfl)
theorem e13:x13=Pb:=Eq.trans (b:=Pf (Pa (Ox (λb f a h=>z16 Bl (t16 b f a h))))) A3 (by simp only[i16,Am]<;>rfl)
def k:Kc P_ gl:=⟨(149,⟨H.p,H.r,kP Yu⟩),co H func149 (λx=>Eq.trans (b:=kP (Qo x13) x) A3 (by simp only[e13]<;>rfl))⟩
end F149
namespace F81
def H:Hd:=⟨[.agg [.agg [Si,Si],Si,Ss,Sb,Sw,.lf (.list (.list (.int .u8))) none,Sb,Sz,Si]],[Si],.d,kt [F130.k,F149.k] false,[],f81⟩
def k:Kc P_ gl:=⟨(81,⟨H.p,H.r,oX Un⟩),co H func81⟩
end F81
namespace F140
def Ff(a:LB):Option (LB):=
QY a (
some ([]:LB)) (
(By ([]:LB) a).bind λb=>
some b)
theorem Nu: @Ff= @Bk:=by
  unfold Ff Bk
  repeat (refine funext λ_=>?_)
  repeat' first
    |with_reducible rfl
    |with_reducible refine Dk ?_ ?_
    |with_reducible refine Dj ?_ ?_ ?_
    |with_reducible refine Dm ?_ ?_ ?_ ?_
    |((with_reducible refine Fm ?_ ?_);focus (intro h;first|(subst h;rfl)|(simp only[h];rfl)|(simp[By,Aa,h];done)))
    |with_reducible refine Fk λx=>?_
    |with_reducible refine Hm (λ_=>?_) (λ_=>?_)
    |(refine Cb (λh=>by simp only[h,Fl,Br,Bo,ite_self]) (λx h=>?_);(try simp only[h,Br]))
    |(refine Cs (λh=>?_) (λh=>?_)<;>simp only[h,if_true,if_false,Bool.false_eq_true])
def H:Hd:=⟨[Sb],[Ob 5],.d,kt [] false,[],f140⟩
def k:Kc P_ gl:=⟨(140,⟨H.p,H.r,Bk⟩),co H func140 (λx=>Eq.trans (b:=Ff x) A3 (by simp only[Nu]<;>rfl))⟩
end F140
namespace F200
def Ej(a:LX):Option (LX):=
QY a (
some ([]:LX)) (
(By ([]:LX) a).bind λb=>
some b)
theorem Me: @Ej= @Bz:=by
  unfold Ej Bz
  repeat (refine funext λ_=>?_)
  repeat' first
    |with_reducible rfl
    |with_reducible refine Dk ?_ ?_
    |with_reducible refine Dj ?_ ?_ ?_
    |with_reducible refine Dm ?_ ?_ ?_ ?_
    |((with_reducible refine Fm ?_ ?_);focus (intro h;first|(subst h;rfl)|(simp only[h];rfl)|(simp[By,Aa,h];done)))
    |with_reducible refine Fk λx=>?_
    |with_reducible refine Hm (λ_=>?_) (λ_=>?_)
    |(refine Cb (λh=>by simp only[h,Fl,Br,Bo,ite_self]) (λx h=>?_);(try simp only[h,Br]))
    |(refine Cs (λh=>?_) (λh=>?_)<;>simp only[h,if_true,if_false,Bool.false_eq_true])
def H:Hd:=⟨[Sw],[Ow 21],.d,kt [] false,[],f200⟩
def k:Kc P_ gl:=⟨(200,⟨H.p,H.r,Bz⟩),co H func200 (λx=>Eq.trans (b:=Ej x) A3 (by simp only[Me]<;>rfl))⟩
end F200
namespace F139
abbrev R_:=(Int×Int×Int×LB×LB×LX×(List LB)×LB×Bool×Int)
def H:Hd:=⟨[.agg [.agg [Si,Si],Si,Ss,Sb,Sw,.lf (.list (.list (.int .u8))) none,Sb,Sz,Si]],[.agg [.agg [Si,Si],Si,Ss,Ob 5,Ow 21,.lf (.list (.list (.int .u8))) (some 22),Ob 5,Sz,Si]],(.seq .d (.cut [1,2] [] .d (.seq .d (.seq .d (.cut [1,2,3] [] (.seq .d (.blk (.loop [1,2,3,26,27] [] .d))) .d))))),kt [F140.k,F200.k] false,[],f139⟩
def t6(w a:List LB)(b f g:Int)(h:LB)(k:Bool)(m:Int)(n:LB)(o:LX)(p:LB)(v:Int)(u:List LB):S:=⟨[(1,.ptr 0 []),(2,.ptr 1 []),(3,.own 2),(26,vi (Aa (PB w a))),(27,vi v)],[.box 64 (.agg [.agg [vi b,vi f],vi g,vs h,.own 3,.own 4,.val (.list (.list (.int .u8))) a,.own 5,vt k,vi m]),.box 64 (.agg [.agg [vi 0,vi 0],vi 0,vs ([]:LB),.nils,.nils,.nils,.nils,vt false,vi 0]),.arr 22 (.list (.int .u8)) u,Ab 5 n,Aw 21 o,Ab 5 p],[]⟩
def z6:Nat->S->Option R_:=H.i P_ [r,r,r,r,l,r,d]
theorem i6(w a:List LB)(b f g:Int)(h:LB)(k:Bool)(m:Int)(n:LB)(o:LX)(p:LB):∀(q:Nat) (v:Int) (u:List LB),z6 q (t6 w a b f g h k m n o p v u)=Oq w a b f g h k m n o p q v u:=
 ind (λ_ _=>by kernel_rfl) λq ih v u=>Eq.trans (b:=Zo Yy (λv u=>(z6 q) (t6 w a b f g h k m n o p v u)) w a b f g h k m n o p v u) A3 (by simp only[ih]<;>rfl)
def k:Kc P_ gl:=⟨(139,⟨H.p,H.r,oX Xq⟩),co H func139 (λx=>Eq.trans (b:=oX (Yl (Za (λw a b f g h k m n o p v u=>z6 Bl (t6 w a b f g h k m n o p v u)))) x) A3 (by simp only[i6,Am]<;>rfl))⟩
end F139
namespace F131
abbrev R_:=(Int×Int×Int×LB×LB×LX×(List LB)×LB×Bool×Int×Int×Int)
def H:Hd:=⟨[.agg [.agg [Si,Si],Si,Ss,Sb,Sw,.lf (.list (.list (.int .u8))) none,Sb,Sz,Si]],[.agg [.agg [Si,Si],Si,Ss,Ob 5,Ow 21,.lf (.list (.list (.int .u8))) (some 22),Ob 5,Sz,Si],Si,Si],(.seq .d (.seq .d (.seq .d (.cut [1,2,6,7] [] .d .d)))),kt [F81.k,F139.k,F198.k] false,[],f131⟩
def k:Kc P_ gl:=⟨(131,⟨H.p,H.r,oX Vb⟩),co H func131⟩
end F131
namespace F88
abbrev R_:=(LX×Int)
abbrev K_:=S->Option R_
def H:Hd:=⟨[Si,Sb],[Ow 21,Si],(.seq .d (.seq .d (.seq .d (.seq .d (.seq .d (.seq .d (.cut [10] [] (.seq .d (.blk (.loop [0,1,9,10,11] [⟨10,[],.own 21 (.int .i32)⟩] (.seq .d (.cut [0,1,9,10,11] [] (.blk (.seq .d (.seq .d (.cut [0,1,9,10,11,12] [] (.seq .d (.blk (.loop [0,1,9,10,11,12,53,54] [] .d))) .d)))) .d))))) .d))))))),kt [F152.k] false,[],f88⟩
def t25(a:Int)(b:LB)(f:Int)(g:LX)(k:Int32)(h:Int):S:=⟨[(0,vi a),(1,vb b),(9,vi (Gx a (8:Int))),(10,.own 0),(11,vi f),(12,vx k),(53,vi (Gx a (8:Int))),(54,vi h)],[Aw 21 g],[]⟩
def z25(Em:K_):Nat->S->Option R_:=H.i P_ [r,r,r,r,r,r,l,r,d,(lp Em),r,l,d,r,r,l,r,d]
def t16(a:Int)(b:LB)(f:Int)(g:LX):S:=⟨[(0,vi a),(1,vb b),(9,vi (Gx a (8:Int))),(10,.own 0),(11,vi f)],[Aw 21 g],[]⟩
def z16:Nat->S->Option R_:=H.i P_ [r,r,r,r,r,r,l,r,d]
def x25(Em:K_)(a:Int)(b:LB)(f:Int)(g:LX)(k:Int32)(h:Int):Option R_:=H.e P_ [r,r,r,r,r,r,l,r,d,(lp Em),r,l,d,r,r,l,r,d] (t25 a b f g k h)
theorem i25(Em:K_)(a:Int)(b:LB)(f:Int)(g:LX):∀(q:Nat) (k:Int32) (h:Int),z25 Em q (t25 a b f g k h)=Ls (λf g=>Em (t16 a b f g)) a b f g q k h:=
 ind (λ_ _=>by kernel_rfl) λq ih k h=>Eq.trans (b:=Tk (Tn (λf g=>Em (t16 a b f g)) a b) (λk h=>(z25 Em q) (t25 a b f g k h)) a b f g k h) A3 (by simp only[ih]<;>rfl)
theorem e25(Em:K_)(a:Int)(b:LB):x25 Em a b=Tw (λf g=>Em (t16 a b f g)) a b:=by funext f g k h;exact Eq.trans A3 ((i25 Em a b f g Bl k h).trans (by rw[Am];rfl))
theorem i16(a:Int)(b:LB):∀(q:Nat) (f:Int) (g:LX),z16 q (t16 a b f g)=Hz a b q f g:=
 ind (λ_ _=>by kernel_rfl) λq ih f g=>Eq.trans (b:=Uc (Lj (λf g=>(z16 q) (t16 a b f g)) a b) (x25 (z16 q) a b) Tp a b f g) A3 (by simp only[e25,ih]<;>rfl)
def k:Kc P_ gl:=⟨(88,⟨H.p,H.r,u2 EN⟩),co H func88 (λx=>Eq.trans (b:=u2 (We (λa b f g=>z16 Bl (t16 a b f g))) x) A3 (by simp only[i16,Am]<;>rfl))⟩
end F88
namespace F215
abbrev R_:=(UInt64×Int)
abbrev K_:=S->Option R_
def H:Hd:=⟨[Sq,Sb],[Sq,Si],(.seq .d (.seq .d (.cut [4,5] [] (.keep [0,1,4,5,9,10,11,12] true) .d))),kt [] false,[(251,(.seq .d (.cut [1] [] (.seq .d (.blk (.loop [0,1,9,10,11] [] .d))) .d))),(252,(.seq .d (.seq .d (.cut [1] [] (.seq .d (.blk (.loop [1,5] [] (.seq .d (.seq .d (.cut [1,5] [] (.blk (.seq .d (.seq .d (.cut [1,2,3,5] [] (.seq .d (.blk (.loop [1,2,3,5,11] [] .d))) .d)))) .d)))))) .d))))],f215⟩
def t27(a:LB)(b:UInt64)(f:LQ)(h:UInt64)(m:Int):S:=⟨[(0,.ptr 0 []),(1,vq h),(9,vb a),(10,vi (Aa a)),(11,vi m)],[.box 373 (.val (.vec 256 (.int .u64)) f)],[[(0,vq b),(1,vb a),(4,vq 0),(5,vi 0),(9,.ptr 0 []),(10,vq b),(11,vb a)]]⟩
def z27:Nat->S->Option R_:=H.i P_ [r,r,l,(call 3 251),r,l,r,d]
def t21(b:UInt64)(a:LB)(g:Int)(f:LQ)(k:UInt64)(n:Int):S:=⟨[(1,.ptr 0 []),(2,vi g),(3,vq k),(5,vi g),(11,vi n)],[.box 373 (.val (.vec 256 (.int .u64)) f)],[[(0,vq b),(1,vb a),(4,vq 0),(5,vi 0)]]⟩
def z21(Em:K_):Nat->S->Option R_:=H.i P_ [r,r,l,(call 0 252),r,r,l,r,d,(lp Em),r,r,l,d,r,r,l,r,d]
def t16(b:UInt64)(a:LB)(g:Int)(f:LQ):S:=⟨[(1,.ptr 0 []),(5,vi g)],[.box 373 (.val (.vec 256 (.int .u64)) f)],[[(0,vq b),(1,vb a),(4,vq 0),(5,vi 0)]]⟩
def z16:Nat->S->Option R_:=H.i P_ [r,r,l,(call 0 252),r,r,l,r,d]
def x27(a:LB)(b:UInt64)(f:LQ)(h:UInt64)(m:Int):Option R_:=H.e P_ [r,r,l,(call 3 251),r,l,r,d] (t27 a b f h m)
def x21(Em:K_)(b:UInt64)(a:LB)(g:Int)(f:LQ)(k:UInt64)(n:Int):Option R_:=H.e P_ [r,r,l,(call 0 252),r,r,l,r,d,(lp Em),r,r,l,d,r,r,l,r,d] (t21 b a g f k n)
theorem i27(a:LB)(b:UInt64)(f:LQ):∀(q:Nat) (h:UInt64) (m:Int),z27 q (t27 a b f h m)=Qn a b f q h m:=
 ind (λ_ _=>by kernel_rfl) λq ih h m=>Eq.trans (b:=BC BR (λh m=>(z27 q) (t27 a b f h m)) a b f h m) A3 (by simp only[ih]<;>rfl)
theorem e27:x27=AS:=by funext a b f h m;exact Eq.trans A3 ((i27 a b f Bl h m).trans (by rw[Am];rfl))
theorem i21(Em:K_)(b:UInt64)(a:LB)(g:Int)(f:LQ):∀(q:Nat) (k:UInt64) (n:Int),z21 Em q (t21 b a g f k n)=Rc (λg f=>Em (t16 b a g f)) b a g f q k n:=
 ind (λ_ _=>by kernel_rfl) λq ih k n=>Eq.trans (b:=AB (AP (λg f=>Em (t16 b a g f)) b a) (λk n=>(z21 Em q) (t21 b a g f k n)) b a g f k n) A3 (by simp only[ih]<;>rfl)
theorem e21(Em:K_)(b:UInt64)(a:LB):x21 Em b a=CM (λg f=>Em (t16 b a g f)) b a:=by funext g f k n;exact Eq.trans A3 ((i21 Em b a g f Bl k n).trans (by rw[Am];rfl))
theorem i16(b:UInt64)(a:LB):∀(q:Nat) (g:Int) (f:LQ),z16 q (t16 b a g f)=Rp b a q g f:=
 ind (λ_ _=>by kernel_rfl) λq ih g f=>Eq.trans (b:=BF (x21 (z16 q) b a) (AI x27) b a g f) A3 (by simp only[e21,e27,ih]<;>rfl)
def k:Kc P_ gl:=⟨(215,⟨H.p,H.r,u2 TZ⟩),co H func215 (λx=>Eq.trans (b:=u2 (FB (λb a g f=>z16 Bl (t16 b a g f))) x) A3 (by simp only[i16,Am]<;>rfl))⟩
end F215
namespace F171
def H:Hd:=⟨[Sb],[Sq,Si],.d,kt [F215.k] false,[],f171⟩
def k:Kc P_ gl:=⟨(171,⟨H.p,H.r,ME⟩),co H func171⟩
end F171
namespace F172
abbrev R_:=LX
def H:Hd:=⟨[Sq],[.lf (.vec 16 (.int .i32)) none],(.seq .d (.seq .d (.cut [2,3] [] (.seq .d (.blk (.loop [0,2,3,5] [] .d))) .d))),kt [] false,[],f172⟩
def t4(f:UInt64)(a:Int)(b:LX):S:=⟨[(0,vq f),(2,.ptr 0 []),(3,.ptr 1 []),(5,vi a)],[.box 157 (.val (.vec 16 (.int .i32)) (List.replicate 16 (0:Int32))),.box 157 (.val (.vec 16 (.int .i32)) b)],[]⟩
def z4:Nat->S->Option R_:=H.i P_ [r,r,l,r,d]
theorem i4(f:UInt64):∀(q:Nat) (a:Int) (b:LX),z4 q (t4 f a b)=GG f q a b:=
 ind (λ_ _=>by kernel_rfl) λq ih a b=>Eq.trans (b:=UX RX (λa b=>(z4 q) (t4 f a b)) f a b) A3 (by simp only[ih]<;>rfl)
def k:Kc P_ gl:=⟨(172,⟨H.p,H.r,eR⟩),co H func172 (λx=>Eq.trans (b:=UA (λf a b=>z4 Bl (t4 f a b)) x) A3 (by simp only[i4,Am]<;>rfl))⟩
end F172
namespace F101
def H:Hd:=⟨[Ss],[.lf (.vec 16 (.int .i32)) none,Si],.d,kt [F171.k,F172.k] false,[],f101⟩
def k:Kc P_ gl:=⟨(101,⟨H.p,H.r,My⟩),co H func101⟩
end F101
namespace F218
def H:Hd:=⟨[.agg [Si,Si],Sw],[Si],.d,kt [F151.k,F191.k] false,[],f218⟩
def k:Kc P_ gl:=⟨(218,⟨H.p,H.r,u3 EJ⟩),co H func218⟩
end F218
namespace F254
def H:Hd:=⟨[Si,Sw],[Si],.d,kt [] false,[],f254⟩
def k:Kc P_ gl:=⟨(254,⟨H.p,H.r,u2 MX⟩),co H func254⟩
end F254
namespace F219
abbrev R_:=(LX×Int)
abbrev K_:=S->Option R_
def H:Hd:=⟨[Si,Sw],[Ow 21,Si],(.seq .d (.seq .d (.seq .d (.cut [7] [] (.seq .d (.blk (.loop [0,7,8] [] (.seq .d (.cut [0,7,8] [] (.blk (.keep [0,7,8,24,25,26,27,28,29] true)) .d))))) .d)))),kt [F200.k,F254.k] true,[(255,(.seq .d (.cut [0,2] [] (.seq .d (.blk (.loop [0,2,7,8] [] .d))) .d)))],f219⟩
def t17(b a f:Int)(g:LX):S:=⟨[(0,.view true 0 [] (.int .i32) a ((Ac a b)-a)),(2,vi (Ao ((Ac a b)-a) (1:Int))),(7,vi (Ao ((Ac a b)-a) (1:Int))),(8,vi f)],[Aw 21 g],[[(0,vi b),(7,.own 0),(8,vi a),(24,.own 0),(25,vi a),(26,vi a),(27,vi b),(28,vi (Ac a b)),(29,.view true 0 [] (.int .i32) a ((Ac a b)-a))]]⟩
def z17(Ot:K_):Nat->S->Option R_:=H.i P_ [r,r,r,l,r,d,(lp Ot),r,l,d,(call 6 255),r,l,r,d]
def t12(b a:Int)(h:LX):S:=⟨[(0,vi b),(7,.own 0),(8,vi a)],[Aw 21 h],[]⟩
def z12:Nat->S->Option R_:=H.i P_ [r,r,r,l,r,d]
def x17(Ot:K_)(b a f:Int)(g:LX):Option R_:=H.e P_ [r,r,r,l,r,d,(lp Ot),r,l,d,(call 6 255),r,l,r,d] (t17 b a f g)
theorem i17(Ot:K_)(b a:Int):∀(q:Nat) (f:Int) (g:LX),z17 Ot q (t17 b a f g)=BU (λa h=>Ot (t12 b a h)) b a q f g:=
 ind (λ_ _=>by kernel_rfl) λq ih f g=>Eq.trans (b:=NV (NZ (λa h=>Ot (t12 b a h)) b) (λf g=>(z17 Ot q) (t17 b a f g)) b a f g) A3 (by simp only[ih]<;>rfl)
theorem e17(Ot:K_)(b:Int):x17 Ot b=OI (λa h=>Ot (t12 b a h)) b:=by funext a f g;exact Eq.trans A3 ((i17 Ot b a Bl f g).trans (by rw[Am];rfl))
theorem i12(b:Int):∀(q:Nat) (a:Int) (h:LX),z12 q (t12 b a h)=CP b q a h:=
 ind (λ_ _=>by kernel_rfl) λq ih a h=>Eq.trans (b:=OF (x17 (z12 q) b) NX b a h) A3 (by simp only[e17,ih]<;>rfl)
def k:Kc P_ gl:=⟨(219,⟨H.p,H.r,u2 fS⟩),co H func219 (λx=>Eq.trans (b:=u2 (SX (λb a h=>z12 Bl (t12 b a h))) x) A3 (by simp only[i12,Am]<;>rfl))⟩
end F219
namespace F256
abbrev R_:=(Int×LX×LX×Int)
def H:Hd:=⟨[Si,.lf (.vec 16 (.int .i32)) none],[.agg [Si,.lf (.vec 16 (.int .i32)) none,.lf (.vec 16 (.int .i32)) none],Si],(.seq .d (.seq .d (.seq (.seq .d (.blk (.cut [4,6,9,11] [] .d .d))) .d))),kt [] false,[],f256⟩
def k:Kc P_ gl:=⟨(256,⟨H.p,H.r,u2 TY⟩),co H func256⟩
end F256
namespace F220
def H:Hd:=⟨[Si,.lf (.vec 16 (.int .i32)) none],[.agg [Si,Sx,.agg [Si,.lf (.vec 16 (.int .i32)) none,.lf (.vec 16 (.int .i32)) none]],Si],.d,kt [F256.k] false,[],f220⟩
def k:Kc P_ gl:=⟨(220,⟨H.p,H.r,u2 NQ⟩),co H func220⟩
end F220
namespace F257
def H:Hd:=⟨[.agg [Si,Sx,.agg [Si,.lf (.vec 16 (.int .i32)) none,.lf (.vec 16 (.int .i32)) none]]],[Si],.d,kt [F256.k] false,[],f257⟩
def k:Kc P_ gl:=⟨(257,⟨H.p,H.r,u5 Nk⟩),co H func257⟩
end F257
namespace F273
def H:Hd:=⟨[Si],[Si,Si],.d,kt [] false,[],f273⟩
def k:Kc P_ gl:=⟨(273,⟨H.p,H.r,OO⟩),co H func273⟩
end F273
namespace F274
def H:Hd:=⟨[Si,Sx],[Sx],.d,kt [] false,[],f274⟩
def k:Kc P_ gl:=⟨(274,⟨H.p,H.r,u2 NW⟩),co H func274⟩
end F274
namespace F258
def H:Hd:=⟨[Si,Sx],[Sx,Si],.d,kt [F273.k,F274.k] false,[],f258⟩
def k:Kc P_ gl:=⟨(258,⟨H.p,H.r,u2 Nn⟩),co H func258⟩
end F258
namespace F281
def H:Hd:=⟨[.agg [Si,.lf (.vec 16 (.int .i32)) none,.lf (.vec 16 (.int .i32)) none]],[Si],.d,kt [] false,[],f281⟩
def k:Kc P_ gl:=⟨(281,⟨H.p,H.r,u3 Rb⟩),co H func281⟩
end F281
namespace F275
abbrev R_:=(Int32×Int)
def H:Hd:=⟨[.agg [Si,.lf (.vec 16 (.int .i32)) none,.lf (.vec 16 (.int .i32)) none]],[Sx,Si],(.seq .d (.seq .d (.seq .d (.cut [1,5] [] (.seq .d (.blk (.loop [1,5,18,19] [] .d))) .d)))),kt [F281.k] false,[],f275⟩
def t4(b:LX)(a:Int)(f:LX)(h:Int32)(g:Int):S:=⟨[(1,.ptr 0 []),(5,vx h),(18,.val (.vec 16 (.int .i32)) b),(19,vi g)],[.box 313 (.agg [vi a,.val (.vec 16 (.int .i32)) b,.val (.vec 16 (.int .i32)) f])],[]⟩
def z4:Nat->S->Option R_:=H.i P_ [r,r,r,l,r,d]
theorem i4(b:LX)(a:Int)(f:LX):∀(q:Nat) (h:Int32) (g:Int),z4 q (t4 b a f h g)=Va b a f q h g:=
 ind (λ_ _=>by kernel_rfl) λq ih h g=>Eq.trans (b:=EU EM (λh g=>(z4 q) (t4 b a f h g)) b a f h g) A3 (by simp only[ih]<;>rfl)
def k:Kc P_ gl:=⟨(275,⟨H.p,H.r,u3 GC⟩),co H func275 (λx=>Eq.trans (b:=u3 (EH (λb a f h g=>z4 Bl (t4 b a f h g))) x) A3 (by simp only[i4,Am]<;>rfl))⟩
end F275
namespace F286
def H:Hd:=⟨[Si],[Sx],.d,kt [] false,[],f286⟩
def k:Kc P_ gl:=⟨(286,⟨H.p,H.r,LJ⟩),co H func286⟩
end F286
namespace F282
abbrev R_:=(Int×LX×LX×Int)
def H:Hd:=⟨[.agg [Si,.lf (.vec 16 (.int .i32)) none,.lf (.vec 16 (.int .i32)) none],Sx],[.agg [Si,.lf (.vec 16 (.int .i32)) none,.lf (.vec 16 (.int .i32)) none],Si],(.seq .d (.seq .d (.seq .d (.cut [2,4] [] (.seq .d (.blk (.loop [1,2,4,19,20] [] .d))) .d)))),kt [F281.k,F286.k] false,[],f282⟩
def t4(h:Int32)(f:LX)(g a:Int)(b:LX):S:=⟨[(1,vx h),(2,.ptr 0 []),(4,.ptr 1 []),(19,.val (.vec 16 (.int .i32)) f),(20,vi a)],[.box 313 (.agg [vi g,.val (.vec 16 (.int .i32)) b,.val (.vec 16 (.int .i32)) f]),.box 313 (.agg [vi 0,.val (.vec 16 (.int .i32)) (List.replicate 16 (0:Int32)),.val (.vec 16 (.int .i32)) (List.replicate 16 (0:Int32))])],[]⟩
def z4:Nat->S->Option R_:=H.i P_ [r,r,r,l,r,d]
theorem i4(h:Int32)(f:LX)(g:Int):∀(q:Nat) (a:Int) (b:LX),z4 q (t4 h f g a b)=Um h f g q a b:=
 ind (λ_ _=>by kernel_rfl) λq ih a b=>Eq.trans (b:=EV EW (λa b=>(z4 q) (t4 h f g a b)) h f g a b) A3 (by simp only[ih]<;>rfl)
def k:Kc P_ gl:=⟨(282,⟨H.p,H.r,u4 UY⟩),co H func282 (λx=>Eq.trans (b:=u4 (FA (λh f g a b=>z4 Bl (t4 h f g a b))) x) A3 (by simp only[i4,Am]<;>rfl))⟩
end F282
namespace F283
def Uh(j2:Int32->Int->LX->LX->Option (Int×LX×LX×Int))(b:Int)(f a:LX)(g:Int32):Option (Int×LX×LX×Int):=
(Rb b f a).bind λh=>
if(Bm h 0)then
some (0,(List.replicate 16 (0:Int32)),(List.replicate 16 (0:Int32)),h)
else
both (
(KP 16 1 16).bind λ_=>
(KP 16 0 16).bind λ_=>
j2 g b f a) [
(KP 16 0 16).bind λ_=>
(KP 16 1 16).bind λ_=>
j2 g b f a]
theorem NM: @Uh= @Xn:=by
  unfold Uh Xn
  repeat (refine funext λ_=>?_)
  repeat' first
    |with_reducible rfl
    |with_reducible refine Dk ?_ ?_
    |with_reducible refine Dj ?_ ?_ ?_
    |with_reducible refine Dm ?_ ?_ ?_ ?_
    |((with_reducible refine Fm ?_ ?_);focus (intro h;first|(subst h;rfl)|(simp only[h];rfl)|(simp[By,Aa,h];done)))
    |with_reducible refine Fk λx=>?_
    |with_reducible refine Hm (λ_=>?_) (λ_=>?_)
    |(refine Cb (λh=>by simp only[h,Fl,Br,Bo,ite_self]) (λx h=>?_);(try simp only[h,Br]))
    |(refine Cs (λh=>?_) (λh=>?_)<;>simp only[h,if_true,if_false,Bool.false_eq_true])
abbrev R_:=(Int×LX×LX×Int)
def H:Hd:=⟨[.agg [Si,.lf (.vec 16 (.int .i32)) none,.lf (.vec 16 (.int .i32)) none],Sx],[.agg [Si,.lf (.vec 16 (.int .i32)) none,.lf (.vec 16 (.int .i32)) none],Si],(.seq .d (.seq .d (.cut [1,2,4] [] .d .d))),kt [F281.k] false,[],f283⟩
def k:Kc P_ gl:=⟨(283,⟨H.p,H.r,u4 XL⟩),co H func283 (λx=>Eq.trans (b:=u4 (Uh JG) x) A3 (by simp only[NM]<;>rfl))⟩
end F283
namespace F276
def H:Hd:=⟨[.agg [Si,.lf (.vec 16 (.int .i32)) none,.lf (.vec 16 (.int .i32)) none],Sx,Sx],[.agg [Si,.lf (.vec 16 (.int .i32)) none,.lf (.vec 16 (.int .i32)) none]],.d,kt [F282.k,F283.k] false,[],f276⟩
def k:Kc P_ gl:=⟨(276,⟨H.p,H.r,u5 FO⟩),co H func276⟩
end F276
namespace F259
def H:Hd:=⟨[.agg [Si,.lf (.vec 16 (.int .i32)) none,.lf (.vec 16 (.int .i32)) none],Sx],[Sx,.agg [Si,.lf (.vec 16 (.int .i32)) none,.lf (.vec 16 (.int .i32)) none],Si],.d,kt [F275.k,F276.k] false,[],f259⟩
def k:Kc P_ gl:=⟨(259,⟨H.p,H.r,u4 CW⟩),co H func259⟩
end F259
namespace F221
def Ly(a:Int)(b:Int32)(f:Int)(g h:LX)(k:Int32):Option (Int32×Int×Int32×Int×LX×LX×Int):=
(Nk a b f g h).bind λm=>
if(Bm m 0)then
some (0,0,0,0,(List.replicate 16 (0:Int32)),(List.replicate 16 (0:Int32)),m)
else
(Nn a b).bind λ(n,y)=>
(CW f g h (Ao k n)).bind λ(o,p,u,v,w)=>
bo (
some (o,a,k,p,u,v,w))
theorem CE: @Ly= @Na:=by
  unfold Ly Na;simp only[Pk,Ix,Jc]
def H:Hd:=⟨[.agg [Si,Sx,.agg [Si,.lf (.vec 16 (.int .i32)) none,.lf (.vec 16 (.int .i32)) none]],Sx],[Sx,.agg [Si,Sx,.agg [Si,.lf (.vec 16 (.int .i32)) none,.lf (.vec 16 (.int .i32)) none]],Si],(.seq .d (.seq .d (.seq .d (.seq .d (.seq (.mode false) .d))))),kt [F257.k,F258.k,F259.k] false,[],f221⟩
def k:Kc P_ gl:=⟨(221,⟨H.p,H.r,u6 Na⟩),co H func221 (λx=>Eq.trans (b:=u6 Ly x) A3 (by simp only[CE]<;>rfl))⟩
end F221
namespace F222
def H:Hd:=⟨[Sx],[Su],.d,kt [] false,[],f222⟩
def k:Kc P_ gl:=⟨(222,⟨H.p,H.r,WO⟩),co H func222⟩
end F222
namespace F175
abbrev R_:=(LU×Int)
def H:Hd:=⟨[.agg [Si,Si],.lf (.vec 16 (.int .i32)) none,Sw],[Ov 168,Si],(.seq .d (.seq .d (.seq .d (.seq .d (.seq .d (.cut [3,9,11] [] (.seq .d (.blk (.loop [3,4,9,11,36] [] .d))) (.seq .d (.cut [13] [] (.seq .d (.blk (.loop [3,11,13,49,50,51] [⟨13,[],.own 168 (.int .u32)⟩] .d))) .d)))))))),kt [F218.k,F219.k,F220.k,F221.k,F222.k] false,[],f175⟩
def t10(b:LX)(a f g:Int)(k:List (Int×Int32×(Int×LX×LX×Unit)×Unit))(h:LU):S:=⟨[(3,.ptr 0 []),(11,.ptr 1 []),(13,.own 2),(49,.own 3),(50,vi (Aa b)),(51,vi g)],[.box 61 (.agg [vi a,vi f]),.box 316 (.val (.vec 6 (.cons (.int .i64) (.cons (.int .i32) (.cons (.cons (.int .i64) (.cons (.vec 16 (.int .i32)) (.cons (.vec 16 (.int .i32)) .nil))) .nil)))) k),Av 168 h,Aw 21 b],[]⟩
def z10:Nat->S->Option R_:=H.i P_ [r,r,r,r,r,r,r,l,r,d]
def t7(a f:Int)(n b:LX)(o:Int)(m:List (Int×Int32×(Int×LX×LX×Unit)×Unit)):S:=⟨[(3,.ptr 0 []),(4,.ptr 1 []),(9,.own 2),(11,.ptr 3 []),(36,vi o)],[.box 61 (.agg [vi a,vi f]),.box 157 (.val (.vec 16 (.int .i32)) n),Aw 21 b,.box 316 (.val (.vec 6 (.cons (.int .i64) (.cons (.int .i32) (.cons (.cons (.int .i64) (.cons (.vec 16 (.int .i32)) (.cons (.vec 16 (.int .i32)) .nil))) .nil)))) m)],[]⟩
def z7:Nat->S->Option R_:=H.i P_ [r,r,r,r,r,l,r,d]
def x10(b:LX)(a f g:Int)(k:List (Int×Int32×(Int×LX×LX×Unit)×Unit))(h:LU):Option R_:=H.e P_ [r,r,r,r,r,r,r,l,r,d] (t10 b a f g k h)
theorem i10(b:LX)(a f:Int):∀(q:Nat) (g:Int) (k:List (Int×Int32×(Int×LX×LX×Unit)×Unit)) (h:LU),z10 q (t10 b a f g k h)=Kj b a f q g k h:=
 ind (λ_ _ _=>by kernel_rfl) λq ih g k h=>Eq.trans (b:=Rr Rz (λg k h=>(z10 q) (t10 b a f g k h)) b a f g k h) A3 (by simp only[ih]<;>rfl)
theorem e10:x10=Qi:=by funext b a f g k h;exact Eq.trans A3 ((i10 b a f Bl g k h).trans (by rw[Am];rfl))
theorem i7(a f:Int)(n b:LX):∀(q:Nat) (o:Int) (m:List (Int×Int32×(Int×LX×LX×Unit)×Unit)),z7 q (t7 a f n b o m)=Lm a f n b q o m:=
 ind (λ_ _=>by kernel_rfl) λq ih o m=>Eq.trans (b:=Sr (Sn x10) (λo m=>(z7 q) (t7 a f n b o m)) a f n b o m) A3 (by simp only[e10,ih]<;>rfl)
def k:Kc P_ gl:=⟨(175,⟨H.p,H.r,u4 AV⟩),co H func175 (λx=>Eq.trans (b:=u4 (Th (λa f n b o m=>z7 Bl (t7 a f n b o m))) x) A3 (by simp only[i7,Am]<;>rfl))⟩
end F175
namespace F223
def H:Hd:=⟨[],[.agg [Si,Si,Sq,Sq]],.d,kt [] false,[],f223⟩
def k:Kc P_ gl:=⟨(223,⟨H.p,H.r,λ_=>HC⟩),co H func223⟩
end F223
namespace F176
abbrev R_:=((List (Int×Int×UInt64×UInt64×Unit)))
def H:Hd:=⟨[],[.lf (.vec 6 (.cons (.int .i64) (.cons (.int .i64) (.cons (.int .u64) (.cons (.int .u64) .nil))))) none],(.seq .d (.seq .d (.cut [0,1] [] (.seq .d (.blk (.loop [0,1,3] [] .d))) .d))),kt [F223.k] false,[],f176⟩
def t4(b:Int)(a:List (Int×Int×UInt64×UInt64×Unit)):S:=⟨[(0,.ptr 0 []),(1,.ptr 1 []),(3,vi b)],[.box 258 (.val (.vec 6 (.cons (.int .i64) (.cons (.int .i64) (.cons (.int .u64) (.cons (.int .u64) .nil))))) (List.replicate 6 ((0:Int),(0:Int),(0:UInt64),(0:UInt64),()))),.box 258 (.val (.vec 6 (.cons (.int .i64) (.cons (.int .i64) (.cons (.int .u64) (.cons (.int .u64) .nil))))) a)],[]⟩
def z4:Nat->S->Option R_:=H.i P_ [r,r,l,r,d]
theorem i4:∀(q:Nat) (b:Int) (a:List (Int×Int×UInt64×UInt64×Unit)),z4 q (t4 b a)=Lb q b a:=
 ind (λ_ _=>by kernel_rfl) λq ih b a=>Eq.trans (b:=Ua Tv (λb a=>(z4 q) (t4 b a)) b a) A3 (by simp only[ih]<;>rfl)
def k:Kc P_ gl:=⟨(176,⟨H.p,H.r,λ_=>BO⟩),co H func176 (λx=>Eq.trans (b:=Te (λb a=>z4 Bl (t4 b a))) A3 (by simp only[i4,Am]<;>rfl))⟩
end F176
namespace F224
def H:Hd:=⟨[.agg [Sb,Si]],[Si],.d,kt [] false,[],f224⟩
def k:Kc P_ gl:=⟨(224,⟨H.p,H.r,u2 Fj⟩),co H func224⟩
end F224
namespace F225
def Qt(j4:Int->Int->UInt64->UInt64->Option Int)(a b:Int)(f g:UInt64):Option Int:=
both (
bo (
j4 a b f g)) [
j4 a b f g]
theorem IJ: @Qt= @Uk:=by
  unfold Qt Uk
  repeat (refine funext λ_=>?_)
  repeat' first
    |with_reducible rfl
    |with_reducible refine Dk ?_ ?_
    |with_reducible refine Dj ?_ ?_ ?_
    |with_reducible refine Dm ?_ ?_ ?_ ?_
    |((with_reducible refine Fm ?_ ?_);focus (intro h;first|(subst h;rfl)|(simp only[h];rfl)|(simp[By,Aa,h];done)))
    |with_reducible refine Fk λx=>?_
    |with_reducible refine Hm (λ_=>?_) (λ_=>?_)
    |(refine Cb (λh=>by simp only[h,Fl,Br,Bo,ite_self]) (λx h=>?_);(try simp only[h,Br]))
    |(refine Cs (λh=>?_) (λh=>?_)<;>simp only[h,if_true,if_false,Bool.false_eq_true])
def Qa(j3:Int->Int->UInt64->UInt64->Option Int)(a b:Int)(f g:UInt64):Option Int:=
both (
bo (
j3 a b f g)) [
j3 a b f g]
theorem JB: @Qa= @Ut:=by
  unfold Qa Ut
  repeat (refine funext λ_=>?_)
  repeat' first
    |with_reducible rfl
    |with_reducible refine Dk ?_ ?_
    |with_reducible refine Dj ?_ ?_ ?_
    |with_reducible refine Dm ?_ ?_ ?_ ?_
    |((with_reducible refine Fm ?_ ?_);focus (intro h;first|(subst h;rfl)|(simp only[h];rfl)|(simp[By,Aa,h];done)))
    |with_reducible refine Fk λx=>?_
    |with_reducible refine Hm (λ_=>?_) (λ_=>?_)
    |(refine Cb (λh=>by simp only[h,Fl,Br,Bo,ite_self]) (λx h=>?_);(try simp only[h,Br]))
    |(refine Cs (λh=>?_) (λh=>?_)<;>simp only[h,if_true,if_false,Bool.false_eq_true])
abbrev R_:=Int
def H:Hd:=⟨[.agg [Si,Si,Sq,Sq]],[Si],(.seq .d (.seq .d (.cut [1,3] [] (.mode false) (.cut [1,3] [] (.mode false) .d)))),kt [] false,[],f225⟩
def x3(a b:Int)(f g:UInt64):Option R_:=H.e P_ [r,r,r] ⟨[(1,.ptr 0 []),(3,.ptr 1 [])],[.box 257 (.agg [vi a,vi b,vq f,vq g]),.box 257 (.agg [vi (Cx (bA a (0:Int)) (24:Int)),vi (Cx (bA b (0:Int)) (24:Int)),vq f,vq g])],[]⟩
theorem e3:x3=FF:=Eq.trans (b:=Qt ED) A3 (by rw[IJ];rfl)
def k:Kc P_ gl:=⟨(225,⟨H.p,H.r,u4 GO⟩),co H func225 (λx=>Eq.trans (b:=u4 (Qa x3) x) A3 (by rw[JB];simp only[e3]<;>rfl))⟩
end F225
namespace F226
def H:Hd:=⟨[.agg [Si,Si,Sq,Sq],Su],[Si,Su],.d,kt [] false,[],f226⟩
def k:Kc P_ gl:=⟨(226,⟨H.p,H.r,u5 Xr⟩),co H func226⟩
end F226
namespace F260
def H:Hd:=⟨[.agg [Sb,Si]],[.agg [Ob 5,Si]],.d,kt [F140.k] false,[],f260⟩
def k:Kc P_ gl:=⟨(260,⟨H.p,H.r,u2 MC⟩),co H func260⟩
end F260
namespace F227
abbrev R_:=(LB×Int×Int)
abbrev K_:=S->Option R_
def H:Hd:=⟨[.agg [Sb,Si],Sq,Si],[.agg [Ob 5,Si],Si],(.seq .d (.seq .d (.seq .d (.cut [3,6] [] (.keep [1,2,3,6,40,41] true) .d)))),kt [F224.k,F260.k] false,[(261,(.blk (.loop [0,1,2] [] (.seq .d (.blk (.cut [0,1,2] [] .d (.seq .d (.cut [0,1,2,7] [] .d .d))))))))],f227⟩
def t15(b:UInt64)(a:Int)(m:UInt64)(h f:Int)(o:LB):S:=⟨[(0,.ptr 0 []),(1,vq m),(2,vi h)],[.box 261 (.agg [.own 2,vi f]),.box 261 (.agg [.nils,vi 0]),Ab 5 o],[[(1,vq b),(2,vi a),(3,.ptr 0 []),(6,.ptr 1 []),(40,vq b),(41,vi a)]]⟩
def z15:Nat->S->Option R_:=H.i P_ [r,r,r,l,(call 2 261),d]
def t22(b:UInt64)(a:Int)(n:UInt64)(k g:Int)(p:LB):S:=⟨[(0,.ptr 0 []),(1,vq n),(2,vi k)],[.box 261 (.agg [.own 2,vi g]),.box 261 (.agg [.nils,vi 0]),Ab 5 p],[[(1,vq b),(2,vi a),(3,.ptr 0 []),(6,.ptr 1 []),(40,vq b),(41,vi a)]]⟩
def z22:Nat->S->Option R_:=H.i P_ [r,r,r,l,(call 2 261),d]
theorem i15(b:UInt64)(a:Int):∀(q:Nat) (m:UInt64) (h f:Int) (o:LB),z15 q (t15 b a m h f o)=Xg b a q m h f o:=
 ind (λ_ _ _ _=>by kernel_rfl) λq ih m h f o=>Eq.trans (b:=IS (IM (λm h f o=>(z15 q) (t15 b a m h f o)) b a) HX b a m h f o) A3 (by simp only[ih]<;>rfl)
theorem i22(b:UInt64)(a:Int):∀(q:Nat) (n:UInt64) (k g:Int) (p:LB),z22 q (t22 b a n k g p)=Xk b a q n k g p:=
 ind (λ_ _ _ _=>by kernel_rfl) λq ih n k g p=>Eq.trans (b:=HJ (JE (λn k g p=>(z22 q) (t22 b a n k g p)) b a) KD b a n k g p) A3 (by simp only[ih]<;>rfl)
def k:Kc P_ gl:=⟨(227,⟨H.p,H.r,u4 BY⟩),co H func227 (λx=>Eq.trans (b:=u4 (OG (λb a m h f o=>z15 Bl (t15 b a m h f o)) (λb a n k g p=>z22 Bl (t22 b a n k g p))) x) A3 (by simp only[i15,i22,Am]<;>rfl))⟩
end F227
namespace F262
def H:Hd:=⟨[Su,Si],[Sz],.d,kt [] false,[],f262⟩
def k:Kc P_ gl:=⟨(262,⟨H.p,H.r,u2 Xy⟩),co H func262⟩
end F262
namespace F277
def H:Hd:=⟨[Si],[Si,Si],.d,kt [] false,[],f277⟩
def k:Kc P_ gl:=⟨(277,⟨H.p,H.r,JV⟩),co H func277⟩
end F277
namespace F263
def H:Hd:=⟨[.agg [Sb,Si],Si],[.agg [Ob 5,Si],Si],.d,kt [F224.k,F227.k,F277.k] false,[],f263⟩
def k:Kc P_ gl:=⟨(263,⟨H.p,H.r,u3 OY⟩),co H func263⟩
end F263
namespace F228
abbrev R_:=(LB×Int×Int)
def H:Hd:=⟨[.agg [Sb,Si],Su,Si],[.agg [Ob 5,Si],Si],(.seq .d (.seq .d (.seq .d (.seq .d (.cut [3,6,9,10,11] [] .d .d))))),kt [F224.k,F227.k,F262.k,F263.k] false,[],f228⟩
def k:Kc P_ gl:=⟨(228,⟨H.p,H.r,u4 TG⟩),co H func228⟩
end F228
namespace F177
def Ok(k u n:Int)(a:UInt64)(b:UInt32)(o:UInt64)(m:LB):Option (LB×Int×Int×Int×UInt64×UInt64×Int):=
(λaf:Option (LB×Int×Int×Int×UInt64×UInt64×Int)=>
both (
bo (
af)) [
af]) (
some (m,k,u,n,(Ac a (Ao (Aq b:UInt64) (Ch a (GI.toZ (4:UInt64)).toNat))),o,0))
theorem GH: @Ok= @Sa:=by
  unfold Ok Sa
  try simp only[Pk,Ix,Jc]
  all_goals
    repeat (refine funext λ_=>?_)
    repeat' first
      |with_reducible rfl
      |with_reducible refine Dk ?_ ?_
      |with_reducible refine Dj ?_ ?_ ?_
      |with_reducible refine Dm ?_ ?_ ?_ ?_
      |((with_reducible refine Fm ?_ ?_);focus (intro h;first|(subst h;rfl)|(simp only[h];rfl)|(simp[By,Aa,h];done)))
      |with_reducible refine Fk λx=>?_
      |with_reducible refine Hm (λ_=>?_) (λ_=>?_)
      |(refine Cb (λh=>by simp only[h,Fl,Br,Bo,ite_self]) (λx h=>?_);(try simp only[h,Br]))
      |(refine Cs (λh=>?_) (λh=>?_)<;>simp only[h,if_true,if_false,Bool.false_eq_true])
abbrev R_:=(LB×Int×Int×Int×UInt64×UInt64×Int)
def H:Hd:=⟨[.agg [Sb,Si],.agg [Si,Si,Sq,Sq],Su],[.agg [Ob 5,Si],.agg [Si,Si,Sq,Sq],Si],(.seq .d (.cut [2,3,4,6,7] [] .d (.seq .d (.seq .d (.cut [2,3,4,6,7,11] [] .d (.seq .d (.cut [3,4,6,7] [] (.keep [2,3,4,6,7,65] true) (.seq (.mode false) .d)))))))),kt [F224.k,F225.k,F226.k,F227.k,F228.k] false,[(229,(.seq .d (.seq .d (.seq .d (.blk (.cut [0,1,4] [] (.blk (.seq .d (.keep [0,1,4,6,18,19,20,21,22,23,24,25] true))) (.cut [] [] (.keep [0,1,4,27,28,29,30,31,32,33,34] true) .d))))))),(264,.d)],f177⟩
def x10(k u n:Int)(a:UInt64)(b:UInt32)(o:UInt64)(m:LB):Option R_:=H.e P_ [r,r,r,r,r,r,r] ⟨[(3,.ptr 0 []),(4,.ptr 1 []),(6,.ptr 2 []),(7,.ptr 3 [])],[.box 261 (.agg [.own 4,vi k]),.box 257 (.agg [vi u,vi n,vq (Ac a (Ao (Aq b:UInt64) (Ch a (GI.toZ (4:UInt64)).toNat))),vq o]),.box 261 (.agg [.nils,vi 0]),.box 257 (.agg [vi 0,vi 0,vq 0,vq 0]),Ab 5 m],[]⟩
def x8(b:UInt32)(f:Int)(a:UInt64)(k:Int)(m:LB)(n:Int)(o:UInt64):Option R_:=H.e P_ [r,r,r,r,r,r,l,(call 1 229),r,r,r,d,r] ⟨[(0,.ptr 0 []),(1,vu b),(4,.fn 264 [])],[.box 257 (.agg [vi f,vi n,vq a,vq o]),.box 261 (.agg [.own 4,vi k]),.box 261 (.agg [.nils,vi 0]),.box 257 (.agg [vi 0,vi 0,vq 0,vq 0]),Ab 5 m],[[(2,vu b),(3,.ptr 1 []),(4,.ptr 0 []),(6,.ptr 2 []),(7,.ptr 3 []),(65,vu b)]]⟩
theorem e10:x10=CN:=Eq.trans (b:=Ok) A3 (by rw[GH];rfl)
theorem e8:x8=EI:=Eq.trans (b:=EG (EY x10)) A3 (by simp only[e10]<;>rfl)
def k:Kc P_ gl:=⟨(177,⟨H.p,H.r,u7 SR⟩),co H func177 (λx=>Eq.trans (b:=u7 (FH (FD (EE x8))) x) A3 (by simp only[e8]<;>rfl))⟩
end F177
namespace F183
abbrev R_:=(UInt32×Int)
abbrev K_:=S->Option R_
def H:Hd:=⟨[Su,Sb],[Su,Si],(.seq .d (.seq .d (.cut [0,1,6] [] (.keep [0,1,6,12] true) (.cut [0] [] (.seq .d (.blk (.loop [0,6,13,14,15] [] .d))) .d)))),kt [] false,[(231,(.seq .d (.seq .d (.cut [1] [] (.seq .d (.blk (.loop [1,5] [] (.seq .d (.seq .d (.cut [1,5] [] (.blk (.seq .d (.seq .d (.cut [1,2,3,5] [] (.seq .d (.blk (.loop [1,2,3,5,10] [] .d))) .d)))) .d)))))) .d))))],f183⟩
def t28(a:LB)(b:LU)(h:UInt32)(m:Int):S:=⟨[(0,vu h),(6,.ptr 0 []),(13,vb a),(14,vi (Aa a)),(15,vi m)],[.box 369 (.val (.vec 256 (.int .u32)) b)],[]⟩
def z28:Nat->S->Option R_:=H.i P_ [r,r,r,l,r,d]
def t21(f:UInt32)(a:LB)(g:Int)(b:LU)(k:UInt32)(n:Int):S:=⟨[(1,.ptr 0 []),(2,vi g),(3,vu k),(5,vi g),(10,vi n)],[.box 369 (.val (.vec 256 (.int .u32)) b)],[[(0,vu f),(1,vb a)]]⟩
def z21(Em:K_):Nat->S->Option R_:=H.i P_ [r,r,l,(call 0 231),r,r,l,r,d,(lp Em),r,r,l,d,r,r,l,r,d]
def t16(f:UInt32)(a:LB)(g:Int)(b:LU):S:=⟨[(1,.ptr 0 []),(5,vi g)],[.box 369 (.val (.vec 256 (.int .u32)) b)],[[(0,vu f),(1,vb a)]]⟩
def z16:Nat->S->Option R_:=H.i P_ [r,r,l,(call 0 231),r,r,l,r,d]
def x28(a:LB)(b:LU)(h:UInt32)(m:Int):Option R_:=H.e P_ [r,r,r,l,r,d] (t28 a b h m)
def x21(Em:K_)(f:UInt32)(a:LB)(g:Int)(b:LU)(k:UInt32)(n:Int):Option R_:=H.e P_ [r,r,l,(call 0 231),r,r,l,r,d,(lp Em),r,r,l,d,r,r,l,r,d] (t21 f a g b k n)
theorem i28(a:LB)(b:LU):∀(q:Nat) (h:UInt32) (m:Int),z28 q (t28 a b h m)=Qs a b q h m:=
 ind (λ_ _=>by kernel_rfl) λq ih h m=>Eq.trans (b:=CF AT (λh m=>(z28 q) (t28 a b h m)) a b h m) A3 (by simp only[ih]<;>rfl)
theorem e28:x28=BK:=by funext a b h m;exact Eq.trans A3 ((i28 a b Bl h m).trans (by rw[Am];rfl))
theorem i21(Em:K_)(f:UInt32)(a:LB)(g:Int)(b:LU):∀(q:Nat) (k:UInt32) (n:Int),z21 Em q (t21 f a g b k n)=Qg (λg b=>Em (t16 f a g b)) f a g b q k n:=
 ind (λ_ _=>by kernel_rfl) λq ih k n=>Eq.trans (b:=AO (BA (λg b=>Em (t16 f a g b)) f a) (λk n=>(z21 Em q) (t21 f a g b k n)) f a g b k n) A3 (by simp only[ih]<;>rfl)
theorem e21(Em:K_)(f:UInt32)(a:LB):x21 Em f a=AH (λg b=>Em (t16 f a g b)) f a:=by funext g b k n;exact Eq.trans A3 ((i21 Em f a g b Bl k n).trans (by rw[Am];rfl))
theorem i16(f:UInt32)(a:LB):∀(q:Nat) (g:Int) (b:LU),z16 q (t16 f a g b)=Qf f a q g b:=
 ind (λ_ _=>by kernel_rfl) λq ih g b=>Eq.trans (b:=CG (x21 (z16 q) f a) (AX (BB x28)) f a g b) A3 (by simp only[e21,e28,ih]<;>rfl)
def k:Kc P_ gl:=⟨(183,⟨H.p,H.r,u2 UO⟩),co H func183 (λx=>Eq.trans (b:=u2 (EP (λf a g b=>z16 Bl (t16 f a g b))) x) A3 (by simp only[i16,Am]<;>rfl))⟩
end F183
namespace F107
def H:Hd:=⟨[Sb],[Su,Si],.d,kt [F183.k] false,[],f107⟩
def k:Kc P_ gl:=⟨(107,⟨H.p,H.r,Ml⟩),co H func107⟩
end F107
namespace F182
def H:Hd:=⟨[Sq,Si],[Sz],.d,kt [] false,[],f182⟩
def k:Kc P_ gl:=⟨(182,⟨H.p,H.r,u2 fN⟩),co H func182⟩
end F182
namespace F106
abbrev R_:=(LB×Int)
def H:Hd:=⟨[Sq,Si],[Ob 5,Si],(.seq .d (.seq .d (.seq .d (.seq .d (.cut [6] [] (.seq .d (.blk (.loop [0,6,21,22] [] .d))) .d))))),kt [F182.k] false,[],f106⟩
def t4(f:UInt64)(g:LB)(a:Int)(b:LB):S:=⟨[(0,vq f),(6,.own 0),(21,vi (Aa g)),(22,vi a)],[Ab 5 b],[]⟩
def z4:Nat->S->Option R_:=H.i P_ [r,r,r,r,l,r,d]
theorem i4(f:UInt64)(g:LB):∀(q:Nat) (a:Int) (b:LB),z4 q (t4 f g a b)=BQ f g q a b:=
 ind (λ_ _=>by kernel_rfl) λq ih a b=>Eq.trans (b:=OK OD (λa b=>(z4 q) (t4 f g a b)) f g a b) A3 (by simp only[ih]<;>rfl)
def k:Kc P_ gl:=⟨(106,⟨H.p,H.r,u2 Ni⟩),co H func106 (λx=>Eq.trans (b:=u2 (OP (λf g a b=>z4 Bl (t4 f g a b))) x) A3 (by simp only[i4,Am]<;>rfl))⟩
end F106
namespace F179
abbrev R_:=LB
def H:Hd:=⟨[.lf (.list (.list (.int .u8))) none],[Ob 5],(.seq .d (.seq .d (.cut [0,3] [] (.seq .d (.blk (.loop [0,3,9,10,11] [] .d))) (.cut [0,6] [⟨6,[],.own 5 (.int .u8)⟩] (.keep [0,3,6,23,24] true) (.cut [6] [] (.seq .d (.blk (.loop [6,25,26,27] [] .d))) .d))))),kt [] true,[(230,(.seq .d (.cut [0,1] [] .d .d)))],f179⟩
def t14(a:List LB)(g:Int)(f:LB):S:=⟨[(6,.own 0),(25,.val (.list (.list (.int .u8))) a),(26,vi (Aa a)),(27,vi g)],[Ab 5 f],[]⟩
def z14:Nat->S->Option R_:=H.i P_ [r,r,r,r,l,r,d]
def t9(a:List LB)(b h:Int):S:=⟨[(0,.val (.list (.list (.int .u8))) a),(3,vi b),(9,.val (.list (.list (.int .u8))) a),(10,vi (Aa a)),(11,vi h)],[],[]⟩
def z9:Nat->S->Option R_:=H.i P_ [r,r,l,r,d]
def x14(a:List LB)(g:Int)(f:LB):Option R_:=H.e P_ [r,r,r,r,l,r,d] (t14 a g f)
theorem i14(a:List LB):∀(q:Nat) (g:Int) (f:LB),z14 q (t14 a g f)=Eo a q g f:=
 ind (λ_ _=>by kernel_rfl) λq ih g f=>Eq.trans (b:=Hs Hq (λg f=>(z14 q) (t14 a g f)) a g f) A3 (by simp only[ih]<;>rfl)
theorem e14:x14=Hp:=by funext a g f;exact Eq.trans A3 ((i14 a Bl g f).trans (by rw[Am];rfl))
theorem i9(a:List LB):∀(q:Nat) (b h:Int),z9 q (t9 a b h)=Fi a q b h:=
 ind (λ_ _=>by kernel_rfl) λq ih b h=>Eq.trans (b:=Ia (Hv (Hy (Hu x14))) (λb h=>(z9 q) (t9 a b h)) a b h) A3 (by simp only[e14,ih]<;>rfl)
def k:Kc P_ gl:=⟨(179,⟨H.p,H.r,Eh⟩),co H func179 (λx=>Eq.trans (b:=Ih (λa b h=>z9 Bl (t9 a b h)) x) A3 (by simp only[i9,Am]<;>rfl))⟩
end F179
namespace F103
abbrev R_:=(LB×Int)
abbrev K_:=S->Option R_
def H:Hd:=⟨[.agg [Si,Si],.lf (.vec 16 (.int .i32)) none,Sw],[Ob 5,Si],(.seq .d (.seq .d (.seq .d (.seq .d (.seq .d (.cut [11] [] (.seq .d (.blk (.loop [3,10,11,30,31,32] [⟨11,[0],.own 5 (.int .u8)⟩] (.seq .d (.seq .d (.cut [3,10,11,30,31,32] [] (.blk (.seq .d (.seq .d (.seq .d (.seq .d (.keep [3,10,11,14,30,31,32,59] true)))))) .d)))))) .d)))))),kt [F106.k,F107.k,F175.k,F176.k,F177.k,F179.k] false,[(178,(.seq .d (.seq .d (.blk (.loop [0,3,7,8] [] (.seq .d (.seq .d (.seq (.blk (.seq .d (.cut [0,3,4,7,8] [] .d (.seq .d (.cut [0,3,7,8] [] .d .d))))) .d))))))))],f103⟩
def t44(b:LU)(a g h f:Int)(n:List (Int×Int×UInt64×UInt64×Unit))(m:LB)(o k:Int)(w:LB):S:=⟨[(0,.ptr 0 []),(3,.ptr 1 []),(7,vi h),(8,vi o)],[.box 261 (.agg [.own 7,vi k]),.box 261 (.agg [.own 6,vi h]),.box 61 (.agg [vi a,vi g]),.box 258 (.val (.vec 6 (.cons (.int .i64) (.cons (.int .i64) (.cons (.int .u64) (.cons (.int .u64) .nil))))) n),.box 261 (.agg [.own 6,vi h]),Av 168 b,Ab 5 m,Ab 5 w],[[(3,.ptr 2 []),(10,.ptr 3 []),(11,.ptr 0 []),(14,.ptr 4 []),(30,.own 5),(31,vi (Aa b)),(32,vi f),(59,.agg [.own 6,vi h])]]⟩
def z44(Ou:K_):Nat->S->Option R_:=H.i P_ [r,r,r,r,r,l,r,d,(lp Ou),r,r,l,d,r,r,r,r,(call 1 178),r,r,d]
def t27(b:LU)(a g f:Int)(u:List (Int×Int×UInt64×UInt64×Unit))(v:Int)(p:LB):S:=⟨[(3,.ptr 0 []),(10,.ptr 1 []),(11,.ptr 2 []),(30,.own 3),(31,vi (Aa b)),(32,vi f)],[.box 61 (.agg [vi a,vi g]),.box 258 (.val (.vec 6 (.cons (.int .i64) (.cons (.int .i64) (.cons (.int .u64) (.cons (.int .u64) .nil))))) u),.box 261 (.agg [.own 4,vi v]),Av 168 b,Ab 5 p],[]⟩
def z27:Nat->S->Option R_:=H.i P_ [r,r,r,r,r,l,r,d]
def x44(Ou:K_)(b:LU)(a g h f:Int)(n:List (Int×Int×UInt64×UInt64×Unit))(m:LB)(o k:Int)(w:LB):Option R_:=H.e P_ [r,r,r,r,r,l,r,d,(lp Ou),r,r,l,d,r,r,r,r,(call 1 178),r,r,d] (t44 b a g h f n m o k w)
theorem i44(Ou:K_)(b:LU)(a g h f:Int)(n:List (Int×Int×UInt64×UInt64×Unit))(m:LB):∀(q:Nat) (o k:Int) (w:LB),z44 Ou q (t44 b a g h f n m o k w)=Kq (λf u v p=>Ou (t27 b a g f u v p)) b a g h f n m q o k w:=
 ind (λ_ _ _=>by kernel_rfl) λq ih o k w=>Eq.trans (b:=Rt (Qq (λo k w=>(z44 Ou q) (t44 b a g h f n m o k w)) h b f a g n m) (Rv (λf u v p=>Ou (t27 b a g f u v p)) b a g) b a g h f n m o k w) A3 (by simp only[ih]<;>rfl)
theorem e44(Ou:K_)(b:LU)(a g:Int):x44 Ou b a g=Ra (λf u v p=>Ou (t27 b a g f u v p)) b a g:=by funext h f n m o k w;exact Eq.trans A3 ((i44 Ou b a g h f n m Bl o k w).trans (by rw[Am];rfl))
theorem i27(b:LU)(a g:Int):∀(q:Nat) (f:Int) (u:List (Int×Int×UInt64×UInt64×Unit)) (v:Int) (p:LB),z27 q (t27 b a g f u v p)=Kn b a g q f u v p:=
 ind (λ_ _ _ _=>by kernel_rfl) λq ih f u v p=>Eq.trans (b:=Re (x44 (z27 q) b a g) Qz b a g f u v p) A3 (by simp only[e44,ih]<;>rfl)
def k:Kc P_ gl:=⟨(103,⟨H.p,H.r,u4 Rq⟩),co H func103 (λx=>Eq.trans (b:=u4 (Tc (λb a g f u v p=>z27 Bl (t27 b a g f u v p))) x) A3 (by simp only[i27,Am]<;>rfl))⟩
end F103
namespace F137
def H:Hd:=⟨[.agg [.agg [Si,Si],Si,Ss,Sb,Sw,.lf (.list (.list (.int .u8))) none,Sb,Sz,Si],Si],[.agg [.agg [Si,Si],Si,Ss,Ob 5,Ow 21,.lf (.list (.list (.int .u8))) (some 22),Ob 5,Sz,Si],Si],.d,kt [] false,[],f137⟩
def k:Kc P_ gl:=⟨(137,⟨H.p,H.r,kP Lu⟩),co H func137⟩
end F137
namespace F72
abbrev R_:=(Int×Int×Int×LB×LB×LX×(List LB)×LB×Bool×Int×Int)
abbrev K_:=S->Option R_
def H:Hd:=⟨[.agg [.agg [Si,Si],Si,Ss,Sb,Sw,.lf (.list (.list (.int .u8))) none,Sb,Sz,Si],Sb],[.agg [.agg [Si,Si],Si,Ss,Ob 5,Ow 21,.lf (.list (.list (.int .u8))) (some 22),Ob 5,Sz,Si],Si],(.seq .d (.seq .d (.seq .d (.seq .d (.seq .d (.cut [2,4] [] (.seq .d (.blk (.loop [2,4,8,9,27,28,29] [] (.seq .d (.seq .d (.cut [2,4,8,9,27,28,29] [] (.blk (.seq .d (.seq .d (.seq .d (.cut [2,4,8,9,12,27,28,29] [⟨2,[3],.own 5 (.int .u8)⟩,⟨2,[4],.own 21 (.int .i32)⟩,⟨9,[0,3],.own 5 (.int .u8)⟩,⟨9,[0,4],.own 21 (.int .i32)⟩] (.keep [2,4,8,9,12,27,28,29,45] true) .d))))) .d)))))) .d)))))),kt [F88.k,F101.k,F103.k,F131.k,F132.k,F134.k,F135.k,F137.k] false,[(133,(.seq .d (.cut [0,1] [] .d (.seq .d (.seq .d (.seq .d (.seq .d (.cut [2] [] (.keep [2,43] true) .d)))))))),(136,.d)],f72⟩
def t14(p:Int)(n:LB)(a b g:Int)(f:LB)(h:Bool)(k o:Int)(m:LB)(u:Int)(y:LB)(w:LX)(v:List LB):S:=⟨[(2,.ptr 0 []),(4,.ptr 1 []),(8,vi p),(9,.fn 133 [.ptr 0 [],.ptr 2 []]),(27,vb n),(28,vi (Aa n)),(29,vi u)],[.box 64 (.agg [.agg [vi a,vi b],vi g,vs f,.own 3,.own 4,.own 5,.own 6,vt h,vi k]),.box 64 (.agg [.agg [vi 0,vi 0],vi 0,vs ([]:LB),.nils,.nils,.nils,.nils,vt false,vi 0]),.box 3 (vi o),Ab 5 y,Aw 21 w,.arr 22 (.list (.int .u8)) v,Ab 5 m],[]⟩
def z14:Nat->S->Option R_:=H.i P_ [r,r,r,r,r,l,r,d]
theorem i14(p:Int)(n:LB)(a b g:Int)(f:LB)(h:Bool)(k o:Int)(m:LB):∀(q:Nat) (u:Int) (y:LB) (w:LX) (v:List LB),z14 q (t14 p n a b g f h k o m u y w v)=Ge p n a b g f h k o m q u y w v:=
 ind (λ_ _ _ _=>by kernel_rfl) λq ih u y w v=>Eq.trans (b:=Wl (Mh (λu y w v=>(z14 q) (t14 p n a b g f h k o m u y w v)) p n a b g f h k o m) (Gi (λu y w v=>(z14 q) (t14 p n a b g f h k o m u y w v)) p n a b g f h k o m) (Vr (λu y w v=>(z14 q) (t14 p n a b g f h k o m u y w v)) p n a b g f h k o m) Ww p n a b g f h k o m u y w v) A3 (by simp only[ih]<;>rfl)
def k:Kc P_ gl:=⟨(72,⟨H.p,H.r,kP Gm⟩),co H func72 (λx=>Eq.trans (b:=kP (Zr (λp n a b g f h k o m u y w v=>z14 Bl (t14 p n a b g f h k o m u y w v))) x) A3 (by simp only[i14,Am]<;>rfl))⟩
end F72
namespace F74
def H:Hd:=⟨[.agg [.agg [Si,Si],Si,Ss,Sb,Sw,.lf (.list (.list (.int .u8))) none,Sb,Sz,Si],Si],[.agg [.agg [Si,Si],Si,Ss,Ob 5,Ow 21,.lf (.list (.list (.int .u8))) (some 22),Sb,Sz,Si],Ob 5,Si],.d,kt [F81.k,F139.k,F140.k] false,[],f74⟩
def k:Kc P_ gl:=⟨(74,⟨H.p,H.r,kP Ur⟩),co H func74⟩
end F74
namespace F199
def H:Hd:=⟨[Ss],[Si,Si],.d,kt [] false,[],f199⟩
def k:Kc P_ gl:=⟨(199,⟨H.p,H.r,FI⟩),co H func199⟩
end F199
namespace F180
abbrev R_:=Bool
def H:Hd:=⟨[.agg [Si,Si,Si,Si,Si]],[Sz],(.seq .d (.cut [1] [] .d .d)),kt [] false,[],f180⟩
def k:Kc P_ gl:=⟨(180,⟨H.p,H.r,u5 Ug⟩),co H func180⟩
end F180
namespace F205
def H:Hd:=⟨[Si,Si],[Si,Si],.d,kt [F198.k] false,[],f205⟩
def k:Kc P_ gl:=⟨(205,⟨H.p,H.r,u2 Us⟩),co H func205⟩
end F205
namespace F181
def H:Hd:=⟨[.agg [Si,Si,Si,Si,Si]],[Sz],.d,kt [F205.k] false,[],f181⟩
def k:Kc P_ gl:=⟨(181,⟨H.p,H.r,u5 CI⟩),co H func181⟩
end F181
namespace F105
def H:Hd:=⟨[.agg [Si,Si,Si,Si,Si]],[Si],.d,kt [F180.k,F181.k] false,[],f105⟩
def k:Kc P_ gl:=⟨(105,⟨H.p,H.r,u5 Xa⟩),co H func105⟩
end F105
namespace F51
abbrev R_:=(LB×Int)
def H:Hd:=⟨[.agg [Si,Si,Si,Si,Si]],[Ob 5,Si],(.seq .d (.seq .d (.seq .d (.cut [5] [] (.seq .d (.blk (.loop [5,31,32] [] .d))) .d)))),kt [F105.k,F106.k,F107.k] false,[],f51⟩
def t4(b f g h k m:Int)(a:LB):S:=⟨[(5,.own 0),(31,.val (.vec 5 (.int .i64)) ([b,f,g,h,k]:LI)),(32,vi m)],[Ab 5 a],[]⟩
def z4:Nat->S->Option R_:=H.i P_ [r,r,r,l,r,d]
theorem i4(b f g h k:Int):∀(q:Nat) (m:Int) (a:LB),z4 q (t4 b f g h k m a)=Oc b f g h k q m a:=
 ind (λ_ _=>by kernel_rfl) λq ih m a=>Eq.trans (b:=Zk Zm (λm a=>(z4 q) (t4 b f g h k m a)) b f g h k m a) A3 (by simp only[ih]<;>rfl)
def k:Kc P_ gl:=⟨(51,⟨H.p,H.r,u5 JA⟩),co H func51 (λx=>Eq.trans (b:=u5 (Zs (λb f g h k m a=>z4 Bl (t4 b f g h k m a))) x) A3 (by simp only[i4,Am]<;>rfl))⟩
end F51
namespace F108
def H:Hd:=⟨[Ss],[Sq,Si],.d,kt [F171.k] false,[],f108⟩
def k:Kc P_ gl:=⟨(108,⟨H.p,H.r,WY⟩),co H func108⟩
end F108
namespace F52
def H:Hd:=⟨[Ss],[Ob 5,Si],.d,kt [F106.k,F108.k] false,[],f52⟩
def k:Kc P_ gl:=⟨(52,⟨H.p,H.r,Xp⟩),co H func52⟩
end F52
namespace F109
abbrev R_:=Int
def H:Hd:=⟨[Sl],[Si],(.seq .d (.seq .d (.seq .d (.cut [] [] (.seq .d (.blk (.loop [3,14,15,16] [] .d))) .d)))),kt [] false,[],f109⟩
def t4(a:LI)(f b:Int):S:=⟨[(3,vi f),(14,vl a),(15,vi (Aa a)),(16,vi b)],[],[]⟩
def z4:Nat->S->Option R_:=H.i P_ [r,r,r,l,r,d]
theorem i4(a:LI):∀(q:Nat) (f b:Int),z4 q (t4 a f b)=Qu a q f b:=
 ind (λ_ _=>by kernel_rfl) λq ih f b=>Eq.trans (b:=CS CX (λf b=>(z4 q) (t4 a f b)) a f b) A3 (by simp only[ih]<;>rfl)
def k:Kc P_ gl:=⟨(109,⟨H.p,H.r,Tz⟩),co H func109 (λx=>Eq.trans (b:=CA (λa f b=>z4 Bl (t4 a f b)) x) A3 (by simp only[i4,Am]<;>rfl))⟩
end F109
namespace F53
abbrev R_:=(LB×Int)
abbrev K_:=S->Option R_
def H:Hd:=⟨[Sl],[Ob 5,Si],(.seq .d (.seq .d (.seq .d (.seq .d (.cut [5,6] [] (.seq .d (.blk (.loop [5,6,17,18,19] [⟨5,[],.own 5 (.int .u8)⟩,⟨6,[0],.own 5 (.int .u8)⟩] (.seq .d (.seq .d (.cut [5,6,17,18,19] [] (.blk (.seq .d (.keep [5,6,8,17,18,19,23,24,25] true))) .d)))))) (.seq .d (.cut [5] [] (.keep [5,6,9,33,34,35] true) .d))))))),kt [F106.k,F107.k,F109.k] false,[(110,.d)],f53⟩
def t8(a:LI)(f:Int)(b:LB):S:=⟨[(5,.ptr 0 []),(6,.fn 110 [.ptr 0 []]),(17,vl a),(18,vi (Aa a)),(19,vi f)],[.box 22 (.own 1),Ab 5 b],[]⟩
def z8:Nat->S->Option R_:=H.i P_ [r,r,r,r,l,r,d]
theorem i8(a:LI):∀(q:Nat) (f:Int) (b:LB),z8 q (t8 a f b)=Qb a q f b:=
 ind (λ_ _=>by kernel_rfl) λq ih f b=>Eq.trans (b:=CR (Yw (λf b=>(z8 q) (t8 a f b)) a) Yk a f b) A3 (by simp only[ih]<;>rfl)
def k:Kc P_ gl:=⟨(53,⟨H.p,H.r,CL⟩),co H func53 (λx=>Eq.trans (b:=AW (λa f b=>z8 Bl (t8 a f b)) x) A3 (by simp only[i8,Am]<;>rfl))⟩
end F53
namespace F138
def Mj(f g h:Int)(b k:LB)(m:LX)(a:List LB)(n:LB)(o:Bool)(p:Int)(u:LB)(v:LI):Option (LB×Int):=
(CL v).bind λ(aa,y)=>
if(Bm y 0)then
some (([]:LB),y)
else
(λao:Option (LB×Int)=>
bo (
ao)) (
(By u aa).bind λab=>
(Eh a).bind λac=>
(By ab ac).bind λad=>
some (ad,0))
theorem DW: @Mj= @Og:=by
  unfold Mj Og;simp only[Pk,Ix,Jc]
abbrev R_:=(LB×Int)
def H:Hd:=⟨[.agg [.agg [Si,Si],Si,Ss,Sb,Sw,.lf (.list (.list (.int .u8))) none,Sb,Sz,Si],Si],[Ob 5,Si],(.seq .d (.seq .d (.seq .d (.seq .d (.seq .d (.cut [2,8] [] .d (.seq .d (.cut [2,8,11] [] (.seq .d (.blk (.loop [2,8,11,58,59,60] [⟨11,[],.own 3 (.int .i64)⟩] .d))) (.seq .d (.seq .d (.seq (.mode false) .d))))))))))),kt [F51.k,F52.k,F53.k,F179.k,F199.k] false,[],f138⟩
def t6(a:List LB)(f g h:Int)(b k:LB)(m:LX)(n:LB)(o:Bool)(p:Int)(u:LB)(w:Int)(v:LI):S:=⟨[(2,.ptr 0 []),(8,.own 1),(11,.own 2),(58,.val (.list (.list (.int .u8))) a),(59,vi (Aa a)),(60,vi w)],[.box 64 (.agg [.agg [vi f,vi g],vi h,vs b,vb k,vw m,.val (.list (.list (.int .u8))) a,vb n,vt o,vi p]),Ab 5 u,Ai 3 v],[]⟩
def z6:Nat->S->Option R_:=H.i P_ [r,r,r,r,r,r,r,l,r,d]
def x8(f g h:Int)(b k:LB)(m:LX)(a:List LB)(n:LB)(o:Bool)(p:Int)(u:LB)(v:LI):Option R_:=H.e P_ [r,r,r,r,r,r,r,r] ⟨[(2,.ptr 0 []),(8,.own 1),(11,.own 2)],[.box 64 (.agg [.agg [vi f,vi g],vi h,vs b,vb k,vw m,.val (.list (.list (.int .u8))) a,vb n,vt o,vi p]),Ab 5 u,Ai 3 v],[]⟩
theorem e8:x8=Yv:=Eq.trans (b:=Mj) A3 (by rw[DW];rfl)
theorem i6(a:List LB)(f g h:Int)(b k:LB)(m:LX)(n:LB)(o:Bool)(p:Int)(u:LB):∀(q:Nat) (w:Int) (v:LI),z6 q (t6 a f g h b k m n o p u w v)=Oo a f g h b k m n o p u q w v:=
 ind (λ_ _=>by kernel_rfl) λq ih w v=>Eq.trans (b:=Yq x8 (λw v=>(z6 q) (t6 a f g h b k m n o p u w v)) a f g h b k m n o p u w v) A3 (by simp only[e8,ih]<;>rfl)
def k:Kc P_ gl:=⟨(138,⟨H.p,H.r,kP KL⟩),co H func138 (λx=>Eq.trans (b:=kP (Yg (Zp (λa f g h b k m n o p u w v=>z6 Bl (t6 a f g h b k m n o p u w v)))) x) A3 (by simp only[i6,Am]<;>rfl))⟩
end F138
namespace F73
abbrev R_:=(Int×Int×Int×LB×LB×LX×(List LB)×LB×Bool×Int×Int)
def H:Hd:=⟨[.agg [.agg [Si,Si],Si,Ss,Sb,Sw,.lf (.list (.list (.int .u8))) none,Sb,Sz,Si]],[.agg [.agg [Si,Si],Si,Ss,Ob 5,Ow 21,.lf (.list (.list (.int .u8))) (some 22),Ob 5,Sz,Si],Si],(.seq .d (.seq .d (.seq .d (.seq .d (.seq .d (.cut [1,2,6] [] (.seq .d (.cond (.cut [1,2,6,7] [⟨1,[4],.own 21 (.int .i32)⟩] (.keep [1,2,6,7,38] true) .d) .d)) .d)))))),kt [F101.k,F103.k,F131.k,F135.k,F137.k,F138.k] false,[(136,.d)],f73⟩
def k:Kc P_ gl:=⟨(73,⟨H.p,H.r,oX Qh⟩),co H func73⟩
end F73
namespace F26
def Kl(j29:Int->Int->Int->Int->LB->LB->Bool->Int->LB-> (List (Int×LB×Unit))->LB->LX-> (List LB)->Option (Int×Int×Int×LB×LB×LX×(List LB)×LB×Bool×Int×(List (Int×LB×Unit))×Int))(b:List (UInt8×Int×Unit))(aa:UInt8×Int×Unit)(a:LB)(ab y f g h:Int)(k p:LB)(u:LX)(v:List LB)(m:LB)(n:Bool)(o ac ad ae:Int)(af:LB)(ag:Bool)(ah:Int)(w:List (Int×LB×Unit))(ai:LB)(aj:LX)(ak:List LB)(al:LB):Option (Int×Int×Int×LB×LB×LX×(List LB)×LB×Bool×Int×(List (Int×LB×Unit))×Int):=
(λfj:Option (Int×Int×Int×LB×LB×LX×(List LB)×LB×Bool×Int×(List (Int×LB×Unit))×Int)=>
bo (
fj)) (
(Bw a (Cx aa.2.1 (Aa a)) (Aa a)).bind λbm=>
(By w ([(ab,([]:LB),())]:List (Int×LB×Unit))).bind λbn=>
j29 y ac ad ae af al ag ah bm bn ai aj ak)
theorem Zx: @Kl= @Ll:=by
  unfold Kl Ll;simp only[Pk,Ix,Jc]
def Kk(j26:(UInt8×Int×Unit)->LB->Int->Int->Int->Int->Int->LB->LB->LX-> (List LB)->LB->Bool->Int->Int->Int->Int->LB->Bool->Int-> (List (Int×LB×Unit))->LB->LX-> (List LB)->LB->Option (Int×Int×Int×LB×LB×LX×(List LB)×LB×Bool×Int×(List (Int×LB×Unit))×Int))(j33:Int->Int->Int->Int->Int->LB->LB->LX-> (List LB)->LB->Bool->Int->LB->Int->Int->Int->LB->LB->Bool->Int->LB-> (List (Int×LB×Unit))->LB->LX-> (List LB)->Option (Int×Int×Int×LB×LB×LX×(List LB)×LB×Bool×Int×(List (Int×LB×Unit))×Int))(j34:Int->Int->Int->Int->Int->LB->LB->LX-> (List LB)->LB->Bool->Int->LB->Int->Int->Int->LB->Bool->Int-> (List (Int×LB×Unit))->LB->LX-> (List LB)->LB->Option (Int×Int×Int×LB×LB×LX×(List LB)×LB×Bool×Int×(List (Int×LB×Unit))×Int))(j29:Int->Int->Int->Int->LB->LB->Bool->Int->LB-> (List (Int×LB×Unit))->LB->LX-> (List LB)->Option (Int×Int×Int×LB×LB×LX×(List LB)×LB×Bool×Int×(List (Int×LB×Unit))×Int))(j31:(List (Int×LB×Unit))->Int->Int->Int->LB->LB->Bool->Int->LB->LB->LX-> (List LB)->Option (Int×Int×Int×LB×LB×LX×(List LB)×LB×Bool×Int×(List (Int×LB×Unit))×Int))(b:List (UInt8×Int×Unit))(y f g h:Int)(k m:LB)(n:Bool)(o:Int)(a:LB)(w:List (Int×LB×Unit))(p:LB)(u:LX)(v:List LB):Option (Int×Int×Int×LB×LB×LX×(List LB)×LB×Bool×Int×(List (Int×LB×Unit))×Int):=
if(Cf y (Aa b))then
(Ad b y).bind λaa=>
if(geq aa.1 1)then
(λbp:Option (Int×Int×Int×LB×LB×LX×(List LB)×LB×Bool×Int×(List (Int×LB×Unit))×Int)=>
(λbs:Option (Int×Int×Int×LB×LB×LX×(List LB)×LB×Bool×Int×(List (Int×LB×Unit))×Int)=>
(λbt:Option (Int×Int×Int×LB×LB×LX×(List LB)×LB×Bool×Int×(List (Int×LB×Unit))×Int)=>
both (
bs) [
bs,
(Bw a 0 (Cx aa.2.1 (Aa a))).bind λam=>
(λbu:Option (Int×Int×Int×LB×LB×LX×(List LB)×LB×Bool×Int×(List (Int×LB×Unit))×Int)=>
(λbv:Option (Int×Int×Int×LB×LB×LX×(List LB)×LB×Bool×Int×(List (Int×LB×Unit))×Int)=>
(λbw:Option (Int×Int×Int×LB×LB×LX×(List LB)×LB×Bool×Int×(List (Int×LB×Unit))×Int)=>
both (
bw) [
bw,
bv]) (
both (
bv) [
bu])) (
bo (
bu))) (
(Gm f g h k p u v m n o am).bind λ(ac,ad,ae,af,ai,aj,ak,al,ag,ah,ab)=>
j26 aa a ab y f g h k p u v m n o ac ad ae af ag ah w ai aj ak al),
both (
bt) [
bt,
(Bw a 0 (Cx aa.2.1 (Aa a))).bind λam=>
(λfk:Option (Int×Int×Int×LB×LB×LX×(List LB)×LB×Bool×Int×(List (Int×LB×Unit))×Int)=>
bo (
fk)) (
(Gm f g h k p u v m n o am).bind λ(ac,ad,ae,af,ai,aj,ak,al,ag,ah,ab)=>
j26 aa a ab y f g h k p u v m n o ac ad ae af ag ah w ai aj ak al)]]) (
bo (
bp))) (
both (
both (
(Bw a 0 (Cx aa.2.1 (Aa a))).bind λam=>
(λfl:Option (Int×Int×Int×LB×LB×LX×(List LB)×LB×Bool×Int×(List (Int×LB×Unit))×Int)=>
bo (
fl)) (
(Gm f g h k p u v m n o am).bind λ(ac,ad,ae,af,ai,aj,ak,al,ag,ah,ab)=>
j26 aa a ab y f g h k p u v m n o ac ad ae af ag ah w ai aj ak al)) [
bp]) [
(Bw a 0 (Cx aa.2.1 (Aa a))).bind λam=>
(λbx:Option (Int×Int×Int×LB×LB×LX×(List LB)×LB×Bool×Int×(List (Int×LB×Unit))×Int)=>
both (
bo (
bx)) [
bx]) (
(Gm f g h k p u v m n o am).bind λ(ac,ad,ae,af,ai,aj,ak,al,ag,ah,ab)=>
j26 aa a ab y f g h k p u v m n o ac ad ae af ag ah w ai aj ak al),
bo (
bp)])) (
(Bw a 0 (Cx aa.2.1 (Aa a))).bind λam=>
(Gm f g h k p u v m n o am).bind λ(ac,ad,ae,af,ai,aj,ak,al,ag,ah,ab)=>
j26 aa a ab y f g h k p u v m n o ac ad ae af ag ah w ai aj ak al)
else
if(geq aa.1 2)then
(λbz:Option (Int×Int×Int×LB×LB×LX×(List LB)×LB×Bool×Int×(List (Int×LB×Unit))×Int)=>
(λda:Option (Int×Int×Int×LB×LB×LX×(List LB)×LB×Bool×Int×(List (Int×LB×Unit))×Int)=>
(λdb:Option (Int×Int×Int×LB×LB×LX×(List LB)×LB×Bool×Int×(List (Int×LB×Unit))×Int)=>
both (
db) [
db,
da]) (
both (
da) [
bz])) (
bo (
bz))) (
(Ur f g h k p u v m n o aa.2.1).bind λ(ao,ap,aq,ar,ay,az,ba,au,av,aw,ax,an)=>
j33 an y f g h k p u v m n o a ao ap aq ar au av aw ax w ay az ba)
else
if(geq aa.1 3)then
(λdc:Option (Int×Int×Int×LB×LB×LX×(List LB)×LB×Bool×Int×(List (Int×LB×Unit))×Int)=>
(λdd:Option (Int×Int×Int×LB×LB×LX×(List LB)×LB×Bool×Int×(List (Int×LB×Unit))×Int)=>
(λde:Option (Int×Int×Int×LB×LB×LX×(List LB)×LB×Bool×Int×(List (Int×LB×Unit))×Int)=>
both (
de) [
de,
dd]) (
both (
dd) [
dc])) (
bo (
dc))) (
(Qh f g h k p u v m n o).bind λ(bc,bd,be,bf,bi,bj,bk,bl,bg,bh,bb)=>
j34 bb y f g h k p u v m n o a bc bd be bf bg bh w bi bj bk bl)
else
j29 y f g h k m n o a w p u v
else
j31 w f g h k m n o a p u v
theorem Zw: @Kk= @Ln:=by
  unfold Kk Ln
  try simp only[Pk,Ix,Jc]
  all_goals
    repeat (refine funext λ_=>?_)
    repeat' first
      |with_reducible rfl
      |with_reducible refine Dk ?_ ?_
      |with_reducible refine Dj ?_ ?_ ?_
      |with_reducible refine Dm ?_ ?_ ?_ ?_
      |((with_reducible refine Fm ?_ ?_);focus (intro h;first|(subst h;rfl)|(simp only[h];rfl)|(simp[By,Aa,h];done)))
      |with_reducible refine Fk λx=>?_
      |with_reducible refine Hm (λ_=>?_) (λ_=>?_)
      |(refine Cb (λh=>by simp only[h,Fl,Br,Bo,ite_self]) (λx h=>?_);(try simp only[h,Br]))
      |(refine Cs (λh=>?_) (λh=>?_)<;>simp only[h,if_true,if_false,Bool.false_eq_true])
abbrev R_:=(Int×Int×Int×LB×LB×LX×(List LB)×LB×Bool×Int×(List (Int×LB×Unit))×Int)
abbrev K_:=S->Option R_
def H:Hd:=⟨[.agg [Si,Si],Si,Ss,Sb,.lf (.list (.cons (.int .u8) (.cons (.int .i64) .nil))) none],[.agg [.agg [Si,Si],Si,Ss,Ob 5,Ow 21,.lf (.list (.list (.int .u8))) (some 22),Sb,Sz,Si],.lf (.list (.cons (.int .i64) (.cons (.list (.int .u8)) .nil))) (some 74),Si],(.seq .d (.seq .d (.seq .d (.seq .d (.seq .d (.cut [10,16,17] [] (.keep [10,16,17,41] true) .d)))))),kt [F30.k,F71.k,F72.k,F73.k,F74.k] false,[(75,(.seq .d (.seq .d (.seq .d (.cut [6] [] (.seq .d (.blk (.loop [5,6,19,20,21] [⟨5,[0,0,6],.ro (.int .u8)⟩,⟨6,[],.own 74 (.cons (.int .i64) (.cons (.list (.int .u8)) .nil))⟩] (.seq .d (.seq .d (.cut [5,6,19,20,21] [⟨5,[0,0,6],.ro (.int .u8)⟩] (.blk (.seq .d (.seq .d (.seq .d (.cond (.keep [5,6,19,20,21,33,37,38,39] true) .d))))) .d)))))) .d))))),(141,(.seq .d (.seq .d (.cut [0,1,4,5,6] [] (.mode false) (.seq (.mode false) .d))))),(142,(.seq .d (.cut [0,4,5,6,7] [] (.mode false) .d))),(143,(.seq .d (.cut [0,4,5,6] [] (.mode false) .d)))],f26⟩
def t17(b:List (UInt8×Int×Unit))(y f g h:Int)(k m:LB)(n:Bool)(o:Int)(a:LB)(w:List (Int×LB×Unit))(p:LB)(u:LX)(v:List LB):S:=⟨[(5,.mp [1,2,3] [.bfn 141 [.ptr 0 []],.bfn 142 [.ptr 0 []],.bfn 143 [.ptr 0 []]]),(6,.own 1),(19,.val (.list (.cons (.int .u8) (.cons (.int .i64) .nil))) b),(20,vi (Aa b)),(21,vi y)],[.box 125 (.agg [.agg [.agg [vi f,vi g],vi h,vs k,.own 3,.own 4,.own 5,vb m,vt n,vi o],.fn 72 [],.fn 73 [],.fn 74 [],vb a]),.arr 74 (.cons (.int .i64) (.cons (.list (.int .u8)) .nil)) w,.box 64 (.agg [.agg [vi 0,vi 0],vi 0,vs ([]:LB),.nils,.nils,.nils,.nils,vt false,vi 0]),Ab 5 p,Aw 21 u,.arr 22 (.list (.int .u8)) v],[[(10,.ptr 2 []),(16,.ptr 0 [])]]⟩
def z17:Nat->S->Option R_:=H.i P_ [r,r,r,r,r,l,(call 2 75),r,r,r,l,r,d]
def x26(VB:K_)(b:List (UInt8×Int×Unit))(aa:UInt8×Int×Unit)(a:LB)(ab y f g h:Int)(k p:LB)(u:LX)(v:List LB)(m:LB)(n:Bool)(o ac ad ae:Int)(af:LB)(ag:Bool)(ah:Int)(w:List (Int×LB×Unit))(ai:LB)(aj:LX)(ak:List LB)(al:LB):Option R_:=H.e P_ [r,r,r,r,r,l,(call 2 75),r,r,r,l,r,d,(lp VB),r,r,l,d,r,r,r,l,(call 4 141),r,r,r] ⟨[(0,.ptr 0 []),(1,vi (Cx aa.2.1 (Aa a))),(4,.ptr 1 []),(5,.ptr 2 []),(6,vi ab)],[.box 125 (.agg [.agg [.agg [vi f,vi g],vi h,vs k,vb p,vw u,.val (.list (.list (.int .u8))) v,vb m,vt n,vi o],.fn 72 [],.fn 73 [],.fn 74 [],vb a]),.box 74 (.agg [vi 0,.nils]),.box 64 (.agg [.agg [vi ac,vi ad],vi ae,vs af,.own 5,.own 6,.own 7,.own 8,vt ag,vi ah]),.arr 74 (.cons (.int .i64) (.cons (.list (.int .u8)) .nil)) w,.box 64 (.agg [.agg [vi 0,vi 0],vi 0,vs ([]:LB),.nils,.nils,.nils,.nils,vt false,vi 0]),Ab 5 ai,Aw 21 aj,.arr 22 (.list (.int .u8)) ak,Ab 5 al],[[(5,.mp [1,2,3] [.bfn 141 [.ptr 0 []],.bfn 142 [.ptr 0 []],.bfn 143 [.ptr 0 []]]),(6,.own 3),(19,.val (.list (.cons (.int .u8) (.cons (.int .i64) .nil))) b),(20,vi (Aa b)),(21,vi y),(33,.own 3)],[(10,.ptr 4 []),(16,.ptr 0 [])]]⟩
theorem e26(VB:K_)(b:List (UInt8×Int×Unit)):x26 VB b=Ti (λy f g h k m n o a w p u v=>VB (t17 b y f g h k m n o a w p u v)) b:=Eq.trans (b:=Kl (Ed (λy f g h k m n o a w p u v=>VB (t17 b y f g h k m n o a w p u v)) b) b) A3 (by rw[Zx];rfl)
theorem i17(b:List (UInt8×Int×Unit)):∀(q:Nat) (y f g h:Int) (k m:LB) (n:Bool) (o:Int) (a:LB) (w:List (Int×LB×Unit)) (p:LB) (u:LX) (v:List LB),z17 q (t17 b y f g h k m n o a w p u v)=Ee b q y f g h k m n o a w p u v:=
 ind (λ_ _ _ _ _ _ _ _ _ _ _ _ _=>by kernel_rfl) λq ih y f g h k m n o a w p u v=>Eq.trans (b:=Kk (x26 (z17 q) b) (Tx (λy f g h k m n o a w p u v=>(z17 q) (t17 b y f g h k m n o a w p u v)) b) (Ts (λy f g h k m n o a w p u v=>(z17 q) (t17 b y f g h k m n o a w p u v)) b) (Ed (λy f g h k m n o a w p u v=>(z17 q) (t17 b y f g h k m n o a w p u v)) b) Ty b y f g h k m n o a w p u v) A3 (by rw[Zw];simp only[e26,ih]<;>rfl)
def k:Kc P_ gl:=⟨(26,⟨H.p,H.r,u6 Jg⟩),co H func26 (λx=>Eq.trans (b:=u6 (Wm (λb y f g h k m n o a w p u v=>z17 Bl (t17 b y f g h k m n o a w p u v))) x) A3 (by simp only[i17,Am]<;>rfl))⟩
end F26
namespace F8
def H:Hd:=⟨[Ss],[.agg [Ss,Ob 5,.agg [Si,Si,Si,Si,Si],Ol 3,Si,Ob 5,Sz,Si],Si],.d,kt [] false,[],f8⟩
def k:Kc P_ gl:=⟨(8,⟨H.p,H.r,OV⟩),co H func8⟩
end F8
namespace F62
def Od(a:LB):Option (LB):=
QY a (
some ([]:LB)) (
(By ([]:LB) a).bind λb=>
some b)
theorem GU: @Od= @Ky:=by
  unfold Od Ky
  repeat (refine funext λ_=>?_)
  repeat' first
    |with_reducible rfl
    |with_reducible refine Dk ?_ ?_
    |with_reducible refine Dj ?_ ?_ ?_
    |with_reducible refine Dm ?_ ?_ ?_ ?_
    |((with_reducible refine Fm ?_ ?_);focus (intro h;first|(subst h;rfl)|(simp only[h];rfl)|(simp[By,Aa,h];done)))
    |with_reducible refine Fk λx=>?_
    |with_reducible refine Hm (λ_=>?_) (λ_=>?_)
    |(refine Cb (λh=>by simp only[h,Fl,Br,Bo,ite_self]) (λx h=>?_);(try simp only[h,Br]))
    |(refine Cs (λh=>?_) (λh=>?_)<;>simp only[h,if_true,if_false,Bool.false_eq_true])
def H:Hd:=⟨[Sb],[Ob 5],.d,kt [] false,[],f62⟩
def k:Kc P_ gl:=⟨(62,⟨H.p,H.r,Ky⟩),co H func62 (λx=>Eq.trans (b:=Od x) A3 (by simp only[GU]<;>rfl))⟩
end F62
namespace F115
def Fz(a:LI):Option (LI):=
QY a (
some ([]:LI)) (
(By ([]:LI) a).bind λb=>
some b)
theorem Pp: @Fz= @Fv:=by
  unfold Fz Fv
  repeat (refine funext λ_=>?_)
  repeat' first
    |with_reducible rfl
    |with_reducible refine Dk ?_ ?_
    |with_reducible refine Dj ?_ ?_ ?_
    |with_reducible refine Dm ?_ ?_ ?_ ?_
    |((with_reducible refine Fm ?_ ?_);focus (intro h;first|(subst h;rfl)|(simp only[h];rfl)|(simp[By,Aa,h];done)))
    |with_reducible refine Fk λx=>?_
    |with_reducible refine Hm (λ_=>?_) (λ_=>?_)
    |(refine Cb (λh=>by simp only[h,Fl,Br,Bo,ite_self]) (λx h=>?_);(try simp only[h,Br]))
    |(refine Cs (λh=>?_) (λh=>?_)<;>simp only[h,if_true,if_false,Bool.false_eq_true])
def H:Hd:=⟨[Sl],[Ol 3],.d,kt [] false,[],f115⟩
def k:Kc P_ gl:=⟨(115,⟨H.p,H.r,Fv⟩),co H func115 (λx=>Eq.trans (b:=Fz x) A3 (by simp only[Pp]<;>rfl))⟩
end F115
namespace F59
def H:Hd:=⟨[.agg [Ss,Sb,.agg [Si,Si,Si,Si,Si],Sl,Si,Sb,Sz,Si]],[.agg [Ss,Ob 5,.agg [Si,Si,Si,Si,Si],Ol 3,Si,Ob 5,Sz,Si]],.d,kt [F62.k,F115.k] false,[],f59⟩
def k:Kc P_ gl:=⟨(59,⟨H.p,H.r,iV Cw⟩),co H func59⟩
end F59
namespace F202
def H:Hd:=⟨[Sq,Sq],[Sq,Sq],.d,kt [] false,[],f202⟩
def k:Kc P_ gl:=⟨(202,⟨H.p,H.r,u2 Zb⟩),co H func202⟩
end F202
namespace F147
def H:Hd:=⟨[Sq,Sq],[Sq,Sq],.d,kt [F202.k] false,[],f147⟩
def k:Kc P_ gl:=⟨(147,⟨H.p,H.r,u2 Vd⟩),co H func147⟩
end F147
namespace F216
def Fq(j10:LI->Option (LI))(aD:Int->LI->Option (LI))(b:Int)(a:LI):Option (LI):=
if(Cf b (Aa a))then
both (
(KP (Aa a) b (Aa a)).bind λ_=>
(KP (Aa a) 0 b).bind λ_=>
aD (Ac b (Tt ((Aa a)-b) (Rg a 0 (b-(0:Int))).length)) (Hk a b ((Aa a)-b) (Rg a 0 (b-(0:Int))))) [
(KP (Aa a) 0 b).bind λ_=>
(KP (Aa a) b (Aa a)).bind λ_=>
aD (Ac b (Tt ((Aa a)-b) (Rg a 0 (b-(0:Int))).length)) (Hk a b ((Aa a)-b) (Rg a 0 (b-(0:Int))))]
else
j10 a
theorem Nz: @Fq= @Fw:=by
  unfold Fq Fw
  repeat (refine funext λ_=>?_)
  repeat' first
    |with_reducible rfl
    |with_reducible refine Dk ?_ ?_
    |with_reducible refine Dj ?_ ?_ ?_
    |with_reducible refine Dm ?_ ?_ ?_ ?_
    |((with_reducible refine Fm ?_ ?_);focus (intro h;first|(subst h;rfl)|(simp only[h];rfl)|(simp[By,Aa,h];done)))
    |with_reducible refine Fk λx=>?_
    |with_reducible refine Hm (λ_=>?_) (λ_=>?_)
    |(refine Cb (λh=>by simp only[h,Fl,Br,Bo,ite_self]) (λx h=>?_);(try simp only[h,Br]))
    |(refine Cs (λh=>?_) (λh=>?_)<;>simp only[h,if_true,if_false,Bool.false_eq_true])
abbrev R_:=LI
def H:Hd:=⟨[Sl,Si],[Ol 3],(.seq .d (.cut [0,1] [] .d (.seq .d (.cut [0,6] [] .d (.seq .d (.seq .d (.cut [7] [] (.blk (.loop [7,8] [] (.seq .d (.blk (.mode false))))) .d))))))),kt [F147.k] true,[],f216⟩
def t8(b:Int)(a:LI):S:=⟨[(7,.own 0),(8,vi b)],[Ai 3 a],[]⟩
def z8:Nat->S->Option R_:=H.i P_ [r,r,r,r,r,r,l,d]
theorem i8:∀(q:Nat) (b:Int) (a:LI),z8 q (t8 b a)=Ga q b a:=
 ind (λ_ _=>by kernel_rfl) λq ih b a=>Eq.trans (b:=Fq Iq (λb a=>(z8 q) (t8 b a)) b a) A3 (by rw[Nz];simp only[ih]<;>rfl)
def k:Kc P_ gl:=⟨(216,⟨H.p,H.r,u2 Mg⟩),co H func216 (λx=>Eq.trans (b:=u2 (Jr (Ji (Js (λb a=>z8 Bl (t8 b a))))) x) A3 (by simp only[i8,Am]<;>rfl))⟩
end F216
namespace F253
abbrev R_:=LI
def H:Hd:=⟨[.lf (.list (.list (.int .i64))) none],[Ol 3],(.seq .d (.seq .d (.cut [0,3] [] (.seq .d (.blk (.loop [0,3,9,10,11] [] .d))) (.cut [0,6] [⟨6,[],.own 3 (.int .i64)⟩] (.keep [0,3,6,23,24] true) (.cut [6] [] (.seq .d (.blk (.loop [6,25,26,27] [] .d))) .d))))),kt [] true,[(272,(.seq .d (.cut [0,1] [] .d .d)))],f253⟩
def t14(a:List LI)(g:Int)(f:LI):S:=⟨[(6,.own 0),(25,.val (.list (.list (.int .i64))) a),(26,vi (Aa a)),(27,vi g)],[Ai 3 f],[]⟩
def z14:Nat->S->Option R_:=H.i P_ [r,r,r,r,l,r,d]
def t9(a:List LI)(b h:Int):S:=⟨[(0,.val (.list (.list (.int .i64))) a),(3,vi b),(9,.val (.list (.list (.int .i64))) a),(10,vi (Aa a)),(11,vi h)],[],[]⟩
def z9:Nat->S->Option R_:=H.i P_ [r,r,l,r,d]
def x14(a:List LI)(g:Int)(f:LI):Option R_:=H.e P_ [r,r,r,r,l,r,d] (t14 a g f)
theorem i14(a:List LI):∀(q:Nat) (g:Int) (f:LI),z14 q (t14 a g f)=Fp a q g f:=
 ind (λ_ _=>by kernel_rfl) λq ih g f=>Eq.trans (b:=Ir Iv (λg f=>(z14 q) (t14 a g f)) a g f) A3 (by simp only[ih]<;>rfl)
theorem e14:x14=Iu:=by funext a g f;exact Eq.trans A3 ((i14 a Bl g f).trans (by rw[Am];rfl))
theorem i9(a:List LI):∀(q:Nat) (b h:Int),z9 q (t9 a b h)=Fx a q b h:=
 ind (λ_ _=>by kernel_rfl) λq ih b h=>Eq.trans (b:=Jk (Iw (It (Is x14))) (λb h=>(z9 q) (t9 a b h)) a b h) A3 (by simp only[e14,ih]<;>rfl)
def k:Kc P_ gl:=⟨(253,⟨H.p,H.r,Mf⟩),co H func253 (λx=>Eq.trans (b:=Jo (λa b h=>z9 Bl (t9 a b h)) x) A3 (by simp only[i9,Am]<;>rfl))⟩
end F253
namespace F217
def H:Hd:=⟨[Sl,Sl],[Ol 3],.d,kt [F253.k] false,[],f217⟩
def k:Kc P_ gl:=⟨(217,⟨H.p,H.r,u2 BL⟩),co H func217⟩
end F217
namespace F174
def H:Hd:=⟨[Si,Si],[Ol 3,Si],.d,kt [F198.k,F205.k,F216.k,F217.k] false,[],f174⟩
def k:Kc P_ gl:=⟨(174,⟨H.p,H.r,u2 OH⟩),co H func174⟩
end F174
namespace F119
def H:Hd:=⟨[.agg [Si,Si,Si,Si,Si]],[Ol 3,Si],.d,kt [F105.k,F174.k] false,[],f119⟩
def k:Kc P_ gl:=⟨(119,⟨H.p,H.r,u5 Eu⟩),co H func119⟩
end F119
namespace F120
def H:Hd:=⟨[.agg [Si,Si,Si,Si,Si],Ss],[Si],.d,kt [] false,[],f120⟩
def k:Kc P_ gl:=⟨(120,⟨H.p,H.r,u6 Lk⟩),co H func120⟩
end F120
namespace F63
abbrev R_:=Bool
def H:Hd:=⟨[.agg [Ss,Sb,.agg [Si,Si,Si,Si,Si],Sl,Si,Sb,Sz,Si]],[Sz],(.seq .d (.seq .d (.seq .d (.cut [1,3] [] .d (.seq .d (.seq .d (.seq .d (.cut [1,5] [] (.seq .d (.blk (.loop [1,5,83,84,85] [] .d))) .d)))))))),kt [F109.k,F119.k,F120.k] false,[],f63⟩
def t6(w:LI)(o p:LB)(h b f k m:Int)(g:LI)(a:Int)(n:LB)(u:Bool)(v y aa:Int):S:=⟨[(1,.ptr 0 []),(5,vi y),(83,vl w),(84,vi (Aa w)),(85,vi aa)],[.box 28 (.agg [vs o,vb p,.agg [vi h,vi b,vi f,vi k,vi m],vl g,vi a,vb n,vt u,vi v])],[]⟩
def z6:Nat->S->Option R_:=H.i P_ [r,r,r,r,r,r,r,l,r,d]
theorem i6(w:LI)(o p:LB)(h b f k m:Int)(g:LI)(a:Int)(n:LB)(u:Bool)(v:Int):∀(q:Nat) (y aa:Int),z6 q (t6 w o p h b f k m g a n u v y aa)=Nw w o p h b f k m g a n u v q y aa:=
 ind (λ_ _=>by kernel_rfl) λq ih y aa=>Eq.trans (b:=Yi Ze (λy aa=>(z6 q) (t6 w o p h b f k m g a n u v y aa)) w o p h b f k m g a n u v y aa) A3 (by simp only[ih]<;>rfl)
def k:Kc P_ gl:=⟨(63,⟨H.p,H.r,iV Xf⟩),co H func63 (λx=>Eq.trans (b:=iV (Zj (Zd (λw o p h b f k m g a n u v y aa=>z6 Bl (t6 w o p h b f k m g a n u v y aa)))) x) A3 (by simp only[i6,Am]<;>rfl))⟩
end F63
namespace F158
def H:Hd:=⟨[Sb,Sb],[Sz],.d,kt [] false,[],f158⟩
def k:Kc P_ gl:=⟨(158,⟨H.p,H.r,u2 Ig⟩),co H func158⟩
end F158
namespace F235
def H:Hd:=⟨[Sb,Sb],[Sz],.d,kt [F158.k] false,[],f235⟩
def k:Kc P_ gl:=⟨(235,⟨H.p,H.r,u2 Gz⟩),co H func235⟩
end F235
namespace F278
abbrev R_:=(Int×Int)
def H:Hd:=⟨[Sb],[Si,Si],(.seq .d (.seq .d (.seq .d (.cut [4] [] (.seq .d (.blk (.loop [4,10,11,12] [] .d))) .d)))),kt [] false,[],f278⟩
def t4(a:LB)(b f:Int):S:=⟨[(4,vi b),(10,vb a),(11,vi (Aa a)),(12,vi f)],[],[]⟩
def z4:Nat->S->Option R_:=H.i P_ [r,r,r,l,r,d]
theorem i4(a:LB):∀(q:Nat) (b f:Int),z4 q (t4 a b f)=Mk a q b f:=
 ind (λ_ _=>by kernel_rfl) λq ih b f=>Eq.trans (b:=Vv Wo (λb f=>(z4 q) (t4 a b f)) a b f) A3 (by simp only[ih]<;>rfl)
def k:Kc P_ gl:=⟨(278,⟨H.p,H.r,ES⟩),co H func278 (λx=>Eq.trans (b:=Wn (λa b f=>z4 Bl (t4 a b f)) x) A3 (by simp only[i4,Am]<;>rfl))⟩
end F278
namespace F265
def Mq(j5:LB->UInt8->UInt8->Option (Int×Int))(a:LB):Option (Int×Int):=
(Gz a ([(73:UInt8),(68:UInt8),(51:UInt8)]:LB)).bind λn=>
if(!n)then
some (0,6)
else
if(Cf (Aa a) 10)then
some (0,24)
else
(Ad a 3).bind λf=>
(Ad a 5).bind λb=>
(λo:Option (Int×Int)=>
(λp:Option (Int×Int)=>
both (
both (
bo (
j5 a f b)) [
o,
o]) [
rY (
bo (
j5 a f b)),
p,
p]) (
both (
o) [
bo (
j5 a f b),
both (
bo (
j5 a f b)) [
j5 a f b]])) (
both (
j5 a f b) [
bo (
j5 a f b)])
theorem DN: @Mq= @Oe:=by
  unfold Mq Oe
  try simp only[Pk,Ix,Jc]
  all_goals
    repeat (refine funext λ_=>?_)
    repeat' first
      |with_reducible rfl
      |with_reducible refine Dk ?_ ?_
      |with_reducible refine Dj ?_ ?_ ?_
      |with_reducible refine Dm ?_ ?_ ?_ ?_
      |((with_reducible refine Fm ?_ ?_);focus (intro h;first|(subst h;rfl)|(simp only[h];rfl)|(simp[By,Aa,h];done)))
      |with_reducible refine Fk λx=>?_
      |with_reducible refine Hm (λ_=>?_) (λ_=>?_)
      |(refine Cb (λh=>by simp only[h,Fl,Br,Bo,ite_self]) (λx h=>?_);(try simp only[h,Br]))
      |(refine Cs (λh=>?_) (λh=>?_)<;>simp only[h,if_true,if_false,Bool.false_eq_true])
abbrev R_:=(Int×Int)
def H:Hd:=⟨[Sb],[Si,Si],(.seq .d (.seq .d (.seq .d (.cut [0,4,5] [] (.mode false) (.seq .d (.seq .d (.cut [0,5,6] [] (.cut [0,5,6,43] [] (.keep [0,5,6,7,8,31,32,33,34,35,36,37,38,39,40,41,42,43] true) .d) (.seq .d (.cut [0,5,6] [] .d .d))))))))),kt [F158.k,F235.k,F278.k] false,[(279,.d)],f265⟩
def x6(a:LB)(g:Int)(b:UInt8)(m:Bool):Option R_:=H.e P_ [r,r,r,r,r,r,l,r] ⟨[(0,vb a),(5,.ptr 0 []),(6,vi g),(43,vt m)],[.box 5 (vc b)],[]⟩
def x5(a:LB)(f b:UInt8):Option R_:=H.e P_ [r,r,r,r] ⟨[(0,vb a),(4,.ptr 0 []),(5,.ptr 1 [])],[.box 5 (vc f),.box 5 (vc b)],[]⟩
theorem e6:x6=Yh:=A3
theorem e5:x5=Ys:=Eq.trans (b:=Zn x6) A3 (by simp only[e6]<;>rfl)
def k:Kc P_ gl:=⟨(265,⟨H.p,H.r,HL⟩),co H func265 (λx=>Eq.trans (b:=Mq x5 x) A3 (by rw[DN];simp only[e5]<;>rfl))⟩
end F265
namespace F206
abbrev R_:=(UInt64×Int)
def H:Hd:=⟨[Sb],[Sq,Si],(.seq .d (.seq .d (.seq .d (.cut [4] [] (.seq .d (.blk (.loop [4,15,16,17] [] .d))) .d)))),kt [] false,[],f206⟩
def t4(a:LB)(f:UInt64)(b:Int):S:=⟨[(4,vq f),(15,vb a),(16,vi (Aa a)),(17,vi b)],[],[]⟩
def z4:Nat->S->Option R_:=H.i P_ [r,r,r,l,r,d]
theorem i4(a:LB):∀(q:Nat) (f:UInt64) (b:Int),z4 q (t4 a f b)=AG a q f b:=
 ind (λ_ _=>by kernel_rfl) λq ih f b=>Eq.trans (b:=ON OJ (λf b=>(z4 q) (t4 a f b)) a f b) A3 (by simp only[ih]<;>rfl)
def k:Kc P_ gl:=⟨(206,⟨H.p,H.r,SB⟩),co H func206 (λx=>Eq.trans (b:=PD (λa f b=>z4 Bl (t4 a f b)) x) A3 (by simp only[i4,Am]<;>rfl))⟩
end F206
namespace F153
def H:Hd:=⟨[Sb,Si,Si],[Sq,Si],.d,kt [F206.k] false,[],f153⟩
def k:Kc P_ gl:=⟨(153,⟨H.p,H.r,u3 UB⟩),co H func153⟩
end F153
namespace F237
abbrev R_:=LB
def H:Hd:=⟨[Si,Si,Sq],[Ob 5],(.seq .d (.seq .d (.cut [7] [] (.seq .d (.blk (.loop [7,20,21,22] [] .d))) .d))),kt [F106.k] false,[],f237⟩
def t4(a b:Int)(f:UInt64)(h:Int)(g:LB):S:=⟨[(7,.own 0),(20,.own 1),(21,vi (Aa ([(2000:UInt64),(Aq (Ac a (32:Int)):UInt64),(Aq b:UInt64),f,(0:UInt64),(0:UInt64)]:LQ))),(22,vi h)],[Ab 5 g,.arr 167 (.int .u64) ([(2000:UInt64),(Aq (Ac a (32:Int)):UInt64),(Aq b:UInt64),f,(0:UInt64),(0:UInt64)]:LQ)],[]⟩
def z4:Nat->S->Option R_:=H.i P_ [r,r,l,r,d]
theorem i4(a b:Int)(f:UInt64):∀(q:Nat) (h:Int) (g:LB),z4 q (t4 a b f h g)=HB a b f q h g:=
 ind (λ_ _=>by kernel_rfl) λq ih h g=>Eq.trans (b:=SZ SV (λh g=>(z4 q) (t4 a b f h g)) a b f h g) A3 (by simp only[ih]<;>rfl)
def k:Kc P_ gl:=⟨(237,⟨H.p,H.r,u3 QT⟩),co H func237 (λx=>Eq.trans (b:=u3 (UG (λa b f h g=>z4 Bl (t4 a b f h g))) x) A3 (by simp only[i4,Am]<;>rfl))⟩
end F237
namespace F236
def H:Hd:=⟨[Sb,Sq],[.agg [Si,Si],Sz],.d,kt [F153.k,F158.k,F237.k] false,[],f236⟩
def k:Kc P_ gl:=⟨(236,⟨H.p,H.r,u2 DB⟩),co H func236⟩
end F236
namespace F266
def H:Hd:=⟨[Sb],[Si,Si],.d,kt [F158.k,F235.k,F236.k,F237.k] false,[],f266⟩
def k:Kc P_ gl:=⟨(266,⟨H.p,H.r,WX⟩),co H func266⟩
end F266
namespace F233
def H:Hd:=⟨[Sb],[Si,Si],.d,kt [F265.k,F266.k] false,[],f233⟩
def k:Kc P_ gl:=⟨(233,⟨H.p,H.r,Mo⟩),co H func233⟩
end F233
theorem Rn:ConOk Tryz.prog gl 116 Jw:=TT ent116 F233.k.2
namespace F114
def H:Hd:=⟨[Si],[.agg [Sz,Si]],.d,kt [] false,[],f114⟩
def k:Kc P_ gl:=⟨(114,⟨H.p,H.r,Af⟩),co H func114⟩
end F114
namespace F234
def H:Hd:=⟨[Ss,Ss],[Sz],.d,kt [] false,[],f234⟩
def k:Kc P_ gl:=⟨(234,⟨H.p,H.r,u2 Gg⟩),co H func234⟩
end F234
namespace F187
def H:Hd:=⟨[Ss,Ss],[Sz],.d,kt [F234.k] false,[],f187⟩
def k:Kc P_ gl:=⟨(187,⟨H.p,H.r,u2 Lf⟩),co H func187⟩
end F187
namespace F184
abbrev R_:=Bool
def H:Hd:=⟨[Sb],[Sz],(.seq .d (.cut [] [] (.seq .d (.blk (.loop [0,5,6] [] .d))) .d)),kt [F187.k] false,[],f184⟩
def t4(a:LB)(b:Int):S:=⟨[(0,vb a),(5,.val (.vec 2 .str) ([([73,68,51]:LB),([65,80,69,84,65,71,69,88]:LB)]:List LB)),(6,vi b)],[],[]⟩
def z4:Nat->S->Option R_:=H.i P_ [r,l,r,d]
theorem i4(a:LB):∀(q:Nat) (b:Int),z4 q (t4 a b)=Oh a q b:=
 ind (λ_=>by kernel_rfl) λq ih b=>Eq.trans (b:=Ym Yr (λb=>(z4 q) (t4 a b)) a b) A3 (by simp only[ih]<;>rfl)
def k:Kc P_ gl:=⟨(184,⟨H.p,H.r,Ma⟩),co H func184 (λx=>Eq.trans (b:=Zg (λa b=>z4 Bl (t4 a b)) x) A3 (by simp only[i4,Am]<;>rfl))⟩
end F184
namespace F117
abbrev R_:=(Int×Int×Int×Int×Int×Int)
def H:Hd:=⟨[Sb],[.agg [Si,Si,Si,Si,Si],Si],(.seq .d (.seq .d (.seq .d (.seq .d (.seq .d (.seq .d (.seq .d (.cut [2,8] [] (.seq .d (.blk (.loop [0,2,8,9,44,45] [] .d))) .d)))))))),kt [F107.k,F153.k,F180.k,F181.k,F187.k] false,[],f117⟩
def t4(b:LB)(g f:Int)(a:LI):S:=⟨[(0,vb b),(2,.ptr 0 []),(8,.ptr 1 []),(9,vi g),(44,.val (.vec 5 (.int .i64)) ([(2:Int),(2:Int),(2:Int),(4:Int),(4:Int)]:LI)),(45,vi f)],[.box 24 (.agg [vi 0,vi 0,vi 0,vi 0,vi 0]),.box 165 (.val (.vec 5 (.int .i64)) a)],[]⟩
def z4:Nat->S->Option R_:=H.i P_ [r,r,r,r,r,r,r,l,r,d]
theorem i4(b:LB):∀(q:Nat) (g f:Int) (a:LI),z4 q (t4 b g f a)=Qe b q g f a:=
 ind (λ_ _ _=>by kernel_rfl) λq ih g f a=>Eq.trans (b:=AM AL (λg f a=>(z4 q) (t4 b g f a)) b g f a) A3 (by simp only[ih]<;>rfl)
def k:Kc P_ gl:=⟨(117,⟨H.p,H.r,Kw⟩),co H func117 (λx=>Eq.trans (b:=CC (λb g f a=>z4 Bl (t4 b g f a)) x) A3 (by simp only[i4,Am]<;>rfl))⟩
end F117
namespace F126
def H:Hd:=⟨[Sb,Ss],[Sz,Si],.d,kt [F52.k,F158.k] false,[],f126⟩
def k:Kc P_ gl:=⟨(126,⟨H.p,H.r,u2 Xv⟩),co H func126⟩
end F126
namespace F127
abbrev R_:=(LI×Int)
def H:Hd:=⟨[Sb,Si],[Ol 3,Si],(.seq .d (.seq .d (.seq .d (.seq .d (.seq .d (.seq .d (.cut [10] [] (.seq .d (.blk (.loop [0,10,48,49] [] .d))) .d))))))),kt [F107.k,F109.k,F153.k] false,[],f127⟩
def t4(a:LB)(f:LI)(g:Int)(b:LI):S:=⟨[(0,vb a),(10,.own 0),(48,vi (Aa f)),(49,vi g)],[Ai 3 b],[]⟩
def z4:Nat->S->Option R_:=H.i P_ [r,r,r,r,r,r,l,r,d]
theorem i4(a:LB)(f:LI):∀(q:Nat) (g:Int) (b:LI),z4 q (t4 a f g b)=Up a f q g b:=
 ind (λ_ _=>by kernel_rfl) λq ih g b=>Eq.trans (b:=ER EF (λg b=>(z4 q) (t4 a f g b)) a f g b) A3 (by simp only[ih]<;>rfl)
def k:Kc P_ gl:=⟨(127,⟨H.p,H.r,u2 GA⟩),co H func127 (λx=>Eq.trans (b:=u2 (FG (λa f g b=>z4 Bl (t4 a f g b))) x) A3 (by simp only[i4,Am]<;>rfl))⟩
end F127
namespace F185
def H:Hd:=⟨[.agg [Si,Si,Si,Si,Si]],[.agg [Si,Si]],.d,kt [] false,[],f185⟩
def k:Kc P_ gl:=⟨(185,⟨H.p,H.r,u5 Ul⟩),co H func185⟩
end F185
namespace F192
def H:Hd:=⟨[Sb],[Sb,Si],.d,kt [F107.k,F206.k] false,[],f192⟩
def k:Kc P_ gl:=⟨(192,⟨H.p,H.r,BM⟩),co H func192⟩
end F192
namespace F193
def H:Hd:=⟨[Sb],[.agg [Ob 5,Si],Si],.d,kt [F140.k] false,[],f193⟩
def k:Kc P_ gl:=⟨(193,⟨H.p,H.r,fO⟩),co H func193⟩
end F193
namespace F240
abbrev R_:=UInt64
def H:Hd:=⟨[.agg [Sb,Si],Si,Si],[Sq],(.seq .d (.seq .d (.cut [7] [] (.blk (.loop [1,2,3,7,8] [] .d)) .d))),kt [] false,[],f240⟩
def t4(b f:Int)(h:LB)(k:Int)(g:UInt64)(a:Int):S:=⟨[(1,vi b),(2,vi f),(3,.ptr 0 []),(7,vq g),(8,vi a)],[.box 261 (.agg [vb h,vi k])],[]⟩
def z4:Nat->S->Option R_:=H.i P_ [r,r,l,d]
theorem i4(b f:Int)(h:LB)(k:Int):∀(q:Nat) (g:UInt64) (a:Int),z4 q (t4 b f h k g a)=BN b f h k q g a:=
 ind (λ_ _=>by kernel_rfl) λq ih g a=>Eq.trans (b:=OR OW (λg a=>(z4 q) (t4 b f h k g a)) b f h k g a) A3 (by simp only[ih]<;>rfl)
def k:Kc P_ gl:=⟨(240,⟨H.p,H.r,u4 UE⟩),co H func240 (λx=>Eq.trans (b:=u4 (OA (λb f h k g a=>z4 Bl (t4 b f h k g a))) x) A3 (by simp only[i4,Am]<;>rfl))⟩
end F240
namespace F238
abbrev R_:=(LB×Int×Int)
abbrev K_:=S->Option R_
def H:Hd:=⟨[.agg [Sb,Si],Si,Si],[.agg [Ob 5,Si],Si],(.seq .d (.seq .d (.seq .d (.seq .d (.cut [6,8] [] (.seq .d (.blk (.loop [2,3,6,8,9] [⟨8,[0],.own 5 (.int .u8)⟩] (.seq .d (.cut [2,3,6,8,9] [] (.blk (.seq .d (.keep [2,3,6,8,9,10,39,40,41,42,43] true))) .d))))) .d))))),kt [F224.k,F240.k] false,[(261,(.blk (.loop [0,1,2] [] (.seq .d (.blk (.cut [0,1,2] [] .d (.seq .d (.cut [0,1,2,7] [] .d .d))))))))],f238⟩
def t44(a:Int)(g:LB)(b f:Int)(m n:UInt64)(k h:Int)(u:LB):S:=⟨[(0,.ptr 0 []),(1,vq n),(2,vi k)],[.box 261 (.agg [.own 3,vi h]),.box 261 (.agg [vb g,vi b]),.box 261 (.agg [.nils,vi 0]),Ab 5 u],[[(2,vi a),(3,.ptr 1 []),(6,.ptr 2 []),(8,.ptr 0 []),(9,vi f),(10,vi (Cx (64:Int) (Ao a f))),(39,.agg [vb g,vi b]),(40,vi f),(41,vi (Cx (64:Int) (Ao a f))),(42,vq m),(43,vi (Cx (64:Int) (Ao a f)))]]⟩
def z44(Ou:K_):Nat->S->Option R_:=H.i P_ [r,r,r,r,l,r,d,(lp Ou),r,l,d,r,(call 5 261),d]
def t27(a:Int)(g:LB)(b f o:Int)(p:LB):S:=⟨[(2,vi a),(3,.ptr 0 []),(6,.ptr 1 []),(8,.ptr 2 []),(9,vi f)],[.box 261 (.agg [vb g,vi b]),.box 261 (.agg [.nils,vi 0]),.box 261 (.agg [.own 3,vi o]),Ab 5 p],[]⟩
def z27:Nat->S->Option R_:=H.i P_ [r,r,r,r,l,r,d]
def x44(Ou:K_)(a:Int)(g:LB)(b f:Int)(m n:UInt64)(k h:Int)(u:LB):Option R_:=H.e P_ [r,r,r,r,l,r,d,(lp Ou),r,l,d,r,(call 5 261),d] (t44 a g b f m n k h u)
theorem i44(Ou:K_)(a:Int)(g:LB)(b f:Int)(m:UInt64):∀(q:Nat) (n:UInt64) (k h:Int) (u:LB),z44 Ou q (t44 a g b f m n k h u)=Xh (λf o p=>Ou (t27 a g b f o p)) a g b f m q n k h u:=
 ind (λ_ _ _ _=>by kernel_rfl) λq ih n k h u=>Eq.trans (b:=II (IX (λn k h u=>(z44 Ou q) (t44 a g b f m n k h u)) a f g b m) (HG (λf o p=>Ou (t27 a g b f o p)) a g b) a g b f m n k h u) A3 (by simp only[ih]<;>rfl)
theorem e44(Ou:K_)(a:Int)(g:LB)(b:Int):x44 Ou a g b=JR (λf o p=>Ou (t27 a g b f o p)) a g b:=by funext f m n k h u;exact Eq.trans A3 ((i44 Ou a g b f m Bl n k h u).trans (by rw[Am];rfl))
theorem i27(a:Int)(g:LB)(b:Int):∀(q:Nat) (f o:Int) (p:LB),z27 q (t27 a g b f o p)=Xd a g b q f o p:=
 ind (λ_ _ _=>by kernel_rfl) λq ih f o p=>Eq.trans (b:=JN (x44 (z27 q) a g b) IC a g b f o p) A3 (by simp only[e44,ih]<;>rfl)
def k:Kc P_ gl:=⟨(238,⟨H.p,H.r,u4 TI⟩),co H func238 (λx=>Eq.trans (b:=u4 (OU (λa g b f o p=>z27 Bl (t27 a g b f o p))) x) A3 (by simp only[i27,Am]<;>rfl))⟩
end F238
namespace F195
def H:Hd:=⟨[.agg [Sb,Si],Si,Si],[Sq,Si],.d,kt [F224.k,F240.k] false,[],f195⟩
def k:Kc P_ gl:=⟨(195,⟨H.p,H.r,u4 Rf⟩),co H func195⟩
end F195
namespace F285
def H:Hd:=⟨[Sq],[Si],.d,kt [] false,[],f285⟩
def k:Kc P_ gl:=⟨(285,⟨H.p,H.r,Ip⟩),co H func285⟩
end F285
namespace F280
def Sd(j6:Int->UInt64->Int->LB->Int->Option (Int×Int×Int))(g:LB)(b a:Int):Option (Int×Int×Int):=
(Fj g b).bind λm=>
if(Bm m 0)then
some (0,0,m)
else
if(Cf a 0)then
some (0,0,2)
else
if(Gq a b)then
some (0,0,24)
else
(λn:Option (Int×Int×Int)=>
(λo:Option (Int×Int×Int)=>
rY (
o)) (
bo (
n))) (
(Rf g b a (Cx 48 (Ao b a))).bind λ(k,h)=>
j6 h k a g b)
theorem HN: @Sd= @Uz:=by
  unfold Sd Uz;simp only[Pk,Ix,Jc]
abbrev R_:=(Int×Int×Int)
def H:Hd:=⟨[.agg [Sb,Si],Si],[Si,Si,Si],(.seq .d (.seq .d (.seq .d (.seq .d (.seq .d (.cut [3,5,6,8,9] [] (.keep [2,3,5,6,8,9,22,23,24,25,26,27,28,29] false) (.seq .d (.seq .d (.cut [] [] (.blk (.seq (.blk (.seq (.blk (.cut [] [] (.cut [3,4,5] [] (.cut [3,4,5,36] [] (.keep [3,4,5,8,36,37,38,39,40] true) .d) .d) .d)) .d)) .d)) .d))))))))),kt [F195.k,F224.k,F285.k] false,[(284,.d)],f280⟩
def k:Kc P_ gl:=⟨(280,⟨H.p,H.r,u3 TM⟩),co H func280 (λx=>Eq.trans (b:=u3 (Sd EL) x) A3 (by simp only[HN]<;>rfl))⟩
end F280
namespace F267
abbrev R_:=(UInt32×Int×Int)
def H:Hd:=⟨[.agg [Sb,Si],Si,Si],[Su,Si,Si],(.seq .d (.seq .d (.seq .d (.seq .d (.seq .d (.seq .d (.cut [2,3,7,10,11] [] .d .d))))))),kt [F195.k,F224.k,F262.k,F280.k] false,[],f267⟩
def k:Kc P_ gl:=⟨(267,⟨H.p,H.r,u4 XC⟩),co H func267⟩
end F267
namespace F239
abbrev R_:=(UInt32×Int×Int×Int×UInt64×UInt64×Int)
def H:Hd:=⟨[.agg [Sb,Si],Si,.agg [Si,Si,Sq,Sq]],[Su,Si,.agg [Si,Si,Sq,Sq],Si],(.seq .d (.cut [1,3,5,8] [] .d (.seq .d (.seq .d (.cut [5,6,7,8] [] .d (.cut [5,6,7,8] [] (.keep [5,6,7,8,81] true) .d)))))),kt [F195.k,F224.k,F225.k,F226.k,F267.k] false,[(229,(.seq .d (.seq .d (.seq .d (.blk (.cut [0,1,4] [] (.blk (.seq .d (.keep [0,1,4,6,18,19,20,21,22,23,24,25] true))) (.cut [] [] (.keep [0,1,4,27,28,29,30,31,32,33,34] true) .d))))))),(264,.d)],f239⟩
def x8(f:UInt32)(k a:Int)(b:UInt64)(m:Int)(n:UInt64):Option R_:=H.e P_ [r,r,r,r,r,l,(call 1 229),r,r,r,d,r] ⟨[(0,.ptr 0 []),(1,vu f),(4,.fn 264 [])],[.box 257 (.agg [vi a,vi m,vq b,vq n]),.box 257 (.agg [vi 0,vi 0,vq 0,vq 0])],[[(5,.ptr 0 []),(6,vu f),(7,vi k),(8,.ptr 1 []),(81,vu f)]]⟩
theorem e8:x8=JX:=A3
def k:Kc P_ gl:=⟨(239,⟨H.p,H.r,u7 Vx⟩),co H func239 (λx=>Eq.trans (b:=u7 (KM (IP (ID x8))) x) A3 (by simp only[e8]<;>rfl))⟩
end F239
namespace F194
def Ja(j21:Int->Int->Int->UInt32->Int-> (List (Int×Int×UInt64×UInt64×Unit))->LU->Int->Int->UInt64->UInt64->Option (LU×Int×Int))(j24:Int->LU->Option (LU×Int×Int))(a f:Int)(g:LB)(b k h:Int)(m:List (Int×Int×UInt64×UInt64×Unit))(n:LU):Option (LU×Int×Int):=
if(Cf h (Ep f a))then
(TI g b k (Cx (Ac k 81) b)).bind λ(ag,ae,af)=>
if(Bm af 0)then
some (([]:LU),0,af)
else
(Ei (Bm a 0)).bind λ_=>
(Ad m (Ho h a)).bind λ_=>
(λai:Option (LU×Int×Int)=>
both (
both (
(Ad m (Ho h a)).bind λo=>
(λao:Option (LU×Int×Int)=>
bo (
ao)) (
(Vx ag ae 0 o.1 o.2.1 o.2.2.1 o.2.2.2.1).bind λ(w,v,aa,ab,ac,ad,y)=>
j21 k h y w v m n aa ab ac ad)) [
ai]) [
(Ad m (Ho h a)).bind λo=>
(λaj:Option (LU×Int×Int)=>
both (
bo (
aj)) [
aj]) (
(Vx ag ae 0 o.1 o.2.1 o.2.2.1 o.2.2.2.1).bind λ(w,v,aa,ab,ac,ad,y)=>
j21 k h y w v m n aa ab ac ad),
bo (
ai)]) (
(Ad m (Ho h a)).bind λo=>
(Vx ag ae 0 o.1 o.2.1 o.2.2.1 o.2.2.2.1).bind λ(w,v,aa,ab,ac,ad,y)=>
j21 k h y w v m n aa ab ac ad)
else
j24 k n
theorem Yb: @Ja= @Kr:=by
  unfold Ja Kr
  try simp only[Pk,Ix,Jc]
  all_goals
    repeat (refine funext λ_=>?_)
    repeat' first
      |with_reducible rfl
      |with_reducible refine Dk ?_ ?_
      |with_reducible refine Dj ?_ ?_ ?_
      |with_reducible refine Dm ?_ ?_ ?_ ?_
      |((with_reducible refine Fm ?_ ?_);focus (intro h;first|(subst h;rfl)|(simp only[h];rfl)|(simp[By,Aa,h];done)))
      |with_reducible refine Fk λx=>?_
      |with_reducible refine Hm (λ_=>?_) (λ_=>?_)
      |(refine Cb (λh=>by simp only[h,Fl,Br,Bo,ite_self]) (λx h=>?_);(try simp only[h,Br]))
      |(refine Cs (λh=>?_) (λh=>?_)<;>simp only[h,if_true,if_false,Bool.false_eq_true])
abbrev R_:=(LU×Int×Int)
abbrev K_:=S->Option R_
def H:Hd:=⟨[Si,Si,.agg [Sb,Si]],[Ov 168,Si,Si],(.seq .d (.seq .d (.cut [0,1,5,9] [] (.seq .d (.blk (.loop [0,1,5,9,19] [] .d))) (.seq .d (.seq .d (.cut [11,12] [] (.seq .d (.blk (.loop [0,5,9,11,12,28,29] [⟨11,[],.own 168 (.int .u32)⟩] (.seq .d (.seq .d (.seq (.blk (.seq .d (.seq .d (.seq .d (.cut [0,5,9,11,12,13,15,16,17,18,28,29] [] (.mode false) (.seq .d (.cut [0,5,9,11,12,16,28,29] [] .d .d))))))) .d)))))) .d)))))),kt [F223.k,F238.k,F239.k] false,[],f194⟩
def t16(a f:Int)(g:LB)(b k h:Int)(m:List (Int×Int×UInt64×UInt64×Unit))(n:LU):S:=⟨[(0,vi a),(5,.ptr 0 []),(9,.ptr 1 []),(11,.own 2),(12,vi k),(28,vi (Ep f a)),(29,vi h)],[.box 261 (.agg [vb g,vi b]),.box 258 (.val (.vec 6 (.cons (.int .i64) (.cons (.int .i64) (.cons (.int .u64) (.cons (.int .u64) .nil))))) m),Av 168 n],[]⟩
def z16:Nat->S->Option R_:=H.i P_ [r,r,r,r,r,l,r,d]
def t13(a f:Int)(g:LB)(b u:Int)(p:List (Int×Int×UInt64×UInt64×Unit)):S:=⟨[(0,vi a),(1,vi f),(5,.ptr 0 []),(9,.ptr 1 []),(19,vi u)],[.box 261 (.agg [vb g,vi b]),.box 258 (.val (.vec 6 (.cons (.int .i64) (.cons (.int .i64) (.cons (.int .u64) (.cons (.int .u64) .nil))))) p)],[]⟩
def z13:Nat->S->Option R_:=H.i P_ [r,r,l,r,d]
def x16(a f:Int)(g:LB)(b k h:Int)(m:List (Int×Int×UInt64×UInt64×Unit))(n:LU):Option R_:=H.e P_ [r,r,r,r,r,l,r,d] (t16 a f g b k h m n)
theorem i16(a f:Int)(g:LB)(b:Int):∀(q:Nat) (k h:Int) (m:List (Int×Int×UInt64×UInt64×Unit)) (n:LU),z16 q (t16 a f g b k h m n)=Ke a f g b q k h m n:=
 ind (λ_ _ _ _=>by kernel_rfl) λq ih k h m n=>Eq.trans (b:=Ja (Qy (λk h m n=>(z16 q) (t16 a f g b k h m n)) a f g b) Rj a f g b k h m n) A3 (by rw[Yb];simp only[ih]<;>rfl)
theorem e16:x16=Ru:=by funext a f g b k h m n;exact Eq.trans A3 ((i16 a f g b Bl k h m n).trans (by rw[Am];rfl))
theorem i13(a f:Int)(g:LB)(b:Int):∀(q:Nat) (u:Int) (p:List (Int×Int×UInt64×UInt64×Unit)),z13 q (t13 a f g b u p)=Kg a f g b q u p:=
 ind (λ_ _=>by kernel_rfl) λq ih u p=>Eq.trans (b:=Qj (Qd x16) (λu p=>(z13 q) (t13 a f g b u p)) a f g b u p) A3 (by simp only[e16,ih]<;>rfl)
def k:Kc P_ gl:=⟨(194,⟨H.p,H.r,u4 BJ⟩),co H func194 (λx=>Eq.trans (b:=u4 (Tl (λa f g b u p=>z13 Bl (t13 a f g b u p))) x) A3 (by simp only[i13,Am]<;>rfl))⟩
end F194
namespace F242
def H:Hd:=⟨[Su],[Sx],.d,kt [] false,[],f242⟩
def k:Kc P_ gl:=⟨(242,⟨H.p,H.r,Mw⟩),co H func242⟩
end F242
namespace F268
def H:Hd:=⟨[.agg [Si,.lf (.vec 16 (.int .i32)) none,.lf (.vec 16 (.int .i32)) none],Sx],[Sx,.agg [Si,.lf (.vec 16 (.int .i32)) none,.lf (.vec 16 (.int .i32)) none],Si],.d,kt [F275.k,F276.k] false,[],f268⟩
def k:Kc P_ gl:=⟨(268,⟨H.p,H.r,u4 UN⟩),co H func268⟩
end F268
namespace F241
def Qx(a:Int)(b:Int32)(f:Int)(g h:LX)(o:Int32):Option (Int32×Int×Int32×Int×LX×LX×Int):=
(Nk a b f g h).bind λk=>
if(Bm k 0)then
some (0,0,0,0,(List.replicate 16 (0:Int32)),(List.replicate 16 (0:Int32)),k)
else
(Nn a b).bind λ(m,y)=>
(UN f g h o).bind λ(n,p,u,v,w)=>
(λaa:Option (Int32×Int×Int32×Int×LX×LX×Int)=>
bo (
aa)) (
some ((Ac n m),a,(Ac n m),p,u,v,w))
theorem IL: @Qx= @Fy:=by
  unfold Qx Fy;simp only[Pk,Ix,Jc]
def H:Hd:=⟨[.agg [Si,Sx,.agg [Si,.lf (.vec 16 (.int .i32)) none,.lf (.vec 16 (.int .i32)) none]],Sx],[Sx,.agg [Si,Sx,.agg [Si,.lf (.vec 16 (.int .i32)) none,.lf (.vec 16 (.int .i32)) none]],Si],(.seq .d (.seq .d (.seq .d (.seq .d (.seq (.mode false) .d))))),kt [F257.k,F258.k,F268.k] false,[],f241⟩
def k:Kc P_ gl:=⟨(241,⟨H.p,H.r,u6 Fy⟩),co H func241 (λx=>Eq.trans (b:=u6 Qx x) A3 (by simp only[IL]<;>rfl))⟩
end F241
namespace F243
abbrev R_:=(LX×Int)
abbrev K_:=S->Option R_
def H:Hd:=⟨[Si,Sw],[Ow 21,Si],(.seq .d (.seq .d (.seq .d (.cut [7] [] (.seq .d (.blk (.loop [0,7,8] [] (.seq .d (.cut [0,7,8] [] (.blk (.keep [0,7,8,24,25,26,27,28,29] true)) .d))))) .d)))),kt [F200.k,F254.k] true,[(269,(.seq .d (.cut [0,2] [] .d (.seq .d (.blk (.loop [0,3] [] .d))))))],f243⟩
def t18(b a g:Int)(h:LX):S:=⟨[(0,.view true 0 [] (.int .i32) a ((Ac a b)-a)),(3,vi g)],[Aw 21 h],[[(0,vi b),(7,.own 0),(8,vi a),(24,.own 0),(25,vi a),(26,vi a),(27,vi b),(28,vi (Ac a b)),(29,.view true 0 [] (.int .i32) a ((Ac a b)-a))]]⟩
def z18(Ot:K_):Nat->S->Option R_:=H.i P_ [r,r,r,l,r,d,(lp Ot),r,l,d,(call 6 269),r,r,r,d]
def t12(b a:Int)(f:LX):S:=⟨[(0,vi b),(7,.own 0),(8,vi a)],[Aw 21 f],[]⟩
def z12:Nat->S->Option R_:=H.i P_ [r,r,r,l,r,d]
def x18(Ot:K_)(b a g:Int)(h:LX):Option R_:=H.e P_ [r,r,r,l,r,d,(lp Ot),r,l,d,(call 6 269),r,r,r,d] (t18 b a g h)
theorem i18(Ot:K_)(b a:Int):∀(q:Nat) (g:Int) (h:LX),z18 Ot q (t18 b a g h)=Xs (λa f=>Ot (t12 b a f)) b a q g h:=
 ind (λ_ _=>by kernel_rfl) λq ih g h=>Eq.trans (b:=HS (JC (λa f=>Ot (t12 b a f)) b) (λg h=>(z18 Ot q) (t18 b a g h)) b a g h) A3 (by simp only[ih]<;>rfl)
theorem e18(Ot:K_)(b:Int):x18 Ot b=IA (λa f=>Ot (t12 b a f)) b:=by funext a g h;exact Eq.trans A3 ((i18 Ot b a Bl g h).trans (by rw[Am];rfl))
theorem i12(b:Int):∀(q:Nat) (a:Int) (f:LX),z12 q (t12 b a f)=Xo b q a f:=
 ind (λ_ _=>by kernel_rfl) λq ih a f=>Eq.trans (b:=HU (HF (x18 (z12 q) b) b) IE b a f) A3 (by simp only[e18,ih]<;>rfl)
def k:Kc P_ gl:=⟨(243,⟨H.p,H.r,u2 bF⟩),co H func243 (λx=>Eq.trans (b:=u2 (PC (λb a f=>z12 Bl (t12 b a f))) x) A3 (by simp only[i12,Am]<;>rfl))⟩
end F243
namespace F196
def Ic(j16:Int->Int32->Int-> (List (Int×Int32×(Int×LX×LX×Unit)×Unit))->LX->Int->Int32->Int->LX->LX->Option (LX×Int))(j18:Int->Int->LX->Option (LX×Int))(f:LU)(a b g:Int)(h:List (Int×Int32×(Int×LX×LX×Unit)×Unit))(k:LX):Option (LX×Int):=
if(Cf g (Aa f))then
(Ad f g).bind λag=>
(Ei (Bm a 0)).bind λ_=>
(Ad h (Ho g a)).bind λ_=>
both (
(Ad h (Ho g a)).bind λm=>
both (
(Mw ag).bind λae=>
(λao:Option (LX×Int)=>
bo (
ao)) (
(Fy m.1 m.2.1 m.2.2.1.1 m.2.2.1.2.1 m.2.2.1.2.2.1 ae).bind λ(y,aa,w,ab,ac,ad,v)=>
j16 g y v h k aa w ab ac ad)) [
(Mw ag).bind λae=>
(Fy m.1 m.2.1 m.2.2.1.1 m.2.2.1.2.1 m.2.2.1.2.2.1 ae).bind λ(y,aa,w,ab,ac,ad,v)=>
j16 g y v h k aa w ab ac ad]) [
(Mw ag).bind λaf=>
both (
(Ad h (Ho g a)).bind λu=>
(λap:Option (LX×Int)=>
bo (
ap)) (
(Fy u.1 u.2.1 u.2.2.1.1 u.2.2.1.2.1 u.2.2.1.2.2.1 af).bind λ(y,aa,w,ab,ac,ad,v)=>
j16 g y v h k aa w ab ac ad)) [
(Ad h (Ho g a)).bind λu=>
(Fy u.1 u.2.1 u.2.2.1.1 u.2.2.1.2.1 u.2.2.1.2.2.1 af).bind λ(y,aa,w,ab,ac,ad,v)=>
j16 g y v h k aa w ab ac ad],
both (
(Ad h (Ho g a)).bind λm=>
(Mw ag).bind λae=>
(Fy m.1 m.2.1 m.2.2.1.1 m.2.2.1.2.1 m.2.2.1.2.2.1 ae).bind λ(y,aa,w,ab,ac,ad,v)=>
j16 g y v h k aa w ab ac ad) [
(Mw ag).bind λaf=>
(Ad h (Ho g a)).bind λu=>
(Fy u.1 u.2.1 u.2.2.1.1 u.2.2.1.2.1 u.2.2.1.2.2.1 af).bind λ(y,aa,w,ab,ac,ad,v)=>
j16 g y v h k aa w ab ac ad]]
else
j18 a b k
theorem Vl: @Ic= @Iy:=by
  unfold Ic Iy
  try simp only[Pk,Ix,Jc]
  all_goals
    repeat (refine funext λ_=>?_)
    repeat' first
      |with_reducible rfl
      |with_reducible refine Dk ?_ ?_
      |with_reducible refine Dj ?_ ?_ ?_
      |with_reducible refine Dm ?_ ?_ ?_ ?_
      |((with_reducible refine Fm ?_ ?_);focus (intro h;first|(subst h;rfl)|(simp only[h];rfl)|(simp[By,Aa,h];done)))
      |with_reducible refine Fk λx=>?_
      |with_reducible refine Hm (λ_=>?_) (λ_=>?_)
      |(refine Cb (λh=>by simp only[h,Fl,Br,Bo,ite_self]) (λx h=>?_);(try simp only[h,Br]))
      |(refine Cs (λh=>?_) (λh=>?_)<;>simp only[h,if_true,if_false,Bool.false_eq_true])
abbrev R_:=(LX×Int)
abbrev K_:=S->Option R_
def H:Hd:=⟨[.agg [Si,Si],.lf (.vec 16 (.int .i32)) none,Sv],[Ow 21,Si],(.seq .d (.seq .d (.cut [2,3,8] [] (.seq .d (.blk (.loop [2,3,4,8,20] [] .d))) (.seq .d (.cut [3,10] [] (.seq .d (.blk (.loop [3,8,10,33,34,35] [⟨10,[],.own 21 (.int .i32)⟩] (.seq .d (.seq .d (.seq (.blk (.seq .d (.seq .d (.cut [3,8,10,13,14,15,16,33,34,35] [] (.mode false) .d)))) .d)))))) .d))))),kt [F151.k,F220.k,F241.k,F242.k,F243.k] false,[],f196⟩
def t13(f:LU)(a b g:Int)(h:List (Int×Int32×(Int×LX×LX×Unit)×Unit))(k:LX):S:=⟨[(3,.ptr 0 []),(8,.ptr 1 []),(10,.own 2),(33,vv f),(34,vi (Aa f)),(35,vi g)],[.box 61 (.agg [vi a,vi b]),.box 316 (.val (.vec 6 (.cons (.int .i64) (.cons (.int .i32) (.cons (.cons (.int .i64) (.cons (.vec 16 (.int .i32)) (.cons (.vec 16 (.int .i32)) .nil))) .nil)))) h),Aw 21 k],[]⟩
def z13:Nat->S->Option R_:=H.i P_ [r,r,r,r,l,r,d]
def t10(f:LU)(a b:Int)(o:LX)(p:Int)(n:List (Int×Int32×(Int×LX×LX×Unit)×Unit)):S:=⟨[(2,vv f),(3,.ptr 0 []),(4,.ptr 1 []),(8,.ptr 2 []),(20,vi p)],[.box 61 (.agg [vi a,vi b]),.box 157 (.val (.vec 16 (.int .i32)) o),.box 316 (.val (.vec 6 (.cons (.int .i64) (.cons (.int .i32) (.cons (.cons (.int .i64) (.cons (.vec 16 (.int .i32)) (.cons (.vec 16 (.int .i32)) .nil))) .nil)))) n)],[]⟩
def z10:Nat->S->Option R_:=H.i P_ [r,r,l,r,d]
def x13(f:LU)(a b g:Int)(h:List (Int×Int32×(Int×LX×LX×Unit)×Unit))(k:LX):Option R_:=H.e P_ [r,r,r,r,l,r,d] (t13 f a b g h k)
theorem i13(f:LU)(a b:Int):∀(q:Nat) (g:Int) (h:List (Int×Int32×(Int×LX×LX×Unit)×Unit)) (k:LX),z13 q (t13 f a b g h k)=Iz f a b q g h k:=
 ind (λ_ _ _=>by kernel_rfl) λq ih g h k=>Eq.trans (b:=Ic (Pg (λg h k=>(z13 q) (t13 f a b g h k)) a f b) Oz f a b g h k) A3 (by rw[Vl];simp only[ih]<;>rfl)
theorem e13:x13=Pn:=by funext f a b g h k;exact Eq.trans A3 ((i13 f a b Bl g h k).trans (by rw[Am];rfl))
theorem i10(f:LU)(a b:Int)(o:LX):∀(q:Nat) (p:Int) (n:List (Int×Int32×(Int×LX×LX×Unit)×Unit)),z10 q (t10 f a b o p n)=Je f a b o q p n:=
 ind (λ_ _=>by kernel_rfl) λq ih p n=>Eq.trans (b:=Pm (Ph x13) (λp n=>(z10 q) (t10 f a b o p n)) f a b o p n) A3 (by simp only[e13,ih]<;>rfl)
def k:Kc P_ gl:=⟨(196,⟨H.p,H.r,u4 Yt⟩),co H func196 (λx=>Eq.trans (b:=u4 (Rs (λf a b o p n=>z10 Bl (t10 f a b o p n))) x) A3 (by simp only[i10,Am]<;>rfl))⟩
end F196
namespace F125
def H:Hd:=⟨[.agg [Si,Si],.lf (.vec 16 (.int .i32)) none,Si,Sb],[Ow 21,Si],.d,kt [F191.k,F192.k,F193.k,F194.k,F195.k,F196.k] false,[],f125⟩
def k:Kc P_ gl:=⟨(125,⟨H.p,H.r,u5 Pz⟩),co H func125⟩
end F125
namespace F85
abbrev R_:=(LB×Int)
abbrev K_:=S->Option R_
def H:Hd:=⟨[Si,Sw],[Ob 5,Si],(.seq .d (.seq .d (.seq .d (.cut [7] [] (.seq .d (.blk (.loop [0,7,17,18,19] [⟨7,[],.own 5 (.int .u8)⟩] (.seq .d (.seq .d (.cut [0,7,17,18,19] [] (.blk (.seq .d (.cut [0,7,9,17,18,19] [] .d (.seq .d (.blk (.loop [0,7,9,17,18,19,28,29] [] .d)))))) .d)))))) .d)))),kt [F151.k] false,[],f85⟩
def t26(b:Int)(a:LX)(k:Int32)(f m:Int)(h:LB):S:=⟨[(0,vi b),(7,.own 0),(9,vx k),(17,vw a),(18,vi (Aa a)),(19,vi f),(28,vi (Gx b (8:Int))),(29,vi m)],[Ab 5 h],[]⟩
def z26(Em:K_):Nat->S->Option R_:=H.i P_ [r,r,r,l,r,d,(lp Em),r,r,l,d,r,r,r,d]
def t16(b:Int)(a:LX)(f:Int)(g:LB):S:=⟨[(0,vi b),(7,.own 0),(17,vw a),(18,vi (Aa a)),(19,vi f)],[Ab 5 g],[]⟩
def z16:Nat->S->Option R_:=H.i P_ [r,r,r,l,r,d]
def x26(Em:K_)(b:Int)(a:LX)(k:Int32)(f m:Int)(h:LB):Option R_:=H.e P_ [r,r,r,l,r,d,(lp Em),r,r,l,d,r,r,r,d] (t26 b a k f m h)
theorem i26(Em:K_)(b:Int)(a:LX)(k:Int32)(f:Int):∀(q:Nat) (m:Int) (h:LB),z26 Em q (t26 b a k f m h)=Om (λf g=>Em (t16 b a f g)) b a k f q m h:=
 ind (λ_ _=>by kernel_rfl) λq ih m h=>Eq.trans (b:=Yo (Yz (λf g=>Em (t16 b a f g)) b a) (λm h=>(z26 Em q) (t26 b a k f m h)) b a k f m h) A3 (by simp only[ih]<;>rfl)
theorem e26(Em:K_)(b:Int)(a:LX):x26 Em b a=Zt (λf g=>Em (t16 b a f g)) b a:=by funext k f m h;exact Eq.trans A3 ((i26 Em b a k f Bl m h).trans (by rw[Am];rfl))
theorem i16(b:Int)(a:LX):∀(q:Nat) (f:Int) (g:LB),z16 q (t16 b a f g)=On b a q f g:=
 ind (λ_ _=>by kernel_rfl) λq ih f g=>Eq.trans (b:=Zi (Yf (x26 (z16 q) b a) b a) Zq b a f g) A3 (by simp only[e26,ih]<;>rfl)
def k:Kc P_ gl:=⟨(85,⟨H.p,H.r,u2 Nt⟩),co H func85 (λx=>Eq.trans (b:=u2 (BT (λb a f g=>z16 Bl (t16 b a f g))) x) A3 (by simp only[i16,Am]<;>rfl))⟩
end F85
namespace F190
abbrev R_:=Int
def H:Hd:=⟨[Sl,Si],[Si],(.seq .d (.cut [] [] (.seq .d (.blk (.loop [0,1,7,8] [] .d))) .d)),kt [] false,[],f190⟩
def t4(a:LI)(b f:Int):S:=⟨[(0,vl a),(1,vi b),(7,vi (Aa a)),(8,vi f)],[],[]⟩
def z4:Nat->S->Option R_:=H.i P_ [r,l,r,d]
theorem i4(a:LI)(b:Int):∀(q:Nat) (f:Int),z4 q (t4 a b f)=Ct a b q f:=
 ind (λ_=>by kernel_rfl) λq ih f=>Eq.trans (b:=Ex Es (λf=>(z4 q) (t4 a b f)) a b f) A3 (by simp only[ih]<;>rfl)
def k:Kc P_ gl:=⟨(190,⟨H.p,H.r,u2 Ft⟩),co H func190 (λx=>Eq.trans (b:=u2 (Ew (λa b f=>z4 Bl (t4 a b f))) x) A3 (by simp only[i4,Am]<;>rfl))⟩
end F190
namespace F121
def H:Hd:=⟨[Sl,Si],[Sz],.d,kt [F190.k] false,[],f121⟩
def k:Kc P_ gl:=⟨(121,⟨H.p,H.r,u2 Ev⟩),co H func121⟩
end F121
namespace F64
def H:Hd:=⟨[Si],[Sz],.d,kt [F121.k] false,[],f64⟩
def k:Kc P_ gl:=⟨(64,⟨H.p,H.r,Jn⟩),co H func64⟩
end F64
namespace F17
def Jz(j28:Bool->Int->Option Int)(y ac:Int)(g a:LB)(h p m u v b:Int)(n:Bool)(o:Int)(ak:LX)(f:LI)(k:LB):Option Int:=
if(Bm ac 0)then
(Af ac).bind λ(bi,bj)=>
j28 bi bj
else
(Nt m ak).bind λ(bk,bb)=>
if(Bm bb 0)then
(Af bb).bind λ(bl,bm)=>
j28 bl bm
else
(By k bk).bind λdv=>
(λfa:Option Int=>
bo (
fa)) (
(Bw a y (Aa a)).bind λdw=>
j28 false 0)
theorem Zy: @Jz= @Lw:=by
  unfold Jz Lw;simp only[Pk,Ix,Jc]
def Le(j13:Bool->Int->Option Int)(j12:LB->LB->Int->Int->Int->Int->Int->Int->Bool->Int->LI->LB->Option Int)(j25:Bool->Int->Option Int)(j23:LB->LB->Int->Int->Int->Int->Int->Int->Bool->Int->LI->LB->Option Int)(j24:LB->LB->Int->Int->Int->Int->Int->Int->Bool->Int->LI->LB->Int->Option Int)(j28:Bool->Int->Option Int)(j26:Int->LB->LB->Int->Int->Int->Int->Int->Int->Bool->Int->LX->LI->LI->LB->Option Int)(j22:Bool->Option Int)(j21:Option Int)(al am:LB)(an ao ap aq ar:Int)(au:LI)(ad:Int)(ae:LB)(aa:Bool)(w:Int):Option Int:=
if(Dy (Aa al) 64)then
some 8
else
if((geq w 0)&&(!aa))then
(Cw al am an ao ap aq ar au ad ae aa w).bind λ(g,a,h,p,m,u,v,f,b,k,n,o)=>
(Xf al am an ao ap aq ar au ad ae aa w).bind λbn=>
if bn then
if(geq h 0)then
(Fu a).bind λ(ah,av)=>
if(geq av 24)then
j13 true 0
else
if(Bm av 0)then
(Af av).bind λ(bp,bq)=>
j13 bp bq
else
(Bw a ah (Aa a)).bind λbr=>
(Ma br).bind λaj=>
if aj then
j13 true 0
else
(Bw a ah (Aa a)).bind λbs=>
(Kw bs).bind λ(ay,az,ab,ba,af,aw)=>
if(geq aw 24)then
j13 true 0
else
if(Bm aw 0)then
(Af aw).bind λ(bt,bu)=>
j13 bt bu
else
both (
(Bw a (Ac ah 22) (Aa a)).bind λax=>
(λfb:Option Int=>
bo (
fb)) (
j12 g ax ay az ab ba af b n o f k)) [
(Bw a (Ac ah 22) (Aa a)).bind λax=>
j12 g ax ay az ab ba af b n o f k]
else
if(geq (Aa f) 0)then
if(geq h 2)then
if(Cf (Aa a) 8)then
j25 true 0
else
j23 g a h p m u v b n o f k
else
j24 g a h p m u v b n o f k 0
else
if(Cf b (Aa f))then
(Ad f b).bind λ_=>
(Ad f b).bind λy=>
if(Cf (Aa a) y)then
j28 true 0
else
(My g).bind λ(bc,ai)=>
if(Bm ai 0)then
(Af ai).bind λ(bv,bw)=>
j28 bv bw
else
(Eu h p m u v).bind λ(ag,bx)=>
if((Bm bx 0)||(Gq b (Aa ag)))then
(Af 8).bind λ(bz,da)=>
j28 bz da
else
j26 y g a h p m u v b n o bc ag f k
else
if(Dy (Aa a) 4000)then
(Af 38).bind λ(db,bd)=>
j22 ((db==true)&&((geq bd 0)&&true))
else
j21
else
j22 false
else
if((geq (Aa am) 0)&&(geq (Aa au) 0))then
if((((geq an 0)&&((geq ao 0)&&((geq ap 0)&&((geq aq 0)&&((geq ar 0)&&true)))))&&(geq ad 0))&&(aF (Aa ae) 12000))then
if(geq w 0)then
j22 true
else
if(!aa)then
(Jn w).bind λdc=>
j22 dc
else
j22 false
else
j22 false
else
if((false&&(geq ad 0))&&(aF (Aa ae) 12000))then
if(geq w 0)then
j22 true
else
if(!aa)then
(Jn w).bind λdd=>
j22 dd
else
j22 false
else
j22 false
theorem CQ: @Le= @Mu:=by
  unfold Le Mu
  try simp only[Pk,Ix,Jc]
  all_goals
    repeat (refine funext λ_=>?_)
    repeat' first
      |with_reducible rfl
      |with_reducible refine Dk ?_ ?_
      |with_reducible refine Dj ?_ ?_ ?_
      |with_reducible refine Dm ?_ ?_ ?_ ?_
      |((with_reducible refine Fm ?_ ?_);focus (intro h;first|(subst h;rfl)|(simp only[h];rfl)|(simp[By,Aa,h];done)))
      |with_reducible refine Fk λx=>?_
      |with_reducible refine Hm (λ_=>?_) (λ_=>?_)
      |(refine Cb (λh=>by simp only[h,Fl,Br,Bo,ite_self]) (λx h=>?_);(try simp only[h,Br]))
      |(refine Cs (λh=>?_) (λh=>?_)<;>simp only[h,if_true,if_false,Bool.false_eq_true])
abbrev R_:=Int
def H:Hd:=⟨[.agg [Ss,Sb,.agg [Si,Si,Si,Si,Si],Sl,Si,Sb,Sz,Si]],[Si],(.seq .d (.seq .d (.seq .d (.cut [3] [] (.seq .d (.cond (.seq .d (.keep [3,21,22,23,24,25] false)) .d)) .d)))),kt [F59.k,F63.k,F64.k,F85.k,F101.k,F114.k,⟨(116,Jw),Rn⟩,F117.k,F119.k,F120.k,F125.k,F126.k,F127.k,F184.k,F185.k] false,[(58,(.seq .d (.cut [2] [] (.blk (.seq .d (.cond (.cut [2] [] (.keep [2,11] true) .d) (.seq .d (.cond (.cut [2] [] (.keep [2,20] true) .d) (.seq .d (.cond (.cut [2] [] (.keep [2,33] true) .d) .d))))))) .d))),(111,(.seq .d (.seq .d (.seq .d (.seq .d (.seq .d (.cut [0,2,5] [] (.mode false) .d))))))),(112,(.seq .d (.seq .d (.cut [0,2,3] [⟨0,[1],.ro (.int .u8)⟩] (.seq .d (.cond (.seq .d (.cut [0,2,3] [⟨0,[1],.ro (.int .u8)⟩,⟨9,[1],.ro (.int .u8)⟩,⟨10,[1],.ro (.int .u8)⟩,⟨15,[1],.ro (.int .u8)⟩,⟨16,[1],.ro (.int .u8)⟩,⟨18,[],.ro (.int .u8)⟩] .d (.cut [0,2,3,4,5] [] .d .d))) .d)) .d)))),(113,(.seq .d (.seq .d (.seq .d (.seq .d (.seq .d (.seq .d (.cut [0,2,3,4,6] [⟨0,[1],.ro (.int .u8)⟩,⟨9,[1],.ro (.int .u8)⟩,⟨10,[1],.ro (.int .u8)⟩,⟨13,[1],.ro (.int .u8)⟩,⟨14,[1],.ro (.int .u8)⟩,⟨19,[1],.ro (.int .u8)⟩,⟨20,[1],.ro (.int .u8)⟩,⟨22,[],.ro (.int .u8)⟩,⟨28,[1],.ro (.int .u8)⟩,⟨29,[1],.ro (.int .u8)⟩,⟨40,[1],.ro (.int .u8)⟩,⟨41,[1],.ro (.int .u8)⟩] .d (.cut [0,2,3,5,7] [] .d (.seq .d (.seq .d (.seq .d (.seq .d (.seq (.mode false) .d))))))))))))))],f17⟩
def x27(y ac:Int)(g a:LB)(h p m u v b:Int)(n:Bool)(o:Int)(ak:LX)(f:LI)(k:LB):Option R_:=H.e P_ [r,r,r,l,r,l,r,(dcall 3 58 3 #[true,true,true,true,true,true,true,true] #[true,true,true,true,true,false,false,false]),r,l,d,r,r,r,r,r,l,l,(call 1 113),r,r,r,r,r,r,r,r] ⟨[(0,.ptr 0 []),(2,.ptr 1 []),(3,vi y),(5,vi ac),(7,.own 2)],[.box 28 (.agg [vs g,vb a,.agg [vi h,vi p,vi m,vi u,vi v],.own 4,vi b,.own 5,vt n,vi o]),.box 103 (.agg [vt false,vi 0]),Aw 21 ak,.box 103 (.agg [vt false,vi 0]),Ai 3 f,Ab 5 k],[[(2,.ptr 3 [])],[(3,vt false),(21,.cst (.bool true)),(23,.agg [vt true,vi 0])]]⟩
theorem e27:x27=Uf:=Eq.trans (b:=Jz Hr) A3 (by rw[Zy];rfl)
def k:Kc P_ gl:=⟨(17,⟨H.p,H.r,iV Nh⟩),co H func17 (λx=>Eq.trans (b:=iV (Le Lg Ta Hx Sy Mb Hr (To x27) Ec Tq) x) A3 (by rw[CQ];simp only[e27]<;>rfl))⟩
end F17
namespace F57
def Lr(f g:LB)(h k m n o:Int)(p:LI)(u:Int)(v:LB)(b:Bool)(a:Int):Option (LB×LB×Int×Int×Int×Int×Int×LI×Int×LB×Bool×Int×Int):=
(Nh f g h k m n o p u v b a).bind λw=>
if(Bm w 0)then
some (([]:LB),([]:LB),0,0,0,0,0,([]:LI),0,([]:LB),false,0,w)
else
if(Bm a 0)then
(λbl:Option (LB×LB×Int×Int×Int×Int×Int×LI×Int×LB×Bool×Int×Int)=>
both (
both (
(Cw f g h k m n o p u v b a).bind λ(y,aa,ab,ac,ad,ae,af,ag,ah,ai,aj,ak)=>
(λbm:Option (LB×LB×Int×Int×Int×Int×Int×LI×Int×LB×Bool×Int×Int)=>
bo (
bm)) (
some (y,aa,ab,ac,ad,ae,af,ag,ah,ai,aj,ak,a))) [
bl]) [
bl]) (
(Cw f g h k m n o p u v b a).bind λ(y,aa,ab,ac,ad,ae,af,ag,ah,ai,aj,ak)=>
some (y,aa,ab,ac,ad,ae,af,ag,ah,ai,aj,ak,a))
else
if b then
(Cw f g h k m n o p u v b a).bind λ(al,am,an,ao,ap,aq,ar,au,av,aw,ax,ay)=>
some (al,am,an,ao,ap,aq,ar,au,av,aw,ax,ay,36)
else
(Cw f g h k m n o p u v b a).bind λ(az,ba,bb,bc,bd,be,bf,bg,bh,bi,bj,bk)=>
some (az,ba,bb,bc,bd,be,bf,bg,bh,bi,bj,bk,0)
theorem CD: @Lr= @Ju:=by
  unfold Lr Ju
  try simp only[Pk,Ix,Jc]
  all_goals
    repeat (refine funext λ_=>?_)
    repeat' first
      |with_reducible rfl
      |with_reducible refine Dk ?_ ?_
      |with_reducible refine Dj ?_ ?_ ?_
      |with_reducible refine Dm ?_ ?_ ?_ ?_
      |((with_reducible refine Fm ?_ ?_);focus (intro h;first|(subst h;rfl)|(simp only[h];rfl)|(simp[By,Aa,h];done)))
      |with_reducible refine Fk λx=>?_
      |with_reducible refine Hm (λ_=>?_) (λ_=>?_)
      |(refine Cb (λh=>by simp only[h,Fl,Br,Bo,ite_self]) (λx h=>?_);(try simp only[h,Br]))
      |(refine Cs (λh=>?_) (λh=>?_)<;>simp only[h,if_true,if_false,Bool.false_eq_true])
def H:Hd:=⟨[.agg [Ss,Sb,.agg [Si,Si,Si,Si,Si],Sl,Si,Sb,Sz,Si]],[.agg [Ss,Ob 5,.agg [Si,Si,Si,Si,Si],Ol 3,Si,Ob 5,Sz,Si],Si],(.seq .d (.seq .d (.seq (.blk (.seq .d (.cond (.seq (.mode false) .d) .d))) .d))),kt [F17.k,F59.k] false,[],f57⟩
def k:Kc P_ gl:=⟨(57,⟨H.p,H.r,iV Ju⟩),co H func57 (λx=>Eq.trans (b:=iV Lr x) A3 (by simp only[CD]<;>rfl))⟩
end F57
namespace F60
def H:Hd:=⟨[.agg [Ss,Sb,.agg [Si,Si,Si,Si,Si],Sl,Si,Sb,Sz,Si],Si],[.agg [Ss,Ob 5,.agg [Si,Si,Si,Si,Si],Ol 3,Si,Sb,Sz,Si],Si],.d,kt [] false,[],f60⟩
def k:Kc P_ gl:=⟨(60,⟨H.p,H.r,qU Ya⟩),co H func60⟩
end F60
namespace F14
def Md(j78:Int->Int->Int->Int->Int->LI->Bool->Int->LB->Int->LB->Option (LB×LB×Int×Int×Int×Int×Int×LI×Int×LB×Bool×Int×Int))(a:LB)(b:Bool)(f w ab:Int)(g:LB)(m o n p u h:Int)(am:LX)(k:LI)(v:LB):Option (LB×LB×Int×Int×Int×Int×Int×LI×Int×LB×Bool×Int×Int):=
if(Bm ab 0)then
(Af ab).bind λ(br,bs)=>
j78 m o n p u k br bs g h v
else
(Nt n am).bind λ(bt,af)=>
if(Bm af 0)then
(Af af).bind λ(bu,bv)=>
j78 m o n p u k bu bv g h v
else
(By v bt).bind λbw=>
(λhb:Option (LB×LB×Int×Int×Int×Int×Int×LI×Int×LB×Bool×Int×Int)=>
bo (
hb)) (
(Bw g w (Aa g)).bind λbx=>
j78 m o n p u k false 0 bx (Ac h 1) bw)
theorem AU: @Md= @Ms:=by
  unfold Md Ms;simp only[Pk,Ix,Jc]
def Ld(j62:Int->LI->LB->Bool->Int->LB->Int->Int->Int->Int->Int->Option (LB×LB×Int×Int×Int×Int×Int×LI×Int×LB×Bool×Int×Int))(j61:LB->Int->Int->Int->Int->Int->Int->LI->LB->Option (LB×LB×Int×Int×Int×Int×Int×LI×Int×LB×Bool×Int×Int))(j75:Int->Int->Int->Int->Int->Int->LB->Bool->Int->LB->LI->Option (LB×LB×Int×Int×Int×Int×Int×LI×Int×LB×Bool×Int×Int))(j73:LB->Int->Int->Int->Int->Int->Int->LI->LB->Option (LB×LB×Int×Int×Int×Int×Int×LI×Int×LB×Bool×Int×Int))(j74:LB->Int->Int->Int->Int->Int->Int->LI->LB->Int->Option (LB×LB×Int×Int×Int×Int×Int×LI×Int×LB×Bool×Int×Int))(j78:Int->Int->Int->Int->Int->LI->Bool->Int->LB->Int->LB->Option (LB×LB×Int×Int×Int×Int×Int×LI×Int×LB×Bool×Int×Int))(j76:Int->LB->Int->Int->Int->Int->Int->Int->LX->LI->LI->LB->Option (LB×LB×Int×Int×Int×Int×Int×LI×Int×LB×Bool×Int×Int))(j71:LB->Int->Int->Int->Int->Int->Int->Bool->Int->LI->LB->Option (LB×LB×Int×Int×Int×Int×Int×LI×Int×LB×Bool×Int×Int))(j70:LB->Int->Int->Int->Int->Int->Int->LI->LB->Option (LB×LB×Int×Int×Int×Int×Int×LI×Int×LB×Bool×Int×Int))(a:LB)(b:Bool)(f:Int)(g:LB)(m o n p u h:Int)(k:LI)(v:LB):Option (LB×LB×Int×Int×Int×Int×Int×LI×Int×LB×Bool×Int×Int):=
if(geq m 0)then
(Fu g).bind λ(ad,an)=>
if(geq an 24)then
j62 h k v true 0 g m o n p u
else
if(Bm an 0)then
(Af an).bind λ(bz,da)=>
j62 h k v bz da g m o n p u
else
(Bw g ad (Aa g)).bind λdb=>
(Ma db).bind λal=>
if al then
j62 h k v true 0 g m o n p u
else
(Bw g ad (Aa g)).bind λdc=>
(Kw dc).bind λ(ah,ai,y,aj,aa,ao)=>
if(geq ao 24)then
j62 h k v true 0 g m o n p u
else
if(Bm ao 0)then
(Af ao).bind λ(dd,de)=>
j62 h k v dd de g m o n p u
else
both (
(Bw g (Ac ad 22) (Aa g)).bind λag=>
bo (
j61 ag ah ai y aj aa h k v)) [
(Bw g (Ac ad 22) (Aa g)).bind λag=>
j61 ag ah ai y aj aa h k v]
else
if(geq (Aa k) 0)then
if(geq m 2)then
if(Cf (Aa g) 8)then
j75 m o n p u h v true 0 g k
else
j73 g m o n p u h k v
else
j74 g m o n p u h k v 0
else
if(Cf h (Aa k))then
(Ad k h).bind λ_=>
(Ad k h).bind λw=>
if(Cf (Aa g) w)then
j78 m o n p u k true 0 g h v
else
(My a).bind λ(aq,ak)=>
if(Bm ak 0)then
(Af ak).bind λ(df,dg)=>
j78 m o n p u k df dg g h v
else
(Eu m o n p u).bind λ(ac,dh)=>
if((Bm dh 0)||(Gq h (Aa ac)))then
(Af 8).bind λ(di,ap)=>
j78 m o n p u k di ap g h v
else
j76 w g m o n p u h aq ac k v
else
if(Dy (Aa g) 4000)then
(Af 38).bind λ(dj,ae)=>
j71 g m o n p u h dj ae k v
else
j70 g m o n p u h k v
theorem CJ: @Ld= @Mi:=by
  unfold Ld Mi
  repeat (refine funext λ_=>?_)
  repeat' first
    |with_reducible rfl
    |with_reducible refine Dk ?_ ?_
    |with_reducible refine Dj ?_ ?_ ?_
    |with_reducible refine Dm ?_ ?_ ?_ ?_
    |((with_reducible refine Fm ?_ ?_);focus (intro h;first|(subst h;rfl)|(simp only[h];rfl)|(simp[By,Aa,h];done)))
    |with_reducible refine Fk λx=>?_
    |with_reducible refine Hm (λ_=>?_) (λ_=>?_)
    |(refine Cb (λh=>by simp only[h,Fl,Br,Bo,ite_self]) (λx h=>?_);(try simp only[h,Br]))
    |(refine Cs (λh=>?_) (λh=>?_)<;>simp only[h,if_true,if_false,Bool.false_eq_true])
abbrev R_:=(LB×LB×Int×Int×Int×Int×Int×LI×Int×LB×Bool×Int×Int)
abbrev K_:=S->Option R_
def H:Hd:=⟨[.agg [Ss,Sb,.agg [Si,Si,Si,Si,Si],Sl,Si,Sb,Sz,Si],Sb],[.agg [Ss,Ob 5,.agg [Si,Si,Si,Si,Si],Ol 3,Si,Sb,Sz,Si],Si],(.seq .d (.seq .d (.seq .d (.seq .d (.blk (.loop [2,4] [⟨2,[1],.ro (.int .u8)⟩] (.blk (.cut [2,4,7] [] (.keep [2,4,7,22] true) .d)))))))),kt [F57.k,F59.k,F60.k,F85.k,F101.k,F114.k,⟨(116,Jw),Rn⟩,F117.k,F119.k,F120.k,F125.k,F126.k,F127.k,F184.k,F185.k] false,[(58,(.seq .d (.cut [2] [] (.blk (.seq .d (.cond (.cut [2] [] (.keep [2,11] true) .d) (.seq .d (.cond (.cut [2] [] (.keep [2,20] true) .d) (.seq .d (.cond (.cut [2] [] (.keep [2,33] true) .d) .d))))))) .d))),(111,(.seq .d (.seq .d (.seq .d (.seq .d (.seq .d (.cut [0,2,5] [] (.mode false) .d))))))),(112,(.seq .d (.seq .d (.cut [0,2,3] [] (.seq .d (.cond (.seq .d (.cut [0,2,3] [⟨0,[1],.ro (.int .u8)⟩,⟨9,[1],.ro (.int .u8)⟩,⟨10,[1],.ro (.int .u8)⟩,⟨15,[1],.ro (.int .u8)⟩,⟨16,[1],.ro (.int .u8)⟩,⟨18,[],.ro (.int .u8)⟩] .d (.cut [0,2,3,4,5] [] .d .d))) .d)) .d)))),(113,(.seq .d (.seq .d (.seq .d (.seq .d (.seq .d (.seq .d (.cut [0,2,3,4,6] [⟨0,[1],.ro (.int .u8)⟩,⟨9,[1],.ro (.int .u8)⟩,⟨10,[1],.ro (.int .u8)⟩,⟨13,[1],.ro (.int .u8)⟩,⟨14,[1],.ro (.int .u8)⟩,⟨19,[1],.ro (.int .u8)⟩,⟨20,[1],.ro (.int .u8)⟩,⟨22,[],.ro (.int .u8)⟩,⟨28,[1],.ro (.int .u8)⟩,⟨29,[1],.ro (.int .u8)⟩,⟨40,[1],.ro (.int .u8)⟩,⟨41,[1],.ro (.int .u8)⟩] .d (.cut [0,2,3,5,7] [] .d (.seq .d (.seq .d (.seq .d (.seq .d (.seq (.mode false) .d))))))))))))))],f14⟩
def t37(a:LB)(b:Bool)(f:Int)(g:LB)(m o n p u h:Int)(k:LI)(v:LB):S:=⟨[(2,.ptr 0 []),(4,.ptr 1 [])],[.box 28 (.agg [vs a,vb g,.agg [vi m,vi o,vi n,vi p,vi u],.own 2,vi h,.own 3,vt b,vi f]),.box 28 (.agg [vs ([]:LB),.nils,.agg [vi 0,vi 0,vi 0,vi 0,vi 0],.nils,vi 0,.nils,vt false,vi 0]),Ai 3 k,Ab 5 v],[]⟩
def z37:Nat->S->Option R_:=H.i P_ [r,r,r,r,d]
def x75(HD:K_)(a:LB)(b:Bool)(f m o n p u h:Int)(v:LB)(bf:Bool)(bg:Int)(bh:LB)(bi:LI):Option R_:=H.e P_ [r,r,r,r,d,(lp HD),d,l,(call 0 58),r,l,d,r,r,r,l,r] ⟨[(2,.ptr 0 [])],[.box 103 (.agg [vt bf,vi bg]),.box 28 (.agg [vs a,vb bh,.agg [vi m,vi o,vi n,vi p,vi u],.own 3,vi h,.own 4,vt b,vi f]),.box 28 (.agg [vs ([]:LB),.nils,.agg [vi 0,vi 0,vi 0,vi 0,vi 0],.nils,vi 0,.nils,vt false,vi 0]),Ai 3 bi,Ab 5 v],[[(2,.ptr 1 []),(4,.ptr 2 [])]]⟩
def x78(HD:K_)(a:LB)(b:Bool)(f m o n p u:Int)(k:LI)(bl:Bool)(bm:Int)(bn:LB)(bp:Int)(bq:LB):Option R_:=H.e P_ [r,r,r,r,d,(lp HD),d,l,(call 0 58),r,l,d,r,r,r,r,r,l,r] ⟨[(2,.ptr 0 [])],[.box 103 (.agg [vt bl,vi bm]),.box 28 (.agg [vs a,vb bn,.agg [vi m,vi o,vi n,vi p,vi u],.own 3,vi bp,.own 4,vt b,vi f]),.box 28 (.agg [vs ([]:LB),.nils,.agg [vi 0,vi 0,vi 0,vi 0,vi 0],.nils,vi 0,.nils,vt false,vi 0]),Ai 3 k,Ab 5 bq],[[(2,.ptr 1 []),(4,.ptr 2 [])]]⟩
def x77(HD:K_)(a:LB)(b:Bool)(f w ab:Int)(g:LB)(m o n p u h:Int)(am:LX)(k:LI)(v:LB):Option R_:=H.e P_ [r,r,r,r,d,(lp HD),d,l,(call 0 58),r,l,d,r,r,r,r,r,l,l,(call 1 113),r,r,r,r,r,r,r,r] ⟨[(0,.ptr 0 []),(2,.ptr 1 []),(3,vi w),(5,vi ab),(7,.own 2)],[.box 28 (.agg [vs a,vb g,.agg [vi m,vi o,vi n,vi p,vi u],.own 5,vi h,.own 6,vt b,vi f]),.box 103 (.agg [vt false,vi 0]),Aw 21 am,.box 103 (.agg [vt false,vi 0]),.box 28 (.agg [vs ([]:LB),.nils,.agg [vi 0,vi 0,vi 0,vi 0,vi 0],.nils,vi 0,.nils,vt false,vi 0]),Ai 3 k,Ab 5 v],[[(2,.ptr 3 [])],[(2,.ptr 0 []),(4,.ptr 4 [])]]⟩
theorem e75(HD:K_)(a:LB)(b:Bool)(f:Int):x75 HD a b f=Im (λg m o n p u h k v=>HD (t37 a b f g m o n p u h k v)) a b f:=A3
theorem e78(HD:K_)(a:LB)(b:Bool)(f:Int):x78 HD a b f=Mt (λg m o n p u h k v=>HD (t37 a b f g m o n p u h k v)) a b f:=A3
theorem e77(HD:K_)(a:LB)(b:Bool)(f:Int):x77 HD a b f=Vz (λg m o n p u h k v=>HD (t37 a b f g m o n p u h k v)) a b f:=Eq.trans (b:=Md (x78 HD a b f) a b f) A3 (by rw[AU];simp only[e78]<;>rfl)
theorem i37(a:LB)(b:Bool)(f:Int):∀(q:Nat) (g:LB) (m o n p u h:Int) (k:LI) (v:LB),z37 q (t37 a b f g m o n p u h k v)=Bu a b f q g m o n p u h k v:=
 ind (λ_ _ _ _ _ _ _ _ _=>by kernel_rfl) λq ih g m o n p u h k v=>Eq.trans (b:=Ld (Mv (λg m o n p u h k v=>(z37 q) (t37 a b f g m o n p u h k v)) a b f) (Vn (λg m o n p u h k v=>(z37 q) (t37 a b f g m o n p u h k v)) a b f) (x75 (z37 q) a b f) (Vp (Wp (x75 (z37 q) a b f) (Mz (x75 (z37 q) a b f) a b f) a b f) a b f) (Mz (x75 (z37 q) a b f) a b f) (x78 (z37 q) a b f) (Vo (x77 (z37 q) a b f) a b f) (Fa (λg m o n p u h k v=>(z37 q) (t37 a b f g m o n p u h k v)) a b f) (Wi (λg m o n p u h k v=>(z37 q) (t37 a b f g m o n p u h k v)) a b f) a b f g m o n p u h k v) A3 (by rw[CJ];simp only[e75,e78,e77,ih]<;>rfl)
def k:Kc P_ gl:=⟨(14,⟨H.p,H.r,qU Gp⟩),co H func14 (λx=>Eq.trans (b:=qU (Zh (λa b f g m o n p u h k v=>z37 Bl (t37 a b f g m o n p u h k v))) x) A3 (by simp only[i37,Am]<;>rfl))⟩
end F14
namespace F16
def H:Hd:=⟨[.agg [Ss,Sb,.agg [Si,Si,Si,Si,Si],Sl,Si,Sb,Sz,Si],Si],[.agg [Ss,Ob 5,.agg [Si,Si,Si,Si,Si],Ol 3,Si,Sb,Sz,Si],Ob 5,Si],.d,kt [F17.k,F59.k,F62.k] false,[],f16⟩
def k:Kc P_ gl:=⟨(16,⟨H.p,H.r,qU Uq⟩),co H func16⟩
end F16
namespace F189
abbrev R_:=(Int×Int)
def H:Hd:=⟨[Sb],[Si,Si],(.seq .d (.seq .d (.cut [0,4] [] .d .d))),kt [F158.k,F235.k,F236.k,F237.k] false,[],f189⟩
def k:Kc P_ gl:=⟨(189,⟨H.p,H.r,aZ⟩),co H func189⟩
end F189
namespace F118
abbrev R_:=(Int×Int)
abbrev K_:=S->Option R_
def H:Hd:=⟨[Sb],[Si,Si],(.seq .d (.seq .d (.seq .d (.seq .d (.cut [5] [] (.blk (.loop [1,4,5] [] (.seq .d (.cut [1,4,5] [] (.blk (.cut [1,4,5,6] [] (.keep [1,4,5,6,16,17] true) .d)) .d)))) .d))))),kt [F189.k] false,[(188,.d)],f118⟩
def t8(a:Int)(b:LB):S:=⟨[(1,.ptr 0 []),(4,.fn 188 [.ptr 0 []]),(5,vi a)],[.box 22 (vb b)],[]⟩
def z8:Nat->S->Option R_:=H.i P_ [r,r,r,r,l,d]
theorem i8:∀(q:Nat) (a:Int) (b:LB),z8 q (t8 a b)=Ny q a b:=
 ind (λ_ _=>by kernel_rfl) λq ih a b=>Eq.trans (b:=Zl (Vy (λa b=>(z8 q) (t8 a b))) Ws a b) A3 (by simp only[ih]<;>rfl)
def k:Kc P_ gl:=⟨(118,⟨H.p,H.r,IG⟩),co H func118 (λx=>Eq.trans (b:=Zf (λa b=>z8 Bl (t8 a b)) x) A3 (by simp only[i8,Am]<;>rfl))⟩
end F118
namespace F61
def H:Hd:=⟨[.agg [Ss,Sb,.agg [Si,Si,Si,Si,Si],Sl,Si,Sb,Sz,Si]],[Si],.d,kt [⟨(116,Jw),Rn⟩,F117.k,F118.k] false,[],f61⟩
def k:Kc P_ gl:=⟨(61,⟨H.p,H.r,iV AQ⟩),co H func61⟩
end F61
namespace F15
def H:Hd:=⟨[.agg [Ss,Sb,.agg [Si,Si,Si,Si,Si],Sl,Si,Sb,Sz,Si]],[.agg [Ss,Ob 5,.agg [Si,Si,Si,Si,Si],Ol 3,Si,Sb,Sz,Si],Si],.d,kt [F57.k,F60.k,F61.k] false,[],f15⟩
def k:Kc P_ gl:=⟨(15,⟨H.p,H.r,iV Ri⟩),co H func15⟩
end F15
namespace F27
def Ko(j29:Int->LB->Int->Int->Int->Int->Int->Int->LB->Bool->Int->LB-> (List (Int×LB×Unit))->LB->LI->Option (LB×LB×Int×Int×Int×Int×Int×LI×Int×LB×Bool×Int×(List (Int×LB×Unit))×Int))(b:List (UInt8×Int×Unit))(ac:UInt8×Int×Unit)(a:LB)(ad ab:Int)(f w:LB)(g h k m n:Int)(y:LI)(o:Int)(p:LB)(u:Bool)(v:Int)(ae:LB)(af ag ah ai aj ak:Int)(al:LB)(am:Bool)(an:Int)(aa:List (Int×LB×Unit))(ao:LB)(ap:LI):Option (LB×LB×Int×Int×Int×Int×Int×LI×Int×LB×Bool×Int×(List (Int×LB×Unit))×Int):=
(λfs:Option (LB×LB×Int×Int×Int×Int×Int×LI×Int×LB×Bool×Int×(List (Int×LB×Unit))×Int)=>
bo (
fs)) (
(Bw a (Cx ac.2.1 (Aa a)) (Aa a)).bind λbv=>
(By aa ([(ad,([]:LB),())]:List (Int×LB×Unit))).bind λar=>
j29 ab ae af ag ah ai aj ak al am an bv ar ao ap)
theorem Zv: @Ko= @Lq:=by
  unfold Ko Lq;simp only[Pk,Ix,Jc]
def Ka(j26:(UInt8×Int×Unit)->LB->Int->Int->LB->LB->Int->Int->Int->Int->Int->LI->Int->LB->Bool->Int->LB->Int->Int->Int->Int->Int->Int->LB->Bool->Int-> (List (Int×LB×Unit))->LB->LI->Option (LB×LB×Int×Int×Int×Int×Int×LI×Int×LB×Bool×Int×(List (Int×LB×Unit))×Int))(j33:Int->Int->LB->LB->Int->Int->Int->Int->Int->LI->Int->LB->Bool->Int->LB->LB->Int->Int->Int->Int->Int->Int->LB->Bool->Int->LB-> (List (Int×LB×Unit))->LB->LI->Option (LB×LB×Int×Int×Int×Int×Int×LI×Int×LB×Bool×Int×(List (Int×LB×Unit))×Int))(j34:Int->Int->LB->LB->Int->Int->Int->Int->Int->LI->Int->LB->Bool->Int->LB->LB->Int->Int->Int->Int->Int->Int->LB->Bool->Int-> (List (Int×LB×Unit))->LB->LI->Option (LB×LB×Int×Int×Int×Int×Int×LI×Int×LB×Bool×Int×(List (Int×LB×Unit))×Int))(j29:Int->LB->Int->Int->Int->Int->Int->Int->LB->Bool->Int->LB-> (List (Int×LB×Unit))->LB->LI->Option (LB×LB×Int×Int×Int×Int×Int×LI×Int×LB×Bool×Int×(List (Int×LB×Unit))×Int))(j31:(List (Int×LB×Unit))->LB->Int->Int->Int->Int->Int->Int->LB->Bool->Int->LB->LB->LI->Option (LB×LB×Int×Int×Int×Int×Int×LI×Int×LB×Bool×Int×(List (Int×LB×Unit))×Int))(b:List (UInt8×Int×Unit))(ab:Int)(f:LB)(g h k m n o:Int)(p:LB)(u:Bool)(v:Int)(a:LB)(aa:List (Int×LB×Unit))(w:LB)(y:LI):Option (LB×LB×Int×Int×Int×Int×Int×LI×Int×LB×Bool×Int×(List (Int×LB×Unit))×Int):=
if(Cf ab (Aa b))then
(Ad b ab).bind λac=>
if(geq ac.1 1)then
(λbw:Option (LB×LB×Int×Int×Int×Int×Int×LI×Int×LB×Bool×Int×(List (Int×LB×Unit))×Int)=>
(λda:Option (LB×LB×Int×Int×Int×Int×Int×LI×Int×LB×Bool×Int×(List (Int×LB×Unit))×Int)=>
(λdb:Option (LB×LB×Int×Int×Int×Int×Int×LI×Int×LB×Bool×Int×(List (Int×LB×Unit))×Int)=>
both (
da) [
da,
(Bw a 0 (Cx ac.2.1 (Aa a))).bind λaq=>
(λdc:Option (LB×LB×Int×Int×Int×Int×Int×LI×Int×LB×Bool×Int×(List (Int×LB×Unit))×Int)=>
(λdd:Option (LB×LB×Int×Int×Int×Int×Int×LI×Int×LB×Bool×Int×(List (Int×LB×Unit))×Int)=>
(λde:Option (LB×LB×Int×Int×Int×Int×Int×LI×Int×LB×Bool×Int×(List (Int×LB×Unit))×Int)=>
both (
de) [
de,
dd]) (
both (
dd) [
dc])) (
bo (
dc))) (
(Gp f w g h k m n y o p u v aq).bind λ(ae,ao,af,ag,ah,ai,aj,ap,ak,al,am,an,ad)=>
j26 ac a ad ab f w g h k m n y o p u v ae af ag ah ai aj ak al am an aa ao ap),
both (
db) [
db,
(Bw a 0 (Cx ac.2.1 (Aa a))).bind λaq=>
(λft:Option (LB×LB×Int×Int×Int×Int×Int×LI×Int×LB×Bool×Int×(List (Int×LB×Unit))×Int)=>
bo (
ft)) (
(Gp f w g h k m n y o p u v aq).bind λ(ae,ao,af,ag,ah,ai,aj,ap,ak,al,am,an,ad)=>
j26 ac a ad ab f w g h k m n y o p u v ae af ag ah ai aj ak al am an aa ao ap)]]) (
bo (
bw))) (
both (
both (
(Bw a 0 (Cx ac.2.1 (Aa a))).bind λaq=>
(λfu:Option (LB×LB×Int×Int×Int×Int×Int×LI×Int×LB×Bool×Int×(List (Int×LB×Unit))×Int)=>
bo (
fu)) (
(Gp f w g h k m n y o p u v aq).bind λ(ae,ao,af,ag,ah,ai,aj,ap,ak,al,am,an,ad)=>
j26 ac a ad ab f w g h k m n y o p u v ae af ag ah ai aj ak al am an aa ao ap)) [
bw]) [
(Bw a 0 (Cx ac.2.1 (Aa a))).bind λaq=>
(λdf:Option (LB×LB×Int×Int×Int×Int×Int×LI×Int×LB×Bool×Int×(List (Int×LB×Unit))×Int)=>
both (
bo (
df)) [
df]) (
(Gp f w g h k m n y o p u v aq).bind λ(ae,ao,af,ag,ah,ai,aj,ap,ak,al,am,an,ad)=>
j26 ac a ad ab f w g h k m n y o p u v ae af ag ah ai aj ak al am an aa ao ap),
bo (
bw)])) (
(Bw a 0 (Cx ac.2.1 (Aa a))).bind λaq=>
(Gp f w g h k m n y o p u v aq).bind λ(ae,ao,af,ag,ah,ai,aj,ap,ak,al,am,an,ad)=>
j26 ac a ad ab f w g h k m n y o p u v ae af ag ah ai aj ak al am an aa ao ap)
else
if(geq ac.1 2)then
(λdg:Option (LB×LB×Int×Int×Int×Int×Int×LI×Int×LB×Bool×Int×(List (Int×LB×Unit))×Int)=>
(λdh:Option (LB×LB×Int×Int×Int×Int×Int×LI×Int×LB×Bool×Int×(List (Int×LB×Unit))×Int)=>
(λdi:Option (LB×LB×Int×Int×Int×Int×Int×LI×Int×LB×Bool×Int×(List (Int×LB×Unit))×Int)=>
both (
di) [
di,
dh]) (
both (
dh) [
dg])) (
bo (
dg))) (
(Uq f w g h k m n y o p u v ac.2.1).bind λ(av,ar,aw,ax,ay,az,ba,bg,bb,bc,bd,be,bf,au)=>
j33 au ab f w g h k m n y o p u v a av aw ax ay az ba bb bc bd be bf aa ar bg)
else
if(geq ac.1 3)then
(λdj:Option (LB×LB×Int×Int×Int×Int×Int×LI×Int×LB×Bool×Int×(List (Int×LB×Unit))×Int)=>
(λdk:Option (LB×LB×Int×Int×Int×Int×Int×LI×Int×LB×Bool×Int×(List (Int×LB×Unit))×Int)=>
(λdl:Option (LB×LB×Int×Int×Int×Int×Int×LI×Int×LB×Bool×Int×(List (Int×LB×Unit))×Int)=>
both (
dl) [
dl,
dk]) (
both (
dk) [
dj])) (
bo (
dj))) (
(Ri f w g h k m n y o p u v).bind λ(bi,bt,bj,bk,bl,bm,bn,bu,bp,bq,br,bs,bh)=>
j34 bh ab f w g h k m n y o p u v a bi bj bk bl bm bn bp bq br bs aa bt bu)
else
j29 ab f g h k m n o p u v a aa w y
else
j31 aa f g h k m n o p u v a w y
theorem Zu: @Ka= @Lo:=by
  unfold Ka Lo
  try simp only[Pk,Ix,Jc]
  all_goals
    repeat (refine funext λ_=>?_)
    repeat' first
      |with_reducible rfl
      |with_reducible refine Dk ?_ ?_
      |with_reducible refine Dj ?_ ?_ ?_
      |with_reducible refine Dm ?_ ?_ ?_ ?_
      |((with_reducible refine Fm ?_ ?_);focus (intro h;first|(subst h;rfl)|(simp only[h];rfl)|(simp[By,Aa,h];done)))
      |with_reducible refine Fk λx=>?_
      |with_reducible refine Hm (λ_=>?_) (λ_=>?_)
      |(refine Cb (λh=>by simp only[h,Fl,Br,Bo,ite_self]) (λx h=>?_);(try simp only[h,Br]))
      |(refine Cs (λh=>?_) (λh=>?_)<;>simp only[h,if_true,if_false,Bool.false_eq_true])
abbrev R_:=(LB×LB×Int×Int×Int×Int×Int×LI×Int×LB×Bool×Int×(List (Int×LB×Unit))×Int)
abbrev K_:=S->Option R_
def H:Hd:=⟨[Ss,Sb,.lf (.list (.cons (.int .u8) (.cons (.int .i64) .nil))) none],[.agg [Ss,Ob 5,.agg [Si,Si,Si,Si,Si],Ol 3,Si,Sb,Sz,Si],.lf (.list (.cons (.int .i64) (.cons (.list (.int .u8)) .nil))) (some 74),Si],(.seq .d (.seq .d (.seq .d (.seq .d (.seq .d (.cut [6,12,13] [] (.keep [6,12,13,35] true) .d)))))),kt [F8.k,F14.k,F15.k,F16.k,F30.k] false,[(76,(.seq .d (.seq .d (.seq .d (.cut [6] [] (.seq .d (.blk (.loop [5,6,19,20,21] [⟨5,[0,0,5],.ro (.int .u8)⟩,⟨6,[],.own 74 (.cons (.int .i64) (.cons (.list (.int .u8)) .nil))⟩] (.seq .d (.seq .d (.cut [5,6,19,20,21] [] (.blk (.seq .d (.seq .d (.seq .d (.cond (.keep [5,6,19,20,21,33,37,38,39] true) .d))))) .d)))))) .d))))),(144,(.seq .d (.seq .d (.cut [0,1,4,5,6] [] (.mode false) (.seq (.mode false) .d))))),(145,(.seq .d (.cut [0,4,5,6,7] [] (.mode false) .d))),(146,(.seq .d (.cut [0,4,5,6] [] (.mode false) .d)))],f27⟩
def t17(b:List (UInt8×Int×Unit))(ab:Int)(f:LB)(g h k m n o:Int)(p:LB)(u:Bool)(v:Int)(a:LB)(aa:List (Int×LB×Unit))(w:LB)(y:LI):S:=⟨[(5,.mp [1,2,3] [.bfn 144 [.ptr 0 []],.bfn 145 [.ptr 0 []],.bfn 146 [.ptr 0 []]]),(6,.own 1),(19,.val (.list (.cons (.int .u8) (.cons (.int .i64) .nil))) b),(20,vi (Aa b)),(21,vi ab)],[.box 129 (.agg [.agg [vs f,.own 3,.agg [vi g,vi h,vi k,vi m,vi n],.own 4,vi o,vb p,vt u,vi v],.fn 14 [],.fn 15 [],.fn 16 [],vb a]),.arr 74 (.cons (.int .i64) (.cons (.list (.int .u8)) .nil)) aa,.box 28 (.agg [vs ([]:LB),.nils,.agg [vi 0,vi 0,vi 0,vi 0,vi 0],.nils,vi 0,.nils,vt false,vi 0]),Ab 5 w,Ai 3 y],[[(6,.ptr 2 []),(12,.ptr 0 [])]]⟩
def z17:Nat->S->Option R_:=H.i P_ [r,r,r,r,r,l,(call 2 76),r,r,r,l,r,d]
def x26(VB:K_)(b:List (UInt8×Int×Unit))(ac:UInt8×Int×Unit)(a:LB)(ad ab:Int)(f w:LB)(g h k m n:Int)(y:LI)(o:Int)(p:LB)(u:Bool)(v:Int)(ae:LB)(af ag ah ai aj ak:Int)(al:LB)(am:Bool)(an:Int)(aa:List (Int×LB×Unit))(ao:LB)(ap:LI):Option R_:=H.e P_ [r,r,r,r,r,l,(call 2 76),r,r,r,l,r,d,(lp VB),r,r,l,d,r,r,r,l,(call 4 144),r,r,r] ⟨[(0,.ptr 0 []),(1,vi (Cx ac.2.1 (Aa a))),(4,.ptr 1 []),(5,.ptr 2 []),(6,vi ad)],[.box 129 (.agg [.agg [vs f,vb w,.agg [vi g,vi h,vi k,vi m,vi n],vl y,vi o,vb p,vt u,vi v],.fn 14 [],.fn 15 [],.fn 16 [],vb a]),.box 74 (.agg [vi 0,.nils]),.box 28 (.agg [vs ae,.own 5,.agg [vi af,vi ag,vi ah,vi ai,vi aj],.own 6,vi ak,vb al,vt am,vi an]),.arr 74 (.cons (.int .i64) (.cons (.list (.int .u8)) .nil)) aa,.box 28 (.agg [vs ([]:LB),.nils,.agg [vi 0,vi 0,vi 0,vi 0,vi 0],.nils,vi 0,.nils,vt false,vi 0]),Ab 5 ao,Ai 3 ap],[[(5,.mp [1,2,3] [.bfn 144 [.ptr 0 []],.bfn 145 [.ptr 0 []],.bfn 146 [.ptr 0 []]]),(6,.own 3),(19,.val (.list (.cons (.int .u8) (.cons (.int .i64) .nil))) b),(20,vi (Aa b)),(21,vi ab),(33,.own 3)],[(6,.ptr 4 []),(12,.ptr 0 [])]]⟩
theorem e26(VB:K_)(b:List (UInt8×Int×Unit)):x26 VB b=Ue (λab f g h k m n o p u v a aa w y=>VB (t17 b ab f g h k m n o p u v a aa w y)) b:=Eq.trans (b:=Ko (Eg (λab f g h k m n o p u v a aa w y=>VB (t17 b ab f g h k m n o p u v a aa w y)) b) b) A3 (by rw[Zv];rfl)
theorem i17(b:List (UInt8×Int×Unit)):∀(q:Nat) (ab:Int) (f:LB) (g h k m n o:Int) (p:LB) (u:Bool) (v:Int) (a:LB) (aa:List (Int×LB×Unit)) (w:LB) (y:LI),z17 q (t17 b ab f g h k m n o p u v a aa w y)=Eb b q ab f g h k m n o p u v a aa w y:=
 ind (λ_ _ _ _ _ _ _ _ _ _ _ _ _ _ _=>by kernel_rfl) λq ih ab f g h k m n o p u v a aa w y=>Eq.trans (b:=Ka (x26 (z17 q) b) (So (λab f g h k m n o p u v a aa w y=>(z17 q) (t17 b ab f g h k m n o p u v a aa w y)) b) (Tg (λab f g h k m n o p u v a aa w y=>(z17 q) (t17 b ab f g h k m n o p u v a aa w y)) b) (Eg (λab f g h k m n o p u v a aa w y=>(z17 q) (t17 b ab f g h k m n o p u v a aa w y)) b) Sp b ab f g h k m n o p u v a aa w y) A3 (by rw[Zu];simp only[e26,ih]<;>rfl)
def k:Kc P_ gl:=⟨(27,⟨H.p,H.r,u3 Nc⟩),co H func27 (λx=>Eq.trans (b:=u3 (Vt (λb ab f g h k m n o p u v a aa w y=>z17 Bl (t17 b ab f g h k m n o p u v a aa w y))) x) A3 (by simp only[i17,Am]<;>rfl))⟩
end F27
namespace F25
def H:Hd:=⟨[.lf (.list (.cons (.int .u8) (.cons (.int .i64) .nil))) none,Si],[Sz],.d,kt [F26.k,F27.k,F30.k] false,[],f25⟩
def k:Kc P_ gl:=⟨(25,⟨H.p,H.r,u2 If⟩),co H func25⟩
end F25
namespace F77
def Cu(j10:(List (UInt8×Int×Unit))->Option ((List (UInt8×Int×Unit))))(aD:Int-> (List (UInt8×Int×Unit))->Option ((List (UInt8×Int×Unit))))(b:Int)(a:List (UInt8×Int×Unit)):Option ((List (UInt8×Int×Unit))):=
if(Cf b (Aa a))then
both (
(KP (Aa a) b (Aa a)).bind λ_=>
(KP (Aa a) 0 b).bind λ_=>
aD (Ac b (Tt ((Aa a)-b) (Rg a 0 (b-(0:Int))).length)) (Hk a b ((Aa a)-b) (Rg a 0 (b-(0:Int))))) [
(KP (Aa a) 0 b).bind λ_=>
(KP (Aa a) b (Aa a)).bind λ_=>
aD (Ac b (Tt ((Aa a)-b) (Rg a 0 (b-(0:Int))).length)) (Hk a b ((Aa a)-b) (Rg a 0 (b-(0:Int))))]
else
j10 a
theorem Ii: @Cu= @Cz:=by
  unfold Cu Cz
  repeat (refine funext λ_=>?_)
  repeat' first
    |with_reducible rfl
    |with_reducible refine Dk ?_ ?_
    |with_reducible refine Dj ?_ ?_ ?_
    |with_reducible refine Dm ?_ ?_ ?_ ?_
    |((with_reducible refine Fm ?_ ?_);focus (intro h;first|(subst h;rfl)|(simp only[h];rfl)|(simp[By,Aa,h];done)))
    |with_reducible refine Fk λx=>?_
    |with_reducible refine Hm (λ_=>?_) (λ_=>?_)
    |(refine Cb (λh=>by simp only[h,Fl,Br,Bo,ite_self]) (λx h=>?_);(try simp only[h,Br]))
    |(refine Cs (λh=>?_) (λh=>?_)<;>simp only[h,if_true,if_false,Bool.false_eq_true])
abbrev R_:=((List (UInt8×Int×Unit)))
def H:Hd:=⟨[.lf (.list (.cons (.int .u8) (.cons (.int .i64) .nil))) none,Si],[.lf (.list (.cons (.int .u8) (.cons (.int .i64) .nil))) (some 57)],(.seq .d (.cut [0,1] [] .d (.seq .d (.cut [0,6] [] .d (.seq .d (.seq .d (.cut [7] [] (.blk (.loop [7,8] [] (.seq .d (.blk (.mode false))))) .d))))))),kt [F147.k] true,[],f77⟩
def t8(b:Int)(a:List (UInt8×Int×Unit)):S:=⟨[(7,.own 0),(8,vi b)],[.arr 57 (.cons (.int .u8) (.cons (.int .i64) .nil)) a],[]⟩
def z8:Nat->S->Option R_:=H.i P_ [r,r,r,r,r,r,l,d]
theorem i8:∀(q:Nat) (b:Int) (a:List (UInt8×Int×Unit)),z8 q (t8 b a)=Da q b a:=
 ind (λ_ _=>by kernel_rfl) λq ih b a=>Eq.trans (b:=Cu Et (λb a=>(z8 q) (t8 b a)) b a) A3 (by rw[Ii];simp only[ih]<;>rfl)
def k:Kc P_ gl:=⟨(77,⟨H.p,H.r,u2 Gc⟩),co H func77 (λx=>Eq.trans (b:=u2 (Fb (Fh (Fc (λb a=>z8 Bl (t8 b a))))) x) A3 (by simp only[i8,Am]<;>rfl))⟩
end F77
namespace F28
def H:Hd:=⟨[Si,Si,Si],[.lf (.list (.cons (.int .u8) (.cons (.int .i64) .nil))) (some 57),Si],.d,kt [F77.k] false,[],f28⟩
def k:Kc P_ gl:=⟨(28,⟨H.p,H.r,u3 Dx⟩),co H func28⟩
end F28
namespace F29
def H:Hd:=⟨[],[.agg [Si,Si]],.d,kt [] false,[],f29⟩
def k:Kc P_ gl:=⟨(29,⟨H.p,H.r,λ_=>Li⟩),co H func29⟩
end F29
namespace F31
abbrev R_:=LB
def H:Hd:=⟨[.lf (.list (.cons (.int .i64) (.cons (.list (.int .u8)) .nil))) none],[Ob 5],(.seq .d (.seq .d (.cut [3] [] (.seq .d (.blk (.loop [3,6,7,8] [⟨3,[],.own 5 (.int .u8)⟩] .d))) .d))),kt [] false,[],f31⟩
def t4(a:List (Int×LB×Unit))(f:Int)(b:LB):S:=⟨[(3,.own 0),(6,.val (.list (.cons (.int .i64) (.cons (.list (.int .u8)) .nil))) a),(7,vi (Aa a)),(8,vi f)],[Ab 5 b],[]⟩
def z4:Nat->S->Option R_:=H.i P_ [r,r,l,r,d]
theorem i4(a:List (Int×LB×Unit)):∀(q:Nat) (f:Int) (b:LB),z4 q (t4 a f b)=Mp a q f b:=
 ind (λ_ _=>by kernel_rfl) λq ih f b=>Eq.trans (b:=Wk Vk (λf b=>(z4 q) (t4 a f b)) a f b) A3 (by simp only[ih]<;>rfl)
def k:Kc P_ gl:=⟨(31,⟨H.p,H.r,Ag⟩),co H func31 (λx=>Eq.trans (b:=Vj (λa f b=>z4 Bl (t4 a f b)) x) A3 (by simp only[i4,Am]<;>rfl))⟩
end F31
namespace F32
def H:Hd:=⟨[],[Sz],.d,kt [F26.k,F28.k,F29.k,F31.k] false,[],f32⟩
def k:Kc P_ gl:=⟨(32,⟨H.p,H.r,λ_=>Gu⟩),co H func32⟩
end F32
namespace F5
abbrev R_:=Bool
def H:Hd:=⟨[],[Sz],(.seq .d (.seq .d (.cut [] [] (.seq .d (.blk (.loop [1,2] [] .d))) (.seq .d (.seq .d (.cut [3,4] [] (.seq .d (.blk (.loop [3,4,5] [] .d))) (.seq .d (.seq .d (.seq .d (.seq .d (.seq .d (.seq .d (.seq .d (.seq .d (.seq .d (.seq .d (.seq .d (.seq .d (.seq .d (.cut [3,4,8,11,13,15,17,19,21,23,25,26,27,28,29,33] [] .d (.seq .d (.seq .d (.cut [3,4,8,11,13,15,17,19,21,23,25,26,27,28,29,33,37] [] .d .d))))))))))))))))))))))),kt [F25.k,F26.k,F27.k,F28.k,F29.k,F30.k,F31.k,F32.k] false,[],f5⟩
def t12(b:List (UInt8×Int×Unit))(ab:Int)(a:List (UInt8×Int×Unit)):S:=⟨[(3,.own 0),(4,.own 1),(5,vi ab)],[.arr 57 (.cons (.int .u8) (.cons (.int .i64) .nil)) b,.arr 57 (.cons (.int .u8) (.cons (.int .i64) .nil)) a],[]⟩
def z12:Nat->S->Option R_:=H.i P_ [r,r,r,r,r,l,r,d]
def t9(ac:Int):S:=⟨[(1,.own 0),(2,vi ac)],[.arr 57 (.cons (.int .u8) (.cons (.int .i64) .nil)) ([((0:UInt8),(0:Int),()),((4:UInt8),(0:Int),()),((1:UInt8),(-1:Int),()),((2:UInt8),(100001:Int),()),((3:UInt8),(1:Int),()),((3:UInt8),(-1:Int),())]:List (UInt8×Int×Unit))],[]⟩
def z9:Nat->S->Option R_:=H.i P_ [r,r,l,r,d]
def x16(a:List (UInt8×Int×Unit))(f g h k m n o p u v w:Int)(ae:Bool)(b y aa:List (UInt8×Int×Unit))(ai:Bool):Option R_:=H.e P_ [r,r,r,r,r,r,r,r,r,r,r,r,r,r,r,r,r,r,r,r,r,r,r] ⟨[(3,.own 0),(4,.val (.list (.cons (.int .u8) (.cons (.int .i64) .nil))) a),(8,vi f),(11,vi g),(13,vi h),(15,vi k),(17,vi m),(19,vi n),(21,vi o),(23,vi p),(25,vi u),(26,.own 1),(27,vi v),(28,.own 2),(29,vi w),(33,vt ae),(37,vt ai)],[.arr 57 (.cons (.int .u8) (.cons (.int .i64) .nil)) b,.arr 57 (.cons (.int .u8) (.cons (.int .i64) .nil)) y,.arr 57 (.cons (.int .u8) (.cons (.int .i64) .nil)) aa],[]⟩
def x15(a:List (UInt8×Int×Unit))(f g h k m n o p u v w:Int)(b y aa:List (UInt8×Int×Unit))(ae:Bool):Option R_:=H.e P_ [r,r,r,r,r,r,r,r,r,r,r,r,r,r,r,r,r,r,r,r] ⟨[(3,.own 0),(4,.val (.list (.cons (.int .u8) (.cons (.int .i64) .nil))) a),(8,vi f),(11,vi g),(13,vi h),(15,vi k),(17,vi m),(19,vi n),(21,vi o),(23,vi p),(25,vi u),(26,.own 1),(27,vi v),(28,.own 2),(29,vi w),(33,vt ae)],[.arr 57 (.cons (.int .u8) (.cons (.int .i64) .nil)) b,.arr 57 (.cons (.int .u8) (.cons (.int .i64) .nil)) y,.arr 57 (.cons (.int .u8) (.cons (.int .i64) .nil)) aa],[]⟩
def x12(b:List (UInt8×Int×Unit))(ab:Int)(a:List (UInt8×Int×Unit)):Option R_:=H.e P_ [r,r,r,r,r,l,r,d] (t12 b ab a)
theorem e16:x16=Ha:=A3
theorem e15:x15=He:=Eq.trans (b:=Hb x16) A3 (by simp only[e16]<;>rfl)
theorem i12(b:List (UInt8×Int×Unit)):∀(q:Nat) (ab:Int) (a:List (UInt8×Int×Unit)),z12 q (t12 b ab a)=Ek b q ab a:=
 ind (λ_ _=>by kernel_rfl) λq ih ab a=>Eq.trans (b:=Hf (Hc x15) (λab a=>(z12 q) (t12 b ab a)) b ab a) A3 (by simp only[e15,ih]<;>rfl)
theorem e12:x12=Hg:=by funext b ab a;exact Eq.trans A3 ((i12 b Bl ab a).trans (by rw[Am];rfl))
theorem i9:∀(q:Nat) (ac:Int),z9 q (t9 ac)=Er q ac:=
 ind (λ_=>by kernel_rfl) λq ih ac=>Eq.trans (b:=Ht (Gy x12) (λac=>(z9 q) (t9 ac)) ac) A3 (by simp only[e12,ih]<;>rfl)
def k:Kc P_ gl:=⟨(5,⟨H.p,H.r,λ_=>Jl⟩),co H func5 (λx=>Eq.trans (b:=Hw (λac=>z9 Bl (t9 ac))) A3 (by simp only[i9,Am]<;>rfl))⟩
end F5
end
end Go.Proofs.YtmnpghdjdepelaaGreatDoor
