/- A part of a proof (see the text that ends in Proof). No conditions. -/
import Derived.Test.YtmnpghdjdepelaaGreatDoorMnHA
set_option linter.unusedVariables false
set_option linter.unusedSimpArgs false
set_option maxRecDepth 10000
namespace Go.Proofs.YtmnpghdjdepelaaGreatDoor
open Go Go.Lv Go.Pl Go.Rx Go.Rx.PS
noncomputable section
def g0:List Value:=[.bool true,.int .i64 0]
def g1:List Value:=[.int .i64 2,.int .i64 2,.int .i64 2,.int .i64 4,.int .i64 4]
def g3:List Value:=[.bool false,.int .i64 0]
def g6:List Value:=[.int .u8 0,.int .u8 1,.int .u8 56,.int .u8 2,.int .u8 57,.int .u8 49,.int .u8 28,.int .u8 3,.int .u8 61,.int .u8 58,.int .u8 42,.int .u8 50,.int .u8 38,.int .u8 29,.int .u8 17,.int .u8 4,.int .u8 62,.int .u8 47,.int .u8 59,.int .u8 36,.int .u8 45,.int .u8 43,.int .u8 51,.int .u8 22,.int .u8 53,.int .u8 39,.int .u8 33,.int .u8 30,.int .u8 24,.int .u8 18,.int .u8 12,.int .u8 5,.int .u8 63,.int .u8 55,.int .u8 48,.int .u8 27,.int .u8 60,.int .u8 41,.int .u8 37,.int .u8 16,.int .u8 46,.int .u8 35,.int .u8 44,.int .u8 21,.int .u8 52,.int .u8 32,.int .u8 23,.int .u8 11,.int .u8 54,.int .u8 26,.int .u8 40,.int .u8 15,.int .u8 34,.int .u8 20,.int .u8 31,.int .u8 10,.int .u8 25,.int .u8 14,.int .u8 19,.int .u8 9,.int .u8 13,.int .u8 8,.int .u8 7,.int .u8 6]
def gl:List (Nat×List Value):=[(0,g0),(1,g1),(3,g3),(6,g6)]
theorem mixed:Tryz.prog.follows .mixedOrders=true:=F0
noncomputable abbrev P_:=Tryz.prog
noncomputable def kt(l:List (Kc P_ gl))(v:Bool)(c:Bool:=false):=vT l v c
theorem co(H:Hd){f:Nat}{F:La (Gw H.p)->Option (La (Gw H.r))}(hf:P_.funcs[f]? =some H.f)(h:∀x,H.u P_ x=F x:=by intro x;kernel_rfl)(hT:Lt P_ H.T:=by exact lJ _ _ _)(hb:xS P_ H=true:=by kernel_rfl):ConOk P_ H.T.gl f ⟨H.p,H.r,F⟩:=Hd.cn mixed H hf hT hb h
theorem ent116:Ent Tryz.prog 116:=Ent.mk Tryz.func116 F0 rfl
abbrev u2{A B R:Type}(f:A->B->R)(x:A×B):=f x.1 x.2
abbrev u3{A B C R:Type}(f:A->B->C->R):=u2 λa=>u2 (f a)
abbrev u4{A B C D R:Type}(f:A->B->C->D->R):=u2 λa=>u3 (f a)
abbrev u5{A B C D E R:Type}(f:A->B->C->D->E->R):=u2 λa=>u4 (f a)
abbrev u6{A B C D E F R:Type}(f:A->B->C->D->E->F->R):=u2 λa=>u5 (f a)
abbrev u7{A B C D E F G R:Type}(f:A->B->C->D->E->F->G->R):=u2 λa=>u6 (f a)
abbrev u8{A B C D E F G H R:Type}(f:A->B->C->D->E->F->G->H->R):=u2 λa=>u7 (f a)
abbrev u9{A B C D E F G H I R:Type}(f:A->B->C->D->E->F->G->H->I->R):=u2 λa=>u8 (f a)
abbrev rU{A B C D E F G H I J R:Type}(f:A->B->C->D->E->F->G->H->I->J->R):=u2 λa=>u9 (f a)
abbrev qK{A B C D E F G H I J K R:Type}(f:A->B->C->D->E->F->G->H->I->J->K->R):=u2 λa=>rU (f a)
abbrev nM{A B C D E F G H I J K L R:Type}(f:A->B->C->D->E->F->G->H->I->J->K->L->R):=u2 λa=>qK (f a)
abbrev xM{A B C D E F G H I J K L M R:Type}(f:A->B->C->D->E->F->G->H->I->J->K->L->M->R):=u2 λa=>nM (f a)
open Go.Proofs.Tryz
namespace F198
def H:Hd:=⟨[Si],[Si,Si],.d,kt [] false,[],f198⟩
def k:Kc P_ gl:=⟨(198,⟨H.p,H.r,Km⟩),co H func198⟩
end F198
namespace F152
abbrev R_:=(Int32×Int32×Int)
def H:Hd:=⟨[Si],[Sx,Sx,Si],(.seq .d (.seq (.seq .d (.blk (.cut [0,7] [] .d .d))) .d)),kt [] false,[],f152⟩
def k:Kc P_ gl:=⟨(152,⟨H.p,H.r,Ud⟩),co H func152⟩
end F152
namespace F191
def H:Hd:=⟨[.agg [Si,Si]],[Si],.d,kt [F152.k] false,[],f191⟩
def k:Kc P_ gl:=⟨(191,⟨H.p,H.r,u2 Jc⟩),co H func191⟩
end F191
namespace F130
def H:Hd:=⟨[.agg [Si,Si],Si,Ss],[Si,Sz],.d,kt [F191.k,F198.k] false,[],f130⟩
def k:Kc P_ gl:=⟨(130,⟨H.p,H.r,u4 Uv⟩),co H func130⟩
end F130
namespace F132
def H:Hd:=⟨[.agg [Si,Si]],[Si],.d,kt [] false,[],f132⟩
def k:Kc P_ gl:=⟨(132,⟨H.p,H.r,u2 Qk⟩),co H func132⟩
end F132
namespace F151
abbrev R_:=Int
def H:Hd:=⟨[Si,Sw],[Si],(.seq .d (.seq .d (.seq .d (.seq .d (.cut [] [] (.seq .d (.blk (.loop [5,6,22,23,24] [] .d))) .d))))),kt [F152.k] false,[],f151⟩
def t4(b f:Int32)(a:LX)(g:Int):S:=⟨[(5,vx b),(6,vx f),(22,vw a),(23,vi (Aa a)),(24,vi g)],[],[]⟩
def z4:Nat->S->Option R_:=H.i P_ [r,r,r,r,l,r,d]
theorem i4(b f:Int32)(a:LX):∀(q:Nat) (g:Int),z4 q (t4 b f a g)=Qh b f a q g:=
 ind (λ_=>by kernel_rfl) λq ih g=>Eq.trans (b:=BA CY (λg=>(z4 q) (t4 b f a g)) b f a g) F0 (by simp only[ih]<;>rfl)
def k:Kc P_ gl:=⟨(151,⟨H.p,H.r,u2 Ki⟩),co H func151 (λx=>Eq.trans (b:=u2 (CU (λb f a g=>z4 Bi (t4 b f a g))) x) F0 (by simp only[i4,Ah]<;>rfl))⟩
end F151
namespace F135
def H:Hd:=⟨[.agg [.agg [Si,Si],Si,Ss,Sb,Sw,.lf (.list (.list (.int .u8))) none,Sb,Sz,Si],Si],[Si],.d,kt [] false,[],f135⟩
def k:Kc P_ gl:=⟨(135,⟨H.p,H.r,qK Mr⟩),co H func135⟩
end F135
namespace F134
def H:Hd:=⟨[.agg [.agg [Si,Si],Si,Ss,Sb,Sw,.lf (.list (.list (.int .u8))) none,Sb,Sz,Si],Si,Si],[Sz],.d,kt [] false,[],f134⟩
def k:Kc P_ gl:=⟨(134,⟨H.p,H.r,nM Ye⟩),co H func134⟩
end F134
namespace F149
abbrev R_:=Bool
abbrev K_:=S->Option R_
def H:Hd:=⟨[.agg [.agg [Si,Si],Si,Ss,Sb,Sw,.lf (.list (.list (.int .u8))) none,Sb,Sz,Si],Si],[Sz],(.seq .d (.seq .d (.cut [1,2,5] [] .d (.seq .d (.seq .d (.cut [1,2,5,6] [] .d (.cut [1,2,5] [] .d (.seq .d (.cut [4] [] (.keep [4,80,81] true) .d))))))))),kt [F132.k,F134.k,F135.k,F151.k] false,[(203,(.seq .d (.cut [4] [] (.keep [4,7,8] true) .d))),(204,.d),(246,(.seq .d (.cut [] [] (.seq .d (.blk (.loop [0,1,7,8] [] (.seq .d (.seq .d (.cut [0,1,7,8] [] (.blk (.seq .d (.cut [0,1,5,7,8,16] [] (.keep [0,1,5,7,8,16] true) .d))) .d)))))) .d)))],f149⟩
def t16(b:List LB)(f a h:Int):S:=⟨[(0,.val (.list (.list (.int .u8))) b),(1,.fn 204 [.ptr 0 []]),(7,vi (Aa b)),(8,vi h)],[.box 3 (vi (Ac (Fx (Ac (Da (Da (81:Int) f) a) (7:Int)) (8:Int)) (4:Int)))],[[(4,vt false)],[]]⟩
def z16:Nat->S->Option R_:=H.i P_ [r,r,r,r,r,r,r,r,l,(call 3 203),r,l,(call 2 246),r,l,r,d]
def x13(f a k o:Int)(p m:LB)(g:LX)(b:List LB)(n:LB)(u:Bool)(v:Int):Option R_:=H.e P_ [r,r,r] ⟨[(1,vi f),(2,.ptr 0 []),(5,vi a)],[.box 64 (.agg [.agg [vi a,vi k],vi o,vs p,vb m,vw g,.val (.list (.list (.int .u8))) b,vb n,vt u,vi v])],[]⟩
theorem i16(b:List LB)(f a:Int):∀(q:Nat) (h:Int),z16 q (t16 b f a h)=Io b f a q h:=
 ind (λ_=>by kernel_rfl) λq ih h=>Eq.trans (b:=Oy (Oo (λh=>(z16 q) (t16 b f a h)) b f a) Ox b f a h) F0 (by simp only[ih]<;>rfl)
theorem e13:x13=Ou:=Eq.trans (b:=Oz (Ot (On (λb f a h=>z16 Bi (t16 b f a h))))) F0 (by simp only[i16,Ah]<;>rfl)
def k:Kc P_ gl:=⟨(149,⟨H.p,H.r,qK Zd⟩),co H func149 (λx=>Eq.trans (b:=qK (Qm x13) x) F0 (by simp only[e13]<;>rfl))⟩
end F149
namespace F81
def H:Hd:=⟨[.agg [.agg [Si,Si],Si,Ss,Sb,Sw,.lf (.list (.list (.int .u8))) none,Sb,Sz,Si]],[Si],.d,kt [F130.k,F149.k] false,[],f81⟩
def k:Kc P_ gl:=⟨(81,⟨H.p,H.r,rU Ms⟩),co H func81⟩
end F81
namespace F82
abbrev R_:=Int
def H:Hd:=⟨[.agg [.agg [Si,Si],Si,Ss,Sb,Sw,.lf (.list (.list (.int .u8))) none,Sb,Sz,Si]],[Si],(.seq .d (.seq .d (.cut [3] [] (.seq .d (.blk (.loop [3,19,20,21] [] .d))) .d))),kt [] false,[],f82⟩
def t4(a:List LB)(b f:Int):S:=⟨[(3,vi b),(19,.val (.list (.list (.int .u8))) a),(20,vi (Aa a)),(21,vi f)],[],[]⟩
def z4:Nat->S->Option R_:=H.i P_ [r,r,l,r,d]
theorem i4(a:List LB):∀(q:Nat) (b f:Int),z4 q (t4 a b f)=Nr a q b f:=
 ind (λ_ _=>by kernel_rfl) λq ih b f=>Eq.trans (b:=Zx Yr (λb f=>(z4 q) (t4 a b f)) a b f) F0 (by simp only[ih]<;>rfl)
def k:Kc P_ gl:=⟨(82,⟨H.p,H.r,rU Xb⟩),co H func82 (λx=>Eq.trans (b:=rU (Zl (λa b f=>z4 Bi (t4 a b f))) x) F0 (by simp only[i4,Ah]<;>rfl))⟩
end F82
namespace F33
def H:Hd:=⟨[.agg [.agg [Si,Si],Si,Ss,Sb,Sw,.lf (.list (.list (.int .u8))) none,Sb,Sz,Si]],[Si,Si],.d,kt [F81.k,F82.k] false,[],f33⟩
def k:Kc P_ gl:=⟨(33,⟨H.p,H.r,rU BW⟩),co H func33⟩
end F33
namespace F62
def Nv(a:LB):Option (LB):=
TN a (
some ([]:LB)) (
(Bv ([]:LB) a).bind λb=>
some b)
theorem IM: @Nv= @Kk:=by
  unfold Nv Kk
  repeat (refine funext λ_=>?_)
  repeat' first
    |with_reducible rfl
    |with_reducible refine Dy ?_ ?_
    |with_reducible refine Dx ?_ ?_ ?_
    |with_reducible refine Ea ?_ ?_ ?_ ?_
    |((with_reducible refine Fp ?_ ?_);focus (intro h;first|(subst h;rfl)|(simp only[h];rfl)|(simp[Bv,Aa,h];done)))
    |with_reducible refine Fh λx=>?_
    |with_reducible refine Hn (λ_=>?_) (λ_=>?_)
    |(refine Ci (λh=>by simp only[h,Fm,Br,Bp,ite_self]) (λx h=>?_);(try simp only[h,Br]))
    |(refine Cx (λh=>?_) (λh=>?_)<;>simp only[h,if_true,if_false,Bool.false_eq_true])
def H:Hd:=⟨[Sb],[Ob 5],.d,kt [] false,[],f62⟩
def k:Kc P_ gl:=⟨(62,⟨H.p,H.r,Kk⟩),co H func62 (λx=>Eq.trans (b:=Nv x) F0 (by simp only[IM]<;>rfl))⟩
end F62
namespace F115
def Fu(a:LI):Option (LI):=
TN a (
some ([]:LI)) (
(Bv ([]:LI) a).bind λb=>
some b)
theorem Pk: @Fu= @Fo:=by
  unfold Fu Fo
  repeat (refine funext λ_=>?_)
  repeat' first
    |with_reducible rfl
    |with_reducible refine Dy ?_ ?_
    |with_reducible refine Dx ?_ ?_ ?_
    |with_reducible refine Ea ?_ ?_ ?_ ?_
    |((with_reducible refine Fp ?_ ?_);focus (intro h;first|(subst h;rfl)|(simp only[h];rfl)|(simp[Bv,Aa,h];done)))
    |with_reducible refine Fh λx=>?_
    |with_reducible refine Hn (λ_=>?_) (λ_=>?_)
    |(refine Ci (λh=>by simp only[h,Fm,Br,Bp,ite_self]) (λx h=>?_);(try simp only[h,Br]))
    |(refine Cx (λh=>?_) (λh=>?_)<;>simp only[h,if_true,if_false,Bool.false_eq_true])
def H:Hd:=⟨[Sl],[Ol 3],.d,kt [] false,[],f115⟩
def k:Kc P_ gl:=⟨(115,⟨H.p,H.r,Fo⟩),co H func115 (λx=>Eq.trans (b:=Fu x) F0 (by simp only[Pk]<;>rfl))⟩
end F115
namespace F59
def H:Hd:=⟨[.agg [Ss,Sb,.agg [Si,Si,Si,Si,Si],Sl,Si,Sb,Sz,Si]],[.agg [Ss,Ob 5,.agg [Si,Si,Si,Si,Si],Ol 3,Si,Ob 5,Sz,Si]],.d,kt [F62.k,F115.k] false,[],f59⟩
def k:Kc P_ gl:=⟨(59,⟨H.p,H.r,nM Cv⟩),co H func59⟩
end F59
namespace F180
abbrev R_:=Bool
def H:Hd:=⟨[.agg [Si,Si,Si,Si,Si]],[Sz],(.seq .d (.cut [1] [] .d .d)),kt [] false,[],f180⟩
def k:Kc P_ gl:=⟨(180,⟨H.p,H.r,u5 Uh⟩),co H func180⟩
end F180
namespace F205
def H:Hd:=⟨[Si,Si],[Si,Si],.d,kt [F198.k] false,[],f205⟩
def k:Kc P_ gl:=⟨(205,⟨H.p,H.r,u2 Mv⟩),co H func205⟩
end F205
namespace F181
def H:Hd:=⟨[.agg [Si,Si,Si,Si,Si]],[Sz],.d,kt [F205.k] false,[],f181⟩
def k:Kc P_ gl:=⟨(181,⟨H.p,H.r,u5 DL⟩),co H func181⟩
end F181
namespace F105
def H:Hd:=⟨[.agg [Si,Si,Si,Si,Si]],[Si],.d,kt [F180.k,F181.k] false,[],f105⟩
def k:Kc P_ gl:=⟨(105,⟨H.p,H.r,u5 Xa⟩),co H func105⟩
end F105
namespace F202
def H:Hd:=⟨[Sq,Sq],[Sq,Sq],.d,kt [] false,[],f202⟩
def k:Kc P_ gl:=⟨(202,⟨H.p,H.r,u2 Zn⟩),co H func202⟩
end F202
namespace F147
def H:Hd:=⟨[Sq,Sq],[Sq,Sq],.d,kt [F202.k] false,[],f147⟩
def k:Kc P_ gl:=⟨(147,⟨H.p,H.r,u2 GW⟩),co H func147⟩
end F147
namespace F216
def Fg(j10:LI->Option (LI))(lS:Int->LI->Option (LI))(b:Int)(a:LI):Option (LI):=
if(Cb b (Aa a))then
both (
(YQ (Aa a) b (Aa a)).bind λ_=>
(YQ (Aa a) 0 b).bind λ_=>
lS (Ac b (GL ((Aa a)-b) (CV a 0 (b-(0:Int))).length)) (Jo a b ((Aa a)-b) (CV a 0 (b-(0:Int))))) [
(YQ (Aa a) 0 b).bind λ_=>
(YQ (Aa a) b (Aa a)).bind λ_=>
lS (Ac b (GL ((Aa a)-b) (CV a 0 (b-(0:Int))).length)) (Jo a b ((Aa a)-b) (CV a 0 (b-(0:Int))))]
else
j10 a
theorem Nt: @Fg= @Fq:=by
  unfold Fg Fq
  repeat (refine funext λ_=>?_)
  repeat' first
    |with_reducible rfl
    |with_reducible refine Dy ?_ ?_
    |with_reducible refine Dx ?_ ?_ ?_
    |with_reducible refine Ea ?_ ?_ ?_ ?_
    |((with_reducible refine Fp ?_ ?_);focus (intro h;first|(subst h;rfl)|(simp only[h];rfl)|(simp[Bv,Aa,h];done)))
    |with_reducible refine Fh λx=>?_
    |with_reducible refine Hn (λ_=>?_) (λ_=>?_)
    |(refine Ci (λh=>by simp only[h,Fm,Br,Bp,ite_self]) (λx h=>?_);(try simp only[h,Br]))
    |(refine Cx (λh=>?_) (λh=>?_)<;>simp only[h,if_true,if_false,Bool.false_eq_true])
abbrev R_:=LI
def H:Hd:=⟨[Sl,Si],[Ol 3],(.seq .d (.cut [0,1] [] .d (.seq .d (.cut [0,6] [] .d (.seq .d (.seq .d (.cut [7] [] (.blk (.loop [7,8] [] (.seq .d (.blk (.mode false))))) .d))))))),kt [F147.k] true,[],f216⟩
def t8(b:Int)(a:LI):S:=⟨[(7,.own 0),(8,vi b)],[Ai 3 a],[]⟩
def z8:Nat->S->Option R_:=H.i P_ [r,r,r,r,r,r,l,d]
theorem i8:∀(q:Nat) (b:Int) (a:LI),z8 q (t8 b a)=Fv q b a:=
 ind (λ_ _=>by kernel_rfl) λq ih b a=>Eq.trans (b:=Fg Ic (λb a=>(z8 q) (t8 b a)) b a) F0 (by rw[Nt];simp only[ih]<;>rfl)
def k:Kc P_ gl:=⟨(216,⟨H.p,H.r,u2 Lu⟩),co H func216 (λx=>Eq.trans (b:=u2 (Jd (Is (Je (λb a=>z8 Bi (t8 b a))))) x) F0 (by simp only[i8,Ah]<;>rfl))⟩
end F216
namespace F253
abbrev R_:=LI
def H:Hd:=⟨[.lf (.list (.list (.int .i64))) none],[Ol 3],(.seq .d (.seq .d (.cut [0,3] [] (.seq .d (.blk (.loop [0,3,9,10,11] [] .d))) (.cut [0,6] [⟨6,[],.own 3 (.int .i64)⟩] (.keep [0,3,6,23,24] true) (.cut [6] [] (.seq .d (.blk (.loop [6,25,26,27] [] .d))) .d))))),kt [] true,[(272,(.seq .d (.cut [0,1] [] .d .d)))],f253⟩
def t14(a:List LI)(g:Int)(f:LI):S:=⟨[(6,.own 0),(25,.val (.list (.list (.int .i64))) a),(26,vi (Aa a)),(27,vi g)],[Ai 3 f],[]⟩
def z14:Nat->S->Option R_:=H.i P_ [r,r,r,r,l,r,d]
def t9(a:List LI)(b h:Int):S:=⟨[(0,.val (.list (.list (.int .i64))) a),(3,vi b),(9,.val (.list (.list (.int .i64))) a),(10,vi (Aa a)),(11,vi h)],[],[]⟩
def z9:Nat->S->Option R_:=H.i P_ [r,r,l,r,d]
def x14(a:List LI)(g:Int)(f:LI):Option R_:=H.e P_ [r,r,r,r,l,r,d] (t14 a g f)
theorem i14(a:List LI):∀(q:Nat) (g:Int) (f:LI),z14 q (t14 a g f)=Ff a q g f:=
 ind (λ_ _=>by kernel_rfl) λq ih g f=>Eq.trans (b:=Ie Ii (λg f=>(z14 q) (t14 a g f)) a g f) F0 (by simp only[ih]<;>rfl)
theorem e14:x14=Ih:=by funext a g f;exact Eq.trans F0 ((i14 a Bi g f).trans (by rw[Ah];rfl))
theorem i9(a:List LI):∀(q:Nat) (b h:Int),z9 q (t9 a b h)=Fs a q b h:=
 ind (λ_ _=>by kernel_rfl) λq ih b h=>Eq.trans (b:=Iu (Ij (Ig (If x14))) (λb h=>(z9 q) (t9 a b h)) a b h) F0 (by simp only[e14,ih]<;>rfl)
def k:Kc P_ gl:=⟨(253,⟨H.p,H.r,Ls⟩),co H func253 (λx=>Eq.trans (b:=Iz (λa b h=>z9 Bi (t9 a b h)) x) F0 (by simp only[i9,Ah]<;>rfl))⟩
end F253
namespace F217
def H:Hd:=⟨[Sl,Sl],[Ol 3],.d,kt [F253.k] false,[],f217⟩
def k:Kc P_ gl:=⟨(217,⟨H.p,H.r,u2 CI⟩),co H func217⟩
end F217
namespace F174
def H:Hd:=⟨[Si,Si],[Ol 3,Si],.d,kt [F198.k,F205.k,F216.k,F217.k] false,[],f174⟩
def k:Kc P_ gl:=⟨(174,⟨H.p,H.r,u2 Nb⟩),co H func174⟩
end F174
namespace F119
def H:Hd:=⟨[.agg [Si,Si,Si,Si,Si]],[Ol 3,Si],.d,kt [F105.k,F174.k] false,[],f119⟩
def k:Kc P_ gl:=⟨(119,⟨H.p,H.r,u5 Ep⟩),co H func119⟩
end F119
namespace F120
def H:Hd:=⟨[.agg [Si,Si,Si,Si,Si],Ss],[Si],.d,kt [] false,[],f120⟩
def k:Kc P_ gl:=⟨(120,⟨H.p,H.r,u6 Kx⟩),co H func120⟩
end F120
namespace F109
abbrev R_:=Int
def H:Hd:=⟨[Sl],[Si],(.seq .d (.seq .d (.seq .d (.cut [] [] (.seq .d (.blk (.loop [3,14,15,16] [] .d))) .d)))),kt [] false,[],f109⟩
def t4(a:LI)(f b:Int):S:=⟨[(3,vi f),(14,vl a),(15,vi (Aa a)),(16,vi b)],[],[]⟩
def z4:Nat->S->Option R_:=H.i P_ [r,r,r,l,r,d]
theorem i4(a:LI):∀(q:Nat) (f b:Int),z4 q (t4 a f b)=Qs a q f b:=
 ind (λ_ _=>by kernel_rfl) λq ih f b=>Eq.trans (b:=DX EC (λf b=>(z4 q) (t4 a f b)) a f b) F0 (by simp only[ih]<;>rfl)
def k:Kc P_ gl:=⟨(109,⟨H.p,H.r,Ua⟩),co H func109 (λx=>Eq.trans (b:=DB (λa f b=>z4 Bi (t4 a f b)) x) F0 (by simp only[i4,Ah]<;>rfl))⟩
end F109
namespace F63
abbrev R_:=Bool
def H:Hd:=⟨[.agg [Ss,Sb,.agg [Si,Si,Si,Si,Si],Sl,Si,Sb,Sz,Si]],[Sz],(.seq .d (.seq .d (.seq .d (.cut [1,3] [] .d (.seq .d (.seq .d (.seq .d (.cut [1,5] [] (.seq .d (.blk (.loop [1,5,83,84,85] [] .d))) .d)))))))),kt [F109.k,F119.k,F120.k] false,[],f63⟩
def t6(w:LI)(o p:LB)(h b f k m:Int)(g:LI)(a:Int)(n:LB)(u:Bool)(v y aa:Int):S:=⟨[(1,.ptr 0 []),(5,vi y),(83,vl w),(84,vi (Aa w)),(85,vi aa)],[.box 28 (.agg [vs o,vb p,.agg [vi h,vi b,vi f,vi k,vi m],vl g,vi a,vb n,vt u,vi v])],[]⟩
def z6:Nat->S->Option R_:=H.i P_ [r,r,r,r,r,r,r,l,r,d]
theorem i6(w:LI)(o p:LB)(h b f k m:Int)(g:LI)(a:Int)(n:LB)(u:Bool)(v:Int):∀(q:Nat) (y aa:Int),z6 q (t6 w o p h b f k m g a n u v y aa)=Nq w o p h b f k m g a n u v q y aa:=
 ind (λ_ _=>by kernel_rfl) λq ih y aa=>Eq.trans (b:=Ys Zq (λy aa=>(z6 q) (t6 w o p h b f k m g a n u v y aa)) w o p h b f k m g a n u v y aa) F0 (by simp only[ih]<;>rfl)
def k:Kc P_ gl:=⟨(63,⟨H.p,H.r,nM Xg⟩),co H func63 (λx=>Eq.trans (b:=nM (Zw (Zp (λw o p h b f k m g a n u v y aa=>z6 Bi (t6 w o p h b f k m g a n u v y aa)))) x) F0 (by simp only[i6,Ah]<;>rfl))⟩
end F63
namespace F158
def H:Hd:=⟨[Sb,Sb],[Sz],.d,kt [] false,[],f158⟩
def k:Kc P_ gl:=⟨(158,⟨H.p,H.r,u2 Hu⟩),co H func158⟩
end F158
namespace F235
def H:Hd:=⟨[Sb,Sb],[Sz],.d,kt [F158.k] false,[],f235⟩
def k:Kc P_ gl:=⟨(235,⟨H.p,H.r,u2 Gt⟩),co H func235⟩
end F235
namespace F278
abbrev R_:=(Int×Int)
def H:Hd:=⟨[Sb],[Si,Si],(.seq .d (.seq .d (.seq .d (.cut [4] [] (.seq .d (.blk (.loop [4,10,11,12] [] .d))) .d)))),kt [] false,[],f278⟩
def t4(a:LB)(b f:Int):S:=⟨[(4,vi b),(10,vb a),(11,vi (Aa a)),(12,vi f)],[],[]⟩
def z4:Nat->S->Option R_:=H.i P_ [r,r,r,l,r,d]
theorem i4(a:LB):∀(q:Nat) (b f:Int),z4 q (t4 a b f)=Mb a q b f:=
 ind (λ_ _=>by kernel_rfl) λq ih b f=>Eq.trans (b:=Vw Wo (λb f=>(z4 q) (t4 a b f)) a b f) F0 (by simp only[ih]<;>rfl)
def k:Kc P_ gl:=⟨(278,⟨H.p,H.r,GD⟩),co H func278 (λx=>Eq.trans (b:=Wn (λa b f=>z4 Bi (t4 a b f)) x) F0 (by simp only[i4,Ah]<;>rfl))⟩
end F278
namespace F265
def Mh(j5:LB->UInt8->UInt8->Option (Int×Int))(a:LB):Option (Int×Int):=
(Gt a ([(73:UInt8),(68:UInt8),(51:UInt8)]:LB)).bind λn=>
if(!n)then
some (0,6)
else
if(Cb (Aa a) 10)then
some (0,24)
else
(Al a 3).bind λf=>
(Al a 5).bind λb=>
(λo:Option (Int×Int)=>
(λp:Option (Int×Int)=>
both (
both (
bo (
j5 a f b)) [
o,
o]) [
yT (
bo (
j5 a f b)),
p,
p]) (
both (
o) [
bo (
j5 a f b),
both (
bo (
j5 a f b)) [
j5 a f b]])) (
both (
j5 a f b) [
bo (
j5 a f b)])
theorem EW: @Mh= @Nw:=by
  unfold Mh Nw
  try simp only[Nn,Hm,Ht]
  all_goals
    repeat (refine funext λ_=>?_)
    repeat' first
      |with_reducible rfl
      |with_reducible refine Dy ?_ ?_
      |with_reducible refine Dx ?_ ?_ ?_
      |with_reducible refine Ea ?_ ?_ ?_ ?_
      |((with_reducible refine Fp ?_ ?_);focus (intro h;first|(subst h;rfl)|(simp only[h];rfl)|(simp[Bv,Aa,h];done)))
      |with_reducible refine Fh λx=>?_
      |with_reducible refine Hn (λ_=>?_) (λ_=>?_)
      |(refine Ci (λh=>by simp only[h,Fm,Br,Bp,ite_self]) (λx h=>?_);(try simp only[h,Br]))
      |(refine Cx (λh=>?_) (λh=>?_)<;>simp only[h,if_true,if_false,Bool.false_eq_true])
abbrev R_:=(Int×Int)
def H:Hd:=⟨[Sb],[Si,Si],(.seq .d (.seq .d (.seq .d (.cut [0,4,5] [] (.mode false) (.seq .d (.seq .d (.cut [0,5,6] [] (.cut [0,5,6,43] [] (.keep [0,5,6,7,8,31,32,33,34,35,36,37,38,39,40,41,42,43] true) .d) (.seq .d (.cut [0,5,6] [] .d .d))))))))),kt [F158.k,F235.k,F278.k] false,[(279,.d)],f265⟩
def x6(a:LB)(g:Int)(b:UInt8)(m:Bool):Option R_:=H.e P_ [r,r,r,r,r,r,l,r] ⟨[(0,vb a),(5,.ptr 0 []),(6,vi g),(43,vt m)],[.box 5 (vc b)],[]⟩
def x5(a:LB)(f b:UInt8):Option R_:=H.e P_ [r,r,r,r] ⟨[(0,vb a),(4,.ptr 0 []),(5,.ptr 1 [])],[.box 5 (vc f),.box 5 (vc b)],[]⟩
theorem e6:x6=Yp:=F0
theorem e5:x5=Zb:=Eq.trans (b:=AD x6) F0 (by simp only[e6]<;>rfl)
def k:Kc P_ gl:=⟨(265,⟨H.p,H.r,JG⟩),co H func265 (λx=>Eq.trans (b:=Mh x5 x) F0 (by rw[EW];simp only[e5]<;>rfl))⟩
end F265
namespace F206
abbrev R_:=(UInt64×Int)
def H:Hd:=⟨[Sb],[Sq,Si],(.seq .d (.seq .d (.seq .d (.cut [4] [] (.seq .d (.blk (.loop [4,15,16,17] [] .d))) .d)))),kt [] false,[],f206⟩
def t4(a:LB)(f:UInt64)(b:Int):S:=⟨[(4,vq f),(15,vb a),(16,vi (Aa a)),(17,vi b)],[],[]⟩
def z4:Nat->S->Option R_:=H.i P_ [r,r,r,l,r,d]
theorem i4(a:LB):∀(q:Nat) (f:UInt64) (b:Int),z4 q (t4 a f b)=AW a q f b:=
 ind (λ_ _=>by kernel_rfl) λq ih f b=>Eq.trans (b:=QW QR (λf b=>(z4 q) (t4 a f b)) a f b) F0 (by simp only[ih]<;>rfl)
def k:Kc P_ gl:=⟨(206,⟨H.p,H.r,UT⟩),co H func206 (λx=>Eq.trans (b:=RL (λa f b=>z4 Bi (t4 a f b)) x) F0 (by simp only[i4,Ah]<;>rfl))⟩
end F206
namespace F153
def H:Hd:=⟨[Sb,Si,Si],[Sq,Si],.d,kt [F206.k] false,[],f153⟩
def k:Kc P_ gl:=⟨(153,⟨H.p,H.r,u3 XL⟩),co H func153⟩
end F153
namespace F182
def H:Hd:=⟨[Sq,Si],[Sz],.d,kt [] false,[],f182⟩
def k:Kc P_ gl:=⟨(182,⟨H.p,H.r,u2 lC⟩),co H func182⟩
end F182
namespace F106
abbrev R_:=(LB×Int)
def H:Hd:=⟨[Sq,Si],[Ob 5,Si],(.seq .d (.seq .d (.seq .d (.seq .d (.cut [6] [] (.seq .d (.blk (.loop [0,6,21,22] [] .d))) .d))))),kt [F182.k] false,[],f106⟩
def t4(f:UInt64)(g:LB)(a:Int)(b:LB):S:=⟨[(0,vq f),(6,.own 0),(21,vi (Aa g)),(22,vi a)],[Ab 5 b],[]⟩
def z4:Nat->S->Option R_:=H.i P_ [r,r,r,r,l,r,d]
theorem i4(f:UInt64)(g:LB):∀(q:Nat) (a:Int) (b:LB),z4 q (t4 f g a b)=CR f g q a b:=
 ind (λ_ _=>by kernel_rfl) λq ih a b=>Eq.trans (b:=QS QL (λa b=>(z4 q) (t4 f g a b)) f g a b) F0 (by simp only[ih]<;>rfl)
def k:Kc P_ gl:=⟨(106,⟨H.p,H.r,u2 Mz⟩),co H func106 (λx=>Eq.trans (b:=u2 (QY (λf g a b=>z4 Bi (t4 f g a b))) x) F0 (by simp only[i4,Ah]<;>rfl))⟩
end F106
namespace F237
abbrev R_:=LB
def H:Hd:=⟨[Si,Si,Sq],[Ob 5],(.seq .d (.seq .d (.cut [7] [] (.seq .d (.blk (.loop [7,20,21,22] [] .d))) .d))),kt [F106.k] false,[],f237⟩
def t4(a b:Int)(f:UInt64)(h:Int)(g:LB):S:=⟨[(7,.own 0),(20,.own 1),(21,vi (Aa ([(2000:UInt64),(Ap (Ac a (32:Int)):UInt64),(Ap b:UInt64),f,(0:UInt64),(0:UInt64)]:LQ))),(22,vi h)],[Ab 5 g,.arr 167 (.int .u64) ([(2000:UInt64),(Ap (Ac a (32:Int)):UInt64),(Ap b:UInt64),f,(0:UInt64),(0:UInt64)]:LQ)],[]⟩
def z4:Nat->S->Option R_:=H.i P_ [r,r,l,r,d]
theorem i4(a b:Int)(f:UInt64):∀(q:Nat) (h:Int) (g:LB),z4 q (t4 a b f h g)=IW a b f q h g:=
 ind (λ_ _=>by kernel_rfl) λq ih h g=>Eq.trans (b:=VX VS (λh g=>(z4 q) (t4 a b f h g)) a b f h g) F0 (by simp only[ih]<;>rfl)
def k:Kc P_ gl:=⟨(237,⟨H.p,H.r,u3 TG⟩),co H func237 (λx=>Eq.trans (b:=u3 (XT (λa b f h g=>z4 Bi (t4 a b f h g))) x) F0 (by simp only[i4,Ah]<;>rfl))⟩
end F237
namespace F236
def H:Hd:=⟨[Sb,Sq],[.agg [Si,Si],Sz],.d,kt [F153.k,F158.k,F237.k] false,[],f236⟩
def k:Kc P_ gl:=⟨(236,⟨H.p,H.r,u2 EI⟩),co H func236⟩
end F236
namespace F266
def H:Hd:=⟨[Sb],[Si,Si],.d,kt [F158.k,F235.k,F236.k,F237.k] false,[],f266⟩
def k:Kc P_ gl:=⟨(266,⟨H.p,H.r,aG⟩),co H func266⟩
end F266
namespace F233
def H:Hd:=⟨[Sb],[Si,Si],.d,kt [F265.k,F266.k] false,[],f233⟩
def k:Kc P_ gl:=⟨(233,⟨H.p,H.r,Mg⟩),co H func233⟩
end F233
theorem Rl:ConOk Tryz.prog gl 116 Ji:=WZ ent116 F233.k.2
namespace F114
def H:Hd:=⟨[Si],[.agg [Sz,Si]],.d,kt [] false,[],f114⟩
def k:Kc P_ gl:=⟨(114,⟨H.p,H.r,Ae⟩),co H func114⟩
end F114
namespace F234
def H:Hd:=⟨[Ss,Ss],[Sz],.d,kt [] false,[],f234⟩
def k:Kc P_ gl:=⟨(234,⟨H.p,H.r,u2 Gd⟩),co H func234⟩
end F234
namespace F187
def H:Hd:=⟨[Ss,Ss],[Sz],.d,kt [F234.k] false,[],f187⟩
def k:Kc P_ gl:=⟨(187,⟨H.p,H.r,u2 Kt⟩),co H func187⟩
end F187
namespace F184
abbrev R_:=Bool
def H:Hd:=⟨[Sb],[Sz],(.seq .d (.cut [] [] (.seq .d (.blk (.loop [0,5,6] [] .d))) .d)),kt [F187.k] false,[],f184⟩
def t4(a:LB)(b:Int):S:=⟨[(0,vb a),(5,.val (.vec 2 .str) ([([73,68,51]:LB),([65,80,69,84,65,71,69,88]:LB)]:List LB)),(6,vi b)],[],[]⟩
def z4:Nat->S->Option R_:=H.i P_ [r,l,r,d]
theorem i4(a:LB):∀(q:Nat) (b:Int),z4 q (t4 a b)=Nz a q b:=
 ind (λ_=>by kernel_rfl) λq ih b=>Eq.trans (b:=Yw Za (λb=>(z4 q) (t4 a b)) a b) F0 (by simp only[ih]<;>rfl)
def k:Kc P_ gl:=⟨(184,⟨H.p,H.r,Ln⟩),co H func184 (λx=>Eq.trans (b:=Zs (λa b=>z4 Bi (t4 a b)) x) F0 (by simp only[i4,Ah]<;>rfl))⟩
end F184
namespace F183
abbrev R_:=(UInt32×Int)
abbrev K_:=S->Option R_
def H:Hd:=⟨[Su,Sb],[Su,Si],(.seq .d (.seq .d (.cut [0,1,6] [] (.keep [0,1,6,12] true) (.cut [0] [] (.seq .d (.blk (.loop [0,6,13,14,15] [] .d))) .d)))),kt [] false,[(231,(.seq .d (.seq .d (.cut [1] [] (.seq .d (.blk (.loop [1,5] [] (.seq .d (.seq .d (.cut [1,5] [] (.blk (.seq .d (.seq .d (.cut [1,2,3,5] [] (.seq .d (.blk (.loop [1,2,3,5,10] [] .d))) .d)))) .d)))))) .d))))],f183⟩
def t28(a:LB)(b:LU)(h:UInt32)(m:Int):S:=⟨[(0,vu h),(6,.ptr 0 []),(13,vb a),(14,vi (Aa a)),(15,vi m)],[.box 369 (.val (.vec 256 (.int .u32)) b)],[]⟩
def z28:Nat->S->Option R_:=H.i P_ [r,r,r,l,r,d]
def t21(f:UInt32)(a:LB)(g:Int)(b:LU)(k:UInt32)(n:Int):S:=⟨[(1,.ptr 0 []),(2,vi g),(3,vu k),(5,vi g),(10,vi n)],[.box 369 (.val (.vec 256 (.int .u32)) b)],[[(0,vu f),(1,vb a)]]⟩
def z21(Ek:K_):Nat->S->Option R_:=H.i P_ [r,r,l,(call 0 231),r,r,l,r,d,(lp Ek),r,r,l,d,r,r,l,r,d]
def t16(f:UInt32)(a:LB)(g:Int)(b:LU):S:=⟨[(1,.ptr 0 []),(5,vi g)],[.box 369 (.val (.vec 256 (.int .u32)) b)],[[(0,vu f),(1,vb a)]]⟩
def z16:Nat->S->Option R_:=H.i P_ [r,r,l,(call 0 231),r,r,l,r,d]
def x28(a:LB)(b:LU)(h:UInt32)(m:Int):Option R_:=H.e P_ [r,r,r,l,r,d] (t28 a b h m)
def x21(Ek:K_)(f:UInt32)(a:LB)(g:Int)(b:LU)(k:UInt32)(n:Int):Option R_:=H.e P_ [r,r,l,(call 0 231),r,r,l,r,d,(lp Ek),r,r,l,d,r,r,l,r,d] (t21 f a g b k n)
theorem i28(a:LB)(b:LU):∀(q:Nat) (h:UInt32) (m:Int),z28 q (t28 a b h m)=Qq a b q h m:=
 ind (λ_ _=>by kernel_rfl) λq ih h m=>Eq.trans (b:=DI BM (λh m=>(z28 q) (t28 a b h m)) a b h m) F0 (by simp only[ih]<;>rfl)
theorem e28:x28=CH:=by funext a b h m;exact Eq.trans F0 ((i28 a b Bi h m).trans (by rw[Ah];rfl))
theorem i21(Ek:K_)(f:UInt32)(a:LB)(g:Int)(b:LU):∀(q:Nat) (k:UInt32) (n:Int),z21 Ek q (t21 f a g b k n)=Qe (λg b=>Ek (t16 f a g b)) f a g b q k n:=
 ind (λ_ _=>by kernel_rfl) λq ih k n=>Eq.trans (b:=BH (BY (λg b=>Ek (t16 f a g b)) f a) (λk n=>(z21 Ek q) (t21 f a g b k n)) f a g b k n) F0 (by simp only[ih]<;>rfl)
theorem e21(Ek:K_)(f:UInt32)(a:LB):x21 Ek f a=AX (λg b=>Ek (t16 f a g b)) f a:=by funext g b k n;exact Eq.trans F0 ((i21 Ek f a g b Bi k n).trans (by rw[Ah];rfl))
theorem i16(f:UInt32)(a:LB):∀(q:Nat) (g:Int) (b:LU),z16 q (t16 f a g b)=Qd f a q g b:=
 ind (λ_ _=>by kernel_rfl) λq ih g b=>Eq.trans (b:=DJ (x21 (z16 q) f a) (BQ (BZ x28)) f a g b) F0 (by simp only[e21,e28,ih]<;>rfl)
def k:Kc P_ gl:=⟨(183,⟨H.p,H.r,u2 YD⟩),co H func183 (λx=>Eq.trans (b:=u2 (GB (λf a g b=>z16 Bi (t16 f a g b))) x) F0 (by simp only[i16,Ah]<;>rfl))⟩
end F183
namespace F107
def H:Hd:=⟨[Sb],[Su,Si],.d,kt [F183.k] false,[],f107⟩
def k:Kc P_ gl:=⟨(107,⟨H.p,H.r,Mc⟩),co H func107⟩
end F107
namespace F117
abbrev R_:=(Int×Int×Int×Int×Int×Int)
def H:Hd:=⟨[Sb],[.agg [Si,Si,Si,Si,Si],Si],(.seq .d (.seq .d (.seq .d (.seq .d (.seq .d (.seq .d (.seq .d (.cut [2,8] [] (.seq .d (.blk (.loop [0,2,8,9,44,45] [] .d))) .d)))))))),kt [F107.k,F153.k,F180.k,F181.k,F187.k] false,[],f117⟩
def t4(b:LB)(g f:Int)(a:LI):S:=⟨[(0,vb b),(2,.ptr 0 []),(8,.ptr 1 []),(9,vi g),(44,.val (.vec 5 (.int .i64)) ([(2:Int),(2:Int),(2:Int),(4:Int),(4:Int)]:LI)),(45,vi f)],[.box 24 (.agg [vi 0,vi 0,vi 0,vi 0,vi 0]),.box 165 (.val (.vec 5 (.int .i64)) a)],[]⟩
def z4:Nat->S->Option R_:=H.i P_ [r,r,r,r,r,r,r,l,r,d]
theorem i4(b:LB):∀(q:Nat) (g f:Int) (a:LI),z4 q (t4 b g f a)=Qc b q g f a:=
 ind (λ_ _ _=>by kernel_rfl) λq ih g f a=>Eq.trans (b:=BD BC (λg f a=>(z4 q) (t4 b g f a)) b g f a) F0 (by simp only[ih]<;>rfl)
def k:Kc P_ gl:=⟨(117,⟨H.p,H.r,Kh⟩),co H func117 (λx=>Eq.trans (b:=DD (λb g f a=>z4 Bi (t4 b g f a)) x) F0 (by simp only[i4,Ah]<;>rfl))⟩
end F117
namespace F215
abbrev R_:=(UInt64×Int)
abbrev K_:=S->Option R_
def H:Hd:=⟨[Sq,Sb],[Sq,Si],(.seq .d (.seq .d (.cut [4,5] [] (.keep [0,1,4,5,9,10,11,12] true) .d))),kt [] false,[(251,(.seq .d (.cut [1] [] (.seq .d (.blk (.loop [0,1,9,10,11] [] .d))) .d))),(252,(.seq .d (.seq .d (.cut [1] [] (.seq .d (.blk (.loop [1,5] [] (.seq .d (.seq .d (.cut [1,5] [] (.blk (.seq .d (.seq .d (.cut [1,2,3,5] [] (.seq .d (.blk (.loop [1,2,3,5,11] [] .d))) .d)))) .d)))))) .d))))],f215⟩
def t27(a:LB)(b:UInt64)(f:LQ)(h:UInt64)(m:Int):S:=⟨[(0,.ptr 0 []),(1,vq h),(9,vb a),(10,vi (Aa a)),(11,vi m)],[.box 373 (.val (.vec 256 (.int .u64)) f)],[[(0,vq b),(1,vb a),(4,vq 0),(5,vi 0),(9,.ptr 0 []),(10,vq b),(11,vb a)]]⟩
def z27:Nat->S->Option R_:=H.i P_ [r,r,l,(call 3 251),r,l,r,d]
def t21(b:UInt64)(a:LB)(g:Int)(f:LQ)(k:UInt64)(n:Int):S:=⟨[(1,.ptr 0 []),(2,vi g),(3,vq k),(5,vi g),(11,vi n)],[.box 373 (.val (.vec 256 (.int .u64)) f)],[[(0,vq b),(1,vb a),(4,vq 0),(5,vi 0)]]⟩
def z21(Ek:K_):Nat->S->Option R_:=H.i P_ [r,r,l,(call 0 252),r,r,l,r,d,(lp Ek),r,r,l,d,r,r,l,r,d]
def t16(b:UInt64)(a:LB)(g:Int)(f:LQ):S:=⟨[(1,.ptr 0 []),(5,vi g)],[.box 373 (.val (.vec 256 (.int .u64)) f)],[[(0,vq b),(1,vb a),(4,vq 0),(5,vi 0)]]⟩
def z16:Nat->S->Option R_:=H.i P_ [r,r,l,(call 0 252),r,r,l,r,d]
def x27(a:LB)(b:UInt64)(f:LQ)(h:UInt64)(m:Int):Option R_:=H.e P_ [r,r,l,(call 3 251),r,l,r,d] (t27 a b f h m)
def x21(Ek:K_)(b:UInt64)(a:LB)(g:Int)(f:LQ)(k:UInt64)(n:Int):Option R_:=H.e P_ [r,r,l,(call 0 252),r,r,l,r,d,(lp Ek),r,r,l,d,r,r,l,r,d] (t21 b a g f k n)
theorem i27(a:LB)(b:UInt64)(f:LQ):∀(q:Nat) (h:UInt64) (m:Int),z27 q (t27 a b f h m)=Ql a b f q h m:=
 ind (λ_ _=>by kernel_rfl) λq ih h m=>Eq.trans (b:=CA CT (λh m=>(z27 q) (t27 a b f h m)) a b f h m) F0 (by simp only[ih]<;>rfl)
theorem e27:x27=BL:=by funext a b f h m;exact Eq.trans F0 ((i27 a b f Bi h m).trans (by rw[Ah];rfl))
theorem i21(Ek:K_)(b:UInt64)(a:LB)(g:Int)(f:LQ):∀(q:Nat) (k:UInt64) (n:Int),z21 Ek q (t21 b a g f k n)=Ra (λg f=>Ek (t16 b a g f)) b a g f q k n:=
 ind (λ_ _=>by kernel_rfl) λq ih k n=>Eq.trans (b:=AS (BI (λg f=>Ek (t16 b a g f)) b a) (λk n=>(z21 Ek q) (t21 b a g f k n)) b a g f k n) F0 (by simp only[ih]<;>rfl)
theorem e21(Ek:K_)(b:UInt64)(a:LB):x21 Ek b a=DR (λg f=>Ek (t16 b a g f)) b a:=by funext g f k n;exact Eq.trans F0 ((i21 Ek b a g f Bi k n).trans (by rw[Ah];rfl))
theorem i16(b:UInt64)(a:LB):∀(q:Nat) (g:Int) (f:LQ),z16 q (t16 b a g f)=Rn b a q g f:=
 ind (λ_ _=>by kernel_rfl) λq ih g f=>Eq.trans (b:=CC (x21 (z16 q) b a) (AZ x27) b a g f) F0 (by simp only[e21,e27,ih]<;>rfl)
def k:Kc P_ gl:=⟨(215,⟨H.p,H.r,u2 XJ⟩),co H func215 (λx=>Eq.trans (b:=u2 (GQ (λb a g f=>z16 Bi (t16 b a g f))) x) F0 (by simp only[i16,Ah]<;>rfl))⟩
end F215
namespace F171
def H:Hd:=⟨[Sb],[Sq,Si],.d,kt [F215.k] false,[],f171⟩
def k:Kc P_ gl:=⟨(171,⟨H.p,H.r,OH⟩),co H func171⟩
end F171
namespace F108
def H:Hd:=⟨[Ss],[Sq,Si],.d,kt [F171.k] false,[],f108⟩
def k:Kc P_ gl:=⟨(108,⟨H.p,H.r,aH⟩),co H func108⟩
end F108
namespace F52
def H:Hd:=⟨[Ss],[Ob 5,Si],.d,kt [F106.k,F108.k] false,[],f52⟩
def k:Kc P_ gl:=⟨(52,⟨H.p,H.r,Pj⟩),co H func52⟩
end F52
namespace F126
def H:Hd:=⟨[Sb,Ss],[Sz,Si],.d,kt [F52.k,F158.k] false,[],f126⟩
def k:Kc P_ gl:=⟨(126,⟨H.p,H.r,u2 Ya⟩),co H func126⟩
end F126
namespace F127
abbrev R_:=(LI×Int)
def H:Hd:=⟨[Sb,Si],[Ol 3,Si],(.seq .d (.seq .d (.seq .d (.seq .d (.seq .d (.seq .d (.cut [10] [] (.seq .d (.blk (.loop [0,10,48,49] [] .d))) .d))))))),kt [F107.k,F109.k,F153.k] false,[],f127⟩
def t4(a:LB)(f:LI)(g:Int)(b:LI):S:=⟨[(0,vb a),(10,.own 0),(48,vi (Aa f)),(49,vi g)],[Ai 3 b],[]⟩
def z4:Nat->S->Option R_:=H.i P_ [r,r,r,r,r,r,l,r,d]
theorem i4(a:LB)(f:LI):∀(q:Nat) (g:Int) (b:LI),z4 q (t4 a f g b)=Uq a f q g b:=
 ind (λ_ _=>by kernel_rfl) λq ih g b=>Eq.trans (b:=GC FO (λg b=>(z4 q) (t4 a f g b)) a f g b) F0 (by simp only[ih]<;>rfl)
def k:Kc P_ gl:=⟨(127,⟨H.p,H.r,u2 HU⟩),co H func127 (λx=>Eq.trans (b:=u2 (GY (λa f g b=>z4 Bi (t4 a f g b))) x) F0 (by simp only[i4,Ah]<;>rfl))⟩
end F127
namespace F172
abbrev R_:=LX
def H:Hd:=⟨[Sq],[.lf (.vec 16 (.int .i32)) none],(.seq .d (.seq .d (.cut [2,3] [] (.seq .d (.blk (.loop [0,2,3,5] [] .d))) .d))),kt [] false,[],f172⟩
def t4(f:UInt64)(a:Int)(b:LX):S:=⟨[(0,vq f),(2,.ptr 0 []),(3,.ptr 1 []),(5,vi a)],[.box 157 (.val (.vec 16 (.int .i32)) (List.replicate 16 (0:Int32))),.box 157 (.val (.vec 16 (.int .i32)) b)],[]⟩
def z4:Nat->S->Option R_:=H.i P_ [r,r,l,r,d]
theorem i4(f:UInt64):∀(q:Nat) (a:Int) (b:LX),z4 q (t4 f a b)=HZ f q a b:=
 ind (λ_ _=>by kernel_rfl) λq ih a b=>Eq.trans (b:=YL UP (λa b=>(z4 q) (t4 f a b)) f a b) F0 (by simp only[ih]<;>rfl)
def k:Kc P_ gl:=⟨(172,⟨H.p,H.r,jX⟩),co H func172 (λx=>Eq.trans (b:=XK (λf a b=>z4 Bi (t4 f a b)) x) F0 (by simp only[i4,Ah]<;>rfl))⟩
end F172
namespace F101
def H:Hd:=⟨[Ss],[.lf (.vec 16 (.int .i32)) none,Si],.d,kt [F171.k,F172.k] false,[],f101⟩
def k:Kc P_ gl:=⟨(101,⟨H.p,H.r,Gx⟩),co H func101⟩
end F101
namespace F185
def H:Hd:=⟨[.agg [Si,Si,Si,Si,Si]],[.agg [Si,Si]],.d,kt [] false,[],f185⟩
def k:Kc P_ gl:=⟨(185,⟨H.p,H.r,u5 Um⟩),co H func185⟩
end F185
namespace F192
def H:Hd:=⟨[Sb],[Sb,Si],.d,kt [F107.k,F206.k] false,[],f192⟩
def k:Kc P_ gl:=⟨(192,⟨H.p,H.r,CK⟩),co H func192⟩
end F192
namespace F140
def Ez(a:LB):Option (LB):=
TN a (
some ([]:LB)) (
(Bv ([]:LB) a).bind λb=>
some b)
theorem Np: @Ez= @Bk:=by
  unfold Ez Bk
  repeat (refine funext λ_=>?_)
  repeat' first
    |with_reducible rfl
    |with_reducible refine Dy ?_ ?_
    |with_reducible refine Dx ?_ ?_ ?_
    |with_reducible refine Ea ?_ ?_ ?_ ?_
    |((with_reducible refine Fp ?_ ?_);focus (intro h;first|(subst h;rfl)|(simp only[h];rfl)|(simp[Bv,Aa,h];done)))
    |with_reducible refine Fh λx=>?_
    |with_reducible refine Hn (λ_=>?_) (λ_=>?_)
    |(refine Ci (λh=>by simp only[h,Fm,Br,Bp,ite_self]) (λx h=>?_);(try simp only[h,Br]))
    |(refine Cx (λh=>?_) (λh=>?_)<;>simp only[h,if_true,if_false,Bool.false_eq_true])
def H:Hd:=⟨[Sb],[Ob 5],.d,kt [] false,[],f140⟩
def k:Kc P_ gl:=⟨(140,⟨H.p,H.r,Bk⟩),co H func140 (λx=>Eq.trans (b:=Ez x) F0 (by simp only[Np]<;>rfl))⟩
end F140
namespace F193
def H:Hd:=⟨[Sb],[.agg [Ob 5,Si],Si],.d,kt [F140.k] false,[],f193⟩
def k:Kc P_ gl:=⟨(193,⟨H.p,H.r,lE⟩),co H func193⟩
end F193
namespace F223
def H:Hd:=⟨[],[.agg [Si,Si,Sq,Sq]],.d,kt [] false,[],f223⟩
def k:Kc P_ gl:=⟨(223,⟨H.p,H.r,λ_=>IX⟩),co H func223⟩
end F223
namespace F224
def H:Hd:=⟨[.agg [Sb,Si]],[Si],.d,kt [] false,[],f224⟩
def k:Kc P_ gl:=⟨(224,⟨H.p,H.r,u2 Fc⟩),co H func224⟩
end F224
namespace F240
abbrev R_:=UInt64
def H:Hd:=⟨[.agg [Sb,Si],Si,Si],[Sq],(.seq .d (.seq .d (.cut [7] [] (.blk (.loop [1,2,3,7,8] [] .d)) .d))),kt [] false,[],f240⟩
def t4(b f:Int)(h:LB)(k:Int)(g:UInt64)(a:Int):S:=⟨[(1,vi b),(2,vi f),(3,.ptr 0 []),(7,vq g),(8,vi a)],[.box 261 (.agg [vb h,vi k])],[]⟩
def z4:Nat->S->Option R_:=H.i P_ [r,r,l,d]
theorem i4(b f:Int)(h:LB)(k:Int):∀(q:Nat) (g:UInt64) (a:Int),z4 q (t4 b f h k g a)=CL b f h k q g a:=
 ind (λ_ _=>by kernel_rfl) λq ih g a=>Eq.trans (b:=RA RD (λg a=>(z4 q) (t4 b f h k g a)) b f h k g a) F0 (by simp only[ih]<;>rfl)
def k:Kc P_ gl:=⟨(240,⟨H.p,H.r,u4 XP⟩),co H func240 (λx=>Eq.trans (b:=u4 (QH (λb f h k g a=>z4 Bi (t4 b f h k g a))) x) F0 (by simp only[i4,Ah]<;>rfl))⟩
end F240
namespace F238
abbrev R_:=(LB×Int×Int)
abbrev K_:=S->Option R_
def H:Hd:=⟨[.agg [Sb,Si],Si,Si],[.agg [Ob 5,Si],Si],(.seq .d (.seq .d (.seq .d (.seq .d (.cut [6,8] [] (.seq .d (.blk (.loop [2,3,6,8,9] [⟨8,[0],.own 5 (.int .u8)⟩] (.seq .d (.cut [2,3,6,8,9] [] (.blk (.seq .d (.keep [2,3,6,8,9,10,39,40,41,42,43] true))) .d))))) .d))))),kt [F224.k,F240.k] false,[(261,(.blk (.loop [0,1,2] [] (.seq .d (.blk (.cut [0,1,2] [] .d (.seq .d (.cut [0,1,2,7] [] .d .d))))))))],f238⟩
def t44(a:Int)(g:LB)(b f:Int)(m n:UInt64)(k h:Int)(u:LB):S:=⟨[(0,.ptr 0 []),(1,vq n),(2,vi k)],[.box 261 (.agg [.own 3,vi h]),.box 261 (.agg [vb g,vi b]),.box 261 (.agg [.nils,vi 0]),Ab 5 u],[[(2,vi a),(3,.ptr 1 []),(6,.ptr 2 []),(8,.ptr 0 []),(9,vi f),(10,vi (Cq (64:Int) (Ak a f))),(39,.agg [vb g,vi b]),(40,vi f),(41,vi (Cq (64:Int) (Ak a f))),(42,vq m),(43,vi (Cq (64:Int) (Ak a f)))]]⟩
def z44(Ok:K_):Nat->S->Option R_:=H.i P_ [r,r,r,r,l,r,d,(lp Ok),r,l,d,r,(call 5 261),d]
def t27(a:Int)(g:LB)(b f o:Int)(p:LB):S:=⟨[(2,vi a),(3,.ptr 0 []),(6,.ptr 1 []),(8,.ptr 2 []),(9,vi f)],[.box 261 (.agg [vb g,vi b]),.box 261 (.agg [.nils,vi 0]),.box 261 (.agg [.own 3,vi o]),Ab 5 p],[]⟩
def z27:Nat->S->Option R_:=H.i P_ [r,r,r,r,l,r,d]
def x44(Ok:K_)(a:Int)(g:LB)(b f:Int)(m n:UInt64)(k h:Int)(u:LB):Option R_:=H.e P_ [r,r,r,r,l,r,d,(lp Ok),r,l,d,r,(call 5 261),d] (t44 a g b f m n k h u)
theorem i44(Ok:K_)(a:Int)(g:LB)(b f:Int)(m:UInt64):∀(q:Nat) (n:UInt64) (k h:Int) (u:LB),z44 Ok q (t44 a g b f m n k h u)=Xi (λf o p=>Ok (t27 a g b f o p)) a g b f m q n k h u:=
 ind (λ_ _ _ _=>by kernel_rfl) λq ih n k h u=>Eq.trans (b:=KG (KS (λn k h u=>(z44 Ok q) (t44 a g b f m n k h u)) a f g b m) (JB (λf o p=>Ok (t27 a g b f o p)) a g b) a g b f m n k h u) F0 (by simp only[ih]<;>rfl)
theorem e44(Ok:K_)(a:Int)(g:LB)(b:Int):x44 Ok a g b=LV (λf o p=>Ok (t27 a g b f o p)) a g b:=by funext f m n k h u;exact Eq.trans F0 ((i44 Ok a g b f m Bi n k h u).trans (by rw[Ah];rfl))
theorem i27(a:Int)(g:LB)(b:Int):∀(q:Nat) (f o:Int) (p:LB),z27 q (t27 a g b f o p)=Xe a g b q f o p:=
 ind (λ_ _ _=>by kernel_rfl) λq ih f o p=>Eq.trans (b:=LN (x44 (z27 q) a g b) JZ a g b f o p) F0 (by simp only[e44,ih]<;>rfl)
def k:Kc P_ gl:=⟨(238,⟨H.p,H.r,u4 WI⟩),co H func238 (λx=>Eq.trans (b:=u4 (RC (λa g b f o p=>z27 Bi (t27 a g b f o p))) x) F0 (by simp only[i27,Ah]<;>rfl))⟩
end F238
namespace F225
def Qr(j4:Int->Int->UInt64->UInt64->Option Int)(a b:Int)(f g:UInt64):Option Int:=
both (
bo (
j4 a b f g)) [
j4 a b f g]
theorem KH: @Qr= @Ul:=by
  unfold Qr Ul
  repeat (refine funext λ_=>?_)
  repeat' first
    |with_reducible rfl
    |with_reducible refine Dy ?_ ?_
    |with_reducible refine Dx ?_ ?_ ?_
    |with_reducible refine Ea ?_ ?_ ?_ ?_
    |((with_reducible refine Fp ?_ ?_);focus (intro h;first|(subst h;rfl)|(simp only[h];rfl)|(simp[Bv,Aa,h];done)))
    |with_reducible refine Fh λx=>?_
    |with_reducible refine Hn (λ_=>?_) (λ_=>?_)
    |(refine Ci (λh=>by simp only[h,Fm,Br,Bp,ite_self]) (λx h=>?_);(try simp only[h,Br]))
    |(refine Cx (λh=>?_) (λh=>?_)<;>simp only[h,if_true,if_false,Bool.false_eq_true])
def Px(j3:Int->Int->UInt64->UInt64->Option Int)(a b:Int)(f g:UInt64):Option Int:=
both (
bo (
j3 a b f g)) [
j3 a b f g]
theorem KU: @Px= @Ur:=by
  unfold Px Ur
  repeat (refine funext λ_=>?_)
  repeat' first
    |with_reducible rfl
    |with_reducible refine Dy ?_ ?_
    |with_reducible refine Dx ?_ ?_ ?_
    |with_reducible refine Ea ?_ ?_ ?_ ?_
    |((with_reducible refine Fp ?_ ?_);focus (intro h;first|(subst h;rfl)|(simp only[h];rfl)|(simp[Bv,Aa,h];done)))
    |with_reducible refine Fh λx=>?_
    |with_reducible refine Hn (λ_=>?_) (λ_=>?_)
    |(refine Ci (λh=>by simp only[h,Fm,Br,Bp,ite_self]) (λx h=>?_);(try simp only[h,Br]))
    |(refine Cx (λh=>?_) (λh=>?_)<;>simp only[h,if_true,if_false,Bool.false_eq_true])
abbrev R_:=Int
def H:Hd:=⟨[.agg [Si,Si,Sq,Sq]],[Si],(.seq .d (.seq .d (.cut [1,3] [] (.mode false) (.cut [1,3] [] (.mode false) .d)))),kt [] false,[],f225⟩
def x3(a b:Int)(f g:UInt64):Option R_:=H.e P_ [r,r,r] ⟨[(1,.ptr 0 []),(3,.ptr 1 [])],[.box 257 (.agg [vi a,vi b,vq f,vq g]),.box 257 (.agg [vi (Cq (SB a (0:Int)) (24:Int)),vi (Cq (SB b (0:Int)) (24:Int)),vq f,vq g])],[]⟩
theorem e3:x3=GX:=Eq.trans (b:=Qr FL) F0 (by rw[KH];rfl)
def k:Kc P_ gl:=⟨(225,⟨H.p,H.r,u4 II⟩),co H func225 (λx=>Eq.trans (b:=u4 (Px x3) x) F0 (by rw[KU];simp only[e3]<;>rfl))⟩
end F225
namespace F195
def H:Hd:=⟨[.agg [Sb,Si],Si,Si],[Sq,Si],.d,kt [F224.k,F240.k] false,[],f195⟩
def k:Kc P_ gl:=⟨(195,⟨H.p,H.r,u4 Rc⟩),co H func195⟩
end F195
namespace F285
def H:Hd:=⟨[Sq],[Si],.d,kt [] false,[],f285⟩
def k:Kc P_ gl:=⟨(285,⟨H.p,H.r,Ib⟩),co H func285⟩
end F285
namespace F280
def Sa(j6:Int->UInt64->Int->LB->Int->Option (Int×Int×Int))(g:LB)(b a:Int):Option (Int×Int×Int):=
(Fc g b).bind λm=>
if(Bg m 0)then
some (0,0,m)
else
if(Cb a 0)then
some (0,0,2)
else
if(Gk a b)then
some (0,0,24)
else
(λn:Option (Int×Int×Int)=>
(λo:Option (Int×Int×Int)=>
yT (
o)) (
bo (
n))) (
(Rc g b a (Cq 48 (Ak b a))).bind λ(k,h)=>
j6 h k a g b)
theorem JI: @Sa= @Uy:=by
  unfold Sa Uy;simp only[Nn,Hm,Ht]
abbrev R_:=(Int×Int×Int)
def H:Hd:=⟨[.agg [Sb,Si],Si],[Si,Si,Si],(.seq .d (.seq .d (.seq .d (.seq .d (.seq .d (.cut [3,5,6,8,9] [] (.keep [2,3,5,6,8,9,22,23,24,25,26,27,28,29] false) (.seq .d (.seq .d (.cut [] [] (.blk (.seq (.blk (.seq (.blk (.cut [] [] (.cut [3,4,5] [] (.cut [3,4,5,36] [] (.keep [3,4,5,8,36,37,38,39,40] true) .d) .d) .d)) .d)) .d)) .d))))))))),kt [F195.k,F224.k,F285.k] false,[(284,.d)],f280⟩
def k:Kc P_ gl:=⟨(280,⟨H.p,H.r,u3 WO⟩),co H func280 (λx=>Eq.trans (b:=u3 (Sa FX) x) F0 (by simp only[JI]<;>rfl))⟩
end F280
namespace F262
def H:Hd:=⟨[Su,Si],[Sz],.d,kt [] false,[],f262⟩
def k:Kc P_ gl:=⟨(262,⟨H.p,H.r,u2 Yd⟩),co H func262⟩
end F262
namespace F267
abbrev R_:=(UInt32×Int×Int)
def H:Hd:=⟨[.agg [Sb,Si],Si,Si],[Su,Si,Si],(.seq .d (.seq .d (.seq .d (.seq .d (.seq .d (.seq .d (.cut [2,3,7,10,11] [] .d .d))))))),kt [F195.k,F224.k,F262.k,F280.k] false,[],f267⟩
def k:Kc P_ gl:=⟨(267,⟨H.p,H.r,u4 aL⟩),co H func267⟩
end F267
namespace F226
def H:Hd:=⟨[.agg [Si,Si,Sq,Sq],Su],[Si,Su],.d,kt [] false,[],f226⟩
def k:Kc P_ gl:=⟨(226,⟨H.p,H.r,u5 Xv⟩),co H func226⟩
end F226
namespace F239
abbrev R_:=(UInt32×Int×Int×Int×UInt64×UInt64×Int)
def H:Hd:=⟨[.agg [Sb,Si],Si,.agg [Si,Si,Sq,Sq]],[Su,Si,.agg [Si,Si,Sq,Sq],Si],(.seq .d (.cut [1,3,5,8] [] .d (.seq .d (.seq .d (.cut [5,6,7,8] [] .d (.cut [5,6,7,8] [] (.keep [5,6,7,8,81] true) .d)))))),kt [F195.k,F224.k,F225.k,F226.k,F267.k] false,[(229,(.seq .d (.seq .d (.seq .d (.blk (.cut [0,1,4] [] (.blk (.seq .d (.keep [0,1,4,6,18,19,20,21,22,23,24,25] true))) (.cut [] [] (.keep [0,1,4,27,28,29,30,31,32,33,34] true) .d))))))),(264,.d)],f239⟩
def x8(f:UInt32)(k a:Int)(b:UInt64)(m:Int)(n:UInt64):Option R_:=H.e P_ [r,r,r,r,r,l,(call 1 229),r,r,r,d,r] ⟨[(0,.ptr 0 []),(1,vu f),(4,.fn 264 [])],[.box 257 (.agg [vi a,vi m,vq b,vq n]),.box 257 (.agg [vi 0,vi 0,vq 0,vq 0])],[[(5,.ptr 0 []),(6,vu f),(7,vi k),(8,.ptr 1 []),(81,vu f)]]⟩
theorem e8:x8=MC:=F0
def k:Kc P_ gl:=⟨(239,⟨H.p,H.r,u7 Vy⟩),co H func239 (λx=>Eq.trans (b:=u7 (MV (KM (KA x8))) x) F0 (by simp only[e8]<;>rfl))⟩
end F239
namespace F194
def Im(j21:Int->Int->Int->UInt32->Int-> (List (Int×Int×UInt64×UInt64×Unit))->LU->Int->Int->UInt64->UInt64->Option (LU×Int×Int))(j24:Int->LU->Option (LU×Int×Int))(a f:Int)(g:LB)(b k h:Int)(m:List (Int×Int×UInt64×UInt64×Unit))(n:LU):Option (LU×Int×Int):=
if(Cb h (Da f a))then
(WI g b k (Cq (Ac k 81) b)).bind λ(ag,ae,af)=>
if(Bg af 0)then
some (([]:LU),0,af)
else
(Dl (Bg a 0)).bind λ_=>
(Al m (Gs h a)).bind λ_=>
(λai:Option (LU×Int×Int)=>
both (
both (
(Al m (Gs h a)).bind λo=>
(λao:Option (LU×Int×Int)=>
bo (
ao)) (
(Vy ag ae 0 o.1 o.2.1 o.2.2.1 o.2.2.2.1).bind λ(w,v,aa,ab,ac,ad,y)=>
j21 k h y w v m n aa ab ac ad)) [
ai]) [
(Al m (Gs h a)).bind λo=>
(λaj:Option (LU×Int×Int)=>
both (
bo (
aj)) [
aj]) (
(Vy ag ae 0 o.1 o.2.1 o.2.2.1 o.2.2.2.1).bind λ(w,v,aa,ab,ac,ad,y)=>
j21 k h y w v m n aa ab ac ad),
bo (
ai)]) (
(Al m (Gs h a)).bind λo=>
(Vy ag ae 0 o.1 o.2.1 o.2.2.1 o.2.2.2.1).bind λ(w,v,aa,ab,ac,ad,y)=>
j21 k h y w v m n aa ab ac ad)
else
j24 k n
theorem Yg: @Im= @Jz:=by
  unfold Im Jz
  try simp only[Nn,Hm,Ht]
  all_goals
    repeat (refine funext λ_=>?_)
    repeat' first
      |with_reducible rfl
      |with_reducible refine Dy ?_ ?_
      |with_reducible refine Dx ?_ ?_ ?_
      |with_reducible refine Ea ?_ ?_ ?_ ?_
      |((with_reducible refine Fp ?_ ?_);focus (intro h;first|(subst h;rfl)|(simp only[h];rfl)|(simp[Bv,Aa,h];done)))
      |with_reducible refine Fh λx=>?_
      |with_reducible refine Hn (λ_=>?_) (λ_=>?_)
      |(refine Ci (λh=>by simp only[h,Fm,Br,Bp,ite_self]) (λx h=>?_);(try simp only[h,Br]))
      |(refine Cx (λh=>?_) (λh=>?_)<;>simp only[h,if_true,if_false,Bool.false_eq_true])
abbrev R_:=(LU×Int×Int)
abbrev K_:=S->Option R_
def H:Hd:=⟨[Si,Si,.agg [Sb,Si]],[Ov 168,Si,Si],(.seq .d (.seq .d (.cut [0,1,5,9] [] (.seq .d (.blk (.loop [0,1,5,9,19] [] .d))) (.seq .d (.seq .d (.cut [11,12] [] (.seq .d (.blk (.loop [0,5,9,11,12,28,29] [⟨11,[],.own 168 (.int .u32)⟩] (.seq .d (.seq .d (.seq (.blk (.seq .d (.seq .d (.seq .d (.cut [0,5,9,11,12,13,15,16,17,18,28,29] [] (.mode false) (.seq .d (.cut [0,5,9,11,12,16,28,29] [] .d .d))))))) .d)))))) .d)))))),kt [F223.k,F238.k,F239.k] false,[],f194⟩
def t16(a f:Int)(g:LB)(b k h:Int)(m:List (Int×Int×UInt64×UInt64×Unit))(n:LU):S:=⟨[(0,vi a),(5,.ptr 0 []),(9,.ptr 1 []),(11,.own 2),(12,vi k),(28,vi (Da f a)),(29,vi h)],[.box 261 (.agg [vb g,vi b]),.box 258 (.val (.vec 6 (.cons (.int .i64) (.cons (.int .i64) (.cons (.int .u64) (.cons (.int .u64) .nil))))) m),Av 168 n],[]⟩
def z16:Nat->S->Option R_:=H.i P_ [r,r,r,r,r,l,r,d]
def t13(a f:Int)(g:LB)(b u:Int)(p:List (Int×Int×UInt64×UInt64×Unit)):S:=⟨[(0,vi a),(1,vi f),(5,.ptr 0 []),(9,.ptr 1 []),(19,vi u)],[.box 261 (.agg [vb g,vi b]),.box 258 (.val (.vec 6 (.cons (.int .i64) (.cons (.int .i64) (.cons (.int .u64) (.cons (.int .u64) .nil))))) p)],[]⟩
def z13:Nat->S->Option R_:=H.i P_ [r,r,l,r,d]
def x16(a f:Int)(g:LB)(b k h:Int)(m:List (Int×Int×UInt64×UInt64×Unit))(n:LU):Option R_:=H.e P_ [r,r,r,r,r,l,r,d] (t16 a f g b k h m n)
theorem i16(a f:Int)(g:LB)(b:Int):∀(q:Nat) (k h:Int) (m:List (Int×Int×UInt64×UInt64×Unit)) (n:LU),z16 q (t16 a f g b k h m n)=Jn a f g b q k h m n:=
 ind (λ_ _ _ _=>by kernel_rfl) λq ih k h m n=>Eq.trans (b:=Im (Qw (λk h m n=>(z16 q) (t16 a f g b k h m n)) a f g b) Rh a f g b k h m n) F0 (by rw[Yg];simp only[ih]<;>rfl)
theorem e16:x16=Rs:=by funext a f g b k h m n;exact Eq.trans F0 ((i16 a f g b Bi k h m n).trans (by rw[Ah];rfl))
theorem i13(a f:Int)(g:LB)(b:Int):∀(q:Nat) (u:Int) (p:List (Int×Int×UInt64×UInt64×Unit)),z13 q (t13 a f g b u p)=Jq a f g b q u p:=
 ind (λ_ _=>by kernel_rfl) λq ih u p=>Eq.trans (b:=Qg (Qb x16) (λu p=>(z13 q) (t13 a f g b u p)) a f g b u p) F0 (by simp only[e16,ih]<;>rfl)
def k:Kc P_ gl:=⟨(194,⟨H.p,H.r,u4 CF⟩),co H func194 (λx=>Eq.trans (b:=u4 (Tl (λa f g b u p=>z13 Bi (t13 a f g b u p))) x) F0 (by simp only[i13,Ah]<;>rfl))⟩
end F194
namespace F256
abbrev R_:=(Int×LX×LX×Int)
def H:Hd:=⟨[Si,.lf (.vec 16 (.int .i32)) none],[.agg [Si,.lf (.vec 16 (.int .i32)) none,.lf (.vec 16 (.int .i32)) none],Si],(.seq .d (.seq .d (.seq (.seq .d (.blk (.cut [4,6,9,11] [] .d .d))) .d))),kt [] false,[],f256⟩
def k:Kc P_ gl:=⟨(256,⟨H.p,H.r,u2 XI⟩),co H func256⟩
end F256
namespace F220
def H:Hd:=⟨[Si,.lf (.vec 16 (.int .i32)) none],[.agg [Si,Sx,.agg [Si,.lf (.vec 16 (.int .i32)) none,.lf (.vec 16 (.int .i32)) none]],Si],.d,kt [F256.k] false,[],f220⟩
def k:Kc P_ gl:=⟨(220,⟨H.p,H.r,u2 PX⟩),co H func220⟩
end F220
namespace F242
def H:Hd:=⟨[Su],[Sx],.d,kt [] false,[],f242⟩
def k:Kc P_ gl:=⟨(242,⟨H.p,H.r,Mn⟩),co H func242⟩
end F242
namespace F257
def H:Hd:=⟨[.agg [Si,Sx,.agg [Si,.lf (.vec 16 (.int .i32)) none,.lf (.vec 16 (.int .i32)) none]]],[Si],.d,kt [F256.k] false,[],f257⟩
def k:Kc P_ gl:=⟨(257,⟨H.p,H.r,u5 Nc⟩),co H func257⟩
end F257
namespace F273
def H:Hd:=⟨[Si],[Si,Si],.d,kt [] false,[],f273⟩
def k:Kc P_ gl:=⟨(273,⟨H.p,H.r,QX⟩),co H func273⟩
end F273
namespace F274
def H:Hd:=⟨[Si,Sx],[Sx],.d,kt [] false,[],f274⟩
def k:Kc P_ gl:=⟨(274,⟨H.p,H.r,u2 QD⟩),co H func274⟩
end F274
namespace F258
def H:Hd:=⟨[Si,Sx],[Sx,Si],.d,kt [F273.k,F274.k] false,[],f258⟩
def k:Kc P_ gl:=⟨(258,⟨H.p,H.r,u2 Nd⟩),co H func258⟩
end F258
namespace F281
def H:Hd:=⟨[.agg [Si,.lf (.vec 16 (.int .i32)) none,.lf (.vec 16 (.int .i32)) none]],[Si],.d,kt [] false,[],f281⟩
def k:Kc P_ gl:=⟨(281,⟨H.p,H.r,u3 Qz⟩),co H func281⟩
end F281
namespace F275
abbrev R_:=(Int32×Int)
def H:Hd:=⟨[.agg [Si,.lf (.vec 16 (.int .i32)) none,.lf (.vec 16 (.int .i32)) none]],[Sx,Si],(.seq .d (.seq .d (.seq .d (.cut [1,5] [] (.seq .d (.blk (.loop [1,5,18,19] [] .d))) .d)))),kt [F281.k] false,[],f275⟩
def t4(b:LX)(a:Int)(f:LX)(h:Int32)(g:Int):S:=⟨[(1,.ptr 0 []),(5,vx h),(18,.val (.vec 16 (.int .i32)) b),(19,vi g)],[.box 313 (.agg [vi a,.val (.vec 16 (.int .i32)) b,.val (.vec 16 (.int .i32)) f])],[]⟩
def z4:Nat->S->Option R_:=H.i P_ [r,r,r,l,r,d]
theorem i4(b:LX)(a:Int)(f:LX):∀(q:Nat) (h:Int32) (g:Int),z4 q (t4 b a f h g)=Uz b a f q h g:=
 ind (λ_ _=>by kernel_rfl) λq ih h g=>Eq.trans (b:=GF FY (λh g=>(z4 q) (t4 b a f h g)) b a f h g) F0 (by simp only[ih]<;>rfl)
def k:Kc P_ gl:=⟨(275,⟨H.p,H.r,u3 HW⟩),co H func275 (λx=>Eq.trans (b:=u3 (FR (λb a f h g=>z4 Bi (t4 b a f h g))) x) F0 (by simp only[i4,Ah]<;>rfl))⟩
end F275
namespace F286
def H:Hd:=⟨[Si],[Sx],.d,kt [] false,[],f286⟩
def k:Kc P_ gl:=⟨(286,⟨H.p,H.r,NT⟩),co H func286⟩
end F286
namespace F282
abbrev R_:=(Int×LX×LX×Int)
def H:Hd:=⟨[.agg [Si,.lf (.vec 16 (.int .i32)) none,.lf (.vec 16 (.int .i32)) none],Sx],[.agg [Si,.lf (.vec 16 (.int .i32)) none,.lf (.vec 16 (.int .i32)) none],Si],(.seq .d (.seq .d (.seq .d (.cut [2,4] [] (.seq .d (.blk (.loop [1,2,4,19,20] [] .d))) .d)))),kt [F281.k,F286.k] false,[],f282⟩
def t4(h:Int32)(f:LX)(g a:Int)(b:LX):S:=⟨[(1,vx h),(2,.ptr 0 []),(4,.ptr 1 []),(19,.val (.vec 16 (.int .i32)) f),(20,vi a)],[.box 313 (.agg [vi g,.val (.vec 16 (.int .i32)) b,.val (.vec 16 (.int .i32)) f]),.box 313 (.agg [vi 0,.val (.vec 16 (.int .i32)) (List.replicate 16 (0:Int32)),.val (.vec 16 (.int .i32)) (List.replicate 16 (0:Int32))])],[]⟩
def z4:Nat->S->Option R_:=H.i P_ [r,r,r,l,r,d]
theorem i4(h:Int32)(f:LX)(g:Int):∀(q:Nat) (a:Int) (b:LX),z4 q (t4 h f g a b)=Un h f g q a b:=
 ind (λ_ _=>by kernel_rfl) λq ih a b=>Eq.trans (b:=GG GH (λa b=>(z4 q) (t4 h f g a b)) h f g a b) F0 (by simp only[ih]<;>rfl)
def k:Kc P_ gl:=⟨(282,⟨H.p,H.r,u4 YM⟩),co H func282 (λx=>Eq.trans (b:=u4 (GP (λh f g a b=>z4 Bi (t4 h f g a b))) x) F0 (by simp only[i4,Ah]<;>rfl))⟩
end F282
namespace F283
def Ui(j2:Int32->Int->LX->LX->Option (Int×LX×LX×Int))(b:Int)(f a:LX)(g:Int32):Option (Int×LX×LX×Int):=
(Qz b f a).bind λh=>
if(Bg h 0)then
some (0,(List.replicate 16 (0:Int32)),(List.replicate 16 (0:Int32)),h)
else
both (
(YQ 16 1 16).bind λ_=>
(YQ 16 0 16).bind λ_=>
j2 g b f a) [
(YQ 16 0 16).bind λ_=>
(YQ 16 1 16).bind λ_=>
j2 g b f a]
theorem PQ: @Ui= @Xq:=by
  unfold Ui Xq
  repeat (refine funext λ_=>?_)
  repeat' first
    |with_reducible rfl
    |with_reducible refine Dy ?_ ?_
    |with_reducible refine Dx ?_ ?_ ?_
    |with_reducible refine Ea ?_ ?_ ?_ ?_
    |((with_reducible refine Fp ?_ ?_);focus (intro h;first|(subst h;rfl)|(simp only[h];rfl)|(simp[Bv,Aa,h];done)))
    |with_reducible refine Fh λx=>?_
    |with_reducible refine Hn (λ_=>?_) (λ_=>?_)
    |(refine Ci (λh=>by simp only[h,Fm,Br,Bp,ite_self]) (λx h=>?_);(try simp only[h,Br]))
    |(refine Cx (λh=>?_) (λh=>?_)<;>simp only[h,if_true,if_false,Bool.false_eq_true])
abbrev R_:=(Int×LX×LX×Int)
def H:Hd:=⟨[.agg [Si,.lf (.vec 16 (.int .i32)) none,.lf (.vec 16 (.int .i32)) none],Sx],[.agg [Si,.lf (.vec 16 (.int .i32)) none,.lf (.vec 16 (.int .i32)) none],Si],(.seq .d (.seq .d (.cut [1,2,4] [] .d .d))),kt [F281.k] false,[],f283⟩
def k:Kc P_ gl:=⟨(283,⟨H.p,H.r,u4 aT⟩),co H func283 (λx=>Eq.trans (b:=u4 (Ui LA) x) F0 (by simp only[PQ]<;>rfl))⟩
end F283
namespace F276
def H:Hd:=⟨[.agg [Si,.lf (.vec 16 (.int .i32)) none,.lf (.vec 16 (.int .i32)) none],Sx,Sx],[.agg [Si,.lf (.vec 16 (.int .i32)) none,.lf (.vec 16 (.int .i32)) none]],.d,kt [F282.k,F283.k] false,[],f276⟩
def k:Kc P_ gl:=⟨(276,⟨H.p,H.r,u5 HG⟩),co H func276⟩
end F276
namespace F268
def H:Hd:=⟨[.agg [Si,.lf (.vec 16 (.int .i32)) none,.lf (.vec 16 (.int .i32)) none],Sx],[Sx,.agg [Si,.lf (.vec 16 (.int .i32)) none,.lf (.vec 16 (.int .i32)) none],Si],.d,kt [F275.k,F276.k] false,[],f268⟩
def k:Kc P_ gl:=⟨(268,⟨H.p,H.r,u4 YC⟩),co H func268⟩
end F268
namespace F241
def Qv(a:Int)(b:Int32)(f:Int)(g h:LX)(o:Int32):Option (Int32×Int×Int32×Int×LX×LX×Int):=
(Nc a b f g h).bind λk=>
if(Bg k 0)then
some (0,0,0,0,(List.replicate 16 (0:Int32)),(List.replicate 16 (0:Int32)),k)
else
(Nd a b).bind λ(m,y)=>
(YC f g h o).bind λ(n,p,u,v,w)=>
(λaa:Option (Int32×Int×Int32×Int×LX×LX×Int)=>
bo (
aa)) (
some ((Ac n m),a,(Ac n m),p,u,v,w))
theorem KJ: @Qv= @Ft:=by
  unfold Qv Ft;simp only[Nn,Hm,Ht]
def H:Hd:=⟨[.agg [Si,Sx,.agg [Si,.lf (.vec 16 (.int .i32)) none,.lf (.vec 16 (.int .i32)) none]],Sx],[Sx,.agg [Si,Sx,.agg [Si,.lf (.vec 16 (.int .i32)) none,.lf (.vec 16 (.int .i32)) none]],Si],(.seq .d (.seq .d (.seq .d (.seq .d (.seq (.mode false) .d))))),kt [F257.k,F258.k,F268.k] false,[],f241⟩
def k:Kc P_ gl:=⟨(241,⟨H.p,H.r,u6 Ft⟩),co H func241 (λx=>Eq.trans (b:=u6 Qv x) F0 (by simp only[KJ]<;>rfl))⟩
end F241
namespace F254
def H:Hd:=⟨[Si,Sw],[Si],.d,kt [] false,[],f254⟩
def k:Kc P_ gl:=⟨(254,⟨H.p,H.r,u2 OZ⟩),co H func254⟩
end F254
namespace F200
def Ei(a:LX):Option (LX):=
TN a (
some ([]:LX)) (
(Bv ([]:LX) a).bind λb=>
some b)
theorem Lr: @Ei= @Bw:=by
  unfold Ei Bw
  repeat (refine funext λ_=>?_)
  repeat' first
    |with_reducible rfl
    |with_reducible refine Dy ?_ ?_
    |with_reducible refine Dx ?_ ?_ ?_
    |with_reducible refine Ea ?_ ?_ ?_ ?_
    |((with_reducible refine Fp ?_ ?_);focus (intro h;first|(subst h;rfl)|(simp only[h];rfl)|(simp[Bv,Aa,h];done)))
    |with_reducible refine Fh λx=>?_
    |with_reducible refine Hn (λ_=>?_) (λ_=>?_)
    |(refine Ci (λh=>by simp only[h,Fm,Br,Bp,ite_self]) (λx h=>?_);(try simp only[h,Br]))
    |(refine Cx (λh=>?_) (λh=>?_)<;>simp only[h,if_true,if_false,Bool.false_eq_true])
def H:Hd:=⟨[Sw],[Ow 21],.d,kt [] false,[],f200⟩
def k:Kc P_ gl:=⟨(200,⟨H.p,H.r,Bw⟩),co H func200 (λx=>Eq.trans (b:=Ei x) F0 (by simp only[Lr]<;>rfl))⟩
end F200
namespace F243
abbrev R_:=(LX×Int)
abbrev K_:=S->Option R_
def H:Hd:=⟨[Si,Sw],[Ow 21,Si],(.seq .d (.seq .d (.seq .d (.cut [7] [] (.seq .d (.blk (.loop [0,7,8] [] (.seq .d (.cut [0,7,8] [] (.blk (.keep [0,7,8,24,25,26,27,28,29] true)) .d))))) .d)))),kt [F200.k,F254.k] true,[(269,(.seq .d (.cut [0,2] [] .d (.seq .d (.blk (.loop [0,3] [] .d))))))],f243⟩
def t18(b a g:Int)(h:LX):S:=⟨[(0,.view true 0 [] (.int .i32) a ((Ac a b)-a)),(3,vi g)],[Aw 21 h],[[(0,vi b),(7,.own 0),(8,vi a),(24,.own 0),(25,vi a),(26,vi a),(27,vi b),(28,vi (Ac a b)),(29,.view true 0 [] (.int .i32) a ((Ac a b)-a))]]⟩
def z18(Om:K_):Nat->S->Option R_:=H.i P_ [r,r,r,l,r,d,(lp Om),r,l,d,(call 6 269),r,r,r,d]
def t12(b a:Int)(f:LX):S:=⟨[(0,vi b),(7,.own 0),(8,vi a)],[Aw 21 f],[]⟩
def z12:Nat->S->Option R_:=H.i P_ [r,r,r,l,r,d]
def x18(Om:K_)(b a g:Int)(h:LX):Option R_:=H.e P_ [r,r,r,l,r,d,(lp Om),r,l,d,(call 6 269),r,r,r,d] (t18 b a g h)
theorem i18(Om:K_)(b a:Int):∀(q:Nat) (g:Int) (h:LX),z18 Om q (t18 b a g h)=Xx (λa f=>Om (t12 b a f)) b a q g h:=
 ind (λ_ _=>by kernel_rfl) λq ih g h=>Eq.trans (b:=JO (KW (λa f=>Om (t12 b a f)) b) (λg h=>(z18 Om q) (t18 b a g h)) b a g h) F0 (by simp only[ih]<;>rfl)
theorem e18(Om:K_)(b:Int):x18 Om b=JX (λa f=>Om (t12 b a f)) b:=by funext a g h;exact Eq.trans F0 ((i18 Om b a Bi g h).trans (by rw[Ah];rfl))
theorem i12(b:Int):∀(q:Nat) (a:Int) (f:LX),z12 q (t12 b a f)=Xs b q a f:=
 ind (λ_ _=>by kernel_rfl) λq ih a f=>Eq.trans (b:=JR (JA (x18 (z12 q) b) b) KB b a f) F0 (by simp only[e18,ih]<;>rfl)
def k:Kc P_ gl:=⟨(243,⟨H.p,H.r,u2 eX⟩),co H func243 (λx=>Eq.trans (b:=u2 (RK (λb a f=>z12 Bi (t12 b a f))) x) F0 (by simp only[i12,Ah]<;>rfl))⟩
end F243
namespace F196
def Hr(j16:Int->Int32->Int-> (List (Int×Int32×(Int×LX×LX×Unit)×Unit))->LX->Int->Int32->Int->LX->LX->Option (LX×Int))(j18:Int->Int->LX->Option (LX×Int))(f:LU)(a b g:Int)(h:List (Int×Int32×(Int×LX×LX×Unit)×Unit))(k:LX):Option (LX×Int):=
if(Cb g (Aa f))then
(Al f g).bind λag=>
(Dl (Bg a 0)).bind λ_=>
(Al h (Gs g a)).bind λ_=>
both (
(Al h (Gs g a)).bind λm=>
both (
(Mn ag).bind λae=>
(λao:Option (LX×Int)=>
bo (
ao)) (
(Ft m.1 m.2.1 m.2.2.1.1 m.2.2.1.2.1 m.2.2.1.2.2.1 ae).bind λ(y,aa,w,ab,ac,ad,v)=>
j16 g y v h k aa w ab ac ad)) [
(Mn ag).bind λae=>
(Ft m.1 m.2.1 m.2.2.1.1 m.2.2.1.2.1 m.2.2.1.2.2.1 ae).bind λ(y,aa,w,ab,ac,ad,v)=>
j16 g y v h k aa w ab ac ad]) [
(Mn ag).bind λaf=>
both (
(Al h (Gs g a)).bind λu=>
(λap:Option (LX×Int)=>
bo (
ap)) (
(Ft u.1 u.2.1 u.2.2.1.1 u.2.2.1.2.1 u.2.2.1.2.2.1 af).bind λ(y,aa,w,ab,ac,ad,v)=>
j16 g y v h k aa w ab ac ad)) [
(Al h (Gs g a)).bind λu=>
(Ft u.1 u.2.1 u.2.2.1.1 u.2.2.1.2.1 u.2.2.1.2.2.1 af).bind λ(y,aa,w,ab,ac,ad,v)=>
j16 g y v h k aa w ab ac ad],
both (
(Al h (Gs g a)).bind λm=>
(Mn ag).bind λae=>
(Ft m.1 m.2.1 m.2.2.1.1 m.2.2.1.2.1 m.2.2.1.2.2.1 ae).bind λ(y,aa,w,ab,ac,ad,v)=>
j16 g y v h k aa w ab ac ad) [
(Mn ag).bind λaf=>
(Al h (Gs g a)).bind λu=>
(Ft u.1 u.2.1 u.2.2.1.1 u.2.2.1.2.1 u.2.2.1.2.2.1 af).bind λ(y,aa,w,ab,ac,ad,v)=>
j16 g y v h k aa w ab ac ad]]
else
j18 a b k
theorem Vo: @Hr= @Ik:=by
  unfold Hr Ik
  try simp only[Nn,Hm,Ht]
  all_goals
    repeat (refine funext λ_=>?_)
    repeat' first
      |with_reducible rfl
      |with_reducible refine Dy ?_ ?_
      |with_reducible refine Dx ?_ ?_ ?_
      |with_reducible refine Ea ?_ ?_ ?_ ?_
      |((with_reducible refine Fp ?_ ?_);focus (intro h;first|(subst h;rfl)|(simp only[h];rfl)|(simp[Bv,Aa,h];done)))
      |with_reducible refine Fh λx=>?_
      |with_reducible refine Hn (λ_=>?_) (λ_=>?_)
      |(refine Ci (λh=>by simp only[h,Fm,Br,Bp,ite_self]) (λx h=>?_);(try simp only[h,Br]))
      |(refine Cx (λh=>?_) (λh=>?_)<;>simp only[h,if_true,if_false,Bool.false_eq_true])
abbrev R_:=(LX×Int)
abbrev K_:=S->Option R_
def H:Hd:=⟨[.agg [Si,Si],.lf (.vec 16 (.int .i32)) none,Sv],[Ow 21,Si],(.seq .d (.seq .d (.cut [2,3,8] [] (.seq .d (.blk (.loop [2,3,4,8,20] [] .d))) (.seq .d (.cut [3,10] [] (.seq .d (.blk (.loop [3,8,10,33,34,35] [⟨10,[],.own 21 (.int .i32)⟩] (.seq .d (.seq .d (.seq (.blk (.seq .d (.seq .d (.cut [3,8,10,13,14,15,16,33,34,35] [] (.mode false) .d)))) .d)))))) .d))))),kt [F151.k,F220.k,F241.k,F242.k,F243.k] false,[],f196⟩
def t13(f:LU)(a b g:Int)(h:List (Int×Int32×(Int×LX×LX×Unit)×Unit))(k:LX):S:=⟨[(3,.ptr 0 []),(8,.ptr 1 []),(10,.own 2),(33,vv f),(34,vi (Aa f)),(35,vi g)],[.box 61 (.agg [vi a,vi b]),.box 316 (.val (.vec 6 (.cons (.int .i64) (.cons (.int .i32) (.cons (.cons (.int .i64) (.cons (.vec 16 (.int .i32)) (.cons (.vec 16 (.int .i32)) .nil))) .nil)))) h),Aw 21 k],[]⟩
def z13:Nat->S->Option R_:=H.i P_ [r,r,r,r,l,r,d]
def t10(f:LU)(a b:Int)(o:LX)(p:Int)(n:List (Int×Int32×(Int×LX×LX×Unit)×Unit)):S:=⟨[(2,vv f),(3,.ptr 0 []),(4,.ptr 1 []),(8,.ptr 2 []),(20,vi p)],[.box 61 (.agg [vi a,vi b]),.box 157 (.val (.vec 16 (.int .i32)) o),.box 316 (.val (.vec 6 (.cons (.int .i64) (.cons (.int .i32) (.cons (.cons (.int .i64) (.cons (.vec 16 (.int .i32)) (.cons (.vec 16 (.int .i32)) .nil))) .nil)))) n)],[]⟩
def z10:Nat->S->Option R_:=H.i P_ [r,r,l,r,d]
def x13(f:LU)(a b g:Int)(h:List (Int×Int32×(Int×LX×LX×Unit)×Unit))(k:LX):Option R_:=H.e P_ [r,r,r,r,l,r,d] (t13 f a b g h k)
theorem i13(f:LU)(a b:Int):∀(q:Nat) (g:Int) (h:List (Int×Int32×(Int×LX×LX×Unit)×Unit)) (k:LX),z13 q (t13 f a b g h k)=Il f a b q g h k:=
 ind (λ_ _ _=>by kernel_rfl) λq ih g h k=>Eq.trans (b:=Hr (Pa (λg h k=>(z13 q) (t13 f a b g h k)) a f b) Oq f a b g h k) F0 (by rw[Vo];simp only[ih]<;>rfl)
theorem e13:x13=Pe:=by funext f a b g h k;exact Eq.trans F0 ((i13 f a b Bi g h k).trans (by rw[Ah];rfl))
theorem i10(f:LU)(a b:Int)(o:LX):∀(q:Nat) (p:Int) (n:List (Int×Int32×(Int×LX×LX×Unit)×Unit)),z10 q (t10 f a b o p n)=Ip f a b o q p n:=
 ind (λ_ _=>by kernel_rfl) λq ih p n=>Eq.trans (b:=Pd (Pb x13) (λp n=>(z10 q) (t10 f a b o p n)) f a b o p n) F0 (by simp only[e13,ih]<;>rfl)
def k:Kc P_ gl:=⟨(196,⟨H.p,H.r,u4 Zc⟩),co H func196 (λx=>Eq.trans (b:=u4 (Rq (λf a b o p n=>z10 Bi (t10 f a b o p n))) x) F0 (by simp only[i10,Ah]<;>rfl))⟩
end F196
namespace F125
def H:Hd:=⟨[.agg [Si,Si],.lf (.vec 16 (.int .i32)) none,Si,Sb],[Ow 21,Si],.d,kt [F191.k,F192.k,F193.k,F194.k,F195.k,F196.k] false,[],f125⟩
def k:Kc P_ gl:=⟨(125,⟨H.p,H.r,u5 Pw⟩),co H func125⟩
end F125
namespace F85
abbrev R_:=(LB×Int)
abbrev K_:=S->Option R_
def H:Hd:=⟨[Si,Sw],[Ob 5,Si],(.seq .d (.seq .d (.seq .d (.cut [7] [] (.seq .d (.blk (.loop [0,7,17,18,19] [⟨7,[],.own 5 (.int .u8)⟩] (.seq .d (.seq .d (.cut [0,7,17,18,19] [] (.blk (.seq .d (.cut [0,7,9,17,18,19] [] .d (.seq .d (.blk (.loop [0,7,9,17,18,19,28,29] [] .d)))))) .d)))))) .d)))),kt [F151.k] false,[],f85⟩
def t26(b:Int)(a:LX)(k:Int32)(f m:Int)(h:LB):S:=⟨[(0,vi b),(7,.own 0),(9,vx k),(17,vw a),(18,vi (Aa a)),(19,vi f),(28,vi (Fx b (8:Int))),(29,vi m)],[Ab 5 h],[]⟩
def z26(Ek:K_):Nat->S->Option R_:=H.i P_ [r,r,r,l,r,d,(lp Ek),r,r,l,d,r,r,r,d]
def t16(b:Int)(a:LX)(f:Int)(g:LB):S:=⟨[(0,vi b),(7,.own 0),(17,vw a),(18,vi (Aa a)),(19,vi f)],[Ab 5 g],[]⟩
def z16:Nat->S->Option R_:=H.i P_ [r,r,r,l,r,d]
def x26(Ek:K_)(b:Int)(a:LX)(k:Int32)(f m:Int)(h:LB):Option R_:=H.e P_ [r,r,r,l,r,d,(lp Ek),r,r,l,d,r,r,r,d] (t26 b a k f m h)
theorem i26(Ek:K_)(b:Int)(a:LX)(k:Int32)(f:Int):∀(q:Nat) (m:Int) (h:LB),z26 Ek q (t26 b a k f m h)=Og (λf g=>Ek (t16 b a f g)) b a k f q m h:=
 ind (λ_ _=>by kernel_rfl) λq ih m h=>Eq.trans (b:=Yy (Zj (λf g=>Ek (t16 b a f g)) b a) (λm h=>(z26 Ek q) (t26 b a k f m h)) b a k f m h) F0 (by simp only[ih]<;>rfl)
theorem e26(Ek:K_)(b:Int)(a:LX):x26 Ek b a=AJ (λf g=>Ek (t16 b a f g)) b a:=by funext k f m h;exact Eq.trans F0 ((i26 Ek b a k f Bi m h).trans (by rw[Ah];rfl))
theorem i16(b:Int)(a:LX):∀(q:Nat) (f:Int) (g:LB),z16 q (t16 b a f g)=Oh b a q f g:=
 ind (λ_ _=>by kernel_rfl) λq ih f g=>Eq.trans (b:=Zu (Yl (x26 (z16 q) b a) b a) AG b a f g) F0 (by simp only[e26,ih]<;>rfl)
def k:Kc P_ gl:=⟨(85,⟨H.p,H.r,u2 Nl⟩),co H func85 (λx=>Eq.trans (b:=u2 (CW (λb a f g=>z16 Bi (t16 b a f g))) x) F0 (by simp only[i16,Ah]<;>rfl))⟩
end F85
namespace F190
abbrev R_:=Int
def H:Hd:=⟨[Sl,Si],[Si],(.seq .d (.cut [] [] (.seq .d (.blk (.loop [0,1,7,8] [] .d))) .d)),kt [] false,[],f190⟩
def t4(a:LI)(b f:Int):S:=⟨[(0,vl a),(1,vi b),(7,vi (Aa a)),(8,vi f)],[],[]⟩
def z4:Nat->S->Option R_:=H.i P_ [r,l,r,d]
theorem i4(a:LI)(b:Int):∀(q:Nat) (f:Int),z4 q (t4 a b f)=Ct a b q f:=
 ind (λ_=>by kernel_rfl) λq ih f=>Eq.trans (b:=Eu Eo (λf=>(z4 q) (t4 a b f)) a b f) F0 (by simp only[ih]<;>rfl)
def k:Kc P_ gl:=⟨(190,⟨H.p,H.r,u2 Fk⟩),co H func190 (λx=>Eq.trans (b:=u2 (Et (λa b f=>z4 Bi (t4 a b f))) x) F0 (by simp only[i4,Ah]<;>rfl))⟩
end F190
namespace F121
def H:Hd:=⟨[Sl,Si],[Sz],.d,kt [F190.k] false,[],f121⟩
def k:Kc P_ gl:=⟨(121,⟨H.p,H.r,u2 Er⟩),co H func121⟩
end F121
namespace F64
def H:Hd:=⟨[Si],[Sz],.d,kt [F121.k] false,[],f64⟩
def k:Kc P_ gl:=⟨(64,⟨H.p,H.r,Iy⟩),co H func64⟩
end F64
namespace F17
def Jk(j28:Bool->Int->Option Int)(y ac:Int)(g a:LB)(h p m u v b:Int)(n:Bool)(o:Int)(ak:LX)(f:LI)(k:LB):Option Int:=
if(Bg ac 0)then
(Ae ac).bind λ(bi,bj)=>
j28 bi bj
else
(Nl m ak).bind λ(bk,bb)=>
if(Bg bb 0)then
(Ae bb).bind λ(bl,bm)=>
j28 bl bm
else
(Bv k bk).bind λdv=>
(λfa:Option Int=>
bo (
fa)) (
(Bo a y (Aa a)).bind λdw=>
j28 false 0)
theorem AR: @Jk= @Lk:=by
  unfold Jk Lk;simp only[Nn,Hm,Ht]
def Kr(j13:Bool->Int->Option Int)(j12:LB->LB->Int->Int->Int->Int->Int->Int->Bool->Int->LI->LB->Option Int)(j25:Bool->Int->Option Int)(j23:LB->LB->Int->Int->Int->Int->Int->Int->Bool->Int->LI->LB->Option Int)(j24:LB->LB->Int->Int->Int->Int->Int->Int->Bool->Int->LI->LB->Int->Option Int)(j28:Bool->Int->Option Int)(j26:Int->LB->LB->Int->Int->Int->Int->Int->Int->Bool->Int->LX->LI->LI->LB->Option Int)(j22:Bool->Option Int)(j21:Option Int)(al am:LB)(an ao ap aq ar:Int)(au:LI)(ad:Int)(ae:LB)(aa:Bool)(w:Int):Option Int:=
if(Es (Aa al) 64)then
some 8
else
if((geq w 0)&&(!aa))then
(Cv al am an ao ap aq ar au ad ae aa w).bind λ(g,a,h,p,m,u,v,f,b,k,n,o)=>
(Xg al am an ao ap aq ar au ad ae aa w).bind λbn=>
if bn then
if(geq h 0)then
(Fl a).bind λ(ah,av)=>
if(geq av 24)then
j13 true 0
else
if(Bg av 0)then
(Ae av).bind λ(bp,bq)=>
j13 bp bq
else
(Bo a ah (Aa a)).bind λbr=>
(Ln br).bind λaj=>
if aj then
j13 true 0
else
(Bo a ah (Aa a)).bind λbs=>
(Kh bs).bind λ(ay,az,ab,ba,af,aw)=>
if(geq aw 24)then
j13 true 0
else
if(Bg aw 0)then
(Ae aw).bind λ(bt,bu)=>
j13 bt bu
else
both (
(Bo a (Ac ah 22) (Aa a)).bind λax=>
(λfb:Option Int=>
bo (
fb)) (
j12 g ax ay az ab ba af b n o f k)) [
(Bo a (Ac ah 22) (Aa a)).bind λax=>
j12 g ax ay az ab ba af b n o f k]
else
if(geq (Aa f) 0)then
if(geq h 2)then
if(Cb (Aa a) 8)then
j25 true 0
else
j23 g a h p m u v b n o f k
else
j24 g a h p m u v b n o f k 0
else
if(Cb b (Aa f))then
(Al f b).bind λ_=>
(Al f b).bind λy=>
if(Cb (Aa a) y)then
j28 true 0
else
(Gx g).bind λ(bc,ai)=>
if(Bg ai 0)then
(Ae ai).bind λ(bv,bw)=>
j28 bv bw
else
(Ep h p m u v).bind λ(ag,bx)=>
if((Bg bx 0)||(Gk b (Aa ag)))then
(Ae 8).bind λ(bz,da)=>
j28 bz da
else
j26 y g a h p m u v b n o bc ag f k
else
if(Es (Aa a) 4000)then
(Ae 38).bind λ(db,bd)=>
j22 ((db==true)&&((geq bd 0)&&true))
else
j21
else
j22 false
else
if((geq (Aa am) 0)&&(geq (Aa au) 0))then
if((((geq an 0)&&((geq ao 0)&&((geq ap 0)&&((geq aq 0)&&((geq ar 0)&&true)))))&&(geq ad 0))&&(dU (Aa ae) 12000))then
if(geq w 0)then
j22 true
else
if(!aa)then
(Iy w).bind λdc=>
j22 dc
else
j22 false
else
j22 false
else
if((false&&(geq ad 0))&&(dU (Aa ae) 12000))then
if(geq w 0)then
j22 true
else
if(!aa)then
(Iy w).bind λdd=>
j22 dd
else
j22 false
else
j22 false
theorem DV: @Kr= @Ml:=by
  unfold Kr Ml
  try simp only[Nn,Hm,Ht]
  all_goals
    repeat (refine funext λ_=>?_)
    repeat' first
      |with_reducible rfl
      |with_reducible refine Dy ?_ ?_
      |with_reducible refine Dx ?_ ?_ ?_
      |with_reducible refine Ea ?_ ?_ ?_ ?_
      |((with_reducible refine Fp ?_ ?_);focus (intro h;first|(subst h;rfl)|(simp only[h];rfl)|(simp[Bv,Aa,h];done)))
      |with_reducible refine Fh λx=>?_
      |with_reducible refine Hn (λ_=>?_) (λ_=>?_)
      |(refine Ci (λh=>by simp only[h,Fm,Br,Bp,ite_self]) (λx h=>?_);(try simp only[h,Br]))
      |(refine Cx (λh=>?_) (λh=>?_)<;>simp only[h,if_true,if_false,Bool.false_eq_true])
abbrev R_:=Int
def H:Hd:=⟨[.agg [Ss,Sb,.agg [Si,Si,Si,Si,Si],Sl,Si,Sb,Sz,Si]],[Si],(.seq .d (.seq .d (.seq .d (.cut [3] [] (.seq .d (.cond (.seq .d (.keep [3,21,22,23,24,25] false)) .d)) .d)))),kt [F59.k,F63.k,F64.k,F85.k,F101.k,F114.k,⟨(116,Ji),Rl⟩,F117.k,F119.k,F120.k,F125.k,F126.k,F127.k,F184.k,F185.k] false,[(58,(.seq .d (.cut [2] [] (.blk (.seq .d (.cond (.cut [2] [] (.keep [2,11] true) .d) (.seq .d (.cond (.cut [2] [] (.keep [2,20] true) .d) (.seq .d (.cond (.cut [2] [] (.keep [2,33] true) .d) .d))))))) .d))),(111,(.seq .d (.seq .d (.seq .d (.seq .d (.seq .d (.cut [0,2,5] [] (.mode false) .d))))))),(112,(.seq .d (.seq .d (.cut [0,2,3] [⟨0,[1],.ro (.int .u8)⟩] (.seq .d (.cond (.seq .d (.cut [0,2,3] [⟨0,[1],.ro (.int .u8)⟩,⟨9,[1],.ro (.int .u8)⟩,⟨10,[1],.ro (.int .u8)⟩,⟨15,[1],.ro (.int .u8)⟩,⟨16,[1],.ro (.int .u8)⟩,⟨18,[],.ro (.int .u8)⟩] .d (.cut [0,2,3,4,5] [] .d .d))) .d)) .d)))),(113,(.seq .d (.seq .d (.seq .d (.seq .d (.seq .d (.seq .d (.cut [0,2,3,4,6] [⟨0,[1],.ro (.int .u8)⟩,⟨9,[1],.ro (.int .u8)⟩,⟨10,[1],.ro (.int .u8)⟩,⟨13,[1],.ro (.int .u8)⟩,⟨14,[1],.ro (.int .u8)⟩,⟨19,[1],.ro (.int .u8)⟩,⟨20,[1],.ro (.int .u8)⟩,⟨22,[],.ro (.int .u8)⟩,⟨28,[1],.ro (.int .u8)⟩,⟨29,[1],.ro (.int .u8)⟩,⟨40,[1],.ro (.int .u8)⟩,⟨41,[1],.ro (.int .u8)⟩] .d (.cut [0,2,3,5,7] [] .d (.seq .d (.seq .d (.seq .d (.seq .d (.seq (.mode false) .d))))))))))))))],f17⟩
def x27(y ac:Int)(g a:LB)(h p m u v b:Int)(n:Bool)(o:Int)(ak:LX)(f:LI)(k:LB):Option R_:=H.e P_ [r,r,r,l,r,l,r,(dcall 3 58 3 #[true,true,true,true,true,true,true,true] #[true,true,true,true,true,false,false,false]),r,l,d,r,r,r,r,r,l,l,(call 1 113),r,r,r,r,r,r,r,r] ⟨[(0,.ptr 0 []),(2,.ptr 1 []),(3,vi y),(5,vi ac),(7,.own 2)],[.box 28 (.agg [vs g,vb a,.agg [vi h,vi p,vi m,vi u,vi v],.own 4,vi b,.own 5,vt n,vi o]),.box 103 (.agg [vt false,vi 0]),Aw 21 ak,.box 103 (.agg [vt false,vi 0]),Ai 3 f,Ab 5 k],[[(2,.ptr 3 [])],[(3,vt false),(21,.cst (.bool true)),(23,.agg [vt true,vi 0])]]⟩
theorem e27:x27=Ug:=Eq.trans (b:=Jk He) F0 (by rw[AR];rfl)
def k:Kc P_ gl:=⟨(17,⟨H.p,H.r,nM Jf⟩),co H func17 (λx=>Eq.trans (b:=nM (Kr Ku Ta Hj Sy Lo He (To x27) Ed Tq) x) F0 (by rw[DV];simp only[e27]<;>rfl))⟩
end F17
namespace F34
def H:Hd:=⟨[.agg [Ss,Sb,.agg [Si,Si,Si,Si,Si],Sl,Si,Sb,Sz,Si]],[Si,Si],.d,kt [F17.k] false,[],f34⟩
def k:Kc P_ gl:=⟨(34,⟨H.p,H.r,nM Ks⟩),co H func34⟩
end F34
namespace F35
def H:Hd:=⟨[Si],[Si,Si],.d,kt [] false,[],f35⟩
def k:Kc P_ gl:=⟨(35,⟨H.p,H.r,Gn⟩),co H func35⟩
end F35
namespace F80
abbrev R_:=Bool
def H:Hd:=⟨[.agg [Sc,Si]],[Sz],(.seq .d (.seq (.seq .d (.blk (.cut [1,4,5] [] .d .d))) .d)),kt [] false,[],f80⟩
def k:Kc P_ gl:=⟨(80,⟨H.p,H.r,u2 LM⟩),co H func80⟩
end F80
namespace F79
def H:Hd:=⟨[.agg [Sc,Si]],[Sz],.d,kt [F80.k] false,[],f79⟩
def k:Kc P_ gl:=⟨(79,⟨H.p,H.r,u2 CP⟩),co H func79⟩
end F79
namespace F30
abbrev R_:=Int
abbrev K_:=S->Option R_
def H:Hd:=⟨[.lf (.list (.cons (.int .u8) (.cons (.int .i64) .nil))) none],[Si],(.seq .d (.seq .d (.cut [] [] (.cut [7] [] (.keep [7] true) .d) .d))),kt [F79.k] false,[(78,(.seq .d (.cut [4] [] (.keep [4,7,8] true) .d))),(148,(.seq .d (.cut [] [] (.seq .d (.blk (.loop [0,1,7,8] [] (.seq .d (.seq .d (.cut [0,1,7,8] [] (.blk (.seq .d (.cut [0,1,5,7,8,16] [] .d .d))) .d)))))) .d)))],f30⟩
def t11(a:List (UInt8×Int×Unit))(b:Int):S:=⟨[(0,.val (.list (.cons (.int .u8) (.cons (.int .i64) .nil))) a),(1,.fn 79 []),(7,vi (Aa a)),(8,vi b)],[],[[(4,vt false)],[]]⟩
def z11:Nat->S->Option R_:=H.i P_ [r,r,l,l,(call 1 78),r,l,(call 2 148),r,l,r,d]
theorem i11(a:List (UInt8×Int×Unit)):∀(q:Nat) (b:Int),z11 q (t11 a b)=Md a q b:=
 ind (λ_=>by kernel_rfl) λq ih b=>Eq.trans (b:=Wd (Vp (λb=>(z11 q) (t11 a b)) a) Wg a b) F0 (by simp only[ih]<;>rfl)
def k:Kc P_ gl:=⟨(30,⟨H.p,H.r,Xr⟩),co H func30 (λx=>Eq.trans (b:=Zo (λa b=>z11 Bi (t11 a b)) x) F0 (by simp only[i11,Ah]<;>rfl))⟩
end F30
namespace F8
def H:Hd:=⟨[Ss],[.agg [Ss,Ob 5,.agg [Si,Si,Si,Si,Si],Ol 3,Si,Ob 5,Sz,Si],Si],.d,kt [] false,[],f8⟩
def k:Kc P_ gl:=⟨(8,⟨H.p,H.r,Tt⟩),co H func8⟩
end F8
namespace F57
def Lf(f g:LB)(h k m n o:Int)(p:LI)(u:Int)(v:LB)(b:Bool)(a:Int):Option (LB×LB×Int×Int×Int×Int×Int×LI×Int×LB×Bool×Int×Int):=
(Jf f g h k m n o p u v b a).bind λw=>
if(Bg w 0)then
some (([]:LB),([]:LB),0,0,0,0,0,([]:LI),0,([]:LB),false,0,w)
else
if(Bg a 0)then
(λbl:Option (LB×LB×Int×Int×Int×Int×Int×LI×Int×LB×Bool×Int×Int)=>
both (
both (
(Cv f g h k m n o p u v b a).bind λ(y,aa,ab,ac,ad,ae,af,ag,ah,ai,aj,ak)=>
(λbm:Option (LB×LB×Int×Int×Int×Int×Int×LI×Int×LB×Bool×Int×Int)=>
bo (
bm)) (
some (y,aa,ab,ac,ad,ae,af,ag,ah,ai,aj,ak,a))) [
bl]) [
bl]) (
(Cv f g h k m n o p u v b a).bind λ(y,aa,ab,ac,ad,ae,af,ag,ah,ai,aj,ak)=>
some (y,aa,ab,ac,ad,ae,af,ag,ah,ai,aj,ak,a))
else
if b then
(Cv f g h k m n o p u v b a).bind λ(al,am,an,ao,ap,aq,ar,au,av,aw,ax,ay)=>
some (al,am,an,ao,ap,aq,ar,au,av,aw,ax,ay,36)
else
(Cv f g h k m n o p u v b a).bind λ(az,ba,bb,bc,bd,be,bf,bg,bh,bi,bj,bk)=>
some (az,ba,bb,bc,bd,be,bf,bg,bh,bi,bj,bk,0)
theorem DF: @Lf= @Jg:=by
  unfold Lf Jg
  try simp only[Nn,Hm,Ht]
  all_goals
    repeat (refine funext λ_=>?_)
    repeat' first
      |with_reducible rfl
      |with_reducible refine Dy ?_ ?_
      |with_reducible refine Dx ?_ ?_ ?_
      |with_reducible refine Ea ?_ ?_ ?_ ?_
      |((with_reducible refine Fp ?_ ?_);focus (intro h;first|(subst h;rfl)|(simp only[h];rfl)|(simp[Bv,Aa,h];done)))
      |with_reducible refine Fh λx=>?_
      |with_reducible refine Hn (λ_=>?_) (λ_=>?_)
      |(refine Ci (λh=>by simp only[h,Fm,Br,Bp,ite_self]) (λx h=>?_);(try simp only[h,Br]))
      |(refine Cx (λh=>?_) (λh=>?_)<;>simp only[h,if_true,if_false,Bool.false_eq_true])
def H:Hd:=⟨[.agg [Ss,Sb,.agg [Si,Si,Si,Si,Si],Sl,Si,Sb,Sz,Si]],[.agg [Ss,Ob 5,.agg [Si,Si,Si,Si,Si],Ol 3,Si,Ob 5,Sz,Si],Si],(.seq .d (.seq .d (.seq (.blk (.seq .d (.cond (.seq (.mode false) .d) .d))) .d))),kt [F17.k,F59.k] false,[],f57⟩
def k:Kc P_ gl:=⟨(57,⟨H.p,H.r,nM Jg⟩),co H func57 (λx=>Eq.trans (b:=nM Lf x) F0 (by simp only[DF]<;>rfl))⟩
end F57
namespace F60
def H:Hd:=⟨[.agg [Ss,Sb,.agg [Si,Si,Si,Si,Si],Sl,Si,Sb,Sz,Si],Si],[.agg [Ss,Ob 5,.agg [Si,Si,Si,Si,Si],Ol 3,Si,Sb,Sz,Si],Si],.d,kt [] false,[],f60⟩
def k:Kc P_ gl:=⟨(60,⟨H.p,H.r,xM Yf⟩),co H func60⟩
end F60
namespace F14
def Lq(j78:Int->Int->Int->Int->Int->LI->Bool->Int->LB->Int->LB->Option (LB×LB×Int×Int×Int×Int×Int×LI×Int×LB×Bool×Int×Int))(a:LB)(b:Bool)(f w ab:Int)(g:LB)(m o n p u h:Int)(am:LX)(k:LI)(v:LB):Option (LB×LB×Int×Int×Int×Int×Int×LI×Int×LB×Bool×Int×Int):=
if(Bg ab 0)then
(Ae ab).bind λ(br,bs)=>
j78 m o n p u k br bs g h v
else
(Nl n am).bind λ(bt,af)=>
if(Bg af 0)then
(Ae af).bind λ(bu,bv)=>
j78 m o n p u k bu bv g h v
else
(Bv v bt).bind λbw=>
(λhb:Option (LB×LB×Int×Int×Int×Int×Int×LI×Int×LB×Bool×Int×Int)=>
bo (
hb)) (
(Bo g w (Aa g)).bind λbx=>
j78 m o n p u k false 0 bx (Ac h 1) bw)
theorem BN: @Lq= @Mi:=by
  unfold Lq Mi;simp only[Nn,Hm,Ht]
def Kq(j62:Int->LI->LB->Bool->Int->LB->Int->Int->Int->Int->Int->Option (LB×LB×Int×Int×Int×Int×Int×LI×Int×LB×Bool×Int×Int))(j61:LB->Int->Int->Int->Int->Int->Int->LI->LB->Option (LB×LB×Int×Int×Int×Int×Int×LI×Int×LB×Bool×Int×Int))(j75:Int->Int->Int->Int->Int->Int->LB->Bool->Int->LB->LI->Option (LB×LB×Int×Int×Int×Int×Int×LI×Int×LB×Bool×Int×Int))(j73:LB->Int->Int->Int->Int->Int->Int->LI->LB->Option (LB×LB×Int×Int×Int×Int×Int×LI×Int×LB×Bool×Int×Int))(j74:LB->Int->Int->Int->Int->Int->Int->LI->LB->Int->Option (LB×LB×Int×Int×Int×Int×Int×LI×Int×LB×Bool×Int×Int))(j78:Int->Int->Int->Int->Int->LI->Bool->Int->LB->Int->LB->Option (LB×LB×Int×Int×Int×Int×Int×LI×Int×LB×Bool×Int×Int))(j76:Int->LB->Int->Int->Int->Int->Int->Int->LX->LI->LI->LB->Option (LB×LB×Int×Int×Int×Int×Int×LI×Int×LB×Bool×Int×Int))(j71:LB->Int->Int->Int->Int->Int->Int->Bool->Int->LI->LB->Option (LB×LB×Int×Int×Int×Int×Int×LI×Int×LB×Bool×Int×Int))(j70:LB->Int->Int->Int->Int->Int->Int->LI->LB->Option (LB×LB×Int×Int×Int×Int×Int×LI×Int×LB×Bool×Int×Int))(a:LB)(b:Bool)(f:Int)(g:LB)(m o n p u h:Int)(k:LI)(v:LB):Option (LB×LB×Int×Int×Int×Int×Int×LI×Int×LB×Bool×Int×Int):=
if(geq m 0)then
(Fl g).bind λ(ad,an)=>
if(geq an 24)then
j62 h k v true 0 g m o n p u
else
if(Bg an 0)then
(Ae an).bind λ(bz,da)=>
j62 h k v bz da g m o n p u
else
(Bo g ad (Aa g)).bind λdb=>
(Ln db).bind λal=>
if al then
j62 h k v true 0 g m o n p u
else
(Bo g ad (Aa g)).bind λdc=>
(Kh dc).bind λ(ah,ai,y,aj,aa,ao)=>
if(geq ao 24)then
j62 h k v true 0 g m o n p u
else
if(Bg ao 0)then
(Ae ao).bind λ(dd,de)=>
j62 h k v dd de g m o n p u
else
both (
(Bo g (Ac ad 22) (Aa g)).bind λag=>
bo (
j61 ag ah ai y aj aa h k v)) [
(Bo g (Ac ad 22) (Aa g)).bind λag=>
j61 ag ah ai y aj aa h k v]
else
if(geq (Aa k) 0)then
if(geq m 2)then
if(Cb (Aa g) 8)then
j75 m o n p u h v true 0 g k
else
j73 g m o n p u h k v
else
j74 g m o n p u h k v 0
else
if(Cb h (Aa k))then
(Al k h).bind λ_=>
(Al k h).bind λw=>
if(Cb (Aa g) w)then
j78 m o n p u k true 0 g h v
else
(Gx a).bind λ(aq,ak)=>
if(Bg ak 0)then
(Ae ak).bind λ(df,dg)=>
j78 m o n p u k df dg g h v
else
(Ep m o n p u).bind λ(ac,dh)=>
if((Bg dh 0)||(Gk h (Aa ac)))then
(Ae 8).bind λ(di,ap)=>
j78 m o n p u k di ap g h v
else
j76 w g m o n p u h aq ac k v
else
if(Es (Aa g) 4000)then
(Ae 38).bind λ(dj,ae)=>
j71 g m o n p u h dj ae k v
else
j70 g m o n p u h k v
theorem DM: @Kq= @Ly:=by
  unfold Kq Ly
  repeat (refine funext λ_=>?_)
  repeat' first
    |with_reducible rfl
    |with_reducible refine Dy ?_ ?_
    |with_reducible refine Dx ?_ ?_ ?_
    |with_reducible refine Ea ?_ ?_ ?_ ?_
    |((with_reducible refine Fp ?_ ?_);focus (intro h;first|(subst h;rfl)|(simp only[h];rfl)|(simp[Bv,Aa,h];done)))
    |with_reducible refine Fh λx=>?_
    |with_reducible refine Hn (λ_=>?_) (λ_=>?_)
    |(refine Ci (λh=>by simp only[h,Fm,Br,Bp,ite_self]) (λx h=>?_);(try simp only[h,Br]))
    |(refine Cx (λh=>?_) (λh=>?_)<;>simp only[h,if_true,if_false,Bool.false_eq_true])
abbrev R_:=(LB×LB×Int×Int×Int×Int×Int×LI×Int×LB×Bool×Int×Int)
abbrev K_:=S->Option R_
def H:Hd:=⟨[.agg [Ss,Sb,.agg [Si,Si,Si,Si,Si],Sl,Si,Sb,Sz,Si],Sb],[.agg [Ss,Ob 5,.agg [Si,Si,Si,Si,Si],Ol 3,Si,Sb,Sz,Si],Si],(.seq .d (.seq .d (.seq .d (.seq .d (.blk (.loop [2,4] [⟨2,[1],.ro (.int .u8)⟩] (.blk (.cut [2,4,7] [] (.keep [2,4,7,22] true) .d)))))))),kt [F57.k,F59.k,F60.k,F85.k,F101.k,F114.k,⟨(116,Ji),Rl⟩,F117.k,F119.k,F120.k,F125.k,F126.k,F127.k,F184.k,F185.k] false,[(58,(.seq .d (.cut [2] [] (.blk (.seq .d (.cond (.cut [2] [] (.keep [2,11] true) .d) (.seq .d (.cond (.cut [2] [] (.keep [2,20] true) .d) (.seq .d (.cond (.cut [2] [] (.keep [2,33] true) .d) .d))))))) .d))),(111,(.seq .d (.seq .d (.seq .d (.seq .d (.seq .d (.cut [0,2,5] [] (.mode false) .d))))))),(112,(.seq .d (.seq .d (.cut [0,2,3] [] (.seq .d (.cond (.seq .d (.cut [0,2,3] [⟨0,[1],.ro (.int .u8)⟩,⟨9,[1],.ro (.int .u8)⟩,⟨10,[1],.ro (.int .u8)⟩,⟨15,[1],.ro (.int .u8)⟩,⟨16,[1],.ro (.int .u8)⟩,⟨18,[],.ro (.int .u8)⟩] .d (.cut [0,2,3,4,5] [] .d .d))) .d)) .d)))),(113,(.seq .d (.seq .d (.seq .d (.seq .d (.seq .d (.seq .d (.cut [0,2,3,4,6] [⟨0,[1],.ro (.int .u8)⟩,⟨9,[1],.ro (.int .u8)⟩,⟨10,[1],.ro (.int .u8)⟩,⟨13,[1],.ro (.int .u8)⟩,⟨14,[1],.ro (.int .u8)⟩,⟨19,[1],.ro (.int .u8)⟩,⟨20,[1],.ro (.int .u8)⟩,⟨22,[],.ro (.int .u8)⟩,⟨28,[1],.ro (.int .u8)⟩,⟨29,[1],.ro (.int .u8)⟩,⟨40,[1],.ro (.int .u8)⟩,⟨41,[1],.ro (.int .u8)⟩] .d (.cut [0,2,3,5,7] [] .d (.seq .d (.seq .d (.seq .d (.seq .d (.seq (.mode false) .d))))))))))))))],f14⟩
def t37(a:LB)(b:Bool)(f:Int)(g:LB)(m o n p u h:Int)(k:LI)(v:LB):S:=⟨[(2,.ptr 0 []),(4,.ptr 1 [])],[.box 28 (.agg [vs a,vb g,.agg [vi m,vi o,vi n,vi p,vi u],.own 2,vi h,.own 3,vt b,vi f]),.box 28 (.agg [vs ([]:LB),.nils,.agg [vi 0,vi 0,vi 0,vi 0,vi 0],.nils,vi 0,.nils,vt false,vi 0]),Ai 3 k,Ab 5 v],[]⟩
def z37:Nat->S->Option R_:=H.i P_ [r,r,r,r,d]
def x75(IY:K_)(a:LB)(b:Bool)(f m o n p u h:Int)(v:LB)(bf:Bool)(bg:Int)(bh:LB)(bi:LI):Option R_:=H.e P_ [r,r,r,r,d,(lp IY),d,l,(call 0 58),r,l,d,r,r,r,l,r] ⟨[(2,.ptr 0 [])],[.box 103 (.agg [vt bf,vi bg]),.box 28 (.agg [vs a,vb bh,.agg [vi m,vi o,vi n,vi p,vi u],.own 3,vi h,.own 4,vt b,vi f]),.box 28 (.agg [vs ([]:LB),.nils,.agg [vi 0,vi 0,vi 0,vi 0,vi 0],.nils,vi 0,.nils,vt false,vi 0]),Ai 3 bi,Ab 5 v],[[(2,.ptr 1 []),(4,.ptr 2 [])]]⟩
def x78(IY:K_)(a:LB)(b:Bool)(f m o n p u:Int)(k:LI)(bl:Bool)(bm:Int)(bn:LB)(bp:Int)(bq:LB):Option R_:=H.e P_ [r,r,r,r,d,(lp IY),d,l,(call 0 58),r,l,d,r,r,r,r,r,l,r] ⟨[(2,.ptr 0 [])],[.box 103 (.agg [vt bl,vi bm]),.box 28 (.agg [vs a,vb bn,.agg [vi m,vi o,vi n,vi p,vi u],.own 3,vi bp,.own 4,vt b,vi f]),.box 28 (.agg [vs ([]:LB),.nils,.agg [vi 0,vi 0,vi 0,vi 0,vi 0],.nils,vi 0,.nils,vt false,vi 0]),Ai 3 k,Ab 5 bq],[[(2,.ptr 1 []),(4,.ptr 2 [])]]⟩
def x77(IY:K_)(a:LB)(b:Bool)(f w ab:Int)(g:LB)(m o n p u h:Int)(am:LX)(k:LI)(v:LB):Option R_:=H.e P_ [r,r,r,r,d,(lp IY),d,l,(call 0 58),r,l,d,r,r,r,r,r,l,l,(call 1 113),r,r,r,r,r,r,r,r] ⟨[(0,.ptr 0 []),(2,.ptr 1 []),(3,vi w),(5,vi ab),(7,.own 2)],[.box 28 (.agg [vs a,vb g,.agg [vi m,vi o,vi n,vi p,vi u],.own 5,vi h,.own 6,vt b,vi f]),.box 103 (.agg [vt false,vi 0]),Aw 21 am,.box 103 (.agg [vt false,vi 0]),.box 28 (.agg [vs ([]:LB),.nils,.agg [vi 0,vi 0,vi 0,vi 0,vi 0],.nils,vi 0,.nils,vt false,vi 0]),Ai 3 k,Ab 5 v],[[(2,.ptr 3 [])],[(2,.ptr 0 []),(4,.ptr 4 [])]]⟩
theorem e75(IY:K_)(a:LB)(b:Bool)(f:Int):x75 IY a b f=Hz (λg m o n p u h k v=>IY (t37 a b f g m o n p u h k v)) a b f:=F0
theorem e78(IY:K_)(a:LB)(b:Bool)(f:Int):x78 IY a b f=Mk (λg m o n p u h k v=>IY (t37 a b f g m o n p u h k v)) a b f:=F0
theorem e77(IY:K_)(a:LB)(b:Bool)(f:Int):x77 IY a b f=Wa (λg m o n p u h k v=>IY (t37 a b f g m o n p u h k v)) a b f:=Eq.trans (b:=Lq (x78 IY a b f) a b f) F0 (by rw[BN];simp only[e78]<;>rfl)
theorem i37(a:LB)(b:Bool)(f:Int):∀(q:Nat) (g:LB) (m o n p u h:Int) (k:LI) (v:LB),z37 q (t37 a b f g m o n p u h k v)=Bt a b f q g m o n p u h k v:=
 ind (λ_ _ _ _ _ _ _ _ _=>by kernel_rfl) λq ih g m o n p u h k v=>Eq.trans (b:=Kq (Mm (λg m o n p u h k v=>(z37 q) (t37 a b f g m o n p u h k v)) a b f) (Vq (λg m o n p u h k v=>(z37 q) (t37 a b f g m o n p u h k v)) a b f) (x75 (z37 q) a b f) (Vs (Wp (x75 (z37 q) a b f) (Mp (x75 (z37 q) a b f) a b f) a b f) a b f) (Mp (x75 (z37 q) a b f) a b f) (x78 (z37 q) a b f) (Vr (x77 (z37 q) a b f) a b f) (Ex (λg m o n p u h k v=>(z37 q) (t37 a b f g m o n p u h k v)) a b f) (Wj (λg m o n p u h k v=>(z37 q) (t37 a b f g m o n p u h k v)) a b f) a b f g m o n p u h k v) F0 (by rw[DM];simp only[e75,e78,e77,ih]<;>rfl)
def k:Kc P_ gl:=⟨(14,⟨H.p,H.r,xM En⟩),co H func14 (λx=>Eq.trans (b:=xM (Zt (λa b f g m o n p u h k v=>z37 Bi (t37 a b f g m o n p u h k v))) x) F0 (by simp only[i37,Ah]<;>rfl))⟩
end F14
namespace F16
def H:Hd:=⟨[.agg [Ss,Sb,.agg [Si,Si,Si,Si,Si],Sl,Si,Sb,Sz,Si],Si],[.agg [Ss,Ob 5,.agg [Si,Si,Si,Si,Si],Ol 3,Si,Sb,Sz,Si],Ob 5,Si],.d,kt [F17.k,F59.k,F62.k] false,[],f16⟩
def k:Kc P_ gl:=⟨(16,⟨H.p,H.r,xM Mt⟩),co H func16⟩
end F16
namespace F189
abbrev R_:=(Int×Int)
def H:Hd:=⟨[Sb],[Si,Si],(.seq .d (.seq .d (.cut [0,4] [] .d .d))),kt [F158.k,F235.k,F236.k,F237.k] false,[],f189⟩
def k:Kc P_ gl:=⟨(189,⟨H.p,H.r,eQ⟩),co H func189⟩
end F189
namespace F118
abbrev R_:=(Int×Int)
abbrev K_:=S->Option R_
def H:Hd:=⟨[Sb],[Si,Si],(.seq .d (.seq .d (.seq .d (.seq .d (.cut [5] [] (.blk (.loop [1,4,5] [] (.seq .d (.cut [1,4,5] [] (.blk (.cut [1,4,5,6] [] (.keep [1,4,5,6,16,17] true) .d)) .d)))) .d))))),kt [F189.k] false,[(188,.d)],f118⟩
def t8(a:Int)(b:LB):S:=⟨[(1,.ptr 0 []),(4,.fn 188 [.ptr 0 []]),(5,vi a)],[.box 22 (vb b)],[]⟩
def z8:Nat->S->Option R_:=H.i P_ [r,r,r,r,l,d]
theorem i8:∀(q:Nat) (a:Int) (b:LB),z8 q (t8 a b)=Ns q a b:=
 ind (λ_ _=>by kernel_rfl) λq ih a b=>Eq.trans (b:=Zz (Vz (λa b=>(z8 q) (t8 a b))) Ws a b) F0 (by simp only[ih]<;>rfl)
def k:Kc P_ gl:=⟨(118,⟨H.p,H.r,KD⟩),co H func118 (λx=>Eq.trans (b:=Zr (λa b=>z8 Bi (t8 a b)) x) F0 (by simp only[i8,Ah]<;>rfl))⟩
end F118
namespace F61
def H:Hd:=⟨[.agg [Ss,Sb,.agg [Si,Si,Si,Si,Si],Sl,Si,Sb,Sz,Si]],[Si],.d,kt [⟨(116,Ji),Rl⟩,F117.k,F118.k] false,[],f61⟩
def k:Kc P_ gl:=⟨(61,⟨H.p,H.r,nM BJ⟩),co H func61⟩
end F61
namespace F15
def H:Hd:=⟨[.agg [Ss,Sb,.agg [Si,Si,Si,Si,Si],Sl,Si,Sb,Sz,Si]],[.agg [Ss,Ob 5,.agg [Si,Si,Si,Si,Si],Ol 3,Si,Sb,Sz,Si],Si],.d,kt [F57.k,F60.k,F61.k] false,[],f15⟩
def k:Kc P_ gl:=⟨(15,⟨H.p,H.r,nM Lg⟩),co H func15⟩
end F15
namespace F27
def Jw(j29:Int->LB->Int->Int->Int->Int->Int->Int->LB->Bool->Int->LB-> (List (Int×LB×Unit))->LB->LI->Option (LB×LB×Int×Int×Int×Int×Int×LI×Int×LB×Bool×Int×(List (Int×LB×Unit))×Int))(b:List (UInt8×Int×Unit))(ac:UInt8×Int×Unit)(a:LB)(ad ab:Int)(f w:LB)(g h k m n:Int)(y:LI)(o:Int)(p:LB)(u:Bool)(v:Int)(ae:LB)(af ag ah ai aj ak:Int)(al:LB)(am:Bool)(an:Int)(aa:List (Int×LB×Unit))(ao:LB)(ap:LI):Option (LB×LB×Int×Int×Int×Int×Int×LI×Int×LB×Bool×Int×(List (Int×LB×Unit))×Int):=
(λfs:Option (LB×LB×Int×Int×Int×Int×Int×LI×Int×LB×Bool×Int×(List (Int×LB×Unit))×Int)=>
bo (
fs)) (
(Bo a (Cq ac.2.1 (Aa a)) (Aa a)).bind λbv=>
(Bv aa ([(ad,([]:LB),())]:List (Int×LB×Unit))).bind λar=>
j29 ab ae af ag ah ai aj ak al am an bv ar ao ap)
theorem AN: @Jw= @Le:=by
  unfold Jw Le;simp only[Nn,Hm,Ht]
def Jl(j26:(UInt8×Int×Unit)->LB->Int->Int->LB->LB->Int->Int->Int->Int->Int->LI->Int->LB->Bool->Int->LB->Int->Int->Int->Int->Int->Int->LB->Bool->Int-> (List (Int×LB×Unit))->LB->LI->Option (LB×LB×Int×Int×Int×Int×Int×LI×Int×LB×Bool×Int×(List (Int×LB×Unit))×Int))(j33:Int->Int->LB->LB->Int->Int->Int->Int->Int->LI->Int->LB->Bool->Int->LB->LB->Int->Int->Int->Int->Int->Int->LB->Bool->Int->LB-> (List (Int×LB×Unit))->LB->LI->Option (LB×LB×Int×Int×Int×Int×Int×LI×Int×LB×Bool×Int×(List (Int×LB×Unit))×Int))(j34:Int->Int->LB->LB->Int->Int->Int->Int->Int->LI->Int->LB->Bool->Int->LB->LB->Int->Int->Int->Int->Int->Int->LB->Bool->Int-> (List (Int×LB×Unit))->LB->LI->Option (LB×LB×Int×Int×Int×Int×Int×LI×Int×LB×Bool×Int×(List (Int×LB×Unit))×Int))(j29:Int->LB->Int->Int->Int->Int->Int->Int->LB->Bool->Int->LB-> (List (Int×LB×Unit))->LB->LI->Option (LB×LB×Int×Int×Int×Int×Int×LI×Int×LB×Bool×Int×(List (Int×LB×Unit))×Int))(j31:(List (Int×LB×Unit))->LB->Int->Int->Int->Int->Int->Int->LB->Bool->Int->LB->LB->LI->Option (LB×LB×Int×Int×Int×Int×Int×LI×Int×LB×Bool×Int×(List (Int×LB×Unit))×Int))(b:List (UInt8×Int×Unit))(ab:Int)(f:LB)(g h k m n o:Int)(p:LB)(u:Bool)(v:Int)(a:LB)(aa:List (Int×LB×Unit))(w:LB)(y:LI):Option (LB×LB×Int×Int×Int×Int×Int×LI×Int×LB×Bool×Int×(List (Int×LB×Unit))×Int):=
if(Cb ab (Aa b))then
(Al b ab).bind λac=>
if(geq ac.1 1)then
(λbw:Option (LB×LB×Int×Int×Int×Int×Int×LI×Int×LB×Bool×Int×(List (Int×LB×Unit))×Int)=>
(λda:Option (LB×LB×Int×Int×Int×Int×Int×LI×Int×LB×Bool×Int×(List (Int×LB×Unit))×Int)=>
(λdb:Option (LB×LB×Int×Int×Int×Int×Int×LI×Int×LB×Bool×Int×(List (Int×LB×Unit))×Int)=>
both (
da) [
da,
(Bo a 0 (Cq ac.2.1 (Aa a))).bind λaq=>
(λdc:Option (LB×LB×Int×Int×Int×Int×Int×LI×Int×LB×Bool×Int×(List (Int×LB×Unit))×Int)=>
(λdd:Option (LB×LB×Int×Int×Int×Int×Int×LI×Int×LB×Bool×Int×(List (Int×LB×Unit))×Int)=>
(λde:Option (LB×LB×Int×Int×Int×Int×Int×LI×Int×LB×Bool×Int×(List (Int×LB×Unit))×Int)=>
both (
de) [
de,
dd]) (
both (
dd) [
dc])) (
bo (
dc))) (
(En f w g h k m n y o p u v aq).bind λ(ae,ao,af,ag,ah,ai,aj,ap,ak,al,am,an,ad)=>
j26 ac a ad ab f w g h k m n y o p u v ae af ag ah ai aj ak al am an aa ao ap),
both (
db) [
db,
(Bo a 0 (Cq ac.2.1 (Aa a))).bind λaq=>
(λft:Option (LB×LB×Int×Int×Int×Int×Int×LI×Int×LB×Bool×Int×(List (Int×LB×Unit))×Int)=>
bo (
ft)) (
(En f w g h k m n y o p u v aq).bind λ(ae,ao,af,ag,ah,ai,aj,ap,ak,al,am,an,ad)=>
j26 ac a ad ab f w g h k m n y o p u v ae af ag ah ai aj ak al am an aa ao ap)]]) (
bo (
bw))) (
both (
both (
(Bo a 0 (Cq ac.2.1 (Aa a))).bind λaq=>
(λfu:Option (LB×LB×Int×Int×Int×Int×Int×LI×Int×LB×Bool×Int×(List (Int×LB×Unit))×Int)=>
bo (
fu)) (
(En f w g h k m n y o p u v aq).bind λ(ae,ao,af,ag,ah,ai,aj,ap,ak,al,am,an,ad)=>
j26 ac a ad ab f w g h k m n y o p u v ae af ag ah ai aj ak al am an aa ao ap)) [
bw]) [
(Bo a 0 (Cq ac.2.1 (Aa a))).bind λaq=>
(λdf:Option (LB×LB×Int×Int×Int×Int×Int×LI×Int×LB×Bool×Int×(List (Int×LB×Unit))×Int)=>
both (
bo (
df)) [
df]) (
(En f w g h k m n y o p u v aq).bind λ(ae,ao,af,ag,ah,ai,aj,ap,ak,al,am,an,ad)=>
j26 ac a ad ab f w g h k m n y o p u v ae af ag ah ai aj ak al am an aa ao ap),
bo (
bw)])) (
(Bo a 0 (Cq ac.2.1 (Aa a))).bind λaq=>
(En f w g h k m n y o p u v aq).bind λ(ae,ao,af,ag,ah,ai,aj,ap,ak,al,am,an,ad)=>
j26 ac a ad ab f w g h k m n y o p u v ae af ag ah ai aj ak al am an aa ao ap)
else
if(geq ac.1 2)then
(λdg:Option (LB×LB×Int×Int×Int×Int×Int×LI×Int×LB×Bool×Int×(List (Int×LB×Unit))×Int)=>
(λdh:Option (LB×LB×Int×Int×Int×Int×Int×LI×Int×LB×Bool×Int×(List (Int×LB×Unit))×Int)=>
(λdi:Option (LB×LB×Int×Int×Int×Int×Int×LI×Int×LB×Bool×Int×(List (Int×LB×Unit))×Int)=>
both (
di) [
di,
dh]) (
both (
dh) [
dg])) (
bo (
dg))) (
(Mt f w g h k m n y o p u v ac.2.1).bind λ(av,ar,aw,ax,ay,az,ba,bg,bb,bc,bd,be,bf,au)=>
j33 au ab f w g h k m n y o p u v a av aw ax ay az ba bb bc bd be bf aa ar bg)
else
if(geq ac.1 3)then
(λdj:Option (LB×LB×Int×Int×Int×Int×Int×LI×Int×LB×Bool×Int×(List (Int×LB×Unit))×Int)=>
(λdk:Option (LB×LB×Int×Int×Int×Int×Int×LI×Int×LB×Bool×Int×(List (Int×LB×Unit))×Int)=>
(λdl:Option (LB×LB×Int×Int×Int×Int×Int×LI×Int×LB×Bool×Int×(List (Int×LB×Unit))×Int)=>
both (
dl) [
dl,
dk]) (
both (
dk) [
dj])) (
bo (
dj))) (
(Lg f w g h k m n y o p u v).bind λ(bi,bt,bj,bk,bl,bm,bn,bu,bp,bq,br,bs,bh)=>
j34 bh ab f w g h k m n y o p u v a bi bj bk bl bm bn bp bq br bs aa bt bu)
else
j29 ab f g h k m n o p u v a aa w y
else
j31 aa f g h k m n o p u v a w y
theorem AL: @Jl= @Lc:=by
  unfold Jl Lc
  try simp only[Nn,Hm,Ht]
  all_goals
    repeat (refine funext λ_=>?_)
    repeat' first
      |with_reducible rfl
      |with_reducible refine Dy ?_ ?_
      |with_reducible refine Dx ?_ ?_ ?_
      |with_reducible refine Ea ?_ ?_ ?_ ?_
      |((with_reducible refine Fp ?_ ?_);focus (intro h;first|(subst h;rfl)|(simp only[h];rfl)|(simp[Bv,Aa,h];done)))
      |with_reducible refine Fh λx=>?_
      |with_reducible refine Hn (λ_=>?_) (λ_=>?_)
      |(refine Ci (λh=>by simp only[h,Fm,Br,Bp,ite_self]) (λx h=>?_);(try simp only[h,Br]))
      |(refine Cx (λh=>?_) (λh=>?_)<;>simp only[h,if_true,if_false,Bool.false_eq_true])
abbrev R_:=(LB×LB×Int×Int×Int×Int×Int×LI×Int×LB×Bool×Int×(List (Int×LB×Unit))×Int)
abbrev K_:=S->Option R_
def H:Hd:=⟨[Ss,Sb,.lf (.list (.cons (.int .u8) (.cons (.int .i64) .nil))) none],[.agg [Ss,Ob 5,.agg [Si,Si,Si,Si,Si],Ol 3,Si,Sb,Sz,Si],.lf (.list (.cons (.int .i64) (.cons (.list (.int .u8)) .nil))) (some 74),Si],(.seq .d (.seq .d (.seq .d (.seq .d (.seq .d (.cut [6,12,13] [] (.keep [6,12,13,35] true) .d)))))),kt [F8.k,F14.k,F15.k,F16.k,F30.k] false,[(76,(.seq .d (.seq .d (.seq .d (.cut [6] [] (.seq .d (.blk (.loop [5,6,19,20,21] [⟨5,[0,0,5],.ro (.int .u8)⟩,⟨6,[],.own 74 (.cons (.int .i64) (.cons (.list (.int .u8)) .nil))⟩] (.seq .d (.seq .d (.cut [5,6,19,20,21] [] (.blk (.seq .d (.seq .d (.seq .d (.cond (.keep [5,6,19,20,21,33,37,38,39] true) .d))))) .d)))))) .d))))),(144,(.seq .d (.seq .d (.cut [0,1,4,5,6] [] (.mode false) (.seq (.mode false) .d))))),(145,(.seq .d (.cut [0,4,5,6,7] [] (.mode false) .d))),(146,(.seq .d (.cut [0,4,5,6] [] (.mode false) .d)))],f27⟩
def t17(b:List (UInt8×Int×Unit))(ab:Int)(f:LB)(g h k m n o:Int)(p:LB)(u:Bool)(v:Int)(a:LB)(aa:List (Int×LB×Unit))(w:LB)(y:LI):S:=⟨[(5,.mp [1,2,3] [.bfn 144 [.ptr 0 []],.bfn 145 [.ptr 0 []],.bfn 146 [.ptr 0 []]]),(6,.own 1),(19,.val (.list (.cons (.int .u8) (.cons (.int .i64) .nil))) b),(20,vi (Aa b)),(21,vi ab)],[.box 129 (.agg [.agg [vs f,.own 3,.agg [vi g,vi h,vi k,vi m,vi n],.own 4,vi o,vb p,vt u,vi v],.fn 14 [],.fn 15 [],.fn 16 [],vb a]),.arr 74 (.cons (.int .i64) (.cons (.list (.int .u8)) .nil)) aa,.box 28 (.agg [vs ([]:LB),.nils,.agg [vi 0,vi 0,vi 0,vi 0,vi 0],.nils,vi 0,.nils,vt false,vi 0]),Ab 5 w,Ai 3 y],[[(6,.ptr 2 []),(12,.ptr 0 [])]]⟩
def z17:Nat->S->Option R_:=H.i P_ [r,r,r,r,r,l,(call 2 76),r,r,r,l,r,d]
def x26(YP:K_)(b:List (UInt8×Int×Unit))(ac:UInt8×Int×Unit)(a:LB)(ad ab:Int)(f w:LB)(g h k m n:Int)(y:LI)(o:Int)(p:LB)(u:Bool)(v:Int)(ae:LB)(af ag ah ai aj ak:Int)(al:LB)(am:Bool)(an:Int)(aa:List (Int×LB×Unit))(ao:LB)(ap:LI):Option R_:=H.e P_ [r,r,r,r,r,l,(call 2 76),r,r,r,l,r,d,(lp YP),r,r,l,d,r,r,r,l,(call 4 144),r,r,r] ⟨[(0,.ptr 0 []),(1,vi (Cq ac.2.1 (Aa a))),(4,.ptr 1 []),(5,.ptr 2 []),(6,vi ad)],[.box 129 (.agg [.agg [vs f,vb w,.agg [vi g,vi h,vi k,vi m,vi n],vl y,vi o,vb p,vt u,vi v],.fn 14 [],.fn 15 [],.fn 16 [],vb a]),.box 74 (.agg [vi 0,.nils]),.box 28 (.agg [vs ae,.own 5,.agg [vi af,vi ag,vi ah,vi ai,vi aj],.own 6,vi ak,vb al,vt am,vi an]),.arr 74 (.cons (.int .i64) (.cons (.list (.int .u8)) .nil)) aa,.box 28 (.agg [vs ([]:LB),.nils,.agg [vi 0,vi 0,vi 0,vi 0,vi 0],.nils,vi 0,.nils,vt false,vi 0]),Ab 5 ao,Ai 3 ap],[[(5,.mp [1,2,3] [.bfn 144 [.ptr 0 []],.bfn 145 [.ptr 0 []],.bfn 146 [.ptr 0 []]]),(6,.own 3),(19,.val (.list (.cons (.int .u8) (.cons (.int .i64) .nil))) b),(20,vi (Aa b)),(21,vi ab),(33,.own 3)],[(6,.ptr 4 []),(12,.ptr 0 [])]]⟩
theorem e26(YP:K_)(b:List (UInt8×Int×Unit)):x26 YP b=Uf (λab f g h k m n o p u v a aa w y=>YP (t17 b ab f g h k m n o p u v a aa w y)) b:=Eq.trans (b:=Jw (Eg (λab f g h k m n o p u v a aa w y=>YP (t17 b ab f g h k m n o p u v a aa w y)) b) b) F0 (by rw[AN];rfl)
theorem i17(b:List (UInt8×Int×Unit)):∀(q:Nat) (ab:Int) (f:LB) (g h k m n o:Int) (p:LB) (u:Bool) (v:Int) (a:LB) (aa:List (Int×LB×Unit)) (w:LB) (y:LI),z17 q (t17 b ab f g h k m n o p u v a aa w y)=Ec b q ab f g h k m n o p u v a aa w y:=
 ind (λ_ _ _ _ _ _ _ _ _ _ _ _ _ _ _=>by kernel_rfl) λq ih ab f g h k m n o p u v a aa w y=>Eq.trans (b:=Jl (x26 (z17 q) b) (Sn (λab f g h k m n o p u v a aa w y=>(z17 q) (t17 b ab f g h k m n o p u v a aa w y)) b) (Tg (λab f g h k m n o p u v a aa w y=>(z17 q) (t17 b ab f g h k m n o p u v a aa w y)) b) (Eg (λab f g h k m n o p u v a aa w y=>(z17 q) (t17 b ab f g h k m n o p u v a aa w y)) b) Sp b ab f g h k m n o p u v a aa w y) F0 (by rw[AL];simp only[e26,ih]<;>rfl)
def k:Kc P_ gl:=⟨(27,⟨H.p,H.r,u3 GK⟩),co H func27 (λx=>Eq.trans (b:=u3 (Vv (λb ab f g h k m n o p u v a aa w y=>z17 Bi (t17 b ab f g h k m n o p u v a aa w y))) x) F0 (by simp only[i17,Ah]<;>rfl))⟩
end F27
namespace F36
abbrev R_:=(Int×Int×Int)
abbrev K_:=S->Option R_
def H:Hd:=⟨[Ss,Sb,.lf (.list (.cons (.int .u8) (.cons (.int .i64) .nil))) none],[Si,Si,Si],(.seq .d (.seq .d (.seq .d (.seq .d (.cut [6,7] [] (.seq .d (.blk (.loop [1,6,7,12,37,38,39] [⟨12,[5],.ro (.int .u8)⟩] (.seq .d (.seq .d (.seq (.blk (.seq .d (.cut [1,6,7,12,37,38,39] [] (.seq .d (.blk (.seq .d (.cond (.seq .d (.seq (.mode false) .d)) .d)))) .d))) .d)))))) .d))))),kt [F8.k,F14.k,F15.k,F16.k,F27.k,F34.k] false,[],f36⟩
def t7(a:List (UInt8×Int×Unit))(h:LB)(b f g:Int)(k:LB)(m n o p u v:Int)(w:LB)(y:Bool)(aa:Int)(ab:LB)(ac:LI):S:=⟨[(1,vb h),(6,vi b),(7,vi f),(12,.ptr 0 []),(37,.val (.list (.cons (.int .u8) (.cons (.int .i64) .nil))) a),(38,vi (Aa a)),(39,vi g)],[.box 28 (.agg [vs k,.own 1,.agg [vi m,vi n,vi o,vi p,vi u],.own 2,vi v,vb w,vt y,vi aa]),Ab 5 ab,Ai 3 ac],[]⟩
def z7:Nat->S->Option R_:=H.i P_ [r,r,r,r,l,r,d]
theorem i7(a:List (UInt8×Int×Unit)):∀(q:Nat) (h:LB) (b f g:Int) (k:LB) (m n o p u v:Int) (w:LB) (y:Bool) (aa:Int) (ab:LB) (ac:LI),z7 q (t7 a h b f g k m n o p u v w y aa ab ac)=Rw a q h b f g k m n o p u v w y aa ab ac:=
 ind (λ_ _ _ _ _ _ _ _ _ _ _ _ _ _ _ _=>by kernel_rfl) λq ih h b f g k m n o p u v w y aa ab ac=>Eq.trans (b:=CJ (Ym (λh b f g k m n o p u v w y aa ab ac=>(z7 q) (t7 a h b f g k m n o p u v w y aa ab ac)) a) Yq a h b f g k m n o p u v w y aa ab ac) F0 (by simp only[ih]<;>rfl)
def k:Kc P_ gl:=⟨(36,⟨H.p,H.r,u3 Nf⟩),co H func36 (λx=>Eq.trans (b:=u3 (CN (λa h b f g k m n o p u v w y aa ab ac=>z7 Bi (t7 a h b f g k m n o p u v w y aa ab ac))) x) F0 (by simp only[i7,Ah]<;>rfl))⟩
end F36
namespace F71
def H:Hd:=⟨[.agg [Si,Si],Si,Ss],[.agg [.agg [Si,Si],Si,Ss,Ob 5,Ow 21,.lf (.list (.list (.int .u8))) (some 22),Ob 5,Sz,Si],Si],.d,kt [F130.k] false,[],f71⟩
def k:Kc P_ gl:=⟨(71,⟨H.p,H.r,u4 CQ⟩),co H func71⟩
end F71
namespace F139
abbrev R_:=(Int×Int×Int×LB×LB×LX×(List LB)×LB×Bool×Int)
def H:Hd:=⟨[.agg [.agg [Si,Si],Si,Ss,Sb,Sw,.lf (.list (.list (.int .u8))) none,Sb,Sz,Si]],[.agg [.agg [Si,Si],Si,Ss,Ob 5,Ow 21,.lf (.list (.list (.int .u8))) (some 22),Ob 5,Sz,Si]],(.seq .d (.cut [1,2] [] .d (.seq .d (.seq .d (.cut [1,2,3] [] (.seq .d (.blk (.loop [1,2,3,26,27] [] .d))) .d))))),kt [F140.k,F200.k] false,[],f139⟩
def t6(w a:List LB)(b f g:Int)(h:LB)(k:Bool)(m:Int)(n:LB)(o:LX)(p:LB)(v:Int)(u:List LB):S:=⟨[(1,.ptr 0 []),(2,.ptr 1 []),(3,.own 2),(26,vi (Aa (YB w a))),(27,vi v)],[.box 64 (.agg [.agg [vi b,vi f],vi g,vs h,.own 3,.own 4,.val (.list (.list (.int .u8))) a,.own 5,vt k,vi m]),.box 64 (.agg [.agg [vi 0,vi 0],vi 0,vs ([]:LB),.nils,.nils,.nils,.nils,vt false,vi 0]),.arr 22 (.list (.int .u8)) u,Ab 5 n,Aw 21 o,Ab 5 p],[]⟩
def z6:Nat->S->Option R_:=H.i P_ [r,r,r,r,l,r,d]
theorem i6(w a:List LB)(b f g:Int)(h:LB)(k:Bool)(m:Int)(n:LB)(o:LX)(p:LB):∀(q:Nat) (v:Int) (u:List LB),z6 q (t6 w a b f g h k m n o p v u)=Oj w a b f g h k m n o p q v u:=
 ind (λ_ _=>by kernel_rfl) λq ih v u=>Eq.trans (b:=AE Zi (λv u=>(z6 q) (t6 w a b f g h k m n o p v u)) w a b f g h k m n o p v u) F0 (by simp only[ih]<;>rfl)
def k:Kc P_ gl:=⟨(139,⟨H.p,H.r,rU Xu⟩),co H func139 (λx=>Eq.trans (b:=rU (Yv (Zm (λw a b f g h k m n o p v u=>z6 Bi (t6 w a b f g h k m n o p v u)))) x) F0 (by simp only[i6,Ah]<;>rfl))⟩
end F139
namespace F131
abbrev R_:=(Int×Int×Int×LB×LB×LX×(List LB)×LB×Bool×Int×Int×Int)
def H:Hd:=⟨[.agg [.agg [Si,Si],Si,Ss,Sb,Sw,.lf (.list (.list (.int .u8))) none,Sb,Sz,Si]],[.agg [.agg [Si,Si],Si,Ss,Ob 5,Ow 21,.lf (.list (.list (.int .u8))) (some 22),Ob 5,Sz,Si],Si,Si],(.seq .d (.seq .d (.seq .d (.cut [1,2,6,7] [] .d .d)))),kt [F81.k,F139.k,F198.k] false,[],f131⟩
def k:Kc P_ gl:=⟨(131,⟨H.p,H.r,rU Va⟩),co H func131⟩
end F131
namespace F88
abbrev R_:=(LX×Int)
abbrev K_:=S->Option R_
def H:Hd:=⟨[Si,Sb],[Ow 21,Si],(.seq .d (.seq .d (.seq .d (.seq .d (.seq .d (.seq .d (.cut [10] [] (.seq .d (.blk (.loop [0,1,9,10,11] [⟨10,[],.own 21 (.int .i32)⟩] (.seq .d (.cut [0,1,9,10,11] [] (.blk (.seq .d (.seq .d (.cut [0,1,9,10,11,12] [] (.seq .d (.blk (.loop [0,1,9,10,11,12,53,54] [] .d))) .d)))) .d))))) .d))))))),kt [F152.k] false,[],f88⟩
def t25(a:Int)(b:LB)(f:Int)(g:LX)(k:Int32)(h:Int):S:=⟨[(0,vi a),(1,vb b),(9,vi (Fx a (8:Int))),(10,.own 0),(11,vi f),(12,vx k),(53,vi (Fx a (8:Int))),(54,vi h)],[Aw 21 g],[]⟩
def z25(Ek:K_):Nat->S->Option R_:=H.i P_ [r,r,r,r,r,r,l,r,d,(lp Ek),r,l,d,r,r,l,r,d]
def t16(a:Int)(b:LB)(f:Int)(g:LX):S:=⟨[(0,vi a),(1,vb b),(9,vi (Fx a (8:Int))),(10,.own 0),(11,vi f)],[Aw 21 g],[]⟩
def z16:Nat->S->Option R_:=H.i P_ [r,r,r,r,r,r,l,r,d]
def x25(Ek:K_)(a:Int)(b:LB)(f:Int)(g:LX)(k:Int32)(h:Int):Option R_:=H.e P_ [r,r,r,r,r,r,l,r,d,(lp Ek),r,l,d,r,r,l,r,d] (t25 a b f g k h)
theorem i25(Ek:K_)(a:Int)(b:LB)(f:Int)(g:LX):∀(q:Nat) (k:Int32) (h:Int),z25 Ek q (t25 a b f g k h)=Lh (λf g=>Ek (t16 a b f g)) a b f g q k h:=
 ind (λ_ _=>by kernel_rfl) λq ih k h=>Eq.trans (b:=Tk (Tn (λf g=>Ek (t16 a b f g)) a b) (λk h=>(z25 Ek q) (t25 a b f g k h)) a b f g k h) F0 (by simp only[ih]<;>rfl)
theorem e25(Ek:K_)(a:Int)(b:LB):x25 Ek a b=Tx (λf g=>Ek (t16 a b f g)) a b:=by funext f g k h;exact Eq.trans F0 ((i25 Ek a b f g Bi k h).trans (by rw[Ah];rfl))
theorem i16(a:Int)(b:LB):∀(q:Nat) (f:Int) (g:LX),z16 q (t16 a b f g)=Hl a b q f g:=
 ind (λ_ _=>by kernel_rfl) λq ih f g=>Eq.trans (b:=Ue (Kw (λf g=>(z16 q) (t16 a b f g)) a b) (x25 (z16 q) a b) Tp a b f g) F0 (by simp only[e25,ih]<;>rfl)
def k:Kc P_ gl:=⟨(88,⟨H.p,H.r,u2 FZ⟩),co H func88 (λx=>Eq.trans (b:=u2 (Wf (λa b f g=>z16 Bi (t16 a b f g))) x) F0 (by simp only[i16,Ah]<;>rfl))⟩
end F88
namespace F218
def H:Hd:=⟨[.agg [Si,Si],Sw],[Si],.d,kt [F151.k,F191.k] false,[],f218⟩
def k:Kc P_ gl:=⟨(218,⟨H.p,H.r,u3 FU⟩),co H func218⟩
end F218
namespace F219
abbrev R_:=(LX×Int)
abbrev K_:=S->Option R_
def H:Hd:=⟨[Si,Sw],[Ow 21,Si],(.seq .d (.seq .d (.seq .d (.cut [7] [] (.seq .d (.blk (.loop [0,7,8] [] (.seq .d (.cut [0,7,8] [] (.blk (.keep [0,7,8,24,25,26,27,28,29] true)) .d))))) .d)))),kt [F200.k,F254.k] true,[(255,(.seq .d (.cut [0,2] [] (.seq .d (.blk (.loop [0,2,7,8] [] .d))) .d)))],f219⟩
def t17(b a f:Int)(g:LX):S:=⟨[(0,.view true 0 [] (.int .i32) a ((Ac a b)-a)),(2,vi (Ak ((Ac a b)-a) (1:Int))),(7,vi (Ak ((Ac a b)-a) (1:Int))),(8,vi f)],[Aw 21 g],[[(0,vi b),(7,.own 0),(8,vi a),(24,.own 0),(25,vi a),(26,vi a),(27,vi b),(28,vi (Ac a b)),(29,.view true 0 [] (.int .i32) a ((Ac a b)-a))]]⟩
def z17(Om:K_):Nat->S->Option R_:=H.i P_ [r,r,r,l,r,d,(lp Om),r,l,d,(call 6 255),r,l,r,d]
def t12(b a:Int)(h:LX):S:=⟨[(0,vi b),(7,.own 0),(8,vi a)],[Aw 21 h],[]⟩
def z12:Nat->S->Option R_:=H.i P_ [r,r,r,l,r,d]
def x17(Om:K_)(b a f:Int)(g:LX):Option R_:=H.e P_ [r,r,r,l,r,d,(lp Om),r,l,d,(call 6 255),r,l,r,d] (t17 b a f g)
theorem i17(Om:K_)(b a:Int):∀(q:Nat) (f:Int) (g:LX),z17 Om q (t17 b a f g)=CX (λa h=>Om (t12 b a h)) b a q f g:=
 ind (λ_ _=>by kernel_rfl) λq ih f g=>Eq.trans (b:=QC (QG (λa h=>Om (t12 b a h)) b) (λf g=>(z17 Om q) (t17 b a f g)) b a f g) F0 (by simp only[ih]<;>rfl)
theorem e17(Om:K_)(b:Int):x17 Om b=QQ (λa h=>Om (t12 b a h)) b:=by funext a f g;exact Eq.trans F0 ((i17 Om b a Bi f g).trans (by rw[Ah];rfl))
theorem i12(b:Int):∀(q:Nat) (a:Int) (h:LX),z12 q (t12 b a h)=DU b q a h:=
 ind (λ_ _=>by kernel_rfl) λq ih a h=>Eq.trans (b:=QN (x17 (z12 q) b) QE b a h) F0 (by simp only[e17,ih]<;>rfl)
def k:Kc P_ gl:=⟨(219,⟨H.p,H.r,u2 lK⟩),co H func219 (λx=>Eq.trans (b:=u2 (VU (λb a h=>z12 Bi (t12 b a h))) x) F0 (by simp only[i12,Ah]<;>rfl))⟩
end F219
namespace F259
def H:Hd:=⟨[.agg [Si,.lf (.vec 16 (.int .i32)) none,.lf (.vec 16 (.int .i32)) none],Sx],[Sx,.agg [Si,.lf (.vec 16 (.int .i32)) none,.lf (.vec 16 (.int .i32)) none],Si],.d,kt [F275.k,F276.k] false,[],f259⟩
def k:Kc P_ gl:=⟨(259,⟨H.p,H.r,u4 EB⟩),co H func259⟩
end F259
namespace F221
def Ll(a:Int)(b:Int32)(f:Int)(g h:LX)(k:Int32):Option (Int32×Int×Int32×Int×LX×LX×Int):=
(Nc a b f g h).bind λm=>
if(Bg m 0)then
some (0,0,0,0,(List.replicate 16 (0:Int32)),(List.replicate 16 (0:Int32)),m)
else
(Nd a b).bind λ(n,y)=>
(EB f g h (Ak k n)).bind λ(o,p,u,v,w)=>
bo (
some (o,a,k,p,u,v,w))
theorem DH: @Ll= @Mq:=by
  unfold Ll Mq;simp only[Nn,Hm,Ht]
def H:Hd:=⟨[.agg [Si,Sx,.agg [Si,.lf (.vec 16 (.int .i32)) none,.lf (.vec 16 (.int .i32)) none]],Sx],[Sx,.agg [Si,Sx,.agg [Si,.lf (.vec 16 (.int .i32)) none,.lf (.vec 16 (.int .i32)) none]],Si],(.seq .d (.seq .d (.seq .d (.seq .d (.seq (.mode false) .d))))),kt [F257.k,F258.k,F259.k] false,[],f221⟩
def k:Kc P_ gl:=⟨(221,⟨H.p,H.r,u6 Mq⟩),co H func221 (λx=>Eq.trans (b:=u6 Ll x) F0 (by simp only[DH]<;>rfl))⟩
end F221
namespace F222
def H:Hd:=⟨[Sx],[Su],.d,kt [] false,[],f222⟩
def k:Kc P_ gl:=⟨(222,⟨H.p,H.r,ZZ⟩),co H func222⟩
end F222
namespace F175
abbrev R_:=(LU×Int)
def H:Hd:=⟨[.agg [Si,Si],.lf (.vec 16 (.int .i32)) none,Sw],[Ov 168,Si],(.seq .d (.seq .d (.seq .d (.seq .d (.seq .d (.cut [3,9,11] [] (.seq .d (.blk (.loop [3,4,9,11,36] [] .d))) (.seq .d (.cut [13] [] (.seq .d (.blk (.loop [3,11,13,49,50,51] [⟨13,[],.own 168 (.int .u32)⟩] .d))) .d)))))))),kt [F218.k,F219.k,F220.k,F221.k,F222.k] false,[],f175⟩
def t10(b:LX)(a f g:Int)(k:List (Int×Int32×(Int×LX×LX×Unit)×Unit))(h:LU):S:=⟨[(3,.ptr 0 []),(11,.ptr 1 []),(13,.own 2),(49,.own 3),(50,vi (Aa b)),(51,vi g)],[.box 61 (.agg [vi a,vi f]),.box 316 (.val (.vec 6 (.cons (.int .i64) (.cons (.int .i32) (.cons (.cons (.int .i64) (.cons (.vec 16 (.int .i32)) (.cons (.vec 16 (.int .i32)) .nil))) .nil)))) k),Av 168 h,Aw 21 b],[]⟩
def z10:Nat->S->Option R_:=H.i P_ [r,r,r,r,r,r,r,l,r,d]
def t7(a f:Int)(n b:LX)(o:Int)(m:List (Int×Int32×(Int×LX×LX×Unit)×Unit)):S:=⟨[(3,.ptr 0 []),(4,.ptr 1 []),(9,.own 2),(11,.ptr 3 []),(36,vi o)],[.box 61 (.agg [vi a,vi f]),.box 157 (.val (.vec 16 (.int .i32)) n),Aw 21 b,.box 316 (.val (.vec 6 (.cons (.int .i64) (.cons (.int .i32) (.cons (.cons (.int .i64) (.cons (.vec 16 (.int .i32)) (.cons (.vec 16 (.int .i32)) .nil))) .nil)))) m)],[]⟩
def z7:Nat->S->Option R_:=H.i P_ [r,r,r,r,r,l,r,d]
def x10(b:LX)(a f g:Int)(k:List (Int×Int32×(Int×LX×LX×Unit)×Unit))(h:LU):Option R_:=H.e P_ [r,r,r,r,r,r,r,l,r,d] (t10 b a f g k h)
theorem i10(b:LX)(a f:Int):∀(q:Nat) (g:Int) (k:List (Int×Int32×(Int×LX×LX×Unit)×Unit)) (h:LU),z10 q (t10 b a f g k h)=Js b a f q g k h:=
 ind (λ_ _ _=>by kernel_rfl) λq ih g k h=>Eq.trans (b:=Ro Ry (λg k h=>(z10 q) (t10 b a f g k h)) b a f g k h) F0 (by simp only[ih]<;>rfl)
theorem e10:x10=Qf:=by funext b a f g k h;exact Eq.trans F0 ((i10 b a f Bi g k h).trans (by rw[Ah];rfl))
theorem i7(a f:Int)(n b:LX):∀(q:Nat) (o:Int) (m:List (Int×Int32×(Int×LX×LX×Unit)×Unit)),z7 q (t7 a f n b o m)=Kz a f n b q o m:=
 ind (λ_ _=>by kernel_rfl) λq ih o m=>Eq.trans (b:=Sr (Sm x10) (λo m=>(z7 q) (t7 a f n b o m)) a f n b o m) F0 (by simp only[e10,ih]<;>rfl)
def k:Kc P_ gl:=⟨(175,⟨H.p,H.r,u4 BO⟩),co H func175 (λx=>Eq.trans (b:=u4 (Th (λa f n b o m=>z7 Bi (t7 a f n b o m))) x) F0 (by simp only[i7,Ah]<;>rfl))⟩
end F175
namespace F176
abbrev R_:=((List (Int×Int×UInt64×UInt64×Unit)))
def H:Hd:=⟨[],[.lf (.vec 6 (.cons (.int .i64) (.cons (.int .i64) (.cons (.int .u64) (.cons (.int .u64) .nil))))) none],(.seq .d (.seq .d (.cut [0,1] [] (.seq .d (.blk (.loop [0,1,3] [] .d))) .d))),kt [F223.k] false,[],f176⟩
def t4(b:Int)(a:List (Int×Int×UInt64×UInt64×Unit)):S:=⟨[(0,.ptr 0 []),(1,.ptr 1 []),(3,vi b)],[.box 258 (.val (.vec 6 (.cons (.int .i64) (.cons (.int .i64) (.cons (.int .u64) (.cons (.int .u64) .nil))))) (List.replicate 6 ((0:Int),(0:Int),(0:UInt64),(0:UInt64),()))),.box 258 (.val (.vec 6 (.cons (.int .i64) (.cons (.int .i64) (.cons (.int .u64) (.cons (.int .u64) .nil))))) a)],[]⟩
def z4:Nat->S->Option R_:=H.i P_ [r,r,l,r,d]
theorem i4:∀(q:Nat) (b:Int) (a:List (Int×Int×UInt64×UInt64×Unit)),z4 q (t4 b a)=Kn q b a:=
 ind (λ_ _=>by kernel_rfl) λq ih b a=>Eq.trans (b:=Uc Tw (λb a=>(z4 q) (t4 b a)) b a) F0 (by simp only[ih]<;>rfl)
def k:Kc P_ gl:=⟨(176,⟨H.p,H.r,λ_=>CO⟩),co H func176 (λx=>Eq.trans (b:=Te (λb a=>z4 Bi (t4 b a))) F0 (by simp only[i4,Ah]<;>rfl))⟩
end F176
namespace F260
def H:Hd:=⟨[.agg [Sb,Si]],[.agg [Ob 5,Si]],.d,kt [F140.k] false,[],f260⟩
def k:Kc P_ gl:=⟨(260,⟨H.p,H.r,u2 OG⟩),co H func260⟩
end F260
namespace F227
abbrev R_:=(LB×Int×Int)
abbrev K_:=S->Option R_
def H:Hd:=⟨[.agg [Sb,Si],Sq,Si],[.agg [Ob 5,Si],Si],(.seq .d (.seq .d (.seq .d (.cut [3,6] [] (.keep [1,2,3,6,40,41] true) .d)))),kt [F224.k,F260.k] false,[(261,(.blk (.loop [0,1,2] [] (.seq .d (.blk (.cut [0,1,2] [] .d (.seq .d (.cut [0,1,2,7] [] .d .d))))))))],f227⟩
def t15(b:UInt64)(a:Int)(m:UInt64)(h f:Int)(o:LB):S:=⟨[(0,.ptr 0 []),(1,vq m),(2,vi h)],[.box 261 (.agg [.own 2,vi f]),.box 261 (.agg [.nils,vi 0]),Ab 5 o],[[(1,vq b),(2,vi a),(3,.ptr 0 []),(6,.ptr 1 []),(40,vq b),(41,vi a)]]⟩
def z15:Nat->S->Option R_:=H.i P_ [r,r,r,l,(call 2 261),d]
def t22(b:UInt64)(a:Int)(n:UInt64)(k g:Int)(p:LB):S:=⟨[(0,.ptr 0 []),(1,vq n),(2,vi k)],[.box 261 (.agg [.own 2,vi g]),.box 261 (.agg [.nils,vi 0]),Ab 5 p],[[(1,vq b),(2,vi a),(3,.ptr 0 []),(6,.ptr 1 []),(40,vq b),(41,vi a)]]⟩
def z22:Nat->S->Option R_:=H.i P_ [r,r,r,l,(call 2 261),d]
theorem i15(b:UInt64)(a:Int):∀(q:Nat) (m:UInt64) (h f:Int) (o:LB),z15 q (t15 b a m h f o)=Xh b a q m h f o:=
 ind (λ_ _ _ _=>by kernel_rfl) λq ih m h f o=>Eq.trans (b:=KO (KK (λm h f o=>(z15 q) (t15 b a m h f o)) b a) JU b a m h f o) F0 (by simp only[ih]<;>rfl)
theorem i22(b:UInt64)(a:Int):∀(q:Nat) (n:UInt64) (k g:Int) (p:LB),z22 q (t22 b a n k g p)=Xn b a q n k g p:=
 ind (λ_ _ _ _=>by kernel_rfl) λq ih n k g p=>Eq.trans (b:=JE (KY (λn k g p=>(z22 q) (t22 b a n k g p)) b a) MJ b a n k g p) F0 (by simp only[ih]<;>rfl)
def k:Kc P_ gl:=⟨(227,⟨H.p,H.r,u4 CZ⟩),co H func227 (λx=>Eq.trans (b:=u4 (QP (λb a m h f o=>z15 Bi (t15 b a m h f o)) (λb a n k g p=>z22 Bi (t22 b a n k g p))) x) F0 (by simp only[i15,i22,Ah]<;>rfl))⟩
end F227
namespace F277
def H:Hd:=⟨[Si],[Si,Si],.d,kt [] false,[],f277⟩
def k:Kc P_ gl:=⟨(277,⟨H.p,H.r,MA⟩),co H func277⟩
end F277
namespace F263
def H:Hd:=⟨[.agg [Sb,Si],Si],[.agg [Ob 5,Si],Si],.d,kt [F224.k,F227.k,F277.k] false,[],f263⟩
def k:Kc P_ gl:=⟨(263,⟨H.p,H.r,u3 RG⟩),co H func263⟩
end F263
namespace F228
abbrev R_:=(LB×Int×Int)
def H:Hd:=⟨[.agg [Sb,Si],Su,Si],[.agg [Ob 5,Si],Si],(.seq .d (.seq .d (.seq .d (.seq .d (.cut [3,6,9,10,11] [] .d .d))))),kt [F224.k,F227.k,F262.k,F263.k] false,[],f228⟩
def k:Kc P_ gl:=⟨(228,⟨H.p,H.r,u4 WG⟩),co H func228⟩
end F228
namespace F177
def Of(k u n:Int)(a:UInt64)(b:UInt32)(o:UInt64)(m:LB):Option (LB×Int×Int×Int×UInt64×UInt64×Int):=
(λaf:Option (LB×Int×Int×Int×UInt64×UInt64×Int)=>
both (
bo (
af)) [
af]) (
some (m,k,u,n,(Ac a (Ak (Ap b:UInt64) (Cf a (GI.toZ (4:UInt64)).toNat))),o,0))
theorem IA: @Of= @Rz:=by
  unfold Of Rz
  try simp only[Nn,Hm,Ht]
  all_goals
    repeat (refine funext λ_=>?_)
    repeat' first
      |with_reducible rfl
      |with_reducible refine Dy ?_ ?_
      |with_reducible refine Dx ?_ ?_ ?_
      |with_reducible refine Ea ?_ ?_ ?_ ?_
      |((with_reducible refine Fp ?_ ?_);focus (intro h;first|(subst h;rfl)|(simp only[h];rfl)|(simp[Bv,Aa,h];done)))
      |with_reducible refine Fh λx=>?_
      |with_reducible refine Hn (λ_=>?_) (λ_=>?_)
      |(refine Ci (λh=>by simp only[h,Fm,Br,Bp,ite_self]) (λx h=>?_);(try simp only[h,Br]))
      |(refine Cx (λh=>?_) (λh=>?_)<;>simp only[h,if_true,if_false,Bool.false_eq_true])
abbrev R_:=(LB×Int×Int×Int×UInt64×UInt64×Int)
def H:Hd:=⟨[.agg [Sb,Si],.agg [Si,Si,Sq,Sq],Su],[.agg [Ob 5,Si],.agg [Si,Si,Sq,Sq],Si],(.seq .d (.cut [2,3,4,6,7] [] .d (.seq .d (.seq .d (.cut [2,3,4,6,7,11] [] .d (.seq .d (.cut [3,4,6,7] [] (.keep [2,3,4,6,7,65] true) (.seq (.mode false) .d)))))))),kt [F224.k,F225.k,F226.k,F227.k,F228.k] false,[(229,(.seq .d (.seq .d (.seq .d (.blk (.cut [0,1,4] [] (.blk (.seq .d (.keep [0,1,4,6,18,19,20,21,22,23,24,25] true))) (.cut [] [] (.keep [0,1,4,27,28,29,30,31,32,33,34] true) .d))))))),(264,.d)],f177⟩
def x10(k u n:Int)(a:UInt64)(b:UInt32)(o:UInt64)(m:LB):Option R_:=H.e P_ [r,r,r,r,r,r,r] ⟨[(3,.ptr 0 []),(4,.ptr 1 []),(6,.ptr 2 []),(7,.ptr 3 [])],[.box 261 (.agg [.own 4,vi k]),.box 257 (.agg [vi u,vi n,vq (Ac a (Ak (Ap b:UInt64) (Cf a (GI.toZ (4:UInt64)).toNat))),vq o]),.box 261 (.agg [.nils,vi 0]),.box 257 (.agg [vi 0,vi 0,vq 0,vq 0]),Ab 5 m],[]⟩
def x8(b:UInt32)(f:Int)(a:UInt64)(k:Int)(m:LB)(n:Int)(o:UInt64):Option R_:=H.e P_ [r,r,r,r,r,r,l,(call 1 229),r,r,r,d,r] ⟨[(0,.ptr 0 []),(1,vu b),(4,.fn 264 [])],[.box 257 (.agg [vi f,vi n,vq a,vq o]),.box 261 (.agg [.own 4,vi k]),.box 261 (.agg [.nils,vi 0]),.box 257 (.agg [vi 0,vi 0,vq 0,vq 0]),Ab 5 m],[[(2,vu b),(3,.ptr 1 []),(4,.ptr 0 []),(6,.ptr 2 []),(7,.ptr 3 []),(65,vu b)]]⟩
theorem e10:x10=DS:=Eq.trans (b:=Of) F0 (by rw[IA];rfl)
theorem e8:x8=FT:=Eq.trans (b:=FQ (GM x10)) F0 (by simp only[e10]<;>rfl)
def k:Kc P_ gl:=⟨(177,⟨H.p,H.r,u7 VN⟩),co H func177 (λx=>Eq.trans (b:=u7 (GZ (GU (FM x8))) x) F0 (by simp only[e8]<;>rfl))⟩
end F177
namespace F179
abbrev R_:=LB
def H:Hd:=⟨[.lf (.list (.list (.int .u8))) none],[Ob 5],(.seq .d (.seq .d (.cut [0,3] [] (.seq .d (.blk (.loop [0,3,9,10,11] [] .d))) (.cut [0,6] [⟨6,[],.own 5 (.int .u8)⟩] (.keep [0,3,6,23,24] true) (.cut [6] [] (.seq .d (.blk (.loop [6,25,26,27] [] .d))) .d))))),kt [] true,[(230,(.seq .d (.cut [0,1] [] .d .d)))],f179⟩
def t14(a:List LB)(g:Int)(f:LB):S:=⟨[(6,.own 0),(25,.val (.list (.list (.int .u8))) a),(26,vi (Aa a)),(27,vi g)],[Ab 5 f],[]⟩
def z14:Nat->S->Option R_:=H.i P_ [r,r,r,r,l,r,d]
def t9(a:List LB)(b h:Int):S:=⟨[(0,.val (.list (.list (.int .u8))) a),(3,vi b),(9,.val (.list (.list (.int .u8))) a),(10,vi (Aa a)),(11,vi h)],[],[]⟩
def z9:Nat->S->Option R_:=H.i P_ [r,r,l,r,d]
def x14(a:List LB)(g:Int)(f:LB):Option R_:=H.e P_ [r,r,r,r,l,r,d] (t14 a g f)
theorem i14(a:List LB):∀(q:Nat) (g:Int) (f:LB),z14 q (t14 a g f)=Em a q g f:=
 ind (λ_ _=>by kernel_rfl) λq ih g f=>Eq.trans (b:=Hf Hc (λg f=>(z14 q) (t14 a g f)) a g f) F0 (by simp only[ih]<;>rfl)
theorem e14:x14=Hb:=by funext a g f;exact Eq.trans F0 ((i14 a Bi g f).trans (by rw[Ah];rfl))
theorem i9(a:List LB):∀(q:Nat) (b h:Int),z9 q (t9 a b h)=Fb a q b h:=
 ind (λ_ _=>by kernel_rfl) λq ih b h=>Eq.trans (b:=Hp (Hh (Hk (Hg x14))) (λb h=>(z9 q) (t9 a b h)) a b h) F0 (by simp only[e14,ih]<;>rfl)
def k:Kc P_ gl:=⟨(179,⟨H.p,H.r,Eh⟩),co H func179 (λx=>Eq.trans (b:=Hv (λa b h=>z9 Bi (t9 a b h)) x) F0 (by simp only[i9,Ah]<;>rfl))⟩
end F179
namespace F103
abbrev R_:=(LB×Int)
abbrev K_:=S->Option R_
def H:Hd:=⟨[.agg [Si,Si],.lf (.vec 16 (.int .i32)) none,Sw],[Ob 5,Si],(.seq .d (.seq .d (.seq .d (.seq .d (.seq .d (.cut [11] [] (.seq .d (.blk (.loop [3,10,11,30,31,32] [⟨11,[0],.own 5 (.int .u8)⟩] (.seq .d (.seq .d (.cut [3,10,11,30,31,32] [] (.blk (.seq .d (.seq .d (.seq .d (.seq .d (.keep [3,10,11,14,30,31,32,59] true)))))) .d)))))) .d)))))),kt [F106.k,F107.k,F175.k,F176.k,F177.k,F179.k] false,[(178,(.seq .d (.seq .d (.blk (.loop [0,3,7,8] [] (.seq .d (.seq .d (.seq (.blk (.seq .d (.cut [0,3,4,7,8] [] .d (.seq .d (.cut [0,3,7,8] [] .d .d))))) .d))))))))],f103⟩
def t44(b:LU)(a g h f:Int)(n:List (Int×Int×UInt64×UInt64×Unit))(m:LB)(o k:Int)(w:LB):S:=⟨[(0,.ptr 0 []),(3,.ptr 1 []),(7,vi h),(8,vi o)],[.box 261 (.agg [.own 7,vi k]),.box 261 (.agg [.own 6,vi h]),.box 61 (.agg [vi a,vi g]),.box 258 (.val (.vec 6 (.cons (.int .i64) (.cons (.int .i64) (.cons (.int .u64) (.cons (.int .u64) .nil))))) n),.box 261 (.agg [.own 6,vi h]),Av 168 b,Ab 5 m,Ab 5 w],[[(3,.ptr 2 []),(10,.ptr 3 []),(11,.ptr 0 []),(14,.ptr 4 []),(30,.own 5),(31,vi (Aa b)),(32,vi f),(59,.agg [.own 6,vi h])]]⟩
def z44(Ok:K_):Nat->S->Option R_:=H.i P_ [r,r,r,r,r,l,r,d,(lp Ok),r,r,l,d,r,r,r,r,(call 1 178),r,r,d]
def t27(b:LU)(a g f:Int)(u:List (Int×Int×UInt64×UInt64×Unit))(v:Int)(p:LB):S:=⟨[(3,.ptr 0 []),(10,.ptr 1 []),(11,.ptr 2 []),(30,.own 3),(31,vi (Aa b)),(32,vi f)],[.box 61 (.agg [vi a,vi g]),.box 258 (.val (.vec 6 (.cons (.int .i64) (.cons (.int .i64) (.cons (.int .u64) (.cons (.int .u64) .nil))))) u),.box 261 (.agg [.own 4,vi v]),Av 168 b,Ab 5 p],[]⟩
def z27:Nat->S->Option R_:=H.i P_ [r,r,r,r,r,l,r,d]
def x44(Ok:K_)(b:LU)(a g h f:Int)(n:List (Int×Int×UInt64×UInt64×Unit))(m:LB)(o k:Int)(w:LB):Option R_:=H.e P_ [r,r,r,r,r,l,r,d,(lp Ok),r,r,l,d,r,r,r,r,(call 1 178),r,r,d] (t44 b a g h f n m o k w)
theorem i44(Ok:K_)(b:LU)(a g h f:Int)(n:List (Int×Int×UInt64×UInt64×Unit))(m:LB):∀(q:Nat) (o k:Int) (w:LB),z44 Ok q (t44 b a g h f n m o k w)=Jy (λf u v p=>Ok (t27 b a g f u v p)) b a g h f n m q o k w:=
 ind (λ_ _ _=>by kernel_rfl) λq ih o k w=>Eq.trans (b:=Rr (Qo (λo k w=>(z44 Ok q) (t44 b a g h f n m o k w)) h b f a g n m) (Rt (λf u v p=>Ok (t27 b a g f u v p)) b a g) b a g h f n m o k w) F0 (by simp only[ih]<;>rfl)
theorem e44(Ok:K_)(b:LU)(a g:Int):x44 Ok b a g=Qy (λf u v p=>Ok (t27 b a g f u v p)) b a g:=by funext h f n m o k w;exact Eq.trans F0 ((i44 Ok b a g h f n m Bi o k w).trans (by rw[Ah];rfl))
theorem i27(b:LU)(a g:Int):∀(q:Nat) (f:Int) (u:List (Int×Int×UInt64×UInt64×Unit)) (v:Int) (p:LB),z27 q (t27 b a g f u v p)=Jv b a g q f u v p:=
 ind (λ_ _ _ _=>by kernel_rfl) λq ih f u v p=>Eq.trans (b:=Rb (x44 (z27 q) b a g) Qx b a g f u v p) F0 (by simp only[e44,ih]<;>rfl)
def k:Kc P_ gl:=⟨(103,⟨H.p,H.r,u4 Gf⟩),co H func103 (λx=>Eq.trans (b:=u4 (Tc (λb a g f u v p=>z27 Bi (t27 b a g f u v p))) x) F0 (by simp only[i27,Ah]<;>rfl))⟩
end F103
namespace F137
def H:Hd:=⟨[.agg [.agg [Si,Si],Si,Ss,Sb,Sw,.lf (.list (.list (.int .u8))) none,Sb,Sz,Si],Si],[.agg [.agg [Si,Si],Si,Ss,Ob 5,Ow 21,.lf (.list (.list (.int .u8))) (some 22),Ob 5,Sz,Si],Si],.d,kt [] false,[],f137⟩
def k:Kc P_ gl:=⟨(137,⟨H.p,H.r,qK Lj⟩),co H func137⟩
end F137
namespace F72
abbrev R_:=(Int×Int×Int×LB×LB×LX×(List LB)×LB×Bool×Int×Int)
abbrev K_:=S->Option R_
def H:Hd:=⟨[.agg [.agg [Si,Si],Si,Ss,Sb,Sw,.lf (.list (.list (.int .u8))) none,Sb,Sz,Si],Sb],[.agg [.agg [Si,Si],Si,Ss,Ob 5,Ow 21,.lf (.list (.list (.int .u8))) (some 22),Ob 5,Sz,Si],Si],(.seq .d (.seq .d (.seq .d (.seq .d (.seq .d (.cut [2,4] [] (.seq .d (.blk (.loop [2,4,8,9,27,28,29] [] (.seq .d (.seq .d (.cut [2,4,8,9,27,28,29] [] (.blk (.seq .d (.seq .d (.seq .d (.cut [2,4,8,9,12,27,28,29] [⟨2,[3],.own 5 (.int .u8)⟩,⟨2,[4],.own 21 (.int .i32)⟩,⟨9,[0,3],.own 5 (.int .u8)⟩,⟨9,[0,4],.own 21 (.int .i32)⟩] (.keep [2,4,8,9,12,27,28,29,45] true) .d))))) .d)))))) .d)))))),kt [F88.k,F101.k,F103.k,F131.k,F132.k,F134.k,F135.k,F137.k] false,[(133,(.seq .d (.cut [0,1] [] .d (.seq .d (.seq .d (.seq .d (.seq .d (.cut [2] [] (.keep [2,43] true) .d)))))))),(136,.d)],f72⟩
def t14(p:Int)(n:LB)(a b g:Int)(f:LB)(h:Bool)(k o:Int)(m:LB)(u:Int)(y:LB)(w:LX)(v:List LB):S:=⟨[(2,.ptr 0 []),(4,.ptr 1 []),(8,vi p),(9,.fn 133 [.ptr 0 [],.ptr 2 []]),(27,vb n),(28,vi (Aa n)),(29,vi u)],[.box 64 (.agg [.agg [vi a,vi b],vi g,vs f,.own 3,.own 4,.own 5,.own 6,vt h,vi k]),.box 64 (.agg [.agg [vi 0,vi 0],vi 0,vs ([]:LB),.nils,.nils,.nils,.nils,vt false,vi 0]),.box 3 (vi o),Ab 5 y,Aw 21 w,.arr 22 (.list (.int .u8)) v,Ab 5 m],[]⟩
def z14:Nat->S->Option R_:=H.i P_ [r,r,r,r,r,l,r,d]
theorem i14(p:Int)(n:LB)(a b g:Int)(f:LB)(h:Bool)(k o:Int)(m:LB):∀(q:Nat) (u:Int) (y:LB) (w:LX) (v:List LB),z14 q (t14 p n a b g f h k o m u y w v)=Gb p n a b g f h k o m q u y w v:=
 ind (λ_ _ _ _=>by kernel_rfl) λq ih u y w v=>Eq.trans (b:=Wl (Lw (λu y w v=>(z14 q) (t14 p n a b g f h k o m u y w v)) p n a b g f h k o m) (Gg (λu y w v=>(z14 q) (t14 p n a b g f h k o m u y w v)) p n a b g f h k o m) (Vt (λu y w v=>(z14 q) (t14 p n a b g f h k o m u y w v)) p n a b g f h k o m) Ww p n a b g f h k o m u y w v) F0 (by simp only[ih]<;>rfl)
def k:Kc P_ gl:=⟨(72,⟨H.p,H.r,qK Fj⟩),co H func72 (λx=>Eq.trans (b:=qK (AH (λp n a b g f h k o m u y w v=>z14 Bi (t14 p n a b g f h k o m u y w v))) x) F0 (by simp only[i14,Ah]<;>rfl))⟩
end F72
namespace F74
def H:Hd:=⟨[.agg [.agg [Si,Si],Si,Ss,Sb,Sw,.lf (.list (.list (.int .u8))) none,Sb,Sz,Si],Si],[.agg [.agg [Si,Si],Si,Ss,Ob 5,Ow 21,.lf (.list (.list (.int .u8))) (some 22),Sb,Sz,Si],Ob 5,Si],.d,kt [F81.k,F139.k,F140.k] false,[],f74⟩
def k:Kc P_ gl:=⟨(74,⟨H.p,H.r,qK Mu⟩),co H func74⟩
end F74
namespace F199
def H:Hd:=⟨[Ss],[Si,Si],.d,kt [] false,[],f199⟩
def k:Kc P_ gl:=⟨(199,⟨H.p,H.r,HA⟩),co H func199⟩
end F199
namespace F51
abbrev R_:=(LB×Int)
def H:Hd:=⟨[.agg [Si,Si,Si,Si,Si]],[Ob 5,Si],(.seq .d (.seq .d (.seq .d (.cut [5] [] (.seq .d (.blk (.loop [5,31,32] [] .d))) .d)))),kt [F105.k,F106.k,F107.k] false,[],f51⟩
def t4(b f g h k m:Int)(a:LB):S:=⟨[(5,.own 0),(31,.val (.vec 5 (.int .i64)) ([b,f,g,h,k]:LI)),(32,vi m)],[Ab 5 a],[]⟩
def z4:Nat->S->Option R_:=H.i P_ [r,r,r,l,r,d]
theorem i4(b f g h k:Int):∀(q:Nat) (m:Int) (a:LB),z4 q (t4 b f g h k m a)=Nu b f g h k q m a:=
 ind (λ_ _=>by kernel_rfl) λq ih m a=>Eq.trans (b:=Zy AA (λm a=>(z4 q) (t4 b f g h k m a)) b f g h k m a) F0 (by simp only[ih]<;>rfl)
def k:Kc P_ gl:=⟨(51,⟨H.p,H.r,u5 Xt⟩),co H func51 (λx=>Eq.trans (b:=u5 (AI (λb f g h k m a=>z4 Bi (t4 b f g h k m a))) x) F0 (by simp only[i4,Ah]<;>rfl))⟩
end F51
namespace F53
abbrev R_:=(LB×Int)
abbrev K_:=S->Option R_
def H:Hd:=⟨[Sl],[Ob 5,Si],(.seq .d (.seq .d (.seq .d (.seq .d (.cut [5,6] [] (.seq .d (.blk (.loop [5,6,17,18,19] [⟨5,[],.own 5 (.int .u8)⟩,⟨6,[0],.own 5 (.int .u8)⟩] (.seq .d (.seq .d (.cut [5,6,17,18,19] [] (.blk (.seq .d (.keep [5,6,8,17,18,19,23,24,25] true))) .d)))))) (.seq .d (.cut [5] [] (.keep [5,6,9,33,34,35] true) .d))))))),kt [F106.k,F107.k,F109.k] false,[(110,.d)],f53⟩
def t8(a:LI)(f:Int)(b:LB):S:=⟨[(5,.ptr 0 []),(6,.fn 110 [.ptr 0 []]),(17,vl a),(18,vi (Aa a)),(19,vi f)],[.box 22 (.own 1),Ab 5 b],[]⟩
def z8:Nat->S->Option R_:=H.i P_ [r,r,r,r,l,r,d]
theorem i8(a:LI):∀(q:Nat) (f:Int) (b:LB),z8 q (t8 a f b)=Pz a q f b:=
 ind (λ_ _=>by kernel_rfl) λq ih f b=>Eq.trans (b:=DW (Zg (λf b=>(z8 q) (t8 a f b)) a) Yu a f b) F0 (by simp only[ih]<;>rfl)
def k:Kc P_ gl:=⟨(53,⟨H.p,H.r,Ub⟩),co H func53 (λx=>Eq.trans (b:=BP (λa f b=>z8 Bi (t8 a f b)) x) F0 (by simp only[i8,Ah]<;>rfl))⟩
end F53
namespace F138
def Lz(f g h:Int)(b k:LB)(m:LX)(a:List LB)(n:LB)(o:Bool)(p:Int)(u:LB)(v:LI):Option (LB×Int):=
(Ub v).bind λ(aa,y)=>
if(Bg y 0)then
some (([]:LB),y)
else
(λao:Option (LB×Int)=>
bo (
ao)) (
(Bv u aa).bind λab=>
(Eh a).bind λac=>
(Bv ab ac).bind λad=>
some (ad,0))
theorem FE: @Lz= @Ny:=by
  unfold Lz Ny;simp only[Nn,Hm,Ht]
abbrev R_:=(LB×Int)
def H:Hd:=⟨[.agg [.agg [Si,Si],Si,Ss,Sb,Sw,.lf (.list (.list (.int .u8))) none,Sb,Sz,Si],Si],[Ob 5,Si],(.seq .d (.seq .d (.seq .d (.seq .d (.seq .d (.cut [2,8] [] .d (.seq .d (.cut [2,8,11] [] (.seq .d (.blk (.loop [2,8,11,58,59,60] [⟨11,[],.own 3 (.int .i64)⟩] .d))) (.seq .d (.seq .d (.seq (.mode false) .d))))))))))),kt [F51.k,F52.k,F53.k,F179.k,F199.k] false,[],f138⟩
def t6(a:List LB)(f g h:Int)(b k:LB)(m:LX)(n:LB)(o:Bool)(p:Int)(u:LB)(w:Int)(v:LI):S:=⟨[(2,.ptr 0 []),(8,.own 1),(11,.own 2),(58,.val (.list (.list (.int .u8))) a),(59,vi (Aa a)),(60,vi w)],[.box 64 (.agg [.agg [vi f,vi g],vi h,vs b,vb k,vw m,.val (.list (.list (.int .u8))) a,vb n,vt o,vi p]),Ab 5 u,Ai 3 v],[]⟩
def z6:Nat->S->Option R_:=H.i P_ [r,r,r,r,r,r,r,l,r,d]
def x8(f g h:Int)(b k:LB)(m:LX)(a:List LB)(n:LB)(o:Bool)(p:Int)(u:LB)(v:LI):Option R_:=H.e P_ [r,r,r,r,r,r,r,r] ⟨[(2,.ptr 0 []),(8,.own 1),(11,.own 2)],[.box 64 (.agg [.agg [vi f,vi g],vi h,vs b,vb k,vw m,.val (.list (.list (.int .u8))) a,vb n,vt o,vi p]),Ab 5 u,Ai 3 v],[]⟩
theorem e8:x8=Zf:=Eq.trans (b:=Lz) F0 (by rw[FE];rfl)
theorem i6(a:List LB)(f g h:Int)(b k:LB)(m:LX)(n:LB)(o:Bool)(p:Int)(u:LB):∀(q:Nat) (w:Int) (v:LI),z6 q (t6 a f g h b k m n o p u w v)=Oi a f g h b k m n o p u q w v:=
 ind (λ_ _=>by kernel_rfl) λq ih w v=>Eq.trans (b:=Yz x8 (λw v=>(z6 q) (t6 a f g h b k m n o p u w v)) a f g h b k m n o p u w v) F0 (by simp only[e8,ih]<;>rfl)
def k:Kc P_ gl:=⟨(138,⟨H.p,H.r,qK MU⟩),co H func138 (λx=>Eq.trans (b:=qK (Yo (AF (λa f g h b k m n o p u w v=>z6 Bi (t6 a f g h b k m n o p u w v)))) x) F0 (by simp only[i6,Ah]<;>rfl))⟩
end F138
namespace F73
abbrev R_:=(Int×Int×Int×LB×LB×LX×(List LB)×LB×Bool×Int×Int)
def H:Hd:=⟨[.agg [.agg [Si,Si],Si,Ss,Sb,Sw,.lf (.list (.list (.int .u8))) none,Sb,Sz,Si]],[.agg [.agg [Si,Si],Si,Ss,Ob 5,Ow 21,.lf (.list (.list (.int .u8))) (some 22),Ob 5,Sz,Si],Si],(.seq .d (.seq .d (.seq .d (.seq .d (.seq .d (.cut [1,2,6] [] (.seq .d (.cond (.cut [1,2,6,7] [⟨1,[4],.own 21 (.int .i32)⟩] (.keep [1,2,6,7,38] true) .d) .d)) .d)))))),kt [F101.k,F103.k,F131.k,F135.k,F137.k,F138.k] false,[(136,.d)],f73⟩
def k:Kc P_ gl:=⟨(73,⟨H.p,H.r,rU Kv⟩),co H func73⟩
end F73
namespace F26
def Ju(j29:Int->Int->Int->Int->LB->LB->Bool->Int->LB-> (List (Int×LB×Unit))->LB->LX-> (List LB)->Option (Int×Int×Int×LB×LB×LX×(List LB)×LB×Bool×Int×(List (Int×LB×Unit))×Int))(b:List (UInt8×Int×Unit))(aa:UInt8×Int×Unit)(a:LB)(ab y f g h:Int)(k p:LB)(u:LX)(v:List LB)(m:LB)(n:Bool)(o ac ad ae:Int)(af:LB)(ag:Bool)(ah:Int)(w:List (Int×LB×Unit))(ai:LB)(aj:LX)(ak:List LB)(al:LB):Option (Int×Int×Int×LB×LB×LX×(List LB)×LB×Bool×Int×(List (Int×LB×Unit))×Int):=
(λfj:Option (Int×Int×Int×LB×LB×LX×(List LB)×LB×Bool×Int×(List (Int×LB×Unit))×Int)=>
bo (
fj)) (
(Bo a (Cq aa.2.1 (Aa a)) (Aa a)).bind λbm=>
(Bv w ([(ab,([]:LB),())]:List (Int×LB×Unit))).bind λbn=>
j29 y ac ad ae af al ag ah bm bn ai aj ak)
theorem AQ: @Ju= @Ky:=by
  unfold Ju Ky;simp only[Nn,Hm,Ht]
def Jt(j26:(UInt8×Int×Unit)->LB->Int->Int->Int->Int->Int->LB->LB->LX-> (List LB)->LB->Bool->Int->Int->Int->Int->LB->Bool->Int-> (List (Int×LB×Unit))->LB->LX-> (List LB)->LB->Option (Int×Int×Int×LB×LB×LX×(List LB)×LB×Bool×Int×(List (Int×LB×Unit))×Int))(j33:Int->Int->Int->Int->Int->LB->LB->LX-> (List LB)->LB->Bool->Int->LB->Int->Int->Int->LB->LB->Bool->Int->LB-> (List (Int×LB×Unit))->LB->LX-> (List LB)->Option (Int×Int×Int×LB×LB×LX×(List LB)×LB×Bool×Int×(List (Int×LB×Unit))×Int))(j34:Int->Int->Int->Int->Int->LB->LB->LX-> (List LB)->LB->Bool->Int->LB->Int->Int->Int->LB->Bool->Int-> (List (Int×LB×Unit))->LB->LX-> (List LB)->LB->Option (Int×Int×Int×LB×LB×LX×(List LB)×LB×Bool×Int×(List (Int×LB×Unit))×Int))(j29:Int->Int->Int->Int->LB->LB->Bool->Int->LB-> (List (Int×LB×Unit))->LB->LX-> (List LB)->Option (Int×Int×Int×LB×LB×LX×(List LB)×LB×Bool×Int×(List (Int×LB×Unit))×Int))(j31:(List (Int×LB×Unit))->Int->Int->Int->LB->LB->Bool->Int->LB->LB->LX-> (List LB)->Option (Int×Int×Int×LB×LB×LX×(List LB)×LB×Bool×Int×(List (Int×LB×Unit))×Int))(b:List (UInt8×Int×Unit))(y f g h:Int)(k m:LB)(n:Bool)(o:Int)(a:LB)(w:List (Int×LB×Unit))(p:LB)(u:LX)(v:List LB):Option (Int×Int×Int×LB×LB×LX×(List LB)×LB×Bool×Int×(List (Int×LB×Unit))×Int):=
if(Cb y (Aa b))then
(Al b y).bind λaa=>
if(geq aa.1 1)then
(λbp:Option (Int×Int×Int×LB×LB×LX×(List LB)×LB×Bool×Int×(List (Int×LB×Unit))×Int)=>
(λbs:Option (Int×Int×Int×LB×LB×LX×(List LB)×LB×Bool×Int×(List (Int×LB×Unit))×Int)=>
(λbt:Option (Int×Int×Int×LB×LB×LX×(List LB)×LB×Bool×Int×(List (Int×LB×Unit))×Int)=>
both (
bs) [
bs,
(Bo a 0 (Cq aa.2.1 (Aa a))).bind λam=>
(λbu:Option (Int×Int×Int×LB×LB×LX×(List LB)×LB×Bool×Int×(List (Int×LB×Unit))×Int)=>
(λbv:Option (Int×Int×Int×LB×LB×LX×(List LB)×LB×Bool×Int×(List (Int×LB×Unit))×Int)=>
(λbw:Option (Int×Int×Int×LB×LB×LX×(List LB)×LB×Bool×Int×(List (Int×LB×Unit))×Int)=>
both (
bw) [
bw,
bv]) (
both (
bv) [
bu])) (
bo (
bu))) (
(Fj f g h k p u v m n o am).bind λ(ac,ad,ae,af,ai,aj,ak,al,ag,ah,ab)=>
j26 aa a ab y f g h k p u v m n o ac ad ae af ag ah w ai aj ak al),
both (
bt) [
bt,
(Bo a 0 (Cq aa.2.1 (Aa a))).bind λam=>
(λfk:Option (Int×Int×Int×LB×LB×LX×(List LB)×LB×Bool×Int×(List (Int×LB×Unit))×Int)=>
bo (
fk)) (
(Fj f g h k p u v m n o am).bind λ(ac,ad,ae,af,ai,aj,ak,al,ag,ah,ab)=>
j26 aa a ab y f g h k p u v m n o ac ad ae af ag ah w ai aj ak al)]]) (
bo (
bp))) (
both (
both (
(Bo a 0 (Cq aa.2.1 (Aa a))).bind λam=>
(λfl:Option (Int×Int×Int×LB×LB×LX×(List LB)×LB×Bool×Int×(List (Int×LB×Unit))×Int)=>
bo (
fl)) (
(Fj f g h k p u v m n o am).bind λ(ac,ad,ae,af,ai,aj,ak,al,ag,ah,ab)=>
j26 aa a ab y f g h k p u v m n o ac ad ae af ag ah w ai aj ak al)) [
bp]) [
(Bo a 0 (Cq aa.2.1 (Aa a))).bind λam=>
(λbx:Option (Int×Int×Int×LB×LB×LX×(List LB)×LB×Bool×Int×(List (Int×LB×Unit))×Int)=>
both (
bo (
bx)) [
bx]) (
(Fj f g h k p u v m n o am).bind λ(ac,ad,ae,af,ai,aj,ak,al,ag,ah,ab)=>
j26 aa a ab y f g h k p u v m n o ac ad ae af ag ah w ai aj ak al),
bo (
bp)])) (
(Bo a 0 (Cq aa.2.1 (Aa a))).bind λam=>
(Fj f g h k p u v m n o am).bind λ(ac,ad,ae,af,ai,aj,ak,al,ag,ah,ab)=>
j26 aa a ab y f g h k p u v m n o ac ad ae af ag ah w ai aj ak al)
else
if(geq aa.1 2)then
(λbz:Option (Int×Int×Int×LB×LB×LX×(List LB)×LB×Bool×Int×(List (Int×LB×Unit))×Int)=>
(λda:Option (Int×Int×Int×LB×LB×LX×(List LB)×LB×Bool×Int×(List (Int×LB×Unit))×Int)=>
(λdb:Option (Int×Int×Int×LB×LB×LX×(List LB)×LB×Bool×Int×(List (Int×LB×Unit))×Int)=>
both (
db) [
db,
da]) (
both (
da) [
bz])) (
bo (
bz))) (
(Mu f g h k p u v m n o aa.2.1).bind λ(ao,ap,aq,ar,ay,az,ba,au,av,aw,ax,an)=>
j33 an y f g h k p u v m n o a ao ap aq ar au av aw ax w ay az ba)
else
if(geq aa.1 3)then
(λdc:Option (Int×Int×Int×LB×LB×LX×(List LB)×LB×Bool×Int×(List (Int×LB×Unit))×Int)=>
(λdd:Option (Int×Int×Int×LB×LB×LX×(List LB)×LB×Bool×Int×(List (Int×LB×Unit))×Int)=>
(λde:Option (Int×Int×Int×LB×LB×LX×(List LB)×LB×Bool×Int×(List (Int×LB×Unit))×Int)=>
both (
de) [
de,
dd]) (
both (
dd) [
dc])) (
bo (
dc))) (
(Kv f g h k p u v m n o).bind λ(bc,bd,be,bf,bi,bj,bk,bl,bg,bh,bb)=>
j34 bb y f g h k p u v m n o a bc bd be bf bg bh w bi bj bk bl)
else
j29 y f g h k m n o a w p u v
else
j31 w f g h k m n o a p u v
theorem AP: @Jt= @Lb:=by
  unfold Jt Lb
  try simp only[Nn,Hm,Ht]
  all_goals
    repeat (refine funext λ_=>?_)
    repeat' first
      |with_reducible rfl
      |with_reducible refine Dy ?_ ?_
      |with_reducible refine Dx ?_ ?_ ?_
      |with_reducible refine Ea ?_ ?_ ?_ ?_
      |((with_reducible refine Fp ?_ ?_);focus (intro h;first|(subst h;rfl)|(simp only[h];rfl)|(simp[Bv,Aa,h];done)))
      |with_reducible refine Fh λx=>?_
      |with_reducible refine Hn (λ_=>?_) (λ_=>?_)
      |(refine Ci (λh=>by simp only[h,Fm,Br,Bp,ite_self]) (λx h=>?_);(try simp only[h,Br]))
      |(refine Cx (λh=>?_) (λh=>?_)<;>simp only[h,if_true,if_false,Bool.false_eq_true])
abbrev R_:=(Int×Int×Int×LB×LB×LX×(List LB)×LB×Bool×Int×(List (Int×LB×Unit))×Int)
abbrev K_:=S->Option R_
def H:Hd:=⟨[.agg [Si,Si],Si,Ss,Sb,.lf (.list (.cons (.int .u8) (.cons (.int .i64) .nil))) none],[.agg [.agg [Si,Si],Si,Ss,Ob 5,Ow 21,.lf (.list (.list (.int .u8))) (some 22),Sb,Sz,Si],.lf (.list (.cons (.int .i64) (.cons (.list (.int .u8)) .nil))) (some 74),Si],(.seq .d (.seq .d (.seq .d (.seq .d (.seq .d (.cut [10,16,17] [] (.keep [10,16,17,41] true) .d)))))),kt [F30.k,F71.k,F72.k,F73.k,F74.k] false,[(75,(.seq .d (.seq .d (.seq .d (.cut [6] [] (.seq .d (.blk (.loop [5,6,19,20,21] [⟨5,[0,0,6],.ro (.int .u8)⟩,⟨6,[],.own 74 (.cons (.int .i64) (.cons (.list (.int .u8)) .nil))⟩] (.seq .d (.seq .d (.cut [5,6,19,20,21] [⟨5,[0,0,6],.ro (.int .u8)⟩] (.blk (.seq .d (.seq .d (.seq .d (.cond (.keep [5,6,19,20,21,33,37,38,39] true) .d))))) .d)))))) .d))))),(141,(.seq .d (.seq .d (.cut [0,1,4,5,6] [] (.mode false) (.seq (.mode false) .d))))),(142,(.seq .d (.cut [0,4,5,6,7] [] (.mode false) .d))),(143,(.seq .d (.cut [0,4,5,6] [] (.mode false) .d)))],f26⟩
def t17(b:List (UInt8×Int×Unit))(y f g h:Int)(k m:LB)(n:Bool)(o:Int)(a:LB)(w:List (Int×LB×Unit))(p:LB)(u:LX)(v:List LB):S:=⟨[(5,.mp [1,2,3] [.bfn 141 [.ptr 0 []],.bfn 142 [.ptr 0 []],.bfn 143 [.ptr 0 []]]),(6,.own 1),(19,.val (.list (.cons (.int .u8) (.cons (.int .i64) .nil))) b),(20,vi (Aa b)),(21,vi y)],[.box 125 (.agg [.agg [.agg [vi f,vi g],vi h,vs k,.own 3,.own 4,.own 5,vb m,vt n,vi o],.fn 72 [],.fn 73 [],.fn 74 [],vb a]),.arr 74 (.cons (.int .i64) (.cons (.list (.int .u8)) .nil)) w,.box 64 (.agg [.agg [vi 0,vi 0],vi 0,vs ([]:LB),.nils,.nils,.nils,.nils,vt false,vi 0]),Ab 5 p,Aw 21 u,.arr 22 (.list (.int .u8)) v],[[(10,.ptr 2 []),(16,.ptr 0 [])]]⟩
def z17:Nat->S->Option R_:=H.i P_ [r,r,r,r,r,l,(call 2 75),r,r,r,l,r,d]
def x26(YP:K_)(b:List (UInt8×Int×Unit))(aa:UInt8×Int×Unit)(a:LB)(ab y f g h:Int)(k p:LB)(u:LX)(v:List LB)(m:LB)(n:Bool)(o ac ad ae:Int)(af:LB)(ag:Bool)(ah:Int)(w:List (Int×LB×Unit))(ai:LB)(aj:LX)(ak:List LB)(al:LB):Option R_:=H.e P_ [r,r,r,r,r,l,(call 2 75),r,r,r,l,r,d,(lp YP),r,r,l,d,r,r,r,l,(call 4 141),r,r,r] ⟨[(0,.ptr 0 []),(1,vi (Cq aa.2.1 (Aa a))),(4,.ptr 1 []),(5,.ptr 2 []),(6,vi ab)],[.box 125 (.agg [.agg [.agg [vi f,vi g],vi h,vs k,vb p,vw u,.val (.list (.list (.int .u8))) v,vb m,vt n,vi o],.fn 72 [],.fn 73 [],.fn 74 [],vb a]),.box 74 (.agg [vi 0,.nils]),.box 64 (.agg [.agg [vi ac,vi ad],vi ae,vs af,.own 5,.own 6,.own 7,.own 8,vt ag,vi ah]),.arr 74 (.cons (.int .i64) (.cons (.list (.int .u8)) .nil)) w,.box 64 (.agg [.agg [vi 0,vi 0],vi 0,vs ([]:LB),.nils,.nils,.nils,.nils,vt false,vi 0]),Ab 5 ai,Aw 21 aj,.arr 22 (.list (.int .u8)) ak,Ab 5 al],[[(5,.mp [1,2,3] [.bfn 141 [.ptr 0 []],.bfn 142 [.ptr 0 []],.bfn 143 [.ptr 0 []]]),(6,.own 3),(19,.val (.list (.cons (.int .u8) (.cons (.int .i64) .nil))) b),(20,vi (Aa b)),(21,vi y),(33,.own 3)],[(10,.ptr 4 []),(16,.ptr 0 [])]]⟩
theorem e26(YP:K_)(b:List (UInt8×Int×Unit)):x26 YP b=Ti (λy f g h k m n o a w p u v=>YP (t17 b y f g h k m n o a w p u v)) b:=Eq.trans (b:=Ju (Ee (λy f g h k m n o a w p u v=>YP (t17 b y f g h k m n o a w p u v)) b) b) F0 (by rw[AQ];rfl)
theorem i17(b:List (UInt8×Int×Unit)):∀(q:Nat) (y f g h:Int) (k m:LB) (n:Bool) (o:Int) (a:LB) (w:List (Int×LB×Unit)) (p:LB) (u:LX) (v:List LB),z17 q (t17 b y f g h k m n o a w p u v)=Ef b q y f g h k m n o a w p u v:=
 ind (λ_ _ _ _ _ _ _ _ _ _ _ _ _=>by kernel_rfl) λq ih y f g h k m n o a w p u v=>Eq.trans (b:=Jt (x26 (z17 q) b) (Ty (λy f g h k m n o a w p u v=>(z17 q) (t17 b y f g h k m n o a w p u v)) b) (Ts (λy f g h k m n o a w p u v=>(z17 q) (t17 b y f g h k m n o a w p u v)) b) (Ee (λy f g h k m n o a w p u v=>(z17 q) (t17 b y f g h k m n o a w p u v)) b) Tz b y f g h k m n o a w p u v) F0 (by rw[AP];simp only[e26,ih]<;>rfl)
def k:Kc P_ gl:=⟨(26,⟨H.p,H.r,u6 FP⟩),co H func26 (λx=>Eq.trans (b:=u6 (Wm (λb y f g h k m n o a w p u v=>z17 Bi (t17 b y f g h k m n o a w p u v))) x) F0 (by simp only[i17,Ah]<;>rfl))⟩
end F26
namespace F37
abbrev R_:=(Int×Int)
abbrev K_:=S->Option R_
def H:Hd:=⟨[.agg [Si,Si],Si,Ss,Sb,.lf (.list (.cons (.int .u8) (.cons (.int .i64) .nil))) none],[Si,Si],(.seq .d (.seq .d (.seq .d (.seq .d (.seq .d (.cut [17] [] (.seq .d (.blk (.loop [3,15,17,44,45,46] [⟨15,[6],.ro (.int .u8)⟩] (.seq .d (.seq .d (.seq (.blk (.seq .d (.cut [3,15,17,44,45,46] [⟨15,[6],.ro (.int .u8)⟩] (.seq .d (.blk (.seq .d (.cond (.seq .d (.seq (.mode false) .d)) .d)))) .d))) .d)))))) .d)))))),kt [F26.k,F71.k,F72.k,F73.k,F74.k,F82.k] false,[],f37⟩
def t7(a:List (UInt8×Int×Unit))(g:LB)(b f h k m:Int)(n o:LB)(p:Bool)(u:Int)(v:LB)(w:LX)(y:List LB):S:=⟨[(3,vb g),(15,.ptr 0 []),(17,vi b),(44,.val (.list (.cons (.int .u8) (.cons (.int .i64) .nil))) a),(45,vi (Aa a)),(46,vi f)],[.box 64 (.agg [.agg [vi h,vi k],vi m,vs n,.own 1,.own 2,.own 3,vb o,vt p,vi u]),Ab 5 v,Aw 21 w,.arr 22 (.list (.int .u8)) y],[]⟩
def z7:Nat->S->Option R_:=H.i P_ [r,r,r,r,r,l,r,d]
theorem i7(a:List (UInt8×Int×Unit)):∀(q:Nat) (g:LB) (b f h k m:Int) (n o:LB) (p:Bool) (u:Int) (v:LB) (w:LX) (y:List LB),z7 q (t7 a g b f h k m n o p u v w y)=Oe a q g b f h k m n o p u v w y:=
 ind (λ_ _ _ _ _ _ _ _ _ _ _ _ _=>by kernel_rfl) λq ih g b f h k m n o p u v w y=>Eq.trans (b:=Yn (Wk (λg b f h k m n o p u v w y=>(z7 q) (t7 a g b f h k m n o p u v w y)) a) Vn a g b f h k m n o p u v w y) F0 (by simp only[ih]<;>rfl)
def k:Kc P_ gl:=⟨(37,⟨H.p,H.r,u6 Pg⟩),co H func37 (λx=>Eq.trans (b:=u6 (Zv (λa g b f h k m n o p u v w y=>z7 Bi (t7 a g b f h k m n o p u v w y))) x) F0 (by simp only[i7,Ah]<;>rfl))⟩
end F37
namespace F104
def H:Hd:=⟨[.agg [Si,Si,Si,Sw]],[.agg [Si,Si]],.d,kt [] false,[],f104⟩
def k:Kc P_ gl:=⟨(104,⟨H.p,H.r,u4 HN⟩),co H func104⟩
end F104
namespace F150
def H:Hd:=⟨[.agg [Si,Si,Si,Sw],Si],[Si],.d,kt [F104.k,F191.k,F205.k] false,[],f150⟩
def k:Kc P_ gl:=⟨(150,⟨H.p,H.r,u5 ZV⟩),co H func150⟩
end F150
namespace F84
def H:Hd:=⟨[.agg [Si,Si,Si,Sw]],[Si],.d,kt [F150.k,F151.k] false,[],f84⟩
def k:Kc P_ gl:=⟨(84,⟨H.p,H.r,u4 Ma⟩),co H func84⟩
end F84
namespace F49
def Oa(j2:LB->Int->Int->Int->LX->Option (Int×Int×Int×Int×Int×Int))(a b f:Int)(g:LX)(h:LB):Option (Int×Int×Int×Int×Int×Int):=
(Ma a b f g).bind λk=>
if(Bg k 0)then
some (0,0,0,0,0,k)
else
if(Es (Aa h) 64)then
some (0,0,0,0,0,2)
else
(Dl (Bg a 0)).bind λ_=>
bo (
j2 h a b f g)
theorem HR: @Oa= @Py:=by
  unfold Oa Py;simp only[Nn,Hm,Ht]
abbrev R_:=(Int×Int×Int×Int×Int×Int)
def H:Hd:=⟨[.agg [Si,Si,Si,Sw],Ss],[.agg [Si,Si,Si,Si,Si],Si],(.seq .d (.seq .d (.seq .d (.cut [1,4,7] [] .d .d)))),kt [F84.k] false,[],f49⟩
def k:Kc P_ gl:=⟨(49,⟨H.p,H.r,u5 RE⟩),co H func49 (λx=>Eq.trans (b:=u5 (Oa CG) x) F0 (by simp only[HR]<;>rfl))⟩
end F49
theorem TM:ConOk Tryz.prog gl 50 Uo:=VQ F84.k.2 F101.k.2 F174.k.2 F103.k.2 F104.k.2
namespace F55
def H:Hd:=⟨[Sb],[Si],.d,kt [] false,[],f55⟩
def k:Kc P_ gl:=⟨(55,⟨H.p,H.r,FW⟩),co H func55⟩
end F55
namespace F56
abbrev R_:=LB
def H:Hd:=⟨[.lf (.list (.list (.int .u8))) none],[Ob 5],(.seq .d (.seq .d (.cut [3] [] (.seq .d (.blk (.loop [3,6,7,8] [⟨3,[],.own 5 (.int .u8)⟩] .d))) .d))),kt [] false,[],f56⟩
def t4(a:List LB)(f:Int)(b:LB):S:=⟨[(3,.own 0),(6,.val (.list (.list (.int .u8))) a),(7,vi (Aa a)),(8,vi f)],[Ab 5 b],[]⟩
def z4:Nat->S->Option R_:=H.i P_ [r,r,l,r,d]
theorem i4(a:List LB):∀(q:Nat) (f:Int) (b:LB),z4 q (t4 a f b)=Rp a q f b:=
 ind (λ_ _=>by kernel_rfl) λq ih f b=>Eq.trans (b:=CS DO (λf b=>(z4 q) (t4 a f b)) a f b) F0 (by simp only[ih]<;>rfl)
def k:Kc P_ gl:=⟨(56,⟨H.p,H.r,RJ⟩),co H func56 (λx=>Eq.trans (b:=BR (λa f b=>z4 Bi (t4 a f b)) x) F0 (by simp only[i4,Ah]<;>rfl))⟩
end F56
namespace F10
abbrev R_:=(LB×Int)
abbrev K_:=S->Option R_
def H:Hd:=⟨[.agg [Si,Si,Si,Sw],Ss],[Ob 5,Si],(.seq .d (.seq .d (.seq .d (.seq .d (.seq .d (.seq .d (.seq .d (.seq .d (.cut [8,9,10] [⟨10,[],.own 5 (.int .u8)⟩] .d (.cut [7,8,9,10,11] [] (.keep [7,8,9,10,11,46,48,49,50,51] true) .d)))))))))),kt [F49.k,⟨(50,Uo),TM⟩,F51.k,F52.k,F53.k,F55.k,F56.k] false,[(54,(.seq .d (.seq .d (.cut [5] [] (.seq .d (.blk (.loop [1,5,11,12,13] [] (.seq .d (.seq .d (.cut [1,5,11,12,13] [] .d .d)))))) .d))))],f10⟩
def t9(a:List LB)(b f:LB)(g:Int)(h:LI):S:=⟨[(1,.fn 55 []),(5,.own 0),(11,.own 1),(12,vi (Aa a)),(13,vi g)],[Ai 3 h,.arr 22 (.list (.int .u8)) a,Ab 5 b,Ab 5 f],[[(8,.own 1),(9,.own 2),(10,.own 3)]]⟩
def z9:Nat->S->Option R_:=H.i P_ [r,r,r,r,r,r,r,r,r,l,(call 1 54),r,r,l,r,d]
theorem i9(a:List LB)(b f:LB):∀(q:Nat) (g:Int) (h:LI),z9 q (t9 a b f g h)=Rg a b f q g h:=
 ind (λ_ _=>by kernel_rfl) λq ih g h=>Eq.trans (b:=CM (Ze (λg h=>(z9 q) (t9 a b f g h)) a b f) AB a b f g h) F0 (by simp only[ih]<;>rfl)
def k:Kc P_ gl:=⟨(10,⟨H.p,H.r,u5 DN⟩),co H func10 (λx=>Eq.trans (b:=u5 (BF (AY (λa b f g h=>z9 Bi (t9 a b f g h)))) x) F0 (by simp only[i9,Ah]<;>rfl))⟩
end F10
namespace F83
def H:Hd:=⟨[Sb],[Si],.d,kt [F8.k,F14.k,F34.k] false,[],f83⟩
def k:Kc P_ gl:=⟨(83,⟨H.p,H.r,Jp⟩),co H func83⟩
end F83
namespace F38
def H:Hd:=⟨[],[Sz],.d,kt [F10.k,F35.k,F83.k] false,[],f38⟩
def k:Kc P_ gl:=⟨(38,⟨H.p,H.r,λ_=>Pv⟩),co H func38⟩
end F38
namespace F6
def H:Hd:=⟨[],[Sz],.d,kt [⟨(10,F10.k.1.2.seal),F10.k.2.seal⟩,⟨(33,F33.k.1.2.seal),F33.k.2.seal⟩,⟨(34,F34.k.1.2.seal),F34.k.2.seal⟩,⟨(35,F35.k.1.2.seal),F35.k.2.seal⟩,⟨(36,F36.k.1.2.seal),F36.k.2.seal⟩,⟨(37,F37.k.1.2.seal),F37.k.2.seal⟩,⟨(38,F38.k.1.2.seal),F38.k.2.seal⟩] false,[],f6⟩
def k:Kc P_ gl:=⟨(6,⟨H.p,H.r,λ_=>Fy⟩),co H func6⟩
end F6
end
end Go.Proofs.YtmnpghdjdepelaaGreatDoor
