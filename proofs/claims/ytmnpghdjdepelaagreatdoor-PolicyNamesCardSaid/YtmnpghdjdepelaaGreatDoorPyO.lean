/- A part of a proof (see the text that ends in Proof). No conditions. -/
import Derived.Test.YtmnpghdjdepelaaGreatDoorPyHA
set_option linter.unusedVariables false
set_option linter.unusedSimpArgs false
set_option maxRecDepth 10000
namespace Go.Proofs.YtmnpghdjdepelaaGreatDoor
open Go Go.Lv Go.Pl Go.Rx Go.Rx.PS
noncomputable section
def g1:List Value:=[.int .i64 2,.int .i64 2,.int .i64 2,.int .i64 4,.int .i64 4]
def g6:List Value:=[.int .u8 0,.int .u8 1,.int .u8 56,.int .u8 2,.int .u8 57,.int .u8 49,.int .u8 28,.int .u8 3,.int .u8 61,.int .u8 58,.int .u8 42,.int .u8 50,.int .u8 38,.int .u8 29,.int .u8 17,.int .u8 4,.int .u8 62,.int .u8 47,.int .u8 59,.int .u8 36,.int .u8 45,.int .u8 43,.int .u8 51,.int .u8 22,.int .u8 53,.int .u8 39,.int .u8 33,.int .u8 30,.int .u8 24,.int .u8 18,.int .u8 12,.int .u8 5,.int .u8 63,.int .u8 55,.int .u8 48,.int .u8 27,.int .u8 60,.int .u8 41,.int .u8 37,.int .u8 16,.int .u8 46,.int .u8 35,.int .u8 44,.int .u8 21,.int .u8 52,.int .u8 32,.int .u8 23,.int .u8 11,.int .u8 54,.int .u8 26,.int .u8 40,.int .u8 15,.int .u8 34,.int .u8 20,.int .u8 31,.int .u8 10,.int .u8 25,.int .u8 14,.int .u8 19,.int .u8 9,.int .u8 13,.int .u8 8,.int .u8 7,.int .u8 6]
def gl:List (Nat×List Value):=[(1,g1),(6,g6)]
theorem mixed:Tryz.prog.follows .mixedOrders=true:=A4
noncomputable abbrev P_:=Tryz.prog
noncomputable def kt(l:List (Kc P_ gl))(v:Bool)(c:Bool:=false):=oT l v c
theorem co(H:Hd){f:Nat}{F:Jd (Fm H.p)->Option (Jd (Fm H.r))}(hf:P_.funcs[f]? =some H.f)(h:∀x,H.u P_ x=F x:=by intro x;kernel_rfl)(hT:Jt P_ H.T:=by exact dM _ _ _)(hb:qQ P_ H=true:=by kernel_rfl):ConOk P_ H.T.gl f ⟨H.p,H.r,F⟩:=Hd.cn mixed H hf hT hb h
theorem ent116:Ent Tryz.prog 116:=Ent.mk Tryz.func116 A4 rfl
abbrev u2{A B R:Type}(f:A->B->R)(x:A×B):=f x.1 x.2
abbrev u3{A B C R:Type}(f:A->B->C->R):=u2 λa=>u2 (f a)
abbrev u4{A B C D R:Type}(f:A->B->C->D->R):=u2 λa=>u3 (f a)
abbrev u5{A B C D E R:Type}(f:A->B->C->D->E->R):=u2 λa=>u4 (f a)
abbrev u6{A B C D E F R:Type}(f:A->B->C->D->E->F->R):=u2 λa=>u5 (f a)
abbrev u7{A B C D E F G R:Type}(f:A->B->C->D->E->F->G->R):=u2 λa=>u6 (f a)
abbrev u8{A B C D E F G H R:Type}(f:A->B->C->D->E->F->G->H->R):=u2 λa=>u7 (f a)
open Go.Proofs.Tryz
namespace F104
def H:Hd:=⟨[.agg [Si,Si,Si,Sw]],[.agg [Si,Si]],.d,kt [] false,[],f104⟩
def k:Kc P_ gl:=⟨(104,⟨H.p,H.r,u4 CD⟩),co H func104⟩
end F104
namespace F152
abbrev R_:=(Int32×Int32×Int)
def H:Hd:=⟨[Si],[Sx,Sx,Si],(.seq .d (.seq (.seq .d (.blk (.cut [0,7] [] .d .d))) .d)),kt [] false,[],f152⟩
def k:Kc P_ gl:=⟨(152,⟨H.p,H.r,Qj⟩),co H func152⟩
end F152
namespace F191
def H:Hd:=⟨[.agg [Si,Si]],[Si],.d,kt [F152.k] false,[],f191⟩
def k:Kc P_ gl:=⟨(191,⟨H.p,H.r,u2 Hu⟩),co H func191⟩
end F191
namespace F198
def H:Hd:=⟨[Si],[Si,Si],.d,kt [] false,[],f198⟩
def k:Kc P_ gl:=⟨(198,⟨H.p,H.r,Tf⟩),co H func198⟩
end F198
namespace F205
def H:Hd:=⟨[Si,Si],[Si,Si],.d,kt [F198.k] false,[],f205⟩
def k:Kc P_ gl:=⟨(205,⟨H.p,H.r,u2 Kk⟩),co H func205⟩
end F205
namespace F150
def H:Hd:=⟨[.agg [Si,Si,Si,Sw],Si],[Si],.d,kt [F104.k,F191.k,F205.k] false,[],f150⟩
def k:Kc P_ gl:=⟨(150,⟨H.p,H.r,u5 SQ⟩),co H func150⟩
end F150
namespace F151
abbrev R_:=Int
def H:Hd:=⟨[Si,Sw],[Si],(.seq .d (.seq .d (.seq .d (.seq .d (.cut [] [] (.seq .d (.blk (.loop [5,6,22,23,24] [] .d))) .d))))),kt [F152.k] false,[],f151⟩
def t4(b f:Int32)(a:LX)(g:Int):S:=⟨[(5,vx b),(6,vx f),(22,vw a),(23,vi (Ac a)),(24,vi g)],[],[]⟩
def z4:Nat->S->Option R_:=H.i P_ [r,r,r,r,l,r,d]
theorem i4(b f:Int32)(a:LX):∀(q:Nat) (g:Int),z4 q (t4 b f a g)=Mv b f a q g:=
 ind (λ_=>by kernel_rfl) λq ih g=>Eq.trans (b:=Wa Yb (λg=>(z4 q) (t4 b f a g)) b f a g) A4 (by simp only[ih]<;>rfl)
def k:Kc P_ gl:=⟨(151,⟨H.p,H.r,u2 Kv⟩),co H func151 (λx=>Eq.trans (b:=u2 (Xx (λb f a g=>z4 Bl (t4 b f a g))) x) A4 (by simp only[i4,Ak]<;>rfl))⟩
end F151
namespace F84
def H:Hd:=⟨[.agg [Si,Si,Si,Sw]],[Si],.d,kt [F150.k,F151.k] false,[],f84⟩
def k:Kc P_ gl:=⟨(84,⟨H.p,H.r,u4 Jv⟩),co H func84⟩
end F84
namespace F49
def Lk(j2:LB->Int->Int->Int->LX->Option (Int×Int×Int×Int×Int×Int))(a b f:Int)(g:LX)(h:LB):Option (Int×Int×Int×Int×Int×Int):=
(Jv a b f g).bind λk=>
if(Bk k 0)then
some (0,0,0,0,0,k)
else
if(Ez (Ac h) 64)then
some (0,0,0,0,0,2)
else
(Ds (Bk a 0)).bind λ_=>
bo (
j2 h a b f g)
theorem CH: @Lk= @Ml:=by
  unfold Lk Ml;simp only[JO,Vr,Yl]
abbrev R_:=(Int×Int×Int×Int×Int×Int)
def H:Hd:=⟨[.agg [Si,Si,Si,Sw],Ss],[.agg [Si,Si,Si,Si,Si],Si],(.seq .d (.seq .d (.seq .d (.cut [1,4,7] [] .d .d)))),kt [F84.k] false,[],f49⟩
def k:Kc P_ gl:=⟨(49,⟨H.p,H.r,u5 JF⟩),co H func49 (λx=>Eq.trans (b:=u5 (Lk Xk) x) A4 (by simp only[CH]<;>rfl))⟩
end F49
namespace F215
abbrev R_:=(UInt64×Int)
abbrev K_:=S->Option R_
def H:Hd:=⟨[Sq,Sb],[Sq,Si],(.seq .d (.seq .d (.cut [4,5] [] (.keep [0,1,4,5,9,10,11,12] true) .d))),kt [] false,[(251,(.seq .d (.cut [1] [] (.seq .d (.blk (.loop [0,1,9,10,11] [] .d))) .d))),(252,(.seq .d (.seq .d (.cut [1] [] (.seq .d (.blk (.loop [1,5] [] (.seq .d (.seq .d (.cut [1,5] [] (.blk (.seq .d (.seq .d (.cut [1,2,3,5] [] (.seq .d (.blk (.loop [1,2,3,5,11] [] .d))) .d)))) .d)))))) .d))))],f215⟩
def t27(a:LB)(b:UInt64)(f:LQ)(h:UInt64)(m:Int):S:=⟨[(0,.ptr 0 []),(1,vq h),(9,vb a),(10,vi (Ac a)),(11,vi m)],[.box 373 (.val (.vec 256 (.int .u64)) f)],[[(0,vq b),(1,vb a),(4,vq 0),(5,vi 0),(9,.ptr 0 []),(10,vq b),(11,vb a)]]⟩
def z27:Nat->S->Option R_:=H.i P_ [r,r,l,(call 3 251),r,l,r,d]
def t21(b:UInt64)(a:LB)(g:Int)(f:LQ)(k:UInt64)(n:Int):S:=⟨[(1,.ptr 0 []),(2,vi g),(3,vq k),(5,vi g),(11,vi n)],[.box 373 (.val (.vec 256 (.int .u64)) f)],[[(0,vq b),(1,vb a),(4,vq 0),(5,vi 0)]]⟩
def z21(Dr:K_):Nat->S->Option R_:=H.i P_ [r,r,l,(call 0 252),r,r,l,r,d,(lp Dr),r,r,l,d,r,r,l,r,d]
def t16(b:UInt64)(a:LB)(g:Int)(f:LQ):S:=⟨[(1,.ptr 0 []),(5,vi g)],[.box 373 (.val (.vec 256 (.int .u64)) f)],[[(0,vq b),(1,vb a),(4,vq 0),(5,vi 0)]]⟩
def z16:Nat->S->Option R_:=H.i P_ [r,r,l,(call 0 252),r,r,l,r,d]
def x27(a:LB)(b:UInt64)(f:LQ)(h:UInt64)(m:Int):Option R_:=H.e P_ [r,r,l,(call 3 251),r,l,r,d] (t27 a b f h m)
def x21(Dr:K_)(b:UInt64)(a:LB)(g:Int)(f:LQ)(k:UInt64)(n:Int):Option R_:=H.e P_ [r,r,l,(call 0 252),r,r,l,r,d,(lp Dr),r,r,l,d,r,r,l,r,d] (t21 b a g f k n)
theorem i27(a:LB)(b:UInt64)(f:LQ):∀(q:Nat) (h:UInt64) (m:Int),z27 q (t27 a b f h m)=My a b f q h m:=
 ind (λ_ _=>by kernel_rfl) λq ih h m=>Eq.trans (b:=Xb Xw (λh m=>(z27 q) (t27 a b f h m)) a b f h m) A4 (by simp only[ih]<;>rfl)
theorem e27:x27=Wm:=by funext a b f h m;exact Eq.trans A4 ((i27 a b f Bl h m).trans (by rw[Ak];rfl))
theorem i21(Dr:K_)(b:UInt64)(a:LB)(g:Int)(f:LQ):∀(q:Nat) (k:UInt64) (n:Int),z21 Dr q (t21 b a g f k n)=Nt (λg f=>Dr (t16 b a g f)) b a g f q k n:=
 ind (λ_ _=>by kernel_rfl) λq ih k n=>Eq.trans (b:=Vs (Wk (λg f=>Dr (t16 b a g f)) b a) (λk n=>(z21 Dr q) (t21 b a g f k n)) b a g f k n) A4 (by simp only[ih]<;>rfl)
theorem e21(Dr:K_)(b:UInt64)(a:LB):x21 Dr b a=Yv (λg f=>Dr (t16 b a g f)) b a:=by funext g f k n;exact Eq.trans A4 ((i21 Dr b a g f Bl k n).trans (by rw[Ak];rfl))
theorem i16(b:UInt64)(a:LB):∀(q:Nat) (g:Int) (f:LQ),z16 q (t16 b a g f)=Of b a q g f:=
 ind (λ_ _=>by kernel_rfl) λq ih g f=>Eq.trans (b:=Xg (x21 (z16 q) b a) (Vz x27) b a g f) A4 (by simp only[e21,e27,ih]<;>rfl)
def k:Kc P_ gl:=⟨(215,⟨H.p,H.r,u2 QD⟩),co H func215 (λx=>Eq.trans (b:=u2 (BF (λb a g f=>z16 Bl (t16 b a g f))) x) A4 (by simp only[i16,Ak]<;>rfl))⟩
end F215
namespace F171
def H:Hd:=⟨[Sb],[Sq,Si],.d,kt [F215.k] false,[],f171⟩
def k:Kc P_ gl:=⟨(171,⟨H.p,H.r,HC⟩),co H func171⟩
end F171
namespace F172
abbrev R_:=LX
def H:Hd:=⟨[Sq],[.lf (.vec 16 (.int .i32)) none],(.seq .d (.seq .d (.cut [2,3] [] (.seq .d (.blk (.loop [0,2,3,5] [] .d))) .d))),kt [] false,[],f172⟩
def t4(f:UInt64)(a:Int)(b:LX):S:=⟨[(0,vq f),(2,.ptr 0 []),(3,.ptr 1 []),(5,vi a)],[.box 157 (.val (.vec 16 (.int .i32)) (List.replicate 16 (0:Int32))),.box 157 (.val (.vec 16 (.int .i32)) b)],[]⟩
def z4:Nat->S->Option R_:=H.i P_ [r,r,l,r,d]
theorem i4(f:UInt64):∀(q:Nat) (a:Int) (b:LX),z4 q (t4 f a b)=CP f q a b:=
 ind (λ_ _=>by kernel_rfl) λq ih a b=>Eq.trans (b:=RG MX (λa b=>(z4 q) (t4 f a b)) f a b) A4 (by simp only[ih]<;>rfl)
def k:Kc P_ gl:=⟨(172,⟨H.p,H.r,bX⟩),co H func172 (λx=>Eq.trans (b:=QE (λf a b=>z4 Bl (t4 f a b)) x) A4 (by simp only[i4,Ak]<;>rfl))⟩
end F172
namespace F101
def H:Hd:=⟨[Ss],[.lf (.vec 16 (.int .i32)) none,Si],.d,kt [F171.k,F172.k] false,[],f101⟩
def k:Kc P_ gl:=⟨(101,⟨H.p,H.r,Mg⟩),co H func101⟩
end F101
namespace F202
def H:Hd:=⟨[Sq,Sq],[Sq,Sq],.d,kt [] false,[],f202⟩
def k:Kc P_ gl:=⟨(202,⟨H.p,H.r,u2 Uz⟩),co H func202⟩
end F202
namespace F147
def H:Hd:=⟨[Sq,Sq],[Sq,Sq],.d,kt [F202.k] false,[],f147⟩
def k:Kc P_ gl:=⟨(147,⟨H.p,H.r,u2 BK⟩),co H func147⟩
end F147
namespace F216
def Eg(j10:LI->Option (LI))(dV:Int->LI->Option (LI))(b:Int)(a:LI):Option (LI):=
if(Cl b (Ac a))then
both (
(HH (Ac a) b (Ac a)).bind λ_=>
(HH (Ac a) 0 b).bind λ_=>
dV (Aa b (BA ((Ac a)-b) (Pc a 0 (b-(0:Int))).length)) (Ic a b ((Ac a)-b) (Pc a 0 (b-(0:Int))))) [
(HH (Ac a) 0 b).bind λ_=>
(HH (Ac a) b (Ac a)).bind λ_=>
dV (Aa b (BA ((Ac a)-b) (Pc a 0 (b-(0:Int))).length)) (Ic a b ((Ac a)-b) (Pc a 0 (b-(0:Int))))]
else
j10 a
theorem Lh: @Eg= @Ek:=by
  unfold Eg Ek
  repeat (refine funext λ_=>?_)
  repeat' first
    |with_reducible rfl
    |with_reducible refine Gk ?_ ?_
    |with_reducible refine Ge ?_ ?_ ?_
    |with_reducible refine Gm ?_ ?_ ?_ ?_
    |((with_reducible refine Jo ?_ ?_);focus (intro h;first|(subst h;rfl)|(simp only[h];rfl)|(simp[Dk,Ac,h];done)))
    |with_reducible refine Iz λx=>?_
    |with_reducible refine Nf (λ_=>?_) (λ_=>?_)
    |(refine Dx (λh=>by simp only[h,Jg,Db,Cu,ite_self]) (λx h=>?_);(try simp only[h,Db]))
    |(refine Ey (λh=>?_) (λh=>?_)<;>simp only[h,if_true,if_false,Bool.false_eq_true])
abbrev R_:=LI
def H:Hd:=⟨[Sl,Si],[Ol 3],(.seq .d (.cut [0,1] [] .d (.seq .d (.cut [0,6] [] .d (.seq .d (.seq .d (.cut [7] [] (.blk (.loop [7,8] [] (.seq .d (.blk (.mode false))))) .d))))))),kt [F147.k] true,[],f216⟩
def t8(b:Int)(a:LI):S:=⟨[(7,.own 0),(8,vi b)],[Ai 3 a],[]⟩
def z8:Nat->S->Option R_:=H.i P_ [r,r,r,r,r,r,l,d]
theorem i8:∀(q:Nat) (b:Int) (a:LI),z8 q (t8 b a)=En q b a:=
 ind (λ_ _=>by kernel_rfl) λq ih b a=>Eq.trans (b:=Eg Gw (λb a=>(z8 q) (t8 b a)) b a) A4 (by rw[Lh];simp only[ih]<;>rfl)
def k:Kc P_ gl:=⟨(216,⟨H.p,H.r,u2 Ju⟩),co H func216 (λx=>Eq.trans (b:=u2 (Hw (Hl (Hx (λb a=>z8 Bl (t8 b a))))) x) A4 (by simp only[i8,Ak]<;>rfl))⟩
end F216
namespace F253
abbrev R_:=LI
def H:Hd:=⟨[.lf (.list (.list (.int .i64))) none],[Ol 3],(.seq .d (.seq .d (.cut [0,3] [] (.seq .d (.blk (.loop [0,3,9,10,11] [] .d))) (.cut [0,6] [⟨6,[],.own 3 (.int .i64)⟩] (.keep [0,3,6,23,24] true) (.cut [6] [] (.seq .d (.blk (.loop [6,25,26,27] [] .d))) .d))))),kt [] true,[(272,(.seq .d (.cut [0,1] [] .d .d)))],f253⟩
def t14(a:List LI)(g:Int)(f:LI):S:=⟨[(6,.own 0),(25,.val (.list (.list (.int .i64))) a),(26,vi (Ac a)),(27,vi g)],[Ai 3 f],[]⟩
def z14:Nat->S->Option R_:=H.i P_ [r,r,r,r,l,r,d]
def t9(a:List LI)(b h:Int):S:=⟨[(0,.val (.list (.list (.int .i64))) a),(3,vi b),(9,.val (.list (.list (.int .i64))) a),(10,vi (Ac a)),(11,vi h)],[],[]⟩
def z9:Nat->S->Option R_:=H.i P_ [r,r,l,r,d]
def x14(a:List LI)(g:Int)(f:LI):Option R_:=H.e P_ [r,r,r,r,l,r,d] (t14 a g f)
theorem i14(a:List LI):∀(q:Nat) (g:Int) (f:LI),z14 q (t14 a g f)=Ef a q g f:=
 ind (λ_ _=>by kernel_rfl) λq ih g f=>Eq.trans (b:=Gx Hb (λg f=>(z14 q) (t14 a g f)) a g f) A4 (by simp only[ih]<;>rfl)
theorem e14:x14=Ha:=by funext a g f;exact Eq.trans A4 ((i14 a Bl g f).trans (by rw[Ak];rfl))
theorem i9(a:List LI):∀(q:Nat) (b h:Int),z9 q (t9 a b h)=El a q b h:=
 ind (λ_ _=>by kernel_rfl) λq ih b h=>Eq.trans (b:=Ho (Hc (Gz (Gy x14))) (λb h=>(z9 q) (t9 a b h)) a b h) A4 (by simp only[e14,ih]<;>rfl)
def k:Kc P_ gl:=⟨(253,⟨H.p,H.r,Js⟩),co H func253 (λx=>Eq.trans (b:=Hs (λa b h=>z9 Bl (t9 a b h)) x) A4 (by simp only[i9,Ak]<;>rfl))⟩
end F253
namespace F217
def H:Hd:=⟨[Sl,Sl],[Ol 3],.d,kt [F253.k] false,[],f217⟩
def k:Kc P_ gl:=⟨(217,⟨H.p,H.r,u2 Xm⟩),co H func217⟩
end F217
namespace F174
def H:Hd:=⟨[Si,Si],[Ol 3,Si],.d,kt [F198.k,F205.k,F216.k,F217.k] false,[],f174⟩
def k:Kc P_ gl:=⟨(174,⟨H.p,H.r,u2 Kt⟩),co H func174⟩
end F174
namespace F218
def H:Hd:=⟨[.agg [Si,Si],Sw],[Si],.d,kt [F151.k,F191.k] false,[],f218⟩
def k:Kc P_ gl:=⟨(218,⟨H.p,H.r,u3 AN⟩),co H func218⟩
end F218
namespace F254
def H:Hd:=⟨[Si,Sw],[Si],.d,kt [] false,[],f254⟩
def k:Kc P_ gl:=⟨(254,⟨H.p,H.r,u2 HO⟩),co H func254⟩
end F254
namespace F200
def Dp(a:LX):Option (LX):=
TW a (
some ([]:LX)) (
(Dk ([]:LX) a).bind λb=>
some b)
theorem Jr: @Dp= @Cj:=by
  unfold Dp Cj
  repeat (refine funext λ_=>?_)
  repeat' first
    |with_reducible rfl
    |with_reducible refine Gk ?_ ?_
    |with_reducible refine Ge ?_ ?_ ?_
    |with_reducible refine Gm ?_ ?_ ?_ ?_
    |((with_reducible refine Jo ?_ ?_);focus (intro h;first|(subst h;rfl)|(simp only[h];rfl)|(simp[Dk,Ac,h];done)))
    |with_reducible refine Iz λx=>?_
    |with_reducible refine Nf (λ_=>?_) (λ_=>?_)
    |(refine Dx (λh=>by simp only[h,Jg,Db,Cu,ite_self]) (λx h=>?_);(try simp only[h,Db]))
    |(refine Ey (λh=>?_) (λh=>?_)<;>simp only[h,if_true,if_false,Bool.false_eq_true])
def H:Hd:=⟨[Sw],[Ow 21],.d,kt [] false,[],f200⟩
def k:Kc P_ gl:=⟨(200,⟨H.p,H.r,Cj⟩),co H func200 (λx=>Eq.trans (b:=Dp x) A4 (by simp only[Jr]<;>rfl))⟩
end F200
namespace F219
abbrev R_:=(LX×Int)
abbrev K_:=S->Option R_
def H:Hd:=⟨[Si,Sw],[Ow 21,Si],(.seq .d (.seq .d (.seq .d (.cut [7] [] (.seq .d (.blk (.loop [0,7,8] [] (.seq .d (.cut [0,7,8] [] (.blk (.keep [0,7,8,24,25,26,27,28,29] true)) .d))))) .d)))),kt [F200.k,F254.k] true,[(255,(.seq .d (.cut [0,2] [] (.seq .d (.blk (.loop [0,2,7,8] [] .d))) .d)))],f219⟩
def t17(b a f:Int)(g:LX):S:=⟨[(0,.view true 0 [] (.int .i32) a ((Aa a b)-a)),(2,vi (Ag ((Aa a b)-a) (1:Int))),(7,vi (Ag ((Aa a b)-a) (1:Int))),(8,vi f)],[Aw 21 g],[[(0,vi b),(7,.own 0),(8,vi a),(24,.own 0),(25,vi a),(26,vi a),(27,vi b),(28,vi (Aa a b)),(29,.view true 0 [] (.int .i32) a ((Aa a b)-a))]]⟩
def z17(Lq:K_):Nat->S->Option R_:=H.i P_ [r,r,r,l,r,d,(lp Lq),r,l,d,(call 6 255),r,l,r,d]
def t12(b a:Int)(h:LX):S:=⟨[(0,vi b),(7,.own 0),(8,vi a)],[Aw 21 h],[]⟩
def z12:Nat->S->Option R_:=H.i P_ [r,r,r,l,r,d]
def x17(Lq:K_)(b a f:Int)(g:LX):Option R_:=H.e P_ [r,r,r,l,r,d,(lp Lq),r,l,d,(call 6 255),r,l,r,d] (t17 b a f g)
theorem i17(Lq:K_)(b a:Int):∀(q:Nat) (f:Int) (g:LX),z17 Lq q (t17 b a f g)=Ya (λa h=>Lq (t12 b a h)) b a q f g:=
 ind (λ_ _=>by kernel_rfl) λq ih f g=>Eq.trans (b:=IA (IF (λa h=>Lq (t12 b a h)) b) (λf g=>(z17 Lq q) (t17 b a f g)) b a f g) A4 (by simp only[ih]<;>rfl)
theorem e17(Lq:K_)(b:Int):x17 Lq b=IP (λa h=>Lq (t12 b a h)) b:=by funext a f g;exact Eq.trans A4 ((i17 Lq b a Bl f g).trans (by rw[Ak];rfl))
theorem i12(b:Int):∀(q:Nat) (a:Int) (h:LX),z12 q (t12 b a h)=Yy b q a h:=
 ind (λ_ _=>by kernel_rfl) λq ih a h=>Eq.trans (b:=IL (x17 (z12 q) b) ID b a h) A4 (by simp only[e17,ih]<;>rfl)
def k:Kc P_ gl:=⟨(219,⟨H.p,H.r,u2 dN⟩),co H func219 (λx=>Eq.trans (b:=u2 (OK (λb a h=>z12 Bl (t12 b a h))) x) A4 (by simp only[i12,Ak]<;>rfl))⟩
end F219
namespace F256
abbrev R_:=(Int×LX×LX×Int)
def H:Hd:=⟨[Si,.lf (.vec 16 (.int .i32)) none],[.agg [Si,.lf (.vec 16 (.int .i32)) none,.lf (.vec 16 (.int .i32)) none],Si],(.seq .d (.seq .d (.seq (.seq .d (.blk (.cut [4,6,9,11] [] .d .d))) .d))),kt [] false,[],f256⟩
def k:Kc P_ gl:=⟨(256,⟨H.p,H.r,u2 QC⟩),co H func256⟩
end F256
namespace F220
def H:Hd:=⟨[Si,.lf (.vec 16 (.int .i32)) none],[.agg [Si,Sx,.agg [Si,.lf (.vec 16 (.int .i32)) none,.lf (.vec 16 (.int .i32)) none]],Si],.d,kt [F256.k] false,[],f220⟩
def k:Kc P_ gl:=⟨(220,⟨H.p,H.r,u2 HX⟩),co H func220⟩
end F220
namespace F257
def H:Hd:=⟨[.agg [Si,Sx,.agg [Si,.lf (.vec 16 (.int .i32)) none,.lf (.vec 16 (.int .i32)) none]]],[Si],.d,kt [F256.k] false,[],f257⟩
def k:Kc P_ gl:=⟨(257,⟨H.p,H.r,u5 Ku⟩),co H func257⟩
end F257
namespace F273
def H:Hd:=⟨[Si],[Si,Si],.d,kt [] false,[],f273⟩
def k:Kc P_ gl:=⟨(273,⟨H.p,H.r,IY⟩),co H func273⟩
end F273
namespace F274
def H:Hd:=⟨[Si,Sx],[Sx],.d,kt [] false,[],f274⟩
def k:Kc P_ gl:=⟨(274,⟨H.p,H.r,u2 IC⟩),co H func274⟩
end F274
namespace F258
def H:Hd:=⟨[Si,Sx],[Sx,Si],.d,kt [F273.k,F274.k] false,[],f258⟩
def k:Kc P_ gl:=⟨(258,⟨H.p,H.r,u2 Kw⟩),co H func258⟩
end F258
namespace F281
def H:Hd:=⟨[.agg [Si,.lf (.vec 16 (.int .i32)) none,.lf (.vec 16 (.int .i32)) none]],[Si],.d,kt [] false,[],f281⟩
def k:Kc P_ gl:=⟨(281,⟨H.p,H.r,u3 Ns⟩),co H func281⟩
end F281
namespace F275
abbrev R_:=(Int32×Int)
def H:Hd:=⟨[.agg [Si,.lf (.vec 16 (.int .i32)) none,.lf (.vec 16 (.int .i32)) none]],[Sx,Si],(.seq .d (.seq .d (.seq .d (.cut [1,5] [] (.seq .d (.blk (.loop [1,5,18,19] [] .d))) .d)))),kt [F281.k] false,[],f275⟩
def t4(b:LX)(a:Int)(f:LX)(h:Int32)(g:Int):S:=⟨[(1,.ptr 0 []),(5,vx h),(18,.val (.vec 16 (.int .i32)) b),(19,vi g)],[.box 313 (.agg [vi a,.val (.vec 16 (.int .i32)) b,.val (.vec 16 (.int .i32)) f])],[]⟩
def z4:Nat->S->Option R_:=H.i P_ [r,r,r,l,r,d]
theorem i4(b:LX)(a:Int)(f:LX):∀(q:Nat) (h:Int32) (g:Int),z4 q (t4 b a f h g)=Rg b a f q h g:=
 ind (λ_ _=>by kernel_rfl) λq ih h g=>Eq.trans (b:=AW AR (λh g=>(z4 q) (t4 b a f h g)) b a f h g) A4 (by simp only[ih]<;>rfl)
def k:Kc P_ gl:=⟨(275,⟨H.p,H.r,u3 CM⟩),co H func275 (λx=>Eq.trans (b:=u3 (AL (λb a f h g=>z4 Bl (t4 b a f h g))) x) A4 (by simp only[i4,Ak]<;>rfl))⟩
end F275
namespace F286
def H:Hd:=⟨[Si],[Sx],.d,kt [] false,[],f286⟩
def k:Kc P_ gl:=⟨(286,⟨H.p,H.r,GP⟩),co H func286⟩
end F286
namespace F282
abbrev R_:=(Int×LX×LX×Int)
def H:Hd:=⟨[.agg [Si,.lf (.vec 16 (.int .i32)) none,.lf (.vec 16 (.int .i32)) none],Sx],[.agg [Si,.lf (.vec 16 (.int .i32)) none,.lf (.vec 16 (.int .i32)) none],Si],(.seq .d (.seq .d (.seq .d (.cut [2,4] [] (.seq .d (.blk (.loop [1,2,4,19,20] [] .d))) .d)))),kt [F281.k,F286.k] false,[],f282⟩
def t4(h:Int32)(f:LX)(g a:Int)(b:LX):S:=⟨[(1,vx h),(2,.ptr 0 []),(4,.ptr 1 []),(19,.val (.vec 16 (.int .i32)) f),(20,vi a)],[.box 313 (.agg [vi g,.val (.vec 16 (.int .i32)) b,.val (.vec 16 (.int .i32)) f]),.box 313 (.agg [vi 0,.val (.vec 16 (.int .i32)) (List.replicate 16 (0:Int32)),.val (.vec 16 (.int .i32)) (List.replicate 16 (0:Int32))])],[]⟩
def z4:Nat->S->Option R_:=H.i P_ [r,r,r,l,r,d]
theorem i4(h:Int32)(f:LX)(g:Int):∀(q:Nat) (a:Int) (b:LX),z4 q (t4 h f g a b)=Qt h f g q a b:=
 ind (λ_ _=>by kernel_rfl) λq ih a b=>Eq.trans (b:=AX AY (λa b=>(z4 q) (t4 h f g a b)) h f g a b) A4 (by simp only[ih]<;>rfl)
def k:Kc P_ gl:=⟨(282,⟨H.p,H.r,u4 RH⟩),co H func282 (λx=>Eq.trans (b:=u4 (BE (λh f g a b=>z4 Bl (t4 h f g a b))) x) A4 (by simp only[i4,Ak]<;>rfl))⟩
end F282
namespace F283
def Qn(j2:Int32->Int->LX->LX->Option (Int×LX×LX×Int))(b:Int)(f a:LX)(g:Int32):Option (Int×LX×LX×Int):=
(Ns b f a).bind λh=>
if(Bk h 0)then
some (0,(List.replicate 16 (0:Int32)),(List.replicate 16 (0:Int32)),h)
else
both (
(HH 16 1 16).bind λ_=>
(HH 16 0 16).bind λ_=>
j2 g b f a) [
(HH 16 0 16).bind λ_=>
(HH 16 1 16).bind λ_=>
j2 g b f a]
theorem HU: @Qn= @Tt:=by
  unfold Qn Tt
  repeat (refine funext λ_=>?_)
  repeat' first
    |with_reducible rfl
    |with_reducible refine Gk ?_ ?_
    |with_reducible refine Ge ?_ ?_ ?_
    |with_reducible refine Gm ?_ ?_ ?_ ?_
    |((with_reducible refine Jo ?_ ?_);focus (intro h;first|(subst h;rfl)|(simp only[h];rfl)|(simp[Dk,Ac,h];done)))
    |with_reducible refine Iz λx=>?_
    |with_reducible refine Nf (λ_=>?_) (λ_=>?_)
    |(refine Dx (λh=>by simp only[h,Jg,Db,Cu,ite_self]) (λx h=>?_);(try simp only[h,Db]))
    |(refine Ey (λh=>?_) (λh=>?_)<;>simp only[h,if_true,if_false,Bool.false_eq_true])
abbrev R_:=(Int×LX×LX×Int)
def H:Hd:=⟨[.agg [Si,.lf (.vec 16 (.int .i32)) none,.lf (.vec 16 (.int .i32)) none],Sx],[.agg [Si,.lf (.vec 16 (.int .i32)) none,.lf (.vec 16 (.int .i32)) none],Si],(.seq .d (.seq .d (.cut [1,2,4] [] .d .d))),kt [F281.k] false,[],f283⟩
def k:Kc P_ gl:=⟨(283,⟨H.p,H.r,u4 TP⟩),co H func283 (λx=>Eq.trans (b:=u4 (Qn FE) x) A4 (by simp only[HU]<;>rfl))⟩
end F283
namespace F276
def H:Hd:=⟨[.agg [Si,.lf (.vec 16 (.int .i32)) none,.lf (.vec 16 (.int .i32)) none],Sx,Sx],[.agg [Si,.lf (.vec 16 (.int .i32)) none,.lf (.vec 16 (.int .i32)) none]],.d,kt [F282.k,F283.k] false,[],f276⟩
def k:Kc P_ gl:=⟨(276,⟨H.p,H.r,u5 BU⟩),co H func276⟩
end F276
namespace F259
def H:Hd:=⟨[.agg [Si,.lf (.vec 16 (.int .i32)) none,.lf (.vec 16 (.int .i32)) none],Sx],[Sx,.agg [Si,.lf (.vec 16 (.int .i32)) none,.lf (.vec 16 (.int .i32)) none],Si],.d,kt [F275.k,F276.k] false,[],f259⟩
def k:Kc P_ gl:=⟨(259,⟨H.p,H.r,u4 Ze⟩),co H func259⟩
end F259
namespace F221
def Jl(a:Int)(b:Int32)(f:Int)(g h:LX)(k:Int32):Option (Int32×Int×Int32×Int×LX×LX×Int):=
(Ku a b f g h).bind λm=>
if(Bk m 0)then
some (0,0,0,0,(List.replicate 16 (0:Int32)),(List.replicate 16 (0:Int32)),m)
else
(Kw a b).bind λ(n,y)=>
(Ze f g h (Ag k n)).bind λ(o,p,u,v,w)=>
bo (
some (o,a,k,p,u,v,w))
theorem Yk: @Jl= @Kj:=by
  unfold Jl Kj;simp only[JO,Vr,Yl]
def H:Hd:=⟨[.agg [Si,Sx,.agg [Si,.lf (.vec 16 (.int .i32)) none,.lf (.vec 16 (.int .i32)) none]],Sx],[Sx,.agg [Si,Sx,.agg [Si,.lf (.vec 16 (.int .i32)) none,.lf (.vec 16 (.int .i32)) none]],Si],(.seq .d (.seq .d (.seq .d (.seq .d (.seq (.mode false) .d))))),kt [F257.k,F258.k,F259.k] false,[],f221⟩
def k:Kc P_ gl:=⟨(221,⟨H.p,H.r,u6 Kj⟩),co H func221 (λx=>Eq.trans (b:=u6 Jl x) A4 (by simp only[Yk]<;>rfl))⟩
end F221
namespace F222
def H:Hd:=⟨[Sx],[Su],.d,kt [] false,[],f222⟩
def k:Kc P_ gl:=⟨(222,⟨H.p,H.r,SV⟩),co H func222⟩
end F222
namespace F175
abbrev R_:=(LU×Int)
def H:Hd:=⟨[.agg [Si,Si],.lf (.vec 16 (.int .i32)) none,Sw],[Ov 168,Si],(.seq .d (.seq .d (.seq .d (.seq .d (.seq .d (.cut [3,9,11] [] (.seq .d (.blk (.loop [3,4,9,11,36] [] .d))) (.seq .d (.cut [13] [] (.seq .d (.blk (.loop [3,11,13,49,50,51] [⟨13,[],.own 168 (.int .u32)⟩] .d))) .d)))))))),kt [F218.k,F219.k,F220.k,F221.k,F222.k] false,[],f175⟩
def t10(b:LX)(a f g:Int)(k:List (Int×Int32×(Int×LX×LX×Unit)×Unit))(h:LU):S:=⟨[(3,.ptr 0 []),(11,.ptr 1 []),(13,.own 2),(49,.own 3),(50,vi (Ac b)),(51,vi g)],[.box 61 (.agg [vi a,vi f]),.box 316 (.val (.vec 6 (.cons (.int .i64) (.cons (.int .i32) (.cons (.cons (.int .i64) (.cons (.vec 16 (.int .i32)) (.cons (.vec 16 (.int .i32)) .nil))) .nil)))) k),Av 168 h,Aw 21 b],[]⟩
def z10:Nat->S->Option R_:=H.i P_ [r,r,r,r,r,r,r,l,r,d]
def t7(a f:Int)(n b:LX)(o:Int)(m:List (Int×Int32×(Int×LX×LX×Unit)×Unit)):S:=⟨[(3,.ptr 0 []),(4,.ptr 1 []),(9,.own 2),(11,.ptr 3 []),(36,vi o)],[.box 61 (.agg [vi a,vi f]),.box 157 (.val (.vec 16 (.int .i32)) n),Aw 21 b,.box 316 (.val (.vec 6 (.cons (.int .i64) (.cons (.int .i32) (.cons (.cons (.int .i64) (.cons (.vec 16 (.int .i32)) (.cons (.vec 16 (.int .i32)) .nil))) .nil)))) m)],[]⟩
def z7:Nat->S->Option R_:=H.i P_ [r,r,r,r,r,l,r,d]
def x10(b:LX)(a f g:Int)(k:List (Int×Int32×(Int×LX×LX×Unit)×Unit))(h:LU):Option R_:=H.e P_ [r,r,r,r,r,r,r,l,r,d] (t10 b a f g k h)
theorem i10(b:LX)(a f:Int):∀(q:Nat) (g:Int) (k:List (Int×Int32×(Int×LX×LX×Unit)×Unit)) (h:LU),z10 q (t10 b a f g k h)=Ii b a f q g k h:=
 ind (λ_ _ _=>by kernel_rfl) λq ih g k h=>Eq.trans (b:=Og Ot (λg k h=>(z10 q) (t10 b a f g k h)) b a f g k h) A4 (by simp only[ih]<;>rfl)
theorem e10:x10=Mt:=by funext b a f g k h;exact Eq.trans A4 ((i10 b a f Bl g k h).trans (by rw[Ak];rfl))
theorem i7(a f:Int)(n b:LX):∀(q:Nat) (o:Int) (m:List (Int×Int32×(Int×LX×LX×Unit)×Unit)),z7 q (t7 a f n b o m)=Jc a f n b q o m:=
 ind (λ_ _=>by kernel_rfl) λq ih o m=>Eq.trans (b:=Pj (Pf x10) (λo m=>(z7 q) (t7 a f n b o m)) a f n b o m) A4 (by simp only[e10,ih]<;>rfl)
def k:Kc P_ gl:=⟨(175,⟨H.p,H.r,u4 Wo⟩),co H func175 (λx=>Eq.trans (b:=u4 (Pr (λa f n b o m=>z7 Bl (t7 a f n b o m))) x) A4 (by simp only[i7,Ak]<;>rfl))⟩
end F175
namespace F223
def H:Hd:=⟨[],[.agg [Si,Si,Sq,Sq]],.d,kt [] false,[],f223⟩
def k:Kc P_ gl:=⟨(223,⟨H.p,H.r,λ_=>DJ⟩),co H func223⟩
end F223
namespace F176
abbrev R_:=((List (Int×Int×UInt64×UInt64×Unit)))
def H:Hd:=⟨[],[.lf (.vec 6 (.cons (.int .i64) (.cons (.int .i64) (.cons (.int .u64) (.cons (.int .u64) .nil))))) none],(.seq .d (.seq .d (.cut [0,1] [] (.seq .d (.blk (.loop [0,1,3] [] .d))) .d))),kt [F223.k] false,[],f176⟩
def t4(b:Int)(a:List (Int×Int×UInt64×UInt64×Unit)):S:=⟨[(0,.ptr 0 []),(1,.ptr 1 []),(3,vi b)],[.box 258 (.val (.vec 6 (.cons (.int .i64) (.cons (.int .i64) (.cons (.int .u64) (.cons (.int .u64) .nil))))) (List.replicate 6 ((0:Int),(0:Int),(0:UInt64),(0:UInt64),()))),.box 258 (.val (.vec 6 (.cons (.int .i64) (.cons (.int .i64) (.cons (.int .u64) (.cons (.int .u64) .nil))))) a)],[]⟩
def z4:Nat->S->Option R_:=H.i P_ [r,r,l,r,d]
theorem i4:∀(q:Nat) (b:Int) (a:List (Int×Int×UInt64×UInt64×Unit)),z4 q (t4 b a)=Iw q b a:=
 ind (λ_ _=>by kernel_rfl) λq ih b a=>Eq.trans (b:=Qh Qe (λb a=>(z4 q) (t4 b a)) b a) A4 (by simp only[ih]<;>rfl)
def k:Kc P_ gl:=⟨(176,⟨H.p,H.r,λ_=>Xs⟩),co H func176 (λx=>Eq.trans (b:=Pp (λb a=>z4 Bl (t4 b a))) A4 (by simp only[i4,Ak]<;>rfl))⟩
end F176
namespace F224
def H:Hd:=⟨[.agg [Sb,Si]],[Si],.d,kt [] false,[],f224⟩
def k:Kc P_ gl:=⟨(224,⟨H.p,H.r,u2 Ec⟩),co H func224⟩
end F224
namespace F225
def Ni(j4:Int->Int->UInt64->UInt64->Option Int)(a b:Int)(f g:UInt64):Option Int:=
both (
bo (
j4 a b f g)) [
j4 a b f g]
theorem EL: @Ni= @Qs:=by
  unfold Ni Qs
  repeat (refine funext λ_=>?_)
  repeat' first
    |with_reducible rfl
    |with_reducible refine Gk ?_ ?_
    |with_reducible refine Ge ?_ ?_ ?_
    |with_reducible refine Gm ?_ ?_ ?_ ?_
    |((with_reducible refine Jo ?_ ?_);focus (intro h;first|(subst h;rfl)|(simp only[h];rfl)|(simp[Dk,Ac,h];done)))
    |with_reducible refine Iz λx=>?_
    |with_reducible refine Nf (λ_=>?_) (λ_=>?_)
    |(refine Dx (λh=>by simp only[h,Jg,Db,Cu,ite_self]) (λx h=>?_);(try simp only[h,Db]))
    |(refine Ey (λh=>?_) (λh=>?_)<;>simp only[h,if_true,if_false,Bool.false_eq_true])
def Mk(j3:Int->Int->UInt64->UInt64->Option Int)(a b:Int)(f g:UInt64):Option Int:=
both (
bo (
j3 a b f g)) [
j3 a b f g]
theorem EZ: @Mk= @Qy:=by
  unfold Mk Qy
  repeat (refine funext λ_=>?_)
  repeat' first
    |with_reducible rfl
    |with_reducible refine Gk ?_ ?_
    |with_reducible refine Ge ?_ ?_ ?_
    |with_reducible refine Gm ?_ ?_ ?_ ?_
    |((with_reducible refine Jo ?_ ?_);focus (intro h;first|(subst h;rfl)|(simp only[h];rfl)|(simp[Dk,Ac,h];done)))
    |with_reducible refine Iz λx=>?_
    |with_reducible refine Nf (λ_=>?_) (λ_=>?_)
    |(refine Dx (λh=>by simp only[h,Jg,Db,Cu,ite_self]) (λx h=>?_);(try simp only[h,Db]))
    |(refine Ey (λh=>?_) (λh=>?_)<;>simp only[h,if_true,if_false,Bool.false_eq_true])
abbrev R_:=Int
def H:Hd:=⟨[.agg [Si,Si,Sq,Sq]],[Si],(.seq .d (.seq .d (.cut [1,3] [] (.mode false) (.cut [1,3] [] (.mode false) .d)))),kt [] false,[],f225⟩
def x3(a b:Int)(f g:UInt64):Option R_:=H.e P_ [r,r,r] ⟨[(1,.ptr 0 []),(3,.ptr 1 [])],[.box 257 (.agg [vi a,vi b,vq f,vq g]),.box 257 (.agg [vi (Es (XQ a (0:Int)) (24:Int)),vi (Es (XQ b (0:Int)) (24:Int)),vq f,vq g])],[]⟩
theorem e3:x3=BL:=Eq.trans (b:=Ni AD) A4 (by rw[EL];rfl)
def k:Kc P_ gl:=⟨(225,⟨H.p,H.r,u4 CY⟩),co H func225 (λx=>Eq.trans (b:=u4 (Mk x3) x) A4 (by rw[EZ];simp only[e3]<;>rfl))⟩
end F225
namespace F226
def H:Hd:=⟨[.agg [Si,Si,Sq,Sq],Su],[Si,Su],.d,kt [] false,[],f226⟩
def k:Kc P_ gl:=⟨(226,⟨H.p,H.r,u5 Tx⟩),co H func226⟩
end F226
namespace F140
def Dz(a:LB):Option (LB):=
TW a (
some ([]:LB)) (
(Dk ([]:LB) a).bind λb=>
some b)
theorem Le: @Dz= @Cx:=by
  unfold Dz Cx
  repeat (refine funext λ_=>?_)
  repeat' first
    |with_reducible rfl
    |with_reducible refine Gk ?_ ?_
    |with_reducible refine Ge ?_ ?_ ?_
    |with_reducible refine Gm ?_ ?_ ?_ ?_
    |((with_reducible refine Jo ?_ ?_);focus (intro h;first|(subst h;rfl)|(simp only[h];rfl)|(simp[Dk,Ac,h];done)))
    |with_reducible refine Iz λx=>?_
    |with_reducible refine Nf (λ_=>?_) (λ_=>?_)
    |(refine Dx (λh=>by simp only[h,Jg,Db,Cu,ite_self]) (λx h=>?_);(try simp only[h,Db]))
    |(refine Ey (λh=>?_) (λh=>?_)<;>simp only[h,if_true,if_false,Bool.false_eq_true])
def H:Hd:=⟨[Sb],[Ob 5],.d,kt [] false,[],f140⟩
def k:Kc P_ gl:=⟨(140,⟨H.p,H.r,Cx⟩),co H func140 (λx=>Eq.trans (b:=Dz x) A4 (by simp only[Le]<;>rfl))⟩
end F140
namespace F260
def H:Hd:=⟨[.agg [Sb,Si]],[.agg [Ob 5,Si]],.d,kt [F140.k] false,[],f260⟩
def k:Kc P_ gl:=⟨(260,⟨H.p,H.r,u2 HB⟩),co H func260⟩
end F260
namespace F227
abbrev R_:=(LB×Int×Int)
abbrev K_:=S->Option R_
def H:Hd:=⟨[.agg [Sb,Si],Sq,Si],[.agg [Ob 5,Si],Si],(.seq .d (.seq .d (.seq .d (.cut [3,6] [] (.keep [1,2,3,6,40,41] true) .d)))),kt [F224.k,F260.k] false,[(261,(.blk (.loop [0,1,2] [] (.seq .d (.blk (.cut [0,1,2] [] .d (.seq .d (.cut [0,1,2,7] [] .d .d))))))))],f227⟩
def t15(b:UInt64)(a:Int)(m:UInt64)(h f:Int)(o:LB):S:=⟨[(0,.ptr 0 []),(1,vq m),(2,vi h)],[.box 261 (.agg [.own 2,vi f]),.box 261 (.agg [.nils,vi 0]),Ab 5 o],[[(1,vq b),(2,vi a),(3,.ptr 0 []),(6,.ptr 1 []),(40,vq b),(41,vi a)]]⟩
def z15:Nat->S->Option R_:=H.i P_ [r,r,r,l,(call 2 261),d]
def t22(b:UInt64)(a:Int)(n:UInt64)(k g:Int)(p:LB):S:=⟨[(0,.ptr 0 []),(1,vq n),(2,vi k)],[.box 261 (.agg [.own 2,vi g]),.box 261 (.agg [.nils,vi 0]),Ab 5 p],[[(1,vq b),(2,vi a),(3,.ptr 0 []),(6,.ptr 1 []),(40,vq b),(41,vi a)]]⟩
def z22:Nat->S->Option R_:=H.i P_ [r,r,r,l,(call 2 261),d]
theorem i15(b:UInt64)(a:Int):∀(q:Nat) (m:UInt64) (h f:Int) (o:LB),z15 q (t15 b a m h f o)=Tk b a q m h f o:=
 ind (λ_ _ _ _=>by kernel_rfl) λq ih m h f o=>Eq.trans (b:=ES (EO (λm h f o=>(z15 q) (t15 b a m h f o)) b a) EB b a m h f o) A4 (by simp only[ih]<;>rfl)
theorem i22(b:UInt64)(a:Int):∀(q:Nat) (n:UInt64) (k g:Int) (p:LB),z22 q (t22 b a n k g p)=Tq b a q n k g p:=
 ind (λ_ _ _ _=>by kernel_rfl) λq ih n k g p=>Eq.trans (b:=DP (FC (λn k g p=>(z22 q) (t22 b a n k g p)) b a) FU b a n k g p) A4 (by simp only[ih]<;>rfl)
def k:Kc P_ gl:=⟨(227,⟨H.p,H.r,u4 Yc⟩),co H func227 (λx=>Eq.trans (b:=u4 (IN (λb a m h f o=>z15 Bl (t15 b a m h f o)) (λb a n k g p=>z22 Bl (t22 b a n k g p))) x) A4 (by simp only[i15,i22,Ak]<;>rfl))⟩
end F227
namespace F262
def H:Hd:=⟨[Su,Si],[Sz],.d,kt [] false,[],f262⟩
def k:Kc P_ gl:=⟨(262,⟨H.p,H.r,u2 Uf⟩),co H func262⟩
end F262
namespace F277
def H:Hd:=⟨[Si],[Si,Si],.d,kt [] false,[],f277⟩
def k:Kc P_ gl:=⟨(277,⟨H.p,H.r,FN⟩),co H func277⟩
end F277
namespace F263
def H:Hd:=⟨[.agg [Sb,Si],Si],[.agg [Ob 5,Si],Si],.d,kt [F224.k,F227.k,F277.k] false,[],f263⟩
def k:Kc P_ gl:=⟨(263,⟨H.p,H.r,u3 JH⟩),co H func263⟩
end F263
namespace F228
abbrev R_:=(LB×Int×Int)
def H:Hd:=⟨[.agg [Sb,Si],Su,Si],[.agg [Ob 5,Si],Si],(.seq .d (.seq .d (.seq .d (.seq .d (.cut [3,6,9,10,11] [] .d .d))))),kt [F224.k,F227.k,F262.k,F263.k] false,[],f228⟩
def k:Kc P_ gl:=⟨(228,⟨H.p,H.r,u4 OU⟩),co H func228⟩
end F228
namespace F177
def Ln(k u n:Int)(a:UInt64)(b:UInt32)(o:UInt64)(m:LB):Option (LB×Int×Int×Int×UInt64×UInt64×Int):=
(λaf:Option (LB×Int×Int×Int×UInt64×UInt64×Int)=>
both (
bo (
af)) [
af]) (
some (m,k,u,n,(Aa a (Ag (Ap b:UInt64) (Bw a (GI.toZ (4:UInt64)).toNat))),o,0))
theorem CQ: @Ln= @Ou:=by
  unfold Ln Ou
  try simp only[JO,Vr,Yl]
  all_goals
    repeat (refine funext λ_=>?_)
    repeat' first
      |with_reducible rfl
      |with_reducible refine Gk ?_ ?_
      |with_reducible refine Ge ?_ ?_ ?_
      |with_reducible refine Gm ?_ ?_ ?_ ?_
      |((with_reducible refine Jo ?_ ?_);focus (intro h;first|(subst h;rfl)|(simp only[h];rfl)|(simp[Dk,Ac,h];done)))
      |with_reducible refine Iz λx=>?_
      |with_reducible refine Nf (λ_=>?_) (λ_=>?_)
      |(refine Dx (λh=>by simp only[h,Jg,Db,Cu,ite_self]) (λx h=>?_);(try simp only[h,Db]))
      |(refine Ey (λh=>?_) (λh=>?_)<;>simp only[h,if_true,if_false,Bool.false_eq_true])
abbrev R_:=(LB×Int×Int×Int×UInt64×UInt64×Int)
def H:Hd:=⟨[.agg [Sb,Si],.agg [Si,Si,Sq,Sq],Su],[.agg [Ob 5,Si],.agg [Si,Si,Sq,Sq],Si],(.seq .d (.cut [2,3,4,6,7] [] .d (.seq .d (.seq .d (.cut [2,3,4,6,7,11] [] .d (.seq .d (.cut [3,4,6,7] [] (.keep [2,3,4,6,7,65] true) (.seq (.mode false) .d)))))))),kt [F224.k,F225.k,F226.k,F227.k,F228.k] false,[(229,(.seq .d (.seq .d (.seq .d (.blk (.cut [0,1,4] [] (.blk (.seq .d (.keep [0,1,4,6,18,19,20,21,22,23,24,25] true))) (.cut [] [] (.keep [0,1,4,27,28,29,30,31,32,33,34] true) .d))))))),(264,.d)],f177⟩
def x10(k u n:Int)(a:UInt64)(b:UInt32)(o:UInt64)(m:LB):Option R_:=H.e P_ [r,r,r,r,r,r,r] ⟨[(3,.ptr 0 []),(4,.ptr 1 []),(6,.ptr 2 []),(7,.ptr 3 [])],[.box 261 (.agg [.own 4,vi k]),.box 257 (.agg [vi u,vi n,vq (Aa a (Ag (Ap b:UInt64) (Bw a (GI.toZ (4:UInt64)).toNat))),vq o]),.box 261 (.agg [.nils,vi 0]),.box 257 (.agg [vi 0,vi 0,vq 0,vq 0]),Ab 5 m],[]⟩
def x8(b:UInt32)(f:Int)(a:UInt64)(k:Int)(m:LB)(n:Int)(o:UInt64):Option R_:=H.e P_ [r,r,r,r,r,r,l,(call 1 229),r,r,r,d,r] ⟨[(0,.ptr 0 []),(1,vu b),(4,.fn 264 [])],[.box 257 (.agg [vi f,vi n,vq a,vq o]),.box 261 (.agg [.own 4,vi k]),.box 261 (.agg [.nils,vi 0]),.box 257 (.agg [vi 0,vi 0,vq 0,vq 0]),Ab 5 m],[[(2,vu b),(3,.ptr 1 []),(4,.ptr 0 []),(6,.ptr 2 []),(7,.ptr 3 []),(65,vu b)]]⟩
theorem e10:x10=Yw:=Eq.trans (b:=Ln) A4 (by rw[CQ];rfl)
theorem e8:x8=AM:=Eq.trans (b:=AH (BB x10)) A4 (by simp only[e10]<;>rfl)
def k:Kc P_ gl:=⟨(177,⟨H.p,H.r,u7 OB⟩),co H func177 (λx=>Eq.trans (b:=u7 (BO (BI (AE x8))) x) A4 (by simp only[e8]<;>rfl))⟩
end F177
namespace F183
abbrev R_:=(UInt32×Int)
abbrev K_:=S->Option R_
def H:Hd:=⟨[Su,Sb],[Su,Si],(.seq .d (.seq .d (.cut [0,1,6] [] (.keep [0,1,6,12] true) (.cut [0] [] (.seq .d (.blk (.loop [0,6,13,14,15] [] .d))) .d)))),kt [] false,[(231,(.seq .d (.seq .d (.cut [1] [] (.seq .d (.blk (.loop [1,5] [] (.seq .d (.seq .d (.cut [1,5] [] (.blk (.seq .d (.seq .d (.cut [1,2,3,5] [] (.seq .d (.blk (.loop [1,2,3,5,10] [] .d))) .d)))) .d)))))) .d))))],f183⟩
def t28(a:LB)(b:LU)(h:UInt32)(m:Int):S:=⟨[(0,vu h),(6,.ptr 0 []),(13,vb a),(14,vi (Ac a)),(15,vi m)],[.box 369 (.val (.vec 256 (.int .u32)) b)],[]⟩
def z28:Nat->S->Option R_:=H.i P_ [r,r,r,l,r,d]
def t21(f:UInt32)(a:LB)(g:Int)(b:LU)(k:UInt32)(n:Int):S:=⟨[(1,.ptr 0 []),(2,vi g),(3,vu k),(5,vi g),(10,vi n)],[.box 369 (.val (.vec 256 (.int .u32)) b)],[[(0,vu f),(1,vb a)]]⟩
def z21(Dr:K_):Nat->S->Option R_:=H.i P_ [r,r,l,(call 0 231),r,r,l,r,d,(lp Dr),r,r,l,d,r,r,l,r,d]
def t16(f:UInt32)(a:LB)(g:Int)(b:LU):S:=⟨[(1,.ptr 0 []),(5,vi g)],[.box 369 (.val (.vec 256 (.int .u32)) b)],[[(0,vu f),(1,vb a)]]⟩
def z16:Nat->S->Option R_:=H.i P_ [r,r,l,(call 0 231),r,r,l,r,d]
def x28(a:LB)(b:LU)(h:UInt32)(m:Int):Option R_:=H.e P_ [r,r,r,l,r,d] (t28 a b h m)
def x21(Dr:K_)(f:UInt32)(a:LB)(g:Int)(b:LU)(k:UInt32)(n:Int):Option R_:=H.e P_ [r,r,l,(call 0 231),r,r,l,r,d,(lp Dr),r,r,l,d,r,r,l,r,d] (t21 f a g b k n)
theorem i28(a:LB)(b:LU):∀(q:Nat) (h:UInt32) (m:Int),z28 q (t28 a b h m)=Nh a b q h m:=
 ind (λ_ _=>by kernel_rfl) λq ih h m=>Eq.trans (b:=Ym Wn (λh m=>(z28 q) (t28 a b h m)) a b h m) A4 (by simp only[ih]<;>rfl)
theorem e28:x28=Xl:=by funext a b h m;exact Eq.trans A4 ((i28 a b Bl h m).trans (by rw[Ak];rfl))
theorem i21(Dr:K_)(f:UInt32)(a:LB)(g:Int)(b:LU):∀(q:Nat) (k:UInt32) (n:Int),z21 Dr q (t21 f a g b k n)=Ms (λg b=>Dr (t16 f a g b)) f a g b q k n:=
 ind (λ_ _=>by kernel_rfl) λq ih k n=>Eq.trans (b:=Wi (Wx (λg b=>Dr (t16 f a g b)) f a) (λk n=>(z21 Dr q) (t21 f a g b k n)) f a g b k n) A4 (by simp only[ih]<;>rfl)
theorem e21(Dr:K_)(f:UInt32)(a:LB):x21 Dr f a=Vx (λg b=>Dr (t16 f a g b)) f a:=by funext g b k n;exact Eq.trans A4 ((i21 Dr f a g b Bl k n).trans (by rw[Ak];rfl))
theorem i16(f:UInt32)(a:LB):∀(q:Nat) (g:Int) (b:LU),z16 q (t16 f a g b)=Mq f a q g b:=
 ind (λ_ _=>by kernel_rfl) λq ih g b=>Eq.trans (b:=Yn (x21 (z16 q) f a) (Wq (Wy x28)) f a g b) A4 (by simp only[e21,e28,ih]<;>rfl)
def k:Kc P_ gl:=⟨(183,⟨H.p,H.r,u2 QY⟩),co H func183 (λx=>Eq.trans (b:=u2 (AT (λf a g b=>z16 Bl (t16 f a g b))) x) A4 (by simp only[i16,Ak]<;>rfl))⟩
end F183
namespace F107
def H:Hd:=⟨[Sb],[Su,Si],.d,kt [F183.k] false,[],f107⟩
def k:Kc P_ gl:=⟨(107,⟨H.p,H.r,Jy⟩),co H func107⟩
end F107
namespace F182
def H:Hd:=⟨[Sq,Si],[Sz],.d,kt [] false,[],f182⟩
def k:Kc P_ gl:=⟨(182,⟨H.p,H.r,u2 dE⟩),co H func182⟩
end F182
namespace F106
abbrev R_:=(LB×Int)
def H:Hd:=⟨[Sq,Si],[Ob 5,Si],(.seq .d (.seq .d (.seq .d (.seq .d (.cut [6] [] (.seq .d (.blk (.loop [0,6,21,22] [] .d))) .d))))),kt [F182.k] false,[],f106⟩
def t4(f:UInt64)(g:LB)(a:Int)(b:LB):S:=⟨[(0,vq f),(6,.own 0),(21,vi (Ac g)),(22,vi a)],[Ab 5 b],[]⟩
def z4:Nat->S->Option R_:=H.i P_ [r,r,r,r,l,r,d]
theorem i4(f:UInt64)(g:LB):∀(q:Nat) (a:Int) (b:LB),z4 q (t4 f g a b)=Xt f g q a b:=
 ind (λ_ _=>by kernel_rfl) λq ih a b=>Eq.trans (b:=IS IJ (λa b=>(z4 q) (t4 f g a b)) f g a b) A4 (by simp only[ih]<;>rfl)
def k:Kc P_ gl:=⟨(106,⟨H.p,H.r,u2 Kq⟩),co H func106 (λx=>Eq.trans (b:=u2 (IZ (λf g a b=>z4 Bl (t4 f g a b))) x) A4 (by simp only[i4,Ak]<;>rfl))⟩
end F106
namespace F179
abbrev R_:=LB
def H:Hd:=⟨[.lf (.list (.list (.int .u8))) none],[Ob 5],(.seq .d (.seq .d (.cut [0,3] [] (.seq .d (.blk (.loop [0,3,9,10,11] [] .d))) (.cut [0,6] [⟨6,[],.own 5 (.int .u8)⟩] (.keep [0,3,6,23,24] true) (.cut [6] [] (.seq .d (.blk (.loop [6,25,26,27] [] .d))) .d))))),kt [] true,[(230,(.seq .d (.cut [0,1] [] .d .d)))],f179⟩
def t14(a:List LB)(g:Int)(f:LB):S:=⟨[(6,.own 0),(25,.val (.list (.list (.int .u8))) a),(26,vi (Ac a)),(27,vi g)],[Ab 5 f],[]⟩
def z14:Nat->S->Option R_:=H.i P_ [r,r,r,r,l,r,d]
def t9(a:List LB)(b h:Int):S:=⟨[(0,.val (.list (.list (.int .u8))) a),(3,vi b),(9,.val (.list (.list (.int .u8))) a),(10,vi (Ac a)),(11,vi h)],[],[]⟩
def z9:Nat->S->Option R_:=H.i P_ [r,r,l,r,d]
def x14(a:List LB)(g:Int)(f:LB):Option R_:=H.e P_ [r,r,r,r,l,r,d] (t14 a g f)
theorem i14(a:List LB):∀(q:Nat) (g:Int) (f:LB),z14 q (t14 a g f)=Du a q g f:=
 ind (λ_ _=>by kernel_rfl) λq ih g f=>Eq.trans (b:=Fu Ft (λg f=>(z14 q) (t14 a g f)) a g f) A4 (by simp only[ih]<;>rfl)
theorem e14:x14=Fs:=by funext a g f;exact Eq.trans A4 ((i14 a Bl g f).trans (by rw[Ak];rfl))
theorem i9(a:List LB):∀(q:Nat) (b h:Int),z9 q (t9 a b h)=Eb a q b h:=
 ind (λ_ _=>by kernel_rfl) λq ih b h=>Eq.trans (b:=Gh (Fw (Fz (Fv x14))) (λb h=>(z9 q) (t9 a b h)) a b h) A4 (by simp only[e14,ih]<;>rfl)
def k:Kc P_ gl:=⟨(179,⟨H.p,H.r,Iv⟩),co H func179 (λx=>Eq.trans (b:=Gp (λa b h=>z9 Bl (t9 a b h)) x) A4 (by simp only[i9,Ak]<;>rfl))⟩
end F179
namespace F103
abbrev R_:=(LB×Int)
abbrev K_:=S->Option R_
def H:Hd:=⟨[.agg [Si,Si],.lf (.vec 16 (.int .i32)) none,Sw],[Ob 5,Si],(.seq .d (.seq .d (.seq .d (.seq .d (.seq .d (.cut [11] [] (.seq .d (.blk (.loop [3,10,11,30,31,32] [⟨11,[0],.own 5 (.int .u8)⟩] (.seq .d (.seq .d (.cut [3,10,11,30,31,32] [] (.blk (.seq .d (.seq .d (.seq .d (.seq .d (.keep [3,10,11,14,30,31,32,59] true)))))) .d)))))) .d)))))),kt [F106.k,F107.k,F175.k,F176.k,F177.k,F179.k] false,[(178,(.seq .d (.seq .d (.blk (.loop [0,3,7,8] [] (.seq .d (.seq .d (.seq (.blk (.seq .d (.cut [0,3,4,7,8] [] .d (.seq .d (.cut [0,3,7,8] [] .d .d))))) .d))))))))],f103⟩
def t44(b:LU)(a g h f:Int)(n:List (Int×Int×UInt64×UInt64×Unit))(m:LB)(o k:Int)(w:LB):S:=⟨[(0,.ptr 0 []),(3,.ptr 1 []),(7,vi h),(8,vi o)],[.box 261 (.agg [.own 7,vi k]),.box 261 (.agg [.own 6,vi h]),.box 61 (.agg [vi a,vi g]),.box 258 (.val (.vec 6 (.cons (.int .i64) (.cons (.int .i64) (.cons (.int .u64) (.cons (.int .u64) .nil))))) n),.box 261 (.agg [.own 6,vi h]),Av 168 b,Ab 5 m,Ab 5 w],[[(3,.ptr 2 []),(10,.ptr 3 []),(11,.ptr 0 []),(14,.ptr 4 []),(30,.own 5),(31,vi (Ac b)),(32,vi f),(59,.agg [.own 6,vi h])]]⟩
def z44(Lr:K_):Nat->S->Option R_:=H.i P_ [r,r,r,r,r,l,r,d,(lp Lr),r,r,l,d,r,r,r,r,(call 1 178),r,r,d]
def t27(b:LU)(a g f:Int)(u:List (Int×Int×UInt64×UInt64×Unit))(v:Int)(p:LB):S:=⟨[(3,.ptr 0 []),(10,.ptr 1 []),(11,.ptr 2 []),(30,.own 3),(31,vi (Ac b)),(32,vi f)],[.box 61 (.agg [vi a,vi g]),.box 258 (.val (.vec 6 (.cons (.int .i64) (.cons (.int .i64) (.cons (.int .u64) (.cons (.int .u64) .nil))))) u),.box 261 (.agg [.own 4,vi v]),Av 168 b,Ab 5 p],[]⟩
def z27:Nat->S->Option R_:=H.i P_ [r,r,r,r,r,l,r,d]
def x44(Lr:K_)(b:LU)(a g h f:Int)(n:List (Int×Int×UInt64×UInt64×Unit))(m:LB)(o k:Int)(w:LB):Option R_:=H.e P_ [r,r,r,r,r,l,r,d,(lp Lr),r,r,l,d,r,r,r,r,(call 1 178),r,r,d] (t44 b a g h f n m o k w)
theorem i44(Lr:K_)(b:LU)(a g h f:Int)(n:List (Int×Int×UInt64×UInt64×Unit))(m:LB):∀(q:Nat) (o k:Int) (w:LB),z44 Lr q (t44 b a g h f n m o k w)=Ik (λf u v p=>Lr (t27 b a g f u v p)) b a g h f n m q o k w:=
 ind (λ_ _ _=>by kernel_rfl) λq ih o k w=>Eq.trans (b:=Ok (Nd (λo k w=>(z44 Lr q) (t44 b a g h f n m o k w)) h b f a g n m) (On (λf u v p=>Lr (t27 b a g f u v p)) b a g) b a g h f n m o k w) A4 (by simp only[ih]<;>rfl)
theorem e44(Lr:K_)(b:LU)(a g:Int):x44 Lr b a g=Nr (λf u v p=>Lr (t27 b a g f u v p)) b a g:=by funext h f n m o k w;exact Eq.trans A4 ((i44 Lr b a g h f n m Bl o k w).trans (by rw[Ak];rfl))
theorem i27(b:LU)(a g:Int):∀(q:Nat) (f:Int) (u:List (Int×Int×UInt64×UInt64×Unit)) (v:Int) (p:LB),z27 q (t27 b a g f u v p)=Ij b a g q f u v p:=
 ind (λ_ _ _ _=>by kernel_rfl) λq ih f u v p=>Eq.trans (b:=Nu (x44 (z27 q) b a g) Nq b a g f u v p) A4 (by simp only[e44,ih]<;>rfl)
def k:Kc P_ gl:=⟨(103,⟨H.p,H.r,u4 Jm⟩),co H func103 (λx=>Eq.trans (b:=u4 (Pm (λb a g f u v p=>z27 Bl (t27 b a g f u v p))) x) A4 (by simp only[i27,Ak]<;>rfl))⟩
end F103
theorem LM:ConOk Tryz.prog gl 50 Qu:=OF F84.k.2 F101.k.2 F174.k.2 F103.k.2 F104.k.2
namespace F180
abbrev R_:=Bool
def H:Hd:=⟨[.agg [Si,Si,Si,Si,Si]],[Sz],(.seq .d (.cut [1] [] .d .d)),kt [] false,[],f180⟩
def k:Kc P_ gl:=⟨(180,⟨H.p,H.r,u5 Qm⟩),co H func180⟩
end F180
namespace F181
def H:Hd:=⟨[.agg [Si,Si,Si,Si,Si]],[Sz],.d,kt [F205.k] false,[],f181⟩
def k:Kc P_ gl:=⟨(181,⟨H.p,H.r,u5 Yp⟩),co H func181⟩
end F181
namespace F105
def H:Hd:=⟨[.agg [Si,Si,Si,Si,Si]],[Si],.d,kt [F180.k,F181.k] false,[],f105⟩
def k:Kc P_ gl:=⟨(105,⟨H.p,H.r,u5 Te⟩),co H func105⟩
end F105
namespace F51
abbrev R_:=(LB×Int)
def H:Hd:=⟨[.agg [Si,Si,Si,Si,Si]],[Ob 5,Si],(.seq .d (.seq .d (.seq .d (.cut [5] [] (.seq .d (.blk (.loop [5,31,32] [] .d))) .d)))),kt [F105.k,F106.k,F107.k] false,[],f51⟩
def t4(b f g h k m:Int)(a:LB):S:=⟨[(5,.own 0),(31,.val (.vec 5 (.int .i64)) ([b,f,g,h,k]:LI)),(32,vi m)],[Ab 5 a],[]⟩
def z4:Nat->S->Option R_:=H.i P_ [r,r,r,l,r,d]
theorem i4(b f g h k:Int):∀(q:Nat) (m:Int) (a:LB),z4 q (t4 b f g h k m a)=Li b f g h k q m a:=
 ind (λ_ _=>by kernel_rfl) λq ih m a=>Eq.trans (b:=Vg Vi (λm a=>(z4 q) (t4 b f g h k m a)) b f g h k m a) A4 (by simp only[ih]<;>rfl)
def k:Kc P_ gl:=⟨(51,⟨H.p,H.r,u5 EY⟩),co H func51 (λx=>Eq.trans (b:=u5 (Vm (λb f g h k m a=>z4 Bl (t4 b f g h k m a))) x) A4 (by simp only[i4,Ak]<;>rfl))⟩
end F51
namespace F108
def H:Hd:=⟨[Ss],[Sq,Si],.d,kt [F171.k] false,[],f108⟩
def k:Kc P_ gl:=⟨(108,⟨H.p,H.r,TD⟩),co H func108⟩
end F108
namespace F52
def H:Hd:=⟨[Ss],[Ob 5,Si],.d,kt [F106.k,F108.k] false,[],f52⟩
def k:Kc P_ gl:=⟨(52,⟨H.p,H.r,Tw⟩),co H func52⟩
end F52
namespace F109
abbrev R_:=Int
def H:Hd:=⟨[Sl],[Si],(.seq .d (.seq .d (.seq .d (.cut [] [] (.seq .d (.blk (.loop [3,14,15,16] [] .d))) .d)))),kt [] false,[],f109⟩
def t4(a:LI)(f b:Int):S:=⟨[(3,vi f),(14,vl a),(15,vi (Ac a)),(16,vi b)],[],[]⟩
def z4:Nat->S->Option R_:=H.i P_ [r,r,r,l,r,d]
theorem i4(a:LI):∀(q:Nat) (f b:Int),z4 q (t4 a f b)=Nj a q f b:=
 ind (λ_ _=>by kernel_rfl) λq ih f b=>Eq.trans (b:=Za Zf (λf b=>(z4 q) (t4 a f b)) a f b) A4 (by simp only[ih]<;>rfl)
def k:Kc P_ gl:=⟨(109,⟨H.p,H.r,Qg⟩),co H func109 (λx=>Eq.trans (b:=Ye (λa f b=>z4 Bl (t4 a f b)) x) A4 (by simp only[i4,Ak]<;>rfl))⟩
end F109
namespace F53
abbrev R_:=(LB×Int)
abbrev K_:=S->Option R_
def H:Hd:=⟨[Sl],[Ob 5,Si],(.seq .d (.seq .d (.seq .d (.seq .d (.cut [5,6] [] (.seq .d (.blk (.loop [5,6,17,18,19] [⟨5,[],.own 5 (.int .u8)⟩,⟨6,[0],.own 5 (.int .u8)⟩] (.seq .d (.seq .d (.cut [5,6,17,18,19] [] (.blk (.seq .d (.keep [5,6,8,17,18,19,23,24,25] true))) .d)))))) (.seq .d (.cut [5] [] (.keep [5,6,9,33,34,35] true) .d))))))),kt [F106.k,F107.k,F109.k] false,[(110,.d)],f53⟩
def t8(a:LI)(f:Int)(b:LB):S:=⟨[(5,.ptr 0 []),(6,.fn 110 [.ptr 0 []]),(17,vl a),(18,vi (Ac a)),(19,vi f)],[.box 22 (.own 1),Ab 5 b],[]⟩
def z8:Nat->S->Option R_:=H.i P_ [r,r,r,r,l,r,d]
theorem i8(a:LI):∀(q:Nat) (f:Int) (b:LB),z8 q (t8 a f b)=Mm a q f b:=
 ind (λ_ _=>by kernel_rfl) λq ih f b=>Eq.trans (b:=Yz (Uv (λf b=>(z8 q) (t8 a f b)) a) Uo a f b) A4 (by simp only[ih]<;>rfl)
def k:Kc P_ gl:=⟨(53,⟨H.p,H.r,JL⟩),co H func53 (λx=>Eq.trans (b:=Wp (λa f b=>z8 Bl (t8 a f b)) x) A4 (by simp only[i8,Ak]<;>rfl))⟩
end F53
namespace F55
def H:Hd:=⟨[Sb],[Si],.d,kt [] false,[],f55⟩
def k:Kc P_ gl:=⟨(55,⟨H.p,H.r,AP⟩),co H func55⟩
end F55
namespace F56
abbrev R_:=LB
def H:Hd:=⟨[.lf (.list (.list (.int .u8))) none],[Ob 5],(.seq .d (.seq .d (.cut [3] [] (.seq .d (.blk (.loop [3,6,7,8] [⟨3,[],.own 5 (.int .u8)⟩] .d))) .d))),kt [] false,[],f56⟩
def t4(a:List LB)(f:Int)(b:LB):S:=⟨[(3,.own 0),(6,.val (.list (.list (.int .u8))) a),(7,vi (Ac a)),(8,vi f)],[Ab 5 b],[]⟩
def z4:Nat->S->Option R_:=H.i P_ [r,r,l,r,d]
theorem i4(a:List LB):∀(q:Nat) (f:Int) (b:LB),z4 q (t4 a f b)=Oi a q f b:=
 ind (λ_ _=>by kernel_rfl) λq ih f b=>Eq.trans (b:=Xv Ys (λf b=>(z4 q) (t4 a f b)) a f b) A4 (by simp only[ih]<;>rfl)
def k:Kc P_ gl:=⟨(56,⟨H.p,H.r,JN⟩),co H func56 (λx=>Eq.trans (b:=Wr (λa f b=>z4 Bl (t4 a f b)) x) A4 (by simp only[i4,Ak]<;>rfl))⟩
end F56
namespace F10
abbrev R_:=(LB×Int)
abbrev K_:=S->Option R_
def H:Hd:=⟨[.agg [Si,Si,Si,Sw],Ss],[Ob 5,Si],(.seq .d (.seq .d (.seq .d (.seq .d (.seq .d (.seq .d (.seq .d (.seq .d (.cut [8,9,10] [⟨10,[],.own 5 (.int .u8)⟩] .d (.cut [7,8,9,10,11] [] (.keep [7,8,9,10,11,46,48,49,50,51] true) .d)))))))))),kt [F49.k,⟨(50,Qu),LM⟩,F51.k,F52.k,F53.k,F55.k,F56.k] false,[(54,(.seq .d (.seq .d (.cut [5] [] (.seq .d (.blk (.loop [1,5,11,12,13] [] (.seq .d (.seq .d (.cut [1,5,11,12,13] [] .d .d)))))) .d))))],f10⟩
def t9(a:List LB)(b f:LB)(g:Int)(h:LI):S:=⟨[(1,.fn 55 []),(5,.own 0),(11,.own 1),(12,vi (Ac a)),(13,vi g)],[Ai 3 h,.arr 22 (.list (.int .u8)) a,Ab 5 b,Ab 5 f],[[(8,.own 1),(9,.own 2),(10,.own 3)]]⟩
def z9:Nat->S->Option R_:=H.i P_ [r,r,r,r,r,r,r,r,r,l,(call 1 54),r,r,l,r,d]
theorem i9(a:List LB)(b f:LB):∀(q:Nat) (g:Int) (h:LI),z9 q (t9 a b f g h)=Ny a b f q g h:=
 ind (λ_ _=>by kernel_rfl) λq ih g h=>Eq.trans (b:=Xp (Uu (λg h=>(z9 q) (t9 a b f g h)) a b f) Vj a b f g h) A4 (by simp only[ih]<;>rfl)
def k:Kc P_ gl:=⟨(10,⟨H.p,H.r,u5 JJ⟩),co H func10 (λx=>Eq.trans (b:=u5 (Wh (Vy (λa b f g h=>z9 Bl (t9 a b f g h)))) x) A4 (by simp only[i9,Ak]<;>rfl))⟩
end F10
namespace F19
def H:Hd:=⟨[],[Ob 5,Sz],.d,kt [F10.k] false,[],f19⟩
def k:Kc P_ gl:=⟨(19,⟨H.p,H.r,λ_=>Ih⟩),co H func19⟩
end F19
namespace F158
def H:Hd:=⟨[Sb,Sb],[Sz],.d,kt [] false,[],f158⟩
def k:Kc P_ gl:=⟨(158,⟨H.p,H.r,u2 Gn⟩),co H func158⟩
end F158
namespace F235
def H:Hd:=⟨[Sb,Sb],[Sz],.d,kt [F158.k] false,[],f235⟩
def k:Kc P_ gl:=⟨(235,⟨H.p,H.r,u2 Fi⟩),co H func235⟩
end F235
namespace F278
abbrev R_:=(Int×Int)
def H:Hd:=⟨[Sb],[Si,Si],(.seq .d (.seq .d (.seq .d (.cut [4] [] (.seq .d (.blk (.loop [4,10,11,12] [] .d))) .d)))),kt [] false,[],f278⟩
def t4(a:LB)(b f:Int):S:=⟨[(4,vi b),(10,vb a),(11,vi (Ac a)),(12,vi f)],[],[]⟩
def z4:Nat->S->Option R_:=H.i P_ [r,r,r,l,r,d]
theorem i4(a:LB):∀(q:Nat) (b f:Int),z4 q (t4 a b f)=Jw a q b f:=
 ind (λ_ _=>by kernel_rfl) λq ih b f=>Eq.trans (b:=Rt Sm (λb f=>(z4 q) (t4 a b f)) a b f) A4 (by simp only[ih]<;>rfl)
def k:Kc P_ gl:=⟨(278,⟨H.p,H.r,AV⟩),co H func278 (λx=>Eq.trans (b:=Sk (λa b f=>z4 Bl (t4 a b f)) x) A4 (by simp only[i4,Ak]<;>rfl))⟩
end F278
namespace F265
def Ke(j5:LB->UInt8->UInt8->Option (Int×Int))(a:LB):Option (Int×Int):=
(Fi a ([(73:UInt8),(68:UInt8),(51:UInt8)]:LB)).bind λn=>
if(!n)then
some (0,6)
else
if(Cl (Ac a) 10)then
some (0,24)
else
(Ah a 3).bind λf=>
(Ah a 5).bind λb=>
(λo:Option (Int×Int)=>
(λp:Option (Int×Int)=>
both (
both (
bo (
j5 a f b)) [
o,
o]) [
rS (
bo (
j5 a f b)),
p,
p]) (
both (
o) [
bo (
j5 a f b),
both (
bo (
j5 a f b)) [
j5 a f b]])) (
both (
j5 a f b) [
bo (
j5 a f b)])
theorem Zv: @Ke= @Lj:=by
  unfold Ke Lj
  try simp only[JO,Vr,Yl]
  all_goals
    repeat (refine funext λ_=>?_)
    repeat' first
      |with_reducible rfl
      |with_reducible refine Gk ?_ ?_
      |with_reducible refine Ge ?_ ?_ ?_
      |with_reducible refine Gm ?_ ?_ ?_ ?_
      |((with_reducible refine Jo ?_ ?_);focus (intro h;first|(subst h;rfl)|(simp only[h];rfl)|(simp[Dk,Ac,h];done)))
      |with_reducible refine Iz λx=>?_
      |with_reducible refine Nf (λ_=>?_) (λ_=>?_)
      |(refine Dx (λh=>by simp only[h,Jg,Db,Cu,ite_self]) (λx h=>?_);(try simp only[h,Db]))
      |(refine Ey (λh=>?_) (λh=>?_)<;>simp only[h,if_true,if_false,Bool.false_eq_true])
abbrev R_:=(Int×Int)
def H:Hd:=⟨[Sb],[Si,Si],(.seq .d (.seq .d (.seq .d (.cut [0,4,5] [] (.mode false) (.seq .d (.seq .d (.cut [0,5,6] [] (.cut [0,5,6,43] [] (.keep [0,5,6,7,8,31,32,33,34,35,36,37,38,39,40,41,42,43] true) .d) (.seq .d (.cut [0,5,6] [] .d .d))))))))),kt [F158.k,F235.k,F278.k] false,[(279,.d)],f265⟩
def x6(a:LB)(g:Int)(b:UInt8)(m:Bool):Option R_:=H.e P_ [r,r,r,r,r,r,l,r] ⟨[(0,vb a),(5,.ptr 0 []),(6,vi g),(43,vt m)],[.box 5 (vc b)],[]⟩
def x5(a:LB)(f b:UInt8):Option R_:=H.e P_ [r,r,r,r] ⟨[(0,vb a),(4,.ptr 0 []),(5,.ptr 1 [])],[.box 5 (vc f),.box 5 (vc b)],[]⟩
theorem e6:x6=Um:=A4
theorem e5:x5=Ur:=Eq.trans (b:=Vk x6) A4 (by simp only[e6]<;>rfl)
def k:Kc P_ gl:=⟨(265,⟨H.p,H.r,DS⟩),co H func265 (λx=>Eq.trans (b:=Ke x5 x) A4 (by rw[Zv];simp only[e5]<;>rfl))⟩
end F265
namespace F206
abbrev R_:=(UInt64×Int)
def H:Hd:=⟨[Sb],[Sq,Si],(.seq .d (.seq .d (.seq .d (.cut [4] [] (.seq .d (.blk (.loop [4,15,16,17] [] .d))) .d)))),kt [] false,[],f206⟩
def t4(a:LB)(f:UInt64)(b:Int):S:=⟨[(4,vq f),(15,vb a),(16,vi (Ac a)),(17,vi b)],[],[]⟩
def z4:Nat->S->Option R_:=H.i P_ [r,r,r,l,r,d]
theorem i4(a:LB):∀(q:Nat) (f:UInt64) (b:Int),z4 q (t4 a f b)=Vw a q f b:=
 ind (λ_ _=>by kernel_rfl) λq ih f b=>Eq.trans (b:=IX IQ (λf b=>(z4 q) (t4 a f b)) a f b) A4 (by simp only[ih]<;>rfl)
def k:Kc P_ gl:=⟨(206,⟨H.p,H.r,NC⟩),co H func206 (λx=>Eq.trans (b:=JQ (λa f b=>z4 Bl (t4 a f b)) x) A4 (by simp only[i4,Ak]<;>rfl))⟩
end F206
namespace F153
def H:Hd:=⟨[Sb,Si,Si],[Sq,Si],.d,kt [F206.k] false,[],f153⟩
def k:Kc P_ gl:=⟨(153,⟨H.p,H.r,u3 QF⟩),co H func153⟩
end F153
namespace F237
abbrev R_:=LB
def H:Hd:=⟨[Si,Si,Sq],[Ob 5],(.seq .d (.seq .d (.cut [7] [] (.seq .d (.blk (.loop [7,20,21,22] [] .d))) .d))),kt [F106.k] false,[],f237⟩
def t4(a b:Int)(f:UInt64)(h:Int)(g:LB):S:=⟨[(7,.own 0),(20,.own 1),(21,vi (Ac ([(2000:UInt64),(Ap (Aa a (32:Int)):UInt64),(Ap b:UInt64),f,(0:UInt64),(0:UInt64)]:LQ))),(22,vi h)],[Ab 5 g,.arr 167 (.int .u64) ([(2000:UInt64),(Ap (Aa a (32:Int)):UInt64),(Ap b:UInt64),f,(0:UInt64),(0:UInt64)]:LQ)],[]⟩
def z4:Nat->S->Option R_:=H.i P_ [r,r,l,r,d]
theorem i4(a b:Int)(f:UInt64):∀(q:Nat) (h:Int) (g:LB),z4 q (t4 a b f h g)=DI a b f q h g:=
 ind (λ_ _=>by kernel_rfl) λq ih h g=>Eq.trans (b:=ON OH (λh g=>(z4 q) (t4 a b f h g)) a b f h g) A4 (by simp only[ih]<;>rfl)
def k:Kc P_ gl:=⟨(237,⟨H.p,H.r,u3 LA⟩),co H func237 (λx=>Eq.trans (b:=u3 (QN (λa b f h g=>z4 Bl (t4 a b f h g))) x) A4 (by simp only[i4,Ak]<;>rfl))⟩
end F237
namespace F236
def H:Hd:=⟨[Sb,Sq],[.agg [Si,Si],Sz],.d,kt [F153.k,F158.k,F237.k] false,[],f236⟩
def k:Kc P_ gl:=⟨(236,⟨H.p,H.r,u2 Zl⟩),co H func236⟩
end F236
namespace F266
def H:Hd:=⟨[Sb],[Si,Si],.d,kt [F158.k,F235.k,F236.k,F237.k] false,[],f266⟩
def k:Kc P_ gl:=⟨(266,⟨H.p,H.r,TC⟩),co H func266⟩
end F266
namespace F233
def H:Hd:=⟨[Sb],[Si,Si],.d,kt [F265.k,F266.k] false,[],f233⟩
def k:Kc P_ gl:=⟨(233,⟨H.p,H.r,Kb⟩),co H func233⟩
end F233
theorem Yq:ConOk Tryz.prog gl 116 Ko:=PR ent116 F233.k.2
namespace F234
def H:Hd:=⟨[Ss,Ss],[Sz],.d,kt [] false,[],f234⟩
def k:Kc P_ gl:=⟨(234,⟨H.p,H.r,u2 Ev⟩),co H func234⟩
end F234
namespace F187
def H:Hd:=⟨[Ss,Ss],[Sz],.d,kt [F234.k] false,[],f187⟩
def k:Kc P_ gl:=⟨(187,⟨H.p,H.r,u2 Ph⟩),co H func187⟩
end F187
namespace F117
abbrev R_:=(Int×Int×Int×Int×Int×Int)
def H:Hd:=⟨[Sb],[.agg [Si,Si,Si,Si,Si],Si],(.seq .d (.seq .d (.seq .d (.seq .d (.seq .d (.seq .d (.seq .d (.cut [2,8] [] (.seq .d (.blk (.loop [0,2,8,9,44,45] [] .d))) .d)))))))),kt [F107.k,F153.k,F180.k,F181.k,F187.k] false,[],f117⟩
def t4(b:LB)(g f:Int)(a:LI):S:=⟨[(0,vb b),(2,.ptr 0 []),(8,.ptr 1 []),(9,vi g),(44,.val (.vec 5 (.int .i64)) ([(2:Int),(2:Int),(2:Int),(4:Int),(4:Int)]:LI)),(45,vi f)],[.box 24 (.agg [vi 0,vi 0,vi 0,vi 0,vi 0]),.box 165 (.val (.vec 5 (.int .i64)) a)],[]⟩
def z4:Nat->S->Option R_:=H.i P_ [r,r,r,r,r,r,r,l,r,d]
theorem i4(b:LB):∀(q:Nat) (g f:Int) (a:LI),z4 q (t4 b g f a)=Mp b q g f a:=
 ind (λ_ _ _=>by kernel_rfl) λq ih g f a=>Eq.trans (b:=We Wc (λg f a=>(z4 q) (t4 b g f a)) b g f a) A4 (by simp only[ih]<;>rfl)
def k:Kc P_ gl:=⟨(117,⟨H.p,H.r,Wv⟩),co H func117 (λx=>Eq.trans (b:=Yh (λb g f a=>z4 Bl (t4 b g f a)) x) A4 (by simp only[i4,Ak]<;>rfl))⟩
end F117
namespace F119
def H:Hd:=⟨[.agg [Si,Si,Si,Si,Si]],[Ol 3,Si],.d,kt [F105.k,F174.k] false,[],f119⟩
def k:Kc P_ gl:=⟨(119,⟨H.p,H.r,u5 Fk⟩),co H func119⟩
end F119
namespace F122
def H:Hd:=⟨[Sb],[.agg [.agg [Si,Si,Si,Si,Si],.agg [Si,Si,Si,Si,Si],Ol 3],Si],.d,kt [⟨(116,Ko),Yq⟩,F117.k,F119.k] false,[],f122⟩
def k:Kc P_ gl:=⟨(122,⟨H.p,H.r,IB⟩),co H func122⟩
end F122
namespace F126
def H:Hd:=⟨[Sb,Ss],[Sz,Si],.d,kt [F52.k,F158.k] false,[],f126⟩
def k:Kc P_ gl:=⟨(126,⟨H.p,H.r,u2 Uc⟩),co H func126⟩
end F126
namespace F127
abbrev R_:=(LI×Int)
def H:Hd:=⟨[Sb,Si],[Ol 3,Si],(.seq .d (.seq .d (.seq .d (.seq .d (.seq .d (.seq .d (.cut [10] [] (.seq .d (.blk (.loop [0,10,48,49] [] .d))) .d))))))),kt [F107.k,F109.k,F153.k] false,[],f127⟩
def t4(a:LB)(f:LI)(g:Int)(b:LI):S:=⟨[(0,vb a),(10,.own 0),(48,vi (Ac f)),(49,vi g)],[Ai 3 b],[]⟩
def z4:Nat->S->Option R_:=H.i P_ [r,r,r,r,r,r,l,r,d]
theorem i4(a:LB)(f:LI):∀(q:Nat) (g:Int) (b:LI),z4 q (t4 a f g b)=Qx a f q g b:=
 ind (λ_ _=>by kernel_rfl) λq ih g b=>Eq.trans (b:=AU AG (λg b=>(z4 q) (t4 a f g b)) a f g b) A4 (by simp only[ih]<;>rfl)
def k:Kc P_ gl:=⟨(127,⟨H.p,H.r,u2 CK⟩),co H func127 (λx=>Eq.trans (b:=u2 (BM (λa f g b=>z4 Bl (t4 a f g b))) x) A4 (by simp only[i4,Ak]<;>rfl))⟩
end F127
namespace F192
def H:Hd:=⟨[Sb],[Sb,Si],.d,kt [F107.k,F206.k] false,[],f192⟩
def k:Kc P_ gl:=⟨(192,⟨H.p,H.r,Xn⟩),co H func192⟩
end F192
namespace F193
def H:Hd:=⟨[Sb],[.agg [Ob 5,Si],Si],.d,kt [F140.k] false,[],f193⟩
def k:Kc P_ gl:=⟨(193,⟨H.p,H.r,dG⟩),co H func193⟩
end F193
namespace F240
abbrev R_:=UInt64
def H:Hd:=⟨[.agg [Sb,Si],Si,Si],[Sq],(.seq .d (.seq .d (.cut [7] [] (.blk (.loop [1,2,3,7,8] [] .d)) .d))),kt [] false,[],f240⟩
def t4(b f:Int)(h:LB)(k:Int)(g:UInt64)(a:Int):S:=⟨[(1,vi b),(2,vi f),(3,.ptr 0 []),(7,vq g),(8,vi a)],[.box 261 (.agg [vb h,vi k])],[]⟩
def z4:Nat->S->Option R_:=H.i P_ [r,r,l,d]
theorem i4(b f:Int)(h:LB)(k:Int):∀(q:Nat) (g:UInt64) (a:Int),z4 q (t4 b f h k g a)=Xo b f h k q g a:=
 ind (λ_ _=>by kernel_rfl) λq ih g a=>Eq.trans (b:=JB JE (λg a=>(z4 q) (t4 b f h k g a)) b f h k g a) A4 (by simp only[ih]<;>rfl)
def k:Kc P_ gl:=⟨(240,⟨H.p,H.r,u4 QI⟩),co H func240 (λx=>Eq.trans (b:=u4 (IG (λb f h k g a=>z4 Bl (t4 b f h k g a))) x) A4 (by simp only[i4,Ak]<;>rfl))⟩
end F240
namespace F238
abbrev R_:=(LB×Int×Int)
abbrev K_:=S->Option R_
def H:Hd:=⟨[.agg [Sb,Si],Si,Si],[.agg [Ob 5,Si],Si],(.seq .d (.seq .d (.seq .d (.seq .d (.cut [6,8] [] (.seq .d (.blk (.loop [2,3,6,8,9] [⟨8,[0],.own 5 (.int .u8)⟩] (.seq .d (.cut [2,3,6,8,9] [] (.blk (.seq .d (.keep [2,3,6,8,9,10,39,40,41,42,43] true))) .d))))) .d))))),kt [F224.k,F240.k] false,[(261,(.blk (.loop [0,1,2] [] (.seq .d (.blk (.cut [0,1,2] [] .d (.seq .d (.cut [0,1,2,7] [] .d .d))))))))],f238⟩
def t44(a:Int)(g:LB)(b f:Int)(m n:UInt64)(k h:Int)(u:LB):S:=⟨[(0,.ptr 0 []),(1,vq n),(2,vi k)],[.box 261 (.agg [.own 3,vi h]),.box 261 (.agg [vb g,vi b]),.box 261 (.agg [.nils,vi 0]),Ab 5 u],[[(2,vi a),(3,.ptr 1 []),(6,.ptr 2 []),(8,.ptr 0 []),(9,vi f),(10,vi (Es (64:Int) (Ag a f))),(39,.agg [vb g,vi b]),(40,vi f),(41,vi (Es (64:Int) (Ag a f))),(42,vq m),(43,vi (Es (64:Int) (Ag a f)))]]⟩
def z44(Lr:K_):Nat->S->Option R_:=H.i P_ [r,r,r,r,l,r,d,(lp Lr),r,l,d,r,(call 5 261),d]
def t27(a:Int)(g:LB)(b f o:Int)(p:LB):S:=⟨[(2,vi a),(3,.ptr 0 []),(6,.ptr 1 []),(8,.ptr 2 []),(9,vi f)],[.box 261 (.agg [vb g,vi b]),.box 261 (.agg [.nils,vi 0]),.box 261 (.agg [.own 3,vi o]),Ab 5 p],[]⟩
def z27:Nat->S->Option R_:=H.i P_ [r,r,r,r,l,r,d]
def x44(Lr:K_)(a:Int)(g:LB)(b f:Int)(m n:UInt64)(k h:Int)(u:LB):Option R_:=H.e P_ [r,r,r,r,l,r,d,(lp Lr),r,l,d,r,(call 5 261),d] (t44 a g b f m n k h u)
theorem i44(Lr:K_)(a:Int)(g:LB)(b f:Int)(m:UInt64):∀(q:Nat) (n:UInt64) (k h:Int) (u:LB),z44 Lr q (t44 a g b f m n k h u)=Tl (λf o p=>Lr (t27 a g b f o p)) a g b f m q n k h u:=
 ind (λ_ _ _ _=>by kernel_rfl) λq ih n k h u=>Eq.trans (b:=EK (EW (λn k h u=>(z44 Lr q) (t44 a g b f m n k h u)) a f g b m) (DM (λf o p=>Lr (t27 a g b f o p)) a g b) a g b f m n k h u) A4 (by simp only[ih]<;>rfl)
theorem e44(Lr:K_)(a:Int)(g:LB)(b:Int):x44 Lr a g b=FM (λf o p=>Lr (t27 a g b f o p)) a g b:=by funext f m n k h u;exact Eq.trans A4 ((i44 Lr a g b f m Bl n k h u).trans (by rw[Ak];rfl))
theorem i27(a:Int)(g:LB)(b:Int):∀(q:Nat) (f o:Int) (p:LB),z27 q (t27 a g b f o p)=Ti a g b q f o p:=
 ind (λ_ _ _=>by kernel_rfl) λq ih f o p=>Eq.trans (b:=FJ (x44 (z27 q) a g b) EE a g b f o p) A4 (by simp only[e44,ih]<;>rfl)
def k:Kc P_ gl:=⟨(238,⟨H.p,H.r,u4 OW⟩),co H func238 (λx=>Eq.trans (b:=u4 (JD (λa g b f o p=>z27 Bl (t27 a g b f o p))) x) A4 (by simp only[i27,Ak]<;>rfl))⟩
end F238
namespace F195
def H:Hd:=⟨[.agg [Sb,Si],Si,Si],[Sq,Si],.d,kt [F224.k,F240.k] false,[],f195⟩
def k:Kc P_ gl:=⟨(195,⟨H.p,H.r,u4 Nv⟩),co H func195⟩
end F195
namespace F285
def H:Hd:=⟨[Sq],[Si],.d,kt [] false,[],f285⟩
def k:Kc P_ gl:=⟨(285,⟨H.p,H.r,Gv⟩),co H func285⟩
end F285
namespace F280
def Ox(j6:Int->UInt64->Int->LB->Int->Option (Int×Int×Int))(g:LB)(b a:Int):Option (Int×Int×Int):=
(Ec g b).bind λm=>
if(Bk m 0)then
some (0,0,m)
else
if(Cl a 0)then
some (0,0,2)
else
if(Hi a b)then
some (0,0,24)
else
(λn:Option (Int×Int×Int)=>
(λo:Option (Int×Int×Int)=>
rS (
o)) (
bo (
n))) (
(Nv g b a (Es 48 (Ag b a))).bind λ(k,h)=>
j6 h k a g b)
theorem DU: @Ox= @Rf:=by
  unfold Ox Rf;simp only[JO,Vr,Yl]
abbrev R_:=(Int×Int×Int)
def H:Hd:=⟨[.agg [Sb,Si],Si],[Si,Si,Si],(.seq .d (.seq .d (.seq .d (.seq .d (.seq .d (.cut [3,5,6,8,9] [] (.keep [2,3,5,6,8,9,22,23,24,25,26,27,28,29] false) (.seq .d (.seq .d (.cut [] [] (.blk (.seq (.blk (.seq (.blk (.cut [] [] (.cut [3,4,5] [] (.cut [3,4,5,36] [] (.keep [3,4,5,8,36,37,38,39,40] true) .d) .d) .d)) .d)) .d)) .d))))))))),kt [F195.k,F224.k,F285.k] false,[(284,.d)],f280⟩
def k:Kc P_ gl:=⟨(280,⟨H.p,H.r,u3 PB⟩),co H func280 (λx=>Eq.trans (b:=u3 (Ox AQ) x) A4 (by simp only[DU]<;>rfl))⟩
end F280
namespace F267
abbrev R_:=(UInt32×Int×Int)
def H:Hd:=⟨[.agg [Sb,Si],Si,Si],[Su,Si,Si],(.seq .d (.seq .d (.seq .d (.seq .d (.seq .d (.seq .d (.cut [2,3,7,10,11] [] .d .d))))))),kt [F195.k,F224.k,F262.k,F280.k] false,[],f267⟩
def k:Kc P_ gl:=⟨(267,⟨H.p,H.r,u4 TH⟩),co H func267⟩
end F267
namespace F239
abbrev R_:=(UInt32×Int×Int×Int×UInt64×UInt64×Int)
def H:Hd:=⟨[.agg [Sb,Si],Si,.agg [Si,Si,Sq,Sq]],[Su,Si,.agg [Si,Si,Sq,Sq],Si],(.seq .d (.cut [1,3,5,8] [] .d (.seq .d (.seq .d (.cut [5,6,7,8] [] .d (.cut [5,6,7,8] [] (.keep [5,6,7,8,81] true) .d)))))),kt [F195.k,F224.k,F225.k,F226.k,F267.k] false,[(229,(.seq .d (.seq .d (.seq .d (.blk (.cut [0,1,4] [] (.blk (.seq .d (.keep [0,1,4,6,18,19,20,21,22,23,24,25] true))) (.cut [] [] (.keep [0,1,4,27,28,29,30,31,32,33,34] true) .d))))))),(264,.d)],f239⟩
def x8(f:UInt32)(k a:Int)(b:UInt64)(m:Int)(n:UInt64):Option R_:=H.e P_ [r,r,r,r,r,l,(call 1 229),r,r,r,d,r] ⟨[(0,.ptr 0 []),(1,vu f),(4,.fn 264 [])],[.box 257 (.agg [vi a,vi m,vq b,vq n]),.box 257 (.agg [vi 0,vi 0,vq 0,vq 0])],[[(5,.ptr 0 []),(6,vu f),(7,vi k),(8,.ptr 1 []),(81,vu f)]]⟩
theorem e8:x8=FO:=A4
def k:Kc P_ gl:=⟨(239,⟨H.p,H.r,u7 Rw⟩),co H func239 (λx=>Eq.trans (b:=u7 (GB (EP (EF x8))) x) A4 (by simp only[e8]<;>rfl))⟩
end F239
namespace F194
def Hg(j21:Int->Int->Int->UInt32->Int-> (List (Int×Int×UInt64×UInt64×Unit))->LU->Int->Int->UInt64->UInt64->Option (LU×Int×Int))(j24:Int->LU->Option (LU×Int×Int))(a f:Int)(g:LB)(b k h:Int)(m:List (Int×Int×UInt64×UInt64×Unit))(n:LU):Option (LU×Int×Int):=
if(Cl h (Dm f a))then
(OW g b k (Es (Aa k 81) b)).bind λ(ag,ae,af)=>
if(Bk af 0)then
some (([]:LU),0,af)
else
(Ds (Bk a 0)).bind λ_=>
(Ah m (Gc h a)).bind λ_=>
(λai:Option (LU×Int×Int)=>
both (
both (
(Ah m (Gc h a)).bind λo=>
(λao:Option (LU×Int×Int)=>
bo (
ao)) (
(Rw ag ae 0 o.1 o.2.1 o.2.2.1 o.2.2.2.1).bind λ(w,v,aa,ab,ac,ad,y)=>
j21 k h y w v m n aa ab ac ad)) [
ai]) [
(Ah m (Gc h a)).bind λo=>
(λaj:Option (LU×Int×Int)=>
both (
bo (
aj)) [
aj]) (
(Rw ag ae 0 o.1 o.2.1 o.2.2.1 o.2.2.2.1).bind λ(w,v,aa,ab,ac,ad,y)=>
j21 k h y w v m n aa ab ac ad),
bo (
ai)]) (
(Ah m (Gc h a)).bind λo=>
(Rw ag ae 0 o.1 o.2.1 o.2.2.1 o.2.2.2.1).bind λ(w,v,aa,ab,ac,ad,y)=>
j21 k h y w v m n aa ab ac ad)
else
j24 k n
theorem Ug: @Hg= @Il:=by
  unfold Hg Il
  try simp only[JO,Vr,Yl]
  all_goals
    repeat (refine funext λ_=>?_)
    repeat' first
      |with_reducible rfl
      |with_reducible refine Gk ?_ ?_
      |with_reducible refine Ge ?_ ?_ ?_
      |with_reducible refine Gm ?_ ?_ ?_ ?_
      |((with_reducible refine Jo ?_ ?_);focus (intro h;first|(subst h;rfl)|(simp only[h];rfl)|(simp[Dk,Ac,h];done)))
      |with_reducible refine Iz λx=>?_
      |with_reducible refine Nf (λ_=>?_) (λ_=>?_)
      |(refine Dx (λh=>by simp only[h,Jg,Db,Cu,ite_self]) (λx h=>?_);(try simp only[h,Db]))
      |(refine Ey (λh=>?_) (λh=>?_)<;>simp only[h,if_true,if_false,Bool.false_eq_true])
abbrev R_:=(LU×Int×Int)
abbrev K_:=S->Option R_
def H:Hd:=⟨[Si,Si,.agg [Sb,Si]],[Ov 168,Si,Si],(.seq .d (.seq .d (.cut [0,1,5,9] [] (.seq .d (.blk (.loop [0,1,5,9,19] [] .d))) (.seq .d (.seq .d (.cut [11,12] [] (.seq .d (.blk (.loop [0,5,9,11,12,28,29] [⟨11,[],.own 168 (.int .u32)⟩] (.seq .d (.seq .d (.seq (.blk (.seq .d (.seq .d (.seq .d (.cut [0,5,9,11,12,13,15,16,17,18,28,29] [] (.mode false) (.seq .d (.cut [0,5,9,11,12,16,28,29] [] .d .d))))))) .d)))))) .d)))))),kt [F223.k,F238.k,F239.k] false,[],f194⟩
def t16(a f:Int)(g:LB)(b k h:Int)(m:List (Int×Int×UInt64×UInt64×Unit))(n:LU):S:=⟨[(0,vi a),(5,.ptr 0 []),(9,.ptr 1 []),(11,.own 2),(12,vi k),(28,vi (Dm f a)),(29,vi h)],[.box 261 (.agg [vb g,vi b]),.box 258 (.val (.vec 6 (.cons (.int .i64) (.cons (.int .i64) (.cons (.int .u64) (.cons (.int .u64) .nil))))) m),Av 168 n],[]⟩
def z16:Nat->S->Option R_:=H.i P_ [r,r,r,r,r,l,r,d]
def t13(a f:Int)(g:LB)(b u:Int)(p:List (Int×Int×UInt64×UInt64×Unit)):S:=⟨[(0,vi a),(1,vi f),(5,.ptr 0 []),(9,.ptr 1 []),(19,vi u)],[.box 261 (.agg [vb g,vi b]),.box 258 (.val (.vec 6 (.cons (.int .i64) (.cons (.int .i64) (.cons (.int .u64) (.cons (.int .u64) .nil))))) p)],[]⟩
def z13:Nat->S->Option R_:=H.i P_ [r,r,l,r,d]
def x16(a f:Int)(g:LB)(b k h:Int)(m:List (Int×Int×UInt64×UInt64×Unit))(n:LU):Option R_:=H.e P_ [r,r,r,r,r,l,r,d] (t16 a f g b k h m n)
theorem i16(a f:Int)(g:LB)(b:Int):∀(q:Nat) (k h:Int) (m:List (Int×Int×UInt64×UInt64×Unit)) (n:LU),z16 q (t16 a f g b k h m n)=Ib a f g b q k h m n:=
 ind (λ_ _ _ _=>by kernel_rfl) λq ih k h m n=>Eq.trans (b:=Hg (Np (λk h m n=>(z16 q) (t16 a f g b k h m n)) a f g b) Nz a f g b k h m n) A4 (by rw[Ug];simp only[ih]<;>rfl)
theorem e16:x16=Om:=by funext a f g b k h m n;exact Eq.trans A4 ((i16 a f g b Bl k h m n).trans (by rw[Ak];rfl))
theorem i13(a f:Int)(g:LB)(b:Int):∀(q:Nat) (u:Int) (p:List (Int×Int×UInt64×UInt64×Unit)),z13 q (t13 a f g b u p)=If a f g b q u p:=
 ind (λ_ _=>by kernel_rfl) λq ih u p=>Eq.trans (b:=Mu (Mo x16) (λu p=>(z13 q) (t13 a f g b u p)) a f g b u p) A4 (by simp only[e16,ih]<;>rfl)
def k:Kc P_ gl:=⟨(194,⟨H.p,H.r,u4 Xj⟩),co H func194 (λx=>Eq.trans (b:=u4 (Px (λa f g b u p=>z13 Bl (t13 a f g b u p))) x) A4 (by simp only[i13,Ak]<;>rfl))⟩
end F194
namespace F242
def H:Hd:=⟨[Su],[Sx],.d,kt [] false,[],f242⟩
def k:Kc P_ gl:=⟨(242,⟨H.p,H.r,Kg⟩),co H func242⟩
end F242
namespace F268
def H:Hd:=⟨[.agg [Si,.lf (.vec 16 (.int .i32)) none,.lf (.vec 16 (.int .i32)) none],Sx],[Sx,.agg [Si,.lf (.vec 16 (.int .i32)) none,.lf (.vec 16 (.int .i32)) none],Si],.d,kt [F275.k,F276.k] false,[],f268⟩
def k:Kc P_ gl:=⟨(268,⟨H.p,H.r,u4 QX⟩),co H func268⟩
end F268
namespace F241
def Nn(a:Int)(b:Int32)(f:Int)(g h:LX)(o:Int32):Option (Int32×Int×Int32×Int×LX×LX×Int):=
(Ku a b f g h).bind λk=>
if(Bk k 0)then
some (0,0,0,0,(List.replicate 16 (0:Int32)),(List.replicate 16 (0:Int32)),k)
else
(Kw a b).bind λ(m,y)=>
(QX f g h o).bind λ(n,p,u,v,w)=>
(λaa:Option (Int32×Int×Int32×Int×LX×LX×Int)=>
bo (
aa)) (
some ((Aa n m),a,(Aa n m),p,u,v,w))
theorem EM: @Nn= @Em:=by
  unfold Nn Em;simp only[JO,Vr,Yl]
def H:Hd:=⟨[.agg [Si,Sx,.agg [Si,.lf (.vec 16 (.int .i32)) none,.lf (.vec 16 (.int .i32)) none]],Sx],[Sx,.agg [Si,Sx,.agg [Si,.lf (.vec 16 (.int .i32)) none,.lf (.vec 16 (.int .i32)) none]],Si],(.seq .d (.seq .d (.seq .d (.seq .d (.seq (.mode false) .d))))),kt [F257.k,F258.k,F268.k] false,[],f241⟩
def k:Kc P_ gl:=⟨(241,⟨H.p,H.r,u6 Em⟩),co H func241 (λx=>Eq.trans (b:=u6 Nn x) A4 (by simp only[EM]<;>rfl))⟩
end F241
namespace F243
abbrev R_:=(LX×Int)
abbrev K_:=S->Option R_
def H:Hd:=⟨[Si,Sw],[Ow 21,Si],(.seq .d (.seq .d (.seq .d (.cut [7] [] (.seq .d (.blk (.loop [0,7,8] [] (.seq .d (.cut [0,7,8] [] (.blk (.keep [0,7,8,24,25,26,27,28,29] true)) .d))))) .d)))),kt [F200.k,F254.k] true,[(269,(.seq .d (.cut [0,2] [] .d (.seq .d (.blk (.loop [0,3] [] .d))))))],f243⟩
def t18(b a g:Int)(h:LX):S:=⟨[(0,.view true 0 [] (.int .i32) a ((Aa a b)-a)),(3,vi g)],[Aw 21 h],[[(0,vi b),(7,.own 0),(8,vi a),(24,.own 0),(25,vi a),(26,vi a),(27,vi b),(28,vi (Aa a b)),(29,.view true 0 [] (.int .i32) a ((Aa a b)-a))]]⟩
def z18(Lq:K_):Nat->S->Option R_:=H.i P_ [r,r,r,l,r,d,(lp Lq),r,l,d,(call 6 269),r,r,r,d]
def t12(b a:Int)(f:LX):S:=⟨[(0,vi b),(7,.own 0),(8,vi a)],[Aw 21 f],[]⟩
def z12:Nat->S->Option R_:=H.i P_ [r,r,r,l,r,d]
def x18(Lq:K_)(b a g:Int)(h:LX):Option R_:=H.e P_ [r,r,r,l,r,d,(lp Lq),r,l,d,(call 6 269),r,r,r,d] (t18 b a g h)
theorem i18(Lq:K_)(b a:Int):∀(q:Nat) (g:Int) (h:LX),z18 Lq q (t18 b a g h)=Tz (λa f=>Lq (t12 b a f)) b a q g h:=
 ind (λ_ _=>by kernel_rfl) λq ih g h=>Eq.trans (b:=DY (FB (λa f=>Lq (t12 b a f)) b) (λg h=>(z18 Lq q) (t18 b a g h)) b a g h) A4 (by simp only[ih]<;>rfl)
theorem e18(Lq:K_)(b:Int):x18 Lq b=ED (λa f=>Lq (t12 b a f)) b:=by funext a g h;exact Eq.trans A4 ((i18 Lq b a Bl g h).trans (by rw[Ak];rfl))
theorem i12(b:Int):∀(q:Nat) (a:Int) (f:LX),z12 q (t12 b a f)=Tv b q a f:=
 ind (λ_ _=>by kernel_rfl) λq ih a f=>Eq.trans (b:=EA (DL (x18 (z12 q) b) b) EG b a f) A4 (by simp only[e18,ih]<;>rfl)
def k:Kc P_ gl:=⟨(243,⟨H.p,H.r,u2 XX⟩),co H func243 (λx=>Eq.trans (b:=u2 (JP (λb a f=>z12 Bl (t12 b a f))) x) A4 (by simp only[i12,Ak]<;>rfl))⟩
end F243
namespace F196
def Gj(j16:Int->Int32->Int-> (List (Int×Int32×(Int×LX×LX×Unit)×Unit))->LX->Int->Int32->Int->LX->LX->Option (LX×Int))(j18:Int->Int->LX->Option (LX×Int))(f:LU)(a b g:Int)(h:List (Int×Int32×(Int×LX×LX×Unit)×Unit))(k:LX):Option (LX×Int):=
if(Cl g (Ac f))then
(Ah f g).bind λag=>
(Ds (Bk a 0)).bind λ_=>
(Ah h (Gc g a)).bind λ_=>
both (
(Ah h (Gc g a)).bind λm=>
both (
(Kg ag).bind λae=>
(λao:Option (LX×Int)=>
bo (
ao)) (
(Em m.1 m.2.1 m.2.2.1.1 m.2.2.1.2.1 m.2.2.1.2.2.1 ae).bind λ(y,aa,w,ab,ac,ad,v)=>
j16 g y v h k aa w ab ac ad)) [
(Kg ag).bind λae=>
(Em m.1 m.2.1 m.2.2.1.1 m.2.2.1.2.1 m.2.2.1.2.2.1 ae).bind λ(y,aa,w,ab,ac,ad,v)=>
j16 g y v h k aa w ab ac ad]) [
(Kg ag).bind λaf=>
both (
(Ah h (Gc g a)).bind λu=>
(λap:Option (LX×Int)=>
bo (
ap)) (
(Em u.1 u.2.1 u.2.2.1.1 u.2.2.1.2.1 u.2.2.1.2.2.1 af).bind λ(y,aa,w,ab,ac,ad,v)=>
j16 g y v h k aa w ab ac ad)) [
(Ah h (Gc g a)).bind λu=>
(Em u.1 u.2.1 u.2.2.1.1 u.2.2.1.2.1 u.2.2.1.2.2.1 af).bind λ(y,aa,w,ab,ac,ad,v)=>
j16 g y v h k aa w ab ac ad],
both (
(Ah h (Gc g a)).bind λm=>
(Kg ag).bind λae=>
(Em m.1 m.2.1 m.2.2.1.1 m.2.2.1.2.1 m.2.2.1.2.2.1 ae).bind λ(y,aa,w,ab,ac,ad,v)=>
j16 g y v h k aa w ab ac ad) [
(Kg ag).bind λaf=>
(Ah h (Gc g a)).bind λu=>
(Em u.1 u.2.1 u.2.2.1.1 u.2.2.1.2.1 u.2.2.1.2.2.1 af).bind λ(y,aa,w,ab,ac,ad,v)=>
j16 g y v h k aa w ab ac ad]]
else
j18 a b k
theorem Rq: @Gj= @He:=by
  unfold Gj He
  try simp only[JO,Vr,Yl]
  all_goals
    repeat (refine funext λ_=>?_)
    repeat' first
      |with_reducible rfl
      |with_reducible refine Gk ?_ ?_
      |with_reducible refine Ge ?_ ?_ ?_
      |with_reducible refine Gm ?_ ?_ ?_ ?_
      |((with_reducible refine Jo ?_ ?_);focus (intro h;first|(subst h;rfl)|(simp only[h];rfl)|(simp[Dk,Ac,h];done)))
      |with_reducible refine Iz λx=>?_
      |with_reducible refine Nf (λ_=>?_) (λ_=>?_)
      |(refine Dx (λh=>by simp only[h,Jg,Db,Cu,ite_self]) (λx h=>?_);(try simp only[h,Db]))
      |(refine Ey (λh=>?_) (λh=>?_)<;>simp only[h,if_true,if_false,Bool.false_eq_true])
abbrev R_:=(LX×Int)
abbrev K_:=S->Option R_
def H:Hd:=⟨[.agg [Si,Si],.lf (.vec 16 (.int .i32)) none,Sv],[Ow 21,Si],(.seq .d (.seq .d (.cut [2,3,8] [] (.seq .d (.blk (.loop [2,3,4,8,20] [] .d))) (.seq .d (.cut [3,10] [] (.seq .d (.blk (.loop [3,8,10,33,34,35] [⟨10,[],.own 21 (.int .i32)⟩] (.seq .d (.seq .d (.seq (.blk (.seq .d (.seq .d (.cut [3,8,10,13,14,15,16,33,34,35] [] (.mode false) .d)))) .d)))))) .d))))),kt [F151.k,F220.k,F241.k,F242.k,F243.k] false,[],f196⟩
def t13(f:LU)(a b g:Int)(h:List (Int×Int32×(Int×LX×LX×Unit)×Unit))(k:LX):S:=⟨[(3,.ptr 0 []),(8,.ptr 1 []),(10,.own 2),(33,vv f),(34,vi (Ac f)),(35,vi g)],[.box 61 (.agg [vi a,vi b]),.box 316 (.val (.vec 6 (.cons (.int .i64) (.cons (.int .i32) (.cons (.cons (.int .i64) (.cons (.vec 16 (.int .i32)) (.cons (.vec 16 (.int .i32)) .nil))) .nil)))) h),Aw 21 k],[]⟩
def z13:Nat->S->Option R_:=H.i P_ [r,r,r,r,l,r,d]
def t10(f:LU)(a b:Int)(o:LX)(p:Int)(n:List (Int×Int32×(Int×LX×LX×Unit)×Unit)):S:=⟨[(2,vv f),(3,.ptr 0 []),(4,.ptr 1 []),(8,.ptr 2 []),(20,vi p)],[.box 61 (.agg [vi a,vi b]),.box 157 (.val (.vec 16 (.int .i32)) o),.box 316 (.val (.vec 6 (.cons (.int .i64) (.cons (.int .i32) (.cons (.cons (.int .i64) (.cons (.vec 16 (.int .i32)) (.cons (.vec 16 (.int .i32)) .nil))) .nil)))) n)],[]⟩
def z10:Nat->S->Option R_:=H.i P_ [r,r,l,r,d]
def x13(f:LU)(a b g:Int)(h:List (Int×Int32×(Int×LX×LX×Unit)×Unit))(k:LX):Option R_:=H.e P_ [r,r,r,r,l,r,d] (t13 f a b g h k)
theorem i13(f:LU)(a b:Int):∀(q:Nat) (g:Int) (h:List (Int×Int32×(Int×LX×LX×Unit)×Unit)) (k:LX),z13 q (t13 f a b g h k)=Hf f a b q g h k:=
 ind (λ_ _ _=>by kernel_rfl) λq ih g h k=>Eq.trans (b:=Gj (Lt (λg h k=>(z13 q) (t13 f a b g h k)) a f b) Ls f a b g h k) A4 (by rw[Rq];simp only[ih]<;>rfl)
theorem e13:x13=Ly:=by funext f a b g h k;exact Eq.trans A4 ((i13 f a b Bl g h k).trans (by rw[Ak];rfl))
theorem i10(f:LU)(a b:Int)(o:LX):∀(q:Nat) (p:Int) (n:List (Int×Int32×(Int×LX×LX×Unit)×Unit)),z10 q (t10 f a b o p n)=Hh f a b o q p n:=
 ind (λ_ _=>by kernel_rfl) λq ih p n=>Eq.trans (b:=Lw (Lu x13) (λp n=>(z10 q) (t10 f a b o p n)) f a b o p n) A4 (by simp only[e13,ih]<;>rfl)
def k:Kc P_ gl:=⟨(196,⟨H.p,H.r,u4 Us⟩),co H func196 (λx=>Eq.trans (b:=u4 (Oj (λf a b o p n=>z10 Bl (t10 f a b o p n))) x) A4 (by simp only[i10,Ak]<;>rfl))⟩
end F196
namespace F125
def H:Hd:=⟨[.agg [Si,Si],.lf (.vec 16 (.int .i32)) none,Si,Sb],[Ow 21,Si],.d,kt [F191.k,F192.k,F193.k,F194.k,F195.k,F196.k] false,[],f125⟩
def k:Kc P_ gl:=⟨(125,⟨H.p,H.r,u5 Mj⟩),co H func125⟩
end F125
namespace F189
abbrev R_:=(Int×Int)
def H:Hd:=⟨[Sb],[Si,Si],(.seq .d (.seq .d (.cut [0,4] [] .d .d))),kt [F158.k,F235.k,F236.k,F237.k] false,[],f189⟩
def k:Kc P_ gl:=⟨(189,⟨H.p,H.r,XP⟩),co H func189⟩
end F189
namespace F118
abbrev R_:=(Int×Int)
abbrev K_:=S->Option R_
def H:Hd:=⟨[Sb],[Si,Si],(.seq .d (.seq .d (.seq .d (.seq .d (.cut [5] [] (.blk (.loop [1,4,5] [] (.seq .d (.cut [1,4,5] [] (.blk (.cut [1,4,5,6] [] (.keep [1,4,5,6,16,17] true) .d)) .d)))) .d))))),kt [F189.k] false,[(188,.d)],f118⟩
def t8(a:Int)(b:LB):S:=⟨[(1,.ptr 0 []),(4,.fn 188 [.ptr 0 []]),(5,vi a)],[.box 22 (vb b)],[]⟩
def z8:Nat->S->Option R_:=H.i P_ [r,r,r,r,l,d]
theorem i8:∀(q:Nat) (a:Int) (b:LB),z8 q (t8 a b)=Lg q a b:=
 ind (λ_ _=>by kernel_rfl) λq ih a b=>Eq.trans (b:=Vh (Ry (λa b=>(z8 q) (t8 a b))) Sp a b) A4 (by simp only[ih]<;>rfl)
def k:Kc P_ gl:=⟨(118,⟨H.p,H.r,EH⟩),co H func118 (λx=>Eq.trans (b:=Va (λa b=>z8 Bl (t8 a b)) x) A4 (by simp only[i8,Ak]<;>rfl))⟩
end F118
namespace F65
abbrev R_:=(Int×Int×Int×LX×Int)
abbrev K_:=S->Option R_
def H:Hd:=⟨[Sb,Ss],[.agg [Si,Si,Si,Ow 21],Si],(.seq .d (.seq .d (.seq .d (.seq .d (.cut [0,1,4,6] [] (.cut [0,1,4,6,8] [] (.keep [0,1,4,6,8,34,35,36] true) .d) (.cut [0,1,4,6,7,9] [⟨9,[],.own 3 (.int .i64)⟩] (.keep [0,1,4,6,7,9,41,42,43,44,45] true) (.seq .d (.seq .d (.seq .d (.seq .d (.seq .d (.cut [0,4,10,14] [] (.seq .d (.blk (.loop [0,4,6,10,11,12,14,75,76,77] [⟨10,[3],.own 21 (.int .i32)⟩] (.seq .d (.seq .d (.seq (.blk (.seq .d (.seq .d (.cut [0,4,6,10,11,12,14,16,17,18,75,76,77] [] .d .d)))) .d)))))) .d)))))))))))),kt [F101.k,F118.k,F122.k,F125.k,F126.k,F127.k] false,[(123,.d),(124,(.seq .d (.seq .d (.cut [0,6,7] [] .d (.seq .d (.seq .d (.seq .d (.cut [6] [] (.seq .d (.blk (.loop [0,6,60,61,62] [] .d))) .d))))))))],f65⟩
def t21(a:LB)(w:LI)(m f g h o p n b ab ae:Int)(ac:LX)(k:LI)(y aa:Int)(ad:LX):S:=⟨[(0,vb a),(4,.ptr 0 []),(6,.ptr 1 []),(10,.ptr 2 []),(11,.ptr 3 []),(12,.ptr 4 []),(14,vi y),(75,.own 5),(76,vi (Ac w)),(77,vi aa)],[.box 37 (.agg [vi 0,vi 0,vi 0,.nils]),.box 186 (.agg [.agg [vi m,vi f,vi g,vi h,vi o],.agg [vi p,vi n,vi b,vi ab,vi ae],.own 6]),.box 37 (.agg [vi f,vi g,vi h,.own 7]),.box 61 (.agg [vi f,vi g]),.box 157 (.val (.vec 16 (.int .i32)) ac),Ai 3 w,Ai 3 k,Aw 21 ad],[]⟩
def z21:Nat->S->Option R_:=H.i P_ [r,r,r,r,r,r,r,r,r,r,r,l,r,d]
def t17(v:LI)(a u:LB)(m f g h o p n b:Int)(k:LI)(ag af:Int):S:=⟨[(0,.ptr 0 []),(6,.own 1),(60,.own 1),(61,vi (Ac v)),(62,vi ag)],[.box 186 (.agg [.agg [vi m,vi f,vi g,vi h,vi o],.agg [vi p,vi n,vi b,vi (Aa (Aa b (Dm (4:Int) (Ac v))) (4:Int)),vi af],.own 3]),Ai 3 v,.box 37 (.agg [vi 0,vi 0,vi 0,.nils]),Ai 3 k],[[(0,vb a),(1,vs u),(4,.ptr 2 []),(6,.ptr 0 []),(42,vb a)]]⟩
def z17:Nat->S->Option R_:=H.i P_ [r,r,r,r,r,l,(call 1 124),r,r,r,r,r,r,l,r,d]
def x21(a:LB)(w:LI)(m f g h o p n b ab ae:Int)(ac:LX)(k:LI)(y aa:Int)(ad:LX):Option R_:=H.e P_ [r,r,r,r,r,r,r,r,r,r,r,l,r,d] (t21 a w m f g h o p n b ab ae ac k y aa ad)
def x14(a u:LB)(m f g h o p n b ah ai:Int)(k:LI)(am:Int):Option R_:=H.e P_ [r,r,r,r,l,r] ⟨[(0,vb a),(1,vs u),(4,.ptr 0 []),(6,.ptr 1 []),(8,vi am)],[.box 37 (.agg [vi 0,vi 0,vi 0,.nils]),.box 186 (.agg [.agg [vi m,vi f,vi g,vi h,vi o],.agg [vi p,vi n,vi b,vi ah,vi ai],.own 2]),Ai 3 k],[]⟩
theorem i21(a:LB)(w:LI)(m f g h o p n b ab ae:Int)(ac:LX)(k:LI):∀(q:Nat) (y aa:Int) (ad:LX),z21 q (t21 a w m f g h o p n b ab ae ac k y aa ad)=Mz a w m f g h o p n b ab ae ac k q y aa ad:=
 ind (λ_ _ _=>by kernel_rfl) λq ih y aa ad=>Eq.trans (b:=Xy (Xa (λy aa ad=>(z21 q) (t21 a w m f g h o p n b ab ae ac k y aa ad)) a w m f g h o p n b ab ae ac k) Xf a w m f g h o p n b ab ae ac k y aa ad) A4 (by simp only[ih]<;>rfl)
theorem e21:x21=Xd:=by funext a w m f g h o p n b ab ae ac k y aa ad;exact Eq.trans A4 ((i21 a w m f g h o p n b ab ae ac k Bl y aa ad).trans (by rw[Ak];rfl))
theorem i17(v:LI)(a u:LB)(m f g h o p n b:Int)(k:LI):∀(q:Nat) (ag af:Int),z17 q (t17 v a u m f g h o p n b k ag af)=Mr v a u m f g h o p n b k q ag af:=
 ind (λ_ _=>by kernel_rfl) λq ih ag af=>Eq.trans (b:=Xe (Wf (Je x21)) (λag af=>(z17 q) (t17 v a u m f g h o p n b k ag af)) v a u m f g h o p n b k ag af) A4 (by simp only[e21,ih]<;>rfl)
theorem e14:x14=Wj:=Eq.trans (b:=Xr (Xq (Je x21) (Wd (Je x21) (λv a u m f g h o p n b k ag af=>z17 Bl (t17 v a u m f g h o p n b k ag af))))) A4 (by simp only[e21,i17,Ak]<;>rfl)
def k:Kc P_ gl:=⟨(65,⟨H.p,H.r,u2 QA⟩),co H func65 (λx=>Eq.trans (b:=u2 (AI x14) x) A4 (by simp only[e14]<;>rfl))⟩
end F65
namespace F66
abbrev R_:=(Int×Int×Int×Int×Int×Int×LI×Int)
def H:Hd:=⟨[Sb,Ss],[.agg [.agg [Si,Si,Si,Si,Si],Si,Ol 3],Si],(.seq .d (.seq .d (.seq .d (.seq .d (.seq .d (.seq .d (.seq .d (.seq .d (.seq .d (.cut [0,4,6,8] [] .d .d)))))))))),kt [⟨(116,Ko),Yq⟩,F117.k,F119.k,F126.k,F127.k] false,[],f66⟩
def k:Kc P_ gl:=⟨(66,⟨H.p,H.r,u2 Lb⟩),co H func66⟩
end F66
namespace F244
abbrev R_:=(LI×Int)
abbrev K_:=S->Option R_
def H:Hd:=⟨[Sl],[Ol 3,Si],(.seq .d (.seq .d (.seq .d (.seq .d (.seq .d (.cut [7] [] (.seq .d (.blk (.loop [6,7,17,18,19] [] (.seq .d (.seq .d (.cut [6,7,17,18,19] [] (.blk (.seq .d (.keep [6,7,9,17,18,19,23,24,25,26,27,28] true))) .d)))))) .d)))))),kt [F109.k] false,[(270,.d)],f244⟩
def t6(a:LI)(b g:Int)(f:LI):S:=⟨[(6,.fn 270 [.ptr 0 []]),(7,.own 1),(17,vl a),(18,vi (Ac a)),(19,vi b)],[.box 3 (vi g),Ai 3 f],[]⟩
def z6:Nat->S->Option R_:=H.i P_ [r,r,r,r,r,l,r,d]
theorem i6(a:LI):∀(q:Nat) (b g:Int) (f:LI),z6 q (t6 a b g f)=Ki a q b g f:=
 ind (λ_ _ _=>by kernel_rfl) λq ih b g f=>Eq.trans (b:=Rv (Sa (λb g f=>(z6 q) (t6 a b g f)) a) Pn a b g f) A4 (by simp only[ih]<;>rfl)
def k:Kc P_ gl:=⟨(244,⟨H.p,H.r,BN⟩),co H func244 (λx=>Eq.trans (b:=Se (λa b g f=>z6 Bl (t6 a b g f)) x) A4 (by simp only[i6,Ak]<;>rfl))⟩
end F244
namespace F85
abbrev R_:=(LB×Int)
abbrev K_:=S->Option R_
def H:Hd:=⟨[Si,Sw],[Ob 5,Si],(.seq .d (.seq .d (.seq .d (.cut [7] [] (.seq .d (.blk (.loop [0,7,17,18,19] [⟨7,[],.own 5 (.int .u8)⟩] (.seq .d (.seq .d (.cut [0,7,17,18,19] [] (.blk (.seq .d (.cut [0,7,9,17,18,19] [] .d (.seq .d (.blk (.loop [0,7,9,17,18,19,28,29] [] .d)))))) .d)))))) .d)))),kt [F151.k] false,[],f85⟩
def t26(b:Int)(a:LX)(k:Int32)(f m:Int)(h:LB):S:=⟨[(0,vi b),(7,.own 0),(9,vx k),(17,vw a),(18,vi (Ac a)),(19,vi f),(28,vi (Gs b (8:Int))),(29,vi m)],[Ab 5 h],[]⟩
def z26(Dr:K_):Nat->S->Option R_:=H.i P_ [r,r,r,l,r,d,(lp Dr),r,r,l,d,r,r,r,d]
def t16(b:Int)(a:LX)(f:Int)(g:LB):S:=⟨[(0,vi b),(7,.own 0),(17,vw a),(18,vi (Ac a)),(19,vi f)],[Ab 5 g],[]⟩
def z16:Nat->S->Option R_:=H.i P_ [r,r,r,l,r,d]
def x26(Dr:K_)(b:Int)(a:LX)(k:Int32)(f m:Int)(h:LB):Option R_:=H.e P_ [r,r,r,l,r,d,(lp Dr),r,r,l,d,r,r,r,d] (t26 b a k f m h)
theorem i26(Dr:K_)(b:Int)(a:LX)(k:Int32)(f:Int):∀(q:Nat) (m:Int) (h:LB),z26 Dr q (t26 b a k f m h)=Lo (λf g=>Dr (t16 b a f g)) b a k f q m h:=
 ind (λ_ _=>by kernel_rfl) λq ih m h=>Eq.trans (b:=Uq (Ux (λf g=>Dr (t16 b a f g)) b a) (λm h=>(z26 Dr q) (t26 b a k f m h)) b a k f m h) A4 (by simp only[ih]<;>rfl)
theorem e26(Dr:K_)(b:Int)(a:LX):x26 Dr b a=Vn (λf g=>Dr (t16 b a f g)) b a:=by funext k f m h;exact Eq.trans A4 ((i26 Dr b a k f Bl m h).trans (by rw[Ak];rfl))
theorem i16(b:Int)(a:LX):∀(q:Nat) (f:Int) (g:LB),z16 q (t16 b a f g)=Lp b a q f g:=
 ind (λ_ _=>by kernel_rfl) λq ih f g=>Eq.trans (b:=Vf (Ul (x26 (z16 q) b a) b a) Vl b a f g) A4 (by simp only[e26,ih]<;>rfl)
def k:Kc P_ gl:=⟨(85,⟨H.p,H.r,u2 JK⟩),co H func85 (λx=>Eq.trans (b:=u2 (Xz (λb a f g=>z16 Bl (t16 b a f g))) x) A4 (by simp only[i16,Ak]<;>rfl))⟩
end F85
namespace F128
abbrev R_:=(LB×Int)
def H:Hd:=⟨[Sb,Ss,Si],[Ob 5,Si],(.seq .d (.cut [2,8,9,11] [] (.keep [0,1,2,8,9,11,12,13,14,15,16,17,18,19] true) (.seq .d (.seq .d (.cut [6,7] [⟨6,[],.own 5 (.int .u8)⟩] (.keep [2,6,7,8,30,31,32,33,34] true) .d))))),kt [F66.k,F85.k,F101.k,F119.k,F125.k,F244.k] false,[(197,.d),(245,(.seq .d (.cut [0,3,4,5,6,10,11] [] .d (.seq .d (.cut [4,12,13] [] .d .d)))))],f128⟩
def k:Kc P_ gl:=⟨(128,⟨H.p,H.r,u3 Tu⟩),co H func128⟩
end F128
namespace F88
abbrev R_:=(LX×Int)
abbrev K_:=S->Option R_
def H:Hd:=⟨[Si,Sb],[Ow 21,Si],(.seq .d (.seq .d (.seq .d (.seq .d (.seq .d (.seq .d (.cut [10] [] (.seq .d (.blk (.loop [0,1,9,10,11] [⟨10,[],.own 21 (.int .i32)⟩] (.seq .d (.cut [0,1,9,10,11] [] (.blk (.seq .d (.seq .d (.cut [0,1,9,10,11,12] [] (.seq .d (.blk (.loop [0,1,9,10,11,12,53,54] [] .d))) .d)))) .d))))) .d))))))),kt [F152.k] false,[],f88⟩
def t25(a:Int)(b:LB)(f:Int)(g:LX)(k:Int32)(h:Int):S:=⟨[(0,vi a),(1,vb b),(9,vi (Gs a (8:Int))),(10,.own 0),(11,vi f),(12,vx k),(53,vi (Gs a (8:Int))),(54,vi h)],[Aw 21 g],[]⟩
def z25(Dr:K_):Nat->S->Option R_:=H.i P_ [r,r,r,r,r,r,l,r,d,(lp Dr),r,l,d,r,r,l,r,d]
def t16(a:Int)(b:LB)(f:Int)(g:LX):S:=⟨[(0,vi a),(1,vb b),(9,vi (Gs a (8:Int))),(10,.own 0),(11,vi f)],[Aw 21 g],[]⟩
def z16:Nat->S->Option R_:=H.i P_ [r,r,r,r,r,r,l,r,d]
def x25(Dr:K_)(a:Int)(b:LB)(f:Int)(g:LX)(k:Int32)(h:Int):Option R_:=H.e P_ [r,r,r,r,r,r,l,r,d,(lp Dr),r,l,d,r,r,l,r,d] (t25 a b f g k h)
theorem i25(Dr:K_)(a:Int)(b:LB)(f:Int)(g:LX):∀(q:Nat) (k:Int32) (h:Int),z25 Dr q (t25 a b f g k h)=Jj (λf g=>Dr (t16 a b f g)) a b f g q k h:=
 ind (λ_ _=>by kernel_rfl) λq ih k h=>Eq.trans (b:=Pu (Pz (λf g=>Dr (t16 a b f g)) a b) (λk h=>(z25 Dr q) (t25 a b f g k h)) a b f g k h) A4 (by simp only[ih]<;>rfl)
theorem e25(Dr:K_)(a:Int)(b:LB):x25 Dr a b=Qf (λf g=>Dr (t16 a b f g)) a b:=by funext f g k h;exact Eq.trans A4 ((i25 Dr a b f g Bl k h).trans (by rw[Ak];rfl))
theorem i16(a:Int)(b:LB):∀(q:Nat) (f:Int) (g:LX),z16 q (t16 a b f g)=Ga a b q f g:=
 ind (λ_ _=>by kernel_rfl) λq ih f g=>Eq.trans (b:=Qk (Jb (λf g=>(z16 q) (t16 a b f g)) a b) (x25 (z16 q) a b) Qa a b f g) A4 (by simp only[e25,ih]<;>rfl)
def k:Kc P_ gl:=⟨(88,⟨H.p,H.r,u2 Qv⟩),co H func88 (λx=>Eq.trans (b:=u2 (Sd (λa b f g=>z16 Bl (t16 a b f g))) x) A4 (by simp only[i16,Ak]<;>rfl))⟩
end F88
namespace F129
def H:Hd:=⟨[.agg [Si,Si],Si],[Si],.d,kt [F191.k] false,[],f129⟩
def k:Kc P_ gl:=⟨(129,⟨H.p,H.r,u3 AK⟩),co H func129⟩
end F129
namespace F69
def H:Hd:=⟨[.agg [Si,Si],Si],[Ow 21,Si],.d,kt [F129.k] false,[],f69⟩
def k:Kc P_ gl:=⟨(69,⟨H.p,H.r,u3 Ut⟩),co H func69⟩
end F69
namespace F20
def Ie(a b f ah:Int)(ai:LI)(ag:LX):Option (Int×Int×Int×LX×LI×Int):=
if(Bk ah 0)then
some (0,0,0,([]:LX),([]:LI),ah)
else
if(geq (Ac ag) 0)then
some (0,0,0,([]:LX),([]:LI),6)
else
both (
bo (
some (a,b,f,ag,ai,0))) [
some (a,b,f,ag,ai,0)]
theorem Vq: @Ie= @Jn:=by
  unfold Ie Jn
  repeat (refine funext λ_=>?_)
  repeat' first
    |with_reducible rfl
    |with_reducible refine Gk ?_ ?_
    |with_reducible refine Ge ?_ ?_ ?_
    |with_reducible refine Gm ?_ ?_ ?_ ?_
    |((with_reducible refine Jo ?_ ?_);focus (intro h;first|(subst h;rfl)|(simp only[h];rfl)|(simp[Dk,Ac,h];done)))
    |with_reducible refine Iz λx=>?_
    |with_reducible refine Nf (λ_=>?_) (λ_=>?_)
    |(refine Dx (λh=>by simp only[h,Jg,Db,Cu,ite_self]) (λx h=>?_);(try simp only[h,Db]))
    |(refine Ey (λh=>?_) (λh=>?_)<;>simp only[h,if_true,if_false,Bool.false_eq_true])
abbrev R_:=(Int×Int×Int×LX×LI×Int)
abbrev K_:=S->Option R_
def H:Hd:=⟨[Sb,Ss,Si],[.agg [Si,Si,Si,Ow 21],Ol 3,Si],(.seq .d (.seq .d (.seq .d (.seq .d (.seq .d (.seq .d (.seq .d (.cut [6,12,14,15] [⟨14,[],.own 3 (.int .i64)⟩,⟨15,[3],.own 21 (.int .i32)⟩] (.keep [0,1,5,6,12,13,14,15,60,61,62,63,64,66] true) (.seq .d (.seq .d (.seq (.mode false) .d))))))))))),kt [F65.k,F66.k,F69.k,F88.k,F119.k,F128.k] false,[(67,(.seq .d (.seq .d (.seq .d (.seq .d (.seq .d (.cut [6,8] [] (.seq .d (.blk (.loop [0,1,2,6,8,37,38,39] [⟨2,[0],.own 3 (.int .i64)⟩,⟨2,[3,3],.own 21 (.int .i32)⟩] (.seq .d (.seq .d (.cut [0,1,2,6,8,37,38,39] [] (.blk (.seq .d (.seq .d (.seq .d (.cut [0,1,2,6,8,11,12,14,15,37,38,39] [⟨15,[],.own 21 (.int .i32)⟩] .d (.cut [0,1,2,6,8,16,37,38,39] [] (.keep [0,1,2,6,8,11,12,14,15,16,37,38,39,65,66,67,68,69,70,71] true) .d)))))) .d)))))) .d))))))),(68,(.seq .d (.cut [2,7] [] .d .d)))],f20⟩
def t21(g h:LB)(o:LI)(m k a b f p u n v w y:Int)(aa:LI)(ab:Int)(ad:LI)(ac:LX):S:=⟨[(0,vb g),(1,vs h),(2,.fn 68 [.ptr 0 [],.ptr 1 [],.ptr 2 [],.ptr 3 []]),(6,.ptr 4 []),(8,.ptr 5 []),(37,.own 6),(38,vi (Ac o)),(39,vi ab)],[.box 25 (.own 8),.box 3 (vi k),.box 61 (.agg [vi a,vi b]),.box 37 (.agg [vi a,vi b,vi f,.own 9]),.box 24 (.agg [vi 0,vi 0,vi 0,vi 0,vi 0]),.box 111 (.agg [.agg [vi p,vi u,vi n,vi v,vi w],vi y,.own 10]),Ai 3 o,.box 37 (.agg [vi 0,vi 0,vi 0,.nils]),Ai 3 ad,Aw 21 ac,Ai 3 aa],[[(0,vb g),(1,vs h),(5,.ptr 1 []),(6,.ptr 7 []),(12,vi m),(13,.ptr 2 []),(14,.ptr 0 []),(15,.ptr 3 []),(61,vb g),(62,vs h),(63,.fn 68 [.ptr 0 [],.ptr 1 [],.ptr 2 [],.ptr 3 []])]]⟩
def z21:Nat->S->Option R_:=H.i P_ [r,r,r,r,r,r,r,l,(call 3 67),r,r,r,r,r,l,r,d]
def x40(a b f ah:Int)(ai:LI)(ag:LX):Option R_:=H.e P_ [r,r,r,r,r,r,r,r] ⟨[(6,.ptr 0 []),(12,vi ah),(14,.ptr 1 []),(15,.ptr 2 [])],[.box 37 (.agg [vi 0,vi 0,vi 0,.nils]),.box 25 (.own 3),.box 37 (.agg [vi a,vi b,vi f,.own 4]),Ai 3 ai,Aw 21 ag],[]⟩
theorem e40:x40=Ei:=Eq.trans (b:=Ie) A4 (by rw[Vq];rfl)
theorem i21(g h:LB)(o:LI)(m k a b f p u n v w y:Int)(aa:LI):∀(q:Nat) (ab:Int) (ad:LI) (ac:LX),z21 q (t21 g h o m k a b f p u n v w y aa ab ad ac)=Jh g h o m k a b f p u n v w y aa q ab ad ac:=
 ind (λ_ _ _=>by kernel_rfl) λq ih ab ad ac=>Eq.trans (b:=Qi x40 (Qb (Fx x40 (Gb (λab ad ac=>(z21 q) (t21 g h o m k a b f p u n v w y aa ab ad ac)) g h o m k a b f p u n v w y aa) g h o m k a b f p u n v w y aa) (Pk (Fx x40 (Gb (λab ad ac=>(z21 q) (t21 g h o m k a b f p u n v w y aa ab ad ac)) g h o m k a b f p u n v w y aa) g h o m k a b f p u n v w y aa) g h o m a b f k p u n v w y aa) (Pw (Fx x40 (Gb (λab ad ac=>(z21 q) (t21 g h o m k a b f p u n v w y aa ab ad ac)) g h o m k a b f p u n v w y aa) g h o m k a b f p u n v w y aa) g h o m a b f k p u n v w y aa) g h o m k a b f p u n v w y aa) (Ql x40) g h o m k a b f p u n v w y aa ab ad ac) A4 (by simp only[e40,ih]<;>rfl)
def k:Kc P_ gl:=⟨(20,⟨H.p,H.r,u3 Cc⟩),co H func20 (λx=>Eq.trans (b:=u3 (Sg x40 (λg h o m k a b f p u n v w y aa ab ad ac=>z21 Bl (t21 g h o m k a b f p u n v w y aa ab ad ac))) x) A4 (by simp only[e40,i21,Ak]<;>rfl))⟩
end F20
namespace F21
abbrev R_:=(LI×Int)
abbrev K_:=S->Option R_
def H:Hd:=⟨[Sb,Ss],[Ol 3,Si],(.seq .d (.seq .d (.cut [6,8] [⟨6,[],.own 3 (.int .i64)⟩] (.keep [0,1,6,7,8,9,10,11,12,13,14,15] true) .d))),kt [F66.k,F88.k,F119.k,F128.k] false,[(67,(.seq .d (.seq .d (.seq .d (.seq .d (.seq .d (.cut [6,8] [] (.seq .d (.blk (.loop [0,1,2,6,8,37,38,39] [⟨2,[0],.own 3 (.int .i64)⟩] (.seq .d (.seq .d (.cut [0,1,2,6,8,37,38,39] [] (.blk (.seq .d (.seq .d (.seq .d (.cut [0,1,2,6,8,11,12,14,15,37,38,39] [⟨15,[],.own 21 (.int .i32)⟩] .d (.cut [0,1,2,6,8,16,37,38,39] [] (.keep [0,1,2,6,8,11,12,14,15,16,37,38,39,65,66,67,68,69,70,71] true) .d)))))) .d)))))) .d))))))),(70,.d)],f21⟩
def t14(a b:LB)(g:LI)(h k f m n o:Int)(p:LI)(u:Int)(v:LI):S:=⟨[(0,vb a),(1,vs b),(2,.fn 70 [.ptr 0 []]),(6,.ptr 1 []),(8,.ptr 2 []),(37,.own 3),(38,vi (Ac g)),(39,vi u)],[.box 25 (.own 4),.box 24 (.agg [vi 0,vi 0,vi 0,vi 0,vi 0]),.box 111 (.agg [.agg [vi h,vi k,vi f,vi m,vi n],vi o,.own 5]),Ai 3 g,Ai 3 v,Ai 3 p],[[(0,vb a),(1,vs b),(6,.ptr 0 []),(10,vb a),(11,vs b),(12,.fn 70 [.ptr 0 []])]]⟩
def z14:Nat->S->Option R_:=H.i P_ [r,r,l,(call 3 67),r,r,r,r,r,l,r,d]
theorem i14(a b:LB)(g:LI)(h k f m n o:Int)(p:LI):∀(q:Nat) (u:Int) (v:LI),z14 q (t14 a b g h k f m n o p u v)=Nb a b g h k f m n o p q u v:=
 ind (λ_ _=>by kernel_rfl) λq ih u v=>Eq.trans (b:=Xu Ex (Yr (λu v=>(z14 q) (t14 a b g h k f m n o p u v)) a b g h k f m n o p) Yf a b g h k f m n o p u v) A4 (by simp only[ih]<;>rfl)
def k:Kc P_ gl:=⟨(21,⟨H.p,H.r,u2 Oh⟩),co H func21 (λx=>Eq.trans (b:=u2 (AJ Ex (λa b g h k f m n o p u v=>z14 Bl (t14 a b g h k f m n o p u v))) x) A4 (by simp only[i14,Ak]<;>rfl))⟩
end F21
namespace F22
abbrev R_:=Bool
def H:Hd:=⟨[Sl,Sl],[Sz],(.seq .d (.seq .d (.cut [] [] (.seq .d (.blk (.loop [0,1,5] [] .d))) .d))),kt [] false,[],f22⟩
def t4(a b:LI)(f:Int):S:=⟨[(0,vl a),(1,vl b),(5,vi f)],[],[]⟩
def z4:Nat->S->Option R_:=H.i P_ [r,r,l,r,d]
theorem i4(a b:LI):∀(q:Nat) (f:Int),z4 q (t4 a b f)=Ep a b q f:=
 ind (λ_=>by kernel_rfl) λq ih f=>Eq.trans (b:=Hm Hv (λf=>(z4 q) (t4 a b f)) a b f) A4 (by simp only[ih]<;>rfl)
def k:Kc P_ gl:=⟨(22,⟨H.p,H.r,u2 Ci⟩),co H func22 (λx=>Eq.trans (b:=u2 (Hr (λa b f=>z4 Bl (t4 a b f))) x) A4 (by simp only[i4,Ak]<;>rfl))⟩
end F22
namespace F97
abbrev R_:=Bool
def H:Hd:=⟨[Sw,Sw],[Sz],(.seq .d (.seq .d (.cut [] [] (.seq .d (.blk (.loop [0,1,5] [] .d))) .d))),kt [] false,[],f97⟩
def t4(a b:LX)(f:Int):S:=⟨[(0,vw a),(1,vw b),(5,vi f)],[],[]⟩
def z4:Nat->S->Option R_:=H.i P_ [r,r,l,r,d]
theorem i4(a b:LX):∀(q:Nat) (f:Int),z4 q (t4 a b f)=Gf a b q f:=
 ind (λ_=>by kernel_rfl) λq ih f=>Eq.trans (b:=Ky Lf (λf=>(z4 q) (t4 a b f)) a b f) A4 (by simp only[ih]<;>rfl)
def k:Kc P_ gl:=⟨(97,⟨H.p,H.r,u2 Pv⟩),co H func97 (λx=>Eq.trans (b:=u2 (Kr (λa b f=>z4 Bl (t4 a b f))) x) A4 (by simp only[i4,Ak]<;>rfl))⟩
end F97
namespace F46
def H:Hd:=⟨[.agg [Si,Si,Si,Sw],.agg [Si,Si,Si,Sw]],[Sz],.d,kt [F97.k] false,[],f46⟩
def k:Kc P_ gl:=⟨(46,⟨H.p,H.r,u8 Ji⟩),co H func46⟩
end F46
namespace F23
def H:Hd:=⟨[Sb,Si,Sl,Sw],[Sz],.d,kt [F20.k,F22.k,F46.k] false,[],f23⟩
def k:Kc P_ gl:=⟨(23,⟨H.p,H.r,u4 Am⟩),co H func23⟩
end F23
namespace F24
def H:Hd:=⟨[],[Sz],.d,kt [F19.k,F20.k,F21.k,F22.k,F23.k] false,[],f24⟩
def k:Kc P_ gl:=⟨(24,⟨H.p,H.r,λ_=>Hz⟩),co H func24⟩
end F24
namespace F4
def H:Hd:=⟨[],[Sz],.d,kt [⟨(19,F19.k.1.2.seal),F19.k.2.seal⟩,⟨(20,F20.k.1.2.seal),F20.k.2.seal⟩,⟨(21,F21.k.1.2.seal),F21.k.2.seal⟩,⟨(22,F22.k.1.2.seal),F22.k.2.seal⟩,⟨(23,F23.k.1.2.seal),F23.k.2.seal⟩,⟨(24,F24.k.1.2.seal),F24.k.2.seal⟩] true,[],f4⟩
def k:Kc P_ gl:=⟨(4,⟨H.p,H.r,λ_=>Ej⟩),co H func4⟩
end F4
end
end Go.Proofs.YtmnpghdjdepelaaGreatDoor
