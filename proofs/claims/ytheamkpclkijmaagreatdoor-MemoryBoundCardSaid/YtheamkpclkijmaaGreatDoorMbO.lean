/- A part of a proof (see the text that ends in Proof). No conditions. -/
import Derived.Test.YtheamkpclkijmaaGreatDoorMbHA
set_option linter.unusedVariables false
set_option linter.unusedSimpArgs false
set_option maxRecDepth 10000
namespace Go.Proofs.YtheamkpclkijmaaGreatDoor
open Go Go.Lv Go.Pl Go.Rx Go.Rx.PS
noncomputable section
def g0:List Value:=[.bool true,.int .i64 0]
def g1:List Value:=[.bool false,.int .i64 0]
def g2:List Value:=[.int .i64 2,.int .i64 2,.int .i64 2,.int .i64 4,.int .i64 4]
def g3:List Value:=[.int .u8 0,.int .u8 1,.int .u8 56,.int .u8 2,.int .u8 57,.int .u8 49,.int .u8 28,.int .u8 3,.int .u8 61,.int .u8 58,.int .u8 42,.int .u8 50,.int .u8 38,.int .u8 29,.int .u8 17,.int .u8 4,.int .u8 62,.int .u8 47,.int .u8 59,.int .u8 36,.int .u8 45,.int .u8 43,.int .u8 51,.int .u8 22,.int .u8 53,.int .u8 39,.int .u8 33,.int .u8 30,.int .u8 24,.int .u8 18,.int .u8 12,.int .u8 5,.int .u8 63,.int .u8 55,.int .u8 48,.int .u8 27,.int .u8 60,.int .u8 41,.int .u8 37,.int .u8 16,.int .u8 46,.int .u8 35,.int .u8 44,.int .u8 21,.int .u8 52,.int .u8 32,.int .u8 23,.int .u8 11,.int .u8 54,.int .u8 26,.int .u8 40,.int .u8 15,.int .u8 34,.int .u8 20,.int .u8 31,.int .u8 10,.int .u8 25,.int .u8 14,.int .u8 19,.int .u8 9,.int .u8 13,.int .u8 8,.int .u8 7,.int .u8 6]
def gl:List (Nat×List Value):=[(0,g0),(1,g1),(2,g2),(3,g3)]
theorem mixed:Tryz.prog.follows .mixedOrders=true:=F3
noncomputable abbrev P_:=Tryz.prog
noncomputable def kt(l:List (Kc P_ gl))(v:Bool)(c:Bool:=false):=As9 l v c
theorem co(H:Hd){f:Nat}{F:DL (Te H.p)->Option (DL (Te H.r))}(hf:P_.funcs[f]? =some H.f)(h:∀x,H.u P_ x=F x:=by intro x;kernel_rfl)(hT:FK P_ H.T:=by exact Aeh _ _ _)(hb:okA P_ H=true:=by kernel_rfl):ConOk P_ H.T.gl f ⟨H.p,H.r,F⟩:=Hd.cn mixed H hf hT hb h
theorem ent66:Ent Tryz.prog 66:=Ent.mk Tryz.func66 F3 rfl
abbrev u2{A B R:Type}(f:A->B->R)(x:A×B):=f x.1 x.2
abbrev u3{A B C R:Type}(f:A->B->C->R):=u2 λa=>u2 (f a)
abbrev u4{A B C D R:Type}(f:A->B->C->D->R):=u2 λa=>u3 (f a)
abbrev u5{A B C D E R:Type}(f:A->B->C->D->E->R):=u2 λa=>u4 (f a)
abbrev u6{A B C D E F R:Type}(f:A->B->C->D->E->F->R):=u2 λa=>u5 (f a)
abbrev u7{A B C D E F G R:Type}(f:A->B->C->D->E->F->G->R):=u2 λa=>u6 (f a)
abbrev u8{A B C D E F G H R:Type}(f:A->B->C->D->E->F->G->H->R):=u2 λa=>u7 (f a)
abbrev u9{A B C D E F G H I R:Type}(f:A->B->C->D->E->F->G->H->I->R):=u2 λa=>u8 (f a)
abbrev u10{A B C D E F G H I J R:Type}(f:A->B->C->D->E->F->G->H->I->J->R):=u2 λa=>u9 (f a)
abbrev u11{A B C D E F G H I J K R:Type}(f:A->B->C->D->E->F->G->H->I->J->K->R):=u2 λa=>u10 (f a)
abbrev u12{A B C D E F G H I J K L R:Type}(f:A->B->C->D->E->F->G->H->I->J->K->L->R):=u2 λa=>u11 (f a)
abbrev u13{A B C D E F G H I J K L M R:Type}(f:A->B->C->D->E->F->G->H->I->J->K->L->M->R):=u2 λa=>u12 (f a)
open Go.Proofs.Tryz
namespace F112
def H:Hd:=⟨[.agg [Si,Si,Si,Sw]],[.agg [Si,Si]],.d,kt [] false,[],f112⟩
def k:Kc P_ gl:=⟨(112,⟨H.p,H.r,u4 jD⟩),co H func112⟩
end F112
namespace F88
abbrev R_:=(Int32×Int32×Int)
def H:Hd:=⟨[Si],[Sx,Sx,Si],(.seq .d (.seq (.seq .d (.blk (.cut [0,7] [] .d .d))) .d)),kt [] false,[],f88⟩
def k:Kc P_ gl:=⟨(88,⟨H.p,H.r,KI⟩),co H func88⟩
end F88
namespace F87
def H:Hd:=⟨[.agg [Si,Si]],[Si],.d,kt [F88.k] false,[],f87⟩
def k:Kc P_ gl:=⟨(87,⟨H.p,H.r,u2 Tg⟩),co H func87⟩
end F87
namespace F86
def H:Hd:=⟨[Si],[Si,Si],.d,kt [] false,[],f86⟩
def k:Kc P_ gl:=⟨(86,⟨H.p,H.r,BZ⟩),co H func86⟩
end F86
namespace F143
def H:Hd:=⟨[Si,Si],[Si,Si],.d,kt [F86.k] false,[],f143⟩
def k:Kc P_ gl:=⟨(143,⟨H.p,H.r,u2 Tc⟩),co H func143⟩
end F143
namespace F147
def H:Hd:=⟨[.agg [Si,Si,Si,Sw],Si],[Si],.d,kt [F87.k,F112.k,F143.k] false,[],f147⟩
def k:Kc P_ gl:=⟨(147,⟨H.p,H.r,u5 D7⟩),co H func147⟩
end F147
namespace F137
abbrev R_:=Int
def H:Hd:=⟨[Si,Sw],[Si],(.seq .d (.seq .d (.seq .d (.seq .d (.cut [] [] (.seq .d (.blk (.loop [5,6,22,23,24] [] .d))) .d))))),kt [F88.k] false,[],f137⟩
def t4(b f:Int32)(a:LX)(g:Int):S:=⟨[(5,vx b),(6,vx f),(22,vw a),(23,vi (Ac a)),(24,vi g)],[],[]⟩
def z4:Nat->S->Option R_:=H.i P_ [r,r,r,r,l,r,d]
theorem i4(b f:Int32)(a:LX):∀(q:Nat) (g:Int),z4 q (t4 b f a g)=Px b f a q g:=
 ind (λ_=>by kernel_rfl) λq ih g=>Eq.trans (b:=CK dJ (λg=>(z4 q) (t4 b f a g)) b f a g) F3 (by simp only[ih]<;>rfl)
def k:Kc P_ gl:=⟨(137,⟨H.p,H.r,u2 Vt⟩),co H func137 (λx=>Eq.trans (b:=u2 (PW (λb f a g=>z4 Ds (t4 b f a g))) x) F3 (by simp only[i4,Bg]<;>rfl))⟩
end F137
namespace F110
def H:Hd:=⟨[.agg [Si,Si,Si,Sw]],[Si],.d,kt [F137.k,F147.k] false,[],f110⟩
def k:Kc P_ gl:=⟨(110,⟨H.p,H.r,u4 GN⟩),co H func110⟩
end F110
namespace F69
def KV(j2:LB->Int->Int->Int->LX->Option (Int×Int×Int×Int×Int×Int))(a b f:Int)(g:LX)(h:LB):Option (Int×Int×Int×Int×Int×Int):=
(GN a b f g).bind λk=>
if(Bf k 0)then
some (0,0,0,0,0,k)
else
if(Dm (Ac h) 64)then
some (0,0,0,0,0,2)
else
(Jm (Bf a 0)).bind λ_=>
bo (
j2 h a b f g)
theorem jH: @KV= @OA:=by
  unfold KV OA;simp only[ZP,KM,LC]
abbrev R_:=(Int×Int×Int×Int×Int×Int)
def H:Hd:=⟨[.agg [Si,Si,Si,Sw],Ss],[.agg [Si,Si,Si,Si,Si],Si],(.seq .d (.seq .d (.seq .d (.cut [1,4,7] [] .d .d)))),kt [F110.k] false,[],f69⟩
def k:Kc P_ gl:=⟨(69,⟨H.p,H.r,u5 rO⟩),co H func69 (λx=>Eq.trans (b:=u5 (KV cS) x) F3 (by simp only[jH]<;>rfl))⟩
end F69
namespace F153
abbrev R_:=(UInt64×Int)
abbrev K_:=S->Option R_
def H:Hd:=⟨[Sq,Sb],[Sq,Si],(.seq .d (.seq .d (.cut [4,5] [] (.keep [0,1,4,5,9,10,11,12] true) .d))),kt [] false,[(178,(.seq .d (.cut [1] [] (.seq .d (.blk (.loop [0,1,9,10,11] [] .d))) .d))),(179,(.seq .d (.seq .d (.cut [1] [] (.seq .d (.blk (.loop [1,5] [] (.seq .d (.seq .d (.cut [1,5] [] (.blk (.seq .d (.seq .d (.cut [1,2,3,5] [] (.seq .d (.blk (.loop [1,2,3,5,11] [] .d))) .d)))) .d)))))) .d))))],f153⟩
def t27(a:LB)(b:UInt64)(f:LQ)(h:UInt64)(m:Int):S:=⟨[(0,.ptr 0 []),(1,vq h),(9,vb a),(10,vi (Ac a)),(11,vi m)],[.box 284 (.val (.vec 256 (.int .u64)) f)],[[(0,vq b),(1,vb a),(4,vq 0),(5,vi 0),(9,.ptr 0 []),(10,vq b),(11,vb a)]]⟩
def z27:Nat->S->Option R_:=H.i P_ [r,r,l,(call 3 178),r,l,r,d]
def t21(b:UInt64)(a:LB)(g:Int)(f:LQ)(k:UInt64)(n:Int):S:=⟨[(1,.ptr 0 []),(2,vi g),(3,vq k),(5,vi g),(11,vi n)],[.box 284 (.val (.vec 256 (.int .u64)) f)],[[(0,vq b),(1,vb a),(4,vq 0),(5,vi 0)]]⟩
def z21(Sn:K_):Nat->S->Option R_:=H.i P_ [r,r,l,(call 0 179),r,r,l,r,d,(lp Sn),r,r,l,d,r,r,l,r,d]
def t16(b:UInt64)(a:LB)(g:Int)(f:LQ):S:=⟨[(1,.ptr 0 []),(5,vi g)],[.box 284 (.val (.vec 256 (.int .u64)) f)],[[(0,vq b),(1,vb a),(4,vq 0),(5,vi 0)]]⟩
def z16:Nat->S->Option R_:=H.i P_ [r,r,l,(call 0 179),r,r,l,r,d]
def x27(a:LB)(b:UInt64)(f:LQ)(h:UInt64)(m:Int):Option R_:=H.e P_ [r,r,l,(call 3 178),r,l,r,d] (t27 a b f h m)
def x21(Sn:K_)(b:UInt64)(a:LB)(g:Int)(f:LQ)(k:UInt64)(n:Int):Option R_:=H.e P_ [r,r,l,(call 0 179),r,r,l,r,d,(lp Sn),r,r,l,d,r,r,l,r,d] (t21 b a g f k n)
theorem i27(a:LB)(b:UInt64)(f:LQ):∀(q:Nat) (h:UInt64) (m:Int),z27 q (t27 a b f h m)=Qc a b f q h m:=
 ind (λ_ _=>by kernel_rfl) λq ih h m=>Eq.trans (b:=DE PU (λh m=>(z27 q) (t27 a b f h m)) a b f h m) F3 (by simp only[ih]<;>rfl)
theorem e27:x27=OQ:=by funext a b f h m;exact Eq.trans F3 ((i27 a b f Ds h m).trans (by rw[Bg];rfl))
theorem i21(Sn:K_)(b:UInt64)(a:LB)(g:Int)(f:LQ):∀(q:Nat) (k:UInt64) (n:Int),z21 Sn q (t21 b a g f k n)=Qk (λg f=>Sn (t16 b a g f)) b a g f q k n:=
 ind (λ_ _=>by kernel_rfl) λq ih k n=>Eq.trans (b:=CE (CT (λg f=>Sn (t16 b a g f)) b a) (λk n=>(z21 Sn q) (t21 b a g f k n)) b a g f k n) F3 (by simp only[ih]<;>rfl)
theorem e21(Sn:K_)(b:UInt64)(a:LB):x21 Sn b a=QT (λg f=>Sn (t16 b a g f)) b a:=by funext g f k n;exact Eq.trans F3 ((i21 Sn b a g f Ds k n).trans (by rw[Bg];rfl))
theorem i16(b:UInt64)(a:LB):∀(q:Nat) (g:Int) (f:LQ),z16 q (t16 b a g f)=Mz b a q g f:=
 ind (λ_ _=>by kernel_rfl) λq ih g f=>Eq.trans (b:=DG (x21 (z16 q) b a) (OI x27) b a g f) F3 (by simp only[e21,e27,ih]<;>rfl)
def k:Kc P_ gl:=⟨(153,⟨H.p,H.r,u2 YF⟩),co H func153 (λx=>Eq.trans (b:=u2 (TQ (λb a g f=>z16 Ds (t16 b a g f))) x) F3 (by simp only[i16,Bg]<;>rfl))⟩
end F153
namespace F123
def H:Hd:=⟨[Sb],[Sq,Si],.d,kt [F153.k] false,[],f123⟩
def k:Kc P_ gl:=⟨(123,⟨H.p,H.r,UO⟩),co H func123⟩
end F123
namespace F124
abbrev R_:=LX
def H:Hd:=⟨[Sq],[.lf (.vec 16 (.int .i32)) none],(.seq .d (.seq .d (.cut [2,3] [] (.seq .d (.blk (.loop [0,2,3,5] [] .d))) .d))),kt [] false,[],f124⟩
def t4(f:UInt64)(a:Int)(b:LX):S:=⟨[(0,vq f),(2,.ptr 0 []),(3,.ptr 1 []),(5,vi a)],[.box 140 (.val (.vec 16 (.int .i32)) (List.replicate 16 (0:Int32))),.box 140 (.val (.vec 16 (.int .i32)) b)],[]⟩
def z4:Nat->S->Option R_:=H.i P_ [r,r,l,r,d]
theorem i4(f:UInt64):∀(q:Nat) (a:Int) (b:LX),z4 q (t4 f a b)=HG f q a b:=
 ind (λ_ _=>by kernel_rfl) λq ih a b=>Eq.trans (b:=YU vF (λa b=>(z4 q) (t4 f a b)) f a b) F3 (by simp only[ih]<;>rfl)
def k:Kc P_ gl:=⟨(124,⟨H.p,H.r,L8⟩),co H func124 (λx=>Eq.trans (b:=yP (λf a b=>z4 Ds (t4 f a b)) x) F3 (by simp only[i4,Bg]<;>rfl))⟩
end F124
namespace F89
def H:Hd:=⟨[Ss],[.lf (.vec 16 (.int .i32)) none,Si],.d,kt [F123.k,F124.k] false,[],f89⟩
def k:Kc P_ gl:=⟨(89,⟨H.p,H.r,Qo⟩),co H func89⟩
end F89
namespace F120
def H:Hd:=⟨[Sq,Sq],[Sq,Sq],.d,kt [] false,[],f120⟩
def k:Kc P_ gl:=⟨(120,⟨H.p,H.r,u2 KY⟩),co H func120⟩
end F120
namespace F79
def H:Hd:=⟨[Sq,Sq],[Sq,Sq],.d,kt [F120.k] false,[],f79⟩
def k:Kc P_ gl:=⟨(79,⟨H.p,H.r,u2 HZ⟩),co H func79⟩
end F79
namespace F166
def Ny(j10:LI->Option (LI))(bk8:Int->LI->Option (LI))(b:Int)(a:LI):Option (LI):=
if(Cm b (Ac a))then
both (
(gB (Ac a) b (Ac a)).bind λ_=>
(gB (Ac a) 0 b).bind λ_=>
bk8 (Ae b (QB ((Ac a)-b) (UW a 0 (b-(0:Int))).length)) (Vf a b ((Ac a)-b) (UW a 0 (b-(0:Int))))) [
(gB (Ac a) 0 b).bind λ_=>
(gB (Ac a) b (Ac a)).bind λ_=>
bk8 (Ae b (QB ((Ac a)-b) (UW a 0 (b-(0:Int))).length)) (Vf a b ((Ac a)-b) (UW a 0 (b-(0:Int))))]
else
j10 a
theorem KO: @Ny= @Gx:=by
  unfold Ny Gx
  repeat (refine funext λ_=>?_)
  repeat' first
    |with_reducible rfl
    |with_reducible refine Mv ?_ ?_
    |with_reducible refine Mk ?_ ?_ ?_
    |with_reducible refine Mx ?_ ?_ ?_ ?_
    |((with_reducible refine Ro ?_ ?_);focus (intro h;first|(subst h;rfl)|(simp only[h];rfl)|(simp[Dh,Ac,h];done)))
    |with_reducible refine Qx λx=>?_
    |with_reducible refine Zs (λ_=>?_) (λ_=>?_)
    |(refine Hf (λh=>by simp only[h,Ri,Em,Ed,ite_self]) (λx h=>?_);(try simp only[h,Em]))
    |(refine Ju (λh=>?_) (λh=>?_)<;>simp only[h,if_true,if_false,Bool.false_eq_true])
abbrev R_:=LI
def H:Hd:=⟨[Sl,Si],[Ol 3],(.seq .d (.cut [0,1] [] .d (.seq .d (.cut [0,6] [] .d (.seq .d (.seq .d (.cut [7] [] (.blk (.loop [7,8] [] (.seq .d (.blk (.mode false))))) .d))))))),kt [F79.k] true,[],f166⟩
def t8(b:Int)(a:LI):S:=⟨[(7,.own 0),(8,vi b)],[Ai 3 a],[]⟩
def z8:Nat->S->Option R_:=H.i P_ [r,r,r,r,r,r,l,d]
theorem i8:∀(q:Nat) (b:Int) (a:LI),z8 q (t8 b a)=Et q b a:=
 ind (λ_ _=>by kernel_rfl) λq ih b a=>Eq.trans (b:=Ny Iw (λb a=>(z8 q) (t8 b a)) b a) F3 (by rw[KO];simp only[ih]<;>rfl)
def k:Kc P_ gl:=⟨(166,⟨H.p,H.r,u2 Nl⟩),co H func166 (λx=>Eq.trans (b:=u2 (Pe (Pa (Pg (λb a=>z8 Ds (t8 b a))))) x) F3 (by simp only[i8,Bg]<;>rfl))⟩
end F166
namespace F191
abbrev R_:=LI
def H:Hd:=⟨[.lf (.list (.list (.int .i64))) none],[Ol 3],(.seq .d (.seq .d (.cut [0,3] [] (.seq .d (.blk (.loop [0,3,9,10,11] [] .d))) (.cut [0,6] [⟨6,[],.own 3 (.int .i64)⟩] (.keep [0,3,6,23,24] true) (.cut [6] [] (.seq .d (.blk (.loop [6,25,26,27] [] .d))) .d))))),kt [] true,[(202,(.seq .d (.cut [0,1] [] .d .d)))],f191⟩
def t14(a:List LI)(g:Int)(f:LI):S:=⟨[(6,.own 0),(25,.val (.list (.list (.int .i64))) a),(26,vi (Ac a)),(27,vi g)],[Ai 3 f],[]⟩
def z14:Nat->S->Option R_:=H.i P_ [r,r,r,r,l,r,d]
def t9(a:List LI)(b h:Int):S:=⟨[(0,.val (.list (.list (.int .i64))) a),(3,vi b),(9,.val (.list (.list (.int .i64))) a),(10,vi (Ac a)),(11,vi h)],[],[]⟩
def z9:Nat->S->Option R_:=H.i P_ [r,r,l,r,d]
def x14(a:List LI)(g:Int)(f:LI):Option R_:=H.e P_ [r,r,r,r,l,r,d] (t14 a g f)
theorem i14(a:List LI):∀(q:Nat) (g:Int) (f:LI),z14 q (t14 a g f)=Ea a q g f:=
 ind (λ_ _=>by kernel_rfl) λq ih g f=>Eq.trans (b:=Gk Xp (λg f=>(z14 q) (t14 a g f)) a g f) F3 (by simp only[ih]<;>rfl)
theorem e14:x14=Nv:=by funext a g f;exact Eq.trans F3 ((i14 a Ds g f).trans (by rw[Bg];rfl))
theorem i9(a:List LI):∀(q:Nat) (b h:Int),z9 q (t9 a b h)=Er a q b h:=
 ind (λ_ _=>by kernel_rfl) λq ih b h=>Eq.trans (b:=Gv (Nx (Nt (Ns x14))) (λb h=>(z9 q) (t9 a b h)) a b h) F3 (by simp only[e14,ih]<;>rfl)
def k:Kc P_ gl:=⟨(191,⟨H.p,H.r,Nf⟩),co H func191 (λx=>Eq.trans (b:=Pd (λa b h=>z9 Ds (t9 a b h)) x) F3 (by simp only[i9,Bg]<;>rfl))⟩
end F191
namespace F167
def H:Hd:=⟨[Sl,Sl],[Ol 3],.d,kt [F191.k] false,[],f167⟩
def k:Kc P_ gl:=⟨(167,⟨H.p,H.r,u2 PL⟩),co H func167⟩
end F167
namespace F131
def H:Hd:=⟨[Si,Si],[Ol 3,Si],.d,kt [F86.k,F143.k,F166.k,F167.k] false,[],f131⟩
def k:Kc P_ gl:=⟨(131,⟨H.p,H.r,u2 Vn⟩),co H func131⟩
end F131
namespace F154
def H:Hd:=⟨[.agg [Si,Si],Sw],[Si],.d,kt [F87.k,F137.k] false,[],f154⟩
def k:Kc P_ gl:=⟨(154,⟨H.p,H.r,u3 gP⟩),co H func154⟩
end F154
namespace F180
def H:Hd:=⟨[Si,Sw],[Si],.d,kt [] false,[],f180⟩
def k:Kc P_ gl:=⟨(180,⟨H.p,H.r,u2 VA⟩),co H func180⟩
end F180
namespace F122
def Kv(a:LX):Option (LX):=
tN a (
some ([]:LX)) (
(Dh ([]:LX) a).bind λb=>
some b)
theorem FE: @Kv= @En:=by
  unfold Kv En
  repeat (refine funext λ_=>?_)
  repeat' first
    |with_reducible rfl
    |with_reducible refine Mv ?_ ?_
    |with_reducible refine Mk ?_ ?_ ?_
    |with_reducible refine Mx ?_ ?_ ?_ ?_
    |((with_reducible refine Ro ?_ ?_);focus (intro h;first|(subst h;rfl)|(simp only[h];rfl)|(simp[Dh,Ac,h];done)))
    |with_reducible refine Qx λx=>?_
    |with_reducible refine Zs (λ_=>?_) (λ_=>?_)
    |(refine Hf (λh=>by simp only[h,Ri,Em,Ed,ite_self]) (λx h=>?_);(try simp only[h,Em]))
    |(refine Ju (λh=>?_) (λh=>?_)<;>simp only[h,if_true,if_false,Bool.false_eq_true])
def H:Hd:=⟨[Sw],[Ow 21],.d,kt [] false,[],f122⟩
def k:Kc P_ gl:=⟨(122,⟨H.p,H.r,En⟩),co H func122 (λx=>Eq.trans (b:=Kv x) F3 (by simp only[FE]<;>rfl))⟩
end F122
namespace F155
abbrev R_:=(LX×Int)
abbrev K_:=S->Option R_
def H:Hd:=⟨[Si,Sw],[Ow 21,Si],(.seq .d (.seq .d (.seq .d (.cut [7] [] (.seq .d (.blk (.loop [0,7,8] [] (.seq .d (.cut [0,7,8] [] (.blk (.keep [0,7,8,24,25,26,27,28,29] true)) .d))))) .d)))),kt [F122.k,F180.k] true,[(181,(.seq .d (.cut [0,2] [] (.seq .d (.blk (.loop [0,2,7,8] [] .d))) .d)))],f155⟩
def t17(b a f:Int)(g:LX):S:=⟨[(0,.view true 0 [] (.int .i32) a ((Ae a b)-a)),(2,vi (Am ((Ae a b)-a) (1:Int))),(7,vi (Am ((Ae a b)-a) (1:Int))),(8,vi f)],[Aw 21 g],[[(0,vi b),(7,.own 0),(8,vi a),(24,.own 0),(25,vi a),(26,vi a),(27,vi b),(28,vi (Ae a b)),(29,.view true 0 [] (.int .i32) a ((Ae a b)-a))]]⟩
def z17(LW:K_):Nat->S->Option R_:=H.i P_ [r,r,r,l,r,d,(lp LW),r,l,d,(call 6 181),r,l,r,d]
def t12(b a:Int)(h:LX):S:=⟨[(0,vi b),(7,.own 0),(8,vi a)],[Aw 21 h],[]⟩
def z12:Nat->S->Option R_:=H.i P_ [r,r,r,l,r,d]
def x17(LW:K_)(b a f:Int)(g:LX):Option R_:=H.e P_ [r,r,r,l,r,d,(lp LW),r,l,d,(call 6 181),r,l,r,d] (t17 b a f g)
theorem i17(LW:K_)(b a:Int):∀(q:Nat) (f:Int) (g:LX),z17 LW q (t17 b a f g)=dI (λa h=>LW (t12 b a h)) b a q f g:=
 ind (λ_ _=>by kernel_rfl) λq ih f g=>Eq.trans (b:=qE (qH (λa h=>LW (t12 b a h)) b) (λf g=>(z17 LW q) (t17 b a f g)) b a f g) F3 (by simp only[ih]<;>rfl)
theorem e17(LW:K_)(b:Int):x17 LW b=qT (λa h=>LW (t12 b a h)) b:=by funext a f g;exact Eq.trans F3 ((i17 LW b a Ds f g).trans (by rw[Bg];rfl))
theorem i12(b:Int):∀(q:Nat) (a:Int) (h:LX),z12 q (t12 b a h)=eG b q a h:=
 ind (λ_ _=>by kernel_rfl) λq ih a h=>Eq.trans (b:=qM (x17 (z12 q) b) qF b a h) F3 (by simp only[e17,ih]<;>rfl)
def k:Kc P_ gl:=⟨(155,⟨H.p,H.r,u2 Aej⟩),co H func155 (λx=>Eq.trans (b:=u2 (wM (λb a h=>z12 Ds (t12 b a h))) x) F3 (by simp only[i12,Bg]<;>rfl))⟩
end F155
namespace F182
abbrev R_:=(Int×LX×LX×Int)
def H:Hd:=⟨[Si,.lf (.vec 16 (.int .i32)) none],[.agg [Si,.lf (.vec 16 (.int .i32)) none,.lf (.vec 16 (.int .i32)) none],Si],(.seq .d (.seq .d (.seq (.seq .d (.blk (.cut [4,6,9,11] [] .d .d))) .d))),kt [] false,[],f182⟩
def k:Kc P_ gl:=⟨(182,⟨H.p,H.r,u2 mS⟩),co H func182⟩
end F182
namespace F156
def H:Hd:=⟨[Si,.lf (.vec 16 (.int .i32)) none],[.agg [Si,Sx,.agg [Si,.lf (.vec 16 (.int .i32)) none,.lf (.vec 16 (.int .i32)) none]],Si],.d,kt [F182.k] false,[],f156⟩
def k:Kc P_ gl:=⟨(156,⟨H.p,H.r,u2 pY⟩),co H func156⟩
end F156
namespace F183
def H:Hd:=⟨[.agg [Si,Sx,.agg [Si,.lf (.vec 16 (.int .i32)) none,.lf (.vec 16 (.int .i32)) none]]],[Si],.d,kt [F182.k] false,[],f183⟩
def k:Kc P_ gl:=⟨(183,⟨H.p,H.r,u5 Vs⟩),co H func183⟩
end F183
namespace F197
def H:Hd:=⟨[Si],[Si,Si],.d,kt [] false,[],f197⟩
def k:Kc P_ gl:=⟨(197,⟨H.p,H.r,cN⟩),co H func197⟩
end F197
namespace F198
def H:Hd:=⟨[Si,Sx],[Sx],.d,kt [] false,[],f198⟩
def k:Kc P_ gl:=⟨(198,⟨H.p,H.r,u2 RJ⟩),co H func198⟩
end F198
namespace F184
def H:Hd:=⟨[Si,Sx],[Sx,Si],.d,kt [F197.k,F198.k] false,[],f184⟩
def k:Kc P_ gl:=⟨(184,⟨H.p,H.r,u2 Vu⟩),co H func184⟩
end F184
namespace F204
def H:Hd:=⟨[.agg [Si,.lf (.vec 16 (.int .i32)) none,.lf (.vec 16 (.int .i32)) none]],[Si],.d,kt [] false,[],f204⟩
def k:Kc P_ gl:=⟨(204,⟨H.p,H.r,u3 HD⟩),co H func204⟩
end F204
namespace F199
abbrev R_:=(Int32×Int)
def H:Hd:=⟨[.agg [Si,.lf (.vec 16 (.int .i32)) none,.lf (.vec 16 (.int .i32)) none]],[Sx,Si],(.seq .d (.seq .d (.seq .d (.cut [1,5] [] (.seq .d (.blk (.loop [1,5,18,19] [] .d))) .d)))),kt [F204.k] false,[],f199⟩
def t4(b:LX)(a:Int)(f:LX)(h:Int32)(g:Int):S:=⟨[(1,.ptr 0 []),(5,vx h),(18,.val (.vec 16 (.int .i32)) b),(19,vi g)],[.box 232 (.agg [vi a,.val (.vec 16 (.int .i32)) b,.val (.vec 16 (.int .i32)) f])],[]⟩
def z4:Nat->S->Option R_:=H.i P_ [r,r,r,l,r,d]
theorem i4(b:LX)(a:Int)(f:LX):∀(q:Nat) (h:Int32) (g:Int),z4 q (t4 b a f h g)=Th b a f q h g:=
 ind (λ_ _=>by kernel_rfl) λq ih h g=>Eq.trans (b:=HR TI (λh g=>(z4 q) (t4 b a f h g)) b a f h g) F3 (by simp only[ih]<;>rfl)
def k:Kc P_ gl:=⟨(199,⟨H.p,H.r,u3 PO⟩),co H func199 (λx=>Eq.trans (b:=u3 (TF (λb a f h g=>z4 Ds (t4 b a f h g))) x) F3 (by simp only[i4,Bg]<;>rfl))⟩
end F199
namespace F209
def H:Hd:=⟨[Si],[Sx],.d,kt [] false,[],f209⟩
def k:Kc P_ gl:=⟨(209,⟨H.p,H.r,UK⟩),co H func209⟩
end F209
namespace F205
abbrev R_:=(Int×LX×LX×Int)
def H:Hd:=⟨[.agg [Si,.lf (.vec 16 (.int .i32)) none,.lf (.vec 16 (.int .i32)) none],Sx],[.agg [Si,.lf (.vec 16 (.int .i32)) none,.lf (.vec 16 (.int .i32)) none],Si],(.seq .d (.seq .d (.seq .d (.cut [2,4] [] (.seq .d (.blk (.loop [1,2,4,19,20] [] .d))) .d)))),kt [F204.k,F209.k] false,[],f205⟩
def t4(h:Int32)(f:LX)(g a:Int)(b:LX):S:=⟨[(1,vx h),(2,.ptr 0 []),(4,.ptr 1 []),(19,.val (.vec 16 (.int .i32)) f),(20,vi a)],[.box 232 (.agg [vi g,.val (.vec 16 (.int .i32)) b,.val (.vec 16 (.int .i32)) f]),.box 232 (.agg [vi 0,.val (.vec 16 (.int .i32)) (List.replicate 16 (0:Int32)),.val (.vec 16 (.int .i32)) (List.replicate 16 (0:Int32))])],[]⟩
def z4:Nat->S->Option R_:=H.i P_ [r,r,r,l,r,d]
theorem i4(h:Int32)(f:LX)(g:Int):∀(q:Nat) (a:Int) (b:LX),z4 q (t4 h f g a b)=Sp h f g q a b:=
 ind (λ_ _=>by kernel_rfl) λq ih a b=>Eq.trans (b:=HS hH (λa b=>(z4 q) (t4 h f g a b)) h f g a b) F3 (by simp only[ih]<;>rfl)
def k:Kc P_ gl:=⟨(205,⟨H.p,H.r,u4 YV⟩),co H func205 (λx=>Eq.trans (b:=u4 (TO (λh f g a b=>z4 Ds (t4 h f g a b))) x) F3 (by simp only[i4,Bg]<;>rfl))⟩
end F205
namespace F206
def TA(j2:Int32->Int->LX->LX->Option (Int×LX×LX×Int))(b:Int)(f a:LX)(g:Int32):Option (Int×LX×LX×Int):=
(HD b f a).bind λh=>
if(Bf h 0)then
some (0,(List.replicate 16 (0:Int32)),(List.replicate 16 (0:Int32)),h)
else
both (
(gB 16 1 16).bind λ_=>
(gB 16 0 16).bind λ_=>
j2 g b f a) [
(gB 16 0 16).bind λ_=>
(gB 16 1 16).bind λ_=>
j2 g b f a]
theorem pR: @TA= @NC:=by
  unfold TA NC
  repeat (refine funext λ_=>?_)
  repeat' first
    |with_reducible rfl
    |with_reducible refine Mv ?_ ?_
    |with_reducible refine Mk ?_ ?_ ?_
    |with_reducible refine Mx ?_ ?_ ?_ ?_
    |((with_reducible refine Ro ?_ ?_);focus (intro h;first|(subst h;rfl)|(simp only[h];rfl)|(simp[Dh,Ac,h];done)))
    |with_reducible refine Qx λx=>?_
    |with_reducible refine Zs (λ_=>?_) (λ_=>?_)
    |(refine Hf (λh=>by simp only[h,Ri,Em,Ed,ite_self]) (λx h=>?_);(try simp only[h,Em]))
    |(refine Ju (λh=>?_) (λh=>?_)<;>simp only[h,if_true,if_false,Bool.false_eq_true])
abbrev R_:=(Int×LX×LX×Int)
def H:Hd:=⟨[.agg [Si,.lf (.vec 16 (.int .i32)) none,.lf (.vec 16 (.int .i32)) none],Sx],[.agg [Si,.lf (.vec 16 (.int .i32)) none,.lf (.vec 16 (.int .i32)) none],Si],(.seq .d (.seq .d (.cut [1,2,4] [] .d .d))),kt [F204.k] false,[],f206⟩
def k:Kc P_ gl:=⟨(206,⟨H.p,H.r,u4 fR⟩),co H func206 (λx=>Eq.trans (b:=u4 (TA XY) x) F3 (by simp only[pR]<;>rfl))⟩
end F206
namespace F200
def H:Hd:=⟨[.agg [Si,.lf (.vec 16 (.int .i32)) none,.lf (.vec 16 (.int .i32)) none],Sx,Sx],[.agg [Si,.lf (.vec 16 (.int .i32)) none,.lf (.vec 16 (.int .i32)) none]],.d,kt [F205.k,F206.k] false,[],f200⟩
def k:Kc P_ gl:=⟨(200,⟨H.p,H.r,u5 WK⟩),co H func200⟩
end F200
namespace F185
def H:Hd:=⟨[.agg [Si,.lf (.vec 16 (.int .i32)) none,.lf (.vec 16 (.int .i32)) none],Sx],[Sx,.agg [Si,.lf (.vec 16 (.int .i32)) none,.lf (.vec 16 (.int .i32)) none],Si],.d,kt [F199.k,F200.k] false,[],f185⟩
def k:Kc P_ gl:=⟨(185,⟨H.p,H.r,u4 eT⟩),co H func185⟩
end F185
namespace F157
def EP(a:Int)(b:Int32)(f:Int)(g h:LX)(k:Int32):Option (Int32×Int×Int32×Int×LX×LX×Int):=
(Vs a b f g h).bind λm=>
if(Bf m 0)then
some (0,0,0,0,(List.replicate 16 (0:Int32)),(List.replicate 16 (0:Int32)),m)
else
(Vu a b).bind λ(n,y)=>
(eT f g h (Am k n)).bind λ(o,p,u,v,w)=>
bo (
some (o,a,k,p,u,v,w))
theorem dS: @EP= @HN:=by
  unfold EP HN;simp only[ZP,KM,LC]
def H:Hd:=⟨[.agg [Si,Sx,.agg [Si,.lf (.vec 16 (.int .i32)) none,.lf (.vec 16 (.int .i32)) none]],Sx],[Sx,.agg [Si,Sx,.agg [Si,.lf (.vec 16 (.int .i32)) none,.lf (.vec 16 (.int .i32)) none]],Si],(.seq .d (.seq .d (.seq .d (.seq .d (.seq (.mode false) .d))))),kt [F183.k,F184.k,F185.k] false,[],f157⟩
def k:Kc P_ gl:=⟨(157,⟨H.p,H.r,u6 HN⟩),co H func157 (λx=>Eq.trans (b:=u6 EP x) F3 (by simp only[dS]<;>rfl))⟩
end F157
namespace F158
def H:Hd:=⟨[Sx],[Su],.d,kt [] false,[],f158⟩
def k:Kc P_ gl:=⟨(158,⟨H.p,H.r,G3⟩),co H func158⟩
end F158
namespace F125
abbrev R_:=(LU×Int)
def H:Hd:=⟨[.agg [Si,Si],.lf (.vec 16 (.int .i32)) none,Sw],[Ov 162,Si],(.seq .d (.seq .d (.seq .d (.seq .d (.seq .d (.cut [3,9,11] [] (.seq .d (.blk (.loop [3,4,9,11,36] [] .d))) (.seq .d (.cut [13] [] (.seq .d (.blk (.loop [3,11,13,49,50,51] [⟨13,[],.own 162 (.int .u32)⟩] .d))) .d)))))))),kt [F154.k,F155.k,F156.k,F157.k,F158.k] false,[],f125⟩
def t10(b:LX)(a f g:Int)(k:List (Int×Int32×(Int×LX×LX×Unit)×Unit))(h:LU):S:=⟨[(3,.ptr 0 []),(11,.ptr 1 []),(13,.own 2),(49,.own 3),(50,vi (Ac b)),(51,vi g)],[.box 57 (.agg [vi a,vi f]),.box 235 (.val (.vec 6 (.cons (.int .i64) (.cons (.int .i32) (.cons (.cons (.int .i64) (.cons (.vec 16 (.int .i32)) (.cons (.vec 16 (.int .i32)) .nil))) .nil)))) k),Av 162 h,Aw 21 b],[]⟩
def z10:Nat->S->Option R_:=H.i P_ [r,r,r,r,r,r,r,l,r,d]
def t7(a f:Int)(n b:LX)(o:Int)(m:List (Int×Int32×(Int×LX×LX×Unit)×Unit)):S:=⟨[(3,.ptr 0 []),(4,.ptr 1 []),(9,.own 2),(11,.ptr 3 []),(36,vi o)],[.box 57 (.agg [vi a,vi f]),.box 140 (.val (.vec 16 (.int .i32)) n),Aw 21 b,.box 235 (.val (.vec 6 (.cons (.int .i64) (.cons (.int .i32) (.cons (.cons (.int .i64) (.cons (.vec 16 (.int .i32)) (.cons (.vec 16 (.int .i32)) .nil))) .nil)))) m)],[]⟩
def z7:Nat->S->Option R_:=H.i P_ [r,r,r,r,r,l,r,d]
def x10(b:LX)(a f g:Int)(k:List (Int×Int32×(Int×LX×LX×Unit)×Unit))(h:LU):Option R_:=H.e P_ [r,r,r,r,r,r,r,l,r,d] (t10 b a f g k h)
theorem i10(b:LX)(a f:Int):∀(q:Nat) (g:Int) (k:List (Int×Int32×(Int×LX×LX×Unit)×Unit)) (h:LU),z10 q (t10 b a f g k h)=Zy b a f q g k h:=
 ind (λ_ _ _=>by kernel_rfl) λq ih g k h=>Eq.trans (b:=QR RA (λg k h=>(z10 q) (t10 b a f g k h)) b a f g k h) F3 (by simp only[ih]<;>rfl)
theorem e10:x10=OL:=by funext b a f g k h;exact Eq.trans F3 ((i10 b a f Ds g k h).trans (by rw[Bg];rfl))
theorem i7(a f:Int)(n b:LX):∀(q:Nat) (o:Int) (m:List (Int×Int32×(Int×LX×LX×Unit)×Unit)),z7 q (t7 a f n b o m)=DH a f n b q o m:=
 ind (λ_ _=>by kernel_rfl) λq ih o m=>Eq.trans (b:=RL (RG x10) (λo m=>(z7 q) (t7 a f n b o m)) a f n b o m) F3 (by simp only[e10,ih]<;>rfl)
def k:Kc P_ gl:=⟨(125,⟨H.p,H.r,u4 bR⟩),co H func125 (λx=>Eq.trans (b:=u4 (RW (λa f n b o m=>z7 Ds (t7 a f n b o m))) x) F3 (by simp only[i7,Bg]<;>rfl))⟩
end F125
namespace F159
def H:Hd:=⟨[],[.agg [Si,Si,Sq,Sq]],.d,kt [] false,[],f159⟩
def k:Kc P_ gl:=⟨(159,⟨H.p,H.r,λ_=>kQ⟩),co H func159⟩
end F159
namespace F126
abbrev R_:=((List (Int×Int×UInt64×UInt64×Unit)))
def H:Hd:=⟨[],[.lf (.vec 6 (.cons (.int .i64) (.cons (.int .i64) (.cons (.int .u64) (.cons (.int .u64) .nil))))) none],(.seq .d (.seq .d (.cut [0,1] [] (.seq .d (.blk (.loop [0,1,3] [] .d))) .d))),kt [F159.k] false,[],f126⟩
def t4(b:Int)(a:List (Int×Int×UInt64×UInt64×Unit)):S:=⟨[(0,.ptr 0 []),(1,.ptr 1 []),(3,vi b)],[.box 194 (.val (.vec 6 (.cons (.int .i64) (.cons (.int .i64) (.cons (.int .u64) (.cons (.int .u64) .nil))))) (List.replicate 6 ((0:Int),(0:Int),(0:UInt64),(0:UInt64),()))),.box 194 (.val (.vec 6 (.cons (.int .i64) (.cons (.int .i64) (.cons (.int .u64) (.cons (.int .u64) .nil))))) a)],[]⟩
def z4:Nat->S->Option R_:=H.i P_ [r,r,l,r,d]
theorem i4:∀(q:Nat) (b:Int) (a:List (Int×Int×UInt64×UInt64×Unit)),z4 q (t4 b a)=CA q b a:=
 ind (λ_ _=>by kernel_rfl) λq ih b a=>Eq.trans (b:=SV SO (λb a=>(z4 q) (t4 b a)) b a) F3 (by simp only[ih]<;>rfl)
def k:Kc P_ gl:=⟨(126,⟨H.p,H.r,λ_=>dE⟩),co H func126 (λx=>Eq.trans (b:=RU (λb a=>z4 Ds (t4 b a))) F3 (by simp only[i4,Bg]<;>rfl))⟩
end F126
namespace F160
def H:Hd:=⟨[.agg [Sb,Si]],[Si],.d,kt [] false,[],f160⟩
def k:Kc P_ gl:=⟨(160,⟨H.p,H.r,u2 Jw⟩),co H func160⟩
end F160
namespace F161
def OW(j4:Int->Int->UInt64->UInt64->Option Int)(a b:Int)(f g:UInt64):Option Int:=
both (
bo (
j4 a b f g)) [
j4 a b f g]
theorem lQ: @OW= @HO:=by
  unfold OW HO
  repeat (refine funext λ_=>?_)
  repeat' first
    |with_reducible rfl
    |with_reducible refine Mv ?_ ?_
    |with_reducible refine Mk ?_ ?_ ?_
    |with_reducible refine Mx ?_ ?_ ?_ ?_
    |((with_reducible refine Ro ?_ ?_);focus (intro h;first|(subst h;rfl)|(simp only[h];rfl)|(simp[Dh,Ac,h];done)))
    |with_reducible refine Qx λx=>?_
    |with_reducible refine Zs (λ_=>?_) (λ_=>?_)
    |(refine Hf (λh=>by simp only[h,Ri,Em,Ed,ite_self]) (λx h=>?_);(try simp only[h,Em]))
    |(refine Ju (λh=>?_) (λh=>?_)<;>simp only[h,if_true,if_false,Bool.false_eq_true])
def NY(j3:Int->Int->UInt64->UInt64->Option Int)(a b:Int)(f g:UInt64):Option Int:=
both (
bo (
j3 a b f g)) [
j3 a b f g]
theorem mJ: @NY= @HU:=by
  unfold NY HU
  repeat (refine funext λ_=>?_)
  repeat' first
    |with_reducible rfl
    |with_reducible refine Mv ?_ ?_
    |with_reducible refine Mk ?_ ?_ ?_
    |with_reducible refine Mx ?_ ?_ ?_ ?_
    |((with_reducible refine Ro ?_ ?_);focus (intro h;first|(subst h;rfl)|(simp only[h];rfl)|(simp[Dh,Ac,h];done)))
    |with_reducible refine Qx λx=>?_
    |with_reducible refine Zs (λ_=>?_) (λ_=>?_)
    |(refine Hf (λh=>by simp only[h,Ri,Em,Ed,ite_self]) (λx h=>?_);(try simp only[h,Em]))
    |(refine Ju (λh=>?_) (λh=>?_)<;>simp only[h,if_true,if_false,Bool.false_eq_true])
abbrev R_:=Int
def H:Hd:=⟨[.agg [Si,Si,Sq,Sq]],[Si],(.seq .d (.seq .d (.cut [1,3] [] (.mode false) (.cut [1,3] [] (.mode false) .d)))),kt [] false,[],f161⟩
def x3(a b:Int)(f g:UInt64):Option R_:=H.e P_ [r,r,r] ⟨[(1,.ptr 0 []),(3,.ptr 1 [])],[.box 193 (.agg [vi a,vi b,vq f,vq g]),.box 193 (.agg [vi (Ha (aE a (0:Int)) (24:Int)),vi (Ha (aE b (0:Int)) (24:Int)),vq f,vq g])],[]⟩
theorem e3:x3=TU:=Eq.trans (b:=OW TC) F3 (by rw[lQ];rfl)
def k:Kc P_ gl:=⟨(161,⟨H.p,H.r,u4 QF⟩),co H func161 (λx=>Eq.trans (b:=u4 (NY x3) x) F3 (by rw[mJ];simp only[e3]<;>rfl))⟩
end F161
namespace F162
def H:Hd:=⟨[.agg [Si,Si,Sq,Sq],Su],[Si,Su],.d,kt [] false,[],f162⟩
def k:Kc P_ gl:=⟨(162,⟨H.p,H.r,u5 HH⟩),co H func162⟩
end F162
namespace F82
def Mt(a:LB):Option (LB):=
tN a (
some ([]:LB)) (
(Dh ([]:LB) a).bind λb=>
some b)
theorem KJ: @Mt= @Gi:=by
  unfold Mt Gi
  repeat (refine funext λ_=>?_)
  repeat' first
    |with_reducible rfl
    |with_reducible refine Mv ?_ ?_
    |with_reducible refine Mk ?_ ?_ ?_
    |with_reducible refine Mx ?_ ?_ ?_ ?_
    |((with_reducible refine Ro ?_ ?_);focus (intro h;first|(subst h;rfl)|(simp only[h];rfl)|(simp[Dh,Ac,h];done)))
    |with_reducible refine Qx λx=>?_
    |with_reducible refine Zs (λ_=>?_) (λ_=>?_)
    |(refine Hf (λh=>by simp only[h,Ri,Em,Ed,ite_self]) (λx h=>?_);(try simp only[h,Em]))
    |(refine Ju (λh=>?_) (λh=>?_)<;>simp only[h,if_true,if_false,Bool.false_eq_true])
def H:Hd:=⟨[Sb],[Ob 5],.d,kt [] false,[],f82⟩
def k:Kc P_ gl:=⟨(82,⟨H.p,H.r,Gi⟩),co H func82 (λx=>Eq.trans (b:=Mt x) F3 (by simp only[KJ]<;>rfl))⟩
end F82
namespace F186
def H:Hd:=⟨[.agg [Sb,Si]],[.agg [Ob 5,Si]],.d,kt [F82.k] false,[],f186⟩
def k:Kc P_ gl:=⟨(186,⟨H.p,H.r,u2 oR⟩),co H func186⟩
end F186
namespace F163
abbrev R_:=(LB×Int×Int)
abbrev K_:=S->Option R_
def H:Hd:=⟨[.agg [Sb,Si],Sq,Si],[.agg [Ob 5,Si],Si],(.seq .d (.seq .d (.seq .d (.cut [3,6] [] (.keep [1,2,3,6,40,41] true) .d)))),kt [F160.k,F186.k] false,[(187,(.blk (.loop [0,1,2] [] (.seq .d (.blk (.cut [0,1,2] [] .d (.seq .d (.cut [0,1,2,7] [] .d .d))))))))],f163⟩
def t15(b:UInt64)(a:Int)(m:UInt64)(h f:Int)(o:LB):S:=⟨[(0,.ptr 0 []),(1,vq m),(2,vi h)],[.box 197 (.agg [.own 2,vi f]),.box 197 (.agg [.nils,vi 0]),Ab 5 o],[[(1,vq b),(2,vi a),(3,.ptr 0 []),(6,.ptr 1 []),(40,vq b),(41,vi a)]]⟩
def z15:Nat->S->Option R_:=H.i P_ [r,r,r,l,(call 2 187),d]
def t22(b:UInt64)(a:Int)(n:UInt64)(k g:Int)(p:LB):S:=⟨[(0,.ptr 0 []),(1,vq n),(2,vi k)],[.box 197 (.agg [.own 2,vi g]),.box 197 (.agg [.nils,vi 0]),Ab 5 p],[[(1,vq b),(2,vi a),(3,.ptr 0 []),(6,.ptr 1 []),(40,vq b),(41,vi a)]]⟩
def z22:Nat->S->Option R_:=H.i P_ [r,r,r,l,(call 2 187),d]
theorem i15(b:UInt64)(a:Int):∀(q:Nat) (m:UInt64) (h f:Int) (o:LB),z15 q (t15 b a m h f o)=WR b a q m h f o:=
 ind (λ_ _ _ _=>by kernel_rfl) λq ih m h f o=>Eq.trans (b:=lZ (lV (λm h f o=>(z15 q) (t15 b a m h f o)) b a) lM b a m h f o) F3 (by simp only[ih]<;>rfl)
theorem i22(b:UInt64)(a:Int):∀(q:Nat) (n:UInt64) (k g:Int) (p:LB),z22 q (t22 b a n k g p)=XM b a q n k g p:=
 ind (λ_ _ _ _=>by kernel_rfl) λq ih n k g p=>Eq.trans (b:=kV (mM (λn k g p=>(z22 q) (t22 b a n k g p)) b a) nI b a n k g p) F3 (by simp only[ih]<;>rfl)
def k:Kc P_ gl:=⟨(163,⟨H.p,H.r,u4 dK⟩),co H func163 (λx=>Eq.trans (b:=u4 (qS (λb a m h f o=>z15 Ds (t15 b a m h f o)) (λb a n k g p=>z22 Ds (t22 b a n k g p))) x) F3 (by simp only[i15,i22,Bg]<;>rfl))⟩
end F163
namespace F188
def H:Hd:=⟨[Su,Si],[Sz],.d,kt [] false,[],f188⟩
def k:Kc P_ gl:=⟨(188,⟨H.p,H.r,u2 NI⟩),co H func188⟩
end F188
namespace F201
def H:Hd:=⟨[Si],[Si,Si],.d,kt [] false,[],f201⟩
def k:Kc P_ gl:=⟨(201,⟨H.p,H.r,nB⟩),co H func201⟩
end F201
namespace F189
def H:Hd:=⟨[.agg [Sb,Si],Si],[.agg [Ob 5,Si],Si],.d,kt [F160.k,F163.k,F201.k] false,[],f189⟩
def k:Kc P_ gl:=⟨(189,⟨H.p,H.r,u3 rR⟩),co H func189⟩
end F189
namespace F164
abbrev R_:=(LB×Int×Int)
def H:Hd:=⟨[.agg [Sb,Si],Su,Si],[.agg [Ob 5,Si],Si],(.seq .d (.seq .d (.seq .d (.seq .d (.cut [3,6,9,10,11] [] .d .d))))),kt [F160.k,F163.k,F188.k,F189.k] false,[],f164⟩
def k:Kc P_ gl:=⟨(164,⟨H.p,H.r,u4 wY⟩),co H func164⟩
end F164
namespace F127
def LJ(k u n:Int)(a:UInt64)(b:UInt32)(o:UInt64)(m:LB):Option (LB×Int×Int×Int×UInt64×UInt64×Int):=
(λaf:Option (LB×Int×Int×Int×UInt64×UInt64×Int)=>
both (
bo (
af)) [
af]) (
some (m,k,u,n,(Ae a (Am (Ad b:UInt64) (Cq a (GI.toZ (4:UInt64)).toNat))),o,0))
theorem jR: @LJ= @RB:=by
  unfold LJ RB
  try simp only[ZP,KM,LC]
  all_goals
    repeat (refine funext λ_=>?_)
    repeat' first
      |with_reducible rfl
      |with_reducible refine Mv ?_ ?_
      |with_reducible refine Mk ?_ ?_ ?_
      |with_reducible refine Mx ?_ ?_ ?_ ?_
      |((with_reducible refine Ro ?_ ?_);focus (intro h;first|(subst h;rfl)|(simp only[h];rfl)|(simp[Dh,Ac,h];done)))
      |with_reducible refine Qx λx=>?_
      |with_reducible refine Zs (λ_=>?_) (λ_=>?_)
      |(refine Hf (λh=>by simp only[h,Ri,Em,Ed,ite_self]) (λx h=>?_);(try simp only[h,Em]))
      |(refine Ju (λh=>?_) (λh=>?_)<;>simp only[h,if_true,if_false,Bool.false_eq_true])
abbrev R_:=(LB×Int×Int×Int×UInt64×UInt64×Int)
def H:Hd:=⟨[.agg [Sb,Si],.agg [Si,Si,Sq,Sq],Su],[.agg [Ob 5,Si],.agg [Si,Si,Sq,Sq],Si],(.seq .d (.cut [2,3,4,6,7] [] .d (.seq .d (.seq .d (.cut [2,3,4,6,7,11] [] .d (.seq .d (.cut [3,4,6,7] [] (.keep [2,3,4,6,7,65] true) (.seq (.mode false) .d)))))))),kt [F160.k,F161.k,F162.k,F163.k,F164.k] false,[(165,(.seq .d (.seq .d (.seq .d (.blk (.cut [0,1,4] [] (.blk (.seq .d (.keep [0,1,4,6,18,19,20,21,22,23,24,25] true))) (.cut [] [] (.keep [0,1,4,27,28,29,30,31,32,33,34] true) .d))))))),(190,.d)],f127⟩
def x10(k u n:Int)(a:UInt64)(b:UInt32)(o:UInt64)(m:LB):Option R_:=H.e P_ [r,r,r,r,r,r,r] ⟨[(3,.ptr 0 []),(4,.ptr 1 []),(6,.ptr 2 []),(7,.ptr 3 [])],[.box 197 (.agg [.own 4,vi k]),.box 193 (.agg [vi u,vi n,vq (Ae a (Am (Ad b:UInt64) (Cq a (GI.toZ (4:UInt64)).toNat))),vq o]),.box 197 (.agg [.nils,vi 0]),.box 193 (.agg [vi 0,vi 0,vq 0,vq 0]),Ab 5 m],[]⟩
def x8(b:UInt32)(f:Int)(a:UInt64)(k:Int)(m:LB)(n:Int)(o:UInt64):Option R_:=H.e P_ [r,r,r,r,r,r,l,(call 1 165),r,r,r,d,r] ⟨[(0,.ptr 0 []),(1,vu b),(4,.fn 190 [])],[.box 193 (.agg [vi f,vi n,vq a,vq o]),.box 197 (.agg [.own 4,vi k]),.box 197 (.agg [.nils,vi 0]),.box 193 (.agg [vi 0,vi 0,vq 0,vq 0]),Ab 5 m],[[(2,vu b),(3,.ptr 1 []),(4,.ptr 0 []),(6,.ptr 2 []),(7,.ptr 3 []),(65,vu b)]]⟩
theorem e10:x10=eB:=Eq.trans (b:=LJ) F3 (by rw[jR];rfl)
theorem e8:x8=gO:=Eq.trans (b:=gL (iE x10)) F3 (by simp only[e10]<;>rfl)
def k:Kc P_ gl:=⟨(127,⟨H.p,H.r,u7 wG⟩),co H func127 (λx=>Eq.trans (b:=u7 (iN (iL (gJ x8))) x) F3 (by simp only[e8]<;>rfl))⟩
end F127
namespace F142
abbrev R_:=(UInt32×Int)
abbrev K_:=S->Option R_
def H:Hd:=⟨[Su,Sb],[Su,Si],(.seq .d (.seq .d (.cut [0,1,6] [] (.keep [0,1,6,12] true) (.cut [0] [] (.seq .d (.blk (.loop [0,6,13,14,15] [] .d))) .d)))),kt [] false,[(176,(.seq .d (.seq .d (.cut [1] [] (.seq .d (.blk (.loop [1,5] [] (.seq .d (.seq .d (.cut [1,5] [] (.blk (.seq .d (.seq .d (.cut [1,2,3,5] [] (.seq .d (.blk (.loop [1,2,3,5,10] [] .d))) .d)))) .d)))))) .d))))],f142⟩
def t28(a:LB)(b:LU)(h:UInt32)(m:Int):S:=⟨[(0,vu h),(6,.ptr 0 []),(13,vb a),(14,vi (Ac a)),(15,vi m)],[.box 283 (.val (.vec 256 (.int .u32)) b)],[]⟩
def z28:Nat->S->Option R_:=H.i P_ [r,r,r,l,r,d]
def t21(f:UInt32)(a:LB)(g:Int)(b:LU)(k:UInt32)(n:Int):S:=⟨[(1,.ptr 0 []),(2,vi g),(3,vu k),(5,vi g),(10,vi n)],[.box 283 (.val (.vec 256 (.int .u32)) b)],[[(0,vu f),(1,vb a)]]⟩
def z21(Sn:K_):Nat->S->Option R_:=H.i P_ [r,r,l,(call 0 176),r,r,l,r,d,(lp Sn),r,r,l,d,r,r,l,r,d]
def t16(f:UInt32)(a:LB)(g:Int)(b:LU):S:=⟨[(1,.ptr 0 []),(5,vi g)],[.box 283 (.val (.vec 256 (.int .u32)) b)],[[(0,vu f),(1,vb a)]]⟩
def z16:Nat->S->Option R_:=H.i P_ [r,r,l,(call 0 176),r,r,l,r,d]
def x28(a:LB)(b:LU)(h:UInt32)(m:Int):Option R_:=H.e P_ [r,r,r,l,r,d] (t28 a b h m)
def x21(Sn:K_)(f:UInt32)(a:LB)(g:Int)(b:LU)(k:UInt32)(n:Int):Option R_:=H.e P_ [r,r,l,(call 0 176),r,r,l,r,d,(lp Sn),r,r,l,d,r,r,l,r,d] (t21 f a g b k n)
theorem i28(a:LB)(b:LU):∀(q:Nat) (h:UInt32) (m:Int),z28 q (t28 a b h m)=Qd a b q h m:=
 ind (λ_ _=>by kernel_rfl) λq ih h m=>Eq.trans (b:=EF OS (λh m=>(z28 q) (t28 a b h m)) a b h m) F3 (by simp only[ih]<;>rfl)
theorem e28:x28=PK:=by funext a b h m;exact Eq.trans F3 ((i28 a b Ds h m).trans (by rw[Bg];rfl))
theorem i21(Sn:K_)(f:UInt32)(a:LB)(g:Int)(b:LU):∀(q:Nat) (k:UInt32) (n:Int),z21 Sn q (t21 f a g b k n)=Pv (λg b=>Sn (t16 f a g b)) f a g b q k n:=
 ind (λ_ _=>by kernel_rfl) λq ih k n=>Eq.trans (b:=CR (DC (λg b=>Sn (t16 f a g b)) f a) (λk n=>(z21 Sn q) (t21 f a g b k n)) f a g b k n) F3 (by simp only[ih]<;>rfl)
theorem e21(Sn:K_)(f:UInt32)(a:LB):x21 Sn f a=OG (λg b=>Sn (t16 f a g b)) f a:=by funext g b k n;exact Eq.trans F3 ((i21 Sn f a g b Ds k n).trans (by rw[Bg];rfl))
theorem i16(f:UInt32)(a:LB):∀(q:Nat) (g:Int) (b:LU),z16 q (t16 f a g b)=Mo f a q g b:=
 ind (λ_ _=>by kernel_rfl) λq ih g b=>Eq.trans (b:=EG (x21 (z16 q) f a) (OV (PB x28)) f a g b) F3 (by simp only[e21,e28,ih]<;>rfl)
def k:Kc P_ gl:=⟨(142,⟨H.p,H.r,u2 YL⟩),co H func142 (λx=>Eq.trans (b:=u2 (TL (λf a g b=>z16 Ds (t16 f a g b))) x) F3 (by simp only[i16,Bg]<;>rfl))⟩
end F142
namespace F105
def H:Hd:=⟨[Sb],[Su,Si],.d,kt [F142.k] false,[],f105⟩
def k:Kc P_ gl:=⟨(105,⟨H.p,H.r,Ws⟩),co H func105⟩
end F105
namespace F149
def H:Hd:=⟨[Sq,Si],[Sz],.d,kt [] false,[],f149⟩
def k:Kc P_ gl:=⟨(149,⟨H.p,H.r,u2 tK⟩),co H func149⟩
end F149
namespace F114
abbrev R_:=(LB×Int)
def H:Hd:=⟨[Sq,Si],[Ob 5,Si],(.seq .d (.seq .d (.seq .d (.seq .d (.cut [6] [] (.seq .d (.blk (.loop [0,6,21,22] [] .d))) .d))))),kt [F149.k] false,[],f114⟩
def t4(f:UInt64)(g:LB)(a:Int)(b:LB):S:=⟨[(0,vq f),(6,.own 0),(21,vi (Ac g)),(22,vi a)],[Ab 5 b],[]⟩
def z4:Nat->S->Option R_:=H.i P_ [r,r,r,r,l,r,d]
theorem i4(f:UInt64)(g:LB):∀(q:Nat) (a:Int) (b:LB),z4 q (t4 f g a b)=BP f g q a b:=
 ind (λ_ _=>by kernel_rfl) λq ih a b=>Eq.trans (b:=RZ bE (λa b=>(z4 q) (t4 f g a b)) f g a b) F3 (by simp only[ih]<;>rfl)
def k:Kc P_ gl:=⟨(114,⟨H.p,H.r,u2 Yn⟩),co H func114 (λx=>Eq.trans (b:=u2 (cW (λf g a b=>z4 Ds (t4 f g a b))) x) F3 (by simp only[i4,Bg]<;>rfl))⟩
end F114
namespace F92
abbrev R_:=LB
def H:Hd:=⟨[.lf (.list (.list (.int .u8))) none],[Ob 5],(.seq .d (.seq .d (.cut [0,3] [] (.seq .d (.blk (.loop [0,3,9,10,11] [] .d))) (.cut [0,6] [⟨6,[],.own 5 (.int .u8)⟩] (.keep [0,3,6,23,24] true) (.cut [6] [] (.seq .d (.blk (.loop [6,25,26,27] [] .d))) .d))))),kt [] true,[(129,(.seq .d (.cut [0,1] [] .d .d)))],f92⟩
def t14(a:List LB)(g:Int)(f:LB):S:=⟨[(6,.own 0),(25,.val (.list (.list (.int .u8))) a),(26,vi (Ac a)),(27,vi g)],[Ab 5 f],[]⟩
def z14:Nat->S->Option R_:=H.i P_ [r,r,r,r,l,r,d]
def t9(a:List LB)(b h:Int):S:=⟨[(0,.val (.list (.list (.int .u8))) a),(3,vi b),(9,.val (.list (.list (.int .u8))) a),(10,vi (Ac a)),(11,vi h)],[],[]⟩
def z9:Nat->S->Option R_:=H.i P_ [r,r,l,r,d]
def x14(a:List LB)(g:Int)(f:LB):Option R_:=H.e P_ [r,r,r,r,l,r,d] (t14 a g f)
theorem i14(a:List LB):∀(q:Nat) (g:Int) (f:LB),z14 q (t14 a g f)=Lt a q g f:=
 ind (λ_ _=>by kernel_rfl) λq ih g f=>Eq.trans (b:=Um Ug (λg f=>(z14 q) (t14 a g f)) a g f) F3 (by simp only[ih]<;>rfl)
theorem e14:x14=Ub:=by funext a g f;exact Eq.trans F3 ((i14 a Ds g f).trans (by rw[Bg];rfl))
theorem i9(a:List LB):∀(q:Nat) (b h:Int),z9 q (t9 a b h)=Mw a q b h:=
 ind (λ_ _=>by kernel_rfl) λq ih b h=>Eq.trans (b:=Vz (Uo (Uw (Un x14))) (λb h=>(z9 q) (t9 a b h)) a b h) F3 (by simp only[e14,ih]<;>rfl)
def k:Kc P_ gl:=⟨(92,⟨H.p,H.r,BU⟩),co H func92 (λx=>Eq.trans (b:=Wk (λa b h=>z9 Ds (t9 a b h)) x) F3 (by simp only[i9,Bg]<;>rfl))⟩
end F92
namespace F90
abbrev R_:=(LB×Int)
abbrev K_:=S->Option R_
def H:Hd:=⟨[.agg [Si,Si],.lf (.vec 16 (.int .i32)) none,Sw],[Ob 5,Si],(.seq .d (.seq .d (.seq .d (.seq .d (.seq .d (.cut [11] [] (.seq .d (.blk (.loop [3,10,11,30,31,32] [⟨11,[0],.own 5 (.int .u8)⟩] (.seq .d (.seq .d (.cut [3,10,11,30,31,32] [] (.blk (.seq .d (.seq .d (.seq .d (.seq .d (.keep [3,10,11,14,30,31,32,59] true)))))) .d)))))) .d)))))),kt [F92.k,F105.k,F114.k,F125.k,F126.k,F127.k] false,[(128,(.seq .d (.seq .d (.blk (.loop [0,3,7,8] [] (.seq .d (.seq .d (.seq (.blk (.seq .d (.cut [0,3,4,7,8] [] .d (.seq .d (.cut [0,3,7,8] [] .d .d))))) .d))))))))],f90⟩
def t44(b:LU)(a g h f:Int)(n:List (Int×Int×UInt64×UInt64×Unit))(m:LB)(o k:Int)(w:LB):S:=⟨[(0,.ptr 0 []),(3,.ptr 1 []),(7,vi h),(8,vi o)],[.box 197 (.agg [.own 7,vi k]),.box 197 (.agg [.own 6,vi h]),.box 57 (.agg [vi a,vi g]),.box 194 (.val (.vec 6 (.cons (.int .i64) (.cons (.int .i64) (.cons (.int .u64) (.cons (.int .u64) .nil))))) n),.box 197 (.agg [.own 6,vi h]),Av 162 b,Ab 5 m,Ab 5 w],[[(3,.ptr 2 []),(10,.ptr 3 []),(11,.ptr 0 []),(14,.ptr 4 []),(30,.own 5),(31,vi (Ac b)),(32,vi f),(59,.agg [.own 6,vi h])]]⟩
def z44(So:K_):Nat->S->Option R_:=H.i P_ [r,r,r,r,r,l,r,d,(lp So),r,r,l,d,r,r,r,r,(call 1 128),r,r,d]
def t27(b:LU)(a g f:Int)(u:List (Int×Int×UInt64×UInt64×Unit))(v:Int)(p:LB):S:=⟨[(3,.ptr 0 []),(10,.ptr 1 []),(11,.ptr 2 []),(30,.own 3),(31,vi (Ac b)),(32,vi f)],[.box 57 (.agg [vi a,vi g]),.box 194 (.val (.vec 6 (.cons (.int .i64) (.cons (.int .i64) (.cons (.int .u64) (.cons (.int .u64) .nil))))) u),.box 197 (.agg [.own 4,vi v]),Av 162 b,Ab 5 p],[]⟩
def z27:Nat->S->Option R_:=H.i P_ [r,r,r,r,r,l,r,d]
def x44(So:K_)(b:LU)(a g h f:Int)(n:List (Int×Int×UInt64×UInt64×Unit))(m:LB)(o k:Int)(w:LB):Option R_:=H.e P_ [r,r,r,r,r,l,r,d,(lp So),r,r,l,d,r,r,r,r,(call 1 128),r,r,d] (t44 b a g h f n m o k w)
theorem i44(So:K_)(b:LU)(a g h f:Int)(n:List (Int×Int×UInt64×UInt64×Unit))(m:LB):∀(q:Nat) (o k:Int) (w:LB),z44 So q (t44 b a g h f n m o k w)=AF (λf u v p=>So (t27 b a g f u v p)) b a g h f n m q o k w:=
 ind (λ_ _ _=>by kernel_rfl) λq ih o k w=>Eq.trans (b:=QU (OT (λo k w=>(z44 So q) (t44 b a g h f n m o k w)) h b f a g n m) (QW (λf u v p=>So (t27 b a g f u v p)) b a g) b a g h f n m o k w) F3 (by simp only[ih]<;>rfl)
theorem e44(So:K_)(b:LU)(a g:Int):x44 So b a g=PM (λf u v p=>So (t27 b a g f u v p)) b a g:=by funext h f n m o k w;exact Eq.trans F3 ((i44 So b a g h f n m Ds o k w).trans (by rw[Bg];rfl))
theorem i27(b:LU)(a g:Int):∀(q:Nat) (f:Int) (u:List (Int×Int×UInt64×UInt64×Unit)) (v:Int) (p:LB),z27 q (t27 b a g f u v p)=AD b a g q f u v p:=
 ind (λ_ _ _ _=>by kernel_rfl) λq ih f u v p=>Eq.trans (b:=PT (x44 (z27 q) b a g) PG b a g f u v p) F3 (by simp only[e44,ih]<;>rfl)
def k:Kc P_ gl:=⟨(90,⟨H.p,H.r,u4 ER⟩),co H func90 (λx=>Eq.trans (b:=u4 (RP (λb a g f u v p=>z27 Ds (t27 b a g f u v p))) x) F3 (by simp only[i27,Bg]<;>rfl))⟩
end F90
theorem tM:ConOk Tryz.prog gl 70 TH:=wJ F110.k.2 F89.k.2 F131.k.2 F90.k.2 F112.k.2
namespace F106
abbrev R_:=Bool
def H:Hd:=⟨[.agg [Si,Si,Si,Si,Si]],[Sz],(.seq .d (.cut [1] [] .d .d)),kt [] false,[],f106⟩
def k:Kc P_ gl:=⟨(106,⟨H.p,H.r,u5 Oz⟩),co H func106⟩
end F106
namespace F107
def H:Hd:=⟨[.agg [Si,Si,Si,Si,Si]],[Sz],.d,kt [F143.k] false,[],f107⟩
def k:Kc P_ gl:=⟨(107,⟨H.p,H.r,u5 KA⟩),co H func107⟩
end F107
namespace F113
def H:Hd:=⟨[.agg [Si,Si,Si,Si,Si]],[Si],.d,kt [F106.k,F107.k] false,[],f113⟩
def k:Kc P_ gl:=⟨(113,⟨H.p,H.r,u5 Qt⟩),co H func113⟩
end F113
namespace F71
abbrev R_:=(LB×Int)
def H:Hd:=⟨[.agg [Si,Si,Si,Si,Si]],[Ob 5,Si],(.seq .d (.seq .d (.seq .d (.cut [5] [] (.seq .d (.blk (.loop [5,31,32] [] .d))) .d)))),kt [F105.k,F113.k,F114.k] false,[],f71⟩
def t4(b f g h k m:Int)(a:LB):S:=⟨[(5,.own 0),(31,.val (.vec 5 (.int .i64)) ([b,f,g,h,k]:LI)),(32,vi m)],[Ab 5 a],[]⟩
def z4:Nat->S->Option R_:=H.i P_ [r,r,r,l,r,d]
theorem i4(b f g h k:Int):∀(q:Nat) (m:Int) (a:LB),z4 q (t4 b f g h k m a)=Oc b f g h k q m a:=
 ind (λ_ _=>by kernel_rfl) λq ih m a=>Eq.trans (b:=LM ZQ (λm a=>(z4 q) (t4 b f g h k m a)) b f g h k m a) F3 (by simp only[ih]<;>rfl)
def k:Kc P_ gl:=⟨(71,⟨H.p,H.r,u5 mH⟩),co H func71 (λx=>Eq.trans (b:=u5 (ZT (λb f g h k m a=>z4 Ds (t4 b f g h k m a))) x) F3 (by simp only[i4,Bg]<;>rfl))⟩
end F71
namespace F115
def H:Hd:=⟨[Ss],[Sq,Si],.d,kt [F123.k] false,[],f115⟩
def k:Kc P_ gl:=⟨(115,⟨H.p,H.r,pD⟩),co H func115⟩
end F115
namespace F72
def H:Hd:=⟨[Ss],[Ob 5,Si],.d,kt [F114.k,F115.k] false,[],f72⟩
def k:Kc P_ gl:=⟨(72,⟨H.p,H.r,DR⟩),co H func72⟩
end F72
namespace F116
abbrev R_:=Int
def H:Hd:=⟨[Sl],[Si],(.seq .d (.seq .d (.seq .d (.cut [] [] (.seq .d (.blk (.loop [3,14,15,16] [] .d))) .d)))),kt [] false,[],f116⟩
def t4(a:LI)(f b:Int):S:=⟨[(3,vi f),(14,vl a),(15,vi (Ac a)),(16,vi b)],[],[]⟩
def z4:Nat->S->Option R_:=H.i P_ [r,r,r,l,r,d]
theorem i4(a:LI):∀(q:Nat) (f b:Int),z4 q (t4 a f b)=Qe a q f b:=
 ind (λ_ _=>by kernel_rfl) λq ih f b=>Eq.trans (b:=EU eU (λf b=>(z4 q) (t4 a f b)) a f b) F3 (by simp only[ih]<;>rfl)
def k:Kc P_ gl:=⟨(116,⟨H.p,H.r,Ox⟩),co H func116 (λx=>Eq.trans (b:=DZ (λa f b=>z4 Ds (t4 a f b)) x) F3 (by simp only[i4,Bg]<;>rfl))⟩
end F116
namespace F73
abbrev R_:=(LB×Int)
abbrev K_:=S->Option R_
def H:Hd:=⟨[Sl],[Ob 5,Si],(.seq .d (.seq .d (.seq .d (.seq .d (.cut [5,6] [] (.seq .d (.blk (.loop [5,6,17,18,19] [⟨5,[],.own 5 (.int .u8)⟩,⟨6,[0],.own 5 (.int .u8)⟩] (.seq .d (.seq .d (.cut [5,6,17,18,19] [] (.blk (.seq .d (.keep [5,6,8,17,18,19,23,24,25] true))) .d)))))) (.seq .d (.cut [5] [] (.keep [5,6,9,33,34,35] true) .d))))))),kt [F105.k,F114.k,F116.k] false,[(117,.d)],f73⟩
def t8(a:LI)(f:Int)(b:LB):S:=⟨[(5,.ptr 0 []),(6,.fn 117 [.ptr 0 []]),(17,vl a),(18,vi (Ac a)),(19,vi f)],[.box 22 (.own 1),Ab 5 b],[]⟩
def z8:Nat->S->Option R_:=H.i P_ [r,r,r,r,l,r,d]
theorem i8(a:LI):∀(q:Nat) (f:Int) (b:LB),z8 q (t8 a f b)=OC a q f b:=
 ind (λ_ _=>by kernel_rfl) λq ih f b=>Eq.trans (b:=eK (ZG (λf b=>(z8 q) (t8 a f b)) a) ZA a f b) F3 (by simp only[ih]<;>rfl)
def k:Kc P_ gl:=⟨(73,⟨H.p,H.r,rX⟩),co H func73 (λx=>Eq.trans (b:=bS (λa f b=>z8 Ds (t8 a f b)) x) F3 (by simp only[i8,Bg]<;>rfl))⟩
end F73
namespace F75
def H:Hd:=⟨[Sb],[Si],.d,kt [] false,[],f75⟩
def k:Kc P_ gl:=⟨(75,⟨H.p,H.r,gR⟩),co H func75⟩
end F75
namespace F76
abbrev R_:=LB
def H:Hd:=⟨[.lf (.list (.list (.int .u8))) none],[Ob 5],(.seq .d (.seq .d (.cut [3] [] (.seq .d (.blk (.loop [3,6,7,8] [⟨3,[],.own 5 (.int .u8)⟩] .d))) .d))),kt [] false,[],f76⟩
def t4(a:List LB)(f:Int)(b:LB):S:=⟨[(3,.own 0),(6,.val (.list (.list (.int .u8))) a),(7,vi (Ac a)),(8,vi f)],[Ab 5 b],[]⟩
def z4:Nat->S->Option R_:=H.i P_ [r,r,l,r,d]
theorem i4(a:List LB):∀(q:Nat) (f:Int) (b:LB),z4 q (t4 a f b)=QS a q f b:=
 ind (λ_ _=>by kernel_rfl) λq ih f b=>Eq.trans (b:=dG dX (λf b=>(z4 q) (t4 a f b)) a f b) F3 (by simp only[ih]<;>rfl)
def k:Kc P_ gl:=⟨(76,⟨H.p,H.r,rZ⟩),co H func76 (λx=>Eq.trans (b:=bT (λa f b=>z4 Ds (t4 a f b)) x) F3 (by simp only[i4,Bg]<;>rfl))⟩
end F76
namespace F38
abbrev R_:=(LB×Int)
abbrev K_:=S->Option R_
def H:Hd:=⟨[.agg [Si,Si,Si,Sw],Ss],[Ob 5,Si],(.seq .d (.seq .d (.seq .d (.seq .d (.seq .d (.seq .d (.seq .d (.seq .d (.cut [8,9,10] [⟨10,[],.own 5 (.int .u8)⟩] .d (.cut [7,8,9,10,11] [] (.keep [7,8,9,10,11,46,48,49,50,51] true) .d)))))))))),kt [F69.k,⟨(70,TH),tM⟩,F71.k,F72.k,F73.k,F75.k,F76.k] false,[(74,(.seq .d (.seq .d (.cut [5] [] (.seq .d (.blk (.loop [1,5,11,12,13] [] (.seq .d (.seq .d (.cut [1,5,11,12,13] [] .d .d)))))) .d))))],f38⟩
def t9(a:List LB)(b f:LB)(g:Int)(h:LI):S:=⟨[(1,.fn 75 []),(5,.own 0),(11,.own 1),(12,vi (Ac a)),(13,vi g)],[Ai 3 h,.arr 22 (.list (.int .u8)) a,Ab 5 b,Ab 5 f],[[(8,.own 1),(9,.own 2),(10,.own 3)]]⟩
def z9:Nat->S->Option R_:=H.i P_ [r,r,r,r,r,r,r,r,r,l,(call 1 74),r,r,l,r,d]
theorem i9(a:List LB)(b f:LB):∀(q:Nat) (g:Int) (h:LI),z9 q (t9 a b f g h)=QG a b f q g h:=
 ind (λ_ _=>by kernel_rfl) λq ih g h=>Eq.trans (b:=dA (ZF (λg h=>(z9 q) (t9 a b f g h)) a b f) ZR a b f g h) F3 (by simp only[ih]<;>rfl)
def k:Kc P_ gl:=⟨(38,⟨H.p,H.r,u5 rU⟩),co H func38 (λx=>Eq.trans (b:=u5 (bM (bC (λa b f g h=>z9 Ds (t9 a b f g h)))) x) F3 (by simp only[i9,Bg]<;>rfl))⟩
end F38
namespace F22
def H:Hd:=⟨[Si],[Si,Si],.d,kt [] false,[],f22⟩
def k:Kc P_ gl:=⟨(22,⟨H.p,H.r,EH⟩),co H func22⟩
end F22
namespace F11
def H:Hd:=⟨[Ss],[.agg [Ss,Ob 5,.agg [Si,Si,Si,Si,Si],Ol 3,Si,Ob 5,Sz,Si],Si],.d,kt [] false,[],f11⟩
def k:Kc P_ gl:=⟨(11,⟨H.p,H.r,SH⟩),co H func11⟩
end F11
namespace F57
def KR(a:LB):Option (LB):=
tN a (
some ([]:LB)) (
(Dh ([]:LB) a).bind λb=>
some b)
theorem kG: @KR= @Kn:=by
  unfold KR Kn
  repeat (refine funext λ_=>?_)
  repeat' first
    |with_reducible rfl
    |with_reducible refine Mv ?_ ?_
    |with_reducible refine Mk ?_ ?_ ?_
    |with_reducible refine Mx ?_ ?_ ?_ ?_
    |((with_reducible refine Ro ?_ ?_);focus (intro h;first|(subst h;rfl)|(simp only[h];rfl)|(simp[Dh,Ac,h];done)))
    |with_reducible refine Qx λx=>?_
    |with_reducible refine Zs (λ_=>?_) (λ_=>?_)
    |(refine Hf (λh=>by simp only[h,Ri,Em,Ed,ite_self]) (λx h=>?_);(try simp only[h,Em]))
    |(refine Ju (λh=>?_) (λh=>?_)<;>simp only[h,if_true,if_false,Bool.false_eq_true])
def H:Hd:=⟨[Sb],[Ob 5],.d,kt [] false,[],f57⟩
def k:Kc P_ gl:=⟨(57,⟨H.p,H.r,Kn⟩),co H func57 (λx=>Eq.trans (b:=KR x) F3 (by simp only[kG]<;>rfl))⟩
end F57
namespace F65
def Pf(a:LI):Option (LI):=
tN a (
some ([]:LI)) (
(Dh ([]:LI) a).bind λb=>
some b)
theorem NF: @Pf= @Fy:=by
  unfold Pf Fy
  repeat (refine funext λ_=>?_)
  repeat' first
    |with_reducible rfl
    |with_reducible refine Mv ?_ ?_
    |with_reducible refine Mk ?_ ?_ ?_
    |with_reducible refine Mx ?_ ?_ ?_ ?_
    |((with_reducible refine Ro ?_ ?_);focus (intro h;first|(subst h;rfl)|(simp only[h];rfl)|(simp[Dh,Ac,h];done)))
    |with_reducible refine Qx λx=>?_
    |with_reducible refine Zs (λ_=>?_) (λ_=>?_)
    |(refine Hf (λh=>by simp only[h,Ri,Em,Ed,ite_self]) (λx h=>?_);(try simp only[h,Em]))
    |(refine Ju (λh=>?_) (λh=>?_)<;>simp only[h,if_true,if_false,Bool.false_eq_true])
def H:Hd:=⟨[Sl],[Ol 3],.d,kt [] false,[],f65⟩
def k:Kc P_ gl:=⟨(65,⟨H.p,H.r,Fy⟩),co H func65 (λx=>Eq.trans (b:=Pf x) F3 (by simp only[NF]<;>rfl))⟩
end F65
namespace F34
def H:Hd:=⟨[.agg [Ss,Sb,.agg [Si,Si,Si,Si,Si],Sl,Si,Sb,Sz,Si]],[.agg [Ss,Ob 5,.agg [Si,Si,Si,Si,Si],Ol 3,Si,Ob 5,Sz,Si]],.d,kt [F57.k,F65.k] false,[],f34⟩
def k:Kc P_ gl:=⟨(34,⟨H.p,H.r,u12 Dk⟩),co H func34⟩
end F34
namespace F97
def H:Hd:=⟨[.agg [Si,Si,Si,Si,Si]],[Ol 3,Si],.d,kt [F113.k,F131.k] false,[],f97⟩
def k:Kc P_ gl:=⟨(97,⟨H.p,H.r,u5 De⟩),co H func97⟩
end F97
namespace F95
def H:Hd:=⟨[.agg [Si,Si,Si,Si,Si],Ss],[Si],.d,kt [] false,[],f95⟩
def k:Kc P_ gl:=⟨(95,⟨H.p,H.r,u6 Mr⟩),co H func95⟩
end F95
namespace F77
abbrev R_:=Bool
def H:Hd:=⟨[.agg [Ss,Sb,.agg [Si,Si,Si,Si,Si],Sl,Si,Sb,Sz,Si]],[Sz],(.seq .d (.seq .d (.seq .d (.cut [1,3] [] .d (.seq .d (.seq .d (.seq .d (.cut [1,5] [] (.seq .d (.blk (.loop [1,5,83,84,85] [] .d))) .d)))))))),kt [F95.k,F97.k,F116.k] false,[],f77⟩
def t6(w:LI)(o p:LB)(h b f k m:Int)(g:LI)(a:Int)(n:LB)(u:Bool)(v y aa:Int):S:=⟨[(1,.ptr 0 []),(5,vi y),(83,vl w),(84,vi (Ac w)),(85,vi aa)],[.box 32 (.agg [vs o,vb p,.agg [vi h,vi b,vi f,vi k,vi m],vl g,vi a,vb n,vt u,vi v])],[]⟩
def z6:Nat->S->Option R_:=H.i P_ [r,r,r,r,r,r,r,l,r,d]
theorem i6(w:LI)(o p:LB)(h b f k m:Int)(g:LI)(a:Int)(n:LB)(u:Bool)(v:Int):∀(q:Nat) (y aa:Int),z6 q (t6 w o p h b f k m g a n u v y aa)=Oa w o p h b f k m g a n u v q y aa:=
 ind (λ_ _=>by kernel_rfl) λq ih y aa=>Eq.trans (b:=Zf LA (λy aa=>(z6 q) (t6 w o p h b f k m g a n u v y aa)) w o p h b f k m g a n u v y aa) F3 (by simp only[ih]<;>rfl)
def k:Kc P_ gl:=⟨(77,⟨H.p,H.r,u12 Wr⟩),co H func77 (λx=>Eq.trans (b:=u12 (LK (KZ (λw o p h b f k m g a n u v y aa=>z6 Ds (t6 w o p h b f k m g a n u v y aa)))) x) F3 (by simp only[i6,Bg]<;>rfl))⟩
end F77
namespace F130
def H:Hd:=⟨[Sb,Sb],[Sz],.d,kt [] false,[],f130⟩
def k:Kc P_ gl:=⟨(130,⟨H.p,H.r,u2 It⟩),co H func130⟩
end F130
namespace F144
def H:Hd:=⟨[Sb,Sb],[Sz],.d,kt [F130.k] false,[],f144⟩
def k:Kc P_ gl:=⟨(144,⟨H.p,H.r,u2 Ky⟩),co H func144⟩
end F144
namespace F195
abbrev R_:=(Int×Int)
def H:Hd:=⟨[Sb],[Si,Si],(.seq .d (.seq .d (.seq .d (.cut [4] [] (.seq .d (.blk (.loop [4,10,11,12] [] .d))) .d)))),kt [] false,[],f195⟩
def t4(a:LB)(b f:Int):S:=⟨[(4,vi b),(10,vb a),(11,vi (Ac a)),(12,vi f)],[],[]⟩
def z4:Nat->S->Option R_:=H.i P_ [r,r,r,l,r,d]
theorem i4(a:LB):∀(q:Nat) (b f:Int),z4 q (t4 a b f)=Md a q b f:=
 ind (λ_ _=>by kernel_rfl) λq ih b f=>Eq.trans (b:=Ww VG (λb f=>(z4 q) (t4 a b f)) a b f) F3 (by simp only[ih]<;>rfl)
def k:Kc P_ gl:=⟨(195,⟨H.p,H.r,HQ⟩),co H func195 (λx=>Eq.trans (b:=HJ (λa b f=>z4 Ds (t4 a b f)) x) F3 (by simp only[i4,Bg]<;>rfl))⟩
end F195
namespace F174
def GW(j5:LB->UInt8->UInt8->Option (Int×Int))(a:LB):Option (Int×Int):=
(Ky a ([(73:UInt8),(68:UInt8),(51:UInt8)]:LB)).bind λn=>
if(!n)then
some (0,6)
else
if(Cm (Ac a) 10)then
some (0,24)
else
(Ak a 3).bind λf=>
(Ak a 5).bind λb=>
(λo:Option (Int×Int)=>
(λp:Option (Int×Int)=>
both (
both (
bo (
j5 a f b)) [
o,
o]) [
bo2 (
bo (
j5 a f b)),
p,
p]) (
both (
o) [
bo (
j5 a f b),
both (
bo (
j5 a f b)) [
j5 a f b]])) (
both (
j5 a f b) [
bo (
j5 a f b)])
theorem fX: @GW= @Zh:=by
  unfold GW Zh
  try simp only[ZP,KM,LC]
  all_goals
    repeat (refine funext λ_=>?_)
    repeat' first
      |with_reducible rfl
      |with_reducible refine Mv ?_ ?_
      |with_reducible refine Mk ?_ ?_ ?_
      |with_reducible refine Mx ?_ ?_ ?_ ?_
      |((with_reducible refine Ro ?_ ?_);focus (intro h;first|(subst h;rfl)|(simp only[h];rfl)|(simp[Dh,Ac,h];done)))
      |with_reducible refine Qx λx=>?_
      |with_reducible refine Zs (λ_=>?_) (λ_=>?_)
      |(refine Hf (λh=>by simp only[h,Ri,Em,Ed,ite_self]) (λx h=>?_);(try simp only[h,Em]))
      |(refine Ju (λh=>?_) (λh=>?_)<;>simp only[h,if_true,if_false,Bool.false_eq_true])
abbrev R_:=(Int×Int)
def H:Hd:=⟨[Sb],[Si,Si],(.seq .d (.seq .d (.seq .d (.cut [0,4,5] [] (.mode false) (.seq .d (.seq .d (.cut [0,5,6] [] (.cut [0,5,6,43] [] (.keep [0,5,6,7,8,31,32,33,34,35,36,37,38,39,40,41,42,43] true) .d) (.seq .d (.cut [0,5,6] [] .d .d))))))))),kt [F130.k,F144.k,F195.k] false,[(196,.d)],f174⟩
def x6(a:LB)(g:Int)(b:UInt8)(m:Bool):Option R_:=H.e P_ [r,r,r,r,r,r,l,r] ⟨[(0,vb a),(5,.ptr 0 []),(6,vi g),(43,vt m)],[.box 5 (vc b)],[]⟩
def x5(a:LB)(f b:UInt8):Option R_:=H.e P_ [r,r,r,r] ⟨[(0,vb a),(4,.ptr 0 []),(5,.ptr 1 [])],[.box 5 (vc f),.box 5 (vc b)],[]⟩
theorem e6:x6=KN:=F3
theorem e5:x5=KU:=Eq.trans (b:=LO x6) F3 (by simp only[e6]<;>rfl)
def k:Kc P_ gl:=⟨(174,⟨H.p,H.r,MW⟩),co H func174 (λx=>Eq.trans (b:=GW x5 x) F3 (by rw[fX];simp only[e5]<;>rfl))⟩
end F174
namespace F141
abbrev R_:=(UInt64×Int)
def H:Hd:=⟨[Sb],[Sq,Si],(.seq .d (.seq .d (.seq .d (.cut [4] [] (.seq .d (.blk (.loop [4,15,16,17] [] .d))) .d)))),kt [] false,[],f141⟩
def t4(a:LB)(f:UInt64)(b:Int):S:=⟨[(4,vq f),(15,vb a),(16,vi (Ac a)),(17,vi b)],[],[]⟩
def z4:Nat->S->Option R_:=H.i P_ [r,r,r,l,r,d]
theorem i4(a:LB):∀(q:Nat) (f:UInt64) (b:Int),z4 q (t4 a f b)=AT a q f b:=
 ind (λ_ _=>by kernel_rfl) λq ih f b=>Eq.trans (b:=SC qY (λf b=>(z4 q) (t4 a f b)) a f b) F3 (by simp only[ih]<;>rfl)
def k:Kc P_ gl:=⟨(141,⟨H.p,H.r,bY⟩),co H func141 (λx=>Eq.trans (b:=eQ (λa f b=>z4 Ds (t4 a f b)) x) F3 (by simp only[i4,Bg]<;>rfl))⟩
end F141
namespace F104
def H:Hd:=⟨[Sb,Si,Si],[Sq,Si],.d,kt [F141.k] false,[],f104⟩
def k:Kc P_ gl:=⟨(104,⟨H.p,H.r,u3 VC⟩),co H func104⟩
end F104
namespace F146
abbrev R_:=LB
def H:Hd:=⟨[Si,Si,Sq],[Ob 5],(.seq .d (.seq .d (.cut [7] [] (.seq .d (.blk (.loop [7,20,21,22] [] .d))) .d))),kt [F114.k] false,[],f146⟩
def t4(a b:Int)(f:UInt64)(h:Int)(g:LB):S:=⟨[(7,.own 0),(20,.own 1),(21,vi (Ac ([(2000:UInt64),(Ad (Ae a (32:Int)):UInt64),(Ad b:UInt64),f,(0:UInt64),(0:UInt64)]:LQ))),(22,vi h)],[Ab 5 g,.arr 159 (.int .u64) ([(2000:UInt64),(Ad (Ae a (32:Int)):UInt64),(Ad b:UInt64),f,(0:UInt64),(0:UInt64)]:LQ)],[]⟩
def z4:Nat->S->Option R_:=H.i P_ [r,r,l,r,d]
theorem i4(a b:Int)(f:UInt64):∀(q:Nat) (h:Int) (g:LB),z4 q (t4 a b f h g)=AN a b f q h g:=
 ind (λ_ _=>by kernel_rfl) λq ih h g=>Eq.trans (b:=XP jL (λh g=>(z4 q) (t4 a b f h g)) a b f h g) F3 (by simp only[ih]<;>rfl)
def k:Kc P_ gl:=⟨(146,⟨H.p,H.r,u3 fD⟩),co H func146 (λx=>Eq.trans (b:=u3 (kD (λa b f h g=>z4 Ds (t4 a b f h g))) x) F3 (by simp only[i4,Bg]<;>rfl))⟩
end F146
namespace F145
def H:Hd:=⟨[Sb,Sq],[.agg [Si,Si],Sz],.d,kt [F104.k,F130.k,F146.k] false,[],f145⟩
def k:Kc P_ gl:=⟨(145,⟨H.p,H.r,u2 NS⟩),co H func145⟩
end F145
namespace F175
def H:Hd:=⟨[Sb],[Si,Si],.d,kt [F130.k,F144.k,F145.k,F146.k] false,[],f175⟩
def k:Kc P_ gl:=⟨(175,⟨H.p,H.r,fF⟩),co H func175⟩
end F175
namespace F139
def H:Hd:=⟨[Sb],[Si,Si],.d,kt [F174.k,F175.k] false,[],f139⟩
def k:Kc P_ gl:=⟨(139,⟨H.p,H.r,Vr⟩),co H func139⟩
end F139
theorem QN:ConOk Tryz.prog gl 66 Ze:=xZ ent66 F139.k.2
namespace F64
def H:Hd:=⟨[Si],[.agg [Sz,Si]],.d,kt [] false,[],f64⟩
def k:Kc P_ gl:=⟨(64,⟨H.p,H.r,Ah⟩),co H func64⟩
end F64
namespace F140
def H:Hd:=⟨[Ss,Ss],[Sz],.d,kt [] false,[],f140⟩
def k:Kc P_ gl:=⟨(140,⟨H.p,H.r,u2 Gf⟩),co H func140⟩
end F140
namespace F103
def H:Hd:=⟨[Ss,Ss],[Sz],.d,kt [F140.k] false,[],f103⟩
def k:Kc P_ gl:=⟨(103,⟨H.p,H.r,u2 Hv⟩),co H func103⟩
end F103
namespace F94
abbrev R_:=Bool
def H:Hd:=⟨[Sb],[Sz],(.seq .d (.cut [] [] (.seq .d (.blk (.loop [0,5,6] [] .d))) .d)),kt [F103.k] false,[],f94⟩
def t4(a:LB)(b:Int):S:=⟨[(0,vb a),(5,.val (.vec 2 .str) ([([73,68,51]:LB),([65,80,69,84,65,71,69,88]:LB)]:List LB)),(6,vi b)],[],[]⟩
def z4:Nat->S->Option R_:=H.i P_ [r,l,r,d]
theorem i4(a:LB):∀(q:Nat) (b:Int),z4 q (t4 a b)=Ip a q b:=
 ind (λ_=>by kernel_rfl) λq ih b=>Eq.trans (b:=Rv ZC (λb=>(z4 q) (t4 a b)) a b) F3 (by simp only[ih]<;>rfl)
def k:Kc P_ gl:=⟨(94,⟨H.p,H.r,Oy⟩),co H func94 (λx=>Eq.trans (b:=LH (λa b=>z4 Ds (t4 a b)) x) F3 (by simp only[i4,Bg]<;>rfl))⟩
end F94
namespace F67
abbrev R_:=(Int×Int×Int×Int×Int×Int)
def H:Hd:=⟨[Sb],[.agg [Si,Si,Si,Si,Si],Si],(.seq .d (.seq .d (.seq .d (.seq .d (.seq .d (.seq .d (.seq .d (.cut [2,8] [] (.seq .d (.blk (.loop [0,2,8,9,44,45] [] .d))) .d)))))))),kt [F103.k,F104.k,F105.k,F106.k,F107.k] false,[],f67⟩
def t4(b:LB)(g f:Int)(a:LI):S:=⟨[(0,vb b),(2,.ptr 0 []),(8,.ptr 1 []),(9,vi g),(44,.val (.vec 5 (.int .i64)) ([(2:Int),(2:Int),(2:Int),(4:Int),(4:Int)]:LI)),(45,vi f)],[.box 28 (.agg [vi 0,vi 0,vi 0,vi 0,vi 0]),.box 165 (.val (.vec 5 (.int .i64)) a)],[]⟩
def z4:Nat->S->Option R_:=H.i P_ [r,r,r,r,r,r,r,l,r,d]
theorem i4(b:LB):∀(q:Nat) (g f:Int) (a:LI),z4 q (t4 b g f a)=Mn b q g f a:=
 ind (λ_ _ _=>by kernel_rfl) λq ih g f a=>Eq.trans (b:=CP CO (λg f a=>(z4 q) (t4 b g f a)) b g f a) F3 (by simp only[ih]<;>rfl)
def k:Kc P_ gl:=⟨(67,⟨H.p,H.r,Ma⟩),co H func67 (λx=>Eq.trans (b:=QD (λb g f a=>z4 Ds (t4 b g f a)) x) F3 (by simp only[i4,Bg]<;>rfl))⟩
end F67
namespace F96
def H:Hd:=⟨[Sb,Ss],[Sz,Si],.d,kt [F72.k,F130.k] false,[],f96⟩
def k:Kc P_ gl:=⟨(96,⟨H.p,H.r,u2 Xf⟩),co H func96⟩
end F96
namespace F98
abbrev R_:=(LI×Int)
def H:Hd:=⟨[Sb,Si],[Ol 3,Si],(.seq .d (.seq .d (.seq .d (.seq .d (.seq .d (.seq .d (.cut [10] [] (.seq .d (.blk (.loop [0,10,48,49] [] .d))) .d))))))),kt [F104.k,F105.k,F116.k] false,[],f98⟩
def t4(a:LB)(f:LI)(g:Int)(b:LI):S:=⟨[(0,vb a),(10,.own 0),(48,vi (Ac f)),(49,vi g)],[Ai 3 b],[]⟩
def z4:Nat->S->Option R_:=H.i P_ [r,r,r,r,r,r,l,r,d]
theorem i4(a:LB)(f:LI):∀(q:Nat) (g:Int) (b:LI),z4 q (t4 a f g b)=Sr a f q g b:=
 ind (λ_ _=>by kernel_rfl) λq ih g b=>Eq.trans (b:=HP HM (λg b=>(z4 q) (t4 a f g b)) a f g b) F3 (by simp only[ih]<;>rfl)
def k:Kc P_ gl:=⟨(98,⟨H.p,H.r,u2 HB⟩),co H func98 (λx=>Eq.trans (b:=u2 (TW (λa f g b=>z4 Ds (t4 a f g b))) x) F3 (by simp only[i4,Bg]<;>rfl))⟩
end F98
namespace F100
def H:Hd:=⟨[.agg [Si,Si,Si,Si,Si]],[.agg [Si,Si]],.d,kt [] false,[],f100⟩
def k:Kc P_ gl:=⟨(100,⟨H.p,H.r,u5 Yq⟩),co H func100⟩
end F100
namespace F132
def H:Hd:=⟨[Sb],[Sb,Si],.d,kt [F105.k,F141.k] false,[],f132⟩
def k:Kc P_ gl:=⟨(132,⟨H.p,H.r,DM⟩),co H func132⟩
end F132
namespace F133
def H:Hd:=⟨[Sb],[.agg [Ob 5,Si],Si],.d,kt [F82.k] false,[],f133⟩
def k:Kc P_ gl:=⟨(133,⟨H.p,H.r,Q6⟩),co H func133⟩
end F133
namespace F170
abbrev R_:=UInt64
def H:Hd:=⟨[.agg [Sb,Si],Si,Si],[Sq],(.seq .d (.seq .d (.cut [7] [] (.blk (.loop [1,2,3,7,8] [] .d)) .d))),kt [] false,[],f170⟩
def t4(b f:Int)(h:LB)(k:Int)(g:UInt64)(a:Int):S:=⟨[(1,vi b),(2,vi f),(3,.ptr 0 []),(7,vq g),(8,vi a)],[.box 197 (.agg [vb h,vi k])],[]⟩
def z4:Nat->S->Option R_:=H.i P_ [r,r,l,d]
theorem i4(b f:Int)(h:LB)(k:Int):∀(q:Nat) (g:UInt64) (a:Int),z4 q (t4 b f h k g a)=JE b f h k q g a:=
 ind (λ_ _=>by kernel_rfl) λq ih g a=>Eq.trans (b:=dC rM (λg a=>(z4 q) (t4 b f h k g a)) b f h k g a) F3 (by simp only[ih]<;>rfl)
def k:Kc P_ gl:=⟨(170,⟨H.p,H.r,u4 nA⟩),co H func170 (λx=>Eq.trans (b:=u4 (qI (λb f h k g a=>z4 Ds (t4 b f h k g a))) x) F3 (by simp only[i4,Bg]<;>rfl))⟩
end F170
namespace F168
abbrev R_:=(LB×Int×Int)
abbrev K_:=S->Option R_
def H:Hd:=⟨[.agg [Sb,Si],Si,Si],[.agg [Ob 5,Si],Si],(.seq .d (.seq .d (.seq .d (.seq .d (.cut [6,8] [] (.seq .d (.blk (.loop [2,3,6,8,9] [⟨8,[0],.own 5 (.int .u8)⟩] (.seq .d (.cut [2,3,6,8,9] [] (.blk (.seq .d (.keep [2,3,6,8,9,10,39,40,41,42,43] true))) .d))))) .d))))),kt [F160.k,F170.k] false,[(187,(.blk (.loop [0,1,2] [] (.seq .d (.blk (.cut [0,1,2] [] .d (.seq .d (.cut [0,1,2,7] [] .d .d))))))))],f168⟩
def t44(a:Int)(g:LB)(b f:Int)(m n:UInt64)(k h:Int)(u:LB):S:=⟨[(0,.ptr 0 []),(1,vq n),(2,vi k)],[.box 197 (.agg [.own 3,vi h]),.box 197 (.agg [vb g,vi b]),.box 197 (.agg [.nils,vi 0]),Ab 5 u],[[(2,vi a),(3,.ptr 1 []),(6,.ptr 2 []),(8,.ptr 0 []),(9,vi f),(10,vi (Ha (64:Int) (Am a f))),(39,.agg [vb g,vi b]),(40,vi f),(41,vi (Ha (64:Int) (Am a f))),(42,vq m),(43,vi (Ha (64:Int) (Am a f)))]]⟩
def z44(So:K_):Nat->S->Option R_:=H.i P_ [r,r,r,r,l,r,d,(lp So),r,l,d,r,(call 5 187),d]
def t27(a:Int)(g:LB)(b f o:Int)(p:LB):S:=⟨[(2,vi a),(3,.ptr 0 []),(6,.ptr 1 []),(8,.ptr 2 []),(9,vi f)],[.box 197 (.agg [vb g,vi b]),.box 197 (.agg [.nils,vi 0]),.box 197 (.agg [.own 3,vi o]),Ab 5 p],[]⟩
def z27:Nat->S->Option R_:=H.i P_ [r,r,r,r,l,r,d]
def x44(So:K_)(a:Int)(g:LB)(b f:Int)(m n:UInt64)(k h:Int)(u:LB):Option R_:=H.e P_ [r,r,r,r,l,r,d,(lp So),r,l,d,r,(call 5 187),d] (t44 a g b f m n k h u)
theorem i44(So:K_)(a:Int)(g:LB)(b f:Int)(m:UInt64):∀(q:Nat) (n:UInt64) (k h:Int) (u:LB),z44 So q (t44 a g b f m n k h u)=Oi (λf o p=>So (t27 a g b f o p)) a g b f m q n k h u:=
 ind (λ_ _ _ _=>by kernel_rfl) λq ih n k h u=>Eq.trans (b:=NA (NB (λn k h u=>(z44 So q) (t44 a g b f m n k h u)) a f g b m) (MV (λf o p=>So (t27 a g b f o p)) a g b) a g b f m n k h u) F3 (by simp only[ih]<;>rfl)
theorem e44(So:K_)(a:Int)(g:LB)(b:Int):x44 So a g b=YG (λf o p=>So (t27 a g b f o p)) a g b:=by funext f m n k h u;exact Eq.trans F3 ((i44 So a g b f m Ds n k h u).trans (by rw[Bg];rfl))
theorem i27(a:Int)(g:LB)(b:Int):∀(q:Nat) (f o:Int) (p:LB),z27 q (t27 a g b f o p)=Wq a g b q f o p:=
 ind (λ_ _ _=>by kernel_rfl) λq ih f o p=>Eq.trans (b:=YB (x44 (z27 q) a g b) WV a g b f o p) F3 (by simp only[e44,ih]<;>rfl)
def k:Kc P_ gl:=⟨(168,⟨H.p,H.r,u4 cY⟩),co H func168 (λx=>Eq.trans (b:=u4 (dH (λa g b f o p=>z27 Ds (t27 a g b f o p))) x) F3 (by simp only[i27,Bg]<;>rfl))⟩
end F168
namespace F135
def H:Hd:=⟨[.agg [Sb,Si],Si,Si],[Sq,Si],.d,kt [F160.k,F170.k] false,[],f135⟩
def k:Kc P_ gl:=⟨(135,⟨H.p,H.r,u4 DW⟩),co H func135⟩
end F135
namespace F208
def H:Hd:=⟨[Sq],[Si],.d,kt [] false,[],f208⟩
def k:Kc P_ gl:=⟨(208,⟨H.p,H.r,Gj⟩),co H func208⟩
end F208
namespace F203
def RC(j6:Int->UInt64->Int->LB->Int->Option (Int×Int×Int))(g:LB)(b a:Int):Option (Int×Int×Int):=
(Jw g b).bind λm=>
if(Bf m 0)then
some (0,0,m)
else
if(Cm a 0)then
some (0,0,2)
else
if(Mf a b)then
some (0,0,24)
else
(λn:Option (Int×Int×Int)=>
(λo:Option (Int×Int×Int)=>
bo2 (
o)) (
bo (
n))) (
(DW g b a (Ha 48 (Am b a))).bind λ(k,h)=>
j6 h k a g b)
theorem lA: @RC= @Za:=by
  unfold RC Za;simp only[ZP,KM,LC]
abbrev R_:=(Int×Int×Int)
def H:Hd:=⟨[.agg [Sb,Si],Si],[Si,Si,Si],(.seq .d (.seq .d (.seq .d (.seq .d (.seq .d (.cut [3,5,6,8,9] [] (.keep [2,3,5,6,8,9,22,23,24,25,26,27,28,29] false) (.seq .d (.seq .d (.cut [] [] (.blk (.seq (.blk (.seq (.blk (.cut [] [] (.cut [3,4,5] [] (.cut [3,4,5,36] [] (.keep [3,4,5,8,36,37,38,39,40] true) .d) .d) .d)) .d)) .d)) .d))))))))),kt [F135.k,F160.k,F208.k] false,[(207,.d)],f203⟩
def k:Kc P_ gl:=⟨(203,⟨H.p,H.r,u3 HF⟩),co H func203 (λx=>Eq.trans (b:=u3 (RC TG) x) F3 (by simp only[lA]<;>rfl))⟩
end F203
namespace F192
abbrev R_:=(UInt32×Int×Int)
def H:Hd:=⟨[.agg [Sb,Si],Si,Si],[Su,Si,Si],(.seq .d (.seq .d (.seq .d (.seq .d (.seq .d (.seq .d (.cut [2,3,7,10,11] [] .d .d))))))),kt [F135.k,F160.k,F188.k,F203.k] false,[],f192⟩
def k:Kc P_ gl:=⟨(192,⟨H.p,H.r,u4 fL⟩),co H func192⟩
end F192
namespace F169
abbrev R_:=(UInt32×Int×Int×Int×UInt64×UInt64×Int)
def H:Hd:=⟨[.agg [Sb,Si],Si,.agg [Si,Si,Sq,Sq]],[Su,Si,.agg [Si,Si,Sq,Sq],Si],(.seq .d (.cut [1,3,5,8] [] .d (.seq .d (.seq .d (.cut [5,6,7,8] [] .d (.cut [5,6,7,8] [] (.keep [5,6,7,8,81] true) .d)))))),kt [F135.k,F160.k,F161.k,F162.k,F192.k] false,[(165,(.seq .d (.seq .d (.seq .d (.blk (.cut [0,1,4] [] (.blk (.seq .d (.keep [0,1,4,6,18,19,20,21,22,23,24,25] true))) (.cut [] [] (.keep [0,1,4,27,28,29,30,31,32,33,34] true) .d))))))),(190,.d)],f169⟩
def x8(f:UInt32)(k a:Int)(b:UInt64)(m:Int)(n:UInt64):Option R_:=H.e P_ [r,r,r,r,r,l,(call 1 165),r,r,r,d,r] ⟨[(0,.ptr 0 []),(1,vu f),(4,.fn 190 [])],[.box 193 (.agg [vi a,vi m,vq b,vq n]),.box 193 (.agg [vi 0,vi 0,vq 0,vq 0])],[[(5,.ptr 0 []),(6,vu f),(7,vi k),(8,.ptr 1 []),(81,vu f)]]⟩
theorem e8:x8=EO:=F3
def k:Kc P_ gl:=⟨(169,⟨H.p,H.r,u7 GX⟩),co H func169 (λx=>Eq.trans (b:=u7 (YS (XH (WW x8))) x) F3 (by simp only[e8]<;>rfl))⟩
end F169
namespace F134
def Xy(j21:Int->Int->Int->UInt32->Int-> (List (Int×Int×UInt64×UInt64×Unit))->LU->Int->Int->UInt64->UInt64->Option (LU×Int×Int))(j24:Int->LU->Option (LU×Int×Int))(a f:Int)(g:LB)(b k h:Int)(m:List (Int×Int×UInt64×UInt64×Unit))(n:LU):Option (LU×Int×Int):=
if(Cm h (Bo f a))then
(cY g b k (Ha (Ae k 81) b)).bind λ(ag,ae,af)=>
if(Bf af 0)then
some (([]:LU),0,af)
else
(Jm (Bf a 0)).bind λ_=>
(Ak m (Ho h a)).bind λ_=>
(λai:Option (LU×Int×Int)=>
both (
both (
(Ak m (Ho h a)).bind λo=>
(λao:Option (LU×Int×Int)=>
bo (
ao)) (
(GX ag ae 0 o.1 o.2.1 o.2.2.1 o.2.2.2.1).bind λ(w,v,aa,ab,ac,ad,y)=>
j21 k h y w v m n aa ab ac ad)) [
ai]) [
(Ak m (Ho h a)).bind λo=>
(λaj:Option (LU×Int×Int)=>
both (
bo (
aj)) [
aj]) (
(GX ag ae 0 o.1 o.2.1 o.2.2.1 o.2.2.2.1).bind λ(w,v,aa,ab,ac,ad,y)=>
j21 k h y w v m n aa ab ac ad),
bo (
ai)]) (
(Ak m (Ho h a)).bind λo=>
(GX ag ae 0 o.1 o.2.1 o.2.2.1 o.2.2.2.1).bind λ(w,v,aa,ab,ac,ad,y)=>
j21 k h y w v m n aa ab ac ad)
else
j24 k n
theorem YN: @Xy= @Rq:=by
  unfold Xy Rq
  try simp only[ZP,KM,LC]
  all_goals
    repeat (refine funext λ_=>?_)
    repeat' first
      |with_reducible rfl
      |with_reducible refine Mv ?_ ?_
      |with_reducible refine Mk ?_ ?_ ?_
      |with_reducible refine Mx ?_ ?_ ?_ ?_
      |((with_reducible refine Ro ?_ ?_);focus (intro h;first|(subst h;rfl)|(simp only[h];rfl)|(simp[Dh,Ac,h];done)))
      |with_reducible refine Qx λx=>?_
      |with_reducible refine Zs (λ_=>?_) (λ_=>?_)
      |(refine Hf (λh=>by simp only[h,Ri,Em,Ed,ite_self]) (λx h=>?_);(try simp only[h,Em]))
      |(refine Ju (λh=>?_) (λh=>?_)<;>simp only[h,if_true,if_false,Bool.false_eq_true])
abbrev R_:=(LU×Int×Int)
abbrev K_:=S->Option R_
def H:Hd:=⟨[Si,Si,.agg [Sb,Si]],[Ov 162,Si,Si],(.seq .d (.seq .d (.cut [0,1,5,9] [] (.seq .d (.blk (.loop [0,1,5,9,19] [] .d))) (.seq .d (.seq .d (.cut [11,12] [] (.seq .d (.blk (.loop [0,5,9,11,12,28,29] [⟨11,[],.own 162 (.int .u32)⟩] (.seq .d (.seq .d (.seq (.blk (.seq .d (.seq .d (.seq .d (.cut [0,5,9,11,12,13,15,16,17,18,28,29] [] (.mode false) (.seq .d (.cut [0,5,9,11,12,16,28,29] [] .d .d))))))) .d)))))) .d)))))),kt [F159.k,F168.k,F169.k] false,[],f134⟩
def t16(a f:Int)(g:LB)(b k h:Int)(m:List (Int×Int×UInt64×UInt64×Unit))(n:LU):S:=⟨[(0,vi a),(5,.ptr 0 []),(9,.ptr 1 []),(11,.own 2),(12,vi k),(28,vi (Bo f a)),(29,vi h)],[.box 197 (.agg [vb g,vi b]),.box 194 (.val (.vec 6 (.cons (.int .i64) (.cons (.int .i64) (.cons (.int .u64) (.cons (.int .u64) .nil))))) m),Av 162 n],[]⟩
def z16:Nat->S->Option R_:=H.i P_ [r,r,r,r,r,l,r,d]
def t13(a f:Int)(g:LB)(b u:Int)(p:List (Int×Int×UInt64×UInt64×Unit)):S:=⟨[(0,vi a),(1,vi f),(5,.ptr 0 []),(9,.ptr 1 []),(19,vi u)],[.box 197 (.agg [vb g,vi b]),.box 194 (.val (.vec 6 (.cons (.int .i64) (.cons (.int .i64) (.cons (.int .u64) (.cons (.int .u64) .nil))))) p)],[]⟩
def z13:Nat->S->Option R_:=H.i P_ [r,r,l,r,d]
def x16(a f:Int)(g:LB)(b k h:Int)(m:List (Int×Int×UInt64×UInt64×Unit))(n:LU):Option R_:=H.e P_ [r,r,r,r,r,l,r,d] (t16 a f g b k h m n)
theorem i16(a f:Int)(g:LB)(b:Int):∀(q:Nat) (k h:Int) (m:List (Int×Int×UInt64×UInt64×Unit)) (n:LU),z16 q (t16 a f g b k h m n)=Ml a f g b q k h m n:=
 ind (λ_ _ _ _=>by kernel_rfl) λq ih k h m n=>Eq.trans (b:=Xy (Re (λk h m n=>(z16 q) (t16 a f g b k h m n)) a f g b) QH a f g b k h m n) F3 (by rw[YN];simp only[ih]<;>rfl)
theorem e16:x16=QV:=by funext a f g b k h m n;exact Eq.trans F3 ((i16 a f g b Ds k h m n).trans (by rw[Bg];rfl))
theorem i13(a f:Int)(g:LB)(b:Int):∀(q:Nat) (u:Int) (p:List (Int×Int×UInt64×UInt64×Unit)),z13 q (t13 a f g b u p)=Zq a f g b q u p:=
 ind (λ_ _=>by kernel_rfl) λq ih u p=>Eq.trans (b:=OM (OE x16) (λu p=>(z13 q) (t13 a f g b u p)) a f g b u p) F3 (by simp only[e16,ih]<;>rfl)
def k:Kc P_ gl:=⟨(134,⟨H.p,H.r,u4 DK⟩),co H func134 (λx=>Eq.trans (b:=u4 (DJ (λa f g b u p=>z13 Ds (t13 a f g b u p))) x) F3 (by simp only[i13,Bg]<;>rfl))⟩
end F134
namespace F172
def H:Hd:=⟨[Su],[Sx],.d,kt [] false,[],f172⟩
def k:Kc P_ gl:=⟨(172,⟨H.p,H.r,Xd⟩),co H func172⟩
end F172
namespace F193
def H:Hd:=⟨[.agg [Si,.lf (.vec 16 (.int .i32)) none,.lf (.vec 16 (.int .i32)) none],Sx],[Sx,.agg [Si,.lf (.vec 16 (.int .i32)) none,.lf (.vec 16 (.int .i32)) none],Si],.d,kt [F199.k,F200.k] false,[],f193⟩
def k:Kc P_ gl:=⟨(193,⟨H.p,H.r,u4 eE⟩),co H func193⟩
end F193
namespace F171
def PD(a:Int)(b:Int32)(f:Int)(g h:LX)(o:Int32):Option (Int32×Int×Int32×Int×LX×LX×Int):=
(Vs a b f g h).bind λk=>
if(Bf k 0)then
some (0,0,0,0,(List.replicate 16 (0:Int32)),(List.replicate 16 (0:Int32)),k)
else
(Vu a b).bind λ(m,y)=>
(eE f g h o).bind λ(n,p,u,v,w)=>
(λaa:Option (Int32×Int×Int32×Int×LX×LX×Int)=>
bo (
aa)) (
some ((Ae n m),a,(Ae n m),p,u,v,w))
theorem lU: @PD= @Ld:=by
  unfold PD Ld;simp only[ZP,KM,LC]
def H:Hd:=⟨[.agg [Si,Sx,.agg [Si,.lf (.vec 16 (.int .i32)) none,.lf (.vec 16 (.int .i32)) none]],Sx],[Sx,.agg [Si,Sx,.agg [Si,.lf (.vec 16 (.int .i32)) none,.lf (.vec 16 (.int .i32)) none]],Si],(.seq .d (.seq .d (.seq .d (.seq .d (.seq (.mode false) .d))))),kt [F183.k,F184.k,F193.k] false,[],f171⟩
def k:Kc P_ gl:=⟨(171,⟨H.p,H.r,u6 Ld⟩),co H func171 (λx=>Eq.trans (b:=u6 PD x) F3 (by simp only[lU]<;>rfl))⟩
end F171
namespace F173
abbrev R_:=(LX×Int)
abbrev K_:=S->Option R_
def H:Hd:=⟨[Si,Sw],[Ow 21,Si],(.seq .d (.seq .d (.seq .d (.cut [7] [] (.seq .d (.blk (.loop [0,7,8] [] (.seq .d (.cut [0,7,8] [] (.blk (.keep [0,7,8,24,25,26,27,28,29] true)) .d))))) .d)))),kt [F122.k,F180.k] true,[(194,(.seq .d (.cut [0,2] [] .d (.seq .d (.blk (.loop [0,3] [] .d))))))],f173⟩
def t18(b a g:Int)(h:LX):S:=⟨[(0,.view true 0 [] (.int .i32) a ((Ae a b)-a)),(3,vi g)],[Aw 21 h],[[(0,vi b),(7,.own 0),(8,vi a),(24,.own 0),(25,vi a),(26,vi a),(27,vi b),(28,vi (Ae a b)),(29,.view true 0 [] (.int .i32) a ((Ae a b)-a))]]⟩
def z18(LW:K_):Nat->S->Option R_:=H.i P_ [r,r,r,l,r,d,(lp LW),r,l,d,(call 6 194),r,r,r,d]
def t12(b a:Int)(f:LX):S:=⟨[(0,vi b),(7,.own 0),(8,vi a)],[Aw 21 f],[]⟩
def z12:Nat->S->Option R_:=H.i P_ [r,r,r,l,r,d]
def x18(LW:K_)(b a g:Int)(h:LX):Option R_:=H.e P_ [r,r,r,l,r,d,(lp LW),r,l,d,(call 6 194),r,r,r,d] (t18 b a g h)
theorem i18(LW:K_)(b a:Int):∀(q:Nat) (g:Int) (h:LX),z18 LW q (t18 b a g h)=Xb (λa f=>LW (t12 b a f)) b a q g h:=
 ind (λ_ _=>by kernel_rfl) λq ih g h=>Eq.trans (b:=MY (XW (λa f=>LW (t12 b a f)) b) (λg h=>(z18 LW q) (t18 b a g h)) b a g h) F3 (by simp only[ih]<;>rfl)
theorem e18(LW:K_)(b:Int):x18 LW b=WU (λa f=>LW (t12 b a f)) b:=by funext a g h;exact Eq.trans F3 ((i18 LW b a Ds g h).trans (by rw[Bg];rfl))
theorem i12(b:Int):∀(q:Nat) (a:Int) (f:LX),z12 q (t12 b a f)=Rh b q a f:=
 ind (λ_ _=>by kernel_rfl) λq ih a f=>Eq.trans (b:=WO (WC (x18 (z12 q) b) b) lN b a f) F3 (by simp only[e18,ih]<;>rfl)
def k:Kc P_ gl:=⟨(173,⟨H.p,H.r,u2 lY⟩),co H func173 (λx=>Eq.trans (b:=u2 (eN (λb a f=>z12 Ds (t12 b a f))) x) F3 (by simp only[i12,Bg]<;>rfl))⟩
end F173
namespace F136
def Wd(j16:Int->Int32->Int-> (List (Int×Int32×(Int×LX×LX×Unit)×Unit))->LX->Int->Int32->Int->LX->LX->Option (LX×Int))(j18:Int->Int->LX->Option (LX×Int))(f:LU)(a b g:Int)(h:List (Int×Int32×(Int×LX×LX×Unit)×Unit))(k:LX):Option (LX×Int):=
if(Cm g (Ac f))then
(Ak f g).bind λag=>
(Jm (Bf a 0)).bind λ_=>
(Ak h (Ho g a)).bind λ_=>
both (
(Ak h (Ho g a)).bind λm=>
both (
(Xd ag).bind λae=>
(λao:Option (LX×Int)=>
bo (
ao)) (
(Ld m.1 m.2.1 m.2.2.1.1 m.2.2.1.2.1 m.2.2.1.2.2.1 ae).bind λ(y,aa,w,ab,ac,ad,v)=>
j16 g y v h k aa w ab ac ad)) [
(Xd ag).bind λae=>
(Ld m.1 m.2.1 m.2.2.1.1 m.2.2.1.2.1 m.2.2.1.2.2.1 ae).bind λ(y,aa,w,ab,ac,ad,v)=>
j16 g y v h k aa w ab ac ad]) [
(Xd ag).bind λaf=>
both (
(Ak h (Ho g a)).bind λu=>
(λap:Option (LX×Int)=>
bo (
ap)) (
(Ld u.1 u.2.1 u.2.2.1.1 u.2.2.1.2.1 u.2.2.1.2.2.1 af).bind λ(y,aa,w,ab,ac,ad,v)=>
j16 g y v h k aa w ab ac ad)) [
(Ak h (Ho g a)).bind λu=>
(Ld u.1 u.2.1 u.2.2.1.1 u.2.2.1.2.1 u.2.2.1.2.2.1 af).bind λ(y,aa,w,ab,ac,ad,v)=>
j16 g y v h k aa w ab ac ad],
both (
(Ak h (Ho g a)).bind λm=>
(Xd ag).bind λae=>
(Ld m.1 m.2.1 m.2.2.1.1 m.2.2.1.2.1 m.2.2.1.2.2.1 ae).bind λ(y,aa,w,ab,ac,ad,v)=>
j16 g y v h k aa w ab ac ad) [
(Xd ag).bind λaf=>
(Ak h (Ho g a)).bind λu=>
(Ld u.1 u.2.1 u.2.2.1.1 u.2.2.1.2.1 u.2.2.1.2.2.1 af).bind λ(y,aa,w,ab,ac,ad,v)=>
j16 g y v h k aa w ab ac ad]]
else
j18 a b k
theorem UB: @Wd= @Li:=by
  unfold Wd Li
  try simp only[ZP,KM,LC]
  all_goals
    repeat (refine funext λ_=>?_)
    repeat' first
      |with_reducible rfl
      |with_reducible refine Mv ?_ ?_
      |with_reducible refine Mk ?_ ?_ ?_
      |with_reducible refine Mx ?_ ?_ ?_ ?_
      |((with_reducible refine Ro ?_ ?_);focus (intro h;first|(subst h;rfl)|(simp only[h];rfl)|(simp[Dh,Ac,h];done)))
      |with_reducible refine Qx λx=>?_
      |with_reducible refine Zs (λ_=>?_) (λ_=>?_)
      |(refine Hf (λh=>by simp only[h,Ri,Em,Ed,ite_self]) (λx h=>?_);(try simp only[h,Em]))
      |(refine Ju (λh=>?_) (λh=>?_)<;>simp only[h,if_true,if_false,Bool.false_eq_true])
abbrev R_:=(LX×Int)
abbrev K_:=S->Option R_
def H:Hd:=⟨[.agg [Si,Si],.lf (.vec 16 (.int .i32)) none,Sv],[Ow 21,Si],(.seq .d (.seq .d (.cut [2,3,8] [] (.seq .d (.blk (.loop [2,3,4,8,20] [] .d))) (.seq .d (.cut [3,10] [] (.seq .d (.blk (.loop [3,8,10,33,34,35] [⟨10,[],.own 21 (.int .i32)⟩] (.seq .d (.seq .d (.seq (.blk (.seq .d (.seq .d (.cut [3,8,10,13,14,15,16,33,34,35] [] (.mode false) .d)))) .d)))))) .d))))),kt [F137.k,F156.k,F171.k,F172.k,F173.k] false,[],f136⟩
def t13(f:LU)(a b g:Int)(h:List (Int×Int32×(Int×LX×LX×Unit)×Unit))(k:LX):S:=⟨[(3,.ptr 0 []),(8,.ptr 1 []),(10,.own 2),(33,vv f),(34,vi (Ac f)),(35,vi g)],[.box 57 (.agg [vi a,vi b]),.box 235 (.val (.vec 6 (.cons (.int .i64) (.cons (.int .i32) (.cons (.cons (.int .i64) (.cons (.vec 16 (.int .i32)) (.cons (.vec 16 (.int .i32)) .nil))) .nil)))) h),Aw 21 k],[]⟩
def z13:Nat->S->Option R_:=H.i P_ [r,r,r,r,l,r,d]
def t10(f:LU)(a b:Int)(o:LX)(p:Int)(n:List (Int×Int32×(Int×LX×LX×Unit)×Unit)):S:=⟨[(2,vv f),(3,.ptr 0 []),(4,.ptr 1 []),(8,.ptr 2 []),(20,vi p)],[.box 57 (.agg [vi a,vi b]),.box 140 (.val (.vec 16 (.int .i32)) o),.box 235 (.val (.vec 6 (.cons (.int .i64) (.cons (.int .i32) (.cons (.cons (.int .i64) (.cons (.vec 16 (.int .i32)) (.cons (.vec 16 (.int .i32)) .nil))) .nil)))) n)],[]⟩
def z10:Nat->S->Option R_:=H.i P_ [r,r,l,r,d]
def x13(f:LU)(a b g:Int)(h:List (Int×Int32×(Int×LX×LX×Unit)×Unit))(k:LX):Option R_:=H.e P_ [r,r,r,r,l,r,d] (t13 f a b g h k)
theorem i13(f:LU)(a b:Int):∀(q:Nat) (g:Int) (h:List (Int×Int32×(Int×LX×LX×Unit)×Unit)) (k:LX),z13 q (t13 f a b g h k)=Il f a b q g h k:=
 ind (λ_ _ _=>by kernel_rfl) λq ih g h k=>Eq.trans (b:=Wd (Ya (λg h k=>(z13 q) (t13 f a b g h k)) a f b) Lj f a b g h k) F3 (by rw[UB];simp only[ih]<;>rfl)
theorem e13:x13=MU:=by funext f a b g h k;exact Eq.trans F3 ((i13 f a b Ds g h k).trans (by rw[Bg];rfl))
theorem i10(f:LU)(a b:Int)(o:LX):∀(q:Nat) (p:Int) (n:List (Int×Int32×(Int×LX×LX×Unit)×Unit)),z10 q (t10 f a b o p n)=Yi f a b o q p n:=
 ind (λ_ _=>by kernel_rfl) λq ih p n=>Eq.trans (b:=MQ (MO x13) (λp n=>(z10 q) (t10 f a b o p n)) f a b o p n) F3 (by simp only[e13,ih]<;>rfl)
def k:Kc P_ gl:=⟨(136,⟨H.p,H.r,u4 Rw⟩),co H func136 (λx=>Eq.trans (b:=u4 (AH (λf a b o p n=>z10 Ds (t10 f a b o p n))) x) F3 (by simp only[i10,Bg]<;>rfl))⟩
end F136
namespace F99
def H:Hd:=⟨[.agg [Si,Si],.lf (.vec 16 (.int .i32)) none,Si,Sb],[Ow 21,Si],.d,kt [F87.k,F132.k,F133.k,F134.k,F135.k,F136.k] false,[],f99⟩
def k:Kc P_ gl:=⟨(99,⟨H.p,H.r,u5 Mj⟩),co H func99⟩
end F99
namespace F101
abbrev R_:=(LB×Int)
abbrev K_:=S->Option R_
def H:Hd:=⟨[Si,Sw],[Ob 5,Si],(.seq .d (.seq .d (.seq .d (.cut [7] [] (.seq .d (.blk (.loop [0,7,17,18,19] [⟨7,[],.own 5 (.int .u8)⟩] (.seq .d (.seq .d (.cut [0,7,17,18,19] [] (.blk (.seq .d (.cut [0,7,9,17,18,19] [] .d (.seq .d (.blk (.loop [0,7,9,17,18,19,28,29] [] .d)))))) .d)))))) .d)))),kt [F137.k] false,[],f101⟩
def t26(b:Int)(a:LX)(k:Int32)(f m:Int)(h:LB):S:=⟨[(0,vi b),(7,.own 0),(9,vx k),(17,vw a),(18,vi (Ac a)),(19,vi f),(28,vi (Cx b (8:Int))),(29,vi m)],[Ab 5 h],[]⟩
def z26(Sn:K_):Nat->S->Option R_:=H.i P_ [r,r,r,l,r,d,(lp Sn),r,r,l,d,r,r,r,d]
def t16(b:Int)(a:LX)(f:Int)(g:LB):S:=⟨[(0,vi b),(7,.own 0),(17,vw a),(18,vi (Ac a)),(19,vi f)],[Ab 5 g],[]⟩
def z16:Nat->S->Option R_:=H.i P_ [r,r,r,l,r,d]
def x26(Sn:K_)(b:Int)(a:LX)(k:Int32)(f m:Int)(h:LB):Option R_:=H.e P_ [r,r,r,l,r,d,(lp Sn),r,r,l,d,r,r,r,d] (t26 b a k f m h)
theorem i26(Sn:K_)(b:Int)(a:LX)(k:Int32)(f:Int):∀(q:Nat) (m:Int) (h:LB),z26 Sn q (t26 b a k f m h)=Is (λf g=>Sn (t16 b a f g)) b a k f q m h:=
 ind (λ_ _=>by kernel_rfl) λq ih m h=>Eq.trans (b:=Zg (KW (λf g=>Sn (t16 b a f g)) b a) (λm h=>(z26 Sn q) (t26 b a k f m h)) b a k f m h) F3 (by simp only[ih]<;>rfl)
theorem e26(Sn:K_)(b:Int)(a:LX):x26 Sn b a=LV (λf g=>Sn (t16 b a f g)) b a:=by funext k f m h;exact Eq.trans F3 ((i26 Sn b a k f Ds m h).trans (by rw[Bg];rfl))
theorem i16(b:Int)(a:LX):∀(q:Nat) (f:Int) (g:LB),z16 q (t16 b a f g)=Gb b a q f g:=
 ind (λ_ _=>by kernel_rfl) λq ih f g=>Eq.trans (b:=Zj (KL (x26 (z16 q) b a) b a) ZS b a f g) F3 (by simp only[e26,ih]<;>rfl)
def k:Kc P_ gl:=⟨(101,⟨H.p,H.r,u2 Qs⟩),co H func101 (λx=>Eq.trans (b:=u2 (PX (λb a f g=>z16 Ds (t16 b a f g))) x) F3 (by simp only[i16,Bg]<;>rfl))⟩
end F101
namespace F150
abbrev R_:=Int
def H:Hd:=⟨[Sl,Si],[Si],(.seq .d (.cut [] [] (.seq .d (.blk (.loop [0,1,7,8] [] .d))) .d)),kt [] false,[],f150⟩
def t4(a:LI)(b f:Int):S:=⟨[(0,vl a),(1,vi b),(7,vi (Ac a)),(8,vi f)],[],[]⟩
def z4:Nat->S->Option R_:=H.i P_ [r,l,r,d]
theorem i4(a:LI)(b:Int):∀(q:Nat) (f:Int),z4 q (t4 a b f)=Bt a b q f:=
 ind (λ_=>by kernel_rfl) λq ih f=>Eq.trans (b:=Dw Lz (λf=>(z4 q) (t4 a b f)) a b f) F3 (by simp only[ih]<;>rfl)
def k:Kc P_ gl:=⟨(150,⟨H.p,H.r,u2 Ia⟩),co H func150 (λx=>Eq.trans (b:=u2 (Gy (λa b f=>z4 Ds (t4 a b f))) x) F3 (by simp only[i4,Bg]<;>rfl))⟩
end F150
namespace F118
def H:Hd:=⟨[Sl,Si],[Sz],.d,kt [F150.k] false,[],f118⟩
def k:Kc P_ gl:=⟨(118,⟨H.p,H.r,u2 Gu⟩),co H func118⟩
end F118
namespace F78
def H:Hd:=⟨[Si],[Sz],.d,kt [F118.k] false,[],f78⟩
def k:Kc P_ gl:=⟨(78,⟨H.p,H.r,Pc⟩),co H func78⟩
end F78
namespace F40
def Zl(j28:Bool->Int->Option Int)(y ac:Int)(g a:LB)(h p m u v b:Int)(n:Bool)(o:Int)(ak:LX)(f:LI)(k:LB):Option Int:=
if(Bf ac 0)then
(Ah ac).bind λ(bi,bj)=>
j28 bi bj
else
(Qs m ak).bind λ(bk,bb)=>
if(Bf bb 0)then
(Ah bb).bind λ(bl,bm)=>
j28 bl bm
else
(Dh k bk).bind λdv=>
(λfa:Option Int=>
bo (
fa)) (
(Bl a y (Ac a)).bind λdw=>
j28 false 0)
theorem aO: @Zl= @Ut:=by
  unfold Zl Ut;simp only[ZP,KM,LC]
def CD(j13:Bool->Int->Option Int)(j12:LB->LB->Int->Int->Int->Int->Int->Int->Bool->Int->LI->LB->Option Int)(j25:Bool->Int->Option Int)(j23:LB->LB->Int->Int->Int->Int->Int->Int->Bool->Int->LI->LB->Option Int)(j24:LB->LB->Int->Int->Int->Int->Int->Int->Bool->Int->LI->LB->Int->Option Int)(j28:Bool->Int->Option Int)(j26:Int->LB->LB->Int->Int->Int->Int->Int->Int->Bool->Int->LX->LI->LI->LB->Option Int)(j22:Bool->Option Int)(j21:Option Int)(al am:LB)(an ao ap aq ar:Int)(au:LI)(ad:Int)(ae:LB)(aa:Bool)(w:Int):Option Int:=
if(Dm (Ac al) 64)then
some 8
else
if((geq w 0)&&(!aa))then
(Dk al am an ao ap aq ar au ad ae aa w).bind λ(g,a,h,p,m,u,v,f,b,k,n,o)=>
(Wr al am an ao ap aq ar au ad ae aa w).bind λbn=>
if bn then
if(geq h 0)then
(Iq a).bind λ(ah,av)=>
if(geq av 24)then
j13 true 0
else
if(Bf av 0)then
(Ah av).bind λ(bp,bq)=>
j13 bp bq
else
(Bl a ah (Ac a)).bind λbr=>
(Oy br).bind λaj=>
if aj then
j13 true 0
else
(Bl a ah (Ac a)).bind λbs=>
(Ma bs).bind λ(ay,az,ab,ba,af,aw)=>
if(geq aw 24)then
j13 true 0
else
if(Bf aw 0)then
(Ah aw).bind λ(bt,bu)=>
j13 bt bu
else
both (
(Bl a (Ae ah 22) (Ac a)).bind λax=>
(λfb:Option Int=>
bo (
fb)) (
j12 g ax ay az ab ba af b n o f k)) [
(Bl a (Ae ah 22) (Ac a)).bind λax=>
j12 g ax ay az ab ba af b n o f k]
else
if(geq (Ac f) 0)then
if(geq h 2)then
if(Cm (Ac a) 8)then
j25 true 0
else
j23 g a h p m u v b n o f k
else
j24 g a h p m u v b n o f k 0
else
if(Cm b (Ac f))then
(Ak f b).bind λ_=>
(Ak f b).bind λy=>
if(Cm (Ac a) y)then
j28 true 0
else
(Qo g).bind λ(bc,ai)=>
if(Bf ai 0)then
(Ah ai).bind λ(bv,bw)=>
j28 bv bw
else
(De h p m u v).bind λ(ag,bx)=>
if((Bf bx 0)||(Mf b (Ac ag)))then
(Ah 8).bind λ(bz,da)=>
j28 bz da
else
j26 y g a h p m u v b n o bc ag f k
else
if(Dm (Ac a) 4000)then
(Ah 38).bind λ(db,bd)=>
j22 ((db==true)&&((geq bd 0)&&true))
else
j21
else
j22 false
else
if((geq (Ac am) 0)&&(geq (Ac au) 0))then
if((((geq an 0)&&((geq ao 0)&&((geq ap 0)&&((geq aq 0)&&((geq ar 0)&&true)))))&&(geq ad 0))&&(xI (Ac ae) 12000))then
if(geq w 0)then
j22 true
else
if(!aa)then
(Pc w).bind λdc=>
j22 dc
else
j22 false
else
j22 false
else
if((false&&(geq ad 0))&&(xI (Ac ae) 12000))then
if(geq w 0)then
j22 true
else
if(!aa)then
(Pc w).bind λdd=>
j22 dd
else
j22 false
else
j22 false
theorem eJ: @CD= @Xa:=by
  unfold CD Xa
  try simp only[ZP,KM,LC]
  all_goals
    repeat (refine funext λ_=>?_)
    repeat' first
      |with_reducible rfl
      |with_reducible refine Mv ?_ ?_
      |with_reducible refine Mk ?_ ?_ ?_
      |with_reducible refine Mx ?_ ?_ ?_ ?_
      |((with_reducible refine Ro ?_ ?_);focus (intro h;first|(subst h;rfl)|(simp only[h];rfl)|(simp[Dh,Ac,h];done)))
      |with_reducible refine Qx λx=>?_
      |with_reducible refine Zs (λ_=>?_) (λ_=>?_)
      |(refine Hf (λh=>by simp only[h,Ri,Em,Ed,ite_self]) (λx h=>?_);(try simp only[h,Em]))
      |(refine Ju (λh=>?_) (λh=>?_)<;>simp only[h,if_true,if_false,Bool.false_eq_true])
abbrev R_:=Int
def H:Hd:=⟨[.agg [Ss,Sb,.agg [Si,Si,Si,Si,Si],Sl,Si,Sb,Sz,Si]],[Si],(.seq .d (.seq .d (.seq .d (.cut [3] [] (.seq .d (.cond (.seq .d (.keep [3,21,22,23,24,25] false)) .d)) .d)))),kt [F34.k,F64.k,⟨(66,Ze),QN⟩,F67.k,F77.k,F78.k,F89.k,F94.k,F95.k,F96.k,F97.k,F98.k,F99.k,F100.k,F101.k] false,[(33,(.seq .d (.cut [2] [] (.blk (.seq .d (.cond (.cut [2] [] (.keep [2,11] true) .d) (.seq .d (.cond (.cut [2] [] (.keep [2,20] true) .d) (.seq .d (.cond (.cut [2] [] (.keep [2,33] true) .d) .d))))))) .d))),(61,(.seq .d (.seq .d (.seq .d (.seq .d (.seq .d (.cut [0,2,5] [] (.mode false) .d))))))),(62,(.seq .d (.seq .d (.cut [0,2,3] [⟨0,[1],.ro (.int .u8)⟩] (.seq .d (.cond (.seq .d (.cut [0,2,3] [⟨0,[1],.ro (.int .u8)⟩,⟨9,[1],.ro (.int .u8)⟩,⟨10,[1],.ro (.int .u8)⟩,⟨15,[1],.ro (.int .u8)⟩,⟨16,[1],.ro (.int .u8)⟩,⟨18,[],.ro (.int .u8)⟩] .d (.cut [0,2,3,4,5] [] .d .d))) .d)) .d)))),(63,(.seq .d (.seq .d (.seq .d (.seq .d (.seq .d (.seq .d (.cut [0,2,3,4,6] [⟨0,[1],.ro (.int .u8)⟩,⟨9,[1],.ro (.int .u8)⟩,⟨10,[1],.ro (.int .u8)⟩,⟨13,[1],.ro (.int .u8)⟩,⟨14,[1],.ro (.int .u8)⟩,⟨19,[1],.ro (.int .u8)⟩,⟨20,[1],.ro (.int .u8)⟩,⟨22,[],.ro (.int .u8)⟩,⟨28,[1],.ro (.int .u8)⟩,⟨29,[1],.ro (.int .u8)⟩,⟨40,[1],.ro (.int .u8)⟩,⟨41,[1],.ro (.int .u8)⟩] .d (.cut [0,2,3,5,7] [] .d (.seq .d (.seq .d (.seq .d (.seq .d (.seq (.mode false) .d))))))))))))))],f40⟩
def x27(y ac:Int)(g a:LB)(h p m u v b:Int)(n:Bool)(o:Int)(ak:LX)(f:LI)(k:LB):Option R_:=H.e P_ [r,r,r,l,r,l,r,(dcall 3 33 3 #[true,true,true,true,true,true,true,true] #[true,true,true,true,true,false,false,false]),r,l,d,r,r,r,r,r,l,l,(call 1 63),r,r,r,r,r,r,r,r] ⟨[(0,.ptr 0 []),(2,.ptr 1 []),(3,vi y),(5,vi ac),(7,.own 2)],[.box 32 (.agg [vs g,vb a,.agg [vi h,vi p,vi m,vi u,vi v],.own 4,vi b,.own 5,vt n,vi o]),.box 79 (.agg [vt false,vi 0]),Aw 21 ak,.box 79 (.agg [vt false,vi 0]),Ai 3 f,Ab 5 k],[[(2,.ptr 3 [])],[(3,vt false),(21,.cst (.bool true)),(23,.agg [vt true,vi 0])]]⟩
theorem e27:x27=EZ:=Eq.trans (b:=Zl Ff) F3 (by rw[aO];rfl)
def k:Kc P_ gl:=⟨(40,⟨H.p,H.r,u12 Gc⟩),co H func40 (λx=>Eq.trans (b:=u12 (CD Dv Uh Ib Uf Ik Ff (DO x27) Bm Uq) x) F3 (by rw[eJ];simp only[e27]<;>rfl))⟩
end F40
namespace F32
def DQ(f g:LB)(h k m n o:Int)(p:LI)(u:Int)(v:LB)(b:Bool)(a:Int):Option (LB×LB×Int×Int×Int×Int×Int×LI×Int×LB×Bool×Int×Int):=
(Gc f g h k m n o p u v b a).bind λw=>
if(Bf w 0)then
some (([]:LB),([]:LB),0,0,0,0,0,([]:LI),0,([]:LB),false,0,w)
else
if(Bf a 0)then
(λbl:Option (LB×LB×Int×Int×Int×Int×Int×LI×Int×LB×Bool×Int×Int)=>
both (
both (
(Dk f g h k m n o p u v b a).bind λ(y,aa,ab,ac,ad,ae,af,ag,ah,ai,aj,ak)=>
(λbm:Option (LB×LB×Int×Int×Int×Int×Int×LI×Int×LB×Bool×Int×Int)=>
bo (
bm)) (
some (y,aa,ab,ac,ad,ae,af,ag,ah,ai,aj,ak,a))) [
bl]) [
bl]) (
(Dk f g h k m n o p u v b a).bind λ(y,aa,ab,ac,ad,ae,af,ag,ah,ai,aj,ak)=>
some (y,aa,ab,ac,ad,ae,af,ag,ah,ai,aj,ak,a))
else
if b then
(Dk f g h k m n o p u v b a).bind λ(al,am,an,ao,ap,aq,ar,au,av,aw,ax,ay)=>
some (al,am,an,ao,ap,aq,ar,au,av,aw,ax,ay,36)
else
(Dk f g h k m n o p u v b a).bind λ(az,ba,bb,bc,bd,be,bf,bg,bh,bi,bj,bk)=>
some (az,ba,bb,bc,bd,be,bf,bg,bh,bi,bj,bk,0)
theorem dP: @DQ= @Pj:=by
  unfold DQ Pj
  try simp only[ZP,KM,LC]
  all_goals
    repeat (refine funext λ_=>?_)
    repeat' first
      |with_reducible rfl
      |with_reducible refine Mv ?_ ?_
      |with_reducible refine Mk ?_ ?_ ?_
      |with_reducible refine Mx ?_ ?_ ?_ ?_
      |((with_reducible refine Ro ?_ ?_);focus (intro h;first|(subst h;rfl)|(simp only[h];rfl)|(simp[Dh,Ac,h];done)))
      |with_reducible refine Qx λx=>?_
      |with_reducible refine Zs (λ_=>?_) (λ_=>?_)
      |(refine Hf (λh=>by simp only[h,Ri,Em,Ed,ite_self]) (λx h=>?_);(try simp only[h,Em]))
      |(refine Ju (λh=>?_) (λh=>?_)<;>simp only[h,if_true,if_false,Bool.false_eq_true])
def H:Hd:=⟨[.agg [Ss,Sb,.agg [Si,Si,Si,Si,Si],Sl,Si,Sb,Sz,Si]],[.agg [Ss,Ob 5,.agg [Si,Si,Si,Si,Si],Ol 3,Si,Ob 5,Sz,Si],Si],(.seq .d (.seq .d (.seq (.blk (.seq .d (.cond (.seq (.mode false) .d) .d))) .d))),kt [F34.k,F40.k] false,[],f32⟩
def k:Kc P_ gl:=⟨(32,⟨H.p,H.r,u12 Pj⟩),co H func32 (λx=>Eq.trans (b:=u12 DQ x) F3 (by simp only[dP]<;>rfl))⟩
end F32
namespace F35
def H:Hd:=⟨[.agg [Ss,Sb,.agg [Si,Si,Si,Si,Si],Sl,Si,Sb,Sz,Si],Si],[.agg [Ss,Ob 5,.agg [Si,Si,Si,Si,Si],Ol 3,Si,Sb,Sz,Si],Si],.d,kt [] false,[],f35⟩
def k:Kc P_ gl:=⟨(35,⟨H.p,H.r,u13 YM⟩),co H func35⟩
end F35
namespace F13
def FB(j78:Int->Int->Int->Int->Int->LI->Bool->Int->LB->Int->LB->Option (LB×LB×Int×Int×Int×Int×Int×LI×Int×LB×Bool×Int×Int))(a:LB)(b:Bool)(f w ab:Int)(g:LB)(m o n p u h:Int)(am:LX)(k:LI)(v:LB):Option (LB×LB×Int×Int×Int×Int×Int×LI×Int×LB×Bool×Int×Int):=
if(Bf ab 0)then
(Ah ab).bind λ(br,bs)=>
j78 m o n p u k br bs g h v
else
(Qs n am).bind λ(bt,af)=>
if(Bf af 0)then
(Ah af).bind λ(bu,bv)=>
j78 m o n p u k bu bv g h v
else
(Dh v bt).bind λbw=>
(λhb:Option (LB×LB×Int×Int×Int×Int×Int×LI×Int×LB×Bool×Int×Int)=>
bo (
hb)) (
(Bl g w (Ac g)).bind λbx=>
j78 m o n p u k false 0 bx (Ae h 1) bw)
theorem bQ: @FB= @Wz:=by
  unfold FB Wz;simp only[ZP,KM,LC]
def CC(j62:Int->LI->LB->Bool->Int->LB->Int->Int->Int->Int->Int->Option (LB×LB×Int×Int×Int×Int×Int×LI×Int×LB×Bool×Int×Int))(j61:LB->Int->Int->Int->Int->Int->Int->LI->LB->Option (LB×LB×Int×Int×Int×Int×Int×LI×Int×LB×Bool×Int×Int))(j75:Int->Int->Int->Int->Int->Int->LB->Bool->Int->LB->LI->Option (LB×LB×Int×Int×Int×Int×Int×LI×Int×LB×Bool×Int×Int))(j73:LB->Int->Int->Int->Int->Int->Int->LI->LB->Option (LB×LB×Int×Int×Int×Int×Int×LI×Int×LB×Bool×Int×Int))(j74:LB->Int->Int->Int->Int->Int->Int->LI->LB->Int->Option (LB×LB×Int×Int×Int×Int×Int×LI×Int×LB×Bool×Int×Int))(j78:Int->Int->Int->Int->Int->LI->Bool->Int->LB->Int->LB->Option (LB×LB×Int×Int×Int×Int×Int×LI×Int×LB×Bool×Int×Int))(j76:Int->LB->Int->Int->Int->Int->Int->Int->LX->LI->LI->LB->Option (LB×LB×Int×Int×Int×Int×Int×LI×Int×LB×Bool×Int×Int))(j71:LB->Int->Int->Int->Int->Int->Int->Bool->Int->LI->LB->Option (LB×LB×Int×Int×Int×Int×Int×LI×Int×LB×Bool×Int×Int))(j70:LB->Int->Int->Int->Int->Int->Int->LI->LB->Option (LB×LB×Int×Int×Int×Int×Int×LI×Int×LB×Bool×Int×Int))(a:LB)(b:Bool)(f:Int)(g:LB)(m o n p u h:Int)(k:LI)(v:LB):Option (LB×LB×Int×Int×Int×Int×Int×LI×Int×LB×Bool×Int×Int):=
if(geq m 0)then
(Iq g).bind λ(ad,an)=>
if(geq an 24)then
j62 h k v true 0 g m o n p u
else
if(Bf an 0)then
(Ah an).bind λ(bz,da)=>
j62 h k v bz da g m o n p u
else
(Bl g ad (Ac g)).bind λdb=>
(Oy db).bind λal=>
if al then
j62 h k v true 0 g m o n p u
else
(Bl g ad (Ac g)).bind λdc=>
(Ma dc).bind λ(ah,ai,y,aj,aa,ao)=>
if(geq ao 24)then
j62 h k v true 0 g m o n p u
else
if(Bf ao 0)then
(Ah ao).bind λ(dd,de)=>
j62 h k v dd de g m o n p u
else
both (
(Bl g (Ae ad 22) (Ac g)).bind λag=>
bo (
j61 ag ah ai y aj aa h k v)) [
(Bl g (Ae ad 22) (Ac g)).bind λag=>
j61 ag ah ai y aj aa h k v]
else
if(geq (Ac k) 0)then
if(geq m 2)then
if(Cm (Ac g) 8)then
j75 m o n p u h v true 0 g k
else
j73 g m o n p u h k v
else
j74 g m o n p u h k v 0
else
if(Cm h (Ac k))then
(Ak k h).bind λ_=>
(Ak k h).bind λw=>
if(Cm (Ac g) w)then
j78 m o n p u k true 0 g h v
else
(Qo a).bind λ(aq,ak)=>
if(Bf ak 0)then
(Ah ak).bind λ(df,dg)=>
j78 m o n p u k df dg g h v
else
(De m o n p u).bind λ(ac,dh)=>
if((Bf dh 0)||(Mf h (Ac ac)))then
(Ah 8).bind λ(di,ap)=>
j78 m o n p u k di ap g h v
else
j76 w g m o n p u h aq ac k v
else
if(Dm (Ac g) 4000)then
(Ah 38).bind λ(dj,ae)=>
j71 g m o n p u h dj ae k v
else
j70 g m o n p u h k v
theorem dW: @CC= @Hj:=by
  unfold CC Hj
  repeat (refine funext λ_=>?_)
  repeat' first
    |with_reducible rfl
    |with_reducible refine Mv ?_ ?_
    |with_reducible refine Mk ?_ ?_ ?_
    |with_reducible refine Mx ?_ ?_ ?_ ?_
    |((with_reducible refine Ro ?_ ?_);focus (intro h;first|(subst h;rfl)|(simp only[h];rfl)|(simp[Dh,Ac,h];done)))
    |with_reducible refine Qx λx=>?_
    |with_reducible refine Zs (λ_=>?_) (λ_=>?_)
    |(refine Hf (λh=>by simp only[h,Ri,Em,Ed,ite_self]) (λx h=>?_);(try simp only[h,Em]))
    |(refine Ju (λh=>?_) (λh=>?_)<;>simp only[h,if_true,if_false,Bool.false_eq_true])
abbrev R_:=(LB×LB×Int×Int×Int×Int×Int×LI×Int×LB×Bool×Int×Int)
abbrev K_:=S->Option R_
def H:Hd:=⟨[.agg [Ss,Sb,.agg [Si,Si,Si,Si,Si],Sl,Si,Sb,Sz,Si],Sb],[.agg [Ss,Ob 5,.agg [Si,Si,Si,Si,Si],Ol 3,Si,Sb,Sz,Si],Si],(.seq .d (.seq .d (.seq .d (.seq .d (.blk (.loop [2,4] [⟨2,[1],.ro (.int .u8)⟩] (.blk (.cut [2,4,7] [] (.keep [2,4,7,22] true) .d)))))))),kt [F32.k,F34.k,F35.k,F64.k,⟨(66,Ze),QN⟩,F67.k,F89.k,F94.k,F95.k,F96.k,F97.k,F98.k,F99.k,F100.k,F101.k] false,[(33,(.seq .d (.cut [2] [] (.blk (.seq .d (.cond (.cut [2] [] (.keep [2,11] true) .d) (.seq .d (.cond (.cut [2] [] (.keep [2,20] true) .d) (.seq .d (.cond (.cut [2] [] (.keep [2,33] true) .d) .d))))))) .d))),(61,(.seq .d (.seq .d (.seq .d (.seq .d (.seq .d (.cut [0,2,5] [] (.mode false) .d))))))),(62,(.seq .d (.seq .d (.cut [0,2,3] [] (.seq .d (.cond (.seq .d (.cut [0,2,3] [⟨0,[1],.ro (.int .u8)⟩,⟨9,[1],.ro (.int .u8)⟩,⟨10,[1],.ro (.int .u8)⟩,⟨15,[1],.ro (.int .u8)⟩,⟨16,[1],.ro (.int .u8)⟩,⟨18,[],.ro (.int .u8)⟩] .d (.cut [0,2,3,4,5] [] .d .d))) .d)) .d)))),(63,(.seq .d (.seq .d (.seq .d (.seq .d (.seq .d (.seq .d (.cut [0,2,3,4,6] [⟨0,[1],.ro (.int .u8)⟩,⟨9,[1],.ro (.int .u8)⟩,⟨10,[1],.ro (.int .u8)⟩,⟨13,[1],.ro (.int .u8)⟩,⟨14,[1],.ro (.int .u8)⟩,⟨19,[1],.ro (.int .u8)⟩,⟨20,[1],.ro (.int .u8)⟩,⟨22,[],.ro (.int .u8)⟩,⟨28,[1],.ro (.int .u8)⟩,⟨29,[1],.ro (.int .u8)⟩,⟨40,[1],.ro (.int .u8)⟩,⟨41,[1],.ro (.int .u8)⟩] .d (.cut [0,2,3,5,7] [] .d (.seq .d (.seq .d (.seq .d (.seq .d (.seq (.mode false) .d))))))))))))))],f13⟩
def t37(a:LB)(b:Bool)(f:Int)(g:LB)(m o n p u h:Int)(k:LI)(v:LB):S:=⟨[(2,.ptr 0 []),(4,.ptr 1 [])],[.box 32 (.agg [vs a,vb g,.agg [vi m,vi o,vi n,vi p,vi u],.own 2,vi h,.own 3,vt b,vi f]),.box 32 (.agg [vs ([]:LB),.nils,.agg [vi 0,vi 0,vi 0,vi 0,vi 0],.nils,vi 0,.nils,vt false,vi 0]),Ai 3 k,Ab 5 v],[]⟩
def z37:Nat->S->Option R_:=H.i P_ [r,r,r,r,d]
def x75(kR:K_)(a:LB)(b:Bool)(f m o n p u h:Int)(v:LB)(bf:Bool)(bg:Int)(bh:LB)(bi:LI):Option R_:=H.e P_ [r,r,r,r,d,(lp kR),d,l,(call 0 33),r,l,d,r,r,r,l,r] ⟨[(2,.ptr 0 [])],[.box 79 (.agg [vt bf,vi bg]),.box 32 (.agg [vs a,vb bh,.agg [vi m,vi o,vi n,vi p,vi u],.own 3,vi h,.own 4,vt b,vi f]),.box 32 (.agg [vs ([]:LB),.nils,.agg [vi 0,vi 0,vi 0,vi 0,vi 0],.nils,vi 0,.nils,vt false,vi 0]),Ai 3 bi,Ab 5 v],[[(2,.ptr 1 []),(4,.ptr 2 [])]]⟩
def x78(kR:K_)(a:LB)(b:Bool)(f m o n p u:Int)(k:LI)(bl:Bool)(bm:Int)(bn:LB)(bp:Int)(bq:LB):Option R_:=H.e P_ [r,r,r,r,d,(lp kR),d,l,(call 0 33),r,l,d,r,r,r,r,r,l,r] ⟨[(2,.ptr 0 [])],[.box 79 (.agg [vt bl,vi bm]),.box 32 (.agg [vs a,vb bn,.agg [vi m,vi o,vi n,vi p,vi u],.own 3,vi bp,.own 4,vt b,vi f]),.box 32 (.agg [vs ([]:LB),.nils,.agg [vi 0,vi 0,vi 0,vi 0,vi 0],.nils,vi 0,.nils,vt false,vi 0]),Ai 3 k,Ab 5 bq],[[(2,.ptr 1 []),(4,.ptr 2 [])]]⟩
def x77(kR:K_)(a:LB)(b:Bool)(f w ab:Int)(g:LB)(m o n p u h:Int)(am:LX)(k:LI)(v:LB):Option R_:=H.e P_ [r,r,r,r,d,(lp kR),d,l,(call 0 33),r,l,d,r,r,r,r,r,l,l,(call 1 63),r,r,r,r,r,r,r,r] ⟨[(0,.ptr 0 []),(2,.ptr 1 []),(3,vi w),(5,vi ab),(7,.own 2)],[.box 32 (.agg [vs a,vb g,.agg [vi m,vi o,vi n,vi p,vi u],.own 5,vi h,.own 6,vt b,vi f]),.box 79 (.agg [vt false,vi 0]),Aw 21 am,.box 79 (.agg [vt false,vi 0]),.box 32 (.agg [vs ([]:LB),.nils,.agg [vi 0,vi 0,vi 0,vi 0,vi 0],.nils,vi 0,.nils,vt false,vi 0]),Ai 3 k,Ab 5 v],[[(2,.ptr 3 [])],[(2,.ptr 0 []),(4,.ptr 4 [])]]⟩
theorem e75(kR:K_)(a:LB)(b:Bool)(f:Int):x75 kR a b f=Jt (λg m o n p u h k v=>kR (t37 a b f g m o n p u h k v)) a b f:=F3
theorem e78(kR:K_)(a:LB)(b:Bool)(f:Int):x78 kR a b f=Me (λg m o n p u h k v=>kR (t37 a b f g m o n p u h k v)) a b f:=F3
theorem e77(kR:K_)(a:LB)(b:Bool)(f:Int):x77 kR a b f=HA (λg m o n p u h k v=>kR (t37 a b f g m o n p u h k v)) a b f:=Eq.trans (b:=FB (x78 kR a b f) a b f) F3 (by rw[bQ];simp only[e78]<;>rfl)
theorem i37(a:LB)(b:Bool)(f:Int):∀(q:Nat) (g:LB) (m o n p u h:Int) (k:LI) (v:LB),z37 q (t37 a b f g m o n p u h k v)=Bc a b f q g m o n p u h k v:=
 ind (λ_ _ _ _ _ _ _ _ _=>by kernel_rfl) λq ih g m o n p u h k v=>Eq.trans (b:=CC (Mg (λg m o n p u h k v=>(z37 q) (t37 a b f g m o n p u h k v)) a b f) (Pw (λg m o n p u h k v=>(z37 q) (t37 a b f g m o n p u h k v)) a b f) (x75 (z37 q) a b f) (GM (HK (x75 (z37 q) a b f) (Xj (x75 (z37 q) a b f) a b f) a b f) a b f) (Xj (x75 (z37 q) a b f) a b f) (x78 (z37 q) a b f) (GL (x77 (z37 q) a b f) a b f) (By (λg m o n p u h k v=>(z37 q) (t37 a b f g m o n p u h k v)) a b f) (Xc (λg m o n p u h k v=>(z37 q) (t37 a b f g m o n p u h k v)) a b f) a b f g m o n p u h k v) F3 (by rw[dW];simp only[e75,e78,e77,ih]<;>rfl)
def k:Kc P_ gl:=⟨(13,⟨H.p,H.r,u13 Fh⟩),co H func13 (λx=>Eq.trans (b:=u13 (Se (λa b f g m o n p u h k v=>z37 Ds (t37 a b f g m o n p u h k v))) x) F3 (by simp only[i37,Bg]<;>rfl))⟩
end F13
namespace F21
def H:Hd:=⟨[.agg [Ss,Sb,.agg [Si,Si,Si,Si,Si],Sl,Si,Sb,Sz,Si]],[Si,Si],.d,kt [F40.k] false,[],f21⟩
def k:Kc P_ gl:=⟨(21,⟨H.p,H.r,u12 Mm⟩),co H func21⟩
end F21
namespace F39
def H:Hd:=⟨[Sb],[Si],.d,kt [F11.k,F13.k,F21.k] false,[],f39⟩
def k:Kc P_ gl:=⟨(39,⟨H.p,H.r,Zn⟩),co H func39⟩
end F39
namespace F17
def H:Hd:=⟨[],[Sz],.d,kt [F22.k,F38.k,F39.k] false,[],f17⟩
def k:Kc P_ gl:=⟨(17,⟨H.p,H.r,λ_=>Qv⟩),co H func17⟩
end F17
namespace F8
def H:Hd:=⟨[Sb],[Sz],.d,kt [] false,[],f8⟩
def k:Kc P_ gl:=⟨(8,⟨H.p,H.r,ED⟩),co H func8⟩
end F8
namespace F109
abbrev R_:=(Int×Int)
def H:Hd:=⟨[Sb],[Si,Si],(.seq .d (.seq .d (.cut [0,4] [] .d .d))),kt [F130.k,F144.k,F145.k,F146.k] false,[],f109⟩
def k:Kc P_ gl:=⟨(109,⟨H.p,H.r,lR⟩),co H func109⟩
end F109
namespace F68
abbrev R_:=(Int×Int)
abbrev K_:=S->Option R_
def H:Hd:=⟨[Sb],[Si,Si],(.seq .d (.seq .d (.seq .d (.seq .d (.cut [5] [] (.blk (.loop [1,4,5] [] (.seq .d (.cut [1,4,5] [] (.blk (.cut [1,4,5,6] [] (.keep [1,4,5,6,16,17] true) .d)) .d)))) .d))))),kt [F109.k] false,[(108,.d)],f68⟩
def t8(a:Int)(b:LB):S:=⟨[(1,.ptr 0 []),(4,.fn 108 [.ptr 0 []]),(5,vi a)],[.box 22 (vb b)],[]⟩
def z8:Nat->S->Option R_:=H.i P_ [r,r,r,r,l,d]
theorem i8:∀(q:Nat) (a:Int) (b:LB),z8 q (t8 a b)=Rt q a b:=
 ind (λ_ _=>by kernel_rfl) λq ih a b=>Eq.trans (b:=LN (GZ (λa b=>(z8 q) (t8 a b))) VN a b) F3 (by simp only[ih]<;>rfl)
def k:Kc P_ gl:=⟨(68,⟨H.p,H.r,DB⟩),co H func68 (λx=>Eq.trans (b:=LD (λa b=>z8 Ds (t8 a b)) x) F3 (by simp only[i8,Bg]<;>rfl))⟩
end F68
namespace F36
def H:Hd:=⟨[.agg [Ss,Sb,.agg [Si,Si,Si,Si,Si],Sl,Si,Sb,Sz,Si]],[Si],.d,kt [⟨(66,Ze),QN⟩,F67.k,F68.k] false,[],f36⟩
def k:Kc P_ gl:=⟨(36,⟨H.p,H.r,u12 Vp⟩),co H func36⟩
end F36
namespace F14
def H:Hd:=⟨[.agg [Ss,Sb,.agg [Si,Si,Si,Si,Si],Sl,Si,Sb,Sz,Si]],[.agg [Ss,Ob 5,.agg [Si,Si,Si,Si,Si],Ol 3,Si,Sb,Sz,Si],Si],.d,kt [F32.k,F35.k,F36.k] false,[],f14⟩
def k:Kc P_ gl:=⟨(14,⟨H.p,H.r,u12 Gz⟩),co H func14⟩
end F14
namespace F5
abbrev R_:=Bool
abbrev K_:=S->Option R_
def H:Hd:=⟨[Ss,Sb,Sl],[Sz],(.seq .d (.seq .d (.cut [0,1,2,7] [] .d (.seq .d (.seq .d (.seq .d (.cut [7,8] [] (.seq .d (.blk (.loop [1,2,7,8,10,11] [⟨8,[5],.ro (.int .u8)⟩] (.seq .d (.cut [1,2,7,8,10,11] [] (.blk (.seq .d (.cut [1,2,7,8,10,11,12] [] .d (.cut [1,2,7,8,10,11,12] [] (.mode false) (.seq .d (.seq .d (.cut [1,2,7,8,10,11,13] [] (.seq .d (.blk (.loop [1,2,7,8,10,11,13,14] [] .d))) (.seq .d (.seq .d (.seq .d (.cut [1,2,7,8,10,11,15] [] .d .d))))))))))) .d))))) .d))))))),kt [F8.k,F11.k,F13.k,F14.k,F17.k,F21.k,F22.k] false,[],f5⟩
def t44(f:LB)(b:LI)(a:Bool)(g w k:Int)(y:LB)(o p u aa v m:Int)(ab:LB)(ac:Bool)(n:Int)(ad:LB)(h:LI)(aq ar:Int):S:=⟨[(1,vb f),(2,vl b),(7,vt a),(8,.ptr 0 []),(10,vi (Ae g w)),(11,vi k),(13,vi aq),(14,vi ar)],[.box 32 (.agg [vs y,.own 1,.agg [vi o,vi p,vi u,vi aa,vi v],.own 2,vi m,vb ab,vt ac,vi n]),Ab 5 ad,Ai 3 h],[]⟩
def z44(So:K_):Nat->S->Option R_:=H.i P_ [r,r,r,r,r,r,l,r,d,(lp So),r,l,d,r,r,r,r,r,l,r,d]
def t27(f:LB)(b:LI)(a:Bool)(g k:Int)(ae:LB)(af ag ah ai aj ak:Int)(al:LB)(am:Bool)(an:Int)(ao:LB)(ap:LI):S:=⟨[(1,vb f),(2,vl b),(7,vt a),(8,.ptr 0 []),(10,vi g),(11,vi k)],[.box 32 (.agg [vs ae,.own 1,.agg [vi af,vi ag,vi ah,vi ai,vi aj],.own 2,vi ak,vb al,vt am,vi an]),Ab 5 ao,Ai 3 ap],[]⟩
def z27:Nat->S->Option R_:=H.i P_ [r,r,r,r,r,r,l,r,d]
def x44(So:K_)(f:LB)(b:LI)(a:Bool)(g w k:Int)(y:LB)(o p u aa v m:Int)(ab:LB)(ac:Bool)(n:Int)(ad:LB)(h:LI)(aq ar:Int):Option R_:=H.e P_ [r,r,r,r,r,r,l,r,d,(lp So),r,l,d,r,r,r,r,r,l,r,d] (t44 f b a g w k y o p u aa v m ab ac n ad h aq ar)
theorem i44(So:K_)(f:LB)(b:LI)(a:Bool)(g w k:Int)(y:LB)(o p u aa v m:Int)(ab:LB)(ac:Bool)(n:Int)(ad:LB)(h:LI):∀(q:Nat) (aq ar:Int),z44 So q (t44 f b a g w k y o p u aa v m ab ac n ad h aq ar)=Di (λg k ae af ag ah ai aj ak al am an ao ap=>So (t27 f b a g k ae af ag ah ai aj ak al am an ao ap)) f b a g w k y o p u aa v m ab ac n ad h q aq ar:=
 ind (λ_ _=>by kernel_rfl) λq ih aq ar=>Eq.trans (b:=Hc (Ej (λg k ae af ag ah ai aj ak al am an ao ap=>So (t27 f b a g k ae af ag ah ai aj ak al am an ao ap)) f b a) (λaq ar=>(z44 So q) (t44 f b a g w k y o p u aa v m ab ac n ad h aq ar)) f b a g w k y o p u aa v m ab ac n ad h aq ar) F3 (by simp only[ih]<;>rfl)
theorem e44(So:K_)(f:LB)(b:LI)(a:Bool):x44 So f b a=Kx (λg k ae af ag ah ai aj ak al am an ao ap=>So (t27 f b a g k ae af ag ah ai aj ak al am an ao ap)) f b a:=by funext g w k y o p u aa v m ab ac n ad h aq ar;exact Eq.trans F3 ((i44 So f b a g w k y o p u aa v m ab ac n ad h Ds aq ar).trans (by rw[Bg];rfl))
theorem i27(f:LB)(b:LI)(a:Bool):∀(q:Nat) (g k:Int) (ae:LB) (af ag ah ai aj ak:Int) (al:LB) (am:Bool) (an:Int) (ao:LB) (ap:LI),z27 q (t27 f b a g k ae af ag ah ai aj ak al am an ao ap)=Ci f b a q g k ae af ag ah ai aj ak al am an ao ap:=
 ind (λ_ _ _ _ _ _ _ _ _ _ _ _ _ _=>by kernel_rfl) λq ih g k ae af ag ah ai aj ak al am an ao ap=>Eq.trans (b:=Hb (Kz (Lb (x44 (z27 q) f b a) f b a) f b a) Lc f b a g k ae af ag ah ai aj ak al am an ao ap) F3 (by simp only[e44,ih]<;>rfl)
def k:Kc P_ gl:=⟨(5,⟨H.p,H.r,u3 Kh⟩),co H func5 (λx=>Eq.trans (b:=u3 (Lu (Kw (λf b a g k ae af ag ah ai aj ak al am an ao ap=>z27 Ds (t27 f b a g k ae af ag ah ai aj ak al am an ao ap)))) x) F3 (by simp only[i27,Bg]<;>rfl))⟩
end F5
end
end Go.Proofs.YtheamkpclkijmaaGreatDoor
